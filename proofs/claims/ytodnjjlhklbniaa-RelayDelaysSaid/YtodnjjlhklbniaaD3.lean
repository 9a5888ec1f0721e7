/- Values by their names; closures of package relay. -/
import Derived.Test.YtodnjjlhklbniaaD2
namespace Go.Proofs.Ytodnjjlhklbniaa
open Go.ChangeShapes Go.WideShapes Go.ChangeAt Go.RowKit Go.Joins Go.Deep
set_option linter.unusedVariables false
attribute [local go_sem ↓] execOp_call_val
attribute [local go_sem] callVal_func setCell_drewN alloc_drewN sEq_walk


set_option maxHeartbeats 1000000 in
theorem indexFuncIv (F : FuncId) (cap : Array Value) (A : Option Addr) (n c : Nat) (zs : List Iv) (p : Iv → Bool) (I : World → Prop)
    (hF : ∀ (args : Array Value) (w : World), (callFunc F args).run Try.prog w = .ok (.enter F args) w)
    (hI : ∀ w', I w' → RdIv w' w'.heap.size A n zs)
    (hf : ∀ (z : Iv) (w' : World), z ∈ zs → I w' → Calls Try.prog F (#[.agg #[.string z.name, .int .i64 z.value]] ++ cap) w' fun e w'' => e = .returned (.bool (p z)) ∧ I w'')
    (hn : n ≤ 9223372036854775807) (w : World) (hw : I w) :
    Calls Try.prog 23 #[.slice A n c, .func (.func F) #[] cap] w fun e w' => e = .returned (.int .i64 (idxGo p zs 0)) ∧ I w' := by
  have HF := Lib.hid hf
  have HII := Lib.hid hI
  have HI := Lib.hid hw
  have hlen := Lib.hid (hI w hw).1
  clear hf hw hI
  go_enter Try.func23, Try.ntmps23
  go_wp2_with fail
  go_loopw [5, 8] (fun _ i wr => ∃ k : Nat, k ≤ n ∧ i = .int .i64 k ∧ I wr ∧ idxGo p zs 0 = idxGo p (zs.drop k) k) (fun _ i _ => n - (intOf i).toNat)
  case atStart => exact ⟨0, by omega, rfl, HI.out, rfl⟩
  case round =>
    obtain ⟨k, hk, rfl, hIw, hidx⟩ := hrel
    have hrd := HII.out wr hIw
    have HIW := Lib.hid hIw
    have HIDX := Lib.hid hidx
    clear hIw hidx
    by_cases hlt : k < n
    · obtain ⟨z, hz⟩ : ∃ z, zs[k]? = some z := ⟨_, List.getElem?_eq_getElem (by have := hlen.out; omega)⟩
      have HM := Lib.hid (List.mem_of_getElem? hz)
      obtain ⟨b, off, rfl, hblt⟩ := hrd.form (by omega)
      obtain ⟨c0, c1⟩ := hrd.at_ hz
      have HZ := Lib.hid (drop_cons hz)
      clear hz
      go_wp2_with fail
      refine (HF.out z wr HM.out HIW.out).mono ?_
      cases hp : p z with
      | true =>
        rintro e w1 ⟨rfl, hI1⟩
        have HI1 := Lib.hid hI1
        have HP := Lib.hid hp
        clear hI1 hp
        go_wp2_with fail
        go_ret
        exact ⟨ret_int (by rw [HIDX.out, HZ.out]; simp [idxGo, HP.out]), HI1.out⟩
      | false =>
        rintro e w1 ⟨rfl, hI1⟩
        have HI1 := Lib.hid hI1
        have HP := Lib.hid hp
        clear hI1 hp
        go_wp2_with fail
        go_roundw
        case rel => exact ⟨k + 1, by omega, by go_num, HI1.out, by rw [HIDX.out, HZ.out]; simp [idxGo, HP.out]⟩
        case measure => simp [intOf]; omega
    · have hd : zs.drop k = [] := by rw [List.drop_eq_nil_iff]; have := hlen.out; omega
      have HD := Lib.hid hd
      clear hd hrd
      go_wp2_with fail
      go_ret
      exact ⟨ret_int (by rw [HIDX.out, HD.out]; rfl), HIW.out⟩

theorem containsFuncIv (F : FuncId) (cap : Array Value) (A : Option Addr) (n c : Nat) (zs : List Iv) (p : Iv → Bool) (I : World → Prop)
    (hF : ∀ (args : Array Value) (w : World), (callFunc F args).run Try.prog w = .ok (.enter F args) w)
    (hI : ∀ w', I w' → RdIv w' w'.heap.size A n zs)
    (hf : ∀ (z : Iv) (w' : World), z ∈ zs → I w' → Calls Try.prog F (#[.agg #[.string z.name, .int .i64 z.value]] ++ cap) w' fun e w'' => e = .returned (.bool (p z)) ∧ I w'')
    (hn : n ≤ 9223372036854775807) (w : World) (hw : I w) :
    Calls Try.prog 17 #[.slice A n c, .func (.func F) #[] cap] w fun e w' => e = .returned (.bool (zs.any p)) ∧ I w' := by
  have HF := Lib.hid hf
  have HII := Lib.hid hI
  have HI := Lib.hid hw
  have HA := Lib.hid (idxGo_any p zs 0)
  clear hf hw hI
  go_enter Try.func17, Try.ntmps17
  go_wp2_with fail
  refine (indexFuncIv F cap A n c zs p I hF HII.out HF.out hn _ HI.out).mono ?_
  rintro e w1 ⟨rfl, hI1⟩
  have HI1 := Lib.hid hI1
  clear hI1
  go_wp2_with fail
  go_ret
  exact ⟨ret_bool HA.out, HI1.out⟩

theorem flag1_any (x : Rh) (y : ByteArray) (g : Nat) (w : World) (hg : w.cell? ⟨g, 0, none⟩ = some (.string y)) :
    Calls Try.prog 39 (#[.agg #[.string x.r.name, .slice x.A x.n x.c]] ++ #[.pointer (some ⟨g, 0, none⟩)]) w fun e w' => e = .returned (.bool (sEq x.r.name y)) ∧ Below w.heap.size w w' := by
  have hlt := World.block_lt_of_cell? w ⟨g, 0, none⟩ hg
  show Calls Try.prog 39 #[.agg #[.string x.r.name, .slice x.A x.n x.c], .pointer (some ⟨g, 0, none⟩)] w _
  go_enter Try.func39, Try.ntmps39
  go_wp2_with fail
  go_ret
  exact ⟨rfl, (Below.refl _ _).alloc (Nat.le_refl _) _⟩
theorem enter_flag1 (args : Array Value) (w : World) : (callFunc 39 args).run Try.prog w = .ok (.enter 39 args) w :=
  callFunc_enter Try.func39 (by kernel_rfl) rfl args w

theorem step1_any (x : Iv) (y : ByteArray) (g : Nat) (w : World) (hg : w.cell? ⟨g, 0, none⟩ = some (.string y)) :
    Calls Try.prog 18 (#[.agg #[.string x.name, .int .i64 x.value]] ++ #[.pointer (some ⟨g, 0, none⟩)]) w fun e w' => e = .returned (.bool (sEq x.name y)) ∧ Below w.heap.size w w' := by
  have hlt := World.block_lt_of_cell? w ⟨g, 0, none⟩ hg
  show Calls Try.prog 18 #[.agg #[.string x.name, .int .i64 x.value], .pointer (some ⟨g, 0, none⟩)] w _
  go_enter Try.func18, Try.ntmps18
  go_wp2_with fail
  go_ret
  exact ⟨rfl, (Below.refl _ _).alloc (Nat.le_refl _) _⟩
theorem enter_step1 (args : Array Value) (w : World) : (callFunc 18 args).run Try.prog w = .ok (.enter 18 args) w :=
  callFunc_enter Try.func18 (by kernel_rfl) rfl args w
end Go.Proofs.Ytodnjjlhklbniaa
