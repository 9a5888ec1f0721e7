/- Slices of integers: IndexFunc, ContainsFunc. -/
import Derived.Test.YtaanoljfhnfjoaaGreatDoorI0
namespace Go.Proofs.YtaanoljfhnfjoaaGreatDoor
open Go.ChangeShapes Go.WideShapes Go.ChangeAt Go.RowKit
set_option linter.unusedVariables false
attribute [local go_sem ↓] execOp_call_val
attribute [local go_sem] callVal_func setCell_drewN alloc_drewN

set_option maxHeartbeats 1000000 in
theorem indexFuncI (F : FuncId) (cap : Array Value) (A : Option Addr) (n c : Nat) (zs : List Int) (p : Int → Bool) (I : World → Prop)
    (hF : ∀ (args : Array Value) (w : World), (callFunc F args).run Tryz.prog w = .ok (.enter F args) w)
    (hI : ∀ w', I w' → RdI w' w'.heap.size A n zs)
    (hf : ∀ (z : Int) (w' : World), I w' → Calls Tryz.prog F (#[.int .i64 z] ++ cap) w' fun e w'' => e = .returned (.bool (p z)) ∧ I w'')
    (hn : n ≤ 9223372036854775807) (w : World) (hw : I w) :
    Calls Tryz.prog 58 #[.slice A n c, .func (.func F) #[] cap] w fun e w' => e = .returned (.int .i64 (idxGo p zs 0)) ∧ I w' := by
  have HF := Lib.hid hf
  have HII := Lib.hid hI
  have HI := Lib.hid hw
  have hlen := Lib.hid (hI w hw).len
  clear hf hw hI
  go_enter Tryz.func58, Tryz.ntmps58
  go_wp2_with fail
  go_loopw [5, 8] (fun _ i wr => ∃ k : Nat, k ≤ n ∧ i = .int .i64 k ∧ I wr ∧ idxGo p zs 0 = idxGo p (zs.drop k) k) (fun _ i _ => n - (intOf i).toNat)
  case atStart => exact ⟨0, by omega, rfl, HI.out, rfl⟩
  case round =>
    obtain ⟨k, hk, rfl, hIw, hidx⟩ := hrel
    have hrd := HII.out wr hIw
    have HIW := Lib.hid hIw
    have HIDX := Lib.hid hidx
    clear hIw hidx
    by_cases hlt : k < n
    · obtain ⟨z, hz⟩ : ∃ z, zs[k]? = some z := ⟨_, List.getElem?_eq_getElem (by have := hlen.out; omega)⟩
      obtain ⟨b, off, rfl, hblt, _⟩ := hrd.2 (by omega)
      have hcell := hrd.at_ hz
      have HZ := Lib.hid (drop_cons hz)
      clear hz
      go_wp2_with fail
      refine (HF.out z wr HIW.out).mono ?_
      cases hp : p z with
      | true =>
        rintro e w1 ⟨rfl, hI1⟩
        have HI1 := Lib.hid hI1
        have HP := Lib.hid hp
        clear hI1 hp
        go_wp2_with fail
        go_ret
        exact ⟨ret_int (by rw [HIDX.out, HZ.out]; simp [idxGo, HP.out]), HI1.out⟩
      | false =>
        rintro e w1 ⟨rfl, hI1⟩
        have HI1 := Lib.hid hI1
        have HP := Lib.hid hp
        clear hI1 hp
        go_wp2_with fail
        go_roundw
        case rel => exact ⟨k + 1, by omega, by go_num, HI1.out, by rw [HIDX.out, HZ.out]; simp [idxGo, HP.out]⟩
        case measure => simp [intOf]; omega
    · have hd : zs.drop k = [] := by rw [List.drop_eq_nil_iff]; have := hlen.out; omega
      have HD := Lib.hid hd
      clear hd hrd
      go_wp2_with fail
      go_ret
      exact ⟨ret_int (by rw [HIDX.out, HD.out]; rfl), HIW.out⟩

theorem containsFuncI (F : FuncId) (cap : Array Value) (A : Option Addr) (n c : Nat) (zs : List Int) (p : Int → Bool) (I : World → Prop)
    (hF : ∀ (args : Array Value) (w : World), (callFunc F args).run Tryz.prog w = .ok (.enter F args) w)
    (hI : ∀ w', I w' → RdI w' w'.heap.size A n zs)
    (hf : ∀ (z : Int) (w' : World), I w' → Calls Tryz.prog F (#[.int .i64 z] ++ cap) w' fun e w'' => e = .returned (.bool (p z)) ∧ I w'')
    (hn : n ≤ 9223372036854775807) (w : World) (hw : I w) :
    Calls Tryz.prog 43 #[.slice A n c, .func (.func F) #[] cap] w fun e w' => e = .returned (.bool (zs.any p)) ∧ I w' := by
  have HF := Lib.hid hf
  have HII := Lib.hid hI
  have HI := Lib.hid hw
  have HA := Lib.hid (idxGo_any p zs 0)
  clear hf hw hI
  go_enter Tryz.func43, Tryz.ntmps43
  go_wp2_with fail
  refine (indexFuncI F cap A n c zs p I hF HII.out HF.out hn _ HI.out).mono ?_
  rintro e w1 ⟨rfl, hI1⟩
  have HI1 := Lib.hid hI1
  clear hI1
  go_wp2_with fail
  go_ret
  exact ⟨ret_bool HA.out, HI1.out⟩

end Go.Proofs.YtaanoljfhnfjoaaGreatDoor
