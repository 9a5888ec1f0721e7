/- IndexFunc over the devices of a network. -/
import Derived.Test.YthedpegaelpbdaaV1
namespace Go.Proofs.Ythedpegaelpbdaa
open Go.ChangeShapes Go.WideShapes Go.ChangeAt Go.RowKit Go.Joins Go.Deep
set_option linter.unusedVariables false
attribute [local go_sem ↓] execOp_call_val
attribute [local go_sem] callVal_func setCell_drewN alloc_drewN sEq_walk


set_option maxHeartbeats 1000000 in
theorem indexFuncSw (F : FuncId) (cap : Array Value) (A : Option Addr) (n c : Nat) (zs : List Sw) (p : Sw → Bool) (I : World → Prop)
    (hF : ∀ (args : Array Value) (w : World), (callFunc F args).run Try.prog w = .ok (.enter F args) w)
    (hI : ∀ w', I w' → RdSw w' w'.heap.size A n zs)
    (hf : ∀ (z : Sw) (w' : World), z ∈ zs → I w' → Calls Try.prog F (#[.agg #[.string z.name, .string z.a, .string z.b, .bool z.breaker, .bool z.opn]] ++ cap) w' fun e w'' => e = .returned (.bool (p z)) ∧ I w'')
    (hn : n ≤ 9223372036854775807) (w : World) (hw : I w) :
    Calls Try.prog 41 #[.slice A n c, .func (.func F) #[] cap] w fun e w' => e = .returned (.int .i64 (idxGo p zs 0)) ∧ I w' := by
  have HF := Lib.hid hf
  have HII := Lib.hid hI
  have HI := Lib.hid hw
  have hlen := Lib.hid (hI w hw).1
  clear hf hw hI
  go_enter Try.func41, Try.ntmps41
  go_wp2_with fail
  go_loopw [5, 8] (fun _ i wr => ∃ k : Nat, k ≤ n ∧ i = .int .i64 k ∧ I wr ∧ idxGo p zs 0 = idxGo p (zs.drop k) k) (fun _ i _ => n - (intOf i).toNat)
  case atStart => exact ⟨0, by omega, rfl, HI.out, rfl⟩
  case round =>
    obtain ⟨k, hk, rfl, hIw, hidx⟩ := hrel
    have hrd := HII.out wr hIw
    have HIW := Lib.hid hIw
    have HIDX := Lib.hid hidx
    clear hIw hidx
    by_cases hlt : k < n
    · obtain ⟨z, hz⟩ : ∃ z, zs[k]? = some z := ⟨_, List.getElem?_eq_getElem (by have := hlen.out; omega)⟩
      have HM := Lib.hid (List.mem_of_getElem? hz)
      obtain ⟨b, off, rfl, hblt⟩ := hrd.form (by omega)
      obtain ⟨c0, c1, c2, c3, c4⟩ := hrd.at_ hz
      have HZ := Lib.hid (drop_cons hz)
      clear hz
      go_wp2_with fail
      refine (HF.out z wr HM.out HIW.out).mono ?_
      cases hp : p z with
      | true =>
        rintro e w1 ⟨rfl, hI1⟩
        have HI1 := Lib.hid hI1
        have HP := Lib.hid hp
        clear hI1 hp
        go_wp2_with fail
        go_ret
        exact ⟨ret_int (by rw [HIDX.out, HZ.out]; simp [idxGo, HP.out]), HI1.out⟩
      | false =>
        rintro e w1 ⟨rfl, hI1⟩
        have HI1 := Lib.hid hI1
        have HP := Lib.hid hp
        clear hI1 hp
        go_wp2_with fail
        go_roundw
        case rel => exact ⟨k + 1, by omega, by go_num, HI1.out, by rw [HIDX.out, HZ.out]; simp [idxGo, HP.out]⟩
        case measure => simp [intOf]; omega
    · have hd : zs.drop k = [] := by rw [List.drop_eq_nil_iff]; have := hlen.out; omega
      have HD := Lib.hid hd
      clear hd hrd
      go_wp2_with fail
      go_ret
      exact ⟨ret_int (by rw [HIDX.out, HD.out]; rfl), HIW.out⟩

set_option maxHeartbeats 1000000 in
theorem indexFuncGn (F : FuncId) (cap : Array Value) (A : Option Addr) (n c : Nat) (zs : List Gn) (p : Gn → Bool) (I : World → Prop)
    (hF : ∀ (args : Array Value) (w : World), (callFunc F args).run Try.prog w = .ok (.enter F args) w)
    (hI : ∀ w', I w' → RdGn w' w'.heap.size A n zs)
    (hf : ∀ (z : Gn) (w' : World), z ∈ zs → I w' → Calls Try.prog F (#[.agg #[.string z.name, .string z.node, .int .i64 z.least, .int .i64 z.most, .int .i64 z.ramp]] ++ cap) w' fun e w'' => e = .returned (.bool (p z)) ∧ I w'')
    (hn : n ≤ 9223372036854775807) (w : World) (hw : I w) :
    Calls Try.prog 106 #[.slice A n c, .func (.func F) #[] cap] w fun e w' => e = .returned (.int .i64 (idxGo p zs 0)) ∧ I w' := by
  have HF := Lib.hid hf
  have HII := Lib.hid hI
  have HI := Lib.hid hw
  have hlen := Lib.hid (hI w hw).1
  clear hf hw hI
  go_enter Try.func106, Try.ntmps106
  go_wp2_with fail
  go_loopw [5, 8] (fun _ i wr => ∃ k : Nat, k ≤ n ∧ i = .int .i64 k ∧ I wr ∧ idxGo p zs 0 = idxGo p (zs.drop k) k) (fun _ i _ => n - (intOf i).toNat)
  case atStart => exact ⟨0, by omega, rfl, HI.out, rfl⟩
  case round =>
    obtain ⟨k, hk, rfl, hIw, hidx⟩ := hrel
    have hrd := HII.out wr hIw
    have HIW := Lib.hid hIw
    have HIDX := Lib.hid hidx
    clear hIw hidx
    by_cases hlt : k < n
    · obtain ⟨z, hz⟩ : ∃ z, zs[k]? = some z := ⟨_, List.getElem?_eq_getElem (by have := hlen.out; omega)⟩
      have HM := Lib.hid (List.mem_of_getElem? hz)
      obtain ⟨b, off, rfl, hblt⟩ := hrd.form (by omega)
      obtain ⟨c0, c1, c2, c3, c4⟩ := hrd.at_ hz
      have HZ := Lib.hid (drop_cons hz)
      clear hz
      go_wp2_with fail
      refine (HF.out z wr HM.out HIW.out).mono ?_
      cases hp : p z with
      | true =>
        rintro e w1 ⟨rfl, hI1⟩
        have HI1 := Lib.hid hI1
        have HP := Lib.hid hp
        clear hI1 hp
        go_wp2_with fail
        go_ret
        exact ⟨ret_int (by rw [HIDX.out, HZ.out]; simp [idxGo, HP.out]), HI1.out⟩
      | false =>
        rintro e w1 ⟨rfl, hI1⟩
        have HI1 := Lib.hid hI1
        have HP := Lib.hid hp
        clear hI1 hp
        go_wp2_with fail
        go_roundw
        case rel => exact ⟨k + 1, by omega, by go_num, HI1.out, by rw [HIDX.out, HZ.out]; simp [idxGo, HP.out]⟩
        case measure => simp [intOf]; omega
    · have hd : zs.drop k = [] := by rw [List.drop_eq_nil_iff]; have := hlen.out; omega
      have HD := Lib.hid hd
      clear hd hrd
      go_wp2_with fail
      go_ret
      exact ⟨ret_int (by rw [HIDX.out, HD.out]; rfl), HIW.out⟩

set_option maxHeartbeats 1000000 in
theorem indexFuncLd (F : FuncId) (cap : Array Value) (A : Option Addr) (n c : Nat) (zs : List Ld) (p : Ld → Bool) (I : World → Prop)
    (hF : ∀ (args : Array Value) (w : World), (callFunc F args).run Try.prog w = .ok (.enter F args) w)
    (hI : ∀ w', I w' → RdLd w' w'.heap.size A n zs)
    (hf : ∀ (z : Ld) (w' : World), z ∈ zs → I w' → Calls Try.prog F (#[.agg #[.string z.name, .string z.node, .int .i64 z.demand]] ++ cap) w' fun e w'' => e = .returned (.bool (p z)) ∧ I w'')
    (hn : n ≤ 9223372036854775807) (w : World) (hw : I w) :
    Calls Try.prog 108 #[.slice A n c, .func (.func F) #[] cap] w fun e w' => e = .returned (.int .i64 (idxGo p zs 0)) ∧ I w' := by
  have HF := Lib.hid hf
  have HII := Lib.hid hI
  have HI := Lib.hid hw
  have hlen := Lib.hid (hI w hw).1
  clear hf hw hI
  go_enter Try.func108, Try.ntmps108
  go_wp2_with fail
  go_loopw [5, 8] (fun _ i wr => ∃ k : Nat, k ≤ n ∧ i = .int .i64 k ∧ I wr ∧ idxGo p zs 0 = idxGo p (zs.drop k) k) (fun _ i _ => n - (intOf i).toNat)
  case atStart => exact ⟨0, by omega, rfl, HI.out, rfl⟩
  case round =>
    obtain ⟨k, hk, rfl, hIw, hidx⟩ := hrel
    have hrd := HII.out wr hIw
    have HIW := Lib.hid hIw
    have HIDX := Lib.hid hidx
    clear hIw hidx
    by_cases hlt : k < n
    · obtain ⟨z, hz⟩ : ∃ z, zs[k]? = some z := ⟨_, List.getElem?_eq_getElem (by have := hlen.out; omega)⟩
      have HM := Lib.hid (List.mem_of_getElem? hz)
      obtain ⟨b, off, rfl, hblt⟩ := hrd.form (by omega)
      obtain ⟨c0, c1, c2⟩ := hrd.at_ hz
      have HZ := Lib.hid (drop_cons hz)
      clear hz
      go_wp2_with fail
      refine (HF.out z wr HM.out HIW.out).mono ?_
      cases hp : p z with
      | true =>
        rintro e w1 ⟨rfl, hI1⟩
        have HI1 := Lib.hid hI1
        have HP := Lib.hid hp
        clear hI1 hp
        go_wp2_with fail
        go_ret
        exact ⟨ret_int (by rw [HIDX.out, HZ.out]; simp [idxGo, HP.out]), HI1.out⟩
      | false =>
        rintro e w1 ⟨rfl, hI1⟩
        have HI1 := Lib.hid hI1
        have HP := Lib.hid hp
        clear hI1 hp
        go_wp2_with fail
        go_roundw
        case rel => exact ⟨k + 1, by omega, by go_num, HI1.out, by rw [HIDX.out, HZ.out]; simp [idxGo, HP.out]⟩
        case measure => simp [intOf]; omega
    · have hd : zs.drop k = [] := by rw [List.drop_eq_nil_iff]; have := hlen.out; omega
      have HD := Lib.hid hd
      clear hd hrd
      go_wp2_with fail
      go_ret
      exact ⟨ret_int (by rw [HIDX.out, HD.out]; rfl), HIW.out⟩

set_option maxHeartbeats 1000000 in
theorem indexFuncSt (F : FuncId) (cap : Array Value) (A : Option Addr) (n c : Nat) (zs : List St) (p : St → Bool) (I : World → Prop)
    (hF : ∀ (args : Array Value) (w : World), (callFunc F args).run Try.prog w = .ok (.enter F args) w)
    (hI : ∀ w', I w' → RdSt w' w'.heap.size A n zs)
    (hf : ∀ (z : St) (w' : World), z ∈ zs → I w' → Calls Try.prog F (#[.agg #[.string z.name, .string z.node, .int .i64 z.charge, .int .i64 z.discharge, .int .i64 z.capacity]] ++ cap) w' fun e w'' => e = .returned (.bool (p z)) ∧ I w'')
    (hn : n ≤ 9223372036854775807) (w : World) (hw : I w) :
    Calls Try.prog 110 #[.slice A n c, .func (.func F) #[] cap] w fun e w' => e = .returned (.int .i64 (idxGo p zs 0)) ∧ I w' := by
  have HF := Lib.hid hf
  have HII := Lib.hid hI
  have HI := Lib.hid hw
  have hlen := Lib.hid (hI w hw).1
  clear hf hw hI
  go_enter Try.func110, Try.ntmps110
  go_wp2_with fail
  go_loopw [5, 8] (fun _ i wr => ∃ k : Nat, k ≤ n ∧ i = .int .i64 k ∧ I wr ∧ idxGo p zs 0 = idxGo p (zs.drop k) k) (fun _ i _ => n - (intOf i).toNat)
  case atStart => exact ⟨0, by omega, rfl, HI.out, rfl⟩
  case round =>
    obtain ⟨k, hk, rfl, hIw, hidx⟩ := hrel
    have hrd := HII.out wr hIw
    have HIW := Lib.hid hIw
    have HIDX := Lib.hid hidx
    clear hIw hidx
    by_cases hlt : k < n
    · obtain ⟨z, hz⟩ : ∃ z, zs[k]? = some z := ⟨_, List.getElem?_eq_getElem (by have := hlen.out; omega)⟩
      have HM := Lib.hid (List.mem_of_getElem? hz)
      obtain ⟨b, off, rfl, hblt⟩ := hrd.form (by omega)
      obtain ⟨c0, c1, c2, c3, c4⟩ := hrd.at_ hz
      have HZ := Lib.hid (drop_cons hz)
      clear hz
      go_wp2_with fail
      refine (HF.out z wr HM.out HIW.out).mono ?_
      cases hp : p z with
      | true =>
        rintro e w1 ⟨rfl, hI1⟩
        have HI1 := Lib.hid hI1
        have HP := Lib.hid hp
        clear hI1 hp
        go_wp2_with fail
        go_ret
        exact ⟨ret_int (by rw [HIDX.out, HZ.out]; simp [idxGo, HP.out]), HI1.out⟩
      | false =>
        rintro e w1 ⟨rfl, hI1⟩
        have HI1 := Lib.hid hI1
        have HP := Lib.hid hp
        clear hI1 hp
        go_wp2_with fail
        go_roundw
        case rel => exact ⟨k + 1, by omega, by go_num, HI1.out, by rw [HIDX.out, HZ.out]; simp [idxGo, HP.out]⟩
        case measure => simp [intOf]; omega
    · have hd : zs.drop k = [] := by rw [List.drop_eq_nil_iff]; have := hlen.out; omega
      have HD := Lib.hid hd
      clear hd hrd
      go_wp2_with fail
      go_ret
      exact ⟨ret_int (by rw [HIDX.out, HD.out]; rfl), HIW.out⟩
end Go.Proofs.Ythedpegaelpbdaa
