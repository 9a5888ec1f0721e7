/- sort.Search with a predicate that a function value computes. -/
import Derived.Test.YthedpegaelpbdaaB0
namespace Go.Proofs.Ythedpegaelpbdaa
open Go.ChangeShapes Go.WideShapes Go.ChangeAt Go.RowKit
set_option linter.unusedVariables false
attribute [local go_sem ↓] execOp_call_val
attribute [local go_sem] callVal_func setCell_drewN alloc_drewN

/-- what sort.Search answers -/
structure FoundS (p : Nat → Bool) (N k : Nat) : Prop where
  le : k ≤ N
  lo : 0 < k → p (k - 1) = false
  hi : k < N → p k = true

set_option maxHeartbeats 1000000 in
theorem ssearch_any (F : FuncId) (cap : Array Value) (N : Nat) (p : Nat → Bool) (I : World → Prop)
    (hF : ∀ (args : Array Value) (w : World), (callFunc F args).run Try.prog w = .ok (.enter F args) w)
    (hf : ∀ (i : Nat) (w' : World), i < N → I w' → Calls Try.prog F (#[.int .i64 i] ++ cap) w' fun e w'' => e = .returned (.bool (p i)) ∧ I w'')
    (hN : N ≤ 4000000000) (w : World) (hw : I w) :
    Calls Try.prog 59 #[.int .i64 N, .func (.func F) #[] cap] w fun e w' => ∃ k : Nat, e = .returned (.int .i64 k) ∧ FoundS p N k ∧ I w' := by
  have HF := Lib.hid hf
  have HI := Lib.hid hw
  clear hf hw
  go_enter Try.func59, Try.ntmps59
  go_wp2
  go_loopw [5, 6, 7] (fun i j _ wr => ∃ a b : Nat, i = .int .i64 a ∧ j = .int .i64 b ∧ a ≤ b ∧ b ≤ N ∧ (0 < a → p (a - 1) = false) ∧ (b < N → p b = true) ∧ I wr) (fun i j _ _ => (intOf j).toNat - (intOf i).toNat)
  case atStart => exact ⟨0, N, rfl, rfl, by omega, by omega, by omega, by omega, HI.out⟩
  case round =>
    obtain ⟨a, b, rfl, rfl, hab, hbN, hlo, hhi, hI⟩ := hrel
    have HI2 := Lib.hid hI
    have HLO := Lib.hid hlo
    have HHI := Lib.hid hhi
    clear hI hlo hhi
    by_cases hlt : a < b
    · go_wp2_with fail
      have hm : ((a : Int) + (b : Int)) / 2 = (((a + b) / 2 : Nat) : Int) := by omega
      rw [hm]
      refine (HF.out _ _ (by omega) HI2.out).mono ?_
      cases hp : p ((a + b) / 2) with
      | true =>
        rintro e w1 ⟨rfl, hI1⟩
        have HI1 := Lib.hid hI1
        have HP := Lib.hid hp
        have HM := Lib.hid hm
        clear hI1 hp hm
        go_wp2_with fail
        go_roundw
        case rel => exact ⟨a, (a + b) / 2, rfl, rfl, by omega, by omega, HLO.out, fun _ => HP.out, HI1.out⟩
        case measure => simp [intOf]; omega
      | false =>
        rintro e w1 ⟨rfl, hI1⟩
        have HI1 := Lib.hid hI1
        have HP := Lib.hid hp
        have HM := Lib.hid hm
        clear hI1 hp hm
        go_wp2_with fail
        go_roundw
        case rel => exact ⟨(a + b) / 2 + 1, b, by go_num, rfl, by omega, by omega, fun _ => by rw [Nat.add_sub_cancel]; exact HP.out, HHI.out, HI1.out⟩
        case measure => simp [intOf]; omega
    · have hE : a = b := by omega
      subst hE
      go_wp2_with fail
      go_ret
      exact ⟨a, rfl, ⟨hbN, HLO.out, HHI.out⟩, HI2.out⟩

end Go.Proofs.Ythedpegaelpbdaa
