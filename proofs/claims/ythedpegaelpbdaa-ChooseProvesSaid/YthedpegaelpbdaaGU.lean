/- SameTexts of two lists that are the same. -/
import Derived.Test.YthedpegaelpbdaaN2
import Derived.Deep.QuietTactic
import Derived.BigQuiet
namespace Go.Proofs.Ythedpegaelpbdaa
open Go.ChangeShapes Go.WideShapes Go.ChangeAt Go.RowKit
set_option linter.unusedVariables false
attribute [local go_sem ↓] execOp_call_val
attribute [local go_sem] callVal_func setCell_drewN alloc_drewN sEq_walk

set_option maxHeartbeats 1000000 in
theorem sameTexts_yes (A : Option Addr) (n c : Nat) (a : List ByteArray) (B : Option Addr) (d : Nat) (w : World) (ha : RdStr w w.heap.size A n a) (hb : RdStr w w.heap.size B n a) (hn : n ≤ 9223372036854775807) :
    Calls Try.prog 35 #[.slice A n c, .slice B n d] w fun e w' => e = .returned (.bool true) ∧ ∃ nq, w' = w.drewN nq := by
  have hla := Lib.hid ha.1
  have HA := Lib.hid ha
  have HB := Lib.hid hb
  clear ha hb
  go_enter Try.func35, Try.ntmps35
  go_wp2_with fail
  go_loopw [5, 13] (fun _ i wr => ∃ k nq : Nat, k ≤ n ∧ i = .int .i64 k ∧ wr = w.drewN nq) (fun _ i _ => n - (intOf i).toNat)
  case atStart => exact ⟨0, 0, by omega, rfl, rfl⟩
  case round =>
    obtain ⟨k, nq, hk, rfl, rfl⟩ := hrel
    by_cases hlt : k < n
    · obtain ⟨x, hx⟩ : ∃ x, a[k]? = some x := ⟨_, List.getElem?_eq_getElem (by have := hla.out; omega)⟩
      obtain ⟨ba, oa, rfl, hablt⟩ := HA.out.form (by omega)
      obtain ⟨bb, ob, rfl, hbblt⟩ := HB.out.form (by omega)
      have hca := HA.out.at_ hx
      have hcb := HB.out.at_ hx
      have hltI : (k : Int) < (n : Int) := by omega
      have hkI : (0 : Int) ≤ (k : Int) := by omega
      have hp : sEq x x = true := sEq_iff.2 rfl
      clear hx
      go_wp2_with fail
      go_quiet (fail)
      go_wp2_with fail
      go_roundw
      case rel => exact ⟨k + 1, _, by omega, by go_num, rfl⟩
      case measure => simp [intOf]; omega
    · go_wp2_with fail
      go_ret
      exact ⟨rfl, _, rfl⟩
end Go.Proofs.Ythedpegaelpbdaa
