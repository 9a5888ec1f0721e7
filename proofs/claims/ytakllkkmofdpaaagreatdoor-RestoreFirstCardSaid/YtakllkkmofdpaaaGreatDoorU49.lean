import Derived.Test.YtakllkkmofdpaaaGreatDoorU41
import Derived.Test.YtakllkkmofdpaaaGreatDoorU45
import Derived.Test.YtakllkkmofdpaaaGreatDoorU46
set_option linter.unusedVariables false
set_option linter.unusedSimpArgs false
namespace Go.Proofs.YtakllkkmofdpaaaGreatDoor
section
open Go.ChangeShapes Go.WideShapes Go.ChangeAt Go.RowKit
attribute [local go_sem ↓] execOp_call_val
attribute [local go_sem] callVal_func setCell_drewN alloc_drewN sEq_walk
theorem any_eq {zs : List Nat} {k : Nat} : (natJ zs).any (fun a => a == (k : Int)) = decide (k ∈ zs) := by
 unfold natJ
 rw [List.any_map]
 by_cases h : k ∈ zs
 ·rw [decide_eq_true h, List.any_eq_true]
  exact ⟨k, h, by simp⟩
 ·rw [decide_eq_false h, List.any_eq_false]
  intro a ha
  simp only [Function.comp, beq_iff_eq]
  intro e
  have : a = k := by omega
  exact h (this ▸ ha)
end
end Go.Proofs.YtakllkkmofdpaaaGreatDoor
