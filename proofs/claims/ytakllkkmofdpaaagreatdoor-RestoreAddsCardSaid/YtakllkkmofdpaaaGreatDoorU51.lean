import Derived.Test.YtakllkkmofdpaaaGreatDoorU45
import Derived.Test.YtakllkkmofdpaaaGreatDoorU46
set_option linter.unusedVariables false
set_option linter.unusedSimpArgs false
namespace Go.Proofs.YtakllkkmofdpaaaGreatDoor
section
open Go.ChangeShapes Go.WideShapes Go.ChangeAt Go.RowKit
theorem cutAtK_erase {α : Type} (l : List α) (k : Nat) : cutAtK l k = l.eraseIdx k := (List.eraseIdx_eq_take_drop_succ l k).symm
theorem crit_mem {M : List (List Rat)} {k : Nat} : k ∈ critR M ↔ k < M.length ∧ rankR (cutAtK M k) < rankR M := by
 unfold critR
 rw [List.mem_filter, List.mem_range, decide_eq_true_eq]
end
end Go.Proofs.YtakllkkmofdpaaaGreatDoor
