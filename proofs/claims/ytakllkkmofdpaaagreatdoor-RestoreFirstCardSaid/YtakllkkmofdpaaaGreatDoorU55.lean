import Derived.Test.YtakllkkmofdpaaaGreatDoorU46
import Derived.Test.YtakllkkmofdpaaaGreatDoorU50
set_option linter.unusedVariables false
set_option linter.unusedSimpArgs false
namespace Go.Proofs.YtakllkkmofdpaaaGreatDoor
section
open Go.ChangeShapes Go.WideShapes Go.ChangeAt Go.RowKit
attribute [local go_sem ↓] execOp_call_val
attribute [local go_sem] callVal_func setCell_drewN alloc_drewN sEq_walk
theorem adE_parts {x : Net} {l p : List Mi} (h : adE x l p = 0) : mtCk x l = 0 ∧ mtCk x p = 0 ∧ (freeL x).length ≤ rankR (adR x l p).1 := by
 unfold adE at h
 split at h
 ·exact absurd h (by assumption)
 ·rename_i h1
  split at h
  ·exact absurd h (by assumption)
  ·rename_i h2
   split at h
   ·omega
   ·exact ⟨by omega, by omega, by omega⟩
end
end Go.Proofs.YtakllkkmofdpaaaGreatDoor
