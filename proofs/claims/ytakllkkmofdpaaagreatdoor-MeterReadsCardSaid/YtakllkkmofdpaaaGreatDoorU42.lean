import Derived.Test.YtakllkkmofdpaaaGreatDoorU35
set_option linter.unusedVariables false
set_option linter.unusedSimpArgs false
namespace Go.Proofs.YtakllkkmofdpaaaGreatDoor
section
open Go.ChangeShapes Go.WideShapes Go.ChangeAt Go.RowKit
theorem mtCk_parts {x : Net} {ms : List Mi} (h : mtCk x ms = 0) : netCk x = 0 ∧ ms.length ≤ 64 ∧ ∀ m ∈ ms, miCk x m = 0 := by
 unfold mtCk at h
 split at h
 ·exact absurd h (by assumption)
 ·rename_i hn
  split at h
  ·omega
  ·exact ⟨by omega, by omega, misGo_ok h⟩
end
end Go.Proofs.YtakllkkmofdpaaaGreatDoor
