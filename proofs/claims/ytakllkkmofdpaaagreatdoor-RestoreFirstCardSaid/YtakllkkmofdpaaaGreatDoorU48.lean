import Derived.Test.YtakllkkmofdpaaaGreatDoorU44
import Derived.Test.YtakllkkmofdpaaaGreatDoorU45
set_option linter.unusedVariables false
set_option linter.unusedSimpArgs false
namespace Go.Proofs.YtakllkkmofdpaaaGreatDoor
section
theorem rk_same {n : Nat} {A B : List (List Rat)} (hA : Wid n A) (hB : Wid n B) (h : ∀ x, Ker n (vfs A) x ↔ Ker n (vfs B) x) : rankR A = rankR B :=
 Nat.le_antisymm (rk_mono hA hB fun x => (h x).2) (rk_mono hB hA fun x => (h x).1)
end
end Go.Proofs.YtakllkkmofdpaaaGreatDoor
