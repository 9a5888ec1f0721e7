/- A region whose last operation waits for all others: operations that are not wanted. -/
import Derived.Test.YtaanoljfhnfjoaaGreatDoorRL
namespace Go.Proofs.YtaanoljfhnfjoaaGreatDoor
open Go
set_option linter.unusedVariables false
section
variable {P : Program} {Q : Exit → Act → World → Prop} {md : Region.Mode}
/-- an operation that is not wanted is passed over first -/
theorem skipH {L : List Oper} {S : World → Prop} (i : Nat) {oi : Oper} {fuel : Nat} {listed : Array Bool} {a : Act} {w : World} (hi : L[i]? = some oi) (hB : takeB md L.toArray listed i = true)
    (hQ : ∀ c a w, Q (.panic c) (a.put oi.dst undef) w → Q (.panic c) a w) (hw : Region.wanted oi (yielded L.toArray a.tmps) = false) (hS : S w)
    (h : wpAnyH P md L.toArray Q S fuel (listed.setIfInBounds i true) (a.put oi.dst undef) w) : wpAnyH P md L.toArray Q S (fuel + 1) listed a w := by
  unfold takeB at hB
  rw [Bool.and_eq_true, Bool.and_eq_true] at hB
  exact wpAnyH_take (by rw [List.getElem?_toArray]; exact hi) hB.1.1 hB.1.2 hB.2 hQ (.inr ⟨hw, rfl⟩) hS h
end
end Go.Proofs.YtaanoljfhnfjoaaGreatDoor
