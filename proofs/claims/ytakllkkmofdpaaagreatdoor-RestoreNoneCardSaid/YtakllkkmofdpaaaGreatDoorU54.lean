import Derived.Test.YtakllkkmofdpaaaGreatDoorU50
set_option linter.unusedVariables false
set_option linter.unusedSimpArgs false
namespace Go.Proofs.YtakllkkmofdpaaaGreatDoor
section
theorem addR_wid {n : Nat} : ∀ (p rows : List (List Rat)) (i : Nat), Wid n rows → Wid n p → Wid n (addR rows p i).1
 | [], rows, i, h, _ => h
 | a :: r, rows, i, h, hp => by
  have ha := hp a (List.mem_cons_self ..)
  have hr : Wid n r := fun b hb => hp b (List.mem_cons_of_mem _ hb)
  unfold addR
  split
  ·exact addR_wid r _ _ (wid_app h (wid_one ha)) hr
  ·exact addR_wid r _ _ h hr
end
end Go.Proofs.YtakllkkmofdpaaaGreatDoor
