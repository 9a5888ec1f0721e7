import Derived.Test.YtakllkkmofdpaaaGreatDoorU40
import Derived.Test.YtakllkkmofdpaaaGreatDoorU43
set_option linter.unusedVariables false
set_option linter.unusedSimpArgs false
namespace Go.Proofs.YtakllkkmofdpaaaGreatDoor
section
namespace Ech
variable {M : List Fn} {piv : List Nat} {n : Nat}
end Ech
theorem rank_step {n : Nat} {MA MB : List Fn} {pa pb : List Nat} (EA : Ech MA pa n) (EB : Ech MB pb n) (v : Fn) (h : ∀ x, Ker n MA x → dotn n v x = 0 → Ker n MB x) : pb.length ≤ pa.length + 1 := by
 refine Nat.le_of_not_lt fun hlt => ?_
 have h1 := EA.basis_len
 have h2 := EB.free_len
 obtain ⟨c, ⟨i, hi, hci⟩, hv, hz⟩ := EB.dim (Ech.basis MA pa n) [v] (by simp; omega)
 have hk := h _ (comb_ker c EA.basis_ker) (hv v (by simp))
 have h0 := EB.ker_zero hk hz
 have hil : i < (Ech.free pa n).length := by unfold Ech.basis at hi; rwa [List.length_map] at hi
 have hj : (Ech.free pa n)[i]? = some _ := List.getElem?_eq_getElem hil
 have := EA.comb_basis c hj
 rw [h0 _ (Ech.mem_free.1 (List.mem_of_getElem? hj)).1] at this
 exact hci this.symm
end
section
theorem rk_rows {n : Nat} {M : List (List Rat)} (h : Wid n M) : rankR M ≤ M.length := by
 obtain ⟨E, piv, h1, h2, _, h4⟩ := rk_ech h
 rw [← h2, ← h4]; exact h1.le
theorem rk_cols {n : Nat} {M : List (List Rat)} (h : Wid n M) : rankR M ≤ n := by
 obtain ⟨E, piv, h1, h2, _, _⟩ := rk_ech h
 have := h1.free_len
 omega
theorem rk_step {n : Nat} {A B : List (List Rat)} (hA : Wid n A) (hB : Wid n B) (v : Fn) (h : ∀ x, Ker n (vfs A) x → dotn n v x = 0 → Ker n (vfs B) x) : rankR B ≤ rankR A + 1 := by
 obtain ⟨E, pe, h1, h2, h3, _⟩ := rk_ech hA
 obtain ⟨F, pf, g1, g2, g3, _⟩ := rk_ech hB
 rw [← h2, ← g2]
 exact rank_step h1 g1 v fun x hx hv => (g3 x).2 (h x ((h3 x).1 hx) hv)
theorem rk_more {n : Nat} {M : List (List Rat)} {a : List Rat} (h : Wid n M) (ha : a.length = n) : rankR (M ++ [a]) = rankR M ∨ rankR (M ++ [a]) = rankR M + 1 := by
 have h1 := rk_mono h (wid_app h (wid_one ha)) fun x hx => (ker_app.1 hx).1
 have h2 := rk_step h (wid_app h (wid_one ha)) (vf a) fun x hx hv => ker_app.2 ⟨hx, ker_one.2 hv⟩
 omega
end
section
open Go.ChangeShapes Go.WideShapes Go.ChangeAt Go.RowKit
theorem rowsR_app {x : Net} {a b : List Mi} : rowsR x (a ++ b) = rowsR x a ++ rowsR x b := by unfold rowsR; rw [List.map_append]
theorem more_law {x : Net} {ms : List Mi} (h : mtCk x ms = 0) : rankR (rowsR x ms) ≤ (freeL x).length ∧ rankR (rowsR x ms) ≤ ms.length ∧ ∀ m, mtCk x (ms ++ [m]) = 0 → (rankR (rowsR x (ms ++ [m])) = rankR (rowsR x ms) ∨ rankR (rowsR x (ms ++ [m])) = rankR (rowsR x ms) + 1) := by
 have hw := rowsR_wid h
 refine ⟨rk_cols hw, by have := rk_rows hw; rwa [rowsR_len] at this, fun m hm => ?_⟩
 rw [rowsR_app]
 exact rk_more hw rowR_len
end
section
open Go.ChangeShapes Go.WideShapes Go.ChangeAt Go.RowKit Go.Joins
attribute [local go_sem ↓] execOp_call_val
attribute [local go_sem] callVal_func setCell_drewN alloc_drewN sEq_walk
theorem ownMi_lit0 {w : World} : OwnMi (w.alloc (.cells #[] 57)) w.heap.size (.slice (some ⟨w.heap.size, 0, none⟩) 0 0) [] := own_nil w _ _
section
variable {o : Oper} {a : Act} {w : World} {Q : Exit → Act → World → Prop}
end
end
end Go.Proofs.YtakllkkmofdpaaaGreatDoor
