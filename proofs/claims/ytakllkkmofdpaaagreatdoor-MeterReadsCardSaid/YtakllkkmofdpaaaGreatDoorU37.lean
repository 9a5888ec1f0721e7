import Derived.Test.YtakllkkmofdpaaaGreatDoorU32
import Derived.Test.YtakllkkmofdpaaaGreatDoorU35
set_option linter.unusedVariables false
set_option linter.unusedSimpArgs false
namespace Go.Proofs.YtakllkkmofdpaaaGreatDoor
section
open Go.ChangeShapes Go.WideShapes Go.ChangeAt Go.RowKit Go.Joins
attribute [local go_sem ↓] execOp_call_val
attribute [local go_sem] callVal_func setCell_drewN alloc_drewN sEq_walk
def OwnMi (w : World) (base : Nat) (v : Value) (ms : List Mi) : Prop := w.ownsRow base 57 4 v ms.length (ms.flatMap Mi.cells)
theorem OwnMi.keep {w w' : World} {base : Nat} {v : Value} {ms : List Mi} (h : OwnMi w base v ms) (hb : Below w.heap.size w w') : OwnMi w' base v ms := own_keep h hb
theorem OwnMi.mono {w : World} {base base' : Nat} {v : Value} {ms : List Mi} (h : OwnMi w base v ms) (hb : base' ≤ base) : OwnMi w base' v ms :=
 ⟨h.1, h.2.imp id fun ⟨g, cap, cur, h1, h2, h3⟩ => ⟨g, cap, cur, h1, Nat.le_trans hb h2, h3⟩⟩
theorem OwnMi.rd {w : World} {base : Nat} {v : Value} {ms : List Mi} (h : OwnMi w base v ms) : ∃ A c, v = .slice A ms.length c ∧ RdMi w w.heap.size A ms.length ms ∧ ms.length ≤ c ∧ c ≤ maxLen := by
 obtain ⟨A, c, hv, hr, h1, h2, _⟩ := own_rd h
 exact ⟨A, c, hv, ⟨rfl, hr⟩, h1, h2⟩
section
variable {o : Oper} {a : Act} {w : World} {Q : Exit → Act → World → Prop}
end
theorem RdMi.take {w : World} {B n m : Nat} {A : Option Addr} {xs : List Mi} (h : RdMi w B A n xs) (hm : m ≤ n) : RdMi w B A m (xs.take m) := by
 obtain ⟨h1, h2, h3⟩ := h
 refine ⟨by rw [List.length_take, h1]; omega, ⟨?_, fun h0 => ?_⟩⟩
 ·rw [flat_len Mi.len, List.length_take, h1, Nat.min_eq_left hm]
 ·obtain ⟨b, off, e, hlt, hc⟩ := h3 (by omega)
  refine ⟨b, off, e, hlt, fun j u hu => hc j u ?_⟩
  have e2 : xs.flatMap Mi.cells = (xs.take m).flatMap Mi.cells ++ (xs.drop m).flatMap Mi.cells := by rw [← List.flatMap_append, List.take_append_drop]
  rw [e2, List.getElem?_append_left (List.getElem?_eq_some_iff.1 hu).1]
  exact hu
theorem RdMi.drop {w : World} {B n i : Nat} {b off : Nat} {xs : List Mi} (h : RdMi w B (some ⟨b, off, none⟩) n xs) (hi : i ≤ n) : RdMi w B (some ⟨b, off + i * 4, none⟩) (n - i) (xs.drop i) := by
 obtain ⟨h1, h2, h3⟩ := h
 refine ⟨by rw [List.length_drop, h1], ⟨?_, fun h0 => ?_⟩⟩
 ·rw [flat_len Mi.len, List.length_drop, h1]
 ·obtain ⟨b', off', e, hlt, hc⟩ := h3 (by omega)
  injection e with e
  injection e with e1 e2
  subst e1; subst e2
  refine ⟨b, off + i * 4, rfl, hlt, fun j u hu => ?_⟩
  have e2 : xs.flatMap Mi.cells = (xs.take i).flatMap Mi.cells ++ (xs.drop i).flatMap Mi.cells := by rw [← List.flatMap_append, List.take_append_drop]
  have hl : ((xs.take i).flatMap Mi.cells).length = i * 4 := by rw [flat_len Mi.len, List.length_take, h1, Nat.min_eq_left hi]
  have := hc (i * 4 + j) u (by rw [e2, List.getElem?_append_right (by omega), hl, Nat.add_sub_cancel_left]; exact hu)
  rwa [← Nat.add_assoc] at this
theorem RdMi.tail {w : World} {B n c : Nat} {b off : Nat} {xs : List Mi} (h : RdMi w B (some ⟨b, off, none⟩) n xs) (hc : n ≤ c) {i : Nat} (hi : i ≤ n) : RdMi w B (if c = i then some ⟨b, off, none⟩ else some ⟨b, off + i * 4, none⟩) (n - i) (xs.drop i) := by
 have h2 := h.drop hi
 by_cases hci : c = i
 ·refine ⟨h2.1, h2.2.1, fun h0 => by omega⟩
 ·rw [if_neg hci]; exact h2
end
section
open Go.ChangeShapes Go.WideShapes Go.ChangeAt Go.RowKit
attribute [local go_sem ↓] execOp_call_val
attribute [local go_sem] callVal_func setCell_drewN alloc_drewN sEq_walk
theorem RdQ.keep5 {w : World} {p gc gd n n' T : Nat} {u : Rv} {qs : List Rat} (h : RdQ w w.heap.size (some ⟨gc, 0, none⟩) n qs) (hb : Blk w p T #[.slice none 0 0, .bool false, .slice none 0 0, .bool false, .slice none 0 0]) : RdQ (put5 w p gd n' u) (put5 w p gd n' u).heap.size (some ⟨gc, 0, none⟩) n qs := by
 obtain ⟨vs, h1, h2, h3, h4⟩ := h
 refine ⟨vs, h1, h2, ⟨h3.1, fun hn => ?_⟩, fun i q v hq hv => (h4 i q v hq hv).keep5 hb⟩
 obtain ⟨b, off, e, hlt, hc⟩ := h3.2 hn
 injection e with e
 injection e with e1 e2
 subst e1; subst e2
 obtain ⟨v0, hv0⟩ : ∃ v0, vs[0]? = some v0 := ⟨_, List.getElem?_eq_getElem (by omega)⟩
 have hne : gc ≠ p := by
  rintro rfl
  have h5 := hc 0 (.bool v0.b1) (by
   have := rvs_at hv0 0 (by decide)
   rw [Nat.zero_mul, Nat.zero_add] at this
   rw [this]; rfl)
  rw [Nat.zero_add, hb.cell 0] at h5
  cases h5
 refine ⟨gc, 0, rfl, by rw [put5_size]; exact hlt, fun j y hy => ?_⟩
 have off : ∀ (w : World) (i : Nat) (u v : Value), w.cell? ⟨gc, 0 + j, none⟩ = some v → (w.setCell ⟨p, i, none⟩ u).cell? ⟨gc, 0 + j, none⟩ = some v := fun w i u v hv => by
  rw [World.cell?_setCell_other _ _ _ _ (fun e => hne (by injection e with e; exact e.symm))]; exact hv
 exact off _ _ _ _ (off _ _ _ _ (off _ _ _ _ (off _ _ _ _ (off _ _ _ _ (hc j y hy)))))
end
end Go.Proofs.YtakllkkmofdpaaaGreatDoor
