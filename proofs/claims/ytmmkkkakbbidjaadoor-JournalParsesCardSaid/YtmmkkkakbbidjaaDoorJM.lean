/- journal.Merge: what it answers. -/
import Derived.Test.YtmmkkkakbbidjaaDoorJ8
namespace Go.Proofs.YtmmkkkakbbidjaaDoor
open Go.ChangeShapes Go.WideShapes Go.ChangeAt Go.RowKit
set_option linter.unusedVariables false

def mrg : List Ev → List Ev → List Ev
  | [], ys => ys
  | x :: xs, [] => x :: xs
  | x :: xs, y :: ys => if ordE x y < 0 then x :: mrg xs (y :: ys) else if 0 < ordE x y then y :: mrg (x :: xs) ys else x :: mrg xs ys
termination_by a b => a.length + b.length
theorem mrg_nil_l (b : List Ev) : mrg [] b = b := by rw [mrg]
theorem mrg_nil_r (a : List Ev) : mrg a [] = a := by cases a <;> rw [mrg]
theorem mrg_cons (x y : Ev) (xs ys : List Ev) : mrg (x :: xs) (y :: ys) = if ordE x y < 0 then x :: mrg xs (y :: ys) else if 0 < ordE x y then y :: mrg (x :: xs) ys else x :: mrg xs ys := by rw [mrg]
theorem mrg_self : ∀ a : List Ev, mrg a a = a
  | [] => mrg_nil_l _
  | x :: xs => by
    have h0 : ordE x x = 0 := ordE_0.2 rfl
    rw [mrg_cons, h0]
    simp [mrg_self xs]
theorem mrg_facts : ∀ (n : Nat) (a b : List Ev), a.length + b.length ≤ n → mrg a b = mrg b a ∧ (∀ z, z ∈ a ∨ z ∈ b → z ∈ mrg a b) ∧ a.length ≤ (mrg a b).length ∧ b.length ≤ (mrg a b).length ∧ (mrg a b).length ≤ a.length + b.length
  | n, [], b, _ => by rw [mrg_nil_l, mrg_nil_r]; exact ⟨rfl, fun z h => h.resolve_left (by simp), by simp, Nat.le_refl _, by simp⟩
  | n, x :: xs, [], _ => by rw [mrg_nil_l, mrg_nil_r]; exact ⟨rfl, fun z h => h.resolve_right (by simp), Nat.le_refl _, by simp, by simp⟩
  | 0, x :: xs, y :: ys, h => by simp at h
  | n + 1, x :: xs, y :: ys, h => by
    simp only [List.length_cons] at h
    have han := pre_ordE.anti x y
    rw [mrg_cons, mrg_cons]
    by_cases h1 : ordE x y < 0
    · obtain ⟨i1, i2, i3, i4, i5⟩ := mrg_facts n xs (y :: ys) (by simp; omega)
      rw [if_pos h1, if_neg (show ¬ ordE y x < 0 by omega), if_pos (show 0 < ordE y x by omega)]
      refine ⟨by rw [i1], fun z hz => ?_, by simp; exact i3, by simp at i4 ⊢; omega, by simp at i5 ⊢; omega⟩
      rcases hz with hz | hz
      · rcases List.mem_cons.1 hz with rfl | hz
        · simp
        · exact List.mem_cons_of_mem _ (i2 z (.inl hz))
      · exact List.mem_cons_of_mem _ (i2 z (.inr hz))
    · by_cases h2 : 0 < ordE x y
      · obtain ⟨i1, i2, i3, i4, i5⟩ := mrg_facts n (x :: xs) ys (by simp; omega)
        rw [if_neg h1, if_pos h2, if_pos (show ordE y x < 0 by omega)]
        refine ⟨by rw [i1], fun z hz => ?_, by simp at i3 ⊢; omega, by simp; exact i4, by simp at i5 ⊢; omega⟩
        rcases hz with hz | hz
        · exact List.mem_cons_of_mem _ (i2 z (.inl hz))
        · rcases List.mem_cons.1 hz with rfl | hz
          · simp
          · exact List.mem_cons_of_mem _ (i2 z (.inr hz))
      · obtain ⟨i1, i2, i3, i4, i5⟩ := mrg_facts n xs ys (by omega)
        have hxy : x = y := ordE_0.1 (by omega)
        subst hxy
        rw [if_neg h1, if_neg h2, if_neg h1, if_neg h2]
        refine ⟨by rw [i1], fun z hz => ?_, by simp; exact i3, by simp; exact i4, by simp; omega⟩
        rcases hz with hz | hz <;> rcases List.mem_cons.1 hz with rfl | hz
        · simp
        · exact List.mem_cons_of_mem _ (i2 z (.inl hz))
        · simp
        · exact List.mem_cons_of_mem _ (i2 z (.inr hz))
theorem mrg_comm (a b : List Ev) : mrg a b = mrg b a := (mrg_facts _ a b (Nat.le_refl _)).1
theorem mrg_mem {a b : List Ev} {z : Ev} (h : z ∈ a ∨ z ∈ b) : z ∈ mrg a b := (mrg_facts _ a b (Nat.le_refl _)).2.1 z h
theorem mrg_len (a b : List Ev) : a.length ≤ (mrg a b).length ∧ b.length ≤ (mrg a b).length ∧ (mrg a b).length ≤ a.length + b.length := (mrg_facts _ a b (Nat.le_refl _)).2.2

theorem RdEv.tail {w : World} {B n c b off : Nat} {x : Ev} {xs : List Ev} (h : RdEv w B (some ⟨b, off, none⟩) n (x :: xs)) (hnc : n ≤ c) : RdEv w B (if c = 1 then some ⟨b, off, none⟩ else some ⟨b, off + 4, none⟩) (n - 1) xs := by
  have h1 := h.1
  simp at h1
  refine ⟨by omega, by rw [flat_len Ev.len]; omega, fun h0 => ?_⟩
  rw [if_neg (by omega)]
  obtain ⟨b', off', e, hlt, hc⟩ := h.2.2 (by omega)
  injection e with e
  injection e with e1 e2
  subst e1; subst e2
  refine ⟨b, off + 4, rfl, hlt, fun j u hu => ?_⟩
  have := hc (j + 4) u (by simpa [Ev.cells] using hu)
  rw [show off + 4 + j = off + (j + 4) from by omega]
  exact this
theorem rdEv_own {w : World} {base g cap n : Nat} {l : List Ev} (h : w.ownsRow base 31 4 (.slice (some ⟨g, 0, none⟩) n cap) n (l.flatMap Ev.cells)) (hl : l.length = n) : RdEv w w.heap.size (some ⟨g, 0, none⟩) n l :=
  ⟨hl, by rw [flat_len Ev.len]; omega, fun h0 => ⟨g, 0, rfl, (h.lt g (by simp [Value.ownBlock])).2, fun j u hu => by
    have hj : j < n * 4 := by have := (List.getElem?_eq_some_iff.1 hu).1; rw [flat_len Ev.len] at this; omega
    rw [Nat.zero_add, h.cellAt j hj]; exact hu⟩⟩
theorem rdEv_own' {w : World} {base : Nat} {v : Value} {l : List Ev} (h : w.ownsRow base 31 4 v l.length (l.flatMap Ev.cells)) : ∃ A c, v = .slice A l.length c ∧ RdEv w w.heap.size A l.length l := by
  rcases h.2 with ⟨hv, h0⟩ | ⟨g, cap, cur, hv, _⟩
  · have hl : l = [] := List.eq_nil_of_length_eq_zero h0
    subst hl
    exact ⟨none, 0, hv, rfl, rfl, fun h => by simp at h⟩
  · subst hv
    exact ⟨_, cap, rfl, rdEv_own h rfl⟩
def lenV : Value → Nat
  | .slice _ n _ => n
  | _ => 0
theorem ecmp_below (x y : Ev) (w : World) : Calls Tryd.prog 19 #[.agg (evV x), .agg (evV y)] w fun e w' => e = .returned (.int .i64 (ordE x y)) ∧ Below w.heap.size w w' :=
  (ecompare_any x y w).mono fun e w' ⟨he, cs, hw⟩ => ⟨he, by
    rw [hw]
    have h0 : Below w.heap.size w w := Below.refl _ _
    have h1 := h0.alloc (Nat.le_refl _) (.cells (evV x) 31)
    have h2 := h1.alloc (by simp) (.cells (evV y) 31)
    have h3 := h2.alloc (by simp; omega) (.cells cs 3)
    exact below_drewN h3 1⟩
def MrgP (a b : List Ev) (w : World) (e : Ending) (w' : World) : Prop :=
  Below w.heap.size w w' ∧ (((ckEv a ≠ 0 ∨ ckEv b ≠ 0 ∨ 256 < (mrg (evSort a) (evSort b)).length) ∧ ∃ k : Int, k ≠ 0 ∧ e = .returned (.tuple #[.slice none 0 0, .int .i64 k])) ∨
    (ckEv a = 0 ∧ ckEv b = 0 ∧ (mrg (evSort a) (evSort b)).length ≤ 256 ∧ ∃ v, e = .returned (.tuple #[v, .int .i64 0]) ∧ w'.ownsRow w.heap.size 31 4 v (mrg (evSort a) (evSort b)).length ((mrg (evSort a) (evSort b)).flatMap Ev.cells)))
end Go.Proofs.YtmmkkkakbbidjaaDoor
