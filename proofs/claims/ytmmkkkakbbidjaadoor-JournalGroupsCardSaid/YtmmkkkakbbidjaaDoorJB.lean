/- The law JournalGroups: the plain law and the walk. -/
import Derived.Test.YtmmkkkakbbidjaaDoorJ10
namespace Go.Proofs.YtmmkkkakbbidjaaDoor
open Go.ChangeShapes Go.WideShapes Go.ChangeAt Go.RowKit
set_option linter.unusedVariables false
attribute [local go_sem ↓] execOp_call_val
attribute [local go_sem] callVal_func setCell_drewN alloc_drewN sEq_walk

def GrpOk (gap : Int) (gs : List (List Ev)) : Prop := ∀ (i : Nat) (x : List Ev), gs[i]? = some x →
  x ≠ [] ∧ (0 < i → ∃ y, ((gs.take i).flatten).getLast? = some y ∧ y.time + gap < (x.getD 0 evZ).time) ∧ ∀ j, 0 < j → j < x.length → (x.getD j evZ).time ≤ (x.getD (j - 1) evZ).time + gap
theorem take_last (s : List Ev) (k : Nat) (h0 : 0 < k) (h : k ≤ s.length) : (s.take k).getLast? = some (evAt s (k - 1)) := by
  obtain ⟨j, rfl⟩ : ∃ j, k = j + 1 := ⟨k - 1, by omega⟩
  rw [take_evAt s j (by omega)]; simp
theorem grpOk_push {gap : Int} {gs : List (List Ev)} (h : GrpOk gap gs) {z : Ev} (hz : gs.length ≠ 0 → ∃ y, gs.flatten.getLast? = some y ∧ y.time + gap < z.time) : GrpOk gap (gs ++ [[z]]) := by
  intro i x hx
  by_cases hi : i < gs.length
  · rw [List.getElem?_append_left hi] at hx
    obtain ⟨h1, h2, h3⟩ := h i x hx
    exact ⟨h1, fun h0 => by rw [List.take_append_of_le_length (by omega)]; exact h2 h0, h3⟩
  · have hil : i = gs.length := by have := (List.getElem?_eq_some_iff.1 hx).1; simp at this; omega
    subst hil
    simp at hx
    subst hx
    refine ⟨by simp, fun h0 => ?_, fun j h1 h2 => by simp at h2; omega⟩
    obtain ⟨y, hy, hyz⟩ := hz (by omega)
    exact ⟨y, by simpa using hy, by simpa using hyz⟩
theorem grpOk_ext {gap : Int} {gs : List (List Ev)} {g : List Ev} (h : GrpOk gap (gs ++ [g])) {z y : Ev} (hy : (gs ++ [g]).flatten.getLast? = some y) (hz : z.time ≤ y.time + gap) : GrpOk gap (gs ++ [g ++ [z]]) := by
  intro i x hx
  by_cases hi : i < gs.length
  · rw [List.getElem?_append_left hi] at hx
    obtain ⟨h1, h2, h3⟩ := h i x (by rw [List.getElem?_append_left hi]; exact hx)
    refine ⟨h1, fun h0 => ?_, h3⟩
    have := h2 h0
    rw [List.take_append_of_le_length (by omega)] at this ⊢
    exact this
  · have hil : i = gs.length := by have := (List.getElem?_eq_some_iff.1 hx).1; simp at this; omega
    subst hil
    simp at hx
    subst hx
    obtain ⟨h1, h2, h3⟩ := h gs.length g (by simp)
    have hgl : 0 < g.length := by cases g with
      | nil => exact absurd rfl h1
      | cons a r => simp
    have hlast : g.getLast? = some y := by
      rw [List.flatten_append, List.getLast?_append] at hy
      simp only [List.flatten_cons, List.flatten_nil, List.append_nil] at hy
      cases hg : g.getLast? with
      | none => rw [List.getLast?_eq_none_iff] at hg; exact absurd hg h1
      | some u => rw [hg] at hy; simpa using hy
    refine ⟨by simp, fun h0 => ?_, fun j h4 h5 => ?_⟩
    · obtain ⟨u, hu, hut⟩ := h2 h0
      refine ⟨u, by simpa using hu, ?_⟩
      rw [List.getD_eq_getElem?_getD, List.getElem?_append_left hgl, ← List.getD_eq_getElem?_getD]
      exact hut
    · by_cases hj : j < g.length
      · have e1 : (g ++ [z]).getD j evZ = g.getD j evZ := by rw [List.getD_eq_getElem?_getD, List.getElem?_append_left hj, ← List.getD_eq_getElem?_getD]
        have e2 : (g ++ [z]).getD (j - 1) evZ = g.getD (j - 1) evZ := by rw [List.getD_eq_getElem?_getD, List.getElem?_append_left (by omega), ← List.getD_eq_getElem?_getD]
        rw [e1, e2]
        exact h3 j h4 hj
      · have hjl : j = g.length := by simp at h5; omega
        subst hjl
        have e1 : (g ++ [z]).getD g.length evZ = z := by simp [List.getD_eq_getElem?_getD]
        have e2 : (g ++ [z]).getD (g.length - 1) evZ = y := by
          rw [List.getD_eq_getElem?_getD, List.getElem?_append_left (by omega)]
          rw [List.getLast?_eq_getElem?] at hlast
          rw [hlast]; rfl
        rw [e1, e2]
        exact hz
theorem grpTo_ok (s : List Ev) (gap : Int) : ∀ k, k ≤ s.length → GrpOk gap (grpTo s gap k)
  | 0, _ => fun i x hx => by simp [grpTo] at hx
  | k + 1, h => by
    have ih := grpTo_ok s gap k (by omega)
    have hfl := grpTo_flat s gap k (by omega)
    have hln := grpTo_len s gap k
    simp only [grpTo]
    by_cases hc : cuts s gap k = true
    · rw [if_pos hc, pushLast_snoc]
      refine grpOk_push ih fun h0 => ?_
      have hk0 : 0 < k := by omega
      refine ⟨_, by rw [hfl]; exact take_last s k hk0 (by omega), ?_⟩
      unfold cuts at hc
      rw [decide_eq_true_eq] at hc
      exact hc.resolve_left (by omega)
    · rw [if_neg hc]
      have hk0 : 0 < k := by
        rcases Nat.eq_zero_or_pos k with h | h
        · subst h; exact absurd (by simp [cuts]) hc
        · exact h
      rcases List.eq_nil_or_concat (grpTo s gap k) with hn | ⟨r, g, hg⟩
      · have := hln.2 hk0; rw [hn] at this; simp at this
      · rw [List.concat_eq_append] at hg
        rw [hg] at ih hfl ⊢
        rw [pushLast_snoc]
        refine grpOk_ext ih (y := evAt s (k - 1)) (by rw [hfl]; exact take_last s k hk0 (by omega)) ?_
        exact Decidable.byContradiction fun hn => hc (by unfold cuts; rw [decide_eq_true_eq]; exact .inr (by omega))
end Go.Proofs.YtmmkkkakbbidjaaDoor
