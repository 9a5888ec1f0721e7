/- What a field of a checked network is. No walk in this text. -/
import Derived.Test.YthedpegaelpbdaaGF
import Derived.Test.YthedpegaelpbdaaG5
namespace Go.Proofs.Ythedpegaelpbdaa
open Go.ChangeShapes Go.WideShapes Go.ChangeAt Go.RowKit
set_option linter.unusedVariables false

theorem ndIdx_at {nodes : List ByteArray} {s : ByteArray} (h : s ∈ nodes) : nodes[ndIdx nodes s]? = some s := by
  rcases idxGo_spec (fun x => sEq s x) nodes 0 with ⟨h1, h2⟩ | ⟨i, y, h1, h2, h3, _⟩
  · exact absurd rfl (sEq_ff.1 (h2 s h))
  · have hi : ndIdx nodes s = i := by unfold ndIdx; rw [h1]; simp
    rw [hi, h2, sEq_iff.1 h3]
theorem ndIdx_ne {nodes : List ByteArray} {s t : ByteArray} (hs : s ∈ nodes) (ht : t ∈ nodes) (h : s ≠ t) : ndIdx nodes s ≠ ndIdx nodes t := fun e => by
  have h1 := ndIdx_at hs
  rw [e, ndIdx_at ht] at h1
  injection h1 with h1
  exact h h1.symm
theorem fdSrc_len (x : Net) : (fdSrc x).length = x.nodes.length + 1 := by
  unfold fdSrc; rw [foldl_set_len, foldl_set_len]; simp
theorem fdEs_mem {x : Net} {opens : List ByteArray} {p : Fp} {e : Ed} (h : e ∈ fdEs x opens p) :
    (∃ s ∈ x.sws, s.opn = false ∧ opens.any (fun y => sEq s.name y) = false ∧ e = ⟨ndIdx x.nodes s.a, ndIdx x.nodes s.b, s.name, s.breaker, 0⟩) ∨
    ∃ b ∈ x.brs, e.name = b.name ∧ e.brk = false ∧ e.fl = 0 ∧ (e = ⟨x.nodes.length, ndIdx x.nodes b.fr, b.name, false, 0⟩ ∨ e = ⟨x.nodes.length, ndIdx x.nodes b.to, b.name, false, 0⟩ ∨ e = ⟨ndIdx x.nodes b.fr, ndIdx x.nodes b.to, b.name, false, 0⟩) := by
  unfold fdEs at h
  rcases List.mem_append.1 h with h | h
  · obtain ⟨s, hs, he⟩ := List.mem_flatMap.1 h
    unfold swEd at he
    split at he
    · simp at he
    · rename_i hn
      simp only [Bool.or_eq_true, not_or, Bool.not_eq_true] at hn
      exact .inl ⟨s, hs, hn.1, hn.2, List.mem_singleton.1 he⟩
  · obtain ⟨b, hb, he⟩ := List.mem_flatMap.1 h
    unfold brEd at he
    split at he
    · rcases List.mem_cons.1 he with he | he
      · subst he; exact .inr ⟨b, hb, rfl, rfl, rfl, .inl rfl⟩
      · rw [List.mem_singleton.1 he]; exact .inr ⟨b, hb, rfl, rfl, rfl, .inr (.inl rfl)⟩
    · rw [List.mem_singleton.1 he]; exact .inr ⟨b, hb, rfl, rfl, rfl, .inr (.inr rfl)⟩
theorem fd_ok {x : Net} (ok : NetOk x) (opens : List ByteArray) (p : Fp) : ∀ e ∈ fdEs x opens p, EdOk (fdSrc x).length e := by
  intro e he
  rw [fdSrc_len]
  rcases fdEs_mem he with ⟨s, hs, _, _, rfl⟩ | ⟨b, hb, _, _, _, h⟩
  · obtain ⟨h1, h2, h3⟩ := ok.sw s hs
    have := (ndIdx_ok h1).2
    have := (ndIdx_ok h2).2
    exact ⟨by show ndIdx _ _ < _; omega, by show ndIdx _ _ < _; omega, ndIdx_ne h1 h2 h3⟩
  · obtain ⟨h1, h2, h3, _⟩ := ok.br b hb
    have := (ndIdx_ok h1).2
    have := (ndIdx_ok h2).2
    rcases h with rfl | rfl | rfl
    · exact ⟨by show x.nodes.length < _; omega, by show ndIdx _ _ < _; omega, by show x.nodes.length ≠ ndIdx _ _; omega⟩
    · exact ⟨by show x.nodes.length < _; omega, by show ndIdx _ _ < _; omega, by show x.nodes.length ≠ ndIdx _ _; omega⟩
    · exact ⟨by show ndIdx _ _ < _; omega, by show ndIdx _ _ < _; omega, ndIdx_ne h1 h2 h3⟩
theorem fd_zero (x : Net) (opens : List ByteArray) (p : Fp) : ∀ e ∈ fdEs x opens p, e.fl = 0 := by
  intro e he
  rcases fdEs_mem he with ⟨s, _, _, _, rfl⟩ | ⟨b, _, _, _, h, _⟩
  · rfl
  · exact h
theorem fd_len {x : Net} (ok : NetOk x) (opens : List ByteArray) (p : Fp) : (fdEs x opens p).length ≤ 80 := by
  unfold fdEs
  have h1 := len_flatMap_le (swEd x.nodes opens) 1 (swEd_len x.nodes opens) x.sws
  have h2 := len_flatMap_le (brEd x.nodes p) 2 (brEd_len x.nodes p) x.brs
  have := ok.l1
  have := ok.l2
  rw [List.length_append]; omega
theorem fd_place {x : Net} (ok : NetOk x) (p : Fp) : fdPl x p < (fdSrc x).length := by
  rw [fdSrc_len]
  unfold fdPl
  have key : ∀ (l : List Br) (a : Nat), (∀ b ∈ l, b ∈ x.brs) → a < x.nodes.length + 1 → l.foldl (plc1 x.nodes p) a < x.nodes.length + 1 := by
    intro l
    induction l with
    | nil => intro a _ h; exact h
    | cons b r ih =>
      intro a hb ha
      rw [List.foldl_cons]
      refine ih _ (fun y hy => hb y (List.mem_cons_of_mem _ hy)) ?_
      obtain ⟨h1, h2, _⟩ := ok.br b (hb b (by simp))
      have := (ndIdx_ok h1).2
      have := (ndIdx_ok h2).2
      unfold plc1
      split
      · split <;> omega
      · exact ha
  exact key x.brs _ (fun _ h => h) (by omega)
/-- fewer switches are open: more edges -/
theorem fdEs_sub {x : Net} {p : Fp} {o1 o2 : List ByteArray} (h : ∀ s ∈ o1, s ∈ o2) : ∀ e ∈ fdEs x o2 p, e ∈ fdEs x o1 p := by
  intro e he
  unfold fdEs at he ⊢
  rcases List.mem_append.1 he with he | he
  · obtain ⟨s, hs, he⟩ := List.mem_flatMap.1 he
    refine List.mem_append_left _ (List.mem_flatMap.2 ⟨s, hs, ?_⟩)
    unfold swEd at he ⊢
    split at he
    · simp at he
    · rename_i hn
      simp only [Bool.or_eq_true, not_or, Bool.not_eq_true] at hn
      rw [if_neg]
      · exact he
      · simp only [Bool.or_eq_true, not_or, Bool.not_eq_true]
        refine ⟨hn.1, ?_⟩
        rw [List.any_eq_false]
        intro y hy
        have := List.any_eq_false.1 hn.2 y (h y hy)
        exact this
  · exact List.mem_append_right _ he
end Go.Proofs.Ythedpegaelpbdaa
