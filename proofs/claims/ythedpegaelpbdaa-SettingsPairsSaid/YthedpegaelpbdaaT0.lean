/- Components of a graph: what graph.parts computes, in plain words. -/
import Derived.Test.YthedpegaelpbdaaB0
namespace Go.Proofs.Ythedpegaelpbdaa
open Go
set_option linter.unusedVariables false

/-- an edge is looked at from node u: its other end gets the number m and stands in the queue, if it has none -/
def pstep (u : Nat) (m : Int) (s : List Int × List Nat) (x : Nat × Nat) : List Int × List Nat :=
  if (x.1 = u ∨ x.2 = u) ∧ s.1.getD (x.1 + x.2 - u) 0 < 0 then (s.1.set (x.1 + x.2 - u) m, s.2 ++ [x.1 + x.2 - u]) else s
def pscan (u : Nat) (m : Int) (es : List (Nat × Nat)) (s : List Int × List Nat) : List Int × List Nat := es.foldl (pstep u m) s
def pbfs (m : Int) (es : List (Nat × Nat)) : Nat → List Int → List Nat → List Int
  | 0, out, _ => out
  | _ + 1, out, [] => out
  | f + 1, out, u :: q => pbfs m es f (pscan u m es (out, q)).1 (pscan u m es (out, q)).2
/-- the nodes from i on: k of them are looked at -/
def pgo (n : Nat) (es : List (Nat × Nat)) : Nat → Nat → List Int × Int → List Int × Int
  | 0, _, s => s
  | k + 1, i, s => if 0 ≤ s.1.getD i 0 then pgo n es k (i + 1) s else pgo n es k (i + 1) (pbfs s.2 es (n + 1) (s.1.set i s.2) [i], s.2 + 1)
def partsR (n : Nat) (es : List (Nat × Nat)) : List Int := (pgo n es n 0 (List.replicate n (-1), 0)).1

/-- how many have no number yet -/
def negs (l : List Int) : Nat := (l.filter (· < 0)).length
theorem negs_set : ∀ (l : List Int) (i : Nat) (m : Int), 0 ≤ m → i < l.length → l.getD i 0 < 0 → negs (l.set i m) + 1 = negs l
  | [], i, m, _, h, _ => by simp at h
  | x :: r, 0, m, hm, _, h => by
    have hx : x < 0 := by simpa using h
    have h1 : ¬ m < 0 := by omega
    simp [negs, hx, h1]
  | x :: r, i + 1, m, hm, hl, h => by
    have ih := negs_set r i m hm (by simpa using hl) (by simpa using h)
    unfold negs at ih ⊢
    rw [List.set_cons_succ]
    by_cases hx : x < 0 <;> simp [List.filter_cons, hx] <;> omega
theorem pstep_len (u : Nat) (m : Int) (s : List Int × List Nat) (x : Nat × Nat) : (pstep u m s x).1.length = s.1.length := by
  unfold pstep; split <;> simp
/-- what is kept while a graph of n nodes is searched -/
structure Ps (n : Nat) (m : Int) (out : List Int) (q : List Nat) : Prop where
  len : out.length = n
  lt : ∀ u ∈ q, u < n
  bd : ∀ x ∈ out, -1 ≤ x ∧ x ≤ m
theorem pstep_ok {n u : Nat} {m : Int} {s : List Int × List Nat} {x : Nat × Nat} (hm : 0 ≤ m) (hx : x.1 < n ∧ x.2 < n) (h : Ps n m s.1 s.2) :
    Ps n m (pstep u m s x).1 (pstep u m s x).2 ∧ (pstep u m s x).2.length + negs (pstep u m s x).1 = s.2.length + negs s.1 ∧ s.2.length ≤ (pstep u m s x).2.length := by
  unfold pstep
  split
  · rename_i hc
    have ho : x.1 + x.2 - u < n := by omega
    refine ⟨⟨by simp [h.len], fun v hv => ?_, fun y hy => ?_⟩, ?_, by simp⟩
    · rcases List.mem_append.1 hv with hv | hv
      · exact h.lt v hv
      · rw [List.mem_singleton.1 hv]; exact ho
    · rcases List.mem_or_eq_of_mem_set hy with hy | rfl
      · exact h.bd y hy
      · omega
    · have := negs_set s.1 _ m hm (by rw [h.len]; exact ho) hc.2
      simp; omega
  · exact ⟨h, rfl, Nat.le_refl _⟩
theorem pscan_ok {n u : Nat} {m : Int} (hm : 0 ≤ m) : ∀ {es : List (Nat × Nat)} {s : List Int × List Nat}, (∀ x ∈ es, x.1 < n ∧ x.2 < n) → Ps n m s.1 s.2 →
    Ps n m (pscan u m es s).1 (pscan u m es s).2 ∧ (pscan u m es s).2.length + negs (pscan u m es s).1 = s.2.length + negs s.1
  | [], s, _, h => ⟨h, rfl⟩
  | x :: r, s, hx, h => by
    have h1 := pstep_ok (u := u) hm (hx x (List.mem_cons_self ..)) h
    have h2 := pscan_ok (u := u) hm (fun y hy => hx y (List.mem_cons_of_mem _ hy)) h1.1
    exact ⟨h2.1, h2.2.trans h1.2.1⟩
theorem pbfs_ok {n : Nat} {m : Int} (hm : 0 ≤ m) {es : List (Nat × Nat)} (hx : ∀ x ∈ es, x.1 < n ∧ x.2 < n) : ∀ (f : Nat) {out : List Int} {q : List Nat}, Ps n m out q → (pbfs m es f out q).length = n ∧ (∀ x ∈ pbfs m es f out q, -1 ≤ x ∧ x ≤ m)
  | 0, out, q, h => ⟨h.len, h.bd⟩
  | f + 1, out, [], h => ⟨h.len, h.bd⟩
  | f + 1, out, u :: q, h => by
    have h1 : Ps n m out q := ⟨h.len, fun v hv => h.lt v (List.mem_cons_of_mem _ hv), h.bd⟩
    exact pbfs_ok hm hx f (pscan_ok (s := (out, q)) hm hx h1).1
theorem negs_le (l : List Int) : negs l ≤ l.length := List.length_filter_le _ _
theorem pstep_keep {u : Nat} {m : Int} (hm : 0 ≤ m) (s : List Int × List Nat) (x : Nat × Nat) {j : Nat} (h : 0 ≤ s.1.getD j 0) : 0 ≤ (pstep u m s x).1.getD j 0 := by
  unfold pstep
  split
  · simp only [List.getD_eq_getElem?_getD] at h ⊢
    rw [List.getElem?_set]
    split
    · split
      · simpa using hm
      · simp
    · exact h
  · exact h
theorem pscan_keep {u : Nat} {m : Int} (hm : 0 ≤ m) : ∀ (es : List (Nat × Nat)) (s : List Int × List Nat) {j : Nat}, 0 ≤ s.1.getD j 0 → 0 ≤ (pscan u m es s).1.getD j 0
  | [], s, j, h => h
  | x :: r, s, j, h => pscan_keep hm r (pstep u m s x) (pstep_keep hm s x h)
theorem pbfs_keep {m : Int} (hm : 0 ≤ m) (es : List (Nat × Nat)) : ∀ (f : Nat) (out : List Int) (q : List Nat) {j : Nat}, 0 ≤ out.getD j 0 → 0 ≤ (pbfs m es f out q).getD j 0
  | 0, out, q, j, h => h
  | f + 1, out, [], j, h => h
  | f + 1, out, u :: q, j, h => pbfs_keep hm es f _ _ (pscan_keep hm es (out, q) h)
theorem pgo_ok {n : Nat} {es : List (Nat × Nat)} (hx : ∀ x ∈ es, x.1 < n ∧ x.2 < n) : ∀ (k i : Nat) (s : List Int × Int), s.1.length = n → i + k = n → (∀ x ∈ s.1, -1 ≤ x ∧ x < s.2) → 0 ≤ s.2 → s.2 ≤ i → (∀ j, j < i → 0 ≤ s.1.getD j 0) →
    (pgo n es k i s).1.length = n ∧ (∀ x ∈ (pgo n es k i s).1, -1 ≤ x ∧ x < n) ∧ ∀ j, j < n → 0 ≤ (pgo n es k i s).1.getD j 0
  | 0, i, s, hl, hi, hb, h0, h1, hj => by
    refine ⟨hl, fun x hx => ?_, fun j h => hj j (by omega)⟩
    have := hb x hx
    omega
  | k + 1, i, s, hl, hi, hb, h0, h1, hj => by
    unfold pgo
    split
    · rename_i hz
      exact pgo_ok hx k (i + 1) s hl (by omega) hb h0 (by omega) (fun j h => by
        by_cases hji : j = i
        · subst hji; exact hz
        · exact hj j (by omega))
    · rename_i hz
      have hin : i < s.1.length := by omega
      have hps : Ps n s.2 (s.1.set i s.2) [i] := ⟨by simp [hl], fun v hv => (by rw [List.mem_singleton.1 hv]; omega), fun x hx => by
        rcases List.mem_or_eq_of_mem_set hx with hx | rfl
        · have := hb x hx; omega
        · omega⟩
      have h2 := pbfs_ok h0 hx (n + 1) hps
      refine pgo_ok hx k (i + 1) _ h2.1 (by omega) (fun x hx => (by have := h2.2 x hx; show _ ∧ _ < s.2 + 1; omega)) (by show 0 ≤ s.2 + 1; omega) (by show s.2 + 1 ≤ _; omega) (fun j h => ?_)
      refine pbfs_keep h0 es _ _ _ ?_
      rw [List.getD_eq_getElem?_getD, List.getElem?_set]
      by_cases hji : i = j
      · subst hji
        rw [if_pos rfl, if_pos hin]; exact h0
      · rw [if_neg hji, ← List.getD_eq_getElem?_getD]
        exact hj j (by omega)
theorem parts_ok {n : Nat} {es : List (Nat × Nat)} (hx : ∀ x ∈ es, x.1 < n ∧ x.2 < n) : (partsR n es).length = n ∧ ∀ x ∈ partsR n es, 0 ≤ x ∧ x < n := by
  obtain ⟨h1, h2, h3⟩ := pgo_ok hx n 0 (List.replicate n (-1), 0) (by simp) (by omega) (fun x hx => (by rw [List.eq_of_mem_replicate hx]; exact ⟨by omega, show (-1 : Int) < 0 by omega⟩)) (by show (0 : Int) ≤ 0; omega) (by show (0 : Int) ≤ _; omega) (fun j h => by omega)
  refine ⟨h1, fun x hx => ?_⟩
  have h4 := h2 x hx
  obtain ⟨j, hj⟩ := List.mem_iff_getElem?.1 hx
  have hjl := (List.getElem?_eq_some_iff.1 hj).1
  have h5 := h3 j (by unfold partsR at hjl; omega)
  rw [List.getD_eq_getElem?_getD, show (pgo n es n 0 (List.replicate n (-1), 0)).1[j]? = some x from hj] at h5
  exact ⟨h5, h4.2⟩
/-- one more than the greatest number -/
def topR (l : List Int) : Int := l.foldl (fun a b => max a (b + 1)) 0
theorem foldl_max (l : List Int) : ∀ a : Int, a ≤ l.foldl (fun a b => max a (b + 1)) a ∧ (∀ b ∈ l, b < l.foldl (fun a b => max a (b + 1)) a) ∧ ∀ c, a ≤ c → (∀ b ∈ l, b < c) → l.foldl (fun a b => max a (b + 1)) a ≤ c := by
  induction l with
  | nil => intro a; exact ⟨Int.le_refl _, fun _ h => (by cases h), fun c h _ => h⟩
  | cons x r ih =>
    intro a
    obtain ⟨h1, h2, h3⟩ := ih (max a (x + 1))
    rw [List.foldl_cons]
    refine ⟨by omega, fun b hb => ?_, fun c hc hb => h3 c ?_ (fun b h => hb b (List.mem_cons_of_mem _ h))⟩
    · rcases List.mem_cons.1 hb with rfl | hb
      · omega
      · exact h2 b hb
    · have := hb x (List.mem_cons_self ..); omega
theorem topR_ok (l : List Int) : 0 ≤ topR l ∧ (∀ b ∈ l, b < topR l) ∧ ∀ c, 0 ≤ c → (∀ b ∈ l, b < c) → topR l ≤ c := foldl_max l 0
end Go.Proofs.Ythedpegaelpbdaa
