/- The lengths of the shortest ways (plain). -/
import Derived.Test.YthedpegaelpbdaaN6
namespace Go.Proofs.Ythedpegaelpbdaa
set_option linter.unusedVariables false

abbrev FS := List Int × Bool
def half (i k : Nat) (long : Int) (st : FS) : FS :=
  if 0 ≤ st.1.getD i 0 ∧ (st.1.getD k 0 < 0 ∨ st.1.getD i 0 + long < st.1.getD k 0) then (st.1.set k (st.1.getD i 0 + long), true) else st
def hs (long : Int) : Nat → Nat → Nat → FS → FS
  | 0, _, _, st => st
  | n + 1, a, b, st => hs long n b a (half a b long st)
def swPass (nodes : List ByteArray) : List Sw → FS → FS
  | [], st => st
  | s :: r, st => swPass nodes r (if s.opn then st else hs 0 2 (ndIdx nodes s.a) (ndIdx nodes s.b) st)
def brPass (nodes without : List ByteArray) : List Br → FS → FS
  | [], st => st
  | b :: r, st => brPass nodes without r (if without.any (fun y => sEq b.name y) then st else hs (1000 * b.x) 2 (ndIdx nodes b.fr) (ndIdx nodes b.to) st)
def pass (x : Net) (without : List ByteArray) (far : List Int) : FS := brPass x.nodes without x.brs (swPass x.nodes x.sws (far, false))
def reachIt (x : Net) (without : List ByteArray) : Nat → List Int → List Int
  | 0, far => far
  | n + 1, far => if (pass x without far).2 then reachIt x without n (pass x without far).1 else (pass x without far).1

def BIG (N : Nat) : Nat := (N + 1) * 10000000 + 1
def wt (N : Nat) (v : Int) : Nat := if v < 0 then BIG N else v.toNat
def msr (far : List Int) : Nat := (far.map (wt far.length)).sum
def cnt (far : List Int) : Nat := far.countP fun v => decide (0 ≤ v)
structure FarOk (N : Nat) (far : List Int) : Prop where
  len : far.length = N
  val : ∀ v ∈ far, v = -1 ∨ (0 ≤ v ∧ v ≤ cnt far * 10000000)

theorem sum_set (f : Int → Nat) : ∀ (l : List Int) (k : Nat) (a : Int), k < l.length → ((l.set k a).map f).sum + f (l.getD k 0) = (l.map f).sum + f a
  | [], k, a, h => by simp at h
  | y :: r, 0, a, h => by simp; omega
  | y :: r, k + 1, a, h => by
    have := sum_set f r k a (by simpa using h)
    simp at this ⊢
    omega
theorem cnt_set : ∀ (l : List Int) (k : Nat) (a : Int), k < l.length → (l.set k a).countP (fun v => decide (0 ≤ v)) + (if 0 ≤ l.getD k 0 then 1 else 0) = l.countP (fun v => decide (0 ≤ v)) + (if 0 ≤ a then 1 else 0)
  | [], k, a, h => by simp at h
  | y :: r, 0, a, h => by
    simp only [List.set_cons_zero, List.countP_cons, List.getD_cons_zero, decide_eq_true_eq]
    omega
  | y :: r, k + 1, a, h => by
    have := cnt_set r k a (by simpa using h)
    simp only [List.set_cons_succ, List.countP_cons, List.getD_cons_succ, decide_eq_true_eq] at this ⊢
    omega
theorem getD_mem {l : List Int} {k : Nat} (h : k < l.length) : l.getD k 0 ∈ l := by
  rw [List.getD_eq_getElem?_getD, List.getElem?_eq_getElem h]; exact List.getElem_mem h

/-- what one half of a step does -/
theorem half_ok {N i k : Nat} {long : Int} {st : FS} (h : FarOk N st.1) (hi : i < N) (hk : k < N) (h0 : 0 ≤ long) (h1 : long ≤ 10000000) :
    FarOk N (half i k long st).1 ∧ ((half i k long st = st) ∨ (msr (half i k long st).1 < msr st.1 ∧ (half i k long st).2 = true)) := by
  unfold half
  split
  · rename_i hc
    obtain ⟨hc1, hc2⟩ := hc
    have hl := h.len
    have vi := h.val _ (getD_mem (l := st.1) (k := i) (by omega))
    have vk := h.val _ (getD_mem (l := st.1) (k := k) (by omega))
    have hcs := cnt_set st.1 k (st.1.getD i 0 + long) (by omega)
    have hss := sum_set (wt N) st.1 k (st.1.getD i 0 + long) (by omega)
    have hcl : (st.1.set k (st.1.getD i 0 + long)).countP (fun v => decide (0 ≤ v)) ≤ N := by
      have := List.countP_le_length (p := fun v => decide (0 ≤ v)) (l := st.1.set k (st.1.getD i 0 + long)); rw [List.length_set] at this; omega
    have hcl0 : st.1.countP (fun v => decide (0 ≤ v)) ≤ N := by
      have := List.countP_le_length (p := fun v => decide (0 ≤ v)) (l := st.1); omega
    rw [if_pos (show 0 ≤ st.1.getD i 0 + long by omega)] at hcs
    unfold cnt at vi vk
    generalize hC : st.1.countP (fun v => decide (0 ≤ v)) = C at *
    generalize hC' : (st.1.set k (st.1.getD i 0 + long)).countP (fun v => decide (0 ≤ v)) = C' at *
    have hmono : (C : Int) ≤ C' := by split at hcs <;> omega
    have hnew : st.1.getD i 0 + long ≤ (C' : Int) * 10000000 := by split at hcs <;> omega
    refine ⟨⟨by simpa using hl, fun v hv => ?_⟩, .inr ⟨?_, rfl⟩⟩
    · unfold cnt
      dsimp only at hv ⊢
      rw [hC']
      rcases List.mem_or_eq_of_mem_set hv with hv | rfl
      · rcases h.val v hv with h2 | ⟨h2, h3⟩
        · exact .inl h2
        · unfold cnt at h3; rw [hC] at h3; exact .inr ⟨h2, by omega⟩
      · exact .inr ⟨by omega, hnew⟩
    · unfold msr
      dsimp only
      rw [List.length_set, hl]
      have hwa : wt N (st.1.getD i 0 + long) = (st.1.getD i 0 + long).toNat := by unfold wt; rw [if_neg (by omega)]
      by_cases hkn : st.1.getD k 0 < 0
      · have hwk : wt N (st.1.getD k 0) = BIG N := by unfold wt; rw [if_pos hkn]
        unfold BIG at hwk
        omega
      · have hwk : wt N (st.1.getD k 0) = (st.1.getD k 0).toNat := by unfold wt; rw [if_neg hkn]
        omega
  · exact ⟨h, .inl rfl⟩

/-- what several changes do -/
def Chg (N : Nat) (s t : FS) : Prop := FarOk N t.1 ∧ (t = s ∨ (msr t.1 < msr s.1 ∧ t.2 = true))
theorem Chg.trans {N : Nat} {a b c : FS} (h : Chg N a b) (k : Chg N b c) : Chg N a c := by
  refine ⟨k.1, ?_⟩
  rcases h.2 with rfl | ⟨h1, h2⟩
  · exact k.2
  · rcases k.2 with rfl | ⟨k1, k2⟩
    · exact .inr ⟨h1, h2⟩
    · exact .inr ⟨by omega, k2⟩
theorem hs_ok {N : Nat} {long : Int} (h0 : 0 ≤ long) (h1 : long ≤ 10000000) : ∀ (n a b : Nat) (st : FS), a < N → b < N → FarOk N st.1 → Chg N st (hs long n a b st)
  | 0, _, _, st, _, _, h => ⟨h, .inl rfl⟩
  | n + 1, a, b, st, ha, hb, h => by
    have h2 := half_ok (long := long) h ha hb h0 h1
    exact Chg.trans h2 (hs_ok h0 h1 n b a _ hb ha h2.1)
theorem swPass_ok {N : Nat} {nodes : List ByteArray} (hN : nodes.length = N) : ∀ (l : List Sw) (st : FS), (∀ s ∈ l, s.a ∈ nodes ∧ s.b ∈ nodes) → FarOk N st.1 → Chg N st (swPass nodes l st)
  | [], st, _, h => ⟨h, .inl rfl⟩
  | s :: r, st, hl, h => by
    obtain ⟨ha, hb⟩ := hl s (List.mem_cons_self ..)
    unfold swPass
    split
    · exact swPass_ok hN r st (fun t ht => hl t (List.mem_cons_of_mem _ ht)) h
    · have h2 := hs_ok (N := N) (long := 0) (by omega) (by omega) 2 (ndIdx nodes s.a) (ndIdx nodes s.b) st (by have := (ndIdx_ok ha).2; omega) (by have := (ndIdx_ok hb).2; omega) h
      exact h2.trans (swPass_ok hN r _ (fun t ht => hl t (List.mem_cons_of_mem _ ht)) h2.1)
theorem brPass_ok {N : Nat} {nodes without : List ByteArray} (hN : nodes.length = N) : ∀ (l : List Br) (st : FS), (∀ s ∈ l, s.fr ∈ nodes ∧ s.to ∈ nodes ∧ 1 ≤ s.x ∧ s.x ≤ 10000) → FarOk N st.1 → Chg N st (brPass nodes without l st)
  | [], st, _, h => ⟨h, .inl rfl⟩
  | s :: r, st, hl, h => by
    obtain ⟨ha, hb, h1, h2⟩ := hl s (List.mem_cons_self ..)
    unfold brPass
    split
    · exact brPass_ok hN r st (fun t ht => hl t (List.mem_cons_of_mem _ ht)) h
    · have h2 := hs_ok (N := N) (long := 1000 * s.x) (by omega) (by omega) 2 (ndIdx nodes s.fr) (ndIdx nodes s.to) st (by have := (ndIdx_ok ha).2; omega) (by have := (ndIdx_ok hb).2; omega) h
      exact h2.trans (brPass_ok hN r _ (fun t ht => hl t (List.mem_cons_of_mem _ ht)) h2.1)
theorem pass_ok {x : Net} (ok : NetOk x) (without : List ByteArray) {far : List Int} (h : FarOk x.nodes.length far) : Chg x.nodes.length (far, false) (pass x without far) := by
  have h1 := swPass_ok (N := x.nodes.length) rfl x.sws (far, false) (fun s hs => ⟨(ok.sw s hs).1, (ok.sw s hs).2.1⟩) h
  exact h1.trans (brPass_ok (N := x.nodes.length) rfl x.brs _ (fun s hs => by
    obtain ⟨q1, q2, _, q4⟩ := ok.br s hs
    have := Br.good q4
    exact ⟨q1, q2, by omega, by omega⟩) h1.1)

def far0 (x : Net) (s : ByteArray) : List Int := (List.replicate x.nodes.length (-1)).set (ndIdx x.nodes s) 0
def reachR (x : Net) (s : ByteArray) (without : List ByteArray) : List Int := reachIt x without (msr (far0 x s) + 1) (far0 x s)
theorem far0_ok {x : Net} {s : ByteArray} (hs : s ∈ x.nodes) : FarOk x.nodes.length (far0 x s) := by
  have hi := (ndIdx_ok hs).2
  refine ⟨by simp [far0], fun v hv => ?_⟩
  rcases List.mem_or_eq_of_mem_set hv with hv | rfl
  · exact .inl (List.mem_replicate.1 hv).2
  · exact .inr ⟨by omega, Int.mul_nonneg (by omega) (by omega)⟩
theorem reachIt_ok {x : Net} (ok : NetOk x) (without : List ByteArray) : ∀ (n : Nat) (far : List Int), FarOk x.nodes.length far → FarOk x.nodes.length (reachIt x without n far)
  | 0, far, h => h
  | n + 1, far, h => by
    have hp := pass_ok ok without h
    unfold reachIt
    split
    · exact reachIt_ok ok without n _ hp.1
    · exact hp.1
theorem reachR_ok {x : Net} (ok : NetOk x) {s : ByteArray} (hs : s ∈ x.nodes) (without : List ByteArray) : FarOk x.nodes.length (reachR x s without) := reachIt_ok ok without _ _ (far0_ok hs)
end Go.Proofs.Ythedpegaelpbdaa
