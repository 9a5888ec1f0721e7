import Derived.Test.YtakllkkmofdpaaaGreatDoorU09
import Derived.Test.YtakllkkmofdpaaaGreatDoorU10
import Derived.Deep.AppendSrc
import Derived.Deep.DeepAppendWide
import Derived.Lib.Mul64
import Derived.Laws.Bits64b
import Derived.Laws.CopyOwn
import Derived.Deep.OwnRows
import Derived.Deep.RegionLaw
set_option linter.unusedVariables false
set_option linter.unusedSimpArgs false
namespace Go.Proofs.YtakllkkmofdpaaaGreatDoor
section
def vf (l : List Rat) : Fn := fun i => l.getD i 0
def vfs (M : List (List Rat)) : List Fn := M.map vf
theorem vf_at {l : List Rat} {i : Nat} {x : Rat} (h : l[i]? = some x) : vf l i = x := by unfold vf; rw [List.getD_eq_getElem?_getD, h]; rfl
theorem vf_get {l : List Rat} {i : Nat} (h : i < l.length) : l[i]? = some (vf l i) := by unfold vf; rw [List.getD_eq_getElem?_getD, List.getElem?_eq_getElem h]; rfl
theorem vfs_at {M : List (List Rat)} {i : Nat} {f : Fn} (h : (vfs M)[i]? = some f) : ∃ a, M[i]? = some a ∧ f = vf a := by
 unfold vfs at h
 rw [List.getElem?_map] at h
 obtain ⟨a, ha, he⟩ := Option.map_eq_some_iff.1 h
 exact ⟨a, ha, he.symm⟩
theorem vfs_get {M : List (List Rat)} {i : Nat} {a : List Rat} (h : M[i]? = some a) : (vfs M)[i]? = some (vf a) := by unfold vfs; rw [List.getElem?_map, h]; rfl
theorem vfs_len (M : List (List Rat)) : (vfs M).length = M.length := by unfold vfs; rw [List.length_map]
theorem ker_iff {n : Nat} {M : List (List Rat)} {x : Fn} : Ker n (vfs M) x ↔ ∀ (i : Nat) (a : List Rat), M[i]? = some a → dotn n (vf a) x = 0 := by
 constructor
 ·intro h i a ha
  exact h _ (List.mem_of_getElem? (vfs_get ha))
 ·intro h f hf
  obtain ⟨i, hi⟩ := List.mem_iff_getElem?.1 hf
  obtain ⟨a, ha, rfl⟩ := vfs_at hi
  exact h i a ha
def divR (d : Rat) (row : List Rat) : List Rat := row.map fun x => x / d
def subR (f : Rat) (R row : List Rat) : List Rat := List.zipWith (fun x y => x - f * y) row R
theorem divR_len (d : Rat) (row : List Rat) : (divR d row).length = row.length := by unfold divR; rw [List.length_map]
theorem subR_len {f : Rat} {R row : List Rat} (h : R.length = row.length) : (subR f R row).length = row.length := by unfold subR; rw [List.length_zipWith, h, Nat.min_self]
theorem divR_vf {d : Rat} {row : List Rat} {i : Nat} (h : i < row.length) : vf (divR d row) i = vf row i / d := by
 refine vf_at ?_
 unfold divR
 rw [List.getElem?_map, vf_get h]; rfl
theorem subR_vf {f : Rat} {R row : List Rat} {i : Nat} (h : i < row.length) (hl : R.length = row.length) : vf (subR f R row) i = vf row i - f * vf R i := by
 refine vf_at ?_
 unfold subR
 rw [List.getElem?_zipWith, vf_get h, vf_get (by rw [hl]; exact h)]
def preStep (M : List (List Rat)) (r p k : Nat) : List (List Rat) := (M.set p (M.getD r [])).set r (divR (vf (M.getD p []) k) (M.getD p []))
def colStep (M : List (List Rat)) (r p k : Nat) : List (List Rat) := (preStep M r p k).mapIdx fun i row => if i = r then row else subR (vf row k) (divR (vf (M.getD p []) k) (M.getD p [])) row
theorem preStep_len (M : List (List Rat)) (r p k : Nat) : (preStep M r p k).length = M.length := by unfold preStep; rw [List.length_set, List.length_set]
theorem colStep_len (M : List (List Rat)) (r p k : Nat) : (colStep M r p k).length = M.length := by unfold colStep; rw [List.length_mapIdx, preStep_len]
section
variable {M : List (List Rat)} {N r p k : Nat} {Rp Rr : List Rat}
theorem pre_r (hr : M[r]? = some Rr) (hp : M[p]? = some Rp) : (preStep M r p k)[r]? = some (divR (vf Rp k) Rp) := by
 unfold preStep
 rw [List.getElem?_set_self (by rw [List.length_set]; exact (List.getElem?_eq_some_iff.1 hr).1), List.getD_eq_getElem?_getD, hp]; rfl
theorem pre_p (hr : M[r]? = some Rr) (hp : M[p]? = some Rp) (hrp : r ≠ p) : (preStep M r p k)[p]? = some Rr := by
 unfold preStep
 rw [List.getElem?_set_ne hrp, List.getElem?_set_self (List.getElem?_eq_some_iff.1 hp).1, List.getD_eq_getElem?_getD, hr]; rfl
theorem pre_off {i : Nat} (h1 : i ≠ r) (h2 : i ≠ p) : (preStep M r p k)[i]? = M[i]? := by
 unfold preStep
 rw [List.getElem?_set_ne (fun e => h1 e.symm), List.getElem?_set_ne (fun e => h2 e.symm)]
theorem pre_src {i : Nat} {a : List Rat} (hr : M[r]? = some Rr) (hp : M[p]? = some Rp) (hi : i ≠ r) (h : (preStep M r p k)[i]? = some a) : ∃ s, M[s]? = some a ∧ s ≠ p ∧ (s = i ∨ (i = p ∧ s = r)) := by
 by_cases hip : i = p
 ·subst hip
  rw [pre_p hr hp (fun e => hi e.symm)] at h
  injection h with h
  subst h
  exact ⟨r, hr, fun e => hi e.symm, .inr ⟨rfl, rfl⟩⟩
 ·rw [pre_off hi hip] at h
  exact ⟨i, h, hip, .inl rfl⟩
theorem col_at {i : Nat} {a' : List Rat} (hp : M[p]? = some Rp) (h : (colStep M r p k)[i]? = some a') : ∃ a, (preStep M r p k)[i]? = some a ∧ a' = if i = r then a else subR (vf a k) (divR (vf Rp k) Rp) a := by
 unfold colStep at h
 rw [List.getElem?_mapIdx] at h
 obtain ⟨a, ha, he⟩ := Option.map_eq_some_iff.1 h
 refine ⟨a, ha, ?_⟩
 rw [← he]
 have : M.getD p [] = Rp := by rw [List.getD_eq_getElem?_getD, hp]; rfl
 rw [this]
theorem col_get {i : Nat} {a : List Rat} (hp : M[p]? = some Rp) (h : (preStep M r p k)[i]? = some a) : (colStep M r p k)[i]? = some (if i = r then a else subR (vf a k) (divR (vf Rp k) Rp) a) := by
 unfold colStep
 rw [List.getElem?_mapIdx, h]
 have : M.getD p [] = Rp := by rw [List.getD_eq_getElem?_getD, hp]; rfl
 rw [this]
 rfl
theorem pre_width (hw : ∀ a ∈ M, a.length = N) (hr : M[r]? = some Rr) (hp : M[p]? = some Rp) : ∀ a ∈ preStep M r p k, a.length = N := by
 intro a ha
 obtain ⟨i, hi⟩ := List.mem_iff_getElem?.1 ha
 by_cases hir : i = r
 ·subst hir
  rw [pre_r hr hp] at hi
  injection hi with hi
  subst hi
  rw [divR_len]
  exact hw _ (List.mem_of_getElem? hp)
 ·obtain ⟨s, hs, _⟩ := pre_src hr hp hir hi
  exact hw _ (List.mem_of_getElem? hs)
theorem col_width (hw : ∀ a ∈ M, a.length = N) (hr : M[r]? = some Rr) (hp : M[p]? = some Rp) : ∀ a ∈ colStep M r p k, a.length = N := by
 intro a ha
 obtain ⟨i, hi⟩ := List.mem_iff_getElem?.1 ha
 obtain ⟨b, hb, rfl⟩ := col_at hp hi
 have h1 := pre_width (k := k) hw hr hp b (List.mem_of_getElem? hb)
 have h2 := hw _ (List.mem_of_getElem? hp)
 split
 ·exact h1
 ·rw [subR_len (by rw [divR_len, h1, h2]), h1]
theorem divR_dot {n : Nat} {d : Rat} {row : List Rat} (h : n ≤ row.length) (x : Fn) : dotn n (vf (divR d row)) x = (1 / d) * dotn n (vf row) x := by
 rw [← dotn_mull]
 exact dotn_congr (fun i hi => by rw [divR_vf (by omega)]; grind) fun _ _ => rfl
theorem subR_dot {n : Nat} {f : Rat} {R row : List Rat} (h : n ≤ row.length) (hl : R.length = row.length) (x : Fn) : dotn n (vf (subR f R row)) x = dotn n (vf row) x + (-f) * dotn n (vf R) x := by
 rw [← dotn_mull, ← dotn_addl]
 exact dotn_congr (fun i hi => by rw [subR_vf (by omega) hl]; grind) fun _ _ => rfl
theorem col_ker {n : Nat} (hn : n ≤ N) (hw : ∀ a ∈ M, a.length = N) (hr : M[r]? = some Rr) (hp : M[p]? = some Rp) (hd : vf Rp k ≠ 0) (x : Fn) : Ker n (vfs (colStep M r p k)) x ↔ Ker n (vfs M) x := by
 have hpl := hw _ (List.mem_of_getElem? hp)
 rw [ker_iff, ker_iff]
 constructor
 ·intro h
  have hR : dotn n (vf (divR (vf Rp k) Rp)) x = 0 := by
   have := h r _ (col_get hp (pre_r hr hp))
   rwa [if_pos rfl] at this
  have hP : dotn n (vf Rp) x = 0 := by
   rw [divR_dot (by omega)] at hR
   generalize vf Rp k = d at *
   grind
  intro i a ha
  by_cases hip : i = p
  ·subst hip
   rw [hp] at ha; injection ha with ha; subst ha
   exact hP
  ·have hal := hw _ (List.mem_of_getElem? ha)
   have key : ∀ s, s ≠ r → (preStep M r p k)[s]? = some a → dotn n (vf a) x = 0 := fun s hs hsa => by
    have := h s _ (col_get hp hsa)
    rw [if_neg hs, subR_dot (by omega) (by rw [divR_len, hpl, hal]), hR, Rat.mul_zero, Rat.add_zero] at this
    exact this
   by_cases hir : i = r
   ·subst hir
    rw [hr] at ha; injection ha with ha; subst ha
    exact key p (fun e => hip e.symm) (pre_p hr hp hip)
   ·exact key i hir (by rw [pre_off hir hip]; exact ha)
 ·intro h i a' ha'
  have hR : dotn n (vf (divR (vf Rp k) Rp)) x = 0 := by rw [divR_dot (by omega), h p Rp hp, Rat.mul_zero]
  obtain ⟨a, ha, rfl⟩ := col_at hp ha'
  by_cases hir : i = r
  ·subst hir
   rw [if_pos rfl]
   rw [pre_r hr hp] at ha; injection ha with ha; subst ha
   exact hR
  ·rw [if_neg hir]
   obtain ⟨s, hs, _⟩ := pre_src hr hp hir ha
   have hal := hw _ (List.mem_of_getElem? hs)
   rw [subR_dot (by omega) (by rw [divR_len, hpl, hal]), h s a hs, hR, Rat.mul_zero, Rat.add_zero]
theorem col_ech {piv : List Nat} (E : Ech (vfs M) piv k) (hw : ∀ a ∈ M, a.length = N) (hk : k < N) (hrl : r = piv.length) (hr : M[r]? = some Rr) (hp : M[p]? = some Rp) (hrp : r ≤ p) (hd : vf Rp k ≠ 0) : Ech (vfs (colStep M r p k)) (piv ++ [k]) (k + 1) := by
 have hpl := hw _ (List.mem_of_getElem? hp)
 have hRz : ∀ j, j < k → vf (divR (vf Rp k) Rp) j = 0 := fun j hj => by
  rw [divR_vf (by omega), E.rest p _ (vfs_get hp) (by omega) j hj]
  exact Rat.div_def 0 _ ▸ Rat.zero_mul _
 have hR1 : vf (divR (vf Rp k) Rp) k = 1 := by
  rw [divR_vf (by omega)]
  generalize vf Rp k = d at *
  grind
 have row : ∀ i a', (colStep M r p k)[i]? = some a' → i ≠ r → ∃ s a, M[s]? = some a ∧ (s = i ∨ (i = p ∧ s = r)) ∧ vf a' k = 0 ∧ ∀ j, j < k → vf a' j = vf a j := fun i a' ha' hir => by
  obtain ⟨a, ha, rfl⟩ := col_at hp ha'
  obtain ⟨s, hs, _, h2⟩ := pre_src hr hp hir ha
  have hal := hw _ (List.mem_of_getElem? hs)
  refine ⟨s, a, hs, h2, ?_, fun j hj => ?_⟩
  ·rw [if_neg hir, subR_vf (by omega) (by rw [divR_len, hpl, hal]), hR1]; grind
  ·rw [if_neg hir, subR_vf (by omega) (by rw [divR_len, hpl, hal]), hRz j hj]; grind
 have prow : ∀ a', (colStep M r p k)[r]? = some a' → a' = divR (vf Rp k) Rp := fun a' ha' => by
  obtain ⟨a, ha, rfl⟩ := col_at hp ha'
  rw [if_pos rfl]
  rw [pre_r hr hp] at ha; injection ha with ha; exact ha.symm
 have pv : ∀ t q, (piv ++ [k])[t]? = some q → (t < piv.length ∧ piv[t]? = some q ∧ q < k) ∨ (t = r ∧ q = k) := fun t q h => by
  rcases Nat.lt_or_ge t piv.length with hlt | hge
  ·rw [List.getElem?_append_left hlt] at h
   exact .inl ⟨hlt, h, E.lt q (List.mem_of_getElem? h)⟩
  ·rw [List.getElem?_append_right hge] at h
   have : t - piv.length = 0 := by
    have := (List.getElem?_eq_some_iff.1 h).1
    simp at this; omega
   rw [this] at h
   simp at h
   exact .inr ⟨by omega, h.symm⟩
 have hrM := (List.getElem?_eq_some_iff.1 hr).1
 refine ⟨?_, ?_, ?_, ?_, ?_, ?_, ?_⟩
 ·rw [vfs_len, colStep_len, List.length_append, List.length_singleton]; omega
 ·rw [List.pairwise_append]
  exact ⟨E.inc, List.pairwise_singleton _ _, fun a ha b hb => by rw [List.mem_singleton.1 hb]; exact E.lt a ha⟩
 ·intro q hq
  rcases List.mem_append.1 hq with h | h
  ·have := E.lt q h; omega
  ·rw [List.mem_singleton.1 h]; omega
 ·intro t q f h1 h2
  obtain ⟨a', ha', rfl⟩ := vfs_at h2
  rcases pv t q h1 with ⟨hlt, hq, hqk⟩ | ⟨rfl, rfl⟩
  ·obtain ⟨s, a, hs, hsi, _, hj⟩ := row t a' ha' (by omega)
   rw [hj q hqk]
   rcases hsi with rfl | ⟨e1, e2⟩
   ·exact E.one s q _ hq (vfs_get hs)
   ·omega
  ·rw [prow a' ha']; exact hR1
 ·intro t q i f h1 h2 hit
  obtain ⟨a', ha', rfl⟩ := vfs_at h2
  rcases pv t q h1 with ⟨hlt, hq, hqk⟩ | ⟨rfl, rfl⟩
  ·by_cases hir : i = r
   ·subst hir
    rw [prow a' ha']; exact hRz q hqk
   ·obtain ⟨s, a, hs, hsi, _, hj⟩ := row i a' ha' hir
    rw [hj q hqk]
    refine E.zer t q s _ hq (vfs_get hs) ?_
    rcases hsi with rfl | ⟨e1, e2⟩
    ·exact hit
    ·omega
  ·obtain ⟨s, a, _, _, h0, _⟩ := row i a' ha' hit
   exact h0
 ·intro t q f h1 h2 j hj
  obtain ⟨a', ha', rfl⟩ := vfs_at h2
  rcases pv t q h1 with ⟨hlt, hq, hqk⟩ | ⟨rfl, rfl⟩
  ·obtain ⟨s, a, hs, hsi, _, hjj⟩ := row t a' ha' (by omega)
   rw [hjj j (by omega)]
   rcases hsi with rfl | ⟨e1, e2⟩
   ·exact E.low s q _ hq (vfs_get hs) j hj
   ·omega
  ·rw [prow a' ha']; exact hRz j hj
 ·intro i f h2 hi j hj
  obtain ⟨a', ha', rfl⟩ := vfs_at h2
  rw [List.length_append, List.length_singleton] at hi
  obtain ⟨s, a, hs, hsi, h0, hjj⟩ := row i a' ha' (by omega)
  by_cases hjk : j = k
  ·subst hjk; exact h0
  ·rw [hjj j (by omega)]
   refine E.rest s _ (vfs_get hs) ?_ j (by omega)
   rcases hsi with rfl | ⟨e1, e2⟩ <;> omega
theorem skip_ech {piv : List Nat} (E : Ech (vfs M) piv k) (h : ∀ i a, M[i]? = some a → piv.length ≤ i → vf a k = 0) : Ech (vfs M) piv (k + 1) :=
 ⟨E.le, E.inc, fun p hp => Nat.lt_succ_of_lt (E.lt p hp), E.one, E.zer, E.low, fun i f hf hi j hj => by
  obtain ⟨a, ha, rfl⟩ := vfs_at hf
  by_cases hjk : j = k
  ·subst hjk; exact h i a ha hi
  ·exact E.rest i _ (vfs_get ha) hi j (by omega)⟩
theorem full_ech {piv : List Nat} {n : Nat} (E : Ech (vfs M) piv k) (h : piv.length = M.length) (hk : k ≤ n) : Ech (vfs M) piv n :=
 ⟨E.le, E.inc, fun p hp => Nat.lt_of_lt_of_le (E.lt p hp) hk, E.one, E.zer, E.low, fun i f hf hi j hj => by
  have := (List.getElem?_eq_some_iff.1 hf).1
  rw [vfs_len] at this
  omega⟩
theorem start_ech (M : List (List Rat)) : Ech (vfs M) [] 0 :=
 ⟨Nat.zero_le _, List.Pairwise.nil, fun p hp => (by cases hp), fun t p a h => by simp at h, fun t p i a h => by simp at h, fun t p a h => by simp at h, fun i a h hi j hj => by omega⟩
end
end
section
def pivR (M : List (List Rat)) (r k : Nat) : Nat := r + (M.drop r).findIdx fun row => vf row k != 0
def redGo : Nat → List (List Rat) → List Nat → Nat → List (List Rat) × List Nat
 | 0, M, piv, _ => (M, piv)
 | s + 1, M, piv, k => if piv.length < M.length then (if pivR M piv.length k = M.length then redGo s M piv (k + 1) else redGo s (colStep M piv.length (pivR M piv.length k) k) (piv ++ [k]) (k + 1)) else (M, piv)
def redR (M : List (List Rat)) (cols : Nat) : List (List Rat) × List Nat := redGo cols M [] 0
def widthR (M : List (List Rat)) : Nat := match M with | [] => 0 | a :: _ => a.length
def rankR (M : List (List Rat)) : Nat := (redR M (widthR M)).2.length
theorem pivR_le {M : List (List Rat)} {r k : Nat} (h : r ≤ M.length) : r ≤ pivR M r k ∧ pivR M r k ≤ M.length := by
 unfold pivR
 have h1 : (M.drop r).findIdx (fun row => vf row k != 0) ≤ (M.drop r).length := List.findIdx_le_length
 rw [List.length_drop] at h1
 omega
theorem pivR_none {M : List (List Rat)} {r k : Nat} (h : r ≤ M.length) (hp : pivR M r k = M.length) : ∀ (i : Nat) (a : List Rat), M[i]? = some a → r ≤ i → vf a k = 0 := by
 intro i a hi hri
 have hlt := (List.getElem?_eq_some_iff.1 hi).1
 have h2 : (M.drop r).findIdx (fun row => vf row k != 0) = (M.drop r).length := by unfold pivR at hp; rw [List.length_drop]; omega
 have h3 := List.findIdx_eq_length.1 h2 a (List.mem_of_getElem? (i := i - r) (by rw [List.getElem?_drop]; rw [show r + (i - r) = i from by omega]; exact hi))
 simpa using h3
theorem pivR_some {M : List (List Rat)} {r k : Nat} (h : r ≤ M.length) (hp : pivR M r k ≠ M.length) : ∃ a, M[pivR M r k]? = some a ∧ vf a k ≠ 0 := by
 have h1 := pivR_le (k := k) h
 have h2 : (M.drop r).findIdx (fun row => vf row k != 0) < (M.drop r).length := by
  have : (M.drop r).findIdx (fun row => vf row k != 0) ≤ (M.drop r).length := List.findIdx_le_length
  rw [List.length_drop] at *
  unfold pivR at *
  omega
 have h3 := List.findIdx_getElem (p := fun row => vf row k != 0) (xs := M.drop r) (w := h2)
 refine ⟨_, List.getElem?_eq_getElem (by omega), ?_⟩
 rw [List.getElem_drop] at h3
 simpa [pivR] using h3
theorem pivR_before {M : List (List Rat)} {r k i : Nat} {a : List Rat} (hi : M[i]? = some a) (h1 : r ≤ i) (h2 : i < pivR M r k) : vf a k = 0 := by
 have h3 := List.not_of_lt_findIdx (p := fun row => vf row k != 0) (xs := M.drop r) (i := i - r) (by unfold pivR at h2; omega)
 have hlt := (List.getElem?_eq_some_iff.1 hi).1
 rw [List.getElem_drop] at h3
 have : M[r + (i - r)]'(by omega) = a := by
  have e : r + (i - r) = i := by omega
  have := (List.getElem?_eq_some_iff.1 hi).2
  simp only [e]; exact this
 rw [this] at h3
 simpa using h3
theorem pivR_at {M : List (List Rat)} {r k p : Nat} {a : List Rat} (hr : r ≤ p) (hp : M[p]? = some a) (ha : vf a k ≠ 0) (hb : ∀ (i : Nat) (b : List Rat), M[i]? = some b → r ≤ i → i < p → vf b k = 0) : pivR M r k = p := by
 have hlt := (List.getElem?_eq_some_iff.1 hp).1
 have h1 := pivR_le (M := M) (r := r) (k := k) (by omega)
 rcases Nat.lt_trichotomy (pivR M r k) p with h | h | h
 ·obtain ⟨b, hb1, hb2⟩ := pivR_some (M := M) (r := r) (k := k) (by omega) (by omega)
  exact absurd (hb _ b hb1 h1.1 h) hb2
 ·exact h
 ·exact absurd (pivR_before hp hr h) ha
theorem pivR_end {M : List (List Rat)} {r k : Nat} (hr : r ≤ M.length) (hb : ∀ (i : Nat) (b : List Rat), M[i]? = some b → r ≤ i → vf b k = 0) : pivR M r k = M.length := by
 refine Classical.byContradiction fun h => ?_
 obtain ⟨a, h1, h2⟩ := pivR_some hr h
 exact h2 (hb _ a h1 (pivR_le hr).1)
structure RedOk (M0 M : List (List Rat)) (N : Nat) (piv : List Nat) (k : Nat) : Prop where
 ech : Ech (vfs M) piv k
 wid : ∀ a ∈ M, a.length = N
 ker : ∀ n, n ≤ N → ∀ x, Ker n (vfs M) x ↔ Ker n (vfs M0) x
 len : M.length = M0.length
theorem redOk_start {M : List (List Rat)} {N : Nat} (h : ∀ a ∈ M, a.length = N) : RedOk M M N [] 0 := ⟨start_ech M, h, fun _ _ _ => Iff.rfl, rfl⟩
theorem RedOk.skip {M0 M : List (List Rat)} {N k : Nat} {piv : List Nat} (h : RedOk M0 M N piv k) (hp : pivR M piv.length k = M.length) : RedOk M0 M N piv (k + 1) :=
 ⟨skip_ech h.ech (pivR_none (by have := h.ech.le; rwa [vfs_len] at this) hp), h.wid, h.ker, h.len⟩
theorem RedOk.step {M0 M : List (List Rat)} {N k : Nat} {piv : List Nat} (h : RedOk M0 M N piv k) (hk : k < N) (hl : piv.length < M.length) (hp : pivR M piv.length k ≠ M.length) : RedOk M0 (colStep M piv.length (pivR M piv.length k) k) N (piv ++ [k]) (k + 1) := by
 obtain ⟨Rp, hRp, hd⟩ := pivR_some (Nat.le_of_lt hl) hp
 obtain ⟨Rr, hRr⟩ : ∃ Rr, M[piv.length]? = some Rr := ⟨_, List.getElem?_eq_getElem hl⟩
 have h1 := pivR_le (M := M) (k := k) (Nat.le_of_lt hl)
 exact ⟨col_ech h.ech h.wid hk rfl hRr hRp h1.1 hd, col_width h.wid hRr hRp, fun n hn x => (col_ker hn h.wid hRr hRp hd x).trans (h.ker n hn x), (colStep_len ..).trans h.len⟩
theorem RedOk.full {M0 M : List (List Rat)} {N k n : Nat} {piv : List Nat} (h : RedOk M0 M N piv k) (hl : ¬ piv.length < M.length) (hk : k ≤ n) : RedOk M0 M N piv n :=
 ⟨full_ech h.ech (by have := h.ech.le; rw [vfs_len] at this; omega) hk, h.wid, h.ker, h.len⟩
theorem redGo_ok : ∀ (s : Nat) {M0 M : List (List Rat)} {N k : Nat} {piv : List Nat}, RedOk M0 M N piv k → k + s ≤ N → RedOk M0 (redGo s M piv k).1 N (redGo s M piv k).2 (k + s)
 | 0, _, _, _, _, _, h, _ => h
 | s + 1, M0, M, N, k, piv, h, hk => by
  unfold redGo
  by_cases hl : piv.length < M.length
  ·rw [if_pos hl]
   by_cases hp : pivR M piv.length k = M.length
   ·rw [if_pos hp]
    have := redGo_ok s (h.skip hp) (by omega)
    rwa [show k + 1 + s = k + (s + 1) from by omega] at this
   ·rw [if_neg hp]
    have := redGo_ok s (h.step (by omega) hl hp) (by omega)
    rwa [show k + 1 + s = k + (s + 1) from by omega] at this
  ·rw [if_neg hl]
   exact h.full hl (by omega)
theorem redR_ok {M : List (List Rat)} {N cols : Nat} (h : ∀ a ∈ M, a.length = N) (hc : cols ≤ N) : RedOk M (redR M cols).1 N (redR M cols).2 cols := by
 have := redGo_ok cols (redOk_start h) (by omega)
 rwa [Nat.zero_add] at this
end
section
open Go
def pstep (u : Nat) (m : Int) (s : List Int × List Nat) (x : Nat × Nat) : List Int × List Nat :=
 if (x.1 = u ∨ x.2 = u) ∧ s.1.getD (x.1 + x.2 - u) 0 < 0 then (s.1.set (x.1 + x.2 - u) m, s.2 ++ [x.1 + x.2 - u]) else s
def pscan (u : Nat) (m : Int) (es : List (Nat × Nat)) (s : List Int × List Nat) : List Int × List Nat := es.foldl (pstep u m) s
def pbfs (m : Int) (es : List (Nat × Nat)) : Nat → List Int → List Nat → List Int
 | 0, out, _ => out
 | _ + 1, out, [] => out
 | f + 1, out, u :: q => pbfs m es f (pscan u m es (out, q)).1 (pscan u m es (out, q)).2
def pgo (n : Nat) (es : List (Nat × Nat)) : Nat → Nat → List Int × Int → List Int × Int
 | 0, _, s => s
 | k + 1, i, s => if 0 ≤ s.1.getD i 0 then pgo n es k (i + 1) s else pgo n es k (i + 1) (pbfs s.2 es (n + 1) (s.1.set i s.2) [i], s.2 + 1)
def partsR (n : Nat) (es : List (Nat × Nat)) : List Int := (pgo n es n 0 (List.replicate n (-1), 0)).1
def negs (l : List Int) : Nat := (l.filter (· < 0)).length
theorem negs_set : ∀ (l : List Int) (i : Nat) (m : Int), 0 ≤ m → i < l.length → l.getD i 0 < 0 → negs (l.set i m) + 1 = negs l
 | [], i, m, _, h, _ => by simp at h
 | x :: r, 0, m, hm, _, h => by
  have hx : x < 0 := by simpa using h
  have h1 : ¬ m < 0 := by omega
  simp [negs, hx, h1]
 | x :: r, i + 1, m, hm, hl, h => by
  have ih := negs_set r i m hm (by simpa using hl) (by simpa using h)
  unfold negs at ih ⊢
  rw [List.set_cons_succ]
  by_cases hx : x < 0 <;> simp [List.filter_cons, hx] <;> omega
structure Ps (n : Nat) (m : Int) (out : List Int) (q : List Nat) : Prop where
 len : out.length = n
 lt : ∀ u ∈ q, u < n
 bd : ∀ x ∈ out, -1 ≤ x ∧ x ≤ m
theorem pstep_ok {n u : Nat} {m : Int} {s : List Int × List Nat} {x : Nat × Nat} (hm : 0 ≤ m) (hx : x.1 < n ∧ x.2 < n) (h : Ps n m s.1 s.2) :
    Ps n m (pstep u m s x).1 (pstep u m s x).2 ∧ (pstep u m s x).2.length + negs (pstep u m s x).1 = s.2.length + negs s.1 ∧ s.2.length ≤ (pstep u m s x).2.length := by
 unfold pstep
 split
 ·rename_i hc
  have ho : x.1 + x.2 - u < n := by omega
  refine ⟨⟨by simp [h.len], fun v hv => ?_, fun y hy => ?_⟩, ?_, by simp⟩
  ·rcases List.mem_append.1 hv with hv | hv
   ·exact h.lt v hv
   ·rw [List.mem_singleton.1 hv]; exact ho
  ·rcases List.mem_or_eq_of_mem_set hy with hy | rfl
   ·exact h.bd y hy
   ·omega
  ·have := negs_set s.1 _ m hm (by rw [h.len]; exact ho) hc.2
   simp; omega
 ·exact ⟨h, rfl, Nat.le_refl _⟩
theorem pscan_ok {n u : Nat} {m : Int} (hm : 0 ≤ m) : ∀ {es : List (Nat × Nat)} {s : List Int × List Nat}, (∀ x ∈ es, x.1 < n ∧ x.2 < n) → Ps n m s.1 s.2 →
    Ps n m (pscan u m es s).1 (pscan u m es s).2 ∧ (pscan u m es s).2.length + negs (pscan u m es s).1 = s.2.length + negs s.1
 | [], s, _, h => ⟨h, rfl⟩
 | x :: r, s, hx, h => by
  have h1 := pstep_ok (u := u) hm (hx x (List.mem_cons_self ..)) h
  have h2 := pscan_ok (u := u) hm (fun y hy => hx y (List.mem_cons_of_mem _ hy)) h1.1
  exact ⟨h2.1, h2.2.trans h1.2.1⟩
theorem pbfs_ok {n : Nat} {m : Int} (hm : 0 ≤ m) {es : List (Nat × Nat)} (hx : ∀ x ∈ es, x.1 < n ∧ x.2 < n) : ∀ (f : Nat) {out : List Int} {q : List Nat}, Ps n m out q → (pbfs m es f out q).length = n ∧ (∀ x ∈ pbfs m es f out q, -1 ≤ x ∧ x ≤ m)
 | 0, out, q, h => ⟨h.len, h.bd⟩
 | f + 1, out, [], h => ⟨h.len, h.bd⟩
 | f + 1, out, u :: q, h => by
  have h1 : Ps n m out q := ⟨h.len, fun v hv => h.lt v (List.mem_cons_of_mem _ hv), h.bd⟩
  exact pbfs_ok hm hx f (pscan_ok (s := (out, q)) hm hx h1).1
theorem negs_le (l : List Int) : negs l ≤ l.length := List.length_filter_le _ _
theorem pstep_keep {u : Nat} {m : Int} (hm : 0 ≤ m) (s : List Int × List Nat) (x : Nat × Nat) {j : Nat} (h : 0 ≤ s.1.getD j 0) : 0 ≤ (pstep u m s x).1.getD j 0 := by
 unfold pstep
 split
 ·simp only [List.getD_eq_getElem?_getD] at h ⊢
  rw [List.getElem?_set]
  split
  ·split
   ·simpa using hm
   ·simp
  ·exact h
 ·exact h
theorem pscan_keep {u : Nat} {m : Int} (hm : 0 ≤ m) : ∀ (es : List (Nat × Nat)) (s : List Int × List Nat) {j : Nat}, 0 ≤ s.1.getD j 0 → 0 ≤ (pscan u m es s).1.getD j 0
 | [], s, j, h => h
 | x :: r, s, j, h => pscan_keep hm r (pstep u m s x) (pstep_keep hm s x h)
theorem pbfs_keep {m : Int} (hm : 0 ≤ m) (es : List (Nat × Nat)) : ∀ (f : Nat) (out : List Int) (q : List Nat) {j : Nat}, 0 ≤ out.getD j 0 → 0 ≤ (pbfs m es f out q).getD j 0
 | 0, out, q, j, h => h
 | f + 1, out, [], j, h => h
 | f + 1, out, u :: q, j, h => pbfs_keep hm es f _ _ (pscan_keep hm es (out, q) h)
theorem pgo_ok {n : Nat} {es : List (Nat × Nat)} (hx : ∀ x ∈ es, x.1 < n ∧ x.2 < n) : ∀ (k i : Nat) (s : List Int × Int), s.1.length = n → i + k = n → (∀ x ∈ s.1, -1 ≤ x ∧ x < s.2) → 0 ≤ s.2 → s.2 ≤ i → (∀ j, j < i → 0 ≤ s.1.getD j 0) →
    (pgo n es k i s).1.length = n ∧ (∀ x ∈ (pgo n es k i s).1, -1 ≤ x ∧ x < n) ∧ ∀ j, j < n → 0 ≤ (pgo n es k i s).1.getD j 0
 | 0, i, s, hl, hi, hb, h0, h1, hj => by
  refine ⟨hl, fun x hx => ?_, fun j h => hj j (by omega)⟩
  have := hb x hx
  omega
 | k + 1, i, s, hl, hi, hb, h0, h1, hj => by
  unfold pgo
  split
  ·rename_i hz
   exact pgo_ok hx k (i + 1) s hl (by omega) hb h0 (by omega) (fun j h => by
    by_cases hji : j = i
    ·subst hji; exact hz
    ·exact hj j (by omega))
  ·rename_i hz
   have hin : i < s.1.length := by omega
   have hps : Ps n s.2 (s.1.set i s.2) [i] := ⟨by simp [hl], fun v hv => (by rw [List.mem_singleton.1 hv]; omega), fun x hx => by
    rcases List.mem_or_eq_of_mem_set hx with hx | rfl
    ·have := hb x hx; omega
    ·omega⟩
   have h2 := pbfs_ok h0 hx (n + 1) hps
   refine pgo_ok hx k (i + 1) _ h2.1 (by omega) (fun x hx => (by have := h2.2 x hx; show _ ∧ _ < s.2 + 1; omega)) (by show 0 ≤ s.2 + 1; omega) (by show s.2 + 1 ≤ _; omega) (fun j h => ?_)
   refine pbfs_keep h0 es _ _ _ ?_
   rw [List.getD_eq_getElem?_getD, List.getElem?_set]
   by_cases hji : i = j
   ·subst hji
    rw [if_pos rfl, if_pos hin]; exact h0
   ·rw [if_neg hji, ← List.getD_eq_getElem?_getD]
    exact hj j (by omega)
theorem parts_ok {n : Nat} {es : List (Nat × Nat)} (hx : ∀ x ∈ es, x.1 < n ∧ x.2 < n) : (partsR n es).length = n ∧ ∀ x ∈ partsR n es, 0 ≤ x ∧ x < n := by
 obtain ⟨h1, h2, h3⟩ := pgo_ok hx n 0 (List.replicate n (-1), 0) (by simp) (by omega) (fun x hx => (by rw [List.eq_of_mem_replicate hx]; exact ⟨by omega, show (-1 : Int) < 0 by omega⟩)) (by show (0 : Int) ≤ 0; omega) (by show (0 : Int) ≤ _; omega) (fun j h => by omega)
 refine ⟨h1, fun x hx => ?_⟩
 have h4 := h2 x hx
 obtain ⟨j, hj⟩ := List.mem_iff_getElem?.1 hx
 have hjl := (List.getElem?_eq_some_iff.1 hj).1
 have h5 := h3 j (by unfold partsR at hjl; omega)
 rw [List.getD_eq_getElem?_getD, show (pgo n es n 0 (List.replicate n (-1), 0)).1[j]? = some x from hj] at h5
 exact ⟨h5, h4.2⟩
def topR (l : List Int) : Int := l.foldl (fun a b => max a (b + 1)) 0
theorem foldl_max (l : List Int) : ∀ a : Int, a ≤ l.foldl (fun a b => max a (b + 1)) a ∧ (∀ b ∈ l, b < l.foldl (fun a b => max a (b + 1)) a) ∧ ∀ c, a ≤ c → (∀ b ∈ l, b < c) → l.foldl (fun a b => max a (b + 1)) a ≤ c := by
 induction l with
 | nil => intro a; exact ⟨Int.le_refl _, fun _ h => (by cases h), fun c h _ => h⟩
 | cons x r ih =>
  intro a
  obtain ⟨h1, h2, h3⟩ := ih (max a (x + 1))
  rw [List.foldl_cons]
  refine ⟨by omega, fun b hb => ?_, fun c hc hb => h3 c ?_ (fun b h => hb b (List.mem_cons_of_mem _ h))⟩
  ·rcases List.mem_cons.1 hb with rfl | hb
   ·omega
   ·exact h2 b hb
  ·have := hb x (List.mem_cons_self ..); omega
theorem topR_ok (l : List Int) : 0 ≤ topR l ∧ (∀ b ∈ l, b < topR l) ∧ ∀ c, 0 ≤ c → (∀ b ∈ l, b < c) → topR l ≤ c := foldl_max l 0
end
section
open Go.ChangeShapes Go.WideShapes Go.ChangeAt Go.RowKit Go.Deep
structure Qu (w : World) (base : Nat) (v : Value) (xs : List Value) : Prop where
 ex : ∃ g off cap, v = .slice (some ⟨g, off, none⟩) xs.length cap ∧ base ≤ g ∧ g < w.heap.size ∧ xs.length ≤ cap ∧ cap ≤ maxLen ∧ (∀ j, j < cap → (w.cell? ⟨g, off + j, none⟩).isSome = true ∧ w.frozen? ⟨g, off + j, none⟩ = false) ∧ ∀ (j : Nat) (u : Value), xs[j]? = some u → w.cell? ⟨g, off + j, none⟩ = some u
theorem Qu.up {w w' : World} {base : Nat} {v : Value} {xs : List Value} (h : Qu w base v xs) (hb : Below w.heap.size w w') : Qu w' base v xs := by
 obtain ⟨g, off, cap, h1, h2, h3, h4, h5, h6, h7⟩ := h.ex
 exact ⟨g, off, cap, h1, h2, Nat.lt_of_lt_of_le h3 hb.size, h4, h5, fun j hj => by rw [hb.cell h3, hb.frozen h3]; exact h6 j hj, fun j u hu => by rw [hb.cell h3]; exact h7 j u hu⟩
theorem Qu.tail {w : World} {base g off n cap : Nat} {x : Value} {xs : List Value} (h : Qu w base (.slice (some ⟨g, off, none⟩) n cap) (x :: xs)) : Qu w base (.slice (if cap = 1 then some ⟨g, off, none⟩ else some ⟨g, off + 1, none⟩) (n - 1) (cap - 1)) xs := by
 obtain ⟨g', off', cap', h1, h2, h3, h4, h5, h6, h7⟩ := h.ex
 injection h1 with e1 e2 e3
 injection e1 with e1
 injection e1 with e4 e5
 subst e2; subst e3; subst e4; subst e5
 simp only [List.length_cons, Nat.add_sub_cancel] at h4 ⊢
 by_cases hc : cap = 1
 ·have hx : xs.length = 0 := by omega
  rw [if_pos hc]
  refine ⟨g, off, cap - 1, rfl, h2, h3, by omega, by omega, fun j hj => by omega, fun j u hu => ?_⟩
  have := (List.getElem?_eq_some_iff.1 hu).1
  omega
 ·rw [if_neg hc]
  refine ⟨g, off + 1, cap - 1, rfl, h2, h3, by omega, by omega, fun j hj => ?_, fun j u hu => ?_⟩
  ·rw [Nat.add_assoc, Nat.add_comm 1 j]; exact h6 (j + 1) (by omega)
  ·rw [Nat.add_assoc, Nat.add_comm 1 j]; exact h7 (j + 1) u (by simpa using hu)
theorem run_append_q {P : Program} (w : World) (base : Nat) (t ty e : TypeId) (i : TypeInfo) (z : Value) (ht : P.underlying t = some (.slice e)) (hi : P.info? e = some i) (hz : i.zero = some z) (hsize : i.size = 1) (hby : i.bytes ≤ 16) (hzs : z.cells.size = 1)
    (v : Value) (xs : List Value) (h : Qu w base v xs) (a : Addr) (c : Nat) (u : Value) (hu : w.cell? a = some u) (h1 : u.oneCell' = true) (ha : a.spot = none) (hlen : xs.length ≤ 1000000) (hbase : base ≤ w.heap.size) :
    ∃ v' w', (Builtin.append_ #[t, t] ty #[v, .slice (some a) 1 c]).run P w = .ok v' w' ∧ Qu w' base v' (xs ++ [u]) ∧ Below base w w' ∧ ∀ g off n cap, v = .slice (some ⟨g, off, none⟩) n cap → w.grownBy w' (some g) := by
 obtain ⟨g, off, cap, rfl, h2, h3, h4, h5, h6, h7⟩ := h.ex
 have hnews : ∀ (j : Nat) (x : Value), ([u] : List Value)[j]? = some x → w.cell? (a.add j) = some x := fun j x hx => by
  have hj : j = 0 := by have := (List.getElem?_eq_some_iff.1 hx).1; simpa using this
  subst hj
  simp at hx
  subst hx
  obtain ⟨ab, ao, asp⟩ := a
  simp only at ha
  subst ha
  rw [Addr.add_lit, Nat.add_zero]
  exact hu
 have hsrc : Src P i.size t (.slice (some a) 1 c) 1 [u] w := Src.ofSlice w ht a 1 c [u] (by rw [hsize]; rfl) hnews (fun x hx => by rw [List.mem_singleton.1 hx]; exact h1)
 by_cases hroom : xs.length + 1 ≤ cap
 ·have hr := run_append_room_src (P := P) w t t ty e i ht hi g off xs.length cap _ 1 [u] hsrc hroom
   (fun j hj => by
    have hj0 : j = 0 := by simpa using hj
    subst hj0
    rw [hsize, Nat.mul_one, Nat.add_zero]; exact (h6 xs.length (by omega)).1)
   (fun j hj => by
    have hj0 : j = 0 := by simpa using hj
    subst hj0
    rw [hsize, Nat.mul_one, Nat.add_zero]; exact (h6 xs.length (by omega)).2)
  rw [hsize, Nat.mul_one] at hr
  have hin := World.cell?_setCells_in g [u] (off + xs.length) w (fun j hj => by
   have hj0 : j = 0 := by simpa using hj
   subst hj0
   rw [Nat.add_zero]; exact (h6 xs.length (by omega)).1) 0 (by simp)
  rw [Nat.add_zero] at hin
  have hb : Below base w (w.setCells g (off + xs.length) [u]) := (Below.refl base w).setCell (p := ⟨g, off + xs.length, none⟩) h2 u
  have hcell : ∀ j, j ≠ xs.length → (w.setCells g (off + xs.length) [u]).cell? ⟨g, off + j, none⟩ = w.cell? ⟨g, off + j, none⟩ := fun j hj => World.cell?_setCells_out g [u] (off + xs.length) w _ (fun _ _ => by simp only [List.length_singleton]; omega)
  refine ⟨_, _, hr, ⟨g, off, cap, by rw [List.length_append]; rfl, h2, Nat.lt_of_lt_of_le h3 hb.size, by rw [List.length_append]; simpa using hroom, h5, fun j hj => ⟨?_, ?_⟩, fun j x hx => ?_⟩, hb, ?_⟩
  ·by_cases hje : j = xs.length
   ·subst hje; rw [hin]; rfl
   ·rw [hcell j hje]; exact (h6 j hj).1
  ·rw [World.frozen?_setCells]; exact (h6 j hj).2
  ·by_cases hje : j = xs.length
   ·subst hje
    rw [hin]
    simp at hx
    rw [← hx]; rfl
   ·have hl : j < xs.length := by have := (List.getElem?_eq_some_iff.1 hx).1; rw [List.length_append, List.length_singleton] at this; omega
    rw [hcell j hje]
    rw [List.getElem?_append_left hl] at hx
    exact h7 j x hx
  ·intro g' off' n' cap' e
   injection e with e _ _
   injection e with e
   injection e with e _
   subst e
   exact only_setCell (p := ⟨g, off + xs.length, none⟩) (World.grownBy.refl w (some g)) (.inl rfl) u
 ·have hold : (Builtin.firstCells i.size xs.length (.slice (some ⟨g, off, none⟩) xs.length cap)).run P w.drew = .ok xs.toArray w.drew :=
   run_firstCells_some w.drew i.size xs.length ⟨g, off, none⟩ xs.length cap xs (by rw [hsize, Nat.mul_one]) (fun j x hx => by rw [Addr.add_lit]; exact h7 j x hx)
  have hr := run_append_grow_src (P := P) w t t ty e i z ht hi hz (some ⟨g, off, none⟩) xs.length cap xs hold _ 1 [u] hsrc (by omega) (by omega)
   (growslice_fits_wide (by omega) (Nat.le_trans (Nat.mul_le_mul_left _ hby) (by omega)))
  have hge := grownCap_ge w (xs.length + 1) cap e
  have hcm : grownCap w (xs.length + 1) cap e ≤ maxLen := grownCap_le_maxLen w (xs.length + 1) cap e (by simp only [maxLen]; omega)
  generalize grownCap w (xs.length + 1) cap e = gc at *
  have hblk := Blk.new w.drew e ((xs ++ [u]).toArray ++ Builtin.zeroCells z.cells (gc - (xs.length + 1)))
  have hsz : ((xs ++ [u]).toArray ++ Builtin.zeroCells z.cells (gc - (xs.length + 1))).size = gc := by
   rw [Array.size_append, size_zeroCells, hzs]
   simp only [List.size_toArray, List.length_append, List.length_singleton]
   omega
  have hb : Below base w (w.drew.alloc (.cells ((xs ++ [u]).toArray ++ Builtin.zeroCells z.cells (gc - (xs.length + 1))) e)) := (below_drewN (Below.refl base w) 1).alloc hbase _
  refine ⟨_, _, hr, ⟨w.heap.size, 0, gc, by rw [List.length_append]; rfl, hbase, by simp, by rw [List.length_append]; simpa using hge, hcm, fun j hj => ?_, fun j x hx => ?_⟩, hb, fun g' _ _ _ _ => only_alloc (only_drewN (World.grownBy.refl w (some g')) 1) _⟩
  ·rw [Nat.zero_add]
   refine ⟨?_, hblk.frozen j⟩
   have := hblk.cell j
   rw [show w.drew.heap.size = w.heap.size from rfl] at this
   rw [this, Array.getElem?_eq_getElem (by omega)]; rfl
  ·rw [Nat.zero_add]
   have := hblk.cell j
   rw [show w.drew.heap.size = w.heap.size from rfl] at this
   have hl := (List.getElem?_eq_some_iff.1 hx).1
   rw [this, Array.getElem?_append_left (by simpa using hl)]
   simpa using hx
theorem wpList_append_q {P : Program} (w : World) {ops : Array Oper} {rest : List Oper} {o : Oper} {a : Act} {Q : Exit → Act → World → Prop} (hgd : o.guard = none) (s x : Operand) (t : TypeId)
    (ho : o.op = .call { callee := .builtin .append, args := #[s, x], argTypes := #[t, t] })
    (base : Nat) (e : TypeId) (i : TypeInfo) (z : Value) (ht : P.underlying t = some (.slice e)) (hi : P.info? e = some i) (hz : i.zero = some z) (hsize : i.size = 1) (hby : i.bytes ≤ 16) (hzs : z.cells.size = 1)
    (v : Value) (xs : List Value) (hs : a.eval s = v) (h : Qu w base v xs) (ad : Addr) (c : Nat) (u : Value) (hx : a.eval x = .slice (some ad) 1 c) (hu : w.cell? ad = some u) (h1 : u.oneCell' = true) (ha : ad.spot = none) (hlen : xs.length ≤ 1000000) (hbase : base ≤ w.heap.size)
    (hk : ∀ v' w', Qu w' base v' (xs ++ [u]) → Below base w w' → wpList P ops Q rest (a.put o.dst v') w') : wpList P ops Q (o :: rest) a w := by
 obtain ⟨v', w', hr, h2, h3, _⟩ := run_append_q (P := P) w base t o.type e i z ht hi hz hsize hby hzs v xs h ad c u hu h1 ha hlen hbase
 refine wpList_plain hgd fun _ hK => ?_
 unfold Oper.wp execOp
 simp only [ho, resolve, invoke, builtin, Sem.run_bind, Sem.run_pure, Result.andThen_ok, List.map_toArray, List.map_cons, List.map_nil, hs, hx, hr]
 exact hK _ _ (hk v' w' h2 h3)
end
section
open Go.ChangeShapes Go.WideShapes Go.ChangeAt Go.RowKit Go.Joins Go.Deep
attribute [local go_sem ↓] execOp_call_val
attribute [local go_sem] callVal_func setCell_drewN alloc_drewN sEq_walk
open Go.RowKit in
theorem step_copy_at {P : Program} {ops : Array Oper} {o : Oper} {a : Act} {w : World} {K : Act → World → Prop} {Q : Exit → Act → World → Prop} {E : Prop} (q : Nat) (hq : o.dst = some q) (hgd : o.guard = none) (d s : Operand) (dT sT : TypeId)
    (ho : o.op = .call { callee := .builtin .copy, args := #[d, s], argTypes := #[dT, sT] }) (elem : TypeId) (hu : P.underlying dT = some (.slice elem)) (hsz : (P.info? elem).map (·.size) = some 1)
    (dp sp : Option Addr) (dLen dCap sLen sCap : Nat) (hd : a.eval d = .slice dp dLen dCap) (hs : a.eval s = .slice sp sLen sCap)
    (g off : Nat) (cur : List Value) (t : TypeId) (hg : w.heap[g]? = some (.cells cur.toArray t (0, 0))) (cs : List Value) (hn : cs.length = Nat.min sLen dLen)
    (hpos : 0 < cs.length → dp = some ⟨g, off, none⟩ ∧ ∃ ad, sp = some ad ∧ ∀ j v, cs[j]? = some v → w.cell? (ad.add j) = some v)
    (hfit : off + cs.length ≤ cur.length) (h1 : ∀ v ∈ cs, v.oneCell' = true) (B : Nat) (w0 : World) (hb : Below B w0 w) (hBg : B ≤ g)
    (h : ∀ w', Hid (w'.heap[g]? = some (.cells (splice cur off cs).toArray t (0, 0))) → Below B w0 w' → K (a.put (some q) (goInt cs.length)) w') :
    if Region.wanted o (yielded ops a.tmps) = true then Oper.wp P o a w K Q else E :=
 step_copy_splice hgd d s dT sT ho elem hu hsz dp sp dLen dCap sLen sCap hd hs g off cur t hg cs hn hpos hfit h1 B w0 hb hBg (by rw [hq]; exact h)
namespace M64
theorem maskN (a : Nat) (ha : a < 18446744073709551616) : bits .and .u64 (a : Int) 4294967295 = ((a % 4294967296 : Nat) : Int) := by
 have h := Go.bits_and_u64_nat a 4294967295 ha (by omega)
 have e : a &&& 4294967295 = a % 4294967296 := Nat.and_two_pow_sub_one_eq_mod a 32
 rw [e] at h
 exact h
theorem divN (a : Nat) : (a : Int) / 4294967296 = ((a / 4294967296 : Nat) : Int) := by omega
theorem mulN (a b : Nat) : (a : Int) * (b : Int) = ((a * b : Nat) : Int) := (Int.natCast_mul a b).symm
theorem addN (a b : Nat) : (a : Int) + (b : Int) = ((a + b : Nat) : Int) := (Int.natCast_add a b).symm
theorem wrapN (a : Nat) (ha : a < 18446744073709551616) : IntKind.u64.wrap (a : Int) = (a : Int) := by rw [IntKind.wrap_u64]; omega
theorem wrapM (a : Nat) : IntKind.u64.wrap (a : Int) = ((a % 18446744073709551616 : Nat) : Int) := by rw [IntKind.wrap_u64]; omega
end M64
theorem mul64_any (x y : Nat) (hx : x < 18446744073709551616) (hy : y < 18446744073709551616) (w : World) :
    Calls Tryz.prog 155 #[.int .u64 x, .int .u64 y] w fun e w' => e = .returned (.tuple #[.int .u64 ((x * y / 18446744073709551616 : Nat) : Int), .int .u64 ((x * y % 18446744073709551616 : Nat) : Int)]) ∧ w = w' := by
 obtain ⟨bd, bt, bw, hhi⟩ := Lib.mul64_hi x y hx hy
 have ba := Lib.half_mul_le (a := x / 4294967296) (b := y / 4294967296) (by omega) (by omega)
 have bb := Lib.half_mul_le (a := x / 4294967296) (b := y % 4294967296) (by omega) (by omega)
 have bc := Lib.half_mul_le (a := x % 4294967296) (b := y / 4294967296) (by omega) (by omega)
 have ba' : x / 4294967296 * (y / 4294967296) < 18446744073709551616 := by omega
 have bb' : x / 4294967296 * (y % 4294967296) < 18446744073709551616 := by omega
 have bc' : x % 4294967296 * (y / 4294967296) < 18446744073709551616 := by omega
 have bh1 : x / 4294967296 * (y / 4294967296) + (x / 4294967296 * (y % 4294967296) + x % 4294967296 * (y % 4294967296) / 4294967296) / 4294967296 < 18446744073709551616 := by omega
 have bh : x / 4294967296 * (y / 4294967296) + (x / 4294967296 * (y % 4294967296) + x % 4294967296 * (y % 4294967296) / 4294967296) / 4294967296 + ((x / 4294967296 * (y % 4294967296) + x % 4294967296 * (y % 4294967296) / 4294967296) % 4294967296 + x % 4294967296 * (y / 4294967296)) / 4294967296 < 18446744073709551616 := by omega
 go_enter Tryz.func155, Tryz.ntmps155
 go_wp2
 simp only [M64.maskN x hx, M64.maskN y hy, M64.divN, M64.mulN, M64.addN, M64.wrapN _ bd, M64.wrapN _ bb', M64.wrapN _ bt, M64.maskN _ bt, M64.wrapN _ bc', M64.wrapN _ bw, M64.wrapN _ ba', M64.wrapN _ bh1, M64.wrapN _ bh, M64.wrapM (x * y)]
 rw [hhi]
 go_ret2
 exact ⟨rfl, rfl⟩
theorem mul_any (x y : Nat) (hx : x < 18446744073709551616) (hy : y < 18446744073709551616) (w : World) :
    Calls Tryz.prog 139 #[.int .u64 x, .int .u64 y] w fun e w' => e = .returned (.tuple #[.int .u64 ((x * y / 18446744073709551616 : Nat) : Int), .int .u64 ((x * y % 18446744073709551616 : Nat) : Int)]) ∧ w = w' := by
 go_enter Tryz.func139, Tryz.ntmps139
 go_wp2_with fail
 refine (mul64_any x y hx hy w).mono ?_
 rintro e w' ⟨rfl, rfl⟩
 go_wp2_with fail
 go_ret2
 exact ⟨rfl, rfl⟩
theorem info_int : (Tryz.prog.info? 3).map (fun i => (i.zero, i.size, i.bytes)) = some (some (.int .i64 0), 1, 8) := by kernel_rfl
theorem size_int : (Tryz.prog.info? 3).map (·.size) = some 1 := by kernel_rfl
set_option maxRecDepth 100000 in
set_option maxHeartbeats 2000000 in
theorem repeat_int (v : Int) (b : Nat) (n : Nat) (w : World) (hv : w.cell? ⟨b, 0, none⟩ = some (.int .i64 v)) (hn : n ≤ 1000) :
    Calls Tryz.prog 156 #[.slice (some ⟨b, 0, none⟩) 1 1, .int .i64 n] w fun e w' => ∃ g, e = .returned (.slice (some ⟨g, 0, none⟩) n n) ∧ w.heap.size ≤ g ∧ Blk w' g 3 (List.replicate n (.int .i64 v)).toArray ∧ Below w.heap.size w w' := by
 have hblt := World.block_lt_of_cell? w ⟨b, 0, none⟩ hv
 have hmk : ∀ w : World, (Instr.makeSlice 53 (.int .i64 (n : Int)) (.int .i64 (n : Int))).run Tryz.prog w = .ok (.slice (some ⟨w.heap.size, 0, none⟩) n n) (w.alloc (.cells (madeCells #[.int .i64 0] n) 3)) :=
  fun w => run_make_row' (P := Tryz.prog) 53 3 (.int .i64 0) 8 Tryz.underlying53 info_int rfl .i64 .i64 n (by omega) (by omega) w
 have hHV := Lib.hid hv
 clear hv
 go_enter Tryz.func156, Tryz.ntmps156
 go_wp2_with fail
 refine (mul_any 1 n (by omega) (by omega) _).mono ?_
 rw [show (1 * n / 18446744073709551616 : Nat) = 0 from by omega, show (1 * n % 18446744073709551616 : Nat) = n from by omega]
 rintro e w' ⟨rfl, rfl⟩
 have hmadeL : (madeCells #[.int .i64 0] n).toList.length = n := by simp [size_madeCells]
 have HML := Lib.hid hmadeL
 clear hmadeL
 have hB0 : Below w.heap.size w (w.alloc (.cells (madeCells #[.int .i64 0] n) 3)) := (Below.refl _ _).alloc (Nat.le_refl _) _
 have hblk : (w.alloc (.cells (madeCells #[.int .i64 0] n) 3)).heap[w.heap.size]? = some (.cells (madeCells #[.int .i64 0] n).toList.toArray 3 (0, 0)) := by simpa using heap_alloc_new w _
 have hsrc : (w.alloc (.cells (madeCells #[.int .i64 0] n) 3)).cell? ⟨b, 0, none⟩ = some (.int .i64 v) := (World.cell?_alloc_lt _ _ _ hblt).trans hHV.out
 have HB0 := Lib.hid hB0
 have HBLK := Lib.hid hblk
 have HSRC := Lib.hid hsrc
 have hsrc2 : ∀ j u, (List.replicate (min 1 n) (.int .i64 v))[j]? = some u → (w.alloc (.cells (madeCells #[.int .i64 0] n) 3)).cell? ((⟨b, 0, none⟩ : Addr).add j) = some u := fun j u hu => by
  have hj := (List.getElem?_eq_some_iff.1 hu).1
  simp at hj
  have : j = 0 := by omega
  subst this
  rw [List.getElem?_replicate, if_pos (by omega)] at hu
  injection hu with hu
  subst hu
  exact HSRC.out
 have HSRC2 := Lib.hid hsrc2
 clear hB0 hblk hsrc hsrc2
 go_wp2_with (refine wpList_copy_splice rfl (.tmp 31) (.tmp 32) 53 53 rfl 3 Tryz.underlying53 size_int (some ⟨w.heap.size, 0, none⟩) (some ⟨b, 0, none⟩) n n 1 1 rfl rfl w.heap.size 0 (madeCells #[.int .i64 0] n).toList 3 HBLK.out (List.replicate (min 1 n) (.int .i64 v)) (by simp) (fun _ => ⟨rfl, _, rfl, HSRC2.out⟩) (by simp; have := HML.out; simp at this; omega) (fun u hu => by rw [(List.mem_replicate.1 hu).2]; rfl) w.heap.size w HB0.out (Nat.le_refl _) ?_)
 intro w2 hb2 k2
 have hk0 : (splice (madeCells #[.int .i64 0] n).toList 0 (List.replicate (min 1 n) (.int .i64 v))).length = n ∧ ∀ i, i < min 1 n → (splice (madeCells #[.int .i64 0] n).toList 0 (List.replicate (min 1 n) (.int .i64 v)))[i]? = some (.int .i64 v) := by
  refine ⟨by unfold splice; have := HML.out; simp at this ⊢; omega, fun i hi => ?_⟩
  unfold splice
  rw [List.take_zero, List.nil_append, List.getElem?_append_left (by simpa using hi), List.getElem?_replicate, if_pos hi]
 generalize splice (madeCells #[.int .i64 0] n).toList 0 (List.replicate (min 1 n) (.int .i64 v)) = cur0 at hb2 hk0
 have HB2 := Lib.hid hb2.out
 have HK2 := Lib.hid k2
 have HK0 := Lib.hid hk0
 have hmin : min 1 n ≤ n := Nat.min_le_right _ _
 have hmin2 : 0 < n → 0 < min 1 n := fun h => by omega
 clear hb2 k2 hk0 hmk
 generalize min 1 n = k0 at *
 go_wp2_with fail
 go_loopw [8] (fun i wr => ∃ k : Nat, k ≤ n ∧ i = .int .i64 k ∧ (0 < n → 0 < k) ∧ Below w.heap.size w wr ∧ ∃ cur : List Value, cur.length = n ∧ (∀ i, i < k → cur[i]? = some (.int .i64 v)) ∧ Hid (wr.heap[w.heap.size]? = some (.cells cur.toArray 3 (0, 0)))) (fun i _ => n - (intOf i).toNat)
 case atStart => exact ⟨k0, hmin, rfl, hmin2, HK2.out, cur0, HK0.out.1, HK0.out.2, HB2⟩
 case round =>
  obtain ⟨k, hk, rfl, hkp, hbel, cur, hcl, hci, hblk⟩ := hrel
  have HCI := Lib.hid hci
  have HBL := Lib.hid hbel
  have HCL := Lib.hid hcl
  clear hci hbel hcl HK2 HB2 HK0
  by_cases hlt : k < n
  ·have hkp' : 0 < k := hkp (by omega)
   clear hkp
   have hsrc : ∀ j u, (List.replicate (min k (n - k)) (.int .i64 v))[j]? = some u → wr.drew.cell? ((⟨w.heap.size, 0, none⟩ : Addr).add j) = some u := fun j u hu => by
    have hj := (List.getElem?_eq_some_iff.1 hu).1
    simp at hj
    rw [List.getElem?_replicate, if_pos hj] at hu
    injection hu with hu
    subst hu
    have h1 := HCI.out j (by omega)
    have h2 := cell_of_row wr w.heap.size j cur.toArray 3 (0, 0) hblk.out
    rw [show ((⟨w.heap.size, 0, none⟩ : Addr).add j) = ⟨w.heap.size, j, none⟩ from by unfold Addr.add; split <;> simp_all]
    show wr.cell? _ = _
    rw [h2]
    simpa using h1
   have HSRC3 := Lib.hid hsrc
   clear hsrc
   have hI1 : (k : Int) ≤ (n : Int) := by omega
   have hI2 : (0 : Int) ≤ (k : Int) := by omega
   have hmk1 : min k (n - k) ≤ n - k := Nat.min_le_right _ _
   have hmk2 : 0 < min k (n - k) := by omega
   have hw1 : IntKind.i64.wrap ((k : Int) + ((min k (n - k) : Nat) : Int)) = (k : Int) + ((min k (n - k) : Nat) : Int) := IntWalk.i64_in _ (by omega)
   go_wp2_with fail
   go_region_law (refine step_copy_at 45 rfl rfl (.tmp 41) (.tmp 44) 53 53 rfl 3 Tryz.underlying53 size_int (some ⟨w.heap.size, k, none⟩) (some ⟨w.heap.size, 0, none⟩) (n - k) (n - k) k n (by simp [Act.eval, Act.put]; omega) (by simp [Act.eval, Act.put]) w.heap.size k cur 3 hblk.out (List.replicate (min k (n - k)) (.int .i64 v)) (by simp) (fun _ => ⟨rfl, _, rfl, HSRC3.out⟩) (by rw [List.length_replicate, HCL.out]; omega) (fun u hu => by rw [(List.mem_replicate.1 hu).2]; rfl) w.heap.size w (below_drew HBL.out) (Nat.le_refl _) ?_; intro w3 hb3 k3)
   have hk3 : (splice cur k (List.replicate (min k (n - k)) (.int .i64 v))).length = n ∧ ∀ i, i < k + min k (n - k) → (splice cur k (List.replicate (min k (n - k)) (.int .i64 v)))[i]? = some (.int .i64 v) := by
    have hcl := HCL.out
    refine ⟨by unfold splice; simp; omega, fun i hi => ?_⟩
    unfold splice
    by_cases hik : i < k
    ·rw [List.getElem?_append_left (by simp; omega), List.getElem?_take, if_pos hik]
     exact HCI.out i hik
    ·rw [List.getElem?_append_right (by simp; omega), List.getElem?_append_left (by simp; omega), List.getElem?_replicate, if_pos (by simp; omega)]
   have HK3 := Lib.hid hk3
   have HKK3 := Lib.hid k3
   have HBB3 := Lib.hid hb3.out
   have hmk4 : k + min k (n - k) ≤ n := by omega
   clear hk3 k3 hb3 HSRC3
   generalize splice cur k (List.replicate (min k (n - k)) (.int .i64 v)) = cur3 at *
   generalize min k (n - k) = q at *
   go_wp2_with fail
   go_roundw
   case rel => exact ⟨k + q, hmk4, by go_num, fun _ => by omega, HKK3.out, cur3, HK3.out.1, HK3.out.2, HBB3⟩
   case measure => simp [intOf]; omega
  ·have hkn : k = n := by omega
   subst hkn
   go_wp2_with fail
   go_ret
   refine ⟨w.heap.size, rfl, Nat.le_refl _, ?_, HBL.out⟩
   have hc : cur = List.replicate k (.int .i64 v) := by
    apply List.ext_getElem?
    intro i
    by_cases hi : i < k
    ·rw [HCI.out i hi, List.getElem?_replicate, if_pos hi]
    ·rw [List.getElem?_eq_none (by have := HCL.out; omega), List.getElem?_eq_none (by simp; omega)]
   have := hblk.out
   rw [hc] at this
   exact this
end
end Go.Proofs.YtakllkkmofdpaaaGreatDoor
