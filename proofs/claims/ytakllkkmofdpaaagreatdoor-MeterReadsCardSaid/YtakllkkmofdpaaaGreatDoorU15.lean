import Derived.Test.YtakllkkmofdpaaaGreatDoorU14
set_option linter.unusedVariables false
set_option linter.unusedSimpArgs false
namespace Go.Proofs.YtakllkkmofdpaaaGreatDoor
section
def Bd (B : Nat) (M : List (List Rat)) : Prop := ∀ a ∈ M, ∀ x ∈ a, qsz x + 1 ≤ B
theorem Bd.mono {B C : Nat} {M : List (List Rat)} (h : Bd B M) (hc : B ≤ C) : Bd C M := fun a ha x hx => Nat.le_trans (h a ha x hx) hc
theorem Bd.at_ {B : Nat} {M : List (List Rat)} (h : Bd B M) {i j : Nat} {a : List Rat} {x : Rat} (ha : M[i]? = some a) (hx : a[j]? = some x) : qsz x + 1 ≤ B := h a (List.mem_of_getElem? ha) x (List.mem_of_getElem? hx)
theorem Bd.vf {B : Nat} {M : List (List Rat)} (h : Bd B M) {i j : Nat} {a : List Rat} (ha : M[i]? = some a) (hj : j < a.length) : qsz (vf a j) + 1 ≤ B := h.at_ ha (vf_get hj)
section
variable {d f x : Rat} {R row : List Rat} {k i j : Nat}
def divP (d : Rat) (k j : Nat) (row : List Rat) : List Rat := row.mapIdx fun i x => if k ≤ i ∧ i < j then x / d else x
def subP (f : Rat) (R : List Rat) (k j : Nat) (row : List Rat) : List Rat := row.mapIdx fun i x => if k ≤ i ∧ i < j then x - f * vf R i else x
theorem divP_len : (divP d k j row).length = row.length := by unfold divP; rw [List.length_mapIdx]
theorem subP_len : (subP f R k j row).length = row.length := by unfold subP; rw [List.length_mapIdx]
theorem divP_start : divP d k k row = row := by
 apply List.ext_getElem?
 intro i
 unfold divP
 rw [List.getElem?_mapIdx]
 cases row[i]? with
 | none => rfl
 | some x => simp only [Option.map_some]; rw [if_neg (by omega)]
theorem subP_start : subP f R k k row = row := by
 apply List.ext_getElem?
 intro i
 unfold subP
 rw [List.getElem?_mapIdx]
 cases row[i]? with
 | none => rfl
 | some x => simp only [Option.map_some]; rw [if_neg (by omega)]
theorem divP_at (h : row[j]? = some x) : (divP d k j row)[j]? = some x := by
 unfold divP
 rw [List.getElem?_mapIdx, h]
 simp only [Option.map_some]; rw [if_neg (by omega)]
theorem subP_at (h : row[j]? = some x) : (subP f R k j row)[j]? = some x := by
 unfold subP
 rw [List.getElem?_mapIdx, h]
 simp only [Option.map_some]; rw [if_neg (by omega)]
theorem divP_step (hk : k ≤ j) (h : row[j]? = some x) : (divP d k j row).set j (x / d) = divP d k (j + 1) row := by
 have hj := (List.getElem?_eq_some_iff.1 h).1
 apply List.ext_getElem?
 intro i
 rw [List.getElem?_set, divP_len]
 unfold divP
 rw [List.getElem?_mapIdx, List.getElem?_mapIdx]
 by_cases hi : j = i
 ·subst hi
  rw [if_pos rfl, if_pos hj, h]
  simp only [Option.map_some]; rw [if_pos ⟨hk, by omega⟩]
 ·rw [if_neg hi]
  cases row[i]? with
  | none => rfl
  | some y =>
   simp only [Option.map_some]
   by_cases h2 : k ≤ i ∧ i < j
   ·rw [if_pos h2, if_pos ⟨h2.1, by omega⟩]
   ·rw [if_neg h2, if_neg (by omega)]
theorem subP_step (hk : k ≤ j) (h : row[j]? = some x) : (subP f R k j row).set j (x - f * vf R j) = subP f R k (j + 1) row := by
 have hj := (List.getElem?_eq_some_iff.1 h).1
 apply List.ext_getElem?
 intro i
 rw [List.getElem?_set, subP_len]
 unfold subP
 rw [List.getElem?_mapIdx, List.getElem?_mapIdx]
 by_cases hi : j = i
 ·subst hi
  rw [if_pos rfl, if_pos hj, h]
  simp only [Option.map_some]; rw [if_pos ⟨hk, by omega⟩]
 ·rw [if_neg hi]
  cases row[i]? with
  | none => rfl
  | some y =>
   simp only [Option.map_some]
   by_cases h2 : k ≤ i ∧ i < j
   ·rw [if_pos h2, if_pos ⟨h2.1, by omega⟩]
   ·rw [if_neg h2, if_neg (by omega)]
theorem subP_skip (h : vf R j = 0) : subP f R k (j + 1) row = subP f R k j row := by
 apply List.ext_getElem?
 intro i
 unfold subP
 rw [List.getElem?_mapIdx, List.getElem?_mapIdx]
 cases row[i]? with
 | none => rfl
 | some y =>
  simp only [Option.map_some]
  by_cases h2 : k ≤ i ∧ i < j
  ·rw [if_pos h2, if_pos ⟨h2.1, by omega⟩]
  ·rw [if_neg h2]
   by_cases h3 : i = j
   ·subst h3
    by_cases h4 : k ≤ i ∧ i < i + 1
    ·rw [if_pos h4, h, Rat.mul_zero, Rat.sub_eq_add_neg, Rat.neg_zero, Rat.add_zero]
    ·rw [if_neg h4]
   ·rw [if_neg (by omega)]
theorem divP_end (h : ∀ i, i < k → vf row i = 0) : divP d k row.length row = divR d row := by
 apply List.ext_getElem?
 intro i
 unfold divP divR
 rw [List.getElem?_mapIdx, List.getElem?_map]
 cases hx : row[i]? with
 | none => rfl
 | some x =>
  have hi := (List.getElem?_eq_some_iff.1 hx).1
  simp only [Option.map_some]
  by_cases hk : k ≤ i
  ·rw [if_pos ⟨hk, hi⟩]
  ·rw [if_neg (by omega)]
   have := h i (by omega)
   rw [vf_at hx] at this
   rw [this, Rat.div_def, Rat.zero_mul]
theorem subP_end (hl : R.length = row.length) (h : ∀ i, i < k → vf R i = 0) : subP f R k row.length row = subR f R row := by
 apply List.ext_getElem?
 intro i
 unfold subP subR
 rw [List.getElem?_mapIdx, List.getElem?_zipWith]
 cases hx : row[i]? with
 | none => rfl
 | some x =>
  have hi := (List.getElem?_eq_some_iff.1 hx).1
  rw [vf_get (l := R) (by omega)]
  simp only [Option.map_some]
  by_cases hk : k ≤ i
  ·rw [if_pos ⟨hk, hi⟩]
  ·rw [if_neg (by omega), h i (by omega), Rat.mul_zero, Rat.sub_eq_add_neg, Rat.neg_zero, Rat.add_zero]
theorem subR_zero (hl : R.length = row.length) : subR 0 R row = row := by
 apply List.ext_getElem?
 intro i
 unfold subR
 rw [List.getElem?_zipWith]
 cases hx : row[i]? with
 | none => rfl
 | some x =>
  have hi := (List.getElem?_eq_some_iff.1 hx).1
  rw [vf_get (l := R) (by omega)]
  simp only
  rw [Rat.zero_mul, Rat.sub_eq_add_neg, Rat.neg_zero, Rat.add_zero]
end
def rowsP (M : List (List Rat)) (R : List Rat) (r k i : Nat) : List (List Rat) := M.mapIdx fun t row => if t < i ∧ t ≠ r then subR (vf row k) R row else row
section
variable {M : List (List Rat)} {R row : List Rat} {r p k i : Nat}
theorem rowsP_len : (rowsP M R r k i).length = M.length := by unfold rowsP; rw [List.length_mapIdx]
theorem rowsP_start : rowsP M R r k 0 = M := by
 apply List.ext_getElem?
 intro t
 unfold rowsP
 rw [List.getElem?_mapIdx]
 cases M[t]? with
 | none => rfl
 | some x => simp only [Option.map_some]; rw [if_neg (by omega)]
theorem rowsP_at (h : M[i]? = some row) : (rowsP M R r k i)[i]? = some row := by
 unfold rowsP
 rw [List.getElem?_mapIdx, h]
 simp only [Option.map_some]; rw [if_neg (by omega)]
theorem rowsP_r (h : M[r]? = some row) : (rowsP M R r k i)[r]? = some row := by
 unfold rowsP
 rw [List.getElem?_mapIdx, h]
 simp only [Option.map_some]; rw [if_neg (by omega)]
theorem rowsP_self : rowsP M R r k (r + 1) = rowsP M R r k r := by
 apply List.ext_getElem?
 intro t
 unfold rowsP
 rw [List.getElem?_mapIdx, List.getElem?_mapIdx]
 cases M[t]? with
 | none => rfl
 | some x =>
  simp only [Option.map_some]
  by_cases h : t < r
  ·rw [if_pos ⟨by omega, by omega⟩, if_pos ⟨h, by omega⟩]
  ·rw [if_neg (by omega), if_neg (by omega)]
theorem rowsP_step (hi : i ≠ r) (h : M[i]? = some row) : (rowsP M R r k i).set i (subR (vf row k) R row) = rowsP M R r k (i + 1) := by
 have hl := (List.getElem?_eq_some_iff.1 h).1
 apply List.ext_getElem?
 intro t
 rw [List.getElem?_set, rowsP_len]
 unfold rowsP
 rw [List.getElem?_mapIdx, List.getElem?_mapIdx]
 by_cases ht : i = t
 ·subst ht
  rw [if_pos rfl, if_pos hl, h]
  simp only [Option.map_some]; rw [if_pos ⟨by omega, hi⟩]
 ·rw [if_neg ht]
  cases M[t]? with
  | none => rfl
  | some x =>
   simp only [Option.map_some]
   by_cases h2 : t < i ∧ t ≠ r
   ·rw [if_pos h2, if_pos ⟨by omega, h2.2⟩]
   ·rw [if_neg h2, if_neg (by omega)]
theorem rowsP_skip (hl : R.length = row.length) (h : M[i]? = some row) (hz : vf row k = 0) : rowsP M R r k (i + 1) = rowsP M R r k i := by
 by_cases hi : i = r
 ·subst hi; exact rowsP_self
 ·rw [← rowsP_step hi h, hz, subR_zero hl]
  apply List.ext_getElem?
  intro t
  rw [List.getElem?_set]
  by_cases ht : i = t
  ·subst ht
   rw [if_pos rfl, if_pos (by rw [rowsP_len]; exact (List.getElem?_eq_some_iff.1 h).1), rowsP_at h]
  ·rw [if_neg ht]
theorem rowsP_end (hp : M[p]? = some row) : rowsP (preStep M r p k) (divR (vf row k) row) r k M.length = colStep M r p k := by
 unfold rowsP colStep
 have e : M.getD p [] = row := by rw [List.getD_eq_getElem?_getD, hp]; rfl
 rw [e]
 apply List.ext_getElem?
 intro t
 rw [List.getElem?_mapIdx, List.getElem?_mapIdx]
 cases hx : (preStep M r p k)[t]? with
 | none => rfl
 | some x =>
  have ht := (List.getElem?_eq_some_iff.1 hx).1
  rw [preStep_len] at ht
  simp only [Option.map_some]
  by_cases h : t = r
  ·rw [if_neg (by omega), if_pos h]
  ·rw [if_pos ⟨ht, h⟩, if_neg h]
theorem swap_pre {a : List Rat} (hr : M[r]? = some a) (hp : M[p]? = some row) : ((M.set r row).set p a).set r (divR (vf row k) row) = preStep M r p k := by
 unfold preStep
 have e : M.getD p [] = row := by rw [List.getD_eq_getElem?_getD, hp]; rfl
 have e2 : M.getD r [] = a := by rw [List.getD_eq_getElem?_getD, hr]; rfl
 rw [e, e2]
 by_cases h : r = p
 ·subst h; simp
 ·rw [List.set_comm _ _ (fun e => h e.symm), List.set_set, List.set_comm _ _ h]
theorem swap_r {a : List Rat} (hr : M[r]? = some a) (hp : M[p]? = some row) : ((M.set r row).set p a)[r]? = some row := by
 have h1 := (List.getElem?_eq_some_iff.1 hr).1
 rw [List.getElem?_set]
 by_cases h : p = r
 ·subst h
  rw [if_pos rfl, if_pos (by rw [List.length_set]; exact h1)]
  rw [hr] at hp; exact hp
 ·rw [if_neg h, List.getElem?_set, if_pos rfl, if_pos h1]
theorem set_same {α : Type} {l : List α} {i : Nat} {x : α} (h : l[i]? = some x) : l.set i x = l := by
 apply List.ext_getElem?
 intro t
 rw [List.getElem?_set]
 by_cases ht : i = t
 ·subst ht
  rw [if_pos rfl, if_pos (List.getElem?_eq_some_iff.1 h).1, h]
 ·rw [if_neg ht]
theorem mem_divR {d x : Rat} (h : x ∈ divR d row) : ∃ y ∈ row, x = y / d := by
 unfold divR at h
 obtain ⟨y, hy, e⟩ := List.mem_map.1 h
 exact ⟨y, hy, e.symm⟩
theorem pre_mem {a : List Rat} (hr : M[r]? = some a) (hp : M[p]? = some row) {b : List Rat} (hb : b ∈ preStep M r p k) : b ∈ M ∨ b = divR (vf row k) row := by
 obtain ⟨t, ht⟩ := List.mem_iff_getElem?.1 hb
 by_cases h1 : t = r
 ·subst h1
  rw [pre_r hr hp] at ht
  injection ht with ht
  exact .inr ht.symm
 ·by_cases h2 : t = p
  ·subst h2
   rw [pre_p hr hp (fun e => h1 e.symm)] at ht
   injection ht with ht
   exact .inl (ht ▸ List.mem_of_getElem? hr)
  ·rw [pre_off h1 h2] at ht
   exact .inl (List.mem_of_getElem? ht)
theorem div_bd {B : Nat} (h : Bd B M) (hp : M[p]? = some row) (hk : k < row.length) : ∀ x ∈ divR (vf row k) row, qsz x + 2 ≤ 2 * B := fun x hx => by
 obtain ⟨y, hy, rfl⟩ := mem_divR hx
 have h1 := h row (List.mem_of_getElem? hp) y hy
 have h2 := h.vf hp hk
 have := div_qsz y (vf row k)
 omega
theorem col_bd {N B : Nat} {a : List Rat} (h : Bd B M) (hw : ∀ a ∈ M, a.length = N) (hr : M[r]? = some a) (hp : M[p]? = some row) (hk : k < N) : Bd (4 * B) (colStep M r p k) := by
 have hpl := hw row (List.mem_of_getElem? hp)
 have hd := div_bd h hp (by rw [hpl]; exact hk)
 intro b hb x hx
 obtain ⟨t, ht⟩ := List.mem_iff_getElem?.1 hb
 obtain ⟨c, hc, rfl⟩ := col_at hp ht
 have hcm := pre_mem hr hp (List.mem_of_getElem? hc)
 by_cases h1 : t = r
 ·rw [if_pos h1] at hx
  rcases hcm with h2 | rfl
  ·have := h c h2 x hx; omega
  ·have := hd x hx; omega
 ·rw [if_neg h1] at hx
  have hcM : c ∈ M := by
   obtain ⟨s, hs, _⟩ := pre_src hr hp h1 hc
   exact List.mem_of_getElem? hs
  have hcl := hw c hcM
  obtain ⟨j, hj⟩ := List.mem_iff_getElem?.1 hx
  have hjl : j < c.length := by
   have := (List.getElem?_eq_some_iff.1 hj).1
   rwa [subR_len (by rw [divR_len, hpl, hcl])] at this
  have hv := subR_vf (f := vf c k) (R := divR (vf row k) row) (row := c) hjl (by rw [divR_len, hpl, hcl])
  rw [vf_at hj] at hv
  rw [hv]
  obtain ⟨s, hs⟩ := List.mem_iff_getElem?.1 hcM
  have b1 := h.vf hs hjl
  have b2 := h.vf hs (show k < c.length by omega)
  have b3 := hd _ (List.mem_of_getElem? (vf_get (l := divR (vf row k) row) (show j < _ by rw [divR_len, hpl]; omega)))
  have b4 := mul_qsz (vf c k) (vf (divR (vf row k) row) j)
  have b5 := sub_qsz (vf c j) (vf c k * vf (divR (vf row k) row) j)
  omega
theorem piv_zero {piv : List Nat} (E : Ech (vfs M) piv k) (hp : M[p]? = some row) (hl : piv.length ≤ p) : ∀ j, j < k → vf row j = 0 := fun j hj => E.rest p _ (vfs_get hp) hl j hj
theorem div_zero {d : Rat} {j : Nat} (h : vf row j = 0) (hj : j < row.length) : vf (divR d row) j = 0 := by
 rw [divR_vf hj, h, Rat.div_def, Rat.zero_mul]
theorem redGo_none {s : Nat} {piv : List Nat} (h : piv.length < M.length) (hp : pivR M piv.length k = M.length) : redGo (s + 1) M piv k = redGo s M piv (k + 1) := by
 rw [redGo, if_pos h, if_pos hp]
theorem redGo_some {s : Nat} {piv : List Nat} (h : piv.length < M.length) (hp : pivR M piv.length k = p) (hne : p ≠ M.length) : redGo (s + 1) M piv k = redGo s (colStep M piv.length p k) (piv ++ [k]) (k + 1) := by
 subst hp
 rw [redGo, if_pos h, if_neg hne]
theorem redGo_full {s : Nat} {piv : List Nat} (h : ¬ piv.length < M.length) : redGo s M piv k = (M, piv) := by
 cases s with
 | zero => rfl
 | succ s => rw [redGo, if_neg h]
end
theorem pow4_le {k cols : Nat} (h : k ≤ cols) (c : Nat) : 4 ^ k * c ≤ 4 ^ cols * c := Nat.mul_le_mul_right _ (Nat.pow_le_pow_right (by decide) h)
end
end Go.Proofs.YtakllkkmofdpaaaGreatDoor
