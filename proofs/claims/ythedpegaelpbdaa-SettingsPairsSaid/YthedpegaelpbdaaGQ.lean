/- A queue: a slice of one-cell elements of the call's own, at any offset. -/
import Derived.Test.YthedpegaelpbdaaB0
import Derived.Deep.AppendSrc
import Derived.Deep.DeepAppendWide
namespace Go.Proofs.Ythedpegaelpbdaa
open Go.ChangeShapes Go.WideShapes Go.ChangeAt Go.RowKit Go.Deep
set_option linter.unusedVariables false

structure Qu (w : World) (base : Nat) (v : Value) (xs : List Value) : Prop where
  ex : ∃ g off cap, v = .slice (some ⟨g, off, none⟩) xs.length cap ∧ base ≤ g ∧ g < w.heap.size ∧ xs.length ≤ cap ∧ cap ≤ maxLen ∧ (∀ j, j < cap → (w.cell? ⟨g, off + j, none⟩).isSome = true ∧ w.frozen? ⟨g, off + j, none⟩ = false) ∧ ∀ (j : Nat) (u : Value), xs[j]? = some u → w.cell? ⟨g, off + j, none⟩ = some u
theorem Qu.up {w w' : World} {base : Nat} {v : Value} {xs : List Value} (h : Qu w base v xs) (hb : Below w.heap.size w w') : Qu w' base v xs := by
  obtain ⟨g, off, cap, h1, h2, h3, h4, h5, h6, h7⟩ := h.ex
  exact ⟨g, off, cap, h1, h2, Nat.lt_of_lt_of_le h3 hb.size, h4, h5, fun j hj => by rw [hb.cell h3, hb.frozen h3]; exact h6 j hj, fun j u hu => by rw [hb.cell h3]; exact h7 j u hu⟩
theorem Qu.tail {w : World} {base g off n cap : Nat} {x : Value} {xs : List Value} (h : Qu w base (.slice (some ⟨g, off, none⟩) n cap) (x :: xs)) : Qu w base (.slice (if cap = 1 then some ⟨g, off, none⟩ else some ⟨g, off + 1, none⟩) (n - 1) (cap - 1)) xs := by
  obtain ⟨g', off', cap', h1, h2, h3, h4, h5, h6, h7⟩ := h.ex
  injection h1 with e1 e2 e3
  injection e1 with e1
  injection e1 with e4 e5
  subst e2; subst e3; subst e4; subst e5
  simp only [List.length_cons, Nat.add_sub_cancel] at h4 ⊢
  by_cases hc : cap = 1
  · have hx : xs.length = 0 := by omega
    rw [if_pos hc]
    refine ⟨g, off, cap - 1, rfl, h2, h3, by omega, by omega, fun j hj => by omega, fun j u hu => ?_⟩
    have := (List.getElem?_eq_some_iff.1 hu).1
    omega
  · rw [if_neg hc]
    refine ⟨g, off + 1, cap - 1, rfl, h2, h3, by omega, by omega, fun j hj => ?_, fun j u hu => ?_⟩
    · rw [Nat.add_assoc, Nat.add_comm 1 j]; exact h6 (j + 1) (by omega)
    · rw [Nat.add_assoc, Nat.add_comm 1 j]; exact h7 (j + 1) u (by simpa using hu)
theorem run_append_q {P : Program} (w : World) (base : Nat) (t ty e : TypeId) (i : TypeInfo) (z : Value) (ht : P.underlying t = some (.slice e)) (hi : P.info? e = some i) (hz : i.zero = some z) (hsize : i.size = 1) (hby : i.bytes ≤ 16) (hzs : z.cells.size = 1)
    (v : Value) (xs : List Value) (h : Qu w base v xs) (a : Addr) (c : Nat) (u : Value) (hu : w.cell? a = some u) (h1 : u.oneCell' = true) (ha : a.spot = none) (hlen : xs.length ≤ 1000000) (hbase : base ≤ w.heap.size) :
    ∃ v' w', (Builtin.append_ #[t, t] ty #[v, .slice (some a) 1 c]).run P w = .ok v' w' ∧ Qu w' base v' (xs ++ [u]) ∧ Below base w w' ∧ ∀ g off n cap, v = .slice (some ⟨g, off, none⟩) n cap → w.grownBy w' (some g) := by
  obtain ⟨g, off, cap, rfl, h2, h3, h4, h5, h6, h7⟩ := h.ex
  have hnews : ∀ (j : Nat) (x : Value), ([u] : List Value)[j]? = some x → w.cell? (a.add j) = some x := fun j x hx => by
    have hj : j = 0 := by have := (List.getElem?_eq_some_iff.1 hx).1; simpa using this
    subst hj
    simp at hx
    subst hx
    obtain ⟨ab, ao, asp⟩ := a
    simp only at ha
    subst ha
    rw [Addr.add_lit, Nat.add_zero]
    exact hu
  have hsrc : Src P i.size t (.slice (some a) 1 c) 1 [u] w := Src.ofSlice w ht a 1 c [u] (by rw [hsize]; rfl) hnews (fun x hx => by rw [List.mem_singleton.1 hx]; exact h1)
  by_cases hroom : xs.length + 1 ≤ cap
  · have hr := run_append_room_src (P := P) w t t ty e i ht hi g off xs.length cap _ 1 [u] hsrc hroom
      (fun j hj => by
        have hj0 : j = 0 := by simpa using hj
        subst hj0
        rw [hsize, Nat.mul_one, Nat.add_zero]; exact (h6 xs.length (by omega)).1)
      (fun j hj => by
        have hj0 : j = 0 := by simpa using hj
        subst hj0
        rw [hsize, Nat.mul_one, Nat.add_zero]; exact (h6 xs.length (by omega)).2)
    rw [hsize, Nat.mul_one] at hr
    have hin := World.cell?_setCells_in g [u] (off + xs.length) w (fun j hj => by
      have hj0 : j = 0 := by simpa using hj
      subst hj0
      rw [Nat.add_zero]; exact (h6 xs.length (by omega)).1) 0 (by simp)
    rw [Nat.add_zero] at hin
    have hb : Below base w (w.setCells g (off + xs.length) [u]) := (Below.refl base w).setCell (p := ⟨g, off + xs.length, none⟩) h2 u
    have hcell : ∀ j, j ≠ xs.length → (w.setCells g (off + xs.length) [u]).cell? ⟨g, off + j, none⟩ = w.cell? ⟨g, off + j, none⟩ := fun j hj => World.cell?_setCells_out g [u] (off + xs.length) w _ (fun _ _ => by simp only [List.length_singleton]; omega)
    refine ⟨_, _, hr, ⟨g, off, cap, by rw [List.length_append]; rfl, h2, Nat.lt_of_lt_of_le h3 hb.size, by rw [List.length_append]; simpa using hroom, h5, fun j hj => ⟨?_, ?_⟩, fun j x hx => ?_⟩, hb, ?_⟩
    · by_cases hje : j = xs.length
      · subst hje; rw [hin]; rfl
      · rw [hcell j hje]; exact (h6 j hj).1
    · rw [World.frozen?_setCells]; exact (h6 j hj).2
    · by_cases hje : j = xs.length
      · subst hje
        rw [hin]
        simp at hx
        rw [← hx]; rfl
      · have hl : j < xs.length := by have := (List.getElem?_eq_some_iff.1 hx).1; rw [List.length_append, List.length_singleton] at this; omega
        rw [hcell j hje]
        rw [List.getElem?_append_left hl] at hx
        exact h7 j x hx
    · intro g' off' n' cap' e
      injection e with e _ _
      injection e with e
      injection e with e _
      subst e
      exact only_setCell (p := ⟨g, off + xs.length, none⟩) (World.grownBy.refl w (some g)) (.inl rfl) u
  · have hold : (Builtin.firstCells i.size xs.length (.slice (some ⟨g, off, none⟩) xs.length cap)).run P w.drew = .ok xs.toArray w.drew :=
      run_firstCells_some w.drew i.size xs.length ⟨g, off, none⟩ xs.length cap xs (by rw [hsize, Nat.mul_one]) (fun j x hx => by rw [Addr.add_lit]; exact h7 j x hx)
    have hr := run_append_grow_src (P := P) w t t ty e i z ht hi hz (some ⟨g, off, none⟩) xs.length cap xs hold _ 1 [u] hsrc (by omega) (by omega)
      (growslice_fits_wide (by omega) (Nat.le_trans (Nat.mul_le_mul_left _ hby) (by omega)))
    have hge := grownCap_ge w (xs.length + 1) cap e
    have hcm : grownCap w (xs.length + 1) cap e ≤ maxLen := grownCap_le_maxLen w (xs.length + 1) cap e (by simp only [maxLen]; omega)
    generalize grownCap w (xs.length + 1) cap e = gc at *
    have hblk := Blk.new w.drew e ((xs ++ [u]).toArray ++ Builtin.zeroCells z.cells (gc - (xs.length + 1)))
    have hsz : ((xs ++ [u]).toArray ++ Builtin.zeroCells z.cells (gc - (xs.length + 1))).size = gc := by
      rw [Array.size_append, size_zeroCells, hzs]
      simp only [List.size_toArray, List.length_append, List.length_singleton]
      omega
    have hb : Below base w (w.drew.alloc (.cells ((xs ++ [u]).toArray ++ Builtin.zeroCells z.cells (gc - (xs.length + 1))) e)) := (below_drewN (Below.refl base w) 1).alloc hbase _
    refine ⟨_, _, hr, ⟨w.heap.size, 0, gc, by rw [List.length_append]; rfl, hbase, by simp, by rw [List.length_append]; simpa using hge, hcm, fun j hj => ?_, fun j x hx => ?_⟩, hb, fun g' _ _ _ _ => only_alloc (only_drewN (World.grownBy.refl w (some g')) 1) _⟩
    · rw [Nat.zero_add]
      refine ⟨?_, hblk.frozen j⟩
      have := hblk.cell j
      rw [show w.drew.heap.size = w.heap.size from rfl] at this
      rw [this, Array.getElem?_eq_getElem (by omega)]; rfl
    · rw [Nat.zero_add]
      have := hblk.cell j
      rw [show w.drew.heap.size = w.heap.size from rfl] at this
      have hl := (List.getElem?_eq_some_iff.1 hx).1
      rw [this, Array.getElem?_append_left (by simpa using hl)]
      simpa using hx
/-- appending one element at a queue -/
theorem wpList_append_q {P : Program} (w : World) {ops : Array Oper} {rest : List Oper} {o : Oper} {a : Act} {Q : Exit → Act → World → Prop} (hgd : o.guard = none) (s x : Operand) (t : TypeId)
    (ho : o.op = .call { callee := .builtin .append, args := #[s, x], argTypes := #[t, t] })
    (base : Nat) (e : TypeId) (i : TypeInfo) (z : Value) (ht : P.underlying t = some (.slice e)) (hi : P.info? e = some i) (hz : i.zero = some z) (hsize : i.size = 1) (hby : i.bytes ≤ 16) (hzs : z.cells.size = 1)
    (v : Value) (xs : List Value) (hs : a.eval s = v) (h : Qu w base v xs) (ad : Addr) (c : Nat) (u : Value) (hx : a.eval x = .slice (some ad) 1 c) (hu : w.cell? ad = some u) (h1 : u.oneCell' = true) (ha : ad.spot = none) (hlen : xs.length ≤ 1000000) (hbase : base ≤ w.heap.size)
    (hk : ∀ v' w', Qu w' base v' (xs ++ [u]) → Below base w w' → wpList P ops Q rest (a.put o.dst v') w') : wpList P ops Q (o :: rest) a w := by
  obtain ⟨v', w', hr, h2, h3, _⟩ := run_append_q (P := P) w base t o.type e i z ht hi hz hsize hby hzs v xs h ad c u hu h1 ha hlen hbase
  refine wpList_plain hgd fun _ hK => ?_
  unfold Oper.wp execOp
  simp only [ho, resolve, invoke, builtin, Sem.run_bind, Sem.run_pure, Result.andThen_ok, List.map_toArray, List.map_cons, List.map_nil, hs, hx, hr]
  exact hK _ _ (hk v' w' h2 h3)
/-- the same, and what it writes -/
theorem wpList_append_qg {P : Program} (w : World) {ops : Array Oper} {rest : List Oper} {o : Oper} {a : Act} {Q : Exit → Act → World → Prop} (hgd : o.guard = none) (s x : Operand) (t : TypeId)
    (ho : o.op = .call { callee := .builtin .append, args := #[s, x], argTypes := #[t, t] })
    (base : Nat) (e : TypeId) (i : TypeInfo) (z : Value) (ht : P.underlying t = some (.slice e)) (hi : P.info? e = some i) (hz : i.zero = some z) (hsize : i.size = 1) (hby : i.bytes ≤ 16) (hzs : z.cells.size = 1)
    (v : Value) (xs : List Value) (hs : a.eval s = v) (h : Qu w base v xs) (ad : Addr) (c : Nat) (u : Value) (hx : a.eval x = .slice (some ad) 1 c) (hu : w.cell? ad = some u) (h1 : u.oneCell' = true) (ha : ad.spot = none) (hlen : xs.length ≤ 1000000) (hbase : base ≤ w.heap.size)
    (hk : ∀ v' w', Qu w' base v' (xs ++ [u]) → Below base w w' → (∀ g off n cap, v = .slice (some ⟨g, off, none⟩) n cap → w.grownBy w' (some g)) → wpList P ops Q rest (a.put o.dst v') w') : wpList P ops Q (o :: rest) a w := by
  obtain ⟨v', w', hr, h2, h3, h4⟩ := run_append_q (P := P) w base t o.type e i z ht hi hz hsize hby hzs v xs h ad c u hu h1 ha hlen hbase
  refine wpList_plain hgd fun _ hK => ?_
  unfold Oper.wp execOp
  simp only [ho, resolve, invoke, builtin, Sem.run_bind, Sem.run_pure, Result.andThen_ok, List.map_toArray, List.map_cons, List.map_nil, hs, hx, hr]
  exact hK _ _ (hk v' w' h2 h3 h4)
end Go.Proofs.Ythedpegaelpbdaa
