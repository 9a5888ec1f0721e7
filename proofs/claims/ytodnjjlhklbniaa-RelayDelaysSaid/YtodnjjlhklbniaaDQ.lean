/- A queue of places: a slice of two-cell elements of the call's own, at any offset, or nil. -/
import Derived.Test.YtodnjjlhklbniaaB0
import Derived.Deep.AppendSrc
import Derived.Deep.DeepAppendWide
namespace Go.Proofs.Ytodnjjlhklbniaa
open Go.ChangeShapes Go.WideShapes Go.ChangeAt Go.RowKit Go.Deep
set_option linter.unusedVariables false

def plC (q : Nat × Nat) : List Value := [.int .i64 (q.1 : Int), .int .i64 (q.2 : Int)]
def plV (xs : List (Nat × Nat)) : List Value := xs.flatMap plC
theorem plV_len (xs : List (Nat × Nat)) : (plV xs).length = xs.length * 2 := by
  induction xs with
  | nil => rfl
  | cons x r ih => show (plC x ++ plV r).length = _; rw [List.length_append, ih]; simp [plC]; omega
theorem plV_app (xs : List (Nat × Nat)) (q : Nat × Nat) : plV (xs ++ [q]) = plV xs ++ plC q := by unfold plV; rw [List.flatMap_append]; simp
def Qp (w : World) (base : Nat) (v : Value) (xs : List (Nat × Nat)) : Prop :=
  (v = .slice none 0 0 ∧ xs = []) ∨ ∃ g off cap, v = .slice (some ⟨g, off, none⟩) xs.length cap ∧ base ≤ g ∧ g < w.heap.size ∧ xs.length ≤ cap ∧ cap ≤ maxLen ∧ (∀ j, j < cap * 2 → (w.cell? ⟨g, off + j, none⟩).isSome = true ∧ w.frozen? ⟨g, off + j, none⟩ = false) ∧ ∀ (j : Nat) (u : Value), (plV xs)[j]? = some u → w.cell? ⟨g, off + j, none⟩ = some u
section
variable {w w' : World} {base : Nat} {v : Value} {xs : List (Nat × Nat)}
theorem Qp.nil (w : World) (base : Nat) : Qp w base (.slice none 0 0) [] := .inl ⟨rfl, rfl⟩
theorem Qp.at_ (h : Qp w base v xs) (hk : ∀ k, v.ownBlock = some k → w'.heap[k]? = w.heap[k]?) (hs : w.heap.size ≤ w'.heap.size) : Qp w' base v xs := by
  rcases h with h | ⟨g, off, cap, rfl, h2, h3, h4, h5, h6, h7⟩
  · exact .inl h
  · have hg := hk g rfl
    have hc : ∀ o, w'.cell? ⟨g, o, none⟩ = w.cell? ⟨g, o, none⟩ := fun o => World.cell?_of_block (a := ⟨g, o, none⟩) hg
    have hf : ∀ o, w'.frozen? ⟨g, o, none⟩ = w.frozen? ⟨g, o, none⟩ := fun o => by simp only [World.frozen?, hg]
    exact .inr ⟨g, off, cap, rfl, h2, Nat.lt_of_lt_of_le h3 hs, h4, h5, fun j hj => by rw [hc, hf]; exact h6 j hj, fun j u hu => by rw [hc]; exact h7 j u hu⟩
theorem Qp.lt (h : Qp w base v xs) {k : Nat} (hk : v.ownBlock = some k) : base ≤ k ∧ k < w.heap.size := by
  rcases h with ⟨rfl, _⟩ | ⟨g, off, cap, rfl, h2, h3, _⟩
  · cases hk
  · have : g = k := by simpa [Value.ownBlock] using hk
    subst this; exact ⟨h2, h3⟩
theorem Qp.up (h : Qp w base v xs) (hb : Below w.heap.size w w') : Qp w' base v xs := h.at_ (fun k hk => hb.block k (h.lt hk).2) hb.size
theorem Qp.form {q : Nat × Nat} (h : Qp w base v (q :: xs)) : ∃ g off cap, v = .slice (some ⟨g, off, none⟩) (xs.length + 1) cap ∧ base ≤ g ∧ g < w.heap.size ∧ xs.length + 1 ≤ cap ∧ w.cell? ⟨g, off, none⟩ = some (.int .i64 (q.1 : Int)) ∧ w.cell? ⟨g, off + 1, none⟩ = some (.int .i64 (q.2 : Int)) := by
  rcases h with ⟨_, h⟩ | ⟨g, off, cap, rfl, h2, h3, h4, h5, h6, h7⟩
  · cases h
  · exact ⟨g, off, cap, rfl, h2, h3, h4, h7 0 _ rfl, h7 1 _ rfl⟩
theorem Qp.tail {g off n cap : Nat} {x : Nat × Nat} (h : Qp w base (.slice (some ⟨g, off, none⟩) n cap) (x :: xs)) : Qp w base (.slice (if cap = 1 then some ⟨g, off, none⟩ else some ⟨g, off + 2, none⟩) (n - 1) (cap - 1)) xs := by
  rcases h with ⟨h, _⟩ | ⟨g', off', cap', h1, h2, h3, h4, h5, h6, h7⟩
  · cases h
  injection h1 with e1 e2 e3
  injection e1 with e1
  injection e1 with e4 e5
  subst e2; subst e3; subst e4; subst e5
  simp only [List.length_cons, Nat.add_sub_cancel] at h4 ⊢
  right
  by_cases hc : cap = 1
  · have hx : xs.length = 0 := by omega
    rw [if_pos hc]
    refine ⟨g, off, cap - 1, rfl, h2, h3, by omega, by omega, fun j hj => by omega, fun j u hu => ?_⟩
    have := (List.getElem?_eq_some_iff.1 hu).1
    rw [plV_len] at this
    omega
  · rw [if_neg hc]
    refine ⟨g, off + 2, cap - 1, rfl, h2, h3, by omega, by omega, fun j hj => ?_, fun j u hu => ?_⟩
    · rw [Nat.add_assoc, Nat.add_comm 2 j]; exact h6 (j + 2) (by omega)
    · rw [Nat.add_assoc, Nat.add_comm 2 j]; exact h7 (j + 2) u (by show (plC x ++ plV xs)[j + 2]? = some u; rw [List.getElem?_append_right (by simp [plC])]; simpa [plC] using hu)
end
theorem run_append_qp {P : Program} (w : World) (base : Nat) (t ty e : TypeId) (i : TypeInfo) (z : Value) (ht : P.underlying t = some (.slice e)) (hi : P.info? e = some i) (hz : i.zero = some z) (hsize : i.size = 2) (hby : i.bytes ≤ 16) (hzs : z.cells.size = 2)
    (v : Value) (xs : List (Nat × Nat)) (h : Qp w base v xs) (b c : Nat) (q : Nat × Nat) (hu : w.cell? ⟨b, 0, none⟩ = some (.int .i64 (q.1 : Int))) (hu2 : w.cell? ⟨b, 1, none⟩ = some (.int .i64 (q.2 : Int))) (hlen : xs.length ≤ 1000000) (hbase : base ≤ w.heap.size) :
    ∃ v' w', (Builtin.append_ #[t, t] ty #[v, .slice (some ⟨b, 0, none⟩) 1 c]).run P w = .ok v' w' ∧ Qp w' base v' (xs ++ [q]) ∧ w.grownBy w' v.ownBlock ∧ (v'.ownBlock = v.ownBlock ∨ v'.ownBlock = some w.heap.size) := by
  have hnews : ∀ (j : Nat) (x : Value), (plC q)[j]? = some x → w.cell? ((⟨b, 0, none⟩ : Addr).add j) = some x := fun j x hx => by
    rw [Addr.add_lit, Nat.zero_add]
    match j with
    | 0 => simp [plC] at hx; subst hx; exact hu
    | 1 => simp [plC] at hx; subst hx; exact hu2
    | j + 2 => simp [plC] at hx
  have hone : ∀ x ∈ plC q, x.oneCell' = true := fun x hx => by
    simp [plC] at hx
    rcases hx with rfl | rfl <;> rfl
  have hge := grownCap_ge w
  rcases h with ⟨rfl, rfl⟩ | ⟨g, off, cap, rfl, h2, h3, h4, h5, h6, h7⟩
  · have hr := run_append_nil (P := P) w t ty e i z ht hi hz ⟨b, 0, none⟩ 1 c (plC q) (by rw [hsize]; rfl) hnews (by omega) (by omega) (by omega)
    have hge := grownCap_ge w 1 0 e
    have hcm : grownCap w 1 0 e ≤ maxLen := grownCap_le_maxLen w 1 0 e (by simp only [maxLen]; omega)
    generalize grownCap w 1 0 e = gc at *
    have hblk := Blk.new w.drew e ((plC q).toArray ++ Builtin.zeroCells z.cells (gc - 1))
    rw [show w.drew.heap.size = w.heap.size from rfl] at hblk
    have hsz : ((plC q).toArray ++ Builtin.zeroCells z.cells (gc - 1)).size = gc * 2 := by
      rw [Array.size_append, size_zeroCells, hzs]
      simp [plC]; omega
    refine ⟨_, _, hr, .inr ⟨w.heap.size, 0, gc, rfl, hbase, by simp, by simpa using hge, hcm, fun j hj => ?_, fun j x hx => ?_⟩, only_alloc (only_drewN (World.grownBy.refl w _) 1) _, .inr rfl⟩
    · rw [Nat.zero_add]
      refine ⟨?_, hblk.frozen j⟩
      rw [hblk.cell j, Array.getElem?_eq_getElem (by omega)]; rfl
    · rw [Nat.zero_add]
      have hx' : (plC q)[j]? = some x := by simpa [plV] using hx
      have hl := (List.getElem?_eq_some_iff.1 hx').1
      rw [hblk.cell j, Array.getElem?_append_left (by simpa using hl)]
      simpa using hx'
  have hsrc : Src P i.size t (.slice (some ⟨b, 0, none⟩) 1 c) 1 (plC q) w := Src.ofSlice w ht ⟨b, 0, none⟩ 1 c (plC q) (by rw [hsize]; rfl) hnews hone
  by_cases hroom : xs.length + 1 ≤ cap
  · have hsome : ∀ j, j < 2 → (w.cell? ⟨g, off + xs.length * 2 + j, none⟩).isSome = true ∧ w.frozen? ⟨g, off + xs.length * 2 + j, none⟩ = false := fun j hj => by
      rw [Nat.add_assoc]; exact h6 _ (by omega)
    have hr := run_append_room_src (P := P) w t t ty e i ht hi g off xs.length cap _ 1 (plC q) hsrc hroom
      (fun j hj => by rw [hsize]; exact (hsome j (by simpa [plC] using hj)).1)
      (fun j hj => by rw [hsize]; exact (hsome j (by simpa [plC] using hj)).2)
    rw [hsize] at hr
    have hin := fun j (hj : j < 2) => World.cell?_setCells_in g (plC q) (off + xs.length * 2) w (fun j hj => (hsome j (by simpa [plC] using hj)).1) j (by simpa [plC] using hj)
    have hcell : ∀ j, j < xs.length * 2 ∨ xs.length * 2 + 2 ≤ j → (w.setCells g (off + xs.length * 2) (plC q)).cell? ⟨g, off + j, none⟩ = w.cell? ⟨g, off + j, none⟩ := fun j hj => World.cell?_setCells_out g (plC q) (off + xs.length * 2) w _ (fun _ _ => by simp only [plC, List.length_cons, List.length_nil]; omega)
    have hset : w.setCells g (off + xs.length * 2) (plC q) = (w.setCell ⟨g, off + xs.length * 2, none⟩ (.int .i64 (q.1 : Int))).setCell ⟨g, off + xs.length * 2 + 1, none⟩ (.int .i64 (q.2 : Int)) := rfl
    have hgr : w.grownBy (w.setCells g (off + xs.length * 2) (plC q)) (some g) := by
      rw [hset]; exact only_setCell (only_setCell (World.grownBy.refl w (some g)) (.inl rfl) _) (.inl rfl) _
    refine ⟨_, _, hr, .inr ⟨g, off, cap, by rw [List.length_append]; rfl, h2, Nat.lt_of_lt_of_le h3 hgr.size, by rw [List.length_append]; simpa using hroom, h5, fun j hj => ⟨?_, ?_⟩, fun j x hx => ?_⟩, hgr, .inl rfl⟩
    · by_cases hje : j < xs.length * 2 ∨ xs.length * 2 + 2 ≤ j
      · rw [hcell j hje]; exact (h6 j hj).1
      · have := hin (j - xs.length * 2) (by omega)
        rw [show off + xs.length * 2 + (j - xs.length * 2) = off + j from by omega] at this
        rw [this]; rfl
    · rw [World.frozen?_setCells]; exact (h6 j hj).2
    · rw [plV_app] at hx
      by_cases hje : j < xs.length * 2
      · rw [hcell j (.inl hje)]
        rw [List.getElem?_append_left (by rw [plV_len]; exact hje)] at hx
        exact h7 j x hx
      · rw [List.getElem?_append_right (by rw [plV_len]; omega), plV_len] at hx
        have hl : j - xs.length * 2 < 2 := by have := (List.getElem?_eq_some_iff.1 hx).1; simpa [plC] using this
        have := hin (j - xs.length * 2) hl
        rw [show off + xs.length * 2 + (j - xs.length * 2) = off + j from by omega] at this
        rw [this, ← hx, List.getElem?_eq_getElem]
  · have hold : (Builtin.firstCells i.size xs.length (.slice (some ⟨g, off, none⟩) xs.length cap)).run P w.drew = .ok (plV xs).toArray w.drew :=
      run_firstCells_some w.drew i.size xs.length ⟨g, off, none⟩ xs.length cap (plV xs) (by rw [hsize, plV_len]) (fun j x hx => by rw [Addr.add_lit]; exact h7 j x hx)
    have hr := run_append_grow_src (P := P) w t t ty e i z ht hi hz (some ⟨g, off, none⟩) xs.length cap (plV xs) hold _ 1 (plC q) hsrc (by omega) (by omega)
      (growslice_fits_wide (by omega) (Nat.le_trans (Nat.mul_le_mul_left _ hby) (by omega)))
    have hge := grownCap_ge w (xs.length + 1) cap e
    have hcm : grownCap w (xs.length + 1) cap e ≤ maxLen := grownCap_le_maxLen w (xs.length + 1) cap e (by simp only [maxLen]; omega)
    generalize grownCap w (xs.length + 1) cap e = gc at *
    have hblk := Blk.new w.drew e ((plV xs ++ plC q).toArray ++ Builtin.zeroCells z.cells (gc - (xs.length + 1)))
    rw [show w.drew.heap.size = w.heap.size from rfl] at hblk
    have hsz : ((plV xs ++ plC q).toArray ++ Builtin.zeroCells z.cells (gc - (xs.length + 1))).size = gc * 2 := by
      rw [Array.size_append, size_zeroCells, hzs]
      simp only [List.size_toArray, List.length_append, plV_len]
      simp [plC]; omega
    refine ⟨_, _, hr, .inr ⟨w.heap.size, 0, gc, by rw [List.length_append]; rfl, hbase, by simp, by rw [List.length_append]; simpa using hge, hcm, fun j hj => ?_, fun j x hx => ?_⟩, only_alloc (only_drewN (World.grownBy.refl w _) 1) _, .inr rfl⟩
    · rw [Nat.zero_add]
      refine ⟨?_, hblk.frozen j⟩
      rw [hblk.cell j, Array.getElem?_eq_getElem (by omega)]; rfl
    · rw [Nat.zero_add]
      rw [plV_app] at hx
      have hl := (List.getElem?_eq_some_iff.1 hx).1
      rw [hblk.cell j, Array.getElem?_append_left (by simpa using hl)]
      simpa using hx
end Go.Proofs.Ytodnjjlhklbniaa
