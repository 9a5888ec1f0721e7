/- A slice of points that came in, opened to its cells. -/
import Derived.Test.YtkmhemcnpbhdfaaR0
import Derived.Test.YtkmhemcnpbhdfaaK2
import Derived.Deep.Slices
import Derived.Deep.Fields
namespace Go.Proofs.Ytkmhemcnpbhdfaa
open Go.ChangeShapes Go.WideShapes Go.ChangeAt Go.RowKit Go.Joins Go.Deep
set_option linter.unusedVariables false

section
variable {H : Type} {enc : TypeId × Value → H} {P : Program} {w : World} {base : Nat} {spare : Nat → Bool} {held : Bool}
theorem open_slice_fields {t e : TypeId} {fs : Array Field} {fuel : Nat} {cs : List Value} {x : DataW H × List MemPlace} (ht : P.underlying t = some (.slice e)) (he : P.underlying e = some (.struct fs))
    (hone : oneCellFields P fs = true) (hC : P.cellsOf e = fs.size) (h : DataW.trod enc P w base spare held fuel t cs = some x) :
    (cs = [.slice none 0 0] ∧ x = (.nil, [])) ∨
    ∃ (a : Addr) (len cap m : Nat) (D : Nat → DataW H) (Pl : Nat → List MemPlace), cs = [.slice (some a) len cap] ∧ base ≤ a.block ∧ len ≤ cap ∧ cap ≤ maxLen ∧ m = (if spare a.block then cap else len) ∧
      x = (.slice ((List.range len).map D) ((List.range (m - len)).map fun j => D (len + j)), MemPlace.row a (m * fs.size) ++ (List.range m).flatMap Pl) ∧
      ∀ i, i < m → ∃ (ys : List (DataW H × List MemPlace)) (n : Nat), D i = .agg (ys.map (·.1)) ∧ Pl i = ys.flatMap (·.2) ∧ ys.length = fs.size ∧
        ∀ (j : Nat) (f : Field), fs[j]? = some f → ∃ (v : Value) (y : DataW H × List MemPlace), w.cell? (a.add (i * fs.size + j)) = some v ∧ ys[j]? = some y ∧ DataW.trod enc P w base spare held n f.type [v] = some y := by
  rcases open_slice ht h with h0 | ⟨a, len, cap, m, n, D, Pl, hcs, hb, hl, hm, hmm, hx, hi⟩
  · exact .inl h0
  · refine .inr ⟨a, len, cap, m, D, Pl, hcs, hb, hl, hm, hmm, by rw [hC] at hx; exact hx, fun i him => ?_⟩
    obtain ⟨cs', hc, ht'⟩ := hi i him
    rw [hC] at hc
    obtain ⟨ys, n', hn', hy, hlen, hyl, hf⟩ := DataW.trod_struct he ht'
    obtain ⟨_, hcl, hat⟩ := World.cells?_some hc
    simp only [Prod.mk.injEq] at hy
    refine ⟨ys, n', hy.1, hy.2, hyl, fun j f hj => ?_⟩
    obtain ⟨ho, hk⟩ := hone_of hone j f hj
    have hjl : j < fs.size := (Array.getElem?_eq_some_iff.1 hj).1
    have hcell := hat j hjl
    have hv : cs'[j]? = some (cs'[j]'(by omega)) := List.getElem?_eq_getElem (by omega)
    have h1 := hf j f hj
    rw [ho, hk] at h1
    have hone' : (cs'.drop j).take 1 = [cs'[j]'(by omega)] := by
      rw [List.drop_eq_getElem_cons (by omega)]
      rfl
    rw [hone'] at h1
    have hys : ys[j]? = some (ys[j]'(by omega)) := List.getElem?_eq_getElem (by omega)
    refine ⟨_, _, ?_, hys, h1.trans hys⟩
    rw [← Go.Deep.add_add, hcell, hv]
end

theorem cell_lt {w : World} {a : Addr} {v : Value} (h : w.cell? a = some v) : a.block < w.heap.size ∧ a.spot = none := by
  unfold World.cell? at h
  cases hb : w.heap[a.block]? with
  | none => rw [hb] at h; cases h
  | some o =>
    rw [hb] at h
    refine ⟨(Array.getElem?_eq_some_iff.1 hb).1, ?_⟩
    cases o with
    | cells c t f =>
      simp only at h
      split at h
      · cases h
      · rename_i hs; simpa using hs
    | _ => cases h

theorem open_points {H : Type} {enc : TypeId × Value → H} {w : World} {sp : Nat → Bool} {v : Value} {d : DataW H} {p : List MemPlace} (hv : ∃ A n c, v = .slice A n c)
    (h : DataW.Trod enc Try.prog w 0 sp true 49 v d p) : ∃ (A : Option Addr) (n c : Nat) (ps : List (Int × Int)), v = .slice A n c ∧ n ≤ 9223372036854775807 ∧ n ≤ c ∧ c ≤ maxLen ∧ RdP w w.heap.size A n ps := by
  obtain ⟨fuel, hf⟩ := h
  obtain ⟨A0, n0, c0, rfl⟩ := hv
  rcases open_slice_fields Try.underlying49 Try.underlying54 (by kernel_rfl) (by kernel_rfl) hf with ⟨hcs, _⟩ | ⟨a, len, cap, m, D, Pl, hcs, _, hl, hm, hmm, _, hi⟩
  · simp [Value.cells] at hcs
    obtain ⟨rfl, rfl, rfl⟩ := hcs
    exact ⟨none, 0, 0, [], rfl, by omega, by omega, by simp [maxLen], rfl, fun h => by omega⟩
  · simp [Value.cells] at hcs
    obtain ⟨rfl, rfl, rfl⟩ := hcs
    have hlm : n0 ≤ m := by rw [hmm]; split <;> omega
    have key : ∀ i, i < n0 → ∃ x : Int × Int, w.cell? (a.add (i * 2)) = some (.int .i64 x.1) ∧ w.cell? (a.add (i * 2 + 1)) = some (.int .i64 x.2) := by
      intro i hin
      obtain ⟨ys, fu, _, _, _, hall⟩ := hi i (by omega)
      obtain ⟨v0, y0, hc0, _, ht0⟩ := hall 0 _ rfl
      obtain ⟨v1, y1, hc1, _, ht1⟩ := hall 1 _ rfl
      obtain ⟨x0, e0, _, _⟩ := DataW.trod_int Try.underlying3 ht0
      obtain ⟨x1, e1, _, _⟩ := DataW.trod_int Try.underlying3 ht1
      simp at e0 e1
      subst e0; subst e1
      exact ⟨(x0, x1), hc0, hc1⟩
    let ps : List (Int × Int) := (List.range n0).map fun i => if h : i < n0 then (key i h).choose else (0, 0)
    have hps : ∀ i, i < n0 → ∃ x, ps[i]? = some x ∧ w.cell? (a.add (i * 2)) = some (.int .i64 x.1) ∧ w.cell? (a.add (i * 2 + 1)) = some (.int .i64 x.2) := by
      intro i hin
      refine ⟨(key i hin).choose, ?_, (key i hin).choose_spec⟩
      simp [ps, hin]
    have hplen : ps.length = n0 := by simp [ps]
    refine ⟨some a, n0, c0, ps, rfl, by unfold maxLen at hm; omega, hl, hm, by rw [ptCells_len, hplen], fun h0 => ?_⟩
    obtain ⟨x0, _, hc0, _⟩ := hps 0 h0
    obtain ⟨hlt, hsp⟩ := cell_lt hc0
    have hadd : ∀ j, (a.add j) = ⟨a.block, a.off + j, none⟩ := by
      intro j
      have hs : a.spot = none := by simpa [Addr.add] using hsp
      unfold Addr.add
      split
      · rename_i hj; subst hj; cases a; simp at hs; subst hs; rfl
      · rfl
    have hs : a.spot = none := by simpa [Addr.add] using hsp
    refine ⟨a.block, a.off, by cases a; simp at hs; subst hs; rfl, by simpa [Addr.add] using hlt, fun j u hu => ?_⟩
    have hjl : j < n0 * 2 := by have := (List.getElem?_eq_some_iff.1 hu).1; rw [ptCells_len, hplen] at this; exact this
    obtain ⟨x, hx, h1, h2⟩ := hps (j / 2) (by omega)
    obtain ⟨p1, p2⟩ := ptCells_at ps (j / 2) x hx
    rcases Nat.mod_two_eq_zero_or_one j with hm2 | hm2
    · have hj : j / 2 * 2 = j := by omega
      rw [hj] at h1 p1
      rw [p1] at hu
      injection hu with hu
      rw [← hadd, h1, hu]
    · have hj : j / 2 * 2 + 1 = j := by omega
      rw [hj] at h2 p2
      rw [p2] at hu
      injection hu with hu
      rw [← hadd, h2, hu]
end Go.Proofs.Ytkmhemcnpbhdfaa
