/- A field of the call's own, which may be written. -/
import Derived.Test.YthedpegaelpbdaaGS
import Derived.Laws.OwnMore
namespace Go.Proofs.Ythedpegaelpbdaa
open Go.ChangeShapes Go.WideShapes Go.ChangeAt Go.RowKit
set_option linter.unusedVariables false
theorem own_below {w w' : World} {base e size n : Nat} {v : Value} {xs : List Value} (h : w.ownsRow base e size v n xs) (hb : Below w.heap.size w w') : w'.ownsRow base e size v n xs := by
  refine ⟨h.1, ?_⟩
  rcases h.2 with h1 | ⟨g, cap, cur, h1, h2, h3, h4⟩
  · exact .inl h1
  · refine .inr ⟨g, cap, cur, h1, h2, ?_, h4⟩
    have hg : g < w.heap.size := by
      rcases Nat.lt_or_ge g w.heap.size with h | h
      · exact h
      · rw [Array.getElem?_eq_none h] at h3; cases h3
    exact (hb.block g hg).trans h3


theorem grown_trans {a b c : World} {row : Option Nat} (h : a.grownBy b row) (k : b.grownBy c row) : a.grownBy c row :=
  ⟨k.os.trans h.os, k.tape.trans h.tape, k.output.trans h.output, Nat.le_trans h.size k.size, fun i hi hr => (k.block i (Nat.lt_of_lt_of_le hi h.size) hr).trans (h.block i hi hr)⟩
theorem below_grown {a b c : World} {B : Nat} {row : Option Nat} (h : Below B a b) (k : b.grownBy c row) (hB : B ≤ a.heap.size) (hr : ∀ r, row = some r → B ≤ r) : Below B a c :=
  h.grown k (Nat.le_trans hB h.size) hr
theorem RdEd.of_own {w : World} {base : Nat} {v : Value} {es : List Ed} (h : w.ownsRow base 104 5 v es.length (es.flatMap Ed.cells)) : ∃ A c, v = .slice A es.length c ∧ RdEd w w.heap.size A es.length es := by
  rcases h.2 with ⟨h1, h2⟩ | ⟨g, cap, cur, h1, h2, h3, h4⟩
  · refine ⟨none, 0, by rw [h1, h2], rfl, flat_len Ed.len es, fun h0 => by omega⟩
  · refine ⟨some ⟨g, 0, none⟩, cap, h1, rfl, flat_len Ed.len es, fun h0 => ⟨g, 0, rfl, (h.lt g (by rw [h1]; rfl)).2, fun j u hu => ?_⟩⟩
    have := h.cells (g := g) (by rw [h1]; rfl) j u hu
    rw [Addr.add_lit] at this
    exact this
structure FdW (w : World) (p g : Nat) (es : List Ed) (place : Nat) (v : Value) (src : List Bool) : Prop where
  qf : Blk w p 107 #[v, .int .i64 place, .slice (some ⟨g, 0, none⟩) src.length src.length, .int .i64 src.length]
  qg : Blk w g 4 (src.map Value.bool).toArray
  own : w.ownsRow (p + 1) 104 5 v es.length (es.flatMap Ed.cells)
  gs : p < g
  og : v.ownBlock ≠ some g
section
variable {w : World} {p g : Nat} {es : List Ed} {place : Nat} {v : Value} {src : List Bool}
theorem FdW.is (h : FdW w p g es place v src) : ∃ A c, v = .slice A es.length c ∧ FdIs w p A c es place (some ⟨g, 0, none⟩) src.length src := by
  obtain ⟨A, c, hv, hr⟩ := RdEd.of_own h.own
  refine ⟨A, c, hv, by have := h.qf; rwa [hv] at this, hr, by simp, fun h0 => ⟨g, 0, rfl, h.qg.lt, fun j u hu => ?_⟩⟩
  rw [show (⟨g, 0 + j, none⟩ : Addr) = ⟨g, j, none⟩ from by simp, h.qg.cell j]
  simpa using hu
theorem FdW.up {w' : World} (h : FdW w p g es place v src) (hb : Below w.heap.size w w') : FdW w' p g es place v src :=
  ⟨h.qf.below hb h.qf.lt, h.qg.below hb h.qg.lt, own_below h.own hb, h.gs, h.og⟩
/-- memory written elsewhere -/
theorem FdW.grown {w' : World} {row : Option Nat} (h : FdW w p g es place v src) (hb : w.grownBy w' row) (h1 : row ≠ some p) (h2 : row ≠ some g) (h3 : v.ownBlock = none ∨ v.ownBlock ≠ row) : FdW w' p g es place v src :=
  ⟨h.qf.grown hb (Ne.symm h1), h.qg.grown hb (Ne.symm h2), h.own.kept hb h3, h.gs, h.og⟩
theorem flat_set {α β : Type} {el : α → List β} {sz : Nat} (hlen : ∀ a, (el a).length = sz) : ∀ (xs : List α) (i : Nat) (x y : α) (k : Nat) (u : β), xs[i]? = some x → k < sz → el y = (el x).set k u → (xs.flatMap el).set (i * sz + k) u = (xs.set i y).flatMap el
  | [], i, x, y, k, u, h, _, _ => by simp at h
  | z :: r, 0, x, y, k, u, h, hk, he => by
    simp at h; subst h
    rw [Nat.zero_mul, Nat.zero_add, List.flatMap_cons, List.set_cons_zero, List.flatMap_cons, he, List.set_append_left _ _ (by rw [hlen]; exact hk)]
  | z :: r, i + 1, x, y, k, u, h, hk, he => by
    have ih := flat_set hlen r i x y k u (by simpa using h) hk he
    rw [List.flatMap_cons, List.set_cons_succ, List.flatMap_cons, ← ih]
    rw [List.set_append_right _ _ (by rw [hlen, Nat.succ_mul]; omega)]
    congr 2
    rw [hlen, Nat.succ_mul]; omega
theorem Ed.set_fl (e : Ed) (s : Int) : (e.add s).cells = e.cells.set 4 (.int .i64 (e.fl + s)) := rfl
/-- an edge's flow is written -/
theorem FdW.put {eb c k : Nat} {e : Ed} (h : FdW w p g es place (.slice (some ⟨eb, 0, none⟩) es.length c) src) (he : es[k]? = some e) (s : Int) :
    FdW (w.setCell ⟨eb, k * 5 + 4, none⟩ (.int .i64 (e.fl + s))) p g (es.set k (e.add s)) place (.slice (some ⟨eb, 0, none⟩) es.length c) src ∧ w.grownBy (w.setCell ⟨eb, k * 5 + 4, none⟩ (.int .i64 (e.fl + s))) (some eb) := by
  have h1 := h.own.stored (k * 5 + 4) (.int .i64 (e.fl + s))
  have hpe : p + 1 ≤ eb := (h.own.lt eb rfl).1
  have hge : eb ≠ g := fun e => h.og (by rw [e]; rfl)
  refine ⟨⟨h.qf.far (by simp; omega) _, h.qg.far (by simpa using Ne.symm hge) _, ?_, h.gs, h.og⟩, h1.2⟩
  have h2 := h1.1
  rw [flat_set Ed.len es k e (e.add s) 4 _ he (by omega) (e.set_fl s)] at h2
  simpa using h2
end
end Go.Proofs.Ythedpegaelpbdaa
