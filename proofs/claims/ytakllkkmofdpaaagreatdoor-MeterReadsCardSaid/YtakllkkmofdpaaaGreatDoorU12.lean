import Derived.Test.YtakllkkmofdpaaaGreatDoorU08
set_option linter.unusedVariables false
set_option linter.unusedSimpArgs false
namespace Go.Proofs.YtakllkkmofdpaaaGreatDoor
section
open Go.ChangeShapes Go.WideShapes Go.ChangeAt Go.RowKit
structure RtIs (w : World) (B : Nat) (q : Rat) (b1 : Bool) (A : Option Addr) (n c : Nat) (b2 : Bool) (A2 : Option Addr) (m d : Nat) : Prop where
 num : LgIs w B q.num b1 A n c
 den : LgIs w B (q.den : Int) b2 A2 m d
section
variable {w w' : World} {B B' : Nat} {q : Rat} {b1 : Bool} {A : Option Addr} {n c : Nat} {b2 : Bool} {A2 : Option Addr} {m d : Nat}
theorem RtIs.below (h : RtIs w B q b1 A n c b2 A2 m d) (hb : Below B' w w') (hB : B ≤ B') : RtIs w' B q b1 A n c b2 A2 m d := ⟨h.num.below hb hB, h.den.below hb hB⟩
theorem RtIs.more (h : RtIs w B q b1 A n c b2 A2 m d) (hB : B ≤ B') : RtIs w B' q b1 A n c b2 A2 m d := ⟨h.num.more hB, h.den.more hB⟩
theorem RtIs.up (h : RtIs w w.heap.size q b1 A n c b2 A2 m d) (hb : Below w.heap.size w w') : RtIs w' w'.heap.size q b1 A n c b2 A2 m d := ⟨h.num.up hb, h.den.up hb⟩
theorem RtIs.keep (h : RtIs w w.heap.size q b1 A n c b2 A2 m d) {p : Addr} {v : Value} (hp : w.cell? p = some v) (hv : ∀ k x, v ≠ .int k x) (u : Value) : RtIs (w.setCell p u) (w.setCell p u).heap.size q b1 A n c b2 A2 m d := ⟨h.num.keep hp hv u, h.den.keep hp hv u⟩
theorem RtIs.n_le (h : RtIs w B q b1 A n c b2 A2 m d) : n ≤ qsz q := by rw [h.num.en]; exact qsz_num q
theorem RtIs.m_le (h : RtIs w B q b1 A n c b2 A2 m d) : m ≤ qsz q := by rw [h.den.en, Int.natAbs_natCast]; exact qsz_den q
theorem RtIs.pos (h : RtIs w B q b1 A n c b2 A2 m d) : b2 = false := by rw [h.den.eb]; simp
end
def RtP (q : Rat) (w : World) (e : Ending) (w' : World) : Prop := Below w.heap.size w w' ∧ ∃ b1 A n c b2 A2 m d, e = .returned (.agg #[.bool b1, .slice A n c, .bool b2, .slice A2 m d]) ∧ RtIs w' w'.heap.size q b1 A n c b2 A2 m d
theorem blk_set4 {w : World} {p t : Nat} {v0 v1 v2 v3 x0 x1 x2 x3 : Value} (h : Blk w p t #[x0, x1, x2, x3]) : Blk ((((w.setCell ⟨p, 0, none⟩ v0).setCell ⟨p, 1, none⟩ v1).setCell ⟨p, 2, none⟩ v2).setCell ⟨p, 3, none⟩ v3) p t #[v0, v1, v2, v3] :=
 (((h.set_at (i := 0) (cs' := #[v0, x1, x2, x3]) v0 (by simp)).set_at (i := 1) (cs' := #[v0, v1, x2, x3]) v1 (by simp)).set_at (i := 2) (cs' := #[v0, v1, v2, x3]) v2 (by simp)).set_at (i := 3) v3 (by simp)
theorem below_set4 {a w : World} {B p : Nat} {v0 v1 v2 v3 : Value} (h : Below B a w) (hp : B ≤ p) : Below B a ((((w.setCell ⟨p, 0, none⟩ v0).setCell ⟨p, 1, none⟩ v1).setCell ⟨p, 2, none⟩ v2).setCell ⟨p, 3, none⟩ v3) := (((h.setCell hp _).setCell hp _).setCell hp _).setCell hp _
theorem rt_put {w w2 : World} {g T : Nat} {v0 v1 v2 v3 : Value} {q : Rat} {b1 : Bool} {A : Option Addr} {n c : Nat} {b2 : Bool} {A2 : Option Addr} {m d : Nat} {e : Ending} (hb : Below w.heap.size w w2) (hg : w.heap.size ≤ g) (hB : Blk w2 g T #[v0, v1, v2, v3]) (h0 : ∀ k x, v0 ≠ .int k x) (h1 : ∀ k x, v1 ≠ .int k x) (h2 : ∀ k x, v2 ≠ .int k x) (h3 : ∀ k x, v3 ≠ .int k x) (h : RtIs w2 w2.heap.size q b1 A n c b2 A2 m d) (he : e = .returned (.agg #[.bool b1, .slice A n c, .bool b2, .slice A2 m d])) :
    RtP q w e ((((w2.setCell ⟨g, 0, none⟩ (.bool b1)).setCell ⟨g, 1, none⟩ (.slice A n c)).setCell ⟨g, 2, none⟩ (.bool b2)).setCell ⟨g, 3, none⟩ (.slice A2 m d)) := by
 refine ⟨below_set4 hb hg, b1, A, n, c, b2, A2, m, d, he, ?_⟩
 have B1 := hB.set_at (i := 0) (cs' := #[.bool b1, v1, v2, v3]) (.bool b1) (by simp)
 have B2 := B1.set_at (i := 1) (cs' := #[.bool b1, .slice A n c, v2, v3]) (.slice A n c) (by simp)
 have B3 := B2.set_at (i := 2) (cs' := #[.bool b1, .slice A n c, .bool b2, v3]) (.bool b2) (by simp)
 exact (((h.keep (hB.cell 0) h0 _).keep (B1.cell 1) h1 _).keep (B2.cell 2) h2 _).keep (B3.cell 3) h3 _
end
end Go.Proofs.YtakllkkmofdpaaaGreatDoor
