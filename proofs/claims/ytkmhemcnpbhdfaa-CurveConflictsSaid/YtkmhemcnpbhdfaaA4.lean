import Derived.Test.YtkmhemcnpbhdfaaA3
namespace Go.Proofs.Ytkmhemcnpbhdfaa
open Go.ChangeShapes Go.WideShapes Go.ChangeAt Go.RowKit
attribute [local go_sem ↓] execOp_call_val
attribute [local go_sem] callVal_func setCell_drewN alloc_drewN Br.cells

theorem br_facts {w : World} {p : Nat} {B : Br} (hB : Blk w p 68 B.cells) :
    w.cell? ⟨p, 0, none⟩ = some (.int .i64 B.o) ∧ w.cell? ⟨p, 1, none⟩ = some (.int .i64 B.c) ∧ w.cell? ⟨p, 2, none⟩ = some (.int .i64 B.ch) ∧ w.cell? ⟨p, 3, none⟩ = some (.int .i64 B.st) ∧
    w.cell? ⟨p, 4, none⟩ = some (.int .i64 B.state) ∧ w.cell? ⟨p, 5, none⟩ = some (.int .i64 B.since) ∧ w.cell? ⟨p, 6, none⟩ = some (.bool B.jam) ∧ w.cell? ⟨p, 7, none⟩ = some (.int .i64 B.now) ∧
    w.cell? ⟨p, 8, none⟩ = some (.int .i64 B.stored) ∧ w.cell? ⟨p, 9, none⟩ = some (.int .i64 B.charged) ∧ (∀ i, w.frozen? ⟨p, i, none⟩ = false) ∧ p < w.heap.size :=
  ⟨hB.cell 0, hB.cell 1, hB.cell 2, hB.cell 3, hB.cell 4, hB.cell 5, hB.cell 6, hB.cell 7, hB.cell 8, hB.cell 9, hB.frozen, hB.lt⟩

theorem only_setCell {a w : World} {g : Nat} (h : a.grownBy w (some g)) {p : Addr} (hp : p.block = g ∨ a.heap.size ≤ p.block) (u : Value) : a.grownBy (w.setCell p u) (some g) :=
  ⟨h.os, h.tape, h.output, by simpa [World.setCell] using h.size, fun i hi hne => (Below.heap_setCell w p u i (by
    rintro rfl
    rcases hp with hp | hp
    · exact hne (by rw [hp])
    · omega)).trans (h.block i hi hne)⟩
theorem only_set {a w : World} {p : Nat} (i : Nat) (u : Value) (h : a.grownBy w (some p)) : a.grownBy (w.setCell ⟨p, i, none⟩ u) (some p) := only_setCell h (.inl rfl) u
theorem Blk.set_at {w : World} {p t i : Nat} {cs cs' : Array Value} (u : Value) (hc : cs.setIfInBounds i u = cs') (h : Blk w p t cs) : Blk (w.setCell ⟨p, i, none⟩ u) p t cs' := by
  subst hc; exact h.set_ i u
theorem blk_set10 {w : World} {p t : Nat} {v0 v1 v2 v3 v4 v5 v6 v7 v8 v9 x0 x1 x2 x3 x4 x5 x6 x7 x8 x9 : Value} (h : Blk w p t #[x0, x1, x2, x3, x4, x5, x6, x7, x8, x9]) :
    Blk ((((((((((w.setCell ⟨p, 0, none⟩ v0).setCell ⟨p, 1, none⟩ v1).setCell ⟨p, 2, none⟩ v2).setCell ⟨p, 3, none⟩ v3).setCell ⟨p, 4, none⟩ v4).setCell ⟨p, 5, none⟩ v5).setCell ⟨p, 6, none⟩ v6).setCell ⟨p, 7, none⟩ v7).setCell ⟨p, 8, none⟩ v8).setCell ⟨p, 9, none⟩ v9) p t #[v0, v1, v2, v3, v4, v5, v6, v7, v8, v9] := by
  have h0 : Blk _ p t #[v0, x1, x2, x3, x4, x5, x6, x7, x8, x9] := h.set_at (i := 0) v0 (by simp)
  have h1 : Blk _ p t #[v0, v1, x2, x3, x4, x5, x6, x7, x8, x9] := h0.set_at (i := 1) v1 (by simp)
  have h2 : Blk _ p t #[v0, v1, v2, x3, x4, x5, x6, x7, x8, x9] := h1.set_at (i := 2) v2 (by simp)
  have h3 : Blk _ p t #[v0, v1, v2, v3, x4, x5, x6, x7, x8, x9] := h2.set_at (i := 3) v3 (by simp)
  have h4 : Blk _ p t #[v0, v1, v2, v3, v4, x5, x6, x7, x8, x9] := h3.set_at (i := 4) v4 (by simp)
  have h5 : Blk _ p t #[v0, v1, v2, v3, v4, v5, x6, x7, x8, x9] := h4.set_at (i := 5) v5 (by simp)
  have h6 : Blk _ p t #[v0, v1, v2, v3, v4, v5, v6, x7, x8, x9] := h5.set_at (i := 6) v6 (by simp)
  have h7 : Blk _ p t #[v0, v1, v2, v3, v4, v5, v6, v7, x8, x9] := h6.set_at (i := 7) v7 (by simp)
  have h8 : Blk _ p t #[v0, v1, v2, v3, v4, v5, v6, v7, v8, x9] := h7.set_at (i := 8) v8 (by simp)
  exact h8.set_at (i := 9) v9 (by simp)
theorem only_set10 {a w : World} {p : Nat} {v0 v1 v2 v3 v4 v5 v6 v7 v8 v9 : Value} (h : a.grownBy w (some p)) :
    a.grownBy ((((((((((w.setCell ⟨p, 0, none⟩ v0).setCell ⟨p, 1, none⟩ v1).setCell ⟨p, 2, none⟩ v2).setCell ⟨p, 3, none⟩ v3).setCell ⟨p, 4, none⟩ v4).setCell ⟨p, 5, none⟩ v5).setCell ⟨p, 6, none⟩ v6).setCell ⟨p, 7, none⟩ v7).setCell ⟨p, 8, none⟩ v8).setCell ⟨p, 9, none⟩ v9) (some p) :=
  only_set 9 _ (only_set 8 _ (only_set 7 _ (only_set 6 _ (only_set 5 _ (only_set 4 _ (only_set 3 _ (only_set 2 _ (only_set 1 _ (only_set 0 _ h)))))))))
theorem only_alloc {a w : World} {row : Option Nat} (h : a.grownBy w row) (o : Obj) : a.grownBy (w.alloc o) row :=
  ⟨h.os, h.tape, h.output, Nat.le_trans h.size (by simp), fun i hi hne => (Below.heap_alloc w o i (Nat.lt_of_lt_of_le hi h.size)).trans (h.block i hi hne)⟩
theorem only_of_below {a w : World} (h : Below a.heap.size a w) (row : Option Nat) : a.grownBy w row := ⟨h.os, h.tape, h.output, h.size, fun i hi _ => h.block i hi⟩
theorem only_trans {a b c : World} {g : Nat} (h : a.grownBy b (some g)) (k : b.grownBy c (some g)) : a.grownBy c (some g) :=
  ⟨k.os.trans h.os, k.tape.trans h.tape, k.output.trans h.output, Nat.le_trans h.size k.size, fun i hi hne => (k.block i (Nat.lt_of_lt_of_le hi h.size) hne).trans (h.block i hi hne)⟩
theorem below_only {a b c : World} {B g : Nat} (h : Below B a b) (k : b.grownBy c (some g)) (hg : B ≤ g) (hB : B ≤ a.heap.size) : Below B a c :=
  ⟨k.os.trans h.os, k.tape.trans h.tape, k.output.trans h.output, Nat.le_trans h.size k.size, fun i hi => (k.block i (Nat.lt_of_lt_of_le (Nat.lt_of_lt_of_le hi hB) h.size) (fun e => by injection e; omega)).trans (h.block i hi)⟩
end Go.Proofs.Ytkmhemcnpbhdfaa
