import Derived.Test.YtkmhemcnpbhdfaaA4
namespace Go.Proofs.Ytkmhemcnpbhdfaa
open Go.ChangeShapes Go.WideShapes Go.ChangeAt Go.RowKit
attribute [local go_sem ↓] execOp_call_val
attribute [local go_sem] callVal_func setCell_drewN alloc_drewN Br.cells


theorem get_early (p : Nat) (B : Br) (w : World) (hB : Blk w p 68 B.cells) (t : Int) (ht : t < B.now ∨ 1000000000 < t) :
    Calls Try.prog 18 #[.pointer (some ⟨p, 0, none⟩), .int .i64 t] w fun e w' => e = .returned (.tuple #[.int .i64 0, .int .i64 12]) ∧ Below w.heap.size w w' := by
  have hlt := hB.lt
  go_enter Try.func18, Try.ntmps18
  go_wp2_with (go_at_call 41; refine (at_early _ B _ hB _ ht).mono ?_; rintro e w1 ⟨rfl, hb1⟩)
  go_ret2
  exact ⟨rfl, hb1.alloc hb1.size _⟩

theorem get_any (p : Nat) (B : Br) (w : World) (hB : Blk w p 68 B.cells) (ok : B.Ok) (t : Int) (ht : B.now ≤ t) (ht2 : t ≤ 1000000000) :
    Calls Try.prog 18 #[.pointer (some ⟨p, 0, none⟩), .int .i64 t] w fun e w' => e = .returned (.tuple #[.int .i64 (B.at_ t).state, .int .i64 0]) ∧ w.grownBy w' (some p) ∧ Blk w' p 68 (B.at_ t).cells := by
  have hlt := hB.lt
  go_enter Try.func18, Try.ntmps18
  go_wp2_with (go_at_call 41; refine (at_any _ B _ hB ok _ ht ht2).mono ?_; rintro e w1 ⟨rfl, hb1⟩; have hB1 := hB.below hb1 hlt; obtain ⟨c0, c1, c2, c3, c4, c5, c6, c7, c8, c9, cf, hlt1⟩ := br_facts hB1; have HB1 := Lib.hid hB1; clear hB1)
  go_ret2
  exact ⟨rfl, only_alloc (only_set10 (only_of_below hb1 _)) _, (blk_set10 HB1.out).alloc _⟩

theorem energy_early (p : Nat) (B : Br) (w : World) (hB : Blk w p 68 B.cells) (t : Int) (ht : t < B.now ∨ 1000000000 < t) :
    Calls Try.prog 20 #[.pointer (some ⟨p, 0, none⟩), .int .i64 t] w fun e w' => e = .returned (.tuple #[.int .i64 0, .int .i64 12]) ∧ Below w.heap.size w w' := by
  have hlt := hB.lt
  go_enter Try.func20, Try.ntmps20
  go_wp2_with (go_at_call 41; refine (at_early _ B _ hB _ ht).mono ?_; rintro e w1 ⟨rfl, hb1⟩)
  go_ret2
  exact ⟨rfl, hb1.alloc hb1.size _⟩

theorem energy_any (p : Nat) (B : Br) (w : World) (hB : Blk w p 68 B.cells) (ok : B.Ok) (t : Int) (ht : B.now ≤ t) (ht2 : t ≤ 1000000000) :
    Calls Try.prog 20 #[.pointer (some ⟨p, 0, none⟩), .int .i64 t] w fun e w' => e = .returned (.tuple #[.int .i64 (B.at_ t).stored, .int .i64 0]) ∧ w.grownBy w' (some p) ∧ Blk w' p 68 (B.at_ t).cells := by
  have hlt := hB.lt
  go_enter Try.func20, Try.ntmps20
  go_wp2_with (go_at_call 41; refine (at_any _ B _ hB ok _ ht ht2).mono ?_; rintro e w1 ⟨rfl, hb1⟩; have hB1 := hB.below hb1 hlt; obtain ⟨c0, c1, c2, c3, c4, c5, c6, c7, c8, c9, cf, hlt1⟩ := br_facts hB1; have HB1 := Lib.hid hB1; clear hB1)
  go_ret2
  exact ⟨rfl, only_alloc (only_set10 (only_of_below hb1 _)) _, (blk_set10 HB1.out).alloc _⟩

def Br.withJam (B : Br) (j : Bool) : Br := { B with jam := j }
def Br.jammed (B : Br) (t : Int) (j : Bool) : Br := ((B.at_ t).withJam j).withState ((B.at_ t).withJam j).mv
theorem Br.Ok.withJam {b : Br} (ok : b.Ok) (j : Bool) : (b.withJam j).Ok := by
  obtain ⟨_, _, _, _, _, _, _, _, _, _, _, _, _, _, _⟩ := ok
  constructor <;> assumption

theorem only_drewN {a w : World} {row : Option Nat} (h : a.grownBy w row) (n : Nat) : a.grownBy (w.drewN n) row := ⟨h.os, h.tape, h.output, h.size, h.block⟩

set_option maxHeartbeats 1000000 in
theorem jam_any (p : Nat) (B : Br) (w : World) (hB : Blk w p 68 B.cells) (ok : B.Ok) (t : Int) (j : Bool) (ht : B.now ≤ t) (ht2 : t ≤ 1000000000) :
    Calls Try.prog 21 #[.pointer (some ⟨p, 0, none⟩), .int .i64 t, .bool j] w fun e w' => e = .returned (.int .i64 0) ∧ w.grownBy w' (some p) ∧ Blk w' p 68 (B.jammed t j).cells := by
  have hlt := hB.lt
  have ok2 := (ok.at_ ht ht2).withJam j
  go_enter Try.func21, Try.ntmps21
  go_wp2_with (first | (go_at_call 41; refine (at_any _ B _ hB ok _ ht ht2).mono ?_; rintro e w1 ⟨rfl, hb1⟩; have hB1 := hB.below hb1 hlt; obtain ⟨c0, c1, c2, c3, c4, c5, c6, c7, c8, c9, cf, hlt1⟩ := br_facts hB1; have HB1 := Lib.hid hB1; clear hB1) | (go_at_call 42; refine (move_any _ ((B.at_ t).withJam j) _ (by exact Blk.new_ rfl) ok2).mono ?_; rintro e w2 ⟨rfl, n, rfl⟩))
  go_ret
  exact ⟨rfl, only_drewN (only_alloc (only_set10 (only_of_below hb1 _)) _) n, ((blk_set10 HB1.out).alloc _).drewN n⟩

def Br.isFailed (B : Br) (t wait : Int) : Bool := decide ((B.at_ t).state = 1 ∧ (B.at_ t).o + wait ≤ t - (B.at_ t).since)

theorem failed_any (p : Nat) (B : Br) (w : World) (hB : Blk w p 68 B.cells) (ok : B.Ok) (t wait : Int) (ht : B.now ≤ t) (ht2 : t ≤ 1000000000) (hw : 0 ≤ wait) (hw2 : wait ≤ 100000) :
    Calls Try.prog 22 #[.pointer (some ⟨p, 0, none⟩), .int .i64 t, .int .i64 wait] w fun e w' => e = .returned (.tuple #[.bool (B.isFailed t wait), .int .i64 0]) ∧ w.grownBy w' (some p) ∧ Blk w' p 68 (B.at_ t).cells := by
  have hlt := hB.lt
  have okt := ok.at_ ht ht2
  have hfin : Hid (B.isFailed t wait = decide ((B.at_ t).state = 1 ∧ (B.at_ t).o + wait ≤ t - (B.at_ t).since)) := Lib.hid rfl
  have ho1 := okt.o1
  have ho2 := okt.o2
  have hs1 := okt.s1
  have hs2 := okt.s2
  have hn2 := okt.n2
  have hnw : (B.at_ t).now = t := by unfold Br.at_ Br.withState Br.pre; dsimp only; split <;> (try split) <;> rfl
  rw [hnw] at hs2
  clear hnw okt
  go_enter Try.func22, Try.ntmps22
  go_wp2_with (go_at_call 41; refine (at_any _ B _ hB ok _ ht ht2).mono ?_; rintro e w1 ⟨rfl, hb1⟩; have hB1 := hB.below hb1 hlt; obtain ⟨c0, c1, c2, c3, c4, c5, c6, c7, c8, c9, cf, hlt1⟩ := br_facts hB1; have HB1 := Lib.hid hB1; clear hB1)
  · have hst : (B.at_ t).state = 1 := by assumption
    go_ret2
    refine ⟨?_, only_alloc (only_set10 (only_of_below hb1 _)) _, ?_⟩
    · rw [hfin.out, hst]
      simp
    · simp only [Br.cells, hst]
      exact (blk_set10 HB1.out).alloc _
  · have hst : ¬ (B.at_ t).state = 1 := by assumption
    go_ret2
    refine ⟨?_, only_alloc (only_set10 (only_of_below hb1 _)) _, (blk_set10 HB1.out).alloc _⟩
    rw [hfin.out]
    simp [hst]

theorem new_err (o c ch st : Int) (j : Bool) (w : World) (h : brCheck o c ch st ≠ 0) :
    Calls Try.prog 15 #[.agg #[.int .i64 o, .int .i64 c, .int .i64 ch, .int .i64 st], .bool j] w fun e w' => e = .returned (.tuple #[.pointer none, .int .i64 (brCheck o c ch st)]) ∧ Below w.heap.size w w' := by
  have h1 : (brCheck o c ch st != 0) = true := by simpa using h
  clear h
  go_enter Try.func15, Try.ntmps15
  go_wp2_with (go_at_call 16; refine (check_any _ _ _ _ _).mono ?_; rintro e w1 ⟨rfl, hb1⟩)
  go_ret2
  exact ⟨rfl, ((Below.refl _ _).alloc (Nat.le_refl _) _).trans (hb1.mono (by simp))⟩

def Br.new (o c ch st : Int) (j : Bool) : Br := ⟨o, c, ch, st, if j then 0 else 2, 0, false, 0, st, 0⟩

theorem kd_facts {w : World} {p : Nat} {o c ch st : Int} (hB : Blk w p 23 #[.int .i64 o, .int .i64 c, .int .i64 ch, .int .i64 st]) :
    w.cell? ⟨p, 0, none⟩ = some (.int .i64 o) ∧ w.cell? ⟨p, 1, none⟩ = some (.int .i64 c) ∧ w.cell? ⟨p, 2, none⟩ = some (.int .i64 ch) ∧ w.cell? ⟨p, 3, none⟩ = some (.int .i64 st) ∧ (∀ i, w.frozen? ⟨p, i, none⟩ = false) ∧ p < w.heap.size :=
  ⟨hB.cell 0, hB.cell 1, hB.cell 2, hB.cell 3, hB.frozen, hB.lt⟩

theorem new_any (o c ch st : Int) (j : Bool) (w : World) (h : brCheck o c ch st = 0) :
    Calls Try.prog 15 #[.agg #[.int .i64 o, .int .i64 c, .int .i64 ch, .int .i64 st], .bool j] w fun e w' => ∃ p, e = .returned (.tuple #[.pointer (some ⟨p, 0, none⟩), .int .i64 0]) ∧ w.heap.size ≤ p ∧ Blk w' p 68 (Br.new o c ch st j).cells ∧ Below w.heap.size w w' := by
  cases j
  · go_enter Try.func15, Try.ntmps15
    go_wp2_with (go_at_call 16; refine (check_any _ _ _ _ _).mono ?_; rw [h]; rintro e w1 ⟨rfl, hb1⟩; have hk := (Blk.new _ _ _).below hb1 (by simp); obtain ⟨c0, c1, c2, c3, cf, hlt1⟩ := kd_facts hk; clear hk)
    go_ret2
    exact ⟨_, rfl, by omega, Blk.new _ _ _, (((Below.refl _ _).alloc (Nat.le_refl _) _).trans (hb1.mono (by simp))).alloc (by omega) _⟩
  · go_enter Try.func15, Try.ntmps15
    go_wp2_with (go_at_call 16; refine (check_any _ _ _ _ _).mono ?_; rw [h]; rintro e w1 ⟨rfl, hb1⟩; have hk := (Blk.new _ _ _).below hb1 (by simp); obtain ⟨c0, c1, c2, c3, cf, hlt1⟩ := kd_facts hk; clear hk)
    go_ret2
    exact ⟨_, rfl, by omega, Blk.new _ _ _, (((Below.refl _ _).alloc (Nat.le_refl _) _).trans (hb1.mono (by simp))).alloc (by omega) _⟩
end Go.Proofs.Ytkmhemcnpbhdfaa
