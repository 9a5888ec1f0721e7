import Derived.Test.YtkmhemcnpbhdfaaA2
namespace Go.Proofs.Ytkmhemcnpbhdfaa
open Go.ChangeShapes Go.WideShapes Go.ChangeAt Go.RowKit
attribute [local go_sem ↓] execOp_call_val
attribute [local go_sem] callVal_func setCell_drewN alloc_drewN

theorem below_drewN {B : Nat} {a w : World} (h : Below B a w) (n : Nat) : Below B a (w.drewN n) := ⟨h.os, h.tape, h.output, h.size, h.block⟩

theorem Blk.new_ {w : World} {t : TypeId} {cs : Array Value} {g : Nat} (h : g = w.heap.size) : Blk (w.alloc (.cells cs t)) g t cs := by subst h; exact Blk.new w t cs

/-- the breaker at time t, before move -/
def Br.pre (b : Br) (t : Int) : Br :=
  if b.stored < b.st ∧ 0 < (t - b.charged) / b.ch then
    (if (t - b.charged) / b.ch ≤ b.st - b.stored then
      { b with now := t, stored := b.stored + (t - b.charged) / b.ch, charged := b.charged + (t - b.charged) / b.ch * b.ch }
    else { b with now := t, stored := b.stored + (b.st - b.stored), charged := b.charged + (b.st - b.stored) * b.ch })
  else { b with now := t }

theorem div_mul_le' (a b : Int) (ha : 0 ≤ a) (hb : 1 ≤ b) : 0 ≤ a / b * b ∧ a / b * b ≤ a ∧ 0 ≤ a / b ∧ a / b ≤ a := by
  have h1 := Int.ediv_mul_le a (show b ≠ 0 by omega)
  have h2 : 0 ≤ a / b := Int.ediv_nonneg ha (by omega)
  have h3 : a / b ≤ a / b * b := by
    have := Int.mul_le_mul_of_nonneg_left hb h2
    omega
  omega

theorem mul_le_of_le (n a b : Int) (hn : 0 ≤ n) (h : n ≤ a / b) (hb : 1 ≤ b) : n * b ≤ a ∧ 0 ≤ n * b := by
  have h1 := Int.ediv_mul_le a (show b ≠ 0 by omega)
  have h2 := Int.mul_le_mul_of_nonneg_right h (show 0 ≤ b by omega)
  have h3 := Int.mul_nonneg hn (show 0 ≤ b by omega)
  omega

theorem Br.Ok.pre {b : Br} (ok : b.Ok) {t : Int} (h1 : b.now ≤ t) (h2 : t ≤ 1000000000) : (b.pre t).Ok := by
  obtain ⟨_, _, _, _, _, _, _, _, _, _, _, _, _, _, _⟩ := ok
  unfold Br.pre
  have hd := div_mul_le' (t - b.charged) b.ch (by omega) (by omega)
  split
  · rename_i hc
    split
    · constructor <;> (try dsimp only) <;> omega
    · have hm := mul_le_of_le (b.st - b.stored) (t - b.charged) b.ch (by omega) (by omega) (by omega)
      constructor <;> (try dsimp only) <;> omega
  · constructor <;> (try dsimp only) <;> omega

def Br.withState (b : Br) (s : Int) : Br := { b with state := s }
def Br.at_ (b : Br) (t : Int) : Br := (b.pre t).withState (b.pre t).mv

theorem Br.Ok.withState {b : Br} (ok : b.Ok) (s : Int) : (b.withState s).Ok := by
  obtain ⟨_, _, _, _, _, _, _, _, _, _, _, _, _, _, _⟩ := ok
  constructor <;> assumption
theorem Br.Ok.at_ {b : Br} (ok : b.Ok) {t : Int} (h1 : b.now ≤ t) (h2 : t ≤ 1000000000) : (b.at_ t).Ok := (ok.pre h1 h2).withState _

def Br.zero : Br := ⟨0, 0, 0, 0, 0, 0, false, 0, 0, 0⟩

theorem at_early (p : Nat) (B : Br) (w : World) (hB : Blk w p 68 B.cells) (t : Int) (ht : t < B.now ∨ 1000000000 < t) :
    Calls Try.prog 41 #[.pointer (some ⟨p, 0, none⟩), .int .i64 t] w fun e w' => e = .returned (.tuple #[.agg Br.zero.cells, .int .i64 12]) ∧ Below w.heap.size w w' := by
  have h7 : w.cell? ⟨p, 7, none⟩ = some (.int .i64 B.now) := hB.cell 7
  have hlt := hB.lt
  clear hB
  by_cases h1 : t < B.now
  · go_enter Try.func41, Try.ntmps41
    go_wp2_with fail
    refine bodyPost_ret (v := .tuple #[.agg Br.zero.cells, .int .i64 12]) (by simp [results, Try.results41, go_sem, Br.zero, Br.cells]) rfl ⟨rfl, ?_⟩
    exact (Below.refl _ _).alloc (Nat.le_refl _) _
  · have h2 : 1000000000 < t := by omega
    clear ht
    go_enter Try.func41, Try.ntmps41
    go_wp2_with fail
    refine bodyPost_ret (v := .tuple #[.agg Br.zero.cells, .int .i64 12]) (by simp [results, Try.results41, go_sem, Br.zero, Br.cells]) rfl ⟨rfl, ?_⟩
    exact (Below.refl _ _).alloc (Nat.le_refl _) _

set_option maxHeartbeats 2000000 in
theorem at_any (p : Nat) (B : Br) (w : World) (hB : Blk w p 68 B.cells) (ok : B.Ok) (t : Int) (ht : B.now ≤ t) (ht2 : t ≤ 1000000000) :
    Calls Try.prog 41 #[.pointer (some ⟨p, 0, none⟩), .int .i64 t] w fun e w' => e = .returned (.tuple #[.agg (B.at_ t).cells, .int .i64 0]) ∧ Below w.heap.size w w' := by
  have h0 : w.cell? ⟨p, 0, none⟩ = some (.int .i64 B.o) := hB.cell 0
  have h1 : w.cell? ⟨p, 1, none⟩ = some (.int .i64 B.c) := hB.cell 1
  have h2 : w.cell? ⟨p, 2, none⟩ = some (.int .i64 B.ch) := hB.cell 2
  have h3 : w.cell? ⟨p, 3, none⟩ = some (.int .i64 B.st) := hB.cell 3
  have h4 : w.cell? ⟨p, 4, none⟩ = some (.int .i64 B.state) := hB.cell 4
  have h5 : w.cell? ⟨p, 5, none⟩ = some (.int .i64 B.since) := hB.cell 5
  have h6 : w.cell? ⟨p, 6, none⟩ = some (.bool B.jam) := hB.cell 6
  have h7 : w.cell? ⟨p, 7, none⟩ = some (.int .i64 B.now) := hB.cell 7
  have h8 : w.cell? ⟨p, 8, none⟩ = some (.int .i64 B.stored) := hB.cell 8
  have h9 : w.cell? ⟨p, 9, none⟩ = some (.int .i64 B.charged) := hB.cell 9
  have hlt := hB.lt
  clear hB
  have okp := ok.pre ht ht2
  have hfin : Hid (B.at_ t = (B.pre t).withState (B.pre t).mv) := Lib.hid rfl
  obtain ⟨_, _, _, _, _, _, _, _, _, _, _, _, _, _, _⟩ := ok
  obtain ⟨hd1, hd2, hd3, hd4⟩ := div_mul_le' (t - B.charged) B.ch (by omega) (by omega)
  by_cases hc : B.stored < B.st ∧ 0 < (t - B.charged) / B.ch
  · obtain ⟨hc1, hc2⟩ := hc
    by_cases hn : (t - B.charged) / B.ch ≤ B.st - B.stored
    · have hpre : Hid (B.pre t = { B with now := t, stored := B.stored + (t - B.charged) / B.ch, charged := B.charged + (t - B.charged) / B.ch * B.ch }) :=
        Lib.hid (by unfold Br.pre; rw [if_pos ⟨hc1, hc2⟩, if_pos hn])
      rw [hpre.out] at okp
      rw [hpre.out] at hfin
      go_enter Try.func41, Try.ntmps41
      go_wp2_with (go_at_call 42; refine (move_any _ { B with now := t, stored := B.stored + (t - B.charged) / B.ch, charged := B.charged + (t - B.charged) / B.ch * B.ch } _ (by exact Blk.new_ (by simp)) okp).mono ?_; rintro e w' ⟨rfl, n, rfl⟩)
      refine bodyPost_ret (v := .tuple #[.agg (B.at_ t).cells, .int .i64 0]) (by rw [hfin.out]; simp [results, Try.results41, go_sem, Br.withState, Br.cells]) rfl ⟨rfl, ?_⟩
      exact below_drewN (((Below.refl _ _).alloc (Nat.le_refl _) _).alloc (by simp) _) n
    · have hm := mul_le_of_le (B.st - B.stored) (t - B.charged) B.ch (by omega) (by omega) (by omega)
      obtain ⟨hm1, hm2⟩ := hm
      have hpre : Hid (B.pre t = { B with now := t, stored := B.stored + (B.st - B.stored), charged := B.charged + (B.st - B.stored) * B.ch }) :=
        Lib.hid (by unfold Br.pre; rw [if_pos ⟨hc1, hc2⟩, if_neg hn])
      rw [hpre.out] at okp
      rw [hpre.out] at hfin
      go_enter Try.func41, Try.ntmps41
      go_wp2_with (go_at_call 42; refine (move_any _ { B with now := t, stored := B.stored + (B.st - B.stored), charged := B.charged + (B.st - B.stored) * B.ch } _ (by exact Blk.new_ (by simp)) okp).mono ?_; rintro e w' ⟨rfl, n, rfl⟩)
      refine bodyPost_ret (v := .tuple #[.agg (B.at_ t).cells, .int .i64 0]) (by rw [hfin.out]; simp [results, Try.results41, go_sem, Br.withState, Br.cells]) rfl ⟨rfl, ?_⟩
      exact below_drewN (((Below.refl _ _).alloc (Nat.le_refl _) _).alloc (by simp) _) n
  · have hpre : Hid (B.pre t = { B with now := t }) := Lib.hid (by unfold Br.pre; rw [if_neg hc])
    rw [hpre.out] at okp
    rw [hpre.out] at hfin
    by_cases hc1 : B.stored < B.st
    · have hc2 : ¬ 0 < (t - B.charged) / B.ch := fun h => hc ⟨hc1, h⟩
      clear hc
      go_enter Try.func41, Try.ntmps41
      go_wp2_with (go_at_call 42; refine (move_any _ { B with now := t } _ (by exact Blk.new_ (by simp)) okp).mono ?_; rintro e w' ⟨rfl, n, rfl⟩)
      refine bodyPost_ret (v := .tuple #[.agg (B.at_ t).cells, .int .i64 0]) (by rw [hfin.out]; simp [results, Try.results41, go_sem, Br.withState, Br.cells]) rfl ⟨rfl, ?_⟩
      exact below_drewN (((Below.refl _ _).alloc (Nat.le_refl _) _).alloc (by simp) _) n
    · clear hc
      go_enter Try.func41, Try.ntmps41
      go_wp2_with (go_at_call 42; refine (move_any _ { B with now := t } _ (by exact Blk.new_ (by simp)) okp).mono ?_; rintro e w' ⟨rfl, n, rfl⟩)
      refine bodyPost_ret (v := .tuple #[.agg (B.at_ t).cells, .int .i64 0]) (by rw [hfin.out]; simp [results, Try.results41, go_sem, Br.withState, Br.cells]) rfl ⟨rfl, ?_⟩
      exact below_drewN (((Below.refl _ _).alloc (Nat.le_refl _) _).alloc (by simp) _) n
end Go.Proofs.Ytkmhemcnpbhdfaa
