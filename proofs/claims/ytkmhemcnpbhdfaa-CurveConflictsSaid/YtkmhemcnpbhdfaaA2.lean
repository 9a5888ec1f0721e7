import Derived.Test.YtkmhemcnpbhdfaaA1
import Derived.Deep.QuietTactic
import Derived.BigQuiet
import Derived.Laws.OwnMore
import Derived.Deep.Draws
import Derived.Laws.Rows
import Derived.Lib.Hide
namespace Go.Proofs.Ytkmhemcnpbhdfaa
open Go.ChangeShapes Go.WideShapes Go.ChangeAt Go.RowKit
attribute [local go_sem ↓] execOp_call_val
attribute [local go_sem] callVal_func

def Blk (w : World) (g : Nat) (t : TypeId) (cs : Array Value) : Prop := w.heap[g]? = some (.cells cs t (0, 0))

section
variable {w w' : World} {g : Nat} {t : TypeId} {cs : Array Value}
theorem Blk.lt (h : Blk w g t cs) : g < w.heap.size := by
  rcases Nat.lt_or_ge g w.heap.size with hlt | hge
  · exact hlt
  · unfold Blk at h; rw [Array.getElem?_eq_none hge] at h; cases h
theorem Blk.cell (h : Blk w g t cs) (i : Nat) : w.cell? ⟨g, i, none⟩ = cs[i]? := cell_of_row w g i cs t (0, 0) h
theorem Blk.frozen (h : Blk w g t cs) (i : Nat) : w.frozen? ⟨g, i, none⟩ = false := by
  unfold Blk at h
  simp [World.frozen?, h]
theorem Blk.new (w : World) (t : TypeId) (cs : Array Value) : Blk (w.alloc (.cells cs t)) w.heap.size t cs := heap_alloc_new w _
theorem Blk.drew (h : Blk w g t cs) : Blk w.drew g t cs := h
theorem Blk.drewN (h : Blk w g t cs) (n : Nat) : Blk (w.drewN n) g t cs := h
theorem Blk.alloc (h : Blk w g t cs) (o : Obj) : Blk (w.alloc o) g t cs := (Below.heap_alloc w o g h.lt).trans h
theorem Blk.set_ (h : Blk w g t cs) (i : Nat) (u : Value) : Blk (w.setCell ⟨g, i, none⟩ u) g t (cs.setIfInBounds i u) := by
  unfold Blk at h ⊢
  simp [World.setCell, Array.getElem?_modify, h]
theorem Blk.far (h : Blk w g t cs) {p : Addr} (hp : g ≠ p.block) (u : Value) : Blk (w.setCell p u) g t cs := (Below.heap_setCell w p u g hp).trans h
theorem Blk.below {B : Nat} (h : Blk w g t cs) (hb : Below B w w') (hg : g < B) : Blk w' g t cs := (hb.block g hg).trans h
theorem Blk.grown {row : Option Nat} (h : Blk w g t cs) (hb : w.grownBy w' row) (hg : some g ≠ row) : Blk w' g t cs := (hb.block g h.lt hg).trans h
end

structure Br where
  o : Int
  c : Int
  ch : Int
  st : Int
  state : Int
  since : Int
  jam : Bool
  now : Int
  stored : Int
  charged : Int

def Br.cells (b : Br) : Array Value := #[.int .i64 b.o, .int .i64 b.c, .int .i64 b.ch, .int .i64 b.st, .int .i64 b.state, .int .i64 b.since, .bool b.jam, .int .i64 b.now, .int .i64 b.stored, .int .i64 b.charged]


def Br.mv (b : Br) : Int :=
  if b.jam then b.state
  else if b.state = 1 ∧ b.since + b.o ≤ b.now then 2
  else if b.state = 3 ∧ b.since + b.c ≤ b.now then 0
  else b.state

theorem setCell_same {w : World} {p : Nat} {t : TypeId} {cs : Array Value} {i : Nat} {v : Value} (h : Blk w p t cs) (hv : cs[i]? = some v) : w.setCell ⟨p, i, none⟩ v = w := by
  have hm : w.heap.modify p (fun | .cells c elem frozen => .cells (c.setIfInBounds i v) elem frozen | o => o) = w.heap := by
    apply Array.ext_getElem?
    intro j
    rw [Array.getElem?_modify]
    split
    · rename_i hj
      subst hj
      unfold Blk at h
      rw [h]
      simp only [Option.map_some]
      congr 2
      apply Array.ext_getElem?
      intro k
      rw [Array.getElem?_setIfInBounds]
      split
      · rename_i hk
        subst hk
        obtain ⟨hl, hx⟩ := Array.getElem?_eq_some_iff.1 hv
        rw [if_pos hl, hv]
      · rfl
    · rfl
  unfold World.setCell
  simp only [Option.isSome_none, Bool.false_eq_true, if_false]
  exact congrArg (fun h => { w with heap := h }) hm

structure Br.Ok (b : Br) : Prop where
  o1 : 1 ≤ b.o
  o2 : b.o ≤ 10000
  c1 : 1 ≤ b.c
  c2 : b.c ≤ 10000
  ch1 : 1 ≤ b.ch
  ch2 : b.ch ≤ 100000
  st1 : 1 ≤ b.st
  st2 : b.st ≤ 3
  s1 : 0 ≤ b.since
  s2 : b.since ≤ b.now
  n2 : b.now ≤ 1000000000
  e1 : 0 ≤ b.stored
  e2 : b.stored ≤ b.st
  g1 : 0 ≤ b.charged
  g2 : b.charged ≤ b.now

theorem move_any (p : Nat) (B : Br) (w : World) (hB : Blk w p 68 B.cells) (ok : B.Ok) :
    Calls Try.prog 42 #[.pointer (some ⟨p, 0, none⟩)] w fun e w' => e = .returned (.tuple #[]) ∧ ∃ n, w' = (w.setCell ⟨p, 4, none⟩ (.int .i64 B.mv)).drewN n := by
  have h0 : w.cell? ⟨p, 0, none⟩ = some (.int .i64 B.o) := hB.cell 0
  have h1 : w.cell? ⟨p, 1, none⟩ = some (.int .i64 B.c) := hB.cell 1
  have h4 : w.cell? ⟨p, 4, none⟩ = some (.int .i64 B.state) := hB.cell 4
  have h5 : w.cell? ⟨p, 5, none⟩ = some (.int .i64 B.since) := hB.cell 5
  have h6 : w.cell? ⟨p, 6, none⟩ = some (.bool B.jam) := hB.cell 6
  have h7 : w.cell? ⟨p, 7, none⟩ = some (.int .i64 B.now) := hB.cell 7
  have f4 : w.frozen? ⟨p, 4, none⟩ = false := hB.frozen 4
  have hsame : Hid (w.setCell ⟨p, 4, none⟩ (.int .i64 B.state) = w) := Lib.hid (setCell_same hB rfl)
  obtain ⟨_, _, _, _, _, _, _, _, _, _, _, _, _, _, _⟩ := ok
  have hmv : Hid (B.mv = if B.jam then B.state else if B.state = 1 ∧ B.since + B.o ≤ B.now then 2 else if B.state = 3 ∧ B.since + B.c ≤ B.now then 0 else B.state) := Lib.hid rfl
  clear hB
  by_cases hj : B.jam = true
  · go_enter Try.func42, Try.ntmps42
    go_wp2
    go_end0
    refine ⟨rfl, 0, ?_⟩
    rw [hmv.out, if_pos hj, hsame.out]; rfl
  · have hj' : B.jam = false := by simpa using hj
    clear hj
    by_cases hs : B.state = 1
    · have hs1 : (B.state == 1) = true := by simpa using hs
      have hs3 : (B.state == 3) = false := by rw [hs]; rfl
      have Hs := Lib.hid hs
      clear hs
      by_cases hn : B.since + B.o ≤ B.now
      · go_enter Try.func42, Try.ntmps42
        go_wp2
        go_quiet (fail)
        go_wp2
        go_end0
        refine ⟨rfl, ?_⟩
        rw [hmv.out, if_neg (by simp [hj']), if_pos ⟨Hs.out, hn⟩]
        exact ⟨_, rfl⟩
      · have hn' : decide (B.since + B.o ≤ B.now) = false := by simpa using hn
        go_enter Try.func42, Try.ntmps42
        go_wp2
        go_quiet (fail)
        go_wp2
        go_quiet (fail)
        go_wp2
        go_end0
        refine ⟨rfl, ?_⟩
        rw [hmv.out, if_neg (by simp [hj']), if_neg (fun h => by omega), if_neg (fun h => by rw [Hs.out] at h; simp at h), hsame.out]
        exact ⟨_, World.drewN_drewN _ _ _⟩
    · have hs1 : (B.state == 1) = false := by simpa using hs
      by_cases hs3' : B.state = 3
      · have hs3 : (B.state == 3) = true := by simpa using hs3'
        have Hs := Lib.hid hs3'
        clear hs hs3'
        by_cases hn : B.since + B.c ≤ B.now
        · go_enter Try.func42, Try.ntmps42
          go_wp2
          go_quiet (fail)
          go_wp2
          go_quiet (fail)
          go_wp2
          go_end0
          refine ⟨rfl, ?_⟩
          rw [hmv.out, if_neg (by simp [hj']), if_neg (fun h => by rw [Hs.out] at h; simp at h), if_pos ⟨Hs.out, hn⟩]
          exact ⟨_, rfl⟩
        · have hn' : decide (B.since + B.c ≤ B.now) = false := by simpa using hn
          go_enter Try.func42, Try.ntmps42
          go_wp2
          go_quiet (fail)
          go_wp2
          go_quiet (fail)
          go_wp2
          go_end0
          refine ⟨rfl, ?_⟩
          rw [hmv.out, if_neg (by simp [hj']), if_neg (fun h => by rw [Hs.out] at h; simp at h), if_neg (fun h => by omega), hsame.out]
          exact ⟨_, World.drewN_drewN _ _ _⟩
      · have hs3 : (B.state == 3) = false := by simpa using hs3'
        have Hs := Lib.hid hs
        have Hs3 := Lib.hid hs3'
        clear hs hs3'
        go_enter Try.func42, Try.ntmps42
        go_wp2
        go_quiet (fail)
        go_wp2
        go_quiet (fail)
        go_wp2
        go_end0
        refine ⟨rfl, ?_⟩
        rw [hmv.out, if_neg (by simp [hj']), if_neg (fun h => Hs.out h.1), if_neg (fun h => Hs3.out h.1), hsame.out]
        exact ⟨_, World.drewN_drewN _ _ _⟩
end Go.Proofs.Ytkmhemcnpbhdfaa
