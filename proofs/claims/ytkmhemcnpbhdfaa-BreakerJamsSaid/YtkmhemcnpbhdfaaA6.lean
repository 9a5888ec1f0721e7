import Derived.Test.YtkmhemcnpbhdfaaA4
namespace Go.Proofs.Ytkmhemcnpbhdfaa
open Go.ChangeShapes Go.WideShapes Go.ChangeAt Go.RowKit
attribute [local go_sem ↓] execOp_call_val
attribute [local go_sem] callVal_func setCell_drewN alloc_drewN Br.cells

/-! Close -/
def Br.close (B : Br) (t : Int) : Br :=
  { B.at_ t with charged := if (B.at_ t).stored = (B.at_ t).st then t else (B.at_ t).charged, stored := (B.at_ t).stored - 1, state := 3, since := t }

theorem close_early (p : Nat) (B : Br) (w : World) (hB : Blk w p 68 B.cells) (t : Int) (ht : t < B.now ∨ 1000000000 < t) :
    Calls Try.prog 19 #[.pointer (some ⟨p, 0, none⟩), .int .i64 t] w fun e w' => e = .returned (.int .i64 12) ∧ Below w.heap.size w w' := by
  have hlt := hB.lt
  go_enter Try.func19, Try.ntmps19
  go_wp2_with (go_at_call 41; refine (at_early _ B _ hB _ ht).mono ?_; rintro e w1 ⟨rfl, hb1⟩)
  go_ret
  exact ⟨rfl, hb1.alloc hb1.size _⟩

theorem close_state (p : Nat) (B : Br) (w : World) (hB : Blk w p 68 B.cells) (ok : B.Ok) (t : Int) (ht : B.now ≤ t) (ht2 : t ≤ 1000000000) (h2 : ((B.at_ t).state == 2) = false) :
    Calls Try.prog 19 #[.pointer (some ⟨p, 0, none⟩), .int .i64 t] w fun e w' => e = .returned (.int .i64 11) ∧ Below w.heap.size w w' := by
  have hlt := hB.lt
  have h2' : ((B.at_ t).state != 2) = true := by simpa using h2
  go_enter Try.func19, Try.ntmps19
  go_wp2_with (go_at_call 41; refine (at_any _ B _ hB ok _ ht ht2).mono ?_; rintro e w1 ⟨rfl, hb1⟩)
  go_ret
  exact ⟨rfl, hb1.alloc hb1.size _⟩

theorem close_none (p : Nat) (B : Br) (w : World) (hB : Blk w p 68 B.cells) (ok : B.Ok) (t : Int) (ht : B.now ≤ t) (ht2 : t ≤ 1000000000) (h2 : (B.at_ t).state = 2) (hs : (B.at_ t).stored = 0) :
    Calls Try.prog 19 #[.pointer (some ⟨p, 0, none⟩), .int .i64 t] w fun e w' => e = .returned (.int .i64 8) ∧ Below w.heap.size w w' := by
  have hlt := hB.lt
  have h2' : ((B.at_ t).state != 2) = false := by rw [h2]; rfl
  have hs' : ((B.at_ t).stored == 0) = true := by rw [hs]; rfl
  clear h2 hs
  go_enter Try.func19, Try.ntmps19
  go_wp2_with (go_at_call 41; refine (at_any _ B _ hB ok _ ht ht2).mono ?_; rintro e w1 ⟨rfl, hb1⟩)
  go_ret
  exact ⟨rfl, hb1.alloc hb1.size _⟩

set_option maxHeartbeats 1000000 in
theorem close_any (p : Nat) (B : Br) (w : World) (hB : Blk w p 68 B.cells) (ok : B.Ok) (t : Int) (ht : B.now ≤ t) (ht2 : t ≤ 1000000000) (h2 : (B.at_ t).state = 2) (hs : 1 ≤ (B.at_ t).stored) :
    Calls Try.prog 19 #[.pointer (some ⟨p, 0, none⟩), .int .i64 t] w fun e w' => e = .returned (.int .i64 0) ∧ w.grownBy w' (some p) ∧ Blk w' p 68 (B.close t).cells := by
  have hlt := hB.lt
  have h2' : ((B.at_ t).state != 2) = false := by rw [h2]; rfl
  have hs' : ((B.at_ t).stored == 0) = false := by rw [beq_eq_false_iff_ne]; omega
  have he2 := (ok.at_ ht ht2).e2
  have hst2 := (ok.at_ ht ht2).st2
  clear h2
  by_cases hc : (B.at_ t).stored = (B.at_ t).st
  · have hfin : Hid (B.close t = { B.at_ t with charged := t, stored := (B.at_ t).stored - 1, state := 3, since := t }) := Lib.hid (by unfold Br.close; rw [if_pos hc])
    have hc' : ((B.at_ t).stored == (B.at_ t).st) = true := by rw [hc]; simp
    clear hc
    go_enter Try.func19, Try.ntmps19
    go_wp2_with (go_at_call 41; refine (at_any _ B _ hB ok _ ht ht2).mono ?_; rintro e w1 ⟨rfl, hb1⟩; have hB1 := hB.below hb1 hlt; obtain ⟨c0, c1, c2, c3, c4, c5, c6, c7, c8, c9, cf, hlt1⟩ := br_facts hB1; have HB1 := Lib.hid hB1; clear hB1)
    go_ret
    refine ⟨rfl, only_alloc (only_set10 (only_of_below hb1 _)) _, ?_⟩
    rw [hfin.out]
    exact (blk_set10 HB1.out).alloc _
  · have hfin : Hid (B.close t = { B.at_ t with stored := (B.at_ t).stored - 1, state := 3, since := t }) := Lib.hid (by unfold Br.close; rw [if_neg hc])
    have hc' : ((B.at_ t).stored == (B.at_ t).st) = false := by rw [beq_eq_false_iff_ne]; exact hc
    clear hc
    go_enter Try.func19, Try.ntmps19
    go_wp2_with (go_at_call 41; refine (at_any _ B _ hB ok _ ht ht2).mono ?_; rintro e w1 ⟨rfl, hb1⟩; have hB1 := hB.below hb1 hlt; obtain ⟨c0, c1, c2, c3, c4, c5, c6, c7, c8, c9, cf, hlt1⟩ := br_facts hB1; have HB1 := Lib.hid hB1; clear hB1)
    go_ret
    refine ⟨rfl, only_alloc (only_set10 (only_of_below hb1 _)) _, ?_⟩
    rw [hfin.out]
    exact (blk_set10 HB1.out).alloc _
end Go.Proofs.Ytkmhemcnpbhdfaa
