import Derived.Test.YtkmhemcnpbhdfaaA4
namespace Go.Proofs.Ytkmhemcnpbhdfaa
open Go.ChangeShapes Go.WideShapes Go.ChangeAt Go.RowKit
attribute [local go_sem ↓] execOp_call_val
attribute [local go_sem] callVal_func setCell_drewN alloc_drewN Br.cells

def Br.trip (B : Br) (t : Int) : Br := { B.at_ t with state := 1, since := t }

theorem trip_early (p : Nat) (B : Br) (w : World) (hB : Blk w p 68 B.cells) (t : Int) (ht : t < B.now ∨ 1000000000 < t) :
    Calls Try.prog 17 #[.pointer (some ⟨p, 0, none⟩), .int .i64 t] w fun e w' => e = .returned (.int .i64 12) ∧ Below w.heap.size w w' := by
  have hlt := hB.lt
  go_enter Try.func17, Try.ntmps17
  go_wp2_with (go_at_call 41; refine (at_early _ B _ hB _ ht).mono ?_; rintro e w1 ⟨rfl, hb1⟩)
  go_ret
  exact ⟨rfl, hb1.alloc hb1.size _⟩

theorem trip_state (p : Nat) (B : Br) (w : World) (hB : Blk w p 68 B.cells) (ok : B.Ok) (t : Int) (ht : B.now ≤ t) (ht2 : t ≤ 1000000000) (h0 : ((B.at_ t).state == 0) = false) (h3 : ((B.at_ t).state == 3) = false) :
    Calls Try.prog 17 #[.pointer (some ⟨p, 0, none⟩), .int .i64 t] w fun e w' => e = .returned (.int .i64 11) ∧ Below w.heap.size w w' := by
  have hlt := hB.lt
  have h0' : ((B.at_ t).state != 0) = true := by simpa using h0
  have h3' : ((B.at_ t).state != 3) = true := by simpa using h3
  go_enter Try.func17, Try.ntmps17
  go_wp2_with (go_at_call 41; refine (at_any _ B _ hB ok _ ht ht2).mono ?_; rintro e w1 ⟨rfl, hb1⟩)
  go_ret
  exact ⟨rfl, hb1.alloc hb1.size _⟩

theorem trip_any (p : Nat) (B : Br) (w : World) (hB : Blk w p 68 B.cells) (ok : B.Ok) (t : Int) (ht : B.now ≤ t) (ht2 : t ≤ 1000000000) (h : (B.at_ t).state = 0 ∨ (B.at_ t).state = 3) :
    Calls Try.prog 17 #[.pointer (some ⟨p, 0, none⟩), .int .i64 t] w fun e w' => e = .returned (.int .i64 0) ∧ w.grownBy w' (some p) ∧ Blk w' p 68 (B.trip t).cells := by
  have hlt := hB.lt
  have hfin : Hid (B.trip t = { B.at_ t with state := 1, since := t }) := Lib.hid rfl
  have h0' : ((B.at_ t).state != 0) = false ∨ (((B.at_ t).state != 0) = true ∧ ((B.at_ t).state != 3) = false) := by
    rcases h with h | h
    · left; rw [h]; rfl
    · right; rw [h]; exact ⟨rfl, rfl⟩
  clear h
  rcases h0' with h0 | ⟨h0, h3⟩
  · go_enter Try.func17, Try.ntmps17
    go_wp2_with (go_at_call 41; refine (at_any _ B _ hB ok _ ht ht2).mono ?_; rintro e w1 ⟨rfl, hb1⟩; have hB1 := hB.below hb1 hlt; obtain ⟨c0, c1, c2, c3, c4, c5, c6, c7, c8, c9, cf, hlt1⟩ := br_facts hB1; have HB1 := Lib.hid hB1; clear hB1)
    go_ret
    refine ⟨rfl, only_alloc (only_set10 (only_of_below hb1 _)) _, ?_⟩
    rw [hfin.out]
    exact (blk_set10 HB1.out).alloc _
  · go_enter Try.func17, Try.ntmps17
    go_wp2_with (go_at_call 41; refine (at_any _ B _ hB ok _ ht ht2).mono ?_; rintro e w1 ⟨rfl, hb1⟩; have hB1 := hB.below hb1 hlt; obtain ⟨c0, c1, c2, c3, c4, c5, c6, c7, c8, c9, cf, hlt1⟩ := br_facts hB1; have HB1 := Lib.hid hB1; clear hB1)
    go_ret
    refine ⟨rfl, only_alloc (only_set10 (only_of_below hb1 _)) _, ?_⟩
    rw [hfin.out]
    exact (blk_set10 HB1.out).alloc _

end Go.Proofs.Ytkmhemcnpbhdfaa
