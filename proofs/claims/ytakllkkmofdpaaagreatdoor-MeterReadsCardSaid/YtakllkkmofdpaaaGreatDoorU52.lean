import Derived.Test.YtakllkkmofdpaaaGreatDoorU35
set_option linter.unusedVariables false
set_option linter.unusedSimpArgs false
namespace Go.Proofs.YtakllkkmofdpaaaGreatDoor
section
open Go.ChangeShapes Go.WideShapes Go.ChangeAt Go.RowKit
attribute [local go_sem ↓] execOp_call_val
attribute [local go_sem] callVal_func setCell_drewN alloc_drewN sEq_walk
def FreeP (x : Net) (w : World) (e : Ending) (w' : World) : Prop := Below w.heap.size w w' ∧ ((netCk x ≠ 0 ∧ e = .returned (.tuple #[.slice none 0 0, .int .i64 (netCk x)])) ∨ (netCk x = 0 ∧ ∃ A c, e = .returned (.tuple #[.slice A (freeL x).length c, .int .i64 0]) ∧ RdI w' w'.heap.size A (freeL x).length (natJ (freeL x))))
set_option maxRecDepth 100000 in
set_option maxHeartbeats 4000000 in
theorem free_any (h : NetH) (x : Net) (h8 : x.nodes.length ≤ 8) (w : World) (r : RdNet w w.heap.size h x) : Calls Tryz.prog 30 #[.agg h.cells] w (FreeP x w) := by
 have K0 : Below w.heap.size w (w.alloc (.cells h.cells 33)) := (Below.refl _ _).alloc (Nat.le_refl _) _
 have HK := Lib.hid K0
 have P0 := Lib.hid (Blk.new w 33 h.cells)
 have HX := Lib.hid (r.up K0)
 have HSZ : Hid (w.heap.size ≤ (w.alloc (.cells h.cells 33)).heap.size) := Lib.hid K0.size
 have HOK : Hid (netCk x = 0 → NetOk x) := Lib.hid netCk_ok
 have HFP : Hid (∀ e w', FreeP x w e w' ↔ (Below w.heap.size w w' ∧ ((netCk x ≠ 0 ∧ e = .returned (.tuple #[.slice none 0 0, .int .i64 (netCk x)])) ∨ (netCk x = 0 ∧ ∃ A c, e = .returned (.tuple #[.slice A (freeL x).length c, .int .i64 0]) ∧ RdI w' w'.heap.size A (freeL x).length (natJ (freeL x)))))) := Lib.hid fun e w' => Iff.rfl
 have HCK := Lib.hid (check_any h x (w.alloc (.cells h.cells 33)) HX.out)
 generalize netCk x = ck at *
 clear K0 r
 obtain ⟨D0, r0, s0, D1, r1, s1, D2, r2, s2, D3, r3, s3, D4, r4, s4, D5, r5, s5⟩ := h
 obtain ⟨y0, y1, y2, y3, y4, y5, nf, nlt⟩ := net_box (h := ⟨D0, r0, s0, D1, r1, s1, D2, r2, s2, D3, r3, s3, D4, r4, s4, D5, r5, s5⟩) P0.out
 dsimp only at y0 y1 y2 y3 y4 y5
 go_enter Tryz.func30, Tryz.ntmps30
 go_wp2_with fail
 generalize w.alloc (.cells (NetH.cells ⟨D0, r0, s0, D1, r1, s1, D2, r2, s2, D3, r3, s3, D4, r4, s4, D5, r5, s5⟩) 33) = W at *
 refine HCK.out.mono ?_
 rintro e w1 ⟨rfl, hb1⟩
 have HB1 := Lib.hid hb1
 clear hb1 y0 y1 y2 y3 y4 y5 nf nlt HCK
 by_cases h0 : ck = 0
 ·subst h0
  have P1 := P0.out.below HB1.out P0.out.lt
  obtain ⟨y0, y1, y2, y3, y4, y5, nf, nlt⟩ := net_box (h := ⟨D0, r0, s0, D1, r1, s1, D2, r2, s2, D3, r3, s3, D4, r4, s4, D5, r5, s5⟩) P1
  dsimp only at y0 y1 y2 y3 y4 y5
  clear P1
  go_wp2_with fail
  refine (flowOf_any ⟨D0, r0, s0, D1, r1, s1, D2, r2, s2, D3, r3, s3, D4, r4, s4, D5, r5, s5⟩ x (HOK.out (by simp)) h8 w1 (HX.out.up HB1.out)).mono ?_
  rintro e w2 ⟨hb2, g, m, A7, n7, c7, rfl, hg, hblk, hrd, -⟩
  have HB2 := Lib.hid (HK.out.trans ((HB1.out.trans (hb2.mono HB1.out.size)).mono HSZ.out))
  have HN6 : Hid ((freeL x).length = m.n6) := Lib.hid (by rw [← natJ_len]; exact hrd.r6.len)
  have H6 := Lib.hid hrd.r6
  have g6 : w2.cell? ⟨g, 6, none⟩ = some (.slice m.A6 m.n6 m.c6) := hblk.cell 6
  have gl := hblk.lt
  clear hb2 hg hblk hrd y0 y1 y2 y3 y4 y5 nf nlt
  go_wp2_with fail
  refine bodyPost_ret (v := .tuple #[.slice m.A6 m.n6 m.c6, .int .i64 0]) (by simp [results, Tryz.results30, go_sem]) rfl ?_
  rw [HFP.out]
  exact ⟨HB2.out, .inr ⟨by simp, m.A6, m.c6, by rw [HN6.out], by rw [HN6.out]; exact H6.out⟩⟩
 ·have hb : (ck != 0) = true := by simp [h0]
  go_wp2_with fail
  refine bodyPost_ret (v := .tuple #[.slice none 0 0, .int .i64 ck]) (by simp [results, Tryz.results30, go_sem]) rfl ?_
  rw [HFP.out]
  exact ⟨HK.out.trans (HB1.out.mono HSZ.out), .inl ⟨h0, rfl⟩⟩
end
end Go.Proofs.YtakllkkmofdpaaaGreatDoor
