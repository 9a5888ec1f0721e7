import Derived.Test.YtakllkkmofdpaaaGreatDoorU31
import Derived.Test.YtakllkkmofdpaaaGreatDoorU36
import Derived.Test.YtakllkkmofdpaaaGreatDoorU37
import Derived.Test.YtakllkkmofdpaaaGreatDoorU42
set_option linter.unusedVariables false
set_option linter.unusedSimpArgs false
namespace Go.Proofs.YtakllkkmofdpaaaGreatDoor
section
theorem two_sum {n a b : Nat} (ha : a < n) (hb : b < n) (X : Nat → Rat) : sumTo n (fun k => two a b k * X k) = X a - X b := by
 have e : ∀ k, k < n → two a b k * X k = (if k = a then X a else 0) + (if k = b then -(X b) else 0) := fun k _ => by
  unfold two
  by_cases h1 : k = a <;> by_cases h2 : k = b
  ·subst h1; subst h2; simp; grind
  ·subst h1; simp [h2]; grind
  ·subst h2; simp [h1]; grind
  ·simp [h1, h2]; grind
 rw [sumTo_congr e, sumTo_add, sumTo_one (k := a) ha (fun i _ h => if_neg h), sumTo_one (k := b) hb (fun i _ h => if_neg h), if_pos rfl, if_pos rfl]
 grind
end
section
open Go.ChangeShapes Go.WideShapes Go.ChangeAt Go.RowKit
theorem vf_zrs (n i : Nat) : vf (zrs n) i = 0 := by
 unfold vf zrs
 rw [List.getD_eq_getElem?_getD, List.getElem?_replicate]
 split <;> rfl
theorem vf_set {l : List Rat} {i : Nat} {y : Rat} (h : i < l.length) (j : Nat) : vf (l.set i y) j = if j = i then y else vf l j := by
 unfold vf
 rw [List.getD_eq_getElem?_getD, List.getD_eq_getElem?_getD, List.getElem?_set]
 by_cases hj : i = j
 ·subst hj; simp [h]
 ·rw [if_neg hj, if_neg (fun e => hj e.symm)]
end
section
open Go.ChangeShapes Go.WideShapes Go.ChangeAt Go.RowKit
attribute [local go_sem ↓] execOp_call_val
attribute [local go_sem] callVal_func setCell_drewN alloc_drewN sEq_walk
def TofP (x : Net) (w : World) (e : Ending) (w' : World) : Prop := Below w.heap.size w w' ∧ ∃ g1 g2 : Nat, e = .returned (.tuple #[.agg #[.slice (some ⟨g1, 0, none⟩) x.nodes.length x.nodes.length, .slice (some ⟨g2, 0, none⟩) (busN x) (busN x)], .int .i64 0]) ∧ w.heap.size ≤ g1 ∧ w.heap.size ≤ g2 ∧ Blk w' g1 3 (ints (busR x)).toArray ∧ Blk w' g2 3 (ints (islR x)).toArray
set_option maxRecDepth 100000 in
set_option maxHeartbeats 4000000 in
theorem topOf_any (h : NetH) (x : Net) (w : World) (r : RdNet w w.heap.size h x) (hk : netCk x = 0) : Calls Tryz.prog 32 #[.agg h.cells] w (TofP x w) := by
 have K0 : Below w.heap.size w ((w.alloc (.cells h.cells 33)).alloc (.cells #[.slice none 0 0, .slice none 0 0] 65)) := ((Below.refl _ _).alloc (Nat.le_refl _) _).alloc (by simp) _
 have HK := Lib.hid K0
 have P0 : Hid (Blk ((w.alloc (.cells h.cells 33)).alloc (.cells #[.slice none 0 0, .slice none 0 0] 65)) w.heap.size 33 h.cells) := Lib.hid ((Blk.new w 33 h.cells).alloc _)
 have P1 : Hid (Blk ((w.alloc (.cells h.cells 33)).alloc (.cells #[.slice none 0 0, .slice none 0 0] 65)) (w.heap.size + 1) 65 #[.slice none 0 0, .slice none 0 0]) := Lib.hid (Blk.new_ (by simp))
 have HX := Lib.hid (r.up K0)
 have HCK := Lib.hid (check_any h x ((w.alloc (.cells h.cells 33)).alloc (.cells #[.slice none 0 0, .slice none 0 0] 65)) HX.out)
 rw [hk] at HCK
 have HOK := Lib.hid (netCk_ok hk)
 clear K0 r
 obtain ⟨D0, r0, s0, D1, r1, s1, D2, r2, s2, D3, r3, s3, D4, r4, s4, D5, r5, s5⟩ := h
 obtain ⟨y0, y1, y2, y3, y4, y5, nf, nlt⟩ := net_box (h := ⟨D0, r0, s0, D1, r1, s1, D2, r2, s2, D3, r3, s3, D4, r4, s4, D5, r5, s5⟩) P0.out
 dsimp only at y0 y1 y2 y3 y4 y5
 go_enter Tryz.func32, Tryz.ntmps32
 go_wp2_with fail
 have HSZ : Hid (((w.alloc (.cells (NetH.cells ⟨D0, r0, s0, D1, r1, s1, D2, r2, s2, D3, r3, s3, D4, r4, s4, D5, r5, s5⟩) 33)).alloc (.cells #[.slice none 0 0, .slice none 0 0] 65)).heap.size = w.heap.size + 1 + 1) := Lib.hid (by simp)
 have HN0 : Hid (x.nodes.length = r0) := Lib.hid HX.out.r0.1
 generalize (w.alloc (.cells (NetH.cells ⟨D0, r0, s0, D1, r1, s1, D2, r2, s2, D3, r3, s3, D4, r4, s4, D5, r5, s5⟩) 33)).alloc (.cells #[.slice none 0 0, .slice none 0 0] 65) = W at *
 refine HCK.out.mono ?_
 rintro e w1 ⟨rfl, hb1⟩
 have HB1 := Lib.hid hb1
 clear hb1 y0 y1 y2 y3 y4 y5 nf nlt HCK
 have Q0 := P0.out.below HB1.out P0.out.lt
 obtain ⟨y0, y1, y2, y3, y4, y5, nf, nlt⟩ := net_box (h := ⟨D0, r0, s0, D1, r1, s1, D2, r2, s2, D3, r3, s3, D4, r4, s4, D5, r5, s5⟩) Q0
 dsimp only at y0 y1 y2 y3 y4 y5
 clear Q0
 go_wp2_with fail
 refine (get_any ⟨D0, r0, s0, D1, r1, s1, D2, r2, s2, D3, r3, s3, D4, r4, s4, D5, r5, s5⟩ x HOK.out w1 (HX.out.up HB1.out)).mono ?_
 rintro e w2 ⟨hb2, g1, g2, rfl, hg1, hg2, hk1, hk2⟩
 have HB2 := Lib.hid (HB1.out.trans (hb2.mono HB1.out.size))
 have Q1 := Lib.hid (P1.out.below HB2.out P1.out.lt)
 have H1 := Lib.hid hk1
 have H2 := Lib.hid hk2
 have HG1 : Hid (w.heap.size + 1 + 1 ≤ g1) := Lib.hid (by have := HB1.out.size; have := HSZ.out; omega)
 have HG2 : Hid (w.heap.size + 1 + 1 ≤ g2) := Lib.hid (by have := HB1.out.size; have := HSZ.out; omega)
 clear hb2 hg1 hg2 hk1 hk2 y0 y1 y2 y3 y4 y5 nf nlt
 have z0 := Q1.out.cell 0
 have z1 := Q1.out.cell 1
 have zl := Q1.out.lt
 have zf := Q1.out.frozen
 go_wp2_with fail
 clear z0 z1 zl zf
 have B0 := Q1.out.set_at (i := 0) (cs' := #[.slice (some ⟨g1, 0, none⟩) r0 r0, .slice none 0 0]) (.slice (some ⟨g1, 0, none⟩) r0 r0) (by simp)
 have B1 := B0.set_at (i := 1) (cs' := #[.slice (some ⟨g1, 0, none⟩) r0 r0, .slice (some ⟨g2, 0, none⟩) (busN x) (busN x)]) (.slice (some ⟨g2, 0, none⟩) (busN x) (busN x)) (by simp)
 have p0 := B1.cell 0
 have p1 := B1.cell 1
 refine bodyPost_ret (v := .tuple #[.agg #[.slice (some ⟨g1, 0, none⟩) r0 r0, .slice (some ⟨g2, 0, none⟩) (busN x) (busN x)], .int .i64 0]) (by simp [results, Tryz.results32, go_sem, p0, p1]) rfl ?_
 refine ⟨HK.out.trans (((HB2.out.mono (by have := HSZ.out; omega)).setCell (Nat.le_succ _) _).setCell (Nat.le_succ _) _), g1, g2, by rw [HN0.out], by have := HG1.out; omega, by have := HG2.out; omega, ?_, ?_⟩
 ·exact (H1.out.far (show g1 ≠ w.heap.size + 1 by have := HG1.out; omega) _).far (show g1 ≠ w.heap.size + 1 by have := HG1.out; omega) _
 ·exact (H2.out.far (show g2 ≠ w.heap.size + 1 by have := HG2.out; omega) _).far (show g2 ≠ w.heap.size + 1 by have := HG2.out; omega) _
end
section
open Go.ChangeShapes Go.WideShapes Go.ChangeAt Go.RowKit
attribute [local go_sem ↓] execOp_call_val
attribute [local go_sem] callVal_func setCell_drewN alloc_drewN sEq_walk
theorem topOf_bad (h : NetH) (x : Net) (w : World) (r : RdNet w w.heap.size h x) (hk : netCk x ≠ 0) : Calls Tryz.prog 32 #[.agg h.cells] w fun e w' => e = .returned (.tuple #[.agg #[.slice none 0 0, .slice none 0 0], .int .i64 (netCk x)]) ∧ Below w.heap.size w w' := by
 have K0 : Below w.heap.size w ((w.alloc (.cells h.cells 33)).alloc (.cells #[.slice none 0 0, .slice none 0 0] 65)) := ((Below.refl _ _).alloc (Nat.le_refl _) _).alloc (by simp) _
 have HK := Lib.hid K0
 have P0 : Hid (Blk ((w.alloc (.cells h.cells 33)).alloc (.cells #[.slice none 0 0, .slice none 0 0] 65)) w.heap.size 33 h.cells) := Lib.hid ((Blk.new w 33 h.cells).alloc _)
 have P1 : Hid (Blk ((w.alloc (.cells h.cells 33)).alloc (.cells #[.slice none 0 0, .slice none 0 0] 65)) (w.heap.size + 1) 65 #[.slice none 0 0, .slice none 0 0]) := Lib.hid (Blk.new_ (by simp))
 have HX := Lib.hid (r.up K0)
 have HCK := Lib.hid (check_any h x ((w.alloc (.cells h.cells 33)).alloc (.cells #[.slice none 0 0, .slice none 0 0] 65)) HX.out)
 have hckB : (netCk x != 0) = true := by simp [hk]
 generalize netCk x = ck at *
 clear K0 r
 obtain ⟨D0, r0, s0, D1, r1, s1, D2, r2, s2, D3, r3, s3, D4, r4, s4, D5, r5, s5⟩ := h
 obtain ⟨y0, y1, y2, y3, y4, y5, nf, nlt⟩ := net_box (h := ⟨D0, r0, s0, D1, r1, s1, D2, r2, s2, D3, r3, s3, D4, r4, s4, D5, r5, s5⟩) P0.out
 dsimp only at y0 y1 y2 y3 y4 y5
 go_enter Tryz.func32, Tryz.ntmps32
 go_wp2_with fail
 have HSZ : Hid (((w.alloc (.cells (NetH.cells ⟨D0, r0, s0, D1, r1, s1, D2, r2, s2, D3, r3, s3, D4, r4, s4, D5, r5, s5⟩) 33)).alloc (.cells #[.slice none 0 0, .slice none 0 0] 65)).heap.size = w.heap.size + 1 + 1) := Lib.hid (by simp)
 generalize (w.alloc (.cells (NetH.cells ⟨D0, r0, s0, D1, r1, s1, D2, r2, s2, D3, r3, s3, D4, r4, s4, D5, r5, s5⟩) 33)).alloc (.cells #[.slice none 0 0, .slice none 0 0] 65) = W at *
 refine HCK.out.mono ?_
 rintro e w1 ⟨rfl, hb1⟩
 have HB1 := Lib.hid hb1
 have Q1 := Lib.hid (P1.out.below hb1 P1.out.lt)
 clear hb1 y0 y1 y2 y3 y4 y5 nf nlt HCK
 have z0 := Q1.out.cell 0
 have z1 := Q1.out.cell 1
 have zl := Q1.out.lt
 have zf := Q1.out.frozen
 go_wp2_with fail
 clear z0 z1 zl zf
 have B0 := Q1.out.set_at (i := 0) (cs' := #[.slice none 0 0, .slice none 0 0]) (.slice none 0 0) (by simp)
 have B1 := B0.set_at (i := 1) (cs' := #[.slice none 0 0, .slice none 0 0]) (.slice none 0 0) (by simp)
 have p0 := B1.cell 0
 have p1 := B1.cell 1
 refine bodyPost_ret (v := .tuple #[.agg #[.slice none 0 0, .slice none 0 0], .int .i64 ck]) (by simp [results, Tryz.results32, go_sem, p0, p1]) rfl ?_
 exact ⟨rfl, HK.out.trans (((HB1.out.mono (by have := HSZ.out; omega)).setCell (Nat.le_succ _) _).setCell (Nat.le_succ _) _)⟩
end
end Go.Proofs.YtakllkkmofdpaaaGreatDoor
