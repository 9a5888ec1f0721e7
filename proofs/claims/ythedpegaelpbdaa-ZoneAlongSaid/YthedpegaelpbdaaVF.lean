/- The law ZoneAlong: the walk. -/
import Derived.Test.YthedpegaelpbdaaVB
import Derived.Test.YthedpegaelpbdaaVE
import Derived.Test.YthedpegaelpbdaaVQ
namespace Go.Proofs.Ythedpegaelpbdaa
open Go.ChangeShapes Go.WideShapes Go.ChangeAt Go.RowKit Go.Joins Go.Deep
set_option linter.unusedVariables false
attribute [local go_sem ↓] execOp_call_val
attribute [local go_sem] callVal_func setCell_drewN alloc_drewN sEq_walk NetH.cells

set_option maxRecDepth 100000 in
set_option maxHeartbeats 8000000 in
theorem zalong_any (h : NetH) (x : Net) (p : Fp) (w : World) (hR : RdNet w w.heap.size h x) :
    Calls Try.prog 6 #[.agg h.cells, .agg #[.string p.branch, .int .i64 p.part]] w fun e w' => e = .returned (.bool true) ∧ Below w.heap.size w w' := by
  by_cases hcp : cpR x p = 0
  · obtain ⟨hnk, hp1, hp2, hp3⟩ := cpR_ok hcp
    obtain ⟨k, hk, hbk, hbkn⟩ := brAt_ok hp1
    obtain ⟨hna, hnb, hx1, hx2⟩ := along_at hcp
    have HFR := Lib.hid (along_fr hcp)
    have HTO := Lib.hid (along_to hcp)
    have HCP := Lib.hid hcp
    obtain ⟨A0, m0, c0, A1, m1, c1, A2, m2, c2, A3, m3, c3, A4, m4, c4, A5, m5, c5⟩ := h
    have hl2 := hR.r2.1
    dsimp only at hl2
    have hkm : k < m2 := by have := (List.getElem?_eq_some_iff.1 hbk).1; omega
    obtain ⟨bz, oz, hA, hbz⟩ := hR.r2.form (by dsimp only; omega)
    dsimp only at hA
    subst hA
    dsimp only [NetH.cells] at *
    have hB0 : Below w.heap.size w ((w.alloc (.cells #[.slice A0 m0 c0, .slice A1 m1 c1, .slice (some ⟨bz, oz, none⟩) m2 c2, .slice A3 m3 c3, .slice A4 m4 c4, .slice A5 m5 c5] 29)).alloc (.cells #[.string p.branch, .int .i64 p.part] 31)) := ((Below.refl _ _).alloc (Nat.le_refl _) _).alloc (by simp) _
    have HB0 := Lib.hid hB0
    have HR0 := Lib.hid (hR.up hB0)
    have HQ0_0 : Hid (Blk ((w.alloc (.cells #[.slice A0 m0 c0, .slice A1 m1 c1, .slice (some ⟨bz, oz, none⟩) m2 c2, .slice A3 m3 c3, .slice A4 m4 c4, .slice A5 m5 c5] 29)).alloc (.cells #[.string p.branch, .int .i64 p.part] 31)) w.heap.size 29 #[.slice A0 m0 c0, .slice A1 m1 c1, .slice (some ⟨bz, oz, none⟩) m2 c2, .slice A3 m3 c3, .slice A4 m4 c4, .slice A5 m5 c5]) := Lib.hid ((Blk.new_ rfl).alloc _)
    have HQ1_0 : Hid (Blk ((w.alloc (.cells #[.slice A0 m0 c0, .slice A1 m1 c1, .slice (some ⟨bz, oz, none⟩) m2 c2, .slice A3 m3 c3, .slice A4 m4 c4, .slice A5 m5 c5] 29)).alloc (.cells #[.string p.branch, .int .i64 p.part] 31)) (w.heap.size + 1) 31 #[.string p.branch, .int .i64 p.part]) := Lib.hid (Blk.new_ (by simp))
    generalize hOwn : brAt x p.branch = own at *
    have HK := Lib.hid hk
    have HBK := Lib.hid hbk
    have hkI : (k : Int) < (m2 : Int) := by omega
    have hkI0 : (0 : Int) ≤ (k : Int) := by omega
    clear hk hbk hbkn hB0 hR hcp hOwn hl2 hp1 hna hnb hnk
    go_enter Try.func6, Try.ntmps6
    go_wp2_with fail
    refine (zworks_any _).mono ?_
    rintro e w1 ⟨rfl, k1⟩
    have HB1 := Lib.hid (HB0.out.trans (k1.mono HB0.out.size))
    have HR1 := Lib.hid (HR0.out.up k1)
    have HQ0_1 := Lib.hid (HQ0_0.out.below k1 HQ0_0.out.lt)
    have HQ1_1 := Lib.hid (HQ1_0.out.below k1 HQ1_0.out.lt)
    clear k1
    obtain ⟨y0, y1, y2, y3, y4, y5, nf, nlt⟩ := net_box (h := ⟨A0, m0, c0, A1, m1, c1, some ⟨bz, oz, none⟩, m2, c2, A3, m3, c3, A4, m4, c4, A5, m5, c5⟩) HQ0_1.out
    dsimp only at y0 y1 y2 y3 y4 y5
    obtain ⟨v0, v1, vf, vlt⟩ := check_box HQ1_1.out
    go_wp2_with fail
    refine (checkPlace_any ⟨A0, m0, c0, A1, m1, c1, some ⟨bz, oz, none⟩, m2, c2, A3, m3, c3, A4, m4, c4, A5, m5, c5⟩ x p _ HR1.out).mono ?_
    rw [HCP.out]
    rintro e w2 ⟨rfl, k2⟩
    have HB2 := Lib.hid (HB1.out.trans (k2.mono HB1.out.size))
    have HR2 := Lib.hid (HR1.out.up k2)
    have HQ0_2 := Lib.hid (HQ0_1.out.below k2 HQ0_1.out.lt)
    have HQ1_2 := Lib.hid (HQ1_1.out.below k2 HQ1_1.out.lt)
    clear k2 y0 y1 y2 y3 y4 y5 nf nlt v0 v1 vf vlt
    obtain ⟨y0, y1, y2, y3, y4, y5, nf, nlt⟩ := net_box (h := ⟨A0, m0, c0, A1, m1, c1, some ⟨bz, oz, none⟩, m2, c2, A3, m3, c3, A4, m4, c4, A5, m5, c5⟩) HQ0_2.out
    dsimp only at y0 y1 y2 y3 y4 y5
    obtain ⟨v0, v1, vf, vlt⟩ := check_box HQ1_2.out
    obtain ⟨ho0, ho1, ho2, ho3, ho4, ho5, ho6, ho7, ho8⟩ := HR2.out.r2.at_ HBK.out
    have hbz2 := Nat.lt_of_lt_of_le hbz HB2.out.size
    go_wp2_with fail
    go_cut [5] (fun a wc => ∃ b1, a = .pointer (some ⟨b1, 0, none⟩) ∧ Blk wc b1 49 #[.string own.name, .string own.fr, .string own.to, .int .i64 own.x, .int .i64 own.tap, .int .i64 own.shift, .int .i64 own.limit, .int .i64 own.short, .int .i64 own.hold] ∧ Below w2.heap.size w2 wc)
    case first =>
      have hrule : ∀ w' : World, Below w2.heap.size w2 w' → ∀ b o, b < w2.heap.size → w'.cell? ⟨b, o, none⟩ = w2.cell? ⟨b, o, none⟩ := fun w' hb b o h => hb.cell (p := ⟨b, o, none⟩) h
      go_region_held (fun w' => Below w2.heap.size w2 w')
        (repeat' (first | with_reducible exact hKp | with_reducible exact Below.refl _ _ | with_reducible assumption | with_reducible refine below_drew ?_ | with_reducible refine Below.alloc ?_ ?_ _ | with_reducible refine Below.setCell ?_ ?_ _ | omega | (simp <;> omega) | (simp; done)))
        (first
          | (go_at_call_of 20 (Value.string p.branch); refine (refbranch_any ⟨A0, m0, c0, A1, m1, c1, some ⟨bz, oz, none⟩, m2, c2, A3, m3, c3, A4, m4, c4, A5, m5, c5⟩ x p.branch _ (HR2.out.up (by assumption))).mono ?_
             rw [HK.out]; rintro e wp' ⟨rfl, hbp⟩; have hKp := bnext (by assumption) hbp; obtain ⟨hcp, hfp, hzp⟩ := bcell2 hbp; (try simp at hzp); (try (have hl3 : w2.heap.size < wp'.heap.size := by omega)); (try (have hl4 : w2.heap.size + 1 < wp'.heap.size := by omega))))
      all_goals
        go_wp2_with fail
        go_meet
        case rel =>
          refine ⟨_, rfl, ?_, ?_⟩
          · repeat' (first | (with_reducible refine Blk.new_ ?_; first | rfl | (simp; done)) | with_reducible refine blk_set9e (by first | rfl | (simp; done)) ?_ | with_reducible refine blk_far9 ?_ ?_ | with_reducible refine Blk.alloc ?_ _ | with_reducible refine Blk.drew ?_ | with_reducible refine Blk.below ?_ hbp ?_ | omega | (simp <;> omega) | (simp; done))
          · (repeat' (first | with_reducible exact hKp | with_reducible exact Below.refl _ _ | with_reducible assumption | with_reducible refine below_drew ?_ | with_reducible refine Below.alloc ?_ ?_ _ | with_reducible refine Below.setCell ?_ ?_ _ | omega | (simp <;> omega) | (simp; done)))
    case rest =>
      obtain ⟨b1, rfl, hbo, hbel⟩ := hcut
      have HB3 := Lib.hid (HB2.out.trans (hbel.mono HB2.out.size))
      have HR3 := Lib.hid (HR2.out.up hbel)
      have HQ0_3 := Lib.hid (HQ0_2.out.below hbel HQ0_2.out.lt)
      have HQ1_3 := Lib.hid (HQ1_2.out.below hbel HQ1_2.out.lt)
      have HO3 := Lib.hid hbo
      clear hbel hbo y0 y1 y2 y3 y4 y5 nf nlt v0 v1 vf vlt ho0 ho1 ho2 ho3 ho4 ho5 ho6 ho7 ho8 hbz2
      obtain ⟨y0, y1, y2, y3, y4, y5, nf, nlt⟩ := net_box (h := ⟨A0, m0, c0, A1, m1, c1, some ⟨bz, oz, none⟩, m2, c2, A3, m3, c3, A4, m4, c4, A5, m5, c5⟩) HQ0_3.out
      dsimp only at y0 y1 y2 y3 y4 y5
      obtain ⟨v0, v1, vf, vlt⟩ := check_box HQ1_3.out
      obtain ⟨e0, e1, e2, e3, e4, e5, e6, e7, e8, ef, elt⟩ := Br.box (x := own) HO3.out
      have hb4 : Below wc.heap.size wc (wc.alloc (.cells #[.int .i64 1, .int .i64 0] 52)) := (Below.refl _ _).alloc (Nat.le_refl _) _
      have HB4 := Lib.hid (HB3.out.trans (hb4.mono HB3.out.size))
      have HR4 := Lib.hid (HR3.out.up hb4)
      have HQ0_4 := Lib.hid (HQ0_3.out.below hb4 HQ0_3.out.lt)
      have HQ1_4 := Lib.hid (HQ1_3.out.below hb4 HQ1_3.out.lt)
      have HO4 := Lib.hid (HO3.out.below hb4 HO3.out.lt)
      have HZ4 : Hid (RdZs (wc.alloc (.cells #[.int .i64 1, .int .i64 0] 52)) (wc.alloc (.cells #[.int .i64 1, .int .i64 0] 52)).heap.size (some ⟨wc.heap.size, 0, none⟩) 1 [⟨1, 0⟩]) := Lib.hid ⟨rfl, rd_lit (vs := [(⟨1, 0⟩ : Zs)].flatMap Zs.cells) (T := 52) (Blk.new _ _ _) rfl (by simp)⟩
      have hm : own.x * (1000 - p.part) = 1000 * own.x - own.x * p.part := by rw [Int.mul_sub]; omega
      have ha0 : 0 ≤ own.x * p.part := Int.mul_nonneg (by omega) hp2
      have ha1 : own.x * p.part ≤ 10000 * 1000 := Int.mul_le_mul hx2 hp3 hp2 (by omega)
      have hw1 : IntKind.i64.wrap (own.x * p.part) = own.x * p.part := IntWalk.i64_in _ (by omega)
      have hw2 : IntKind.i64.wrap (own.x * p.part + own.x * (1000 - p.part)) = 1000 * own.x := by rw [hm, show own.x * p.part + (1000 * own.x - own.x * p.part) = 1000 * own.x from by omega]; exact IntWalk.i64_in _ (by omega)
      have hw3 : IntKind.i64.wrap (1000 * own.x) = 1000 * own.x := IntWalk.i64_in _ (by omega)
      have HW1 := Lib.hid hw1
      have HW2 := Lib.hid hw2
      have HW3 := Lib.hid hw3
      clear hb4 hm ha0 ha1 hw1 hw2 hw3
      go_wp2_with fail
      refine (zdis_any ⟨A0, m0, c0, A1, m1, c1, some ⟨bz, oz, none⟩, m2, c2, A3, m3, c3, A4, m4, c4, A5, m5, c5⟩ x ⟨own.fr, own.name, [⟨1, 0⟩]⟩ p (some ⟨wc.heap.size, 0, none⟩) 1 1 _ HR4.out HZ4.out (by omega)).mono ?_
      rw [HFR.out]
      rintro e w5 ⟨rfl, k5⟩
      have HB5 := Lib.hid (HB4.out.trans (k5.mono HB4.out.size))
      have HR5 := Lib.hid (HR4.out.up k5)
      have HQ0_5 := Lib.hid (HQ0_4.out.below k5 HQ0_4.out.lt)
      have HQ1_5 := Lib.hid (HQ1_4.out.below k5 HQ1_4.out.lt)
      have HO5 := Lib.hid (HO4.out.below k5 HO4.out.lt)
      have HZ5 := Lib.hid ((HZ4.out.below k5 (Nat.le_refl _)).more k5.size)
      clear k5 y0 y1 y2 y3 y4 y5 nf nlt v0 v1 vf vlt e0 e1 e2 e3 e4 e5 e6 e7 e8 ef elt
      obtain ⟨y0, y1, y2, y3, y4, y5, nf, nlt⟩ := net_box (h := ⟨A0, m0, c0, A1, m1, c1, some ⟨bz, oz, none⟩, m2, c2, A3, m3, c3, A4, m4, c4, A5, m5, c5⟩) HQ0_5.out
      dsimp only at y0 y1 y2 y3 y4 y5
      obtain ⟨v0, v1, vf, vlt⟩ := check_box HQ1_5.out
      obtain ⟨e0, e1, e2, e3, e4, e5, e6, e7, e8, ef, elt⟩ := Br.box (x := own) HO5.out
      go_wp2_with fail
      refine (zdis_any ⟨A0, m0, c0, A1, m1, c1, some ⟨bz, oz, none⟩, m2, c2, A3, m3, c3, A4, m4, c4, A5, m5, c5⟩ x ⟨own.to, own.name, [⟨1, 0⟩]⟩ p (some ⟨wc.heap.size, 0, none⟩) 1 1 _ HR5.out HZ5.out (by omega)).mono ?_
      rw [HTO.out]
      rintro e w6 ⟨rfl, k6⟩
      have HB6 := Lib.hid (HB5.out.trans (k6.mono HB5.out.size))
      have HQ1_6 := Lib.hid (HQ1_5.out.below k6 HQ1_5.out.lt)
      have HO6 := Lib.hid (HO5.out.below k6 HO5.out.lt)
      clear k6 y0 y1 y2 y3 y4 y5 nf nlt v0 v1 vf vlt e0 e1 e2 e3 e4 e5 e6 e7 e8 ef elt
      obtain ⟨v0, v1, vf, vlt⟩ := check_box HQ1_6.out
      obtain ⟨e0, e1, e2, e3, e4, e5, e6, e7, e8, ef, elt⟩ := Br.box (x := own) HO6.out
      have hw1 := HW1.out
      have hw2 := HW2.out
      have hw3 := HW3.out
      clear hx1 hx2 hp2 hp3
      go_wp2_with fail
      go_ret
      exact ⟨rfl, HB6.out⟩
  · have hB0 : Below w.heap.size w ((w.alloc (.cells h.cells 29)).alloc (.cells #[.string p.branch, .int .i64 p.part] 31)) := ((Below.refl _ _).alloc (Nat.le_refl _) _).alloc (by simp) _
    have HB0 := Lib.hid hB0
    have HR0 := Lib.hid (hR.up hB0)
    have HQ0_0 : Hid (Blk ((w.alloc (.cells h.cells 29)).alloc (.cells #[.string p.branch, .int .i64 p.part] 31)) w.heap.size 29 h.cells) := Lib.hid ((Blk.new_ rfl).alloc _)
    have HQ1_0 : Hid (Blk ((w.alloc (.cells h.cells 29)).alloc (.cells #[.string p.branch, .int .i64 p.part] 31)) (w.heap.size + 1) 31 #[.string p.branch, .int .i64 p.part]) := Lib.hid (Blk.new_ (by simp))
    clear hB0 hR
    generalize hgc : cpR x p = ce at *
    have HGC := Lib.hid hgc
    have hcb : (ce != 0) = true := by simpa using hcp
    clear hcp hgc
    go_enter Try.func6, Try.ntmps6
    go_wp2_with fail
    refine (zworks_any _).mono ?_
    rintro e w1 ⟨rfl, k1⟩
    have HB1 := Lib.hid (HB0.out.trans (k1.mono HB0.out.size))
    have HR1 := Lib.hid (HR0.out.up k1)
    have HQ0_1 := Lib.hid (HQ0_0.out.below k1 HQ0_0.out.lt)
    have HQ1_1 := Lib.hid (HQ1_0.out.below k1 HQ1_0.out.lt)
    clear k1
    obtain ⟨y0, y1, y2, y3, y4, y5, nf, nlt⟩ := net_box HQ0_1.out
    obtain ⟨v0, v1, vf, vlt⟩ := check_box HQ1_1.out
    go_wp2_with fail
    refine (checkPlace_any h x p _ HR1.out).mono ?_
    rw [HGC.out]
    rintro e w2 ⟨rfl, k2⟩
    have HB2 := Lib.hid (HB1.out.trans (k2.mono HB1.out.size))
    clear k2
    go_wp2_with fail
    go_ret
    exact ⟨rfl, HB2.out⟩
end Go.Proofs.Ythedpegaelpbdaa
