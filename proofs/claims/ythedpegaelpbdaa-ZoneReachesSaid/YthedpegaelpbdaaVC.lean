/- The law ZoneReaches: the walk. -/
import Derived.Test.YthedpegaelpbdaaVB
import Derived.Test.YthedpegaelpbdaaVP
namespace Go.Proofs.Ythedpegaelpbdaa
open Go.ChangeShapes Go.WideShapes Go.ChangeAt Go.RowKit
set_option linter.unusedVariables false
attribute [local go_sem ↓] execOp_call_val
attribute [local go_sem] callVal_func setCell_drewN alloc_drewN sEq_walk NetH.cells

set_option maxRecDepth 100000 in
set_option maxHeartbeats 4000000 in
theorem zreaches_any (h : NetH) (x : Net) (r : Zr) (p q : Fp) (ZA : Option Addr) (zn zc : Nat) (w : World) (hR : RdNet w w.heap.size h x) (hZ : RdZs w w.heap.size ZA zn r.zones) (hzn : zn ≤ 9223372036854775807) :
    Calls Try.prog 7 #[.agg h.cells, .agg #[.string r.node, .string r.branch, .slice ZA zn zc], .agg #[.string p.branch, .int .i64 p.part], .agg #[.string q.branch, .int .i64 q.part]] w fun e w' => e = .returned (.bool true) ∧ Below w.heap.size w w' := by
  have hB0 : Below w.heap.size w ((((w.alloc (.cells h.cells 29)).alloc (.cells #[.string r.node, .string r.branch, .slice ZA zn zc] 57)).alloc (.cells #[.string p.branch, .int .i64 p.part] 31)).alloc (.cells #[.string q.branch, .int .i64 q.part] 31)) := ((((Below.refl _ _).alloc (Nat.le_refl _) _).alloc (by simp) _).alloc (by simp; omega) _).alloc (by simp; omega) _
  have HB0 := Lib.hid hB0
  have HR0 := Lib.hid (hR.up hB0)
  have HZ0 := Lib.hid ((hZ.below hB0 (Nat.le_refl _)).more hB0.size)
  have HQ0_0 : Hid (Blk ((((w.alloc (.cells h.cells 29)).alloc (.cells #[.string r.node, .string r.branch, .slice ZA zn zc] 57)).alloc (.cells #[.string p.branch, .int .i64 p.part] 31)).alloc (.cells #[.string q.branch, .int .i64 q.part] 31)) (w.heap.size) 29 h.cells) := Lib.hid ((((Blk.new_ rfl).alloc _).alloc _).alloc _)
  have HQ1_0 : Hid (Blk ((((w.alloc (.cells h.cells 29)).alloc (.cells #[.string r.node, .string r.branch, .slice ZA zn zc] 57)).alloc (.cells #[.string p.branch, .int .i64 p.part] 31)).alloc (.cells #[.string q.branch, .int .i64 q.part] 31)) (w.heap.size + 1) 57 #[.string r.node, .string r.branch, .slice ZA zn zc]) := Lib.hid (((Blk.new_ (by simp)).alloc _).alloc _)
  have HQ2_0 : Hid (Blk ((((w.alloc (.cells h.cells 29)).alloc (.cells #[.string r.node, .string r.branch, .slice ZA zn zc] 57)).alloc (.cells #[.string p.branch, .int .i64 p.part] 31)).alloc (.cells #[.string q.branch, .int .i64 q.part] 31)) (w.heap.size + 1 + 1) 31 #[.string p.branch, .int .i64 p.part]) := Lib.hid ((Blk.new_ (by simp)).alloc _)
  have HQ3_0 : Hid (Blk ((((w.alloc (.cells h.cells 29)).alloc (.cells #[.string r.node, .string r.branch, .slice ZA zn zc] 57)).alloc (.cells #[.string p.branch, .int .i64 p.part] 31)).alloc (.cells #[.string q.branch, .int .i64 q.part] 31)) (w.heap.size + 1 + 1 + 1) 31 #[.string q.branch, .int .i64 q.part]) := Lib.hid (Blk.new_ (by simp))
  clear hB0 hR hZ
  have HT1 := Lib.hid (timR_e x r p)
  have HT2 := Lib.hid (timR_e x r q)
  have HE1 : Hid ((disR x r p).2 ≠ 0 → (fndR x r p).2 = (disR x r p).2) := Lib.hid fun h => by rw [fndR_e h]
  have HE2 : Hid ((disR x r q).2 ≠ 0 → (fndR x r q).2 = (disR x r q).2) := Lib.hid fun h => by rw [fndR_e h]
  have HM : Hid ((disR x r p).2 = 0 → (disR x r p).1 ≤ (disR x r q).1 → (fndR x r q).2 = 0 → (fndR x r p).2 = 0 ∧ (fndR x r p).1 ≤ (fndR x r q).1 ∧ (timR x r p).1 ≤ (timR x r q).1) := Lib.hid fun a b c => reach_mono a b c
  go_enter Try.func7, Try.ntmps7
  go_wp2_with fail
  refine (zworks_any _).mono ?_
  rintro e w1 ⟨rfl, k1⟩
  have HB1 := Lib.hid (HB0.out.trans (k1.mono HB0.out.size))
  have HR1 := Lib.hid (HR0.out.up k1)
  have HZ1 := Lib.hid ((HZ0.out.below k1 (Nat.le_refl _)).more k1.size)
  have HQ0_1 := Lib.hid (HQ0_0.out.below k1 HQ0_0.out.lt)
  have HQ1_1 := Lib.hid (HQ1_0.out.below k1 HQ1_0.out.lt)
  have HQ2_1 := Lib.hid (HQ2_0.out.below k1 HQ2_0.out.lt)
  have HQ3_1 := Lib.hid (HQ3_0.out.below k1 HQ3_0.out.lt)
  clear k1
  obtain ⟨y0, y1, y2, y3, y4, y5, nf, nlt⟩ := net_box HQ0_1.out
  obtain ⟨z0, z1, z2, zf, zlt⟩ := zr_box HQ1_1.out
  obtain ⟨v20, v21, vf2, vlt2⟩ := check_box HQ2_1.out
  obtain ⟨v30, v31, vf3, vlt3⟩ := check_box HQ3_1.out
  go_wp2_with fail
  refine (zdis_any h x r p ZA zn zc _ HR1.out HZ1.out hzn).mono ?_
  generalize disR x r p = d0 at *
  obtain ⟨a0, e0⟩ := d0
  rintro e w2 ⟨rfl, k2⟩
  have HB2 := Lib.hid (HB1.out.trans (k2.mono HB1.out.size))
  have HR2 := Lib.hid (HR1.out.up k2)
  have HZ2 := Lib.hid ((HZ1.out.below k2 (Nat.le_refl _)).more k2.size)
  have HQ0_2 := Lib.hid (HQ0_1.out.below k2 HQ0_1.out.lt)
  have HQ1_2 := Lib.hid (HQ1_1.out.below k2 HQ1_1.out.lt)
  have HQ2_2 := Lib.hid (HQ2_1.out.below k2 HQ2_1.out.lt)
  have HQ3_2 := Lib.hid (HQ3_1.out.below k2 HQ3_1.out.lt)
  clear k2 y0 y1 y2 y3 y4 y5 nf nlt z0 z1 z2 zf zlt v20 v21 vf2 vlt2 v30 v31 vf3 vlt3
  obtain ⟨y0, y1, y2, y3, y4, y5, nf, nlt⟩ := net_box HQ0_2.out
  obtain ⟨z0, z1, z2, zf, zlt⟩ := zr_box HQ1_2.out
  obtain ⟨v20, v21, vf2, vlt2⟩ := check_box HQ2_2.out
  obtain ⟨v30, v31, vf3, vlt3⟩ := check_box HQ3_2.out
  go_wp2_with fail
  refine (zdis_any h x r q ZA zn zc _ HR2.out HZ2.out hzn).mono ?_
  generalize disR x r q = d1 at *
  obtain ⟨a1, e1⟩ := d1
  rintro e w3 ⟨rfl, k3⟩
  have HB3 := Lib.hid (HB2.out.trans (k3.mono HB2.out.size))
  have HR3 := Lib.hid (HR2.out.up k3)
  have HZ3 := Lib.hid ((HZ2.out.below k3 (Nat.le_refl _)).more k3.size)
  have HQ0_3 := Lib.hid (HQ0_2.out.below k3 HQ0_2.out.lt)
  have HQ1_3 := Lib.hid (HQ1_2.out.below k3 HQ1_2.out.lt)
  have HQ2_3 := Lib.hid (HQ2_2.out.below k3 HQ2_2.out.lt)
  have HQ3_3 := Lib.hid (HQ3_2.out.below k3 HQ3_2.out.lt)
  clear k3 y0 y1 y2 y3 y4 y5 nf nlt z0 z1 z2 zf zlt v20 v21 vf2 vlt2 v30 v31 vf3 vlt3
  obtain ⟨y0, y1, y2, y3, y4, y5, nf, nlt⟩ := net_box HQ0_3.out
  obtain ⟨z0, z1, z2, zf, zlt⟩ := zr_box HQ1_3.out
  obtain ⟨v20, v21, vf2, vlt2⟩ := check_box HQ2_3.out
  obtain ⟨v30, v31, vf3, vlt3⟩ := check_box HQ3_3.out
  go_wp2_with fail
  refine (zfnd_any h x r p ZA zn zc _ HR3.out HZ3.out hzn).mono ?_
  generalize fndR x r p = d2 at *
  obtain ⟨a2, e2⟩ := d2
  rintro e w4 ⟨rfl, k4⟩
  have HB4 := Lib.hid (HB3.out.trans (k4.mono HB3.out.size))
  have HR4 := Lib.hid (HR3.out.up k4)
  have HZ4 := Lib.hid ((HZ3.out.below k4 (Nat.le_refl _)).more k4.size)
  have HQ0_4 := Lib.hid (HQ0_3.out.below k4 HQ0_3.out.lt)
  have HQ1_4 := Lib.hid (HQ1_3.out.below k4 HQ1_3.out.lt)
  have HQ2_4 := Lib.hid (HQ2_3.out.below k4 HQ2_3.out.lt)
  have HQ3_4 := Lib.hid (HQ3_3.out.below k4 HQ3_3.out.lt)
  clear k4 y0 y1 y2 y3 y4 y5 nf nlt z0 z1 z2 zf zlt v20 v21 vf2 vlt2 v30 v31 vf3 vlt3
  obtain ⟨y0, y1, y2, y3, y4, y5, nf, nlt⟩ := net_box HQ0_4.out
  obtain ⟨z0, z1, z2, zf, zlt⟩ := zr_box HQ1_4.out
  obtain ⟨v20, v21, vf2, vlt2⟩ := check_box HQ2_4.out
  obtain ⟨v30, v31, vf3, vlt3⟩ := check_box HQ3_4.out
  go_wp2_with fail
  refine (zfnd_any h x r q ZA zn zc _ HR4.out HZ4.out hzn).mono ?_
  generalize fndR x r q = d3 at *
  obtain ⟨a3, e3⟩ := d3
  rintro e w5 ⟨rfl, k5⟩
  have HB5 := Lib.hid (HB4.out.trans (k5.mono HB4.out.size))
  have HR5 := Lib.hid (HR4.out.up k5)
  have HZ5 := Lib.hid ((HZ4.out.below k5 (Nat.le_refl _)).more k5.size)
  have HQ0_5 := Lib.hid (HQ0_4.out.below k5 HQ0_4.out.lt)
  have HQ1_5 := Lib.hid (HQ1_4.out.below k5 HQ1_4.out.lt)
  have HQ2_5 := Lib.hid (HQ2_4.out.below k5 HQ2_4.out.lt)
  have HQ3_5 := Lib.hid (HQ3_4.out.below k5 HQ3_4.out.lt)
  clear k5 y0 y1 y2 y3 y4 y5 nf nlt z0 z1 z2 zf zlt v20 v21 vf2 vlt2 v30 v31 vf3 vlt3
  obtain ⟨y0, y1, y2, y3, y4, y5, nf, nlt⟩ := net_box HQ0_5.out
  obtain ⟨z0, z1, z2, zf, zlt⟩ := zr_box HQ1_5.out
  obtain ⟨v20, v21, vf2, vlt2⟩ := check_box HQ2_5.out
  obtain ⟨v30, v31, vf3, vlt3⟩ := check_box HQ3_5.out
  go_wp2_with fail
  refine (ztim_any h x r p ZA zn zc _ HR5.out HZ5.out hzn).mono ?_
  generalize timR x r p = d4 at *
  obtain ⟨a4, e4⟩ := d4
  rintro e w6 ⟨rfl, k6⟩
  have HB6 := Lib.hid (HB5.out.trans (k6.mono HB5.out.size))
  have HR6 := Lib.hid (HR5.out.up k6)
  have HZ6 := Lib.hid ((HZ5.out.below k6 (Nat.le_refl _)).more k6.size)
  have HQ0_6 := Lib.hid (HQ0_5.out.below k6 HQ0_5.out.lt)
  have HQ1_6 := Lib.hid (HQ1_5.out.below k6 HQ1_5.out.lt)
  have HQ2_6 := Lib.hid (HQ2_5.out.below k6 HQ2_5.out.lt)
  have HQ3_6 := Lib.hid (HQ3_5.out.below k6 HQ3_5.out.lt)
  clear k6 y0 y1 y2 y3 y4 y5 nf nlt z0 z1 z2 zf zlt v20 v21 vf2 vlt2 v30 v31 vf3 vlt3
  obtain ⟨y0, y1, y2, y3, y4, y5, nf, nlt⟩ := net_box HQ0_6.out
  obtain ⟨z0, z1, z2, zf, zlt⟩ := zr_box HQ1_6.out
  obtain ⟨v20, v21, vf2, vlt2⟩ := check_box HQ2_6.out
  obtain ⟨v30, v31, vf3, vlt3⟩ := check_box HQ3_6.out
  go_wp2_with fail
  refine (ztim_any h x r q ZA zn zc _ HR6.out HZ6.out hzn).mono ?_
  generalize timR x r q = d5 at *
  obtain ⟨a5, e5⟩ := d5
  rintro e w7 ⟨rfl, k7⟩
  have HB7 := Lib.hid (HB6.out.trans (k7.mono HB6.out.size))
  have HR7 := Lib.hid (HR6.out.up k7)
  have HZ7 := Lib.hid ((HZ6.out.below k7 (Nat.le_refl _)).more k7.size)
  have HQ0_7 := Lib.hid (HQ0_6.out.below k7 HQ0_6.out.lt)
  have HQ1_7 := Lib.hid (HQ1_6.out.below k7 HQ1_6.out.lt)
  have HQ2_7 := Lib.hid (HQ2_6.out.below k7 HQ2_6.out.lt)
  have HQ3_7 := Lib.hid (HQ3_6.out.below k7 HQ3_6.out.lt)
  clear k7 y0 y1 y2 y3 y4 y5 nf nlt z0 z1 z2 zf zlt v20 v21 vf2 vlt2 v30 v31 vf3 vlt3
  obtain ⟨y0, y1, y2, y3, y4, y5, nf, nlt⟩ := net_box HQ0_7.out
  obtain ⟨z0, z1, z2, zf, zlt⟩ := zr_box HQ1_7.out
  obtain ⟨v20, v21, vf2, vlt2⟩ := check_box HQ2_7.out
  obtain ⟨v30, v31, vf3, vlt3⟩ := check_box HQ3_7.out
  have ht1 := HT1.out
  have ht2 := HT2.out
  dsimp only at ht1 ht2
  subst ht1; subst ht2
  have HM2 : Hid (e0 = 0 → a0 ≤ a1 → e5 = 0 → e4 = 0 ∧ a2 ≤ a3 ∧ a4 ≤ a5) := HM
  have he1 : e0 ≠ 0 → e4 = e0 := HE1.out
  have he2 : e1 ≠ 0 → e5 = e1 := HE2.out
  have FIN : Hid (Below w.heap.size w w7) := HB7
  clear HT1 HT2 HE1 HE2 HM y0 y1 y2 y3 y4 y5 nf nlt z0 z1 z2 zf zlt v20 v21 vf2 vlt2 v30 v31 vf3 vlt3
  by_cases c0 : e0 = 0
  · subst c0
    have d2 : ((0 : Int) != 0) = false := rfl
    by_cases c1 : e1 = 0
    · subst c1
      by_cases c2 : a1 < a0
      · clear he1 he2
        go_wp2_with fail
        go_ret
        exact ⟨rfl, FIN.out⟩
      · by_cases c3 : e5 = 0
        · subst c3
          obtain ⟨m1, m2, m3⟩ := HM2.out rfl (by omega) rfl
          subst m1
          clear he1 he2
          go_wp2_with fail
          go_ret
          exact ⟨rfl, FIN.out⟩
        · have c3b : (e5 != 0) = true := by simpa using c3
          clear he1 he2
          go_wp2_with fail
          go_ret
          exact ⟨rfl, FIN.out⟩
    · have c1b : (e1 != 0) = true := by simpa using c1
      have := he2 c1
      subst this
      clear he1 he2
      go_wp2_with fail
      go_ret
      exact ⟨rfl, FIN.out⟩
  · have c0b : (e0 != 0) = true := by simpa using c0
    have := he1 c0
    subst this
    by_cases c1 : e1 = 0
    · subst c1
      clear he1 he2
      go_wp2_with fail
      go_ret
      exact ⟨rfl, FIN.out⟩
    · have c1b : (e1 != 0) = true := by simpa using c1
      have := he2 c1
      subst this
      clear he1 he2
      go_wp2_with fail
      go_ret
      exact ⟨rfl, FIN.out⟩
end Go.Proofs.Ythedpegaelpbdaa
