import Derived.Test.YtakllkkmofdpaaaGreatDoorU12
import Derived.Test.YtakllkkmofdpaaaGreatDoorU13
set_option linter.unusedVariables false
set_option linter.unusedSimpArgs false
namespace Go.Proofs.YtakllkkmofdpaaaGreatDoor
section
open Go.ChangeShapes Go.WideShapes Go.ChangeAt Go.RowKit
attribute [local go_sem ↓] execOp_call_val
attribute [local go_sem] callVal_func setCell_drewN alloc_drewN
def RtS (q : Rat) (w wc : World) : Prop := ∃ (y : Int) (k : Nat) (b1 : Bool) (A : Option Addr) (n c : Nat) (B : Option Addr) (m d : Nat), 0 < k ∧ q = Rat.divInt y (k : Int) ∧ Below w.heap.size w wc ∧ Blk wc w.heap.size 91 #[.bool b1, .slice A n c] ∧ Blk wc (w.heap.size + 1) 91 #[.bool false, .slice B m d] ∧ Blk wc (w.heap.size + 1 + 1) 93 #[.bool false, .slice none 0 0, .bool false, .slice none 0 0] ∧ LgIs wc wc.heap.size y b1 A n c ∧ LgIs wc wc.heap.size (k : Int) false B m d ∧ n ≤ 35184372088832 ∧ m ≤ 35184372088832
set_option maxRecDepth 100000 in
set_option maxHeartbeats 8000000 in
theorem ratio_any (y z : Int) (b1 : Bool) (A : Option Addr) (n c : Nat) (b2 : Bool) (B : Option Addr) (m d : Nat) (w : World) (h1 : LgIs w w.heap.size y b1 A n c) (h2 : LgIs w w.heap.size z b2 B m d) (hz : z ≠ 0) (hn : n ≤ 35184372088832) (hm : m ≤ 35184372088832) :
    Calls Tryz.prog 91 #[.agg #[.bool b1, .slice A n c], .agg #[.bool b2, .slice B m d]] w (RtP (Rat.divInt y z) w) := by
 have HYN := Lib.hid h1.en
 have HZM := Lib.hid h2.en
 have HB2 := Lib.hid h2.eb
 have HB0 : Hid (Below w.heap.size w (((w.alloc (.cells #[.bool b1, .slice A n c] 91)).alloc (.cells #[.bool b2, .slice B m d] 91)).alloc (.cells #[.bool false, .slice none 0 0, .bool false, .slice none 0 0] 93))) := Lib.hid ((((Below.refl _ _).alloc (Nat.le_refl _) _).alloc (by simp) _).alloc (by simp; omega) _)
 have HX1 : Hid (Blk (((w.alloc (.cells #[.bool b1, .slice A n c] 91)).alloc (.cells #[.bool b2, .slice B m d] 91)).alloc (.cells #[.bool false, .slice none 0 0, .bool false, .slice none 0 0] 93)) w.heap.size 91 #[.bool b1, .slice A n c]) := Lib.hid (((Blk.new w _ _).alloc _).alloc _)
 have HX2 : Hid (Blk (((w.alloc (.cells #[.bool b1, .slice A n c] 91)).alloc (.cells #[.bool b2, .slice B m d] 91)).alloc (.cells #[.bool false, .slice none 0 0, .bool false, .slice none 0 0] 93)) (w.heap.size + 1) 91 #[.bool b2, .slice B m d]) := Lib.hid ((Blk.new_ (by simp)).alloc _)
 have HR : Hid (Blk (((w.alloc (.cells #[.bool b1, .slice A n c] 91)).alloc (.cells #[.bool b2, .slice B m d] 91)).alloc (.cells #[.bool false, .slice none 0 0, .bool false, .slice none 0 0] 93)) (w.heap.size + 1 + 1) 93 #[.bool false, .slice none 0 0, .bool false, .slice none 0 0]) := Lib.hid (Blk.new_ (by simp))
 have H1 := Lib.hid (h1.up HB0.out)
 have H2 := Lib.hid (h2.up HB0.out)
 have e01 : w.heap.size ≠ w.heap.size + 1 := by omega
 have e10 : w.heap.size + 1 ≠ w.heap.size := by omega
 have e20 : w.heap.size + 1 + 1 ≠ w.heap.size := by omega
 have e21 : w.heap.size + 1 + 1 ≠ w.heap.size + 1 := by omega
 clear h1 h2
 go_enter Tryz.func91, Tryz.ntmps91
 go_upto_region 1 with fail
 generalize (((w.alloc (.cells #[.bool b1, .slice A n c] 91)).alloc (.cells #[.bool b2, .slice B m d] 91)).alloc (.cells #[.bool false, .slice none 0 0, .bool false, .slice none 0 0] 93)) = W at *
 have p0 := HX1.out.cell 0
 have p1 := HX1.out.cell 1
 have q0 := HX2.out.cell 0
 have q1 := HX2.out.cell 1
 have pl := HX1.out.lt
 have ql := HX2.out.lt
 go_upto_if 8 with fail
 go_cut [] (fun wc => RtS (Rat.divInt y z) w wc)
 case first =>
  cases b2 with
  | true =>
   have hz1 : z < 0 := by simpa using HB2.out.symm
   have HH1 : Hid (LgIs W.drew W.drew.heap.size y b1 A n c) := Lib.hid (H1.out.up (below_drew (Below.refl _ _)))
   have HH2 : Hid (LgIs W.drew W.drew.heap.size z true B m d) := Lib.hid (H2.out.up (below_drew (Below.refl _ _)))
   clear HB2
   go_wp2_with fail
   refine wp_region_last2 (S := fun w' => Below W.heap.size W w') 4 _ _ (by kernel_rfl) (by kernel_rfl) (by kernel_rfl) rfl rfl (below_drew (Below.refl _ _)) (fun hHeld => ?_)
   simp only [List.take_succ_cons, List.take_zero]
   refine tkH 0 rfl (by intro w' _ hcc; go_simp <;> with_reducible rfl) hHeld ?_
   try simp only [Act.put, sA_, sB_, sC_]
   refine tkH 2 rfl (by intro w' _ hcc; go_simp <;> with_reducible rfl) hHeld ?_
   try simp only [Act.put, sA_, sB_, sC_]
   refine stepH 1 (by kernel_rfl) rfl (fun K hK => ?_)
   go_simp
   refine (neg_any y b1 A n c W.drew HH1.out).mono ?_
   rintro e w3 ⟨hb3, b3, A3, n3, c3, rfl, h3⟩
   have HB3 := Lib.hid ((below_drew (Below.refl W.heap.size W)).trans hb3)
   have H3 := Lib.hid h3
   have HH2b := Lib.hid (HH2.out.up hb3)
   clear hb3 h3
   go_simp
   refine hK.out _ _ ?_ (fun hHeld => ?_)
   ·exact HB3.out
   clear hK K
   try simp only [Act.put, sA_, sB_, sC_]
   refine stepH 3 (by kernel_rfl) rfl (fun K hK => ?_)
   go_simp
   refine (neg_any z true B m d w3 HH2b.out).mono ?_
   rintro e w4 ⟨hb4, b4, A4, n4, c4, rfl, h4⟩
   have HB4 := Lib.hid (HB3.out.trans (hb4.mono HB3.out.size))
   have H4 := Lib.hid h4
   have H3b := Lib.hid (H3.out.up hb4)
   clear hb4 h4 H3
   go_simp
   refine hK.out _ _ ?_ (fun hHeld => ?_)
   ·exact HB4.out
   clear hK K
   try simp only [Act.put, sA_, sB_, sC_]
   refine wpAnyH_done (by kernel_rfl) ?_ _
   refine lastQ_go (by rfl) ?_
   have HP2 := Lib.hid (HX1.out.below HB4.out HX1.out.lt)
   have HP3 := Lib.hid (HX2.out.below HB4.out HX2.out.lt)
   have HP4 := Lib.hid (HR.out.below HB4.out HR.out.lt)
   have HBB := Lib.hid (HB0.out.trans (HB4.out.mono HB0.out.size))
   clear p0 p1 q0 q1 pl ql
   have z0 := HP2.out.cell 0
   have z1 := HP2.out.cell 1
   have zf := HP2.out.frozen
   have zl := HP2.out.lt
   go_simp
   clear z0 z1 zf zl
   generalize hw5 : (w4.setCell ⟨w.heap.size, 0, none⟩ _).setCell ⟨w.heap.size, 1, none⟩ _ = w5
   have HP2c : Hid (Blk w5 w.heap.size 91 #[.bool b3, .slice A3 n3 c3]) := Lib.hid (by rw [← hw5]; exact blk_set2 HP2.out)
   have HP3c : Hid (Blk w5 (w.heap.size + 1) 91 #[.bool true, .slice B m d]) := Lib.hid (by rw [← hw5]; exact (HP3.out.far e10 _).far e10 _)
   have HP4c : Hid (Blk w5 (w.heap.size + 1 + 1) 93 #[.bool false, .slice none 0 0, .bool false, .slice none 0 0]) := Lib.hid (by rw [← hw5]; exact (HP4.out.far e20 _).far e20 _)
   have HBc : Hid (Below w.heap.size w w5) := Lib.hid (by rw [← hw5]; exact below_set2 HBB.out (Nat.le_refl _))
   have HNc : Hid (LgIs w5 w5.heap.size (-y) b3 A3 n3 c3) := Lib.hid (by rw [← hw5]; exact (H3b.out.keep (HP2.out.cell 0) (by simp) _).keep ((HP2.out.set_ 0 (.bool b3)).cell 1) (by simp) _)
   have HDc : Hid (LgIs w5 w5.heap.size (-z) b4 A4 n4 c4) := Lib.hid (by rw [← hw5]; exact (H4.out.keep (HP2.out.cell 0) (by simp) _).keep ((HP2.out.set_ 0 (.bool b3)).cell 1) (by simp) _)
   clear hw5
   refine lastQ_go (by rfl) ?_
   have z0 := HP3c.out.cell 0
   have z1 := HP3c.out.cell 1
   have zf := HP3c.out.frozen
   have zl := HP3c.out.lt
   go_wp2_with fail
   clear z0 z1 zf zl
   generalize hw6 : (w5.setCell ⟨w.heap.size + 1, 0, none⟩ _).setCell ⟨w.heap.size + 1, 1, none⟩ _ = w6
   have HP2d : Hid (Blk w6 w.heap.size 91 #[.bool b3, .slice A3 n3 c3]) := Lib.hid (by rw [← hw6]; exact (HP2c.out.far e01 _).far e01 _)
   have HP3d : Hid (Blk w6 (w.heap.size + 1) 91 #[.bool b4, .slice A4 n4 c4]) := Lib.hid (by rw [← hw6]; exact blk_set2 HP3c.out)
   have HP4d : Hid (Blk w6 (w.heap.size + 1 + 1) 93 #[.bool false, .slice none 0 0, .bool false, .slice none 0 0]) := Lib.hid (by rw [← hw6]; exact (HP4c.out.far e21 _).far e21 _)
   have HBd : Hid (Below w.heap.size w w6) := Lib.hid (by rw [← hw6]; exact below_set2 HBc.out (Nat.le_succ _))
   have HNd : Hid (LgIs w6 w6.heap.size (-y) b3 A3 n3 c3) := Lib.hid (by rw [← hw6]; exact (HNc.out.keep (HP3c.out.cell 0) (by simp) _).keep ((HP3c.out.set_ 0 (.bool b4)).cell 1) (by simp) _)
   have HDd : Hid (LgIs w6 w6.heap.size (-z) b4 A4 n4 c4) := Lib.hid (by rw [← hw6]; exact (HDc.out.keep (HP3c.out.cell 0) (by simp) _).keep ((HP3c.out.set_ 0 (.bool b4)).cell 1) (by simp) _)
   clear hw6
   obtain ⟨k, hk⟩ : ∃ k : Nat, -z = (k : Int) := ⟨(-z).toNat, by omega⟩
   rw [hk] at HDd
   have hb40 : b4 = false := by rw [HDd.out.eb]; exact decide_eq_false (by omega)
   subst hb40
   have HE1 : Hid (Rat.divInt y z = Rat.divInt (-y) (k : Int)) := Lib.hid (by rw [show z = -(k : Int) from by omega]; exact ratio_neg y k)
   have hk0 : 0 < k := by omega
   have hn3 : n3 ≤ 35184372088832 := by rw [HNd.out.en, Int.natAbs_neg, ← HYN.out]; exact hn
   have hm4 : n4 ≤ 35184372088832 := by rw [HDd.out.en, ← hk, Int.natAbs_neg, ← HZM.out]; exact hm
   clear hk
   go_meet
   case rel => exact ⟨-y, k, b3, A3, n3, c3, A4, n4, c4, hk0, HE1.out, HBd.out, HP2d.out, HP3d.out, HP4d.out, HNd.out, HDd.out, hn3, hm4⟩
  | false =>
   have hz1 : 0 < z := by have : ¬ z < 0 := by simpa using HB2.out.symm
                          omega
   obtain ⟨k, rfl⟩ : ∃ k : Nat, z = (k : Int) := ⟨z.toNat, by omega⟩
   clear HB2
   have hk0 : 0 < k := by omega
   go_wp2_with fail
   go_meet
   case rel => exact ⟨y, k, b1, A, n, c, B, m, d, hk0, rfl, HB0.out, HX1.out, HX2.out, HR.out, H1.out, H2.out, hn, hm⟩
 clear HB0 HX1 HX2 HR H1 H2 p0 p1 q0 q1 pl ql hn hm hz HB2 HYN HZM
 generalize Rat.divInt y z = q at *
 obtain ⟨y, k, b1, A, n, c, B, m, d, hk0, hq, hb, hx1, hx2, hr, h1, h2, hn, hm⟩ := hcut
 have HQ := Lib.hid hq
 have HB := Lib.hid hb
 have HP2 := Lib.hid hx1
 have HP3 := Lib.hid hx2
 have HP4 := Lib.hid hr
 have HY := Lib.hid h1
 have HK := Lib.hid h2
 clear hq hb hx1 hx2 hr h1 h2
 generalize wc = V at *
 have hgs : w.heap.size ≤ w.heap.size + 1 + 1 := by omega
 have HKM : Hid (m = dlen k) := Lib.hid (by rw [HK.out.en, Int.natAbs_natCast])
 have p0 := HP2.out.cell 0
 have p1 := HP2.out.cell 1
 have pl := HP2.out.lt
 have q0 := HP3.out.cell 0
 have q1 := HP3.out.cell 1
 have ql := HP3.out.lt
 go_upto_region 3 with fail
 go_cut [23] (fun v wc => wc = V ∧ v = .bool (decide (k = 1)))
 case first =>
  by_cases hm1 : m = 1
  ·subst hm1
   have hk32 : k < 4294967296 := by
    have := lt_dlen k
    rw [← HKM.out] at this
    exact this
   obtain ⟨bb, bo, hB1, hbb⟩ := HK.out.rd.form (by omega)
   subst hB1
   have hc0 := HK.out.rd.at_ (i := 0) (by omega)
   rw [Int.natAbs_natCast, dig_pos (by omega), Nat.mod_eq_of_lt hk32, Nat.add_zero] at hc0
   have hc1 : V.cell? ⟨bb, bo, none⟩ = some (.int .u32 (k : Int)) := hc0
   clear hc0
   have hkb : ((k : Int) == 1) = decide (k = 1) := by
    by_cases h : k = 1
    ·subst h; rfl
    ·simp [h]; omega
   go_wp2_with fail
   go_meet
   case rel => exact ⟨rfl, rfl⟩
  ·have hmb : ((m : Int) == 1) = false := by simp; omega
   have hkb : decide (k = 1) = false := decide_eq_false fun e => hm1 (by rw [HKM.out, e]; exact dlen_one (by decide) (by decide))
   clear hm1
   go_wp2_with fail
   go_meet
   case rel => exact ⟨rfl, by rw [hkb]⟩
 obtain ⟨hwc, rfl⟩ := hcut
 subst hwc
 generalize wc = V at *
 by_cases hk1 : k = 1
 ·subst hk1
  have hrt : RtIs V V.heap.size q b1 A n c false B m d := by
   obtain ⟨e1, e2⟩ := ratio_one (n := y) (d := 1) (by decide) (Nat.gcd_one_right _)
   rw [HQ.out]
   exact ⟨by rw [e1]; exact HY.out, by rw [e2]; exact HK.out⟩
  have HRT := Lib.hid hrt
  clear hrt
  have z0 := HP4.out.cell 0
  have z1 := HP4.out.cell 1
  have z2 := HP4.out.cell 2
  have z3 := HP4.out.cell 3
  have zf := HP4.out.frozen
  have zl := HP4.out.lt
  go_wp2_with fail
  generalize hW9 : (((V.setCell ⟨_, 0, none⟩ _).setCell ⟨_, 1, none⟩ _).setCell ⟨_, 2, none⟩ _).setCell ⟨_, 3, none⟩ _ = W9
  have HP9 := Lib.hid (rt_put (e := .returned (.agg #[.bool b1, .slice A n c, .bool false, .slice B m d])) HB.out hgs HP4.out (by simp) (by simp) (by simp) (by simp) HRT.out rfl)
  rw [hW9] at HP9
  have HB9 : Hid (Blk W9 _ 93 #[.bool b1, .slice A n c, .bool false, .slice B m d]) := Lib.hid (by rw [← hW9]; exact blk_set4 HP4.out)
  clear hW9 z0 z1 z2 z3 zf zl
  have q0 := HB9.out.cell 0
  have q1 := HB9.out.cell 1
  have q2 := HB9.out.cell 2
  have q3 := HB9.out.cell 3
  exact bodyPost_ret (v := .agg #[.bool b1, .slice A n c, .bool false, .slice B m d]) (by simp [results, Tryz.results91, go_sem, q0, q1, q2, q3]) rfl HP9.out
 ·have hkf : decide (k = 1) = false := decide_eq_false hk1
  rw [hkf]
  clear hkf hk1
  go_wp2_with fail
  refine (gcd_any y (k : Int) b1 A n c false B m d V HY.out HK.out hn hm).mono ?_
  rw [Int.natAbs_natCast]
  rintro e V2 ⟨hb2, bg, Ag, ng, cg, rfl, hg2⟩
  obtain ⟨g, hgg⟩ : ∃ g, y.natAbs.gcd k = g := ⟨_, rfl⟩
  rw [hgg] at hg2
  have HGG := Lib.hid hgg
  have hg0 : 0 < g := by rw [← hgg]; exact Nat.gcd_pos_of_pos_right _ hk0
  have hbg : bg = false := by rw [hg2.eb]; exact decide_eq_false (by omega)
  subst hbg
  clear p0 p1 pl q0 q1 ql hgg
  have HB2 := Lib.hid (HB.out.trans (hb2.mono HB.out.size))
  have HP22 := Lib.hid (HP2.out.below hb2 HP2.out.lt)
  have HP32 := Lib.hid (HP3.out.below hb2 HP3.out.lt)
  have HP42 := Lib.hid (HP4.out.below hb2 HP4.out.lt)
  have HY2 := Lib.hid (HY.out.up hb2)
  have HK2 := Lib.hid (HK.out.up hb2)
  have HG2 := Lib.hid hg2
  clear hb2 hg2 HB HP2 HP3 HP4 HY HK
  have HAL := Lib.hid ((Below.refl V2.heap.size V2).alloc (Nat.le_refl _) (.cells #[.bool false, .slice Ag ng cg] 91))
  have HP5 : Hid (Blk (V2.alloc (.cells #[.bool false, .slice Ag ng cg] 91)) V2.heap.size 91 #[.bool false, .slice Ag ng cg]) := Lib.hid (Blk.new V2 _ _)
  have HB3 := Lib.hid (HB2.out.trans (HAL.out.mono HB2.out.size))
  have HP23 := Lib.hid (HP22.out.below HAL.out HP22.out.lt)
  have HP33 := Lib.hid (HP32.out.below HAL.out HP32.out.lt)
  have HP43 := Lib.hid (HP42.out.below HAL.out HP42.out.lt)
  have HY3 := Lib.hid (HY2.out.up HAL.out)
  have HK3 := Lib.hid (HK2.out.up HAL.out)
  have HG3 := Lib.hid (HG2.out.up HAL.out)
  have f2 : V2.heap.size ≠ w.heap.size := by have := HP22.out.lt; omega
  have f3 : V2.heap.size ≠ w.heap.size + 1 := by have := HP32.out.lt; omega
  have f4 : V2.heap.size ≠ w.heap.size + 1 + 1 := by have := HP42.out.lt; omega
  go_upto_region 6 with fail
  generalize V2.alloc (.cells #[.bool false, .slice Ag ng cg] 91) = V3 at *
  generalize V2.heap.size = g5 at *
  clear HB2 HP22 HP32 HP42 HY2 HK2 HG2 HAL
  have HGM : Hid (ng = dlen g) := Lib.hid (by rw [HG3.out.en, Int.natAbs_natCast])
  have p0 := HP5.out.cell 0
  have p1 := HP5.out.cell 1
  have pl := HP5.out.lt
  go_cut [40] (fun v wd => wd = V3 ∧ v = .bool (decide (g = 1)))
  case first =>
   by_cases hm1 : ng = 1
   ·subst hm1
    have hk32 : g < 4294967296 := by
     have := lt_dlen g
     rw [← HGM.out] at this
     exact this
    obtain ⟨bb, bo, hB1, hbb⟩ := HG3.out.rd.form (by omega)
    subst hB1
    have hc0 := HG3.out.rd.at_ (i := 0) (by omega)
    rw [Int.natAbs_natCast, dig_pos (by omega), Nat.mod_eq_of_lt hk32, Nat.add_zero] at hc0
    have hc1 : V3.cell? ⟨bb, bo, none⟩ = some (.int .u32 (g : Int)) := hc0
    clear hc0
    have hkb : ((g : Int) == 1) = decide (g = 1) := by
     by_cases h : g = 1
     ·subst h; rfl
     ·simp [h]; omega
    go_wp2_with fail
    go_meet
    case rel => exact ⟨rfl, rfl⟩
   ·have hmb : ((ng : Int) == 1) = false := by simp; omega
    have hkb : decide (g = 1) = false := decide_eq_false fun e => hm1 (by rw [HGM.out, e]; exact dlen_one (by decide) (by decide))
    clear hm1
    go_wp2_with fail
    go_meet
    case rel => exact ⟨rfl, by rw [hkb]⟩
  obtain ⟨hwc, rfl⟩ := hcut
  subst hwc
  clear p0 p1 pl
  generalize wc = V at *
  by_cases hg1 : g = 1
  ·subst hg1
   have hrt : RtIs V V.heap.size q b1 A n c false B m d := by
    obtain ⟨e1, e2⟩ := ratio_one (n := y) (d := k) (by omega) HGG.out
    rw [HQ.out]
    exact ⟨by rw [e1]; exact HY3.out, by rw [e2]; exact HK3.out⟩
   have HRT := Lib.hid hrt
   clear hrt
   have p0 := HP23.out.cell 0
   have p1 := HP23.out.cell 1
   have pl := HP23.out.lt
   have q0 := HP33.out.cell 0
   have q1 := HP33.out.cell 1
   have ql := HP33.out.lt
   have z0 := HP43.out.cell 0
   have z1 := HP43.out.cell 1
   have z2 := HP43.out.cell 2
   have z3 := HP43.out.cell 3
   have zf := HP43.out.frozen
   have zl := HP43.out.lt
   go_wp2_with fail
   generalize hW9 : (((V.setCell ⟨_, 0, none⟩ _).setCell ⟨_, 1, none⟩ _).setCell ⟨_, 2, none⟩ _).setCell ⟨_, 3, none⟩ _ = W9
   have HP9 := Lib.hid (rt_put (e := .returned (.agg #[.bool b1, .slice A n c, .bool false, .slice B m d])) HB3.out hgs HP43.out (by simp) (by simp) (by simp) (by simp) HRT.out rfl)
   rw [hW9] at HP9
   have HB9 : Hid (Blk W9 _ 93 #[.bool b1, .slice A n c, .bool false, .slice B m d]) := Lib.hid (by rw [← hW9]; exact blk_set4 HP43.out)
   clear hW9 z0 z1 z2 z3 zf zl
   have q0 := HB9.out.cell 0
   have q1 := HB9.out.cell 1
   have q2 := HB9.out.cell 2
   have q3 := HB9.out.cell 3
   exact bodyPost_ret (v := .agg #[.bool b1, .slice A n c, .bool false, .slice B m d]) (by simp [results, Tryz.results91, go_sem, q0, q1, q2, q3]) rfl HP9.out
  ·have hgf : decide (g = 1) = false := decide_eq_false hg1
   rw [hgf]
   clear hgf hg1
   have p0 := HP23.out.cell 0
   have p1 := HP23.out.cell 1
   have pf := HP23.out.frozen
   have pl := HP23.out.lt
   go_upto_region 10 with fail
   clear p0 p1 pf pl
   generalize hw4 : V.setCell ⟨w.heap.size, 0, none⟩ (.bool false) = V4
   have HP24 : Hid (Blk V4 w.heap.size 91 #[.bool false, .slice A n c]) := Lib.hid (by rw [← hw4]; exact HP23.out.set_at (i := 0) (.bool false) (by simp))
   have HP34 : Hid (Blk V4 (w.heap.size + 1) 91 #[.bool false, .slice B m d]) := Lib.hid (by rw [← hw4]; exact HP33.out.far e10 _)
   have HP44 : Hid (Blk V4 (w.heap.size + 1 + 1) 93 #[.bool false, .slice none 0 0, .bool false, .slice none 0 0]) := Lib.hid (by rw [← hw4]; exact HP43.out.far e20 _)
   have HP54 : Hid (Blk V4 g5 91 #[.bool false, .slice Ag ng cg]) := Lib.hid (by rw [← hw4]; exact HP5.out.far f2 _)
   have HB4 : Hid (Below w.heap.size w V4) := Lib.hid (by rw [← hw4]; exact HB3.out.setCell (Nat.le_refl _) _)
   have HY4 : Hid (LgIs V4 V4.heap.size (y.natAbs : Int) false A n c) := Lib.hid (by rw [← hw4]; exact lg_abs (HY3.out.keep (HP23.out.cell 0) (by simp) _))
   have HK4 : Hid (LgIs V4 V4.heap.size (k : Int) false B m d) := Lib.hid (by rw [← hw4]; exact HK3.out.keep (HP23.out.cell 0) (by simp) _)
   have HG4 : Hid (LgIs V4 V4.heap.size (g : Int) false Ag ng cg) := Lib.hid (by rw [← hw4]; exact HG3.out.keep (HP23.out.cell 0) (by simp) _)
   have HYB : Hid (b1 = decide (y < 0)) := Lib.hid HY3.out.eb
   clear hw4 HP23 HP33 HP43 HP5 HB3 HY3 HK3 HG3
   have hng : ng ≤ 35184372088832 := by rw [HGM.out]; refine Nat.le_trans (dlen_mono (n := k) (by rw [← HGG.out]; exact Nat.gcd_le_right _ hk0)) ?_; rw [← HKM.out]; exact hm
   have p0 := HP24.out.cell 0
   have p1 := HP24.out.cell 1
   have pl := HP24.out.lt
   have q0 := HP54.out.cell 0
   have q1 := HP54.out.cell 1
   have ql := HP54.out.lt
   go_wp2_with fail
   refine (dm_any y.natAbs g false A n c false Ag ng cg V4 HY4.out HG4.out hg0 hn hng).mono ?_
   clear p0 p1 pl q0 q1 ql
   rintro e V5 ⟨hb5, bq, Aq, nq, cq, br, Ar, nr, cr, rfl, hq5, hr5⟩
   clear hr5
   have hbq : bq = false := by rw [hq5.eb]; exact decide_eq_false (Int.not_lt.2 (Int.natCast_nonneg _))
   subst hbq
   have HB5 := Lib.hid (HB4.out.trans (hb5.mono HB4.out.size))
   have HP25 := Lib.hid (HP24.out.below hb5 HP24.out.lt)
   have HP35 := Lib.hid (HP34.out.below hb5 HP34.out.lt)
   have HP45 := Lib.hid (HP44.out.below hb5 HP44.out.lt)
   have HP55 := Lib.hid (HP54.out.below hb5 HP54.out.lt)
   have HK5 := Lib.hid (HK4.out.up hb5)
   have HG5 := Lib.hid (HG4.out.up hb5)
   have HQ5 := Lib.hid hq5
   clear hb5 hq5 HB4 HP24 HP34 HP44 HP54 HY4 HK4 HG4
   have p0 := HP25.out.cell 0
   have p1 := HP25.out.cell 1
   have pf := HP25.out.frozen
   have pl := HP25.out.lt
   go_upto_region 11 with fail
   clear p0 p1 pf pl
   generalize hw6 : (V5.setCell ⟨w.heap.size, 0, none⟩ (.bool false)).setCell ⟨w.heap.size, 1, none⟩ (.slice Aq nq cq) = V6
   have HP26 : Hid (Blk V6 w.heap.size 91 #[.bool false, .slice Aq nq cq]) := Lib.hid (by rw [← hw6]; exact blk_set2 HP25.out)
   have HP36 : Hid (Blk V6 (w.heap.size + 1) 91 #[.bool false, .slice B m d]) := Lib.hid (by rw [← hw6]; exact (HP35.out.far e10 _).far e10 _)
   have HP46 : Hid (Blk V6 (w.heap.size + 1 + 1) 93 #[.bool false, .slice none 0 0, .bool false, .slice none 0 0]) := Lib.hid (by rw [← hw6]; exact (HP45.out.far e20 _).far e20 _)
   have HP56 : Hid (Blk V6 g5 91 #[.bool false, .slice Ag ng cg]) := Lib.hid (by rw [← hw6]; exact (HP55.out.far f2 _).far f2 _)
   have HB6 : Hid (Below w.heap.size w V6) := Lib.hid (by rw [← hw6]; exact below_set2 HB5.out (Nat.le_refl _))
   have HQ6 : Hid (LgIs V6 V6.heap.size ((y.natAbs / g : Nat) : Int) false Aq nq cq) := Lib.hid (by rw [← hw6]; exact (HQ5.out.keep (HP25.out.cell 0) (by simp) _).keep ((HP25.out.set_ 0 (.bool false)).cell 1) (by simp) _)
   have HK6 : Hid (LgIs V6 V6.heap.size (k : Int) false B m d) := Lib.hid (by rw [← hw6]; exact (HK5.out.keep (HP25.out.cell 0) (by simp) _).keep ((HP25.out.set_ 0 (.bool false)).cell 1) (by simp) _)
   have HG6 : Hid (LgIs V6 V6.heap.size (g : Int) false Ag ng cg) := Lib.hid (by rw [← hw6]; exact (HG5.out.keep (HP25.out.cell 0) (by simp) _).keep ((HP25.out.set_ 0 (.bool false)).cell 1) (by simp) _)
   clear hw6 HP25 HP35 HP45 HP55 HB5 HQ5 HK5 HG5
   have p0 := HP36.out.cell 0
   have p1 := HP36.out.cell 1
   have pl := HP36.out.lt
   have q0 := HP56.out.cell 0
   have q1 := HP56.out.cell 1
   have ql := HP56.out.lt
   go_wp2_with fail
   refine (dm_any k g false B m d false Ag ng cg V6 HK6.out HG6.out hg0 hm hng).mono ?_
   clear p0 p1 pl q0 q1 ql
   rintro e V7 ⟨hb7, bk, Ak, nk, ck, br, Ar, nr, cr, rfl, hk7, hr7⟩
   clear hr7
   have hbk : bk = false := by rw [hk7.eb]; exact decide_eq_false (Int.not_lt.2 (Int.natCast_nonneg _))
   subst hbk
   have HB7 := Lib.hid (HB6.out.trans (hb7.mono HB6.out.size))
   have HP27 := Lib.hid (HP26.out.below hb7 HP26.out.lt)
   have HP37 := Lib.hid (HP36.out.below hb7 HP36.out.lt)
   have HP47 := Lib.hid (HP46.out.below hb7 HP46.out.lt)
   have HQ7 := Lib.hid (HQ6.out.up hb7)
   have HK7 := Lib.hid hk7
   clear hb7 hk7 HB6 HP26 HP36 HP46 HP56 HQ6 HK6 HG6
   have p0 := HP37.out.cell 0
   have p1 := HP37.out.cell 1
   have pf := HP37.out.frozen
   have pl := HP37.out.lt
   go_upto_region 12 with fail
   clear p0 p1 pf pl
   generalize hw8 : (V7.setCell ⟨w.heap.size + 1, 0, none⟩ (.bool false)).setCell ⟨w.heap.size + 1, 1, none⟩ (.slice Ak nk ck) = V8
   have HP28 : Hid (Blk V8 w.heap.size 91 #[.bool false, .slice Aq nq cq]) := Lib.hid (by rw [← hw8]; exact (HP27.out.far e01 _).far e01 _)
   have HP38 : Hid (Blk V8 (w.heap.size + 1) 91 #[.bool false, .slice Ak nk ck]) := Lib.hid (by rw [← hw8]; exact blk_set2 HP37.out)
   have HP48 : Hid (Blk V8 (w.heap.size + 1 + 1) 93 #[.bool false, .slice none 0 0, .bool false, .slice none 0 0]) := Lib.hid (by rw [← hw8]; exact (HP47.out.far e21 _).far e21 _)
   have HB8 : Hid (Below w.heap.size w V8) := Lib.hid (by rw [← hw8]; exact below_set2 HB7.out (Nat.le_succ _))
   have HQ8 : Hid (LgIs V8 V8.heap.size ((y.natAbs / g : Nat) : Int) false Aq nq cq) := Lib.hid (by rw [← hw8]; exact (HQ7.out.keep (HP37.out.cell 0) (by simp) _).keep ((HP37.out.set_ 0 (.bool false)).cell 1) (by simp) _)
   have HK8 : Hid (LgIs V8 V8.heap.size ((k / g : Nat) : Int) false Ak nk ck) := Lib.hid (by rw [← hw8]; exact (HK7.out.keep (HP37.out.cell 0) (by simp) _).keep ((HP37.out.set_ 0 (.bool false)).cell 1) (by simp) _)
   clear hw8 HP27 HP37 HP47 HB7 HQ7 HK7
   have HNQ : Hid (b1 = true → 0 < nq) := Lib.hid fun hb => by
    rw [HQ8.out.en, Int.natAbs_natCast]
    have hy0 : y < 0 := by have := HYB.out; rw [hb] at this; simpa using this.symm
    have hdv : g ∣ y.natAbs := by rw [← HGG.out]; exact Nat.gcd_dvd_left _ _
    have : 0 < y.natAbs / g := Nat.div_pos (Nat.le_of_dvd (by omega) hdv) hg0
    rw [dlen_pos (by omega)]; omega
   have hrt : ∀ W, LgIs W W.heap.size ((y.natAbs / g : Nat) : Int) false Aq nq cq → LgIs W W.heap.size ((k / g : Nat) : Int) false Ak nk ck → RtIs W W.heap.size q b1 Aq nq cq false Ak nk ck := fun W g1 g2 => by
    obtain ⟨e1, e2⟩ := ratio_abs y (d := k) (by omega)
    obtain ⟨_, e3⟩ := ratio_num y (d := k) (by omega)
    rw [HGG.out] at e1 e3
    rw [HQ.out]
    refine ⟨⟨?_, ?_, ?_, g1.nc, g1.cm⟩, by rw [e3]; exact g2⟩
    ·rw [HYB.out]; exact decide_eq_decide.2 e2
    ·rw [e1, g1.en, Int.natAbs_natCast]
    ·rw [e1]; have := g1.rd; rwa [Int.natAbs_natCast] at this
   have HRT := Lib.hid hrt
   clear hrt
   have p0 := HP28.out.cell 0
   have p1 := HP28.out.cell 1
   have pf := HP28.out.frozen
   have pl := HP28.out.lt
   cases b1 with
   | true =>
    have hnq : 0 < nq := HNQ.out rfl
    go_upto_region 13 with fail
    clear p0 p1 pf pl
    generalize hw9 : V8.setCell ⟨w.heap.size, 0, none⟩ (.bool true) = V9
    have HP29 : Hid (Blk V9 w.heap.size 91 #[.bool true, .slice Aq nq cq]) := Lib.hid (by rw [← hw9]; exact HP28.out.set_at (i := 0) (.bool true) (by simp))
    have HP39 : Hid (Blk V9 (w.heap.size + 1) 91 #[.bool false, .slice Ak nk ck]) := Lib.hid (by rw [← hw9]; exact HP38.out.far e10 _)
    have HP49 : Hid (Blk V9 (w.heap.size + 1 + 1) 93 #[.bool false, .slice none 0 0, .bool false, .slice none 0 0]) := Lib.hid (by rw [← hw9]; exact HP48.out.far e20 _)
    have HB9 : Hid (Below w.heap.size w V9) := Lib.hid (by rw [← hw9]; exact HB8.out.setCell (Nat.le_refl _) _)
    have HRT9 : Hid (RtIs V9 V9.heap.size q true Aq nq cq false Ak nk ck) := Lib.hid (by rw [← hw9]; exact HRT.out _ (HQ8.out.keep (HP28.out.cell 0) (by simp) _) (HK8.out.keep (HP28.out.cell 0) (by simp) _))
    clear hw9 HP28 HP38 HP48 HB8 HQ8 HK8 HRT
    have p0 := HP29.out.cell 0
    have p1 := HP29.out.cell 1
    have pl := HP29.out.lt
    have q0 := HP39.out.cell 0
    have q1 := HP39.out.cell 1
    have ql := HP39.out.lt
    have z0 := HP49.out.cell 0
    have z1 := HP49.out.cell 1
    have z2 := HP49.out.cell 2
    have z3 := HP49.out.cell 3
    have zf := HP49.out.frozen
    have zl := HP49.out.lt
    go_wp2_with fail
    generalize hW9 : (((V9.setCell ⟨_, 0, none⟩ _).setCell ⟨_, 1, none⟩ _).setCell ⟨_, 2, none⟩ _).setCell ⟨_, 3, none⟩ _ = W9
    have HP9 := Lib.hid (rt_put (e := .returned (.agg #[.bool true, .slice Aq nq cq, .bool false, .slice Ak nk ck])) HB9.out hgs HP49.out (by simp) (by simp) (by simp) (by simp) HRT9.out rfl)
    rw [hW9] at HP9
    have HB9 : Hid (Blk W9 _ 93 #[.bool true, .slice Aq nq cq, .bool false, .slice Ak nk ck]) := Lib.hid (by rw [← hW9]; exact blk_set4 HP49.out)
    clear hW9 z0 z1 z2 z3 zf zl
    have q0 := HB9.out.cell 0
    have q1 := HB9.out.cell 1
    have q2 := HB9.out.cell 2
    have q3 := HB9.out.cell 3
    exact bodyPost_ret (v := .agg #[.bool true, .slice Aq nq cq, .bool false, .slice Ak nk ck]) (by simp [results, Tryz.results91, go_sem, q0, q1, q2, q3]) rfl HP9.out
   | false =>
    go_upto_region 13 with fail
    clear p0 p1 pf pl
    generalize hw9 : V8.setCell ⟨w.heap.size, 0, none⟩ (.bool false) = V9
    have HP29 : Hid (Blk V9 w.heap.size 91 #[.bool false, .slice Aq nq cq]) := Lib.hid (by rw [← hw9]; exact HP28.out.set_at (i := 0) (.bool false) (by simp))
    have HP39 : Hid (Blk V9 (w.heap.size + 1) 91 #[.bool false, .slice Ak nk ck]) := Lib.hid (by rw [← hw9]; exact HP38.out.far e10 _)
    have HP49 : Hid (Blk V9 (w.heap.size + 1 + 1) 93 #[.bool false, .slice none 0 0, .bool false, .slice none 0 0]) := Lib.hid (by rw [← hw9]; exact HP48.out.far e20 _)
    have HB9 : Hid (Below w.heap.size w V9) := Lib.hid (by rw [← hw9]; exact HB8.out.setCell (Nat.le_refl _) _)
    have HRT9 : Hid (RtIs V9 V9.heap.size q false Aq nq cq false Ak nk ck) := Lib.hid (by rw [← hw9]; exact HRT.out _ (HQ8.out.keep (HP28.out.cell 0) (by simp) _) (HK8.out.keep (HP28.out.cell 0) (by simp) _))
    clear hw9 HP28 HP38 HP48 HB8 HQ8 HK8 HRT
    have p0 := HP29.out.cell 0
    have p1 := HP29.out.cell 1
    have pl := HP29.out.lt
    have q0 := HP39.out.cell 0
    have q1 := HP39.out.cell 1
    have ql := HP39.out.lt
    have z0 := HP49.out.cell 0
    have z1 := HP49.out.cell 1
    have z2 := HP49.out.cell 2
    have z3 := HP49.out.cell 3
    have zf := HP49.out.frozen
    have zl := HP49.out.lt
    go_wp2_with fail
    generalize hW9 : (((V9.setCell ⟨_, 0, none⟩ _).setCell ⟨_, 1, none⟩ _).setCell ⟨_, 2, none⟩ _).setCell ⟨_, 3, none⟩ _ = W9
    have HP9 := Lib.hid (rt_put (e := .returned (.agg #[.bool false, .slice Aq nq cq, .bool false, .slice Ak nk ck])) HB9.out hgs HP49.out (by simp) (by simp) (by simp) (by simp) HRT9.out rfl)
    rw [hW9] at HP9
    have HB9 : Hid (Blk W9 _ 93 #[.bool false, .slice Aq nq cq, .bool false, .slice Ak nk ck]) := Lib.hid (by rw [← hW9]; exact blk_set4 HP49.out)
    clear hW9 z0 z1 z2 z3 zf zl
    have q0 := HB9.out.cell 0
    have q1 := HB9.out.cell 1
    have q2 := HB9.out.cell 2
    have q3 := HB9.out.cell 3
    exact bodyPost_ret (v := .agg #[.bool false, .slice Aq nq cq, .bool false, .slice Ak nk ck]) (by simp [results, Tryz.results91, go_sem, q0, q1, q2, q3]) rfl HP9.out
end
end Go.Proofs.YtakllkkmofdpaaaGreatDoor
