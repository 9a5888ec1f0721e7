/- The law SettingsDials: the walk. -/
import Derived.Test.YthedpegaelpbdaaEH
import Derived.Deep.DeepCutAuto
namespace Go.Proofs.Ythedpegaelpbdaa
open Go.ChangeShapes Go.WideShapes Go.ChangeAt Go.RowKit Go.Joins Go.Deep
set_option linter.unusedVariables false
attribute [local go_sem ↓] execOp_call_val
attribute [local go_sem] callVal_func setCell_drewN alloc_drewN sEq_walk NetH.cells

theorem sdclo_any (m l h : Int) (a b : Ch) (ga gb gm gl gh : Nat) (dial : Int) (c2 : Int) (w : World) (ha : Blk w ga 68 #[.string a.r.brk, .string a.r.branch, .string a.r.node, .slice a.A a.n a.c, .int .i64 a.r.pick, .int .i64 a.r.opn]) (hb : Blk w gb 68 #[.string b.r.brk, .string b.r.branch, .string b.r.node, .slice b.A b.n b.c, .int .i64 b.r.pick, .int .i64 b.r.opn]) (hgm : w.cell? ⟨gm, 0, none⟩ = some (.int .i64 m)) (hgl : w.cell? ⟨gl, 0, none⟩ = some (.int .i64 l)) (hgh : w.cell? ⟨gh, 0, none⟩ = some (.int .i64 h))
    (hra : RdP w w.heap.size a.A a.n a.r.curve) (hrb : RdP w w.heap.size b.A b.n b.r.curve) (hma : a.n ≤ 9223372036854775807) (hmb : b.n ≤ 9223372036854775807) (hs0 : (scaleC b.r.curve dial).2 = 0) (hc2 : (conC a.r.curve a.r.pick (scaleC b.r.curve dial).1 b.r.pick m l h).2 = c2) :
    Calls Try.prog 28 #[.int .i64 dial, .pointer (some ⟨gb, 0, none⟩), .pointer (some ⟨ga, 0, none⟩), .pointer (some ⟨gm, 0, none⟩), .pointer (some ⟨gl, 0, none⟩), .pointer (some ⟨gh, 0, none⟩)] w fun e w' => e = .returned (.int .i64 c2) ∧ Below w.heap.size w w' := by
  have HA := Lib.hid ha
  have HB := Lib.hid hb
  have HGM := Lib.hid hgm
  have HGL := Lib.hid hgl
  have HGH := Lib.hid hgh
  have HLM := World.block_lt_of_cell? w ⟨gm, 0, none⟩ hgm
  have HLL := World.block_lt_of_cell? w ⟨gl, 0, none⟩ hgl
  have HLH := World.block_lt_of_cell? w ⟨gh, 0, none⟩ hgh
  have HRA := Lib.hid hra
  have HRB := Lib.hid hrb
  have HS0 := Lib.hid hs0
  have HC2 := Lib.hid hc2
  obtain ⟨x0, x1, x2, x3, x4, x5, xf, xlt⟩ := Ch.box hb
  clear ha hb hra hrb hgm hgl hgh hs0 hc2
  go_enter Try.func28, Try.ntmps28
  go_wp2_with fail
  clear x0 x1 x2 x3 x4 x5 xf xlt
  refine (scale_any b.A b.n b.c b.r.curve dial w HRB.out hmb).mono ?_
  generalize hs : scaleC b.r.curve dial = sc at HS0 HC2
  obtain ⟨sl, se⟩ := sc
  rintro e w1 ⟨⟨v, rfl, ⟨CA, cn, cc, rfl, hcn, hcr⟩⟩, hbw⟩
  dsimp only at HS0 HC2 hcr ⊢
  have hse := HS0.out
  subst hse
  have HB1 := Lib.hid hbw
  have HCR := Lib.hid hcr
  have hA1 := HA.out.below hbw HA.out.lt
  have hB1 := HB.out.below hbw HB.out.lt
  have hgm := (hbw.cell (p := ⟨gm, 0, none⟩) HLM).trans HGM.out
  have hgl := (hbw.cell (p := ⟨gl, 0, none⟩) HLL).trans HGL.out
  have hgh := (hbw.cell (p := ⟨gh, 0, none⟩) HLH).trans HGH.out
  have hml := World.block_lt_of_cell? w1 ⟨gm, 0, none⟩ hgm
  have hll := World.block_lt_of_cell? w1 ⟨gl, 0, none⟩ hgl
  have hhl := World.block_lt_of_cell? w1 ⟨gh, 0, none⟩ hgh
  have HRA1 := Lib.hid ((HRA.out.below hbw (Nat.le_refl _)).more hbw.size)
  obtain ⟨x0, x1, x2, x3, x4, x5, xf, xlt⟩ := Ch.box hB1
  obtain ⟨y0, y1, y2, y3, y4, y5, yf, ylt⟩ := Ch.box hA1
  clear hs hbw hcr hA1 hB1
  go_wp2_with fail
  clear x0 x1 x2 x3 x4 x5 xf xlt y0 y1 y2 y3 y4 y5 yf ylt hgm hgl hgh
  refine (con_any a.A a.n a.c a.r.curve a.r.pick CA cn cc sl b.r.pick m l h w1 HRA1.out HCR.out hma (by omega)).mono ?_
  generalize hcf : conC a.r.curve a.r.pick sl b.r.pick m l h = cf at HC2
  obtain ⟨c1, cz⟩ := cf
  rintro e w2 ⟨rfl, hb2⟩
  have HB2 := Lib.hid (HB1.out.trans (hb2.mono HB1.out.size))
  clear hb2 hcf
  dsimp only at HC2 ⊢
  go_wp2_with fail
  go_ret
  exact ⟨ret_int HC2.out, HB2.out⟩
set_option maxRecDepth 100000 in
set_option maxHeartbeats 4000000 in
theorem sdials_any (m l h : Int) (a b : Ch) (w : World) (hra : RdP w w.heap.size a.A a.n a.r.curve) (hrb : RdP w w.heap.size b.A b.n b.r.curve) (hma : a.n ≤ 9223372036854775807) (hmb : b.n ≤ 9223372036854775807) :
    Calls Try.prog 10 #[.agg #[.string a.r.brk, .string a.r.branch, .string a.r.node, .slice a.A a.n a.c, .int .i64 a.r.pick, .int .i64 a.r.opn], .agg #[.string b.r.brk, .string b.r.branch, .string b.r.node, .slice b.A b.n b.c, .int .i64 b.r.pick, .int .i64 b.r.opn], .int .i64 m, .int .i64 l, .int .i64 h] w fun e w' => e = .returned (.bool true) ∧ Below w.heap.size w w' := by
  have HB0 : Hid (Below w.heap.size w (((((w.alloc (.cells #[.string a.r.brk, .string a.r.branch, .string a.r.node, .slice a.A a.n a.c, .int .i64 a.r.pick, .int .i64 a.r.opn] 68)).alloc (.cells #[.string b.r.brk, .string b.r.branch, .string b.r.node, .slice b.A b.n b.c, .int .i64 b.r.pick, .int .i64 b.r.opn] 68)).alloc (.cells #[.int .i64 m] 3)).alloc (.cells #[.int .i64 l] 3)).alloc (.cells #[.int .i64 h] 3))) := Lib.hid (((((Below.refl _ _).alloc (Nat.le_refl _) _).alloc (by simp) _).alloc (by simp; omega) _).alloc (by simp; omega) _ |>.alloc (by simp; omega) _)
  have HA0 : Hid (Blk (((((w.alloc (.cells #[.string a.r.brk, .string a.r.branch, .string a.r.node, .slice a.A a.n a.c, .int .i64 a.r.pick, .int .i64 a.r.opn] 68)).alloc (.cells #[.string b.r.brk, .string b.r.branch, .string b.r.node, .slice b.A b.n b.c, .int .i64 b.r.pick, .int .i64 b.r.opn] 68)).alloc (.cells #[.int .i64 m] 3)).alloc (.cells #[.int .i64 l] 3)).alloc (.cells #[.int .i64 h] 3)) w.heap.size 68 #[.string a.r.brk, .string a.r.branch, .string a.r.node, .slice a.A a.n a.c, .int .i64 a.r.pick, .int .i64 a.r.opn]) := Lib.hid (((((Blk.new w _ _).alloc _).alloc _).alloc _).alloc _)
  have HBB0 : Hid (Blk (((((w.alloc (.cells #[.string a.r.brk, .string a.r.branch, .string a.r.node, .slice a.A a.n a.c, .int .i64 a.r.pick, .int .i64 a.r.opn] 68)).alloc (.cells #[.string b.r.brk, .string b.r.branch, .string b.r.node, .slice b.A b.n b.c, .int .i64 b.r.pick, .int .i64 b.r.opn] 68)).alloc (.cells #[.int .i64 m] 3)).alloc (.cells #[.int .i64 l] 3)).alloc (.cells #[.int .i64 h] 3)) (w.heap.size + 1) 68 #[.string b.r.brk, .string b.r.branch, .string b.r.node, .slice b.A b.n b.c, .int .i64 b.r.pick, .int .i64 b.r.opn]) := Lib.hid ((((Blk.new_ (by simp)).alloc _).alloc _).alloc _)
  have HM0 : Hid (Blk (((((w.alloc (.cells #[.string a.r.brk, .string a.r.branch, .string a.r.node, .slice a.A a.n a.c, .int .i64 a.r.pick, .int .i64 a.r.opn] 68)).alloc (.cells #[.string b.r.brk, .string b.r.branch, .string b.r.node, .slice b.A b.n b.c, .int .i64 b.r.pick, .int .i64 b.r.opn] 68)).alloc (.cells #[.int .i64 m] 3)).alloc (.cells #[.int .i64 l] 3)).alloc (.cells #[.int .i64 h] 3)) (w.heap.size + 1 + 1) 3 #[.int .i64 m]) := Lib.hid (((Blk.new_ (by simp)).alloc _).alloc _)
  have HL0 : Hid (Blk (((((w.alloc (.cells #[.string a.r.brk, .string a.r.branch, .string a.r.node, .slice a.A a.n a.c, .int .i64 a.r.pick, .int .i64 a.r.opn] 68)).alloc (.cells #[.string b.r.brk, .string b.r.branch, .string b.r.node, .slice b.A b.n b.c, .int .i64 b.r.pick, .int .i64 b.r.opn] 68)).alloc (.cells #[.int .i64 m] 3)).alloc (.cells #[.int .i64 l] 3)).alloc (.cells #[.int .i64 h] 3)) (w.heap.size + 1 + 1 + 1) 3 #[.int .i64 l]) := Lib.hid ((Blk.new_ (by simp)).alloc _)
  have HH0 : Hid (Blk (((((w.alloc (.cells #[.string a.r.brk, .string a.r.branch, .string a.r.node, .slice a.A a.n a.c, .int .i64 a.r.pick, .int .i64 a.r.opn] 68)).alloc (.cells #[.string b.r.brk, .string b.r.branch, .string b.r.node, .slice b.A b.n b.c, .int .i64 b.r.pick, .int .i64 b.r.opn] 68)).alloc (.cells #[.int .i64 m] 3)).alloc (.cells #[.int .i64 l] 3)).alloc (.cells #[.int .i64 h] 3)) (w.heap.size + 1 + 1 + 1 + 1) 3 #[.int .i64 h]) := Lib.hid (Blk.new_ (by simp))
  have HRA := Lib.hid hra
  have HRB := Lib.hid hrb
  clear hra hrb
  go_enter Try.func10, Try.ntmps10
  go_wp2_with fail
  generalize (((((w.alloc (.cells #[.string a.r.brk, .string a.r.branch, .string a.r.node, .slice a.A a.n a.c, .int .i64 a.r.pick, .int .i64 a.r.opn] 68)).alloc (.cells #[.string b.r.brk, .string b.r.branch, .string b.r.node, .slice b.A b.n b.c, .int .i64 b.r.pick, .int .i64 b.r.opn] 68)).alloc (.cells #[.int .i64 m] 3)).alloc (.cells #[.int .i64 l] 3)).alloc (.cells #[.int .i64 h] 3)) = W0 at *
  refine (sworks_any W0).mono ?_
  rintro e w1 ⟨rfl, hb1⟩
  have HB1 := Lib.hid (HB0.out.trans (hb1.mono HB0.out.size))
  have HA1 := Lib.hid (HA0.out.below hb1 HA0.out.lt)
  have HBB1 := Lib.hid (HBB0.out.below hb1 HBB0.out.lt)
  have HM1 := Lib.hid (HM0.out.below hb1 HM0.out.lt)
  have HL1 := Lib.hid (HL0.out.below hb1 HL0.out.lt)
  have HH1 := Lib.hid (HH0.out.below hb1 HH0.out.lt)
  clear hb1 HB0 HA0 HBB0 HM0 HL0 HH0
  have hm0 := HM1.out.cell 0
  have hl0 := HL1.out.cell 0
  have hh0 := HH1.out.cell 0
  have hml := HM1.out.lt
  have hll := HL1.out.lt
  have hhl := HH1.out.lt
  have hhf := HH1.out.frozen 0
  go_upto_region 3 with fail
  go_cut [27] (fun v wc => wc = w1 ∧ ∃ c, v = .bool c)
  case first =>
    go_wp2_with fail
    all_goals (go_meet; case rel => exact ⟨rfl, _, rfl⟩)
  obtain ⟨rfl, c, rfl⟩ := hcut
  go_upto_if 27 with fail
  go_cut [] (fun wd => ∃ h' : Int, Below w.heap.size w wd ∧ Blk wd w.heap.size 68 #[.string a.r.brk, .string a.r.branch, .string a.r.node, .slice a.A a.n a.c, .int .i64 a.r.pick, .int .i64 a.r.opn] ∧ Blk wd (w.heap.size + 1) 68 #[.string b.r.brk, .string b.r.branch, .string b.r.node, .slice b.A b.n b.c, .int .i64 b.r.pick, .int .i64 b.r.opn] ∧ Blk wd (w.heap.size + 1 + 1) 3 #[.int .i64 m] ∧ Blk wd (w.heap.size + 1 + 1 + 1) 3 #[.int .i64 l] ∧ Blk wd (w.heap.size + 1 + 1 + 1 + 1) 3 #[.int .i64 h'])
  case first =>
    cases c with
    | true =>
      go_wp2_with fail
      go_meet
      case rel => exact ⟨wrap64 (l + 500), HB1.out.setCell (by simp <;> omega) _, HA1.out.far (by simp <;> omega) _, HBB1.out.far (by simp <;> omega) _, HM1.out.far (by simp) _, HL1.out.far (by simp) _, HH1.out.set_at _ (by simp)⟩
    | false =>
      go_wp2_with fail
      go_meet
      case rel => exact ⟨h, HB1.out, HA1.out, HBB1.out, HM1.out, HL1.out, HH1.out⟩
  obtain ⟨h', hb, ha, hbb, hm, hl, hh⟩ := hcut
  clear HB1 HA1 HBB1 HM1 HL1 HH1 hm0 hl0 hh0 hml hll hhl hhf
  have HB1 := Lib.hid hb
  have HA1 := Lib.hid ha
  have HBB1 := Lib.hid hbb
  have HM1 := Lib.hid hm
  have HL1 := Lib.hid hl
  have HH1 := Lib.hid hh
  obtain ⟨y0, y1, y2, y3, y4, y5, yf, ylt⟩ := Ch.box HA1.out
  obtain ⟨x0, x1, x2, x3, x4, x5, xf, xlt⟩ := Ch.box HBB1.out
  have hm0 := HM1.out.cell 0
  have hl0 := HL1.out.cell 0
  have hh0 := HH1.out.cell 0
  have hml := HM1.out.lt
  have hll := HL1.out.lt
  have hhl := HH1.out.lt
  clear hb ha hbb hm hl hh
  generalize wc = w1 at *
  go_wp2_with fail
  clear y0 y1 y2 y3 y4 y5 yf ylt x0 x1 x2 x3 x4 x5 xf xlt hm0 hl0 hh0 hml hll hhl
  refine (dial_any m l h' a b w1 ((HRA.out.below HB1.out (Nat.le_refl _)).more HB1.out.size) ((HRB.out.below HB1.out (Nat.le_refl _)).more HB1.out.size) hma hmb).mono ?_
  intro e w2 hd
  obtain ⟨hb, d, j, rfl, hD⟩ := hd
  have hlaw := dial_law hD
  have HB2 := Lib.hid (HB1.out.trans (hb.mono HB1.out.size))
  have HA2 := Lib.hid (HA1.out.below hb HA1.out.lt)
  have HBB2 := Lib.hid (HBB1.out.below hb HBB1.out.lt)
  have HM2 := Lib.hid (HM1.out.below hb HM1.out.lt)
  have HL2 := Lib.hid (HL1.out.below hb HL1.out.lt)
  have HH2 := Lib.hid (HH1.out.below hb HH1.out.lt)
  clear hb hD HA1 HBB1 HM1 HL1 HH1 HB1
  rcases hlaw with ⟨hj, rfl⟩ | ⟨rfl, hd1, hd2, hs1, hc1, hor⟩
  · have hj1 : (j == 0) = false := by simpa using hj
    have hj2 : (j != 0) = true := by simpa using hj
    clear hj
    go_wp2_with fail
    go_ret
    exact ⟨rfl, HB2.out⟩
  · have HS1 := Lib.hid hs1
    have HC1 := Lib.hid hc1
    have HOR := Lib.hid hor
    clear hs1 hc1 hor
    have hd3 : decide (1 ≤ d) = true := by simpa using hd1
    have hd4 : decide (d ≤ 10000) = true := by simpa using hd2
    by_cases h1 : d = 1
    · subst h1
      go_wp2_with fail
      refine (sdclo_any m l h' a b w.heap.size (w.heap.size + 1) (w.heap.size + 1 + 1) (w.heap.size + 1 + 1 + 1) (w.heap.size + 1 + 1 + 1 + 1) 1 8 w2 HA2.out HBB2.out (HM2.out.cell 0) (HL2.out.cell 0) (HH2.out.cell 0) ((HRA.out.below HB2.out (Nat.le_refl _)).more HB2.out.size) ((HRB.out.below HB2.out (Nat.le_refl _)).more HB2.out.size) hma hmb HS1.out HC1.out).mono ?_
      rintro e w3 ⟨rfl, hb⟩
      have HB3 := Lib.hid (HB2.out.trans (hb.mono HB2.out.size))
      clear hb
      go_wp2_with fail
      go_ret
      exact ⟨rfl, HB3.out⟩
    · have h1b : (d == 1) = false := by simpa using h1
      obtain ⟨hs2, hc2⟩ := HOR.out.resolve_left h1
      have HS2 := Lib.hid hs2
      have HC2 := Lib.hid hc2
      clear hs2 hc2
      go_wp2_with fail
      refine (sdclo_any m l h' a b w.heap.size (w.heap.size + 1) (w.heap.size + 1 + 1) (w.heap.size + 1 + 1 + 1) (w.heap.size + 1 + 1 + 1 + 1) d 8 w2 HA2.out HBB2.out (HM2.out.cell 0) (HL2.out.cell 0) (HH2.out.cell 0) ((HRA.out.below HB2.out (Nat.le_refl _)).more HB2.out.size) ((HRB.out.below HB2.out (Nat.le_refl _)).more HB2.out.size) hma hmb HS1.out HC1.out).mono ?_
      rintro e w3 ⟨rfl, hb⟩
      have HB3 := Lib.hid (HB2.out.trans (hb.mono HB2.out.size))
      have HA3 := Lib.hid (HA2.out.below hb HA2.out.lt)
      have HBB3 := Lib.hid (HBB2.out.below hb HBB2.out.lt)
      have HM3 := Lib.hid (HM2.out.below hb HM2.out.lt)
      have HL3 := Lib.hid (HL2.out.below hb HL2.out.lt)
      have HH3 := Lib.hid (HH2.out.below hb HH2.out.lt)
      clear hb
      go_wp2_with fail
      refine (sdclo_any m l h' a b w.heap.size (w.heap.size + 1) (w.heap.size + 1 + 1) (w.heap.size + 1 + 1 + 1) (w.heap.size + 1 + 1 + 1 + 1) (d - 1) 0 w3 HA3.out HBB3.out (HM3.out.cell 0) (HL3.out.cell 0) (HH3.out.cell 0) ((HRA.out.below HB3.out (Nat.le_refl _)).more HB3.out.size) ((HRB.out.below HB3.out (Nat.le_refl _)).more HB3.out.size) hma hmb HS2.out HC2.out).mono ?_
      rintro e w4 ⟨rfl, hb⟩
      have HB4 := Lib.hid (HB3.out.trans (hb.mono HB3.out.size))
      clear hb
      go_wp2_with fail
      go_ret
      exact ⟨rfl, HB4.out⟩
end Go.Proofs.Ythedpegaelpbdaa
