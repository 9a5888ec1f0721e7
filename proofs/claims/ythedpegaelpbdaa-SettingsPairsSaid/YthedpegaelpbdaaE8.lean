/- settings.Dial: the walk. -/
import Derived.Test.YthedpegaelpbdaaE7
import Derived.Test.YthedpegaelpbdaaK6s
import Derived.Test.YthedpegaelpbdaaKL
namespace Go.Proofs.Ythedpegaelpbdaa
open Go.ChangeShapes Go.WideShapes Go.ChangeAt Go.RowKit Go.Joins Go.Deep
set_option linter.unusedVariables false
attribute [local go_sem ↓] execOp_call_val
attribute [local go_sem] callVal_func setCell_drewN alloc_drewN sEq_walk NetH.cells

def dp1 (b : Cr) (i : Nat) : Bool := (scaleC b.curve ((i : Int) + 1)).2 != 0
def dp2 (m l h : Int) (a b : Cr) (i : Nat) : Bool := (conC a.curve a.pick (scaleC b.curve ((i : Int) + 1)).1 b.pick m l h).2 == 8
theorem dclo1_any (z : Ch) (g i : Nat) (w : World) (hz : Blk w g 68 #[.string z.r.brk, .string z.r.branch, .string z.r.node, .slice z.A z.n z.c, .int .i64 z.r.pick, .int .i64 z.r.opn]) (hr : RdP w w.heap.size z.A z.n z.r.curve) (hm : z.n ≤ 9223372036854775807) (hi : i < 1000000) :
    Calls Try.prog 60 (#[.int .i64 i] ++ #[.pointer (some ⟨g, 0, none⟩)]) w fun e w' => e = .returned (.bool (dp1 z.r i)) ∧ Below w.heap.size w w' := by
  obtain ⟨y0, y1, y2, y3, y4, y5, yf, ylt⟩ := Ch.box hz
  have HR := Lib.hid hr
  have HD : Hid (dp1 z.r i = ((scaleC z.r.curve ((i : Int) + 1)).2 != 0)) := Lib.hid rfl
  clear hz hr
  show Calls Try.prog 60 #[.int .i64 i, .pointer (some ⟨g, 0, none⟩)] w _
  go_enter Try.func60, Try.ntmps60
  go_wp2_with fail
  refine (scale_any z.A z.n z.c z.r.curve ((i : Int) + 1) w HR.out hm).mono ?_
  generalize hs : scaleC z.r.curve ((i : Int) + 1) = sc
  obtain ⟨sl, se⟩ := sc
  rintro e w1 ⟨⟨v, rfl, _⟩, hb⟩
  have HS := Lib.hid hs
  have HB := Lib.hid hb
  clear hs hb
  dsimp only
  go_wp2_with fail
  go_ret
  exact ⟨ret_bool (by rw [HD.out, HS.out]), HB.out⟩
theorem enter_dclo1 (args : Array Value) (w : World) : (callFunc 60 args).run Try.prog w = .ok (.enter 60 args) w :=
  callFunc_enter Try.func60 (by kernel_rfl) rfl args w
set_option maxHeartbeats 1000000 in
theorem dclo2_any (m l h : Int) (a b : Ch) (ga gb gm gl gh i : Nat) (w : World) (ha : Blk w ga 68 #[.string a.r.brk, .string a.r.branch, .string a.r.node, .slice a.A a.n a.c, .int .i64 a.r.pick, .int .i64 a.r.opn]) (hb : Blk w gb 68 #[.string b.r.brk, .string b.r.branch, .string b.r.node, .slice b.A b.n b.c, .int .i64 b.r.pick, .int .i64 b.r.opn]) (hgm : w.cell? ⟨gm, 0, none⟩ = some (.int .i64 m)) (hgl : w.cell? ⟨gl, 0, none⟩ = some (.int .i64 l)) (hgh : w.cell? ⟨gh, 0, none⟩ = some (.int .i64 h))
    (hra : RdP w w.heap.size a.A a.n a.r.curve) (hrb : RdP w w.heap.size b.A b.n b.r.curve) (hma : a.n ≤ 9223372036854775807) (hmb : b.n ≤ 9223372036854775807) (hi : i < 1000000) :
    Calls Try.prog 61 (#[.int .i64 i] ++ #[.pointer (some ⟨gb, 0, none⟩), .pointer (some ⟨ga, 0, none⟩), .pointer (some ⟨gm, 0, none⟩), .pointer (some ⟨gl, 0, none⟩), .pointer (some ⟨gh, 0, none⟩)]) w fun e w' => e = .returned (.bool (dp2 m l h a.r b.r i)) ∧ Below w.heap.size w w' := by
  have HA := Lib.hid ha
  have HB := Lib.hid hb
  have HGM := Lib.hid hgm
  have HGL := Lib.hid hgl
  have HGH := Lib.hid hgh
  have HLM := World.block_lt_of_cell? w ⟨gm, 0, none⟩ hgm
  have HLL := World.block_lt_of_cell? w ⟨gl, 0, none⟩ hgl
  have HLH := World.block_lt_of_cell? w ⟨gh, 0, none⟩ hgh
  have HRA := Lib.hid hra
  have HRB := Lib.hid hrb
  have HD : Hid (dp2 m l h a.r b.r i = ((conC a.r.curve a.r.pick (scaleC b.r.curve ((i : Int) + 1)).1 b.r.pick m l h).2 == 8)) := Lib.hid rfl
  obtain ⟨x0, x1, x2, x3, x4, x5, xf, xlt⟩ := Ch.box hb
  clear ha hb hra hrb hgm hgl hgh
  show Calls Try.prog 61 #[.int .i64 i, .pointer (some ⟨gb, 0, none⟩), .pointer (some ⟨ga, 0, none⟩), .pointer (some ⟨gm, 0, none⟩), .pointer (some ⟨gl, 0, none⟩), .pointer (some ⟨gh, 0, none⟩)] w _
  go_enter Try.func61, Try.ntmps61
  go_wp2_with fail
  clear x0 x1 x2 x3 x4 x5 xf xlt
  refine (scale_any b.A b.n b.c b.r.curve ((i : Int) + 1) w HRB.out hmb).mono ?_
  generalize hs : scaleC b.r.curve ((i : Int) + 1) = sc at HD
  obtain ⟨sl, se⟩ := sc
  rintro e w1 ⟨⟨v, rfl, ⟨CA, cn, cc, rfl, hcn, hcr⟩⟩, hbw⟩
  have HB1 := Lib.hid hbw
  have HCR := Lib.hid hcr
  have hA1 := HA.out.below hbw HA.out.lt
  have hB1 := HB.out.below hbw HB.out.lt
  have hgm := (hbw.cell (p := ⟨gm, 0, none⟩) HLM).trans HGM.out
  have hgl := (hbw.cell (p := ⟨gl, 0, none⟩) HLL).trans HGL.out
  have hgh := (hbw.cell (p := ⟨gh, 0, none⟩) HLH).trans HGH.out
  have hml := World.block_lt_of_cell? w1 ⟨gm, 0, none⟩ hgm
  have hll := World.block_lt_of_cell? w1 ⟨gl, 0, none⟩ hgl
  have hhl := World.block_lt_of_cell? w1 ⟨gh, 0, none⟩ hgh
  have HRA1 := Lib.hid ((HRA.out.below hbw (Nat.le_refl _)).more hbw.size)
  obtain ⟨x0, x1, x2, x3, x4, x5, xf, xlt⟩ := Ch.box hB1
  obtain ⟨y0, y1, y2, y3, y4, y5, yf, ylt⟩ := Ch.box hA1
  clear hs hbw hcr hA1 hB1
  dsimp only at HCR HD ⊢
  go_wp2_with fail
  clear x0 x1 x2 x3 x4 x5 xf xlt y0 y1 y2 y3 y4 y5 yf ylt hgm hgl hgh
  refine (con_any a.A a.n a.c a.r.curve a.r.pick CA cn cc sl b.r.pick m l h w1 HRA1.out HCR.out hma (by omega)).mono ?_
  generalize hcf : conC a.r.curve a.r.pick sl b.r.pick m l h = cf at HD
  obtain ⟨c1, c2⟩ := cf
  rintro e w2 ⟨rfl, hb2⟩
  have HB2 := Lib.hid (HB1.out.trans (hb2.mono HB1.out.size))
  clear hb2 hcf
  dsimp only at HD ⊢
  go_wp2_with fail
  go_ret
  exact ⟨ret_bool HD.out.symm, HB2.out⟩
theorem enter_dclo2 (args : Array Value) (w : World) : (callFunc 61 args).run Try.prog w = .ok (.enter 61 args) w :=
  callFunc_enter Try.func61 (by kernel_rfl) rfl args w
/-- what Dial answers -/
def DialOk (m l h : Int) (a b : Cr) (d e : Int) : Prop :=
  ((conC a.curve a.pick b.curve b.pick m l h).2 ≠ 0 ∧ (conC a.curve a.pick b.curve b.pick m l h).2 ≠ 8 ∧ d = 0 ∧ e = (conC a.curve a.pick b.curve b.pick m l h).2) ∨
  (((conC a.curve a.pick b.curve b.pick m l h).2 = 0 ∨ (conC a.curve a.pick b.curve b.pick m l h).2 = 8) ∧ ∃ most k, FoundS (dp1 b) 10000 most ∧ FoundS (dp2 m l h a b) most k ∧ ((most < 1 + k ∧ d = 0 ∧ e = 8) ∨ (1 + k ≤ most ∧ d = (1 + k : Nat) ∧ e = 0)))
def DialP (m l h : Int) (a b : Cr) (w : World) (e : Ending) (w' : World) : Prop := Below w.heap.size w w' ∧ ∃ d j : Int, e = .returned (.tuple #[.int .i64 d, .int .i64 j]) ∧ DialOk m l h a b d j
theorem dialP_of (m l h : Int) (a b : Cr) (w : World) (e : Ending) (w' : World) (hb : Below w.heap.size w w') (d j : Int) (he : e = .returned (.tuple #[.int .i64 d, .int .i64 j])) (hd : DialOk m l h a b d j) : DialP m l h a b w e w' := ⟨hb, d, j, he, hd⟩
set_option maxRecDepth 100000 in
set_option maxHeartbeats 4000000 in
theorem dial_any (m l h : Int) (a b : Ch) (w : World) (hra : RdP w w.heap.size a.A a.n a.r.curve) (hrb : RdP w w.heap.size b.A b.n b.r.curve) (hma : a.n ≤ 9223372036854775807) (hmb : b.n ≤ 9223372036854775807) :
    Calls Try.prog 27 #[.agg #[.string a.r.brk, .string a.r.branch, .string a.r.node, .slice a.A a.n a.c, .int .i64 a.r.pick, .int .i64 a.r.opn], .agg #[.string b.r.brk, .string b.r.branch, .string b.r.node, .slice b.A b.n b.c, .int .i64 b.r.pick, .int .i64 b.r.opn], .int .i64 m, .int .i64 l, .int .i64 h] w (DialP m l h a.r b.r w) := by
  have HB0 : Hid (Below w.heap.size w (((((w.alloc (.cells #[.string a.r.brk, .string a.r.branch, .string a.r.node, .slice a.A a.n a.c, .int .i64 a.r.pick, .int .i64 a.r.opn] 68)).alloc (.cells #[.string b.r.brk, .string b.r.branch, .string b.r.node, .slice b.A b.n b.c, .int .i64 b.r.pick, .int .i64 b.r.opn] 68)).alloc (.cells #[.int .i64 m] 3)).alloc (.cells #[.int .i64 l] 3)).alloc (.cells #[.int .i64 h] 3))) := Lib.hid (((((Below.refl _ _).alloc (Nat.le_refl _) _).alloc (by simp) _).alloc (by simp; omega) _).alloc (by simp; omega) _ |>.alloc (by simp; omega) _)
  have HA0 : Hid (Blk (((((w.alloc (.cells #[.string a.r.brk, .string a.r.branch, .string a.r.node, .slice a.A a.n a.c, .int .i64 a.r.pick, .int .i64 a.r.opn] 68)).alloc (.cells #[.string b.r.brk, .string b.r.branch, .string b.r.node, .slice b.A b.n b.c, .int .i64 b.r.pick, .int .i64 b.r.opn] 68)).alloc (.cells #[.int .i64 m] 3)).alloc (.cells #[.int .i64 l] 3)).alloc (.cells #[.int .i64 h] 3)) w.heap.size 68 #[.string a.r.brk, .string a.r.branch, .string a.r.node, .slice a.A a.n a.c, .int .i64 a.r.pick, .int .i64 a.r.opn]) := Lib.hid (((((Blk.new w _ _).alloc _).alloc _).alloc _).alloc _)
  have HBB0 : Hid (Blk (((((w.alloc (.cells #[.string a.r.brk, .string a.r.branch, .string a.r.node, .slice a.A a.n a.c, .int .i64 a.r.pick, .int .i64 a.r.opn] 68)).alloc (.cells #[.string b.r.brk, .string b.r.branch, .string b.r.node, .slice b.A b.n b.c, .int .i64 b.r.pick, .int .i64 b.r.opn] 68)).alloc (.cells #[.int .i64 m] 3)).alloc (.cells #[.int .i64 l] 3)).alloc (.cells #[.int .i64 h] 3)) (w.heap.size + 1) 68 #[.string b.r.brk, .string b.r.branch, .string b.r.node, .slice b.A b.n b.c, .int .i64 b.r.pick, .int .i64 b.r.opn]) := Lib.hid ((((Blk.new_ (by simp)).alloc _).alloc _).alloc _)
  have HM0 : Hid (Blk (((((w.alloc (.cells #[.string a.r.brk, .string a.r.branch, .string a.r.node, .slice a.A a.n a.c, .int .i64 a.r.pick, .int .i64 a.r.opn] 68)).alloc (.cells #[.string b.r.brk, .string b.r.branch, .string b.r.node, .slice b.A b.n b.c, .int .i64 b.r.pick, .int .i64 b.r.opn] 68)).alloc (.cells #[.int .i64 m] 3)).alloc (.cells #[.int .i64 l] 3)).alloc (.cells #[.int .i64 h] 3)) (w.heap.size + 1 + 1) 3 #[.int .i64 m]) := Lib.hid (((Blk.new_ (by simp)).alloc _).alloc _)
  have HL0 : Hid (Blk (((((w.alloc (.cells #[.string a.r.brk, .string a.r.branch, .string a.r.node, .slice a.A a.n a.c, .int .i64 a.r.pick, .int .i64 a.r.opn] 68)).alloc (.cells #[.string b.r.brk, .string b.r.branch, .string b.r.node, .slice b.A b.n b.c, .int .i64 b.r.pick, .int .i64 b.r.opn] 68)).alloc (.cells #[.int .i64 m] 3)).alloc (.cells #[.int .i64 l] 3)).alloc (.cells #[.int .i64 h] 3)) (w.heap.size + 1 + 1 + 1) 3 #[.int .i64 l]) := Lib.hid ((Blk.new_ (by simp)).alloc _)
  have HH0 : Hid (Blk (((((w.alloc (.cells #[.string a.r.brk, .string a.r.branch, .string a.r.node, .slice a.A a.n a.c, .int .i64 a.r.pick, .int .i64 a.r.opn] 68)).alloc (.cells #[.string b.r.brk, .string b.r.branch, .string b.r.node, .slice b.A b.n b.c, .int .i64 b.r.pick, .int .i64 b.r.opn] 68)).alloc (.cells #[.int .i64 m] 3)).alloc (.cells #[.int .i64 l] 3)).alloc (.cells #[.int .i64 h] 3)) (w.heap.size + 1 + 1 + 1 + 1) 3 #[.int .i64 h]) := Lib.hid (Blk.new_ (by simp))
  have HRA := Lib.hid ((hra.below HB0.out (Nat.le_refl _)).more HB0.out.size)
  have HRB := Lib.hid ((hrb.below HB0.out (Nat.le_refl _)).more HB0.out.size)
  have HDP := Lib.hid (dialP_of m l h a.r b.r w)
  clear hra hrb
  obtain ⟨y0, y1, y2, y3, y4, y5, yf, ylt⟩ := Ch.box HA0.out
  obtain ⟨x0, x1, x2, x3, x4, x5, xf, xlt⟩ := Ch.box HBB0.out
  have hm0 := HM0.out.cell 0
  have hl0 := HL0.out.cell 0
  have hh0 := HH0.out.cell 0
  have hml := HM0.out.lt
  have hll := HL0.out.lt
  have hhl := HH0.out.lt
  go_enter Try.func27, Try.ntmps27
  go_wp2_with fail
  clear y0 y1 y2 y3 y4 y5 yf ylt x0 x1 x2 x3 x4 x5 xf xlt hm0 hl0 hh0
  generalize ((((w.alloc (.cells #[.string a.r.brk, .string a.r.branch, .string a.r.node, .slice a.A a.n a.c, .int .i64 a.r.pick, .int .i64 a.r.opn] 68)).alloc (.cells #[.string b.r.brk, .string b.r.branch, .string b.r.node, .slice b.A b.n b.c, .int .i64 b.r.pick, .int .i64 b.r.opn] 68)).alloc (.cells #[.int .i64 m] 3)).alloc (.cells #[.int .i64 l] 3)).alloc (.cells #[.int .i64 h] 3) = W0 at *
  refine (con_any a.A a.n a.c a.r.curve a.r.pick b.A b.n b.c b.r.curve b.r.pick m l h W0 HRA.out HRB.out hma hmb).mono ?_
  generalize hcf : conC a.r.curve a.r.pick b.r.curve b.r.pick m l h = cf
  obtain ⟨c1, c2⟩ := cf
  rintro e w1 ⟨rfl, hb1⟩
  have HCF := Lib.hid hcf
  have HB1 := Lib.hid hb1
  clear hb1 hcf
  dsimp only
  have HBW := Lib.hid (HB0.out.trans (HB1.out.mono HB0.out.size))
  by_cases hc0 : c2 ≠ 0 ∧ c2 ≠ 8
  · have HC0 := Lib.hid hc0
    have h1 : (c2 == 0) = false := by simpa using hc0.1
    have h2 : (c2 == 8) = false := by simpa using hc0.2
    have h1' : (c2 != 0) = true := by simpa using hc0.1
    have h2' : (c2 != 8) = true := by simpa using hc0.2
    clear hc0
    go_wp2_with fail
    go_ret2
    exact HDP.out _ _ HBW.out _ _ rfl (.inl ⟨by rw [HCF.out]; exact HC0.out.1, by rw [HCF.out]; exact HC0.out.2, rfl, by rw [HCF.out]⟩)
  · have hor : c2 = 0 ∨ c2 = 8 := by omega
    have HOR := Lib.hid hor
    clear hc0
    rcases hor with rfl | rfl
    · go_wp2_with fail
      refine (ssearch_any _ _ 10000 (dp1 b.r) (fun w' => Below W0.heap.size W0 w') enter_dclo1 (fun i w' hi hb => (dclo1_any b (w.heap.size + 1) i w' (HBB0.out.below hb HBB0.out.lt) ((HRB.out.below hb (Nat.le_refl _)).more hb.size) hmb (by omega)).mono fun e w'' ⟨he, hb2⟩ => ⟨he, hb.trans (hb2.mono hb.size)⟩) (by omega) w1 HB1.out).mono ?_
      rintro e w2 ⟨most, rfl, hf1, hb2⟩
      have HF1 := Lib.hid hf1
      have HB2 := Lib.hid hb2
      have hmost := hf1.le
      clear hf1 hb2
      go_wp2_with fail
      refine (ssearch_any _ _ most (dp2 m l h a.r b.r) (fun w' => Below W0.heap.size W0 w') enter_dclo2 (fun i w' hi hb => (dclo2_any m l h a b w.heap.size (w.heap.size + 1) (w.heap.size + 1 + 1) (w.heap.size + 1 + 1 + 1) (w.heap.size + 1 + 1 + 1 + 1) i w' (HA0.out.below hb HA0.out.lt) (HBB0.out.below hb HBB0.out.lt) ((hb.cell (p := ⟨_, 0, none⟩) HM0.out.lt).trans (HM0.out.cell 0)) ((hb.cell (p := ⟨_, 0, none⟩) HL0.out.lt).trans (HL0.out.cell 0)) ((hb.cell (p := ⟨_, 0, none⟩) HH0.out.lt).trans (HH0.out.cell 0)) ((HRA.out.below hb (Nat.le_refl _)).more hb.size) ((HRB.out.below hb (Nat.le_refl _)).more hb.size) hma hmb (by omega)).mono fun e w'' ⟨he, hb2⟩ => ⟨he, hb.trans (hb2.mono hb.size)⟩) (by omega) w2 HB2.out).mono ?_
      rintro e w3 ⟨k, rfl, hf2, hb3⟩
      have HF2 := Lib.hid hf2
      have HB3 := Lib.hid (HB0.out.trans (hb3.mono HB0.out.size))
      have hkm := hf2.le
      clear hf2 hb3
      by_cases hd : most < 1 + k
      · have hdI : (most : Int) < 1 + (k : Int) := by omega
        go_wp2_with fail
        go_ret2
        exact HDP.out _ _ HB3.out _ _ rfl (.inr ⟨by rw [HCF.out]; first | exact .inl rfl | exact .inr rfl, most, k, HF1.out, HF2.out, .inl ⟨hd, rfl, rfl⟩⟩)
      · have hdI : ¬ (most : Int) < 1 + (k : Int) := by omega
        go_wp2_with fail
        go_ret2
        exact HDP.out _ _ HB3.out _ _ rfl (.inr ⟨by rw [HCF.out]; first | exact .inl rfl | exact .inr rfl, most, k, HF1.out, HF2.out, .inr ⟨by omega, by omega, rfl⟩⟩)
    · go_wp2_with fail
      refine (ssearch_any _ _ 10000 (dp1 b.r) (fun w' => Below W0.heap.size W0 w') enter_dclo1 (fun i w' hi hb => (dclo1_any b (w.heap.size + 1) i w' (HBB0.out.below hb HBB0.out.lt) ((HRB.out.below hb (Nat.le_refl _)).more hb.size) hmb (by omega)).mono fun e w'' ⟨he, hb2⟩ => ⟨he, hb.trans (hb2.mono hb.size)⟩) (by omega) w1 HB1.out).mono ?_
      rintro e w2 ⟨most, rfl, hf1, hb2⟩
      have HF1 := Lib.hid hf1
      have HB2 := Lib.hid hb2
      have hmost := hf1.le
      clear hf1 hb2
      go_wp2_with fail
      refine (ssearch_any _ _ most (dp2 m l h a.r b.r) (fun w' => Below W0.heap.size W0 w') enter_dclo2 (fun i w' hi hb => (dclo2_any m l h a b w.heap.size (w.heap.size + 1) (w.heap.size + 1 + 1) (w.heap.size + 1 + 1 + 1) (w.heap.size + 1 + 1 + 1 + 1) i w' (HA0.out.below hb HA0.out.lt) (HBB0.out.below hb HBB0.out.lt) ((hb.cell (p := ⟨_, 0, none⟩) HM0.out.lt).trans (HM0.out.cell 0)) ((hb.cell (p := ⟨_, 0, none⟩) HL0.out.lt).trans (HL0.out.cell 0)) ((hb.cell (p := ⟨_, 0, none⟩) HH0.out.lt).trans (HH0.out.cell 0)) ((HRA.out.below hb (Nat.le_refl _)).more hb.size) ((HRB.out.below hb (Nat.le_refl _)).more hb.size) hma hmb (by omega)).mono fun e w'' ⟨he, hb2⟩ => ⟨he, hb.trans (hb2.mono hb.size)⟩) (by omega) w2 HB2.out).mono ?_
      rintro e w3 ⟨k, rfl, hf2, hb3⟩
      have HF2 := Lib.hid hf2
      have HB3 := Lib.hid (HB0.out.trans (hb3.mono HB0.out.size))
      have hkm := hf2.le
      clear hf2 hb3
      by_cases hd : most < 1 + k
      · have hdI : (most : Int) < 1 + (k : Int) := by omega
        go_wp2_with fail
        go_ret2
        exact HDP.out _ _ HB3.out _ _ rfl (.inr ⟨by rw [HCF.out]; first | exact .inl rfl | exact .inr rfl, most, k, HF1.out, HF2.out, .inl ⟨hd, rfl, rfl⟩⟩)
      · have hdI : ¬ (most : Int) < 1 + (k : Int) := by omega
        go_wp2_with fail
        go_ret2
        exact HDP.out _ _ HB3.out _ _ rfl (.inr ⟨by rw [HCF.out]; first | exact .inl rfl | exact .inr rfl, most, k, HF1.out, HF2.out, .inr ⟨by omega, by omega, rfl⟩⟩)
end Go.Proofs.Ythedpegaelpbdaa
