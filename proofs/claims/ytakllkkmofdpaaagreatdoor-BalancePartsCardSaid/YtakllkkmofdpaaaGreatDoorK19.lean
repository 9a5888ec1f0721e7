/- Parts of the proof, put together into one file. -/
import Derived.Test.YtakllkkmofdpaaaGreatDoorK02
import Derived.Test.YtakllkkmofdpaaaGreatDoorK17
import Derived.Test.YtakllkkmofdpaaaGreatDoorK18
import Derived.Deep.RegionHeldLaw
/- What enters a part, as texts; the fixed example of chapter 25. -/
namespace Go.Proofs.YtakllkkmofdpaaaGreatDoor
open Go.ChangeShapes Go.WideShapes Go.ChangeAt Go.RowKit
set_option linter.unusedVariables false
set_option linter.unusedSimpArgs false
attribute [local go_sem ↓] execOp_call_val
attribute [local go_sem] callVal_func setCell_drewN alloc_drewN sEq_walk NetH.cells

theorem enR_fits {x : Net} {part fl : List ByteArray} (h : enE x part fl = 0) : ∀ q ∈ enR x part fl, Fits q := (parts_law h).2.2.1
def enT (x : Net) (part fl : List ByteArray) : List ByteArray := if enE x part fl = 0 then (enR x part fl).map txtQ else []
/-- what Entering hands back -/
def EtP (x : Net) (part fl : List ByteArray) (w : World) (e : Ending) (w' : World) : Prop := Below w.heap.size w w' ∧ ∃ A n c, e = .returned (.tuple #[.slice A n c, .int .i64 (enE x part fl)]) ∧ RdStr w' w'.heap.size A n (enT x part fl) ∧ n ≤ c ∧ c ≤ maxLen
theorem rdStr_none (w : World) (B : Nat) : RdStr w B none 0 [] := ⟨rfl, rfl, fun h => by omega⟩
set_option maxRecDepth 100000 in
set_option maxHeartbeats 4000000 in
theorem entering_any (h : NetH) (x : Net) (A : Option Addr) (n c : Nat) (part : List ByteArray) (F : Option Addr) (f fc : Nat) (fl : List ByteArray) (w : World) (r : RdNet w w.heap.size h x) (hp : RdStr w w.heap.size A n part) (hf : RdStr w w.heap.size F f fl) (hfs : ∀ s ∈ fl, s.size ≤ maxLen) (hn : n ≤ 9223372036854775807) (hnc : n ≤ c) (hc : c ≤ 9223372036854775807) (hfn : f ≤ 9223372036854775807) (ht : TabOk w) :
    Calls Tryz.prog 18 #[.agg h.cells, .slice A n c, .slice F f fc] w (EtP x part fl w) := by
  have K0 : Below w.heap.size w (w.alloc (.cells h.cells 33)) := (Below.refl _ _).alloc (Nat.le_refl _) _
  have HK := Lib.hid K0
  have HX := Lib.hid (Blk.new w 33 h.cells)
  have HT := Lib.hid ht
  have HC := Lib.hid (entering0_any h x A n c part F f fc fl _ (r.up K0) ((hp.below K0 (Nat.le_refl _)).more K0.size) ((hf.below K0 (Nat.le_refl _)).more K0.size) hfs hn hnc hc hfn (ht.up K0))
  have HL0 : Hid (enE x part fl = 0 → (enR x part fl).length ≤ 1000000) := Lib.hid fun h0 => by
    obtain ⟨h1, h2, h3⟩ := enE_parts h0
    have hok := netCk_ok (bdE_net h1).1
    unfold enR
    rw [if_pos h0, List.length_map]
    unfold bdR
    rw [if_pos h1]
    have := crGo_len part x.brs 0
    have := hok.l2
    omega
  clear K0 r hp hf hfs ht
  obtain ⟨A0, m0, c0, A1, m1, c1, A2, m2, c2, A3, m3, c3, A4, m4, c4, A5, m5, c5⟩ := h
  simp only [NetH.cells] at HK HX HC ⊢
  go_enter Tryz.func18, Tryz.ntmps18
  go_upto_region 1 with fail
  generalize w.alloc (.cells #[.slice A0 m0 c0, .slice A1 m1 c1, .slice A2 m2 c2, .slice A3 m3 c3, .slice A4 m4 c4, .slice A5 m5 c5] 33) = W at *
  have hgl := HX.out.lt
  have y0 := HX.out.cell 0
  have y1 := HX.out.cell 1
  have y2 := HX.out.cell 2
  have y3 := HX.out.cell 3
  have y4 := HX.out.cell 4
  have y5 := HX.out.cell 5
  go_wp2_with fail
  refine HC.out.mono ?_
  clear y0 y1 y2 y3 y4 y5 hgl HC
  rintro e w1 ⟨hb1, L, ln, lc, rfl, hl, hlc, hlm⟩
  have HB1 := Lib.hid (HK.out.trans (hb1.mono HK.out.size))
  have HL := Lib.hid hl
  clear hb1 HK HX hl
  by_cases h0 : enE x part fl = 0
  · have H0 := Lib.hid h0
    have hln : ln ≤ 1000000 := by rw [← HL.out.len]; exact HL0.out h0
    have HTV := Lib.hid (textvec_any L ln lc (enR x part fl) w1 HL.out hln (HT.out.up HB1.out))
    rw [h0]
    clear h0
    go_wp2_with fail
    refine HTV.out.mono ?_
    clear HTV
    rintro e w2 ⟨hb2, hok, -⟩
    obtain ⟨A7, n7, c7, rfl, h7, h8, h9⟩ := hok (enR_fits H0.out)
    have HB2 := Lib.hid (HB1.out.trans (hb2.mono HB1.out.size))
    have H7 := Lib.hid h7
    clear hb2 h7 hok
    go_wp2_with fail
    go_ret2
    exact ⟨HB2.out, A7, n7, c7, by rw [H0.out]; rfl, by unfold enT; rw [if_pos H0.out]; exact H7.out, h8, h9⟩
  · have HE : Hid (enT x part fl = []) := Lib.hid (by unfold enT; rw [if_neg h0])
    have HZ : Hid (Below w.heap.size w w1) := HB1
    have HRF : Hid (∀ z, enE x part fl = z → enE x part fl = z) := Lib.hid fun z h => h
    generalize hz : enE x part fl = z at *
    have HZE := Lib.hid hz
    clear hz
    have h0b : (z != 0) = true := by simp [h0]
    clear h0
    go_wp2_with fail
    go_ret2
    refine ⟨HB1.out, none, 0, 0, by rw [HZE.out]; rfl, by rw [HE.out]; exact rdStr_none _ _, Nat.le_refl _, by simp [maxLen]⟩

theorem qOf_neg3 : -(3 : Rat) = qOf ⟨#[45, 51]⟩ := by decide +kernel
theorem bw_texts : txtQ 5 = ⟨#[53]⟩ ∧ txtQ (-3) = ⟨#[45, 51]⟩ ∧ txtQ 2 = ⟨#[50]⟩ ∧ txtQ 9 = ⟨#[57]⟩ := by
  have key : ∀ (s : ByteArray) (q : Rat), ratCk s.data.toList = 0 → qOf s = q → txtQ q = s := fun s q h1 h2 => by rw [← h2]; exact valid_txt h1
  exact ⟨key _ _ (by decide +kernel) (by decide +kernel), key _ _ (by decide +kernel) (by decide +kernel), key _ _ (by decide +kernel) (by decide +kernel), key _ _ (by decide +kernel) (by decide +kernel)⟩
theorem bw_en : enE fdNet [⟨#[67]⟩, ⟨#[68]⟩] [⟨#[53]⟩, ⟨#[51]⟩] = 0 ∧ enR fdNet [⟨#[67]⟩, ⟨#[68]⟩] [⟨#[53]⟩, ⟨#[51]⟩] = [5, -3] := by decide +kernel
theorem bw_enT : enT fdNet [⟨#[67]⟩, ⟨#[68]⟩] [⟨#[53]⟩, ⟨#[51]⟩] = [⟨#[53]⟩, ⟨#[45, 51]⟩] := by
  unfold enT
  rw [if_pos bw_en.1, bw_en.2, List.map_cons, List.map_cons, List.map_nil, bw_texts.1, bw_texts.2.1]
theorem bw_sum : ckLim 256 [⟨#[49, 48]⟩, ⟨#[45, 56]⟩] = 0 ∧ sumR ([⟨#[49, 48]⟩, ⟨#[45, 56]⟩].map qOf) = 2 ∧ halfR ([⟨#[49, 48]⟩, ⟨#[45, 56]⟩].map qOf) = 9 := by decide +kernel
theorem fits_small {q : Rat} (h : q.num.natAbs < 10 ^ 5 ∧ q.den < 10 ^ 5) : Fits q := Tn.fits (k := 5) h (by decide)
theorem bw_bs : bsS [⟨#[49, 48]⟩, ⟨#[45, 56]⟩] = ⟨#[50]⟩ ∧ bsR [⟨#[49, 48]⟩, ⟨#[45, 56]⟩] = ⟨#[57]⟩ ∧ bsE [⟨#[49, 48]⟩, ⟨#[45, 56]⟩] = 0 := by
  obtain ⟨h1, h2, h3⟩ := bw_sum
  have := bs_ok h1 (by rw [h2]; exact fits_small (by decide +kernel)) (by rw [h3]; exact fits_small (by decide +kernel))
  rw [h2, h3, bw_texts.2.2.1, bw_texts.2.2.2] at this
  exact this
theorem opB_of {ss : List ByteArray} {x y : Int} {q r : Rat} (h0 : bsE ss = 0) (h1 : 0 ≤ x ∧ x ≤ 1000000 ∧ 0 ≤ y ∧ y ≤ 2000) (h2 : sumR (ss.map qOf) = q) (h3 : halfR (ss.map qOf) = r) : opB ss x y = decide (0 < cmpQ (rabs q) ((x : Rat) + Rat.divInt y 1000 * r)) := by
  unfold opB
  rw [if_pos ⟨h0, h1⟩, h2, h3]
theorem opF_of {ss : List ByteArray} {x y : Int} (h0 : bsE ss = 0) (h1 : 0 ≤ x ∧ x ≤ 1000000 ∧ 0 ≤ y ∧ y ≤ 2000) : opF ss x y = 0 := by
  unfold opF
  rw [if_pos (bsE_ok h0).1, if_pos h1, h0]
theorem bw_op : opB [⟨#[49, 48]⟩, ⟨#[45, 56]⟩] 1 100 = true ∧ opF [⟨#[49, 48]⟩, ⟨#[45, 56]⟩] 1 100 = 0 ∧ opB [⟨#[49, 48]⟩, ⟨#[45, 56]⟩] 2 0 = false ∧ opF [⟨#[49, 48]⟩, ⟨#[45, 56]⟩] 2 0 = 0 := by
  obtain ⟨h1, h2, h3⟩ := bw_sum
  have h0 := bw_bs.2.2
  exact ⟨by rw [opB_of h0 (by decide) h2 h3]; decide +kernel, opF_of h0 (by decide), by rw [opB_of h0 (by decide) h2 h3]; decide +kernel, opF_of h0 (by decide)⟩
theorem bw_bd : bdE fdNet [⟨#[67]⟩] = 3 := by decide +kernel
theorem rdStr_new {w : World} {T : Nat} {zs : List ByteArray} (hz : 0 < zs.length) : RdStr (w.alloc (.cells (strsV zs).toArray T)) (w.alloc (.cells (strsV zs).toArray T)).heap.size (some ⟨w.heap.size, 0, none⟩) zs.length zs := rdStr_lit (Blk.new w T _) (by simp)
set_option maxRecDepth 100000 in
set_option maxHeartbeats 4000000 in
theorem bworks_any (w : World) (ht : TabOk w) : Calls Tryz.prog 14 #[] w fun e w' => e = .returned (.bool true) ∧ Below w.heap.size w w' := by
  have HT := Lib.hid ht
  clear ht
  go_enter Tryz.func14, Tryz.ntmps14
  go_wp2_with fail
  refine (feeder_any w).mono ?_
  rintro e w1 ⟨h1, rfl, hr1, k1⟩
  have HB1 := Lib.hid k1
  have HR1 := Lib.hid hr1
  clear k1 hr1
  go_wp2_with fail
  have HKa : Hid (Below w1.heap.size w1 ((w1.alloc (.cells #[.string ⟨#[67]⟩, .string ⟨#[68]⟩] 9)).alloc (.cells #[.string ⟨#[53]⟩, .string ⟨#[51]⟩] 37))) := Lib.hid (((Below.refl _ _).alloc (Nat.le_refl _) _).alloc (by simp) _)
  have HSa0 : Hid (RdStr ((w1.alloc (.cells #[.string ⟨#[67]⟩, .string ⟨#[68]⟩] 9)).alloc (.cells #[.string ⟨#[53]⟩, .string ⟨#[51]⟩] 37)) ((w1.alloc (.cells #[.string ⟨#[67]⟩, .string ⟨#[68]⟩] 9)).alloc (.cells #[.string ⟨#[53]⟩, .string ⟨#[51]⟩] 37)).heap.size (some ⟨w1.heap.size, 0, none⟩) 2 [⟨#[67]⟩, ⟨#[68]⟩]) := Lib.hid (rdStr_lit (zs := [⟨#[67]⟩, ⟨#[68]⟩]) (T := 9) (((Blk.new_ (w := w1) (by simp)).alloc _)) (by simp; omega))
  have HSa1 : Hid (RdStr ((w1.alloc (.cells #[.string ⟨#[67]⟩, .string ⟨#[68]⟩] 9)).alloc (.cells #[.string ⟨#[53]⟩, .string ⟨#[51]⟩] 37)) ((w1.alloc (.cells #[.string ⟨#[67]⟩, .string ⟨#[68]⟩] 9)).alloc (.cells #[.string ⟨#[53]⟩, .string ⟨#[51]⟩] 37)).heap.size (some ⟨w1.heap.size + 1, 0, none⟩) 2 [⟨#[53]⟩, ⟨#[51]⟩]) := Lib.hid (rdStr_lit (zs := [⟨#[53]⟩, ⟨#[51]⟩]) (T := 37) ((Blk.new_ (w := (w1.alloc (.cells #[.string ⟨#[67]⟩, .string ⟨#[68]⟩] 9))) (by simp))) (by simp))
  have HWa := Lib.hid (HB1.out.trans (HKa.out.mono HB1.out.size))
  have HRa := Lib.hid (HR1.out.up HKa.out)
  have HTa := Lib.hid (HT.out.up HWa.out)
  clear HKa
  generalize ((w1.alloc (.cells #[.string ⟨#[67]⟩, .string ⟨#[68]⟩] 9)).alloc (.cells #[.string ⟨#[53]⟩, .string ⟨#[51]⟩] 37)) = wa at *
  have HSZ : Hid (∀ z ∈ ([⟨#[53]⟩, ⟨#[51]⟩] : List ByteArray), z.size ≤ maxLen) := Lib.hid (by decide +kernel)
  have HSZ2 : Hid (∀ z ∈ ([⟨#[49, 48]⟩, ⟨#[45, 56]⟩] : List ByteArray), z.size ≤ maxLen) := Lib.hid (by decide +kernel)
  refine (entering_any h1 fdNet _ 2 2 [⟨#[67]⟩, ⟨#[68]⟩] _ 2 2 [⟨#[53]⟩, ⟨#[51]⟩] wa HRa.out HSa0.out HSa1.out HSZ.out (by decide) (by decide) (by decide) (by decide) HTa.out).mono ?_
  rintro e w2 ⟨hb2, A2, n2, c2, rfl, h2, h3, h4⟩
  have HB2 := Lib.hid (HWa.out.trans (hb2.mono HWa.out.size))
  rw [bw_enT] at h2
  have hn2 : n2 = 2 := h2.1.symm
  subst hn2
  have HV2 := Lib.hid h2
  rw [bw_en.1]
  clear hb2 h2 HSa0 HSa1 HRa HTa HWa
  go_wp2_with fail
  have HKa3 : Hid (Below w2.heap.size w2 (w2.alloc (.cells #[.string ⟨#[49, 48]⟩, .string ⟨#[45, 56]⟩] 37))) := Lib.hid ((Below.refl _ _).alloc (Nat.le_refl _) _)
  have HSa30 : Hid (RdStr (w2.alloc (.cells #[.string ⟨#[49, 48]⟩, .string ⟨#[45, 56]⟩] 37)) (w2.alloc (.cells #[.string ⟨#[49, 48]⟩, .string ⟨#[45, 56]⟩] 37)).heap.size (some ⟨w2.heap.size, 0, none⟩) 2 [⟨#[49, 48]⟩, ⟨#[45, 56]⟩]) := Lib.hid (rdStr_lit (zs := [⟨#[49, 48]⟩, ⟨#[45, 56]⟩]) (T := 37) (Blk.new_ (w := w2) (by simp)) (by simp))
  have HWa3 := Lib.hid (HB2.out.trans (HKa3.out.mono HB2.out.size))
  have HTa3 := Lib.hid (HT.out.up HWa3.out)
  generalize (w2.alloc (.cells #[.string ⟨#[49, 48]⟩, .string ⟨#[45, 56]⟩] 37)) = wa3 at *
  refine (bsum_any _ 2 2 [⟨#[49, 48]⟩, ⟨#[45, 56]⟩] wa3 HSa30.out HSZ2.out (by decide) HTa3.out).mono ?_
  rintro e w3 ⟨rfl, hb3⟩
  have HB3 := Lib.hid (HWa3.out.trans (hb3.mono HWa3.out.size))
  have hv3 := HKa3.out.trans (hb3.mono HKa3.out.size)
  have HV3 := Lib.hid ((HV2.out.below hv3 (Nat.le_refl _)).more hv3.size)
  rw [bw_bs.1, bw_bs.2.1, bw_bs.2.2]
  clear hb3 hv3 HKa3 HSa30 HWa3 HTa3 HB2 HV2
  go_wp2_with fail
  have HKa4 : Hid (Below w3.heap.size w3 (w3.alloc (.cells #[.string ⟨#[49, 48]⟩, .string ⟨#[45, 56]⟩] 37))) := Lib.hid ((Below.refl _ _).alloc (Nat.le_refl _) _)
  have HSa40 : Hid (RdStr (w3.alloc (.cells #[.string ⟨#[49, 48]⟩, .string ⟨#[45, 56]⟩] 37)) (w3.alloc (.cells #[.string ⟨#[49, 48]⟩, .string ⟨#[45, 56]⟩] 37)).heap.size (some ⟨w3.heap.size, 0, none⟩) 2 [⟨#[49, 48]⟩, ⟨#[45, 56]⟩]) := Lib.hid (rdStr_lit (zs := [⟨#[49, 48]⟩, ⟨#[45, 56]⟩]) (T := 37) (Blk.new_ (w := w3) (by simp)) (by simp))
  have HWa4 := Lib.hid (HB3.out.trans (HKa4.out.mono HB3.out.size))
  have HTa4 := Lib.hid (HT.out.up HWa4.out)
  generalize (w3.alloc (.cells #[.string ⟨#[49, 48]⟩, .string ⟨#[45, 56]⟩] 37)) = wa4 at *
  refine (operates_any _ 2 2 1 100 [⟨#[49, 48]⟩, ⟨#[45, 56]⟩] wa4 HSa40.out HSZ2.out (by decide) HTa4.out).mono ?_
  rintro e w4 ⟨rfl, hb4⟩
  have HB4 := Lib.hid (HWa4.out.trans (hb4.mono HWa4.out.size))
  have hv4 := HKa4.out.trans (hb4.mono HKa4.out.size)
  have HV4 := Lib.hid ((HV3.out.below hv4 (Nat.le_refl _)).more hv4.size)
  rw [bw_op.1, bw_op.2.1]
  clear hb4 hv4 HKa4 HSa40 HWa4 HTa4 HB3 HV3
  go_wp2_with fail
  have HKa5 : Hid (Below w4.heap.size w4 (w4.alloc (.cells #[.string ⟨#[49, 48]⟩, .string ⟨#[45, 56]⟩] 37))) := Lib.hid ((Below.refl _ _).alloc (Nat.le_refl _) _)
  have HSa50 : Hid (RdStr (w4.alloc (.cells #[.string ⟨#[49, 48]⟩, .string ⟨#[45, 56]⟩] 37)) (w4.alloc (.cells #[.string ⟨#[49, 48]⟩, .string ⟨#[45, 56]⟩] 37)).heap.size (some ⟨w4.heap.size, 0, none⟩) 2 [⟨#[49, 48]⟩, ⟨#[45, 56]⟩]) := Lib.hid (rdStr_lit (zs := [⟨#[49, 48]⟩, ⟨#[45, 56]⟩]) (T := 37) (Blk.new_ (w := w4) (by simp)) (by simp))
  have HWa5 := Lib.hid (HB4.out.trans (HKa5.out.mono HB4.out.size))
  have HTa5 := Lib.hid (HT.out.up HWa5.out)
  generalize (w4.alloc (.cells #[.string ⟨#[49, 48]⟩, .string ⟨#[45, 56]⟩] 37)) = wa5 at *
  refine (operates_any _ 2 2 2 0 [⟨#[49, 48]⟩, ⟨#[45, 56]⟩] wa5 HSa50.out HSZ2.out (by decide) HTa5.out).mono ?_
  rintro e w5 ⟨rfl, hb5⟩
  have HB5 := Lib.hid (HWa5.out.trans (hb5.mono HWa5.out.size))
  have hv5 := HKa5.out.trans (hb5.mono HKa5.out.size)
  have HV5 := Lib.hid ((HV4.out.below hv5 (Nat.le_refl _)).more hv5.size)
  rw [bw_op.2.2.1, bw_op.2.2.2]
  clear hb5 hv5 HKa5 HSa50 HWa5 HTa5 HB4 HV4
  go_wp2_with fail
  refine (feeder_any w5).mono ?_
  rintro e w6 ⟨h6, rfl, hr6, k6⟩
  have HB6 := Lib.hid (HB5.out.trans (k6.mono HB5.out.size))
  have HR6 := Lib.hid hr6
  have HV6 := Lib.hid ((HV5.out.below k6 (Nat.le_refl _)).more k6.size)
  clear k6 hr6 HB5 HV5
  go_wp2_with fail
  have HKb : Hid (Below w6.heap.size w6 (w6.alloc (.cells #[.string ⟨#[67]⟩] 9))) := Lib.hid ((Below.refl _ _).alloc (Nat.le_refl _) _)
  have HSb0 : Hid (RdStr (w6.alloc (.cells #[.string ⟨#[67]⟩] 9)) (w6.alloc (.cells #[.string ⟨#[67]⟩] 9)).heap.size (some ⟨w6.heap.size, 0, none⟩) 1 [⟨#[67]⟩]) := Lib.hid (rdStr_lit (zs := [⟨#[67]⟩]) (T := 9) (Blk.new_ (w := w6) (by simp)) (by simp))
  have HWb := Lib.hid (HB6.out.trans (HKb.out.mono HB6.out.size))
  have HRb := Lib.hid (HR6.out.up HKb.out)
  have HVb := Lib.hid ((HV6.out.below HKb.out (Nat.le_refl _)).more HKb.out.size)
  generalize (w6.alloc (.cells #[.string ⟨#[67]⟩] 9)) = wb at *
  refine (boundary_any h6 fdNet _ 1 1 [⟨#[67]⟩] wb HRb.out HSb0.out (by decide) (by decide) (by decide)).mono ?_
  rintro e w7 ⟨hb7, A7, n7, c7, rfl, -, -, -⟩
  have HB7 := Lib.hid (HWb.out.trans (hb7.mono HWb.out.size))
  have HV7 := Lib.hid ((HVb.out.below hb7 (Nat.le_refl _)).more hb7.size)
  rw [bw_bd]
  clear hb7 HKb HSb0 HWb HRb HVb HB6 HR6 HV6
  go_wp2_with fail
  have HKc : Hid (Below w7.heap.size w7 (w7.alloc (.cells #[.string ⟨#[53]⟩, .string ⟨#[45, 51]⟩] 37))) := Lib.hid ((Below.refl _ _).alloc (Nat.le_refl _) _)
  have HSc0 : Hid (RdStr (w7.alloc (.cells #[.string ⟨#[53]⟩, .string ⟨#[45, 51]⟩] 37)) (w7.alloc (.cells #[.string ⟨#[53]⟩, .string ⟨#[45, 51]⟩] 37)).heap.size (some ⟨w7.heap.size, 0, none⟩) 2 [⟨#[53]⟩, ⟨#[45, 51]⟩]) := Lib.hid (rdStr_lit (zs := [⟨#[53]⟩, ⟨#[45, 51]⟩]) (T := 37) (Blk.new_ (w := w7) (by simp)) (by simp))
  have HWc := Lib.hid (HB7.out.trans (HKc.out.mono HB7.out.size))
  have HVc := Lib.hid ((HV7.out.below HKc.out (Nat.le_refl _)).more HKc.out.size)
  generalize (w7.alloc (.cells #[.string ⟨#[53]⟩, .string ⟨#[45, 51]⟩] 37)) = wc at *
  refine (samevec_any A2 2 c2 [⟨#[53]⟩, ⟨#[45, 51]⟩] _ 2 2 [⟨#[53]⟩, ⟨#[45, 51]⟩] wc HVc.out HSc0.out (by decide) (by decide)).mono ?_
  rintro e w8 ⟨rfl, hb8⟩
  have HB8 := Lib.hid (HWc.out.trans (hb8.mono HWc.out.size))
  rw [decide_eq_true rfl]
  clear hb8 HKc HSc0 HWc HVc HB7 HV7
  go_wp2_with fail
  go_ret
  exact ⟨rfl, HB8.out⟩
end Go.Proofs.YtakllkkmofdpaaaGreatDoor
/- The laws of the sums of currents: the walks. -/
namespace Go.Proofs.YtakllkkmofdpaaaGreatDoor
open Go.ChangeShapes Go.WideShapes Go.ChangeAt Go.RowKit
set_option linter.unusedVariables false
set_option linter.unusedSimpArgs false
attribute [local go_sem ↓] execOp_call_val
attribute [local go_sem] callVal_func setCell_drewN alloc_drewN sEq_walk NetH.cells

def net0 : Net := ⟨[], [], [], [], [], []⟩
def net0H : NetH := ⟨none, 0, 0, none, 0, 0, none, 0, 0, none, 0, 0, none, 0, 0, none, 0, 0⟩
theorem rdNet_0 (w : World) : RdNet w w.heap.size net0H net0 := by
  have f0 : RdStr w w.heap.size none 0 [] := ⟨rfl, rfl, fun h => absurd h (by decide)⟩
  have f1 : RdSw w w.heap.size none 0 [] := ⟨rfl, rfl, fun h => absurd h (by decide)⟩
  have f2 : RdBr w w.heap.size none 0 [] := ⟨rfl, rfl, fun h => absurd h (by decide)⟩
  have f3 : RdGn w w.heap.size none 0 [] := ⟨rfl, rfl, fun h => absurd h (by decide)⟩
  have f4 : RdLd w w.heap.size none 0 [] := ⟨rfl, rfl, fun h => absurd h (by decide)⟩
  have f5 : RdSt w w.heap.size none 0 [] := ⟨rfl, rfl, fun h => absurd h (by decide)⟩
  exact ⟨f0, f1, f2, f3, f4, f5, by decide, by decide, by decide, by decide, by decide, by decide, by decide, by decide, by decide, by decide, by decide, by decide⟩
theorem rdMi_0 (w : World) (B : Nat) : RdMi w B none 0 [] := ⟨rfl, rfl, fun h => absurd h (by decide)⟩
theorem rdVc_1 {w : World} {T : Nat} {A : Option Addr} {n c : Nat} {ss : List ByteArray} (h : RdStr w w.heap.size A n ss) (hn : n ≤ 9223372036854775807) : RdVc (w.alloc (.cells #[.slice A n c] T)) (w.alloc (.cells #[.slice A n c] T)).heap.size (some ⟨w.heap.size, 0, none⟩) 1 [⟨A, n, c, ss⟩] := by
  have hb : Below w.heap.size w (w.alloc (.cells #[.slice A n c] T)) := (Below.refl _ _).alloc (Nat.le_refl _) _
  refine ⟨rfl, ⟨rfl, fun _ => ⟨w.heap.size, 0, rfl, (Blk.new w T _).lt, fun j u hu => ?_⟩⟩, fun v hv => ?_⟩
  · rw [Nat.zero_add, (Blk.new w T #[.slice A n c]).cell j]
    simpa [Vc.cells] using hu
  · rw [List.mem_singleton.1 hv]
    exact ⟨(h.below hb (Nat.le_refl _)).more hb.size, hn⟩
theorem str_ne {t : ByteArray} {u : ByteArray} {l : List UInt8} (h : t ≠ u) (hl : u.data.toList = l) : ¬ t.toList = l := by
  rw [ByteArray.toList_eq, ← hl]
  intro he
  cases t; cases u
  exact h (congrArg ByteArray.mk (Array.toList_inj.1 he))
theorem small_vec {v : Vc} : smallR net0 [] [v] = tinyV v := by
  unfold smallR
  simp [net0]
theorem tinyV_iff {v : Vc} : tinyV v = true ↔ ∀ s ∈ v.ss, s.size ≤ 24 := by
  unfold tinyV
  rw [List.all_eq_true]
  exact ⟨fun h s hs => of_decide_eq_true (h s hs), fun h s hs => decide_eq_true (h s hs)⟩
set_option maxRecDepth 100000 in
set_option maxHeartbeats 4000000 in
theorem boperates_any (A : Option Addr) (n c : Nat) (ss : List ByteArray) (least slope less flat : Int) (w : World) (hr : RdStr w w.heap.size A n ss) (hnc : n ≤ c) (hc : c ≤ 9223372036854775807) (ht : TabOk w) :
    Calls Tryz.prog 3 #[.slice A n c, .int .i64 least, .int .i64 slope, .int .i64 less, .int .i64 flat] w fun e w' => e = .returned (.bool true) ∧ Below w.heap.size w w' := by
  obtain ⟨k, hk8, hkn, hm⟩ : ∃ k : Nat, k ≤ 8 ∧ k ≤ n ∧ min (n : Int) 8 = (k : Int) := by
    by_cases h : (8 : Int) < (n : Int)
    · exact ⟨8, by omega, by omega, by omega⟩
    · exact ⟨n, by omega, by omega, by omega⟩
  have hkc : (k : Int) ≤ (c : Int) := by omega
  have HK8 := Lib.hid hk8
  have HR := Lib.hid (hr.take hkn)
  have HL8 : Hid ((ss.take k).length ≤ 8) := Lib.hid (by rw [List.length_take]; omega)
  have HT := Lib.hid ht
  clear hr ht
  generalize hzs : ss.take k = zs at *
  clear hzs
  go_enter Tryz.func3, Tryz.ntmps3
  go_wp2_with fail
  refine (bworks_any w HT.out).mono ?_
  rintro e w1 ⟨rfl, hb1⟩
  have HB1 := Lib.hid hb1
  have HR1 := Lib.hid ((HR.out.below hb1 (Nat.le_refl _)).more hb1.size)
  clear hb1
  go_wp2_with fail
  have hb2 : Below w1.heap.size w1 (w1.alloc (.cells #[.slice A k c] 23)) := (Below.refl _ _).alloc (Nat.le_refl _) _
  have HB2 := Lib.hid (HB1.out.trans (hb2.mono HB1.out.size))
  have HR2 := Lib.hid ((HR1.out.below hb2 (Nat.le_refl _)).more hb2.size)
  have HV2 := Lib.hid (rdVc_1 (T := 23) (c := c) HR1.out (by omega))
  clear hb2 HB1 HR1
  generalize w1.alloc (.cells #[.slice A k c] 23) = w2 at *
  have HSM := Lib.hid (small_any net0H net0 none 0 0 [] _ 1 1 [⟨A, k, c, zs⟩] w2 (rdNet_0 _) (rdMi_0 _ _) HV2.out (by decide) (by decide))
  rw [small_vec] at HSM
  refine HSM.out.mono ?_
  clear HSM
  rintro e w3 ⟨rfl, hb3⟩
  have HB3 := Lib.hid (HB2.out.trans (hb3.mono HB2.out.size))
  have HR3 := Lib.hid ((HR2.out.below hb3 (Nat.le_refl _)).more hb3.size)
  clear hb3 HV2 HB2 HR2
  cases hsm : tinyV ⟨A, k, c, zs⟩ with
  | false =>
    clear hsm
    go_wp2_with fail
    go_ret
    exact ⟨rfl, HB3.out⟩
  | true =>
    have HTY := Lib.hid (tinyV_iff.1 hsm)
    have HSZ : Hid (∀ s ∈ zs, s.size ≤ maxLen) := Lib.hid fun s hs => Nat.le_trans (HTY.out s hs) (by decide)
    have HT3 := Lib.hid (HT.out.up HB3.out)
    clear hsm
    go_wp2_with fail
    refine (operates_any A k c least slope zs w3 HR3.out HSZ.out (by omega) HT3.out).mono ?_
    rintro e w4 ⟨rfl, hb4⟩
    have HB4 := Lib.hid (HB3.out.trans (hb4.mono HB3.out.size))
    have HR4 := Lib.hid ((HR3.out.below hb4 (Nat.le_refl _)).more hb4.size)
    have HT4 := Lib.hid (HT.out.up HB4.out)
    clear hb4 HB3 HR3 HT3
    obtain ⟨x', hx⟩ : ∃ x', min least less = x' := ⟨_, rfl⟩
    obtain ⟨y', hy⟩ : ∃ y', min slope flat = y' := ⟨_, rfl⟩
    have HLAW := Lib.hid (opB_law zs least slope less flat)
    rw [hx, hy] at HLAW
    have HL2 := Lib.hid (opB_law zs x' y' x' y').1
    go_wp2_with fail
    refine (operates_any A k c x' y' zs w4 HR4.out HSZ.out (by omega) HT4.out).mono ?_
    rintro e w5 ⟨rfl, hb5⟩
    have HB5 := Lib.hid (HB4.out.trans (hb5.mono HB4.out.size))
    have HR5 := Lib.hid ((HR4.out.below hb5 (Nat.le_refl _)).more hb5.size)
    have HT5 := Lib.hid (HT.out.up HB5.out)
    clear hb5 HB4 HR4 HT4 hx hy
    go_wp2_with fail
    refine (bsum_any A k c zs w5 HR5.out HSZ.out (by omega) HT5.out).mono ?_
    rintro e w6 ⟨rfl, hb6⟩
    have HB6 := Lib.hid (HB5.out.trans (hb6.mono HB5.out.size))
    clear hb6 HB5 HR5 HT5
    generalize opF zs least slope = f1 at *
    generalize opB zs least slope = b1 at *
    generalize opF zs x' y' = f2 at *
    generalize opB zs x' y' = b2 at *
    generalize bsE zs = g at *
    generalize bsS zs = t at *
    generalize bsR zs = r at *
    by_cases h1 : f1 = 0
    · subst h1
      by_cases h2 : f2 = 0
      · subst h2
        obtain ⟨hg, hm1, hz⟩ := HLAW.out.2 rfl rfl
        subst hg
        by_cases hts : t = ⟨#[48]⟩
        · obtain ⟨rfl, rfl⟩ := hz hts
          subst hts
          clear hm1 hz
          go_wp2_with fail
          go_ret
          exact ⟨rfl, HB6.out⟩
        · have ht2 : ¬ t.toList = [48] := str_ne hts (by rfl)
          cases b1 with
          | false =>
            clear hz hm1 hts
            cases b2 <;> (go_wp2_with fail; go_ret; exact ⟨rfl, HB6.out⟩)
          | true =>
            have hb2 := hm1 rfl
            subst hb2
            clear hz hm1 hts
            go_wp2_with fail
            go_ret
            exact ⟨rfl, HB6.out⟩
      · have hb2 := HL2.out h2
        subst hb2
        have h2n : (f2 != 0) = true := by simp [h2]
        have h2e : (f2 == 0) = false := by simp [h2]
        go_wp2_with fail
        go_ret
        exact ⟨rfl, HB6.out⟩
    · have hb1 := HLAW.out.1 h1
      subst hb1
      have h1n : (f1 != 0) = true := by simp [h1]
      have h1e : (f1 == 0) = false := by simp [h1]
      by_cases h2 : f2 = 0
      · subst h2
        go_wp2_with fail
        go_ret
        exact ⟨rfl, HB6.out⟩
      · have hb2 := HL2.out h2
        subst hb2
        have h2n : (f2 != 0) = true := by simp [h2]
        have h2e : (f2 == 0) = false := by simp [h2]
        go_wp2_with fail
        go_ret
        exact ⟨rfl, HB6.out⟩
end Go.Proofs.YtakllkkmofdpaaaGreatDoor
/- The law BalanceSums: the walk. -/
namespace Go.Proofs.YtakllkkmofdpaaaGreatDoor
open Go.ChangeShapes Go.WideShapes Go.ChangeAt Go.RowKit
set_option linter.unusedVariables false
set_option linter.unusedSimpArgs false
attribute [local go_sem ↓] execOp_call_val
attribute [local go_sem] callVal_func setCell_drewN alloc_drewN sEq_walk NetH.cells

theorem bsum_law2 {ss : List ByteArray} (hl : ss.length ≤ 8) (hs : ∀ s ∈ ss, s.size ≤ 24) (h : bsE ss = 0) : ∃ p q, Fits p ∧ Fits q ∧ sizeS (bsS ss) = txtQ p ∧ opS (fun p q => p * q) (bsR ss) ⟨#[50]⟩ = txtQ q ∧ bsS ss = txtQ (sumR (ss.map qOf)) ∧ Fits (sumR (ss.map qOf)) ∧ bsR ss = txtQ (halfR (ss.map qOf)) ∧ Fits (halfR (ss.map qOf)) := by
  obtain ⟨c1, c2, c3⟩ := bsE_ok h
  obtain ⟨b1, b2, b3⟩ := bs_ok c1 c2 c3
  have hv := (ckLim_ok.1 c1).2
  have ht := tns hv hs
  have ha : Tn 300 (sumR ((ss.map qOf).map rabs)) := by
    refine (tn_sum (b := 25) _ _ rfl fun q hq => ?_).mono ?_
    · obtain ⟨x, hx, rfl⟩ := List.mem_map.1 hq
      exact tn_abs (ht x hx)
    · rw [List.length_map, List.length_map]
      omega
  have hh : halfR (ss.map qOf) * 2 = sumR ((ss.map qOf).map rabs) := Rat.div_mul_cancel (by decide)
  have hfa := ha.fits (by decide)
  have hfr : Fits (rabs (sumR (ss.map qOf))) := by
    unfold rabs
    split
    · exact fits_neg c2
    · exact c2
  refine ⟨_, _, hfr, hfa, by rw [b1, txt_size2 c2], ?_, b1, c2, b2, c3⟩
  rw [b2, two_txt, txt_op c3 fits_twoQ (f := fun p q => p * q) (by show Fits (_ * 2); rw [hh]; exact hfa)]
  show txtQ (_ * 2) = _
  rw [hh]
theorem txt_max {q : Rat} (h : Fits q) : (txtQ q).size ≤ maxLen := by have := txt_size h; unfold maxLen; omega
set_option maxRecDepth 100000 in
set_option maxHeartbeats 4000000 in
theorem bsums_any (A : Option Addr) (n c : Nat) (ss : List ByteArray) (w : World) (hr : RdStr w w.heap.size A n ss) (hnc : n ≤ c) (hc : c ≤ 9223372036854775807) (ht : TabOk w) :
    Calls Tryz.prog 5 #[.slice A n c] w fun e w' => e = .returned (.bool true) ∧ Below w.heap.size w w' := by
  obtain ⟨k, hk8, hkn, hm⟩ : ∃ k : Nat, k ≤ 8 ∧ k ≤ n ∧ min (n : Int) 8 = (k : Int) := by
    by_cases h : (8 : Int) < (n : Int)
    · exact ⟨8, by omega, by omega, by omega⟩
    · exact ⟨n, by omega, by omega, by omega⟩
  have hkc : (k : Int) ≤ (c : Int) := by omega
  have HK8 := Lib.hid hk8
  have HR := Lib.hid (hr.take hkn)
  have HL8 : Hid ((ss.take k).length ≤ 8) := Lib.hid (by rw [List.length_take]; omega)
  have HT := Lib.hid ht
  clear hr ht
  generalize hzs : ss.take k = zs at *
  clear hzs
  go_enter Tryz.func5, Tryz.ntmps5
  go_wp2_with fail
  refine (bworks_any w HT.out).mono ?_
  rintro e w1 ⟨rfl, hb1⟩
  have HB1 := Lib.hid hb1
  have HR1 := Lib.hid ((HR.out.below hb1 (Nat.le_refl _)).more hb1.size)
  clear hb1
  go_wp2_with fail
  have hb2 : Below w1.heap.size w1 (w1.alloc (.cells #[.slice A k c] 23)) := (Below.refl _ _).alloc (Nat.le_refl _) _
  have HB2 := Lib.hid (HB1.out.trans (hb2.mono HB1.out.size))
  have HR2 := Lib.hid ((HR1.out.below hb2 (Nat.le_refl _)).more hb2.size)
  have HV2 := Lib.hid (rdVc_1 (T := 23) (c := c) HR1.out (by omega))
  clear hb2 HB1 HR1
  generalize w1.alloc (.cells #[.slice A k c] 23) = w2 at *
  have HSM := Lib.hid (small_any net0H net0 none 0 0 [] _ 1 1 [⟨A, k, c, zs⟩] w2 (rdNet_0 _) (rdMi_0 _ _) HV2.out (by decide) (by decide))
  rw [small_vec] at HSM
  refine HSM.out.mono ?_
  clear HSM
  rintro e w3 ⟨rfl, hb3⟩
  have HB3 := Lib.hid (HB2.out.trans (hb3.mono HB2.out.size))
  have HR3 := Lib.hid ((HR2.out.below hb3 (Nat.le_refl _)).more hb3.size)
  clear hb3 HV2 HB2 HR2
  cases hsm : tinyV ⟨A, k, c, zs⟩ with
  | false =>
    clear hsm
    go_wp2_with fail
    go_ret
    exact ⟨rfl, HB3.out⟩
  | true =>
    have HTY := Lib.hid (tinyV_iff.1 hsm)
    have HSZ : Hid (∀ s ∈ zs, s.size ≤ maxLen) := Lib.hid fun s hs => Nat.le_trans (HTY.out s hs) (by decide)
    have HT3 := Lib.hid (HT.out.up HB3.out)
    clear hsm
    go_wp2_with fail
    refine (bsum_any A k c zs w3 HR3.out HSZ.out (by omega) HT3.out).mono ?_
    rintro e w4 ⟨rfl, hb4⟩
    have HB4 := Lib.hid (HB3.out.trans (hb4.mono HB3.out.size))
    have HR4 := Lib.hid ((HR3.out.below hb4 (Nat.le_refl _)).more hb4.size)
    have HT4 := Lib.hid (HT.out.up HB4.out)
    clear hb4 HB3 HR3 HT3
    have HLAW := Lib.hid (bsum_law HL8.out HTY.out)
    by_cases h0 : bsE zs = 0
    · obtain ⟨p, q, g1, g2, g3, g4, g5, g6, g7, g8⟩ := bsum_law2 HL8.out HTY.out h0
      obtain ⟨f1, f2, f3, f4, f5, f6, f7, f8⟩ := HLAW.out.2 h0
      have hkl : k = zs.length := HR4.out.1.symm
      have HSUM := Lib.hid (ratsum_any A k c zs w4 HR4.out HSZ.out f1 (by rw [hkl]; exact f3) HT4.out)
      have HDOT : Hid (∀ w', Below w4.heap.size w4 w' → Calls Tryz.prog 22 #[.slice A k c, .slice A k c] w' fun e w'' => Below w'.heap.size w' w'' ∧ e = .returned (.tuple #[.string (rnS (dotR (zs.map qOf) (zs.map qOf))), .int .i64 (rnE (dotR (zs.map qOf) (zs.map qOf)))])) := Lib.hid fun w' hb =>
        mdot_any A k c A k c zs zs w' ((HR4.out.below hb (Nat.le_refl _)).more hb.size) ((HR4.out.below hb (Nat.le_refl _)).more hb.size) HSZ.out HSZ.out f2 f2 rfl (HT4.out.up hb)
      have HDT := Lib.hid f8
      have HDE := Lib.hid f7
      have HF6 := Lib.hid f6
      have HM1 := Lib.hid (txt_max g6)
      have HM2 := Lib.hid (txt_max g8)
      have HM3 := Lib.hid (txt_max g1)
      have HM4 := Lib.hid (txt_max g2)
      have G3 := Lib.hid g3
      have G4 := Lib.hid g4
      rw [h0, g5, g7]
      rw [g5] at HF6 G3
      rw [g7] at HF6 G4 HDT
      clear hkl h0 g3 g4 g5 g7 f1 f2 f3 f4 f5 f6 f7 f8 HLAW
      rw [HDE.out] at HDOT
      clear HDE
      generalize rnS (dotR (zs.map qOf) (zs.map qOf)) = d at *
      generalize txtQ (sumR (zs.map qOf)) = t at *
      generalize txtQ (halfR (zs.map qOf)) = r at *
      go_wp2_with fail
      refine HSUM.out.mono ?_
      rintro e w5 ⟨rfl, hb5⟩
      have HB5 := Lib.hid (HB4.out.trans (hb5.mono HB4.out.size))
      have HD5 := Lib.hid (HDOT.out w5 hb5)
      clear hb5 HSUM HDOT HB4 HR4 HT4
      go_wp2_with fail
      refine HD5.out.mono ?_
      rintro e w6 ⟨hb6, rfl⟩
      have HB6 := Lib.hid (HB5.out.trans (hb6.mono HB5.out.size))
      have HT6 := Lib.hid (HT.out.up HB6.out)
      clear hb6 HD5 HB5
      go_wp2_with fail
      refine (size_any t HM1.out w6 HT6.out).mono ?_
      rintro e w7 ⟨rfl, hb7⟩
      have HB7 := Lib.hid (HB6.out.trans (hb7.mono HB6.out.size))
      have HT7 := Lib.hid (HT.out.up HB7.out)
      clear hb7 HB6 HT6
      go_wp2_with fail
      refine (times_any r ⟨#[50]⟩ HM2.out (by decide) w7 HT7.out).mono ?_
      rintro e w8 ⟨rfl, hb8⟩
      have HB8 := Lib.hid (HB7.out.trans (hb8.mono HB7.out.size))
      have HT8 := Lib.hid (HT.out.up HB8.out)
      clear hb8 HB7 HT7
      rw [G3.out, G4.out]
      rw [G3.out, G4.out] at HF6
      clear G3 G4
      generalize txtQ p = tp at *
      generalize txtQ q = tq at *
      go_wp2_with fail
      refine (cmp_any2 tp tq HM3.out HM4.out w8 HT8.out).mono ?_
      rintro e w9 ⟨rfl, hb9⟩
      have HB9 := Lib.hid (HB8.out.trans (hb9.mono HB8.out.size))
      clear hb9 HB8 HT8
      generalize cmpS tp tq = cz at *
      have hcz := HF6.out
      have hcz2 : decide (cz ≤ 0) = true := decide_eq_true hcz
      by_cases hd : d = ⟨#[48]⟩
      · have hr0 := HDT.out.1 hd
        subst hd
        subst hr0
        go_wp2_with fail
        go_ret
        exact ⟨rfl, HB9.out⟩
      · have hr0 : r ≠ ⟨#[48]⟩ := fun h => hd (HDT.out.2 h)
        have hd2 : ¬ d.toList = [48] := str_ne hd (by rfl)
        have hr2 : ¬ r.toList = [48] := str_ne hr0 (by rfl)
        have HD3 : Hid ((d.toList == [48]) = false) := Lib.hid (by simp [hd2])
        have HR3 : Hid ((r.toList == [48]) = false) := Lib.hid (by simp [hr2])
        clear hd hr0 HDT
        go_wp2_with fail
        go_ret
        exact ⟨by show Ending.returned (.bool ((d.toList == [48]) == (r.toList == [48]))) = _; rw [HD3.out, HR3.out]; rfl, HB9.out⟩
    · obtain ⟨e1, e2⟩ := HLAW.out.1 h0
      rw [e1, e2]
      generalize bsE zs = z at *
      have h0b : (z != 0) = true := by simp [h0]
      clear h0 e1 e2 HLAW
      go_wp2_with fail
      go_ret
      exact ⟨rfl, HB4.out⟩
end Go.Proofs.YtakllkkmofdpaaaGreatDoor
/- The law BalanceParts: the walk. -/
namespace Go.Proofs.YtakllkkmofdpaaaGreatDoor
open Go.ChangeShapes Go.WideShapes Go.ChangeAt Go.RowKit
set_option linter.unusedVariables false
set_option linter.unusedSimpArgs false
attribute [local go_sem ↓] execOp_call_val
attribute [local go_sem] callVal_func setCell_drewN alloc_drewN sEq_walk NetH.cells

theorem ct_any (ss : List ByteArray) (z : ByteArray) : ss.any (fun x => sEq x z) = ct ss z := by
  unfold ct
  congr 1
  funext x
  rw [Bool.eq_iff_iff, sEq_iff, sEq_iff]
  exact ⟨fun h => h.symm, fun h => h.symm⟩
theorem info_str0 : (Tryz.prog.info? 9).map (fun i => (i.zero, i.size, i.bytes)) = some (some (.string ⟨#[]⟩), 1, 16) := by kernel_rfl
theorem rdStr_ownS {w : World} {base : Nat} {v : Value} {zs : List ByteArray} (h : w.ownsRow base 9 1 v zs.length (strsV zs)) : ∃ A c, v = .slice A zs.length c ∧ RdStr w w.heap.size A zs.length zs ∧ zs.length ≤ c ∧ c ≤ maxLen := by
  obtain ⟨A, c, hv, hr, h1, h2, -⟩ := own_rd h
  exact ⟨A, c, hv, ⟨rfl, hr⟩, h1, h2⟩
theorem restR_take {x : Net} {part : List ByteArray} {k : Nat} {s : ByteArray} (h : x.nodes[k]? = some s) : ((x.nodes.take (k + 1)).filter fun s => !ct part s) = ((x.nodes.take k).filter fun s => !ct part s) ++ (if ct part s then [] else [s]) := by
  rw [take_snoc h, List.filter_append]
  cases hc : ct part s <;> simp [hc]
theorem enT_len {x : Net} {part fl : List ByteArray} (h : enE x part fl = 0) : enT x (restR x part) fl = (enR x part fl).map (fun q => txtQ (-q)) ∧ enT x part fl = (enR x part fl).map txtQ := by
  obtain ⟨h1, h2, -, -⟩ := parts_law h
  unfold enT
  rw [if_pos h, if_pos h1, h2, List.map_map]
  exact ⟨rfl, rfl⟩
set_option maxRecDepth 100000 in
set_option maxHeartbeats 4000000 in
theorem bparts_any (h : NetH) (x : Net) (A : Option Addr) (n c : Nat) (part : List ByteArray) (F : Option Addr) (f fc : Nat) (fl : List ByteArray) (w : World) (r : RdNet w w.heap.size h x) (hp : RdStr w w.heap.size A n part) (hf : RdStr w w.heap.size F f fl) (hfs : ∀ s ∈ fl, s.size ≤ maxLen) (hn : n ≤ 9223372036854775807) (hnc : n ≤ c) (hc : c ≤ 9223372036854775807) (hfn : f ≤ 9223372036854775807) (ht : TabOk w) :
    Calls Tryz.prog 4 #[.agg h.cells, .slice A n c, .slice F f fc] w fun e w' => e = .returned (.bool true) ∧ Below w.heap.size w w' := by
  have K0 : Below w.heap.size w (w.alloc (.cells h.cells 33)) := (Below.refl _ _).alloc (Nat.le_refl _) _
  have HK := Lib.hid K0
  have HX := Lib.hid (Blk.new w 33 h.cells)
  have HRN := Lib.hid r
  have HP := Lib.hid hp
  have HF := Lib.hid hf
  have HFS := Lib.hid hfs
  have HT := Lib.hid ht
  have HL0 : Hid (x.nodes.length = h.n0) := Lib.hid r.r0.1
  have bm0 : h.n0 ≤ 9223372036854775807 := r.m0
  obtain ⟨i0, hi0, hz0, hz1, hz2⟩ := info_parts info_str0
  have HI0 := Lib.hid hi0
  have HI1 := Lib.hid hz0
  have HI2 := Lib.hid hz1
  have HI3 := Lib.hid hz2
  clear K0 r hp hf hfs ht hi0 hz0 hz1 hz2
  obtain ⟨A0, m0, c0, A1, m1, c1, A2, m2, c2, A3, m3, c3, A4, m4, c4, A5, m5, c5⟩ := h
  simp only [NetH.cells] at HK HX HL0 bm0 ⊢
  go_enter Tryz.func4, Tryz.ntmps4
  go_wp2_with fail
  generalize w.alloc (.cells #[.slice A0 m0 c0, .slice A1 m1 c1, .slice A2 m2 c2, .slice A3 m3 c3, .slice A4 m4 c4, .slice A5 m5 c5] 33) = W at *
  refine (bworks_any W (HT.out.up HK.out)).mono ?_
  rintro e w1 ⟨rfl, hb1⟩
  have HB1 := Lib.hid (HK.out.trans (hb1.mono HK.out.size))
  have HX1 := Lib.hid (HX.out.below hb1 HX.out.lt)
  clear hb1 HK HX
  have y0 := HX1.out.cell 0
  have y1 := HX1.out.cell 1
  have y2 := HX1.out.cell 2
  have y3 := HX1.out.cell 3
  have y4 := HX1.out.cell 4
  have y5 := HX1.out.cell 5
  have yl := HX1.out.lt
  have HEN : Hid (∀ (w' : World) (B : Option Addr) (m d : Nat) (q : List ByteArray), Below w.heap.size w w' → RdStr w' w'.heap.size B m q → m ≤ d → d ≤ 9223372036854775807 → Calls Tryz.prog 18 #[.agg #[.slice A0 m0 c0, .slice A1 m1 c1, .slice A2 m2 c2, .slice A3 m3 c3, .slice A4 m4 c4, .slice A5 m5 c5], .slice B m d, .slice F f fc] w' (EtP x q fl w')) := Lib.hid fun w' B m d q hb hq h1 h2 =>
    entering_any ⟨A0, m0, c0, A1, m1, c1, A2, m2, c2, A3, m3, c3, A4, m4, c4, A5, m5, c5⟩ x B m d q F f fc fl w' (HRN.out.up hb) hq ((HF.out.below hb (Nat.le_refl _)).more hb.size) HFS.out (by omega) h1 h2 hfn (HT.out.up hb)
  go_wp2_with fail
  refine (HEN.out w1 A n c part HB1.out ((HP.out.below HB1.out (Nat.le_refl _)).more HB1.out.size) hnc hc).mono ?_
  clear y0 y1 y2 y3 y4 y5 yl
  rintro e w2 ⟨hb2, B2, n2, d2, rfl, h2, h2a, h2b⟩
  have HB2 := Lib.hid (HB1.out.trans (hb2.mono HB1.out.size))
  have HX2 := Lib.hid (HX1.out.below hb2 HX1.out.lt)
  have HV2 := Lib.hid h2
  have HN2 := Lib.hid h2.1
  clear hb2 h2 HX1 HB1
  by_cases h0 : enE x part fl = 0
  · have H0 := Lib.hid h0
    rw [h0]
    clear h0
    have y0 := HX2.out.cell 0
    have yl := HX2.out.lt
    go_wp2_with fail
    clear y0 yl
    go_loopw [9, 32] (fun v9 v32 wr => ∃ (k : Nat) (zs : List ByteArray), k ≤ m0 ∧ v32 = .int .i64 k ∧ zs = ((x.nodes.take k).filter fun s => !ct part s) ∧ wr.ownsRow w2.heap.size 9 1 v9 zs.length (strsV zs) ∧ Below w2.heap.size w2 wr) (fun _ v32 _ => m0 - (intOf v32).toNat)
    case atStart => exact ⟨0, [], by omega, rfl, rfl, own_none _ _ _ _, Below.refl _ _⟩
    case round =>
      obtain ⟨k, zs, hk, rfl, hzs, how, hb⟩ := hrel
      have HZS := Lib.hid hzs
      have HO := Lib.hid how
      have HB := Lib.hid hb
      have HBW := Lib.hid (HB2.out.trans (hb.mono HB2.out.size))
      clear hzs how hb
      by_cases hlt : k < m0
      · obtain ⟨s, hs⟩ : ∃ s, x.nodes[k]? = some s := ⟨_, List.getElem?_eq_getElem (by have := HL0.out; omega)⟩
        have HRW := Lib.hid (HRN.out.up HBW.out)
        obtain ⟨b, off, hA, hb⟩ := HRW.out.r0.form (show 0 < m0 by omega)
        simp only at hA
        subst hA
        have hcs := HRW.out.r0.at_ hs
        have hkI : (k : Int) < (m0 : Int) := by omega
        have HN1 : Hid ((k : Int) + 1 = ((k + 1 : Nat) : Int)) := Lib.hid (by omega)
        have HN3 : Hid (m0 - (k + 1) < m0 - k) := Lib.hid (by omega)
        have HTK := Lib.hid (restR_take (part := part) hs)
        have HZL : Hid (zs.length ≤ k) := Lib.hid (by rw [HZS.out]; refine Nat.le_trans (List.length_filter_le _ _) ?_; rw [List.length_take]; omega)
        have hm024 : m0 ≤ 1000000 := by
          have h1 := (enE_parts H0.out).1
          have := (netCk_ok (bdE_net h1).1).l0
          have := HL0.out
          omega
        clear hs
        go_wp2_with fail
        refine (hastext_any A n c part s wr ((HP.out.below HBW.out (Nat.le_refl _)).more HBW.out.size) hn).mono ?_
        rintro e w3 ⟨he, hb3⟩
        rw [ct_any] at he
        have HB3 := Lib.hid (HB.out.trans (hb3.mono HB.out.size))
        have HO3 := Lib.hid (own_keep HO.out hb3)
        have HSZ : Hid (w2.heap.size ≤ w3.heap.size) := Lib.hid HB3.out.size
        clear hb3 hcs hb HRW HBW HB HO
        obtain ⟨cb, hcb⟩ : ∃ cb, ct part s = cb := ⟨_, rfl⟩
        rw [hcb] at he HTK
        subst he
        clear hcb
        cases cb with
        | true =>
          have HTK2 : Hid (zs = (x.nodes.take (k + 1)).filter fun s => !ct part s) := Lib.hid (by rw [HTK.out, ← HZS.out]; simp)
          clear HTK HZS
          go_wp2_with fail
          go_roundw
          case rel => exact ⟨k + 1, zs, hlt, val_int HN1.out, HTK2.out, HO3.out, HB3.out⟩
          case measure => exact HN3.out
        | false =>
          have HTK2 : Hid (zs ++ [s] = (x.nodes.take (k + 1)).filter fun s => !ct part s) := Lib.hid (by rw [HTK.out, ← HZS.out]; simp)
          clear HTK HZS
          have hbase := HSZ.out
          go_wp2_with (at_builtin; refine wpList_app1 rfl (.tmp 40) (.tmp 42) _ rfl w2.heap.size 9 i0 _ 1 16 Tryz.underlying26 HI0.out HI1.out HI2.out HI3.out rfl (by omega) u9 zs.length (strsV zs) rfl HO3.out rfl rfl ?k1 ?k2 ?k3 hbase ?_)
          case k1 => simp [Value.oneCell']
          case k2 => have := HZL.out; simp only [maxLen]; omega
          case k3 => have := HZL.out; omega
          intro v' w6 hown6 hb6 hg6
          have HO6 : Hid (w6.ownsRow w2.heap.size 9 1 v' (zs ++ [s]).length (strsV (zs ++ [s]))) := Lib.hid (by rw [List.length_append, List.length_singleton]; simpa [strsV] using hown6)
          have HB6 := Lib.hid (HB3.out.trans hb6)
          clear hown6 hb6 hg6 hbase
          go_wp2_with fail
          go_roundw
          case rel => exact ⟨k + 1, zs ++ [s], hlt, val_int HN1.out, HTK2.out, HO6.out, HB6.out⟩
          case measure => exact HN3.out
      · have hke : k = m0 := by omega
        subst hke
        have hkI : ¬ (k : Int) < (k : Int) := by omega
        have HZR : Hid (zs = restR x part) := Lib.hid (by rw [HZS.out, List.take_of_length_le (by have := HL0.out; omega)]; rfl)
        obtain ⟨B3, d3, hv, hrd, h3a, h3b⟩ := rdStr_ownS HO.out
        subst hv
        have HRD := Lib.hid hrd
        have HX3 := Lib.hid (HX2.out.below HB.out HX2.out.lt)
        clear hrd HO HZS
        have HENT := Lib.hid (enT_len H0.out)
        have HEZ := Lib.hid (parts_law H0.out).1
        have HV3 := Lib.hid ((HV2.out.below HB.out (Nat.le_refl _)).more HB.out.size)
        have hd3 : d3 ≤ 9223372036854775807 := by simp only [maxLen] at h3b; omega
        have HCALL := Lib.hid (HEN.out wr B3 zs.length d3 zs HBW.out HRD.out h3a hd3)
        rw [HZR.out] at HCALL
        generalize hzl : (restR x part).length = zl at *
        have HZL := Lib.hid hzl
        have hzl2 : zs.length = zl := by rw [HZR.out]; exact hzl
        rw [hzl2] at h3a ⊢
        have y0 := HX3.out.cell 0
        have y1 := HX3.out.cell 1
        have y2 := HX3.out.cell 2
        have y3 := HX3.out.cell 3
        have y4 := HX3.out.cell 4
        have y5 := HX3.out.cell 5
        have yl := HX3.out.lt
        clear hzl hzl2 HEN HRD HZR HB HV2 HX2
        go_wp2_with fail
        refine HCALL.out.mono ?_
        clear y0 y1 y2 y3 y4 y5 yl HCALL HX3
        rintro e w4 ⟨hb4, B4, n4, d4, rfl, h4, h4a, h4b⟩
        have HB4 := Lib.hid (HBW.out.trans (hb4.mono HBW.out.size))
        have HV4 := Lib.hid ((HV3.out.below hb4 (Nat.le_refl _)).more hb4.size)
        have HW4 := Lib.hid h4
        have hn4 : n4 = n2 := by
          have a1 := h4.1
          have a2 := HV3.out.1
          rw [HENT.out.1, List.length_map] at a1
          rw [HENT.out.2, List.length_map] at a2
          omega
        subst hn4
        rw [HEZ.out]
        rw [HENT.out.1] at HW4
        rw [HENT.out.2] at HV4
        have HQL : Hid ((enR x part fl).length = n4) := Lib.hid (by have := HV4.out.1; rwa [List.length_map] at this)
        have HQF := Lib.hid (enR_fits H0.out)
        have hn4b : n4 ≤ 9223372036854775807 := by simp only [maxLen] at h4b; omega
        clear hb4 h4 HV3 HBW
        go_wp2_with fail
        go_loopw [63] (fun v63 wr => ∃ k : Nat, k ≤ n4 ∧ v63 = .int .i64 k ∧ Below w4.heap.size w4 wr) (fun v63 _ => n4 - (intOf v63).toNat)
        case atStart => exact ⟨0, by omega, rfl, Below.refl _ _⟩
        case round =>
          obtain ⟨k, hk, rfl, hb⟩ := hrel
          have HB := Lib.hid hb
          have HBW := Lib.hid (HB4.out.trans (hb.mono HB4.out.size))
          clear hb
          by_cases hlt : k < n4
          · obtain ⟨q, hq⟩ : ∃ q, (enR x part fl)[k]? = some q := ⟨_, List.getElem?_eq_getElem (by have := HQL.out; omega)⟩
            have hqf := HQF.out q (List.mem_of_getElem? hq)
            have hR1 := HV4.out.below HB.out (Nat.le_refl _)
            have hR2 := HW4.out.below HB.out (Nat.le_refl _)
            obtain ⟨b1, o1, hA, hb1⟩ := hR1.form (by omega)
            subst hA
            obtain ⟨b2, o2, hA, hb2⟩ := hR2.form (by omega)
            subst hA
            have p1 := hR1.at_ (i := k) (x := txtQ q) (by rw [List.getElem?_map, hq]; rfl)
            have p2 := hR2.at_ (i := k) (x := txtQ (-q)) (by rw [List.getElem?_map, hq]; rfl)
            have hl1 : b1 < wr.heap.size := Nat.lt_of_lt_of_le hb1 HB.out.size
            have hl2 : b2 < wr.heap.size := Nat.lt_of_lt_of_le hb2 HB.out.size
            have HPZ := Lib.hid (parts_zero hqf)
            have HM1 := Lib.hid (txt_max hqf)
            have HM2 := Lib.hid (txt_max (fits_neg hqf))
            have hkI : (k : Int) < (n4 : Int) := by omega
            have hk0 : (0 : Int) ≤ (k : Int) := by omega
            have hkn : (k : Int).toNat = k := Int.toNat_natCast k
            have HN1 : Hid ((k : Int) + 1 = ((k + 1 : Nat) : Int)) := Lib.hid (by omega)
            have HN3 : Hid (n4 - (k + 1) < n4 - k) := Lib.hid (by omega)
            have HTW := Lib.hid (HT.out.up HBW.out)
            clear hq hqf hR1 hR2 hb1 hb2
            generalize txtQ q = ta at *
            generalize txtQ (-q) = tb at *
            go_upto_region 19 with fail
            refine wp_region_last (S := fun w' => Below wr.heap.size wr w') 9 _ (by kernel_rfl) (by kernel_rfl) rfl (below_drew (Below.refl _ _)) (fun hHeld => ?_)
            simp only [List.take_succ_cons, List.take_zero]
            refine takeH 0 (v := ?_) rfl (by kernel_rfl) (fun _ _ _ h => h) (by rfl) ?_ hHeld ?_
            rotate_left 1
            · intro w' hSw; obtain ⟨hcc, -⟩ := bcellW hSw; go_simp <;> with_reducible rfl
            try simp only [Act.put, List.setIfInBounds_toArray, List.set_cons_zero, List.set_cons_succ]
            refine takeH 1 (v := ?_) rfl (by kernel_rfl) (fun _ _ _ h => h) (by rfl) ?_ hHeld ?_
            rotate_left 1
            · intro w' hSw; obtain ⟨hcc, -⟩ := bcellW hSw; go_simp <;> with_reducible rfl
            try simp only [Act.put, List.setIfInBounds_toArray, List.set_cons_zero, List.set_cons_succ]
            refine takeH 2 (v := ?_) rfl (by kernel_rfl) (fun _ _ _ h => h) (by rfl) ?_ hHeld ?_
            rotate_left 1
            · intro w' hSw; obtain ⟨hcc, -⟩ := bcellW hSw; go_simp <;> with_reducible rfl
            try simp only [Act.put, List.setIfInBounds_toArray, List.set_cons_zero, List.set_cons_succ]
            refine takeH 3 (v := ?_) rfl (by kernel_rfl) (fun _ _ _ h => h) (by rfl) ?_ hHeld ?_
            rotate_left 1
            · intro w' hSw; obtain ⟨hcc, -⟩ := bcellW hSw; go_simp <;> with_reducible rfl
            try simp only [Act.put, List.setIfInBounds_toArray, List.set_cons_zero, List.set_cons_succ]
            refine takeH 4 (v := ?_) rfl (by kernel_rfl) (fun _ _ _ h => h) (by rfl) ?_ hHeld ?_
            rotate_left 1
            · intro w' hSw; obtain ⟨hcc, -⟩ := bcellW hSw; go_simp <;> with_reducible rfl
            try simp only [Act.put, List.setIfInBounds_toArray, List.set_cons_zero, List.set_cons_succ]
            refine takeH 5 (v := ?_) rfl (by kernel_rfl) (fun _ _ _ h => h) (by rfl) ?_ hHeld ?_
            rotate_left 1
            · intro w' hSw; obtain ⟨hcc, -⟩ := bcellW hSw; go_simp <;> with_reducible rfl
            try simp only [Act.put, List.setIfInBounds_toArray, List.set_cons_zero, List.set_cons_succ]
            refine takeH 6 (v := ?_) rfl (by kernel_rfl) (fun _ _ _ h => h) (by rfl) ?_ hHeld ?_
            rotate_left 1
            · intro w' hSw; obtain ⟨hcc, -⟩ := bcellW hSw; go_simp <;> with_reducible rfl
            try simp only [Act.put, List.setIfInBounds_toArray, List.set_cons_zero, List.set_cons_succ]
            refine takeH 7 (v := ?_) rfl (by kernel_rfl) (fun _ _ _ h => h) (by rfl) ?_ hHeld ?_
            rotate_left 1
            · intro w' hSw; obtain ⟨hcc, -⟩ := bcellW hSw; go_simp <;> with_reducible rfl
            try simp only [Act.put, List.setIfInBounds_toArray, List.set_cons_zero, List.set_cons_succ]
            refine stepH 8 (by kernel_rfl) rfl (fun K hK => ?_)
            go_simp
            refine (plus_any ta tb HM1.out HM2.out wr.drew (HTW.out.up (below_drew (Below.refl _ _)))).mono ?_
            rintro e w5 ⟨rfl, hb5⟩
            rw [HPZ.out]
            have HB5 : Hid (Below wr.heap.size wr w5) := Lib.hid ((below_drew (Below.refl wr.heap.size wr)).trans hb5)
            clear hb5
            go_simp
            refine hK.out _ _ ?_ (fun hHeld => ?_)
            · exact HB5.out
            clear hK K
            try simp only [Act.put, List.setIfInBounds_toArray, List.set_cons_zero, List.set_cons_succ]
            refine wpAnyH_done (by kernel_rfl) ?_ _
            refine lastQ_go (by rfl) ?_
            have HB6 := Lib.hid (HB.out.trans (HB5.out.mono HB.out.size))
            go_wp2_with fail
            go_roundw
            case rel => exact ⟨k + 1, hlt, val_int HN1.out, HB6.out⟩
            case measure => exact HN3.out
          · have hke : k = n4 := by omega
            subst hke
            have hkI : ¬ (k : Int) < (k : Int) := by omega
            go_wp2_with fail
            go_ret
            exact ⟨rfl, HBW.out⟩
  · have HE : Hid (enT x part fl = []) := Lib.hid (by unfold enT; rw [if_neg h0])
    have hn2 : n2 = 0 := by have := HN2.out; rw [HE.out] at this; exact this.symm
    subst hn2
    generalize enE x part fl = z at *
    have h0b : (z != 0) = true := by simp [h0]
    clear h0
    go_wp2_with fail
    go_ret
    exact ⟨rfl, HB2.out⟩
end Go.Proofs.YtakllkkmofdpaaaGreatDoor
