import Derived.Test.YtakllkkmofdpaaaGreatDoorU10
import Derived.Test.YtakllkkmofdpaaaGreatDoorU13
set_option linter.unusedVariables false
set_option linter.unusedSimpArgs false
namespace Go.Proofs.YtakllkkmofdpaaaGreatDoor
section
open Go.ChangeShapes Go.WideShapes Go.ChangeAt Go.RowKit
attribute [local go_sem ↓] execOp_call_val
attribute [local go_sem] callVal_func setCell_drewN alloc_drewN
theorem hp_minus (l : List UInt8) : Lib.hasPrefix (45 :: l) [45] = true := by simp [Lib.hasPrefix]
theorem tp_minus (l : List UInt8) : Lib.trimPrefix (45 :: l) [45] = l := by unfold Lib.trimPrefix; rw [if_pos (hp_minus l)]; rfl
theorem hp_dg {l : List UInt8} (h : AllDg l) : Lib.hasPrefix l [45] = false := by
 cases l with
 | nil => rfl
 | cons c r =>
  have hc := (h c (List.mem_cons_self ..)).1
  have : ((45 : UInt8) == c) = false := by
   cases hb : ((45 : UInt8) == c) with
   | false => rfl
   | true => have := eq_of_beq hb; subst this; exact absurd hc (by decide)
  simp [Lib.hasPrefix, List.isPrefixOf, this]
theorem tp_dg {l : List UInt8} (h : AllDg l) : Lib.trimPrefix l [45] = l := by unfold Lib.trimPrefix; rw [hp_dg h]; rfl
theorem ext_take (l : List UInt8) (n : Nat) (h : n ≤ l.length) : (⟨l.toArray⟩ : ByteArray).extract 0 n = ⟨(l.take n).toArray⟩ := by
 apply ByteArray.ext
 rw [ByteArray.data_extract]
 simp
theorem ext_drop (l : List UInt8) (n : Nat) : (⟨l.toArray⟩ : ByteArray).extract n l.length = ⟨(l.drop n).toArray⟩ := by
 apply ByteArray.ext
 rw [ByteArray.data_extract]
 apply Array.ext'
 simp
 exact List.take_of_length_le (by simp)
def rdZ (neg : Bool) (l : List UInt8) : Int := if neg then -(dv l : Int) else dv l
def rdT (neg : Bool) (l : List UInt8) : ByteArray := ⟨((if neg then [45] else []) ++ l).toArray⟩
theorem lg_zero (w : World) (B : Nat) : LgIs w B 0 false none 0 0 := ⟨by simp, by rw [Int.natAbs_zero, dlen_zero], by rw [Int.natAbs_zero, dig_zero]; exact rdW_nil _ _ _, Nat.le_refl _, by decide⟩
theorem lg_sign {w : World} {B v : Nat} {A : Option Addr} {n c : Nat} (h : LgIs w B (v : Int) false A n c) (m : Bool) : LgIs w B (sgn m v) (m && decide (0 < n)) A n c := by
 have hn : n = dlen v := by rw [h.en, Int.natAbs_natCast]
 refine ⟨?_, by rw [sgn_abs]; exact hn, by rw [sgn_abs]; have := h.rd; rwa [Int.natAbs_natCast] at this, h.nc, h.cm⟩
 rw [sgn_neg]
 congr 1
 refine decide_eq_decide.2 ?_
 rw [hn]
 by_cases h0 : v = 0
 ·subst h0; rw [dlen_zero]
 ·rw [dlen_pos h0]; omega
theorem str_to (l : List UInt8) (k : Nat) (h : k ≤ l.length) (W : World) : (Instr.sliceAt 9 (.string ⟨l.toArray⟩) none (some (.int .i64 (k : Int))) none).run Tryz.prog W = .ok (.string ⟨(l.take k).toArray⟩) W := by
 rw [run_sliceAt_string W 9 _ _ _ _ Tryz.underlying9, run_slice_string_h W 9 _ Tryz.underlying9 .i64 (k : Int) (by omega) (by rw [sz_arr]; omega), Int.toNat_natCast, ext_take l k h]
theorem str_from (l : List UInt8) (k : Nat) (h : k ≤ l.length) (W : World) : (Instr.sliceAt 9 (.string ⟨l.toArray⟩) (some (.int .i64 (k : Int))) none none).run Tryz.prog W = .ok (.string ⟨(l.drop k).toArray⟩) W := by
 rw [run_sliceAt_string W 9 _ _ _ _ Tryz.underlying9, run_slice_string_l W 9 _ Tryz.underlying9 .i64 (k : Int) (by omega) (by rw [sz_arr]; omega), Int.toNat_natCast, sz_arr, ext_drop l k]
def RdI1 (g2 g4 : Nat) (l : List UInt8) (w wr : World) (k : Nat) (v0 : Value) : Prop := ∃ (dn rs : List UInt8) (A : Option Addr) (n c : Nat), v0 = .string ⟨rs.toArray⟩ ∧ l = dn ++ rs ∧ k = rs.length ∧ (dn = [] ∨ rs.length % 9 = 0) ∧ Below w.heap.size w wr ∧ Blk wr g2 91 #[.bool false, .slice none 0 0] ∧ Blk wr g4 91 #[.bool false, .slice A n c] ∧ LgIs wr wr.heap.size (dv dn : Int) false A n c
set_option maxRecDepth 100000 in
set_option maxHeartbeats 2000000 in
theorem read_any (neg : Bool) (l : List UInt8) (hd : AllDg l) (hl : l.length ≤ 1000000) (w : World) :
    Calls Tryz.prog 126 #[.string (rdT neg l)] w (LgP (rdZ neg l) w) := by
 have HP : Hid (Lib.hasPrefix (rdT neg l).data.toList [45] = neg) := Lib.hid (by cases neg; exact hp_dg hd; exact hp_minus l)
 have HT : Hid (Lib.trimPrefix (rdT neg l).data.toList [45] = l) := Lib.hid (by cases neg; exact tp_dg hd; exact tp_minus l)
 have HD := Lib.hid hd
 have HB0 : Hid (Below w.heap.size w ((w.alloc (.cells #[.bool false, .slice none 0 0] 91)).alloc (.cells #[.bool false, .slice none 0 0] 91))) := Lib.hid (((Below.refl _ _).alloc (Nat.le_refl _) _).alloc (by simp) _)
 have HX1 : Hid (Blk ((w.alloc (.cells #[.bool false, .slice none 0 0] 91)).alloc (.cells #[.bool false, .slice none 0 0] 91)) w.heap.size 91 #[.bool false, .slice none 0 0]) := Lib.hid ((Blk.new w _ _).alloc _)
 have HX2 : Hid (Blk ((w.alloc (.cells #[.bool false, .slice none 0 0] 91)).alloc (.cells #[.bool false, .slice none 0 0] 91)) (w.heap.size + 1) 91 #[.bool false, .slice none 0 0]) := Lib.hid (Blk.new_ (by simp))
 generalize rdT neg l = s at *
 clear hd
 go_enter Tryz.func126, Tryz.ntmps126
 go_wp2_with fail
 refine (Tryz.strings_HasPrefix s ⟨#[45]⟩ _).mono ?_
 rintro e w1 ⟨he, hw⟩
 subst hw
 rw [show (⟨#[45]⟩ : ByteArray).data.toList = [45] from rfl, HP.out] at he
 subst he
 go_wp2_with fail
 refine (Tryz.strings_TrimPrefix s ⟨#[45]⟩ _).mono ?_
 rintro e w1 ⟨he, hw⟩
 subst hw
 rw [show (⟨#[45]⟩ : ByteArray).data.toList = [45] from rfl, HT.out] at he
 subst he
 go_wp2_with fail
 generalize ((w.alloc (.cells #[.bool false, .slice none 0 0] 91)).alloc (.cells #[.bool false, .slice none 0 0] 91)) = W at *
 obtain ⟨g4, hg4⟩ : ∃ g, w.heap.size + 1 = g := ⟨_, rfl⟩
 rw [hg4] at HX2
 have HG4 := Lib.hid hg4
 rw [hg4]
 clear hg4
 have hne24 : w.heap.size ≠ g4 := by have := HG4.out; omega
 have hg4l : w.heap.size ≤ g4 := by have := HG4.out; omega
 go_loopg [0] l.length (fun k v0 wr => RdI1 w.heap.size g4 l w wr k v0)
 case atStart => exact ⟨[], l, none, 0, 0, rfl, rfl, rfl, .inl rfl, HB0.out, HX1.out, HX2.out, lg_zero _ _⟩
 case round =>
  clear HB0 HX1 HX2 HP HT
  obtain ⟨dn, rs, A, n, c, rfl, hlr, hgk, hmd, hbr, hp2, hp4, ha⟩ := hrel
  have HLR := Lib.hid hlr
  have HGK := Lib.hid hgk
  have HMD := Lib.hid hmd
  have HBR := Lib.hid hbr
  have HP2 := Lib.hid hp2
  have HP4 := Lib.hid hp4
  have HA := Lib.hid ha
  have HAN : Hid (n = dlen (dv dn)) := Lib.hid (by rw [ha.en, Int.natAbs_natCast])
  have HSR : Hid ((⟨rs.toArray⟩ : ByteArray).size = rs.length) := Lib.hid (sz_arr rs)
  clear hlr hgk hmd hbr hp2 hp4 ha
  by_cases hrs : rs.length = 0
  ·have hs0 : (⟨rs.toArray⟩ : ByteArray).size = 0 := by rw [HSR.out, hrs]
   have hdn : dn = l := by rw [HLR.out, List.eq_nil_of_length_eq_zero hrs, List.append_nil]
   rw [hdn] at HA HAN
   clear hdn hrs
   have z0 := HP4.out.cell 0
   have z1 := HP4.out.cell 1
   have zf := HP4.out.frozen
   have zl := HP4.out.lt
   have HEND : Hid (∀ b, b = (neg && decide (0 < n)) → LgIs (wr.setCell ⟨g4, 0, none⟩ (.bool b)) (wr.setCell ⟨g4, 0, none⟩ (.bool b)).heap.size (rdZ neg l) b A n c) := Lib.hid fun b hb => by
    rw [hb]
    exact (lg_sign HA.out neg).keep (HP4.out.cell 0) (by simp) _
   have HPX : Hid (∀ b, Blk (wr.setCell ⟨g4, 0, none⟩ (.bool b)) g4 91 #[.bool b, .slice A n c] ∧ Blk (wr.setCell ⟨g4, 0, none⟩ (.bool b)) w.heap.size 91 #[.bool false, .slice none 0 0] ∧ Below w.heap.size w (wr.setCell ⟨g4, 0, none⟩ (.bool b))) := Lib.hid fun b => ⟨HP4.out.set_at (i := 0) (.bool b) (by simp), HP2.out.far hne24 _, HBR.out.setCell hg4l _⟩
   have hgs : w.heap.size ≤ w.heap.size := Nat.le_refl _
   have hc3 : neg = false ∨ (neg = true ∧ n = 0) ∨ (neg = true ∧ 0 < n) := by cases neg <;> simp <;> omega
   rcases hc3 with rfl | ⟨rfl, rfl⟩ | ⟨rfl, hn0⟩
   ·have hq0 := hs0
    go_upto_region 10 with fail
    clear z0 z1 zf zl
    obtain ⟨hx1, hx2, hx3⟩ := HPX.out false
    have hx4 := HEND.out false rfl
    have HX1 := Lib.hid hx1
    have HX2 := Lib.hid hx2
    have HX3 := Lib.hid hx3
    have HX4 := Lib.hid hx4
    clear hx1 hx2 hx3 hx4 HEND HPX
    generalize wr.setCell ⟨g4, 0, none⟩ (.bool false) = V at *
    have y0 := HX1.out.cell 0
    have y1 := HX1.out.cell 1
    have yl := HX1.out.lt
    have z0 := HX2.out.cell 0
    have z1 := HX2.out.cell 1
    have zf := HX2.out.frozen
    have zl := HX2.out.lt
    go_wp2_with fail
    generalize hW9 : (V.setCell ⟨_, 0, none⟩ _).setCell ⟨_, 1, none⟩ _ = W9
    have HP9 := Lib.hid (lg_put (e := .returned (.agg #[.bool false, .slice A n c])) HX3.out hgs HX2.out (by simp) (by simp) HX4.out rfl)
    rw [hW9] at HP9
    have HB9 : Hid (Blk W9 _ 91 #[.bool false, .slice A n c]) := Lib.hid (by rw [← hW9]; exact blk_set2 HX2.out)
    clear hW9 z0 z1 zf zl
    have q0 := HB9.out.cell 0
    have q1 := HB9.out.cell 1
    exact bodyPost_ret (v := .agg #[.bool false, .slice A n c]) (by simp [results, Tryz.results126, go_sem, q0, q1]) rfl HP9.out
   ·have h00 := hs0
    go_upto_region 10 with fail
    clear z0 z1 zf zl
    obtain ⟨hx1, hx2, hx3⟩ := HPX.out false
    have hx4 := HEND.out false (by simp)
    have HX1 := Lib.hid hx1
    have HX2 := Lib.hid hx2
    have HX3 := Lib.hid hx3
    have HX4 := Lib.hid hx4
    clear hx1 hx2 hx3 hx4 HEND HPX
    generalize wr.setCell ⟨g4, 0, none⟩ (.bool false) = V at *
    have y0 := HX1.out.cell 0
    have y1 := HX1.out.cell 1
    have yl := HX1.out.lt
    have z0 := HX2.out.cell 0
    have z1 := HX2.out.cell 1
    have zf := HX2.out.frozen
    have zl := HX2.out.lt
    go_wp2_with fail
    generalize hW9 : (V.setCell ⟨_, 0, none⟩ _).setCell ⟨_, 1, none⟩ _ = W9
    have HP9 := Lib.hid (lg_put (e := .returned (.agg #[.bool false, .slice A 0 c])) HX3.out hgs HX2.out (by simp) (by simp) HX4.out rfl)
    rw [hW9] at HP9
    have HB9 : Hid (Blk W9 _ 91 #[.bool false, .slice A 0 c]) := Lib.hid (by rw [← hW9]; exact blk_set2 HX2.out)
    clear hW9 z0 z1 zf zl
    have q0 := HB9.out.cell 0
    have q1 := HB9.out.cell 1
    exact bodyPost_ret (v := .agg #[.bool false, .slice A 0 c]) (by simp [results, Tryz.results126, go_sem, q0, q1]) rfl HP9.out
   ·have hn0I : (0 : Int) < (n : Int) := by omega
    go_upto_region 10 with fail
    clear z0 z1 zf zl
    obtain ⟨hx1, hx2, hx3⟩ := HPX.out true
    have hx4 := HEND.out true (by simp [hn0])
    have HX1 := Lib.hid hx1
    have HX2 := Lib.hid hx2
    have HX3 := Lib.hid hx3
    have HX4 := Lib.hid hx4
    clear hx1 hx2 hx3 hx4 HEND HPX
    generalize wr.setCell ⟨g4, 0, none⟩ (.bool true) = V at *
    have y0 := HX1.out.cell 0
    have y1 := HX1.out.cell 1
    have yl := HX1.out.lt
    have z0 := HX2.out.cell 0
    have z1 := HX2.out.cell 1
    have zf := HX2.out.frozen
    have zl := HX2.out.lt
    go_wp2_with fail
    generalize hW9 : (V.setCell ⟨_, 0, none⟩ _).setCell ⟨_, 1, none⟩ _ = W9
    have HP9 := Lib.hid (lg_put (e := .returned (.agg #[.bool true, .slice A n c])) HX3.out hgs HX2.out (by simp) (by simp) HX4.out rfl)
    rw [hW9] at HP9
    have HB9 : Hid (Blk W9 _ 91 #[.bool true, .slice A n c]) := Lib.hid (by rw [← hW9]; exact blk_set2 HX2.out)
    clear hW9 z0 z1 zf zl
    have q0 := HB9.out.cell 0
    have q1 := HB9.out.cell 1
    exact bodyPost_ret (v := .agg #[.bool true, .slice A n c]) (by simp [results, Tryz.results126, go_sem, q0, q1]) rfl HP9.out
  ·have hs0 : (0 : Int) < ((⟨rs.toArray⟩ : ByteArray).size : Int) := by rw [HSR.out]; omega
   obtain ⟨L, hL⟩ : ∃ L, rs.length = L := ⟨_, rfl⟩
   rw [hL] at hrs HSR HMD HGK
   have HLL := Lib.hid hL
   obtain ⟨q, hq⟩ : ∃ q, (L - 1) % 9 = q := ⟨_, rfl⟩
   have HQ := Lib.hid hq
   have hqL : q + 1 ≤ L := by omega
   have hq9 : q + 1 ≤ 9 := by omega
   have hLl : L ≤ 1000000 := by rw [← hL]; refine Nat.le_trans ?_ hl; rw [HLR.out, List.length_append]; omega
   have hdl : dn.length ≤ 1000000 := by refine Nat.le_trans ?_ hl; rw [HLR.out, List.length_append]; omega
   obtain ⟨ch, hch⟩ : ∃ ch, rs.take (q + 1) = ch := ⟨_, rfl⟩
   obtain ⟨rt, hrt⟩ : ∃ rt, rs.drop (q + 1) = rt := ⟨_, rfl⟩
   have hsl1 : ∀ W, (Instr.sliceAt 9 (.string ⟨rs.toArray⟩) none (some (.int .i64 ((q : Int) + 1))) none).run Tryz.prog W = .ok (.string ⟨ch.toArray⟩) W := fun W => by
    have := str_to rs (q + 1) (by omega) W
    rw [hch] at this
    exact this
   have hsl2 : ∀ W, (Instr.sliceAt 9 (.string ⟨rs.toArray⟩) (some (.int .i64 ((q : Int) + 1))) none none).run Tryz.prog W = .ok (.string ⟨rt.toArray⟩) W := fun W => by
    have := str_from rs (q + 1) (by omega) W
    rw [hrt] at this
    exact this
   have HSL2 := Lib.hid hsl2
   have hadc : AllDg ch := by
    rw [← hch]
    exact AllDg.take (fun x hx => HD.out x (by rw [HLR.out]; exact List.mem_append_right _ hx)) _
   have hadd : AllDg dn := fun x hx => HD.out x (by rw [HLR.out]; exact List.mem_append_left _ hx)
   have hcl : ch.length = q + 1 := by rw [← hch, List.length_take]; omega
   have HPU : Hid (Lib.parseUintB 32 (⟨ch.toArray⟩ : ByteArray).data.toList = .ok (dv ch)) := Lib.hid (by rw [show (⟨ch.toArray⟩ : ByteArray).data.toList = ch from by simp]; exact pu32 hadc (fun e => by rw [e] at hcl; simp at hcl) (by omega))
   have hdc : dv ch < 1000000000 := by
    have h1 := dv_lt hadc
    have h2 : 10 ^ ch.length ≤ 10 ^ 9 := Nat.pow_le_pow_right (by decide) (by omega)
    omega
   have HSC : Hid ((⟨ch.toArray⟩ : ByteArray).size ≤ 9223372036854775806) := Lib.hid (by rw [sz_arr]; omega)
   have HVA : Hid ((dv dn : Int) * 1000000000 + (dv ch : Int) = (dv (dn ++ ch) : Int)) := Lib.hid (by
    rw [dv_part dn ch (HMD.out.imp id fun h => by omega), Int.natCast_add, Int.natCast_mul]; rfl)
   have HLR2 : Hid (l = (dn ++ ch) ++ rt) := Lib.hid (by rw [HLR.out, List.append_assoc, ← hch, ← hrt, List.take_append_drop])
   have HRTL : Hid (rt.length = L - (q + 1)) := Lib.hid (by rw [← hrt, List.length_drop]; omega)
   have HR9 : Hid (rt.length % 9 = 0) := Lib.hid (by rw [HRTL.out]; omega)
   have HMS : Hid (rt.length < gk) := Lib.hid (by rw [HRTL.out, HGK.out]; omega)
   have hdd := dv_dlen hadd
   have HS6 : Hid (dlen ((dv dn : Int) * 1000000000).natAbs ≤ 35184372088832) := Lib.hid (by
    refine Nat.le_trans (dlen_mulZ _ _) ?_
    rw [Int.natAbs_natCast, show (1000000000 : Int).natAbs = 1000000000 from rfl, dlen_one (n := 1000000000) (by decide) (by decide)]
    omega)
   have HS7 : Hid (dlen (dv ch : Int).natAbs ≤ 35184372088832) := Lib.hid (by
    rw [Int.natAbs_natCast]
    have := dv_dlen hadc
    omega)
   have HNN : Hid (n ≤ 1000000) := Lib.hid (by rw [HAN.out]; omega)
   have hrem : ((L : Int) - 1).tmod 9 = (q : Int) := by
    rw [← hq, show ((L : Int) - 1) = ((L - 1 : Nat) : Int) from by omega]; rfl
   have hsz := HSR.out
   have hL1 : (1 : Int) ≤ (L : Int) := by omega
   clear hq hch hrt hsl2 hadc hadd hcl hL
   go_wp2_with fail
   refine (Tryz.strconv_ParseUint_10_at32_ok ⟨ch.toArray⟩ HSC.out (dv ch) HPU.out wr).mono ?_
   rintro e w3 ⟨rfl, hw3⟩
   have hb3 : Below wr.heap.size wr w3 := by
    rcases hw3 with rfl | rfl
    ·exact Below.refl _ _
    ·exact Lib.bytesWorld_below _ _ _
   have HBR3 := Lib.hid (HBR.out.trans (hb3.mono HBR.out.size))
   have HP23 := Lib.hid (HP2.out.below hb3 HP2.out.lt)
   have HP43 := Lib.hid (HP4.out.below hb3 HP4.out.lt)
   have HA3 := Lib.hid (HA.out.up hb3)
   clear hb3 hw3 HBR HP2 HP4 HA hsl1 hrem hsz hL1 hs0
   have HBR := HBR3
   have HP2 := HP23
   have HP4 := HP43
   have HA := HA3
   clear HBR3 HP23 HP43 HA3
   generalize wr = wq at *
   generalize w3 = wr at *
   have z0 := HP4.out.cell 0
   have z1 := HP4.out.cell 1
   have zl := HP4.out.lt
   have hcv : (dv ch : Int) % 18446744073709551616 = (dv ch : Int) := by omega
   have hcv2 : IntKind.i64.wrap (dv ch : Int) = (dv ch : Int) := Go.IntWalk.i64_in _ (by omega)
   go_upto_region 7 with fail
   refine wp_region_last (S := fun w' => w'.cell? ⟨g4, 0, none⟩ = some (.bool false) ∧ w'.cell? ⟨g4, 1, none⟩ = some (.slice A n c)) 7 _ (by kernel_rfl) (by kernel_rfl) rfl ⟨z0, z1⟩ (fun hHeld => ?_)
   simp only [List.take_succ_cons, List.take_zero]
   refine takeH 0 (v := ?_) rfl (by kernel_rfl) (fun _ _ _ h => h) (by rfl) ?_ hHeld ?_
   rotate_left 1
   ·intro w' hSw; obtain ⟨s0, s1⟩ := hSw; go_simp <;> with_reducible rfl
   try simp only [Act.put, sA_, sB_, sC_]
   refine takeH 3 (v := ?_) rfl (by kernel_rfl) (fun _ _ _ h => h) (by rfl) ?_ hHeld ?_
   rotate_left 1
   ·intro w' hSw; obtain ⟨s0, s1⟩ := hSw; go_simp <;> with_reducible rfl
   try simp only [Act.put, sA_, sB_, sC_]
   refine takeH 4 (v := ?_) rfl (by kernel_rfl) (fun _ _ _ h => h) (by rfl) ?_ hHeld ?_
   rotate_left 1
   ·intro w' hSw; obtain ⟨s0, s1⟩ := hSw; go_simp <;> with_reducible rfl
   try simp only [Act.put, sA_, sB_, sC_]
   clear z0 z1
   refine stepH 1 (by kernel_rfl) rfl (fun K hK => ?_)
   go_simp
   refine (of_any 1000000000 _ (by decide) (by decide)).mono ?_
   rintro e w5 ⟨hb5, f5, C5, i5, j5, rfl, h5⟩
   have HB5 := Lib.hid ((below_drew (Below.refl wr.heap.size wr)).trans hb5)
   obtain ⟨M, hM, h5⟩ : ∃ M : Int, M = 1000000000 ∧ LgIs w5 w5.heap.size M f5 C5 i5 j5 := ⟨_, rfl, h5⟩
   have HM := Lib.hid hM
   have hi5 : i5 ≤ 1 := by rw [h5.en, hM]; exact dlen_le (show (1000000000 : Nat) < 4294967296 ^ 1 by decide)
   have H5 := Lib.hid h5
   clear hb5 h5 hM
   go_simp
   refine hK.out _ _ ?_ (fun hHeld => ?_)
   ·exact ⟨(HP4.out.below HB5.out HP4.out.lt).cell 0, (HP4.out.below HB5.out HP4.out.lt).cell 1⟩
   clear hK K
   try simp only [Act.put, sA_, sB_, sC_]
   refine stepH 2 (by kernel_rfl) rfl (fun K hK => ?_)
   go_simp
   refine (lgmul_any (dv dn : Int) M false A n c f5 C5 i5 j5 w5 (HA.out.up HB5.out) H5.out (Nat.le_trans (Nat.add_le_add HNN.out hi5) (by decide))).mono ?_
   rintro e w6 ⟨hb6, f6, C6, i6, j6, rfl, h6⟩
   have HB6 := Lib.hid (HB5.out.trans (hb6.mono HB5.out.size))
   have H6 := Lib.hid h6
   clear hb6 h6 H5
   go_simp
   refine hK.out _ _ ?_ (fun hHeld => ?_)
   ·exact ⟨(HP4.out.below HB6.out HP4.out.lt).cell 0, (HP4.out.below HB6.out HP4.out.lt).cell 1⟩
   clear hK K
   try simp only [Act.put, sA_, sB_, sC_]
   refine stepH 5 (by kernel_rfl) rfl (fun K hK => ?_)
   go_simp
   refine (of_any (dv ch : Int) _ (by omega) (by omega)).mono ?_
   rintro e w7 ⟨hb7, f7, C7, i7, j7, rfl, h7⟩
   have HB7 := Lib.hid (HB6.out.trans (hb7.mono HB6.out.size))
   have H7 := Lib.hid h7
   have H67 := Lib.hid (H6.out.up hb7)
   clear hb7 h7 H6
   go_simp
   refine hK.out _ _ ?_ (fun hHeld => ?_)
   ·exact ⟨(HP4.out.below HB7.out HP4.out.lt).cell 0, (HP4.out.below HB7.out HP4.out.lt).cell 1⟩
   clear hK K
   try simp only [Act.put, sA_, sB_, sC_]
   refine stepH 6 (by kernel_rfl) rfl (fun K hK => ?_)
   go_simp
   refine (add_any ((dv dn : Int) * M) (dv ch : Int) f6 C6 i6 j6 f7 C7 i7 j7 w7 H67.out H7.out (by rw [H67.out.en, HM.out]; exact HS6.out) (by rw [H7.out.en]; exact HS7.out)).mono ?_
   rw [HM.out, HVA.out]
   rintro e w8 ⟨hb8, f8, C8, i8, j8, rfl, h8⟩
   have HB8 := Lib.hid (HB7.out.trans (hb8.mono HB7.out.size))
   have H8 := Lib.hid h8
   clear hb8 h8 H67 H7
   go_simp
   refine hK.out _ _ ?_ (fun hHeld => ?_)
   ·exact ⟨(HP4.out.below HB8.out HP4.out.lt).cell 0, (HP4.out.below HB8.out HP4.out.lt).cell 1⟩
   clear hK K
   try simp only [Act.put, sA_, sB_, sC_]
   refine wpAnyH_done (by kernel_rfl) ?_ _
   refine lastQ_go (by rfl) ?_
   have hf8 : f8 = false := by rw [H8.out.eb]; exact decide_eq_false (Int.not_lt.2 (Int.natCast_nonneg _))
   subst hf8
   have HP48 := Lib.hid (HP4.out.below HB8.out HP4.out.lt)
   have HP28 := Lib.hid (HP2.out.below HB8.out HP2.out.lt)
   have HBB8 := Lib.hid (HBR.out.trans (HB8.out.mono HBR.out.size))
   have HLR3 := HLR2
   have z0 := HP48.out.cell 0
   have z1 := HP48.out.cell 1
   have zf := HP48.out.frozen
   have zl := HP48.out.lt
   go_upto_region 8 with fail
   clear z0 z1 zf zl
   generalize hw9 : (w8.setCell ⟨g4, 0, none⟩ _).setCell ⟨g4, 1, none⟩ _ = w9
   have HP49 : Hid (Blk w9 g4 91 #[.bool false, .slice C8 i8 j8]) := Lib.hid (by rw [← hw9]; exact blk_set2 HP48.out)
   have HP29 : Hid (Blk w9 w.heap.size 91 #[.bool false, .slice none 0 0]) := Lib.hid (by rw [← hw9]; exact (HP28.out.far hne24 _).far hne24 _)
   have HB9 : Hid (Below w.heap.size w w9) := Lib.hid (by rw [← hw9]; exact below_set2 HBB8.out hg4l)
   have H9 : Hid (LgIs w9 w9.heap.size (dv (dn ++ ch) : Int) false C8 i8 j8) := Lib.hid (by rw [← hw9]; exact (H8.out.keep (HP48.out.cell 0) (by simp) _).keep ((HP48.out.set_ 0 (.bool false)).cell 1) (by simp) _)
   clear hw9
   have hsl2 := HSL2.out
   go_wp2_with fail
   go_roundg rt.length
   case rel => exact ⟨dn ++ ch, rt, C8, i8, j8, rfl, HLR2.out, rfl, .inr HR9.out, HB9.out, HP29.out, HP49.out, H9.out⟩
   case measure => exact HMS.out
end
section
open Go.ChangeShapes Go.WideShapes Go.ChangeAt Go.RowKit
attribute [local go_sem ↓] execOp_call_val
attribute [local go_sem] callVal_func setCell_drewN alloc_drewN
def dgB (c : UInt8) : Bool := decide (48 ≤ c.toNat ∧ c.toNat ≤ 57)
def natCk (l : List UInt8) : Int := if l.all dgB then (if l = [] ∨ (1 < l.length ∧ l.head? = some 48) then 5 else if 2000 < l.length then 2 else 0) else 5
theorem dgB_all {l : List UInt8} : l.all dgB = true ↔ AllDg l := by
 rw [List.all_eq_true]
 unfold AllDg IsDg dgB
 exact ⟨fun h c hc => by simpa using h c hc, fun h c hc => by simpa using h c hc⟩
theorem natCk_ok {l : List UInt8} : natCk l = 0 ↔ Canon l ∧ l.length ≤ 2000 := by
 unfold natCk Canon
 by_cases h : l.all dgB = true
 ·rw [if_pos h]
  have ha := dgB_all.1 h
  by_cases h1 : l = [] ∨ (1 < l.length ∧ l.head? = some 48)
  ·rw [if_pos h1]
   refine ⟨fun e => (by cases e), fun ⟨⟨g1, g2, g3⟩, g4⟩ => ?_⟩
   rcases h1 with h1 | ⟨h1, h2⟩
   ·exact absurd h1 g1
   ·exact absurd h2 (g3 h1)
  ·rw [if_neg h1]
   have hn : l ≠ [] := fun e => h1 (.inl e)
   have hz : 1 < l.length → l.head? ≠ some 48 := fun g e => h1 (.inr ⟨g, e⟩)
   by_cases h2 : 2000 < l.length
   ·rw [if_pos h2]
    exact ⟨fun e => (by cases e), fun ⟨_, g⟩ => by omega⟩
   ·rw [if_neg h2]
    exact ⟨fun _ => ⟨⟨hn, ha, hz⟩, by omega⟩, fun _ => rfl⟩
 ·rw [if_neg h]
  exact ⟨fun e => (by cases e), fun ⟨⟨_, g, _⟩, _⟩ => absurd (dgB_all.2 g) h⟩
set_option maxRecDepth 100000 in
set_option maxHeartbeats 4000000 in
theorem natck_any (s : ByteArray) (w : World) (hs : s.size ≤ maxLen) :
    Calls Tryz.prog 129 #[.string s] w fun e w' => e = .returned (.int .i64 (natCk s.data.toList)) ∧ Below w.heap.size w w' := by
 have hcv := fun w => run_bytes_of_string (P := Tryz.prog) w 9 183 5 s Tryz.underlying9 Tryz.underlying183 Tryz.underlying5
 unfold maxLen at hs
 go_enter Tryz.func129, Tryz.ntmps129
 go_wp2_with fail
 clear hcv
 generalize grownCap w s.size 0 5 = cap
 have hcell : ∀ k (h : k < s.data.size), (w.alloc (.cells (bytesRow s cap) 5 ((bytesRow s cap).size, (bytesRow s cap).size + 1))).cell? ⟨w.heap.size, k, none⟩ = some (.int .u8 (s.data[k].toNat : Int)) := fun k h => by
  rw [World.cell?_alloc_mark, bytesRow_at s cap k h]
 have HC := Lib.hid hcell
 have K0 : Below w.heap.size w (w.alloc (.cells (bytesRow s cap) 5 ((bytesRow s cap).size, (bytesRow s cap).size + 1))).drew := below_drew ((Below.refl _ _).alloc (Nat.le_refl _) _)
 have HK := Lib.hid K0
 have hlt0 : w.heap.size < (w.alloc (.cells (bytesRow s cap) 5 ((bytesRow s cap).size, (bytesRow s cap).size + 1))).heap.size := by simp
 clear hcell K0
 generalize (w.alloc (.cells (bytesRow s cap) 5 ((bytesRow s cap).size, (bytesRow s cap).size + 1))) = w1 at *
 go_loop [4, 8] (fun _ i => ∃ k : Nat, k ≤ s.size ∧ i = .int .i64 k ∧ s.data.toList.all dgB = (s.data.toList.drop k).all dgB) (fun _ i => s.size - (intOf i).toNat)
 case atStart => exact ⟨0, by omega, rfl, rfl⟩
 case round =>
  obtain ⟨k, hk, rfl, hgo⟩ := hrel
  have HG := Lib.hid hgo
  clear hgo
  by_cases hlt : k < s.size
  ·obtain ⟨n, hn, hn2⟩ : ∃ n : Nat, n < 256 ∧ n = (s.data[k]'hlt).toNat := ⟨_, UInt8.toNat_lt _, rfl⟩
   have hc := HC.out k hlt
   rw [← hn2] at hc
   have hd : s.data.toList.drop k = s.data[k]'hlt :: s.data.toList.drop (k + 1) := by
    rw [List.drop_eq_getElem_cons (by simp; exact hlt)]; simp
   have HD : Hid ((s.data.toList.drop k).all dgB = (decide (48 ≤ n ∧ n ≤ 57) && (s.data.toList.drop (k + 1)).all dgB)) := Lib.hid (by rw [hd, hn2]; rfl)
   have hkI : (k : Int) < (s.size : Int) := by omega
   clear hd hn2
   by_cases h48 : n < 48
   ·have HN : Hid (natCk s.data.toList = 5) := Lib.hid (by unfold natCk; rw [HG.out, HD.out, decide_eq_false (by omega), Bool.false_and]; rfl)
    go_wp2_with fail
    go_ret
    exact ⟨ret_int HN.out.symm, HK.out⟩
   ·by_cases h57 : 57 < n
    ·have HN : Hid (natCk s.data.toList = 5) := Lib.hid (by unfold natCk; rw [HG.out, HD.out, decide_eq_false (by omega), Bool.false_and]; rfl)
     go_wp2_with fail
     go_ret
     exact ⟨ret_int HN.out.symm, HK.out⟩
    ·have HN : Hid (s.data.toList.all dgB = (s.data.toList.drop (k + 1)).all dgB) := Lib.hid (by rw [HG.out, HD.out, decide_eq_true (by omega), Bool.true_and])
     go_wp2_with fail
     go_round
     case rel => exact ⟨k + 1, by omega, by go_num, HN.out⟩
     case measure => simp [intOf]; omega
  ·have hd : s.data.toList.drop k = [] := by rw [List.drop_eq_nil_iff]; simp; exact Nat.le_of_not_lt hlt
   have HA : Hid (s.data.toList.all dgB = true) := Lib.hid (by rw [HG.out, hd]; rfl)
   have hkI : ¬ (k : Int) < (s.size : Int) := by omega
   have HS := Lib.hid (Lib.size_eq s)
   clear hd HG
   by_cases h0 : s.size = 0
   ·have hl : s.data.toList = [] := List.eq_nil_of_length_eq_zero (by have := HS.out; omega)
    have HN : Hid (natCk s.data.toList = 5) := Lib.hid (by rw [hl]; rfl)
    have hs0 : s = ⟨#[]⟩ := by apply ByteArray.ext; apply Array.ext'; simpa using hl
    subst hs0
    go_wp2_with fail
    go_ret
    exact ⟨ret_int HN.out.symm, HK.out⟩
   ·obtain ⟨c, r, hcr⟩ : ∃ c r, s.data.toList = c :: r := by
     cases hl : s.data.toList with
     | nil => exact absurd (by have := HS.out; rw [hl] at this; simpa using this) h0
     | cons c r => exact ⟨c, r, rfl⟩
    have hem : s.toList.isEmpty = false := by rw [ByteArray.toList_eq, hcr]; rfl
    have hne : s.toList ≠ [] := fun e => by rw [e] at hem; cases hem
    have hs00 : ∀ h : 0 < s.size, (s[0]'h).toNat = c.toNat := fun h => by
     have : s.data.toList[0]? = some c := by rw [hcr]; rfl
     have h2 : s.data[0]? = some c := by simpa using this
     obtain ⟨h3, h4⟩ := Array.getElem?_eq_some_iff.1 h2
     show (s.data[0]'h3).toNat = _
     rw [h4]
    have HCR := Lib.hid hcr
    have hpos : 0 < s.size := by omega
    have HSL : Hid (s.size = r.length + 1) := Lib.hid (by rw [HS.out, hcr]; rfl)
    clear hcr
    by_cases h1 : 1 < s.size
    ·have h1I : (1 : Int) < (s.size : Int) := by omega
     by_cases h48 : c.toNat = 48
     ·have h48b : ((c.toNat : Int) == 48) = true := by rw [h48]; rfl
      have HN : Hid (natCk s.data.toList = 5) := Lib.hid (by
       unfold natCk
       rw [HA.out, if_pos rfl, if_pos (.inr ⟨by rw [← HS.out]; exact h1, by rw [HCR.out]; exact congrArg some (UInt8.toNat_inj.1 h48)⟩)])
      go_wp2_with fail
      go_ret
      exact ⟨ret_int HN.out.symm, HK.out⟩
     ·have h48b : ((c.toNat : Int) == 48) = false := by simp; omega
      have hno : ¬ (s.data.toList = [] ∨ (1 < s.data.toList.length ∧ s.data.toList.head? = some 48)) := by
       rw [HCR.out]
       rintro (h | ⟨_, h⟩)
       ·cases h
       ·injection h with h; subst h; exact h48 rfl
      have HNO := Lib.hid hno
      clear hno
      by_cases h2 : 2000 < s.size
      ·have h2I : (2000 : Int) < (s.size : Int) := by omega
       have HN : Hid (natCk s.data.toList = 2) := Lib.hid (by unfold natCk; rw [HA.out, if_pos rfl, if_neg HNO.out, if_pos (by rw [← HS.out]; exact h2)])
       go_wp2_with fail
       go_ret
       exact ⟨ret_int HN.out.symm, HK.out⟩
      ·have h2I : ¬ (2000 : Int) < (s.size : Int) := by omega
       have HN : Hid (natCk s.data.toList = 0) := Lib.hid (by unfold natCk; rw [HA.out, if_pos rfl, if_neg HNO.out, if_neg (by rw [← HS.out]; exact h2)])
       go_wp2_with fail
       go_ret
       exact ⟨ret_int HN.out.symm, HK.out⟩
    ·have h1I : ¬ (1 : Int) < (s.size : Int) := by omega
     have h2I : ¬ (2000 : Int) < (s.size : Int) := by omega
     have HN : Hid (natCk s.data.toList = 0) := Lib.hid (by
      unfold natCk
      have hl := HS.out
      rw [HA.out, if_pos rfl, if_neg (by rw [HCR.out]; rintro (h | ⟨h, _⟩); cases h; rw [HCR.out] at hl; omega), if_neg (by omega)])
     go_wp2_with fail
     go_ret
     exact ⟨ret_int HN.out.symm, HK.out⟩
end
section
open Go.ChangeShapes Go.WideShapes Go.ChangeAt Go.RowKit
attribute [local go_sem ↓] execOp_call_val
attribute [local go_sem] callVal_func setCell_drewN alloc_drewN
theorem rdT_false (s : ByteArray) : rdT false s.data.toList = s := by
 apply ByteArray.ext
 simp [rdT]
def TwP (y z : Int) (w : World) (e : Ending) (w' : World) : Prop := Below w.heap.size w w' ∧ ∃ b A n c b2 B m d, e = .returned (.tuple #[.agg #[.bool b, .slice A n c], .agg #[.bool b2, .slice B m d], .int .i64 0]) ∧ LgIs w' w'.heap.size y b A n c ∧ LgIs w' w'.heap.size z b2 B m d
set_option maxRecDepth 100000 in
set_option maxHeartbeats 4000000 in
theorem two_ok (s t : ByteArray) (w : World) (h1 : natCk s.data.toList = 0) (h2 : natCk t.data.toList = 0) :
    Calls Tryz.prog 151 #[.string s, .string t] w (TwP (dv s.data.toList) (dv t.data.toList) w) := by
 obtain ⟨⟨_, k1, _⟩, k2⟩ := natCk_ok.1 h1
 obtain ⟨⟨_, k3, _⟩, k4⟩ := natCk_ok.1 h2
 have HD1 : Hid (AllDg s.data.toList) := Lib.hid k1
 have HD2 : Hid (AllDg t.data.toList) := Lib.hid k3
 have HL1 : Hid (s.size ≤ 2000) := Lib.hid (by rw [Lib.size_eq]; exact k2)
 have HL2 : Hid (t.size ≤ 2000) := Lib.hid (by rw [Lib.size_eq]; exact k4)
 have HN1 := Lib.hid h1
 have HN2 := Lib.hid h2
 have hi0 : ∀ w, (Instr.index 246 (.agg #[.string s, .string t]) (.int .i64 0)).run Tryz.prog w = .ok (.string s) w := fun _ => by kernel_rfl
 have hi1 : ∀ w, (Instr.index 246 (.agg #[.string s, .string t]) (.int .i64 1)).run Tryz.prog w = .ok (.string t) w := fun _ => by kernel_rfl
 have HI0 := Lib.hid hi0
 have HI1 := Lib.hid hi1
 have HB0 : Hid (Below w.heap.size w ((w.alloc (.cells #[.bool false, .slice none 0 0] 91)).alloc (.cells #[.bool false, .slice none 0 0] 91))) := Lib.hid (((Below.refl _ _).alloc (Nat.le_refl _) _).alloc (by simp) _)
 have HX1 : Hid (Blk ((w.alloc (.cells #[.bool false, .slice none 0 0] 91)).alloc (.cells #[.bool false, .slice none 0 0] 91)) w.heap.size 91 #[.bool false, .slice none 0 0]) := Lib.hid ((Blk.new w _ _).alloc _)
 have HX2 : Hid (Blk ((w.alloc (.cells #[.bool false, .slice none 0 0] 91)).alloc (.cells #[.bool false, .slice none 0 0] 91)) (w.heap.size + 1) 91 #[.bool false, .slice none 0 0]) := Lib.hid (Blk.new_ (by simp))
 clear h1 h2 k1 k2 k3 k4 hi0 hi1
 go_enter Tryz.func151, Tryz.ntmps151
 go_wp2_with fail
 generalize ((w.alloc (.cells #[.bool false, .slice none 0 0] 91)).alloc (.cells #[.bool false, .slice none 0 0] 91)) = W at *
 go_loopw [8, 9, 13] (fun v8 v9 i wr => ∃ k : Nat, k ≤ 2 ∧ i = .int .i64 k ∧ Below w.heap.size w wr ∧ Blk wr w.heap.size 91 #[.bool false, .slice none 0 0] ∧ Blk wr (w.heap.size + 1) 91 #[.bool false, .slice none 0 0]) (fun _ _ i _ => 2 - (intOf i).toNat)
 case atStart => exact ⟨0, by omega, rfl, HB0.out, HX1.out, HX2.out⟩
 case round =>
  clear HB0 HX1 HX2
  obtain ⟨k, hk, rfl, hb, hx1, hx2⟩ := hrel
  have HB := Lib.hid hb
  have HX1 := Lib.hid hx1
  have HX2 := Lib.hid hx2
  clear hb hx1 hx2
  have hc : k = 0 ∨ k = 1 ∨ k = 2 := by omega
  rcases hc with rfl | rfl | rfl
  ·have e : (((0 : Nat) : Int)) = 0 := rfl
   rw [e]
   clear e
   have hi0 := HI0.out
   go_wp2_with fail
   refine (natck_any s wr (by have := HL1.out; unfold maxLen; omega)).mono ?_
   rw [HN1.out]
   rintro e w1 ⟨rfl, hb1⟩
   have HB1 := Lib.hid (HB.out.trans (hb1.mono HB.out.size))
   have HX11 := Lib.hid (HX1.out.below hb1 HX1.out.lt)
   have HX21 := Lib.hid (HX2.out.below hb1 HX2.out.lt)
   clear hb1 HB HX1 HX2 hi0
   go_wp2_with fail
   go_roundw
   case rel => exact ⟨1, by omega, rfl, HB1.out, HX11.out, HX21.out⟩
   case measure => simp [intOf]
  ·have e : (((1 : Nat) : Int)) = 1 := rfl
   rw [e]
   clear e
   have hi1 := HI1.out
   go_wp2_with fail
   refine (natck_any t wr (by have := HL2.out; unfold maxLen; omega)).mono ?_
   rw [HN2.out]
   rintro e w1 ⟨rfl, hb1⟩
   have HB1 := Lib.hid (HB.out.trans (hb1.mono HB.out.size))
   have HX11 := Lib.hid (HX1.out.below hb1 HX1.out.lt)
   have HX21 := Lib.hid (HX2.out.below hb1 HX2.out.lt)
   clear hb1 HB HX1 HX2 hi1
   go_wp2_with fail
   go_roundw
   case rel => exact ⟨2, by omega, rfl, HB1.out, HX11.out, HX21.out⟩
   case measure => simp [intOf]
  ·have e : (((2 : Nat) : Int)) = 2 := rfl
   rw [e]
   clear e
   go_wp2_with fail
   have c1 := read_any false s.data.toList HD1.out (by have := HL1.out; rw [Lib.size_eq] at this; omega) wr
   rw [rdT_false] at c1
   refine c1.mono ?_
   clear c1
   rintro e w1 ⟨hb1, f1, C1, i1, j1, rfl, h1⟩
   have HB1 := Lib.hid (HB.out.trans (hb1.mono HB.out.size))
   have HX11 := Lib.hid (HX1.out.below hb1 HX1.out.lt)
   have HX21 := Lib.hid (HX2.out.below hb1 HX2.out.lt)
   have H1 := Lib.hid h1
   clear hb1 HB HX1 HX2 h1
   go_wp2_with fail
   have c2 := read_any false t.data.toList HD2.out (by have := HL2.out; rw [Lib.size_eq] at this; omega) w1
   rw [rdT_false] at c2
   refine c2.mono ?_
   clear c2
   rintro e w2 ⟨hb2, f2, C2, i2, j2, rfl, h2⟩
   have HB2 := Lib.hid (HB1.out.trans (hb2.mono HB1.out.size))
   have HX12 := Lib.hid (HX11.out.below hb2 HX11.out.lt)
   have HX22 := Lib.hid (HX21.out.below hb2 HX21.out.lt)
   have H12 := Lib.hid (H1.out.up hb2)
   have H22 := Lib.hid h2
   have e10 : w.heap.size + 1 ≠ w.heap.size := by omega
   have e01 : w.heap.size ≠ w.heap.size + 1 := by omega
   clear hb2 HB1 HX11 HX21 h2 H1
   have y0 := HX12.out.cell 0
   have y1 := HX12.out.cell 1
   have yf := HX12.out.frozen
   have yl := HX12.out.lt
   have z0 := HX22.out.cell 0
   have z1 := HX22.out.cell 1
   have zf := HX22.out.frozen
   have zl := HX22.out.lt
   go_wp2_with fail
   clear y0 y1 yf yl z0 z1 zf zl
   generalize hw3 : (w2.setCell ⟨w.heap.size, 0, none⟩ (.bool f1)).setCell ⟨w.heap.size, 1, none⟩ (.slice C1 i1 j1) = w3
   have HX13 : Hid (Blk w3 w.heap.size 91 #[.bool f1, .slice C1 i1 j1]) := Lib.hid (by rw [← hw3]; exact blk_set2 HX12.out)
   have HX23 : Hid (Blk w3 (w.heap.size + 1) 91 #[.bool false, .slice none 0 0]) := Lib.hid (by rw [← hw3]; exact (HX22.out.far e10 _).far e10 _)
   have HB3 : Hid (Below w.heap.size w w3) := Lib.hid (by rw [← hw3]; exact below_set2 HB2.out (Nat.le_refl _))
   have H13 : Hid (LgIs w3 w3.heap.size (rdZ false s.data.toList) f1 C1 i1 j1) := Lib.hid (by rw [← hw3]; exact (H12.out.keep (HX12.out.cell 0) (by simp) _).keep ((HX12.out.set_ 0 (.bool f1)).cell 1) (by simp) _)
   have H23 : Hid (LgIs w3 w3.heap.size (rdZ false t.data.toList) f2 C2 i2 j2) := Lib.hid (by rw [← hw3]; exact (H22.out.keep (HX12.out.cell 0) (by simp) _).keep ((HX12.out.set_ 0 (.bool f1)).cell 1) (by simp) _)
   clear hw3 HX12 HX22 HB2 H12 H22
   generalize hw4 : (w3.setCell ⟨w.heap.size + 1, 0, none⟩ (.bool f2)).setCell ⟨w.heap.size + 1, 1, none⟩ (.slice C2 i2 j2) = w4
   have HX14 : Hid (Blk w4 w.heap.size 91 #[.bool f1, .slice C1 i1 j1]) := Lib.hid (by rw [← hw4]; exact (HX13.out.far e01 _).far e01 _)
   have HX24 : Hid (Blk w4 (w.heap.size + 1) 91 #[.bool f2, .slice C2 i2 j2]) := Lib.hid (by rw [← hw4]; exact blk_set2 HX23.out)
   have HB4 : Hid (Below w.heap.size w w4) := Lib.hid (by rw [← hw4]; exact below_set2 HB3.out (Nat.le_succ _))
   have H14 : Hid (LgIs w4 w4.heap.size (rdZ false s.data.toList) f1 C1 i1 j1) := Lib.hid (by rw [← hw4]; exact (H13.out.keep (HX23.out.cell 0) (by simp) _).keep ((HX23.out.set_ 0 (.bool f2)).cell 1) (by simp) _)
   have H24 : Hid (LgIs w4 w4.heap.size (rdZ false t.data.toList) f2 C2 i2 j2) := Lib.hid (by rw [← hw4]; exact (H23.out.keep (HX23.out.cell 0) (by simp) _).keep ((HX23.out.set_ 0 (.bool f2)).cell 1) (by simp) _)
   clear hw4
   have q0 := HX14.out.cell 0
   have q1 := HX14.out.cell 1
   have q2 := HX24.out.cell 0
   have q3 := HX24.out.cell 1
   exact bodyPost_ret (v := .tuple #[.agg #[.bool f1, .slice C1 i1 j1], .agg #[.bool f2, .slice C2 i2 j2], .int .i64 0]) (by simp [results, Tryz.results151, go_sem, q0, q1, q2, q3]) rfl ⟨HB4.out, f1, C1, i1, j1, f2, C2, i2, j2, rfl, H14.out, H24.out⟩
set_option maxRecDepth 100000 in
set_option maxHeartbeats 4000000 in
theorem ntext_ok (v : Nat) (b : Bool) (A : Option Addr) (n c : Nat) (w : World) (h : LgIs w w.heap.size (v : Int) b A n c) (ht : TabOk w) (hv : ndg v ≤ 2000) :
    Calls Tryz.prog 152 #[.agg #[.bool b, .slice A n c]] w fun e w' => e = .returned (.tuple #[.string ⟨(Lib.decDigits v).toArray⟩, .int .i64 0]) ∧ Below w.heap.size w w' := by
 have HB0 : Hid (Below w.heap.size w (w.alloc (.cells #[.bool b, .slice A n c] 91))) := Lib.hid ((Below.refl _ _).alloc (Nat.le_refl _) _)
 have HX1 := Lib.hid (Blk.new w 91 #[.bool b, .slice A n c])
 have H1 := Lib.hid (h.up HB0.out)
 have HT := Lib.hid (ht.up HB0.out)
 have hf : ndg (v : Int).natAbs ≤ 2000 := by rw [Int.natAbs_natCast]; exact hv
 have HF := Lib.hid hf
 have HTL : Hid (textL (v : Int) = Lib.decDigits v) := Lib.hid (by unfold textL; rw [if_neg (Int.not_lt.2 (Int.natCast_nonneg v)), Int.natAbs_natCast, List.nil_append])
 clear h ht hf
 go_enter Tryz.func152, Tryz.ntmps152
 go_upto_region 1 with fail
 generalize w.alloc (.cells #[.bool b, .slice A n c] 91) = W at *
 have p0 := HX1.out.cell 0
 have p1 := HX1.out.cell 1
 have pl := HX1.out.lt
 go_wp2_with fail
 refine (itext_any (v : Int) b A n c W H1.out HT.out).mono ?_
 rintro e w1 ⟨hb1, s, he, hs, -⟩
 rw [decide_eq_true HF.out] at he
 have hs2 := hs HF.out
 rw [HTL.out] at hs2
 subst hs2
 subst he
 have HB1 := Lib.hid (HB0.out.trans (hb1.mono HB0.out.size))
 clear hb1 hs p0 p1 pl
 go_wp2_with fail
 go_ret2
 exact ⟨rfl, HB1.out⟩
theorem gcd_fits {a b : Nat} (ha : a < 10 ^ 2000) (hb : b < 10 ^ 2000) : ndg (a.gcd b) ≤ 2000 := by
 refine ndg_le (by decide) ?_
 rcases Nat.eq_zero_or_pos a with h | h
 ·subst h; rw [Nat.gcd_zero_left]; exact hb
 ·exact Nat.lt_of_le_of_lt (Nat.gcd_le_left _ h) ha
set_option maxRecDepth 100000 in
set_option maxHeartbeats 4000000 in
theorem ngcd_ok (s t : ByteArray) (w : World) (h1 : natCk s.data.toList = 0) (h2 : natCk t.data.toList = 0) (ht : TabOk w) :
    Calls Tryz.prog 130 #[.string s, .string t] w fun e w' => e = .returned (.tuple #[.string ⟨(Lib.decDigits ((dv s.data.toList).gcd (dv t.data.toList))).toArray⟩, .int .i64 0]) ∧ Below w.heap.size w w' := by
 have HT := Lib.hid ht
 have HN1 := Lib.hid h1
 have HN2 := Lib.hid h2
 have hlt : ∀ l : List UInt8, natCk l = 0 → dv l < 10 ^ 2000 ∧ dlen (dv l) ≤ 2000 := fun l h => by
  obtain ⟨⟨_, k1, _⟩, k2⟩ := natCk_ok.1 h
  have h3 := pow_mono10 k2
  have h4 := Nat.lt_of_lt_of_le (dv_lt k1) h3
  exact ⟨h4, Nat.le_trans (dv_dlen k1) k2⟩
 have HA := Lib.hid (hlt _ h1)
 have HC := Lib.hid (hlt _ h2)
 clear ht h1 h2 hlt
 go_enter Tryz.func130, Tryz.ntmps130
 go_wp2_with fail
 refine (two_ok s t w HN1.out HN2.out).mono ?_
 rintro e w1 ⟨hb1, f1, C1, i1, j1, f2, C2, i2, j2, rfl, g1, g2⟩
 have HK : Hid (Below w1.heap.size w1 ((w1.alloc (.cells #[.bool f1, .slice C1 i1 j1] 91)).alloc (.cells #[.bool f2, .slice C2 i2 j2] 91))) := Lib.hid (((Below.refl _ _).alloc (Nat.le_refl _) _).alloc (by simp) _)
 have HB1 := Lib.hid (hb1.trans (HK.out.mono hb1.size))
 have HX1 : Hid (Blk ((w1.alloc (.cells #[.bool f1, .slice C1 i1 j1] 91)).alloc (.cells #[.bool f2, .slice C2 i2 j2] 91)) w1.heap.size 91 #[.bool f1, .slice C1 i1 j1]) := Lib.hid ((Blk.new w1 _ _).alloc _)
 have HX2 : Hid (Blk ((w1.alloc (.cells #[.bool f1, .slice C1 i1 j1] 91)).alloc (.cells #[.bool f2, .slice C2 i2 j2] 91)) (w1.heap.size + 1) 91 #[.bool f2, .slice C2 i2 j2]) := Lib.hid (Blk.new_ (by simp))
 have H1 := Lib.hid (g1.up HK.out)
 have H2 := Lib.hid (g2.up HK.out)
 have hn1 : i1 ≤ 2000 := by rw [g1.en, Int.natAbs_natCast]; exact HA.out.2
 have hn2 : i2 ≤ 2000 := by rw [g2.en, Int.natAbs_natCast]; exact HC.out.2
 clear hb1 HK g1 g2
 go_upto_region 2 with fail
 generalize ((w1.alloc (.cells #[.bool f1, .slice C1 i1 j1] 91)).alloc (.cells #[.bool f2, .slice C2 i2 j2] 91)) = W at *
 have p0 := HX1.out.cell 0
 have p1 := HX1.out.cell 1
 have pl := HX1.out.lt
 have q0 := HX2.out.cell 0
 have q1 := HX2.out.cell 1
 have ql := HX2.out.lt
 go_wp2_with fail
 refine (gcd_any (dv s.data.toList : Int) (dv t.data.toList : Int) f1 C1 i1 j1 f2 C2 i2 j2 W H1.out H2.out (Nat.le_trans hn1 (by decide)) (Nat.le_trans hn2 (by decide))).mono ?_
 rw [Int.natAbs_natCast, Int.natAbs_natCast]
 rintro e w3 ⟨hb3, f3, C3, i3, j3, rfl, g3⟩
 have HB3 := Lib.hid (HB1.out.trans (hb3.mono HB1.out.size))
 have H3 := Lib.hid g3
 clear hb3 g3 p0 p1 pl q0 q1 ql
 go_wp2_with fail
 refine (ntext_ok _ f3 C3 i3 j3 w3 H3.out (HT.out.up HB3.out) (gcd_fits HA.out.1 HC.out.1)).mono ?_
 rintro e w4 ⟨rfl, hb4⟩
 have HB4 := Lib.hid (HB3.out.trans (hb4.mono HB3.out.size))
 clear hb4
 go_wp2_with fail
 go_ret2
 exact ⟨rfl, HB4.out⟩
end
section
open Go.ChangeShapes Go.WideShapes Go.ChangeAt Go.RowKit
attribute [local go_sem ↓] execOp_call_val
attribute [local go_sem] callVal_func setCell_drewN alloc_drewN
def cutR (c : UInt8) : List UInt8 → List UInt8 × List UInt8 × Bool
 | [] => ([], [], false)
 | x :: r => if x = c then ([], r, true) else (x :: (cutR c r).1, (cutR c r).2.1, (cutR c r).2.2)
theorem cut_ix (c : UInt8) : ∀ l : List UInt8, (Lib.indexByte l c = -1 ∧ cutR c l = (l, [], false)) ∨ (∃ i : Nat, Lib.indexByte l c = (i : Int) ∧ i + 1 ≤ l.length ∧ cutR c l = (l.take i, l.drop (i + 1), true))
 | [] => .inl ⟨rfl, rfl⟩
 | x :: r => by
  unfold Lib.indexByte cutR
  by_cases h : x = c
  ·right
   exact ⟨0, by simp [h], by simp, by simp [h]⟩
  ·have hb : (x == c) = false := by simpa using h
   rw [hb, if_neg h]
   rcases cut_ix c r with ⟨h1, h2⟩ | ⟨i, h1, h2, h3⟩
   ·left
    rw [h1, h2]
    simp
   ·right
    refine ⟨i + 1, ?_, by simp; omega, by rw [h3]; simp⟩
    rw [h1]
    have : ((i : Int) == -1) = false := by simp
    simp [this]
def CutP (c : UInt8) (l : List UInt8) (w : World) (e : Ending) (w' : World) : Prop := e = .returned (.tuple #[.string ⟨(cutR c l).1.toArray⟩, .string ⟨(cutR c l).2.1.toArray⟩, .bool (cutR c l).2.2]) ∧ Below w.heap.size w w'
set_option maxRecDepth 100000 in
set_option maxHeartbeats 4000000 in
theorem icut_any (c : UInt8) (l : List UInt8) (hl : l.length ≤ 9223372036854775807) (w : World) :
    Calls Tryz.prog 147 #[.string ⟨l.toArray⟩, .string ⟨#[c]⟩] w (CutP c l w) := by
 have hix := cut_ix c l
 have HIX := Lib.hid hix
 clear hix
 go_enter Tryz.func147, Tryz.ntmps147
 go_wp2_with fail
 refine (Tryz.stringslite_Index_one ⟨l.toArray⟩ c w).mono ?_
 rintro e w1 ⟨he, hw⟩
 subst hw
 rw [show (⟨l.toArray⟩ : ByteArray).data.toList = l from by simp] at he
 rcases HIX.out with ⟨h1, h2⟩ | ⟨i, h1, h2, h3⟩
 ·rw [h1] at he
  subst he
  have HQ := Lib.hid h2
  clear h1 h2
  go_wp2_with fail
  go_ret3
  exact ⟨by rw [HQ.out]; rfl, Below.refl _ _⟩
 ·rw [h1] at he
  subst he
  have HQ := Lib.hid h3
  have hsl1 : ∀ W, (Instr.sliceAt 9 (.string ⟨l.toArray⟩) none (some (.int .i64 (i : Int))) none).run Tryz.prog W = .ok (.string ⟨(l.take i).toArray⟩) W := fun W => str_to l i (by omega) W
  have hsl2 : ∀ W, (Instr.sliceAt 9 (.string ⟨l.toArray⟩) (some (.int .i64 ((i : Int) + 1))) none none).run Tryz.prog W = .ok (.string ⟨(l.drop (i + 1)).toArray⟩) W := fun W => str_from l (i + 1) h2 W
  have hwr : IntKind.i64.wrap ((i : Int) + 1) = (i : Int) + 1 := Go.IntWalk.i64_in _ (by omega)
  obtain ⟨A, hA⟩ : ∃ A, l.take i = A := ⟨_, rfl⟩
  obtain ⟨B, hB⟩ : ∃ B, l.drop (i + 1) = B := ⟨_, rfl⟩
  rw [hA] at hsl1
  rw [hB] at hsl2
  rw [hA, hB] at HQ
  clear h1 h3 hA hB
  go_wp2_with fail
  go_quiet (fail)
  go_wp2_with fail
  go_ret3
  exact ⟨by rw [HQ.out]; rfl, below_drewN (Below.refl _ _) _⟩
theorem cut_any (c : UInt8) (l : List UInt8) (hl : l.length ≤ 9223372036854775807) (w : World) :
    Calls Tryz.prog 125 #[.string ⟨l.toArray⟩, .string ⟨#[c]⟩] w (CutP c l w) := by
 go_enter Tryz.func125, Tryz.ntmps125
 go_wp2_with fail
 refine (icut_any c l hl w).mono ?_
 rintro e w1 ⟨rfl, hb⟩
 have HB := Lib.hid hb
 clear hb
 go_wp2_with fail
 go_ret3
 exact ⟨rfl, HB.out⟩
end
section
open Go.ChangeShapes Go.WideShapes Go.ChangeAt Go.RowKit
attribute [local go_sem ↓] execOp_call_val
attribute [local go_sem] callVal_func setCell_drewN alloc_drewN sEq_walk
def rtS (l : List UInt8) : List UInt8 := Lib.trimPrefix l [45]
def rtN (l : List UInt8) : List UInt8 := (cutR 47 (rtS l)).1
def rtD (l : List UInt8) : List UInt8 := (cutR 47 (rtS l)).2.1
def rtI (l : List UInt8) : Bool := (cutR 47 (rtS l)).2.2
def rtB (l : List UInt8) : Int := if rtI l then natCk (rtD l) else 0
def rtP5 (l : List UInt8) : Prop := natCk (rtN l) = 5 ∨ rtB l = 5 ∨ (rtN l = [48] ∧ (rtS l).length < l.length)
def rtP2 (l : List UInt8) : Prop := natCk (rtN l) ≠ 0 ∨ rtB l ≠ 0
def rtP3 (l : List UInt8) : Prop := rtD l = [48] ∨ rtD l = [49] ∨ (dv (rtN l)).gcd (dv (rtD l)) ≠ 1
instance (l : List UInt8) : Decidable (rtP5 l) := by unfold rtP5; infer_instance
instance (l : List UInt8) : Decidable (rtP2 l) := by unfold rtP2; infer_instance
instance (l : List UInt8) : Decidable (rtP3 l) := by unfold rtP3; infer_instance
def ratCk (l : List UInt8) : Int := if rtP5 l then 5 else if rtP2 l then 2 else if rtI l = true ∧ rtP3 l then 3 else 0
theorem sEq_one (l : List UInt8) (c : UInt8) : sEq ⟨l.toArray⟩ ⟨#[c]⟩ = decide (l = [c]) := by
 unfold sEq
 refine decide_eq_decide.2 ⟨fun h => ?_, fun h => by rw [h]⟩
 have := congrArg (fun (x : ByteArray) => x.data.toList) h
 simpa using this
theorem dec_one {n : Nat} : Lib.decDigits n = [49] ↔ n = 1 :=
 ⟨fun h => dec_inj (h.trans (show [49] = Lib.decDigits 1 by rw [dec_small (by decide)]; rfl)), fun h => by rw [h, dec_small (by decide)]; rfl⟩
set_option maxRecDepth 100000 in
set_option maxHeartbeats 4000000 in
theorem ratck_any (l : List UInt8) (hl : l.length ≤ maxLen) (w : World) (ht : TabOk w) :
    Calls Tryz.prog 97 #[.string ⟨l.toArray⟩] w fun e w' => e = .returned (.int .i64 (ratCk l)) ∧ Below w.heap.size w w' := by
 have HT := Lib.hid ht
 have hsl : (rtS l).length ≤ l.length := by unfold rtS Lib.trimPrefix; split <;> simp
 have HS : Hid (Lib.trimPrefix l [45] = rtS l) := Lib.hid rfl
 have hcl : (rtN l).length ≤ (rtS l).length ∧ (rtD l).length ≤ (rtS l).length := by
  unfold rtN rtD
  rcases cut_ix 47 (rtS l) with ⟨_, h⟩ | ⟨i, _, _, h⟩ <;> rw [h] <;> simp <;> omega
 have HCL := Lib.hid hcl
 have hm : (rtS l).length ≤ 9223372036854775807 := Nat.le_trans hsl (by unfold maxLen at hl; omega)
 have HLE := Lib.hid hl
 have HSZ : Hid ((⟨(rtS l).toArray⟩ : ByteArray).size = (rtS l).length) := Lib.hid (sz_arr _)
 have HSZ2 : Hid ((⟨l.toArray⟩ : ByteArray).size = l.length) := Lib.hid (sz_arr _)
 have HSL := Lib.hid hsl
 clear ht hcl hl hsl
 go_enter Tryz.func97, Tryz.ntmps97
 go_wp2_with fail
 refine (Tryz.strings_TrimPrefix ⟨l.toArray⟩ ⟨#[45]⟩ w).mono ?_
 rintro e w1 ⟨he, hw⟩
 subst hw
 rw [show (⟨l.toArray⟩ : ByteArray).data.toList = l from by simp, show (⟨#[45]⟩ : ByteArray).data.toList = [45] from rfl, HS.out] at he
 subst he
 go_wp2_with fail
 refine (cut_any 47 (rtS l) hm w1).mono ?_
 rintro e w2 ⟨he, hb2⟩
 rw [show (cutR 47 (rtS l)).1 = rtN l from rfl, show (cutR 47 (rtS l)).2.1 = rtD l from rfl, show (cutR 47 (rtS l)).2.2 = rtI l from rfl] at he
 subst he
 have HB2 := Lib.hid hb2
 clear hb2 hm
 have hq0 := sEq_one (rtN l) 48
 have hd0 := sEq_one (rtD l) 48
 have hd1 := sEq_one (rtD l) 49
 obtain ⟨tn, htn⟩ : ∃ t : ByteArray, ⟨(rtN l).toArray⟩ = t := ⟨_, rfl⟩
 obtain ⟨td, htd⟩ : ∃ t : ByteArray, ⟨(rtD l).toArray⟩ = t := ⟨_, rfl⟩
 have HTN : Hid (tn.data.toList = rtN l) := Lib.hid (by rw [← htn])
 have HTD : Hid (td.data.toList = rtD l) := Lib.hid (by rw [← htd])
 have HTNS : Hid (tn.size = (rtN l).length) := Lib.hid (by rw [← htn]; exact sz_arr _)
 have HTDS : Hid (td.size = (rtD l).length) := Lib.hid (by rw [← htd]; exact sz_arr _)
 rw [htn] at hq0 ⊢
 rw [htd] at hd0 hd1 ⊢
 have HQ0 := Lib.hid hq0
 have HQ1 := Lib.hid hd0
 have HQ2 := Lib.hid hd1
 clear htn htd hq0 hd0 hd1
 go_wp2_with fail
 refine (natck_any tn w2 (by rw [HTNS.out]; exact Nat.le_trans HCL.out.1 (Nat.le_trans HSL.out HLE.out))).mono ?_
 rw [HTN.out]
 rintro e w3 ⟨rfl, hb3⟩
 have HB3 := Lib.hid (HB2.out.trans (hb3.mono HB2.out.size))
 clear hb3 HB2
 obtain ⟨a, ha⟩ : ∃ a, natCk (rtN l) = a := ⟨_, rfl⟩
 obtain ⟨b, hb⟩ : ∃ b, rtB l = b := ⟨_, rfl⟩
 obtain ⟨is, his⟩ : ∃ i, rtI l = i := ⟨_, rfl⟩
 have HA := Lib.hid ha
 have HBb := Lib.hid hb
 have HI := Lib.hid his
 rw [ha, his]
 clear ha hb his
 go_upto_if 21 with fail
 go_cut [8] (fun v wc => v = .int .i64 b ∧ Below w1.heap.size w1 wc)
 case first =>
  cases is with
  | true =>
   go_wp2_with fail
   refine (natck_any td w3 (by rw [HTDS.out]; exact Nat.le_trans HCL.out.2 (Nat.le_trans HSL.out HLE.out))).mono ?_
   rw [HTD.out]
   rintro e w4 ⟨he, hb4⟩
   have hbe : natCk (rtD l) = b := by rw [← HBb.out]; unfold rtB; rw [HI.out]; rfl
   rw [hbe] at he
   subst he
   have HB4 := Lib.hid (HB3.out.trans (hb4.mono HB3.out.size))
   clear hb4 hbe
   go_wp2_with fail
   go_meet
   case rel => exact ⟨rfl, HB4.out⟩
  | false =>
   have hb0 : b = 0 := by rw [← HBb.out]; unfold rtB; rw [HI.out]; rfl
   subst hb0
   go_wp2_with fail
   go_meet
   case rel => exact ⟨rfl, HB3.out⟩
 obtain ⟨hv, hb4⟩ := hcut
 subst hv
 have HB4 := Lib.hid hb4
 clear hb4 HB3
 generalize wc = V at *
 go_upto_region 6 with fail
 go_cut [24] (fun v wd => wd = V ∧ v = .bool (decide (rtP5 l)))
 case first =>
  have HP5 : Hid (rtP5 l ↔ (a = 5 ∨ b = 5 ∨ (rtN l = [48] ∧ (rtS l).length < l.length))) := Lib.hid (by unfold rtP5; rw [HA.out, HBb.out])
  by_cases ha : a = 5
  ·have hd : decide (rtP5 l) = true := decide_eq_true (HP5.out.2 (.inl ha))
   have hab : (a == 5) = true := by simp [ha]
   clear ha
   go_wp2_with fail
   go_meet
   case rel => exact ⟨rfl, by rw [hd]⟩
  ·have hab : (a == 5) = false := by simp [ha]
   by_cases hb : b = 5
   ·have hd : decide (rtP5 l) = true := decide_eq_true (HP5.out.2 (.inr (.inl hb)))
    have hbb : (b == 5) = true := by simp [hb]
    clear ha hb
    go_wp2_with fail
    go_meet
    case rel => exact ⟨rfl, by rw [hd]⟩
   ·have hbb : (b == 5) = false := by simp [hb]
    have hs1 := HSZ.out
    have hs2 := HSZ2.out
    by_cases hn : rtN l = [48]
    ·have hx : tn.toList = [48] := by rw [ByteArray.toList_eq, HTN.out]; exact hn
     by_cases hlt : (rtS l).length < l.length
     ·have hd : decide (rtP5 l) = true := decide_eq_true (HP5.out.2 (.inr (.inr ⟨hn, hlt⟩)))
      have hlI : ((rtS l).length : Int) < (l.length : Int) := by omega
      clear ha hb hn hlt
      go_wp2_with fail
      go_meet
      case rel => exact ⟨rfl, by rw [hd]⟩
     ·have hd : decide (rtP5 l) = false := decide_eq_false fun h => (HP5.out.1 h).elim ha fun h => h.elim hb fun h => hlt h.2
      have hlI : ¬ ((rtS l).length : Int) < (l.length : Int) := by omega
      clear ha hb hn hlt
      go_wp2_with fail
      go_meet
      case rel => exact ⟨rfl, by rw [hd]⟩
    ·have hx : ¬ tn.toList = [48] := by rw [ByteArray.toList_eq, HTN.out]; exact hn
     have hd : decide (rtP5 l) = false := decide_eq_false fun h => (HP5.out.1 h).elim ha fun h => h.elim hb fun h => hn h.1
     clear ha hb hn
     go_wp2_with fail
     go_meet
     case rel => exact ⟨rfl, by rw [hd]⟩
 obtain ⟨hwc, rfl⟩ := hcut
 subst hwc
 generalize wc = V at *
 by_cases hP5 : rtP5 l
 ·have hR : Hid (ratCk l = 5) := Lib.hid (by unfold ratCk; rw [if_pos hP5])
  rw [decide_eq_true hP5]
  clear hP5
  go_wp2_with fail
  go_ret
  exact ⟨ret_int hR.out.symm, HB4.out⟩
 ·have HP5 := Lib.hid hP5
  rw [decide_eq_false hP5]
  clear hP5
  go_upto_region 8 with fail
  go_cut [42] (fun v wd => wd = V ∧ v = .bool (decide (rtP2 l)))
  case first =>
   have HP2 : Hid (rtP2 l ↔ (a ≠ 0 ∨ b ≠ 0)) := Lib.hid (by unfold rtP2; rw [HA.out, HBb.out])
   by_cases ha : a = 0
   ·subst ha
    by_cases hb : b = 0
    ·subst hb
     have hd : decide (rtP2 l) = false := decide_eq_false fun h => (HP2.out.1 h).elim (fun e => e rfl) fun e => e rfl
     go_wp2_with fail
     go_meet
     case rel => exact ⟨rfl, by rw [hd]⟩
    ·have hd : decide (rtP2 l) = true := decide_eq_true (HP2.out.2 (.inr hb))
     have hbb : (b != 0) = true := by simp [hb]
     clear hb
     go_wp2_with fail
     go_meet
     case rel => exact ⟨rfl, by rw [hd]⟩
   ·have hd : decide (rtP2 l) = true := decide_eq_true (HP2.out.2 (.inl ha))
    have hab : (a != 0) = true := by simp [ha]
    clear ha
    go_wp2_with fail
    go_meet
    case rel => exact ⟨rfl, by rw [hd]⟩
  obtain ⟨hwc, rfl⟩ := hcut
  subst hwc
  generalize wc = V at *
  by_cases hP2 : rtP2 l
  ·have hR : Hid (ratCk l = 2) := Lib.hid (by unfold ratCk; rw [if_neg HP5.out, if_pos hP2])
   rw [decide_eq_true hP2]
   clear hP2
   go_wp2_with fail
   go_ret
   exact ⟨ret_int hR.out.symm, HB4.out⟩
  ·have HP2 := Lib.hid hP2
   rw [decide_eq_false hP2]
   clear hP2
   cases is with
   | false =>
    have hR : Hid (ratCk l = 0) := Lib.hid (by unfold ratCk; rw [if_neg HP5.out, if_neg HP2.out, if_neg (by rw [HI.out]; simp)])
    go_wp2_with fail
    go_ret
    exact ⟨ret_int hR.out.symm, HB4.out⟩
   | true =>
    have hn0 : natCk tn.data.toList = 0 := by rw [HTN.out]; exact Classical.byContradiction fun h => HP2.out (.inl h)
    have hd0 : natCk td.data.toList = 0 := by
     rw [HTD.out]
     refine Classical.byContradiction fun h => HP2.out (.inr ?_)
     unfold rtB
     rw [HI.out]
     exact h
    go_wp2_with fail
    refine (ngcd_ok tn td V hn0 hd0 (HT.out.up HB4.out)).mono ?_
    rw [HTN.out, HTD.out]
    rintro e w6 ⟨rfl, hb6⟩
    have HB6 := Lib.hid (HB4.out.trans (hb6.mono HB4.out.size))
    clear hb6 hn0 hd0
    obtain ⟨tg, htg⟩ : ∃ t : ByteArray, ⟨(Lib.decDigits ((dv (rtN l)).gcd (dv (rtD l)))).toArray⟩ = t := ⟨_, rfl⟩
    have HTG : Hid (tg.toList = [49] ↔ (dv (rtN l)).gcd (dv (rtD l)) = 1) := Lib.hid (by
     rw [ByteArray.toList_eq, ← htg]
     exact dec_one)
    have HTL : Hid (td.toList = rtD l) := Lib.hid (by rw [ByteArray.toList_eq]; exact HTD.out)
    rw [htg]
    clear htg
    go_upto_region 12 with fail
    go_cut [65] (fun v wd => wd = w6 ∧ v = .bool (decide (rtP3 l)))
    case first =>
     by_cases h0 : td.toList = [48]
     ·have hd : decide (rtP3 l) = true := decide_eq_true (.inl (by rw [← HTL.out]; exact h0))
      go_wp2_with fail
      go_meet
      case rel => exact ⟨rfl, by rw [hd]⟩
     ·by_cases h1 : td.toList = [49]
      ·have hd : decide (rtP3 l) = true := decide_eq_true (.inr (.inl (by rw [← HTL.out]; exact h1)))
       go_wp2_with fail
       go_meet
       case rel => exact ⟨rfl, by rw [hd]⟩
      ·by_cases h2 : tg.toList = [49]
       ·have hd : decide (rtP3 l) = false := decide_eq_false fun h => h.elim (fun h => h0 (HTL.out.trans h)) fun h => h.elim (fun h => h1 (HTL.out.trans h)) fun h => h (HTG.out.1 h2)
        go_wp2_with fail
        go_meet
        case rel => exact ⟨rfl, by rw [hd]; simp [h0, h1, h2]⟩
       ·have hd : decide (rtP3 l) = true := decide_eq_true (.inr (.inr fun h => h2 (HTG.out.2 h)))
        go_wp2_with fail
        go_meet
        case rel => exact ⟨rfl, by rw [hd]; simp [h0, h1, h2]⟩
    obtain ⟨hwc, rfl⟩ := hcut
    subst hwc
    by_cases hP3 : rtP3 l
    ·have hR : Hid (ratCk l = 3) := Lib.hid (by unfold ratCk; rw [if_neg HP5.out, if_neg HP2.out, if_pos ⟨HI.out, hP3⟩])
     rw [decide_eq_true hP3]
     clear hP3
     go_wp2_with fail
     go_ret
     exact ⟨ret_int hR.out.symm, HB6.out⟩
    ·have hR : Hid (ratCk l = 0) := Lib.hid (by unfold ratCk; rw [if_neg HP5.out, if_neg HP2.out, if_neg (fun h => hP3 h.2)])
     rw [decide_eq_false hP3]
     clear hP3
     go_wp2_with fail
     go_ret
     exact ⟨ret_int hR.out.symm, HB6.out⟩
end
end Go.Proofs.YtakllkkmofdpaaaGreatDoor
