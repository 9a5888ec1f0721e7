import Derived.Test.YtakllkkmofdpaaaGreatDoorU08
import Derived.Deep.CutBlock
set_option linter.unusedVariables false
set_option linter.unusedSimpArgs false
namespace Go.Proofs.YtakllkkmofdpaaaGreatDoor
section
open Go.ChangeShapes Go.WideShapes Go.ChangeAt Go.RowKit
attribute [local go_sem ↓] execOp_call_val
attribute [local go_sem] callVal_func setCell_drewN alloc_drewN
def DivWP (x y : Nat) (w : World) (e : Ending) (w' : World) : Prop := Below w.heap.size w w' ∧ ∃ A n c l B m d l2, e = .returned (.tuple #[.slice A n c, .slice B m d]) ∧ (RdW w' w'.heap.size A n l ∧ Wd l ∧ wv l = x / y ∧ n ≤ c ∧ c ≤ 9223372036854775807) ∧ (RdW w' w'.heap.size B m l2 ∧ Wd l2 ∧ wv l2 = x % y ∧ m ≤ d ∧ d ≤ 9223372036854775807) ∧ n ≤ 35184372088833 ∧ m ≤ 35184372088832
set_option maxRecDepth 100000 in
set_option maxHeartbeats 8000000 in
theorem divW_any (A : Option Addr) (n c : Nat) (B : Option Addr) (m d : Nat) (x y : Nat) (w : World) (hx : RdW w w.heap.size A n (dig x)) (hy : RdW w w.heap.size B m (dig y)) (hy0 : 0 < y) (hnc : n ≤ c) (hcm : c ≤ 9223372036854775807) (hn : n ≤ 35184372088832) (hm : m ≤ 35184372088832) :
    Calls Tryz.prog 143 #[.slice A n c, .slice B m d] w (DivWP x y w) := by
 have HX := Lib.hid hx
 have HY := Lib.hid hy
 have HXL : Hid (dlen x = n) := Lib.hid hx.len
 have HYL : Hid (dlen y = m) := Lib.hid hy.len
 have hm0 : 0 < m := by rw [← HYL.out, dlen_pos (by omega)]; omega
 clear hx hy
 go_enter Tryz.func143, Tryz.ntmps143
 go_wp2_with fail
 refine (cmpW_any A n c B m d x y w HX.out HY.out (by omega) (by omega)).mono ?_
 rintro e w1 ⟨⟨r, rfl, hr⟩, nq, rfl⟩
 have hdr : Below w.heap.size w (w.drewN nq) := below_drewN (Below.refl _ _) nq
 have HB1 := Lib.hid hdr
 have HX1 := Lib.hid (HX.out.up hdr)
 have HY1 := Lib.hid (HY.out.up hdr)
 clear hdr HX HY
 generalize w.drewN nq = v at *
 by_cases hr0 : r < 0
 ·have HLT : Hid (x < y) := Lib.hid (hr.1.1 hr0)
  clear hr
  go_wp2_with fail
  go_ret2
  exact ⟨HB1.out, none, 0, 0, [], A, n, c, dig x, rfl, ⟨rdW_nil _ _ _, wd_nil, by rw [Nat.div_eq_of_lt HLT.out]; rfl, Nat.le_refl _, by decide⟩, ⟨HX1.out, wd_dig _, by rw [Nat.mod_eq_of_lt HLT.out, wv_dig], hnc, hcm⟩, by omega, by omega⟩
 ·have HLE : Hid (y ≤ x) := Lib.hid (Nat.le_of_not_lt fun h => hr0 (hr.1.2 h))
  have hr1 : 0 ≤ r := by omega
  clear hr hr0
  obtain ⟨bb, bo, hB1, hbb⟩ := HY1.out.form hm0
  subst hB1
  by_cases hm1 : m = 1
  ·subst hm1
   have hy32 : y < 4294967296 := by
    have := lt_dlen y
    rw [HYL.out] at this
    exact this
   have HD0 : Hid ((dig y).getD 0 0 = y) := Lib.hid (by
    rw [dig_pos (by omega), Nat.mod_eq_of_lt hy32]; rfl)
   have hcb := HY1.out.at_ (i := 0) (by omega)
   rw [HD0.out, Nat.add_zero] at hcb
   go_wp2_with fail
   refine (sdivW A n c y (dig x) v HX1.out (wd_dig _) hn hy0 hy32).mono ?_
   rw [wv_dig]
   rintro e w2 ⟨hb2, g2, n2, l2, rfl, hr2, hd2, hv2, hn2, -⟩
   have HB2 := Lib.hid (HB1.out.trans (hb2.mono HB1.out.size))
   have HR2 := Lib.hid hr2
   have HV2 := Lib.hid hv2
   have HD2 := Lib.hid hd2
   have hml : x % y < 4294967296 := Nat.lt_trans (Nat.mod_lt _ hy0) hy32
   obtain ⟨t, ht⟩ : ∃ t, x % y = t := ⟨_, rfl⟩
   have HT := Lib.hid ht
   rw [ht] at hml ⊢
   have HK2 := Lib.hid ((Below.refl w2.heap.size w2).alloc (Nat.le_refl _) (.cells #[.int .u32 (t : Int)] 171))
   have HG2 : Hid (Blk (w2.alloc (.cells #[.int .u32 (t : Int)] 171)) w2.heap.size 171 (u32s [t]).toArray) := Lib.hid (Blk.new w2 _ _)
   clear hb2 hr2 hv2 hd2 ht hcb hr1
   go_wp2_with fail
   go_ret2
   exact ⟨HB2.out.trans (HK2.out.mono HB2.out.size), _, n2, n2, l2, _, 1, 1, [t], rfl, ⟨HR2.out.up HK2.out, HD2.out, HV2.out, Nat.le_refl _, by omega⟩, ⟨rdW_blk HG2.out, fun z hz => by rw [List.mem_singleton.1 hz]; exact hml, by rw [HT.out]; simp [wv], Nat.le_refl _, by decide⟩, by omega, by omega⟩
  ·have hm2 : 2 ≤ m := by omega
   have hmb : ((m : Int) == 1) = false := by simp; omega
   have HTP : Hid (0 < (dig y).getD (m - 1) 0 ∧ (dig y).getD (m - 1) 0 < 4294967296) := Lib.hid ⟨by
    have h := (nrm_dig y).2
    have hl : (dig y).length = m := HYL.out
    rw [List.getLast?_eq_getElem?, hl, List.getElem?_eq_getElem (by omega)] at h
    rw [List.getD_eq_getElem?_getD, List.getElem?_eq_getElem (by omega)]
    simp only [Option.getD_some]
    refine Nat.pos_of_ne_zero fun e => h (by rw [e])
    , (wd_dig y).getD _⟩
   have hcb := HY1.out.at_ (i := m - 1) (by omega)
   obtain ⟨bt, hbt⟩ : ∃ t, (dig y).getD (m - 1) 0 = t := ⟨_, rfl⟩
   have HBT := Lib.hid hbt
   rw [hbt] at hcb HTP
   obtain ⟨ht0, ht1⟩ := HTP.out
   have g1 : (1 : Int) ≤ (m : Int) := by omega
   have g4 : ((m : Int) - 1).toNat = m - 1 := by omega
   have g5 : (m : Int) - 1 < (m : Int) := by omega
   have hmI : (m : Int) ≤ 35184372088832 := by omega
   clear hbt
   go_wp2_with fail
   clear hcb
   refine (lz_any bt v ht0 ht1).mono ?_
   rintro e w2 ⟨⟨s, rfl, hs⟩, rfl⟩
   have HS := Lib.hid hs
   have hs31 := hs.le
   clear hs ht0 ht1 g1 g4 g5
   go_wp2_with fail
   have HX1D : Hid (RdW v.drew v.drew.heap.size A n (dig x)) := Lib.hid HX1.out
   have HY1D : Hid (RdW v.drew v.drew.heap.size (some ⟨bb, bo, none⟩) m (dig y)) := Lib.hid HY1.out
   have hm1I : (m : Int) ≤ (m : Int) + 1 := by omega
   refine wp_region_last (S := fun w' => Below v.heap.size v w') 10 _ (by kernel_rfl) (by kernel_rfl) rfl (below_drew (Below.refl _ _)) (fun hHeld => ?_)
   simp only [List.take_succ_cons, List.take_zero]
   refine tkH 0 rfl (by intro w' _ hcc; go_simp <;> with_reducible rfl) hHeld ?_
   try simp only [Act.put, sA_, sB_, sC_]
   refine tkH 1 rfl (by intro w' _ hcc; go_simp <;> with_reducible rfl) hHeld ?_
   try simp only [Act.put, sA_, sB_, sC_]
   refine tkH 3 rfl (by intro w' _ hcc; go_simp <;> with_reducible rfl) hHeld ?_
   try simp only [Act.put, sA_, sB_, sC_]
   refine tkH 4 rfl (by intro w' _ hcc; go_simp <;> with_reducible rfl) hHeld ?_
   try simp only [Act.put, sA_, sB_, sC_]
   refine tkH 6 rfl (by intro w' _ hcc; go_simp <;> with_reducible rfl) hHeld ?_
   try simp only [Act.put, sA_, sB_, sC_]
   refine tkH 7 rfl (by intro w' _ hcc; go_simp <;> with_reducible rfl) hHeld ?_
   try simp only [Act.put, sA_, sB_, sC_]
   refine stepH 2 (by kernel_rfl) rfl (fun K hK => ?_)
   go_simp
   refine (shW A n c s (dig x) v.drew HX1D.out (wd_dig _) hn hs31).mono ?_
   rw [wv_dig]
   rintro e w3 ⟨hb3, gu, us, rfl, hgu, hu, hud, huv, hul⟩
   have HB3 := Lib.hid ((below_drew (Below.refl v.heap.size v)).trans hb3)
   have HU3 := Lib.hid hu
   have HUP : Hid (Wd us ∧ wv us = x * 2 ^ s ∧ us.length = n + 1) := Lib.hid ⟨hud, huv, hul⟩
   have hgu2 : v.heap.size ≤ gu := hgu
   have HY3 := Lib.hid (HY1D.out.up hb3)
   clear hb3 hu hud huv hul hgu
   go_simp
   refine hK.out _ _ ?_ (fun hHeld => ?_)
   ·exact HB3.out
   clear hK K
   try simp only [Act.put, sA_, sB_, sC_]
   refine stepH 5 (by kernel_rfl) rfl (fun K hK => ?_)
   go_simp
   refine (shW (some ⟨bb, bo, none⟩) m d s (dig y) w3 HY3.out (wd_dig _) hm hs31).mono ?_
   rw [wv_dig]
   rintro e w4 ⟨hb4, gv, vs, rfl, hgv, hv4, hvd, hvv, hvl⟩
   have HB4 := Lib.hid (HB3.out.trans (hb4.mono HB3.out.size))
   have HV4 := Lib.hid hv4
   have HVP : Hid (Wd vs ∧ wv vs = y * 2 ^ s ∧ vs.length = m + 1) := Lib.hid ⟨hvd, hvv, hvl⟩
   have hguv : gu < gv := Nat.lt_of_lt_of_le HU3.out.lt hgv
   have HU4 := Lib.hid (HU3.out.below hb4 HU3.out.lt)
   clear hb4 hv4 hvd hvv hvl hgv
   go_simp
   refine hK.out _ _ ?_ (fun hHeld => ?_)
   ·exact HB4.out
   clear hK K
   try simp only [Act.put, sA_, sB_, sC_]
   refine tkH 8 rfl (by intro w' _ hcc; go_simp <;> with_reducible rfl) hHeld ?_
   try simp only [Act.put, sA_, sB_, sC_]
   refine tkH 9 rfl (by intro w' _ hcc; go_simp <;> with_reducible rfl) hHeld ?_
   try simp only [Act.put, sA_, sB_, sC_]
   refine wpAnyH_done (by kernel_rfl) ?_ _
   refine lastQ_go (by rfl) ?_
   go_simp
   have hmn : m ≤ n := by rw [← HXL.out, ← HYL.out]; exact dlen_mono HLE.out
   have HNV : Hid (wv (vs.take m) = y * 2 ^ s ∧ 2147483648 ≤ (vs.take m).getD (m - 1) 0) := Lib.hid (by
    have hlz := HS.out
    have h := norm_div (n := m) (by omega) (wd_dig y) HYL.out HVP.out.1 HVP.out.2.2 (by rw [wv_dig]; exact HVP.out.2.1) (by rw [HBT.out]; exact hlz.lo) (by rw [HBT.out]; exact hlz.hi) hlz.le
    rwa [wv_dig] at h)
   obtain ⟨k, hk⟩ : ∃ k, n = k + m := ⟨n - m, by omega⟩
   subst hk
   have hmk : ∀ w : World, (Instr.makeSlice 89 (.int .i64 ((k : Int) + 1)) (.int .i64 ((k : Int) + 1))).run Tryz.prog w = .ok (.slice (some ⟨w.heap.size, 0, none⟩) (k + 1) (k + 1)) (w.alloc (.cells (u32s (List.replicate (k + 1) 0)).toArray 171)) := fun w => make_u32 (k + 1) (by omega) w
   have HKQ := Lib.hid ((Below.refl w4.heap.size w4).alloc (Nat.le_refl _) (.cells (u32s (List.replicate (k + 1) 0)).toArray 171))
   have HQ0 := Lib.hid (Blk.new w4 171 (u32s (List.replicate (k + 1) 0)).toArray)
   go_wp2_with fail
   clear hmk
   obtain ⟨vm, hvm⟩ : ∃ l, vs.take m = l := ⟨_, rfl⟩
   have HVM := Lib.hid hvm
   have HVL : Hid (vm.length = m) := Lib.hid (by rw [← hvm, List.length_take, HVP.out.2.2]; omega)
   have HVW : Hid (Wd vm) := Lib.hid (by rw [← hvm]; exact HVP.out.1.take m)
   have HVT : Hid (∀ i, i < m → vs.getD i 0 = vm.getD i 0) := Lib.hid (fun i hi => by
    rw [← hvm, List.getD_eq_getElem?_getD, List.getD_eq_getElem?_getD, List.getElem?_take_of_lt hi])
   rw [hvm] at HNV
   clear hvm
   have HUL : Hid (us.length = k + m + 1) := Lib.hid HUP.out.2.2
   have HS0 : Hid (Steps (x * 2 ^ s) us vm (List.replicate (k + 1) 0) m (k + 1)) := Lib.hid (steps_start (a := dig x) (wv_dig x) (wd_dig x) HXL.out (by omega) HUP.out.1 (wd_zeros _) HUP.out.2.1 hs31 HVL.out HNV.out.2 (zf_zeros _ _))
   have HV1 : Hid (2147483648 ≤ vm.getD (m - 1) 0) := Lib.hid HNV.out.2
   have HB5 := Lib.hid (HB4.out.trans (HKQ.out.mono HB4.out.size))
   have HU5 := Lib.hid (HU4.out.below HKQ.out HU4.out.lt)
   have HV5 := Lib.hid (HV4.out.below HKQ.out HV4.out.lt)
   have hgvq : gv < w4.heap.size := HV4.out.lt
   have hgb : v.heap.size ≤ gu := hgu2
   have hgbq : v.heap.size ≤ w4.heap.size := by omega
   have hnv : gv ≠ gu := by omega
   have hnq : w4.heap.size ≠ gu := by omega
   have hnqv : gv ≠ w4.heap.size := by omega
   have hnqu : gu ≠ w4.heap.size := by omega
   generalize w4.alloc (.cells (u32s (List.replicate (k + 1) 0)).toArray 171) = W at *
   generalize w4.heap.size = gq at *
   clear HB3 HU3 HY3 HB4 HU4 HV4 HX1D HY1D hm1I HKQ
   clear HX1 HY1
   go_loopw [12] (fun v12 wr => ∃ (j : Nat) (us qs : List Nat), j ≤ k + 1 ∧ v12 = .int .i64 ((j : Int) - 1) ∧ Below v.heap.size v wr ∧ Blk wr gv 171 (u32s vs).toArray ∧ Blk wr gu 171 (u32s us).toArray ∧ us.length = k + m + 1 ∧ Blk wr gq 171 (u32s qs).toArray ∧ qs.length = k + 1 ∧ Steps (x * 2 ^ s) us vm qs m j) (fun v12 _ => (intOf v12 + 1).toNat)
   case atStart => exact ⟨k + 1, us, _, Nat.le_refl _, val_int (by omega), HB5.out, HV5.out, HU5.out, HUL.out, HQ0.out, by simp, HS0.out⟩
   case round => as_aux_lemma =>
    clear HB5 HV5 HU5 HUL HQ0 HS0 HUP
    obtain ⟨j, us, qs, hj, rfl, hb, hv, hu, hul, hq, hql, hst⟩ := hrel
    have HB := Lib.hid hb
    have HV := Lib.hid hv
    have HU := Lib.hid hu
    have HUL := Lib.hid hul
    have HQ := Lib.hid hq
    have HQL := Lib.hid hql
    have HST := Lib.hid hst
    clear hb hv hu hul hq hql hst
    by_cases h0 : j = 0
    ·subst h0
     have e : (((0 : Nat) : Int) - 1) = -1 := rfl
     rw [e]
     clear e
     have HDD := Lib.hid (div_done HST.out HNV.out.1 hy0)
     have hyB : y < BB m := by have := lt_dlen y; rwa [HYL.out] at this
     have HUZ : Hid (wv us / 2 ^ s < BB m) := Lib.hid (Nat.lt_trans HDD.out.2.2 hyB)
     have HUW : Hid (Wd us) := Lib.hid HST.out.ud
     have HQW : Hid (Wd qs) := Lib.hid HST.out.qd
     have hmk2 : ∀ w : World, (Instr.makeSlice 89 (.int .i64 (m : Int)) (.int .i64 (m : Int))).run Tryz.prog w = .ok (.slice (some ⟨w.heap.size, 0, none⟩) m m) (w.alloc (.cells (u32s (List.replicate m 0)).toArray 171)) := fun w => make_u32 m (by omega) w
     have HKR := Lib.hid ((Below.refl wr.heap.size wr).alloc (Nat.le_refl _) (.cells (u32s (List.replicate m 0)).toArray 171))
     have HR0 := Lib.hid (Blk.new wr 171 (u32s (List.replicate m 0)).toArray)
     have HB6 := Lib.hid (HB.out.trans (HKR.out.mono HB.out.size))
     have HU6 := Lib.hid (HU.out.below HKR.out HU.out.lt)
     have HQ6 := Lib.hid (HQ.out.below HKR.out HQ.out.lt)
     have hgr1 : wr.heap.size ≠ gu := by have := HU.out.lt; omega
     have hgr2 : gu ≠ wr.heap.size := by have := HU.out.lt; omega
     have hgr3 : gq ≠ wr.heap.size := by have := HQ.out.lt; omega
     have hgr4 : v.heap.size ≤ wr.heap.size := HB.out.size
     clear HST
     go_wp2_with fail
     clear hmk2
     generalize wr.alloc (.cells (u32s (List.replicate m 0)).toArray 171) = WR at *
     generalize wr.heap.size = gr at *
     clear HB HV HU HQ HKR
     go_loopw [250] (fun v250 wr => ∃ (z : Nat) (rs : List Nat), z ≤ m ∧ v250 = .int .i64 z ∧ Below v.heap.size v wr ∧ Blk wr gu 171 (u32s us).toArray ∧ Blk wr gq 171 (u32s qs).toArray ∧ Blk wr gr 171 (u32s rs).toArray ∧ rs.length = m ∧ Wd rs ∧ Zf rs z ∧ wv rs = wv us / 2 ^ s % BB z) (fun v250 _ => m - (intOf v250).toNat)
     case atStart => exact ⟨0, _, Nat.zero_le _, rfl, HB6.out, HU6.out, HQ6.out, HR0.out, by simp, wd_zeros _, zf_zeros _ _, by rw [wv_zeros, BB_zero, Nat.mod_one]⟩
     case round => as_aux_lemma =>
      clear HB6 HU6 HQ6 HR0
      obtain ⟨z, rs, hz, rfl, hb, hu, hq, hr, hrl, hrw, hrz, hrv⟩ := hrel
      have HB := Lib.hid hb
      have HU := Lib.hid hu
      have HQ := Lib.hid hq
      have HR := Lib.hid hr
      have HRL := Lib.hid hrl
      have HRW := Lib.hid hrw
      have HRZ := Lib.hid hrz
      have HRV := Lib.hid hrv
      have hgrl := hr.lt
      have hgul := hu.lt
      have hfr := hr.frozen
      clear hb hu hq hr hrl hrw hrz hrv
      by_cases hzm : z < m
      ·have hc0 := blkW_cell HU.out (i := z) (by rw [HUL.out]; omega)
       have hc1 := blkW_cell HU.out (i := z + 1) (by rw [HUL.out]; omega)
       have hcr := blkW_cell HR.out (i := z) (by rw [HRL.out]; omega)
       have hb0 := HUW.out.getD z
       have hb1 := HUW.out.getD (z + 1)
       have HBS := Lib.hid (back_shift HUW.out hs31 hzm (by rw [HRL.out]; omega) (by rw [HUL.out]; omega) HRZ.out HRV.out)
       obtain ⟨x0, hx0⟩ : ∃ a, us.getD z 0 = a := ⟨_, rfl⟩
       obtain ⟨x1, hx1⟩ : ∃ a, us.getD (z + 1) 0 = a := ⟨_, rfl⟩
       obtain ⟨x2, hx2⟩ : ∃ a, rs.getD z 0 = a := ⟨_, rfl⟩
       rw [hx0] at hc0 hb0
       rw [hx1] at hc1 hb1
       rw [hx0, hx1] at HBS
       rw [hx2] at hcr
       have hor : bits BinOp.or IntKind.u64 ((x1 : Int) * 4294967296) (x0 : Int) = ((x1 * 4294967296 + x0 : Nat) : Int) := or_words x1 x0 32 (by omega) hb1 hb0
       have hs64 := HBS.out.1
       have HB2 := Lib.hid HBS.out.2
       clear HBS hx0 hx1 hx2
       generalize x1 * 4294967296 + x0 = sm at *
       have HN1 : Hid ((z : Int) + 1 = ((z + 1 : Nat) : Int)) := Lib.hid (by omega)
       have HN2 : Hid (m - (z + 1) < m - z) := Lib.hid (by omega)
       have HN3 : Hid ((sm : Int) / 2 ^ s % 4294967296 = ((sm / 2 ^ s % 4294967296 : Nat) : Int)) := Lib.hid (by
        rw [Int.natCast_emod, Int.natCast_ediv, Int.natCast_pow]; rfl)
       have HRL2 : Hid ((rs.set z (sm / 2 ^ s % 4294967296)).length = m) := Lib.hid (by rw [List.length_set]; exact HRL.out)
       have HRW2 : Hid (Wd (rs.set z (sm / 2 ^ s % 4294967296))) := Lib.hid (HRW.out.set _ (Nat.mod_lt _ (by decide)))
       have HRZ2 : Hid (Zf (rs.set z (sm / 2 ^ s % 4294967296)) (z + 1)) := Lib.hid HRZ.out.put
       have s1 : (z : Int) < (m : Int) := by omega
       have s2 : IntKind.i64.wrap ((z : Int) + 1) = (z : Int) + 1 := Go.IntWalk.i64_in _ (by omega)
       have s3 : ((z : Int) + 1).toNat = z + 1 := by omega
       have s4 : (z : Int) + 1 < (k : Int) + (m : Int) + 1 := by omega
       have s5 : (0 : Int) ≤ (z : Int) + 1 := by omega
       have s6 : (z : Int) < (k : Int) + (m : Int) + 1 := by omega
       go_wp2_with fail
       refine wp_region_last (S := fun w' => Below wr.heap.size wr w') 19 _ (by kernel_rfl) (by kernel_rfl) rfl (below_drew (Below.refl _ _)) (fun hHeld => ?_)
       simp only [List.take_succ_cons, List.take_zero]
       refine tkH 0 rfl (by intro w' _ hcc; go_simp <;> with_reducible rfl) hHeld ?_
       try simp only [Act.put, sA_, sB_, sC_]
       refine tkH 1 rfl (by intro w' _ hcc; go_simp <;> with_reducible rfl) hHeld ?_
       try simp only [Act.put, sA_, sB_, sC_]
       refine tkH 2 rfl (by intro w' _ hcc; go_simp <;> with_reducible rfl) hHeld ?_
       try simp only [Act.put, sA_, sB_, sC_]
       refine tkH 3 rfl (by intro w' _ hcc; go_simp <;> with_reducible rfl) hHeld ?_
       try simp only [Act.put, sA_, sB_, sC_]
       refine tkH 4 rfl (by intro w' _ hcc; go_simp <;> with_reducible rfl) hHeld ?_
       try simp only [Act.put, sA_, sB_, sC_]
       refine tkH 5 rfl (by intro w' _ hcc; go_simp <;> with_reducible rfl) hHeld ?_
       try simp only [Act.put, sA_, sB_, sC_]
       refine tkH 6 rfl (by intro w' _ hcc; go_simp <;> with_reducible rfl) hHeld ?_
       try simp only [Act.put, sA_, sB_, sC_]
       refine tkH 7 rfl (by intro w' _ hcc; go_simp <;> with_reducible rfl) hHeld ?_
       try simp only [Act.put, sA_, sB_, sC_]
       refine tkH 8 rfl (by intro w' _ hcc; go_simp <;> with_reducible rfl) hHeld ?_
       try simp only [Act.put, sA_, sB_, sC_]
       refine tkH 9 rfl (by intro w' _ hcc; go_simp <;> with_reducible rfl) hHeld ?_
       try simp only [Act.put, sA_, sB_, sC_]
       refine tkH 10 rfl (by intro w' _ hcc; go_simp <;> with_reducible rfl) hHeld ?_
       try simp only [Act.put, sA_, sB_, sC_]
       refine tkH 11 rfl (by intro w' _ hcc; go_simp <;> with_reducible rfl) hHeld ?_
       try simp only [Act.put, sA_, sB_, sC_]
       refine tkH 12 rfl (by intro w' _ hcc; go_simp <;> with_reducible rfl) hHeld ?_
       try simp only [Act.put, sA_, sB_, sC_]
       refine tkH 13 rfl (by intro w' _ hcc; go_simp <;> with_reducible rfl) hHeld ?_
       try simp only [Act.put, sA_, sB_, sC_]
       refine tkH 14 rfl (by intro w' _ hcc; go_simp <;> with_reducible rfl) hHeld ?_
       try simp only [Act.put, sA_, sB_, sC_]
       refine tkH 15 rfl (by intro w' _ hcc; go_simp <;> with_reducible rfl) hHeld ?_
       try simp only [Act.put, sA_, sB_, sC_]
       refine tkH 16 rfl (by intro w' _ hcc; go_simp <;> with_reducible rfl) hHeld ?_
       try simp only [Act.put, sA_, sB_, sC_]
       refine tkH 17 rfl (by intro w' _ hcc; go_simp <;> with_reducible rfl) hHeld ?_
       try simp only [Act.put, sA_, sB_, sC_]
       refine tkH 18 rfl (by intro w' _ hcc; go_simp <;> with_reducible rfl) hHeld ?_
       try simp only [Act.put, sA_, sB_, sC_]
       refine wpAnyH_done (by kernel_rfl) ?_ _
       refine lastQ_go (by rfl) ?_
       go_wp2_with fail
       clear s1 s2 s3 s4 s5 s6
       go_roundw
       case rel => exact ⟨z + 1, rs.set z (sm / 2 ^ s % 4294967296), hzm, val_int HN1.out, below_drew (HB.out.setCell hgr4 _), (HU.out.far hgr2 _).drew, (HQ.out.far hgr3 _).drew, (blkW_set HR.out HN3.out).drew, HRL2.out, HRW2.out, HRZ2.out, HB2.out⟩
       case measure => exact HN2.out
      ·have hze : z = m := by omega
       subst hze
       have HV1 : Hid (wv rs = x % y) := Lib.hid (by rw [HRV.out, Nat.mod_eq_of_lt HUZ.out]; exact HDD.out.2.1)
       go_wp2_with fail
       go_ret2
       exact ⟨HB1.out.trans (HB.out.mono HB1.out.size), _, k + 1, k + 1, qs, _, z, z, rs, rfl, ⟨by have := rdW_blk HQ.out; rwa [HQL.out] at this, HQW.out, HDD.out.1, Nat.le_refl _, by omega⟩, ⟨by have := rdW_blk HR.out; rwa [HRL.out] at this, HRW.out, HV1.out, Nat.le_refl _, by omega⟩, by omega, by omega⟩
    ·obtain ⟨i, rfl⟩ : ∃ i, j = i + 1 := ⟨j - 1, by omega⟩
     have e : (((i + 1 : Nat) : Int) - 1) = (i : Int) := by omega
     rw [e]
     clear e h0
     have HIN : Hid (DivIn us vm m i) := Lib.hid (steps_in HST.out hm2 HVL.out HVW.out HV1.out (by rw [HUL.out]; omega))
     obtain ⟨u1, hu1⟩ : ∃ t, us.getD (i + m) 0 = t := ⟨_, rfl⟩
     obtain ⟨u0, hu0⟩ : ∃ t, us.getD (i + m - 1) 0 = t := ⟨_, rfl⟩
     obtain ⟨u2, hu2⟩ : ∃ t, us.getD (i + m - 2) 0 = t := ⟨_, rfl⟩
     obtain ⟨v1, hv1⟩ : ∃ t, vm.getD (m - 1) 0 = t := ⟨_, rfl⟩
     obtain ⟨v2, hv2⟩ : ∃ t, vm.getD (m - 2) 0 = t := ⟨_, rfl⟩
     have hcu1 := blkW_cell HU.out (i := i + m) (by rw [HUL.out]; omega)
     have hcu0 := blkW_cell HU.out (i := i + m - 1) (by rw [HUL.out]; omega)
     have hcv1 := blkW_cell HV.out (i := m - 1) (by rw [HVP.out.2.2]; omega)
     have hbu1 := HIN.out.ud.getD (i + m)
     have hbu0 := HIN.out.ud.getD (i + m - 1)
     have hbu2 := HIN.out.ud.getD (i + m - 2)
     have hbv1 := HVW.out.getD (m - 1)
     have hbv2 := HVW.out.getD (m - 2)
     have hlv1 := HV1.out
     rw [HVT.out _ (by omega), hv1] at hcv1
     rw [hu1] at hcu1 hbu1
     rw [hu0] at hcu0 hbu0
     rw [hu2] at hbu2
     rw [hv1] at hbv1 hlv1
     rw [hv2] at hbv2
     have HTP : Hid (DivIn.tp us m i = u1 * 4294967296 + u0) := Lib.hid (by unfold DivIn.tp; rw [hu1, hu0])
     have HU2 := Lib.hid hu2
     have HVV1 := Lib.hid hv1
     have HVV2 := Lib.hid hv2
     clear hu1 hu0 hu2 hv1 hv2
     have s1 : IntKind.i64.wrap ((i : Int) + (m : Int)) = (i : Int) + (m : Int) := Go.IntWalk.i64_in _ (by omega)
     have s2 : IntKind.i64.wrap ((i : Int) + (m : Int) - 1) = (i : Int) + (m : Int) - 1 := Go.IntWalk.i64_in _ (by omega)
     have s3 : ((i : Int) + (m : Int)).toNat = i + m := by omega
     have s4 : ((i : Int) + (m : Int) - 1).toNat = i + m - 1 := by omega
     have s5 : (i : Int) + (m : Int) < (k : Int) + (m : Int) + 1 := by omega
     have s6 : (i : Int) + (m : Int) - 1 < (k : Int) + (m : Int) + 1 := by omega
     have s7 : (0 : Int) ≤ (i : Int) + (m : Int) := by omega
     have s8 : (0 : Int) ≤ (i : Int) + (m : Int) - 1 := by omega
     have s9 : (1 : Int) ≤ (i : Int) + (m : Int) := by omega
     have hor : bits BinOp.or IntKind.u64 ((u1 : Int) * 4294967296) (u0 : Int) = ((u1 * 4294967296 + u0 : Nat) : Int) := or_words u1 u0 32 (by omega) hbu1 hbu0
     have hgul : gu < wr.heap.size := HU.out.lt
     have hgvl : gv < wr.heap.size := HV.out.lt
     go_wp2_with fail
     go_cut [13] (fun v13 wc => v13 = .int .u64 ((u1 * 4294967296 + u0 : Nat) : Int) ∧ ∃ nq, wc = wr.drewN nq)
     case first =>
      go_quiet (fail)
      go_wp2_with fail
      go_meet
      case rel => exact ⟨rfl, _, rfl⟩
     obtain ⟨rfl, nq1, rfl⟩ := hcut
     have hcv1b : (wr.drewN nq1).cell? ⟨gv, m - 1, none⟩ = some (.int .u32 (v1 : Int)) := hcv1
     have hgvlb : gv < (wr.drewN nq1).heap.size := hgvl
     clear hcv1 hgvl hgul
     have HBx := Lib.hid (below_drewN HB.out nq1)
     have HVx := Lib.hid (HV.out.drewN nq1)
     have HUx := Lib.hid (HU.out.drewN nq1)
     have HQx := Lib.hid (HQ.out.drewN nq1)
     clear HB HV HU HQ
     have HB := HBx
     have HV := HVx
     have HU := HUx
     have HQ := HQx
     clear HBx HVx HUx HQx
     generalize wr.drewN nq1 = wa at *
     have HLT := Lib.hid (DivIn.top_lt HIN.out)
     rw [HTP.out, HVV1.out] at HLT
     have htb : u1 * 4294967296 + u0 < 18446744073709551616 := by omega
     generalize u1 * 4294967296 + u0 = tp at *
     clear hcu1 hcu0 s1 s2 s3 s4 s5 s6 s7 s8 s9 hor hbu1 hbu0
     have HGS0 := Lib.hid (guess_start HIN.out)
     rw [HTP.out, HVV1.out] at HGS0
     have htd := tdiv_nat tp v1
     have htm := tmod_nat tp v1
     have hqb : tp / v1 ≤ tp := Nat.div_le_self _ _
     have hrb : tp % v1 < v1 := Nat.mod_lt _ (by omega)
     generalize hg0 : tp / v1 = g0 at *
     generalize hr0 : tp % v1 = r0 at *
     have hwq : IntKind.u64.wrap (g0 : Int) = (g0 : Int) := Go.IntWalk.u64_in _ (by omega)
     have hv10 : ((v1 : Int) == 0) = false := by simp; omega
     have s1 : IntKind.i64.wrap ((m : Int) - 1) = (m : Int) - 1 := Go.IntWalk.i64_in _ (by omega)
     have s2 : ((m : Int) - 1).toNat = m - 1 := by omega
     have s3 : (m : Int) - 1 < (m : Int) := by omega
     have s4 : (1 : Int) ≤ (m : Int) := by omega
     clear hg0 hr0
     go_wp2_with fail
     go_cut [14, 15] (fun v14 v15 wc => v14 = .int .u64 (g0 : Int) ∧ v15 = .int .u64 (r0 : Int) ∧ ∃ nq, wc = wa.drewN nq)
     case first =>
      go_quiet (fail)
      go_wp2_with fail
      go_meet
      case rel => exact ⟨rfl, rfl, _, rfl⟩
     obtain ⟨rfl, rfl, nq2, rfl⟩ := hcut
     clear hcv1b hgvlb
     have HBx := Lib.hid (below_drewN HB.out nq2)
     have HVx := Lib.hid (HV.out.drewN nq2)
     have HUx := Lib.hid (HU.out.drewN nq2)
     have HQx := Lib.hid (HQ.out.drewN nq2)
     clear HB HV HU HQ
     have HB := HBx
     have HV := HVx
     have HU := HUx
     have HQ := HQx
     clear HBx HVx HUx HQx
     generalize wa.drewN nq2 = wb at *
     clear htd htm hwq hv10 s1 s2 s3 s4 hqb
     have hg064 : g0 < 18446744073709551616 := by
      have h := HGS0.out.eq
      rw [HVV1.out, HTP.out] at h
      have : g0 * 1 ≤ g0 * v1 := Nat.mul_le_mul_left _ (by omega)
      omega
     have hr032 : r0 < 4294967296 := by omega
     clear hrb htb
     go_upto_block 2 with fail
     go_cut [14] (fun v14 wc => ∃ g : Nat, v14 = .int .u64 (g : Int) ∧ GuessOk us vm i g ∧ ∃ nq, wc = wb.drewN nq)
     case first =>
      go_wp2_with fail
      go_loopw [14, 15] (fun v14 v15 wr => ∃ g rest : Nat, v14 = .int .u64 (g : Int) ∧ v15 = .int .u64 (rest : Int) ∧ g < 18446744073709551616 ∧ rest < 4294967296 ∧ Guess us vm m i g rest ∧ ∃ nq, wr = wb.drewN nq) (fun _ v15 _ => 4294967296 - (intOf v15).toNat)
      case atStart => exact ⟨g0, r0, rfl, rfl, hg064, hr032, HGS0.out, 0, rfl⟩
      case round => as_aux_lemma =>
       clear HGS0 hg064 hr032
       obtain ⟨g, rest, rfl, rfl, hg64, hr32, hG, nq3, rfl⟩ := hrel
       have HG := Lib.hid hG
       clear hG
       have hcu2 := blkW_cell HU.out (i := i + m - 2) (by rw [HUL.out]; omega)
       have hcv1 := blkW_cell HV.out (i := m - 1) (by rw [HVP.out.2.2]; omega)
       have hcv2 := blkW_cell HV.out (i := m - 2) (by rw [HVP.out.2.2]; omega)
       rw [HVT.out _ (by omega), HVV1.out] at hcv1
       rw [HVT.out _ (by omega), HVV2.out] at hcv2
       rw [HU2.out] at hcu2
       have hgul := HU.out.lt
       have hgvl := HV.out.lt
       have s1 : IntKind.i64.wrap ((m : Int) - 1) = (m : Int) - 1 := Go.IntWalk.i64_in _ (by omega)
       have s2 : ((m : Int) - 1).toNat = m - 1 := by omega
       have s3 : (m : Int) - 1 < (m : Int) := by omega
       have s4 : (1 : Int) ≤ (m : Int) := by omega
       have s5 : IntKind.i64.wrap ((m : Int) - 2) = (m : Int) - 2 := Go.IntWalk.i64_in _ (by omega)
       have s6 : ((m : Int) - 2).toNat = m - 2 := by omega
       have s7 : (m : Int) - 2 < (m : Int) := by omega
       have s8 : (2 : Int) ≤ (m : Int) := by omega
       have s9 : IntKind.i64.wrap ((i : Int) + (m : Int)) = (i : Int) + (m : Int) := Go.IntWalk.i64_in _ (by omega)
       have s10 : IntKind.i64.wrap ((i : Int) + (m : Int) - 2) = (i : Int) + (m : Int) - 2 := Go.IntWalk.i64_in _ (by omega)
       have s11 : ((i : Int) + (m : Int) - 2).toNat = i + m - 2 := by omega
       have s12 : (i : Int) + (m : Int) - 2 < (k : Int) + (m : Int) + 1 := by omega
       have s13 : (0 : Int) ≤ (i : Int) + (m : Int) - 2 := by omega
       have s14 : (2 : Int) ≤ (i : Int) + (m : Int) := by omega
       by_cases hbig : 4294967296 ≤ g
       ·have ta : decide ((4294967296 : Int) ≤ (g : Int)) = true := by simp; omega
        have ta2 : (4294967296 : Int) ≤ (g : Int) := by omega
        have HBG := Lib.hid hbig
        clear hbig
        have hdn := guess_down HIN.out HG.out (.inl HBG.out)
        obtain ⟨hg1, hdn2⟩ := hdn
        have HN1 : Hid ((g : Int) - 1 = ((g - 1 : Nat) : Int)) := Lib.hid (by omega)
        have HN2 : Hid ((rest : Int) + (v1 : Int) = ((rest + v1 : Nat) : Int)) := Lib.hid (by omega)
        have HN3 : Hid (g - 1 < 18446744073709551616) := Lib.hid (by omega)
        rw [HVV1.out] at hdn2
        have HG2 := Lib.hid hdn2
        have HGE := Lib.hid (fun h => guess_end HIN.out HG2.out (.inr h))
        have hw : IntKind.u64.wrap ((g : Int) - 1) = (g : Int) - 1 := Go.IntWalk.u64_in _ (by omega)
        have hgI : (1 : Int) ≤ (g : Int) := by omega
        clear hdn2
        by_cases hbr : 4294967296 ≤ rest + v1
        ·have b1 : decide ((4294967296 : Int) ≤ (rest : Int) + (v1 : Int)) = true := by simp; omega
         have b2 : (4294967296 : Int) ≤ (rest : Int) + (v1 : Int) := by omega
         have HBR := Lib.hid hbr
         clear hbr
         go_wp2_with fail
         go_quiet (fail)
         go_wp2_with fail
         clear s1 s2 s3 s4 s5 s6 s7 s8 s9 s10 s11 s12 s13 s14
         go_meet
         case rel => exact ⟨g - 1, val_int HN1.out, HGE.out HBR.out, _, by first | rfl | exact World.drewN_drewN _ _ _⟩
        ·have b1 : decide ((4294967296 : Int) ≤ (rest : Int) + (v1 : Int)) = false := by simp; omega
         have b2 : ¬ (4294967296 : Int) ≤ (rest : Int) + (v1 : Int) := by omega
         have HN4 : Hid (rest + v1 < 4294967296) := Lib.hid (by omega)
         have HN5 : Hid (4294967296 - (rest + v1) < 4294967296 - rest) := Lib.hid (by omega)
         go_wp2_with fail
         go_quiet (fail)
         go_wp2_with fail
         clear s1 s2 s3 s4 s5 s6 s7 s8 s9 s10 s11 s12 s13 s14
         go_roundw
         case rel => exact ⟨g - 1, rest + v1, val_int HN1.out, val_int HN2.out, HN3.out, HN4.out, HG2.out, _, by first | rfl | exact World.drewN_drewN _ _ _⟩
         case measure => simp [intOf]; omega
       ·have ta : decide ((4294967296 : Int) ≤ (g : Int)) = false := by simp; omega
        have ta2 : ¬ (4294967296 : Int) ≤ (g : Int) := by omega
        have hg32 : g < 4294967296 := by omega
        have hpr : g * v2 ≤ 4294967295 * 4294967295 := Nat.mul_le_mul (by omega) (by omega)
        have hmul : IntKind.u64.wrap ((g : Int) * (v2 : Int)) = ((g * v2 : Nat) : Int) := by rw [← Int.natCast_mul]; exact Go.IntWalk.u64_in _ (by omega)
        have hor : bits BinOp.or IntKind.u64 ((rest : Int) * 4294967296) (u2 : Int) = ((rest * 4294967296 + u2 : Nat) : Int) := or_words rest u2 32 (by omega) hr32 hbu2
        obtain ⟨pr, hpr2⟩ : ∃ p, g * v2 = p := ⟨_, rfl⟩
        obtain ⟨sm, hsm⟩ : ∃ p, rest * 4294967296 + u2 = p := ⟨_, rfl⟩
        have HPR := Lib.hid hpr2
        have HSM := Lib.hid hsm
        rw [hpr2] at hmul
        rw [hsm] at hor
        clear hpr hpr2 hsm hbig
        by_cases hcmp : sm < pr
        ·have tb : decide (sm < pr) = true := by simpa using hcmp
         have HCM : Hid (rest * 4294967296 + us.getD (i + m - 2) 0 < g * vm.getD (m - 2) 0) := Lib.hid (by rw [HU2.out, HVV2.out, HPR.out, HSM.out]; exact hcmp)
         clear hcmp
         have hdn := guess_down HIN.out HG.out (.inr HCM.out)
         obtain ⟨hg1, hdn2⟩ := hdn
         have HN1 : Hid ((g : Int) - 1 = ((g - 1 : Nat) : Int)) := Lib.hid (by omega)
         have HN2 : Hid ((rest : Int) + (v1 : Int) = ((rest + v1 : Nat) : Int)) := Lib.hid (by omega)
         have HN3 : Hid (g - 1 < 18446744073709551616) := Lib.hid (by omega)
         rw [HVV1.out] at hdn2
         have HG2 := Lib.hid hdn2
         have HGE := Lib.hid (fun h => guess_end HIN.out HG2.out (.inr h))
         have hw : IntKind.u64.wrap ((g : Int) - 1) = (g : Int) - 1 := Go.IntWalk.u64_in _ (by omega)
         have hgI : (1 : Int) ≤ (g : Int) := by omega
         clear hdn2
         by_cases hbr : 4294967296 ≤ rest + v1
         ·have b1 : decide ((4294967296 : Int) ≤ (rest : Int) + (v1 : Int)) = true := by simp; omega
          have b2 : (4294967296 : Int) ≤ (rest : Int) + (v1 : Int) := by omega
          have HBR := Lib.hid hbr
          clear hbr
          go_wp2_with fail
          go_quiet (fail)
          go_wp2_with fail
          clear s1 s2 s3 s4 s5 s6 s7 s8 s9 s10 s11 s12 s13 s14
          go_meet
          case rel => exact ⟨g - 1, val_int HN1.out, HGE.out HBR.out, _, by first | rfl | exact World.drewN_drewN _ _ _⟩
         ·have b1 : decide ((4294967296 : Int) ≤ (rest : Int) + (v1 : Int)) = false := by simp; omega
          have b2 : ¬ (4294967296 : Int) ≤ (rest : Int) + (v1 : Int) := by omega
          have HN4 : Hid (rest + v1 < 4294967296) := Lib.hid (by omega)
          have HN5 : Hid (4294967296 - (rest + v1) < 4294967296 - rest) := Lib.hid (by omega)
          go_wp2_with fail
          go_quiet (fail)
          go_wp2_with fail
          clear s1 s2 s3 s4 s5 s6 s7 s8 s9 s10 s11 s12 s13 s14
          go_roundw
          case rel => exact ⟨g - 1, rest + v1, val_int HN1.out, val_int HN2.out, HN3.out, HN4.out, HG2.out, _, by first | rfl | exact World.drewN_drewN _ _ _⟩
          case measure => simp [intOf]; omega
        ·have tb : decide (sm < pr) = false := by simpa using hcmp
         have HGE := Lib.hid (guess_end HIN.out HG.out (.inl ⟨hg32, by rw [HU2.out, HVV2.out, HPR.out, HSM.out]; omega⟩))
         clear hcmp
         go_wp2_with fail
         go_quiet (fail)
         go_wp2_with fail
         clear s1 s2 s3 s4 s5 s6 s7 s8 s9 s10 s11 s12 s13 s14
         go_meet
         case rel => exact ⟨g, rfl, HGE.out, _, by first | rfl | exact World.drewN_drewN _ _ _⟩
     obtain ⟨g, rfl, hGO, nq3, rfl⟩ := hcut
     have HGO := Lib.hid hGO
     have hg32 : g < 4294967296 := hGO.lt
     clear hGO HGS0 hg064 hr032
     have HBx := Lib.hid (below_drewN HB.out nq3)
     have HVx := Lib.hid (HV.out.drewN nq3)
     have HUx := Lib.hid (HU.out.drewN nq3)
     have HQx := Lib.hid (HQ.out.drewN nq3)
     clear HB HV HU HQ
     have HB := HBx
     have HV := HVx
     have HU := HUx
     have HQ := HQx
     clear HBx HVx HUx HQx
     generalize wb.drewN nq3 = wd at *
     have HMS := Lib.hid (msub_start (g := g) HIN.out)
     go_wp2_with fail
     go_loopw [16, 17, 143] (fun v16 v17 v143 wr => ∃ (t : Nat) (bo : Int) (ca : Nat) (ux : List Nat), t ≤ m ∧ v143 = .int .i64 t ∧ v16 = .int .i64 bo ∧ v17 = .int .u64 (ca : Int) ∧ Below v.heap.size v wr ∧ Blk wr gv 171 (u32s vs).toArray ∧ Blk wr gu 171 (u32s ux).toArray ∧ Blk wr gq 171 (u32s qs).toArray ∧ Msub us ux vm m i t g bo ca) (fun _ _ v143 _ => m - (intOf v143).toNat)
     case atStart => exact ⟨0, 0, 0, us, by omega, rfl, rfl, rfl, HB.out, HV.out, HU.out, HQ.out, HMS.out⟩
     case round => as_aux_lemma =>
      clear HB HV HU HQ HMS
      obtain ⟨t, bo, ca, ux, ht, rfl, rfl, rfl, hb, hv, hu, hq, hms⟩ := hrel
      have HB := Lib.hid hb
      have HV := Lib.hid hv
      have HU := Lib.hid hu
      have HQ := Lib.hid hq
      have HMS := Lib.hid hms
      have hbo1 := hms.b1
      have hbo2 := hms.b2
      have hca := hms.c1
      have hfu := hu.frozen
      have hgul := hu.lt
      have hgvl := hv.lt
      have HUX : Hid (ux.length = k + m + 1) := Lib.hid (by rw [hms.ul]; exact HUL.out)
      clear hb hv hu hq hms
      by_cases htm : t < m
      ·have hcu := blkW_cell HU.out (i := i + t) (by rw [HUX.out]; omega)
       have hcv := blkW_cell HV.out (i := t) (by rw [HVP.out.2.2]; omega)
       have hbu := HMS.out.ud.getD (i + t)
       have hbv := HVW.out.getD t
       have HST2 := Lib.hid (msub_step HVW.out HVL.out (by rw [HUX.out]; omega) hg32 htm HMS.out)
       obtain ⟨xv, hxv⟩ : ∃ z, vm.getD t 0 = z := ⟨_, rfl⟩
       obtain ⟨xu, hxu⟩ : ∃ z, ux.getD (i + t) 0 = z := ⟨_, rfl⟩
       rw [HVT.out _ htm, hxv] at hcv
       rw [hxu] at hcu hbu
       rw [hxv] at hbv
       rw [hxv, hxu] at HST2
       clear hxv hxu
       have hpr : g * xv ≤ 4294967295 * 4294967295 := Nat.mul_le_mul (by omega) (by omega)
       have hmul : IntKind.u64.wrap ((g : Int) * (xv : Int)) = ((g * xv : Nat) : Int) := by rw [← Int.natCast_mul]; exact Go.IntWalk.u64_in _ (by omega)
       have hs64 := HST2.out.1
       have HMN := Lib.hid HST2.out.2
       clear HST2
       generalize g * xv = pr at *
       have hsum : (ca : Int) + (pr : Int) = ((ca + pr : Nat) : Int) := (Int.natCast_add _ _).symm
       have hand : bits BinOp.and IntKind.u64 ((ca + pr : Nat) : Int) 4294967295 = (((ca + pr) % 4294967296 : Nat) : Int) := and_mask _ hs64
       have hdv : ((ca + pr : Nat) : Int) / 4294967296 = (((ca + pr) / 4294967296 : Nat) : Int) := by omega
       have hlo : (ca + pr) % 4294967296 < 4294967296 := Nat.mod_lt _ (by decide)
       have hhi : (ca + pr) / 4294967296 < 4294967296 := by omega
       have hsb : ca + pr < 18446744073709551616 := hs64
       generalize (ca + pr) % 4294967296 = lo at *
       generalize (ca + pr) / 4294967296 = hi at *
       generalize ca + pr = sm at *
       have HN1 : Hid (bo + ((xu : Int) - (lo : Int)) = bo + (xu : Int) - (lo : Int)) := Lib.hid (by omega)
       have HN2 : Hid ((t : Int) + 1 = ((t + 1 : Nat) : Int)) := Lib.hid (by omega)
       have HN3 : Hid (m - (t + 1) < m - t) := Lib.hid (by omega)
       have HN4 : Hid (t + 1 ≤ m) := Lib.hid htm
       have HN5 : Hid ((bo + ((xu : Int) - (lo : Int))) % 4294967296 = (((bo + (xu : Int) - (lo : Int)) % 4294967296).toNat : Int)) := Lib.hid (by omega)
       have s1 : (t : Int) < (m : Int) := by omega
       have s2 : IntKind.i64.wrap ((t : Int) + (i : Int)) = (t : Int) + (i : Int) := Go.IntWalk.i64_in _ (by omega)
       have s3 : ((t : Int) + (i : Int)).toNat = i + t := by omega
       have s4 : (t : Int) + (i : Int) < (k : Int) + (m : Int) + 1 := by omega
       have s5 : (0 : Int) ≤ (t : Int) + (i : Int) := by omega
       go_wp2_with fail
       clear s1 s2 s3 s4 s5
       go_roundw
       case rel => exact ⟨t + 1, _, hi, _, HN4.out, val_int HN2.out, val_int (by rw [HN1.out]), rfl, HB.out.setCell hgb _, HV.out.far hnv _, blkW_set HU.out HN5.out, HQ.out.far hnq _, HMN.out⟩
       case measure => exact HN3.out
      ·have hte : t = m := by omega
       subst hte
       have hcu := blkW_cell HU.out (i := i + t) (by rw [HUX.out]; omega)
       have hbu := HMS.out.ud.getD (i + t)
       have HME := Lib.hid (msub_end HIN.out HGO.out HMS.out)
       obtain ⟨xu, hxu⟩ : ∃ z, ux.getD (i + t) 0 = z := ⟨_, rfl⟩
       rw [hxu] at hcu hbu HME
       clear hxu
       obtain ⟨bot, hbot⟩ : ∃ z : Int, bo + (xu : Int) - (ca : Int) = z := ⟨_, rfl⟩
       rw [hbot] at HME
       have HBO : Hid (bo + ((xu : Int) - (ca : Int)) = bot) := Lib.hid (by omega)
       have hbl1 : -4294967296 ≤ bot := by omega
       have hbl2 : bot < 4294967296 := by omega
       have hbo3 : bo + ((xu : Int) - (ca : Int)) = bot := HBO.out
       clear hbot
       have s2 : IntKind.i64.wrap ((i : Int) + (t : Int)) = (i : Int) + (t : Int) := Go.IntWalk.i64_in _ (by omega)
       have s3 : ((i : Int) + (t : Int)).toNat = i + t := by omega
       have s4 : (i : Int) + (t : Int) < (k : Int) + (t : Int) + 1 := by omega
       have s5 : (0 : Int) ≤ (i : Int) + (t : Int) := by omega
       go_upto_if 200 with fail
       clear s2 s3 s4 s5 hcu hfu hgul hgvl hbo3
       go_cut [14] (fun v14 wc => ∃ (g2 : Nat) (uy : List Nat), v14 = .int .u64 (g2 : Int) ∧ Below v.heap.size v wc ∧ Blk wc gv 171 (u32s vs).toArray ∧ Blk wc gu 171 (u32s uy).toArray ∧ Blk wc gq 171 (u32s qs).toArray ∧ uy.length = k + t + 1 ∧ Wd uy ∧ wv uy + g2 * (wv vm * BB i) = wv us ∧ wv us < (g2 + 1) * (wv vm * BB i) ∧ g2 < 4294967296)
       case first =>
        by_cases hneg : 0 ≤ bot
        ·obtain ⟨e1, e2⟩ := HME.out.1 hneg
         have HS1 : Hid (bot % 4294967296 = (bot.toNat : Int)) := Lib.hid (by omega)
         have HW1 : Hid (Wd (ux.set (i + t) bot.toNat)) := Lib.hid (HMS.out.ud.set _ (by omega))
         have HL1 : Hid ((ux.set (i + t) bot.toNat).length = k + t + 1) := Lib.hid (by rw [List.length_set]; exact HUX.out)
         have HE2 := Lib.hid e2
         clear e1 e2
         go_wp2_with fail
         go_meet
         case rel => exact ⟨g, _, rfl, HB.out.setCell hgb _, HV.out.far hnv _, blkW_set HU.out HS1.out, HQ.out.far hnq _, HL1.out, HW1.out, HE2.out, HGO.out.up, HGO.out.lt⟩
        ·obtain ⟨e1, e2, e3⟩ := HME.out.2 (by omega)
         have hnegb : bot < 0 := by omega
         obtain ⟨nw1, nw2⟩ := neg_word hbl1 hnegb
         obtain ⟨nw, hnw⟩ : ∃ z, (bot + 4294967296).toNat = z := ⟨_, rfl⟩
         rw [hnw] at nw1 nw2 e2
         have HS1 := Lib.hid nw1
         have HBK := Lib.hid (back_start HMS.out nw2)
         clear nw1 nw2 hnw HME
         have HL1 : Hid ((ux.set (i + t) nw).length = us.length) := Lib.hid (by rw [List.length_set, HUX.out, HUL.out])
         have HE2 := Lib.hid e2
         have HE3 := Lib.hid e3
         have hg1 : 1 ≤ g := pos_of_lt_mul e3
         clear e1 e2 e3 hneg
         have hgI : (1 : Int) ≤ (g : Int) := Int.ofNat_le.2 hg1
         have HGM : Hid ((g : Int) - 1 = ((g - 1 : Nat) : Int)) := Lib.hid (Int.ofNat_sub hg1).symm
         have HGL : Hid (g - 1 < 4294967296) := Lib.hid (Nat.lt_of_le_of_lt (Nat.sub_le _ _) hg32)
         have HU2' := Lib.hid (blkW_set (i := i + t) HU.out HS1.out)
         have HB2' := Lib.hid (HB.out.setCell (p := ⟨gu, i + t, none⟩) hgb (.int .u32 (bot % 4294967296)))
         have HV2' := Lib.hid (HV.out.far (p := ⟨gu, i + t, none⟩) hnv (.int .u32 (bot % 4294967296)))
         have HQ2' := Lib.hid (HQ.out.far (p := ⟨gu, i + t, none⟩) hnq (.int .u32 (bot % 4294967296)))
         have hw : IntKind.u64.wrap ((g : Int) - 1) = (g : Int) - 1 := u64_pred hg1 hg32
         clear HB HV HU HQ HMS HUX
         obtain ⟨uz, huz⟩ : ∃ l, ux.set (i + t) nw = l := ⟨_, rfl⟩
         rw [huz] at HBK HL1 HE2 HU2'
         clear huz HS1
         generalize bot % 4294967296 = bm at *
         generalize wr.setCell ⟨gu, i + t, none⟩ (.int .u32 bm) = wz at *
         go_wp2_with fail
         clear hw
         go_loopw [19, 204] (fun v19 v204 wr => ∃ (z cc : Nat) (uy : List Nat), z ≤ t ∧ v204 = .int .i64 z ∧ v19 = .int .u64 (cc : Int) ∧ Below v.heap.size v wr ∧ Blk wr gv 171 (u32s vs).toArray ∧ Blk wr gu 171 (u32s uy).toArray ∧ Blk wr gq 171 (u32s qs).toArray ∧ Back uz uy vm t i z cc) (fun _ v204 _ => t - (intOf v204).toNat)
         case atStart => exact ⟨0, 0, uz, Nat.zero_le _, rfl, rfl, HB2'.out, HV2'.out, HU2'.out, HQ2'.out, HBK.out⟩
         case round => as_aux_lemma =>
          clear HB2' HV2' HU2' HQ2' HBK
          obtain ⟨z, cc, uy, hz, rfl, rfl, hb, hv, hu, hq, hbk⟩ := hrel
          have HB := Lib.hid hb
          have HV := Lib.hid hv
          have HU := Lib.hid hu
          have HQ := Lib.hid hq
          have HBK := Lib.hid hbk
          have hcc := hbk.c1
          have hfu := hu.frozen
          have hgul := hu.lt
          have hgvl := hv.lt
          have HUY : Hid (uy.length = k + t + 1) := Lib.hid (by rw [hbk.ul, HL1.out, HUL.out])
          clear hb hv hu hq hbk
          by_cases hzt : z < t
          ·have hcu := blkW_cell HU.out (i := i + z) (by rw [HUY.out]; omega)
           have hcv := blkW_cell HV.out (i := z) (by rw [HVP.out.2.2]; omega)
           have hbu := HBK.out.ud.getD (i + z)
           have hbv := HVW.out.getD z
           have HNX := Lib.hid (back_step HVW.out (by rw [HUY.out]; omega) hzt HBK.out)
           obtain ⟨xv, hxv⟩ : ∃ a, vm.getD z 0 = a := ⟨_, rfl⟩
           obtain ⟨xw, hxw⟩ : ∃ a, uy.getD (i + z) 0 = a := ⟨_, rfl⟩
           rw [HVT.out _ hzt, hxv] at hcv
           rw [hxw] at hcu hbu
           rw [hxv] at hbv
           rw [hxv, hxw] at HNX
           clear hxv hxw
           have HN1 : Hid ((z : Int) + 1 = ((z + 1 : Nat) : Int)) := Lib.hid (by omega)
           have HN2 : Hid (t - (z + 1) < t - z) := Lib.hid (by omega)
           have HN3 : Hid (((cc : Int) + ((xw : Int) + (xv : Int))) / 4294967296 = (((cc + xw + xv) / 4294967296 : Nat) : Int)) := Lib.hid (by omega)
           have HN4 : Hid (((cc : Int) + ((xw : Int) + (xv : Int))) % 4294967296 = (((cc + xw + xv) % 4294967296 : Nat) : Int)) := Lib.hid (by omega)
           have s1 : (z : Int) < (t : Int) := by omega
           have s2 : IntKind.i64.wrap ((z : Int) + (i : Int)) = (z : Int) + (i : Int) := Go.IntWalk.i64_in _ (by omega)
           have s3 : ((z : Int) + (i : Int)).toNat = i + z := by omega
           have s4 : (z : Int) + (i : Int) < (k : Int) + (t : Int) + 1 := by omega
           have s5 : (0 : Int) ≤ (z : Int) + (i : Int) := by omega
           have hsum2 : IntKind.u64.wrap ((xw : Int) + (xv : Int)) = (xw : Int) + (xv : Int) := Go.IntWalk.u64_in _ (by omega)
           have hsum3 : IntKind.u64.wrap ((cc : Int) + ((xw : Int) + (xv : Int))) = (cc : Int) + ((xw : Int) + (xv : Int)) := Go.IntWalk.u64_in _ (by omega)
           go_wp2_with fail
           go_quiet (fail)
           go_wp2_with fail
           clear s1 s2 s3 s4 s5 hsum2 hsum3
           go_roundw
           case rel => exact ⟨z + 1, _, _, hzt, val_int HN1.out, val_int HN3.out, below_drewN (HB.out.setCell hgb _) _, (HV.out.far hnv _).drewN _, (blkW_set HU.out HN4.out).drewN _, (HQ.out.far hnq _).drewN _, HNX.out⟩
           case measure => exact HN2.out
          ·have hze : z = t := by omega
           subst hze
           have hcu := blkW_cell HU.out (i := i + z) (by rw [HUY.out]; omega)
           have hbu := HBK.out.ud.getD (i + z)
           obtain ⟨xw, hxw⟩ : ∃ a, uy.getD (i + z) 0 = a := ⟨_, rfl⟩
           have HBE := Lib.hid (back_fin HIN.out HGO.out HL1.out HE2.out HE3.out HBK.out hxw HUY.out)
           rw [hxw] at hcu hbu
           clear hxw
           have HN4 := Lib.hid (cast_mod2 xw cc)
           have s2 : IntKind.i64.wrap ((i : Int) + (z : Int)) = (i : Int) + (z : Int) := Go.IntWalk.i64_in _ (by omega)
           have s3 : ((i : Int) + (z : Int)).toNat = i + z := by omega
           have s4 : (i : Int) + (z : Int) < (k : Int) + (z : Int) + 1 := by omega
           have s5 : (0 : Int) ≤ (i : Int) + (z : Int) := by omega
           have hccI : (cc : Int) % 4294967296 = (cc : Int) := by omega
           have hw2 : IntKind.u32.wrap ((xw : Int) + (cc : Int)) = ((xw : Int) + (cc : Int)) % 4294967296 := u32_wrap _
           go_wp2_with fail
           clear s2 s3 s4 s5 hccI hw2
           go_meet
           case rel => exact ⟨g - 1, _, val_int HGM.out, HB.out.setCell hgb _, HV.out.far hnv _, blkW_set HU.out HN4.out, HQ.out.far hnq _, HBE.out.1.1, HBE.out.1.2, HBE.out.2.1, HBE.out.2.2, HGL.out⟩
       clear HB HV HU HQ HMS HUX HME HGO hg32
       obtain ⟨g2, uy, rfl, hb, hv, hu, hq, huyl, huyw, heq, hlt, hg32⟩ := hcut
       have HB := Lib.hid hb
       have HV := Lib.hid hv
       have HU := Lib.hid hu
       have HQ := Lib.hid hq
       have HUYL := Lib.hid huyl
       have HNXT := Lib.hid (steps_next HST.out (by rw [HQL.out]; omega) huyw hg32 heq hlt)
       have HQL2 : Hid ((qs.set i g2).length = k + 1) := Lib.hid (by rw [List.length_set]; exact HQL.out)
       have hfq := hq.frozen
       have hgql := hq.lt
       have hcq := blkW_cell hq (i := i) (by rw [HQL.out]; omega)
       obtain ⟨zq, hzq⟩ : ∃ a, qs.getD i 0 = a := ⟨_, rfl⟩
       rw [hzq] at hcq
       have HN1 : Hid (i ≤ k + 1) := Lib.hid (by omega)
       have HN2 : Hid ((intOf (Value.int .i64 ((i : Int) - 1)) + 1).toNat < (intOf (Value.int .i64 (i : Int)) + 1).toNat) := Lib.hid (by simp [intOf])
       have hikI : (i : Int) < (k : Int) + 1 := by omega
       have hgm : (g2 : Int) % 4294967296 = (g2 : Int) := by omega
       clear hb hv hu hq huyl huyw heq hlt hzq
       go_wp2_with fail
       go_roundw
       case rel => exact ⟨i, uy, qs.set i g2, HN1.out, rfl, HB.out.setCell hgbq _, HV.out.far hnqv _, HU.out.far hnqu _, HUYL.out, blkW_set HQ.out rfl, HQL2.out, HNXT.out⟩
       case measure => exact HN2.out
end
end Go.Proofs.YtakllkkmofdpaaaGreatDoor
