import Derived.Test.YtakllkkmofdpaaaGreatDoorU49
import Derived.Test.YtakllkkmofdpaaaGreatDoorU56
set_option linter.unusedVariables false
set_option linter.unusedSimpArgs false
namespace Go.Proofs.YtakllkkmofdpaaaGreatDoor
section
open Go.ChangeShapes Go.WideShapes Go.ChangeAt Go.RowKit
attribute [local go_sem ↓] execOp_call_val
attribute [local go_sem] callVal_func setCell_drewN alloc_drewN sEq_walk
set_option maxRecDepth 100000 in
set_option maxHeartbeats 4000000 in
theorem ocrit_any (h : NetH) (x : Net) (A : Option Addr) (n c : Nat) (ms0 : List Mi) (kk : Int) (w : World) (r : RdNet w w.heap.size h x) (hm : RdMi w w.heap.size A n ms0) (hnc : n ≤ c) (hc : c ≤ 9223372036854775807) (hk1 : -9223372036854775808 ≤ kk) (hk2 : kk ≤ 9223372036854775807) (ht : TabOk w) :
    Calls Tryz.prog 6 #[.agg h.cells, .slice A n c, .int .i64 kk] w fun e w' => e = .returned (.bool true) ∧ Below w.heap.size w w' := by
 obtain ⟨k, hk6, hkn, hmin⟩ : ∃ k : Nat, k ≤ 5 ∧ k ≤ n ∧ min (n : Int) 5 = (k : Int) := by
  by_cases h : (5 : Int) < (n : Int)
  ·exact ⟨5, by omega, by omega, by omega⟩
  ·exact ⟨n, by omega, by omega, by omega⟩
 have hkc : (k : Int) ≤ (c : Int) := by omega
 have HKC : Hid (k ≤ c) := Lib.hid (by omega)
 have HK6 := Lib.hid hk6
 have hm1 := hm.take hkn
 generalize hms : ms0.take k = ms at *
 clear hms hm
 have K0 : Below w.heap.size w (w.alloc (.cells h.cells 33)) := (Below.refl _ _).alloc (Nat.le_refl _) _
 have HK := Lib.hid K0
 have P0 := Lib.hid (Blk.new w 33 h.cells)
 have HX := Lib.hid (r.up K0)
 have HM := Lib.hid ((hm1.below K0 (Nat.le_refl _)).more K0.size)
 have HT := Lib.hid (ht.up K0)
 have HML : Hid (ms.length = k) := Lib.hid hm1.1
 clear K0 hm1 r ht
 obtain ⟨D0, r0, s0, D1, r1, s1, D2, r2, s2, D3, r3, s3, D4, r4, s4, D5, r5, s5⟩ := h
 go_enter Tryz.func6, Tryz.ntmps6
 go_wp2_with fail
 have HSZ : Hid (w.heap.size ≤ (w.alloc (.cells (NetH.cells ⟨D0, r0, s0, D1, r1, s1, D2, r2, s2, D3, r3, s3, D4, r4, s4, D5, r5, s5⟩) 33)).heap.size) := Lib.hid HK.out.size
 generalize w.alloc (.cells (NetH.cells ⟨D0, r0, s0, D1, r1, s1, D2, r2, s2, D3, r3, s3, D4, r4, s4, D5, r5, s5⟩) 33) = W at *
 refine (oworks_any W HT.out).mono ?_
 rintro e w1 ⟨rfl, hb1⟩
 have HB1 := Lib.hid (HK.out.trans (hb1.mono HSZ.out))
 replace HX := Lib.hid (HX.out.up hb1)
 replace HM := Lib.hid ((HM.out.below hb1 (Nat.le_refl _)).more hb1.size)
 replace P0 := Lib.hid (P0.out.below hb1 P0.out.lt)
 replace HT := Lib.hid (HT.out.up hb1)
 clear hb1 HK HSZ
 by_cases hk0 : k = 0
 ·subst hk0
  go_wp2_with fail
  refine (oworks_any w1 HT.out).mono ?_
  rintro e w2 ⟨rfl, hb2⟩
  have HB2 := Lib.hid (HB1.out.trans (hb2.mono HB1.out.size))
  clear hb2 HB1
  go_wp2_with fail
  go_ret
  exact ⟨rfl, HB2.out⟩
 ·have hkB : ((k : Int) == 0) = false := by simp; omega
  have PNX := P0.out
  obtain ⟨y0, y1, y2, y3, y4, y5, nf, nlt⟩ := net_box (h := ⟨D0, r0, s0, D1, r1, s1, D2, r2, s2, D3, r3, s3, D4, r4, s4, D5, r5, s5⟩) PNX
  dsimp only at y0 y1 y2 y3 y4 y5
  clear PNX
  go_wp2_with fail
  clear y0 y1 y2 y3 y4 y5 nf nlt hkB
  refine (small_any ⟨D0, r0, s0, D1, r1, s1, D2, r2, s2, D3, r3, s3, D4, r4, s4, D5, r5, s5⟩ x A k c ms none 0 0 [] w1 HX.out HM.out (rdVc_0 _ _) (by omega) (by decide)).mono ?_
  rintro e w2 ⟨rfl, hb2⟩
  have HB2 := Lib.hid (HB1.out.trans (hb2.mono HB1.out.size))
  replace HX := Lib.hid (HX.out.up hb2)
  replace HM := Lib.hid ((HM.out.below hb2 (Nat.le_refl _)).more hb2.size)
  replace P0 := Lib.hid (P0.out.below hb2 P0.out.lt)
  replace HT := Lib.hid (HT.out.up hb2)
  clear hb2 HB1
  cases hsm : smallR x ms [] with
  | false =>
   go_wp2_with fail
   go_ret
   exact ⟨rfl, HB2.out⟩
  | true =>
   obtain ⟨h8, hz⟩ := small_parts hsm
   have HZ := Lib.hid hz
   clear hsm hz
   have PNX := P0.out
   obtain ⟨y0, y1, y2, y3, y4, y5, nf, nlt⟩ := net_box (h := ⟨D0, r0, s0, D1, r1, s1, D2, r2, s2, D3, r3, s3, D4, r4, s4, D5, r5, s5⟩) PNX
   dsimp only at y0 y1 y2 y3 y4 y5
   clear PNX
   go_wp2_with fail
   clear y0 y1 y2 y3 y4 y5 nf nlt
   refine (crit_any ⟨D0, r0, s0, D1, r1, s1, D2, r2, s2, D3, r3, s3, D4, r4, s4, D5, r5, s5⟩ x h8 A k c ms w2 HX.out HM.out HZ.out (by omega) HT.out).mono ?_
   rintro e w3 ⟨hb3, hh⟩
   have HB3 := Lib.hid (HB2.out.trans (hb3.mono HB2.out.size))
   replace HX := Lib.hid (HX.out.up hb3)
   replace HM := Lib.hid ((HM.out.below hb3 (Nat.le_refl _)).more hb3.size)
   replace P0 := Lib.hid (P0.out.below hb3 P0.out.lt)
   replace HT := Lib.hid (HT.out.up hb3)
   clear hb3 HB2
   rcases hh with ⟨hck, rfl⟩ | ⟨hck, A3, c3, rfl, hrd3⟩
   ·have hckB : (mtCk x ms != 0) = true := by simp [hck]
    go_wp2_with fail
    go_ret
    exact ⟨rfl, HB3.out⟩
   ·have HCK := Lib.hid hck
    have HI3 := Lib.hid hrd3
    have HCL : Hid ((critR (rowsR x ms)).length ≤ 64) := Lib.hid (Nat.le_trans (critK_len (rowsR x ms) (rowsR x ms).length) (by rw [rowsR_len]; have := HML.out; have := HK6.out; omega))
    clear hck hrd3
    obtain ⟨hb1, hb2⟩ := tmodB kk (k : Int) (by omega)
    obtain ⟨j1, hj1⟩ : ∃ j1, kk.tmod (k : Int) = j1 := ⟨_, rfl⟩
    rw [hj1] at hb1 hb2
    have hw1 : IntKind.i64.wrap (j1 + (k : Int)) = j1 + (k : Int) := wrap_i64 (by omega) (by omega)
    obtain ⟨j, hj⟩ : ∃ j : Nat, (j1 + (k : Int)).tmod (k : Int) = (j : Int) := ⟨((j1 + (k : Int)).tmod (k : Int)).toNat, (Int.toNat_of_nonneg (Int.tmod_nonneg _ (by omega))).symm⟩
    have hjk : j < k := by have := (tmodB (j1 + (k : Int)) (k : Int) (by omega)).2; omega
    have hkz : ¬ (k : Int) = 0 := by omega
    have hwj1 : IntKind.i64.wrap j1 = j1 := wrap_i64 (by omega) (by omega)
    have hwj : IntKind.i64.wrap (j : Int) = (j : Int) := wrap_i64 (by omega) (by omega)
    go_upto_region 10 with fail
    clear hb1 hb2 hj1 hj hw1 hwj1 hwj hkz
    obtain ⟨m, hm⟩ : ∃ m, ms[j]? = some m := ⟨_, List.getElem?_eq_getElem (by have := HML.out; omega)⟩
    obtain ⟨ab, ao, hA, hab, -⟩ := HM.out.2.2 (by omega)
    subst hA
    have HMM := Lib.hid hm
    have HLAW := Lib.hid (crit_law HCK.out hm (by have := HML.out; omega))
    have HZ2 : Hid (∀ a ∈ ms ++ [m], a.txt.size ≤ maxLen) := Lib.hid fun a ha => (List.mem_append.1 ha).elim (HZ.out a) fun e => by rw [List.mem_singleton.1 e]; exact HZ.out m (List.mem_of_getElem? hm)
    have HJK := Lib.hid hjk
    clear hm hab hjk
    go_cut [9, 10] (fun v9 v10 wc => ∃ A9 c9, v9 = .slice A9 (critR (rowsR x (ms ++ [m]))).length c9 ∧ v10 = .int .i64 0 ∧ RdI wc wc.heap.size A9 (critR (rowsR x (ms ++ [m]))).length (natJ (critR (rowsR x (ms ++ [m])))) ∧ Below w3.heap.size w3 wc)
    case first =>
     have PNX := P0.out
     obtain ⟨y0, y1, y2, y3, y4, y5, nf, nlt⟩ := net_box (h := ⟨D0, r0, s0, D1, r1, s1, D2, r2, s2, D3, r3, s3, D4, r4, s4, D5, r5, s5⟩) PNX
     dsimp only at y0 y1 y2 y3 y4 y5
     clear PNX
     obtain ⟨z0, z1, z2, z3⟩ := HM.out.at_ HMM.out
     have zl : ab < w3.heap.size := by obtain ⟨_, _, e, h, _⟩ := HM.out.2.2 (by omega); injection e with e; injection e with e1 e2; omega
     have hjI : (j : Int) < (k : Int) := by have := HJK.out; omega
     have hj0 : (0 : Int) ≤ (j : Int) := by omega
     have hjn : (j : Int).toNat = j := Int.toNat_natCast j
     refine wp_region_last (S := fun w' => Below w3.heap.size w3 w') 15 _ (by kernel_rfl) (by kernel_rfl) rfl (below_drew (Below.refl _ _)) (fun hHeld => ?_)
     simp only [List.take_succ_cons, List.take_zero]
     refine tkH 0 rfl (by intro w' _ hcc; go_simp <;> with_reducible rfl) hHeld ?_
     try simp only [Act.put, sA_, sB_, sC_]
     refine tkH 2 rfl (by intro w' _ hcc; go_simp <;> with_reducible rfl) hHeld ?_
     try simp only [Act.put, sA_, sB_, sC_]
     refine tkH 4 rfl (by intro w' _ hcc; go_simp <;> with_reducible rfl) hHeld ?_
     try simp only [Act.put, sA_, sB_, sC_]
     refine tkH 5 rfl (by intro w' _ hcc; go_simp <;> with_reducible rfl) hHeld ?_
     try simp only [Act.put, sA_, sB_, sC_]
     refine tkH 6 rfl (by intro w' _ hcc; go_simp <;> with_reducible rfl) hHeld ?_
     try simp only [Act.put, sA_, sB_, sC_]
     refine tkH 7 rfl (by intro w' _ hcc; go_simp <;> with_reducible rfl) hHeld ?_
     try simp only [Act.put, sA_, sB_, sC_]
     clear y0 y1 y2 y3 y4 y5 nf nlt z0 z1 z2 z3 zl hjI hj0 hjn
     have HV0 := Lib.hid (below_drew (Below.refl w3.heap.size w3))
     generalize w3.drew = v0 at *
     refine stepTwo 1 8 (by kernel_rfl) rfl rfl (fun K hK => ?_) (fun K hK => ?_)
     ·go_simp
      have hz : Below v0.heap.size v0 (v0.alloc (.cells #[] 57)) := (Below.refl _ _).alloc (Nat.le_refl _) _
      have HO1 : Hid (OwnMi (v0.alloc (.cells #[] 57)) v0.heap.size (.slice (some ⟨v0.heap.size, 0, none⟩) 0 0) []) := Lib.hid ownMi_lit0
      have HV1 : Hid (Below w3.heap.size w3 (v0.alloc (.cells #[] 57))) := Lib.hid (HV0.out.trans (hz.mono HV0.out.size))
      have HG0 : Hid (w3.heap.size ≤ v0.heap.size ∧ v0.heap.size < (v0.alloc (.cells #[] 57)).heap.size) := Lib.hid ⟨HV0.out.size, by simp⟩
      have HGS1 := Lib.hid HG0.out.2
      generalize v0.alloc (.cells #[] 57) = v1 at *
      generalize v0.heap.size = g0 at *
      clear hz
      refine hK.out _ _ ?_ (fun hHeld => ?_)
      ·exact HV1.out
      clear hK K
      try simp only [Act.put, sA_, sB_, sC_]
      refine stepTwo 3 8 (by kernel_rfl) rfl rfl (fun K hK => ?_) (fun K hK => ?_)
      ·refine ite_go (by rfl) ?_
       refine wp_appMi (.tmp 57) (.tmp 58) 52 rfl g0 Tryz.underlying52 (.slice (some ⟨g0, 0, none⟩) 0 0) [] rfl HO1.out (some ⟨ab, ao, none⟩) k c ms rfl ((HM.out.below HV1.out (Nat.le_refl _)).more HV1.out.size) ?k1 ?k2 k ?k3 ?_
       case k1 => have := HK6.out; simp only [List.length_nil]; omega
       case k2 => have := HGS1.out; omega
       case k3 => rw [List.nil_append]; exact HM.out.1
       intro Ay cy v2 ho hb hg
       have HO2 : Hid (OwnMi v2 g0 (.slice Ay k cy) ms) := Lib.hid ho
       have HV2 : Hid (Below w3.heap.size w3 v2) := Lib.hid (HV1.out.trans (hb.mono HG0.out.1))
       have HGS2 : Hid (g0 < v2.heap.size) := Lib.hid (by have := HGS1.out; have := hb.size; omega)
       clear ho hb hg
       refine hK.out _ _ ?_ (fun hHeld => ?_)
       ·exact HV2.out
       clear hK K
       try simp only [Act.put, sA_, sB_, sC_]
       refine stepH 8 (by kernel_rfl) rfl (fun K hK => ?_)
       go_simp
       have hz : Below v2.heap.size v2 (v2.alloc (.cells #[.int .i64 m.kind, .string m.name, .string m.txt, .int .i64 m.wt] 57)) := (Below.refl _ _).alloc (Nat.le_refl _) _
       have HL3 := Lib.hid (Blk.new v2 57 #[.int .i64 m.kind, .string m.name, .string m.txt, .int .i64 m.wt])
       have HV3 : Hid (Below w3.heap.size w3 (v2.alloc (.cells #[.int .i64 m.kind, .string m.name, .string m.txt, .int .i64 m.wt] 57))) := Lib.hid (HV2.out.trans (hz.mono HV2.out.size))
       have HO3 := Lib.hid (HO2.out.keep hz)
       have HGS3 : Hid (g0 < (v2.alloc (.cells #[.int .i64 m.kind, .string m.name, .string m.txt, .int .i64 m.wt] 57)).heap.size) := Lib.hid (by have := HGS2.out; have := hz.size; omega)
       generalize v2.alloc (.cells #[.int .i64 m.kind, .string m.name, .string m.txt, .int .i64 m.wt] 57) = v3 at *
       generalize v2.heap.size = gl at *
       clear hz
       refine hK.out _ _ ?_ (fun hHeld => ?_)
       ·exact HV3.out
       clear hK K
       try simp only [Act.put, sA_, sB_, sC_]
       refine stepH 9 (by kernel_rfl) rfl (fun K hK => ?_)
       refine ite_go (by rfl) ?_
       refine wp_appMi (.tmp 59) (.tmp 64) 52 rfl g0 Tryz.underlying52 (.slice Ay k cy) ms rfl HO3.out (some ⟨gl, 0, none⟩) 1 1 [m] rfl (rdMi_blk HL3.out) ?k1 ?k2 (k + 1) ?k3 ?_
       case k1 => have := HK6.out; have := HM.out.1; omega
       case k2 => have := HGS3.out; omega
       case k3 => rw [List.length_append, HM.out.1]; rfl
       intro Az cz v4 ho hb hg
       have HO4 := Lib.hid (ho.mono HG0.out.1)
       have HV4 : Hid (Below w3.heap.size w3 v4) := Lib.hid (HV3.out.trans (hb.mono HG0.out.1))
       clear ho hb hg
       refine hK.out _ _ ?_ (fun hHeld => ?_)
       ·exact HV4.out
       clear hK K
       try simp only [Act.put, sA_, sB_, sC_]
       refine stepH 10 (by kernel_rfl) rfl (fun K hK => ?_)
       go_simp
       obtain ⟨hmm, hm1, hm2⟩ := HO4.out.rd2
       refine (crit_any ⟨D0, r0, s0, D1, r1, s1, D2, r2, s2, D3, r3, s3, D4, r4, s4, D5, r5, s5⟩ x h8 Az (k + 1) cz (ms ++ [m]) v4 (HX.out.up HV4.out) hmm HZ2.out (by omega) (HT.out.up HV4.out)).mono ?_
       rintro e w9 ⟨hb9, hh⟩
       rcases hh with ⟨h0, _⟩ | ⟨_, A9, c9, rfl, hrd9⟩
       ·exact absurd HLAW.out.1 h0
       have HB9 : Hid (Below w3.heap.size w3 w9) := Lib.hid (HV4.out.trans (hb9.mono HV4.out.size))
       have HI9 := Lib.hid hrd9
       clear hb9 hmm hm1 hm2 hrd9 HV4 HO4
       go_simp
       refine hK.out _ _ ?_ (fun hHeld => ?_)
       ·exact HB9.out
       clear hK K
       try simp only [Act.put, sA_, sB_, sC_]
       refine tkH 11 rfl (by intro w' _ hcc; go_simp <;> with_reducible rfl) hHeld ?_
       try simp only [Act.put, sA_, sB_, sC_]
       refine tkH 12 rfl (by intro w' _ hcc; go_simp <;> with_reducible rfl) hHeld ?_
       try simp only [Act.put, sA_, sB_, sC_]
       refine tkH 13 rfl (by intro w' _ hcc; go_simp <;> with_reducible rfl) hHeld ?_
       try simp only [Act.put, sA_, sB_, sC_]
       refine tkH 14 rfl (by intro w' _ hcc; go_simp <;> with_reducible rfl) hHeld ?_
       try simp only [Act.put, sA_, sB_, sC_]
       refine wpAnyH_done (by kernel_rfl) ?_ _
       refine lastQ_go (by rfl) ?_
       clear hHeld
       go_wp2_with fail
       go_meet
       case rel => exact ⟨A9, c9, rfl, rfl, HI9.out, HB9.out⟩
      ·go_simp
       have hz : Below v1.heap.size v1 (v1.alloc (.cells #[.int .i64 m.kind, .string m.name, .string m.txt, .int .i64 m.wt] 57)) := (Below.refl _ _).alloc (Nat.le_refl _) _
       have HL2 := Lib.hid (Blk.new v1 57 #[.int .i64 m.kind, .string m.name, .string m.txt, .int .i64 m.wt])
       have HV2 : Hid (Below w3.heap.size w3 (v1.alloc (.cells #[.int .i64 m.kind, .string m.name, .string m.txt, .int .i64 m.wt] 57))) := Lib.hid (HV1.out.trans (hz.mono HV1.out.size))
       have HO2 := Lib.hid (HO1.out.keep hz)
       have HGS2 : Hid (g0 < (v1.alloc (.cells #[.int .i64 m.kind, .string m.name, .string m.txt, .int .i64 m.wt] 57)).heap.size) := Lib.hid (by have := HGS1.out; have := hz.size; omega)
       have HNE : Hid (v1.heap.size ≠ g0) := Lib.hid (by have := HGS1.out; omega)
       generalize v1.alloc (.cells #[.int .i64 m.kind, .string m.name, .string m.txt, .int .i64 m.wt] 57) = v2 at *
       generalize v1.heap.size = gl at *
       clear hz
       refine hK.out _ _ ?_ (fun hHeld => ?_)
       ·exact HV2.out
       clear hK K
       try simp only [Act.put, sA_, sB_, sC_]
       refine stepH 3 (by kernel_rfl) rfl (fun K hK => ?_)
       refine ite_go (by rfl) ?_
       refine wp_appMi (.tmp 57) (.tmp 58) 52 rfl g0 Tryz.underlying52 (.slice (some ⟨g0, 0, none⟩) 0 0) [] rfl HO2.out (some ⟨ab, ao, none⟩) k c ms rfl ((HM.out.below HV2.out (Nat.le_refl _)).more HV2.out.size) ?k1 ?k2 k ?k3 ?_
       case k1 => have := HK6.out; simp only [List.length_nil]; omega
       case k2 => have := HGS2.out; omega
       case k3 => rw [List.nil_append]; exact HM.out.1
       intro Ay cy v3 ho hb hg
       have HO3 : Hid (OwnMi v3 g0 (.slice Ay k cy) ms) := Lib.hid ho
       have HV3 : Hid (Below w3.heap.size w3 v3) := Lib.hid (HV2.out.trans (hb.mono HG0.out.1))
       have HGS3 : Hid (g0 < v3.heap.size) := Lib.hid (by have := HGS2.out; have := hb.size; omega)
       have HL3 := Lib.hid (HL2.out.grown hg (fun e => HNE.out (by simpa [Value.ownBlock] using e)))
       clear ho hb hg
       refine hK.out _ _ ?_ (fun hHeld => ?_)
       ·exact HV3.out
       clear hK K
       try simp only [Act.put, sA_, sB_, sC_]
       refine stepH 9 (by kernel_rfl) rfl (fun K hK => ?_)
       refine ite_go (by rfl) ?_
       refine wp_appMi (.tmp 59) (.tmp 64) 52 rfl g0 Tryz.underlying52 (.slice Ay k cy) ms rfl HO3.out (some ⟨gl, 0, none⟩) 1 1 [m] rfl (rdMi_blk HL3.out) ?k1 ?k2 (k + 1) ?k3 ?_
       case k1 => have := HK6.out; have := HM.out.1; omega
       case k2 => have := HGS3.out; omega
       case k3 => rw [List.length_append, HM.out.1]; rfl
       intro Az cz v4 ho hb hg
       have HO4 := Lib.hid (ho.mono HG0.out.1)
       have HV4 : Hid (Below w3.heap.size w3 v4) := Lib.hid (HV3.out.trans (hb.mono HG0.out.1))
       clear ho hb hg
       refine hK.out _ _ ?_ (fun hHeld => ?_)
       ·exact HV4.out
       clear hK K
       try simp only [Act.put, sA_, sB_, sC_]
       refine stepH 10 (by kernel_rfl) rfl (fun K hK => ?_)
       go_simp
       obtain ⟨hmm, hm1, hm2⟩ := HO4.out.rd2
       refine (crit_any ⟨D0, r0, s0, D1, r1, s1, D2, r2, s2, D3, r3, s3, D4, r4, s4, D5, r5, s5⟩ x h8 Az (k + 1) cz (ms ++ [m]) v4 (HX.out.up HV4.out) hmm HZ2.out (by omega) (HT.out.up HV4.out)).mono ?_
       rintro e w9 ⟨hb9, hh⟩
       rcases hh with ⟨h0, _⟩ | ⟨_, A9, c9, rfl, hrd9⟩
       ·exact absurd HLAW.out.1 h0
       have HB9 : Hid (Below w3.heap.size w3 w9) := Lib.hid (HV4.out.trans (hb9.mono HV4.out.size))
       have HI9 := Lib.hid hrd9
       clear hb9 hmm hm1 hm2 hrd9 HV4 HO4
       go_simp
       refine hK.out _ _ ?_ (fun hHeld => ?_)
       ·exact HB9.out
       clear hK K
       try simp only [Act.put, sA_, sB_, sC_]
       refine tkH 11 rfl (by intro w' _ hcc; go_simp <;> with_reducible rfl) hHeld ?_
       try simp only [Act.put, sA_, sB_, sC_]
       refine tkH 12 rfl (by intro w' _ hcc; go_simp <;> with_reducible rfl) hHeld ?_
       try simp only [Act.put, sA_, sB_, sC_]
       refine tkH 13 rfl (by intro w' _ hcc; go_simp <;> with_reducible rfl) hHeld ?_
       try simp only [Act.put, sA_, sB_, sC_]
       refine tkH 14 rfl (by intro w' _ hcc; go_simp <;> with_reducible rfl) hHeld ?_
       try simp only [Act.put, sA_, sB_, sC_]
       refine wpAnyH_done (by kernel_rfl) ?_ _
       refine lastQ_go (by rfl) ?_
       clear hHeld
       go_wp2_with fail
       go_meet
       case rel => exact ⟨A9, c9, rfl, rfl, HI9.out, HB9.out⟩
     ·go_simp
      have hz : Below v0.heap.size v0 (v0.alloc (.cells #[.int .i64 m.kind, .string m.name, .string m.txt, .int .i64 m.wt] 57)) := (Below.refl _ _).alloc (Nat.le_refl _) _
      have HL1 := Lib.hid (Blk.new v0 57 #[.int .i64 m.kind, .string m.name, .string m.txt, .int .i64 m.wt])
      have HV1 : Hid (Below w3.heap.size w3 (v0.alloc (.cells #[.int .i64 m.kind, .string m.name, .string m.txt, .int .i64 m.wt] 57))) := Lib.hid (HV0.out.trans (hz.mono HV0.out.size))
      generalize v0.alloc (.cells #[.int .i64 m.kind, .string m.name, .string m.txt, .int .i64 m.wt] 57) = v1 at *
      generalize v0.heap.size = gl at *
      clear hz
      refine hK.out _ _ ?_ (fun hHeld => ?_)
      ·exact HV1.out
      clear hK K
      try simp only [Act.put, sA_, sB_, sC_]
      refine stepH 1 (by kernel_rfl) rfl (fun K hK => ?_)
      go_simp
      have hz : Below v1.heap.size v1 (v1.alloc (.cells #[] 57)) := (Below.refl _ _).alloc (Nat.le_refl _) _
      have HO2 : Hid (OwnMi (v1.alloc (.cells #[] 57)) v1.heap.size (.slice (some ⟨v1.heap.size, 0, none⟩) 0 0) []) := Lib.hid ownMi_lit0
      have HV2 : Hid (Below w3.heap.size w3 (v1.alloc (.cells #[] 57))) := Lib.hid (HV1.out.trans (hz.mono HV1.out.size))
      have HG0 : Hid (w3.heap.size ≤ v1.heap.size ∧ v1.heap.size < (v1.alloc (.cells #[] 57)).heap.size) := Lib.hid ⟨HV1.out.size, by simp⟩
      have HGS2 := Lib.hid HG0.out.2
      have HL2 := Lib.hid (HL1.out.below hz HL1.out.lt)
      have HNE : Hid (gl ≠ v1.heap.size) := Lib.hid (by have := HL1.out.lt; omega)
      generalize v1.alloc (.cells #[] 57) = v2 at *
      generalize v1.heap.size = g0 at *
      clear hz
      refine hK.out _ _ ?_ (fun hHeld => ?_)
      ·exact HV2.out
      clear hK K
      try simp only [Act.put, sA_, sB_, sC_]
      refine stepH 3 (by kernel_rfl) rfl (fun K hK => ?_)
      refine ite_go (by rfl) ?_
      refine wp_appMi (.tmp 57) (.tmp 58) 52 rfl g0 Tryz.underlying52 (.slice (some ⟨g0, 0, none⟩) 0 0) [] rfl HO2.out (some ⟨ab, ao, none⟩) k c ms rfl ((HM.out.below HV2.out (Nat.le_refl _)).more HV2.out.size) ?k1 ?k2 k ?k3 ?_
      case k1 => have := HK6.out; simp only [List.length_nil]; omega
      case k2 => have := HGS2.out; omega
      case k3 => rw [List.nil_append]; exact HM.out.1
      intro Ay cy v3 ho hb hg
      have HO3 : Hid (OwnMi v3 g0 (.slice Ay k cy) ms) := Lib.hid ho
      have HV3 : Hid (Below w3.heap.size w3 v3) := Lib.hid (HV2.out.trans (hb.mono HG0.out.1))
      have HGS3 : Hid (g0 < v3.heap.size) := Lib.hid (by have := HGS2.out; have := hb.size; omega)
      have HL3 := Lib.hid (HL2.out.grown hg (fun e => HNE.out (by simpa [Value.ownBlock] using e)))
      clear ho hb hg
      refine hK.out _ _ ?_ (fun hHeld => ?_)
      ·exact HV3.out
      clear hK K
      try simp only [Act.put, sA_, sB_, sC_]
      refine stepH 9 (by kernel_rfl) rfl (fun K hK => ?_)
      refine ite_go (by rfl) ?_
      refine wp_appMi (.tmp 59) (.tmp 64) 52 rfl g0 Tryz.underlying52 (.slice Ay k cy) ms rfl HO3.out (some ⟨gl, 0, none⟩) 1 1 [m] rfl (rdMi_blk HL3.out) ?k1 ?k2 (k + 1) ?k3 ?_
      case k1 => have := HK6.out; have := HM.out.1; omega
      case k2 => have := HGS3.out; omega
      case k3 => rw [List.length_append, HM.out.1]; rfl
      intro Az cz v4 ho hb hg
      have HO4 := Lib.hid (ho.mono HG0.out.1)
      have HV4 : Hid (Below w3.heap.size w3 v4) := Lib.hid (HV3.out.trans (hb.mono HG0.out.1))
      clear ho hb hg
      refine hK.out _ _ ?_ (fun hHeld => ?_)
      ·exact HV4.out
      clear hK K
      try simp only [Act.put, sA_, sB_, sC_]
      refine stepH 10 (by kernel_rfl) rfl (fun K hK => ?_)
      go_simp
      obtain ⟨hmm, hm1, hm2⟩ := HO4.out.rd2
      refine (crit_any ⟨D0, r0, s0, D1, r1, s1, D2, r2, s2, D3, r3, s3, D4, r4, s4, D5, r5, s5⟩ x h8 Az (k + 1) cz (ms ++ [m]) v4 (HX.out.up HV4.out) hmm HZ2.out (by omega) (HT.out.up HV4.out)).mono ?_
      rintro e w9 ⟨hb9, hh⟩
      rcases hh with ⟨h0, _⟩ | ⟨_, A9, c9, rfl, hrd9⟩
      ·exact absurd HLAW.out.1 h0
      have HB9 : Hid (Below w3.heap.size w3 w9) := Lib.hid (HV4.out.trans (hb9.mono HV4.out.size))
      have HI9 := Lib.hid hrd9
      clear hb9 hmm hm1 hm2 hrd9 HV4 HO4
      go_simp
      refine hK.out _ _ ?_ (fun hHeld => ?_)
      ·exact HB9.out
      clear hK K
      try simp only [Act.put, sA_, sB_, sC_]
      refine tkH 11 rfl (by intro w' _ hcc; go_simp <;> with_reducible rfl) hHeld ?_
      try simp only [Act.put, sA_, sB_, sC_]
      refine tkH 12 rfl (by intro w' _ hcc; go_simp <;> with_reducible rfl) hHeld ?_
      try simp only [Act.put, sA_, sB_, sC_]
      refine tkH 13 rfl (by intro w' _ hcc; go_simp <;> with_reducible rfl) hHeld ?_
      try simp only [Act.put, sA_, sB_, sC_]
      refine tkH 14 rfl (by intro w' _ hcc; go_simp <;> with_reducible rfl) hHeld ?_
      try simp only [Act.put, sA_, sB_, sC_]
      refine wpAnyH_done (by kernel_rfl) ?_ _
      refine lastQ_go (by rfl) ?_
      clear hHeld
      go_wp2_with fail
      go_meet
      case rel => exact ⟨A9, c9, rfl, rfl, HI9.out, HB9.out⟩
    case rest =>
     obtain ⟨A9, c9, rfl, rfl, hri, hbc⟩ := hcut
     have HB4 := Lib.hid (HB3.out.trans (hbc.mono HB3.out.size))
     have HI4 := Lib.hid hri
     replace HX := Lib.hid (HX.out.up hbc)
     replace HM := Lib.hid ((HM.out.below hbc (Nat.le_refl _)).more hbc.size)
     replace P0 := Lib.hid (P0.out.below hbc P0.out.lt)
     replace HT := Lib.hid (HT.out.up hbc)
     replace HI3 := Lib.hid ((HI3.out.below hbc (Nat.le_refl _)).more hbc.size)
     clear hri hbc HB3
     generalize wc = w4 at *
     have PNX := P0.out
     obtain ⟨y0, y1, y2, y3, y4, y5, nf, nlt⟩ := net_box (h := ⟨D0, r0, s0, D1, r1, s1, D2, r2, s2, D3, r3, s3, D4, r4, s4, D5, r5, s5⟩) PNX
     dsimp only at y0 y1 y2 y3 y4 y5
     clear PNX
     go_wp2_with fail
     clear y0 y1 y2 y3 y4 y5 nf nlt
     refine (orank_any ⟨D0, r0, s0, D1, r1, s1, D2, r2, s2, D3, r3, s3, D4, r4, s4, D5, r5, s5⟩ x h8 (some ⟨ab, ao, none⟩) k c ms w4 HX.out HM.out HZ.out (by omega) HT.out).mono ?_
     rintro e w5 ⟨rfl, hb5⟩
     have HB5 := Lib.hid (HB4.out.trans (hb5.mono HB4.out.size))
     replace HX := Lib.hid (HX.out.up hb5)
     replace HM := Lib.hid ((HM.out.below hb5 (Nat.le_refl _)).more hb5.size)
     replace P0 := Lib.hid (P0.out.below hb5 P0.out.lt)
     replace HT := Lib.hid (HT.out.up hb5)
     replace HI3 := Lib.hid ((HI3.out.below hb5 (Nat.le_refl _)).more hb5.size)
     replace HI4 := Lib.hid ((HI4.out.below hb5 (Nat.le_refl _)).more hb5.size)
     rw [rankA_eq HCK.out]
     clear hb5 HB4
     obtain ⟨ra, hra⟩ : ∃ ra, rankR (rowsR x ms) = ra := ⟨_, rfl⟩
     rw [hra] at HLAW ⊢
     clear hra
     have HZ3 : Hid (∀ a ∈ cutAtK ms j, a.txt.size ≤ maxLen) := Lib.hid fun a ha => HZ.out a (cutAtK_mem ha)
     obtain ⟨k1, hk1⟩ : ∃ k1, j + 1 + k1 = k := ⟨k - (j + 1), by have := HJK.out; omega⟩
     have HK1 := Lib.hid hk1
     clear hk1
     have hjk : j < k := HJK.out
     have hjI : (j : Int) ≤ (k : Int) := by omega
     have hj0 : (0 : Int) ≤ (j : Int) := by omega
     have hjn : (j : Int).toNat = j := Int.toNat_natCast j
     have hjc : (j : Int) ≤ (c : Int) := by omega
     have hj1 : (j : Int) + 1 ≤ (k : Int) := by omega
     have hj2 : (0 : Int) ≤ (j : Int) + 1 := by omega
     have hjw : IntKind.i64.wrap ((j : Int) + 1) = (j : Int) + 1 := wrap_i64 (by omega) (by omega)
     have hjn1 : ((j : Int) + 1).toNat = j + 1 := by omega
     have PNX := P0.out
     obtain ⟨y0, y1, y2, y3, y4, y5, nf, nlt⟩ := net_box (h := ⟨D0, r0, s0, D1, r1, s1, D2, r2, s2, D3, r3, s3, D4, r4, s4, D5, r5, s5⟩) PNX
     dsimp only at y0 y1 y2 y3 y4 y5
     clear PNX
     go_upto_region 12 with fail
     go_cut [14, 16] (fun v14 v16 wc => v14 = .int .i64 (rankR (rowsR x (cutAtK ms j)) : Int) ∧ v16 = .int .i64 0 ∧ Below w5.heap.size w5 wc)
     case first =>
      refine wp_region_last (S := fun w' => Below w5.heap.size w5 w') 18 _ (by kernel_rfl) (by kernel_rfl) rfl (below_drew (Below.refl _ _)) (fun hHeld => ?_)
      simp only [List.take_succ_cons, List.take_zero]
      refine tkH 0 rfl (by intro w' _ hcc; go_simp <;> with_reducible rfl) hHeld ?_
      try simp only [Act.put, sA_, sB_, sC_]
      refine tkH 2 rfl (by intro w' _ hcc; go_simp <;> with_reducible rfl) hHeld ?_
      try simp only [Act.put, sA_, sB_, sC_]
      refine tkH 3 rfl (by intro w' _ hcc; go_simp <;> with_reducible rfl) hHeld ?_
      try simp only [Act.put, sA_, sB_, sC_]
      refine tkH 4 rfl (by intro w' _ hcc; go_simp <;> with_reducible rfl) hHeld ?_
      try simp only [Act.put, sA_, sB_, sC_]
      refine tkH 6 rfl (by intro w' _ hcc; go_simp <;> with_reducible rfl) hHeld ?_
      try simp only [Act.put, sA_, sB_, sC_]
      refine tkH 7 rfl (by intro w' _ hcc; go_simp <;> with_reducible rfl) hHeld ?_
      try simp only [Act.put, sA_, sB_, sC_]
      refine tkH 8 rfl (by intro w' _ hcc; go_simp <;> with_reducible rfl) hHeld ?_
      try simp only [Act.put, sA_, sB_, sC_]
      refine tkH 9 rfl (by intro w' _ hcc; go_simp <;> with_reducible rfl) hHeld ?_
      try simp only [Act.put, sA_, sB_, sC_]
      clear y0 y1 y2 y3 y4 y5 nf nlt
      have HV0 := Lib.hid (below_drew (Below.refl w5.heap.size w5))
      generalize w5.drew = v0 at *
      have HTL := Lib.hid (HM.out.tail HKC.out (i := j + 1) (by have := HJK.out; omega))
      generalize (if c = j + 1 then (some ⟨ab, ao, none⟩ : Option Addr) else some ⟨ab, ao + (j + 1) * 4, none⟩) = A37 at *
      refine stepH 1 (by kernel_rfl) rfl (fun K hK => ?_)
      go_simp
      have hz : Below v0.heap.size v0 (v0.alloc (.cells #[] 57)) := (Below.refl _ _).alloc (Nat.le_refl _) _
      have HO1 : Hid (OwnMi (v0.alloc (.cells #[] 57)) v0.heap.size (.slice (some ⟨v0.heap.size, 0, none⟩) 0 0) []) := Lib.hid ownMi_lit0
      have HV1 : Hid (Below w5.heap.size w5 (v0.alloc (.cells #[] 57))) := Lib.hid (HV0.out.trans (hz.mono HV0.out.size))
      have HG0 : Hid (w5.heap.size ≤ v0.heap.size ∧ v0.heap.size < (v0.alloc (.cells #[] 57)).heap.size) := Lib.hid ⟨HV0.out.size, by simp⟩
      generalize v0.alloc (.cells #[] 57) = v1 at *
      generalize v0.heap.size = g0 at *
      clear hz HV0
      refine hK.out _ _ ?_ (fun hHeld => ?_)
      ·exact HV1.out
      clear hK K
      try simp only [Act.put, sA_, sB_, sC_]
      refine stepH 5 (by kernel_rfl) rfl (fun K hK => ?_)
      refine ite_go (by rfl) ?_
      refine wp_appMi (.tmp 78) (.tmp 81) 52 rfl g0 Tryz.underlying52 (.slice (some ⟨g0, 0, none⟩) 0 0) [] rfl HO1.out (some ⟨ab, ao, none⟩) j c (ms.take j) rfl (((HM.out.below HV1.out (Nat.le_refl _)).more HV1.out.size).take (Nat.le_of_lt HJK.out)) ?k1 ?k2 j ?k3 ?_
      case k1 => simp only [List.length_nil]; omega
      case k2 => have := HG0.out; omega
      case k3 => rw [List.nil_append, List.length_take]; have := HML.out; omega
      intro Ay cy v2 ho hb hg
      have HO2 : Hid (OwnMi v2 g0 (.slice Ay j cy) (ms.take j)) := Lib.hid ho
      have HV2 : Hid (Below w5.heap.size w5 v2) := Lib.hid (HV1.out.trans (hb.mono HG0.out.1))
      have HGS : Hid (g0 < v2.heap.size) := Lib.hid (by have := HG0.out; have := hb.size; omega)
      clear ho hb hg HO1 HV1
      refine hK.out _ _ ?_ (fun hHeld => ?_)
      ·exact HV2.out
      clear hK K
      try simp only [Act.put, sA_, sB_, sC_]
      refine stepH 10 (by kernel_rfl) rfl (fun K hK => ?_)
      refine ite_go (by rfl) ?_
      refine wp_appMi (.tmp 82) (.tmp 86) 52 rfl g0 Tryz.underlying52 (.slice Ay j cy) (ms.take j) rfl HO2.out A37 (k - (j + 1)) (c - (j + 1)) (ms.drop (j + 1)) rfl ((HTL.out.below HV2.out (Nat.le_refl _)).more HV2.out.size) ?k1 ?k2 (j + k1) ?k3 ?_
      case k1 => rw [List.length_take]; have := HML.out; omega
      case k2 => have := HGS.out; omega
      case k3 => rw [List.length_append, List.length_take, List.length_drop]; have := HML.out; have := HK1.out; omega
      intro Az cz v3 ho hb hg
      have HO3 : Hid (OwnMi v3 g0 (.slice Az (j + k1) cz) (cutAtK ms j)) := Lib.hid ho
      have HV3 : Hid (Below w5.heap.size w5 v3) := Lib.hid (HV2.out.trans (hb.mono HG0.out.1))
      clear ho hb hg HO2 HV2
      refine hK.out _ _ ?_ (fun hHeld => ?_)
      ·exact HV3.out
      clear hK K
      try simp only [Act.put, sA_, sB_, sC_]
      refine stepH 11 (by kernel_rfl) rfl (fun K hK => ?_)
      go_simp
      obtain ⟨hmm, hm1, hm2⟩ := HO3.out.rd2
      refine (orank_any ⟨D0, r0, s0, D1, r1, s1, D2, r2, s2, D3, r3, s3, D4, r4, s4, D5, r5, s5⟩ x h8 Az (j + k1) cz (cutAtK ms j) v3 (HX.out.up HV3.out) hmm HZ3.out (by have := HK1.out; omega) (HT.out.up HV3.out)).mono ?_
      rintro e w9 ⟨rfl, hb9⟩
      rw [rankA_eq HLAW.out.2.2.2.1]
      have HB9 : Hid (Below w5.heap.size w5 w9) := Lib.hid (HV3.out.trans (hb9.mono HV3.out.size))
      clear hb9 hmm hm1 hm2 HV3 HO3
      go_simp
      refine hK.out _ _ ?_ (fun hHeld => ?_)
      ·exact HB9.out
      clear hK K
      try simp only [Act.put, sA_, sB_, sC_]
      refine tkH 12 rfl (by intro w' _ hcc; go_simp <;> with_reducible rfl) hHeld ?_
      try simp only [Act.put, sA_, sB_, sC_]
      refine tkH 13 rfl (by intro w' _ hcc; go_simp <;> with_reducible rfl) hHeld ?_
      try simp only [Act.put, sA_, sB_, sC_]
      refine tkH 14 rfl (by intro w' _ hcc; go_simp <;> with_reducible rfl) hHeld ?_
      try simp only [Act.put, sA_, sB_, sC_]
      refine tkH 15 rfl (by intro w' _ hcc; go_simp <;> with_reducible rfl) hHeld ?_
      try simp only [Act.put, sA_, sB_, sC_]
      refine tkH 16 rfl (by intro w' _ hcc; go_simp <;> with_reducible rfl) hHeld ?_
      try simp only [Act.put, sA_, sB_, sC_]
      refine tkH 17 rfl (by intro w' _ hcc; go_simp <;> with_reducible rfl) hHeld ?_
      try simp only [Act.put, sA_, sB_, sC_]
      refine wpAnyH_done (by kernel_rfl) ?_ _
      refine lastQ_go (by rfl) ?_
      clear hHeld
      go_wp2_with fail
      go_meet
      case rel => exact ⟨rfl, rfl, HB9.out⟩
     case rest =>
      obtain ⟨rfl, rfl, hbc⟩ := hcut
      have HB6 := Lib.hid (HB5.out.trans (hbc.mono HB5.out.size))
      replace HI3 := Lib.hid ((HI3.out.below hbc (Nat.le_refl _)).more hbc.size)
      replace HI4 := Lib.hid ((HI4.out.below hbc (Nat.le_refl _)).more hbc.size)
      clear hbc HB5 y0 y1 y2 y3 y4 y5 nf nlt
      generalize wc = w6 at *
      clear hjI hjc hj1 hj2 hjw hjn1
      have HRB : Hid (rankR (rowsR x (cutAtK ms j)) ≤ 8) := Lib.hid (Nat.le_trans (more_law HLAW.out.2.2.2.1).2.1 (by rw [cutAtK_len (by rw [HML.out]; exact HJK.out)]; have := HML.out; omega))
      obtain ⟨rb, hrb⟩ : ∃ rb, rankR (rowsR x (cutAtK ms j)) = rb := ⟨_, rfl⟩
      rw [hrb] at HLAW HRB ⊢
      clear hrb
      obtain ⟨-, hl2, hl3, -, hl5, hl6⟩ := HLAW.out
      have HLEN : Hid ((critR (rowsR x (ms ++ [m]))).length ≤ 64) := Lib.hid (Nat.le_trans (critK_len (rowsR x (ms ++ [m])) (rowsR x (ms ++ [m])).length) (by rw [rowsR_len, List.length_append, List.length_singleton]; have := HML.out; have := HK6.out; omega))
      rw [HML.out] at hl3
      have HH := Lib.hid (hasInt_any A9 _ c9 (natJ (critR (rowsR x (ms ++ [m])))) (j : Int) w6 HI4.out (by have := HLEN.out; omega))
      have HH2 := Lib.hid (hasInt_any A9 _ c9 (natJ (critR (rowsR x (ms ++ [m])))) (k : Int) w6 HI4.out (by have := HLEN.out; omega))
      have HH3 := Lib.hid (hasInt_any A3 _ c3 (natJ (critR (rowsR x ms))) (j : Int) w6 HI3.out (by have := HCL.out; omega))
      rw [any_eq, decide_eq_false hl2] at HH
      rw [any_eq, decide_eq_false hl3] at HH2
      rw [any_eq] at HH3
      generalize (critR (rowsR x (ms ++ [m]))).length = n9 at *
      generalize (critR (rowsR x ms)).length = n3 at *
      have hrb8 : rb ≤ 8 := HRB.out
      clear HLAW
      rcases hl5 with hl | hl
      ·have hin : ¬ j ∈ critR (rowsR x ms) := by rw [hl6]; omega
       subst hl
       rw [decide_eq_false hin] at HH3
       have hne : ((ra : Int) == (ra : Int) + 1) = false := by simp; omega
       clear hin hl6
       go_wp2_with fail
       refine HH.out.mono ?_
       rintro e w7 ⟨rfl, rfl⟩
       go_wp2_with fail
       refine HH2.out.mono ?_
       rintro e w7 ⟨rfl, rfl⟩
       go_wp2_with fail
       refine HH3.out.mono ?_
       rintro e w7 ⟨rfl, rfl⟩
       go_wp2_with fail
       go_ret
       exact ⟨rfl, HB6.out⟩
      ·have hin : j ∈ critR (rowsR x ms) := by rw [hl6]; omega
       subst hl
       rw [decide_eq_true hin] at HH3
       have hne : (((rb + 1 : Nat) : Int) == (rb : Int)) = false := by simp; omega
       have heq : (((rb + 1 : Nat) : Int) == (rb : Int) + 1) = true := by simp
       clear hin hl6
       go_wp2_with fail
       refine HH.out.mono ?_
       rintro e w7 ⟨rfl, rfl⟩
       go_wp2_with fail
       refine HH2.out.mono ?_
       rintro e w7 ⟨rfl, rfl⟩
       go_wp2_with fail
       refine HH3.out.mono ?_
       rintro e w7 ⟨rfl, rfl⟩
       go_wp2_with fail
       go_ret
       exact ⟨rfl, HB6.out⟩
end
end Go.Proofs.YtakllkkmofdpaaaGreatDoor
