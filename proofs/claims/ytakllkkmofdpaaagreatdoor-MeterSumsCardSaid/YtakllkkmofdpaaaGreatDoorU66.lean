import Derived.Test.YtakllkkmofdpaaaGreatDoorU65
set_option linter.unusedVariables false
set_option linter.unusedSimpArgs false
namespace Go.Proofs.YtakllkkmofdpaaaGreatDoor
section
open Go.ChangeShapes Go.WideShapes Go.ChangeAt Go.RowKit
attribute [local go_sem ↓] execOp_call_val
attribute [local go_sem] callVal_func setCell_drewN alloc_drewN sEq_walk
theorem blk_take {w : World} {g T n : Nat} {zs : List Int} (h : Blk w g T (ints zs).toArray) (hn : n ≤ zs.length) : RdI w w.heap.size (some ⟨g, 0, none⟩) n (zs.take n) := by
 refine ⟨by unfold ints; rw [List.length_map, List.length_take, Nat.mul_one]; omega, fun h0 => ⟨g, 0, rfl, h.lt, fun j u hu => ?_⟩⟩
 rw [Nat.zero_add, h.cell j]
 unfold ints at hu ⊢
 rw [List.map_take] at hu
 have hj := (List.getElem?_eq_some_iff.1 hu).1
 rw [List.length_take] at hj
 rw [List.getElem?_take_of_lt (by omega)] at hu
 simpa using hu
set_option maxRecDepth 100000 in
set_option maxHeartbeats 4000000 in
theorem msums_any (h : NetH) (x : Net) (B : Option Addr) (q d : Nat) (ss : List ByteArray) (w : World) (r : RdNet w w.heap.size h x) (hR : RdStr w w.heap.size B q ss) (hq : q ≤ 9223372036854775807) (ht : TabOk w) :
    Calls Tryz.prog 10 #[.agg h.cells, .slice B q d] w fun e w' => e = .returned (.bool true) ∧ Below w.heap.size w w' := by
 have K0 : Below w.heap.size w (w.alloc (.cells h.cells 33)) := (Below.refl _ _).alloc (Nat.le_refl _) _
 have HK := Lib.hid K0
 have P0 := Lib.hid (Blk.new w 33 h.cells)
 have HX := Lib.hid (r.up K0)
 have HS := Lib.hid ((hR.below K0 (Nat.le_refl _)).more K0.size)
 have HT := Lib.hid (ht.up K0)
 have HSL : Hid (ss.length = q) := Lib.hid hR.1
 clear K0 r ht hR
 obtain ⟨D0, r0, s0, D1, r1, s1, D2, r2, s2, D3, r3, s3, D4, r4, s4, D5, r5, s5⟩ := h
 go_enter Tryz.func10, Tryz.ntmps10
 go_wp2_with fail
 have HSZ : Hid (w.heap.size ≤ (w.alloc (.cells (NetH.cells ⟨D0, r0, s0, D1, r1, s1, D2, r2, s2, D3, r3, s3, D4, r4, s4, D5, r5, s5⟩) 33)).heap.size) := Lib.hid HK.out.size
 generalize w.alloc (.cells (NetH.cells ⟨D0, r0, s0, D1, r1, s1, D2, r2, s2, D3, r3, s3, D4, r4, s4, D5, r5, s5⟩) 33) = W at *
 refine (mworks_any W HT.out).mono ?_
 rintro e w1 ⟨rfl, hb1⟩
 have HB1 := Lib.hid (HK.out.trans (hb1.mono HSZ.out))
 replace HX := Lib.hid (HX.out.up hb1)
 replace HS := Lib.hid ((HS.out.below hb1 (Nat.le_refl _)).more hb1.size)
 replace P0 := Lib.hid (P0.out.below hb1 P0.out.lt)
 replace HT := Lib.hid (HT.out.up hb1)
 clear hb1 HK HSZ
 have PNX := P0.out
 obtain ⟨y0, y1, y2, y3, y4, y5, nf, nlt⟩ := net_box (h := ⟨D0, r0, s0, D1, r1, s1, D2, r2, s2, D3, r3, s3, D4, r4, s4, D5, r5, s5⟩) PNX
 dsimp only at y0 y1 y2 y3 y4 y5
 clear PNX
 go_wp2_with fail
 clear y0 y1 y2 y3 y4 y5 nf nlt
 have hz : Below w1.heap.size w1 (w1.alloc (.cells #[.slice B q d] 23)) := (Below.refl _ _).alloc (Nat.le_refl _) _
 have HVC := Lib.hid (rdVc_v (T := 23) (c := d) HS.out hq)
 have HB1b := Lib.hid (HB1.out.trans (hz.mono HB1.out.size))
 replace HX := Lib.hid (HX.out.up hz)
 replace HS := Lib.hid ((HS.out.below hz (Nat.le_refl _)).more hz.size)
 replace P0 := Lib.hid (P0.out.below hz P0.out.lt)
 replace HT := Lib.hid (HT.out.up hz)
 clear hz HB1
 generalize w1.alloc (.cells #[.slice B q d] 23) = w1b at *
 refine (small_any ⟨D0, r0, s0, D1, r1, s1, D2, r2, s2, D3, r3, s3, D4, r4, s4, D5, r5, s5⟩ x none 0 0 [] _ 1 1 [⟨B, q, d, ss⟩] w1b HX.out ⟨rfl, rfl, fun h => absurd h (by decide)⟩ HVC.out (by decide) (by decide)).mono ?_
 rintro e w2 ⟨rfl, hb2⟩
 have HB2 := Lib.hid (HB1b.out.trans (hb2.mono HB1b.out.size))
 replace HX := Lib.hid (HX.out.up hb2)
 replace HS := Lib.hid ((HS.out.below hb2 (Nat.le_refl _)).more hb2.size)
 replace P0 := Lib.hid (P0.out.below hb2 P0.out.lt)
 replace HT := Lib.hid (HT.out.up hb2)
 clear HVC
 clear hb2 HB1b
 cases hsm : smallR x [] [⟨B, q, d, ss⟩] with
 | false =>
  go_wp2_with fail
  go_ret
  exact ⟨rfl, HB2.out⟩
 | true =>
  obtain ⟨h8, h10, -, hs24⟩ := small_all hsm
  have HS24 : Hid (∀ s ∈ ss, s.size ≤ 24) := Lib.hid hs24
  have HSM : Hid (∀ s ∈ ss, s.size ≤ maxLen) := Lib.hid fun s hs => Nat.le_trans (hs24 s hs) (by decide)
  have H10 := Lib.hid h10
  clear hsm hs24 h10
  by_cases hnk : netCk x = 0
  ·have HNK := Lib.hid hnk
   have HOK := Lib.hid (netCk_ok hnk)
   clear hnk
   have HNB : Hid (busN x ≤ 8) := Lib.hid (Nat.le_trans (busN_ok HOK.out).2 h8)
   have HNN : Hid (x.nodes.length = r0) := Lib.hid HX.out.r0.1
   have HBL : Hid ((busR x).length = r0) := Lib.hid ((busR_ok HOK.out).1.trans HNN.out)
   have hr8 : r0 ≤ 8 := by rw [← HNN.out]; exact h8
   have PNX := P0.out
   obtain ⟨y0, y1, y2, y3, y4, y5, nf, nlt⟩ := net_box (h := ⟨D0, r0, s0, D1, r1, s1, D2, r2, s2, D3, r3, s3, D4, r4, s4, D5, r5, s5⟩) PNX
   dsimp only at y0 y1 y2 y3 y4 y5
   clear PNX
   go_wp2_with fail
   clear y0 y1 y2 y3 y4 y5 nf nlt
   refine (topOf_any ⟨D0, r0, s0, D1, r1, s1, D2, r2, s2, D3, r3, s3, D4, r4, s4, D5, r5, s5⟩ x w2 HX.out HNK.out).mono ?_
   rintro e w3 ⟨hb3, g1, g2, rfl, hg1, hg2, hk1, hk2⟩
   rw [HNN.out]
   have HG1 := Lib.hid hk1
   clear hg1 hg2 hk1 hk2
   have hz : Below w3.heap.size w3 (w3.alloc (.cells #[.slice (some ⟨g1, 0, none⟩) r0 r0, .slice (some ⟨g2, 0, none⟩) (busN x) (busN x)] 65)) := (Below.refl _ _).alloc (Nat.le_refl _) _
   have P7 := Lib.hid (Blk.new w3 65 #[.slice (some ⟨g1, 0, none⟩) r0 r0, .slice (some ⟨g2, 0, none⟩) (busN x) (busN x)])
   have hz4 := hb3.trans (hz.mono hb3.size)
   have HB4 := Lib.hid (HB2.out.trans (hz4.mono HB2.out.size))
   replace HG1 := Lib.hid (HG1.out.below hz HG1.out.lt)
   replace HX := Lib.hid (HX.out.up hz4)
   replace HS := Lib.hid ((HS.out.below hz4 (Nat.le_refl _)).more hz4.size)
   replace P0 := Lib.hid (P0.out.below hz4 P0.out.lt)
   replace HT := Lib.hid (HT.out.up hz4)
   clear hb3 hz hz4 HB2
   go_upto_region 6 with fail
   generalize w3.alloc (.cells #[.slice (some ⟨g1, 0, none⟩) r0 r0, .slice (some ⟨g2, 0, none⟩) (busN x) (busN x)] 65) = w4 at *
   generalize w3.heap.size = p7 at *
   have PNX := P0.out
   obtain ⟨y0, y1, y2, y3, y4, y5, nf, nlt⟩ := net_box (h := ⟨D0, r0, s0, D1, r1, s1, D2, r2, s2, D3, r3, s3, D4, r4, s4, D5, r5, s5⟩) PNX
   dsimp only at y0 y1 y2 y3 y4 y5
   clear PNX
   have hr10 : ¬ (10 : Int) < (r0 : Int) := by omega
   go_wp2_with fail
   clear y0 y1 y2 y3 y4 y5 nf nlt hr10
   go_loopw [7, 38] (fun v7 v38 wr => ∃ (k c8 N : Nat) (A8 : Option Addr), k ≤ r0 ∧ v38 = .int .i64 k ∧ v7 = .slice A8 N c8 ∧ OwnMi wr w4.heap.size (.slice A8 N c8) (selM x k) ∧ Below w4.heap.size w4 wr) (fun _ v38 _ => r0 - (intOf v38).toNat)
   case atStart => exact ⟨0, 0, 0, none, by omega, rfl, rfl, ownMi_none _ _, Below.refl _ _⟩
   case round =>
    obtain ⟨k, c8, N, A8, hk, rfl, rfl, ho, hb⟩ := hrel
    have HO := Lib.hid ho
    have HB := Lib.hid hb
    have HNL : Hid (N ≤ k) := Lib.hid (by rw [← ho.rd2.1.1]; exact selM_len x k)
    clear ho hb
    by_cases hlt : k < r0
    ·obtain ⟨s, hs⟩ : ∃ s, x.nodes[k]? = some s := ⟨_, List.getElem?_eq_getElem (by have := HNN.out; omega)⟩
     have HSK := Lib.hid hs
     have hn0 := HX.out.r0.below HB.out (Nat.le_refl _)
     obtain ⟨nb, no, hA, hnb⟩ := hn0.form (show 0 < r0 by omega)
     subst hA
     have cs := hn0.at_ hs
     have hnl : nb < wr.heap.size := Nat.lt_of_lt_of_le hnb HB.out.size
     have hG1 := HG1.out.below HB.out HG1.out.lt
     obtain ⟨bv, hbv⟩ : ∃ bv, (busR x).getD k 0 = bv := ⟨_, rfl⟩
     have cb : wr.cell? ⟨g1, k, none⟩ = some (.int .i64 bv) := by
      rw [hG1.cell, List.getElem?_toArray]; unfold ints
      rw [List.getElem?_map, ← hbv, List.getD_eq_getElem?_getD, List.getElem?_eq_getElem (by rw [HBL.out]; exact hlt)]
      rfl
     have gl := hG1.lt
     have hP7 := P7.out.below HB.out P7.out.lt
     have z0 := hP7.cell 0
     have zl := hP7.lt
     have HHI := Lib.hid (fun (W2 : World) (hb2 : Below wr.heap.size wr W2) => hasInt_any (some ⟨g1, 0, none⟩) k r0 ((busR x).take k) bv W2 (blk_take (hG1.below hb2 hG1.lt) (by rw [HBL.out]; omega)) (by omega))
     have HFB : Hid (firstB x k = !(((busR x).take k).any fun a => a == bv)) := Lib.hid (by unfold firstB; rw [hbv])
     have hkI : (k : Int) < (r0 : Int) := by omega
     have hk0 : (0 : Int) ≤ (k : Int) := by omega
     have hkn : (k : Int).toNat = k := Int.toNat_natCast k
     have hkl : (k : Int) ≤ (r0 : Int) := by omega
     have HNX : Hid ((k : Int) + 1 = ((k + 1 : Nat) : Int)) := Lib.hid (by omega)
     have HNM : Hid (r0 - (k + 1) < r0 - k) := Lib.hid (by omega)
     have HLT := Lib.hid hlt
     clear hs hn0 hnb hG1 hP7 hbv
     go_upto_region 12 with fail
     refine wp_region_last (S := fun w' => Below wr.heap.size wr w') 10 _ (by kernel_rfl) (by kernel_rfl) rfl (below_drew (Below.refl _ _)) (fun hHeld => ?_)
     simp only [List.take_succ_cons, List.take_zero]
     refine tkH 0 rfl (by intro w' _ hcc; go_simp <;> with_reducible rfl) hHeld ?_
     try simp only [Act.put, sA_, sB_, sC_]
     refine tkH 1 rfl (by intro w' _ hcc; go_simp <;> with_reducible rfl) hHeld ?_
     try simp only [Act.put, sA_, sB_, sC_]
     refine tkH 2 rfl (by intro w' _ hcc; go_simp <;> with_reducible rfl) hHeld ?_
     try simp only [Act.put, sA_, sB_, sC_]
     refine tkH 3 rfl (by intro w' _ hcc; go_simp <;> with_reducible rfl) hHeld ?_
     try simp only [Act.put, sA_, sB_, sC_]
     refine tkH 4 rfl (by intro w' _ hcc; go_simp <;> with_reducible rfl) hHeld ?_
     try simp only [Act.put, sA_, sB_, sC_]
     refine tkH 5 rfl (by intro w' _ hcc; go_simp <;> with_reducible rfl) hHeld ?_
     try simp only [Act.put, sA_, sB_, sC_]
     refine tkH 6 rfl (by intro w' _ hcc; go_simp <;> with_reducible rfl) hHeld ?_
     try simp only [Act.put, sA_, sB_, sC_]
     refine tkH 7 rfl (by intro w' _ hcc; go_simp <;> with_reducible rfl) hHeld ?_
     try simp only [Act.put, sA_, sB_, sC_]
     refine tkH 8 rfl (by intro w' _ hcc; go_simp <;> with_reducible rfl) hHeld ?_
     try simp only [Act.put, sA_, sB_, sC_]
     have HV0 := Lib.hid (below_drew (Below.refl wr.heap.size wr))
     generalize wr.drew = v0 at *
     refine stepH 9 (by kernel_rfl) rfl (fun K hK => ?_)
     go_simp
     refine (HHI.out v0 HV0.out).mono ?_
     rintro e v1 ⟨rfl, rfl⟩
     go_simp
     refine hK.out _ _ ?_ (fun hHeld => ?_)
     ·exact HV0.out
     clear hK K
     try simp only [Act.put, sA_, sB_, sC_]
     refine wpAnyH_done (by kernel_rfl) ?_ _
     refine lastQ_go (by rfl) ?_
     clear hHeld cs hnl cb gl z0 zl hkI hk0 hkn hkl
     cases hfb : ((busR x).take k).any fun a => a == bv with
     | false =>
      have hf : firstB x k = true := by rw [HFB.out, hfb]; rfl
      have HSY := Lib.hid (selM_yes hf HSK.out)
      clear hf hfb
      have hz : Below v0.heap.size v0 (v0.alloc (.cells #[.int .i64 1, .string s, .string ⟨#[48]⟩, .int .i64 1] 57)) := (Below.refl _ _).alloc (Nat.le_refl _) _
      have HZ := Lib.hid hz
      have HOZ := Lib.hid ((HO.out.keep HV0.out).keep hz)
      have HLZ : Hid (RdMi (v0.alloc (.cells #[.int .i64 1, .string s, .string ⟨#[48]⟩, .int .i64 1] 57)) (v0.alloc (.cells #[.int .i64 1, .string s, .string ⟨#[48]⟩, .int .i64 1] 57)).heap.size (some ⟨v0.heap.size, 0, none⟩) 1 [injM s]) := Lib.hid (rdMi_blk (m := injM s) (Blk.new v0 _ _))
      clear hz HO
      go_wp2_with (at_builtin; refine wpList_appMi rfl (.tmp 54) (.tmp 57) _ rfl w4.heap.size Tryz.underlying52 (.slice A8 N c8) _ rfl HOZ.out (some ⟨v0.heap.size, 0, none⟩) 1 1 [injM s] rfl HLZ.out ?k1 ?k2 (N + 1) ?k3 ?_)
      case k1 => have := HOZ.out.rd2.1.1; have := HNL.out; omega
      case k2 => have := HB.out.size; have := HV0.out.size; have := HZ.out.size; omega
      case k3 => rw [List.length_append, HOZ.out.rd2.1.1]; rfl
      intro Ax cx v3 ho3 hb3 _
      have HO3 : Hid (OwnMi v3 w4.heap.size (.slice Ax (N + 1) cx) (selM x (k + 1))) := Lib.hid (by rw [HSY.out]; exact ho3)
      have HB3 := Lib.hid ((HB.out.trans ((HV0.out.trans (HZ.out.mono HV0.out.size)).mono HB.out.size)).trans hb3)
      clear ho3 hb3 HOZ HLZ HZ HV0
      have hlt : k < r0 := HLT.out
      go_wp2_with fail
      go_roundw
      case rel => exact ⟨k + 1, cx, N + 1, Ax, HLT.out, val_int HNX.out, rfl, HO3.out, HB3.out⟩
      case measure => exact HNM.out
     | true =>
      have hf : firstB x k = false := by rw [HFB.out, hfb]; rfl
      have HSN := Lib.hid (selM_no hf)
      clear hf hfb
      replace HO := Lib.hid (HO.out.keep HV0.out)
      replace HB := Lib.hid (HB.out.trans (HV0.out.mono HB.out.size))
      have hlt : k < r0 := HLT.out
      go_wp2_with fail
      go_roundw
      case rel => exact ⟨k + 1, c8, N, A8, HLT.out, val_int HNX.out, rfl, by rw [HSN.out]; exact HO.out, HB.out⟩
      case measure => exact HNM.out
    ·have hke : k = r0 := by omega
     subst hke
     have hkI : ¬ (k : Int) < (k : Int) := by omega
     have HRL := Lib.hid HO.out.rd2.1
     have HBW := Lib.hid (HB4.out.trans (HB.out.mono HB4.out.size))
     have HZM : Hid (∀ m ∈ selM x k, m.txt.size ≤ maxLen) := Lib.hid fun m hm => by
      unfold selM at hm
      obtain ⟨i, _, rfl⟩ := List.mem_map.1 hm
      show (⟨#[48]⟩ : ByteArray).size ≤ maxLen
      decide
     have HSE : Hid (selM x k = selM x x.nodes.length) := Lib.hid (by rw [HNN.out])
     have PNX := P0.out.below HB.out P0.out.lt
     obtain ⟨y0, y1, y2, y3, y4, y5, nf, nlt⟩ := net_box (h := ⟨D0, k, s0, D1, r1, s1, D2, r2, s2, D3, r3, s3, D4, r4, s4, D5, r5, s5⟩) PNX
     dsimp only at y0 y1 y2 y3 y4 y5
     clear PNX
     go_wp2_with fail
     clear y0 y1 y2 y3 y4 y5 nf nlt
     refine (mread_any ⟨D0, k, s0, D1, r1, s1, D2, r2, s2, D3, r3, s3, D4, r4, s4, D5, r5, s5⟩ x h8 A8 N c8 (selM x k) B q d ss wr (HX.out.up HB.out) HRL.out ((HS.out.below HB.out (Nat.le_refl _)).more HB.out.size) HZM.out HSM.out (by have := HNL.out; omega) hq (HT.out.up HB.out)).mono ?_
     rintro e w5 ⟨hb5, hh⟩
     have HB5 := Lib.hid (HBW.out.trans (hb5.mono HBW.out.size))
     replace HT := Lib.hid (HT.out.up (HB.out.trans (hb5.mono HB.out.size)))
     clear hb5
     rcases hh with ⟨hre, rfl⟩ | ⟨hre, hf1, hf2⟩
     ·have hB : (readE x (selM x k) ss != 0) = true := by simp [hre]
      go_wp2_with fail
      go_ret
      exact ⟨rfl, HB5.out⟩
     ·obtain ⟨hck, hsl, hsv⟩ := readE_parts hre
      have HMI := Lib.hid (mtCk_ok hck).2.2
      have HAT : Hid (∀ t ∈ ss.map qOf, Tn 25 t) := Lib.hid fun t ht => by
       obtain ⟨s, hs, rfl⟩ := List.mem_map.1 ht
       exact tn_tiny (hsv s hs) (HS24.out s hs)
      have HAL : Hid ((ss.map qOf).length = busN x) := Lib.hid (by rw [List.length_map]; exact hsl)
      have HPF : Hid (∀ j, Fits (sumR ((mvals x (selM x k) ss).take j))) := Lib.hid fun j => sums_fits HOK.out H10.out HNB.out HMI.out (Nat.le_trans (selM_len x k) hr8) HAT.out (by rw [HAL.out]; exact HNB.out) j
      have HSU : Hid (sumR (mvals x (selM x k) ss) = 0) := Lib.hid (by unfold mvals; rw [HSE.out]; exact sums_zero HNK.out HAL.out)
      have HVL : Hid ((mvals x (selM x k) ss).length = N) := Lib.hid (by unfold mvals; rw [List.length_map]; exact HRL.out.1)
      clear hck hsl hsv hre
      by_cases hf : ∀ t ∈ mvals x (selM x k) ss, Fits t
      ·obtain ⟨A6, n6, c6, rfl, hr6, -, -⟩ := hf1 hf
       have hn6 : n6 = N := by rw [← hr6.1, List.length_map]; exact HVL.out
       subst hn6
       have HR6 := Lib.hid hr6
       have HFT := Lib.hid hf
       have HN8 : Hid (n6 ≤ 8) := Lib.hid (Nat.le_trans HNL.out hr8)
       have HT0 := Lib.hid (show sumR ([] : List Rat) = 0 from rfl)
       clear hf1 hf2 hr6 hf
       generalize mvals x (selM x k) ss = ml at *
       go_wp2_with fail
       go_loopw [12, 74] (fun v12 v74 wr => ∃ j : Nat, j ≤ n6 ∧ v74 = .int .i64 j ∧ v12 = .string (txtQ (sumR (ml.take j))) ∧ Below w5.heap.size w5 wr) (fun _ v74 _ => n6 - (intOf v74).toNat)
       case atStart => exact ⟨0, by omega, rfl, by rw [List.take_zero, HT0.out, mw_txt.2.2.2.1], Below.refl _ _⟩
       case round =>
        obtain ⟨j, hj, rfl, rfl, hb⟩ := hrel
        have HB6 := Lib.hid hb
        clear hb
        by_cases hlt2 : j < n6
        ·obtain ⟨a, ha⟩ : ∃ a, ml[j]? = some a := ⟨_, List.getElem?_eq_getElem (by rw [HVL.out]; exact hlt2)⟩
         have HAF := Lib.hid (HFT.out a (List.mem_of_getElem? ha))
         have HST : Hid (sumR (ml.take (j + 1)) = sumR (ml.take j) + a) := Lib.hid (by rw [take_at ha, sumR_snoc])
         have hr := HR6.out.below HB6.out (Nat.le_refl _)
         obtain ⟨rb, ro, hA, hrb⟩ := hr.form (by omega)
         subst hA
         have cr := hr.at_ (i := j) (x := txtQ a) (by rw [List.getElem?_map, ha]; rfl)
         have hrl : rb < wr.heap.size := Nat.lt_of_lt_of_le hrb HB6.out.size
         have hjI : (j : Int) < (n6 : Int) := by omega
         have hj0 : (0 : Int) ≤ (j : Int) := by omega
         have hjn : (j : Int).toNat = j := Int.toNat_natCast j
         have HNY : Hid ((j : Int) + 1 = ((j + 1 : Nat) : Int)) := Lib.hid (by omega)
         have HNZ : Hid (n6 - (j + 1) < n6 - j) := Lib.hid (by omega)
         have HLJ := Lib.hid hlt2
         clear ha hr hrb
         go_wp2_with fail
         clear cr hrl hjI hj0 hjn
         refine (plus_any (txtQ (sumR (ml.take j))) (txtQ a) (txt_mx (HPF.out j)) (txt_mx HAF.out) wr (HT.out.up HB6.out)).mono ?_
         rintro e w7 ⟨rfl, hb7⟩
         have hto : opS (fun p q => p + q) (txtQ (sumR (ml.take j))) (txtQ a) = txtQ (sumR (ml.take (j + 1))) := by
          have h := txt_op (f := fun p q => p + q) (HPF.out j) HAF.out (by rw [← HST.out]; exact HPF.out _)
          rw [HST.out]
          exact h
         rw [hto]
         have HB7 := Lib.hid (HB6.out.trans (hb7.mono HB6.out.size))
         clear hb7 hto
         have hn8 : n6 ≤ 8 := HN8.out
         have hlt2 : j < n6 := HLJ.out
         go_wp2_with fail
         go_roundw
         case rel => exact ⟨j + 1, HLJ.out, val_int HNY.out, rfl, HB7.out⟩
         case measure => exact HNZ.out
        ·have hje : j = n6 := by omega
         subst hje
         have hjI : ¬ (j : Int) < (j : Int) := by omega
         rw [List.take_of_length_le (by rw [HVL.out]; exact Nat.le_refl _), HSU.out, mw_txt.2.2.2.1]
         go_wp2_with fail
         go_ret
         exact ⟨rfl, HB5.out.trans (HB6.out.mono HB5.out.size)⟩
      ·obtain rfl := hf2 hf
       go_wp2_with fail
       go_ret
       exact ⟨rfl, HB5.out⟩
  ·have PNX := P0.out
   obtain ⟨y0, y1, y2, y3, y4, y5, nf, nlt⟩ := net_box (h := ⟨D0, r0, s0, D1, r1, s1, D2, r2, s2, D3, r3, s3, D4, r4, s4, D5, r5, s5⟩) PNX
   dsimp only at y0 y1 y2 y3 y4 y5
   clear PNX
   go_wp2_with fail
   clear y0 y1 y2 y3 y4 y5 nf nlt
   refine (topOf_bad ⟨D0, r0, s0, D1, r1, s1, D2, r2, s2, D3, r3, s3, D4, r4, s4, D5, r5, s5⟩ x w2 HX.out hnk).mono ?_
   rintro e w3 ⟨rfl, hb3⟩
   have HB3 := Lib.hid (HB2.out.trans (hb3.mono HB2.out.size))
   have hz : Below w3.heap.size w3 (w3.alloc (.cells #[.slice none 0 0, .slice none 0 0] 65)) := (Below.refl _ _).alloc (Nat.le_refl _) _
   have HB4 := Lib.hid (HB3.out.trans (hz.mono HB3.out.size))
   clear hz hb3 HB2 HB3
   have hB : (netCk x != 0) = true := by simp [hnk]
   go_wp2_with fail
   go_ret
   exact ⟨rfl, HB4.out⟩
end
end Go.Proofs.YtakllkkmofdpaaaGreatDoor
