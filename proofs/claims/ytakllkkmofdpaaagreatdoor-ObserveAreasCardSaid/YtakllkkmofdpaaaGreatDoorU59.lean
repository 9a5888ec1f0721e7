import Derived.Test.YtakllkkmofdpaaaGreatDoorU41
import Derived.Test.YtakllkkmofdpaaaGreatDoorU58
set_option linter.unusedVariables false
set_option linter.unusedSimpArgs false
namespace Go.Proofs.YtakllkkmofdpaaaGreatDoor
section
open Go.ChangeShapes Go.WideShapes Go.ChangeAt Go.RowKit
attribute [local go_sem ↓] execOp_call_val
attribute [local go_sem] callVal_func setCell_drewN alloc_drewN sEq_walk
theorem blk_set9 {w : World} {p t : Nat} {v0 v1 v2 v3 v4 v5 v6 v7 v8 x0 x1 x2 x3 x4 x5 x6 x7 x8 : Value} (h : Blk w p t #[x0, x1, x2, x3, x4, x5, x6, x7, x8]) : Blk (((((((((w.setCell ⟨p, 0, none⟩ v0).setCell ⟨p, 1, none⟩ v1).setCell ⟨p, 2, none⟩ v2).setCell ⟨p, 3, none⟩ v3).setCell ⟨p, 4, none⟩ v4).setCell ⟨p, 5, none⟩ v5).setCell ⟨p, 6, none⟩ v6).setCell ⟨p, 7, none⟩ v7).setCell ⟨p, 8, none⟩ v8) p t #[v0, v1, v2, v3, v4, v5, v6, v7, v8] := by
 have h0 : Blk _ p t #[v0, x1, x2, x3, x4, x5, x6, x7, x8] := h.set_at (i := 0) v0 (by simp)
 have h1 : Blk _ p t #[v0, v1, x2, x3, x4, x5, x6, x7, x8] := h0.set_at (i := 1) v1 (by simp)
 have h2 : Blk _ p t #[v0, v1, v2, x3, x4, x5, x6, x7, x8] := h1.set_at (i := 2) v2 (by simp)
 have h3 : Blk _ p t #[v0, v1, v2, v3, x4, x5, x6, x7, x8] := h2.set_at (i := 3) v3 (by simp)
 have h4 : Blk _ p t #[v0, v1, v2, v3, v4, x5, x6, x7, x8] := h3.set_at (i := 4) v4 (by simp)
 have h5 : Blk _ p t #[v0, v1, v2, v3, v4, v5, x6, x7, x8] := h4.set_at (i := 5) v5 (by simp)
 have h6 : Blk _ p t #[v0, v1, v2, v3, v4, v5, v6, x7, x8] := h5.set_at (i := 6) v6 (by simp)
 have h7 : Blk _ p t #[v0, v1, v2, v3, v4, v5, v6, v7, x8] := h6.set_at (i := 7) v7 (by simp)
 have h8 : Blk _ p t #[v0, v1, v2, v3, v4, v5, v6, v7, v8] := h7.set_at (i := 8) v8 (by simp)
 exact h8
theorem below_set9 {a w : World} {B p : Nat} {v0 v1 v2 v3 v4 v5 v6 v7 v8 : Value} (h : Below B a w) (hp : B ≤ p) : Below B a (((((((((w.setCell ⟨p, 0, none⟩ v0).setCell ⟨p, 1, none⟩ v1).setCell ⟨p, 2, none⟩ v2).setCell ⟨p, 3, none⟩ v3).setCell ⟨p, 4, none⟩ v4).setCell ⟨p, 5, none⟩ v5).setCell ⟨p, 6, none⟩ v6).setCell ⟨p, 7, none⟩ v7).setCell ⟨p, 8, none⟩ v8) :=
 (((((((((h.setCell hp _).setCell hp _).setCell hp _).setCell hp _).setCell hp _).setCell hp _).setCell hp _).setCell hp _).setCell hp _)
theorem nod_nd {x : Net} {s : ByteArray} (h : s ∈ x.nodes) : nodIdx x s = (ndIdx x.nodes s : Int) := by
 have e : (fun z : ByteArray => sEq z s) = fun z => sEq s z := by
  funext z
  unfold sEq
  by_cases hz : z = s
  ·rw [decide_eq_true hz, decide_eq_true hz.symm]
  ·rw [decide_eq_false hz, decide_eq_false (fun e => hz e.symm)]
 unfold nodIdx
 rw [e]
 exact (ndIdx_ok h).1
theorem take_nat {l : List Nat} {k : Nat} (h : k < l.length) : l.take (k + 1) = l.take k ++ [l.getD k 0] := by
 rw [List.take_add_one, List.getElem?_eq_getElem h, List.getD_eq_getElem?_getD, List.getElem?_eq_getElem h]; rfl
set_option maxRecDepth 100000 in
set_option maxHeartbeats 4000000 in
theorem oareas_any (h : NetH) (x : Net) (A : Option Addr) (n c : Nat) (ms0 : List Mi) (w : World) (r : RdNet w w.heap.size h x) (hm : RdMi w w.heap.size A n ms0) (hnc : n ≤ c) (hc : c ≤ 9223372036854775807) (ht : TabOk w) :
    Calls Tryz.prog 8 #[.agg h.cells, .slice A n c] w fun e w' => e = .returned (.bool true) ∧ Below w.heap.size w w' := by
 obtain ⟨k, hk6, hkn, hmin⟩ : ∃ k : Nat, k ≤ 6 ∧ k ≤ n ∧ min (n : Int) 6 = (k : Int) := by
  by_cases h : (6 : Int) < (n : Int)
  ·exact ⟨6, by omega, by omega, by omega⟩
  ·exact ⟨n, by omega, by omega, by omega⟩
 have hkc : (k : Int) ≤ (c : Int) := by omega
 have HK6 := Lib.hid hk6
 have hm1 := hm.take hkn
 generalize hms : ms0.take k = ms at *
 clear hms hm
 have K0 : Below w.heap.size w (w.alloc (.cells h.cells 33)) := (Below.refl _ _).alloc (Nat.le_refl _) _
 have HK := Lib.hid K0
 have P0 := Lib.hid (Blk.new w 33 h.cells)
 have HX := Lib.hid (r.up K0)
 have HM := Lib.hid ((hm1.below K0 (Nat.le_refl _)).more K0.size)
 have HT := Lib.hid (ht.up K0)
 have HML : Hid (ms.length = k) := Lib.hid hm1.1
 clear K0 hm1 r ht
 obtain ⟨D0, r0, s0, D1, r1, s1, D2, r2, s2, D3, r3, s3, D4, r4, s4, D5, r5, s5⟩ := h
 go_enter Tryz.func8, Tryz.ntmps8
 go_wp2_with fail
 have HSZ : Hid (w.heap.size ≤ (w.alloc (.cells (NetH.cells ⟨D0, r0, s0, D1, r1, s1, D2, r2, s2, D3, r3, s3, D4, r4, s4, D5, r5, s5⟩) 33)).heap.size) := Lib.hid HK.out.size
 generalize w.alloc (.cells (NetH.cells ⟨D0, r0, s0, D1, r1, s1, D2, r2, s2, D3, r3, s3, D4, r4, s4, D5, r5, s5⟩) 33) = W at *
 refine (oworks_any W HT.out).mono ?_
 rintro e w1 ⟨rfl, hb1⟩
 have HB1 := Lib.hid (HK.out.trans (hb1.mono HSZ.out))
 replace HX := Lib.hid (HX.out.up hb1)
 replace HM := Lib.hid ((HM.out.below hb1 (Nat.le_refl _)).more hb1.size)
 replace P0 := Lib.hid (P0.out.below hb1 P0.out.lt)
 replace HT := Lib.hid (HT.out.up hb1)
 clear hb1 HK HSZ
 have PNX := P0.out
 obtain ⟨y0, y1, y2, y3, y4, y5, nf, nlt⟩ := net_box (h := ⟨D0, r0, s0, D1, r1, s1, D2, r2, s2, D3, r3, s3, D4, r4, s4, D5, r5, s5⟩) PNX
 dsimp only at y0 y1 y2 y3 y4 y5
 clear PNX
 go_wp2_with fail
 clear y0 y1 y2 y3 y4 y5 nf nlt
 refine (small_any ⟨D0, r0, s0, D1, r1, s1, D2, r2, s2, D3, r3, s3, D4, r4, s4, D5, r5, s5⟩ x A k c ms none 0 0 [] w1 HX.out HM.out (rdVc_0 _ _) (by omega) (by decide)).mono ?_
 rintro e w2 ⟨rfl, hb2⟩
 have HB2 := Lib.hid (HB1.out.trans (hb2.mono HB1.out.size))
 replace HX := Lib.hid (HX.out.up hb2)
 replace HM := Lib.hid ((HM.out.below hb2 (Nat.le_refl _)).more hb2.size)
 replace P0 := Lib.hid (P0.out.below hb2 P0.out.lt)
 replace HT := Lib.hid (HT.out.up hb2)
 clear hb2 HB1
 cases hsm : smallR x ms [] with
 | false =>
  go_wp2_with fail
  go_ret
  exact ⟨rfl, HB2.out⟩
 | true =>
  obtain ⟨h8, hz⟩ := small_parts hsm
  have HZ := Lib.hid hz
  clear hsm hz
  have PNX := P0.out
  obtain ⟨y0, y1, y2, y3, y4, y5, nf, nlt⟩ := net_box (h := ⟨D0, r0, s0, D1, r1, s1, D2, r2, s2, D3, r3, s3, D4, r4, s4, D5, r5, s5⟩) PNX
  dsimp only at y0 y1 y2 y3 y4 y5
  clear PNX
  go_wp2_with fail
  clear y0 y1 y2 y3 y4 y5 nf nlt
  refine (areas_any ⟨D0, r0, s0, D1, r1, s1, D2, r2, s2, D3, r3, s3, D4, r4, s4, D5, r5, s5⟩ x h8 A k c ms w2 HX.out HM.out HZ.out (by omega) HT.out).mono ?_
  rintro e w3 ⟨hb3, hh⟩
  have HB3 := Lib.hid (HB2.out.trans (hb3.mono HB2.out.size))
  replace HX := Lib.hid (HX.out.up hb3)
  replace HM := Lib.hid ((HM.out.below hb3 (Nat.le_refl _)).more hb3.size)
  replace P0 := Lib.hid (P0.out.below hb3 P0.out.lt)
  replace HT := Lib.hid (HT.out.up hb3)
  clear hb3 HB2
  rcases hh with ⟨hck, rfl⟩ | ⟨hck, A3, c3, rfl, hrd3⟩
  ·have hckB : (mtCk x ms != 0) = true := by simp [hck]
   by_cases hnk : netCk x = 0
   ·have PNX := P0.out
    obtain ⟨y0, y1, y2, y3, y4, y5, nf, nlt⟩ := net_box (h := ⟨D0, r0, s0, D1, r1, s1, D2, r2, s2, D3, r3, s3, D4, r4, s4, D5, r5, s5⟩) PNX
    dsimp only at y0 y1 y2 y3 y4 y5
    clear PNX
    go_wp2_with fail
    clear y0 y1 y2 y3 y4 y5 nf nlt
    refine (topOf_any ⟨D0, r0, s0, D1, r1, s1, D2, r2, s2, D3, r3, s3, D4, r4, s4, D5, r5, s5⟩ x w3 HX.out hnk).mono ?_
    rintro e w4 ⟨hb4, g1, g2, rfl, -, -, -, -⟩
    have hz : Below w4.heap.size w4 (w4.alloc (.cells #[.slice (some ⟨g1, 0, none⟩) x.nodes.length x.nodes.length, .slice (some ⟨g2, 0, none⟩) (busN x) (busN x)] 65)) := (Below.refl _ _).alloc (Nat.le_refl _) _
    have hz4 := hb4.trans (hz.mono hb4.size)
    have HB4 := Lib.hid (HB3.out.trans (hz4.mono HB3.out.size))
    replace HX := Lib.hid (HX.out.up hz4)
    replace HM := Lib.hid ((HM.out.below hz4 (Nat.le_refl _)).more hz4.size)
    replace P0 := Lib.hid (P0.out.below hz4 P0.out.lt)
    replace HT := Lib.hid (HT.out.up hz4)
    clear hb4 hz hz4 HB3
    go_upto_region 8 with fail
    generalize w4.alloc (.cells #[.slice (some ⟨g1, 0, none⟩) x.nodes.length x.nodes.length, .slice (some ⟨g2, 0, none⟩) (busN x) (busN x)] 65) = w5 at *
    have PNX := P0.out
    obtain ⟨y0, y1, y2, y3, y4, y5, nf, nlt⟩ := net_box (h := ⟨D0, r0, s0, D1, r1, s1, D2, r2, s2, D3, r3, s3, D4, r4, s4, D5, r5, s5⟩) PNX
    dsimp only at y0 y1 y2 y3 y4 y5
    clear PNX
    go_wp2_with fail
    clear y0 y1 y2 y3 y4 y5 nf nlt
    refine (obs_any ⟨D0, r0, s0, D1, r1, s1, D2, r2, s2, D3, r3, s3, D4, r4, s4, D5, r5, s5⟩ x h8 A k c ms w5 HX.out HM.out HZ.out (by omega) HT.out).mono ?_
    rintro e w6 ⟨rfl, hb6⟩
    have HB6 := Lib.hid (HB4.out.trans (hb6.mono HB4.out.size))
    clear hb6 HB4
    rw [rankA_bad hck]
    go_wp2_with fail
    go_ret
    exact ⟨rfl, HB6.out⟩
   ·have PNX := P0.out
    obtain ⟨y0, y1, y2, y3, y4, y5, nf, nlt⟩ := net_box (h := ⟨D0, r0, s0, D1, r1, s1, D2, r2, s2, D3, r3, s3, D4, r4, s4, D5, r5, s5⟩) PNX
    dsimp only at y0 y1 y2 y3 y4 y5
    clear PNX
    go_wp2_with fail
    clear y0 y1 y2 y3 y4 y5 nf nlt
    refine (topOf_bad ⟨D0, r0, s0, D1, r1, s1, D2, r2, s2, D3, r3, s3, D4, r4, s4, D5, r5, s5⟩ x w3 HX.out hnk).mono ?_
    rintro e w4 ⟨rfl, hb4⟩
    have hz : Below w4.heap.size w4 (w4.alloc (.cells #[.slice none 0 0, .slice none 0 0] 65)) := (Below.refl _ _).alloc (Nat.le_refl _) _
    have hz4 := hb4.trans (hz.mono hb4.size)
    have HB4 := Lib.hid (HB3.out.trans (hz4.mono HB3.out.size))
    replace HX := Lib.hid (HX.out.up hz4)
    replace HM := Lib.hid ((HM.out.below hz4 (Nat.le_refl _)).more hz4.size)
    replace P0 := Lib.hid (P0.out.below hz4 P0.out.lt)
    replace HT := Lib.hid (HT.out.up hz4)
    clear hb4 hz hz4 HB3
    go_upto_region 8 with fail
    generalize w4.alloc (.cells #[.slice none 0 0, .slice none 0 0] 65) = w5 at *
    have PNX := P0.out
    obtain ⟨y0, y1, y2, y3, y4, y5, nf, nlt⟩ := net_box (h := ⟨D0, r0, s0, D1, r1, s1, D2, r2, s2, D3, r3, s3, D4, r4, s4, D5, r5, s5⟩) PNX
    dsimp only at y0 y1 y2 y3 y4 y5
    clear PNX
    go_wp2_with fail
    clear y0 y1 y2 y3 y4 y5 nf nlt
    refine (obs_any ⟨D0, r0, s0, D1, r1, s1, D2, r2, s2, D3, r3, s3, D4, r4, s4, D5, r5, s5⟩ x h8 A k c ms w5 HX.out HM.out HZ.out (by omega) HT.out).mono ?_
    rintro e w6 ⟨rfl, hb6⟩
    have HB6 := Lib.hid (HB4.out.trans (hb6.mono HB4.out.size))
    clear hb6 HB4
    rw [rankA_bad hck]
    go_wp2_with fail
    go_ret
    exact ⟨rfl, HB6.out⟩
  ·have HCK := Lib.hid hck
   have HNK := Lib.hid (mtCk_parts hck).1
   have HOK := Lib.hid (mtCk_ok hck).1
   have HI3 := Lib.hid hrd3
   clear hck hrd3
   have PNX := P0.out
   obtain ⟨y0, y1, y2, y3, y4, y5, nf, nlt⟩ := net_box (h := ⟨D0, r0, s0, D1, r1, s1, D2, r2, s2, D3, r3, s3, D4, r4, s4, D5, r5, s5⟩) PNX
   dsimp only at y0 y1 y2 y3 y4 y5
   clear PNX
   go_wp2_with fail
   clear y0 y1 y2 y3 y4 y5 nf nlt
   refine (topOf_any ⟨D0, r0, s0, D1, r1, s1, D2, r2, s2, D3, r3, s3, D4, r4, s4, D5, r5, s5⟩ x w3 HX.out HNK.out).mono ?_
   rintro e w4 ⟨hb4, g1, g2, rfl, hg1, hg2, hk1, hk2⟩
   have HG1 := Lib.hid hk1
   have HG2 := Lib.hid hk2
   clear hg1 hg2 hk1 hk2
   have HNB : Hid (busN x ≤ 8) := Lib.hid (Nat.le_trans (busN_ok HOK.out).2 h8)
   have HNN : Hid (x.nodes.length = r0) := Lib.hid HX.out.r0.1
   have HW := Lib.hid (rowsR_wid HCK.out)
   have HAC := Lib.hid (area_count HOK.out HW.out)
   have HAL : Hid ((areaR x (rowsR x ms)).length = busN x) := Lib.hid areaR_len
   have HIL : Hid ((islN x).length = busN x) := Lib.hid (natJ_isl HOK.out).2
   have HSA : Hid (∀ i k, i < busN x → k < busN x → (areaR x (rowsR x ms)).getD k 0 = (areaR x (rowsR x ms)).getD i 0 → (islN x).getD k 0 = (islN x).getD i 0) := Lib.hid fun i k hi hk he => ((area_same HOK.out HW.out hk hi).1 he).1
   have HFW : Hid (∀ m ∈ ms, m.kind = 0 → ∃ (i : Nat) (b : Br), brIdx x m.name = (i : Int) ∧ x.brs[i]? = some b ∧ (areaR x (rowsR x ms)).getD (busAt x b.fr) 0 = (areaR x (rowsR x ms)).getD (busAt x b.to) 0) := Lib.hid fun m hm h0 => area_flow HCK.out hm h0
   have HOB : Hid (obsA x ms = decide (rankR (rowsR x ms) = (freeL x).length)) := Lib.hid (by unfold obsA; rw [rankA_eq HCK.out]; simp; omega)
   clear HW
   rw [← (natJ_isl HOK.out).1] at HG2
   have HAV : Hid (∀ i, (areaR x (rowsR x ms)).getD i 0 ≤ 8) := Lib.hid fun i => by
    rw [List.getD_eq_getElem?_getD]
    cases hv : (areaR x (rowsR x ms))[i]? with
    | none => exact Nat.zero_le _
    | some v =>
     have h1 := arR_lt (sameQ x (rowsR x ms)) (busN x) v (List.mem_of_getElem? hv)
     have h2 := arR_many_le (sameQ x (rowsR x ms)) (busN x)
     have h3 := HNB.out
     show v ≤ 8
     omega
   have HIV : Hid (∀ i, (islN x).getD i 0 ≤ 8) := Lib.hid fun i => by
    rw [List.getD_eq_getElem?_getD]
    cases hv : (islN x)[i]? with
    | none => exact Nat.zero_le _
    | some v =>
     have h1 := (parts_ok (brE_ok HOK.out).1).2
     have hm := List.mem_of_getElem? hv
     unfold islN at hm
     obtain ⟨z, hz, rfl⟩ := List.mem_map.1 hm
     have h2 := h1 z hz
     have h3 := HNB.out
     show z.toNat ≤ 8
     omega
   generalize areaR x (rowsR x ms) = al at *
   generalize islN x = il at *
   have hz : Below w4.heap.size w4 (w4.alloc (.cells #[.slice (some ⟨g1, 0, none⟩) x.nodes.length x.nodes.length, .slice (some ⟨g2, 0, none⟩) (busN x) (busN x)] 65)) := (Below.refl _ _).alloc (Nat.le_refl _) _
   have P7 := Lib.hid (Blk.new w4 65 #[.slice (some ⟨g1, 0, none⟩) x.nodes.length x.nodes.length, .slice (some ⟨g2, 0, none⟩) (busN x) (busN x)])
   have hz4 := hb4.trans (hz.mono hb4.size)
   have HB4 := Lib.hid (HB3.out.trans (hz4.mono HB3.out.size))
   replace HI3 := Lib.hid ((HI3.out.below hz4 (Nat.le_refl _)).more hz4.size)
   replace HG1 := Lib.hid (HG1.out.below hz HG1.out.lt)
   replace HG2 := Lib.hid (HG2.out.below hz HG2.out.lt)
   replace HX := Lib.hid (HX.out.up hz4)
   replace HM := Lib.hid ((HM.out.below hz4 (Nat.le_refl _)).more hz4.size)
   replace P0 := Lib.hid (P0.out.below hz4 P0.out.lt)
   replace HT := Lib.hid (HT.out.up hz4)
   clear hb4 hz hz4 HB3
   go_upto_region 8 with fail
   generalize w4.alloc (.cells #[.slice (some ⟨g1, 0, none⟩) x.nodes.length x.nodes.length, .slice (some ⟨g2, 0, none⟩) (busN x) (busN x)] 65) = w5 at *
   generalize w4.heap.size = p7 at *
   have PNX := P0.out
   obtain ⟨y0, y1, y2, y3, y4, y5, nf, nlt⟩ := net_box (h := ⟨D0, r0, s0, D1, r1, s1, D2, r2, s2, D3, r3, s3, D4, r4, s4, D5, r5, s5⟩) PNX
   dsimp only at y0 y1 y2 y3 y4 y5
   clear PNX
   go_wp2_with fail
   clear y0 y1 y2 y3 y4 y5 nf nlt
   refine (obs_any ⟨D0, r0, s0, D1, r1, s1, D2, r2, s2, D3, r3, s3, D4, r4, s4, D5, r5, s5⟩ x h8 A k c ms w5 HX.out HM.out HZ.out (by omega) HT.out).mono ?_
   rintro e w6 ⟨rfl, hb6⟩
   have HB6 := Lib.hid (HB4.out.trans (hb6.mono HB4.out.size))
   replace HX := Lib.hid (HX.out.up hb6)
   replace HM := Lib.hid ((HM.out.below hb6 (Nat.le_refl _)).more hb6.size)
   replace P0 := Lib.hid (P0.out.below hb6 P0.out.lt)
   replace HI3 := Lib.hid ((HI3.out.below hb6 (Nat.le_refl _)).more hb6.size)
   replace HG1 := Lib.hid (HG1.out.below hb6 HG1.out.lt)
   replace HG2 := Lib.hid (HG2.out.below hb6 HG2.out.lt)
   replace P7 := Lib.hid (P7.out.below hb6 P7.out.lt)
   rw [rankA_eq HCK.out]
   generalize obsA x ms = ob at *
   clear hb6 HB4
   generalize hnbx : busN x = nb at *
   generalize hnnx : x.nodes.length = nn at *
   have HNBX := Lib.hid hnbx
   have HNNX := Lib.hid hnnx
   clear hnbx hnnx
   have hnb8 : nb ≤ 8 := HNB.out
   have z0 := P7.out.cell 0
   have z1 := P7.out.cell 1
   have zl := P7.out.lt
   go_upto_region 14 with fail
   clear z0 z1 zl
   have HRK : Hid (rankR (rowsR x ms) = rankR (rowsR x ms)) := Lib.hid rfl
   generalize rankR (rowsR x ms) = rk at *
   generalize (freeL x).length = fl at *
   clear HRK
   go_wp2_with fail
   go_loopw [11, 12, 67] (fun v11 v12 v67 wr => ∃ i nq : Nat, i ≤ nb ∧ v67 = .int .i64 i ∧ v11 = .int .i64 (topN (al.take i) : Nat) ∧ v12 = .int .i64 (topN (il.take i) : Nat) ∧ wr = w6.drewN nq) (fun _ _ v67 _ => nb - (intOf v67).toNat)
   case atStart => exact ⟨0, 0, by omega, rfl, rfl, rfl, rfl⟩
   case round =>
    obtain ⟨i, nq, hi, rfl, rfl, rfl, rfl⟩ := hrel
    by_cases hlt : i < nb
    ·obtain ⟨ab, ao, hA, hab, -⟩ := HI3.out.2 (by omega)
     subst hA
     have HAT : Hid (∀ j, j < nb → w6.cell? ⟨ab, ao + j, none⟩ = some (.int .i64 (al.getD j 0 : Nat))) := Lib.hid fun j hj => HI3.out.at_ (natJ_at (by rw [List.getD_eq_getElem?_getD, List.getElem?_eq_getElem (by rw [HAL.out]; exact hj)]; rfl))
     have HIT : Hid (∀ j, j < nb → w6.cell? ⟨g2, j, none⟩ = some (.int .i64 (il.getD j 0 : Nat))) := Lib.hid fun j hj => by
      rw [HG2.out.cell, List.getElem?_toArray]
      unfold ints natJ
      rw [List.getElem?_map, List.getElem?_map, List.getD_eq_getElem?_getD, List.getElem?_eq_getElem (by rw [HIL.out]; exact hj)]
      rfl
     have HTA := Lib.hid (take_nat (l := al) (k := i) (by rw [HAL.out]; exact hlt))
     have HTI := Lib.hid (take_nat (l := il) (k := i) (by rw [HIL.out]; exact hlt))
     have ca := HAT.out i hlt
     have ci := HIT.out i hlt
     have hav8 := HAV.out i
     have hiv8 := HIV.out i
     have HSI : Hid (∀ k, k < nb → al.getD k 0 = al.getD i 0 → il.getD k 0 = il.getD i 0) := Lib.hid fun k hk => HSA.out i k hlt hk
     obtain ⟨av, hav⟩ : ∃ av, al.getD i 0 = av := ⟨_, rfl⟩
     obtain ⟨iv, hiv⟩ : ∃ iv, il.getD i 0 = iv := ⟨_, rfl⟩
     rw [hav] at ca hav8 HTA HSI
     rw [hiv] at ci hiv8 HTI HSI
     have HVA := Lib.hid hav
     have HVI := Lib.hid hiv
     clear hav hiv
     have HTA2 : Hid (topN (al.take (i + 1)) = max (topN (al.take i)) (av + 1)) := Lib.hid (by rw [HTA.out, topN_snoc])
     have HTI2 : Hid (topN (il.take (i + 1)) = max (topN (il.take i)) (iv + 1)) := Lib.hid (by rw [HTI.out, topN_snoc])
     generalize topN (al.take i) = ta at *
     generalize topN (il.take i) = ti at *
     have z0 := P7.out.cell 0
     have z1 := P7.out.cell 1
     have zl := P7.out.lt
     have gl2 := HG2.out.lt
     have hiI : (i : Int) < (nb : Int) := by omega
     have hi0 : (0 : Int) ≤ (i : Int) := by omega
     have hin : (i : Int).toNat = i := Int.toNat_natCast i
     have hw1 : IntKind.i64.wrap ((av : Int) + 1) = (av : Int) + 1 := wrap_i64 (by omega) (by omega)
     have hw2 : IntKind.i64.wrap ((iv : Int) + 1) = (iv : Int) + 1 := wrap_i64 (by omega) (by omega)
     have HNX : Hid ((i : Int) + 1 = ((i + 1 : Nat) : Int)) := Lib.hid (by omega)
     have HNM : Hid (nb - (i + 1) < nb - i) := Lib.hid (by omega)
     have HLT := Lib.hid hlt
     clear HTA HTI
     go_wp2_with fail
     go_quiet (fail)
     clear z0 z1 ca ci hw1 hw2 hiI hi0 hin hlt
     go_wp2_with fail
     go_loopw [86] (fun v86 wr => ∃ k2 nq : Nat, k2 ≤ i ∧ v86 = .int .i64 k2 ∧ wr = w6.drewN nq) (fun v86 _ => i - (intOf v86).toNat)
     case atStart => exact ⟨0, _, by omega, rfl, by first | rfl | exact World.drewN_drewN _ _ _⟩
     case round =>
      obtain ⟨k2, nq2, hk2, rfl, rfl⟩ := hrel
      by_cases hlt2 : k2 < i
      ·have hk2n : k2 < nb := by have := HLT.out; omega
       have hin : i < nb := HLT.out
       have ca := HAT.out i hin
       have ci := HIT.out i hin
       have da := HAT.out k2 hk2n
       have di := HIT.out k2 hk2n
       have hss := HSI.out k2 hk2n
       rw [HVA.out] at ca
       rw [HVI.out] at ci
       obtain ⟨ak, hak⟩ : ∃ ak, al.getD k2 0 = ak := ⟨_, rfl⟩
       obtain ⟨ik, hik⟩ : ∃ ik, il.getD k2 0 = ik := ⟨_, rfl⟩
       rw [hak] at da hss
       rw [hik] at di hss
       clear hak hik
       have z1 := P7.out.cell 1
       have k2I : (k2 : Int) < (i : Int) := by omega
       have k2J : (k2 : Int) < (nb : Int) := by omega
       have k20 : (0 : Int) ≤ (k2 : Int) := by omega
       have k2n : (k2 : Int).toNat = k2 := Int.toNat_natCast k2
       have hiI : (i : Int) < (nb : Int) := by omega
       have hi0 : (0 : Int) ≤ (i : Int) := by omega
       have hin2 : (i : Int).toNat = i := Int.toNat_natCast i
       have HKX : Hid ((k2 : Int) + 1 = ((k2 + 1 : Nat) : Int)) := Lib.hid (by omega)
       have HKM : Hid (i - (k2 + 1) < i - k2) := Lib.hid (by omega)
       have HL2 := Lib.hid hlt2
       by_cases hq : ak = av
       ·have he := hss hq
        subst hq
        subst he
        clear hss
        go_wp2_with fail
        go_quiet (fail)
        go_wp2_with fail
        go_roundw
        case rel => exact ⟨k2 + 1, _, HL2.out, val_int HKX.out, by first | rfl | exact World.drewN_drewN _ _ _⟩
        case measure => exact HKM.out
       ·have hqB : ((ak : Int) == (av : Int)) = false := by simp; omega
        clear hss
        go_wp2_with fail
        go_quiet (fail)
        go_wp2_with fail
        go_roundw
        case rel => exact ⟨k2 + 1, _, HL2.out, val_int HKX.out, by first | rfl | exact World.drewN_drewN _ _ _⟩
        case measure => exact HKM.out
      ·have hke : k2 = i := by omega
       subst hke
       have hkI : ¬ (k2 : Int) < (k2 : Int) := by omega
       have hnb64 : nb ≤ 8 := hnb8
       have hlt : k2 < nb := HLT.out
       go_wp2_with fail
       go_roundw
       case rel => exact ⟨k2 + 1, _, HLT.out, val_int HNX.out, by rw [HTA2.out]; exact val_int (by omega), by rw [HTI2.out]; exact val_int (by omega), rfl⟩
       case measure => exact HNM.out
    ·have hke : i = nb := by omega
     subst hke
     have hkI : ¬ (i : Int) < (i : Int) := by omega
     rw [List.take_of_length_le (by rw [HAL.out]; exact Nat.le_refl _), List.take_of_length_le (by rw [HIL.out]; exact Nat.le_refl _)]
     generalize topN al = ta at *
     generalize topN il = ti at *
     clear hlt hi HSA
     go_wp2_with fail
     go_loopw [115] (fun v115 wr => ∃ j : Nat, j ≤ k ∧ v115 = .int .i64 j ∧ Below w6.heap.size w6 wr) (fun v115 _ => k - (intOf v115).toNat)
     case atStart => exact ⟨0, by omega, rfl, below_drewN (Below.refl _ _) _⟩
     case round =>
      obtain ⟨j, hj, rfl, hb⟩ := hrel
      have HB := Lib.hid hb
      clear hb
      by_cases hlt : j < k
      ·obtain ⟨m, hm⟩ : ∃ m, ms[j]? = some m := ⟨_, List.getElem?_eq_getElem (by have := HML.out; omega)⟩
       have HMM := Lib.hid (List.mem_of_getElem? hm)
       have hmm := (HM.out.below HB.out (Nat.le_refl _)).more HB.out.size
       obtain ⟨mb, mo, hA, hmb, -⟩ := hmm.2.2 (by omega)
       subst hA
       obtain ⟨a0, a1, a2, a3⟩ := hmm.at_ hm
       have hjI : (j : Int) < (k : Int) := by omega
       have hj0 : (0 : Int) ≤ (j : Int) := by omega
       have hjn : (j : Int).toNat = j := Int.toNat_natCast j
       have HNX : Hid ((j : Int) + 1 = ((j + 1 : Nat) : Int)) := Lib.hid (by omega)
       have HNM : Hid (k - (j + 1) < k - j) := Lib.hid (by omega)
       have HLT := Lib.hid hlt
       clear hm hmm
       go_upto_region 28 with fail
       clear a0 a1 a2 a3 hmb hjI hj0 hjn
       have hz : Below wr.heap.size wr (wr.alloc (.cells #[.int .i64 m.kind, .string m.name, .string m.txt, .int .i64 m.wt] 57)) := (Below.refl _ _).alloc (Nat.le_refl _) _
       have HMB := Lib.hid (Blk.new wr 57 #[.int .i64 m.kind, .string m.name, .string m.txt, .int .i64 m.wt])
       have HBA : Hid (Below w6.heap.size w6 (wr.alloc (.cells #[.int .i64 m.kind, .string m.name, .string m.txt, .int .i64 m.wt] 57))) := Lib.hid (HB.out.trans (hz.mono HB.out.size))
       clear hz HB
       generalize wr.heap.size = gm at *
       generalize wr.alloc (.cells #[.int .i64 m.kind, .string m.name, .string m.txt, .int .i64 m.wt] 57) = wa at *
       have x0 := HMB.out.cell 0
       have x1 := HMB.out.cell 1
       have xl := HMB.out.lt
       by_cases hk0 : m.kind = 0
       ·obtain ⟨ib, z, hbi, hz, heq⟩ := HFW.out m HMM.out hk0
        rw [hk0] at x0
        have HBI := Lib.hid hbi
        have HZB := Lib.hid hz
        have HEQ := Lib.hid heq
        clear hbi hz heq
        go_upto_region 29 with fail
        go_cut [17] (fun v17 wc => ∃ gb, v17 = .pointer (some ⟨gb, 0, none⟩) ∧ Blk wc gb 70 #[.string z.name, .string z.fr, .string z.to, .int .i64 z.x, .int .i64 z.tap, .int .i64 z.shift, .int .i64 z.limit, .int .i64 z.short, .int .i64 z.hold] ∧ Below wa.heap.size wa wc)
        case first =>
         have PNX := P0.out.below HBA.out P0.out.lt
         obtain ⟨y0, y1, y2, y3, y4, y5, nf, nlt⟩ := net_box (h := ⟨D0, r0, s0, D1, r1, s1, D2, r2, s2, D3, r3, s3, D4, r4, s4, D5, r5, s5⟩) PNX
         dsimp only at y0 y1 y2 y3 y4 y5
         clear PNX
         have hrd2 := (HX.out.up HBA.out).r2
         have hl2 : x.brs.length = r2 := hrd2.1
         obtain ⟨bb, bo, hA, hbb⟩ := hrd2.form (by have := (List.getElem?_eq_some_iff.1 HZB.out).1; have := hrd2.1; omega)
         subst hA
         obtain ⟨b0, b1, b2, b3, b4, b5, b6, b7, b8⟩ := hrd2.at_ HZB.out
         have hil : ib < r2 := by have := (List.getElem?_eq_some_iff.1 HZB.out).1; omega
         have hiI : (ib : Int) < (r2 : Int) := by omega
         have hi0 : (0 : Int) ≤ (ib : Int) := by omega
         have hin : (ib : Int).toNat = ib := Int.toNat_natCast ib
         clear hrd2 hl2
         refine wp_region_last (S := fun w' => Below wa.heap.size wa w') 9 _ (by kernel_rfl) (by kernel_rfl) rfl (below_drew (Below.refl _ _)) (fun hHeld => ?_)
         simp only [List.take_succ_cons, List.take_zero]
         refine tkH 0 rfl (by intro w' _ hcc; go_simp <;> with_reducible rfl) hHeld ?_
         try simp only [Act.put, sA_, sB_, sC_]
         refine tkH 1 rfl (by intro w' _ hcc; go_simp <;> with_reducible rfl) hHeld ?_
         try simp only [Act.put, sA_, sB_, sC_]
         refine tkH 2 rfl (by intro w' _ hcc; go_simp <;> with_reducible rfl) hHeld ?_
         try simp only [Act.put, sA_, sB_, sC_]
         refine tkH 3 rfl (by intro w' _ hcc; go_simp <;> with_reducible rfl) hHeld ?_
         try simp only [Act.put, sA_, sB_, sC_]
         refine tkH 4 rfl (by intro w' _ hcc; go_simp <;> with_reducible rfl) hHeld ?_
         try simp only [Act.put, sA_, sB_, sC_]
         have HV0 := Lib.hid (below_drew (Below.refl wa.heap.size wa))
         generalize wa.drew = v0 at *
         refine stepTwo 5 8 (by kernel_rfl) rfl rfl (fun K hK => ?_) (fun K hK => ?_)
         ·go_simp
          refine (refbranch_any ⟨D0, r0, s0, D1, r1, s1, (some ⟨bb, bo, none⟩), r2, s2, D3, r3, s3, D4, r4, s4, D5, r5, s5⟩ x m.name v0 (HX.out.up (HBA.out.trans (HV0.out.mono HBA.out.size)))).mono ?_
          rintro e v1 ⟨rfl, hb1⟩
          rw [HBI.out]
          have HV1 : Hid (Below wa.heap.size wa v1) := Lib.hid (HV0.out.trans (hb1.mono HV0.out.size))
          clear hb1 HV0
          go_simp
          refine hK.out _ _ ?_ (fun hHeld => ?_)
          ·exact HV1.out
          clear hK K
          try simp only [Act.put, sA_, sB_, sC_]
          refine tkH 6 rfl (by intro w' _ hcc; go_simp <;> with_reducible rfl) hHeld ?_
          try simp only [Act.put, sA_, sB_, sC_]
          refine tkH 7 rfl (by intro w' _ hcc; go_simp <;> with_reducible rfl) hHeld ?_
          try simp only [Act.put, sA_, sB_, sC_]
          refine stepH 8 (by kernel_rfl) rfl (fun K hK => ?_)
          go_simp
          have hz : Below v1.heap.size v1 (v1.alloc (.cells #[.string ⟨#[]⟩, .string ⟨#[]⟩, .string ⟨#[]⟩, .int .i64 0, .int .i64 0, .int .i64 0, .int .i64 0, .int .i64 0, .int .i64 0] 70)) := (Below.refl _ _).alloc (Nat.le_refl _) _
          have HLT2 := Lib.hid (Blk.new v1 70 #[.string ⟨#[]⟩, .string ⟨#[]⟩, .string ⟨#[]⟩, .int .i64 0, .int .i64 0, .int .i64 0, .int .i64 0, .int .i64 0, .int .i64 0])
          have HV2 : Hid (Below wa.heap.size wa (v1.alloc (.cells #[.string ⟨#[]⟩, .string ⟨#[]⟩, .string ⟨#[]⟩, .int .i64 0, .int .i64 0, .int .i64 0, .int .i64 0, .int .i64 0, .int .i64 0] 70))) := Lib.hid (HV1.out.trans (hz.mono HV1.out.size))
          have HGB : Hid (wa.heap.size ≤ v1.heap.size) := Lib.hid HV1.out.size
          generalize v1.alloc (.cells #[.string ⟨#[]⟩, .string ⟨#[]⟩, .string ⟨#[]⟩, .int .i64 0, .int .i64 0, .int .i64 0, .int .i64 0, .int .i64 0, .int .i64 0] 70) = v2 at *
          generalize v1.heap.size = gb at *
          clear hz HV1
          refine hK.out _ _ ?_ (fun hHeld => ?_)
          ·exact HV2.out
          clear hK K
          try simp only [Act.put, sA_, sB_, sC_]
          refine wpAnyH_done (by kernel_rfl) ?_ _
          refine lastQ_go (by rfl) ?_
          clear hHeld
          have s0 := HLT2.out.cell 0
          have s1 := HLT2.out.cell 1
          have s2 := HLT2.out.cell 2
          have s3 := HLT2.out.cell 3
          have s4 := HLT2.out.cell 4
          have s5 := HLT2.out.cell 5
          have s6 := HLT2.out.cell 6
          have s7 := HLT2.out.cell 7
          have s8 := HLT2.out.cell 8
          have sl := HLT2.out.lt
          have sf := HLT2.out.frozen
          go_wp2_with fail
          go_meet
          case rel => exact ⟨gb, rfl, blk_set9 HLT2.out, below_set9 HV2.out HGB.out⟩
         ·go_simp
          have hz : Below v0.heap.size v0 (v0.alloc (.cells #[.string ⟨#[]⟩, .string ⟨#[]⟩, .string ⟨#[]⟩, .int .i64 0, .int .i64 0, .int .i64 0, .int .i64 0, .int .i64 0, .int .i64 0] 70)) := (Below.refl _ _).alloc (Nat.le_refl _) _
          have HLT1 := Lib.hid (Blk.new v0 70 #[.string ⟨#[]⟩, .string ⟨#[]⟩, .string ⟨#[]⟩, .int .i64 0, .int .i64 0, .int .i64 0, .int .i64 0, .int .i64 0, .int .i64 0])
          have HV1 : Hid (Below wa.heap.size wa (v0.alloc (.cells #[.string ⟨#[]⟩, .string ⟨#[]⟩, .string ⟨#[]⟩, .int .i64 0, .int .i64 0, .int .i64 0, .int .i64 0, .int .i64 0, .int .i64 0] 70))) := Lib.hid (HV0.out.trans (hz.mono HV0.out.size))
          have HGB : Hid (wa.heap.size ≤ v0.heap.size) := Lib.hid HV0.out.size
          generalize v0.alloc (.cells #[.string ⟨#[]⟩, .string ⟨#[]⟩, .string ⟨#[]⟩, .int .i64 0, .int .i64 0, .int .i64 0, .int .i64 0, .int .i64 0, .int .i64 0] 70) = v1 at *
          generalize v0.heap.size = gb at *
          clear hz HV0
          refine hK.out _ _ ?_ (fun hHeld => ?_)
          ·exact HV1.out
          clear hK K
          try simp only [Act.put, sA_, sB_, sC_]
          refine stepH 5 (by kernel_rfl) rfl (fun K hK => ?_)
          go_simp
          refine (refbranch_any ⟨D0, r0, s0, D1, r1, s1, (some ⟨bb, bo, none⟩), r2, s2, D3, r3, s3, D4, r4, s4, D5, r5, s5⟩ x m.name v1 (HX.out.up (HBA.out.trans (HV1.out.mono HBA.out.size)))).mono ?_
          rintro e v2 ⟨rfl, hb2⟩
          rw [HBI.out]
          have HV2 : Hid (Below wa.heap.size wa v2) := Lib.hid (HV1.out.trans (hb2.mono HV1.out.size))
          have HLT2 := Lib.hid (HLT1.out.below hb2 HLT1.out.lt)
          clear hb2 HV1 HLT1
          go_simp
          refine hK.out _ _ ?_ (fun hHeld => ?_)
          ·exact HV2.out
          clear hK K
          try simp only [Act.put, sA_, sB_, sC_]
          refine tkH 6 rfl (by intro w' _ hcc; go_simp <;> with_reducible rfl) hHeld ?_
          try simp only [Act.put, sA_, sB_, sC_]
          refine tkH 7 rfl (by intro w' _ hcc; go_simp <;> with_reducible rfl) hHeld ?_
          try simp only [Act.put, sA_, sB_, sC_]
          refine wpAnyH_done (by kernel_rfl) ?_ _
          refine lastQ_go (by rfl) ?_
          clear hHeld
          have s0 := HLT2.out.cell 0
          have s1 := HLT2.out.cell 1
          have s2 := HLT2.out.cell 2
          have s3 := HLT2.out.cell 3
          have s4 := HLT2.out.cell 4
          have s5 := HLT2.out.cell 5
          have s6 := HLT2.out.cell 6
          have s7 := HLT2.out.cell 7
          have s8 := HLT2.out.cell 8
          have sl := HLT2.out.lt
          have sf := HLT2.out.frozen
          go_wp2_with fail
          go_meet
          case rel => exact ⟨gb, rfl, blk_set9 HLT2.out, below_set9 HV2.out HGB.out⟩
        case rest =>
         obtain ⟨gb, rfl, hbk, hbw⟩ := hcut
         have HBB := Lib.hid hbk
         have HBC := Lib.hid (HBA.out.trans (hbw.mono HBA.out.size))
         clear hbk hbw x0 x1 xl HMB HBA
         generalize wc = wc1 at *
         have hzm := List.mem_of_getElem? HZB.out
         obtain ⟨hf1, hf2, -⟩ := HOK.out.br z hzm
         obtain ⟨u1, u2, u3⟩ := busAt_ok HOK.out hf1
         obtain ⟨t1, t2, t3⟩ := busAt_ok HOK.out hf2
         have HN1 := Lib.hid (nod_nd hf1)
         have HN2 := Lib.hid (nod_nd hf2)
         rw [HNBX.out] at u2 t2
         have hG1 := HG1.out.below HBC.out HG1.out.lt
         have hG1l := hG1.lt
         have hbl : (busR x).length = nn := by rw [(busR_ok HOK.out).1, HNNX.out]
         have cu : wc1.cell? ⟨g1, ndIdx x.nodes z.fr, none⟩ = some (.int .i64 (busAt x z.fr : Nat)) := by
          rw [hG1.cell, List.getElem?_toArray]; unfold ints
          rw [List.getElem?_map, List.getElem?_eq_getElem u3]
          rw [List.getD_eq_getElem?_getD, List.getElem?_eq_getElem u3] at u1
          exact congrArg (fun t => some (Value.int .i64 t)) u1
         have ct : wc1.cell? ⟨g1, ndIdx x.nodes z.to, none⟩ = some (.int .i64 (busAt x z.to : Nat)) := by
          rw [hG1.cell, List.getElem?_toArray]; unfold ints
          rw [List.getElem?_map, List.getElem?_eq_getElem t3]
          rw [List.getD_eq_getElem?_getD, List.getElem?_eq_getElem t3] at t1
          exact congrArg (fun t => some (Value.int .i64 t)) t1
         rw [hbl] at u3 t3
         obtain ⟨ab, ao, hA, hab, -⟩ := HI3.out.2 (by omega)
         subst hA
         have hai := (HI3.out.below HBC.out (Nat.le_refl _))
         have eu : wc1.cell? ⟨ab, ao + busAt x z.fr, none⟩ = some (.int .i64 (al.getD (busAt x z.fr) 0 : Nat)) := hai.at_ (natJ_at (by rw [List.getD_eq_getElem?_getD, List.getElem?_eq_getElem (by rw [HAL.out]; exact u2)]; rfl))
         have et : wc1.cell? ⟨ab, ao + busAt x z.to, none⟩ = some (.int .i64 (al.getD (busAt x z.fr) 0 : Nat)) := by
          rw [HEQ.out]
          exact hai.at_ (natJ_at (by rw [List.getD_eq_getElem?_getD, List.getElem?_eq_getElem (by rw [HAL.out]; exact t2)]; rfl))
         have hal : ab < wc1.heap.size := Nat.lt_of_lt_of_le hab HBC.out.size
         have hP7 := P7.out.below HBC.out P7.out.lt
         have z0 := hP7.cell 0
         have zl := hP7.lt
         have q1 := HBB.out.cell 1
         have q2 := HBB.out.cell 2
         have ql := HBB.out.lt
         clear u1 t1 hai hG1 hP7 hab hzm hf1 hf2 hbl
         generalize al.getD (busAt x z.fr) 0 = av at *
         generalize busAt x z.fr = bu at *
         generalize busAt x z.to = bt at *
         generalize ndIdx x.nodes z.fr = nu at *
         generalize ndIdx x.nodes z.to = nt at *
         have i1 : (nu : Int) < (nn : Int) := by omega
         have i2 : (nt : Int) < (nn : Int) := by omega
         have i3 : (bu : Int) < (i : Int) := by omega
         have i4 : (bt : Int) < (i : Int) := by omega
         have i5 : (0 : Int) ≤ (nu : Int) := by omega
         have i6 : (0 : Int) ≤ (nt : Int) := by omega
         have i7 : (0 : Int) ≤ (bu : Int) := by omega
         have i8 : (0 : Int) ≤ (bt : Int) := by omega
         have j1 : (nu : Int).toNat = nu := Int.toNat_natCast _
         have j2 : (nt : Int).toNat = nt := Int.toNat_natCast _
         have j3 : (bu : Int).toNat = bu := Int.toNat_natCast _
         have j4 : (bt : Int).toNat = bt := Int.toNat_natCast _
         have PNX := P0.out.below HBC.out P0.out.lt
         obtain ⟨y0, y1, y2, y3, y4, y5, nf, nlt⟩ := net_box (h := ⟨D0, r0, s0, D1, r1, s1, D2, r2, s2, D3, r3, s3, D4, r4, s4, D5, r5, s5⟩) PNX
         dsimp only at y0 y1 y2 y3 y4 y5
         clear PNX
         go_upto_region 30 with fail
         refine wp_region_last (S := fun w' => Below wc1.heap.size wc1 w') 22 _ (by kernel_rfl) (by kernel_rfl) rfl (below_drew (Below.refl _ _)) (fun hHeld => ?_)
         simp only [List.take_succ_cons, List.take_zero]
         refine tkH 0 rfl (by intro w' _ hcc; go_simp <;> with_reducible rfl) hHeld ?_
         try simp only [Act.put, sA_, sB_, sC_]
         refine tkH 1 rfl (by intro w' _ hcc; go_simp <;> with_reducible rfl) hHeld ?_
         try simp only [Act.put, sA_, sB_, sC_]
         refine tkH 2 rfl (by intro w' _ hcc; go_simp <;> with_reducible rfl) hHeld ?_
         try simp only [Act.put, sA_, sB_, sC_]
         refine tkH 3 rfl (by intro w' _ hcc; go_simp <;> with_reducible rfl) hHeld ?_
         try simp only [Act.put, sA_, sB_, sC_]
         refine tkH 4 rfl (by intro w' _ hcc; go_simp <;> with_reducible rfl) hHeld ?_
         try simp only [Act.put, sA_, sB_, sC_]
         refine tkH 5 rfl (by intro w' _ hcc; go_simp <;> with_reducible rfl) hHeld ?_
         try simp only [Act.put, sA_, sB_, sC_]
         refine tkH 11 rfl (by intro w' _ hcc; go_simp <;> with_reducible rfl) hHeld ?_
         try simp only [Act.put, sA_, sB_, sC_]
         refine tkH 12 rfl (by intro w' _ hcc; go_simp <;> with_reducible rfl) hHeld ?_
         try simp only [Act.put, sA_, sB_, sC_]
         refine tkH 13 rfl (by intro w' _ hcc; go_simp <;> with_reducible rfl) hHeld ?_
         try simp only [Act.put, sA_, sB_, sC_]
         refine tkH 14 rfl (by intro w' _ hcc; go_simp <;> with_reducible rfl) hHeld ?_
         try simp only [Act.put, sA_, sB_, sC_]
         refine tkH 15 rfl (by intro w' _ hcc; go_simp <;> with_reducible rfl) hHeld ?_
         try simp only [Act.put, sA_, sB_, sC_]
         refine tkH 16 rfl (by intro w' _ hcc; go_simp <;> with_reducible rfl) hHeld ?_
         try simp only [Act.put, sA_, sB_, sC_]
         have HV0 := Lib.hid (below_drew (Below.refl wc1.heap.size wc1))
         generalize wc1.drew = v0 at *
         refine stepH 6 (by kernel_rfl) rfl (fun K hK => ?_)
         go_simp
         refine (refnode_any ⟨D0, r0, s0, D1, r1, s1, D2, r2, s2, D3, r3, s3, D4, r4, s4, D5, r5, s5⟩ x z.fr v0 (HX.out.up (HBC.out.trans (HV0.out.mono HBC.out.size)))).mono ?_
         rintro e v1 ⟨rfl, hb1⟩
         rw [HN1.out]
         have HV1 : Hid (Below wc1.heap.size wc1 v1) := Lib.hid (HV0.out.trans (hb1.mono HV0.out.size))
         clear hb1 HV0
         go_simp
         refine hK.out _ _ ?_ (fun hHeld => ?_)
         ·exact HV1.out
         clear hK K
         try simp only [Act.put, sA_, sB_, sC_]
         refine tkH 7 rfl (by intro w' _ hcc; go_simp <;> with_reducible rfl) hHeld ?_
         try simp only [Act.put, sA_, sB_, sC_]
         refine tkH 8 rfl (by intro w' _ hcc; go_simp <;> with_reducible rfl) hHeld ?_
         try simp only [Act.put, sA_, sB_, sC_]
         refine tkH 9 rfl (by intro w' _ hcc; go_simp <;> with_reducible rfl) hHeld ?_
         try simp only [Act.put, sA_, sB_, sC_]
         refine tkH 10 rfl (by intro w' _ hcc; go_simp <;> with_reducible rfl) hHeld ?_
         try simp only [Act.put, sA_, sB_, sC_]
         refine stepH 17 (by kernel_rfl) rfl (fun K hK => ?_)
         go_simp
         refine (refnode_any ⟨D0, r0, s0, D1, r1, s1, D2, r2, s2, D3, r3, s3, D4, r4, s4, D5, r5, s5⟩ x z.to v1 (HX.out.up (HBC.out.trans (HV1.out.mono HBC.out.size)))).mono ?_
         rintro e v2 ⟨rfl, hb2⟩
         rw [HN2.out]
         have HV2 : Hid (Below wc1.heap.size wc1 v2) := Lib.hid (HV1.out.trans (hb2.mono HV1.out.size))
         clear hb2 HV1
         go_simp
         refine hK.out _ _ ?_ (fun hHeld => ?_)
         ·exact HV2.out
         clear hK K
         try simp only [Act.put, sA_, sB_, sC_]
         refine tkH 18 rfl (by intro w' _ hcc; go_simp <;> with_reducible rfl) hHeld ?_
         try simp only [Act.put, sA_, sB_, sC_]
         refine tkH 19 rfl (by intro w' _ hcc; go_simp <;> with_reducible rfl) hHeld ?_
         try simp only [Act.put, sA_, sB_, sC_]
         refine tkH 20 rfl (by intro w' _ hcc; go_simp <;> with_reducible rfl) hHeld ?_
         try simp only [Act.put, sA_, sB_, sC_]
         refine tkH 21 rfl (by intro w' _ hcc; go_simp <;> with_reducible rfl) hHeld ?_
         try simp only [Act.put, sA_, sB_, sC_]
         refine wpAnyH_done (by kernel_rfl) ?_ _
         refine lastQ_go (by rfl) ?_
         clear hHeld
         clear y0 y1 y2 y3 y4 y5 nf nlt
         clear z0 zl q1 q2 ql cu ct eu et i1 i2 i3 i4 i5 i6 i7 i8 j1 j2 j3 j4
         have hk64 : k ≤ 6 := HK6.out
         have hlt : j < k := HLT.out
         go_wp2_with fail
         go_roundw
         case rel => exact ⟨j + 1, HLT.out, val_int HNX.out, HBC.out.trans (HV2.out.mono HBC.out.size)⟩
         case measure => exact HNM.out
       ·have hkB : (m.kind == 0) = false := by simp [hk0]
        have hk64 : k ≤ 6 := HK6.out
        have hlt : j < k := HLT.out
        go_wp2_with fail
        go_roundw
        case rel => exact ⟨j + 1, HLT.out, val_int HNX.out, HBA.out⟩
        case measure => exact HNM.out
      ·have hke : j = k := by omega
       subst hke
       have hkI : ¬ (j : Int) < (j : Int) := by omega
       have HBF := Lib.hid (HB6.out.trans (HB.out.mono HB6.out.size))
       have hob := HOB.out
       by_cases hq : rk = fl
       ·have he : ta = ti := HAC.out.2 hq
        rw [decide_eq_true hq] at hob
        subst he
        subst hob
        go_wp2_with fail
        go_ret
        exact ⟨rfl, HBF.out⟩
       ·have he : ¬ ta = ti := fun h => hq (HAC.out.1 h)
        rw [decide_eq_false hq] at hob
        have heB : ((ta : Int) == (ti : Int)) = false := by simp; omega
        subst hob
        go_wp2_with fail
        go_ret
        exact ⟨rfl, HBF.out⟩
end
end Go.Proofs.YtakllkkmofdpaaaGreatDoor
