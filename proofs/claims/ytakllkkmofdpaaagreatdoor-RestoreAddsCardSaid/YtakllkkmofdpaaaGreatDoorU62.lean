import Derived.Test.YtakllkkmofdpaaaGreatDoorU49
import Derived.Test.YtakllkkmofdpaaaGreatDoorU51
import Derived.Test.YtakllkkmofdpaaaGreatDoorU54
import Derived.Test.YtakllkkmofdpaaaGreatDoorU55
set_option linter.unusedVariables false
set_option linter.unusedSimpArgs false
namespace Go.Proofs.YtakllkkmofdpaaaGreatDoor
section
theorem addR_count {n : Nat} : ∀ (p rows : List (List Rat)) (i : Nat), Wid n rows → Wid n p → rankR (addR rows p i).1 = rankR rows + (addR rows p i).2.length
 | [], rows, i, h, _ => rfl
 | a :: r, rows, i, h, hp => by
  have ha := hp a (List.mem_cons_self ..)
  have hr : Wid n r := fun b hb => hp b (List.mem_cons_of_mem _ hb)
  unfold addR
  by_cases hlt : rankR rows < rankR (rows ++ [a])
  ·rw [if_pos hlt]
   have := addR_count r (rows ++ [a]) (i + 1) (wid_app h (wid_one ha)) hr
   have := rk_more h ha
   simp only [List.length_cons]
   omega
  ·rw [if_neg hlt]
   exact addR_count r rows (i + 1) h hr
theorem addR_rows : ∀ (p rows : List (List Rat)) (i : Nat), (addR rows p i).1 = rows ++ (addR rows p i).2.map fun t => p.getD (t - i) []
 | [], rows, i => by simp [addR]
 | a :: r, rows, i => by
  have key : ∀ (R : List (List Rat)), (addR R r (i + 1)).2.map (fun t => r.getD (t - (i + 1)) []) = (addR R r (i + 1)).2.map fun t => (a :: r).getD (t - i) [] := fun R => by
   refine List.map_congr_left fun t ht => ?_
   have := addR_from r R (i + 1) t ht
   rw [show t - i = (t - (i + 1)) + 1 from by omega]
   simp
  unfold addR
  split
  ·simp only [List.map_cons]
   rw [addR_rows r _ (i + 1), key, Nat.sub_self]
   simp
  ·rw [addR_rows r _ (i + 1), key]
theorem rk_adds {n : Nat} : ∀ (p rows : List (List Rat)), Wid n rows → Wid n p → rankR (rows ++ p) ≤ rankR rows + p.length
 | [], rows, h, _ => by rw [List.append_nil]; exact Nat.le_refl _
 | a :: r, rows, h, hp => by
  have ha := hp a (List.mem_cons_self ..)
  have h1 := rk_adds r (rows ++ [a]) (wid_app h (wid_one ha)) fun b hb => hp b (List.mem_cons_of_mem _ hb)
  rw [List.append_assoc, List.singleton_append] at h1
  have := rk_more h ha
  simp only [List.length_cons]
  omega
theorem addR_crit {n : Nat} (p rows : List (List Rat)) (i k : Nat) (h : Wid n rows) (hp : Wid n p) (h1 : rows.length ≤ k) (h2 : k < (addR rows p i).1.length) : rankR ((addR rows p i).1.eraseIdx k) < rankR (addR rows p i).1 := by
 have hc := addR_count p rows i h hp
 have hr := addR_rows p rows i
 have hw := addR_wid p rows i h hp
 generalize hq : (addR rows p i).2.map (fun t => p.getD (t - i) []) = q at *
 have hql : q.length = (addR rows p i).2.length := by rw [← hq, List.length_map]
 rw [hr] at h2 hc hw ⊢
 rw [List.length_append] at h2
 have hwq : Wid n q := fun a ha => hw a (List.mem_append_right _ ha)
 rw [List.eraseIdx_append_of_length_le h1]
 have := rk_adds (q.eraseIdx (k - rows.length)) rows h fun a ha => hwq a (List.mem_of_mem_eraseIdx ha)
 rw [List.length_eraseIdx_of_lt (by omega)] at this
 omega
end
section
open Go.ChangeShapes Go.WideShapes Go.ChangeAt Go.RowKit
theorem rows_takeP {x : Net} {l p : List Mi} : rowsR x (cmR x l p) = (adR x l p).1 := by
 unfold cmR
 rw [rowsR_app]
 have h := addR_rows (rowsR x p) (rowsR x l) 0
 unfold adR
 rw [h]
 congr 1
 unfold takeP
 have key : ∀ idx : List Nat, (∀ t ∈ idx, t < p.length) → rowsR x (idx.map fun t => p.getD t mi0) = idx.map fun t => (rowsR x p).getD (t - 0) [] := fun idx => by
  induction idx with
  | nil => intro _; rfl
  | cons t r ih =>
   intro hlt
   have ht := hlt t List.mem_cons_self
   have e1 : rowsR x ((t :: r).map fun t => p.getD t mi0) = rowR x (formR x (p.getD t mi0)).1 :: rowsR x (r.map fun t => p.getD t mi0) := rfl
   rw [e1, ih fun u hu => hlt u (List.mem_cons_of_mem _ hu), List.map_cons, Nat.sub_zero]
   congr 1
   have hg : p[t]? = some (p.getD t mi0) := by rw [List.getD_eq_getElem?_getD, List.getElem?_eq_getElem ht]; rfl
   have e2 : (rowsR x p).getD t [] = rowR x (formR x (p.getD t mi0)).1 := by rw [List.getD_eq_getElem?_getD, rowsR_get hg]; rfl
   exact e2.symm
 exact key _ fun t ht => adR_lt ht
theorem adds_law {x : Net} {l p : List Mi} (h : (l ++ p).length ≤ 64) : (cmE x l p ≠ 0 → (missA x l).2 = 0 ∨ ((missA x l).2 = cmE x l p ∧ (missA x l).1 = 0)) ∧
    (cmE x l p = 0 → mtCk x (cmR x l p) = 0 ∧ obsA x (cmR x l p) = true ∧ (missA x l).2 = 0 ∧ ((cmR x l p).length : Int) = (l.length : Int) + (missA x l).1 ∧ (∀ i, l.length ≤ i → i < (cmR x l p).length → i ∈ critR (rowsR x (cmR x l p))) ∧ (cmR x l p).length ≤ 64) := by
 have hlen : (cmR x l p).length ≤ 64 := by
  unfold cmR takeP
  rw [List.length_append, List.length_map]
  have := adR_len (x := x) (l := l) (p := p)
  rw [List.length_append] at h
  omega
 constructor
 ·intro hc
  unfold cmE at hc ⊢
  rw [if_neg (show ¬ 64 < (cmR x l p).length by omega)] at hc ⊢
  by_cases hl : mtCk x l = 0
  ·left; unfold missA; rw [if_pos hl]
  ·right
   have e : adE x l p = mtCk x l := by unfold adE; rw [if_pos hl]
   rw [e, if_pos hl]
   unfold missA
   rw [if_neg hl]
   exact ⟨rfl, rfl⟩
 ·intro hc
  have ha : adE x l p = 0 := by
   unfold cmE at hc
   split at hc
   ·exact hc
   ·rename_i h1; omega
  obtain ⟨hl, hp, hr⟩ := adE_parts ha
  have h0 := (mtCk_two h).2 ⟨hl, hp⟩
  have hm : mtCk x (cmR x l p) = 0 := mtCk_sub h0 (fun m hm => by
   unfold cmR at hm
   rcases List.mem_append.1 hm with h1 | h1
   ·exact List.mem_append_left _ h1
   ·unfold takeP at h1
    obtain ⟨t, ht, rfl⟩ := List.mem_map.1 h1
    have hlt := adR_lt ht
    exact List.mem_append_right _ (List.mem_of_getElem? (i := t) (by rw [List.getD_eq_getElem?_getD, List.getElem?_eq_getElem hlt]; rfl))) hlen
  have hw := rowsR_wid hm
  have hcols := rk_cols hw
  have hrk : rankR (rowsR x (cmR x l p)) = (freeL x).length := by rw [rows_takeP] at hcols ⊢; omega
  have hcnt := addR_count (rowsR x p) (rowsR x l) 0 (rowsR_wid hl) (rowsR_wid hp)
  have hcnt2 : rankR (adR x l p).1 = rankR (rowsR x l) + (adR x l p).2.length := hcnt
  rw [← rows_takeP, hrk] at hcnt2
  refine ⟨hm, ?_, ?_, ?_, ?_, hlen⟩
  ·unfold obsA
   rw [rankA_eq hm, hrk]
   simp
  ·unfold missA; rw [if_pos hl]
  ·unfold missA
   rw [if_pos hl]
   unfold cmR takeP
   rw [List.length_append, List.length_map]
   simp only
   omega
  ·intro i h1 h2
   rw [crit_mem, cutAtK_erase, rowsR_len]
   refine ⟨h2, ?_⟩
   rw [rows_takeP]
   refine addR_crit (rowsR x p) (rowsR x l) 0 i (rowsR_wid hl) (rowsR_wid hp) (by rw [rowsR_len]; exact h1) ?_
   have e : (rowsR x (cmR x l p)).length = (addR (rowsR x l) (rowsR x p) 0).1.length := by rw [rows_takeP]; rfl
   rw [← e, rowsR_len]
   exact h2
end
section
open Go.ChangeShapes Go.WideShapes Go.ChangeAt Go.RowKit
attribute [local go_sem ↓] execOp_call_val
attribute [local go_sem] callVal_func setCell_drewN alloc_drewN sEq_walk
set_option maxRecDepth 100000 in
set_option maxHeartbeats 4000000 in
theorem radds_any (h : NetH) (x : Net) (A : Option Addr) (n c : Nat) (ms0 : List Mi) (A' : Option Addr) (n' c' : Nat) (ps0 : List Mi) (w : World) (r : RdNet w w.heap.size h x) (hm : RdMi w w.heap.size A n ms0) (hp : RdMi w w.heap.size A' n' ps0) (hnc : n ≤ c) (hc : c ≤ 9223372036854775807) (hnc' : n' ≤ c') (hc' : c' ≤ 9223372036854775807) (ht : TabOk w) :
    Calls Tryz.prog 11 #[.agg h.cells, .slice A n c, .slice A' n' c'] w fun e w' => e = .returned (.bool true) ∧ Below w.heap.size w w' := by
 obtain ⟨k, hk4, hkn, hmin⟩ : ∃ k : Nat, k ≤ 4 ∧ k ≤ n ∧ min (n : Int) 4 = (k : Int) := by
  by_cases h : (4 : Int) < (n : Int)
  ·exact ⟨4, by omega, by omega, by omega⟩
  ·exact ⟨n, by omega, by omega, by omega⟩
 obtain ⟨k', hk5, hkn', hmin'⟩ : ∃ k : Nat, k ≤ 5 ∧ k ≤ n' ∧ min (n' : Int) 5 = (k : Int) := by
  by_cases h : (5 : Int) < (n' : Int)
  ·exact ⟨5, by omega, by omega, by omega⟩
  ·exact ⟨n', by omega, by omega, by omega⟩
 have hkc : (k : Int) ≤ (c : Int) := by omega
 have hkc' : (k' : Int) ≤ (c' : Int) := by omega
 have HK4 := Lib.hid hk4
 have HK5 := Lib.hid hk5
 have hm1 := hm.take hkn
 have hp1 := hp.take hkn'
 generalize hms : ms0.take k = ms at *
 generalize hps : ps0.take k' = ps at *
 clear hms hps hm hp
 have K0 : Below w.heap.size w (w.alloc (.cells h.cells 33)) := (Below.refl _ _).alloc (Nat.le_refl _) _
 have HK := Lib.hid K0
 have P0 := Lib.hid (Blk.new w 33 h.cells)
 have HX := Lib.hid (r.up K0)
 have HM := Lib.hid ((hm1.below K0 (Nat.le_refl _)).more K0.size)
 have HP := Lib.hid ((hp1.below K0 (Nat.le_refl _)).more K0.size)
 have HT := Lib.hid (ht.up K0)
 have HML : Hid (ms.length = k) := Lib.hid hm1.1
 have HPL : Hid (ps.length = k') := Lib.hid hp1.1
 have HLL : Hid ((ms ++ ps).length ≤ 64) := Lib.hid (by rw [List.length_append, hm1.1, hp1.1]; omega)
 clear K0 hm1 hp1 r ht
 obtain ⟨D0, r0, s0, D1, r1, s1, D2, r2, s2, D3, r3, s3, D4, r4, s4, D5, r5, s5⟩ := h
 go_enter Tryz.func11, Tryz.ntmps11
 go_wp2_with fail
 have HSZ : Hid (w.heap.size ≤ (w.alloc (.cells (NetH.cells ⟨D0, r0, s0, D1, r1, s1, D2, r2, s2, D3, r3, s3, D4, r4, s4, D5, r5, s5⟩) 33)).heap.size) := Lib.hid HK.out.size
 generalize w.alloc (.cells (NetH.cells ⟨D0, r0, s0, D1, r1, s1, D2, r2, s2, D3, r3, s3, D4, r4, s4, D5, r5, s5⟩) 33) = W at *
 go_quiet (fail)
 go_wp2_with fail
 have hzz := below_drewN (Below.refl W.heap.size W) nq
 replace HX := Lib.hid (HX.out.up hzz)
 replace HM := Lib.hid ((HM.out.below hzz (Nat.le_refl _)).more hzz.size)
 replace HP := Lib.hid ((HP.out.below hzz (Nat.le_refl _)).more hzz.size)
 replace P0 := Lib.hid (P0.out.below hzz P0.out.lt)
 replace HT := Lib.hid (HT.out.up hzz)
 have HB0 : Hid (Below w.heap.size w (W.drewN nq)) := Lib.hid (HK.out.trans (hzz.mono HSZ.out))
 clear hzz HK HSZ
 generalize W.drewN nq = W0 at *
 refine (rworks_any W0 HT.out).mono ?_
 rintro e w1 ⟨rfl, hb1⟩
 have HB1 := Lib.hid (HB0.out.trans (hb1.mono HB0.out.size))
 replace HX := Lib.hid (HX.out.up hb1)
 replace HM := Lib.hid ((HM.out.below hb1 (Nat.le_refl _)).more hb1.size)
 replace HP := Lib.hid ((HP.out.below hb1 (Nat.le_refl _)).more hb1.size)
 replace P0 := Lib.hid (P0.out.below hb1 P0.out.lt)
 replace HT := Lib.hid (HT.out.up hb1)
 clear hb1 HB0
 go_wp2_with fail
 refine (oworks_any w1 HT.out).mono ?_
 rintro e w2 ⟨rfl, hb2⟩
 have HB2 := Lib.hid (HB1.out.trans (hb2.mono HB1.out.size))
 replace HX := Lib.hid (HX.out.up hb2)
 replace HM := Lib.hid ((HM.out.below hb2 (Nat.le_refl _)).more hb2.size)
 replace HP := Lib.hid ((HP.out.below hb2 (Nat.le_refl _)).more hb2.size)
 replace P0 := Lib.hid (P0.out.below hb2 P0.out.lt)
 replace HT := Lib.hid (HT.out.up hb2)
 clear hb2 HB1
 go_upto_region 4 with fail
 go_cut [39] (fun vv wc => vv = .bool (!(smallR x (ms ++ ps) [])) ∧ Below w2.heap.size w2 wc)
 case first =>
  have PNX := P0.out
  obtain ⟨y0, y1, y2, y3, y4, y5, nf, nlt⟩ := net_box (h := ⟨D0, r0, s0, D1, r1, s1, D2, r2, s2, D3, r3, s3, D4, r4, s4, D5, r5, s5⟩) PNX
  dsimp only at y0 y1 y2 y3 y4 y5
  clear PNX
  refine wp_region_last (S := fun w' => Below w2.heap.size w2 w') 7 _ (by kernel_rfl) (by kernel_rfl) rfl (below_drew (Below.refl _ _)) (fun hHeld => ?_)
  simp only [List.take_succ_cons, List.take_zero]
  refine tkH 0 rfl (by intro w' _ hcc; go_simp <;> with_reducible rfl) hHeld ?_
  try simp only [Act.put, sA_, sB_, sC_]
  refine tkH 2 rfl (by intro w' _ hcc; go_simp <;> with_reducible rfl) hHeld ?_
  try simp only [Act.put, sA_, sB_, sC_]
  refine tkH 4 rfl (by intro w' _ hcc; go_simp <;> with_reducible rfl) hHeld ?_
  try simp only [Act.put, sA_, sB_, sC_]
  clear y0 y1 y2 y3 y4 y5 nf nlt
  have HV0 := Lib.hid (below_drew (Below.refl w2.heap.size w2))
  generalize w2.drew = v0 at *
  refine stepH 1 (by kernel_rfl) rfl (fun K hK => ?_)
  go_simp
  have hz : Below v0.heap.size v0 (v0.alloc (.cells #[] 57)) := (Below.refl _ _).alloc (Nat.le_refl _) _
  have HO1 : Hid (OwnMi (v0.alloc (.cells #[] 57)) v0.heap.size (.slice (some ⟨v0.heap.size, 0, none⟩) 0 0) []) := Lib.hid ownMi_lit0
  have HV1 : Hid (Below w2.heap.size w2 (v0.alloc (.cells #[] 57))) := Lib.hid (HV0.out.trans (hz.mono HV0.out.size))
  have HG0 : Hid (w2.heap.size ≤ v0.heap.size ∧ v0.heap.size < (v0.alloc (.cells #[] 57)).heap.size) := Lib.hid ⟨HV0.out.size, by simp⟩
  generalize v0.alloc (.cells #[] 57) = v1 at *
  generalize v0.heap.size = g0 at *
  clear hz HV0
  refine hK.out _ _ ?_ (fun hHeld => ?_)
  ·exact HV1.out
  clear hK K
  try simp only [Act.put, sA_, sB_, sC_]
  refine stepH 3 (by kernel_rfl) rfl (fun K hK => ?_)
  refine ite_go (by rfl) ?_
  refine wp_appMi (.tmp 33) (.tmp 34) 52 rfl g0 Tryz.underlying52 (.slice (some ⟨g0, 0, none⟩) 0 0) [] rfl HO1.out A k c ms rfl ((HM.out.below HV1.out (Nat.le_refl _)).more HV1.out.size) ?k1 ?k2 k ?k3 ?_
  case k1 => simp only [List.length_nil]; omega
  case k2 => have := HG0.out; omega
  case k3 => rw [List.nil_append]; exact HML.out
  intro Ay cy v2 ho hb hg
  have HO2 : Hid (OwnMi v2 g0 (.slice Ay k cy) ms) := Lib.hid ho
  have HV2 : Hid (Below w2.heap.size w2 v2) := Lib.hid (HV1.out.trans (hb.mono HG0.out.1))
  have HGS : Hid (g0 < v2.heap.size) := Lib.hid (by have := HG0.out; have := hb.size; omega)
  clear ho hb hg HO1 HV1
  refine hK.out _ _ ?_ (fun hHeld => ?_)
  ·exact HV2.out
  clear hK K
  try simp only [Act.put, sA_, sB_, sC_]
  refine stepH 5 (by kernel_rfl) rfl (fun K hK => ?_)
  refine ite_go (by rfl) ?_
  refine wp_appMi (.tmp 35) (.tmp 36) 52 rfl g0 Tryz.underlying52 (.slice Ay k cy) ms rfl HO2.out A' k' c' ps rfl ((HP.out.below HV2.out (Nat.le_refl _)).more HV2.out.size) ?k1 ?k2 (k + k') ?k3 ?_
  case k1 => rw [HML.out]; omega
  case k2 => have := HGS.out; omega
  case k3 => rw [List.length_append, HML.out, HPL.out]
  intro Az cz v3 ho hb hg
  have HO3 : Hid (OwnMi v3 g0 (.slice Az (k + k') cz) (ms ++ ps)) := Lib.hid ho
  have HV3 : Hid (Below w2.heap.size w2 v3) := Lib.hid (HV2.out.trans (hb.mono HG0.out.1))
  clear ho hb hg HO2 HV2
  refine hK.out _ _ ?_ (fun hHeld => ?_)
  ·exact HV3.out
  clear hK K
  try simp only [Act.put, sA_, sB_, sC_]
  refine stepH 6 (by kernel_rfl) rfl (fun K hK => ?_)
  go_simp
  obtain ⟨hmm, hm1, hm2⟩ := HO3.out.rd2
  refine (small_any ⟨D0, r0, s0, D1, r1, s1, D2, r2, s2, D3, r3, s3, D4, r4, s4, D5, r5, s5⟩ x Az (k + k') cz (ms ++ ps) none 0 0 [] v3 (HX.out.up HV3.out) hmm (rdVc_0 _ _) (by omega) (by decide)).mono ?_
  rintro e v4 ⟨rfl, hb4⟩
  have HV4 : Hid (Below w2.heap.size w2 v4) := Lib.hid (HV3.out.trans (hb4.mono HV3.out.size))
  clear hb4 hmm hm1 hm2 HV3 HO3
  go_simp
  refine hK.out _ _ ?_ (fun hHeld => ?_)
  ·exact HV4.out
  clear hK K
  try simp only [Act.put, sA_, sB_, sC_]
  refine wpAnyH_done (by kernel_rfl) ?_ _
  refine lastQ_go (by rfl) ?_
  clear hHeld
  go_wp2_with fail
  go_meet
  case rel => exact ⟨by first | rfl | simp, HV4.out⟩
 case rest =>
  obtain ⟨rfl, hbc⟩ := hcut
  have HB3 := Lib.hid (HB2.out.trans (hbc.mono HB2.out.size))
  replace HX := Lib.hid (HX.out.up hbc)
  replace HM := Lib.hid ((HM.out.below hbc (Nat.le_refl _)).more hbc.size)
  replace HP := Lib.hid ((HP.out.below hbc (Nat.le_refl _)).more hbc.size)
  replace P0 := Lib.hid (P0.out.below hbc P0.out.lt)
  replace HT := Lib.hid (HT.out.up hbc)
  clear hbc HB2
  generalize wc = w3 at *
  cases hsm : smallR x (ms ++ ps) [] with
  | false =>
   go_wp2_with fail
   go_ret
   exact ⟨rfl, HB3.out⟩
  | true =>
   obtain ⟨h8, hz⟩ := small_parts hsm
   have HZ := Lib.hid hz
   have HZ1 : Hid (∀ m ∈ ms, m.txt.size ≤ maxLen) := Lib.hid fun m hm => hz m (List.mem_append_left _ hm)
   have HZ2 : Hid (∀ m ∈ ps, m.txt.size ≤ maxLen) := Lib.hid fun m hm => hz m (List.mem_append_right _ hm)
   clear hsm hz
   have PNX := P0.out
   obtain ⟨y0, y1, y2, y3, y4, y5, nf, nlt⟩ := net_box (h := ⟨D0, r0, s0, D1, r1, s1, D2, r2, s2, D3, r3, s3, D4, r4, s4, D5, r5, s5⟩) PNX
   dsimp only at y0 y1 y2 y3 y4 y5
   clear PNX
   go_wp2_with fail
   clear y0 y1 y2 y3 y4 y5 nf nlt
   have HLAW := Lib.hid (adds_law (x := x) HLL.out)
   refine (miss_any ⟨D0, r0, s0, D1, r1, s1, D2, r2, s2, D3, r3, s3, D4, r4, s4, D5, r5, s5⟩ x h8 A k c ms w3 HX.out HM.out HZ1.out (by omega) HT.out).mono ?_
   rintro e w4 ⟨rfl, hb4⟩
   have HB4 := Lib.hid (HB3.out.trans (hb4.mono HB3.out.size))
   replace HX := Lib.hid (HX.out.up hb4)
   replace HM := Lib.hid ((HM.out.below hb4 (Nat.le_refl _)).more hb4.size)
   replace HP := Lib.hid ((HP.out.below hb4 (Nat.le_refl _)).more hb4.size)
   replace P0 := Lib.hid (P0.out.below hb4 P0.out.lt)
   replace HT := Lib.hid (HT.out.up hb4)
   clear hb4 HB3
   have PNX := P0.out
   obtain ⟨y0, y1, y2, y3, y4, y5, nf, nlt⟩ := net_box (h := ⟨D0, r0, s0, D1, r1, s1, D2, r2, s2, D3, r3, s3, D4, r4, s4, D5, r5, s5⟩) PNX
   dsimp only at y0 y1 y2 y3 y4 y5
   clear PNX
   go_wp2_with fail
   clear y0 y1 y2 y3 y4 y5 nf nlt
   refine (compl_any ⟨D0, r0, s0, D1, r1, s1, D2, r2, s2, D3, r3, s3, D4, r4, s4, D5, r5, s5⟩ x h8 A k c ms A' k' c' ps w4 HX.out HM.out HP.out HZ1.out HZ2.out (by omega) (by omega) HT.out).mono ?_
   rintro e w5 ⟨hb5, hh⟩
   have HB5 := Lib.hid (HB4.out.trans (hb5.mono HB4.out.size))
   replace HX := Lib.hid (HX.out.up hb5)
   replace HM := Lib.hid ((HM.out.below hb5 (Nat.le_refl _)).more hb5.size)
   replace HP := Lib.hid ((HP.out.below hb5 (Nat.le_refl _)).more hb5.size)
   replace P0 := Lib.hid (P0.out.below hb5 P0.out.lt)
   replace HT := Lib.hid (HT.out.up hb5)
   clear hb5 HB4
   rcases hh with ⟨hce, rfl⟩ | ⟨hce, A9, c9, rfl, hrd⟩
   ·have hB : (cmE x ms ps != 0) = true := by simp [hce]
    rcases HLAW.out.1 hce with h1 | ⟨h1, h2⟩
    ·rw [h1]
     go_wp2_with fail
     go_ret
     exact ⟨rfl, HB5.out⟩
    ·rw [h1, h2]
     have hB2 : (cmE x ms ps == 0) = false := by simp [hce]
     go_wp2_with fail
     go_ret
     exact ⟨by simp, HB5.out⟩
   ·obtain ⟨hck, hob, hms, hlen, hcr, h64⟩ := HLAW.out.2 hce
    have HCK := Lib.hid hck
    have HCR := Lib.hid hcr
    have HLEN := Lib.hid hlen
    have HRD := Lib.hid hrd
    have H64 := Lib.hid h64
    rw [hms]
    have HZC : Hid (∀ m ∈ cmR x ms ps, m.txt.size ≤ maxLen) := Lib.hid fun m hm => by
     unfold cmR takeP at hm
     rcases List.mem_append.1 hm with h1 | h1
     ·exact HZ1.out m h1
     ·obtain ⟨t, ht, rfl⟩ := List.mem_map.1 h1
      have hlt := adR_lt ht
      exact HZ2.out _ (List.mem_of_getElem? (i := t) (by rw [List.getD_eq_getElem?_getD, List.getElem?_eq_getElem hlt]; rfl))
    have HNL : Hid ((cmR x ms ps).length = (cmR x ms ps).length) := Lib.hid rfl
    obtain ⟨nm, hnm⟩ : ∃ nm, (cmR x ms ps).length = nm := ⟨_, rfl⟩
    rw [hnm] at HRD HLEN H64 HCR ⊢
    rw [HML.out] at HLEN HCR
    clear hck hcr hlen hrd h64 hms HNL hnm HLAW hce
    have PNX := P0.out
    obtain ⟨y0, y1, y2, y3, y4, y5, nf, nlt⟩ := net_box (h := ⟨D0, r0, s0, D1, r1, s1, D2, r2, s2, D3, r3, s3, D4, r4, s4, D5, r5, s5⟩) PNX
    dsimp only at y0 y1 y2 y3 y4 y5
    clear PNX
    go_wp2_with fail
    clear y0 y1 y2 y3 y4 y5 nf nlt
    refine (obs_any ⟨D0, r0, s0, D1, r1, s1, D2, r2, s2, D3, r3, s3, D4, r4, s4, D5, r5, s5⟩ x h8 A9 nm c9 (cmR x ms ps) w5 HX.out HRD.out HZC.out (by have := H64.out; omega) HT.out).mono ?_
    rintro e w6 ⟨rfl, hb6⟩
    have HB6 := Lib.hid (HB5.out.trans (hb6.mono HB5.out.size))
    replace HX := Lib.hid (HX.out.up hb6)
    replace HM := Lib.hid ((HM.out.below hb6 (Nat.le_refl _)).more hb6.size)
    replace HP := Lib.hid ((HP.out.below hb6 (Nat.le_refl _)).more hb6.size)
    replace P0 := Lib.hid (P0.out.below hb6 P0.out.lt)
    replace HT := Lib.hid (HT.out.up hb6)
    replace HRD := Lib.hid ((HRD.out.below hb6 (Nat.le_refl _)).more hb6.size)
    rw [rankA_eq HCK.out, hob]
    clear hb6 HB5
    have PNX := P0.out
    obtain ⟨y0, y1, y2, y3, y4, y5, nf, nlt⟩ := net_box (h := ⟨D0, r0, s0, D1, r1, s1, D2, r2, s2, D3, r3, s3, D4, r4, s4, D5, r5, s5⟩) PNX
    dsimp only at y0 y1 y2 y3 y4 y5
    clear PNX
    go_wp2_with fail
    clear y0 y1 y2 y3 y4 y5 nf nlt
    refine (crit_any ⟨D0, r0, s0, D1, r1, s1, D2, r2, s2, D3, r3, s3, D4, r4, s4, D5, r5, s5⟩ x h8 A9 nm c9 (cmR x ms ps) w6 HX.out HRD.out HZC.out (by have := H64.out; omega) HT.out).mono ?_
    rintro e w7 ⟨hb7, hh⟩
    have HB7 := Lib.hid (HB6.out.trans (hb7.mono HB6.out.size))
    clear hb7 HB6
    rcases hh with ⟨h0, _⟩ | ⟨_, A7, c7, rfl, hrd7⟩
    ·exact absurd HCK.out h0
    have HI := Lib.hid hrd7
    have HCL : Hid ((critR (rowsR x (cmR x ms ps))).length ≤ 64) := Lib.hid (Nat.le_trans (critK_len _ _) (by rw [rowsR_len]; have := HRD.out.1; have := H64.out; omega))
    clear hrd7
    generalize hcr : critR (rowsR x (cmR x ms ps)) = cr at *
    clear hcr
    generalize hcl : cr.length = nc at *
    clear hcl
    obtain ⟨mk, hmk⟩ : ∃ mk, (missA x ms).1 = mk := ⟨_, rfl⟩
    rw [hmk] at HLEN ⊢
    clear hmk
    have hl1 : (nm : Int) = (k : Int) + mk := HLEN.out
    have hn64 : nm ≤ 64 := H64.out
    have hw : IntKind.i64.wrap ((k : Int) + mk) = (k : Int) + mk := wrap_i64 (by omega) (by omega)
    have hne : ((nm : Int) != (k : Int) + mk) = false := by rw [hl1]; simp
    go_wp2_with fail
    go_loopw [15] (fun v15 wr => ∃ i nq : Nat, k ≤ i ∧ i ≤ max k nm ∧ v15 = .int .i64 i ∧ wr = w7) (fun v15 _ => nm - (intOf v15).toNat)
    case atStart => exact ⟨k, 0, by omega, by omega, rfl, rfl⟩
    case round =>
     obtain ⟨i, nq, hi1, hi2, rfl, rfl⟩ := hrel
     by_cases hlt : i < nm
     ·have hiI : (i : Int) < (nm : Int) := by omega
      have hin : i ∈ cr := HCR.out i hi1 hlt
      have HNX : Hid ((i : Int) + 1 = ((i + 1 : Nat) : Int)) := Lib.hid (by omega)
      have HNM : Hid (nm - (i + 1) < nm - i) := Lib.hid (by omega)
      have hHH := hasInt_any A7 nc c7 (natJ cr) (i : Int) wr HI.out (by have := HCL.out; omega)
      rw [any_eq, decide_eq_true hin] at hHH
      have HH := Lib.hid hHH
      clear hHH hin
      go_wp2_with fail
      refine HH.out.mono ?_
      rintro e w9 ⟨rfl, rfl⟩
      go_wp2_with fail
      go_roundw
      case rel => exact ⟨i + 1, 0, by omega, by omega, val_int HNX.out, by first | trivial | rfl⟩
      case measure => exact HNM.out
     ·have hiI : ¬ (i : Int) < (nm : Int) := by omega
      go_wp2_with fail
      go_ret
      exact ⟨rfl, HB7.out⟩
end
end Go.Proofs.YtakllkkmofdpaaaGreatDoor
