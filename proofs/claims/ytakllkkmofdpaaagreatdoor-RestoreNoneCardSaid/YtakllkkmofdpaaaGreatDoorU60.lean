import Derived.Test.YtakllkkmofdpaaaGreatDoorU48
import Derived.Test.YtakllkkmofdpaaaGreatDoorU54
set_option linter.unusedVariables false
set_option linter.unusedSimpArgs false
namespace Go.Proofs.YtakllkkmofdpaaaGreatDoor
section
theorem addR_ker {n : Nat} : ∀ (p rows : List (List Rat)) (i : Nat), Wid n rows → Wid n p → ∀ x, Ker n (vfs (addR rows p i).1) x ↔ Ker n (vfs (rows ++ p)) x
 | [], rows, i, h, _, x => by rw [List.append_nil]; exact Iff.rfl
 | a :: r, rows, i, h, hp, x => by
  have ha := hp a (List.mem_cons_self ..)
  have hr : Wid n r := fun b hb => hp b (List.mem_cons_of_mem _ hb)
  unfold addR
  by_cases hlt : rankR rows < rankR (rows ++ [a])
  ·rw [if_pos hlt]
   have := addR_ker r (rows ++ [a]) (i + 1) (wid_app h (wid_one ha)) hr x
   rwa [List.append_assoc, List.singleton_append] at this
  ·rw [if_neg hlt]
   have he : rankR (rows ++ [a]) = rankR rows := by
    have := rk_more h ha
    omega
   have hd := (rk_dep h ha).1 he
   rw [addR_ker r rows (i + 1) h hr x, ker_app, ker_mem (M := rows ++ a :: r)]
   constructor
   ·rintro ⟨h1, h2⟩ b hb
    rcases List.mem_append.1 hb with hb | hb
    ·exact ker_mem.1 h1 b hb
    ·rcases List.mem_cons.1 hb with rfl | hb
     ·exact hd x h1
     ·exact ker_mem.1 h2 b hb
   ·intro g
    exact ⟨ker_mem.2 fun b hb => g b (List.mem_append_left _ hb), ker_mem.2 fun b hb => g b (List.mem_append_right _ (List.mem_cons_of_mem _ hb))⟩
theorem addR_rank {n : Nat} (p rows : List (List Rat)) (i : Nat) (h : Wid n rows) (hp : Wid n p) : rankR (addR rows p i).1 = rankR (rows ++ p) :=
 rk_same (addR_wid p rows i h hp) (wid_app h hp) (addR_ker p rows i h hp)
end
section
open Go.ChangeShapes Go.WideShapes Go.ChangeAt Go.RowKit
theorem adR_rank {x : Net} {l p : List Mi} (hl : mtCk x l = 0) (hp : mtCk x p = 0) : rankR (adR x l p).1 = rankR (rowsR x (l ++ p)) := by
 rw [rowsR_app]
 exact addR_rank _ _ 0 (rowsR_wid hl) (rowsR_wid hp)
theorem none_law {x : Net} {l p : List Mi} (h : (l ++ p).length ≤ 64) : (mtCk x (l ++ p) ≠ 0 → adE x l p = mtCk x (l ++ p)) ∧ (mtCk x (l ++ p) = 0 → (adE x l p = 0 ∧ obsA x (l ++ p) = true) ∨ (adE x l p = 8 ∧ obsA x (l ++ p) = false)) := by
 constructor
 ·intro h1
  rw [mtCk_app h] at h1 ⊢
  unfold adE
  by_cases h2 : mtCk x l = 0
  ·rw [if_neg (fun h => h h2)] at h1 ⊢
   rw [if_neg (show ¬ mtCk x l ≠ 0 from fun h => h h2), if_pos h1]
  ·rw [if_pos h2, if_pos h2]
 ·intro h1
  obtain ⟨hl, hp⟩ := (mtCk_two h).1 h1
  have hc := rk_cols (rowsR_wid h1)
  unfold adE obsA
  rw [if_neg (fun h => h hl), if_neg (fun h => h hp), adR_rank hl hp, rankA_eq h1]
  by_cases hr : rankR (rowsR x (l ++ p)) < (freeL x).length
  ·right
   rw [if_pos hr]
   refine ⟨rfl, ?_⟩
   have : ¬ ((rankR (rowsR x (l ++ p)) : Int) = ((freeL x).length : Int)) := by omega
   simp only [decide_eq_false this, Bool.and_false]
  ·left
   rw [if_neg hr]
   have : ((rankR (rowsR x (l ++ p)) : Int) = ((freeL x).length : Int)) := by omega
   exact ⟨rfl, by simp only [this, decide_true, Bool.and_self]⟩
end
section
open Go.ChangeShapes Go.WideShapes Go.ChangeAt Go.RowKit
attribute [local go_sem ↓] execOp_call_val
attribute [local go_sem] callVal_func setCell_drewN alloc_drewN sEq_walk
set_option maxRecDepth 100000 in
set_option maxHeartbeats 4000000 in
theorem rnone_any (h : NetH) (x : Net) (A : Option Addr) (n c : Nat) (ms0 : List Mi) (A' : Option Addr) (n' c' : Nat) (ps0 : List Mi) (w : World) (r : RdNet w w.heap.size h x) (hm : RdMi w w.heap.size A n ms0) (hp : RdMi w w.heap.size A' n' ps0) (hnc : n ≤ c) (hc : c ≤ 9223372036854775807) (hnc' : n' ≤ c') (hc' : c' ≤ 9223372036854775807) (ht : TabOk w) :
    Calls Tryz.prog 12 #[.agg h.cells, .slice A n c, .slice A' n' c'] w fun e w' => e = .returned (.bool true) ∧ Below w.heap.size w w' := by
 obtain ⟨k, hk4, hkn, hmin⟩ : ∃ k : Nat, k ≤ 4 ∧ k ≤ n ∧ min (n : Int) 4 = (k : Int) := by
  by_cases h : (4 : Int) < (n : Int)
  ·exact ⟨4, by omega, by omega, by omega⟩
  ·exact ⟨n, by omega, by omega, by omega⟩
 obtain ⟨k', hk5, hkn', hmin'⟩ : ∃ k : Nat, k ≤ 5 ∧ k ≤ n' ∧ min (n' : Int) 5 = (k : Int) := by
  by_cases h : (5 : Int) < (n' : Int)
  ·exact ⟨5, by omega, by omega, by omega⟩
  ·exact ⟨n', by omega, by omega, by omega⟩
 have hkc : (k : Int) ≤ (c : Int) := by omega
 have hkc' : (k' : Int) ≤ (c' : Int) := by omega
 have HK4 := Lib.hid hk4
 have HK5 := Lib.hid hk5
 have hm1 := hm.take hkn
 have hp1 := hp.take hkn'
 generalize hms : ms0.take k = ms at *
 generalize hps : ps0.take k' = ps at *
 clear hms hps hm hp
 have K0 : Below w.heap.size w (w.alloc (.cells h.cells 33)) := (Below.refl _ _).alloc (Nat.le_refl _) _
 have HK := Lib.hid K0
 have P0 := Lib.hid (Blk.new w 33 h.cells)
 have HX := Lib.hid (r.up K0)
 have HM := Lib.hid ((hm1.below K0 (Nat.le_refl _)).more K0.size)
 have HP := Lib.hid ((hp1.below K0 (Nat.le_refl _)).more K0.size)
 have HT := Lib.hid (ht.up K0)
 have HML : Hid (ms.length = k) := Lib.hid hm1.1
 have HPL : Hid (ps.length = k') := Lib.hid hp1.1
 have HLL : Hid ((ms ++ ps).length ≤ 64) := Lib.hid (by rw [List.length_append, hm1.1, hp1.1]; omega)
 clear K0 hm1 hp1 r ht
 obtain ⟨D0, r0, s0, D1, r1, s1, D2, r2, s2, D3, r3, s3, D4, r4, s4, D5, r5, s5⟩ := h
 go_enter Tryz.func12, Tryz.ntmps12
 go_wp2_with fail
 have HSZ : Hid (w.heap.size ≤ (w.alloc (.cells (NetH.cells ⟨D0, r0, s0, D1, r1, s1, D2, r2, s2, D3, r3, s3, D4, r4, s4, D5, r5, s5⟩) 33)).heap.size) := Lib.hid HK.out.size
 generalize w.alloc (.cells (NetH.cells ⟨D0, r0, s0, D1, r1, s1, D2, r2, s2, D3, r3, s3, D4, r4, s4, D5, r5, s5⟩) 33) = W at *
 go_quiet (fail)
 go_wp2_with fail
 have hzz := below_drewN (Below.refl W.heap.size W) nq
 replace HX := Lib.hid (HX.out.up hzz)
 replace HM := Lib.hid ((HM.out.below hzz (Nat.le_refl _)).more hzz.size)
 replace HP := Lib.hid ((HP.out.below hzz (Nat.le_refl _)).more hzz.size)
 replace P0 := Lib.hid (P0.out.below hzz P0.out.lt)
 replace HT := Lib.hid (HT.out.up hzz)
 have HB0 : Hid (Below w.heap.size w (W.drewN nq)) := Lib.hid (HK.out.trans (hzz.mono HSZ.out))
 clear hzz HK HSZ
 generalize W.drewN nq = W0 at *
 refine (rworks_any W0 HT.out).mono ?_
 rintro e w1 ⟨rfl, hb1⟩
 have HB1 := Lib.hid (HB0.out.trans (hb1.mono HB0.out.size))
 replace HX := Lib.hid (HX.out.up hb1)
 replace HM := Lib.hid ((HM.out.below hb1 (Nat.le_refl _)).more hb1.size)
 replace HP := Lib.hid ((HP.out.below hb1 (Nat.le_refl _)).more hb1.size)
 replace P0 := Lib.hid (P0.out.below hb1 P0.out.lt)
 replace HT := Lib.hid (HT.out.up hb1)
 clear hb1 HB0
 go_wp2_with fail
 refine (oworks_any w1 HT.out).mono ?_
 rintro e w2 ⟨rfl, hb2⟩
 have HB2 := Lib.hid (HB1.out.trans (hb2.mono HB1.out.size))
 replace HX := Lib.hid (HX.out.up hb2)
 replace HM := Lib.hid ((HM.out.below hb2 (Nat.le_refl _)).more hb2.size)
 replace HP := Lib.hid ((HP.out.below hb2 (Nat.le_refl _)).more hb2.size)
 replace P0 := Lib.hid (P0.out.below hb2 P0.out.lt)
 replace HT := Lib.hid (HT.out.up hb2)
 clear hb2 HB1
 go_upto_region 4 with fail
 go_cut [34] (fun vv wc => vv = .bool (!(smallR x (ms ++ ps) [])) ∧ Below w2.heap.size w2 wc)
 case first =>
  have PNX := P0.out
  obtain ⟨y0, y1, y2, y3, y4, y5, nf, nlt⟩ := net_box (h := ⟨D0, r0, s0, D1, r1, s1, D2, r2, s2, D3, r3, s3, D4, r4, s4, D5, r5, s5⟩) PNX
  dsimp only at y0 y1 y2 y3 y4 y5
  clear PNX
  refine wp_region_last (S := fun w' => Below w2.heap.size w2 w') 7 _ (by kernel_rfl) (by kernel_rfl) rfl (below_drew (Below.refl _ _)) (fun hHeld => ?_)
  simp only [List.take_succ_cons, List.take_zero]
  refine tkH 0 rfl (by intro w' _ hcc; go_simp <;> with_reducible rfl) hHeld ?_
  try simp only [Act.put, sA_, sB_, sC_]
  refine tkH 2 rfl (by intro w' _ hcc; go_simp <;> with_reducible rfl) hHeld ?_
  try simp only [Act.put, sA_, sB_, sC_]
  refine tkH 4 rfl (by intro w' _ hcc; go_simp <;> with_reducible rfl) hHeld ?_
  try simp only [Act.put, sA_, sB_, sC_]
  clear y0 y1 y2 y3 y4 y5 nf nlt
  have HV0 := Lib.hid (below_drew (Below.refl w2.heap.size w2))
  generalize w2.drew = v0 at *
  refine stepH 1 (by kernel_rfl) rfl (fun K hK => ?_)
  go_simp
  have hz : Below v0.heap.size v0 (v0.alloc (.cells #[] 57)) := (Below.refl _ _).alloc (Nat.le_refl _) _
  have HO1 : Hid (OwnMi (v0.alloc (.cells #[] 57)) v0.heap.size (.slice (some ⟨v0.heap.size, 0, none⟩) 0 0) []) := Lib.hid ownMi_lit0
  have HV1 : Hid (Below w2.heap.size w2 (v0.alloc (.cells #[] 57))) := Lib.hid (HV0.out.trans (hz.mono HV0.out.size))
  have HG0 : Hid (w2.heap.size ≤ v0.heap.size ∧ v0.heap.size < (v0.alloc (.cells #[] 57)).heap.size) := Lib.hid ⟨HV0.out.size, by simp⟩
  generalize v0.alloc (.cells #[] 57) = v1 at *
  generalize v0.heap.size = g0 at *
  clear hz HV0
  refine hK.out _ _ ?_ (fun hHeld => ?_)
  ·exact HV1.out
  clear hK K
  try simp only [Act.put, sA_, sB_, sC_]
  refine stepH 3 (by kernel_rfl) rfl (fun K hK => ?_)
  refine ite_go (by rfl) ?_
  refine wp_appMi (.tmp 28) (.tmp 29) 52 rfl g0 Tryz.underlying52 (.slice (some ⟨g0, 0, none⟩) 0 0) [] rfl HO1.out A k c ms rfl ((HM.out.below HV1.out (Nat.le_refl _)).more HV1.out.size) ?k1 ?k2 k ?k3 ?_
  case k1 => simp only [List.length_nil]; omega
  case k2 => have := HG0.out; omega
  case k3 => rw [List.nil_append]; exact HML.out
  intro Ay cy v2 ho hb hg
  have HO2 : Hid (OwnMi v2 g0 (.slice Ay k cy) ms) := Lib.hid ho
  have HV2 : Hid (Below w2.heap.size w2 v2) := Lib.hid (HV1.out.trans (hb.mono HG0.out.1))
  have HGS : Hid (g0 < v2.heap.size) := Lib.hid (by have := HG0.out; have := hb.size; omega)
  clear ho hb hg HO1 HV1
  refine hK.out _ _ ?_ (fun hHeld => ?_)
  ·exact HV2.out
  clear hK K
  try simp only [Act.put, sA_, sB_, sC_]
  refine stepH 5 (by kernel_rfl) rfl (fun K hK => ?_)
  refine ite_go (by rfl) ?_
  refine wp_appMi (.tmp 30) (.tmp 31) 52 rfl g0 Tryz.underlying52 (.slice Ay k cy) ms rfl HO2.out A' k' c' ps rfl ((HP.out.below HV2.out (Nat.le_refl _)).more HV2.out.size) ?k1 ?k2 (k + k') ?k3 ?_
  case k1 => rw [HML.out]; omega
  case k2 => have := HGS.out; omega
  case k3 => rw [List.length_append, HML.out, HPL.out]
  intro Az cz v3 ho hb hg
  have HO3 : Hid (OwnMi v3 g0 (.slice Az (k + k') cz) (ms ++ ps)) := Lib.hid ho
  have HV3 : Hid (Below w2.heap.size w2 v3) := Lib.hid (HV2.out.trans (hb.mono HG0.out.1))
  clear ho hb hg HO2 HV2
  refine hK.out _ _ ?_ (fun hHeld => ?_)
  ·exact HV3.out
  clear hK K
  try simp only [Act.put, sA_, sB_, sC_]
  refine stepH 6 (by kernel_rfl) rfl (fun K hK => ?_)
  go_simp
  obtain ⟨hmm, hm1, hm2⟩ := HO3.out.rd2
  refine (small_any ⟨D0, r0, s0, D1, r1, s1, D2, r2, s2, D3, r3, s3, D4, r4, s4, D5, r5, s5⟩ x Az (k + k') cz (ms ++ ps) none 0 0 [] v3 (HX.out.up HV3.out) hmm (rdVc_0 _ _) (by omega) (by decide)).mono ?_
  rintro e v4 ⟨rfl, hb4⟩
  have HV4 : Hid (Below w2.heap.size w2 v4) := Lib.hid (HV3.out.trans (hb4.mono HV3.out.size))
  clear hb4 hmm hm1 hm2 HV3 HO3
  go_simp
  refine hK.out _ _ ?_ (fun hHeld => ?_)
  ·exact HV4.out
  clear hK K
  try simp only [Act.put, sA_, sB_, sC_]
  refine wpAnyH_done (by kernel_rfl) ?_ _
  refine lastQ_go (by rfl) ?_
  clear hHeld
  go_wp2_with fail
  go_meet
  case rel => exact ⟨by first | rfl | simp, HV4.out⟩
 case rest =>
  obtain ⟨rfl, hbc⟩ := hcut
  have HB3 := Lib.hid (HB2.out.trans (hbc.mono HB2.out.size))
  replace HX := Lib.hid (HX.out.up hbc)
  replace HM := Lib.hid ((HM.out.below hbc (Nat.le_refl _)).more hbc.size)
  replace HP := Lib.hid ((HP.out.below hbc (Nat.le_refl _)).more hbc.size)
  replace P0 := Lib.hid (P0.out.below hbc P0.out.lt)
  replace HT := Lib.hid (HT.out.up hbc)
  clear hbc HB2
  generalize wc = w3 at *
  cases hsm : smallR x (ms ++ ps) [] with
  | false =>
   go_wp2_with fail
   go_ret
   exact ⟨rfl, HB3.out⟩
  | true =>
   obtain ⟨h8, hz⟩ := small_parts hsm
   have HZ := Lib.hid hz
   have HZ1 : Hid (∀ m ∈ ms, m.txt.size ≤ maxLen) := Lib.hid fun m hm => hz m (List.mem_append_left _ hm)
   have HZ2 : Hid (∀ m ∈ ps, m.txt.size ≤ maxLen) := Lib.hid fun m hm => hz m (List.mem_append_right _ hm)
   clear hsm hz
   have PNX := P0.out
   obtain ⟨y0, y1, y2, y3, y4, y5, nf, nlt⟩ := net_box (h := ⟨D0, r0, s0, D1, r1, s1, D2, r2, s2, D3, r3, s3, D4, r4, s4, D5, r5, s5⟩) PNX
   dsimp only at y0 y1 y2 y3 y4 y5
   clear PNX
   go_wp2_with fail
   clear y0 y1 y2 y3 y4 y5 nf nlt
   have HLAW := Lib.hid (none_law (x := x) HLL.out)
   refine (addr_any ⟨D0, r0, s0, D1, r1, s1, D2, r2, s2, D3, r3, s3, D4, r4, s4, D5, r5, s5⟩ x h8 A k c ms A' k' c' ps w3 HX.out HM.out HP.out HZ1.out HZ2.out (by omega) (by omega) HT.out).mono ?_
   rintro e w4 ⟨hb4, hh⟩
   have HB4 := Lib.hid (HB3.out.trans (hb4.mono HB3.out.size))
   replace HX := Lib.hid (HX.out.up hb4)
   replace HM := Lib.hid ((HM.out.below hb4 (Nat.le_refl _)).more hb4.size)
   replace HP := Lib.hid ((HP.out.below hb4 (Nat.le_refl _)).more hb4.size)
   replace P0 := Lib.hid (P0.out.below hb4 P0.out.lt)
   replace HT := Lib.hid (HT.out.up hb4)
   clear hb4 HB3
   obtain ⟨Aa, na, ca, rfl⟩ : ∃ Aa na ca, e = .returned (.tuple #[.slice Aa na ca, .int .i64 (adE x ms ps)]) := by
    rcases hh with ⟨_, rfl⟩ | ⟨h0, A9, c9, rfl, _⟩
    ·exact ⟨none, 0, 0, rfl⟩
    ·exact ⟨A9, _, c9, by rw [h0]⟩
   clear hh
   go_upto_region 7 with fail
   go_cut [9, 10] (fun v9 v10 wc => v9 = .bool (obsA x (ms ++ ps)) ∧ v10 = .int .i64 (rankA x (ms ++ ps)).2.2 ∧ Below w4.heap.size w4 wc)
   case first =>
    have PNX := P0.out
    obtain ⟨y0, y1, y2, y3, y4, y5, nf, nlt⟩ := net_box (h := ⟨D0, r0, s0, D1, r1, s1, D2, r2, s2, D3, r3, s3, D4, r4, s4, D5, r5, s5⟩) PNX
    dsimp only at y0 y1 y2 y3 y4 y5
    clear PNX
    refine wp_region_last (S := fun w' => Below w4.heap.size w4 w') 11 _ (by kernel_rfl) (by kernel_rfl) rfl (below_drew (Below.refl _ _)) (fun hHeld => ?_)
    simp only [List.take_succ_cons, List.take_zero]
    refine tkH 0 rfl (by intro w' _ hcc; go_simp <;> with_reducible rfl) hHeld ?_
    try simp only [Act.put, sA_, sB_, sC_]
    refine tkH 2 rfl (by intro w' _ hcc; go_simp <;> with_reducible rfl) hHeld ?_
    try simp only [Act.put, sA_, sB_, sC_]
    refine tkH 4 rfl (by intro w' _ hcc; go_simp <;> with_reducible rfl) hHeld ?_
    try simp only [Act.put, sA_, sB_, sC_]
    clear y0 y1 y2 y3 y4 y5 nf nlt
    have HV0 := Lib.hid (below_drew (Below.refl w4.heap.size w4))
    generalize w4.drew = v0 at *
    refine stepH 1 (by kernel_rfl) rfl (fun K hK => ?_)
    go_simp
    have hz : Below v0.heap.size v0 (v0.alloc (.cells #[] 57)) := (Below.refl _ _).alloc (Nat.le_refl _) _
    have HO1 : Hid (OwnMi (v0.alloc (.cells #[] 57)) v0.heap.size (.slice (some ⟨v0.heap.size, 0, none⟩) 0 0) []) := Lib.hid ownMi_lit0
    have HV1 : Hid (Below w4.heap.size w4 (v0.alloc (.cells #[] 57))) := Lib.hid (HV0.out.trans (hz.mono HV0.out.size))
    have HG0 : Hid (w4.heap.size ≤ v0.heap.size ∧ v0.heap.size < (v0.alloc (.cells #[] 57)).heap.size) := Lib.hid ⟨HV0.out.size, by simp⟩
    generalize v0.alloc (.cells #[] 57) = v1 at *
    generalize v0.heap.size = g0 at *
    clear hz HV0
    refine hK.out _ _ ?_ (fun hHeld => ?_)
    ·exact HV1.out
    clear hK K
    try simp only [Act.put, sA_, sB_, sC_]
    refine stepH 3 (by kernel_rfl) rfl (fun K hK => ?_)
    refine ite_go (by rfl) ?_
    refine wp_appMi (.tmp 44) (.tmp 45) 52 rfl g0 Tryz.underlying52 (.slice (some ⟨g0, 0, none⟩) 0 0) [] rfl HO1.out A k c ms rfl ((HM.out.below HV1.out (Nat.le_refl _)).more HV1.out.size) ?k1 ?k2 k ?k3 ?_
    case k1 => simp only [List.length_nil]; omega
    case k2 => have := HG0.out; omega
    case k3 => rw [List.nil_append]; exact HML.out
    intro Ay cy v2 ho hb hg
    have HO2 : Hid (OwnMi v2 g0 (.slice Ay k cy) ms) := Lib.hid ho
    have HV2 : Hid (Below w4.heap.size w4 v2) := Lib.hid (HV1.out.trans (hb.mono HG0.out.1))
    have HGS : Hid (g0 < v2.heap.size) := Lib.hid (by have := HG0.out; have := hb.size; omega)
    clear ho hb hg HO1 HV1
    refine hK.out _ _ ?_ (fun hHeld => ?_)
    ·exact HV2.out
    clear hK K
    try simp only [Act.put, sA_, sB_, sC_]
    refine stepH 5 (by kernel_rfl) rfl (fun K hK => ?_)
    refine ite_go (by rfl) ?_
    refine wp_appMi (.tmp 46) (.tmp 47) 52 rfl g0 Tryz.underlying52 (.slice Ay k cy) ms rfl HO2.out A' k' c' ps rfl ((HP.out.below HV2.out (Nat.le_refl _)).more HV2.out.size) ?k1 ?k2 (k + k') ?k3 ?_
    case k1 => rw [HML.out]; omega
    case k2 => have := HGS.out; omega
    case k3 => rw [List.length_append, HML.out, HPL.out]
    intro Az cz v3 ho hb hg
    have HO3 : Hid (OwnMi v3 g0 (.slice Az (k + k') cz) (ms ++ ps)) := Lib.hid ho
    have HV3 : Hid (Below w4.heap.size w4 v3) := Lib.hid (HV2.out.trans (hb.mono HG0.out.1))
    clear ho hb hg HO2 HV2
    refine hK.out _ _ ?_ (fun hHeld => ?_)
    ·exact HV3.out
    clear hK K
    try simp only [Act.put, sA_, sB_, sC_]
    refine stepH 6 (by kernel_rfl) rfl (fun K hK => ?_)
    go_simp
    obtain ⟨hmm, hm1, hm2⟩ := HO3.out.rd2
    refine (obs_any ⟨D0, r0, s0, D1, r1, s1, D2, r2, s2, D3, r3, s3, D4, r4, s4, D5, r5, s5⟩ x h8 Az (k + k') cz (ms ++ ps) v3 (HX.out.up HV3.out) hmm HZ.out (by omega) (HT.out.up HV3.out)).mono ?_
    rintro e v4 ⟨rfl, hb5⟩
    have HV4 : Hid (Below w4.heap.size w4 v4) := Lib.hid (HV3.out.trans (hb5.mono HV3.out.size))
    clear hb5 hmm hm1 hm2 HV3 HO3
    go_simp
    refine hK.out _ _ ?_ (fun hHeld => ?_)
    ·exact HV4.out
    clear hK K
    try simp only [Act.put, sA_, sB_, sC_]
    refine tkH 7 rfl (by intro w' _ hcc; go_simp <;> with_reducible rfl) hHeld ?_
    try simp only [Act.put, sA_, sB_, sC_]
    refine tkH 8 rfl (by intro w' _ hcc; go_simp <;> with_reducible rfl) hHeld ?_
    try simp only [Act.put, sA_, sB_, sC_]
    refine tkH 9 rfl (by intro w' _ hcc; go_simp <;> with_reducible rfl) hHeld ?_
    try simp only [Act.put, sA_, sB_, sC_]
    refine tkH 10 rfl (by intro w' _ hcc; go_simp <;> with_reducible rfl) hHeld ?_
    try simp only [Act.put, sA_, sB_, sC_]
    refine wpAnyH_done (by kernel_rfl) ?_ _
    refine lastQ_go (by rfl) ?_
    clear hHeld
    go_wp2_with fail
    go_meet
    case rel => exact ⟨rfl, rfl, HV4.out⟩
   case rest =>
    obtain ⟨rfl, rfl, hbc⟩ := hcut
    have HB5 := Lib.hid (HB4.out.trans (hbc.mono HB4.out.size))
    clear hbc HB4
    generalize wc = w5 at *
    by_cases hck : mtCk x (ms ++ ps) = 0
    ·rw [rankA_eq hck]
     rcases HLAW.out.2 hck with ⟨h1, h2⟩ | ⟨h1, h2⟩
     ·rw [h1, h2]
      go_wp2_with fail
      go_ret
      exact ⟨rfl, HB5.out⟩
     ·rw [h1, h2]
      go_wp2_with fail
      go_ret
      exact ⟨rfl, HB5.out⟩
    ·rw [rankA_bad hck, HLAW.out.1 hck]
     have hckB : (mtCk x (ms ++ ps) != 0) = true := by simp [hck]
     go_wp2_with fail
     go_ret
     exact ⟨by simp, HB5.out⟩
end
end Go.Proofs.YtakllkkmofdpaaaGreatDoor
