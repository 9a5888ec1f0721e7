import Derived.Test.YtakllkkmofdpaaaGreatDoorU48
import Derived.Test.YtakllkkmofdpaaaGreatDoorU49
import Derived.Test.YtakllkkmofdpaaaGreatDoorU55
set_option linter.unusedVariables false
set_option linter.unusedSimpArgs false
namespace Go.Proofs.YtakllkkmofdpaaaGreatDoor
section
theorem addR_mem {n : Nat} : ∀ (p rows : List (List Rat)) (i t : Nat) (b : List Rat), Wid n rows → Wid n p → p[t]? = some b → (i + t ∈ (addR rows p i).2 ↔ rankR (rows ++ p.take t) < rankR (rows ++ p.take (t + 1)))
 | [], rows, i, t, b, h, _, ht => by simp at ht
 | a :: r, rows, i, t, b, h, hp, ht => by
  have ha := hp a (List.mem_cons_self ..)
  have hr : Wid n r := fun b hb => hp b (List.mem_cons_of_mem _ hb)
  unfold addR
  cases t with
  | zero =>
   have hno : ∀ R, i + 0 ∉ (addR R r (i + 1)).2 := fun R hm => by
    have := addR_from r R (i + 1) _ hm
    omega
   simp only [List.take_zero, List.append_nil, List.take_succ_cons]
   split
   ·rename_i hlt
    simp only [hlt, iff_true]
    exact List.mem_cons_self ..
   ·rename_i hlt
    simp only [hlt, iff_false]
    exact hno _
  | succ t =>
   have ht' : r[t]? = some b := by simpa using ht
   have e : i + (t + 1) = (i + 1) + t := by omega
   rw [e]
   simp only [List.take_succ_cons]
   by_cases hlt : rankR rows < rankR (rows ++ [a])
   ·rw [if_pos hlt]
    have := addR_mem r (rows ++ [a]) (i + 1) t b (wid_app h (wid_one ha)) hr ht'
    rw [List.append_assoc, List.append_assoc, List.singleton_append, List.singleton_append] at this
    simp only [List.mem_cons]
    rw [this]
    constructor
    ·rintro (h1 | h1)
     ·omega
     ·exact h1
    ·exact .inr
   ·rw [if_neg hlt, addR_mem r rows (i + 1) t b h hr ht']
    have he : rankR (rows ++ [a]) = rankR rows := by
     have := rk_more h ha
     omega
    have hd := (rk_dep h ha).1 he
    have key : ∀ l : List (List Rat), Wid n l → rankR (rows ++ l) = rankR (rows ++ a :: l) := fun l hl => by
     refine rk_same (wid_app h hl) (wid_app h fun c hc => (List.mem_cons.1 hc).elim (fun e => by rw [e]; exact ha) (hl c)) fun x => ?_
     rw [ker_mem, ker_mem]
     constructor
     ·intro g c hc
      rcases List.mem_append.1 hc with hc | hc
      ·exact g c (List.mem_append_left _ hc)
      ·rcases List.mem_cons.1 hc with rfl | hc
       ·exact hd x (ker_mem.2 fun d hd => g d (List.mem_append_left _ hd))
       ·exact g c (List.mem_append_right _ hc)
     ·intro g c hc
      rcases List.mem_append.1 hc with hc | hc
      ·exact g c (List.mem_append_left _ hc)
      ·exact g c (List.mem_append_right _ (List.mem_cons_of_mem _ hc))
    rw [key _ fun c hc => hr c (List.mem_of_mem_take hc), key _ fun c hc => hr c (List.mem_of_mem_take hc)]
end
section
open Go.ChangeShapes Go.WideShapes Go.ChangeAt Go.RowKit
theorem first_law {x : Net} {l p : List Mi} (h : (l ++ p).length ≤ 64) (ha : adE x l p = 0) {i : Nat} {m : Mi} (hi : p[i]? = some m) :
    mtCk x (l ++ p.take i) = 0 ∧ mtCk x (l ++ p.take (i + 1)) = 0 ∧ (i ∈ (adR x l p).2 ↔ rankR (rowsR x (l ++ p.take i)) < rankR (rowsR x (l ++ p.take (i + 1)))) := by
 obtain ⟨hl, hp, _⟩ := adE_parts ha
 have h0 := (mtCk_two h).2 ⟨hl, hp⟩
 have sub : ∀ j, mtCk x (l ++ p.take j) = 0 := fun j => mtCk_sub h0 (fun m hm => by
  rcases List.mem_append.1 hm with h1 | h1
  ·exact List.mem_append_left _ h1
  ·exact List.mem_append_right _ (List.mem_of_mem_take h1)) (by rw [List.length_append] at h; rw [List.length_append, List.length_take]; omega)
 refine ⟨sub _, sub _, ?_⟩
 have h1 := addR_mem (rowsR x p) (rowsR x l) 0 i _ (rowsR_wid hl) (rowsR_wid hp) (rowsR_get hi)
 have e : ∀ j, rowsR x (p.take j) = (rowsR x p).take j := fun j => by unfold rowsR; rw [List.map_take]
 rw [Nat.zero_add] at h1
 rw [rowsR_app, rowsR_app, e, e]
 exact h1
end
section
open Go.ChangeShapes Go.WideShapes Go.ChangeAt Go.RowKit
attribute [local go_sem ↓] execOp_call_val
attribute [local go_sem] callVal_func setCell_drewN alloc_drewN sEq_walk
set_option maxRecDepth 100000 in
set_option maxHeartbeats 4000000 in
theorem rfirst_any (h : NetH) (x : Net) (A : Option Addr) (n c : Nat) (ms0 : List Mi) (A' : Option Addr) (n' c' : Nat) (ps0 : List Mi) (w : World) (r : RdNet w w.heap.size h x) (hm : RdMi w w.heap.size A n ms0) (hp : RdMi w w.heap.size A' n' ps0) (hnc : n ≤ c) (hc : c ≤ 9223372036854775807) (hnc' : n' ≤ c') (hc' : c' ≤ 9223372036854775807) (ht : TabOk w) :
    Calls Tryz.prog 13 #[.agg h.cells, .slice A n c, .slice A' n' c'] w fun e w' => e = .returned (.bool true) ∧ Below w.heap.size w w' := by
 obtain ⟨k, hk4, hkn, hmin⟩ : ∃ k : Nat, k ≤ 4 ∧ k ≤ n ∧ min (n : Int) 4 = (k : Int) := by
  by_cases h : (4 : Int) < (n : Int)
  ·exact ⟨4, by omega, by omega, by omega⟩
  ·exact ⟨n, by omega, by omega, by omega⟩
 obtain ⟨k', hk5, hkn', hmin'⟩ : ∃ k : Nat, k ≤ 5 ∧ k ≤ n' ∧ min (n' : Int) 5 = (k : Int) := by
  by_cases h : (5 : Int) < (n' : Int)
  ·exact ⟨5, by omega, by omega, by omega⟩
  ·exact ⟨n', by omega, by omega, by omega⟩
 have hkc : (k : Int) ≤ (c : Int) := by omega
 have hkc' : (k' : Int) ≤ (c' : Int) := by omega
 have HK4 := Lib.hid hk4
 have HK5 := Lib.hid hk5
 have hm1 := hm.take hkn
 have hp1 := hp.take hkn'
 generalize hms : ms0.take k = ms at *
 generalize hps : ps0.take k' = ps at *
 clear hms hps hm hp
 have K0 : Below w.heap.size w (w.alloc (.cells h.cells 33)) := (Below.refl _ _).alloc (Nat.le_refl _) _
 have HK := Lib.hid K0
 have P0 := Lib.hid (Blk.new w 33 h.cells)
 have HX := Lib.hid (r.up K0)
 have HM := Lib.hid ((hm1.below K0 (Nat.le_refl _)).more K0.size)
 have HP := Lib.hid ((hp1.below K0 (Nat.le_refl _)).more K0.size)
 have HT := Lib.hid (ht.up K0)
 have HML : Hid (ms.length = k) := Lib.hid hm1.1
 have HPL : Hid (ps.length = k') := Lib.hid hp1.1
 have HLL : Hid ((ms ++ ps).length ≤ 64) := Lib.hid (by rw [List.length_append, hm1.1, hp1.1]; omega)
 clear K0 hm1 hp1 r ht
 obtain ⟨D0, r0, s0, D1, r1, s1, D2, r2, s2, D3, r3, s3, D4, r4, s4, D5, r5, s5⟩ := h
 go_enter Tryz.func13, Tryz.ntmps13
 go_wp2_with fail
 have HSZ : Hid (w.heap.size ≤ (w.alloc (.cells (NetH.cells ⟨D0, r0, s0, D1, r1, s1, D2, r2, s2, D3, r3, s3, D4, r4, s4, D5, r5, s5⟩) 33)).heap.size) := Lib.hid HK.out.size
 generalize w.alloc (.cells (NetH.cells ⟨D0, r0, s0, D1, r1, s1, D2, r2, s2, D3, r3, s3, D4, r4, s4, D5, r5, s5⟩) 33) = W at *
 go_quiet (fail)
 go_wp2_with fail
 have hzz := below_drewN (Below.refl W.heap.size W) nq
 replace HX := Lib.hid (HX.out.up hzz)
 replace HM := Lib.hid ((HM.out.below hzz (Nat.le_refl _)).more hzz.size)
 replace HP := Lib.hid ((HP.out.below hzz (Nat.le_refl _)).more hzz.size)
 replace P0 := Lib.hid (P0.out.below hzz P0.out.lt)
 replace HT := Lib.hid (HT.out.up hzz)
 have HB0 : Hid (Below w.heap.size w (W.drewN nq)) := Lib.hid (HK.out.trans (hzz.mono HSZ.out))
 clear hzz HK HSZ
 generalize W.drewN nq = W0 at *
 refine (rworks_any W0 HT.out).mono ?_
 rintro e w1 ⟨rfl, hb1⟩
 have HB1 := Lib.hid (HB0.out.trans (hb1.mono HB0.out.size))
 replace HX := Lib.hid (HX.out.up hb1)
 replace HM := Lib.hid ((HM.out.below hb1 (Nat.le_refl _)).more hb1.size)
 replace HP := Lib.hid ((HP.out.below hb1 (Nat.le_refl _)).more hb1.size)
 replace P0 := Lib.hid (P0.out.below hb1 P0.out.lt)
 replace HT := Lib.hid (HT.out.up hb1)
 clear hb1 HB0
 go_wp2_with fail
 refine (oworks_any w1 HT.out).mono ?_
 rintro e w2 ⟨rfl, hb2⟩
 have HB2 := Lib.hid (HB1.out.trans (hb2.mono HB1.out.size))
 replace HX := Lib.hid (HX.out.up hb2)
 replace HM := Lib.hid ((HM.out.below hb2 (Nat.le_refl _)).more hb2.size)
 replace HP := Lib.hid ((HP.out.below hb2 (Nat.le_refl _)).more hb2.size)
 replace P0 := Lib.hid (P0.out.below hb2 P0.out.lt)
 replace HT := Lib.hid (HT.out.up hb2)
 clear hb2 HB1
 go_upto_region 4 with fail
 go_cut [41] (fun vv wc => vv = .bool (!(smallR x (ms ++ ps) [])) ∧ Below w2.heap.size w2 wc)
 case first =>
  have PNX := P0.out
  obtain ⟨y0, y1, y2, y3, y4, y5, nf, nlt⟩ := net_box (h := ⟨D0, r0, s0, D1, r1, s1, D2, r2, s2, D3, r3, s3, D4, r4, s4, D5, r5, s5⟩) PNX
  dsimp only at y0 y1 y2 y3 y4 y5
  clear PNX
  refine wp_region_last (S := fun w' => Below w2.heap.size w2 w') 7 _ (by kernel_rfl) (by kernel_rfl) rfl (below_drew (Below.refl _ _)) (fun hHeld => ?_)
  simp only [List.take_succ_cons, List.take_zero]
  refine tkH 0 rfl (by intro w' _ hcc; go_simp <;> with_reducible rfl) hHeld ?_
  try simp only [Act.put, sA_, sB_, sC_]
  refine tkH 2 rfl (by intro w' _ hcc; go_simp <;> with_reducible rfl) hHeld ?_
  try simp only [Act.put, sA_, sB_, sC_]
  refine tkH 4 rfl (by intro w' _ hcc; go_simp <;> with_reducible rfl) hHeld ?_
  try simp only [Act.put, sA_, sB_, sC_]
  clear y0 y1 y2 y3 y4 y5 nf nlt
  have HV0 := Lib.hid (below_drew (Below.refl w2.heap.size w2))
  generalize w2.drew = v0 at *
  refine stepH 1 (by kernel_rfl) rfl (fun K hK => ?_)
  go_simp
  have hz : Below v0.heap.size v0 (v0.alloc (.cells #[] 57)) := (Below.refl _ _).alloc (Nat.le_refl _) _
  have HO1 : Hid (OwnMi (v0.alloc (.cells #[] 57)) v0.heap.size (.slice (some ⟨v0.heap.size, 0, none⟩) 0 0) []) := Lib.hid ownMi_lit0
  have HV1 : Hid (Below w2.heap.size w2 (v0.alloc (.cells #[] 57))) := Lib.hid (HV0.out.trans (hz.mono HV0.out.size))
  have HG0 : Hid (w2.heap.size ≤ v0.heap.size ∧ v0.heap.size < (v0.alloc (.cells #[] 57)).heap.size) := Lib.hid ⟨HV0.out.size, by simp⟩
  generalize v0.alloc (.cells #[] 57) = v1 at *
  generalize v0.heap.size = g0 at *
  clear hz HV0
  refine hK.out _ _ ?_ (fun hHeld => ?_)
  ·exact HV1.out
  clear hK K
  try simp only [Act.put, sA_, sB_, sC_]
  refine stepH 3 (by kernel_rfl) rfl (fun K hK => ?_)
  refine ite_go (by rfl) ?_
  refine wp_appMi (.tmp 35) (.tmp 36) 52 rfl g0 Tryz.underlying52 (.slice (some ⟨g0, 0, none⟩) 0 0) [] rfl HO1.out A k c ms rfl ((HM.out.below HV1.out (Nat.le_refl _)).more HV1.out.size) ?k1 ?k2 k ?k3 ?_
  case k1 => simp only [List.length_nil]; omega
  case k2 => have := HG0.out; omega
  case k3 => rw [List.nil_append]; exact HML.out
  intro Ay cy v2 ho hb hg
  have HO2 : Hid (OwnMi v2 g0 (.slice Ay k cy) ms) := Lib.hid ho
  have HV2 : Hid (Below w2.heap.size w2 v2) := Lib.hid (HV1.out.trans (hb.mono HG0.out.1))
  have HGS : Hid (g0 < v2.heap.size) := Lib.hid (by have := HG0.out; have := hb.size; omega)
  clear ho hb hg HO1 HV1
  refine hK.out _ _ ?_ (fun hHeld => ?_)
  ·exact HV2.out
  clear hK K
  try simp only [Act.put, sA_, sB_, sC_]
  refine stepH 5 (by kernel_rfl) rfl (fun K hK => ?_)
  refine ite_go (by rfl) ?_
  refine wp_appMi (.tmp 37) (.tmp 38) 52 rfl g0 Tryz.underlying52 (.slice Ay k cy) ms rfl HO2.out A' k' c' ps rfl ((HP.out.below HV2.out (Nat.le_refl _)).more HV2.out.size) ?k1 ?k2 (k + k') ?k3 ?_
  case k1 => rw [HML.out]; omega
  case k2 => have := HGS.out; omega
  case k3 => rw [List.length_append, HML.out, HPL.out]
  intro Az cz v3 ho hb hg
  have HO3 : Hid (OwnMi v3 g0 (.slice Az (k + k') cz) (ms ++ ps)) := Lib.hid ho
  have HV3 : Hid (Below w2.heap.size w2 v3) := Lib.hid (HV2.out.trans (hb.mono HG0.out.1))
  clear ho hb hg HO2 HV2
  refine hK.out _ _ ?_ (fun hHeld => ?_)
  ·exact HV3.out
  clear hK K
  try simp only [Act.put, sA_, sB_, sC_]
  refine stepH 6 (by kernel_rfl) rfl (fun K hK => ?_)
  go_simp
  obtain ⟨hmm, hm1, hm2⟩ := HO3.out.rd2
  refine (small_any ⟨D0, r0, s0, D1, r1, s1, D2, r2, s2, D3, r3, s3, D4, r4, s4, D5, r5, s5⟩ x Az (k + k') cz (ms ++ ps) none 0 0 [] v3 (HX.out.up HV3.out) hmm (rdVc_0 _ _) (by omega) (by decide)).mono ?_
  rintro e v4 ⟨rfl, hb4⟩
  have HV4 : Hid (Below w2.heap.size w2 v4) := Lib.hid (HV3.out.trans (hb4.mono HV3.out.size))
  clear hb4 hmm hm1 hm2 HV3 HO3
  go_simp
  refine hK.out _ _ ?_ (fun hHeld => ?_)
  ·exact HV4.out
  clear hK K
  try simp only [Act.put, sA_, sB_, sC_]
  refine wpAnyH_done (by kernel_rfl) ?_ _
  refine lastQ_go (by rfl) ?_
  clear hHeld
  go_wp2_with fail
  go_meet
  case rel => exact ⟨by first | rfl | simp, HV4.out⟩
 case rest =>
  obtain ⟨rfl, hbc⟩ := hcut
  have HB3 := Lib.hid (HB2.out.trans (hbc.mono HB2.out.size))
  replace HX := Lib.hid (HX.out.up hbc)
  replace HM := Lib.hid ((HM.out.below hbc (Nat.le_refl _)).more hbc.size)
  replace HP := Lib.hid ((HP.out.below hbc (Nat.le_refl _)).more hbc.size)
  replace P0 := Lib.hid (P0.out.below hbc P0.out.lt)
  replace HT := Lib.hid (HT.out.up hbc)
  clear hbc HB2
  generalize wc = w3 at *
  cases hsm : smallR x (ms ++ ps) [] with
  | false =>
   go_wp2_with fail
   go_ret
   exact ⟨rfl, HB3.out⟩
  | true =>
   obtain ⟨h8, hz⟩ := small_parts hsm
   have HZ := Lib.hid hz
   have HZ1 : Hid (∀ m ∈ ms, m.txt.size ≤ maxLen) := Lib.hid fun m hm => hz m (List.mem_append_left _ hm)
   have HZ2 : Hid (∀ m ∈ ps, m.txt.size ≤ maxLen) := Lib.hid fun m hm => hz m (List.mem_append_right _ hm)
   clear hsm hz
   have PNX := P0.out
   obtain ⟨y0, y1, y2, y3, y4, y5, nf, nlt⟩ := net_box (h := ⟨D0, r0, s0, D1, r1, s1, D2, r2, s2, D3, r3, s3, D4, r4, s4, D5, r5, s5⟩) PNX
   dsimp only at y0 y1 y2 y3 y4 y5
   clear PNX
   go_wp2_with fail
   clear y0 y1 y2 y3 y4 y5 nf nlt
   refine (addr_any ⟨D0, r0, s0, D1, r1, s1, D2, r2, s2, D3, r3, s3, D4, r4, s4, D5, r5, s5⟩ x h8 A k c ms A' k' c' ps w3 HX.out HM.out HP.out HZ1.out HZ2.out (by omega) (by omega) HT.out).mono ?_
   rintro e w4 ⟨hb4, hh⟩
   have HB4 := Lib.hid (HB3.out.trans (hb4.mono HB3.out.size))
   replace HX := Lib.hid (HX.out.up hb4)
   replace HM := Lib.hid ((HM.out.below hb4 (Nat.le_refl _)).more hb4.size)
   replace HP := Lib.hid ((HP.out.below hb4 (Nat.le_refl _)).more hb4.size)
   replace P0 := Lib.hid (P0.out.below hb4 P0.out.lt)
   replace HT := Lib.hid (HT.out.up hb4)
   clear hb4 HB3
   rcases hh with ⟨hae, rfl⟩ | ⟨hae, A9, c9, rfl, hrd⟩
   ·have hB : (adE x ms ps != 0) = true := by simp [hae]
    go_wp2_with fail
    go_ret
    exact ⟨rfl, HB4.out⟩
   ·have HI := Lib.hid hrd
    have HLAW : Hid (∀ i m, ps[i]? = some m → mtCk x (ms ++ ps.take i) = 0 ∧ mtCk x (ms ++ ps.take (i + 1)) = 0 ∧ (i ∈ (adR x ms ps).2 ↔ rankR (rowsR x (ms ++ ps.take i)) < rankR (rowsR x (ms ++ ps.take (i + 1))))) := Lib.hid fun i m hi => first_law HLL.out hae hi
    have HIL : Hid ((adR x ms ps).2.length ≤ 64) := Lib.hid (Nat.le_trans adR_len (by rw [HPL.out]; omega))
    clear hrd hae
    generalize (adR x ms ps).2 = idx at *
    generalize hil : idx.length = ni at *
    clear hil
    have HZT : Hid (∀ i, ∀ m ∈ ms ++ ps.take i, m.txt.size ≤ maxLen) := Lib.hid fun i m hm => HZ.out m ((List.mem_append.1 hm).elim (List.mem_append_left _) fun h => List.mem_append_right _ (List.mem_of_mem_take h))
    have hz : Below w4.heap.size w4 (w4.alloc (.cells #[] 57)) := (Below.refl _ _).alloc (Nat.le_refl _) _
    have HZW := Lib.hid hz
    clear hz
    go_wp2_with (at_builtin; refine wpList_appMi rfl (.tmp 54) (.tmp 55) _ rfl w4.heap.size Tryz.underlying52 (.slice (some ⟨w4.heap.size, 0, none⟩) 0 0) [] rfl ownMi_lit0 A k c ms rfl ?k1 ?k2 ?k3 k ?k4 ?_)
    case k1 => exact (HM.out.below HZW.out (Nat.le_refl _)).more HZW.out.size
    case k2 => simp only [List.length_nil]; omega
    case k3 => exact HZW.out.size
    case k4 => rw [List.nil_append]; exact HML.out
    intro Ay cy w5 ho hb _
    have HO5 : Hid (OwnMi w5 w4.heap.size (.slice Ay k cy) ms) := Lib.hid ho
    have hz5 := HZW.out.trans hb
    have HB5 := Lib.hid (HB4.out.trans (hz5.mono HB4.out.size))
    have HGS : Hid (w4.heap.size ≤ w5.heap.size ∧ w.heap.size ≤ w4.heap.size) := Lib.hid ⟨hz5.size, HB4.out.size⟩
    have HZ5 := Lib.hid hz5
    clear ho hb hz5 HZW
    go_wp2_with fail
    go_loopw [9, 59] (fun v9 v59 wr => ∃ (i c8 N : Nat) (A8 : Option Addr), i ≤ k' ∧ v59 = .int .i64 i ∧ v9 = .slice A8 N c8 ∧ N = k + i ∧ OwnMi wr w4.heap.size (.slice A8 N c8) (ms ++ ps.take i) ∧ Below w4.heap.size w4 wr) (fun _ v59 _ => k' - (intOf v59).toNat)
    case atStart => exact ⟨0, cy, k, Ay, by omega, rfl, rfl, by omega, by rw [List.take_zero, List.append_nil]; exact HO5.out, HZ5.out⟩
    case round =>
     obtain ⟨i, c8, N, A8, hi, rfl, rfl, hN, ho, hb⟩ := hrel
     have HO := Lib.hid ho
     have HB := Lib.hid hb
     have HN := Lib.hid hN
     clear ho hb hN
     by_cases hlt : i < k'
     ·obtain ⟨m, hm⟩ : ∃ m, ps[i]? = some m := ⟨_, List.getElem?_eq_getElem (by have := HPL.out; omega)⟩
      obtain ⟨hc1, hc2, hmem⟩ := HLAW.out i m hm
      have HC1 := Lib.hid hc1
      have HC2 := Lib.hid hc2
      have HTS : Hid (ps.take (i + 1) = ps.take i ++ [m]) := Lib.hid (by rw [List.take_add_one, hm]; rfl)
      have hpp := (HP.out.below HB.out (Nat.le_refl _)).more HB.out.size
      obtain ⟨pb, po, hA, hpb, -⟩ := hpp.2.2 (by omega)
      subst hA
      obtain ⟨a0, a1, a2, a3⟩ := hpp.at_ hm
      have hiI : (i : Int) < (k' : Int) := by omega
      have hi0 : (0 : Int) ≤ (i : Int) := by omega
      have hin : (i : Int).toNat = i := Int.toNat_natCast i
      have HNX : Hid ((i : Int) + 1 = ((i + 1 : Nat) : Int)) := Lib.hid (by omega)
      have HNM : Hid (k' - (i + 1) < k' - i) := Lib.hid (by omega)
      have HLT := Lib.hid hlt
      have HN9 : Hid (N ≤ 9) := Lib.hid (by have := HN.out; omega)
      clear hm hpp hc1 hc2
      go_upto_region 13 with fail
      clear a0 a1 a2 a3 hpb hiI hi0 hin
      have hz : Below wr.heap.size wr (wr.alloc (.cells #[.int .i64 m.kind, .string m.name, .string m.txt, .int .i64 m.wt] 57)) := (Below.refl _ _).alloc (Nat.le_refl _) _
      have HMB := Lib.hid (Blk.new wr 57 #[.int .i64 m.kind, .string m.name, .string m.txt, .int .i64 m.wt])
      have HBA : Hid (Below w4.heap.size w4 (wr.alloc (.cells #[.int .i64 m.kind, .string m.name, .string m.txt, .int .i64 m.wt] 57))) := Lib.hid (HB.out.trans (hz.mono HB.out.size))
      replace HO := Lib.hid (HO.out.keep hz)
      clear hz HB
      generalize wr.alloc (.cells #[.int .i64 m.kind, .string m.name, .string m.txt, .int .i64 m.wt] 57) = wa at *
      generalize wr.heap.size = gm at *
      have PNX := P0.out.below HBA.out P0.out.lt
      obtain ⟨y0, y1, y2, y3, y4, y5, nf, nlt⟩ := net_box (h := ⟨D0, r0, s0, D1, r1, s1, D2, r2, s2, D3, r3, s3, D4, r4, s4, D5, r5, s5⟩) PNX
      dsimp only at y0 y1 y2 y3 y4 y5
      clear PNX
      have hrd := HO.out.rd2.1
      go_wp2_with fail
      clear y0 y1 y2 y3 y4 y5 nf nlt
      refine (orank_any ⟨D0, r0, s0, D1, r1, s1, D2, r2, s2, D3, r3, s3, D4, r4, s4, D5, r5, s5⟩ x h8 A8 N c8 (ms ++ ps.take i) wa (HX.out.up HBA.out) hrd (HZT.out i) (by have := HN9.out; omega) (HT.out.up HBA.out)).mono ?_
      rintro e w6 ⟨rfl, hb6⟩
      rw [rankA_eq HC1.out]
      replace HBA := Lib.hid (HBA.out.trans (hb6.mono HBA.out.size))
      replace HO := Lib.hid (HO.out.keep hb6)
      replace HMB := Lib.hid (HMB.out.below hb6 HMB.out.lt)
      clear hb6 hrd
      have x0 := HMB.out.cell 0
      have x1 := HMB.out.cell 1
      have x2 := HMB.out.cell 2
      have x3 := HMB.out.cell 3
      have xl := HMB.out.lt
      have hz : Below w6.heap.size w6 (w6.alloc (.cells #[.int .i64 m.kind, .string m.name, .string m.txt, .int .i64 m.wt] 57)) := (Below.refl _ _).alloc (Nat.le_refl _) _
      have HZ6 := Lib.hid hz
      have HOZ := Lib.hid (HO.out.keep hz)
      have HLZ := Lib.hid (rdMi_blk (Blk.new w6 57 #[.int .i64 m.kind, .string m.name, .string m.txt, .int .i64 m.wt]))
      clear hz HO
      go_wp2_with (at_builtin; refine wpList_appMi rfl (.tmp 71) (.tmp 73) _ rfl w4.heap.size Tryz.underlying52 (.slice A8 N c8) _ rfl HOZ.out (some ⟨w6.heap.size, 0, none⟩) 1 1 [m] rfl HLZ.out ?k1 ?k2 (N + 1) ?k3 ?_)
      case k1 => have := HOZ.out.rd2.1.1; have := HN9.out; omega
      case k2 => have := HBA.out.size; have := HZ6.out.size; omega
      case k3 => rw [List.length_append, HOZ.out.rd2.1.1]; rfl
      intro Ax cx w7 ho7 hb7 _
      have HO7 : Hid (OwnMi w7 w4.heap.size (.slice Ax (N + 1) cx) (ms ++ ps.take (i + 1))) := Lib.hid (by rw [HTS.out]; exact ho7)
      have HB7 := Lib.hid ((HBA.out.trans (HZ6.out.mono HBA.out.size)).trans hb7)
      clear ho7 hb7 HOZ HLZ HZ6 HBA x0 x1 x2 x3 xl HMB
      have PNX := P0.out.below HB7.out P0.out.lt
      obtain ⟨y0, y1, y2, y3, y4, y5, nf, nlt⟩ := net_box (h := ⟨D0, r0, s0, D1, r1, s1, D2, r2, s2, D3, r3, s3, D4, r4, s4, D5, r5, s5⟩) PNX
      dsimp only at y0 y1 y2 y3 y4 y5
      clear PNX
      have hrd := HO7.out.rd2.1
      go_wp2_with fail
      clear y0 y1 y2 y3 y4 y5 nf nlt
      refine (orank_any ⟨D0, r0, s0, D1, r1, s1, D2, r2, s2, D3, r3, s3, D4, r4, s4, D5, r5, s5⟩ x h8 Ax (N + 1) cx (ms ++ ps.take (i + 1)) w7 (HX.out.up HB7.out) hrd (HZT.out (i + 1)) (by have := HN9.out; omega) (HT.out.up HB7.out)).mono ?_
      rintro e w8 ⟨rfl, hb8⟩
      rw [rankA_eq HC2.out]
      have HB8 := Lib.hid (HB7.out.trans (hb8.mono HB7.out.size))
      replace HO7 := Lib.hid (HO7.out.keep hb8)
      clear hb8 hrd HB7
      have hHH := hasInt_any A9 ni c9 (natJ idx) (i : Int) w8 ((HI.out.below HB8.out (Nat.le_refl _)).more HB8.out.size) (by have := HIL.out; omega)
      rw [any_eq] at hHH
      have HH := Lib.hid hHH
      clear hHH
      generalize rankR (rowsR x (ms ++ ps.take i)) = ra at *
      generalize rankR (rowsR x (ms ++ ps.take (i + 1))) = rb at *
      have hk64 : k' ≤ 5 := HK5.out
      have hlt2 : i < k' := HLT.out
      have hk44 : k ≤ 4 := HK4.out
      by_cases hq : ra < rb
      ·have hin := hmem.2 hq
       rw [decide_eq_true hin] at HH
       have hqI : (ra : Int) < (rb : Int) := by omega
       clear hin hmem
       go_wp2_with fail
       refine HH.out.mono ?_
       rintro e w9 ⟨rfl, rfl⟩
       go_wp2_with fail
       go_roundw
       case rel => exact ⟨i + 1, cx, N + 1, Ax, HLT.out, val_int HNX.out, rfl, by have := HN.out; omega, HO7.out, HB8.out⟩
       case measure => exact HNM.out
      ·have hin : ¬ i ∈ idx := fun h => hq (hmem.1 h)
       rw [decide_eq_false hin] at HH
       have hqI : ¬ (ra : Int) < (rb : Int) := by omega
       clear hin hmem
       go_wp2_with fail
       refine HH.out.mono ?_
       rintro e w9 ⟨rfl, rfl⟩
       go_wp2_with fail
       go_roundw
       case rel => exact ⟨i + 1, cx, N + 1, Ax, HLT.out, val_int HNX.out, rfl, by have := HN.out; omega, HO7.out, HB8.out⟩
       case measure => exact HNM.out
     ·have hke : i = k' := by omega
      subst hke
      have hkI : ¬ (i : Int) < (i : Int) := by omega
      go_wp2_with fail
      go_ret
      exact ⟨rfl, HB4.out.trans (HB.out.mono HB4.out.size)⟩
end
end Go.Proofs.YtakllkkmofdpaaaGreatDoor
