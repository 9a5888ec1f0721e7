import Derived.Test.YtakllkkmofdpaaaGreatDoorU39
set_option linter.unusedVariables false
set_option linter.unusedSimpArgs false
namespace Go.Proofs.YtakllkkmofdpaaaGreatDoor
section
open Go.ChangeShapes Go.WideShapes Go.ChangeAt Go.RowKit
attribute [local go_sem ↓] execOp_call_val
attribute [local go_sem] callVal_func setCell_drewN alloc_drewN sEq_walk
def CritP (x : Net) (ms : List Mi) (w : World) (e : Ending) (w' : World) : Prop := Below w.heap.size w w' ∧ ((mtCk x ms ≠ 0 ∧ e = .returned (.tuple #[.slice none 0 0, .int .i64 (mtCk x ms)])) ∨ (mtCk x ms = 0 ∧ ∃ A c, e = .returned (.tuple #[.slice A (critR (rowsR x ms)).length c, .int .i64 0]) ∧ RdI w' w'.heap.size A (critR (rowsR x ms)).length (natJ (critR (rowsR x ms)))))
def critK (M : List (List Rat)) (k : Nat) : List Nat := (List.range k).filter fun k => decide (rankR (cutAtK M k) < rankR M)
theorem critK_len (M : List (List Rat)) (k : Nat) : (critK M k).length ≤ k := by
 unfold critK
 exact Nat.le_trans (List.length_filter_le _ _) (by rw [List.length_range]; exact Nat.le_refl _)
theorem critK_yes {M : List (List Rat)} {k : Nat} (h : rankR (cutAtK M k) < rankR M) : critK M (k + 1) = critK M k ++ [k] := by
 unfold critK; rw [critR_snoc, if_pos h]
theorem critK_no {M : List (List Rat)} {k : Nat} (h : ¬ rankR (cutAtK M k) < rankR M) : critK M (k + 1) = critK M k := by
 unfold critK; rw [critR_snoc, if_neg h, List.append_nil]
set_option maxRecDepth 100000 in
set_option maxHeartbeats 4000000 in
theorem crit_any (h : NetH) (x : Net) (h8 : x.nodes.length ≤ 8) (A : Option Addr) (n c : Nat) (ms : List Mi) (w : World) (r : RdNet w w.heap.size h x) (hm : RdMi w w.heap.size A n ms) (hz : ∀ m ∈ ms, m.txt.size ≤ maxLen) (hn : n ≤ 9223372036854775807) (ht : TabOk w) :
    Calls Tryz.prog 27 #[.agg h.cells, .slice A n c] w (CritP x ms w) := by
 have K0 : Below w.heap.size w (w.alloc (.cells h.cells 33)) := (Below.refl _ _).alloc (Nat.le_refl _) _
 have HK := Lib.hid K0
 have P0 := Lib.hid (Blk.new w 33 h.cells)
 have HX := Lib.hid (r.up K0)
 have HM := Lib.hid ((hm.below K0 (Nat.le_refl _)).more K0.size)
 have HML : Hid (ms.length = n) := Lib.hid hm.1
 have HSZ : Hid (w.heap.size ≤ (w.alloc (.cells h.cells 33)).heap.size) := Lib.hid K0.size
 have HCK := Lib.hid (mcheck_any h x A n c ms (w.alloc (.cells h.cells 33)) HX.out HM.out hz hn (ht.up K0))
 have HCP : Hid (∀ e w', CritP x ms w e w' ↔ (Below w.heap.size w w' ∧ ((mtCk x ms ≠ 0 ∧ e = .returned (.tuple #[.slice none 0 0, .int .i64 (mtCk x ms)])) ∨ (mtCk x ms = 0 ∧ ∃ A c, e = .returned (.tuple #[.slice A (critR (rowsR x ms)).length c, .int .i64 0]) ∧ RdI w' w'.heap.size A (critR (rowsR x ms)).length (natJ (critR (rowsR x ms))))))) := Lib.hid fun e w' => Iff.rfl
 have HMO : Hid (mtCk x ms = 0 → NetOk x ∧ ms.length ≤ 64 ∧ ∀ m ∈ ms, MiOk x m) := Lib.hid mtCk_ok
 generalize mtCk x ms = ck at *
 clear K0 hm r hz ht
 obtain ⟨D0, r0, s0, D1, r1, s1, D2, r2, s2, D3, r3, s3, D4, r4, s4, D5, r5, s5⟩ := h
 obtain ⟨y0, y1, y2, y3, y4, y5, nf, nlt⟩ := net_box (h := ⟨D0, r0, s0, D1, r1, s1, D2, r2, s2, D3, r3, s3, D4, r4, s4, D5, r5, s5⟩) P0.out
 dsimp only at y0 y1 y2 y3 y4 y5
 go_enter Tryz.func27, Tryz.ntmps27
 go_wp2_with fail
 generalize w.alloc (.cells (NetH.cells ⟨D0, r0, s0, D1, r1, s1, D2, r2, s2, D3, r3, s3, D4, r4, s4, D5, r5, s5⟩) 33) = W at *
 refine HCK.out.mono ?_
 rintro e w1 ⟨rfl, hb1⟩
 have HB1 := Lib.hid hb1
 clear hb1 y0 y1 y2 y3 y4 y5 nf nlt HCK
 by_cases hck : ck = 0
 ·subst hck
  obtain ⟨ok, hl, hmi⟩ := HMO.out rfl
  have HOK := Lib.hid ok
  have HL := Lib.hid hl
  have HMI := Lib.hid hmi
  clear ok hl hmi HMO
  have P1 := P0.out.below HB1.out P0.out.lt
  obtain ⟨y0, y1, y2, y3, y4, y5, nf, nlt⟩ := net_box (h := ⟨D0, r0, s0, D1, r1, s1, D2, r2, s2, D3, r3, s3, D4, r4, s4, D5, r5, s5⟩) P1
  dsimp only at y0 y1 y2 y3 y4 y5
  clear P1
  go_upto_region 4 with fail
  have HB4 := Lib.hid (below_drew (Below.refl w1.heap.size w1))
  have HM1 := Lib.hid ((HM.out.below HB1.out (Nat.le_refl _)).more HB1.out.size)
  have HX1 := Lib.hid (HX.out.up HB1.out)
  refine wp_region_last (S := fun w' => Below w1.heap.size w1 w') 5 _ (by kernel_rfl) (by kernel_rfl) rfl (below_drew (Below.refl _ _)) (fun hHeld => ?_)
  simp only [List.take_succ_cons, List.take_zero]
  refine tkH 0 rfl (by intro w' _ hcc; go_simp <;> with_reducible rfl) hHeld ?_
  try simp only [Act.put, sA_, sB_, sC_]
  refine tkH 1 rfl (by intro w' _ hcc; go_simp <;> with_reducible rfl) hHeld ?_
  try simp only [Act.put, sA_, sB_, sC_]
  refine tkH 3 rfl (by intro w' _ hcc; go_simp <;> with_reducible rfl) hHeld ?_
  try simp only [Act.put, sA_, sB_, sC_]
  refine stepH 2 (by kernel_rfl) rfl (fun K hK => ?_)
  go_simp
  refine (flowOf_any ⟨D0, r0, s0, D1, r1, s1, D2, r2, s2, D3, r3, s3, D4, r4, s4, D5, r5, s5⟩ x HOK.out h8 w1.drew (HX1.out.up HB4.out)).mono ?_
  rintro e w2 ⟨hb2, g, m, A7, n7, c7, rfl, hg, hblk, hrd, -⟩
  have HB2 : Hid (Below w1.heap.size w1 w2) := Lib.hid (HB4.out.trans (hb2.mono HB4.out.size))
  have HG := Lib.hid hblk
  have HR := Lib.hid hrd
  clear hb2 hg hblk hrd
  go_simp
  refine hK.out _ _ ?_ (fun hHeld => ?_)
  ·exact HB2.out
  clear hK K
  try simp only [Act.put, sA_, sB_, sC_]
  refine stepH 4 (by kernel_rfl) rfl (fun K hK => ?_)
  go_simp
  refine (orows_any ⟨D0, r0, s0, D1, r1, s1, D2, r2, s2, D3, r3, s3, D4, r4, s4, D5, r5, s5⟩ x HOK.out h8 g m _ A n c ms w2 (HX1.out.up HB2.out) HG.out HR.out ((HM1.out.below HB2.out (Nat.le_refl _)).more HB2.out.size) (by have := HL.out; have := HML.out; omega) HMI.out).mono ?_
  rintro e w8 ⟨hb8, A8, c8, rfl, hrm, hc1, hc2⟩
  have HB8 : Hid (Below w1.heap.size w1 w8) := Lib.hid (HB2.out.trans (hb8.mono HB2.out.size))
  have HRM := Lib.hid hrm
  have HC1 := Lib.hid hc1
  have HC2 := Lib.hid hc2
  clear hb8 hrm hc1 hc2
  go_simp
  refine hK.out _ _ ?_ (fun hHeld => ?_)
  ·exact HB8.out
  clear hK K
  try simp only [Act.put, sA_, sB_, sC_]
  refine wpAnyH_done (by kernel_rfl) ?_ _
  refine lastQ_go (by rfl) ?_
  clear hHeld
  clear y0 y1 y2 y3 y4 y5 nf nlt HG HR HB4 HM1 HX1 HM HX
  have HRK := Lib.hid (rk_ok HOK.out h8 HL.out HMI.out)
  have HCR : Hid (critR (rowsR x ms) = critK (rowsR x ms) ms.length) := Lib.hid (by unfold critR critK rowsR; rw [List.length_map])
  have HRL : Hid ((rowsR x ms).length = ms.length) := Lib.hid (by unfold rowsR; rw [List.length_map])
  generalize rowsR x ms = M at *
  generalize ms.length = q at *
  go_wp2_with fail
  refine (rank_m A8 q c8 _ _ _ w8 HRM.out HRK.out).mono ?_
  rintro e w9 ⟨rfl, hb9⟩
  have HB9 : Hid (Below w1.heap.size w1 w9) := Lib.hid (HB8.out.trans (hb9.mono HB8.out.size))
  replace HRM := Lib.hid (HRM.out.up hb9)
  clear hb9 HB8
  have HI0 := Lib.hid (info_parts infoIn)
  obtain ⟨i0, hi0, hz0, hz1, hz2⟩ := HI0.out
  clear HI0
  have HI0 := Lib.hid hi0
  have HI1 := Lib.hid hz0
  have HI2 := Lib.hid hz1
  have HI3 := Lib.hid hz2
  clear hi0 hz0 hz1 hz2
  obtain ⟨rk0, hrk0⟩ : ∃ rk0, rankR M = rk0 := ⟨_, rfl⟩
  have HRK0 := Lib.hid hrk0
  rw [hrk0]
  clear hrk0
  go_wp2_with fail
  go_loopw [9, 27] (fun v9 v27 wr => ∃ k : Nat, k ≤ q ∧ v27 = .int .i64 k ∧ OwnS IsI wr w9.heap.size 3 1 v9 (critK M k).length (natI (critK M k)) ∧ Below w9.heap.size w9 wr) (fun _ v27 _ => q - (intOf v27).toNat)
  case atStart => exact ⟨0, by omega, rfl, ownS_none _ _ _ _ _, Below.refl _ _⟩
  case round =>
   obtain ⟨k, hk, rfl, ho, hb⟩ := hrel
   have HO := Lib.hid ho
   have HB := Lib.hid hb
   clear ho hb
   by_cases hlt : k < q
   ·have hRM := HRM.out.below HB.out (Nat.le_refl _)
    obtain ⟨ab, ao, hA8, -⟩ := hRM.form (by omega)
    subst hA8
    have hRM2 := hRM.more HB.out.size
    obtain ⟨hs, hsl, hrd, hds⟩ := hRM2.hds
    have HSL := Lib.hid hsl
    have HRD := Lib.hid hrd
    have HDS := Lib.hid hds
    clear hRM hRM2 hsl hrd hds
    obtain ⟨q1, hq1⟩ : ∃ q1, k + 1 + q1 = q := ⟨q - (k + 1), by omega⟩
    have HQ1 := Lib.hid hq1
    have hkI : (k : Int) < (q : Int) := by omega
    have hk0 : (0 : Int) ≤ (k : Int) := by omega
    have hkc : (k : Int) ≤ (c8 : Int) := by have := HC1.out; omega
    have hk1 : (k : Int) + 1 ≤ (q : Int) := by omega
    have hk2 : (0 : Int) ≤ (k : Int) + 1 := by omega
    have hkw : IntKind.i64.wrap ((k : Int) + 1) = (k : Int) + 1 := wrap_i64 (by omega) (by have := HL.out; omega)
    have hkn1 : ((k : Int) + 1).toNat = k + 1 := by omega
    have hkn : (k : Int).toNat = k := Int.toNat_natCast k
    have hqc : (q : Int) ≤ (c8 : Int) := by have := HC1.out; omega
    have HQC : Hid (q ≤ c8) := Lib.hid HC1.out
    have HB10 := Lib.hid (below_drew (Below.refl wr.heap.size wr))
    clear hq1
    go_upto_region 10 with fail
    refine wp_region_last (S := fun w' => Below wr.heap.size wr w') 9 _ (by kernel_rfl) (by kernel_rfl) rfl (below_drew (Below.refl _ _)) (fun hHeld => ?_)
    simp only [List.take_succ_cons, List.take_zero]
    refine tkH 0 rfl (by intro w' _ hcc; go_simp <;> with_reducible rfl) hHeld ?_
    try simp only [Act.put, sA_, sB_, sC_]
    refine tkH 1 rfl (by intro w' _ hcc; go_simp <;> with_reducible rfl) hHeld ?_
    try simp only [Act.put, sA_, sB_, sC_]
    refine tkH 2 rfl (by intro w' _ hcc; go_simp <;> with_reducible rfl) hHeld ?_
    try simp only [Act.put, sA_, sB_, sC_]
    refine tkH 4 rfl (by intro w' _ hcc; go_simp <;> with_reducible rfl) hHeld ?_
    try simp only [Act.put, sA_, sB_, sC_]
    refine tkH 5 rfl (by intro w' _ hcc; go_simp <;> with_reducible rfl) hHeld ?_
    try simp only [Act.put, sA_, sB_, sC_]
    refine tkH 6 rfl (by intro w' _ hcc; go_simp <;> with_reducible rfl) hHeld ?_
    try simp only [Act.put, sA_, sB_, sC_]
    refine tkH 7 rfl (by intro w' _ hcc; go_simp <;> with_reducible rfl) hHeld ?_
    try simp only [Act.put, sA_, sB_, sC_]
    have HTL := Lib.hid (HRD.out.tail HQC.out (i := k + 1) (by omega))
    generalize (if c8 = k + 1 then (some ⟨ab, ao, none⟩ : Option Addr) else some ⟨ab, ao + (k + 1), none⟩) = A37 at *
    refine stepH 3 (by kernel_rfl) rfl (fun K hK => ?_)
    refine ite_go (by rfl) ?_
    refine wp_appRows (.const (.slice none 0 0)) (.tmp 32) 117 rfl wr.heap.size Tryz.underlying117 (.slice none 0 0) [] rfl (ownS_none _ _ _ _ _) (some ⟨ab, ao, none⟩) k c8 (hs.take k) ?k1 rfl ?k2 ?k3 (Nat.le_refl _) k ?k4 ?_
    case k1 => rw [List.length_take]; have := HSL.out; omega
    case k2 => exact (HRD.out.below HB10.out (Nat.le_refl _)).heads 0 k (by omega)
    case k3 => have := HL.out; simp only [List.length_nil]; omega
    case k4 => rw [List.nil_append, List.length_take]; have := HSL.out; omega
    intro A1 c1 w3 ho3 hb3 _
    have HO3 : Hid (OwnS NoI w3 wr.heap.size 103 1 (.slice A1 k c1) (hs.take k).length ((hs.take k).map Hd.val)) := Lib.hid ho3
    have HB3 : Hid (Below wr.heap.size wr w3) := Lib.hid (HB10.out.trans hb3)
    clear ho3 hb3
    refine hK.out _ _ ?_ (fun hHeld => ?_)
    ·exact HB3.out
    clear hK K
    try simp only [Act.put, sA_, sB_, sC_]
    refine stepH 8 (by kernel_rfl) rfl (fun K hK => ?_)
    refine ite_go (by rfl) ?_
    refine wp_appRows (.tmp 33) (.tmp 37) 117 rfl wr.heap.size Tryz.underlying117 (.slice A1 k c1) (hs.take k) rfl HO3.out A37 (q - (k + 1)) (c8 - (k + 1)) (hs.drop (k + 1)) ?k1 rfl ?k2 ?k3 HB3.out.size (k + q1) ?k4 ?_
    case k1 => rw [List.length_drop]; have := HSL.out; omega
    case k2 => exact (HTL.out.below HB3.out (Nat.le_refl _)).more HB3.out.size
    case k3 => rw [List.length_take]; have := HSL.out; have := HL.out; omega
    case k4 => rw [List.length_append, List.length_take, List.length_drop]; have := HSL.out; have := HQ1.out; omega
    intro A2 c2 w4 ho4 hb4 _
    have HB4b : Hid (Below wr.heap.size wr w4) := Lib.hid (HB3.out.trans hb4)
    have HM4 := Lib.hid (((HDS.out.up HB4b.out).cut k).rdM2 (Below.refl _ _) ho4).1
    clear ho4 hb4 HO3
    refine hK.out _ _ ?_ (fun hHeld => ?_)
    ·exact HB4b.out
    clear hK K
    try simp only [Act.put, sA_, sB_, sC_]
    refine wpAnyH_done (by kernel_rfl) ?_ _
    refine lastQ_go (by rfl) ?_
    have hq64 : q ≤ 64 := HL.out
    clear hHeld HTL HSL HRD HDS HQC HQ1 HB3 hqc hkI hk0 hkc hk1 hk2 hkw hkn1 hkn
    have HNX : Hid ((k : Int) + 1 = ((k + 1 : Nat) : Int)) := Lib.hid (by omega)
    have HNM : Hid (q - (k + 1) < q - k) := Lib.hid (by omega)
    have HBX := Lib.hid (HB.out.trans (HB4b.out.mono HB.out.size))
    have HOX := Lib.hid (HO.out.keep HB4b.out)
    go_wp2_with fail
    refine (rank_m A2 (k + q1) c2 _ _ _ w4 HM4.out (cut_ok HRK.out k)).mono ?_
    rintro e w5 ⟨rfl, hb5⟩
    replace HBX := Lib.hid (HBX.out.trans (hb5.mono HBX.out.size))
    replace HOX := Lib.hid (HOX.out.keep hb5)
    clear hb5 HM4 HB4b HO HB HB10
    by_cases hr : rankR (cutAtK M k) < rankR M
    ·have HC := Lib.hid (critK_yes hr)
     rw [HRK0.out] at hr
     generalize rankR (cutAtK M k) = r5 at *
     have hrI : (r5 : Int) < (rk0 : Int) := by omega
     have HGL : Hid (w9.heap.size ≤ w5.heap.size) := Lib.hid HBX.out.size
     have HLN := Lib.hid (critK_len M k)
     have HKQ := Lib.hid hlt
     go_upto_region 12 with fail
     clear hrI hr
     go_wp2_with (at_builtin; refine wpList_appS (S := IsI) rfl (.tmp 43) (.tmp 45) _ rfl w9.heap.size 3 i0 _ 1 8 Tryz.underlying53 HI0.out HI1.out HI2.out HI3.out rfl (by omega) zi_I u9 _ (natI (critK M k)) rfl HOX.out rfl rfl ?k1 ?k2 ?k3 HGL.out ?_)
     case k1 => simp [Value.oneCell', IsI]
     case k2 => simp only [maxLen]; have := HLN.out; have := HL.out; have := HKQ.out; omega
     case k3 => have := HLN.out; have := HL.out; have := HKQ.out; omega
     intro v' w7 hown hk7 _
     have HO7 : Hid (OwnS IsI w7 w9.heap.size 3 1 v' (critK M (k + 1)).length (natI (critK M (k + 1)))) := Lib.hid (by rw [HC.out, List.length_append, List.length_singleton]; unfold natI at *; rw [List.map_append]; exact hown)
     have HB7 : Hid (Below w9.heap.size w9 w7) := Lib.hid ((HBX.out.trans (((Below.refl _ w5).alloc (Nat.le_refl _) _).mono HBX.out.size)).trans hk7.low)
     clear hown hk7 HOX HBX HC HGL HLN
     go_wp2_with fail
     go_roundw
     case rel => exact ⟨k + 1, hlt, val_int HNX.out, HO7.out, HB7.out⟩
     case measure => exact HNM.out
    ·have HC := Lib.hid (critK_no hr)
     rw [HRK0.out] at hr
     generalize rankR (cutAtK M k) = r5 at *
     have hrI : ¬ (r5 : Int) < (rk0 : Int) := by omega
     go_wp2_with fail
     go_roundw
     case rel => exact ⟨k + 1, hlt, val_int HNX.out, by rw [HC.out]; exact HOX.out, HBX.out⟩
     case measure => exact HNM.out
   ·have hke : k = q := by omega
    subst hke
    have hkI : ¬ (k : Int) < (k : Int) := by omega
    obtain ⟨A9, c9, hv, hrd, h1, h2, h3⟩ := own_rd HO.out.own
    subst hv
    have HRD := Lib.hid hrd
    clear hrd
    go_wp2_with fail
    go_ret2
    rw [HCP.out]
    refine ⟨HK.out.trans ((HB1.out.trans ((HB9.out.trans (HB.out.mono HB9.out.size)).mono HB1.out.size)).mono HSZ.out), .inr ⟨by trivial, A9, c9, by rw [HCR.out]; rfl, ?_⟩⟩
    rw [HCR.out]
    have h := HRD.out
    unfold RdI ints natJ
    unfold natI at h
    rw [List.map_map]
    exact h
 ·have hckB : (ck != 0) = true := by simp [hck]
  go_wp2_with fail
  go_ret2
  rw [HCP.out]
  exact ⟨HK.out.trans (HB1.out.mono HSZ.out), .inl ⟨hck, rfl⟩⟩
end
section
open Go.ChangeShapes Go.WideShapes Go.ChangeAt Go.RowKit
theorem rowsR_wid {x : Net} {ms : List Mi} (h : mtCk x ms = 0) : Wid (freeL x).length (rowsR x ms) := by
 obtain ⟨ok, _, hm⟩ := mtCk_ok h
 exact (rowsR_ok ok hm).1
end
section
open Go.ChangeShapes Go.WideShapes Go.ChangeAt Go.RowKit
def twoF (n a b : Nat) : List Rat := ((zrs n).set a 1).set b (-1)
def sameQ (x : Net) (M : List (List Rat)) (a b : Nat) : Bool := decide ((islR x).getD a 0 = (islR x).getD b 0) && decide (rankR (M ++ [rowR x (twoF (busN x) a b)]) = rankR M)
def areaR (x : Net) (M : List (List Rat)) : List Nat := (arR (sameQ x M) (busN x)).1
end
section
open Go.ChangeShapes Go.WideShapes Go.ChangeAt Go.RowKit
attribute [local go_sem ↓] execOp_call_val
attribute [local go_sem] callVal_func setCell_drewN alloc_drewN sEq_walk
section
variable {w w' : World} {gc : Nat} {vs : List Rv} {q : List Rat}
end
theorem cf_made {w : World} {gc n : Nat} {v : Rv} (hc : Blk w gc 93 (rvs (List.replicate n v)).toArray) (hv : RtV w w.heap.size 0 v) : Cf w gc (List.replicate n v) (zrs n) := by
 refine ⟨⟨_, hc, ?_⟩, by simp [zrs], fun i p x hp hx => ?_⟩
 ·have hl : (rvs (List.replicate n v)).length = n * 4 := (rvs_len _).trans (by rw [List.length_replicate])
  rw [zrs, List.length_replicate]
  exact List.take_of_length_le (Nat.le_of_eq hl)
 ·unfold zrs at hp
  rw [List.getElem?_replicate] at hp hx
  split at hp
  ·rename_i h
   rw [if_pos h] at hx
   rw [← Option.some.inj hp, ← Option.some.inj hx]
   exact hv
  ·cases hp
theorem RkOk.snoc {M : List (List Rat)} {N b : Nat} (h : RkOk M N b) {q : List Rat} (hl : q.length = N) (hq : ∀ p ∈ q, qsz p + 1 ≤ b) (hm : M.length < 1000000) : RkOk (M ++ [q]) N b := by
 refine ⟨fun a ha => ?_, fun a ha => ?_, h.sz, by rw [List.length_append, List.length_singleton]; omega, h.n⟩
 ·rcases List.mem_append.1 ha with h1 | h1
  ·exact h.wid a h1
  ·rw [List.mem_singleton.1 h1]; exact hl
 ·rcases List.mem_append.1 ha with h1 | h1
  ·exact h.bd a h1
  ·rw [List.mem_singleton.1 h1]; exact hq
theorem twoF_sz {x : Net} {a b : Nat} : ∀ p ∈ rowR x (twoF (busN x) a b), qsz p + 1 ≤ 301 := fun p hp => by
 unfold rowR at hp
 obtain ⟨j, hj, rfl⟩ := List.mem_map.1 hp
 have hl : (twoF (busN x) a b).length = busN x := by unfold twoF zrs; simp
 have hm := List.mem_of_getElem? (vf_get (l := twoF (busN x) a b) (by rw [hl]; exact freeL_lt hj))
 have h0 : qsz (0 : Rat) ≤ 2 := qsz_whole 0 (by decide) (by decide)
 have h1 : qsz (1 : Rat) ≤ 2 := qsz_whole 1 (by decide) (by decide)
 have h2 : qsz (-1 : Rat) ≤ 2 := qsz_whole (-1) (by decide) (by decide)
 have key : ∀ t ∈ twoF (busN x) a b, t = 0 ∨ t = 1 ∨ t = -1 := fun t ht => by
  unfold twoF at ht
  rcases List.mem_or_eq_of_mem_set ht with e | e
  ·rcases List.mem_or_eq_of_mem_set e with e | e
   ·unfold zrs at e
    exact .inl (List.eq_of_mem_replicate e)
   ·exact .inr (.inl e)
  ·exact .inr (.inr e)
 rcases key _ hm with e | e | e <;> (rw [e]; omega)
set_option maxRecDepth 100000 in
set_option maxHeartbeats 4000000 in
theorem same_any {w : World} {p7 p8 p9 g n c : Nat} {m : ModH} {y : Value} {x : Net} {A : Option Addr} {M : List (List Rat)} (E : SEnv w p7 p8 p9 g m y x A n c M) (ok : NetOk x) (h8 : x.nodes.length ≤ 8) (hk : RkOk M (freeL x).length 301) (hn : n ≤ 64) (a b : Nat) (ha : a < busN x) (hb : b < busN x) :
    Calls Tryz.prog 74 #[.int .i64 (a : Int), .int .i64 (b : Int), .pointer (some ⟨p7, 0, none⟩), .pointer (some ⟨p8, 0, none⟩), .pointer (some ⟨p9, 0, none⟩)] w fun e w' => e = .returned (.bool (sameQ x M a b)) ∧ Below w.heap.size w w' := by
 have HN1 : Hid (busN x = m.n1) := Lib.hid (by rw [← islR_len ok]; exact E.rd.r1.len)
 have HE := Lib.hid E
 have HOK := Lib.hid ok
 have HRK := Lib.hid hk
 have hnb : m.n1 ≤ 8 := by rw [← HN1.out]; exact Nat.le_trans (busN_ok ok).2 h8
 have HNB := Lib.hid hnb
 rw [HN1.out] at ha hb
 have HA := Lib.hid ha
 have HB := Lib.hid hb
 have HS : Hid (sameQ x M a b = (decide ((islR x).getD a 0 = (islR x).getD b 0) && decide (rankR (M ++ [rowR x (twoF (busN x) a b)]) = rankR M))) := Lib.hid rfl
 generalize sameQ x M a b = sm at *
 have z7 := E.b7.cell 0
 have z7l := E.b7.lt
 clear E ok hk hnb ha hb
 obtain ⟨A0, n0, c0, A1, n1, c1, A2, n2, c2, A3, n3, c3, A4, n4, c4, A5, n5, c5, A6, n6, c6⟩ := m
 simp only at HN1 HNB HA HB
 go_enter Tryz.func74, Tryz.ntmps74
 go_wp2_with fail
 refine (mbuses_any g ⟨A0, n0, c0, A1, n1, c1, A2, n2, c2, A3, n3, c3, A4, n4, c4, A5, n5, c5, A6, n6, c6⟩ y w HE.out.md).mono ?_
 rintro e w1 ⟨rfl, rfl⟩
 go_wp2_with fail
 refine (zeros_any n1 w (by have := HNB.out; omega)).mono ?_
 rintro e w1 ⟨hb1, gc, v, rfl, hgc, hbc, hv⟩
 have HC1 := Lib.hid (cf_made (n := n1) hbc hv)
 have HB1 := Lib.hid hb1
 have HGC : Hid (w.heap.size ≤ gc ∧ gc < w1.heap.size) := Lib.hid ⟨hgc, hbc.lt⟩
 clear hb1 hgc hbc hv z7 z7l
 go_upto_region 2 with fail
 have hz : Below w1.heap.size w1 (w1.alloc (.cells #[.slice (some ⟨gc, 0, none⟩) n1 n1, .bool false, .slice none 0 0, .bool false, .slice none 0 0] 128)) := (Below.refl _ _).alloc (Nat.le_refl _) _
 have HC2 := Lib.hid (HC1.out.up hz)
 have HF2 := Lib.hid (Blk.new w1 128 #[.slice (some ⟨gc, 0, none⟩) n1 n1, .bool false, .slice none 0 0, .bool false, .slice none 0 0])
 have HB2 := Lib.hid (HB1.out.trans (hz.mono HB1.out.size))
 have HG2 : Hid (gc ≠ w1.heap.size ∧ w.heap.size ≤ w1.heap.size) := Lib.hid ⟨by have := HGC.out; omega, HB1.out.size⟩
 clear hz HC1 HB1
 generalize hw2 : w1.alloc (.cells #[.slice (some ⟨gc, 0, none⟩) n1 n1, .bool false, .slice none 0 0, .bool false, .slice none 0 0] 128) = w2 at *
 clear hw2
 generalize w1.heap.size = gf at *
 have HZL : Hid ((zrs n1).length = n1) := Lib.hid (by simp [zrs])
 have haI : (a : Int) < (n1 : Int) := by have := HA.out; omega
 have ha0 : (0 : Int) ≤ (a : Int) := by omega
 have han : (a : Int).toNat = a := Int.toNat_natCast a
 have hbI : (b : Int) < (n1 : Int) := by have := HB.out; omega
 have hb0 : (0 : Int) ≤ (b : Int) := by omega
 have hbn : (b : Int).toNat = b := Int.toNat_natCast b
 refine wp_region_last (S := fun w' => Below w.heap.size w w' ∧ Blk w' gf 128 #[.slice (some ⟨gc, 0, none⟩) n1 n1, .bool false, .slice none 0 0, .bool false, .slice none 0 0]) 11 _ (by kernel_rfl) (by kernel_rfl) rfl ⟨below_drew HB2.out, HF2.out.drew⟩ (fun hHeld => ?_)
 simp only [List.take_succ_cons, List.take_zero]
 refine takeH 0 (v := ?_) rfl (by kernel_rfl) (fun _ _ _ h => h) (by rfl) ?_ hHeld ?_
 rotate_left 1
 ·intro w' hSw; obtain ⟨-, hsb⟩ := hSw; have hs0 := hsb.cell 0; have hsl := hsb.lt; clear hsb; go_simp <;> with_reducible rfl
 try simp only [Act.put, sA_, sB_, sC_]
 refine takeH 1 (v := ?_) rfl (by kernel_rfl) (fun _ _ _ h => h) (by rfl) ?_ hHeld ?_
 rotate_left 1
 ·intro w' hSw; obtain ⟨-, hsb⟩ := hSw; have hs0 := hsb.cell 0; have hsl := hsb.lt; clear hsb; go_simp <;> with_reducible rfl
 try simp only [Act.put, sA_, sB_, sC_]
 refine takeH 2 (v := ?_) rfl (by kernel_rfl) (fun _ _ _ h => h) (by rfl) ?_ hHeld ?_
 rotate_left 1
 ·intro w' hSw; obtain ⟨-, hsb⟩ := hSw; have hs0 := hsb.cell 0; have hsl := hsb.lt; clear hsb; go_simp <;> with_reducible rfl
 try simp only [Act.put, sA_, sB_, sC_]
 refine takeH 3 (v := ?_) rfl (by kernel_rfl) (fun _ _ _ h => h) (by rfl) ?_ hHeld ?_
 rotate_left 1
 ·intro w' hSw; obtain ⟨-, hsb⟩ := hSw; have hs0 := hsb.cell 0; have hsl := hsb.lt; clear hsb; go_simp <;> with_reducible rfl
 try simp only [Act.put, sA_, sB_, sC_]
 refine takeH 4 (v := ?_) rfl (by kernel_rfl) (fun _ _ _ h => h) (by rfl) ?_ hHeld ?_
 rotate_left 1
 ·intro w' hSw; obtain ⟨-, hsb⟩ := hSw; have hs0 := hsb.cell 0; have hsl := hsb.lt; clear hsb; go_simp <;> with_reducible rfl
 try simp only [Act.put, sA_, sB_, sC_]
 refine takeH 5 (v := ?_) rfl (by kernel_rfl) (fun _ _ _ h => h) (by rfl) ?_ hHeld ?_
 rotate_left 1
 ·intro w' hSw; obtain ⟨-, hsb⟩ := hSw; have hs0 := hsb.cell 0; have hsl := hsb.lt; clear hsb; go_simp <;> with_reducible rfl
 try simp only [Act.put, sA_, sB_, sC_]
 refine stepH 6 (by kernel_rfl) rfl (fun K hK => ?_)
 go_simp
 refine (wholeV 1 w2.drew (by decide) (by decide)).mono ?_
 rintro e w3 ⟨hb3, v3, rfl, h3⟩
 have hz3 : Below w2.heap.size w2 w3 := (below_drew (Below.refl _ _)).trans hb3
 have HC3 := Lib.hid (HC2.out.up hz3)
 have HF3 := Lib.hid (HF2.out.below hz3 HF2.out.lt)
 have HB3 := Lib.hid (HB2.out.trans (hz3.mono HB2.out.size))
 have H3 : Hid (RtV w3 w3.heap.size 1 v3) := Lib.hid h3
 clear hb3 h3 hz3 HC2 HF2 HB2
 go_simp
 refine hK.out _ _ ?_ (fun hHeld => ?_)
 ·exact ⟨HB3.out, HF3.out⟩
 clear hK K
 try simp only [Act.put, sA_, sB_, sC_]
 refine stepH 7 (by kernel_rfl) rfl (fun K hK => ?_)
 go_simp
 refine (wholeV (-1) w3 (by decide) (by decide)).mono ?_
 rintro e w4 ⟨hb4, v4, rfl, h4⟩
 have HC4 := Lib.hid (HC3.out.up hb4)
 have HF4 := Lib.hid (HF3.out.below hb4 HF3.out.lt)
 have HB4 := Lib.hid (HB3.out.trans (hb4.mono HB3.out.size))
 have H4 : Hid (RtV w4 w4.heap.size (-1) v4) := Lib.hid h4
 replace H3 := Lib.hid (H3.out.up hb4)
 clear hb4 h4 HC3 HF3 HB3
 go_simp
 refine hK.out _ _ ?_ (fun hHeld => ?_)
 ·exact ⟨HB4.out, HF4.out⟩
 clear hK K
 try simp only [Act.put, sA_, sB_, sC_]
 refine takeH 8 (v := ?_) rfl (by kernel_rfl) (fun _ _ _ h => h) (by rfl) ?_ hHeld ?_
 rotate_left 1
 ·intro w' hSw; obtain ⟨-, hsb⟩ := hSw; have hs0 := hsb.cell 0; have hsl := hsb.lt; clear hsb; go_simp <;> with_reducible rfl
 try simp only [Act.put, sA_, sB_, sC_]
 refine stepH 9 (by kernel_rfl) rfl (fun K hK => ?_)
 obtain ⟨xe, -, e0, e1, e2, e3, el, ef⟩ := HC4.out.elem (j := a) (by rw [HZL.out]; exact HA.out)
 go_simp
 clear e0 e1 e2 e3 el ef
 have HC5 := Lib.hid (HC4.out.put (j := a) (by rw [HZL.out]; exact HA.out) H3.out)
 have H5 := Lib.hid (HC4.out.keep (j := a) (x := v3) (by rw [HZL.out]; exact HA.out) H4.out)
 have HF5 := Lib.hid (HF4.out.far4 (i := a) v3 (show gf ≠ gc by have := HG2.out; omega))
 have HB5 := Lib.hid (below_putV (i := a) (v := v3) HB4.out HGC.out.1)
 simp only [putV] at HC5 H5 HF5 HB5
 generalize (((w4.setCell ⟨gc, a * 4, none⟩ _).setCell ⟨gc, a * 4 + 1, none⟩ _).setCell ⟨gc, a * 4 + 2, none⟩ _).setCell ⟨gc, a * 4 + 3, none⟩ _ = w5 at *
 clear HC4 HF4 HB4 H3 H4
 refine hK.out _ _ ?_ (fun hHeld => ?_)
 ·exact ⟨HB5.out, HF5.out⟩
 clear hK K
 try simp only [Act.put, sA_, sB_, sC_]
 refine takeH 10 (v := ?_) rfl (by kernel_rfl) (fun _ _ _ h => h) (by rfl) ?_ hHeld ?_
 rotate_left 1
 ·intro w' hSw; obtain ⟨-, hsb⟩ := hSw; have hs0 := hsb.cell 0; have hsl := hsb.lt; clear hsb; go_simp <;> with_reducible rfl
 try simp only [Act.put, sA_, sB_, sC_]
 refine wpAnyH_done (by kernel_rfl) ?_ _
 refine lastQ_go (by rfl) ?_
 clear hHeld
 have HL5 : Hid (b < ((zrs n1).set a 1).length) := Lib.hid (by rw [List.length_set, HZL.out]; exact HB.out)
 obtain ⟨xe, -, e0, e1, e2, e3, el, ef⟩ := HC5.out.elem (j := b) (HL5.out)
 go_upto_region 3 with fail
 clear e0 e1 e2 e3 el ef
 have HC6 := Lib.hid (HC5.out.put (j := b) HL5.out H5.out)
 have HF6 := Lib.hid (HF5.out.far4 (i := b) v4 (show gf ≠ gc by have := HG2.out; omega))
 have HB6 := Lib.hid (below_putV (i := b) (v := v4) HB5.out HGC.out.1)
 simp only [putV] at HC6 HF6 HB6
 generalize (((w5.setCell ⟨gc, b * 4, none⟩ _).setCell ⟨gc, b * 4 + 1, none⟩ _).setCell ⟨gc, b * 4 + 2, none⟩ _).setCell ⟨gc, b * 4 + 3, none⟩ _ = w6 at *
 clear HC5 HF5 HB5 H5 HL5
 have HQ6 : Hid (RdQ w6 w6.heap.size (some ⟨gc, 0, none⟩) n1 (twoF (busN x) a b)) := Lib.hid (by have h := HC6.out.rdq; rw [List.length_set, List.length_set, HZL.out] at h; rw [HN1.out]; exact h)
 clear HC6
 replace HE := Lib.hid (HE.out.up HB6.out)
 obtain ⟨zs, hzs⟩ : ∃ zs, islR x = zs := ⟨_, rfl⟩
 have hr1 := HE.out.rd.r1
 simp only at hr1
 obtain ⟨tb, to2, hA, htb, -⟩ := hr1.2 (by have := HA.out; omega)
 subst hA
 obtain ⟨ia, hia⟩ : ∃ ia, (islR x).getD a 0 = ia := ⟨_, rfl⟩
 obtain ⟨ib, hib⟩ : ∃ ib, (islR x).getD b 0 = ib := ⟨_, rfl⟩
 have fa := hr1.at_ (i := a) (z := ia) (by rw [← hia, List.getD_eq_getElem?_getD, List.getElem?_eq_getElem (by rw [hr1.len]; exact HA.out)]; rfl)
 have fb := hr1.at_ (i := b) (z := ib) (by rw [← hib, List.getD_eq_getElem?_getD, List.getElem?_eq_getElem (by rw [hr1.len]; exact HB.out)]; rfl)
 rw [hia, hib] at HS
 have z7 := HE.out.b7.cell 0
 have z7l := HE.out.b7.lt
 have z8 := HE.out.b8.cell 0
 have z8l := HE.out.b8.lt
 have z9 := HE.out.b9.cell 0
 have z9l := HE.out.b9.lt
 have g1 : w6.cell? ⟨g, 1, none⟩ = some (.slice (some ⟨tb, to2, none⟩) n1 c1) := HE.out.md.cell 1
 have gl := HE.out.md.lt
 have k0 := HF6.out.cell 0
 have k1 := HF6.out.cell 1
 have k2 := HF6.out.cell 2
 have k3 := HF6.out.cell 3
 have k4 := HF6.out.cell 4
 have kl := HF6.out.lt
 clear hzs hr1 hia hib
 have HB7 := Lib.hid (below_drew (Below.refl w6.heap.size w6))
 obtain ⟨hs, hsl, hrd, hds⟩ := HE.out.rm.hds
 have HSL := Lib.hid hsl
 have HRD := Lib.hid hrd
 have HDS := Lib.hid hds
 clear hsl hrd hds
 by_cases hne : ia = ib
 ·subst hne
  refine wp_region_last (S := fun w' => Below w6.heap.size w6 w') 29 _ (by kernel_rfl) (by kernel_rfl) rfl (below_drew (Below.refl _ _)) (fun hHeld => ?_)
  simp only [List.take_succ_cons, List.take_zero]
  refine tkH 0 rfl (by intro w' _ hcc; go_simp <;> with_reducible rfl) hHeld ?_
  try simp only [Act.put, sA_, sB_, sC_]
  refine tkH 1 rfl (by intro w' _ hcc; go_simp <;> with_reducible rfl) hHeld ?_
  try simp only [Act.put, sA_, sB_, sC_]
  refine tkH 2 rfl (by intro w' _ hcc; go_simp <;> with_reducible rfl) hHeld ?_
  try simp only [Act.put, sA_, sB_, sC_]
  refine tkH 3 rfl (by intro w' _ hcc; go_simp <;> with_reducible rfl) hHeld ?_
  try simp only [Act.put, sA_, sB_, sC_]
  refine tkH 4 rfl (by intro w' _ hcc; go_simp <;> with_reducible rfl) hHeld ?_
  try simp only [Act.put, sA_, sB_, sC_]
  refine tkH 5 rfl (by intro w' _ hcc; go_simp <;> with_reducible rfl) hHeld ?_
  try simp only [Act.put, sA_, sB_, sC_]
  refine tkH 6 rfl (by intro w' _ hcc; go_simp <;> with_reducible rfl) hHeld ?_
  try simp only [Act.put, sA_, sB_, sC_]
  refine tkH 7 rfl (by intro w' _ hcc; go_simp <;> with_reducible rfl) hHeld ?_
  try simp only [Act.put, sA_, sB_, sC_]
  refine tkH 8 rfl (by intro w' _ hcc; go_simp <;> with_reducible rfl) hHeld ?_
  try simp only [Act.put, sA_, sB_, sC_]
  refine tkH 9 rfl (by intro w' _ hcc; go_simp <;> with_reducible rfl) hHeld ?_
  try simp only [Act.put, sA_, sB_, sC_]
  refine tkH 10 rfl (by intro w' _ hcc; go_simp <;> with_reducible rfl) hHeld ?_
  try simp only [Act.put, sA_, sB_, sC_]
  refine tkH 11 rfl (by intro w' _ hcc; go_simp <;> with_reducible rfl) hHeld ?_
  try simp only [Act.put, sA_, sB_, sC_]
  refine tkH 12 rfl (by intro w' _ hcc; go_simp <;> with_reducible rfl) hHeld ?_
  try simp only [Act.put, sA_, sB_, sC_]
  refine tkH 13 rfl (by intro w' _ hcc; go_simp <;> with_reducible rfl) hHeld ?_
  try simp only [Act.put, sA_, sB_, sC_]
  refine tkH 14 rfl (by intro w' _ hcc; go_simp <;> with_reducible rfl) hHeld ?_
  try simp only [Act.put, sA_, sB_, sC_]
  refine tkH 15 rfl (by intro w' _ hcc; go_simp <;> with_reducible rfl) hHeld ?_
  try simp only [Act.put, sA_, sB_, sC_]
  refine tkH 16 rfl (by intro w' _ hcc; go_simp <;> with_reducible rfl) hHeld ?_
  try simp only [Act.put, sA_, sB_, sC_]
  refine tkH 17 rfl (by intro w' _ hcc; go_simp <;> with_reducible rfl) hHeld ?_
  try simp only [Act.put, sA_, sB_, sC_]
  refine tkH 18 rfl (by intro w' _ hcc; go_simp <;> with_reducible rfl) hHeld ?_
  try simp only [Act.put, sA_, sB_, sC_]
  refine tkH 20 rfl (by intro w' _ hcc; go_simp <;> with_reducible rfl) hHeld ?_
  try simp only [Act.put, sA_, sB_, sC_]
  refine tkH 21 rfl (by intro w' _ hcc; go_simp <;> with_reducible rfl) hHeld ?_
  try simp only [Act.put, sA_, sB_, sC_]
  refine tkH 26 rfl (by intro w' _ hcc; go_simp <;> with_reducible rfl) hHeld ?_
  try simp only [Act.put, sA_, sB_, sC_]
  refine stepH 19 (by kernel_rfl) rfl (fun K hK => ?_)
  refine ite_go (by rfl) ?_
  refine wp_appRows (.const (.slice none 0 0)) (.tmp 41) 117 rfl w6.heap.size Tryz.underlying117 (.slice none 0 0) [] rfl (ownS_none _ _ _ _ _) A n c hs HSL.out rfl (HRD.out.below HB7.out (Nat.le_refl _)) ?k3 (Nat.le_refl _) n ?k4 ?_
  case k3 => simp only [List.length_nil]; omega
  case k4 => exact HSL.out
  intro Ap cp w7 ho7 hb7 _
  have HO7 : Hid (OwnS NoI w7 w6.heap.size 103 1 (.slice Ap n cp) hs.length (hs.map Hd.val)) := Lib.hid ho7
  have HB7b : Hid (Below w6.heap.size w6 w7) := Lib.hid (HB7.out.trans hb7)
  clear ho7 hb7
  refine hK.out _ _ ?_ (fun hHeld => ?_)
  ·exact HB7b.out
  clear hK K
  try simp only [Act.put, sA_, sB_, sC_]
  refine stepH 22 (by kernel_rfl) rfl (fun K hK => ?_)
  go_simp
  have HE7 := HE.out.up HB7b.out
  refine (orow_any g ⟨A0, n0, c0, some ⟨tb, to2, none⟩, n1, c1, A2, n2, c2, A3, n3, c3, A4, n4, c4, A5, n5, c5, A6, n6, c6⟩ y x HOK.out h8 ⟨false, none, 0, 0, false, none, 0, 0⟩ (some ⟨gc, 0, none⟩) n1 n1 (twoF (busN x) a b) w7 HE7.md HE7.rd (HQ6.out.up HB7b.out) HN1.out.symm).mono ?_
  rintro e w8 ⟨hb8, B8, v8, us, hB8, rfl, hown⟩
  obtain ⟨Ar, cr, hv, -⟩ := hown.rd
  subst hv
  have hrl : (rowR x (twoF (busN x) a b)).length = (freeL x).length := rowR_len
  rw [hrl] at hown ⊢
  have HO8 := Lib.hid (HO7.out.keep hb8)
  have HB8 : Hid (Below w6.heap.size w6 w8) := Lib.hid (HB7b.out.trans (hb8.mono HB7b.out.size))
  have HW8 := Lib.hid hown
  clear hb8 hB8 hown HE7 hrl HO7
  go_simp
  refine hK.out _ _ ?_ (fun hHeld => ?_)
  ·exact HB8.out
  clear hK K
  try simp only [Act.put, sA_, sB_, sC_]
  refine stepH 23 (by kernel_rfl) rfl (fun K hK => ?_)
  go_simp
  have hz9 : Below w8.heap.size w8 (w8.alloc (.cells #[.slice Ar (freeL x).length cr] 103)) := (Below.refl _ _).alloc (Nat.le_refl _) _
  have HO9 := Lib.hid (HO8.out.keep hz9)
  have HW9 := Lib.hid (HW8.out.keep hz9)
  have HB9 := Lib.hid (HB8.out.trans (hz9.mono HB8.out.size))
  have HL9 := Lib.hid (Blk.new w8 103 #[.slice Ar (freeL x).length cr])
  clear hz9 HO8 HW8 HB8
  generalize w8.heap.size = gl9 at *
  generalize w8.alloc (.cells #[.slice Ar (freeL x).length cr] 103) = w9 at *
  refine hK.out _ _ ?_ (fun hHeld => ?_)
  ·exact HB9.out
  clear hK K
  try simp only [Act.put, sA_, sB_, sC_]
  refine stepH 24 (by kernel_rfl) rfl (fun K hK => ?_)
  refine ite_go (by rfl) ?_
  refine wp_appRows (.tmp 42) (.tmp 46) 117 rfl w6.heap.size Tryz.underlying117 (.slice Ap n cp) hs rfl HO9.out (some ⟨gl9, 0, none⟩) 1 1 [⟨Ar, (freeL x).length, cr⟩] rfl rfl ?k2 ?k3 ?k5 (n + 1) ?k4 ?_
  case k2 => exact ⟨rfl, fun _ => ⟨gl9, 0, rfl, HL9.out.lt, fun j u hu => by rw [Nat.zero_add, HL9.out.cell j]; simpa [Hd.val] using hu⟩⟩
  case k3 => have := HSL.out; omega
  case k5 => exact HB9.out.size
  case k4 => rw [List.length_append, HSL.out]; rfl
  intro Ax cx w10 ho10 hb10 hk10
  have HB10 : Hid (Below w6.heap.size w6 w10) := Lib.hid (HB9.out.trans hb10)
  have hw10 := HW9.out.blkS hk10
  obtain ⟨Ay, cy, hv, hq, hc1, hc2, -⟩ := hw10.rd
  injection hv with e1 e2 e3
  subst e1; subst e3
  rw [← e2] at hq hc1
  have hd := (HDS.out.up HB10.out).snoc (z := ⟨Ar, (freeL x).length, cr⟩) ⟨hq, hc1, hc2⟩
  have HM10 := Lib.hid (hd.rdM2 (Below.refl _ _) ho10).1
  clear ho10 hb10 hk10 hw10 hq hc1 hc2 e2 hd HW9 HO9 HL9 HB9
  refine hK.out _ _ ?_ (fun hHeld => ?_)
  ·exact HB10.out
  clear hK K
  try simp only [Act.put, sA_, sB_, sC_]
  refine stepH 25 (by kernel_rfl) rfl (fun K hK => ?_)
  go_simp
  refine (rank_m Ax (n + 1) cx _ _ _ w10 HM10.out (HRK.out.snoc rowR_len twoF_sz (by have := HE.out.rm.len; omega))).mono ?_
  rintro e w11 ⟨rfl, hb11⟩
  have HB11 : Hid (Below w6.heap.size w6 w11) := Lib.hid (HB10.out.trans (hb11.mono HB10.out.size))
  clear hb11
  obtain ⟨r1, hr1⟩ : ∃ r1, rankR (M ++ [rowR x (twoF (busN x) a b)]) = r1 := ⟨_, rfl⟩
  rw [hr1] at HS ⊢
  go_simp
  refine hK.out _ _ ?_ (fun hHeld => ?_)
  ·exact HB11.out
  clear hK K
  try simp only [Act.put, sA_, sB_, sC_]
  refine tkH 27 rfl (by intro w' _ hcc; go_simp <;> with_reducible rfl) hHeld ?_
  try simp only [Act.put, sA_, sB_, sC_]
  refine tkH 28 rfl (by intro w' _ hcc; go_simp <;> with_reducible rfl) hHeld ?_
  try simp only [Act.put, sA_, sB_, sC_]
  refine wpAnyH_done (by kernel_rfl) ?_ _
  refine lastQ_go (by rfl) ?_
  clear hHeld
  generalize hr0 : rankR M = r0 at HS ⊢
  clear hr0 hr1
  by_cases hq : r1 = r0
  ·subst hq
   go_wp2_with fail
   go_ret
   exact ⟨ret_bool (by rw [HS.out]; simp), HB6.out.trans (HB11.out.mono HB6.out.size)⟩
  ·have hqB : ((r1 : Int) == (r0 : Int)) = false := by simp; omega
   go_wp2_with fail
   go_ret
   exact ⟨ret_bool (by rw [HS.out, decide_eq_false hq]; simp), HB6.out.trans (HB11.out.mono HB6.out.size)⟩
 ·have hneB : (ia == ib) = false := by simpa using hne
  refine wp_region_last (S := fun w' => Below w6.heap.size w6 w') 29 _ (by kernel_rfl) (by kernel_rfl) rfl (below_drew (Below.refl _ _)) (fun hHeld => ?_)
  simp only [List.take_succ_cons, List.take_zero]
  refine tkH 0 rfl (by intro w' _ hcc; go_simp <;> with_reducible rfl) hHeld ?_
  try simp only [Act.put, sA_, sB_, sC_]
  refine tkH 1 rfl (by intro w' _ hcc; go_simp <;> with_reducible rfl) hHeld ?_
  try simp only [Act.put, sA_, sB_, sC_]
  refine tkH 2 rfl (by intro w' _ hcc; go_simp <;> with_reducible rfl) hHeld ?_
  try simp only [Act.put, sA_, sB_, sC_]
  refine tkH 3 rfl (by intro w' _ hcc; go_simp <;> with_reducible rfl) hHeld ?_
  try simp only [Act.put, sA_, sB_, sC_]
  refine tkH 4 rfl (by intro w' _ hcc; go_simp <;> with_reducible rfl) hHeld ?_
  try simp only [Act.put, sA_, sB_, sC_]
  refine tkH 5 rfl (by intro w' _ hcc; go_simp <;> with_reducible rfl) hHeld ?_
  try simp only [Act.put, sA_, sB_, sC_]
  refine tkH 6 rfl (by intro w' _ hcc; go_simp <;> with_reducible rfl) hHeld ?_
  try simp only [Act.put, sA_, sB_, sC_]
  refine tkH 7 rfl (by intro w' _ hcc; go_simp <;> with_reducible rfl) hHeld ?_
  try simp only [Act.put, sA_, sB_, sC_]
  refine tkH 8 rfl (by intro w' _ hcc; go_simp <;> with_reducible rfl) hHeld ?_
  try simp only [Act.put, sA_, sB_, sC_]
  refine tkH 9 rfl (by intro w' _ hcc; go_simp <;> with_reducible rfl) hHeld ?_
  try simp only [Act.put, sA_, sB_, sC_]
  refine tkH 10 rfl (by intro w' _ hcc; go_simp <;> with_reducible rfl) hHeld ?_
  try simp only [Act.put, sA_, sB_, sC_]
  refine tkH 11 rfl (by intro w' _ hcc; go_simp <;> with_reducible rfl) hHeld ?_
  try simp only [Act.put, sA_, sB_, sC_]
  refine tkH 12 rfl (by intro w' _ hcc; go_simp <;> with_reducible rfl) hHeld ?_
  try simp only [Act.put, sA_, sB_, sC_]
  refine tkH 13 rfl (by intro w' _ hcc; go_simp <;> with_reducible rfl) hHeld ?_
  try simp only [Act.put, sA_, sB_, sC_]
  refine tkH 14 rfl (by intro w' _ hcc; go_simp <;> with_reducible rfl) hHeld ?_
  try simp only [Act.put, sA_, sB_, sC_]
  refine tkH 15 rfl (by intro w' _ hcc; go_simp <;> with_reducible rfl) hHeld ?_
  try simp only [Act.put, sA_, sB_, sC_]
  refine tkH 16 rfl (by intro w' _ hcc; go_simp <;> with_reducible rfl) hHeld ?_
  try simp only [Act.put, sA_, sB_, sC_]
  refine tkH 17 rfl (by intro w' _ hcc; go_simp <;> with_reducible rfl) hHeld ?_
  try simp only [Act.put, sA_, sB_, sC_]
  refine skipH 18 rfl (by kernel_rfl) (fun _ _ _ h => h) (by rfl) hHeld ?_
  try simp only [Act.put, sA_, sB_, sC_]
  refine skipH 19 rfl (by kernel_rfl) (fun _ _ _ h => h) (by rfl) hHeld ?_
  try simp only [Act.put, sA_, sB_, sC_]
  refine skipH 20 rfl (by kernel_rfl) (fun _ _ _ h => h) (by rfl) hHeld ?_
  try simp only [Act.put, sA_, sB_, sC_]
  refine skipH 21 rfl (by kernel_rfl) (fun _ _ _ h => h) (by rfl) hHeld ?_
  try simp only [Act.put, sA_, sB_, sC_]
  refine skipH 22 rfl (by kernel_rfl) (fun _ _ _ h => h) (by rfl) hHeld ?_
  try simp only [Act.put, sA_, sB_, sC_]
  refine skipH 23 rfl (by kernel_rfl) (fun _ _ _ h => h) (by rfl) hHeld ?_
  try simp only [Act.put, sA_, sB_, sC_]
  refine skipH 24 rfl (by kernel_rfl) (fun _ _ _ h => h) (by rfl) hHeld ?_
  try simp only [Act.put, sA_, sB_, sC_]
  refine skipH 25 rfl (by kernel_rfl) (fun _ _ _ h => h) (by rfl) hHeld ?_
  try simp only [Act.put, sA_, sB_, sC_]
  refine skipH 26 rfl (by kernel_rfl) (fun _ _ _ h => h) (by rfl) hHeld ?_
  try simp only [Act.put, sA_, sB_, sC_]
  refine skipH 27 rfl (by kernel_rfl) (fun _ _ _ h => h) (by rfl) hHeld ?_
  try simp only [Act.put, sA_, sB_, sC_]
  refine tkH 28 rfl (by intro w' _ hcc; go_simp <;> with_reducible rfl) hHeld ?_
  try simp only [Act.put, sA_, sB_, sC_]
  refine wpAnyH_done (by kernel_rfl) ?_ _
  refine lastQ_go (by rfl) ?_
  clear hHeld
  go_wp2_with fail
  go_ret
  exact ⟨ret_bool (by rw [HS.out, decide_eq_false hne]; rfl), below_drew HB6.out⟩
end
section
open Go.ChangeShapes Go.WideShapes Go.ChangeAt Go.RowKit
attribute [local go_sem ↓] execOp_call_val
attribute [local go_sem] callVal_func setCell_drewN alloc_drewN sEq_walk
def AreaP (x : Net) (ms : List Mi) (w : World) (e : Ending) (w' : World) : Prop := Below w.heap.size w w' ∧ ((mtCk x ms ≠ 0 ∧ e = .returned (.tuple #[.slice none 0 0, .int .i64 (mtCk x ms)])) ∨ (mtCk x ms = 0 ∧ ∃ A c, e = .returned (.tuple #[.slice A (busN x) c, .int .i64 0]) ∧ RdI w' w'.heap.size A (busN x) (natJ (areaR x (rowsR x ms)))))
theorem arR_many_old {S : Nat → Nat → Bool} {b a : Nat} (hf : (List.range b).find? (fun a => S a b) = some a) : (arR S (b + 1)).2 = (arR S b).2 := by rw [arR_succ, hf]
theorem arR_many_le (S : Nat → Nat → Bool) (b : Nat) : (arR S b).2 ≤ b := by
 rw [arR_cnt]
 unfold cnt
 exact Nat.le_trans (List.length_filter_le _ _) (by rw [List.length_range]; exact Nat.le_refl _)
theorem find_first {S : Nat → Bool} {b a : Nat} (ha : a < b) (h : ∀ k, k < a → S k = false) (hs : S a = true) : (List.range b).find? S = some a := by
 induction b with
 | zero => omega
 | succ b ih =>
  rw [List.range_succ, List.find?_append]
  by_cases hab : a < b
  ·rw [ih hab]; rfl
  ·have e : a = b := by omega
   subst e
   rw [List.find?_eq_none.2 fun k hk => by rw [h k (List.mem_range.1 hk)]; simp]
   simp [hs]
theorem find_no {S : Nat → Bool} {b : Nat} (h : ∀ k, k < b → S k = false) : (List.range b).find? S = none := by
 rw [List.find?_eq_none]
 intro k hk
 rw [h k (List.mem_range.1 hk)]
 simp
set_option maxRecDepth 100000 in
set_option maxHeartbeats 4000000 in
theorem areas_any (h : NetH) (x : Net) (h8 : x.nodes.length ≤ 8) (A : Option Addr) (n c : Nat) (ms : List Mi) (w : World) (r : RdNet w w.heap.size h x) (hm : RdMi w w.heap.size A n ms) (hz : ∀ m ∈ ms, m.txt.size ≤ maxLen) (hn : n ≤ 9223372036854775807) (ht : TabOk w) :
    Calls Tryz.prog 31 #[.agg h.cells, .slice A n c] w (AreaP x ms w) := by
 have K0 : Below w.heap.size w (w.alloc (.cells h.cells 33)) := (Below.refl _ _).alloc (Nat.le_refl _) _
 have HK := Lib.hid K0
 have P0 := Lib.hid (Blk.new w 33 h.cells)
 have HX := Lib.hid (r.up K0)
 have HM := Lib.hid ((hm.below K0 (Nat.le_refl _)).more K0.size)
 have HML : Hid (ms.length = n) := Lib.hid hm.1
 have HSZ : Hid (w.heap.size ≤ (w.alloc (.cells h.cells 33)).heap.size) := Lib.hid K0.size
 have HCK := Lib.hid (mcheck_any h x A n c ms (w.alloc (.cells h.cells 33)) HX.out HM.out hz hn (ht.up K0))
 have HCP : Hid (∀ e w', AreaP x ms w e w' ↔ (Below w.heap.size w w' ∧ ((mtCk x ms ≠ 0 ∧ e = .returned (.tuple #[.slice none 0 0, .int .i64 (mtCk x ms)])) ∨ (mtCk x ms = 0 ∧ ∃ A c, e = .returned (.tuple #[.slice A (busN x) c, .int .i64 0]) ∧ RdI w' w'.heap.size A (busN x) (natJ (areaR x (rowsR x ms))))))) := Lib.hid fun e w' => Iff.rfl
 have HMO : Hid (mtCk x ms = 0 → NetOk x ∧ ms.length ≤ 64 ∧ ∀ m ∈ ms, MiOk x m) := Lib.hid mtCk_ok
 generalize mtCk x ms = ck at *
 clear K0 hm r hz ht
 obtain ⟨D0, r0, s0, D1, r1, s1, D2, r2, s2, D3, r3, s3, D4, r4, s4, D5, r5, s5⟩ := h
 obtain ⟨y0, y1, y2, y3, y4, y5, nf, nlt⟩ := net_box (h := ⟨D0, r0, s0, D1, r1, s1, D2, r2, s2, D3, r3, s3, D4, r4, s4, D5, r5, s5⟩) P0.out
 dsimp only at y0 y1 y2 y3 y4 y5
 go_enter Tryz.func31, Tryz.ntmps31
 go_wp2_with fail
 generalize w.alloc (.cells (NetH.cells ⟨D0, r0, s0, D1, r1, s1, D2, r2, s2, D3, r3, s3, D4, r4, s4, D5, r5, s5⟩) 33) = W at *
 refine HCK.out.mono ?_
 rintro e w1 ⟨rfl, hb1⟩
 have HB1 := Lib.hid hb1
 clear hb1 y0 y1 y2 y3 y4 y5 nf nlt HCK
 by_cases hck : ck = 0
 ·subst hck
  obtain ⟨ok, hl, hmi⟩ := HMO.out rfl
  have HOK := Lib.hid ok
  have HL := Lib.hid hl
  have HMI := Lib.hid hmi
  clear ok hl hmi HMO
  have P1 := P0.out.below HB1.out P0.out.lt
  obtain ⟨y0, y1, y2, y3, y4, y5, nf, nlt⟩ := net_box (h := ⟨D0, r0, s0, D1, r1, s1, D2, r2, s2, D3, r3, s3, D4, r4, s4, D5, r5, s5⟩) P1
  dsimp only at y0 y1 y2 y3 y4 y5
  clear P1
  go_wp2_with fail
  refine (flowOf_any ⟨D0, r0, s0, D1, r1, s1, D2, r2, s2, D3, r3, s3, D4, r4, s4, D5, r5, s5⟩ x HOK.out h8 w1 (HX.out.up HB1.out)).mono ?_
  rintro e w2 ⟨hb2, g, m, A7, n7, c7, rfl, hg, hblk, hrd, -⟩
  have HB2 := Lib.hid (HB1.out.trans (hb2.mono HB1.out.size))
  have HG := Lib.hid hblk
  have HR := Lib.hid hrd
  clear hb2 hg hblk hrd y0 y1 y2 y3 y4 y5 nf nlt
  have hz3 : Below w2.heap.size w2 (w2.alloc (.cells #[.pointer (some ⟨g, 0, none⟩)] 119)) := (Below.refl _ _).alloc (Nat.le_refl _) _
  have H7 := Lib.hid (Blk.new w2 119 #[.pointer (some ⟨g, 0, none⟩)])
  have HB3 := Lib.hid (HB2.out.trans (hz3.mono HB2.out.size))
  replace HG := Lib.hid (HG.out.below hz3 HG.out.lt)
  replace HR := Lib.hid (HR.out.up hz3)
  clear hz3 HB2
  go_upto_region 5 with fail
  generalize w2.heap.size = p7 at *
  generalize w2.alloc (.cells #[.pointer (some ⟨g, 0, none⟩)] 119) = w3 at *
  have P1 := P0.out.below HB3.out P0.out.lt
  obtain ⟨y0, y1, y2, y3, y4, y5, nf, nlt⟩ := net_box (h := ⟨D0, r0, s0, D1, r1, s1, D2, r2, s2, D3, r3, s3, D4, r4, s4, D5, r5, s5⟩) P1
  dsimp only at y0 y1 y2 y3 y4 y5
  have z7 := H7.out.cell 0
  have z7l := H7.out.lt
  clear P1
  go_wp2_with fail
  refine (orows_any ⟨D0, r0, s0, D1, r1, s1, D2, r2, s2, D3, r3, s3, D4, r4, s4, D5, r5, s5⟩ x HOK.out h8 g m _ A n c ms w3 (HX.out.up HB3.out) HG.out HR.out ((HM.out.below HB3.out (Nat.le_refl _)).more HB3.out.size) (by have := HL.out; have := HML.out; omega) HMI.out).mono ?_
  rintro e w4 ⟨hb4, A8, c8, rfl, hrm, hc1, hc2⟩
  have HRM := Lib.hid hrm
  have HC1 := Lib.hid hc1
  have HC2 := Lib.hid hc2
  have HRK := Lib.hid (rk_ok HOK.out h8 HL.out HMI.out)
  clear hrm hc1 hc2 y0 y1 y2 y3 y4 y5 nf nlt z7 z7l HM HX P0
  generalize rowsR x ms = M at *
  generalize ms.length = q at *
  have hz5 : Below w4.heap.size w4 (w4.alloc (.cells #[.slice A8 q c8] 117)) := (Below.refl _ _).alloc (Nat.le_refl _) _
  have H8 := Lib.hid (Blk.new w4 117 #[.slice A8 q c8])
  have hz6 := hb4.trans (hz5.mono hb4.size)
  have HB5 := Lib.hid (HB3.out.trans (hz6.mono HB3.out.size))
  replace HG := Lib.hid (HG.out.below hz6 HG.out.lt)
  replace HR := Lib.hid (HR.out.up hz6)
  replace H7 := Lib.hid (H7.out.below hz6 H7.out.lt)
  replace HRM := Lib.hid (HRM.out.up hz5)
  clear hz5 hz6 HB3 hb4
  go_upto_region 6 with fail
  generalize w4.heap.size = p8 at *
  generalize w4.alloc (.cells #[.slice A8 q c8] 117) = w5 at *
  have z8 := H8.out.cell 0
  have z8l := H8.out.lt
  go_wp2_with fail
  refine (rank_m A8 q c8 _ _ _ w5 HRM.out HRK.out).mono ?_
  rintro e w6 ⟨rfl, hb6⟩
  clear z8 z8l
  have hz7 : Below w6.heap.size w6 (w6.alloc (.cells #[.int .i64 (rankR M : Int)] 3)) := (Below.refl _ _).alloc (Nat.le_refl _) _
  have H9 := Lib.hid (Blk.new w6 3 #[.int .i64 (rankR M : Int)])
  have hz8 := hb6.trans (hz7.mono hb6.size)
  have HB7 := Lib.hid (HB5.out.trans (hz8.mono HB5.out.size))
  replace HG := Lib.hid (HG.out.below hz8 HG.out.lt)
  replace HR := Lib.hid (HR.out.up hz8)
  replace H7 := Lib.hid (H7.out.below hz8 H7.out.lt)
  replace H8 := Lib.hid (H8.out.below hz8 H8.out.lt)
  replace HRM := Lib.hid (HRM.out.up hz8)
  clear hz7 hz8 HB5 hb6
  go_upto_region 8 with fail
  generalize w6.heap.size = p9 at *
  generalize w6.alloc (.cells #[.int .i64 (rankR M : Int)] 3) = w7 at *
  have HE : Hid (SEnv w7 p7 p8 p9 g m _ x A8 q c8 M) := Lib.hid ⟨H7.out, H8.out, H9.out, HG.out, HR.out, HRM.out⟩
  have HN1 : Hid (busN x = m.n1) := Lib.hid (by rw [← islR_len HOK.out]; exact HR.out.r1.len)
  have HNB : Hid (busN x ≤ 8) := Lib.hid (Nat.le_trans (busN_ok HOK.out).2 h8)
  clear H8 H9 HR HRM
  have z7 := H7.out.cell 0
  have z7l := H7.out.lt
  go_wp2_with fail
  refine (mbuses_any g m _ w7 HG.out).mono ?_
  rintro e w8 ⟨rfl, rfl⟩
  clear z7 z7l H7 HG
  rw [← HN1.out]
  have HAR : Hid (areaR x M = (arR (sameQ x M) (busN x)).1) := Lib.hid rfl
  have HSM : Hid (∀ (wr : World) (a b : Nat), Below w7.heap.size w7 wr → a < busN x → b < busN x → Calls Tryz.prog 74 #[.int .i64 (a : Int), .int .i64 (b : Int), .pointer (some ⟨p7, 0, none⟩), .pointer (some ⟨p8, 0, none⟩), .pointer (some ⟨p9, 0, none⟩)] wr fun e w' => e = .returned (.bool (sameQ x M a b)) ∧ Below wr.heap.size wr w') := Lib.hid fun wr a b hb ha hb' => same_any (HE.out.up hb) HOK.out h8 HRK.out (by have := HL.out; omega) a b ha hb'
  generalize sameQ x M = S at *
  generalize busN x = nb at *
  have hnb8 : nb ≤ 8 := HNB.out
  have hmk : ∀ w : World, (Instr.makeSlice 53 (.int .i64 (nb : Int)) (.int .i64 (nb : Int))).run Tryz.prog w = .ok (.slice (some ⟨w.heap.size, 0, none⟩) nb nb) (w.alloc (.cells (madeCells #[.int .i64 0] nb) 3)) :=
   fun w => run_make_row' (P := Tryz.prog) 53 3 (.int .i64 0) 8 Tryz.underlying53 infoIn rfl .i64 .i64 nb (by omega) (by omega) w
  have hz9 : Below w7.heap.size w7 (w7.alloc (.cells (madeCells #[.int .i64 0] nb) 3)) := (Below.refl _ _).alloc (Nat.le_refl _) _
  have HB9 := Lib.hid hz9
  have HG9 : Hid (Blk (w7.alloc (.cells (madeCells #[.int .i64 0] nb) 3)) w7.heap.size 3 (ints (List.replicate nb 0)).toArray) := Lib.hid (by
   have h := Blk.new w7 3 (madeCells #[.int .i64 0] nb)
   have e : madeCells #[.int .i64 0] nb = (ints (List.replicate nb 0)).toArray := by
    apply Array.ext'
    rw [toList_madeCells_one]
    unfold ints; simp
   rw [e] at h ⊢
   exact h)
  clear hz9
  go_wp2_with fail
  clear hmk
  have HGO : Hid (w.heap.size ≤ w7.heap.size ∧ W.heap.size ≤ w7.heap.size) := Lib.hid ⟨Nat.le_trans HSZ.out HB7.out.size, HB7.out.size⟩
  generalize w7.alloc (.cells (madeCells #[.int .i64 0] nb) 3) = w9 at *
  generalize w7.heap.size = go at *
  go_loopw [12, 35] (fun v12 v35 wr => ∃ (b : Nat) (L : List Int), b ≤ nb ∧ v35 = .int .i64 b ∧ v12 = .int .i64 ((arR S b).2 : Nat) ∧ ArS S nb b L ∧ Blk wr go 3 (ints L).toArray ∧ Below go w7 wr) (fun _ v35 _ => nb - (intOf v35).toNat)
  case atStart => exact ⟨0, _, by omega, rfl, rfl, ArS.start _ _, HG9.out, HB9.out⟩
  case round =>
   obtain ⟨b, L, hb, rfl, rfl, hars, hblk, hbw⟩ := hrel
   have HAS := Lib.hid hars
   have HBL := Lib.hid hblk
   have HBW := Lib.hid hbw
   have HMB := Lib.hid (arR_many_le S b)
   clear hars hblk hbw
   by_cases hlt : b < nb
   ·have HNX : Hid ((b : Int) + 1 = ((b + 1 : Nat) : Int)) := Lib.hid (by omega)
    have HNM : Hid (nb - (b + 1) < nb - b) := Lib.hid (by omega)
    have HLT := Lib.hid hlt
    have hbI : (b : Int) < (nb : Int) := by omega
    have hb0 : (0 : Int) ≤ (b : Int) := by omega
    have hbn : (b : Int).toNat = b := Int.toNat_natCast b
    obtain ⟨x0, hx0⟩ : ∃ x0, L[b]? = some x0 := ⟨_, List.getElem?_eq_getElem (by rw [HAS.out.len]; exact hlt)⟩
    have zc : wr.cell? ⟨go, b, none⟩ = some (.int .i64 x0) := by rw [HBL.out.cell, List.getElem?_toArray]; unfold ints; rw [List.getElem?_map, hx0]; rfl
    have zl := HBL.out.lt
    have zf := HBL.out.frozen
    have HSET : Hid (∀ (W2 : World) (z1 z2 : Int), Blk W2 go 3 (ints (L.set b z1)).toArray → Blk (W2.setCell ⟨go, b, none⟩ (.int .i64 z2)) go 3 (ints (L.set b z2)).toArray) := Lib.hid fun W2 z1 z2 h => by
     have h2 := h.set_ b (.int .i64 z2)
     have e : (ints (L.set b z1)).toArray.setIfInBounds b (.int .i64 z2) = (ints (L.set b z2)).toArray := by
      unfold ints
      rw [List.setIfInBounds_toArray, List.map_set, List.map_set, List.set_set]
     rw [e] at h2
     exact h2
    have HB1 : Hid (Blk (wr.setCell ⟨go, b, none⟩ (.int .i64 (-1))) go 3 (ints (L.set b (-1))).toArray) := Lib.hid (by
     have h2 := HBL.out.set_ b (.int .i64 (-1))
     have e : (ints L).toArray.setIfInBounds b (.int .i64 (-1)) = (ints (L.set b (-1))).toArray := by
      unfold ints
      rw [List.setIfInBounds_toArray, List.map_set]
     rw [e] at h2
     exact h2)
    have HW1 : Hid (Below go w7 (wr.setCell ⟨go, b, none⟩ (.int .i64 (-1)))) := Lib.hid (HBW.out.setCell (Nat.le_refl _) _)
    clear hx0
    go_upto_block 2 with fail
    clear zc zl zf HBL HBW hbI
    generalize wr.setCell ⟨go, b, none⟩ (.int .i64 (-1)) = wa at *
    go_cut [] (fun wc => ∃ z : Int, Blk wc go 3 (ints (L.set b z)).toArray ∧ Below go w7 wc ∧ ((∃ a, (List.range b).find? (fun a => S a b) = some a ∧ z = L.getD a 0) ∨ ((List.range b).find? (fun a => S a b) = none ∧ z = -1)))
    case first =>
     go_wp2_with fail
     go_loopw [42] (fun v42 wr => ∃ a : Nat, a ≤ b ∧ v42 = .int .i64 a ∧ (∀ k, k < a → S k b = false) ∧ Blk wr go 3 (ints (L.set b (-1))).toArray ∧ Below go w7 wr) (fun v42 _ => b - (intOf v42).toNat)
     case atStart => exact ⟨0, by omega, rfl, fun k h => by omega, HB1.out, HW1.out⟩
     case round =>
      clear HB1 HW1
      obtain ⟨a, ha, rfl, hs, hblk, hbw⟩ := hrel
      have HS := Lib.hid hs
      have HB1 := Lib.hid hblk
      have HW1 := Lib.hid hbw
      clear hs hblk hbw
      by_cases hlt2 : a < b
      ·have haI : (a : Int) < (b : Int) := by omega
       have HNY : Hid ((a : Int) + 1 = ((a + 1 : Nat) : Int)) := Lib.hid (by omega)
       have HNZ : Hid (b - (a + 1) < b - a) := Lib.hid (by omega)
       have HLA := Lib.hid hlt2
       go_wp2_with fail
       refine (HSM.out wr a b HW1.out (by omega) (by omega)).mono ?_
       rintro e w10 ⟨rfl, hb10⟩
       have HB2 := Lib.hid (HB1.out.below hb10 HB1.out.lt)
       have HW2 : Hid (Below go w7 w10) := Lib.hid (HW1.out.trans (hb10.mono (Nat.le_of_lt HB1.out.lt)))
       clear hb10 HB1 HW1
       cases hsab : S a b with
       | true =>
        obtain ⟨x1, hx1⟩ : ∃ x1, L.getD a 0 = x1 := ⟨_, rfl⟩
        have HX1 := Lib.hid hx1
        have HFD := Lib.hid (find_first (S := fun a => S a b) hlt2 HS.out hsab)
        have zb : w10.cell? ⟨go, b, none⟩ = some (.int .i64 (-1)) := by rw [HB2.out.cell, List.getElem?_toArray]; unfold ints; rw [List.getElem?_map, List.getElem?_set, if_pos rfl, if_pos (by rw [HAS.out.len]; omega)]; rfl
        have za : w10.cell? ⟨go, a, none⟩ = some (.int .i64 x1) := by
         rw [HB2.out.cell, List.getElem?_toArray]; unfold ints
         rw [List.getElem?_map, List.getElem?_set, if_neg (by omega), ← hx1, List.getD_eq_getElem?_getD, List.getElem?_eq_getElem (by rw [HAS.out.len]; omega)]
         rfl
        have zl := HB2.out.lt
        have zf := HB2.out.frozen
        have hbI : (b : Int) < (nb : Int) := by omega
        have haJ : (a : Int) < (nb : Int) := by omega
        have ha0 : (0 : Int) ≤ (a : Int) := by omega
        have han : (a : Int).toNat = a := Int.toNat_natCast a
        clear hx1 hsab
        go_wp2_with fail
        clear zb za zl zf
        go_meet
        case rel => exact ⟨x1, HSET.out _ _ _ HB2.out, HW2.out.setCell (Nat.le_refl _) _, .inl ⟨a, HFD.out, HX1.out.symm⟩⟩
       | false =>
        have HSN : Hid (∀ k, k < a + 1 → S k b = false) := Lib.hid fun k hk => by
         by_cases h : k < a
         ·exact HS.out k h
         ·have : k = a := by omega
          rw [this]; exact hsab
        clear hsab
        go_wp2_with fail
        go_roundw
        case rel => exact ⟨a + 1, hlt2, val_int HNY.out, HSN.out, HB2.out, HW2.out⟩
        case measure => exact HNZ.out
      ·have hab : a = b := by omega
       subst hab
       have haI : ¬ (a : Int) < (a : Int) := by omega
       have HFD := Lib.hid (find_no (S := fun k => S k a) HS.out)
       go_wp2_with fail
       go_meet
       case rel => exact ⟨-1, HB1.out, HW1.out, .inr ⟨HFD.out, rfl⟩⟩
    case rest =>
     obtain ⟨z, hblk, hbw, hor⟩ := hcut
     clear HB1 HW1
     have HB2 := Lib.hid hblk
     have HW2 := Lib.hid hbw
     have zb : wc.cell? ⟨go, b, none⟩ = some (.int .i64 z) := by rw [HB2.out.cell, List.getElem?_toArray]; unfold ints; rw [List.getElem?_map, List.getElem?_set, if_pos rfl, if_pos (by rw [HAS.out.len]; exact HLT.out)]; rfl
     have zl := HB2.out.lt
     have zf := HB2.out.frozen
     have hbI : (b : Int) < (nb : Int) := by have := HLT.out; omega
     clear hblk hbw
     rcases hor with ⟨a, hfd, hz⟩ | ⟨hfd, hz⟩
     ·have ha : a < b := by simpa using List.mem_of_find?_eq_some hfd
      have hge : ¬ z < 0 := by have := HAS.out.at_ a ha; omega
      have HA2 : Hid (ArS S nb (b + 1) (L.set b z)) := Lib.hid (by rw [hz]; exact HAS.out.old HLT.out hfd)
      have HM2 := Lib.hid (arR_many_old hfd)
      clear hfd hz ha
      go_wp2_with fail
      clear zb zl zf
      go_roundw
      case rel => exact ⟨b + 1, _, HLT.out, val_int HNX.out, by rw [HM2.out], HA2.out, HB2.out, HW2.out⟩
      case measure => exact HNM.out
     ·have hlt0 : z < 0 := by omega
      obtain ⟨hA2, hM2⟩ := HAS.out.new HLT.out hfd
      have HA2 := Lib.hid hA2
      have HM2 := Lib.hid hM2
      clear hfd hA2 hM2
      obtain ⟨mm, hmm⟩ : ∃ mm, (arR S b).2 = mm := ⟨_, rfl⟩
      rw [hmm] at HA2 HM2 HMB ⊢
      have hmb : mm ≤ 8 := by have := HMB.out; omega
      have HMX : Hid ((mm : Int) + 1 = ((mm + 1 : Nat) : Int)) := Lib.hid (by omega)
      clear hmm
      go_wp2_with fail
      clear zb zl zf
      go_roundw
      case rel => exact ⟨b + 1, _, HLT.out, val_int HNX.out, by rw [HM2.out]; exact val_int HMX.out, HA2.out, HSET.out _ _ _ HB2.out, HW2.out.setCell (Nat.le_refl _) _⟩
      case measure => exact HNM.out
   ·have hke : b = nb := by omega
    subst hke
    have hkI : ¬ (b : Int) < (b : Int) := by omega
    have HFI := Lib.hid HAS.out.fin
    go_wp2_with fail
    go_ret2
    rw [HCP.out]
    refine ⟨HK.out.trans ((HB7.out.trans (HBW.out.mono HGO.out.2)).mono HSZ.out), .inr ⟨by trivial, some ⟨go, 0, none⟩, b, rfl, ?_⟩⟩
    rw [HAR.out, ← HFI.out]
    have hl := HAS.out.len
    exact ⟨by unfold ints; rw [List.length_map, hl, Nat.mul_one], fun _ => ⟨go, 0, rfl, HBL.out.lt, fun j u hu => by rw [Nat.zero_add, HBL.out.cell j]; simpa using hu⟩⟩
 ·have hckB : (ck != 0) = true := by simp [hck]
  go_wp2_with fail
  go_ret2
  rw [HCP.out]
  exact ⟨HK.out.trans (HB1.out.mono HSZ.out), .inl ⟨hck, rfl⟩⟩
end
end Go.Proofs.YtakllkkmofdpaaaGreatDoor
