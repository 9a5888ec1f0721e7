import Derived.Test.YtakllkkmofdpaaaGreatDoorU28
set_option linter.unusedVariables false
set_option linter.unusedSimpArgs false
namespace Go.Proofs.YtakllkkmofdpaaaGreatDoor
section
open Go.ChangeShapes Go.WideShapes Go.ChangeAt Go.RowKit Go.Maps
attribute [local go_sem ↓] execOp_call_val
attribute [local go_sem] callVal_func setCell_drewN alloc_drewN sEq_walk NetH.cells
def OfP (x : Net) (w : World) (e : Ending) (w' : World) : Prop := Below w.heap.size w w' ∧ ∃ (g : Nat) (m : ModH) (A : Option Addr) (n c : Nat), e = .returned (.pointer (some ⟨g, 0, none⟩)) ∧ w.heap.size ≤ g ∧ Blk w' g 123 (m.cells (.slice A n c)) ∧ RdMod w' w'.heap.size m x ∧ (mReg x → n = (freeL x).length ∧ RdM w' w'.heap.size A n (mInv x))
theorem take_at {α : Type} {l : List α} {k : Nat} {x : α} (h : l[k]? = some x) : l.take (k + 1) = l.take k ++ [x] := take_snoc h
theorem mFrom_at {x : Net} {k : Nat} {b : Br} (h : x.brs[k]? = some b) : (mFrom x)[k]? = some (busAt x b.fr) ∧ (mTo x)[k]? = some (busAt x b.to) ∧ (mB x)[k]? = some (susR b) ∧ (mC x)[k]? = some (conR b) := by
 unfold mFrom mTo mB mC brE
 simp [h]
theorem br_bnd {b : Br} (h : b.bad = false) : 1 ≤ b.x ∧ b.x ≤ 10000 ∧ 500 ≤ b.tap ∧ b.tap ≤ 1500 ∧ -1000 ≤ b.shift ∧ b.shift ≤ 1000 := by
 unfold Br.bad at h
 simp only [Bool.or_eq_false_iff] at h
 obtain ⟨⟨⟨⟨⟨a1, a2⟩, a3⟩, _⟩, _⟩, _⟩ := h
 unfold outB at a1 a2 a3
 have := of_decide_eq_false a1
 have := of_decide_eq_false a2
 have := of_decide_eq_false a3
 omega
theorem shift_qsz {b : Br} (h : b.bad = false) : qsz (Rat.divInt (-b.shift) 1000) ≤ 1 := by
 have h1 := br_bnd h
 unfold qsz
 rw [show (1000 : Int) = ((1000 : Nat) : Int) from rfl, (ratio_num (-b.shift) (by decide)).2, (ratio_abs (-b.shift) (by decide)).1]
 refine Nat.max_le.2 ⟨dlen_le ?_, dlen_le ?_⟩
 ·refine Nat.lt_of_le_of_lt (Nat.div_le_self ..) ?_
  show _ < 4294967296 ^ 1
  omega
 ·refine Nat.lt_of_le_of_lt (Nat.div_le_self ..) ?_
  show _ < 4294967296 ^ 1
  decide
set_option maxRecDepth 100000 in
set_option maxHeartbeats 8000000 in
theorem flowOf_any (h : NetH) (x : Net) (ok : NetOk x) (h8 : x.nodes.length ≤ 8) (w : World) (r : RdNet w w.heap.size h x) : Calls Tryz.prog 71 #[.agg h.cells] w (OfP x w) := by
 have K0 : Below w.heap.size w (w.alloc (.cells h.cells 33)) := (Below.refl _ _).alloc (Nat.le_refl _) _
 have HK := Lib.hid K0
 have HX := Lib.hid (Blk.new w 33 h.cells)
 have HRN := Lib.hid r
 have HOK := Lib.hid ok
 have H8 := Lib.hid h8
 have HGT := Lib.hid (get_any h x ok _ (r.up K0))
 have HL2 : Hid (x.brs.length = h.n2) := Lib.hid r.r2.1
 have HL0 : Hid (x.nodes.length = h.n0) := Lib.hid r.r0.1
 have hm2 : h.n2 ≤ 24 := by rw [← HL2.out]; exact ok.l2
 have hm0 : h.n0 ≤ 24 := by rw [← HL0.out]; exact ok.l0
 obtain ⟨i0, hi0, hz0, hz1, hz2⟩ := info_parts info_intH
 have HI0 := Lib.hid hi0
 have HI1 := Lib.hid hz0
 have HI2 := Lib.hid hz1
 have HI3 := Lib.hid hz2
 obtain ⟨i1, ri0, rz0, rz1, rz2⟩ := rat_parts
 have RI0 := Lib.hid ri0
 have RI1 := Lib.hid rz0
 have RI2 := Lib.hid rz1
 have RI3 := Lib.hid rz2
 clear K0 r ok h8 hi0 hz0 hz1 hz2 ri0 rz0 rz1 rz2
 obtain ⟨A0, m0, c0, A1, m1, c1, A2, m2, c2, A3, m3, c3, A4, m4, c4, A5, m5, c5⟩ := h
 simp only [NetH.cells] at HK HX HGT HL2 HL0 hm2 hm0 ⊢
 go_enter Tryz.func71, Tryz.ntmps71
 go_upto_region 1 with fail
 generalize w.alloc (.cells #[.slice A0 m0 c0, .slice A1 m1 c1, .slice A2 m2 c2, .slice A3 m3 c3, .slice A4 m4 c4, .slice A5 m5 c5] 33) = W at *
 have hgl := HX.out.lt
 have y0 := HX.out.cell 0
 have y1 := HX.out.cell 1
 have y2 := HX.out.cell 2
 have y3 := HX.out.cell 3
 have y4 := HX.out.cell 4
 have y5 := HX.out.cell 5
 go_wp2_with fail
 refine HGT.out.mono ?_
 clear y0 y1 y2 y3 y4 y5 hgl HGT
 rintro e w1 ⟨hb1, g1, g2, rfl, hg1, hg2, hbk1, hbk2⟩
 have HB1 := Lib.hid (HK.out.trans (hb1.mono HK.out.size))
 have HX1 := Lib.hid (HX.out.below hb1 HX.out.lt)
 have HK1 := Lib.hid hbk1
 have HK2 := Lib.hid hbk2
 have HGG : Hid (W.heap.size ≤ g1 ∧ W.heap.size ≤ g2 ∧ w.heap.size < W.heap.size) := Lib.hid ⟨hg1, hg2, HX.out.lt⟩
 clear hb1 HK HX hbk1 hbk2 hg1 hg2
 go_upto_region 2 with fail
 have HM0 := Lib.hid (mdS_start (w := w1) (.slice (some ⟨g1, 0, none⟩) m0 m0) (.slice (some ⟨g2, 0, none⟩) (busN x) (busN x)))
 have HBW := Lib.hid ((Below.refl w1.heap.size w1).alloc (Nat.le_refl _) (.cells #[.slice (some ⟨g1, 0, none⟩) m0 m0, .slice (some ⟨g2, 0, none⟩) (busN x) (busN x), .slice none 0 0, .slice none 0 0, .slice none 0 0, .slice none 0 0, .slice none 0 0, .slice none 0 0] 123))
 have HX2 := Lib.hid (HX1.out.below HBW.out HX1.out.lt)
 generalize w1.alloc (.cells #[.slice (some ⟨g1, 0, none⟩) m0 m0, .slice (some ⟨g2, 0, none⟩) (busN x) (busN x), .slice none 0 0, .slice none 0 0, .slice none 0 0, .slice none 0 0, .slice none 0 0, .slice none 0 0] 123) = w2 at *
 generalize hgq : w1.heap.size = g at *
 have HG := Lib.hid hgq
 clear hgq
 have HGW : Hid (w.heap.size < g ∧ w.heap.size ≤ g) := Lib.hid (by have := HGG.out.2.2; have := HX1.out.lt; have := HG.out; omega)
 have y2 := HX2.out.cell 2
 have yl := HX2.out.lt
 go_wp2_with fail
 clear y2 yl HBW HX2
 go_loopw [17] (fun v17 wr => ∃ (k : Nat) (vF vT vB vC : Value) (uB uC : List Rv), k ≤ m2 ∧ v17 = .int .i64 k ∧ MdS g w1 wr (.slice (some ⟨g1, 0, none⟩) m0 m0) (.slice (some ⟨g2, 0, none⟩) (busN x) (busN x)) vF vT vB vC ((mFrom x).take k) ((mTo x).take k) uB uC ((mB x).take k) ((mC x).take k)) (fun v17 _ => m2 - (intOf v17).toNat)
 case atStart => exact ⟨0, _, _, _, _, _, _, by omega, rfl, HM0.out⟩
 case round =>
  clear HM0
  obtain ⟨k, vF, vT, vB, vC, uB, uC, hk, rfl, hm⟩ := hrel
  have HM := Lib.hid hm
  have HW : Hid (Below w.heap.size w wr) := Lib.hid (HB1.out.trans (hm.low.mono HGW.out.2))
  have HRW := Lib.hid (HRN.out.up HW.out)
  have HXR := Lib.hid (HX1.out.below hm.low (by have := HGW.out.1; omega))
  clear hm
  by_cases hlt : k < m2
  ·obtain ⟨s, hs⟩ : ∃ s, x.brs[k]? = some s := ⟨_, List.getElem?_eq_getElem (by have := HL2.out; omega)⟩
   obtain ⟨b, off, hA, hb⟩ := HRW.out.r2.form (show 0 < m2 by omega)
   simp only at hA
   subst hA
   obtain ⟨a0, a1, a2, a3, a4, a5, a6, a7, a8⟩ := HRW.out.r2.at_ hs
   obtain ⟨t1, t2, t3, t4⟩ := mFrom_at hs
   have HT1 := Lib.hid (take_at t1)
   have HT2 := Lib.hid (take_at t2)
   have HT3 := Lib.hid (take_at t3)
   have HT4 := Lib.hid (take_at t4)
   have HBR := Lib.hid (HOK.out.br s (List.mem_of_getElem? hs))
   have hkI : (k : Int) < (m2 : Int) := by omega
   have HN1 : Hid ((k : Int) + 1 = ((k + 1 : Nat) : Int)) := Lib.hid (by omega)
   have HN2 : Hid (m2 - (k + 1) < m2 - k) := Lib.hid (by omega)
   have HFL : Hid (((mFrom x).take k).length ≤ 24 ∧ ((mTo x).take k).length ≤ 24 ∧ ((mB x).take k).length ≤ 24 ∧ ((mC x).take k).length ≤ 24) := Lib.hid (by simp only [List.length_take]; omega)
   clear hs t1 t2 t3 t4
   go_upto_region 5 with fail
   clear a0 a1 a2 a3 a4 a5 a6 a7 a8 hb
   generalize hwa : wr.alloc (.cells #[.string s.name, .string s.fr, .string s.to, .int .i64 s.x, .int .i64 s.tap, .int .i64 s.shift, .int .i64 s.limit, .int .i64 s.short, .int .i64 s.hold] 70) = wa
   have hba : Below wr.heap.size wr wa := by rw [← hwa]; exact (Below.refl _ _).alloc (Nat.le_refl _) _
   have HS : Hid (Blk wa wr.heap.size 70 #[.string s.name, .string s.fr, .string s.to, .int .i64 s.x, .int .i64 s.tap, .int .i64 s.shift, .int .i64 s.limit, .int .i64 s.short, .int .i64 s.hold]) := Lib.hid (by rw [← hwa]; exact Blk.new wr _ _)
   have HGX : Hid (g < wr.heap.size) := Lib.hid HM.out.blk.lt
   replace HM := Lib.hid (HM.out.up hba)
   clear hwa hba HRW HXR HW
   generalize wr.heap.size = gx at *
   have HW : Hid (Below w.heap.size w wa) := Lib.hid (HB1.out.trans (HM.out.low.mono HGW.out.2))
   have HXR := Lib.hid (HX1.out.below HM.out.low (by have := HGW.out.1; omega))
   have HRW := Lib.hid ((HRN.out.up HW.out).r0)
   have hbo := busAt_ok HOK.out HBR.out.1
   have hbc := set_get (HK1.out.below HM.out.low (by have := HK1.out.lt; have := HG.out; omega)) hbo.2.2
   rw [hbo.1] at hbc
   have HIX : Hid (ndIdx x.nodes s.fr < m0) := Lib.hid (by have := hbo.2.2; rw [(busR_ok HOK.out).1] at this; have := HL0.out; omega)
   have HND := Lib.hid (nodeIx HBR.out.1)
   generalize ndIdx x.nodes s.fr = ix at *
   clear hbo
   have hix := HIX.out
   have hixI : (ix : Int) < (m0 : Int) := by omega
   have hix0 : (0 : Int) ≤ (ix : Int) := by omega
   have hixn : (ix : Int).toNat = ix := Int.toNat_natCast ix
   have z0 := HM.out.blk.cell 0
   have z2 := HM.out.blk.cell 2
   have zl := HM.out.blk.lt
   have x0 := HXR.out.cell 0
   have xl := HXR.out.lt
   have s1 := HS.out.cell 1
   have sl := HS.out.lt
   have gl1 : g1 < wa.heap.size := by have := HK1.out.lt; have := HG.out; omega
   have HB4 := Lib.hid (below_drew (Below.refl wa.heap.size wa))
   refine wp_region_last4X (S := fun w' => Below wa.heap.size wa w') 17 0 _ _ _ _ _ (.pointer (some ⟨g, 0, none⟩)) (by kernel_rfl) (by kernel_rfl) (by kernel_rfl) (by kernel_rfl) (by kernel_rfl) rfl (by decide) (by kernel_rfl) rfl rfl rfl rfl (by kernel_rfl) (fun _ _ _ h => h) (by rfl) (fun w' => by go_simp <;> with_reducible rfl) (below_drew (Below.refl _ _)) (fun hHeld => ?_)
   simp only [List.take_succ_cons, List.take_zero]
   try simp only [Act.put, sA_, sB_, sC_]
   refine tkH 1 rfl (by intro w' _ hcc; go_simp <;> with_reducible rfl) hHeld ?_
   try simp only [Act.put, sA_, sB_, sC_]
   refine tkH 2 rfl (by intro w' _ hcc; go_simp <;> with_reducible rfl) hHeld ?_
   try simp only [Act.put, sA_, sB_, sC_]
   refine tkH 3 rfl (by intro w' _ hcc; go_simp <;> with_reducible rfl) hHeld ?_
   try simp only [Act.put, sA_, sB_, sC_]
   refine tkH 4 rfl (by intro w' _ hcc; go_simp <;> with_reducible rfl) hHeld ?_
   try simp only [Act.put, sA_, sB_, sC_]
   refine tkH 5 rfl (by intro w' _ hcc; go_simp <;> with_reducible rfl) hHeld ?_
   try simp only [Act.put, sA_, sB_, sC_]
   refine tkH 6 rfl (by intro w' _ hcc; go_simp <;> with_reducible rfl) hHeld ?_
   try simp only [Act.put, sA_, sB_, sC_]
   refine tkH 7 rfl (by intro w' _ hcc; go_simp <;> with_reducible rfl) hHeld ?_
   try simp only [Act.put, sA_, sB_, sC_]
   refine tkH 8 rfl (by intro w' _ hcc; go_simp <;> with_reducible rfl) hHeld ?_
   try simp only [Act.put, sA_, sB_, sC_]
   refine tkH 9 rfl (by intro w' _ hcc; go_simp <;> with_reducible rfl) hHeld ?_
   try simp only [Act.put, sA_, sB_, sC_]
   refine tkH 10 rfl (by intro w' _ hcc; go_simp <;> with_reducible rfl) hHeld ?_
   try simp only [Act.put, sA_, sB_, sC_]
   refine tkH 11 rfl (by intro w' _ hcc; go_simp <;> with_reducible rfl) hHeld ?_
   try simp only [Act.put, sA_, sB_, sC_]
   refine tkH 12 rfl (by intro w' _ hcc; go_simp <;> with_reducible rfl) hHeld ?_
   try simp only [Act.put, sA_, sB_, sC_]
   refine tkH 13 rfl (by intro w' _ hcc; go_simp <;> with_reducible rfl) hHeld ?_
   try simp only [Act.put, sA_, sB_, sC_]
   refine stepH 14 (by kernel_rfl) rfl (fun K hK => ?_)
   go_simp
   refine (index_str A0 m0 c0 x.nodes s.fr wa.drew ((HRW.out.below HB4.out (Nat.le_refl _)).more HB4.out.size) (by omega)).mono ?_
   rintro e w8 ⟨rfl, rfl⟩
   rw [HND.out]
   go_simp
   refine hK.out _ _ ?_ (fun hHeld => ?_)
   ·exact HB4.out
   clear hK K
   try simp only [Act.put, sA_, sB_, sC_]
   refine tkH 15 rfl (by intro w' _ hcc; go_simp <;> with_reducible rfl) hHeld ?_
   try simp only [Act.put, sA_, sB_, sC_]
   refine tkH 16 rfl (by intro w' _ hcc; go_simp <;> with_reducible rfl) hHeld ?_
   try simp only [Act.put, sA_, sB_, sC_]
   refine stepH 17 (by kernel_rfl) rfl (fun K hK => ?_)
   go_simp
   refine hK.out _ _ ?_ (fun hHeld => ?_)
   ·exact HB4.out.alloc (Nat.le_refl _) _
   clear hK K
   try simp only [Act.put, sA_, sB_, sC_]
   refine wpAnyH_done (by kernel_rfl) ?_ _
   refine lastQ_go (by rfl) ?_
   clear hHeld
   generalize hbu : busAt x s.fr = bu at *
   have hbl : Below wa.heap.size wa (wa.alloc (.cells #[.int .i64 (bu : Int)] 3)).drew := below_drew ((Below.refl _ _).alloc (Nat.le_refl _) _)
   have HLT : Hid (Blk (wa.alloc (.cells #[.int .i64 (bu : Int)] 3)).drew wa.heap.size 3 #[.int .i64 (bu : Int)]) := Lib.hid (Blk.new wa _ _).drew
   replace HM := Lib.hid (HM.out.up hbl)
   replace HS := Lib.hid (HS.out.below hbl HS.out.lt)
   have HBU := Lib.hid hbu
   clear z0 z2 zl x0 xl s1 sl gl1 hbc hix hixI hix0 hixn HIX HND HRW HXR HW HB4 hbl hbu
   generalize (wa.alloc (.cells #[.int .i64 (bu : Int)] 3)).drew = wl at *
   generalize wa.heap.size = gq at *
   refine wp_app_blk2 (S := IsI) (.tmp 25) (.tmp 38) 53 rfl (g + 1) 3 i0 _ 1 8 Tryz.underlying53 HI0.out HI1.out HI2.out HI3.out rfl (by omega) zi_I vF _ _ (by rfl) HM.out.oF gq 3 #[.int .i64 (bu : Int)] (by rfl) HLT.out rfl ?k1 ?k2 ?k3 ?k4 ?_
   case k1 => intro u hu; rw [show u = .int .i64 (bu : Int) from by simpa using hu]; exact ⟨rfl, _, rfl⟩
   case k2 => have := HFL.out.1; simp only [maxLen]; omega
   case k3 => have := HFL.out.1; omega
   case k4 => exact HM.out.blk.lt
   intro pA pn pc w9 q1 q2 q3 q4
   have hm9 := HM.out.appF q1 q2 q3 q4
   have hb9 := q2.blk _ _ _ HM.out.blk (by decide)
   have hs9 := q2.blk _ _ _ HS.out (by decide)
   have HMN := Lib.hid hm9
   have HS9 := Lib.hid (hs9.far (p := ⟨g, 2, none⟩) (by have := HGX.out; show gx ≠ g; omega) (.slice pA pn pc))
   have p2 := hb9.cell 2
   have pl := hb9.lt
   have pf := hb9.frozen
   clear q1 q2 q3 q4 hm9 hb9 hs9 HM HS HLT
   refine lastQ_go (by rfl) ?_
   go_simp
   refine lastQ_go (by rfl) ?_
   go_simp
   refine lastQ_go (by rfl) ?_
   go_upto_region 6 with fail
   clear p2 pl pf
   generalize w9.setCell ⟨g, 2, none⟩ (.slice pA pn pc) = wb at *
   have HM : Hid (MdS g w1 wb _ _ _ _ _ _ _ _ _ _ _ _) := HMN
   have HS := HS9
   rw [← HT1.out] at HM
   clear HMN HS9 HBU
   generalize Value.slice pA pn pc = vF2 at *
   have HW : Hid (Below w.heap.size w wb) := Lib.hid (HB1.out.trans (HM.out.low.mono HGW.out.2))
   have HXR := Lib.hid (HX1.out.below HM.out.low (by have := HGW.out.1; omega))
   have HRW := Lib.hid ((HRN.out.up HW.out).r0)
   have hbo := busAt_ok HOK.out HBR.out.2.1
   have hbc := set_get (HK1.out.below HM.out.low (by have := HK1.out.lt; have := HG.out; omega)) hbo.2.2
   rw [hbo.1] at hbc
   have HIX : Hid (ndIdx x.nodes s.to < m0) := Lib.hid (by have := hbo.2.2; rw [(busR_ok HOK.out).1] at this; have := HL0.out; omega)
   have HND := Lib.hid (nodeIx HBR.out.2.1)
   generalize ndIdx x.nodes s.to = ix at *
   clear hbo
   have hix := HIX.out
   have hixI : (ix : Int) < (m0 : Int) := by omega
   have hix0 : (0 : Int) ≤ (ix : Int) := by omega
   have hixn : (ix : Int).toNat = ix := Int.toNat_natCast ix
   have z0 := HM.out.blk.cell 0
   have z2 := HM.out.blk.cell 3
   have zl := HM.out.blk.lt
   have x0 := HXR.out.cell 0
   have xl := HXR.out.lt
   have s1 := HS.out.cell 2
   have sl := HS.out.lt
   have gl1 : g1 < wb.heap.size := by have := HK1.out.lt; have := HG.out; omega
   have HB4 := Lib.hid (below_drew (Below.refl wb.heap.size wb))
   refine wp_region_last4X (S := fun w' => Below wb.heap.size wb w') 17 0 _ _ _ _ _ (.pointer (some ⟨g, 0, none⟩)) (by kernel_rfl) (by kernel_rfl) (by kernel_rfl) (by kernel_rfl) (by kernel_rfl) rfl (by decide) (by kernel_rfl) rfl rfl rfl rfl (by kernel_rfl) (fun _ _ _ h => h) (by rfl) (fun w' => by go_simp <;> with_reducible rfl) (below_drew (Below.refl _ _)) (fun hHeld => ?_)
   simp only [List.take_succ_cons, List.take_zero]
   try simp only [Act.put, sA_, sB_, sC_]
   refine tkH 1 rfl (by intro w' _ hcc; go_simp <;> with_reducible rfl) hHeld ?_
   try simp only [Act.put, sA_, sB_, sC_]
   refine tkH 2 rfl (by intro w' _ hcc; go_simp <;> with_reducible rfl) hHeld ?_
   try simp only [Act.put, sA_, sB_, sC_]
   refine tkH 3 rfl (by intro w' _ hcc; go_simp <;> with_reducible rfl) hHeld ?_
   try simp only [Act.put, sA_, sB_, sC_]
   refine tkH 4 rfl (by intro w' _ hcc; go_simp <;> with_reducible rfl) hHeld ?_
   try simp only [Act.put, sA_, sB_, sC_]
   refine tkH 5 rfl (by intro w' _ hcc; go_simp <;> with_reducible rfl) hHeld ?_
   try simp only [Act.put, sA_, sB_, sC_]
   refine tkH 6 rfl (by intro w' _ hcc; go_simp <;> with_reducible rfl) hHeld ?_
   try simp only [Act.put, sA_, sB_, sC_]
   refine tkH 7 rfl (by intro w' _ hcc; go_simp <;> with_reducible rfl) hHeld ?_
   try simp only [Act.put, sA_, sB_, sC_]
   refine tkH 8 rfl (by intro w' _ hcc; go_simp <;> with_reducible rfl) hHeld ?_
   try simp only [Act.put, sA_, sB_, sC_]
   refine tkH 9 rfl (by intro w' _ hcc; go_simp <;> with_reducible rfl) hHeld ?_
   try simp only [Act.put, sA_, sB_, sC_]
   refine tkH 10 rfl (by intro w' _ hcc; go_simp <;> with_reducible rfl) hHeld ?_
   try simp only [Act.put, sA_, sB_, sC_]
   refine tkH 11 rfl (by intro w' _ hcc; go_simp <;> with_reducible rfl) hHeld ?_
   try simp only [Act.put, sA_, sB_, sC_]
   refine tkH 12 rfl (by intro w' _ hcc; go_simp <;> with_reducible rfl) hHeld ?_
   try simp only [Act.put, sA_, sB_, sC_]
   refine tkH 13 rfl (by intro w' _ hcc; go_simp <;> with_reducible rfl) hHeld ?_
   try simp only [Act.put, sA_, sB_, sC_]
   refine stepH 14 (by kernel_rfl) rfl (fun K hK => ?_)
   go_simp
   refine (index_str A0 m0 c0 x.nodes s.to wb.drew ((HRW.out.below HB4.out (Nat.le_refl _)).more HB4.out.size) (by omega)).mono ?_
   rintro e w8 ⟨rfl, rfl⟩
   rw [HND.out]
   go_simp
   refine hK.out _ _ ?_ (fun hHeld => ?_)
   ·exact HB4.out
   clear hK K
   try simp only [Act.put, sA_, sB_, sC_]
   refine tkH 15 rfl (by intro w' _ hcc; go_simp <;> with_reducible rfl) hHeld ?_
   try simp only [Act.put, sA_, sB_, sC_]
   refine tkH 16 rfl (by intro w' _ hcc; go_simp <;> with_reducible rfl) hHeld ?_
   try simp only [Act.put, sA_, sB_, sC_]
   refine stepH 17 (by kernel_rfl) rfl (fun K hK => ?_)
   go_simp
   refine hK.out _ _ ?_ (fun hHeld => ?_)
   ·exact HB4.out.alloc (Nat.le_refl _) _
   clear hK K
   try simp only [Act.put, sA_, sB_, sC_]
   refine wpAnyH_done (by kernel_rfl) ?_ _
   refine lastQ_go (by rfl) ?_
   clear hHeld
   generalize hbu : busAt x s.to = bu at *
   have hbl : Below wb.heap.size wb (wb.alloc (.cells #[.int .i64 (bu : Int)] 3)).drew := below_drew ((Below.refl _ _).alloc (Nat.le_refl _) _)
   have HLT : Hid (Blk (wb.alloc (.cells #[.int .i64 (bu : Int)] 3)).drew wb.heap.size 3 #[.int .i64 (bu : Int)]) := Lib.hid (Blk.new wb _ _).drew
   replace HM := Lib.hid (HM.out.up hbl)
   replace HS := Lib.hid (HS.out.below hbl HS.out.lt)
   have HBU := Lib.hid hbu
   clear z0 z2 zl x0 xl s1 sl gl1 hbc hix hixI hix0 hixn HIX HND HRW HXR HW HB4 hbl hbu
   generalize (wb.alloc (.cells #[.int .i64 (bu : Int)] 3)).drew = wl at *
   generalize wb.heap.size = gq at *
   refine wp_app_blk2 (S := IsI) (.tmp 46) (.tmp 59) 53 rfl (g + 1) 3 i0 _ 1 8 Tryz.underlying53 HI0.out HI1.out HI2.out HI3.out rfl (by omega) zi_I vT _ _ (by rfl) HM.out.oT gq 3 #[.int .i64 (bu : Int)] (by rfl) HLT.out rfl ?k1 ?k2 ?k3 ?k4 ?_
   case k1 => intro u hu; rw [show u = .int .i64 (bu : Int) from by simpa using hu]; exact ⟨rfl, _, rfl⟩
   case k2 => have := HFL.out.2.1; simp only [maxLen]; omega
   case k3 => have := HFL.out.2.1; omega
   case k4 => exact HM.out.blk.lt
   intro pA pn pc w9 q1 q2 q3 q4
   have hm9 := HM.out.appT q1 q2 q3 q4
   have hb9 := q2.blk _ _ _ HM.out.blk (by decide)
   have hs9 := q2.blk _ _ _ HS.out (by decide)
   have HMN := Lib.hid hm9
   have HS9 := Lib.hid (hs9.far (p := ⟨g, 3, none⟩) (by have := HGX.out; show gx ≠ g; omega) (.slice pA pn pc))
   have p2 := hb9.cell 3
   have pl := hb9.lt
   have pf := hb9.frozen
   clear q1 q2 q3 q4 hm9 hb9 hs9 HM HS HLT
   refine lastQ_go (by rfl) ?_
   go_simp
   refine lastQ_go (by rfl) ?_
   go_simp
   refine lastQ_go (by rfl) ?_
   go_upto_region 7 with fail
   clear p2 pl pf
   generalize w9.setCell ⟨g, 3, none⟩ (.slice pA pn pc) = wc at *
   have HM : Hid (MdS g w1 wc _ _ _ _ _ _ _ _ _ _ _ _) := HMN
   have HS := HS9
   rw [← HT2.out] at HM
   clear HMN HS9 HBU
   generalize Value.slice pA pn pc = vT2 at *
   have hbd := br_bnd HBR.out.2.2.2
   have hmul : s.x * s.tap ≤ 10000 * 1500 := Int.mul_le_mul hbd.2.1 hbd.2.2.2.1 (by omega) (by omega)
   have hmul2 : 1 * 500 ≤ s.x * s.tap := Int.mul_le_mul hbd.1 hbd.2.2.1 (by omega) (by omega)
   have HXT := Lib.hid (fracV 1000000 (s.x * s.tap) wc (by decide) (by decide) (by omega) (by omega) (by omega))
   have hw1 : IntKind.i64.wrap (s.x * s.tap) = s.x * s.tap := IntWalk.i64_in _ (by omega)
   have hsh : IntKind.i64.wrap (-s.shift) = -s.shift := IntWalk.i64_in _ (by omega)
   have HSH := Lib.hid hsh
   have HSF := Lib.hid (fun w' => fracV (-s.shift) 1000 w' (by omega) (by omega) (by decide) (by decide) (by decide))
   have s3 := HS.out.cell 3
   have s4 := HS.out.cell 4
   have sl := HS.out.lt
   generalize hxt : s.x * s.tap = xt at *
   have HXE := Lib.hid hxt
   go_wp2_with fail
   refine HXT.out.mono ?_
   rintro e w10 ⟨hb10, v10, rfl, h10⟩
   clear s3 s4 sl HXT hmul hmul2 hw1 hbd hsh hxt
   have HV10 : Hid (RtV w10 w10.heap.size (susR s) v10) := Lib.hid (by unfold susR; rw [HXE.out]; exact h10)
   replace HM := Lib.hid (HM.out.up hb10)
   replace HS := Lib.hid (HS.out.below hb10 HS.out.lt)
   clear hb10 h10
   go_upto_region 8 with fail
   have hb11 : Below w10.heap.size w10 (w10.alloc (.cells #[.bool v10.b1, .slice v10.A v10.n v10.c, .bool v10.b2, .slice v10.A2 v10.m v10.d] 93)) := (Below.refl _ _).alloc (Nat.le_refl _) _
   have HBX := Lib.hid (Blk.new w10 93 #[.bool v10.b1, .slice v10.A v10.n v10.c, .bool v10.b2, .slice v10.A2 v10.m v10.d])
   have HNE : Hid (∀ k, vB.ownBlock = some k → k < w10.heap.size) := Lib.hid fun k hk => (HM.out.oB.own.lt hk).2
   have HGY : Hid (g < w10.heap.size) := Lib.hid HM.out.blk.lt
   replace HM := Lib.hid (HM.out.up hb11)
   replace HS := Lib.hid (HS.out.below hb11 HS.out.lt)
   replace HV10 := Lib.hid (HV10.out.up hb11)
   clear hb11 HXE
   generalize w10.alloc (.cells #[.bool v10.b1, .slice v10.A v10.n v10.c, .bool v10.b2, .slice v10.A2 v10.m v10.d] 93) = wd at *
   generalize w10.heap.size = gy at *
   have z4 := HM.out.blk.cell 4
   have zl := HM.out.blk.lt
   have b0 := HBX.out.cell 0
   have b1 := HBX.out.cell 1
   have b2 := HBX.out.cell 2
   have b3 := HBX.out.cell 3
   have bl := HBX.out.lt
   have HB4 := Lib.hid (below_drew (Below.refl wd.heap.size wd))
   refine wp_region_last4X (S := fun w' => Below wd.heap.size wd w') 6 0 _ _ _ _ _ (.pointer (some ⟨g, 0, none⟩)) (by kernel_rfl) (by kernel_rfl) (by kernel_rfl) (by kernel_rfl) (by kernel_rfl) rfl (by decide) (by kernel_rfl) rfl rfl rfl rfl (by kernel_rfl) (fun _ _ _ h => h) (by rfl) (fun w' => by go_simp <;> with_reducible rfl) (below_drew (Below.refl _ _)) (fun hHeld => ?_)
   simp only [List.take_succ_cons, List.take_zero]
   try simp only [Act.put, sA_, sB_, sC_]
   refine tkH 1 rfl (by intro w' _ hcc; go_simp <;> with_reducible rfl) hHeld ?_
   try simp only [Act.put, sA_, sB_, sC_]
   refine tkH 2 rfl (by intro w' _ hcc; go_simp <;> with_reducible rfl) hHeld ?_
   try simp only [Act.put, sA_, sB_, sC_]
   refine tkH 3 rfl (by intro w' _ hcc; go_simp <;> with_reducible rfl) hHeld ?_
   try simp only [Act.put, sA_, sB_, sC_]
   refine tkH 4 rfl (by intro w' _ hcc; go_simp <;> with_reducible rfl) hHeld ?_
   try simp only [Act.put, sA_, sB_, sC_]
   refine tkH 5 rfl (by intro w' _ hcc; go_simp <;> with_reducible rfl) hHeld ?_
   try simp only [Act.put, sA_, sB_, sC_]
   refine stepH 6 (by kernel_rfl) rfl (fun K hK => ?_)
   go_simp
   refine hK.out _ _ ?_ (fun hHeld => ?_)
   ·exact HB4.out.alloc HB4.out.size _
   clear hK K
   try simp only [Act.put, sA_, sB_, sC_]
   refine wpAnyH_done (by kernel_rfl) ?_ _
   refine lastQ_go (by rfl) ?_
   clear hHeld
   have hbl : Below wd.heap.size wd ((wd.alloc (.cells #[.bool v10.b1, .slice v10.A v10.n v10.c, .bool v10.b2, .slice v10.A2 v10.m v10.d] 93)).drew) := below_drew ((Below.refl _ _).alloc (Nat.le_refl _) _)
   have HLT : Hid (Blk ((wd.alloc (.cells #[.bool v10.b1, .slice v10.A v10.n v10.c, .bool v10.b2, .slice v10.A2 v10.m v10.d] 93)).drew) wd.heap.size 93 #[.bool v10.b1, .slice v10.A v10.n v10.c, .bool v10.b2, .slice v10.A2 v10.m v10.d]) := Lib.hid (Blk.new wd _ _).drew
   replace HM := Lib.hid (HM.out.up hbl)
   replace HS := Lib.hid (HS.out.below hbl HS.out.lt)
   replace HBX := Lib.hid (HBX.out.below hbl HBX.out.lt)
   replace HV10 := Lib.hid (HV10.out.up hbl)
   have HVU := HV10
   clear z4 zl b0 b1 b2 b3 bl HB4 hbl
   generalize (wd.alloc (.cells #[.bool v10.b1, .slice v10.A v10.n v10.c, .bool v10.b2, .slice v10.A2 v10.m v10.d] 93)).drew = wl at *
   generalize wd.heap.size = gq at *
   refine wp_app_blk2 (S := NoI) (.tmp 73) (.tmp 75) 103 rfl (g + 1) 93 i1 _ 4 64 Tryz.underlying103 RI0.out RI1.out RI2.out RI3.out rfl (by omega) zr_noI vB _ _ (by rfl) HM.out.oB.own gq 93 #[.bool v10.b1, .slice v10.A v10.n v10.c, .bool v10.b2, .slice v10.A2 v10.m v10.d] (by rfl) HLT.out rfl ?k1 ?k2 ?k3 ?k4 ?_
   case k1 => exact rv_noI v10
   case k2 => have := HM.out.oB.len; have := HFL.out.2.2.1; simp only [maxLen]; omega
   case k3 => have := HM.out.oB.len; have := HFL.out.2.2.1; omega
   case k4 => exact HM.out.blk.lt
   intro pA pn pc w9 q1 q2 q3 q4
   have hm9 := HM.out.appB HVU.out q1 q2 q3 q4
   have hb9 := q2.blk _ _ _ HM.out.blk (by decide)
   have hs9 := q2.blk _ _ _ HS.out (by decide)
   have HMN := Lib.hid hm9
   have HS9 := Lib.hid (hs9.far (p := ⟨g, 4, none⟩) (by have := HGX.out; show gx ≠ g; omega) (.slice pA pn pc))
   have hbx : Blk w9 gy 93 #[.bool v10.b1, .slice v10.A v10.n v10.c, .bool v10.b2, .slice v10.A2 v10.m v10.d] := (q4 gy HBX.out.lt (fun hc => absurd (HNE.out gy hc) (Nat.lt_irrefl _))).trans HBX.out
   have HBX9 := Lib.hid (hbx.far (p := ⟨g, 4, none⟩) (by have := HGY.out; show gy ≠ g; omega) (.slice pA pn pc))
   have HV9 := Lib.hid ((RtV.keeps HV10.out q2).keep1 (i := 4) hb9 (y := vB) rfl HM.out.oB.own.ni (.slice pA pn pc))
   have p2 := hb9.cell 4
   have pl := hb9.lt
   have pf := hb9.frozen
   clear q1 q2 q3 q4 hm9 hb9 hs9 HM HS HLT HVU HBX HV10 hbx
   refine lastQ_go (by rfl) ?_
   go_simp
   refine lastQ_go (by rfl) ?_
   go_simp
   refine lastQ_go (by rfl) ?_
   go_upto_region 9 with fail
   clear p2 pl pf
   generalize w9.setCell ⟨g, 4, none⟩ (.slice pA pn pc) = we at *
   have HM : Hid (MdS g w1 we _ _ _ _ _ _ _ _ _ _ _ _) := HMN
   have HS := HS9
   have HBX := HBX9
   have HV10 := HV9
   rw [← HT3.out] at HM
   clear HMN HS9 HBX9 HV9
   generalize Value.slice pA pn pc = vB2 at *
   have HQM : Hid (qsz (susR s) + qsz (Rat.divInt (-s.shift) 1000) + 1 ≤ 35184372088832) := Lib.hid (by have := sus_qsz HBR.out.2.2.2; have := shift_qsz HBR.out.2.2.2; omega)
   have z4 := HM.out.blk.cell 5
   have zl := HM.out.blk.lt
   have b0 := HBX.out.cell 0
   have b1 := HBX.out.cell 1
   have b2 := HBX.out.cell 2
   have b3 := HBX.out.cell 3
   have bl := HBX.out.lt
   have s5 := HS.out.cell 5
   have sl := HS.out.lt
   have HB4 := Lib.hid (below_drew (Below.refl we.heap.size we))
   refine wp_region_last4X (S := fun w' => Below we.heap.size we w') 11 0 _ _ _ _ _ (.pointer (some ⟨g, 0, none⟩)) (by kernel_rfl) (by kernel_rfl) (by kernel_rfl) (by kernel_rfl) (by kernel_rfl) rfl (by decide) (by kernel_rfl) rfl rfl rfl rfl (by kernel_rfl) (fun _ _ _ h => h) (by rfl) (fun w' => by go_simp <;> with_reducible rfl) (below_drew (Below.refl _ _)) (fun hHeld => ?_)
   simp only [List.take_succ_cons, List.take_zero]
   try simp only [Act.put, sA_, sB_, sC_]
   refine tkH 1 rfl (by intro w' _ hcc; go_simp <;> with_reducible rfl) hHeld ?_
   try simp only [Act.put, sA_, sB_, sC_]
   refine tkH 2 rfl (by intro w' _ hcc; go_simp <;> with_reducible rfl) hHeld ?_
   try simp only [Act.put, sA_, sB_, sC_]
   refine tkH 3 rfl (by intro w' _ hcc; go_simp <;> with_reducible rfl) hHeld ?_
   try simp only [Act.put, sA_, sB_, sC_]
   refine tkH 4 rfl (by intro w' _ hcc; go_simp <;> with_reducible rfl) hHeld ?_
   try simp only [Act.put, sA_, sB_, sC_]
   refine tkH 5 rfl (by intro w' _ hcc; go_simp <;> with_reducible rfl) hHeld ?_
   try simp only [Act.put, sA_, sB_, sC_]
   refine tkH 6 rfl (by intro w' _ hcc; go_simp <;> with_reducible rfl) hHeld ?_
   try simp only [Act.put, sA_, sB_, sC_]
   refine tkH 7 rfl (by intro w' _ hcc; go_simp <;> with_reducible rfl) hHeld ?_
   try simp only [Act.put, sA_, sB_, sC_]
   refine tkH 8 rfl (by intro w' _ hcc; go_simp <;> with_reducible rfl) hHeld ?_
   try simp only [Act.put, sA_, sB_, sC_]
   refine stepH 9 (by kernel_rfl) rfl (fun K hK => ?_)
   go_simp
   rw [HSH.out]
   refine (HSF.out _).mono ?_
   rintro e w11 ⟨hb11, v11, rfl, h11⟩
   have HB11 : Hid (Below we.heap.size we w11) := Lib.hid (HB4.out.trans (hb11.mono HB4.out.size))
   have H11 := Lib.hid h11
   clear hb11 h11
   go_simp
   refine hK.out _ _ ?_ (fun hHeld => ?_)
   ·exact HB11.out
   clear hK K
   try simp only [Act.put, sA_, sB_, sC_]
   refine stepH 10 (by kernel_rfl) rfl (fun K hK => ?_)
   go_simp
   refine (mulV (HV10.out.up HB11.out) H11.out HQM.out).mono ?_
   rintro e w12 ⟨hb12, v12, rfl, h12⟩
   have HB12 : Hid (Below we.heap.size we w12) := Lib.hid (HB11.out.trans (hb12.mono HB11.out.size))
   have H12 := Lib.hid h12
   clear hb12 h12 HB11 H11
   go_simp
   refine hK.out _ _ ?_ (fun hHeld => ?_)
   ·exact HB12.out
   clear hK K
   try simp only [Act.put, sA_, sB_, sC_]
   refine stepH 11 (by kernel_rfl) rfl (fun K hK => ?_)
   go_simp
   refine hK.out _ _ ?_ (fun hHeld => ?_)
   ·exact HB12.out.alloc HB12.out.size _
   clear hK K
   try simp only [Act.put, sA_, sB_, sC_]
   refine wpAnyH_done (by kernel_rfl) ?_ _
   refine lastQ_go (by rfl) ?_
   clear hHeld
   have hbl : Below we.heap.size we (w12.alloc (.cells #[.bool v12.b1, .slice v12.A v12.n v12.c, .bool v12.b2, .slice v12.A2 v12.m v12.d] 93)) := HB12.out.alloc HB12.out.size _
   have HLT : Hid (Blk (w12.alloc (.cells #[.bool v12.b1, .slice v12.A v12.n v12.c, .bool v12.b2, .slice v12.A2 v12.m v12.d] 93)) w12.heap.size 93 #[.bool v12.b1, .slice v12.A v12.n v12.c, .bool v12.b2, .slice v12.A2 v12.m v12.d]) := Lib.hid (Blk.new w12 _ _)
   replace HM := Lib.hid (HM.out.up hbl)
   replace HS := Lib.hid (HS.out.below hbl HS.out.lt)
   replace HBX := Lib.hid (HBX.out.below hbl HBX.out.lt)
   replace HV10 := Lib.hid (HV10.out.up hbl)
   have HVU := Lib.hid (H12.out.up ((Below.refl w12.heap.size w12).alloc (Nat.le_refl _) (.cells #[.bool v12.b1, .slice v12.A v12.n v12.c, .bool v12.b2, .slice v12.A2 v12.m v12.d] 93)))
   clear z4 zl b0 b1 b2 b3 bl HB4 hbl s5 sl
   generalize w12.alloc (.cells #[.bool v12.b1, .slice v12.A v12.n v12.c, .bool v12.b2, .slice v12.A2 v12.m v12.d] 93) = wl at *
   generalize w12.heap.size = gq at *
   refine wp_app_blk2 (S := NoI) (.tmp 83) (.tmp 90) 103 rfl (g + 1) 93 i1 _ 4 64 Tryz.underlying103 RI0.out RI1.out RI2.out RI3.out rfl (by omega) zr_noI vC _ _ (by rfl) HM.out.oC.own gq 93 #[.bool v12.b1, .slice v12.A v12.n v12.c, .bool v12.b2, .slice v12.A2 v12.m v12.d] (by rfl) HLT.out rfl ?k1 ?k2 ?k3 ?k4 ?_
   case k1 => exact rv_noI v12
   case k2 => have := HM.out.oC.len; have := HFL.out.2.2.2; simp only [maxLen]; omega
   case k3 => have := HM.out.oC.len; have := HFL.out.2.2.2; omega
   case k4 => exact HM.out.blk.lt
   intro pA pn pc w9 q1 q2 q3 q4
   have hm9 := HM.out.appC HVU.out q1 q2 q3 q4
   have hb9 := q2.blk _ _ _ HM.out.blk (by decide)
   have hs9 := q2.blk _ _ _ HS.out (by decide)
   have HMN := Lib.hid hm9
   have HS9 := Lib.hid (hs9.far (p := ⟨g, 5, none⟩) (by have := HGX.out; show gx ≠ g; omega) (.slice pA pn pc))
   have p2 := hb9.cell 5
   have pl := hb9.lt
   have pf := hb9.frozen
   clear q1 q2 q3 q4 hm9 hb9 hs9 HM HS HLT HVU HBX HV10 H12 HB12
   refine lastQ_go (by rfl) ?_
   go_simp
   refine lastQ_go (by rfl) ?_
   go_simp
   refine lastQ_go (by rfl) ?_
   go_wp2_with fail
   clear p2 pl pf
   go_roundw
   case rel =>
    have hm := HMN.out
    rw [show susR s * Rat.divInt (-s.shift) 1000 = conR s from rfl, ← HT4.out] at hm
    exact ⟨k + 1, _, _, _, _, _, _, hlt, val_int HN1.out, hm⟩
   case measure => exact HN2.out
  ·have hke : k = m2 := by omega
   have HZ : Hid (MdZ g w1 wr (.slice (some ⟨g1, 0, none⟩) m0 m0) (.slice (some ⟨g2, 0, none⟩) (busN x) (busN x)) vF vT vB vC (.slice none 0 0) (mFrom x) (mTo x) uB uC (mB x) (mC x) []) := Lib.hid (by
    have h := HM.out.z
    rw [List.take_of_length_le (by rw [mFrom_len]; have := HL2.out; omega), List.take_of_length_le (by rw [mTo_len]; have := HL2.out; omega), List.take_of_length_le (by rw [mB_len]; have := HL2.out; omega), List.take_of_length_le (by rw [mC_len]; have := HL2.out; omega)] at h
    exact h)
   have hkI : ¬ (k : Int) < (m2 : Int) := by omega
   have HGR : Hid (g < wr.heap.size) := Lib.hid HM.out.blk.lt
   have hba : Below wr.heap.size wr (wr.alloc (.map #[] 0)) := (Below.refl _ _).alloc (Nat.le_refl _) _
   have HSM : Hid (∃ n, SeenI (wr.alloc (.map #[] 0)) wr.heap.size n ((islN x).take 0) ∧ n ≤ 0) := Lib.hid ⟨0, SeenI.made wr, Nat.le_refl _⟩
   replace HZ := Lib.hid (HZ.out.up hba)
   have HBN : Hid (busN x ≤ 24) := Lib.hid (Nat.le_trans (busN_ok HOK.out).2 (by have := HL0.out; omega))
   have HIS := Lib.hid (natJ_isl HOK.out)
   have hmake := @run_makeMap Tryz.prog
   have z1 := HZ.out.blk.cell 1
   have zl := HZ.out.blk.lt
   clear hke HM HRW HXR HW hba hk hlt
   go_wp2_with fail
   clear hmake z1 zl
   generalize wr.alloc (.map #[] 0) = wm at *
   generalize wr.heap.size = bm at *
   go_loopw [102] (fun v102 wr => ∃ (k : Nat) (vZ : Value), k ≤ busN x ∧ v102 = .int .i64 k ∧ MdZ g w1 wr (.slice (some ⟨g1, 0, none⟩) m0 m0) (.slice (some ⟨g2, 0, none⟩) (busN x) (busN x)) vF vT vB vC vZ (mFrom x) (mTo x) uB uC (mB x) (mC x) (pick (freeB (islN x)) k) ∧ ∃ n, SeenI wr bm n ((islN x).take k) ∧ n ≤ k) (fun v102 _ => busN x - (intOf v102).toNat)
   case atStart => exact ⟨0, _, Nat.zero_le _, rfl, HZ.out, HSM.out⟩
   case round =>
    clear HZ HSM
    obtain ⟨k, vZ, hk, rfl, hz, n, hsn, hn⟩ := hrel
    have HZ := Lib.hid hz
    have HSN := Lib.hid hsn
    have hz1 := hz.low
    clear hz hsn
    by_cases hlt : k < busN x
    ·obtain ⟨s, hs⟩ : ∃ s, (islN x)[k]? = some s := ⟨_, List.getElem?_eq_getElem (by rw [HIS.out.2]; exact hlt)⟩
     have hi0 : (islR x)[k]? = some (s : Int) := by rw [← HIS.out.1]; exact natJ_at hs
     have hic := intsGet (HK2.out.below hz1 (by have := HK2.out.lt; have := HG.out; omega)) hi0
     have HTK := Lib.hid (take_at hs)
     have hsd : (islN x).getD k 0 = s := by rw [List.getD_eq_getElem?_getD, hs]; rfl
     have HFR : Hid ((((islN x).take k).any fun y => y == s) = freeB (islN x) k) := Lib.hid (by rw [← seen_free (by rw [HIS.out.2]; exact hlt), hsd])
     have HPK := Lib.hid (pick_succ (freeB (islN x)) k)
     have hs24 : s ≤ 24 := by
      have h1 := (parts_ok (brE_ok HOK.out).1).2 (s : Int) (List.mem_of_getElem? hi0)
      have := HBN.out
      omega
     have HKEY : Hid (keyOf Tryz.prog 3 (.int .i64 (s : Int)) = some (.int .i64 (s : Int))) := Lib.hid (keyOf_int_mk Tryz.underlying3 (by simp [Lit.wf, IntKind.min, IntKind.max, IntKind.signed, IntKind.bits]; omega))
     have hgl2 : g2 < wr.heap.size := by have := HK2.out.lt; have := HG.out; have := hz1.size; omega
     have hkI : (k : Int) < (busN x : Int) := by omega
     have HN1 : Hid ((k : Int) + 1 = ((k + 1 : Nat) : Int)) := Lib.hid (by omega)
     have HN2 : Hid (busN x - (k + 1) < busN x - k) := Lib.hid (by omega)
     have hb24 := HBN.out
     have HGG2 : Hid (g ≤ w1.heap.size) := Lib.hid (by rw [HG.out]; exact Nat.le_refl _)
     have HPL : Hid ((pick (freeB (islN x)) k).length ≤ 24) := Lib.hid (by unfold pick; refine Nat.le_trans (List.length_filter_le _ _) ?_; rw [List.length_range]; omega)
     clear hs hi0 hsd hz1
     have hsnn := HSN.out
     obtain ⟨D, hown, hmap, hat⟩ := hsnn
     have HO1 := Lib.hid hown
     have HAT := Lib.hid hat
     have hn24 : n ≤ 24 := by omega
     cases hfb : freeB (islN x) k with
     | false =>
      have HSEEN : Hid (D.atKey (.int .i64 (s : Int)) (.lit (.bool false)) = .lit (.bool false)) := Lib.hid (by rw [HAT.out, HFR.out, hfb])
      have HPK2 : Hid (pick (freeB (islN x)) (k + 1) = pick (freeB (islN x)) k) := Lib.hid (by rw [HPK.out, hfb]; simp)
      clear hfb hown hat
      go_wp2_with (first | (at_lookup; refine wpList_lookup_own_bool _ rfl _ _ 156 rfl 3 4 law_int Tryz.underlying156 Tryz.underlying4 (zero_bool _) bm n D rfl HO1.out _ _ rfl HKEY.out _ HSEEN.out ?_) | (at_mapUpdate; refine wpList_mapUpdate_own _ rfl _ _ _ 156 rfl 3 4 law_int Tryz.underlying156 _ bm n D rfl HO1.out (by unfold maxLen; omega) _ _ _ rfl rfl HKEY.out _ [] (plainElem_bool Tryz.underlying4 true) ?_))
      intro w5 hown5 hg5
      have HS5 := Lib.hid (SeenI.put s hown5 hmap HAT.out)
      have HZ5 := Lib.hid (HZ.out.mapped HSN.out hg5 HGR.out HGG2.out)
      clear hown5 hg5 HO1 HAT HSEEN hic hgl2
      go_wp2_with fail
      go_roundw
      case rel => exact ⟨k + 1, vZ, hlt, val_int HN1.out, by rw [HPK2.out]; exact HZ5.out, n + 1, by rw [HTK.out]; exact HS5.out, by omega⟩
      case measure => exact HN2.out
     | true =>
      have HSEEN : Hid (D.atKey (.int .i64 (s : Int)) (.lit (.bool false)) = .lit (.bool true)) := Lib.hid (by rw [HAT.out, HFR.out, hfb])
      have HPK2 : Hid (pick (freeB (islN x)) (k + 1) = pick (freeB (islN x)) k ++ [k]) := Lib.hid (by rw [HPK.out, hfb]; simp)
      have hba : Below wr.heap.size wr (wr.alloc (.cells #[.int .i64 (k : Int)] 3)) := (Below.refl _ _).alloc (Nat.le_refl _) _
      have HZA := Lib.hid (HZ.out.up hba)
      have HSA := Lib.hid (HSN.out.below hba)
      have HLT := Lib.hid (Blk.new wr 3 #[.int .i64 (k : Int)])
      have z6 := HZ.out.blk.cell 6
      have zl := HZ.out.blk.lt
      clear hfb hown hat hba
      go_wp2_with (first | (at_lookup; refine wpList_lookup_own_bool _ rfl _ _ 156 rfl 3 4 law_int Tryz.underlying156 Tryz.underlying4 (zero_bool _) bm n D rfl HO1.out _ _ rfl HKEY.out _ HSEEN.out ?_) | (at_builtin; refine wpList_app_blk2 (S := IsI) rfl (.tmp 114) (.tmp 116) 53 rfl (g + 1) 3 i0 _ 1 8 Tryz.underlying53 HI0.out HI1.out HI2.out HI3.out rfl (by omega) zi_I vZ _ _ rfl HZA.out.oZ wr.heap.size 3 #[.int .i64 (k : Int)] rfl HLT.out rfl ?k1 ?k2 ?k3 ?k4 ?_))
      case k1 => first | (intro u hu; rw [show u = .int .i64 (k : Int) from by simpa using hu]; exact ⟨rfl, _, rfl⟩) | exact ⟨rfl, _, rfl⟩
      case k2 => have := HPL.out; simp only [maxLen]; omega
      case k3 => have := HPL.out; omega
      case k4 => exact HZA.out.blk.lt
      intro pA pn pc w9 q1 q2 q3 q4
      have hz9 := HZA.out.app q1 q2 (by simpa using q3) (fun i hi => q4 i (by simpa using hi))
      have hgr9 : (wr.alloc (.cells #[.int .i64 (k : Int)] 3)).grownBy w9 vZ.ownBlock := ⟨q2.low.os, q2.low.tape, q2.low.output, q2.size, fun i hi hne => q4 i (by simpa using hi) (fun e => hne e.symm)⟩
      have hs9 := HSA.out.kept hgr9 (SeenI.apart HSA.out HZA.out.oZ)
      have hb9 := q2.blk _ _ _ HZA.out.blk (by decide)
      have HS9 : Hid (SeenI (w9.setCell ⟨g, 6, none⟩ (.slice pA pn pc)) bm n ((islN x).take k)) := Lib.hid (hs9.kept (only_setCell (only_of_below (Below.refl _ _) (some g)) (.inl rfl) _) (by intro e; injection e with e; have := HGR.out; omega))
      have HZ9 := Lib.hid hz9
      have p6 := hb9.cell 6
      have pl := hb9.lt
      have pf := hb9.frozen
      clear q1 q2 q3 q4 hz9 hgr9 hs9 hb9 HZA HSA HLT HO1 HAT HSEEN hic hgl2 z6 zl HSN HZ hmap
      go_upto_region 17 with fail
      clear p6 pl pf
      generalize w9.setCell ⟨g, 6, none⟩ (.slice pA pn pc) = wq at *
      generalize Value.slice pA pn pc = vZ2 at *
      have hsq := HS9.out
      obtain ⟨D2, hown, hmap, hat⟩ := hsq
      have HO2 := Lib.hid hown
      have HAT2 := Lib.hid hat
      clear hown hat
      go_wp2_with (at_mapUpdate; refine wpList_mapUpdate_own _ rfl _ _ _ 156 rfl 3 4 law_int Tryz.underlying156 _ bm n D2 rfl HO2.out (by unfold maxLen; omega) _ _ _ rfl rfl HKEY.out _ [] (plainElem_bool Tryz.underlying4 true) ?_)
      intro w5 hown5 hg5
      have HS5 := Lib.hid (SeenI.put s hown5 hmap HAT2.out)
      have HZ5 := Lib.hid (HZ9.out.mapped HS9.out hg5 HGR.out HGG2.out)
      clear hown5 hg5 HO2 HAT2
      go_wp2_with fail
      go_roundw
      case rel => exact ⟨k + 1, vZ2, hlt, val_int HN1.out, by rw [HPK2.out]; exact HZ5.out, n + 1, by rw [HTK.out]; exact HS5.out, by omega⟩
      case measure => exact HN2.out
    ·have hkI : ¬ (k : Int) < (busN x : Int) := by omega
     have hke : k = busN x := by omega
     have hFL : pick (freeB (islN x)) k = freeL x := by rw [hke]; rfl
     have hzz := HZ.out
     rw [hFL] at hzz
     obtain ⟨aF, cF, hvF, hrF⟩ := rdI_ownS hzz.oF
     obtain ⟨aT, cT, hvT, hrT⟩ := rdI_ownS hzz.oT
     obtain ⟨aZ, cZ, hvZ, hrZ⟩ := rdI_ownS hzz.oZ
     obtain ⟨aB, cB, hvB, hrB, -⟩ := hzz.oB.rd
     obtain ⟨aC, cC, hvC, hrC, -⟩ := hzz.oC.rd
     have hk1 := HK1.out.below hzz.low (by have := HK1.out.lt; have := HG.out; omega)
     have hk2 := HK2.out.below hzz.low (by have := HK2.out.lt; have := HG.out; omega)
     have hbl := (busR_ok HOK.out).1
     have hisl := (parts_ok (brE_ok HOK.out).1).1
     have HMO : Hid (RdMod wr wr.heap.size ⟨some ⟨g1, 0, none⟩, m0, m0, some ⟨g2, 0, none⟩, busN x, busN x, aF, (mFrom x).length, cF, aT, (mTo x).length, cT, aB, (mB x).length, cB, aC, (mC x).length, cC, aZ, (freeL x).length, cZ⟩ x) := Lib.hid ⟨rdI_blk hk1 (by rw [hbl]; exact HL0.out), rdI_blk hk2 hisl, hrF, hrT, hrB, hrC, hrZ⟩
     have HBK := Lib.hid hzz.blk
     rw [hvF, hvT, hvZ, hvB, hvC] at HBK
     have HLOW := Lib.hid hzz.low
     have HIV := Lib.hid (invert_any g ⟨some ⟨g1, 0, none⟩, m0, m0, some ⟨g2, 0, none⟩, busN x, busN x, aF, (mFrom x).length, cF, aT, (mTo x).length, cT, aB, (mB x).length, cB, aC, (mC x).length, cC, aZ, (freeL x).length, cZ⟩ x HOK.out H8.out wr HBK.out HMO.out)
     have zl := HBK.out.lt
     clear hke hFL hzz hvF hrF hvT hrT hvZ hrZ hvB hrB hvC hrC hk1 hk2 hbl hisl HZ HSN HMO HBK
     go_wp2_with fail
     refine HIV.out.mono ?_
     rintro e w5 ⟨rfl, hgr, hmo, A, n9, c9, hbk, hinv⟩
     have HB5 : Hid (Below w.heap.size w w5) := Lib.hid (HB1.out.trans (below_only HLOW.out hgr (Nat.le_refl _) (by rw [HG.out]; exact Nat.le_refl _) |>.mono HGW.out.2))
     have HMO := Lib.hid hmo
     have HBK := Lib.hid hbk
     have HINV := Lib.hid hinv
     clear hgr hmo hbk hinv HIV
     go_wp2_with fail
     go_ret
     exact ⟨HB5.out, g, _, A, n9, c9, rfl, HGW.out.2, HBK.out, HMO.out, HINV.out⟩
end
end Go.Proofs.YtakllkkmofdpaaaGreatDoor
