import Derived.Test.YtakllkkmofdpaaaGreatDoorU17
set_option linter.unusedVariables false
set_option linter.unusedSimpArgs false
namespace Go.Proofs.YtakllkkmofdpaaaGreatDoor
section
open Go.ChangeShapes Go.WideShapes Go.ChangeAt Go.RowKit
attribute [local go_sem ↓] execOp_call_val
attribute [local go_sem] callVal_func setCell_drewN alloc_drewN
theorem den_pos_int (p q : Rat) : (p.den : Int) * (q.den : Int) ≠ 0 := by
 have h1 := p.den_pos
 have h2 := q.den_pos
 have : 0 < p.den * q.den := Nat.mul_pos h1 h2
 rw [← Int.natCast_mul]
 omega
theorem add_ratio' (a b : Rat) : Rat.divInt (a.num * (b.den : Int) + b.num * (a.den : Int)) ((a.den : Int) * (b.den : Int)) = a + b := by
 rw [← Int.natCast_mul]; exact add_ratio a b
theorem mul_ratio' (a b : Rat) : Rat.divInt (a.num * b.num) ((a.den : Int) * (b.den : Int)) = a * b := by
 rw [← Int.natCast_mul]; exact mul_ratio a b
set_option maxRecDepth 100000 in
set_option maxHeartbeats 4000000 in
theorem rmul_any (p q : Rat) (b1 : Bool) (A : Option Addr) (n c : Nat) (b2 : Bool) (A2 : Option Addr) (n2 c2 : Nat) (b3 : Bool) (B : Option Addr) (m d : Nat) (b4 : Bool) (B2 : Option Addr) (m2 d2 : Nat) (w : World) (h1 : RtIs w w.heap.size p b1 A n c b2 A2 n2 c2) (h2 : RtIs w w.heap.size q b3 B m d b4 B2 m2 d2) (hs : qsz p + qsz q + 1 ≤ 35184372088832) :
    Calls Tryz.prog 53 #[.agg #[.bool b1, .slice A n c, .bool b2, .slice A2 n2 c2], .agg #[.bool b3, .slice B m d, .bool b4, .slice B2 m2 d2]] w (RtP (p * q) w) := by
 have l1 := h1.n_le
 have l2 := h1.m_le
 have l3 := h2.n_le
 have l4 := h2.m_le
 have HB0 : Hid (Below w.heap.size w (((w.alloc (.cells #[.bool b1, .slice A n c, .bool b2, .slice A2 n2 c2] 93)).alloc (.cells #[.bool b3, .slice B m d, .bool b4, .slice B2 m2 d2] 93)).alloc (.cells #[.bool false, .slice none 0 0, .bool false, .slice none 0 0] 93))) := Lib.hid ((((Below.refl _ _).alloc (Nat.le_refl _) _).alloc (by simp) _).alloc (by simp; omega) _)
 have HX1 : Hid (Blk (((w.alloc (.cells #[.bool b1, .slice A n c, .bool b2, .slice A2 n2 c2] 93)).alloc (.cells #[.bool b3, .slice B m d, .bool b4, .slice B2 m2 d2] 93)).alloc (.cells #[.bool false, .slice none 0 0, .bool false, .slice none 0 0] 93)) w.heap.size 93 #[.bool b1, .slice A n c, .bool b2, .slice A2 n2 c2]) := Lib.hid (((Blk.new w _ _).alloc _).alloc _)
 have HX2 : Hid (Blk (((w.alloc (.cells #[.bool b1, .slice A n c, .bool b2, .slice A2 n2 c2] 93)).alloc (.cells #[.bool b3, .slice B m d, .bool b4, .slice B2 m2 d2] 93)).alloc (.cells #[.bool false, .slice none 0 0, .bool false, .slice none 0 0] 93)) (w.heap.size + 1) 93 #[.bool b3, .slice B m d, .bool b4, .slice B2 m2 d2]) := Lib.hid ((Blk.new_ (by simp)).alloc _)
 have HR : Hid (Blk (((w.alloc (.cells #[.bool b1, .slice A n c, .bool b2, .slice A2 n2 c2] 93)).alloc (.cells #[.bool b3, .slice B m d, .bool b4, .slice B2 m2 d2] 93)).alloc (.cells #[.bool false, .slice none 0 0, .bool false, .slice none 0 0] 93)) (w.heap.size + 1 + 1) 93 #[.bool false, .slice none 0 0, .bool false, .slice none 0 0]) := Lib.hid (Blk.new_ (by simp))
 have hgs : w.heap.size ≤ w.heap.size + 1 + 1 := by omega
 have H1 := Lib.hid (h1.up HB0.out)
 have H2 := Lib.hid (h2.up HB0.out)
 clear h1 h2
 go_enter Tryz.func53, Tryz.ntmps53
 go_upto_region 1 with fail
 generalize (((w.alloc (.cells #[.bool b1, .slice A n c, .bool b2, .slice A2 n2 c2] 93)).alloc (.cells #[.bool b3, .slice B m d, .bool b4, .slice B2 m2 d2] 93)).alloc (.cells #[.bool false, .slice none 0 0, .bool false, .slice none 0 0] 93)) = W at *
 have p0 := HX1.out.cell 0
 have p1 := HX1.out.cell 1
 have p2 := HX1.out.cell 2
 have p3 := HX1.out.cell 3
 have pl := HX1.out.lt
 have q0 := HX2.out.cell 0
 have q1 := HX2.out.cell 1
 have q2 := HX2.out.cell 2
 have q3 := HX2.out.cell 3
 have ql := HX2.out.lt
 have HB4 := Lib.hid (below_drew (Below.refl W.heap.size W))
 refine wp_region_last (S := fun w' => Below W.heap.size W w') 11 _ (by kernel_rfl) (by kernel_rfl) rfl HB4.out (fun hHeld => ?_)
 simp only [List.take_succ_cons, List.take_zero]
 refine tkH 0 rfl (by intro w' _ hcc; go_simp <;> with_reducible rfl) hHeld ?_
 try simp only [Act.put, sA_, sB_, sC_]
 refine tkH 1 rfl (by intro w' _ hcc; go_simp <;> with_reducible rfl) hHeld ?_
 try simp only [Act.put, sA_, sB_, sC_]
 refine tkH 2 rfl (by intro w' _ hcc; go_simp <;> with_reducible rfl) hHeld ?_
 try simp only [Act.put, sA_, sB_, sC_]
 refine tkH 3 rfl (by intro w' _ hcc; go_simp <;> with_reducible rfl) hHeld ?_
 try simp only [Act.put, sA_, sB_, sC_]
 refine tkH 5 rfl (by intro w' _ hcc; go_simp <;> with_reducible rfl) hHeld ?_
 try simp only [Act.put, sA_, sB_, sC_]
 refine tkH 6 rfl (by intro w' _ hcc; go_simp <;> with_reducible rfl) hHeld ?_
 try simp only [Act.put, sA_, sB_, sC_]
 refine tkH 7 rfl (by intro w' _ hcc; go_simp <;> with_reducible rfl) hHeld ?_
 try simp only [Act.put, sA_, sB_, sC_]
 refine tkH 8 rfl (by intro w' _ hcc; go_simp <;> with_reducible rfl) hHeld ?_
 try simp only [Act.put, sA_, sB_, sC_]
 refine stepH 4 (by kernel_rfl) rfl (fun K hK => ?_)
 go_simp
 refine (lgmul_any (p.num) (q.num) b1 A n c b3 B m d _ (H1.out.up HB4.out).num (H2.out.up HB4.out).num (by omega)).mono ?_
 rintro e w5 ⟨hb5, f5, C5, i5, j5, rfl, h5⟩
 have HB5 := Lib.hid (HB4.out.trans (hb5.mono HB4.out.size))
 have H5 := Lib.hid h5
 have s5 : i5 ≤ m + n := by rw [h5.en, ((H1.out.up HB4.out).num).en, ((H2.out.up HB4.out).num).en, Nat.add_comm]; exact dlen_mulZ _ _
 clear hb5 h5
 go_simp
 refine hK.out _ _ ?_ (fun hHeld => ?_)
 ·exact HB5.out
 clear hK K
 try simp only [Act.put, sA_, sB_, sC_]
 refine stepH 9 (by kernel_rfl) rfl (fun K hK => ?_)
 go_simp
 refine (lgmul_any ((p.den : Int)) ((q.den : Int)) b2 A2 n2 c2 b4 B2 m2 d2 _ (H1.out.up HB5.out).den (H2.out.up HB5.out).den (by omega)).mono ?_
 rintro e w6 ⟨hb6, f6, C6, i6, j6, rfl, h6⟩
 have HB6 := Lib.hid (HB5.out.trans (hb6.mono HB5.out.size))
 have H6 := Lib.hid h6
 have s6 : i6 ≤ m2 + n2 := by rw [h6.en, ((H1.out.up HB5.out).den).en, ((H2.out.up HB5.out).den).en, Nat.add_comm]; exact dlen_mulZ _ _
 have H5_6 := Lib.hid (H5.out.up hb6)
 clear hb6 h6
 go_simp
 refine hK.out _ _ ?_ (fun hHeld => ?_)
 ·exact HB6.out
 clear hK K
 try simp only [Act.put, sA_, sB_, sC_]
 refine stepH 10 (by kernel_rfl) rfl (fun K hK => ?_)
 go_simp
 refine (ratio_any (p.num * q.num) ((p.den : Int) * (q.den : Int)) f5 C5 i5 j5 f6 C6 i6 j6 _ H5_6.out H6.out (den_pos_int p q) (by omega) (by omega)).mono ?_
 rw [mul_ratio']
 rintro e w7 ⟨hb7, f7, C7, i7, j7, f7d, C7d, i7d, j7d, rfl, h7⟩
 have HB7 := Lib.hid (HB6.out.trans (hb7.mono HB6.out.size))
 have H7 := Lib.hid h7
 clear hb7 h7
 go_simp
 refine hK.out _ _ ?_ (fun hHeld => ?_)
 ·exact HB7.out
 clear hK K
 try simp only [Act.put, sA_, sB_, sC_]
 refine wpAnyH_done (by kernel_rfl) ?_ _
 refine lastQ_go (by rfl) ?_
 have HBF := Lib.hid (HB0.out.trans (HB7.out.mono HB0.out.size))
 have HGF := Lib.hid (HR.out.below HB7.out HR.out.lt)
 clear p0 p1 p2 p3 q0 q1 q2 q3 pl ql
 have z0 := HGF.out.cell 0
 have z1 := HGF.out.cell 1
 have z2 := HGF.out.cell 2
 have z3 := HGF.out.cell 3
 have zf := HGF.out.frozen
 have zl := HGF.out.lt
 go_wp2_with fail
 generalize hW9 : (((w7.setCell ⟨_, 0, none⟩ _).setCell ⟨_, 1, none⟩ _).setCell ⟨_, 2, none⟩ _).setCell ⟨_, 3, none⟩ _ = W9
 have HP9 := Lib.hid (rt_put (e := .returned (.agg #[.bool f7, .slice C7 i7 j7, .bool f7d, .slice C7d i7d j7d])) HBF.out hgs HGF.out (by simp) (by simp) (by simp) (by simp) H7.out rfl)
 rw [hW9] at HP9
 have HB9 : Hid (Blk W9 _ 93 #[.bool f7, .slice C7 i7 j7, .bool f7d, .slice C7d i7d j7d]) := Lib.hid (by rw [← hW9]; exact blk_set4 HGF.out)
 clear hW9 z0 z1 z2 z3 zf zl
 have q0 := HB9.out.cell 0
 have q1 := HB9.out.cell 1
 have q2 := HB9.out.cell 2
 have q3 := HB9.out.cell 3
 exact bodyPost_ret (v := .agg #[.bool f7, .slice C7 i7 j7, .bool f7d, .slice C7d i7d j7d]) (by simp [results, Tryz.results53, go_sem, q0, q1, q2, q3]) rfl HP9.out
set_option maxRecDepth 100000 in
set_option maxHeartbeats 4000000 in
theorem rdiv_any (p q : Rat) (b1 : Bool) (A : Option Addr) (n c : Nat) (b2 : Bool) (A2 : Option Addr) (n2 c2 : Nat) (b3 : Bool) (B : Option Addr) (m d : Nat) (b4 : Bool) (B2 : Option Addr) (m2 d2 : Nat) (w : World) (h1 : RtIs w w.heap.size p b1 A n c b2 A2 n2 c2) (h2 : RtIs w w.heap.size q b3 B m d b4 B2 m2 d2) (hq : q ≠ 0) (hs : qsz p + qsz q + 1 ≤ 35184372088832) :
    Calls Tryz.prog 85 #[.agg #[.bool b1, .slice A n c, .bool b2, .slice A2 n2 c2], .agg #[.bool b3, .slice B m d, .bool b4, .slice B2 m2 d2]] w (RtP (p / q) w) := by
 have l1 := h1.n_le
 have l2 := h1.m_le
 have l3 := h2.n_le
 have l4 := h2.m_le
 have HB0 : Hid (Below w.heap.size w (((w.alloc (.cells #[.bool b1, .slice A n c, .bool b2, .slice A2 n2 c2] 93)).alloc (.cells #[.bool b3, .slice B m d, .bool b4, .slice B2 m2 d2] 93)).alloc (.cells #[.bool false, .slice none 0 0, .bool false, .slice none 0 0] 93))) := Lib.hid ((((Below.refl _ _).alloc (Nat.le_refl _) _).alloc (by simp) _).alloc (by simp; omega) _)
 have HX1 : Hid (Blk (((w.alloc (.cells #[.bool b1, .slice A n c, .bool b2, .slice A2 n2 c2] 93)).alloc (.cells #[.bool b3, .slice B m d, .bool b4, .slice B2 m2 d2] 93)).alloc (.cells #[.bool false, .slice none 0 0, .bool false, .slice none 0 0] 93)) w.heap.size 93 #[.bool b1, .slice A n c, .bool b2, .slice A2 n2 c2]) := Lib.hid (((Blk.new w _ _).alloc _).alloc _)
 have HX2 : Hid (Blk (((w.alloc (.cells #[.bool b1, .slice A n c, .bool b2, .slice A2 n2 c2] 93)).alloc (.cells #[.bool b3, .slice B m d, .bool b4, .slice B2 m2 d2] 93)).alloc (.cells #[.bool false, .slice none 0 0, .bool false, .slice none 0 0] 93)) (w.heap.size + 1) 93 #[.bool b3, .slice B m d, .bool b4, .slice B2 m2 d2]) := Lib.hid ((Blk.new_ (by simp)).alloc _)
 have HR : Hid (Blk (((w.alloc (.cells #[.bool b1, .slice A n c, .bool b2, .slice A2 n2 c2] 93)).alloc (.cells #[.bool b3, .slice B m d, .bool b4, .slice B2 m2 d2] 93)).alloc (.cells #[.bool false, .slice none 0 0, .bool false, .slice none 0 0] 93)) (w.heap.size + 1 + 1) 93 #[.bool false, .slice none 0 0, .bool false, .slice none 0 0]) := Lib.hid (Blk.new_ (by simp))
 have hgs : w.heap.size ≤ w.heap.size + 1 + 1 := by omega
 have H1 := Lib.hid (h1.up HB0.out)
 have H2 := Lib.hid (h2.up HB0.out)
 clear h1 h2
 go_enter Tryz.func85, Tryz.ntmps85
 go_upto_region 1 with fail
 generalize (((w.alloc (.cells #[.bool b1, .slice A n c, .bool b2, .slice A2 n2 c2] 93)).alloc (.cells #[.bool b3, .slice B m d, .bool b4, .slice B2 m2 d2] 93)).alloc (.cells #[.bool false, .slice none 0 0, .bool false, .slice none 0 0] 93)) = W at *
 have p0 := HX1.out.cell 0
 have p1 := HX1.out.cell 1
 have p2 := HX1.out.cell 2
 have p3 := HX1.out.cell 3
 have pl := HX1.out.lt
 have q0 := HX2.out.cell 0
 have q1 := HX2.out.cell 1
 have q2 := HX2.out.cell 2
 have q3 := HX2.out.cell 3
 have ql := HX2.out.lt
 have HB4 := Lib.hid (below_drew (Below.refl W.heap.size W))
 refine wp_region_last (S := fun w' => Below W.heap.size W w') 11 _ (by kernel_rfl) (by kernel_rfl) rfl HB4.out (fun hHeld => ?_)
 simp only [List.take_succ_cons, List.take_zero]
 refine tkH 0 rfl (by intro w' _ hcc; go_simp <;> with_reducible rfl) hHeld ?_
 try simp only [Act.put, sA_, sB_, sC_]
 refine tkH 1 rfl (by intro w' _ hcc; go_simp <;> with_reducible rfl) hHeld ?_
 try simp only [Act.put, sA_, sB_, sC_]
 refine tkH 2 rfl (by intro w' _ hcc; go_simp <;> with_reducible rfl) hHeld ?_
 try simp only [Act.put, sA_, sB_, sC_]
 refine tkH 3 rfl (by intro w' _ hcc; go_simp <;> with_reducible rfl) hHeld ?_
 try simp only [Act.put, sA_, sB_, sC_]
 refine tkH 5 rfl (by intro w' _ hcc; go_simp <;> with_reducible rfl) hHeld ?_
 try simp only [Act.put, sA_, sB_, sC_]
 refine tkH 6 rfl (by intro w' _ hcc; go_simp <;> with_reducible rfl) hHeld ?_
 try simp only [Act.put, sA_, sB_, sC_]
 refine tkH 7 rfl (by intro w' _ hcc; go_simp <;> with_reducible rfl) hHeld ?_
 try simp only [Act.put, sA_, sB_, sC_]
 refine tkH 8 rfl (by intro w' _ hcc; go_simp <;> with_reducible rfl) hHeld ?_
 try simp only [Act.put, sA_, sB_, sC_]
 refine stepH 4 (by kernel_rfl) rfl (fun K hK => ?_)
 go_simp
 refine (lgmul_any (p.num) ((q.den : Int)) b1 A n c b4 B2 m2 d2 _ (H1.out.up HB4.out).num (H2.out.up HB4.out).den (by omega)).mono ?_
 rintro e w5 ⟨hb5, f5, C5, i5, j5, rfl, h5⟩
 have HB5 := Lib.hid (HB4.out.trans (hb5.mono HB4.out.size))
 have H5 := Lib.hid h5
 have s5 : i5 ≤ m2 + n := by rw [h5.en, ((H1.out.up HB4.out).num).en, ((H2.out.up HB4.out).den).en, Nat.add_comm]; exact dlen_mulZ _ _
 clear hb5 h5
 go_simp
 refine hK.out _ _ ?_ (fun hHeld => ?_)
 ·exact HB5.out
 clear hK K
 try simp only [Act.put, sA_, sB_, sC_]
 refine stepH 9 (by kernel_rfl) rfl (fun K hK => ?_)
 go_simp
 refine (lgmul_any ((p.den : Int)) (q.num) b2 A2 n2 c2 b3 B m d _ (H1.out.up HB5.out).den (H2.out.up HB5.out).num (by omega)).mono ?_
 rintro e w6 ⟨hb6, f6, C6, i6, j6, rfl, h6⟩
 have HB6 := Lib.hid (HB5.out.trans (hb6.mono HB5.out.size))
 have H6 := Lib.hid h6
 have s6 : i6 ≤ m + n2 := by rw [h6.en, ((H1.out.up HB5.out).den).en, ((H2.out.up HB5.out).num).en, Nat.add_comm]; exact dlen_mulZ _ _
 have H5_6 := Lib.hid (H5.out.up hb6)
 clear hb6 h6
 go_simp
 refine hK.out _ _ ?_ (fun hHeld => ?_)
 ·exact HB6.out
 clear hK K
 try simp only [Act.put, sA_, sB_, sC_]
 refine stepH 10 (by kernel_rfl) rfl (fun K hK => ?_)
 go_simp
 refine (ratio_any (p.num * (q.den : Int)) ((p.den : Int) * q.num) f5 C5 i5 j5 f6 C6 i6 j6 _ H5_6.out H6.out (Int.mul_ne_zero (by have := p.den_pos; omega) fun h => hq (Rat.num_eq_zero.1 h)) (by omega) (by omega)).mono ?_
 rw [div_ratio]
 rintro e w7 ⟨hb7, f7, C7, i7, j7, f7d, C7d, i7d, j7d, rfl, h7⟩
 have HB7 := Lib.hid (HB6.out.trans (hb7.mono HB6.out.size))
 have H7 := Lib.hid h7
 clear hb7 h7
 go_simp
 refine hK.out _ _ ?_ (fun hHeld => ?_)
 ·exact HB7.out
 clear hK K
 try simp only [Act.put, sA_, sB_, sC_]
 refine wpAnyH_done (by kernel_rfl) ?_ _
 refine lastQ_go (by rfl) ?_
 have HBF := Lib.hid (HB0.out.trans (HB7.out.mono HB0.out.size))
 have HGF := Lib.hid (HR.out.below HB7.out HR.out.lt)
 clear p0 p1 p2 p3 q0 q1 q2 q3 pl ql
 have z0 := HGF.out.cell 0
 have z1 := HGF.out.cell 1
 have z2 := HGF.out.cell 2
 have z3 := HGF.out.cell 3
 have zf := HGF.out.frozen
 have zl := HGF.out.lt
 go_wp2_with fail
 generalize hW9 : (((w7.setCell ⟨_, 0, none⟩ _).setCell ⟨_, 1, none⟩ _).setCell ⟨_, 2, none⟩ _).setCell ⟨_, 3, none⟩ _ = W9
 have HP9 := Lib.hid (rt_put (e := .returned (.agg #[.bool f7, .slice C7 i7 j7, .bool f7d, .slice C7d i7d j7d])) HBF.out hgs HGF.out (by simp) (by simp) (by simp) (by simp) H7.out rfl)
 rw [hW9] at HP9
 have HB9 : Hid (Blk W9 _ 93 #[.bool f7, .slice C7 i7 j7, .bool f7d, .slice C7d i7d j7d]) := Lib.hid (by rw [← hW9]; exact blk_set4 HGF.out)
 clear hW9 z0 z1 z2 z3 zf zl
 have q0 := HB9.out.cell 0
 have q1 := HB9.out.cell 1
 have q2 := HB9.out.cell 2
 have q3 := HB9.out.cell 3
 exact bodyPost_ret (v := .agg #[.bool f7, .slice C7 i7 j7, .bool f7d, .slice C7d i7d j7d]) (by simp [results, Tryz.results85, go_sem, q0, q1, q2, q3]) rfl HP9.out
set_option maxRecDepth 100000 in
set_option maxHeartbeats 4000000 in
theorem radd_any (p q : Rat) (b1 : Bool) (A : Option Addr) (n c : Nat) (b2 : Bool) (A2 : Option Addr) (n2 c2 : Nat) (b3 : Bool) (B : Option Addr) (m d : Nat) (b4 : Bool) (B2 : Option Addr) (m2 d2 : Nat) (w : World) (h1 : RtIs w w.heap.size p b1 A n c b2 A2 n2 c2) (h2 : RtIs w w.heap.size q b3 B m d b4 B2 m2 d2) (hs : qsz p + qsz q + 1 ≤ 35184372088832) :
    Calls Tryz.prog 51 #[.agg #[.bool b1, .slice A n c, .bool b2, .slice A2 n2 c2], .agg #[.bool b3, .slice B m d, .bool b4, .slice B2 m2 d2]] w (RtP (p + q) w) := by
 have l1 := h1.n_le
 have l2 := h1.m_le
 have l3 := h2.n_le
 have l4 := h2.m_le
 have HB0 : Hid (Below w.heap.size w (((w.alloc (.cells #[.bool b1, .slice A n c, .bool b2, .slice A2 n2 c2] 93)).alloc (.cells #[.bool b3, .slice B m d, .bool b4, .slice B2 m2 d2] 93)).alloc (.cells #[.bool false, .slice none 0 0, .bool false, .slice none 0 0] 93))) := Lib.hid ((((Below.refl _ _).alloc (Nat.le_refl _) _).alloc (by simp) _).alloc (by simp; omega) _)
 have HX1 : Hid (Blk (((w.alloc (.cells #[.bool b1, .slice A n c, .bool b2, .slice A2 n2 c2] 93)).alloc (.cells #[.bool b3, .slice B m d, .bool b4, .slice B2 m2 d2] 93)).alloc (.cells #[.bool false, .slice none 0 0, .bool false, .slice none 0 0] 93)) w.heap.size 93 #[.bool b1, .slice A n c, .bool b2, .slice A2 n2 c2]) := Lib.hid (((Blk.new w _ _).alloc _).alloc _)
 have HX2 : Hid (Blk (((w.alloc (.cells #[.bool b1, .slice A n c, .bool b2, .slice A2 n2 c2] 93)).alloc (.cells #[.bool b3, .slice B m d, .bool b4, .slice B2 m2 d2] 93)).alloc (.cells #[.bool false, .slice none 0 0, .bool false, .slice none 0 0] 93)) (w.heap.size + 1) 93 #[.bool b3, .slice B m d, .bool b4, .slice B2 m2 d2]) := Lib.hid ((Blk.new_ (by simp)).alloc _)
 have HR : Hid (Blk (((w.alloc (.cells #[.bool b1, .slice A n c, .bool b2, .slice A2 n2 c2] 93)).alloc (.cells #[.bool b3, .slice B m d, .bool b4, .slice B2 m2 d2] 93)).alloc (.cells #[.bool false, .slice none 0 0, .bool false, .slice none 0 0] 93)) (w.heap.size + 1 + 1) 93 #[.bool false, .slice none 0 0, .bool false, .slice none 0 0]) := Lib.hid (Blk.new_ (by simp))
 have hgs : w.heap.size ≤ w.heap.size + 1 + 1 := by omega
 have H1 := Lib.hid (h1.up HB0.out)
 have H2 := Lib.hid (h2.up HB0.out)
 clear h1 h2
 go_enter Tryz.func51, Tryz.ntmps51
 go_upto_region 1 with fail
 generalize (((w.alloc (.cells #[.bool b1, .slice A n c, .bool b2, .slice A2 n2 c2] 93)).alloc (.cells #[.bool b3, .slice B m d, .bool b4, .slice B2 m2 d2] 93)).alloc (.cells #[.bool false, .slice none 0 0, .bool false, .slice none 0 0] 93)) = W at *
 have p0 := HX1.out.cell 0
 have p1 := HX1.out.cell 1
 have p2 := HX1.out.cell 2
 have p3 := HX1.out.cell 3
 have pl := HX1.out.lt
 have q0 := HX2.out.cell 0
 have q1 := HX2.out.cell 1
 have q2 := HX2.out.cell 2
 have q3 := HX2.out.cell 3
 have ql := HX2.out.lt
 have HB4 := Lib.hid (below_drew (Below.refl W.heap.size W))
 refine wp_region_last (S := fun w' => Below W.heap.size W w') 17 _ (by kernel_rfl) (by kernel_rfl) rfl HB4.out (fun hHeld => ?_)
 simp only [List.take_succ_cons, List.take_zero]
 refine tkH 0 rfl (by intro w' _ hcc; go_simp <;> with_reducible rfl) hHeld ?_
 try simp only [Act.put, sA_, sB_, sC_]
 refine tkH 1 rfl (by intro w' _ hcc; go_simp <;> with_reducible rfl) hHeld ?_
 try simp only [Act.put, sA_, sB_, sC_]
 refine tkH 2 rfl (by intro w' _ hcc; go_simp <;> with_reducible rfl) hHeld ?_
 try simp only [Act.put, sA_, sB_, sC_]
 refine tkH 3 rfl (by intro w' _ hcc; go_simp <;> with_reducible rfl) hHeld ?_
 try simp only [Act.put, sA_, sB_, sC_]
 refine tkH 5 rfl (by intro w' _ hcc; go_simp <;> with_reducible rfl) hHeld ?_
 try simp only [Act.put, sA_, sB_, sC_]
 refine tkH 6 rfl (by intro w' _ hcc; go_simp <;> with_reducible rfl) hHeld ?_
 try simp only [Act.put, sA_, sB_, sC_]
 refine tkH 7 rfl (by intro w' _ hcc; go_simp <;> with_reducible rfl) hHeld ?_
 try simp only [Act.put, sA_, sB_, sC_]
 refine tkH 8 rfl (by intro w' _ hcc; go_simp <;> with_reducible rfl) hHeld ?_
 try simp only [Act.put, sA_, sB_, sC_]
 refine tkH 11 rfl (by intro w' _ hcc; go_simp <;> with_reducible rfl) hHeld ?_
 try simp only [Act.put, sA_, sB_, sC_]
 refine tkH 12 rfl (by intro w' _ hcc; go_simp <;> with_reducible rfl) hHeld ?_
 try simp only [Act.put, sA_, sB_, sC_]
 refine tkH 13 rfl (by intro w' _ hcc; go_simp <;> with_reducible rfl) hHeld ?_
 try simp only [Act.put, sA_, sB_, sC_]
 refine tkH 14 rfl (by intro w' _ hcc; go_simp <;> with_reducible rfl) hHeld ?_
 try simp only [Act.put, sA_, sB_, sC_]
 refine stepH 4 (by kernel_rfl) rfl (fun K hK => ?_)
 go_simp
 refine (lgmul_any (p.num) ((q.den : Int)) b1 A n c b4 B2 m2 d2 _ (H1.out.up HB4.out).num (H2.out.up HB4.out).den (by omega)).mono ?_
 rintro e w5 ⟨hb5, f5, C5, i5, j5, rfl, h5⟩
 have HB5 := Lib.hid (HB4.out.trans (hb5.mono HB4.out.size))
 have H5 := Lib.hid h5
 have s5 : i5 ≤ m2 + n := by rw [h5.en, ((H1.out.up HB4.out).num).en, ((H2.out.up HB4.out).den).en, Nat.add_comm]; exact dlen_mulZ _ _
 clear hb5 h5
 go_simp
 refine hK.out _ _ ?_ (fun hHeld => ?_)
 ·exact HB5.out
 clear hK K
 try simp only [Act.put, sA_, sB_, sC_]
 refine stepH 9 (by kernel_rfl) rfl (fun K hK => ?_)
 go_simp
 refine (lgmul_any (q.num) ((p.den : Int)) b3 B m d b2 A2 n2 c2 _ (H2.out.up HB5.out).num (H1.out.up HB5.out).den (by omega)).mono ?_
 rintro e w6 ⟨hb6, f6, C6, i6, j6, rfl, h6⟩
 have HB6 := Lib.hid (HB5.out.trans (hb6.mono HB5.out.size))
 have H6 := Lib.hid h6
 have s6 : i6 ≤ n2 + m := by rw [h6.en, ((H2.out.up HB5.out).num).en, ((H1.out.up HB5.out).den).en, Nat.add_comm]; exact dlen_mulZ _ _
 have H5_6 := Lib.hid (H5.out.up hb6)
 clear hb6 h6
 go_simp
 refine hK.out _ _ ?_ (fun hHeld => ?_)
 ·exact HB6.out
 clear hK K
 try simp only [Act.put, sA_, sB_, sC_]
 refine stepH 10 (by kernel_rfl) rfl (fun K hK => ?_)
 go_simp
 refine (add_any (p.num * (q.den : Int)) (q.num * (p.den : Int)) f5 C5 i5 j5 f6 C6 i6 j6 _ H5_6.out H6.out (by omega) (by omega)).mono ?_
 rintro e w7 ⟨hb7, f7, C7, i7, j7, rfl, h7⟩
 have HB7 := Lib.hid (HB6.out.trans (hb7.mono HB6.out.size))
 have H7 := Lib.hid h7
 have s7 : i7 ≤ max i5 i6 + 1 := by rw [h7.en, H5_6.out.en, H6.out.en]; exact dlen_addZ _ _
 clear hb7 h7
 go_simp
 refine hK.out _ _ ?_ (fun hHeld => ?_)
 ·exact HB7.out
 clear hK K
 try simp only [Act.put, sA_, sB_, sC_]
 refine stepH 15 (by kernel_rfl) rfl (fun K hK => ?_)
 go_simp
 refine (lgmul_any ((p.den : Int)) ((q.den : Int)) b2 A2 n2 c2 b4 B2 m2 d2 _ (H1.out.up HB7.out).den (H2.out.up HB7.out).den (by omega)).mono ?_
 rintro e w8 ⟨hb8, f8, C8, i8, j8, rfl, h8⟩
 have HB8 := Lib.hid (HB7.out.trans (hb8.mono HB7.out.size))
 have H8 := Lib.hid h8
 have s8 : i8 ≤ m2 + n2 := by rw [h8.en, ((H1.out.up HB7.out).den).en, ((H2.out.up HB7.out).den).en, Nat.add_comm]; exact dlen_mulZ _ _
 have H7_8 := Lib.hid (H7.out.up hb8)
 clear hb8 h8
 go_simp
 refine hK.out _ _ ?_ (fun hHeld => ?_)
 ·exact HB8.out
 clear hK K
 try simp only [Act.put, sA_, sB_, sC_]
 refine stepH 16 (by kernel_rfl) rfl (fun K hK => ?_)
 go_simp
 refine (ratio_any (p.num * (q.den : Int) + q.num * (p.den : Int)) ((p.den : Int) * (q.den : Int)) f7 C7 i7 j7 f8 C8 i8 j8 _ H7_8.out H8.out (den_pos_int p q) (by omega) (by omega)).mono ?_
 rw [add_ratio']
 rintro e w9 ⟨hb9, f9, C9, i9, j9, f9d, C9d, i9d, j9d, rfl, h9⟩
 have HB9 := Lib.hid (HB8.out.trans (hb9.mono HB8.out.size))
 have H9 := Lib.hid h9
 clear hb9 h9
 go_simp
 refine hK.out _ _ ?_ (fun hHeld => ?_)
 ·exact HB9.out
 clear hK K
 try simp only [Act.put, sA_, sB_, sC_]
 refine wpAnyH_done (by kernel_rfl) ?_ _
 refine lastQ_go (by rfl) ?_
 have HBF := Lib.hid (HB0.out.trans (HB9.out.mono HB0.out.size))
 have HGF := Lib.hid (HR.out.below HB9.out HR.out.lt)
 clear p0 p1 p2 p3 q0 q1 q2 q3 pl ql
 have z0 := HGF.out.cell 0
 have z1 := HGF.out.cell 1
 have z2 := HGF.out.cell 2
 have z3 := HGF.out.cell 3
 have zf := HGF.out.frozen
 have zl := HGF.out.lt
 go_wp2_with fail
 generalize hW9 : (((w9.setCell ⟨_, 0, none⟩ _).setCell ⟨_, 1, none⟩ _).setCell ⟨_, 2, none⟩ _).setCell ⟨_, 3, none⟩ _ = W9
 have HP9 := Lib.hid (rt_put (e := .returned (.agg #[.bool f9, .slice C9 i9 j9, .bool f9d, .slice C9d i9d j9d])) HBF.out hgs HGF.out (by simp) (by simp) (by simp) (by simp) H9.out rfl)
 rw [hW9] at HP9
 have HB9 : Hid (Blk W9 _ 93 #[.bool f9, .slice C9 i9 j9, .bool f9d, .slice C9d i9d j9d]) := Lib.hid (by rw [← hW9]; exact blk_set4 HGF.out)
 clear hW9 z0 z1 z2 z3 zf zl
 have q0 := HB9.out.cell 0
 have q1 := HB9.out.cell 1
 have q2 := HB9.out.cell 2
 have q3 := HB9.out.cell 3
 exact bodyPost_ret (v := .agg #[.bool f9, .slice C9 i9 j9, .bool f9d, .slice C9d i9d j9d]) (by simp [results, Tryz.results51, go_sem, q0, q1, q2, q3]) rfl HP9.out
set_option maxRecDepth 100000 in
set_option maxHeartbeats 4000000 in
theorem rneg_any (p : Rat) (b1 : Bool) (A : Option Addr) (n c : Nat) (b2 : Bool) (A2 : Option Addr) (n2 c2 : Nat) (w : World) (h1 : RtIs w w.heap.size p b1 A n c b2 A2 n2 c2) :
    Calls Tryz.prog 87 #[.agg #[.bool b1, .slice A n c, .bool b2, .slice A2 n2 c2]] w (RtP (-p) w) := by
 have HB0 : Hid (Below w.heap.size w ((w.alloc (.cells #[.bool b1, .slice A n c, .bool b2, .slice A2 n2 c2] 93)).alloc (.cells #[.bool false, .slice none 0 0, .bool false, .slice none 0 0] 93))) := Lib.hid (((Below.refl _ _).alloc (Nat.le_refl _) _).alloc (by simp) _)
 have HX1 : Hid (Blk ((w.alloc (.cells #[.bool b1, .slice A n c, .bool b2, .slice A2 n2 c2] 93)).alloc (.cells #[.bool false, .slice none 0 0, .bool false, .slice none 0 0] 93)) w.heap.size 93 #[.bool b1, .slice A n c, .bool b2, .slice A2 n2 c2]) := Lib.hid ((Blk.new w _ _).alloc _)
 have HR : Hid (Blk ((w.alloc (.cells #[.bool b1, .slice A n c, .bool b2, .slice A2 n2 c2] 93)).alloc (.cells #[.bool false, .slice none 0 0, .bool false, .slice none 0 0] 93)) (w.heap.size + 1) 93 #[.bool false, .slice none 0 0, .bool false, .slice none 0 0]) := Lib.hid (Blk.new_ (by simp))
 have hgs : w.heap.size ≤ w.heap.size + 1 := by omega
 have H1 := Lib.hid (h1.up HB0.out)
 clear h1
 go_enter Tryz.func87, Tryz.ntmps87
 go_upto_region 1 with fail
 generalize ((w.alloc (.cells #[.bool b1, .slice A n c, .bool b2, .slice A2 n2 c2] 93)).alloc (.cells #[.bool false, .slice none 0 0, .bool false, .slice none 0 0] 93)) = W at *
 have p0 := HX1.out.cell 0
 have p1 := HX1.out.cell 1
 have p2 := HX1.out.cell 2
 have p3 := HX1.out.cell 3
 have pl := HX1.out.lt
 have HB4 := Lib.hid (below_drew (Below.refl W.heap.size W))
 refine wp_region_last (S := fun w' => Below W.heap.size W w') 6 _ (by kernel_rfl) (by kernel_rfl) rfl HB4.out (fun hHeld => ?_)
 simp only [List.take_succ_cons, List.take_zero]
 refine tkH 0 rfl (by intro w' _ hcc; go_simp <;> with_reducible rfl) hHeld ?_
 try simp only [Act.put, sA_, sB_, sC_]
 refine tkH 1 rfl (by intro w' _ hcc; go_simp <;> with_reducible rfl) hHeld ?_
 try simp only [Act.put, sA_, sB_, sC_]
 refine tkH 3 rfl (by intro w' _ hcc; go_simp <;> with_reducible rfl) hHeld ?_
 try simp only [Act.put, sA_, sB_, sC_]
 refine tkH 4 rfl (by intro w' _ hcc; go_simp <;> with_reducible rfl) hHeld ?_
 try simp only [Act.put, sA_, sB_, sC_]
 refine stepH 2 (by kernel_rfl) rfl (fun K hK => ?_)
 go_simp
 refine (neg_any p.num b1 A n c _ (H1.out.up HB4.out).num).mono ?_
 rintro e w5 ⟨hb5, f5, C5, i5, j5, rfl, h5⟩
 have HB5 := Lib.hid (HB4.out.trans (hb5.mono HB4.out.size))
 have H5 : Hid (RtIs w5 w5.heap.size (-p) f5 C5 i5 j5 b2 A2 n2 c2) := Lib.hid ⟨h5, (H1.out.up HB5.out).den⟩
 clear hb5 h5
 go_simp
 refine hK.out _ _ ?_ (fun hHeld => ?_)
 ·exact HB5.out
 clear hK K
 try simp only [Act.put, sA_, sB_, sC_]
 refine tkH 5 rfl (by intro w' _ hcc; go_simp <;> with_reducible rfl) hHeld ?_
 try simp only [Act.put, sA_, sB_, sC_]
 refine wpAnyH_done (by kernel_rfl) ?_ _
 refine lastQ_go (by rfl) ?_
 have HBF := Lib.hid (HB0.out.trans (HB5.out.mono HB0.out.size))
 have HGF := Lib.hid (HR.out.below HB5.out HR.out.lt)
 clear p0 p1 p2 p3 pl
 have z0 := HGF.out.cell 0
 have z1 := HGF.out.cell 1
 have z2 := HGF.out.cell 2
 have z3 := HGF.out.cell 3
 have zf := HGF.out.frozen
 have zl := HGF.out.lt
 go_wp2_with fail
 generalize hW9 : (((w5.setCell ⟨_, 0, none⟩ _).setCell ⟨_, 1, none⟩ _).setCell ⟨_, 2, none⟩ _).setCell ⟨_, 3, none⟩ _ = W9
 have HP9 := Lib.hid (rt_put (e := .returned (.agg #[.bool f5, .slice C5 i5 j5, .bool b2, .slice A2 n2 c2])) HBF.out hgs HGF.out (by simp) (by simp) (by simp) (by simp) H5.out rfl)
 rw [hW9] at HP9
 have HB9 : Hid (Blk W9 _ 93 #[.bool f5, .slice C5 i5 j5, .bool b2, .slice A2 n2 c2]) := Lib.hid (by rw [← hW9]; exact blk_set4 HGF.out)
 clear hW9 z0 z1 z2 z3 zf zl
 have q0 := HB9.out.cell 0
 have q1 := HB9.out.cell 1
 have q2 := HB9.out.cell 2
 have q3 := HB9.out.cell 3
 exact bodyPost_ret (v := .agg #[.bool f5, .slice C5 i5 j5, .bool b2, .slice A2 n2 c2]) (by simp [results, Tryz.results87, go_sem, q0, q1, q2, q3]) rfl HP9.out
set_option maxRecDepth 100000 in
set_option maxHeartbeats 4000000 in
theorem rsub_any (p q : Rat) (b1 : Bool) (A : Option Addr) (n c : Nat) (b2 : Bool) (A2 : Option Addr) (n2 c2 : Nat) (b3 : Bool) (B : Option Addr) (m d : Nat) (b4 : Bool) (B2 : Option Addr) (m2 d2 : Nat) (w : World) (h1 : RtIs w w.heap.size p b1 A n c b2 A2 n2 c2) (h2 : RtIs w w.heap.size q b3 B m d b4 B2 m2 d2) (hs : qsz p + qsz q + 1 ≤ 35184372088832) :
    Calls Tryz.prog 111 #[.agg #[.bool b1, .slice A n c, .bool b2, .slice A2 n2 c2], .agg #[.bool b3, .slice B m d, .bool b4, .slice B2 m2 d2]] w (RtP (p - q) w) := by
 have l1 := h1.n_le
 have l2 := h1.m_le
 have l3 := h2.n_le
 have l4 := h2.m_le
 have HB0 : Hid (Below w.heap.size w (((w.alloc (.cells #[.bool b1, .slice A n c, .bool b2, .slice A2 n2 c2] 93)).alloc (.cells #[.bool b3, .slice B m d, .bool b4, .slice B2 m2 d2] 93)).alloc (.cells #[.bool false, .slice none 0 0, .bool false, .slice none 0 0] 93))) := Lib.hid ((((Below.refl _ _).alloc (Nat.le_refl _) _).alloc (by simp) _).alloc (by simp; omega) _)
 have HX1 : Hid (Blk (((w.alloc (.cells #[.bool b1, .slice A n c, .bool b2, .slice A2 n2 c2] 93)).alloc (.cells #[.bool b3, .slice B m d, .bool b4, .slice B2 m2 d2] 93)).alloc (.cells #[.bool false, .slice none 0 0, .bool false, .slice none 0 0] 93)) w.heap.size 93 #[.bool b1, .slice A n c, .bool b2, .slice A2 n2 c2]) := Lib.hid (((Blk.new w _ _).alloc _).alloc _)
 have HX2 : Hid (Blk (((w.alloc (.cells #[.bool b1, .slice A n c, .bool b2, .slice A2 n2 c2] 93)).alloc (.cells #[.bool b3, .slice B m d, .bool b4, .slice B2 m2 d2] 93)).alloc (.cells #[.bool false, .slice none 0 0, .bool false, .slice none 0 0] 93)) (w.heap.size + 1) 93 #[.bool b3, .slice B m d, .bool b4, .slice B2 m2 d2]) := Lib.hid ((Blk.new_ (by simp)).alloc _)
 have HR : Hid (Blk (((w.alloc (.cells #[.bool b1, .slice A n c, .bool b2, .slice A2 n2 c2] 93)).alloc (.cells #[.bool b3, .slice B m d, .bool b4, .slice B2 m2 d2] 93)).alloc (.cells #[.bool false, .slice none 0 0, .bool false, .slice none 0 0] 93)) (w.heap.size + 1 + 1) 93 #[.bool false, .slice none 0 0, .bool false, .slice none 0 0]) := Lib.hid (Blk.new_ (by simp))
 have hgs : w.heap.size ≤ w.heap.size + 1 + 1 := by omega
 have H1 := Lib.hid (h1.up HB0.out)
 have H2 := Lib.hid (h2.up HB0.out)
 clear h1 h2
 go_enter Tryz.func111, Tryz.ntmps111
 go_upto_region 1 with fail
 generalize (((w.alloc (.cells #[.bool b1, .slice A n c, .bool b2, .slice A2 n2 c2] 93)).alloc (.cells #[.bool b3, .slice B m d, .bool b4, .slice B2 m2 d2] 93)).alloc (.cells #[.bool false, .slice none 0 0, .bool false, .slice none 0 0] 93)) = W at *
 have p0 := HX1.out.cell 0
 have p1 := HX1.out.cell 1
 have p2 := HX1.out.cell 2
 have p3 := HX1.out.cell 3
 have pl := HX1.out.lt
 have q0 := HX2.out.cell 0
 have q1 := HX2.out.cell 1
 have q2 := HX2.out.cell 2
 have q3 := HX2.out.cell 3
 have ql := HX2.out.lt
 have HB4 := Lib.hid (below_drew (Below.refl W.heap.size W))
 refine wp_region_last (S := fun w' => Below W.heap.size W w') 4 _ (by kernel_rfl) (by kernel_rfl) rfl HB4.out (fun hHeld => ?_)
 simp only [List.take_succ_cons, List.take_zero]
 refine tkH 0 rfl (by intro w' _ hcc; go_simp <;> with_reducible rfl) hHeld ?_
 try simp only [Act.put, sA_, sB_, sC_]
 refine tkH 1 rfl (by intro w' _ hcc; go_simp <;> with_reducible rfl) hHeld ?_
 try simp only [Act.put, sA_, sB_, sC_]
 refine stepH 2 (by kernel_rfl) rfl (fun K hK => ?_)
 go_simp
 refine (rneg_any q b3 B m d b4 B2 m2 d2 _ (H2.out.up HB4.out)).mono ?_
 rintro e w5 ⟨hb5, f5, C5, i5, j5, f5d, C5d, i5d, j5d, rfl, h5⟩
 have HB5 := Lib.hid (HB4.out.trans (hb5.mono HB4.out.size))
 have H5 := Lib.hid h5
 clear hb5 h5
 go_simp
 refine hK.out _ _ ?_ (fun hHeld => ?_)
 ·exact HB5.out
 clear hK K
 try simp only [Act.put, sA_, sB_, sC_]
 refine stepH 3 (by kernel_rfl) rfl (fun K hK => ?_)
 go_simp
 refine (radd_any p (-q) b1 A n c b2 A2 n2 c2 f5 C5 i5 j5 f5d C5d i5d j5d _ (H1.out.up HB5.out) H5.out (by rw [neg_qsz]; exact hs)).mono ?_
 rw [← Rat.sub_eq_add_neg]
 rintro e w7 ⟨hb7, f7, C7, i7, j7, f7d, C7d, i7d, j7d, rfl, h7⟩
 have HB7 := Lib.hid (HB5.out.trans (hb7.mono HB5.out.size))
 have H7 := Lib.hid h7
 clear hb7 h7
 go_simp
 refine hK.out _ _ ?_ (fun hHeld => ?_)
 ·exact HB7.out
 clear hK K
 try simp only [Act.put, sA_, sB_, sC_]
 refine wpAnyH_done (by kernel_rfl) ?_ _
 refine lastQ_go (by rfl) ?_
 have HBF := Lib.hid (HB0.out.trans (HB7.out.mono HB0.out.size))
 have HGF := Lib.hid (HR.out.below HB7.out HR.out.lt)
 clear p0 p1 p2 p3 q0 q1 q2 q3 pl ql
 have z0 := HGF.out.cell 0
 have z1 := HGF.out.cell 1
 have z2 := HGF.out.cell 2
 have z3 := HGF.out.cell 3
 have zf := HGF.out.frozen
 have zl := HGF.out.lt
 go_wp2_with fail
 generalize hW9 : (((w7.setCell ⟨_, 0, none⟩ _).setCell ⟨_, 1, none⟩ _).setCell ⟨_, 2, none⟩ _).setCell ⟨_, 3, none⟩ _ = W9
 have HP9 := Lib.hid (rt_put (e := .returned (.agg #[.bool f7, .slice C7 i7 j7, .bool f7d, .slice C7d i7d j7d])) HBF.out hgs HGF.out (by simp) (by simp) (by simp) (by simp) H7.out rfl)
 rw [hW9] at HP9
 have HB9 : Hid (Blk W9 _ 93 #[.bool f7, .slice C7 i7 j7, .bool f7d, .slice C7d i7d j7d]) := Lib.hid (by rw [← hW9]; exact blk_set4 HGF.out)
 clear hW9 z0 z1 z2 z3 zf zl
 have q0 := HB9.out.cell 0
 have q1 := HB9.out.cell 1
 have q2 := HB9.out.cell 2
 have q3 := HB9.out.cell 3
 exact bodyPost_ret (v := .agg #[.bool f7, .slice C7 i7 j7, .bool f7d, .slice C7d i7d j7d]) (by simp [results, Tryz.results111, go_sem, q0, q1, q2, q3]) rfl HP9.out
end
section
open Go.ChangeShapes Go.WideShapes Go.ChangeAt Go.RowKit
attribute [local go_sem ↓] execOp_call_val
attribute [local go_sem] callVal_func setCell_drewN alloc_drewN
set_option maxRecDepth 100000 in
set_option maxHeartbeats 4000000 in
theorem rsign_any (p : Rat) (b1 : Bool) (A : Option Addr) (n c : Nat) (b2 : Bool) (A2 : Option Addr) (n2 c2 : Nat) (w : World) (h1 : RtIs w w.heap.size p b1 A n c b2 A2 n2 c2) :
    Calls Tryz.prog 86 #[.agg #[.bool b1, .slice A n c, .bool b2, .slice A2 n2 c2]] w fun e w' => e = .returned (.int .i64 p.num.sign) ∧ Below w.heap.size w w' := by
 have HB0 : Hid (Below w.heap.size w (w.alloc (.cells #[.bool b1, .slice A n c, .bool b2, .slice A2 n2 c2] 93))) := Lib.hid ((Below.refl _ _).alloc (Nat.le_refl _) _)
 have HX1 := Lib.hid (Blk.new w 93 #[.bool b1, .slice A n c, .bool b2, .slice A2 n2 c2])
 have H1 := Lib.hid (h1.up HB0.out)
 clear h1
 go_enter Tryz.func86, Tryz.ntmps86
 go_upto_region 1 with fail
 generalize w.alloc (.cells #[.bool b1, .slice A n c, .bool b2, .slice A2 n2 c2] 93) = W at *
 have p0 := HX1.out.cell 0
 have p1 := HX1.out.cell 1
 have p2 := HX1.out.cell 2
 have p3 := HX1.out.cell 3
 have pl := HX1.out.lt
 go_wp2_with fail
 refine (lsign_any p.num b1 A n c W H1.out.num).mono ?_
 rintro e w1 ⟨rfl, hb1⟩
 have HB1 := Lib.hid (HB0.out.trans (hb1.mono HB0.out.size))
 clear hb1
 go_wp2_with fail
 go_ret
 exact ⟨rfl, HB1.out⟩
set_option maxRecDepth 100000 in
set_option maxHeartbeats 4000000 in
theorem whole_any (k : Int) (w : World) (h0 : -9223372036854775808 ≤ k) (h1 : k ≤ 9223372036854775807) :
    Calls Tryz.prog 50 #[.int .i64 k] w (RtP (k : Rat) w) := by
 have HB0 : Hid (Below w.heap.size w (w.alloc (.cells #[.bool false, .slice none 0 0, .bool false, .slice none 0 0] 93))) := Lib.hid ((Below.refl _ _).alloc (Nat.le_refl _) _)
 have HR : Hid (Blk (w.alloc (.cells #[.bool false, .slice none 0 0, .bool false, .slice none 0 0] 93)) w.heap.size 93 #[.bool false, .slice none 0 0, .bool false, .slice none 0 0]) := Lib.hid (Blk.new w _ _)
 have hgs : w.heap.size ≤ w.heap.size := Nat.le_refl _
 go_enter Tryz.func50, Tryz.ntmps50
 go_upto_region 1 with fail
 generalize (w.alloc (.cells #[.bool false, .slice none 0 0, .bool false, .slice none 0 0] 93)) = W at *
 go_wp2_with fail
 refine (of_any k W h0 h1).mono ?_
 rintro e w1 ⟨hb1, f5, C5, i5, j5, rfl, h5⟩
 have HB1 := Lib.hid (HB0.out.trans (hb1.mono HB0.out.size))
 have HR1 := Lib.hid (HR.out.below hb1 HR.out.lt)
 have H5 := Lib.hid h5
 clear hb1 h5
 go_wp2_with fail
 refine (of_any 1 w1 (by decide) (by decide)).mono ?_
 rintro e w2 ⟨hb2, f6, C6, i6, j6, rfl, h6⟩
 have HB2 := Lib.hid (HB1.out.trans (hb2.mono HB1.out.size))
 have HR2 := Lib.hid (HR1.out.below hb2 HR1.out.lt)
 have HQ : Hid (RtIs w2 w2.heap.size (k : Rat) f5 C5 i5 j5 f6 C6 i6 j6) := Lib.hid ⟨by rw [Rat.num_intCast]; exact H5.out.up hb2, by rw [Rat.den_intCast]; exact h6⟩
 clear hb2 h6 HB0 HR HB1 HR1
 have z0 := HR2.out.cell 0
 have z1 := HR2.out.cell 1
 have z2 := HR2.out.cell 2
 have z3 := HR2.out.cell 3
 have zf := HR2.out.frozen
 have zl := HR2.out.lt
 go_wp2_with fail
 generalize hW9 : (((w2.setCell ⟨_, 0, none⟩ _).setCell ⟨_, 1, none⟩ _).setCell ⟨_, 2, none⟩ _).setCell ⟨_, 3, none⟩ _ = W9
 have HP9 := Lib.hid (rt_put (e := .returned (.agg #[.bool f5, .slice C5 i5 j5, .bool f6, .slice C6 i6 j6])) HB2.out hgs HR2.out (by simp) (by simp) (by simp) (by simp) HQ.out rfl)
 rw [hW9] at HP9
 have HB9 : Hid (Blk W9 _ 93 #[.bool f5, .slice C5 i5 j5, .bool f6, .slice C6 i6 j6]) := Lib.hid (by rw [← hW9]; exact blk_set4 HR2.out)
 clear hW9 z0 z1 z2 z3 zf zl
 have q0 := HB9.out.cell 0
 have q1 := HB9.out.cell 1
 have q2 := HB9.out.cell 2
 have q3 := HB9.out.cell 3
 exact bodyPost_ret (v := .agg #[.bool f5, .slice C5 i5 j5, .bool f6, .slice C6 i6 j6]) (by simp [results, Tryz.results50, go_sem, q0, q1, q2, q3]) rfl HP9.out
set_option maxRecDepth 100000 in
set_option maxHeartbeats 4000000 in
theorem frac_any (k d : Int) (w : World) (h0 : -9223372036854775808 ≤ k) (h1 : k ≤ 9223372036854775807) (h2 : -9223372036854775808 ≤ d) (h3 : d ≤ 9223372036854775807) (hd : d ≠ 0) :
    Calls Tryz.prog 52 #[.int .i64 k, .int .i64 d] w (RtP (Rat.divInt k d) w) := by
 have HB0 : Hid (Below w.heap.size w (w.alloc (.cells #[.bool false, .slice none 0 0, .bool false, .slice none 0 0] 93))) := Lib.hid ((Below.refl _ _).alloc (Nat.le_refl _) _)
 have HR : Hid (Blk (w.alloc (.cells #[.bool false, .slice none 0 0, .bool false, .slice none 0 0] 93)) w.heap.size 93 #[.bool false, .slice none 0 0, .bool false, .slice none 0 0]) := Lib.hid (Blk.new w _ _)
 have hgs : w.heap.size ≤ w.heap.size := Nat.le_refl _
 have sz : ∀ z : Int, -9223372036854775808 ≤ z → z ≤ 9223372036854775807 → dlen z.natAbs ≤ 2 := fun z a b => dlen_le (by show _ < 4294967296 ^ 2; omega)
 have s1 := sz k h0 h1
 have s2 := sz d h2 h3
 clear sz
 go_enter Tryz.func52, Tryz.ntmps52
 go_upto_region 1 with fail
 generalize (w.alloc (.cells #[.bool false, .slice none 0 0, .bool false, .slice none 0 0] 93)) = W at *
 go_wp2_with fail
 refine (of_any k W h0 h1).mono ?_
 rintro e w1 ⟨hb1, f5, C5, i5, j5, rfl, h5⟩
 have HB1 := Lib.hid (HB0.out.trans (hb1.mono HB0.out.size))
 have HR1 := Lib.hid (HR.out.below hb1 HR.out.lt)
 have H5 := Lib.hid h5
 clear hb1 h5
 go_wp2_with fail
 refine (of_any d w1 h2 h3).mono ?_
 rintro e w2 ⟨hb2, f6, C6, i6, j6, rfl, h6⟩
 have HB2 := Lib.hid (HB1.out.trans (hb2.mono HB1.out.size))
 have HR2 := Lib.hid (HR1.out.below hb2 HR1.out.lt)
 have H52 := Lib.hid (H5.out.up hb2)
 have H62 := Lib.hid h6
 clear hb2 h6 HB0 HR HB1 HR1 H5
 go_wp2_with fail
 refine (ratio_any k d f5 C5 i5 j5 f6 C6 i6 j6 w2 H52.out H62.out hd (by rw [H52.out.en]; omega) (by rw [H62.out.en]; omega)).mono ?_
 rintro e w3 ⟨hb3, f7, C7, i7, j7, f7d, C7d, i7d, j7d, rfl, h7⟩
 have HB3 := Lib.hid (HB2.out.trans (hb3.mono HB2.out.size))
 have HR3 := Lib.hid (HR2.out.below hb3 HR2.out.lt)
 have H7 := Lib.hid h7
 clear hb3 h7 HB2 HR2 H52 H62
 have z0 := HR3.out.cell 0
 have z1 := HR3.out.cell 1
 have z2 := HR3.out.cell 2
 have z3 := HR3.out.cell 3
 have zf := HR3.out.frozen
 have zl := HR3.out.lt
 go_wp2_with fail
 generalize hW9 : (((w3.setCell ⟨_, 0, none⟩ _).setCell ⟨_, 1, none⟩ _).setCell ⟨_, 2, none⟩ _).setCell ⟨_, 3, none⟩ _ = W9
 have HP9 := Lib.hid (rt_put (e := .returned (.agg #[.bool f7, .slice C7 i7 j7, .bool f7d, .slice C7d i7d j7d])) HB3.out hgs HR3.out (by simp) (by simp) (by simp) (by simp) H7.out rfl)
 rw [hW9] at HP9
 have HB9 : Hid (Blk W9 _ 93 #[.bool f7, .slice C7 i7 j7, .bool f7d, .slice C7d i7d j7d]) := Lib.hid (by rw [← hW9]; exact blk_set4 HR3.out)
 clear hW9 z0 z1 z2 z3 zf zl
 have q0 := HB9.out.cell 0
 have q1 := HB9.out.cell 1
 have q2 := HB9.out.cell 2
 have q3 := HB9.out.cell 3
 exact bodyPost_ret (v := .agg #[.bool f7, .slice C7 i7 j7, .bool f7d, .slice C7d i7d j7d]) (by simp [results, Tryz.results52, go_sem, q0, q1, q2, q3]) rfl HP9.out
end
end Go.Proofs.YtakllkkmofdpaaaGreatDoor
