import Derived.Test.YtakllkkmofdpaaaGreatDoorU05
import Derived.Test.YtakllkkmofdpaaaGreatDoorU06
import Derived.Lib.BitFns
set_option linter.unusedVariables false
set_option linter.unusedSimpArgs false
namespace Go.Proofs.YtakllkkmofdpaaaGreatDoor
section
open Go.ChangeShapes Go.WideShapes Go.ChangeAt Go.RowKit
attribute [local go_sem ↓] execOp_call_val
attribute [local go_sem] callVal_func setCell_drewN alloc_drewN
theorem sgn_add {y z : Int} (h : decide (y < 0) = decide (z < 0)) : sgn (decide (y < 0)) (y.natAbs + z.natAbs) = y + z := by
 unfold sgn
 have h2 : (y < 0) ↔ (z < 0) := by simpa using h
 by_cases hy : y < 0
 ·rw [if_pos (by simpa using hy)]; omega
 ·rw [if_neg (by simpa using hy)]; omega
theorem sgn_sub {y z : Int} (h : decide (y < 0) ≠ decide (z < 0)) (hle : z.natAbs ≤ y.natAbs) : sgn (decide (y < 0)) (y.natAbs - z.natAbs) = y + z := by
 unfold sgn
 by_cases hy : y < 0 <;> by_cases hz : z < 0
 ·exact absurd (by simp [hy, hz]) h
 ·rw [if_pos (by simpa using hy)]; omega
 ·rw [if_neg (by simpa using hy)]; omega
 ·exact absurd (by simp [hy, hz]) h
set_option maxRecDepth 100000 in
set_option maxHeartbeats 4000000 in
theorem add_any (y z : Int) (b1 : Bool) (A : Option Addr) (n c : Nat) (b2 : Bool) (B : Option Addr) (m d : Nat) (w : World) (h1 : LgIs w w.heap.size y b1 A n c) (h2 : LgIs w w.heap.size z b2 B m d) (hn : n ≤ 35184372088832) (hm : m ≤ 35184372088832) :
    Calls Tryz.prog 92 #[.agg #[.bool b1, .slice A n c], .agg #[.bool b2, .slice B m d]] w (LgP (y + z) w) := by
 have he1 := h1.eb
 have he2 := h2.eb
 have hny := h1.en
 have hmz := h2.en
 have HB0 : Hid (Below w.heap.size w (((w.alloc (.cells #[.bool b1, .slice A n c] 91)).alloc (.cells #[.bool b2, .slice B m d] 91)).alloc (.cells #[.bool false, .slice none 0 0] 91))) := Lib.hid ((((Below.refl _ _).alloc (Nat.le_refl _) _).alloc (by simp) _).alloc (by simp; omega) _)
 have HX1 : Hid (Blk (((w.alloc (.cells #[.bool b1, .slice A n c] 91)).alloc (.cells #[.bool b2, .slice B m d] 91)).alloc (.cells #[.bool false, .slice none 0 0] 91)) w.heap.size 91 #[.bool b1, .slice A n c]) := Lib.hid (((Blk.new w _ _).alloc _).alloc _)
 have HX2 : Hid (Blk (((w.alloc (.cells #[.bool b1, .slice A n c] 91)).alloc (.cells #[.bool b2, .slice B m d] 91)).alloc (.cells #[.bool false, .slice none 0 0] 91)) (w.heap.size + 1) 91 #[.bool b2, .slice B m d]) := Lib.hid ((Blk.new_ (by simp)).alloc _)
 have HR : Hid (Blk (((w.alloc (.cells #[.bool b1, .slice A n c] 91)).alloc (.cells #[.bool b2, .slice B m d] 91)).alloc (.cells #[.bool false, .slice none 0 0] 91)) (w.heap.size + 1 + 1) 91 #[.bool false, .slice none 0 0]) := Lib.hid (Blk.new_ (by simp))
 have H1 := Lib.hid (h1.up HB0.out)
 have H2 := Lib.hid (h2.up HB0.out)
 clear h1 h2
 have HNY := Lib.hid hny
 have HMZ := Lib.hid hmz
 clear hny hmz
 go_enter Tryz.func92, Tryz.ntmps92
 have hgs : w.heap.size ≤ w.heap.size + 1 + 1 := by omega
 by_cases hb : b1 = b2
 ·have HSG : Hid (sgn b1 (wv (dig y.natAbs) + wv (dig z.natAbs)) = y + z) := Lib.hid (by rw [wv_dig, wv_dig, he1]; exact sgn_add (by rw [← he1, ← he2, hb]))
  have hbb : (b1 == b2) = true := by simp [hb]
  clear he1 he2 hb
  go_wp2_with fail
  generalize (((w.alloc (.cells #[.bool b1, .slice A n c] 91)).alloc (.cells #[.bool b2, .slice B m d] 91)).alloc (.cells #[.bool false, .slice none 0 0] 91)) = W at *
  have p0 := HX1.out.cell 0
  have p1 := HX1.out.cell 1
  have q0 := HX2.out.cell 0
  have q1 := HX2.out.cell 1
  have pl := HX1.out.lt
  have ql := HX2.out.lt
  have H1W : Hid (RdW W.drew W.drew.heap.size A n (dig y.natAbs)) := Lib.hid H1.out.rd
  have H2W : Hid (RdW W.drew W.drew.heap.size B m (dig z.natAbs)) := Lib.hid H2.out.rd
  have HBW := HB0
  have HRW := HR
  clear HB0 HR
  refine wp_region_last (S := fun w' => Below W.heap.size W w') 8 _ (by kernel_rfl) (by kernel_rfl) rfl (below_drew (Below.refl _ _)) (fun hHeld => ?_)
  simp only [List.take_succ_cons, List.take_zero]
  refine tkH 0 rfl (by intro w' _ hcc; go_simp <;> with_reducible rfl) hHeld ?_
  try simp only [Act.put, sA_, sB_, sC_]
  refine tkH 1 rfl (by intro w' _ hcc; go_simp <;> with_reducible rfl) hHeld ?_
  try simp only [Act.put, sA_, sB_, sC_]
  refine tkH 2 rfl (by intro w' _ hcc; go_simp <;> with_reducible rfl) hHeld ?_
  try simp only [Act.put, sA_, sB_, sC_]
  refine tkH 3 rfl (by intro w' _ hcc; go_simp <;> with_reducible rfl) hHeld ?_
  try simp only [Act.put, sA_, sB_, sC_]
  refine tkH 4 rfl (by intro w' _ hcc; go_simp <;> with_reducible rfl) hHeld ?_
  try simp only [Act.put, sA_, sB_, sC_]
  refine tkH 5 rfl (by intro w' _ hcc; go_simp <;> with_reducible rfl) hHeld ?_
  try simp only [Act.put, sA_, sB_, sC_]
  refine stepH 6 (by kernel_rfl) rfl (fun K hK => ?_)
  go_simp
  refine (addW0 A n c B m d (dig y.natAbs) (dig z.natAbs) W.drew H1W.out H2W.out (wd_dig _) (wd_dig _) (by omega) (by omega)).mono ?_
  rintro e w5 ⟨hb5, A5, n5, c5, l5, rfl, hr5, hd5, hv5, hn5, hc5⟩
  have HB5 := Lib.hid ((below_drew (Below.refl W.heap.size W)).trans hb5)
  have HR5 := Lib.hid hr5
  have HV5 := Lib.hid hv5
  have HD5 := Lib.hid hd5
  clear hb5 hr5 hv5 hd5
  go_simp
  refine hK.out _ _ ?_ (fun hHeld => ?_)
  ·exact HB5.out
  clear hK K
  try simp only [Act.put, sA_, sB_, sC_]
  refine stepH 7 (by kernel_rfl) rfl (fun K hK => ?_)
  go_simp
  refine (norm_any b1 A5 n5 c5 l5 w5 HR5.out HD5.out hn5 hc5).mono ?_
  rw [HV5.out, HSG.out]
  rintro e w6 ⟨hb6, b9, A9, n9, c9, rfl, h9⟩
  have HB6 := Lib.hid (HB5.out.trans (hb6.mono HB5.out.size))
  have H9 := Lib.hid h9
  clear hb6 h9
  go_simp
  refine hK.out _ _ ?_ (fun hHeld => ?_)
  ·exact HB6.out
  clear hK K
  try simp only [Act.put, sA_, sB_, sC_]
  refine wpAnyH_done (by kernel_rfl) ?_ _
  refine lastQ_go (by rfl) ?_
  have HBF := Lib.hid (HBW.out.trans (HB6.out.mono HBW.out.size))
  have HGF := Lib.hid (HRW.out.below HB6.out HRW.out.lt)
  clear p0 p1 q0 q1 pl ql
  have z0 := HGF.out.cell 0
  have z1 := HGF.out.cell 1
  have zf := HGF.out.frozen
  have zl := HGF.out.lt
  go_wp2_with fail
  generalize hW9 : (w6.setCell ⟨_, 0, none⟩ _).setCell ⟨_, 1, none⟩ _ = W9
  have HP9 := Lib.hid (lg_put (e := .returned (.agg #[.bool b9, .slice A9 n9 c9])) HBF.out hgs HGF.out (by simp) (by simp) H9.out rfl)
  rw [hW9] at HP9
  have HB9 : Hid (Blk W9 _ 91 #[.bool b9, .slice A9 n9 c9]) := Lib.hid (by rw [← hW9]; exact blk_set2 HGF.out)
  clear hW9 z0 z1 zf zl
  have q0 := HB9.out.cell 0
  have q1 := HB9.out.cell 1
  exact bodyPost_ret (v := .agg #[.bool b9, .slice A9 n9 c9]) (by simp [results, Tryz.results92, go_sem, q0, q1]) rfl HP9.out
 ·have hbb : (b1 == b2) = false := by simpa using hb
  have HNB : Hid (decide (y < 0) ≠ decide (z < 0)) := Lib.hid (by rw [← he1, ← he2]; exact hb)
  have HEB1 := Lib.hid he1
  have HEB2 := Lib.hid he2
  clear he1 he2 hb
  go_wp2_with fail
  generalize (((w.alloc (.cells #[.bool b1, .slice A n c] 91)).alloc (.cells #[.bool b2, .slice B m d] 91)).alloc (.cells #[.bool false, .slice none 0 0] 91)) = W at *
  refine (cmpW_any A n c B m d y.natAbs z.natAbs W H1.out.rd H2.out.rd (by omega) (by omega)).mono ?_
  rintro e w4 ⟨⟨r, rfl, hr⟩, nq, rfl⟩
  have hdr : Below W.heap.size W (W.drewN nq) := below_drewN (Below.refl _ _) nq
  have HB1 := Lib.hid (HB0.out.trans (hdr.mono HB0.out.size))
  have HX1b := Lib.hid (HX1.out.below hdr HX1.out.lt)
  have HX2b := Lib.hid (HX2.out.below hdr HX2.out.lt)
  have HRb := Lib.hid (HR.out.below hdr HR.out.lt)
  have H1b := Lib.hid (H1.out.up hdr)
  have H2b := Lib.hid (H2.out.up hdr)
  clear hdr HB0 HX1 HX2 HR H1 H2
  have HB0 := HB1
  have HX1 := HX1b
  have HX2 := HX2b
  have HR := HRb
  have H1 := H1b
  have H2 := H2b
  clear HB1 HX1b HX2b HRb H1b H2b
  generalize W.drewN nq = V at *
  have p0 := HX1.out.cell 0
  have p1 := HX1.out.cell 1
  have q0 := HX2.out.cell 0
  have q1 := HX2.out.cell 1
  have pl := HX1.out.lt
  have ql := HX2.out.lt
  by_cases hr0 : r < 0
  ·have HLE : Hid (y.natAbs ≤ z.natAbs) := Lib.hid (Nat.le_of_lt (hr.1.1 hr0))
   have hmn : n ≤ m := by rw [HNY.out, HMZ.out]; exact dlen_mono HLE.out
   have HSG : Hid (sgn b2 (wv (dig z.natAbs) - wv (dig y.natAbs)) = y + z) := Lib.hid (by
    rw [wv_dig, wv_dig, HEB2.out, Int.add_comm]
    exact sgn_sub (fun h => HNB.out h.symm) HLE.out)
   have hr1 : decide (0 ≤ r) = false := by simpa using hr0
   clear hr hr0
   go_wp2_with fail
   have H1W : Hid (RdW V.drew V.drew.heap.size A n (dig y.natAbs)) := Lib.hid H1.out.rd
   have H2W : Hid (RdW V.drew V.drew.heap.size B m (dig z.natAbs)) := Lib.hid H2.out.rd
   have HBW := HB0
   have HRW := HR
   clear HB0 HR
   refine wp_region_last (S := fun w' => Below V.heap.size V w') 8 _ (by kernel_rfl) (by kernel_rfl) rfl (below_drew (Below.refl _ _)) (fun hHeld => ?_)
   simp only [List.take_succ_cons, List.take_zero]
   refine tkH 0 rfl (by intro w' _ hcc; go_simp <;> with_reducible rfl) hHeld ?_
   try simp only [Act.put, sA_, sB_, sC_]
   refine tkH 1 rfl (by intro w' _ hcc; go_simp <;> with_reducible rfl) hHeld ?_
   try simp only [Act.put, sA_, sB_, sC_]
   refine tkH 2 rfl (by intro w' _ hcc; go_simp <;> with_reducible rfl) hHeld ?_
   try simp only [Act.put, sA_, sB_, sC_]
   refine tkH 3 rfl (by intro w' _ hcc; go_simp <;> with_reducible rfl) hHeld ?_
   try simp only [Act.put, sA_, sB_, sC_]
   refine tkH 4 rfl (by intro w' _ hcc; go_simp <;> with_reducible rfl) hHeld ?_
   try simp only [Act.put, sA_, sB_, sC_]
   refine tkH 5 rfl (by intro w' _ hcc; go_simp <;> with_reducible rfl) hHeld ?_
   try simp only [Act.put, sA_, sB_, sC_]
   refine stepH 6 (by kernel_rfl) rfl (fun K hK => ?_)
   go_simp
   refine (subW0 B m d A n c (dig z.natAbs) (dig y.natAbs) V.drew H2W.out H1W.out (wd_dig _) (wd_dig _) (by omega) (by omega) (by rw [wv_dig, wv_dig]; exact HLE.out)).mono ?_
   rintro e w5 ⟨hb5, A5, n5, c5, l5, rfl, hr5, hd5, hv5, hn5, hc5⟩
   have HB5 := Lib.hid ((below_drew (Below.refl V.heap.size V)).trans hb5)
   have HR5 := Lib.hid hr5
   have HV5 := Lib.hid hv5
   have HD5 := Lib.hid hd5
   clear hb5 hr5 hv5 hd5
   go_simp
   refine hK.out _ _ ?_ (fun hHeld => ?_)
   ·exact HB5.out
   clear hK K
   try simp only [Act.put, sA_, sB_, sC_]
   refine stepH 7 (by kernel_rfl) rfl (fun K hK => ?_)
   go_simp
   refine (norm_any b2 A5 n5 c5 l5 w5 HR5.out HD5.out hn5 hc5).mono ?_
   rw [HV5.out, HSG.out]
   rintro e w6 ⟨hb6, b9, A9, n9, c9, rfl, h9⟩
   have HB6 := Lib.hid (HB5.out.trans (hb6.mono HB5.out.size))
   have H9 := Lib.hid h9
   clear hb6 h9
   go_simp
   refine hK.out _ _ ?_ (fun hHeld => ?_)
   ·exact HB6.out
   clear hK K
   try simp only [Act.put, sA_, sB_, sC_]
   refine wpAnyH_done (by kernel_rfl) ?_ _
   refine lastQ_go (by rfl) ?_
   have HBF := Lib.hid (HBW.out.trans (HB6.out.mono HBW.out.size))
   have HGF := Lib.hid (HRW.out.below HB6.out HRW.out.lt)
   clear p0 p1 q0 q1 pl ql
   have z0 := HGF.out.cell 0
   have z1 := HGF.out.cell 1
   have zf := HGF.out.frozen
   have zl := HGF.out.lt
   go_wp2_with fail
   generalize hW9 : (w6.setCell ⟨_, 0, none⟩ _).setCell ⟨_, 1, none⟩ _ = W9
   have HP9 := Lib.hid (lg_put (e := .returned (.agg #[.bool b9, .slice A9 n9 c9])) HBF.out hgs HGF.out (by simp) (by simp) H9.out rfl)
   rw [hW9] at HP9
   have HB9 : Hid (Blk W9 _ 91 #[.bool b9, .slice A9 n9 c9]) := Lib.hid (by rw [← hW9]; exact blk_set2 HGF.out)
   clear hW9 z0 z1 zf zl
   have q0 := HB9.out.cell 0
   have q1 := HB9.out.cell 1
   exact bodyPost_ret (v := .agg #[.bool b9, .slice A9 n9 c9]) (by simp [results, Tryz.results92, go_sem, q0, q1]) rfl HP9.out
  ·have HLE : Hid (z.natAbs ≤ y.natAbs) := Lib.hid (Nat.le_of_not_lt fun h => hr0 (hr.1.2 h))
   have hmn : m ≤ n := by rw [HNY.out, HMZ.out]; exact dlen_mono HLE.out
   have HSG : Hid (sgn b1 (wv (dig y.natAbs) - wv (dig z.natAbs)) = y + z) := Lib.hid (by
    rw [wv_dig, wv_dig, HEB1.out]
    exact sgn_sub HNB.out HLE.out)
   have hr1 : 0 ≤ r := by omega
   clear hr hr0
   go_wp2_with fail
   have H1W : Hid (RdW V.drew V.drew.heap.size A n (dig y.natAbs)) := Lib.hid H1.out.rd
   have H2W : Hid (RdW V.drew V.drew.heap.size B m (dig z.natAbs)) := Lib.hid H2.out.rd
   have HBW := HB0
   have HRW := HR
   clear HB0 HR
   refine wp_region_last (S := fun w' => Below V.heap.size V w') 8 _ (by kernel_rfl) (by kernel_rfl) rfl (below_drew (Below.refl _ _)) (fun hHeld => ?_)
   simp only [List.take_succ_cons, List.take_zero]
   refine tkH 0 rfl (by intro w' _ hcc; go_simp <;> with_reducible rfl) hHeld ?_
   try simp only [Act.put, sA_, sB_, sC_]
   refine tkH 1 rfl (by intro w' _ hcc; go_simp <;> with_reducible rfl) hHeld ?_
   try simp only [Act.put, sA_, sB_, sC_]
   refine tkH 2 rfl (by intro w' _ hcc; go_simp <;> with_reducible rfl) hHeld ?_
   try simp only [Act.put, sA_, sB_, sC_]
   refine tkH 3 rfl (by intro w' _ hcc; go_simp <;> with_reducible rfl) hHeld ?_
   try simp only [Act.put, sA_, sB_, sC_]
   refine tkH 4 rfl (by intro w' _ hcc; go_simp <;> with_reducible rfl) hHeld ?_
   try simp only [Act.put, sA_, sB_, sC_]
   refine tkH 5 rfl (by intro w' _ hcc; go_simp <;> with_reducible rfl) hHeld ?_
   try simp only [Act.put, sA_, sB_, sC_]
   refine stepH 6 (by kernel_rfl) rfl (fun K hK => ?_)
   go_simp
   refine (subW0 A n c B m d (dig y.natAbs) (dig z.natAbs) V.drew H1W.out H2W.out (wd_dig _) (wd_dig _) (by omega) (by omega) (by rw [wv_dig, wv_dig]; exact HLE.out)).mono ?_
   rintro e w5 ⟨hb5, A5, n5, c5, l5, rfl, hr5, hd5, hv5, hn5, hc5⟩
   have HB5 := Lib.hid ((below_drew (Below.refl V.heap.size V)).trans hb5)
   have HR5 := Lib.hid hr5
   have HV5 := Lib.hid hv5
   have HD5 := Lib.hid hd5
   clear hb5 hr5 hv5 hd5
   go_simp
   refine hK.out _ _ ?_ (fun hHeld => ?_)
   ·exact HB5.out
   clear hK K
   try simp only [Act.put, sA_, sB_, sC_]
   refine stepH 7 (by kernel_rfl) rfl (fun K hK => ?_)
   go_simp
   refine (norm_any b1 A5 n5 c5 l5 w5 HR5.out HD5.out hn5 hc5).mono ?_
   rw [HV5.out, HSG.out]
   rintro e w6 ⟨hb6, b9, A9, n9, c9, rfl, h9⟩
   have HB6 := Lib.hid (HB5.out.trans (hb6.mono HB5.out.size))
   have H9 := Lib.hid h9
   clear hb6 h9
   go_simp
   refine hK.out _ _ ?_ (fun hHeld => ?_)
   ·exact HB6.out
   clear hK K
   try simp only [Act.put, sA_, sB_, sC_]
   refine wpAnyH_done (by kernel_rfl) ?_ _
   refine lastQ_go (by rfl) ?_
   have HBF := Lib.hid (HBW.out.trans (HB6.out.mono HBW.out.size))
   have HGF := Lib.hid (HRW.out.below HB6.out HRW.out.lt)
   clear p0 p1 q0 q1 pl ql
   have z0 := HGF.out.cell 0
   have z1 := HGF.out.cell 1
   have zf := HGF.out.frozen
   have zl := HGF.out.lt
   go_wp2_with fail
   generalize hW9 : (w6.setCell ⟨_, 0, none⟩ _).setCell ⟨_, 1, none⟩ _ = W9
   have HP9 := Lib.hid (lg_put (e := .returned (.agg #[.bool b9, .slice A9 n9 c9])) HBF.out hgs HGF.out (by simp) (by simp) H9.out rfl)
   rw [hW9] at HP9
   have HB9 : Hid (Blk W9 _ 91 #[.bool b9, .slice A9 n9 c9]) := Lib.hid (by rw [← hW9]; exact blk_set2 HGF.out)
   clear hW9 z0 z1 zf zl
   have q0 := HB9.out.cell 0
   have q1 := HB9.out.cell 1
   exact bodyPost_ret (v := .agg #[.bool b9, .slice A9 n9 c9]) (by simp [results, Tryz.results92, go_sem, q0, q1]) rfl HP9.out
end
section
open Go.ChangeShapes Go.WideShapes Go.ChangeAt Go.RowKit
attribute [local go_sem ↓] execOp_call_val
attribute [local go_sem] callVal_func setCell_drewN alloc_drewN
structure LzIs (x s : Nat) : Prop where
 le : s ≤ 31
 lo : 2147483648 ≤ x * 2 ^ s
 hi : x * 2 ^ s < 4294967296
theorem bitLen_spec : ∀ (x : Nat), 0 < x → x < 18446744073709551616 → 1 ≤ Lib.bitLen x ∧ 2 ^ (Lib.bitLen x - 1) ≤ x ∧ x < 2 ^ Lib.bitLen x := by
 intro x
 induction x using Nat.strongRecOn with
 | ind x ih =>
  intro h0 h1
  have hh := Lib.bitLen_half x (by omega) h1
  by_cases hx : x = 1
  ·subst hx
   have e : Lib.bitLen (1 / 2) = 0 := by decide
   rw [e] at hh
   rw [hh]
   decide
  ·obtain ⟨g1, g2, g3⟩ := ih (x / 2) (by omega) (by omega) (by omega)
   rw [hh]
   generalize Lib.bitLen (x / 2) = L at *
   obtain ⟨k, rfl⟩ : ∃ k, L = k + 1 := ⟨L - 1, by omega⟩
   rw [show 1 + (k + 1) - 1 = k + 1 from by omega, show 1 + (k + 1) = k + 2 from by omega]
   rw [Nat.add_sub_cancel] at g2
   rw [Nat.pow_succ] at g3
   refine ⟨by omega, ?_, ?_⟩
   ·rw [Nat.pow_succ]; omega
   ·rw [Nat.pow_succ, Nat.pow_succ]; omega
theorem lz_any (x : Nat) (w : World) (h0 : 0 < x) (h1 : x < 4294967296) :
    Calls Tryz.prog 157 #[.int .u32 (x : Int)] w fun e w' => (∃ s : Nat, e = .returned (.int .i64 (s : Int)) ∧ LzIs x s) ∧ w = w' := by
 refine (Tryz.bits_LeadingZeros32 (x : Int) w (by omega) (by omega)).mono ?_
 rintro e w' ⟨rfl, rfl⟩
 rw [Int.toNat_natCast]
 obtain ⟨g1, g2, g3⟩ := bitLen_spec x h0 (by omega)
 have hle : Lib.bitLen x ≤ 32 := Lib.bitLen_le x 32 (by decide) h1
 generalize Lib.bitLen x = L at *
 refine ⟨⟨32 - L, ret_int (by omega), ⟨by omega, ?_, ?_⟩⟩, rfl⟩
 ·have : 2 ^ (L - 1) * 2 ^ (32 - L) = 2147483648 := by rw [← Nat.pow_add, show L - 1 + (32 - L) = 31 from by omega]
  have := Nat.mul_le_mul_right (2 ^ (32 - L)) g2
  omega
 ·have : 2 ^ L * 2 ^ (32 - L) = 4294967296 := by rw [← Nat.pow_add, show L + (32 - L) = 32 from by omega]
  have := (Nat.mul_lt_mul_right (a := 2 ^ (32 - L)) (Nat.pow_pos (by decide))).2 g3
  omega
end
end Go.Proofs.YtakllkkmofdpaaaGreatDoor
