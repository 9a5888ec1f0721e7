import Derived.Test.YtakllkkmofdpaaaGreatDoorU47
import Derived.Test.YtakllkkmofdpaaaGreatDoorU53
import Derived.Test.YtakllkkmofdpaaaGreatDoorU63
set_option linter.unusedVariables false
set_option linter.unusedSimpArgs false
namespace Go.Proofs.YtakllkkmofdpaaaGreatDoor
section
open Go.ChangeShapes Go.WideShapes Go.ChangeAt Go.RowKit
attribute [local go_sem ↓] execOp_call_val
attribute [local go_sem] callVal_func setCell_drewN alloc_drewN sEq_walk
section
variable {w w' : World} {B B' : Nat} {q : Rat} {v : Rv}
end
theorem textV {q : Rat} {v : Rv} {w : World} (h1 : RtV w w.heap.size q v) (ht : TabOk w) : Calls Tryz.prog 54 #[.agg #[.bool v.b1, .slice v.A v.n v.c, .bool v.b2, .slice v.A2 v.m v.d]] w (RtxP q w) := rtext_any q v.b1 v.A v.n v.c v.b2 v.A2 v.m v.d w h1 ht
theorem qput {w : World} {g T : Nat} {x v : Rv} (h : Blk w g T #[.bool x.b1, .slice x.A x.n x.c, .bool x.b2, .slice x.A2 x.m x.d]) : Blk ((((w.setCell ⟨g, 0, none⟩ (.bool v.b1)).setCell ⟨g, 1, none⟩ (.slice v.A v.n v.c)).setCell ⟨g, 2, none⟩ (.bool v.b2)).setCell ⟨g, 3, none⟩ (.slice v.A2 v.m v.d)) g T #[.bool v.b1, .slice v.A v.n v.c, .bool v.b2, .slice v.A2 v.m v.d] := blk_set4 h
theorem qfar {w : World} {g g' T : Nat} {cs : Array Value} {v : Rv} (h : Blk w g' T cs) (hg : g' ≠ g) : Blk ((((w.setCell ⟨g, 0, none⟩ (.bool v.b1)).setCell ⟨g, 1, none⟩ (.slice v.A v.n v.c)).setCell ⟨g, 2, none⟩ (.bool v.b2)).setCell ⟨g, 3, none⟩ (.slice v.A2 v.m v.d)) g' T cs := (((h.far hg _).far hg _).far hg _).far hg _
def sumR (qs : List Rat) : Rat := qs.foldl (· + ·) 0
theorem sumR_snoc (qs : List Rat) (q : Rat) : sumR (qs ++ [q]) = sumR qs + q := by unfold sumR; rw [List.foldl_append]; rfl
theorem sumR_qsz : ∀ (n : Nat) (qs : List Rat), qs.length = n → ∀ b, (∀ q ∈ qs, qsz q ≤ b) → qsz (sumR qs) ≤ n * (b + 1) + 1
 | 0, qs, h, b, hb => by
  rw [List.length_eq_zero_iff] at h
  subst h
  show qsz 0 ≤ _
  have : qsz 0 ≤ 1 := by decide +kernel
  omega
 | n + 1, qs, h, b, hb => by
  obtain ⟨r, q, rfl⟩ : ∃ r q, qs = r ++ [q] := ⟨qs.dropLast, qs.getLast (by intro e; subst e; simp at h), (List.dropLast_concat_getLast _).symm⟩
  rw [List.length_append, List.length_singleton] at h
  have h1 := sumR_qsz n r (by omega) b fun q hq => hb q (List.mem_append_left _ hq)
  have h2 := hb q (by simp)
  rw [sumR_snoc]
  have h3 := add_qsz (sumR r) q
  rw [Nat.succ_mul]
  omega
def dotR (a b : List Rat) : Rat := sumR (List.zipWith (· * ·) a b)
end
section
open Go.ChangeShapes Go.WideShapes Go.ChangeAt Go.RowKit
attribute [local go_sem ↓] execOp_call_val
attribute [local go_sem] callVal_func setCell_drewN alloc_drewN sEq_walk
theorem dotR_step {xs ys : List Rat} {k : Nat} {p q : Rat} (hp : xs[k]? = some p) (hq : ys[k]? = some q) : sumR ((List.zipWith (· * ·) xs ys).take (k + 1)) = sumR ((List.zipWith (· * ·) xs ys).take k) + p * q := by
 rw [take_snoc (x := p * q) (by rw [List.getElem?_zipWith, hp, hq]), sumR_snoc]
theorem dotR_qsz {xs ys : List Rat} {n Z : Nat} (hn : xs.length = n) (ha : ∀ q ∈ xs, qsz q ≤ Z) (hb : ∀ q ∈ ys, qsz q ≤ Z) (k : Nat) (hk : k ≤ n) : qsz (sumR ((List.zipWith (· * ·) xs ys).take k)) ≤ n * (2 * Z + 1) + 1 := by
 have h1 : ((List.zipWith (· * ·) xs ys).take k).length ≤ n := by rw [List.length_take, List.length_zipWith]; omega
 refine Nat.le_trans (sumR_qsz _ _ rfl (2 * Z) fun q hq => ?_) ?_
 ·obtain ⟨i, hi⟩ := List.getElem?_of_mem (List.mem_of_mem_take hq)
  rw [List.getElem?_zipWith] at hi
  cases h1 : xs[i]? with
  | none => rw [h1] at hi; simp at hi
  | some x =>
   cases h2 : ys[i]? with
   | none => rw [h1, h2] at hi; simp at hi
   | some y =>
    rw [h1, h2] at hi
    simp at hi
    subst hi
    have := mul_qsz x y
    have := ha x (List.mem_of_getElem? h1)
    have := hb y (List.mem_of_getElem? h2)
    omega
 ·have := Nat.mul_le_mul_right (2 * Z + 1) h1
  omega
theorem sign_zero {q : Rat} (h : q = 0) : q.num.sign = 0 := by subst h; rfl
theorem sign_ne {q : Rat} (h : q ≠ 0) : (q.num.sign != 0) = true := by
 have : q.num ≠ 0 := fun e => h (Rat.num_eq_zero.1 e)
 have : q.num.sign ≠ 0 := fun e => this (Int.sign_eq_zero_iff_zero.1 e)
 simpa using this
set_option maxRecDepth 100000 in
set_option maxHeartbeats 4000000 in
theorem dot_any (A : Option Addr) (n c : Nat) (B : Option Addr) (m d : Nat) (xs ys : List Rat) (Z : Nat) (w : World) (hA : RdQ w w.heap.size A n xs) (hB : RdQ w w.heap.size B m ys) (hnm : n ≤ m) (hn : n ≤ 9223372036854775807) (ha : ∀ q ∈ xs, qsz q ≤ Z) (hb : ∀ q ∈ ys, qsz q ≤ Z) (hz : n * (2 * Z + 1) + 2 * Z + 2 ≤ 35184372088832) :
    Calls Tryz.prog 61 #[.slice A n c, .slice B m d] w (QP (dotR xs ys) w) := by
 have HA := Lib.hid hA
 have HB := Lib.hid hB
 have HAL := Lib.hid hA.len
 have HBL := Lib.hid hB.len
 have HQA := Lib.hid ha
 have HQB := Lib.hid hb
 have HZ := Lib.hid hz
 have HNM := Lib.hid hnm
 have HB0 : Hid (Below w.heap.size w ((w.alloc (.cells #[.bool false, .slice none 0 0, .bool false, .slice none 0 0] 93)))) := Lib.hid ((Below.refl _ _).alloc (Nat.le_refl _) _)
 have HR : Hid (Blk ((w.alloc (.cells #[.bool false, .slice none 0 0, .bool false, .slice none 0 0] 93))) w.heap.size 93 #[.bool false, .slice none 0 0, .bool false, .slice none 0 0]) := Lib.hid (Blk.new w _ _)
 clear hA hB ha hb hz hnm
 go_enter Tryz.func61, Tryz.ntmps61
 go_upto_region 1 with fail
 generalize ((w.alloc (.cells #[.bool false, .slice none 0 0, .bool false, .slice none 0 0] 93))) = W at *
 go_wp2_with fail
 refine (wholeV 0 W (by decide) (by decide)).mono ?_
 rintro e w1 ⟨hb1, v1, rfl, h1⟩
 have HB1 := Lib.hid (HB0.out.trans (hb1.mono HB0.out.size))
 have HR1 := Lib.hid (HR.out.below hb1 HR.out.lt)
 have H1 := Lib.hid h1
 clear hb1 h1 HB0 HR
 go_wp2_with fail
 generalize hwa : w1.alloc (.cells #[.bool v1.b1, .slice v1.A v1.n v1.c, .bool v1.b2, .slice v1.A2 v1.m v1.d] 93) = wa
 have hba : Below w1.heap.size w1 wa := by rw [← hwa]; exact (Below.refl _ _).alloc (Nat.le_refl _) _
 have HGS : Hid (Blk wa w1.heap.size 93 #[.bool v1.b1, .slice v1.A v1.n v1.c, .bool v1.b2, .slice v1.A2 v1.m v1.d]) := Lib.hid (by rw [← hwa]; exact Blk.new w1 _ _)
 have HBA := Lib.hid (HB1.out.trans (hba.mono HB1.out.size))
 have HRA := Lib.hid (HR1.out.below hba HR1.out.lt)
 have HVA : Hid (RtV wa wa.heap.size (0 : Rat) v1) := Lib.hid (by have := H1.out.up hba; simpa using this)
 have HGL : Hid (w.heap.size < w1.heap.size) := Lib.hid HR1.out.lt
 clear hwa hba HB1 HR1 H1
 generalize w1.heap.size = g at *
 go_loopw [10] (fun v10 wr => ∃ (k : Nat) (v : Rv), k ≤ n ∧ v10 = .int .i64 k ∧ Below w.heap.size w wr ∧ Blk wr w.heap.size 93 #[.bool false, .slice none 0 0, .bool false, .slice none 0 0] ∧ Blk wr g 93 #[.bool v.b1, .slice v.A v.n v.c, .bool v.b2, .slice v.A2 v.m v.d] ∧ RtV wr wr.heap.size (sumR ((List.zipWith (· * ·) xs ys).take k)) v) (fun v10 _ => n - (intOf v10).toNat)
 case atStart => exact ⟨0, v1, by omega, rfl, HBA.out, HRA.out, HGS.out, by rw [List.take_zero]; exact HVA.out⟩
 case round =>
  clear HBA HRA HGS HVA
  obtain ⟨k, v, hk, rfl, hb, hr, hg, hv⟩ := hrel
  have HK := Lib.hid hb
  have HR := Lib.hid hr
  have HG := Lib.hid hg
  have HV := Lib.hid hv
  clear hb hr hg hv
  by_cases hlt : k < n
  ·obtain ⟨x, hx⟩ : ∃ x, xs[k]? = some x := ⟨_, List.getElem?_eq_getElem (by have := HAL.out; omega)⟩
   obtain ⟨y, hy⟩ : ∃ y, ys[k]? = some y := ⟨_, List.getElem?_eq_getElem (by have := HBL.out; have := HNM.out; omega)⟩
   obtain ⟨ab, ao, hA1, hab⟩ := HA.out.form (by omega)
   subst hA1
   obtain ⟨bb, bo, hB1, hbb⟩ := HB.out.form (by have := HNM.out; omega)
   subst hB1
   have HS := Lib.hid (dotR_step hx hy)
   have HQX := Lib.hid (HQA.out x (List.mem_of_getElem? hx))
   have HQY := Lib.hid (HQB.out y (List.mem_of_getElem? hy))
   have HQS := Lib.hid (dotR_qsz HAL.out HQA.out HQB.out k hk)
   obtain ⟨vx, a0, a1, a2, a3, a4⟩ := (HA.out.below HK.out (Nat.le_refl _)).at_ hx
   have HX := Lib.hid hx
   have HY := Lib.hid hy
   have hab2 : ab < wr.heap.size := Nat.lt_of_lt_of_le hab HK.out.size
   have hbb2 : bb < wr.heap.size := Nat.lt_of_lt_of_le hbb HK.out.size
   have HLX := Lib.hid hab
   have HLY := Lib.hid hbb
   clear hx hy hab hbb
   have hkI : (k : Int) < (n : Int) := by omega
   have hkm : (k : Int) < (m : Int) := by have := HNM.out; omega
   have hkm2 : k < m := by have := HNM.out; omega
   have HN1 : Hid ((k : Int) + 1 = ((k + 1 : Nat) : Int)) := Lib.hid (by omega)
   have HN2 : Hid (n - (k + 1) < n - k) := Lib.hid (by omega)
   have HVX := Lib.hid ((RtV.more (w := wr) a4 HK.out.size))
   clear a4
   go_wp2_with fail
   refine (signV HVX.out).mono ?_
   clear a0 a1 a2 a3
   rintro e w2 ⟨rfl, hb2⟩
   have HK2 := Lib.hid (HK.out.trans (hb2.mono HK.out.size))
   have HR2 := Lib.hid (HR.out.below hb2 HR.out.lt)
   have HG2 := Lib.hid (HG.out.below hb2 HG.out.lt)
   have HV2 := Lib.hid (HV.out.up hb2)
   have HVX2 := Lib.hid (HVX.out.up hb2)
   clear hb2 HR HG HV HVX
   by_cases hx0 : x = 0
   ·have hz := sign_zero hx0
    rw [hz]
    have HE : Hid (sumR ((List.zipWith (· * ·) xs ys).take (k + 1)) = sumR ((List.zipWith (· * ·) xs ys).take k)) := Lib.hid (by rw [HS.out, hx0, Rat.zero_mul, Rat.add_zero])
    clear hz hx0
    go_wp2_with fail
    go_roundw
    case rel => exact ⟨k + 1, v, hlt, val_int HN1.out, HK2.out, HR2.out, HG2.out, by rw [HE.out]; exact HV2.out⟩
    case measure => exact HN2.out
   ·have hz := sign_ne hx0
    generalize x.num.sign = z at hz ⊢
    clear hx0
    obtain ⟨vy, a0, a1, a2, a3, a4⟩ := (HB.out.below HK2.out (Nat.le_refl _)).at_ HY.out
    have HVY2 := Lib.hid (RtV.more (w := w2) a4 HK2.out.size)
    have hbb3 : bb < w2.heap.size := Nat.lt_of_lt_of_le HLY.out HK2.out.size
    clear a4
    go_wp2_with fail
    refine (signV HVY2.out).mono ?_
    clear a0 a1 a2 a3
    rintro e w3 ⟨rfl, hb3⟩
    have HK3 := Lib.hid (HK2.out.trans (hb3.mono HK2.out.size))
    have HR3 := Lib.hid (HR2.out.below hb3 HR2.out.lt)
    have HG3 := Lib.hid (HG2.out.below hb3 HG2.out.lt)
    have HV3 := Lib.hid (HV2.out.up hb3)
    clear hb3 HR2 HG2 HV2 HVX2 HVY2
    by_cases hy0 : y = 0
    ·have hz2 := sign_zero hy0
     rw [hz2]
     have HE : Hid (sumR ((List.zipWith (· * ·) xs ys).take (k + 1)) = sumR ((List.zipWith (· * ·) xs ys).take k)) := Lib.hid (by rw [HS.out, hy0, Rat.mul_zero, Rat.add_zero])
     clear hz2 hy0
     go_wp2_with fail
     go_roundw
     case rel => exact ⟨k + 1, v, hlt, val_int HN1.out, HK3.out, HR3.out, HG3.out, by rw [HE.out]; exact HV3.out⟩
     case measure => exact HN2.out
    ·have hz2 := sign_ne hy0
     generalize y.num.sign = z2 at hz2 ⊢
     clear hy0
     go_upto_region 6 with fail
     clear hz hz2
     obtain ⟨vx, a0, a1, a2, a3, a4⟩ := (HA.out.below HK3.out (Nat.le_refl _)).at_ HX.out
     have HVX3 := Lib.hid (RtV.more (w := w3) a4 HK3.out.size)
     obtain ⟨vy, d0, d1, d2, d3, d4⟩ := (HB.out.below HK3.out (Nat.le_refl _)).at_ HY.out
     have HVY3 := Lib.hid (RtV.more (w := w3) d4 HK3.out.size)
     have hab4 : ab < w3.heap.size := Nat.lt_of_lt_of_le HLX.out HK3.out.size
     have hbb4 : bb < w3.heap.size := Nat.lt_of_lt_of_le HLY.out HK3.out.size
     clear a4 d4
     have p0 := HG3.out.cell 0
     have p1 := HG3.out.cell 1
     have p2 := HG3.out.cell 2
     have p3 := HG3.out.cell 3
     have pl := HG3.out.lt
     have HB4 := Lib.hid (below_drew (Below.refl w3.heap.size w3))
     refine wp_region_last (S := fun w' => Below w3.heap.size w3 w') 11 _ (by kernel_rfl) (by kernel_rfl) rfl HB4.out (fun hHeld => ?_)
     simp only [List.take_succ_cons, List.take_zero]
     refine tkH 0 rfl (by intro w' _ hcc; go_simp <;> with_reducible rfl) hHeld ?_
     try simp only [Act.put, sA_, sB_, sC_]
     refine tkH 1 rfl (by intro w' _ hcc; go_simp <;> with_reducible rfl) hHeld ?_
     try simp only [Act.put, sA_, sB_, sC_]
     refine tkH 2 rfl (by intro w' _ hcc; go_simp <;> with_reducible rfl) hHeld ?_
     try simp only [Act.put, sA_, sB_, sC_]
     refine tkH 3 rfl (by intro w' _ hcc; go_simp <;> with_reducible rfl) hHeld ?_
     try simp only [Act.put, sA_, sB_, sC_]
     refine tkH 4 rfl (by intro w' _ hcc; go_simp <;> with_reducible rfl) hHeld ?_
     try simp only [Act.put, sA_, sB_, sC_]
     refine tkH 5 rfl (by intro w' _ hcc; go_simp <;> with_reducible rfl) hHeld ?_
     try simp only [Act.put, sA_, sB_, sC_]
     refine tkH 6 rfl (by intro w' _ hcc; go_simp <;> with_reducible rfl) hHeld ?_
     try simp only [Act.put, sA_, sB_, sC_]
     refine tkH 7 rfl (by intro w' _ hcc; go_simp <;> with_reducible rfl) hHeld ?_
     try simp only [Act.put, sA_, sB_, sC_]
     refine tkH 8 rfl (by intro w' _ hcc; go_simp <;> with_reducible rfl) hHeld ?_
     try simp only [Act.put, sA_, sB_, sC_]
     refine stepH 9 (by kernel_rfl) rfl (fun K hK => ?_)
     go_simp
     refine (mulV (HVX3.out.up HB4.out) (HVY3.out.up HB4.out) (by have := HQX.out; have := HQY.out; have := HZ.out; omega)).mono ?_
     rintro e w5 ⟨hb5, v5, rfl, h5⟩
     have HB5 := Lib.hid (HB4.out.trans (hb5.mono HB4.out.size))
     have H5 := Lib.hid h5
     clear hb5 h5
     go_simp
     refine hK.out _ _ ?_ (fun hHeld => ?_)
     ·exact HB5.out
     clear hK K
     try simp only [Act.put, sA_, sB_, sC_]
     refine stepH 10 (by kernel_rfl) rfl (fun K hK => ?_)
     go_simp
     refine (addV (HV3.out.up HB5.out) H5.out (by have := mul_qsz x y; have := HQX.out; have := HQY.out; have := HQS.out; have := HZ.out; omega)).mono ?_
     rintro e w6 ⟨hb6, v6, rfl, h6⟩
     have HB6 := Lib.hid (HB5.out.trans (hb6.mono HB5.out.size))
     have H6 := Lib.hid h6
     clear hb6 h6
     go_simp
     refine hK.out _ _ ?_ (fun hHeld => ?_)
     ·exact HB6.out
     clear hK K
     try simp only [Act.put, sA_, sB_, sC_]
     refine wpAnyH_done (by kernel_rfl) ?_ _
     refine lastQ_go (by rfl) ?_
     have HKF := Lib.hid (HK3.out.trans (HB6.out.mono HK3.out.size))
     have HRF := Lib.hid (HR3.out.below HB6.out HR3.out.lt)
     have HGF := Lib.hid (HG3.out.below HB6.out HG3.out.lt)
     clear p0 p1 p2 p3 pl a0 a1 a2 a3 d0 d1 d2 d3 hab2 hab4 hbb2 hbb3 hbb4
     have p0 := HGF.out.cell 0
     have p1 := HGF.out.cell 1
     have p2 := HGF.out.cell 2
     have p3 := HGF.out.cell 3
     have pf := HGF.out.frozen
     have pl := HGF.out.lt
     go_wp2_with fail
     go_roundw
     case rel => exact ⟨k + 1, v6, hlt, val_int HN1.out, below_putQ HKF.out (Nat.le_of_lt HGL.out), qfar HRF.out (Nat.ne_of_lt HGL.out), qput HGF.out, by rw [HS.out]; exact H6.out.keepq HGF.out⟩
     case measure => exact HN2.out
  ·have hke : k = n := by omega
   subst hke
   have hkI : ¬ (k : Int) < (k : Int) := by omega
   have HE : Hid (RtV wr wr.heap.size (dotR xs ys) v) := Lib.hid (by
    have h := HV.out
    rw [List.take_of_length_le (by rw [List.length_zipWith, HAL.out]; omega)] at h
    exact h)
   have p0 := HG.out.cell 0
   have p1 := HG.out.cell 1
   have p2 := HG.out.cell 2
   have p3 := HG.out.cell 3
   have pl := HG.out.lt
   have z0 := HR.out.cell 0
   have z1 := HR.out.cell 1
   have z2 := HR.out.cell 2
   have z3 := HR.out.cell 3
   have zf := HR.out.frozen
   have zl := HR.out.lt
   go_wp2_with fail
   clear p0 p1 p2 p3 pl z0 z1 z2 z3 zf zl
   have HX := Lib.hid (qput (v := v) (x := rv0) HR.out)
   have HB9 := Lib.hid (below_putQ (v := v) HK.out (Nat.le_refl _))
   have HV9 := Lib.hid (HE.out.keepq (v := v) (x := rv0) HR.out)
   unfold putQ at HB9
   generalize (((wr.setCell ⟨_, 0, none⟩ _).setCell ⟨_, 1, none⟩ _).setCell ⟨_, 2, none⟩ _).setCell ⟨_, 3, none⟩ _ = W9 at *
   have q0 := HX.out.cell 0
   have q1 := HX.out.cell 1
   have q2 := HX.out.cell 2
   have q3 := HX.out.cell 3
   exact bodyPost_ret (v := .agg #[.bool v.b1, .slice v.A v.n v.c, .bool v.b2, .slice v.A2 v.m v.d]) (by simp [results, Tryz.results61, go_sem, q0, q1, q2, q3]) rfl ⟨HB9.out, v, rfl, HV9.out⟩
end
section
open Go.ChangeShapes Go.WideShapes Go.ChangeAt Go.RowKit
attribute [local go_sem ↓] execOp_call_val
attribute [local go_sem] callVal_func setCell_drewN alloc_drewN sEq_walk
theorem rnS_of {q : Rat} (h : Fits q) : rnS q = txtQ q := if_pos h
end
section
open Go.ChangeShapes Go.WideShapes Go.ChangeAt Go.RowKit
attribute [local go_sem ↓] execOp_call_val
attribute [local go_sem] callVal_func setCell_drewN alloc_drewN sEq_walk
set_option maxRecDepth 100000 in
set_option maxHeartbeats 4000000 in
theorem samevec_any (A : Option Addr) (n c : Nat) (a : List ByteArray) (B : Option Addr) (m d : Nat) (b : List ByteArray) (w : World) (ha : RdStr w w.heap.size A n a) (hb : RdStr w w.heap.size B m b) (hn : n ≤ 9223372036854775807) (hm : m ≤ 9223372036854775807) :
    Calls Tryz.prog 45 #[.slice A n c, .slice B m d] w fun e w' => e = .returned (.bool (decide (a = b))) ∧ Below w.heap.size w w' := by
 have hla := Lib.hid ha.1
 have hlb := Lib.hid hb.1
 have HA := Lib.hid ha
 have HB := Lib.hid hb
 clear ha hb
 go_enter Tryz.func45, Tryz.ntmps45
 by_cases hnm : n = m
 ·subst hnm
  go_wp2_with fail
  go_loopw [5, 13] (fun _ i wr => ∃ k : Nat, k ≤ n ∧ i = .int .i64 k ∧ a.take k = b.take k ∧ Below w.heap.size w wr) (fun _ i _ => n - (intOf i).toNat)
  case atStart => exact ⟨0, by omega, rfl, by simp, Below.refl _ _⟩
  case round =>
   obtain ⟨k, hk, rfl, hab, hbw⟩ := hrel
   have HAB := Lib.hid hab
   have HW := Lib.hid hbw
   clear hab hbw
   by_cases hlt : k < n
   ·obtain ⟨x, hx⟩ : ∃ x, a[k]? = some x := ⟨_, List.getElem?_eq_getElem (by have := hla.out; omega)⟩
    obtain ⟨y, hy⟩ : ∃ y, b[k]? = some y := ⟨_, List.getElem?_eq_getElem (by have := hlb.out; omega)⟩
    obtain ⟨ba, oa, rfl, hablt⟩ := HA.out.form (by omega)
    obtain ⟨bb, ob, rfl, hbblt⟩ := HB.out.form (by omega)
    have hca := (HA.out.below HW.out (Nat.le_refl _)).at_ hx
    have hcb := (HB.out.below HW.out (Nat.le_refl _)).at_ hy
    have hl1 : ba < wr.heap.size := Nat.lt_of_lt_of_le hablt HW.out.size
    have hl2 : bb < wr.heap.size := Nat.lt_of_lt_of_le hbblt HW.out.size
    have hltI : (k : Int) < (n : Int) := by omega
    have hkI : (0 : Int) ≤ (k : Int) := by omega
    have HN1 : Hid ((k : Int) + 1 = ((k + 1 : Nat) : Int)) := Lib.hid (by omega)
    have HN2 : Hid (n - (k + 1) < n - k) := Lib.hid (by omega)
    by_cases hxy : x = y
    ·subst hxy
     have hp : sEq x x = true := sEq_iff.2 rfl
     have HT : Hid (a.take (k + 1) = b.take (k + 1)) := Lib.hid (by rw [take_snoc hx, take_snoc hy, HAB.out])
     clear hx hy hablt hbblt
     go_wp2_with fail
     go_quiet (fail)
     go_wp2_with fail
     go_roundw
     case rel => exact ⟨k + 1, hlt, val_int HN1.out, HT.out, below_drewN HW.out _⟩
     case measure => exact HN2.out
    ·have hp : sEq x y = false := sEq_ff.2 hxy
     have HT : Hid (decide (a = b) = false) := Lib.hid (by
      rw [decide_eq_false_iff_not]
      intro e
      subst e
      rw [hx] at hy
      injection hy with hy
      exact hxy hy)
     clear hx hy hablt hbblt hxy
     go_wp2_with fail
     go_quiet (fail)
     go_wp2_with fail
     go_ret
     exact ⟨by rw [HT.out]; rfl, below_drewN HW.out _⟩
   ·have hkI : ¬ (k : Int) < (n : Int) := by omega
    have HT : Hid (decide (a = b) = true) := Lib.hid (by
     rw [decide_eq_true_iff]
     have h := HAB.out
     rwa [List.take_of_length_le (by have := hla.out; omega), List.take_of_length_le (by have := hlb.out; omega)] at h)
    go_wp2_with fail
    go_ret
    exact ⟨by rw [HT.out]; rfl, HW.out⟩
 ·have hI : ((n : Int) != (m : Int)) = true := by simp; omega
  have HT : Hid (decide (a = b) = false) := Lib.hid (by
   rw [decide_eq_false_iff_not]
   intro e
   subst e
   exact hnm (hla.out.symm.trans hlb.out))
  go_wp2_with fail
  go_ret
  exact ⟨by rw [HT.out]; rfl, Below.refl _ _⟩
end
section
open Go.ChangeShapes Go.WideShapes Go.ChangeAt Go.RowKit
attribute [local go_sem ↓] execOp_call_val
attribute [local go_sem] callVal_func setCell_drewN alloc_drewN sEq_walk
set_option maxRecDepth 100000 in
set_option maxHeartbeats 4000000 in
theorem fat_any (A : Option Addr) (n c : Nat) (u : Rv) (q : List Rat) (z : Rat) (B : Option Addr) (m d : Nat) (al : List Rat) (w : World) (hq : RdQ w w.heap.size A n q) (hz : RtV w w.heap.size z u) (ha : RdQ w w.heap.size B m al) (hnm : n ≤ m) (hn : n ≤ 1000) (h1 : ∀ p ∈ q, qsz p ≤ 2000) (h2 : ∀ p ∈ al, qsz p ≤ 2000) (h3 : qsz z ≤ 2000) :
    Calls Tryz.prog 81 #[.agg #[.slice A n c, .bool u.b1, .slice u.A u.n u.c, .bool u.b2, .slice u.A2 u.m u.d], .slice B m d] w (QP (dotR q al + z) w) := by
 have K0 : Below w.heap.size w ((w.alloc (.cells #[.slice A n c, .bool u.b1, .slice u.A u.n u.c, .bool u.b2, .slice u.A2 u.m u.d] 128)).alloc (.cells #[.bool false, .slice none 0 0, .bool false, .slice none 0 0] 93)) := ((Below.refl _ _).alloc (Nat.le_refl _) _).alloc (by simp) _
 have HK := Lib.hid K0
 have PF := Lib.hid ((Blk.new w 128 #[.slice A n c, .bool u.b1, .slice u.A u.n u.c, .bool u.b2, .slice u.A2 u.m u.d]).alloc (.cells #[.bool false, .slice none 0 0, .bool false, .slice none 0 0] 93))
 have PB : Hid (Blk ((w.alloc (.cells #[.slice A n c, .bool u.b1, .slice u.A u.n u.c, .bool u.b2, .slice u.A2 u.m u.d] 128)).alloc (.cells #[.bool false, .slice none 0 0, .bool false, .slice none 0 0] 93)) (w.heap.size + 1) 93 #[.bool false, .slice none 0 0, .bool false, .slice none 0 0]) := Lib.hid (Blk.new_ (by simp))
 have HQ := Lib.hid (hq.up K0)
 have HZ := Lib.hid (hz.up K0)
 have HA := Lib.hid (ha.up K0)
 have H1 := Lib.hid h1
 have H2 := Lib.hid h2
 have H3 := Lib.hid h3
 have HSZ : Hid (w.heap.size + 1 < ((w.alloc (.cells #[.slice A n c, .bool u.b1, .slice u.A u.n u.c, .bool u.b2, .slice u.A2 u.m u.d] 128)).alloc (.cells #[.bool false, .slice none 0 0, .bool false, .slice none 0 0] 93)).heap.size) := Lib.hid (by simp)
 have HQL : Hid (q.length = n) := Lib.hid hq.len
 have HDS : Hid (qsz (dotR q al) + qsz z + 1 ≤ 35184372088832) := Lib.hid (by
  have h := dotR_qsz (n := n) (Z := 2000) hq.len h1 h2 n (Nat.le_refl _)
  rw [List.take_of_length_le (by rw [List.length_zipWith, hq.len]; exact Nat.min_le_left _ _)] at h
  have h' : qsz (dotR q al) ≤ n * (2 * 2000 + 1) + 1 := h
  have : n * (2 * 2000 + 1) ≤ 1000 * (2 * 2000 + 1) := Nat.mul_le_mul_right _ hn
  omega)
 clear K0 hq hz ha h1 h2 h3
 go_enter Tryz.func81, Tryz.ntmps81
 go_upto_region 1 with fail
 generalize (w.alloc (.cells #[.slice A n c, .bool u.b1, .slice u.A u.n u.c, .bool u.b2, .slice u.A2 u.m u.d] 128)).alloc (.cells #[.bool false, .slice none 0 0, .bool false, .slice none 0 0] 93) = W at *
 have y0 := PF.out.cell 0
 have y1 := PF.out.cell 1
 have y2 := PF.out.cell 2
 have y3 := PF.out.cell 3
 have y4 := PF.out.cell 4
 have yl := PF.out.lt
 refine wp_region_last (S := fun w' => Below W.heap.size W w') 7 _ (by kernel_rfl) (by kernel_rfl) rfl (below_drew (Below.refl _ _)) (fun hHeld => ?_)
 simp only [List.take_succ_cons, List.take_zero]
 refine tkH 0 rfl (by intro w' _ hcc; go_simp <;> with_reducible rfl) hHeld ?_
 try simp only [Act.put, sA_, sB_, sC_]
 refine tkH 1 rfl (by intro w' _ hcc; go_simp <;> with_reducible rfl) hHeld ?_
 try simp only [Act.put, sA_, sB_, sC_]
 refine tkH 2 rfl (by intro w' _ hcc; go_simp <;> with_reducible rfl) hHeld ?_
 try simp only [Act.put, sA_, sB_, sC_]
 refine tkH 4 rfl (by intro w' _ hcc; go_simp <;> with_reducible rfl) hHeld ?_
 try simp only [Act.put, sA_, sB_, sC_]
 refine tkH 5 rfl (by intro w' _ hcc; go_simp <;> with_reducible rfl) hHeld ?_
 try simp only [Act.put, sA_, sB_, sC_]
 clear y0 y1 y2 y3 y4 yl
 have HV0 := Lib.hid (below_drew (Below.refl W.heap.size W))
 generalize W.drew = v0 at *
 refine stepH 3 (by kernel_rfl) rfl (fun K hK => ?_)
 go_simp
 refine (dot_any A n c B m d q al 2000 v0 (HQ.out.up HV0.out) (HA.out.up HV0.out) hnm (by omega) H1.out H2.out (by have : n * (2 * 2000 + 1) ≤ 1000 * (2 * 2000 + 1) := Nat.mul_le_mul_right _ hn; omega)).mono ?_
 rintro e v1 ⟨hb1, x1, rfl, hx1⟩
 have HV1 : Hid (Below W.heap.size W v1) := Lib.hid (HV0.out.trans (hb1.mono HV0.out.size))
 have HX1 := Lib.hid hx1
 clear hb1 hx1 HV0
 go_simp
 refine hK.out _ _ ?_ (fun hHeld => ?_)
 ·exact HV1.out
 clear hK K
 try simp only [Act.put, sA_, sB_, sC_]
 refine stepH 6 (by kernel_rfl) rfl (fun K hK => ?_)
 go_simp
 refine (addV HX1.out (HZ.out.up HV1.out) HDS.out).mono ?_
 rintro e v2 ⟨hb2, x2, rfl, hx2⟩
 have HV2 : Hid (Below W.heap.size W v2) := Lib.hid (HV1.out.trans (hb2.mono HV1.out.size))
 have HX2 := Lib.hid hx2
 clear hb2 hx2 HV1 HX1
 go_simp
 refine hK.out _ _ ?_ (fun hHeld => ?_)
 ·exact HV2.out
 clear hK K
 try simp only [Act.put, sA_, sB_, sC_]
 refine wpAnyH_done (by kernel_rfl) ?_ _
 refine lastQ_go (by rfl) ?_
 clear hHeld
 have PC := Lib.hid (PB.out.below HV2.out PB.out.lt)
 have z0 := PC.out.cell 0
 have z1 := PC.out.cell 1
 have z2 := PC.out.cell 2
 have z3 := PC.out.cell 3
 have zl := PC.out.lt
 have zf := PC.out.frozen
 go_wp2_with fail
 clear z0 z1 z2 z3 zl zf
 have PD := Lib.hid (box_put (v := x2) PC.out)
 have p0 := PD.out.cell 0
 have p1 := PD.out.cell 1
 have p2 := PD.out.cell 2
 have p3 := PD.out.cell 3
 unfold putQ at p0 p1 p2 p3
 refine bodyPost_ret (v := .agg #[.bool x2.b1, .slice x2.A x2.n x2.c, .bool x2.b2, .slice x2.A2 x2.m x2.d]) (by simp [results, Tryz.results81, go_sem, p0, p1, p2, p3]) rfl ?_
 exact ⟨below_putQ (v := x2) (HK.out.trans (HV2.out.mono (by have := HSZ.out; omega))) (Nat.le_succ _), x2, rfl, HX2.out.keepq PC.out (x := ⟨false, none, 0, 0, false, none, 0, 0⟩)⟩
def angE (n n1 : Nat) (ss : List ByteArray) : Int := if n ≠ n1 then 3 else ckAllR ss
set_option maxRecDepth 100000 in
theorem ckang_any (g : Nat) (m : ModH) (y : Value) (A : Option Addr) (n c : Nat) (ss : List ByteArray) (w : World) (hg : Blk w g 123 (m.cells y)) (hR : RdStr w w.heap.size A n ss) (hs : ∀ s ∈ ss, s.size ≤ maxLen) (hn : n ≤ 9223372036854775807) (ht : TabOk w) (ae : Int) (hae : angE n m.n1 ss = ae) :
    Calls Tryz.prog 79 #[.pointer (some ⟨g, 0, none⟩), .slice A n c] w fun e w' => e = .returned (.int .i64 ae) ∧ Below w.heap.size w w' := by
 have HG := Lib.hid hg
 have HC := Lib.hid (ckall_any A n c ss w hR hs hn ht)
 clear hg hR hs ht
 go_enter Tryz.func79, Tryz.ntmps79
 go_wp2_with fail
 refine (mbuses_any g m y w HG.out).mono ?_
 rintro e w1 ⟨rfl, rfl⟩
 by_cases h : n = m.n1
 ·have HE : Hid (ae = ckAllR ss) := Lib.hid (by rw [← hae]; unfold angE; rw [if_neg (fun hh => hh h)])
  clear hae
  rw [← h]
  clear h
  go_wp2_with fail
  refine HC.out.mono ?_
  rintro e w2 ⟨rfl, hb2⟩
  have HB := Lib.hid hb2
  clear hb2 HC
  go_wp2_with fail
  go_ret
  exact ⟨ret_int HE.out.symm, HB.out⟩
 ·have HE : Hid (ae = 3) := Lib.hid (by rw [← hae]; unfold angE; rw [if_pos h])
  clear hae
  have hB : ((n : Int) != (m.n1 : Int)) = true := by simp; omega
  go_wp2_with fail
  go_ret
  exact ⟨ret_int HE.out.symm, Below.refl _ _⟩
end
section
open Go.ChangeShapes Go.WideShapes Go.ChangeAt Go.RowKit
attribute [local go_sem ↓] execOp_call_val
attribute [local go_sem] callVal_func setCell_drewN alloc_drewN sEq_walk
def mval (x : Net) (al : List Rat) (m : Mi) : Rat := dotR (formR x m).1 al + (formR x m).2
def mvals (x : Net) (ms : List Mi) (ss : List ByteArray) : List Rat := ms.map (mval x (ss.map qOf))
def readE (x : Net) (ms : List Mi) (ss : List ByteArray) : Int := if mtCk x ms ≠ 0 then mtCk x ms else angE ss.length (busN x) ss
def ReadP (x : Net) (ms : List Mi) (ss : List ByteArray) (w : World) (e : Ending) (w' : World) : Prop := Below w.heap.size w w' ∧ ((readE x ms ss ≠ 0 ∧ e = .returned (.tuple #[.slice none 0 0, .int .i64 (readE x ms ss)])) ∨
 (readE x ms ss = 0 ∧ ((∀ q ∈ mvals x ms ss, Fits q) → ∃ A n c, e = .returned (.tuple #[.slice A n c, .int .i64 0]) ∧ RdStr w' w'.heap.size A n ((mvals x ms ss).map txtQ) ∧ n ≤ c ∧ c ≤ maxLen) ∧ (¬ (∀ q ∈ mvals x ms ss, Fits q) → e = .returned (.tuple #[.slice none 0 0, .int .i64 2]))))
theorem mvals_take {x : Net} {ms : List Mi} {ss : List ByteArray} {k : Nat} {m : Mi} (h : ms[k]? = some m) : (mvals x ms ss).take (k + 1) = (mvals x ms ss).take k ++ [mval x (ss.map qOf) m] := by
 have h2 : (mvals x ms ss)[k]? = some (mval x (ss.map qOf) m) := by unfold mvals; rw [List.getElem?_map, h]; rfl
 exact take_at h2
theorem readE_parts {x : Net} {ms : List Mi} {ss : List ByteArray} (h : readE x ms ss = 0) : mtCk x ms = 0 ∧ ss.length = busN x ∧ ∀ s ∈ ss, ratCk s.data.toList = 0 := by
 unfold readE at h
 split at h
 ·exact absurd h (by assumption)
 ·rename_i h1
  unfold angE at h
  split at h
  ·omega
  ·rename_i h2
   exact ⟨by omega, by omega, ckAllR_ok.1 h⟩
set_option maxRecDepth 100000 in
set_option maxHeartbeats 4000000 in
theorem mread_any (h : NetH) (x : Net) (h8 : x.nodes.length ≤ 8) (A : Option Addr) (n c : Nat) (ms : List Mi) (B : Option Addr) (mm d : Nat) (ss : List ByteArray) (w : World) (r : RdNet w w.heap.size h x) (hm : RdMi w w.heap.size A n ms) (hR : RdStr w w.heap.size B mm ss) (hz : ∀ m ∈ ms, m.txt.size ≤ maxLen) (hs : ∀ s ∈ ss, s.size ≤ maxLen) (hn : n ≤ 9223372036854775807) (hmm : mm ≤ 9223372036854775807) (ht : TabOk w) :
    Calls Tryz.prog 37 #[.agg h.cells, .slice A n c, .slice B mm d] w (ReadP x ms ss w) := by
 have K0 : Below w.heap.size w (w.alloc (.cells h.cells 33)) := (Below.refl _ _).alloc (Nat.le_refl _) _
 have HK := Lib.hid K0
 have P0 := Lib.hid (Blk.new w 33 h.cells)
 have HX := Lib.hid (r.up K0)
 have HM := Lib.hid ((hm.below K0 (Nat.le_refl _)).more K0.size)
 have HS := Lib.hid ((hR.below K0 (Nat.le_refl _)).more K0.size)
 have HT := Lib.hid (ht.up K0)
 have HML : Hid (ms.length = n) := Lib.hid hm.1
 have HSL : Hid (ss.length = mm) := Lib.hid hR.1
 have HSS := Lib.hid hs
 have HSZ : Hid (w.heap.size ≤ (w.alloc (.cells h.cells 33)).heap.size) := Lib.hid K0.size
 have HRP : Hid (∀ e w', ReadP x ms ss w e w' ↔ (Below w.heap.size w w' ∧ ((readE x ms ss ≠ 0 ∧ e = .returned (.tuple #[.slice none 0 0, .int .i64 (readE x ms ss)])) ∨
 (readE x ms ss = 0 ∧ ((∀ q ∈ mvals x ms ss, Fits q) → ∃ A n c, e = .returned (.tuple #[.slice A n c, .int .i64 0]) ∧ RdStr w' w'.heap.size A n ((mvals x ms ss).map txtQ) ∧ n ≤ c ∧ c ≤ maxLen) ∧ (¬ (∀ q ∈ mvals x ms ss, Fits q) → e = .returned (.tuple #[.slice none 0 0, .int .i64 2])))))) := Lib.hid fun e w' => Iff.rfl
 have HRE : Hid (readE x ms ss = if mtCk x ms ≠ 0 then mtCk x ms else angE ss.length (busN x) ss) := Lib.hid rfl
 have HCK := Lib.hid (mcheck_any h x A n c ms (w.alloc (.cells h.cells 33)) HX.out HM.out hz hn HT.out)
 have HPA := Lib.hid (readE_parts (x := x) (ms := ms) (ss := ss))
 generalize readE x ms ss = re at *
 clear K0 hm hR r ht hs hz
 obtain ⟨D0, r0, s0, D1, r1, s1, D2, r2, s2, D3, r3, s3, D4, r4, s4, D5, r5, s5⟩ := h
 obtain ⟨y0, y1, y2, y3, y4, y5, nf, nlt⟩ := net_box (h := ⟨D0, r0, s0, D1, r1, s1, D2, r2, s2, D3, r3, s3, D4, r4, s4, D5, r5, s5⟩) P0.out
 dsimp only at y0 y1 y2 y3 y4 y5
 go_enter Tryz.func37, Tryz.ntmps37
 go_wp2_with fail
 generalize w.alloc (.cells (NetH.cells ⟨D0, r0, s0, D1, r1, s1, D2, r2, s2, D3, r3, s3, D4, r4, s4, D5, r5, s5⟩) 33) = W at *
 refine HCK.out.mono ?_
 rintro e w1 ⟨rfl, hb1⟩
 have HB1 := Lib.hid hb1
 clear hb1 y0 y1 y2 y3 y4 y5 nf nlt HCK
 by_cases hck : mtCk x ms = 0
 ·have HC := Lib.hid hck
  rw [if_neg (fun h => h hck)] at HRE
  rw [hck]
  clear hck
  have PNX := P0.out.below HB1.out P0.out.lt
  obtain ⟨y0, y1, y2, y3, y4, y5, nf, nlt⟩ := net_box (h := ⟨D0, r0, s0, D1, r1, s1, D2, r2, s2, D3, r3, s3, D4, r4, s4, D5, r5, s5⟩) PNX
  dsimp only at y0 y1 y2 y3 y4 y5
  clear PNX
  obtain ⟨ok, hl, hmi⟩ := mtCk_ok HC.out
  have HOK := Lib.hid ok
  have HL := Lib.hid hl
  have HMI := Lib.hid hmi
  clear ok hl hmi
  go_wp2_with fail
  refine (flowOf_any ⟨D0, r0, s0, D1, r1, s1, D2, r2, s2, D3, r3, s3, D4, r4, s4, D5, r5, s5⟩ x HOK.out h8 w1 (HX.out.up HB1.out)).mono ?_
  rintro e w2 ⟨hb2, g, m, A7, n7, c7, rfl, hg, hblk, hrd, -⟩
  have HB2 := Lib.hid (HB1.out.trans (hb2.mono HB1.out.size))
  have HG := Lib.hid hblk
  have HR := Lib.hid hrd
  have HN1 : Hid (busN x = m.n1) := Lib.hid (by rw [← islR_len HOK.out]; exact hrd.r1.len)
  clear hb2 hg hblk hrd HB1 y0 y1 y2 y3 y4 y5 nf nlt
  go_wp2_with fail
  refine (ckang_any g m _ B mm d ss w2 HG.out ((HS.out.below HB2.out (Nat.le_refl _)).more HB2.out.size) HSS.out hmm (HT.out.up HB2.out) re (by rw [HRE.out, HSL.out, HN1.out])).mono ?_
  rintro e w3 ⟨rfl, hb3⟩
  have HB3 := Lib.hid (HB2.out.trans (hb3.mono HB2.out.size))
  replace HG := Lib.hid (HG.out.below hb3 HG.out.lt)
  replace HR := Lib.hid (HR.out.up hb3)
  clear hb3 HB2
  by_cases hre : re = 0
  ·subst hre
   obtain ⟨-, hsl, hsv⟩ := HPA.out rfl
   have HSV := Lib.hid hsv
   have HMB : Hid (mm = busN x) := Lib.hid (by rw [← HSL.out]; exact hsl)
   have hmm8 : mm ≤ 8 := by rw [HMB.out]; exact Nat.le_trans (busN_ok HOK.out).2 h8
   clear hsl hsv HPA HRE
   go_wp2_with fail
   refine (parseall_any B mm d ss w3 ((HS.out.below HB3.out (Nat.le_refl _)).more HB3.out.size) HSV.out (by omega)).mono ?_
   rintro e w4 ⟨hb4, A4, n4, c4, rfl, hq4, -, -, -⟩
   have HB4 := Lib.hid (HB3.out.trans (hb4.mono HB3.out.size))
   replace HG := Lib.hid (HG.out.below hb4 HG.out.lt)
   replace HR := Lib.hid (HR.out.up hb4)
   have HQ := Lib.hid hq4
   have HN4 : Hid (n4 = mm) := Lib.hid (by rw [← hq4.len, List.length_map, HSL.out])
   have HQS : Hid (∀ p ∈ ss.map qOf, qsz p ≤ 2000) := Lib.hid fun p hp => by
    obtain ⟨s, hs, rfl⟩ := List.mem_map.1 hp
    exact fits_qsz (valid_fits (HSV.out s hs))
   clear hb4 hq4 HB3 HS
   have HGW4 : Hid (W.heap.size ≤ w4.heap.size) := Lib.hid HB4.out.size
   have hn64 : n ≤ 64 := by have := HL.out; have := HML.out; omega
   go_wp2_with fail
   go_loopw [12, 33] (fun v12 v33 wr => ∃ (k : Nat) (us : List Rv), k ≤ n ∧ v33 = .int .i64 k ∧ OwnQ wr w4.heap.size v12 us ((mvals x ms ss).take k) ∧ Below w4.heap.size w4 wr) (fun _ v33 _ => n - (intOf v33).toNat)
   case atStart => exact ⟨0, [], by omega, rfl, ownQ_none _ _, Below.refl _ _⟩
   case round =>
    obtain ⟨k, us, hk, rfl, ho, hb⟩ := hrel
    have HO := Lib.hid ho
    have HB := Lib.hid hb
    clear ho hb
    by_cases hlt : k < n
    ·obtain ⟨mi, hmi⟩ : ∃ mi, ms[k]? = some mi := ⟨_, List.getElem?_eq_getElem (by have := HML.out; omega)⟩
     have HTK := Lib.hid (mvals_take (x := x) (ss := ss) hmi)
     have HMO := Lib.hid (HMI.out mi (List.mem_of_getElem? hmi))
     have HBW := Lib.hid (HB4.out.trans (HB.out.mono HB4.out.size))
     have hmx := (HM.out.below HBW.out (Nat.le_refl _)).more HBW.out.size
     obtain ⟨ab, ao, hA, hab, -⟩ := hmx.2.2 (by omega)
     subst hA
     obtain ⟨a0, a1, a2, a3⟩ := hmx.at_ hmi
     have hkI : (k : Int) < (n : Int) := by omega
     have hk0 : (0 : Int) ≤ (k : Int) := by omega
     have hkn : (k : Int).toNat = k := Int.toNat_natCast k
     have HNX : Hid ((k : Int) + 1 = ((k + 1 : Nat) : Int)) := Lib.hid (by omega)
     have HNM : Hid (n - (k + 1) < n - k) := Lib.hid (by omega)
     have HLT := Lib.hid hlt
     clear hmi hmx
     go_upto_region 13 with fail
     clear a0 a1 a2 a3 hab hkI hk0 hkn
     have hz : Below wr.heap.size wr (wr.alloc (.cells #[.int .i64 mi.kind, .string mi.name, .string mi.txt, .int .i64 mi.wt] 57)) := (Below.refl _ _).alloc (Nat.le_refl _) _
     have HMB2 := Lib.hid (Blk.new wr 57 #[.int .i64 mi.kind, .string mi.name, .string mi.txt, .int .i64 mi.wt])
     replace HO := Lib.hid (HO.out.keep hz)
     have HBA : Hid (Below w4.heap.size w4 (wr.alloc (.cells #[.int .i64 mi.kind, .string mi.name, .string mi.txt, .int .i64 mi.wt] 57))) := Lib.hid (HB.out.trans (hz.mono HB.out.size))
     have HWA : Hid (Below W.heap.size W (wr.alloc (.cells #[.int .i64 mi.kind, .string mi.name, .string mi.txt, .int .i64 mi.wt] 57))) := Lib.hid (HB4.out.trans (HBA.out.mono HB4.out.size))
     clear hz HB HBW
     generalize wr.heap.size = gm at *
     generalize wr.alloc (.cells #[.int .i64 mi.kind, .string mi.name, .string mi.txt, .int .i64 mi.wt] 57) = wa at *
     have PNX := P0.out.below HWA.out P0.out.lt
     obtain ⟨y0, y1, y2, y3, y4, y5, nf, nlt⟩ := net_box (h := ⟨D0, r0, s0, D1, r1, s1, D2, r2, s2, D3, r3, s3, D4, r4, s4, D5, r5, s5⟩) PNX
     dsimp only at y0 y1 y2 y3 y4 y5
     clear PNX
     have x0 := HMB2.out.cell 0
     have x1 := HMB2.out.cell 1
     have x2 := HMB2.out.cell 2
     have x3 := HMB2.out.cell 3
     have xl := HMB2.out.lt
     go_wp2_with fail
     refine (formOf_any ⟨D0, r0, s0, D1, r1, s1, D2, r2, s2, D3, r3, s3, D4, r4, s4, D5, r5, s5⟩ x HOK.out h8 g m _ mi wa (HX.out.up HWA.out) (HG.out.below HBA.out HG.out.lt) (HR.out.up HBA.out) HMO.out.1 HMO.out.2).mono ?_
     rintro e w5 ⟨hb5, gc, u, rfl, hq, hv⟩
     clear y0 y1 y2 y3 y4 y5 nf nlt x0 x1 x2 x3 xl
     have HB5 := Lib.hid (HBA.out.trans (hb5.mono HBA.out.size))
     replace HO := Lib.hid (HO.out.keep hb5)
     have HQF := Lib.hid hq
     have HVF := Lib.hid hv
     have HFO := Lib.hid (formR_ok HOK.out HMO.out)
     clear hb5 hq hv HWA HBA
     go_wp2_with fail
     refine (fat_any (some ⟨gc, 0, none⟩) (busN x) (busN x) u (formR x mi).1 (formR x mi).2 A4 n4 c4 (ss.map qOf) w5 HQF.out HVF.out ((HQ.out.below HB5.out (Nat.le_refl _)).more HB5.out.size) (by rw [HN4.out, HMB.out]; exact Nat.le_refl _) (by have := HMB.out; omega) (fun p hp => Nat.le_trans (HFO.out.cf p hp) (by decide)) HQS.out (Nat.le_trans HFO.out.fr (by decide))).mono ?_
     rintro e w6 ⟨hb6, xe, rfl, hxe⟩
     have HB6 := Lib.hid (HB5.out.trans (hb6.mono HB5.out.size))
     replace HO := Lib.hid (HO.out.keep hb6)
     have HXE := Lib.hid hxe
     have HGL : Hid (w4.heap.size ≤ w6.heap.size) := Lib.hid HB6.out.size
     clear hb6 hxe HB5 HQF HVF HFO
     go_wp2_with (at_builtin; refine wpList_appQ rfl (.tmp 37) (.tmp 44) _ rfl w4.heap.size Tryz.underlying103 u12 us _ rfl HO.out xe _ HXE.out rfl ?k1 HGL.out ?_)
     case k1 => rw [List.length_take]; omega
     intro v' w8 hown hkeep hb8
     have HO8 : Hid (OwnQ w8 w4.heap.size v' (us ++ [xe]) ((mvals x ms ss).take (k + 1))) := Lib.hid (by rw [HTK.out]; exact hown)
     have HB8 := Lib.hid (HB6.out.trans hb8)
     clear hown hkeep hb8 HO HB6 HXE HMB2
     go_wp2_with fail
     go_roundw
     case rel => exact ⟨k + 1, us ++ [xe], HLT.out, val_int HNX.out, HO8.out, HB8.out⟩
     case measure => exact HNM.out
    ·have hke : k = n := by omega
     subst hke
     have hkI : ¬ (k : Int) < (k : Int) := by omega
     have hml : (mvals x ms ss).length = k := by unfold mvals; rw [List.length_map]; exact HML.out
     have HOE : Hid (OwnQ wr w4.heap.size u12 us (mvals x ms ss)) := Lib.hid (by
      have h := HO.out
      rw [List.take_of_length_le (by rw [hml]; exact Nat.le_refl _)] at h
      exact h)
     obtain ⟨A9, c9, hv, hrd, -, -, -⟩ := HOE.out.rd
     subst hv
     rw [hml] at hrd ⊢
     have HRD := Lib.hid hrd
     have HBF := Lib.hid (HB4.out.trans (HB.out.mono HB4.out.size))
     clear hrd hml HO
     go_wp2_with fail
     refine (textvec_any A9 k c9 (mvals x ms ss) wr HRD.out (by omega) (HT.out.up HBF.out)).mono ?_
     rintro e w9 ⟨hb9, ht1, ht2⟩
     have HB9 := Lib.hid (HK.out.trans ((HBF.out.trans (hb9.mono HBF.out.size)).mono HSZ.out))
     have HT1 := Lib.hid ht1
     have HT2 := Lib.hid ht2
     clear hb9 ht1 ht2
     by_cases hf : ∀ q ∈ mvals x ms ss, Fits q
     ·obtain ⟨A6, n6, c6, rfl, hr6, h61, h62⟩ := HT1.out hf
      have HR6 := Lib.hid hr6
      clear hr6
      go_wp2_with fail
      go_ret2
      rw [HRP.out]
      exact ⟨HB9.out, .inr ⟨by trivial, fun _ => ⟨A6, n6, c6, rfl, HR6.out, h61, h62⟩, fun h => absurd hf h⟩⟩
     ·obtain rfl := HT2.out hf
      go_wp2_with fail
      go_ret2
      rw [HRP.out]
      exact ⟨HB9.out, .inr ⟨by trivial, fun h => absurd h hf, fun _ => rfl⟩⟩
  ·have hB : (re != 0) = true := by simp [hre]
   go_wp2_with fail
   go_ret2
   rw [HRP.out]
   exact ⟨HK.out.trans (HB3.out.mono HSZ.out), .inl ⟨hre, rfl⟩⟩
 ·have hckB : (mtCk x ms != 0) = true := by simp [hck]
  rw [if_pos hck] at HRE
  go_wp2_with fail
  go_ret2
  rw [HRP.out]
  exact ⟨HK.out.trans (HB1.out.mono HSZ.out), .inl ⟨by rw [HRE.out]; exact hck, by rw [HRE.out]; rfl⟩⟩
end
section
open Go.ChangeShapes Go.WideShapes Go.ChangeAt Go.RowKit
attribute [local go_sem ↓] execOp_call_val
attribute [local go_sem] callVal_func setCell_drewN alloc_drewN sEq_walk
def MofP (x : Net) (m : Mi) (w : World) (e : Ending) (w' : World) : Prop := Below w.heap.size w w' ∧ ((mtCk x [m] ≠ 0 ∧ e = .returned (.tuple #[.slice none 0 0, .string ⟨#[]⟩, .int .i64 (mtCk x [m])])) ∨
 (mtCk x [m] = 0 ∧ ∃ A c, e = .returned (.tuple #[.slice A (busN x) c, .string (txtQ (formR x m).2), .int .i64 0]) ∧ RdStr w' w'.heap.size A (busN x) ((formR x m).1.map txtQ)))
set_option maxRecDepth 100000 in
set_option maxHeartbeats 4000000 in
theorem mof_any (h : NetH) (x : Net) (h8 : x.nodes.length ≤ 8) (m : Mi) (w : World) (r : RdNet w w.heap.size h x) (hz : m.txt.size ≤ maxLen) (ht : TabOk w) (hfc : mtCk x [m] = 0 → (∀ q ∈ (formR x m).1, Fits q) ∧ Fits (formR x m).2) :
    Calls Tryz.prog 38 #[.agg h.cells, .agg #[.int .i64 m.kind, .string m.name, .string m.txt, .int .i64 m.wt]] w (MofP x m w) := by
 have K0 : Below w.heap.size w ((w.alloc (.cells h.cells 33)).alloc (.cells #[.int .i64 m.kind, .string m.name, .string m.txt, .int .i64 m.wt] 57)) := ((Below.refl _ _).alloc (Nat.le_refl _) _).alloc (by simp) _
 have HK := Lib.hid K0
 have P0 := Lib.hid ((Blk.new w 33 h.cells).alloc (.cells #[.int .i64 m.kind, .string m.name, .string m.txt, .int .i64 m.wt] 57))
 have P1 : Hid (Blk ((w.alloc (.cells h.cells 33)).alloc (.cells #[.int .i64 m.kind, .string m.name, .string m.txt, .int .i64 m.wt] 57)) (w.heap.size + 1) 57 #[.int .i64 m.kind, .string m.name, .string m.txt, .int .i64 m.wt]) := Lib.hid (Blk.new_ (by simp))
 have HX := Lib.hid (r.up K0)
 have HT := Lib.hid (ht.up K0)
 have HFC := Lib.hid hfc
 have HMZ : Hid (∀ a ∈ [m], a.txt.size ≤ maxLen) := Lib.hid fun a ha => by rw [List.mem_singleton.1 ha]; exact hz
 have HSZ : Hid (w.heap.size ≤ ((w.alloc (.cells h.cells 33)).alloc (.cells #[.int .i64 m.kind, .string m.name, .string m.txt, .int .i64 m.wt] 57)).heap.size) := Lib.hid K0.size
 have HOP : Hid (∀ e w', MofP x m w e w' ↔ (Below w.heap.size w w' ∧ ((mtCk x [m] ≠ 0 ∧ e = .returned (.tuple #[.slice none 0 0, .string ⟨#[]⟩, .int .i64 (mtCk x [m])])) ∨
 (mtCk x [m] = 0 ∧ ∃ A c, e = .returned (.tuple #[.slice A (busN x) c, .string (txtQ (formR x m).2), .int .i64 0]) ∧ RdStr w' w'.heap.size A (busN x) ((formR x m).1.map txtQ))))) := Lib.hid fun e w' => Iff.rfl
 clear K0 r ht hfc
 obtain ⟨D0, r0, s0, D1, r1, s1, D2, r2, s2, D3, r3, s3, D4, r4, s4, D5, r5, s5⟩ := h
 obtain ⟨y0, y1, y2, y3, y4, y5, nf, nlt⟩ := net_box (h := ⟨D0, r0, s0, D1, r1, s1, D2, r2, s2, D3, r3, s3, D4, r4, s4, D5, r5, s5⟩) P0.out
 dsimp only at y0 y1 y2 y3 y4 y5
 have x0 := P1.out.cell 0
 have x1 := P1.out.cell 1
 have x2 := P1.out.cell 2
 have x3 := P1.out.cell 3
 have xl := P1.out.lt
 go_enter Tryz.func38, Tryz.ntmps38
 go_upto_region 1 with fail
 generalize (w.alloc (.cells (NetH.cells ⟨D0, r0, s0, D1, r1, s1, D2, r2, s2, D3, r3, s3, D4, r4, s4, D5, r5, s5⟩) 33)).alloc (.cells #[.int .i64 m.kind, .string m.name, .string m.txt, .int .i64 m.wt] 57) = W at *
 generalize w.heap.size + 1 = p1 at *
 go_wp2_with fail
 have hzl : Below W.heap.size W (W.alloc (.cells #[.int .i64 m.kind, .string m.name, .string m.txt, .int .i64 m.wt] 57)) := (Below.refl _ _).alloc (Nat.le_refl _) _
 have HLT := Lib.hid (rdMi_blk (Blk.new W 57 #[.int .i64 m.kind, .string m.name, .string m.txt, .int .i64 m.wt]))
 have HBL := Lib.hid hzl
 clear y0 y1 y2 y3 y4 y5 nf nlt x0 x1 x2 x3 xl hzl
 generalize W.alloc (.cells #[.int .i64 m.kind, .string m.name, .string m.txt, .int .i64 m.wt] 57) = wl at *
 refine (mcheck_any ⟨D0, r0, s0, D1, r1, s1, D2, r2, s2, D3, r3, s3, D4, r4, s4, D5, r5, s5⟩ x _ 1 1 [m] wl (HX.out.up HBL.out) HLT.out HMZ.out (by decide) (HT.out.up HBL.out)).mono ?_
 rintro e w1 ⟨rfl, hb1⟩
 have HB1 := Lib.hid (HBL.out.trans (hb1.mono HBL.out.size))
 clear hb1 HBL HLT
 by_cases hck : mtCk x [m] = 0
 ·have HC := Lib.hid hck
  obtain ⟨ok, hl, hmi⟩ := mtCk_ok hck
  have HOK := Lib.hid ok
  have HMI := Lib.hid (hmi m (List.mem_singleton.2 rfl))
  have HFT := Lib.hid (HFC.out hck)
  rw [hck]
  clear ok hl hmi hck HFC
  have PNX := P0.out.below HB1.out P0.out.lt
  obtain ⟨y0, y1, y2, y3, y4, y5, nf, nlt⟩ := net_box (h := ⟨D0, r0, s0, D1, r1, s1, D2, r2, s2, D3, r3, s3, D4, r4, s4, D5, r5, s5⟩) PNX
  dsimp only at y0 y1 y2 y3 y4 y5
  have P1b := P1.out.below HB1.out P1.out.lt
  have x0 := P1b.cell 0
  have x1 := P1b.cell 1
  have x2 := P1b.cell 2
  have x3 := P1b.cell 3
  have xl := P1b.lt
  clear PNX P1b
  go_upto_region 4 with fail
  go_cut [8] (fun v8 wc => ∃ (p8 gc : Nat) (u : Rv), v8 = .pointer (some ⟨p8, 0, none⟩) ∧ Blk wc p8 128 #[.slice (some ⟨gc, 0, none⟩) (busN x) (busN x), .bool u.b1, .slice u.A u.n u.c, .bool u.b2, .slice u.A2 u.m u.d] ∧ RdQ wc wc.heap.size (some ⟨gc, 0, none⟩) (busN x) (formR x m).1 ∧ RtV wc wc.heap.size (formR x m).2 u ∧ Below w1.heap.size w1 wc)
  case first =>
   refine wp_region_last (S := fun w' => Below w1.heap.size w1 w') 6 _ (by kernel_rfl) (by kernel_rfl) rfl (below_drew (Below.refl _ _)) (fun hHeld => ?_)
   simp only [List.take_succ_cons, List.take_zero]
   refine tkH 0 rfl (by intro w' _ hcc; go_simp <;> with_reducible rfl) hHeld ?_
   try simp only [Act.put, sA_, sB_, sC_]
   refine tkH 1 rfl (by intro w' _ hcc; go_simp <;> with_reducible rfl) hHeld ?_
   try simp only [Act.put, sA_, sB_, sC_]
   refine tkH 3 rfl (by intro w' _ hcc; go_simp <;> with_reducible rfl) hHeld ?_
   try simp only [Act.put, sA_, sB_, sC_]
   clear y0 y1 y2 y3 y4 y5 nf nlt x0 x1 x2 x3 xl
   have HV0 := Lib.hid (below_drew (Below.refl w1.heap.size w1))
   generalize w1.drew = v0 at *
   refine stepTwo 2 5 (by kernel_rfl) rfl rfl (fun K hK => ?_) (fun K hK => ?_)
   ·go_simp
    refine (flowOf_any ⟨D0, r0, s0, D1, r1, s1, D2, r2, s2, D3, r3, s3, D4, r4, s4, D5, r5, s5⟩ x HOK.out h8 v0 (HX.out.up (HB1.out.trans (HV0.out.mono HB1.out.size)))).mono ?_
    rintro e v1 ⟨hb, g, md, A7, n7, c7, rfl, hg, hblk, hrd, -⟩
    have HV1 : Hid (Below w1.heap.size w1 v1) := Lib.hid (HV0.out.trans (hb.mono HV0.out.size))
    have HG1 := Lib.hid hblk
    have HR1 := Lib.hid hrd
    clear hb hg hblk hrd
    go_simp
    refine hK.out _ _ ?_ (fun hHeld => ?_)
    ·exact HV1.out
    clear hK K
    try simp only [Act.put, sA_, sB_, sC_]
    refine stepTwo 4 5 (by kernel_rfl) rfl rfl (fun K hK => ?_) (fun K hK => ?_)
    ·go_simp
     refine (formOf_any ⟨D0, r0, s0, D1, r1, s1, D2, r2, s2, D3, r3, s3, D4, r4, s4, D5, r5, s5⟩ x HOK.out h8 g md _ m v1 (HX.out.up (HB1.out.trans (HV1.out.mono HB1.out.size))) HG1.out HR1.out HMI.out.1 HMI.out.2).mono ?_
     rintro e v2 ⟨hb, gc, u, rfl, hq, hv⟩
     have HV2 : Hid (Below w1.heap.size w1 v2) := Lib.hid (HV1.out.trans (hb.mono HV1.out.size))
     have HQ2 := Lib.hid hq
     have HU2 := Lib.hid hv
     have HGC : Hid (v1.heap.size ≤ v1.heap.size) := Lib.hid (Nat.le_refl _)
     clear hb hq hv HGC
     go_simp
     refine hK.out _ _ ?_ (fun hHeld => ?_)
     ·exact HV2.out
     clear hK K
     try simp only [Act.put, sA_, sB_, sC_]
     refine stepH 5 (by kernel_rfl) rfl (fun K hK => ?_)
     go_simp
     have hz : Below v2.heap.size v2 (v2.alloc (.cells #[.slice none 0 0, .bool false, .slice none 0 0, .bool false, .slice none 0 0] 128)) := (Below.refl _ _).alloc (Nat.le_refl _) _
     have HL3 := Lib.hid (Blk.new v2 128 #[.slice none 0 0, .bool false, .slice none 0 0, .bool false, .slice none 0 0])
     have HV3 : Hid (Below w1.heap.size w1 (v2.alloc (.cells #[.slice none 0 0, .bool false, .slice none 0 0, .bool false, .slice none 0 0] 128))) := Lib.hid (HV2.out.trans (hz.mono HV2.out.size))
     have HPG : Hid (w1.heap.size ≤ v2.heap.size) := Lib.hid HV2.out.size
     have HQ3 := Lib.hid (HQ2.out.up hz)
     have HU3 := Lib.hid (HU2.out.up hz)
     generalize v2.alloc (.cells #[.slice none 0 0, .bool false, .slice none 0 0, .bool false, .slice none 0 0] 128) = v3 at *
     generalize v2.heap.size = p8 at *
     clear hz
     refine hK.out _ _ ?_ (fun hHeld => ?_)
     ·exact HV3.out
     clear hK K
     try simp only [Act.put, sA_, sB_, sC_]
     refine wpAnyH_done (by kernel_rfl) ?_ _
     refine lastQ_go (by rfl) ?_
     clear hHeld
     have s0 := HL3.out.cell 0
     have s1 := HL3.out.cell 1
     have s2 := HL3.out.cell 2
     have s3 := HL3.out.cell 3
     have s4 := HL3.out.cell 4
     have sl := HL3.out.lt
     have sf := HL3.out.frozen
     go_wp2_with fail
     go_meet
     case rel => exact ⟨p8, gc, u, rfl, put5_blk HL3.out, HQ3.out.keep5 HL3.out, HU3.out.keep5 HL3.out, below_put5 HV3.out HPG.out⟩
    ·go_simp
     have hz : Below v1.heap.size v1 (v1.alloc (.cells #[.slice none 0 0, .bool false, .slice none 0 0, .bool false, .slice none 0 0] 128)) := (Below.refl _ _).alloc (Nat.le_refl _) _
     have HL2 := Lib.hid (Blk.new v1 128 #[.slice none 0 0, .bool false, .slice none 0 0, .bool false, .slice none 0 0])
     have HV2 : Hid (Below w1.heap.size w1 (v1.alloc (.cells #[.slice none 0 0, .bool false, .slice none 0 0, .bool false, .slice none 0 0] 128))) := Lib.hid (HV1.out.trans (hz.mono HV1.out.size))
     have HPG : Hid (w1.heap.size ≤ v1.heap.size) := Lib.hid HV1.out.size
     have HG2 := Lib.hid (HG1.out.below hz HG1.out.lt)
     have HR2 := Lib.hid (HR1.out.up hz)
     generalize v1.alloc (.cells #[.slice none 0 0, .bool false, .slice none 0 0, .bool false, .slice none 0 0] 128) = v2 at *
     generalize v1.heap.size = p8 at *
     clear hz
     refine hK.out _ _ ?_ (fun hHeld => ?_)
     ·exact HV2.out
     clear hK K
     try simp only [Act.put, sA_, sB_, sC_]
     refine stepH 4 (by kernel_rfl) rfl (fun K hK => ?_)
     go_simp
     refine (formOf_any ⟨D0, r0, s0, D1, r1, s1, D2, r2, s2, D3, r3, s3, D4, r4, s4, D5, r5, s5⟩ x HOK.out h8 g md _ m v2 (HX.out.up (HB1.out.trans (HV2.out.mono HB1.out.size))) HG2.out HR2.out HMI.out.1 HMI.out.2).mono ?_
     rintro e v3 ⟨hb, gc, u, rfl, hq, hv⟩
     have HV3 : Hid (Below w1.heap.size w1 v3) := Lib.hid (HV2.out.trans (hb.mono HV2.out.size))
     have HQ3 := Lib.hid hq
     have HU3 := Lib.hid hv
     have HGC : Hid (v2.heap.size ≤ v2.heap.size) := Lib.hid (Nat.le_refl _)
     have HL3 := Lib.hid (HL2.out.below hb HL2.out.lt)
     clear hb hq hv HGC
     go_simp
     refine hK.out _ _ ?_ (fun hHeld => ?_)
     ·exact HV3.out
     clear hK K
     try simp only [Act.put, sA_, sB_, sC_]
     refine wpAnyH_done (by kernel_rfl) ?_ _
     refine lastQ_go (by rfl) ?_
     clear hHeld
     have s0 := HL3.out.cell 0
     have s1 := HL3.out.cell 1
     have s2 := HL3.out.cell 2
     have s3 := HL3.out.cell 3
     have s4 := HL3.out.cell 4
     have sl := HL3.out.lt
     have sf := HL3.out.frozen
     go_wp2_with fail
     go_meet
     case rel => exact ⟨p8, gc, u, rfl, put5_blk HL3.out, HQ3.out.keep5 HL3.out, HU3.out.keep5 HL3.out, below_put5 HV3.out HPG.out⟩
   ·go_simp
    have hz : Below v0.heap.size v0 (v0.alloc (.cells #[.slice none 0 0, .bool false, .slice none 0 0, .bool false, .slice none 0 0] 128)) := (Below.refl _ _).alloc (Nat.le_refl _) _
    have HL1 := Lib.hid (Blk.new v0 128 #[.slice none 0 0, .bool false, .slice none 0 0, .bool false, .slice none 0 0])
    have HV1 : Hid (Below w1.heap.size w1 (v0.alloc (.cells #[.slice none 0 0, .bool false, .slice none 0 0, .bool false, .slice none 0 0] 128))) := Lib.hid (HV0.out.trans (hz.mono HV0.out.size))
    have HPG : Hid (w1.heap.size ≤ v0.heap.size) := Lib.hid HV0.out.size
    generalize v0.alloc (.cells #[.slice none 0 0, .bool false, .slice none 0 0, .bool false, .slice none 0 0] 128) = v1 at *
    generalize v0.heap.size = p8 at *
    clear hz
    refine hK.out _ _ ?_ (fun hHeld => ?_)
    ·exact HV1.out
    clear hK K
    try simp only [Act.put, sA_, sB_, sC_]
    refine stepH 2 (by kernel_rfl) rfl (fun K hK => ?_)
    go_simp
    refine (flowOf_any ⟨D0, r0, s0, D1, r1, s1, D2, r2, s2, D3, r3, s3, D4, r4, s4, D5, r5, s5⟩ x HOK.out h8 v1 (HX.out.up (HB1.out.trans (HV1.out.mono HB1.out.size)))).mono ?_
    rintro e v2 ⟨hb, g, md, A7, n7, c7, rfl, hg, hblk, hrd, -⟩
    have HV2 : Hid (Below w1.heap.size w1 v2) := Lib.hid (HV1.out.trans (hb.mono HV1.out.size))
    have HG2 := Lib.hid hblk
    have HR2 := Lib.hid hrd
    have HL2 := Lib.hid (HL1.out.below hb HL1.out.lt)
    clear hb hg hblk hrd
    go_simp
    refine hK.out _ _ ?_ (fun hHeld => ?_)
    ·exact HV2.out
    clear hK K
    try simp only [Act.put, sA_, sB_, sC_]
    refine stepH 4 (by kernel_rfl) rfl (fun K hK => ?_)
    go_simp
    refine (formOf_any ⟨D0, r0, s0, D1, r1, s1, D2, r2, s2, D3, r3, s3, D4, r4, s4, D5, r5, s5⟩ x HOK.out h8 g md _ m v2 (HX.out.up (HB1.out.trans (HV2.out.mono HB1.out.size))) HG2.out HR2.out HMI.out.1 HMI.out.2).mono ?_
    rintro e v3 ⟨hb, gc, u, rfl, hq, hv⟩
    have HV3 : Hid (Below w1.heap.size w1 v3) := Lib.hid (HV2.out.trans (hb.mono HV2.out.size))
    have HQ3 := Lib.hid hq
    have HU3 := Lib.hid hv
    have HGC : Hid (v2.heap.size ≤ v2.heap.size) := Lib.hid (Nat.le_refl _)
    have HL3 := Lib.hid (HL2.out.below hb HL2.out.lt)
    clear hb hq hv HGC
    go_simp
    refine hK.out _ _ ?_ (fun hHeld => ?_)
    ·exact HV3.out
    clear hK K
    try simp only [Act.put, sA_, sB_, sC_]
    refine wpAnyH_done (by kernel_rfl) ?_ _
    refine lastQ_go (by rfl) ?_
    clear hHeld
    have s0 := HL3.out.cell 0
    have s1 := HL3.out.cell 1
    have s2 := HL3.out.cell 2
    have s3 := HL3.out.cell 3
    have s4 := HL3.out.cell 4
    have sl := HL3.out.lt
    have sf := HL3.out.frozen
    go_wp2_with fail
    go_meet
    case rel => exact ⟨p8, gc, u, rfl, put5_blk HL3.out, HQ3.out.keep5 HL3.out, HU3.out.keep5 HL3.out, below_put5 HV3.out HPG.out⟩
  case rest =>
   obtain ⟨p8, gc, u, rfl, hbk, hq, hv, hbw⟩ := hcut
   have HF := Lib.hid hbk
   have HQ := Lib.hid hq
   have HU := Lib.hid hv
   have HB2 := Lib.hid (HB1.out.trans (hbw.mono HB1.out.size))
   clear hbk hq hv hbw HB1 y0 y1 y2 y3 y4 y5 nf nlt x0 x1 x2 x3 xl
   generalize wc = w2 at *
   have HNB : Hid (busN x ≤ 8) := Lib.hid (Nat.le_trans (busN_ok HOK.out).2 h8)
   have HQL : Hid ((formR x m).1.length = busN x) := Lib.hid HQ.out.len
   have s0 := HF.out.cell 0
   have s1 := HF.out.cell 1
   have s2 := HF.out.cell 2
   have s3 := HF.out.cell 3
   have s4 := HF.out.cell 4
   have sl := HF.out.lt
   go_wp2_with fail
   clear s0 s1 s2 s3 s4 sl
   refine (textvec_any _ (busN x) (busN x) (formR x m).1 w2 HQ.out (by have := HNB.out; omega) (HT.out.up HB2.out)).mono ?_
   rintro e w3 ⟨hb3, ht1, -⟩
   obtain ⟨A3, n3, c3, rfl, hr3, -, -⟩ := ht1 HFT.out.1
   have HB3 := Lib.hid (HB2.out.trans (hb3.mono HB2.out.size))
   have HS3 := Lib.hid hr3
   have hn3 : n3 = busN x := by rw [← hr3.1, List.length_map]; exact HQL.out
   subst hn3
   replace HU := Lib.hid (HU.out.up hb3)
   replace HF := Lib.hid (HF.out.below hb3 HF.out.lt)
   clear hb3 ht1 hr3 HB2 HQ
   have s0 := HF.out.cell 0
   have s1 := HF.out.cell 1
   have s2 := HF.out.cell 2
   have s3 := HF.out.cell 3
   have s4 := HF.out.cell 4
   have sl := HF.out.lt
   go_wp2_with fail
   clear s0 s1 s2 s3 s4 sl
   refine (textV HU.out (HT.out.up HB3.out)).mono ?_
   rintro e w4 ⟨hb4, s, rfl, hs⟩
   rw [decide_eq_true HFT.out.2]
   have HTX : Hid (s = txtQ (formR x m).2) := Lib.hid (hs HFT.out.2)
   have HB4 := Lib.hid (HK.out.trans ((HB3.out.trans (hb4.mono HB3.out.size)).mono HSZ.out))
   replace HS3 := Lib.hid ((HS3.out.below hb4 (Nat.le_refl _)).more hb4.size)
   clear hb4 hs HB3
   go_wp2_with fail
   refine bodyPost_ret (v := .tuple #[.slice A3 (busN x) c3, .string s, .int .i64 0]) (by simp [results, Tryz.results38, go_sem]) rfl ?_
   rw [HOP.out]
   exact ⟨HB4.out, .inr ⟨HC.out, A3, c3, by rw [HTX.out], HS3.out⟩⟩
 ·have hckB : (mtCk x [m] != 0) = true := by simp [hck]
  go_wp2_with fail
  refine bodyPost_ret (v := .tuple #[.slice none 0 0, .string ⟨#[]⟩, .int .i64 (mtCk x [m])]) (by simp [results, Tryz.results38, go_sem]) rfl ?_
  rw [HOP.out]
  exact ⟨HK.out.trans (HB1.out.mono HSZ.out), .inl ⟨hck, rfl⟩⟩
end
section
theorem Tn.fits {k : Nat} {q : Rat} (h : Tn k q) (hk : k ≤ 2000) : Fits q := by
 have h2 := h.mono hk
 exact ⟨ndg_le (by decide) h2.1, ndg_le (by decide) h2.2⟩
theorem tn_divInt {k : Nat} {n : Int} {d : Nat} (hd : d ≠ 0) (h1 : n.natAbs < 10 ^ k) (h2 : d < 10 ^ k) : Tn k (Rat.divInt n d) := by
 have h3 := (ratio_abs n hd).1
 have h4 := (ratio_num n hd).2
 unfold Tn
 rw [h3, h4]
 exact ⟨Nat.lt_of_le_of_lt (Nat.div_le_self ..) h1, Nat.lt_of_le_of_lt (Nat.div_le_self ..) h2⟩
theorem tn_valid {s : ByteArray} (h : ratCk s.data.toList = 0) : Tn (s.size + 1) (qOf s) := by
 obtain ⟨h1, h2, -, -, h5, h6, -, -⟩ := valid_parse h
 have hs : s.data.toList.length = s.size := by rw [Array.length_toList]; rfl
 have hl := congrArg List.length (rtS_split s.data.toList)
 have hl2 := congrArg List.length (pre_split s.data.toList)
 rw [List.length_append] at hl hl2
 have k1 : (rtN s.data.toList).length ≤ s.size := by omega
 refine ⟨?_, ?_⟩
 ·show (parseQ s.data.toList).num.natAbs < _
  rw [h1, rdZ_abs]
  exact Nat.lt_of_lt_of_le (dv_lt h5) (Nat.pow_le_pow_right (by decide) (by omega))
 ·show (parseQ s.data.toList).den < _
  rw [h2]
  unfold denL
  split
  ·rename_i hi
   rw [if_pos hi, List.length_cons] at hl
   exact Nat.lt_of_lt_of_le (dv_lt h6) (Nat.pow_le_pow_right (by decide) (by omega))
  ·rw [Nat.pow_succ]
   have : 0 < 10 ^ s.size := Nat.pow_pos (by decide)
   omega
theorem tn_tiny {s : ByteArray} (h : ratCk s.data.toList = 0) (hs : s.size ≤ 24) : Tn 25 (qOf s) := (tn_valid h).mono (by omega)
theorem txt_op {f : Rat → Rat → Rat} {p q : Rat} (hp : Fits p) (hq : Fits q) (h : Fits (f p q)) : opS f (txtQ p) (txtQ q) = txtQ (f p q) := by
 rw [opS_ok (txt_valid hp).1 (txt_valid hq).1, (txt_valid hp).2, (txt_valid hq).2, rnS_of h]
end
end Go.Proofs.YtakllkkmofdpaaaGreatDoor
