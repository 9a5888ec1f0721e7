/- Parts of the proof, put together into one file. -/
import Derived.Test.YtakllkkmofdpaaaGreatDoorK15
/- The scalar product. -/
namespace Go.Proofs.YtakllkkmofdpaaaGreatDoor
open Go.ChangeShapes Go.WideShapes Go.ChangeAt Go.RowKit
set_option linter.unusedVariables false
set_option linter.unusedSimpArgs false
attribute [local go_sem ↓] execOp_call_val
attribute [local go_sem] callVal_func setCell_drewN alloc_drewN sEq_walk
theorem dotR_step {xs ys : List Rat} {k : Nat} {p q : Rat} (hp : xs[k]? = some p) (hq : ys[k]? = some q) : sumR ((List.zipWith (· * ·) xs ys).take (k + 1)) = sumR ((List.zipWith (· * ·) xs ys).take k) + p * q := by
  rw [take_snoc (x := p * q) (by rw [List.getElem?_zipWith, hp, hq]), sumR_snoc]
theorem dotR_qsz {xs ys : List Rat} {n Z : Nat} (hn : xs.length = n) (ha : ∀ q ∈ xs, qsz q ≤ Z) (hb : ∀ q ∈ ys, qsz q ≤ Z) (k : Nat) (hk : k ≤ n) : qsz (sumR ((List.zipWith (· * ·) xs ys).take k)) ≤ n * (2 * Z + 1) + 1 := by
  have h1 : ((List.zipWith (· * ·) xs ys).take k).length ≤ n := by rw [List.length_take, List.length_zipWith]; omega
  refine Nat.le_trans (sumR_qsz _ _ rfl (2 * Z) fun q hq => ?_) ?_
  · obtain ⟨i, hi⟩ := List.getElem?_of_mem (List.mem_of_mem_take hq)
    rw [List.getElem?_zipWith] at hi
    cases h1 : xs[i]? with
    | none => rw [h1] at hi; simp at hi
    | some x =>
      cases h2 : ys[i]? with
      | none => rw [h1, h2] at hi; simp at hi
      | some y =>
        rw [h1, h2] at hi
        simp at hi
        subst hi
        have := mul_qsz x y
        have := ha x (List.mem_of_getElem? h1)
        have := hb y (List.mem_of_getElem? h2)
        omega
  · have := Nat.mul_le_mul_right (2 * Z + 1) h1
    omega
theorem sign_zero {q : Rat} (h : q = 0) : q.num.sign = 0 := by subst h; rfl
theorem sign_ne {q : Rat} (h : q ≠ 0) : (q.num.sign != 0) = true := by
  have : q.num ≠ 0 := fun e => h (Rat.num_eq_zero.1 e)
  have : q.num.sign ≠ 0 := fun e => this (Int.sign_eq_zero_iff_zero.1 e)
  simpa using this
set_option maxRecDepth 100000 in
set_option maxHeartbeats 4000000 in
theorem dot_any (A : Option Addr) (n c : Nat) (B : Option Addr) (m d : Nat) (xs ys : List Rat) (Z : Nat) (w : World) (hA : RdQ w w.heap.size A n xs) (hB : RdQ w w.heap.size B m ys) (hnm : n ≤ m) (hn : n ≤ 9223372036854775807) (ha : ∀ q ∈ xs, qsz q ≤ Z) (hb : ∀ q ∈ ys, qsz q ≤ Z) (hz : n * (2 * Z + 1) + 2 * Z + 2 ≤ 35184372088832) :
    Calls Tryz.prog 61 #[.slice A n c, .slice B m d] w (QP (dotR xs ys) w) := by
  have HA := Lib.hid hA
  have HB := Lib.hid hB
  have HAL := Lib.hid hA.len
  have HBL := Lib.hid hB.len
  have HQA := Lib.hid ha
  have HQB := Lib.hid hb
  have HZ := Lib.hid hz
  have HNM := Lib.hid hnm
  have HB0 : Hid (Below w.heap.size w ((w.alloc (.cells #[.bool false, .slice none 0 0, .bool false, .slice none 0 0] 93)))) := Lib.hid ((Below.refl _ _).alloc (Nat.le_refl _) _)
  have HR : Hid (Blk ((w.alloc (.cells #[.bool false, .slice none 0 0, .bool false, .slice none 0 0] 93))) w.heap.size 93 #[.bool false, .slice none 0 0, .bool false, .slice none 0 0]) := Lib.hid (Blk.new w _ _)
  clear hA hB ha hb hz hnm
  go_enter Tryz.func61, Tryz.ntmps61
  go_upto_region 1 with fail
  generalize ((w.alloc (.cells #[.bool false, .slice none 0 0, .bool false, .slice none 0 0] 93))) = W at *
  go_wp2_with fail
  refine (wholeV 0 W (by decide) (by decide)).mono ?_
  rintro e w1 ⟨hb1, v1, rfl, h1⟩
  have HB1 := Lib.hid (HB0.out.trans (hb1.mono HB0.out.size))
  have HR1 := Lib.hid (HR.out.below hb1 HR.out.lt)
  have H1 := Lib.hid h1
  clear hb1 h1 HB0 HR
  go_wp2_with fail
  generalize hwa : w1.alloc (.cells #[.bool v1.b1, .slice v1.A v1.n v1.c, .bool v1.b2, .slice v1.A2 v1.m v1.d] 93) = wa
  have hba : Below w1.heap.size w1 wa := by rw [← hwa]; exact (Below.refl _ _).alloc (Nat.le_refl _) _
  have HGS : Hid (Blk wa w1.heap.size 93 #[.bool v1.b1, .slice v1.A v1.n v1.c, .bool v1.b2, .slice v1.A2 v1.m v1.d]) := Lib.hid (by rw [← hwa]; exact Blk.new w1 _ _)
  have HBA := Lib.hid (HB1.out.trans (hba.mono HB1.out.size))
  have HRA := Lib.hid (HR1.out.below hba HR1.out.lt)
  have HVA : Hid (RtV wa wa.heap.size (0 : Rat) v1) := Lib.hid (by have := H1.out.up hba; simpa using this)
  have HGL : Hid (w.heap.size < w1.heap.size) := Lib.hid HR1.out.lt
  clear hwa hba HB1 HR1 H1
  generalize w1.heap.size = g at *
  go_loopw [10] (fun v10 wr => ∃ (k : Nat) (v : Rv), k ≤ n ∧ v10 = .int .i64 k ∧ Below w.heap.size w wr ∧ Blk wr w.heap.size 93 #[.bool false, .slice none 0 0, .bool false, .slice none 0 0] ∧ Blk wr g 93 #[.bool v.b1, .slice v.A v.n v.c, .bool v.b2, .slice v.A2 v.m v.d] ∧ RtV wr wr.heap.size (sumR ((List.zipWith (· * ·) xs ys).take k)) v) (fun v10 _ => n - (intOf v10).toNat)
  case atStart => exact ⟨0, v1, by omega, rfl, HBA.out, HRA.out, HGS.out, by rw [List.take_zero]; exact HVA.out⟩
  case round =>
    clear HBA HRA HGS HVA
    obtain ⟨k, v, hk, rfl, hb, hr, hg, hv⟩ := hrel
    have HK := Lib.hid hb
    have HR := Lib.hid hr
    have HG := Lib.hid hg
    have HV := Lib.hid hv
    clear hb hr hg hv
    by_cases hlt : k < n
    · obtain ⟨x, hx⟩ : ∃ x, xs[k]? = some x := ⟨_, List.getElem?_eq_getElem (by have := HAL.out; omega)⟩
      obtain ⟨y, hy⟩ : ∃ y, ys[k]? = some y := ⟨_, List.getElem?_eq_getElem (by have := HBL.out; have := HNM.out; omega)⟩
      obtain ⟨ab, ao, hA1, hab⟩ := HA.out.form (by omega)
      subst hA1
      obtain ⟨bb, bo, hB1, hbb⟩ := HB.out.form (by have := HNM.out; omega)
      subst hB1
      have HS := Lib.hid (dotR_step hx hy)
      have HQX := Lib.hid (HQA.out x (List.mem_of_getElem? hx))
      have HQY := Lib.hid (HQB.out y (List.mem_of_getElem? hy))
      have HQS := Lib.hid (dotR_qsz HAL.out HQA.out HQB.out k hk)
      obtain ⟨vx, a0, a1, a2, a3, a4⟩ := (HA.out.below HK.out (Nat.le_refl _)).at_ hx
      have HX := Lib.hid hx
      have HY := Lib.hid hy
      have hab2 : ab < wr.heap.size := Nat.lt_of_lt_of_le hab HK.out.size
      have hbb2 : bb < wr.heap.size := Nat.lt_of_lt_of_le hbb HK.out.size
      have HLX := Lib.hid hab
      have HLY := Lib.hid hbb
      clear hx hy hab hbb
      have hkI : (k : Int) < (n : Int) := by omega
      have hkm : (k : Int) < (m : Int) := by have := HNM.out; omega
      have hkm2 : k < m := by have := HNM.out; omega
      have HN1 : Hid ((k : Int) + 1 = ((k + 1 : Nat) : Int)) := Lib.hid (by omega)
      have HN2 : Hid (n - (k + 1) < n - k) := Lib.hid (by omega)
      have HVX := Lib.hid ((RtV.more (w := wr) a4 HK.out.size))
      clear a4
      go_wp2_with fail
      refine (signV HVX.out).mono ?_
      clear a0 a1 a2 a3
      rintro e w2 ⟨rfl, hb2⟩
      have HK2 := Lib.hid (HK.out.trans (hb2.mono HK.out.size))
      have HR2 := Lib.hid (HR.out.below hb2 HR.out.lt)
      have HG2 := Lib.hid (HG.out.below hb2 HG.out.lt)
      have HV2 := Lib.hid (HV.out.up hb2)
      have HVX2 := Lib.hid (HVX.out.up hb2)
      clear hb2 HR HG HV HVX
      by_cases hx0 : x = 0
      · have hz := sign_zero hx0
        rw [hz]
        have HE : Hid (sumR ((List.zipWith (· * ·) xs ys).take (k + 1)) = sumR ((List.zipWith (· * ·) xs ys).take k)) := Lib.hid (by rw [HS.out, hx0, Rat.zero_mul, Rat.add_zero])
        clear hz hx0
        go_wp2_with fail
        go_roundw
        case rel => exact ⟨k + 1, v, hlt, val_int HN1.out, HK2.out, HR2.out, HG2.out, by rw [HE.out]; exact HV2.out⟩
        case measure => exact HN2.out
      · have hz := sign_ne hx0
        generalize x.num.sign = z at hz ⊢
        clear hx0
        obtain ⟨vy, a0, a1, a2, a3, a4⟩ := (HB.out.below HK2.out (Nat.le_refl _)).at_ HY.out
        have HVY2 := Lib.hid (RtV.more (w := w2) a4 HK2.out.size)
        have hbb3 : bb < w2.heap.size := Nat.lt_of_lt_of_le HLY.out HK2.out.size
        clear a4
        go_wp2_with fail
        refine (signV HVY2.out).mono ?_
        clear a0 a1 a2 a3
        rintro e w3 ⟨rfl, hb3⟩
        have HK3 := Lib.hid (HK2.out.trans (hb3.mono HK2.out.size))
        have HR3 := Lib.hid (HR2.out.below hb3 HR2.out.lt)
        have HG3 := Lib.hid (HG2.out.below hb3 HG2.out.lt)
        have HV3 := Lib.hid (HV2.out.up hb3)
        clear hb3 HR2 HG2 HV2 HVX2 HVY2
        by_cases hy0 : y = 0
        · have hz2 := sign_zero hy0
          rw [hz2]
          have HE : Hid (sumR ((List.zipWith (· * ·) xs ys).take (k + 1)) = sumR ((List.zipWith (· * ·) xs ys).take k)) := Lib.hid (by rw [HS.out, hy0, Rat.mul_zero, Rat.add_zero])
          clear hz2 hy0
          go_wp2_with fail
          go_roundw
          case rel => exact ⟨k + 1, v, hlt, val_int HN1.out, HK3.out, HR3.out, HG3.out, by rw [HE.out]; exact HV3.out⟩
          case measure => exact HN2.out
        · have hz2 := sign_ne hy0
          generalize y.num.sign = z2 at hz2 ⊢
          clear hy0
          go_upto_region 6 with fail
          clear hz hz2
          obtain ⟨vx, a0, a1, a2, a3, a4⟩ := (HA.out.below HK3.out (Nat.le_refl _)).at_ HX.out
          have HVX3 := Lib.hid (RtV.more (w := w3) a4 HK3.out.size)
          obtain ⟨vy, d0, d1, d2, d3, d4⟩ := (HB.out.below HK3.out (Nat.le_refl _)).at_ HY.out
          have HVY3 := Lib.hid (RtV.more (w := w3) d4 HK3.out.size)
          have hab4 : ab < w3.heap.size := Nat.lt_of_lt_of_le HLX.out HK3.out.size
          have hbb4 : bb < w3.heap.size := Nat.lt_of_lt_of_le HLY.out HK3.out.size
          clear a4 d4
          have p0 := HG3.out.cell 0
          have p1 := HG3.out.cell 1
          have p2 := HG3.out.cell 2
          have p3 := HG3.out.cell 3
          have pl := HG3.out.lt
          have HB4 := Lib.hid (below_drew (Below.refl w3.heap.size w3))
          refine wp_region_last (S := fun w' => Below w3.heap.size w3 w') 11 _ (by kernel_rfl) (by kernel_rfl) rfl HB4.out (fun hHeld => ?_)
          simp only [List.take_succ_cons, List.take_zero]
          refine takeH 0 (v := ?_) rfl (by kernel_rfl) (fun _ _ _ h => h) (by rfl) ?_ hHeld ?_
          rotate_left 1
          · intro w' hSw; obtain ⟨hcc, -⟩ := bcellW hSw; go_simp <;> with_reducible rfl
          try simp only [Act.put, List.setIfInBounds_toArray, List.set_cons_zero, List.set_cons_succ]
          refine takeH 1 (v := ?_) rfl (by kernel_rfl) (fun _ _ _ h => h) (by rfl) ?_ hHeld ?_
          rotate_left 1
          · intro w' hSw; obtain ⟨hcc, -⟩ := bcellW hSw; go_simp <;> with_reducible rfl
          try simp only [Act.put, List.setIfInBounds_toArray, List.set_cons_zero, List.set_cons_succ]
          refine takeH 2 (v := ?_) rfl (by kernel_rfl) (fun _ _ _ h => h) (by rfl) ?_ hHeld ?_
          rotate_left 1
          · intro w' hSw; obtain ⟨hcc, -⟩ := bcellW hSw; go_simp <;> with_reducible rfl
          try simp only [Act.put, List.setIfInBounds_toArray, List.set_cons_zero, List.set_cons_succ]
          refine takeH 3 (v := ?_) rfl (by kernel_rfl) (fun _ _ _ h => h) (by rfl) ?_ hHeld ?_
          rotate_left 1
          · intro w' hSw; obtain ⟨hcc, -⟩ := bcellW hSw; go_simp <;> with_reducible rfl
          try simp only [Act.put, List.setIfInBounds_toArray, List.set_cons_zero, List.set_cons_succ]
          refine takeH 4 (v := ?_) rfl (by kernel_rfl) (fun _ _ _ h => h) (by rfl) ?_ hHeld ?_
          rotate_left 1
          · intro w' hSw; obtain ⟨hcc, -⟩ := bcellW hSw; go_simp <;> with_reducible rfl
          try simp only [Act.put, List.setIfInBounds_toArray, List.set_cons_zero, List.set_cons_succ]
          refine takeH 5 (v := ?_) rfl (by kernel_rfl) (fun _ _ _ h => h) (by rfl) ?_ hHeld ?_
          rotate_left 1
          · intro w' hSw; obtain ⟨hcc, -⟩ := bcellW hSw; go_simp <;> with_reducible rfl
          try simp only [Act.put, List.setIfInBounds_toArray, List.set_cons_zero, List.set_cons_succ]
          refine takeH 6 (v := ?_) rfl (by kernel_rfl) (fun _ _ _ h => h) (by rfl) ?_ hHeld ?_
          rotate_left 1
          · intro w' hSw; obtain ⟨hcc, -⟩ := bcellW hSw; go_simp <;> with_reducible rfl
          try simp only [Act.put, List.setIfInBounds_toArray, List.set_cons_zero, List.set_cons_succ]
          refine takeH 7 (v := ?_) rfl (by kernel_rfl) (fun _ _ _ h => h) (by rfl) ?_ hHeld ?_
          rotate_left 1
          · intro w' hSw; obtain ⟨hcc, -⟩ := bcellW hSw; go_simp <;> with_reducible rfl
          try simp only [Act.put, List.setIfInBounds_toArray, List.set_cons_zero, List.set_cons_succ]
          refine takeH 8 (v := ?_) rfl (by kernel_rfl) (fun _ _ _ h => h) (by rfl) ?_ hHeld ?_
          rotate_left 1
          · intro w' hSw; obtain ⟨hcc, -⟩ := bcellW hSw; go_simp <;> with_reducible rfl
          try simp only [Act.put, List.setIfInBounds_toArray, List.set_cons_zero, List.set_cons_succ]
          refine stepH 9 (by kernel_rfl) rfl (fun K hK => ?_)
          go_simp
          refine (mulV (HVX3.out.up HB4.out) (HVY3.out.up HB4.out) (by have := HQX.out; have := HQY.out; have := HZ.out; omega)).mono ?_
          rintro e w5 ⟨hb5, v5, rfl, h5⟩
          have HB5 := Lib.hid (HB4.out.trans (hb5.mono HB4.out.size))
          have H5 := Lib.hid h5
          clear hb5 h5
          go_simp
          refine hK.out _ _ ?_ (fun hHeld => ?_)
          · exact HB5.out
          clear hK K
          try simp only [Act.put, List.setIfInBounds_toArray, List.set_cons_zero, List.set_cons_succ]
          refine stepH 10 (by kernel_rfl) rfl (fun K hK => ?_)
          go_simp
          refine (addV (HV3.out.up HB5.out) H5.out (by have := mul_qsz x y; have := HQX.out; have := HQY.out; have := HQS.out; have := HZ.out; omega)).mono ?_
          rintro e w6 ⟨hb6, v6, rfl, h6⟩
          have HB6 := Lib.hid (HB5.out.trans (hb6.mono HB5.out.size))
          have H6 := Lib.hid h6
          clear hb6 h6
          go_simp
          refine hK.out _ _ ?_ (fun hHeld => ?_)
          · exact HB6.out
          clear hK K
          try simp only [Act.put, List.setIfInBounds_toArray, List.set_cons_zero, List.set_cons_succ]
          refine wpAnyH_done (by kernel_rfl) ?_ _
          refine lastQ_go (by rfl) ?_
          have HKF := Lib.hid (HK3.out.trans (HB6.out.mono HK3.out.size))
          have HRF := Lib.hid (HR3.out.below HB6.out HR3.out.lt)
          have HGF := Lib.hid (HG3.out.below HB6.out HG3.out.lt)
          clear p0 p1 p2 p3 pl a0 a1 a2 a3 d0 d1 d2 d3 hab2 hab4 hbb2 hbb3 hbb4
          have p0 := HGF.out.cell 0
          have p1 := HGF.out.cell 1
          have p2 := HGF.out.cell 2
          have p3 := HGF.out.cell 3
          have pf := HGF.out.frozen
          have pl := HGF.out.lt
          go_wp2_with fail
          go_roundw
          case rel => exact ⟨k + 1, v6, hlt, val_int HN1.out, below_putQ HKF.out (Nat.le_of_lt HGL.out), qfar HRF.out (Nat.ne_of_lt HGL.out), qput HGF.out, by rw [HS.out]; exact H6.out.keepq HGF.out⟩
          case measure => exact HN2.out
    · have hke : k = n := by omega
      subst hke
      have hkI : ¬ (k : Int) < (k : Int) := by omega
      have HE : Hid (RtV wr wr.heap.size (dotR xs ys) v) := Lib.hid (by
        have h := HV.out
        rw [List.take_of_length_le (by rw [List.length_zipWith, HAL.out]; omega)] at h
        exact h)
      have p0 := HG.out.cell 0
      have p1 := HG.out.cell 1
      have p2 := HG.out.cell 2
      have p3 := HG.out.cell 3
      have pl := HG.out.lt
      have z0 := HR.out.cell 0
      have z1 := HR.out.cell 1
      have z2 := HR.out.cell 2
      have z3 := HR.out.cell 3
      have zf := HR.out.frozen
      have zl := HR.out.lt
      go_wp2_with fail
      clear p0 p1 p2 p3 pl z0 z1 z2 z3 zf zl
      have HX := Lib.hid (qput (v := v) (x := rv0) HR.out)
      have HB9 := Lib.hid (below_putQ (v := v) HK.out (Nat.le_refl _))
      have HV9 := Lib.hid (HE.out.keepq (v := v) (x := rv0) HR.out)
      unfold putQ at HB9
      generalize (((wr.setCell ⟨_, 0, none⟩ _).setCell ⟨_, 1, none⟩ _).setCell ⟨_, 2, none⟩ _).setCell ⟨_, 3, none⟩ _ = W9 at *
      have q0 := HX.out.cell 0
      have q1 := HX.out.cell 1
      have q2 := HX.out.cell 2
      have q3 := HX.out.cell 3
      exact bodyPost_ret (v := .agg #[.bool v.b1, .slice v.A v.n v.c, .bool v.b2, .slice v.A2 v.m v.d]) (by simp [results, Tryz.results61, go_sem, q0, q1, q2, q3]) rfl ⟨HB9.out, v, rfl, HV9.out⟩
end Go.Proofs.YtakllkkmofdpaaaGreatDoor
/- Scalar products and sums of texts. -/
namespace Go.Proofs.YtakllkkmofdpaaaGreatDoor
open Go.ChangeShapes Go.WideShapes Go.ChangeAt Go.RowKit
set_option linter.unusedVariables false
set_option linter.unusedSimpArgs false
attribute [local go_sem ↓] execOp_call_val
attribute [local go_sem] callVal_func setCell_drewN alloc_drewN sEq_walk
/-- the first fault of a vector with a limit -/
def ckLim (m : Nat) (ss : List ByteArray) : Int := if m < ss.length then 2 else ckAllR ss
theorem ckLim_ok {m : Nat} {ss : List ByteArray} : ckLim m ss = 0 ↔ ss.length ≤ m ∧ ∀ s ∈ ss, ratCk s.data.toList = 0 := by
  unfold ckLim
  by_cases h : m < ss.length
  · rw [if_pos h]; constructor
    · intro e; cases e
    · intro e; omega
  · rw [if_neg h, ckAllR_ok]
    exact ⟨fun e => ⟨by omega, e⟩, fun e => e.2⟩
set_option maxRecDepth 100000 in
set_option maxHeartbeats 4000000 in
theorem ckvec_any (A : Option Addr) (n c : Nat) (ss : List ByteArray) (w : World) (hR : RdStr w w.heap.size A n ss) (hs : ∀ s ∈ ss, s.size ≤ maxLen) (hn : n ≤ 9223372036854775807) (ht : TabOk w) :
    Calls Tryz.prog 60 #[.slice A n c] w fun e w' => e = .returned (.int .i64 (ckLim 40 ss)) ∧ Below w.heap.size w w' := by
  have HC := Lib.hid (ckall_any A n c ss w hR hs hn ht)
  have HL := Lib.hid hR.1
  clear hR hs ht
  go_enter Tryz.func60, Tryz.ntmps60
  by_cases h : 40 < n
  · have HE : Hid (ckLim 40 ss = 2) := Lib.hid (by unfold ckLim; rw [if_pos (by rw [HL.out]; exact h)])
    have hI : (40 : Int) < (n : Int) := by omega
    go_wp2_with fail
    go_ret
    exact ⟨by rw [HE.out]; rfl, Below.refl _ _⟩
  · have HE : Hid (ckLim 40 ss = ckAllR ss) := Lib.hid (by unfold ckLim; rw [if_neg (by rw [HL.out]; exact h)])
    have hI : ¬ (40 : Int) < (n : Int) := by omega
    go_wp2_with fail
    refine HC.out.mono ?_
    rintro e w1 ⟨rfl, hb⟩
    have HB := Lib.hid hb
    clear hb HC
    generalize ckAllR ss = z at *
    go_wp2_with fail
    go_ret
    exact ⟨by rw [HE.out]; rfl, HB.out⟩
set_option maxRecDepth 100000 in
set_option maxHeartbeats 4000000 in
theorem bcheck_any (A : Option Addr) (n c : Nat) (ss : List ByteArray) (w : World) (hR : RdStr w w.heap.size A n ss) (hs : ∀ s ∈ ss, s.size ≤ maxLen) (hn : n ≤ 9223372036854775807) (ht : TabOk w) :
    Calls Tryz.prog 46 #[.slice A n c] w fun e w' => e = .returned (.int .i64 (ckLim 256 ss)) ∧ Below w.heap.size w w' := by
  have HC := Lib.hid (ckall_any A n c ss w hR hs hn ht)
  have HL := Lib.hid hR.1
  clear hR hs ht
  go_enter Tryz.func46, Tryz.ntmps46
  by_cases h : 256 < n
  · have HE : Hid (ckLim 256 ss = 2) := Lib.hid (by unfold ckLim; rw [if_pos (by rw [HL.out]; exact h)])
    have hI : (256 : Int) < (n : Int) := by omega
    go_wp2_with fail
    go_ret
    exact ⟨by rw [HE.out]; rfl, Below.refl _ _⟩
  · have HE : Hid (ckLim 256 ss = ckAllR ss) := Lib.hid (by unfold ckLim; rw [if_neg (by rw [HL.out]; exact h)])
    have hI : ¬ (256 : Int) < (n : Int) := by omega
    go_wp2_with fail
    refine HC.out.mono ?_
    rintro e w1 ⟨rfl, hb⟩
    have HB := Lib.hid hb
    clear hb HC
    generalize ckAllR ss = z at *
    go_wp2_with fail
    go_ret
    exact ⟨by rw [HE.out]; rfl, HB.out⟩
/-- the first one that is not OK -/
def firstR : List Int → Int
  | [] => 0
  | z :: r => if z = 0 then firstR r else z
set_option maxRecDepth 100000 in
set_option maxHeartbeats 4000000 in
theorem first_any (A : Option Addr) (n c : Nat) (zs : List Int) (w : World) (hR : RdI w w.heap.size A n zs) (hn : n ≤ 9223372036854775807) :
    Calls Tryz.prog 59 #[.slice A n c] w fun e w' => e = .returned (.int .i64 (firstR zs)) ∧ Below w.heap.size w w' := by
  have HR := Lib.hid hR
  have HL := Lib.hid hR.len
  clear hR
  go_enter Tryz.func59, Tryz.ntmps59
  go_wp2_with fail
  go_loopw [7] (fun v7 wr => ∃ k : Nat, k ≤ n ∧ v7 = .int .i64 k ∧ firstR zs = firstR (zs.drop k) ∧ Below w.heap.size w wr) (fun v7 _ => n - (intOf v7).toNat)
  case atStart => exact ⟨0, by omega, rfl, rfl, Below.refl _ _⟩
  case round =>
    obtain ⟨k, hk, rfl, hgo, hb⟩ := hrel
    have HG := Lib.hid hgo
    have HB := Lib.hid hb
    clear hgo hb
    by_cases hlt : k < n
    · obtain ⟨z, hz⟩ : ∃ z, zs[k]? = some z := ⟨_, List.getElem?_eq_getElem (by have := HL.out; omega)⟩
      obtain ⟨b, o, hA, hb, -⟩ := (HR.out.below HB.out (Nat.le_refl _)).2 (by omega)
      subst hA
      have hc := (HR.out.below HB.out (Nat.le_refl _)).at_ hz
      have hbl : b < wr.heap.size := Nat.lt_of_lt_of_le hb HB.out.size
      have HD : Hid (firstR (zs.drop k) = if z = 0 then firstR (zs.drop (k + 1)) else z) := Lib.hid (by rw [drop_cons hz]; rfl)
      have hkI : (k : Int) < (n : Int) := by omega
      have HN1 : Hid ((k : Int) + 1 = ((k + 1 : Nat) : Int)) := Lib.hid (by omega)
      have HN2 : Hid (n - (k + 1) < n - k) := Lib.hid (by omega)
      clear hz hb
      by_cases h0 : z = 0
      · subst h0
        go_wp2_with fail
        go_roundw
        case rel => exact ⟨k + 1, hlt, val_int HN1.out, by rw [HG.out, HD.out, if_pos rfl], HB.out⟩
        case measure => exact HN2.out
      · have HE : Hid (firstR zs = z) := Lib.hid (by rw [HG.out, HD.out, if_neg h0])
        have h0b : (z != 0) = true := by simp [h0]
        clear h0
        go_wp2_with fail
        go_ret
        exact ⟨by rw [HE.out]; rfl, HB.out⟩
    · have HE : Hid (firstR zs = 0) := Lib.hid (by rw [HG.out, List.drop_eq_nil_of_le (by have := HL.out; omega)]; rfl)
      have hkI : ¬ (k : Int) < (n : Int) := by omega
      go_wp2_with fail
      go_ret
      exact ⟨by rw [HE.out]; rfl, HB.out⟩
/-- the scalar product of two vectors of texts -/
def mdP (xs ys : List ByteArray) (w : World) (e : Ending) (w' : World) : Prop := Below w.heap.size w w' ∧ (ckLim 40 xs = 0 → ckLim 40 ys = 0 → xs.length = ys.length → e = .returned (.tuple #[.string (rnS (dotR (xs.map qOf) (ys.map qOf))), .int .i64 (rnE (dotR (xs.map qOf) (ys.map qOf)))]))
theorem rnS_of {q : Rat} (h : Fits q) : rnS q = txtQ q := if_pos h
theorem rnE_of {q : Rat} (h : Fits q) : rnE q = 0 := if_pos h
theorem qofs_qsz {xs : List ByteArray} (h : ∀ s ∈ xs, ratCk s.data.toList = 0) : ∀ q ∈ xs.map qOf, qsz q ≤ 2000 := fun q hq => by
  obtain ⟨s, hs, rfl⟩ := List.mem_map.1 hq
  exact fits_qsz (valid_fits (h s hs))
set_option maxRecDepth 100000 in
set_option maxHeartbeats 4000000 in
theorem mdot_any (A : Option Addr) (n c : Nat) (B : Option Addr) (m d : Nat) (xs ys : List ByteArray) (w : World) (hX : RdStr w w.heap.size A n xs) (hY : RdStr w w.heap.size B m ys) (hsx : ∀ s ∈ xs, s.size ≤ maxLen) (hsy : ∀ s ∈ ys, s.size ≤ maxLen) (hcx : ckLim 40 xs = 0) (hcy : ckLim 40 ys = 0) (hl : xs.length = ys.length) (ht : TabOk w) :
    Calls Tryz.prog 22 #[.slice A n c, .slice B m d] w fun e w' => Below w.heap.size w w' ∧ e = .returned (.tuple #[.string (rnS (dotR (xs.map qOf) (ys.map qOf))), .int .i64 (rnE (dotR (xs.map qOf) (ys.map qOf)))]) := by
  obtain ⟨hx1, hx2⟩ := ckLim_ok.1 hcx
  obtain ⟨hy1, hy2⟩ := ckLim_ok.1 hcy
  have hn : n ≤ 40 := by rw [← hX.1]; exact hx1
  have hm : m ≤ 40 := by rw [← hY.1]; exact hy1
  have hnm : m = n := by rw [← hX.1, ← hY.1, hl]
  subst hnm
  have HC1 := Lib.hid (ckvec_any A m c xs w hX hsx (by omega) ht)
  rw [hcx] at HC1
  have HC2 := Lib.hid (fun w' hY ht => ckvec_any B m d ys w' hY hsy (by omega) ht)
  rw [hcy] at HC2
  have HX := Lib.hid hX
  have HY := Lib.hid hY
  have HVX := Lib.hid hx2
  have HVY := Lib.hid hy2
  have HT := Lib.hid ht
  clear hX hY hsx hsy hcx hcy hl ht hx1 hx2 hy1 hy2 hm
  go_enter Tryz.func22, Tryz.ntmps22
  go_wp2_with fail
  refine HC1.out.mono ?_
  rintro e w1 ⟨rfl, hb1⟩
  have HB1 := Lib.hid hb1
  clear hb1 HC1
  go_wp2_with fail
  refine (HC2.out w1 (HY.out.below HB1.out (Nat.le_refl _) |>.more HB1.out.size) (HT.out.up HB1.out)).mono ?_
  rintro e w2 ⟨rfl, hb2⟩
  have HB2 := Lib.hid (HB1.out.trans (hb2.mono HB1.out.size))
  clear hb2 HB1 HC2
  go_wp2_with fail
  generalize hwa : w2.alloc (.cells #[.int .i64 0, .int .i64 0] 34) = wa
  have hba : Below w2.heap.size w2 wa := by rw [← hwa]; exact (Below.refl _ _).alloc (Nat.le_refl _) _
  have hbk : Blk wa w2.heap.size 34 (ints [0, 0]).toArray := by rw [← hwa]; exact Blk.new w2 _ _
  have HBA := Lib.hid (HB2.out.trans (hba.mono HB2.out.size))
  have hrd : RdI wa wa.heap.size (some ⟨w2.heap.size, 0, none⟩) 2 [0, 0] := ⟨rfl, fun _ => ⟨_, 0, rfl, hbk.lt, fun j u hu => by
    rw [show (⟨w2.heap.size, 0 + j, none⟩ : Addr) = ⟨w2.heap.size, j, none⟩ from by simp, hbk.cell j]
    simpa using hu⟩⟩
  refine (first_any _ 2 2 [0, 0] wa hrd (by decide)).mono ?_
  clear hwa hba hbk hrd HB2
  rw [show firstR [0, 0] = 0 from rfl]
  rintro e w3 ⟨rfl, hb3⟩
  have HB3 := Lib.hid (HBA.out.trans (hb3.mono HBA.out.size))
  clear hb3 HBA
  go_wp2_with fail
  refine (parseall_any A m c xs w3 ((HX.out.below HB3.out (Nat.le_refl _)).more HB3.out.size) HVX.out (by omega)).mono ?_
  rintro e w4 ⟨hb4, A4, n4, c4, rfl, h4, -, -, -⟩
  have HB4 := Lib.hid (HB3.out.trans (hb4.mono HB3.out.size))
  have H4 := Lib.hid h4
  have HN4 : Hid (n4 = m) := Lib.hid (by rw [← h4.len, List.length_map, HX.out.1])
  clear hb4 h4 HB3
  go_wp2_with fail
  refine (parseall_any B m d ys w4 ((HY.out.below HB4.out (Nat.le_refl _)).more HB4.out.size) HVY.out (by omega)).mono ?_
  rintro e w5 ⟨hb5, A5, n5, c5, rfl, h5, -, -, -⟩
  have HB5 := Lib.hid (HB4.out.trans (hb5.mono HB4.out.size))
  have H4 := Lib.hid (H4.out.up hb5)
  have H5 := Lib.hid h5
  have HN5 : Hid (n5 = m) := Lib.hid (by rw [← h5.len, List.length_map, HY.out.1])
  clear hb5 h5 HB4
  go_wp2_with fail
  refine (dot_any A4 n4 c4 A5 n5 c5 _ _ 2000 w5 H4.out H5.out (by rw [HN4.out, HN5.out]; exact Nat.le_refl _) (by have := HN4.out; omega) (qofs_qsz HVX.out) (qofs_qsz HVY.out) (by have := HN4.out; omega)).mono ?_
  rintro e w6 ⟨hb6, v6, rfl, h6⟩
  have HB6 := Lib.hid (HB5.out.trans (hb6.mono HB5.out.size))
  have H6 := Lib.hid h6
  clear hb6 h6 HB5 H4 H5
  go_wp2_with fail
  refine (textV H6.out (HT.out.up HB6.out)).mono ?_
  rintro e w7 ⟨hb7, s, rfl, hs⟩
  have HB7 := Lib.hid (HB6.out.trans (hb7.mono HB6.out.size))
  have HS := Lib.hid hs
  clear hb7 hs HB6 H6
  generalize hq : dotR (xs.map qOf) (ys.map qOf) = q at *
  have HQ := Lib.hid hq
  clear hq
  by_cases hf : Fits q
  · have HF := Lib.hid hf
    rw [decide_eq_true hf]
    clear hf
    go_wp2_with fail
    go_ret2
    exact ⟨HB7.out, by rw [HQ.out, rnS_of HF.out, rnE_of HF.out, HS.out HF.out]; rfl⟩
  · have HF := Lib.hid hf
    rw [decide_eq_false hf]
    clear hf
    go_wp2_with fail
    go_ret2
    exact ⟨HB7.out, by rw [HQ.out]; unfold rnS rnE; rw [if_neg HF.out, if_neg HF.out]; rfl⟩
end Go.Proofs.YtakllkkmofdpaaaGreatDoor
/- Sums of texts. -/
namespace Go.Proofs.YtakllkkmofdpaaaGreatDoor
open Go.ChangeShapes Go.WideShapes Go.ChangeAt Go.RowKit
set_option linter.unusedVariables false
set_option linter.unusedSimpArgs false
attribute [local go_sem ↓] execOp_call_val
attribute [local go_sem] callVal_func setCell_drewN alloc_drewN sEq_walk
theorem txt_zero : txtQ 0 = ⟨#[48]⟩ := by
  have : textQ 0 = [48] := by
    unfold textQ textL
    show (if (0 : Int) < 0 then [45] else []) ++ Lib.decDigits 0 ++ (if (1 : Nat) = 1 then [] else _) = [48]
    rw [if_neg (by decide), if_pos rfl, dec_small (by decide)]
    rfl
  unfold txtQ
  rw [this]
set_option maxRecDepth 100000 in
set_option maxHeartbeats 4000000 in
theorem ratsum_any (A : Option Addr) (n c : Nat) (ss : List ByteArray) (w : World) (hR : RdStr w w.heap.size A n ss) (hs : ∀ s ∈ ss, s.size ≤ maxLen) (hc : ckLim 256 ss = 0) (hf : ∀ k, k ≤ n → Fits (sumR ((ss.map qOf).take k))) (ht : TabOk w) :
    Calls Tryz.prog 21 #[.slice A n c] w fun e w' => e = .returned (.tuple #[.string (txtQ (sumR (ss.map qOf))), .int .i64 0]) ∧ Below w.heap.size w w' := by
  obtain ⟨h1, h2⟩ := ckLim_ok.1 hc
  have hn : n ≤ 256 := by rw [← hR.1]; exact h1
  have HC := Lib.hid (ckall_any A n c ss w hR hs (by omega) ht)
  rw [ckAllR_ok.2 h2] at HC
  have HR := Lib.hid hR
  have HL := Lib.hid hR.1
  have HV := Lib.hid h2
  have HF := Lib.hid hf
  have HS := Lib.hid hs
  have HT := Lib.hid ht
  have hI : ¬ (256 : Int) < (n : Int) := by omega
  clear hR hs hc hf ht h1 h2
  go_enter Tryz.func21, Tryz.ntmps21
  go_wp2_with fail
  refine HC.out.mono ?_
  rintro e w1 ⟨rfl, hb1⟩
  have HB1 := Lib.hid hb1
  clear hb1 HC
  go_wp2_with fail
  go_loopw [5, 20] (fun v5 v20 wr => ∃ (k : Nat), k ≤ n ∧ v20 = .int .i64 k ∧ v5 = .string (txtQ (sumR ((ss.map qOf).take k))) ∧ Below w.heap.size w wr) (fun _ v20 _ => n - (intOf v20).toNat)
  case atStart => exact ⟨0, by omega, rfl, by rw [List.take_zero, show sumR [] = 0 from rfl, txt_zero], HB1.out⟩
  case round =>
    clear HB1
    obtain ⟨k, hk, rfl, rfl, hb⟩ := hrel
    have HK := Lib.hid hb
    clear hb
    obtain ⟨t, ht⟩ : ∃ t, txtQ (sumR ((ss.map qOf).take k)) = t := ⟨_, rfl⟩
    have HTX := Lib.hid ht
    rw [ht]
    clear ht
    by_cases hlt : k < n
    · obtain ⟨s, hs⟩ : ∃ s, ss[k]? = some s := ⟨_, List.getElem?_eq_getElem (by have := HL.out; omega)⟩
      obtain ⟨b, o, hA, hb⟩ := (HR.out.below HK.out (Nat.le_refl _)).form (by omega)
      subst hA
      have hc := (HR.out.below HK.out (Nat.le_refl _)).at_ hs
      have hbl : b < wr.heap.size := Nat.lt_of_lt_of_le hb HK.out.size
      have hkI : (k : Int) < (n : Int) := by omega
      have HN1 : Hid ((k : Int) + 1 = ((k + 1 : Nat) : Int)) := Lib.hid (by omega)
      have HN2 : Hid (n - (k + 1) < n - k) := Lib.hid (by omega)
      have hfk := HF.out k hk
      have hfk1 := HF.out (k + 1) hlt
      have hsum : sumR ((ss.map qOf).take (k + 1)) = sumR ((ss.map qOf).take k) + qOf s := by rw [take_snoc (x := qOf s) (by rw [List.getElem?_map, hs]; rfl), sumR_snoc]
      have hvs := HV.out s (List.mem_of_getElem? hs)
      have hvt : ratCk t.data.toList = 0 ∧ qOf t = sumR ((ss.map qOf).take k) := by rw [← HTX.out]; exact txt_valid hfk
      have HO : Hid (opS (fun p q => p + q) t s = txtQ (sumR ((ss.map qOf).take (k + 1))) ∧ opE (fun p q => p + q) t s = 0) := Lib.hid (by
        unfold opS opE
        rw [if_pos (two_valid hvt.1 hvs), if_pos (two_valid hvt.1 hvs)]
        show rnS (qOf t + qOf s) = _ ∧ rnE (qOf t + qOf s) = 0
        rw [hvt.2, ← hsum]
        exact ⟨rnS_of hfk1, rnE_of hfk1⟩)
      have HSZ : Hid (s.size ≤ maxLen) := Lib.hid (HS.out s (List.mem_of_getElem? hs))
      have HTZ : Hid (t.size ≤ maxLen) := Lib.hid (by rw [← HTX.out]; have := txt_size hfk; unfold maxLen; omega)
      clear hs hb hfk hfk1 hsum hvs hvt
      go_wp2_with fail
      refine (ratadd_any t s HTZ.out HSZ.out wr (HT.out.up HK.out)).mono ?_
      clear hc
      intro e w2 h
      obtain ⟨rfl, hb2⟩ := h.out
      clear h
      rw [HO.out.1, HO.out.2]
      have HK2 := Lib.hid (HK.out.trans (hb2.mono HK.out.size))
      clear hb2 HO
      generalize hu : txtQ (sumR ((ss.map qOf).take (k + 1))) = u
      have HU := Lib.hid hu
      clear hu
      go_wp2_with fail
      go_roundw
      case rel => exact ⟨k + 1, hlt, val_int HN1.out, by rw [HU.out], HK2.out⟩
      case measure => exact HN2.out
    · have hke : k = n := by omega
      subst hke
      have hkI : ¬ (k : Int) < (k : Int) := by omega
      have HE : Hid (txtQ (sumR (ss.map qOf)) = t) := Lib.hid (by
        have h := HTX.out
        rw [List.take_of_length_le (by rw [List.length_map, HL.out]; exact Nat.le_refl _)] at h
        exact h)
      go_wp2_with fail
      go_ret2
      exact ⟨by rw [HE.out]; rfl, HK.out⟩
/-- the restraint: half of the sum of the magnitudes -/
def halfR (qs : List Rat) : Rat := sumR (qs.map rabs) / 2
/-- what sums hands back -/
def SumsP (qs : List Rat) (w : World) (e : Ending) (w' : World) : Prop := Below w.heap.size w w' ∧ ∃ v u : Rv, e = .returned (.tuple #[.agg #[.bool v.b1, .slice v.A v.n v.c, .bool v.b2, .slice v.A2 v.m v.d], .agg #[.bool u.b1, .slice u.A u.n u.c, .bool u.b2, .slice u.A2 u.m u.d]]) ∧ RtV w' w'.heap.size (sumR qs) v ∧ RtV w' w'.heap.size (halfR qs) u
set_option maxRecDepth 100000 in
set_option maxHeartbeats 4000000 in
theorem sums_any (A : Option Addr) (n c : Nat) (ss : List ByteArray) (w : World) (hR : RdStr w w.heap.size A n ss) (hc : ckLim 256 ss = 0) :
    Calls Tryz.prog 47 #[.slice A n c] w (SumsP (ss.map qOf) w) := by
  obtain ⟨h1, h2⟩ := ckLim_ok.1 hc
  have hn : n ≤ 256 := by rw [← hR.1]; exact h1
  have HR := Lib.hid hR
  have HV := Lib.hid h2
  have HQ := Lib.hid (qofs_qsz h2)
  have HL : Hid ((ss.map qOf).length = n) := Lib.hid (by rw [List.length_map]; exact hR.1)
  have HB0 : Hid (Below w.heap.size w ((w.alloc (.cells #[.bool false, .slice none 0 0, .bool false, .slice none 0 0] 93)).alloc (.cells #[.bool false, .slice none 0 0, .bool false, .slice none 0 0] 93))) := Lib.hid (((Below.refl _ _).alloc (Nat.le_refl _) _).alloc (by simp) _)
  have HX1 : Hid (Blk ((w.alloc (.cells #[.bool false, .slice none 0 0, .bool false, .slice none 0 0] 93)).alloc (.cells #[.bool false, .slice none 0 0, .bool false, .slice none 0 0] 93)) w.heap.size 93 #[.bool false, .slice none 0 0, .bool false, .slice none 0 0]) := Lib.hid ((Blk.new w _ _).alloc _)
  have HX2 : Hid (Blk ((w.alloc (.cells #[.bool false, .slice none 0 0, .bool false, .slice none 0 0] 93)).alloc (.cells #[.bool false, .slice none 0 0, .bool false, .slice none 0 0] 93)) (w.heap.size + 1) 93 #[.bool false, .slice none 0 0, .bool false, .slice none 0 0]) := Lib.hid (Blk.new_ (by simp))
  clear hR hc h1 h2
  go_enter Tryz.func47, Tryz.ntmps47
  go_upto_region 1 with fail
  generalize ((w.alloc (.cells #[.bool false, .slice none 0 0, .bool false, .slice none 0 0] 93)).alloc (.cells #[.bool false, .slice none 0 0, .bool false, .slice none 0 0] 93)) = W at *
  go_wp2_with fail
  refine (wholeV 0 W (by decide) (by decide)).mono ?_
  rintro e w1 ⟨hb1, v1, rfl, h1⟩
  have HB1 := Lib.hid (HB0.out.trans (hb1.mono HB0.out.size))
  have HY1 := Lib.hid (HX1.out.below hb1 HX1.out.lt)
  have HY2 := Lib.hid (HX2.out.below hb1 HX2.out.lt)
  have H1 := Lib.hid h1
  clear hb1 h1 HB0 HX1 HX2
  go_wp2_with fail
  refine (wholeV 0 w1 (by decide) (by decide)).mono ?_
  rintro e w2 ⟨hb2, v2, rfl, h2⟩
  have HB2 := Lib.hid (HB1.out.trans (hb2.mono HB1.out.size))
  replace HY1 := Lib.hid (HY1.out.below hb2 HY1.out.lt)
  replace HY2 := Lib.hid (HY2.out.below hb2 HY2.out.lt)
  replace H1 := Lib.hid (H1.out.up hb2)
  have H2 := Lib.hid h2
  clear hb2 h2 HB1
  go_wp2_with fail
  generalize hwa : (w2.alloc (.cells #[.bool v1.b1, .slice v1.A v1.n v1.c, .bool v1.b2, .slice v1.A2 v1.m v1.d] 93)).alloc (.cells #[.bool v2.b1, .slice v2.A v2.n v2.c, .bool v2.b2, .slice v2.A2 v2.m v2.d] 93) = wa
  have hba : Below w2.heap.size w2 wa := by rw [← hwa]; exact ((Below.refl _ _).alloc (Nat.le_refl _) _).alloc (by simp) _
  have HS1 : Hid (Blk wa w2.heap.size 93 #[.bool v1.b1, .slice v1.A v1.n v1.c, .bool v1.b2, .slice v1.A2 v1.m v1.d]) := Lib.hid (by rw [← hwa]; exact (Blk.new w2 _ _).alloc _)
  have HS2 : Hid (Blk wa (w2.heap.size + 1) 93 #[.bool v2.b1, .slice v2.A v2.n v2.c, .bool v2.b2, .slice v2.A2 v2.m v2.d]) := Lib.hid (by rw [← hwa]; exact Blk.new_ (by simp))
  have HBA := Lib.hid (HB2.out.trans (hba.mono HB2.out.size))
  replace HY1 := Lib.hid (HY1.out.below hba HY1.out.lt)
  have HGL : Hid (w.heap.size + 1 < w2.heap.size) := Lib.hid HY2.out.lt
  replace HY2 := Lib.hid (HY2.out.below hba HY2.out.lt)
  replace H1 := Lib.hid (H1.out.up hba)
  replace H2 := Lib.hid (H2.out.up hba)
  refine (parseall_any A n c ss wa ((HR.out.below HBA.out (Nat.le_refl _)).more HBA.out.size) HV.out (by omega)).mono ?_
  clear hwa hba HB2
  rintro e w3 ⟨hb3, A3, n3, c3, rfl, h3, -, -, hfr⟩
  have hn3 : n3 = n := by rw [← h3.len]; exact HL.out
  subst hn3
  have HB3 := Lib.hid (HBA.out.trans (hb3.mono HBA.out.size))
  replace HY1 := Lib.hid (HY1.out.below hb3 HY1.out.lt)
  replace HY2 := Lib.hid (HY2.out.below hb3 HY2.out.lt)
  have HGT : Hid (w2.heap.size + 1 < wa.heap.size) := Lib.hid HS2.out.lt
  replace HS1 := Lib.hid (HS1.out.below hb3 HS1.out.lt)
  replace HS2 := Lib.hid (HS2.out.below hb3 HS2.out.lt)
  replace H1 : Hid (RtV w3 w3.heap.size (sumR []) v1) := Lib.hid (by have := H1.out.up hb3; exact this)
  replace H2 : Hid (RtV w3 w3.heap.size (sumR []) v2) := Lib.hid (by have := H2.out.up hb3; exact this)
  have H3 := Lib.hid h3
  have HFR : Hid (0 < n3 → ∃ b off, A3 = some ⟨b, off, none⟩ ∧ w2.heap.size + 1 < b) := Lib.hid fun h => by
    obtain ⟨b, off, e, hb⟩ := hfr h
    exact ⟨b, off, e, Nat.lt_of_lt_of_le HGT.out hb⟩
  clear hb3 h3 HBA hfr
  generalize w2.heap.size = g at *
  go_wp2_with fail
  go_loopw [13] (fun v13 wr => ∃ (k : Nat) (v u : Rv), k ≤ n3 ∧ v13 = .int .i64 k ∧ Below w.heap.size w wr ∧ Blk wr w.heap.size 93 #[.bool false, .slice none 0 0, .bool false, .slice none 0 0] ∧ Blk wr (w.heap.size + 1) 93 #[.bool false, .slice none 0 0, .bool false, .slice none 0 0] ∧ Blk wr g 93 #[.bool v.b1, .slice v.A v.n v.c, .bool v.b2, .slice v.A2 v.m v.d] ∧ Blk wr (g + 1) 93 #[.bool u.b1, .slice u.A u.n u.c, .bool u.b2, .slice u.A2 u.m u.d] ∧ RtV wr wr.heap.size (sumR ((ss.map qOf).take k)) v ∧ RtV wr wr.heap.size (sumR (((ss.map qOf).take k).map rabs)) u ∧ RdQ wr wr.heap.size A3 n3 (ss.map qOf)) (fun v13 _ => n3 - (intOf v13).toNat)
  case atStart => exact ⟨0, v1, v2, by omega, rfl, HB3.out, HY1.out, HY2.out, HS1.out, HS2.out, by rw [List.take_zero]; exact H1.out, by rw [List.take_zero]; exact H2.out, H3.out⟩
  case round =>
    clear HB3 HY1 HY2 HS1 HS2 H1 H2 H3
    obtain ⟨k, v, u, hk, rfl, hb, hr1, hr2, hg1, hg2, hv, hu, hd⟩ := hrel
    have HK := Lib.hid hb
    have HY1 := Lib.hid hr1
    have HY2 := Lib.hid hr2
    have HS1 := Lib.hid hg1
    have HS2 := Lib.hid hg2
    have HV1 := Lib.hid hv
    have HV2 := Lib.hid hu
    have HD := Lib.hid hd
    clear hb hr1 hr2 hg1 hg2 hv hu hd
    by_cases hlt : k < n3
    · obtain ⟨q, hq⟩ : ∃ q, (ss.map qOf)[k]? = some q := ⟨_, List.getElem?_eq_getElem (by have := HL.out; omega)⟩
      obtain ⟨ab, ao, hA1, hab⟩ := HD.out.form (by omega)
      have HFR1 := Lib.hid (HFR.out (by omega))
      subst hA1
      obtain ⟨x, a0, a1, a2, a3, a4⟩ := HD.out.at_ hq
      have HX := Lib.hid a4
      have HQQ := Lib.hid (HQ.out q (List.mem_of_getElem? hq))
      have HE1 : Hid (sumR ((ss.map qOf).take (k + 1)) = sumR ((ss.map qOf).take k) + q) := Lib.hid (by rw [take_snoc hq, sumR_snoc])
      have HE2 : Hid (sumR (((ss.map qOf).take (k + 1)).map rabs) = sumR (((ss.map qOf).take k).map rabs) + rabs q) := Lib.hid (by rw [take_snoc hq, List.map_append]; exact sumR_snoc _ _)
      have HZ1 : Hid (qsz (sumR ((ss.map qOf).take k)) ≤ 600000) := Lib.hid (by
        have := sumR_qsz _ ((ss.map qOf).take k) rfl 2000 (fun q h => HQ.out q (List.mem_of_mem_take h))
        rw [List.length_take] at this
        have h2 : min k (ss.map qOf).length ≤ 256 := by omega
        have := Nat.mul_le_mul_right 2001 h2
        omega)
      have HZ2 : Hid (qsz (sumR (((ss.map qOf).take k).map rabs)) ≤ 600000) := Lib.hid (by
        have := sumR_qsz _ (((ss.map qOf).take k).map rabs) rfl 2000 (fun q h => by
          obtain ⟨y, hy, rfl⟩ := List.mem_map.1 h
          rw [rabs_qsz]
          exact HQ.out y (List.mem_of_mem_take hy))
        rw [List.length_map, List.length_take] at this
        have h2 : min k (ss.map qOf).length ≤ 256 := by omega
        have := Nat.mul_le_mul_right 2001 h2
        omega)
      clear hq a4
      have hkI : (k : Int) < (n3 : Int) := by omega
      have HN1 : Hid ((k : Int) + 1 = ((k + 1 : Nat) : Int)) := Lib.hid (by omega)
      have HN2 : Hid (n3 - (k + 1) < n3 - k) := Lib.hid (by omega)
      go_upto_region 5 with fail
      clear a0 a1 a2 a3
      generalize hwa : wr.alloc (.cells #[.bool x.b1, .slice x.A x.n x.c, .bool x.b2, .slice x.A2 x.m x.d] 93) = wa
      have hba : Below wr.heap.size wr wa := by rw [← hwa]; exact (Below.refl _ _).alloc (Nat.le_refl _) _
      have HSX : Hid (Blk wa wr.heap.size 93 #[.bool x.b1, .slice x.A x.n x.c, .bool x.b2, .slice x.A2 x.m x.d]) := Lib.hid (by rw [← hwa]; exact Blk.new wr _ _)
      replace HK := Lib.hid (HK.out.trans (hba.mono HK.out.size))
      replace HY1 := Lib.hid (HY1.out.below hba HY1.out.lt)
      replace HY2 := Lib.hid (HY2.out.below hba HY2.out.lt)
      replace HS1 := Lib.hid (HS1.out.below hba HS1.out.lt)
      replace HS2 := Lib.hid (HS2.out.below hba HS2.out.lt)
      replace HV1 := Lib.hid (HV1.out.up hba)
      replace HV2 := Lib.hid (HV2.out.up hba)
      replace HX := Lib.hid (HX.out.up hba)
      replace HD := Lib.hid (HD.out.up hba)
      clear hwa hba
      generalize wr.heap.size = gx at *
      have p0 := HS1.out.cell 0
      have p1 := HS1.out.cell 1
      have p2 := HS1.out.cell 2
      have p3 := HS1.out.cell 3
      have pl := HS1.out.lt
      have d0 := HS2.out.cell 0
      have d1 := HS2.out.cell 1
      have d2 := HS2.out.cell 2
      have d3 := HS2.out.cell 3
      have dl := HS2.out.lt
      have x0 := HSX.out.cell 0
      have x1 := HSX.out.cell 1
      have x2 := HSX.out.cell 2
      have x3 := HSX.out.cell 3
      have xl := HSX.out.lt
      have HB4 := Lib.hid (below_drew (Below.refl wa.heap.size wa))
      refine wp_region_last2 (S := fun w' => Below wa.heap.size wa w') 7 _ _ (by kernel_rfl) (by kernel_rfl) (by kernel_rfl) rfl rfl (below_drew (Below.refl _ _)) (fun hHeld => ?_)
      simp only [List.take_succ_cons, List.take_zero]
      refine takeH 0 (v := ?_) rfl (by kernel_rfl) (fun _ _ _ h => h) (by rfl) ?_ hHeld ?_
      rotate_left 1
      · intro w' hSw; obtain ⟨hcc, -⟩ := bcellW hSw; go_simp <;> with_reducible rfl
      try simp only [Act.put, List.setIfInBounds_toArray, List.set_cons_zero, List.set_cons_succ]
      refine takeH 1 (v := ?_) rfl (by kernel_rfl) (fun _ _ _ h => h) (by rfl) ?_ hHeld ?_
      rotate_left 1
      · intro w' hSw; obtain ⟨hcc, -⟩ := bcellW hSw; go_simp <;> with_reducible rfl
      try simp only [Act.put, List.setIfInBounds_toArray, List.set_cons_zero, List.set_cons_succ]
      refine takeH 3 (v := ?_) rfl (by kernel_rfl) (fun _ _ _ h => h) (by rfl) ?_ hHeld ?_
      rotate_left 1
      · intro w' hSw; obtain ⟨hcc, -⟩ := bcellW hSw; go_simp <;> with_reducible rfl
      try simp only [Act.put, List.setIfInBounds_toArray, List.set_cons_zero, List.set_cons_succ]
      refine takeH 4 (v := ?_) rfl (by kernel_rfl) (fun _ _ _ h => h) (by rfl) ?_ hHeld ?_
      rotate_left 1
      · intro w' hSw; obtain ⟨hcc, -⟩ := bcellW hSw; go_simp <;> with_reducible rfl
      try simp only [Act.put, List.setIfInBounds_toArray, List.set_cons_zero, List.set_cons_succ]
      refine stepH 2 (by kernel_rfl) rfl (fun K hK => ?_)
      go_simp
      refine (addV (HV1.out.up HB4.out) (HX.out.up HB4.out) (by have := HZ1.out; have := HQQ.out; omega)).mono ?_
      rintro e w5 ⟨hb5, v5, rfl, h5⟩
      have HB5 := Lib.hid (HB4.out.trans (hb5.mono HB4.out.size))
      have H5 := Lib.hid h5
      clear hb5 h5
      go_simp
      refine hK.out _ _ ?_ (fun hHeld => ?_)
      · exact HB5.out
      clear hK K
      try simp only [Act.put, List.setIfInBounds_toArray, List.set_cons_zero, List.set_cons_succ]
      refine stepH 5 (by kernel_rfl) rfl (fun K hK => ?_)
      go_simp
      refine (absV (HX.out.up HB5.out)).mono ?_
      rintro e w6 ⟨hb6, v6, rfl, h6⟩
      have HB6 := Lib.hid (HB5.out.trans (hb6.mono HB5.out.size))
      have H6 := Lib.hid h6
      replace H5 := Lib.hid (H5.out.up hb6)
      clear hb6 h6
      go_simp
      refine hK.out _ _ ?_ (fun hHeld => ?_)
      · exact HB6.out
      clear hK K
      try simp only [Act.put, List.setIfInBounds_toArray, List.set_cons_zero, List.set_cons_succ]
      refine stepH 6 (by kernel_rfl) rfl (fun K hK => ?_)
      go_simp
      refine (addV (HV2.out.up HB6.out) H6.out (by rw [rabs_qsz]; have := HZ2.out; have := HQQ.out; omega)).mono ?_
      rintro e w7 ⟨hb7, v7, rfl, h7⟩
      have HB7 := Lib.hid (HB6.out.trans (hb7.mono HB6.out.size))
      have H7 := Lib.hid h7
      replace H5 := Lib.hid (H5.out.up hb7)
      clear hb7 h7
      go_simp
      refine hK.out _ _ ?_ (fun hHeld => ?_)
      · exact HB7.out
      clear hK K
      try simp only [Act.put, List.setIfInBounds_toArray, List.set_cons_zero, List.set_cons_succ]
      refine wpAnyH_done (by kernel_rfl) ?_ _
      refine lastQ_go (by rfl) ?_
      have HKF := Lib.hid (HK.out.trans (HB7.out.mono HK.out.size))
      replace HY1 := Lib.hid (HY1.out.below HB7.out HY1.out.lt)
      replace HY2 := Lib.hid (HY2.out.below HB7.out HY2.out.lt)
      replace HS1 := Lib.hid (HS1.out.below HB7.out HS1.out.lt)
      replace HS2 := Lib.hid (HS2.out.below HB7.out HS2.out.lt)
      replace HD := Lib.hid (HD.out.up HB7.out)
      clear p0 p1 p2 p3 pl d0 d1 d2 d3 dl x0 x1 x2 x3 xl
      have p0 := HS1.out.cell 0
      have p1 := HS1.out.cell 1
      have p2 := HS1.out.cell 2
      have p3 := HS1.out.cell 3
      have pf := HS1.out.frozen
      have pl := HS1.out.lt
      go_simp
      clear HV1 HV2 HX HSX HB4 HB5 HB6 HB7 H6 HK hHeld
      clear p0 p1 p2 p3 pf pl
      have hbp := below_putQ (g := g) (v := v5) HKF.out (by have := HGL.out; omega)
      replace HY1 := Lib.hid (qfar (g := g) (v := v5) HY1.out (by have := HGL.out; omega))
      replace HY2 := Lib.hid (qfar (g := g) (v := v5) HY2.out (by have := HGL.out; omega))
      replace HS2 := Lib.hid (qfar (g := g) (v := v5) HS2.out (by have := HGL.out; omega))
      replace H5 := Lib.hid (H5.out.keepq (v := v5) HS1.out)
      replace H7 := Lib.hid (H7.out.keepq (v := v5) HS1.out)
      replace HD := Lib.hid (RdQ.putq (v := v5) HD.out HS1.out (fun h => by obtain ⟨b, off, e, hb⟩ := HFR.out h; exact ⟨b, off, e, by omega⟩))
      replace HS1 := Lib.hid (qput (v := v5) HS1.out)
      replace HKF := Lib.hid hbp
      clear hbp
      unfold putQ at HKF HD
      generalize (((w7.setCell ⟨g, 0, none⟩ _).setCell ⟨g, 1, none⟩ _).setCell ⟨g, 2, none⟩ _).setCell ⟨g, 3, none⟩ _ = w8 at *
      have p0 := HS2.out.cell 0
      have p1 := HS2.out.cell 1
      have p2 := HS2.out.cell 2
      have p3 := HS2.out.cell 3
      have pf := HS2.out.frozen
      have pl := HS2.out.lt
      refine lastQ_go (by rfl) ?_
      go_wp2_with fail
      go_roundw
      case rel =>
        clear p0 p1 p2 p3 pf pl
        have hbp := below_putQ (g := g + 1) (v := v7) HKF.out (by have := HGL.out; omega)
        replace HY1 := Lib.hid (qfar (g := g + 1) (v := v7) HY1.out (by have := HGL.out; omega))
        replace HY2 := Lib.hid (qfar (g := g + 1) (v := v7) HY2.out (by have := HGL.out; omega))
        replace HS1 := Lib.hid (qfar (g := g + 1) (v := v7) HS1.out (by have := HGL.out; omega))
        replace H5 := Lib.hid (H5.out.keepq (v := v7) HS2.out)
        replace H7 := Lib.hid (H7.out.keepq (v := v7) HS2.out)
        replace HD := Lib.hid (RdQ.putq (v := v7) HD.out HS2.out (fun h => by obtain ⟨b, off, e, hb⟩ := HFR.out h; exact ⟨b, off, e, by omega⟩))
        replace HS2 := Lib.hid (qput (v := v7) HS2.out)
        replace HKF := Lib.hid hbp
        clear hbp
        unfold putQ at HKF HD
        generalize (((w8.setCell ⟨g + 1, 0, none⟩ _).setCell ⟨g + 1, 1, none⟩ _).setCell ⟨g + 1, 2, none⟩ _).setCell ⟨g + 1, 3, none⟩ _ = w9 at *
        exact ⟨k + 1, v5, v7, hlt, val_int HN1.out, HKF.out, HY1.out, HY2.out, HS1.out, HS2.out, by rw [HE1.out]; exact H5.out, by rw [HE2.out]; exact H7.out, HD.out⟩
      case measure => exact HN2.out
    · have hke : k = n3 := by omega
      subst hke
      have hkI : ¬ (k : Int) < (k : Int) := by omega
      have hTK : (ss.map qOf).take k = ss.map qOf := List.take_of_length_le (by rw [HL.out]; exact Nat.le_refl _)
      rw [hTK] at HV1 HV2
      have HZ2 : Hid (qsz (sumR ((ss.map qOf).map rabs)) ≤ 600000) := Lib.hid (by
        have := sumR_qsz _ ((ss.map qOf).map rabs) rfl 2000 (fun q h => by
          obtain ⟨y, hy, rfl⟩ := List.mem_map.1 h
          rw [rabs_qsz]
          exact HQ.out y hy)
        rw [List.length_map] at this
        have h2 : (ss.map qOf).length ≤ 256 := by have := HL.out; omega
        have := Nat.mul_le_mul_right 2001 h2
        omega)
      clear hTK HD
      go_upto_region 7 with fail
      have p0 := HS1.out.cell 0
      have p1 := HS1.out.cell 1
      have p2 := HS1.out.cell 2
      have p3 := HS1.out.cell 3
      have pl := HS1.out.lt
      have d0 := HS2.out.cell 0
      have d1 := HS2.out.cell 1
      have d2 := HS2.out.cell 2
      have d3 := HS2.out.cell 3
      have dl := HS2.out.lt
      have HB4 := Lib.hid (below_drew (Below.refl wr.heap.size wr))
      refine wp_region_last2 (S := fun w' => Below wr.heap.size wr w') 4 _ _ (by kernel_rfl) (by kernel_rfl) (by kernel_rfl) rfl rfl (below_drew (Below.refl _ _)) (fun hHeld => ?_)
      simp only [List.take_succ_cons, List.take_zero]
      refine takeH 0 (v := ?_) rfl (by kernel_rfl) (fun _ _ _ h => h) (by rfl) ?_ hHeld ?_
      rotate_left 1
      · intro w' hSw; obtain ⟨hcc, -⟩ := bcellW hSw; go_simp <;> with_reducible rfl
      try simp only [Act.put, List.setIfInBounds_toArray, List.set_cons_zero, List.set_cons_succ]
      refine takeH 1 (v := ?_) rfl (by kernel_rfl) (fun _ _ _ h => h) (by rfl) ?_ hHeld ?_
      rotate_left 1
      · intro w' hSw; obtain ⟨hcc, -⟩ := bcellW hSw; go_simp <;> with_reducible rfl
      try simp only [Act.put, List.setIfInBounds_toArray, List.set_cons_zero, List.set_cons_succ]
      refine stepH 2 (by kernel_rfl) rfl (fun K hK => ?_)
      go_simp
      refine (wholeV 2 wr.drew (by decide) (by decide)).mono ?_
      rintro e w5 ⟨hb5, v5, rfl, h5⟩
      have HB5 := Lib.hid (HB4.out.trans (hb5.mono HB4.out.size))
      have H5 := Lib.hid h5
      clear hb5 h5
      go_simp
      refine hK.out _ _ ?_ (fun hHeld => ?_)
      · exact HB5.out
      clear hK K
      try simp only [Act.put, List.setIfInBounds_toArray, List.set_cons_zero, List.set_cons_succ]
      refine stepH 3 (by kernel_rfl) rfl (fun K hK => ?_)
      go_simp
      refine (divV (HV2.out.up HB5.out) H5.out (by decide) (by have := HZ2.out; have := qsz_whole 2 (by decide) (by decide); omega)).mono ?_
      rintro e w6 ⟨hb6, v6, rfl, h6⟩
      have HB6 := Lib.hid (HB5.out.trans (hb6.mono HB5.out.size))
      have H6 := Lib.hid h6
      clear hb6 h6
      go_simp
      refine hK.out _ _ ?_ (fun hHeld => ?_)
      · exact HB6.out
      clear hK K
      try simp only [Act.put, List.setIfInBounds_toArray, List.set_cons_zero, List.set_cons_succ]
      refine wpAnyH_done (by kernel_rfl) ?_ _
      refine lastQ_go (by rfl) ?_
      have HKF := Lib.hid (HK.out.trans (HB6.out.mono HK.out.size))
      replace HV1 := Lib.hid (HV1.out.up HB6.out)
      replace HY1 := Lib.hid (HY1.out.below HB6.out HY1.out.lt)
      replace HY2 := Lib.hid (HY2.out.below HB6.out HY2.out.lt)
      clear p0 p1 p2 p3 pl d0 d1 d2 d3 dl HS1 HS2 HB4 HB5 HB6 H5 HV2 HK hHeld
      have p0 := HY1.out.cell 0
      have p1 := HY1.out.cell 1
      have p2 := HY1.out.cell 2
      have p3 := HY1.out.cell 3
      have pf := HY1.out.frozen
      have pl := HY1.out.lt
      go_simp
      clear p0 p1 p2 p3 pf pl
      have hbp := below_putQ (g := w.heap.size) (v := v) HKF.out (by omega)
      replace HY2 := Lib.hid (qfar (g := w.heap.size) (v := v) HY2.out (by omega))
      replace HV1 := Lib.hid (HV1.out.keepq (v := v) (x := rv0) HY1.out)
      replace H6 := Lib.hid (H6.out.keepq (v := v) (x := rv0) HY1.out)
      replace HY1 := Lib.hid (qput (v := v) (x := rv0) HY1.out)
      replace HKF := Lib.hid hbp
      clear hbp
      unfold putQ at HKF
      generalize (((w6.setCell ⟨w.heap.size, 0, none⟩ _).setCell ⟨w.heap.size, 1, none⟩ _).setCell ⟨w.heap.size, 2, none⟩ _).setCell ⟨w.heap.size, 3, none⟩ _ = w7 at *
      have p0 := HY2.out.cell 0
      have p1 := HY2.out.cell 1
      have p2 := HY2.out.cell 2
      have p3 := HY2.out.cell 3
      have pf := HY2.out.frozen
      have pl := HY2.out.lt
      refine lastQ_go (by rfl) ?_
      go_wp2_with fail
      clear p0 p1 p2 p3 pf pl
      have hbp := below_putQ (g := w.heap.size + 1) (v := v6) HKF.out (by omega)
      replace HY1 := Lib.hid (qfar (g := w.heap.size + 1) (v := v6) HY1.out (by omega))
      replace HV1 := Lib.hid (HV1.out.keepq (v := v6) (x := rv0) HY2.out)
      replace H6 := Lib.hid (H6.out.keepq (v := v6) (x := rv0) HY2.out)
      replace HY2 := Lib.hid (qput (v := v6) (x := rv0) HY2.out)
      replace HKF := Lib.hid hbp
      clear hbp
      unfold putQ at HKF
      generalize (((w7.setCell ⟨w.heap.size + 1, 0, none⟩ _).setCell ⟨w.heap.size + 1, 1, none⟩ _).setCell ⟨w.heap.size + 1, 2, none⟩ _).setCell ⟨w.heap.size + 1, 3, none⟩ _ = w8 at *
      have p0 := HY1.out.cell 0
      have p1 := HY1.out.cell 1
      have p2 := HY1.out.cell 2
      have p3 := HY1.out.cell 3
      have q0 := HY2.out.cell 0
      have q1 := HY2.out.cell 1
      have q2 := HY2.out.cell 2
      have q3 := HY2.out.cell 3
      exact bodyPost_ret (v := .tuple #[.agg #[.bool v.b1, .slice v.A v.n v.c, .bool v.b2, .slice v.A2 v.m v.d], .agg #[.bool v6.b1, .slice v6.A v6.n v6.c, .bool v6.b2, .slice v6.A2 v6.m v6.d]]) (by simp [results, Tryz.results47, go_sem, p0, p1, p2, p3, q0, q1, q2, q3]) rfl ⟨HKF.out, v, v6, rfl, HV1.out, H6.out⟩
end Go.Proofs.YtakllkkmofdpaaaGreatDoor
