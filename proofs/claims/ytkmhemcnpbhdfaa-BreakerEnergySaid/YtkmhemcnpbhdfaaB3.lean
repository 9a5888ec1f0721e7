import Derived.Test.YtkmhemcnpbhdfaaB2
namespace Go.Proofs.Ytkmhemcnpbhdfaa
open Go.ChangeShapes Go.WideShapes Go.ChangeAt Go.RowKit
attribute [local go_sem ↓] execOp_call_val
attribute [local go_sem] callVal_func setCell_drewN alloc_drewN Br.cells





set_option maxHeartbeats 1000000 in
theorem energy_bad (o c ch st : Int) (h : brCheck o c ch st ≠ 0) (w : World) :
    Calls Try.prog 4 #[.agg #[.int .i64 o, .int .i64 c, .int .i64 ch, .int .i64 st]] w fun e w' => e = .returned (.bool true) ∧ Below w.heap.size w w' := by
  have hn : (brCheck o c ch st != 0) = true := by simpa using h
  have hn' : (brCheck o c ch st == 0) = false := by simpa using h
  go_enter Try.func4, Try.ntmps4
  go_wp2_with fail
  refine (works_any _).mono ?_
  rintro e w1 ⟨rfl, k1⟩
  have K1 : Below w.heap.size w w1 := ((Below.refl _ _).alloc (Nat.le_refl _) _).trans (k1.mono (by simp))
  have q1 := (Blk.new _ _ _).below k1 (by simp)
  clear k1
  obtain ⟨c0, c1, c2, c3, cf, hlt1⟩ := kd_facts q1
  have Q1 := Lib.hid q1
  clear q1
  go_wp2_with fail
  refine (new_err _ _ _ _ _ _ h).mono ?_
  rintro e w2 ⟨rfl, k2⟩
  have K2 := K1.trans (k2.mono K1.size)
  have q2 := Q1.out.below k2 hlt1
  clear c0 c1 c2 c3 cf hlt1 k2 Q1
  obtain ⟨c0, c1, c2, c3, cf, hlt1⟩ := kd_facts q2
  clear q2
  go_wp2_with fail
  refine (check_any _ _ _ _ _).mono ?_
  rintro e w3 ⟨rfl, k3⟩
  have K3 := K2.trans (k3.mono K2.size)
  go_wp2_with fail
  go_ret
  exact ⟨rfl, K3⟩


set_option maxHeartbeats 1000000 in
theorem energy_small (o c ch st : Int) (h : brCheck o c ch st = 0) (hs : ch ≤ 3 * (o + 1)) (w : World) :
    Calls Try.prog 4 #[.agg #[.int .i64 o, .int .i64 c, .int .i64 ch, .int .i64 st]] w fun e w' => e = .returned (.bool true) ∧ Below w.heap.size w w' := by
  obtain ⟨r1, r2, r3, r4, r5, r6, r7, r8⟩ := brCheck_ok h
  have H3 := Lib.hid h
  clear h
  go_enter Try.func4, Try.ntmps4
  go_wp2_with fail
  refine (works_any _).mono ?_
  rintro e w1 ⟨rfl, k1⟩
  have K1 : Below w.heap.size w w1 := ((Below.refl _ _).alloc (Nat.le_refl _) _).trans (k1.mono (by simp))
  have q1 := (Blk.new _ _ _).below k1 (by simp)
  clear k1
  obtain ⟨c0, c1, c2, c3, cf, hlt1⟩ := kd_facts q1
  have Q1 := Lib.hid q1
  clear q1
  go_wp2_with fail
  refine (new_any _ _ _ _ _ _ H3.out).mono ?_
  rintro e w2 ⟨p, rfl, hp, hB0, k2⟩
  have K2 := K1.trans (k2.mono K1.size)
  have q2 := Q1.out.below k2 hlt1
  clear c0 c1 c2 c3 cf Q1 hB0
  obtain ⟨c0, c1, c2, c3, cf, hlt2⟩ := kd_facts q2
  clear q2
  go_wp2_with fail
  go_ret
  exact ⟨rfl, K2⟩

theorem new_einv {o c ch st : Int} (h : brCheck o c ch st = 0) : EInv o c ch st 0 (Br.new o c ch st false) :=
  ⟨rfl, rfl, rfl, rfl, rfl, rfl, by simp [Br.new], new_ok h, .inl ⟨rfl, rfl, rfl, rfl⟩⟩

set_option maxHeartbeats 4000000 in
theorem energy_any_ (o c ch st : Int) (h : brCheck o c ch st = 0) (hs : 3 * (o + 1) < ch) (w : World) :
    Calls Try.prog 4 #[.agg #[.int .i64 o, .int .i64 c, .int .i64 ch, .int .i64 st]] w fun e w' => e = .returned (.bool true) ∧ Below w.heap.size w w' := by
  obtain ⟨r1, r2, r3, r4, r5, r6, r7, r8⟩ := brCheck_ok h
  have H0 := new_einv h
  have H3 := Lib.hid h
  clear h
  go_enter Try.func4, Try.ntmps4
  go_wp2_with fail
  refine (works_any _).mono ?_
  rintro e w1 ⟨rfl, k1⟩
  have K1 : Below w.heap.size w w1 := ((Below.refl _ _).alloc (Nat.le_refl _) _).trans (k1.mono (by simp))
  have q1 := (Blk.new _ _ _).below k1 (by simp)
  clear k1
  obtain ⟨c0, c1, c2, c3, cf, hlt1⟩ := kd_facts q1
  have Q1 := Lib.hid q1
  clear q1
  go_wp2_with fail
  refine (new_any _ _ _ _ _ _ H3.out).mono ?_
  rintro e w2 ⟨p, rfl, hp, hB0, k2⟩
  have K2 := K1.trans (k2.mono K1.size)
  have q2 := Q1.out.below k2 hlt1
  have hpw : w.heap.size ≤ p := Nat.le_trans K1.size hp
  have hpq : w.heap.size < p := by omega
  clear c0 c1 c2 c3 cf Q1
  obtain ⟨c0, c1, c2, c3, cf, hlt2⟩ := kd_facts q2
  have HB0 := Lib.hid hB0
  have Q2 := Lib.hid q2
  clear hB0 q2
  go_wp2_with fail
  clear c0 c1 c2 c3 cf
  go_loopw [5, 6, 41] (fun _ _ i wr => ∃ k : Nat, (k : Int) ≤ st ∧ i = .int .i64 k ∧ Below w.heap.size w wr ∧ Blk wr w.heap.size 23 #[.int .i64 o, .int .i64 c, .int .i64 ch, .int .i64 st] ∧ ∃ B, EInv o c ch st k B ∧ Blk wr p 68 B.cells) (fun _ _ i _ => 3 - (intOf i).toNat)
  case atStart => exact ⟨0, by omega, rfl, K2, Q2.out, _, H0, HB0.out⟩
  case round =>
    obtain ⟨k, hk, rfl, K3, q3, B, hI, hB⟩ := hrel
    obtain ⟨c0, c1, c2, c3, cf, hlt3⟩ := kd_facts q3
    have HB := Lib.hid hB
    have Q3 := Lib.hid q3
    clear hB q3
    by_cases hlt : (k : Int) < st
    · have hm0 : 0 ≤ (k : Int) * (o + 1) := Int.mul_nonneg (by omega) (by omega)
      have hm2 : (k : Int) * (o + 1) ≤ 2 * (o + 1) := Int.mul_le_mul_of_nonneg_right (by omega) (by omega)
      obtain ⟨t, ht⟩ : ∃ t, (k : Int) * (o + 1) = t := ⟨_, rfl⟩
      rw [ht] at hm0 hm2
      obtain ⟨n1, n2, n3, n4, n5, n6, n7, n8⟩ := hI.next_ (by omega) hlt hs r8 t ht hm2
      have hok := hI.ok
      generalize hB' : B.close t = B' at *
      have HB' := Lib.hid hB'
      have N3 := Lib.hid n3
      have N6 := Lib.hid n6
      have N7 := Lib.hid n7
      clear hB' n3 n6 n7
      go_wp2_with fail
      refine (close_any p _ _ HB.out hok _ n1 n2 N3.out n4).mono ?_
      rw [HB'.out]
      rintro e w3 ⟨rfl, g3, hB3⟩
      have K4 := below_only K3 g3 hpw (Nat.le_refl _)
      have q4 := Q3.out.grown g3 (fun e => by injection e; omega)
      clear Q3 c0 c1 c2 c3 cf hlt3
      have HB3 := Lib.hid hB3
      clear hB3
      go_wp2_with fail
      refine (trip_any p _ _ HB3.out n5 _ (by rw [N6.out]; omega) (by omega) N7.out).mono ?_
      rintro e w4 ⟨rfl, g4, hB4⟩
      have K5 := below_only K4 g4 hpw (Nat.le_refl _)
      have q5 := q4.grown g4 (fun e => by injection e; omega)
      have HB4 := Lib.hid hB4
      have Q5 := Lib.hid q5
      clear hB4 q5 q4
      go_wp2_with fail
      go_roundw
      case rel => exact ⟨k + 1, by omega, by go_num, K5, Q5.out, _, n8, HB4.out⟩
      case measure => simp [intOf]; omega
    · have hke : (k : Int) = st := by omega
      rw [hke] at hI
      obtain ⟨n1, n2, n3, n4, n5, n6, n7, n8, n9, n10, n11⟩ := hI.end_ hs r8 r7
      have hok := hI.ok
      have hch := hI.ich
      generalize hA : B.at_ (ch - 1) = A at *
      generalize hC : A.at_ ch = C at *
      have HA := Lib.hid hA
      have HC := Lib.hid hC
      have N4 := Lib.hid n4
      have N5 := Lib.hid n5
      have N6 := Lib.hid n6
      have N9 := Lib.hid n9
      have N10 := Lib.hid n10
      have N11 := Lib.hid n11
      have hke' : ¬ (k : Int) < st := hlt
      have Hke := Lib.hid hke
      have HI := Lib.hid hI
      clear hA hC n4 n5 n6 n9 n10 n11 hke hch hI
      go_wp2_with fail
      refine (energy_any p _ _ HB.out hok _ n1 (by omega)).mono ?_
      rw [HA.out, n2]
      rintro e w3 ⟨rfl, g3, hB3⟩
      have K4 := below_only K3 g3 hpw (Nat.le_refl _)
      have q4 := Q3.out.grown g3 (fun e => by injection e; omega)
      clear Q3 c0 c1 c2 c3 cf hlt3
      obtain ⟨c0, c1, c2, c3, cf, hlt4⟩ := kd_facts q4
      have HB3 := Lib.hid hB3
      have Q4 := Lib.hid q4
      clear hB3 q4
      go_wp2_with fail
      refine (close_none p _ _ HB3.out n3 _ (by rw [N4.out]; omega) (by omega) N5.out N6.out).mono ?_
      rintro e w4 ⟨rfl, k4⟩
      have K5 := K4.trans (k4.mono K4.size)
      have q5 := Q4.out.below k4 hlt4
      have hB5 := HB3.out.below k4 HB3.out.lt
      clear Q4 c0 c1 c2 c3 cf hlt4
      obtain ⟨c0, c1, c2, c3, cf, hlt5⟩ := kd_facts q5
      have HB5 := Lib.hid hB5
      have Q5 := Lib.hid q5
      clear hB5 q5
      go_wp2_with fail
      refine (energy_any p _ _ HB5.out n3 _ (by rw [N4.out]; omega) (by omega)).mono ?_
      rw [HC.out, n7]
      rintro e w5 ⟨rfl, g6, hB6⟩
      have K6 := below_only K5 g6 hpw (Nat.le_refl _)
      have q6 := Q5.out.grown g6 (fun e => by injection e; omega)
      clear Q5 c0 c1 c2 c3 cf hlt5
      obtain ⟨c0, c1, c2, c3, cf, hlt6⟩ := kd_facts q6
      have HB6 := Lib.hid hB6
      clear hB6 q6
      go_wp2_with fail
      refine (close_any p _ _ HB6.out n8 _ (by rw [N9.out]; omega) (by omega) N10.out (by rw [N11.out]; omega)).mono ?_
      rintro e w6 ⟨rfl, g7, _⟩
      have K7 := below_only K6 g7 hpw (Nat.le_refl _)
      go_wp2_with fail
      go_ret
      exact ⟨rfl, K7⟩
end Go.Proofs.Ytkmhemcnpbhdfaa
