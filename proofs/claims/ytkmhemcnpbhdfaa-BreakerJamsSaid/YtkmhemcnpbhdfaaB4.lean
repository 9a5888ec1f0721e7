import Derived.Test.YtkmhemcnpbhdfaaB2
namespace Go.Proofs.Ytkmhemcnpbhdfaa
open Go.ChangeShapes Go.WideShapes Go.ChangeAt Go.RowKit
attribute [local go_sem ↓] execOp_call_val
attribute [local go_sem] callVal_func setCell_drewN alloc_drewN Br.cells





set_option maxHeartbeats 1000000 in
theorem jams_bad (o c ch st wait time : Int) (h : brCheck o c ch st ≠ 0) (w : World) :
    Calls Try.prog 5 #[.agg #[.int .i64 o, .int .i64 c, .int .i64 ch, .int .i64 st], .int .i64 wait, .int .i64 time] w fun e w' => e = .returned (.bool true) ∧ Below w.heap.size w w' := by
  obtain ⟨hb1, hb2⟩ := tmod_bd wait 1000 (by omega)
  obtain ⟨hc1, hc2⟩ := tmod_bd time 30000 (by omega)
  have hn : (brCheck o c ch st != 0) = true := by simpa using h
  have hn' : (brCheck o c ch st == 0) = false := by simpa using h
  go_enter Try.func5, Try.ntmps5
  go_wp2_with fail
  refine (works_any _).mono ?_
  rintro e w1 ⟨rfl, k1⟩
  have K1 : Below w.heap.size w w1 := ((Below.refl _ _).alloc (Nat.le_refl _) _).trans (k1.mono (by simp))
  have q1 := (Blk.new _ _ _).below k1 (by simp)
  clear k1
  obtain ⟨c0, c1, c2, c3, cf, hlt1⟩ := kd_facts q1
  have Q1 := Lib.hid q1
  clear q1
  go_wp2_with fail
  refine (new_err _ _ _ _ _ _ h).mono ?_
  rintro e w2 ⟨rfl, k2⟩
  have K2 := K1.trans (k2.mono K1.size)
  have q2 := Q1.out.below k2 hlt1
  clear c0 c1 c2 c3 cf hlt1 k2 Q1
  obtain ⟨c0, c1, c2, c3, cf, hlt1⟩ := kd_facts q2
  clear q2
  go_wp2_with fail
  refine (check_any _ _ _ _ _).mono ?_
  rintro e w3 ⟨rfl, k3⟩
  have K3 := K2.trans (k3.mono K2.size)
  go_wp2_with fail
  go_ret
  exact ⟨rfl, K3⟩


theorem jam_fields (b : Br) (t : Int) (j : Bool) : (b.jammed t j).o = b.o ∧ (b.jammed t j).c = b.c ∧ (b.jammed t j).since = b.since ∧ (b.jammed t j).jam = j ∧ (b.jammed t j).now = t ∧
    (b.jammed t j).state = if j then (b.at_ t).state else if (b.at_ t).state = 1 ∧ b.since + b.o ≤ t then 2 else if (b.at_ t).state = 3 ∧ b.since + b.c ≤ t then 0 else (b.at_ t).state := by
  obtain ⟨h1, h2, h3, h4, h5, h6, h7⟩ := at_fields b t
  refine ⟨h1, h2, h5, rfl, h7, ?_⟩
  show ((b.at_ t).withJam j).mv = _
  unfold Br.mv Br.withJam
  dsimp only
  rw [h5, h1, h2, h7]
theorem Br.Ok.jammed {b : Br} (ok : b.Ok) {t : Int} (j : Bool) (h1 : b.now ≤ t) (h2 : t ≤ 1000000000) : (b.jammed t j).Ok := ((ok.at_ h1 h2).withJam j).withState _

theorem jams_plain {o c ch st : Int} (h : brCheck o c ch st = 0) (wt tm : Int) (h0 : 0 ≤ tm) (h1 : tm ≤ 30000) (hw : 0 ≤ wt) :
    ∃ J T F F' G : Br, (Br.new o c ch st true).Ok ∧ (Br.new o c ch st true).now = 0 ∧ (Br.new o c ch st true).jammed 0 true = J ∧ J.Ok ∧ J.now = 0 ∧ (J.at_ 0).state = 0 ∧ J.trip 0 = T ∧ T.Ok ∧ T.now = 0 ∧
      T.isFailed tm wt = decide (o + wt ≤ tm) ∧ T.at_ tm = F ∧ F.Ok ∧ F.now = tm ∧ (F.at_ tm).state = 1 ∧ F.at_ tm = F' ∧ F'.Ok ∧ F'.now = tm ∧ F'.jammed tm false = G ∧ G.Ok ∧ G.now = tm ∧ (G.at_ tm).state = if o ≤ tm then 2 else 1 := by
  obtain ⟨r1, r2, r3, r4, r5, r6, r7, r8⟩ := brCheck_ok h
  have ok0 := new_ok (j := true) h
  have okJ := ok0.jammed (t := 0) true (by simp [Br.new]) (by omega)
  obtain ⟨j1, j2, j3, j4, j5, j6⟩ := jam_fields (Br.new o c ch st true) 0 true
  have s0 : ((Br.new o c ch st true).at_ 0).state = 0 := by rw [at_state]; simp [Br.new]
  have js : ((Br.new o c ch st true).jammed 0 true).state = 0 := by rw [j6, s0]; rfl
  have s1 : (((Br.new o c ch st true).jammed 0 true).at_ 0).state = 0 := by rw [at_state, j4, js]; rfl
  have okT := okJ.trip (t := 0) (by omega) (by omega)
  obtain ⟨t1, t2, t3, t4, t5, t6, t7, t8, t9, t10⟩ := trip_fields ((Br.new o c ch st true).jammed 0 true) 0
  generalize hJ : (Br.new o c ch st true).jammed 0 true = J at *
  generalize hT : J.trip 0 = T at *
  have s2 : (T.at_ tm).state = 1 := by rw [at_state, t6, j4, t8]; rfl
  obtain ⟨f1, f2, f3, f4, f5, f6, f7⟩ := at_fields T tm
  have okF := okT.at_ (t := tm) (by omega) (by omega)
  have hfail : T.isFailed tm wt = decide (o + wt ≤ tm) := by
    unfold Br.isFailed
    rw [s2, f1, f5, t1, t5, j1]
    simp [Br.new]
  generalize hF : T.at_ tm = F at *
  have s3 : (F.at_ tm).state = 1 := by rw [at_state, f6, t6, j4, s2]; rfl
  obtain ⟨g1, g2, g3, g4, g5, g6, g7⟩ := at_fields F tm
  have okF' := okF.at_ (t := tm) (by omega) (by omega)
  generalize hF' : F.at_ tm = F' at *
  have s4 : (F'.at_ tm).state = 1 := by rw [at_state, g6, f6, t6, j4, s3]; rfl
  have okG := okF'.jammed (t := tm) false (by omega) (by omega)
  obtain ⟨k1, k2, k3, k4, k5, k6⟩ := jam_fields F' tm false
  generalize hG : F'.jammed tm false = G at *
  have ho : F'.o = o := by rw [g1, f1, t1, j1]; rfl
  have hs : F'.since = 0 := by rw [g5, f5, t5]
  rw [s4, ho, hs] at k6
  have s5 : (G.at_ tm).state = if o ≤ tm then 2 else 1 := by
    rw [at_state, k4, k3, k1, ho, hs, k6]
    by_cases hc : o ≤ tm
    · simp [hc]
    · simp [hc]
  exact ⟨J, T, F, F', G, ok0, rfl, rfl, okJ, j5, s1, hT, okT, t7, hfail, hF, okF, f7, by rw [hF']; exact s3, hF', okF', g7, hG, okG, k5, s5⟩

set_option maxHeartbeats 1000000 in
theorem jams_any (o c ch st wait time wt tm : Int) (h : brCheck o c ch st = 0) (w : World)
    (ew : (wait.tmod 1000 + 1000) % 1000 = wt) (em : (time.tmod 30000 + 30000) % 30000 = tm) :
    Calls Try.prog 5 #[.agg #[.int .i64 o, .int .i64 c, .int .i64 ch, .int .i64 st], .int .i64 wait, .int .i64 time] w fun e w' => e = .returned (.bool true) ∧ Below w.heap.size w w' := by
  obtain ⟨hb1, hb2⟩ := tmod_bd wait 1000 (by omega)
  obtain ⟨hc1, hc2⟩ := tmod_bd time 30000 (by omega)
  have w1' : 0 ≤ wt := by omega
  have w2' : wt < 1000 := by omega
  have m1 : 0 ≤ tm := by omega
  have m2 : tm < 30000 := by omega
  obtain ⟨r1, r2, r3, r4, r5, r6, r7, r8⟩ := brCheck_ok h
  obtain ⟨J, T, F, F', G, ok0, e0, eJ, okJ, eJ2, eJ3, eT, okT, eT2, eT3, eF, okF, eF2, eF3, eF', okF', eF2', eG, okG, eG2, eG3⟩ := jams_plain h wt tm m1 (by omega) w1'
  have E0 := Lib.hid e0
  have EJ := Lib.hid eJ
  have EJ2 := Lib.hid eJ2
  have EJ3 := Lib.hid eJ3
  have ET := Lib.hid eT
  have ET2 := Lib.hid eT2
  have ET3 := Lib.hid eT3
  have EF := Lib.hid eF
  have EF2 := Lib.hid eF2
  have EF3 := Lib.hid eF3
  have EF' := Lib.hid eF'
  have EF2' := Lib.hid eF2'
  have EG := Lib.hid eG
  have EG2 := Lib.hid eG2
  have EG3 := Lib.hid eG3
  have H3 := Lib.hid h
  clear e0 eJ eJ2 eJ3 eT eT2 eT3 eF eF2 eF3 eF' eF2' eG eG2 eG3 h
  go_enter Try.func5, Try.ntmps5
  go_wp2_with fail
  refine (works_any _).mono ?_
  rintro e w1 ⟨rfl, k1⟩
  have K1 : Below w.heap.size w w1 := ((Below.refl _ _).alloc (Nat.le_refl _) _).trans (k1.mono (by simp))
  have q1 := (Blk.new _ _ _).below k1 (by simp)
  clear k1
  obtain ⟨c0, c1, c2, c3, cf, hlt1⟩ := kd_facts q1
  have Q1 := Lib.hid q1
  clear q1
  go_wp2_with fail
  refine (new_any _ _ _ _ _ _ H3.out).mono ?_
  rintro e w2 ⟨p, rfl, hp, hB0, k2⟩
  have K2 := K1.trans (k2.mono K1.size)
  have q2 := Q1.out.below k2 hlt1
  have hpw : w.heap.size ≤ p := Nat.le_trans K1.size hp
  clear c0 c1 c2 c3 cf Q1
  have HB0 := Lib.hid hB0
  clear hB0
  go_wp2_with fail
  refine (jam_any p _ _ HB0.out ok0 _ _ (by rw [E0.out]; omega) (by omega)).mono ?_
  rw [EJ.out]
  rintro e w3 ⟨rfl, g3, hB1⟩
  have K3 := below_only K2 g3 hpw (Nat.le_refl _)
  have q3 := q2.grown g3 (fun e => by injection e; omega)
  clear q2
  have HB1 := Lib.hid hB1
  clear hB1
  go_wp2_with fail
  refine (trip_any p _ _ HB1.out okJ _ (by rw [EJ2.out]; omega) (by omega) (.inl EJ3.out)).mono ?_
  rw [ET.out]
  rintro e w4 ⟨rfl, g4, hB2⟩
  have K4 := below_only K3 g4 hpw (Nat.le_refl _)
  have q4 := q3.grown g4 (fun e => by injection e; omega)
  clear q3
  have HB2 := Lib.hid hB2
  clear hB2
  go_wp2_with fail
  refine (failed_any p _ _ HB2.out okT _ _ (by rw [ET2.out]; omega) (by omega) w1' (by omega)).mono ?_
  rw [EF.out, ET3.out]
  rintro e w5 ⟨rfl, g5, hB3⟩
  have K5 := below_only K4 g5 hpw (Nat.le_refl _)
  have q5 := q4.grown g5 (fun e => by injection e; omega)
  clear q4
  have HB3 := Lib.hid hB3
  clear hB3
  go_wp2_with fail
  refine (get_any p _ _ HB3.out okF _ (by rw [EF2.out]; omega) (by omega)).mono ?_
  rw [EF3.out, EF'.out]
  rintro e w6 ⟨rfl, g6, hB4⟩
  have K6 := below_only K5 g6 hpw (Nat.le_refl _)
  have q6 := q5.grown g6 (fun e => by injection e; omega)
  clear q5
  obtain ⟨c0, c1, c2, c3, cf, hlt6⟩ := kd_facts q6
  have HB4 := Lib.hid hB4
  have Q6 := Lib.hid q6
  clear hB4 q6
  by_cases hd : o + wt ≤ tm
  · have hd1 : decide (o + wt ≤ tm) = true := by simpa using hd
    go_wp2_with fail
    refine (jam_any p _ _ HB4.out okF' _ _ (by rw [EF2'.out]; omega) (by omega)).mono ?_
    rw [EG.out]
    rintro e w7 ⟨rfl, g7, hB5⟩
    have K7 := below_only K6 g7 hpw (Nat.le_refl _)
    have q7 := Q6.out.grown g7 (fun e => by injection e; omega)
    clear Q6 c0 c1 c2 c3 cf hlt6
    have HB5 := Lib.hid hB5
    clear hB5
    go_wp2_with fail
    refine (get_any p _ _ HB5.out okG _ (by rw [EG2.out]; omega) (by omega)).mono ?_
    rw [EG3.out, if_pos (by omega)]
    rintro e w8 ⟨rfl, g8, hB6⟩
    have K8 := below_only K7 g8 hpw (Nat.le_refl _)
    have q8 := q7.grown g8 (fun e => by injection e; omega)
    clear q7 hB6
    obtain ⟨c0, c1, c2, c3, cf, hlt8⟩ := kd_facts q8
    clear q8
    go_wp2_with fail
    go_ret
    exact ⟨ret_bool (by simp <;> omega), K8⟩
  · have hd1 : decide (o + wt ≤ tm) = false := by simpa using hd
    go_wp2_with fail
    refine (jam_any p _ _ HB4.out okF' _ _ (by rw [EF2'.out]; omega) (by omega)).mono ?_
    rw [EG.out]
    rintro e w7 ⟨rfl, g7, hB5⟩
    have K7 := below_only K6 g7 hpw (Nat.le_refl _)
    have q7 := Q6.out.grown g7 (fun e => by injection e; omega)
    clear Q6 c0 c1 c2 c3 cf hlt6
    have HB5 := Lib.hid hB5
    clear hB5
    go_wp2_with fail
    refine (get_any p _ _ HB5.out okG _ (by rw [EG2.out]; omega) (by omega)).mono ?_
    rw [EG3.out]
    rintro e w8 ⟨rfl, g8, hB6⟩
    have K8 := below_only K7 g8 hpw (Nat.le_refl _)
    have q8 := q7.grown g8 (fun e => by injection e; omega)
    clear q7 hB6
    obtain ⟨c0, c1, c2, c3, cf, hlt8⟩ := kd_facts q8
    clear q8
    by_cases hc : o ≤ tm
    · simp only [if_pos hc]
      go_wp2_with fail
      go_ret
      exact ⟨ret_bool (by simp <;> omega), K8⟩
    · simp only [if_neg hc]
      go_wp2_with fail
      go_ret
      exact ⟨ret_bool (by simp <;> omega), K8⟩
end Go.Proofs.Ytkmhemcnpbhdfaa
