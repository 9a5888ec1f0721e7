import Derived.Test.YtkmhemcnpbhdfaaA8
namespace Go.Proofs.Ytkmhemcnpbhdfaa
open Go.ChangeShapes Go.WideShapes Go.ChangeAt Go.RowKit
attribute [local go_sem ↓] execOp_call_val
attribute [local go_sem] callVal_func setCell_drewN alloc_drewN Br.cells




theorem at_fields (b : Br) (t : Int) : (b.at_ t).o = b.o ∧ (b.at_ t).c = b.c ∧ (b.at_ t).ch = b.ch ∧ (b.at_ t).st = b.st ∧ (b.at_ t).since = b.since ∧ (b.at_ t).jam = b.jam ∧ (b.at_ t).now = t := by
  unfold Br.at_ Br.withState Br.pre
  dsimp only
  split <;> (try split) <;> exact ⟨rfl, rfl, rfl, rfl, rfl, rfl, rfl⟩
theorem at_state (b : Br) (t : Int) : (b.at_ t).state = if b.jam then b.state else if b.state = 1 ∧ b.since + b.o ≤ t then 2 else if b.state = 3 ∧ b.since + b.c ≤ t then 0 else b.state := by
  unfold Br.at_ Br.withState Br.mv Br.pre
  dsimp only
  split <;> (try split) <;> rfl
theorem at_full (b : Br) (t : Int) (h : b.stored = b.st) : (b.at_ t).stored = b.stored ∧ (b.at_ t).charged = b.charged := by
  unfold Br.at_ Br.withState Br.pre
  dsimp only
  rw [if_neg (by omega)]
  exact ⟨rfl, rfl⟩

theorem brCheck_ok {o c ch st : Int} (h : brCheck o c ch st = 0) : 1 ≤ o ∧ o ≤ 10000 ∧ 1 ≤ c ∧ c ≤ 10000 ∧ 1 ≤ ch ∧ ch ≤ 100000 ∧ 1 ≤ st ∧ st ≤ 3 := by
  unfold brCheck outB at h
  split at h
  · omega
  · rename_i h1
    simp at h1
    omega

theorem new_ok {o c ch st : Int} {j : Bool} (h : brCheck o c ch st = 0) : (Br.new o c ch st j).Ok := by
  have := brCheck_ok h
  constructor <;> dsimp only [Br.new] <;> omega

theorem tmod_bd (a n : Int) (h : 0 < n) : -n < a.tmod n ∧ a.tmod n < n := ⟨Int.lt_tmod_of_pos a h, Int.tmod_lt_of_pos a h⟩

set_option maxHeartbeats 1000000 in
theorem opens_bad (o c ch st at_ wait more : Int) (h : brCheck o c ch st ≠ 0) (w : World) :
    Calls Try.prog 3 #[.agg #[.int .i64 o, .int .i64 c, .int .i64 ch, .int .i64 st], .int .i64 at_, .int .i64 wait, .int .i64 more] w fun e w' => e = .returned (.bool true) ∧ Below w.heap.size w w' := by
  obtain ⟨ha1, ha2⟩ := tmod_bd at_ 1000 (by omega)
  obtain ⟨hb1, hb2⟩ := tmod_bd wait 20000 (by omega)
  obtain ⟨hc1, hc2⟩ := tmod_bd more 20000 (by omega)
  have hn : (brCheck o c ch st != 0) = true := by simpa using h
  have hn' : (brCheck o c ch st == 0) = false := by simpa using h
  go_enter Try.func3, Try.ntmps3
  go_wp2_with fail
  refine (works_any _).mono ?_
  rintro e w1 ⟨rfl, k1⟩
  have K1 : Below w.heap.size w w1 := ((Below.refl _ _).alloc (Nat.le_refl _) _).trans (k1.mono (by simp))
  have q1 := (Blk.new _ _ _).below k1 (by simp)
  clear k1
  obtain ⟨c0, c1, c2, c3, cf, hlt1⟩ := kd_facts q1
  have Q1 := Lib.hid q1
  clear q1
  go_wp2_with fail
  refine (new_err _ _ _ _ _ _ h).mono ?_
  rintro e w2 ⟨rfl, k2⟩
  have K2 := K1.trans (k2.mono K1.size)
  have q2 := Q1.out.below k2 hlt1
  clear c0 c1 c2 c3 cf hlt1 k2 Q1
  obtain ⟨c0, c1, c2, c3, cf, hlt1⟩ := kd_facts q2
  clear q2
  go_wp2_with fail
  refine (check_any _ _ _ _ _).mono ?_
  rintro e w3 ⟨rfl, k3⟩
  have K3 := K2.trans (k3.mono K2.size)
  go_wp2_with fail
  go_ret
  exact ⟨rfl, K3⟩

theorem trip_fields (b : Br) (t : Int) : (b.trip t).o = b.o ∧ (b.trip t).c = b.c ∧ (b.trip t).ch = b.ch ∧ (b.trip t).st = b.st ∧ (b.trip t).since = t ∧ (b.trip t).jam = b.jam ∧ (b.trip t).now = t ∧ (b.trip t).state = 1 ∧ (b.trip t).stored = (b.at_ t).stored ∧ (b.trip t).charged = (b.at_ t).charged := by
  obtain ⟨h1, h2, h3, h4, h5, h6, h7⟩ := at_fields b t
  exact ⟨h1, h2, h3, h4, rfl, h6, h7, rfl, rfl, rfl⟩
theorem Br.Ok.trip {b : Br} (ok : b.Ok) {t : Int} (h1 : b.now ≤ t) (h2 : t ≤ 1000000000) : (b.trip t).Ok := by
  obtain ⟨_, _, _, _, _, _, h7⟩ := at_fields b t
  have o1 := ok.at_ h1 h2
  have := ok.s1
  have := ok.s2
  obtain ⟨_, _, _, _, _, _, _, _, _, _, _, _, _, _, _⟩ := o1
  constructor <;> dsimp only [Br.trip] <;> omega
theorem close_fields (b : Br) (t : Int) : (b.close t).o = b.o ∧ (b.close t).c = b.c ∧ (b.close t).ch = b.ch ∧ (b.close t).st = b.st ∧ (b.close t).since = t ∧ (b.close t).jam = b.jam ∧ (b.close t).now = t ∧ (b.close t).state = 3 ∧
    (b.close t).stored = (b.at_ t).stored - 1 ∧ (b.close t).charged = if (b.at_ t).stored = (b.at_ t).st then t else (b.at_ t).charged := by
  obtain ⟨h1, h2, h3, h4, h5, h6, h7⟩ := at_fields b t
  exact ⟨h1, h2, h3, h4, rfl, h6, h7, rfl, rfl, rfl⟩
theorem Br.Ok.close {b : Br} (ok : b.Ok) {t : Int} (h1 : b.now ≤ t) (h2 : t ≤ 1000000000) (h3 : 1 ≤ (b.at_ t).stored) : (b.close t).Ok := by
  obtain ⟨_, _, _, _, _, _, h7⟩ := at_fields b t
  have o1 := ok.at_ h1 h2
  have := ok.s1
  have := ok.s2
  obtain ⟨_, _, _, _, _, _, _, _, _, _, _, _, _, _, _⟩ := o1
  constructor <;> dsimp only [Br.close] <;> (try split) <;> omega

set_option maxHeartbeats 1000000 in
theorem opens_early (o c ch st at_ wait more a wt m : Int) (h : brCheck o c ch st = 0) (w : World)
    (ea : (at_.tmod 1000 + 1000) % 1000 = a) (ew : (wait.tmod 20000 + 20000) % 20000 = wt) (em : (more.tmod 20000 + 20000) % 20000 = m) (hlt : wt < o) :
    Calls Try.prog 3 #[.agg #[.int .i64 o, .int .i64 c, .int .i64 ch, .int .i64 st], .int .i64 at_, .int .i64 wait, .int .i64 more] w fun e w' => e = .returned (.bool true) ∧ Below w.heap.size w w' := by
  obtain ⟨ha1, ha2⟩ := tmod_bd at_ 1000 (by omega)
  obtain ⟨hb1, hb2⟩ := tmod_bd wait 20000 (by omega)
  obtain ⟨hc1, hc2⟩ := tmod_bd more 20000 (by omega)
  have a1 : 0 ≤ a := by omega
  have a2 : a < 1000 := by omega
  have w1' : 0 ≤ wt := by omega
  have w2' : wt < 20000 := by omega
  obtain ⟨r1, r2, r3, r4, r5, r6, r7, r8⟩ := brCheck_ok h
  have ok0 := new_ok (j := true) h
  have ok1 := ok0.trip (t := a) a1 (by omega)
  have hn1 : (Br.new o c ch st true).now = 0 := rfl
  have s0 : ((Br.new o c ch st true).at_ a).state = 0 := by rw [at_state]; simp [Br.new]
  obtain ⟨f1, f2, f3, f4, f5, f6, f7, f8, f9, f10⟩ := trip_fields (Br.new o c ch st true) a
  have s1 : (((Br.new o c ch st true).trip a).at_ (a + wt)).state = 1 := by
    rw [at_state, f8, f5, f1, f6]; simp [Br.new]; omega
  have ok2 := ok1.at_ (t := a + wt) (by omega) (by omega)
  have s2 : ((((Br.new o c ch st true).trip a).at_ (a + wt)).at_ (a + wt)).state = 1 := by
    obtain ⟨g1, g2, g3, g4, g5, g6, g7⟩ := at_fields ((Br.new o c ch st true).trip a) (a + wt)
    rw [at_state, g6, s1, g5, g1, f5, f1, f6]; simp [Br.new]; omega
  have n2 : (((Br.new o c ch st true).trip a).at_ (a + wt)).now = a + wt := (at_fields _ _).2.2.2.2.2.2
  have s2' : (((((Br.new o c ch st true).trip a).at_ (a + wt)).at_ (a + wt)).state == 2) = false := by rw [s2]; rfl
  generalize hB1 : (Br.new o c ch st true).trip a = B1 at *
  generalize hB2 : B1.at_ (a + wt) = B2 at *
  have H1 := Lib.hid hB1
  have H2 := Lib.hid hB2
  have H3 := Lib.hid h
  have S0 := Lib.hid s0
  have F7 := Lib.hid f7
  have N2 := Lib.hid n2
  clear hB1 hB2 h s0 f1 f2 f3 f4 f5 f6 f7 f8 f9 f10 s2 hn1 n2
  go_enter Try.func3, Try.ntmps3
  go_wp2_with fail
  refine (works_any _).mono ?_
  rintro e w1 ⟨rfl, k1⟩
  have K1 : Below w.heap.size w w1 := ((Below.refl _ _).alloc (Nat.le_refl _) _).trans (k1.mono (by simp))
  have q1 := (Blk.new _ _ _).below k1 (by simp)
  clear k1
  obtain ⟨c0, c1, c2, c3, cf, hlt1⟩ := kd_facts q1
  have Q1 := Lib.hid q1
  clear q1
  go_wp2_with fail
  refine (new_any _ _ _ _ _ _ H3.out).mono ?_
  rintro e w2 ⟨p, rfl, hp, hB0, k2⟩
  have K2 := K1.trans (k2.mono K1.size)
  have q2 := Q1.out.below k2 hlt1
  have hpw : w.heap.size ≤ p := Nat.le_trans K1.size hp
  clear c0 c1 c2 c3 cf Q1
  have HB0 := Lib.hid hB0
  clear hB0
  go_wp2_with fail
  refine (trip_any p _ _ HB0.out ok0 _ a1 (by omega) (.inl S0.out)).mono ?_
  rw [H1.out]
  rintro e w3 ⟨rfl, g3, hB1⟩
  have K3 := below_only K2 g3 hpw (Nat.le_refl _)
  have q3 := q2.grown g3 (fun e => by injection e; omega)
  clear q2
  have HB1 := Lib.hid hB1
  clear hB1
  go_wp2_with fail
  refine (get_any p _ _ HB1.out ok1 _ (by rw [F7.out]; omega) (by omega)).mono ?_
  rw [H2.out, s1]
  rintro e w4 ⟨rfl, g4, hB2⟩
  have K4 := below_only K3 g4 hpw (Nat.le_refl _)
  have q4 := q3.grown g4 (fun e => by injection e; omega)
  clear q3
  obtain ⟨c0, c1, c2, c3, cf, hlt4⟩ := kd_facts q4
  have HB2 := Lib.hid hB2
  clear hB2 q4
  go_wp2_with fail
  refine (close_state p _ _ HB2.out ok2 _ (by rw [N2.out]; omega) (by omega) s2').mono ?_
  rintro e w5 ⟨rfl, k5⟩
  have K5 := K4.trans (k5.mono K4.size)
  go_wp2_with fail
  go_ret
  exact ⟨rfl, K5⟩
set_option maxHeartbeats 1000000 in
theorem opens_late (o c ch st at_ wait more a wt m : Int) (h : brCheck o c ch st = 0) (w : World)
    (ea : (at_.tmod 1000 + 1000) % 1000 = a) (ew : (wait.tmod 20000 + 20000) % 20000 = wt) (em : (more.tmod 20000 + 20000) % 20000 = m) (hlt : o ≤ wt) :
    Calls Try.prog 3 #[.agg #[.int .i64 o, .int .i64 c, .int .i64 ch, .int .i64 st], .int .i64 at_, .int .i64 wait, .int .i64 more] w fun e w' => e = .returned (.bool true) ∧ Below w.heap.size w w' := by
  obtain ⟨ha1, ha2⟩ := tmod_bd at_ 1000 (by omega)
  obtain ⟨hb1, hb2⟩ := tmod_bd wait 20000 (by omega)
  obtain ⟨hc1, hc2⟩ := tmod_bd more 20000 (by omega)
  have a1 : 0 ≤ a := by omega
  have a2 : a < 1000 := by omega
  have w1' : 0 ≤ wt := by omega
  have w2' : wt < 20000 := by omega
  obtain ⟨r1, r2, r3, r4, r5, r6, r7, r8⟩ := brCheck_ok h
  have ok0 := new_ok (j := true) h
  have ok1 := ok0.trip (t := a) a1 (by omega)
  have hn1 : (Br.new o c ch st true).now = 0 := rfl
  have s0 : ((Br.new o c ch st true).at_ a).state = 0 := by rw [at_state]; simp [Br.new]
  obtain ⟨f1, f2, f3, f4, f5, f6, f7, f8, f9, f10⟩ := trip_fields (Br.new o c ch st true) a
  have s1 : (((Br.new o c ch st true).trip a).at_ (a + wt)).state = 2 := by
    rw [at_state, f8, f5, f1, f6]; simp [Br.new]; omega
  have ok2 := ok1.at_ (t := a + wt) (by omega) (by omega)
  obtain ⟨g1, g2, g3, g4, g5, g6, g7⟩ := at_fields ((Br.new o c ch st true).trip a) (a + wt)
  have s2 : ((((Br.new o c ch st true).trip a).at_ (a + wt)).at_ (a + wt)).state = 2 := by
    rw [at_state, g6, s1, g5, g1, f5, f1, f6]; simp [Br.new]
  have e0 : ((Br.new o c ch st true).at_ a).stored = st := (at_full _ _ rfl).1
  have e1 : ((Br.new o c ch st true).trip a).stored = st := by rw [f9, e0]
  have e2 : (((Br.new o c ch st true).trip a).at_ (a + wt)).stored = st := by rw [(at_full _ _ (by rw [e1, f4]; rfl)).1, e1]
  have e3 : ((((Br.new o c ch st true).trip a).at_ (a + wt)).at_ (a + wt)).stored = st := by rw [(at_full _ _ (by rw [e2, g4, f4]; rfl)).1, e2]
  have e3' : 1 ≤ ((((Br.new o c ch st true).trip a).at_ (a + wt)).at_ (a + wt)).stored := by omega
  have n2 : (((Br.new o c ch st true).trip a).at_ (a + wt)).now = a + wt := (at_fields _ _).2.2.2.2.2.2
  have ok3 := ok2.close (t := a + wt) (by omega) (by omega) e3'
  have n3 : ((((Br.new o c ch st true).trip a).at_ (a + wt)).close (a + wt)).now = a + wt := (close_fields _ _).2.2.2.2.2.2.1
  obtain ⟨k1, k2, k3, k4, k5, k6, k7, k8, _, _⟩ := close_fields (((Br.new o c ch st true).trip a).at_ (a + wt)) (a + wt)
  have s4 : (((((Br.new o c ch st true).trip a).at_ (a + wt)).close (a + wt)).at_ (a + wt + m)).state = if c ≤ m then 0 else 3 := by
    rw [at_state, k8, k6, k5, k2, g2, f2, g6, f6]; simp [Br.new]
  clear g1 g2 g3 g4 g5 g6 g7 k1 k2 k3 k4 k5 k6 k7 k8 e0 e1 e2 e3
  generalize hB1 : (Br.new o c ch st true).trip a = B1 at *
  generalize hB2 : B1.at_ (a + wt) = B2 at *
  generalize hB3 : B2.close (a + wt) = B3 at *
  have H4 := Lib.hid hB3
  have S2 := Lib.hid s2
  have N3 := Lib.hid n3
  clear hB3 s2 n3
  have H1 := Lib.hid hB1
  have H2 := Lib.hid hB2
  have H3 := Lib.hid h
  have S0 := Lib.hid s0
  have S4 := Lib.hid s4
  clear s4
  have F7 := Lib.hid f7
  have N2 := Lib.hid n2
  clear hB1 hB2 h s0 f1 f2 f3 f4 f5 f6 f7 f8 f9 f10 hn1 n2
  go_enter Try.func3, Try.ntmps3
  go_wp2_with fail
  refine (works_any _).mono ?_
  rintro e w1 ⟨rfl, k1⟩
  have K1 : Below w.heap.size w w1 := ((Below.refl _ _).alloc (Nat.le_refl _) _).trans (k1.mono (by simp))
  have q1 := (Blk.new _ _ _).below k1 (by simp)
  clear k1
  obtain ⟨c0, c1, c2, c3, cf, hlt1⟩ := kd_facts q1
  have Q1 := Lib.hid q1
  clear q1
  go_wp2_with fail
  refine (new_any _ _ _ _ _ _ H3.out).mono ?_
  rintro e w2 ⟨p, rfl, hp, hB0, k2⟩
  have K2 := K1.trans (k2.mono K1.size)
  have q2 := Q1.out.below k2 hlt1
  have hpw : w.heap.size ≤ p := Nat.le_trans K1.size hp
  clear c0 c1 c2 c3 cf Q1
  have HB0 := Lib.hid hB0
  clear hB0
  go_wp2_with fail
  refine (trip_any p _ _ HB0.out ok0 _ a1 (by omega) (.inl S0.out)).mono ?_
  rw [H1.out]
  rintro e w3 ⟨rfl, g3, hB1⟩
  have K3 := below_only K2 g3 hpw (Nat.le_refl _)
  have q3 := q2.grown g3 (fun e => by injection e; omega)
  clear q2
  have HB1 := Lib.hid hB1
  clear hB1
  go_wp2_with fail
  refine (get_any p _ _ HB1.out ok1 _ (by rw [F7.out]; omega) (by omega)).mono ?_
  rw [H2.out, s1]
  rintro e w4 ⟨rfl, g4, hB2⟩
  have K4 := below_only K3 g4 hpw (Nat.le_refl _)
  have q4 := q3.grown g4 (fun e => by injection e; omega)
  clear q3
  obtain ⟨c0, c1, c2, c3, cf, hlt4⟩ := kd_facts q4
  have HB2 := Lib.hid hB2
  have Q4 := Lib.hid q4
  clear hB2 q4
  go_wp2_with fail
  refine (close_any p _ _ HB2.out ok2 _ (by rw [N2.out]; omega) (by omega) S2.out e3').mono ?_
  rw [H4.out]
  rintro e w5 ⟨rfl, g5, hB3⟩
  have K5 := below_only K4 g5 hpw (Nat.le_refl _)
  have q5 := Q4.out.grown g5 (fun e => by injection e; omega)
  clear Q4 c0 c1 c2 c3 cf
  have HB3 := Lib.hid hB3
  clear hB3
  go_wp2_with fail
  refine (get_any p _ _ HB3.out ok3 _ (by rw [N3.out]; omega) (by omega)).mono ?_
  rw [S4.out]
  rintro e w6 ⟨rfl, g6, hB4⟩
  have K6 := below_only K5 g6 hpw (Nat.le_refl _)
  have q6 := q5.grown g6 (fun e => by injection e; omega)
  clear q5
  obtain ⟨c0, c1, c2, c3, cf, hlt6⟩ := kd_facts q6
  clear hB4 q6
  by_cases hm : c ≤ m
  · rw [if_pos hm]
    go_wp2_with fail
    go_ret
    exact ⟨rfl, K6⟩
  · rw [if_neg hm]
    go_wp2_with fail
    go_ret
    exact ⟨ret_bool (by simp; omega), K6⟩
end Go.Proofs.Ytkmhemcnpbhdfaa
