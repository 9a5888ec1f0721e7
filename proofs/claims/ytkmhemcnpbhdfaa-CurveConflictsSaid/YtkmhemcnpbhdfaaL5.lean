/- CurveConflicts: the plain law and the walk. -/
import Derived.Test.YtkmhemcnpbhdfaaKA
namespace Go.Proofs.Ytkmhemcnpbhdfaa
open Go.ChangeShapes Go.WideShapes Go.ChangeAt Go.RowKit
set_option linter.unusedVariables false
attribute [local go_sem ↓] execOp_call_val
attribute [local go_sem] callVal_func setCell_drewN alloc_drewN


theorem boxes5 (w : World) (va vb vc vd ve : Value) (t1 t2 t3 t4 t5 : TypeId) :
    Below w.heap.size w (((((w.alloc (.cells #[va] t1)).alloc (.cells #[vb] t2)).alloc (.cells #[vc] t3)).alloc (.cells #[vd] t4)).alloc (.cells #[ve] t5)) ∧ Blk (((((w.alloc (.cells #[va] t1)).alloc (.cells #[vb] t2)).alloc (.cells #[vc] t3)).alloc (.cells #[vd] t4)).alloc (.cells #[ve] t5)) w.heap.size t1 #[va] ∧ Blk (((((w.alloc (.cells #[va] t1)).alloc (.cells #[vb] t2)).alloc (.cells #[vc] t3)).alloc (.cells #[vd] t4)).alloc (.cells #[ve] t5)) (w.heap.size + 1) t2 #[vb] ∧ Blk (((((w.alloc (.cells #[va] t1)).alloc (.cells #[vb] t2)).alloc (.cells #[vc] t3)).alloc (.cells #[vd] t4)).alloc (.cells #[ve] t5)) (w.heap.size + 1 + 1) t3 #[vc] ∧
    Blk (((((w.alloc (.cells #[va] t1)).alloc (.cells #[vb] t2)).alloc (.cells #[vc] t3)).alloc (.cells #[vd] t4)).alloc (.cells #[ve] t5)) (w.heap.size + 1 + 1 + 1) t4 #[vd] ∧ Blk (((((w.alloc (.cells #[va] t1)).alloc (.cells #[vb] t2)).alloc (.cells #[vc] t3)).alloc (.cells #[vd] t4)).alloc (.cells #[ve] t5)) (w.heap.size + 1 + 1 + 1 + 1) t5 #[ve] :=
  ⟨(((((Below.refl _ _).alloc (Nat.le_refl _) _).alloc (by simp) _).alloc (by simp; omega) _).alloc (by simp; omega) _).alloc (by simp; omega) _, ((((Blk.new w t1 _).alloc _).alloc _).alloc _).alloc _, (((Blk.new_ (by simp)).alloc _).alloc _).alloc _, ((Blk.new_ (by simp)).alloc _).alloc _, (Blk.new_ (by simp)).alloc _, Blk.new_ (by simp)⟩

theorem ckGo_vals : ∀ {ps : List (Int × Int)} {o : Option (Int × Int)}, ckGo o ps = 0 ∨ ckGo o ps = 3 ∨ ckGo o ps = 4
  | [], _ => .inl rfl
  | p :: r, o => by
    unfold ckGo
    split
    · exact .inr (.inr rfl)
    · split
      · exact ckGo_vals
      · split
        · exact .inr (.inl rfl)
        · exact ckGo_vals
theorem ckC_vals (ps : List (Int × Int)) : ckC ps = 0 ∨ ckC ps = 2 ∨ ckC ps = 3 ∨ ckC ps = 4 := by
  unfold ckC
  split
  · exact .inr (.inl rfl)
  · split
    · exact .inr (.inr (.inl rfl))
    · rcases ckGo_vals (ps := ps) (o := none) with h | h | h
      · exact .inl h
      · exact .inr (.inr (.inl h))
      · exact .inr (.inr (.inr h))

theorem conGo_spec (f : Int → Bool) : ∀ (m : Nat) (n : Int), ((conGo f n m).2 = 0 ∨ (conGo f n m = (0, 8))) ∧
    ((conGo f n m).2 = 0 → n ≤ (conGo f n m).1 ∧ (conGo f n m).1 < n + m ∧ f (conGo f n m).1 = true ∧ ∀ j, n ≤ j → j < (conGo f n m).1 → f j = false) ∧ ((conGo f n m).2 = 8 → ∀ j, n ≤ j → j < n + m → f j = false)
  | 0, n => ⟨.inr rfl, fun h => by simp [conGo] at h, fun _ j h1 h2 => by simp at h2; omega⟩
  | m + 1, n => by
    unfold conGo
    by_cases hf : f n = true
    · simp only [hf, if_true]
      exact ⟨.inl trivial, fun _ => ⟨Int.le_refl _, by omega, trivial, fun j h1 h2 => by omega⟩, fun h => by omega⟩
    · have hf' : f n = false := by simpa using hf
      simp only [hf', Bool.false_eq_true, if_false]
      obtain ⟨h1, h2, h3⟩ := conGo_spec f m (n + 1)
      refine ⟨h1, fun h => ?_, fun h j j1 j2 => ?_⟩
      · obtain ⟨a1, a2, a3, a4⟩ := h2 h
        refine ⟨by omega, by omega, a3, fun j j1 j2 => ?_⟩
        by_cases hj : j = n
        · subst hj; exact hf'
        · exact a4 j (by omega) j2
      · by_cases hj : j = n
        · subst hj; exact hf'
        · exact h3 h j (by omega) (by omega)

structure ConOk (a : List (Int × Int)) (pa : Int) (b : List (Int × Int)) (pb margin low high : Int) : Prop where
  ga : Good a
  gb : Good b
  a1 : 1 ≤ pa
  a2 : pa ≤ 1000000
  b1 : 1 ≤ pb
  b2 : pb ≤ 1000000
  m1 : 0 ≤ margin
  m2 : margin ≤ 3600000
  l0 : 0 ≤ low
  h0 : high ≤ 1000000
  lh : low ≤ high
  hl : high - low ≤ 20000

theorem con_spec {a b : List (Int × Int)} {pa pb margin low high k e : Int} (h : conC a pa b pb margin low high = (k, e)) :
    (e ≠ 0 → k = 0) ∧ (e = 0 → ConOk a pa b pb margin low high ∧ low ≤ k ∧ k ≤ high ∧ wrongC a pa b pb margin k = true ∧ ∀ j, low ≤ j → j < k → wrongC a pa b pb margin j = false) ∧
    (e = 8 → ConOk a pa b pb margin low high ∧ ∀ j, low ≤ j → j ≤ high → wrongC a pa b pb margin j = false) := by
  unfold conC at h
  split at h
  · rename_i hc
    simp only [Prod.mk.injEq] at h
    have := ckC_vals a
    exact ⟨fun _ => h.1.symm, fun he => by omega, fun he => by omega⟩
  · rename_i hca
    split at h
    · rename_i hc
      simp only [Prod.mk.injEq] at h
      have := ckC_vals b
      exact ⟨fun _ => h.1.symm, fun he => by omega, fun he => by omega⟩
    · rename_i hcb
      split at h
      · simp only [Prod.mk.injEq] at h
        exact ⟨fun _ => h.1.symm, fun he => by omega, fun he => by omega⟩
      · rename_i ho
        split at h
        · simp only [Prod.mk.injEq] at h
          exact ⟨fun _ => h.1.symm, fun he => by omega, fun he => by omega⟩
        · rename_i hw
          simp [outN] at ho
          have hok : ConOk a pa b pb margin low high := ⟨ckC_good.1 (by simpa using hca), ckC_good.1 (by simpa using hcb), by omega, by omega, by omega, by omega, by omega, by omega, by omega, by omega, by omega, by omega⟩
          obtain ⟨s1, s2, s3⟩ := conGo_spec (wrongC a pa b pb margin) (high + 1 - low).toNat low
          rw [h] at s1 s2 s3
          refine ⟨fun he => ?_, fun he => ?_, fun he => ⟨hok, fun j j1 j2 => s3 he j j1 (by omega)⟩⟩
          · rcases s1 with s1 | s1
            · exact absurd s1 he
            · simp only [Prod.mk.injEq] at s1; exact s1.1
          · obtain ⟨a1, a2, a3, a4⟩ := s2 he
            exact ⟨hok, a1, by dsimp only at a2; omega, a3, a4⟩

theorem timeC_range {ps : List (Int × Int)} {pk cur : Int} (hg : Good ps) (h1 : 1 ≤ pk) (h2 : pk ≤ 1000000) (h3 : 0 ≤ cur) (h4 : cur ≤ 1000000) : timeC ps pk cur = match tmC pk cur ps with | none => (0, 8) | some t => (t, 0) := by
  unfold timeC
  rw [if_neg (by rw [ckC_good.2 hg]; simp), if_neg (by unfold outN; simp; omega)]
  cases tmC pk cur ps <;> rfl

theorem enter34 (args : Array Value) (w : World) : (callFunc 34 args).run Try.prog w = .ok (.enter 34 args) w :=
  callFunc_enter Try.func34 (by kernel_rfl) rfl args w

set_option maxHeartbeats 1000000 in
theorem wrong_any (A : Option Addr) (n c : Nat) (a : List (Int × Int)) (pa : Int) (B : Option Addr) (n2 c2 : Nat) (b : List (Int × Int)) (pb margin low high cur : Int) (w : World) (g1 g2 g3 g4 g5 : Nat)
    (q1 : Blk w g1 49 #[.slice A n c]) (q2 : Blk w g2 3 #[.int .i64 pa]) (q3 : Blk w g3 49 #[.slice B n2 c2]) (q4 : Blk w g4 3 #[.int .i64 pb]) (q5 : Blk w g5 3 #[.int .i64 margin])
    (ha : RdP w w.heap.size A n a) (hb : RdP w w.heap.size B n2 b) (hm : n ≤ 9223372036854775807) (hm2 : n2 ≤ 9223372036854775807) (ok : ConOk a pa b pb margin low high) (u0 : 0 ≤ cur) (u1 : cur ≤ 1000000) :
    Calls Try.prog 34 #[.int .i64 cur, .pointer (some ⟨g1, 0, none⟩), .pointer (some ⟨g2, 0, none⟩), .pointer (some ⟨g3, 0, none⟩), .pointer (some ⟨g4, 0, none⟩), .pointer (some ⟨g5, 0, none⟩)] w fun e w' => e = .returned (.bool (wrongC a pa b pb margin cur)) ∧ Below w.heap.size w w' := by
  obtain ⟨c1, f1, l1⟩ := one_facts q1
  obtain ⟨c2', f2, l2⟩ := one_facts q2
  obtain ⟨d1, d2, d3⟩ := one_facts q3
  obtain ⟨e1, e2, e3⟩ := one_facts q4
  have hta := timeC_range (cur := cur) ok.ga ok.a1 ok.a2 u0 u1
  have htb := timeC_range (cur := cur) ok.gb ok.b1 ok.b2 u0 u1
  have hm1 := ok.m1
  have hm3 := ok.m2
  have Q3 := Lib.hid q3
  have Q4 := Lib.hid q4
  have Q5 := Lib.hid q5
  clear q1 q2 q3 q4 q5
  have HW : Hid (wrongC a pa b pb margin cur = match tmC pb cur b with | none => false | some u => match tmC pa cur a with | none => true | some t => decide (u < t + margin)) := Lib.hid (by unfold wrongC; cases tmC pb cur b <;> rfl)
  cases hA : tmC pa cur a with
  | none =>
    rw [hA] at hta HW
    cases hB : tmC pb cur b with
    | none =>
      rw [hB] at htb HW
      have HTA := Lib.hid hta
      have HTB := Lib.hid htb
      clear hta htb hA hB
      go_enter Try.func34, Try.ntmps34
      go_wp2_with fail
      refine (time_any _ _ _ _ _ _ _ ha hm).mono ?_
      rw [HTA.out]
      rintro e w1 ⟨rfl, k1⟩
      have r3 := Q3.out.below k1 Q3.out.lt
      have r4 := Q4.out.below k1 Q4.out.lt
      obtain ⟨x1, x2, x3⟩ := one_facts r3
      obtain ⟨y1, y2, y3⟩ := one_facts r4
      clear r3 r4
      go_wp2_with fail
      refine (time_any _ _ _ _ _ _ _ ((hb.below k1 (Nat.le_refl _)).more k1.size) hm2).mono ?_
      rw [HTB.out]
      rintro e w2 ⟨rfl, k2⟩
      have K2 := k1.trans (k2.mono k1.size)
      go_wp2_with fail
      go_ret
      exact ⟨ret_bool (by rw [HW.out]), K2⟩
    | some u =>
      rw [hB] at htb HW
      have hub := tmC_bd ok.gb ok.b1 hB
      have HTA := Lib.hid hta
      have HTB := Lib.hid htb
      clear hta htb hA hB
      go_enter Try.func34, Try.ntmps34
      go_wp2_with fail
      refine (time_any _ _ _ _ _ _ _ ha hm).mono ?_
      rw [HTA.out]
      rintro e w1 ⟨rfl, k1⟩
      have r3 := Q3.out.below k1 Q3.out.lt
      have r4 := Q4.out.below k1 Q4.out.lt
      obtain ⟨x1, x2, x3⟩ := one_facts r3
      obtain ⟨y1, y2, y3⟩ := one_facts r4
      clear r3 r4
      go_wp2_with fail
      refine (time_any _ _ _ _ _ _ _ ((hb.below k1 (Nat.le_refl _)).more k1.size) hm2).mono ?_
      rw [HTB.out]
      rintro e w2 ⟨rfl, k2⟩
      have K2 := k1.trans (k2.mono k1.size)
      go_wp2_with fail
      go_ret
      exact ⟨ret_bool (by rw [HW.out]), K2⟩
  | some t =>
    rw [hA] at hta HW
    have htt := tmC_bd ok.ga ok.a1 hA
    obtain ⟨tt1, tt2⟩ := htt
    cases hB : tmC pb cur b with
    | none =>
      rw [hB] at htb HW
      have HTA := Lib.hid hta
      have HTB := Lib.hid htb
      clear hta htb hA hB
      go_enter Try.func34, Try.ntmps34
      go_wp2_with fail
      refine (time_any _ _ _ _ _ _ _ ha hm).mono ?_
      rw [HTA.out]
      rintro e w1 ⟨rfl, k1⟩
      have r3 := Q3.out.below k1 Q3.out.lt
      have r4 := Q4.out.below k1 Q4.out.lt
      obtain ⟨x1, x2, x3⟩ := one_facts r3
      obtain ⟨y1, y2, y3⟩ := one_facts r4
      clear r3 r4
      go_wp2_with fail
      refine (time_any _ _ _ _ _ _ _ ((hb.below k1 (Nat.le_refl _)).more k1.size) hm2).mono ?_
      rw [HTB.out]
      rintro e w2 ⟨rfl, k2⟩
      have K2 := k1.trans (k2.mono k1.size)
      go_wp2_with fail
      go_ret
      exact ⟨ret_bool (by rw [HW.out]), K2⟩
    | some u =>
      rw [hB] at htb HW
      have hub := tmC_bd ok.gb ok.b1 hB
      obtain ⟨uu1, uu2⟩ := hub
      have HTA := Lib.hid hta
      have HTB := Lib.hid htb
      clear hta htb hA hB
      go_enter Try.func34, Try.ntmps34
      go_wp2_with fail
      refine (time_any _ _ _ _ _ _ _ ha hm).mono ?_
      rw [HTA.out]
      rintro e w1 ⟨rfl, k1⟩
      have r3 := Q3.out.below k1 Q3.out.lt
      have r4 := Q4.out.below k1 Q4.out.lt
      obtain ⟨x1, x2, x3⟩ := one_facts r3
      obtain ⟨y1, y2, y3⟩ := one_facts r4
      clear r3 r4
      go_wp2_with fail
      refine (time_any _ _ _ _ _ _ _ ((hb.below k1 (Nat.le_refl _)).more k1.size) hm2).mono ?_
      rw [HTB.out]
      rintro e w2 ⟨rfl, k2⟩
      have K2 := k1.trans (k2.mono k1.size)
      have r5 := Q5.out.below K2 Q5.out.lt
      obtain ⟨z1, z2, z3⟩ := one_facts r5
      clear r5
      go_wp2_with fail
      go_ret
      exact ⟨ret_bool (by rw [HW.out]), K2⟩

/-- the boxes of the five captured variables, read in a later world -/
structure Caps (w : World) (g : Nat) (A : Option Addr) (n c : Nat) (pa : Int) (B : Option Addr) (n2 c2 : Nat) (pb margin : Int) : Prop where
  q1 : Blk w g 49 #[.slice A n c]
  q2 : Blk w (g + 1) 3 #[.int .i64 pa]
  q3 : Blk w (g + 1 + 1) 49 #[.slice B n2 c2]
  q4 : Blk w (g + 1 + 1 + 1) 3 #[.int .i64 pb]
  q5 : Blk w (g + 1 + 1 + 1 + 1) 3 #[.int .i64 margin]
theorem Caps.below {w w' : World} {g : Nat} {A : Option Addr} {n c : Nat} {pa : Int} {B : Option Addr} {n2 c2 : Nat} {pb margin : Int} (h : Caps w g A n c pa B n2 c2 pb margin) (hb : Below w.heap.size w w') : Caps w' g A n c pa B n2 c2 pb margin :=
  ⟨h.q1.below hb h.q1.lt, h.q2.below hb h.q2.lt, h.q3.below hb h.q3.lt, h.q4.below hb h.q4.lt, h.q5.below hb h.q5.lt⟩
theorem Caps.facts {w : World} {g : Nat} {A : Option Addr} {n c : Nat} {pa : Int} {B : Option Addr} {n2 c2 : Nat} {pb margin : Int} (h : Caps w g A n c pa B n2 c2 pb margin) :
    w.cell? ⟨g, 0, none⟩ = some (.slice A n c) ∧ w.cell? ⟨g + 1, 0, none⟩ = some (.int .i64 pa) ∧ w.cell? ⟨g + 1 + 1, 0, none⟩ = some (.slice B n2 c2) ∧ w.cell? ⟨g + 1 + 1 + 1, 0, none⟩ = some (.int .i64 pb) ∧ w.cell? ⟨g + 1 + 1 + 1 + 1, 0, none⟩ = some (.int .i64 margin) :=
  ⟨h.q1.cell 0, h.q2.cell 0, h.q3.cell 0, h.q4.cell 0, h.q5.cell 0⟩

theorem at_range {low high at_ : Int} (h0 : 0 ≤ low) (h1 : low ≤ high) (h2 : high ≤ 1000000) (h3 : -(high - low + 1) < at_.tmod (high - low + 1)) (h4 : at_.tmod (high - low + 1) < high - low + 1) :
    low ≤ low + (at_.tmod (high - low + 1) + high - low + 1) % (high - low + 1) ∧ low + (at_.tmod (high - low + 1) + high - low + 1) % (high - low + 1) ≤ high := by
  have e1 := Int.emod_nonneg (at_.tmod (high - low + 1) + high - low + 1) (show high - low + 1 ≠ 0 by omega)
  have e2 := Int.emod_lt_of_pos (at_.tmod (high - low + 1) + high - low + 1) (show 0 < high - low + 1 by omega)
  omega

set_option maxHeartbeats 4000000 in
theorem conflicts_any (A : Option Addr) (n c : Nat) (a : List (Int × Int)) (pa : Int) (B : Option Addr) (n2 c2 : Nat) (b : List (Int × Int)) (pb margin low high at_ : Int) (w : World)
    (ha : RdP w w.heap.size A n a) (hm : n ≤ 9223372036854775807) (hb : RdP w w.heap.size B n2 b) (hm2 : n2 ≤ 9223372036854775807) :
    Calls Try.prog 12 #[.slice A n c, .int .i64 pa, .slice B n2 c2, .int .i64 pb, .int .i64 margin, .int .i64 low, .int .i64 high, .int .i64 at_] w fun e w' => e = .returned (.bool true) ∧ Below w.heap.size w w' := by
  obtain ⟨K0, p1, p2, p3, p4, p5⟩ := boxes5 w (.slice A n c) (.int .i64 pa) (.slice B n2 c2) (.int .i64 pb) (.int .i64 margin) 49 3 49 3 3
  have C0 : Hid (Caps _ w.heap.size A n c pa B n2 c2 pb margin) := Lib.hid ⟨p1, p2, p3, p4, p5⟩
  have HK0 := Lib.hid K0
  clear K0 p1 p2 p3 p4 p5
  go_enter Try.func12, Try.ntmps12
  go_wp2_with fail
  refine (cworks_any _).mono ?_
  rintro e w1 ⟨rfl, k1⟩
  have K1 := HK0.out.trans (k1.mono HK0.out.size)
  have C1 := Lib.hid (C0.out.below k1)
  clear k1 C0 HK0
  obtain ⟨x1, x2, x3, x4, x5⟩ := C1.out.facts
  go_wp2_with fail
  refine (con_any _ _ _ _ _ _ _ _ _ _ _ _ _ _ ((ha.below K1 (Nat.le_refl _)).more K1.size) ((hb.below K1 (Nat.le_refl _)).more K1.size) hm hm2).mono ?_
  obtain ⟨k, e, hke⟩ : ∃ k e, conC a pa b pb margin low high = (k, e) := ⟨_, _, rfl⟩
  rw [hke]
  obtain ⟨s1, s2, s3⟩ := con_spec hke
  rintro e' w2 ⟨rfl, k2⟩
  have K2 := K1.trans (k2.mono K1.size)
  have C2 := Lib.hid (C1.out.below k2)
  have S1 := Lib.hid s1
  have S2 := Lib.hid s2
  have S3 := Lib.hid s3
  have HKE := Lib.hid hke
  clear C1 x1 x2 x3 x4 x5 s1 s2 s3 hke k2
  have key : ∀ (cur : Int) (w' : World), Below w2.heap.size w2 w' → ConOk a pa b pb margin low high → 0 ≤ cur → cur ≤ 1000000 →
      Calls Try.prog 34 #[.int .i64 cur, .pointer (some ⟨w.heap.size, 0, none⟩), .pointer (some ⟨w.heap.size + 1, 0, none⟩), .pointer (some ⟨w.heap.size + 1 + 1, 0, none⟩), .pointer (some ⟨w.heap.size + 1 + 1 + 1, 0, none⟩), .pointer (some ⟨w.heap.size + 1 + 1 + 1 + 1, 0, none⟩)] w' fun e w'' => e = .returned (.bool (wrongC a pa b pb margin cur)) ∧ Below w'.heap.size w' w'' := by
    intro cur w' hb' ok u0 u1
    have C := C2.out.below hb'
    have K' := K2.trans (hb'.mono K2.size)
    exact wrong_any A n c a pa B n2 c2 b pb margin low high cur w' _ _ _ _ _ C.q1 C.q2 C.q3 C.q4 C.q5 ((ha.below K' (Nat.le_refl _)).more K'.size) ((hb.below K' (Nat.le_refl _)).more K'.size) hm hm2 ok u0 u1
  have KEY := Lib.hid key
  clear key
  by_cases he : e = 0
  · subst he
    obtain ⟨ok, hk1, hk2, hk3, hk4⟩ := S2.out rfl
    obtain ⟨_, _, _, _, _, _, m1, m2, l0, h0, lh, hl⟩ := ok
    have ok : Hid (ConOk a pa b pb margin low high) := Lib.hid (S2.out rfl).1
    have HK3 := Lib.hid hk3
    have HK4 := Lib.hid hk4
    clear S1 S2 S3 hk3 hk4
    go_wp2_with fail
    refine (KEY.out k w2 (Below.refl _ _) ok.out (by omega) (by omega)).mono ?_
    rw [HK3.out]
    rintro e w3 ⟨rfl, k3⟩
    have K3 := K2.trans (k3.mono K2.size)
    obtain ⟨t1, t2⟩ := tmodB at_ (high - low + 1) (by omega)
    obtain ⟨r1, r2⟩ := at_range l0 lh h0 t1 t2
    obtain ⟨q, hq⟩ : ∃ q, (at_.tmod (high - low + 1) + high - low + 1) % (high - low + 1) = q := ⟨_, rfl⟩
    rw [hq] at r1 r2
    go_wp2_with fail
    refine (KEY.out (low + q) w3 k3 ok.out (by omega) (by omega)).mono ?_
    by_cases hlt : low + q < k
    · rw [HK4.out _ r1 hlt]
      rintro e w4 ⟨rfl, k4⟩
      have K4 := K3.trans (k4.mono K3.size)
      go_wp2_with fail
      go_ret
      exact ⟨rfl, K4⟩
    · have hge : k ≤ low + q := by omega
      rintro e w4 ⟨rfl, k4⟩
      have K4 := K3.trans (k4.mono K3.size)
      cases hwq : wrongC a pa b pb margin (low + q) with
      | true =>
        go_wp2_with fail
        go_ret
        exact ⟨ret_bool (by simp <;> omega), K4⟩
      | false =>
        go_wp2_with fail
        go_ret
        exact ⟨rfl, K4⟩
  · have he1 : (e != 0) = true := by simpa using he
    have he2 : (e == 0) = false := by simpa using he
    have hk := S1.out he
    subst hk
    by_cases he8 : e = 8
    · subst he8
      obtain ⟨ok, hk4⟩ := S3.out rfl
      obtain ⟨_, _, _, _, _, _, m1, m2, l0, h0, lh, hl⟩ := ok
      have ok : Hid (ConOk a pa b pb margin low high) := Lib.hid (S3.out rfl).1
      have HK4 := Lib.hid hk4
      clear S1 S2 S3 hk4 he he1 he2
      obtain ⟨t1, t2⟩ := tmodB at_ (high - low + 1) (by omega)
      obtain ⟨r1, r2⟩ := at_range l0 lh h0 t1 t2
      obtain ⟨q, hq⟩ : ∃ q, (at_.tmod (high - low + 1) + high - low + 1) % (high - low + 1) = q := ⟨_, rfl⟩
      rw [hq] at r1 r2
      go_wp2_with fail
      refine (KEY.out (low + q) w2 (Below.refl _ _) ok.out (by omega) (by omega)).mono ?_
      rw [HK4.out _ r1 r2]
      rintro e w4 ⟨rfl, k4⟩
      have K4 := K2.trans (k4.mono K2.size)
      go_wp2_with fail
      go_ret
      exact ⟨rfl, K4⟩
    · have he3 : (e != 8) = true := by simpa using he8
      clear he he8 S1 S2 S3
      go_wp2_with fail
      go_ret
      exact ⟨rfl, K2⟩
end Go.Proofs.Ytkmhemcnpbhdfaa
