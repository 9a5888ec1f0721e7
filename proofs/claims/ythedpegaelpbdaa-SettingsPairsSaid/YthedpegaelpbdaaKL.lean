/- Plain laws of Scale and Conflict. -/
import Derived.Test.YthedpegaelpbdaaK9
import Derived.Test.YthedpegaelpbdaaK8
namespace Go.Proofs.Ythedpegaelpbdaa
open Go.ChangeShapes Go.WideShapes Go.ChangeAt Go.RowKit
set_option linter.unusedVariables false
attribute [local go_sem ↓] execOp_call_val
attribute [local go_sem] callVal_func setCell_drewN alloc_drewN

theorem ckGo_vals : ∀ {ps : List (Int × Int)} {o : Option (Int × Int)}, ckGo o ps = 0 ∨ ckGo o ps = 3 ∨ ckGo o ps = 4
  | [], _ => .inl rfl
  | p :: r, o => by
    unfold ckGo
    split
    · exact .inr (.inr rfl)
    · split
      · exact ckGo_vals
      · split
        · exact .inr (.inl rfl)
        · exact ckGo_vals
theorem ckC_vals (ps : List (Int × Int)) : ckC ps = 0 ∨ ckC ps = 2 ∨ ckC ps = 3 ∨ ckC ps = 4 := by
  unfold ckC
  split
  · exact .inr (.inl rfl)
  · split
    · exact .inr (.inr (.inl rfl))
    · rcases ckGo_vals (ps := ps) (o := none) with h | h | h
      · exact .inl h
      · exact .inr (.inr (.inl h))
      · exact .inr (.inr (.inr h))

theorem conGo_spec (f : Int → Bool) : ∀ (m : Nat) (n : Int), ((conGo f n m).2 = 0 ∨ (conGo f n m = (0, 8))) ∧
    ((conGo f n m).2 = 0 → n ≤ (conGo f n m).1 ∧ (conGo f n m).1 < n + m ∧ f (conGo f n m).1 = true ∧ ∀ j, n ≤ j → j < (conGo f n m).1 → f j = false) ∧ ((conGo f n m).2 = 8 → ∀ j, n ≤ j → j < n + m → f j = false)
  | 0, n => ⟨.inr rfl, fun h => by simp [conGo] at h, fun _ j h1 h2 => by simp at h2; omega⟩
  | m + 1, n => by
    unfold conGo
    by_cases hf : f n = true
    · simp only [hf, if_true]
      exact ⟨.inl trivial, fun _ => ⟨Int.le_refl _, by omega, trivial, fun j h1 h2 => by omega⟩, fun h => by omega⟩
    · have hf' : f n = false := by simpa using hf
      simp only [hf', Bool.false_eq_true, if_false]
      obtain ⟨h1, h2, h3⟩ := conGo_spec f m (n + 1)
      refine ⟨h1, fun h => ?_, fun h j j1 j2 => ?_⟩
      · obtain ⟨a1, a2, a3, a4⟩ := h2 h
        refine ⟨by omega, by omega, a3, fun j j1 j2 => ?_⟩
        by_cases hj : j = n
        · subst hj; exact hf'
        · exact a4 j (by omega) j2
      · by_cases hj : j = n
        · subst hj; exact hf'
        · exact h3 h j (by omega) (by omega)

structure ConOk (a : List (Int × Int)) (pa : Int) (b : List (Int × Int)) (pb margin low high : Int) : Prop where
  ga : Good a
  gb : Good b
  a1 : 1 ≤ pa
  a2 : pa ≤ 1000000
  b1 : 1 ≤ pb
  b2 : pb ≤ 1000000
  m1 : 0 ≤ margin
  m2 : margin ≤ 3600000
  l0 : 0 ≤ low
  h0 : high ≤ 1000000
  lh : low ≤ high
  hl : high - low ≤ 20000

theorem con_spec {a b : List (Int × Int)} {pa pb margin low high k e : Int} (h : conC a pa b pb margin low high = (k, e)) :
    (e ≠ 0 → k = 0) ∧ (e = 0 → ConOk a pa b pb margin low high ∧ low ≤ k ∧ k ≤ high ∧ wrongC a pa b pb margin k = true ∧ ∀ j, low ≤ j → j < k → wrongC a pa b pb margin j = false) ∧
    (e = 8 → ConOk a pa b pb margin low high ∧ ∀ j, low ≤ j → j ≤ high → wrongC a pa b pb margin j = false) := by
  unfold conC at h
  split at h
  · rename_i hc
    simp only [Prod.mk.injEq] at h
    have := ckC_vals a
    exact ⟨fun _ => h.1.symm, fun he => by omega, fun he => by omega⟩
  · rename_i hca
    split at h
    · rename_i hc
      simp only [Prod.mk.injEq] at h
      have := ckC_vals b
      exact ⟨fun _ => h.1.symm, fun he => by omega, fun he => by omega⟩
    · rename_i hcb
      split at h
      · simp only [Prod.mk.injEq] at h
        exact ⟨fun _ => h.1.symm, fun he => by omega, fun he => by omega⟩
      · rename_i ho
        split at h
        · simp only [Prod.mk.injEq] at h
          exact ⟨fun _ => h.1.symm, fun he => by omega, fun he => by omega⟩
        · rename_i hw
          simp [outN] at ho
          have hok : ConOk a pa b pb margin low high := ⟨ckC_good.1 (by simpa using hca), ckC_good.1 (by simpa using hcb), by omega, by omega, by omega, by omega, by omega, by omega, by omega, by omega, by omega, by omega⟩
          obtain ⟨s1, s2, s3⟩ := conGo_spec (wrongC a pa b pb margin) (high + 1 - low).toNat low
          rw [h] at s1 s2 s3
          refine ⟨fun he => ?_, fun he => ?_, fun he => ⟨hok, fun j j1 j2 => s3 he j j1 (by omega)⟩⟩
          · rcases s1 with s1 | s1
            · exact absurd s1 he
            · simp only [Prod.mk.injEq] at s1; exact s1.1
          · obtain ⟨a1, a2, a3, a4⟩ := s2 he
            exact ⟨hok, a1, by dsimp only at a2; omega, a3, a4⟩

theorem mid_time {pk x : Int} {m1 m2 s1 s2 t1 t2 : Int} (h1 : m1 < m2) (hs : s1 ≤ t1) (hs2 : s2 ≤ t2) (hp : 1 ≤ pk) (hx : m1 * pk ≤ x) (hy : x ≤ m2 * pk) :
    mid pk x (m1, s1) (m2, s2) ≤ mid pk x (m1, t1) (m2, t2) := by
  have hD : 0 < pk * (m2 - m1) := Int.mul_pos (by omega) (by omega)
  have hDe : pk * (m2 - m1) = m2 * pk - m1 * pk := by rw [Int.mul_sub, Int.mul_comm pk, Int.mul_comm pk]
  have hN1 : 0 ≤ x - m1 * pk := by omega
  have hN2 : x - m1 * pk ≤ pk * (m2 - m1) := by omega
  unfold mid
  dsimp only
  generalize x - m1 * pk = N at *
  generalize pk * (m2 - m1) = D at *
  have h2 : (t1 - t2) * N ≤ (s1 - s2) * N + (t1 - s1) * D := by
    have e1 : (t1 - t2) * N = (s1 - s2) * N + ((t1 - s1) - (t2 - s2)) * N := by rw [← Int.add_mul]; congr 1; omega
    have e2 : ((t1 - s1) - (t2 - s2)) * N ≤ (t1 - s1) * N := Int.mul_le_mul_of_nonneg_right (by omega) hN1
    have e3 : (t1 - s1) * N ≤ (t1 - s1) * D := Int.mul_le_mul_of_nonneg_left hN2 (by omega)
    omega
  have h3 := Int.ediv_le_ediv hD h2
  rw [Int.add_mul_ediv_right _ _ (by omega)] at h3
  omega

/-- the same multiples, and times that are no less -/
def Under : List (Int × Int) → List (Int × Int) → Prop
  | [], [] => True
  | p :: r, q :: s => p.1 = q.1 ∧ p.2 ≤ q.2 ∧ Under r s
  | _, _ => False

theorem tmGo_under {pk x : Int} (hp : 1 ≤ pk) : ∀ {r s : List (Int × Int)} {a b : Int × Int}, Chain a r → Chain b s → Under (a :: r) (b :: s) → a.1 * pk ≤ x → tmGo pk x a r ≤ tmGo pk x b s
  | [], [], a, b, _, _, hu, _ => hu.2.1
  | [], _ :: _, a, b, _, _, hu, _ => by have := hu.2.2; simp [Under] at this
  | _ :: _, [], a, b, _, _, hu, _ => by have := hu.2.2; simp [Under] at this
  | a2 :: r, b2 :: s, a, b, hc, hd, hu, hx => by
    obtain ⟨u1, u2, u3, u4, u5⟩ := hu
    simp only [tmGo]
    rw [← u3]
    by_cases hle : x ≤ a2.1 * pk
    · rw [if_pos hle, if_pos hle]
      have := mid_time (pk := pk) (x := x) (m1 := a.1) (m2 := a2.1) (s1 := a.2) (s2 := a2.2) (t1 := b.2) (t2 := b2.2) hc.1 u2 u4 hp hx hle
      rw [show mid pk x b b2 = mid pk x (a.1, b.2) (a2.1, b2.2) from by unfold mid; rw [u1, u3]]
      exact this
    · rw [if_neg hle, if_neg hle]
      exact tmGo_under hp hc.2.2.2.2.2.2 hd.2.2.2.2.2.2 ⟨u3, u4, u5⟩ (by omega)

theorem timeC_good {ps : List (Int × Int)} {pk cur : Int} (hg : Good ps) : timeC ps pk cur = if (outN pk 1 1000000 || outN cur 0 1000000) = true then ((0 : Int), (4 : Int)) else (match tmC pk cur ps with | none => ((0 : Int), (8 : Int)) | some t => (t, 0)) := by
  unfold timeC
  rw [if_neg (by rw [ckC_good.2 hg]; simp)]
  split
  · rfl
  · cases tmC pk cur ps <;> rfl

theorem time_under {ps qs : List (Int × Int)} {pk cur : Int} (hg : Good ps) (hg2 : Good qs) (hu : Under ps qs) : (timeC ps pk cur).2 = (timeC qs pk cur).2 ∧ (timeC ps pk cur).1 ≤ (timeC qs pk cur).1 := by
  rw [timeC_good hg, timeC_good hg2]
  by_cases ho : (outN pk 1 1000000 || outN cur 0 1000000) = true
  · rw [if_pos ho, if_pos ho]; simp
  · rw [if_neg ho, if_neg ho]
    have hpk : 1 ≤ pk := by simp [outN] at ho; omega
    obtain ⟨a, b, r, rfl, h1, _, _, _, hc, _⟩ := hg
    obtain ⟨a', b', r', rfl, h1', _, _, _, hc', _⟩ := hg2
    have hu1 := hu.1
    simp only [tmC]
    rw [← hu1]
    by_cases hx : 100 * cur < a.1 * pk
    · rw [if_pos hx, if_pos hx]; simp
    · rw [if_neg hx, if_neg hx]
      exact ⟨rfl, tmGo_under hpk hc hc' hu (by omega)⟩

theorem sc_mono {a b t : Int} (hab : a ≤ b) (ht : 0 ≤ t) : (t * a + 999) / 1000 ≤ (t * b + 999) / 1000 :=
  Int.ediv_le_ediv (by omega) (by have := Int.mul_le_mul_of_nonneg_left hab ht; omega)
theorem sc_time {d t u : Int} (htu : t ≤ u) (hd : 0 ≤ d) : (t * d + 999) / 1000 ≤ (u * d + 999) / 1000 :=
  Int.ediv_le_ediv (by omega) (by have := Int.mul_le_mul_of_nonneg_right htu hd; omega)

theorem scGo_chain {d : Int} (hd : 1 ≤ d) : ∀ {r l : List (Int × Int)} {a : Int × Int}, Chain a r → 0 ≤ a.2 → scGo d r = some l → Chain (a.1, (a.2 * d + 999) / 1000) l ∧ l.length = r.length
  | [], l, a, _, _, h => by simp [scGo] at h; subst h; exact ⟨trivial, rfl⟩
  | b :: r, l, a, hc, ha, h => by
    obtain ⟨h1, h2, h3, h4, h5, h6, h7⟩ := hc
    simp only [scGo] at h
    split at h
    · cases h
    · rename_i hle
      cases hr : scGo d r with
      | none => rw [hr] at h; cases h
      | some l' =>
        rw [hr] at h
        simp at h
        subst h
        have hi := scGo_chain hd h7 h5 hr
        refine ⟨⟨h1, sc_time h2 (by omega), h3, h4, ?_, by dsimp only; omega, hi.1⟩, by simp [hi.2]⟩
        have : 0 ≤ b.2 * d := Int.mul_nonneg h5 (by omega)
        dsimp only
        omega

theorem scGo_good {d : Int} (hd : 1 ≤ d) {ps l : List (Int × Int)} (hg : Good ps) (h : scGo d ps = some l) : Good l ∧ l.length = ps.length := by
  obtain ⟨a, b, r, rfl, h1, h2, h3, h4, hc, hl⟩ := hg
  rw [scGo] at h
  split at h
  · cases h
  · rename_i hle
    cases hr : scGo d (b :: r) with
    | none => rw [hr] at h; cases h
    | some l' =>
      rw [hr] at h
      simp at h
      subst h
      have hi := scGo_chain hd hc h3 hr
      match l', hi with
      | [], hi => simp at hi
      | b' :: r', hi =>
        have : 0 ≤ a.2 * d := Int.mul_nonneg h3 (by omega)
        exact ⟨⟨_, b', r', rfl, h1, h2, by dsimp only; omega, by dsimp only; omega, hi.1, by have := hi.2; simp at this; omega⟩, by simpa using hi.2⟩

theorem scGo_under {d e : Int} (hde : d ≤ e) : ∀ {ps l m : List (Int × Int)}, (∀ p ∈ ps, 0 ≤ p.2) → scGo d ps = some l → scGo e ps = some m → Under l m
  | [], l, m, _, h1, h2 => by simp [scGo] at h1 h2; subst h1; subst h2; trivial
  | p :: r, l, m, hn, h1, h2 => by
    simp only [scGo] at h1 h2
    split at h1
    · cases h1
    · split at h2
      · cases h2
      · cases hr1 : scGo d r with
        | none => rw [hr1] at h1; cases h1
        | some l' =>
          cases hr2 : scGo e r with
          | none => rw [hr2] at h2; cases h2
          | some m' =>
            rw [hr1] at h1; rw [hr2] at h2
            simp at h1 h2
            subst h1; subst h2
            exact ⟨rfl, sc_mono hde (hn p (List.mem_cons_self ..)), scGo_under hde (fun q hq => hn q (List.mem_cons_of_mem _ hq)) hr1 hr2⟩

theorem scGo_1000 : ∀ {ps : List (Int × Int)}, (∀ p ∈ ps, 0 ≤ p.2 ∧ p.2 ≤ 3600000) → scGo 1000 ps = some ps
  | [], _ => rfl
  | p :: r, h => by
    have hp := h p (List.mem_cons_self ..)
    have e : (p.2 * 1000 + 999) / 1000 = p.2 := by omega
    rw [scGo, e, if_neg (by omega), scGo_1000 (fun q hq => h q (List.mem_cons_of_mem _ hq))]
    rfl

theorem Good.all {ps : List (Int × Int)} (hg : Good ps) : ∀ p ∈ ps, 0 ≤ p.2 ∧ p.2 ≤ 3600000 := by
  intro p hp
  obtain ⟨i, hi⟩ := List.mem_iff_getElem?.1 hp
  have := hg.get hi
  omega

theorem scale_1000 {ps : List (Int × Int)} (hg : Good ps) : scaleC ps 1000 = (ps, 0) := by
  unfold scaleC
  rw [if_neg (by rw [ckC_good.2 hg]; simp), if_neg (by decide), scGo_1000 hg.all]

theorem scale_bad {ps : List (Int × Int)} (h : ckC ps ≠ 0) (d : Int) : scaleC ps d = ([], ckC ps) := by
  unfold scaleC; rw [if_pos h]

theorem scale_ok {ps : List (Int × Int)} {d : Int} (h : (scaleC ps d).2 = 0) : Good ps ∧ 1 ≤ d ∧ scGo d ps = some (scaleC ps d).1 := by
  unfold scaleC at h ⊢
  split at h
  · rename_i hc; exact absurd h hc
  · rename_i hc
    rw [if_neg hc]
    split at h
    · cases h
    · rename_i ho
      rw [if_neg ho]
      split at h
      · cases h
      · rename_i l hl
        rw [hl]
        exact ⟨ckC_good.1 (by simpa using hc), by simp [outN] at ho; omega, rfl⟩

theorem scales_law {ps : List (Int × Int)} {a b : Int} (hab : a ≤ b) (h1 : (scaleC ps a).2 = 0) (h2 : (scaleC ps b).2 = 0) (pk cur : Int) :
    (timeC (scaleC ps a).1 pk cur).2 = (timeC (scaleC ps b).1 pk cur).2 ∧ (timeC (scaleC ps a).1 pk cur).1 ≤ (timeC (scaleC ps b).1 pk cur).1 := by
  obtain ⟨hg, hd, hs⟩ := scale_ok h1
  obtain ⟨_, he, ht⟩ := scale_ok h2
  exact time_under (scGo_good hd hg hs).1 (scGo_good he hg ht).1 (scGo_under hab (fun p hp => (hg.all p hp).1) hs ht)

end Go.Proofs.Ythedpegaelpbdaa
