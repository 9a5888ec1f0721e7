/- Plain law of over-current characteristics: the check, the interpolated time, and that it falls. No program in sight. -/
import Derived.KernelRfl
namespace Go.Proofs.Ythedpegaelpbdaa
set_option linter.unusedVariables false

/-- out of low .. high -/
def outN (n low high : Int) : Bool := decide (n < low ∨ high < n)

def badPt (p : Int × Int) : Bool := outN p.1 100 10000 || outN p.2 0 3600000
def badPair (q p : Int × Int) : Bool := decide (p.1 ≤ q.1 ∨ q.2 < p.2)

def ckGo : Option (Int × Int) → List (Int × Int) → Int
  | _, [] => 0
  | o, p :: ps => if badPt p then 4 else match o with
    | none => ckGo (some p) ps
    | some q => if badPair q p then 3 else ckGo (some p) ps

def ckC (ps : List (Int × Int)) : Int := if 32 < ps.length then 2 else if ps.length < 2 then 3 else ckGo none ps

/-- the value between two points at x = 100 current -/
def mid (pk x : Int) (a b : Int × Int) : Int := a.2 - (a.2 - b.2) * (x - a.1 * pk) / (pk * (b.1 - a.1))

def tmGo (pk x : Int) : Int × Int → List (Int × Int) → Int
  | a, [] => a.2
  | a, b :: r => if x ≤ b.1 * pk then mid pk x a b else tmGo pk x b r

def tmC (pk cur : Int) : List (Int × Int) → Option Int
  | [] => none
  | a :: r => if 100 * cur < a.1 * pk then none else some (tmGo pk (100 * cur) a r)

/-- a valid characteristic -/
def Chain : Int × Int → List (Int × Int) → Prop
  | _, [] => True
  | a, b :: r => a.1 < b.1 ∧ b.2 ≤ a.2 ∧ 100 ≤ b.1 ∧ b.1 ≤ 10000 ∧ 0 ≤ b.2 ∧ b.2 ≤ 3600000 ∧ Chain b r

def Good (ps : List (Int × Int)) : Prop := ∃ a b r, ps = a :: b :: r ∧ 100 ≤ a.1 ∧ a.1 ≤ 10000 ∧ 0 ≤ a.2 ∧ a.2 ≤ 3600000 ∧ Chain a (b :: r) ∧ r.length ≤ 30

theorem badPt_false {p : Int × Int} : badPt p = false ↔ 100 ≤ p.1 ∧ p.1 ≤ 10000 ∧ 0 ≤ p.2 ∧ p.2 ≤ 3600000 := by
  unfold badPt outN; simp; omega
theorem badPair_false {q p : Int × Int} : badPair q p = false ↔ q.1 < p.1 ∧ p.2 ≤ q.2 := by
  unfold badPair; simp

theorem ckGo_some {a : Int × Int} : ∀ {ps : List (Int × Int)}, ckGo (some a) ps = 0 ↔ Chain a ps
  | [] => by simp [ckGo, Chain]
  | b :: r => by
    unfold ckGo Chain
    by_cases h1 : badPt b = true
    · simp only [h1, if_true]
      have : ¬ (100 ≤ b.1 ∧ b.1 ≤ 10000 ∧ 0 ≤ b.2 ∧ b.2 ≤ 3600000) := fun h => by rw [badPt_false.2 h] at h1; cases h1
      constructor
      · intro h; cases h
      · rintro ⟨_, _, h3, h4, h5, h6, _⟩; exact absurd ⟨h3, h4, h5, h6⟩ this
    · have h1' : badPt b = false := by simpa using h1
      have hb := badPt_false.1 h1'
      simp only [h1', Bool.false_eq_true, if_false]
      by_cases h2 : badPair a b = true
      · simp only [h2, if_true]
        constructor
        · intro h; cases h
        · rintro ⟨h3, h4, _⟩; rw [badPair_false.2 ⟨h3, h4⟩] at h2; cases h2
      · have h2' : badPair a b = false := by simpa using h2
        have hp := badPair_false.1 h2'
        simp only [h2', Bool.false_eq_true, if_false]
        rw [ckGo_some (ps := r)]
        constructor
        · intro h; exact ⟨hp.1, hp.2, hb.1, hb.2.1, hb.2.2.1, hb.2.2.2, h⟩
        · rintro ⟨_, _, _, _, _, _, h⟩; exact h

theorem ckC_good {ps : List (Int × Int)} : ckC ps = 0 ↔ Good ps := by
  unfold ckC Good
  match ps with
  | [] => simp
  | [a] => simp
  | a :: b :: r =>
    by_cases h1 : 32 < (a :: b :: r).length
    · rw [if_pos h1]
      constructor
      · intro h; cases h
      · rintro ⟨a', b', r', he, _, _, _, _, _, hl⟩
        injection he with e1 e2; injection e2 with e2 e3; subst e3
        simp at h1; omega
    · rw [if_neg h1, if_neg (by simp)]
      unfold ckGo
      by_cases h2 : badPt a = true
      · rw [if_pos h2]
        constructor
        · intro h; cases h
        · rintro ⟨a', b', r', he, h3, h4, h5, h6, _⟩
          injection he with e1 e2; subst e1
          rw [badPt_false.2 ⟨h3, h4, h5, h6⟩] at h2; cases h2
      · have h2' : badPt a = false := by simpa using h2
        have hb := badPt_false.1 h2'
        rw [if_neg h2]
        simp only []
        rw [ckGo_some]
        constructor
        · intro h; exact ⟨a, b, r, rfl, hb.1, hb.2.1, hb.2.2.1, hb.2.2.2, h, by simp at h1; omega⟩
        · rintro ⟨a', b', r', he, _, _, _, _, h, _⟩
          injection he with e1 e2; injection e2 with e2 e3; subst e1; subst e2; subst e3; exact h

/-- between two points the time lies between theirs -/
theorem mid_bd {pk x : Int} {a b : Int × Int} (h1 : a.1 < b.1) (h2 : b.2 ≤ a.2) (hp : 1 ≤ pk) (hx : a.1 * pk ≤ x) (hy : x ≤ b.1 * pk) : b.2 ≤ mid pk x a b ∧ mid pk x a b ≤ a.2 := by
  have hD : 0 < pk * (b.1 - a.1) := Int.mul_pos (by omega) (by omega)
  have hDe : pk * (b.1 - a.1) = b.1 * pk - a.1 * pk := by rw [Int.mul_sub, Int.mul_comm pk, Int.mul_comm pk]
  have hn : 0 ≤ (a.2 - b.2) * (x - a.1 * pk) := Int.mul_nonneg (by omega) (by omega)
  have hle : (a.2 - b.2) * (x - a.1 * pk) ≤ (a.2 - b.2) * (pk * (b.1 - a.1)) := Int.mul_le_mul_of_nonneg_left (by omega) (by omega)
  have h3 : 0 ≤ (a.2 - b.2) * (x - a.1 * pk) / (pk * (b.1 - a.1)) := Int.ediv_nonneg hn (by omega)
  have h4 : (a.2 - b.2) * (x - a.1 * pk) / (pk * (b.1 - a.1)) ≤ a.2 - b.2 := by
    have := Int.ediv_le_ediv hD hle
    rwa [Int.mul_ediv_cancel _ (by omega)] at this
  unfold mid
  omega

theorem mid_mono {pk x y : Int} {a b : Int × Int} (h1 : a.1 < b.1) (h2 : b.2 ≤ a.2) (hp : 1 ≤ pk) (hxy : x ≤ y) : mid pk y a b ≤ mid pk x a b := by
  have hD : 0 < pk * (b.1 - a.1) := Int.mul_pos (by omega) (by omega)
  have hle : (a.2 - b.2) * (x - a.1 * pk) ≤ (a.2 - b.2) * (y - a.1 * pk) := Int.mul_le_mul_of_nonneg_left (by omega) (by omega)
  have := Int.ediv_le_ediv hD hle
  unfold mid
  omega

theorem tmGo_bd {pk x : Int} (hp : 1 ≤ pk) : ∀ {a : Int × Int} {r : List (Int × Int)}, Chain a r → 0 ≤ a.2 → a.1 * pk ≤ x → 0 ≤ tmGo pk x a r ∧ tmGo pk x a r ≤ a.2
  | a, [], _, h0, _ => ⟨h0, Int.le_refl _⟩
  | a, b :: r, h, h0, hx => by
    obtain ⟨h1, h2, h3, h4, h5, h6, h7⟩ := h
    unfold tmGo
    split
    · rename_i hle
      have := mid_bd h1 h2 hp hx hle
      omega
    · rename_i hle
      have := tmGo_bd hp h7 h5 (show b.1 * pk ≤ x by omega)
      omega

theorem tmGo_mono {pk x y : Int} (hp : 1 ≤ pk) (hxy : x ≤ y) : ∀ {a : Int × Int} {r : List (Int × Int)}, Chain a r → a.1 * pk ≤ x → tmGo pk y a r ≤ tmGo pk x a r
  | a, [], _, _ => Int.le_refl _
  | a, b :: r, h, hx => by
    obtain ⟨h1, h2, h3, h4, h5, h6, h7⟩ := h
    unfold tmGo
    by_cases c1 : x ≤ b.1 * pk
    · rw [if_pos c1]
      by_cases c2 : y ≤ b.1 * pk
      · rw [if_pos c2]
        exact mid_mono h1 h2 hp hxy
      · rw [if_neg c2]
        have e1 := (mid_bd h1 h2 hp hx c1).1
        have e2 := (tmGo_bd hp h7 h5 (show b.1 * pk ≤ y by omega)).2
        omega
    · rw [if_neg c1, if_neg (by omega)]
      exact tmGo_mono hp hxy h7 (by omega)

theorem tmC_mono {pk x y : Int} {ps : List (Int × Int)} (hg : Good ps) (hp : 1 ≤ pk) (hxy : x ≤ y) {t : Int} (ht : tmC pk x ps = some t) : ∃ u, tmC pk y ps = some u ∧ u ≤ t ∧ 0 ≤ u ∧ t ≤ 3600000 := by
  obtain ⟨a, b, r, rfl, h1, h2, h3, h4, h5, h6⟩ := hg
  simp only [tmC] at ht ⊢
  by_cases hx : 100 * x < a.1 * pk
  · rw [if_pos hx] at ht; cases ht
  · rw [if_neg hx] at ht
    injection ht with ht
    subst ht
    rw [if_neg (by omega)]
    refine ⟨_, rfl, tmGo_mono hp (by omega) h5 (by omega), (tmGo_bd hp h5 h3 (by omega)).1, ?_⟩
    have := (tmGo_bd hp h5 h3 (show a.1 * pk ≤ 100 * x by omega)).2
    omega

/-- the answer of Time: the time and the error -/
def timeC (ps : List (Int × Int)) (pk cur : Int) : Int × Int :=
  if ckC ps ≠ 0 then (0, ckC ps) else if outN pk 1 1000000 || outN cur 0 1000000 then (0, 4) else match tmC pk cur ps with
    | none => (0, 8)
    | some t => (t, 0)

theorem timeC_ok {ps : List (Int × Int)} {pk cur : Int} (h : (timeC ps pk cur).2 = 0) : Good ps ∧ 1 ≤ pk ∧ pk ≤ 1000000 ∧ 0 ≤ cur ∧ cur ≤ 1000000 ∧ tmC pk cur ps = some (timeC ps pk cur).1 := by
  unfold timeC at h ⊢
  split at h
  · rename_i hc; exact absurd h hc
  · rename_i hc
    have hg : Good ps := ckC_good.1 (by simpa using hc)
    rw [if_neg hc]
    split at h
    · cases h
    · rename_i ho
      rw [if_neg ho]
      unfold outN at ho
      simp at ho
      split at h
      · cases h
      · rename_i t ht
        exact ⟨hg, by omega, by omega, by omega, by omega, ht⟩

theorem timeC_of {ps : List (Int × Int)} {pk cur t : Int} (hg : Good ps) (h1 : 1 ≤ pk) (h2 : pk ≤ 1000000) (h3 : 0 ≤ cur) (h4 : cur ≤ 1000000) (ht : tmC pk cur ps = some t) : timeC ps pk cur = (t, 0) := by
  unfold timeC
  rw [if_neg (by rw [ckC_good.2 hg]; simp), if_neg (by unfold outN; simp; omega), ht]

theorem timeC_bad {ps : List (Int × Int)} {pk cur : Int} (h : (timeC ps pk cur).2 ≠ 0) : (timeC ps pk cur).1 = 0 := by
  unfold timeC at h ⊢
  split at h
  · rename_i hc; rw [if_pos hc]
  · rename_i hc
    rw [if_neg hc]
    split at h
    · rename_i ho; rw [if_pos ho]
    · rename_i ho
      rw [if_neg ho]
      split at h
      · rfl
      · exact absurd rfl h

/-- CurveFalls -/
def fallsB (ps : List (Int × Int)) (pk a b : Int) : Bool :=
  if (timeC ps pk a).2 ≠ 0 ∨ (timeC ps pk b).2 ≠ 0 then ((timeC ps pk a).2 == 0 || (timeC ps pk a).1 == 0) && ((timeC ps pk b).2 == 0 || (timeC ps pk b).1 == 0)
  else decide (b < a) || decide ((timeC ps pk b).1 ≤ (timeC ps pk a).1)
theorem falls_true (ps : List (Int × Int)) (pk a b : Int) : fallsB ps pk a b = true := by
  unfold fallsB
  split
  · rename_i h
    have ha : (timeC ps pk a).2 = 0 ∨ (timeC ps pk a).1 = 0 := by
      by_cases hh : (timeC ps pk a).2 = 0
      · exact .inl hh
      · exact .inr (timeC_bad hh)
    have hb : (timeC ps pk b).2 = 0 ∨ (timeC ps pk b).1 = 0 := by
      by_cases hh : (timeC ps pk b).2 = 0
      · exact .inl hh
      · exact .inr (timeC_bad hh)
    simp [ha, hb]
  · rename_i h
    have h' : (timeC ps pk a).2 = 0 ∧ (timeC ps pk b).2 = 0 := by omega
    by_cases hab : b < a
    · simp [hab]
    · obtain ⟨hg, h1, h2, h3, h4, h5⟩ := timeC_ok h'.1
      obtain ⟨u, hu, hle, _⟩ := tmC_mono hg h1 (show a ≤ b by omega) h5
      obtain ⟨_, _, _, _, _, h6⟩ := timeC_ok h'.2
      rw [hu] at h6
      injection h6 with h6
      simp [← h6, hle]
end Go.Proofs.Ythedpegaelpbdaa
