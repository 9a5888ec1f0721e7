/- A program of one delay: when it is true. -/
import Derived.Test.YtodnjjlhklbniaaD0
import Derived.Test.YtodnjjlhklbniaaD4
namespace Go.Proofs.Ytodnjjlhklbniaa
set_option linter.unusedVariables false
set_option linter.unusedSimpArgs false

def prog2 (v : Int) : List Rl := [⟨⟨#[84]⟩, [⟨6, ⟨#[]⟩, v⟩, ⟨0, ⟨#[65]⟩, 0⟩]⟩]
theorem prog2_ck {v : Int} (h1 : 1 ≤ v) (h2 : v ≤ 300) : ckR (prog2 v) = 0 := by
  have key : ∀ n : Fin 300, ckR (prog2 ((n.val : Int) + 1)) = 0 := by decide +kernel
  have := key ⟨(v - 1).toNat, by omega⟩
  rwa [show (((⟨(v - 1).toNat, by omega⟩ : Fin 300).val : Int) + 1) = v from by simp; omega] at this
theorem prog2_ord {v : Int} (h1 : 1 ≤ v) (h2 : v ≤ 300) : orderR (prog2 v) = some [0] := by
  have key : ∀ n : Fin 300, orderR (prog2 ((n.val : Int) + 1)) = some [0] := by decide +kernel
  have := key ⟨(v - 1).toNat, by omega⟩
  rwa [show (((⟨(v - 1).toNat, by omega⟩ : Fin 300).val : Int) + 1) = v from by simp; omega] at this
def dlF (on : Nat) (k : Nat) : List ByteArray := if k < on then [⟨#[65]⟩] else []
theorem dlF_has (on k : Nat) : hasS (dlF on k) ⟨#[65]⟩ = decide (k < on) := by
  unfold dlF
  by_cases h : k < on
  · rw [if_pos h]; simp [h, hasS]
  · rw [if_neg h]; simp [h, hasS]
theorem del_flag (v ms : Int) (vals : List Bool) (fl : List ByteArray) : flagB ⟨prog2 v, vals, fl, [], ms⟩ ⟨#[65]⟩ = hasS fl ⟨#[65]⟩ := by
  unfold flagB; rw [if_neg]
  show ¬ 0 ≤ ruleR (prog2 v) ⟨#[65]⟩
  unfold ruleR prog2 ruleGo ruleGo
  rw [if_neg (by show ¬ (⟨#[84]⟩ : ByteArray) = ⟨#[65]⟩; decide +kernel)]
  omega
theorem del_step (v ms : Int) (b : Bool) (fl : List ByteArray) (K : Nat → Nat → Bool × Int) :
    (stepR ⟨prog2 v, [b], fl, [], ms⟩ [0] K).vals = [(K 0 0).1 && decide (v ≤ tick (K 0 0) ms)] ∧ (stepR ⟨prog2 v, [b], fl, [], ms⟩ [0] K).kept 0 0 = (hasS fl ⟨#[65]⟩, tick (K 0 0) ms) ∧
      (stepR ⟨prog2 v, [b], fl, [], ms⟩ [0] K).out.length = (if ((K 0 0).1 && decide (v ≤ tick (K 0 0) ms)) = true then 1 else 0) := by
  have hev : evR ⟨prog2 v, [b], fl, [], ms⟩ 64 0 0 ⟨K, []⟩ = ((K 0 0).1 && decide (v ≤ tick (K 0 0) ms), ⟨updK K 0 0 ((K 0 0).1, tick (K 0 0) ms), [(0, 0)]⟩) := rfl
  have hfl : ∀ vals : List Bool, evR ⟨prog2 v, vals, fl, [], ms⟩ 64 0 1 ⟨updK K 0 0 ((K 0 0).1, tick (K 0 0) ms), []⟩ = (hasS fl ⟨#[65]⟩, ⟨updK K 0 0 ((K 0 0).1, tick (K 0 0) ms), []⟩) := fun vals => by
    rw [← del_flag v ms vals fl]; rfl
  generalize hval : ((K 0 0).1 && decide (v ≤ tick (K 0 0) ms)) = val at *
  have hm : mainGo ⟨prog2 v, [b], fl, [], ms⟩ [0] [b] ⟨K, []⟩ = ([val], ⟨updK K 0 0 ((K 0 0).1, tick (K 0 0) ms), [(0, 0)]⟩) := by
    unfold mainGo
    show mainGo _ [] ([b].set 0 (evR ⟨prog2 v, [b], fl, [], ms⟩ 64 0 0 ⟨K, []⟩).1) (evR ⟨prog2 v, [b], fl, [], ms⟩ 64 0 0 ⟨K, []⟩).2 = _
    rw [hev]; rfl
  have hw : wt ⟨prog2 v, [val], fl, [], ms⟩ [(0, 0)] = 1 := by
    show (endR [⟨6, ⟨#[]⟩, v⟩, ⟨0, ⟨#[65]⟩, 0⟩] 1).toNat - 1 + 0 = 1
    have : endR [⟨6, ⟨#[]⟩, v⟩, ⟨0, ⟨#[65]⟩, 0⟩] 1 = 2 := rfl
    rw [this]; rfl
  have hst : stepR ⟨prog2 v, [b], fl, [], ms⟩ [0] K = ⟨[val], updK (updK K 0 0 ((K 0 0).1, tick (K 0 0) ms)) 0 0 (hasS fl ⟨#[65]⟩, tick (K 0 0) ms), outGo (prog2 v) [val]⟩ := by
    unfold stepR
    rw [hm]
    show (⟨[val], (laterGo ⟨prog2 v, [val], fl, [], ms⟩ (wt ⟨prog2 v, [val], fl, [], ms⟩ [(0, 0)]) ⟨updK K 0 0 ((K 0 0).1, tick (K 0 0) ms), [(0, 0)]⟩).kept, outGo (prog2 v) [val]⟩ : Rres) = _
    rw [hw]
    unfold laterGo
    simp only
    rw [hfl]
    simp only [laterGo, updK_same]
  rw [hst]
  refine ⟨rfl, updK_same (updK K 0 0 ((K 0 0).1, tick (K 0 0) ms)) 0 0 (hasS fl ⟨#[65]⟩, tick (K 0 0) ms), ?_⟩
  cases val <;> rfl
def dlB (v ms : Int) (on k : Nat) : Bool := decide (0 < k ∧ k ≤ on ∧ v ≤ (k : Int) * ms)
/-- what holds before step k -/
def DlS (ms : Int) (on k : Nat) (q : Bool × Int) : Prop := q.1 = decide (0 < k ∧ k ≤ on) ∧ (0 < k → k ≤ on → q.2 = ((k : Int) - 1) * ms)
theorem dl_step {v ms : Int} {on k : Nat} {b : Bool} {K : Nat → Nat → Bool × Int} (h0 : 1 ≤ ms) (h1 : ms ≤ 50) (hk : k ≤ 45) (h : DlS ms on k (K 0 0)) :
    (stepR ⟨prog2 v, [b], dlF on k, [], ms⟩ [0] K).vals = [dlB v ms on k] ∧ DlS ms on (k + 1) ((stepR ⟨prog2 v, [b], dlF on k, [], ms⟩ [0] K).kept 0 0) ∧ (stepR ⟨prog2 v, [b], dlF on k, [], ms⟩ [0] K).out.length = if dlB v ms on k = true then 1 else 0 := by
  obtain ⟨s1, s2, s3⟩ := del_step v ms b (dlF on k) K
  obtain ⟨q1, q2⟩ := h
  have hkm : (k : Int) * ms ≤ 45 * 50 := Int.mul_le_mul (by omega) h1 (by omega) (by omega)
  have hm1 : ((k : Int) - 1) * ms + ms = (k : Int) * ms := by rw [Int.sub_mul]; omega
  have ht : 0 < k → k ≤ on → tick (K 0 0) ms = (k : Int) * ms := fun a1 a2 => by
    unfold tick
    rw [q1, if_pos (decide_eq_true ⟨a1, a2⟩), q2 a1 a2, hm1]
    omega
  have hv : ((K 0 0).1 && decide (v ≤ tick (K 0 0) ms)) = dlB v ms on k := by
    unfold dlB
    rw [q1]
    by_cases hc : 0 < k ∧ k ≤ on
    · rw [ht hc.1 hc.2]
      simp [hc.1, hc.2]
    · rw [decide_eq_false hc, Bool.false_and]
      exact (decide_eq_false fun hh => hc ⟨hh.1, hh.2.1⟩).symm
  rw [hv] at s1 s3
  refine ⟨s1, ?_, s3⟩
  rw [s2, dlF_has]
  refine ⟨by show decide (k < on) = decide (0 < k + 1 ∧ k + 1 ≤ on); by_cases h : k < on <;> simp [h] <;> omega, fun a1 a2 => ?_⟩
  show tick (K 0 0) ms = _
  rw [show (((k + 1 : Nat) : Int) - 1) = (k : Int) from by omega]
  rcases Nat.eq_zero_or_pos k with rfl | hp
  · unfold tick
    rw [q1, if_neg (by simp)]
    simp
  · exact ht hp (by omega)
end Go.Proofs.Ytodnjjlhklbniaa
