/- CurveLeast: the plain law and the walk. -/
import Derived.Test.YtkmhemcnpbhdfaaKA
namespace Go.Proofs.Ytkmhemcnpbhdfaa
open Go.ChangeShapes Go.WideShapes Go.ChangeAt Go.RowKit
set_option linter.unusedVariables false
attribute [local go_sem ↓] execOp_call_val
attribute [local go_sem] callVal_func setCell_drewN alloc_drewN



theorem leastP_time {ps : List (Int × Int)} {pk limit : Int} (hg : Good ps) (h1 : 1 ≤ pk) (h2 : pk ≤ 1000000) {i : Nat} (hi : i ≤ 1000000) :
    (leastP ps pk limit i = true → (timeC ps pk i).2 = 0 ∧ (timeC ps pk i).1 ≤ limit) ∧ (leastP ps pk limit i = false → (timeC ps pk i).2 ≠ 0 ∨ limit < (timeC ps pk i).1) := by
  cases ht : tmC pk i ps with
  | none =>
    have h3 : timeC ps pk i = (0, 8) := by
      unfold timeC
      rw [if_neg (by rw [ckC_good.2 hg]; simp), if_neg (by unfold outN; simp; omega), ht]
    have h4 : leastP ps pk limit i = false := by unfold leastP; rw [ht]; rfl
    rw [h3, h4]
    exact ⟨(fun h => by cases h), fun _ => Or.inl (by simp)⟩
  | some t =>
    have h3 := timeC_of hg h1 h2 (show (0 : Int) ≤ i by omega) (show (i : Int) ≤ 1000000 by omega) ht
    have h4 : leastP ps pk limit i = decide (t ≤ limit) := by unfold leastP; rw [ht]; rfl
    rw [h3, h4]
    exact ⟨fun h => ⟨rfl, by simpa using h⟩, fun h => .inr (by simpa using h)⟩

theorem least_law {ps : List (Int × Int)} {pk limit k e : Int} (h : LeastSpec ps pk limit k e) :
    (e ≠ 0 → k = 0) ∧ (e = 8 → (timeC ps pk 1000000).2 ≠ 0 ∨ limit < (timeC ps pk 1000000).1) ∧
    (e = 0 → 0 ≤ k ∧ k ≤ 1000000 ∧ (timeC ps pk k).2 = 0 ∧ (timeC ps pk k).1 ≤ limit ∧ ((timeC ps pk (k - 1)).2 ≠ 0 ∨ limit < (timeC ps pk (k - 1)).1)) := by
  rcases h with ⟨h1, h2, h3⟩ | ⟨h1, h2, h3, h4⟩ | ⟨h1, h2, h3, h4, m, hf, h5⟩
  · refine ⟨fun _ => h2, fun _ => .inl ?_, fun h => absurd (h3.symm.trans h) h1⟩
    unfold timeC; rw [if_pos h1]; exact h1
  · exact ⟨fun _ => h3, fun h => by omega, fun h => by omega⟩
  · have hg := ckC_good.1 h1
    rcases h5 with ⟨h5, h6, h7⟩ | ⟨h5, h6, h7⟩
    · refine ⟨fun _ => h6, fun _ => ?_, fun h => by omega⟩
      have hm : m = 1000001 := by have := hf.le; omega
      have hlo := hf.lo (by omega)
      rw [hm] at hlo
      exact (leastP_time hg h2 h3 (i := 1000000) (by omega)).2 hlo
    · refine ⟨fun h => absurd h7 h, fun h => by omega, fun _ => ?_⟩
      have hhi := hf.hi (by omega)
      have ha := (leastP_time hg h2 h3 (i := m) h5).1 hhi
      subst h6
      refine ⟨by omega, by omega, ha.1, ha.2, ?_⟩
      by_cases hm : m = 0
      · subst hm
        left
        unfold timeC
        rw [if_neg (by rw [h1]; simp), if_pos (by unfold outN; simp)]
        simp
      · have hb := (leastP_time hg h2 h3 (i := m - 1) (by omega)).2 (hf.lo (by omega))
        rw [show ((m - 1 : Nat) : Int) = (m : Int) - 1 from by omega] at hb
        exact hb

set_option maxHeartbeats 2000000 in
theorem leastL_any (A : Option Addr) (n c : Nat) (ps : List (Int × Int)) (pk limit : Int) (w : World) (hr : RdP w w.heap.size A n ps) (hm : n ≤ 9223372036854775807) :
    Calls Try.prog 10 #[.slice A n c, .int .i64 pk, .int .i64 limit] w fun e w' => e = .returned (.bool true) ∧ Below w.heap.size w w' := by
  go_enter Try.func10, Try.ntmps10
  go_wp2_with fail
  refine (cworks_any _).mono ?_
  rintro e w1 ⟨rfl, k1⟩
  go_wp2_with fail
  refine (least_any _ _ _ _ _ _ _ ((hr.below k1 (Nat.le_refl _)).more k1.size) hm).mono ?_
  rintro e w2 ⟨⟨k, x, rfl, hsp⟩, k2⟩
  have K2 := k1.trans (k2.mono k1.size)
  obtain ⟨g1, g2, g3⟩ := least_law hsp
  have HS := Lib.hid hsp
  have G1 := Lib.hid g1
  have G2 := Lib.hid g2
  have G3 := Lib.hid g3
  clear hsp g1 g2 g3
  by_cases hx : x = 0
  · subst hx
    obtain ⟨g4, g5, g6, g7, g8⟩ := G3.out rfl
    have G6 := Lib.hid g6
    have G7 := Lib.hid g7
    have G8 := Lib.hid g8
    clear g6 g7 g8 G1 G2 G3
    go_wp2_with fail
    refine (time_any _ _ _ ps _ _ _ ((hr.below K2 (Nat.le_refl _)).more K2.size) hm).mono ?_
    rw [G6.out]
    rintro e w3 ⟨rfl, k3⟩
    have K3 := K2.trans (k3.mono K2.size)
    go_wp2_with fail
    refine (time_any _ _ _ ps _ _ _ ((hr.below K3 (Nat.le_refl _)).more K3.size) hm).mono ?_
    rintro e w4 ⟨rfl, k4⟩
    have K4 := K3.trans (k4.mono K3.size)
    have g7 := G7.out
    generalize (timeC ps pk k).1 = t at *
    by_cases hz : (timeC ps pk (k - 1)).2 = 0
    · have g8 : limit < (timeC ps pk (k - 1)).1 := by rcases G8.out with h | h; exact absurd hz h; exact h
      rw [hz]
      generalize (timeC ps pk (k - 1)).1 = u at *
      have HZ := Lib.hid hz
      clear hz
      go_wp2_with fail
      go_ret
      exact ⟨ret_bool (by simp <;> omega), K4⟩
    · have hz1 : ((timeC ps pk (k - 1)).2 != 0) = true := by simpa using hz
      generalize (timeC ps pk (k - 1)).1 = u at *
      generalize (timeC ps pk (k - 1)).2 = y at *
      clear hz G8
      go_wp2_with fail
      go_ret
      exact ⟨ret_bool (by simp <;> omega), K4⟩
  · have hk := G1.out hx
    subst hk
    have hx1 : (x != 0) = true := by simpa using hx
    by_cases hx8 : x = 8
    · subst hx8
      have g2 := G2.out rfl
      have G2' := Lib.hid g2
      clear g2 G1 G2 G3 hx
      go_wp2_with fail
      refine (time_any _ _ _ ps _ _ _ ((hr.below K2 (Nat.le_refl _)).more K2.size) hm).mono ?_
      rintro e w3 ⟨rfl, k3⟩
      have K3 := K2.trans (k3.mono K2.size)
      by_cases hz : (timeC ps pk 1000000).2 = 0
      · have g8 : limit < (timeC ps pk 1000000).1 := by rcases G2'.out with h | h; exact absurd hz h; exact h
        rw [hz]
        generalize (timeC ps pk 1000000).1 = u at *
        have HZ := Lib.hid hz
        clear hz
        go_wp2_with fail
        go_ret
        exact ⟨ret_bool (by simp <;> omega), K3⟩
      · have hz1 : ((timeC ps pk 1000000).2 != 0) = true := by simpa using hz
        generalize (timeC ps pk 1000000).1 = u at *
        generalize (timeC ps pk 1000000).2 = y at *
        clear hz G2'
        go_wp2_with fail
        go_ret
        exact ⟨rfl, K3⟩
    · have hx2 : (x != 8) = true := by simpa using hx8
      clear hx hx8 G1 G2 G3
      go_wp2_with fail
      go_ret
      exact ⟨rfl, K2⟩
end Go.Proofs.Ytkmhemcnpbhdfaa
