/- Automatic reclosing: trips a dead time and a reclaim time apart (plain law of RecloseReclaims). -/
import Derived.Test.YtkmhemcnpbhdfaaRc4
namespace Go.Proofs.Ytkmhemcnpbhdfaa
open Go.ChangeShapes Go.WideShapes Go.ChangeAt Go.RowKit
set_option linter.unusedVariables false

def stp (s P : Int) : Nat → List Int
  | 0 => []
  | m + 1 => s :: stp (s + P) P m
theorem stp_len (s P : Int) (m : Nat) : (stp s P m).length = m := by
  induction m generalizing s with
  | zero => rfl
  | succ m ih => simp [stp, ih]
theorem stp_snoc (P : Int) (m : Nat) : ∀ s : Int, stp s P (m + 1) = stp s P m ++ [s + m * P] := by
  induction m with
  | zero => intro s; simp [stp]
  | succ m ih =>
    intro s
    show s :: stp (s + P) P (m + 1) = s :: stp (s + P) P m ++ [_]
    rw [ih, List.cons_append]
    congr 3
    rw [Int.natCast_succ, Int.add_mul]; omega
theorem stp_le (P : Int) (hP : 0 ≤ P) (m : Nat) : ∀ s : Int, ∀ t ∈ stp s P m, t ≤ s + m * P := by
  induction m with
  | zero => intro s t ht; simp [stp] at ht
  | succ m ih =>
    intro s t ht
    have h0 : 0 ≤ (m : Int) * P := Int.mul_nonneg (by omega) hP
    simp only [stp, List.mem_cons] at ht
    have e : s + ((m + 1 : Nat) : Int) * P = s + P + m * P := by rw [Int.natCast_succ, Int.add_mul]; omega
    rcases ht with rfl | ht
    · omega
    · have := ih _ t ht; omega

theorem reclaims_go {dead : List Int} {d0 r : Int} (hd : dead[0]? = some d0) (h1 : 1 ≤ d0) (hr : 1 ≤ r) (m : Nat) : ∀ (s : Int) (out : List Int) (i : Nat), s + (m + 1) * (d0 + r) ≤ 1000000000 →
    shGo dead ⟨r, 1, s, 0, s⟩ out (stp (s + (d0 + r)) (d0 + r) m) i = (out ++ stp (s + d0) (d0 + r) (m + 1), 0, 0) := by
  have hg : dead.getD 0 0 = d0 := by rw [List.getD_eq_getElem?_getD, hd]; rfl
  have hg2 : dead[0]?.getD 0 = d0 := by rw [hd]; rfl
  have hl : dead.length ≠ 0 := by intro h; have := List.eq_nil_of_length_eq_zero h; subst this; simp at hd
  induction m with
  | zero =>
    intro s out i hs
    have hf : Rc.fires ⟨r, 1, s, 0, s⟩ dead 1000000001 = true := by simp [Rc.fires, Rc.nextT, hg2]; omega
    show (Rc.out1 _ dead out 1000000001, (0 : Int), (0 : Int)) = _
    unfold Rc.out1
    rw [if_pos hf]
    simp [Rc.nextT, hg2, stp]
  | succ m ih =>
    intro s out i hs
    have h0 : 0 ≤ (m : Int) * (d0 + r) := Int.mul_nonneg (by omega) (by omega)
    have e : s + ((m + 1 : Nat) + 1 : Int) * (d0 + r) = s + (d0 + r) + (m + 1) * (d0 + r) := by rw [Int.natCast_succ, Int.add_mul, Int.add_mul (b := 1)]; omega
    have e2 : s + ((m + 1 : Nat) + 1 : Int) * (d0 + r) = s + m * (d0 + r) + (d0 + r) + (d0 + r) := by rw [Int.natCast_succ, Int.add_mul, Int.add_mul]; omega
    have e3 : ((m : Int) + 1) * (d0 + r) = m * (d0 + r) + (d0 + r) := by rw [Int.add_mul]; omega
    have hf : Rc.fires ⟨r, 1, s, 0, s⟩ dead (s + (d0 + r)) = true := by simp [Rc.fires, Rc.nextT, hg2]; omega
    have ha : Rc.att1 ⟨r, 1, s, 0, s⟩ dead (s + (d0 + r)) = ⟨r, 2, s + d0, 1, s + d0⟩ := by
      unfold Rc.att1
      rw [if_pos hf]
      have hat : Rc.at_ ⟨r, 1, s, 0, s⟩ (s + d0) = ⟨r, 1, s, 0, s + d0⟩ := by unfold Rc.at_; rw [if_neg (by simp)]
      have hn : Rc.nextT ⟨r, 1, s, 0, s⟩ dead = s + d0 := by simp only [Rc.nextT, hg]
      have hk : Rc.ticks ⟨r, 1, s, 0, s⟩ dead (s + d0) = true := by unfold Rc.ticks; rw [hat]; dsimp only; rw [hg]; simp
      rw [hn]
      unfold Rc.tick
      rw [if_pos hk, hat]
    have ho : Rc.out1 ⟨r, 1, s, 0, s⟩ dead out (s + (d0 + r)) = out ++ [s + d0] := by
      unfold Rc.out1
      rw [if_pos hf]
      simp only [Rc.nextT, hg]
    have hat2 : Rc.at_ ⟨r, 2, s + d0, 1, s + d0⟩ (s + (d0 + r)) = ⟨r, 0, s + d0, 0, s + (d0 + r)⟩ := by unfold Rc.at_; rw [if_pos (by dsimp only; omega)]
    have htr : Rc.trip ⟨r, 2, s + d0, 1, s + d0⟩ dead.length (s + (d0 + r)) = ⟨r, 1, s + (d0 + r), 0, s + (d0 + r)⟩ := by unfold Rc.trip; rw [hat2]; dsimp only; rw [if_neg (Ne.symm hl)]
    show shGo dead _ out ((s + (d0 + r)) :: stp (s + (d0 + r) + (d0 + r)) (d0 + r) m) i = _
    unfold shGo
    rw [ha, ho, hat2, htr]
    dsimp only
    rw [if_neg (by omega), if_neg (by omega), if_neg (Ne.symm hl)]
    rw [ih (s + (d0 + r)) _ _ (by omega)]
    rw [List.append_assoc]
    congr 2
    show (s + d0) :: _ = (s + d0) :: stp (s + d0 + (d0 + r)) (d0 + r) (m + 1)
    rw [show s + (d0 + r) + d0 = s + d0 + (d0 + r) from by omega]
    rfl

theorem reclaims_law {dead : List Int} {d0 r : Int} (hc : ckR dead r = 0) (hd : dead[0]? = some d0) (m : Nat) (hm : m ≤ 6) (hm1 : 1 ≤ m) : shotsR dead r (stp 0 (d0 + r) m) = (stp d0 (d0 + r) m, 0, 0) := by
  obtain ⟨q1, q2, q3, q4, q5⟩ := ckR_ok hc
  obtain ⟨q6, q7⟩ := q3 d0 (List.mem_of_getElem? hd)
  have hl : dead.length ≠ 0 := by omega
  unfold shotsR
  rw [if_neg (by rw [hc]; simp), if_neg (by rw [stp_len]; omega)]
  obtain ⟨k, rfl⟩ : ∃ k, m = k + 1 := ⟨m - 1, by omega⟩
  have hf : Rc.fires ⟨r, 0, 0, 0, 0⟩ dead 0 = false := by simp [Rc.fires]
  have ha : Rc.att1 ⟨r, 0, 0, 0, 0⟩ dead 0 = ⟨r, 0, 0, 0, 0⟩ := by unfold Rc.att1; rw [hf]; rfl
  have ho : Rc.out1 ⟨r, 0, 0, 0, 0⟩ dead [] 0 = [] := by unfold Rc.out1; rw [hf]; rfl
  have hat : Rc.at_ ⟨r, 0, 0, 0, 0⟩ 0 = ⟨r, 0, 0, 0, 0⟩ := by unfold Rc.at_; rw [if_neg (by simp)]
  have htr : Rc.trip ⟨r, 0, 0, 0, 0⟩ dead.length 0 = ⟨r, 1, 0, 0, 0⟩ := by unfold Rc.trip; rw [hat]; dsimp only; rw [if_neg (Ne.symm hl)]
  show shGo dead _ [] (0 :: stp (0 + (d0 + r)) (d0 + r) k) 0 = _
  unfold shGo
  rw [ha, ho, hat, htr]
  dsimp only
  rw [if_neg (by omega), if_neg (by omega), if_neg (Ne.symm hl)]
  have hkm : ((k : Int) + 1) * (d0 + r) ≤ 6 * (d0 + r) := Int.mul_le_mul_of_nonneg_right (by omega) (by omega)
  rw [reclaims_go hd q6 q4 k 0 [] 1 (by omega)]
  simp
end Go.Proofs.Ytkmhemcnpbhdfaa
