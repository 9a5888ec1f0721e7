/- CurveFalls, CurvePoints, CurveLeast: the walks. -/
import Derived.Test.YtkmhemcnpbhdfaaKA
namespace Go.Proofs.Ytkmhemcnpbhdfaa
open Go.ChangeShapes Go.WideShapes Go.ChangeAt Go.RowKit
set_option linter.unusedVariables false
attribute [local go_sem ↓] execOp_call_val
attribute [local go_sem] callVal_func setCell_drewN alloc_drewN


set_option maxHeartbeats 2000000 in
theorem falls_any (A : Option Addr) (n c : Nat) (ps : List (Int × Int)) (pk a b : Int) (w : World) (hr : RdP w w.heap.size A n ps) (hm : n ≤ 9223372036854775807) :
    Calls Try.prog 8 #[.slice A n c, .int .i64 pk, .int .i64 a, .int .i64 b] w fun e w' => e = .returned (.bool true) ∧ Below w.heap.size w w' := by
  have hbx := @timeC_bad ps pk a
  have hby := @timeC_bad ps pk b
  have htr := falls_true ps pk a b
  unfold fallsB at htr
  go_enter Try.func8, Try.ntmps8
  have HX := Lib.hid hbx
  have HY := Lib.hid hby
  have HT := Lib.hid htr
  clear hbx hby htr
  go_wp2_with fail
  refine (cworks_any _).mono ?_
  rintro e w1 ⟨rfl, k1⟩
  go_wp2_with fail
  refine (time_any _ _ _ _ _ _ _ ((hr.below k1 (Nat.le_refl _)).more k1.size) hm).mono ?_
  rintro e w2 ⟨rfl, k2⟩
  have K2 := k1.trans (k2.mono k1.size)
  go_wp2_with fail
  refine (time_any _ _ _ _ _ _ _ ((hr.below K2 (Nat.le_refl _)).more K2.size) hm).mono ?_
  rintro e w3 ⟨rfl, k3⟩
  have K3 := K2.trans (k3.mono K2.size)
  generalize (timeC ps pk a).1 = t at *
  generalize (timeC ps pk a).2 = x at *
  generalize (timeC ps pk b).1 = u at *
  generalize (timeC ps pk b).2 = y at *
  by_cases hx : x = 0
  · by_cases hy : y = 0
    · have h1 := HT.out
      rw [if_neg (by omega)] at h1
      have HT2 := Lib.hid h1
      subst hx; subst hy
      clear h1 HT HX HY
      go_wp2_with fail
      all_goals
        go_ret
        refine ⟨ret_bool ?_, K3⟩
        have := HT2.out
        simp at this ⊢
        try omega
    · have hu := HY.out hy
      have hy1 : (y != 0) = true := by simpa using hy
      have hy2 : (y == 0) = false := by simpa using hy
      have hu1 : (u == 0) = true := by simpa using hu
      subst hx
      clear HT HX HY hy hu
      go_wp2_with fail
      go_ret
      exact ⟨rfl, K3⟩
  · have ht := HX.out hx
    have hx1 : (x != 0) = true := by simpa using hx
    have hx2 : (x == 0) = false := by simpa using hx
    have ht1 : (t == 0) = true := by simpa using ht
    by_cases hy : y = 0
    · subst hy
      clear HT HX HY hx ht
      go_wp2_with fail
      go_ret
      exact ⟨rfl, K3⟩
    · have hu := HY.out hy
      have hy1 : (y != 0) = true := by simpa using hy
      have hy2 : (y == 0) = false := by simpa using hy
      have hu1 : (u == 0) = true := by simpa using hu
      clear HT HX HY hx ht hy hu
      go_wp2_with fail
      go_ret
      exact ⟨rfl, K3⟩
end Go.Proofs.Ytkmhemcnpbhdfaa
