import Derived.Test.YtkmhemcnpbhdfaaA5
import Derived.Test.YtkmhemcnpbhdfaaA6
import Derived.Test.YtkmhemcnpbhdfaaA7
namespace Go.Proofs.Ytkmhemcnpbhdfaa
open Go.ChangeShapes Go.WideShapes Go.ChangeAt Go.RowKit
attribute [local go_sem ↓] execOp_call_val
attribute [local go_sem] callVal_func setCell_drewN alloc_drewN Br.cells



theorem drive_any (w : World) : Calls Try.prog 39 #[] w fun e w' => e = .returned (.agg #[.int .i64 50, .int .i64 80, .int .i64 1000, .int .i64 2]) ∧ Below w.heap.size w w' := by
  go_enter Try.func39, Try.ntmps39
  go_wp2_with fail
  refine bodyPost_ret (v := .agg #[.int .i64 50, .int .i64 80, .int .i64 1000, .int .i64 2]) (by simp [results, Try.results39, go_sem]) rfl ⟨rfl, ?_⟩
  exact (Below.refl _ _).alloc (Nat.le_refl _) _

def W0 : Br := Br.new 50 80 1000 2 true
def W1 : Br := W0.trip 100
def W2 : Br := W1.at_ 149
def W3 : Br := W2.at_ 150
theorem W0ok : W0.Ok := by constructor <;> decide
theorem W1ok : W1.Ok := by constructor <;> decide
theorem W2ok : W2.Ok := by constructor <;> decide
theorem W3ok : W3.Ok := by constructor <;> decide

set_option maxHeartbeats 1000000 in
theorem works_any (w : World) : Calls Try.prog 14 #[] w fun e w' => e = .returned (.bool true) ∧ Below w.heap.size w w' := by
  have e2 : (W1.at_ 149).state = 1 := by decide
  have e3 : (W2.at_ 150).state = 2 := by decide
  have e4 : (W3.at_ 150).stored = 2 := by decide
  have hck : brCheck 50 80 1000 2 = 0 := by decide
  go_enter Try.func14, Try.ntmps14
  go_wp2_with fail
  refine (drive_any _).mono ?_
  rintro e w1 ⟨rfl, hb1⟩
  go_wp2_with fail
  refine (new_any _ _ _ _ _ _ hck).mono ?_
  rintro e w2 ⟨p, rfl, hp, hB, hb2⟩
  go_wp2_with fail

  refine (trip_any p W0 _ hB W0ok _ (by decide) (by decide) (by decide)).mono ?_
  rintro e w3 ⟨rfl, hg3, hB3⟩
  go_wp2_with fail
  refine (get_any p W1 _ hB3 W1ok _ (by decide) (by decide)).mono ?_
  rw [e2]
  rintro e w4 ⟨rfl, hg4, hB4⟩
  go_wp2_with fail
  refine (get_any p W2 _ hB4 W2ok _ (by decide) (by decide)).mono ?_
  rw [e3]
  rintro e w5 ⟨rfl, hg5, hB5⟩
  go_wp2_with fail
  refine (energy_any p W3 _ hB5 W3ok _ (by decide) (by decide)).mono ?_
  rw [e4]
  rintro e w6 ⟨rfl, hg6, hB6⟩
  go_wp2_with fail
  refine (close_early p _ _ hB6 _ (by decide)).mono ?_
  rintro e w7 ⟨rfl, hb7⟩
  go_wp2_with fail
  go_ret
  refine ⟨rfl, ?_⟩
  have k2 := hb1.trans (hb2.mono hb1.size)
  have hpw : w.heap.size ≤ p := Nat.le_trans hb1.size hp
  have k3 := below_only k2 hg3 hpw (Nat.le_refl _)
  have k4 := below_only k3 hg4 hpw (Nat.le_refl _)
  have k5 := below_only k4 hg5 hpw (Nat.le_refl _)
  have k6 := below_only k5 hg6 hpw (Nat.le_refl _)
  exact k6.trans (hb7.mono k6.size)
end Go.Proofs.Ytkmhemcnpbhdfaa
