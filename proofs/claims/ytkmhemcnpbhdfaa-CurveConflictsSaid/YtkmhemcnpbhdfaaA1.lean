import Derived.Test.YtkmhemcnpbhdfaaA0
namespace Go.Proofs.Ytkmhemcnpbhdfaa
open Go.ChangeShapes Go.WideShapes Go.ChangeAt Go.RowKit
attribute [local go_sem ↓] execOp_call_val
attribute [local go_sem] callVal_func

def outB (n high : Int) : Bool := decide (n < 1 ∨ high < n)

theorem out1_any (n high : Int) (w : World) :
    Calls Try.prog 40 #[.int .i64 n, .int .i64 high] w fun e w' => e = .returned (.bool (outB n high)) ∧ w = w' := by
  go_enter Try.func40, Try.ntmps40
  go_wp2
  all_goals
    go_ret
    exact ⟨ret_bool (by simp [outB]; try omega), rfl⟩

def brCheck (o c ch st : Int) : Int := if outB o 10000 || outB c 10000 || outB ch 100000 || outB st 3 then 4 else 0

theorem check_any (o c ch st : Int) (w : World) :
    Calls Try.prog 16 #[.agg #[.int .i64 o, .int .i64 c, .int .i64 ch, .int .i64 st]] w fun e w' => e = .returned (.int .i64 (brCheck o c ch st)) ∧ Below w.heap.size w w' := by
  go_enter Try.func16, Try.ntmps16
  go_wp2_with (go_at_call 40; refine (out1_any _ _ _).mono ?_; rintro e w' ⟨rfl, rfl⟩)
  all_goals
    go_ret
    exact ⟨ret_int (by simp [brCheck, *]), (Below.refl _ _).alloc (Nat.le_refl _) _⟩
end Go.Proofs.Ytkmhemcnpbhdfaa
