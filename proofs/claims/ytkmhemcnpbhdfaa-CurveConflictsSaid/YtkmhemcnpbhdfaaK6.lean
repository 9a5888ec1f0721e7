/- sort.Search with a predicate that a function value computes. -/
import Derived.Test.YtkmhemcnpbhdfaaK5
namespace Go.Proofs.Ytkmhemcnpbhdfaa
open Go.ChangeShapes Go.WideShapes Go.ChangeAt Go.RowKit
set_option linter.unusedVariables false
attribute [local go_sem ↓] execOp_call_val
attribute [local go_sem] callVal_func setCell_drewN alloc_drewN

/-- what sort.Search answers -/
structure Found (p : Nat → Bool) (N k : Nat) : Prop where
  le : k ≤ N
  lo : 0 < k → p (k - 1) = false
  hi : k < N → p k = true

set_option maxHeartbeats 1000000 in
theorem search_any (F : FuncId) (cap : Array Value) (N : Nat) (p : Nat → Bool) (I : World → Prop)
    (hF : ∀ (args : Array Value) (w : World), (callFunc F args).run Try.prog w = .ok (.enter F args) w)
    (hf : ∀ (i : Nat) (w' : World), i < N → I w' → Calls Try.prog F (#[.int .i64 i] ++ cap) w' fun e w'' => e = .returned (.bool (p i)) ∧ I w'')
    (hN : N ≤ 4000000000) (w : World) (hw : I w) :
    Calls Try.prog 51 #[.int .i64 N, .func (.func F) #[] cap] w fun e w' => ∃ k : Nat, e = .returned (.int .i64 k) ∧ Found p N k ∧ I w' := by
  have HF := Lib.hid hf
  have HI := Lib.hid hw
  clear hf hw
  go_enter Try.func51, Try.ntmps51
  go_wp2
  go_loopw [5, 6, 7] (fun i j _ wr => ∃ a b : Nat, i = .int .i64 a ∧ j = .int .i64 b ∧ a ≤ b ∧ b ≤ N ∧ (0 < a → p (a - 1) = false) ∧ (b < N → p b = true) ∧ I wr) (fun i j _ _ => (intOf j).toNat - (intOf i).toNat)
  case atStart => exact ⟨0, N, rfl, rfl, by omega, by omega, by omega, by omega, HI.out⟩
  case round =>
    obtain ⟨a, b, rfl, rfl, hab, hbN, hlo, hhi, hI⟩ := hrel
    have HI2 := Lib.hid hI
    have HLO := Lib.hid hlo
    have HHI := Lib.hid hhi
    clear hI hlo hhi
    by_cases hlt : a < b
    · go_wp2_with fail
      have hm : ((a : Int) + (b : Int)) / 2 = (((a + b) / 2 : Nat) : Int) := by omega
      rw [hm]
      refine (HF.out _ _ (by omega) HI2.out).mono ?_
      cases hp : p ((a + b) / 2) with
      | true =>
        rintro e w1 ⟨rfl, hI1⟩
        have HI1 := Lib.hid hI1
        have HP := Lib.hid hp
        have HM := Lib.hid hm
        clear hI1 hp hm
        go_wp2_with fail
        go_roundw
        case rel => exact ⟨a, (a + b) / 2, rfl, rfl, by omega, by omega, HLO.out, fun _ => HP.out, HI1.out⟩
        case measure => simp [intOf]; omega
      | false =>
        rintro e w1 ⟨rfl, hI1⟩
        have HI1 := Lib.hid hI1
        have HP := Lib.hid hp
        have HM := Lib.hid hm
        clear hI1 hp hm
        go_wp2_with fail
        go_roundw
        case rel => exact ⟨(a + b) / 2 + 1, b, by go_num, rfl, by omega, by omega, fun _ => by rw [Nat.add_sub_cancel]; exact HP.out, HHI.out, HI1.out⟩
        case measure => simp [intOf]; omega
    · have hE : a = b := by omega
      subst hE
      go_wp2_with fail
      go_ret
      exact ⟨a, rfl, ⟨hbN, HLO.out, HHI.out⟩, HI2.out⟩

theorem callFunc_enter {P : Program} {F : FuncId} {fn : Func} {c : Code} (hf : P.funcs[F]? = some fn) (h1 : (fn.name == "runtime.NumGoroutine") = false) (hb : fn.body = some c) (args : Array Value) (w : World) :
    (callFunc F args).run P w = .ok (.enter F args) w := by
  simp only [callFunc, Sem.run_bind, run_program, Result.andThen_ok, hf]
  simp [h1, hb, Option.isNone]

theorem enter52 (args : Array Value) (w : World) : (callFunc 52 args).run Try.prog w = .ok (.enter 52 args) w :=
  callFunc_enter Try.func52 (by kernel_rfl) rfl args w

/-- the predicate of Least -/
def leastP (ps : List (Int × Int)) (pk limit : Int) (i : Nat) : Bool := tmB (tmC pk i ps) && decide (tmV (tmC pk i ps) ≤ limit)

set_option maxHeartbeats 1000000 in
theorem least1_any (A : Option Addr) (n c : Nat) (ps : List (Int × Int)) (pk limit : Int) (cur : Nat) (w : World) (b1 b2 b3 : Nat)
    (h1 : w.cell? ⟨b1, 0, none⟩ = some (.slice A n c)) (h2 : w.cell? ⟨b2, 0, none⟩ = some (.int .i64 pk)) (h3 : w.cell? ⟨b3, 0, none⟩ = some (.int .i64 limit)) (l3 : b3 < w.heap.size)
    (hr : RdP w w.heap.size A n ps) (hg : Good ps) (p1 : 1 ≤ pk) (p2 : pk ≤ 1000000) (c2 : cur ≤ 1000000) :
    Calls Try.prog 52 #[.int .i64 cur, .pointer (some ⟨b1, 0, none⟩), .pointer (some ⟨b2, 0, none⟩), .pointer (some ⟨b3, 0, none⟩)] w fun e w' => e = .returned (.bool (leastP ps pk limit cur)) ∧ Below w.heap.size w w' := by
  have hP : Hid (leastP ps pk limit cur = (tmB (tmC pk cur ps) && decide (tmV (tmC pk cur ps) ≤ limit))) := Lib.hid rfl
  go_enter Try.func52, Try.ntmps52
  go_wp2_with fail
  refine (tm_any A n c ps pk cur _ hr hg p1 p2 (by omega) (by omega)).mono ?_
  cases hB : tmB (tmC pk cur ps) with
  | true =>
    rintro e w1 ⟨rfl, hb⟩
    have h3' : w1.cell? ⟨b3, 0, none⟩ = some (.int .i64 limit) := (hb.cell (p := ⟨b3, 0, none⟩) l3).trans h3
    rw [hB] at hP
    have HB := Lib.hid hB
    clear hB
    go_wp2_with fail
    go_ret
    exact ⟨ret_bool (by rw [hP.out]; rfl), hb⟩
  | false =>
    rintro e w1 ⟨rfl, hb⟩
    rw [hB] at hP
    have HB := Lib.hid hB
    clear hB
    go_wp2_with fail
    go_ret
    exact ⟨ret_bool (by rw [hP.out]; rfl), hb⟩
end Go.Proofs.Ytkmhemcnpbhdfaa
