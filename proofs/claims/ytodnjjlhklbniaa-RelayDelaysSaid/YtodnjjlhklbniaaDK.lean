/- What a relay keeps in a map. -/
import Derived.Test.YtodnjjlhklbniaaDE
import Derived.Maps.OwnOps
import Derived.Maps.Views
import Derived.DeepKeys4
namespace Go.Proofs.Ytodnjjlhklbniaa
open Go.ChangeShapes Go.WideShapes Go.ChangeAt Go.RowKit
set_option linter.unusedVariables false
set_option linter.unusedSimpArgs false
attribute [local go_sem ↓] execOp_call_val
attribute [local go_sem] callVal_func setCell_drewN alloc_drewN sEq_walk


open Go.Maps
/-- what delays and latches keep, as a datum -/
def memR (v : Value) : Option (DataW Unit × List MemPlace) :=
  match v with
  | .agg a => match a.toList with | [.bool b, .int .i64 t] => some (.agg [.lit (.bool b), .lit (.int .i64 t)], []) | _ => none
  | _ => none
def memD (m : Bool × Int) : DataW Unit := .agg [.lit (.bool m.1), .lit (.int .i64 m.2)]
def memV (m : Bool × Int) : Value := .agg #[.bool m.1, .int .i64 m.2]
theorem memR_mk (m : Bool × Int) : memR (memV m) = some (memD m, []) := rfl
theorem memR_inv {v : Value} {m : Bool × Int} {ps : List MemPlace} (h : memR v = some (memD m, ps)) : v = memV m := by
  unfold memR at h
  split at h
  · split at h
    · rename_i a b t he
      injection h with h
      injection h with h _
      unfold memD at h
      injection h with h
      injection h with h1 h2
      injection h2 with h2 _
      injection h1 with h1
      injection h1 with h1
      injection h2 with h2
      injection h2 with _ h2
      unfold memV
      rw [← h1, ← h2, ← he]
    · cases h
  · cases h
theorem pl_row : (66 : TypeId) < Try.prog.types.size := of_decide_eq_true (by kernel_rfl)
theorem pl_lout : laidOutB Try.prog = true := by kernel_rfl
theorem pl_wide : (match Try.prog.underlying 66 with | some (.array _ _) | some (.struct _) => true | _ => false) = true := by kernel_rfl
set_option maxRecDepth 100000 in
theorem law_place : Keyed Try.prog 66 := Keyed.of_law (deep_law_laid pl_lout (m := 2) (by omega) pl_row (by kernel_rfl) pl_wide)
def plK (r a : Nat) : Value := .agg #[.int .i64 (r : Int), .int .i64 (a : Int)]
def plL (r a : Nat) : Lit := .string (keyBytes [.int .i64 (r : Int), .int .i64 (a : Int)])
set_option maxRecDepth 100000 in
set_option maxHeartbeats 1000000 in
theorem pl_key {r a : Nat} (hr : r ≤ 1000) (ha : a ≤ 1000) : keyOf Try.prog 66 (plK r a) = some (plL r a) := by
  have h1 : (Lit.int .i64 (r : Int)).wf = true := by simp [Lit.wf, IntKind.min, IntKind.max, IntKind.signed, IntKind.bits]; omega
  have h2 : (Lit.int .i64 (a : Int)).wf = true := by simp [Lit.wf, IntKind.min, IntKind.max, IntKind.signed, IntKind.bits]; omega
  have hsz : Try.prog.types.size = (Try.prog.types.size - 1) + 1 := (Nat.sub_add_cancel (Nat.succ_le_of_lt (Nat.lt_of_le_of_lt (Nat.zero_le _) pl_row))).symm
  have hkt : Try.prog.keyType 66 = true := by kernel_rfl
  have hc : Try.prog.cellsOf 66 = 2 := by kernel_rfl
  have hi : Try.prog.cellsOf 3 = 1 := by kernel_rfl
  have hf : (plK r a).formed Try.prog 66 = true := by
    unfold Value.formed
    rw [Try.underlying66]
    simp [plK, hc]
  have hl : ∀ d, Try.prog.keyLits (d + 1 + 1) 66 (plK r a).cells.toList = some [.int .i64 (r : Int), .int .i64 (a : Int)] := fun d => by
    have hone : ∀ n : Nat, (Lit.int .i64 (n : Int)).wf = true → Try.prog.keyLits (d + 1) 3 [.int .i64 (n : Int)] = some [.int .i64 (n : Int)] := fun n hn => by
      unfold Program.keyLits
      rw [Try.underlying3]
      simp only
      rw [if_pos ⟨trivial, hn⟩]
    unfold Program.keyLits
    rw [Try.underlying66]
    simp only [plK, Value.cells]
    simp [hc, hi, hone r h1, hone a h2]
  unfold keyOf
  rw [Try.underlying66]
  simp only
  rw [hkt, hf, hsz, hl]
  rfl
end Go.Proofs.Ytodnjjlhklbniaa
