/- The fixed example of chapter 33: the relays. -/
import Derived.Test.YthedpegaelpbdaaFD
import Derived.Test.YthedpegaelpbdaaEC
namespace Go.Proofs.Ythedpegaelpbdaa
open Go.ChangeShapes Go.WideShapes Go.ChangeAt Go.RowKit Go.Joins Go.Deep
set_option linter.unusedVariables false
set_option linter.unusedSimpArgs false
attribute [local go_sem ↓] execOp_call_val
attribute [local go_sem] callVal_func setCell_drewN alloc_drewN sEq_walk NetH.cells

def flatP (t : Int) : List (Int × Int) := [(100, t), (200, t)]
def rlC1 : Cr := ⟨⟨#[83]⟩, ⟨#[76]⟩, ⟨#[66]⟩, flatP 600, 100, 50⟩
def rlC2 : Cr := ⟨⟨#[84]⟩, ⟨#[77]⟩, ⟨#[68]⟩, flatP 300, 100, 50⟩
theorem flat_any (t : Int) (w : World) : Calls Try.prog 93 #[.int .i64 t] w fun e w' => e = .returned (.slice (some ⟨w.heap.size, 0, none⟩) 2 2) ∧ w' = w.alloc (.cells #[.int .i64 100, .int .i64 t, .int .i64 200, .int .i64 t] 126) := by
  go_enter Try.func93, Try.ntmps93
  go_wp2_with fail
  go_ret
  exact ⟨rfl, rfl⟩
theorem flat_rd {w : World} {g : Nat} {t : Int} (h : Blk w g 126 #[.int .i64 100, .int .i64 t, .int .i64 200, .int .i64 t]) : RdP w w.heap.size (some ⟨g, 0, none⟩) 2 (flatP t) :=
  rd_lit (vs := ptCells (flatP t)) h rfl h.lt
set_option maxHeartbeats 1000000 in
theorem relays_any (w : World) : Calls Try.prog 57 #[] w fun e w' => ∃ (g : Nat) (rs : List Ch), e = .returned (.slice (some ⟨g, 0, none⟩) 2 2) ∧ rs.map Ch.r = [rlC1, rlC2] ∧ RdCh w' w'.heap.size (some ⟨g, 0, none⟩) 2 rs ∧ Below w.heap.size w w' := by
  go_enter Try.func57, Try.ntmps57
  go_wp2_with fail
  refine (flat_any 600 w).mono ?_
  rintro e w1 ⟨rfl, rfl⟩
  go_wp2_with fail
  refine (flat_any 300 _).mono ?_
  rintro e w2 ⟨rfl, rfl⟩
  go_wp2_with fail
  go_ret
  refine ⟨w.heap.size + 1 + 1, [⟨rlC1, some ⟨w.heap.size, 0, none⟩, 2, 2⟩, ⟨rlC2, some ⟨w.heap.size + 1, 0, none⟩, 2, 2⟩], ?_, rfl, ⟨rfl, ?_, ?_⟩, ?_⟩
  · simp
  · refine rd_lit (size := 6) (n := 2) (T := 68) (vs := [⟨rlC1, some ⟨w.heap.size, 0, none⟩, 2, 2⟩, ⟨rlC2, some ⟨w.heap.size + 1, 0, none⟩, 2, 2⟩].flatMap Ch.cells) ?_ ?_ ?_
    · exact Blk.new_ (by simp)
    · rfl
    · simp
  · intro z hz
    rcases List.mem_cons.1 hz with rfl | hz
    · exact ⟨flat_rd (((Blk.new w _ _).alloc _).alloc _), by show 2 ≤ _; omega⟩
    · rw [List.mem_singleton.1 hz]
      exact ⟨flat_rd ((Blk.new_ (by simp)).alloc _), by show 2 ≤ _; omega⟩
  · exact (((Below.refl _ _).alloc (Nat.le_refl _) _).alloc (by simp) _).alloc (by simp; omega) _
end Go.Proofs.Ythedpegaelpbdaa
