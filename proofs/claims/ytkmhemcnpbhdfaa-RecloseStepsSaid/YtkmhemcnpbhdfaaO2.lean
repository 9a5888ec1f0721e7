/- A slice of integers and a reclosing rule that came in. -/
import Derived.Test.YtkmhemcnpbhdfaaO1
import Derived.Test.YtkmhemcnpbhdfaaI1
namespace Go.Proofs.Ytkmhemcnpbhdfaa
open Go.ChangeShapes Go.WideShapes Go.ChangeAt Go.RowKit Go.Joins Go.Deep
set_option linter.unusedVariables false

section
variable {H : Type} {enc : TypeId × Value → H} {w : World} {sp : Nat → Bool}
theorem open_ints1 {fuel : Nat} {cs : List Value} {x : DataW H × List MemPlace} (h : DataW.trod enc Try.prog w 0 sp true fuel 39 cs = some x) :
    ∃ (A : Option Addr) (n c : Nat) (zs : List Int), cs = [.slice A n c] ∧ n ≤ c ∧ c ≤ maxLen ∧ (∀ z ∈ zs, (Lit.int .i64 z).wf = true) ∧ RdI w w.heap.size A n zs := by
  obtain ⟨A, n, c, xs, h1, h2, h3, _, hq, h4⟩ := open_list (fun z : Int => [.int .i64 z]) 1 (fun z => (Lit.int .i64 z).wf = true) Try.underlying39 (by kernel_rfl) (by omega) (fun _ => rfl) (fun fu cs' y hy => open_int1 Try.underlying3 hy) h
  exact ⟨A, n, c, xs, h1, h2, h3, hq, by unfold RdI ints; rw [List.map_eq_flatMap]; exact h4⟩
theorem open_ints_arg {v : Value} {d : DataW H} {p : List MemPlace} (hv : ∃ A n c, v = .slice A n c) (h : DataW.Trod enc Try.prog w 0 sp true 39 v d p) :
    ∃ (A : Option Addr) (n c : Nat) (zs : List Int), v = .slice A n c ∧ n ≤ c ∧ c ≤ maxLen ∧ (∀ z ∈ zs, (Lit.int .i64 z).wf = true) ∧ RdI w w.heap.size A n zs := by
  obtain ⟨A, n, c, rfl⟩ := hv
  obtain ⟨fuel, hf⟩ := h
  obtain ⟨A', n', c', zs, h1, h2, h3, h4, h5⟩ := open_ints1 hf
  simp [Value.cells] at h1
  obtain ⟨rfl, rfl, rfl⟩ := h1
  exact ⟨_, _, _, zs, rfl, h2, h3, h4, h5⟩
theorem open_rule {r : Reach} {b0 : Nat} {v : Value} {d : DataW H} {p : List MemPlace} (hv : Value.okWide Try.prog w r b0 41 v) (h : DataW.Trod enc Try.prog w 0 sp true 41 v d p) :
    ∃ (A : Option Addr) (n c : Nat) (zs : List Int) (reclaim : Int), v = .agg #[.slice A n c, .int .i64 reclaim] ∧ n ≤ c ∧ c ≤ maxLen ∧ RdI w w.heap.size A n zs := by
  obtain ⟨v0, v1, y0, y1, m, rfl, _, _, h0, h1⟩ := open_agg2 Try.underlying41 (by kernel_rfl) (by kernel_rfl) hv h
  obtain ⟨A, n, c, zs, e0, h2, h3, _, h5⟩ := open_ints1 h0
  obtain ⟨z, e1, _⟩ := open_int1 Try.underlying3 h1
  simp at e0 e1
  subst e0; subst e1
  exact ⟨A, n, c, zs, z, rfl, h2, h3, h5⟩
end
end Go.Proofs.Ytkmhemcnpbhdfaa
