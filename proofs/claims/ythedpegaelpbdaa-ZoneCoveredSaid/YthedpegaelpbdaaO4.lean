/- Places and relays that came in. -/
import Derived.Test.YthedpegaelpbdaaO3
import Derived.Test.YthedpegaelpbdaaV9
namespace Go.Proofs.Ythedpegaelpbdaa
open Go.ChangeShapes Go.WideShapes Go.ChangeAt Go.RowKit Go.Joins Go.Deep
set_option linter.unusedVariables false

section
variable {H : Type} {enc : TypeId × Value → H} {w : World} {sp : Nat → Bool}
def Zs.Fit (x : Zs) : Prop := (Lit.int .i64 x.reach).wf = true ∧ (Lit.int .i64 x.delay).wf = true
theorem open_Zs {fuel : Nat} {cs : List Value} {y : DataW H × List MemPlace} (h : DataW.trod enc Try.prog w 0 sp true fuel 52 cs = some y) : ∃ x : Zs, cs = x.cells ∧ x.Fit := by
  obtain ⟨hl, hf⟩ := open_flat Try.underlying52 (by kernel_rfl) (by kernel_rfl) h
  obtain ⟨v0, n0, y0, hv0, ht0⟩ := hf 0 _ rfl
  obtain ⟨x0, e0, g0⟩ := open_int1 Try.underlying3 ht0
  injection e0 with e0
  subst e0
  obtain ⟨v1, n1, y1, hv1, ht1⟩ := hf 1 _ rfl
  obtain ⟨x1, e1, g1⟩ := open_int1 Try.underlying3 ht1
  injection e1 with e1
  subst e1
  refine ⟨⟨x0, x1⟩, ?_, ⟨g0, g1⟩⟩
  have hl' : cs.length = 2 := hl
  match cs, hl', hv0, hv1 with
  | [c0, c1], _, hv0, hv1 =>
    simp at hv0 hv1
    subst hv0 hv1
    rfl
theorem open_Zss {fuel : Nat} {cs : List Value} {y : DataW H × List MemPlace} (h : DataW.trod enc Try.prog w 0 sp true fuel 53 cs = some y) :
    ∃ (A : Option Addr) (n c : Nat) (xs : List Zs), cs = [.slice A n c] ∧ n ≤ c ∧ c ≤ maxLen ∧ (∀ x ∈ xs, x.Fit) ∧ RdZs w w.heap.size A n xs := by
  obtain ⟨A, n, c, xs, h1, h2, h3, hl, hq, h4⟩ := open_list Zs.cells 2 Zs.Fit Try.underlying53 (by kernel_rfl) (by omega) Zs.len (fun fu cs' y hy => open_Zs hy) h
  exact ⟨A, n, c, xs, h1, h2, h3, hq, hl, h4⟩
set_option maxRecDepth 100000 in
theorem open_fp {r : Reach} {b0 : Nat} {v : Value} {d : DataW H} {p : List MemPlace} (hv : Value.okWide Try.prog w r b0 31 v) (h : DataW.Trod enc Try.prog w 0 sp true 31 v d p) :
    ∃ x : Fp, v = .agg #[.string x.branch, .int .i64 x.part] := by
  obtain ⟨v0, v1, y0, y1, m, rfl, _, _, h0, h1⟩ := open_agg2 Try.underlying31 (by kernel_rfl) (by kernel_rfl) hv h
  obtain ⟨s, e0, _⟩ := open_str1 Try.underlying9 h0
  obtain ⟨z, e1, _⟩ := open_int1 Try.underlying3 h1
  simp at e0 e1
  subst e0; subst e1
  exact ⟨⟨s, z⟩, rfl⟩
set_option maxRecDepth 100000 in
theorem open_zr {r : Reach} {b0 : Nat} {v : Value} {d : DataW H} {p : List MemPlace} (hv : Value.okWide Try.prog w r b0 57 v) (h : DataW.Trod enc Try.prog w 0 sp true 57 v d p) :
    ∃ (x : Zr) (A : Option Addr) (n c : Nat), v = .agg #[.string x.node, .string x.branch, .slice A n c] ∧ n ≤ 9223372036854775807 ∧ RdZs w w.heap.size A n x.zones := by
  obtain ⟨v0, v1, v2, y0, y1, y2, m, rfl, _, _, h0, h1, h2⟩ := open_agg3 Try.underlying57 (by kernel_rfl) (by kernel_rfl) hv h
  obtain ⟨s, e0, _⟩ := open_str1 Try.underlying9 h0
  obtain ⟨t, e1, _⟩ := open_str1 Try.underlying9 h1
  obtain ⟨A, n, c, zs, e2, k1, k2, _, k4⟩ := open_Zss h2
  simp at e0 e1 e2
  subst e0; subst e1; subst e2
  exact ⟨⟨s, t, zs⟩, A, n, c, rfl, by simp only [maxLen] at k2; omega, k4⟩
set_option maxRecDepth 100000 in
theorem open_Zh {fuel : Nat} {cs : List Value} {y : DataW H × List MemPlace} (h : DataW.trod enc Try.prog w 0 sp true fuel 57 cs = some y) : ∃ x : Zh, cs = x.cells ∧ (RdZs w w.heap.size x.A x.n x.r.zones ∧ x.n ≤ 9223372036854775807) := by
  obtain ⟨hl, hf⟩ := open_flat Try.underlying57 (by kernel_rfl) (by kernel_rfl) h
  obtain ⟨v0, n0, y0, hv0, ht0⟩ := hf 0 _ rfl
  obtain ⟨v1, n1, y1, hv1, ht1⟩ := hf 1 _ rfl
  obtain ⟨v2, n2, y2, hv2, ht2⟩ := hf 2 _ rfl
  obtain ⟨s, e0, _⟩ := open_str1 Try.underlying9 ht0
  obtain ⟨t, e1, _⟩ := open_str1 Try.underlying9 ht1
  obtain ⟨A, n, c, zs, e2, k1, k2, _, k4⟩ := open_Zss ht2
  injection e0 with e0
  injection e1 with e1
  injection e2 with e2
  subst e0; subst e1; subst e2
  refine ⟨⟨⟨s, t, zs⟩, A, n, c⟩, ?_, k4, by show n ≤ _; simp only [maxLen] at k2; omega⟩
  have hl' : cs.length = 3 := hl
  match cs, hl', hv0, hv1, hv2 with
  | [c0, c1, c2], _, hv0, hv1, hv2 =>
    simp at hv0 hv1 hv2
    subst hv0 hv1 hv2
    rfl
theorem open_zrs {v : Value} {d : DataW H} {p : List MemPlace} (hv : ∃ A n c, v = .slice A n c) (h : DataW.Trod enc Try.prog w 0 sp true 60 v d p) :
    ∃ (A : Option Addr) (n c : Nat) (l : List Zh), v = .slice A n c ∧ n ≤ c ∧ c ≤ maxLen ∧ RdZh w w.heap.size A n l := by
  obtain ⟨A, n, c, rfl⟩ := hv
  obtain ⟨fuel, hf⟩ := h
  obtain ⟨A', n', c', xs, h1, h2, h3, hl, hq, h4⟩ := open_list Zh.cells 3 (fun x : Zh => RdZs w w.heap.size x.A x.n x.r.zones ∧ x.n ≤ 9223372036854775807) Try.underlying60 (by kernel_rfl) (by omega) Zh.len (fun fu cs' y hy => open_Zh hy) hf
  simp [Value.cells] at h1
  obtain ⟨rfl, rfl, rfl⟩ := h1
  exact ⟨_, _, _, xs, rfl, h2, h3, ⟨hl, h4, hq⟩⟩
set_option maxRecDepth 100000 in
theorem open_zrs2 {r : Reach} {b0 : Nat} {v : Value} {d : DataW H} {p : List MemPlace} (hv : Value.okWide Try.prog w r b0 60 v) (h : DataW.Trod enc Try.prog w 0 sp true 60 v d p) :
    ∃ (A : Option Addr) (n c : Nat) (l : List Zh), v = .slice A n c ∧ n ≤ c ∧ c ≤ maxLen ∧ RdZh w w.heap.size A n l := open_zrs (okWide_slice Try.underlying60 hv) h
end
end Go.Proofs.Ythedpegaelpbdaa
