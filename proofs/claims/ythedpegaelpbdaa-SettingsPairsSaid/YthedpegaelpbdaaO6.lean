/- Relays that came in. -/
import Derived.Test.YthedpegaelpbdaaO3
import Derived.Test.YthedpegaelpbdaaE0
namespace Go.Proofs.Ythedpegaelpbdaa
open Go.ChangeShapes Go.WideShapes Go.ChangeAt Go.RowKit Go.Joins Go.Deep
set_option linter.unusedVariables false
set_option linter.unusedSimpArgs false

section
variable {H : Type} {enc : TypeId × Value → H} {w : World} {sp : Nat → Bool}
theorem open_Pt {fuel : Nat} {cs : List Value} {y : DataW H × List MemPlace} (h : DataW.trod enc Try.prog w 0 sp true fuel 126 cs = some y) : ∃ x : Int × Int, cs = [.int .i64 x.1, .int .i64 x.2] ∧ True := by
  obtain ⟨hl, hf⟩ := open_flat Try.underlying126 (by kernel_rfl) (by kernel_rfl) h
  obtain ⟨v0, n0, y0, hv0, ht0⟩ := hf 0 _ rfl
  obtain ⟨x0, e0, g0⟩ := open_int1 Try.underlying3 ht0
  injection e0 with e0
  subst e0
  obtain ⟨v1, n1, y1, hv1, ht1⟩ := hf 1 _ rfl
  obtain ⟨x1, e1, g1⟩ := open_int1 Try.underlying3 ht1
  injection e1 with e1
  subst e1
  refine ⟨⟨x0, x1⟩, ?_, trivial⟩
  have hl' : cs.length = 2 := hl
  match cs, hl', hv0, hv1 with
  | [c0, c1], _, hv0, hv1 =>
    simp at hv0 hv1
    subst hv0 hv1
    rfl
theorem open_pts {fuel : Nat} {cs : List Value} {y : DataW H × List MemPlace} (h : DataW.trod enc Try.prog w 0 sp true fuel 66 cs = some y) :
    ∃ (A : Option Addr) (n c : Nat) (xs : List (Int × Int)), cs = [.slice A n c] ∧ n ≤ c ∧ c ≤ maxLen ∧ RdP w w.heap.size A n xs := by
  obtain ⟨A, n, c, xs, h1, h2, h3, hl, hq, h4⟩ := open_list (fun p : Int × Int => [.int .i64 p.1, .int .i64 p.2]) 2 (fun _ => True) Try.underlying66 (by kernel_rfl) (by omega) (fun _ => rfl) (fun fu cs' y hy => open_Pt hy) h
  exact ⟨A, n, c, xs, h1, h2, h3, h4⟩
set_option maxRecDepth 100000 in
theorem open_Ch {fuel : Nat} {cs : List Value} {y : DataW H × List MemPlace} (h : DataW.trod enc Try.prog w 0 sp true fuel 68 cs = some y) : ∃ x : Ch, cs = x.cells ∧ (RdP w w.heap.size x.A x.n x.r.curve ∧ x.n ≤ 9223372036854775807) := by
  obtain ⟨hl, hf⟩ := open_flat Try.underlying68 (by kernel_rfl) (by kernel_rfl) h
  obtain ⟨v0, n0, y0, hv0, ht0⟩ := hf 0 _ rfl
  obtain ⟨v1, n1, y1, hv1, ht1⟩ := hf 1 _ rfl
  obtain ⟨v2, n2, y2, hv2, ht2⟩ := hf 2 _ rfl
  obtain ⟨v3, n3, y3, hv3, ht3⟩ := hf 3 _ rfl
  obtain ⟨v4, n4, y4, hv4, ht4⟩ := hf 4 _ rfl
  obtain ⟨v5, n5, y5, hv5, ht5⟩ := hf 5 _ rfl
  obtain ⟨s, e0, _⟩ := open_str1 Try.underlying9 ht0
  obtain ⟨t, e1, _⟩ := open_str1 Try.underlying9 ht1
  obtain ⟨u, e2, _⟩ := open_str1 Try.underlying9 ht2
  obtain ⟨A, n, c, zs, e3, k1, k2, k4⟩ := open_pts ht3
  obtain ⟨x4, e4, _⟩ := open_int1 Try.underlying3 ht4
  obtain ⟨x5, e5, _⟩ := open_int1 Try.underlying3 ht5
  injection e0 with e0
  injection e1 with e1
  injection e2 with e2
  injection e3 with e3
  injection e4 with e4
  injection e5 with e5
  subst e0; subst e1; subst e2; subst e3; subst e4; subst e5
  refine ⟨⟨⟨s, t, u, zs, x4, x5⟩, A, n, c⟩, ?_, k4, by show n ≤ _; simp only [maxLen] at k2; omega⟩
  have hl' : cs.length = 6 := hl
  match cs, hl', hv0, hv1, hv2, hv3, hv4, hv5 with
  | [c0, c1, c2, c3, c4, c5], _, hv0, hv1, hv2, hv3, hv4, hv5 =>
    simp at hv0 hv1 hv2 hv3 hv4 hv5
    subst hv0 hv1 hv2 hv3 hv4 hv5
    rfl
theorem open_crs {v : Value} {d : DataW H} {p : List MemPlace} (hv : ∃ A n c, v = .slice A n c) (h : DataW.Trod enc Try.prog w 0 sp true 75 v d p) :
    ∃ (A : Option Addr) (n c : Nat) (l : List Ch), v = .slice A n c ∧ n ≤ c ∧ c ≤ maxLen ∧ RdCh w w.heap.size A n l := by
  obtain ⟨A, n, c, rfl⟩ := hv
  obtain ⟨fuel, hf⟩ := h
  obtain ⟨A', n', c', xs, h1, h2, h3, hl, hq, h4⟩ := open_list Ch.cells 6 (fun x : Ch => RdP w w.heap.size x.A x.n x.r.curve ∧ x.n ≤ 9223372036854775807) Try.underlying75 (by kernel_rfl) (by omega) Ch.len (fun fu cs' y hy => open_Ch hy) hf
  simp [Value.cells] at h1
  obtain ⟨rfl, rfl, rfl⟩ := h1
  exact ⟨_, _, _, xs, rfl, h2, h3, ⟨hl, h4, hq⟩⟩
set_option maxRecDepth 100000 in
theorem open_crs2 {r : Reach} {b0 : Nat} {v : Value} {d : DataW H} {p : List MemPlace} (hv : Value.okWide Try.prog w r b0 75 v) (h : DataW.Trod enc Try.prog w 0 sp true 75 v d p) :
    ∃ (A : Option Addr) (n c : Nat) (l : List Ch), v = .slice A n c ∧ n ≤ c ∧ c ≤ maxLen ∧ RdCh w w.heap.size A n l := open_crs (okWide_slice Try.underlying75 hv) h
set_option maxRecDepth 100000 in
theorem open_cr {r : Reach} {b0 : Nat} {v : Value} {d : DataW H} {p : List MemPlace} (hv : Value.okWide Try.prog w r b0 68 v) (h : DataW.Trod enc Try.prog w 0 sp true 68 v d p) :
    ∃ x : Ch, v = .agg #[.string x.r.brk, .string x.r.branch, .string x.r.node, .slice x.A x.n x.c, .int .i64 x.r.pick, .int .i64 x.r.opn] ∧ RdP w w.heap.size x.A x.n x.r.curve ∧ x.n ≤ 9223372036854775807 := by
  obtain ⟨cs, rfl, hsz⟩ := okWide_struct Try.underlying68 hv
  obtain ⟨k0, k1, k2, k3, k4, k5, rfl⟩ := array6 (hsz.trans (by kernel_rfl))
  obtain ⟨fuel, hf⟩ := h
  obtain ⟨x, hx, h1, h2⟩ := open_Ch hf
  simp [Value.cells, Ch.cells] at hx
  refine ⟨x, ?_, h1, h2⟩
  obtain ⟨rfl, rfl, rfl, rfl, rfl, rfl⟩ := hx
  rfl
end
end Go.Proofs.Ythedpegaelpbdaa
