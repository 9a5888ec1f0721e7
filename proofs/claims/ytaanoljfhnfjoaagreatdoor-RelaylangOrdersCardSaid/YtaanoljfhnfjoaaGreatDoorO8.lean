/- Relay programs that came in. -/
import Derived.Test.YtaanoljfhnfjoaaGreatDoorO1
import Derived.Test.YtaanoljfhnfjoaaGreatDoorRG3
import Derived.Lib.SmallJoins
import Derived.ChangeMaps5
namespace Go.Proofs.YtaanoljfhnfjoaaGreatDoor
open Go.ChangeShapes Go.WideShapes Go.ChangeAt Go.RowKit Go.Joins Go.Deep
set_option linter.unusedVariables false

section
variable {H : Type} {enc : TypeId × Value → H} {w : World} {sp : Nat → Bool}
theorem nil_cap {P : Program} {t e : TypeId} {fuel : Nat} {n c : Nat} {x : DataW H × List MemPlace} {held : Bool} (ht : P.underlying t = some (.slice e)) (h : DataW.trod enc P w 0 sp held fuel t [.slice none n c] = some x) : c = 0 := by
  rcases open_slice ht h with ⟨h1, _⟩ | ⟨a, len, cap, m, fu, D, Pl, h1, _⟩
  · injection h1 with h1 _
    injection h1 with _ _ h1
  · injection h1 with h1 _
    injection h1 with h1 _ _
    cases h1
set_option maxRecDepth 100000 in
theorem open_str_arg {r : Reach} {b0 : Nat} {t : TypeId} {v : Value} {d : DataW H} {ps : List MemPlace} (ht : Tryz.prog.underlying t = some .string) (hval : Value.okWide Tryz.prog w r b0 t v) (hd : DataW.Trod enc Tryz.prog w 0 sp true t v d ps) : ∃ s : ByteArray, v = .string s ∧ s.size ≤ maxLen := by
  obtain ⟨s, h1, _, _, h2⟩ := Go.ChangeMaps.open_string ht hval hd
  exact ⟨s, h1, h2⟩
theorem open_Nd {fuel : Nat} {cs : List Value} {y : DataW H × List MemPlace} (h : DataW.trod enc Tryz.prog w 0 sp true fuel 41 cs = some y) : ∃ x : Nd, cs = x.cells ∧ x.name.size ≤ maxLen := by
  obtain ⟨hl, hf⟩ := open_flat Tryz.underlying41 (by kernel_rfl) (by kernel_rfl) h
  obtain ⟨v0, n0, y0, hv0, ht0⟩ := hf 0 _ rfl
  obtain ⟨x0, e0, g0⟩ := open_int1 Tryz.underlying3 ht0
  injection e0 with e0
  subst e0
  obtain ⟨v1, n1, y1, hv1, ht1⟩ := hf 1 _ rfl
  obtain ⟨x1, e1, g1⟩ := open_str1 Tryz.underlying9 ht1
  injection e1 with e1
  subst e1
  obtain ⟨v2, n2, y2, hv2, ht2⟩ := hf 2 _ rfl
  obtain ⟨x2, e2, g2⟩ := open_int1 Tryz.underlying3 ht2
  injection e2 with e2
  subst e2
  refine ⟨⟨x0, x1, x2⟩, ?_, g1⟩
  have hl' : cs.length = 3 := hl
  match cs, hl', hv0, hv1, hv2 with
  | [c0, c1, c2], _, hv0, hv1, hv2 =>
    simp at hv0 hv1 hv2
    subst hv0 hv1 hv2
    rfl
theorem open_Rh {fuel : Nat} {cs : List Value} {y : DataW H × List MemPlace} (h : DataW.trod enc Tryz.prog w 0 sp true fuel 39 cs = some y) : ∃ x : Rh, cs = x.cells ∧ (RdNd w w.heap.size x.A x.n x.r.expr ∧ x.n ≤ 9223372036854775807) ∧ x.r.Fit := by
  obtain ⟨hl, hf⟩ := open_flat Tryz.underlying39 (by kernel_rfl) (by kernel_rfl) h
  obtain ⟨v0, n0, y0, hv0, ht0⟩ := hf 0 _ rfl
  obtain ⟨v1, n1, y1, hv1, ht1⟩ := hf 1 _ rfl
  obtain ⟨s, e0, g0⟩ := open_str1 Tryz.underlying9 ht0
  obtain ⟨A, n, c, xs, e1, k1, k2, k3, k4, k5⟩ := open_list Nd.cells 3 (fun x : Nd => x.name.size ≤ maxLen) Tryz.underlying37 (by kernel_rfl) (by omega) Nd.len (fun fu cs' y hy => open_Nd hy) ht1
  injection e0 with e0
  injection e1 with e1
  subst e0; subst e1
  refine ⟨⟨⟨s, xs⟩, A, n, c⟩, ?_, ⟨⟨k3, k5⟩, by show n ≤ _; simp only [maxLen] at k2; omega⟩, g0, k4⟩
  have hl' : cs.length = 2 := hl
  match cs, hl', hv0, hv1 with
  | [c0, c1], _, hv0, hv1 =>
    simp at hv0 hv1
    subst hv0 hv1
    rfl
set_option maxRecDepth 100000 in
theorem open_rhs {r : Reach} {b0 : Nat} {v : Value} {d : DataW H} {p : List MemPlace} (hv : Value.okWide Tryz.prog w r b0 22 v) (h : DataW.Trod enc Tryz.prog w 0 sp true 22 v d p) :
    ∃ (A : Option Addr) (n c : Nat) (l : List Rh), v = .slice A n c ∧ n ≤ c ∧ c ≤ maxLen ∧ (A = none → c = 0) ∧ RdRh w w.heap.size A n l ∧ ∀ z ∈ l, z.r.Fit := by
  obtain ⟨A, n, c, rfl⟩ := okWide_slice Tryz.underlying22 hv
  obtain ⟨fuel, hf⟩ := h
  have hnil : A = none → c = 0 := fun e => by subst e; exact nil_cap Tryz.underlying22 hf
  obtain ⟨A', n', c', xs, h1, h2, h3, hl, hq, h4⟩ := open_list Rh.cells 2 (fun x : Rh => (RdNd w w.heap.size x.A x.n x.r.expr ∧ x.n ≤ 9223372036854775807) ∧ x.r.Fit) Tryz.underlying22 (by kernel_rfl) (by omega) Rh.len (fun fu cs' y hy => open_Rh hy) hf
  simp [Value.cells] at h1
  obtain ⟨rfl, rfl, rfl⟩ := h1
  exact ⟨_, _, _, xs, rfl, h2, h3, hnil, ⟨hl, h4, fun z hz => (hq z hz).1⟩, fun z hz => (hq z hz).2⟩
end
end Go.Proofs.YtaanoljfhnfjoaaGreatDoor
