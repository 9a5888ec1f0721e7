/- Events that came in. -/
import Derived.Test.YtmmkkkakbbidjaaDoorJ1
import Derived.Test.YtmmkkkakbbidjaaDoorO1
import Derived.Lib.SmallJoins
import Derived.ChangeMaps5
namespace Go.Proofs.YtmmkkkakbbidjaaDoor
open Go.ChangeShapes Go.WideShapes Go.ChangeAt Go.RowKit Go.Joins Go.Deep
set_option linter.unusedVariables false

section
variable {H : Type} {enc : TypeId × Value → H} {w : World} {sp : Nat → Bool}
set_option maxRecDepth 100000 in
theorem open_str_arg {r : Reach} {b0 : Nat} {t : TypeId} {v : Value} {d : DataW H} {ps : List MemPlace} (ht : Tryd.prog.underlying t = some .string) (hval : Value.okWide Tryd.prog w r b0 t v) (hd : DataW.Trod enc Tryd.prog w 0 sp true t v d ps) : ∃ s : ByteArray, v = .string s ∧ s.size ≤ maxLen := by
  obtain ⟨s, h1, _, _, h2⟩ := Go.ChangeMaps.open_string ht hval hd
  exact ⟨s, h1, h2⟩
def Ev.FitO (x : Ev) : Prop := (Lit.int .i64 x.time).wf = true ∧ x.kind.size ≤ maxLen ∧ x.name.size ≤ maxLen ∧ (Lit.int .i64 x.value).wf = true
theorem open_Ev {fuel : Nat} {cs : List Value} {y : DataW H × List MemPlace} (h : DataW.trod enc Tryd.prog w 0 sp true fuel 31 cs = some y) : ∃ x : Ev, cs = x.cells ∧ x.FitO := by
  obtain ⟨hl, hf⟩ := open_flat Tryd.underlying31 (by kernel_rfl) (by kernel_rfl) h
  obtain ⟨v0, n0, y0, hv0, ht0⟩ := hf 0 _ rfl
  obtain ⟨x0, e0, g0⟩ := open_int1 Tryd.underlying3 ht0
  injection e0 with e0
  subst e0
  obtain ⟨v1, n1, y1, hv1, ht1⟩ := hf 1 _ rfl
  obtain ⟨x1, e1, g1⟩ := open_str1 Tryd.underlying9 ht1
  injection e1 with e1
  subst e1
  obtain ⟨v2, n2, y2, hv2, ht2⟩ := hf 2 _ rfl
  obtain ⟨x2, e2, g2⟩ := open_str1 Tryd.underlying9 ht2
  injection e2 with e2
  subst e2
  obtain ⟨v3, n3, y3, hv3, ht3⟩ := hf 3 _ rfl
  obtain ⟨x3, e3, g3⟩ := open_int1 Tryd.underlying3 ht3
  injection e3 with e3
  subst e3
  refine ⟨⟨x0, x1, x2, x3⟩, ?_, ⟨g0, g1, g2, g3⟩⟩
  have hl' : cs.length = 4 := hl
  match cs, hl', hv0, hv1, hv2, hv3 with
  | [c0, c1, c2, c3], _, hv0, hv1, hv2, hv3 =>
    simp at hv0 hv1 hv2 hv3
    subst hv0 hv1 hv2 hv3
    rfl
theorem open_Evs {fuel : Nat} {cs : List Value} {y : DataW H × List MemPlace} (h : DataW.trod enc Tryd.prog w 0 sp true fuel 22 cs = some y) :
    ∃ (A : Option Addr) (n c : Nat) (xs : List Ev), cs = [.slice A n c] ∧ n ≤ c ∧ c ≤ maxLen ∧ (∀ x ∈ xs, x.FitO) ∧ RdEv w w.heap.size A n xs := by
  obtain ⟨A, n, c, xs, h1, h2, h3, hl, hq, h4⟩ := open_list Ev.cells 4 Ev.FitO Tryd.underlying22 (by kernel_rfl) (by omega) Ev.len (fun fu cs' y hy => open_Ev hy) h
  exact ⟨A, n, c, xs, h1, h2, h3, hq, hl, h4⟩
set_option maxRecDepth 100000 in
theorem open_evs {r : Reach} {b0 : Nat} {v : Value} {d : DataW H} {p : List MemPlace} (hv : Value.okWide Tryd.prog w r b0 22 v) (h : DataW.Trod enc Tryd.prog w 0 sp true 22 v d p) :
    ∃ (A : Option Addr) (n c : Nat) (l : List Ev), v = .slice A n c ∧ n ≤ c ∧ c ≤ maxLen ∧ (∀ x ∈ l, x.Fit) ∧ RdEv w w.heap.size A n l := by
  obtain ⟨A, n, c, rfl⟩ := okWide_slice Tryd.underlying22 hv
  obtain ⟨fuel, hf⟩ := h
  obtain ⟨A', n', c', xs, h1, h2, h3, hq, h4⟩ := open_Evs hf
  simp [Value.cells] at h1
  obtain ⟨rfl, rfl, rfl⟩ := h1
  exact ⟨_, _, _, xs, rfl, h2, h3, fun x hx => ⟨(hq x hx).2.1, (hq x hx).2.2.1⟩, h4⟩
end
end Go.Proofs.YtmmkkkakbbidjaaDoor
