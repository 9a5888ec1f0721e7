/- Places that came in. -/
import Derived.Test.YthedpegaelpbdaaO3
import Derived.Test.YthedpegaelpbdaaV1
namespace Go.Proofs.Ythedpegaelpbdaa
open Go.ChangeShapes Go.WideShapes Go.ChangeAt Go.RowKit Go.Joins Go.Deep
set_option linter.unusedVariables false

section
variable {H : Type} {enc : TypeId × Value → H} {w : World} {sp : Nat → Bool}
set_option maxRecDepth 100000 in
theorem open_fp {r : Reach} {b0 : Nat} {v : Value} {d : DataW H} {p : List MemPlace} (hv : Value.okWide Try.prog w r b0 31 v) (h : DataW.Trod enc Try.prog w 0 sp true 31 v d p) :
    ∃ x : Fp, v = .agg #[.string x.branch, .int .i64 x.part] := by
  obtain ⟨v0, v1, y0, y1, m, rfl, _, _, h0, h1⟩ := open_agg2 Try.underlying31 (by kernel_rfl) (by kernel_rfl) hv h
  obtain ⟨s, e0, _⟩ := open_str1 Try.underlying9 h0
  obtain ⟨z, e1, _⟩ := open_int1 Try.underlying3 h1
  simp at e0 e1
  subst e0; subst e1
  exact ⟨⟨s, z⟩, rfl⟩
end
end Go.Proofs.Ythedpegaelpbdaa
