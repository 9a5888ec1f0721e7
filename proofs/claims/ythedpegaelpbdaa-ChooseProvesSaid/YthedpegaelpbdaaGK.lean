/- What the fixed example of chapter 31 computes. No walk in this text. -/
import Derived.Test.YthedpegaelpbdaaGT
import Derived.Test.YthedpegaelpbdaaGX
import Derived.Test.YthedpegaelpbdaaGU
import Derived.Test.YthedpegaelpbdaaFD
namespace Go.Proofs.Ythedpegaelpbdaa
open Go.ChangeShapes Go.WideShapes Go.ChangeAt Go.RowKit
set_option linter.unusedVariables false

def pM : Fp := ⟨⟨#[77]⟩, 500⟩
def pL : Fp := ⟨⟨#[76]⟩, 500⟩
theorem ex1 : cpR fdNet pM = 0 ∧ (lst fdNet pM).map Prod.snd = some [⟨#[84]⟩] := by decide +kernel
theorem ex2 : cpR fdNet pL = 0 ∧ (lst fdNet pL).map Prod.snd = some [⟨#[83]⟩] := by decide +kernel
theorem ex3 : (lst fdNet pL).map (fun r => waysR (fdSrc fdNet) (fdSrc fdNet).length (fdPl fdNet pL) r.2.length r.1 []) = some [[⟨#[83]⟩, ⟨#[76]⟩]] := by decide +kernel
theorem ex4 : isoB fdNet [⟨#[83]⟩] pL = true := by decide +kernel
theorem ex5 : ix1 fdNet ⟨#[83]⟩ = 0 ∧ ixN fdNet ⟨#[83]⟩ = -1 := by decide +kernel
theorem ex6 : wgo (fdEs fdNet [] pL) [⟨#[83]⟩, ⟨#[76]⟩] (fun v => (fdSrc fdNet).getD v false) (fdPl fdNet pL) = true := by decide +kernel
end Go.Proofs.Ythedpegaelpbdaa
