/- The parser of package relaylang: term, expr, factor. -/
import Derived.Test.YtaanoljfhnfjoaaGreatDoorRF6
import Derived.Test.YtaanoljfhnfjoaaGreatDoorAP
namespace Go.Proofs.YtaanoljfhnfjoaaGreatDoor
open Go.ChangeShapes Go.WideShapes Go.ChangeAt Go.RowKit
set_option linter.unusedVariables false
set_option linter.unusedSimpArgs false
attribute [local go_sem ↓] execOp_call_val
attribute [local go_sem] callVal_func setCell_drewN alloc_drewN sEq_walk

set_option maxHeartbeats 1000000 in
theorem term_ok (n : Nat) (p : Part) (hP : PartOk 64 n p) (hS : Shr p) : PartOk 52 n (chainP kAND 4 p) := fun g s bad w hB hn hs hE => by
  go_enter Tryz.func52, Tryz.ntmps52
  go_wp2_with fail
  refine (chain_any 64 (callFunc_enter Tryz.func64 (by kernel_rfl) (by rfl)) n p hP hS ⟨#[32, 65, 78, 68, 32]⟩ 4 (by decide) (by decide) g s bad w hB hn hs hE).mono ?_
  rintro e w' ⟨hg, l, v, s', b', rfl, h⟩
  have H := Lib.hid h
  have HG := Lib.hid hg
  clear h hg
  go_wp2_with fail
  go_ret
  exact ⟨HG.out, l, v, s', b', rfl, H.out⟩
set_option maxHeartbeats 1000000 in
theorem expr_ok (n : Nat) (p : Part) (hP : PartOk 52 n p) (hS : Shr p) : PartOk 31 n (chainP kOR 5 p) := fun g s bad w hB hn hs hE => by
  go_enter Tryz.func31, Tryz.ntmps31
  go_wp2_with fail
  refine (chain_any 52 (callFunc_enter Tryz.func52 (by kernel_rfl) (by rfl)) n p hP hS ⟨#[32, 79, 82, 32]⟩ 5 (by decide) (by decide) g s bad w hB hn hs hE).mono ?_
  rintro e w' ⟨hg, l, v, s', b', rfl, h⟩
  have H := Lib.hid h
  have HG := Lib.hid hg
  clear h hg
  go_wp2_with fail
  go_ret
  exact ⟨HG.out, l, v, s', b', rfl, H.out⟩
end Go.Proofs.YtaanoljfhnfjoaaGreatDoor
