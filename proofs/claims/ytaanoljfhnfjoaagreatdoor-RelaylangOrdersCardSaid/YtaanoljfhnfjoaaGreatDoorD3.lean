/- Values by their names; closures of package relay. -/
import Derived.Test.YtaanoljfhnfjoaaGreatDoorD2
namespace Go.Proofs.YtaanoljfhnfjoaaGreatDoor
open Go.ChangeShapes Go.WideShapes Go.ChangeAt Go.RowKit Go.Joins Go.Deep
set_option linter.unusedVariables false
attribute [local go_sem ↓] execOp_call_val
attribute [local go_sem] callVal_func setCell_drewN alloc_drewN sEq_walk


end Go.Proofs.YtaanoljfhnfjoaaGreatDoor
