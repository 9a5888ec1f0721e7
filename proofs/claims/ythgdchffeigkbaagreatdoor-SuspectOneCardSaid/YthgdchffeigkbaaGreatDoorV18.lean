import Derived.Test.YthgdchffeigkbaaGreatDoorV12
import Derived.Lib.LaidTab
import Derived.LaidLaws
import Derived.LaidHandle
import Derived.RowKitTokens
import Derived.Stop.Joined
import Derived.Stop.LaidErr
import Derived.Lay
import Derived.Handed
set_option linter.unusedVariables false
set_option linter.unusedSimpArgs false
namespace Go.Proofs.YthgdchffeigkbaaGreatDoor
variable {W : World}
section
open Go.ChangeShapes Go.WideShapes Go.ChangeAt Go.RowKit
theorem MW{P:Program}{x:String×DataW Unit}{rest:List (String×DataW Unit)}(h:laidMet P (x::rest) W):laidMet P rest W:=by
 obtain⟨ps,⟨g,t,cs,fuel,p,q,_,_,_,_,hr,DF⟩,hn,hz⟩:=h;subst DF;exact⟨q,hr,(List.nodup_append.1 hn).2.1,fun b off hp=>hz b off (List.mem_append_right _ hp)⟩
theorem aM7 {x y : String × DataW Unit} {rest : List (String × DataW Unit)} (h : laidMet Tryz.prog (x :: y :: ("internal/strconv.uint64pow10", Lib.tabData .u64 Lib.pow10Tab) :: rest) W) : dM W :=
 Lib.tabIs_of_head (t := 274) (n := 20) (show Tryz.prog.globalNamed "internal/strconv.uint64pow10" = some 1 by kernel_rfl) (by kernel_rfl) (by kernel_rfl) Tryz.underlying214 (by kernel_rfl) (by kernel_rfl) (MW (MW h))
noncomputable def JN (os:Os):World:=World.laidAll Tryz.prog os Rows.topEstimatedRow.laid
theorem F9(os:Os)(args:Array Value):laidMet Tryz.prog Rows.topEstimatedRow.laid ((JN os).forCall (fun _ _=>0) ⟨#[],args,[]⟩).memory:=
 laidMet_laidAll args (by kernel_rfl) (by kernel_rfl)
theorem aFn(os:Os)(args:Array Value):laidMetH Tryz.prog Rows.topEstimatedRow.laid ((JN os).forCall (fun _ _=>0) ⟨#[],args,[]⟩).memory:=
 F9 os args
theorem aH4(h:laidMetH Tryz.prog Rows.topEstimatedRow.laid W):dM W:=aM7 h
end
