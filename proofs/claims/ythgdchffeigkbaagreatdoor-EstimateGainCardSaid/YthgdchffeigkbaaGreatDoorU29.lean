import Derived.Test.YthgdchffeigkbaaGreatDoorU13
import Derived.Lib.LaidTab
import Derived.LaidLaws
import Derived.LaidHandle
import Derived.RowKitTokens
import Derived.Stop.Joined
import Derived.Stop.LaidErr
import Derived.Lay
import Derived.Handed
import Derived.Test.YthgdchffeigkbaaGreatDoorCards
import Derived.Test.YthgdchffeigkbaaGreatDoorTie
import Derived.JoinedOf
set_option linter.unusedVariables false
set_option linter.unusedSimpArgs false
namespace Go.Proofs.YthgdchffeigkbaaGreatDoor
section
open Go.ChangeShapes Go.WideShapes Go.ChangeAt Go.RowKit
theorem laid_tail {P:Program} {W:World} {x:String×DataW Unit} {rest:List (String×DataW Unit)} (h:laidMet P (x::rest) W):laidMet P rest W:=by
 obtain ⟨ps,⟨g,t,cs,fuel,p,q,_,_,_,_,hr,hps⟩,hn,hz⟩:=h;subst hps;exact ⟨q,hr,(List.nodup_append.1 hn).2.1,fun b off hp=>hz b off (List.mem_append_right _ hp)⟩
theorem tab_of {W : World} {x y : String × DataW Unit} {rest : List (String × DataW Unit)} (h : laidMet Tryz.prog (x :: y :: ("internal/strconv.uint64pow10", Lib.tabData .u64 Lib.pow10Tab) :: rest) W) : TabOk W :=
 Lib.tabIs_of_head (t := 274) (n := 20) (show Tryz.prog.globalNamed "internal/strconv.uint64pow10" = some 1 by kernel_rfl) (by kernel_rfl) (by kernel_rfl) Tryz.underlying214 (by kernel_rfl) (by kernel_rfl) (laid_tail (laid_tail h))
noncomputable def laidWorld5 (os:Os):World:=World.laidAll Tryz.prog os Rows.topEstimatedRow.laid
theorem laidWorld5_met0 (os:Os) (args:Array Value):laidMet Tryz.prog Rows.topEstimatedRow.laid ((laidWorld5 os).forCall (fun _ _=>0) ⟨#[],args,[]⟩).memory:=
 laidMet_laidAll args (by kernel_rfl) (by kernel_rfl)
theorem laidWorld5_met (os:Os) (args:Array Value):laidMetH Tryz.prog Rows.topEstimatedRow.laid ((laidWorld5 os).forCall (fun _ _=>0) ⟨#[],args,[]⟩).memory:=
 laidWorld5_met0 os args
theorem laidWorld5_ok {W:World} (h:laidMetH Tryz.prog Rows.topEstimatedRow.laid W):TabOk W:=tab_of h
end
section
open Go.ChangeShapes Go.WideShapes Go.ChangeAt Go.RowKit Go.Joins
theorem jf_laid:laidOutB Tryz.prog=true:=by kernel_rfl
theorem jf_maps:mapsRowed Tryz.prog=true:=by kernel_rfl
theorem jf_stops:(Tryz.prog.stops == [])=true:=by kernel_rfl
theorem jf_knobs:(Tryz.prog.stopKnobs == [])=true:=by kernel_rfl
theorem jf_keys:(Rows.topEstimatedRow.plainKeys == Tryz.prog.plainKeys)=true:=by kernel_rfl
theorem jf_heard:Tryz.prog.stopsHeard=true:=by kernel_rfl
theorem jf_enter:Tryz.prog.mayEnter=true:=by kernel_rfl
theorem jf_lifts:(Rows.topEstimatedRow.lifted == Tryz.prog.liftsFinal)=true:=by kernel_rfl
end
end Go.Proofs.YthgdchffeigkbaaGreatDoor
