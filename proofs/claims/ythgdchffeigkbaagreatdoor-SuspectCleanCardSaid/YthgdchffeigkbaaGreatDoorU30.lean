import Derived.Test.YthgdchffeigkbaaGreatDoorU25
import Derived.Test.YthgdchffeigkbaaGreatDoorU28
import Derived.Test.YthgdchffeigkbaaGreatDoorCards
import Derived.Test.YthgdchffeigkbaaGreatDoorTie
import Derived.JoinedOf
import Derived.RowKitTokens
import Derived.Lib.LaidTab
import Derived.LaidLaws
import Derived.LaidHandle
import Derived.Stop.Joined
import Derived.Stop.LaidErr
import Derived.Lay
import Derived.Handed
set_option linter.unusedVariables false
set_option linter.unusedSimpArgs false
namespace Go.Proofs.YthgdchffeigkbaaGreatDoor
set_option maxRecDepth 100000
section
open Go.ChangeShapes Go.WideShapes Go.ChangeAt Go.RowKit Go.Joins Go.Deep
section
variable {H:Type} {enc:TypeId×Value→H} {w:World} {sp:Nat→Bool}
theorem open_Mi {fuel:Nat} {cs:List Value} {y:DataW H×List MemPlace} (h:DataW.trod enc Tryz.prog w 0 sp true fuel 57 cs=some y):∃ x:Mi,cs=x.cells∧x.txt.size≤maxLen:=by
 obtain ⟨hl,hf⟩:=open_flat Tryz.underlying57 (by kernel_rfl) (by kernel_rfl) h;obtain ⟨v0,n0,y0,hv0,ht0⟩:=hf 0 _ rfl;obtain ⟨v1,n1,y1,hv1,ht1⟩:=hf 1 _ rfl;obtain ⟨v2,n2,y2,hv2,ht2⟩:=hf 2 _ rfl;obtain ⟨v3,n3,y3,hv3,ht3⟩:=hf 3 _ rfl;obtain ⟨x0,e0,_⟩:=open_int1 Tryz.underlying3 ht0;obtain ⟨s,e1,_⟩:=open_str1 Tryz.underlying9 ht1;obtain ⟨t,e2,k2⟩:=open_str1 Tryz.underlying55 ht2;obtain ⟨x3,e3,_⟩:=open_int1 Tryz.underlying3 ht3;injection e0 with e0;injection e1 with e1;injection e2 with e2;injection e3 with e3;subst e0;subst e1;subst e2;subst e3;refine ⟨⟨x0,s,t,x3⟩,?_,k2⟩;have hl':cs.length=4:=hl
 match cs,hl',hv0,hv1,hv2,hv3 with
 | [c0,c1,c2,c3],_,hv0,hv1,hv2,hv3=>
  simp at hv0 hv1 hv2 hv3;subst hv0 hv1 hv2 hv3;rfl
theorem open_mis {r:Reach} {b0:Nat} {v:Value} {d:DataW H} {p:List MemPlace} (hv:Value.okWide Tryz.prog w r b0 31 v) (h:DataW.Trod enc Tryz.prog w 0 sp true 31 v d p) :
    ∃ (A:Option Addr) (n c:Nat) (l:List Mi),v=.slice A n c∧n≤c∧c≤maxLen∧(∀ m∈l,m.txt.size≤maxLen)∧RdMi w w.heap.size A n l:=by
 obtain ⟨A,n,c,rfl⟩:=okWide_slice Tryz.underlying31 hv;obtain ⟨fuel,hf⟩:=h;obtain ⟨A',n',c',xs,h1,h2,h3,hl,hq,h4⟩:=open_list Mi.cells 4 (fun x:Mi=>x.txt.size≤maxLen) Tryz.underlying31 (by kernel_rfl) (by omega) Mi.len (fun fu cs' y hy=>open_Mi hy) hf;simp [Value.cells] at h1;obtain ⟨rfl,rfl,rfl⟩:=h1;exact ⟨_,_,_,xs,rfl,h2,h3,hq,⟨hl,h4⟩⟩
end
end
section
open Go.ChangeShapes Go.WideShapes Go.ChangeAt Go.RowKit Go.Joins
theorem jf_laid:laidOutB Tryz.prog=true:=by kernel_rfl
theorem jf_maps:mapsRowed Tryz.prog=true:=by kernel_rfl
theorem jf_stops:(Tryz.prog.stops == [])=true:=by kernel_rfl
theorem jf_knobs:(Tryz.prog.stopKnobs == [])=true:=by kernel_rfl
theorem jf_keys:(Rows.topEstimatedRow.plainKeys == Tryz.prog.plainKeys)=true:=by kernel_rfl
theorem jf_heard:Tryz.prog.stopsHeard=true:=by kernel_rfl
theorem jf_enter:Tryz.prog.mayEnter=true:=by kernel_rfl
theorem jf_lifts:(Rows.topEstimatedRow.lifted == Tryz.prog.liftsFinal)=true:=by kernel_rfl
end
section
open Go.ChangeShapes Go.WideShapes Go.ChangeAt Go.RowKit
theorem laid_tail {P:Program} {W:World} {x:String×DataW Unit} {rest:List (String×DataW Unit)} (h:laidMet P (x::rest) W):laidMet P rest W:=by
 obtain ⟨ps,⟨g,t,cs,fuel,p,q,_,_,_,_,hr,hps⟩,hn,hz⟩:=h;subst hps;exact ⟨q,hr,(List.nodup_append.1 hn).2.1,fun b off hp=>hz b off (List.mem_append_right _ hp)⟩
theorem tab_of {W : World} {x y : String × DataW Unit} {rest : List (String × DataW Unit)} (h : laidMet Tryz.prog (x :: y :: ("internal/strconv.uint64pow10", Lib.tabData .u64 Lib.pow10Tab) :: rest) W) : TabOk W :=
 Lib.tabIs_of_head (t := 274) (n := 20) (show Tryz.prog.globalNamed "internal/strconv.uint64pow10" = some 1 by kernel_rfl) (by kernel_rfl) (by kernel_rfl) Tryz.underlying214 (by kernel_rfl) (by kernel_rfl) (laid_tail (laid_tail h))
noncomputable def laidWorld5 (os:Os):World:=World.laidAll Tryz.prog os Rows.topEstimatedRow.laid
theorem laidWorld5_met0 (os:Os) (args:Array Value):laidMet Tryz.prog Rows.topEstimatedRow.laid ((laidWorld5 os).forCall (fun _ _=>0) ⟨#[],args,[]⟩).memory:=
 laidMet_laidAll args (by kernel_rfl) (by kernel_rfl)
theorem laidWorld5_met (os:Os) (args:Array Value):laidMetH Tryz.prog Rows.topEstimatedRow.laid ((laidWorld5 os).forCall (fun _ _=>0) ⟨#[],args,[]⟩).memory:=
 laidWorld5_met0 os args
theorem laidWorld5_ok {W:World} (h:laidMetH Tryz.prog Rows.topEstimatedRow.laid W):TabOk W:=tab_of h
end
end Go.Proofs.YthgdchffeigkbaaGreatDoor
