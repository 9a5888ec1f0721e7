import Derived.Test.YthgdchffeigkbaaGreatDoorW12
import Derived.Test.YthgdchffeigkbaaGreatDoorW14
import Derived.Test.YthgdchffeigkbaaGreatDoorCards
import Derived.Test.YthgdchffeigkbaaGreatDoorTie
import Derived.JoinedOf
import Derived.RowKitTokens
import Derived.Lib.LaidTab
import Derived.LaidLaws
import Derived.LaidHandle
import Derived.Stop.Joined
import Derived.Stop.LaidErr
import Derived.Lay
import Derived.Handed
set_option linter.unusedVariables false
set_option linter.unusedSimpArgs false
namespace Go.Proofs.YthgdchffeigkbaaGreatDoor
set_option maxRecDepth 100000
variable {W : World}
section
open Go.ChangeShapes Go.WideShapes Go.ChangeAt Go.RowKit Go.Joins Go.Deep
section
variable {H:Type} {enc:TypeId×Value->H} {w:Wo} {sp:Nat->Bool}
theorem aIe{fuel:Nat}{cs:List Value}{y:DataW H×List MemPlace}(h:DataW.trod enc Tryz.prog w 0 sp true fuel 57 cs=some y):∃x:Mi,cs=x.cells/\x.txt.size<=maxLen:=by
 obtain⟨hl,hf⟩:=nI Tryz.underlying57 (by kernel_rfl) (by kernel_rfl) h;obtain⟨v0,n0,y0,uN,IF⟩:=hf 0 _ rfl;obtain⟨v1,n1,y1,nA,qZ⟩:=hf 1 _ rfl;obtain⟨v2,n2,y2,kU,t8⟩:=hf 2 _ rfl;obtain⟨v3,n3,y3,qI,ht3⟩:=hf 3 _ rfl;obtain⟨x0,e0,_⟩:=eA Tryz.underlying3 IF;obtain⟨s,e1,_⟩:=eI Tryz.underlying9 qZ;obtain⟨t,e2,k2⟩:=eI Tryz.underlying55 t8;obtain⟨x3,e3,_⟩:=eA Tryz.underlying3 ht3;injection e0 with e0;injection e1 with e1;injection e2 with e2;injection e3 with e3;subst e0;subst e1;subst e2;subst e3;refine⟨⟨x0,s,t,x3⟩,?_,k2⟩;have YK:cs.length=4:=hl
 match cs,YK,uN,nA,kU,qI with
 | [c0,c1,c2,c3],_,uN,nA,kU,qI=>
  simp at uN nA kU qI;subst uN nA kU qI;rfl
theorem aPu{r:Reach}{b0:Nat}{v:Value}{d:DataW H}{p:List MemPlace}(hv:Value.okWide Tryz.prog w r b0 31 v)(h:DataW.Trod enc Tryz.prog w 0 sp true 31 v d p):∃(A:OA)(n c:Nat)(l:List Mi),v=.slice A n c/\n<=c/\c<=maxLen/\(∀m∈l,m.txt.size<=maxLen)/\eB w w.heap.size A n l:=by
 obtain⟨A,n,c,rfl⟩:=okWide_slice Tryz.underlying31 hv;obtain⟨fuel,hf⟩:=h;obtain⟨A',n',c',xs,h1,h2,h3,hl,hq,h4⟩:=lV Mi.cells 4 (fun x:Mi=>x.txt.size<=maxLen) Tryz.underlying31 (by kernel_rfl) (by omega) Mi.len (fun fu cs' y hy=>aIe hy) hf;simp[Value.cells] at h1;obtain⟨rfl,rfl,rfl⟩:=h1;exact⟨_,_,_,xs,rfl,h2,h3,hq,⟨hl,h4⟩⟩
end
section
variable {H:Type} {enc:TypeId×Value->H} {w:Wo} {sp:Nat->Bool}
theorem UO{fuel:Nat}{cs:List Value}{x:DataW H×List MemPlace}(h:DataW.trod enc Tryz.prog w 0 sp true fuel 30 cs=some x):∃(A:OA)(n c:Nat)(zs:List Int),cs=[.slice A n c]/\n<=c/\c<=maxLen/\(∀z∈zs,(Lit.int .i64 z).wf=true)/\pK w w.heap.size A n zs:=by
 obtain⟨A,n,c,xs,h1,h2,h3,_,hq,h4⟩:=lV (fun z:Int=>[.int .i64 z]) 1 (fun z=>(Lit.int .i64 z).wf=true) Tryz.underlying30 (by kernel_rfl) (by omega) (fun _=>rfl) (fun fu cs' y hy=>eA Tryz.underlying3 hy) h;exact⟨A,n,c,xs,h1,h2,h3,hq,by unfold pK ints;rw[List.map_eq_flatMap];exact h4⟩
theorem aGZ{v:Value}{d:DataW H}{p:List MemPlace}(hv:∃A n c,v=.slice A n c)(h:DataW.Trod enc Tryz.prog w 0 sp true 30 v d p):∃(A:OA)(n c:Nat)(zs:List Int),v=.slice A n c/\n<=c/\c<=maxLen/\(∀z∈zs,(Lit.int .i64 z).wf=true)/\pK w w.heap.size A n zs:=by
 obtain⟨A,n,c,rfl⟩:=hv;obtain⟨fuel,hf⟩:=h;obtain⟨A',n',c',zs,h1,h2,h3,h4,h5⟩:=UO hf;simp[Value.cells] at h1;obtain⟨rfl,rfl,rfl⟩:=h1;exact⟨_,_,_,zs,rfl,h2,h3,h4,h5⟩
end
end
section
open Go.ChangeShapes Go.WideShapes Go.ChangeAt Go.RowKit Go.Joins
theorem aTq:laidOutB Tryz.prog=true:=by kernel_rfl
theorem aTp:mapsRowed Tryz.prog=true:=by kernel_rfl
theorem aPz:(Tryz.prog.stops == [])=true:=by kernel_rfl
theorem aPB:(Tryz.prog.stopKnobs == [])=true:=by kernel_rfl
theorem aTr:(Rows.topEstimatedRow.plainKeys == Tryz.prog.plainKeys)=true:=by kernel_rfl
theorem aPC:Tryz.prog.stopsHeard=true:=by kernel_rfl
theorem aPD:Tryz.prog.mayEnter=true:=by kernel_rfl
theorem aPA:(Rows.topEstimatedRow.lifted == Tryz.prog.liftsFinal)=true:=by kernel_rfl
end
section
open Go.ChangeShapes Go.WideShapes Go.ChangeAt Go.RowKit
theorem LF{P:Program}{x:String×DataW Unit}{rest:List (String×DataW Unit)}(h:laidMet P (x::rest) W):laidMet P rest W:=by
 obtain⟨ps,⟨g,t,cs,fuel,p,q,_,_,_,_,hr,DE⟩,hn,hz⟩:=h;subst DE;exact⟨q,hr,(List.nodup_append.1 hn).2.1,fun b off hp=>hz b off (List.mem_append_right _ hp)⟩
theorem aLz {x y : String × DataW Unit} {rest : List (String × DataW Unit)} (h : laidMet Tryz.prog (x :: y :: ("internal/strconv.uint64pow10", Lib.tabData .u64 Lib.pow10Tab) :: rest) W) : fL W :=
 Lib.tabIs_of_head (t := 274) (n := 20) (show Tryz.prog.globalNamed "internal/strconv.uint64pow10" = some 1 by kernel_rfl) (by kernel_rfl) (by kernel_rfl) Tryz.underlying214 (by kernel_rfl) (by kernel_rfl) (LF (LF h))
noncomputable def IB (os:Os):World:=World.laidAll Tryz.prog os Rows.topEstimatedRow.laid
theorem E3(os:Os)(args:Array Value):laidMet Tryz.prog Rows.topEstimatedRow.laid ((IB os).forCall (fun _ _=>0) ⟨#[],args,[]⟩).memory:=
 laidMet_laidAll args (by kernel_rfl) (by kernel_rfl)
theorem aEj(os:Os)(args:Array Value):laidMetH Tryz.prog Rows.topEstimatedRow.laid ((IB os).forCall (fun _ _=>0) ⟨#[],args,[]⟩).memory:=
 E3 os args
theorem aG0(h:laidMetH Tryz.prog Rows.topEstimatedRow.laid W):fL W:=aLz h
end
