import Derived.Test.YthgdchffeigkbaaGreatDoorW06
import Derived.ChangeMaps5
import Derived.Deep.RegionHeld
set_option linter.unusedVariables false
set_option linter.unusedSimpArgs false
namespace Go.Proofs.YthgdchffeigkbaaGreatDoor
set_option maxRecDepth 100000
variable {cs : List Value} {fuel : Nat}
section
open Go.ChangeShapes Go.WideShapes Go.ChangeAt Go.RowKit Go.Joins Go.Deep
section
variable {H:Type} {enc:TypeId×Value->H} {w:Wo} {sp:Nat->Bool}
theorem G1{P:Program}{base:Nat}{spare:Nat->Bool}{RE:Bool}{t:TypeId}{x:DataW H×List MemPlace}(ht:P.underlying t=some .bool)(h:DataW.trod enc P w base spare RE fuel t cs=some x):∃b:Bool,cs=[.bool b]:=by
 obtain⟨b,h1,_⟩:=DataW.trod_bool ht h;exact⟨b,h1⟩
theorem UN{x:DataW H×List MemPlace}(h:DataW.trod enc Tryz.prog w 0 sp true fuel 22 cs=some x):∃(A:OA)(n c:Nat)(ss:List ByteArray),cs=[.slice A n c]/\n<=c/\c<=maxLen/\(∀s∈ss,s.size<=maxLen)/\bD w w.heap.size A n ss:=by
 obtain⟨A,n,c,xs,h1,h2,h3,hl,hq,h4⟩:=lV (fun s:ByteArray=>[.string s]) 1 (fun s=>s.size<=maxLen) Tryz.underlying22 (by kernel_rfl) (by omega) (fun _=>rfl) (fun fu cs' y hy=>eI Tryz.underlying9 hy) h;exact⟨A,n,c,xs,h1,h2,h3,hq,hl,by unfold fC;rw[List.map_eq_flatMap];exact h4⟩
def Sw.Fit(x:Sw):Prop:=x.name.size<=maxLen/\x.a.size<=maxLen/\x.b.size<=maxLen
theorem aIc{y:DataW H×List MemPlace}(h:DataW.trod enc Tryz.prog w 0 sp true fuel 148 cs=some y):∃x:Sw,cs=x.cells/\x.Fit:=by
 obtain⟨hl,hf⟩:=nI Tryz.underlying148 (by kernel_rfl) (by kernel_rfl) h;obtain⟨v0,n0,y0,uN,IF⟩:=hf 0 _ rfl;obtain⟨x0,e0,g0⟩:=eI Tryz.underlying9 IF;injection e0 with e0;subst e0;obtain⟨v1,n1,y1,nA,qZ⟩:=hf 1 _ rfl;obtain⟨x1,e1,g1⟩:=eI Tryz.underlying9 qZ;injection e1 with e1;subst e1;obtain⟨v2,n2,y2,kU,t8⟩:=hf 2 _ rfl;obtain⟨x2,e2,g2⟩:=eI Tryz.underlying9 t8;injection e2 with e2;subst e2;obtain⟨v3,n3,y3,qI,ht3⟩:=hf 3 _ rfl;obtain⟨x3,e3⟩:=G1 Tryz.underlying4 ht3;injection e3 with e3;subst e3;obtain⟨v4,n4,y4,tL,ht4⟩:=hf 4 _ rfl;obtain⟨x4,e4⟩:=G1 Tryz.underlying4 ht4;injection e4 with e4;subst e4;refine⟨⟨x0,x1,x2,x3,x4⟩,?_,⟨g0,g1,g2⟩⟩;have YK:cs.length=5:=hl
 match cs,YK,uN,nA,kU,qI,tL with
 | [c0,c1,c2,c3,c4],_,uN,nA,kU,qI,tL=>
  simp at uN nA kU qI tL;subst uN nA kU qI tL;rfl
theorem aDS{y:DataW H×List MemPlace}(h:DataW.trod enc Tryz.prog w 0 sp true fuel 23 cs=some y):∃(A:OA)(n c:Nat)(xs:List Sw),cs=[.slice A n c]/\n<=c/\c<=maxLen/\(∀x∈xs,x.Fit)/\zB w w.heap.size A n xs:=by
 obtain⟨A,n,c,xs,h1,h2,h3,hl,hq,h4⟩:=lV Sw.cells 5 Sw.Fit Tryz.underlying23 (by kernel_rfl) (by omega) Sw.len (fun fu cs' y hy=>aIc hy) h;exact⟨A,n,c,xs,h1,h2,h3,hq,hl,h4⟩
def Br.Fit(x:Br):Prop:=x.name.size<=maxLen/\x.fr.size<=maxLen/\x.to.size<=maxLen/\(Lit.int .i64 x.x).wf=true/\(Lit.int .i64 x.tap).wf=true/\(Lit.int .i64 x.shift).wf=true/\(Lit.int .i64 x.limit).wf=true/\(Lit.int .i64 x.short).wf=true/\(Lit.int .i64 x.hold).wf=true
theorem aIh{y:DataW H×List MemPlace}(h:DataW.trod enc Tryz.prog w 0 sp true fuel 54 cs=some y):∃x:Br,cs=x.cells/\x.Fit:=by
 obtain⟨hl,hf⟩:=nI Tryz.underlying54 (by kernel_rfl) (by kernel_rfl) h;obtain⟨v0,n0,y0,uN,IF⟩:=hf 0 _ rfl;obtain⟨x0,e0,g0⟩:=eI Tryz.underlying9 IF;injection e0 with e0;subst e0;obtain⟨v1,n1,y1,nA,qZ⟩:=hf 1 _ rfl;obtain⟨x1,e1,g1⟩:=eI Tryz.underlying9 qZ;injection e1 with e1;subst e1;obtain⟨v2,n2,y2,kU,t8⟩:=hf 2 _ rfl;obtain⟨x2,e2,g2⟩:=eI Tryz.underlying9 t8;injection e2 with e2;subst e2;obtain⟨v3,n3,y3,qI,ht3⟩:=hf 3 _ rfl;obtain⟨x3,e3,g3⟩:=eA Tryz.underlying3 ht3;injection e3 with e3;subst e3;obtain⟨v4,n4,y4,tL,ht4⟩:=hf 4 _ rfl;obtain⟨x4,e4,g4⟩:=eA Tryz.underlying3 ht4;injection e4 with e4;subst e4;obtain⟨v5,n5,y5,NQ,ht5⟩:=hf 5 _ rfl;obtain⟨x5,e5,g5⟩:=eA Tryz.underlying3 ht5;injection e5 with e5;subst e5;obtain⟨v6,n6,y6,YD,ht6⟩:=hf 6 _ rfl;obtain⟨x6,e6,g6⟩:=eA Tryz.underlying3 ht6;injection e6 with e6;subst e6;obtain⟨v7,n7,y7,hv7,ht7⟩:=hf 7 _ rfl;obtain⟨x7,e7,g7⟩:=eA Tryz.underlying3 ht7;injection e7 with e7;subst e7;obtain⟨v8,n8,y8,LM,ht8⟩:=hf 8 _ rfl;obtain⟨x8,e8,g8⟩:=eA Tryz.underlying3 ht8;injection e8 with e8;subst e8;refine⟨⟨x0,x1,x2,x3,x4,x5,x6,x7,x8⟩,?_,⟨g0,g1,g2,g3,g4,g5,g6,g7,g8⟩⟩;have YK:cs.length=9:=hl
 match cs,YK,uN,nA,kU,qI,tL,NQ,YD,hv7,LM with
 | [c0,c1,c2,c3,c4,c5,c6,c7,c8],_,uN,nA,kU,qI,tL,NQ,YD,hv7,LM=>
  simp at uN nA kU qI tL NQ YD hv7 LM;subst uN nA kU qI tL NQ YD hv7 LM;rfl
theorem aDW{y:DataW H×List MemPlace}(h:DataW.trod enc Tryz.prog w 0 sp true fuel 24 cs=some y):∃(A:OA)(n c:Nat)(xs:List Br),cs=[.slice A n c]/\n<=c/\c<=maxLen/\(∀x∈xs,x.Fit)/\xL w w.heap.size A n xs:=by
 obtain⟨A,n,c,xs,h1,h2,h3,hl,hq,h4⟩:=lV Br.cells 9 Br.Fit Tryz.underlying24 (by kernel_rfl) (by omega) Br.len (fun fu cs' y hy=>aIh hy) h;exact⟨A,n,c,xs,h1,h2,h3,hq,hl,h4⟩
def Gn.Fit(x:Gn):Prop:=x.name.size<=maxLen/\x.node.size<=maxLen/\(Lit.int .i64 x.least).wf=true/\(Lit.int .i64 x.most).wf=true/\(Lit.int .i64 x.ramp).wf=true
theorem aIg{y:DataW H×List MemPlace}(h:DataW.trod enc Tryz.prog w 0 sp true fuel 145 cs=some y):∃x:Gn,cs=x.cells/\x.Fit:=by
 obtain⟨hl,hf⟩:=nI Tryz.underlying145 (by kernel_rfl) (by kernel_rfl) h;obtain⟨v0,n0,y0,uN,IF⟩:=hf 0 _ rfl;obtain⟨x0,e0,g0⟩:=eI Tryz.underlying9 IF;injection e0 with e0;subst e0;obtain⟨v1,n1,y1,nA,qZ⟩:=hf 1 _ rfl;obtain⟨x1,e1,g1⟩:=eI Tryz.underlying9 qZ;injection e1 with e1;subst e1;obtain⟨v2,n2,y2,kU,t8⟩:=hf 2 _ rfl;obtain⟨x2,e2,g2⟩:=eA Tryz.underlying3 t8;injection e2 with e2;subst e2;obtain⟨v3,n3,y3,qI,ht3⟩:=hf 3 _ rfl;obtain⟨x3,e3,g3⟩:=eA Tryz.underlying3 ht3;injection e3 with e3;subst e3;obtain⟨v4,n4,y4,tL,ht4⟩:=hf 4 _ rfl;obtain⟨x4,e4,g4⟩:=eA Tryz.underlying3 ht4;injection e4 with e4;subst e4;refine⟨⟨x0,x1,x2,x3,x4⟩,?_,⟨g0,g1,g2,g3,g4⟩⟩;have YK:cs.length=5:=hl
 match cs,YK,uN,nA,kU,qI,tL with
 | [c0,c1,c2,c3,c4],_,uN,nA,kU,qI,tL=>
  simp at uN nA kU qI tL;subst uN nA kU qI tL;rfl
theorem aDV{y:DataW H×List MemPlace}(h:DataW.trod enc Tryz.prog w 0 sp true fuel 25 cs=some y):∃(A:OA)(n c:Nat)(xs:List Gn),cs=[.slice A n c]/\n<=c/\c<=maxLen/\(∀x∈xs,x.Fit)/\zE w w.heap.size A n xs:=by
 obtain⟨A,n,c,xs,h1,h2,h3,hl,hq,h4⟩:=lV Gn.cells 5 Gn.Fit Tryz.underlying25 (by kernel_rfl) (by omega) Gn.len (fun fu cs' y hy=>aIg hy) h;exact⟨A,n,c,xs,h1,h2,h3,hq,hl,h4⟩
def Ld.Fit(x:Ld):Prop:=x.name.size<=maxLen/\x.node.size<=maxLen/\(Lit.int .i64 x.demand).wf=true
theorem aIf{y:DataW H×List MemPlace}(h:DataW.trod enc Tryz.prog w 0 sp true fuel 199 cs=some y):∃x:Ld,cs=x.cells/\x.Fit:=by
 obtain⟨hl,hf⟩:=nI Tryz.underlying199 (by kernel_rfl) (by kernel_rfl) h;obtain⟨v0,n0,y0,uN,IF⟩:=hf 0 _ rfl;obtain⟨x0,e0,g0⟩:=eI Tryz.underlying9 IF;injection e0 with e0;subst e0;obtain⟨v1,n1,y1,nA,qZ⟩:=hf 1 _ rfl;obtain⟨x1,e1,g1⟩:=eI Tryz.underlying9 qZ;injection e1 with e1;subst e1;obtain⟨v2,n2,y2,kU,t8⟩:=hf 2 _ rfl;obtain⟨x2,e2,g2⟩:=eA Tryz.underlying3 t8;injection e2 with e2;subst e2;refine⟨⟨x0,x1,x2⟩,?_,⟨g0,g1,g2⟩⟩;have YK:cs.length=3:=hl
 match cs,YK,uN,nA,kU with
 | [c0,c1,c2],_,uN,nA,kU=>
  simp at uN nA kU;subst uN nA kU;rfl
theorem aDU{y:DataW H×List MemPlace}(h:DataW.trod enc Tryz.prog w 0 sp true fuel 26 cs=some y):∃(A:OA)(n c:Nat)(xs:List Ld),cs=[.slice A n c]/\n<=c/\c<=maxLen/\(∀x∈xs,x.Fit)/\zD w w.heap.size A n xs:=by
 obtain⟨A,n,c,xs,h1,h2,h3,hl,hq,h4⟩:=lV Ld.cells 3 Ld.Fit Tryz.underlying26 (by kernel_rfl) (by omega) Ld.len (fun fu cs' y hy=>aIf hy) h;exact⟨A,n,c,xs,h1,h2,h3,hq,hl,h4⟩
def St.Fit(x:St):Prop:=x.name.size<=maxLen/\x.node.size<=maxLen/\(Lit.int .i64 x.charge).wf=true/\(Lit.int .i64 x.discharge).wf=true/\(Lit.int .i64 x.capacity).wf=true
theorem aId{y:DataW H×List MemPlace}(h:DataW.trod enc Tryz.prog w 0 sp true fuel 201 cs=some y):∃x:St,cs=x.cells/\x.Fit:=by
 obtain⟨hl,hf⟩:=nI Tryz.underlying201 (by kernel_rfl) (by kernel_rfl) h;obtain⟨v0,n0,y0,uN,IF⟩:=hf 0 _ rfl;obtain⟨x0,e0,g0⟩:=eI Tryz.underlying9 IF;injection e0 with e0;subst e0;obtain⟨v1,n1,y1,nA,qZ⟩:=hf 1 _ rfl;obtain⟨x1,e1,g1⟩:=eI Tryz.underlying9 qZ;injection e1 with e1;subst e1;obtain⟨v2,n2,y2,kU,t8⟩:=hf 2 _ rfl;obtain⟨x2,e2,g2⟩:=eA Tryz.underlying3 t8;injection e2 with e2;subst e2;obtain⟨v3,n3,y3,qI,ht3⟩:=hf 3 _ rfl;obtain⟨x3,e3,g3⟩:=eA Tryz.underlying3 ht3;injection e3 with e3;subst e3;obtain⟨v4,n4,y4,tL,ht4⟩:=hf 4 _ rfl;obtain⟨x4,e4,g4⟩:=eA Tryz.underlying3 ht4;injection e4 with e4;subst e4;refine⟨⟨x0,x1,x2,x3,x4⟩,?_,⟨g0,g1,g2,g3,g4⟩⟩;have YK:cs.length=5:=hl
 match cs,YK,uN,nA,kU,qI,tL with
 | [c0,c1,c2,c3,c4],_,uN,nA,kU,qI,tL=>
  simp at uN nA kU qI tL;subst uN nA kU qI tL;rfl
theorem aDT{y:DataW H×List MemPlace}(h:DataW.trod enc Tryz.prog w 0 sp true fuel 27 cs=some y):∃(A:OA)(n c:Nat)(xs:List St),cs=[.slice A n c]/\n<=c/\c<=maxLen/\(∀x∈xs,x.Fit)/\zC w w.heap.size A n xs:=by
 obtain⟨A,n,c,xs,h1,h2,h3,hl,hq,h4⟩:=lV St.cells 5 St.Fit Tryz.underlying27 (by kernel_rfl) (by omega) St.len (fun fu cs' y hy=>aId hy) h;exact⟨A,n,c,xs,h1,h2,h3,hq,hl,h4⟩
theorem aNd{α:Type}{xs:Array α}(h:xs.size=6):∃a b c d e f,xs=#[a,b,c,d,e,f]:=by
 obtain⟨l⟩:=xs
 match l,h with
 | [a,b,c,d,e,f],_=>exact⟨a,b,c,d,e,f,rfl⟩
theorem aPt{r:Reach}{b0:Nat}{v:Value}{d:DataW H}{p:List MemPlace}(hv:Value.okWide Tryz.prog w r b0 29 v)(h:DataW.Trod enc Tryz.prog w 0 sp true 29 v d p):∃(hh:bZ)(x:bK),v=.agg hh.cells/\cL w w.heap.size hh x:=by
 obtain⟨cs,rfl,hZ⟩:=okWide_struct Tryz.underlying29 hv;obtain⟨k0,k1,k2,k3,k4,k5,rfl⟩:=aNd (hZ.trans (by kernel_rfl));obtain⟨fuel,hf⟩:=h;obtain⟨hl,tB⟩:=nI Tryz.underlying29 (by kernel_rfl) (by kernel_rfl) hf;obtain⟨v0,n0,y0,uN,IF⟩:=tB 0 _ rfl;obtain⟨A0,m0,c0,xs0,e0,a0,b0,q0,r0⟩:=UN IF;injection e0 with e0;subst e0;simp[Value.cells] at uN;subst uN;obtain⟨v1,n1,y1,nA,qZ⟩:=tB 1 _ rfl;obtain⟨A1,m1,c1,xs1,e1,a1,b1,q1,r1⟩:=aDS qZ;injection e1 with e1;subst e1;simp[Value.cells] at nA;subst nA;obtain⟨v2,n2,y2,kU,t8⟩:=tB 2 _ rfl;obtain⟨A2,m2,c2,xs2,e2,a2,b2,q2,r2⟩:=aDW t8;injection e2 with e2;subst e2;simp[Value.cells] at kU;subst kU;obtain⟨v3,n3,y3,qI,ht3⟩:=tB 3 _ rfl;obtain⟨A3,m3,c3,xs3,e3,a3,b3,q3,r3⟩:=aDV ht3;injection e3 with e3;subst e3;simp[Value.cells] at qI;subst qI;obtain⟨v4,n4,y4,tL,ht4⟩:=tB 4 _ rfl;obtain⟨A4,m4,c4,xs4,e4,a4,b4,q4,r4⟩:=aDU ht4;injection e4 with e4;subst e4;simp[Value.cells] at tL;subst tL;obtain⟨v5,n5,y5,NQ,ht5⟩:=tB 5 _ rfl;obtain⟨A5,m5,c5,xs5,e5,a5,b5,q5,r5⟩:=aDT ht5;injection e5 with e5;subst e5;simp[Value.cells] at NQ;subst NQ;refine⟨⟨A0,m0,c0,A1,m1,c1,A2,m2,c2,A3,m3,c3,A4,m4,c4,A5,m5,c5⟩,⟨xs0,xs1,xs2,xs3,xs4,xs5⟩,rfl,r0,r1,r2,r3,r4,r5,?_,?_,?_,?_,?_,?_,q0,fun s hs=>(q1 s hs).1,fun s hs=>(q2 s hs).1,fun s hs=>(q3 s hs).1,fun s hs=>(q4 s hs).1,fun s hs=>(q5 s hs).1⟩
 all_goals (simp only[maxLen] at *;omega)
end
end
section
open Go.ChangeShapes Go.WideShapes Go.ChangeAt Go.RowKit Go.Joins Go.Deep
attribute [local go_sem ↓] aE
attribute [local go_sem] aL aK aO a_ bZ.cells
theorem M7{w:Wo}{B g size n:Nat}{T:TypeId}{vs:List Value}(h:aD w g T vs.toArray)(hl:vs.length=n*size)(hg:g<B):Rd w B size (some ⟨g,0,none⟩) n vs:=
 ⟨hl,fun _=>⟨g,0,rfl,hg,fun j u hu=>by
  rw[show(⟨g,0+j,none⟩:Addr)=⟨g,j,none⟩ from by simp];rw[h.cell j];simpa using hu⟩⟩
end
