import Derived.Test.YthgdchffeigkbaaGreatDoorV06
import Derived.ChangeMaps5
import Derived.Deep.RegionHeld
set_option linter.unusedVariables false
set_option linter.unusedSimpArgs false
namespace Go.Proofs.YthgdchffeigkbaaGreatDoor
set_option maxRecDepth 100000
variable {cs : List Value} {fuel : Nat}
section
open Go.ChangeShapes Go.WideShapes Go.ChangeAt Go.RowKit Go.Joins Go.Deep
section
variable {H:Type} {enc:TypeId×Value->H} {w:Wo} {sp:Nat->Bool}
theorem JH{P:Program}{base:Nat}{spare:Nat->Bool}{S6:Bool}{t:TypeId}{x:DataW H×List MemPlace}(ht:P.underlying t=some .bool)(h:DataW.trod enc P w base spare S6 fuel t cs=some x):∃b:Bool,cs=[.bool b]:=by
 obtain⟨b,h1,_⟩:=DataW.trod_bool ht h;exact⟨b,h1⟩
theorem WJ{x:DataW H×List MemPlace}(h:DataW.trod enc Tryz.prog w 0 sp true fuel 22 cs=some x):∃(A:OA)(n c:Nat)(ss:List ByteArray),cs=[.slice A n c]/\n<=c/\c<=maxLen/\(∀s∈ss,s.size<=maxLen)/\aY w w.heap.size A n ss:=by
 obtain⟨A,n,c,xs,h1,h2,h3,hl,hq,h4⟩:=kZ (fun s:ByteArray=>[.string s]) 1 (fun s=>s.size<=maxLen) Tryz.underlying22 (by kernel_rfl) (by omega) (fun _=>rfl) (fun fu cs' y hy=>eH Tryz.underlying9 hy) h;exact⟨A,n,c,xs,h1,h2,h3,hq,hl,by unfold fN;rw[List.map_eq_flatMap];exact h4⟩
def Sw.Fit(x:Sw):Prop:=x.name.size<=maxLen/\x.a.size<=maxLen/\x.b.size<=maxLen
theorem aI8{y:DataW H×List MemPlace}(h:DataW.trod enc Tryz.prog w 0 sp true fuel 148 cs=some y):∃x:Sw,cs=x.cells/\x.Fit:=by
 obtain⟨hl,hf⟩:=nT Tryz.underlying148 (by kernel_rfl) (by kernel_rfl) h;obtain⟨v0,n0,y0,vE,FO⟩:=hf 0 _ rfl;obtain⟨x0,e0,g0⟩:=eH Tryz.underlying9 FO;injection e0 with e0;subst e0;obtain⟨v1,n1,y1,nG,oY⟩:=hf 1 _ rfl;obtain⟨x1,e1,g1⟩:=eH Tryz.underlying9 oY;injection e1 with e1;subst e1;obtain⟨v2,n2,y2,lA,sG⟩:=hf 2 _ rfl;obtain⟨x2,e2,g2⟩:=eH Tryz.underlying9 sG;injection e2 with e2;subst e2;obtain⟨v3,n3,y3,qT,ht3⟩:=hf 3 _ rfl;obtain⟨x3,e3⟩:=JH Tryz.underlying4 ht3;injection e3 with e3;subst e3;obtain⟨v4,n4,y4,uF,ht4⟩:=hf 4 _ rfl;obtain⟨x4,e4⟩:=JH Tryz.underlying4 ht4;injection e4 with e4;subst e4;refine⟨⟨x0,x1,x2,x3,x4⟩,?_,⟨g0,g1,g2⟩⟩;have hl':cs.length=5:=hl
 match cs,hl',vE,nG,lA,qT,uF with
 | [c0,c1,c2,c3,c4],_,vE,nG,lA,qT,uF=>
  simp at vE nG lA qT uF;subst vE nG lA qT uF;rfl
theorem aEV{y:DataW H×List MemPlace}(h:DataW.trod enc Tryz.prog w 0 sp true fuel 23 cs=some y):∃(A:OA)(n c:Nat)(xs:List Sw),cs=[.slice A n c]/\n<=c/\c<=maxLen/\(∀x∈xs,x.Fit)/\zG w w.heap.size A n xs:=by
 obtain⟨A,n,c,xs,h1,h2,h3,hl,hq,h4⟩:=kZ Sw.cells 5 Sw.Fit Tryz.underlying23 (by kernel_rfl) (by omega) Sw.len (fun fu cs' y hy=>aI8 hy) h;exact⟨A,n,c,xs,h1,h2,h3,hq,hl,h4⟩
def Br.Fit(x:Br):Prop:=x.name.size<=maxLen/\x.fr.size<=maxLen/\x.to.size<=maxLen/\(Lit.int .i64 x.x).wf=true/\(Lit.int .i64 x.tap).wf=true/\(Lit.int .i64 x.shift).wf=true/\(Lit.int .i64 x.limit).wf=true/\(Lit.int .i64 x.short).wf=true/\(Lit.int .i64 x.hold).wf=true
theorem aJc{y:DataW H×List MemPlace}(h:DataW.trod enc Tryz.prog w 0 sp true fuel 54 cs=some y):∃x:Br,cs=x.cells/\x.Fit:=by
 obtain⟨hl,hf⟩:=nT Tryz.underlying54 (by kernel_rfl) (by kernel_rfl) h;obtain⟨v0,n0,y0,vE,FO⟩:=hf 0 _ rfl;obtain⟨x0,e0,g0⟩:=eH Tryz.underlying9 FO;injection e0 with e0;subst e0;obtain⟨v1,n1,y1,nG,oY⟩:=hf 1 _ rfl;obtain⟨x1,e1,g1⟩:=eH Tryz.underlying9 oY;injection e1 with e1;subst e1;obtain⟨v2,n2,y2,lA,sG⟩:=hf 2 _ rfl;obtain⟨x2,e2,g2⟩:=eH Tryz.underlying9 sG;injection e2 with e2;subst e2;obtain⟨v3,n3,y3,qT,ht3⟩:=hf 3 _ rfl;obtain⟨x3,e3,g3⟩:=eI Tryz.underlying3 ht3;injection e3 with e3;subst e3;obtain⟨v4,n4,y4,uF,ht4⟩:=hf 4 _ rfl;obtain⟨x4,e4,g4⟩:=eI Tryz.underlying3 ht4;injection e4 with e4;subst e4;obtain⟨v5,n5,y5,O4,ht5⟩:=hf 5 _ rfl;obtain⟨x5,e5,g5⟩:=eI Tryz.underlying3 ht5;injection e5 with e5;subst e5;obtain⟨v6,n6,y6,hv6,ht6⟩:=hf 6 _ rfl;obtain⟨x6,e6,g6⟩:=eI Tryz.underlying3 ht6;injection e6 with e6;subst e6;obtain⟨v7,n7,y7,hv7,ht7⟩:=hf 7 _ rfl;obtain⟨x7,e7,g7⟩:=eI Tryz.underlying3 ht7;injection e7 with e7;subst e7;obtain⟨v8,n8,y8,M6,ht8⟩:=hf 8 _ rfl;obtain⟨x8,e8,g8⟩:=eI Tryz.underlying3 ht8;injection e8 with e8;subst e8;refine⟨⟨x0,x1,x2,x3,x4,x5,x6,x7,x8⟩,?_,⟨g0,g1,g2,g3,g4,g5,g6,g7,g8⟩⟩;have hl':cs.length=9:=hl
 match cs,hl',vE,nG,lA,qT,uF,O4,hv6,hv7,M6 with
 | [c0,c1,c2,c3,c4,c5,c6,c7,c8],_,vE,nG,lA,qT,uF,O4,hv6,hv7,M6=>
  simp at vE nG lA qT uF O4 hv6 hv7 M6;subst vE nG lA qT uF O4 hv6 hv7 M6;rfl
theorem aEZ{y:DataW H×List MemPlace}(h:DataW.trod enc Tryz.prog w 0 sp true fuel 24 cs=some y):∃(A:OA)(n c:Nat)(xs:List Br),cs=[.slice A n c]/\n<=c/\c<=maxLen/\(∀x∈xs,x.Fit)/\zK w w.heap.size A n xs:=by
 obtain⟨A,n,c,xs,h1,h2,h3,hl,hq,h4⟩:=kZ Br.cells 9 Br.Fit Tryz.underlying24 (by kernel_rfl) (by omega) Br.len (fun fu cs' y hy=>aJc hy) h;exact⟨A,n,c,xs,h1,h2,h3,hq,hl,h4⟩
def Gn.Fit(x:Gn):Prop:=x.name.size<=maxLen/\x.node.size<=maxLen/\(Lit.int .i64 x.least).wf=true/\(Lit.int .i64 x.most).wf=true/\(Lit.int .i64 x.ramp).wf=true
theorem aJb{y:DataW H×List MemPlace}(h:DataW.trod enc Tryz.prog w 0 sp true fuel 145 cs=some y):∃x:Gn,cs=x.cells/\x.Fit:=by
 obtain⟨hl,hf⟩:=nT Tryz.underlying145 (by kernel_rfl) (by kernel_rfl) h;obtain⟨v0,n0,y0,vE,FO⟩:=hf 0 _ rfl;obtain⟨x0,e0,g0⟩:=eH Tryz.underlying9 FO;injection e0 with e0;subst e0;obtain⟨v1,n1,y1,nG,oY⟩:=hf 1 _ rfl;obtain⟨x1,e1,g1⟩:=eH Tryz.underlying9 oY;injection e1 with e1;subst e1;obtain⟨v2,n2,y2,lA,sG⟩:=hf 2 _ rfl;obtain⟨x2,e2,g2⟩:=eI Tryz.underlying3 sG;injection e2 with e2;subst e2;obtain⟨v3,n3,y3,qT,ht3⟩:=hf 3 _ rfl;obtain⟨x3,e3,g3⟩:=eI Tryz.underlying3 ht3;injection e3 with e3;subst e3;obtain⟨v4,n4,y4,uF,ht4⟩:=hf 4 _ rfl;obtain⟨x4,e4,g4⟩:=eI Tryz.underlying3 ht4;injection e4 with e4;subst e4;refine⟨⟨x0,x1,x2,x3,x4⟩,?_,⟨g0,g1,g2,g3,g4⟩⟩;have hl':cs.length=5:=hl
 match cs,hl',vE,nG,lA,qT,uF with
 | [c0,c1,c2,c3,c4],_,vE,nG,lA,qT,uF=>
  simp at vE nG lA qT uF;subst vE nG lA qT uF;rfl
theorem aEY{y:DataW H×List MemPlace}(h:DataW.trod enc Tryz.prog w 0 sp true fuel 25 cs=some y):∃(A:OA)(n c:Nat)(xs:List Gn),cs=[.slice A n c]/\n<=c/\c<=maxLen/\(∀x∈xs,x.Fit)/\zJ w w.heap.size A n xs:=by
 obtain⟨A,n,c,xs,h1,h2,h3,hl,hq,h4⟩:=kZ Gn.cells 5 Gn.Fit Tryz.underlying25 (by kernel_rfl) (by omega) Gn.len (fun fu cs' y hy=>aJb hy) h;exact⟨A,n,c,xs,h1,h2,h3,hq,hl,h4⟩
def Ld.Fit(x:Ld):Prop:=x.name.size<=maxLen/\x.node.size<=maxLen/\(Lit.int .i64 x.demand).wf=true
theorem aJa{y:DataW H×List MemPlace}(h:DataW.trod enc Tryz.prog w 0 sp true fuel 199 cs=some y):∃x:Ld,cs=x.cells/\x.Fit:=by
 obtain⟨hl,hf⟩:=nT Tryz.underlying199 (by kernel_rfl) (by kernel_rfl) h;obtain⟨v0,n0,y0,vE,FO⟩:=hf 0 _ rfl;obtain⟨x0,e0,g0⟩:=eH Tryz.underlying9 FO;injection e0 with e0;subst e0;obtain⟨v1,n1,y1,nG,oY⟩:=hf 1 _ rfl;obtain⟨x1,e1,g1⟩:=eH Tryz.underlying9 oY;injection e1 with e1;subst e1;obtain⟨v2,n2,y2,lA,sG⟩:=hf 2 _ rfl;obtain⟨x2,e2,g2⟩:=eI Tryz.underlying3 sG;injection e2 with e2;subst e2;refine⟨⟨x0,x1,x2⟩,?_,⟨g0,g1,g2⟩⟩;have hl':cs.length=3:=hl
 match cs,hl',vE,nG,lA with
 | [c0,c1,c2],_,vE,nG,lA=>
  simp at vE nG lA;subst vE nG lA;rfl
theorem aEX{y:DataW H×List MemPlace}(h:DataW.trod enc Tryz.prog w 0 sp true fuel 26 cs=some y):∃(A:OA)(n c:Nat)(xs:List Ld),cs=[.slice A n c]/\n<=c/\c<=maxLen/\(∀x∈xs,x.Fit)/\zI w w.heap.size A n xs:=by
 obtain⟨A,n,c,xs,h1,h2,h3,hl,hq,h4⟩:=kZ Ld.cells 3 Ld.Fit Tryz.underlying26 (by kernel_rfl) (by omega) Ld.len (fun fu cs' y hy=>aJa hy) h;exact⟨A,n,c,xs,h1,h2,h3,hq,hl,h4⟩
def St.Fit(x:St):Prop:=x.name.size<=maxLen/\x.node.size<=maxLen/\(Lit.int .i64 x.charge).wf=true/\(Lit.int .i64 x.discharge).wf=true/\(Lit.int .i64 x.capacity).wf=true
theorem aI9{y:DataW H×List MemPlace}(h:DataW.trod enc Tryz.prog w 0 sp true fuel 201 cs=some y):∃x:St,cs=x.cells/\x.Fit:=by
 obtain⟨hl,hf⟩:=nT Tryz.underlying201 (by kernel_rfl) (by kernel_rfl) h;obtain⟨v0,n0,y0,vE,FO⟩:=hf 0 _ rfl;obtain⟨x0,e0,g0⟩:=eH Tryz.underlying9 FO;injection e0 with e0;subst e0;obtain⟨v1,n1,y1,nG,oY⟩:=hf 1 _ rfl;obtain⟨x1,e1,g1⟩:=eH Tryz.underlying9 oY;injection e1 with e1;subst e1;obtain⟨v2,n2,y2,lA,sG⟩:=hf 2 _ rfl;obtain⟨x2,e2,g2⟩:=eI Tryz.underlying3 sG;injection e2 with e2;subst e2;obtain⟨v3,n3,y3,qT,ht3⟩:=hf 3 _ rfl;obtain⟨x3,e3,g3⟩:=eI Tryz.underlying3 ht3;injection e3 with e3;subst e3;obtain⟨v4,n4,y4,uF,ht4⟩:=hf 4 _ rfl;obtain⟨x4,e4,g4⟩:=eI Tryz.underlying3 ht4;injection e4 with e4;subst e4;refine⟨⟨x0,x1,x2,x3,x4⟩,?_,⟨g0,g1,g2,g3,g4⟩⟩;have hl':cs.length=5:=hl
 match cs,hl',vE,nG,lA,qT,uF with
 | [c0,c1,c2,c3,c4],_,vE,nG,lA,qT,uF=>
  simp at vE nG lA qT uF;subst vE nG lA qT uF;rfl
theorem aEW{y:DataW H×List MemPlace}(h:DataW.trod enc Tryz.prog w 0 sp true fuel 27 cs=some y):∃(A:OA)(n c:Nat)(xs:List St),cs=[.slice A n c]/\n<=c/\c<=maxLen/\(∀x∈xs,x.Fit)/\zH w w.heap.size A n xs:=by
 obtain⟨A,n,c,xs,h1,h2,h3,hl,hq,h4⟩:=kZ St.cells 5 St.Fit Tryz.underlying27 (by kernel_rfl) (by omega) St.len (fun fu cs' y hy=>aI9 hy) h;exact⟨A,n,c,xs,h1,h2,h3,hq,hl,h4⟩
theorem aOV{α:Type}{xs:Array α}(h:xs.size=6):∃a b c d e f,xs=#[a,b,c,d,e,f]:=by
 obtain⟨l⟩:=xs
 match l,h with
 | [a,b,c,d,e,f],_=>exact⟨a,b,c,d,e,f,rfl⟩
theorem aRr{r:Reach}{b0:Nat}{v:Value}{d:DataW H}{p:List MemPlace}(hv:Value.okWide Tryz.prog w r b0 29 v)(h:DataW.Trod enc Tryz.prog w 0 sp true 29 v d p):∃(hh:bY)(x:bO),v=.agg hh.cells/\cQ w w.heap.size hh x:=by
 obtain⟨cs,rfl,iV⟩:=okWide_struct Tryz.underlying29 hv;obtain⟨k0,k1,k2,k3,k4,k5,rfl⟩:=aOV (iV.trans (by kernel_rfl));obtain⟨fuel,hf⟩:=h;obtain⟨hl,uK⟩:=nT Tryz.underlying29 (by kernel_rfl) (by kernel_rfl) hf;obtain⟨v0,n0,y0,vE,FO⟩:=uK 0 _ rfl;obtain⟨A0,m0,c0,xs0,e0,a0,b0,q0,r0⟩:=WJ FO;injection e0 with e0;subst e0;simp[Value.cells] at vE;subst vE;obtain⟨v1,n1,y1,nG,oY⟩:=uK 1 _ rfl;obtain⟨A1,m1,c1,xs1,e1,a1,b1,q1,r1⟩:=aEV oY;injection e1 with e1;subst e1;simp[Value.cells] at nG;subst nG;obtain⟨v2,n2,y2,lA,sG⟩:=uK 2 _ rfl;obtain⟨A2,m2,c2,xs2,e2,a2,b2,q2,r2⟩:=aEZ sG;injection e2 with e2;subst e2;simp[Value.cells] at lA;subst lA;obtain⟨v3,n3,y3,qT,ht3⟩:=uK 3 _ rfl;obtain⟨A3,m3,c3,xs3,e3,a3,b3,q3,r3⟩:=aEY ht3;injection e3 with e3;subst e3;simp[Value.cells] at qT;subst qT;obtain⟨v4,n4,y4,uF,ht4⟩:=uK 4 _ rfl;obtain⟨A4,m4,c4,xs4,e4,a4,b4,q4,r4⟩:=aEX ht4;injection e4 with e4;subst e4;simp[Value.cells] at uF;subst uF;obtain⟨v5,n5,y5,O4,ht5⟩:=uK 5 _ rfl;obtain⟨A5,m5,c5,xs5,e5,a5,b5,q5,r5⟩:=aEW ht5;injection e5 with e5;subst e5;simp[Value.cells] at O4;subst O4;refine⟨⟨A0,m0,c0,A1,m1,c1,A2,m2,c2,A3,m3,c3,A4,m4,c4,A5,m5,c5⟩,⟨xs0,xs1,xs2,xs3,xs4,xs5⟩,rfl,r0,r1,r2,r3,r4,r5,?_,?_,?_,?_,?_,?_,q0,fun s hs=>(q1 s hs).1,fun s hs=>(q2 s hs).1,fun s hs=>(q3 s hs).1,fun s hs=>(q4 s hs).1,fun s hs=>(q5 s hs).1⟩
 all_goals (simp only[maxLen] at *;omega)
end
end
section
open Go.ChangeShapes Go.WideShapes Go.ChangeAt Go.RowKit Go.Joins Go.Deep
attribute [local go_sem ↓] aE
attribute [local go_sem] aJ aI aM aR bY.cells
theorem I_{w:Wo}{B g size n:Nat}{T:TypeId}{vs:List Value}(h:aG w g T vs.toArray)(hl:vs.length=n*size)(hg:g<B):Rd w B size (some ⟨g,0,none⟩) n vs:=
 ⟨hl,fun _=>⟨g,0,rfl,hg,fun j u hu=>by
  rw[show(⟨g,0+j,none⟩:Addr)=⟨g,j,none⟩ from by simp];rw[h.cell j];simpa using hu⟩⟩
end
