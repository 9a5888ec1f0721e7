import Derived.Test.YtonlblmobjhjjaaGreatDoorW06
import Derived.Deep.RegionHeld
import Derived.ChangeMaps5
import Derived.SizedLaws
set_option linter.unusedVariables false
set_option linter.unusedSimpArgs false
namespace Go.Proofs.YtonlblmobjhjjaaGreatDoor
set_option maxHeartbeats 1000000
set_option maxRecDepth 100000
variable {cs : List Value} {fuel : Nat}
section
open Go.ChangeShapes Go.WideShapes Go.ChangeAt Go.RowKit Go.Joins Go.Deep
attribute [local go_sem ↓] aE
attribute [local go_sem] aJ aI aL aX cQ.cells
def kP:bP where
 nodes:=[⟨#[65]⟩,⟨#[66]⟩,⟨#[67]⟩,⟨#[68]⟩,⟨#[69]⟩]
 sws:=[⟨⟨#[83]⟩,⟨#[65]⟩,⟨#[66]⟩,true,false⟩,⟨⟨#[84]⟩,⟨#[67]⟩,⟨#[68]⟩,true,false⟩]
 brs:=[⟨⟨#[76]⟩,⟨#[66]⟩,⟨#[67]⟩,1000,1000,0,0,0,0⟩,⟨⟨#[77]⟩,⟨#[68]⟩,⟨#[69]⟩,1000,1000,0,0,0,0⟩]
 gns:=[⟨⟨#[71]⟩,⟨#[65]⟩,0,9,0⟩]
 lds:=[]
 sts:=[]
theorem L5{w:Wo}{B g size n:Nat}{T:TypeId}{vs:List Value}(h:aD w g T vs.toArray)(hl:vs.length=n*size)(hg:g<B):Rd w B size (some ⟨g,0,none⟩) n vs:=
 ⟨hl,fun _=>⟨g,0,rfl,hg,fun j u hu=>by
  rw[show(⟨g,0+j,none⟩:Addr)=⟨g,j,none⟩ from by simp];rw[h.cell j];simpa using hu⟩⟩
theorem BO(w:Wo):Calls Tryz.prog 25 #[] w fun e w'=>∃h:cQ,e=.returned (.agg h.cells)/\cX w' w'.heap.size h kP/\Below w.heap.size w w':=by
 go_enter Tryz.func25,Tryz.ntmps25
 go_wp2_with fail
 refine bodyPost_ret (v:=.agg (cQ.cells ⟨some ⟨w.heap.size+1,0,none⟩,5,5,some ⟨w.heap.size+1+1,0,none⟩,2,2,some ⟨w.heap.size+1+1+1,0,none⟩,2,2,some ⟨w.heap.size+1+1+1+1,0,none⟩,1,1,none,0,0,none,0,0⟩)) (by simp[results,Tryz.results25,go_sem]) rfl ⟨_,rfl,?_,?_⟩
 ·have f4:∀(W:Wo),r8 W W.heap.size none 0 []:=fun W=>⟨rfl,rfl,fun h=>absurd h (by decide)⟩
  have f5:∀(W:Wo),rZ W W.heap.size none 0 []:=fun W=>⟨rfl,rfl,fun h=>absurd h (by decide)⟩;have pF:∀s∈kP.nodes,s.size<=maxLen:=by decide+kernel
  have kT:∀s∈kP.sws,s.name.size<=maxLen:=by decide+kernel
  have kS:∀s∈kP.brs,s.name.size<=maxLen:=by decide+kernel
  have hz3:∀s∈kP.gns,s.name.size<=maxLen:=by decide+kernel
  have hz4:∀s∈kP.lds,s.name.size<=maxLen:=by decide+kernel
  have hz5:∀s∈kP.sts,s.name.size<=maxLen:=by decide+kernel
  refine⟨dS (zs:=kP.nodes) (T:=9) ?_ (by simp),⟨rfl,L5 (vs:=kP.sws.flatMap Sw.cells) (T:=116) ?_ rfl (by simp)⟩,⟨rfl,L5 (vs:=kP.brs.flatMap Br.cells) (T:=53) ?_ rfl (by simp)⟩,⟨rfl,L5 (vs:=kP.gns.flatMap Gn.cells) (T:=72) ?_ rfl (by simp)⟩,f4 _,f5 _,
   by simp,by simp,by simp,by simp,by simp,by simp,pF,kT,kS,hz3,hz4,hz5⟩
  ·exact(((aD.new_ (by simp)).alloc _).alloc _).alloc _
  ·exact((aD.new_ (by simp)).alloc _).alloc _
  ·exact(aD.new_ (by simp)).alloc _
  ·exact aD.new_ (by simp)
 ·exact((((bA).alloc (by simp) _).alloc (by simp;omega) _).alloc (by simp;omega) _).alloc (by simp;omega) _
end
section
open Go.ChangeShapes Go.WideShapes Go.ChangeAt Go.RowKit Go.Joins Go.Deep
section
variable {H:Type} {enc:TypeId×Value->H} {w:Wo} {sp:Nat->Bool}
theorem AP{P:Program}{base:Nat}{spare:Nat->Bool}{JH:Bool}{t:TypeId}{x:DataW H×List MemPlace}(ht:P.underlying t=some .bool)(h:DataW.trod enc P w base spare JH fuel t cs=some x):∃b:Bool,cs=[.bool b]:=by
 obtain⟨b,h1,_⟩:=DataW.trod_bool ht h;exact⟨b,h1⟩
theorem AO{x:DataW H×List MemPlace}(h:DataW.trod enc Tryz.prog w 0 sp true fuel 22 cs=some x):∃(A:OA)(n c:Nat)(ss:List ByteArray),cs=[.slice A n c]/\n<=c/\c<=maxLen/\(∀s∈ss,s.size<=maxLen)/\aW w w.heap.size A n ss:=by
 obtain⟨A,n,c,xs,h1,h2,h3,hl,hq,h4⟩:=jX (fun s:ByteArray=>[.string s]) 1 (fun s=>s.size<=maxLen) Tryz.underlying22 (by kernel_rfl) (by omega) (fun _=>rfl) (fun fu cs' y hy=>eD Tryz.underlying9 hy) h;exact⟨A,n,c,xs,h1,h2,h3,hq,hl,by unfold gT;rw[List.map_eq_flatMap];exact h4⟩
def Sw.Fit(x:Sw):Prop:=x.name.size<=maxLen/\x.a.size<=maxLen/\x.b.size<=maxLen
theorem aBo{y:DataW H×List MemPlace}(h:DataW.trod enc Tryz.prog w 0 sp true fuel 116 cs=some y):∃x:Sw,cs=x.cells/\x.Fit:=by
 obtain⟨hl,hf⟩:=lP Tryz.underlying116 (by kernel_rfl) (by kernel_rfl) h;obtain⟨v0,n0,y0,uQ,EA⟩:=hf 0 _ rfl;obtain⟨x0,e0,g0⟩:=eD Tryz.underlying9 EA;injection e0 with e0;subst e0;obtain⟨v1,n1,y1,lD,rG⟩:=hf 1 _ rfl;obtain⟨x1,e1,g1⟩:=eD Tryz.underlying9 rG;injection e1 with e1;subst e1;obtain⟨v2,n2,y2,jG,wZ⟩:=hf 2 _ rfl;obtain⟨x2,e2,g2⟩:=eD Tryz.underlying9 wZ;injection e2 with e2;subst e2;obtain⟨v3,n3,y3,nB,ht3⟩:=hf 3 _ rfl;obtain⟨x3,e3⟩:=AP Tryz.underlying4 ht3;injection e3 with e3;subst e3;obtain⟨v4,n4,y4,nF,ht4⟩:=hf 4 _ rfl;obtain⟨x4,e4⟩:=AP Tryz.underlying4 ht4;injection e4 with e4;subst e4;refine⟨⟨x0,x1,x2,x3,x4⟩,?_,⟨g0,g1,g2⟩⟩;have hl':cs.length=5:=hl
 match cs,hl',uQ,lD,jG,nB,nF with
 | [c0,c1,c2,c3,c4],_,uQ,lD,jG,nB,nF=>
  simp at uQ lD jG nB nF;subst uQ lD jG nB nF;rfl
theorem VU{y:DataW H×List MemPlace}(h:DataW.trod enc Tryz.prog w 0 sp true fuel 23 cs=some y):∃(A:OA)(n c:Nat)(xs:List Sw),cs=[.slice A n c]/\n<=c/\c<=maxLen/\(∀x∈xs,x.Fit)/\tE w w.heap.size A n xs:=by
 obtain⟨A,n,c,xs,h1,h2,h3,hl,hq,h4⟩:=jX Sw.cells 5 Sw.Fit Tryz.underlying23 (by kernel_rfl) (by omega) Sw.len (fun fu cs' y hy=>aBo hy) h;exact⟨A,n,c,xs,h1,h2,h3,hq,hl,h4⟩
def Br.Fit(x:Br):Prop:=x.name.size<=maxLen/\x.fr.size<=maxLen/\x.to.size<=maxLen/\(Lit.int .i64 x.x).wf=true/\(Lit.int .i64 x.tap).wf=true/\(Lit.int .i64 x.shift).wf=true/\(Lit.int .i64 x.limit).wf=true/\(Lit.int .i64 x.short).wf=true/\(Lit.int .i64 x.hold).wf=true
theorem aBs{y:DataW H×List MemPlace}(h:DataW.trod enc Tryz.prog w 0 sp true fuel 53 cs=some y):∃x:Br,cs=x.cells/\x.Fit:=by
 obtain⟨hl,hf⟩:=lP Tryz.underlying53 (by kernel_rfl) (by kernel_rfl) h;obtain⟨v0,n0,y0,uQ,EA⟩:=hf 0 _ rfl;obtain⟨x0,e0,g0⟩:=eD Tryz.underlying9 EA;injection e0 with e0;subst e0;obtain⟨v1,n1,y1,lD,rG⟩:=hf 1 _ rfl;obtain⟨x1,e1,g1⟩:=eD Tryz.underlying9 rG;injection e1 with e1;subst e1;obtain⟨v2,n2,y2,jG,wZ⟩:=hf 2 _ rfl;obtain⟨x2,e2,g2⟩:=eD Tryz.underlying9 wZ;injection e2 with e2;subst e2;obtain⟨v3,n3,y3,nB,ht3⟩:=hf 3 _ rfl;obtain⟨x3,e3,g3⟩:=dV Tryz.underlying3 ht3;injection e3 with e3;subst e3;obtain⟨v4,n4,y4,nF,ht4⟩:=hf 4 _ rfl;obtain⟨x4,e4,g4⟩:=dV Tryz.underlying3 ht4;injection e4 with e4;subst e4;obtain⟨v5,n5,y5,CM,ht5⟩:=hf 5 _ rfl;obtain⟨x5,e5,g5⟩:=dV Tryz.underlying3 ht5;injection e5 with e5;subst e5;obtain⟨v6,n6,y6,hv6,ht6⟩:=hf 6 _ rfl;obtain⟨x6,e6,g6⟩:=dV Tryz.underlying3 ht6;injection e6 with e6;subst e6;obtain⟨v7,n7,y7,hv7,ht7⟩:=hf 7 _ rfl;obtain⟨x7,e7,g7⟩:=dV Tryz.underlying3 ht7;injection e7 with e7;subst e7;obtain⟨v8,n8,y8,hv8,ht8⟩:=hf 8 _ rfl;obtain⟨x8,e8,g8⟩:=dV Tryz.underlying3 ht8;injection e8 with e8;subst e8;refine⟨⟨x0,x1,x2,x3,x4,x5,x6,x7,x8⟩,?_,⟨g0,g1,g2,g3,g4,g5,g6,g7,g8⟩⟩;have hl':cs.length=9:=hl
 match cs,hl',uQ,lD,jG,nB,nF,CM,hv6,hv7,hv8 with
 | [c0,c1,c2,c3,c4,c5,c6,c7,c8],_,uQ,lD,jG,nB,nF,CM,hv6,hv7,hv8=>
  simp at uQ lD jG nB nF CM hv6 hv7 hv8;subst uQ lD jG nB nF CM hv6 hv7 hv8;rfl
theorem VY{y:DataW H×List MemPlace}(h:DataW.trod enc Tryz.prog w 0 sp true fuel 24 cs=some y):∃(A:OA)(n c:Nat)(xs:List Br),cs=[.slice A n c]/\n<=c/\c<=maxLen/\(∀x∈xs,x.Fit)/\tG w w.heap.size A n xs:=by
 obtain⟨A,n,c,xs,h1,h2,h3,hl,hq,h4⟩:=jX Br.cells 9 Br.Fit Tryz.underlying24 (by kernel_rfl) (by omega) Br.len (fun fu cs' y hy=>aBs hy) h;exact⟨A,n,c,xs,h1,h2,h3,hq,hl,h4⟩
def Gn.Fit(x:Gn):Prop:=x.name.size<=maxLen/\x.node.size<=maxLen/\(Lit.int .i64 x.least).wf=true/\(Lit.int .i64 x.most).wf=true/\(Lit.int .i64 x.ramp).wf=true
theorem aBr{y:DataW H×List MemPlace}(h:DataW.trod enc Tryz.prog w 0 sp true fuel 72 cs=some y):∃x:Gn,cs=x.cells/\x.Fit:=by
 obtain⟨hl,hf⟩:=lP Tryz.underlying72 (by kernel_rfl) (by kernel_rfl) h;obtain⟨v0,n0,y0,uQ,EA⟩:=hf 0 _ rfl;obtain⟨x0,e0,g0⟩:=eD Tryz.underlying9 EA;injection e0 with e0;subst e0;obtain⟨v1,n1,y1,lD,rG⟩:=hf 1 _ rfl;obtain⟨x1,e1,g1⟩:=eD Tryz.underlying9 rG;injection e1 with e1;subst e1;obtain⟨v2,n2,y2,jG,wZ⟩:=hf 2 _ rfl;obtain⟨x2,e2,g2⟩:=dV Tryz.underlying3 wZ;injection e2 with e2;subst e2;obtain⟨v3,n3,y3,nB,ht3⟩:=hf 3 _ rfl;obtain⟨x3,e3,g3⟩:=dV Tryz.underlying3 ht3;injection e3 with e3;subst e3;obtain⟨v4,n4,y4,nF,ht4⟩:=hf 4 _ rfl;obtain⟨x4,e4,g4⟩:=dV Tryz.underlying3 ht4;injection e4 with e4;subst e4;refine⟨⟨x0,x1,x2,x3,x4⟩,?_,⟨g0,g1,g2,g3,g4⟩⟩;have hl':cs.length=5:=hl
 match cs,hl',uQ,lD,jG,nB,nF with
 | [c0,c1,c2,c3,c4],_,uQ,lD,jG,nB,nF=>
  simp at uQ lD jG nB nF;subst uQ lD jG nB nF;rfl
theorem VX{y:DataW H×List MemPlace}(h:DataW.trod enc Tryz.prog w 0 sp true fuel 25 cs=some y):∃(A:OA)(n c:Nat)(xs:List Gn),cs=[.slice A n c]/\n<=c/\c<=maxLen/\(∀x∈xs,x.Fit)/\tF w w.heap.size A n xs:=by
 obtain⟨A,n,c,xs,h1,h2,h3,hl,hq,h4⟩:=jX Gn.cells 5 Gn.Fit Tryz.underlying25 (by kernel_rfl) (by omega) Gn.len (fun fu cs' y hy=>aBr hy) h;exact⟨A,n,c,xs,h1,h2,h3,hq,hl,h4⟩
def Ld.Fit(x:Ld):Prop:=x.name.size<=maxLen/\x.node.size<=maxLen/\(Lit.int .i64 x.demand).wf=true
theorem aBq{y:DataW H×List MemPlace}(h:DataW.trod enc Tryz.prog w 0 sp true fuel 199 cs=some y):∃x:Ld,cs=x.cells/\x.Fit:=by
 obtain⟨hl,hf⟩:=lP Tryz.underlying199 (by kernel_rfl) (by kernel_rfl) h;obtain⟨v0,n0,y0,uQ,EA⟩:=hf 0 _ rfl;obtain⟨x0,e0,g0⟩:=eD Tryz.underlying9 EA;injection e0 with e0;subst e0;obtain⟨v1,n1,y1,lD,rG⟩:=hf 1 _ rfl;obtain⟨x1,e1,g1⟩:=eD Tryz.underlying9 rG;injection e1 with e1;subst e1;obtain⟨v2,n2,y2,jG,wZ⟩:=hf 2 _ rfl;obtain⟨x2,e2,g2⟩:=dV Tryz.underlying3 wZ;injection e2 with e2;subst e2;refine⟨⟨x0,x1,x2⟩,?_,⟨g0,g1,g2⟩⟩;have hl':cs.length=3:=hl
 match cs,hl',uQ,lD,jG with
 | [c0,c1,c2],_,uQ,lD,jG=>
  simp at uQ lD jG;subst uQ lD jG;rfl
theorem VW{y:DataW H×List MemPlace}(h:DataW.trod enc Tryz.prog w 0 sp true fuel 26 cs=some y):∃(A:OA)(n c:Nat)(xs:List Ld),cs=[.slice A n c]/\n<=c/\c<=maxLen/\(∀x∈xs,x.Fit)/\r8 w w.heap.size A n xs:=by
 obtain⟨A,n,c,xs,h1,h2,h3,hl,hq,h4⟩:=jX Ld.cells 3 Ld.Fit Tryz.underlying26 (by kernel_rfl) (by omega) Ld.len (fun fu cs' y hy=>aBq hy) h;exact⟨A,n,c,xs,h1,h2,h3,hq,hl,h4⟩
def St.Fit(x:St):Prop:=x.name.size<=maxLen/\x.node.size<=maxLen/\(Lit.int .i64 x.charge).wf=true/\(Lit.int .i64 x.discharge).wf=true/\(Lit.int .i64 x.capacity).wf=true
theorem aBp{y:DataW H×List MemPlace}(h:DataW.trod enc Tryz.prog w 0 sp true fuel 201 cs=some y):∃x:St,cs=x.cells/\x.Fit:=by
 obtain⟨hl,hf⟩:=lP Tryz.underlying201 (by kernel_rfl) (by kernel_rfl) h;obtain⟨v0,n0,y0,uQ,EA⟩:=hf 0 _ rfl;obtain⟨x0,e0,g0⟩:=eD Tryz.underlying9 EA;injection e0 with e0;subst e0;obtain⟨v1,n1,y1,lD,rG⟩:=hf 1 _ rfl;obtain⟨x1,e1,g1⟩:=eD Tryz.underlying9 rG;injection e1 with e1;subst e1;obtain⟨v2,n2,y2,jG,wZ⟩:=hf 2 _ rfl;obtain⟨x2,e2,g2⟩:=dV Tryz.underlying3 wZ;injection e2 with e2;subst e2;obtain⟨v3,n3,y3,nB,ht3⟩:=hf 3 _ rfl;obtain⟨x3,e3,g3⟩:=dV Tryz.underlying3 ht3;injection e3 with e3;subst e3;obtain⟨v4,n4,y4,nF,ht4⟩:=hf 4 _ rfl;obtain⟨x4,e4,g4⟩:=dV Tryz.underlying3 ht4;injection e4 with e4;subst e4;refine⟨⟨x0,x1,x2,x3,x4⟩,?_,⟨g0,g1,g2,g3,g4⟩⟩;have hl':cs.length=5:=hl
 match cs,hl',uQ,lD,jG,nB,nF with
 | [c0,c1,c2,c3,c4],_,uQ,lD,jG,nB,nF=>
  simp at uQ lD jG nB nF;subst uQ lD jG nB nF;rfl
theorem VV{y:DataW H×List MemPlace}(h:DataW.trod enc Tryz.prog w 0 sp true fuel 27 cs=some y):∃(A:OA)(n c:Nat)(xs:List St),cs=[.slice A n c]/\n<=c/\c<=maxLen/\(∀x∈xs,x.Fit)/\rZ w w.heap.size A n xs:=by
 obtain⟨A,n,c,xs,h1,h2,h3,hl,hq,h4⟩:=jX St.cells 5 St.Fit Tryz.underlying27 (by kernel_rfl) (by omega) St.len (fun fu cs' y hy=>aBp hy) h;exact⟨A,n,c,xs,h1,h2,h3,hq,hl,h4⟩
theorem aE_{α:Type}{xs:Array α}(h:xs.size=6):∃a b c d e f,xs=#[a,b,c,d,e,f]:=by
 obtain⟨l⟩:=xs
 match l,h with
 | [a,b,c,d,e,f],_=>exact⟨a,b,c,d,e,f,rfl⟩
theorem aHk{r:Reach}{b0:Nat}{v:Value}{d:DataW H}{p:List MemPlace}(hv:Value.okWide Tryz.prog w r b0 29 v)(h:DataW.Trod enc Tryz.prog w 0 sp true 29 v d p):∃(hh:cQ)(x:bP),v=.agg hh.cells/\cX w w.heap.size hh x:=by
 obtain⟨cs,rfl,gP⟩:=okWide_struct Tryz.underlying29 hv;obtain⟨k0,k1,k2,k3,k4,k5,rfl⟩:=aE_ (gP.trans (by kernel_rfl));obtain⟨fuel,hf⟩:=h;obtain⟨hl,C_⟩:=lP Tryz.underlying29 (by kernel_rfl) (by kernel_rfl) hf;obtain⟨v0,n0,y0,uQ,EA⟩:=C_ 0 _ rfl;obtain⟨A0,m0,c0,xs0,e0,a0,b0,q0,r0⟩:=AO EA;injection e0 with e0;subst e0;simp[Value.cells] at uQ;subst uQ;obtain⟨v1,n1,y1,lD,rG⟩:=C_ 1 _ rfl;obtain⟨A1,m1,c1,xs1,e1,a1,b1,q1,r1⟩:=VU rG;injection e1 with e1;subst e1;simp[Value.cells] at lD;subst lD;obtain⟨v2,n2,y2,jG,wZ⟩:=C_ 2 _ rfl;obtain⟨A2,m2,c2,xs2,e2,a2,b2,q2,r2⟩:=VY wZ;injection e2 with e2;subst e2;simp[Value.cells] at jG;subst jG;obtain⟨v3,n3,y3,nB,ht3⟩:=C_ 3 _ rfl;obtain⟨A3,m3,c3,xs3,e3,a3,b3,q3,r3⟩:=VX ht3;injection e3 with e3;subst e3;simp[Value.cells] at nB;subst nB;obtain⟨v4,n4,y4,nF,ht4⟩:=C_ 4 _ rfl;obtain⟨A4,m4,c4,xs4,e4,a4,b4,q4,r4⟩:=VW ht4;injection e4 with e4;subst e4;simp[Value.cells] at nF;subst nF;obtain⟨v5,n5,y5,CM,ht5⟩:=C_ 5 _ rfl;obtain⟨A5,m5,c5,xs5,e5,a5,b5,q5,r5⟩:=VV ht5;injection e5 with e5;subst e5;simp[Value.cells] at CM;subst CM;refine⟨⟨A0,m0,c0,A1,m1,c1,A2,m2,c2,A3,m3,c3,A4,m4,c4,A5,m5,c5⟩,⟨xs0,xs1,xs2,xs3,xs4,xs5⟩,rfl,r0,r1,r2,r3,r4,r5,?_,?_,?_,?_,?_,?_,q0,fun s hs=>(q1 s hs).1,fun s hs=>(q2 s hs).1,fun s hs=>(q3 s hs).1,fun s hs=>(q4 s hs).1,fun s hs=>(q5 s hs).1⟩
 all_goals (simp only[maxLen] at *;omega)
end
section
variable {H:Type} {enc:TypeId×Value->H} {w:Wo} {sp:Nat->Bool}
theorem aF3{r:Reach}{b0:Nat}{v:Value}{d:DataW H}{p:List MemPlace}(hv:Value.okWide Tryz.prog w r b0 22 v)(h:DataW.Trod enc Tryz.prog w 0 sp true 22 v d p):∃(A:OA)(n c:Nat)(ss:List ByteArray),v=.slice A n c/\n<=c/\c<=maxLen/\(∀s∈ss,s.size<=maxLen)/\aW w w.heap.size A n ss:=by
 obtain⟨A,n,c,rfl⟩:=okWide_slice Tryz.underlying22 hv;obtain⟨fuel,hf⟩:=h;obtain⟨A',n',c',ss,he,h1,h2,h3,h4⟩:=AO hf;simp[Value.cells] at he;obtain⟨rfl,rfl,rfl⟩:=he;exact⟨_,_,_,ss,rfl,h1,h2,h3,h4⟩
end
end
