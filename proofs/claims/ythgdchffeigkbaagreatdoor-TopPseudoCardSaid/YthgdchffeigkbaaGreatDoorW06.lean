import Derived.Test.YthgdchffeigkbaaGreatDoorW02
set_option linter.unusedVariables false
set_option linter.unusedSimpArgs false
namespace Go.Proofs.YthgdchffeigkbaaGreatDoor
set_option maxHeartbeats 8000000
set_option maxRecDepth 100000
variable {b : Nat} {h : bZ} {nodes seen : List ByteArray} {w w' : World} {x : bK}
section
open Go.ChangeShapes Go.WideShapes Go.ChangeAt Go.RowKit Go.Joins Go.Deep Go.Maps
attribute [local go_sem ↓] aE
attribute [local go_sem] aL aK aO a_
def Gn.bad(x:Gn):Bool:=lK x.least 0 100000 || lK x.most x.least 100000 || lK x.ramp 0 100000
def Sw.bad(x:Sw):Bool:=false
def Ld.bad(x:Ld):Bool:=lK x.demand 0 100000
def St.bad(x:St):Bool:=lK x.charge 0 100000 || lK x.discharge 0 100000 || lK x.capacity 0 100000
def bG{α:Type}(f:List ByteArray->α->Int)(nm:α->ByteArray):List ByteArray->List α->Int×List ByteArray
 | seen,[]=>(0,seen)
 | seen,x::r=>if f seen x≠0 then(f seen x,seen) else bG f nm (nm x::seen) r
def uD(nodes:List ByteArray)(seen:List ByteArray)(x:ByteArray):Int:=m9 nodes seen x []
def fSw(nodes:List ByteArray)(seen:List ByteArray)(x:Sw):Int:=if m9 nodes seen x.name [x.a,x.b]≠0 then m9 nodes seen x.name [x.a,x.b] else if x.bad then 4 else 0
def VW(nodes:List ByteArray)(seen:List ByteArray)(x:Br):Int:=if m9 nodes seen x.name [x.fr,x.to]≠0 then m9 nodes seen x.name [x.fr,x.to] else x.ck
def KG(nodes:List ByteArray)(seen:List ByteArray)(x:Gn):Int:=if m9 nodes seen x.name [x.node]≠0 then m9 nodes seen x.name [x.node] else if x.bad then 4 else 0
def VV(nodes:List ByteArray)(seen:List ByteArray)(x:Ld):Int:=if m9 nodes seen x.name [x.node]≠0 then m9 nodes seen x.name [x.node] else if x.bad then 4 else 0
def NW(nodes:List ByteArray)(seen:List ByteArray)(x:St):Int:=if m9 nodes seen x.name [x.node]≠0 then m9 nodes seen x.name [x.node] else if x.bad then 4 else 0
def ck5(x:bK)(seen:List ByteArray):Int:=(bG (NW x.nodes) St.name seen x.sts).1
def ck4(x:bK)(seen:List ByteArray):Int:=if(bG (VV x.nodes) Ld.name seen x.lds).1≠0 then(bG (VV x.nodes) Ld.name seen x.lds).1 else ck5 x (bG (VV x.nodes) Ld.name seen x.lds).2
def ck3(x:bK)(seen:List ByteArray):Int:=if(bG (KG x.nodes) Gn.name seen x.gns).1≠0 then(bG (KG x.nodes) Gn.name seen x.gns).1 else ck4 x (bG (KG x.nodes) Gn.name seen x.gns).2
def ck2(x:bK)(seen:List ByteArray):Int:=if(bG (VW x.nodes) Br.name seen x.brs).1≠0 then(bG (VW x.nodes) Br.name seen x.brs).1 else ck3 x (bG (VW x.nodes) Br.name seen x.brs).2
def ck1(x:bK)(seen:List ByteArray):Int:=if(bG (fSw x.nodes) Sw.name seen x.sws).1≠0 then(bG (fSw x.nodes) Sw.name seen x.sws).1 else ck2 x (bG (fSw x.nodes) Sw.name seen x.sws).2
def ck0(x:bK):Int:=if(bG (uD x.nodes) id [] x.nodes).1≠0 then(bG (uD x.nodes) id [] x.nodes).1 else ck1 x (bG (uD x.nodes) id [] x.nodes).2
def mG(x:bK):Prop:=24<x.nodes.length\/32<x.sws.length\/24<x.brs.length\/10<x.gns.length\/12<x.lds.length\/4<x.sts.length
instance (x:bK):Decidable (mG x):=by unfold mG;infer_instance
def iV(x:bK):Int:=if mG x then 2 else ck0 x
theorem d9{α:Type}{f:List ByteArray->α->Int}{nm:α->ByteArray}{x:α}{r l:List α}{v:Int}(hl:l=x::r)(hf:f seen x=v)(h0:v≠0):(bG f nm seen l).1=v:=by
 subst hl;unfold bG;rw[if_pos (by rw[hf];exact h0),hf]
theorem pR{α:Type}{f:List ByteArray->α->Int}{nm:α->ByteArray}{x:α}{r l:List α}(hl:l=x::r)(h0:f seen x=0):bG f nm seen l=bG f nm (nm x::seen) r:=by
 subst hl;show(if f seen x≠0 then _ else _)=_;rw[if_neg (by rw[h0];simp)]
structure Ck (w0 wr:Wo) (b:Nat) (A:OA) (nn:Nat) (nodes:List ByteArray) (h:bZ) (x:bK) (seen:List ByteArray):Prop where
 gr:w0.grownBy wr (some b)
 sn:jJ wr b seen.length seen
 rn:bD wr wr.heap.size A nn nodes
 net:cL wr wr.heap.size h x
theorem cL.mapped{m:Nat}{l:List ByteArray}(r:cL w w.heap.size h x)(hS:jJ w b m l)(hg:w.grownBy w' (some b)):cL w' w'.heap.size h x:=
 ⟨r.r0.mapped hS hg lR hg.size,⟨r.r1.1,r.r1.2.mapped (by omega) hS hg lR hg.size⟩,⟨r.r2.1,r.r2.2.mapped (by omega) hS hg lR hg.size⟩,⟨r.r3.1,r.r3.2.mapped (by omega) hS hg lR hg.size⟩,
  ⟨r.r4.1,r.r4.2.mapped (by omega) hS hg lR hg.size⟩,⟨r.r5.1,r.r5.2.mapped (by omega) hS hg lR hg.size⟩,r.m0,r.m1,r.m2,r.m3,r.m4,r.m5,r.z0,r.z1,r.z2,r.z3,r.z4,r.z5⟩
theorem Ck.below{w0:Wo}{A:OA}{nn:Nat}(c:Ck w0 w b A nn nodes h x seen)(hb:Below w.heap.size w w'):Ck w0 w' b A nn nodes h x seen:=
 ⟨fR c.gr (gW hb _),c.sn.below hb,(c.rn.below hb lR).more hb.size,c.net.up hb⟩
theorem Ck.put{w0:Wo}{A:OA}{nn:Nat}{s:ByteArray}(c:Ck w0 w b A nn nodes h x seen)(hg:w.grownBy w' (some b))(hS:jJ w' b (seen.length+1) (s::seen)):Ck w0 w' b A nn nodes h x (s::seen):=
 ⟨fR c.gr hg,hS,c.rn.mapped c.sn hg lR hg.size,c.net.mapped c.sn hg⟩
theorem DM(w:Wo)(o1 o2:Obj):Below w.heap.size w ((w.alloc o1).alloc o2):=(bA).alloc (by simp) _
theorem aFC(b:Nat)(A:OA)(nn nc:Nat)(nodes:List ByteArray)(h:bZ)(x:bK)(seen0:List ByteArray)(w:Wo)(hC:Ck w w b A nn nodes h x seen0)(LO:nn<=9223372036854775807)(hs0:seen0.length<=1000)(h3:h.n3<=10)(h4:h.n4<=12)(h5:h.n5<=4)(aEI:x.nodes=nodes):Calls Tryz.prog 99 #[.agg #[.map (some b),.slice A nn nc],.agg h.cells] w fun e w'=>e=.returned (.int .i64 (ck3 x seen0))/\w.grownBy w' (some b):=by
 obtain⟨A0,m0,c0,A1,m1,c1,A2,m2,c2,A3,m3,c3,A4,m4,c4,A5,m5,c5⟩:=h;dsimp only[bZ.cells] at *;have qL:=hC.sn.lt;have xJ:=hC.below (DM w (.cells #[.map (some b),.slice A nn nc] 161) (.cells #[.slice A0 m0 c0,.slice A1 m1 c1,.slice A2 m2 c2,.slice A3 m3 c3,.slice A4 m4 c4,.slice A5 m5 c5] 29));have HC:=lH xJ;have BW:Hid (aD ((w.alloc (.cells #[.map (some b),.slice A nn nc] 161)).alloc (.cells #[.slice A0 m0 c0,.slice A1 m1 c1,.slice A2 m2 c2,.slice A3 m3 c3,.slice A4 m4 c4,.slice A5 m5 c5] 29)) w.heap.size 161 #[.map (some b),.slice A nn nc]):=lH ((aD.new w _ _).alloc _);have sW:Hid (aD ((w.alloc (.cells #[.map (some b),.slice A nn nc] 161)).alloc (.cells #[.slice A0 m0 c0,.slice A1 m1 c1,.slice A2 m2 c2,.slice A3 m3 c3,.slice A4 m4 c4,.slice A5 m5 c5] 29)) (w.heap.size+1) 29 #[.slice A0 m0 c0,.slice A1 m1 c1,.slice A2 m2 c2,.slice A3 m3 c3,.slice A4 m4 c4,.slice A5 m5 c5]):=lH (aD.new_ (by simp));have pM:=lH xJ.net;obtain⟨y0,y1,y2,y3,y4,y5,nf,nlt⟩:=aX (h:=⟨A0,m0,c0,A1,m1,c1,A2,m2,c2,A3,m3,c3,A4,m4,c4,A5,m5,c5⟩) sW.o;have DU:=lH aEI;clear hC xJ aEI;go_enter Tryz.func99,Tryz.ntmps99
 go_wp2_with fail
 have LQ:Hid (x.gns.length=m3):=lH pM.o.r3.1
 go_loopw [17] (fun i wr=>∃(k:Nat)(seen3:List ByteArray),k<=m3/\i=.int .i64 k/\Ck w wr b A nn nodes ⟨A0,m0,c0,A1,m1,c1,A2,m2,c2,A3,m3,c3,A4,m4,c4,A5,m5,c5⟩ x seen3/\aD wr w.heap.size 161 #[.map (some b),.slice A nn nc]/\aD wr (w.heap.size+1) 29 #[.slice A0 m0 c0,.slice A1 m1 c1,.slice A2 m2 c2,.slice A3 m3 c3,.slice A4 m4 c4,.slice A5 m5 c5]/\seen3.length<=seen0.length+k/\bG (KG nodes) Gn.name seen0 x.gns=bG (KG nodes) Gn.name seen3 (x.gns.drop k)) (fun i _=>m3-(intOf i).toNat)
 case atStart=>exact⟨0,seen0,by omega,rfl,HC.o,BW.o,sW.o,by omega,rfl⟩
 case round=>
  clear HC BW sW pM;obtain⟨k,seen3,hk,rfl,hC,pH,nR,II,oR⟩:=hrel;obtain⟨HC,BW,sW,lQ⟩:=h_ hC pH nR oR;obtain⟨g0,g1,gf,glt⟩:=lX pH;obtain⟨y0,y1,y2,y3,y4,y5,nf,nlt⟩:=aX (h:=⟨A0,m0,c0,A1,m1,c1,A2,m2,c2,A3,m3,c3,A4,m4,c4,A5,m5,c5⟩) nR;have VQ:=hC.sn.lt;have pM:=lH hC.net;clear hC pH nR oR;by_cases aR:k<m3
  ·obtain⟨z,hz⟩:∃z,x.gns[k]?=some z:=eE (by have:=LQ.out;omega)
   obtain⟨bz,oz,hA,oY⟩:=HC.o.net.r3.form (by dsimp only;omega);dsimp only at hA;subst hA;obtain⟨e0,e1,e2,e3,e4⟩:=HC.o.net.r3.at_ hz;have hzn:=HC.o.net.z3 z (bS hz);have HZ:=lH (bX hz);clear hz;(go_wp2_with fail);have hB:=DM wr (.cells #[.string z.name,.string z.node,.int .i64 z.least,.int .i64 z.most,.int .i64 z.ramp] 145) (.cells #[.string z.node] 9);have hE:bD ((wr.alloc (.cells #[.string z.name,.string z.node,.int .i64 z.least,.int .i64 z.most,.int .i64 z.ramp] 145)).alloc (.cells #[.string z.node] 9)) ((wr.alloc (.cells #[.string z.name,.string z.node,.int .i64 z.least,.int .i64 z.most,.int .i64 z.ramp] 145)).alloc (.cells #[.string z.node] 9)).heap.size (some ⟨wr.heap.size+1,0,none⟩) 1 [z.node]:=nG (zs:=[z.node]) (aD.new_ (by simp)) (by simp);have xJ:=HC.o.below hB;refine(nK b _ A nn nc nodes seen3 z.name _ 1 1 [z.node] _ xJ.rn LO xJ.sn (by omega) hzn hE (by omega)).mono ?_;generalize hR:m9 nodes seen3 z.name [z.node]=r;rintro e w2 ⟨rfl,lM,RI⟩;have LN:aD w2 wr.heap.size 145 #[.string z.name,.string z.node,.int .i64 z.least,.int .i64 z.most,.int .i64 z.ramp]:=aD.grown ((aD.new wr _ _).alloc _) lM (fun e=>by injection e;omega);have pH:aD w2 w.heap.size 161 #[.map (some b),.slice A nn nc]:=aD.grown (BW.o.bl hB) lM (fun e=>by injection e;omega);have nR:=aD.grown (sW.o.bl hB) lM (fun e=>by injection e;omega);obtain⟨jA,mZ,TJ,Hg2⟩:=h_ (fR xJ.gr lM) RI xJ lM;obtain⟨f0,f1,f2,f3,f4,ff,flt⟩:=Gn.box LN;obtain⟨JA,DT,xN⟩:=dZ pH nR hR;clear hB hE xJ lM RI LN pH nR hR e0 e1 e2 e3 e4;by_cases gC:r=0
   ·subst gC
    have HC3:=lH (TJ.o.put Hg2.o (mZ.o rfl));cases t0:lK z.least 0 100000 with
    | true=>
     have hf:KG nodes seen3 z=4:=by unfold KG Gn.bad;rw[xN.o];simp[t0]
     have hr:(bG (KG nodes) Gn.name seen0 x.gns).1=4:=by rw[lQ.o];exact d9 HZ.o hf (by omega)
     have rY:=lH hr;clear hf hr
     go_wp2_with (first | (go_at_call 130;refine(cS _ _).mono ?_;rintro e w' ⟨rfl,rfl⟩) | (go_at_call 129;refine(dY _ _ _ _).mono ?_;rintro e w' ⟨rfl,rfl⟩))
     go_ret;exact⟨aU (by unfold ck3;rw[DU.o,if_pos (by rw[rY.o];omega),rY.o]),jA.o⟩
    | false=>
     cases t1:lK z.most z.least 100000 with
     | true=>
      have hf:KG nodes seen3 z=4:=by unfold KG Gn.bad;rw[xN.o];simp[t0,t1]
      have hr:(bG (KG nodes) Gn.name seen0 x.gns).1=4:=by rw[lQ.o];exact d9 HZ.o hf (by omega)
      have rY:=lH hr;clear hf hr
      go_wp2_with (first | (go_at_call 130;refine(cS _ _).mono ?_;rintro e w' ⟨rfl,rfl⟩) | (go_at_call 129;refine(dY _ _ _ _).mono ?_;rintro e w' ⟨rfl,rfl⟩))
      go_ret;exact⟨aU (by unfold ck3;rw[DU.o,if_pos (by rw[rY.o];omega),rY.o]),jA.o⟩
     | false=>
      cases t2:lK z.ramp 0 100000 with
      | true=>
       have hf:KG nodes seen3 z=4:=by unfold KG Gn.bad;rw[xN.o];simp[t0,t1,t2]
       have hr:(bG (KG nodes) Gn.name seen0 x.gns).1=4:=by rw[lQ.o];exact d9 HZ.o hf (by omega)
       have rY:=lH hr;clear hf hr
       go_wp2_with (first | (go_at_call 130;refine(cS _ _).mono ?_;rintro e w' ⟨rfl,rfl⟩) | (go_at_call 129;refine(dY _ _ _ _).mono ?_;rintro e w' ⟨rfl,rfl⟩))
       go_ret;exact⟨aU (by unfold ck3;rw[DU.o,if_pos (by rw[rY.o];omega),rY.o]),jA.o⟩
      | false=>
       have hf:KG nodes seen3 z=0:=by unfold KG Gn.bad;rw[xN.o];simp[t0,t1,t2]
       have HF:=lH hf;clear hf
       go_wp2_with (first | (go_at_call 130;refine(cS _ _).mono ?_;rintro e w' ⟨rfl,rfl⟩) | (go_at_call 129;refine(dY _ _ _ _).mono ?_;rintro e w' ⟨rfl,rfl⟩))
       go_roundw
       case rel=>exact⟨k+1,z.name::seen3,by omega,by go_num,HC3.o,JA.o,DT.o,by simp;omega,by rw[lQ.o];exact pR HZ.o HF.o⟩
       case measure=>simp[intOf];omega
   ·have EE:(r != 0)=true:=by simpa using gC
    have hf:KG nodes seen3 z=r:=by unfold KG;rw[xN.o,if_pos gC]
    have hr:(bG (KG nodes) Gn.name seen0 x.gns).1=r:=by rw[lQ.o];exact d9 HZ.o hf gC
    have rY:=lH hr;have F4:=lH gC;clear hf hr gC;(go_wp2_with fail);go_ret;exact⟨aU (by unfold ck3;rw[DU.o,if_pos (by rw[rY.o];exact F4.o),rY.o]),jA.o⟩
  ·have hd:x.gns.drop k=[]:=by rw[List.drop_eq_nil_iff];have:=LQ.out;omega
   have hr:bG (KG nodes) Gn.name seen0 x.gns=(0,seen3):=by rw[lQ.o,hd];rfl
   have HL3:=lH hr;have a0G:seen3.length<=seen0.length+m3:=by omega
   clear hd hr II;have YJ:=pM;have HW4:Hid (ck3 x seen0=ck4 x seen3):=lH (by unfold ck3;rw[DU.o,HL3.o];rfl);(go_wp2_with fail);have aKD:Hid (x.lds.length=m4):=lH pM.o.r4.1
   go_loopw [52] (fun i wr=>∃(k:Nat)(seen4:List ByteArray),k<=m4/\i=.int .i64 k/\Ck w wr b A nn nodes ⟨A0,m0,c0,A1,m1,c1,A2,m2,c2,A3,m3,c3,A4,m4,c4,A5,m5,c5⟩ x seen4/\aD wr w.heap.size 161 #[.map (some b),.slice A nn nc]/\aD wr (w.heap.size+1) 29 #[.slice A0 m0 c0,.slice A1 m1 c1,.slice A2 m2 c2,.slice A3 m3 c3,.slice A4 m4 c4,.slice A5 m5 c5]/\seen4.length<=seen3.length+k/\bG (VV nodes) Ld.name seen3 x.lds=bG (VV nodes) Ld.name seen4 (x.lds.drop k)) (fun i _=>m4-(intOf i).toNat)
   case atStart=>exact⟨0,seen3,by omega,rfl,HC.o,BW.o,sW.o,by omega,rfl⟩
   case round=>
    clear HC BW sW pM;obtain⟨k,seen4,hk,rfl,hC,pH,nR,II,oR⟩:=hrel;obtain⟨HC,BW,sW,lQ⟩:=h_ hC pH nR oR;obtain⟨g0,g1,gf,glt⟩:=lX pH;obtain⟨y0,y1,y2,y3,y4,y5,nf,nlt⟩:=aX (h:=⟨A0,m0,c0,A1,m1,c1,A2,m2,c2,A3,m3,c3,A4,m4,c4,A5,m5,c5⟩) nR;have VQ:=hC.sn.lt;have pM:=lH hC.net;clear hC pH nR oR;by_cases aR:k<m4
    ·obtain⟨z,hz⟩:∃z,x.lds[k]?=some z:=eE (by have:=aKD.out;omega)
     obtain⟨bz,oz,hA,oY⟩:=HC.o.net.r4.form (by dsimp only;omega);dsimp only at hA;subst hA;obtain⟨e0,e1,e2⟩:=HC.o.net.r4.at_ hz;have hzn:=HC.o.net.z4 z (bS hz);have HZ:=lH (bX hz);clear hz;(go_wp2_with fail);have hB:=DM wr (.cells #[.string z.name,.string z.node,.int .i64 z.demand] 199) (.cells #[.string z.node] 9);have hE:bD ((wr.alloc (.cells #[.string z.name,.string z.node,.int .i64 z.demand] 199)).alloc (.cells #[.string z.node] 9)) ((wr.alloc (.cells #[.string z.name,.string z.node,.int .i64 z.demand] 199)).alloc (.cells #[.string z.node] 9)).heap.size (some ⟨wr.heap.size+1,0,none⟩) 1 [z.node]:=nG (zs:=[z.node]) (aD.new_ (by simp)) (by simp);have xJ:=HC.o.below hB;refine(nK b _ A nn nc nodes seen4 z.name _ 1 1 [z.node] _ xJ.rn LO xJ.sn (by omega) hzn hE (by omega)).mono ?_;generalize hR:m9 nodes seen4 z.name [z.node]=r;rintro e w2 ⟨rfl,lM,RI⟩;have LN:aD w2 wr.heap.size 199 #[.string z.name,.string z.node,.int .i64 z.demand]:=aD.grown ((aD.new wr _ _).alloc _) lM (fun e=>by injection e;omega);have pH:aD w2 w.heap.size 161 #[.map (some b),.slice A nn nc]:=aD.grown (BW.o.bl hB) lM (fun e=>by injection e;omega);have nR:=aD.grown (sW.o.bl hB) lM (fun e=>by injection e;omega);obtain⟨jA,mZ,TJ,Hg2⟩:=h_ (fR xJ.gr lM) RI xJ lM;obtain⟨f0,f1,f2,ff,flt⟩:=Ld.box LN;obtain⟨JA,DT,xN⟩:=dZ pH nR hR;clear hB hE xJ lM RI LN pH nR hR e0 e1 e2;by_cases gC:r=0
     ·subst gC
      have HC3:=lH (TJ.o.put Hg2.o (mZ.o rfl));cases t0:lK z.demand 0 100000 with
      | true=>
       have hf:VV nodes seen4 z=4:=by unfold VV Ld.bad;rw[xN.o];simp[t0]
       have hr:(bG (VV nodes) Ld.name seen3 x.lds).1=4:=by rw[lQ.o];exact d9 HZ.o hf (by omega)
       have rY:=lH hr;clear hf hr
       go_wp2_with (first | (go_at_call 130;refine(cS _ _).mono ?_;rintro e w' ⟨rfl,rfl⟩) | (go_at_call 129;refine(dY _ _ _ _).mono ?_;rintro e w' ⟨rfl,rfl⟩))
       go_ret;exact⟨aU (by rw[HW4.o];unfold ck4;rw[DU.o,if_pos (by rw[rY.o];omega),rY.o]),jA.o⟩
      | false=>
       have hf:VV nodes seen4 z=0:=by unfold VV Ld.bad;rw[xN.o];simp[t0]
       have HF:=lH hf;clear hf
       go_wp2_with (first | (go_at_call 130;refine(cS _ _).mono ?_;rintro e w' ⟨rfl,rfl⟩) | (go_at_call 129;refine(dY _ _ _ _).mono ?_;rintro e w' ⟨rfl,rfl⟩))
       go_roundw
       case rel=>exact⟨k+1,z.name::seen4,by omega,by go_num,HC3.o,JA.o,DT.o,by simp;omega,by rw[lQ.o];exact pR HZ.o HF.o⟩
       case measure=>simp[intOf];omega
     ·have EE:(r != 0)=true:=by simpa using gC
      have hf:VV nodes seen4 z=r:=by unfold VV;rw[xN.o,if_pos gC]
      have hr:(bG (VV nodes) Ld.name seen3 x.lds).1=r:=by rw[lQ.o];exact d9 HZ.o hf gC
      have rY:=lH hr;have F4:=lH gC;clear hf hr gC;(go_wp2_with fail);go_ret;exact⟨aU (by rw[HW4.o];unfold ck4;rw[DU.o,if_pos (by rw[rY.o];exact F4.o),rY.o]),jA.o⟩
    ·have hd:x.lds.drop k=[]:=by rw[List.drop_eq_nil_iff];have:=aKD.out;omega
     have hr:bG (VV nodes) Ld.name seen3 x.lds=(0,seen4):=by rw[lQ.o,hd];rfl
     have ZU:=lH hr;have a0F:seen4.length<=seen3.length+m4:=by omega
     clear hd hr II;have YJ:=pM;have HW5:Hid (ck3 x seen0=ck5 x seen4):=lH (by rw[HW4.o];unfold ck4;rw[DU.o,ZU.o];rfl);(go_wp2_with fail);have aKC:Hid (x.sts.length=m5):=lH pM.o.r5.1
     go_loopw [74] (fun i wr=>∃(k:Nat)(seen5:List ByteArray),k<=m5/\i=.int .i64 k/\Ck w wr b A nn nodes ⟨A0,m0,c0,A1,m1,c1,A2,m2,c2,A3,m3,c3,A4,m4,c4,A5,m5,c5⟩ x seen5/\aD wr w.heap.size 161 #[.map (some b),.slice A nn nc]/\aD wr (w.heap.size+1) 29 #[.slice A0 m0 c0,.slice A1 m1 c1,.slice A2 m2 c2,.slice A3 m3 c3,.slice A4 m4 c4,.slice A5 m5 c5]/\seen5.length<=seen4.length+k/\bG (NW nodes) St.name seen4 x.sts=bG (NW nodes) St.name seen5 (x.sts.drop k)) (fun i _=>m5-(intOf i).toNat)
     case atStart=>exact⟨0,seen4,by omega,rfl,HC.o,BW.o,sW.o,by omega,rfl⟩
     case round=>
      clear HC BW sW pM;obtain⟨k,seen5,hk,rfl,hC,pH,nR,II,oR⟩:=hrel;obtain⟨HC,BW,sW,lQ⟩:=h_ hC pH nR oR;obtain⟨g0,g1,gf,glt⟩:=lX pH;obtain⟨y0,y1,y2,y3,y4,y5,nf,nlt⟩:=aX (h:=⟨A0,m0,c0,A1,m1,c1,A2,m2,c2,A3,m3,c3,A4,m4,c4,A5,m5,c5⟩) nR;have VQ:=hC.sn.lt;have pM:=lH hC.net;clear hC pH nR oR;by_cases aR:k<m5
      ·obtain⟨z,hz⟩:∃z,x.sts[k]?=some z:=eE (by have:=aKC.out;omega)
       obtain⟨bz,oz,hA,oY⟩:=HC.o.net.r5.form (by dsimp only;omega);dsimp only at hA;subst hA;obtain⟨e0,e1,e2,e3,e4⟩:=HC.o.net.r5.at_ hz;have hzn:=HC.o.net.z5 z (bS hz);have HZ:=lH (bX hz);clear hz;(go_wp2_with fail);have hB:=DM wr (.cells #[.string z.name,.string z.node,.int .i64 z.charge,.int .i64 z.discharge,.int .i64 z.capacity] 201) (.cells #[.string z.node] 9);have hE:bD ((wr.alloc (.cells #[.string z.name,.string z.node,.int .i64 z.charge,.int .i64 z.discharge,.int .i64 z.capacity] 201)).alloc (.cells #[.string z.node] 9)) ((wr.alloc (.cells #[.string z.name,.string z.node,.int .i64 z.charge,.int .i64 z.discharge,.int .i64 z.capacity] 201)).alloc (.cells #[.string z.node] 9)).heap.size (some ⟨wr.heap.size+1,0,none⟩) 1 [z.node]:=nG (zs:=[z.node]) (aD.new_ (by simp)) (by simp);have xJ:=HC.o.below hB;refine(nK b _ A nn nc nodes seen5 z.name _ 1 1 [z.node] _ xJ.rn LO xJ.sn (by omega) hzn hE (by omega)).mono ?_;generalize hR:m9 nodes seen5 z.name [z.node]=r;rintro e w2 ⟨rfl,lM,RI⟩;have LN:aD w2 wr.heap.size 201 #[.string z.name,.string z.node,.int .i64 z.charge,.int .i64 z.discharge,.int .i64 z.capacity]:=aD.grown ((aD.new wr _ _).alloc _) lM (fun e=>by injection e;omega);have pH:aD w2 w.heap.size 161 #[.map (some b),.slice A nn nc]:=aD.grown (BW.o.bl hB) lM (fun e=>by injection e;omega);have nR:=aD.grown (sW.o.bl hB) lM (fun e=>by injection e;omega);obtain⟨jA,mZ,TJ,Hg2⟩:=h_ (fR xJ.gr lM) RI xJ lM;obtain⟨f0,f1,f2,f3,f4,ff,flt⟩:=St.box LN;obtain⟨JA,DT,xN⟩:=dZ pH nR hR;clear hB hE xJ lM RI LN pH nR hR e0 e1 e2 e3 e4;by_cases gC:r=0
       ·subst gC
        have HC3:=lH (TJ.o.put Hg2.o (mZ.o rfl));cases t0:lK z.charge 0 100000 with
        | true=>
         have hf:NW nodes seen5 z=4:=by unfold NW St.bad;rw[xN.o];simp[t0]
         have hr:(bG (NW nodes) St.name seen4 x.sts).1=4:=by rw[lQ.o];exact d9 HZ.o hf (by omega)
         have rY:=lH hr;clear hf hr
         go_wp2_with (first | (go_at_call 130;refine(cS _ _).mono ?_;rintro e w' ⟨rfl,rfl⟩) | (go_at_call 129;refine(dY _ _ _ _).mono ?_;rintro e w' ⟨rfl,rfl⟩))
         go_ret;exact⟨aU (by rw[HW5.o];unfold ck5;rw[DU.o,rY.o]),jA.o⟩
        | false=>
         cases t1:lK z.discharge 0 100000 with
         | true=>
          have hf:NW nodes seen5 z=4:=by unfold NW St.bad;rw[xN.o];simp[t0,t1]
          have hr:(bG (NW nodes) St.name seen4 x.sts).1=4:=by rw[lQ.o];exact d9 HZ.o hf (by omega)
          have rY:=lH hr;clear hf hr
          go_wp2_with (first | (go_at_call 130;refine(cS _ _).mono ?_;rintro e w' ⟨rfl,rfl⟩) | (go_at_call 129;refine(dY _ _ _ _).mono ?_;rintro e w' ⟨rfl,rfl⟩))
          go_ret;exact⟨aU (by rw[HW5.o];unfold ck5;rw[DU.o,rY.o]),jA.o⟩
         | false=>
          cases t2:lK z.capacity 0 100000 with
          | true=>
           have hf:NW nodes seen5 z=4:=by unfold NW St.bad;rw[xN.o];simp[t0,t1,t2]
           have hr:(bG (NW nodes) St.name seen4 x.sts).1=4:=by rw[lQ.o];exact d9 HZ.o hf (by omega)
           have rY:=lH hr;clear hf hr
           go_wp2_with (first | (go_at_call 130;refine(cS _ _).mono ?_;rintro e w' ⟨rfl,rfl⟩) | (go_at_call 129;refine(dY _ _ _ _).mono ?_;rintro e w' ⟨rfl,rfl⟩))
           go_ret;exact⟨aU (by rw[HW5.o];unfold ck5;rw[DU.o,rY.o]),jA.o⟩
          | false=>
           have hf:NW nodes seen5 z=0:=by unfold NW St.bad;rw[xN.o];simp[t0,t1,t2]
           have HF:=lH hf;clear hf
           go_wp2_with (first | (go_at_call 130;refine(cS _ _).mono ?_;rintro e w' ⟨rfl,rfl⟩) | (go_at_call 129;refine(dY _ _ _ _).mono ?_;rintro e w' ⟨rfl,rfl⟩))
           go_roundw
           case rel=>exact⟨k+1,z.name::seen5,by omega,by go_num,HC3.o,JA.o,DT.o,by simp;omega,by rw[lQ.o];exact pR HZ.o HF.o⟩
           case measure=>simp[intOf];omega
       ·have EE:(r != 0)=true:=by simpa using gC
        have hf:NW nodes seen5 z=r:=by unfold NW;rw[xN.o,if_pos gC]
        have hr:(bG (NW nodes) St.name seen4 x.sts).1=r:=by rw[lQ.o];exact d9 HZ.o hf gC
        have rY:=lH hr;have F4:=lH gC;clear hf hr gC;(go_wp2_with fail);go_ret;exact⟨aU (by rw[HW5.o];unfold ck5;rw[DU.o,rY.o]),jA.o⟩
      ·have hd:x.sts.drop k=[]:=by rw[List.drop_eq_nil_iff];have:=aKC.out;omega
       have hr:bG (NW nodes) St.name seen4 x.sts=(0,seen5):=by rw[lQ.o,hd];rfl
       have HL5:=lH hr;have a0E:seen5.length<=seen4.length+m5:=by omega
       clear hd hr II;have YJ:=pM;(go_wp2_with fail);go_ret;exact⟨aU (by rw[HW5.o];unfold ck5;rw[DU.o,HL5.o]),HC.o.gr⟩
end
section
open Go.ChangeShapes Go.WideShapes Go.ChangeAt Go.RowKit
theorem nL{α:Type}{f:List ByteArray->α->Int}{nm:α->ByteArray}:∀(l:List α)(seen:List ByteArray),(bG f nm seen l).1=0->∀x∈l,∃s,f s x=0
 | [],_,_,x,hx=>by simp at hx
 | y::r,seen,h,x,hx=>by
  unfold bG at h;split at h
  ·rename_i h0;exact absurd h h0
  ·rename_i h0
   have h0':f seen y=0:=Decidable.not_not.1 h0;rcases List.mem_cons.1 hx with rfl | hx
   ·exact⟨seen,h0'⟩
   ·exact nL r _ h x hx
theorem BD{ends:List ByteArray}{name:ByteArray}(h:m9 nodes seen name ends=0):AK name=true/\(∀s∈ends,s∈nodes)/\¬(ends.length=2/\ends[0]?=ends[1]?)/\¬(seen.any (fun x=>qX name x)=true):=by
 unfold m9 at h;split at h
 ·omega
 ·rename_i h1
  split at h
  ·omega
  ·rename_i h2
   split at h
   ·omega
   ·rename_i h3
    split at h
    ·omega
    ·rename_i h4
     refine⟨by cases hn:AK name<;>simp_all,fun s hs=>?_,h4,h2⟩;apply Classical.byContradiction;intro hns;apply h3;rw[List.any_eq_true];refine⟨s,hs,?_⟩;have:nodes.any (fun x=>qX s x)=false:=by
      rw[List.any_eq_false];intro y hy hsy;exact hns (by rw[zS.1 hsy];exact hy)
     rw[this];rfl
structure bJ (x:bK):Prop where
 l0:x.nodes.length<=24
 l1:x.sws.length<=32
 l2:x.brs.length<=24
 l3:x.gns.length<=10
 l4:x.lds.length<=12
 l5:x.sts.length<=4
 sw:∀s∈x.sws,s.a∈x.nodes/\s.b∈x.nodes/\s.a≠s.b
 br:∀b∈x.brs,b.fr∈x.nodes/\b.to∈x.nodes/\b.fr≠b.to/\b.bad=false
 gn:∀g∈x.gns,g.node∈x.nodes/\g.bad=false
 ld:∀g∈x.lds,g.node∈x.nodes/\g.bad=false
 st:∀g∈x.sts,g.node∈x.nodes/\g.bad=false
theorem G3(h:iV x=0):bJ x:=by
 unfold iV at h;split at h
 ·omega
 ·rename_i hl
  unfold mG at hl;unfold ck0 at h;split at h
  ·rename_i h0;exact absurd h h0
  ·unfold ck1 at h
   split at h
   ·rename_i h0;exact absurd h h0
   ·rename_i h1
    unfold ck2 at h;split at h
    ·rename_i h0;exact absurd h h0
    ·rename_i h2
     unfold ck3 at h;split at h
     ·rename_i h0;exact absurd h h0
     ·rename_i h3
      unfold ck4 at h;split at h
      ·rename_i h0;exact absurd h h0
      ·rename_i h4
       unfold ck5 at h;have a1:=nL _ _ (Decidable.not_not.1 h1);have a2:=nL _ _ (Decidable.not_not.1 h2);have a3:=nL _ _ (Decidable.not_not.1 h3);have a4:=nL _ _ (Decidable.not_not.1 h4);have a5:=nL _ _ h;refine⟨by omega,by omega,by omega,by omega,by omega,by omega,fun s hs=>?_,fun s hs=>?_,fun s hs=>?_,fun s hs=>?_,fun s hs=>?_⟩
       ·obtain⟨sn,hf⟩:=a1 s hs
        unfold fSw at hf;split at hf
        ·rename_i h0;exact absurd hf h0
        ·rename_i h0
         obtain⟨_,q2,q3,_⟩:=BD (Decidable.not_not.1 h0);exact⟨q2 _ (by simp),q2 _ (by simp),fun e=>q3 ⟨rfl,by simp[e]⟩⟩
       ·obtain⟨sn,hf⟩:=a2 s hs
        unfold VW at hf;split at hf
        ·rename_i h0;exact absurd hf h0
        ·rename_i h0
         obtain⟨_,q2,q3,_⟩:=BD (Decidable.not_not.1 h0);refine⟨q2 _ (by simp),q2 _ (by simp),fun e=>q3 ⟨rfl,by simp[e]⟩,?_⟩;unfold Br.ck at hf;cases hb:s.bad<;>simp_all
       ·obtain⟨sn,hf⟩:=a3 s hs
        unfold KG at hf;split at hf
        ·rename_i h0;exact absurd hf h0
        ·rename_i h0
         obtain⟨_,q2,q3,_⟩:=BD (Decidable.not_not.1 h0);refine⟨q2 _ (by simp),?_⟩;cases hb:s.bad<;>simp_all
       ·obtain⟨sn,hf⟩:=a4 s hs
        unfold VV at hf;split at hf
        ·rename_i h0;exact absurd hf h0
        ·rename_i h0
         obtain⟨_,q2,q3,_⟩:=BD (Decidable.not_not.1 h0);refine⟨q2 _ (by simp),?_⟩;cases hb:s.bad<;>simp_all
       ·obtain⟨sn,hf⟩:=a5 s hs
        unfold NW at hf;split at hf
        ·rename_i h0;exact absurd hf h0
        ·rename_i h0
         obtain⟨_,q2,q3,_⟩:=BD (Decidable.not_not.1 h0);refine⟨q2 _ (by simp),?_⟩;cases hb:s.bad<;>simp_all
def dF(nodes:List ByteArray)(s:ByteArray):Nat:=(gM (fun x=>qX s x) nodes 0).toNat
theorem sK{s:ByteArray}(h:s∈nodes):gM (fun x=>qX s x) nodes 0=(dF nodes s:Int)/\dF nodes s<nodes.length:=by
 rcases yR (fun x=>qX s x) nodes 0 with⟨h1,h2⟩ | ⟨i,y,h1,h2,h3,_⟩
 ·exact absurd rfl (GQ.1 (h2 s h))
 ·unfold dF
  rw[h1];have:=(cY.1 h2).1;exact⟨by simp,by simpa using this⟩
end
