import Derived.Test.YtonlblmobjhjjaaGreatDoorW02
set_option linter.unusedVariables false
set_option linter.unusedSimpArgs false
namespace Go.Proofs.YtonlblmobjhjjaaGreatDoor
set_option maxHeartbeats 8000000
set_option maxRecDepth 100000
variable {b : Nat} {h : cQ} {nodes seen : List ByteArray} {w w' : World} {x : bP}
section
open Go.ChangeShapes Go.WideShapes Go.ChangeAt Go.RowKit Go.Joins Go.Deep Go.Maps
attribute [local go_sem ↓] aE
attribute [local go_sem] aJ aI aL aX
def Gn.bad(x:Gn):Bool:=iR x.least 0 100000 || iR x.most x.least 100000 || iR x.ramp 0 100000
def Sw.bad(x:Sw):Bool:=false
def Ld.bad(x:Ld):Bool:=iR x.demand 0 100000
def St.bad(x:St):Bool:=iR x.charge 0 100000 || iR x.discharge 0 100000 || iR x.capacity 0 100000
def aV{α:Type}(f:List ByteArray->α->Int)(nm:α->ByteArray):List ByteArray->List α->Int×List ByteArray
 | seen,[]=>(0,seen)
 | seen,x::r=>if f seen x≠0 then(f seen x,seen) else aV f nm (nm x::seen) r
def mY(nodes:List ByteArray)(seen:List ByteArray)(x:ByteArray):Int:=jM nodes seen x []
def O8(nodes:List ByteArray)(seen:List ByteArray)(x:Sw):Int:=if jM nodes seen x.name [x.a,x.b]≠0 then jM nodes seen x.name [x.a,x.b] else if x.bad then 4 else 0
def JS(nodes:List ByteArray)(seen:List ByteArray)(x:Br):Int:=if jM nodes seen x.name [x.fr,x.to]≠0 then jM nodes seen x.name [x.fr,x.to] else x.ck
def DC(nodes:List ByteArray)(seen:List ByteArray)(x:Gn):Int:=if jM nodes seen x.name [x.node]≠0 then jM nodes seen x.name [x.node] else if x.bad then 4 else 0
def NG(nodes:List ByteArray)(seen:List ByteArray)(x:Ld):Int:=if jM nodes seen x.name [x.node]≠0 then jM nodes seen x.name [x.node] else if x.bad then 4 else 0
def F2(nodes:List ByteArray)(seen:List ByteArray)(x:St):Int:=if jM nodes seen x.name [x.node]≠0 then jM nodes seen x.name [x.node] else if x.bad then 4 else 0
def ck5(x:bP)(seen:List ByteArray):Int:=(aV (F2 x.nodes) St.name seen x.sts).1
def ck4(x:bP)(seen:List ByteArray):Int:=if(aV (NG x.nodes) Ld.name seen x.lds).1≠0 then(aV (NG x.nodes) Ld.name seen x.lds).1 else ck5 x (aV (NG x.nodes) Ld.name seen x.lds).2
def ZC(x:bP)(seen:List ByteArray):Int:=if(aV (DC x.nodes) Gn.name seen x.gns).1≠0 then(aV (DC x.nodes) Gn.name seen x.gns).1 else ck4 x (aV (DC x.nodes) Gn.name seen x.gns).2
def ck2(x:bP)(seen:List ByteArray):Int:=if(aV (JS x.nodes) Br.name seen x.brs).1≠0 then(aV (JS x.nodes) Br.name seen x.brs).1 else ZC x (aV (JS x.nodes) Br.name seen x.brs).2
def ck1(x:bP)(seen:List ByteArray):Int:=if(aV (O8 x.nodes) Sw.name seen x.sws).1≠0 then(aV (O8 x.nodes) Sw.name seen x.sws).1 else ck2 x (aV (O8 x.nodes) Sw.name seen x.sws).2
def ck0(x:bP):Int:=if(aV (mY x.nodes) id [] x.nodes).1≠0 then(aV (mY x.nodes) id [] x.nodes).1 else ck1 x (aV (mY x.nodes) id [] x.nodes).2
def jA(x:bP):Prop:=24<x.nodes.length\/32<x.sws.length\/24<x.brs.length\/10<x.gns.length\/12<x.lds.length\/4<x.sts.length
instance (x:bP):Decidable (jA x):=by unfold jA;infer_instance
def d8(x:bP):Int:=if jA x then 2 else ck0 x
theorem cW{α:Type}{f:List ByteArray->α->Int}{nm:α->ByteArray}{x:α}{r l:List α}{v:Int}(hl:l=x::r)(hf:f seen x=v)(h0:v≠0):(aV f nm seen l).1=v:=by
 subst hl;unfold aV;rw[if_pos (by rw[hf];exact h0),hf]
theorem lT{α:Type}{f:List ByteArray->α->Int}{nm:α->ByteArray}{x:α}{r l:List α}(hl:l=x::r)(h0:f seen x=0):aV f nm seen l=aV f nm (nm x::seen) r:=by
 subst hl;show(if f seen x≠0 then _ else _)=_;rw[if_neg (by rw[h0];simp)]
structure Ck (w0 wr:Wo) (b:Nat) (A:OA) (nn:Nat) (nodes:List ByteArray) (h:cQ) (x:bP) (seen:List ByteArray):Prop where
 gr:w0.grownBy wr (some b)
 sn:gJ wr b seen.length seen
 rn:aW wr wr.heap.size A nn nodes
 net:cX wr wr.heap.size h x
theorem cX.mapped{m:Nat}{l:List ByteArray}(r:cX w w.heap.size h x)(hS:gJ w b m l)(hg:w.grownBy w' (some b)):cX w' w'.heap.size h x:=
 ⟨r.r0.mapped hS hg lR hg.size,⟨r.r1.1,r.r1.2.mapped (by omega) hS hg lR hg.size⟩,⟨r.r2.1,r.r2.2.mapped (by omega) hS hg lR hg.size⟩,⟨r.r3.1,r.r3.2.mapped (by omega) hS hg lR hg.size⟩,
  ⟨r.r4.1,r.r4.2.mapped (by omega) hS hg lR hg.size⟩,⟨r.r5.1,r.r5.2.mapped (by omega) hS hg lR hg.size⟩,r.m0,r.m1,r.m2,r.m3,r.m4,r.m5,r.z0,r.z1,r.z2,r.z3,r.z4,r.z5⟩
theorem Ck.below{w0:Wo}{A:OA}{nn:Nat}(c:Ck w0 w b A nn nodes h x seen)(hb:Below w.heap.size w w'):Ck w0 w' b A nn nodes h x seen:=
 ⟨eI c.gr (fC hb _),c.sn.below hb,(c.rn.below hb lR).more hb.size,c.net.up hb⟩
theorem Ck.put{w0:Wo}{A:OA}{nn:Nat}{s:ByteArray}(c:Ck w0 w b A nn nodes h x seen)(hg:w.grownBy w' (some b))(hS:gJ w' b (seen.length+1) (s::seen)):Ck w0 w' b A nn nodes h x (s::seen):=
 ⟨eI c.gr hg,hS,c.rn.mapped c.sn hg lR hg.size,c.net.mapped c.sn hg⟩
theorem xF(w:Wo)(o1 o2:Obj):Below w.heap.size w ((w.alloc o1).alloc o2):=(bA).alloc (by simp) _
theorem YL(b:Nat)(A:OA)(nn nc:Nat)(nodes:List ByteArray)(h:cQ)(x:bP)(seen0:List ByteArray)(w:Wo)(hC:Ck w w b A nn nodes h x seen0)(GS:nn<=9223372036854775807)(hs0:seen0.length<=1000)(h3:h.n3<=10)(h4:h.n4<=12)(h5:h.n5<=4)(XH:x.nodes=nodes):Calls Tryz.prog 76 #[.agg #[.map (some b),.slice A nn nc],.agg h.cells] w fun e w'=>e=.returned (.int .i64 (ZC x seen0))/\w.grownBy w' (some b):=by
 obtain⟨A0,m0,c0,A1,m1,c1,A2,m2,c2,A3,m3,c3,A4,m4,c4,A5,m5,c5⟩:=h;dsimp only[cQ.cells] at *;have nG:=hC.sn.lt;have rY:=hC.below (xF w (.cells #[.map (some b),.slice A nn nc] 147) (.cells #[.slice A0 m0 c0,.slice A1 m1 c1,.slice A2 m2 c2,.slice A3 m3 c3,.slice A4 m4 c4,.slice A5 m5 c5] 29));have HC:=lH rY;have vN:Hid (aD ((w.alloc (.cells #[.map (some b),.slice A nn nc] 147)).alloc (.cells #[.slice A0 m0 c0,.slice A1 m1 c1,.slice A2 m2 c2,.slice A3 m3 c3,.slice A4 m4 c4,.slice A5 m5 c5] 29)) w.heap.size 147 #[.map (some b),.slice A nn nc]):=lH ((aD.new w _ _).alloc _);have pU:Hid (aD ((w.alloc (.cells #[.map (some b),.slice A nn nc] 147)).alloc (.cells #[.slice A0 m0 c0,.slice A1 m1 c1,.slice A2 m2 c2,.slice A3 m3 c3,.slice A4 m4 c4,.slice A5 m5 c5] 29)) (w.heap.size+1) 29 #[.slice A0 m0 c0,.slice A1 m1 c1,.slice A2 m2 c2,.slice A3 m3 c3,.slice A4 m4 c4,.slice A5 m5 c5]):=lH (aD.new_ (by simp));have lK:=lH rY.net;obtain⟨y0,y1,y2,y3,y4,y5,nf,nlt⟩:=cG (h:=⟨A0,m0,c0,A1,m1,c1,A2,m2,c2,A3,m3,c3,A4,m4,c4,A5,m5,c5⟩) pU.o;have tR:=lH XH;clear hC rY XH;go_enter Tryz.func76,Tryz.ntmps76
 go_wp2_with fail
 have ED:Hid (x.gns.length=m3):=lH lK.o.r3.1
 go_loopw [17] (fun i wr=>∃(k:Nat)(seen3:List ByteArray),k<=m3/\i=.int .i64 k/\Ck w wr b A nn nodes ⟨A0,m0,c0,A1,m1,c1,A2,m2,c2,A3,m3,c3,A4,m4,c4,A5,m5,c5⟩ x seen3/\aD wr w.heap.size 147 #[.map (some b),.slice A nn nc]/\aD wr (w.heap.size+1) 29 #[.slice A0 m0 c0,.slice A1 m1 c1,.slice A2 m2 c2,.slice A3 m3 c3,.slice A4 m4 c4,.slice A5 m5 c5]/\seen3.length<=seen0.length+k/\aV (DC nodes) Gn.name seen0 x.gns=aV (DC nodes) Gn.name seen3 (x.gns.drop k)) (fun i _=>m3-(intOf i).toNat)
 case atStart=>exact⟨0,seen0,by omega,rfl,HC.o,vN.o,pU.o,by omega,rfl⟩
 case round=>
  clear HC vN pU lK;obtain⟨k,seen3,hk,rfl,hC,mR,mE,BF,mG⟩:=hrel;obtain⟨HC,vN,pU,oG⟩:=gO hC mR mE mG;obtain⟨g0,g1,gf,glt⟩:=iV mR;obtain⟨y0,y1,y2,y3,y4,y5,nf,nlt⟩:=cG (h:=⟨A0,m0,c0,A1,m1,c1,A2,m2,c2,A3,m3,c3,A4,m4,c4,A5,m5,c5⟩) mE;have hbw:=hC.sn.lt;have lK:=lH hC.net;clear hC mR mE mG;by_cases aR:k<m3
  ·obtain⟨z,hz⟩:∃z,x.gns[k]?=some z:=eG (by have:=ED.out;omega)
   obtain⟨bz,oz,hA,R6⟩:=HC.o.net.r3.form (by dsimp only;omega);dsimp only at hA;subst hA;obtain⟨e0,e1,e2,e3,e4⟩:=HC.o.net.r3.at_ hz;have W7:=HC.o.net.z3 z (cS hz);have HZ:=lH (bW hz);clear hz;(go_wp2_with fail);have hB:=xF wr (.cells #[.string z.name,.string z.node,.int .i64 z.least,.int .i64 z.most,.int .i64 z.ramp] 72) (.cells #[.string z.node] 9);have hE:aW ((wr.alloc (.cells #[.string z.name,.string z.node,.int .i64 z.least,.int .i64 z.most,.int .i64 z.ramp] 72)).alloc (.cells #[.string z.node] 9)) ((wr.alloc (.cells #[.string z.name,.string z.node,.int .i64 z.least,.int .i64 z.most,.int .i64 z.ramp] 72)).alloc (.cells #[.string z.node] 9)).heap.size (some ⟨wr.heap.size+1,0,none⟩) 1 [z.node]:=dS (zs:=[z.node]) (aD.new_ (by simp)) (by simp);have rY:=HC.o.below hB;refine(jZ b _ A nn nc nodes seen3 z.name _ 1 1 [z.node] _ rY.rn GS rY.sn (by omega) W7 hE (by omega)).mono ?_;generalize hR:jM nodes seen3 z.name [z.node]=r;rintro e w2 ⟨rfl,iH,JK⟩;have EC:aD w2 wr.heap.size 72 #[.string z.name,.string z.node,.int .i64 z.least,.int .i64 z.most,.int .i64 z.ramp]:=aD.grown ((aD.new wr _ _).alloc _) iH (fun e=>by injection e;omega);have mR:aD w2 w.heap.size 147 #[.map (some b),.slice A nn nc]:=aD.grown (vN.o.bl hB) iH (fun e=>by injection e;omega);have mE:=aD.grown (pU.o.bl hB) iH (fun e=>by injection e;omega);obtain⟨fW,jR,K2,ZY⟩:=gO (eI rY.gr iH) JK rY iH;obtain⟨f0,f1,f2,f3,f4,ff,flt⟩:=Gn.box EC;obtain⟨B_,vI,vH⟩:=eR mR mE hR;clear hB hE rY iH JK EC mR mE hR e0 e1 e2 e3 e4;by_cases jH:r=0
   ·subst jH
    have HC3:=lH (K2.o.put ZY.o (jR.o rfl));cases t0:iR z.least 0 100000 with
    | true=>
     have hf:DC nodes seen3 z=4:=by unfold DC Gn.bad;rw[vH.o];simp[t0]
     have hr:(aV (DC nodes) Gn.name seen0 x.gns).1=4:=by rw[oG.o];exact cW HZ.o hf (by omega)
     have nH:=lH hr;clear hf hr
     go_wp2_with (first | (go_at_call 115;refine(bY _ _).mono ?_;rintro e w' ⟨rfl,rfl⟩) | (go_at_call 114;refine(cV _ _ _ _).mono ?_;rintro e w' ⟨rfl,rfl⟩))
     go_ret;exact⟨aQ (by unfold ZC;rw[tR.o,if_pos (by rw[nH.o];omega),nH.o]),fW.o⟩
    | false=>
     cases t1:iR z.most z.least 100000 with
     | true=>
      have hf:DC nodes seen3 z=4:=by unfold DC Gn.bad;rw[vH.o];simp[t0,t1]
      have hr:(aV (DC nodes) Gn.name seen0 x.gns).1=4:=by rw[oG.o];exact cW HZ.o hf (by omega)
      have nH:=lH hr;clear hf hr
      go_wp2_with (first | (go_at_call 115;refine(bY _ _).mono ?_;rintro e w' ⟨rfl,rfl⟩) | (go_at_call 114;refine(cV _ _ _ _).mono ?_;rintro e w' ⟨rfl,rfl⟩))
      go_ret;exact⟨aQ (by unfold ZC;rw[tR.o,if_pos (by rw[nH.o];omega),nH.o]),fW.o⟩
     | false=>
      cases t2:iR z.ramp 0 100000 with
      | true=>
       have hf:DC nodes seen3 z=4:=by unfold DC Gn.bad;rw[vH.o];simp[t0,t1,t2]
       have hr:(aV (DC nodes) Gn.name seen0 x.gns).1=4:=by rw[oG.o];exact cW HZ.o hf (by omega)
       have nH:=lH hr;clear hf hr
       go_wp2_with (first | (go_at_call 115;refine(bY _ _).mono ?_;rintro e w' ⟨rfl,rfl⟩) | (go_at_call 114;refine(cV _ _ _ _).mono ?_;rintro e w' ⟨rfl,rfl⟩))
       go_ret;exact⟨aQ (by unfold ZC;rw[tR.o,if_pos (by rw[nH.o];omega),nH.o]),fW.o⟩
      | false=>
       have hf:DC nodes seen3 z=0:=by unfold DC Gn.bad;rw[vH.o];simp[t0,t1,t2]
       have HF:=lH hf;clear hf
       go_wp2_with (first | (go_at_call 115;refine(bY _ _).mono ?_;rintro e w' ⟨rfl,rfl⟩) | (go_at_call 114;refine(cV _ _ _ _).mono ?_;rintro e w' ⟨rfl,rfl⟩))
       go_roundw
       case rel=>exact⟨k+1,z.name::seen3,by omega,by go_num,HC3.o,B_.o,vI.o,by simp;omega,by rw[oG.o];exact lT HZ.o HF.o⟩
       case measure=>simp[intOf];omega
   ·have RW:(r != 0)=true:=by simpa using jH
    have hf:DC nodes seen3 z=r:=by unfold DC;rw[vH.o,if_pos jH]
    have hr:(aV (DC nodes) Gn.name seen0 x.gns).1=r:=by rw[oG.o];exact cW HZ.o hf jH
    have nH:=lH hr;have GY:=lH jH;clear hf hr jH;(go_wp2_with fail);go_ret;exact⟨aQ (by unfold ZC;rw[tR.o,if_pos (by rw[nH.o];exact GY.o),nH.o]),fW.o⟩
  ·have hd:x.gns.drop k=[]:=by rw[List.drop_eq_nil_iff];have:=ED.out;omega
   have hr:aV (DC nodes) Gn.name seen0 x.gns=(0,seen3):=by rw[oG.o,hd];rfl
   have HL3:=lH hr;have aQL:seen3.length<=seen0.length+m3:=by omega
   clear hd hr BF;have OZ:=lK;have HW4:Hid (ZC x seen0=ck4 x seen3):=lH (by unfold ZC;rw[tR.o,HL3.o];rfl);(go_wp2_with fail);have aDe:Hid (x.lds.length=m4):=lH lK.o.r4.1
   go_loopw [52] (fun i wr=>∃(k:Nat)(seen4:List ByteArray),k<=m4/\i=.int .i64 k/\Ck w wr b A nn nodes ⟨A0,m0,c0,A1,m1,c1,A2,m2,c2,A3,m3,c3,A4,m4,c4,A5,m5,c5⟩ x seen4/\aD wr w.heap.size 147 #[.map (some b),.slice A nn nc]/\aD wr (w.heap.size+1) 29 #[.slice A0 m0 c0,.slice A1 m1 c1,.slice A2 m2 c2,.slice A3 m3 c3,.slice A4 m4 c4,.slice A5 m5 c5]/\seen4.length<=seen3.length+k/\aV (NG nodes) Ld.name seen3 x.lds=aV (NG nodes) Ld.name seen4 (x.lds.drop k)) (fun i _=>m4-(intOf i).toNat)
   case atStart=>exact⟨0,seen3,by omega,rfl,HC.o,vN.o,pU.o,by omega,rfl⟩
   case round=>
    clear HC vN pU lK;obtain⟨k,seen4,hk,rfl,hC,mR,mE,BF,mG⟩:=hrel;obtain⟨HC,vN,pU,oG⟩:=gO hC mR mE mG;obtain⟨g0,g1,gf,glt⟩:=iV mR;obtain⟨y0,y1,y2,y3,y4,y5,nf,nlt⟩:=cG (h:=⟨A0,m0,c0,A1,m1,c1,A2,m2,c2,A3,m3,c3,A4,m4,c4,A5,m5,c5⟩) mE;have hbw:=hC.sn.lt;have lK:=lH hC.net;clear hC mR mE mG;by_cases aR:k<m4
    ·obtain⟨z,hz⟩:∃z,x.lds[k]?=some z:=eG (by have:=aDe.out;omega)
     obtain⟨bz,oz,hA,R6⟩:=HC.o.net.r4.form (by dsimp only;omega);dsimp only at hA;subst hA;obtain⟨e0,e1,e2⟩:=HC.o.net.r4.at_ hz;have W7:=HC.o.net.z4 z (cS hz);have HZ:=lH (bW hz);clear hz;(go_wp2_with fail);have hB:=xF wr (.cells #[.string z.name,.string z.node,.int .i64 z.demand] 199) (.cells #[.string z.node] 9);have hE:aW ((wr.alloc (.cells #[.string z.name,.string z.node,.int .i64 z.demand] 199)).alloc (.cells #[.string z.node] 9)) ((wr.alloc (.cells #[.string z.name,.string z.node,.int .i64 z.demand] 199)).alloc (.cells #[.string z.node] 9)).heap.size (some ⟨wr.heap.size+1,0,none⟩) 1 [z.node]:=dS (zs:=[z.node]) (aD.new_ (by simp)) (by simp);have rY:=HC.o.below hB;refine(jZ b _ A nn nc nodes seen4 z.name _ 1 1 [z.node] _ rY.rn GS rY.sn (by omega) W7 hE (by omega)).mono ?_;generalize hR:jM nodes seen4 z.name [z.node]=r;rintro e w2 ⟨rfl,iH,JK⟩;have EC:aD w2 wr.heap.size 199 #[.string z.name,.string z.node,.int .i64 z.demand]:=aD.grown ((aD.new wr _ _).alloc _) iH (fun e=>by injection e;omega);have mR:aD w2 w.heap.size 147 #[.map (some b),.slice A nn nc]:=aD.grown (vN.o.bl hB) iH (fun e=>by injection e;omega);have mE:=aD.grown (pU.o.bl hB) iH (fun e=>by injection e;omega);obtain⟨fW,jR,K2,ZY⟩:=gO (eI rY.gr iH) JK rY iH;obtain⟨f0,f1,f2,ff,flt⟩:=Ld.box EC;obtain⟨B_,vI,vH⟩:=eR mR mE hR;clear hB hE rY iH JK EC mR mE hR e0 e1 e2;by_cases jH:r=0
     ·subst jH
      have HC3:=lH (K2.o.put ZY.o (jR.o rfl));cases t0:iR z.demand 0 100000 with
      | true=>
       have hf:NG nodes seen4 z=4:=by unfold NG Ld.bad;rw[vH.o];simp[t0]
       have hr:(aV (NG nodes) Ld.name seen3 x.lds).1=4:=by rw[oG.o];exact cW HZ.o hf (by omega)
       have nH:=lH hr;clear hf hr
       go_wp2_with (first | (go_at_call 115;refine(bY _ _).mono ?_;rintro e w' ⟨rfl,rfl⟩) | (go_at_call 114;refine(cV _ _ _ _).mono ?_;rintro e w' ⟨rfl,rfl⟩))
       go_ret;exact⟨aQ (by rw[HW4.o];unfold ck4;rw[tR.o,if_pos (by rw[nH.o];omega),nH.o]),fW.o⟩
      | false=>
       have hf:NG nodes seen4 z=0:=by unfold NG Ld.bad;rw[vH.o];simp[t0]
       have HF:=lH hf;clear hf
       go_wp2_with (first | (go_at_call 115;refine(bY _ _).mono ?_;rintro e w' ⟨rfl,rfl⟩) | (go_at_call 114;refine(cV _ _ _ _).mono ?_;rintro e w' ⟨rfl,rfl⟩))
       go_roundw
       case rel=>exact⟨k+1,z.name::seen4,by omega,by go_num,HC3.o,B_.o,vI.o,by simp;omega,by rw[oG.o];exact lT HZ.o HF.o⟩
       case measure=>simp[intOf];omega
     ·have RW:(r != 0)=true:=by simpa using jH
      have hf:NG nodes seen4 z=r:=by unfold NG;rw[vH.o,if_pos jH]
      have hr:(aV (NG nodes) Ld.name seen3 x.lds).1=r:=by rw[oG.o];exact cW HZ.o hf jH
      have nH:=lH hr;have GY:=lH jH;clear hf hr jH;(go_wp2_with fail);go_ret;exact⟨aQ (by rw[HW4.o];unfold ck4;rw[tR.o,if_pos (by rw[nH.o];exact GY.o),nH.o]),fW.o⟩
    ·have hd:x.lds.drop k=[]:=by rw[List.drop_eq_nil_iff];have:=aDe.out;omega
     have hr:aV (NG nodes) Ld.name seen3 x.lds=(0,seen4):=by rw[oG.o,hd];rfl
     have HL4:=lH hr;have aQK:seen4.length<=seen3.length+m4:=by omega
     clear hd hr BF;have OZ:=lK;have HW5:Hid (ZC x seen0=ck5 x seen4):=lH (by rw[HW4.o];unfold ck4;rw[tR.o,HL4.o];rfl);(go_wp2_with fail);have aDd:Hid (x.sts.length=m5):=lH lK.o.r5.1
     go_loopw [74] (fun i wr=>∃(k:Nat)(seen5:List ByteArray),k<=m5/\i=.int .i64 k/\Ck w wr b A nn nodes ⟨A0,m0,c0,A1,m1,c1,A2,m2,c2,A3,m3,c3,A4,m4,c4,A5,m5,c5⟩ x seen5/\aD wr w.heap.size 147 #[.map (some b),.slice A nn nc]/\aD wr (w.heap.size+1) 29 #[.slice A0 m0 c0,.slice A1 m1 c1,.slice A2 m2 c2,.slice A3 m3 c3,.slice A4 m4 c4,.slice A5 m5 c5]/\seen5.length<=seen4.length+k/\aV (F2 nodes) St.name seen4 x.sts=aV (F2 nodes) St.name seen5 (x.sts.drop k)) (fun i _=>m5-(intOf i).toNat)
     case atStart=>exact⟨0,seen4,by omega,rfl,HC.o,vN.o,pU.o,by omega,rfl⟩
     case round=>
      clear HC vN pU lK;obtain⟨k,seen5,hk,rfl,hC,mR,mE,BF,mG⟩:=hrel;obtain⟨HC,vN,pU,oG⟩:=gO hC mR mE mG;obtain⟨g0,g1,gf,glt⟩:=iV mR;obtain⟨y0,y1,y2,y3,y4,y5,nf,nlt⟩:=cG (h:=⟨A0,m0,c0,A1,m1,c1,A2,m2,c2,A3,m3,c3,A4,m4,c4,A5,m5,c5⟩) mE;have hbw:=hC.sn.lt;have lK:=lH hC.net;clear hC mR mE mG;by_cases aR:k<m5
      ·obtain⟨z,hz⟩:∃z,x.sts[k]?=some z:=eG (by have:=aDd.out;omega)
       obtain⟨bz,oz,hA,R6⟩:=HC.o.net.r5.form (by dsimp only;omega);dsimp only at hA;subst hA;obtain⟨e0,e1,e2,e3,e4⟩:=HC.o.net.r5.at_ hz;have W7:=HC.o.net.z5 z (cS hz);have HZ:=lH (bW hz);clear hz;(go_wp2_with fail);have hB:=xF wr (.cells #[.string z.name,.string z.node,.int .i64 z.charge,.int .i64 z.discharge,.int .i64 z.capacity] 201) (.cells #[.string z.node] 9);have hE:aW ((wr.alloc (.cells #[.string z.name,.string z.node,.int .i64 z.charge,.int .i64 z.discharge,.int .i64 z.capacity] 201)).alloc (.cells #[.string z.node] 9)) ((wr.alloc (.cells #[.string z.name,.string z.node,.int .i64 z.charge,.int .i64 z.discharge,.int .i64 z.capacity] 201)).alloc (.cells #[.string z.node] 9)).heap.size (some ⟨wr.heap.size+1,0,none⟩) 1 [z.node]:=dS (zs:=[z.node]) (aD.new_ (by simp)) (by simp);have rY:=HC.o.below hB;refine(jZ b _ A nn nc nodes seen5 z.name _ 1 1 [z.node] _ rY.rn GS rY.sn (by omega) W7 hE (by omega)).mono ?_;generalize hR:jM nodes seen5 z.name [z.node]=r;rintro e w2 ⟨rfl,iH,JK⟩;have EC:aD w2 wr.heap.size 201 #[.string z.name,.string z.node,.int .i64 z.charge,.int .i64 z.discharge,.int .i64 z.capacity]:=aD.grown ((aD.new wr _ _).alloc _) iH (fun e=>by injection e;omega);have mR:aD w2 w.heap.size 147 #[.map (some b),.slice A nn nc]:=aD.grown (vN.o.bl hB) iH (fun e=>by injection e;omega);have mE:=aD.grown (pU.o.bl hB) iH (fun e=>by injection e;omega);obtain⟨fW,jR,K2,ZY⟩:=gO (eI rY.gr iH) JK rY iH;obtain⟨f0,f1,f2,f3,f4,ff,flt⟩:=St.box EC;obtain⟨B_,vI,vH⟩:=eR mR mE hR;clear hB hE rY iH JK EC mR mE hR e0 e1 e2 e3 e4;by_cases jH:r=0
       ·subst jH
        have HC3:=lH (K2.o.put ZY.o (jR.o rfl));cases t0:iR z.charge 0 100000 with
        | true=>
         have hf:F2 nodes seen5 z=4:=by unfold F2 St.bad;rw[vH.o];simp[t0]
         have hr:(aV (F2 nodes) St.name seen4 x.sts).1=4:=by rw[oG.o];exact cW HZ.o hf (by omega)
         have nH:=lH hr;clear hf hr
         go_wp2_with (first | (go_at_call 115;refine(bY _ _).mono ?_;rintro e w' ⟨rfl,rfl⟩) | (go_at_call 114;refine(cV _ _ _ _).mono ?_;rintro e w' ⟨rfl,rfl⟩))
         go_ret;exact⟨aQ (by rw[HW5.o];unfold ck5;rw[tR.o,nH.o]),fW.o⟩
        | false=>
         cases t1:iR z.discharge 0 100000 with
         | true=>
          have hf:F2 nodes seen5 z=4:=by unfold F2 St.bad;rw[vH.o];simp[t0,t1]
          have hr:(aV (F2 nodes) St.name seen4 x.sts).1=4:=by rw[oG.o];exact cW HZ.o hf (by omega)
          have nH:=lH hr;clear hf hr
          go_wp2_with (first | (go_at_call 115;refine(bY _ _).mono ?_;rintro e w' ⟨rfl,rfl⟩) | (go_at_call 114;refine(cV _ _ _ _).mono ?_;rintro e w' ⟨rfl,rfl⟩))
          go_ret;exact⟨aQ (by rw[HW5.o];unfold ck5;rw[tR.o,nH.o]),fW.o⟩
         | false=>
          cases t2:iR z.capacity 0 100000 with
          | true=>
           have hf:F2 nodes seen5 z=4:=by unfold F2 St.bad;rw[vH.o];simp[t0,t1,t2]
           have hr:(aV (F2 nodes) St.name seen4 x.sts).1=4:=by rw[oG.o];exact cW HZ.o hf (by omega)
           have nH:=lH hr;clear hf hr
           go_wp2_with (first | (go_at_call 115;refine(bY _ _).mono ?_;rintro e w' ⟨rfl,rfl⟩) | (go_at_call 114;refine(cV _ _ _ _).mono ?_;rintro e w' ⟨rfl,rfl⟩))
           go_ret;exact⟨aQ (by rw[HW5.o];unfold ck5;rw[tR.o,nH.o]),fW.o⟩
          | false=>
           have hf:F2 nodes seen5 z=0:=by unfold F2 St.bad;rw[vH.o];simp[t0,t1,t2]
           have HF:=lH hf;clear hf
           go_wp2_with (first | (go_at_call 115;refine(bY _ _).mono ?_;rintro e w' ⟨rfl,rfl⟩) | (go_at_call 114;refine(cV _ _ _ _).mono ?_;rintro e w' ⟨rfl,rfl⟩))
           go_roundw
           case rel=>exact⟨k+1,z.name::seen5,by omega,by go_num,HC3.o,B_.o,vI.o,by simp;omega,by rw[oG.o];exact lT HZ.o HF.o⟩
           case measure=>simp[intOf];omega
       ·have RW:(r != 0)=true:=by simpa using jH
        have hf:F2 nodes seen5 z=r:=by unfold F2;rw[vH.o,if_pos jH]
        have hr:(aV (F2 nodes) St.name seen4 x.sts).1=r:=by rw[oG.o];exact cW HZ.o hf jH
        have nH:=lH hr;have GY:=lH jH;clear hf hr jH;(go_wp2_with fail);go_ret;exact⟨aQ (by rw[HW5.o];unfold ck5;rw[tR.o,nH.o]),fW.o⟩
      ·have hd:x.sts.drop k=[]:=by rw[List.drop_eq_nil_iff];have:=aDd.out;omega
       have hr:aV (F2 nodes) St.name seen4 x.sts=(0,seen5):=by rw[oG.o,hd];rfl
       have HL5:=lH hr;have aQJ:seen5.length<=seen4.length+m5:=by omega
       clear hd hr BF;have OZ:=lK;(go_wp2_with fail);go_ret;exact⟨aQ (by rw[HW5.o];unfold ck5;rw[tR.o,HL5.o]),HC.o.gr⟩
end
section
open Go.ChangeShapes Go.WideShapes Go.ChangeAt Go.RowKit
theorem j_{α:Type}{f:List ByteArray->α->Int}{nm:α->ByteArray}:∀(l:List α)(seen:List ByteArray),(aV f nm seen l).1=0->∀x∈l,∃s,f s x=0
 | [],_,_,x,hx=>by simp at hx
 | y::r,seen,h,x,hx=>by
  unfold aV at h;split at h
  ·rename_i h0;exact absurd h h0
  ·rename_i h0
   have h0':f seen y=0:=Decidable.not_not.1 h0;rcases List.mem_cons.1 hx with rfl | hx
   ·exact⟨seen,h0'⟩
   ·exact j_ r _ h x hx
theorem lF{ends:List ByteArray}{name:ByteArray}(h:jM nodes seen name ends=0):uI name=true/\(∀s∈ends,s∈nodes)/\¬(ends.length=2/\ends[0]?=ends[1]?)/\¬(seen.any (fun x=>k_ name x)=true):=by
 unfold jM at h;split at h
 ·omega
 ·rename_i h1
  split at h
  ·omega
  ·rename_i h2
   split at h
   ·omega
   ·rename_i h3
    split at h
    ·omega
    ·rename_i h4
     refine⟨by cases hn:uI name<;>simp_all,fun s hs=>?_,h4,h2⟩;apply Classical.byContradiction;intro hns;apply h3;rw[List.any_eq_true];refine⟨s,hs,?_⟩;have:nodes.any (fun x=>k_ s x)=false:=by
      rw[List.any_eq_false];intro y hy hsy;exact hns (by rw[iY.1 hsy];exact hy)
     rw[this];rfl
structure cH (x:bP):Prop where
 l0:x.nodes.length<=24
 l1:x.sws.length<=32
 l2:x.brs.length<=24
 l3:x.gns.length<=10
 l4:x.lds.length<=12
 l5:x.sts.length<=4
 sw:∀s∈x.sws,s.a∈x.nodes/\s.b∈x.nodes/\s.a≠s.b
 br:∀b∈x.brs,b.fr∈x.nodes/\b.to∈x.nodes/\b.fr≠b.to/\b.bad=false
 gn:∀g∈x.gns,g.node∈x.nodes/\g.bad=false
 ld:∀g∈x.lds,g.node∈x.nodes/\g.bad=false
 st:∀g∈x.sts,g.node∈x.nodes/\g.bad=false
theorem fH(h:d8 x=0):cH x:=by
 unfold d8 at h;split at h
 ·omega
 ·rename_i hl
  unfold jA at hl;unfold ck0 at h;split at h
  ·rename_i h0;exact absurd h h0
  ·unfold ck1 at h
   split at h
   ·rename_i h0;exact absurd h h0
   ·rename_i h1
    unfold ck2 at h;split at h
    ·rename_i h0;exact absurd h h0
    ·rename_i h2
     unfold ZC at h;split at h
     ·rename_i h0;exact absurd h h0
     ·rename_i h3
      unfold ck4 at h;split at h
      ·rename_i h0;exact absurd h h0
      ·rename_i h4
       unfold ck5 at h;have a1:=j_ _ _ (Decidable.not_not.1 h1);have a2:=j_ _ _ (Decidable.not_not.1 h2);have a3:=j_ _ _ (Decidable.not_not.1 h3);have a4:=j_ _ _ (Decidable.not_not.1 h4);have a5:=j_ _ _ h;refine⟨by omega,by omega,by omega,by omega,by omega,by omega,fun s hs=>?_,fun s hs=>?_,fun s hs=>?_,fun s hs=>?_,fun s hs=>?_⟩
       ·obtain⟨sn,hf⟩:=a1 s hs
        unfold O8 at hf;split at hf
        ·rename_i h0;exact absurd hf h0
        ·rename_i h0
         obtain⟨_,q2,q3,_⟩:=lF (Decidable.not_not.1 h0);exact⟨q2 _ (by simp),q2 _ (by simp),fun e=>q3 ⟨rfl,by simp[e]⟩⟩
       ·obtain⟨sn,hf⟩:=a2 s hs
        unfold JS at hf;split at hf
        ·rename_i h0;exact absurd hf h0
        ·rename_i h0
         obtain⟨_,q2,q3,_⟩:=lF (Decidable.not_not.1 h0);refine⟨q2 _ (by simp),q2 _ (by simp),fun e=>q3 ⟨rfl,by simp[e]⟩,?_⟩;unfold Br.ck at hf;cases hb:s.bad<;>simp_all
       ·obtain⟨sn,hf⟩:=a3 s hs
        unfold DC at hf;split at hf
        ·rename_i h0;exact absurd hf h0
        ·rename_i h0
         obtain⟨_,q2,q3,_⟩:=lF (Decidable.not_not.1 h0);refine⟨q2 _ (by simp),?_⟩;cases hb:s.bad<;>simp_all
       ·obtain⟨sn,hf⟩:=a4 s hs
        unfold NG at hf;split at hf
        ·rename_i h0;exact absurd hf h0
        ·rename_i h0
         obtain⟨_,q2,q3,_⟩:=lF (Decidable.not_not.1 h0);refine⟨q2 _ (by simp),?_⟩;cases hb:s.bad<;>simp_all
       ·obtain⟨sn,hf⟩:=a5 s hs
        unfold F2 at hf;split at hf
        ·rename_i h0;exact absurd hf h0
        ·rename_i h0
         obtain⟨_,q2,q3,_⟩:=lF (Decidable.not_not.1 h0);refine⟨q2 _ (by simp),?_⟩;cases hb:s.bad<;>simp_all
def bL(nodes:List ByteArray)(s:ByteArray):Nat:=(eP (fun x=>k_ s x) nodes 0).toNat
theorem nQ{s:ByteArray}(h:s∈nodes):eP (fun x=>k_ s x) nodes 0=(bL nodes s:Int)/\bL nodes s<nodes.length:=by
 rcases o3 (fun x=>k_ s x) nodes 0 with⟨h1,h2⟩ | ⟨i,y,h1,h2,h3,_⟩
 ·exact absurd rfl (wD.1 (h2 s h))
 ·unfold bL
  rw[h1];have:=(c_.1 h2).1;exact⟨by simp,by simpa using this⟩
end
