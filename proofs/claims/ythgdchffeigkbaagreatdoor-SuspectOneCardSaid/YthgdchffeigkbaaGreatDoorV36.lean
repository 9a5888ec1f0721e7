import Derived.Test.YthgdchffeigkbaaGreatDoorV35
set_option linter.unusedVariables false
set_option linter.unusedSimpArgs false
namespace Go.Proofs.YthgdchffeigkbaaGreatDoor
set_option maxHeartbeats 8000000
set_option maxRecDepth 100000
variable {al : List Rat} {b : Rat} {g k : Nat} {ms : List Mi} {x : bO}
section
theorem nN.ls{ms':List Mi}(h:nN ms ms')(y:Fn):lsY x ms' y=lsY x ms y:=by
 unfold lsY;rw[h.rows,h.len,show LD ms'=LD ms from funext h.wt]
theorem aLo(hm:CZ x ms)(hg:ZB x al)(hv:∀j m,ms[j]?=some m->gC m.txt=mU x al m+if j=k then b else 0):∀j,j<(cU x ms).K->(cU x ms).y j=aP (cU x ms).n ((cU x ms).R j) (LS x al)+(if j=k then b else 0):=fun j hj=>by
 obtain⟨m,h0⟩:=WZ hj;rw[aNz h0,EJ h0,hv j m h0];unfold mU;have:=hg.dot (nA hm.ok (hm.mi m (bV h0))).len;rw[this];show _=aP (aA x).length _ _+_;grind
theorem aRt(hm:CZ x ms)(hr:mX x ms)(hg:ZB x al)(hk:k<ms.length)(hv:∀j m,ms[j]?=some m->gC m.txt=mU x al m+if j=k then b else 0):PZ x ms k b:=by
 have hp:(cU x ms).Pos:=AH fun m h=>(hm.wt m h).1;obtain⟨h1,h2⟩:=Ls.one_wrong hp (show k<(cU x ms).K from hk) (aLo hm hg hv) (TH hr) (sU hr k);refine⟨?_,fun j hj bX=>?_⟩
 ·rw[D9 hm hk,h1,fW (t6 hm.ok hm.mi hk)]
 ·rw[D9 hm hj,h2 j hj bX]
theorem aNl{p q s t:Rat}(hs:0<s)(ht:0<t)(h:p / s<=q / t):p*t<=q*s:=by
 have e1:p / s*s=p:=Rat.div_mul_cancel (fun e=>by rw[e] at hs;exact absurd hs (by decide));have e2:q / t*t=q:=Rat.div_mul_cancel (fun e=>by rw[e] at ht;exact absurd ht (by decide));have h1:=Rat.mul_le_mul_of_nonneg_right h (Rat.le_of_lt (Rat.mul_pos hs ht));have e3:p / s*(s*t)=p*t:=by rw[<-Rat.mul_assoc,e1]
 have e4:q / t*(s*t)=q*s:=by rw[Rat.mul_comm s t,<-Rat.mul_assoc,e2]
 rwa[e3,e4] at h1
theorem aNk{p q s t:Rat}(hs:0<s)(ht:0<t)(h:p / s<q / t):p*t<q*s:=by
 have e1:p / s*s=p:=Rat.div_mul_cancel (fun e=>by rw[e] at hs;exact absurd hs (by decide));have e2:q / t*t=q:=Rat.div_mul_cancel (fun e=>by rw[e] at ht;exact absurd ht (by decide));have h1:=Rat.mul_lt_mul_of_pos_right h (Rat.mul_pos hs ht);have e3:p / s*(s*t)=p*t:=by rw[<-Rat.mul_assoc,e1]
 have e4:q / t*(s*t)=q*s:=by rw[Rat.mul_comm s t,<-Rat.mul_assoc,e2]
 rwa[e3,e4] at h1
section
variable {x:bO} {ms:List Mi} {k:Nat} {b:Rat}
theorem PZ.res_ne(h:PZ x ms k b)(hm:CZ x ms)(hk:k<ms.length)(hb:b≠0)(h0:vf (cR x ms) k≠0):vf (aQ x ms (bE x ms)) k≠0:=by
 rw[h.own];have hp:(cU x ms).Pos:=AH fun m h=>(hm.wt m h).1;have hw:(cU x ms).w k≠0:=fun e=>by have:=hp k hk;rw[e] at this;exact absurd this (by decide)
 intro e;rcases Rat.mul_eq_zero.1 e with e | e
 ·rcases Rat.mul_eq_zero.1 e with e | e
  ·exact hb e
  ·exact hw e
 ·exact h0 e
theorem PZ.best(h:PZ x ms k b)(hm:CZ x ms)(hr:mX x ms)(hk:k<ms.length)(hb:b≠0)(h0:vf (cR x ms) k≠0){c:Int}(hw:gH (aQ x ms (bE x ms)) (cR x ms) ms.length c):∃w:Nat,c=(w:Int)/\w<=k/\w<ms.length/\vf (cR x ms) w≠0/\vf (aQ x ms (bE x ms)) w*vf (aQ x ms (bE x ms)) w*vf (cR x ms) k=vf (aQ x ms (bE x ms)) k*vf (aQ x ms (bE x ms)) k*vf (cR x ms) w:=by
 have XM:WOk (aQ x ms (bE x ms)) (cR x ms) k:=⟨h.res_ne hm hk hb h0,h0⟩;rcases hw with⟨-,h1⟩ | ⟨j,h1,h2,h3,h4,h5⟩
 ·exact absurd XM (h1 k hk)
 ·by_cases e:j=k
  ·subst e
   exact⟨j,h1,lR,h2,h0,rfl⟩
  ·have FQ:=h.le hm hr hk h0 h2 e
   have hsk:=OG hm hr hk h0;have hsj:=OG hm hr h2 h3.2;have QU:vf (aQ x ms (bE x ms)) k*vf (aQ x ms (bE x ms)) k*vf (cR x ms) j<=vf (aQ x ms (bE x ms)) j*vf (aQ x ms (bE x ms)) j*vf (cR x ms) k:=aNl hsk hsj (h4 k hk XM);refine⟨j,h1,?_,h2,h3.2,Rat.le_antisymm FQ QU⟩;rcases Nat.lt_or_ge k j with aU | aU
   ·have:=aNk hsk hsj (h5 k aU XM)
    exact absurd this (Rat.not_lt.2 FQ)
   ·exact aU
end
theorem aE1{one:List Mi}(h:Sml x ms)(hs:nN ms one)(hm:CZ x one)(hr:mX x one)(hg:ZB x al)(hbt:Tn 25 b)(hv:∀j m,one[j]?=some m->gC m.txt=mU x al m+if j=k then b else 0){j:Nat}(hj:j<ms.length):bP (vf (aQ x one (bE x one)) j*vf (aQ x one (bE x one)) j):=by
 obtain⟨y,hy⟩:∃y:Fn,y=fun j=>if j=k then b else 0:=⟨_,rfl⟩;have hyo:=aLo hm hg hv;have hS:(lsY x one y).Sol (fun i=>LS x (bE x one) i+(-1)*LS x al i):=fun i hi=>by
  have h1:=TH hr i hi;show aP (cU x one).n ((cU x one).G i) _=aN (cU x one).K fun t=>(cU x one).w t*y t*(cU x one).R t i;rw[nB (cU x one).n ((cU x one).G i) (LS x (bE x one)) (fun i=>(-1)*LS x al i),kO,h1,(cU x one).gdot];have e:(cU x one).rt i=aN (cU x one).K (fun t=>(cU x one).w t*(cU x one).R t i*aP (cU x one).n ((cU x one).R t) (LS x al))+aN (cU x one).K (fun t=>(cU x one).w t*y t*(cU x one).R t i):=by
   unfold Ls.rt;rw[<-cK];refine aL fun t ht=>?_;rw[hyo t ht,hy];grind
  rw[e];grind
 have aFG:(lsY x one y).res (fun i=>LS x (bE x one) i+(-1)*LS x al i) j=vf (aQ x one (bE x one)) j:=by
  have XP:j<one.length:=by rw[<-hs.len];exact hj
  rw[D9 hm XP];unfold Ls.res;show y j-aP (cU x one).n ((cU x one).R j) _=(cU x one).y j-aP (cU x one).n ((cU x one).R j) _;rw[nB (cU x one).n ((cU x one).R j) (LS x (bE x one)) (fun i=>(-1)*LS x al i),kO,hyo j XP,hy];grind
 rw[hs.ls] at hS aFG;have gN:mX x ms:=(hs.reg (fun m h0=>(h.wt m h0).1) fun m h0=>(hm.wt m h0).1).1 hr;obtain⟨z,jR,kS⟩:=aLm hbt;have aS4:b.den<=jG 25:=pJ hbt.2;have hB:1<=jG 50:=aLc _;have hzb:z.natAbs<=jG 50:=cO kS (cO (Nat.mul_le_mul (show 10^25<=jG 25 from lR) aS4) (FG (by decide)));obtain⟨t,FO,oY,-,sG⟩:=h.short gN hS (V:=((b.den:Int):Rat)) (B:=jG 50) hB (Y:=fun i=>if i=k then z else 0) (fun i _=>by
  rw[hy];by_cases e:i=k
  ·simp only[if_pos e];exact jR
  ·simp only[if_neg e];rw[Rat.zero_mul];rfl) (fun i _=>by
  by_cases e:i=k
  ·simp only[if_pos e];exact hzb
  ·simp only[if_neg e];exact Nat.zero_le _)
 obtain⟨v,nG,lA⟩:=sG j hj;rw[aFG] at lA;have hZ:Zt ((b.den:Int)*t) (jG 446) (vf (aQ x one (bE x one)) j):=⟨v,by rw[Rat.intCast_mul,<-lA];grind,cO nG (FG (by decide))⟩;have hD0:(b.den:Int)*t≠0:=fun e=>by
  rcases Int.mul_eq_zero.1 e with e | e
  ·have:=b.den_nz;omega
  ·exact FO e
 have hDl:((b.den:Int)*t).natAbs<=jG 421:=by
  rw[Int.natAbs_mul,Int.natAbs_natCast];exact cO (Nat.mul_le_mul aS4 oY) (FG (by decide))
 refine(hZ.mul hZ).fits (fun e=>?_) (FG (c:=892) (by decide)) ?_ (by decide) (b:=842) (by decide)
 ·rcases Int.mul_eq_zero.1 e with e | e<;>exact hD0 e
 ·rw[Int.natAbs_mul]
  exact cO (Nat.mul_le_mul hDl hDl) (FG (by decide))
end
section
open Go.ChangeShapes Go.WideShapes Go.ChangeAt Go.RowKit
attribute [local go_sem ↓] aE
attribute [local go_sem] aJ aI aM aR
def aTA(x:bO)(ms:List Mi)(w:Wo)(e:Ending)(w':Wo):Prop:=Below w.heap.size w w'/\((∃c:Int,c≠0/\rK x ms c/\e=.returned (.tuple #[.agg #[.pointer none,.slice none 0 0,.slice none 0 0,.slice none 0 0,.slice none 0 0],.int .i64 c]))\/
 (rK x ms 0/\∃fv,e=.returned (.tuple #[fv,.int .i64 0])/\tU x ms w.heap.size w' fv))
theorem BJ(h:bY)(x:bO)(h8:x.nodes.length<=8)(A:OA)(n c:Nat)(ms:List Mi)(w:Wo)(r:cQ w w.heap.size h x)(hm:fP w w.heap.size A n ms)(hz:∀m∈ms,m.txt.size<=maxLen)(hn:n<=9223372036854775807)(ht:dM w):Calls Tryz.prog 73 #[.agg h.cells,.slice A n c] w (aTA x ms w):=by
 have Q0:Below w.heap.size w ((w.alloc (.cells h.cells 29)).alloc (.cells #[.pointer none,.slice none 0 0,.slice none 0 0,.slice none 0 0,.slice none 0 0] 95)):=(bA).alloc (by simp) _;have HW:=lH Q0;have P0:=lH ((aG.new w 29 h.cells).alloc (.cells #[.pointer none,.slice none 0 0,.slice none 0 0,.slice none 0 0,.slice none 0 0] 95));have P4:Hid (aG ((w.alloc (.cells h.cells 29)).alloc (.cells #[.pointer none,.slice none 0 0,.slice none 0 0,.slice none 0 0,.slice none 0 0] 95)) (w.heap.size+1) 95 #[.pointer none,.slice none 0 0,.slice none 0 0,.slice none 0 0,.slice none 0 0]):=lH (aG.new_ (by simp));obtain⟨HX,HM,HT,HZ⟩:=iK (r.up Q0) (hm.bm Q0) (ht.up Q0) hz;have dZ:Hid (((w.alloc (.cells h.cells 29)).alloc (.cells #[.pointer none,.slice none 0 0,.slice none 0 0,.slice none 0 0,.slice none 0 0] 95)).heap.size=w.heap.size+1+1):=lH (by simp);clear Q0 hm r ht hz;obtain⟨D0,r0,s0,D1,r1,s1,D2,r2,s2,D3,r3,s3,D4,r4,s4,D5,r5,s5⟩:=h;go_enter Tryz.func73,Tryz.ntmps73
 go_upto_region 1 with fail
 generalize (w.alloc (.cells (bY.cells ⟨D0,r0,s0,D1,r1,s1,D2,r2,s2,D3,r3,s3,D4,r4,s4,D5,r5,s5⟩) 29)).alloc (.cells #[.pointer none,.slice none 0 0,.slice none 0 0,.slice none 0 0,.slice none 0 0] 95)=W at *;obtain⟨y0,y1,y2,y3,y4,y5,nf,nlt⟩:=aW P0.o;dsimp only at y0 y1 y2 y3 y4 y5
 go_wp2_with fail
 refine(YE _ x h8 A n c ms W HX.o HM.o HZ.o hn HT.o).mono ?_;rintro e w1 ⟨bC,iO⟩;have bT:=lH bC;clear bC y0 y1 y2 y3 y4 y5 nf nlt;rcases iO with⟨d,hd,tW,rfl⟩ | ⟨tW,A6,n6,c6,rfl,-,-,-⟩
 ·have HE:=lH tW
  have HD:=lH hd;have hdb:(d != 0)=true:=by simp[hd]
  clear tW hd;have P6:=lH (P4.o.bl bT.o);obtain⟨z0,z1,z2,z3,z4,zf,zl⟩:=P6.o.e5;(go_wp2_with fail);have hq:=(rY (v0:=.pointer none) (v1:=.slice none 0 0) (v2:=.slice none 0 0) (v3:=.slice none 0 0) (v4:=.slice none 0 0) P6.o);obtain⟨p0,p1,p2,p3,p4⟩:=hq.a5;exact bodyPost_ret (v:=.tuple #[.agg #[.pointer none,.slice none 0 0,.slice none 0 0,.slice none 0 0,.slice none 0 0],.int .i64 d]) (by simp[results,Tryz.results73,go_sem,p0,p1,p2,p3,p4]) rfl ⟨mS (HW.o.trans (bT.o.mono (by have:=dZ.o;omega))) (Nat.le_succ _),.inl ⟨_,HD.o,HE.o,rfl⟩⟩
 ·obtain⟨mI,gY,CL⟩:=tW.zero rfl
  obtain⟨ok,hl,mZ⟩:=oI mI;obtain⟨hv,zR⟩:=B_ mI;obtain⟨HE,HR,bU,AU,HV⟩:=kN tW gY ok mZ hv;have YO:=lH zR;have HN:Hid (n<=64):=lH (by have h1:=HM.o.1;omega);clear ok hl mZ hv zR mI gY CL tW;have PNX:=P0.o.bl bT.o;obtain⟨y0,y1,y2,y3,y4,y5,nf,nlt⟩:=aW PNX;dsimp only at y0 y1 y2 y3 y4 y5;clear PNX;(go_wp2_with fail);refine(PL _ x bU.o h8 A n c ms w1 (HX.o.up bT.o) (HM.o.bm bT.o) HN.o AU.o HV.o YO.o).mono ?_;rintro e w2 ⟨bH,iO⟩;have cH:=bW bT bH;clear bH y0 y1 y2 y3 y4 y5 nf nlt;rcases iO with⟨gY,g,A1,c1,rfl⟩ | ⟨-,fv,rfl,NA⟩
  ·exact absurd HR.o gY
  have UM:=lH NA;clear NA;have hO:Hid (w.heap.size+1<w1.heap.size):=lH (by have:=bT.o.size;have:=dZ.o;omega);obtain⟨g,m,y,A1,c1,gi,ga,B1,d1,rfl,NB,tF,uM,PA,O_,O9,IC⟩:=UM.o;clear NB tF uM PA O_ O9 IC;have hz:=jT w2 (.cells #[.pointer (some ⟨g,0,none⟩),.slice A1 ms.length c1,.slice (some ⟨gi,0,none⟩) (aA x).length (aA x).length,.slice (some ⟨ga,0,none⟩) (aH x) (aH x),.slice B1 ms.length d1] 95);have YK:=lH hz;have tX:=lH (aG.new w2 95 #[.pointer (some ⟨g,0,none⟩),.slice A1 ms.length c1,.slice (some ⟨gi,0,none⟩) (aA x).length (aA x).length,.slice (some ⟨ga,0,none⟩) (aH x) (aH x),.slice B1 ms.length d1]);clear hz;(go_upto_region 5 with fail);generalize w2.alloc (.cells #[.pointer (some ⟨g,0,none⟩),.slice A1 ms.length c1,.slice (some ⟨gi,0,none⟩) (aA x).length (aA x).length,.slice (some ⟨ga,0,none⟩) (aH x) (aH x),.slice B1 ms.length d1] 95)=wz at *;generalize hgt:w2.heap.size=gt at *;have HGT:=lH hgt;clear hgt;have dY:Hid (Below W.heap.size W wz):=lH (cH.o.trans (YK.o.mono (by rw[<-HGT.o];exact cH.o.size)));have P6:=lH (P4.o.bl dY.o);have KW:Hid (tU x ms w1.heap.size wz (.agg #[.pointer (some ⟨g,0,none⟩),.slice A1 ms.length c1,.slice (some ⟨gi,0,none⟩) (aA x).length (aA x).length,.slice (some ⟨ga,0,none⟩) (aH x) (aH x),.slice B1 ms.length d1])):=lH (UM.o.up (by rw[HGT.o];exact YK.o));clear YK UM;obtain⟨z0,z1,z2,z3,z4,zf,zl⟩:=P6.o.e5;obtain⟨x0,x1⟩:=tX.o.a2;have x2:=tX.o.cell 2;have x3:=tX.o.cell 3;have x4:=tX.o.cell 4;have xl:=tX.o.lt;have HU:=lH (GT (p':=some ⟨g,0,none⟩) (B1:=A1) (k1:=ms.length) (d1:=c1) (B2:=some ⟨gi,0,none⟩) (k2:=(aA x).length) (d2:=(aA x).length) (B3:=some ⟨ga,0,none⟩) (k3:=aH x) (d3:=aH x) (B4:=B1) (k4:=ms.length) (d4:=d1) P6.o);have HQP:=lH (rY (v0:=.pointer (some ⟨g,0,none⟩)) (v1:=.slice A1 ms.length c1) (v2:=.slice (some ⟨gi,0,none⟩) (aA x).length (aA x).length) (v3:=.slice (some ⟨ga,0,none⟩) (aH x) (aH x)) (v4:=.slice B1 ms.length d1) P6.o);have z8:=lH (mS (v0:=.pointer (some ⟨g,0,none⟩)) (v1:=.slice A1 ms.length c1) (v2:=.slice (some ⟨gi,0,none⟩) (aA x).length (aA x).length) (v3:=.slice (some ⟨ga,0,none⟩) (aH x) (aH x)) (v4:=.slice B1 ms.length d1) (HW.o.trans (dY.o.mono (by have:=dZ.o;omega))) (Nat.le_succ w.heap.size));(go_wp2_with fail);obtain⟨p0,p1,p2,p3,p4⟩:=HQP.o.a5;exact bodyPost_ret (v:=.tuple #[.agg #[.pointer (some ⟨g,0,none⟩),.slice A1 ms.length c1,.slice (some ⟨gi,0,none⟩) (aA x).length (aA x).length,.slice (some ⟨ga,0,none⟩) (aH x) (aH x),.slice B1 ms.length d1],.int .i64 0]) (by simp[results,Tryz.results73,go_sem,p0,p1,p2,p3,p4]) rfl ⟨z8.o,.inr ⟨HE.o,_,rfl,(KW.o.unP HU.o hO.o).low (by have:=hO.o;omega)⟩⟩
def aTF(x:bO)(ms:List Mi)(w:Wo)(e:Ending)(w':Wo):Prop:=Below w.heap.size w w'/\((∃c:Int,c≠0/\rK x ms c/\e=.returned (.tuple #[.slice none 0 0,.int .i64 c]))\/
 (rK x ms 0/\((∀q∈aQ x ms (bE x ms),bP q)->∃A n c,e=.returned (.tuple #[.slice A n c,.int .i64 0])/\aY w' w'.heap.size A n ((aQ x ms (bE x ms)).map bN)/\n<=c/\c<=maxLen)/\(¬(∀q∈aQ x ms (bE x ms),bP q)->e=.returned (.tuple #[.slice none 0 0,.int .i64 2]))))
theorem ME(h:bY)(x:bO)(h8:x.nodes.length<=8)(A:OA)(n c:Nat)(ms:List Mi)(w:Wo)(r:cQ w w.heap.size h x)(hm:fP w w.heap.size A n ms)(hz:∀m∈ms,m.txt.size<=maxLen)(hn:n<=9223372036854775807)(ht:dM w):Calls Tryz.prog 35 #[.agg h.cells,.slice A n c] w (aTF x ms w):=by
 have K0:=jT w (.cells h.cells 29);obtain⟨HK,P0,HF,HT⟩:=iK K0 (aG.new w 29 h.cells) (BJ h x h8 A n c ms (w.alloc (.cells h.cells 29)) (r.up K0) (hm.bm K0) hz hn (ht.up K0)) (ht.up K0);have dZ:Hid (w.heap.size<=(w.alloc (.cells h.cells 29)).heap.size):=lH K0.size;have mA:Hid (ms.length=n):=lH hm.1;clear K0 hm r ht hz;obtain⟨D0,r0,s0,D1,r1,s1,D2,r2,s2,D3,r3,s3,D4,r4,s4,D5,r5,s5⟩:=h;obtain⟨y0,y1,y2,y3,y4,y5,nf,nlt⟩:=aW P0.o;dsimp only at y0 y1 y2 y3 y4 y5;go_enter Tryz.func35,Tryz.ntmps35
 go_wp2_with fail
 generalize w.alloc (.cells (bY.cells ⟨D0,r0,s0,D1,r1,s1,D2,r2,s2,D3,r3,s3,D4,r4,s4,D5,r5,s5⟩) 29)=W at *;refine HF.o.mono ?_;rintro e w1 ⟨bC,iO⟩;have bT:=lH (HK.o.trans (bC.mono dZ.o));have zM:=lH (HT.o.up bC);clear bC y0 y1 y2 y3 y4 y5 nf nlt HF;rcases iO with⟨d,hd,tW,rfl⟩ | ⟨tW,fv,rfl,⟨g,m,y,A1,c1,gi,ga,B1,d1,rfl,NB,tF,uM,PA,O_,O9,IC⟩⟩
 ·have HE:=lH tW
  have HD:=lH hd;have hdb:(d != 0)=true:=by simp[hd]
  clear tW hd;(go_wp2_with fail);go_ret2;exact⟨bT.o.alloc bT.o.size _,.inl ⟨d,HD.o,HE.o,rfl⟩⟩
 ·obtain⟨mI,gY,CL⟩:=tW.zero rfl
  obtain⟨ok,hl,mZ⟩:=oI mI;have HE:=lH tW;have hz:=jT w1 (.cells #[.pointer (some ⟨g,0,none⟩),.slice A1 ms.length c1,.slice (some ⟨gi,0,none⟩) (aA x).length (aA x).length,.slice (some ⟨ga,0,none⟩) (aH x) (aH x),.slice B1 ms.length d1] 95);have HQ:=lH (IC.bm hz);have tX:=lH (aG.new w1 95 #[.pointer (some ⟨g,0,none⟩),.slice A1 ms.length c1,.slice (some ⟨gi,0,none⟩) (aA x).length (aA x).length,.slice (some ⟨ga,0,none⟩) (aH x) (aH x),.slice B1 ms.length d1]);have HBZ:=bW bT hz;have vX:=lH (zM.o.up hz);have HL:Hid (ms.length<=64):=lH hl;clear tW NB tF uM PA O_ O9 IC mI gY CL ok hl mZ hz;(go_upto_region 4 with fail);generalize w1.alloc (.cells #[.pointer (some ⟨g,0,none⟩),.slice A1 ms.length c1,.slice (some ⟨gi,0,none⟩) (aA x).length (aA x).length,.slice (some ⟨ga,0,none⟩) (aH x) (aH x),.slice B1 ms.length d1] 95)=wz at *;generalize w1.heap.size=gt at *;have x4:=tX.o.cell 4;have xl:=tX.o.lt;(go_wp2_with fail);refine(mO B1 _ d1 (aQ x ms (bE x ms)) wz HQ.o (by have:=HL.o;omega) vX.o).mono ?_;rintro e w3 ⟨cN,oY,sG⟩;have dY:=bW HBZ cN;have HTA:=lH oY;have HTB:=lH sG;clear cN oY sG x4 xl;by_cases hf:∀q∈aQ x ms (bE x ms),bP q
  ·obtain⟨A7,n7,c7,rfl,hr7,h71,h72⟩:=HTA.o hf
   have KK:=lH hr7;have FA:=lH hf;clear hr7 HTA HTB hf;(go_wp2_with fail);go_ret2;exact⟨dY.o,.inr ⟨HE.o,fun _=>⟨_,_,_,rfl,KK.o,h71,h72⟩,fun h=>absurd FA.o h⟩⟩
  ·obtain rfl:=HTB.o hf
   have FA:=lH hf;clear HTA HTB hf;(go_wp2_with fail);go_ret2;exact⟨dY.o,.inr ⟨HE.o,fun h=>absurd h FA.o,fun _=>rfl⟩⟩
theorem I1(x:bO)(ok:bJ x)(h8:x.nodes.length<=8)(ms:List Mi)(mZ:∀m∈ms,vW x m)(zR:∀m∈ms,1<=m.wt/\m.wt<=1000)(hl:ms.length<=64)(fv:Value)(B0:Nat)(A:OA)(c:Nat)(w:Wo)(hf:tU x ms B0 w fv)(hm:fP w w.heap.size A ms.length ms):Calls Tryz.prog 85 #[fv,.slice A ms.length c] w fun e w'=>Below w.heap.size w w'/\∃v us,e=.returned v/\dP w' w.heap.size v us (cR x ms):=by
 obtain⟨g,m,y,A1,c1,gi,ga,B1,d1,rfl,NB,tF,uM,PA,O_,O9,IC⟩:=hf;have hz:=jT w (.cells #[.pointer (some ⟨g,0,none⟩),.slice A1 ms.length c1,.slice (some ⟨gi,0,none⟩) (aA x).length (aA x).length,.slice (some ⟨ga,0,none⟩) (aH x) (aH x),.slice B1 ms.length d1] 95);obtain⟨HBZ,tX,HRM,HIM,HM⟩:=kN hz (aG.new w 95 #[.pointer (some ⟨g,0,none⟩),.slice A1 ms.length c1,.slice (some ⟨gi,0,none⟩) (aA x).length (aA x).length,.slice (some ⟨ga,0,none⟩) (aH x) (aH x),.slice B1 ms.length d1]) (PA.bm hz) (O_.bm hz) (hm.bm hz);obtain⟨bU,AU,YO,uV⟩:=iK ok mZ zR (fZ ok h8);clear NB tF uM PA O_ O9 IC hz hm ok mZ zR;go_enter Tryz.func85,Tryz.ntmps85
 go_upto_region 1 with fail
 generalize w.alloc (.cells #[.pointer (some ⟨g,0,none⟩),.slice A1 ms.length c1,.slice (some ⟨gi,0,none⟩) (aA x).length (aA x).length,.slice (some ⟨ga,0,none⟩) (aH x) (aH x),.slice B1 ms.length d1] 95)=wz at *;generalize IB:w.heap.size=gf at *;have mD:=lH IB;clear IB;have f1:=tX.o.cell 1;have fl:=tX.o.lt
 go_wp2_with fail
 clear f1 fl
 go_loopw [5,13] (fun v5 v13 wr=>∃(k:Nat)(us:List Rv),k<=ms.length/\v13=.int .i64 k/\dP wr wz.heap.size v5 us ((cR x ms).take k)/\Below wz.heap.size wz wr) (fun _ v13 _=>ms.length-(intOf v13).toNat)
 case atStart=>exact⟨0,[],by omega,rfl,kY _ _,bR⟩
 case round=>
  obtain⟨k,us,hk,rfl,ho,hb⟩:=hrel;have HO:=lH ho;have HB:=lH hb;clear ho hb;by_cases aU:k<ms.length
  ·obtain⟨mi,vI⟩:∃mi,ms[k]?=some mi:=⟨_,iB aU⟩
   have HMK:=lH vI;have IK:Hid ((cR x ms).take (k+1)=(cR x ms).take k++[yW x ms k mi (aA x).length]):=lH (fE (I2 vI));have w_:k<(aV x ms).length:=by rw[wR];exact aU
   obtain⟨row,gX⟩:∃row,(aV x ms)[k]?=some row:=⟨_,iB w_⟩;have E4:=lH gX;have XH:=(HRM.o.below HB.o lR).more HB.o.size;obtain⟨pb,po,aOF,hpb⟩:=XH.form (by omega);subst aOF;obtain⟨⟨qa,qn,qc⟩,q0,q1,q2,q3⟩:=XH.at_ gX;dsimp only at q0 q1 q2 q3;have aCe:row.length=(aA x).length:=(lV bU.o AU.o).1 row (bV gX);have hqn:(aA x).length=qn:=by rw[<-q1.len];exact aCe.symm
   subst hqn;have DI:=lH q1;have xA:=(HM.o.below HB.o lR).more HB.o.size;obtain⟨ab,ao,hA,jA,-⟩:=xA.2.2 (by omega);subst hA;obtain⟨a0,a1,a2,a3⟩:=xA.at_ vI;have hw3:=YO.o mi (bV vI);have fY:(k:Int)<(ms.length:Int):=by omega
   have lB:=lZ k;have rJ:=jF k;have l9:=lN k;have jV:Hid (ms.length-(k+1)<ms.length-k):=lH (by omega);clear XH xA gX vI q1 q2 q3 w_ aCe;(go_wp2_with fail);refine(aAt 1 mi.wt wr (by decide) (by decide) (by omega) (by omega) (by omega)).mono ?_;rintro e w1 ⟨bC,r0,rfl,h0⟩;clear a0 a1 a2 a3 q0 hpb jA;have jR:=jT w1 (.cells #[.bool r0.b1,.slice r0.A r0.n r0.c,.bool r0.b2,.slice r0.A2 r0.m r0.d] 115);obtain⟨FB,E6,Q7⟩:=d_ (aG.new w1 115 #[.bool r0.b1,.slice r0.A r0.n r0.c,.bool r0.b2,.slice r0.A2 r0.m r0.d]) (h0.up jR) (bC.tm jR);have HGV:Hid (wr.heap.size<=w1.heap.size):=lH bC.size;clear jR bC h0;(go_upto_region 6 with fail);generalize w1.alloc (.cells #[.bool r0.b1,.slice r0.A r0.n r0.c,.bool r0.b2,.slice r0.A2 r0.m r0.d] 115)=wb at *;generalize w1.heap.size=gs at *;obtain⟨wl,hwl⟩:∃wl,wl=wr:=⟨_,rfl⟩;subst hwl;(go_wp2_with fail)
   go_loopw [26] (fun v26 wr=>∃(i:Nat)(r:Rv),i<=(aA x).length/\v26=.int .i64 i/\aG wr gs 115 #[.bool r.b1,.slice r.A r.n r.c,.bool r.b2,.slice r.A2 r.m r.d]/\dD wr wr.heap.size (yW x ms k mi i) r/\Below wl.heap.size wl wr) (fun v26 _=>(aA x).length-(intOf v26).toNat)
   case atStart=>exact⟨0,r0,by omega,rfl,FB.o,E6.o,Q7.o⟩
   case round=>
    clear FB E6 Q7;obtain⟨i,r,hi,rfl,FU,hrx,hb⟩:=hrel;obtain⟨eU,HRX,cH⟩:=d_ FU hrx hb;clear FU hrx hb;by_cases kT:i<(aA x).length
    ·have DH:(i:Int)<((aA x).length:Int):=by omega
     have kA:=lZ i;have aJK:=jF i;have YX:=lN i;have YY:Hid ((aA x).length-(i+1)<(aA x).length-i):=lH (by omega);(go_upto_region 9 with fail);have dY:=lH (HB.o.tm cH.o);have U6:=lH (tX.o.bl dY.o);have f2:=U6.o.cell 2;have fl:=U6.o.lt;have hqi:=(HIM.o.below dY.o lR).more dY.o.size;obtain⟨irow,zU⟩:∃irow,(mV (dU (aA x).length (aV x ms) ms))[i]?=some irow:=eA (by rw[hqi.len];exact kT);obtain⟨⟨ia,inn,ic⟩,i0,i1,i2,i3⟩:=hqi.at_ zU;dsimp only at i0 i1 i2 i3;rw[Nat.zero_add] at i0;have hgi:gi<wr.heap.size:=World.block_lt_of_cell? wr ⟨gi,i,none⟩ i0;have hdq:=TJ bU.o h8 AU.o YO.o hl zU (bV E4.o);have w_:irow.length=(aA x).length:=hdq.1;have aOm:(aA x).length=inn:=by rw[<-i1.len];exact w_.symm
     subst aOm;have HIR:=lH i1;have HIQ:=lH (W6 bU.o h8 AU.o YO.o hl irow (bV zU));have HRQ:Hid (∀q∈row,bI q<=2600000000):=lH fun q hq=>cO ((lV bU.o AU.o).2 row (bV E4.o) q hq) (by decide);have vY:=lH (DI.o.bm cH.o);have aCe:row.length=(aA x).length:=(lV bU.o AU.o).1 row (bV E4.o);obtain⟨rb,ro,hqa,AX⟩:=vY.o.form (by omega);subst hqa;obtain⟨xe,e0,e1,e2,e3,e4⟩:=vY.o.at_ (a_ (i:=i) (by rw[aCe];exact kT));have U0:=lH e4;obtain⟨z0,z1,z2,z3,zl⟩:=eU.o.b4;have HDQ:=lH hdq.2;have HVQ:Hid (bI (vf row i)<=300):=lH ((lV bU.o AU.o).2 row (bV E4.o) _ (bV (a_ (i:=i) (by rw[aCe];exact kT))));have HSQ:Hid (bI (yW x ms k mi i)<=400000000000):=lH (by
      have h1:=I3 bU.o h8 AU.o YO.o hl HMK.o i hi;have h2:=uV.o;omega)
     have HSE:Hid (yW x ms k mi (i+1)=yW x ms k mi i-vf row i*jJ irow row):=lH (by
      have a1:(aV x ms).getD k []=row:=by rw[dN,E4.o];rfl
      have a2:(mV (dU (aA x).length (aV x ms) ms)).getD i []=irow:=by rw[dN,zU];rfl
      unfold yW;rw[a1];show BI _ _ _ i-vf row i*jJ ((mV (dU (aA x).length (aV x ms) ms)).getD i []) row=_;rw[a2])
     have bM:=lH (aK (Below.refl wr.heap.size wr));have hn8:(aA x).length<=8:=uV.o;clear hqi zU i1 i2 i3 hdq w_ aCe e4;refine kX 14 (fun hHeld=>?_);simp only[nI,List.take_zero];refine cW [0,1,2,3,4,5,6,7,8,9,10] ?_;refine bQ 11 (fun K hK=>?_);go_simp;refine(CS ia (aA x).length ic (some ⟨rb,ro,none⟩) (aA x).length qc irow row 2600000000 _ (HIR.o.up bM.o) (vY.o.up bM.o) lR (by omega) HIQ.o HRQ.o (by omega)).mono ?_;rintro e w8 ⟨gP,v8,rfl,h8'⟩;have dR:Hid (Below wr.heap.size wr w8):=lH (bM.o.tm gP);have H8:=lH h8';clear gP h8';go_simp;refine gZ hK dR.o (fun hHeld=>?_);clear hK K;refine bQ 12 (fun K hK=>?_);go_simp;refine(LL (U0.o.up dR.o) H8.o (by have:=HVQ.o;have:=HDQ.o;omega)).mono ?_;rintro e w9 ⟨gA,v9,rfl,h9⟩;have eV:Hid (Below wr.heap.size wr w9):=lH (dR.o.tm gA);have H9:=lH h9;clear gA h9;go_simp;refine gZ hK eV.o (fun hHeld=>?_);clear hK K;refine bQ 13 (fun K hK=>?_);go_simp;refine(OC (HRX.o.up eV.o) H9.o (by have:=HVQ.o;have:=HDQ.o;have:=HSQ.o;have:=eL (vf row i) (jJ irow row);omega)).mono ?_;rintro e wq ⟨UZ,vq,rfl,hq⟩;have QJ:Hid (Below wr.heap.size wr wq):=lH (eV.o.tm UZ);have aZI:Hid (dD wq wq.heap.size (yW x ms k mi (i+1)) vq):=lH (by rw[HSE.o];exact hq);clear UZ hq;go_simp;refine gZ hK QJ.o (fun hHeld=>?_);clear hK K;refine eM ?_;clear hHeld;have aHR:=lH (eU.o.bl QJ.o);have a02:=lH (cH.o.tm QJ.o);clear f2 fl i0 hgi e0 e1 e2 e3 z0 z1 z2 z3 zl AX U0 bM dR H8 eV H9 eU HRX cH dY U6 HIR vY;obtain⟨z0,z1,z2,z3,zf,zl⟩:=aHR.o.e4;(go_wp2_with fail);go_roundw
     case rel=>exact⟨i+1,vq,kT,aO YX.o,VX aHR.o,aZI.o.keepq aHR.o,dO a02.o HGV.o⟩
     case measure=>exact YY.o
    ·have DG:i=(aA x).length:=by omega
     have DH:¬(i:Int)<((aA x).length:Int):=by omega
     have HSK:Hid (dD wr wr.heap.size (yW x ms k mi (aA x).length) r):=lH (by rw[<-DG];exact HRX.o);have HO2:=lH (HO.o.keep cH.o);have dY:=lH (HB.o.tm cH.o);obtain⟨z0,z1,z2,z3,zl⟩:=eU.o.b4;have KQ:Hid (((cR x ms).take k).length<=1000000000000):=lH (by rw[kR];omega);have aZR:Hid (wz.heap.size<=wr.heap.size):=lH dY.o.size
     go_wp2_with (at_builtin;refine rL rfl (.tmp 44) (.tmp 46) _ rfl wz.heap.size Tryz.underlying93 _ us _ rfl HO2.o r (yW x ms k mi (aA x).length) HSK.o rfl KQ.o aZR.o ?_)
     intro v' w9 bB GD hob;have E7:=lH bB;have eV:=lH (dY.o.trans hob);clear bB GD hob z0 z1 z2 z3 zl;(go_wp2_with fail);go_roundw
     case rel=>exact⟨k+1,us++[r],aU,aO l9.o,by rw[IK.o];exact E7.o,eV.o⟩
     case measure=>exact jV.o
  ·have nH:k=ms.length:=by omega
   subst nH;have fY:¬((ms.length:Nat):Int)<(ms.length:Int):=by omega
   have hoe:dP wr wz.heap.size u5 us (cR x ms):=by
    have h:=HO.o;rw[nL (by rw[jH];exact lR)] at h;exact h
   have QE:=lH hoe;clear hoe;(go_wp2_with fail);go_ret;exact⟨by rw[mD.o];exact HBZ.o.trans (HB.o.mono (pJ tX.o.lt)),_,rfl,us,⟨bK.mono QE.o.own (by rw[mD.o];exact pJ tX.o.lt),QE.o.len,QE.o.ok⟩⟩
theorem L8(x:bO)(ms:List Mi)(hk:CZ x ms)(fv:Value)(B0:Nat)(A:OA)(c:Nat)(w:Wo)(hf:tU x ms B0 w fv)(hm:fP w w.heap.size A ms.length ms):Calls Tryz.prog 74 #[fv,.slice A ms.length c] w fun e w'=>Below w.heap.size w w'/\∃b:Int,e=.returned (.int .i64 b)/\gH (aQ x ms (bE x ms)) (cR x ms) ms.length b:=by
 have NA:=hf;obtain⟨g,m,y,A1,c1,gi,ga,B1,d1,rfl,NB,tF,uM,PA,O_,O9,IC⟩:=hf;have hz:=jT w (.cells #[.pointer (some ⟨g,0,none⟩),.slice A1 ms.length c1,.slice (some ⟨gi,0,none⟩) (aA x).length (aA x).length,.slice (some ⟨ga,0,none⟩) (aH x) (aH x),.slice B1 ms.length d1] 95);obtain⟨HBZ,tX,UM,HQ,HM⟩:=kN hz (aG.new w 95 #[.pointer (some ⟨g,0,none⟩),.slice A1 ms.length c1,.slice (some ⟨gi,0,none⟩) (aA x).length (aA x).length,.slice (some ⟨ga,0,none⟩) (aH x) (aH x),.slice B1 ms.length d1]) (NA.up hz) (IC.bm hz) (hm.bm hz);have HK:=lH hk;have HL:Hid (ms.length<=64):=lH hk.k64;clear NB tF uM PA O_ O9 IC hz hm hk NA;go_enter Tryz.func74,Tryz.ntmps74
 go_upto_region 1 with fail
 generalize w.alloc (.cells #[.pointer (some ⟨g,0,none⟩),.slice A1 ms.length c1,.slice (some ⟨gi,0,none⟩) (aA x).length (aA x).length,.slice (some ⟨ga,0,none⟩) (aH x) (aH x),.slice B1 ms.length d1] 95)=wz at *;generalize IB:w.heap.size=gf at *;have mD:=lH IB;clear IB;obtain⟨f0,f1,f2,f3,f4,fl⟩:=tX.o.b5
 go_wp2_with fail
 refine(I1 x HK.o.ok HK.o.h8 ms HK.o.mi HK.o.wt HK.o.k64 _ B0 A c wz UM.o HM.o).mono ?_;rintro e w1 ⟨bC,v,us,rfl,ho⟩;obtain⟨As,cs,rfl,rC,-,-,-⟩:=ho.rd;rw[jH] at rC;rw[jH];have HS:=lH rC;have bT:=lH bC;clear f0 f1 f2 f3 f4 fl ho rC bC UM HM;replace HQ:=lH (HQ.o.bm bT.o)
 go_wp2_with fail
 refine(qD 0 w1 (by decide) (by decide)).mono ?_;rintro e w2 ⟨bH,r0,rfl,h0⟩;have jR:=jT w2 (.cells #[.bool r0.b1,.slice r0.A r0.n r0.c,.bool r0.b2,.slice r0.A2 r0.m r0.d] 115);have FB:=lH (aG.new w2 115 #[.bool r0.b1,.slice r0.A r0.n r0.c,.bool r0.b2,.slice r0.A2 r0.m r0.d]);have Q7:=lH (bH.tm jR);have HGV:Hid (w1.heap.size<=w2.heap.size):=lH bH.size;clear jR bH h0;have U6:=lH (tX.o.below (bT.o.tm Q7.o) tX.o.lt)
 go_upto_region 4 with fail
 generalize w2.alloc (.cells #[.bool r0.b1,.slice r0.A r0.n r0.c,.bool r0.b2,.slice r0.A2 r0.m r0.d] 115)=wb at *;generalize w2.heap.size=g7 at *;have f4:=U6.o.cell 4;have fl:=U6.o.lt
 go_wp2_with fail
 clear f4 fl
 go_loopw [6,18] (fun v6 v18 wr=>∃(k:Nat)(b:Int)(r:Rv),k<=ms.length/\v18=.int .i64 k/\v6=.int .i64 b/\gH (aQ x ms (bE x ms)) (cR x ms) k b/\aG wr g7 115 #[.bool r.b1,.slice r.A r.n r.c,.bool r.b2,.slice r.A2 r.m r.d]/\(∀j:Nat,b=(j:Int)->dD wr wr.heap.size (QO (aQ x ms (bE x ms)) (cR x ms) j) r)/\Below w1.heap.size w1 wr) (fun _ v18 _=>ms.length-(intOf v18).toNat)
 case atStart=>exact⟨0,-1,r0,by omega,rfl,rfl,gH.zero,FB.o,fun j h=>absurd h (by omega),Q7.o⟩
 case round=>
  clear FB Q7 U6;obtain⟨k,b,r,hk,rfl,rfl,EM,FU,hrx,hb⟩:=hrel;obtain⟨BC,eU,HRX,HB⟩:=iK EM FU hrx hb;clear EM FU hrx hb;by_cases aU:k<ms.length
  ·have fY:(k:Int)<(ms.length:Int):=by omega
   have lB:=lZ k;have rJ:=jF k;have aXX:=HL.o;have l9:=lN k;have jV:Hid (ms.length-(k+1)<ms.length-k):=lH (by omega);have oO:=(HQ.o.below HB.o lR).more HB.o.size;obtain⟨rb,ro,hqa,AX⟩:=oO.form (by omega);subst hqa;obtain⟨xe,e0,e1,e2,e3,e4⟩:=oO.at_ (a_ (i:=k) (by rw[qK];exact aU));have U0:=lH e4;generalize hpe:vf (aQ x ms (bE x ms)) k=p at *;have HPE:=lH hpe;clear oO e4 hpe;(go_upto_region 7 with fail);have jR:=jT wr (.cells #[.bool xe.b1,.slice xe.A xe.n xe.c,.bool xe.b2,.slice xe.A2 xe.m xe.d] 115);have HBY:=lH (aG.new wr 115 #[.bool xe.b1,.slice xe.A xe.n xe.c,.bool xe.b2,.slice xe.A2 xe.m xe.d]);have aVl:=lH (eU.o.bl jR);have N2:=bW HB jR;have aO6:=lH (U0.o.up jR);have aUh:=lH fun j h=>(HRX.o j h).up jR;clear jR e0 e1 e2 e3 AX eU HB U0 HRX;generalize wr.alloc (.cells #[.bool xe.b1,.slice xe.A xe.n xe.c,.bool xe.b2,.slice xe.A2 xe.m xe.d] 115)=wa at *;generalize wr.heap.size=g9 at *;obtain⟨y0,y1,y2,y3,yl⟩:=HBY.o.b4
   (go_wp2_with fail);refine(uZ aO6.o).mono ?_;rintro e w3 ⟨rfl,cN⟩;have aVk:=lH (HBY.o.bl cN);have aP5:=lH (aVl.o.bl cN);have HBb:=bW N2 cN;have aTR:=lH (aO6.o.up cN);have aPm:=lH fun j h=>(aUh.o j h).up cN;clear cN y0 y1 y2 y3 yl HBY aVl N2 aO6 aUh
   by_cases hp:p=0
   ·have hsg:(p.num.sign == 0)=true:=by rw[ZN,decide_eq_true hp]
    have HWS:=lH (BC.o.skip (fun h=>h.1 (by rw[HPE.o];exact hp)));generalize p.num.sign=sg at *;(go_wp2_with fail);go_roundw
    case rel=>exact⟨k+1,b,r,aU,aO l9.o,rfl,HWS.o,aP5.o,aPm.o,HBb.o⟩
    case measure=>exact jV.o
   ·have hsg:(p.num.sign == 0)=false:=by rw[ZN,decide_eq_false hp]
    have HP0:=lH hp;generalize p.num.sign=sg at *;clear hp;have wY:=(HS.o.below HBb.o lR).more HBb.o.size;obtain⟨sb,so,hqa,GA⟩:=wY.form (by omega);subst hqa;obtain⟨se,e0,e1,e2,e3,e4⟩:=wY.at_ (a_ (i:=k) (by rw[jH];exact aU));have HSE:=lH e4;have HQK:Hid (vf (cR x ms) k∈cR x ms):=lH (bV (a_ (i:=k) (by rw[jH];exact aU)));generalize hqe:vf (cR x ms) k=q at *;have HQE:=lH hqe;clear wY e4 hqe;(go_wp2_with fail);refine(uZ HSE.o).mono ?_;rintro e w4 ⟨rfl,eR⟩;have aVj:=lH (aVk.o.bl eR);have aP4:=lH (aP5.o.bl eR);have HBc:=bW HBb eR;have aO5:=lH (aTR.o.up eR);have aPl:=lH fun j h=>(aPm.o j h).up eR;have aZW:=lH (HSE.o.up eR);clear e0 e1 e2 e3 eR aVk aP5 HBb aTR aPm HSE GA
    by_cases hq:q=0
    ·have aRY:(q.num.sign == 0)=true:=by rw[ZN,decide_eq_true hq]
     have HWS:=lH (BC.o.skip (fun h=>h.2 (by rw[HQE.o];exact hq)));generalize q.num.sign=sg2 at *;(go_wp2_with fail);go_roundw
     case rel=>exact⟨k+1,b,r,aU,aO l9.o,rfl,HWS.o,aP4.o,aPl.o,HBc.o⟩
     case measure=>exact jV.o
    ·have aRY:(q.num.sign == 0)=false:=by rw[ZN,decide_eq_false hq]
     have HQ0:=lH hq;have HWK:Hid (WOk (aQ x ms (bE x ms)) (cR x ms) k):=lH ⟨by rw[HPE.o];exact HP0.o,by rw[HQE.o];exact hq⟩;generalize q.num.sign=sg2 at *;clear hq;have HPZ:Hid (bI p<=700000000000):=lH (by
      rw[<-HPE.o];exact HK.o.res _ (bV (a_ (i:=k) (by rw[qK];exact aU))))
     have YT:=lH (HK.o.spr q HQK.o);have HWQ:Hid (QO (aQ x ms (bE x ms)) (cR x ms) k=p*p / q):=lH (by unfold QO;rw[HPE.o,HQE.o]);obtain⟨y0,y1,y2,y3,yl⟩:=aVj.o.b4;(go_upto_region 8 with fail);have wY:=(HS.o.below HBc.o lR).more HBc.o.size;obtain⟨se2,e0,e1,e2,e3,e4⟩:=wY.at_ (a_ (i:=k) (by rw[jH];exact aU));rw[HQE.o] at e4;have aUg:=lH e4;have GA:sb<w4.heap.size:=World.block_lt_of_cell? w4 _ e0;have bM:=lH (aK (Below.refl w4.heap.size w4));clear wY e4;refine kX 9 (fun hHeld=>?_);simp only[nI,List.take_zero];refine cW [0,1,3,4,5,6] ?_;refine aEv (C:=fun s w'=>Below w4.heap.size w4 w') (G:=fun w' w''=>Below w'.heap.size w' w'') [(2,YJ (p*p)),(7,YJ (p*p / q)),(8,KI w4.heap.size 115 #[.bool false,.slice none 0 0,.bool false,.slice none 0 0])] rfl (by kernel_rfl) (List.forall_mem_cons.2 ⟨fun _ _ _ h g=>h.up g,List.forall_mem_cons.2 ⟨fun _ _ _ h g=>h.up g,List.forall_mem_cons.2 ⟨fun _ _ _ h g=>h.up g,List.forall_mem_nil _⟩⟩⟩) (fun _ _ h=>h) hHeld ?_;refine eE (i:=2) rfl (fun s w3 hC hn hK=>?_) (fun v2=>?_)
     ·unfold iE;go_simp;simp only[eZ]
      refine(LL (aO5.o.up hC) (aO5.o.up hC) (by have:=HPZ.o;omega)).mono ?_;rintro e w6 ⟨fT,r6,rfl,rD⟩;exact⟨_,rfl,⟨r6,rfl,rD⟩,hC.tm fT,fT⟩
     (try simp only[Act.put,gL,gK,gJ]);refine eE (i:=7) rfl (fun s w3 hC hn hK=>?_) (fun v7=>?_)
     ·have k2:s 2=some v2/\YJ (p*p) v2 w3:=hK 2 (by kernel_rfl)
      obtain⟨-,r2',rfl,h2⟩:=k2;unfold iE;go_simp;simp only[eZ];refine(aTq h2 (aUg.o.up hC) HQ0.o (by have:=HPZ.o;have:=YT.o;have:=eL p p;omega)).mono ?_;rintro e w6 ⟨fT,r6,rfl,rD⟩;exact⟨_,rfl,⟨r6,rfl,rD⟩,hC.tm fT,fT⟩
     (try simp only[Act.put,gL,gK,gJ]);refine eE (i:=8) rfl (fun s w3 hC hn hK=>?_) (fun v8=>?_)
     ·unfold iE;go_simp;simp only[eZ]
      exact⟨⟨_,rfl,hC.size,aG.new _ _ _⟩,hC.alloc hC.size _,bA⟩
     (try simp only[Act.put,gL,gK,gJ]);refine D_ (fun s wc hC hK=>?_);have k7:s 7=some v7/\YJ (p*p / q) v7 wc:=hK 7;have k8:s 8=some v8/\KI w4.heap.size 115 #[.bool false,.slice none 0 0,.bool false,.slice none 0 0] v8 wc:=hK 8;obtain⟨-,r7,rfl,h7⟩:=k7;obtain⟨-,gv,rfl,hgv,K9⟩:=k8;obtain⟨HBC,KK,L5,hO⟩:=iK hC h7 hgv K9;clear hC hK h7 hgv K9 hHeld;obtain⟨z0,z1,z2,z3,zf,zl⟩:=hO.o.e4;refine dK (by rfl) ?_;(go_upto_region 9 with fail);clear z0 z1 z2 z3 zl zf e0 e1 e2 e3 y0 y1 y2 y3 yl GA;have ZA:=lH (VX (v:=r7) (x:=DD) hO.o);have KZ:=lH (dO (v:=r7) HBC.o L5.o);have LZ:=lH (KK.o.keepq (v:=r7) (x:=DD) hO.o);unfold F8 at KZ LZ;generalize (((wc.setCell ⟨gv,0,none⟩ _).setCell ⟨gv,1,none⟩ _).setCell ⟨gv,2,none⟩ _).setCell ⟨gv,3,none⟩ _=wd at *;have aHS:=lH (aP4.o.bl KZ.o);have HBd:=lH (HBc.o.tm KZ.o);have aPk:=lH fun j h=>(aPl.o j h).up KZ.o;clear HBC KK hO bM aP4 HBc aPl aO5 aZW aUg aVj;obtain⟨x0,x1,x2,x3,xf,xl⟩:=aHS.o.e4;obtain⟨z0,z1,z2,z3,zl⟩:=ZA.o.b4
     by_cases hb:b<0
     ·have EN:decide (b<0)=true:=decide_eq_true hb
      have HWS:Hid (gH (aQ x ms (bE x ms)) (cR x ms) (k+1) (k:Int)):=lH (by
       have h:=BC.o;have e:b=-1:=by
        rcases h with⟨h1,-⟩ | ⟨j,h1,-⟩<;>omega
       rw[e] at h;exact h.first HWK.o)
      (go_wp2_with fail);refine kX 3 (fun hHeld=>?_);simp only[nI,List.take_zero];refine cW [0,1,2] ?_;refine eM ?_;have K8:=aK (Below.refl wd.heap.size wd);have Y_:=lH (aHS.o.bl K8);have HBf:=bW HBd K8;have aPj:=lH (LZ.o.up K8);clear K8 x0 x1 x2 x3 xl xf z0 z1 z2 z3 zl aHS ZA HBd LZ hHeld;generalize wd.drew=wf at *;obtain⟨x0,x1,x2,x3,xf,xl⟩:=Y_.o.e4;(go_wp2_with fail);go_roundw
      case rel=>exact⟨k+1,k,r7,aU,aO l9.o,rfl,HWS.o,VX Y_.o,fun j hj=>by
       have e:j=k:=by omega
       subst e;rw[HWQ.o];exact aPj.o.keepq Y_.o,dO HBf.o HGV.o⟩
      case measure=>exact jV.o
     ·have EN:decide (b<0)=false:=decide_eq_false hb
      obtain⟨j,hj⟩:∃j:Nat,b=(j:Int):=⟨b.toNat,by omega⟩;subst hj;have HJK:=lH (aPk.o j rfl);have HJQ:Hid (bI (QO (aQ x ms (bE x ms)) (cR x ms) j)<=1800000000000):=lH (by
       have oP:j<ms.length:=by
        rcases BC.o with⟨h1,-⟩ | ⟨i,h1,h2,-⟩<;>omega
       have h1:=HK.o.res _ (bV (a_ (i:=j) (by rw[qK];exact oP)));have h2:=HK.o.spr _ (bV (a_ (i:=j) (by rw[jH];exact oP)));unfold QO;have h3:=eL (vf (aQ x ms (bE x ms)) j) (vf (aQ x ms (bE x ms)) j);have h4:=IE (vf (aQ x ms (bE x ms)) j*vf (aQ x ms (bE x ms)) j) (vf (cR x ms) j);omega)
      have HKQ:Hid (bI (p*p / q)<=1800000000000):=lH (by
       have h1:=HPZ.o;have h2:=YT.o;have h3:=eL p p;have h4:=IE (p*p) q;omega)
      (go_wp2_with fail);refine(aZf LZ.o HJK.o (by have:=HJQ.o;have:=HKQ.o;omega)).mono ?_;rintro e w9 ⟨rfl,gA⟩;have aK3:=lH (aHS.o.bl gA);have aVn:=lH (ZA.o.bl gA);have HBe:=bW HBd gA;have aZ1:=lH fun j h=>(aPk.o j h).up gA;have aUi:=lH (LZ.o.up gA);clear gA x0 x1 x2 x3 xl xf z0 z1 z2 z3 zl aHS HBd aPk ZA LZ HJK HJQ HKQ;obtain⟨x0,x1,x2,x3,xf,xl⟩:=aK3.o.e4;obtain⟨z0,z1,z2,z3,zl⟩:=aVn.o.b4
      by_cases hcq:0<X7 (p*p / q) (QO (aQ x ms (bE x ms)) (cR x ms) j)
      ·have HWS:Hid (gH (aQ x ms (bE x ms)) (cR x ms) (k+1) (k:Int)):=lH (BC.o.take HWK.o (by rw[HWQ.o];exact aAJ.1 hcq))
       generalize X7 (p*p / q) (QO (aQ x ms (bE x ms)) (cR x ms) j)=cq at *;have hcd:decide (0<cq)=true:=decide_eq_true hcq;have aYH:decide (cq>0)=true:=decide_eq_true hcq;(go_wp2_with fail);refine kX 3 (fun hHeld=>?_);simp only[nI,List.take_zero];refine cW [0,1,2] ?_;refine eM ?_;have K8:=aK (Below.refl w9.heap.size w9);have Y_:=lH (aK3.o.bl K8);have HBf:=bW HBe K8;have aPj:=lH (aUi.o.up K8);clear K8 x0 x1 x2 x3 xl xf z0 z1 z2 z3 zl aK3 aVn HBe aUi hHeld;generalize w9.drew=wf at *;obtain⟨x0,x1,x2,x3,xf,xl⟩:=Y_.o.e4;(go_wp2_with fail);go_roundw
       case rel=>exact⟨k+1,k,r7,aU,aO l9.o,rfl,HWS.o,VX Y_.o,fun j hj=>by
        have e:j=k:=by omega
        subst e;rw[HWQ.o];exact aPj.o.keepq Y_.o,dO HBf.o HGV.o⟩
       case measure=>exact jV.o
      ·have HWS:Hid (gH (aQ x ms (bE x ms)) (cR x ms) (k+1) (j:Int)):=lH (BC.o.stay (by rw[HWQ.o];exact fun h=>hcq (aAJ.2 h)))
       generalize X7 (p*p / q) (QO (aQ x ms (bE x ms)) (cR x ms) j)=cq at *;have hcd:decide (0<cq)=false:=decide_eq_false hcq;have aYH:decide (cq>0)=false:=decide_eq_false hcq;(go_wp2_with fail);go_roundw
       case rel=>exact⟨k+1,j,r,aU,aO l9.o,rfl,HWS.o,aK3.o,aZ1.o,HBe.o⟩
       case measure=>exact jV.o
  ·have nH:k=ms.length:=by omega
   subst nH;have fY:¬((ms.length:Nat):Int)<(ms.length:Int):=by omega
   (go_wp2_with fail);go_ret;exact⟨by rw[mD.o];exact HBZ.o.trans ((bT.o.tm HB.o).mono (pJ tX.o.lt)),_,rfl,BC.o⟩
def aTy(x:bO)(ms:List Mi)(w:Wo)(e:Ending)(w':Wo):Prop:=Below w.heap.size w w'/\((∃c:Int,c≠0/\rK x ms c/\e=.returned (.tuple #[.slice none 0 0,.int .i64 c]))\/
 (rK x ms 0/\((∀q∈cR x ms,bP q)->∃A n c,e=.returned (.tuple #[.slice A n c,.int .i64 0])/\aY w' w'.heap.size A n ((cR x ms).map bN)/\n<=c/\c<=maxLen)/\(¬(∀q∈cR x ms,bP q)->e=.returned (.tuple #[.slice none 0 0,.int .i64 2]))))
theorem RN(h:bY)(x:bO)(h8:x.nodes.length<=8)(A:OA)(n c:Nat)(ms:List Mi)(w:Wo)(r:cQ w w.heap.size h x)(hm:fP w w.heap.size A n ms)(hz:∀m∈ms,m.txt.size<=maxLen)(hn:n<=9223372036854775807)(ht:dM w):Calls Tryz.prog 43 #[.agg h.cells,.slice A n c] w (aTy x ms w):=by
 have K0:=jT w (.cells h.cells 29);obtain⟨HK,P0,HF,HT⟩:=iK K0 (aG.new w 29 h.cells) (BJ h x h8 A n c ms (w.alloc (.cells h.cells 29)) (r.up K0) (hm.bm K0) hz hn (ht.up K0)) (ht.up K0);have dZ:Hid (w.heap.size<=(w.alloc (.cells h.cells 29)).heap.size):=lH K0.size;have mA:Hid (ms.length=n):=lH hm.1;have HM:=lH (hm.bm K0);clear K0 hm r ht hz;obtain⟨D0,r0,s0,D1,r1,s1,D2,r2,s2,D3,r3,s3,D4,r4,s4,D5,r5,s5⟩:=h;obtain⟨y0,y1,y2,y3,y4,y5,nf,nlt⟩:=aW P0.o;dsimp only at y0 y1 y2 y3 y4 y5;go_enter Tryz.func43,Tryz.ntmps43
 go_wp2_with fail
 generalize w.alloc (.cells (bY.cells ⟨D0,r0,s0,D1,r1,s1,D2,r2,s2,D3,r3,s3,D4,r4,s4,D5,r5,s5⟩) 29)=W at *;refine HF.o.mono ?_;rintro e w1 ⟨bC,iO⟩;have bT:=lH (HK.o.trans (bC.mono dZ.o));have zM:=lH (HT.o.up bC);replace HM:=lH (HM.o.bm bC);clear bC y0 y1 y2 y3 y4 y5 nf nlt HF;rcases iO with⟨d,hd,tW,rfl⟩ | ⟨tW,fv,rfl,⟨g,m,y,A1,c1,gi,ga,B1,d1,rfl,NB,tF,uM,PA,O_,O9,IC⟩⟩
 ·have HE:=lH tW
  have HD:=lH hd;have hdb:(d != 0)=true:=by simp[hd]
  clear tW hd;(go_wp2_with fail);go_ret2;exact⟨bT.o.alloc bT.o.size _,.inl ⟨d,HD.o,HE.o,rfl⟩⟩
 ·obtain⟨mI,gY,CL⟩:=tW.zero rfl
  obtain⟨ok,hl,mZ⟩:=oI mI;have HE:=lH tW;have hz:=jT w1 (.cells #[.pointer (some ⟨g,0,none⟩),.slice A1 ms.length c1,.slice (some ⟨gi,0,none⟩) (aA x).length (aA x).length,.slice (some ⟨ga,0,none⟩) (aH x) (aH x),.slice B1 ms.length d1] 95);have NA:=tU.up (B0:=W.heap.size) (x:=x) (ms:=ms) ⟨g,m,y,A1,c1,gi,ga,B1,d1,rfl,NB,tF,uM,PA,O_,O9,IC⟩ hz;obtain⟨UM,HK,HM2,tX⟩:=iK NA (OV h8 mI) (HM.o.bm hz) (aG.new w1 95 #[.pointer (some ⟨g,0,none⟩),.slice A1 ms.length c1,.slice (some ⟨gi,0,none⟩) (aA x).length (aA x).length,.slice (some ⟨ga,0,none⟩) (aH x) (aH x),.slice B1 ms.length d1]);have HBZ:=bW bT hz;have vX:=lH (zM.o.up hz);have HL:Hid (ms.length<=64):=lH hl;clear tW NB tF uM PA O_ O9 IC NA mI gY CL ok hl mZ hz;(go_upto_region 4 with fail);generalize w1.alloc (.cells #[.pointer (some ⟨g,0,none⟩),.slice A1 ms.length c1,.slice (some ⟨gi,0,none⟩) (aA x).length (aA x).length,.slice (some ⟨ga,0,none⟩) (aH x) (aH x),.slice B1 ms.length d1] 95)=wz at *;generalize w1.heap.size=gt at *;obtain⟨x0,x1,x2,x3,x4,xl⟩:=tX.o.b5;have LN:=mA.o;subst LN;(go_wp2_with fail);refine(I1 x HK.o.ok h8 ms HK.o.mi HK.o.wt HK.o.k64 _ _ A c wz UM.o HM2.o).mono ?_;rintro e w2 ⟨bH,v2,us2,rfl,ho2⟩;obtain⟨A2,c2,lA,aNW,-,-,-⟩:=ho2.rd;subst lA;rw[jH] at aNW;rw[jH];have HQ:=lH aNW;have cH:=bW HBZ bH;have HT3:=lH (vX.o.up bH);clear bH ho2 aNW x0 x1 x2 x3 x4 xl;(go_wp2_with fail);refine(mO A2 _ c2 (cR x ms) w2 HQ.o (by have:=HL.o;omega) HT3.o).mono ?_;rintro e w3 ⟨cN,oY,sG⟩;have dY:=bW cH cN;have HTA:=lH oY;have HTB:=lH sG;clear cN oY sG;by_cases hf:∀q∈cR x ms,bP q
  ·obtain⟨A7,n7,c7,rfl,hr7,h71,h72⟩:=HTA.o hf
   have KK:=lH hr7;have FA:=lH hf;clear hr7 HTA HTB hf;(go_wp2_with fail);go_ret2;exact⟨dY.o,.inr ⟨HE.o,fun _=>⟨_,_,_,rfl,KK.o,h71,h72⟩,fun h=>absurd FA.o h⟩⟩
  ·obtain rfl:=HTB.o hf
   have FA:=lH hf;clear HTA HTB hf;(go_wp2_with fail);go_ret2;exact⟨dY.o,.inr ⟨HE.o,fun h=>absurd h FA.o,fun _=>rfl⟩⟩
def aTu(x:bO)(ms:List Mi)(w:Wo)(e:Ending)(w':Wo):Prop:=Below w.heap.size w w'/\((∃c:Int,c≠0/\rK x ms c/\e=.returned (.tuple #[.int .i64 0,.int .i64 c]))\/
 (rK x ms 0/\∃b:Int,gH (aQ x ms (bE x ms)) (cR x ms) ms.length b/\((b<0/\e=.returned (.tuple #[.int .i64 0,.int .i64 8]))\/(0<=b/\e=.returned (.tuple #[.int .i64 b,.int .i64 0])))))
theorem IR(h:bY)(x:bO)(h8:x.nodes.length<=8)(A:OA)(n c:Nat)(ms:List Mi)(w:Wo)(r:cQ w w.heap.size h x)(hm:fP w w.heap.size A n ms)(hz:∀m∈ms,m.txt.size<=maxLen)(hn:n<=9223372036854775807)(ht:dM w):Calls Tryz.prog 45 #[.agg h.cells,.slice A n c] w (aTu x ms w):=by
 have K0:=jT w (.cells h.cells 29);obtain⟨HK,P0,HF,HT⟩:=iK K0 (aG.new w 29 h.cells) (BJ h x h8 A n c ms (w.alloc (.cells h.cells 29)) (r.up K0) (hm.bm K0) hz hn (ht.up K0)) (ht.up K0);have dZ:Hid (w.heap.size<=(w.alloc (.cells h.cells 29)).heap.size):=lH K0.size;have mA:Hid (ms.length=n):=lH hm.1;have HM:=lH (hm.bm K0);clear K0 hm r ht hz;obtain⟨D0,r0,s0,D1,r1,s1,D2,r2,s2,D3,r3,s3,D4,r4,s4,D5,r5,s5⟩:=h;obtain⟨y0,y1,y2,y3,y4,y5,nf,nlt⟩:=aW P0.o;dsimp only at y0 y1 y2 y3 y4 y5;go_enter Tryz.func45,Tryz.ntmps45
 go_wp2_with fail
 generalize w.alloc (.cells (bY.cells ⟨D0,r0,s0,D1,r1,s1,D2,r2,s2,D3,r3,s3,D4,r4,s4,D5,r5,s5⟩) 29)=W at *;refine HF.o.mono ?_;rintro e w1 ⟨bC,iO⟩;have bT:=lH (HK.o.trans (bC.mono dZ.o));have zM:=lH (HT.o.up bC);replace HM:=lH (HM.o.bm bC);clear bC y0 y1 y2 y3 y4 y5 nf nlt HF;rcases iO with⟨d,hd,tW,rfl⟩ | ⟨tW,fv,rfl,⟨g,m,y,A1,c1,gi,ga,B1,d1,rfl,NB,tF,uM,PA,O_,O9,IC⟩⟩
 ·have HE:=lH tW
  have HD:=lH hd;have hdb:(d != 0)=true:=by simp[hd]
  clear tW hd;(go_wp2_with fail);go_ret2;exact⟨bT.o.alloc bT.o.size _,.inl ⟨d,HD.o,HE.o,rfl⟩⟩
 ·obtain⟨mI,gY,CL⟩:=tW.zero rfl
  obtain⟨ok,hl,mZ⟩:=oI mI;have HE:=lH tW;have hz:=jT w1 (.cells #[.pointer (some ⟨g,0,none⟩),.slice A1 ms.length c1,.slice (some ⟨gi,0,none⟩) (aA x).length (aA x).length,.slice (some ⟨ga,0,none⟩) (aH x) (aH x),.slice B1 ms.length d1] 95);have NA:=tU.up (B0:=W.heap.size) (x:=x) (ms:=ms) ⟨g,m,y,A1,c1,gi,ga,B1,d1,rfl,NB,tF,uM,PA,O_,O9,IC⟩ hz;obtain⟨UM,HK,HM2,tX⟩:=iK NA (OV h8 mI) (HM.o.bm hz) (aG.new w1 95 #[.pointer (some ⟨g,0,none⟩),.slice A1 ms.length c1,.slice (some ⟨gi,0,none⟩) (aA x).length (aA x).length,.slice (some ⟨ga,0,none⟩) (aH x) (aH x),.slice B1 ms.length d1]);have HBZ:=bW bT hz;have vX:=lH (zM.o.up hz);have HL:Hid (ms.length<=64):=lH hl;clear tW NB tF uM PA O_ O9 IC NA mI gY CL ok hl mZ hz;(go_upto_region 4 with fail);generalize w1.alloc (.cells #[.pointer (some ⟨g,0,none⟩),.slice A1 ms.length c1,.slice (some ⟨gi,0,none⟩) (aA x).length (aA x).length,.slice (some ⟨ga,0,none⟩) (aH x) (aH x),.slice B1 ms.length d1] 95)=wz at *;generalize w1.heap.size=gt at *;obtain⟨x0,x1,x2,x3,x4,xl⟩:=tX.o.b5;have LN:=mA.o;subst LN;(go_wp2_with fail);refine(L8 x ms HK.o _ _ A c wz UM.o HM2.o).mono ?_;rintro e w2 ⟨bH,b,rfl,EM⟩;have BC:=lH EM;have cH:=bW HBZ bH;clear bH EM x0 x1 x2 x3 x4 xl;by_cases hb:b<0
  ·have GP:=lH hb
   have EN:decide (b<0)=true:=decide_eq_true hb;(go_wp2_with fail);go_ret2;exact⟨cH.o,.inr ⟨HE.o,b,BC.o,.inl ⟨GP.o,rfl⟩⟩⟩
  ·have GP:Hid (0<=b):=lH (by omega)
   have EN:decide (b<0)=false:=decide_eq_false hb;(go_wp2_with fail);go_ret2;exact⟨cH.o,.inr ⟨HE.o,b,BC.o,.inr ⟨GP.o,rfl⟩⟩⟩
def sV:Array Value->Nat->List Value->Array Value
 | c,_,[]=>c
 | c,o,v::vs=>sV (c.setIfInBounds o v) (o+1) vs
theorem pV:∀(vs:List Value)(c:Array Value)(o:Nat),(sV c o vs).size=c.size
 | [],c,o=>rfl
 | v::vs,c,o=>by unfold sV;rw[pV vs,Array.size_setIfInBounds]
theorem xV:∀(vs:List Value)(c:Array Value)(o:Nat),o+vs.length<=c.size->(sV c o vs).toList=c.toList.take o++vs++c.toList.drop (o+vs.length)
 | [],c,o,h=>by
  show c.toList=_;rw[List.append_nil,zW_,Nat.add_zero,List.take_append_drop]
 | v::vs,c,o,h=>by
  rw[GS] at h;unfold sV;rw[xV vs _ (o+1) (by rw[Array.size_setIfInBounds];omega),Array.toList_setIfInBounds];have hl:o<c.toList.length:=by rw[Array.length_toList];omega
  have e1:(c.toList.set o v).take (o+1)=c.toList.take o++[v]:=by
   rw[List.set_eq_take_append_cons_drop,if_pos hl];rw[show o+1=(c.toList.take o).length+1 by rw[kR];omega,List.take_length_add_append];rfl
  have e2:(c.toList.set o v).drop (o+1+vs.length)=c.toList.drop (o+(v::vs).length):=by
   rw[List.drop_set_of_lt (by omega),GS];congr 1
   omega
  rw[e1,e2,List.append_assoc,List.append_assoc,List.append_assoc];rfl
theorem nE{t:Nat}:∀(vs:List Value)(o:Nat)(w:Wo)(c:Array Value),aG w g t c->aG (w.setCells g o vs) g t (sV c o vs)
 | [],o,w,c,h=>h
 | v::vs,o,w,c,h=>by
  show aG ((w.setCell ⟨g,o,none⟩ v).setCells g (o+1) vs) g t (sV (c.setIfInBounds o v) (o+1) vs);exact nE vs (o+1) _ _ (h.set_ o v)
theorem wQ:∀(vs:List Value)(o:Nat)(w:Wo),Below g w (w.setCells g o vs)
 | [],o,w=>bR
 | v::vs,o,w=>((Below.refl g w).setCell lR v).trans (wQ vs (o+1) _)
theorem wP{b:Nat}(hb:b≠g):∀(vs:List Value)(o:Nat)(w:Wo),(w.setCells g o vs).heap[b]?=w.heap[b]?
 | [],o,w=>rfl
 | v::vs,o,w=>by
  show((w.setCell ⟨g,o,none⟩ v).setCells g (o+1) vs).heap[b]?=w.heap[b]?;rw[wP hb vs];simp[World.setCell,Array.getElem?_modify,Ne.symm hb]
section
variable {P:Program}
theorem zP(w:Wo)(t e ty:TypeId)(z:Value)(ht:P.underlying t=some (.slice e))(hv:∀w,(zeroValue e).run P w=.ok z w)(h1:∀u∈z.cells.toList,u.oneCell'=true)(b o c:Nat)(hc:∀j,j<z.cells.size->(w.cell? ⟨b,o+j,none⟩).isSome=true)(hf:∀j,j<z.cells.size->w.frozen? ⟨b,o+j,none⟩=false):(Builtin.clear_ #[t] ty #[.slice (some ⟨b,o,none⟩) 1 c]).run P w=.ok (.tuple #[]) (w.setCells b o z.cells.toList):=by
 have hzc:(Builtin.zeroCells z.cells 1).toList=z.cells.toList:=by
  apply List.ext_getElem?;intro i;unfold Builtin.zeroCells;rw[Array.toList_map,Array.toList_range,iY,Nat.one_mul];by_cases hi:i<z.cells.size
  ·rw[List.getElem?_range hi,Option.map_some,Nat.mod_eq_of_lt hi,getElem!_pos z.cells i hi,Array.getElem?_toList,Array.getElem?_eq_getElem hi]
  ·rw[List.getElem?_eq_none (by rw[List.length_range];omega),List.getElem?_eq_none (by rw[Array.length_toList];omega)]
   rfl
 have M7:=run_storeCells_cells (P:=P) b o z.cells.toList 0 w (by simpa using hc) (by simpa using hf) h1;simp only[Nat.add_zero] at M7;simp[Builtin.clear_,run_underlying ht,hv,hzc,M7]
end
def aQb(g T size n cap k:Nat)(cur:Array Value)(zc:List Value)(w:Wo)(e:Ending)(w':Wo):Prop:=
 e=.returned (.slice (some ⟨g,0,none⟩) (n-1) cap)/\∃cur',aG w' g T cur'/\cur'.size=cur.size/\cur'.toList.take ((n-1)*size)=cur.toList.take (k*size)++(cur.toList.take (n*size)).drop ((k+1)*size)/\(∀u∈cur'.toList,u∈cur.toList\/u∈zc)/\(∀b,b<w.heap.size->b≠g->w'.heap[b]?=w.heap[b]?)/\Below g w w'
theorem NK{size n cap:Nat}{cur:Array Value}{news zc:List Value}(hs:cur.size=cap*size)(hk:k<n)(hn:n<=cap)(jY:news=(cur.toList.take (n*size)).drop ((k+1)*size))(hz:zc.length=size):news.length=(n-(k+1))*size/\k*size+news.length<=cur.size/\(n-1)*size+zc.length<=(sV cur (k*size) news).size/\(sV (sV cur (k*size) news) ((n-1)*size) zc).toList.take ((n-1)*size)=cur.toList.take (k*size)++news/\∀u∈(sV (sV cur (k*size) news) ((n-1)*size) zc).toList,u∈cur.toList\/u∈zc:=by
 have a1:n*size<=cap*size:=Nat.mul_le_mul_right _ hn;have a2:(k+1)*size<=n*size:=Nat.mul_le_mul_right _ (by omega);have a3:(n-(k+1))*size=n*size-(k+1)*size:=Nat.mul_sub_right_distrib _ _ _;have a4:(k+1)*size=k*size+size:=by rw[Nat.add_mul,Nat.one_mul]
 have a5:(n-1)*size+size=n*size:=by rw[<-Nat.succ_mul];congr 1;omega
 have l1:news.length=(n-(k+1))*size:=by
  rw[jY,LC,kR,Array.length_toList,hs,Nat.min_eq_left a1,a3]
 have l2:k*size+news.length<=cur.size:=by rw[l1,hs];omega
 have l3:(n-1)*size+zc.length<=(sV cur (k*size) news).size:=by rw[pV,hs,hz];omega
 have hm:k*size<=cur.toList.length:=by rw[Array.length_toList];omega
 have bC:=xV news cur (k*size) l2;have l4:(cur.toList.take (k*size)++news).length=(n-1)*size:=by
  rw[jW,kR,Nat.min_eq_left hm,l1];omega
 refine⟨l1,l2,l3,?_,fun u hu=>?_⟩
 ·rw[xV _ _ _ l3,bC,List.append_assoc _ zc,List.take_append_of_le_length (by rw[kR,jW,l4];omega),List.take_take,Nat.min_self,<-l4]
  exact List.take_left
 ·rw[xV _ _ _ l3,List.mem_append,List.mem_append] at hu
  have key:∀u∈(sV cur (k*size) news).toList,u∈cur.toList:=fun u hu=>by
   rw[bC,List.mem_append,List.mem_append] at hu;rcases hu with(hu | hu) | hu
   ·exact List.mem_of_mem_take hu
   ·rw[jY] at hu
    exact List.mem_of_mem_take (List.mem_of_mem_drop hu)
   ·exact List.mem_of_mem_drop hu
  rcases hu with(hu | hu) | hu
  ·exact .inl (key u (List.mem_of_mem_take hu))
  ·exact .inr hu
  ·exact .inl (key u (List.mem_of_mem_drop hu))
theorem aB9:(Tryz.prog.info? 3).map (fun i=>(i.zero,i.size))=some (some (.int .i64 0),1):=by kernel_rfl
theorem aA_(w:Wo):(zeroValue 3).run Tryz.prog w=.ok (.int .i64 0) w:=by kernel_rfl
theorem aGQ(g n cap k:Nat)(cur:Array Value)(w:Wo)(hb:aG w g 3 cur)(S7:cur.size=cap*1)(hn:n<=cap)(hk:k<n)(LQ:cap<=maxLen)(h1:∀u∈cur.toList.take (n*1),u.oneCell'=true):Calls Tryz.prog 75 #[.slice (some ⟨g,0,none⟩) n cap,.int .i64 k,.int .i64 ((k:Int)+1)] w (aQb g 3 1 n cap k cur [.int .i64 0] w):=by
 obtain⟨i,hi,aOk⟩:=Option.map_eq_some_iff.1 aB9;injection aOk with LO IA;obtain⟨news,jY⟩:∃news,news=(cur.toList.take (n*1)).drop ((k+1)*1):=⟨_,rfl⟩;obtain⟨d1,d2,d3,d4,d5⟩:=NK (zc:=[.int .i64 0]) S7 hk hn jY rfl;have GF:∀t u,news[t]?=some u->cur[(k+1)*1+t]?=some u:=fun t u hu=>by
  rw[jY,List.getElem?_drop,List.getElem?_take] at hu;split at hu
  ·rw[<-Array.getElem?_toList];exact hu
  ·cases hu
 obtain⟨A,hA,rI⟩:∃A:Addr,(if cap=k+1 then(some ⟨g,0,none⟩:OA) else some ⟨g,(k+1)*1,none⟩)=some A/\Hid (∀t u,news[t]?=some u->w.drew.cell? (A.add t)=some u):=by
  by_cases h:cap=k+1
  ·refine⟨⟨g,0,none⟩,by rw[if_pos h],fun t u hu=>?_⟩
   have h0 : news.length = 0 := by
    rw[d1]; have : n - (k + 1) = 0 := by omega
    rw[this,Nat.zero_mul]
   rw[List.length_eq_zero_iff.1 h0] at hu;simp at hu
  ·refine⟨⟨g,(k+1)*1,none⟩,by rw[if_neg h],fun t u hu=>?_⟩
   rw[Addr.add_lit];show w.cell? ⟨g,(k+1)*1+t,none⟩=some u;rw[hb.cell];exact GF t u hu
 have LR:=hA
 try simp only[Nat.mul_one] at LR
 have s1:Hid (news.length=(n-(k+1))*1):=d1;have s2:Hid (∀u∈news,u.oneCell'=true):=fun u hu=>by
  rw[jY] at hu;exact h1 u (List.mem_of_mem_drop hu)
 have s3:Hid (∀t,t<news.length->(w.drew.cell? ⟨g,0+k*1+t,none⟩).isSome=true/\w.drew.frozen? ⟨g,0+k*1+t,none⟩=false):=fun t ht=>by
  rw[Nat.zero_add];refine⟨?_,hb.frozen _⟩;show(w.cell? ⟨g,k*1+t,none⟩).isSome=true;rw[hb.cell,Array.getElem?_eq_getElem (by omega)];rfl
 obtain⟨W1,hW1⟩:∃W1,W1=w.drew.setCells g (0+k*1) news:=⟨_,rfl⟩;have HW1:=lH hW1;have bT:Hid (aG W1 g 3 (sV cur (k*1) news)):=lH (by
  rw[hW1,Nat.zero_add];exact nE news _ _ _ hb)
 have HZC:Hid (∀ty,(Builtin.clear_ #[30] ty #[.slice (some ⟨g,(n-1)*1,none⟩) 1 (cap-(n-1))]).run Tryz.prog W1=.ok (.tuple #[]) (W1.setCells g ((n-1)*1) [.int .i64 0])):=lH fun ty=>
  zP W1 30 3 ty (.int .i64 0) Tryz.underlying30 aA_ (by intro u hu;simp[Value.cells] at hu;rcases hu with rfl | rfl | rfl | rfl<;>rfl) g ((n-1)*1) _ (fun j hj=>by
   rw[bT.o.cell,Array.getElem?_eq_getElem (by have:j<1:=hj;have e:([.int .i64 0]:List Value).length=1:=rfl;omega)];rfl) (fun j hj=>bT.o.frozen _)
 obtain⟨HD4,HD5,HS,HB,HNW⟩:=kN d4 d5 S7 hb jY;have hkc:k<=cap:=by omega
 have FR:k+1<=cap:=by omega
 clear hW1 GF jY d1 d2 d3 d4 d5 hb h1 S7;have xC:(cap:Int)<=9223372036854775807:=by unfold maxLen at LQ;omega
 have hnI:(n:Int)<=9223372036854775807:=by omega
 have lB:=lZ k;have aX3:(0:Int)<=(k:Int)+1:=by omega
 have aX0:(k:Int)<=(k:Int)+1:=by omega
 have aOe:(k:Int)+1<=(n:Int):=by omega
 have aXJ:(n:Int)<=(cap:Int):=by omega
 have aX1:(k:Int)<=(cap:Int):=by omega
 have aSI:(k:Int)+1<=(cap:Int):=by omega
 have rJ:=jF k;have aXZ:((k:Int)+1).toNat=k+1:=by omega
 have bX:((k:Int) == (k:Int)+1)=false:=by simp;omega
 have G_:=jF n;go_enter Tryz.func75,Tryz.ntmps75
 go_wp2_with fail
 go_region_law (refine step_append_room rfl (.tmp 22) (.tmp 25) 30 rfl 3 i 1 Tryz.underlying30 hi IA g 0 k cap (by simp[Act.eval,Act.put]) A (n-(k+1)) (cap-(k+1)) news (by simp[Act.eval,Act.put,LR]) s1.out rI.out s2.out (by omega) s3.out ?_;rw[<-HW1.o])
 go_wp2_with fail
 have e1:k+(n-(k+1))=n-1:=by omega
 have e2:n-(n-1)=1:=by omega
 have hz:=HZC.o 0
 try simp only[Nat.mul_one] at hz
 simp only[e1,e2];rw[hz]
 go_wp2_with fail
 go_ret;refine⟨rfl,sV (sV cur (k*1) news) ((n-1)*1) [.int .i64 0],?_,by rw[pV,pV],by rw[<-HNW.o];exact HD4.o,HD5.o,fun b hb bX=>?_,?_⟩
 ·have h:=nE [.int .i64 0] ((n-1)*1) _ _ bT.o
  try simp only[Nat.mul_one] at h ⊢
  exact h
 ·rw[wP bX,HW1.o,wP bX]
  rfl
 ·refine Below.trans ?_ (wQ _ _ _)
  rw[HW1.o];exact Below.trans (aK bR) (wQ _ _ _)
theorem aB8:(Tryz.prog.info? 57).map (fun i=>(i.zero,i.size))=some (some (.agg #[.int .i64 0,.string ⟨#[]⟩,.string ⟨#[]⟩,.int .i64 0]),4):=by kernel_rfl
theorem aA9(w:Wo):(zeroValue 57).run Tryz.prog w=.ok (.agg #[.int .i64 0,.string ⟨#[]⟩,.string ⟨#[]⟩,.int .i64 0]) w:=by kernel_rfl
theorem aGP(g n cap k:Nat)(cur:Array Value)(w:Wo)(hb:aG w g 57 cur)(S7:cur.size=cap*4)(hn:n<=cap)(hk:k<n)(LQ:cap<=maxLen)(h1:∀u∈cur.toList.take (n*4),u.oneCell'=true):Calls Tryz.prog 76 #[.slice (some ⟨g,0,none⟩) n cap,.int .i64 k,.int .i64 ((k:Int)+1)] w (aQb g 57 4 n cap k cur [.int .i64 0,.string ⟨#[]⟩,.string ⟨#[]⟩,.int .i64 0] w):=by
 obtain⟨i,hi,aOk⟩:=Option.map_eq_some_iff.1 aB8;injection aOk with LO IA;obtain⟨news,jY⟩:∃news,news=(cur.toList.take (n*4)).drop ((k+1)*4):=⟨_,rfl⟩;obtain⟨d1,d2,d3,d4,d5⟩:=NK (zc:=[.int .i64 0,.string ⟨#[]⟩,.string ⟨#[]⟩,.int .i64 0]) S7 hk hn jY rfl;have GF:∀t u,news[t]?=some u->cur[(k+1)*4+t]?=some u:=fun t u hu=>by
  rw[jY,List.getElem?_drop,List.getElem?_take] at hu;split at hu
  ·rw[<-Array.getElem?_toList];exact hu
  ·cases hu
 obtain⟨A,hA,rI⟩:∃A:Addr,(if cap=k+1 then(some ⟨g,0,none⟩:OA) else some ⟨g,(k+1)*4,none⟩)=some A/\Hid (∀t u,news[t]?=some u->w.drew.cell? (A.add t)=some u):=by
  by_cases h:cap=k+1
  ·refine⟨⟨g,0,none⟩,by rw[if_pos h],fun t u hu=>?_⟩
   have h0 : news.length = 0 := by
    rw[d1]; have : n - (k + 1) = 0 := by omega
    rw[this,Nat.zero_mul]
   rw[List.length_eq_zero_iff.1 h0] at hu;simp at hu
  ·refine⟨⟨g,(k+1)*4,none⟩,by rw[if_neg h],fun t u hu=>?_⟩
   rw[Addr.add_lit];show w.cell? ⟨g,(k+1)*4+t,none⟩=some u;rw[hb.cell];exact GF t u hu
 have LR:=hA
 try simp only[Nat.mul_one] at LR
 have s1:Hid (news.length=(n-(k+1))*4):=d1;have s2:Hid (∀u∈news,u.oneCell'=true):=fun u hu=>by
  rw[jY] at hu;exact h1 u (List.mem_of_mem_drop hu)
 have s3:Hid (∀t,t<news.length->(w.drew.cell? ⟨g,0+k*4+t,none⟩).isSome=true/\w.drew.frozen? ⟨g,0+k*4+t,none⟩=false):=fun t ht=>by
  rw[Nat.zero_add];refine⟨?_,hb.frozen _⟩;show(w.cell? ⟨g,k*4+t,none⟩).isSome=true;rw[hb.cell,Array.getElem?_eq_getElem (by omega)];rfl
 obtain⟨W1,hW1⟩:∃W1,W1=w.drew.setCells g (0+k*4) news:=⟨_,rfl⟩;have HW1:=lH hW1;have bT:Hid (aG W1 g 57 (sV cur (k*4) news)):=lH (by
  rw[hW1,Nat.zero_add];exact nE news _ _ _ hb)
 have HZC:Hid (∀ty,(Builtin.clear_ #[31] ty #[.slice (some ⟨g,(n-1)*4,none⟩) 1 (cap-(n-1))]).run Tryz.prog W1=.ok (.tuple #[]) (W1.setCells g ((n-1)*4) [.int .i64 0,.string ⟨#[]⟩,.string ⟨#[]⟩,.int .i64 0])):=lH fun ty=>
  zP W1 31 57 ty (.agg #[.int .i64 0,.string ⟨#[]⟩,.string ⟨#[]⟩,.int .i64 0]) Tryz.underlying31 aA9 (by intro u hu;simp[Value.cells] at hu;rcases hu with rfl | rfl | rfl | rfl<;>rfl) g ((n-1)*4) _ (fun j hj=>by
   rw[bT.o.cell,Array.getElem?_eq_getElem (by have:j<4:=hj;have e:([.int .i64 0,.string ⟨#[]⟩,.string ⟨#[]⟩,.int .i64 0]:List Value).length=4:=rfl;omega)];rfl) (fun j hj=>bT.o.frozen _)
 obtain⟨HD4,HD5,HS,HB,HNW⟩:=kN d4 d5 S7 hb jY;have hkc:k<=cap:=by omega
 have FR:k+1<=cap:=by omega
 clear hW1 GF jY d1 d2 d3 d4 d5 hb h1 S7;have xC:(cap:Int)<=9223372036854775807:=by unfold maxLen at LQ;omega
 have hnI:(n:Int)<=9223372036854775807:=by omega
 have lB:=lZ k;have aX3:(0:Int)<=(k:Int)+1:=by omega
 have aX0:(k:Int)<=(k:Int)+1:=by omega
 have aOe:(k:Int)+1<=(n:Int):=by omega
 have aXJ:(n:Int)<=(cap:Int):=by omega
 have aX1:(k:Int)<=(cap:Int):=by omega
 have aSI:(k:Int)+1<=(cap:Int):=by omega
 have rJ:=jF k;have aXZ:((k:Int)+1).toNat=k+1:=by omega
 have bX:((k:Int) == (k:Int)+1)=false:=by simp;omega
 have G_:=jF n;go_enter Tryz.func76,Tryz.ntmps76
 go_wp2_with fail
 go_region_law (refine step_append_room rfl (.tmp 22) (.tmp 25) 31 rfl 57 i 4 Tryz.underlying31 hi IA g 0 k cap (by simp[Act.eval,Act.put]) A (n-(k+1)) (cap-(k+1)) news (by simp[Act.eval,Act.put,LR]) s1.out rI.out s2.out (by omega) s3.out ?_;rw[<-HW1.o])
 go_wp2_with fail
 have e1:k+(n-(k+1))=n-1:=by omega
 have e2:n-(n-1)=1:=by omega
 have hz:=HZC.o 0
 try simp only[Nat.mul_one] at hz
 simp only[e1,e2];rw[hz]
 go_wp2_with fail
 go_ret;refine⟨rfl,sV (sV cur (k*4) news) ((n-1)*4) [.int .i64 0,.string ⟨#[]⟩,.string ⟨#[]⟩,.int .i64 0],?_,by rw[pV,pV],by rw[<-HNW.o];exact HD4.o,HD5.o,fun b hb bX=>?_,?_⟩
 ·have h:=nE [.int .i64 0,.string ⟨#[]⟩,.string ⟨#[]⟩,.int .i64 0] ((n-1)*4) _ _ bT.o
  try simp only[Nat.mul_one] at h ⊢
  exact h
 ·rw[wP bX,HW1.o,wP bX]
  rfl
 ·refine Below.trans ?_ (wQ _ _ _)
  rw[HW1.o];exact Below.trans (aK bR) (wQ _ _ _)
end
section
open Go.ChangeShapes Go.WideShapes Go.ChangeAt Go.RowKit
theorem aKr{w:Wo}{base e size n:Nat}{v:Value}{xs:List Value}(h:w.ownsRow base e size v n xs):bK aVK w base e size v n xs:=by
 refine⟨h.1,?_⟩;rcases h.2 with h1 | ⟨g,cap,cur,h1,h2,h3,h4,h5,h6,h7⟩
 ·exact .inl h1
 ·exact .inr ⟨g,cap,cur,h1,h2,h3,h4,h5,h6,h7,fun _ _=>trivial⟩
section
variable {S:Value->Prop} {w:Wo} {base T size n k:Nat} {v:Value} {xs:List Value}
theorem bK.strike(h:bK S w base T size v n xs)(hk:k<n):∃g cap cur,v=.slice (some ⟨g,0,none⟩) n cap/\base<=g/\aG w g T cur/\cur.size=cap*size/\n<=cap/\cap<=maxLen/\cur.toList.take (n*size)=xs/\
    ∀(zc:List Value)(e:Ending)(w':Wo),aQb g T size n cap k cur zc w e w'->(∀u∈zc,S u)->e=.returned (.slice (some ⟨g,0,none⟩) (n-1) cap)/\bK S w' base T size (.slice (some ⟨g,0,none⟩) (n-1) cap) (n-1) (xs.take (k*size)++xs.drop ((k+1)*size))/\(∀b,b<w.heap.size->b≠g->w'.heap[b]?=w.heap[b]?)/\Below base w w':=by
 rcases h.2 with⟨-,h2⟩ | ⟨g,cap,cur,h1,h2,h3,h4,h5,h6,h7,h8⟩
 ·omega
 ·refine⟨g,cap,cur,h1,h2,h3,h6,h4,h5,h7,fun zc e w' hd hz=>?_⟩
  obtain⟨d1,cur',d2,d3,d4,d5,d6,d7⟩:=hd;have a2:(k+1)*size<=n*size:=Nat.mul_le_mul_right _ (by omega);have a4:(k+1)*size=k*size+size:=by rw[Nat.add_mul,Nat.one_mul]
  have a5:(n-1)*size+size=n*size:=by rw[<-Nat.succ_mul];congr 1;omega
  have hx:=h.1;have e1:cur.toList.take (k*size)=xs.take (k*size):=by
   rw[<-h7,List.take_take,Nat.min_eq_left (by omega)]
  refine⟨d1,⟨?_,.inr ⟨g,cap,cur',rfl,h2,d2,by omega,h5,by rw[d3,h6],by rw[d4,e1,h7],fun u hu=>?_⟩⟩,d6,d7.mono h2⟩
  ·rw[jW,kR,LC,hx]
   omega
  ·rcases d5 u hu with h | h
   ·exact h8 u h
   ·exact hz u h
end
theorem TI{α:Type}(l:List α)(k:Nat):l.eraseIdx k=l.take k++l.drop (k+1):=List.eraseIdx_eq_take_drop_succ l k
theorem aAu{α:Type}{f:α->List Value}{sz:Nat}(hl:∀a,(f a).length=sz):∀(l:List α)(k:Nat),(l.flatMap f).take (k*sz)=(l.take k).flatMap f
 | [],k=>by simp
 | a::l,0=>by simp
 | a::l,k+1=>by
  rw[List.flatMap_cons,nI,List.flatMap_cons,<-aAu hl l k,Nat.add_mul,Nat.one_mul,Nat.add_comm,<-hl a,List.take_length_add_append]
theorem aAv{α:Type}{f:α->List Value}{sz:Nat}(hl:∀a,(f a).length=sz):∀(l:List α)(k:Nat),(l.flatMap f).drop (k*sz)=(l.drop k).flatMap f
 | [],k=>by simp
 | a::l,0=>by simp
 | a::l,k+1=>by
  rw[List.flatMap_cons,List.drop_succ_cons,<-aAv hl l k,Nat.add_mul,Nat.one_mul,Nat.add_comm,<-hl a,List.drop_length_add_append]
theorem aFc(l:List Mi)(k:Nat):(l.flatMap Mi.cells).take (k*4)++(l.flatMap Mi.cells).drop ((k+1)*4)=(l.eraseIdx k).flatMap Mi.cells:=by
 rw[aAu Mi.len,aAv Mi.len,TI,List.flatMap_append]
theorem WP(l:List Nat)(k:Nat):(gM l).take (k*1)++(gM l).drop ((k+1)*1)=gM (l.eraseIdx k):=by
 unfold gM;rw[TI,List.map_append,List.map_take,List.map_drop,Nat.mul_one,Nat.mul_one]
theorem aE7(l:List Nat):∀u∈gM l,u.oneCell'=true:=fun u hu=>by
 unfold gM at hu;obtain⟨x,-,rfl⟩:=List.mem_map.1 hu;rfl
theorem aNu(l:List Mi):∀u∈l.flatMap Mi.cells,u.oneCell'=true:=fun u hu=>by
 obtain⟨m,-,h⟩:=List.mem_flatMap.1 hu;simp[Mi.cells] at h;rcases h with rfl | rfl | rfl | rfl<;>rfl
theorem aE8{l:List Nat}{i:Nat}(h:l[k]?=some i):(gM l)[k]?=some (.int .i64 (i:Int)):=by
 unfold gM;rw[iY,h];rfl
theorem aEQ{w:Wo}{base:Nat}{v:Value}{l:List Nat}(h:bK vL w base 3 1 v l.length (gM l)):∃A c,v=.slice A l.length c/\o_ w w.heap.size A l.length (d9 l)/\l.length<=c/\c<=maxLen:=by
 obtain⟨A,c,h1,h2,h3,h4,-⟩:=AD h.own;refine⟨A,c,h1,?_,h3,h4⟩;have e:gM l=ints (d9 l):=by unfold gM d9 ints;rw[List.map_map];rfl
 unfold o_;rw[<-e];exact h2
theorem FE{ops:Array Oper}{rest:List Oper}{o:Oper}{a:Act}{Q:Exit->Act->World->Prop}{w:Wo}{T:TypeId}(AK:o.guard=none)(s x:Operand)(t:TypeId)(ho:o.op=.call { callee:=.builtin .append,args:=#[s,x],argTypes:=#[t,t] })(base:Nat)(ht:Tryz.prog.underlying t=some (.slice 3))(v:Value)(l:List Nat)(k:Nat)(hs:a.eval s=v)(bB:bK vL w base 3 1 v l.length (gM l))(hx:a.eval x=.slice (some ⟨w.heap.size,0,none⟩) 1 1)(xC:l.length<=1000000)(cS:base<=w.heap.size)(h:∀v' w',bK vL w' base 3 1 v' (l++[k]).length (gM (l++[k]))->Below base w w'->(v'.ownBlock=v.ownBlock\/∃b,v'.ownBlock=some b/\w.heap.size<=b)->(∀b,b<w.heap.size->v.ownBlock≠some b->w'.heap[b]?=w.heap[b]?)->(∀b t cs,aG w b t cs->t≠3->aG w' b t cs)->w.heap.size<=w'.heap.size->wpList Tryz.prog ops Q rest (a.put o.dst v') w'):wpList Tryz.prog ops Q (o::rest) a (w.alloc (.cells #[.int .i64 (k:Int)] T)):=by
 obtain⟨i0,kA,rU,jR,kS⟩:=info_parts XB;have A_:=jT w (.cells #[.int .i64 (k:Int)] T);refine wpList_plain AK fun K hK=>?_;refine tY (S:=vL) s x t ho base 3 i0 _ 1 8 ht kA rU jR kS rfl (by omega) aDK v l.length (gM l) hs (bB.keep A_) w.heap.size T #[.int .i64 (k:Int)] hx (aG.new w T _) rfl ?k1 ?k2 ?k3 ?k4 ?k5
 case k1=>simp[Value.oneCell',vL]
 case k2=>simp only[maxLen];omega
 case k3=>omega
 case k4=>exact cO cS A_.size
 case k5=>
  intro v' w' g1 g2 g3 g4;refine hK _ _ (h v' w' ?_ ((A_.mono cS).trans g2.low) ?_ ?_ ?_ (cO A_.size g2.size))
  ·rw[jW,List.length_singleton]
   unfold gM at *;rw[List.map_append];exact g1
  ·rcases g3 with h | h
   ·exact .inl h
   ·exact .inr ⟨_,h,A_.size⟩
  ·intro b hb bX
   rw[g4 b (jE hb A_.size) bX];exact A_.block b hb
  ·intro b t' cs hb bX
   exact g2.blk b t' cs (hb.bl A_) bX
end
section
open Go.ChangeShapes Go.WideShapes Go.ChangeAt Go.RowKit
attribute [local go_sem ↓] aE
attribute [local go_sem] aJ aI aM aR
section
variable {S:Value->Prop} {w w':Wo} {base e size n:Nat} {v:Value} {xs:List Value}
theorem bK.byB(h:bK S w base e size v n xs)(hk:∀b cs,v.ownBlock=some b->aG w b e cs->aG w' b e cs):bK S w' base e size v n xs:=by
 refine⟨h.1,?_⟩;rcases h.2 with h1 | ⟨g,cap,cur,h1,h2,h3,h4⟩
 ·exact .inl h1
 ·exact .inr ⟨g,cap,cur,h1,h2,hk g cur (by rw[h1];rfl) h3,h4⟩
end
theorem aRh:∀u∈([.int .i64 0]:List Value),vL u:=fun u hu=>by rw[List.mem_singleton.1 hu];exact⟨0,rfl⟩
def slN:Value->Nat
 | .slice _ n _=>n
 | _=>0
def aVG(x:bO)(ms:List Mi)(w:Wo)(e:Ending)(w':Wo):Prop:=Below w.heap.size w w'/\((∃c:Int,c≠0/\rK x ms c/\e=.returned (.tuple #[.slice none 0 0,.int .i64 c]))\/
 (rK x ms 0/\∃r A c,ClG x (List.range ms.length) ms [] r/\e=.returned (.tuple #[.slice A r.length c,.int .i64 0])/\o_ w' w'.heap.size A r.length (d9 r)/\r.length<=c/\c<=maxLen))
theorem aCI(h:bY)(x:bO)(h8:x.nodes.length<=8)(A:OA)(n c:Nat)(ms:List Mi)(w:Wo)(r:cQ w w.heap.size h x)(hm:fP w w.heap.size A n ms)(hz:∀m∈ms,m.txt.size<=maxLen)(hn:n<=9223372036854775807)(ht:dM w):Calls Tryz.prog 34 #[.agg h.cells,.slice A n c] w (aVG x ms w):=by
 have K0:=jT w (.cells h.cells 29);obtain⟨HK,P0,HF,HT,HX⟩:=kN K0 (aG.new w 29 h.cells) (BJ h x h8 A n c ms (w.alloc (.cells h.cells 29)) (r.up K0) (hm.bm K0) hz hn (ht.up K0)) (ht.up K0) (r.up K0);have dZ:Hid (w.heap.size<=(w.alloc (.cells h.cells 29)).heap.size):=lH K0.size;have mA:Hid (ms.length=n):=lH hm.1;have HM:=lH (hm.bm K0);clear K0 hm r ht hz;obtain⟨D0,r0,s0,D1,r1,s1,D2,r2,s2,D3,r3,s3,D4,r4,s4,D5,r5,s5⟩:=h;obtain⟨y0,y1,y2,y3,y4,y5,nf,nlt⟩:=aW P0.o;dsimp only at y0 y1 y2 y3 y4 y5;go_enter Tryz.func34,Tryz.ntmps34
 go_wp2_with fail
 generalize w.alloc (.cells (bY.cells ⟨D0,r0,s0,D1,r1,s1,D2,r2,s2,D3,r3,s3,D4,r4,s4,D5,r5,s5⟩) 29)=W at *;have HKW:=HK;have HWS:Hid (w.heap.size<=W.heap.size):=lH HK.o.size;refine HF.o.mono ?_;rintro e w1 ⟨bC,iO⟩;obtain⟨bT,zM,aVp⟩:=d_ (HK.o.trans (bC.mono dZ.o)) (HT.o.up bC) bC;replace HM:=lH (HM.o.bm bC);clear bC y0 y1 y2 y3 y4 y5 nf nlt HF;rcases iO with⟨d,hd,tW,rfl⟩ | ⟨tW,fv,rfl,⟨g,m,y,A1,c1,gi,ga,B1,d1,rfl,NB,tF,uM,PA,O_,O9,IC⟩⟩
 ·have HE:=lH tW
  have HD:=lH hd;have hdb:(d != 0)=true:=by simp[hd]
  clear tW hd;(go_wp2_with fail);go_ret2;exact⟨bT.o.alloc bT.o.size _,.inl ⟨d,HD.o,HE.o,rfl⟩⟩
 ·obtain⟨mI,gY,CL⟩:=tW.zero rfl
  obtain⟨ok,hl,mZ⟩:=oI mI;have HE:=lH tW;have hz:=jT w1 (.cells #[.pointer (some ⟨g,0,none⟩),.slice A1 ms.length c1,.slice (some ⟨gi,0,none⟩) (aA x).length (aA x).length,.slice (some ⟨ga,0,none⟩) (aH x) (aH x),.slice B1 ms.length d1] 95);have NA:=tU.up (B0:=W.heap.size) (x:=x) (ms:=ms) ⟨g,m,y,A1,c1,gi,ga,B1,d1,rfl,NB,tF,uM,PA,O_,O9,IC⟩ hz;obtain⟨UM,HK,HM2,tX⟩:=iK NA (OV h8 mI) (HM.o.bm hz) (aG.new w1 95 #[.pointer (some ⟨g,0,none⟩),.slice A1 ms.length c1,.slice (some ⟨gi,0,none⟩) (aA x).length (aA x).length,.slice (some ⟨ga,0,none⟩) (aH x) (aH x),.slice B1 ms.length d1]);have HBZ:=bW bT hz;have aVo:=bW aVp hz;have aHw:=lH gY;have vX:=lH (zM.o.up hz);have HL:Hid (ms.length<=64):=lH hl;clear tW NB tF uM PA O_ O9 IC NA mI gY CL ok hl mZ hz;(go_upto_region 4 with fail);generalize w1.alloc (.cells #[.pointer (some ⟨g,0,none⟩),.slice A1 ms.length c1,.slice (some ⟨gi,0,none⟩) (aA x).length (aA x).length,.slice (some ⟨ga,0,none⟩) (aH x) (aH x),.slice B1 ms.length d1] 95)=wz at *;generalize hgt:w1.heap.size=gt at *;have HGT:Hid (W.heap.size<=gt):=lH (by rw[<-hgt];exact aVp.o.size);clear hgt;have LN:=mA.o;subst LN;have aXX:=HL.o;(go_wp2_with fail);refine(FY A ms.length c ms wz HM2.o (by omega)).mono ?_;rintro e w2 ⟨bH,A8,c8,rfl,ho8⟩;have sK:=lH (bK.mono (aKr ho8) aVo.o.size);have cH:=bW aVo bH;have HF2:=lH (UM.o.up bH);have aVb:=lH (tX.o.bl bH);clear bH ho8 UM tX HM2;(go_wp2_with fail)
  go_loopw [9,26] (fun v9 v26 wr=>∃k:Nat,k<=ms.length/\v26=.int .i64 k/\bK vL wr w2.heap.size 3 1 v9 (List.range k).length (gM (List.range k))/\Below w2.heap.size w2 wr) (fun _ v26 _=>ms.length-(intOf v26).toNat)
  case atStart=>exact⟨0,by omega,rfl,eQ _ _ _ _ _,bR⟩
  case round=>
   obtain⟨k,hk,rfl,ho,hb⟩:=hrel;have HO:=lH ho;have HB:=lH hb;clear ho hb;by_cases aU:k<ms.length
   ·have fY:(k:Int)<(ms.length:Int):=by omega
    have l9:=lN k;have jV:Hid (ms.length-(k+1)<ms.length-k):=lH (by omega);have UO:Hid (w2.heap.size<=wr.heap.size):=lH HB.o.size
    go_wp2_with (at_builtin;refine FE rfl (.tmp 29) (.tmp 31) _ rfl w2.heap.size Tryz.underlying30 u9 (List.range k) k rfl HO.o rfl ?k1 UO.o ?_)
    case k1=>rw[List.length_range];omega
    intro v' w7 bB CJ vH SY dC iV;have HO7:Hid (bK vL w7 w2.heap.size 3 1 v' (List.range (k+1)).length (gM (List.range (k+1)))):=lH (by rw[List.range_succ,jW,List.length_singleton,List.length_range];exact bB);have j_:Hid (Below w2.heap.size w2 w7):=lH (HB.o.trans CJ);clear bB CJ vH SY dC iV HO HB;(go_wp2_with fail);go_roundw
    case rel=>exact⟨k+1,aU,aO l9.o,HO7.o,j_.o⟩
    case measure=>exact jV.o
   ·have nH:k=ms.length:=by omega
    subst nH;have fY:¬((ms.length:Nat):Int)<(ms.length:Int):=by omega
    have hM:ClM x gt W wr (.slice A8 ms.length c8) u9 (.slice none 0 0) (List.range ms.length) ms [] #[.pointer (some ⟨g,0,none⟩),.slice A1 ms.length c1,.slice (some ⟨gi,0,none⟩) (aA x).length (aA x).length,.slice (some ⟨ga,0,none⟩) (aH x) (aH x),.slice B1 ms.length d1]:=⟨HF2.o.up HB.o,aVb.o.bl HB.o,HGT.o,bK.mono HO.o cH.o.size,sK.o.keep HB.o,eQ _ _ _ _ _,fun b _ h=>(by cases h),cH.o.tm HB.o⟩;have HMM:=lH hM;have wB:=lH HK.o;clear hM HO HB HF2 aVb sK;(go_wp2_with fail)
    go_loopw [8,9,10] (fun v8 v9 v10 wr=>∃(nums:List Nat)(rest:List Mi)(out:List Nat)(fc:Array Value),ClM x gt W wr v8 v9 v10 nums rest out fc/\nums.length=rest.length/\CZ x rest/\mX x rest/\out.length<=64-rest.length/\∀r,ClG x nums rest out r->ClG x (List.range ms.length) ms [] r) (fun v8 _ _ _=>slN v8)
    case atStart=>exact⟨_,_,_,_,HMM.o,List.length_range,wB.o,aHw.o,Nat.zero_le _,fun r h=>h⟩
    case round=>
     clear HMM wB;obtain⟨nums,rest,out,fc,hm,dW,hmo,gY,hol,aL1⟩:=hrel;obtain⟨g',m',y',A1',c1',gi',ga',B1',d1',hfe,-⟩:=hm.fit;injection hfe with hfe;subst hfe;obtain⟨A8,c8,M6,-,-⟩:=hm.rst.shape;obtain⟨A9,c9,M5,-,-⟩:=hm.num.shape;obtain⟨A10,c10,aNJ,-,-⟩:=hm.out.shape;subst M6;subst M5;subst aNJ;obtain⟨KP,UK,wB,HRG,YW⟩:=kN hm dW hmo gY hol;have HCT:=lH aL1;clear hm dW hmo gY hol aL1;obtain⟨f0,f1,f2,f3,f4,fl⟩:=KP.o.box.b5;(go_wp2_with fail);refine(L8 x rest wB.o _ W.heap.size A8 c8 wr KP.o.fit (eN.rd2 KP.o.rst.own).1).mono ?_;rintro e w3 ⟨cN,b,rfl,EM⟩;obtain⟨BC,aPP,aUk,aPL,aVr⟩:=kN EM (KP.o.num.keep cN) (KP.o.rst.keep cN) (KP.o.out.keep cN) (KP.o.box.below cN fl);obtain⟨aK7,HNE,aKW⟩:=d_ (KP.o.bel.tm cN) KP.o.ne KP.o.low;clear cN EM f0 f1 f2 f3 f4 fl KP;by_cases hb:b<0
     ·have EN:decide (b<0)=true:=decide_eq_true hb
      have HCG:=lH (HCT.o out (ClG.done BC.o hb));(go_wp2_with fail);go_ret2;obtain⟨Ao,co,hvo,aXu,aXI,aYF⟩:=aEQ aPL.o;injection hvo with nG lA qT;subst nG;subst qT;exact⟨HKW.o.trans (aK7.o.mono HWS.o),.inr ⟨HE.o,out,_,_,HCG.o,rfl,aXu,aXI,aYF⟩⟩
     ·obtain⟨k,rfl⟩:∃k:Nat,b=(k:Int):=⟨b.toNat,by omega⟩
      have EN:decide ((k:Int)<0)=false:=decide_eq_false hb;have hkr:k<rest.length:=by
       rcases BC.o with⟨h1,-⟩ | ⟨j,h1,h2,-⟩<;>omega
      have HKR:=lH hkr;have HSP:Hid (vf (cR x rest) k≠0):=lH (by
       rcases BC.o with⟨h1,-⟩ | ⟨j,h1,h2,h3,-⟩
       ·omega
       ·have e:j=k:=by omega
        rw[<-e];exact h3.2)
      obtain⟨i,hi⟩:∃i,nums[k]?=some i:=eA (by have:=UK.o;omega);have HI:=lH hi;obtain⟨g9,cap9,cur9,M5,hg9,gA,aGb,aFQ,aGe,aCd,aFD⟩:=aPP.o.strike (k:=k) (by have:=UK.o;omega);injection M5 with M5 hv9b hv9c;subst M5;subst hv9c;have hc9:w3.cell? ⟨g9,0+k,none⟩=some (.int .i64 (i:Int)):=by
       rw[gA.cell,Nat.zero_add];have h:=aE8 hi;rw[<-aCd,List.getElem?_take] at h;split at h
       ·rwa[Array.getElem?_toList] at h
       ·cases h
      rw[Nat.zero_add] at hc9;have aYl:=gA.lt;have eV:=lH gA;have hkN:(k:Int)<(nums.length:Int):=by have:=UK.o;omega
      have lB:=lZ k;have rJ:=jF k;have aXv:=wB.o.k64;have UO:Hid (W.heap.size<=w3.heap.size):=lH aK7.o.size;have UF:=lH (And.intro hg9 (And.intro aGb (And.intro aFQ (And.intro aGe (And.intro aCd aFD)))));clear hi hb hg9 aGb aFQ aGe aCd aFD gA
      go_wp2_with (at_builtin;refine FE rfl (.tmp 40) (.tmp 45) _ rfl W.heap.size Tryz.underlying30 (.slice A10 out.length c10) out i rfl aPL.o rfl ?k1 UO.o ?_)
      case k1=>have:=YW.o;omega
      intro v' w4 bB CJ vH SY dC iV;have aMD:=lH (aPP.o.apart (v:=.slice A10 out.length c10) SY (fun b hb=>HNE.o b hb));have aMz:Hid (bK vL w4 W.heap.size 3 1 v' (out++[i]).length (gM (out++[i]))):=lH (by rw[jW,List.length_singleton];exact bB);have aUN:Hid (v'.ownBlock≠some g9):=lH (by
       rcases vH with h | ⟨b,h,h2⟩
       ·rw[h];exact HNE.o g9 rfl
       ·rw[h]
        intro e;injection e with e;have:=eV.o.lt;omega)
      have aHv:=lH (aUk.o.byB (w':=w4) fun b cs _ h=>dC b _ cs h (by decide));have UP:=lH (dC _ _ _ aVr.o (by decide));have aMT:=lH (aK7.o.trans CJ);clear bB CJ vH SY dC iV hc9 aYl aPP aUk aPL aVr aK7 HNE UO UF eV;clear cur9;obtain⟨g9',cap9,cur9,M5,hg9,gA,aGb,aFQ,aGe,aCd,aFD⟩:=aMD.o.strike (k:=k) (by have:=UK.o;omega);injection M5 with M5 hv9b hv9c;injection M5 with M5;injection M5 with M5;subst M5;subst hv9c;obtain⟨g8,cap8,cur8,M6,hg8,gP,aGc,aFR,aGf,aFz,aJz⟩:=aHv.o.strike (k:=k) HKR.o;injection M6 with M6 hv8b hv8c;subst M6;subst hv8c;have H98:Hid (g8≠g9):=lH (gP.apart gA (by decide));have H69:Hid (gt≠g9):=lH (UP.o.apart gA (by decide));have H68:Hid (gt≠g8):=lH (UP.o.apart gP (by decide));have HC9:=lH (aGQ g9 nums.length c9 k cur9 w4 gA (by rw[aGb]) aFQ (by have:=UK.o;omega) aGe (by rw[aCd];exact aE7 nums));obtain⟨aUb,dR,HS8⟩:=d_ aFD gP (And.intro aGc (And.intro aFR (And.intro aGf aFz)));clear hg9 gA aGb aFQ aGe aCd aFD hg8 gP aGc aFR aGf aFz aJz;have aOe:(k:Int)+1<=(nums.length:Int):=by omega
      have aXY:(k:Int)<(rest.length:Int):=by omega
      (go_wp2_with fail);refine HC9.o.mono ?_;intro e w5 hd9;obtain⟨rfl,O8,ho5,hl5⟩:=aUb.o _ e w5 hd9 aRh;rw[WP] at O8;have DB:=lH O8;have aMB:=lH (aMz.o.byB (w':=w5) fun b cs h hb=>(ho5 b hb.lt (fun e=>aUN.o (by rw[h,e]))).trans hb);have aMq:=lH (aHv.o.byB (w':=w5) fun b cs h hb=>(ho5 b hb.lt (fun e=>H98.o (by injection h with h;rw[<-e];exact h))).trans hb);have aHW:=lH (show aG w5 gt 95 _ from(ho5 gt UP.o.lt H69.o).trans UP.o);have aMU:=lH (aMT.o.trans hl5);clear O8 ho5 hl5 hd9 HC9 aUb aMz aHv UP aMT aMD dR HS8;clear cur8;obtain⟨g8',cap8,cur8,M6,hg8,gP,aGc,aFR,aGf,aFz,aJz⟩:=aMq.o.strike (k:=k) HKR.o;injection M6 with M6 hv8b hv8c;injection M6 with M6;injection M6 with M6;subst M6;subst hv8c;have HC8:=lH (aGP g8 rest.length c8 k cur8 w5 gP aGc aFR HKR.o aGf (by rw[aFz];exact aNu rest));have aUc:=lH aJz;have dR:=lH gP;clear hg8 gP aGc aFR aGf aFz aJz;(go_wp2_with fail);refine HC8.o.mono ?_;intro e w6 hd8;obtain⟨rfl,rD,ho6,hl6⟩:=aUc.o _ e w6 hd8 (fun _ _=>trivial);rw[aFc] at rD;have e1:rest.length-1=(rest.eraseIdx k).length:=(List.length_eraseIdx_of_lt HKR.o).symm;have e2:nums.length-1=(nums.eraseIdx k).length:=(List.length_eraseIdx_of_lt (by have:=UK.o;have:=HKR.o;omega)).symm;have LA:=lH (by rw[e1] at rD;exact rD);have E8:=lH ((by have h:=DB.o;rw[e2] at h;exact h:bK vL w5 W.heap.size 3 1 (.slice (some ⟨g9,0,none⟩) (nums.eraseIdx k).length c9) (nums.eraseIdx k).length (gM (nums.eraseIdx k))).byB (w':=w6) fun b cs _ hb=>(ho6 b hb.lt (hb.apart dR.o (by decide))).trans hb);have aMA:=lH (aMB.o.byB (w':=w6) fun b cs _ hb=>(ho6 b hb.lt (hb.apart dR.o (by decide))).trans hb);have aHV:=lH (show aG w6 gt 95 _ from(ho6 gt aHW.o.lt H68.o).trans aHW.o);have UQ:=lH (aMU.o.trans hl6);have aUn:=lH (X1 wB.o HRG.o HKR.o HSP.o);have aC7:=lH (wB.o.sub (List.eraseIdx_sublist rest k));have a0U:Hid (∀r,ClG x (nums.eraseIdx k) (rest.eraseIdx k) (out++[i]) r->ClG x (List.range ms.length) ms [] r):=lH fun r h=>HCT.o r (ClG.step BC.o HI.o h);have a0o:Hid ((out++[i]).length<=64-(rest.eraseIdx k).length):=lH (by rw[jW,List.length_singleton,<-e1];have:=YW.o;have:=HKR.o;have:=wB.o.k64;omega);have a0v:Hid ((nums.eraseIdx k).length=(rest.eraseIdx k).length):=lH (by rw[<-e1,<-e2,UK.o]);have HME:Hid ((rest.eraseIdx k).length<rest.length):=lH (by rw[<-e1];have:=HKR.o;omega);rw[e1,e2];clear rD ho6 hl6 hd8 HC8 aUc dR DB aMB aMq aHW aMU H98 H69 H68 HKR HSP BC HI HCT YW UK e1 e2 aXv hkr aXY aOe hkN lB rJ HRG wB;generalize hrs:rest.eraseIdx k=rest' at *;generalize hns:nums.eraseIdx k=nums' at *;generalize hos:out++[i]=out' at *
      have PNX:=P0.o.bl UQ.o;obtain⟨y0,y1,y2,y3,y4,y5,nf,nlt⟩:=aW PNX;dsimp only at y0 y1 y2 y3 y4 y5;clear PNX;(go_wp2_with fail);refine(PL _ x aC7.o.ok h8 (some ⟨g8,0,none⟩) _ c8 rest' w6 (HX.o.up UQ.o) (eN.rd2 LA.o.own).1 aC7.o.k64 aC7.o.mi aC7.o.tx aC7.o.wt).mono ?_;rintro e w7 ⟨iA,iO⟩;rcases iO with⟨h,-⟩ | ⟨-,fv,rfl,NA⟩
      ·exact absurd aUn.o h
      have aSZ:=NA;obtain⟨g2,m2,yy2,A2,c2,gi2,ga2,B2,d2,hfe,-⟩:=NA;subst hfe;have a0M:=lH aSZ;have P6:=lH (aHV.o.bl iA);have Q5:Hid (gt<w6.heap.size):=lH aHV.o.lt;obtain⟨HN7,KK,HO7⟩:=d_ (E8.o.keep iA) (LA.o.keep iA) (aMA.o.keep iA);have j_:=bW UQ iA;have a0Z:Hid (W.heap.size<=w6.heap.size):=lH UQ.o.size;clear aSZ iA y0 y1 y2 y3 y4 y5 nf nlt aHV E8 LA aMA UQ;obtain⟨z0,z1,z2,z3,z4,zf,zl⟩:=P6.o.e5;have HU:=lH (GT (p':=some ⟨g2,0,none⟩) (B1:=A2) (k1:=rest'.length) (d1:=c2) (B2:=some ⟨gi2,0,none⟩) (k2:=(aA x).length) (d2:=(aA x).length) (B3:=some ⟨ga2,0,none⟩) (k3:=aH x) (d3:=aH x) (B4:=B2) (k4:=rest'.length) (d4:=d2) P6.o);(go_wp2_with fail);go_roundw
      case rel=>exact⟨nums',rest',out',_,⟨(a0M.o.unP HU.o Q5.o).low a0Z.o,rY P6.o,aKW.o,HN7.o.put5 P6.o (by decide),KK.o.put5 P6.o (by decide),HO7.o.put5 P6.o (by decide),fun b hb=>by injection hb with hb;rw[<-hb];exact aUN.o,mS j_.o aKW.o⟩,a0v.o,aC7.o,aUn.o,a0o.o,a0U.o⟩
      case measure=>exact HME.o
end
section
def yV:List Mi:=[⟨0,⟨#[76]⟩,⟨#[53]⟩,1⟩,⟨0,⟨#[76]⟩,⟨#[53]⟩,1⟩,⟨0,⟨#[76]⟩,⟨#[57]⟩,1⟩,⟨0,⟨#[77]⟩,⟨#[50]⟩,1⟩]
def suK:List Mi:=[⟨0,⟨#[76]⟩,⟨#[53]⟩,1⟩,⟨0,⟨#[76]⟩,⟨#[53]⟩,1⟩,⟨0,⟨#[77]⟩,⟨#[50]⟩,1⟩]
def suR:List ByteArray:=[⟨#[45,52,47,51]⟩,⟨#[45,52,47,51]⟩,⟨#[56,47,51]⟩,⟨#[48]⟩]
def suS:List ByteArray:=[⟨#[50,47,51]⟩,⟨#[50,47,51]⟩,⟨#[50,47,51]⟩,⟨#[48]⟩]
theorem aRm:dJ cJ yV=0:=by decide+kernel
theorem ZL:∀m∈yV,m.txt.size<=maxLen:=by decide+kernel
theorem aM_:mX cJ yV:=by unfold mX Reg;decide+kernel
theorem aNb:bE cJ yV=[0,-19/3,-22/3]:=by decide+kernel
theorem I0:aQ cJ yV (bE cJ yV)=[-4/3,-4/3,8/3,0]:=by decide+kernel
theorem IZ:cR cJ yV=[2/3,2/3,2/3,0]:=by decide+kernel
theorem aIP:aQ cJ suK (bE cJ suK)=[0,0,0]:=by decide+kernel
theorem aM9:bN 0=⟨#[48]⟩/\bN (-4/3)=⟨#[45,52,47,51]⟩/\bN (8/3)=⟨#[56,47,51]⟩/\bN (2/3)=⟨#[50,47,51]⟩:=by decide+kernel
theorem aNa:∀q∈bE cJ yV,bP q:=by
 rw[aNb];intro q hq;simp only[List.mem_cons,List.not_mem_nil,or_false] at hq;rcases hq with rfl | rfl | rfl<;>exact AL (by decide+kernel)
theorem aIN:∀q∈aQ cJ yV (bE cJ yV),bP q:=by
 rw[I0];intro q hq;simp only[List.mem_cons,List.not_mem_nil,or_false] at hq;rcases hq with rfl | rfl | rfl | rfl<;>exact AL (by decide+kernel)
theorem aIM:∀q∈cR cJ yV,bP q:=by
 rw[IZ];intro q hq;simp only[List.mem_cons,List.not_mem_nil,or_false] at hq;rcases hq with rfl | rfl | rfl | rfl<;>exact AL (by decide+kernel)
theorem aD_:(aQ cJ yV (bE cJ yV)).map bN=suR/\(cR cJ yV).map bN=suS:=by
 obtain⟨h0,h1,h2,h3⟩:=aM9;rw[I0,IZ];simp only[List.map_cons,List.map_nil,h0,h1,h2,h3,suR,suS,and_self]
theorem GX:rK cJ yV 0:=.inr (.inr (.inr ⟨aRm,aM_,aNa,rfl⟩))
theorem OD{b:Int}(h:gH (aQ cJ yV (bE cJ yV)) (cR cJ yV) yV.length b):b=2:=by
 refine h.one (.inr ⟨2,rfl,by decide,?_,?_,?_⟩)
 ·rw[I0,IZ]
  unfold WOk;decide+kernel
 ·rw[I0,IZ]
  intro i hi hw;have:i=0\/i=1\/i=2\/i=3:=by
   have hi':i<4:=hi;omega
  unfold QO;unfold WOk at hw;rcases this with rfl | rfl | rfl | rfl
  ·decide+kernel
  ·decide+kernel
  ·decide+kernel
  ·exact absurd hw (by decide+kernel)
 ·rw[I0,IZ]
  intro i hi hw;have:i=0\/i=1:=by omega
  unfold QO;rcases this with rfl | rfl<;>decide+kernel
theorem aEa{b:Int}(h:gH (aQ cJ suK (bE cJ suK)) (cR cJ suK) suK.length b):b=-1:=by
 refine h.one (.inl ⟨rfl,fun k hk hw=>hw.1 ?_⟩);rw[aIP];have:k=0\/k=1\/k=2:=by
  have hk':k<3:=hk;omega
 rcases this with rfl | rfl | rfl<;>decide+kernel
theorem aNc{r:List Nat}(h:ClG cJ (List.range yV.length) yV [] r):r=[2]:=by
 cases h with
 | done hw hb=>have:=OD hw;omega
 | @step _ _ _ _ k i hw hk h=>
  have e:=OD hw;have e2:k=2:=by omega
  subst e2;have hi:i=2:=by
   have h2:(List.range yV.length)[2]?=some 2:=by decide
   rw[h2] at hk;injection hk with hk;exact hk.symm
  subst hi;have h3:yV.eraseIdx 2=suK:=rfl;rw[h3] at h;cases h with
  | done hw hb=>rfl
  | step hw hk h=>have:=aEa hw;omega
end
