import Derived.Test.YthgdchffeigkbaaGreatDoorV29
import Derived.Test.YthgdchffeigkbaaGreatDoorV30
import Derived.Test.YthgdchffeigkbaaGreatDoorV32
set_option linter.unusedVariables false
set_option linter.unusedSimpArgs false
namespace Go.Proofs.YthgdchffeigkbaaGreatDoor
set_option maxHeartbeats 8000000
set_option maxRecDepth 100000
variable {i j : Nat} {ps : List Int} {x : bO}
section
open Go.ChangeShapes Go.WideShapes Go.ChangeAt Go.RowKit
attribute [local go_sem ↓] aE
attribute [local go_sem] aJ aI aM aR
theorem aB1(g:Nat)(m:iU)(A7:OA)(c7:Nat)(x:bO)(ok:bJ x)(h8:x.nodes.length<=8)(A:OA)(n c:Nat)(qs:List Rat)(w:Wo)(hg:aG w g 122 (m.cells (.slice A7 (aA x).length c7)))(hr:fB w w.heap.size m x)(hi:lQ w w.heap.size A7 (aA x).length (yZ x))(hq:iT w w.heap.size A n qs)(hn:n=aH x)(hz:∀q∈qs,bI q<=1000):Calls Tryz.prog 56 #[.pointer (some ⟨g,0,none⟩),.slice A n c] w (aTv (OH x (mG x qs x.brs.length)) w):=by
 obtain⟨HG,HR,HI,HQ,bU⟩:=kN hg hr hi hq ok;have v_:=lH hn;have l8:Hid (qs.length=aH x):=lH (by rw[<-hn];exact hq.len);have P8:Hid (∀k,k<=x.brs.length->∀q∈mG x qs k,bI q<=1200):=lH fun k hk q hq=>by
  have h1:=OZ ok l8.o hz k hk q hq;have:=ok.l2;omega
 have wC:Hid (∀k,k<=x.brs.length->(mG x qs k).length=aH x):=lH fun k hk=>by rw[CF k hk];exact l8.o
 have mK:Hid (x.brs.length=m.n4):=lH (by rw[<-pF];exact hr.r4.len);have DB:Hid (x.brs.length=m.n5):=lH (by rw[<-OX];exact hr.r5.len);have iI:Hid (x.brs.length=m.n2):=lH (by rw[<-mQ,<-e_];exact hr.r2.len);have tS:Hid (x.brs.length=m.n3):=lH (by rw[<-rQ,<-e_];exact hr.r3.len);have IL:Hid (aH x<=24):=lH (cO (eX ok).2 ok.l0);have aDj:Hid (x.brs.length<=1000):=lH (by have:=ok.l2;omega);obtain⟨A0,n0,c0,A1,n1,c1,A2,n2,c2,A3,n3,c3,A4,n4,c4,A5,n5,c5,A6,n6,c6⟩:=m;simp only[iU.cells] at HG mK DB iI tS;have e4:=mK.o;have e5:=DB.o;have e2:=iI.o;have e3:=tS.o;subst e4;subst e5;subst e2;subst e3;clear hg hr hi hq ok hz hn mK DB iI tS;go_enter Tryz.func56,Tryz.ntmps56
 go_wp2_with fail
 refine(X9 A n c qs w HQ.o (by have:=v_.o;have:=IL.o;omega)).mono ?_;rintro e w1 ⟨bC,L,lc,us0,rfl,ho1⟩;have DJ:=lH ho1;have bT:=lH bC;have y5:=(HG.o.bl bC).cell 5;have yl:=(HG.o.bl bC).lt;clear bC ho1
 go_wp2_with fail
 clear y5 yl
 go_loopw [15] (fun v15 wr=>∃(k:Nat)(us:List Rv),k<=x.brs.length/\v15=.int .i64 k/\dP wr w.heap.size (.slice L n lc) us (mG x qs k)/\Below w.heap.size w wr) (fun v15 _=>x.brs.length-(intOf v15).toNat)
 case atStart=>exact⟨0,us0,by omega,rfl,by rw[CD];exact DJ.o,bT.o⟩
 case round=>
  clear DJ bT;obtain⟨k,us,hk,rfl,ho,hb⟩:=hrel;have HO:=lH ho;have HB:=lH hb;clear ho hb;by_cases aU:k<x.brs.length
  ·obtain⟨b,zW⟩:∃b,x.brs[k]?=some b:=⟨_,iB aU⟩
   obtain⟨a1,a2,a3,a4⟩:=kM zW;have zD:=bV zW;have qA:=lH (bU.o.br b zD);have HJ1:Hid (aD x b.fr<aH x):=lH (bG bU.o (bU.o.br b zD).1).2.1;have HJ2:Hid (aD x b.to<aH x):=lH (bG bU.o (bU.o.br b zD).2.1).2.1;have gQ:=lH (CE (qs:=qs) zW);have HA1:=lH a1;have HA2:=lH a2;have y_:=(HR.o.bm HB.o).r5;simp only at y_;obtain⟨db,do',hA5,hdb⟩:=y_.form (by omega);subst hA5;obtain⟨xc,p0,p1,p2,p3,p4⟩:=y_.at_ a4;have fY:(k:Int)<(x.brs.length:Int):=by omega
   have lB:=lZ k;have rJ:=jF k;have l9:=lN k;have jV:Hid (x.brs.length-(k+1)<x.brs.length-k):=lH (by omega);have UC:=lH p4;have sP:=lH aU;clear p4 y_ zW zD a1 a2 a3 a4;obtain⟨g0,-,hL,-,yJ,zV,-⟩:=HO.o.elem (j:=aD x b.fr) (by rw[wC.o k (by omega)];exact HJ1.o);subst hL;have Y2:=lH yJ;have sL:=lH zV;clear yJ zV;(go_upto_region 5 with fail);clear p0 p1 p2 p3 hdb;have hz:=jT wr (.cells #[.bool xc.b1,.slice xc.A xc.n xc.c,.bool xc.b2,.slice xc.A2 xc.m xc.d] 115);have HCB:=lH (aG.new wr 115 #[.bool xc.b1,.slice xc.A xc.n xc.c,.bool xc.b2,.slice xc.A2 xc.m xc.d]);replace HO:=lH (HO.o.keep hz);replace UC:=lH (UC.o.up hz);have N2:=bW HB hz;clear hz HB;generalize wr.alloc (.cells #[.bool xc.b1,.slice xc.A xc.n xc.c,.bool xc.b2,.slice xc.A2 xc.m xc.d] 115)=wa at *;generalize wr.heap.size=gq at *;have HRr:=lH (HR.o.bm N2.o);have AY:=HRr.o.r2;simp only at AY;obtain⟨fb,fo,hAf,qU,-⟩:=AY.2 (by omega);have f0:=(show o_ wa wa.heap.size (some ⟨fb,fo,none⟩) x.brs.length (d9 (gV x)) by rw[<-hAf];exact AY).at_ (fS HA1.o);have yy:=(HG.o.bl N2.o).cell 2;have yl:=(HG.o.bl N2.o).lt;replace yy:wa.cell? ⟨g,2,none⟩=some (.slice (some ⟨fb,fo,none⟩) x.brs.length c2):=by rw[<-hAf];exact yy
   obtain⟨g1,x1,e,-,-,gl,gf,u0,u1,u2,u3,u4,-⟩:=HO.o.elem (j:=aD x b.fr) (by rw[(wC.o k (pJ sP.o))];exact HJ1.o);injection e with e;injection e with e;subst e;have eB:=lH u4;have GN:Hid (∀W2,Below wa.heap.size wa W2->∃x2:Rv,(∀o,W2.frozen? ⟨g0,o,none⟩=false)/\g0<W2.heap.size/\W2.cell? ⟨g0,aD x b.fr*4,none⟩=some (.bool x2.b1)/\W2.cell? ⟨g0,aD x b.fr*4+1,none⟩=some (.slice x2.A x2.n x2.c)/\W2.cell? ⟨g0,aD x b.fr*4+2,none⟩=some (.bool x2.b2)/\W2.cell? ⟨g0,aD x b.fr*4+3,none⟩=some (.slice x2.A2 x2.m x2.d)/\∀(v:Rv)(p:Rat),dD W2 W2.heap.size p v->dP (eO W2 g0 (aD x b.fr) v) w.heap.size (.slice (some ⟨g0,0,none⟩) n lc) (us.set (aD x b.fr) v) ((mG x qs k).set (aD x b.fr) p)):=lH fun W2 hb=>by
    obtain⟨g2,x2,e,-,-,b1,b2,b3,b4,b5,b6,-,b8⟩:=(HO.o.keep hb).elem (j:=aD x b.fr) (by rw[(wC.o k (pJ sP.o))];exact HJ1.o);injection e with e;injection e with e;subst e;exact⟨x2,b2,b1,b3,b4,b5,b6,b8⟩
   obtain⟨z0,z1,z2,z3,zl⟩:=HCB.o.b4;have rE:=HJ1.o;have fY:(k:Int)<(x.brs.length:Int):=by have:=sP.o;omega
   have lB:=lZ k;have rJ:=jF k;have G_:=v_.o;have i1:((aD x b.fr:Nat):Int)<(n:Int):=by omega
   have i10:(0:Int)<=((aD x b.fr:Nat):Int):=by omega
   have i1n:((aD x b.fr:Nat):Int).toNat=aD x b.fr:=jF _;have E3:Hid (bI (vf (mG x qs k) (aD x b.fr))+bI (eS b)+1<=35184372088832):=lH (by
    have h1:=P8.o k (pJ sP.o) _ (bV (a_ (l:=mG x qs k) (i:=aD x b.fr) (by rw[(wC.o k (pJ sP.o))];exact HJ1.o)));have h2:=uT qA.o.2.2.2;omega)
   clear AY hAf u4 G_ rE;refine kX 21 (fun hHeld=>?_);simp only[nI,List.take_zero];refine cW [0,1,2,3,4,5,6,7,8,9,10,11,12,13,14,15,16,17,18] ?_;clear f0 yy yl u0 u1 u2 u3 z0 z1 z2 z3 zl fY lB rJ qU;have zL:=lH (aK (Below.refl wa.heap.size wa));generalize wa.drew=v0 at *;refine bQ 19 (fun K hK=>?_);go_simp;refine(OC (eB.o.up zL.o) (UC.o.up zL.o) E3.o).mono ?_;rintro e v1 ⟨bC,r7,rfl,h7⟩;have lT:Hid (Below wa.heap.size wa v1):=lH (zL.o.tm bC);have H7:=lH h7;clear bC h7 zL;go_simp;refine gZ hK lT.o (fun hHeld=>?_);clear hK K;refine cW [20] ?_;refine eM ?_;clear hHeld gl gf;obtain⟨x2,ff,fl,k0,k1,k2,k3,JT⟩:=GN.o v1 lT.o;have HOn:=lH (JT r7 _ H7.o);have HBn:Hid (Below w.heap.size w (eO v1 g0 (aD x b.fr) r7)):=lH (jC (v:=r7) (N2.o.tm lT.o) Y2.o);clear JT GN;have HCn:Hid (aG (eO v1 g0 (aD x b.fr) r7) gq 115 #[.bool xc.b1,.slice xc.A xc.n xc.c,.bool xc.b2,.slice xc.A2 xc.m xc.d]):=lH ((HCB.o.bl lT.o).far4 r7 (by have:=sL.o;omega));have HXn:Hid (dD (eO v1 g0 (aD x b.fr) r7) (eO v1 g0 (aD x b.fr) r7).heap.size (eS b) xc):=lH (aFo k0 k1 k2 k3 (UC.o.up lT.o));have HQA:=lH (SH (x:=x) (b:=b) (P8.o k (pJ sP.o)) (by rw[wC.o k (pJ sP.o)];exact HJ1.o) qA.o.2.2.2);have HLA:Hid ((EK x (mG x qs k) b).length=aH x):=lH (by rw[CG];exact wC.o k (pJ sP.o));have HOA:Hid (dP (eO v1 g0 (aD x b.fr) r7) w.heap.size (.slice (some ⟨g0,0,none⟩) n lc) (us.set (aD x b.fr) r7) (EK x (mG x qs k) b)):=lH HOn.o;clear HO N2 HCB UC eB E3 lT H7 HOn;(go_upto_region 6 with fail);clear ff fl k0 k1 k2 k3;generalize EM:(((v1.setCell ⟨g0,aD x b.fr*4,none⟩ (.bool r7.b1)).setCell ⟨g0,aD x b.fr*4+1,none⟩ (.slice r7.A r7.n r7.c)).setCell ⟨g0,aD x b.fr*4+2,none⟩ (.bool r7.b2)).setCell ⟨g0,aD x b.fr*4+3,none⟩ (.slice r7.A2 r7.m r7.d)=wb;have HO:Hid (dP wb w.heap.size (.slice (some ⟨g0,0,none⟩) n lc) (us.set (aD x b.fr) r7) (EK x (mG x qs k) b)):=lH (by rw[<-EM];exact HOA.o);have N2:Hid (Below w.heap.size w wb):=lH (by rw[<-EM];exact HBn.o);have HCB:Hid (aG wb gq 115 #[.bool xc.b1,.slice xc.A xc.n xc.c,.bool xc.b2,.slice xc.A2 xc.m xc.d]):=lH (by rw[<-EM];exact HCn.o);have UC:Hid (dD wb wb.heap.size (eS b) xc):=lH (by rw[<-EM];exact HXn.o);clear EM HOA HBn HCn HXn HRr;generalize hus:us.set (aD x b.fr) r7=us2 at *;clear hus;have HRr:=lH (HR.o.bm N2.o);have vR:=HRr.o.r3;simp only at vR;obtain⟨fb,fo,hAf,qU,-⟩:=vR.2 (by omega);have f0:=(show o_ wb wb.heap.size (some ⟨fb,fo,none⟩) x.brs.length (d9 (CC x)) by rw[<-hAf];exact vR).at_ (fS HA2.o);have yy:=(HG.o.bl N2.o).cell 3;have yl:=(HG.o.bl N2.o).lt;replace yy:wb.cell? ⟨g,3,none⟩=some (.slice (some ⟨fb,fo,none⟩) x.brs.length c3):=by rw[<-hAf];exact yy
   obtain⟨g1,x1,e,-,-,gl,gf,u0,u1,u2,u3,u4,-⟩:=HO.o.elem (j:=aD x b.to) (by rw[HLA.o];exact HJ2.o);injection e with e;injection e with e;subst e;have eB:=lH u4;have GN:Hid (∀W2,Below wb.heap.size wb W2->∃x2:Rv,(∀o,W2.frozen? ⟨g0,o,none⟩=false)/\g0<W2.heap.size/\W2.cell? ⟨g0,aD x b.to*4,none⟩=some (.bool x2.b1)/\W2.cell? ⟨g0,aD x b.to*4+1,none⟩=some (.slice x2.A x2.n x2.c)/\W2.cell? ⟨g0,aD x b.to*4+2,none⟩=some (.bool x2.b2)/\W2.cell? ⟨g0,aD x b.to*4+3,none⟩=some (.slice x2.A2 x2.m x2.d)/\∀(v:Rv)(p:Rat),dD W2 W2.heap.size p v->dP (eO W2 g0 (aD x b.to) v) w.heap.size (.slice (some ⟨g0,0,none⟩) n lc) (us2.set (aD x b.to) v) ((EK x (mG x qs k) b).set (aD x b.to) p)):=lH fun W2 hb=>by
    obtain⟨g2,x2,e,-,-,b1,b2,b3,b4,b5,b6,-,b8⟩:=(HO.o.keep hb).elem (j:=aD x b.to) (by rw[HLA.o];exact HJ2.o);injection e with e;injection e with e;subst e;exact⟨x2,b2,b1,b3,b4,b5,b6,b8⟩
   obtain⟨z0,z1,z2,z3,zl⟩:=HCB.o.b4;have rE:=HJ2.o;have fY:(k:Int)<(x.brs.length:Int):=by have:=sP.o;omega
   have lB:=lZ k;have rJ:=jF k;have G_:=v_.o;have i1:((aD x b.to:Nat):Int)<(n:Int):=by omega
   have i10:(0:Int)<=((aD x b.to:Nat):Int):=by omega
   have i1n:((aD x b.to:Nat):Int).toNat=aD x b.to:=jF _;have E3:Hid (bI (vf (EK x (mG x qs k) b) (aD x b.to))+bI (eS b)+1<=35184372088832):=lH (by
    have h1:=HQA.o _ (bV (a_ (l:=EK x (mG x qs k) b) (i:=aD x b.to) (by rw[HLA.o];exact HJ2.o)));have h2:=uT qA.o.2.2.2;omega)
   clear vR hAf u4 G_ rE;refine kX 21 (fun hHeld=>?_);simp only[nI,List.take_zero];refine cW [0,1,2,3,4,5,6,7,8,9,10,11,12,13,14,15,16,17,18] ?_;clear f0 yy yl u0 u1 u2 u3 z0 z1 z2 z3 zl fY lB rJ qU;have zL:=lH (aK (Below.refl wb.heap.size wb));generalize wb.drew=v0 at *;refine bQ 19 (fun K hK=>?_);go_simp;refine(EZ (eB.o.up zL.o) (UC.o.up zL.o) E3.o).mono ?_;rintro e v1 ⟨bC,r7,rfl,h7⟩;have lT:Hid (Below wb.heap.size wb v1):=lH (zL.o.tm bC);have H7:=lH h7;clear bC h7 zL;go_simp;refine gZ hK lT.o (fun hHeld=>?_);clear hK K;refine cW [20] ?_;refine eM ?_;clear hHeld gl gf;obtain⟨x2,ff,fl,k0,k1,k2,k3,JT⟩:=GN.o v1 lT.o;have HOn:=lH (JT r7 _ H7.o);have HBn:Hid (Below w.heap.size w (eO v1 g0 (aD x b.to) r7)):=lH (jC (v:=r7) (N2.o.tm lT.o) Y2.o);clear JT GN;have aCq:=aDj.o;have aU:k<x.brs.length:=sP.o;(go_wp2_with fail);go_roundw
   case rel=>exact⟨k+1,_,sP.o,aO l9.o,by rw[gQ.o];exact HOn.o,HBn.o⟩
   case measure=>exact jV.o
  ·have nH:k=x.brs.length:=by omega
   subst nH;have fY:¬((x.brs.length:Nat):Int)<(x.brs.length:Int):=by omega
   obtain⟨L2,lc2,e,rC,-⟩:=HO.o.rd;have dW:=wC.o x.brs.length lR;rw[dW] at e rC;injection e with e1 e2 e3;subst e1;subst e3;have YR:Hid (iT wr wr.heap.size L n (mG x qs x.brs.length)):=lH (by rw[v_.o];exact rC);clear rC e2;(go_wp2_with fail);refine(aFf g ⟨A0,n0,c0,A1,n1,c1,A2,x.brs.length,c2,A3,x.brs.length,c3,A4,x.brs.length,c4,A5,x.brs.length,c5,A6,n6,c6⟩ A7 c7 x bU.o h8 L n lc (mG x qs x.brs.length) wr (HG.o.bl HB.o) (HR.o.up HB.o) (HI.o.bm HB.o) YR.o v_.o (fun q hq=>cO (P8.o _ lR q hq) (by decide))).mono ?_;rintro e w9 ⟨gA,ga,vs,rfl,FS,hv⟩;have eV:=bW HB gA;have HV9:=lH hv;have E_:=lH (cO HB.o.size FS);clear gA hv FS;(go_wp2_with fail);go_ret;exact⟨eV.o,ga,vs,rfl,E_.o,HV9.o⟩
theorem aY.keepN{w:Wo}{g T n:Nat}{A:OA}{l:List ByteArray}{cs:Array Value}{y u:Value}(h:aY w w.heap.size A n l)(hb:aG w g T cs)(hs:NoS cs)(hy:cs[i]?=some y):aY (w.setCell ⟨g,i,none⟩ u) (w.setCell ⟨g,i,none⟩ u).heap.size A n l:=by
 refine⟨h.1,h.2.1,fun h0=>?_⟩;obtain⟨b,off,e,aU,hc⟩:=h.2.2 h0;have hbg:b≠g:=by
  rintro rfl;obtain⟨z,hz⟩:∃z,l[0]?=some z:=eA (by rw[h.1];exact h0);have:=hc 0 (.string z) (by unfold fN;rw[iY,hz];rfl);rw[Nat.add_zero,hb.cell] at this;exact hs _ _ this _ rfl
 refine⟨b,off,e,by simpa[World.setCell] using aU,fun j v hv=>?_⟩;rw[World.cell?_setCell_other _ _ _ _ (fun e2=>hbg (by injection e2 with e2;exact e2.symm))];exact hc j v hv
theorem GU{A B:OA}{n c m d:Nat}:NoS #[.slice A n c,.slice B m d]:=fun i u h=>by
 have h2:=Array.mem_toList_iff.2 (Array.mem_of_getElem? h);simp only[List.mem_cons,List.not_mem_nil,or_false] at h2;rcases h2 with rfl | rfl<;>exact fun b e=>by cases e
def aTz(x:bO)(ps:List Int)(w:Wo)(e:Ending)(w':Wo):Prop:=Below w.heap.size w w'/\((∃c:Int,c≠0/\e=.returned (.tuple #[.agg #[.slice none 0 0,.slice none 0 0],.int .i64 c]))\/
 (N3 x ps/\∃A n c B m d,e=.returned (.tuple #[.agg #[.slice A n c,.slice B m d],.int .i64 0])/\(aY w' w'.heap.size A n ((jB x ps).map bN)/\n<=c/\c<=maxLen)/\aY w' w'.heap.size B m ((gS x (jB x ps)).map bN)/\m<=d/\d<=maxLen))
theorem aBr(h:bY)(x:bO)(h8:x.nodes.length<=8)(A:OA)(n c:Nat)(ps:List Int)(w:Wo)(r:cQ w w.heap.size h x)(hp:o_ w w.heap.size A n ps)(hn:n<=9223372036854775807)(ht:dM w):Calls Tryz.prog 22 #[.agg h.cells,.slice A n c] w (aTz x ps w):=by
 have Q0:Below w.heap.size w ((w.alloc (.cells h.cells 29)).alloc (.cells #[.slice none 0 0,.slice none 0 0] 37)):=(bA).alloc (by simp) _;have HW:=lH Q0;have P0:=lH ((aG.new w 29 h.cells).alloc (.cells #[.slice none 0 0,.slice none 0 0] 37));have P4:Hid (aG ((w.alloc (.cells h.cells 29)).alloc (.cells #[.slice none 0 0,.slice none 0 0] 37)) (w.heap.size+1) 37 #[.slice none 0 0,.slice none 0 0]):=lH (aG.new_ (by simp));have dZ:Hid (((w.alloc (.cells h.cells 29)).alloc (.cells #[.slice none 0 0,.slice none 0 0] 37)).heap.size=w.heap.size+1+1):=lH (by simp);obtain⟨HPI,HX,HT,H8⟩:=iK (hp.bm Q0) (r.up Q0) (ht.up Q0) h8;have HPN:Hid (ps.length=n):=lH hp.len;clear Q0 hp r ht h8;obtain⟨D0,r0,s0,D1,r1,s1,D2,r2,s2,D3,r3,s3,D4,r4,s4,D5,r5,s5⟩:=h;go_enter Tryz.func22,Tryz.ntmps22
 go_upto_region 1 with fail
 generalize (w.alloc (.cells (bY.cells ⟨D0,r0,s0,D1,r1,s1,D2,r2,s2,D3,r3,s3,D4,r4,s4,D5,r5,s5⟩) 29)).alloc (.cells #[.slice none 0 0,.slice none 0 0] 37)=W at *;obtain⟨y0,y1,y2,y3,y4,y5,nf,nlt⟩:=aW P0.o;dsimp only at y0 y1 y2 y3 y4 y5
 go_wp2_with fail
 refine(aGw _ x A n c ps W HX.o HPI.o hn).mono ?_;rintro e w1 ⟨bC,d,rfl,mI⟩;have bT:=lH bC;have P7:=lH (P4.o.bl bT.o);clear bC y0 y1 y2 y3 y4 y5 nf nlt;by_cases hd:d=0
 case neg=>
  have HD:=lH hd;have hdb:(d != 0)=true:=by simp[hd]
  clear mI hd;obtain⟨z0,z1,zf,zl⟩:=P7.o.e2;(go_wp2_with fail);have p0:=(P7.o.set_ 0 (.slice none 0 0)).set_ 1 (.slice none 0 0);obtain⟨q0,q1⟩:=p0.a2;exact bodyPost_ret (v:=.tuple #[.agg #[.slice none 0 0,.slice none 0 0],.int .i64 d]) (by simp[results,Tryz.results22,go_sem,q0,q1]) rfl ⟨((HW.o.trans (bT.o.mono (by have:=dZ.o;omega))).setCell (Nat.le_succ _) _).setCell (Nat.le_succ _) _,.inl ⟨d,HD.o,rfl⟩⟩
 subst hd;obtain⟨hk,dW,aR4,aTc⟩:=mI rfl;obtain⟨z7,HLN,HRG,mE,bU⟩:=kN hk dW aR4 aTc (lW hk);obtain⟨eB,HP1,HXB⟩:=d_ (HX.o.up bT.o) (HPI.o.bm bT.o) (P0.o.bl bT.o);clear mI hk dW aR4 aTc HX HPI P0;obtain⟨y0,y1,y2,y3,y4,y5,nf,nlt⟩:=aW HXB.o;dsimp only at y0 y1 y2 y3 y4 y5
 go_wp2_with fail
 refine(nX _ x bU.o H8.o w1 eB.o).mono ?_;rintro e w2 ⟨bH,g,m,A2,n2,c2,rfl,-,hg,hm,S4⟩;obtain⟨UY,hri⟩:=S4 (aJm bU.o);subst UY;have cH:=bW bT bH;obtain⟨HG,HM,HRI,wE⟩:=iK hg hm hri (HP1.o.bm bH);clear bH hg hm hri S4 bT eB HP1 HXB P7 y0 y1 y2 y3 y4 y5 nf nlt
 go_wp2_with fail
 refine(aB3 g m _ x bU.o A n c ps w2 HG.o HM.o wE.o (HPN.o.symm.trans HLN.o) HRG.o).mono ?_;rintro e w3 ⟨cN,v3,us3,rfl,ho3⟩;obtain⟨A3,c3,qT,aFH,-,-,-⟩:=ho3.rd;subst qT;have dY:=bW cH cN;obtain⟨N1,HM3,aUm,E5⟩:=iK (HG.o.bl cN) (HM.o.up cN) (HRI.o.bm cN) aFH;have HZ3:Hid (∀q∈vQ x ps,bI q<=2):=lH (aFr HRG.o (by rw[HLN.o];exact bU.o.l0));clear cN ho3 aFH cH HG HM HRI wE
 go_wp2_with fail
 refine(aB1 g m A2 c2 x bU.o H8.o A3 _ c3 (vQ x ps) w3 N1.o HM3.o aUm.o E5.o wX fun q hq=>cO (HZ3.o q hq) (by decide)).mono ?_;rw[<-jB];rintro e w4 ⟨eR,ga,vs,rfl,-,uF⟩;have bM:=bW dY eR;obtain⟨HG4,HM4,UD⟩:=d_ (N1.o.bl eR) (HM3.o.up eR) uF;have F2:Hid ((jB x ps).length=aH x):=lH wO;have HAZ:Hid (∀q∈jB x ps,bI q<=100000000000):=lH fun q hq=>by
  have h1:=OZ bU.o (qs:=vQ x ps) wX HZ3.o x.brs.length lR;have h2:=RP bU.o H8.o (lf:=mG x (vQ x ps) x.brs.length) ((CF _ lR).trans wX) (fun q hq=>cO (h1 q hq) (by have:=bU.o.l2;omega)) _ lR q hq;exact cO h2 (by decide)
 have HAN:Hid (aH x<=1000000):=lH (by have:=(eX bU.o).2;have:=bU.o.l0;omega);clear eR uF dY N1 HM3 aUm E5
 go_wp2_with fail
 refine(mO _ _ _ (jB x ps) w4 UD.o.rdq (by rw[F2.o];exact HAN.o) (HT.o.up bM.o)).mono ?_;rintro e w5 ⟨fD,oY,sG⟩;have eK:=bW bM fD;obtain⟨HG5,HM5,P_⟩:=d_ (HG4.o.bl fD) (HM4.o.up fD) (UD.o.up fD);obtain⟨A6,n6,c6,z6,rfl,ht6⟩:∃A6 n6 c6 z6,e=.returned (.tuple #[.slice A6 n6 c6,.int .i64 z6])/\(((z6=2)/\¬∀q∈jB x ps,bP q)\/(z6=0/\(∀q∈jB x ps,bP q)/\aY w5 w5.heap.size A6 n6 ((jB x ps).map bN)/\n6<=c6/\c6<=maxLen)):=by
  by_cases hf:∀q∈jB x ps,bP q
  ·obtain⟨A7,n7,c7,rfl,h1,h2,h3⟩:=oY hf
   exact⟨_,_,_,_,rfl,.inr ⟨rfl,hf,h1,h2,h3⟩⟩
  ·exact⟨_,_,_,_,sG hf,.inl ⟨rfl,hf⟩⟩
 have HT6:=lH ht6;clear fD oY sG ht6 bM HG4 HM4 UD
 go_wp2_with fail
 refine(aCv g m _ x bU.o _ _ _ (jB x ps) w5 HG5.o HM5.o P_.o.rdq F2.o HAZ.o).mono ?_;rintro e w6 ⟨fT,v6,us6,rfl,ho6⟩;obtain⟨A8,c8,M6,aR7,-,-,-⟩:=ho6.rd;subst M6;have fL:=bW eK fT;have HR8:=lH aR7;have HS6:Hid (w5.heap.size<=w6.heap.size/\Below w5.heap.size w5 w6):=lH ⟨fT.size,fT⟩;have yP:Hid ((gS x (jB x ps)).length<=1000000):=lH (by unfold gS;rw[jO];have:=bU.o.l2;omega);clear fT ho6 aR7 eK HG5 HM5 P_
 go_wp2_with fail
 refine(mO A8 _ c8 (gS x (jB x ps)) w6 HR8.o yP.o (HT.o.up fL.o)).mono ?_;rintro e w7 ⟨iA,oY,sG⟩;have j_:=bW fL iA;have H57:=lH (HS6.o.2.trans (iA.mono HS6.o.1));obtain⟨A9,n9,c9,z9,rfl,ht9⟩:∃A9 n9 c9 z9,e=.returned (.tuple #[.slice A9 n9 c9,.int .i64 z9])/\(((z9=2)/\¬∀q∈gS x (jB x ps),bP q)\/(z9=0/\(∀q∈gS x (jB x ps),bP q)/\aY w7 w7.heap.size A9 n9 ((gS x (jB x ps)).map bN)/\n9<=c9/\c9<=maxLen)):=by
  by_cases hf:∀q∈gS x (jB x ps),bP q
  ·obtain⟨A7,n7,c7,rfl,h1,h2,h3⟩:=oY hf
   exact⟨_,_,_,_,rfl,.inr ⟨rfl,hf,h1,h2,h3⟩⟩
  ·exact⟨_,_,_,_,sG hf,.inl ⟨rfl,hf⟩⟩
 have HT9:=lH ht9;have P9:=lH (P4.o.bl j_.o);have hO:=lH (HW.o.trans (j_.o.mono (by have:=dZ.o;omega)));clear iA oY sG ht9 fL HS6 HR8;obtain⟨z0,z1,zf,zl⟩:=P9.o.e2;have bad:∀v:World,v=(w7.setCell ⟨w.heap.size+1,0,none⟩ (.slice none 0 0)).setCell ⟨w.heap.size+1,1,none⟩ (.slice none 0 0)->aTz x ps w (.returned (.tuple #[.agg #[.slice none 0 0,.slice none 0 0],.int .i64 2])) v:=fun v e=>by
  subst e;exact⟨(hO.o.setCell (Nat.le_succ _) _).setCell (Nat.le_succ _) _,.inl ⟨2,by decide,rfl⟩⟩
 have GP:=lH bad;clear bad;rcases HT6.o with⟨rfl,-⟩ | ⟨rfl,IC,rD,h61,h62⟩
 ·go_wp2_with fail
  have p1:=(P9.o.set_ 0 (.slice none 0 0)).set_ 1 (.slice none 0 0);obtain⟨q0,q1⟩:=p1.a2;exact bodyPost_ret (v:=.tuple #[.agg #[.slice none 0 0,.slice none 0 0],.int .i64 2]) (by simp[results,Tryz.results22,go_sem,q0,q1]) rfl (GP.o _ rfl)
 rcases HT9.o with⟨rfl,-⟩ | ⟨rfl,QV,hr9,h91,h92⟩
 ·clear rD IC h61 h62
  (go_wp2_with fail);have p1:=(P9.o.set_ 0 (.slice none 0 0)).set_ 1 (.slice none 0 0);obtain⟨q0,q1⟩:=p1.a2;exact bodyPost_ret (v:=.tuple #[.agg #[.slice none 0 0,.slice none 0 0],.int .i64 2]) (by simp[results,Tryz.results22,go_sem,q0,q1]) rfl (GP.o _ rfl)
 obtain⟨LA,HR9,HF6,Y6⟩:=iK (rD.bm H57.o) hr9 IC QV;clear rD hr9 IC QV HT6 HT9 GP
 go_wp2_with fail
 have k1:=P9.o.set_ 0 (.slice A6 n6 c6);have p1:=k1.set_ 1 (.slice A9 n9 c9);obtain⟨q0,q1⟩:=p1.a2;have a6:=(LA.o.keepN (i:=0) (u:=.slice A6 n6 c6) P9.o GU rfl).keepN (i:=1) (u:=.slice A9 n9 c9) k1 GU rfl;have a9:=(HR9.o.keepN (i:=0) (u:=.slice A6 n6 c6) P9.o GU rfl).keepN (i:=1) (u:=.slice A9 n9 c9) k1 GU rfl;exact bodyPost_ret (v:=.tuple #[.agg #[.slice A6 n6 c6,.slice A9 n9 c9],.int .i64 0]) (by simp[results,Tryz.results22,go_sem,q0,q1]) rfl ⟨(hO.o.setCell (Nat.le_succ _) _).setCell (Nat.le_succ _) _,.inr ⟨⟨z7.o,HLN.o,HRG.o,mE.o,HF6.o,Y6.o⟩,_,_,_,_,_,_,rfl,⟨a6,h61,h62⟩,a9,h91,h92⟩⟩
end
section
section
variable {x:bO}
def J8(x:bO)(j:Nat):List Br->Rat
 | []=>0
 | b::r=>two (aD x b.fr) (aD x b.to) j*eS b+J8 x j r
theorem ift(a j:Nat)(t:Rat):(if a=j then t else 0)=(if j=a then 1 else 0)*t:=by
 by_cases h:a=j
 ·rw[if_pos h,if_pos h.symm,Rat.one_mul]
 ·rw[if_neg h,if_neg fun e=>h e.symm,Rat.zero_mul]
theorem TA(al:List Rat)(j:Nat):∀bs:List Br,EQ x al j bs=CW x (vf al) j bs+J8 x j bs
 | []=>(Rat.add_zero 0).symm
 | b::r=>by
  show((if aD x b.fr=j then rX x al b else 0)+-(if aD x b.to=j then rX x al b else 0))+EQ x al j r=(cP b*(two (aD x b.fr) (aD x b.to) j*(vf al (aD x b.fr)-vf al (aD x b.to)))+CW x (vf al) j r)+(two (aD x b.fr) (aD x b.to) j*eS b+J8 x j r);rw[TA al j r];unfold rX two;rw[ift (aD x b.fr) j,ift (aD x b.to) j];generalize (if j=aD x b.fr then(1:Rat) else 0)=p;generalize (if j=aD x b.to then(1:Rat) else 0)=q;grind
theorem TU(j:Nat):∀l m:List Br,J8 x j (l++m)=J8 x j l+J8 x j m
 | [],m=>(Rat.zero_add _).symm
 | b::r,m=>by
  show two (aD x b.fr) (aD x b.to) j*eS b+J8 x j (r++m)=two (aD x b.fr) (aD x b.to) j*eS b+J8 x j r+J8 x j m;rw[TU j r m];grind
theorem aFi(ok:bJ x){qs:List Rat}(hl:qs.length=aH x)(j:Nat):∀k:Nat,k<=x.brs.length->vf (mG x qs k) j=vf qs j-J8 x j (x.brs.take k)
 | 0,_=>by
  rw[CD,List.take_zero];show _=vf qs j-0;grind
 | k+1,h=>by
  obtain⟨b,hb⟩:∃b,x.brs[k]?=some b:=eA (by omega);have zD:=ok.br b (bV hb);have h1:=CF (x:=x) (qs:=qs) k (by omega);have hu:=(bG ok zD.1).2.1;have hv:=(bG ok zD.2.1).2.1;have ih:=aFi ok hl j k (by omega);rw[CE hb];unfold W4;rw[tZ (by rw[CG,h1,hl];exact hv)];unfold EK;rw[tZ (by rw[h1,hl];exact hu),tZ (by rw[h1,hl];exact hu),fE hb,TU];show _=vf qs j-(J8 x j (x.brs.take k)+(two (aD x b.fr) (aD x b.to) j*eS b+0));unfold two;by_cases h2:j=aD x b.to
  ·by_cases h3:j=aD x b.fr
   ·have h4:aD x b.to=aD x b.fr:=h2.symm.trans h3
    rw[if_pos h2,if_pos h4,if_pos h3,<-h3,ih];simp only[<-h2,if_true];grind
   ·have h4:¬aD x b.to=aD x b.fr:=fun e=>h3 (h2.trans e)
    rw[if_pos h2,if_neg h4,if_neg h3,<-h2,ih];simp only[if_true];grind
  ·by_cases h3:j=aD x b.fr
   ·rw[if_neg h2,if_pos h3,<-h3,ih]
    simp only[if_true,h2,if_false];grind
   ·rw[if_neg h2,if_neg h3,ih]
    simp only[h2,h3,if_false];grind
theorem aEg(ok:bJ x){lf:List Rat}(hi:i<(aA x).length):vO x lf i=nV (o5 x) (vf (rG x lf)) i:=by
 unfold vO nV;rw[sA ok,<-OW ok];have hh:((yZ x).getD i []).length=(aA x).length:=by
  have h:=(wW ok);rw[dN,iB (by rw[h.1];exact hi)];exact h.2 _ (List.getElem_mem _)
 exact qX hh (by unfold rG;rw[jO])
theorem NS{E F:Nat->Rat}(ok:bJ x)(h:∀u,u<aH x->E u=F u):∀bs:List Br,(∀b∈bs,b∈x.brs)->CW x E j bs=CW x F j bs
 | [],_=>rfl
 | b::r,hb=>by
  have zD:=ok.br b (hb b List.mem_cons_self);unfold CW;rw[NS ok h r (fun a ha=>hb a (List.mem_cons_of_mem _ ha)),h _ (bG ok zD.1).2.1,h _ (bG ok zD.2.1).2.1]
theorem aIR{lf:List Rat}{u:Nat}(hu:u<aH x):vf (OH x lf) u=vV (aA x) (vO x lf) u:=by
 unfold OH;rw[Z7 hu];unfold ext;cases hf:dX (eJ x) u with
 | false=>rw[R7 _ hf];rfl
 | true=>exact(T7 (vO x lf) (rO hf hu)).symm
theorem aFp(ok:bJ x){qs:List Rat}(hl:qs.length=aH x){r f:Nat}(hr:(aA x)[r]?=some f):EQ x (OH x (mG x qs x.brs.length)) f x.brs=vf qs f:=by
 have w_:=(dH.1 hr).1;rw[TA,NS ok (fun u hu=>aIR hu) x.brs (fun b hb=>hb),<-aAO ok _ hr];obtain⟨a,ha⟩:∃a,(o5 x)[r]?=some a:=eA (by rw[sA ok];exact w_);have h1:=O2 (II ok) (aAN ok) (vf (rG x (mG x qs x.brs.length))) ha;rw[sA ok] at h1;have h2:aP (aA x).length (vf ((o5 x).getD r [])) (vO x (mG x qs x.brs.length))=vf (rG x (mG x qs x.brs.length)) r:=by
  rw[dN,ha,<-h1];unfold aP;exact aL fun i hi=>by rw[aEg ok hi];rfl
 have h3:vf (rG x (mG x qs x.brs.length)) r=vf (mG x qs x.brs.length) f:=fW (by unfold rG;rw[iY,hr];rfl);rw[h2,h3,aFi ok hl f _ lR,nL lR];grind
def wI(x:bO)(k:Int)(j:Nat):Rat:=if(qR x).getD j 0=k then 1 else 0
theorem SJ(ok:bJ x)(al:List Rat)(k:Int):∀bs:List Br,(∀b∈bs,b∈x.brs)->aN (aH x) (fun j=>wI x k j*EQ x al j bs)=0
 | [],_=>cX fun j _=>Rat.mul_zero _
 | b::r,hb=>by
  have FU:=hb b List.mem_cons_self;have zD:=ok.br b FU;have hu:=(bG ok zD.1).2.1;have hv:=(bG ok zD.2.1).2.1;have he:wI x k (aD x b.fr)=wI x k (aD x b.to):=by
   unfold wI;have h:=(V_ (AN ok).1).1 (aD x b.fr,aD x b.to) (List.mem_map.2 ⟨b,FU,rfl⟩);have h':(qR x).getD (aD x b.fr) 0=(qR x).getD (aD x b.to) 0:=h;rw[h']
  have h1:=SJ ok al k r fun a ha=>hb a (List.mem_cons_of_mem _ ha);have h2:=ZI hu hv (wI x k);have h3:aN (aH x) (fun j=>rX x al b*(two (aD x b.fr) (aD x b.to) j*wI x k j))=0:=by
   rw[bL,h2,he];grind
  have h4:aN (aH x) (fun j=>wI x k j*EQ x al j (b::r))=aN (aH x) (fun j=>rX x al b*(two (aD x b.fr) (aD x b.to) j*wI x k j)+wI x k j*EQ x al j r):=aL fun j _=>by
   show wI x k j*(((if aD x b.fr=j then rX x al b else 0)+-(if aD x b.to=j then rX x al b else 0))+EQ x al j r)=_;rw[ift (aD x b.fr) j,ift (aD x b.to) j];unfold two;generalize (if j=aD x b.fr then(1:Rat) else 0)=p;generalize (if j=aD x b.to then(1:Rat) else 0)=q;grind
  rw[h4,cK,h3,h1,Rat.add_zero]
theorem SK(ok:bJ x)(hl:ps.length<=x.nodes.length)(k:Int):∀i:Nat,i<=ps.length->aN (aH x) (fun j=>wI x k j*((lY x ps i j:Int):Rat))=((qP x ps i k:Int):Rat)
 | 0,_=>cX fun j _=>Rat.mul_zero _
 | i+1,h=>by
  have ih:=SK ok hl k i (by omega);obtain⟨q,hq⟩:∃q,ps.getD i 0=q:=⟨_,rfl⟩;have QY:fV x i<aH x:=(IG ok (by omega)).2;have e:aN (aH x) (fun j=>wI x k j*((lY x ps (i+1) j:Int):Rat))=aN (aH x) (fun j=>wI x k j*((lY x ps i j:Int):Rat)+wI x k j*(if fV x i=j then((q:Int):Rat) else 0)):=aL fun j _=>by
   show wI x k j*((lY x ps i j+(if fV x i=j then ps.getD i 0 else 0):Int):Rat)=_;rw[hq,<-Rat.mul_add];congr 1
   by_cases h2:fV x i=j
   ·rw[if_pos h2,if_pos h2,Rat.intCast_add]
   ·rw[if_neg h2,if_neg h2,Int.add_zero,Rat.add_zero]
  rw[e,cK,ih,dQ (k:=fV x i) QY (fun j _ bX=>by rw[if_neg (fun e=>bX e.symm),Rat.mul_zero]),if_pos rfl];show _=((qP x ps i k+(if sE x i=k then ps.getD i 0 else 0):Int):Rat);rw[hq,Rat.intCast_add];congr 1
  show(if sE x i=k then(1:Rat) else 0)*_=_;by_cases h2:sE x i=k
  ·rw[if_pos h2,if_pos h2,Rat.one_mul]
  ·rw[if_neg h2,if_neg h2,Rat.zero_mul];rfl
theorem aGs(hi:dX (eJ x) i=false)(hj:dX (eJ x) j=false)(h:(eJ x).getD i 0=(eJ x).getD j 0):i=j:=by
 have key:∀a b:Nat,dX (eJ x) b=false->(eJ x).getD a 0=(eJ x).getD b 0->¬a<b:=fun a b hb jA aU=>by
  unfold dX aJg at hb;rw[Bool.not_not] at hb;have:=List.any_eq_false.1 hb a (List.mem_range.2 aU);unfold OI at this;rw[jA] at this;simp at this
 have h1:=key i j hj h;have h2:=key j i hi h.symm;omega
theorem kcl(F:N3 x ps)(hj:j<aH x):EQ x (jB x ps) j x.brs=((lY x ps ps.length j:Int):Rat):=by
 have ok:=lW F.ck;have aLX:∀i,i<aH x->dX (eJ x) i=true->EQ x (jB x ps) i x.brs=((lY x ps ps.length i:Int):Rat):=fun i hi hf=>by
  rw[<-aJs hi];exact aFp ok wX (rO hf hi)
 cases hf:dX (eJ x) j with
 | true=>exact aLX j hj hf
 | false=>
  have h1:=SJ ok (jB x ps) ((qR x).getD j 0) x.brs fun b hb=>hb;have h2:=SK ok (ps:=ps) (Nat.le_of_eq F.len) ((qR x).getD j 0) ps.length lR;rw[F.bal] at h2;have h3:=DV (fun i=>wI x ((qR x).getD j 0) i*EQ x (jB x ps) i x.brs) (fun i=>wI x ((qR x).getD j 0) i*((lY x ps ps.length i:Int):Rat)) (aH x);rw[h1,h2,dQ hj (fun i hi bX=>by
   unfold wI;split
   ·rename_i he
    cases hfi:dX (eJ x) i with
    | true=>rw[aLX i hi hfi];grind
    | false=>exact absurd (aGs hfi hf ((aNC ok i j).1 he)) bX
   ·grind)] at h3
  unfold wI at h3;rw[if_pos rfl] at h3;have h4:((0:Int):Rat)=0:=rfl;rw[h4] at h3;grind
theorem NR{nodes:List ByteArray}:∀(l:List Br)(seen:List ByteArray),(bF (TG nodes) Br.name seen l).1=0->(l.map Br.name).Nodup/\∀a∈l,a.name∉seen
 | [],seen,_=>⟨List.nodup_nil,fun a h=>by cases h⟩
 | y::r,seen,h=>by
  unfold bF at h;split at h
  ·rename_i h0;exact absurd h h0
  ·rename_i h0
   have h0':=Decidable.not_not.1 h0;unfold TG at h0';split at h0'
   ·rename_i h3;exact absurd h0' h3
   ·rename_i h3
    have hd:=(uQ (Decidable.not_not.1 h3)).2.2.2;have hy:y.name∉seen:=fun hm=>hd (List.any_eq_true.2 ⟨y.name,hm,pM.2 rfl⟩);obtain⟨h1,h2⟩:=NR r (y.name::seen) h;refine⟨List.nodup_cons.2 ⟨fun hm=>?_,h1⟩,fun a ha=>?_⟩
    ·obtain⟨z,hz,hze⟩:=List.mem_map.1 hm
     exact h2 z hz (by rw[hze];exact List.mem_cons_self)
    ·rcases List.mem_cons.1 ha with e | e
     ·rw[e];exact hy
     ·exact fun hm=>h2 a e (List.mem_cons_of_mem _ hm)
theorem aCQ(h:b_ x=0):(x.brs.map Br.name).Nodup:=by
 unfold b_ at h;split at h
 ·omega
 ·unfold ck0 at h
  split at h
  ·rename_i h0;exact absurd h h0
  ·unfold ck1 at h
   split at h
   ·rename_i h0;exact absurd h h0
   ·unfold ck2 at h
    split at h
    ·rename_i h0;exact absurd h h0
    ·rename_i h0
     exact(NR _ _ (Decidable.not_not.1 h0)).1
def xE(s:ByteArray):Mi:=⟨0,s,⟨#[48]⟩,1⟩
theorem T5(h:b_ x=0){b:Br}(hb:x.brs[i]?=some b):lL x b.name=(i:Int):=by
 rcases oE x b.name with⟨h1,h2⟩ | ⟨k,c,h1,h2,h3⟩
 ·exact absurd rfl (h2 b (bV hb))
 ·rw[h1]
  have e1:(x.brs.map Br.name)[k]?=some b.name:=by rw[iY,h2,<-h3];rfl
  have e2:(x.brs.map Br.name)[i]?=some b.name:=by rw[iY,hb];rfl
  have:=(List.getElem?_inj (dH.1 e1).1 (aCQ h)).1 (e1.trans e2.symm);rw[this]
theorem aBW(h:b_ x=0){al:List Rat}(h2:al.length=aH x){b:Br}(hb:x.brs[i]?=some b):mU x al (xE b.name)=cP b*(vf al (aD x b.fr)-vf al (aD x b.to))+eS b:=by
 have ok:=lW h;have zD:=ok.br b (bV hb);have hu:=(bG ok zD.1).2.1;have hv:=(bG ok zD.2.1).2.1;have e:aS x (xE b.name)=(lP (sg false (cP b)) (aD x b.fr) (aD x b.to) (jN (aH x)),0+sg false (eS b)):=by
  unfold aS;rw[if_pos (show(xE b.name).kind=0 from rfl),show(xE b.name).name=b.name from rfl,T5 h hb,(iM x).1,(iM x).2,jF];have e1:vf (mB x) i=cP b:=fW (by unfold mB;rw[iY,hb];rfl);have e2:vf (mC x) i=eS b:=fW (by unfold mC;rw[iY,hb];rfl);rw[e1,e2,dN,dN,iY,iY,hb];rfl
 show yT al (aS x (xE b.name))=_;rw[e];have:=IT (al:=al) (q:=jN (aH x)) (z:=0) (b:=sg false (cP b)) (c:=sg false (eS b)) (u:=aD x b.fr) (v:=aD x b.to) (n:=aH x) (by simp[jN]) h2 hu hv;rw[this,ZC h2,Rat.zero_add];rfl
theorem XY(h:b_ x=0){al:List Rat}(h2:al.length=aH x):(x.brs.map fun b=>xE b.name).map (mU x al)=gS x al:=by
 unfold gS;rw[List.map_map];refine List.map_congr_left fun b hb=>?_;obtain⟨i,hi⟩:=List.mem_iff_getElem?.1 hb;exact aBW h h2 hi
theorem aGv(h:b_ x=0)(h10:x.brs.length<=10):dJ x (x.brs.map fun b=>xE b.name)=0:=SB h (by rw[jO];omega) fun m hm=>by
 obtain⟨b,hb,rfl⟩:=List.mem_map.1 hm;obtain⟨i,hi⟩:=List.mem_iff_getElem?.1 hb;have h1:=T5 h hi;have h0:¬((xE b.name).kind=0/\lL x (xE b.name).name<0\/(xE b.name).kind≠0/\(x.nodes.any fun y=>pH (xE b.name).name y)=false):=by
  rintro(⟨_,h⟩ | ⟨h,_⟩)
  ·rw[show(xE b.name).name=b.name from rfl,h1] at h;omega
  ·exact h rfl
 unfold CB;rw[if_neg (by show ¬((0:Int)<0\/(2:Int)<0);decide),if_neg h0,if_neg (by show ¬cI (⟨#[48]⟩:ByteArray).data.toList≠0;decide+kernel),if_neg (by show ¬((1:Int)<1\/(1000:Int)<1);decide)]
theorem aND(h:b_ x=0){s:ByteArray}(hs:s∈x.nodes):dJ x [JP s]=0:=SB h (by show 1<=64;decide) fun m hm=>by
 rw[List.mem_singleton.1 hm];have h0:¬((JP s).kind=0/\lL x (JP s).name<0\/(JP s).kind≠0/\(x.nodes.any fun y=>pH (JP s).name y)=false):=by
  rintro(⟨h,_⟩ | ⟨_,h⟩)
  ·exact absurd h (show ¬((1:Int)=0) by decide)
  ·have:(x.nodes.any fun y=>pH s y)=true:=List.any_eq_true.2 ⟨s,hs,pM.2 rfl⟩
   rw[show(JP s).name=s from rfl,this] at h;cases h
 unfold CB;rw[if_neg (by show ¬((1:Int)<0\/(2:Int)<1);decide),if_neg h0,if_neg (by show ¬cI (⟨#[48]⟩:ByteArray).data.toList≠0;decide+kernel),if_neg (by show ¬((1:Int)<1\/(1000:Int)<1);decide)]
theorem aFq(F:N3 x ps){s:ByteArray}(hs:x.nodes[i]?=some s):mU x (jB x ps) (JP s)=((lY x ps ps.length (fV x i):Int):Rat):=by
 have ok:=lW F.ck;rw[aE_ ok (al:=jB x ps) wO (m:=JP s) rfl,<-kcl F (IG ok (dH.1 hs).1).2,<-aKp F.ck hs];rfl
end
end
section
open Go.ChangeShapes Go.WideShapes Go.ChangeAt Go.RowKit
attribute [local go_sem ↓] aE
attribute [local go_sem] aJ aI aM aR
theorem aNj(w:Wo)(B:Nat):xL w B none 0 []:=⟨rfl,⟨rfl,fun h=>absurd h (by decide)⟩,fun v hv=>by cases hv⟩
def aZh(x:bO)(w:Wo)(e:Ending)(w':Wo):Prop:=Below w.heap.size w w'/\∃g1 g2:Nat,e=.returned (.tuple #[.agg #[.slice (some ⟨g1,0,none⟩) x.nodes.length x.nodes.length,.slice (some ⟨g2,0,none⟩) (aH x) (aH x)],.int .i64 0])/\w.heap.size<=g1/\w.heap.size<=g2/\aG w' g1 3 (ints (iX x)).toArray/\aG w' g2 3 (ints (qR x)).toArray
theorem aBh(h:bY)(x:bO)(w:Wo)(r:cQ w w.heap.size h x)(hk:b_ x=0):Calls Tryz.prog 23 #[.agg h.cells] w (aZh x w):=by
 have K0:Below w.heap.size w ((w.alloc (.cells h.cells 29)).alloc (.cells #[.slice none 0 0,.slice none 0 0] 50)):=(bA).alloc (by simp) _;have HK:=lH K0;have P0:Hid (aG ((w.alloc (.cells h.cells 29)).alloc (.cells #[.slice none 0 0,.slice none 0 0] 50)) w.heap.size 29 h.cells):=lH ((aG.new w 29 h.cells).alloc _);have P1:Hid (aG ((w.alloc (.cells h.cells 29)).alloc (.cells #[.slice none 0 0,.slice none 0 0] 50)) (w.heap.size+1) 50 #[.slice none 0 0,.slice none 0 0]):=lH (aG.new_ (by simp));have HX:=lH (r.up K0);have z7:=lH (tM h x ((w.alloc (.cells h.cells 29)).alloc (.cells #[.slice none 0 0,.slice none 0 0] 50)) HX.o);rw[hk] at z7;have bU:=lH (lW hk);clear K0 r;obtain⟨D0,r0,s0,D1,r1,s1,D2,r2,s2,D3,r3,s3,D4,r4,s4,D5,r5,s5⟩:=h;obtain⟨y0,y1,y2,y3,y4,y5,nf,nlt⟩:=aW P0.o;dsimp only at y0 y1 y2 y3 y4 y5;go_enter Tryz.func23,Tryz.ntmps23
 go_wp2_with fail
 have dZ:Hid (((w.alloc (.cells (bY.cells ⟨D0,r0,s0,D1,r1,s1,D2,r2,s2,D3,r3,s3,D4,r4,s4,D5,r5,s5⟩) 29)).alloc (.cells #[.slice none 0 0,.slice none 0 0] 50)).heap.size=w.heap.size+1+1):=lH (by simp);have HN0:Hid (x.nodes.length=r0):=lH HX.o.r0.1;generalize (w.alloc (.cells (bY.cells ⟨D0,r0,s0,D1,r1,s1,D2,r2,s2,D3,r3,s3,D4,r4,s4,D5,r5,s5⟩) 29)).alloc (.cells #[.slice none 0 0,.slice none 0 0] 50)=W at *;refine z7.o.mono ?_;rintro e w1 ⟨rfl,bC⟩;have bT:=lH bC;clear bC y0 y1 y2 y3 y4 y5 nf nlt z7;have Q0:=P0.o.bl bT.o;obtain⟨y0,y1,y2,y3,y4,y5,nf,nlt⟩:=aW Q0;dsimp only at y0 y1 y2 y3 y4 y5;clear Q0
 go_wp2_with fail
 refine(PI _ x bU.o w1 (HX.o.up bT.o)).mono ?_;rintro e w2 ⟨bH,g1,g2,rfl,LP,lO,FR,rV⟩;have cH:=bW bT bH;obtain⟨Q1,H1,H2⟩:=d_ (P1.o.bl cH.o) FR rV;have sM:Hid (w.heap.size+1+1<=g1):=lH (by have:=bT.o.size;have:=dZ.o;omega);have iJ:Hid (w.heap.size+1+1<=g2):=lH (by have:=bT.o.size;have:=dZ.o;omega);clear bH LP lO FR rV y0 y1 y2 y3 y4 y5 nf nlt;obtain⟨z0,z1,zf,zl⟩:=Q1.out.e2
 go_wp2_with fail
 clear z0 z1 zl zf;have B0:=Q1.out.set_at (i:=0) (cs':=#[.slice (some ⟨g1,0,none⟩) r0 r0,.slice none 0 0]) (.slice (some ⟨g1,0,none⟩) r0 r0) (by simp);have B1:=B0.set_at (i:=1) (cs':=#[.slice (some ⟨g1,0,none⟩) r0 r0,.slice (some ⟨g2,0,none⟩) (aH x) (aH x)]) (.slice (some ⟨g2,0,none⟩) (aH x) (aH x)) (by simp);obtain⟨p0,p1⟩:=B1.a2;refine bodyPost_ret (v:=.tuple #[.agg #[.slice (some ⟨g1,0,none⟩) r0 r0,.slice (some ⟨g2,0,none⟩) (aH x) (aH x)],.int .i64 0]) (by simp[results,Tryz.results23,go_sem,p0,p1]) rfl ?_;refine⟨HK.o.trans (((cH.o.mono (by have:=dZ.o;omega)).setCell (Nat.le_succ _) _).setCell (Nat.le_succ _) _),g1,g2,by rw[HN0.o],by have:=sM.o;omega,by have:=iJ.o;omega,?_,?_⟩
 ·exact(H1.o.far (show g1≠w.heap.size+1 by have:=sM.o;omega) _).far (show g1≠w.heap.size+1 by have:=sM.o;omega) _
 ·exact(H2.o.far (show g2≠w.heap.size+1 by have:=iJ.o;omega) _).far (show g2≠w.heap.size+1 by have:=iJ.o;omega) _
theorem aBg(h:bY)(x:bO)(w:Wo)(r:cQ w w.heap.size h x)(hk:b_ x≠0):Calls Tryz.prog 23 #[.agg h.cells] w fun e w'=>e=.returned (.tuple #[.agg #[.slice none 0 0,.slice none 0 0],.int .i64 (b_ x)])/\Below w.heap.size w w':=by
 have K0:Below w.heap.size w ((w.alloc (.cells h.cells 29)).alloc (.cells #[.slice none 0 0,.slice none 0 0] 50)):=(bA).alloc (by simp) _;have HK:=lH K0;have P0:Hid (aG ((w.alloc (.cells h.cells 29)).alloc (.cells #[.slice none 0 0,.slice none 0 0] 50)) w.heap.size 29 h.cells):=lH ((aG.new w 29 h.cells).alloc _);have P1:Hid (aG ((w.alloc (.cells h.cells 29)).alloc (.cells #[.slice none 0 0,.slice none 0 0] 50)) (w.heap.size+1) 50 #[.slice none 0 0,.slice none 0 0]):=lH (aG.new_ (by simp));have HX:=lH (r.up K0);have z7:=lH (tM h x ((w.alloc (.cells h.cells 29)).alloc (.cells #[.slice none 0 0,.slice none 0 0] 50)) HX.o);have aOy:(b_ x != 0)=true:=by simp[hk]
 generalize b_ x=ck at *;clear K0 r;obtain⟨D0,r0,s0,D1,r1,s1,D2,r2,s2,D3,r3,s3,D4,r4,s4,D5,r5,s5⟩:=h;obtain⟨y0,y1,y2,y3,y4,y5,nf,nlt⟩:=aW P0.o;dsimp only at y0 y1 y2 y3 y4 y5;go_enter Tryz.func23,Tryz.ntmps23
 go_wp2_with fail
 have dZ:Hid (((w.alloc (.cells (bY.cells ⟨D0,r0,s0,D1,r1,s1,D2,r2,s2,D3,r3,s3,D4,r4,s4,D5,r5,s5⟩) 29)).alloc (.cells #[.slice none 0 0,.slice none 0 0] 50)).heap.size=w.heap.size+1+1):=lH (by simp);generalize (w.alloc (.cells (bY.cells ⟨D0,r0,s0,D1,r1,s1,D2,r2,s2,D3,r3,s3,D4,r4,s4,D5,r5,s5⟩) 29)).alloc (.cells #[.slice none 0 0,.slice none 0 0] 50)=W at *;refine z7.o.mono ?_;rintro e w1 ⟨rfl,bC⟩;have bT:=lH bC;have Q1:=lH (P1.o.bl bC);clear bC y0 y1 y2 y3 y4 y5 nf nlt z7;obtain⟨z0,z1,zf,zl⟩:=Q1.out.e2
 go_wp2_with fail
 clear z0 z1 zl zf;have B0:=Q1.out.set_at (i:=0) (cs':=#[.slice none 0 0,.slice none 0 0]) (.slice none 0 0) (by simp);have B1:=B0.set_at (i:=1) (cs':=#[.slice none 0 0,.slice none 0 0]) (.slice none 0 0) (by simp);obtain⟨p0,p1⟩:=B1.a2;refine bodyPost_ret (v:=.tuple #[.agg #[.slice none 0 0,.slice none 0 0],.int .i64 ck]) (by simp[results,Tryz.results23,go_sem,p0,p1]) rfl ?_;exact⟨rfl,HK.o.trans (((bT.o.mono (by have:=dZ.o;omega)).setCell (Nat.le_succ _) _).setCell (Nat.le_succ _) _)⟩
theorem aBI(k d:Int)(w:Wo)(h0:-9223372036854775808<=k)(h1:k<=9223372036854775807)(h2:-9223372036854775808<=d)(h3:d<=9223372036854775807)(hd:d≠0)(ht:dM w):Calls Tryz.prog 65 #[.int .i64 k,.int .i64 d] w (RnP (Rat.divInt k d) w):=by
 have HT:=lH ht;have HC:=lH (aAt k d w h0 h1 h2 h3 hd);have hB:(d == 0)=false:=by simp[hd]
 clear ht h0 h1 h2 h3;go_enter Tryz.func65,Tryz.ntmps65
 go_wp2_with fail
 refine HC.o.mono ?_;rintro e w1 ⟨bC,u,rfl,hu⟩;obtain⟨bT,HU,zM⟩:=d_ bC hu (HT.o.up bC);clear bC hu HC HT
 go_wp2_with fail
 refine(FM _ u.b1 u.A u.n u.c u.b2 u.A2 u.m u.d w1 HU.o zM.o).mono ?_;rintro e w2 ⟨bH,hy,hn⟩;have cH:=bW bT bH;clear bH bT HU zM;by_cases hf:bP (Rat.divInt k d)
 ·have he:=hy hf
  have FA:=lH hf;subst he;clear hy hn hf;(go_wp2_with fail);go_ret2;exact⟨cH.o,fun _=>rfl,fun h=>absurd FA.o h⟩
 ·have he:=hn hf
  have FA:=lH hf;subst he;clear hy hn hf;(go_wp2_with fail);go_ret2;exact⟨cH.o,fun h=>absurd h FA.o,fun _=>rfl⟩
theorem aEM(k d:Int)(w:Wo)(h0:-9223372036854775808<=k)(h1:k<=9223372036854775807)(h2:-9223372036854775808<=d)(h3:d<=9223372036854775807)(hd:d≠0)(ht:dM w):Calls Tryz.prog 26 #[.int .i64 k,.int .i64 d] w (fun e w'=>e=.returned (.string (rnS (Rat.divInt k d)))/\Below w.heap.size w w'):=by
 have HC:=lH (aBI k d w h0 h1 h2 h3 hd ht);clear ht h0 h1 h2 h3;go_enter Tryz.func26,Tryz.ntmps26
 go_wp2_with fail
 refine HC.o.mono ?_;intro e w1 h;obtain⟨rfl,hb⟩:=h.out;clear h HC;have HB:=lH hb;clear hb;generalize hs:rnS (Rat.divInt k d)=s;have HS:=lH hs;clear hs;generalize rnE (Rat.divInt k d)=z
 go_wp2_with fail
 go_ret;exact⟨by rw[HS.o];rfl,HB.o⟩
theorem aBu{ms:List Mi}{v:List Vc}(h:kG x ms v=true):x.nodes.length<=8/\x.brs.length<=10:=by
 unfold kG at h;simp only[Bool.and_eq_true,decide_eq_true_eq,List.all_eq_true] at h;exact⟨h.1.1.1,h.1.1.2⟩
theorem TD(F:N3 x ps){ms:List Mi}(hc:dJ x ms=0):iZ x ms ((jB x ps).map bN)=0/\eT x ms ((jB x ps).map bN)=ms.map (mU x (jB x ps)):=by
 have hb:((jB x ps).map bN).map gC=jB x ps:=by
  rw[List.map_map];exact(List.map_congr_left fun q hq=>(cV (F.fa q hq)).2).trans (List.map_id _)
 refine⟨?_,by unfold eT;rw[hb]⟩;unfold iZ;rw[if_neg (fun h=>h hc)];unfold YF;rw[if_neg (fun h=>h (by rw[jO];exact wO))];exact oD.2 fun s hs=>by
  obtain⟨q,hq,rfl⟩:=List.mem_map.1 hs;exact(cV (F.fa q hq)).1
theorem aOI{z:Int}(h0:-900000<=z)(h1:z<=900000):bP ((z:Int):Rat):=Tn.fits (k:=7) ⟨by rw[Rat.num_intCast];omega,by rw[Rat.den_intCast];decide⟩ (by decide)
theorem aCO{p:Int}(hp:ps[i]?=some p):lY x ps (i+1) j=lY x ps i j+if fV x i=j then p else 0:=by
 show lY x ps i j+(if fV x i=j then ps.getD i 0 else 0)=_;rw[dN,hp];rfl
theorem aNv(h:bY)(x:bO)(I:OA)(ni ci:Nat)(ps:List Int)(w:Wo)(r:cQ w w.heap.size h x)(hp:o_ w w.heap.size I ni ps)(hni:ni<=9223372036854775807)(ht:dM w):Calls Tryz.prog 5 #[.agg h.cells,.slice I ni ci] w fun e w'=>e=.returned (.bool true)/\Below w.heap.size w w':=by
 have K0:=jT w (.cells h.cells 29);obtain⟨HK,P0,HX,HI,HT⟩:=kN K0 (aG.new w 29 h.cells) (r.up K0) (hp.bm K0) (ht.up K0);have HIL:Hid (ps.length=ni):=lH hp.len;have dZ:Hid (w.heap.size<=(w.alloc (.cells h.cells 29)).heap.size):=lH K0.size;clear K0 r ht hp;obtain⟨D0,r0,s0,D1,r1,s1,D2,r2,s2,D3,r3,s3,D4,r4,s4,D5,r5,s5⟩:=h;go_enter Tryz.func5,Tryz.ntmps5
 go_wp2_with fail
 generalize w.alloc (.cells (bY.cells ⟨D0,r0,s0,D1,r1,s1,D2,r2,s2,D3,r3,s3,D4,r4,s4,D5,r5,s5⟩) 29)=W at *;refine(uD W HT.o).mono ?_;rintro e w1 ⟨rfl,bC⟩;have bT:=lH (HK.o.trans (bC.mono dZ.o));replace HX:=lH (HX.o.up bC);replace HI:=lH (HI.o.bm bC);replace P0:=lH (P0.o.bl bC);replace HT:=lH (HT.o.up bC);clear bC HK dZ;have PNX:=P0.o;obtain⟨y0,y1,y2,y3,y4,y5,nf,nlt⟩:=aW PNX;dsimp only at y0 y1 y2 y3 y4 y5;clear PNX
 go_wp2_with fail
 clear y0 y1 y2 y3 y4 y5 nf nlt;refine(MB _ x none 0 0 [] none 0 0 [] w1 HX.o ⟨rfl,rfl,fun h=>absurd h (by decide)⟩ (aNj _ _) (by decide) (by decide)).mono ?_;rintro e w2 ⟨rfl,bH⟩;have cH:=bW bT bH;replace HX:=lH (HX.o.up bH);replace HI:=lH (HI.o.bm bH);replace P0:=lH (P0.o.bl bH);replace HT:=lH (HT.o.up bH);clear bH bT;cases hsm:kG x [] [] with
 | false=>
  (go_wp2_with fail);go_ret;exact⟨rfl,cH.o⟩
 | true=>
  obtain⟨h8,h10⟩:=aBu hsm;have H10:=lH h10;clear hsm h10;have PNX:=P0.o;obtain⟨y0,y1,y2,y3,y4,y5,nf,nlt⟩:=aW PNX;dsimp only at y0 y1 y2 y3 y4 y5;clear PNX;(go_wp2_with fail);clear y0 y1 y2 y3 y4 y5 nf nlt;refine(aBr _ x h8 I ni ci ps w2 HX.o HI.o hni HT.o).mono ?_;rintro e w3 ⟨cN,iO⟩;obtain⟨A1,n1,c1,B1,m1,d1,z1,rfl,h1⟩:∃A1 n1 c1 B1 m1 d1 z1,e=.returned (.tuple #[.agg #[.slice A1 n1 c1,.slice B1 m1 d1],.int .i64 z1])/\(z1=0->N3 x ps/\(aY w3 w3.heap.size A1 n1 ((jB x ps).map bN)/\n1<=c1/\c1<=maxLen)/\aY w3 w3.heap.size B1 m1 ((gS x (jB x ps)).map bN)/\m1<=d1/\d1<=maxLen):=by
   rcases iO with⟨d,hd,rfl⟩ | ⟨hk,A,n,c,B,m,d,rfl,h1,h4⟩
   ·exact⟨_,_,_,_,_,_,_,rfl,fun h=>absurd h hd⟩
   ·exact⟨_,_,_,_,_,_,_,rfl,fun _=>⟨hk,h1,h4⟩⟩
  clear iO;have hz:=jT w3 (.cells #[.slice A1 n1 c1,.slice B1 m1 d1] 37);have eR:=cN.tm hz;have bM:=bW cH eR;have PS:=lH (aG.new w3 37 #[.slice A1 n1 c1,.slice B1 m1 d1]);have H1:Hid (z1=0->N3 x ps/\(aY (w3.alloc (.cells #[.slice A1 n1 c1,.slice B1 m1 d1] 37)) (w3.alloc (.cells #[.slice A1 n1 c1,.slice B1 m1 d1] 37)).heap.size A1 n1 ((jB x ps).map bN)/\n1<=c1/\c1<=maxLen)/\aY (w3.alloc (.cells #[.slice A1 n1 c1,.slice B1 m1 d1] 37)) (w3.alloc (.cells #[.slice A1 n1 c1,.slice B1 m1 d1] 37)).heap.size B1 m1 ((gS x (jB x ps)).map bN)/\m1<=d1/\d1<=maxLen):=lH fun jR=>by
   obtain⟨hk,⟨a1,a2,a3⟩,b1,b2,b3⟩:=h1 jR;exact⟨hk,⟨(a1.below hz lR).more hz.size,a2,a3⟩,(b1.below hz lR).more hz.size,b2,b3⟩
  replace HX:=lH (HX.o.up eR);replace HI:=lH (HI.o.bm eR);replace P0:=lH (P0.o.bl eR);replace HT:=lH (HT.o.up eR);clear cN hz eR h1 cH;(go_upto_region 6 with fail);generalize w3.alloc (.cells #[.slice A1 n1 c1,.slice B1 m1 d1] 37)=w4 at *;generalize w3.heap.size=gs at *;by_cases hnk:b_ x=0
  ·have HNK:=lH hnk
   have bU:=lH (lW hnk);clear hnk;have v_:Hid (x.nodes.length=r0):=lH HX.o.r0.1;have HBN:Hid (x.brs.length=r2):=lH HX.o.r2.1;have mE:Hid ((iX x).length=r0):=lH ((lF bU.o).1.trans v_.o);have hr8:r0<=8:=by rw[<-v_.o];exact h8
   have AY:r2<=10:=by rw[<-HBN.o];exact H10.o
   have PNX:=P0.o;obtain⟨y0,y1,y2,y3,y4,y5,nf,nlt⟩:=aW PNX;dsimp only at y0 y1 y2 y3 y4 y5;clear PNX;(go_wp2_with fail);clear y0 y1 y2 y3 y4 y5 nf nlt;refine(aBh _ x w4 HX.o HNK.o).mono ?_;rintro e w5 ⟨fD,g1,g2,rfl,LP,lO,FR,rV⟩;rw[v_.o];have sM:=lH FR;clear LP lO FR rV;have hz:=jT w5 (.cells #[.slice (some ⟨g1,0,none⟩) r0 r0,.slice (some ⟨g2,0,none⟩) (aH x) (aH x)] 50);have P7:=lH (aG.new w5 50 #[.slice (some ⟨g1,0,none⟩) r0 r0,.slice (some ⟨g2,0,none⟩) (aH x) (aH x)]);have hz6:=fD.tm hz;have HZ6:=lH hz6;have fL:=bW bM hz6;replace sM:=lH (sM.o.bl hz);replace PS:=lH (PS.out.bl hz6);replace HX:=lH (HX.o.up hz6);replace HI:=lH (HI.o.bm hz6);replace P0:=lH (P0.o.bl hz6);replace HT:=lH (HT.o.up hz6);clear fD hz hz6 bM;(go_upto_region 7 with fail);generalize w5.alloc (.cells #[.slice (some ⟨g1,0,none⟩) r0 r0,.slice (some ⟨g2,0,none⟩) (aH x) (aH x)] 50)=w6 at *;generalize w5.heap.size=p7 at *;by_cases jR:z1=0
   ·subst jR
    obtain⟨uK,⟨ha1,ha2,ha3⟩,bC,bH,cN⟩:=H1.o rfl;obtain⟨yP,HA,z8,HA2,HA3⟩:=kN uK (ha1.bm HZ6.o) (bC.bm HZ6.o) ha2 ha3;have cH:=lH bH;have dY:=lH cN;clear uK ha1 ha2 ha3 bC bH cN H1 HZ6;obtain⟨fm,hfm⟩:∃fm,(x.brs.map fun b=>xE b.name)=fm:=⟨_,rfl⟩;have Q6:=lH hfm;have HFN:Hid (fm.length=r2):=lH (by rw[<-hfm,jO];exact HBN.o);clear hfm;have PNX:=P0.o;obtain⟨y0,y1,y2,y3,y4,y5,nf,nlt⟩:=aW PNX;dsimp only at y0 y1 y2 y3 y4 y5;clear PNX;have aXw:¬(10:Int)<(r2:Int):=by omega
    (go_wp2_with fail);clear y0 y1 y2 y3 y4 y5 nf nlt aXw
    go_loopw [9,52] (fun v9 v52 wr=>∃(k c8:Nat)(A8:OA),k<=r2/\v52=.int .i64 k/\v9=.slice A8 k c8/\eN wr w6.heap.size (.slice A8 k c8) (fm.take k)/\Below w6.heap.size w6 wr) (fun _ v52 _=>r2-(intOf v52).toNat)
    case atStart=>exact⟨0,0,none,by omega,rfl,rfl,JG _ _,bR⟩
    case round=>
     obtain⟨k,c8,A8,hk,rfl,rfl,ho,hb⟩:=hrel;have HO:=lH ho;have HB:=lH hb;clear ho hb;by_cases aU:k<r2
     ·obtain⟨b,hs⟩:∃b,x.brs[k]?=some b:=eA (by have:=HBN.o;omega)
      have HTS:Hid (fm.take (k+1)=fm.take k++[xE b.name]):=lH (fE (by rw[<-Q6.o,iY,hs];rfl));have mY:=HX.o.r2.below HB.o lR;obtain⟨nb,no,hA,XJ⟩:=mY.form (show 0<r2 by omega);simp only at hA;subst hA;obtain⟨a0,a1,a2,a3,a4,a5,a6,a7,a8⟩:=mY.at_ hs;have hnl:nb<wr.heap.size:=jE XJ HB.o.size;have fY:(k:Int)<(r2:Int):=by omega
      have lB:=lZ k;have rJ:=jF k;have l9:=lN k;have jV:Hid (r2-(k+1)<r2-k):=lH (by omega);have sP:=lH aU;clear hs mY XJ;(go_upto_region 13 with fail);clear a0 a1 a2 a3 a4 a5 a6 a7 a8 hnl fY lB rJ;have hz:=jT wr (.cells #[.string b.name,.string b.fr,.string b.to,.int .i64 b.x,.int .i64 b.tap,.int .i64 b.shift,.int .i64 b.limit,.int .i64 b.short,.int .i64 b.hold] 54);have NZ:Hid (aG (wr.alloc (.cells #[.string b.name,.string b.fr,.string b.to,.int .i64 b.x,.int .i64 b.tap,.int .i64 b.shift,.int .i64 b.limit,.int .i64 b.short,.int .i64 b.hold] 54)) wr.heap.size 54 #[.string b.name,.string b.fr,.string b.to,.int .i64 b.x,.int .i64 b.tap,.int .i64 b.shift,.int .i64 b.limit,.int .i64 b.short,.int .i64 b.hold]):=lH (aG.new wr _ _);have GQ:=bW HB hz;replace HO:=lH (HO.o.keep hz);clear hz HB;generalize wr.alloc (.cells #[.string b.name,.string b.fr,.string b.to,.int .i64 b.x,.int .i64 b.tap,.int .i64 b.shift,.int .i64 b.limit,.int .i64 b.short,.int .i64 b.hold] 54)=wa at *;generalize wr.heap.size=gb at *;obtain⟨q0,ql⟩:=NZ.o.b1;(go_wp2_with fail);refine(jQ b.name ⟨#[48]⟩ wa).mono ?_;rintro e w8 ⟨rfl,gP⟩;replace HO:=lH (HO.o.keep gP);replace GQ:=lH (GQ.o.tm gP);clear gP q0 ql NZ;have hz:=jT w8 (.cells #[.int .i64 0,.string b.name,.string ⟨#[48]⟩,.int .i64 1] 57);have HZ:=lH hz;have HOZ:=lH (HO.o.keep hz);have HLZ:Hid (fP (w8.alloc (.cells #[.int .i64 0,.string b.name,.string ⟨#[48]⟩,.int .i64 1] 57)) (w8.alloc (.cells #[.int .i64 0,.string b.name,.string ⟨#[48]⟩,.int .i64 1] 57)).heap.size (some ⟨w8.heap.size,0,none⟩) 1 [xE b.name]):=lH (JA (m:=xE b.name) (aG.new w8 _ _));have KQ:Hid (k<=10):=lH (by omega);clear hz HO
      go_wp2_with (at_builtin;refine BE rfl (.tmp 56) (.tmp 60) _ rfl w6.heap.size Tryz.underlying31 (.slice A8 k c8) _ rfl HOZ.o (some ⟨w8.heap.size,0,none⟩) 1 1 [xE b.name] rfl HLZ.o ?k1 ?k2 (k+1) ?k3 ?_)
      case k1=>have:=HOZ.o.rd2.1.1;have:=KQ.o;omega
      case k2=>have:=GQ.o.size;have:=HZ.o.size;omega
      case k3=>rw[jW,HOZ.o.rd2.1.1];rfl
      intro Ax cx v3 ho3 cN _;have HO3:Hid (eN v3 w6.heap.size (.slice Ax (k+1) cx) (fm.take (k+1))):=lH (by rw[HTS.o];exact ho3);have dY:=lH ((GQ.o.tm HZ.o).trans cN);clear ho3 cN HOZ HLZ HZ;have aU:k<r2:=sP.o;(go_wp2_with fail);go_roundw
      case rel=>exact⟨k+1,cx,Ax,sP.o,aO l9.o,rfl,HO3.o,dY.o⟩
      case measure=>exact jV.o
     ·have nH:k=r2:=by omega
      subst nH;have fY:¬(k:Int)<(k:Int):=by omega
      have vN:=lH HO.o.rd2.1;rw[nL (Nat.le_of_eq HFN.o)] at vN;have hO:=lH (fL.o.tm HB.o);have z7:Hid (dJ x fm=0):=lH (by rw[<-Q6.o];exact aGv HNK.o H10.o);have F0:Hid (fm.map (mU x (jB x ps))=gS x (jB x ps)):=lH (by rw[<-Q6.o];exact XY HNK.o wO);have HZM:Hid (∀m∈fm,m.txt.size<=maxLen):=lH fun m hm=>by
       rw[<-Q6.o] at hm;obtain⟨i,_,rfl⟩:=List.mem_map.1 hm;show(⟨#[48]⟩:ByteArray).size<=maxLen;decide
      have HSM:Hid (∀s∈(jB x ps).map bN,s.size<=maxLen):=lH fun s hs=>by
       obtain⟨q,hq,rfl⟩:=List.mem_map.1 hs;exact qH (yP.o.fa q hq)
      have fC:Hid (n1<=9223372036854775807):=lH (by have h1:=HA2.o;have h2:=HA3.o;unfold maxLen at h2;omega);have AS:=lH (PS.out.bl HB.o);obtain⟨q0,ql⟩:=AS.o.b1;have PNX:=P0.o.bl HB.o;obtain⟨y0,y1,y2,y3,y4,y5,nf,nlt⟩:=aW (h:=⟨D0,r0,s0,D1,r1,s1,D2,k,s2,D3,r3,s3,D4,r4,s4,D5,r5,s5⟩) PNX;dsimp only at y0 y1 y2 y3 y4 y5;clear PNX;(go_wp2_with fail);clear y0 y1 y2 y3 y4 y5 nf nlt q0 ql;refine(yD ⟨D0,r0,s0,D1,r1,s1,D2,k,s2,D3,r3,s3,D4,r4,s4,D5,r5,s5⟩ x h8 A8 k c8 fm A1 n1 c1 ((jB x ps).map bN) wr (HX.o.up HB.o) vN.o (HA.o.bm HB.o) HZM.o HSM.o (by omega) fC.o (HT.o.up HB.o)).mono ?_;rintro e w9 ⟨gA,hh⟩;obtain⟨QT,QR⟩:=TD yP.o z7.o;rcases hh with⟨h0,_⟩ | ⟨_,tF,_⟩
      ·exact absurd QT h0
      rw[QR,F0.o] at tF;obtain⟨A9,n9,c9,rfl,hr9,aSa,aR_⟩:=tF yP.o.ff;obtain⟨HR9,a0c,a0b⟩:=d_ hr9 aSa aR_;have K2:=HB.o.tm gA;have eV:=bW fL K2;have AS:=lH (PS.out.bl K2);replace z8:=lH (z8.o.bm K2);replace HA:=lH (HA.o.bm K2);replace HX:=lH (HX.o.up K2);replace HI:=lH (HI.o.bm K2);replace P0:=lH (P0.o.bl K2);replace HT:=lH (HT.o.up K2);replace P7:=lH (P7.o.bl K2);replace sM:=lH (sM.o.bl K2);clear QT QR tF hr9 aSa aR_ gA K2 vN hO HO fL HB PS F0 HZM z7;have q1:=AS.o.cell 1;have ql:=AS.o.lt;(go_wp2_with fail);refine(oU A9 n9 c9 _ B1 m1 d1 _ w9 HR9.o z8.o (by have h1:=a0c.o;have h2:=a0b.o;unfold maxLen at h2;omega) (by have h1:=cH.o;have h2:=dY.o;unfold maxLen at h2;omega)).mono ?_;rintro e w10 ⟨rfl,mW⟩;rw[decide_eq_true rfl];have L7:=bW eV mW;replace AS:=lH (AS.o.bl mW);replace HA:=lH (HA.o.bm mW);replace P7:=lH (P7.o.bl mW);replace sM:=lH (sM.o.bl mW);replace HX:=lH (HX.o.up mW);replace HI:=lH (HI.o.bm mW);replace P0:=lH (P0.o.bl mW);replace HT:=lH (HT.o.up mW);clear mW q1 ql HR9 z8 eV;have PNX:=P0.o;obtain⟨y0,y1,y2,y3,y4,y5,nf,nlt⟩:=aW (h:=⟨D0,r0,s0,D1,r1,s1,D2,k,s2,D3,r3,s3,D4,r4,s4,D5,r5,s5⟩) PNX;dsimp only at y0 y1 y2 y3 y4 y5;clear PNX;(go_wp2_with fail);clear y0 y1 y2 y3 y4 y5 nf nlt
      go_loopw [83] (fun v83 wr=>∃j:Nat,j<=r0/\v83=.int .i64 j/\Below w10.heap.size w10 wr) (fun v83 _=>r0-(intOf v83).toNat)
      case atStart=>exact⟨0,by omega,rfl,bR⟩
      case round=>
       obtain⟨j,hj,rfl,hb⟩:=hrel;have HB:=lH hb;clear hb;by_cases aCi:j<r0
       ·obtain⟨s,hs⟩:∃s,x.nodes[j]?=some s:=eA (by rw[v_.o];exact aCi)
        have HIR:=lH (aFq yP.o hs);have HIC:=lH (aND HNK.o (bV hs));have mY:=HX.o.r0.below HB.o lR;obtain⟨nb,no,hA,XJ⟩:=mY.form (show 0<r0 by omega);subst hA;have cs:=mY.at_ hs;have hnl:nb<wr.heap.size:=jE XJ HB.o.size;have XO:(j:Int)<(r0:Int):=by omega
        have GE:=lZ j;have rE:=jF j;have HNY:=lN j;have HNZ:Hid (r0-(j+1)<r0-j):=lH (by omega);have HLJ:=lH aCi;clear hs mY XJ;(go_upto_region 21 with fail);clear cs hnl;have hz:=jT wr (.cells #[.int .i64 1,.string s,.string ⟨#[48]⟩,.int .i64 1] 57);have nW:=HB.o.tm hz;have HLZ:Hid (fP (wr.alloc (.cells #[.int .i64 1,.string s,.string ⟨#[48]⟩,.int .i64 1] 57)) (wr.alloc (.cells #[.int .i64 1,.string s,.string ⟨#[48]⟩,.int .i64 1] 57)).heap.size (some ⟨wr.heap.size,0,none⟩) 1 [JP s]):=lH (JA (m:=JP s) (aG.new wr _ _));have HZB:=lH nW;have N0:=lH (AS.o.bl HB.o);obtain⟨q0,ql⟩:=N0.o.b1;have PNX:=P0.o.bl HB.o;obtain⟨y0,y1,y2,y3,y4,y5,nf,nlt⟩:=aW (h:=⟨(some ⟨nb,no,none⟩),r0,s0,D1,r1,s1,D2,k,s2,D3,r3,s3,D4,r4,s4,D5,r5,s5⟩) PNX;dsimp only at y0 y1 y2 y3 y4 y5;clear PNX;(go_wp2_with fail);clear y0 y1 y2 y3 y4 y5 nf nlt q0 ql hz nW;generalize wr.alloc (.cells #[.int .i64 1,.string s,.string ⟨#[48]⟩,.int .i64 1] 57)=wb at *;generalize wr.heap.size=gm at *;refine(yD ⟨(some ⟨nb,no,none⟩),r0,s0,D1,r1,s1,D2,k,s2,D3,r3,s3,D4,r4,s4,D5,r5,s5⟩ x h8 (some ⟨gm,0,none⟩) 1 1 [JP s] A1 n1 c1 ((jB x ps).map bN) wb (HX.o.up HZB.o) HLZ.o (HA.o.bm HZB.o) (by intro m hm;rw[List.mem_singleton.1 hm];show(⟨#[48]⟩:ByteArray).size<=maxLen;decide) HSM.o (by decide) fC.o (HT.o.up HZB.o)).mono ?_;rintro e w11 ⟨mJ,hh⟩;obtain⟨QT,QR⟩:=TD yP.o HIC.o;rcases hh with⟨h0,_⟩ | ⟨_,tF,_⟩
        ·exact absurd QT h0
        rw[QR,List.map_cons,List.map_nil,HIR.o] at tF;have UO:=lH (xJ (x:=x) (ps:=ps) yP.o.rng ps.length (fV x j));have FA:Hid (bP ((lY x ps ps.length (fV x j):Int):Rat)):=lH (by have:=UO.o;have:=yP.o.len;have:=v_.o;exact aOI (by omega) (by omega));obtain⟨A7,n7,c7,rfl,hr7,-,-⟩:=tF (by intro q hq;rw[List.mem_singleton.1 hq];exact FA.o);have hn7:n7=1:=by rw[<-hr7.1];rfl
        subst hn7;have KK:=lH hr7;have q_:=bW HZB mJ;clear QT QR tF hr7 mJ HLZ HZB HIR HIC HB N0;(go_wp2_with fail)
        go_loopw [18,100] (fun v18 v100 wr=>∃i:Nat,i<=ni/\v100=.int .i64 i/\v18=.int .i64 (lY x ps i (fV x j))/\Below w11.heap.size w11 wr) (fun _ v100 _=>ni-(intOf v100).toNat)
        case atStart=>exact⟨0,by omega,rfl,rfl,bR⟩
        case round=>
         obtain⟨i,hi,rfl,rfl,hb⟩:=hrel;have uW:=lH hb;clear hb;have Q7:Hid (Below w10.heap.size w10 wr):=lH (q_.o.tm uW.o);by_cases aJI:i<ni
         ·obtain⟨p,hp⟩:∃p,ps[i]?=some p:=eA (by rw[HIL.o];exact aJI)
          have eU:=lH (aCO (x:=x) (j:=fV x j) hp);have a0j:=lH (yP.o.rng p (bV hp));have HAB:=lH (xJ (x:=x) (ps:=ps) yP.o.rng i (fV x j));have hi8:i<r0:=by have:=HIL.o;have:=yP.o.len;have:=v_.o;omega
          have UZ:=aKo (x:=x) bU.o (i:=i) (j:=j) (by rw[v_.o];exact hi8) (by rw[v_.o];exact HLJ.o);have QJ:=lH UZ;have hpI:=HI.o.below Q7.o lR;obtain⟨pb,po,hA,hpb,-⟩:=hpI.2 (show 0<ni by omega);subst hA;have cp:=hpI.at_ hp;have yI:pb<wr.heap.size:=jE hpb Q7.o.size;have hG1:=sM.o.bl Q7.o;obtain⟨bi,QY⟩:∃bv,(iX x).getD i 0=bv:=⟨_,rfl⟩;obtain⟨bj,hbj⟩:∃bv,(iX x).getD j 0=bv:=⟨_,rfl⟩;rw[QY,hbj] at QJ;have cbi:wr.cell? ⟨g1,i,none⟩=some (.int .i64 bi):=by
           rw[hG1.cell,List.getElem?_toArray];unfold ints;rw[iY,<-QY,dN,iB (by rw[mE.o];exact hi8)];rfl
          have cbj:wr.cell? ⟨g1,j,none⟩=some (.int .i64 bj):=by
           rw[hG1.cell,List.getElem?_toArray];unfold ints;rw[iY,<-hbj,dN,iB (by rw[mE.o];exact HLJ.o)];rfl
          have gl:=hG1.lt;have hP7:=P7.o.bl Q7.o;obtain⟨z0,zl⟩:=hP7.b1;have DH:(i:Int)<(ni:Int):=by omega
          have kA:=lZ i;have kT:=jF i;have zU:(i:Int)<(r0:Int):=by omega
          have XO:(j:Int)<(r0:Int):=by have:=HLJ.o;omega
          have GE:=lZ j;have rE:=jF j;have HNV:=lN i;have HNW:Hid (ni-(i+1)<ni-i):=lH (by omega);have HLI:=lH aJI;clear hp UZ hpI hpb hG1 QY hbj hP7 hi8;(go_upto_region 26 with fail)
          go_quiet (fail)
          clear cp yI cbi cbj gl z0 zl;have hdd:=bD uW.o nq;have QK:=lH hdd;clear hdd;by_cases hbe:bi=bj
          ·subst hbe
           have HE:Hid (fV x i=fV x j):=lH (QJ.o.2 rfl);rw[if_pos HE.o] at eU;obtain⟨bs,hbs⟩:∃bs,lY x ps i (fV x j)=bs:=⟨_,rfl⟩;have a74:=lH hbs;rw[hbs] at eU HAB ⊢;have hw:wrap64 (bs+p)=bs+p:=Go.IntWalk.wrap64_in _ (by have:=HAB.o;have:=a0j.o;have:=yP.o.len;have:=HIL.o;have:=v_.o;constructor<;>omega);have HW:=lH hw;clear hbs hw;(go_wp2_with fail);go_roundw
           case rel=>exact⟨i+1,HLI.o,aO HNV.o,aO (HW.o.trans eU.o.symm),QK.o⟩
           case measure=>exact HNW.o
          ·have HE:Hid (¬fV x i=fV x j):=lH fun h=>hbe (QJ.o.1 h)
           rw[if_neg HE.o,Int.add_zero] at eU;have hB:(bi == bj)=false:=by simp[hbe]
           (go_wp2_with fail);go_roundw
           case rel=>exact⟨i+1,HLI.o,aO HNV.o,aO eU.o.symm,QK.o⟩
           case measure=>exact HNW.o
         ·have DG:i=ni:=by omega
          subst DG;have DH:¬(i:Int)<(i:Int):=by omega
          have HIE:Hid (lY x ps i (fV x j)=lY x ps ps.length (fV x j)):=lH (by rw[HIL.o]);rw[HIE.o];obtain⟨bs,hbs⟩:∃bs,lY x ps ps.length (fV x j)=bs:=⟨_,rfl⟩;rw[hbs] at FA UO KK ⊢;have gA:=KK.o.below uW.o lR;obtain⟨rb,ro,hA,AX⟩:=gA.form (show 0<1 by decide);subst hA;have cr:wr.cell? ⟨rb,ro,none⟩=some (.string (bN ((bs:Int):Rat))):=gA.at_ (i:=0) (x:=bN ((bs:Int):Rat)) rfl;have w_:rb<wr.heap.size:=jE AX uW.o.size;have HPT:=lH (fun(v:Wo)(hv:Below wr.heap.size wr v)=>aEM bs 1 v (by have:=UO.o;have:=yP.o.len;have:=HIL.o;have:=v_.o;omega) (by have:=UO.o;have:=yP.o.len;have:=HIL.o;have:=v_.o;omega) (by decide) (by decide) (by decide) (HT.o.up (Q7.o.tm hv)));clear hbs gA AX;(go_upto_region 29 with fail);refine kX 14 (fun hHeld=>?_);simp only[nI,List.take_zero];refine cW [0,1,2,3,4,5,6,7,8,9,10,11] ?_;refine bQ 12 (fun K hK=>?_);go_simp;refine(HPT.o _ hHeld).mono ?_;rintro e v1 ⟨rfl,K9⟩;rw[div_one,show rnS ((bs:Int):Rat)=bN ((bs:Int):Rat) from if_pos FA.o];have lT:=lH (hHeld.tm K9);go_simp;refine gZ hK lT.o (fun hHeld=>?_);clear hK K;refine cW [13] ?_;refine eM ?_;clear hHeld;(go_wp2_with fail);go_roundw
          case rel=>exact⟨j+1,HLJ.o,aO HNY.o,Q7.o.tm lT.o⟩
          case measure=>exact HNZ.o
       ·have hje:j=r0:=by omega
        subst hje;have XO:¬(j:Int)<(j:Int):=by omega
        (go_wp2_with fail);go_ret;exact⟨rfl,L7.o.tm HB.o⟩
   ·have hC:(z1 != 0)=true:=by simp[jR]
    (go_wp2_with fail);go_ret;exact⟨rfl,fL.o⟩
  ·have PNX:=P0.o
   obtain⟨y0,y1,y2,y3,y4,y5,nf,nlt⟩:=aW PNX;dsimp only at y0 y1 y2 y3 y4 y5;clear PNX;(go_wp2_with fail);clear y0 y1 y2 y3 y4 y5 nf nlt;refine(aBg ⟨D0,r0,s0,D1,r1,s1,D2,r2,s2,D3,r3,s3,D4,r4,s4,D5,r5,s5⟩ x w4 HX.o hnk).mono ?_;rintro e w5 ⟨rfl,fD⟩;have eK:=bW bM fD;have hz:=jT w5 (.cells #[.slice none 0 0,.slice none 0 0] 50);have fL:=bW eK hz;clear hz fD eK;have hB:(b_ x != 0)=true:=by simp[hnk]
   by_cases jR:z1=0
   ·subst jR
    (go_wp2_with fail);go_ret;exact⟨rfl,fL.o⟩
   ·have hC:(z1 != 0)=true:=by simp[jR]
    (go_wp2_with fail);go_ret;exact⟨rfl,fL.o⟩
end
