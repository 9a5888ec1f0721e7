import Derived.Test.YthgdchffeigkbaaGreatDoorX30
import Derived.Test.YthgdchffeigkbaaGreatDoorX31
set_option linter.unusedVariables false
set_option linter.unusedSimpArgs false
namespace Go.Proofs.YthgdchffeigkbaaGreatDoor
set_option maxHeartbeats 8000000
set_option maxRecDepth 100000
section
open Go.ChangeShapes Go.WideShapes Go.ChangeAt Go.RowKit
attribute [local go_sem ↓] aE
attribute [local go_sem] aK aH aM aY
theorem ER {n:Nat} {x:bE} {ms:List Mi} {i:Nat} (hi:i<n):∀ {k:Nat},(∀ t,t<k->bU (B5 x ms t*vf ((aR x ms).getD t []) i)<=3000)->bU (vf (lC n x ms k) i)<=3001*k+2
 | 0,h=>by
  rw [zE hi];exact dV 0 (by decide) (by decide)
 | k+1,h=>by
  have ih:=ER hi (k:=k) (fun t ht=>h t (by omega));rw [zE hi] at ih ⊢;simp only [aO];have h1:=kM (aO k fun t=>B5 x ms t*vf ((aR x ms).getD t []) i) (B5 x ms k*vf ((aR x ms).getD k []) i);have h2:=h k (by omega);omega
def VX (q:Rat):Value->World->Prop:=fun v w=>∃ r:Rv,v=.agg #[.bool r.b1,.slice r.A r.n r.c,.bool r.b2,.slice r.A2 r.m r.d]/\dL w w.heap.size q r
theorem VX.up {q:Rat} {v:Value} {w w':Wo} (h:VX q v w) (hb:Below w.heap.size w w'):VX q v w':=by
 obtain ⟨r,e,h1⟩:=h;exact ⟨r,e,h1.up hb⟩
def sD (x:bE) (ms:List Mi) (B0:Nat) (w':Wo) (fv:Value):Prop:=∃ (g:Nat) (m:iZ) (y:Value) (A:OA) (c gi:Nat) (ga:Nat) (B:OA) (d:Nat),fv=.agg #[.pointer (some ⟨g,0,none⟩),.slice A ms.length c,.slice (some ⟨gi,0,none⟩) (aA x).length (aA x).length,.slice (some ⟨ga,0,none⟩) (aI x) (aI x),.slice B ms.length d]/\((∀ b off,A=some ⟨b,off,none⟩->B0<=b)/\B0<=gi)/\aG w' g 122 (m.cells y)/\fG w' w'.heap.size m x/\jZ w' w'.heap.size A ms.length (aR x ms)/\jZ w' w'.heap.size (some ⟨gi,0,none⟩) (aA x).length (mE (dS (aA x).length (aR x ms) ms))/\iF w' w'.heap.size (some ⟨ga,0,none⟩) (aI x) (bX x ms)/\iF w' w'.heap.size B ms.length (bD x ms (bX x ms))
theorem sD.up {x:bE} {ms:List Mi} {B0:Nat} {w w':Wo} {fv:Value} (h:sD x ms B0 w fv) (hb:Below w.heap.size w w'):sD x ms B0 w' fv:=by
 obtain ⟨g,m,y,A,c,gi,ga,B,d,e,h0,h1,h2,h3,h4,h5,h6⟩:=h;exact ⟨g,m,y,A,c,gi,ga,B,d,e,h0,h1.bl hb,h2.up hb,h3.up hb,h4.up hb,(h5.below hb lR).more hb.size,(h6.below hb lR).more hb.size⟩
theorem sD.unP {x:bE} {ms:List Mi} {B0 gp:Nat} {w w':Wo} {fv:Value} (h:sD x ms B0 w fv) (u:UnP gp w w') (hg:gp<B0):sD x ms B0 w' fv:=by
 obtain ⟨g,m,y,A,c,gi,ga,B,d,e,h0,h1,h2,h3,h4,h5,h6⟩:=h;exact ⟨g,m,y,A,c,gi,ga,B,d,e,h0,u.blk h1 (by decide),h2.unP u,u.mat h3 (fun b off e=>by have:=h0.1 b off e;omega),u.mat h4 (fun b off e=>by injection e with e;injection e with e1 e2;have:=h0.2;omega),u.row h5,u.row h6⟩
theorem sD.low {x:bE} {ms:List Mi} {B0 B1:Nat} {w:Wo} {fv:Value} (h:sD x ms B0 w fv) (hB:B1<=B0):sD x ms B1 w fv:=by
 obtain ⟨g,m,y,A,c,gi,ga,B,d,e,h0,h1⟩:=h;exact ⟨g,m,y,A,c,gi,ga,B,d,e,⟨fun b off e=>cV hB (h0.1 b off e),cV hB h0.2⟩,h1⟩
def aX5 (x:bE) (ms:List Mi) (w:Wo) (e:Ending) (w':Wo):Prop:=
 Below w.heap.size w w'/\((¬mI x ms/\∃ (g:Nat) (A:OA) (c:Nat),e=.returned (.tuple #[.agg #[.pointer (some ⟨g,0,none⟩),.slice A ms.length c,.slice none 0 0,.slice none 0 0,.slice none 0 0],.bool false]))\/
  (mI x ms/\∃ fv,e=.returned (.tuple #[fv,.bool true])/\sD x ms w.heap.size w' fv))
theorem M_ (h:cE) (x:bE) (ok:cN x) (h8:x.nodes.length<=8) (A:OA) (n c:Nat) (ms:List Mi) (w:Wo) (r:cS w w.heap.size h x) (hm:eG w w.heap.size A n ms) (hn:n<=64) (pY:∀ m∈ms,nV x m) (hv:∀ m∈ms,cX m.txt.data.toList=0) (tQ:∀ m∈ms,1<=m.wt/\m.wt<=1000) :
    Calls Tryz.prog 77 #[.agg h.cells,.slice A n c] w (aX5 x ms w):=by
 have Q0:Below w.heap.size w ((w.alloc (.cells h.cells 29)).alloc (.cells #[.pointer none,.slice none 0 0,.slice none 0 0,.slice none 0 0,.slice none 0 0] 95)):=(bA).alloc (by simp) _;have HW:=lH Q0;have P0:=lH ((aG.new w 29 h.cells).alloc (.cells #[.pointer none,.slice none 0 0,.slice none 0 0,.slice none 0 0,.slice none 0 0] 95));have P4:Hid (aG ((w.alloc (.cells h.cells 29)).alloc (.cells #[.pointer none,.slice none 0 0,.slice none 0 0,.slice none 0 0,.slice none 0 0] 95)) (w.heap.size+1) 95 #[.pointer none,.slice none 0 0,.slice none 0 0,.slice none 0 0,.slice none 0 0]):=lH (aG.new_ (by simp));have HX:=lH (r.up Q0);have HM:=lH (hm.bm Q0);have K3:=hm.1;subst K3;have cH:=lH ok;have HMK:=lH pY;have HV:=lH hv;have RW:=lH tQ;have aJf:Hid (∀ m∈ms,bU (wR x m)<=2600):=lH fun m hm=>by
  have h0:=lV cH.o (HMK.o m hm);have h1:=nF (gI (HV.o m hm));have h2:=vM (kB m.txt) (aS x m).2;have h3:=h0.fr;have h4:=dV m.wt (by have:=RW.o m hm;omega) (by have:=RW.o m hm;omega);have h5:=eH (m.wt:Rat) (kB m.txt-(aS x m).2);unfold wR;omega
 clear Q0 hm r pY ok hv tQ;obtain ⟨D0,r0,s0,D1,r1,s1,D2,r2,s2,D3,r3,s3,D4,r4,s4,D5,r5,s5⟩:=h;go_enter Tryz.func77,Tryz.ntmps77
 go_upto_region 1 with fail
 have dW:Hid (((w.alloc (.cells (cE.cells ⟨D0,r0,s0,D1,r1,s1,D2,r2,s2,D3,r3,s3,D4,r4,s4,D5,r5,s5⟩) 29)).alloc (.cells #[.pointer none,.slice none 0 0,.slice none 0 0,.slice none 0 0,.slice none 0 0] 95)).heap.size=w.heap.size+1+1):=lH (by simp);generalize (w.alloc (.cells (cE.cells ⟨D0,r0,s0,D1,r1,s1,D2,r2,s2,D3,r3,s3,D4,r4,s4,D5,r5,s5⟩) 29)).alloc (.cells #[.pointer none,.slice none 0 0,.slice none 0 0,.slice none 0 0,.slice none 0 0] 95)=W at *;obtain ⟨y0,y1,y2,y3,y4,y5,nf,nlt⟩:=a_ P0.o;dsimp only at y0 y1 y2 y3 y4 y5
 go_wp2_with fail
 refine (jI _ x cH.o h8 W HX.o).mono ?_;clear y0 y1 y2 y3 y4 y5 nf nlt;rintro e w2 ⟨bL,g,m,A7,n7,c7,rfl,hg,b_,jY,-⟩;have bW:=lH bL;have HG:=lH b_;have HR:=lH jY;have DM:Hid ((aA x).length=m.n6):=lH (by rw [<-gU];exact jY.r6.len);have J1:=lH hg;clear bL hg b_ jY
 go_upto_region 2 with fail
 generalize SL:w2.alloc (.cells #[.pointer (some ⟨g,0,none⟩),.slice none 0 0,.slice none 0 0,.slice none 0 0,.slice none 0 0] 95)=wb;have pK:Below w2.heap.size w2 wb:=by rw [<-SL];exact bA
 have HF:Hid (aG wb w2.heap.size 95 #[.pointer (some ⟨g,0,none⟩),.slice none 0 0,.slice none 0 0,.slice none 0 0,.slice none 0 0]):=lH (by rw [<-SL];exact aG.new w2 _ _);have HL:=lH pK;have tW:Hid (g<w2.heap.size):=lH HG.o.lt;have HWF:Hid (W.heap.size<=w2.heap.size):=lH bW.o.size;clear SL pK;generalize EZ:w2.heap.size=gf at *;have eP:=lH EZ;clear EZ;have SX:Hid (∀ wr,Below gf w2 wr->Below W.heap.size W wr):=lH fun wr hb=>bW.o.trans (hb.mono HWF.o);have fZ:=lH (SX.o _ HL.o);have P0w:=P0.o.bl fZ.o;obtain ⟨y0,y1,y2,y3,y4,y5,nf,nlt⟩:=a_ P0w;dsimp only at y0 y1 y2 y3 y4 y5;have f0:=HF.o.cell 0;have f1:=HF.o.cell 1;have fl:=HF.o.lt;have ff:=HF.o.frozen;clear P0w
 go_wp2_with fail
 refine (T4 _ x cH.o h8 g m (.slice A7 n7 c7) A ms.length c ms wb (HX.o.up fZ.o) (HG.o.below HL.o tW.o) ((HR.o.below HL.o lR).more (rC fl)) (HM.o.bm fZ.o) hn HMK.o).mono ?_;clear y0 y1 y2 y3 y4 y5 nf nlt f0 f1 fl ff;rintro e w3 ⟨cR,RA,rc,rh,rb0,rfl,zW,hrs,hrc,SN⟩;have yN:=lH (HF.o.bl cR);have pT:=lH (HL.o.trans (cR.mono (rC HF.o.lt)));have HRS:=lH hrs;have HRC:=lH hrc;have HRB:Hid (w.heap.size<=rb0):=lH (by have h1:=zW;have h2:=HF.o.lt;have h3:=HWF.o;have h4:=dW.o;omega);clear cR zW hrs hrc SN HF HL fZ;have f0:=yN.o.cell 0;have f1:=yN.o.cell 1;have fl:=yN.o.lt;have ff:=yN.o.frozen;have eN:Hid (aI x=m.n1):=lH (by rw [<-rV cH.o];exact HR.o.r1.len);obtain ⟨A0,n0,c0,A1,n1,c1,A2,n2,c2,A3,n3,c3,A4,n4,c4,A5,n5,c5,A6,n6,c6⟩:=m;dsimp only at DM eN;have hn6:=DM.o;have hn1:=eN.o;subst hn6;subst hn1
 go_upto_region 3 with fail
 generalize KY:w3.setCell ⟨gf,1,none⟩ (.slice RA ms.length rc)=wc;have IS:Hid (aG wc gf 95 #[.pointer (some ⟨g,0,none⟩),.slice RA ms.length rc,.slice none 0 0,.slice none 0 0,.slice none 0 0]):=lH (by rw [<-KY];exact yN.o.set_ 1 _);have WG:Hid (Below gf w2 wc):=lH (by rw [<-KY];exact pT.o.setCell lR _);have aM6:Hid (gF wc rb0 (.slice RA ms.length rc) rh (aR x ms)):=lH (by rw [<-KY];exact HRS.o.far yN.o (by decide) (by decide) rfl gS);clear KY yN pT HRS f0 f1 fl ff;have HGc:=HG.o.below WG.o tW.o;have g6:wc.cell? ⟨g,6,none⟩=some (.slice A6 (aA x).length c6):=HGc.cell 6;have gl:=HGc.lt;have f0:=IS.o.cell 0;have f1:=IS.o.cell 1;have fl:=IS.o.lt;clear HGc;have fZ:=lH (SX.o _ WG.o);have HRO:=lH (gT cH.o HMK.o);have D_:Hid (jZ wc wc.heap.size RA ms.length (aR x ms)):=lH (by
  obtain ⟨A',c',e,h,-⟩:=aM6.o.rd;injection e with e1 e2 e3;have hl:(aR x ms).length=ms.length:=by unfold aR;rw [lB]
  rw [hl] at h;rw [e1];exact h)
 have tX:Hid ((aA x).length<=8):=lH (fY cH.o h8)
 go_wp2_with fail
 refine (aEP RA A ms.length rc c (aA x).length (aR x ms) ms wc D_.o (HM.o.bm fZ.o) HRO.o.1 HRO.o.2 RW.o tX.o hn).mono ?_;rintro e w5 ⟨eD,gg,G,rfl,hG,hGo,hGe⟩;have hE:=aIw hGo hGe;subst hE;have HF5:=lH (IS.o.below eD fl);have HL5:=lH (WG.o.trans (eD.mono (rC fl)));have aRD:=lH (aM6.o.keep eD);have jB:Hid (kA (aA x).length (3+606*ms.length) (dS (aA x).length (aR x ms) ms)):=lH (by
  have hl:(aR x ms).length=ms.length:=by unfold aR;rw [lB]
  rw [hl] at hGo;exact hGo)
 have N0:=lH hG;have HZ4:Hid (4^(aA x).length*(3+606*ms.length)<=2600000000):=lH (by
  have h1:4^(aA x).length<=4^8:=Nat.pow_le_pow_right (by decide) tX.o;have h2:=Nat.mul_le_mul h1 (show 3+606*ms.length<=38787 by omega);omega)
 clear eD hG hGo hGe IS WG aM6 D_ fZ f0 f1 fl g6 gl
 go_wp2_with fail
 refine (KU (some ⟨gg,0,none⟩) (aA x).length (aA x).length (3+606*ms.length) (dS (aA x).length (aR x ms) ms) w5 N0.o (by have:=tX.o;omega) jB.o.wid jB.o.bd (by omega) (cV HZ4.o (by decide))).mono ?_;rintro e w6 ⟨fQ,lT⟩;have HF:=lH (HF5.o.bl fQ);have HL:=lH (HL5.o.trans (fQ.mono (rC HF5.o.lt)));have HRS:=lH (aRD.o.keep fQ);have aXI:Hid (gf<w5.heap.size):=lH HF5.o.lt;clear fQ HF5 HL5 aRD N0;rcases lT with ⟨fN,rfl⟩ | ⟨fN,gi,he,hgi,aEt⟩
 ·have HNR:Hid (¬mI x ms):=lH (fun h=>h fN)
  clear fN;have f0:=HF.o.cell 0;have f1:=HF.o.cell 1;have f2:=HF.o.cell 2;have f3:=HF.o.cell 3;have f4:=HF.o.cell 4;have fl:=HF.o.lt;have P6:=lH (P4.o.below (SX.o _ HL.o) P4.o.lt);have z0:=P6.o.cell 0;have z1:=P6.o.cell 1;have z2:=P6.o.cell 2;have z3:=P6.o.cell 3;have z4:=P6.o.cell 4;have zl:=P6.o.lt;have zf:=P6.o.frozen
  go_wp2_with fail
  have hq:=qM (v0:=.pointer (some ⟨g,0,none⟩)) (v1:=.slice RA ms.length rc) (v2:=.slice none 0 0) (v3:=.slice none 0 0) (v4:=.slice none 0 0) P6.o;have p0:=hq.cell 0;have p1:=hq.cell 1;have p2:=hq.cell 2;have p3:=hq.cell 3;have p4:=hq.cell 4;exact bodyPost_ret (v:=.tuple #[.agg #[.pointer (some ⟨g,0,none⟩),.slice RA ms.length rc,.slice none 0 0,.slice none 0 0,.slice none 0 0],.bool false]) (by simp [results,Tryz.results77,go_sem,p0,p1,p2,p3,p4]) rfl ⟨k_ (HW.o.trans ((SX.o _ HL.o).mono (by have:=dW.o;omega))) (Nat.le_succ _),.inl ⟨HNR.o,_,_,_,rfl⟩⟩
 ·have HER:Hid (mI x ms):=lH fN
  rw [cL] at he;subst he;have IP:Hid (jZ w6 w6.heap.size (some ⟨gi,0,none⟩) (aA x).length (mE (dS (aA x).length (aR x ms) ms))):=lH (by
   have h:=aEt;rw [show (dS (aA x).length (aR x ms) ms).length=(aA x).length from cL] at h;unfold mE;rw [show (dS (aA x).length (aR x ms) ms).length=(aA x).length from cL];exact h)
  have HGI:Hid (gf<gi):=lH (by have:=aXI.o;omega);clear fN aEt hgi;have f0:=HF.o.cell 0;have fl:=HF.o.lt;have ff:=HF.o.frozen;have f2:=HF.o.cell 2
  go_upto_region 8 with fail
  generalize KY:w6.setCell ⟨gf,2,none⟩ (.slice (some ⟨gi,0,none⟩) (aA x).length (aA x).length)=wA;have HFA:Hid (aG wA gf 95 #[.pointer (some ⟨g,0,none⟩),.slice RA ms.length rc,.slice (some ⟨gi,0,none⟩) (aA x).length (aA x).length,.slice none 0 0,.slice none 0 0]):=lH (by rw [<-KY];exact HF.o.set_ 2 _);have HLA:Hid (Below gf w2 wA):=lH (by rw [<-KY];exact HL.o.setCell lR _);have p5:Hid (gF wA rb0 (.slice RA ms.length rc) rh (aR x ms)):=lH (by rw [<-KY];exact HRS.o.far HF.o (by decide) (by decide) rfl gS);have HIA:Hid (jZ wA wA.heap.size (some ⟨gi,0,none⟩) (aA x).length (mE (dS (aA x).length (aR x ms) ms))):=lH (by
   rw [<-KY];exact IP.o.keepB HF.o AH rfl (fun b off e=>by injection e with e;injection e with e1 e2;have:=HGI.o;omega))
  clear KY HF HL HRS IP f0 fl ff f2
  go_wp2_with fail
  refine (kT (aA x).length wA (by have:=tX.o;omega)).mono ?_;rintro e w7 ⟨gY,gz,vz,rfl,hgz,M5,hvz⟩;have iM:=lH gY;have wI:=lH (WX M5 hvz);have HGZ:=lH hgz;clear gY M5 hvz hgz
  go_wp2_with fail
  have HLQ:Hid (∀ wr,Below wA.heap.size wA wr->Below gf w2 wr):=lH fun wr hb=>HLA.o.trans (hb.mono (rC HFA.o.lt));have aNw:Hid (gz<w7.heap.size):=lH wI.o.lt;have HA7:Hid (wA.heap.size<=w7.heap.size):=lH iM.o.size
  go_loopw [11,54] (fun v11 v54 wr=>∃ (k:Nat) (fs:List Fh) (vs:List Rv),k<=ms.length/\v54=.int .i64 k/\fP wr w7.heap.size (aI x) v11 fs ((ms.map (aS x)).take k)/\Vb wr gz vs (lC (aA x).length x ms k)/\Below wA.heap.size wA wr/\w7.heap.size<=wr.heap.size) (fun _ v54 _=>ms.length-(intOf v54).toNat)
  case atStart=>exact ⟨0,[],_,by omega,rfl,QU _ _ _,by rw [Z2];exact wI.o,iM.o,lR⟩
  case round=>
   clear wI iM;obtain ⟨k,fs,vs,hk,rfl,hfs,hvb,hb,gW⟩:=hrel;have HFS:=lH hfs;have wI:=lH hvb;have HB:=lH hb;have HS7:=lH gW;clear hfs hvb hb gW
   by_cases aW:k<ms.length
   ·obtain ⟨mi,jS⟩:∃ mi,ms[k]?=some mi:=⟨_,jA aW⟩
    have OJ:Hid ((ms.map (aS x)).take (k+1)=(ms.map (aS x)).take k++[aS x mi]):=lH (kJ (by rw [kI,jS];rfl));have tA:=lH (HMK.o mi (cO jS));have q_:=lH jS;have fZ:=lH (SX.o _ (HLQ.o _ HB.o));have pS:=(HM.o.below fZ.o lR).more fZ.o.size;have U1:=pS.2.2 (by omega);obtain ⟨ab,ao,hA,oS,-⟩:=U1;subst hA;obtain ⟨a0,a1,a2,a3⟩:=pS.at_ jS;have fT:(k:Int)<(ms.length:Int):=by omega
    have kF:=lZ k
    have qW:=kU k;have l_:=lN k;have jW:Hid (ms.length-(k+1)<ms.length-k):=lH (by omega);have aXi:Hid (∀ q,u11.ownBlock=some q->q<wr.heap.size):=lH fun q hq=>(HFS.o.own.lt hq).2;clear jS pS
    go_upto_region 13 with fail
    clear a0 a1 a2 a3 oS fT kF qW;have hz:Below wr.heap.size wr (wr.alloc (.cells #[.int .i64 mi.kind,.string mi.name,.string mi.txt,.int .i64 mi.wt] 57)):=bA;have nR:=lH (aG.new wr 57 #[.int .i64 mi.kind,.string mi.name,.string mi.txt,.int .i64 mi.wt]);replace HFS:=lH (HFS.o.keep hz);replace wI:=lH (wI.o.up hz);replace HB:=lH (HB.o.tm hz);replace HS7:Hid (w7.heap.size<=wr.heap.size+1):=lH (Nat.le_succ_of_le HS7.o);have NT:Hid ((wr.alloc (.cells #[.int .i64 mi.kind,.string mi.name,.string mi.txt,.int .i64 mi.wt] 57)).heap.size=wr.heap.size+1):=lH (by simp);clear hz fZ;generalize wr.alloc (.cells #[.int .i64 mi.kind,.string mi.name,.string mi.txt,.int .i64 mi.wt] 57)=wa at *;generalize hgm:wr.heap.size=gm at *;clear hgm;have fZ:=lH (SX.o _ (HLQ.o _ HB.o));have P0w:=P0.o.bl fZ.o
    obtain ⟨y0,y1,y2,y3,y4,y5,nf,nlt⟩:=a_ P0w;dsimp only at y0 y1 y2 y3 y4 y5;have x0:=nR.o.cell 0;have x1:=nR.o.cell 1;have x2:=nR.o.cell 2;have x3:=nR.o.cell 3;have xl:=nR.o.lt;have HFa:=lH (HFA.o.bl HB.o);have f0:=HFa.o.cell 0;have fl:=HFa.o.lt;clear P0w;have HLR:=lH (HLQ.o _ HB.o)
    go_wp2_with fail
    refine (aAL _ x cH.o h8 g ⟨A0,n0,c0,A1,aI x,c1,A2,n2,c2,A3,n3,c3,A4,n4,c4,A5,n5,c5,A6,(aA x).length,c6⟩ (.slice A7 n7 c7) mi wa (HX.o.up fZ.o) (HG.o.below HLR.o tW.o) ((HR.o.below HLR.o lR).more (by rw [<-eP.o];exact HLR.o.size)) tA.o.1 tA.o.2).mono ?_;rintro e w8 ⟨e_,gc,u,rfl,hgc,hvc,hu⟩;clear y0 y1 y2 y3 y4 y5 nf nlt x0 x1 x2 x3 xl f0 fl HFa fZ HLR;have HFM:=lH (lV cH.o tA.o);have aSw:=lH (HFS.o.keep e_);have HV8:=lH (wI.o.up e_);have dF:=lH (HB.o.tm e_);have p_:=lH (nR.o.bl e_);have HC8:Hid (w7.heap.size<=gc):=lH (by have:=HS7.o;have:=NT.o;omega);have HVC:=lH hvc;have HU:=lH hu;have HS8:Hid (w7.heap.size<=w8.heap.size):=lH (by have:=HS7.o;have:=NT.o;have:=e_.size;omega);have a4q:Hid (gm<wa.heap.size):=lH nR.o.lt;have jB:Hid (gm<w8.heap.size):=lH (jO nR.o.lt e_.size)
    have HOB:Hid (∀ q,u11.ownBlock=some q->q<gm):=lH fun q hq=>aXi.o q hq;clear e_ hgc hvc hu HFS wI HB nR HS7
    go_upto_region 14 with fail
    have hz:Below w8.heap.size w8 (w8.alloc (.cells #[.slice (some ⟨gc,0,none⟩) (aI x) (aI x),.bool u.b1,.slice u.A u.n u.c,.bool u.b2,.slice u.A2 u.m u.d] 117)):=bA;have mA:=lH (aG.new w8 117 #[.slice (some ⟨gc,0,none⟩) (aI x) (aI x),.bool u.b1,.slice u.A u.n u.c,.bool u.b2,.slice u.A2 u.m u.d]);have N2:=lH (aSw.o.keep hz);have HV9:=lH (HV8.o.up hz);have cQ:=lH (dF.o.tm hz);have L2:=lH (p_.o.bl hz);have HU9:=lH (HU.o.up hz);have HC9:Hid (∃ vs,Vb (w8.alloc (.cells #[.slice (some ⟨gc,0,none⟩) (aI x) (aI x),.bool u.b1,.slice u.A u.n u.c,.bool u.b2,.slice u.A2 u.m u.d] 117)) gc vs (aS x mi).1):=lH (by obtain ⟨vs,h⟩:=HVC.o;exact ⟨vs,h.up hz⟩);have R1:Hid (w7.heap.size<=w8.heap.size+1):=lH (Nat.le_succ_of_le HS8.o)
    have aRq:Hid ((w8.alloc (.cells #[.slice (some ⟨gc,0,none⟩) (aI x) (aI x),.bool u.b1,.slice u.A u.n u.c,.bool u.b2,.slice u.A2 u.m u.d] 117)).heap.size=w8.heap.size+1):=lH (by simp);clear hz aSw HV8 dF p_ HU HVC;generalize w8.alloc (.cells #[.slice (some ⟨gc,0,none⟩) (aI x) (aI x),.bool u.b1,.slice u.A u.n u.c,.bool u.b2,.slice u.A2 u.m u.d] 117)=w9 at *;generalize nP:w8.heap.size=go at *;clear nP;have b0:=mA.o.cell 0;have b1:=mA.o.cell 1;have b2:=mA.o.cell 2;have b3:=mA.o.cell 3;have b4:=mA.o.cell 4;have bl:=mA.o.lt;have HW9:Hid (w7.heap.size<=w9.heap.size):=lH (by rw [aRq.o];exact R1.o)
    go_wp2_with (at_builtin;refine FC rfl (.tmp 64) (.tmp 66) _ rfl w7.heap.size (aI x) Tryz.underlying188 u11 fs _ rfl N2.o gc u (aS x mi) ⟨HC8.o,HFM.o.len,HC9.o,HU9.o⟩ rfl ?k1 HW9.o ?_)
    case k1=>rw [jP];omega
    intro v' wb fs' hfs' K6 hob;have pU:Below w9.heap.size w9 (w9.alloc (.cells #[.slice (some ⟨gc,0,none⟩) (aI x) (aI x),.bool u.b1,.slice u.A u.n u.c,.bool u.b2,.slice u.A2 u.m u.d] 117)):=bA;have aSu:=lH hfs';have aBt:=lH (hob go _ _ (fun e=>by have:=HOB.o _ e;have:=jB.o;omega) mA.o);have aJg:=lH (hob gm _ _ (fun e=>by have:=HOB.o _ e;omega) L2.o);have HVb:=lH ((HV9.o.up pU).keeps K6 (by decide));have N7:=lH ((cQ.o.tm pU).trans (K6.low.mono HA7.o));have HUb:=lH ((HU9.o.up pU).keeps K6);have HSb:Hid (w7.heap.size<=wb.heap.size):=lH (by have:=HW9.o;have:=pU.size;have:=K6.size;omega);clear pU hfs' K6 hob b0 b1 b2 b3 b4 bl mA L2 HV9 cQ HU9 HC9 N2 R1 aRq HW9
    go_upto_region 15 with fail
    have m2:=aJg.o.cell 2;have m3:=aJg.o.cell 3;have ml:=aJg.o.lt;have b1:=aBt.o.cell 1;have b2:=aBt.o.cell 2;have b3:=aBt.o.cell 3;have b4:=aBt.o.cell 4;have bl:=aBt.o.lt;have bK:=lH (aD (Below.refl wb.heap.size wb));have HWM:=lH (RW.o mi (cO q_.o));have HVM:=lH (HV.o mi (cO q_.o));have xD:Hid (bU (kB mi.txt)<=2000):=lH (nF (gI HVM.o));have tT:Hid (bU (kB mi.txt-(aS x mi).2)<=2400):=lH (by have h1:=vM (kB mi.txt) (aS x mi).2;have h2:=HFM.o.fr;have h3:=xD.o;omega);have HT3:Hid (bU (mi.wt:Rat)<=2):=lH (by have h3:=dV mi.wt (by have:=HWM.o;omega) (by have:=HWM.o;omega);omega);refine aJ (S:=fun w'=>Below wb.heap.size wb w') 11 _ (by kernel_rfl) (by kernel_rfl) rfl (aD bR) (fun hHeld=>?_);simp only [lA,List.take_zero];refine aL 0 rfl ?_;refine aL 1 rfl ?_;refine aL 3 rfl ?_
    refine aL 4 rfl ?_;refine aL 6 rfl ?_;refine aL 7 rfl ?_;refine aCW (C:=fun s w'=>Below wb.heap.size wb w') (G:=fun w' w''=>Below w'.heap.size w' w'') [(2,VX (mi.wt:Rat)),(5,VX (kB mi.txt)),(8,VX (kB mi.txt-(aS x mi).2)),(9,VX (wR x mi)),(10,IG wb.heap.size 115 #[.bool false,.slice none 0 0,.bool false,.slice none 0 0])] rfl (by kernel_rfl) (List.forall_mem_cons.2 ⟨fun _ _ _ h g=>h.up g,List.forall_mem_cons.2 ⟨fun _ _ _ h g=>h.up g,List.forall_mem_cons.2 ⟨fun _ _ _ h g=>h.up g,List.forall_mem_cons.2 ⟨fun _ _ _ h g=>h.up g,List.forall_mem_cons.2 ⟨fun _ _ _ h g=>h.up g,List.forall_mem_nil _⟩⟩⟩⟩⟩) (fun _ _ h=>h) hHeld ?_;refine d_ (i:=2) rfl (fun s w3 hC hn hK=>?_) (fun v2=>?_)
    ·unfold gJ;go_simp;simp only [eK]
     refine (nT mi.wt w3 (by have:=HWM.o;omega) (by have:=HWM.o;omega)).mono ?_;rintro e w4 ⟨dU,r,rfl,hr⟩;exact ⟨_,rfl,⟨r,rfl,hr⟩,hC.tm dU,dU⟩
    try simp only [Act.put,bP,bO,bN]
    refine d_ (i:=5) rfl (fun s w3 hC hn hK=>?_) (fun v5=>?_)
    ·unfold gJ;go_simp;simp only [eK]
     refine (aDd HVM.o w3).mono ?_;rintro e w4 ⟨dU,r,rfl,hr⟩;exact ⟨_,rfl,⟨r,rfl,hr⟩,hC.tm dU,dU⟩
    try simp only [Act.put,bP,bO,bN]
    refine d_ (i:=8) rfl (fun s w3 hC hn hK=>?_) (fun v8=>?_)
    ·have k5:s 5=some v5/\VX (kB mi.txt) v5 w3:=hK 5 (by kernel_rfl)
     obtain ⟨-,r5,rfl,h5⟩:=k5;unfold gJ;go_simp;simp only [eK];refine (TD h5 (HUb.o.up hC) (by have:=xD.o;have:=HFM.o.fr;omega)).mono ?_;rintro e w4 ⟨dU,r,rfl,hr⟩;exact ⟨_,rfl,⟨r,rfl,hr⟩,hC.tm dU,dU⟩
    try simp only [Act.put,bP,bO,bN]
    refine d_ (i:=9) rfl (fun s w3 hC hn hK=>?_) (fun v9=>?_)
    ·have k2:s 2=some v2/\VX (mi.wt:Rat) v2 w3:=hK 2 (by kernel_rfl)
     have k8:s 8=some v8/\VX (kB mi.txt-(aS x mi).2) v8 w3:=hK 8 (by kernel_rfl);obtain ⟨-,r2',rfl,h2⟩:=k2;obtain ⟨-,r8,rfl,h8'⟩:=k8;unfold gJ;go_simp;simp only [eK];refine (MR h2 h8' (by have:=tT.o;have:=HT3.o;omega)).mono ?_;rintro e w4 ⟨dU,r,rfl,hr⟩;exact ⟨_,rfl,⟨r,rfl,hr⟩,hC.tm dU,dU⟩
    try simp only [Act.put,bP,bO,bN]
    refine d_ (i:=10) rfl (fun s w3 hC hn hK=>?_) (fun v10=>?_)
    ·unfold gJ;go_simp;simp only [eK]
     exact ⟨⟨_,rfl,hC.size,aG.new _ _ _⟩,hC.alloc hC.size _,bA⟩
    try simp only [Act.put,bP,bO,bN]
    refine BQ (fun s wc hC hK=>?_);have k9:s 9=some v9/\VX (wR x mi) v9 wc:=hK 9;have k10:s 10=some v10/\IG wb.heap.size 115 #[.bool false,.slice none 0 0,.bool false,.slice none 0 0] v10 wc:=hK 10;obtain ⟨-,r9,rfl,h9⟩:=k9;obtain ⟨-,gv,rfl,hgv,QN⟩:=k10;have HBC:=lH hC;have HR9:=lH h9;have HGV:=lH hgv;have AT:=lH QN;clear hC hK h9 hgv QN hHeld;have z0:=AT.o.cell 0;have z1:=AT.o.cell 1;have z2:=AT.o.cell 2;have z3:=AT.o.cell 3;have zl:=AT.o.lt;have zf:=AT.o.frozen;refine aP (by rfl) ?_
    go_upto_region 16 with fail
    clear z0 z1 z2 z3 zl zf m2 m3 ml b1 b2 b3 b4 bl;have IU:=lH (TP (v:=r9) (x:=EQ) AT.o);have IW:=lH (dM (v:=r9) HBC.o HGV.o);have JT:=lH (HR9.o.keepq (v:=r9) (x:=EQ) AT.o);unfold DU at IW JT;generalize (((wc.setCell ⟨gv,0,none⟩ _).setCell ⟨gv,1,none⟩ _).setCell ⟨gv,2,none⟩ _).setCell ⟨gv,3,none⟩ _=wd at *;have aSt:=lH (aSu.o.keep IW.o);have HVd:=lH (HVb.o.up IW.o);have HBd:=lH (N7.o.tm IW.o);have aXy:Hid (gz<gv):=lH (by have:=aNw.o;have:=HSb.o;have:=HGV.o;omega);have HSd:Hid (w7.heap.size<=wd.heap.size):=lH (cV HSb.o IW.o.size);clear HBC HR9 HGV AT aSu aBt aJg HVb N7 HUb HSb bK HWM HVM xD tT HT3 IW
    go_wp2_with fail
    go_loopw [80] (fun v80 wr=>∃ (i:Nat) (vs:List Rv),i<=(aA x).length/\v80=.int .i64 i/\fP wr w7.heap.size (aI x) v' fs' ((ms.map (aS x)).take k++[aS x mi])/\Vb wr gz vs (DT (aA x).length x ms k i)/\aG wr gv 115 #[.bool r9.b1,.slice r9.A r9.n r9.c,.bool r9.b2,.slice r9.A2 r9.m r9.d]/\dL wr wr.heap.size (wR x mi) r9/\Below wA.heap.size wA wr/\w7.heap.size<=wr.heap.size) (fun v80 _=>(aA x).length-(intOf v80).toNat)
    case atStart=>exact ⟨0,_,by omega,rfl,aSt.o,by rw [Z3];exact HVd.o,IU.o,JT.o,HBd.o,HSd.o⟩
    case round=>
     clear aSt HVd IU JT HBd HSd;obtain ⟨i,vs2,hi,rfl,hfs,hvb,GQ,hrx,hb,gW⟩:=hrel;have HFS:=lH hfs;have wI:=lH hvb;have cU:=lH GQ;have HRX:=lH hrx;have HB:=lH hb;have HSI:=lH gW;clear hfs hvb GQ hrx hb gW
     by_cases lG:i<(aA x).length
     ·have aMh:(i:Int)<((aA x).length:Int):=by omega
      have WC:=lN i;have WD:Hid ((aA x).length-(i+1)<(aA x).length-i):=lH (by omega)
      go_upto_region 19 with fail
      have SN:jZ wA wA.heap.size RA ms.length (aR x ms):=by
       obtain ⟨A',c',e,h,-⟩:=p5.o.rd;injection e with e1 e2 e3;have hl:(aR x ms).length=ms.length:=by unfold aR;rw [lB]
       rw [hl] at h;rw [e1];exact h
      have UY:=(SN.below HB.o lR).more HB.o.size;obtain ⟨pb,po,aMt,hpb⟩:=UY.form (by omega);subst aMt;have iH:(aR x ms)[k]?=some (f_ x (aS x mi).1):=by unfold aR;rw [kI,q_.o];rfl
      obtain ⟨⟨qa,qn,qc⟩,q0,q1,q2,q3⟩:=UY.at_ iH;dsimp only at q0 q1 q2 q3;have hqn:(aA x).length=qn:=by rw [<-q1.len];exact nC.symm
      subst hqn;obtain ⟨eb,eo,hqa,heb⟩:=q1.form (by omega);subst hqa;obtain ⟨ve,e0,e1,e2,e3,e4⟩:=q1.at_ (bI (l:=f_ x (aS x mi).1) (i:=i) (by rw [nC];exact lG));obtain ⟨xe,hx,c0,c1',c2',c3',l1,f1⟩:=wI.o.elem (j:=i) (by rw [rL hi];exact lG);have SR:Hid (dL wr wr.heap.size (vf (lC (aA x).length x ms k) i) xe):=lH (by
       have h:=wI.o.val (j:=i) (by rw [rL hi];exact lG) hx;rwa [iA (aHs lG)] at h)
      have HVE:=lH e4;have IJ:=lH iH;have AB:=(HFA.o.bl HB.o).cell 1;have wD:=(HFA.o.bl HB.o).lt;have z0:=cU.o.cell 0;have z1:=cU.o.cell 1;have z2:=cU.o.cell 2;have z3:=cU.o.cell 3;have zl:=cU.o.lt;have bK:=lH (aD (Below.refl wr.heap.size wr));have kC:=lZ i
      have aMf:=kU i;have kF:=lZ k
      have qW:=kU k;have fT:(k:Int)<(ms.length:Int):=by omega
      clear SN UY iH q1 q2 q3 e4 hx;refine aJ (S:=fun w'=>Below wr.heap.size wr w') 18 _ (by kernel_rfl) (by kernel_rfl) rfl (aD bR) (fun hHeld=>?_);simp only [lA,List.take_zero];refine aL 0 rfl ?_;refine aL 1 rfl ?_;refine aL 2 rfl ?_;refine aL 3 rfl ?_;refine aL 4 rfl ?_;refine aL 5 rfl ?_;refine aL 6 rfl ?_;refine aL 7 rfl ?_;refine aL 8 rfl ?_;refine aL 9 rfl ?_;refine aL 10 rfl ?_;refine aL 11 rfl ?_;refine aL 12 rfl ?_;refine aL 13 rfl ?_;refine aL 14 rfl ?_;refine aU 15 (by kernel_rfl) rfl (fun K hK=>?_);have JS:Hid (∀ t,t<ms.length->bU (B5 x ms t*vf ((aR x ms).getD t []) i)<=3000):=lH fun t ht=>by
       obtain ⟨m2,sP⟩:∃ m2,ms[t]?=some m2:=⟨_,jA ht⟩;have h1:=aJf.o m2 (cO sP);have h2:(aR x ms)[t]?=some (f_ x (aS x m2).1):=by unfold aR;rw [kI,sP];rfl
       have h3:=HRO.o.2 _ (cO h2) _ (cO (bI (l:=f_ x (aS x m2).1) (i:=i) (by rw [nC];exact lG)));rw [AL sP,eY,h2];have h4:=eH (wR x m2) (vf (f_ x (aS x m2).1) i);show bU (wR x m2*vf (f_ x (aS x m2).1) i)<=3000;omega
      have NU:Hid (bU (wR x mi)+bU (vf (f_ x (aS x mi).1) i)+1<=3000):=lH (by
       have h1:=aJf.o mi (cO q_.o);have h3:=HRO.o.2 _ (cO IJ.o) _ (cO (bI (l:=f_ x (aS x mi).1) (i:=i) (by rw [nC];exact lG)));omega)
      have nQ:Hid (bU (vf (lC (aA x).length x ms k) i)+bU (wR x mi*vf (f_ x (aS x mi).1) i)+1<=35184372088832):=lH (by
       have h1:=ER lG (k:=k) (fun t ht=>JS.o t (by omega));have h2:=eH (wR x mi) (vf (f_ x (aS x mi).1) i);have h3:=NU.o;omega)
      go_simp;refine (MR (HRX.o.up bK.o) (HVE.o.up bK.o) (cV NU.o (by decide))).mono ?_;rintro e w8 ⟨e_,v8,rfl,h8⟩;have dF:Hid (Below wr.heap.size wr w8):=lH (bK.o.tm e_);have H8:=lH h8;clear e_ h8;go_simp;refine hK.out _ _ ?_ (fun hHeld=>?_)
      ·exact dF.o
      clear hK K
      try simp only [Act.put,bP,bO,bN]
      refine aU 16 (by kernel_rfl) rfl (fun K hK=>?_);go_simp;refine (ID (SR.o.up dF.o) H8.o nQ.o).mono ?_;rintro e wq ⟨hbq,vq,rfl,hq⟩;have WN:Hid (Below wr.heap.size wr wq):=lH (dF.o.tm hbq);have HVQ:=lH hq;clear hbq hq;go_simp;refine hK.out _ _ ?_ (fun hHeld=>?_)
      ·exact WN.o
      clear hK K
      try simp only [Act.put,bP,bO,bN]
      refine aL 17 rfl ?_;refine wpAnyH_done (by kernel_rfl) ?_ _;refine aP (by rfl) ?_;clear hHeld;have aIW:=lH (wI.o.up WN.o);have aXF:=lH (HFS.o.keep WN.o);have J3:=lH (cU.o.bl WN.o);have aWX:=lH (HRX.o.up WN.o);have HBq:=lH (HB.o.tm WN.o);have HSq:Hid (w7.heap.size<=wq.heap.size):=lH (cV HSI.o WN.o.size);clear c0 c1' c2' c3' l1 f1 z0 z1 z2 z3 zl AB wD q0 e0 e1 e2 e3 hpb heb HVE SR bK dF H8 NU nQ JS HFS wI cU HRX HB HSI;obtain ⟨xe',hx',c0,c1',c2',c3',l1,f1⟩:=aIW.o.elem (j:=i) (by rw [rL hi];exact lG);have hn8:(aA x).length<=8:=tX.o
      go_wp2_with fail
      go_roundw
      case rel=>exact ⟨i+1,_,lG,aQ WC.o,aXF.o.far aIW.o (x:=vq) (by rw [rL hi];exact lG) aNw.o,by
       have h:=aIW.o.put (j:=i) (x:=vq) (by rw [rL hi];exact lG) HVQ.o;rw [<-AL q_.o,aCR lG IJ.o] at h;exact h,J3.o.far4 vq (by have:=aXy.o;omega),aIW.o.keep (by rw [rL hi];exact lG) aWX.o,kS HBq.o HGZ.o,cV HSq.o (Nat.le_of_eq (Z7 wq gz i vq).symm)⟩
      case measure=>exact WD.o
     ·have SQ:i=(aA x).length:=by omega
      have aMh:¬(i:Int)<((aA x).length:Int):=by omega
      have HVE:Hid (Vb wr gz vs2 (lC (aA x).length x ms (k+1))):=lH (by
       have h:=wI.o;rw [SQ,aCS] at h;exact h)
      clear wI SQ
      go_wp2_with fail
      go_roundw
      case rel=>exact ⟨k+1,fs',vs2,aW,aQ l_.o,by rw [OJ.o];exact HFS.o,HVE.o,HB.o,HSI.o⟩
      case measure=>exact jW.o
   ·obtain ⟨wl,rfl⟩:∃ z,z=wr:=⟨wr,rfl⟩
    have lS:k=ms.length:=by omega
    subst lS;have fT:¬((ms.length:Nat):Int)<(ms.length:Int):=by omega
    have aSs:Hid (fP wl w7.heap.size (aI x) u11 fs (ms.map (aS x))):=lH (by
     have h:=HFS.o;rw [nW (by rw [lB];exact lR)] at h;exact h)
    have SA:=lH (HFA.o.bl HB.o);have HIr:Hid (jZ wl wl.heap.size (some ⟨gi,0,none⟩) (aA x).length (mE (dS (aA x).length (aR x ms) ms))):=lH (HIA.o.bm HB.o);have HRr:=lH (p5.o.keep HB.o);have HLr:=lH (HLQ.o _ HB.o);have HQr:Hid (iF wl wl.heap.size (some ⟨gz,0,none⟩) (aA x).length (lC (aA x).length x ms ms.length)):=lH (by
     have h:=wI.o.rdq;rwa [eZ] at h)
    have HGr:=lH (HG.o.below HLr.o tW.o);clear HFS wI HB HS7 HIA p5 HFA HA7 aNw HLQ hk aW;have f0:=SA.o.cell 0;have fl:=SA.o.lt
    go_wp2_with fail
    refine (mT g ⟨A0,n0,c0,A1,aI x,c1,A2,n2,c2,A3,n3,c3,A4,n4,c4,A5,n5,c5,A6,(aA x).length,c6⟩ (.slice A7 n7 c7) wl HGr.o).mono ?_;rintro e w10 ⟨rfl,rfl⟩
    go_wp2_with fail
    refine (kT (aI x) wl (by have:=(fR cH.o).2;omega)).mono ?_;rintro e w11 ⟨mF,ga,va,rfl,K7,rY,hva⟩;have HVA:=lH (WX rY hva);have I8:=lH K7;have rB:=lH mF;have WK:=lH (SA.o.bl mF);clear mF K7 rY hva f0 fl;have f0:=WK.o.cell 0;have f3:=WK.o.cell 3;have fl:=WK.o.lt;have ff:=WK.o.frozen
    go_upto_region 23 with fail
    generalize hwe:w11.setCell ⟨gf,3,none⟩ (.slice (some ⟨ga,0,none⟩) (aI x) (aI x))=we;have HFe:Hid (aG we gf 95 #[.pointer (some ⟨g,0,none⟩),.slice RA ms.length rc,.slice (some ⟨gi,0,none⟩) (aA x).length (aA x).length,.slice (some ⟨ga,0,none⟩) (aI x) (aI x),.slice none 0 0]):=lH (by rw [<-hwe];exact WK.o.set_ 3 _);have HMe:Hid (wl.grownBy we (some gf)):=lH (by rw [<-hwe];exact PO 3 _ (XQ _ rB.o));have HVe:=lH (show Vb we ga _ (jX (aI x)) by rw [<-hwe];exact HVA.o.keepF WK.o (by decide) rfl gS);have HLe:Hid (Below gf w2 we):=lH (by rw [<-hwe];exact (HLr.o.trans (rB.o.mono (rC SA.o.lt))).setCell lR _);have aXA:Hid (ga<we.heap.size):=lH HVe.o.lt;clear hwe f0 f3 fl ff HVA rB WK;have g6:we.cell? ⟨g,6,none⟩=some (.slice A6 (aA x).length c6):=(HG.o.below HLe.o tW.o).cell 6;have gl:=(HG.o.below HLe.o tW.o).lt;have f0:=HFe.o.cell 0
    have fl:=HFe.o.lt
    go_wp2_with fail
    clear g6 gl f0 fl
    go_loopw [114] (fun v114 wq=>∃ (i:Nat) (us:List Rv),i<=(aA x).length/\v114=.int .i64 i/\Vb wq ga us (xX (aA x) (lW x ms) (jX (aI x)) i)/\aG wq gf 95 #[.pointer (some ⟨g,0,none⟩),.slice RA ms.length rc,.slice (some ⟨gi,0,none⟩) (aA x).length (aA x).length,.slice (some ⟨ga,0,none⟩) (aI x) (aI x),.slice none 0 0]/\wl.grownBy wq (some gf)/\Below gf w2 wq/\∀ q∈xX (aA x) (lW x ms) (jX (aI x)) i,bU q<=50000000000) (fun v114 _=>(aA x).length-(intOf v114).toNat)
    case atStart=>exact ⟨0,_,Nat.zero_le _,rfl,HVe.o,HFe.o,HMe.o,HLe.o,fun q hq=>by rw [List.eq_of_mem_replicate hq];exact cV (dV 0 (by decide) (by decide)) (by decide)⟩
    case round=>
     clear HVe HFe HMe HLe;obtain ⟨i,us,hi,rfl,hv,hf,hm,hl,hqs⟩:=hrel;have aM_:=lH hqs;have u_:=lH hv;have yN:=lH hf;have HM3:=lH hm;have pT:=lH hl;clear hv hf hm hl hqs
     by_cases lG:i<(aA x).length
     ·obtain ⟨j,hj⟩:∃ j,(aA x)[i]?=some j:=⟨_,jA lG⟩
      have HJB:Hid (j<aI x):=lH (uS (cO hj));have hjb:=HJB.o;have xK:=((HR.o.below pT.o lR).more (by rw [<-eP.o];exact pT.o.size)).r6;simp only at xK;obtain ⟨fb,fo,hA6,uO,-⟩:=xK.2 (by have:=xK.len;omega);subst hA6;have f6:=xK.at_ (iT hj);have HJ:=lH hj;have QI:(i:Int)<((aA x).length:Int):=by omega
      have kC:=lZ i
      have aMf:=kU i;have hjI:(j:Int)<(aI x:Int):=by omega
      have JH:=lZ j
      have tL:=kU j;have WC:=lN i;have WD:Hid ((aA x).length-(i+1)<(aA x).length-i):=lH (by omega);clear xK hj
      go_upto_region 26 with fail
      clear f6 uO;have hU:=L8 SA.o yN.o (i:=3) rfl rfl AH HM3.o;have hqi:=hU.mat HIr.o (fun b off e=>by injection e with e;injection e with e1 e2;have:=HGI.o;omega);have HQR:=lH (hU.row HQr.o);obtain ⟨row,iH⟩:∃ row,(mE (dS (aA x).length (aR x ms) ms))[i]?=some row:=eO (by rw [hqi.len];exact lG);obtain ⟨⟨qa,qn,qc⟩,q0,q1,q2,q3⟩:=hqi.at_ iH;dsimp only at q0 q1 q2 q3;rw [Nat.zero_add] at q0;have hqb:gi<wr.heap.size:=World.block_lt_of_cell? wr ⟨gi,i,none⟩ q0;have HBI:Hid (∀ q∈row,bU q<=2600000000):=lH fun q hq=>by
       have h:=aDO (M:=dS (aA x).length (aR x ms) ms) (by rw [cL];exact jB.o.wid) jB.o.bd (by omega) row (cO iH) q hq;rw [cL] at h;exact cV (Nat.le_of_succ_le h) HZ4.o
      have rX:row.length=(aA x).length:=by
       have h:=(rW (M:=dS (aA x).length (aR x ms) ms) (by rw [cL];exact jB.o.wid)).2 row (cO iH);rwa [cL] at h
      have hqn:(aA x).length=qn:=by rw [<-q1.len];exact rX.symm
      subst hqn;have IJ:=lH q1;have HED:Hid (jJ row (lC (aA x).length x ms ms.length)=lW x ms i):=lH (by
       unfold lW;rw [eY,iH];rfl)
      have qS:Hid (∀ q∈lC (aA x).length x ms ms.length,bU q<=2600000000):=lH fun q hq=>by
       obtain ⟨t,ht⟩:=List.mem_iff_getElem?.1 hq;have QB:t<(aA x).length:=by have:=(dP.1 ht).1;rwa [eZ] at this
       have h0:∀ u,u<ms.length->bU (B5 x ms u*vf ((aR x ms).getD u []) t)<=3000:=fun u hu=>by
        obtain ⟨m2,sP⟩:∃ m2,ms[u]?=some m2:=⟨_,jA hu⟩;have h1:=aJf.o m2 (cO sP);have h2:(aR x ms)[u]?=some (f_ x (aS x m2).1):=by unfold aR;rw [kI,sP];rfl
        have h3:=HRO.o.2 _ (cO h2) _ (cO (bI (l:=f_ x (aS x m2).1) (i:=t) (by rw [nC];exact QB)));rw [AL sP,eY,h2];have h4:=eH (wR x m2) (vf (f_ x (aS x m2).1) t);show bU (wR x m2*vf (f_ x (aS x m2).1) t)<=3000;omega
       have h5:=ER QB (k:=ms.length) h0;rw [iA ht] at h5;omega
      have aW_:Hid (bU (lW x ms i)<=50000000000):=lH (by
       have h:=nG (ys:=lC (aA x).length x ms ms.length) rX HBI.o qS.o (aA x).length lR;rw [nW (by rw [List.length_zipWith];omega)] at h;rw [<-HED.o];have h8:=tX.o;unfold jJ;omega)
      have f2:=yN.o.cell 3;have fl:=yN.o.lt;have bK:=lH (aD (Below.refl wr.heap.size wr));have hn8:(aA x).length<=8:=tX.o;clear hU hqi iH q1 q2 q3 rX;refine aJ (S:=fun w'=>Below wr.heap.size wr w') 10 _ (by kernel_rfl) (by kernel_rfl) rfl (aD bR) (fun hHeld=>?_);simp only [lA,List.take_zero];refine aL 0 rfl ?_;refine aL 1 rfl ?_;refine aL 2 rfl ?_;refine aL 3 rfl ?_;refine aL 4 rfl ?_;refine aL 5 rfl ?_;refine aL 6 rfl ?_;refine aL 7 rfl ?_;refine aU 8 (by kernel_rfl) rfl (fun K hK=>?_);go_simp;refine (E3 qa (aA x).length qc (some ⟨gz,0,none⟩) (aA x).length (aA x).length row (lC (aA x).length x ms ms.length) 2600000000 _ (IJ.o.up bK.o) (HQR.o.up bK.o) lR (by omega) HBI.o qS.o (by omega)).mono ?_;rintro e w8 ⟨e_,v8,rfl,h8⟩;rw [HED.o] at h8
      have dF:Hid (Below wr.heap.size wr w8):=lH (bK.o.tm e_);have H8:=lH h8;clear e_ h8;go_simp;refine hK.out _ _ ?_ (fun hHeld=>?_)
      ·exact dF.o
      clear hK K
      try simp only [Act.put,bP,bO,bN]
      refine aL 9 rfl ?_;refine wpAnyH_done (by kernel_rfl) ?_ _;refine aP (by rfl) ?_;clear hHeld;have HVq:=lH (u_.o.up dF.o);have HFq:=lH (yN.o.bl dF.o);have HMq:=lH (MP HM3.o dF.o);have HLq:=lH (pT.o.trans (dF.o.mono (cV (Nat.le_of_eq eP.o.symm) pT.o.size)));have aSn:Hid (gf<ga):=lH (by have:=SA.o.lt;have:=I8.o;omega);clear q0 hqb f2 fl bK HBI qS IJ HED HQR u_ yN HM3 pT;have sQ:j<(xX (aA x) (lW x ms) (jX (aI x)) i).length:=by rw [rT];unfold jX;rw [o3];exact HJB.o
      obtain ⟨xe',hx',c0,c1',c2',c3',l1,f1⟩:=HVq.o.elem (j:=j) sQ;clear hx';have HJL:=lH sQ;clear sQ
      go_wp2_with fail
      go_roundw
      case rel=>exact ⟨i+1,_,lG,aQ WC.o,by
       have h:=HVq.o.put (j:=j) (x:=v8) HJL.o H8.o;have e:xX (aA x) (lW x ms) (jX (aI x)) (i+1)=(xX (aA x) (lW x ms) (jX (aI x)) i).set j (lW x ms i):=by
        show (xX (aA x) (lW x ms) (jX (aI x)) i).set ((aA x).getD i 0) (lW x ms i)=_;rw [eY,HJ.o];rfl
       rw [e];exact h,HFq.o.far4 v8 (by have:=aSn.o;omega),aAd HMq.o I8.o,kS HLq.o (rC aSn.o),fun q hq=>by
       have e:xX (aA x) (lW x ms) (jX (aI x)) (i+1)=(xX (aA x) (lW x ms) (jX (aI x)) i).set ((aA x).getD i 0) (lW x ms i):=rfl;rw [e] at hq;rcases List.mem_or_eq_of_mem_set hq with h1 | h1
       ·exact aM_.o q h1
       ·rw [h1];exact aW_.o⟩
      case measure=>exact WD.o
     ·obtain ⟨wm,rfl⟩:∃ z,z=wr:=⟨wr,rfl⟩
      have SQ:i=(aA x).length:=by omega
      have aMh:¬(i:Int)<((aA x).length:Int):=by omega
      have aM9:Hid (∀ q∈bX x ms,bU q<=50000000000):=lH (by have h:=aM_.o;rw [SQ] at h;exact h);have HVm:Hid (Vb wm ga us (bX x ms)):=lH (by have h:=u_.o;rw [SQ] at h;exact h);have hU:=L8 SA.o yN.o (i:=3) rfl rfl AH HM3.o;have HIm:=lH (hU.mat HIr.o (fun b off e=>by injection e with e;injection e with e1 e2;have:=HGI.o;omega));have HRm:=lH (hU.rows HRr.o);have aSr:=lH (hU.forms aSs.o);have a4k:Hid (gf<ga):=lH (by have:=SA.o.lt;have:=I8.o;omega);clear hU u_ HM3 aM_ HIr HRr aSs SA HQr SQ I8 aXA HGr HLr jB HRO HZ4 aJf
      go_wp2_with fail
      go_loopw [132] (fun v132 wq=>∃ (k:Nat) (cu:Value) (us:List Rv),k<=ms.length/\v132=.int .i64 k/\fH wq wm.heap.size cu us ((bD x ms (bX x ms)).take k)/\aG wq gf 95 #[.pointer (some ⟨g,0,none⟩),.slice RA ms.length rc,.slice (some ⟨gi,0,none⟩) (aA x).length (aA x).length,.slice (some ⟨ga,0,none⟩) (aI x) (aI x),cu]/\wm.grownBy wq (some gf)/\Below gf w2 wq) (fun v132 _=>ms.length-(intOf v132).toNat)
      case atStart=>exact ⟨0,_,[],Nat.zero_le _,rfl,oQ _ _,yN.o,XQ _ bR,pT.o⟩
      case round=>
       obtain ⟨k,cu,us,hk,rfl,ho,hf,hm,hl⟩:=hrel;have j_:Hid ((bD x ms (bX x ms)).length=ms.length):=lH (by unfold bD;rw [lB]);have hlk:us.length=k:=by rw [ho.len,jP,j_.o];omega
       obtain ⟨cA,cc,hcu,-⟩:=ho.own.shape;rw [hlk] at hcu;subst hcu;have HO:=lH ho;have IS:=lH hf;have WE:=lH hm;have WG:=lH hl;clear ho hf hm hl hlk
       by_cases aW:k<ms.length
       ·obtain ⟨mi,jS⟩:∃ mi,ms[k]?=some mi:=⟨_,jA aW⟩
        have OJ:Hid ((bD x ms (bX x ms)).take (k+1)=(bD x ms (bX x ms)).take k++[kB mi.txt-(jJ (aS x mi).1 (bX x ms)+(aS x mi).2)]):=lH (kJ (by unfold bD;rw [kI,jS];rfl));have tA:=lH (HMK.o mi (cO jS));have HVM:=lH (HV.o mi (cO jS));have q_:=lH jS;have fZ:=lH (SX.o _ WG.o);have pS:=(HM.o.below fZ.o lR).more fZ.o.size;have U1:=pS.2.2 (by omega);obtain ⟨ab,ao,hA,oS,-⟩:=U1;subst hA;obtain ⟨a0,a1,a2,a3⟩:=pS.at_ jS;have fT:(k:Int)<(ms.length:Int):=by omega
        have kF:=lZ k
        have qW:=kU k;have l_:=lN k;have jW:Hid (ms.length-(k+1)<ms.length-k):=lH (by omega);clear jS pS fZ
        go_upto_region 31 with fail
        clear a0 a1 a2 a3 oS;have hz:Below wr.heap.size wr (wr.alloc (.cells #[.int .i64 mi.kind,.string mi.name,.string mi.txt,.int .i64 mi.wt] 57)):=bA;have nR:=lH (aG.new wr 57 #[.int .i64 mi.kind,.string mi.name,.string mi.txt,.int .i64 mi.wt]);replace HO:=lH (HO.o.keep hz);have HFa:=lH (IS.o.bl hz);have HMa:=lH (MP WE.o hz);have HLa:=lH (WG.o.trans (hz.mono (cV (Nat.le_of_eq eP.o.symm) WG.o.size)));clear hz IS WE WG;generalize wr.alloc (.cells #[.int .i64 mi.kind,.string mi.name,.string mi.txt,.int .i64 mi.wt] 57)=wa at *;generalize wr.heap.size=gm at *;have hU:=L8 yN.o HFa.o (i:=4) rfl rfl AH HMa.o;have HVa:=lH (hU.vec HVm.o);obtain ⟨fb,fc,fm,hfv,wD,⟨e0,e1,e2,e3,e4⟩,⟨vs4,hvc⟩,CC,hu,cur,aMo⟩:=(hU.forms aSr.o).at_ (k:=k) (p:=aS x mi) (by rw [kI,q_.o];rfl);rw [lB] at hfv
        subst hfv;have HQC:Hid (iF wa wa.heap.size (some ⟨fm.gc,0,none⟩) (aI x) (aS x mi).1):=lH (by have h:=hvc.rdq;rwa [CC] at h);have HUF:=lH hu;have HQE:Hid (iF wa wa.heap.size (some ⟨ga,0,none⟩) (aI x) (bX x ms)):=lH (by
         have h:=HVa.o.rdq;rwa [show (bX x ms).length=aI x from by unfold bX;rw [rT];exact o3] at h)
        have aBx:=lH aMo;have HSS:Hid (∀ w',aG w' gf 95 #[.pointer (some ⟨g,0,none⟩),.slice RA ms.length rc,.slice (some ⟨gi,0,none⟩) (aA x).length (aA x).length,.slice (some ⟨ga,0,none⟩) (aI x) (aI x),.slice cA k cc]->aG w' gm 57 #[.int .i64 mi.kind,.string mi.name,.string mi.txt,.int .i64 mi.wt]->aG w' fb 117 cur->(w'.cell? ⟨gf,3,none⟩=some (.slice (some ⟨ga,0,none⟩) (aI x) (aI x))/\w'.cell? ⟨gf,4,none⟩=some (.slice cA k cc)/\w'.cell? ⟨gm,2,none⟩=some (.string mi.txt)/\w'.cell? ⟨fb,k*5,none⟩=some (.slice (some ⟨fm.gc,0,none⟩) (aI x) (aI x))/\w'.cell? ⟨fb,k*5+1,none⟩=some (.bool fm.u.b1)/\w'.cell? ⟨fb,k*5+2,none⟩=some (.slice fm.u.A fm.u.n fm.u.c)/\w'.cell? ⟨fb,k*5+3,none⟩=some (.bool fm.u.b2)/\w'.cell? ⟨fb,k*5+4,none⟩=some (.slice fm.u.A2 fm.u.m fm.u.d))):=lH fun w' q1 q2 q3=>by
         have hc:∀ o,w'.cell? ⟨fb,o,none⟩=wa.cell? ⟨fb,o,none⟩:=fun o=>(q3.cell o).trans (aMo.cell o).symm;exact ⟨q1.cell 3,q1.cell 4,q2.cell 2,(hc _).trans e0,(hc _).trans e1,(hc _).trans e2,(hc _).trans e3,(hc _).trans e4⟩
        have HFM:=lH (lV cH.o tA.o);have xD:Hid (bU (kB mi.txt)<=2000):=lH (nF (gI HVM.o));have HN8:Hid (aI x<=8):=lH (cV (fR cH.o).2 h8);have HSB:Hid (bU (kB mi.txt)+bU (jJ (aS x mi).1 (bX x ms)+(aS x mi).2)+1<=35184372088832):=lH (by
         have h1:=nG (ys:=bX x ms) (Z:=50000000000) HFM.o.len (fun q hq=>cV (HFM.o.cf q hq) (by decide)) aM9.o (aI x) lR;rw [nW (by rw [List.length_zipWith,HFM.o.len];omega)] at h1;have h2:=kM (jJ (aS x mi).1 (bX x ms)) (aS x mi).2;have h3:=HFM.o.fr;have h4:=xD.o;have h5:=HN8.o;unfold jJ at h2 ⊢;omega)
        have aXz:Hid (gf<=wm.heap.size):=lH (rC yN.o.lt);have HK6:Hid (((bD x ms (bX x ms)).take k).length<=1000000):=lH (by rw [jP];omega);clear hU wD e0 e1 e2 e3 e4 hvc CC hu aMo fT;refine aJ (S:=fun w'=>(w'.cell? ⟨gf,3,none⟩=some (.slice (some ⟨ga,0,none⟩) (aI x) (aI x))/\w'.cell? ⟨gf,4,none⟩=some (.slice cA k cc)/\w'.cell? ⟨gm,2,none⟩=some (.string mi.txt)/\w'.cell? ⟨fb,k*5,none⟩=some (.slice (some ⟨fm.gc,0,none⟩) (aI x) (aI x))/\w'.cell? ⟨fb,k*5+1,none⟩=some (.bool fm.u.b1)/\w'.cell? ⟨fb,k*5+2,none⟩=some (.slice fm.u.A fm.u.n fm.u.c)/\w'.cell? ⟨fb,k*5+3,none⟩=some (.bool fm.u.b2)/\w'.cell? ⟨fb,k*5+4,none⟩=some (.slice fm.u.A2 fm.u.m fm.u.d))) 16 _ (by kernel_rfl) (by kernel_rfl) rfl (HSS.o _ HFa.o nR.o aBx.o) (fun hHeld=>?_);simp only [lA,List.take_zero];have fT:(k:Int)<(ms.length:Int):=by omega
        refine cK 0 (v:=?_) rfl (by kernel_rfl) (fun _ _ _ h=>h) (by rfl) ?_ hHeld ?_;rotate_left 1
        ·intro w' hSw;obtain ⟨s0,s1,s2,s3,s4,s5,s6,s7⟩:=hSw;go_simp<;>with_reducible rfl
        try simp only [Act.put,bP,bO,bN]
        refine cK 1 (v:=?_) rfl (by kernel_rfl) (fun _ _ _ h=>h) (by rfl) ?_ hHeld ?_;rotate_left 1
        ·intro w' hSw;obtain ⟨s0,s1,s2,s3,s4,s5,s6,s7⟩:=hSw;go_simp<;>with_reducible rfl
        try simp only [Act.put,bP,bO,bN]
        refine cK 2 (v:=?_) rfl (by kernel_rfl) (fun _ _ _ h=>h) (by rfl) ?_ hHeld ?_;rotate_left 1
        ·intro w' hSw;obtain ⟨s0,s1,s2,s3,s4,s5,s6,s7⟩:=hSw;go_simp<;>with_reducible rfl
        try simp only [Act.put,bP,bO,bN]
        refine cK 3 (v:=?_) rfl (by kernel_rfl) (fun _ _ _ h=>h) (by rfl) ?_ hHeld ?_;rotate_left 1
        ·intro w' hSw;obtain ⟨s0,s1,s2,s3,s4,s5,s6,s7⟩:=hSw;go_simp<;>with_reducible rfl
        try simp only [Act.put,bP,bO,bN]
        refine cK 5 (v:=?_) rfl (by kernel_rfl) (fun _ _ _ h=>h) (by rfl) ?_ hHeld ?_;rotate_left 1
        ·intro w' hSw;obtain ⟨s0,s1,s2,s3,s4,s5,s6,s7⟩:=hSw;go_simp<;>with_reducible rfl
        try simp only [Act.put,bP,bO,bN]
        refine cK 6 (v:=?_) rfl (by kernel_rfl) (fun _ _ _ h=>h) (by rfl) ?_ hHeld ?_;rotate_left 1
        ·intro w' hSw;obtain ⟨s0,s1,s2,s3,s4,s5,s6,s7⟩:=hSw;go_simp<;>with_reducible rfl
        try simp only [Act.put,bP,bO,bN]
        refine cK 7 (v:=?_) rfl (by kernel_rfl) (fun _ _ _ h=>h) (by rfl) ?_ hHeld ?_;rotate_left 1
        ·intro w' hSw;obtain ⟨s0,s1,s2,s3,s4,s5,s6,s7⟩:=hSw;go_simp<;>with_reducible rfl
        try simp only [Act.put,bP,bO,bN]
        refine cK 8 (v:=?_) rfl (by kernel_rfl) (fun _ _ _ h=>h) (by rfl) ?_ hHeld ?_;rotate_left 1
        ·intro w' hSw;obtain ⟨s0,s1,s2,s3,s4,s5,s6,s7⟩:=hSw;go_simp<;>with_reducible rfl
        try simp only [Act.put,bP,bO,bN]
        refine cK 9 (v:=?_) rfl (by kernel_rfl) (fun _ _ _ h=>h) (by rfl) ?_ hHeld ?_;rotate_left 1
        ·intro w' hSw;obtain ⟨s0,s1,s2,s3,s4,s5,s6,s7⟩:=hSw;go_simp<;>with_reducible rfl
        try simp only [Act.put,bP,bO,bN]
        refine cK 10 (v:=?_) rfl (by kernel_rfl) (fun _ _ _ h=>h) (by rfl) ?_ hHeld ?_;rotate_left 1
        ·intro w' hSw;obtain ⟨s0,s1,s2,s3,s4,s5,s6,s7⟩:=hSw;go_simp<;>with_reducible rfl
        try simp only [Act.put,bP,bO,bN]
        have yI:=lH (aD (Below.refl wa.heap.size wa));generalize wa.drew=v0 at *;refine aU 4 (by kernel_rfl) rfl (fun K hK=>?_);go_simp;refine (aDd HVM.o v0).mono ?_;rintro e w4 ⟨dU,r4,rfl,h4⟩;have bS:Hid (Below wa.heap.size wa w4):=lH (yI.o.tm dU);have H4:=lH h4;clear dU h4;go_simp;refine hK.out _ _ ?_ (fun hHeld=>?_)
        ·exact HSS.o _ (HFa.o.bl bS.o) (nR.o.bl bS.o) (aBx.o.bl bS.o)
        clear hK K
        try simp only [Act.put,bP,bO,bN]
        refine aU 11 (by kernel_rfl) rfl (fun K hK=>?_);go_simp;refine (aES (some ⟨fm.gc,0,none⟩) (aI x) (aI x) fm.u (aS x mi).1 (aS x mi).2 (some ⟨ga,0,none⟩) (aI x) (aI x) (bX x ms) w4 (HQC.o.up bS.o) (HUF.o.up bS.o) (HQE.o.up bS.o) lR HN8.o (fun p hp=>cV (HFM.o.cf p hp) (by decide)) (fun p hp=>cV (aM9.o p hp) (by decide)) (cV HFM.o.fr (by decide))).mono ?_;rintro e w5 ⟨eD,r5,rfl,h5⟩;have bW:Hid (Below wa.heap.size wa w5):=lH (bS.o.tm eD);have H5:=lH h5;replace H4:=lH (H4.o.up eD);clear eD h5;go_simp;refine hK.out _ _ ?_ (fun hHeld=>?_)
        ·exact HSS.o _ (HFa.o.bl bW.o) (nR.o.bl bW.o) (aBx.o.bl bW.o)
        clear hK K
        try simp only [Act.put,bP,bO,bN]
        refine aU 12 (by kernel_rfl) rfl (fun K hK=>?_);go_simp;refine (TD H4.o H5.o HSB.o).mono ?_;rintro e w6 ⟨fQ,r6,rfl,h6⟩;have dR:Hid (Below wa.heap.size wa w6):=lH (bW.o.tm fQ);have H6:=lH h6;clear fQ h6 H4 H5 bS bW;go_simp;refine hK.out _ _ ?_ (fun hHeld=>?_)
        ·exact HSS.o _ (HFa.o.bl dR.o) (nR.o.bl dR.o) (aBx.o.bl dR.o)
        clear hK K
        try simp only [Act.put,bP,bO,bN]
        refine aU 13 (by kernel_rfl) rfl (fun K hK=>?_);go_simp;have E8:=lH (aG.new w6 115 #[.bool r6.b1,.slice r6.A r6.n r6.c,.bool r6.b2,.slice r6.A2 r6.m r6.d]);have lQ:Below w6.heap.size w6 (w6.alloc (.cells #[.bool r6.b1,.slice r6.A r6.n r6.c,.bool r6.b2,.slice r6.A2 r6.m r6.d] 115)):=bA;have bK:Hid (Below wa.heap.size wa (w6.alloc (.cells #[.bool r6.b1,.slice r6.A r6.n r6.c,.bool r6.b2,.slice r6.A2 r6.m r6.d] 115))):=lH (dR.o.tm lQ);replace H6:=lH (H6.o.up lQ);clear lQ dR;generalize w6.alloc (.cells #[.bool r6.b1,.slice r6.A r6.n r6.c,.bool r6.b2,.slice r6.A2 r6.m r6.d] 115)=w7b at *;generalize w6.heap.size=gb at *;refine hK.out _ _ ?_ (fun hHeld=>?_)
        ·exact HSS.o _ (HFa.o.bl bK.o) (nR.o.bl bK.o) (aBx.o.bl bK.o)
        clear hK K
        try simp only [Act.put,bP,bO,bN]
        refine aU 14 (by kernel_rfl) rfl (fun K hK=>?_);refine aHX (by rfl) ?_;have HM7:=lH (MP HMa.o bK.o);refine aCi (.tmp 138) (.tmp 150) _ rfl wm.heap.size Tryz.underlying93 (.slice cA k cc) us _ rfl (HO.o.keep bK.o) r6 _ H6.o gb _ rfl E8.o HK6.o HM7.o.size ?_;intro v' w8 bF K6 hob;obtain ⟨vA,vc,hvv,-⟩:=bF.own.shape;rw [iC,List.length_singleton] at hvv;subst hvv;have oY:=lH bF;have tX:=lH (K6.blk _ _ _ (HFa.o.bl bK.o) (by decide));have p_:=lH (KO HM7.o K6.low lR);have HL8:=lH ((HLa.o.trans (bK.o.mono (rC HFa.o.lt))).trans (K6.low.mono aXz.o));refine hK.out _ _ ?_ (fun hHeld=>?_)
        ·exact HSS.o _ tX.o (K6.blk _ _ _ (nR.o.bl bK.o) (by decide)) (K6.blk _ _ _ (aBx.o.bl bK.o) (by decide))
        clear hK K
        try simp only [Act.put,bP,bO,bN]
        refine cK 15 (v:=?_) rfl (by kernel_rfl) (fun _ _ _ h=>h) (by rfl) ?_ hHeld ?_;rotate_left 1
        ·intro w' hSw;skip;go_simp<;>with_reducible rfl
        try simp only [Act.put,bP,bO,bN]
        refine wpAnyH_done (by kernel_rfl) ?_ _;refine aP (by rfl) ?_;clear hHeld bF K6 hob bK HM7 E8 H6 HSS HO HMa HLa HFa;have f3:=tX.o.cell 4;have fl:=tX.o.lt;have ff:=tX.o.frozen
        go_wp2_with fail
        go_roundw
        case rel=>exact ⟨k+1,_,us++[r6],aW,aQ l_.o,by rw [OJ.o];exact oY.o.far tX.o (by decide) (i:=4) rfl gS,tX.o.set_ 4 _,PO 4 _ p_.o,HL8.o.setCell lR _⟩
        case measure=>exact jW.o
       ·have lS:k=ms.length:=by omega
        subst lS;have fT:¬((ms.length:Nat):Int)<(ms.length:Int):=by omega
        have hoe:fH wr wm.heap.size (.slice cA ms.length cc) us (bD x ms (bX x ms)):=by
         have h:=HO.o;rw [nW (by rw [j_.o];exact lR)] at h;exact h
        obtain ⟨A9,c9,KZ,aLS,-,-,-⟩:=hoe.rd;rw [j_.o] at KZ aLS;injection KZ with KZ hv9b hv9c;subst KZ;subst hv9c;have aW4:=lH aLS;have hU:=L8 yN.o IS.o (i:=4) rfl rfl AH WE.o;have HIe:=lH (hU.mat HIm.o (fun b off e=>by injection e with e;injection e with e1 e2;have:=HGI.o;omega));have HRe:=lH (hU.rows HRm.o);have HVe:Hid (iF wr wr.heap.size (some ⟨ga,0,none⟩) (aI x) (bX x ms)):=lH (by
         have h:=(hU.vec HVm.o).rdq;rwa [show (bX x ms).length=aI x from by unfold bX;rw [rT];exact o3] at h)
        have HGe:=lH (HG.o.below WG.o tW.o);have aW5:=lH ((HR.o.below WG.o lR).more (by rw [<-eP.o];exact WG.o.size));have HBe:=lH (SX.o _ WG.o);have P6:=lH (P4.o.bl HBe.o);have WH:Hid (w.heap.size+1<gi):=lH (by have h1:=HGI.o;have h2:=HWF.o;have h3:=dW.o;omega);have aW1:Hid (jZ wr wr.heap.size RA ms.length (aR x ms)):=lH (by
         obtain ⟨A',c',e,h,-⟩:=HRe.o.rd;injection e with e1 e2 e3;have hl:(aR x ms).length=ms.length:=by unfold aR;rw [lB]
         rw [hl] at h;rw [e1];exact h)
        clear hU hoe aLS HO WE HIm HRm HVm aSr aM9 yN;have f0:=IS.o.cell 0;have f1:=IS.o.cell 1;have f2:=IS.o.cell 2;have f3:=IS.o.cell 3;have f4:=IS.o.cell 4;have fl:=IS.o.lt;have z0:=P6.o.cell 0;have z1:=P6.o.cell 1;have z2:=P6.o.cell 2;have z3:=P6.o.cell 3;have z4:=P6.o.cell 4;have zl:=P6.o.lt;have zf:=P6.o.frozen
        go_wp2_with fail
        have hq:=qM (v0:=.pointer (some ⟨g,0,none⟩)) (v1:=.slice RA ms.length rc) (v2:=.slice (some ⟨gi,0,none⟩) (aA x).length (aA x).length) (v3:=.slice (some ⟨ga,0,none⟩) (aI x) (aI x)) (v4:=.slice cA ms.length cc) P6.o;have p0:=hq.cell 0;have p1:=hq.cell 1;have p2:=hq.cell 2;have p3:=hq.cell 3;have p4:=hq.cell 4;have hu:=EJ (p':=some ⟨g,0,none⟩) (B1:=RA) (k1:=ms.length) (d1:=rc) (B2:=some ⟨gi,0,none⟩) (k2:=(aA x).length) (d2:=(aA x).length) (B3:=some ⟨ga,0,none⟩) (k3:=aI x) (d3:=aI x) (B4:=cA) (k4:=ms.length) (d4:=cc) P6.o
        exact bodyPost_ret (v:=.tuple #[.agg #[.pointer (some ⟨g,0,none⟩),.slice RA ms.length rc,.slice (some ⟨gi,0,none⟩) (aA x).length (aA x).length,.slice (some ⟨ga,0,none⟩) (aI x) (aI x),.slice cA ms.length cc],.bool true]) (by simp [results,Tryz.results77,go_sem,p0,p1,p2,p3,p4]) rfl ⟨k_ (HW.o.trans (HBe.o.mono (by have:=dW.o;omega))) (Nat.le_succ _),.inr ⟨HER.o,_,rfl,g,_,_,RA,rc,gi,ga,cA,cc,rfl,⟨fun b off e=>cV HRB.o (HRe.o.base b off e),by have:=WH.o;omega⟩,hu.blk HGe.o (by decide),aW5.o.unP hu,hu.mat aW1.o (HRe.o.apart P6.o (by decide)),hu.mat HIe.o (fun b off e=>by injection e with e;injection e with e1 e2;have:=WH.o;omega),hu.row HVe.o,hu.row aW4.o⟩⟩
theorem zS {x:bE} {ms:List Mi} (h:b6 x ms=0):(∀ m∈ms,cX m.txt.data.toList=0)/\∀ m∈ms,1<=m.wt/\m.wt<=1000:=by
 have key:∀ m∈ms,cX m.txt.data.toList=0/\1<=m.wt/\m.wt<=1000:=fun m hm=>by
  unfold b6 at h
  split at h
  ·exact absurd h (by assumption)
  ·split at h
   ·omega
   ·have h1:=zU h m hm
    unfold DW at h1
    split at h1
    ·omega
    ·split at h1
     ·omega
     ·split at h1
      ·exact absurd h1 (by assumption)
      ·split at h1
       ·omega
       ·rename_i h2 h3
        exact ⟨by omega,by omega,by omega⟩
 exact ⟨fun m hm=>(key m hm).1,fun m hm=>(key m hm).2⟩
def pQ (x:bE) (ms:List Mi) (c:Int):Prop:=(b6 x ms≠0/\c=b6 x ms)\/(b6 x ms=0/\¬mI x ms/\c=8)\/(b6 x ms=0/\mI x ms/\¬(∀ q∈bX x ms,bZ q)/\c=2)\/(b6 x ms=0/\mI x ms/\(∀ q∈bX x ms,bZ q)/\c=0)
theorem pQ.zero {x:bE} {ms:List Mi} {c:Int} (h:pQ x ms c) (h0:c=0):b6 x ms=0/\mI x ms/\∀ q∈bX x ms,bZ q:=by
 rcases h with ⟨h1,h2⟩ | ⟨h1,h2,h3⟩ | ⟨h1,h2,h3,h4⟩ | ⟨h1,h2,h3,h4⟩
 ·omega
 ·omega
 ·omega
 ·exact ⟨h1,h2,h3⟩
theorem pQ.one {x:bE} {ms:List Mi} {c d:Int} (h:pQ x ms c) (g:pQ x ms d):c=d:=by
 rcases h with ⟨h1,h2⟩ | ⟨h1,h2,h3⟩ | ⟨h1,h2,h3,h4⟩ | ⟨h1,h2,h3,h4⟩<;>rcases g with ⟨g1,g2⟩ | ⟨g1,g2,g3⟩ | ⟨g1,g2,g3,g4⟩ | ⟨g1,g2,g3,g4⟩<;>first | omega | exact absurd g2 h2 | exact absurd h2 g2 | exact absurd g3 h3 | exact absurd h3 g3
def aX4 (x:bE) (ms:List Mi) (w:Wo) (e:Ending) (w':Wo):Prop:=Below w.heap.size w w'/\((∃ c:Int,c≠0/\pQ x ms c/\∃ p A1 n1 c1 A2 n2 c2 A3 n3 c3 A4 n4 c4,e=.returned (.tuple #[.agg #[.pointer p,.slice A1 n1 c1,.slice A2 n2 c2,.slice A3 n3 c3,.slice A4 n4 c4],.slice none 0 0,.int .i64 c]))\/
 (pQ x ms 0/\∃ fv A n c,e=.returned (.tuple #[fv,.slice A n c,.int .i64 0])/\sD x ms w.heap.size w' fv/\bG w' w'.heap.size A n ((bX x ms).map bV)/\n<=c/\c<=maxLen))
theorem aIz (h:cE) (x:bE) (h8:x.nodes.length<=8) (A:OA) (n c:Nat) (ms:List Mi) (w:Wo) (r:cS w w.heap.size h x) (hm:eG w w.heap.size A n ms) (hz:∀ m∈ms,m.txt.size<=maxLen) (hn:n<=9223372036854775807) (ht:dA w) :
    Calls Tryz.prog 48 #[.agg h.cells,.slice A n c] w (aX4 x ms w):=by
 have Q0:Below w.heap.size w ((w.alloc (.cells h.cells 29)).alloc (.cells #[.pointer none,.slice none 0 0,.slice none 0 0,.slice none 0 0,.slice none 0 0] 95)):=(bA).alloc (by simp) _;have HW:=lH Q0;have P0:=lH ((aG.new w 29 h.cells).alloc (.cells #[.pointer none,.slice none 0 0,.slice none 0 0,.slice none 0 0,.slice none 0 0] 95));have P4:Hid (aG ((w.alloc (.cells h.cells 29)).alloc (.cells #[.pointer none,.slice none 0 0,.slice none 0 0,.slice none 0 0,.slice none 0 0] 95)) (w.heap.size+1) 95 #[.pointer none,.slice none 0 0,.slice none 0 0,.slice none 0 0,.slice none 0 0]):=lH (aG.new_ (by simp));have HX:=lH (r.up Q0);have HM:=lH (hm.bm Q0);have HT:=lH (ht.up Q0);have HZ:=lH hz
 have dW:Hid (((w.alloc (.cells h.cells 29)).alloc (.cells #[.pointer none,.slice none 0 0,.slice none 0 0,.slice none 0 0,.slice none 0 0] 95)).heap.size=w.heap.size+1+1):=lH (by simp);clear Q0 hm r ht hz;obtain ⟨D0,r0,s0,D1,r1,s1,D2,r2,s2,D3,r3,s3,D4,r4,s4,D5,r5,s5⟩:=h;go_enter Tryz.func48,Tryz.ntmps48
 go_upto_region 1 with fail
 generalize (w.alloc (.cells (cE.cells ⟨D0,r0,s0,D1,r1,s1,D2,r2,s2,D3,r3,s3,D4,r4,s4,D5,r5,s5⟩) 29)).alloc (.cells #[.pointer none,.slice none 0 0,.slice none 0 0,.slice none 0 0,.slice none 0 0] 95)=W at *;obtain ⟨y0,y1,y2,y3,y4,y5,nf,nlt⟩:=a_ P0.o;dsimp only at y0 y1 y2 y3 y4 y5
 go_wp2_with fail
 refine (mS _ x A n c ms W HX.o HM.o HZ.o hn HT.o).mono ?_;rintro e w1 ⟨rfl,bH⟩;have bS:=lH bH;clear bH y0 y1 y2 y3 y4 y5 nf nlt;have HC0:=lH (rfl:b6 x ms=b6 x ms)
 by_cases iX:b6 x ms=0
 ·obtain ⟨ok,hl,jS⟩:=iU iX
  obtain ⟨hv,tQ⟩:=zS iX;have HC:=lH iX;have cH:=lH ok;have q_:=lH jS;have HL:=lH hl;have HV:=lH hv;have RW:=lH tQ;rw [iX];clear ok hl jS hv tQ iX;have PNX:=P0.o.bl bS.o;obtain ⟨y0,y1,y2,y3,y4,y5,nf,nlt⟩:=a_ PNX;dsimp only at y0 y1 y2 y3 y4 y5;clear PNX;have HN:Hid (n<=64):=lH (by have h1:=HM.o.1;have h2:=HL.o;omega)
  go_wp2_with fail
  refine (M_ _ x cH.o h8 A n c ms w1 (HX.o.up bS.o) (HM.o.bm bS.o) HN.o q_.o HV.o RW.o).mono ?_;rintro e w2 ⟨bL,lT⟩;have bW:=lH (bS.o.tm bL);clear bL y0 y1 y2 y3 y4 y5 nf nlt;rcases lT with ⟨fN,g,A1,c1,rfl⟩ | ⟨fN,fv,rfl,K8⟩
  ·have HR:=lH fN
   clear fN;have P6:=lH (P4.o.bl bW.o);have z0:=P6.o.cell 0;have z1:=P6.o.cell 1;have z2:=P6.o.cell 2;have z3:=P6.o.cell 3;have z4:=P6.o.cell 4;have zl:=P6.o.lt;have zf:=P6.o.frozen
   go_wp2_with fail
   have hq:=(qM (v0:=.pointer none) (v1:=.slice none 0 0) (v2:=.slice none 0 0) (v3:=.slice none 0 0) (v4:=.slice none 0 0) P6.o).alloc (.cells #[.pointer (some ⟨g,0,none⟩),.slice A1 ms.length c1,.slice none 0 0,.slice none 0 0,.slice none 0 0] 95);have p0:=hq.cell 0;have p1:=hq.cell 1;have p2:=hq.cell 2;have p3:=hq.cell 3;have p4:=hq.cell 4;exact bodyPost_ret (v:=.tuple #[.agg #[.pointer none,.slice none 0 0,.slice none 0 0,.slice none 0 0,.slice none 0 0],.slice none 0 0,.int .i64 8]) (by simp [results,Tryz.results48,go_sem,p0,p1,p2,p3,p4]) rfl ⟨(k_ (HW.o.trans (bW.o.mono (by have:=dW.o;omega))) (Nat.le_succ _)).alloc (by have:=bW.o.size;have:=dW.o;simp [World.setCell];omega) _,.inl ⟨8,by decide,.inr (.inl ⟨HC.o,HR.o,rfl⟩),_,_,_,_,_,_,_,_,_,_,_,_,_,rfl⟩⟩
  ·have HR:=lH fN
   have N1:=lH K8;clear fN K8;have fZ:Hid (w.heap.size+1<w1.heap.size):=lH (by have:=bS.o.size;have:=dW.o;omega);obtain ⟨g,m,y,A1,c1,gi,ga,B1,d1,rfl,K_,AB,uP,M3,M1,MZ,K9⟩:=N1.o;clear K_ AB uP M3 M1 K9;have hz:Below w2.heap.size w2 (w2.alloc (.cells #[.pointer (some ⟨g,0,none⟩),.slice A1 ms.length c1,.slice (some ⟨gi,0,none⟩) (aA x).length (aA x).length,.slice (some ⟨ga,0,none⟩) (aI x) (aI x),.slice B1 ms.length d1] 95)):=bA;have VY:=lH hz;have mA:=lH (aG.new w2 95 #[.pointer (some ⟨g,0,none⟩),.slice A1 ms.length c1,.slice (some ⟨gi,0,none⟩) (aA x).length (aA x).length,.slice (some ⟨ga,0,none⟩) (aI x) (aI x),.slice B1 ms.length d1]);have HQ:=lH (MZ.bm hz);clear hz MZ
   go_upto_region 7 with fail
   generalize w2.alloc (.cells #[.pointer (some ⟨g,0,none⟩),.slice A1 ms.length c1,.slice (some ⟨gi,0,none⟩) (aA x).length (aA x).length,.slice (some ⟨ga,0,none⟩) (aI x) (aI x),.slice B1 ms.length d1] 95)=wz at *;generalize hgt:w2.heap.size=gt at *;have HGT:=lH hgt;clear hgt;have x3:=mA.o.cell 3;have xl:=mA.o.lt;have HBZ:Hid (Below W.heap.size W wz):=lH (bW.o.trans (VY.o.mono (by rw [<-HGT.o];exact bW.o.size)));have e_:aI x<=8:=cV (fR cH.o).2 h8
   go_wp2_with fail
   refine (qB (some ⟨ga,0,none⟩) (aI x) (aI x) (bX x ms) wz HQ.o (by omega) (HT.o.up HBZ.o)).mono ?_;rintro e w3 ⟨cR,pW,uN⟩;have dR:=lH (HBZ.o.tm cR);have aBu:=lH (mA.o.bl cR);have HZ3:Hid (Below gt w2 w3):=lH (VY.o.trans (cR.mono (cV (Nat.le_of_eq HGT.o.symm) VY.o.size)));have xD:=lH pW;have tT:=lH uN;have P6:=lH (P4.o.bl dR.o);have yN:Hid (sD x ms w1.heap.size w3 (.agg #[.pointer (some ⟨g,0,none⟩),.slice A1 ms.length c1,.slice (some ⟨gi,0,none⟩) (aA x).length (aA x).length,.slice (some ⟨ga,0,none⟩) (aI x) (aI x),.slice B1 ms.length d1])):=lH (N1.o.up (by rw [HGT.o];exact HZ3.o));clear cR pW uN VY mA HQ x3 xl N1;have z0:=P6.o.cell 0;have z1:=P6.o.cell 1;have z2:=P6.o.cell 2;have z3:=P6.o.cell 3;have z4:=P6.o.cell 4;have zl:=P6.o.lt;have zf:=P6.o.frozen;have x0:=aBu.o.cell 0
   have x1:=aBu.o.cell 1;have x2:=aBu.o.cell 2;have x3:=aBu.o.cell 3;have x4:=aBu.o.cell 4;have xl:=aBu.o.lt;have hq:=qM (v0:=.pointer (some ⟨g,0,none⟩)) (v1:=.slice A1 ms.length c1) (v2:=.slice (some ⟨gi,0,none⟩) (aA x).length (aA x).length) (v3:=.slice (some ⟨ga,0,none⟩) (aI x) (aI x)) (v4:=.slice B1 ms.length d1) P6.o;have HU:=lH (EJ (p':=some ⟨g,0,none⟩) (B1:=A1) (k1:=ms.length) (d1:=c1) (B2:=some ⟨gi,0,none⟩) (k2:=(aA x).length) (d2:=(aA x).length) (B3:=some ⟨ga,0,none⟩) (k3:=aI x) (d3:=aI x) (B4:=B1) (k4:=ms.length) (d4:=d1) P6.o);have SV:=lH hq
   have CU:=lH (k_ (v0:=.pointer (some ⟨g,0,none⟩)) (v1:=.slice A1 ms.length c1) (v2:=.slice (some ⟨gi,0,none⟩) (aA x).length (aA x).length) (v3:=.slice (some ⟨ga,0,none⟩) (aI x) (aI x)) (v4:=.slice B1 ms.length d1) (HW.o.trans (dR.o.mono (by have:=dW.o;omega))) (Nat.le_succ w.heap.size));clear hq
   by_cases hf:∀ q∈bX x ms,bZ q
   ·obtain ⟨A6,n6,c6,rfl,xK,h61,h62⟩:=xD.o hf
    have V_:=lH xK;clear xK xD tT
    go_wp2_with fail
    have p0:=SV.o.cell 0;have p1:=SV.o.cell 1;have p2:=SV.o.cell 2;have p3:=SV.o.cell 3;have p4:=SV.o.cell 4;exact bodyPost_ret (v:=.tuple #[.agg #[.pointer (some ⟨g,0,none⟩),.slice A1 ms.length c1,.slice (some ⟨gi,0,none⟩) (aA x).length (aA x).length,.slice (some ⟨ga,0,none⟩) (aI x) (aI x),.slice B1 ms.length d1],.slice A6 n6 c6,.int .i64 0]) (by simp [results,Tryz.results48,go_sem,p0,p1,p2,p3,p4]) rfl ⟨CU.o,.inr ⟨.inr (.inr (.inr ⟨HC.o,HR.o,hf,rfl⟩)),_,_,_,_,rfl,(yN.o.unP HU.o fZ.o).low (by have:=fZ.o;omega),HU.o.strs V_.o,h61,h62⟩⟩
   ·obtain rfl:=tT.o hf
    clear xD tT
    go_wp2_with fail
    have p0:=SV.o.cell 0;have p1:=SV.o.cell 1;have p2:=SV.o.cell 2;have p3:=SV.o.cell 3;have p4:=SV.o.cell 4;exact bodyPost_ret (v:=.tuple #[.agg #[.pointer (some ⟨g,0,none⟩),.slice A1 ms.length c1,.slice (some ⟨gi,0,none⟩) (aA x).length (aA x).length,.slice (some ⟨ga,0,none⟩) (aI x) (aI x),.slice B1 ms.length d1],.slice none 0 0,.int .i64 2]) (by simp [results,Tryz.results48,go_sem,p0,p1,p2,p3,p4]) rfl ⟨CU.o,.inl ⟨2,by decide,.inr (.inr (.inl ⟨HC.o,HR.o,hf,rfl⟩)),_,_,_,_,_,_,_,_,_,_,_,_,_,rfl⟩⟩
 ·have aEF:(b6 x ms != 0)=true:=by simp [iX]
  have P6:=lH (P4.o.bl bS.o);have z0:=P6.o.cell 0;have z1:=P6.o.cell 1;have z2:=P6.o.cell 2;have z3:=P6.o.cell 3;have z4:=P6.o.cell 4;have zl:=P6.o.lt;have zf:=P6.o.frozen
  go_wp2_with fail
  have hq:=(qM (v0:=.pointer none) (v1:=.slice none 0 0) (v2:=.slice none 0 0) (v3:=.slice none 0 0) (v4:=.slice none 0 0) P6.o);have p0:=hq.cell 0;have p1:=hq.cell 1;have p2:=hq.cell 2;have p3:=hq.cell 3;have p4:=hq.cell 4;exact bodyPost_ret (v:=.tuple #[.agg #[.pointer none,.slice none 0 0,.slice none 0 0,.slice none 0 0,.slice none 0 0],.slice none 0 0,.int .i64 (b6 x ms)]) (by simp [results,Tryz.results48,go_sem,p0,p1,p2,p3,p4]) rfl ⟨k_ (HW.o.trans (bS.o.mono (by have:=dW.o;omega))) (Nat.le_succ _),.inl ⟨_,iX,.inl ⟨iX,rfl⟩,_,_,_,_,_,_,_,_,_,_,_,_,_,rfl⟩⟩
def aX8 (x:bE) (ms:List Mi) (w:Wo) (e:Ending) (w':Wo):Prop:=Below w.heap.size w w'/\((∃ c:Int,c≠0/\pQ x ms c/\e=.returned (.tuple #[.slice none 0 0,.int .i64 c]))\/
 (pQ x ms 0/\∃ A n c,e=.returned (.tuple #[.slice A n c,.int .i64 0])/\bG w' w'.heap.size A n ((bX x ms).map bV)/\n<=c/\c<=maxLen))
theorem VT (h:cE) (x:bE) (h8:x.nodes.length<=8) (A:OA) (n c:Nat) (ms:List Mi) (w:Wo) (r:cS w w.heap.size h x) (hm:eG w w.heap.size A n ms) (hz:∀ m∈ms,m.txt.size<=maxLen) (hn:n<=9223372036854775807) (ht:dA w) :
    Calls Tryz.prog 28 #[.agg h.cells,.slice A n c] w (aX8 x ms w):=by
 have K0:Below w.heap.size w (w.alloc (.cells h.cells 29)):=bA;have HK:=lH K0;have P0:=lH (aG.new w 29 h.cells);have HF:=lH (aIz h x h8 A n c ms (w.alloc (.cells h.cells 29)) (r.up K0) (hm.bm K0) hz hn (ht.up K0));have dW:Hid (w.heap.size<=(w.alloc (.cells h.cells 29)).heap.size):=lH K0.size;clear K0 hm r ht hz;obtain ⟨D0,r0,s0,D1,r1,s1,D2,r2,s2,D3,r3,s3,D4,r4,s4,D5,r5,s5⟩:=h;obtain ⟨y0,y1,y2,y3,y4,y5,nf,nlt⟩:=a_ P0.o;dsimp only at y0 y1 y2 y3 y4 y5;go_enter Tryz.func28,Tryz.ntmps28
 go_wp2_with fail
 generalize w.alloc (.cells (cE.cells ⟨D0,r0,s0,D1,r1,s1,D2,r2,s2,D3,r3,s3,D4,r4,s4,D5,r5,s5⟩) 29)=W at *;refine HF.o.mono ?_;rintro e w1 ⟨bH,lT⟩;have bS:=lH (HK.o.trans (bH.mono dW.o));clear bH y0 y1 y2 y3 y4 y5 nf nlt HF;rcases lT with ⟨d,hd,sF,p,A1,n1,c1,A2,n2,c2,A3,n3,c3,A4,n4,c4,rfl⟩ | ⟨sF,fv,A6,n6,c6,rfl,⟨g,m,y,A1,c1,gi,ga,B1,d1,rfl,-⟩,xK,h61,h62⟩
 ·have HE:=lH sF
  have HD:=lH hd;clear sF hd
  go_wp2_with fail
  go_ret2;exact ⟨bS.o.alloc bS.o.size _,.inl ⟨d,HD.o,HE.o,rfl⟩⟩
 ·have HE:=lH sF
  have V_:=lH xK;clear sF xK
  go_wp2_with fail
  go_ret2;refine ⟨bS.o.alloc bS.o.size _,.inr ⟨HE.o,_,_,_,rfl,?_,h61,h62⟩⟩;have hb:Below w1.heap.size w1 (w1.alloc (.cells #[.pointer (some ⟨g,0,none⟩),.slice A1 ms.length c1,.slice (some ⟨gi,0,none⟩) (aA x).length (aA x).length,.slice (some ⟨ga,0,none⟩) (aI x) (aI x),.slice B1 ms.length d1] 95)):=bA;exact (V_.o.below hb lR).more hb.size
theorem IE.low {w:Wo} {base base':Nat} {v:Value} {hs:List Hd} {vss:List (List ByteArray)} (m:IE w base v hs vss) (h:base'<=base):IE w base' v hs vss:=⟨⟨m.own.1,by
 rcases m.own.2 with h1 | ⟨g,cap,cur,h1,h2,h3⟩
 ·exact .inl h1
 ·exact .inr ⟨g,cap,cur,h1,cV h h2,h3⟩⟩,m.len,m.rows⟩
def aQR (x:bE) (ms:List Mi) (w:Wo) (e:Ending) (w':Wo):Prop:=Below w.heap.size w w'/\((∃ c:Int,c≠0/\pQ x ms c/\e=.returned (.tuple #[.agg #[.pointer none,.slice none 0 0,.slice none 0 0,.slice none 0 0,.slice none 0 0],.int .i64 c]))\/
 (pQ x ms 0/\∃ fv,e=.returned (.tuple #[fv,.int .i64 0])/\sD x ms w.heap.size w' fv))
theorem y9 (h:cE) (x:bE) (h8:x.nodes.length<=8) (A:OA) (n c:Nat) (ms:List Mi) (w:Wo) (r:cS w w.heap.size h x) (hm:eG w w.heap.size A n ms) (hz:∀ m∈ms,m.txt.size<=maxLen) (hn:n<=9223372036854775807) (ht:dA w) :
    Calls Tryz.prog 73 #[.agg h.cells,.slice A n c] w (aQR x ms w):=by
 have Q0:Below w.heap.size w ((w.alloc (.cells h.cells 29)).alloc (.cells #[.pointer none,.slice none 0 0,.slice none 0 0,.slice none 0 0,.slice none 0 0] 95)):=(bA).alloc (by simp) _;have HW:=lH Q0;have P0:=lH ((aG.new w 29 h.cells).alloc (.cells #[.pointer none,.slice none 0 0,.slice none 0 0,.slice none 0 0,.slice none 0 0] 95));have P4:Hid (aG ((w.alloc (.cells h.cells 29)).alloc (.cells #[.pointer none,.slice none 0 0,.slice none 0 0,.slice none 0 0,.slice none 0 0] 95)) (w.heap.size+1) 95 #[.pointer none,.slice none 0 0,.slice none 0 0,.slice none 0 0,.slice none 0 0]):=lH (aG.new_ (by simp));have HX:=lH (r.up Q0);have HM:=lH (hm.bm Q0);have HT:=lH (ht.up Q0);have HZ:=lH hz
 have dW:Hid (((w.alloc (.cells h.cells 29)).alloc (.cells #[.pointer none,.slice none 0 0,.slice none 0 0,.slice none 0 0,.slice none 0 0] 95)).heap.size=w.heap.size+1+1):=lH (by simp);clear Q0 hm r ht hz;obtain ⟨D0,r0,s0,D1,r1,s1,D2,r2,s2,D3,r3,s3,D4,r4,s4,D5,r5,s5⟩:=h;go_enter Tryz.func73,Tryz.ntmps73
 go_upto_region 1 with fail
 generalize (w.alloc (.cells (cE.cells ⟨D0,r0,s0,D1,r1,s1,D2,r2,s2,D3,r3,s3,D4,r4,s4,D5,r5,s5⟩) 29)).alloc (.cells #[.pointer none,.slice none 0 0,.slice none 0 0,.slice none 0 0,.slice none 0 0] 95)=W at *;obtain ⟨y0,y1,y2,y3,y4,y5,nf,nlt⟩:=a_ P0.o;dsimp only at y0 y1 y2 y3 y4 y5
 go_wp2_with fail
 refine (VT _ x h8 A n c ms W HX.o HM.o HZ.o hn HT.o).mono ?_;rintro e w1 ⟨bH,lT⟩;have bS:=lH bH;clear bH y0 y1 y2 y3 y4 y5 nf nlt;rcases lT with ⟨d,hd,sF,rfl⟩ | ⟨sF,A6,n6,c6,rfl,-,-,-⟩
 ·have HE:=lH sF
  have HD:=lH hd;have hdb:(d != 0)=true:=by simp [hd]
  clear sF hd;have P6:=lH (P4.o.bl bS.o);have z0:=P6.o.cell 0;have z1:=P6.o.cell 1;have z2:=P6.o.cell 2;have z3:=P6.o.cell 3;have z4:=P6.o.cell 4;have zl:=P6.o.lt;have zf:=P6.o.frozen
  go_wp2_with fail
  have hq:=(qM (v0:=.pointer none) (v1:=.slice none 0 0) (v2:=.slice none 0 0) (v3:=.slice none 0 0) (v4:=.slice none 0 0) P6.o);have p0:=hq.cell 0;have p1:=hq.cell 1;have p2:=hq.cell 2;have p3:=hq.cell 3;have p4:=hq.cell 4;exact bodyPost_ret (v:=.tuple #[.agg #[.pointer none,.slice none 0 0,.slice none 0 0,.slice none 0 0,.slice none 0 0],.int .i64 d]) (by simp [results,Tryz.results73,go_sem,p0,p1,p2,p3,p4]) rfl ⟨k_ (HW.o.trans (bS.o.mono (by have:=dW.o;omega))) (Nat.le_succ _),.inl ⟨_,HD.o,HE.o,rfl⟩⟩
 ·obtain ⟨iX,fN,AA⟩:=sF.zero rfl
  obtain ⟨ok,hl,jS⟩:=iU iX;obtain ⟨hv,tQ⟩:=zS iX;have HE:=lH sF;have HR:=lH fN;have cH:=lH ok;have q_:=lH jS;have HV:=lH hv;have RW:=lH tQ;have HN:Hid (n<=64):=lH (by have h1:=HM.o.1;omega);clear ok hl jS hv tQ iX fN AA sF;have PNX:=P0.o.bl bS.o;obtain ⟨y0,y1,y2,y3,y4,y5,nf,nlt⟩:=a_ PNX;dsimp only at y0 y1 y2 y3 y4 y5;clear PNX
  go_wp2_with fail
  refine (M_ _ x cH.o h8 A n c ms w1 (HX.o.up bS.o) (HM.o.bm bS.o) HN.o q_.o HV.o RW.o).mono ?_;rintro e w2 ⟨bL,lT⟩;have bW:=lH (bS.o.tm bL);clear bL y0 y1 y2 y3 y4 y5 nf nlt;rcases lT with ⟨fN,g,A1,c1,rfl⟩ | ⟨-,fv,rfl,K8⟩
  ·exact absurd HR.o fN
  have N1:=lH K8;clear K8;have fZ:Hid (w.heap.size+1<w1.heap.size):=lH (by have:=bS.o.size;have:=dW.o;omega);obtain ⟨g,m,y,A1,c1,gi,ga,B1,d1,rfl,K_,AB,uP,M3,M1,MZ,K9⟩:=N1.o;clear K_ AB uP M3 M1 MZ K9;have hz:Below w2.heap.size w2 (w2.alloc (.cells #[.pointer (some ⟨g,0,none⟩),.slice A1 ms.length c1,.slice (some ⟨gi,0,none⟩) (aA x).length (aA x).length,.slice (some ⟨ga,0,none⟩) (aI x) (aI x),.slice B1 ms.length d1] 95)):=bA;have VY:=lH hz;have mA:=lH (aG.new w2 95 #[.pointer (some ⟨g,0,none⟩),.slice A1 ms.length c1,.slice (some ⟨gi,0,none⟩) (aA x).length (aA x).length,.slice (some ⟨ga,0,none⟩) (aI x) (aI x),.slice B1 ms.length d1]);clear hz
  go_upto_region 5 with fail
  generalize w2.alloc (.cells #[.pointer (some ⟨g,0,none⟩),.slice A1 ms.length c1,.slice (some ⟨gi,0,none⟩) (aA x).length (aA x).length,.slice (some ⟨ga,0,none⟩) (aI x) (aI x),.slice B1 ms.length d1] 95)=wz at *;generalize hgt:w2.heap.size=gt at *;have HGT:=lH hgt;clear hgt;have dR:Hid (Below W.heap.size W wz):=lH (bW.o.trans (VY.o.mono (by rw [<-HGT.o];exact bW.o.size)));have P6:=lH (P4.o.bl dR.o);have yN:Hid (sD x ms w1.heap.size wz (.agg #[.pointer (some ⟨g,0,none⟩),.slice A1 ms.length c1,.slice (some ⟨gi,0,none⟩) (aA x).length (aA x).length,.slice (some ⟨ga,0,none⟩) (aI x) (aI x),.slice B1 ms.length d1])):=lH (N1.o.up (by rw [HGT.o];exact VY.o));clear VY N1;have z0:=P6.o.cell 0;have z1:=P6.o.cell 1;have z2:=P6.o.cell 2;have z3:=P6.o.cell 3;have z4:=P6.o.cell 4;have zl:=P6.o.lt;have zf:=P6.o.frozen;have x0:=mA.o.cell 0;have x1:=mA.o.cell 1
  have x2:=mA.o.cell 2;have x3:=mA.o.cell 3;have x4:=mA.o.cell 4;have xl:=mA.o.lt;have HU:=lH (EJ (p':=some ⟨g,0,none⟩) (B1:=A1) (k1:=ms.length) (d1:=c1) (B2:=some ⟨gi,0,none⟩) (k2:=(aA x).length) (d2:=(aA x).length) (B3:=some ⟨ga,0,none⟩) (k3:=aI x) (d3:=aI x) (B4:=B1) (k4:=ms.length) (d4:=d1) P6.o);have SV:=lH (qM (v0:=.pointer (some ⟨g,0,none⟩)) (v1:=.slice A1 ms.length c1) (v2:=.slice (some ⟨gi,0,none⟩) (aA x).length (aA x).length) (v3:=.slice (some ⟨ga,0,none⟩) (aI x) (aI x)) (v4:=.slice B1 ms.length d1) P6.o);have CU:=lH (k_ (v0:=.pointer (some ⟨g,0,none⟩)) (v1:=.slice A1 ms.length c1) (v2:=.slice (some ⟨gi,0,none⟩) (aA x).length (aA x).length) (v3:=.slice (some ⟨ga,0,none⟩) (aI x) (aI x)) (v4:=.slice B1 ms.length d1) (HW.o.trans (dR.o.mono (by have:=dW.o;omega))) (Nat.le_succ w.heap.size))
  go_wp2_with fail
  have p0:=SV.o.cell 0;have p1:=SV.o.cell 1;have p2:=SV.o.cell 2;have p3:=SV.o.cell 3;have p4:=SV.o.cell 4;exact bodyPost_ret (v:=.tuple #[.agg #[.pointer (some ⟨g,0,none⟩),.slice A1 ms.length c1,.slice (some ⟨gi,0,none⟩) (aA x).length (aA x).length,.slice (some ⟨ga,0,none⟩) (aI x) (aI x),.slice B1 ms.length d1],.int .i64 0]) (by simp [results,Tryz.results73,go_sem,p0,p1,p2,p3,p4]) rfl ⟨CU.o,.inr ⟨HE.o,_,rfl,(yN.o.unP HU.o fZ.o).low (by have:=fZ.o;omega)⟩⟩
def aQX (x:bE) (ms:List Mi) (w:Wo) (e:Ending) (w':Wo):Prop:=Below w.heap.size w w'/\((∃ c:Int,c≠0/\pQ x ms c/\e=.returned (.tuple #[.slice none 0 0,.int .i64 c]))\/
 (pQ x ms 0/\((∀ q∈bD x ms (bX x ms),bZ q)->∃ A n c,e=.returned (.tuple #[.slice A n c,.int .i64 0])/\bG w' w'.heap.size A n ((bD x ms (bX x ms)).map bV)/\n<=c/\c<=maxLen)/\(¬(∀ q∈bD x ms (bX x ms),bZ q)->e=.returned (.tuple #[.slice none 0 0,.int .i64 2]))))
theorem BP (h:cE) (x:bE) (h8:x.nodes.length<=8) (A:OA) (n c:Nat) (ms:List Mi) (w:Wo) (r:cS w w.heap.size h x) (hm:eG w w.heap.size A n ms) (hz:∀ m∈ms,m.txt.size<=maxLen) (hn:n<=9223372036854775807) (ht:dA w) :
    Calls Tryz.prog 35 #[.agg h.cells,.slice A n c] w (aQX x ms w):=by
 have K0:Below w.heap.size w (w.alloc (.cells h.cells 29)):=bA;have HK:=lH K0;have P0:=lH (aG.new w 29 h.cells);have HF:=lH (y9 h x h8 A n c ms (w.alloc (.cells h.cells 29)) (r.up K0) (hm.bm K0) hz hn (ht.up K0));have HT:=lH (ht.up K0);have dW:Hid (w.heap.size<=(w.alloc (.cells h.cells 29)).heap.size):=lH K0.size;have j_:Hid (ms.length=n):=lH hm.1;clear K0 hm r ht hz;obtain ⟨D0,r0,s0,D1,r1,s1,D2,r2,s2,D3,r3,s3,D4,r4,s4,D5,r5,s5⟩:=h;obtain ⟨y0,y1,y2,y3,y4,y5,nf,nlt⟩:=a_ P0.o;dsimp only at y0 y1 y2 y3 y4 y5;go_enter Tryz.func35,Tryz.ntmps35
 go_wp2_with fail
 generalize w.alloc (.cells (cE.cells ⟨D0,r0,s0,D1,r1,s1,D2,r2,s2,D3,r3,s3,D4,r4,s4,D5,r5,s5⟩) 29)=W at *;refine HF.o.mono ?_;rintro e w1 ⟨bH,lT⟩;have bS:=lH (HK.o.trans (bH.mono dW.o));have xD:=lH (HT.o.up bH);clear bH y0 y1 y2 y3 y4 y5 nf nlt HF;rcases lT with ⟨d,hd,sF,rfl⟩ | ⟨sF,fv,rfl,⟨g,m,y,A1,c1,gi,ga,B1,d1,rfl,K_,AB,uP,M3,M1,MZ,K9⟩⟩
 ·have HE:=lH sF
  have HD:=lH hd;have hdb:(d != 0)=true:=by simp [hd]
  clear sF hd
  go_wp2_with fail
  go_ret2;exact ⟨bS.o.alloc bS.o.size _,.inl ⟨d,HD.o,HE.o,rfl⟩⟩
 ·obtain ⟨iX,fN,AA⟩:=sF.zero rfl
  obtain ⟨ok,hl,jS⟩:=iU iX;have HE:=lH sF;have hz:Below w1.heap.size w1 (w1.alloc (.cells #[.pointer (some ⟨g,0,none⟩),.slice A1 ms.length c1,.slice (some ⟨gi,0,none⟩) (aA x).length (aA x).length,.slice (some ⟨ga,0,none⟩) (aI x) (aI x),.slice B1 ms.length d1] 95)):=bA;have HQ:=lH (K9.bm hz);have mA:=lH (aG.new w1 95 #[.pointer (some ⟨g,0,none⟩),.slice A1 ms.length c1,.slice (some ⟨gi,0,none⟩) (aA x).length (aA x).length,.slice (some ⟨ga,0,none⟩) (aI x) (aI x),.slice B1 ms.length d1]);have HBZ:=lH (bS.o.tm hz);have tT:=lH (xD.o.up hz);have HL:Hid (ms.length<=64):=lH hl;clear sF K_ AB uP M3 M1 MZ K9 iX fN AA ok hl jS hz
  go_upto_region 4 with fail
  generalize w1.alloc (.cells #[.pointer (some ⟨g,0,none⟩),.slice A1 ms.length c1,.slice (some ⟨gi,0,none⟩) (aA x).length (aA x).length,.slice (some ⟨ga,0,none⟩) (aI x) (aI x),.slice B1 ms.length d1] 95)=wz at *;generalize w1.heap.size=gt at *;have x4:=mA.o.cell 4;have xl:=mA.o.lt
  go_wp2_with fail
  refine (qB B1 _ d1 (bD x ms (bX x ms)) wz HQ.o (by have:=HL.o;omega) tT.o).mono ?_;rintro e w3 ⟨cR,pW,uN⟩;have dR:=lH (HBZ.o.tm cR);have Y1:=lH pW;have HTB:=lH uN;clear cR pW uN x4 xl
  by_cases hf:∀ q∈bD x ms (bX x ms),bZ q
  ·obtain ⟨A7,n7,c7,rfl,hr7,h71,h72⟩:=Y1.o hf
   have NV:=lH hr7;have EF:=lH hf;clear hr7 Y1 HTB hf
   go_wp2_with fail
   go_ret2;exact ⟨dR.o,.inr ⟨HE.o,fun _=>⟨_,_,_,rfl,NV.o,h71,h72⟩,fun h=>absurd EF.o h⟩⟩
  ·obtain rfl:=HTB.o hf
   have EF:=lH hf;clear Y1 HTB hf
   go_wp2_with fail
   go_ret2;exact ⟨dR.o,.inr ⟨HE.o,fun h=>absurd h EF.o,fun _=>rfl⟩⟩
end
