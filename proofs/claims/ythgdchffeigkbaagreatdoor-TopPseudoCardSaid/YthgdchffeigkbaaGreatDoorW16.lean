import Derived.Test.YthgdchffeigkbaaGreatDoorW13
set_option linter.unusedVariables false
set_option linter.unusedSimpArgs false
namespace Go.Proofs.YthgdchffeigkbaaGreatDoor
set_option maxHeartbeats 8000000
set_option maxRecDepth 100000
variable {B T b base g i j k n : Nat} {M : List (List Rat)} {m : Mi} {ms : List Mi} {q : List Rat} {us : List Rv} {v : Value} {w w' : World} {x : bK}
section
open Go.ChangeShapes Go.WideShapes Go.ChangeAt Go.RowKit
attribute [local go_sem ↓] aE
attribute [local go_sem] aL aK aO a_
theorem tR(h:bZ)(x:bK)(ok:bJ x)(h8:x.nodes.length<=8)(g:Nat)(m:iC)(y:Value)(mi:Mi)(w:Wo)(r:cL w w.heap.size h x)(hg:aD w g 122 (m.cells y))(hr:eK w w.heap.size m x)(h0:mi.kind=0->0<=mV x mi.name)(h1:mi.kind≠0->mi.name∈x.nodes):Calls Tryz.prog 63 #[.agg h.cells,.pointer (some ⟨g,0,none⟩),mi.val] w (aTe x mi w):=by
 have eY:Hid (aH x=m.n1):=lH (by rw[<-qE ok];exact hr.r1.len);obtain⟨HX,HG,HR,H0,H1⟩:=iS r hg hr h0 h1;have bM:=lH ok;have hnb:m.n1<=8:=by rw[<-eY.o];exact b_ (eW ok).2 h8
 have JY:=lH hnb;obtain⟨kind,name,txt,wt⟩:=mi;simp only[Mi.val];have Q0:Below w.heap.size w ((((w.alloc (.cells h.cells 29)).alloc (.cells #[.pointer (some ⟨g,0,none⟩)] 90)).alloc (.cells #[.int .i64 kind,.string name,.string txt,.int .i64 wt] 57)).alloc AI):=(((Below.alloc (Below.refl _ w) lR _).alloc (by simp<;>omega) _).alloc (by simp<;>omega) _).alloc (by simp<;>omega) _;have HW:=lH Q0;have P0:=lH (((aD.new w 29 h.cells).alloc (.cells #[.pointer (some ⟨g,0,none⟩)] 90)).alloc (.cells #[.int .i64 kind,.string name,.string txt,.int .i64 wt] 57) |>.alloc AI);have P1:Hid (aD ((((w.alloc (.cells h.cells 29)).alloc (.cells #[.pointer (some ⟨g,0,none⟩)] 90)).alloc (.cells #[.int .i64 kind,.string name,.string txt,.int .i64 wt] 57)).alloc AI) (w.heap.size+1) 90 #[.pointer (some ⟨g,0,none⟩)]):=lH (((aD.new_ (by simp)).alloc _).alloc _);have P2:Hid (aD ((((w.alloc (.cells h.cells 29)).alloc (.cells #[.pointer (some ⟨g,0,none⟩)] 90)).alloc (.cells #[.int .i64 kind,.string name,.string txt,.int .i64 wt] 57)).alloc AI) (w.heap.size+1+1) 57 #[.int .i64 kind,.string name,.string txt,.int .i64 wt]):=lH ((aD.new_ (by simp)).alloc _);have P3:Hid (aD ((((w.alloc (.cells h.cells 29)).alloc (.cells #[.pointer (some ⟨g,0,none⟩)] 90)).alloc (.cells #[.int .i64 kind,.string name,.string txt,.int .i64 wt] 57)).alloc AI) (w.heap.size+1+1+1) 117 #[.slice none 0 0,.bool false,.slice none 0 0,.bool false,.slice none 0 0]):=lH (aD.new_ (by simp));clear r hg hr h0 h1 ok Q0 hnb;obtain⟨A0,n0,c0,A1,n1,c1,A2,n2,c2,A3,n3,c3,A4,n4,c4,A5,n5,c5,A6,n6,c6⟩:=m;simp only[iC.cells] at HG eY JY;go_enter Tryz.func63,Tryz.ntmps63
 go_upto_region 1 with fail
 have eC:Hid (((((w.alloc (.cells h.cells 29)).alloc (.cells #[.pointer (some ⟨g,0,none⟩)] 90)).alloc (.cells #[.int .i64 kind,.string name,.string txt,.int .i64 wt] 57)).alloc AI).heap.size=w.heap.size+1+1+1+1):=lH (by simp);generalize ((((w.alloc (.cells h.cells 29)).alloc (.cells #[.pointer (some ⟨g,0,none⟩)] 90)).alloc (.cells #[.int .i64 kind,.string name,.string txt,.int .i64 wt] 57)).alloc AI)=wa at *;obtain⟨b0,bl⟩:=P1.o.b1
 go_wp2_with fail
 refine(nJ g ⟨A0,n0,c0,A1,n1,c1,A2,n2,c2,A3,n3,c3,A4,n4,c4,A5,n5,c5,A6,n6,c6⟩ y wa (HG.o.bl HW.o)).mono ?_;rintro e w1 ⟨rfl,rfl⟩
 go_wp2_with fail
 refine(lS n1 wa (by have:=JY.o;omega)).mono ?_;rintro e w1 ⟨bO,gc,v,rfl,hgc,JT,hv⟩
 go_wp2_with fail
 refine(pV 0 w1 (by decide) (by decide)).mono ?_;rintro e w2 ⟨bH,u,rfl,hu⟩;have KP:=lH (LU (gc:=gc) (n:=n1) (JT.bl bH) (hv.up bH) hu);have dN:=lH (HW.o.trans ((bO.tm bH).mono HW.o.size));have J1:=lH (sS (w:=w2) (gc:=gc) (n:=n1) (u:=u));have ET:Hid (wa.heap.size<=gc/\gc<w2.heap.size):=lH ⟨hgc,kA JT.lt bH.size⟩;have mZ:Hid (wa.heap.size<=w2.heap.size):=lH (b_ bO.size bH.size);have hz:Below wa.heap.size wa w2:=bO.tm bH;replace P0:=lH (P0.o.bl hz);replace P1:=lH (P1.o.bl hz);replace P2:=lH (P2.o.bl hz);replace P3:=lH (P3.o.bl hz);clear bO bH hgc JT hv hu hz b0 bl
 go_upto_region 2 with fail
 unfold mkF at KP J1;generalize NP:w2.alloc (.cells #[.slice (some ⟨gc,0,none⟩) n1 n1,.bool u.b1,.slice u.A u.n u.c,.bool u.b2,.slice u.A2 u.m u.d] 117)=wb at *;clear NP;have xM:=lH (dN.o.tm J1.o);have EV:Hid (aCd wb wa.heap.size (w.heap.size+1) g ⟨A0,n0,c0,A1,n1,c1,A2,n2,c2,A3,n3,c3,A4,n4,c4,A5,n5,c5,A6,n6,c6⟩ y x w2.heap.size gc):=lH ⟨mZ.o,ET.o.1,by have:=eC.o;omega,by have:=eC.o;have:=HG.o.lt;omega,by have:=J1.o.size;have:=mZ.o;omega,P1.o.bl J1.o,HG.o.bl xM.o,(HR.o.below xM.o lR).more (by have:=eC.o;omega)⟩;replace P0:=lH (P0.o.bl J1.o);replace P2:=lH (P2.o.bl J1.o);replace P3:=lH (P3.o.bl J1.o);generalize FW:w2.heap.size=gf at *;have lF:Hid (wa.heap.size<=gf):=lH (by have:=mZ.o;omega);clear FW J1 dN P1 mZ HG;obtain⟨k0,kl⟩:=P2.o.b1
 go_upto_if 19 with fail
 clear k0 kl;obtain⟨D0,r0,s0,D1,r1,s1,D2,r2,s2,D3,r3,s3,D4,r4,s4,D5,r5,s5⟩:=h;by_cases hk:kind=0
 ·subst hk
  have hbi:=H0.o rfl;rcases qS x name with⟨h1,_⟩ | ⟨i,b,h1,h2,h3⟩
  ·exact absurd (show 0<=mV x name from hbi) (by omega)
  clear hbi h3;have HBI:=lH h1;have qW:=lH h2;clear h1 h2;obtain⟨y0,y1,y2,y3,y4,y5,nf,nlt⟩:=aX P0.o;dsimp only at y0 y1 y2 y3 y4 y5;have k1:=P2.o.cell 1;have kl:=P2.o.lt;(go_wp2_with fail);refine(vG _ x name wb (HX.o.up xM.o)).mono ?_;rintro e w5 ⟨rfl,eJ⟩;rw[HBI.o];(go_wp2_with fail);refine(oI (s:=(kT n1,0)) (EV.out.oth (eS eJ)) (KP.o.up eJ) (F7 n1) (by decide) eY.o.symm h8 bM.o qW.o false).mono ?_;rintro e w6 ⟨rfl,ho,vs2,u2,hf⟩;have HO:Hid (BJ gf gc wb w6):=lH ((eS eJ).trans ho);have HF:=lH hf;clear eJ ho hf k1 kl;clear y0 y1 y2 y3 y4 y5 nf nlt;have KO:Hid (aS x ⟨0,name,txt,wt⟩=(mY (sg false (dB b)) (aG x b.fr) (aG x b.to) (kT n1),0+sg false (jD b))):=lH (by
   obtain⟨a1,a2,a3,a4⟩:=jW qW.o;unfold aS;rw[if_pos rfl];simp only[HBI.o,jM,eY.o,dH,vf,a1,a2,a3,a4];rfl)
  have lP:Hid ((mY (sg false (dB b)) (aG x b.fr) (aG x b.to) (kT n1)).length=n1):=lH (by rw[mX];simp[kT]);have HL:Hid (Below w.heap.size w w6):=lH (xM.o.trans (HO.o.below (by have:=eC.o;have:=lF.o;omega) (by have:=eC.o;have:=ET.o.1;omega) xM.o.size));have P3b:Hid (aD w6 (w.heap.size+1+1+1) 117 #[.slice none 0 0,.bool false,.slice none 0 0,.bool false,.slice none 0 0]):=lH (HO.o.blk P3.o (by have:=eC.o;have:=lF.o;omega) (by have:=eC.o;have:=ET.o.1;omega));have HPC:Hid (gc≠w.heap.size+1+1+1):=lH (by have:=eC.o;have:=ET.o.1;omega);obtain⟨q0,q1,q2,q3,q4⟩:=HF.o.blk.a5;rw[lP.o] at q0;obtain⟨z0,z1,z2,z3,z4,zf,zl⟩:=P3b.o.e5;have ql:=HF.o.blk.lt;(go_wp2_with fail);have ZR:=lH (sF (gc:=gc) (n:=n1) (u:=u2) P3b.o);clear q0 z0 q1 z1 q2 z2 q3 z3 q4 z4 ql zl zf;obtain⟨p0,p1,p2,p3,p4⟩:=ZR.o.a5;unfold put5 at p0 p1 p2 p3 p4;refine bodyPost_ret (v:=.agg #[.slice (some ⟨gc,0,none⟩) n1 n1,.bool u2.b1,.slice u2.A u2.n u2.c,.bool u2.b2,.slice u2.A2 u2.m u2.d]) (by simp[results,Tryz.results63,go_sem,p0,p1,p2,p3,p4]) rfl ?_;refine⟨nM (gc:=gc) (n:=n1) (u:=u2) HL.o (by omega),gc,u2,by rw[eY.o],?_,?_⟩
  ·have h:=HF.o.rdq P3b.o HPC.o (n:=n1) (y:=u2)
   rw[eY.o,KO.o];rw[lP.o] at h;exact h
  ·rw[KO.o]
   exact HF.o.val.keep5 P3b.o (gc:=gc) (n:=n1) (u:=u2)
 ·have hkB:(kind == 0)=false:=by simp[hk]
  rw[hkB];have hm:=H1.o hk;obtain⟨YQ,ha2,ha3⟩:=bU bM.o hm;obtain⟨KC,EI⟩:=sK hm;have HA:Hid (∀N,Calls Tryz.prog 91 #[.slice D0 r0 s0,.string name] (wb.drewN N) fun e w'=>e=.returned (.int .i64 (dF x.nodes name:Int))/\w'=wb.drewN N):=lH fun N=>by
   have hx:=HX.o.up (bF xM.o N);exact(kD _ _ s0 x.nodes name _ hx.r0 hx.m0).mono fun e w' ⟨he,hw⟩=>⟨by rw[he,KC],hw.symm⟩
  have HBN:Hid (aG x name<n1):=lH (by rw[<-eY.o];exact ha2);have gC:=EV.out.rd.r0;simp only at gC;have hr1:=gC.2 (by have:=gC.len;omega);obtain⟨tb,to2,hA,S_,-⟩:=hr1;subst hA;have f0:=gC.at_ (i:=dF x.nodes name) (z:=(aG x name:Int)) (by rw[dH] at YQ;rw[gS ha3] at YQ ⊢;simpa using YQ);have BS:((dF x.nodes name:Nat):Int)<(n0:Int):=by have:=gC.len;omega
  have iW:(0:Int)<=((dF x.nodes name:Nat):Int):=by omega
  have lE:((dF x.nodes name:Nat):Int).toNat=dF x.nodes name:=jM _;have QX:tb<wb.heap.size:=kA S_ EV.out.hs;obtain⟨y0,y1,y2,y3,y4,y5,nf,nlt⟩:=aX P0.o;dsimp only at y0 y1 y2 y3 y4 y5;obtain⟨k0,k1,kl⟩:=P2.o.b2;obtain⟨b0,bl⟩:=EV.out.box.b1;have g0:wb.cell? ⟨g,0,none⟩=some (.slice (some ⟨tb,to2,none⟩) n0 c0):=EV.out.md.cell 0;have gl:=EV.out.md.lt;clear KC EI YQ ha2 ha3 hm gC S_;generalize dF x.nodes name=ia at *;generalize hK:aG x name=bus at *;have aGP:=lH hK;clear hK;(go_wp2_with fail)
  go_quiet ((go_at_call_of 91 (Value.string name);exact(HA.o _).mono (fun _ _ hh=>⟨hh.1,_,hh.2⟩)))
  have hd:=bF (Below.refl wb.heap.size wb) nq;replace EV:=lH (EV.out.oth (eS hd));replace KP:=lH (KP.o.up hd);replace P2:=lH (P2.o.bl hd);replace P3:=lH (P3.o.bl hd);replace xM:=lH (bF xM.o nq);clear y0 y1 y2 y3 y4 y5 nf nlt;clear hd k0 k1 kl b0 bl g0 gl f0 HA BS iW lE QX hkB P0 HX;generalize wb.drewN nq=wd at *;obtain⟨k0,kl⟩:=P2.o.b1;have OG:Hid ((kT n1).length=n1):=lH (by simp[kT]);by_cases vJ:kind=2
  ·subst vJ
   obtain⟨xe,hx,c0,c1,c2',c3',hv,l1,f1⟩:=KP.o.elem (j:=bus) (by rw[OG.o];exact HBN.o);have KJ:=lH hx;have q0:=KP.o.blk.cell 0;rw[OG.o] at q0;have ql:=KP.o.blk.lt;have tO:(bus:Int)<(n1:Int):=by have:=HBN.o;omega
   have tP:=lZ bus;have tN:=jM bus;have bP:=lH (aI (Below.refl wd.heap.size wd));clear hx hv;(go_upto_region 8 with fail);clear k0 kl;refine kQ 5 (fun hHeld=>?_);simp only[m_,List.take_zero];refine cR [0,1,2] ?_;refine bI 3 (fun K hK=>?_);go_simp;refine(pV 1 wd.drew (by decide) (by decide)).mono ?_;rintro e w8 ⟨fJ,v8,rfl,h8⟩;have dS:Hid (Below wd.heap.size wd w8):=lH (bP.o.tm fJ);have H8:Hid (cU w8 w8.heap.size 1 v8):=lH h8;clear fJ h8;go_simp;refine iB hK dS.o (fun hHeld=>?_);clear hK K;refine cR [4] ?_;refine eP ?_;clear hHeld;have uR:=lH (KP.o.up dS.o);have tD:Hid (BJ gf gc wd w8):=lH (eS dS.o);clear c0 c1 c2' c3' l1 f1 q0 ql KP bP dS;obtain⟨c0,c1,c2',c3',l1,f1⟩:=uR.o.elem2 KJ.o;(go_upto_region 9 with fail);clear c0 c1 c2' c3' l1 f1;have HF:=lH (uR.o.put (j:=bus) (by rw[OG.o];exact HBN.o) H8.o);have HO:Hid (BJ gf gc wd (eG w8 gc bus v8)):=lH (tD.o.trans AG);clear uR tD H8 KJ tO tP tN;simp only[eG] at HF HO;generalize (((w8.setCell ⟨gc,bus*4,none⟩ _).setCell ⟨gc,bus*4+1,none⟩ _).setCell ⟨gc,bus*4+2,none⟩ _).setCell ⟨gc,bus*4+3,none⟩ _=we at *;replace xM:=lH xM.o;have KO:Hid (aS x ⟨2,name,txt,wt⟩=((kT n1).set bus 1,0)):=lH (by unfold aS;rw[if_neg (show ¬(2:Int)=0 by decide),if_pos rfl,eY.o];simp only[aGP.o]);have lP:Hid (((kT n1).set bus 1).length=n1):=lH (by rw[kV];exact OG.o);have HL:Hid (Below w.heap.size w we):=lH (xM.o.trans (HO.o.below (by have:=eC.o;have:=lF.o;omega) (by have:=eC.o;have:=ET.o.1;omega) xM.o.size));have P3b:Hid (aD we (w.heap.size+1+1+1) 117 #[.slice none 0 0,.bool false,.slice none 0 0,.bool false,.slice none 0 0]):=lH (HO.o.blk P3.o (by have:=eC.o;have:=lF.o;omega) (by have:=eC.o;have:=ET.o.1;omega));have HPC:Hid (gc≠w.heap.size+1+1+1):=lH (by have:=eC.o;have:=ET.o.1;omega);obtain⟨q0,q1,q2,q3,q4⟩:=HF.o.blk.a5;rw[lP.o] at q0;obtain⟨z0,z1,z2,z3,z4,zf,zl⟩:=P3b.o.e5;have ql:=HF.o.blk.lt;(go_wp2_with fail);have ZR:=lH (sF (gc:=gc) (n:=n1) (u:=u) P3b.o);clear q0 z0 q1 z1 q2 z2 q3 z3 q4 z4 ql zl zf;obtain⟨p0,p1,p2,p3,p4⟩:=ZR.o.a5;unfold put5 at p0 p1 p2 p3 p4;refine bodyPost_ret (v:=.agg #[.slice (some ⟨gc,0,none⟩) n1 n1,.bool u.b1,.slice u.A u.n u.c,.bool u.b2,.slice u.A2 u.m u.d]) (by simp[results,Tryz.results63,go_sem,p0,p1,p2,p3,p4]) rfl ?_;refine⟨nM (gc:=gc) (n:=n1) (u:=u) HL.o (by omega),gc,u,by rw[eY.o],?_,?_⟩
   ·have h:=HF.o.rdq P3b.o HPC.o (n:=n1) (y:=u)
    rw[eY.o,KO.o];rw[lP.o] at h;exact h
   ·rw[KO.o]
    exact HF.o.val.keep5 P3b.o (gc:=gc) (n:=n1) (u:=u)
  ·have aMu:(kind == 2)=false:=by simp[vJ]
   obtain⟨b0,bl⟩:=EV.out.box.b1;have g4:wd.cell? ⟨g,4,none⟩=some (.slice A4 n4 c4):=EV.out.md.cell 4;have gl:=EV.out.md.lt;have KO:Hid (aS x ⟨kind,name,txt,wt⟩=qH bus (mB x) (mC x) (hO x) (BR x) (kT n1,0)):=lH (by unfold aS;rw[if_neg (show ¬kind=0 from hk),if_neg (show ¬kind=2 from vJ),eY.o];simp only[aGP.o]);generalize hRR:qH bus (mB x) (mC x) (hO x) (BR x) (kT n1,0)=RR at *;have xN:=lH hRR;clear hRR;have m8:Hid (x.brs.length=n4):=lH (by rw[<-oW];exact EV.out.rd.r4.len);have iD:Hid (x.brs.length=n2):=lH (by rw[<-lW,<-eO];exact EV.out.rd.r2.len);have tY:Hid (x.brs.length=n3):=lH (by rw[<-rG,<-eO];exact EV.out.rd.r3.len);have hn4:n4<=24:=by have:=bM.o.l2;have:=m8.o;omega
   (go_wp2_with fail);clear k0 kl aMu b0 bl g4 gl
   go_loopw [53] (fun v53 wr=>∃(k:Nat)(vs:List Rv)(u2:Rv)(s:List Rat×Rat),k<=n4/\v53=.int .i64 k/\BJ gf gc wd wr/\DV wr gf gc vs u2 s.1 s.2/\OP n1 (2+12*k) s/\qH bus ((mB x).drop k) ((mC x).drop k) ((hO x).drop k) ((BR x).drop k) s=RR) (fun v53 _=>n4-(intOf v53).toNat)
   case atStart=>exact⟨0,_,_,(kT n1,0),by omega,rfl,eS bR,KP.o,F7 n1,xN.o⟩
   case round=>
    clear KP xN;obtain⟨k,vs,u2,s,hk,rfl,ho,hf,mD,oR⟩:=hrel;obtain⟨HO,HF,JH,lQ⟩:=h_ ho hf mD oR;clear ho hf mD oR;by_cases aR:k<n4
    ·obtain⟨b,hb⟩:∃b,x.brs[k]?=some b:=eE (by have:=m8.o;omega)
     have qW:=lH hb;obtain⟨a1,a2,a3,a4⟩:=jW hb;have gZ:=lH ((ID (s:=s) (bus:=bus) a3 a4 a1 a2).symm.trans lQ.o);have ZW:=lH a1;have HTO:=lH a2;clear hb a1 a2 a3 a4 lQ;have f_:(k:Int)<(n4:Int):=by omega
     have aQG:(k:Int)<(n2:Int):=by have:=iD.o;have:=m8.o;omega
     have aQF:(k:Int)<(n3:Int):=by have:=tY.o;have:=m8.o;omega
     have kO:=lZ k;have rR:=jM k;have kL:=lN k;have iR:Hid (n4-(k+1)<n4-k):=lH (by omega);have W8:Hid (2+12*k+6<=1000000):=lH (by omega);generalize E_:aG x b.fr=bu at *;generalize RG:aG x b.to=bv at *;have TL:=lH E_;have KQ:=lH RG;clear E_ RG;have HE:=lH (EV.out.oth HO.o);have rQ:=HE.o.rd.r2;simp only at rQ;have yT:=rQ.2 (by have:=iD.o;have:=m8.o;omega);obtain⟨fb2,fo2,hA,qK,-⟩:=yT;subst hA;have f0:=rQ.at_ (eT ZW.o);have tB:fb2<wr.heap.size:=kA qK HE.o.hs;obtain⟨b0,bl⟩:=HE.o.box.b1;have g0:wr.cell? ⟨g,2,none⟩=some (.slice (some ⟨fb2,fo2,none⟩) n2 c2):=HE.o.md.cell 2;have gl:=HE.o.md.lt;clear rQ qK;unfold mK at gZ;dsimp only at gZ;by_cases hu:bu=bus
     ·have huB:((bu:Int) == (bus:Int))=true:=by simp[hu]
      rw[if_pos hu] at gZ;(go_wp2_with fail);refine(oI (s:=s) HE.o HF.o JH.o (by have:=W8.o;omega) eY.o.symm h8 bM.o qW.o false).mono ?_;rintro e w7 ⟨rfl,ho7,vs7,u7,hf7⟩;rw[TL.o,KQ.o] at hf7;replace JH:=lH (pJ bM.o (s:=s) JH.o eY.o.symm qW.o false);rw[TL.o,KQ.o] at JH;replace HO:=lH (HO.o.trans ho7);replace HF:=lH hf7;clear ho7 hf7 huB;clear f0 tB b0 bl g0 gl HE;have HE:=lH (EV.out.oth HO.o);have rQ:=HE.o.rd.r3;simp only at rQ;have yT:=rQ.2 (by have:=tY.o;have:=m8.o;omega);obtain⟨fb3,fo3,hA,qK,-⟩:=yT;subst hA;have f0:=rQ.at_ (eT HTO.o);have tB:fb3<w7.heap.size:=kA qK HE.o.hs;obtain⟨b0,bl⟩:=HE.o.box.b1;have g0:w7.cell? ⟨g,3,none⟩=some (.slice (some ⟨fb3,fo3,none⟩) n3 c3):=HE.o.md.cell 3;have gl:=HE.o.md.lt;clear rQ qK;by_cases hv:bv=bus
      ·have hvB:((bv:Int) == (bus:Int))=true:=by simp[hv]
       (go_wp2_with fail);refine(oI (s:=(mY (sg false (dB b)) bu bv s.1,s.2+sg false (jD b))) HE.o HF.o JH.o (by have:=W8.o;omega) eY.o.symm h8 bM.o qW.o true).mono ?_;rintro e w9 ⟨rfl,ho9,vs9,u9,OT⟩;rw[TL.o,KQ.o] at OT;have JG:=lH (pJ bM.o (s:=(mY (sg false (dB b)) bu bv s.1,s.2+sg false (jD b))) JH.o eY.o.symm qW.o true);rw[TL.o,KQ.o] at JG;have BY:=lH (HO.o.trans ho9);have ZX:=lH OT;clear ho9 OT f0 tB b0 bl g0 gl;rw[if_pos hv] at gZ;(go_wp2_with fail);go_roundw
       case rel=>exact⟨k+1,_,_,_,aR,aQ kL.o,BY.o,ZX.o,JG.o.mono (by omega),gZ.o⟩
       case measure=>exact iR.o
      ·have hvB:((bv:Int) == (bus:Int))=false:=by simp;omega
       rw[if_neg hv] at gZ;(go_wp2_with fail);go_roundw
       case rel=>exact⟨k+1,_,_,_,aR,aQ kL.o,HO.o,HF.o,JH.o.mono (by omega),gZ.o⟩
       case measure=>exact iR.o
     ·have huB:((bu:Int) == (bus:Int))=false:=by simp;omega
      rw[if_neg hu] at gZ;(go_upto_region 15 with fail);clear huB;clear f0 tB b0 bl g0 gl HE;have HE:=lH (EV.out.oth HO.o);have rQ:=HE.o.rd.r3;simp only at rQ;have yT:=rQ.2 (by have:=tY.o;have:=m8.o;omega);obtain⟨fb3,fo3,hA,qK,-⟩:=yT;subst hA;have f0:=rQ.at_ (eT HTO.o);have tB:fb3<wr.heap.size:=kA qK HE.o.hs;obtain⟨b0,bl⟩:=HE.o.box.b1;have g0:wr.cell? ⟨g,3,none⟩=some (.slice (some ⟨fb3,fo3,none⟩) n3 c3):=HE.o.md.cell 3;have gl:=HE.o.md.lt;clear rQ qK;by_cases hv:bv=bus
      ·have hvB:((bv:Int) == (bus:Int))=true:=by simp[hv]
       (go_wp2_with fail);refine(oI (s:=s) HE.o HF.o JH.o (by have:=W8.o;omega) eY.o.symm h8 bM.o qW.o true).mono ?_;rintro e w9 ⟨rfl,ho9,vs9,u9,OT⟩;rw[TL.o,KQ.o] at OT;have JG:=lH (pJ bM.o (s:=s) JH.o eY.o.symm qW.o true);rw[TL.o,KQ.o] at JG;have BY:=lH (HO.o.trans ho9);have ZX:=lH OT;clear ho9 OT f0 tB b0 bl g0 gl;rw[if_pos hv] at gZ;(go_wp2_with fail);go_roundw
       case rel=>exact⟨k+1,_,_,_,aR,aQ kL.o,BY.o,ZX.o,JG.o.mono (by omega),gZ.o⟩
       case measure=>exact iR.o
      ·have hvB:((bv:Int) == (bus:Int))=false:=by simp;omega
       rw[if_neg hv] at gZ;(go_wp2_with fail);go_roundw
       case rel=>exact⟨k+1,_,_,_,aR,aQ kL.o,HO.o,HF.o,JH.o.mono (by omega),gZ.o⟩
       case measure=>exact iR.o
    ·have mL:k=n4:=by omega
     have HS:Hid (s=RR):=lH (by have h:=lQ.o;rw[List.drop_eq_nil_of_le (by rw[oW];have:=m8.o;omega)] at h;exact h);have lP:Hid (s.1.length=n1):=lH JH.o.len;replace KO:Hid (aS x ⟨kind,name,txt,wt⟩=(s.1,s.2)):=lH (by rw[KO.o,<-HS.o]);have f_:¬(k:Int)<(n4:Int):=by omega
     clear lQ HS mL aR hk;have HL:Hid (Below w.heap.size w wr):=lH (xM.o.trans (HO.o.below (by have:=eC.o;have:=lF.o;omega) (by have:=eC.o;have:=ET.o.1;omega) xM.o.size));have P3b:Hid (aD wr (w.heap.size+1+1+1) 117 #[.slice none 0 0,.bool false,.slice none 0 0,.bool false,.slice none 0 0]):=lH (HO.o.blk P3.o (by have:=eC.o;have:=lF.o;omega) (by have:=eC.o;have:=ET.o.1;omega));have HPC:Hid (gc≠w.heap.size+1+1+1):=lH (by have:=eC.o;have:=ET.o.1;omega);obtain⟨q0,q1,q2,q3,q4⟩:=HF.o.blk.a5;rw[lP.o] at q0;obtain⟨z0,z1,z2,z3,z4,zf,zl⟩:=P3b.o.e5;have ql:=HF.o.blk.lt;(go_wp2_with fail);have ZR:=lH (sF (gc:=gc) (n:=n1) (u:=u2) P3b.o);clear q0 z0 q1 z1 q2 z2 q3 z3 q4 z4 ql zl zf;obtain⟨p0,p1,p2,p3,p4⟩:=ZR.o.a5;unfold put5 at p0 p1 p2 p3 p4;refine bodyPost_ret (v:=.agg #[.slice (some ⟨gc,0,none⟩) n1 n1,.bool u2.b1,.slice u2.A u2.n u2.c,.bool u2.b2,.slice u2.A2 u2.m u2.d]) (by simp[results,Tryz.results63,go_sem,p0,p1,p2,p3,p4]) rfl ?_;refine⟨nM (gc:=gc) (n:=n1) (u:=u2) HL.o (by omega),gc,u2,by rw[eY.o],?_,?_⟩
     ·have h:=HF.o.rdq P3b.o HPC.o (n:=n1) (y:=u2)
      rw[eY.o,KO.o];rw[lP.o] at h;exact h
     ·rw[KO.o]
      exact HF.o.val.keep5 P3b.o (gc:=gc) (n:=n1) (u:=u2)
theorem YB:(Tryz.prog.info? 93).map (fun i=>(i.zero,i.size,i.bytes))=some (some (.slice none 0 0),1,24):=by kernel_rfl
structure gP (w:Wo) (base:Nat) (v:Value) (hs:List Hd) (M:List (List Rat)):Prop where
 own:bB o9 w base 93 1 v hs.length (hs.map Hd.val)
 len:hs.length=M.length
 rows:∀(i:Nat)(h:Hd)(q:List Rat),hs[i]?=some h->M[i]?=some q->∃B us,dD w B h.val us q
theorem GR(w:Wo)(base:Nat):gP w base (.slice none 0 0) [] []:=⟨dI _ _ _ _ _,rfl,fun i h q hh=>by simp at hh⟩
theorem dD.blkS(h:dD w B v us q)(k:dU o9 b 93 w w'):dD w' B v us q:=⟨h.own.blk k (by decide),h.len,fun i p x hp hx=>(h.ok i p x hp hx).keeps k⟩
theorem gP.keep{hs:List Hd}(m:gP w base v hs M)(hb:Below w.heap.size w w'):gP w' base v hs M:=⟨m.own.keep hb,m.len,fun i h q hh hq=>by
 obtain⟨B,us,k⟩:=m.rows i h q hh hq;exact⟨B,us,k.keep hb⟩⟩
theorem gP.app{v':Value}{hs:List Hd}{z:Hd}{p:List Rat}(m:gP w base v hs M)(hp:dD w B z.val us p)(h1:bB o9 w' base 93 1 v' (hs.length+1) (hs.map Hd.val++[z.val]))(k:dU o9 base 93 w w'):gP w' base v' (hs++[z]) (M++[p]):=by
 refine⟨by rw[g_,List.length_singleton,List.map_append];exact h1,by rw[g_,g_,m.len];rfl,fun i h q hh hq=>?_⟩;by_cases hi:i<M.length
 ·rw[yC hi] at hq
  rw[yC (by rw[m.len];exact hi)] at hh;obtain⟨B,us,r⟩:=m.rows i h q hh hq;exact⟨B,us,r.blkS k⟩
 ·rw[BP (by omega)] at hq
  rw[BP (by rw[m.len];omega),m.len] at hh;have EI:=(cY.1 hq).1;rw[List.length_singleton] at EI;have:i-M.length=0:=by omega
  rw[this] at hq hh;simp at hq hh;subst hq;subst hh;exact⟨B,us,hp.blkS k⟩
theorem gP.rd{hs:List Hd}(m:gP w base v hs M):∃A c,v=.slice A M.length c/\jP w w.heap.size A M.length M/\M.length<=c/\c<=maxLen:=by
 obtain⟨A,c,hv,hr,h1,h2,h3⟩:=oV m.own.own;rw[m.len] at hv hr h1;refine⟨A,c,hv,⟨hs,m.len,rfl,hr,fun i h q hh hq=>?_⟩,h1,h2⟩;obtain⟨B,us,k⟩:=m.rows i h q hh hq;obtain⟨A',c',e,r,k1,k2,_⟩:=k.rd;unfold Hd.val at e;injection e with e1 e2 e3;rw[e1,e2,e3];exact⟨r,k1,k2⟩
theorem xP{ops:Array Oper}{rest:List Oper}{o:Oper}{a:Act}{Q:Exit->Act->World->Prop}{w:Wo}{T:TypeId}(yW:o.guard=none)(s x:Operand)(t:TypeId)(ho:o.op=.call { callee:=.builtin .append,args:=#[s,x],argTypes:=#[t,t] })(base:Nat)(ht:Tryz.prog.underlying t=some (.slice 93))(v:Value)(hs:List Hd)(M:List (List Rat))(hsv:a.eval s=v)(aW:gP w base v hs M)(B:Nat)(z:Value)(us:List Rv)(p:List Rat)(hp:dD w B z us p)(hx:a.eval x=.slice (some ⟨w.heap.size,0,none⟩) 1 1)(uO:M.length<=1000000000)(cD:base<=w.heap.size)(h:∀v' w' hs',gP w' base v' hs' (M++[p])->Below base w w'->wpList Tryz.prog ops Q rest (a.put o.dst v') w'):wpList Tryz.prog ops Q (o::rest) a (w.alloc (.cells #[z] T)):=by
 obtain⟨i0,iW,qY,kF,kE⟩:=info_parts YB;have hl:=aW.len;obtain⟨A,c,e,_⟩:=hp.rd;subst e;refine rB (S:=o9) yW s x t ho base 93 i0 _ 1 24 ht iW qY kF kE rfl (by omega) (fun u hu=>?_) v hs.length (hs.map Hd.val) hsv aW.own hx rfl (fun u hu=>?_) (by simp only[maxLen];omega) (by omega) cD fun v' w' h1 h2 _=>?_
 ·have QW:u∈[Value.slice none 0 0]:=hu
  rw[List.mem_singleton.1 QW];exact fun k x h=>by cases h
 ·have QW:u∈[Value.slice A p.length c]:=hu
  rw[List.mem_singleton.1 QW];exact⟨rfl,fun k x h=>by cases h⟩
 have hb:=jO w (.cells #[.slice A p.length c] T);exact h v' w' (hs++[⟨A,p.length,c⟩]) (gP.app (aW.keep hb) (z:=⟨A,p.length,c⟩) (hp.keep hb) h1 h2) ((hb.mono cD).trans h2.low)
def aP(x:bK)(ms:List Mi):List (List Rat):=ms.map fun m=>fM x (aS x m).1
def aRx(x:bK)(ms:List Mi)(w:Wo)(e:Ending)(w':Wo):Prop:=Below w.heap.size w w'/\∃A c,e=.returned (.slice A ms.length c)/\jP w' w'.heap.size A ms.length (aP x ms)/\ms.length<=c/\c<=maxLen
def qU(x:bK)(m:Mi):Prop:=(m.kind=0->0<=mV x m.name)/\(m.kind≠0->m.name∈x.nodes)
theorem PR{mi:Mi}(h:ms[k]?=some mi):(aP x ms).take (k+1)=(aP x ms).take k++[fM x (aS x mi).1]:=by
 have h2:(aP x ms)[k]?=some (fM x (aS x mi).1):=by unfold aP;rw[lT,h];rfl
 exact gJ h2
theorem aAJ(h:bZ)(x:bK)(ok:bJ x)(h8:x.nodes.length<=8)(g:Nat)(m:iC)(y:Value)(A:OA)(n c:Nat)(ms:List Mi)(w:Wo)(r:cL w w.heap.size h x)(hg:aD w g 122 (m.cells y))(hr:eK w w.heap.size m x)(hm:eB w w.heap.size A n ms)(hn:n<=64)(mD:∀m∈ms,qU x m):Calls Tryz.prog 82 #[.agg h.cells,.pointer (some ⟨g,0,none⟩),.slice A n c] w (aRx x ms w):=by
 have K0:=jO w (.cells h.cells 29);obtain⟨HK,P0,HG,HR,HX⟩:=iS K0 (aD.new w 29 h.cells) (hg.bl K0) (hr.up K0) (r.up K0);have HM:=lH (hm.bm K0);have lB:Hid (ms.length=n):=lH hm.1;have bM:=lH ok;have ZS:=lH mD;have eC:Hid (w.heap.size<=(w.alloc (.cells h.cells 29)).heap.size):=lH K0.size;clear K0 hg hr hm r mD ok;obtain⟨D0,r0,s0,D1,r1,s1,D2,r2,s2,D3,r3,s3,D4,r4,s4,D5,r5,s5⟩:=h;go_enter Tryz.func82,Tryz.ntmps82
 go_wp2_with fail
 generalize w.alloc (.cells (bZ.cells ⟨D0,r0,s0,D1,r1,s1,D2,r2,s2,D3,r3,s3,D4,r4,s4,D5,r5,s5⟩) 29)=W at *
 go_loopw [7,12] (fun v7 v12 wr=>∃(k:Nat)(hs:List Hd),k<=n/\v12=.int .i64 k/\gP wr W.heap.size v7 hs ((aP x ms).take k)/\Below W.heap.size W wr) (fun _ v12 _=>n-(intOf v12).toNat)
 case atStart=>exact⟨0,[],by omega,rfl,GR _ _,bR⟩
 case round=>
  obtain⟨k,hs,hk,rfl,ho,hb⟩:=hrel;have HO:=lH ho;have HB:=lH hb;clear ho hb;by_cases aR:k<n
  ·obtain⟨mi,jZ⟩:∃mi,ms[k]?=some mi:=eE (by have:=lB.o;omega)
   have EQ:=lH (PR (x:=x) jZ);have wW:=lH (ZS.o mi (bS jZ));have qJ:=(HM.o.below HB.o lR).more HB.o.size;have VH:=qJ.2.2 (by omega);obtain⟨ab,ao,hA,lO,-⟩:=VH;subst hA;obtain⟨a0,a1,a2,a3⟩:=qJ.at_ jZ;have f_:(k:Int)<(n:Int):=by omega
   have kO:=lZ k;have rR:=jM k;have kL:=lN k;have iR:Hid (n-(k+1)<n-k):=lH (by omega);clear jZ qJ;(go_upto_region 5 with fail);clear a0 a1 a2 a3 lO f_ kO rR;have hz:=jO wr (.cells #[.int .i64 mi.kind,.string mi.name,.string mi.txt,.int .i64 mi.wt] 57);have BZ:=lH (aD.new wr 57 #[.int .i64 mi.kind,.string mi.name,.string mi.txt,.int .i64 mi.wt]);replace HO:=lH (HO.o.keep hz);have gT:Hid (Below W.heap.size W (wr.alloc (.cells #[.int .i64 mi.kind,.string mi.name,.string mi.txt,.int .i64 mi.wt] 57))):=lH (HB.o.tm hz);clear hz HB;generalize wr.alloc (.cells #[.int .i64 mi.kind,.string mi.name,.string mi.txt,.int .i64 mi.wt] 57)=wa at *;have P0w:=P0.o.bl gT.o;obtain⟨y0,y1,y2,y3,y4,y5,nf,nlt⟩:=aX P0w;dsimp only at y0 y1 y2 y3 y4 y5;obtain⟨x0,x1,x2,x3,xl⟩:=BZ.o.b4;clear P0w;(go_wp2_with fail);refine(tR _ x bM.o h8 g m y mi wa (HX.o.up gT.o) (HG.o.bl gT.o) (HR.o.up gT.o) wW.o.1 wW.o.2).mono ?_;rintro e w5 ⟨eJ,gc,u,rfl,hq,hv⟩;clear y0 y1 y2 y3 y4 y5 nf nlt x0 x1 x2 x3 xl;have d_:=cJ gT eJ;replace HO:=lH (HO.o.keep eJ);have HQ:=lH hq;clear eJ hq hv gT;(go_wp2_with fail);refine(G0 g m y x bM.o h8 u (some ⟨gc,0,none⟩) (aH x) (aH x) (aS x mi).1 w5 (HG.o.bl d_.o) (HR.o.up d_.o) HQ.o rfl).mono ?_;rintro e w6 ⟨gA,B6,v6,us,hB6,rfl,aW⟩;have gQ:=cJ d_ gA;replace HO:=lH (HO.o.keep gA);have HW6:=lH aW;obtain⟨A',c',YD,-⟩:=aW.rd;subst YD;have JZ:Hid (W.heap.size<=w6.heap.size):=lH gQ.o.size;clear gA hB6 aW d_ HQ
   go_wp2_with (at_builtin;refine xP rfl (.tmp 16) (.tmp 23) _ rfl W.heap.size Tryz.underlying92 u7 hs _ rfl HO.o B6 _ us _ HW6.o rfl ?k1 JZ.o ?_)
   case k1=>rw[jN];omega
   intro v' w8 hs' hrows fJ;have tD:=lH hrows;have dS:=lH (gQ.o.trans fJ);clear hrows fJ;(go_wp2_with fail);go_roundw
   case rel=>exact⟨k+1,hs',aR,aQ kL.o,by rw[EQ.o];exact tD.o,dS.o⟩
   case measure=>exact iR.o
  ·have mL:k=n:=by omega
   have sM:(aP x ms).length=n:=by unfold aP;rw[iT];exact lB.o
   have ML:Hid (gP wr W.heap.size u7 hs (aP x ms)):=lH (by
    have h:=HO.o;rw[nT (by omega)] at h;exact h)
   have f_:¬(k:Int)<(n:Int):=by omega
   obtain⟨A',c',hv,oP,h1,h2⟩:=ML.o.rd;rw[sM] at hv oP h1;subst hv;have DS:=lH oP;clear oP sM;(go_wp2_with fail);go_ret;exact⟨HK.o.trans (HB.o.mono eC.o),A',c',by rw[lB.o];rfl,by rw[lB.o];exact DS.o,by rw[lB.o];exact h1,h2⟩
def Y3(A:List (List Rat))(a b:Nat):Rat:=vf (A.getD a []) b
theorem FX{A:List (List Rat)}{a:Nat}{r:List Rat}(h:A[a]?=some r):Y3 A a b=vf r b:=by
 unfold Y3;rw[dH,h];rfl
theorem aHC{l:List Rat}{q:Rat}(hj:j<l.length):vf (l.set j q) b=if b=j then q else vf l b:=by
 unfold vf;rw[dH,dH,List.getElem?_set];by_cases h:j=b
 ·subst h;rw[if_pos rfl,if_pos hj,if_pos rfl];rfl
 ·rw[if_neg h,if_neg (fun e=>h e.symm)]
theorem aJf{A:List (List Rat)}{q:Rat}(hl:A.length=n)(hw:∀a∈A,a.length=n)(hi:i<n)(hj:j<n)(a b:Nat):Y3 (eX A i j q) a b=if a=i/\b=j then Y3 A a b+q else Y3 A a b:=by
 obtain⟨r,hr⟩:∃r,A[i]?=some r:=eE (by omega);have sM:=hw r (bS hr);rw[gI hr];unfold Y3;rw[dH,dH,List.getElem?_set];by_cases h:i=a
 ·subst h
  rw[if_pos rfl,if_pos (by omega),hr];show vf (r.set j (vf r j+q)) b=_;rw[aHC (by omega)];by_cases h2:b=j
  ·subst h2;rw[if_pos rfl,if_pos ⟨rfl,rfl⟩];rfl
  ·rw[if_neg h2,if_neg (fun e=>h2 e.2)];rfl
 ·rw[if_neg h,if_neg (fun e=>h e.1.symm)]
structure oL (n K:Nat) (wt:Rat) (q:List Rat) (A0 A:List (List Rat)) (i j:Nat):Prop where
 old:eZ n K A0
 len:A.length=n
 wid:∀a∈A,a.length=n
 val:∀a b,a<n->b<n->Y3 A a b=Y3 A0 a b+(if a<i\/(a=i/\b<j) then wt*vf q a*vf q b else 0)
section
variable {n K i j:Nat} {wt:Rat} {q:List Rat} {A0 A:List (List Rat)}
theorem oL.start(h:eZ n K A0):oL n K wt q A0 A0 0 0:=⟨h,h.len,h.wid,fun a b _ _=>by rw[if_neg (by omega),Rat.add_zero]⟩
theorem oL.row(h:oL n K wt q A0 A i n):oL n K wt q A0 A (i+1) 0:=⟨h.old,h.len,h.wid,fun a b ha hb=>by
 rw[h.val a b ha hb];by_cases h1:a<i\/(a=i/\b<n)
 ·rw[if_pos h1,if_pos (by omega)]
 ·rw[if_neg h1,if_neg (by omega)]⟩
theorem oL.add(h:oL n K wt q A0 A i j)(hi:i<n)(hj:j<n):oL n K wt q A0 (eX A i j (wt*vf q i*vf q j)) i (j+1):=
 ⟨h.old,MJ.trans h.len,MI h.wid (by rw[h.len];exact hi),fun a b ha hb=>by
  rw[aJf h.len h.wid hi hj,h.val a b ha hb];by_cases h1:a=i/\b=j
  ·rw[if_pos h1,if_neg (by omega),if_pos (by omega),h1.1,h1.2,Rat.add_zero]
  ·rw[if_neg h1]
   by_cases h2:a<i\/(a=i/\b<j)
   ·rw[if_pos h2,if_pos (by omega)]
   ·rw[if_neg h2,if_neg (by omega)]⟩
theorem oL.skip(h:oL n K wt q A0 A i j)(h0:vf q i=0\/vf q j=0):oL n K wt q A0 A i (j+1):=
 ⟨h.old,h.len,h.wid,fun a b ha hb=>by
  rw[h.val a b ha hb];by_cases h1:a=i/\b=j
  ·rw[if_neg (by omega),if_pos (by omega),h1.1,h1.2]
   rcases h0 with h0 | h0<;>rw[h0]<;>grind
  ·by_cases h2:a<i\/(a=i/\b<j)
   ·rw[if_pos h2,if_pos (by omega)]
   ·rw[if_neg h2,if_neg (by omega)]⟩
theorem oL.bd(h:oL n K wt q A0 A i j){e:Nat}(he:∀a b,a<n->b<n->bE (wt*vf q a*vf q b)<=e):eZ n (K+e+1) A:=⟨h.len,h.wid,fun a ha x hx=>by
 obtain⟨i1,h1⟩:=List.mem_iff_getElem?.1 ha;obtain⟨j1,h2⟩:=List.mem_iff_getElem?.1 hx;have l1:=(cY.1 h1).1;have l2:=(cY.1 h2).1;rw[h.len] at l1;rw[h.wid a ha] at l2;have hv:=h.val i1 j1 l1 l2;rw[FX h1,kW h2] at hv;obtain⟨r,hr⟩:∃r,A0[i1]?=some r:=eE (by rw[h.old.len];exact l1);have h3:=h.old.bd.vf hr (j:=j1) (by rw[h.old.wid r (bS hr)];exact l2);rw[FX hr] at hv;rw[hv];by_cases h4:i1<i\/(i1=i/\j1<j)
 ·rw[if_pos h4]
  have h5:=kJ (vf r j1) (wt*vf q i1*vf q j1);have h6:=he i1 j1 l1 l2;omega
 ·rw[if_neg h4,Rat.add_zero]
  omega⟩
end
theorem U7(ok:bJ x){K bus:Nat}{s:List Rat×Rat}(hs:OP n K s)(hn:n=aH x){b:Br}(hb:b∈x.brs):OP n (K+12) (mK bus (aG x b.fr) (aG x b.to) (dB b) (jD b) s):=by
 obtain⟨k,hk⟩:=List.getElem?_of_mem hb;unfold mK;dsimp only;have h1:OP n (K+6) (if aG x b.fr=bus then(mY (sg false (dB b)) (aG x b.fr) (aG x b.to) s.1,s.2+sg false (jD b)) else s):=by
  split
  ·exact pJ ok hs hn hk false
  ·exact hs.mono (by omega)
 split
 ·exact pJ ok h1 hn hk true
 ·exact h1.mono (by omega)
theorem QQ(ok:bJ x){bus:Nat}(hn:n=aH x):∀(bs:List Br)(K:Nat)(s:List Rat×Rat),(∀b∈bs,b∈x.brs)->OP n K s->OP n (K+12*bs.length) (qH bus (bs.map dB) (bs.map jD) (bs.map fun b=>aG x b.fr) (bs.map fun b=>aG x b.to) s)
 | [],K,s,_,hs=>hs
 | b::bs,K,s,h,hs=>by
  have h1:=QQ ok (bus:=bus) hn bs (K+12) _ (fun a ha=>h a (List.mem_cons_of_mem _ ha)) (U7 ok (bus:=bus) hs hn (h b List.mem_cons_self));refine OP.mono (K:=K+12+12*bs.length) h1 ?_;rw[EX];omega
theorem mQ(ok:bJ x)(hm:qU x m):OP (aH x) 300 (aS x m):=by
 have hz:=F7 (aH x);have hl:=ok.l2;unfold aS;split
 ·rename_i h0
  have h1:=hm.1 h0;rcases qS x m.name with⟨e,_⟩ | ⟨i,b,e,hb,_⟩
  ·omega
  ·obtain⟨a1,a2,a3,a4⟩:=jW hb
   have h2:=pJ ok hz rfl hb false;simp only[e,jM,dH,vf,a1,a2,a3,a4];exact h2.mono (by omega)
 ·split
  ·rename_i h0 h2
   have hq:bE (1:Rat)<=2:=dP 1 (by decide) (by decide);refine⟨by rw[kV];exact hz.len,fun p hp=>?_,b_ hz.fr (by decide)⟩;rcases List.mem_or_eq_of_mem_set hp with e | e
   ·exact b_ (hz.cf p e) (by decide)
   ·rw[e];exact b_ hq (by decide)
  ·have h:=QQ ok (bus:=aG x m.name) rfl x.brs 2 _ (fun b hb=>hb) hz
   have e1:hO x=x.brs.map fun b=>aG x b.fr:=by unfold hO KH;rw[List.map_map];rfl
   have e2:BR x=x.brs.map fun b=>aG x b.to:=by unfold BR KH;rw[List.map_map];rfl
   rw[e1,e2];exact h.mono (by omega)
theorem jT:(fM x q).length=(aA x).length:=by unfold fM;rw[iT]
theorem fQ(ok:bJ x)(hm:∀m∈ms,qU x m):(∀a∈aP x ms,a.length=(aA x).length)/\∀a∈aP x ms,∀q∈a,bE q<=300:=by
 refine⟨fun a ha=>?_,fun a ha q hq=>?_⟩<;>(unfold aP at ha;obtain⟨m,qJ,rfl⟩:=List.mem_map.1 ha)
 ·exact jT
 ·unfold fM at hq
  obtain⟨j,hj,rfl⟩:=List.mem_map.1 hq;have h:=mQ ok (hm m qJ);exact h.cf _ (bS (bC (by rw[h.len];exact sO hj)))
theorem aPr(ok:bJ x)(h8:x.nodes.length<=8)(hl:ms.length<=64)(hm:∀m∈ms,qU x m):aBQ (aP x ms) (aA x).length 301:=by
 obtain⟨h1,h2⟩:=fQ ok hm;have hf:=fN ok h8;refine⟨h1,fun a ha q hq=>Nat.succ_le_succ (h2 a ha q hq),?_,by unfold aP;rw[iT];omega,by omega⟩;exact b_ (Nat.mul_le_mul (Nat.pow_le_pow_right (by decide) hf) lR) (by decide)
theorem mI(h:cN x ms=0):bJ x/\ms.length<=64/\∀m∈ms,qU x m:=by
 unfold cN at h;split at h
 ·exact absurd h (by assumption)
 ·rename_i hn
  have hn:iV x=0:=by omega
  split at h
  ·omega
  ·refine⟨G3 hn,by omega,fun m hm=>?_⟩
   have h1:=vE h m hm;unfold AM at h1;split at h1
   ·omega
   ·split at h1
    ·omega
    ·rename_i hb
     refine⟨fun h0=>?_,fun h0=>?_⟩
     ·exact Int.not_lt.1 fun e=>hb (.inl ⟨h0,e⟩)
     ·have h2:¬(x.nodes.any fun y=>qX m.name y)=false:=fun e=>hb (.inr ⟨h0,e⟩)
      have h3:(x.nodes.any fun y=>qX m.name y)=true:=by simpa using h2
      obtain⟨y,hy,he⟩:=List.any_eq_true.1 h3;rw[zS.1 he];exact hy
theorem aJa(A:OA)(n c:Nat)(u:Rv)(q:List Rat)(z:Rat)(B:OA)(m d:Nat)(al:List Rat)(w:Wo)(hq:iE w w.heap.size A n q)(hz:cU w w.heap.size z u)(ha:iE w w.heap.size B m al)(LP:n<=m)(hn:n<=1000)(h1:∀p∈q,bE p<=2000)(h2:∀p∈al,bE p<=2000)(h3:bE z<=2000):Calls Tryz.prog 64 #[.agg #[.slice A n c,.bool u.b1,.slice u.A u.n u.c,.bool u.b2,.slice u.A2 u.m u.d],.slice B m d] w (QP (iM q al+z) w):=by
 have K0:Below w.heap.size w ((w.alloc (.cells #[.slice A n c,.bool u.b1,.slice u.A u.n u.c,.bool u.b2,.slice u.A2 u.m u.d] 117)).alloc dR):=(bA).alloc (by simp) _;have HK:=lH K0;have PF:=lH ((aD.new w 117 #[.slice A n c,.bool u.b1,.slice u.A u.n u.c,.bool u.b2,.slice u.A2 u.m u.d]).alloc dR);have PB:Hid (aD ((w.alloc (.cells #[.slice A n c,.bool u.b1,.slice u.A u.n u.c,.bool u.b2,.slice u.A2 u.m u.d] 117)).alloc dR) (w.heap.size+1) 115 #[.bool false,.slice none 0 0,.bool false,.slice none 0 0]):=lH (aD.new_ (by simp));obtain⟨HQ,HZ,HA,H1,H2⟩:=iS (hq.up K0) (hz.up K0) (ha.up K0) h1 h2;have H3:=lH h3;have eC:Hid (w.heap.size+1<((w.alloc (.cells #[.slice A n c,.bool u.b1,.slice u.A u.n u.c,.bool u.b2,.slice u.A2 u.m u.d] 117)).alloc dR).heap.size):=lH (by simp);have lP:Hid (q.length=n):=lH hq.len;have HDS:Hid (bE (iM q al)+bE z+1<=35184372088832):=lH (by
  have h:=mS (n:=n) (Z:=2000) hq.len h1 h2 n lR;rw[nT (by rw[List.length_zipWith,hq.len];exact Nat.min_le_left _ _)] at h;have h':bE (iM q al)<=n*(2*2000+1)+1:=h;have:n*(2*2000+1)<=1000*(2*2000+1):=Nat.mul_le_mul_right _ hn;omega)
 clear K0 hq hz ha h1 h2 h3;go_enter Tryz.func64,Tryz.ntmps64
 go_upto_region 1 with fail
 generalize (w.alloc (.cells #[.slice A n c,.bool u.b1,.slice u.A u.n u.c,.bool u.b2,.slice u.A2 u.m u.d] 117)).alloc dR=W at *;obtain⟨y0,y1,y2,y3,y4,yl⟩:=PF.out.b5;refine kQ 7 (fun hHeld=>?_);simp only[m_,List.take_zero];refine cR [0,1,2,4,5] ?_;clear y0 y1 y2 y3 y4 yl;have BU:=lH (aI (Below.refl W.heap.size W));generalize W.drew=v0 at *;refine bI 3 (fun K hK=>?_);go_simp;refine(A_ A n c B m d q al 2000 v0 (HQ.o.up BU.o) (HA.o.up BU.o) LP (by omega) H1.o H2.o (by have:n*(2*2000+1)<=1000*(2*2000+1):=Nat.mul_le_mul_right _ hn;omega)).mono ?_;rintro e v1 ⟨bO,x1,rfl,DB⟩;have pL:Hid (Below W.heap.size W v1):=lH (BU.o.tm bO);have fB:=lH DB;clear bO DB;go_simp;refine iB hK pL.o (fun hHeld=>?_);clear hK K;refine bI 6 (fun K hK=>?_);go_simp;refine(DO fB.o (HZ.o.up pL.o) HDS.o).mono ?_;rintro e v2 ⟨bH,x2,rfl,xV⟩;have yA:Hid (Below W.heap.size W v2):=lH (pL.o.tm bH);have gG:=lH xV;clear bH xV;go_simp;refine iB hK yA.o (fun hHeld=>?_);clear hK K;refine eP ?_;clear hHeld;have PC:=lH (PB.out.bl yA.o);obtain⟨z0,z1,z2,z3,zf,zl⟩:=PC.out.e4
 go_wp2_with fail
 clear z0 z1 z2 z3 zl zf;have PD:=lH (rL (v:=x2) PC.out);obtain⟨p0,p1,p2,p3⟩:=PD.out.a4;unfold E1 at p0 p1 p2 p3;refine bodyPost_ret (v:=.agg #[.bool x2.b1,.slice x2.A x2.n x2.c,.bool x2.b2,.slice x2.A2 x2.m x2.d]) (by simp[results,Tryz.results64,go_sem,p0,p1,p2,p3]) rfl ?_;exact⟨dC (v:=x2) (HK.o.trans (yA.o.mono (by have:=eC.o;omega))) (Nat.le_succ _),x2,rfl,gG.o.keepq PC.out (x:=⟨false,none,0,0,false,none,0,0⟩)⟩
def aBN(n n1:Nat)(ss:List ByteArray):Int:=if n≠n1 then 3 else gF ss
theorem aBB(g:Nat)(m:iC)(y:Value)(A:OA)(n c:Nat)(ss:List ByteArray)(w:Wo)(hg:aD w g 122 (m.cells y))(hR:bD w w.heap.size A n ss)(hs:∀s∈ss,s.size<=maxLen)(hn:n<=9223372036854775807)(ht:fL w)(ae:Int)(hae:aBN n m.n1 ss=ae):Calls Tryz.prog 61 #[.pointer (some ⟨g,0,none⟩),.slice A n c] w fun e w'=>e=.returned (.int .i64 ae)/\Below w.heap.size w w':=by
 have HG:=lH hg;have HC:=lH (aBC A n c ss w hR hs hn ht);clear hg hR hs ht;go_enter Tryz.func61,Tryz.ntmps61
 go_wp2_with fail
 refine(nJ g m y w HG.o).mono ?_;rintro e w1 ⟨rfl,rfl⟩;by_cases h:n=m.n1
 ·have HE:Hid (ae=gF ss):=lH (by rw[<-hae];unfold aBN;rw[if_neg (fun hh=>hh h)])
  clear hae;rw[<-h];clear h;(go_wp2_with fail);refine HC.o.mono ?_;rintro e w2 ⟨rfl,bH⟩;have HB:=lH bH;clear bH HC;(go_wp2_with fail);go_ret;exact⟨aU HE.o.symm,HB.o⟩
 ·have HE:Hid (ae=3):=lH (by rw[<-hae];unfold aBN;rw[if_pos h])
  clear hae;have hB:((n:Int) != (m.n1:Int))=true:=by simp;omega
  (go_wp2_with fail);go_ret;exact⟨aU HE.o.symm,bR⟩
theorem aFy(A:OA)(n c:Nat)(u:Rv)(q:List Rat)(z:Rat)(B:OA)(m d:Nat)(al:List Rat)(w:Wo)(hq:iE w w.heap.size A n q)(hz:cU w w.heap.size z u)(ha:iE w w.heap.size B m al)(LP:n<=m)(hn:n<=8)(h1:∀p∈q,bE p<=1000000000000)(h2:∀p∈al,bE p<=1000000000000)(h3:bE z<=1000000000000):Calls Tryz.prog 64 #[.agg #[.slice A n c,.bool u.b1,.slice u.A u.n u.c,.bool u.b2,.slice u.A2 u.m u.d],.slice B m d] w (QP (iM q al+z) w):=by
 have K0:Below w.heap.size w ((w.alloc (.cells #[.slice A n c,.bool u.b1,.slice u.A u.n u.c,.bool u.b2,.slice u.A2 u.m u.d] 117)).alloc dR):=(bA).alloc (by simp) _;have HK:=lH K0;have PF:=lH ((aD.new w 117 #[.slice A n c,.bool u.b1,.slice u.A u.n u.c,.bool u.b2,.slice u.A2 u.m u.d]).alloc dR);have PB:Hid (aD ((w.alloc (.cells #[.slice A n c,.bool u.b1,.slice u.A u.n u.c,.bool u.b2,.slice u.A2 u.m u.d] 117)).alloc dR) (w.heap.size+1) 115 #[.bool false,.slice none 0 0,.bool false,.slice none 0 0]):=lH (aD.new_ (by simp));obtain⟨HQ,HZ,HA,H1,H2⟩:=iS (hq.up K0) (hz.up K0) (ha.up K0) h1 h2;have H3:=lH h3;have eC:Hid (w.heap.size+1<((w.alloc (.cells #[.slice A n c,.bool u.b1,.slice u.A u.n u.c,.bool u.b2,.slice u.A2 u.m u.d] 117)).alloc dR).heap.size):=lH (by simp);have lP:Hid (q.length=n):=lH hq.len;have HDS:Hid (bE (iM q al)+bE z+1<=35184372088832):=lH (by
  have h:=mS (n:=n) (Z:=1000000000000) hq.len h1 h2 n lR;rw[nT (by rw[List.length_zipWith,hq.len];exact Nat.min_le_left _ _)] at h;have h':bE (iM q al)<=n*(2*1000000000000+1)+1:=h;have:n*(2*1000000000000+1)<=8*(2*1000000000000+1):=Nat.mul_le_mul_right _ hn;omega)
 have HD2:Hid (n*(2*1000000000000+1)+2*1000000000000+2<=35184372088832):=lH (by omega);clear K0 hq hz ha h1 h2 h3;go_enter Tryz.func64,Tryz.ntmps64
 go_upto_region 1 with fail
 generalize (w.alloc (.cells #[.slice A n c,.bool u.b1,.slice u.A u.n u.c,.bool u.b2,.slice u.A2 u.m u.d] 117)).alloc dR=W at *;obtain⟨y0,y1,y2,y3,y4,yl⟩:=PF.out.b5;refine kQ 7 (fun hHeld=>?_);simp only[m_,List.take_zero];refine cR [0,1,2,4,5] ?_;clear y0 y1 y2 y3 y4 yl;have BU:=lH (aI (Below.refl W.heap.size W));generalize W.drew=v0 at *;refine bI 3 (fun K hK=>?_);go_simp;refine(A_ A n c B m d q al 1000000000000 v0 (HQ.o.up BU.o) (HA.o.up BU.o) LP (by omega) H1.o H2.o HD2.o).mono ?_;rintro e v1 ⟨bO,x1,rfl,DB⟩;have pL:Hid (Below W.heap.size W v1):=lH (BU.o.tm bO);have fB:=lH DB;clear bO DB;go_simp;refine iB hK pL.o (fun hHeld=>?_);clear hK K;refine bI 6 (fun K hK=>?_);go_simp;refine(DO fB.o (HZ.o.up pL.o) HDS.o).mono ?_;rintro e v2 ⟨bH,x2,rfl,xV⟩;have yA:Hid (Below W.heap.size W v2):=lH (pL.o.tm bH);have gG:=lH xV;clear bH xV;go_simp;refine iB hK yA.o (fun hHeld=>?_);clear hK K;refine eP ?_;clear hHeld;have PC:=lH (PB.out.bl yA.o);obtain⟨z0,z1,z2,z3,zf,zl⟩:=PC.out.e4
 go_wp2_with fail
 clear z0 z1 z2 z3 zl zf;have PD:=lH (rL (v:=x2) PC.out);obtain⟨p0,p1,p2,p3⟩:=PD.out.a4;unfold E1 at p0 p1 p2 p3;refine bodyPost_ret (v:=.agg #[.bool x2.b1,.slice x2.A x2.n x2.c,.bool x2.b2,.slice x2.A2 x2.m x2.d]) (by simp[results,Tryz.results64,go_sem,p0,p1,p2,p3]) rfl ?_;exact⟨dC (v:=x2) (HK.o.trans (yA.o.mono (by have:=eC.o;omega))) (Nat.le_succ _),x2,rfl,gG.o.keepq PC.out (x:=⟨false,none,0,0,false,none,0,0⟩)⟩
def XI(ms:List Mi):Fn:=fun k=>match ms[k]? with | some m=>(m.wt:Rat) | none=>0
theorem MQ(h:ms[k]?=some m):XI ms k=(m.wt:Rat):=by unfold XI;rw[h]
def DH(M:List (List Rat))(ms:List Mi)(k a b:Nat):Rat:=aM k fun t=>XI ms t*vf (M.getD t []) a*vf (M.getD t []) b
def aTd(n:Nat)(M:List (List Rat))(ms:List Mi)(w:Wo)(e:Ending)(w':Wo):Prop:=
 Below w.heap.size w w'/\∃(g:Nat) (G:List (List Rat)),e=.returned (.slice (some ⟨g,0,none⟩) n n)/\jP w' w'.heap.size (some ⟨g,0,none⟩) n G/\eZ n (3+606*M.length) G/\∀a b,a<n->b<n->Y3 G a b=DH M ms M.length a b
theorem aFq(A B:OA)(K c d n:Nat)(M:List (List Rat))(ms:List Mi)(w:Wo)(hM:jP w w.heap.size A K M)(hm:eB w w.heap.size B K ms)(hw:∀a∈M,a.length=n)(hq:∀a∈M,∀q∈a,bE q<=300)(wL:∀x∈ms,1<=x.wt/\x.wt<=1000)(hn:n<=8)(hK:K<=64):Calls Tryz.prog 81 #[.slice A K c,.slice B K d,.int .i64 n] w (aTd n M ms w):=by
 obtain⟨HM,BM,HW,HQ,WS⟩:=iS hM hm hw hq wL;have lB:=lH hM.len;have W5:=lH hm.1;clear hM hm hw hq wL;have s_:∀w:World,(Instr.makeSlice 92 (.int .i64 (n:Int)) (.int .i64 (n:Int))).run Tryz.prog w=.ok (.slice (some ⟨w.heap.size,0,none⟩) n n) (w.alloc (.cells (fF n) 93)):=fun w=>wJ n (by omega) w;have HK:=lH ((Below.refl w.heap.size w).alloc lR (.cells (fF n) 93));have HGM:=lH (aD.new w 93 (fF n));go_enter Tryz.func81,Tryz.ntmps81
 go_wp2_with fail
 clear s_;generalize w.alloc (.cells (fF n) 93)=W at *;have HO:=lH (wF HGM.o lR);generalize EJ:w.heap.size=ga at *;have EU:=lH EJ;clear EJ HGM
 go_loopw [18] (fun v18 wr=>∃(k:Nat)(hs:List Mh),k<=n/\v18=.int .i64 k/\Below ga w wr/\jK wr ga ga hs ((oH n).take k++List.replicate (n-k) [])) (fun v18 _=>n-(intOf v18).toNat)
 case atStart=>exact⟨0,_,by omega,rfl,HK.o,by rw[List.take_zero,List.nil_append,Nat.sub_zero];exact HO.o⟩
 case round=>
  clear HK HO;obtain⟨k,hs,hk,rfl,hb,ho⟩:=hrel;have HK:=lH hb;have HO:=lH ho;clear hb ho;by_cases aR:k<n
  ·have f_:(k:Int)<(n:Int):=by omega
   have kL:=lN k;have iR:Hid (n-(k+1)<n-k):=lH (by omega);have sX:Hid (ga<wr.heap.size):=lH HO.o.top.lt;(go_wp2_with fail);refine(lS n wr (by omega)).mono ?_;rintro e w7 ⟨iA,gz,vz,rfl,hgz,oY,hvz⟩;have tD:=lH (HO.o.up iA);have tC:Hid (sV w7 ga ga ⟨some ⟨gz,0,none⟩,gz,n,List.replicate n vz⟩ (List.replicate n 0)):=lH (XH oY hvz (by have:=sX.o;omega) (by have:=sX.o;omega) (by omega));have gT:=lH (HK.o.trans (iA.mono (oO sX.o)));have ZW:Hid (∀j (h':Mh),j≠k->hs[j]?=some h'->0<h'.vs.length->0<(List.replicate n vz).length->h'.g≠gz):=lH fun j h' _ hh l1 l2=>by
    have h3:=HO.o.lt hh l1;omega
   clear iA oY hvz hgz HK HO;have gl:=tD.o.top.lt;have gf:=tD.o.top.frozen;have JE:Hid (k<(((oH n).take k++List.replicate (n-k) []):List (List Rat)).length):=lH (by simp[oH];omega);obtain⟨gv,gc⟩:∃gv,w7.cell? ⟨ga,k,none⟩=some gv:=by
    rw[tD.o.top.cell];exact⟨_,Array.getElem?_eq_getElem (by rw[List.size_toArray,iT,tD.o.len];exact JE.o)⟩
   have BY:=lH (tD.o.setRow JE.o tC.o ZW.o);rw[XG aR,qV] at BY;(go_wp2_with fail);go_roundw
   case rel=>exact⟨k+1,_,aR,aQ kL.o,gT.o.setCell lR _,BY.o⟩
   case measure=>exact iR.o
  ·have mL:k=n:=by omega
   have rU:Hid (jK wr ga ga hs (oH n)):=lH (by
    have h:=HO.o;rw[mL,Nat.sub_self,List.replicate_zero,List.append_nil,nT (by unfold oH;rw[qV];exact lR)] at h;exact h)
   have f_:¬(k:Int)<(n:Int):=by omega
   have JZ:Hid (Below w.heap.size w wr):=lH (by rw[EU.o];exact HK.o);clear HO mL;(go_wp2_with fail);generalize wr=wz at *;have HKZ:Hid (∀a b,a<n->b<n->Y3 (oH n) a b=0):=lH fun a b ha hb=>by
    have h:(oH n)[a]?=some (List.replicate n 0):=by unfold oH;rw[List.getElem?_replicate,if_pos ha]
    rw[FX h];unfold vf;rw[dH,List.getElem?_replicate,if_pos hb];rfl
   go_loopw [29] (fun v29 wr=>∃(k:Nat)(hs:List Mh) (G:List (List Rat)),k<=K/\v29=.int .i64 k/\jL ga ga w wr (.slice none 0 0) [] hs G/\eZ n (3+606*k) G/\∀a b,a<n->b<n->Y3 G a b=DH M ms k a b) (fun v29 _=>K-(intOf v29).toNat)
   case atStart=>exact⟨0,hs,oH n,by omega,rfl,⟨rU.o,dI _ _ _ _ _,HK.o⟩,BI n,fun a b ha hb=>HKZ.o a b ha hb⟩
   case round=>
    clear HK rU HKZ;obtain⟨k,hs,G,hk,rfl,ho,mD,oR⟩:=hrel;obtain⟨dE,bM,lQ⟩:=dZ ho mD oR;have hb:=ho.low;have E8:=oO ho.own.top.lt;have HMW:=lH ((HM.o.below hb lR).more E8);have aSF:=lH ((BM.o.below hb lR).more E8);clear ho mD oR hb E8;by_cases aR:k<K
    ·obtain⟨q,hq⟩:∃q,M[k]?=some q:=eE (by have:=lB.o;omega)
     obtain⟨m,Q6⟩:∃m,ms[k]?=some m:=eE (by have:=W5.o;omega);obtain⟨ab,ao,hA,lO⟩:=HM.o.form (by omega);subst hA;obtain⟨bb,bo,hB,yZ⟩:=aSF.o.form (by omega);subst hB;obtain⟨⟨ra,rn,rc⟩,r0,r1,r2,r3⟩:=HM.o.at_ hq;dsimp only at r0 r1 r2 r3;have AQ:=dE.o.low;have r0':=(AQ.cell (p:=⟨ab,ao+k,none⟩) lO).trans r0;have aWn:ab<wr.heap.size:=kA lO dE.o.le;obtain⟨m0,m1,m2,m3⟩:=aSF.o.at_ Q6;have a2l:=WS.o m (bS Q6);have lP:=lH (HW.o q (bS hq));have HQB:=lH (HQ.o q (bS hq));have hrn:n=rn:=by rw[<-r1.len];exact lP.o.symm
     subst hrn;have mA:Hid (∀a b,DH M ms (k+1) a b=DH M ms k a b+(m.wt:Rat)*vf q a*vf q b):=lH fun a b=>by
      unfold DH;simp only[aM];rw[MQ Q6,dH,hq];rfl
     have HRQ:=lH r1;have f_:(k:Int)<(K:Int):=by omega
     have kL:=lN k;have iR:Hid (K-(k+1)<K-k):=lH (by omega);clear hq Q6 r0 r1 r2 r3 AQ;(go_wp2_with fail);refine(pV m.wt wr (by omega) (by omega)).mono ?_;rintro e w7 ⟨iA,xr,rfl,hx⟩;have HX:=lH hx;have lG:=lH iA;clear hx iA r0' aWn m0 m1 m2 m3;(go_upto_region 11 with fail);generalize EC:w7.alloc (.cells #[.bool xr.b1,.slice xr.A xr.n xr.c,.bool xr.b2,.slice xr.A2 xr.m xr.d] 115)=wa;have qM:Below w7.heap.size w7 wa:=by rw[<-EC];exact bA
     have HSX:Hid (aD wa w7.heap.size 115 #[.bool xr.b1,.slice xr.A xr.n xr.c,.bool xr.b2,.slice xr.A2 xr.m xr.d]):=lH (by rw[<-EC];exact aD.new w7 _ _);have fO:Hid (BO wa ga w7.heap.size hs (m.wt:Rat) xr):=lH ⟨HSX.o,HX.o.up qM,fun i h hh l=>kA (dE.o.own.lt hh l) lG.o.size⟩;replace dE:=lH ((dE.o.up lG.o).up qM);clear EC qM HSX HX lG;generalize hgx:w7.heap.size=gx at *;clear hgx;have HTS:Hid (∀a b,a<n->b<n->bE ((m.wt:Rat)*vf q a*vf q b)<=602):=lH fun a b ha hb=>by
      have h1:=eF ((m.wt:Rat)*vf q a) (vf q b);have h2:=eF (m.wt:Rat) (vf q a);have h3:=dP m.wt (by omega) (by omega);have h4:=HQB.o _ (bS (bC (l:=q) (i:=a) (by rw[lP.o];exact ha)));have h5:=HQB.o _ (bS (bC (l:=q) (i:=b) (by rw[lP.o];exact hb)));omega
     go_wp2_with fail
     go_loopw [42] (fun v42 wr=>∃(i:Nat)(hs:List Mh) (G2:List (List Rat)),i<=n/\v42=.int .i64 i/\jL ga ga w wr (.slice none 0 0) [] hs G2/\BO wr ga gx hs (m.wt:Rat) xr/\oL n (3+606*k) (m.wt:Rat) q G G2 i 0) (fun v42 _=>n-(intOf v42).toNat)
     case atStart=>exact⟨0,hs,G,by omega,rfl,dE.o,fO.o,oL.start bM.o⟩
     case round=>
      clear dE fO;obtain⟨i,hs,G2,hi,rfl,ho,IK,hgp⟩:=hrel;obtain⟨dE,fO,TG⟩:=dZ ho IK hgp;clear ho IK hgp;by_cases lE:i<n
      rotate_left
      ·have EH:i=n:=by omega
       have jA:Hid (eZ n (3+606*(k+1)) G2):=lH ((TG.o.bd HTS.o).mono (by omega));have yA:Hid (∀a b,a<n->b<n->Y3 G2 a b=DH M ms (k+1) a b):=lH fun a b ha hb=>by
        rw[TG.o.val a b ha hb,lQ.o a b ha hb,mA.o,if_pos (by omega)]
       clear EH;(go_wp2_with fail);go_roundw
       case rel=>exact⟨k+1,hs,G2,aR,aQ kL.o,dE.o,jA.o,yA.o⟩
       case measure=>exact iR.o
      obtain⟨rb,ro,hRA,EE⟩:=HRQ.o.form (by omega);subst hRA;have aMz:(i:Int)<(n:Int):=by omega
      have W3:=lN i;have W4:Hid (n-(i+1)<n-i):=lH (by omega);(go_wp2_with fail)
      go_loopw [47] (fun v47 wr=>∃(j:Nat)(hs:List Mh) (G2:List (List Rat)),j<=n/\v47=.int .i64 j/\jL ga ga w wr (.slice none 0 0) [] hs G2/\BO wr ga gx hs (m.wt:Rat) xr/\oL n (3+606*k) (m.wt:Rat) q G G2 i j) (fun v47 _=>n-(intOf v47).toNat)
      case atStart=>exact⟨0,hs,G2,by omega,rfl,dE.o,fO.o,TG.o⟩
      case round=>
       clear dE fO TG;obtain⟨j,hs,G2,hj,rfl,ho,IK,hgp⟩:=hrel;obtain⟨dE,fO,TG⟩:=dZ ho IK hgp;clear ho IK hgp;by_cases tA:j<n
       rotate_left
       ·have hje:j=n:=by omega
        have HGR:Hid (oL n (3+606*k) (m.wt:Rat) q G G2 (i+1) 0):=lH (by have h:=TG.o;rw[hje] at h;exact h.row);clear hje;(go_wp2_with fail);go_roundw
        case rel=>exact⟨i+1,hs,G2,lE,aQ W3.o,dE.o,fO.o,HGR.o⟩
        case measure=>exact W4.o
       have HQI:Hid (q[i]?=some (vf q i)):=lH (bC (by rw[lP.o];exact lE));have HQJ:Hid (q[j]?=some (vf q j)):=lH (bC (by rw[lP.o];exact tA));have a3a:(j:Int)<(n:Int):=by omega
       have aNU:=lN j;have aNV:Hid (n-(j+1)<n-j):=lH (by omega);have HKW:Hid (Below ga w wr):=lH dE.o.low;have HKS:ga<=wr.heap.size:=dE.o.le;obtain⟨vx,a0,a1,a2,a3,a4⟩:=(HRQ.o.below HKW.o lR).at_ HQI.o;have HVX:=lH (cU.more (w:=wr) a4 HKS);have aEC:rb<wr.heap.size:=kA EE HKS;clear a4;(go_wp2_with fail);refine(t7 HVX.o).mono ?_;clear a0 a1 a2 a3;rintro e w2 ⟨rfl,bH⟩;have aJO:=lH (dE.o.up bH);have aS3:=lH (fO.o.up bH);clear bH HVX aEC HKW HKS dE fO;by_cases NO:vf q i=0
       ·have hz:=vX NO
        rw[hz];have aGG:=lH (TG.o.skip (Or.inl NO));clear hz NO;(go_wp2_with fail);go_roundw
        case rel=>exact⟨j+1,hs,G2,tA,aQ aNU.o,aJO.o,aS3.o,aGG.o⟩
        case measure=>exact aNV.o
       ·have hz:=FM NO
        generalize (vf q i).num.sign=z at hz ⊢;clear NO;have HKW:Hid (Below ga w w2):=lH aJO.o.low;have HKS:ga<=w2.heap.size:=aJO.o.le;obtain⟨vy,a0,a1,a2,a3,a4⟩:=(HRQ.o.below HKW.o lR).at_ HQJ.o;have HVY:=lH (cU.more (w:=w2) a4 HKS);have aEC:rb<w2.heap.size:=kA EE HKS;clear a4;(go_wp2_with fail);refine(t7 HVY.o).mono ?_;clear a0 a1 a2 a3;rintro e w3 ⟨rfl,dK⟩;have dE:=lH (aJO.o.up dK);have fO:=lH (aS3.o.up dK);clear dK HVY aEC HKW HKS aJO aS3;by_cases wK:vf q j=0
        ·have kE:=vX wK
         rw[kE];have aGG:=lH (TG.o.skip (Or.inr wK));clear kE wK;(go_wp2_with fail);go_roundw
         case rel=>exact⟨j+1,hs,G2,tA,aQ aNU.o,dE.o,fO.o,aGG.o⟩
         case measure=>exact aNV.o
        ·have kE:=FM wK
         generalize (vf q j).num.sign=z2 at kE ⊢;clear wK;(go_upto_region 18 with fail);clear hz kE;have HKW:Hid (Below ga w w3):=lH dE.o.low;have HKS:ga<=w3.heap.size:=dE.o.le;obtain⟨vx,a0,a1,a2,a3,a4⟩:=(HRQ.o.below HKW.o lR).at_ HQI.o;have HVX:=lH (cU.more (w:=w3) a4 HKS);obtain⟨vy,d0,d1,d2,d3,d4⟩:=(HRQ.o.below HKW.o lR).at_ HQJ.o;have HVY:=lH (cU.more (w:=w3) d4 HKS);have aEC:rb<w3.heap.size:=kA EE HKS;clear a4 d4 HKW HKS;obtain⟨rg,hrg⟩:∃rg,G2[i]?=some rg:=eE (by rw[TG.o.len];exact lE);have aL6:rg.length=n:=TG.o.wid rg (bS hrg);obtain⟨gg,cc,vs,xe,hh,c,hx,c0,c1,c2',c3',hv,l1,f1,cG⟩:=dE.o.elem (i:=i) (j:=j) hrg (by omega);rw[aL6] at c;obtain⟨HH,KJ,I_,tX,xO⟩:=iS hh hx hv hrg aL6;have F3:Hid (bE (m.wt:Rat)+bE (vf q i)+1<=35184372088832):=lH (by
          have h3:=dP m.wt (by omega) (by omega);have h4:=HQB.o _ (bS HQI.o);omega)
         have mZ:Hid (bE ((m.wt:Rat)*vf q i)+bE (vf q j)+1<=35184372088832):=lH (by
          have h2:=eF (m.wt:Rat) (vf q i);have h3:=dP m.wt (by omega) (by omega);have h4:=HQB.o _ (bS HQI.o);have h5:=HQB.o _ (bS HQJ.o);omega)
         have HS3:Hid (bE (vf rg j)+bE ((m.wt:Rat)*vf q i*vf q j)+1<=35184372088832):=lH (by
          have h1:=(TG.o.bd HTS.o).bd.vf hrg (j:=j) (by omega);have h2:=HTS.o i j lE tA;omega)
         have gl:=dE.o.own.top.lt;obtain⟨z0,z1,z2,z3,zl⟩:=fO.o.blk.b4;have bP:=lH (aI (Below.refl w3.heap.size w3));have iW:=lZ i;have aIT:=jM i;have NU:=lZ j;have a2_:=jM j;clear hh hx hv hrg aL6;refine kQ 25 (fun hHeld=>?_);simp only[m_,List.take_zero];refine cR [0,1,2,3,4,5,6,7,8,9,10,11,12,13,14,15,16,18,19,20,21] ?_;refine bI 17 (fun K hK=>?_);go_simp;refine(J9 (fO.o.val.up bP.o) (HVX.o.up bP.o) F3.o).mono ?_;rintro e w8 ⟨fJ,v8,rfl,h8⟩;have dS:Hid (Below w3.heap.size w3 w8):=lH (bP.o.tm fJ);have H8:=lH h8;clear fJ h8;go_simp;refine iB hK dS.o (fun hHeld=>?_);clear hK K;refine bI 22 (fun K hK=>?_);go_simp;refine(J9 H8.o (HVY.o.up dS.o) mZ.o).mono ?_;rintro e w9 ⟨gD,v9,rfl,h9⟩;have fH:Hid (Below w3.heap.size w3 w9):=lH (dS.o.tm gD);have H9:=lH h9;clear gD h9;go_simp;refine iB hK fH.o (fun hHeld=>?_);clear hK K;refine bI 23 (fun K hK=>?_);go_simp;refine(DO (I_.o.up fH.o) H9.o HS3.o).mono ?_;rintro e wq ⟨hbq,vq,rfl,hq⟩;have XD:Hid (Below w3.heap.size w3 wq):=lH (fH.o.tm hbq);have HVQ:=lH hq;clear hbq hq;go_simp;refine iB hK XD.o (fun hHeld=>?_);clear hK K;refine cR [24] ?_;refine eP ?_;clear hHeld;have tZ:=lH (dE.o.up XD.o);have ZN:=lH (fO.o.up XD.o);clear c c0 c1 c2' c3' l1 f1 cG gl z0 z1 z2 z3 zl dE fO I_ F3 mZ HS3 bP dS fH H8 H9 HVX HVY aEC a0 a1 a2 a3 d0 d1 d2 d3;obtain⟨c0,c1,c2',c3',l1,f1⟩:=tZ.o.elem2 HH.o tX.o KJ.o;have aGG:=lH (TG.o.add lE tA);(go_wp2_with fail);go_roundw
         case rel=>exact⟨j+1,_,_,tA,aQ aNU.o,by
          have h:=tZ.o.put HH.o tX.o (j:=j) (x:=vq) (by rw[xO.o];exact tA) HVQ.o;rw[<-gI tX.o] at h;exact h,ZN.o.put tZ.o HH.o tX.o (j:=j) (x:=vq) (by rw[xO.o];exact tA),aGG.o⟩
         case measure=>exact aNV.o
    ·have mL:k=K:=by omega
     have f_:¬(k:Int)<(K:Int):=by omega
     have HG0:Hid (jP wr wr.heap.size (some ⟨ga,0,none⟩) n G):=lH (by have h:=dE.o.own.rd;rw[bM.o.len] at h;exact h);have gT:Hid (Below w.heap.size w wr):=lH (by rw[EU.o];exact dE.o.low);have aYx:Hid (eZ n (3+606*M.length) G):=lH (by rw[lB.o,<-mL];exact bM.o);have mA:Hid (∀a b,a<n->b<n->Y3 G a b=DH M ms M.length a b):=lH (by rw[lB.o,<-mL];exact lQ.o);(go_wp2_with fail);exact bodyPost_ret (v:=.slice (some ⟨ga,0,none⟩) n n) (by simp[results,Tryz.results81,go_sem]) rfl ⟨gT.o,ga,G,rfl,HG0.o,aYx.o,mA.o⟩
def aRy(x:bK)(ms:List Mi)(w:Wo)(e:Ending)(w':Wo):Prop:=Below w.heap.size w w'/\∃A c hs b0,e=.returned (.slice A ms.length c)/\w.heap.size<=b0/\gP w' b0 (.slice A ms.length c) hs (aP x ms)/\ms.length<=c/\c<=maxLen
theorem gP.far{u y:Value}{hs:List Hd}{cs:Array Value}(m:gP w base v hs M)(hb:aD w g T cs)(h1:115≠T)(h2:93≠T)(hy:cs[i]?=some y)(hn:vR y):gP (w.setCell ⟨g,i,none⟩ u) base v hs M:=
 ⟨m.own.far hb h2,m.len,fun j h q hh hq=>by
  obtain⟨B,us,k⟩:=m.rows j h q hh hq;exact⟨B,us,k.far hb h1 hy hn⟩⟩
theorem UM(h:bZ)(x:bK)(ok:bJ x)(h8:x.nodes.length<=8)(g:Nat)(m:iC)(y:Value)(A:OA)(n c:Nat)(ms:List Mi)(w:Wo)(r:cL w w.heap.size h x)(hg:aD w g 122 (m.cells y))(hr:eK w w.heap.size m x)(hm:eB w w.heap.size A n ms)(hn:n<=64)(mD:∀m∈ms,qU x m):Calls Tryz.prog 82 #[.agg h.cells,.pointer (some ⟨g,0,none⟩),.slice A n c] w (aRy x ms w):=by
 have K0:=jO w (.cells h.cells 29);obtain⟨HK,P0,HG,HR,HX⟩:=iS K0 (aD.new w 29 h.cells) (hg.bl K0) (hr.up K0) (r.up K0);have HM:=lH (hm.bm K0);have lB:Hid (ms.length=n):=lH hm.1;have bM:=lH ok;have ZS:=lH mD;have eC:Hid (w.heap.size<=(w.alloc (.cells h.cells 29)).heap.size):=lH K0.size;clear K0 hg hr hm r mD ok;obtain⟨D0,r0,s0,D1,r1,s1,D2,r2,s2,D3,r3,s3,D4,r4,s4,D5,r5,s5⟩:=h;go_enter Tryz.func82,Tryz.ntmps82
 go_wp2_with fail
 generalize w.alloc (.cells (bZ.cells ⟨D0,r0,s0,D1,r1,s1,D2,r2,s2,D3,r3,s3,D4,r4,s4,D5,r5,s5⟩) 29)=W at *
 go_loopw [7,12] (fun v7 v12 wr=>∃(k:Nat)(hs:List Hd),k<=n/\v12=.int .i64 k/\gP wr W.heap.size v7 hs ((aP x ms).take k)/\Below W.heap.size W wr) (fun _ v12 _=>n-(intOf v12).toNat)
 case atStart=>exact⟨0,[],by omega,rfl,GR _ _,bR⟩
 case round=>
  obtain⟨k,hs,hk,rfl,ho,hb⟩:=hrel;have HO:=lH ho;have HB:=lH hb;clear ho hb;by_cases aR:k<n
  ·obtain⟨mi,jZ⟩:∃mi,ms[k]?=some mi:=eE (by have:=lB.o;omega)
   have EQ:=lH (PR (x:=x) jZ);have wW:=lH (ZS.o mi (bS jZ));have qJ:=(HM.o.below HB.o lR).more HB.o.size;have VH:=qJ.2.2 (by omega);obtain⟨ab,ao,hA,lO,-⟩:=VH;subst hA;obtain⟨a0,a1,a2,a3⟩:=qJ.at_ jZ;have f_:(k:Int)<(n:Int):=by omega
   have kO:=lZ k;have rR:=jM k;have kL:=lN k;have iR:Hid (n-(k+1)<n-k):=lH (by omega);clear jZ qJ;(go_upto_region 5 with fail);clear a0 a1 a2 a3 lO f_ kO rR;have hz:=jO wr (.cells #[.int .i64 mi.kind,.string mi.name,.string mi.txt,.int .i64 mi.wt] 57);have BZ:=lH (aD.new wr 57 #[.int .i64 mi.kind,.string mi.name,.string mi.txt,.int .i64 mi.wt]);replace HO:=lH (HO.o.keep hz);have gT:Hid (Below W.heap.size W (wr.alloc (.cells #[.int .i64 mi.kind,.string mi.name,.string mi.txt,.int .i64 mi.wt] 57))):=lH (HB.o.tm hz);clear hz HB;generalize wr.alloc (.cells #[.int .i64 mi.kind,.string mi.name,.string mi.txt,.int .i64 mi.wt] 57)=wa at *;have P0w:=P0.o.bl gT.o;obtain⟨y0,y1,y2,y3,y4,y5,nf,nlt⟩:=aX P0w;dsimp only at y0 y1 y2 y3 y4 y5;obtain⟨x0,x1,x2,x3,xl⟩:=BZ.o.b4;clear P0w;(go_wp2_with fail);refine(tR _ x bM.o h8 g m y mi wa (HX.o.up gT.o) (HG.o.bl gT.o) (HR.o.up gT.o) wW.o.1 wW.o.2).mono ?_;rintro e w5 ⟨eJ,gc,u,rfl,hq,hv⟩;clear y0 y1 y2 y3 y4 y5 nf nlt x0 x1 x2 x3 xl;have d_:=cJ gT eJ;replace HO:=lH (HO.o.keep eJ);have HQ:=lH hq;clear eJ hq hv gT;(go_wp2_with fail);refine(G0 g m y x bM.o h8 u (some ⟨gc,0,none⟩) (aH x) (aH x) (aS x mi).1 w5 (HG.o.bl d_.o) (HR.o.up d_.o) HQ.o rfl).mono ?_;rintro e w6 ⟨gA,B6,v6,us,hB6,rfl,aW⟩;have gQ:=cJ d_ gA;replace HO:=lH (HO.o.keep gA);have HW6:=lH aW;obtain⟨A',c',YD,-⟩:=aW.rd;subst YD;have JZ:Hid (W.heap.size<=w6.heap.size):=lH gQ.o.size;clear gA hB6 aW d_ HQ
   go_wp2_with (at_builtin;refine xP rfl (.tmp 16) (.tmp 23) _ rfl W.heap.size Tryz.underlying92 u7 hs _ rfl HO.o B6 _ us _ HW6.o rfl ?k1 JZ.o ?_)
   case k1=>rw[jN];omega
   intro v' w8 hs' hrows fJ;have tD:=lH hrows;have dS:=lH (gQ.o.trans fJ);clear hrows fJ;(go_wp2_with fail);go_roundw
   case rel=>exact⟨k+1,hs',aR,aQ kL.o,by rw[EQ.o];exact tD.o,dS.o⟩
   case measure=>exact iR.o
  ·have mL:k=n:=by omega
   have sM:(aP x ms).length=n:=by unfold aP;rw[iT];exact lB.o
   have ML:Hid (gP wr W.heap.size u7 hs (aP x ms)):=lH (by
    have h:=HO.o;rw[nT (by omega)] at h;exact h)
   have f_:¬(k:Int)<(n:Int):=by omega
   obtain⟨A',c',hv,oP,h1,h2⟩:=ML.o.rd;rw[sM] at hv oP h1;subst hv;have F6:Hid (gP wr W.heap.size (.slice A' n c') hs (aP x ms)):=ML;clear oP sM;(go_wp2_with fail);go_ret;exact⟨HK.o.trans (HB.o.mono eC.o),A',c',hs,W.heap.size,by rw[lB.o];rfl,eC.o,by rw[lB.o];exact F6.o,by rw[lB.o];exact h1,h2⟩
end
section
theorem GW:∀(s:Nat) {M:List (List Rat)} {N k b:Nat} {piv:List Nat},(∀a∈M,a.length=N)->k+s<=N->Bd b M->Bd (4^s*b) (n_ s M piv k).1
 | 0,M,N,k,b,piv,hw,hk,h=>by rw[Nat.pow_zero,Nat.one_mul];exact h
 | s+1,M,N,k,b,piv,hw,hk,h=>by
  unfold n_;have VG:0<4^(s+1):=Nat.pow_pos (by decide);have KA:b<=4^(s+1)*b:=Nat.le_mul_of_pos_left _ VG;by_cases hl:piv.length<M.length
  ·rw[if_pos hl]
   by_cases hp:oD M piv.length k=M.length
   ·rw[if_pos hp]
    exact(GW s hw (by omega) h).mono (Nat.mul_le_mul_right _ (Nat.pow_le_pow_right (by decide) (Nat.le_succ _)))
   ·rw[if_neg hp]
    obtain⟨Rp,hRp,hd⟩:=wC (oO hl) hp;obtain⟨Rr,hRr⟩:∃Rr,M[piv.length]?=some Rr:=⟨_,gS hl⟩;have h1:=aFY h hw hRr hRp (k:=k) (by omega);have h2:=GW s (piv:=piv++[k]) (k:=k+1) (L_ hw hRr hRp) (by omega) h1;rw[<-Nat.mul_assoc,<-Nat.pow_succ] at h2;exact h2
  ·rw[if_neg hl]
   exact h.mono KA
theorem U5(hw:∀a∈M,a.length=M.length)(h:Bd b M)(hb:3<=b):Bd (4^M.length*b) (l9 M):=fun a ha x hx=>by
 unfold l9 at ha;obtain⟨r,hr,rfl⟩:=List.mem_map.1 ha;exact GW M.length (vM hw) (by omega) (Y0 h hb) r hr x (List.mem_of_mem_drop hx)
def dL(n:Nat)(M:List (List Rat))(ms:List Mi):List (List Rat):=(List.range n).map fun a=>(List.range n).map fun b=>DH M ms M.length a b
theorem bQ:(dL n M ms).length=n:=by simp[dL]
theorem aI8{K:Nat}{G:List (List Rat)}(h:eZ n K G)(hv:∀a b,a<n->b<n->Y3 G a b=DH M ms M.length a b):G=dL n M ms:=by
 apply List.ext_getElem?;intro i;by_cases hi:i<n
 ·obtain⟨r,hr⟩:∃r,G[i]?=some r:=eE (by rw[h.len];exact hi)
  have sM:=h.wid r (bS hr);rw[hr];unfold dL;rw[lT,List.getElem?_range hi];show some r=some _;congr 1
  apply List.ext_getElem?;intro j;by_cases hj:j<n
  ·have h2:=hv i j hi hj
   rw[FX hr] at h2;rw[lT,List.getElem?_range hj,bC (l:=r) (i:=j) (by rw[sM];exact hj),h2];rfl
  ·rw[List.getElem?_eq_none (by omega),List.getElem?_eq_none (by simp;omega)]
 ·rw[List.getElem?_eq_none (by rw[h.len];omega),List.getElem?_eq_none (by rw[bQ];omega)]
def xE(x:bK)(m:Mi):Rat:=(m.wt:Rat)*(kY m.txt-(aS x m).2)
def CY(x:bK)(ms:List Mi):Fn:=fun k=>match ms[k]? with | some m=>xE x m | none=>0
theorem BE(h:ms[k]?=some m):CY x ms k=xE x m:=by unfold CY;rw[h]
def l7(n:Nat)(x:bK)(ms:List Mi)(k:Nat):List Rat:=(List.range n).map fun i=>aM k fun t=>CY x ms t*vf ((aP x ms).getD t []) i
theorem fD:(l7 n x ms k).length=n:=by simp[l7]
theorem aAv:l7 n x ms 0=List.replicate n 0:=by
 apply List.ext_getElem?;intro i;unfold l7;rw[lT,List.getElem?_replicate];by_cases hi:i<n
 ·rw[List.getElem?_range hi,if_pos hi];rfl
 ·rw[List.getElem?_eq_none (by simp;omega),if_neg hi];rfl
theorem zZ(hi:i<n):vf (l7 n x ms k) i=aM k fun t=>CY x ms t*vf ((aP x ms).getD t []) i:=by
 apply kW;unfold l7;rw[lT,List.getElem?_range hi];rfl
def EZ(n:Nat)(x:bK)(ms:List Mi)(k i:Nat):List Rat:=(l7 n x ms (k+1)).take i++(l7 n x ms k).drop i
theorem aAw:EZ n x ms k 0=l7 n x ms k:=by simp[EZ]
theorem aDn:EZ n x ms k n=l7 n x ms (k+1):=by
 unfold EZ;rw[nT (by rw[fD];exact lR),List.drop_eq_nil_iff.2 (by rw[fD];exact lR),List.append_nil]
theorem sC(hi:i<=n):(EZ n x ms k i).length=n:=by
 unfold EZ;rw[g_,jN,J2,fD,fD];omega
theorem aH5(hi:i<n):(EZ n x ms k i)[i]?=some (vf (l7 n x ms k) i):=by
 unfold EZ;rw[BP (by rw[jN,fD];omega),jN,fD,List.getElem?_drop,show i+(i-min i n)=i from by omega];exact bC (by rw[fD];exact hi)
theorem aDm(hi:i<n){row:List Rat}(hr:(aP x ms)[k]?=some row):(EZ n x ms k i).set i (vf (l7 n x ms k) i+CY x ms k*vf row i)=EZ n x ms k (i+1):=by
 have h1:vf (l7 n x ms k) i+CY x ms k*vf row i=vf (l7 n x ms (k+1)) i:=by
  rw[zZ hi,zZ hi];simp only[aM];rw[dH (l:=aP x ms) (i:=k),hr];rfl
 rw[h1];apply List.ext_getElem?;intro j;unfold EZ;rw[List.getElem?_set];by_cases hj:i=j
 ·subst hj
  rw[if_pos rfl,if_pos (by rw[g_,jN,J2,fD,fD];omega),yC (by rw[jN,fD];omega),List.getElem?_take,if_pos (Nat.lt_succ_self _),bC (by rw[fD];exact hi)]
 ·rw[if_neg hj,List.getElem?_append,List.getElem?_append,jN,jN,fD,List.getElem?_take,List.getElem?_take,List.getElem?_drop,List.getElem?_drop]
  by_cases h2:j<i
  ·rw[if_pos (by omega),if_pos h2,if_pos (by omega),if_pos (by omega)]
  ·rw[if_neg (by omega),if_neg (by omega),show i+(j-min i n)=j from by omega,show i+1+(j-min (i+1) n)=j from by omega]
def qD(F:List Nat)(d:Fn)(z:List Rat):Nat->List Rat
 | 0=>z
 | k+1=>(qD F d z k).set (F.getD k 0) (d k)
theorem oE{F:List Nat}{d:Fn}{z:List Rat}:∀k,(qD F d z k).length=z.length
 | 0=>rfl
 | k+1=>by unfold qD;rw[kV,oE k]
def mR(x:bK)(ms:List Mi):Fn:=fun i=>iM ((l9 (dL (aA x).length (aP x ms) ms)).getD i []) (l7 (aA x).length x ms ms.length)
def cE(x:bK)(ms:List Mi):List Rat:=qD (aA x) (mR x ms) (kT (aH x)) (aA x).length
def cW(x:bK)(ms:List Mi)(al:List Rat):List Rat:=ms.map fun m=>kY m.txt-(iM (aS x m).1 al+(aS x m).2)
def o5(x:bK)(ms:List Mi):Prop:=Reg (dL (aA x).length (aP x ms) ms)
end
section
open Go.ChangeShapes Go.WideShapes Go.ChangeAt Go.RowKit
attribute [local go_sem ↓] aE
attribute [local go_sem] aL aK aO a_
structure Vb (w:Wo) (gc:Nat) (vs:List Rv) (q:List Rat):Prop where
 row:∃cs,aD w gc 115 cs/\cs.toList.take (q.length*4)=fI vs
 len:vs.length=q.length
 ok:kK w vs q
section
variable {w w':Wo} {gc:Nat} {vs:List Rv} {q:List Rat}
theorem Vb.lt(f:Vb w gc vs q):gc<w.heap.size:=by obtain⟨cs,h1,h2⟩:=f.row;exact h1.lt
theorem Vb.up(f:Vb w gc vs q)(hb:Below w.heap.size w w'):Vb w' gc vs q:=by
 obtain⟨cs,h1,h2⟩:=f.row;exact⟨⟨cs,h1.bl hb,h2⟩,f.len,f.ok.up hb⟩
theorem Vb.elem(f:Vb w gc vs q)(hj:j<q.length):∃x,vs[j]?=some x/\w.cell? ⟨gc,j*4,none⟩=some (.bool x.b1)/\w.cell? ⟨gc,j*4+1,none⟩=some (.slice x.A x.n x.c)/\w.cell? ⟨gc,j*4+2,none⟩=some (.bool x.b2)/\w.cell? ⟨gc,j*4+3,none⟩=some (.slice x.A2 x.m x.d)/\gc<w.heap.size/\(∀o,w.frozen? ⟨gc,o,none⟩=false):=by
 obtain⟨cs,h1,h2⟩:=f.row;obtain⟨x,hx⟩:∃x,vs[j]?=some x:=eE (by rw[f.len];exact hj);obtain⟨c0,c1,c2,c3⟩:=h1.row_cell h2 hx;exact⟨x,hx,c0,c1,c2,c3,h1.lt,h1.frozen⟩
theorem Vb.val(f:Vb w gc vs q)(hj:j<q.length){x:Rv}(hx:vs[j]?=some x):cU w w.heap.size (vf q j) x:=f.ok j _ x (bC hj) hx
theorem Vb.keep(f:Vb w gc vs q)(hj:j<q.length){x y:Rv}{p:Rat}(hy:cU w w.heap.size p y):cU (eG w gc j x) (eG w gc j x).heap.size p y:=by
 obtain⟨cs,h1,h2⟩:=f.row;obtain⟨x0,hx⟩:∃x,vs[j]?=some x:=eE (by rw[f.len];exact hj);exact cU.keep4 hy x h1 h2 hx
theorem Vb.put(f:Vb w gc vs q)(hj:j<q.length){x:Rv}{p:Rat}(hx:cU w w.heap.size p x):Vb (eG w gc j x) gc (vs.set j x) (q.set j p):=by
 obtain⟨cs,h1,h2⟩:=f.row;obtain⟨cs',k1,k2⟩:=h1.row_put x h2 f.len hj;refine⟨⟨cs',k1,by rw[kV];exact k2⟩,by simp[f.len],fun i p' y hp hy=>?_⟩;rw[List.getElem?_set] at hp hy;by_cases uA:j=i
 ·subst uA
  rw[if_pos rfl,if_pos hj] at hp;rw[if_pos rfl,if_pos (by rw[f.len];exact hj)] at hy;injection hp with hp;injection hy with hy;subst hp;subst hy;exact f.keep hj hx
 ·rw[if_neg uA] at hp hy
  exact f.keep hj (f.ok i p' y hp hy)
theorem Vb.rdq(f:Vb w gc vs q):iE w w.heap.size (some ⟨gc,0,none⟩) q.length q:=by
 obtain⟨cs,h1,h2⟩:=f.row;refine⟨vs,f.len,rfl,⟨by rw[dW,f.len],fun hn=>⟨gc,0,rfl,h1.lt,fun i v hv=>?_⟩⟩,f.ok⟩;rw[Nat.zero_add,h1.cell];rw[<-h2] at hv;rw[List.getElem?_take] at hv;split at hv
 ·rwa[Array.getElem?_toList] at hv
 ·cases hv
end
theorem MT{gc:Nat}{v:Rv}(hc:aD w gc 115 (fI (List.replicate n v)).toArray)(hv:cU w w.heap.size 0 v):Vb w gc (List.replicate n v) (kT n):=by
 refine⟨⟨_,hc,?_⟩,by simp[kT],fun i p x hp hx=>?_⟩
 ·have hl:(fI (List.replicate n v)).length=n*4:=(dW _).trans (by rw[qV])
  rw[kT,qV];exact nT (Nat.le_of_eq hl)
 ·unfold kT at hp
  rw[List.getElem?_replicate] at hp hx;split at hp
  ·rename_i h
   rw[if_pos h] at hx;rw[<-Option.some.inj hp,<-Option.some.inj hx];exact hv
  ·cases hp
theorem rJ{a0 a1 a2 a3 a4 v0 v1 v2 v3 v4:Value}(h:aD w g T #[a0,a1,a2,a3,a4]):aD (((((w.setCell ⟨g,0,none⟩ v0).setCell ⟨g,1,none⟩ v1).setCell ⟨g,2,none⟩ v2).setCell ⟨g,3,none⟩ v3).setCell ⟨g,4,none⟩ v4) g T #[v0,v1,v2,v3,v4]:=((((h.set_ 0 v0).set_ 1 v1).set_ 2 v2).set_ 3 v3).set_ 4 v4
theorem lY{a:Wo}{v0 v1 v2 v3 v4:Value}(h:Below B a w)(hg:B<=g):Below B a (((((w.setCell ⟨g,0,none⟩ v0).setCell ⟨g,1,none⟩ v1).setCell ⟨g,2,none⟩ v2).setCell ⟨g,3,none⟩ v3).setCell ⟨g,4,none⟩ v4):=((((h.setCell hg _).setCell hg _).setCell hg _).setCell hg _).setCell hg _
def NoB(cs:Array Value):Prop:=∀(i:Nat)(u:Value),cs[i]?=some u->(∀b,u≠.bool b)/\vR u
section
variable {w:Wo} {g T:Nat} {cs:Array Value} {i:Nat} {u y:Value}
theorem iE.keepB{A0:OA}{qs:List Rat}(h:iE w w.heap.size A0 n qs)(hb:aD w g T cs)(hc:NoB cs)(hy:cs[i]?=some y):iE (w.setCell ⟨g,i,none⟩ u) (w.setCell ⟨g,i,none⟩ u).heap.size A0 n qs:=by
 obtain⟨vs,h1,h2,h3,h4⟩:=h;refine⟨vs,h1,h2,⟨h3.1,fun hn=>?_⟩,fun j q v hq hv=>cU.keep1 (h4 j q v hq hv) hb hy (hc _ _ hy).2 u⟩;obtain⟨b,off,e,aR,LS⟩:=h3.2 hn;have YO:b≠g:=by
  rintro rfl;obtain⟨v,hv⟩:∃v,vs[0]?=some v:=eE (by omega);have:=LS 0 (.bool v.b1) (by have h5:=tI hv 0 (by decide);simpa[Rv.cells] using h5);rw[Nat.add_zero,hb.cell] at this;exact(hc _ _ this).1 _ rfl
 refine⟨b,off,e,by simpa[World.setCell] using aR,fun j v hv=>?_⟩;rw[World.cell?_setCell_other _ _ _ _ (fun e2=>YO (by injection e2 with e2;exact e2.symm))];exact LS j v hv
theorem jP.keepB{A0:OA}(h:jP w w.heap.size A0 n M)(hb:aD w g T cs)(hc:NoB cs)(hy:cs[i]?=some y)(hA:∀b off,A0=some ⟨b,off,none⟩->b≠g):jP (w.setCell ⟨g,i,none⟩ u) (w.setCell ⟨g,i,none⟩ u).heap.size A0 n M:=by
 obtain⟨hs,h1,h2,h3,h4⟩:=h;refine⟨hs,h1,h2,⟨h3.1,fun hn=>?_⟩,fun j z q hz hq=>⟨(h4 j z q hz hq).1.keepB hb hc hy,(h4 j z q hz hq).2⟩⟩;obtain⟨b,off,e,aR,LS⟩:=h3.2 hn;refine⟨b,off,e,by simpa[World.setCell] using aR,fun j v hv=>?_⟩;rw[World.cell?_setCell_other _ _ _ _ (fun e2=>hA b off e (by injection e2 with e2;exact e2.symm))];exact LS j v hv
end
theorem AX{A1 A2 A3 A4:OA}{n1 c1 n2 c2 n3 c3 n4 c4:Nat}:NoB #[.pointer (some ⟨g,0,none⟩),.slice A1 n1 c1,.slice A2 n2 c2,.slice A3 n3 c3,.slice A4 n4 c4]:=fun i u h=>by
 have h2:=Array.mem_toList_iff.2 (Array.mem_of_getElem? h);simp only[List.mem_cons,List.not_mem_nil,or_false] at h2;rcases h2 with rfl | rfl | rfl | rfl | rfl<;>exact⟨fun b e=>(by cases e),fun k x e=>(by cases e)⟩
theorem DV.vb{gf gc:Nat}{vs:List Rv}{u:Rv}{z:Rat}(f:DV w gf gc vs u q z){p:Nat}{y:Rv}(hb:aD w p T #[.slice none 0 0,.bool false,.slice none 0 0,.bool false,.slice none 0 0])(hp:gc≠p):Vb (put5 w p gc n y) gc vs q:=by
 obtain⟨cs,h1,h2⟩:=f.row;exact⟨⟨cs,((((h1.far hp _).far hp _).far hp _).far hp _).far hp _,h2⟩,f.len,fun i t v ht hv=>(f.ok i t v ht hv).keep5 hb⟩
def aTf(x:bK)(m:Mi)(w:Wo)(e:Ending)(w':Wo):Prop:=Below w.heap.size w w'/\∃(gc:Nat)(u:Rv),e=.returned (.agg #[.slice (some ⟨gc,0,none⟩) (aH x) (aH x),.bool u.b1,.slice u.A u.n u.c,.bool u.b2,.slice u.A2 u.m u.d])/\w.heap.size<=gc/\(∃vs,Vb w' gc vs (aS x m).1)/\cU w' w'.heap.size (aS x m).2 u
theorem aBk(h:bZ)(x:bK)(ok:bJ x)(h8:x.nodes.length<=8)(g:Nat)(m:iC)(y:Value)(mi:Mi)(w:Wo)(r:cL w w.heap.size h x)(hg:aD w g 122 (m.cells y))(hr:eK w w.heap.size m x)(h0:mi.kind=0->0<=mV x mi.name)(h1:mi.kind≠0->mi.name∈x.nodes):Calls Tryz.prog 63 #[.agg h.cells,.pointer (some ⟨g,0,none⟩),mi.val] w (aTf x mi w):=by
 have eY:Hid (aH x=m.n1):=lH (by rw[<-qE ok];exact hr.r1.len);obtain⟨HX,HG,HR,H0,H1⟩:=iS r hg hr h0 h1;have bM:=lH ok;have hnb:m.n1<=8:=by rw[<-eY.o];exact b_ (eW ok).2 h8
 have JY:=lH hnb;obtain⟨kind,name,txt,wt⟩:=mi;simp only[Mi.val];have Q0:Below w.heap.size w ((((w.alloc (.cells h.cells 29)).alloc (.cells #[.pointer (some ⟨g,0,none⟩)] 90)).alloc (.cells #[.int .i64 kind,.string name,.string txt,.int .i64 wt] 57)).alloc AI):=(((Below.alloc (Below.refl _ w) lR _).alloc (by simp<;>omega) _).alloc (by simp<;>omega) _).alloc (by simp<;>omega) _;have HW:=lH Q0;have P0:=lH (((aD.new w 29 h.cells).alloc (.cells #[.pointer (some ⟨g,0,none⟩)] 90)).alloc (.cells #[.int .i64 kind,.string name,.string txt,.int .i64 wt] 57) |>.alloc AI);have P1:Hid (aD ((((w.alloc (.cells h.cells 29)).alloc (.cells #[.pointer (some ⟨g,0,none⟩)] 90)).alloc (.cells #[.int .i64 kind,.string name,.string txt,.int .i64 wt] 57)).alloc AI) (w.heap.size+1) 90 #[.pointer (some ⟨g,0,none⟩)]):=lH (((aD.new_ (by simp)).alloc _).alloc _);have P2:Hid (aD ((((w.alloc (.cells h.cells 29)).alloc (.cells #[.pointer (some ⟨g,0,none⟩)] 90)).alloc (.cells #[.int .i64 kind,.string name,.string txt,.int .i64 wt] 57)).alloc AI) (w.heap.size+1+1) 57 #[.int .i64 kind,.string name,.string txt,.int .i64 wt]):=lH ((aD.new_ (by simp)).alloc _);have P3:Hid (aD ((((w.alloc (.cells h.cells 29)).alloc (.cells #[.pointer (some ⟨g,0,none⟩)] 90)).alloc (.cells #[.int .i64 kind,.string name,.string txt,.int .i64 wt] 57)).alloc AI) (w.heap.size+1+1+1) 117 #[.slice none 0 0,.bool false,.slice none 0 0,.bool false,.slice none 0 0]):=lH (aD.new_ (by simp));clear r hg hr h0 h1 ok Q0 hnb;obtain⟨A0,n0,c0,A1,n1,c1,A2,n2,c2,A3,n3,c3,A4,n4,c4,A5,n5,c5,A6,n6,c6⟩:=m;simp only[iC.cells] at HG eY JY;go_enter Tryz.func63,Tryz.ntmps63
 go_upto_region 1 with fail
 have eC:Hid (((((w.alloc (.cells h.cells 29)).alloc (.cells #[.pointer (some ⟨g,0,none⟩)] 90)).alloc (.cells #[.int .i64 kind,.string name,.string txt,.int .i64 wt] 57)).alloc AI).heap.size=w.heap.size+1+1+1+1):=lH (by simp);generalize ((((w.alloc (.cells h.cells 29)).alloc (.cells #[.pointer (some ⟨g,0,none⟩)] 90)).alloc (.cells #[.int .i64 kind,.string name,.string txt,.int .i64 wt] 57)).alloc AI)=wa at *;obtain⟨b0,bl⟩:=P1.o.b1
 go_wp2_with fail
 refine(nJ g ⟨A0,n0,c0,A1,n1,c1,A2,n2,c2,A3,n3,c3,A4,n4,c4,A5,n5,c5,A6,n6,c6⟩ y wa (HG.o.bl HW.o)).mono ?_;rintro e w1 ⟨rfl,rfl⟩
 go_wp2_with fail
 refine(lS n1 wa (by have:=JY.o;omega)).mono ?_;rintro e w1 ⟨bO,gc,v,rfl,hgc,JT,hv⟩
 go_wp2_with fail
 refine(pV 0 w1 (by decide) (by decide)).mono ?_;rintro e w2 ⟨bH,u,rfl,hu⟩;have KP:=lH (LU (gc:=gc) (n:=n1) (JT.bl bH) (hv.up bH) hu);have dN:=lH (HW.o.trans ((bO.tm bH).mono HW.o.size));have J1:=lH (sS (w:=w2) (gc:=gc) (n:=n1) (u:=u));have ET:Hid (wa.heap.size<=gc/\gc<w2.heap.size):=lH ⟨hgc,kA JT.lt bH.size⟩;have mZ:Hid (wa.heap.size<=w2.heap.size):=lH (b_ bO.size bH.size);have hz:Below wa.heap.size wa w2:=bO.tm bH;replace P0:=lH (P0.o.bl hz);replace P1:=lH (P1.o.bl hz);replace P2:=lH (P2.o.bl hz);replace P3:=lH (P3.o.bl hz);clear bO bH hgc JT hv hu hz b0 bl
 go_upto_region 2 with fail
 unfold mkF at KP J1;generalize NP:w2.alloc (.cells #[.slice (some ⟨gc,0,none⟩) n1 n1,.bool u.b1,.slice u.A u.n u.c,.bool u.b2,.slice u.A2 u.m u.d] 117)=wb at *;clear NP;have xM:=lH (dN.o.tm J1.o);have EV:Hid (aCd wb wa.heap.size (w.heap.size+1) g ⟨A0,n0,c0,A1,n1,c1,A2,n2,c2,A3,n3,c3,A4,n4,c4,A5,n5,c5,A6,n6,c6⟩ y x w2.heap.size gc):=lH ⟨mZ.o,ET.o.1,by have:=eC.o;omega,by have:=eC.o;have:=HG.o.lt;omega,by have:=J1.o.size;have:=mZ.o;omega,P1.o.bl J1.o,HG.o.bl xM.o,(HR.o.below xM.o lR).more (by have:=eC.o;omega)⟩;replace P0:=lH (P0.o.bl J1.o);replace P2:=lH (P2.o.bl J1.o);replace P3:=lH (P3.o.bl J1.o);generalize FW:w2.heap.size=gf at *;have lF:Hid (wa.heap.size<=gf):=lH (by have:=mZ.o;omega);clear FW J1 dN P1 mZ HG;obtain⟨k0,kl⟩:=P2.o.b1
 go_upto_if 19 with fail
 clear k0 kl;obtain⟨D0,r0,s0,D1,r1,s1,D2,r2,s2,D3,r3,s3,D4,r4,s4,D5,r5,s5⟩:=h;by_cases hk:kind=0
 ·subst hk
  have hbi:=H0.o rfl;rcases qS x name with⟨h1,_⟩ | ⟨i,b,h1,h2,h3⟩
  ·exact absurd (show 0<=mV x name from hbi) (by omega)
  clear hbi h3;have HBI:=lH h1;have qW:=lH h2;clear h1 h2;obtain⟨y0,y1,y2,y3,y4,y5,nf,nlt⟩:=aX P0.o;dsimp only at y0 y1 y2 y3 y4 y5;have k1:=P2.o.cell 1;have kl:=P2.o.lt;(go_wp2_with fail);refine(vG _ x name wb (HX.o.up xM.o)).mono ?_;rintro e w5 ⟨rfl,eJ⟩;rw[HBI.o];(go_wp2_with fail);refine(oI (s:=(kT n1,0)) (EV.out.oth (eS eJ)) (KP.o.up eJ) (F7 n1) (by decide) eY.o.symm h8 bM.o qW.o false).mono ?_;rintro e w6 ⟨rfl,ho,vs2,u2,hf⟩;have HO:Hid (BJ gf gc wb w6):=lH ((eS eJ).trans ho);have HF:=lH hf;clear eJ ho hf k1 kl;clear y0 y1 y2 y3 y4 y5 nf nlt;have KO:Hid (aS x ⟨0,name,txt,wt⟩=(mY (sg false (dB b)) (aG x b.fr) (aG x b.to) (kT n1),0+sg false (jD b))):=lH (by
   obtain⟨a1,a2,a3,a4⟩:=jW qW.o;unfold aS;rw[if_pos rfl];simp only[HBI.o,jM,eY.o,dH,vf,a1,a2,a3,a4];rfl)
  have lP:Hid ((mY (sg false (dB b)) (aG x b.fr) (aG x b.to) (kT n1)).length=n1):=lH (by rw[mX];simp[kT]);have HL:Hid (Below w.heap.size w w6):=lH (xM.o.trans (HO.o.below (by have:=eC.o;have:=lF.o;omega) (by have:=eC.o;have:=ET.o.1;omega) xM.o.size));have P3b:Hid (aD w6 (w.heap.size+1+1+1) 117 #[.slice none 0 0,.bool false,.slice none 0 0,.bool false,.slice none 0 0]):=lH (HO.o.blk P3.o (by have:=eC.o;have:=lF.o;omega) (by have:=eC.o;have:=ET.o.1;omega));have HPC:Hid (gc≠w.heap.size+1+1+1):=lH (by have:=eC.o;have:=ET.o.1;omega);obtain⟨q0,q1,q2,q3,q4⟩:=HF.o.blk.a5;rw[lP.o] at q0;obtain⟨z0,z1,z2,z3,z4,zf,zl⟩:=P3b.o.e5;have ql:=HF.o.blk.lt;(go_wp2_with fail);have ZR:=lH (sF (gc:=gc) (n:=n1) (u:=u2) P3b.o);clear q0 z0 q1 z1 q2 z2 q3 z3 q4 z4 ql zl zf;obtain⟨p0,p1,p2,p3,p4⟩:=ZR.o.a5;unfold put5 at p0 p1 p2 p3 p4;refine bodyPost_ret (v:=.agg #[.slice (some ⟨gc,0,none⟩) n1 n1,.bool u2.b1,.slice u2.A u2.n u2.c,.bool u2.b2,.slice u2.A2 u2.m u2.d]) (by simp[results,Tryz.results63,go_sem,p0,p1,p2,p3,p4]) rfl ?_;refine⟨nM (gc:=gc) (n:=n1) (u:=u2) HL.o (by omega),gc,u2,by rw[eY.o],(by have:=eC.o;have:=ET.o.1;omega),?_,?_⟩
  ·have h:=HF.o.vb P3b.o HPC.o (n:=n1) (y:=u2)
   rw[KO.o];exact⟨_,h⟩
  ·rw[KO.o]
   exact HF.o.val.keep5 P3b.o (gc:=gc) (n:=n1) (u:=u2)
 ·have hkB:(kind == 0)=false:=by simp[hk]
  rw[hkB];have hm:=H1.o hk;obtain⟨YQ,ha2,ha3⟩:=bU bM.o hm;obtain⟨KC,EI⟩:=sK hm;have HA:Hid (∀N,Calls Tryz.prog 91 #[.slice D0 r0 s0,.string name] (wb.drewN N) fun e w'=>e=.returned (.int .i64 (dF x.nodes name:Int))/\w'=wb.drewN N):=lH fun N=>by
   have hx:=HX.o.up (bF xM.o N);exact(kD _ _ s0 x.nodes name _ hx.r0 hx.m0).mono fun e w' ⟨he,hw⟩=>⟨by rw[he,KC],hw.symm⟩
  have HBN:Hid (aG x name<n1):=lH (by rw[<-eY.o];exact ha2);have gC:=EV.out.rd.r0;simp only at gC;have hr1:=gC.2 (by have:=gC.len;omega);obtain⟨tb,to2,hA,S_,-⟩:=hr1;subst hA;have f0:=gC.at_ (i:=dF x.nodes name) (z:=(aG x name:Int)) (by rw[dH] at YQ;rw[gS ha3] at YQ ⊢;simpa using YQ);have BS:((dF x.nodes name:Nat):Int)<(n0:Int):=by have:=gC.len;omega
  have iW:(0:Int)<=((dF x.nodes name:Nat):Int):=by omega
  have lE:((dF x.nodes name:Nat):Int).toNat=dF x.nodes name:=jM _;have QX:tb<wb.heap.size:=kA S_ EV.out.hs;obtain⟨y0,y1,y2,y3,y4,y5,nf,nlt⟩:=aX P0.o;dsimp only at y0 y1 y2 y3 y4 y5;obtain⟨k0,k1,kl⟩:=P2.o.b2;obtain⟨b0,bl⟩:=EV.out.box.b1;have g0:wb.cell? ⟨g,0,none⟩=some (.slice (some ⟨tb,to2,none⟩) n0 c0):=EV.out.md.cell 0;have gl:=EV.out.md.lt;clear KC EI YQ ha2 ha3 hm gC S_;generalize dF x.nodes name=ia at *;generalize hK:aG x name=bus at *;have aGP:=lH hK;clear hK;(go_wp2_with fail)
  go_quiet ((go_at_call_of 91 (Value.string name);exact(HA.o _).mono (fun _ _ hh=>⟨hh.1,_,hh.2⟩)))
  have hd:=bF (Below.refl wb.heap.size wb) nq;replace EV:=lH (EV.out.oth (eS hd));replace KP:=lH (KP.o.up hd);replace P2:=lH (P2.o.bl hd);replace P3:=lH (P3.o.bl hd);replace xM:=lH (bF xM.o nq);clear y0 y1 y2 y3 y4 y5 nf nlt;clear hd k0 k1 kl b0 bl g0 gl f0 HA BS iW lE QX hkB P0 HX;generalize wb.drewN nq=wd at *;obtain⟨k0,kl⟩:=P2.o.b1;have OG:Hid ((kT n1).length=n1):=lH (by simp[kT]);by_cases vJ:kind=2
  ·subst vJ
   obtain⟨xe,hx,c0,c1,c2',c3',hv,l1,f1⟩:=KP.o.elem (j:=bus) (by rw[OG.o];exact HBN.o);have KJ:=lH hx;have q0:=KP.o.blk.cell 0;rw[OG.o] at q0;have ql:=KP.o.blk.lt;have tO:(bus:Int)<(n1:Int):=by have:=HBN.o;omega
   have tP:=lZ bus;have tN:=jM bus;have bP:=lH (aI (Below.refl wd.heap.size wd));clear hx hv;(go_upto_region 8 with fail);clear k0 kl;refine kQ 5 (fun hHeld=>?_);simp only[m_,List.take_zero];refine cR [0,1,2] ?_;refine bI 3 (fun K hK=>?_);go_simp;refine(pV 1 wd.drew (by decide) (by decide)).mono ?_;rintro e w8 ⟨fJ,v8,rfl,h8⟩;have dS:Hid (Below wd.heap.size wd w8):=lH (bP.o.tm fJ);have H8:Hid (cU w8 w8.heap.size 1 v8):=lH h8;clear fJ h8;go_simp;refine iB hK dS.o (fun hHeld=>?_);clear hK K;refine cR [4] ?_;refine eP ?_;clear hHeld;have uR:=lH (KP.o.up dS.o);have tD:Hid (BJ gf gc wd w8):=lH (eS dS.o);clear c0 c1 c2' c3' l1 f1 q0 ql KP bP dS;obtain⟨c0,c1,c2',c3',l1,f1⟩:=uR.o.elem2 KJ.o;(go_upto_region 9 with fail);clear c0 c1 c2' c3' l1 f1;have HF:=lH (uR.o.put (j:=bus) (by rw[OG.o];exact HBN.o) H8.o);have HO:Hid (BJ gf gc wd (eG w8 gc bus v8)):=lH (tD.o.trans AG);clear uR tD H8 KJ tO tP tN;simp only[eG] at HF HO;generalize (((w8.setCell ⟨gc,bus*4,none⟩ _).setCell ⟨gc,bus*4+1,none⟩ _).setCell ⟨gc,bus*4+2,none⟩ _).setCell ⟨gc,bus*4+3,none⟩ _=we at *;replace xM:=lH xM.o;have KO:Hid (aS x ⟨2,name,txt,wt⟩=((kT n1).set bus 1,0)):=lH (by unfold aS;rw[if_neg (show ¬(2:Int)=0 by decide),if_pos rfl,eY.o];simp only[aGP.o]);have lP:Hid (((kT n1).set bus 1).length=n1):=lH (by rw[kV];exact OG.o);have HL:Hid (Below w.heap.size w we):=lH (xM.o.trans (HO.o.below (by have:=eC.o;have:=lF.o;omega) (by have:=eC.o;have:=ET.o.1;omega) xM.o.size));have P3b:Hid (aD we (w.heap.size+1+1+1) 117 #[.slice none 0 0,.bool false,.slice none 0 0,.bool false,.slice none 0 0]):=lH (HO.o.blk P3.o (by have:=eC.o;have:=lF.o;omega) (by have:=eC.o;have:=ET.o.1;omega));have HPC:Hid (gc≠w.heap.size+1+1+1):=lH (by have:=eC.o;have:=ET.o.1;omega);obtain⟨q0,q1,q2,q3,q4⟩:=HF.o.blk.a5;rw[lP.o] at q0;obtain⟨z0,z1,z2,z3,z4,zf,zl⟩:=P3b.o.e5;have ql:=HF.o.blk.lt;(go_wp2_with fail);have ZR:=lH (sF (gc:=gc) (n:=n1) (u:=u) P3b.o);clear q0 z0 q1 z1 q2 z2 q3 z3 q4 z4 ql zl zf;obtain⟨p0,p1,p2,p3,p4⟩:=ZR.o.a5;unfold put5 at p0 p1 p2 p3 p4;refine bodyPost_ret (v:=.agg #[.slice (some ⟨gc,0,none⟩) n1 n1,.bool u.b1,.slice u.A u.n u.c,.bool u.b2,.slice u.A2 u.m u.d]) (by simp[results,Tryz.results63,go_sem,p0,p1,p2,p3,p4]) rfl ?_;refine⟨nM (gc:=gc) (n:=n1) (u:=u) HL.o (by omega),gc,u,by rw[eY.o],(by have:=eC.o;have:=ET.o.1;omega),?_,?_⟩
   ·have h:=HF.o.vb P3b.o HPC.o (n:=n1) (y:=u)
    rw[KO.o];exact⟨_,h⟩
   ·rw[KO.o]
    exact HF.o.val.keep5 P3b.o (gc:=gc) (n:=n1) (u:=u)
  ·have aMu:(kind == 2)=false:=by simp[vJ]
   obtain⟨b0,bl⟩:=EV.out.box.b1;have g4:wd.cell? ⟨g,4,none⟩=some (.slice A4 n4 c4):=EV.out.md.cell 4;have gl:=EV.out.md.lt;have KO:Hid (aS x ⟨kind,name,txt,wt⟩=qH bus (mB x) (mC x) (hO x) (BR x) (kT n1,0)):=lH (by unfold aS;rw[if_neg (show ¬kind=0 from hk),if_neg (show ¬kind=2 from vJ),eY.o];simp only[aGP.o]);generalize hRR:qH bus (mB x) (mC x) (hO x) (BR x) (kT n1,0)=RR at *;have xN:=lH hRR;clear hRR;have m8:Hid (x.brs.length=n4):=lH (by rw[<-oW];exact EV.out.rd.r4.len);have iD:Hid (x.brs.length=n2):=lH (by rw[<-lW,<-eO];exact EV.out.rd.r2.len);have tY:Hid (x.brs.length=n3):=lH (by rw[<-rG,<-eO];exact EV.out.rd.r3.len);have hn4:n4<=24:=by have:=bM.o.l2;have:=m8.o;omega
   (go_wp2_with fail);clear k0 kl aMu b0 bl g4 gl
   go_loopw [53] (fun v53 wr=>∃(k:Nat)(vs:List Rv)(u2:Rv)(s:List Rat×Rat),k<=n4/\v53=.int .i64 k/\BJ gf gc wd wr/\DV wr gf gc vs u2 s.1 s.2/\OP n1 (2+12*k) s/\qH bus ((mB x).drop k) ((mC x).drop k) ((hO x).drop k) ((BR x).drop k) s=RR) (fun v53 _=>n4-(intOf v53).toNat)
   case atStart=>exact⟨0,_,_,(kT n1,0),by omega,rfl,eS bR,KP.o,F7 n1,xN.o⟩
   case round=>
    clear KP xN;obtain⟨k,vs,u2,s,hk,rfl,ho,hf,mD,oR⟩:=hrel;obtain⟨HO,HF,JH,lQ⟩:=h_ ho hf mD oR;clear ho hf mD oR;by_cases aR:k<n4
    ·obtain⟨b,hb⟩:∃b,x.brs[k]?=some b:=eE (by have:=m8.o;omega)
     have qW:=lH hb;obtain⟨a1,a2,a3,a4⟩:=jW hb;have gZ:=lH ((ID (s:=s) (bus:=bus) a3 a4 a1 a2).symm.trans lQ.o);have ZW:=lH a1;have HTO:=lH a2;clear hb a1 a2 a3 a4 lQ;have f_:(k:Int)<(n4:Int):=by omega
     have aQG:(k:Int)<(n2:Int):=by have:=iD.o;have:=m8.o;omega
     have aQF:(k:Int)<(n3:Int):=by have:=tY.o;have:=m8.o;omega
     have kO:=lZ k;have rR:=jM k;have kL:=lN k;have iR:Hid (n4-(k+1)<n4-k):=lH (by omega);have W8:Hid (2+12*k+6<=1000000):=lH (by omega);generalize E_:aG x b.fr=bu at *;generalize RG:aG x b.to=bv at *;have TL:=lH E_;have KQ:=lH RG;clear E_ RG;have HE:=lH (EV.out.oth HO.o);have rQ:=HE.o.rd.r2;simp only at rQ;have yT:=rQ.2 (by have:=iD.o;have:=m8.o;omega);obtain⟨fb2,fo2,hA,qK,-⟩:=yT;subst hA;have f0:=rQ.at_ (eT ZW.o);have tB:fb2<wr.heap.size:=kA qK HE.o.hs;obtain⟨b0,bl⟩:=HE.o.box.b1;have g0:wr.cell? ⟨g,2,none⟩=some (.slice (some ⟨fb2,fo2,none⟩) n2 c2):=HE.o.md.cell 2;have gl:=HE.o.md.lt;clear rQ qK;unfold mK at gZ;dsimp only at gZ;by_cases hu:bu=bus
     ·have huB:((bu:Int) == (bus:Int))=true:=by simp[hu]
      rw[if_pos hu] at gZ;(go_wp2_with fail);refine(oI (s:=s) HE.o HF.o JH.o (by have:=W8.o;omega) eY.o.symm h8 bM.o qW.o false).mono ?_;rintro e w7 ⟨rfl,ho7,vs7,u7,hf7⟩;rw[TL.o,KQ.o] at hf7;replace JH:=lH (pJ bM.o (s:=s) JH.o eY.o.symm qW.o false);rw[TL.o,KQ.o] at JH;replace HO:=lH (HO.o.trans ho7);replace HF:=lH hf7;clear ho7 hf7 huB;clear f0 tB b0 bl g0 gl HE;have HE:=lH (EV.out.oth HO.o);have rQ:=HE.o.rd.r3;simp only at rQ;have yT:=rQ.2 (by have:=tY.o;have:=m8.o;omega);obtain⟨fb3,fo3,hA,qK,-⟩:=yT;subst hA;have f0:=rQ.at_ (eT HTO.o);have tB:fb3<w7.heap.size:=kA qK HE.o.hs;obtain⟨b0,bl⟩:=HE.o.box.b1;have g0:w7.cell? ⟨g,3,none⟩=some (.slice (some ⟨fb3,fo3,none⟩) n3 c3):=HE.o.md.cell 3;have gl:=HE.o.md.lt;clear rQ qK;by_cases hv:bv=bus
      ·have hvB:((bv:Int) == (bus:Int))=true:=by simp[hv]
       (go_wp2_with fail);refine(oI (s:=(mY (sg false (dB b)) bu bv s.1,s.2+sg false (jD b))) HE.o HF.o JH.o (by have:=W8.o;omega) eY.o.symm h8 bM.o qW.o true).mono ?_;rintro e w9 ⟨rfl,ho9,vs9,u9,OT⟩;rw[TL.o,KQ.o] at OT;have JG:=lH (pJ bM.o (s:=(mY (sg false (dB b)) bu bv s.1,s.2+sg false (jD b))) JH.o eY.o.symm qW.o true);rw[TL.o,KQ.o] at JG;have BY:=lH (HO.o.trans ho9);have ZX:=lH OT;clear ho9 OT f0 tB b0 bl g0 gl;rw[if_pos hv] at gZ;(go_wp2_with fail);go_roundw
       case rel=>exact⟨k+1,_,_,_,aR,aQ kL.o,BY.o,ZX.o,JG.o.mono (by omega),gZ.o⟩
       case measure=>exact iR.o
      ·have hvB:((bv:Int) == (bus:Int))=false:=by simp;omega
       rw[if_neg hv] at gZ;(go_wp2_with fail);go_roundw
       case rel=>exact⟨k+1,_,_,_,aR,aQ kL.o,HO.o,HF.o,JH.o.mono (by omega),gZ.o⟩
       case measure=>exact iR.o
     ·have huB:((bu:Int) == (bus:Int))=false:=by simp;omega
      rw[if_neg hu] at gZ;(go_upto_region 15 with fail);clear huB;clear f0 tB b0 bl g0 gl HE;have HE:=lH (EV.out.oth HO.o);have rQ:=HE.o.rd.r3;simp only at rQ;have yT:=rQ.2 (by have:=tY.o;have:=m8.o;omega);obtain⟨fb3,fo3,hA,qK,-⟩:=yT;subst hA;have f0:=rQ.at_ (eT HTO.o);have tB:fb3<wr.heap.size:=kA qK HE.o.hs;obtain⟨b0,bl⟩:=HE.o.box.b1;have g0:wr.cell? ⟨g,3,none⟩=some (.slice (some ⟨fb3,fo3,none⟩) n3 c3):=HE.o.md.cell 3;have gl:=HE.o.md.lt;clear rQ qK;by_cases hv:bv=bus
      ·have hvB:((bv:Int) == (bus:Int))=true:=by simp[hv]
       (go_wp2_with fail);refine(oI (s:=s) HE.o HF.o JH.o (by have:=W8.o;omega) eY.o.symm h8 bM.o qW.o true).mono ?_;rintro e w9 ⟨rfl,ho9,vs9,u9,OT⟩;rw[TL.o,KQ.o] at OT;have JG:=lH (pJ bM.o (s:=s) JH.o eY.o.symm qW.o true);rw[TL.o,KQ.o] at JG;have BY:=lH (HO.o.trans ho9);have ZX:=lH OT;clear ho9 OT f0 tB b0 bl g0 gl;rw[if_pos hv] at gZ;(go_wp2_with fail);go_roundw
       case rel=>exact⟨k+1,_,_,_,aR,aQ kL.o,BY.o,ZX.o,JG.o.mono (by omega),gZ.o⟩
       case measure=>exact iR.o
      ·have hvB:((bv:Int) == (bus:Int))=false:=by simp;omega
       rw[if_neg hv] at gZ;(go_wp2_with fail);go_roundw
       case rel=>exact⟨k+1,_,_,_,aR,aQ kL.o,HO.o,HF.o,JH.o.mono (by omega),gZ.o⟩
       case measure=>exact iR.o
    ·have mL:k=n4:=by omega
     have HS:Hid (s=RR):=lH (by have h:=lQ.o;rw[List.drop_eq_nil_of_le (by rw[oW];have:=m8.o;omega)] at h;exact h);have lP:Hid (s.1.length=n1):=lH JH.o.len;replace KO:Hid (aS x ⟨kind,name,txt,wt⟩=(s.1,s.2)):=lH (by rw[KO.o,<-HS.o]);have f_:¬(k:Int)<(n4:Int):=by omega
     clear lQ HS mL aR hk;have HL:Hid (Below w.heap.size w wr):=lH (xM.o.trans (HO.o.below (by have:=eC.o;have:=lF.o;omega) (by have:=eC.o;have:=ET.o.1;omega) xM.o.size));have P3b:Hid (aD wr (w.heap.size+1+1+1) 117 #[.slice none 0 0,.bool false,.slice none 0 0,.bool false,.slice none 0 0]):=lH (HO.o.blk P3.o (by have:=eC.o;have:=lF.o;omega) (by have:=eC.o;have:=ET.o.1;omega));have HPC:Hid (gc≠w.heap.size+1+1+1):=lH (by have:=eC.o;have:=ET.o.1;omega);obtain⟨q0,q1,q2,q3,q4⟩:=HF.o.blk.a5;rw[lP.o] at q0;obtain⟨z0,z1,z2,z3,z4,zf,zl⟩:=P3b.o.e5;have ql:=HF.o.blk.lt;(go_wp2_with fail);have ZR:=lH (sF (gc:=gc) (n:=n1) (u:=u2) P3b.o);clear q0 z0 q1 z1 q2 z2 q3 z3 q4 z4 ql zl zf;obtain⟨p0,p1,p2,p3,p4⟩:=ZR.o.a5;unfold put5 at p0 p1 p2 p3 p4;refine bodyPost_ret (v:=.agg #[.slice (some ⟨gc,0,none⟩) n1 n1,.bool u2.b1,.slice u2.A u2.n u2.c,.bool u2.b2,.slice u2.A2 u2.m u2.d]) (by simp[results,Tryz.results63,go_sem,p0,p1,p2,p3,p4]) rfl ?_;refine⟨nM (gc:=gc) (n:=n1) (u:=u2) HL.o (by omega),gc,u2,by rw[eY.o],(by have:=eC.o;have:=ET.o.1;omega),?_,?_⟩
     ·have h:=HF.o.vb P3b.o HPC.o (n:=n1) (y:=u2)
      rw[KO.o];exact⟨_,h⟩
     ·rw[KO.o]
      exact HF.o.val.keep5 P3b.o (gc:=gc) (n:=n1) (u:=u2)
section
variable {w w':Wo} {gc gz:Nat} {vs us:List Rv} {q p:List Rat}
theorem Vb.far(f:Vb w gc vs q)(g:Vb w gz us p){x:Rv}(hj:j<p.length)(cG:gc≠gz):Vb (eG w gz j x) gc vs q:=by
 obtain⟨cs,h1,h2⟩:=f.row;exact⟨⟨cs,h1.far4 x cG,h2⟩,f.len,fun i t v ht hv=>g.keep hj (f.ok i t v ht hv)⟩
theorem Vb.keeps{e:Nat}(f:Vb w gc vs q)(k:dU o9 base e w w')(he:115≠e):Vb w' gc vs q:=by
 obtain⟨cs,h1,h2⟩:=f.row;exact⟨⟨cs,k.blk _ _ _ h1 he,h2⟩,f.len,fun i t v ht hv=>(f.ok i t v ht hv).keeps k⟩
end
theorem aAZ:(Tryz.prog.info? 117).map (fun i=>(i.zero,i.size,i.bytes))=some (some (.agg #[.slice none 0 0,.bool false,.slice none 0 0,.bool false,.slice none 0 0]),5,88):=by kernel_rfl
structure Fh where
 gc:Nat
 u:Rv
def Fh.cells(n:Nat)(f:Fh):List Value:=[.slice (some ⟨f.gc,0,none⟩) n n,.bool f.u.b1,.slice f.u.A f.u.n f.u.c,.bool f.u.b2,.slice f.u.A2 f.u.m f.u.d]
theorem Fh.cells_len(f:Fh):(Fh.cells n f).length=5:=rfl
structure fW (w:Wo) (base n:Nat) (v:Value) (fs:List Fh) (ps:List (List Rat×Rat)):Prop where
 own:bB o9 w base 117 5 v fs.length (fs.flatMap (Fh.cells n))
 len:fs.length=ps.length
 ok:∀(i:Nat)(f:Fh)(p:List Rat×Rat),fs[i]?=some f->ps[i]?=some p->base<=f.gc/\p.1.length=n/\(∃vs,Vb w f.gc vs p.1)/\cU w w.heap.size p.2 f.u
theorem RK(w:Wo)(base n:Nat):fW w base n (.slice none 0 0) [] []:=⟨dI _ _ _ _ _,rfl,fun i h q hh=>by simp at hh⟩
theorem fW.keep{fs:List Fh}{ps:List (List Rat×Rat)}(m:fW w base n v fs ps)(hb:Below w.heap.size w w'):fW w' base n v fs ps:=⟨m.own.keep hb,m.len,fun i f p hf hp=>by
 obtain⟨h1,h2,⟨vs,h3⟩,h4⟩:=m.ok i f p hf hp;exact⟨h1,h2,⟨vs,h3.up hb⟩,h4.up hb⟩⟩
theorem fW.far{gz:Nat}{fs:List Fh}{ps:List (List Rat×Rat)}{x:Rv}(m:fW w base n v fs ps)(g:Vb w gz us q)(hj:j<q.length)(hz:gz<base):fW (eG w gz j x) base n v fs ps:=⟨by
 obtain⟨cs,h1,h2⟩:=g.row;exact m.own.far4 h1 (by decide),m.len,fun i f p hf hp=>by
 obtain⟨h1,h2,⟨vs,h3⟩,h4⟩:=m.ok i f p hf hp;exact⟨h1,h2,⟨vs,h3.far g hj (by omega)⟩,g.keep hj h4⟩⟩
theorem fW.app{v':Value}{fs:List Fh}{ps:List (List Rat×Rat)}{f:Fh}{p:List Rat×Rat}(m:fW w base n v fs ps)(hf:base<=f.gc/\p.1.length=n/\(∃vs,Vb w f.gc vs p.1)/\cU w w.heap.size p.2 f.u)(h1:bB o9 w' base 117 5 v' (fs.length+1) (fs.flatMap (Fh.cells n)++Fh.cells n f))(k:dU o9 base 117 w w'):fW w' base n v' (fs++[f]) (ps++[p]):=by
 have key:∀{f:Fh}{p:List Rat×Rat},(base<=f.gc/\p.1.length=n/\(∃vs,Vb w f.gc vs p.1)/\cU w w.heap.size p.2 f.u)->(base<=f.gc/\p.1.length=n/\(∃vs,Vb w' f.gc vs p.1)/\cU w' w'.heap.size p.2 f.u):=fun h=>by
  obtain⟨h1,h2,⟨vs,h3⟩,h4⟩:=h;exact⟨h1,h2,⟨vs,h3.keeps k (by decide)⟩,h4.keeps k⟩
 refine⟨by rw[g_,List.length_singleton,List.flatMap_append];simpa using h1,by rw[g_,g_,m.len];rfl,fun i f2 p2 wP JQ=>?_⟩;by_cases hi:i<ps.length
 ·rw[yC hi] at JQ
  rw[yC (by rw[m.len];exact hi)] at wP;exact key (m.ok i f2 p2 wP JQ)
 ·rw[BP (by omega)] at JQ
  rw[BP (by rw[m.len];omega),m.len] at wP;have EI:=(cY.1 JQ).1;rw[List.length_singleton] at EI;have:i-ps.length=0:=by omega
  rw[this] at JQ wP;simp at JQ wP;subst JQ;subst wP;exact key hf
theorem GC{ops:Array Oper}{rest:List Oper}{o:Oper}{a:Act}{Q:Exit->Act->World->Prop}{w:Wo}{T:TypeId}(yW:o.guard=none)(s x:Operand)(t:TypeId)(ho:o.op=.call { callee:=.builtin .append,args:=#[s,x],argTypes:=#[t,t] })(base n:Nat)(ht:Tryz.prog.underlying t=some (.slice 117))(v:Value)(fs:List Fh)(ps:List (List Rat×Rat))(hs:a.eval s=v)(aW:fW w base n v fs ps)(gc:Nat)(u:Rv)(p:List Rat×Rat)(hp:base<=gc/\p.1.length=n/\(∃vs,Vb w gc vs p.1)/\cU w w.heap.size p.2 u)(hx:a.eval x=.slice (some ⟨w.heap.size,0,none⟩) 1 1)(uO:ps.length<=1000000)(cD:base<=w.heap.size)(h:∀v' w' fs',fW w' base n v' fs' (ps++[p])->dU o9 base 117 (w.alloc (.cells #[.slice (some ⟨gc,0,none⟩) n n,.bool u.b1,.slice u.A u.n u.c,.bool u.b2,.slice u.A2 u.m u.d] T)) w'->(∀(g t:Nat)(cs:Array Value),v.ownBlock≠some g->aD w g t cs->aD w' g t cs)->wpList Tryz.prog ops Q rest (a.put o.dst v') w'):wpList Tryz.prog ops Q (o::rest) a (w.alloc (.cells #[.slice (some ⟨gc,0,none⟩) n n,.bool u.b1,.slice u.A u.n u.c,.bool u.b2,.slice u.A2 u.m u.d] T)):=by
 obtain⟨i0,iW,qY,kF,kE⟩:=info_parts aAZ;have hl:=aW.len;have hb:=jO w (.cells #[.slice (some ⟨gc,0,none⟩) n n,.bool u.b1,.slice u.A u.n u.c,.bool u.b2,.slice u.A2 u.m u.d] T);refine wpList_plain yW fun K hK=>?_;refine tE (S:=o9) s x t ho base 117 i0 _ 5 88 ht iW qY kF kE rfl (by omega) (fun y hu=>?_) v fs.length (fs.flatMap (Fh.cells n)) hs (aW.own.keep hb) w.heap.size T #[.slice (some ⟨gc,0,none⟩) n n,.bool u.b1,.slice u.A u.n u.c,.bool u.b2,.slice u.A2 u.m u.d] hx (aD.new w T _) rfl (fun y hu=>?_) (by simp only[maxLen];omega) (by omega) (b_ cD hb.size) fun v' w' h1 h2 _ h4=>?_
 ·have QW:y∈[Value.slice none 0 0,.bool false,.slice none 0 0,.bool false,.slice none 0 0]:=hu
  simp only[List.mem_cons,List.not_mem_nil,or_false] at QW;rcases QW with rfl | rfl | rfl | rfl | rfl<;>exact fun k x h=>by cases h
 ·have QW:y∈[Value.slice (some ⟨gc,0,none⟩) n n,.bool u.b1,.slice u.A u.n u.c,.bool u.b2,.slice u.A2 u.m u.d]:=hu
  simp only[List.mem_cons,List.not_mem_nil,or_false] at QW;rcases QW with rfl | rfl | rfl | rfl | rfl<;>exact⟨rfl,fun k x h=>by cases h⟩
 ·obtain⟨e1,e2,⟨vs,e3⟩,e4⟩:=hp
  refine hK _ _ (h v' w' (fs++[⟨gc,u⟩]) (fW.app (aW.keep hb) (f:=⟨gc,u⟩) ⟨e1,e2,⟨vs,e3.up hb⟩,e4.up hb⟩ h1 h2) h2 fun g t cs hg AT=>?_);have aFe:=AT.bl hb;exact(h4 g aFe.lt hg).trans aFe
end
section
open Go.ChangeShapes Go.WideShapes Go.ChangeAt Go.RowKit
theorem aH7{w0 w':Wo}{base:Nat}{v:Value}{hs:List Hd}{M:List (List Rat)}(hb:Below w0.heap.size w0 w')(hl:hs.length=M.length)(hr:∀(i:Nat)(h:Hd)(q:List Rat),hs[i]?=some h->M[i]?=some q->iE w0 w0.heap.size h.A h.n q/\h.n<=h.c/\h.c<=maxLen)(own:bB o9 w' base 93 1 v hs.length (hs.map Hd.val)):∃A c,v=.slice A M.length c/\jP w' w'.heap.size A M.length M/\M.length<=c/\c<=maxLen:=by
 obtain⟨A,c,hv,oP,h1,h2,h3⟩:=oV own.own;rw[hl] at hv oP h1;exact⟨A,c,hv,⟨hs,hl,rfl,oP,fun i h q hh hq=>⟨((hr i h q hh hq).1.below hb lR).more hb.size,(hr i h q hh hq).2⟩⟩,h1,h2⟩
def IV{α:Type}(l:List α)(k:Nat):List α:=l.take k++l.drop (k+1)
theorem WA{α:Type}{l:List α}:(IV l k)[i]?=if i<k then l[i]? else if k<l.length then l[i+1]? else none:=by
 unfold IV;by_cases h:i<k
 ·rw[if_pos h]
  by_cases hi:i<l.length
  ·rw[yC (by rw[jN];omega),List.getElem?_take_of_lt h]
  ·rw[List.getElem?_eq_none (by rw[g_,jN,J2];omega),List.getElem?_eq_none (by omega)]
 ·rw[if_neg h]
  split
  ·rename_i hk
   rw[BP (by rw[jN];omega),jN,List.getElem?_drop];congr 1
   omega
  ·rename_i hk
   exact List.getElem?_eq_none (by rw[g_,jN,J2];omega)
theorem sB{a:List Mi}:(aP x a).length=a.length:=by unfold aP;rw[iT]
theorem CM{a:List Mi}(h:a[k]?=some m):(aP x a)[k]?=some (fM x (aS x m).1):=by unfold aP;rw[lT,h];rfl
theorem GE(n i:Nat):vf (kT n) i=0:=by
 unfold vf kT;rw[dH,List.getElem?_replicate];split<;>rfl
theorem CE{l:List Rat}{y:Rat}(h:i<l.length)(j:Nat):vf (l.set i y) j=if j=i then y else vf l j:=by
 unfold vf;rw[dH,dH,List.getElem?_set];by_cases hj:i=j
 ·subst hj;simp[h]
 ·rw[if_neg hj,if_neg (fun e=>hj e.symm)]
theorem aDk(q:List Rat)(X:Fn):aV (aA x).length (vf (fM x q)) X=aM (aH x) fun k=>vf q k*ext (fK (gL x)) X k:=by
 unfold fM aA;exact QC (fK (gL x)) (vf q) X (aH x)
theorem F8{x:Int}(h1:-9223372036854775808<=x)(h2:x<=9223372036854775807):IntKind.i64.wrap x=x:=Go.IntWalk.i64_in _ (by omega)
theorem U2{c:Bool}{p q:Prop}(h:c=true)(hp:p):if c=true then p else q:=by rw[if_pos h];exact hp
theorem aE3(hs:List Hd):∀u∈hs.map Hd.val,u.oneCell'=true/\o9 u:=fun u hu=>by
 obtain⟨h,_,rfl⟩:=List.mem_map.1 hu;exact⟨rfl,fun k x e=>by cases e⟩
theorem F9{o:Oper}{a:Act}{w:Wo}{K:Act->World->Prop}{Q:Exit->Act->World->Prop}(s x:Operand)(t:TypeId)(ho:o.op=.call { callee:=.builtin .append,args:=#[s,x],argTypes:=#[t,t] })(base:Nat)(ht:Tryz.prog.underlying t=some (.slice 93))(v:Value)(hs:List Hd)(hsv:a.eval s=v)(aW:bB o9 w base 93 1 v hs.length (hs.map Hd.val))(A:OA)(m c:Nat)(h2:List Hd)(hm:h2.length=m)(hx:a.eval x=.slice A m c)(hr:Rd w w.heap.size 1 A m (h2.map Hd.val))(uO:hs.length+m<=1000000000)(cD:base<=w.heap.size)(N:Nat)(hN:(hs++h2).length=N)(h:∀A' c' w',bB o9 w' base 93 1 (.slice A' N c') (hs++h2).length ((hs++h2).map Hd.val)->Below base w w'->dU o9 base 93 w w'->K (a.put o.dst (.slice A' N c')) w'):o.wp Tryz.prog a w K Q:=by
 obtain⟨i0,iW,qY,kF,kE⟩:=info_parts YB;subst hm;refine XJ (S:=o9) s x t ho base 93 i0 _ 1 24 ht iW qY kF kE rfl (by omega) (fun u hu=>?_) v hs.length (hs.map Hd.val) hsv aW A h2.length c (h2.map Hd.val) hx hr (aE3 h2) (by simp only[maxLen];omega) (by omega) cD fun v' w' k1 k2 _ _=>?_
 ·have QW:u∈[Value.slice none 0 0]:=hu
  rw[List.mem_singleton.1 QW];exact fun k x h=>by cases h
 ·rw[<-List.map_append,<-g_] at k1
  obtain⟨A',c',e,_⟩:=k1.shape;subst e;subst hN;exact h A' c' w' k1 k2.low k2
theorem Rd.heads{off:Nat}{hs:List Hd}(h:Rd w B 1 (some ⟨b,off,none⟩) n (hs.map Hd.val))(i m:Nat)(him:i+m<=n):Rd w B 1 (some ⟨b,off+i,none⟩) m (((hs.drop i).take m).map Hd.val):=by
 have hl:=h.1;rw[iT] at hl;refine⟨by rw[iT,jN,J2];omega,fun h0=>?_⟩;obtain⟨b',off',e,aR,hc⟩:=h.2 (by omega);injection e with e;injection e with e1 e2;subst e1;subst e2;refine⟨b,off+i,rfl,aR,fun j u hu=>?_⟩;rw[List.map_take,List.map_drop] at hu;have hj:=(cY.1 hu).1;rw[jN] at hj;rw[List.getElem?_take_of_lt (by omega),List.getElem?_drop] at hu;have:=hc (i+j) u hu;rwa[<-Nat.add_assoc] at this
theorem Rd.tail{off c:Nat}{hs:List Hd}(h:Rd w B 1 (some ⟨b,off,none⟩) n (hs.map Hd.val))(hc:n<=c)(hi:i<=n):Rd w B 1 (if c=i then some ⟨b,off,none⟩ else some ⟨b,off+i,none⟩) (n-i) ((hs.drop i).map Hd.val):=by
 have hl:=h.1;rw[iT] at hl;have h2:=h.heads i (n-i) (by omega);rw[nT (by rw[J2];omega)] at h2;by_cases VN:c=i
 ·refine⟨h2.1,fun h0=>by omega⟩
 ·rw[if_neg VN];exact h2
def ZM(w:Wo)(hs:List Hd)(M:List (List Rat)):Prop:=hs.length=M.length/\∀(i:Nat)(h:Hd)(q:List Rat),hs[i]?=some h->M[i]?=some q->iE w w.heap.size h.A h.n q/\h.n<=h.c/\h.c<=maxLen
theorem ZM.up{hs:List Hd}(h:ZM w hs M)(hb:Below w.heap.size w w'):ZM w' hs M:=⟨h.1,fun i a q hh hq=>⟨((h.2 i a q hh hq).1.below hb lR).more hb.size,(h.2 i a q hh hq).2⟩⟩
theorem ZM.cut{hs:List Hd}(h:ZM w hs M)(k:Nat):ZM w (IV hs k) (IV M k):=by
 refine⟨by unfold IV;simp[h.1],fun i a q hh hq=>?_⟩;rw[WA] at hh hq;rw[h.1] at hh;split at hh
 ·rw[if_pos ‹_›] at hq;exact h.2 _ _ _ hh hq
 ·rw[if_neg ‹_›] at hq
  split at hh
  ·rw[if_pos ‹_›] at hq;exact h.2 _ _ _ hh hq
  ·cases hh
theorem ZM.snoc{hs:List Hd}(h:ZM w hs M){z:Hd}(hz:iE w w.heap.size z.A z.n q/\z.n<=z.c/\z.c<=maxLen):ZM w (hs++[z]) (M++[q]):=by
 refine⟨by rw[g_,g_,h.1];rfl,fun i a p hh hq=>?_⟩;by_cases hi:i<M.length
 ·rw[yC hi] at hq
  rw[yC (by rw[h.1];exact hi)] at hh;exact h.2 _ _ _ hh hq
 ·rw[BP (by omega)] at hq
  rw[BP (by rw[h.1];omega),h.1] at hh;have EI:=(cY.1 hq).1;rw[List.length_singleton] at EI;have:i-M.length=0:=by omega
  rw[this] at hq hh;simp at hq hh;subst hq;subst hh;exact hz
theorem jP.hds{A:OA}(h:jP w w.heap.size A n M):∃hs:List Hd,hs.length=n/\Rd w w.heap.size 1 A n (hs.map Hd.val)/\ZM w hs M:=by
 obtain⟨hs,h1,h2,h3,h4⟩:=h;exact⟨hs,h1,h3,h1.trans h2.symm,h4⟩
theorem ZM.rdM{w0:Wo}{hs:List Hd}(h:ZM w0 hs M)(hb:Below w0.heap.size w0 w')(own:bB o9 w' base 93 1 v hs.length (hs.map Hd.val)):∃A c,v=.slice A M.length c/\jP w' w'.heap.size A M.length M/\M.length<=c/\c<=maxLen:=aH7 hb h.1 h.2 own
theorem ZM.rdM2{w0:Wo}{A:OA}{c:Nat}{hs:List Hd}(h:ZM w0 hs M)(hb:Below w0.heap.size w0 w')(own:bB o9 w' base 93 1 (.slice A n c) hs.length (hs.map Hd.val)):jP w' w'.heap.size A n M/\n<=c/\c<=maxLen:=by
 obtain⟨A',c',e,h1,h2,h3⟩:=h.rdM hb own;injection e with e1 e2 e3;subst e1;subst e2;subst e3;exact⟨h1,h2,h3⟩
end
