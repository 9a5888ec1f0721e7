import Derived.Test.YthgdchffeigkbaaGreatDoorX23
set_option linter.unusedVariables false
set_option linter.unusedSimpArgs false
namespace Go.Proofs.YthgdchffeigkbaaGreatDoor
set_option maxHeartbeats 8000000
set_option maxRecDepth 100000
section
open Go.ChangeShapes Go.WideShapes Go.ChangeAt Go.RowKit
attribute [local go_sem ↓] aE
attribute [local go_sem] aK aH aM aY
def S2 (ms:List Mi):Fn:=fun k=>match ms[k]? with | some m=>(m.wt:Rat) | none=>0
theorem BC {ms:List Mi} {k:Nat} {m:Mi} (h:ms[k]?=some m):S2 ms k=(m.wt:Rat):=by unfold S2;rw [h]
def CJ (M:List (List Rat)) (ms:List Mi) (k a b:Nat):Rat:=aO k fun t=>S2 ms t*vf (M.getD t []) a*vf (M.getD t []) b
def aSS (n:Nat) (M:List (List Rat)) (ms:List Mi) (w:Wo) (e:Ending) (w':Wo):Prop:=
 Below w.heap.size w w'/\∃ (g:Nat) (G:List (List Rat)),e=.returned (.slice (some ⟨g,0,none⟩) n n)/\jZ w' w'.heap.size (some ⟨g,0,none⟩) n G/\kA n (3+606*M.length) G/\∀ a b,a<n->b<n->YK G a b=CJ M ms M.length a b
theorem aEP (A B:OA) (K c d n:Nat) (M:List (List Rat)) (ms:List Mi) (w:Wo) (hM:jZ w w.heap.size A K M) (hm:eG w w.heap.size B K ms) (hw:∀ a∈M,a.length=n) (hq:∀ a∈M,∀ q∈a,bU q<=300) (tQ:∀ x∈ms,1<=x.wt/\x.wt<=1000) (hn:n<=8) (hK:K<=64) :
    Calls Tryz.prog 81 #[.slice A K c,.slice B K d,.int .i64 n] w (aSS n M ms w):=by
 have HM:=lH hM;have q_:=lH hm;have HW:=lH hw;have HQ:=lH hq;have RW:=lH tQ;have j_:=lH hM.len;have R5:=lH hm.1;clear hM hm hw hq tQ;have tK:∀ w:World,(Instr.makeSlice 92 (.int .i64 (n:Int)) (.int .i64 (n:Int))).run Tryz.prog w=.ok (.slice (some ⟨w.heap.size,0,none⟩) n n) (w.alloc (.cells (fC n) 93)):=fun w=>v_ n (by omega) w;have HK:=lH ((Below.refl w.heap.size w).alloc lR (.cells (fC n) 93));have N0:=lH (aG.new w 93 (fC n));go_enter Tryz.func81,Tryz.ntmps81
 go_wp2_with fail
 clear tK;generalize w.alloc (.cells (fC n) 93)=W at *;have HO:=lH (vV N0.o lR);generalize K7:w.heap.size=ga at *;have I8:=lH K7;clear K7 N0
 go_loopw [18] (fun v18 wr=>∃ (k:Nat) (hs:List Mh),k<=n/\v18=.int .i64 k/\Below ga w wr/\iY wr ga ga hs ((pZ n).take k++List.replicate (n-k) [])) (fun v18 _=>n-(intOf v18).toNat)
 case atStart=>exact ⟨0,_,by omega,rfl,HK.o,by rw [List.take_zero,List.nil_append,Nat.sub_zero];exact HO.o⟩
 case round=>
  clear HK HO;obtain ⟨k,hs,hk,rfl,hb,ho⟩:=hrel;have HK:=lH hb;have HO:=lH ho;clear hb ho
  by_cases aW:k<n
  ·have fT:(k:Int)<(n:Int):=by omega
   have l_:=lN k;have jW:Hid (n-(k+1)<n-k):=lH (by omega);have tW:Hid (ga<wr.heap.size):=lH HO.o.top.lt
   go_wp2_with fail
   refine (kT n wr (by omega)).mono ?_;rintro e w7 ⟨gY,gz,vz,rfl,hgz,M5,hvz⟩;have oY:=lH (HO.o.up gY);have rE:Hid (sB w7 ga ga ⟨some ⟨gz,0,none⟩,gz,n,List.replicate n vz⟩ (List.replicate n 0)):=lH (WS M5 hvz (by have:=tW.o;omega) (by have:=tW.o;omega) (by omega));have fZ:=lH (HK.o.trans (gY.mono (rC tW.o)));have SZ:Hid (∀ j (h':Mh),j≠k->hs[j]?=some h'->0<h'.vs.length->0<(List.replicate n vz).length->h'.g≠gz):=lH fun j h' _ hh l1 l2=>by
    have h3:=HO.o.lt hh l1;omega
   clear gY M5 hvz hgz HK HO;have gl:=oY.o.top.lt;have gf:=oY.o.top.frozen;have JX:Hid (k<(((pZ n).take k++List.replicate (n-k) []):List (List Rat)).length):=lH (by simp [pZ];omega);obtain ⟨gv,gc⟩:∃ gv,w7.cell? ⟨ga,k,none⟩=some gv:=by
    rw [oY.o.top.cell];exact ⟨_,Array.getElem?_eq_getElem (by rw [List.size_toArray,lB,oY.o.len];exact JX.o)⟩
   have DL:=lH (oY.o.setRow JX.o rE.o SZ.o);rw [WQ aW,o3] at DL
   go_wp2_with fail
   go_roundw
   case rel=>exact ⟨k+1,_,aW,aQ l_.o,fZ.o.setCell lR _,DL.o⟩
   case measure=>exact jW.o
  ·have lS:k=n:=by omega
   have IN:Hid (iY wr ga ga hs (pZ n)):=lH (by
    have h:=HO.o;rw [lS,Nat.sub_self,List.replicate_zero,List.append_nil,nW (by unfold pZ;rw [o3];exact lR)] at h;exact h)
   have fT:¬(k:Int)<(n:Int):=by omega
   have J1:Hid (Below w.heap.size w wr):=lH (by rw [I8.o];exact HK.o);clear HO lS
   go_wp2_with fail
   generalize wr=wz at *;have HKZ:Hid (∀ a b,a<n->b<n->YK (pZ n) a b=0):=lH fun a b ha hb=>by
    have h:(pZ n)[a]?=some (List.replicate n 0):=by unfold pZ;rw [List.getElem?_replicate,if_pos ha]
    rw [E2 h];unfold vf;rw [eY,List.getElem?_replicate,if_pos hb];rfl
   go_loopw [29] (fun v29 wr=>∃ (k:Nat) (hs:List Mh) (G:List (List Rat)),k<=K/\v29=.int .i64 k/\i_ ga ga w wr (.slice none 0 0) [] hs G/\kA n (3+606*k) G/\∀ a b,a<n->b<n->YK G a b=CJ M ms k a b) (fun v29 _=>K-(intOf v29).toNat)
   case atStart=>exact ⟨0,hs,pZ n,by omega,rfl,⟨IN.o,dO _ _ _ _ _,HK.o⟩,YV n,fun a b ha hb=>HKZ.o a b ha hb⟩
   case round=>
    clear HK IN HKZ;obtain ⟨k,hs,G,hk,rfl,ho,pY,nP⟩:=hrel;have dJ:=lH ho;have cH:=lH pY;have jB:=lH nP;have hb:=ho.low;have EY:=rC ho.own.top.lt;have HMW:=lH ((HM.o.below hb lR).more EY);have aSc:=lH ((q_.o.below hb lR).more EY);clear ho pY nP hb EY
    by_cases aW:k<K
    ·obtain ⟨q,hq⟩:∃ q,M[k]?=some q:=eO (by have:=j_.o;omega)
     obtain ⟨m,QH⟩:∃ m,ms[k]?=some m:=eO (by have:=R5.o;omega);obtain ⟨ab,ao,hA,oS⟩:=HM.o.form (by omega);subst hA;obtain ⟨bb,bo,hB,pK⟩:=aSc.o.form (by omega);subst hB;obtain ⟨⟨ra,rn,rc⟩,r0,r1,r2,r3⟩:=HM.o.at_ hq;dsimp only at r0 r1 r2 r3;have zY:=dJ.o.low;have r0':=(zY.cell (p:=⟨ab,ao+k,none⟩) oS).trans r0;have aVT:ab<wr.heap.size:=jO oS dJ.o.le;obtain ⟨m0,m1,m2,m3⟩:=aSc.o.at_ QH;have a1D:=RW.o m (cO QH);have mH:=lH (HW.o q (cO hq));have HQB:=lH (HQ.o q (cO hq));have hrn:n=rn:=by rw [<-r1.len];exact mH.o.symm
     subst hrn;have nM:Hid (∀ a b,CJ M ms (k+1) a b=CJ M ms k a b+(m.wt:Rat)*vf q a*vf q b):=lH fun a b=>by
      unfold CJ;simp only [aO];rw [BC QH,eY,hq];rfl
     have HRQ:=lH r1;have fT:(k:Int)<(K:Int):=by omega
     have l_:=lN k;have jW:Hid (K-(k+1)<K-k):=lH (by omega);clear hq QH r0 r1 r2 r3 zY
     go_wp2_with fail
     refine (nT m.wt wr (by omega) (by omega)).mono ?_;rintro e w7 ⟨gY,xr,rfl,hx⟩;have HX:=lH hx;have iM:=lH gY;clear hx gY r0' aVT m0 m1 m2 m3
     go_upto_region 11 with fail
     generalize yP:w7.alloc (.cells #[.bool xr.b1,.slice xr.A xr.n xr.c,.bool xr.b2,.slice xr.A2 xr.m xr.d] 115)=wa;have rY:Below w7.heap.size w7 wa:=by rw [<-yP];exact bA
     have HSX:Hid (aG wa w7.heap.size 115 #[.bool xr.b1,.slice xr.A xr.n xr.c,.bool xr.b2,.slice xr.A2 xr.m xr.d]):=lH (by rw [<-yP];exact aG.new w7 _ _);have cU:Hid (AV wa ga w7.heap.size hs (m.wt:Rat) xr):=lH ⟨HSX.o,HX.o.up rY,fun i h hh l=>jO (dJ.o.own.lt hh l) iM.o.size⟩;replace dJ:=lH ((dJ.o.up iM.o).up rY);clear yP rY HSX HX iM;generalize hgx:w7.heap.size=gx at *;clear hgx;have HTS:Hid (∀ a b,a<n->b<n->bU ((m.wt:Rat)*vf q a*vf q b)<=602):=lH fun a b ha hb=>by
      have h1:=eH ((m.wt:Rat)*vf q a) (vf q b);have h2:=eH (m.wt:Rat) (vf q a);have h3:=dV m.wt (by omega) (by omega);have h4:=HQB.o _ (cO (bI (l:=q) (i:=a) (by rw [mH.o];exact ha)));have h5:=HQB.o _ (cO (bI (l:=q) (i:=b) (by rw [mH.o];exact hb)));omega
     go_wp2_with fail
     go_loopw [42] (fun v42 wr=>∃ (i:Nat) (hs:List Mh) (G2:List (List Rat)),i<=n/\v42=.int .i64 i/\i_ ga ga w wr (.slice none 0 0) [] hs G2/\AV wr ga gx hs (m.wt:Rat) xr/\nN n (3+606*k) (m.wt:Rat) q G G2 i 0) (fun v42 _=>n-(intOf v42).toNat)
     case atStart=>exact ⟨0,hs,G,by omega,rfl,dJ.o,cU.o,nN.start cH.o⟩
     case round=>
      clear dJ cU;obtain ⟨i,hs,G2,hi,rfl,ho,GQ,hgp⟩:=hrel;have dJ:=lH ho;have cU:=lH GQ;have WH:=lH hgp;clear ho GQ hgp
      by_cases lG:i<n
      rotate_left
      ·have SQ:i=n:=by omega
       have fI:Hid (kA n (3+606*(k+1)) G2):=lH ((WH.o.bd HTS.o).mono (by omega));have qY:Hid (∀ a b,a<n->b<n->YK G2 a b=CJ M ms (k+1) a b):=lH fun a b ha hb=>by
        rw [WH.o.val a b ha hb,jB.o a b ha hb,nM.o,if_pos (by omega)]
       clear SQ
       go_wp2_with fail
       go_roundw
       case rel=>exact ⟨k+1,hs,G2,aW,aQ l_.o,dJ.o,fI.o,qY.o⟩
       case measure=>exact jW.o
      obtain ⟨rb,ro,hRA,zW⟩:=HRQ.o.form (by omega);subst hRA;have aMh:(i:Int)<(n:Int):=by omega
      have WC:=lN i;have WD:Hid (n-(i+1)<n-i):=lH (by omega)
      go_wp2_with fail
      go_loopw [47] (fun v47 wr=>∃ (j:Nat) (hs:List Mh) (G2:List (List Rat)),j<=n/\v47=.int .i64 j/\i_ ga ga w wr (.slice none 0 0) [] hs G2/\AV wr ga gx hs (m.wt:Rat) xr/\nN n (3+606*k) (m.wt:Rat) q G G2 i j) (fun v47 _=>n-(intOf v47).toNat)
      case atStart=>exact ⟨0,hs,G2,by omega,rfl,dJ.o,cU.o,WH.o⟩
      case round=>
       clear dJ cU WH;obtain ⟨j,hs,G2,hj,rfl,ho,GQ,hgp⟩:=hrel;have dJ:=lH ho;have cU:=lH GQ;have WH:=lH hgp;clear ho GQ hgp
       by_cases tL:j<n
       rotate_left
       ·have hje:j=n:=by omega
        have HGR:Hid (nN n (3+606*k) (m.wt:Rat) q G G2 (i+1) 0):=lH (by have h:=WH.o;rw [hje] at h;exact h.row);clear hje
        go_wp2_with fail
        go_roundw
        case rel=>exact ⟨i+1,hs,G2,lG,aQ WC.o,dJ.o,cU.o,HGR.o⟩
        case measure=>exact WD.o
       have HQI:Hid (q[i]?=some (vf q i)):=lH (bI (by rw [mH.o];exact lG));have HQJ:Hid (q[j]?=some (vf q j)):=lH (bI (by rw [mH.o];exact tL));have a2t:(j:Int)<(n:Int):=by omega
       have aNo:=lN j;have aNq:Hid (n-(j+1)<n-j):=lH (by omega);have HKW:Hid (Below ga w wr):=lH dJ.o.low;have HKS:ga<=wr.heap.size:=dJ.o.le;obtain ⟨vx,a0,a1,a2,a3,a4⟩:=(HRQ.o.below HKW.o lR).at_ HQI.o;have HVX:=lH (dL.more (w:=wr) a4 HKS);have aD8:rb<wr.heap.size:=jO zW HKS;clear a4
       go_wp2_with fail
       refine (tF HVX.o).mono ?_;clear a0 a1 a2 a3;rintro e w2 ⟨rfl,bL⟩;have aF0:=lH (dJ.o.up bL);have aNG:=lH (cU.o.up bL);clear bL HVX aD8 HKW HKS dJ cU
       by_cases OE:vf q i=0
       ·have hz:=vN OE
        rw [hz];have aF6:=lH (WH.o.skip (Or.inl OE));clear hz OE
        go_wp2_with fail
        go_roundw
        case rel=>exact ⟨j+1,hs,G2,tL,aQ aNo.o,aF0.o,aNG.o,aF6.o⟩
        case measure=>exact aNq.o
       ·have hz:=EN OE
        generalize (vf q i).num.sign=z at hz ⊢;clear OE;have HKW:Hid (Below ga w w2):=lH aF0.o.low;have HKS:ga<=w2.heap.size:=aF0.o.le;obtain ⟨vy,a0,a1,a2,a3,a4⟩:=(HRQ.o.below HKW.o lR).at_ HQJ.o;have HVY:=lH (dL.more (w:=w2) a4 HKS);have aD8:rb<w2.heap.size:=jO zW HKS;clear a4
        go_wp2_with fail
        refine (tF HVY.o).mono ?_;clear a0 a1 a2 a3;rintro e w3 ⟨rfl,cR⟩;have dJ:=lH (aF0.o.up cR);have cU:=lH (aNG.o.up cR);clear cR HVY aD8 HKW HKS aF0 aNG
        by_cases wC:vf q j=0
        ·have lQ:=vN wC
         rw [lQ];have aF6:=lH (WH.o.skip (Or.inr wC));clear lQ wC
         go_wp2_with fail
         go_roundw
         case rel=>exact ⟨j+1,hs,G2,tL,aQ aNo.o,dJ.o,cU.o,aF6.o⟩
         case measure=>exact aNq.o
        ·have lQ:=EN wC
         generalize (vf q j).num.sign=z2 at lQ ⊢;clear wC
         go_upto_region 18 with fail
         clear hz lQ;have HKW:Hid (Below ga w w3):=lH dJ.o.low;have HKS:ga<=w3.heap.size:=dJ.o.le;obtain ⟨vx,a0,a1,a2,a3,a4⟩:=(HRQ.o.below HKW.o lR).at_ HQI.o;have HVX:=lH (dL.more (w:=w3) a4 HKS);obtain ⟨vy,d0,d1,d2,d3,d4⟩:=(HRQ.o.below HKW.o lR).at_ HQJ.o;have HVY:=lH (dL.more (w:=w3) d4 HKS);have aD8:rb<w3.heap.size:=jO zW HKS;clear a4 d4 HKW HKS;obtain ⟨rg,hrg⟩:∃ rg,G2[i]?=some rg:=eO (by rw [WH.o.len];exact lG);have aLR:rg.length=n:=WH.o.wid rg (cO hrg);obtain ⟨gg,cc,vs,xe,hh,c,hx,c0,c1,c2',c3',hv,l1,f1,cP⟩:=dJ.o.elem (i:=i) (j:=j) hrg (by omega);rw [aLR] at c;have HH:=lH hh;have D8:=lH hx;have DK:=lH hv;have p5:=lH hrg;have vE:=lH aLR;have NU:Hid (bU (m.wt:Rat)+bU (vf q i)+1<=35184372088832):=lH (by
          have h3:=dV m.wt (by omega) (by omega);have h4:=HQB.o _ (cO HQI.o);omega)
         have nQ:Hid (bU ((m.wt:Rat)*vf q i)+bU (vf q j)+1<=35184372088832):=lH (by
          have h2:=eH (m.wt:Rat) (vf q i);have h3:=dV m.wt (by omega) (by omega);have h4:=HQB.o _ (cO HQI.o);have h5:=HQB.o _ (cO HQJ.o);omega)
         have HS3:Hid (bU (vf rg j)+bU ((m.wt:Rat)*vf q i*vf q j)+1<=35184372088832):=lH (by
          have h1:=(WH.o.bd HTS.o).bd.vf hrg (j:=j) (by omega);have h2:=HTS.o i j lG tL;omega)
         have gl:=dJ.o.own.top.lt;have z0:=cU.o.blk.cell 0;have z1:=cU.o.blk.cell 1;have z2:=cU.o.blk.cell 2;have z3:=cU.o.blk.cell 3;have zl:=cU.o.blk.lt;have bK:=lH (aD (Below.refl w3.heap.size w3));have kC:=lZ i
         have aMf:=kU i;have JH:=lZ j
         have a2s:=kU j;clear hh hx hv hrg aLR;refine aJ (S:=fun w'=>Below w3.heap.size w3 w') 25 _ (by kernel_rfl) (by kernel_rfl) rfl (aD bR) (fun hHeld=>?_);simp only [lA,List.take_zero];refine aL 0 rfl ?_;refine aL 1 rfl ?_;refine aL 2 rfl ?_;refine aL 3 rfl ?_;refine aL 4 rfl ?_;refine aL 5 rfl ?_;refine aL 6 rfl ?_;refine aL 7 rfl ?_;refine aL 8 rfl ?_;refine aL 9 rfl ?_;refine aL 10 rfl ?_;refine aL 11 rfl ?_;refine aL 12 rfl ?_;refine aL 13 rfl ?_;refine aL 14 rfl ?_;refine aL 15 rfl ?_;refine aL 16 rfl ?_;refine aL 18 rfl ?_;refine aL 19 rfl ?_;refine aL 20 rfl ?_;refine aL 21 rfl ?_;refine aU 17 (by kernel_rfl) rfl (fun K hK=>?_);go_simp;refine (MR (cU.o.val.up bK.o) (HVX.o.up bK.o) NU.o).mono ?_;rintro e w8 ⟨e_,v8,rfl,h8⟩
         have dF:Hid (Below w3.heap.size w3 w8):=lH (bK.o.tm e_);have H8:=lH h8;clear e_ h8;go_simp;refine hK.out _ _ ?_ (fun hHeld=>?_)
         ·exact dF.o
         clear hK K
         try simp only [Act.put,bP,bO,bN]
         refine aU 22 (by kernel_rfl) rfl (fun K hK=>?_);go_simp;refine (MR H8.o (HVY.o.up dF.o) nQ.o).mono ?_;rintro e w9 ⟨gE,v9,rfl,h9⟩;have cQ:Hid (Below w3.heap.size w3 w9):=lH (dF.o.tm gE);have H9:=lH h9;clear gE h9;go_simp;refine hK.out _ _ ?_ (fun hHeld=>?_)
         ·exact cQ.o
         clear hK K
         try simp only [Act.put,bP,bO,bN]
         refine aU 23 (by kernel_rfl) rfl (fun K hK=>?_);go_simp;refine (ID (DK.o.up cQ.o) H9.o HS3.o).mono ?_;rintro e wq ⟨hbq,vq,rfl,hq⟩;have WN:Hid (Below w3.heap.size w3 wq):=lH (cQ.o.tm hbq);have HVQ:=lH hq;clear hbq hq;go_simp;refine hK.out _ _ ?_ (fun hHeld=>?_)
         ·exact WN.o
         clear hK K
         try simp only [Act.put,bP,bO,bN]
         refine aL 24 rfl ?_;refine wpAnyH_done (by kernel_rfl) ?_ _;refine aP (by rfl) ?_;clear hHeld;have p_:=lH (dJ.o.up WN.o);have V0:=lH (cU.o.up WN.o);clear c c0 c1 c2' c3' l1 f1 cP gl z0 z1 z2 z3 zl dJ cU DK NU nQ HS3 bK dF cQ H8 H9 HVX HVY aD8 a0 a1 a2 a3 d0 d1 d2 d3;obtain ⟨c0,c1,c2',c3',l1,f1⟩:=p_.o.elem2 HH.o p5.o D8.o;have aF6:=lH (WH.o.add lG tL)
         go_wp2_with fail
         go_roundw
         case rel=>exact ⟨j+1,_,_,tL,aQ aNo.o,by
          have h:=p_.o.put HH.o p5.o (j:=j) (x:=vq) (by rw [vE.o];exact tL) HVQ.o;rw [<-hZ p5.o] at h;exact h,V0.o.put p_.o HH.o p5.o (j:=j) (x:=vq) (by rw [vE.o];exact tL),aF6.o⟩
         case measure=>exact aNq.o
    ·have lS:k=K:=by omega
     have fT:¬(k:Int)<(K:Int):=by omega
     have HG0:Hid (jZ wr wr.heap.size (some ⟨ga,0,none⟩) n G):=lH (by have h:=dJ.o.own.rd;rw [cH.o.len] at h;exact h);have fZ:Hid (Below w.heap.size w wr):=lH (by rw [I8.o];exact dJ.o.low);have aXB:Hid (kA n (3+606*M.length) G):=lH (by rw [j_.o,<-lS];exact cH.o);have nM:Hid (∀ a b,a<n->b<n->YK G a b=CJ M ms M.length a b):=lH (by rw [j_.o,<-lS];exact jB.o)
     go_wp2_with fail
     exact bodyPost_ret (v:=.slice (some ⟨ga,0,none⟩) n n) (by simp [results,Tryz.results81,go_sem]) rfl ⟨fZ.o,ga,G,rfl,HG0.o,aXB.o,nM.o⟩
end
section
theorem F0:∀ (s:Nat) {M:List (List Rat)} {N k b:Nat} {piv:List Nat},(∀ a∈M,a.length=N)->k+s<=N->Bd b M->Bd (4^s*b) (nD s M piv k).1
 | 0,M,N,k,b,piv,hw,hk,h=>by rw [Nat.pow_zero,Nat.one_mul];exact h
 | s+1,M,N,k,b,piv,hw,hk,h=>by
  unfold nD;have UZ:0<4^(s+1):=Nat.pow_pos (by decide);have K5:b<=4^(s+1)*b:=Nat.le_mul_of_pos_left _ UZ
  by_cases hl:piv.length<M.length
  ·rw [if_pos hl]
   by_cases hp:nE M piv.length k=M.length
   ·rw [if_pos hp]
    exact (F0 s hw (by omega) h).mono (Nat.mul_le_mul_right _ (Nat.pow_le_pow_right (by decide) (Nat.le_succ _)))
   ·rw [if_neg hp]
    obtain ⟨Rp,hRp,hd⟩:=vR (rC hl) hp;obtain ⟨Rr,hRr⟩:∃ Rr,M[piv.length]?=some Rr:=⟨_,jA hl⟩;have h1:=aFk h hw hRr hRp (k:=k) (by omega);have h2:=F0 s (piv:=piv++[k]) (k:=k+1) (LR hw hRr hRp) (by omega) h1;rw [<-Nat.mul_assoc,<-Nat.pow_succ] at h2;exact h2
  ·rw [if_neg hl]
   exact h.mono K5
theorem aDO {M:List (List Rat)} {b:Nat} (hw:∀ a∈M,a.length=M.length) (h:Bd b M) (hb:3<=b):Bd (4^M.length*b) (mE M):=fun a ha x hx=>by
 unfold mE at ha;obtain ⟨r,hr,rfl⟩:=List.mem_map.1 ha;exact F0 M.length (uU hw) (by omega) (YG h hb) r hr x (List.mem_of_mem_drop hx)
def dS (n:Nat) (M:List (List Rat)) (ms:List Mi):List (List Rat):=(List.range n).map fun a=>(List.range n).map fun b=>CJ M ms M.length a b
theorem cL {n:Nat} {M:List (List Rat)} {ms:List Mi}:(dS n M ms).length=n:=by simp [dS]
theorem aIw {n K:Nat} {M G:List (List Rat)} {ms:List Mi} (h:kA n K G) (hv:∀ a b,a<n->b<n->YK G a b=CJ M ms M.length a b):G=dS n M ms:=by
 apply List.ext_getElem?;intro i
 by_cases hi:i<n
 ·obtain ⟨r,hr⟩:∃ r,G[i]?=some r:=eO (by rw [h.len];exact hi)
  have rX:=h.wid r (cO hr);rw [hr];unfold dS;rw [kI,List.getElem?_range hi];show some r=some _;congr 1
  apply List.ext_getElem?;intro j
  by_cases hj:j<n
  ·have h2:=hv i j hi hj
   rw [E2 hr] at h2;rw [kI,List.getElem?_range hj,bI (l:=r) (i:=j) (by rw [rX];exact hj),h2];rfl
  ·rw [List.getElem?_eq_none (by omega),List.getElem?_eq_none (by simp;omega)]
 ·rw [List.getElem?_eq_none (by rw [h.len];omega),List.getElem?_eq_none (by rw [cL];omega)]
def wR (x:bE) (m:Mi):Rat:=(m.wt:Rat)*(kB m.txt-(aS x m).2)
def B5 (x:bE) (ms:List Mi):Fn:=fun k=>match ms[k]? with | some m=>wR x m | none=>0
theorem AL {x:bE} {ms:List Mi} {k:Nat} {m:Mi} (h:ms[k]?=some m):B5 x ms k=wR x m:=by unfold B5;rw [h]
def lC (n:Nat) (x:bE) (ms:List Mi) (k:Nat):List Rat:=(List.range n).map fun i=>aO k fun t=>B5 x ms t*vf ((aR x ms).getD t []) i
theorem eZ {n:Nat} {x:bE} {ms:List Mi} {k:Nat}:(lC n x ms k).length=n:=by simp [lC]
theorem Z2 {n:Nat} {x:bE} {ms:List Mi}:lC n x ms 0=List.replicate n 0:=by
 apply List.ext_getElem?;intro i;unfold lC;rw [kI,List.getElem?_replicate]
 by_cases hi:i<n
 ·rw [List.getElem?_range hi,if_pos hi];rfl
 ·rw [List.getElem?_eq_none (by simp;omega),if_neg hi];rfl
theorem zE {n:Nat} {x:bE} {ms:List Mi} {k i:Nat} (hi:i<n):vf (lC n x ms k) i=aO k fun t=>B5 x ms t*vf ((aR x ms).getD t []) i:=by
 apply iA;unfold lC;rw [kI,List.getElem?_range hi];rfl
def DT (n:Nat) (x:bE) (ms:List Mi) (k i:Nat):List Rat:=(lC n x ms (k+1)).take i++(lC n x ms k).drop i
theorem Z3 {n:Nat} {x:bE} {ms:List Mi} {k:Nat}:DT n x ms k 0=lC n x ms k:=by simp [DT]
theorem aCS {n:Nat} {x:bE} {ms:List Mi} {k:Nat}:DT n x ms k n=lC n x ms (k+1):=by
 unfold DT;rw [nW (by rw [eZ];exact lR),List.drop_eq_nil_iff.2 (by rw [eZ];exact lR),List.append_nil]
theorem rL {n:Nat} {x:bE} {ms:List Mi} {k i:Nat} (hi:i<=n):(DT n x ms k i).length=n:=by
 unfold DT;rw [iC,jP,EI,eZ,eZ];omega
theorem aHs {n:Nat} {x:bE} {ms:List Mi} {k i:Nat} (hi:i<n):(DT n x ms k i)[i]?=some (vf (lC n x ms k) i):=by
 unfold DT;rw [AZ (by rw [jP,eZ];omega),jP,eZ,List.getElem?_drop,show i+(i-min i n)=i from by omega];exact bI (by rw [eZ];exact hi)
theorem aCR {n:Nat} {x:bE} {ms:List Mi} {k i:Nat} (hi:i<n) {row:List Rat} (hr:(aR x ms)[k]?=some row):(DT n x ms k i).set i (vf (lC n x ms k) i+B5 x ms k*vf row i)=DT n x ms k (i+1):=by
 have h1:vf (lC n x ms k) i+B5 x ms k*vf row i=vf (lC n x ms (k+1)) i:=by
  rw [zE hi,zE hi];simp only [aO];rw [eY (l:=aR x ms) (i:=k),hr];rfl
 rw [h1];apply List.ext_getElem?;intro j;unfold DT;rw [List.getElem?_set]
 by_cases hj:i=j
 ·subst hj
  rw [if_pos rfl,if_pos (by rw [iC,jP,EI,eZ,eZ];omega),xQ (by rw [jP,eZ];omega),List.getElem?_take,if_pos (Nat.lt_succ_self _),bI (by rw [eZ];exact hi)]
 ·rw [if_neg hj,List.getElem?_append,List.getElem?_append,jP,jP,eZ,List.getElem?_take,List.getElem?_take,List.getElem?_drop,List.getElem?_drop]
  by_cases h2:j<i
  ·rw [if_pos (by omega),if_pos h2,if_pos (by omega),if_pos (by omega)]
  ·rw [if_neg (by omega),if_neg (by omega),show i+(j-min i n)=j from by omega,show i+1+(j-min (i+1) n)=j from by omega]
def xX (F:List Nat) (d:Fn) (z:List Rat):Nat->List Rat
 | 0=>z
 | k+1=>(xX F d z k).set (F.getD k 0) (d k)
theorem rT {F:List Nat} {d:Fn} {z:List Rat}:∀ k,(xX F d z k).length=z.length
 | 0=>rfl
 | k+1=>by unfold xX;rw [lF,rT k]
def lW (x:bE) (ms:List Mi):Fn:=fun i=>jJ ((mE (dS (aA x).length (aR x ms) ms)).getD i []) (lC (aA x).length x ms ms.length)
def bX (x:bE) (ms:List Mi):List Rat:=xX (aA x) (lW x ms) (jX (aI x)) (aA x).length
def bD (x:bE) (ms:List Mi) (al:List Rat):List Rat:=ms.map fun m=>kB m.txt-(jJ (aS x m).1 al+(aS x m).2)
def mI (x:bE) (ms:List Mi):Prop:=Reg (dS (aA x).length (aR x ms) ms)
end
