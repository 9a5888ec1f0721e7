import Derived.Test.YthgdchffeigkbaaGreatDoorW03
import Derived.Test.YthgdchffeigkbaaGreatDoorW04
set_option linter.unusedVariables false
set_option linter.unusedSimpArgs false
namespace Go.Proofs.YthgdchffeigkbaaGreatDoor
set_option maxHeartbeats 8000000
set_option maxRecDepth 100000
variable {B n : Nat} {l : List Nat} {v : Value} {w w' : World}
section
open Go.ChangeShapes Go.WideShapes Go.ChangeAt Go.RowKit
attribute [local go_sem ↓] aE
attribute [local go_sem] aL aK aO
def SlQ(l:List Nat):Value->World->Prop:=fun v w=>∃A n c,v=.slice A n c/\jF w w.heap.size A n l/\n<=c/\c<=9223372036854775807
theorem SlQ.up(h:SlQ l v w)(hb:Below w.heap.size w w'):SlQ l v w':=by
 obtain⟨A,n,c,e,h1,h2⟩:=h;exact⟨A,n,c,e,h1.up hb,h2⟩
def LgQ(z:Int):Value->World->Prop:=fun v w=>∃b A n c,v=.agg #[.bool b,.slice A n c]/\bW w w.heap.size z b A n c
theorem LgQ.up{z:Int}(h:LgQ z v w)(hb:Below w.heap.size w w'):LgQ z v w':=by
 obtain⟨b,A,n,c,e,h1⟩:=h;exact⟨b,A,n,c,e,h1.up hb⟩
def I7(B:Nat)(T:TypeId)(cs:Array Value):Value->World->Prop:=fun v w=>∃g,v=.pointer (some ⟨g,0,none⟩)/\B<=g/\aD w g T cs
theorem I7.up{T:TypeId}{cs:Array Value}(h:I7 B T cs v w)(hb:Below w.heap.size w w'):I7 B T cs v w':=by
 obtain⟨g,e,h1,h2⟩:=h;exact⟨g,e,h1,h2.bl hb⟩
theorem aHG(l:List Nat):∀u∈bN l,u.oneCell'=true:=by
 intro u hu;unfold bN at hu;obtain⟨x,_,rfl⟩:=List.mem_map.1 hu;rfl
theorem XV(h:w.ownsRow B 216 1 v n (bN l)):∃A c,v=.slice A n c/\jF w w.heap.size A n l/\n<=c/\c<=9223372036854775807:=by
 rcases h.2 with⟨h1,h2⟩ | ⟨g,cap,cur,h1,h2,h3,h4,h5,h6,h7⟩
 ·refine⟨none,0,by rw[h2];exact h1,⟨h.1,fun h0=>by omega⟩,by omega,by omega⟩
 ·refine⟨_,_,h1,⟨h.1,fun h0=>⟨g,0,rfl,?_,fun j u hu=>?_⟩⟩,h4,by simpa[maxLen] using h5⟩
  ·rcases Nat.lt_or_ge g w.heap.size with aR | TC
   ·exact aR
   ·rw[Array.getElem?_eq_none TC] at h3;cases h3
  ·rw[Nat.zero_add,cell_of_row w g j cur 216 (0,0) h3]
   rw[<-h7] at hu;have rS:=(cY.1 hu).1;rw[List.getElem?_take_of_lt (by rw[jN] at rS;omega)] at hu;simpa using hu
theorem WC(A:OA)(n c:Nat)(l:List Nat)(w:Wo)(hr:jF w w.heap.size A n l)(hn:n<=35184372088833):Calls Tryz.prog 169 #[.slice A n c] w fun e w'=>Below w.heap.size w w'/\∃A' c',e=.returned (.slice A' n c')/\jF w' w'.heap.size A' n l/\n<=c'/\c'<=9223372036854775807:=by
 have q22:∀(w:Wo)(a:OA)(n c n' c':Nat),(binOp .eql 111 (.slice a n c) (.slice none n' c')).run Tryz.prog w=.ok (.bool a.isNone) w:=fun w a n c n' c'=>Lib.run_eql_slice_nil w _ _ a n c n' c' Tryz.underlying111;cases A with
 | none=>
  have h0:n=0:=by
   refine Nat.eq_zero_of_not_pos fun h=>?_;obtain⟨b,off,e,_⟩:=hr.form h;cases e
  subst h0;have hl:l=[]:=List.eq_nil_of_length_eq_zero hr.len;subst hl;go_enter Tryz.func169,Tryz.ntmps169
  (go_wp2_with fail);go_ret;exact⟨bR,none,0,rfl,AA _ _ _,lR,by decide⟩
 | some ad=>
  obtain⟨i0,iW,qY,kF,kE⟩:=info_parts IE;have HL:=lH hr.len;have HC:Hid (∀j u,(bN l)[j]?=some u->w.cell? (ad.add j)=some u):=lH fun j u hu=>by
   have hj:=(cY.1 hu).1;have oQ:0<n:=by have:=hr.len;unfold bN at hj;rw[iT] at hj;omega
   obtain⟨b,off,e,aR,hc⟩:=hr.2 oQ;injection e with e;subst e;have:=hc j u hu;unfold Addr.add;by_cases NU:j=0
   ·subst NU;simpa using this
   ·simpa[NU] using this
  have HN:Hid ((bN l).length=n*1):=lH hr.1;clear hr;go_enter Tryz.func169,Tryz.ntmps169
  go_wp2_with (at_builtin;refine wpList_append_own_wide _ rfl _ _ 111 rfl w.heap.size 216 i0 _ 1 4 Tryz.underlying111 iW qY kF kE rfl (by omega) _ _ _ rfl (X3 _ _ _) ad n c (bN l) rfl ?qc1 ?qc2 (aHG l) ?qc4 ?qc5 ?qc6 ?_)
  case qc1=>exact HN.o
  case qc2=>exact fun j u hj=>Lib.cell?_alloc_some _ (HC.o j u hj)
  case qc4=>simp only[maxLen];omega
  case qc5=>omega
  case qc6=>simp
  intro v' w1 aW hgrow aBa
  go_wp2
  go_ret;obtain⟨A',c',e,h1,h2,h3⟩:=XV aW;subst e;exact⟨((Below.refl _ w).alloc lR _).grown hgrow (by simp) (by intro k hk;simp[Value.ownBlock] at hk;omega),A',c',rfl,h1,h2,h3⟩
def DmP(y z:Int)(w:Wo)(e:Ending)(w':Wo):Prop:=Below w.heap.size w w'/\∃b A n c b2 B m d,e=.returned (.tuple #[.agg #[.bool b,.slice A n c],.agg #[.bool b2,.slice B m d]])/\bW w' w'.heap.size y b A n c/\bW w' w'.heap.size z b2 B m d
theorem aFD(x y:Nat)(b1:Bool)(A:OA)(n c:Nat)(b2:Bool)(B:OA)(m d:Nat)(w:Wo)(h1:bW w w.heap.size (x:Int) b1 A n c)(h2:bW w w.heap.size (y:Int) b2 B m d)(wK:0<y)(hn:n<=35184372088832)(hm:m<=35184372088832):Calls Tryz.prog 146 #[.agg #[.bool b1,.slice A n c],.agg #[.bool b2,.slice B m d]] w (DmP ((x / y:Nat):Int) ((x % y:Nat):Int) w):=by
 have bO:b1=false:=by rw[h1.eb];simp
 subst bO;have eD:Hid (Below w.heap.size w ((((w.alloc (aN false A n c)).alloc (aN b2 B m d)).alloc cP).alloc cP)):=lH ((((bA).alloc (by simp) _).alloc (by simp;omega) _).alloc (by simp;omega) _);have fB:Hid (aD ((((w.alloc (aN false A n c)).alloc (aN b2 B m d)).alloc cP).alloc cP) w.heap.size 113 #[.bool false,.slice A n c]):=lH ((((aD.new w _ _).alloc _).alloc _).alloc _);have gG:Hid (aD ((((w.alloc (aN false A n c)).alloc (aN b2 B m d)).alloc cP).alloc cP) (w.heap.size+1) 113 #[.bool b2,.slice B m d]):=lH (((aD.new_ (by simp)).alloc _).alloc _);have F4:Hid (aD ((((w.alloc (aN false A n c)).alloc (aN b2 B m d)).alloc cP).alloc cP) (w.heap.size+1+1) 113 #[.bool false,.slice none 0 0]):=lH ((aD.new_ (by simp)).alloc _);have BK:Hid (aD ((((w.alloc (aN false A n c)).alloc (aN b2 B m d)).alloc cP).alloc cP) (w.heap.size+1+1+1) 113 #[.bool false,.slice none 0 0]):=lH (aD.new_ (by simp));have HD1:Hid (jF ((((w.alloc (aN false A n c)).alloc (aN b2 B m d)).alloc cP).alloc cP) (((((w.alloc (aN false A n c)).alloc (aN b2 B m d)).alloc cP).alloc cP)).heap.size A n (j_ x)):=lH (h1.up eD.o).rd;have HD2:Hid (jF ((((w.alloc (aN false A n c)).alloc (aN b2 B m d)).alloc cP).alloc cP) (((((w.alloc (aN false A n c)).alloc (aN b2 B m d)).alloc cP).alloc cP)).heap.size B m (j_ y)):=lH (h2.up eD.o).rd;have hnc:=h1.nc;have KD:=h1.cm;clear h1 h2;go_enter Tryz.func146,Tryz.ntmps146
 go_wp2_with fail
 generalize ((((w.alloc (aN false A n c)).alloc (aN b2 B m d)).alloc cP).alloc cP)=V at *;obtain⟨p0,p1,pl⟩:=fB.o.b2;have q1:=gG.o.cell 1;have ql:=gG.o.lt
 go_wp2_with fail
 refine(RW A n c B m d x y V HD1.o HD2.o wK hnc KD hn hm).mono ?_;rintro e W ⟨bO,Aq,nq,cq,lq,Ar,nr,cr,lr,rfl,⟨pH,nR,LN,hq4,hq5⟩,⟨hr1,EF,DC,E5,xG⟩,aXU,aXz⟩;have cI:=cJ eD bO;obtain⟨aNl,aRL,aJJ,aJI,HQR⟩:=iS (fB.o.bl bO) (gG.o.bl bO) (F4.o.bl bO) (BK.o.bl bO) pH;have HQD:=lH nR;have HQV:Hid (CK false (wv lq)=((x / y:Nat):Int)):=lH (by rw[LN];rfl);have xN:=lH hr1;have DS:=lH EF;have HRV:Hid (CK false (wv lr)=((x % y:Nat):Int)):=lH (by rw[DC];rfl);have mO:w.heap.size<=V.heap.size:=eD.o.size;clear bO pH nR LN hq4 hq5 hr1 EF DC E5 xG p0 p1 q1 pl ql;have a3k:w.heap.size<=W.heap.size:=cI.o.size;clear mO;obtain⟨p0,pl⟩:=aNl.o.b1
 go_wp2_with fail
 refine lC (S:=fun w'=>Below W.heap.size W w') 12 _ _ (by kernel_rfl) (by kernel_rfl) (by kernel_rfl) rfl rfl (aI bR) (fun hHeld=>?_);simp only[m_,List.take_zero];refine cR [0,1,2,5,6,7] ?_;refine aDr (C:=fun s w'=>Below W.heap.size W w'/\ZL 10 11 s w') (G:=fun w' w''=>Below w'.heap.size w' w'') [(3,SlQ lq),(4,LgQ ((x / y:Nat):Int)),(8,SlQ lr),(9,LgQ ((x % y:Nat):Int)),(10,I7 W.heap.size 113 #[.bool false,.slice none 0 0]),(11,I7 W.heap.size 113 #[.bool false,.slice none 0 0])] rfl (by kernel_rfl) (List.forall_mem_cons.2 ⟨fun _ _ _ h g=>h.up g,List.forall_mem_cons.2 ⟨fun _ _ _ h g=>h.up g,List.forall_mem_cons.2 ⟨fun _ _ _ h g=>h.up g,List.forall_mem_cons.2 ⟨fun _ _ _ h g=>h.up g,List.forall_mem_cons.2 ⟨fun _ _ _ h g=>h.up g,List.forall_mem_cons.2 ⟨fun _ _ _ h g=>h.up g,List.forall_mem_nil _⟩⟩⟩⟩⟩⟩) (fun _ _ h=>h.1) ⟨hHeld,aAo _ _ _⟩ ?_;refine dX (i:=3) rfl (fun s w3 hC hn hK=>?_) (fun v3=>?_)
 ·unfold gV;go_simp;simp only[eN]
  refine(WC Aq nq cq lq w3 (HQR.o.lift hC.1 hC.1.size) (by have:=aXU;omega)).mono ?_;rintro e w4 ⟨gE,hq4⟩;obtain⟨A4,c4,rfl,E5,hn4,hc4⟩:=hq4;exact⟨_,rfl,⟨A4,nq,c4,rfl,E5,hn4,hc4⟩,⟨hC.1.tm gE,hC.2.other (by decide) (by decide) gE.size _⟩,gE⟩
 try simp only[Act.put,fZ,fY,fX]
 refine dX (i:=4) rfl (fun s w3 hC hn hK=>?_) (fun v4=>?_)
 ·have k3:s 3=some v3/\SlQ lq v3 w3:=hK 3 (by kernel_rfl)
  obtain⟨-,A3,n3,c3,rfl,DC,hn3,hc3⟩:=k3;unfold gV;go_simp;simp only[eN];refine(jV false A3 n3 c3 lq w3 DC HQD.o hn3 hc3).mono ?_;rw[HQV.o];rintro e w4 ⟨gE,b4,A4,n4,c4,rfl,h4⟩;exact⟨_,rfl,⟨b4,A4,n4,c4,rfl,h4⟩,⟨hC.1.tm gE,hC.2.other (by decide) (by decide) gE.size _⟩,gE⟩
 try simp only[Act.put,fZ,fY,fX]
 refine dX (i:=8) rfl (fun s w3 hC hn hK=>?_) (fun v8=>?_)
 ·unfold gV;go_simp;simp only[eN]
  refine(WC Ar nr cr lr w3 (xN.o.lift hC.1 hC.1.size) (by have:=aXz;omega)).mono ?_;rintro e w4 ⟨gE,hq4⟩;obtain⟨A4,c4,rfl,E5,hn4,hc4⟩:=hq4;exact⟨_,rfl,⟨A4,nr,c4,rfl,E5,hn4,hc4⟩,⟨hC.1.tm gE,hC.2.other (by decide) (by decide) gE.size _⟩,gE⟩
 try simp only[Act.put,fZ,fY,fX]
 refine dX (i:=9) rfl (fun s w3 hC hn hK=>?_) (fun v9=>?_)
 ·have k8:s 8=some v8/\SlQ lr v8 w3:=hK 8 (by kernel_rfl)
  obtain⟨-,A3,n3,c3,rfl,DC,hn3,hc3⟩:=k8;unfold gV;go_simp;simp only[eN];refine(jV false A3 n3 c3 lr w3 DC DS.o hn3 hc3).mono ?_;rw[HRV.o];rintro e w4 ⟨gE,b4,A4,n4,c4,rfl,h4⟩;exact⟨_,rfl,⟨b4,A4,n4,c4,rfl,h4⟩,⟨hC.1.tm gE,hC.2.other (by decide) (by decide) gE.size _⟩,gE⟩
 try simp only[Act.put,fZ,fY,fX]
 refine dX (i:=10) rfl (fun s w3 hC hn hK=>?_) (fun v10=>?_)
 ·unfold gV;go_simp;simp only[eN]
  exact⟨⟨_,rfl,hC.1.size,aD.new _ _ _⟩,⟨hC.1.alloc hC.1.size _,hC.2.left (by decide) (by simp)⟩,bA⟩
 try simp only[Act.put,fZ,fY,fX]
 refine dX (i:=11) rfl (fun s w3 hC hn hK=>?_) (fun v11=>?_)
 ·unfold gV;go_simp;simp only[eN]
  exact⟨⟨_,rfl,hC.1.size,aD.new _ _ _⟩,⟨hC.1.alloc hC.1.size _,hC.2.right (by decide) (by simp)⟩,bA⟩
 try simp only[Act.put,fZ,fY,fX]
 refine CO (fun s w5 hC hK=>?_);have k4:s 4=some v4/\LgQ ((x / y:Nat):Int) v4 w5:=hK 4;have k9:s 9=some v9/\LgQ ((x % y:Nat):Int) v9 w5:=hK 9;have k10:s 10=some v10/\I7 W.heap.size 113 #[.bool false,.slice none 0 0] v10 w5:=hK 10;have k11:s 11=some v11/\I7 W.heap.size 113 #[.bool false,.slice none 0 0] v11 w5:=hK 11;obtain⟨-,bq,Aq2,nq2,cq2,rfl,nR⟩:=k4;obtain⟨-,br,Ar2,nr2,cr2,rfl,EF⟩:=k9;obtain⟨s10,g10,rfl,aVT,S1⟩:=k10;obtain⟨s11,g11,rfl,aVS,aN5⟩:=k11;have cG:g10≠g11:=hC.2.2.2 g10 g11 s10 s11;obtain⟨d_,sW,BV,S1,aN5⟩:=iS hC.1 nR EF S1 aN5;clear hC hK s10 s11 nR EF hHeld;have hbr:br=false:=by rw[BV.o.eb];exact decide_eq_false (by omega)
 subst hbr;obtain⟨z0,z1,zf,zl⟩:=S1.o.e2;have aXP:=lH (aJJ.o.bl d_.o);have aXM:=lH (aJI.o.bl d_.o);clear p0 pl;have e0:w.heap.size+1+1≠g10:=by have:=aJJ.o.lt;omega
 have e1:w.heap.size+1+1≠g11:=by have:=aJJ.o.lt;omega
 have e2:w.heap.size+1+1+1≠g10:=by have:=aJI.o.lt;omega
 have e3:w.heap.size+1+1+1≠g11:=by have:=aJI.o.lt;omega
 have a2A:w.heap.size+1+1<W.heap.size:=aJJ.o.lt;have a2z:w.heap.size+1+1+1<W.heap.size:=aJI.o.lt;refine c_ (by rfl) ?_;go_simp;clear z0 z1 zf zl;generalize rP:(w5.setCell ⟨g10,0,none⟩ _).setCell ⟨g10,1,none⟩ _=w6;have aSS:Hid (aD w6 g10 113 #[.bool bq,.slice Aq2 nq2 cq2]):=lH (by rw[<-rP];exact bV S1.o);have MM:Hid (aD w6 g11 113 #[.bool false,.slice none 0 0]):=lH (by rw[<-rP];exact(aN5.o.far cG.symm _).far cG.symm _);have aXO:Hid (aD w6 (w.heap.size+1+1) 113 #[.bool false,.slice none 0 0]):=lH (by rw[<-rP];exact(aXP.o.far e0 _).far e0 _);have aXL:Hid (aD w6 (w.heap.size+1+1+1) 113 #[.bool false,.slice none 0 0]):=lH (by rw[<-rP];exact(aXM.o.far e2 _).far e2 _);have gQ:Hid (Below W.heap.size W w6):=lH (by rw[<-rP];exact cO d_.o aVT);have HQ6:Hid (bW w6 w6.heap.size ((x / y:Nat):Int) bq Aq2 nq2 cq2):=lH (by rw[<-rP];exact(sW.o.keep (S1.o.cell 0) (by simp) _).keep ((S1.o.set_ 0 (.bool bq)).cell 1) (by simp) _);have JX:Hid (bW w6 w6.heap.size ((x % y:Nat):Int) false Ar2 nr2 cr2):=lH (by rw[<-rP];exact(BV.o.keep (S1.o.cell 0) (by simp) _).keep ((S1.o.set_ 0 (.bool bq)).cell 1) (by simp) _);clear rP;obtain⟨z0,z1,zf,zl⟩:=MM.o.e2;refine c_ (by rfl) ?_;go_simp;clear z0 z1 zf zl;generalize JN:(w6.setCell ⟨g11,0,none⟩ _).setCell ⟨g11,1,none⟩ _=w7;have ZV:Hid (aD w7 g10 113 #[.bool bq,.slice Aq2 nq2 cq2]):=lH (by rw[<-JN];exact(aSS.o.far cG _).far cG _);have aLh:Hid (aD w7 g11 113 #[.bool false,.slice Ar2 nr2 cr2]):=lH (by rw[<-JN];exact bV MM.o);have aB0:Hid (aD w7 (w.heap.size+1+1) 113 #[.bool false,.slice none 0 0]):=lH (by rw[<-JN];exact(aXO.o.far e1 _).far e1 _);have aSe:Hid (aD w7 (w.heap.size+1+1+1) 113 #[.bool false,.slice none 0 0]):=lH (by rw[<-JN];exact(aXL.o.far e3 _).far e3 _);have lG:Hid (Below W.heap.size W w7):=lH (by rw[<-JN];exact cO gQ.o aVS);have HQ7:Hid (bW w7 w7.heap.size ((x / y:Nat):Int) bq Aq2 nq2 cq2):=lH (by rw[<-JN];exact(HQ6.o.keep (MM.o.cell 0) (by simp) _).keep ((MM.o.set_ 0 (.bool false)).cell 1) (by simp) _);have HR7:Hid (bW w7 w7.heap.size ((x % y:Nat):Int) false Ar2 nr2 cr2):=lH (by rw[<-JN];exact(JX.o.keep (MM.o.cell 0) (by simp) _).keep ((MM.o.set_ 0 (.bool false)).cell 1) (by simp) _);clear JN;have gT:Hid (Below w.heap.size w w7):=lH (cI.o.tm lG.o);have a0:=ZV.o.cell 0;have a1:=ZV.o.cell 1;have al:=ZV.o.lt;obtain⟨b0,b1,bl⟩:=aLh.o.b2;obtain⟨c0,c1,cf,cl⟩:=aB0.o.e2;obtain⟨d0,d1,df,dl⟩:=aSe.o.e2
 go_wp2_with fail
 refine bT (S:=fun w'=>w'.cell? ⟨g10,0,none⟩=some (.bool bq)/\w'.cell? ⟨g10,1,none⟩=some (.slice Aq2 nq2 cq2)/\w'.cell? ⟨g11,0,none⟩=some (.bool false)/\w'.cell? ⟨g11,1,none⟩=some (.slice Ar2 nr2 cr2)) 3 _ (by kernel_rfl) (by kernel_rfl) rfl ⟨a0,a1,b0,b1⟩ (fun hHeld=>?_);simp only[m_,List.take_zero];refine fP 0 (v:=?_) ?_ hHeld ?_;rotate_left 1
 ·intro w' hSw;obtain⟨s0,s1,s2,s3⟩:=hSw;go_simp<;>with_reducible rfl
 try simp only[Act.put,fZ,fY,fX]
 refine fP 1 (v:=?_) ?_ hHeld ?_;rotate_left 1
 ·intro w' hSw;obtain⟨s0,s1,s2,s3⟩:=hSw;go_simp<;>with_reducible rfl
 try simp only[Act.put,fZ,fY,fX]
 clear a0 a1 b0 b1 d0 d1 df dl al bl;have e4:g10≠w.heap.size+1+1:=e0.symm;have e5:g11≠w.heap.size+1+1:=e1.symm;have e6:w.heap.size+1+1+1≠w.heap.size+1+1:=by omega
 have aVL:w.heap.size<=w.heap.size+1+1:=by omega
 have aVK:w.heap.size<=w.heap.size+1+1+1:=by omega
 refine bI 2 (fun K hK=>?_);go_simp;clear c0 c1 cf cl;generalize S9:(w7.setCell ⟨w.heap.size+1+1,0,none⟩ _).setCell ⟨w.heap.size+1+1,1,none⟩ _=w8;have aLi:Hid (aD w8 g10 113 #[.bool bq,.slice Aq2 nq2 cq2]):=lH (by rw[<-S9];exact(ZV.o.far e4 _).far e4 _);have aLg:Hid (aD w8 g11 113 #[.bool false,.slice Ar2 nr2 cr2]):=lH (by rw[<-S9];exact(aLh.o.far e5 _).far e5 _);have aXN:Hid (aD w8 (w.heap.size+1+1) 113 #[.bool bq,.slice Aq2 nq2 cq2]):=lH (by rw[<-S9];exact bV aB0.o);have aBZ:Hid (aD w8 (w.heap.size+1+1+1) 113 #[.bool false,.slice none 0 0]):=lH (by rw[<-S9];exact(aSe.o.far e6 _).far e6 _);have dS:Hid (Below w.heap.size w w8):=lH (by rw[<-S9];exact cO gT.o aVL);have HQ8:Hid (bW w8 w8.heap.size ((x / y:Nat):Int) bq Aq2 nq2 cq2):=lH (by rw[<-S9];exact(HQ7.o.keep (aB0.o.cell 0) (by simp) _).keep ((aB0.o.set_ 0 (.bool bq)).cell 1) (by simp) _);have HR8:Hid (bW w8 w8.heap.size ((x % y:Nat):Int) false Ar2 nr2 cr2):=lH (by rw[<-S9];exact(HR7.o.keep (aB0.o.cell 0) (by simp) _).keep ((aB0.o.set_ 0 (.bool bq)).cell 1) (by simp) _);clear S9;refine hK.out _ _ ?_ (fun hHeld=>?_)
 ·exact⟨aLi.o.cell 0,aLi.o.cell 1,aLg.o.cell 0,aLg.o.cell 1⟩
 clear hK K
 try simp only[Act.put,fZ,fY,fX]
 refine eP ?_;obtain⟨d0,d1,df,dl⟩:=aBZ.o.e2
 go_wp2_with fail
 clear d0 d1 df dl;generalize ED:(w8.setCell ⟨w.heap.size+1+1+1,0,none⟩ _).setCell ⟨w.heap.size+1+1+1,1,none⟩ _=w9;have aSf:Hid (aD w9 (w.heap.size+1+1) 113 #[.bool bq,.slice Aq2 nq2 cq2]):=lH (by rw[<-ED];exact(aXN.o.far e6.symm _).far e6.symm _);have aXK:Hid (aD w9 (w.heap.size+1+1+1) 113 #[.bool false,.slice Ar2 nr2 cr2]):=lH (by rw[<-ED];exact bV aBZ.o);have fH:Hid (Below w.heap.size w w9):=lH (by rw[<-ED];exact cO dS.o aVK);have HQ9:Hid (bW w9 w9.heap.size ((x / y:Nat):Int) bq Aq2 nq2 cq2):=lH (by rw[<-ED];exact(HQ8.o.keep (aBZ.o.cell 0) (by simp) _).keep ((aBZ.o.set_ 0 (.bool false)).cell 1) (by simp) _);have HR9:Hid (bW w9 w9.heap.size ((x % y:Nat):Int) false Ar2 nr2 cr2):=lH (by rw[<-ED];exact(HR8.o.keep (aBZ.o.cell 0) (by simp) _).keep ((aBZ.o.set_ 0 (.bool false)).cell 1) (by simp) _);clear ED;have q0:=aSf.o.cell 0;have q1:=aSf.o.cell 1;obtain⟨q2,q3⟩:=aXK.o.a2;exact bodyPost_ret (v:=.tuple #[.agg #[.bool bq,.slice Aq2 nq2 cq2],.agg #[.bool false,.slice Ar2 nr2 cr2]]) (by simp[results,Tryz.results146,go_sem,q0,q1,q2,q3]) rfl ⟨aI fH.o,bq,Aq2,nq2,cq2,false,Ar2,nr2,cr2,rfl,HQ9.o.up (aI bR),HR9.o.up (aI bR)⟩
theorem U1{z:Int}{b:Bool}{A:OA}{c:Nat}(h:bW w B z b A n c):bW w B (z.natAbs:Int) false A n c:=
 ⟨by simp,by rw[Int.natAbs_natCast];exact h.en,by rw[Int.natAbs_natCast];exact h.rd,h.nc,h.cm⟩
theorem YU(y0 z0:Int)(b1:Bool)(A:OA)(n c:Nat)(b2:Bool)(B:OA)(m d:Nat)(w:Wo)(h1:bW w w.heap.size y0 b1 A n c)(h2:bW w w.heap.size z0 b2 B m d)(hn:n<=35184372088832)(hm:m<=35184372088832):Calls Tryz.prog 145 #[.agg #[.bool b1,.slice A n c],.agg #[.bool b2,.slice B m d]] w (LgP ((y0.natAbs.gcd z0.natAbs:Nat):Int) w):=by
 have eD:Hid (Below w.heap.size w (((w.alloc (aN false A n c)).alloc (aN false B m d)).alloc cP)):=lH (((bA).alloc (by simp) _).alloc (by simp;omega) _);have fB:Hid (aD (((w.alloc (aN false A n c)).alloc (aN false B m d)).alloc cP) w.heap.size 113 #[.bool false,.slice A n c]):=lH (((aD.new w _ _).alloc _).alloc _);have gG:Hid (aD (((w.alloc (aN false A n c)).alloc (aN false B m d)).alloc cP) (w.heap.size+1) 113 #[.bool false,.slice B m d]):=lH ((aD.new_ (by simp)).alloc _);have HR:Hid (aD (((w.alloc (aN false A n c)).alloc (aN false B m d)).alloc cP) (w.heap.size+1+1) 113 #[.bool false,.slice none 0 0]):=lH (aD.new_ (by simp));have H1b:=lH (U1 (h1.up eD.o));have H2b:=lH (U1 (h2.up eD.o));clear h1 h2;have e01:w.heap.size≠w.heap.size+1:=by omega
 have e10:w.heap.size+1≠w.heap.size:=by omega
 have e20:w.heap.size+1+1≠w.heap.size:=by omega
 have e21:w.heap.size+1+1≠w.heap.size+1:=by omega
 obtain⟨GG,hG⟩:∃g,y0.natAbs.gcd z0.natAbs=g:=⟨_,rfl⟩;rw[hG];go_enter Tryz.func145,Tryz.ntmps145
 go_wp2_with fail
 generalize (((w.alloc (aN false A n c)).alloc (aN false B m d)).alloc cP)=W1 at *
 go_loopg [5] z0.natAbs (fun k v5 wr=>∃(x y:Nat)(A:OA)(n c:Nat)(B:OA)(m d:Nat),k=y/\x.gcd y=GG/\Below w.heap.size w wr/\aD wr w.heap.size 113 #[.bool false,.slice A n c]/\aD wr (w.heap.size+1) 113 #[.bool false,.slice B m d]/\aD wr (w.heap.size+1+1) 113 #[.bool false,.slice none 0 0]/\bW wr wr.heap.size (x:Int) false A n c/\bW wr wr.heap.size (y:Int) false B m d/\n<=35184372088832/\m<=35184372088832)
 case atStart=>exact⟨_,_,A,n,c,B,m,d,rfl,hG,eD.o,fB.o,gG.o,HR.o,H1b.o,H2b.o,hn,hm⟩
 case round=>
  clear eD fB gG HR H1b H2b hn hm hG;obtain⟨x,y,A,n,c,B,m,d,hk,hg,hbr,JQ,hp3,hp4,hx,hy,hn,hm⟩:=hrel;have HKY:=lH hk;clear hk;obtain⟨HG,qW,uJ,SS,BX⟩:=iS hg hbr JQ hp3 hp4;obtain⟨HX,HY,lB⟩:=dZ hx hy hm;obtain⟨z0,z1,zl⟩:=SS.o.b2;clear hg hbr JQ hp3 hp4 hx hy hm;(go_wp2_with fail);refine(CZ (y:Int) false B m d wr HY.o).mono ?_;rintro e w1 ⟨rfl,bO⟩;clear z0 z1 zl;have aS6:=cJ qW bO;obtain⟨aNR,aSr,aJM,fB,HY1⟩:=iS (uJ.o.bl bO) (SS.o.bl bO) (BX.o.bl bO) (HX.o.up bO) (HY.o.up bO);clear bO qW uJ SS BX HX HY;by_cases hy:y=0
  ·subst hy
   have hs:((0:Nat):Int).sign=0:=rfl;rw[hs];clear hs;have hgx:x=GG:=by rw[<-HG.o,Nat.gcd_zero_right]
   subst hgx;obtain⟨a0,a1,al⟩:=aNR.o.b2;have mO:w.heap.size<=w.heap.size+1+1:=by omega
   obtain⟨z0,z1,zf,zl⟩:=aJM.o.e2;(go_wp2_with fail);generalize fG:(w1.setCell ⟨_,0,none⟩ _).setCell ⟨_,1,none⟩ _=W9;have iZ:=lH (oX (e:=.returned (.agg #[.bool false,.slice A n c])) aS6.o mO aJM.o (by simp) (by simp) fB.o rfl);rw[fG] at iZ;have fH:Hid (aD W9 _ 113 #[.bool false,.slice A n c]):=lH (by rw[<-fG];exact bV aJM.o);clear fG z0 z1 zf zl;obtain⟨q0,q1⟩:=fH.o.a2;exact bodyPost_ret (v:=.agg #[.bool false,.slice A n c]) (by simp[results,Tryz.results145,go_sem,q0,q1]) rfl iZ.o
  ·have hs:(y:Int).sign=1:=Int.sign_eq_one_of_pos (by omega)
   rw[hs];clear hs;have wK:0<y:=by omega
   clear hy;obtain⟨a0,a1,al⟩:=aNR.o.b2;obtain⟨z0,z1,zl⟩:=aSr.o.b2;have hxn:n=dA x:=by rw[fB.o.en,Int.natAbs_natCast]
   have hyn:m=dA y:=by rw[HY1.o.en,Int.natAbs_natCast]
   have hnc:=fB.o.nc;have KD:=fB.o.cm;clear hxn hyn;(go_wp2_with fail);refine(RW A n c B m d x y w1 (by have:=fB.o.rd;exact this) (by have:=HY1.o.rd;exact this) wK hnc KD hn lB.o).mono ?_;rintro e W2 ⟨bH,Aq,nq,cq,lq,Ar,nr,cr,lr,rfl,-,⟨hr1,EF,DC,E5,xG⟩,-,hnr⟩;clear a0 a1 al z0 z1 zl;have HBr:=cJ aS6 bH;obtain⟨uJ,SS,BX,HY2⟩:=h_ (aNR.o.bl bH) (aSr.o.bl bH) (aJM.o.bl bH) (HY1.o.up bH);have xN:Hid (jF W2.drew W2.drew.heap.size Ar nr lr):=lH hr1;have DS:=lH EF;have HRV:Hid (CK false (wv lr)=((x % y:Nat):Int)):=lH (by rw[DC];rfl);clear bH hr1 EF DC E5 xG aS6 aNR aSr aJM fB HY1 hnc KD;obtain⟨z0,z1,zl⟩:=SS.o.b2;(go_wp2_with fail);refine bT (S:=fun w'=>w'.cell? ⟨w.heap.size+1,0,none⟩=some (.bool false)/\w'.cell? ⟨w.heap.size+1,1,none⟩=some (.slice B m d)) 5 _ (by kernel_rfl) (by kernel_rfl) rfl ⟨z0,z1⟩ (fun hHeld=>?_);simp only[m_,List.take_zero];refine fP 0 (v:=?_) ?_ hHeld ?_;rotate_left 1
   ·intro w' hSw;obtain⟨s0,s1⟩:=hSw;go_simp<;>with_reducible rfl
   (try simp only[Act.put,fZ,fY,fX]);refine fP 1 (v:=?_) ?_ hHeld ?_;rotate_left 1
   ·intro w' hSw;obtain⟨s0,s1⟩:=hSw;go_simp<;>with_reducible rfl
   (try simp only[Act.put,fZ,fY,fX]);clear z0 z1;refine bI 2 (fun K hK=>?_);go_simp;refine(WC Ar nr cr lr W2.drew xN.o (by omega)).mono ?_;rintro e w3 ⟨dK,A3,c3,rfl,DC,hn3,hc3⟩;have fV:=lH ((aI (Below.refl W2.heap.size W2)).trans dK);have MK:=lH DC;clear dK DC;go_simp;refine hK.out _ _ ?_ (fun hHeld=>?_)
   ·exact⟨(SS.o.bl fV.o).cell 0,(SS.o.bl fV.o).cell 1⟩
   clear hK K;(try simp only[Act.put,fZ,fY,fX]);refine bI 3 (fun K hK=>?_);go_simp;refine(jV false A3 nr c3 lr w3 MK.o DS.o hn3 hc3).mono ?_;rw[HRV.o];rintro e w4 ⟨gE,b4,A4,n4,c4,rfl,h4⟩;have bP:=cJ fV gE;have H4:=lH h4;clear gE h4 hn3 hc3 MK;go_simp;refine hK.out _ _ ?_ (fun hHeld=>?_)
   ·exact⟨(SS.o.bl bP.o).cell 0,(SS.o.bl bP.o).cell 1⟩
   clear hK K;(try simp only[Act.put,fZ,fY,fX]);have aMO:b4=false:=by rw[H4.o.eb];exact decide_eq_false (by omega)
   subst aMO;obtain⟨aB5,aX7,aX2⟩:=dZ (uJ.o.bl bP.o) (SS.o.bl bP.o) (BX.o.bl bP.o);obtain⟨z0,z1,zf,zl⟩:=aB5.o.e2;refine bI 4 (fun K hK=>?_);go_simp;clear z0 z1 zf zl;generalize VA:(w4.setCell ⟨w.heap.size,0,none⟩ _).setCell ⟨w.heap.size,1,none⟩ _=w5;have aNQ:Hid (aD w5 w.heap.size 113 #[.bool false,.slice B m d]):=lH (by rw[<-VA];exact bV aB5.o);have zH:Hid (aD w5 (w.heap.size+1) 113 #[.bool false,.slice B m d]):=lH (by rw[<-VA];exact(aX7.o.far e10 _).far e10 _);have aNN:Hid (aD w5 (w.heap.size+1+1) 113 #[.bool false,.slice none 0 0]):=lH (by rw[<-VA];exact(aX2.o.far e20 _).far e20 _);have HBc:Hid (Below w.heap.size w w5):=lH (by rw[<-VA];exact cO (HBr.o.tm bP.o) lR);have HYc:Hid (bW w5 w5.heap.size (y:Int) false B m d):=lH (by rw[<-VA];exact((HY2.o.up bP.o).keep (aB5.o.cell 0) (by simp) _).keep ((aB5.o.set_ 0 (.bool false)).cell 1) (by simp) _);have HRc:Hid (bW w5 w5.heap.size ((x % y:Nat):Int) false A4 n4 c4):=lH (by rw[<-VA];exact(H4.o.keep (aB5.o.cell 0) (by simp) _).keep ((aB5.o.set_ 0 (.bool false)).cell 1) (by simp) _);clear VA;refine hK.out _ _ ?_ (fun hHeld=>?_)
   ·exact⟨zH.o.cell 0,zH.o.cell 1⟩
   clear hK K;(try simp only[Act.put,fZ,fY,fX]);refine eP ?_;obtain⟨z0,z1,zf,zl⟩:=zH.o.e2;(go_wp2_with fail);clear z0 z1 zf zl;generalize rP:(w5.setCell ⟨w.heap.size+1,0,none⟩ _).setCell ⟨w.heap.size+1,1,none⟩ _=w6;have aNP:Hid (aD w6 w.heap.size 113 #[.bool false,.slice B m d]):=lH (by rw[<-rP];exact(aNQ.o.far e01 _).far e01 _);have aNO:Hid (aD w6 (w.heap.size+1) 113 #[.bool false,.slice A4 n4 c4]):=lH (by rw[<-rP];exact bV zH.o);have aNM:Hid (aD w6 (w.heap.size+1+1) 113 #[.bool false,.slice none 0 0]):=lH (by rw[<-rP];exact(aNN.o.far e21 _).far e21 _);have HBd:Hid (Below w.heap.size w w6):=lH (by rw[<-rP];exact cO HBc.o (Nat.le_succ _));have HYd:Hid (bW w6 w6.heap.size (y:Int) false B m d):=lH (by rw[<-rP];exact(HYc.o.keep (zH.o.cell 0) (by simp) _).keep ((zH.o.set_ 0 (.bool false)).cell 1) (by simp) _);have HRd:Hid (bW w6 w6.heap.size ((x % y:Nat):Int) false A4 n4 c4):=lH (by rw[<-rP];exact(HRc.o.keep (zH.o.cell 0) (by simp) _).keep ((zH.o.set_ 0 (.bool false)).cell 1) (by simp) _);clear rP;have HM4:Hid (n4<=35184372088832):=lH (by rw[HRc.o.en];refine b_ ?_ lB.o;rw[HYc.o.en];exact kH (by rw[Int.natAbs_natCast,Int.natAbs_natCast];exact oO (Nat.mod_lt _ wK)));have ET:Hid (y.gcd (x % y)=GG):=lH (by rw[<-HG.o,Nat.gcd_comm x y,Nat.gcd_rec y x,Nat.gcd_comm]);have W5:Hid (x % y<gk):=lH (by rw[HKY.o];exact Nat.mod_lt _ wK)
   go_roundg (x % y)
   case rel=>exact⟨y,x % y,B,m,d,A4,n4,c4,rfl,ET.o,HBd.o,aNP.o,aNO.o,aNM.o,HYd.o,HRd.o,lB.o,HM4.o⟩
   case measure=>exact W5.o
def RtS(q:Rat)(w wc:Wo):Prop:=∃(y:Int)(k:Nat)(b1:Bool)(A:OA)(n c:Nat)(B:OA)(m d:Nat),0<k/\q=Rat.divInt y (k:Int)/\Below w.heap.size w wc/\aD wc w.heap.size 113 #[.bool b1,.slice A n c]/\aD wc (w.heap.size+1) 113 #[.bool false,.slice B m d]/\aD wc (w.heap.size+1+1) 115 #[.bool false,.slice none 0 0,.bool false,.slice none 0 0]/\bW wc wc.heap.size y b1 A n c/\bW wc wc.heap.size (k:Int) false B m d/\n<=35184372088832/\m<=35184372088832
theorem v_(y z:Int)(b1:Bool)(A:OA)(n c:Nat)(b2:Bool)(B:OA)(m d:Nat)(w:Wo)(h1:bW w w.heap.size y b1 A n c)(h2:bW w w.heap.size z b2 B m d)(hz:z≠0)(hn:n<=35184372088832)(hm:m<=35184372088832):Calls Tryz.prog 114 #[.agg #[.bool b1,.slice A n c],.agg #[.bool b2,.slice B m d]] w (RtP (Rat.divInt y z) w):=by
 obtain⟨HYN,HZM,dN⟩:=dZ h1.en h2.en h2.eb;have eD:Hid (Below w.heap.size w (((w.alloc (aN b1 A n c)).alloc (aN b2 B m d)).alloc dR)):=lH (((bA).alloc (by simp) _).alloc (by simp;omega) _);have fB:Hid (aD (((w.alloc (aN b1 A n c)).alloc (aN b2 B m d)).alloc dR) w.heap.size 113 #[.bool b1,.slice A n c]):=lH (((aD.new w _ _).alloc _).alloc _);have gG:Hid (aD (((w.alloc (aN b1 A n c)).alloc (aN b2 B m d)).alloc dR) (w.heap.size+1) 113 #[.bool b2,.slice B m d]):=lH ((aD.new_ (by simp)).alloc _);have HR:Hid (aD (((w.alloc (aN b1 A n c)).alloc (aN b2 B m d)).alloc dR) (w.heap.size+1+1) 115 #[.bool false,.slice none 0 0,.bool false,.slice none 0 0]):=lH (aD.new_ (by simp));have H1:=lH (h1.up eD.o);have H2:=lH (h2.up eD.o);have e01:w.heap.size≠w.heap.size+1:=by omega
 have e10:w.heap.size+1≠w.heap.size:=by omega
 have e20:w.heap.size+1+1≠w.heap.size:=by omega
 have e21:w.heap.size+1+1≠w.heap.size+1:=by omega
 clear h1 h2;go_enter Tryz.func114,Tryz.ntmps114
 go_upto_region 1 with fail
 generalize (((w.alloc (aN b1 A n c)).alloc (aN b2 B m d)).alloc dR)=W at *;obtain⟨p0,p1,pl⟩:=fB.o.b2;obtain⟨q0,q1,ql⟩:=gG.o.b2
 go_upto_if 8 with fail
 go_cut [] (fun wc=>RtS (Rat.divInt y z) w wc)
 case first=>
  cases b2 with
  | true=>
   have kF:z<0:=by simpa using dN.o.symm
   have HH1:Hid (bW W.drew W.drew.heap.size y b1 A n c):=lH (H1.o.up (aI bR));have HH2:Hid (bW W.drew W.drew.heap.size z true B m d):=lH (H2.o.up (aI bR));clear dN;(go_wp2_with fail);refine lC (S:=fun w'=>Below W.heap.size W w') 4 _ _ (by kernel_rfl) (by kernel_rfl) (by kernel_rfl) rfl rfl (aI bR) (fun hHeld=>?_);simp only[m_,List.take_zero];refine cR [0,2] ?_;refine bI 1 (fun K hK=>?_);go_simp;refine(FS y b1 A n c W.drew HH1.o).mono ?_;rintro e w3 ⟨dK,b3,A3,n3,c3,rfl,h3⟩;obtain⟨fV,H3,aYs⟩:=dZ ((aI (Below.refl W.heap.size W)).trans dK) h3 (HH2.o.up dK);clear dK h3;go_simp;refine iB hK fV.o (fun hHeld=>?_);clear hK K;refine bI 3 (fun K hK=>?_);go_simp;refine(FS z true B m d w3 aYs.o).mono ?_;rintro e w4 ⟨gE,b4,A4,n4,c4,rfl,h4⟩;have bP:=cJ fV gE;have H4:=lH h4;have H3b:=lH (H3.o.up gE);clear gE h4;go_simp;refine iB hK bP.o (fun hHeld=>?_);clear hK K;refine eP ?_;obtain⟨uJ,SS,BX,HBB⟩:=h_ (fB.o.bl bP.o) (gG.o.bl bP.o) (HR.o.bl bP.o) (eD.o.tm bP.o);clear p0 p1 q0 q1 pl ql;obtain⟨z0,z1,zf,zl⟩:=uJ.o.e2;go_simp;clear z0 z1 zf zl;generalize VA:(w4.setCell ⟨w.heap.size,0,none⟩ _).setCell ⟨w.heap.size,1,none⟩ _=w5;have aNQ:Hid (aD w5 w.heap.size 113 #[.bool b3,.slice A3 n3 c3]):=lH (by rw[<-VA];exact bV uJ.o);have zH:Hid (aD w5 (w.heap.size+1) 113 #[.bool true,.slice B m d]):=lH (by rw[<-VA];exact(SS.o.far e10 _).far e10 _);have aNN:Hid (aD w5 (w.heap.size+1+1) 115 #[.bool false,.slice none 0 0,.bool false,.slice none 0 0]):=lH (by rw[<-VA];exact(BX.o.far e20 _).far e20 _);have HBc:Hid (Below w.heap.size w w5):=lH (by rw[<-VA];exact cO HBB.o lR);have HNc:Hid (bW w5 w5.heap.size (-y) b3 A3 n3 c3):=lH (by rw[<-VA];exact(H3b.o.keep (uJ.o.cell 0) (by simp) _).keep ((uJ.o.set_ 0 (.bool b3)).cell 1) (by simp) _);have HDc:Hid (bW w5 w5.heap.size (-z) b4 A4 n4 c4):=lH (by rw[<-VA];exact(H4.o.keep (uJ.o.cell 0) (by simp) _).keep ((uJ.o.set_ 0 (.bool b3)).cell 1) (by simp) _);clear VA;refine c_ (by rfl) ?_;obtain⟨z0,z1,zf,zl⟩:=zH.o.e2;(go_wp2_with fail);clear z0 z1 zf zl;generalize rP:(w5.setCell ⟨w.heap.size+1,0,none⟩ _).setCell ⟨w.heap.size+1,1,none⟩ _=w6;have aNP:Hid (aD w6 w.heap.size 113 #[.bool b3,.slice A3 n3 c3]):=lH (by rw[<-rP];exact(aNQ.o.far e01 _).far e01 _);have aNO:Hid (aD w6 (w.heap.size+1) 113 #[.bool b4,.slice A4 n4 c4]):=lH (by rw[<-rP];exact bV zH.o);have aNM:Hid (aD w6 (w.heap.size+1+1) 115 #[.bool false,.slice none 0 0,.bool false,.slice none 0 0]):=lH (by rw[<-rP];exact(aNN.o.far e21 _).far e21 _);have HBd:Hid (Below w.heap.size w w6):=lH (by rw[<-rP];exact cO HBc.o (Nat.le_succ _));have HNd:Hid (bW w6 w6.heap.size (-y) b3 A3 n3 c3):=lH (by rw[<-rP];exact(HNc.o.keep (zH.o.cell 0) (by simp) _).keep ((zH.o.set_ 0 (.bool b4)).cell 1) (by simp) _);have HDd:Hid (bW w6 w6.heap.size (-z) b4 A4 n4 c4):=lH (by rw[<-rP];exact(HDc.o.keep (zH.o.cell 0) (by simp) _).keep ((zH.o.set_ 0 (.bool b4)).cell 1) (by simp) _);clear rP;obtain⟨k,hk⟩:∃k:Nat,-z=(k:Int):=⟨(-z).toNat,by omega⟩;rw[hk] at HDd;have aMO:b4=false:=by rw[HDd.o.eb];exact decide_eq_false (by omega)
   subst aMO;have ZY:Hid (Rat.divInt y z=Rat.divInt (-y) (k:Int)):=lH (by rw[show z=-(k:Int) from by omega];exact K6 y k);have kO:0<k:=by omega
   have hn3:n3<=35184372088832:=by rw[HNd.o.en,Int.natAbs_neg,<-HYN.o];exact hn
   have hm4:n4<=35184372088832:=by rw[HDd.o.en,<-hk,Int.natAbs_neg,<-HZM.o];exact hm
   clear hk;go_meet
   case rel=>exact⟨-y,k,b3,A3,n3,c3,A4,n4,c4,kO,ZY.o,HBd.o,aNP.o,aNO.o,aNM.o,HNd.o,HDd.o,hn3,hm4⟩
  | false=>
   have kF : 0 < z := by
    have : ¬ z < 0 := by simpa using dN.o.symm
    omega
   obtain⟨k,rfl⟩:∃k:Nat,z=(k:Int):=⟨z.toNat,by omega⟩;clear dN;have kO:0<k:=by omega
   (go_wp2_with fail);go_meet
   case rel=>exact⟨y,k,b1,A,n,c,B,m,d,kO,rfl,eD.o,fB.o,gG.o,HR.o,H1.o,H2.o,hn,hm⟩
 clear p0 p1 q0 q1 pl ql hn hm hz dN;generalize Rat.divInt y z=q at *;obtain⟨y,k,b1,A,n,c,B,m,d,kO,hq,hb,DB,xV,hr,h1,h2,hn,hm⟩:=hcut;obtain⟨HQ,HB,uJ,SS,BX⟩:=iS hq hb DB xV hr;have HY:=lH h1;have HK:=lH h2;clear hq hb DB xV hr h1 h2;generalize wc=V at *;have mO:w.heap.size<=w.heap.size+1+1:=by omega
 have HKM:Hid (m=dA k):=lH (by rw[HK.o.en,Int.natAbs_natCast]);obtain⟨p0,p1,pl⟩:=uJ.o.b2;obtain⟨q0,q1,ql⟩:=SS.o.b2
 go_upto_region 3 with fail
 go_cut [23] (fun v wc=>wc=V/\v=.bool (decide (k=1)))
 case first=>
  by_cases FV:m=1
  ·subst FV
   have aMw:k<4294967296:=by
    have:=nP k;rw[<-HKM.o] at this;exact this
   obtain⟨bb,bo,LT,yZ⟩:=HK.o.rd.form (by omega);subst LT;have IJ:=HK.o.rd.at_ (i:=0) (by omega);rw[Int.natAbs_natCast,nS (by omega),Nat.mod_eq_of_lt aMw,Nat.add_zero] at IJ;have hc1:V.cell? ⟨bb,bo,none⟩=some (.int .u32 (k:Int)):=IJ;clear IJ;have hkb:((k:Int) == 1)=decide (k=1):=by
    by_cases h:k=1
    ·subst h;rfl
    ·simp[h];omega
   (go_wp2_with fail);go_meet
   case rel=>exact⟨rfl,rfl⟩
  ·have hmb:((m:Int) == 1)=false:=by simp;omega
   have hkb:decide (k=1)=false:=decide_eq_false fun e=>FV (by rw[HKM.o,e];exact sP (by decide) (by decide));clear FV
   (go_wp2_with fail);go_meet
   case rel=>exact⟨rfl,by rw[hkb]⟩
 obtain⟨JM,rfl⟩:=hcut;subst JM;generalize wc=V at *;by_cases NT:k=1
 ·subst NT
  have TA:cQ V V.heap.size q b1 A n c false B m d:=by
   obtain⟨e1,e2⟩:=CQ (n:=y) (d:=1) (by decide) (Nat.gcd_one_right _);rw[HQ.o];exact⟨by rw[e1];exact HY.o,by rw[e2];exact HK.o⟩
  have HRT:=lH TA;clear TA;obtain⟨z0,z1,z2,z3,zf,zl⟩:=BX.o.e4;(go_wp2_with fail);generalize fG:(((V.setCell ⟨_,0,none⟩ _).setCell ⟨_,1,none⟩ _).setCell ⟨_,2,none⟩ _).setCell ⟨_,3,none⟩ _=W9;have iZ:=lH (nF (e:=.returned (.agg #[.bool b1,.slice A n c,.bool false,.slice B m d])) HB.o mO BX.o (by simp) (by simp) (by simp) (by simp) HRT.o rfl);rw[fG] at iZ;have fH:Hid (aD W9 _ 115 #[.bool b1,.slice A n c,.bool false,.slice B m d]):=lH (by rw[<-fG];exact fU BX.o);clear fG z0 z1 z2 z3 zf zl;obtain⟨q0,q1,q2,q3⟩:=fH.o.a4;exact bodyPost_ret (v:=.agg #[.bool b1,.slice A n c,.bool false,.slice B m d]) (by simp[results,Tryz.results114,go_sem,q0,q1,q2,q3]) rfl iZ.o
 ·have hkf:decide (k=1)=false:=decide_eq_false NT
  rw[hkf];clear hkf NT;(go_wp2_with fail);refine(YU y (k:Int) b1 A n c false B m d V HY.o HK.o hn hm).mono ?_;rw[Int.natAbs_natCast];rintro e V2 ⟨bH,bg,Ag,ng,cg,rfl,lM⟩;obtain⟨g,hgg⟩:∃g,y.natAbs.gcd k=g:=⟨_,rfl⟩;rw[hgg] at lM;have HGG:=lH hgg;have hg0:0<g:=by rw[<-hgg];exact Nat.gcd_pos_of_pos_right _ kO
  have YO:bg=false:=by rw[lM.eb];exact decide_eq_false (by omega)
  subst YO;clear p0 p1 pl q0 q1 ql hgg;have dN:=cJ HB bH;obtain⟨aSt,aSq,aSm,HY2,yB⟩:=iS (uJ.o.bl bH) (SS.o.bl bH) (BX.o.bl bH) (HY.o.up bH) (HK.o.up bH);have jA:=lH lM;clear bH lM;have B7:=lH ((Below.refl V2.heap.size V2).alloc lR (.cells #[.bool false,.slice Ag ng cg] 113));have HP5:Hid (aD (V2.alloc (aN false Ag ng cg)) V2.heap.size 113 #[.bool false,.slice Ag ng cg]):=lH (aD.new V2 _ _);obtain⟨fV,SU,aSp,aB3,HY3⟩:=iS (dN.o.tm B7.o) (aSt.o.bl B7.o) (aSq.o.bl B7.o) (aSm.o.bl B7.o) (HY2.o.up B7.o);have SX:=lH (yB.o.up B7.o);have SZ:=lH (jA.o.up B7.o);have f2:V2.heap.size≠w.heap.size:=by have:=aSt.o.lt;omega
  have f3:V2.heap.size≠w.heap.size+1:=by have:=aSq.o.lt;omega
  have f4:V2.heap.size≠w.heap.size+1+1:=by have:=aSm.o.lt;omega
  (go_upto_region 6 with fail);generalize V2.alloc (aN false Ag ng cg)=V3 at *;generalize V2.heap.size=g5 at *;have HGM:Hid (ng=dA g):=lH (by rw[SZ.o.en,Int.natAbs_natCast]);obtain⟨p0,p1,pl⟩:=HP5.o.b2
  go_cut [40] (fun v wd=>wd=V3/\v=.bool (decide (g=1)))
  case first=>
   by_cases FV:ng=1
   ·subst FV
    have aMw:g<4294967296:=by
     have:=nP g;rw[<-HGM.o] at this;exact this
    obtain⟨bb,bo,LT,yZ⟩:=SZ.o.rd.form (by omega);subst LT;have IJ:=SZ.o.rd.at_ (i:=0) (by omega);rw[Int.natAbs_natCast,nS (by omega),Nat.mod_eq_of_lt aMw,Nat.add_zero] at IJ;have hc1:V3.cell? ⟨bb,bo,none⟩=some (.int .u32 (g:Int)):=IJ;clear IJ;have hkb:((g:Int) == 1)=decide (g=1):=by
     by_cases h:g=1
     ·subst h;rfl
     ·simp[h];omega
    (go_wp2_with fail);go_meet
    case rel=>exact⟨rfl,rfl⟩
   ·have hmb:((ng:Int) == 1)=false:=by simp;omega
    have hkb:decide (g=1)=false:=decide_eq_false fun e=>FV (by rw[HGM.o,e];exact sP (by decide) (by decide));clear FV
    (go_wp2_with fail);go_meet
    case rel=>exact⟨rfl,by rw[hkb]⟩
  obtain⟨JM,rfl⟩:=hcut;subst JM;clear p0 p1 pl;generalize wc=V at *;by_cases RC:g=1
  ·subst RC
   have TA:cQ V V.heap.size q b1 A n c false B m d:=by
    obtain⟨e1,e2⟩:=CQ (n:=y) (d:=k) (by omega) HGG.o;rw[HQ.o];exact⟨by rw[e1];exact HY3.o,by rw[e2];exact SX.o⟩
   have HRT:=lH TA;clear TA;obtain⟨p0,p1,pl⟩:=SU.o.b2;obtain⟨q0,q1,ql⟩:=aSp.o.b2;obtain⟨z0,z1,z2,z3,zf,zl⟩:=aB3.o.e4;(go_wp2_with fail);generalize fG:(((V.setCell ⟨_,0,none⟩ _).setCell ⟨_,1,none⟩ _).setCell ⟨_,2,none⟩ _).setCell ⟨_,3,none⟩ _=W9;have iZ:=lH (nF (e:=.returned (.agg #[.bool b1,.slice A n c,.bool false,.slice B m d])) fV.o mO aB3.o (by simp) (by simp) (by simp) (by simp) HRT.o rfl);rw[fG] at iZ;have fH:Hid (aD W9 _ 115 #[.bool b1,.slice A n c,.bool false,.slice B m d]):=lH (by rw[<-fG];exact fU aB3.o);clear fG z0 z1 z2 z3 zf zl;obtain⟨q0,q1,q2,q3⟩:=fH.o.a4;exact bodyPost_ret (v:=.agg #[.bool b1,.slice A n c,.bool false,.slice B m d]) (by simp[results,Tryz.results114,go_sem,q0,q1,q2,q3]) rfl iZ.o
  ·have FW:decide (g=1)=false:=decide_eq_false RC
   rw[FW];clear FW RC;obtain⟨p0,p1,pf,pl⟩:=SU.o.e2;(go_upto_region 10 with fail);clear p0 p1 pf pl;generalize E4:V.setCell ⟨w.heap.size,0,none⟩ (.bool false)=V4;have aSs:Hid (aD V4 w.heap.size 113 #[.bool false,.slice A n c]):=lH (by rw[<-E4];exact SU.o.set_at (i:=0) (.bool false) (by simp));have aX9:Hid (aD V4 (w.heap.size+1) 113 #[.bool false,.slice B m d]):=lH (by rw[<-E4];exact aSp.o.far e10 _);have aX6:Hid (aD V4 (w.heap.size+1+1) 115 #[.bool false,.slice none 0 0,.bool false,.slice none 0 0]):=lH (by rw[<-E4];exact aB3.o.far e20 _);have aSl:Hid (aD V4 g5 113 #[.bool false,.slice Ag ng cg]):=lH (by rw[<-E4];exact HP5.o.far f2 _);have bP:Hid (Below w.heap.size w V4):=lH (by rw[<-E4];exact fV.o.setCell lR _);have HY4:Hid (bW V4 V4.heap.size (y.natAbs:Int) false A n c):=lH (by rw[<-E4];exact U1 (HY3.o.keep (SU.o.cell 0) (by simp) _));have HK4:Hid (bW V4 V4.heap.size (k:Int) false B m d):=lH (by rw[<-E4];exact SX.o.keep (SU.o.cell 0) (by simp) _);have HG4:Hid (bW V4 V4.heap.size (g:Int) false Ag ng cg):=lH (by rw[<-E4];exact SZ.o.keep (SU.o.cell 0) (by simp) _);have HYB:Hid (b1=decide (y<0)):=lH HY3.o.eb;clear E4;have hng:ng<=35184372088832:=by rw[HGM.o];refine b_ (kH (n:=k) (by rw[<-HGG.o];exact Nat.gcd_le_right _ kO)) ?_;rw[<-HKM.o];exact hm
   obtain⟨p0,p1,pl⟩:=aSs.o.b2;obtain⟨q0,q1,ql⟩:=aSl.o.b2;(go_wp2_with fail);refine(aFD y.natAbs g false A n c false Ag ng cg V4 HY4.o HG4.o hg0 hn hng).mono ?_;clear p0 p1 pl q0 q1 ql;rintro e V5 ⟨eJ,bq,Aq,nq,cq,br,Ar,nr,cr,rfl,hq5,xG⟩;clear xG;have hbq:bq=false:=by rw[hq5.eb];exact decide_eq_false (Int.not_lt.2 (Int.natCast_nonneg _))
   subst hbq;have d_:=cJ bP eJ;obtain⟨ST,aX8,aX5,aX1,HK5⟩:=iS (aSs.o.bl eJ) (aX9.o.bl eJ) (aX6.o.bl eJ) (aSl.o.bl eJ) (HK4.o.up eJ);have HG5:=lH (HG4.o.up eJ);have HQ5:=lH hq5;clear eJ hq5;obtain⟨p0,p1,pf,pl⟩:=ST.o.e2;(go_upto_region 11 with fail);clear p0 p1 pf pl;generalize rP:(V5.setCell ⟨w.heap.size,0,none⟩ (.bool false)).setCell ⟨w.heap.size,1,none⟩ (.slice Aq nq cq)=V6;have aYa:Hid (aD V6 w.heap.size 113 #[.bool false,.slice Aq nq cq]):=lH (by rw[<-rP];exact bV ST.o);have aSo:Hid (aD V6 (w.heap.size+1) 113 #[.bool false,.slice B m d]):=lH (by rw[<-rP];exact(aX8.o.far e10 _).far e10 _);have aX4:Hid (aD V6 (w.heap.size+1+1) 115 #[.bool false,.slice none 0 0,.bool false,.slice none 0 0]):=lH (by rw[<-rP];exact(aX5.o.far e20 _).far e20 _);have aX0:Hid (aD V6 g5 113 #[.bool false,.slice Ag ng cg]):=lH (by rw[<-rP];exact(aX1.o.far f2 _).far f2 _);have gQ:Hid (Below w.heap.size w V6):=lH (by rw[<-rP];exact cO d_.o lR);have HQ6:Hid (bW V6 V6.heap.size ((y.natAbs / g:Nat):Int) false Aq nq cq):=lH (by rw[<-rP];exact(HQ5.o.keep (ST.o.cell 0) (by simp) _).keep ((ST.o.set_ 0 (.bool false)).cell 1) (by simp) _);have W8:Hid (bW V6 V6.heap.size (k:Int) false B m d):=lH (by rw[<-rP];exact(HK5.o.keep (ST.o.cell 0) (by simp) _).keep ((ST.o.set_ 0 (.bool false)).cell 1) (by simp) _);have TH:Hid (bW V6 V6.heap.size (g:Int) false Ag ng cg):=lH (by rw[<-rP];exact(HG5.o.keep (ST.o.cell 0) (by simp) _).keep ((ST.o.set_ 0 (.bool false)).cell 1) (by simp) _);clear rP;obtain⟨p0,p1,pl⟩:=aSo.o.b2;obtain⟨q0,q1,ql⟩:=aX0.o.b2;(go_wp2_with fail);refine(aFD k g false B m d false Ag ng cg V6 W8.o TH.o hg0 hm hng).mono ?_;clear p0 p1 pl q0 q1 ql;rintro e V7 ⟨iA,bk,Ak,nk,ck,br,Ar,nr,cr,rfl,hk7,hr7⟩;clear hr7;have AT:bk=false:=by rw[hk7.eb];exact decide_eq_false (Int.not_lt.2 (Int.natCast_nonneg _))
   subst AT;have lG:=cJ gQ iA;obtain⟨aX_,aB4,aX3,HQ7,HK7⟩:=iS (aYa.o.bl iA) (aSo.o.bl iA) (aX4.o.bl iA) (HQ6.o.up iA) hk7;clear iA hk7;obtain⟨p0,p1,pf,pl⟩:=aB4.o.e2;(go_upto_region 12 with fail);clear p0 p1 pf pl;generalize S9:(V7.setCell ⟨w.heap.size+1,0,none⟩ (.bool false)).setCell ⟨w.heap.size+1,1,none⟩ (.slice Ak nk ck)=V8;have OK:Hid (aD V8 w.heap.size 113 #[.bool false,.slice Aq nq cq]):=lH (by rw[<-S9];exact(aX_.o.far e01 _).far e01 _);have aSn:Hid (aD V8 (w.heap.size+1) 113 #[.bool false,.slice Ak nk ck]):=lH (by rw[<-S9];exact bV aB4.o);have WY:Hid (aD V8 (w.heap.size+1+1) 115 #[.bool false,.slice none 0 0,.bool false,.slice none 0 0]):=lH (by rw[<-S9];exact(aX3.o.far e21 _).far e21 _);have dS:Hid (Below w.heap.size w V8):=lH (by rw[<-S9];exact cO lG.o (Nat.le_succ _));have HQ8:Hid (bW V8 V8.heap.size ((y.natAbs / g:Nat):Int) false Aq nq cq):=lH (by rw[<-S9];exact(HQ7.o.keep (aB4.o.cell 0) (by simp) _).keep ((aB4.o.set_ 0 (.bool false)).cell 1) (by simp) _);have HK8:Hid (bW V8 V8.heap.size ((k / g:Nat):Int) false Ak nk ck):=lH (by rw[<-S9];exact(HK7.o.keep (aB4.o.cell 0) (by simp) _).keep ((aB4.o.set_ 0 (.bool false)).cell 1) (by simp) _);clear S9;have HNQ:Hid (b1=true->0<nq):=lH fun hb=>by
    rw[HQ8.o.en,Int.natAbs_natCast];have wK:y<0:=by have:=HYB.o;rw[hb] at this;simpa using this.symm
    have hdv:g∣y.natAbs:=by rw[<-HGG.o];exact Nat.gcd_dvd_left _ _
    have:0<y.natAbs / g:=Nat.div_pos (Nat.le_of_dvd (by omega) hdv) hg0;rw[jX (by omega)];omega
   have TA:∀W,bW W W.heap.size ((y.natAbs / g:Nat):Int) false Aq nq cq->bW W W.heap.size ((k / g:Nat):Int) false Ak nk ck->cQ W W.heap.size q b1 Aq nq cq false Ak nk ck:=fun W g1 g2=>by
    obtain⟨e1,e2⟩:=sE y (d:=k) (by omega);obtain⟨_,e3⟩:=nH y (d:=k) (by omega);rw[HGG.o] at e1 e3;rw[HQ.o];refine⟨⟨?_,?_,?_,g1.nc,g1.cm⟩,by rw[e3];exact g2⟩
    ·rw[HYB.o];exact decide_eq_decide.2 e2
    ·rw[e1,g1.en,Int.natAbs_natCast]
    ·rw[e1];have:=g1.rd;rwa[Int.natAbs_natCast] at this
   have HRT:=lH TA;clear TA;obtain⟨p0,p1,pf,pl⟩:=OK.o.e2;cases b1 with
   | true=>
    have hnq:0<nq:=HNQ.o rfl;(go_upto_region 13 with fail);clear p0 p1 pf pl;generalize ED:V8.setCell ⟨w.heap.size,0,none⟩ (.bool true)=V9;have aGz:Hid (aD V9 w.heap.size 113 #[.bool true,.slice Aq nq cq]):=lH (by rw[<-ED];exact OK.o.set_at (i:=0) (.bool true) (by simp));have WZ:Hid (aD V9 (w.heap.size+1) 113 #[.bool false,.slice Ak nk ck]):=lH (by rw[<-ED];exact aSn.o.far e10 _);have OJ:Hid (aD V9 (w.heap.size+1+1) 115 #[.bool false,.slice none 0 0,.bool false,.slice none 0 0]):=lH (by rw[<-ED];exact WY.o.far e20 _);have fH:Hid (Below w.heap.size w V9):=lH (by rw[<-ED];exact dS.o.setCell lR _);have aNC:Hid (cQ V9 V9.heap.size q true Aq nq cq false Ak nk ck):=lH (by rw[<-ED];exact HRT.o _ (HQ8.o.keep (OK.o.cell 0) (by simp) _) (HK8.o.keep (OK.o.cell 0) (by simp) _));clear ED;obtain⟨p0,p1,pl⟩:=aGz.o.b2;have q0:=WZ.o.cell 0;have q1:=WZ.o.cell 1;have ql:=WZ.o.lt;obtain⟨z0,z1,z2,z3,zf,zl⟩:=OJ.o.e4;(go_wp2_with fail);generalize fG:(((V9.setCell ⟨_,0,none⟩ _).setCell ⟨_,1,none⟩ _).setCell ⟨_,2,none⟩ _).setCell ⟨_,3,none⟩ _=W9;have iZ:=lH (nF (e:=.returned (.agg #[.bool true,.slice Aq nq cq,.bool false,.slice Ak nk ck])) fH.o mO OJ.o (by simp) (by simp) (by simp) (by simp) aNC.o rfl);rw[fG] at iZ;have fH:Hid (aD W9 _ 115 #[.bool true,.slice Aq nq cq,.bool false,.slice Ak nk ck]):=lH (by rw[<-fG];exact fU OJ.o);clear fG z0 z1 z2 z3 zf zl;obtain⟨q0,q1,q2,q3⟩:=fH.o.a4;exact bodyPost_ret (v:=.agg #[.bool true,.slice Aq nq cq,.bool false,.slice Ak nk ck]) (by simp[results,Tryz.results114,go_sem,q0,q1,q2,q3]) rfl iZ.o
   | false=>
    (go_upto_region 13 with fail);clear p0 p1 pf pl;generalize ED:V8.setCell ⟨w.heap.size,0,none⟩ (.bool false)=V9;have aGz:Hid (aD V9 w.heap.size 113 #[.bool false,.slice Aq nq cq]):=lH (by rw[<-ED];exact OK.o.set_at (i:=0) (.bool false) (by simp));have WZ:Hid (aD V9 (w.heap.size+1) 113 #[.bool false,.slice Ak nk ck]):=lH (by rw[<-ED];exact aSn.o.far e10 _);have OJ:Hid (aD V9 (w.heap.size+1+1) 115 #[.bool false,.slice none 0 0,.bool false,.slice none 0 0]):=lH (by rw[<-ED];exact WY.o.far e20 _);have fH:Hid (Below w.heap.size w V9):=lH (by rw[<-ED];exact dS.o.setCell lR _);have aNC:Hid (cQ V9 V9.heap.size q false Aq nq cq false Ak nk ck):=lH (by rw[<-ED];exact HRT.o _ (HQ8.o.keep (OK.o.cell 0) (by simp) _) (HK8.o.keep (OK.o.cell 0) (by simp) _));clear ED;obtain⟨p0,p1,pl⟩:=aGz.o.b2;have q0:=WZ.o.cell 0;have q1:=WZ.o.cell 1;have ql:=WZ.o.lt;obtain⟨z0,z1,z2,z3,zf,zl⟩:=OJ.o.e4;(go_wp2_with fail);generalize fG:(((V9.setCell ⟨_,0,none⟩ _).setCell ⟨_,1,none⟩ _).setCell ⟨_,2,none⟩ _).setCell ⟨_,3,none⟩ _=W9;have iZ:=lH (nF (e:=.returned (.agg #[.bool false,.slice Aq nq cq,.bool false,.slice Ak nk ck])) fH.o mO OJ.o (by simp) (by simp) (by simp) (by simp) aNC.o rfl);rw[fG] at iZ;have fH:Hid (aD W9 _ 115 #[.bool false,.slice Aq nq cq,.bool false,.slice Ak nk ck]):=lH (by rw[<-fG];exact fU OJ.o);clear fG z0 z1 z2 z3 zf zl;obtain⟨q0,q1,q2,q3⟩:=fH.o.a4;exact bodyPost_ret (v:=.agg #[.bool false,.slice Aq nq cq,.bool false,.slice Ak nk ck]) (by simp[results,Tryz.results114,go_sem,q0,q1,q2,q3]) rfl iZ.o
theorem EN(p q:Rat):(p.den:Int)*(q.den:Int)≠0:=by
 have h1:=p.den_pos;have h2:=q.den_pos;have:0<p.den*q.den:=Nat.mul_pos h1 h2;rw[<-Int.natCast_mul];omega
theorem WM(a b:Rat):Rat.divInt (a.num*(b.den:Int)+b.num*(a.den:Int)) ((a.den:Int)*(b.den:Int))=a+b:=by
 rw[<-Int.natCast_mul];exact MH a b
theorem UV(a b:Rat):Rat.divInt (a.num*b.num) ((a.den:Int)*(b.den:Int))=a*b:=by
 rw[<-Int.natCast_mul];exact LC a b
theorem aDl(p q:Rat)(b1:Bool)(A:OA)(n c:Nat)(b2:Bool)(A2:OA)(n2 c2:Nat)(b3:Bool)(B:OA)(m d:Nat)(b4:Bool)(B2:OA)(m2 d2:Nat)(w:Wo)(h1:cQ w w.heap.size p b1 A n c b2 A2 n2 c2)(h2:cQ w w.heap.size q b3 B m d b4 B2 m2 d2)(hs:bE p+bE q+1<=35184372088832):Calls Tryz.prog 70 #[.agg #[.bool b1,.slice A n c,.bool b2,.slice A2 n2 c2],.agg #[.bool b3,.slice B m d,.bool b4,.slice B2 m2 d2]] w (RtP (p*q) w):=by
 have l1:=h1.n_le;have l2:=h1.m_le;have l3:=h2.n_le;have l4:=h2.m_le;have eD:Hid (Below w.heap.size w (((w.alloc (aY b1 A n c b2 A2 n2 c2)).alloc (aY b3 B m d b4 B2 m2 d2)).alloc dR)):=lH (((bA).alloc (by simp) _).alloc (by simp;omega) _);have fB:Hid (aD (((w.alloc (aY b1 A n c b2 A2 n2 c2)).alloc (aY b3 B m d b4 B2 m2 d2)).alloc dR) w.heap.size 115 #[.bool b1,.slice A n c,.bool b2,.slice A2 n2 c2]):=lH (((aD.new w _ _).alloc _).alloc _);have gG:Hid (aD (((w.alloc (aY b1 A n c b2 A2 n2 c2)).alloc (aY b3 B m d b4 B2 m2 d2)).alloc dR) (w.heap.size+1) 115 #[.bool b3,.slice B m d,.bool b4,.slice B2 m2 d2]):=lH ((aD.new_ (by simp)).alloc _);have HR:Hid (aD (((w.alloc (aY b1 A n c b2 A2 n2 c2)).alloc (aY b3 B m d b4 B2 m2 d2)).alloc dR) (w.heap.size+1+1) 115 #[.bool false,.slice none 0 0,.bool false,.slice none 0 0]):=lH (aD.new_ (by simp));have mO:w.heap.size<=w.heap.size+1+1:=by omega
 have H1:=lH (h1.up eD.o);have H2:=lH (h2.up eD.o);clear h1 h2;go_enter Tryz.func70,Tryz.ntmps70
 go_upto_region 1 with fail
 generalize (((w.alloc (aY b1 A n c b2 A2 n2 c2)).alloc (aY b3 B m d b4 B2 m2 d2)).alloc dR)=W at *;obtain⟨p0,p1,p2,p3,pl⟩:=fB.o.b4;obtain⟨q0,q1,q2,q3,ql⟩:=gG.o.b4;have bP:=lH (aI (Below.refl W.heap.size W));refine bT (S:=fun w'=>Below W.heap.size W w') 11 _ (by kernel_rfl) (by kernel_rfl) rfl bP.o (fun hHeld=>?_);simp only[m_,List.take_zero];refine cR [0,1,2,3,5,6,7,8] ?_;refine bI 4 (fun K hK=>?_);go_simp;refine(i_ (p.num) (q.num) b1 A n c b3 B m d _ (H1.o.up bP.o).num (H2.o.up bP.o).num (by omega)).mono ?_;rintro e w5 ⟨eJ,f5,C5,i5,j5,rfl,h5⟩;have d_:=cJ bP eJ;have H5:=lH h5;have s5:i5<=m+n:=by rw[h5.en,((H1.o.up bP.o).num).en,((H2.o.up bP.o).num).en,Nat.add_comm];exact eU _ _
 clear eJ h5;go_simp;refine iB hK d_.o (fun hHeld=>?_);clear hK K;refine bI 9 (fun K hK=>?_);go_simp;refine(i_ ((p.den:Int)) ((q.den:Int)) b2 A2 n2 c2 b4 B2 m2 d2 _ (H1.o.up d_.o).den (H2.o.up d_.o).den (by omega)).mono ?_;rintro e w6 ⟨gA,f6,C6,i6,j6,rfl,h6⟩;have gQ:=cJ d_ gA;have H6:=lH h6;have s6:i6<=m2+n2:=by rw[h6.en,((H1.o.up d_.o).den).en,((H2.o.up d_.o).den).en,Nat.add_comm];exact eU _ _
 have H5_6:=lH (H5.o.up gA);clear gA h6;go_simp;refine iB hK gQ.o (fun hHeld=>?_);clear hK K;refine bI 10 (fun K hK=>?_);go_simp;refine(v_ (p.num*q.num) ((p.den:Int)*(q.den:Int)) f5 C5 i5 j5 f6 C6 i6 j6 _ H5_6.o H6.o (EN p q) (by omega) (by omega)).mono ?_;rw[UV];rintro e w7 ⟨iA,f7,C7,i7,j7,f7d,C7d,i7d,j7d,rfl,h7⟩;have lG:=cJ gQ iA;have H7:=lH h7;clear iA h7;go_simp;refine iB hK lG.o (fun hHeld=>?_);clear hK K;refine eP ?_;have o3:=lH (eD.o.tm lG.o);have lF:=lH (HR.o.bl lG.o);clear p0 p1 p2 p3 q0 q1 q2 q3 pl ql;obtain⟨z0,z1,z2,z3,zf,zl⟩:=lF.o.e4
 go_wp2_with fail
 generalize fG:(((w7.setCell ⟨_,0,none⟩ _).setCell ⟨_,1,none⟩ _).setCell ⟨_,2,none⟩ _).setCell ⟨_,3,none⟩ _=W9;have iZ:=lH (nF (e:=.returned (.agg #[.bool f7,.slice C7 i7 j7,.bool f7d,.slice C7d i7d j7d])) o3.o mO lF.o (by simp) (by simp) (by simp) (by simp) H7.o rfl);rw[fG] at iZ;have fH:Hid (aD W9 _ 115 #[.bool f7,.slice C7 i7 j7,.bool f7d,.slice C7d i7d j7d]):=lH (by rw[<-fG];exact fU lF.o);clear fG z0 z1 z2 z3 zf zl;obtain⟨q0,q1,q2,q3⟩:=fH.o.a4;exact bodyPost_ret (v:=.agg #[.bool f7,.slice C7 i7 j7,.bool f7d,.slice C7d i7d j7d]) (by simp[results,Tryz.results70,go_sem,q0,q1,q2,q3]) rfl iZ.o
theorem aDt(p q:Rat)(b1:Bool)(A:OA)(n c:Nat)(b2:Bool)(A2:OA)(n2 c2:Nat)(b3:Bool)(B:OA)(m d:Nat)(b4:Bool)(B2:OA)(m2 d2:Nat)(w:Wo)(h1:cQ w w.heap.size p b1 A n c b2 A2 n2 c2)(h2:cQ w w.heap.size q b3 B m d b4 B2 m2 d2)(hq:q≠0)(hs:bE p+bE q+1<=35184372088832):Calls Tryz.prog 120 #[.agg #[.bool b1,.slice A n c,.bool b2,.slice A2 n2 c2],.agg #[.bool b3,.slice B m d,.bool b4,.slice B2 m2 d2]] w (RtP (p / q) w):=by
 have l1:=h1.n_le;have l2:=h1.m_le;have l3:=h2.n_le;have l4:=h2.m_le;have eD:Hid (Below w.heap.size w (((w.alloc (aY b1 A n c b2 A2 n2 c2)).alloc (aY b3 B m d b4 B2 m2 d2)).alloc dR)):=lH (((bA).alloc (by simp) _).alloc (by simp;omega) _);have fB:Hid (aD (((w.alloc (aY b1 A n c b2 A2 n2 c2)).alloc (aY b3 B m d b4 B2 m2 d2)).alloc dR) w.heap.size 115 #[.bool b1,.slice A n c,.bool b2,.slice A2 n2 c2]):=lH (((aD.new w _ _).alloc _).alloc _);have gG:Hid (aD (((w.alloc (aY b1 A n c b2 A2 n2 c2)).alloc (aY b3 B m d b4 B2 m2 d2)).alloc dR) (w.heap.size+1) 115 #[.bool b3,.slice B m d,.bool b4,.slice B2 m2 d2]):=lH ((aD.new_ (by simp)).alloc _);have HR:Hid (aD (((w.alloc (aY b1 A n c b2 A2 n2 c2)).alloc (aY b3 B m d b4 B2 m2 d2)).alloc dR) (w.heap.size+1+1) 115 #[.bool false,.slice none 0 0,.bool false,.slice none 0 0]):=lH (aD.new_ (by simp));have mO:w.heap.size<=w.heap.size+1+1:=by omega
 have H1:=lH (h1.up eD.o);have H2:=lH (h2.up eD.o);clear h1 h2;go_enter Tryz.func120,Tryz.ntmps120
 go_upto_region 1 with fail
 generalize (((w.alloc (aY b1 A n c b2 A2 n2 c2)).alloc (aY b3 B m d b4 B2 m2 d2)).alloc dR)=W at *;obtain⟨p0,p1,p2,p3,pl⟩:=fB.o.b4;obtain⟨q0,q1,q2,q3,ql⟩:=gG.o.b4;have bP:=lH (aI (Below.refl W.heap.size W));refine bT (S:=fun w'=>Below W.heap.size W w') 11 _ (by kernel_rfl) (by kernel_rfl) rfl bP.o (fun hHeld=>?_);simp only[m_,List.take_zero];refine cR [0,1,2,3,5,6,7,8] ?_;refine bI 4 (fun K hK=>?_);go_simp;refine(i_ (p.num) ((q.den:Int)) b1 A n c b4 B2 m2 d2 _ (H1.o.up bP.o).num (H2.o.up bP.o).den (by omega)).mono ?_;rintro e w5 ⟨eJ,f5,C5,i5,j5,rfl,h5⟩;have d_:=cJ bP eJ;have H5:=lH h5;have s5:i5<=m2+n:=by rw[h5.en,((H1.o.up bP.o).num).en,((H2.o.up bP.o).den).en,Nat.add_comm];exact eU _ _
 clear eJ h5;go_simp;refine iB hK d_.o (fun hHeld=>?_);clear hK K;refine bI 9 (fun K hK=>?_);go_simp;refine(i_ ((p.den:Int)) (q.num) b2 A2 n2 c2 b3 B m d _ (H1.o.up d_.o).den (H2.o.up d_.o).num (by omega)).mono ?_;rintro e w6 ⟨gA,f6,C6,i6,j6,rfl,h6⟩;have gQ:=cJ d_ gA;have H6:=lH h6;have s6:i6<=m+n2:=by rw[h6.en,((H1.o.up d_.o).den).en,((H2.o.up d_.o).num).en,Nat.add_comm];exact eU _ _
 have H5_6:=lH (H5.o.up gA);clear gA h6;go_simp;refine iB hK gQ.o (fun hHeld=>?_);clear hK K;refine bI 10 (fun K hK=>?_);go_simp;refine(v_ (p.num*(q.den:Int)) ((p.den:Int)*q.num) f5 C5 i5 j5 f6 C6 i6 j6 _ H5_6.o H6.o (Int.mul_ne_zero (by have:=p.den_pos;omega) fun h=>hq (Rat.num_eq_zero.1 h)) (by omega) (by omega)).mono ?_;rw[L0];rintro e w7 ⟨iA,f7,C7,i7,j7,f7d,C7d,i7d,j7d,rfl,h7⟩;have lG:=cJ gQ iA;have H7:=lH h7;clear iA h7;go_simp;refine iB hK lG.o (fun hHeld=>?_);clear hK K;refine eP ?_;have o3:=lH (eD.o.tm lG.o);have lF:=lH (HR.o.bl lG.o);clear p0 p1 p2 p3 q0 q1 q2 q3 pl ql;obtain⟨z0,z1,z2,z3,zf,zl⟩:=lF.o.e4
 go_wp2_with fail
 generalize fG:(((w7.setCell ⟨_,0,none⟩ _).setCell ⟨_,1,none⟩ _).setCell ⟨_,2,none⟩ _).setCell ⟨_,3,none⟩ _=W9;have iZ:=lH (nF (e:=.returned (.agg #[.bool f7,.slice C7 i7 j7,.bool f7d,.slice C7d i7d j7d])) o3.o mO lF.o (by simp) (by simp) (by simp) (by simp) H7.o rfl);rw[fG] at iZ;have fH:Hid (aD W9 _ 115 #[.bool f7,.slice C7 i7 j7,.bool f7d,.slice C7d i7d j7d]):=lH (by rw[<-fG];exact fU lF.o);clear fG z0 z1 z2 z3 zf zl;obtain⟨q0,q1,q2,q3⟩:=fH.o.a4;exact bodyPost_ret (v:=.agg #[.bool f7,.slice C7 i7 j7,.bool f7d,.slice C7d i7d j7d]) (by simp[results,Tryz.results120,go_sem,q0,q1,q2,q3]) rfl iZ.o
theorem PZ(p q:Rat)(b1:Bool)(A:OA)(n c:Nat)(b2:Bool)(A2:OA)(n2 c2:Nat)(b3:Bool)(B:OA)(m d:Nat)(b4:Bool)(B2:OA)(m2 d2:Nat)(w:Wo)(h1:cQ w w.heap.size p b1 A n c b2 A2 n2 c2)(h2:cQ w w.heap.size q b3 B m d b4 B2 m2 d2)(hs:bE p+bE q+1<=35184372088832):Calls Tryz.prog 69 #[.agg #[.bool b1,.slice A n c,.bool b2,.slice A2 n2 c2],.agg #[.bool b3,.slice B m d,.bool b4,.slice B2 m2 d2]] w (RtP (p+q) w):=by
 have l1:=h1.n_le;have l2:=h1.m_le;have l3:=h2.n_le;have l4:=h2.m_le;have eD:Hid (Below w.heap.size w (((w.alloc (aY b1 A n c b2 A2 n2 c2)).alloc (aY b3 B m d b4 B2 m2 d2)).alloc dR)):=lH (((bA).alloc (by simp) _).alloc (by simp;omega) _);have fB:Hid (aD (((w.alloc (aY b1 A n c b2 A2 n2 c2)).alloc (aY b3 B m d b4 B2 m2 d2)).alloc dR) w.heap.size 115 #[.bool b1,.slice A n c,.bool b2,.slice A2 n2 c2]):=lH (((aD.new w _ _).alloc _).alloc _);have gG:Hid (aD (((w.alloc (aY b1 A n c b2 A2 n2 c2)).alloc (aY b3 B m d b4 B2 m2 d2)).alloc dR) (w.heap.size+1) 115 #[.bool b3,.slice B m d,.bool b4,.slice B2 m2 d2]):=lH ((aD.new_ (by simp)).alloc _);have HR:Hid (aD (((w.alloc (aY b1 A n c b2 A2 n2 c2)).alloc (aY b3 B m d b4 B2 m2 d2)).alloc dR) (w.heap.size+1+1) 115 #[.bool false,.slice none 0 0,.bool false,.slice none 0 0]):=lH (aD.new_ (by simp));have mO:w.heap.size<=w.heap.size+1+1:=by omega
 have H1:=lH (h1.up eD.o);have H2:=lH (h2.up eD.o);clear h1 h2;go_enter Tryz.func69,Tryz.ntmps69
 go_upto_region 1 with fail
 generalize (((w.alloc (aY b1 A n c b2 A2 n2 c2)).alloc (aY b3 B m d b4 B2 m2 d2)).alloc dR)=W at *;obtain⟨p0,p1,p2,p3,pl⟩:=fB.o.b4;obtain⟨q0,q1,q2,q3,ql⟩:=gG.o.b4;have bP:=lH (aI (Below.refl W.heap.size W));refine bT (S:=fun w'=>Below W.heap.size W w') 17 _ (by kernel_rfl) (by kernel_rfl) rfl bP.o (fun hHeld=>?_);simp only[m_,List.take_zero];refine cR [0,1,2,3,5,6,7,8,11,12,13,14] ?_;refine bI 4 (fun K hK=>?_);go_simp;refine(i_ (p.num) ((q.den:Int)) b1 A n c b4 B2 m2 d2 _ (H1.o.up bP.o).num (H2.o.up bP.o).den (by omega)).mono ?_;rintro e w5 ⟨eJ,f5,C5,i5,j5,rfl,h5⟩;have d_:=cJ bP eJ;have H5:=lH h5;have s5:i5<=m2+n:=by rw[h5.en,((H1.o.up bP.o).num).en,((H2.o.up bP.o).den).en,Nat.add_comm];exact eU _ _
 clear eJ h5;go_simp;refine iB hK d_.o (fun hHeld=>?_);clear hK K;refine bI 9 (fun K hK=>?_);go_simp;refine(i_ (q.num) ((p.den:Int)) b3 B m d b2 A2 n2 c2 _ (H2.o.up d_.o).num (H1.o.up d_.o).den (by omega)).mono ?_;rintro e w6 ⟨gA,f6,C6,i6,j6,rfl,h6⟩;have gQ:=cJ d_ gA;have H6:=lH h6;have s6:i6<=n2+m:=by rw[h6.en,((H2.o.up d_.o).num).en,((H1.o.up d_.o).den).en,Nat.add_comm];exact eU _ _
 have H5_6:=lH (H5.o.up gA);clear gA h6;go_simp;refine iB hK gQ.o (fun hHeld=>?_);clear hK K;refine bI 10 (fun K hK=>?_);go_simp;refine(N_ (p.num*(q.den:Int)) (q.num*(p.den:Int)) f5 C5 i5 j5 f6 C6 i6 j6 _ H5_6.o H6.o (by omega) (by omega)).mono ?_;rintro e w7 ⟨iA,f7,C7,i7,j7,rfl,h7⟩;have lG:=cJ gQ iA;have H7:=lH h7;have s7:i7<=max i5 i6+1:=by rw[h7.en,H5_6.o.en,H6.o.en];exact LZ _ _
 clear iA h7;go_simp;refine iB hK lG.o (fun hHeld=>?_);clear hK K;refine bI 15 (fun K hK=>?_);go_simp;refine(i_ ((p.den:Int)) ((q.den:Int)) b2 A2 n2 c2 b4 B2 m2 d2 _ (H1.o.up lG.o).den (H2.o.up lG.o).den (by omega)).mono ?_;rintro e w8 ⟨fJ,f8,C8,i8,j8,rfl,h8⟩;have dS:=cJ lG fJ;have H8:=lH h8;have s8:i8<=m2+n2:=by rw[h8.en,((H1.o.up lG.o).den).en,((H2.o.up lG.o).den).en,Nat.add_comm];exact eU _ _
 have H7_8:=lH (H7.o.up fJ);clear fJ h8;go_simp;refine iB hK dS.o (fun hHeld=>?_);clear hK K;refine bI 16 (fun K hK=>?_);go_simp;refine(v_ (p.num*(q.den:Int)+q.num*(p.den:Int)) ((p.den:Int)*(q.den:Int)) f7 C7 i7 j7 f8 C8 i8 j8 _ H7_8.o H8.o (EN p q) (by omega) (by omega)).mono ?_;rw[WM];rintro e w9 ⟨gD,f9,C9,i9,j9,f9d,C9d,i9d,j9d,rfl,h9⟩;have fH:=cJ dS gD;have H9:=lH h9;clear gD h9;go_simp;refine iB hK fH.o (fun hHeld=>?_);clear hK K;refine eP ?_;have o3:=lH (eD.o.tm fH.o);have lF:=lH (HR.o.bl fH.o);clear p0 p1 p2 p3 q0 q1 q2 q3 pl ql;obtain⟨z0,z1,z2,z3,zf,zl⟩:=lF.o.e4
 go_wp2_with fail
 generalize fG:(((w9.setCell ⟨_,0,none⟩ _).setCell ⟨_,1,none⟩ _).setCell ⟨_,2,none⟩ _).setCell ⟨_,3,none⟩ _=W9;have iZ:=lH (nF (e:=.returned (.agg #[.bool f9,.slice C9 i9 j9,.bool f9d,.slice C9d i9d j9d])) o3.o mO lF.o (by simp) (by simp) (by simp) (by simp) H9.o rfl);rw[fG] at iZ;have fH:Hid (aD W9 _ 115 #[.bool f9,.slice C9 i9 j9,.bool f9d,.slice C9d i9d j9d]):=lH (by rw[<-fG];exact fU lF.o);clear fG z0 z1 z2 z3 zf zl;obtain⟨q0,q1,q2,q3⟩:=fH.o.a4;exact bodyPost_ret (v:=.agg #[.bool f9,.slice C9 i9 j9,.bool f9d,.slice C9d i9d j9d]) (by simp[results,Tryz.results69,go_sem,q0,q1,q2,q3]) rfl iZ.o
theorem aDx(p q:Rat)(b1:Bool)(A:OA)(n c:Nat)(b2:Bool)(A2:OA)(n2 c2:Nat)(b3:Bool)(B:OA)(m d:Nat)(b4:Bool)(B2:OA)(m2 d2:Nat)(w:Wo)(h1:cQ w w.heap.size p b1 A n c b2 A2 n2 c2)(h2:cQ w w.heap.size q b3 B m d b4 B2 m2 d2)(hs:bE p+bE q+1<=35184372088832):Calls Tryz.prog 118 #[.agg #[.bool b1,.slice A n c,.bool b2,.slice A2 n2 c2],.agg #[.bool b3,.slice B m d,.bool b4,.slice B2 m2 d2]] w (fun e w'=>e=.returned (.int .i64 (p.num*(q.den:Int)-q.num*(p.den:Int)).sign)/\Below w.heap.size w w'):=by
 have l1:=h1.n_le;have l2:=h1.m_le;have l3:=h2.n_le;have l4:=h2.m_le;have eD:Hid (Below w.heap.size w ((w.alloc (aY b1 A n c b2 A2 n2 c2)).alloc (aY b3 B m d b4 B2 m2 d2))):=lH ((bA).alloc (by simp) _);have fB:Hid (aD ((w.alloc (aY b1 A n c b2 A2 n2 c2)).alloc (aY b3 B m d b4 B2 m2 d2)) w.heap.size 115 #[.bool b1,.slice A n c,.bool b2,.slice A2 n2 c2]):=lH ((aD.new w _ _).alloc _);have gG:Hid (aD ((w.alloc (aY b1 A n c b2 A2 n2 c2)).alloc (aY b3 B m d b4 B2 m2 d2)) (w.heap.size+1) 115 #[.bool b3,.slice B m d,.bool b4,.slice B2 m2 d2]):=lH (aD.new_ (by simp));have H1:=lH (h1.up eD.o);have H2:=lH (h2.up eD.o);clear h1 h2;go_enter Tryz.func118,Tryz.ntmps118
 go_upto_region 1 with fail
 generalize ((w.alloc (aY b1 A n c b2 A2 n2 c2)).alloc (aY b3 B m d b4 B2 m2 d2))=W at *;obtain⟨p0,p1,p2,p3,pl⟩:=fB.o.b4;obtain⟨q0,q1,q2,q3,ql⟩:=gG.o.b4;have bP:=lH (aI (Below.refl W.heap.size W));refine bT (S:=fun w'=>Below W.heap.size W w') 11 _ (by kernel_rfl) (by kernel_rfl) rfl bP.o (fun hHeld=>?_);simp only[m_,List.take_zero];refine cR [0,1,2,3,5,6,7,8] ?_;refine bI 4 (fun K hK=>?_);go_simp;refine(i_ (p.num) ((q.den:Int)) b1 A n c b4 B2 m2 d2 _ (H1.o.up bP.o).num (H2.o.up bP.o).den (by omega)).mono ?_;rintro e w5 ⟨eJ,f5,C5,i5,j5,rfl,h5⟩;have d_:=cJ bP eJ;have H5:=lH h5;have s5:i5<=m2+n:=by rw[h5.en,((H1.o.up bP.o).num).en,((H2.o.up bP.o).den).en,Nat.add_comm];exact eU _ _
 clear eJ h5;go_simp;refine iB hK d_.o (fun hHeld=>?_);clear hK K;refine bI 9 (fun K hK=>?_);go_simp;refine(i_ (q.num) ((p.den:Int)) b3 B m d b2 A2 n2 c2 _ (H2.o.up d_.o).num (H1.o.up d_.o).den (by omega)).mono ?_;rintro e w6 ⟨gA,f6,C6,i6,j6,rfl,h6⟩;have gQ:=cJ d_ gA;have H6:=lH h6;have s6:i6<=n2+m:=by rw[h6.en,((H2.o.up d_.o).num).en,((H1.o.up d_.o).den).en,Nat.add_comm];exact eU _ _
 have H5_6:=lH (H5.o.up gA);clear gA h6;go_simp;refine iB hK gQ.o (fun hHeld=>?_);clear hK K;refine bI 10 (fun K hK=>?_);go_simp;refine(aJn (p.num*(q.den:Int)) (q.num*(p.den:Int)) f5 C5 i5 j5 f6 C6 i6 j6 _ H5_6.o H6.o (by omega) (by omega)).mono ?_;rintro e w7 ⟨rfl,iA⟩;have lG:=cJ gQ iA;clear iA;go_simp;refine iB hK lG.o (fun hHeld=>?_);clear hK K;refine eP ?_
 go_wp2_with fail
 go_ret;exact⟨rfl,eD.o.tm lG.o⟩
theorem PV(p:Rat)(b1:Bool)(A:OA)(n c:Nat)(b2:Bool)(A2:OA)(n2 c2:Nat)(w:Wo)(h1:cQ w w.heap.size p b1 A n c b2 A2 n2 c2):Calls Tryz.prog 108 #[.agg #[.bool b1,.slice A n c,.bool b2,.slice A2 n2 c2]] w (RtP (-p) w):=by
 have eD:Hid (Below w.heap.size w ((w.alloc (aY b1 A n c b2 A2 n2 c2)).alloc dR)):=lH ((bA).alloc (by simp) _);have fB:Hid (aD ((w.alloc (aY b1 A n c b2 A2 n2 c2)).alloc dR) w.heap.size 115 #[.bool b1,.slice A n c,.bool b2,.slice A2 n2 c2]):=lH ((aD.new w _ _).alloc _);have HR:Hid (aD ((w.alloc (aY b1 A n c b2 A2 n2 c2)).alloc dR) (w.heap.size+1) 115 #[.bool false,.slice none 0 0,.bool false,.slice none 0 0]):=lH (aD.new_ (by simp));have mO:w.heap.size<=w.heap.size+1:=by omega
 have H1:=lH (h1.up eD.o);clear h1;go_enter Tryz.func108,Tryz.ntmps108
 go_upto_region 1 with fail
 generalize ((w.alloc (aY b1 A n c b2 A2 n2 c2)).alloc dR)=W at *;obtain⟨p0,p1,p2,p3,pl⟩:=fB.o.b4;have bP:=lH (aI (Below.refl W.heap.size W));refine bT (S:=fun w'=>Below W.heap.size W w') 6 _ (by kernel_rfl) (by kernel_rfl) rfl bP.o (fun hHeld=>?_);simp only[m_,List.take_zero];refine cR [0,1,3,4] ?_;refine bI 2 (fun K hK=>?_);go_simp;refine(FS p.num b1 A n c _ (H1.o.up bP.o).num).mono ?_;rintro e w5 ⟨eJ,f5,C5,i5,j5,rfl,h5⟩;have d_:=cJ bP eJ;have H5:Hid (cQ w5 w5.heap.size (-p) f5 C5 i5 j5 b2 A2 n2 c2):=lH ⟨h5,(H1.o.up d_.o).den⟩;clear eJ h5;go_simp;refine iB hK d_.o (fun hHeld=>?_);clear hK K;refine cR [5] ?_;refine eP ?_;have o3:=lH (eD.o.tm d_.o);have lF:=lH (HR.o.bl d_.o);clear p0 p1 p2 p3 pl;obtain⟨z0,z1,z2,z3,zf,zl⟩:=lF.o.e4
 go_wp2_with fail
 generalize fG:(((w5.setCell ⟨_,0,none⟩ _).setCell ⟨_,1,none⟩ _).setCell ⟨_,2,none⟩ _).setCell ⟨_,3,none⟩ _=W9;have iZ:=lH (nF (e:=.returned (.agg #[.bool f5,.slice C5 i5 j5,.bool b2,.slice A2 n2 c2])) o3.o mO lF.o (by simp) (by simp) (by simp) (by simp) H5.o rfl);rw[fG] at iZ;have fH:Hid (aD W9 _ 115 #[.bool f5,.slice C5 i5 j5,.bool b2,.slice A2 n2 c2]):=lH (by rw[<-fG];exact fU lF.o);clear fG z0 z1 z2 z3 zf zl;obtain⟨q0,q1,q2,q3⟩:=fH.o.a4;exact bodyPost_ret (v:=.agg #[.bool f5,.slice C5 i5 j5,.bool b2,.slice A2 n2 c2]) (by simp[results,Tryz.results108,go_sem,q0,q1,q2,q3]) rfl iZ.o
theorem aDj(p q:Rat)(b1:Bool)(A:OA)(n c:Nat)(b2:Bool)(A2:OA)(n2 c2:Nat)(b3:Bool)(B:OA)(m d:Nat)(b4:Bool)(B2:OA)(m2 d2:Nat)(w:Wo)(h1:cQ w w.heap.size p b1 A n c b2 A2 n2 c2)(h2:cQ w w.heap.size q b3 B m d b4 B2 m2 d2)(hs:bE p+bE q+1<=35184372088832):Calls Tryz.prog 68 #[.agg #[.bool b1,.slice A n c,.bool b2,.slice A2 n2 c2],.agg #[.bool b3,.slice B m d,.bool b4,.slice B2 m2 d2]] w (RtP (p-q) w):=by
 have l1:=h1.n_le;have l2:=h1.m_le;have l3:=h2.n_le;have l4:=h2.m_le;have eD:Hid (Below w.heap.size w (((w.alloc (aY b1 A n c b2 A2 n2 c2)).alloc (aY b3 B m d b4 B2 m2 d2)).alloc dR)):=lH (((bA).alloc (by simp) _).alloc (by simp;omega) _);have fB:Hid (aD (((w.alloc (aY b1 A n c b2 A2 n2 c2)).alloc (aY b3 B m d b4 B2 m2 d2)).alloc dR) w.heap.size 115 #[.bool b1,.slice A n c,.bool b2,.slice A2 n2 c2]):=lH (((aD.new w _ _).alloc _).alloc _);have gG:Hid (aD (((w.alloc (aY b1 A n c b2 A2 n2 c2)).alloc (aY b3 B m d b4 B2 m2 d2)).alloc dR) (w.heap.size+1) 115 #[.bool b3,.slice B m d,.bool b4,.slice B2 m2 d2]):=lH ((aD.new_ (by simp)).alloc _);have HR:Hid (aD (((w.alloc (aY b1 A n c b2 A2 n2 c2)).alloc (aY b3 B m d b4 B2 m2 d2)).alloc dR) (w.heap.size+1+1) 115 #[.bool false,.slice none 0 0,.bool false,.slice none 0 0]):=lH (aD.new_ (by simp));have mO:w.heap.size<=w.heap.size+1+1:=by omega
 have H1:=lH (h1.up eD.o);have H2:=lH (h2.up eD.o);clear h1 h2;go_enter Tryz.func68,Tryz.ntmps68
 go_upto_region 1 with fail
 generalize (((w.alloc (aY b1 A n c b2 A2 n2 c2)).alloc (aY b3 B m d b4 B2 m2 d2)).alloc dR)=W at *;obtain⟨p0,p1,p2,p3,pl⟩:=fB.o.b4;obtain⟨q0,q1,q2,q3,ql⟩:=gG.o.b4;have bP:=lH (aI (Below.refl W.heap.size W));refine bT (S:=fun w'=>Below W.heap.size W w') 4 _ (by kernel_rfl) (by kernel_rfl) rfl bP.o (fun hHeld=>?_);simp only[m_,List.take_zero];refine cR [0,1] ?_;refine bI 2 (fun K hK=>?_);go_simp;refine(PV q b3 B m d b4 B2 m2 d2 _ (H2.o.up bP.o)).mono ?_;rintro e w5 ⟨eJ,f5,C5,i5,j5,f5d,C5d,i5d,j5d,rfl,h5⟩;have d_:=cJ bP eJ;have H5:=lH h5;clear eJ h5;go_simp;refine iB hK d_.o (fun hHeld=>?_);clear hK K;refine bI 3 (fun K hK=>?_);go_simp;refine(PZ p (-q) b1 A n c b2 A2 n2 c2 f5 C5 i5 j5 f5d C5d i5d j5d _ (H1.o.up d_.o) H5.o (by rw[mH];exact hs)).mono ?_;rw[<-Rat.sub_eq_add_neg];rintro e w7 ⟨iA,f7,C7,i7,j7,f7d,C7d,i7d,j7d,rfl,h7⟩;have lG:=cJ d_ iA;have H7:=lH h7;clear iA h7;go_simp;refine iB hK lG.o (fun hHeld=>?_);clear hK K;refine eP ?_;have o3:=lH (eD.o.tm lG.o);have lF:=lH (HR.o.bl lG.o);clear p0 p1 p2 p3 q0 q1 q2 q3 pl ql;obtain⟨z0,z1,z2,z3,zf,zl⟩:=lF.o.e4
 go_wp2_with fail
 generalize fG:(((w7.setCell ⟨_,0,none⟩ _).setCell ⟨_,1,none⟩ _).setCell ⟨_,2,none⟩ _).setCell ⟨_,3,none⟩ _=W9;have iZ:=lH (nF (e:=.returned (.agg #[.bool f7,.slice C7 i7 j7,.bool f7d,.slice C7d i7d j7d])) o3.o mO lF.o (by simp) (by simp) (by simp) (by simp) H7.o rfl);rw[fG] at iZ;have fH:Hid (aD W9 _ 115 #[.bool f7,.slice C7 i7 j7,.bool f7d,.slice C7d i7d j7d]):=lH (by rw[<-fG];exact fU lF.o);clear fG z0 z1 z2 z3 zf zl;obtain⟨q0,q1,q2,q3⟩:=fH.o.a4;exact bodyPost_ret (v:=.agg #[.bool f7,.slice C7 i7 j7,.bool f7d,.slice C7d i7d j7d]) (by simp[results,Tryz.results68,go_sem,q0,q1,q2,q3]) rfl iZ.o
theorem NC{base e size:Nat}{xs:List Value}(h:w.ownsRow base e size v n xs)(hb:Below w.heap.size w w'):w'.ownsRow base e size v n xs:=by
 refine⟨h.1,?_⟩;rcases h.2 with h1 | ⟨g,cap,cur,h1,h2,h3,h4⟩
 ·exact .inl h1
 ·refine .inr ⟨g,cap,cur,h1,h2,?_,h4⟩
  have hg:g<w.heap.size:=by
   rcases Nat.lt_or_ge g w.heap.size with aR | TC
   ·exact aR
   ·rw[Array.getElem?_eq_none TC] at h3;cases h3
  exact(hb.block g hg).trans h3
theorem aAx{g o:Nat}{row:Option Nat}{ob:Obj}(h:jF w B (some ⟨g,o,none⟩) n l)(hB:B<=w.heap.size)(hg:(w.alloc ob).grownBy w' row)(cG:some g≠row):jF w' w'.heap.size (some ⟨g,o,none⟩) n l:=
 ⟨h.1,fun hn=>by
  obtain⟨b,off,e,aR,hc⟩:=h.2 hn;injection e with e;injection e with e1 e2;subst e1;subst e2;have hs:=hg.size;simp at hs;exact⟨g,o,rfl,by omega,fun j u hu=>hg.cell (Lib.cell?_alloc_some _ (hc j u hu)) cG⟩⟩
theorem aCM:∀L:Nat,1<=L->L<=9->∀W,(Instr.sliceAt 9 (.string ⟨#[48,48,48,48,48,48,48,48,48]⟩) (some (.int .i64 (L:Int))) none none).run Tryz.prog W=.ok (.string ⟨(List.replicate (9-L) 48).toArray⟩) W:=by
 intro L h1 h9 W;rw[run_sliceAt_string W 9 _ _ _ _ Tryz.underlying9,run_slice_string_l W 9 _ Tryz.underlying9 .i64 (L:Int) (by omega) (by show _<=(9:Int);omega)];have:L=1\/L=2\/L=3\/L=4\/L=5\/L=6\/L=7\/L=8\/L=9:=by omega
 rcases this with rfl | rfl | rfl | rfl | rfl | rfl | rfl | rfl | rfl<;>rfl
theorem aNa{T e:TypeId}{b:Nat}{bs:List Value}(h:Lib.IsBuilder T e B b bs w)(hb:Below w.heap.size w w'):Lib.IsBuilder T e B b bs w':=by
 have key:∀p,Lib.BuilderAt T e B b p bs w->Lib.BuilderAt T e B b p bs w':=fun p h=>by
  have aR:=h.lt;obtain⟨h1,v,h2,h3,h4⟩:=h;exact⟨h1,v,(hb.block b aR).trans h2,NC h3 hb,h4⟩
 exact h.elim (fun h=>.inl (key _ h)) fun h=>.inr (key _ h)
theorem jS(l:List UInt8):(⟨l.toArray⟩:ByteArray).size=l.length:=by simp[ByteArray.size]
def ItP(z:Int)(w:Wo)(e:Ending)(w':Wo):Prop:=Below w.heap.size w w'/\∃s,e=.returned (.tuple #[.string s,.bool (decide (xU z.natAbs<=2000))])/\(xU z.natAbs<=2000->s=⟨(jR z).toArray⟩)/\s.size<=3000
def TxI(T:TypeId)(w wr:Wo)(V k:Nat)(v4 v5:Value):Prop:=∃(ps:List Nat)(A:OA)(n c:Nat),v5=.slice A n c/\jF wr wr.heap.size A n (j_ k)/\n<=c/\c<=9223372036854775807/\wr.ownsRow w.heap.size T 1 v4 ps.length (bN ps)/\Below w.heap.size w wr/\V=pv ps+k*1000000000^ps.length/\aGi ps/\(k=0->ps≠[]/\SO ps)/\ps.length<=225
theorem C_(z:Int)(b:Bool)(A:OA)(n c:Nat)(w:Wo)(h:bW w w.heap.size z b A n c)(ht:fL w):Calls Tryz.prog 117 #[.agg #[.bool b,.slice A n c]] w (ItP z w):=by
 have eD:Hid (Below w.heap.size w (w.alloc (aN b A n c))):=lH (bA);obtain⟨fB,H1,HT,HEN,HEB⟩:=iS (aD.new w 113 #[.bool b,.slice A n c]) (h.up eD.o) (ht.up eD.o) h.en h.eb;have hnc:=h.nc;have KD:=h.cm;obtain⟨i0,iW,qY,kF,kE⟩:=info_parts IE;obtain⟨ES,wX,KN,KM⟩:=h_ iW qY kF kE;clear h ht iW qY kF kE;go_enter Tryz.func117,Tryz.ntmps117
 go_upto_region 1 with fail
 generalize w.alloc (aN b A n c)=W at *;obtain⟨p0,p1,pl⟩:=fB.o.b2;by_cases h0:n=0
 ·subst h0
  have hz:z=0:=by
   have h:=HEN.o;refine Classical.byContradiction fun cG=>?_;rw[jX (by omega)] at h;omega
  subst hz;(go_wp2_with fail);go_ret2;have hd:decide (xU (0:Int).natAbs<=2000)=true:=by decide+kernel
  have IF:jR 0=[48]:=by unfold jR;rw[show(0:Int).natAbs=0 from rfl,eV (by decide)];rfl
  exact⟨eD.o,⟨#[48]⟩,by rw[hd];rfl,fun _=>by rw[IF],by decide⟩
 ·have aVg:((n:Int) == 0)=false:=by simp;omega
  by_cases aWD:210<n
  ·have xH:¬xU z.natAbs<=2000:=Nat.not_le.2 (UZ (by rw[<-HEN.o];exact aWD))
   have hnI:(210:Int)<(n:Int):=by omega
   (go_wp2_with fail);go_ret2;exact⟨eD.o,_,by rw[decide_eq_false xH];rfl,fun h=>absurd h xH,by decide⟩
  ·have hnI:(n:Int)<=210:=by omega
   have qY:z.natAbs≠0:=fun e=>h0 (by rw[HEN.o,e];exact iL);clear h0
   (go_wp2_with fail);clear p0 p1 pl aVg hnI
   go_loopg [4,5] z.natAbs (fun k v4 v5 wr=>TxI 216 W wr z.natAbs k v4 v5)
   case atStart=>exact⟨[],A,n,c,rfl,H1.o.rd,hnc,KD,World.ownsRow_nil _ _ _ _,bR,by simp[pv],fun x hx=>(by cases hx),fun e=>absurd e qY,by simp⟩
   case round=>
    obtain⟨ps,A5,n5,c5,rfl,xG,hn5,hc5,ho4,eJ,NQ,DE,aPR,d8⟩:=hrel;obtain⟨HR5,HO4,d_,TF,JB⟩:=iS xG ho4 eJ NQ DE;have HTP:=lH aPR;have HL5:Hid (n5=dA gk):=lH (by rw[<-xG.len];rfl);clear xG ho4 eJ NQ DE aPR;by_cases hk:gk=0
    ·subst hk
     have hn5:n5=0:=by rw[HL5.o,iL]
     subst hn5;have aQH:(0:Nat)=0:=rfl;obtain⟨cG,htp⟩:=HTP.o aQH;have aNw:=lH htp;obtain⟨L,hL⟩:∃L,ps.length=L:=⟨_,rfl⟩;have SW:=lH hL;rw[hL] at HO4 d8;have hL0:0<L:=by rw[<-hL];exact List.length_pos_iff.2 cG
     have HD0:Hid (Dg ps 0=Lib.decDigits z.natAbs):=lH (by rw[aM9 cG,TF.o,Nat.zero_mul,Nat.add_zero]);have hde:Dg ps L=[]:=by rw[<-hL];exact aFN ps
     have HDE:=lH hde;clear hL aQH cG htp;obtain⟨A4,c4,e4,E5,hn4,hc4⟩:=XV HO4.o;subst e4;obtain⟨rY,HXr,HTr,HBr,gQ⟩:=iS E5 (fB.o.bl d_.o) (HT.o.up (d_.o)) (eD.o.tm d_.o) ((Below.refl wr.heap.size wr).alloc lR (.cells #[.pointer none,.slice none 0 0] 233));have oU:Hid (Lib.IsBuilder 233 5 wr.heap.size wr.heap.size (Lib.byteCells (Dg ps L)) (wr.alloc (.cells #[.pointer none,.slice none 0 0] 233))):=lH (.inl ⟨lR,.slice none 0 0,heap_alloc_new wr _,by rw[hde];exact World.ownsRow_nil _ _ _ _,by simp[Value.ownBlock]⟩);clear E5 hn4 hc4 HR5 HO4 TF HL5 HTP hde;have hLI:(1:Int)<=(L:Int):=by omega
     have aWu:(L:Int)<=225:=by omega
     (go_wp2_with fail);clear hLI aWu;generalize wr=Wp at *;have hBP:Wp.heap.size<=Wp.heap.size:=lR
     go_loopw [9,10] (fun v9 v10 wr=>∃k:Nat,k<=L/\v9=.int .i64 ((k:Int)-1)/\Lib.IsBuilder 233 5 Wp.heap.size Wp.heap.size (Lib.byteCells (Dg ps k)) wr/\Below Wp.heap.size Wp wr/\(Dg ps k).length+9*k<=9*L) (fun v9 _ _=>(intOf v9+1).toNat)
     case atStart=>exact⟨L,lR,rfl,oU.o,gQ.o,by rw[HDE.o];simp⟩
     case round=>
      clear oU gQ;obtain⟨k,hkL,rfl,qL,bH,hdl⟩:=hrel;have oU:=lH qL;have dN:=lH bH;have hWs:Wp.heap.size<=wr.heap.size:=bH.size;clear qL bH;by_cases hk:k=0
      ·subst hk
       have e:(((0:Nat):Int)-1)=-1:=rfl;rw[e];clear e;rw[HD0.o] at oU;have cG:Lib.decDigits z.natAbs≠[]:=fun e=>by have:=oG z.natAbs;rw[e] at this;simp at this
       (go_wp2_with fail);refine(Tryz.Builder_String Wp.heap.size Wp.heap.size (Lib.decDigits z.natAbs) wr oU.o cG).mono ?_;rintro e w3 ⟨rfl,dK⟩;have fV:Hid (Below Wp.heap.size Wp w3):=lH (dN.o.trans dK);have ZO:=lH (HXr.o.bl fV.o);have o3:=lH (HBr.o.tm fV.o);obtain⟨sb,JP⟩:∃sb:ByteArray,⟨(Lib.decDigits z.natAbs).toArray⟩=sb:=⟨_,rfl⟩;have SQ:=lH JP;rw[JP];obtain⟨N,hN⟩:∃N,sb.size=N:=⟨_,rfl⟩;have FF:Hid (xU z.natAbs=N):=lH (by rw[<-hN,<-JP,jS];rfl);have aWt:N<=2025:=by
        have:N=(Lib.decDigits z.natAbs).length:=by rw[<-hN,<-JP,jS]
        rw[HD0.o,<-this] at hdl;omega
       have hNb:¬9223372036854775807<1+N:=by omega
       clear dK dN oU JP cG hdl;obtain⟨p0,pl⟩:=ZO.o.b1;have hfd:decide (xU z.natAbs<=2000)=decide ((N:Int)<=2000):=by rw[FF.o];exact decide_eq_decide.2 (by omega)
       have HFD:=lH hfd;clear hfd;have JY:=lH aWt;have aCa:Hid (∀s,s=(⟨(jR z).toArray⟩:ByteArray)->ItP z w (.returned (.tuple #[.string s,.bool (decide ((N:Int)<=2000))])) w3):=lH fun s hs=>⟨o3.o,s,by rw[HFD.o],fun _=>hs,by
        rw[hs,jS];have h1:=JY.o;have h2:=FF.o;unfold xU at h2;unfold jR;rw[g_];split<;>simp<;>omega⟩
       cases b with
       | true=>
        have hz:z<0:=by simpa using HEB.o.symm
        have HTX:Hid ((⟨#[45]⟩:ByteArray)++sb=⟨(jR z).toArray⟩):=lH (by
         rw[<-SQ.o];apply ByteArray.ext;unfold jR;rw[if_pos hz];simp)
        (go_wp2_with fail);go_ret2;exact aCa.o _ HTX.o
       | false=>
        have hz:¬z<0:=by simpa using HEB.o.symm
        have HTX:Hid (sb=⟨(jR z).toArray⟩):=lH (by
         rw[<-SQ.o];unfold jR;rw[if_neg hz,List.nil_append])
        (go_wp2_with fail);go_ret2;exact aCa.o _ HTX.o
      ·obtain⟨j,rfl⟩:∃j,k=j+1:=⟨k-1,by omega⟩
       have e:(((j+1:Nat):Int)-1)=(j:Int):=by omega
       rw[e];clear e hk;have hjL:j<L:=hkL;obtain⟨x,hx⟩:∃x,ps[j]?=some x:=eE (by have:=SW.o;omega);have hx9:=JB.o x (bS hx);have hxd:ps.getD j 0=x:=by rw[dH,hx];rfl
       obtain⟨b4,o4,hA4,gE⟩:=rY.o.form (by omega);subst hA4;have hc:=(rY.o.below dN.o lR).at_ (i:=j) (by omega);rw[hxd] at hc;have hjI:(j:Int)<(L:Int):=by omega
       have a2k:(x:Int) % 18446744073709551616=(x:Int):=by omega
       have HXJ:=lH hx;have HDL:=lH (aM8 hx JB.o);have FE:Hid ((intOf (Value.int .i64 ((j:Int)-1))+1).toNat<(intOf (Value.int .i64 (j:Int))+1).toNat):=lH (by simp[intOf]);clear hxd hx;(go_wp2_with fail);refine(aI_ x (by omega) wr (HTr.o.up (dN.o.mono lR))).mono ?_;rintro e w3 ⟨rfl,dK⟩;have fV:=lH (dN.o.trans (dK.mono hWs));have aOc:=lH (aNa oU.o dK);have hW3:Wp.heap.size<=w3.heap.size:=fV.o.size;obtain⟨ds,hds⟩:∃ds,Lib.decDigits x=ds:=⟨_,rfl⟩;have HDS:=lH hds;rw[hds] at HDL;rw[hds];have aV2:=HDL.o.1;have aV1:=HDL.o.2;clear dK hc dN oU hds;by_cases hjt:j+1=L
       ·have aVC:¬(j:Int)<(L:Int)-1:=by omega
        have HDJ:Hid (Dg ps j=ds):=lH (by rw[<-HDS.o];exact aM6 HXJ.o (by rw[SW.o];exact hjt));have HD1:Hid (Dg ps (j+1)=[]):=lH (by rw[hjt,<-SW.o];exact aFN ps);rw[HD1.o] at aOc;(go_wp2_with fail);refine(B_ Wp.heap.size Wp.heap.size _ ⟨ds.toArray⟩ w3 aOc.o (by rw[jS,Lib.byteCells_length];simp;omega) hW3).mono ?_;rintro e w4 ⟨⟨v4,rfl⟩,aFd,gE⟩;have aOb:Hid (Lib.IsBuilder 233 5 Wp.heap.size Wp.heap.size (Lib.byteCells (Dg ps j)) w4):=lH (.inr (by rw[HDJ.o];exact aFd));have bP:=lH (fV.o.trans gE);have uF:Hid ((Dg ps j).length+9*j<=9*L):=lH (by rw[HDJ.o];omega);clear aFd gE aOc fV;(go_wp2_with fail);go_roundw
        case rel=>exact⟨j,oO hjL,rfl,aOb.o,bP.o,uF.o⟩
        case measure=>exact FE.o
       ·have aVC:(j:Int)<(L:Int)-1:=by omega
        have HDJ:Hid (Dg ps j=Dg ps (j+1)++List.replicate (9-ds.length) 48++ds):=lH (by rw[<-HDS.o];exact aM7 HXJ.o (by rw[SW.o];omega) JB.o aNw.o);have hsl:∀W,(Instr.sliceAt 9 (.string ⟨#[48,48,48,48,48,48,48,48,48]⟩) (some (.int .i64 (ds.length:Int))) none none).run Tryz.prog W=.ok (.string ⟨(List.replicate (9-ds.length) 48).toArray⟩) W:=aCM ds.length aV2 aV1;have hss:(⟨ds.toArray⟩:ByteArray).size=ds.length:=jS ds;(go_wp2_with fail);refine(B_ Wp.heap.size Wp.heap.size _ ⟨Array.replicate (9-ds.length) 48⟩ w3 aOc.o (by rw[Lib.byteCells_length];simp[ByteArray.size];omega) hW3).mono ?_;rintro e w4 ⟨⟨v4,rfl⟩,aFd,gE⟩;have aOb:Hid (Lib.IsBuilder 233 5 Wp.heap.size Wp.heap.size (Lib.byteCells (Dg ps (j+1)++List.replicate (9-ds.length) 48)) w4):=lH (.inr (by
         rw[Lib.byteCells_append];have e:Lib.strCells ⟨Array.replicate (9-ds.length) 48⟩=Lib.byteCells (List.replicate (9-ds.length) 48):=by rw[Lib.strCells_eq];simp
         rw[<-e];exact aFd))
        have bP:=lH (fV.o.trans gE);have hW4:Wp.heap.size<=w4.heap.size:=bP.o.size;clear aFd gE aOc fV hsl hss;(go_wp2_with fail);refine(B_ Wp.heap.size Wp.heap.size _ ⟨ds.toArray⟩ w4 aOb.o (by rw[jS,Lib.byteCells_length,g_,qV];omega) hW4).mono ?_;rintro e w5 ⟨⟨v5,rfl⟩,aQ5,eJ⟩;have aY2:Hid (Lib.IsBuilder 233 5 Wp.heap.size Wp.heap.size (Lib.byteCells (Dg ps j)) w5):=lH (.inr (by rw[HDJ.o,Lib.byteCells_append];exact aQ5));have d_:=lH (bP.o.trans eJ);have uF:Hid ((Dg ps j).length+9*j<=9*L):=lH (by rw[HDJ.o,g_,g_,qV];omega);clear aQ5 eJ aOb bP;(go_wp2_with fail);go_roundw
        case rel=>exact⟨j,oO hjL,rfl,aY2.o,d_.o,uF.o⟩
        case measure=>exact FE.o
    ·have a2Q:0<n5:=by rw[HL5.o,jX hk];omega
     have kO:0<gk:=by omega
     have a3r:ps.length<225:=aBm (v:=z.natAbs) (by rw[<-HEN.o];omega) kO (by rw[TF.o];omega);have aVe:n5<=35184372088832:=by
      rw[HL5.o];refine b_ (kH (n:=z.natAbs) ?_) (by rw[<-HEN.o];omega);have h1:1<=1000000000^ps.length:=Nat.one_le_pow _ _ (by decide);have h2:gk*1<=gk*1000000000^ps.length:=Nat.mul_le_mul_left _ h1;rw[TF.o];omega
     (go_wp2_with fail);refine(aJ9 A5 n5 c5 1000000000 (j_ gk) wr HR5.o (gU _) aVe (by decide) (by decide)).mono ?_;rw[dV];rintro e w6 ⟨gA,g6,n6,l6,rfl,pG,hd6,YD,hn6,hg6⟩;have gQ:=cJ d_ gA;obtain⟨HO6,JX,HD6,HV6⟩:=h_ (NC HO4.o gA) pG hd6 YD;obtain⟨r,hr⟩:∃r,gk % 1000000000=r:=⟨_,rfl⟩;have HR:=lH hr;rw[hr];have hr9:r<1000000000:=by rw[<-hr];exact Nat.mod_lt _ (by decide)
     have HNE:Hid (some g6≠u4.ownBlock):=lH fun e=>by have:=(HO4.o.lt g6 e.symm).2;omega
     have HC6:=lH (cell_one_new w6 (.int .u32 (r:Int)) 216);clear gA pG hd6 YD HR5 HO4 d_ hr
     go_wp2_with (at_builtin;refine wpList_append_own_at _ rfl (.tmp 31) (.tmp 33) _ rfl W.heap.size 216 i0 _ 1 4 Tryz.underlying111 ES.o wX.o KN.o KM.o rfl (by omega) u4 _ _ rfl (HO6.o.alloc _) ⟨_,0,none⟩ 1 1 [.int .u32 (r:Int)] rfl rfl HC6.o ?k1 ?k2 ?k3 ?k4 ?_)
     case k1=>intro u hu;rw[List.mem_singleton.1 hu];rfl
     case k2=>simp only[maxLen];omega
     case k3=>omega
     case k4=>have:=gQ.o.size;simp;omega
     intro v7 w7 hown7 hg7 hnil7 hat7;have aQv:∀g,u4.ownBlock=some g->W.heap.size<=g:=fun g hg=>((HO6.o.lt g hg).1);have lG:=lH ((gQ.o.alloc gQ.o.size (.cells #[.int .u32 (r:Int)] 216)).grown hg7 (by have:=gQ.o.size;simp;omega) aQv);have HR7:=lH (aAx JX.o lR hg7 HNE.o);have HO7:Hid (w7.ownsRow W.heap.size 216 1 v7 (ps++[r]).length (bN (ps++[r]))):=lH (by
      rw[g_,List.length_singleton];unfold bN at hown7 ⊢;rw[List.map_append];exact hown7)
     clear hown7 hg7 hnil7 hat7 aQv gQ HO6 JX HC6 HNE;(go_wp2_with fail);refine(jV false (some ⟨g6,0,none⟩) n6 n6 l6 w7 HR7.o HD6.o lR (by omega)).mono ?_;rw[HV6.o];rintro e w8 ⟨fJ,b8,A8,n8,c8,rfl,h8⟩;have dS:=cJ lG fJ;have tD:=lH (NC HO7.o fJ);have DS:Hid (jF w8 w8.heap.size A8 n8 (j_ (gk / 1000000000))):=lH h8.rd;have hn8:=h8.nc;have hc8:=h8.cm;clear fJ h8 lG HO7;have I_:Hid (z.natAbs=pv (ps++[r])+gk / 1000000000*1000000000^(ps++[r]).length):=lH (by
      rw[TF.o,X0,g_,List.length_singleton,Nat.pow_succ];have h:=Nat.div_add_mod gk 1000000000;rw[HR.o] at h;generalize gk / 1000000000=q at *;generalize 1000000000^ps.length=X at *;rw[<-h];grind)
     have HTT:Hid (gk / 1000000000=0->ps++[r]≠[]/\SO (ps++[r])):=lH fun h0=>⟨by simp,fun x hx=>by
      have h:=Nat.div_add_mod gk 1000000000;rw[HR.o,h0] at h;have:x=r:=by simpa using hx.symm
      omega⟩
     have uF:Hid ((ps++[r]).length<=225):=lH (by rw[g_,List.length_singleton];omega);have hfd:∀w,(Instr.field 113 (.agg #[.bool b8,.slice A8 n8 c8]) 1).run Tryz.prog w=.ok (.slice A8 n8 c8) w:=fun _=>by kernel_rfl
     have HMM:Hid (gk / 1000000000<gk):=lH (by omega);(go_wp2_with fail)
     go_roundg (gk / 1000000000)
     case rel=>exact⟨ps++[r],A8,n8,c8,rfl,DS.o,hn8,hc8,tD.o,dS.o,I_.o,aAC JB.o hr9,HTT.o,uF.o⟩
     case measure=>exact HMM.o
theorem Q1(l:List UInt8):Lib.hasPrefix (45::l) [45]=true:=by simp[Lib.hasPrefix]
theorem aC0(l:List UInt8):Lib.trimPrefix (45::l) [45]=l:=by unfold Lib.trimPrefix;rw[if_pos (Q1 l)];rfl
theorem aKv{l:List UInt8}(h:jY l):Lib.hasPrefix l [45]=false:=by
 cases l with
 | nil=>rfl
 | cons c r=>
  have hc:=(h c (List.mem_cons_self ..)).1;have:((45:UInt8) == c)=false:=by
   cases hb:((45:UInt8) == c) with
   | false=>rfl
   | true=>have:=eq_of_beq hb;subst this;exact absurd hc (by decide)
  simp[Lib.hasPrefix,List.isPrefixOf,this]
theorem aPm{l:List UInt8}(h:jY l):Lib.trimPrefix l [45]=l:=by unfold Lib.trimPrefix;rw[aKv h];rfl
theorem aFz(l:List UInt8)(n:Nat)(h:n<=l.length):(⟨l.toArray⟩:ByteArray).extract 0 n=⟨(l.take n).toArray⟩:=by
 apply ByteArray.ext;rw[ByteArray.data_extract];simp
theorem aFA(l:List UInt8)(n:Nat):(⟨l.toArray⟩:ByteArray).extract n l.length=⟨(l.drop n).toArray⟩:=by
 apply ByteArray.ext;rw[ByteArray.data_extract];apply Array.ext';simp;exact nT (by simp)
def J5(neg:Bool)(l:List UInt8):Int:=if neg then -(dv l:Int) else dv l
def rdT(neg:Bool)(l:List UInt8):ByteArray:=⟨((if neg then[45] else[])++l).toArray⟩
theorem aIq(w:Wo)(B:Nat):bW w B 0 false none 0 0:=⟨by simp,by rw[Int.natAbs_zero,iL],by rw[Int.natAbs_zero,mT];exact AA _ _ _,lR,by decide⟩
theorem aIr{v:Nat}{A:OA}{c:Nat}(h:bW w B (v:Int) false A n c)(m:Bool):bW w B (CK m v) (m && decide (0<n)) A n c:=by
 have hn:n=dA v:=by rw[h.en,Int.natAbs_natCast]
 refine⟨?_,by rw[FN];exact hn,by rw[FN];have:=h.rd;rwa[Int.natAbs_natCast] at this,h.nc,h.cm⟩;rw[XS];congr 1
 refine decide_eq_decide.2 ?_;rw[hn];by_cases h0:v=0
 ·subst h0;rw[iL]
 ·rw[jX h0];omega
theorem aC9(l:List UInt8)(k:Nat)(h:k<=l.length)(W:Wo):(Instr.sliceAt 9 (.string ⟨l.toArray⟩) none (some (.int .i64 (k:Int))) none).run Tryz.prog W=.ok (.string ⟨(l.take k).toArray⟩) W:=by
 rw[run_sliceAt_string W 9 _ _ _ _ Tryz.underlying9,run_slice_string_h W 9 _ Tryz.underlying9 .i64 (k:Int) (by omega) (by rw[jS];omega),jM,aFz l k h]
theorem PH(l:List UInt8)(k:Nat)(h:k<=l.length)(W:Wo):(Instr.sliceAt 9 (.string ⟨l.toArray⟩) (some (.int .i64 (k:Int))) none none).run Tryz.prog W=.ok (.string ⟨(l.drop k).toArray⟩) W:=by
 rw[run_sliceAt_string W 9 _ _ _ _ Tryz.underlying9,run_slice_string_l W 9 _ Tryz.underlying9 .i64 (k:Int) (by omega) (by rw[jS];omega),jM,jS,aFA l k]
def aWM(g2 g4:Nat)(l:List UInt8)(w wr:Wo)(k:Nat)(v0:Value):Prop:=∃(dn rs:List UInt8)(A:OA)(n c:Nat),v0=.string ⟨rs.toArray⟩/\l=dn++rs/\k=rs.length/\(dn=[]\/rs.length % 9=0)/\Below w.heap.size w wr/\aD wr g2 113 #[.bool false,.slice none 0 0]/\aD wr g4 113 #[.bool false,.slice A n c]/\bW wr wr.heap.size (dv dn:Int) false A n c
theorem z_(neg:Bool)(l:List UInt8)(hd:jY l)(hl:l.length<=1000000)(w:Wo):Calls Tryz.prog 113 #[.string (rdT neg l)] w (LgP (J5 neg l) w):=by
 have HP:Hid (Lib.hasPrefix (rdT neg l).data.toList [45]=neg):=lH (by cases neg;exact aKv hd;exact Q1 l);have HT:Hid (Lib.trimPrefix (rdT neg l).data.toList [45]=l):=lH (by cases neg;exact aPm hd;exact aC0 l);have HD:=lH hd;have eD:Hid (Below w.heap.size w ((w.alloc cP).alloc cP)):=lH ((bA).alloc (by simp) _);have fB:Hid (aD ((w.alloc cP).alloc cP) w.heap.size 113 #[.bool false,.slice none 0 0]):=lH ((aD.new w _ _).alloc _);have gG:Hid (aD ((w.alloc cP).alloc cP) (w.heap.size+1) 113 #[.bool false,.slice none 0 0]):=lH (aD.new_ (by simp));generalize rdT neg l=s at *;clear hd;go_enter Tryz.func113,Tryz.ntmps113
 go_wp2_with fail
 refine(Tryz.strings_HasPrefix s ⟨#[45]⟩ _).mono ?_;rintro e w1 ⟨he,hw⟩;subst hw;rw[show(⟨#[45]⟩:ByteArray).data.toList=[45] from rfl,HP.o] at he;subst he
 go_wp2_with fail
 refine(Tryz.strings_TrimPrefix s ⟨#[45]⟩ _).mono ?_;rintro e w1 ⟨he,hw⟩;subst hw;rw[show(⟨#[45]⟩:ByteArray).data.toList=[45] from rfl,HT.o] at he;subst he
 go_wp2_with fail
 generalize ((w.alloc cP).alloc cP)=W at *;obtain⟨g4,hg4⟩:∃g,w.heap.size+1=g:=⟨_,rfl⟩;rw[hg4] at gG;have HG4:=lH hg4;rw[hg4];clear hg4;have aEJ:w.heap.size≠g4:=by have:=HG4.o;omega
 have aQO:w.heap.size<=g4:=by have:=HG4.o;omega
 go_loopg [0] l.length (fun k v0 wr=>aWM w.heap.size g4 l w wr k v0)
 case atStart=>exact⟨[],l,none,0,0,rfl,rfl,rfl,.inl rfl,eD.o,fB.o,gG.o,aIq _ _⟩
 case round=>
  clear eD fB gG HP HT;obtain⟨dn,rs,A,n,c,rfl,hlr,hgk,hmd,hbr,JQ,hp4,ha⟩:=hrel;obtain⟨HLR,HGK,HMD,qW,uJ⟩:=iS hlr hgk hmd hbr JQ;have BX:=lH hp4;have HA:=lH ha;have HAN:Hid (n=dA (dv dn)):=lH (by rw[ha.en,Int.natAbs_natCast]);have HSR:Hid ((⟨rs.toArray⟩:ByteArray).size=rs.length):=lH (jS rs);clear hlr hgk hmd hbr JQ hp4 ha;by_cases hrs:rs.length=0
  ·have hs0:(⟨rs.toArray⟩:ByteArray).size=0:=by rw[HSR.o,hrs]
   have hdn:dn=l:=by rw[HLR.o,List.eq_nil_of_length_eq_zero hrs,List.append_nil]
   rw[hdn] at HA HAN;clear hdn hrs;obtain⟨z0,z1,zf,zl⟩:=BX.o.e2;have aCa:Hid (∀b,b=(neg && decide (0<n))->bW (wr.setCell ⟨g4,0,none⟩ (.bool b)) (wr.setCell ⟨g4,0,none⟩ (.bool b)).heap.size (J5 neg l) b A n c):=lH fun b hb=>by
    rw[hb];exact(aIr HA.o neg).keep (BX.o.cell 0) (by simp) _
   have HPX:Hid (∀b,aD (wr.setCell ⟨g4,0,none⟩ (.bool b)) g4 113 #[.bool b,.slice A n c]/\aD (wr.setCell ⟨g4,0,none⟩ (.bool b)) w.heap.size 113 #[.bool false,.slice none 0 0]/\Below w.heap.size w (wr.setCell ⟨g4,0,none⟩ (.bool b))):=lH fun b=>⟨BX.o.set_at (i:=0) (.bool b) (by simp),uJ.o.far aEJ _,qW.o.setCell aQO _⟩;have mO:w.heap.size<=w.heap.size:=lR;have hc3:neg=false\/(neg=true/\n=0)\/(neg=true/\0<n):=by cases neg<;>simp<;>omega
   rcases hc3 with rfl | ⟨rfl,rfl⟩ | ⟨rfl,oQ⟩
   ·have hq0:=hs0
    (go_upto_region 10 with fail);clear z0 z1 zf zl;obtain⟨DB,xV,NN⟩:=HPX.o false;have hx4:=aCa.o false rfl;obtain⟨fB,gG,ZO,HX4⟩:=h_ DB xV NN hx4;clear DB xV NN hx4 aCa HPX;generalize wr.setCell ⟨g4,0,none⟩ (.bool false)=V at *;obtain⟨y0,y1,yl⟩:=fB.o.b2;obtain⟨z0,z1,zf,zl⟩:=gG.o.e2;(go_wp2_with fail);generalize fG:(V.setCell ⟨_,0,none⟩ _).setCell ⟨_,1,none⟩ _=W9;have iZ:=lH (oX (e:=.returned (.agg #[.bool false,.slice A n c])) ZO.o mO gG.o (by simp) (by simp) HX4.o rfl);rw[fG] at iZ;have fH:Hid (aD W9 _ 113 #[.bool false,.slice A n c]):=lH (by rw[<-fG];exact bV gG.o);clear fG z0 z1 zf zl;obtain⟨q0,q1⟩:=fH.o.a2;exact bodyPost_ret (v:=.agg #[.bool false,.slice A n c]) (by simp[results,Tryz.results113,go_sem,q0,q1]) rfl iZ.o
   ·have h00:=hs0
    (go_upto_region 10 with fail);clear z0 z1 zf zl;obtain⟨DB,xV,NN⟩:=HPX.o false;have hx4:=aCa.o false (by simp);obtain⟨fB,gG,ZO,HX4⟩:=h_ DB xV NN hx4;clear DB xV NN hx4 aCa HPX;generalize wr.setCell ⟨g4,0,none⟩ (.bool false)=V at *;obtain⟨y0,y1,yl⟩:=fB.o.b2;obtain⟨z0,z1,zf,zl⟩:=gG.o.e2;(go_wp2_with fail);generalize fG:(V.setCell ⟨_,0,none⟩ _).setCell ⟨_,1,none⟩ _=W9;have iZ:=lH (oX (e:=.returned (.agg #[.bool false,.slice A 0 c])) ZO.o mO gG.o (by simp) (by simp) HX4.o rfl);rw[fG] at iZ;have fH:Hid (aD W9 _ 113 #[.bool false,.slice A 0 c]):=lH (by rw[<-fG];exact bV gG.o);clear fG z0 z1 zf zl;obtain⟨q0,q1⟩:=fH.o.a2;exact bodyPost_ret (v:=.agg #[.bool false,.slice A 0 c]) (by simp[results,Tryz.results113,go_sem,q0,q1]) rfl iZ.o
   ·have a2R:(0:Int)<(n:Int):=by omega
    (go_upto_region 10 with fail);clear z0 z1 zf zl;obtain⟨DB,xV,NN⟩:=HPX.o true;have hx4:=aCa.o true (by simp[oQ]);obtain⟨fB,gG,ZO,HX4⟩:=h_ DB xV NN hx4;clear DB xV NN hx4 aCa HPX;generalize wr.setCell ⟨g4,0,none⟩ (.bool true)=V at *;obtain⟨y0,y1,yl⟩:=fB.o.b2;obtain⟨z0,z1,zf,zl⟩:=gG.o.e2;(go_wp2_with fail);generalize fG:(V.setCell ⟨_,0,none⟩ _).setCell ⟨_,1,none⟩ _=W9;have iZ:=lH (oX (e:=.returned (.agg #[.bool true,.slice A n c])) ZO.o mO gG.o (by simp) (by simp) HX4.o rfl);rw[fG] at iZ;have fH:Hid (aD W9 _ 113 #[.bool true,.slice A n c]):=lH (by rw[<-fG];exact bV gG.o);clear fG z0 z1 zf zl;obtain⟨q0,q1⟩:=fH.o.a2;exact bodyPost_ret (v:=.agg #[.bool true,.slice A n c]) (by simp[results,Tryz.results113,go_sem,q0,q1]) rfl iZ.o
  ·have hs0:(0:Int)<((⟨rs.toArray⟩:ByteArray).size:Int):=by rw[HSR.o];omega
   obtain⟨L,hL⟩:∃L,rs.length=L:=⟨_,rfl⟩;rw[hL] at hrs HSR HMD HGK;have uF:=lH hL;obtain⟨q,hq⟩:∃q,(L-1) % 9=q:=⟨_,rfl⟩;have HQ:=lH hq;have hqL:q+1<=L:=by omega
   have hq9:q+1<=9:=by omega
   have hLl:L<=1000000:=by rw[<-hL];refine b_ ?_ hl;rw[HLR.o,g_];omega
   have hdl:dn.length<=1000000:=by refine b_ ?_ hl;rw[HLR.o,g_];omega
   obtain⟨ch,hch⟩:∃ch,rs.take (q+1)=ch:=⟨_,rfl⟩;obtain⟨rt,TA⟩:∃rt,rs.drop (q+1)=rt:=⟨_,rfl⟩;have aIG:∀W,(Instr.sliceAt 9 (.string ⟨rs.toArray⟩) none (some (.int .i64 ((q:Int)+1))) none).run Tryz.prog W=.ok (.string ⟨ch.toArray⟩) W:=fun W=>by
    have:=aC9 rs (q+1) (by omega) W;rw[hch] at this;exact this
   have aEA:∀W,(Instr.sliceAt 9 (.string ⟨rs.toArray⟩) (some (.int .i64 ((q:Int)+1))) none none).run Tryz.prog W=.ok (.string ⟨rt.toArray⟩) W:=fun W=>by
    have:=PH rs (q+1) (by omega) W;rw[TA] at this;exact this
   have aXm:=lH aEA;have aI2:jY ch:=by
    rw[<-hch];exact jY.take (fun x hx=>HD.o x (by rw[HLR.o];exact List.mem_append_right _ hx)) _
   have aI1:jY dn:=fun x hx=>HD.o x (by rw[HLR.o];exact List.mem_append_left _ hx);have wQ:ch.length=q+1:=by rw[<-hch,jN];omega
   have HPU:Hid (Lib.parseUintB 32 (⟨ch.toArray⟩:ByteArray).data.toList=.ok (dv ch)):=lH (by rw[show(⟨ch.toArray⟩:ByteArray).data.toList=ch from by simp];exact aUs aI2 (fun e=>by rw[e] at wQ;simp at wQ) (by omega));have hdc:dv ch<1000000000:=by
    have h1:=RP aI2;have h2:10^ch.length<=10^9:=Nat.pow_le_pow_right (by decide) (by omega);omega
   have HSC:Hid ((⟨ch.toArray⟩:ByteArray).size<=9223372036854775806):=lH (by rw[jS];omega);have HVA:Hid ((dv dn:Int)*1000000000+(dv ch:Int)=(dv (dn++ch):Int)):=lH (by
    rw[aJh dn ch (HMD.o.imp id fun h=>by omega),Int.natCast_add,Int.natCast_mul];rfl)
   have aSH:Hid (l=(dn++ch)++rt):=lH (by rw[HLR.o,List.append_assoc,<-hch,<-TA,List.take_append_drop]);have aR7:Hid (rt.length=L-(q+1)):=lH (by rw[<-TA,J2];omega);have HR9:Hid (rt.length % 9=0):=lH (by rw[aR7.o];omega);have W5:Hid (rt.length<gk):=lH (by rw[aR7.o,HGK.o];omega);have hdd:=N0 aI1;have HS6:Hid (dA ((dv dn:Int)*1000000000).natAbs<=35184372088832):=lH (by
    refine b_ (eU _ _) ?_;rw[Int.natAbs_natCast,show(1000000000:Int).natAbs=1000000000 from rfl,sP (n:=1000000000) (by decide) (by decide)];omega)
   have HS7:Hid (dA (dv ch:Int).natAbs<=35184372088832):=lH (by
    rw[Int.natAbs_natCast];have:=N0 aI2;omega)
   have FF:Hid (n<=1000000):=lH (by rw[HAN.o];omega);have aUY:((L:Int)-1).tmod 9=(q:Int):=by
    rw[<-hq,show((L:Int)-1)=((L-1:Nat):Int) from by omega];rfl
   have hZ:=HSR.o;have hL1:(1:Int)<=(L:Int):=by omega
   clear hq hch TA aEA aI2 aI1 wQ hL;(go_wp2_with fail);refine(Tryz.strconv_ParseUint_10_at32_ok ⟨ch.toArray⟩ HSC.o (dv ch) HPU.o wr).mono ?_;rintro e w3 ⟨rfl,hw3⟩;have dK:Below wr.heap.size wr w3:=by
    rcases hw3 with rfl | rfl
    ·exact bR
    ·exact Lib.bytesWorld_below _ _ _
   have aY0:=cJ qW dK;obtain⟨SU,aB3,HA3⟩:=dZ (uJ.o.bl dK) (BX.o.bl dK) (HA.o.up dK);clear dK hw3 qW uJ BX HA aIG aUY hZ hL1 hs0;have qW:=aY0;have uJ:=SU;have BX:=aB3;have HA:=HA3;clear aY0 SU aB3 HA3;generalize wr=wq at *;generalize w3=wr at *;obtain⟨z0,z1,zl⟩:=BX.o.b2;have VM:(dv ch:Int) % 18446744073709551616=(dv ch:Int):=by omega
   have aMG:IntKind.i64.wrap (dv ch:Int)=(dv ch:Int):=Go.IntWalk.i64_in _ (by omega);(go_upto_region 7 with fail);refine bT (S:=fun w'=>w'.cell? ⟨g4,0,none⟩=some (.bool false)/\w'.cell? ⟨g4,1,none⟩=some (.slice A n c)) 7 _ (by kernel_rfl) (by kernel_rfl) rfl ⟨z0,z1⟩ (fun hHeld=>?_);simp only[m_,List.take_zero];refine fP 0 (v:=?_) ?_ hHeld ?_;rotate_left 1
   ·intro w' hSw;obtain⟨s0,s1⟩:=hSw;go_simp<;>with_reducible rfl
   (try simp only[Act.put,fZ,fY,fX]);refine fP 3 (v:=?_) ?_ hHeld ?_;rotate_left 1
   ·intro w' hSw;obtain⟨s0,s1⟩:=hSw;go_simp<;>with_reducible rfl
   (try simp only[Act.put,fZ,fY,fX]);refine fP 4 (v:=?_) ?_ hHeld ?_;rotate_left 1
   ·intro w' hSw;obtain⟨s0,s1⟩:=hSw;go_simp<;>with_reducible rfl
   (try simp only[Act.put,fZ,fY,fX]);clear z0 z1;refine bI 1 (fun K hK=>?_);go_simp;refine(yJ 1000000000 _ (by decide) (by decide)).mono ?_;rintro e w5 ⟨eJ,f5,C5,i5,j5,rfl,h5⟩;have d_:=lH ((aI (Below.refl wr.heap.size wr)).trans eJ);obtain⟨M,hM,h5⟩:∃M:Int,M=1000000000/\bW w5 w5.heap.size M f5 C5 i5 j5:=⟨_,rfl,h5⟩;have HM:=lH hM;have hi5:i5<=1:=by rw[h5.en,hM];exact kI (show(1000000000:Nat)<4294967296^1 by decide)
   have H5:=lH h5;clear eJ h5 hM;go_simp;refine hK.out _ _ ?_ (fun hHeld=>?_)
   ·exact⟨(BX.o.bl d_.o).cell 0,(BX.o.bl d_.o).cell 1⟩
   clear hK K;(try simp only[Act.put,fZ,fY,fX]);refine bI 2 (fun K hK=>?_);go_simp;refine(i_ (dv dn:Int) M false A n c f5 C5 i5 j5 w5 (HA.o.up d_.o) H5.o (b_ (Nat.add_le_add FF.o hi5) (by decide))).mono ?_;rintro e w6 ⟨gA,f6,C6,i6,j6,rfl,h6⟩;have gQ:=cJ d_ gA;have H6:=lH h6;clear gA h6 H5;go_simp;refine hK.out _ _ ?_ (fun hHeld=>?_)
   ·exact⟨(BX.o.bl gQ.o).cell 0,(BX.o.bl gQ.o).cell 1⟩
   clear hK K;(try simp only[Act.put,fZ,fY,fX]);refine bI 5 (fun K hK=>?_);go_simp;refine(yJ (dv ch:Int) _ (by omega) (by omega)).mono ?_;rintro e w7 ⟨iA,f7,C7,i7,j7,rfl,h7⟩;have lG:=cJ gQ iA;have H7:=lH h7;have H67:=lH (H6.o.up iA);clear iA h7 H6;go_simp;refine hK.out _ _ ?_ (fun hHeld=>?_)
   ·exact⟨(BX.o.bl lG.o).cell 0,(BX.o.bl lG.o).cell 1⟩
   clear hK K;(try simp only[Act.put,fZ,fY,fX]);refine bI 6 (fun K hK=>?_);go_simp;refine(N_ ((dv dn:Int)*M) (dv ch:Int) f6 C6 i6 j6 f7 C7 i7 j7 w7 H67.o H7.o (by rw[H67.o.en,HM.o];exact HS6.o) (by rw[H7.o.en];exact HS7.o)).mono ?_;rw[HM.o,HVA.o];rintro e w8 ⟨fJ,f8,C8,i8,j8,rfl,h8⟩;have dS:=cJ lG fJ;have H8:=lH h8;clear fJ h8 H67 H7;go_simp;refine hK.out _ _ ?_ (fun hHeld=>?_)
   ·exact⟨(BX.o.bl dS.o).cell 0,(BX.o.bl dS.o).cell 1⟩
   clear hK K;(try simp only[Act.put,fZ,fY,fX]);refine eP ?_;have hf8:f8=false:=by rw[H8.o.eb];exact decide_eq_false (Int.not_lt.2 (Int.natCast_nonneg _))
   subst hf8;obtain⟨WY,OK,aY3⟩:=dZ (BX.o.bl dS.o) (uJ.o.bl dS.o) (qW.o.tm dS.o);have a5w:=aSH;obtain⟨z0,z1,zf,zl⟩:=WY.o.e2;(go_upto_region 8 with fail);clear z0 z1 zf zl;generalize ED:(w8.setCell ⟨g4,0,none⟩ _).setCell ⟨g4,1,none⟩ _=w9;have OJ:Hid (aD w9 g4 113 #[.bool false,.slice C8 i8 j8]):=lH (by rw[<-ED];exact bV WY.o);have aGz:Hid (aD w9 w.heap.size 113 #[.bool false,.slice none 0 0]):=lH (by rw[<-ED];exact(OK.o.far aEJ _).far aEJ _);have fH:Hid (Below w.heap.size w w9):=lH (by rw[<-ED];exact cO aY3.o aQO);have H9:Hid (bW w9 w9.heap.size (dv (dn++ch):Int) false C8 i8 j8):=lH (by rw[<-ED];exact(H8.o.keep (WY.o.cell 0) (by simp) _).keep ((WY.o.set_ 0 (.bool false)).cell 1) (by simp) _);clear ED;have aEA:=aXm.o;(go_wp2_with fail)
   go_roundg rt.length
   case rel=>exact⟨dn++ch,rt,C8,i8,j8,rfl,aSH.o,rfl,.inr HR9.o,fH.o,aGz.o,OJ.o,H9.o⟩
   case measure=>exact W5.o
end
