import Derived.Test.YtonlblmobjhjjaaGreatDoorW03
import Derived.Test.YtonlblmobjhjjaaGreatDoorW04
set_option linter.unusedVariables false
set_option linter.unusedSimpArgs false
namespace Go.Proofs.YtonlblmobjhjjaaGreatDoor
set_option maxHeartbeats 8000000
set_option maxRecDepth 100000
variable {B n : Nat} {l : List Nat} {v : Value} {w w' : World}
section
open Go.ChangeShapes Go.WideShapes Go.ChangeAt Go.RowKit
attribute [local go_sem ↓] aE
attribute [local go_sem] aJ aI aL
def SlQ(l:List Nat):Value->World->Prop:=fun v w=>∃A n c,v=.slice A n c/\gF w w.heap.size A n l/\n<=c/\c<=9223372036854775807
theorem SlQ.up(h:SlQ l v w)(hb:Below w.heap.size w w'):SlQ l v w':=by
 obtain⟨A,n,c,e,h1,h2⟩:=h;exact⟨A,n,c,e,h1.up hb,h2⟩
def LgQ(z:Int):Value->World->Prop:=fun v w=>∃b A n c,v=.agg #[.bool b,.slice A n c]/\bE w w.heap.size z b A n c
theorem LgQ.up{z:Int}(h:LgQ z v w)(hb:Below w.heap.size w w'):LgQ z v w':=by
 obtain⟨b,A,n,c,e,h1⟩:=h;exact⟨b,A,n,c,e,h1.up hb⟩
def NX(B:Nat)(T:TypeId)(cs:Array Value):Value->World->Prop:=fun v w=>∃g,v=.pointer (some ⟨g,0,none⟩)/\B<=g/\aD w g T cs
theorem NX.up{T:TypeId}{cs:Array Value}(h:NX B T cs v w)(hb:Below w.heap.size w w'):NX B T cs v w':=by
 obtain⟨g,e,h1,h2⟩:=h;exact⟨g,e,h1,h2.bl hb⟩
theorem aAY(l:List Nat):∀u∈aY l,u.oneCell'=true:=by
 intro u hu;unfold aY at hu;obtain⟨x,_,rfl⟩:=List.mem_map.1 hu;rfl
theorem OI(h:w.ownsRow B 175 1 v n (aY l)):∃A c,v=.slice A n c/\gF w w.heap.size A n l/\n<=c/\c<=9223372036854775807:=by
 rcases h.2 with⟨h1,h2⟩ | ⟨g,cap,cur,h1,h2,h3,h4,h5,h6,h7⟩
 ·refine⟨none,0,by rw[h2];exact h1,⟨h.1,fun h0=>by omega⟩,by omega,by omega⟩
 ·refine⟨_,_,h1,⟨h.1,fun h0=>⟨g,0,rfl,?_,fun j u hu=>?_⟩⟩,h4,by simpa[maxLen] using h5⟩
  ·rcases Nat.lt_or_ge g w.heap.size with aR | LB
   ·exact aR
   ·rw[Array.getElem?_eq_none LB] at h3;cases h3
  ·rw[Nat.zero_add,cell_of_row w g j cur 175 (0,0) h3]
   rw[<-h7] at hu;have pQ:=(c_.1 hu).1;rw[List.getElem?_take_of_lt (by rw[kC] at pQ;omega)] at hu;simpa using hu
theorem NL(A:OA)(n c:Nat)(l:List Nat)(w:Wo)(hr:gF w w.heap.size A n l)(hn:n<=35184372088833):Calls Tryz.prog 148 #[.slice A n c] w fun e w'=>Below w.heap.size w w'/\∃A' c',e=.returned (.slice A' n c')/\gF w' w'.heap.size A' n l/\n<=c'/\c'<=9223372036854775807:=by
 have q22:∀(w:Wo)(a:OA)(n c n' c':Nat),(binOp .eql 83 (.slice a n c) (.slice none n' c')).run Tryz.prog w=.ok (.bool a.isNone) w:=fun w a n c n' c'=>Lib.run_eql_slice_nil w _ _ a n c n' c' Tryz.underlying83;cases A with
 | none=>
  have h0:n=0:=by
   refine Nat.eq_zero_of_not_pos fun h=>?_;obtain⟨b,off,e,_⟩:=hr.form h;cases e
  subst h0;have hl:l=[]:=List.eq_nil_of_length_eq_zero hr.len;subst hl;go_enter Tryz.func148,Tryz.ntmps148
  (go_wp2_with fail);go_ret;exact⟨bR,none,0,rfl,t7 _ _ _,lR,by decide⟩
 | some ad=>
  obtain⟨i0,jL,pF,kT,kS⟩:=info_parts AZ;have HL:=lH hr.len;have HC:Hid (∀j u,(aY l)[j]?=some u->w.cell? (ad.add j)=some u):=lH fun j u hu=>by
   have hj:=(c_.1 hu).1;have kV:0<n:=by have:=hr.len;unfold aY at hj;rw[kJ] at hj;omega
   obtain⟨b,off,e,aR,hc⟩:=hr.2 kV;injection e with e;subst e;have:=hc j u hu;unfold Addr.add;by_cases JF:j=0
   ·subst JF;simpa using this
   ·simpa[JF] using this
  have HN:Hid ((aY l).length=n*1):=lH hr.1;clear hr;go_enter Tryz.func148,Tryz.ntmps148
  go_wp2_with (at_builtin;refine wpList_append_own_wide _ rfl _ _ 83 rfl w.heap.size 175 i0 _ 1 4 Tryz.underlying83 jL pF kT kS rfl (by omega) _ _ _ rfl (aBn _ _ _) ad n c (aY l) rfl ?qc1 ?qc2 (aAY l) ?qc4 ?qc5 ?qc6 ?_)
  case qc1=>exact HN.o
  case qc2=>exact fun j u hj=>Lib.cell?_alloc_some _ (HC.o j u hj)
  case qc4=>simp only[maxLen];omega
  case qc5=>omega
  case qc6=>simp
  intro v' w1 bB hgrow aH5
  go_wp2
  go_ret;obtain⟨A',c',e,h1,h2,h3⟩:=OI bB;subst e;exact⟨((Below.refl _ w).alloc lR _).grown hgrow (by simp) (by intro k hk;simp[Value.ownBlock] at hk;omega),A',c',rfl,h1,h2,h3⟩
def DmP(y z:Int)(w:Wo)(e:Ending)(w':Wo):Prop:=Below w.heap.size w w'/\∃b A n c b2 B m d,e=.returned (.tuple #[.agg #[.bool b,.slice A n c],.agg #[.bool b2,.slice B m d]])/\bE w' w'.heap.size y b A n c/\bE w' w'.heap.size z b2 B m d
theorem YQ(x y:Nat)(b1:Bool)(A:OA)(n c:Nat)(b2:Bool)(B:OA)(m d:Nat)(w:Wo)(h1:bE w w.heap.size (x:Int) b1 A n c)(h2:bE w w.heap.size (y:Int) b2 B m d)(uP:0<y)(hn:n<=35184372088832)(hm:m<=35184372088832):Calls Tryz.prog 130 #[.agg #[.bool b1,.slice A n c],.agg #[.bool b2,.slice B m d]] w (DmP ((x / y:Nat):Int) ((x % y:Nat):Int) w):=by
 have bG:b1=false:=by rw[h1.eb];simp
 subst bG;have cI:Hid (Below w.heap.size w ((((w.alloc (aK false A n c)).alloc (aK b2 B m d)).alloc bU).alloc bU)):=lH ((((bA).alloc (by simp) _).alloc (by simp;omega) _).alloc (by simp;omega) _);have dE:Hid (aD ((((w.alloc (aK false A n c)).alloc (aK b2 B m d)).alloc bU).alloc bU) w.heap.size 85 #[.bool false,.slice A n c]):=lH ((((aD.new w _ _).alloc _).alloc _).alloc _);have eT:Hid (aD ((((w.alloc (aK false A n c)).alloc (aK b2 B m d)).alloc bU).alloc bU) (w.heap.size+1) 85 #[.bool b2,.slice B m d]):=lH (((aD.new_ (by simp)).alloc _).alloc _);have GY:Hid (aD ((((w.alloc (aK false A n c)).alloc (aK b2 B m d)).alloc bU).alloc bU) (w.heap.size+1+1) 85 #[.bool false,.slice none 0 0]):=lH ((aD.new_ (by simp)).alloc _);have nI:Hid (aD ((((w.alloc (aK false A n c)).alloc (aK b2 B m d)).alloc bU).alloc bU) (w.heap.size+1+1+1) 85 #[.bool false,.slice none 0 0]):=lH (aD.new_ (by simp));have HD1:Hid (gF ((((w.alloc (aK false A n c)).alloc (aK b2 B m d)).alloc bU).alloc bU) (((((w.alloc (aK false A n c)).alloc (aK b2 B m d)).alloc bU).alloc bU)).heap.size A n (gX x)):=lH (h1.up cI.o).rd;have HD2:Hid (gF ((((w.alloc (aK false A n c)).alloc (aK b2 B m d)).alloc bU).alloc bU) (((((w.alloc (aK false A n c)).alloc (aK b2 B m d)).alloc bU).alloc bU)).heap.size B m (gX y)):=lH (h2.up cI.o).rd;have GU:=h1.nc;have JI:=h1.cm;clear h1 h2;go_enter Tryz.func130,Tryz.ntmps130
 go_wp2_with fail
 generalize ((((w.alloc (aK false A n c)).alloc (aK b2 B m d)).alloc bU).alloc bU)=V at *;obtain⟨p0,p1,pl⟩:=dE.o.b2;have q1:=eT.o.cell 1;have ql:=eT.o.lt
 go_wp2_with fail
 refine(J1 A n c B m d x y V HD1.o HD2.o uP GU JI hn hm).mono ?_;rintro e W ⟨bG,Aq,nq,cq,lq,Ar,nr,cr,lr,rfl,⟨mR,mE,EC,hq4,hq5⟩,⟨MW,uS,w_,EB,vK⟩,aOu,aOe⟩;have cR:=bX cI bG;obtain⟨aFk,aJf,aCy,aCx,HQR⟩:=mP (dE.o.bl bG) (eT.o.bl bG) (GY.o.bl bG) (nI.o.bl bG) mR;have HQD:=lH mE;have HQV:Hid (wC false (wv lq)=((x / y:Nat):Int)):=lH (by rw[EC];rfl);have vH:=lH MW;have PX:=lH uS;have HRV:Hid (wC false (wv lr)=((x % y:Nat):Int)):=lH (by rw[w_];rfl);have mF:w.heap.size<=V.heap.size:=cI.o.size;clear bG mR mE EC hq4 hq5 MW uS w_ EB vK p0 p1 q1 pl ql;have aTr:w.heap.size<=W.heap.size:=cR.o.size;clear mF;obtain⟨p0,pl⟩:=aFk.o.b1
 go_wp2_with fail
 refine fX (S:=fun w'=>Below W.heap.size W w') 12 _ _ (by kernel_rfl) (by kernel_rfl) (by kernel_rfl) rfl rfl (aH bR) (fun hHeld=>?_);simp only[oO,List.take_zero];refine d7 [0,1,2,5,6,7] ?_;refine aHi (C:=fun s w'=>Below W.heap.size W w'/\PT 10 11 s w') (G:=fun w' w''=>Below w'.heap.size w' w'') [(3,SlQ lq),(4,LgQ ((x / y:Nat):Int)),(8,SlQ lr),(9,LgQ ((x % y:Nat):Int)),(10,NX W.heap.size 85 #[.bool false,.slice none 0 0]),(11,NX W.heap.size 85 #[.bool false,.slice none 0 0])] rfl (by kernel_rfl) (List.forall_mem_cons.2 ⟨fun _ _ _ h g=>h.up g,List.forall_mem_cons.2 ⟨fun _ _ _ h g=>h.up g,List.forall_mem_cons.2 ⟨fun _ _ _ h g=>h.up g,List.forall_mem_cons.2 ⟨fun _ _ _ h g=>h.up g,List.forall_mem_cons.2 ⟨fun _ _ _ h g=>h.up g,List.forall_mem_cons.2 ⟨fun _ _ _ h g=>h.up g,List.forall_mem_nil _⟩⟩⟩⟩⟩⟩) (fun _ _ h=>h.1) ⟨hHeld,QR _ _ _⟩ ?_;refine jV (i:=3) rfl (fun s w3 hC hn hK=>?_) (fun v3=>?_)
 ·unfold jU;go_simp;simp only[iZ]
  refine(NL Aq nq cq lq w3 (HQR.o.lift hC.1 hC.1.size) (by have:=aOu;omega)).mono ?_;rintro e w4 ⟨h_,hq4⟩;obtain⟨A4,c4,rfl,EB,hn4,hc4⟩:=hq4;exact⟨_,rfl,⟨A4,nq,c4,rfl,EB,hn4,hc4⟩,⟨hC.1.tm h_,hC.2.other (by decide) (by decide) h_.size _⟩,h_⟩
 try simp only[Act.put,iG,iF,iE]
 refine jV (i:=4) rfl (fun s w3 hC hn hK=>?_) (fun v4=>?_)
 ·have k3:s 3=some v3/\SlQ lq v3 w3:=hK 3 (by kernel_rfl)
  obtain⟨-,A3,n3,c3,rfl,w_,hn3,hc3⟩:=k3;unfold jU;go_simp;simp only[iZ];refine(gU false A3 n3 c3 lq w3 w_ HQD.o hn3 hc3).mono ?_;rw[HQV.o];rintro e w4 ⟨h_,b4,A4,n4,c4,rfl,h4⟩;exact⟨_,rfl,⟨b4,A4,n4,c4,rfl,h4⟩,⟨hC.1.tm h_,hC.2.other (by decide) (by decide) h_.size _⟩,h_⟩
 try simp only[Act.put,iG,iF,iE]
 refine jV (i:=8) rfl (fun s w3 hC hn hK=>?_) (fun v8=>?_)
 ·unfold jU;go_simp;simp only[iZ]
  refine(NL Ar nr cr lr w3 (vH.o.lift hC.1 hC.1.size) (by have:=aOe;omega)).mono ?_;rintro e w4 ⟨h_,hq4⟩;obtain⟨A4,c4,rfl,EB,hn4,hc4⟩:=hq4;exact⟨_,rfl,⟨A4,nr,c4,rfl,EB,hn4,hc4⟩,⟨hC.1.tm h_,hC.2.other (by decide) (by decide) h_.size _⟩,h_⟩
 try simp only[Act.put,iG,iF,iE]
 refine jV (i:=9) rfl (fun s w3 hC hn hK=>?_) (fun v9=>?_)
 ·have k8:s 8=some v8/\SlQ lr v8 w3:=hK 8 (by kernel_rfl)
  obtain⟨-,A3,n3,c3,rfl,w_,hn3,hc3⟩:=k8;unfold jU;go_simp;simp only[iZ];refine(gU false A3 n3 c3 lr w3 w_ PX.o hn3 hc3).mono ?_;rw[HRV.o];rintro e w4 ⟨h_,b4,A4,n4,c4,rfl,h4⟩;exact⟨_,rfl,⟨b4,A4,n4,c4,rfl,h4⟩,⟨hC.1.tm h_,hC.2.other (by decide) (by decide) h_.size _⟩,h_⟩
 try simp only[Act.put,iG,iF,iE]
 refine jV (i:=10) rfl (fun s w3 hC hn hK=>?_) (fun v10=>?_)
 ·unfold jU;go_simp;simp only[iZ]
  exact⟨⟨_,rfl,hC.1.size,aD.new _ _ _⟩,⟨hC.1.alloc hC.1.size _,hC.2.left (by decide) (by simp)⟩,bA⟩
 try simp only[Act.put,iG,iF,iE]
 refine jV (i:=11) rfl (fun s w3 hC hn hK=>?_) (fun v11=>?_)
 ·unfold jU;go_simp;simp only[iZ]
  exact⟨⟨_,rfl,hC.1.size,aD.new _ _ _⟩,⟨hC.1.alloc hC.1.size _,hC.2.right (by decide) (by simp)⟩,bA⟩
 try simp only[Act.put,iG,iF,iE]
 refine QV (fun s w5 hC hK=>?_);have k4:s 4=some v4/\LgQ ((x / y:Nat):Int) v4 w5:=hK 4;have k9:s 9=some v9/\LgQ ((x % y:Nat):Int) v9 w5:=hK 9;have k10:s 10=some v10/\NX W.heap.size 85 #[.bool false,.slice none 0 0] v10 w5:=hK 10;have k11:s 11=some v11/\NX W.heap.size 85 #[.bool false,.slice none 0 0] v11 w5:=hK 11;obtain⟨-,bq,Aq2,nq2,cq2,rfl,mE⟩:=k4;obtain⟨-,br,Ar2,nr2,cr2,rfl,uS⟩:=k9;obtain⟨s10,g10,rfl,aMN,KZ⟩:=k10;obtain⟨s11,g11,rfl,aMM,aFT⟩:=k11;have cK:g10≠g11:=hC.2.2.2 g10 g11 s10 s11;obtain⟨dK,pU,qU,KZ,aFT⟩:=mP hC.1 mE uS KZ aFT;clear hC hK s10 s11 mE uS hHeld;have R7:br=false:=by rw[qU.o.eb];exact decide_eq_false (by omega)
 subst R7;obtain⟨z0,z1,zf,zl⟩:=KZ.o.e2;have aOr:=lH (aCy.o.bl dK.o);have aOn:=lH (aCx.o.bl dK.o);clear p0 pl;have e0:w.heap.size+1+1≠g10:=by have:=aCy.o.lt;omega
 have e1:w.heap.size+1+1≠g11:=by have:=aCy.o.lt;omega
 have e2:w.heap.size+1+1+1≠g10:=by have:=aCx.o.lt;omega
 have e3:w.heap.size+1+1+1≠g11:=by have:=aCx.o.lt;omega
 have aSN:w.heap.size+1+1<W.heap.size:=aCy.o.lt;have aSM:w.heap.size+1+1+1<W.heap.size:=aCx.o.lt;refine cJ (by rfl) ?_;go_simp;clear z0 z1 zf zl;generalize nA:(w5.setCell ⟨g10,0,none⟩ _).setCell ⟨g10,1,none⟩ _=w6;have aJ_:Hid (aD w6 g10 85 #[.bool bq,.slice Aq2 nq2 cq2]):=lH (by rw[<-nA];exact bD KZ.o);have E6:Hid (aD w6 g11 85 #[.bool false,.slice none 0 0]):=lH (by rw[<-nA];exact(aFT.o.far cK.symm _).far cK.symm _);have aOq:Hid (aD w6 (w.heap.size+1+1) 85 #[.bool false,.slice none 0 0]):=lH (by rw[<-nA];exact(aOr.o.far e0 _).far e0 _);have aOm:Hid (aD w6 (w.heap.size+1+1+1) 85 #[.bool false,.slice none 0 0]):=lH (by rw[<-nA];exact(aOn.o.far e2 _).far e2 _);have d6:Hid (Below W.heap.size W w6):=lH (by rw[<-nA];exact bQ dK.o aMN);have HQ6:Hid (bE w6 w6.heap.size ((x / y:Nat):Int) bq Aq2 nq2 cq2):=lH (by rw[<-nA];exact(pU.o.keep (KZ.o.cell 0) (by simp) _).keep ((KZ.o.set_ 0 (.bool bq)).cell 1) (by simp) _);have HR6:Hid (bE w6 w6.heap.size ((x % y:Nat):Int) false Ar2 nr2 cr2):=lH (by rw[<-nA];exact(qU.o.keep (KZ.o.cell 0) (by simp) _).keep ((KZ.o.set_ 0 (.bool bq)).cell 1) (by simp) _);clear nA;obtain⟨z0,z1,zf,zl⟩:=E6.o.e2;refine cJ (by rfl) ?_;go_simp;clear z0 z1 zf zl;generalize CL:(w6.setCell ⟨g11,0,none⟩ _).setCell ⟨g11,1,none⟩ _=w7;have P6:Hid (aD w7 g10 85 #[.bool bq,.slice Aq2 nq2 cq2]):=lH (by rw[<-CL];exact(aJ_.o.far cK _).far cK _);have aDP:Hid (aD w7 g11 85 #[.bool false,.slice Ar2 nr2 cr2]):=lH (by rw[<-CL];exact bD E6.o);have S3:Hid (aD w7 (w.heap.size+1+1) 85 #[.bool false,.slice none 0 0]):=lH (by rw[<-CL];exact(aOq.o.far e1 _).far e1 _);have aJD:Hid (aD w7 (w.heap.size+1+1+1) 85 #[.bool false,.slice none 0 0]):=lH (by rw[<-CL];exact(aOm.o.far e3 _).far e3 _);have gN:Hid (Below W.heap.size W w7):=lH (by rw[<-CL];exact bQ d6.o aMM);have N1:Hid (bE w7 w7.heap.size ((x / y:Nat):Int) bq Aq2 nq2 cq2):=lH (by rw[<-CL];exact(HQ6.o.keep (E6.o.cell 0) (by simp) _).keep ((E6.o.set_ 0 (.bool false)).cell 1) (by simp) _);have HR7:Hid (bE w7 w7.heap.size ((x % y:Nat):Int) false Ar2 nr2 cr2):=lH (by rw[<-CL];exact(HR6.o.keep (E6.o.cell 0) (by simp) _).keep ((E6.o.set_ 0 (.bool false)).cell 1) (by simp) _);clear CL;have vQ:Hid (Below w.heap.size w w7):=lH (cR.o.tm gN.o);have a0:=P6.o.cell 0;have a1:=P6.o.cell 1;have al:=P6.o.lt;obtain⟨b0,b1,bl⟩:=aDP.o.b2;obtain⟨c0,c1,cf,cl⟩:=S3.o.e2;obtain⟨d0,d1,df,dl⟩:=aJD.o.e2
 go_wp2_with fail
 refine bC (S:=fun w'=>w'.cell? ⟨g10,0,none⟩=some (.bool bq)/\w'.cell? ⟨g10,1,none⟩=some (.slice Aq2 nq2 cq2)/\w'.cell? ⟨g11,0,none⟩=some (.bool false)/\w'.cell? ⟨g11,1,none⟩=some (.slice Ar2 nr2 cr2)) 3 _ (by kernel_rfl) (by kernel_rfl) rfl ⟨a0,a1,b0,b1⟩ (fun hHeld=>?_);simp only[oO,List.take_zero];refine gK 0 (v:=?_) ?_ hHeld ?_;rotate_left 1
 ·intro w' hSw;obtain⟨s0,s1,s2,s3⟩:=hSw;go_simp<;>with_reducible rfl
 try simp only[Act.put,iG,iF,iE]
 refine gK 1 (v:=?_) ?_ hHeld ?_;rotate_left 1
 ·intro w' hSw;obtain⟨s0,s1,s2,s3⟩:=hSw;go_simp<;>with_reducible rfl
 try simp only[Act.put,iG,iF,iE]
 clear a0 a1 b0 b1 d0 d1 df dl al bl;have e4:g10≠w.heap.size+1+1:=e0.symm;have e5:g11≠w.heap.size+1+1:=e1.symm;have e6:w.heap.size+1+1+1≠w.heap.size+1+1:=by omega
 have aMG:w.heap.size<=w.heap.size+1+1:=by omega
 have aMF:w.heap.size<=w.heap.size+1+1+1:=by omega
 refine bI 2 (fun K hK=>?_);go_simp;clear c0 c1 cf cl;generalize K8:(w7.setCell ⟨w.heap.size+1+1,0,none⟩ _).setCell ⟨w.heap.size+1+1,1,none⟩ _=w8;have aDQ:Hid (aD w8 g10 85 #[.bool bq,.slice Aq2 nq2 cq2]):=lH (by rw[<-K8];exact(P6.o.far e4 _).far e4 _);have aDO:Hid (aD w8 g11 85 #[.bool false,.slice Ar2 nr2 cr2]):=lH (by rw[<-K8];exact(aDP.o.far e5 _).far e5 _);have aOp:Hid (aD w8 (w.heap.size+1+1) 85 #[.bool bq,.slice Aq2 nq2 cq2]):=lH (by rw[<-K8];exact bD S3.o);have S2:Hid (aD w8 (w.heap.size+1+1+1) 85 #[.bool false,.slice none 0 0]):=lH (by rw[<-K8];exact(aJD.o.far e6 _).far e6 _);have hX:Hid (Below w.heap.size w w8):=lH (by rw[<-K8];exact bQ vQ.o aMG);have HQ8:Hid (bE w8 w8.heap.size ((x / y:Nat):Int) bq Aq2 nq2 cq2):=lH (by rw[<-K8];exact(N1.o.keep (S3.o.cell 0) (by simp) _).keep ((S3.o.set_ 0 (.bool bq)).cell 1) (by simp) _);have HR8:Hid (bE w8 w8.heap.size ((x % y:Nat):Int) false Ar2 nr2 cr2):=lH (by rw[<-K8];exact(HR7.o.keep (S3.o.cell 0) (by simp) _).keep ((S3.o.set_ 0 (.bool bq)).cell 1) (by simp) _);clear K8;refine hK.out _ _ ?_ (fun hHeld=>?_)
 ·exact⟨aDQ.o.cell 0,aDQ.o.cell 1,aDO.o.cell 0,aDO.o.cell 1⟩
 clear hK K
 try simp only[Act.put,iG,iF,iE]
 refine fZ ?_;obtain⟨d0,d1,df,dl⟩:=S2.o.e2
 go_wp2_with fail
 clear d0 d1 df dl;generalize xW:(w8.setCell ⟨w.heap.size+1+1+1,0,none⟩ _).setCell ⟨w.heap.size+1+1+1,1,none⟩ _=w9;have aOo:Hid (aD w9 (w.heap.size+1+1) 85 #[.bool bq,.slice Aq2 nq2 cq2]):=lH (by rw[<-xW];exact(aOp.o.far e6.symm _).far e6.symm _);have aOl:Hid (aD w9 (w.heap.size+1+1+1) 85 #[.bool false,.slice Ar2 nr2 cr2]):=lH (by rw[<-xW];exact bD S2.o);have eU:Hid (Below w.heap.size w w9):=lH (by rw[<-xW];exact bQ hX.o aMF);have HQ9:Hid (bE w9 w9.heap.size ((x / y:Nat):Int) bq Aq2 nq2 cq2):=lH (by rw[<-xW];exact(HQ8.o.keep (S2.o.cell 0) (by simp) _).keep ((S2.o.set_ 0 (.bool false)).cell 1) (by simp) _);have HR9:Hid (bE w9 w9.heap.size ((x % y:Nat):Int) false Ar2 nr2 cr2):=lH (by rw[<-xW];exact(HR8.o.keep (S2.o.cell 0) (by simp) _).keep ((S2.o.set_ 0 (.bool false)).cell 1) (by simp) _);clear xW;obtain⟨q0,q1⟩:=aOo.o.a2;obtain⟨q2,q3⟩:=aOl.o.a2;exact bodyPost_ret (v:=.tuple #[.agg #[.bool bq,.slice Aq2 nq2 cq2],.agg #[.bool false,.slice Ar2 nr2 cr2]]) (by simp[results,Tryz.results130,go_sem,q0,q1,q2,q3]) rfl ⟨aH eU.o,bq,Aq2,nq2,cq2,false,Ar2,nr2,cr2,rfl,HQ9.o.up (aH bR),HR9.o.up (aH bR)⟩
theorem MM{z:Int}{b:Bool}{A:OA}{c:Nat}(h:bE w B z b A n c):bE w B (z.natAbs:Int) false A n c:=
 ⟨by simp,by rw[Int.natAbs_natCast];exact h.en,by rw[Int.natAbs_natCast];exact h.rd,h.nc,h.cm⟩
theorem O5(y0 z0:Int)(b1:Bool)(A:OA)(n c:Nat)(b2:Bool)(B:OA)(m d:Nat)(w:Wo)(h1:bE w w.heap.size y0 b1 A n c)(h2:bE w w.heap.size z0 b2 B m d)(hn:n<=35184372088832)(hm:m<=35184372088832):Calls Tryz.prog 129 #[.agg #[.bool b1,.slice A n c],.agg #[.bool b2,.slice B m d]] w (SV ((y0.natAbs.gcd z0.natAbs:Nat):Int) w):=by
 have cI:Hid (Below w.heap.size w (((w.alloc (aK false A n c)).alloc (aK false B m d)).alloc bU)):=lH (((bA).alloc (by simp) _).alloc (by simp;omega) _);have dE:Hid (aD (((w.alloc (aK false A n c)).alloc (aK false B m d)).alloc bU) w.heap.size 85 #[.bool false,.slice A n c]):=lH (((aD.new w _ _).alloc _).alloc _);have eT:Hid (aD (((w.alloc (aK false A n c)).alloc (aK false B m d)).alloc bU) (w.heap.size+1) 85 #[.bool false,.slice B m d]):=lH ((aD.new_ (by simp)).alloc _);have HR:Hid (aD (((w.alloc (aK false A n c)).alloc (aK false B m d)).alloc bU) (w.heap.size+1+1) 85 #[.bool false,.slice none 0 0]):=lH (aD.new_ (by simp));have H1b:=lH (MM (h1.up cI.o));have H2b:=lH (MM (h2.up cI.o));clear h1 h2;have e01:w.heap.size≠w.heap.size+1:=by omega
 have e10:w.heap.size+1≠w.heap.size:=by omega
 have e20:w.heap.size+1+1≠w.heap.size:=by omega
 have e21:w.heap.size+1+1≠w.heap.size+1:=by omega
 obtain⟨GG,hG⟩:∃g,y0.natAbs.gcd z0.natAbs=g:=⟨_,rfl⟩;rw[hG];go_enter Tryz.func129,Tryz.ntmps129
 go_wp2_with fail
 generalize (((w.alloc (aK false A n c)).alloc (aK false B m d)).alloc bU)=W1 at *
 go_loopg [5] z0.natAbs (fun k v5 wr=>∃(x y:Nat)(A:OA)(n c:Nat)(B:OA)(m d:Nat),k=y/\x.gcd y=GG/\Below w.heap.size w wr/\aD wr w.heap.size 85 #[.bool false,.slice A n c]/\aD wr (w.heap.size+1) 85 #[.bool false,.slice B m d]/\aD wr (w.heap.size+1+1) 85 #[.bool false,.slice none 0 0]/\bE wr wr.heap.size (x:Int) false A n c/\bE wr wr.heap.size (y:Int) false B m d/\n<=35184372088832/\m<=35184372088832)
 case atStart=>exact⟨_,_,A,n,c,B,m,d,rfl,hG,cI.o,dE.o,eT.o,HR.o,H1b.o,H2b.o,hn,hm⟩
 case round=>
  clear cI dE eT HR H1b H2b hn hm hG;obtain⟨x,y,A,n,c,B,m,d,hk,hg,R7,K_,hp3,hp4,hx,hy,hn,hm⟩:=hrel;have HKY:=lH hk;clear hk;obtain⟨HG,zS,qV,KV,vO⟩:=mP hg R7 K_ hp3 hp4;obtain⟨HX,HY,P1⟩:=eR hx hy hm;obtain⟨z0,z1,zl⟩:=KV.o.b2;clear hg R7 K_ hp3 hp4 hx hy hm;(go_wp2_with fail);refine(wV (y:Int) false B m d wr HY.o).mono ?_;rintro e w1 ⟨rfl,bG⟩;clear z0 z1 zl;have aFX:=bX zS bG;obtain⟨aCD,aFG,aAa,dE,pD⟩:=mP (qV.o.bl bG) (KV.o.bl bG) (vO.o.bl bG) (HX.o.up bG) (HY.o.up bG);clear bG zS qV KV vO HX HY;by_cases hy:y=0
  ·subst hy
   have hs:((0:Nat):Int).sign=0:=rfl;rw[hs];clear hs;have hgx:x=GG:=by rw[<-HG.o,Nat.gcd_zero_right]
   subst hgx;obtain⟨a0,a1,al⟩:=aCD.o.b2;have mF:w.heap.size<=w.heap.size+1+1:=by omega
   obtain⟨z0,z1,zf,zl⟩:=aAa.o.e2;(go_wp2_with fail);generalize dO:(w1.setCell ⟨_,0,none⟩ _).setCell ⟨_,1,none⟩ _=W9;have fO:=lH (kX (e:=.returned (.agg #[.bool false,.slice A n c])) aFX.o mF aAa.o (by simp) (by simp) dE.o rfl);rw[dO] at fO;have eU:Hid (aD W9 _ 85 #[.bool false,.slice A n c]):=lH (by rw[<-dO];exact bD aAa.o);clear dO z0 z1 zf zl;obtain⟨q0,q1⟩:=eU.o.a2;exact bodyPost_ret (v:=.agg #[.bool false,.slice A n c]) (by simp[results,Tryz.results129,go_sem,q0,q1]) rfl fO.o
  ·have hs:(y:Int).sign=1:=Int.sign_eq_one_of_pos (by omega)
   rw[hs];clear hs;have uP:0<y:=by omega
   clear hy;obtain⟨a0,a1,al⟩:=aCD.o.b2;obtain⟨z0,z1,zl⟩:=aFG.o.b2;have hxn:n=cE x:=by rw[dE.o.en,Int.natAbs_natCast]
   have hyn:m=cE y:=by rw[pD.o.en,Int.natAbs_natCast]
   have GU:=dE.o.nc;have JI:=dE.o.cm;clear hxn hyn;(go_wp2_with fail);refine(J1 A n c B m d x y w1 (by have:=dE.o.rd;exact this) (by have:=pD.o.rd;exact this) uP GU JI hn P1.o).mono ?_;rintro e W2 ⟨bV,Aq,nq,cq,lq,Ar,nr,cr,lr,rfl,-,⟨MW,uS,w_,EB,vK⟩,-,hnr⟩;clear a0 a1 al z0 z1 zl;have HBr:=bX aFX bV;obtain⟨qV,KV,vO,r9⟩:=gO (aCD.o.bl bV) (aFG.o.bl bV) (aAa.o.bl bV) (pD.o.up bV);have vH:Hid (gF W2.drew W2.drew.heap.size Ar nr lr):=lH MW;have PX:=lH uS;have HRV:Hid (wC false (wv lr)=((x % y:Nat):Int)):=lH (by rw[w_];rfl);clear bV MW uS w_ EB vK aFX aCD aFG aAa dE pD GU JI;obtain⟨z0,z1,zl⟩:=KV.o.b2;(go_wp2_with fail);refine bC (S:=fun w'=>w'.cell? ⟨w.heap.size+1,0,none⟩=some (.bool false)/\w'.cell? ⟨w.heap.size+1,1,none⟩=some (.slice B m d)) 5 _ (by kernel_rfl) (by kernel_rfl) rfl ⟨z0,z1⟩ (fun hHeld=>?_);simp only[oO,List.take_zero];refine gK 0 (v:=?_) ?_ hHeld ?_;rotate_left 1
   ·intro w' hSw;obtain⟨s0,s1⟩:=hSw;go_simp<;>with_reducible rfl
   (try simp only[Act.put,iG,iF,iE]);refine gK 1 (v:=?_) ?_ hHeld ?_;rotate_left 1
   ·intro w' hSw;obtain⟨s0,s1⟩:=hSw;go_simp<;>with_reducible rfl
   (try simp only[Act.put,iG,iF,iE]);clear z0 z1;refine bI 2 (fun K hK=>?_);go_simp;refine(NL Ar nr cr lr W2.drew vH.o (by omega)).mono ?_;rintro e w3 ⟨eF,A3,c3,rfl,w_,hn3,hc3⟩;have gY:=lH ((aH (Below.refl W2.heap.size W2)).trans eF);have E5:=lH w_;clear eF w_;go_simp;refine hK.out _ _ ?_ (fun hHeld=>?_)
   ·exact⟨(KV.o.bl gY.o).cell 0,(KV.o.bl gY.o).cell 1⟩
   clear hK K;(try simp only[Act.put,iG,iF,iE]);refine bI 3 (fun K hK=>?_);go_simp;refine(gU false A3 nr c3 lr w3 E5.o PX.o hn3 hc3).mono ?_;rw[HRV.o];rintro e w4 ⟨h_,b4,A4,n4,c4,rfl,h4⟩;have bH:=bX gY h_;have H4:=lH h4;clear h_ h4 hn3 hc3 E5;go_simp;refine hK.out _ _ ?_ (fun hHeld=>?_)
   ·exact⟨(KV.o.bl bH.o).cell 0,(KV.o.bl bH.o).cell 1⟩
   clear hK K;(try simp only[Act.put,iG,iF,iE]);have aET:b4=false:=by rw[H4.o.eb];exact decide_eq_false (by omega)
   subst aET;obtain⟨S7,aOE,aOz⟩:=eR (qV.o.bl bH.o) (KV.o.bl bH.o) (vO.o.bl bH.o);obtain⟨z0,z1,zf,zl⟩:=S7.o.e2;refine bI 4 (fun K hK=>?_);go_simp;clear z0 z1 zf zl;generalize MR:(w4.setCell ⟨w.heap.size,0,none⟩ _).setCell ⟨w.heap.size,1,none⟩ _=w5;have aFI:Hid (aD w5 w.heap.size 85 #[.bool false,.slice B m d]):=lH (by rw[<-MR];exact bD S7.o);have tK:Hid (aD w5 (w.heap.size+1) 85 #[.bool false,.slice B m d]):=lH (by rw[<-MR];exact(aOE.o.far e10 _).far e10 _);have aFE:Hid (aD w5 (w.heap.size+1+1) 85 #[.bool false,.slice none 0 0]):=lH (by rw[<-MR];exact(aOz.o.far e20 _).far e20 _);have HBc:Hid (Below w.heap.size w w5):=lH (by rw[<-MR];exact bQ (HBr.o.tm bH.o) lR);have HYc:Hid (bE w5 w5.heap.size (y:Int) false B m d):=lH (by rw[<-MR];exact((r9.o.up bH.o).keep (S7.o.cell 0) (by simp) _).keep ((S7.o.set_ 0 (.bool false)).cell 1) (by simp) _);have HRc:Hid (bE w5 w5.heap.size ((x % y:Nat):Int) false A4 n4 c4):=lH (by rw[<-MR];exact(H4.o.keep (S7.o.cell 0) (by simp) _).keep ((S7.o.set_ 0 (.bool false)).cell 1) (by simp) _);clear MR;refine hK.out _ _ ?_ (fun hHeld=>?_)
   ·exact⟨tK.o.cell 0,tK.o.cell 1⟩
   clear hK K;(try simp only[Act.put,iG,iF,iE]);refine fZ ?_;obtain⟨z0,z1,zf,zl⟩:=tK.o.e2;(go_wp2_with fail);clear z0 z1 zf zl;generalize nA:(w5.setCell ⟨w.heap.size+1,0,none⟩ _).setCell ⟨w.heap.size+1,1,none⟩ _=w6;have aFH:Hid (aD w6 w.heap.size 85 #[.bool false,.slice B m d]):=lH (by rw[<-nA];exact(aFI.o.far e01 _).far e01 _);have aFF:Hid (aD w6 (w.heap.size+1) 85 #[.bool false,.slice A4 n4 c4]):=lH (by rw[<-nA];exact bD tK.o);have aFD:Hid (aD w6 (w.heap.size+1+1) 85 #[.bool false,.slice none 0 0]):=lH (by rw[<-nA];exact(aFE.o.far e21 _).far e21 _);have HBd:Hid (Below w.heap.size w w6):=lH (by rw[<-nA];exact bQ HBc.o (Nat.le_succ _));have HYd:Hid (bE w6 w6.heap.size (y:Int) false B m d):=lH (by rw[<-nA];exact(HYc.o.keep (tK.o.cell 0) (by simp) _).keep ((tK.o.set_ 0 (.bool false)).cell 1) (by simp) _);have HRd:Hid (bE w6 w6.heap.size ((x % y:Nat):Int) false A4 n4 c4):=lH (by rw[<-nA];exact(HRc.o.keep (tK.o.cell 0) (by simp) _).keep ((tK.o.set_ 0 (.bool false)).cell 1) (by simp) _);clear nA;have HM4:Hid (n4<=35184372088832):=lH (by rw[HRc.o.en];refine eN ?_ P1.o;rw[HYc.o.en];exact g_ (by rw[Int.natAbs_natCast,Int.natAbs_natCast];exact qY (Nat.mod_lt _ uP)));have HGC:Hid (y.gcd (x % y)=GG):=lH (by rw[<-HG.o,Nat.gcd_comm x y,Nat.gcd_rec y x,Nat.gcd_comm]);have N5:Hid (x % y<gk):=lH (by rw[HKY.o];exact Nat.mod_lt _ uP)
   go_roundg (x % y)
   case rel=>exact⟨y,x % y,B,m,d,A4,n4,c4,rfl,HGC.o,HBd.o,aFH.o,aFF.o,aFD.o,HYd.o,HRd.o,P1.o,HM4.o⟩
   case measure=>exact N5.o
def RtS(q:Rat)(w wc:Wo):Prop:=∃(y:Int)(k:Nat)(b1:Bool)(A:OA)(n c:Nat)(B:OA)(m d:Nat),0<k/\q=Rat.divInt y (k:Int)/\Below w.heap.size w wc/\aD wc w.heap.size 85 #[.bool b1,.slice A n c]/\aD wc (w.heap.size+1) 85 #[.bool false,.slice B m d]/\aD wc (w.heap.size+1+1) 87 #[.bool false,.slice none 0 0,.bool false,.slice none 0 0]/\bE wc wc.heap.size y b1 A n c/\bE wc wc.heap.size (k:Int) false B m d/\n<=35184372088832/\m<=35184372088832
theorem q8(y z:Int)(b1:Bool)(A:OA)(n c:Nat)(b2:Bool)(B:OA)(m d:Nat)(w:Wo)(h1:bE w w.heap.size y b1 A n c)(h2:bE w w.heap.size z b2 B m d)(hz:z≠0)(hn:n<=35184372088832)(hm:m<=35184372088832):Calls Tryz.prog 95 #[.agg #[.bool b1,.slice A n c],.agg #[.bool b2,.slice B m d]] w (PU (Rat.divInt y z) w):=by
 obtain⟨HYN,HZM,dB⟩:=eR h1.en h2.en h2.eb;have cI:Hid (Below w.heap.size w (((w.alloc (aK b1 A n c)).alloc (aK b2 B m d)).alloc dC)):=lH (((bA).alloc (by simp) _).alloc (by simp;omega) _);have dE:Hid (aD (((w.alloc (aK b1 A n c)).alloc (aK b2 B m d)).alloc dC) w.heap.size 85 #[.bool b1,.slice A n c]):=lH (((aD.new w _ _).alloc _).alloc _);have eT:Hid (aD (((w.alloc (aK b1 A n c)).alloc (aK b2 B m d)).alloc dC) (w.heap.size+1) 85 #[.bool b2,.slice B m d]):=lH ((aD.new_ (by simp)).alloc _);have HR:Hid (aD (((w.alloc (aK b1 A n c)).alloc (aK b2 B m d)).alloc dC) (w.heap.size+1+1) 87 #[.bool false,.slice none 0 0,.bool false,.slice none 0 0]):=lH (aD.new_ (by simp));have H1:=lH (h1.up cI.o);have H2:=lH (h2.up cI.o);have e01:w.heap.size≠w.heap.size+1:=by omega
 have e10:w.heap.size+1≠w.heap.size:=by omega
 have e20:w.heap.size+1+1≠w.heap.size:=by omega
 have e21:w.heap.size+1+1≠w.heap.size+1:=by omega
 clear h1 h2;go_enter Tryz.func95,Tryz.ntmps95
 go_upto_region 1 with fail
 generalize (((w.alloc (aK b1 A n c)).alloc (aK b2 B m d)).alloc dC)=W at *;obtain⟨p0,p1,pl⟩:=dE.o.b2;obtain⟨q0,q1,ql⟩:=eT.o.b2
 go_upto_if 8 with fail
 go_cut [] (fun wc=>RtS (Rat.divInt y z) w wc)
 case first=>
  cases b2 with
  | true=>
   have kT:z<0:=by simpa using dB.o.symm
   have HH1:Hid (bE W.drew W.drew.heap.size y b1 A n c):=lH (H1.o.up (aH bR));have HH2:Hid (bE W.drew W.drew.heap.size z true B m d):=lH (H2.o.up (aH bR));clear dB;(go_wp2_with fail);refine fX (S:=fun w'=>Below W.heap.size W w') 4 _ _ (by kernel_rfl) (by kernel_rfl) (by kernel_rfl) rfl rfl (aH bR) (fun hHeld=>?_);simp only[oO,List.take_zero];refine d7 [0,2] ?_;refine bI 1 (fun K hK=>?_);go_simp;refine(zH y b1 A n c W.drew HH1.o).mono ?_;rintro e w3 ⟨eF,b3,A3,n3,c3,rfl,h3⟩;obtain⟨gY,H3,aOS⟩:=eR ((aH (Below.refl W.heap.size W)).trans eF) h3 (HH2.o.up eF);clear eF h3;go_simp;refine iJ hK gY.o (fun hHeld=>?_);clear hK K;refine bI 3 (fun K hK=>?_);go_simp;refine(zH z true B m d w3 aOS.o).mono ?_;rintro e w4 ⟨h_,b4,A4,n4,c4,rfl,h4⟩;have bH:=bX gY h_;have H4:=lH h4;have H3b:=lH (H3.o.up h_);clear h_ h4;go_simp;refine iJ hK bH.o (fun hHeld=>?_);clear hK K;refine fZ ?_;obtain⟨qV,KV,vO,HBB⟩:=gO (dE.o.bl bH.o) (eT.o.bl bH.o) (HR.o.bl bH.o) (cI.o.tm bH.o);clear p0 p1 q0 q1 pl ql;obtain⟨z0,z1,zf,zl⟩:=qV.o.e2;go_simp;clear z0 z1 zf zl;generalize MR:(w4.setCell ⟨w.heap.size,0,none⟩ _).setCell ⟨w.heap.size,1,none⟩ _=w5;have aFI:Hid (aD w5 w.heap.size 85 #[.bool b3,.slice A3 n3 c3]):=lH (by rw[<-MR];exact bD qV.o);have tK:Hid (aD w5 (w.heap.size+1) 85 #[.bool true,.slice B m d]):=lH (by rw[<-MR];exact(KV.o.far e10 _).far e10 _);have aFE:Hid (aD w5 (w.heap.size+1+1) 87 #[.bool false,.slice none 0 0,.bool false,.slice none 0 0]):=lH (by rw[<-MR];exact(vO.o.far e20 _).far e20 _);have HBc:Hid (Below w.heap.size w w5):=lH (by rw[<-MR];exact bQ HBB.o lR);have HNc:Hid (bE w5 w5.heap.size (-y) b3 A3 n3 c3):=lH (by rw[<-MR];exact(H3b.o.keep (qV.o.cell 0) (by simp) _).keep ((qV.o.set_ 0 (.bool b3)).cell 1) (by simp) _);have HDc:Hid (bE w5 w5.heap.size (-z) b4 A4 n4 c4):=lH (by rw[<-MR];exact(H4.o.keep (qV.o.cell 0) (by simp) _).keep ((qV.o.set_ 0 (.bool b3)).cell 1) (by simp) _);clear MR;refine cJ (by rfl) ?_;obtain⟨z0,z1,zf,zl⟩:=tK.o.e2;(go_wp2_with fail);clear z0 z1 zf zl;generalize nA:(w5.setCell ⟨w.heap.size+1,0,none⟩ _).setCell ⟨w.heap.size+1,1,none⟩ _=w6;have aFH:Hid (aD w6 w.heap.size 85 #[.bool b3,.slice A3 n3 c3]):=lH (by rw[<-nA];exact(aFI.o.far e01 _).far e01 _);have aFF:Hid (aD w6 (w.heap.size+1) 85 #[.bool b4,.slice A4 n4 c4]):=lH (by rw[<-nA];exact bD tK.o);have aFD:Hid (aD w6 (w.heap.size+1+1) 87 #[.bool false,.slice none 0 0,.bool false,.slice none 0 0]):=lH (by rw[<-nA];exact(aFE.o.far e21 _).far e21 _);have HBd:Hid (Below w.heap.size w w6):=lH (by rw[<-nA];exact bQ HBc.o (Nat.le_succ _));have HNd:Hid (bE w6 w6.heap.size (-y) b3 A3 n3 c3):=lH (by rw[<-nA];exact(HNc.o.keep (tK.o.cell 0) (by simp) _).keep ((tK.o.set_ 0 (.bool b4)).cell 1) (by simp) _);have HDd:Hid (bE w6 w6.heap.size (-z) b4 A4 n4 c4):=lH (by rw[<-nA];exact(HDc.o.keep (tK.o.cell 0) (by simp) _).keep ((tK.o.set_ 0 (.bool b4)).cell 1) (by simp) _);clear nA;obtain⟨k,hk⟩:∃k:Nat,-z=(k:Int):=⟨(-z).toNat,by omega⟩;rw[hk] at HDd;have aET:b4=false:=by rw[HDd.o.eb];exact decide_eq_false (by omega)
   subst aET;have tL:Hid (Rat.divInt y z=Rat.divInt (-y) (k:Int)):=lH (by rw[show z=-(k:Int) from by omega];exact DT y k);have pX:0<k:=by omega
   have hn3:n3<=35184372088832:=by rw[HNd.o.en,Int.natAbs_neg,<-HYN.o];exact hn
   have hm4:n4<=35184372088832:=by rw[HDd.o.en,<-hk,Int.natAbs_neg,<-HZM.o];exact hm
   clear hk;go_meet
   case rel=>exact⟨-y,k,b3,A3,n3,c3,A4,n4,c4,pX,tL.o,HBd.o,aFH.o,aFF.o,aFD.o,HNd.o,HDd.o,hn3,hm4⟩
  | false=>
   have kT : 0 < z := by
    have : ¬ z < 0 := by simpa using dB.o.symm
    omega
   obtain⟨k,rfl⟩:∃k:Nat,z=(k:Int):=⟨z.toNat,by omega⟩;clear dB;have pX:0<k:=by omega
   (go_wp2_with fail);go_meet
   case rel=>exact⟨y,k,b1,A,n,c,B,m,d,pX,rfl,cI.o,dE.o,eT.o,HR.o,H1.o,H2.o,hn,hm⟩
 clear p0 p1 q0 q1 pl ql hn hm hz dB;generalize Rat.divInt y z=q at *;obtain⟨y,k,b1,A,n,c,B,m,d,pX,hq,hb,CK,xV,hr,h1,h2,hn,hm⟩:=hcut;obtain⟨HQ,HB,qV,KV,vO⟩:=mP hq hb CK xV hr;have HY:=lH h1;have HK:=lH h2;clear hq hb CK xV hr h1 h2;generalize wc=V at *;have mF:w.heap.size<=w.heap.size+1+1:=by omega
 have HKM:Hid (m=cE k):=lH (by rw[HK.o.en,Int.natAbs_natCast]);obtain⟨p0,p1,pl⟩:=qV.o.b2;obtain⟨q0,q1,ql⟩:=KV.o.b2
 go_upto_region 3 with fail
 go_cut [23] (fun v wc=>wc=V/\v=.bool (decide (k=1)))
 case first=>
  by_cases RY:m=1
  ·subst RY
   have aEF:k<4294967296:=by
    have:=kH k;rw[<-HKM.o] at this;exact this
   obtain⟨bb,bo,JL,pY⟩:=HK.o.rd.form (by omega);subst JL;have EH:=HK.o.rd.at_ (i:=0) (by omega);rw[Int.natAbs_natCast,kI (by omega),Nat.mod_eq_of_lt aEF,Nat.add_zero] at EH;have hc1:V.cell? ⟨bb,bo,none⟩=some (.int .u32 (k:Int)):=EH;clear EH;have M3:((k:Int) == 1)=decide (k=1):=by
    by_cases h:k=1
    ·subst h;rfl
    ·simp[h];omega
   (go_wp2_with fail);go_meet
   case rel=>exact⟨rfl,rfl⟩
  ·have hmb:((m:Int) == 1)=false:=by simp;omega
   have M3:decide (k=1)=false:=decide_eq_false fun e=>RY (by rw[HKM.o,e];exact uX (by decide) (by decide));clear RY
   (go_wp2_with fail);go_meet
   case rel=>exact⟨rfl,by rw[M3]⟩
 obtain⟨W8,rfl⟩:=hcut;subst W8;generalize wc=V at *;by_cases M4:k=1
 ·subst M4
  have K9:bS V V.heap.size q b1 A n c false B m d:=by
   obtain⟨e1,e2⟩:=wH (n:=y) (d:=1) (by decide) (Nat.gcd_one_right _);rw[HQ.o];exact⟨by rw[e1];exact HY.o,by rw[e2];exact HK.o⟩
  have HRT:=lH K9;clear K9;obtain⟨z0,z1,z2,z3,zf,zl⟩:=vO.o.e4;(go_wp2_with fail);generalize dO:(((V.setCell ⟨_,0,none⟩ _).setCell ⟨_,1,none⟩ _).setCell ⟨_,2,none⟩ _).setCell ⟨_,3,none⟩ _=W9;have fO:=lH (iP (e:=.returned (.agg #[.bool b1,.slice A n c,.bool false,.slice B m d])) HB.o mF vO.o (by simp) (by simp) (by simp) (by simp) HRT.o rfl);rw[dO] at fO;have eU:Hid (aD W9 _ 87 #[.bool b1,.slice A n c,.bool false,.slice B m d]):=lH (by rw[<-dO];exact d9 vO.o);clear dO z0 z1 z2 z3 zf zl;obtain⟨q0,q1,q2,q3⟩:=eU.o.a4;exact bodyPost_ret (v:=.agg #[.bool b1,.slice A n c,.bool false,.slice B m d]) (by simp[results,Tryz.results95,go_sem,q0,q1,q2,q3]) rfl fO.o
 ·have hkf:decide (k=1)=false:=decide_eq_false M4
  rw[hkf];clear hkf M4;(go_wp2_with fail);refine(O5 y (k:Int) b1 A n c false B m d V HY.o HK.o hn hm).mono ?_;rw[Int.natAbs_natCast];rintro e V2 ⟨bV,bg,Ag,ng,cg,rfl,iH⟩;obtain⟨g,hgg⟩:∃g,y.natAbs.gcd k=g:=⟨_,rfl⟩;rw[hgg] at iH;have HGG:=lH hgg;have XW:0<g:=by rw[<-hgg];exact Nat.gcd_pos_of_pos_right _ pX
  have hbg:bg=false:=by rw[iH.eb];exact decide_eq_false (by omega)
  subst hbg;clear p0 p1 pl q0 q1 ql hgg;have dB:=bX HB bV;obtain⟨aJQ,aJO,aJK,r9,rN⟩:=mP (qV.o.bl bV) (KV.o.bl bV) (vO.o.bl bV) (HY.o.up bV) (HK.o.up bV);have fW:=lH iH;clear bV iH;have vR:=lH ((Below.refl V2.heap.size V2).alloc lR (.cells #[.bool false,.slice Ag ng cg] 85));have S4:Hid (aD (V2.alloc (aK false Ag ng cg)) V2.heap.size 85 #[.bool false,.slice Ag ng cg]):=lH (aD.new V2 _ _);obtain⟨gY,GK,aJN,N3,HY3⟩:=mP (dB.o.tm vR.o) (aJQ.o.bl vR.o) (aJO.o.bl vR.o) (aJK.o.bl vR.o) (r9.o.up vR.o);have KX:=lH (rN.o.up vR.o);have GN:=lH (fW.o.up vR.o);have f2:V2.heap.size≠w.heap.size:=by have:=aJQ.o.lt;omega
  have f3:V2.heap.size≠w.heap.size+1:=by have:=aJO.o.lt;omega
  have f4:V2.heap.size≠w.heap.size+1+1:=by have:=aJK.o.lt;omega
  (go_upto_region 6 with fail);generalize V2.alloc (aK false Ag ng cg)=V3 at *;generalize V2.heap.size=g5 at *;have HGM:Hid (ng=cE g):=lH (by rw[GN.o.en,Int.natAbs_natCast]);obtain⟨p0,p1,pl⟩:=S4.o.b2
  go_cut [40] (fun v wd=>wd=V3/\v=.bool (decide (g=1)))
  case first=>
   by_cases RY:ng=1
   ·subst RY
    have aEF:g<4294967296:=by
     have:=kH g;rw[<-HGM.o] at this;exact this
    obtain⟨bb,bo,JL,pY⟩:=GN.o.rd.form (by omega);subst JL;have EH:=GN.o.rd.at_ (i:=0) (by omega);rw[Int.natAbs_natCast,kI (by omega),Nat.mod_eq_of_lt aEF,Nat.add_zero] at EH;have hc1:V3.cell? ⟨bb,bo,none⟩=some (.int .u32 (g:Int)):=EH;clear EH;have M3:((g:Int) == 1)=decide (g=1):=by
     by_cases h:g=1
     ·subst h;rfl
     ·simp[h];omega
    (go_wp2_with fail);go_meet
    case rel=>exact⟨rfl,rfl⟩
   ·have hmb:((ng:Int) == 1)=false:=by simp;omega
    have M3:decide (g=1)=false:=decide_eq_false fun e=>RY (by rw[HGM.o,e];exact uX (by decide) (by decide));clear RY
    (go_wp2_with fail);go_meet
    case rel=>exact⟨rfl,by rw[M3]⟩
  obtain⟨W8,rfl⟩:=hcut;subst W8;clear p0 p1 pl;generalize wc=V at *;by_cases EF:g=1
  ·subst EF
   have K9:bS V V.heap.size q b1 A n c false B m d:=by
    obtain⟨e1,e2⟩:=wH (n:=y) (d:=k) (by omega) HGG.o;rw[HQ.o];exact⟨by rw[e1];exact HY3.o,by rw[e2];exact KX.o⟩
   have HRT:=lH K9;clear K9;obtain⟨p0,p1,pl⟩:=GK.o.b2;obtain⟨q0,q1,ql⟩:=aJN.o.b2;obtain⟨z0,z1,z2,z3,zf,zl⟩:=N3.o.e4;(go_wp2_with fail);generalize dO:(((V.setCell ⟨_,0,none⟩ _).setCell ⟨_,1,none⟩ _).setCell ⟨_,2,none⟩ _).setCell ⟨_,3,none⟩ _=W9;have fO:=lH (iP (e:=.returned (.agg #[.bool b1,.slice A n c,.bool false,.slice B m d])) gY.o mF N3.o (by simp) (by simp) (by simp) (by simp) HRT.o rfl);rw[dO] at fO;have eU:Hid (aD W9 _ 87 #[.bool b1,.slice A n c,.bool false,.slice B m d]):=lH (by rw[<-dO];exact d9 N3.o);clear dO z0 z1 z2 z3 zf zl;obtain⟨q0,q1,q2,q3⟩:=eU.o.a4;exact bodyPost_ret (v:=.agg #[.bool b1,.slice A n c,.bool false,.slice B m d]) (by simp[results,Tryz.results95,go_sem,q0,q1,q2,q3]) rfl fO.o
  ·have XU:decide (g=1)=false:=decide_eq_false EF
   rw[XU];clear XU EF;obtain⟨p0,p1,pf,pl⟩:=GK.o.e2;(go_upto_region 10 with fail);clear p0 p1 pf pl;generalize yH:V.setCell ⟨w.heap.size,0,none⟩ (.bool false)=V4;have aJP:Hid (aD V4 w.heap.size 85 #[.bool false,.slice A n c]):=lH (by rw[<-yH];exact GK.o.set_at (i:=0) (.bool false) (by simp));have aOG:Hid (aD V4 (w.heap.size+1) 85 #[.bool false,.slice B m d]):=lH (by rw[<-yH];exact aJN.o.far e10 _);have aOD:Hid (aD V4 (w.heap.size+1+1) 87 #[.bool false,.slice none 0 0,.bool false,.slice none 0 0]):=lH (by rw[<-yH];exact N3.o.far e20 _);have aJJ:Hid (aD V4 g5 85 #[.bool false,.slice Ag ng cg]):=lH (by rw[<-yH];exact S4.o.far f2 _);have bH:Hid (Below w.heap.size w V4):=lH (by rw[<-yH];exact gY.o.setCell lR _);have HY4:Hid (bE V4 V4.heap.size (y.natAbs:Int) false A n c):=lH (by rw[<-yH];exact MM (HY3.o.keep (GK.o.cell 0) (by simp) _));have HK4:Hid (bE V4 V4.heap.size (k:Int) false B m d):=lH (by rw[<-yH];exact KX.o.keep (GK.o.cell 0) (by simp) _);have TC:Hid (bE V4 V4.heap.size (g:Int) false Ag ng cg):=lH (by rw[<-yH];exact GN.o.keep (GK.o.cell 0) (by simp) _);have HYB:Hid (b1=decide (y<0)):=lH HY3.o.eb;clear yH;have hng:ng<=35184372088832:=by rw[HGM.o];refine eN (g_ (n:=k) (by rw[<-HGG.o];exact Nat.gcd_le_right _ pX)) ?_;rw[<-HKM.o];exact hm
   obtain⟨p0,p1,pl⟩:=aJP.o.b2;obtain⟨q0,q1,ql⟩:=aJJ.o.b2;(go_wp2_with fail);refine(YQ y.natAbs g false A n c false Ag ng cg V4 HY4.o TC.o XW hn hng).mono ?_;clear p0 p1 pl q0 q1 ql;rintro e V5 ⟨eS,bq,Aq,nq,cq,br,Ar,nr,cr,rfl,hq5,vK⟩;clear vK;have hbq:bq=false:=by rw[hq5.eb];exact decide_eq_false (Int.not_lt.2 (Int.natCast_nonneg _))
   subst hbq;have dK:=bX bH eS;obtain⟨KW,aOF,aOC,aOy,HK5⟩:=mP (aJP.o.bl eS) (aOG.o.bl eS) (aOD.o.bl eS) (aJJ.o.bl eS) (HK4.o.up eS);have HG5:=lH (TC.o.up eS);have HQ5:=lH hq5;clear eS hq5;obtain⟨p0,p1,pf,pl⟩:=KW.o.e2;(go_upto_region 11 with fail);clear p0 p1 pf pl;generalize nA:(V5.setCell ⟨w.heap.size,0,none⟩ (.bool false)).setCell ⟨w.heap.size,1,none⟩ (.slice Aq nq cq)=V6;have aOI:Hid (aD V6 w.heap.size 85 #[.bool false,.slice Aq nq cq]):=lH (by rw[<-nA];exact bD KW.o);have aJM:Hid (aD V6 (w.heap.size+1) 85 #[.bool false,.slice B m d]):=lH (by rw[<-nA];exact(aOF.o.far e10 _).far e10 _);have aOB:Hid (aD V6 (w.heap.size+1+1) 87 #[.bool false,.slice none 0 0,.bool false,.slice none 0 0]):=lH (by rw[<-nA];exact(aOC.o.far e20 _).far e20 _);have aOx:Hid (aD V6 g5 85 #[.bool false,.slice Ag ng cg]):=lH (by rw[<-nA];exact(aOy.o.far f2 _).far f2 _);have d6:Hid (Below w.heap.size w V6):=lH (by rw[<-nA];exact bQ dK.o lR);have HQ6:Hid (bE V6 V6.heap.size ((y.natAbs / g:Nat):Int) false Aq nq cq):=lH (by rw[<-nA];exact(HQ5.o.keep (KW.o.cell 0) (by simp) _).keep ((KW.o.set_ 0 (.bool false)).cell 1) (by simp) _);have HK6:Hid (bE V6 V6.heap.size (k:Int) false B m d):=lH (by rw[<-nA];exact(HK5.o.keep (KW.o.cell 0) (by simp) _).keep ((KW.o.set_ 0 (.bool false)).cell 1) (by simp) _);have HG6:Hid (bE V6 V6.heap.size (g:Int) false Ag ng cg):=lH (by rw[<-nA];exact(HG5.o.keep (KW.o.cell 0) (by simp) _).keep ((KW.o.set_ 0 (.bool false)).cell 1) (by simp) _);clear nA;obtain⟨p0,p1,pl⟩:=aJM.o.b2;obtain⟨q0,q1,ql⟩:=aOx.o.b2;(go_wp2_with fail);refine(YQ k g false B m d false Ag ng cg V6 HK6.o HG6.o XW hm hng).mono ?_;clear p0 p1 pl q0 q1 ql;rintro e V7 ⟨fR,bk,Ak,nk,ck,br,Ar,nr,cr,rfl,hk7,hr7⟩;clear hr7;have xA:bk=false:=by rw[hk7.eb];exact decide_eq_false (Int.not_lt.2 (Int.natCast_nonneg _))
   subst xA;have gN:=bX d6 fR;obtain⟨aOH,S6,aOA,N1,HK7⟩:=mP (aOI.o.bl fR) (aJM.o.bl fR) (aOB.o.bl fR) (HQ6.o.up fR) hk7;clear fR hk7;obtain⟨p0,p1,pf,pl⟩:=S6.o.e2;(go_upto_region 12 with fail);clear p0 p1 pf pl;generalize K8:(V7.setCell ⟨w.heap.size+1,0,none⟩ (.bool false)).setCell ⟨w.heap.size+1,1,none⟩ (.slice Ak nk ck)=V8;have GJ:Hid (aD V8 w.heap.size 85 #[.bool false,.slice Aq nq cq]):=lH (by rw[<-K8];exact(aOH.o.far e01 _).far e01 _);have aJL:Hid (aD V8 (w.heap.size+1) 85 #[.bool false,.slice Ak nk ck]):=lH (by rw[<-K8];exact bD S6.o);have N2:Hid (aD V8 (w.heap.size+1+1) 87 #[.bool false,.slice none 0 0,.bool false,.slice none 0 0]):=lH (by rw[<-K8];exact(aOA.o.far e21 _).far e21 _);have hX:Hid (Below w.heap.size w V8):=lH (by rw[<-K8];exact bQ gN.o (Nat.le_succ _));have HQ8:Hid (bE V8 V8.heap.size ((y.natAbs / g:Nat):Int) false Aq nq cq):=lH (by rw[<-K8];exact(N1.o.keep (S6.o.cell 0) (by simp) _).keep ((S6.o.set_ 0 (.bool false)).cell 1) (by simp) _);have HK8:Hid (bE V8 V8.heap.size ((k / g:Nat):Int) false Ak nk ck):=lH (by rw[<-K8];exact(HK7.o.keep (S6.o.cell 0) (by simp) _).keep ((S6.o.set_ 0 (.bool false)).cell 1) (by simp) _);clear K8;have HNQ:Hid (b1=true->0<nq):=lH fun hb=>by
    rw[HQ8.o.en,Int.natAbs_natCast];have uP:y<0:=by have:=HYB.o;rw[hb] at this;simpa using this.symm
    have hdv:g∣y.natAbs:=by rw[<-HGG.o];exact Nat.gcd_dvd_left _ _
    have:0<y.natAbs / g:=Nat.div_pos (Nat.le_of_dvd (by omega) hdv) XW;rw[gV (by omega)];omega
   have K9:∀W,bE W W.heap.size ((y.natAbs / g:Nat):Int) false Aq nq cq->bE W W.heap.size ((k / g:Nat):Int) false Ak nk ck->bS W W.heap.size q b1 Aq nq cq false Ak nk ck:=fun W g1 g2=>by
    obtain⟨e1,e2⟩:=q_ y (d:=k) (by omega);obtain⟨_,e3⟩:=lL y (d:=k) (by omega);rw[HGG.o] at e1 e3;rw[HQ.o];refine⟨⟨?_,?_,?_,g1.nc,g1.cm⟩,by rw[e3];exact g2⟩
    ·rw[HYB.o];exact decide_eq_decide.2 e2
    ·rw[e1,g1.en,Int.natAbs_natCast]
    ·rw[e1];have:=g1.rd;rwa[Int.natAbs_natCast] at this
   have HRT:=lH K9;clear K9;obtain⟨p0,p1,pf,pl⟩:=GJ.o.e2;cases b1 with
   | true=>
    have hnq:0<nq:=HNQ.o rfl;(go_upto_region 13 with fail);clear p0 p1 pf pl;generalize xW:V8.setCell ⟨w.heap.size,0,none⟩ (.bool true)=V9;have aAb:Hid (aD V9 w.heap.size 85 #[.bool true,.slice Aq nq cq]):=lH (by rw[<-xW];exact GJ.o.set_at (i:=0) (.bool true) (by simp));have S5:Hid (aD V9 (w.heap.size+1) 85 #[.bool false,.slice Ak nk ck]):=lH (by rw[<-xW];exact aJL.o.far e10 _);have GI:Hid (aD V9 (w.heap.size+1+1) 87 #[.bool false,.slice none 0 0,.bool false,.slice none 0 0]):=lH (by rw[<-xW];exact N2.o.far e20 _);have eU:Hid (Below w.heap.size w V9):=lH (by rw[<-xW];exact hX.o.setCell lR _);have aFx:Hid (bS V9 V9.heap.size q true Aq nq cq false Ak nk ck):=lH (by rw[<-xW];exact HRT.o _ (HQ8.o.keep (GJ.o.cell 0) (by simp) _) (HK8.o.keep (GJ.o.cell 0) (by simp) _));clear xW;obtain⟨p0,p1,pl⟩:=aAb.o.b2;obtain⟨q0,q1⟩:=S5.o.a2;have ql:=S5.o.lt;obtain⟨z0,z1,z2,z3,zf,zl⟩:=GI.o.e4;(go_wp2_with fail);generalize dO:(((V9.setCell ⟨_,0,none⟩ _).setCell ⟨_,1,none⟩ _).setCell ⟨_,2,none⟩ _).setCell ⟨_,3,none⟩ _=W9;have fO:=lH (iP (e:=.returned (.agg #[.bool true,.slice Aq nq cq,.bool false,.slice Ak nk ck])) eU.o mF GI.o (by simp) (by simp) (by simp) (by simp) aFx.o rfl);rw[dO] at fO;have eU:Hid (aD W9 _ 87 #[.bool true,.slice Aq nq cq,.bool false,.slice Ak nk ck]):=lH (by rw[<-dO];exact d9 GI.o);clear dO z0 z1 z2 z3 zf zl;obtain⟨q0,q1,q2,q3⟩:=eU.o.a4;exact bodyPost_ret (v:=.agg #[.bool true,.slice Aq nq cq,.bool false,.slice Ak nk ck]) (by simp[results,Tryz.results95,go_sem,q0,q1,q2,q3]) rfl fO.o
   | false=>
    (go_upto_region 13 with fail);clear p0 p1 pf pl;generalize xW:V8.setCell ⟨w.heap.size,0,none⟩ (.bool false)=V9;have aAb:Hid (aD V9 w.heap.size 85 #[.bool false,.slice Aq nq cq]):=lH (by rw[<-xW];exact GJ.o.set_at (i:=0) (.bool false) (by simp));have S5:Hid (aD V9 (w.heap.size+1) 85 #[.bool false,.slice Ak nk ck]):=lH (by rw[<-xW];exact aJL.o.far e10 _);have GI:Hid (aD V9 (w.heap.size+1+1) 87 #[.bool false,.slice none 0 0,.bool false,.slice none 0 0]):=lH (by rw[<-xW];exact N2.o.far e20 _);have eU:Hid (Below w.heap.size w V9):=lH (by rw[<-xW];exact hX.o.setCell lR _);have aFx:Hid (bS V9 V9.heap.size q false Aq nq cq false Ak nk ck):=lH (by rw[<-xW];exact HRT.o _ (HQ8.o.keep (GJ.o.cell 0) (by simp) _) (HK8.o.keep (GJ.o.cell 0) (by simp) _));clear xW;obtain⟨p0,p1,pl⟩:=aAb.o.b2;have q0:=S5.o.cell 0;have q1:=S5.o.cell 1;have ql:=S5.o.lt;obtain⟨z0,z1,z2,z3,zf,zl⟩:=GI.o.e4;(go_wp2_with fail);generalize dO:(((V9.setCell ⟨_,0,none⟩ _).setCell ⟨_,1,none⟩ _).setCell ⟨_,2,none⟩ _).setCell ⟨_,3,none⟩ _=W9;have fO:=lH (iP (e:=.returned (.agg #[.bool false,.slice Aq nq cq,.bool false,.slice Ak nk ck])) eU.o mF GI.o (by simp) (by simp) (by simp) (by simp) aFx.o rfl);rw[dO] at fO;have eU:Hid (aD W9 _ 87 #[.bool false,.slice Aq nq cq,.bool false,.slice Ak nk ck]):=lH (by rw[<-dO];exact d9 GI.o);clear dO z0 z1 z2 z3 zf zl;obtain⟨q0,q1,q2,q3⟩:=eU.o.a4;exact bodyPost_ret (v:=.agg #[.bool false,.slice Aq nq cq,.bool false,.slice Ak nk ck]) (by simp[results,Tryz.results95,go_sem,q0,q1,q2,q3]) rfl fO.o
theorem x_(p q:Rat):(p.den:Int)*(q.den:Int)≠0:=by
 have h1:=p.den_pos;have h2:=q.den_pos;have:0<p.den*q.den:=Nat.mul_pos h1 h2;rw[<-Int.natCast_mul];omega
theorem NV(a b:Rat):Rat.divInt (a.num*(b.den:Int)+b.num*(a.den:Int)) ((a.den:Int)*(b.den:Int))=a+b:=by
 rw[<-Int.natCast_mul];exact E1 a b
theorem MI(a b:Rat):Rat.divInt (a.num*b.num) ((a.den:Int)*(b.den:Int))=a*b:=by
 rw[<-Int.natCast_mul];exact D6 a b
theorem U7(p q:Rat)(b1:Bool)(A:OA)(n c:Nat)(b2:Bool)(A2:OA)(n2 c2:Nat)(b3:Bool)(B:OA)(m d:Nat)(b4:Bool)(B2:OA)(m2 d2:Nat)(w:Wo)(h1:bS w w.heap.size p b1 A n c b2 A2 n2 c2)(h2:bS w w.heap.size q b3 B m d b4 B2 m2 d2)(hs:bM p+bM q+1<=35184372088832):Calls Tryz.prog 67 #[.agg #[.bool b1,.slice A n c,.bool b2,.slice A2 n2 c2],.agg #[.bool b3,.slice B m d,.bool b4,.slice B2 m2 d2]] w (PU (p*q) w):=by
 have l1:=h1.n_le;have l2:=h1.m_le;have l3:=h2.n_le;have l4:=h2.m_le;have cI:Hid (Below w.heap.size w (((w.alloc (aU b1 A n c b2 A2 n2 c2)).alloc (aU b3 B m d b4 B2 m2 d2)).alloc dC)):=lH (((bA).alloc (by simp) _).alloc (by simp;omega) _);have dE:Hid (aD (((w.alloc (aU b1 A n c b2 A2 n2 c2)).alloc (aU b3 B m d b4 B2 m2 d2)).alloc dC) w.heap.size 87 #[.bool b1,.slice A n c,.bool b2,.slice A2 n2 c2]):=lH (((aD.new w _ _).alloc _).alloc _);have eT:Hid (aD (((w.alloc (aU b1 A n c b2 A2 n2 c2)).alloc (aU b3 B m d b4 B2 m2 d2)).alloc dC) (w.heap.size+1) 87 #[.bool b3,.slice B m d,.bool b4,.slice B2 m2 d2]):=lH ((aD.new_ (by simp)).alloc _);have HR:Hid (aD (((w.alloc (aU b1 A n c b2 A2 n2 c2)).alloc (aU b3 B m d b4 B2 m2 d2)).alloc dC) (w.heap.size+1+1) 87 #[.bool false,.slice none 0 0,.bool false,.slice none 0 0]):=lH (aD.new_ (by simp));have mF:w.heap.size<=w.heap.size+1+1:=by omega
 have H1:=lH (h1.up cI.o);have H2:=lH (h2.up cI.o);clear h1 h2;go_enter Tryz.func67,Tryz.ntmps67
 go_upto_region 1 with fail
 generalize (((w.alloc (aU b1 A n c b2 A2 n2 c2)).alloc (aU b3 B m d b4 B2 m2 d2)).alloc dC)=W at *;obtain⟨p0,p1,p2,p3,pl⟩:=dE.o.b4;obtain⟨q0,q1,q2,q3,ql⟩:=eT.o.b4;have bH:=lH (aH (Below.refl W.heap.size W));refine bC (S:=fun w'=>Below W.heap.size W w') 11 _ (by kernel_rfl) (by kernel_rfl) rfl bH.o (fun hHeld=>?_);simp only[oO,List.take_zero];refine d7 [0,1,2,3,5,6,7,8] ?_;refine bI 4 (fun K hK=>?_);go_simp;refine(gC (p.num) (q.num) b1 A n c b3 B m d _ (H1.o.up bH.o).num (H2.o.up bH.o).num (by omega)).mono ?_;rintro e w5 ⟨eS,f5,C5,i5,j5,rfl,h5⟩;have dK:=bX bH eS;have H5:=lH h5;have s5:i5<=m+n:=by rw[h5.en,((H1.o.up bH.o).num).en,((H2.o.up bH.o).num).en,Nat.add_comm];exact dW _ _
 clear eS h5;go_simp;refine iJ hK dK.o (fun hHeld=>?_);clear hK K;refine bI 9 (fun K hK=>?_);go_simp;refine(gC ((p.den:Int)) ((q.den:Int)) b2 A2 n2 c2 b4 B2 m2 d2 _ (H1.o.up dK.o).den (H2.o.up dK.o).den (by omega)).mono ?_;rintro e w6 ⟨eE,f6,C6,i6,j6,rfl,h6⟩;have d6:=bX dK eE;have H6:=lH h6;have s6:i6<=m2+n2:=by rw[h6.en,((H1.o.up dK.o).den).en,((H2.o.up dK.o).den).en,Nat.add_comm];exact dW _ _
 have H5_6:=lH (H5.o.up eE);clear eE h6;go_simp;refine iJ hK d6.o (fun hHeld=>?_);clear hK K;refine bI 10 (fun K hK=>?_);go_simp;refine(q8 (p.num*q.num) ((p.den:Int)*(q.den:Int)) f5 C5 i5 j5 f6 C6 i6 j6 _ H5_6.o H6.o (x_ p q) (by omega) (by omega)).mono ?_;rw[MI];rintro e w7 ⟨fR,f7,C7,i7,j7,f7d,C7d,i7d,j7d,rfl,h7⟩;have gN:=bX d6 fR;have H7:=lH h7;clear fR h7;go_simp;refine iJ hK gN.o (fun hHeld=>?_);clear hK K;refine fZ ?_;have DI:=lH (cI.o.tm gN.o);have nE:=lH (HR.o.bl gN.o);clear p0 p1 p2 p3 q0 q1 q2 q3 pl ql;obtain⟨z0,z1,z2,z3,zf,zl⟩:=nE.o.e4
 go_wp2_with fail
 generalize dO:(((w7.setCell ⟨_,0,none⟩ _).setCell ⟨_,1,none⟩ _).setCell ⟨_,2,none⟩ _).setCell ⟨_,3,none⟩ _=W9;have fO:=lH (iP (e:=.returned (.agg #[.bool f7,.slice C7 i7 j7,.bool f7d,.slice C7d i7d j7d])) DI.o mF nE.o (by simp) (by simp) (by simp) (by simp) H7.o rfl);rw[dO] at fO;have eU:Hid (aD W9 _ 87 #[.bool f7,.slice C7 i7 j7,.bool f7d,.slice C7d i7d j7d]):=lH (by rw[<-dO];exact d9 nE.o);clear dO z0 z1 z2 z3 zf zl;obtain⟨q0,q1,q2,q3⟩:=eU.o.a4;exact bodyPost_ret (v:=.agg #[.bool f7,.slice C7 i7 j7,.bool f7d,.slice C7d i7d j7d]) (by simp[results,Tryz.results67,go_sem,q0,q1,q2,q3]) rfl fO.o
theorem VD(p q:Rat)(b1:Bool)(A:OA)(n c:Nat)(b2:Bool)(A2:OA)(n2 c2:Nat)(b3:Bool)(B:OA)(m d:Nat)(b4:Bool)(B2:OA)(m2 d2:Nat)(w:Wo)(h1:bS w w.heap.size p b1 A n c b2 A2 n2 c2)(h2:bS w w.heap.size q b3 B m d b4 B2 m2 d2)(hq:q≠0)(hs:bM p+bM q+1<=35184372088832):Calls Tryz.prog 120 #[.agg #[.bool b1,.slice A n c,.bool b2,.slice A2 n2 c2],.agg #[.bool b3,.slice B m d,.bool b4,.slice B2 m2 d2]] w (PU (p / q) w):=by
 have l1:=h1.n_le;have l2:=h1.m_le;have l3:=h2.n_le;have l4:=h2.m_le;have cI:Hid (Below w.heap.size w (((w.alloc (aU b1 A n c b2 A2 n2 c2)).alloc (aU b3 B m d b4 B2 m2 d2)).alloc dC)):=lH (((bA).alloc (by simp) _).alloc (by simp;omega) _);have dE:Hid (aD (((w.alloc (aU b1 A n c b2 A2 n2 c2)).alloc (aU b3 B m d b4 B2 m2 d2)).alloc dC) w.heap.size 87 #[.bool b1,.slice A n c,.bool b2,.slice A2 n2 c2]):=lH (((aD.new w _ _).alloc _).alloc _);have eT:Hid (aD (((w.alloc (aU b1 A n c b2 A2 n2 c2)).alloc (aU b3 B m d b4 B2 m2 d2)).alloc dC) (w.heap.size+1) 87 #[.bool b3,.slice B m d,.bool b4,.slice B2 m2 d2]):=lH ((aD.new_ (by simp)).alloc _);have HR:Hid (aD (((w.alloc (aU b1 A n c b2 A2 n2 c2)).alloc (aU b3 B m d b4 B2 m2 d2)).alloc dC) (w.heap.size+1+1) 87 #[.bool false,.slice none 0 0,.bool false,.slice none 0 0]):=lH (aD.new_ (by simp));have mF:w.heap.size<=w.heap.size+1+1:=by omega
 have H1:=lH (h1.up cI.o);have H2:=lH (h2.up cI.o);clear h1 h2;go_enter Tryz.func120,Tryz.ntmps120
 go_upto_region 1 with fail
 generalize (((w.alloc (aU b1 A n c b2 A2 n2 c2)).alloc (aU b3 B m d b4 B2 m2 d2)).alloc dC)=W at *;obtain⟨p0,p1,p2,p3,pl⟩:=dE.o.b4;obtain⟨q0,q1,q2,q3,ql⟩:=eT.o.b4;have bH:=lH (aH (Below.refl W.heap.size W));refine bC (S:=fun w'=>Below W.heap.size W w') 11 _ (by kernel_rfl) (by kernel_rfl) rfl bH.o (fun hHeld=>?_);simp only[oO,List.take_zero];refine d7 [0,1,2,3,5,6,7,8] ?_;refine bI 4 (fun K hK=>?_);go_simp;refine(gC (p.num) ((q.den:Int)) b1 A n c b4 B2 m2 d2 _ (H1.o.up bH.o).num (H2.o.up bH.o).den (by omega)).mono ?_;rintro e w5 ⟨eS,f5,C5,i5,j5,rfl,h5⟩;have dK:=bX bH eS;have H5:=lH h5;have s5:i5<=m2+n:=by rw[h5.en,((H1.o.up bH.o).num).en,((H2.o.up bH.o).den).en,Nat.add_comm];exact dW _ _
 clear eS h5;go_simp;refine iJ hK dK.o (fun hHeld=>?_);clear hK K;refine bI 9 (fun K hK=>?_);go_simp;refine(gC ((p.den:Int)) (q.num) b2 A2 n2 c2 b3 B m d _ (H1.o.up dK.o).den (H2.o.up dK.o).num (by omega)).mono ?_;rintro e w6 ⟨eE,f6,C6,i6,j6,rfl,h6⟩;have d6:=bX dK eE;have H6:=lH h6;have s6:i6<=m+n2:=by rw[h6.en,((H1.o.up dK.o).den).en,((H2.o.up dK.o).num).en,Nat.add_comm];exact dW _ _
 have H5_6:=lH (H5.o.up eE);clear eE h6;go_simp;refine iJ hK d6.o (fun hHeld=>?_);clear hK K;refine bI 10 (fun K hK=>?_);go_simp;refine(q8 (p.num*(q.den:Int)) ((p.den:Int)*q.num) f5 C5 i5 j5 f6 C6 i6 j6 _ H5_6.o H6.o (Int.mul_ne_zero (by have:=p.den_pos;omega) fun h=>hq (Rat.num_eq_zero.1 h)) (by omega) (by omega)).mono ?_;rw[EO];rintro e w7 ⟨fR,f7,C7,i7,j7,f7d,C7d,i7d,j7d,rfl,h7⟩;have gN:=bX d6 fR;have H7:=lH h7;clear fR h7;go_simp;refine iJ hK gN.o (fun hHeld=>?_);clear hK K;refine fZ ?_;have DI:=lH (cI.o.tm gN.o);have nE:=lH (HR.o.bl gN.o);clear p0 p1 p2 p3 q0 q1 q2 q3 pl ql;obtain⟨z0,z1,z2,z3,zf,zl⟩:=nE.o.e4
 go_wp2_with fail
 generalize dO:(((w7.setCell ⟨_,0,none⟩ _).setCell ⟨_,1,none⟩ _).setCell ⟨_,2,none⟩ _).setCell ⟨_,3,none⟩ _=W9;have fO:=lH (iP (e:=.returned (.agg #[.bool f7,.slice C7 i7 j7,.bool f7d,.slice C7d i7d j7d])) DI.o mF nE.o (by simp) (by simp) (by simp) (by simp) H7.o rfl);rw[dO] at fO;have eU:Hid (aD W9 _ 87 #[.bool f7,.slice C7 i7 j7,.bool f7d,.slice C7d i7d j7d]):=lH (by rw[<-dO];exact d9 nE.o);clear dO z0 z1 z2 z3 zf zl;obtain⟨q0,q1,q2,q3⟩:=eU.o.a4;exact bodyPost_ret (v:=.agg #[.bool f7,.slice C7 i7 j7,.bool f7d,.slice C7d i7d j7d]) (by simp[results,Tryz.results120,go_sem,q0,q1,q2,q3]) rfl fO.o
theorem IS(p q:Rat)(b1:Bool)(A:OA)(n c:Nat)(b2:Bool)(A2:OA)(n2 c2:Nat)(b3:Bool)(B:OA)(m d:Nat)(b4:Bool)(B2:OA)(m2 d2:Nat)(w:Wo)(h1:bS w w.heap.size p b1 A n c b2 A2 n2 c2)(h2:bS w w.heap.size q b3 B m d b4 B2 m2 d2)(hs:bM p+bM q+1<=35184372088832):Calls Tryz.prog 61 #[.agg #[.bool b1,.slice A n c,.bool b2,.slice A2 n2 c2],.agg #[.bool b3,.slice B m d,.bool b4,.slice B2 m2 d2]] w (PU (p+q) w):=by
 have l1:=h1.n_le;have l2:=h1.m_le;have l3:=h2.n_le;have l4:=h2.m_le;have cI:Hid (Below w.heap.size w (((w.alloc (aU b1 A n c b2 A2 n2 c2)).alloc (aU b3 B m d b4 B2 m2 d2)).alloc dC)):=lH (((bA).alloc (by simp) _).alloc (by simp;omega) _);have dE:Hid (aD (((w.alloc (aU b1 A n c b2 A2 n2 c2)).alloc (aU b3 B m d b4 B2 m2 d2)).alloc dC) w.heap.size 87 #[.bool b1,.slice A n c,.bool b2,.slice A2 n2 c2]):=lH (((aD.new w _ _).alloc _).alloc _);have eT:Hid (aD (((w.alloc (aU b1 A n c b2 A2 n2 c2)).alloc (aU b3 B m d b4 B2 m2 d2)).alloc dC) (w.heap.size+1) 87 #[.bool b3,.slice B m d,.bool b4,.slice B2 m2 d2]):=lH ((aD.new_ (by simp)).alloc _);have HR:Hid (aD (((w.alloc (aU b1 A n c b2 A2 n2 c2)).alloc (aU b3 B m d b4 B2 m2 d2)).alloc dC) (w.heap.size+1+1) 87 #[.bool false,.slice none 0 0,.bool false,.slice none 0 0]):=lH (aD.new_ (by simp));have mF:w.heap.size<=w.heap.size+1+1:=by omega
 have H1:=lH (h1.up cI.o);have H2:=lH (h2.up cI.o);clear h1 h2;go_enter Tryz.func61,Tryz.ntmps61
 go_upto_region 1 with fail
 generalize (((w.alloc (aU b1 A n c b2 A2 n2 c2)).alloc (aU b3 B m d b4 B2 m2 d2)).alloc dC)=W at *;obtain⟨p0,p1,p2,p3,pl⟩:=dE.o.b4;obtain⟨q0,q1,q2,q3,ql⟩:=eT.o.b4;have bH:=lH (aH (Below.refl W.heap.size W));refine bC (S:=fun w'=>Below W.heap.size W w') 17 _ (by kernel_rfl) (by kernel_rfl) rfl bH.o (fun hHeld=>?_);simp only[oO,List.take_zero];refine d7 [0,1,2,3,5,6,7,8,11,12,13,14] ?_;refine bI 4 (fun K hK=>?_);go_simp;refine(gC (p.num) ((q.den:Int)) b1 A n c b4 B2 m2 d2 _ (H1.o.up bH.o).num (H2.o.up bH.o).den (by omega)).mono ?_;rintro e w5 ⟨eS,f5,C5,i5,j5,rfl,h5⟩;have dK:=bX bH eS;have H5:=lH h5;have s5:i5<=m2+n:=by rw[h5.en,((H1.o.up bH.o).num).en,((H2.o.up bH.o).den).en,Nat.add_comm];exact dW _ _
 clear eS h5;go_simp;refine iJ hK dK.o (fun hHeld=>?_);clear hK K;refine bI 9 (fun K hK=>?_);go_simp;refine(gC (q.num) ((p.den:Int)) b3 B m d b2 A2 n2 c2 _ (H2.o.up dK.o).num (H1.o.up dK.o).den (by omega)).mono ?_;rintro e w6 ⟨eE,f6,C6,i6,j6,rfl,h6⟩;have d6:=bX dK eE;have H6:=lH h6;have s6:i6<=n2+m:=by rw[h6.en,((H2.o.up dK.o).num).en,((H1.o.up dK.o).den).en,Nat.add_comm];exact dW _ _
 have H5_6:=lH (H5.o.up eE);clear eE h6;go_simp;refine iJ hK d6.o (fun hHeld=>?_);clear hK K;refine bI 10 (fun K hK=>?_);go_simp;refine(GC (p.num*(q.den:Int)) (q.num*(p.den:Int)) f5 C5 i5 j5 f6 C6 i6 j6 _ H5_6.o H6.o (by omega) (by omega)).mono ?_;rintro e w7 ⟨fR,f7,C7,i7,j7,rfl,h7⟩;have gN:=bX d6 fR;have H7:=lH h7;have s7:i7<=max i5 i6+1:=by rw[h7.en,H5_6.o.en,H6.o.en];exact EN _ _
 clear fR h7;go_simp;refine iJ hK gN.o (fun hHeld=>?_);clear hK K;refine bI 15 (fun K hK=>?_);go_simp;refine(gC ((p.den:Int)) ((q.den:Int)) b2 A2 n2 c2 b4 B2 m2 d2 _ (H1.o.up gN.o).den (H2.o.up gN.o).den (by omega)).mono ?_;rintro e w8 ⟨mL,f8,C8,i8,j8,rfl,h8⟩;have hX:=bX gN mL;have H8:=lH h8;have s8:i8<=m2+n2:=by rw[h8.en,((H1.o.up gN.o).den).en,((H2.o.up gN.o).den).en,Nat.add_comm];exact dW _ _
 have H7_8:=lH (H7.o.up mL);clear mL h8;go_simp;refine iJ hK hX.o (fun hHeld=>?_);clear hK K;refine bI 16 (fun K hK=>?_);go_simp;refine(q8 (p.num*(q.den:Int)+q.num*(p.den:Int)) ((p.den:Int)*(q.den:Int)) f7 C7 i7 j7 f8 C8 i8 j8 _ H7_8.o H8.o (x_ p q) (by omega) (by omega)).mono ?_;rw[NV];rintro e w9 ⟨jQ,f9,C9,i9,j9,f9d,C9d,i9d,j9d,rfl,h9⟩;have eU:=bX hX jQ;have H9:=lH h9;clear jQ h9;go_simp;refine iJ hK eU.o (fun hHeld=>?_);clear hK K;refine fZ ?_;have DI:=lH (cI.o.tm eU.o);have nE:=lH (HR.o.bl eU.o);clear p0 p1 p2 p3 q0 q1 q2 q3 pl ql;obtain⟨z0,z1,z2,z3,zf,zl⟩:=nE.o.e4
 go_wp2_with fail
 generalize dO:(((w9.setCell ⟨_,0,none⟩ _).setCell ⟨_,1,none⟩ _).setCell ⟨_,2,none⟩ _).setCell ⟨_,3,none⟩ _=W9;have fO:=lH (iP (e:=.returned (.agg #[.bool f9,.slice C9 i9 j9,.bool f9d,.slice C9d i9d j9d])) DI.o mF nE.o (by simp) (by simp) (by simp) (by simp) H9.o rfl);rw[dO] at fO;have eU:Hid (aD W9 _ 87 #[.bool f9,.slice C9 i9 j9,.bool f9d,.slice C9d i9d j9d]):=lH (by rw[<-dO];exact d9 nE.o);clear dO z0 z1 z2 z3 zf zl;obtain⟨q0,q1,q2,q3⟩:=eU.o.a4;exact bodyPost_ret (v:=.agg #[.bool f9,.slice C9 i9 j9,.bool f9d,.slice C9d i9d j9d]) (by simp[results,Tryz.results61,go_sem,q0,q1,q2,q3]) rfl fO.o
theorem VF(p q:Rat)(b1:Bool)(A:OA)(n c:Nat)(b2:Bool)(A2:OA)(n2 c2:Nat)(b3:Bool)(B:OA)(m d:Nat)(b4:Bool)(B2:OA)(m2 d2:Nat)(w:Wo)(h1:bS w w.heap.size p b1 A n c b2 A2 n2 c2)(h2:bS w w.heap.size q b3 B m d b4 B2 m2 d2)(hs:bM p+bM q+1<=35184372088832):Calls Tryz.prog 72 #[.agg #[.bool b1,.slice A n c,.bool b2,.slice A2 n2 c2],.agg #[.bool b3,.slice B m d,.bool b4,.slice B2 m2 d2]] w (fun e w'=>e=.returned (.int .i64 (p.num*(q.den:Int)-q.num*(p.den:Int)).sign)/\Below w.heap.size w w'):=by
 have l1:=h1.n_le;have l2:=h1.m_le;have l3:=h2.n_le;have l4:=h2.m_le;have cI:Hid (Below w.heap.size w ((w.alloc (aU b1 A n c b2 A2 n2 c2)).alloc (aU b3 B m d b4 B2 m2 d2))):=lH ((bA).alloc (by simp) _);have dE:Hid (aD ((w.alloc (aU b1 A n c b2 A2 n2 c2)).alloc (aU b3 B m d b4 B2 m2 d2)) w.heap.size 87 #[.bool b1,.slice A n c,.bool b2,.slice A2 n2 c2]):=lH ((aD.new w _ _).alloc _);have eT:Hid (aD ((w.alloc (aU b1 A n c b2 A2 n2 c2)).alloc (aU b3 B m d b4 B2 m2 d2)) (w.heap.size+1) 87 #[.bool b3,.slice B m d,.bool b4,.slice B2 m2 d2]):=lH (aD.new_ (by simp));have H1:=lH (h1.up cI.o);have H2:=lH (h2.up cI.o);clear h1 h2;go_enter Tryz.func72,Tryz.ntmps72
 go_upto_region 1 with fail
 generalize ((w.alloc (aU b1 A n c b2 A2 n2 c2)).alloc (aU b3 B m d b4 B2 m2 d2))=W at *;obtain⟨p0,p1,p2,p3,pl⟩:=dE.o.b4;obtain⟨q0,q1,q2,q3,ql⟩:=eT.o.b4;have bH:=lH (aH (Below.refl W.heap.size W));refine bC (S:=fun w'=>Below W.heap.size W w') 11 _ (by kernel_rfl) (by kernel_rfl) rfl bH.o (fun hHeld=>?_);simp only[oO,List.take_zero];refine d7 [0,1,2,3,5,6,7,8] ?_;refine bI 4 (fun K hK=>?_);go_simp;refine(gC (p.num) ((q.den:Int)) b1 A n c b4 B2 m2 d2 _ (H1.o.up bH.o).num (H2.o.up bH.o).den (by omega)).mono ?_;rintro e w5 ⟨eS,f5,C5,i5,j5,rfl,h5⟩;have dK:=bX bH eS;have H5:=lH h5;have s5:i5<=m2+n:=by rw[h5.en,((H1.o.up bH.o).num).en,((H2.o.up bH.o).den).en,Nat.add_comm];exact dW _ _
 clear eS h5;go_simp;refine iJ hK dK.o (fun hHeld=>?_);clear hK K;refine bI 9 (fun K hK=>?_);go_simp;refine(gC (q.num) ((p.den:Int)) b3 B m d b2 A2 n2 c2 _ (H2.o.up dK.o).num (H1.o.up dK.o).den (by omega)).mono ?_;rintro e w6 ⟨eE,f6,C6,i6,j6,rfl,h6⟩;have d6:=bX dK eE;have H6:=lH h6;have s6:i6<=n2+m:=by rw[h6.en,((H2.o.up dK.o).num).en,((H1.o.up dK.o).den).en,Nat.add_comm];exact dW _ _
 have H5_6:=lH (H5.o.up eE);clear eE h6;go_simp;refine iJ hK d6.o (fun hHeld=>?_);clear hK K;refine bI 10 (fun K hK=>?_);go_simp;refine(aCd (p.num*(q.den:Int)) (q.num*(p.den:Int)) f5 C5 i5 j5 f6 C6 i6 j6 _ H5_6.o H6.o (by omega) (by omega)).mono ?_;rintro e w7 ⟨rfl,fR⟩;have gN:=bX d6 fR;clear fR;go_simp;refine iJ hK gN.o (fun hHeld=>?_);clear hK K;refine fZ ?_
 go_wp2_with fail
 go_ret;exact⟨rfl,cI.o.tm gN.o⟩
theorem AD(p:Rat)(b1:Bool)(A:OA)(n c:Nat)(b2:Bool)(A2:OA)(n2 c2:Nat)(w:Wo)(h1:bS w w.heap.size p b1 A n c b2 A2 n2 c2):Calls Tryz.prog 85 #[.agg #[.bool b1,.slice A n c,.bool b2,.slice A2 n2 c2]] w (PU (-p) w):=by
 have cI:Hid (Below w.heap.size w ((w.alloc (aU b1 A n c b2 A2 n2 c2)).alloc dC)):=lH ((bA).alloc (by simp) _);have dE:Hid (aD ((w.alloc (aU b1 A n c b2 A2 n2 c2)).alloc dC) w.heap.size 87 #[.bool b1,.slice A n c,.bool b2,.slice A2 n2 c2]):=lH ((aD.new w _ _).alloc _);have HR:Hid (aD ((w.alloc (aU b1 A n c b2 A2 n2 c2)).alloc dC) (w.heap.size+1) 87 #[.bool false,.slice none 0 0,.bool false,.slice none 0 0]):=lH (aD.new_ (by simp));have mF:w.heap.size<=w.heap.size+1:=by omega
 have H1:=lH (h1.up cI.o);clear h1;go_enter Tryz.func85,Tryz.ntmps85
 go_upto_region 1 with fail
 generalize ((w.alloc (aU b1 A n c b2 A2 n2 c2)).alloc dC)=W at *;obtain⟨p0,p1,p2,p3,pl⟩:=dE.o.b4;have bH:=lH (aH (Below.refl W.heap.size W));refine bC (S:=fun w'=>Below W.heap.size W w') 6 _ (by kernel_rfl) (by kernel_rfl) rfl bH.o (fun hHeld=>?_);simp only[oO,List.take_zero];refine d7 [0,1,3,4] ?_;refine bI 2 (fun K hK=>?_);go_simp;refine(zH p.num b1 A n c _ (H1.o.up bH.o).num).mono ?_;rintro e w5 ⟨eS,f5,C5,i5,j5,rfl,h5⟩;have dK:=bX bH eS;have H5:Hid (bS w5 w5.heap.size (-p) f5 C5 i5 j5 b2 A2 n2 c2):=lH ⟨h5,(H1.o.up dK.o).den⟩;clear eS h5;go_simp;refine iJ hK dK.o (fun hHeld=>?_);clear hK K;refine d7 [5] ?_;refine fZ ?_;have DI:=lH (cI.o.tm dK.o);have nE:=lH (HR.o.bl dK.o);clear p0 p1 p2 p3 pl;obtain⟨z0,z1,z2,z3,zf,zl⟩:=nE.o.e4
 go_wp2_with fail
 generalize dO:(((w5.setCell ⟨_,0,none⟩ _).setCell ⟨_,1,none⟩ _).setCell ⟨_,2,none⟩ _).setCell ⟨_,3,none⟩ _=W9;have fO:=lH (iP (e:=.returned (.agg #[.bool f5,.slice C5 i5 j5,.bool b2,.slice A2 n2 c2])) DI.o mF nE.o (by simp) (by simp) (by simp) (by simp) H5.o rfl);rw[dO] at fO;have eU:Hid (aD W9 _ 87 #[.bool f5,.slice C5 i5 j5,.bool b2,.slice A2 n2 c2]):=lH (by rw[<-dO];exact d9 nE.o);clear dO z0 z1 z2 z3 zf zl;obtain⟨q0,q1,q2,q3⟩:=eU.o.a4;exact bodyPost_ret (v:=.agg #[.bool f5,.slice C5 i5 j5,.bool b2,.slice A2 n2 c2]) (by simp[results,Tryz.results85,go_sem,q0,q1,q2,q3]) rfl fO.o
theorem U4(p q:Rat)(b1:Bool)(A:OA)(n c:Nat)(b2:Bool)(A2:OA)(n2 c2:Nat)(b3:Bool)(B:OA)(m d:Nat)(b4:Bool)(B2:OA)(m2 d2:Nat)(w:Wo)(h1:bS w w.heap.size p b1 A n c b2 A2 n2 c2)(h2:bS w w.heap.size q b3 B m d b4 B2 m2 d2)(hs:bM p+bM q+1<=35184372088832):Calls Tryz.prog 68 #[.agg #[.bool b1,.slice A n c,.bool b2,.slice A2 n2 c2],.agg #[.bool b3,.slice B m d,.bool b4,.slice B2 m2 d2]] w (PU (p-q) w):=by
 have l1:=h1.n_le;have l2:=h1.m_le;have l3:=h2.n_le;have l4:=h2.m_le;have cI:Hid (Below w.heap.size w (((w.alloc (aU b1 A n c b2 A2 n2 c2)).alloc (aU b3 B m d b4 B2 m2 d2)).alloc dC)):=lH (((bA).alloc (by simp) _).alloc (by simp;omega) _);have dE:Hid (aD (((w.alloc (aU b1 A n c b2 A2 n2 c2)).alloc (aU b3 B m d b4 B2 m2 d2)).alloc dC) w.heap.size 87 #[.bool b1,.slice A n c,.bool b2,.slice A2 n2 c2]):=lH (((aD.new w _ _).alloc _).alloc _);have eT:Hid (aD (((w.alloc (aU b1 A n c b2 A2 n2 c2)).alloc (aU b3 B m d b4 B2 m2 d2)).alloc dC) (w.heap.size+1) 87 #[.bool b3,.slice B m d,.bool b4,.slice B2 m2 d2]):=lH ((aD.new_ (by simp)).alloc _);have HR:Hid (aD (((w.alloc (aU b1 A n c b2 A2 n2 c2)).alloc (aU b3 B m d b4 B2 m2 d2)).alloc dC) (w.heap.size+1+1) 87 #[.bool false,.slice none 0 0,.bool false,.slice none 0 0]):=lH (aD.new_ (by simp));have mF:w.heap.size<=w.heap.size+1+1:=by omega
 have H1:=lH (h1.up cI.o);have H2:=lH (h2.up cI.o);clear h1 h2;go_enter Tryz.func68,Tryz.ntmps68
 go_upto_region 1 with fail
 generalize (((w.alloc (aU b1 A n c b2 A2 n2 c2)).alloc (aU b3 B m d b4 B2 m2 d2)).alloc dC)=W at *;obtain⟨p0,p1,p2,p3,pl⟩:=dE.o.b4;obtain⟨q0,q1,q2,q3,ql⟩:=eT.o.b4;have bH:=lH (aH (Below.refl W.heap.size W));refine bC (S:=fun w'=>Below W.heap.size W w') 4 _ (by kernel_rfl) (by kernel_rfl) rfl bH.o (fun hHeld=>?_);simp only[oO,List.take_zero];refine d7 [0,1] ?_;refine bI 2 (fun K hK=>?_);go_simp;refine(AD q b3 B m d b4 B2 m2 d2 _ (H2.o.up bH.o)).mono ?_;rintro e w5 ⟨eS,f5,C5,i5,j5,f5d,C5d,i5d,j5d,rfl,h5⟩;have dK:=bX bH eS;have H5:=lH h5;clear eS h5;go_simp;refine iJ hK dK.o (fun hHeld=>?_);clear hK K;refine bI 3 (fun K hK=>?_);go_simp;refine(IS p (-q) b1 A n c b2 A2 n2 c2 f5 C5 i5 j5 f5d C5d i5d j5d _ (H1.o.up dK.o) H5.o (by rw[kG];exact hs)).mono ?_;rw[<-Rat.sub_eq_add_neg];rintro e w7 ⟨fR,f7,C7,i7,j7,f7d,C7d,i7d,j7d,rfl,h7⟩;have gN:=bX dK fR;have H7:=lH h7;clear fR h7;go_simp;refine iJ hK gN.o (fun hHeld=>?_);clear hK K;refine fZ ?_;have DI:=lH (cI.o.tm gN.o);have nE:=lH (HR.o.bl gN.o);clear p0 p1 p2 p3 q0 q1 q2 q3 pl ql;obtain⟨z0,z1,z2,z3,zf,zl⟩:=nE.o.e4
 go_wp2_with fail
 generalize dO:(((w7.setCell ⟨_,0,none⟩ _).setCell ⟨_,1,none⟩ _).setCell ⟨_,2,none⟩ _).setCell ⟨_,3,none⟩ _=W9;have fO:=lH (iP (e:=.returned (.agg #[.bool f7,.slice C7 i7 j7,.bool f7d,.slice C7d i7d j7d])) DI.o mF nE.o (by simp) (by simp) (by simp) (by simp) H7.o rfl);rw[dO] at fO;have eU:Hid (aD W9 _ 87 #[.bool f7,.slice C7 i7 j7,.bool f7d,.slice C7d i7d j7d]):=lH (by rw[<-dO];exact d9 nE.o);clear dO z0 z1 z2 z3 zf zl;obtain⟨q0,q1,q2,q3⟩:=eU.o.a4;exact bodyPost_ret (v:=.agg #[.bool f7,.slice C7 i7 j7,.bool f7d,.slice C7d i7d j7d]) (by simp[results,Tryz.results68,go_sem,q0,q1,q2,q3]) rfl fO.o
theorem FN{base e size:Nat}{xs:List Value}(h:w.ownsRow base e size v n xs)(hb:Below w.heap.size w w'):w'.ownsRow base e size v n xs:=by
 refine⟨h.1,?_⟩;rcases h.2 with h1 | ⟨g,cap,cur,h1,h2,h3,h4⟩
 ·exact .inl h1
 ·refine .inr ⟨g,cap,cur,h1,h2,?_,h4⟩
  have hg:g<w.heap.size:=by
   rcases Nat.lt_or_ge g w.heap.size with aR | LB
   ·exact aR
   ·rw[Array.getElem?_eq_none LB] at h3;cases h3
  exact(hb.block g hg).trans h3
theorem QW{g o:Nat}{row:Option Nat}{ob:Obj}(h:gF w B (some ⟨g,o,none⟩) n l)(hB:B<=w.heap.size)(hg:(w.alloc ob).grownBy w' row)(cK:some g≠row):gF w' w'.heap.size (some ⟨g,o,none⟩) n l:=
 ⟨h.1,fun hn=>by
  obtain⟨b,off,e,aR,hc⟩:=h.2 hn;injection e with e;injection e with e1 e2;subst e1;subst e2;have hs:=hg.size;simp at hs;exact⟨g,o,rfl,by omega,fun j u hu=>hg.cell (Lib.cell?_alloc_some _ (hc j u hu)) cK⟩⟩
theorem T6:∀L:Nat,1<=L->L<=9->∀W,(Instr.sliceAt 9 (.string ⟨#[48,48,48,48,48,48,48,48,48]⟩) (some (.int .i64 (L:Int))) none none).run Tryz.prog W=.ok (.string ⟨(List.replicate (9-L) 48).toArray⟩) W:=by
 intro L h1 h9 W;rw[run_sliceAt_string W 9 _ _ _ _ Tryz.underlying9,run_slice_string_l W 9 _ Tryz.underlying9 .i64 (L:Int) (by omega) (by show _<=(9:Int);omega)];have:L=1\/L=2\/L=3\/L=4\/L=5\/L=6\/L=7\/L=8\/L=9:=by omega
 rcases this with rfl | rfl | rfl | rfl | rfl | rfl | rfl | rfl | rfl<;>rfl
theorem aE9{T e:TypeId}{b:Nat}{bs:List Value}(h:Lib.IsBuilder T e B b bs w)(hb:Below w.heap.size w w'):Lib.IsBuilder T e B b bs w':=by
 have key:∀p,Lib.BuilderAt T e B b p bs w->Lib.BuilderAt T e B b p bs w':=fun p h=>by
  have aR:=h.lt;obtain⟨h1,v,h2,h3,h4⟩:=h;exact⟨h1,v,(hb.block b aR).trans h2,FN h3 hb,h4⟩
 exact h.elim (fun h=>.inl (key _ h)) fun h=>.inr (key _ h)
theorem gS(l:List UInt8):(⟨l.toArray⟩:ByteArray).size=l.length:=by simp[ByteArray.size]
def ItP(z:Int)(w:Wo)(e:Ending)(w':Wo):Prop:=Below w.heap.size w w'/\∃s,e=.returned (.tuple #[.string s,.bool (decide (sF z.natAbs<=2000))])/\(sF z.natAbs<=2000->s=⟨(gR z).toArray⟩)/\s.size<=3000
def TxI(T:TypeId)(w wr:Wo)(V k:Nat)(v4 v5:Value):Prop:=∃(ps:List Nat)(A:OA)(n c:Nat),v5=.slice A n c/\gF wr wr.heap.size A n (gX k)/\n<=c/\c<=9223372036854775807/\wr.ownsRow w.heap.size T 1 v4 ps.length (aY ps)/\Below w.heap.size w wr/\V=pv ps+k*1000000000^ps.length/\ZU ps/\(k=0->ps≠[]/\KR ps)/\ps.length<=225
theorem wX(z:Int)(b:Bool)(A:OA)(n c:Nat)(w:Wo)(h:bE w w.heap.size z b A n c)(ht:eY w):Calls Tryz.prog 69 #[.agg #[.bool b,.slice A n c]] w (ItP z w):=by
 have cI:Hid (Below w.heap.size w (w.alloc (aK b A n c))):=lH (bA);obtain⟨dE,H1,HT,HEN,HEB⟩:=mP (aD.new w 85 #[.bool b,.slice A n c]) (h.up cI.o) (ht.up cI.o) h.en h.eb;have GU:=h.nc;have JI:=h.cm;obtain⟨i0,jL,pF,kT,kS⟩:=info_parts AZ;obtain⟨yT,xK,CE,CD⟩:=gO jL pF kT kS;clear h ht jL pF kT kS;go_enter Tryz.func69,Tryz.ntmps69
 go_upto_region 1 with fail
 generalize w.alloc (aK b A n c)=W at *;obtain⟨p0,p1,pl⟩:=dE.o.b2;by_cases h0:n=0
 ·subst h0
  have hz:z=0:=by
   have h:=HEN.o;refine Classical.byContradiction fun cK=>?_;rw[gV (by omega)] at h;omega
  subst hz;(go_wp2_with fail);go_ret2;have hd:decide (sF (0:Int).natAbs<=2000)=true:=by decide+kernel
  have EA:gR 0=[48]:=by unfold gR;rw[show(0:Int).natAbs=0 from rfl,dX (by decide)];rfl
  exact⟨cI.o,⟨#[48]⟩,by rw[hd];rfl,fun _=>by rw[EA],by decide⟩
 ·have aMe:((n:Int) == 0)=false:=by simp;omega
  by_cases aNu:210<n
  ·have rW:¬sF z.natAbs<=2000:=Nat.not_le.2 (MK (by rw[<-HEN.o];exact aNu))
   have hnI:(210:Int)<(n:Int):=by omega
   (go_wp2_with fail);go_ret2;exact⟨cI.o,_,by rw[decide_eq_false rW];rfl,fun h=>absurd h rW,by decide⟩
  ·have hnI:(n:Int)<=210:=by omega
   have pF:z.natAbs≠0:=fun e=>h0 (by rw[HEN.o,e];exact fK);clear h0
   (go_wp2_with fail);clear p0 p1 pl aMe hnI
   go_loopg [4,5] z.natAbs (fun k v4 v5 wr=>TxI 175 W wr z.natAbs k v4 v5)
   case atStart=>exact⟨[],A,n,c,rfl,H1.o.rd,GU,JI,World.ownsRow_nil _ _ _ _,bR,by simp[pv],fun x hx=>(by cases hx),fun e=>absurd e pF,by simp⟩
   case round=>
    obtain⟨ps,A5,n5,c5,rfl,vK,hn5,hc5,ho4,eS,CM,vL,aHC,d5⟩:=hrel;obtain⟨HR5,HO4,dK,DE,CA⟩:=mP vK ho4 eS CM vL;have HTP:=lH aHC;have HL5:Hid (n5=cE gk):=lH (by rw[<-vK.len];rfl);clear vK ho4 eS CM vL aHC;by_cases hk:gk=0
    ·subst hk
     have hn5:n5=0:=by rw[HL5.o,fK]
     subst hn5;have aIj:(0:Nat)=0:=rfl;obtain⟨cK,htp⟩:=HTP.o aIj;have aFs:=lH htp;obtain⟨L,hL⟩:∃L,ps.length=L:=⟨_,rfl⟩;have G0:=lH hL;rw[hL] at HO4 d5;have hL0:0<L:=by rw[<-hL];exact List.length_pos_iff.2 cK
     have HD0:Hid (Dg ps 0=Lib.decDigits z.natAbs):=lH (by rw[aE1 cK,DE.o,Nat.zero_mul,Nat.add_zero]);have hde:Dg ps L=[]:=by rw[<-hL];exact Y0 ps
     have HDE:=lH hde;clear hL aIj cK htp;obtain⟨A4,c4,e4,EB,hn4,hc4⟩:=OI HO4.o;subst e4;obtain⟨nH,HXr,HTr,HBr,d6⟩:=mP EB (dE.o.bl dK.o) (HT.o.up (dK.o)) (cI.o.tm dK.o) ((Below.refl wr.heap.size wr).alloc lR (.cells #[.pointer none,.slice none 0 0] 182));have kB:Hid (Lib.IsBuilder 182 5 wr.heap.size wr.heap.size (Lib.byteCells (Dg ps L)) (wr.alloc (.cells #[.pointer none,.slice none 0 0] 182))):=lH (.inl ⟨lR,.slice none 0 0,heap_alloc_new wr _,by rw[hde];exact World.ownsRow_nil _ _ _ _,by simp[Value.ownBlock]⟩);clear EB hn4 hc4 HR5 HO4 DE HL5 HTP hde;have hLI:(1:Int)<=(L:Int):=by omega
     have aNi:(L:Int)<=225:=by omega
     (go_wp2_with fail);clear hLI aNi;generalize wr=Wp at *;have hBP:Wp.heap.size<=Wp.heap.size:=lR
     go_loopw [9,10] (fun v9 v10 wr=>∃k:Nat,k<=L/\v9=.int .i64 ((k:Int)-1)/\Lib.IsBuilder 182 5 Wp.heap.size Wp.heap.size (Lib.byteCells (Dg ps k)) wr/\Below Wp.heap.size Wp wr/\(Dg ps k).length+9*k<=9*L) (fun v9 _ _=>(intOf v9+1).toNat)
     case atStart=>exact⟨L,lR,rfl,kB.o,d6.o,by rw[HDE.o];simp⟩
     case round=>
      clear kB d6;obtain⟨k,hkL,rfl,nG,bV,hdl⟩:=hrel;have kB:=lH nG;have dB:=lH bV;have hWs:Wp.heap.size<=wr.heap.size:=bV.size;clear nG bV;by_cases hk:k=0
      ·subst hk
       have e:(((0:Nat):Int)-1)=-1:=rfl;rw[e];clear e;rw[HD0.o] at kB;have cK:Lib.decDigits z.natAbs≠[]:=fun e=>by have:=kQ z.natAbs;rw[e] at this;simp at this
       (go_wp2_with fail);refine(Tryz.Builder_String Wp.heap.size Wp.heap.size (Lib.decDigits z.natAbs) wr kB.o cK).mono ?_;rintro e w3 ⟨rfl,eF⟩;have gY:Hid (Below Wp.heap.size Wp w3):=lH (dB.o.trans eF);have Z3:=lH (HXr.o.bl gY.o);have DI:=lH (HBr.o.tm gY.o);obtain⟨sb,OX⟩:∃sb:ByteArray,⟨(Lib.decDigits z.natAbs).toArray⟩=sb:=⟨_,rfl⟩;have HSB:=lH OX;rw[OX];obtain⟨N,hN⟩:∃N,sb.size=N:=⟨_,rfl⟩;have yD:Hid (sF z.natAbs=N):=lH (by rw[<-hN,<-OX,gS];rfl);have aNh:N<=2025:=by
        have:N=(Lib.decDigits z.natAbs).length:=by rw[<-hN,<-OX,gS]
        rw[HD0.o,<-this] at hdl;omega
       have hNb:¬9223372036854775807<1+N:=by omega
       clear eF dB kB OX cK hdl;obtain⟨p0,pl⟩:=Z3.o.b1;have hfd:decide (sF z.natAbs<=2000)=decide ((N:Int)<=2000):=by rw[yD.o];exact decide_eq_decide.2 (by omega)
       have HFD:=lH hfd;clear hfd;have PZ:=lH aNh;have GO:Hid (∀s,s=(⟨(gR z).toArray⟩:ByteArray)->ItP z w (.returned (.tuple #[.string s,.bool (decide ((N:Int)<=2000))])) w3):=lH fun s hs=>⟨DI.o,s,by rw[HFD.o],fun _=>hs,by
        rw[hs,gS];have h1:=PZ.o;have h2:=yD.o;unfold sF at h2;unfold gR;rw[jO];split<;>simp<;>omega⟩
       cases b with
       | true=>
        have hz:z<0:=by simpa using HEB.o.symm
        have HTX:Hid ((⟨#[45]⟩:ByteArray)++sb=⟨(gR z).toArray⟩):=lH (by
         rw[<-HSB.o];apply ByteArray.ext;unfold gR;rw[if_pos hz];simp)
        (go_wp2_with fail);go_ret2;exact GO.o _ HTX.o
       | false=>
        have hz:¬z<0:=by simpa using HEB.o.symm
        have HTX:Hid (sb=⟨(gR z).toArray⟩):=lH (by
         rw[<-HSB.o];unfold gR;rw[if_neg hz,List.nil_append])
        (go_wp2_with fail);go_ret2;exact GO.o _ HTX.o
      ·obtain⟨j,rfl⟩:∃j,k=j+1:=⟨k-1,by omega⟩
       have e:(((j+1:Nat):Int)-1)=(j:Int):=by omega
       rw[e];clear e hk;have hjL:j<L:=hkL;obtain⟨x,hx⟩:∃x,ps[j]?=some x:=eG (by have:=G0.o;omega);have hx9:=CA.o x (cS hx);have hxd:ps.getD j 0=x:=by rw[dQ,hx];rfl
       obtain⟨b4,o4,hA4,h_⟩:=nH.o.form (by omega);subst hA4;have hc:=(nH.o.below dB.o lR).at_ (i:=j) (by omega);rw[hxd] at hc;have hjI:(j:Int)<(L:Int):=by omega
       have aSp:(x:Int) % 18446744073709551616=(x:Int):=by omega
       have HXJ:=lH hx;have HDL:=lH (aE0 hx CA.o);have HRM:Hid ((intOf (Value.int .i64 ((j:Int)-1))+1).toNat<(intOf (Value.int .i64 (j:Int))+1).toNat):=lH (by simp[intOf]);clear hxd hx;(go_wp2_with fail);refine(aB3 x (by omega) wr (HTr.o.up (dB.o.mono lR))).mono ?_;rintro e w3 ⟨rfl,eF⟩;have gY:=lH (dB.o.trans (eF.mono hWs));have aAk:=lH (aE9 kB.o eF);have hW3:Wp.heap.size<=w3.heap.size:=gY.o.size;obtain⟨ds,hds⟩:∃ds,Lib.decDigits x=ds:=⟨_,rfl⟩;have HDS:=lH hds;rw[hds] at HDL;rw[hds];have aMV:=HDL.o.1;have aMU:=HDL.o.2;clear eF hc dB kB hds;by_cases hjt:j+1=L
       ·have aMv:¬(j:Int)<(L:Int)-1:=by omega
        have HDJ:Hid (Dg ps j=ds):=lH (by rw[<-HDS.o];exact aEY HXJ.o (by rw[G0.o];exact hjt));have HD1:Hid (Dg ps (j+1)=[]):=lH (by rw[hjt,<-G0.o];exact Y0 ps);rw[HD1.o] at aAk;(go_wp2_with fail);refine(vW Wp.heap.size Wp.heap.size _ ⟨ds.toArray⟩ w3 aAk.o (by rw[gS,Lib.byteCells_length];simp;omega) hW3).mono ?_;rintro e w4 ⟨⟨v4,rfl⟩,X3,h_⟩;have aCK:Hid (Lib.IsBuilder 182 5 Wp.heap.size Wp.heap.size (Lib.byteCells (Dg ps j)) w4):=lH (.inr (by rw[HDJ.o];exact X3));have bH:=lH (gY.o.trans h_);have nD:Hid ((Dg ps j).length+9*j<=9*L):=lH (by rw[HDJ.o];omega);clear X3 h_ aAk gY;(go_wp2_with fail);go_roundw
        case rel=>exact⟨j,qY hjL,rfl,aCK.o,bH.o,nD.o⟩
        case measure=>exact HRM.o
       ·have aMv:(j:Int)<(L:Int)-1:=by omega
        have HDJ:Hid (Dg ps j=Dg ps (j+1)++List.replicate (9-ds.length) 48++ds):=lH (by rw[<-HDS.o];exact aEZ HXJ.o (by rw[G0.o];omega) CA.o aFs.o);have hsl:∀W,(Instr.sliceAt 9 (.string ⟨#[48,48,48,48,48,48,48,48,48]⟩) (some (.int .i64 (ds.length:Int))) none none).run Tryz.prog W=.ok (.string ⟨(List.replicate (9-ds.length) 48).toArray⟩) W:=T6 ds.length aMV aMU;have hss:(⟨ds.toArray⟩:ByteArray).size=ds.length:=gS ds;(go_wp2_with fail);refine(vW Wp.heap.size Wp.heap.size _ ⟨Array.replicate (9-ds.length) 48⟩ w3 aAk.o (by rw[Lib.byteCells_length];simp[ByteArray.size];omega) hW3).mono ?_;rintro e w4 ⟨⟨v4,rfl⟩,X3,h_⟩;have aCK:Hid (Lib.IsBuilder 182 5 Wp.heap.size Wp.heap.size (Lib.byteCells (Dg ps (j+1)++List.replicate (9-ds.length) 48)) w4):=lH (.inr (by
         rw[Lib.byteCells_append];have e:Lib.strCells ⟨Array.replicate (9-ds.length) 48⟩=Lib.byteCells (List.replicate (9-ds.length) 48):=by rw[Lib.strCells_eq];simp
         rw[<-e];exact X3))
        have bH:=lH (gY.o.trans h_);have hW4:Wp.heap.size<=w4.heap.size:=bH.o.size;clear X3 h_ aAk gY hsl hss;(go_wp2_with fail);refine(vW Wp.heap.size Wp.heap.size _ ⟨ds.toArray⟩ w4 aCK.o (by rw[gS,Lib.byteCells_length,jO,pV];omega) hW4).mono ?_;rintro e w5 ⟨⟨v5,rfl⟩,aIE,eS⟩;have aO7:Hid (Lib.IsBuilder 182 5 Wp.heap.size Wp.heap.size (Lib.byteCells (Dg ps j)) w5):=lH (.inr (by rw[HDJ.o,Lib.byteCells_append];exact aIE));have dK:=lH (bH.o.trans eS);have nD:Hid ((Dg ps j).length+9*j<=9*L):=lH (by rw[HDJ.o,jO,jO,pV];omega);clear aIE eS aCK bH;(go_wp2_with fail);go_roundw
        case rel=>exact⟨j,qY hjL,rfl,aO7.o,dK.o,nD.o⟩
        case measure=>exact HRM.o
    ·have aS3:0<n5:=by rw[HL5.o,gV hk];omega
     have pX:0<gk:=by omega
     have aTx:ps.length<225:=SE (v:=z.natAbs) (by rw[<-HEN.o];omega) pX (by rw[DE.o];omega);have aMc:n5<=35184372088832:=by
      rw[HL5.o];refine eN (g_ (n:=z.natAbs) ?_) (by rw[<-HEN.o];omega);have h1:1<=1000000000^ps.length:=Nat.one_le_pow _ _ (by decide);have h2:gk*1<=gk*1000000000^ps.length:=Nat.mul_le_mul_left _ h1;rw[DE.o];omega
     (go_wp2_with fail);refine(aCV A5 n5 c5 1000000000 (gX gk) wr HR5.o (fA _) aMc (by decide) (by decide)).mono ?_;rw[cU];rintro e w6 ⟨eE,g6,n6,l6,rfl,CN,hd6,hv6,hn6,hg6⟩;have d6:=bX dK eE;obtain⟨S8,HR6,HD6,HV6⟩:=gO (FN HO4.o eE) CN hd6 hv6;obtain⟨r,hr⟩:∃r,gk % 1000000000=r:=⟨_,rfl⟩;have HR:=lH hr;rw[hr];have hr9:r<1000000000:=by rw[<-hr];exact Nat.mod_lt _ (by decide)
     have HNE:Hid (some g6≠u4.ownBlock):=lH fun e=>by have:=(HO4.o.lt g6 e.symm).2;omega
     have HC6:=lH (cell_one_new w6 (.int .u32 (r:Int)) 175);clear eE CN hd6 hv6 HR5 HO4 dK hr
     go_wp2_with (at_builtin;refine wpList_append_own_at _ rfl (.tmp 31) (.tmp 33) _ rfl W.heap.size 175 i0 _ 1 4 Tryz.underlying83 yT.o xK.o CE.o CD.o rfl (by omega) u4 _ _ rfl (S8.o.alloc _) ⟨_,0,none⟩ 1 1 [.int .u32 (r:Int)] rfl rfl HC6.o ?k1 ?k2 ?k3 ?k4 ?_)
     case k1=>intro u hu;rw[List.mem_singleton.1 hu];rfl
     case k2=>simp only[maxLen];omega
     case k3=>omega
     case k4=>have:=d6.o.size;simp;omega
     intro v7 w7 hown7 hg7 hnil7 hat7;have aIb:∀g,u4.ownBlock=some g->W.heap.size<=g:=fun g hg=>((S8.o.lt g hg).1);have gN:=lH ((d6.o.alloc d6.o.size (.cells #[.int .u32 (r:Int)] 175)).grown hg7 (by have:=d6.o.size;simp;omega) aIb);have HR7:=lH (QW HR6.o lR hg7 HNE.o);have HO7:Hid (w7.ownsRow W.heap.size 175 1 v7 (ps++[r]).length (aY (ps++[r]))):=lH (by
      rw[jO,List.length_singleton];unfold aY at hown7 ⊢;rw[List.map_append];exact hown7)
     clear hown7 hg7 hnil7 hat7 aIb d6 S8 HR6 HC6 HNE;(go_wp2_with fail);refine(gU false (some ⟨g6,0,none⟩) n6 n6 l6 w7 HR7.o HD6.o lR (by omega)).mono ?_;rw[HV6.o];rintro e w8 ⟨mL,b8,A8,n8,c8,rfl,h8⟩;have hX:=bX gN mL;have GZ:=lH (FN HO7.o mL);have PX:Hid (gF w8 w8.heap.size A8 n8 (gX (gk / 1000000000))):=lH h8.rd;have hn8:=h8.nc;have hc8:=h8.cm;clear mL h8 gN HO7;have KS:Hid (z.natAbs=pv (ps++[r])+gk / 1000000000*1000000000^(ps++[r]).length):=lH (by
      rw[DE.o,ON,jO,List.length_singleton,Nat.pow_succ];have h:=Nat.div_add_mod gk 1000000000;rw[HR.o] at h;generalize gk / 1000000000=q at *;generalize 1000000000^ps.length=X at *;rw[<-h];grind)
     have HTT:Hid (gk / 1000000000=0->ps++[r]≠[]/\KR (ps++[r])):=lH fun h0=>⟨by simp,fun x hx=>by
      have h:=Nat.div_add_mod gk 1000000000;rw[HR.o,h0] at h;have:x=r:=by simpa using hx.symm
      omega⟩
     have nD:Hid ((ps++[r]).length<=225):=lH (by rw[jO,List.length_singleton];omega);have hfd:∀w,(Instr.field 85 (.agg #[.bool b8,.slice A8 n8 c8]) 1).run Tryz.prog w=.ok (.slice A8 n8 c8) w:=fun _=>by kernel_rfl
     have HMM:Hid (gk / 1000000000<gk):=lH (by omega);(go_wp2_with fail)
     go_roundg (gk / 1000000000)
     case rel=>exact⟨ps++[r],A8,n8,c8,rfl,PX.o,hn8,hc8,GZ.o,hX.o,KS.o,Q3 CA.o hr9,HTT.o,nD.o⟩
     case measure=>exact HMM.o
theorem JC(l:List UInt8):Lib.hasPrefix (45::l) [45]=true:=by simp[Lib.hasPrefix]
theorem UL(l:List UInt8):Lib.trimPrefix (45::l) [45]=l:=by unfold Lib.trimPrefix;rw[if_pos (JC l)];rfl
theorem aC_{l:List UInt8}(h:gW l):Lib.hasPrefix l [45]=false:=by
 cases l with
 | nil=>rfl
 | cons c r=>
  have hc:=(h c (List.mem_cons_self ..)).1;have:((45:UInt8) == c)=false:=by
   cases hb:((45:UInt8) == c) with
   | false=>rfl
   | true=>have:=eq_of_beq hb;subst this;exact absurd hc (by decide)
  simp[Lib.hasPrefix,List.isPrefixOf,this]
theorem aHg{l:List UInt8}(h:gW l):Lib.trimPrefix l [45]=l:=by unfold Lib.trimPrefix;rw[aC_ h];rfl
theorem YI(l:List UInt8)(n:Nat)(h:n<=l.length):(⟨l.toArray⟩:ByteArray).extract 0 n=⟨(l.take n).toArray⟩:=by
 apply ByteArray.ext;rw[ByteArray.data_extract];simp
theorem YJ(l:List UInt8)(n:Nat):(⟨l.toArray⟩:ByteArray).extract n l.length=⟨(l.drop n).toArray⟩:=by
 apply ByteArray.ext;rw[ByteArray.data_extract];apply Array.ext';simp;exact oP (by simp)
def CT(neg:Bool)(l:List UInt8):Int:=if neg then -(dv l:Int) else dv l
def rdT(neg:Bool)(l:List UInt8):ByteArray:=⟨((if neg then[45] else[])++l).toArray⟩
theorem aBA(w:Wo)(B:Nat):bE w B 0 false none 0 0:=⟨by simp,by rw[Int.natAbs_zero,fK],by rw[Int.natAbs_zero,jC];exact t7 _ _ _,lR,by decide⟩
theorem aBB{v:Nat}{A:OA}{c:Nat}(h:bE w B (v:Int) false A n c)(m:Bool):bE w B (wC m v) (m && decide (0<n)) A n c:=by
 have hn:n=cE v:=by rw[h.en,Int.natAbs_natCast]
 refine⟨?_,by rw[y_];exact hn,by rw[y_];have:=h.rd;rwa[Int.natAbs_natCast] at this,h.nc,h.cm⟩;rw[OH];congr 1
 refine decide_eq_decide.2 ?_;rw[hn];by_cases h0:v=0
 ·subst h0;rw[fK]
 ·rw[gV h0];omega
theorem UV(l:List UInt8)(k:Nat)(h:k<=l.length)(W:Wo):(Instr.sliceAt 9 (.string ⟨l.toArray⟩) none (some (.int .i64 (k:Int))) none).run Tryz.prog W=.ok (.string ⟨(l.take k).toArray⟩) W:=by
 rw[run_sliceAt_string W 9 _ _ _ _ Tryz.underlying9,run_slice_string_h W 9 _ Tryz.underlying9 .i64 (k:Int) (by omega) (by rw[gS];omega),oL,YI l k h]
theorem IE(l:List UInt8)(k:Nat)(h:k<=l.length)(W:Wo):(Instr.sliceAt 9 (.string ⟨l.toArray⟩) (some (.int .i64 (k:Int))) none none).run Tryz.prog W=.ok (.string ⟨(l.drop k).toArray⟩) W:=by
 rw[run_sliceAt_string W 9 _ _ _ _ Tryz.underlying9,run_slice_string_l W 9 _ Tryz.underlying9 .i64 (k:Int) (by omega) (by rw[gS];omega),oL,gS,YJ l k]
def aNC(g2 g4:Nat)(l:List UInt8)(w wr:Wo)(k:Nat)(v0:Value):Prop:=∃(dn rs:List UInt8)(A:OA)(n c:Nat),v0=.string ⟨rs.toArray⟩/\l=dn++rs/\k=rs.length/\(dn=[]\/rs.length % 9=0)/\Below w.heap.size w wr/\aD wr g2 85 #[.bool false,.slice none 0 0]/\aD wr g4 85 #[.bool false,.slice A n c]/\bE wr wr.heap.size (dv dn:Int) false A n c
theorem t6(neg:Bool)(l:List UInt8)(hd:gW l)(hl:l.length<=1000000)(w:Wo):Calls Tryz.prog 111 #[.string (rdT neg l)] w (SV (CT neg l) w):=by
 have HP:Hid (Lib.hasPrefix (rdT neg l).data.toList [45]=neg):=lH (by cases neg;exact aC_ hd;exact JC l);have HT:Hid (Lib.trimPrefix (rdT neg l).data.toList [45]=l):=lH (by cases neg;exact aHg hd;exact UL l);have HD:=lH hd;have cI:Hid (Below w.heap.size w ((w.alloc bU).alloc bU)):=lH ((bA).alloc (by simp) _);have dE:Hid (aD ((w.alloc bU).alloc bU) w.heap.size 85 #[.bool false,.slice none 0 0]):=lH ((aD.new w _ _).alloc _);have eT:Hid (aD ((w.alloc bU).alloc bU) (w.heap.size+1) 85 #[.bool false,.slice none 0 0]):=lH (aD.new_ (by simp));generalize rdT neg l=s at *;clear hd;go_enter Tryz.func111,Tryz.ntmps111
 go_wp2_with fail
 refine(Tryz.strings_HasPrefix s ⟨#[45]⟩ _).mono ?_;rintro e w1 ⟨he,hw⟩;subst hw;rw[show(⟨#[45]⟩:ByteArray).data.toList=[45] from rfl,HP.o] at he;subst he
 go_wp2_with fail
 refine(Tryz.strings_TrimPrefix s ⟨#[45]⟩ _).mono ?_;rintro e w1 ⟨he,hw⟩;subst hw;rw[show(⟨#[45]⟩:ByteArray).data.toList=[45] from rfl,HT.o] at he;subst he
 go_wp2_with fail
 generalize ((w.alloc bU).alloc bU)=W at *;obtain⟨g4,hg4⟩:∃g,w.heap.size+1=g:=⟨_,rfl⟩;rw[hg4] at eT;have TC:=lH hg4;rw[hg4];clear hg4;have XI:w.heap.size≠g4:=by have:=TC.o;omega
 have aIr:w.heap.size<=g4:=by have:=TC.o;omega
 go_loopg [0] l.length (fun k v0 wr=>aNC w.heap.size g4 l w wr k v0)
 case atStart=>exact⟨[],l,none,0,0,rfl,rfl,rfl,.inl rfl,cI.o,dE.o,eT.o,aBA _ _⟩
 case round=>
  clear cI dE eT HP HT;obtain⟨dn,rs,A,n,c,rfl,hlr,hgk,hmd,R7,K_,hp4,ha⟩:=hrel;obtain⟨HLR,HGK,HMD,zS,qV⟩:=mP hlr hgk hmd R7 K_;have vO:=lH hp4;have HA:=lH ha;have HAN:Hid (n=cE (dv dn)):=lH (by rw[ha.en,Int.natAbs_natCast]);have HSR:Hid ((⟨rs.toArray⟩:ByteArray).size=rs.length):=lH (gS rs);clear hlr hgk hmd R7 K_ hp4 ha;by_cases hrs:rs.length=0
  ·have hs0:(⟨rs.toArray⟩:ByteArray).size=0:=by rw[HSR.o,hrs]
   have hdn:dn=l:=by rw[HLR.o,List.eq_nil_of_length_eq_zero hrs,List.append_nil]
   rw[hdn] at HA HAN;clear hdn hrs;obtain⟨z0,z1,zf,zl⟩:=vO.o.e2;have GO:Hid (∀b,b=(neg && decide (0<n))->bE (wr.setCell ⟨g4,0,none⟩ (.bool b)) (wr.setCell ⟨g4,0,none⟩ (.bool b)).heap.size (CT neg l) b A n c):=lH fun b hb=>by
    rw[hb];exact(aBB HA.o neg).keep (vO.o.cell 0) (by simp) _
   have HPX:Hid (∀b,aD (wr.setCell ⟨g4,0,none⟩ (.bool b)) g4 85 #[.bool b,.slice A n c]/\aD (wr.setCell ⟨g4,0,none⟩ (.bool b)) w.heap.size 85 #[.bool false,.slice none 0 0]/\Below w.heap.size w (wr.setCell ⟨g4,0,none⟩ (.bool b))):=lH fun b=>⟨vO.o.set_at (i:=0) (.bool b) (by simp),qV.o.far XI _,zS.o.setCell aIr _⟩;have mF:w.heap.size<=w.heap.size:=lR;have hc3:neg=false\/(neg=true/\n=0)\/(neg=true/\0<n):=by cases neg<;>simp<;>omega
   rcases hc3 with rfl | ⟨rfl,rfl⟩ | ⟨rfl,kV⟩
   ·have hq0:=hs0
    (go_upto_region 10 with fail);clear z0 z1 zf zl;obtain⟨CK,xV,RS⟩:=HPX.o false;have hx4:=GO.o false rfl;obtain⟨dE,eT,Z3,HX4⟩:=gO CK xV RS hx4;clear CK xV RS hx4 GO HPX;generalize wr.setCell ⟨g4,0,none⟩ (.bool false)=V at *;obtain⟨y0,y1,yl⟩:=dE.o.b2;obtain⟨z0,z1,zf,zl⟩:=eT.o.e2;(go_wp2_with fail);generalize dO:(V.setCell ⟨_,0,none⟩ _).setCell ⟨_,1,none⟩ _=W9;have fO:=lH (kX (e:=.returned (.agg #[.bool false,.slice A n c])) Z3.o mF eT.o (by simp) (by simp) HX4.o rfl);rw[dO] at fO;have eU:Hid (aD W9 _ 85 #[.bool false,.slice A n c]):=lH (by rw[<-dO];exact bD eT.o);clear dO z0 z1 zf zl;obtain⟨q0,q1⟩:=eU.o.a2;exact bodyPost_ret (v:=.agg #[.bool false,.slice A n c]) (by simp[results,Tryz.results111,go_sem,q0,q1]) rfl fO.o
   ·have h00:=hs0
    (go_upto_region 10 with fail);clear z0 z1 zf zl;obtain⟨CK,xV,RS⟩:=HPX.o false;have hx4:=GO.o false (by simp);obtain⟨dE,eT,Z3,HX4⟩:=gO CK xV RS hx4;clear CK xV RS hx4 GO HPX;generalize wr.setCell ⟨g4,0,none⟩ (.bool false)=V at *;obtain⟨y0,y1,yl⟩:=dE.o.b2;obtain⟨z0,z1,zf,zl⟩:=eT.o.e2;(go_wp2_with fail);generalize dO:(V.setCell ⟨_,0,none⟩ _).setCell ⟨_,1,none⟩ _=W9;have fO:=lH (kX (e:=.returned (.agg #[.bool false,.slice A 0 c])) Z3.o mF eT.o (by simp) (by simp) HX4.o rfl);rw[dO] at fO;have eU:Hid (aD W9 _ 85 #[.bool false,.slice A 0 c]):=lH (by rw[<-dO];exact bD eT.o);clear dO z0 z1 zf zl;obtain⟨q0,q1⟩:=eU.o.a2;exact bodyPost_ret (v:=.agg #[.bool false,.slice A 0 c]) (by simp[results,Tryz.results111,go_sem,q0,q1]) rfl fO.o
   ·have aS5:(0:Int)<(n:Int):=by omega
    (go_upto_region 10 with fail);clear z0 z1 zf zl;obtain⟨CK,xV,RS⟩:=HPX.o true;have hx4:=GO.o true (by simp[kV]);obtain⟨dE,eT,Z3,HX4⟩:=gO CK xV RS hx4;clear CK xV RS hx4 GO HPX;generalize wr.setCell ⟨g4,0,none⟩ (.bool true)=V at *;obtain⟨y0,y1,yl⟩:=dE.o.b2;obtain⟨z0,z1,zf,zl⟩:=eT.o.e2;(go_wp2_with fail);generalize dO:(V.setCell ⟨_,0,none⟩ _).setCell ⟨_,1,none⟩ _=W9;have fO:=lH (kX (e:=.returned (.agg #[.bool true,.slice A n c])) Z3.o mF eT.o (by simp) (by simp) HX4.o rfl);rw[dO] at fO;have eU:Hid (aD W9 _ 85 #[.bool true,.slice A n c]):=lH (by rw[<-dO];exact bD eT.o);clear dO z0 z1 zf zl;obtain⟨q0,q1⟩:=eU.o.a2;exact bodyPost_ret (v:=.agg #[.bool true,.slice A n c]) (by simp[results,Tryz.results111,go_sem,q0,q1]) rfl fO.o
  ·have hs0:(0:Int)<((⟨rs.toArray⟩:ByteArray).size:Int):=by rw[HSR.o];omega
   obtain⟨L,hL⟩:∃L,rs.length=L:=⟨_,rfl⟩;rw[hL] at hrs HSR HMD HGK;have nD:=lH hL;obtain⟨q,hq⟩:∃q,(L-1) % 9=q:=⟨_,rfl⟩;have HQ:=lH hq;have hqL:q+1<=L:=by omega
   have hq9:q+1<=9:=by omega
   have hLl:L<=1000000:=by rw[<-hL];refine eN ?_ hl;rw[HLR.o,jO];omega
   have hdl:dn.length<=1000000:=by refine eN ?_ hl;rw[HLR.o,jO];omega
   obtain⟨ch,hch⟩:∃ch,rs.take (q+1)=ch:=⟨_,rfl⟩;obtain⟨rt,K9⟩:∃rt,rs.drop (q+1)=rt:=⟨_,rfl⟩;have aBN:∀W,(Instr.sliceAt 9 (.string ⟨rs.toArray⟩) none (some (.int .i64 ((q:Int)+1))) none).run Tryz.prog W=.ok (.string ⟨ch.toArray⟩) W:=fun W=>by
    have:=UV rs (q+1) (by omega) W;rw[hch] at this;exact this
   have XB:∀W,(Instr.sliceAt 9 (.string ⟨rs.toArray⟩) (some (.int .i64 ((q:Int)+1))) none none).run Tryz.prog W=.ok (.string ⟨rt.toArray⟩) W:=fun W=>by
    have:=IE rs (q+1) (by omega) W;rw[K9] at this;exact this
   have aN9:=lH XB;have aB2:gW ch:=by
    rw[<-hch];exact gW.take (fun x hx=>HD.o x (by rw[HLR.o];exact List.mem_append_right _ hx)) _
   have aB1:gW dn:=fun x hx=>HD.o x (by rw[HLR.o];exact List.mem_append_left _ hx);have uV:ch.length=q+1:=by rw[<-hch,kC];omega
   have HPU:Hid (Lib.parseUintB 32 (⟨ch.toArray⟩:ByteArray).data.toList=.ok (dv ch)):=lH (by rw[show(⟨ch.toArray⟩:ByteArray).data.toList=ch from by simp];exact aLA aB2 (fun e=>by rw[e] at uV;simp at uV) (by omega));have hdc:dv ch<1000000000:=by
    have h1:=JV aB2;have h2:10^ch.length<=10^9:=Nat.pow_le_pow_right (by decide) (by omega);omega
   have HSC:Hid ((⟨ch.toArray⟩:ByteArray).size<=9223372036854775806):=lH (by rw[gS];omega);have HVA:Hid ((dv dn:Int)*1000000000+(dv ch:Int)=(dv (dn++ch):Int)):=lH (by
    rw[aB8 dn ch (HMD.o.imp id fun h=>by omega),Int.natCast_add,Int.natCast_mul];rfl)
   have aJY:Hid (l=(dn++ch)++rt):=lH (by rw[HLR.o,List.append_assoc,<-hch,<-K9,List.take_append_drop]);have aJx:Hid (rt.length=L-(q+1)):=lH (by rw[<-K9,G5];omega);have HR9:Hid (rt.length % 9=0):=lH (by rw[aJx.o];omega);have N5:Hid (rt.length<gk):=lH (by rw[aJx.o,HGK.o];omega);have hdd:=F5 aB1;have HS6:Hid (cE ((dv dn:Int)*1000000000).natAbs<=35184372088832):=lH (by
    refine eN (dW _ _) ?_;rw[Int.natAbs_natCast,show(1000000000:Int).natAbs=1000000000 from rfl,uX (n:=1000000000) (by decide) (by decide)];omega)
   have HS7:Hid (cE (dv ch:Int).natAbs<=35184372088832):=lH (by
    rw[Int.natAbs_natCast];have:=F5 aB2;omega)
   have yD:Hid (n<=1000000):=lH (by rw[HAN.o];omega);have aL2:((L:Int)-1).tmod 9=(q:Int):=by
    rw[<-hq,show((L:Int)-1)=((L-1:Nat):Int) from by omega];rfl
   have gP:=HSR.o;have hL1:(1:Int)<=(L:Int):=by omega
   clear hq hch K9 XB aB2 aB1 uV hL;(go_wp2_with fail);refine(Tryz.strconv_ParseUint_10_at32_ok ⟨ch.toArray⟩ HSC.o (dv ch) HPU.o wr).mono ?_;rintro e w3 ⟨rfl,hw3⟩;have eF:Below wr.heap.size wr w3:=by
    rcases hw3 with rfl | rfl
    ·exact bR
    ·exact Lib.bytesWorld_below _ _ _
   have aKj:=bX zS eF;obtain⟨GK,N3,HA3⟩:=eR (qV.o.bl eF) (vO.o.bl eF) (HA.o.up eF);clear eF hw3 zS qV vO HA aBN aL2 gP hL1 hs0;have zS:=aKj;have qV:=GK;have vO:=N3;have HA:=HA3;clear aKj GK N3 HA3;generalize wr=wq at *;generalize w3=wr at *;obtain⟨z0,z1,zl⟩:=vO.o.b2;have M7:(dv ch:Int) % 18446744073709551616=(dv ch:Int):=by omega
   have aEN:IntKind.i64.wrap (dv ch:Int)=(dv ch:Int):=Go.IntWalk.i64_in _ (by omega);(go_upto_region 7 with fail);refine bC (S:=fun w'=>w'.cell? ⟨g4,0,none⟩=some (.bool false)/\w'.cell? ⟨g4,1,none⟩=some (.slice A n c)) 7 _ (by kernel_rfl) (by kernel_rfl) rfl ⟨z0,z1⟩ (fun hHeld=>?_);simp only[oO,List.take_zero];refine gK 0 (v:=?_) ?_ hHeld ?_;rotate_left 1
   ·intro w' hSw;obtain⟨s0,s1⟩:=hSw;go_simp<;>with_reducible rfl
   (try simp only[Act.put,iG,iF,iE]);refine gK 3 (v:=?_) ?_ hHeld ?_;rotate_left 1
   ·intro w' hSw;obtain⟨s0,s1⟩:=hSw;go_simp<;>with_reducible rfl
   (try simp only[Act.put,iG,iF,iE]);refine gK 4 (v:=?_) ?_ hHeld ?_;rotate_left 1
   ·intro w' hSw;obtain⟨s0,s1⟩:=hSw;go_simp<;>with_reducible rfl
   (try simp only[Act.put,iG,iF,iE]);clear z0 z1;refine bI 1 (fun K hK=>?_);go_simp;refine(sQ 1000000000 _ (by decide) (by decide)).mono ?_;rintro e w5 ⟨eS,f5,C5,i5,j5,rfl,h5⟩;have dK:=lH ((aH (Below.refl wr.heap.size wr)).trans eS);obtain⟨M,hM,h5⟩:∃M:Int,M=1000000000/\bE w5 w5.heap.size M f5 C5 i5 j5:=⟨_,rfl,h5⟩;have HM:=lH hM;have hi5:i5<=1:=by rw[h5.en,hM];exact gI (show(1000000000:Nat)<4294967296^1 by decide)
   have H5:=lH h5;clear eS h5 hM;go_simp;refine hK.out _ _ ?_ (fun hHeld=>?_)
   ·exact⟨(vO.o.bl dK.o).cell 0,(vO.o.bl dK.o).cell 1⟩
   clear hK K;(try simp only[Act.put,iG,iF,iE]);refine bI 2 (fun K hK=>?_);go_simp;refine(gC (dv dn:Int) M false A n c f5 C5 i5 j5 w5 (HA.o.up dK.o) H5.o (eN (Nat.add_le_add yD.o hi5) (by decide))).mono ?_;rintro e w6 ⟨eE,f6,C6,i6,j6,rfl,h6⟩;have d6:=bX dK eE;have H6:=lH h6;clear eE h6 H5;go_simp;refine hK.out _ _ ?_ (fun hHeld=>?_)
   ·exact⟨(vO.o.bl d6.o).cell 0,(vO.o.bl d6.o).cell 1⟩
   clear hK K;(try simp only[Act.put,iG,iF,iE]);refine bI 5 (fun K hK=>?_);go_simp;refine(sQ (dv ch:Int) _ (by omega) (by omega)).mono ?_;rintro e w7 ⟨fR,f7,C7,i7,j7,rfl,h7⟩;have gN:=bX d6 fR;have H7:=lH h7;have H67:=lH (H6.o.up fR);clear fR h7 H6;go_simp;refine hK.out _ _ ?_ (fun hHeld=>?_)
   ·exact⟨(vO.o.bl gN.o).cell 0,(vO.o.bl gN.o).cell 1⟩
   clear hK K;(try simp only[Act.put,iG,iF,iE]);refine bI 6 (fun K hK=>?_);go_simp;refine(GC ((dv dn:Int)*M) (dv ch:Int) f6 C6 i6 j6 f7 C7 i7 j7 w7 H67.o H7.o (by rw[H67.o.en,HM.o];exact HS6.o) (by rw[H7.o.en];exact HS7.o)).mono ?_;rw[HM.o,HVA.o];rintro e w8 ⟨mL,f8,C8,i8,j8,rfl,h8⟩;have hX:=bX gN mL;have H8:=lH h8;clear mL h8 H67 H7;go_simp;refine hK.out _ _ ?_ (fun hHeld=>?_)
   ·exact⟨(vO.o.bl hX.o).cell 0,(vO.o.bl hX.o).cell 1⟩
   clear hK K;(try simp only[Act.put,iG,iF,iE]);refine fZ ?_;have hf8:f8=false:=by rw[H8.o.eb];exact decide_eq_false (Int.not_lt.2 (Int.natCast_nonneg _))
   subst hf8;obtain⟨N2,GJ,aO8⟩:=eR (vO.o.bl hX.o) (qV.o.bl hX.o) (zS.o.tm hX.o);have aUW:=aJY;obtain⟨z0,z1,zf,zl⟩:=N2.o.e2;(go_upto_region 8 with fail);clear z0 z1 zf zl;generalize xW:(w8.setCell ⟨g4,0,none⟩ _).setCell ⟨g4,1,none⟩ _=w9;have GI:Hid (aD w9 g4 85 #[.bool false,.slice C8 i8 j8]):=lH (by rw[<-xW];exact bD N2.o);have aAb:Hid (aD w9 w.heap.size 85 #[.bool false,.slice none 0 0]):=lH (by rw[<-xW];exact(GJ.o.far XI _).far XI _);have eU:Hid (Below w.heap.size w w9):=lH (by rw[<-xW];exact bQ aO8.o aIr);have H9:Hid (bE w9 w9.heap.size (dv (dn++ch):Int) false C8 i8 j8):=lH (by rw[<-xW];exact(H8.o.keep (N2.o.cell 0) (by simp) _).keep ((N2.o.set_ 0 (.bool false)).cell 1) (by simp) _);clear xW;have XB:=aN9.o;(go_wp2_with fail)
   go_roundg rt.length
   case rel=>exact⟨dn++ch,rt,C8,i8,j8,rfl,aJY.o,rfl,.inr HR9.o,eU.o,aAb.o,GI.o,H9.o⟩
   case measure=>exact N5.o
end
