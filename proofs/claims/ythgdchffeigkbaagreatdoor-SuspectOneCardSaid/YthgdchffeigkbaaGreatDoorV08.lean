import Derived.Test.YthgdchffeigkbaaGreatDoorV05
import Derived.Deep.CutBlock
import Derived.Deep.DeepAppendWide
import Derived.Deep.LoopGhost
set_option linter.unusedVariables false
set_option linter.unusedSimpArgs false
namespace Go.Proofs.YthgdchffeigkbaaGreatDoor
set_option maxHeartbeats 8000000
set_option maxRecDepth 100000
variable {B : Nat} {v : Value} {w w' : World}
section
open Go.ChangeShapes Go.WideShapes Go.ChangeAt Go.RowKit
attribute [local go_sem ↓] aE
attribute [local go_sem] aJ aI aM
def aVE(x y:Nat)(w:Wo)(e:Ending)(w':Wo):Prop:=Below w.heap.size w w'/\∃A n c l B m d l2,e=.returned (.tuple #[.slice A n c,.slice B m d])/\(jU w' w'.heap.size A n l/\Wd l/\wv l=x / y/\n<=c/\c<=9223372036854775807)/\(jU w' w'.heap.size B m l2/\Wd l2/\wv l2=x % y/\m<=d/\d<=9223372036854775807)/\n<=35184372088833/\m<=35184372088832
theorem TM(A:OA)(n c:Nat)(B:OA)(m d:Nat)(x y:Nat)(w:Wo)(hx:jU w w.heap.size A n (kU x))(hy:jU w w.heap.size B m (kU y))(yH:0<y)(hnc:n<=c)(LQ:c<=9223372036854775807)(hn:n<=35184372088832)(hm:m<=35184372088832):Calls Tryz.prog 168 #[.slice A n c,.slice B m d] w (aVE x y w):=by
 have HX:=lH hx;have HY:=lH hy;have HXL:Hid (dL x=n):=lH hx.len;have HYL:Hid (dL y=m):=lH hy.len;have M9:0<m:=by rw[<-HYL.o,kP (by omega)];omega
 clear hx hy;go_enter Tryz.func168,Tryz.ntmps168
 go_wp2_with fail
 refine(TZ A n c B m d x y w HX.o HY.o (by omega) (by omega)).mono ?_;rintro e w1 ⟨⟨r,rfl,hr⟩,nq,rfl⟩;have K8:Below w.heap.size w (w.drewN nq):=bD bR nq;obtain⟨bT,eB,HY1⟩:=d_ K8 (HX.o.up K8) (HY.o.up K8);clear K8 HX HY;generalize w.drewN nq=v at *;by_cases gN:r<0
 ·have sP:Hid (x<y):=lH (hr.1.1 gN)
  clear hr;(go_wp2_with fail);go_ret2;exact⟨bT.o,none,0,0,[],A,n,c,kU x,rfl,⟨BU _ _ _,aDT,by rw[Nat.div_eq_of_lt sP.o];rfl,lR,by decide⟩,⟨eB.o,iC _,by rw[Nat.mod_eq_of_lt sP.o,eC],hnc,LQ⟩,by omega,by omega⟩
 ·have HLE:Hid (y<=x):=lH (Nat.le_of_not_lt fun h=>gN (hr.1.2 h))
  have O7:0<=r:=by omega
  clear hr gN;obtain⟨bb,bo,ND,pE⟩:=HY1.o.form M9;subst ND;by_cases S3:m=1
  ·subst S3
   have aNF:y<4294967296:=by
    have:=oL y;rw[HYL.o] at this;exact this
   have HD0:Hid ((kU y).getD 0 0=y):=lH (by
    rw[oQ (by omega),Nat.mod_eq_of_lt aNF];rfl)
   have hcb:=HY1.o.at_ (i:=0) (by omega);rw[HD0.o,Nat.add_zero] at hcb;(go_wp2_with fail);refine(aLg A n c y (kU x) v eB.o (iC _) hn yH aNF).mono ?_;rw[eC];rintro e w2 ⟨bH,g2,n2,l2,rfl,AY,hd2,lA,UY,-⟩;have cH:=bW bT bH;obtain⟨wD,sJ,HD2⟩:=d_ AY lA hd2;have LN:x % y<4294967296:=Nat.lt_trans (Nat.mod_lt _ yH) aNF;obtain⟨t,ht⟩:∃t,x % y=t:=⟨_,rfl⟩;have HT:=lH ht;rw[ht] at LN ⊢;have xO:=lH ((Below.refl w2.heap.size w2).alloc lR (.cells #[.int .u32 (t:Int)] 216));have iJ:Hid (aG (w2.alloc (.cells #[.int .u32 (t:Int)] 216)) w2.heap.size 216 (bS [t]).toArray):=lH (aG.new w2 _ _);clear bH AY lA hd2 ht hcb O7;(go_wp2_with fail);go_ret2;exact⟨cH.o.tm xO.o,_,n2,n2,l2,_,1,1,[t],rfl,⟨wD.o.up xO.o,HD2.o,sJ.o,lR,by omega⟩,⟨rN iJ.o,fun z hz=>by rw[List.mem_singleton.1 hz];exact LN,by rw[HT.o];simp[wv],lR,by decide⟩,by omega,by omega⟩
  ·have zS:2<=m:=by omega
   have hmb:((m:Int) == 1)=false:=by simp;omega
   have HTP:Hid (0<(kU y).getD (m-1) 0/\(kU y).getD (m-1) 0<4294967296):=lH ⟨by
    have h:=(aJe y).2;have hl:(kU y).length=m:=HYL.o;rw[List.getLast?_eq_getElem?,hl,iB (by omega)] at h;rw[dN,iB (by omega)];simp only[Option.getD_some];refine Nat.pos_of_ne_zero fun e=>h (by rw[e])
    ,(iC y).getD _⟩
   have hcb:=HY1.o.at_ (i:=m-1) (by omega);obtain⟨bt,hbt⟩:∃t,(kU y).getD (m-1) 0=t:=⟨_,rfl⟩;have HBT:=lH hbt;rw[hbt] at hcb HTP;obtain⟨FO,oY⟩:=HTP.o;have g1:(1:Int)<=(m:Int):=by omega
   have g4:((m:Int)-1).toNat=m-1:=by omega
   have g5:(m:Int)-1<(m:Int):=by omega
   have hmI:(m:Int)<=35184372088832:=by omega
   clear hbt;(go_wp2_with fail);clear hcb;refine(aNy bt v FO oY).mono ?_;rintro e w2 ⟨⟨s,rfl,hs⟩,rfl⟩;have HS:=lH hs;have aJE:=hs.le;clear hs FO oY g1 g4 g5;(go_wp2_with fail);have aTT:Hid (jU v.drew v.drew.heap.size A n (kU x)):=lH eB.o;have aTQ:Hid (jU v.drew v.drew.heap.size (some ⟨bb,bo,none⟩) m (kU y)):=lH HY1.o;have aXT:(m:Int)<=(m:Int)+1:=by omega
   refine kX 10 (fun hHeld=>?_);simp only[nI,List.take_zero];refine cW [0,1,3,4,6,7] ?_;refine bQ 2 (fun K hK=>?_);go_simp;refine(shW A n c s (kU x) v.drew aTT.o (iC _) hn aJE).mono ?_;rw[eC];rintro e w3 ⟨cN,gu,us,rfl,hgu,hu,hud,huv,hul⟩;have dY:=lH ((aK (Below.refl v.heap.size v)).trans cN);have HU3:=lH hu;have HUP:Hid (Wd us/\wv us=x*2^s/\us.length=n+1):=lH ⟨hud,huv,hul⟩;have aYf:v.heap.size<=gu:=hgu;have HY3:=lH (aTQ.o.up cN);clear cN hu hud huv hul hgu;go_simp;refine gZ hK dY.o (fun hHeld=>?_);clear hK K;refine bQ 5 (fun K hK=>?_);go_simp;refine(shW (some ⟨bb,bo,none⟩) m d s (kU y) w3 HY3.o (iC _) hm aJE).mono ?_;rw[eC];rintro e w4 ⟨eR,gv,vs,rfl,hgv,uF,hvd,hvv,QR⟩;have bM:=bW dY eR;have UD:=lH uF;have HVP:Hid (Wd vs/\wv vs=y*2^s/\vs.length=m+1):=lH ⟨hvd,hvv,QR⟩;have a5W:gu<gv:=jE HU3.o.lt hgv;have HU4:=lH (HU3.o.bl eR);clear eR uF hvd hvv QR hgv;go_simp;refine gZ hK bM.o (fun hHeld=>?_);clear hK K;refine cW [8,9] ?_;refine eM ?_;go_simp;have hmn:m<=n:=by rw[<-HXL.o,<-HYL.o];exact lD HLE.o
   have HNV:Hid (wv (vs.take m)=y*2^s/\2147483648<=(vs.take m).getD (m-1) 0):=lH (by
    have hlz:=HS.o;have h:=aE3 (n:=m) (by omega) (iC y) HYL.o HVP.o.1 HVP.o.2.2 (by rw[eC];exact HVP.o.2.1) (by rw[HBT.o];exact hlz.lo) (by rw[HBT.o];exact hlz.hi) hlz.le;rwa[eC] at h)
   obtain⟨k,hk⟩:∃k,n=k+m:=⟨n-m,by omega⟩;subst hk;have vI:∀w:World,(Instr.makeSlice 111 (.int .i64 ((k:Int)+1)) (.int .i64 ((k:Int)+1))).run Tryz.prog w=.ok (.slice (some ⟨w.heap.size,0,none⟩) (k+1) (k+1)) (w.alloc (.cells (bS (List.replicate (k+1) 0)).toArray 216)):=fun w=>qN (k+1) (by omega) w;have HKQ:=lH ((Below.refl w4.heap.size w4).alloc lR (.cells (bS (List.replicate (k+1) 0)).toArray 216));have HQ0:=lH (aG.new w4 216 (bS (List.replicate (k+1) 0)).toArray)
   (go_wp2_with fail);clear vI;obtain⟨vm,hvm⟩:∃l,vs.take m=l:=⟨_,rfl⟩;have HVM:=lH hvm;have F0:Hid (vm.length=m):=lH (by rw[<-hvm,kR,HVP.o.2.2];omega);have HVW:Hid (Wd vm):=lH (by rw[<-hvm];exact HVP.o.1.take m);have HVT:Hid (∀i,i<m->vs.getD i 0=vm.getD i 0):=lH (fun i hi=>by
    rw[<-hvm,dN,dN,List.getElem?_take_of_lt hi])
   rw[hvm] at HNV;clear hvm;have LW:Hid (us.length=k+m+1):=lH HUP.o.2.2;have LY:Hid (KH (x*2^s) us vm (List.replicate (k+1) 0) m (k+1)):=lH (RM (a:=kU x) (eC x) (iC x) HXL.o (by omega) HUP.o.1 (qE _) HUP.o.2.1 aJE F0.o HNV.o.2 (sQ _ _));have lT:Hid (2147483648<=vm.getD (m-1) 0):=lH HNV.o.2;obtain⟨eK,HU5,P_⟩:=d_ (bM.o.tm HKQ.o) (HU4.o.bl HKQ.o) (UD.o.bl HKQ.o);have a5V:gv<w4.heap.size:=UD.o.lt;have yJ:v.heap.size<=gu:=aYf;have aYm:v.heap.size<=w4.heap.size:=by omega
   have hnv:gv≠gu:=by omega
   have hnq:w4.heap.size≠gu:=by omega
   have aXF:gv≠w4.heap.size:=by omega
   have aXG:gu≠w4.heap.size:=by omega
   generalize w4.alloc (.cells (bS (List.replicate (k+1) 0)).toArray 216)=W at *;generalize w4.heap.size=gq at *;clear dY HU3 HY3 bM HU4 UD aTT aTQ aXT HKQ;clear eB HY1
   go_loopw [12] (fun v12 wr=>∃(j:Nat)(us qs:List Nat),j<=k+1/\v12=.int .i64 ((j:Int)-1)/\Below v.heap.size v wr/\aG wr gv 216 (bS vs).toArray/\aG wr gu 216 (bS us).toArray/\us.length=k+m+1/\aG wr gq 216 (bS qs).toArray/\qs.length=k+1/\KH (x*2^s) us vm qs m j) (fun v12 _=>(intOf v12+1).toNat)
   case atStart=>exact⟨k+1,us,_,lR,aO (by omega),eK.o,P_.o,HU5.o,LW.o,HQ0.o,by simp,LY.o⟩
   case round=>as_aux_lemma=>
    clear eK P_ HU5 LW HQ0 LY HUP;obtain⟨j,us,qs,hj,rfl,hb,hv,hu,hul,hq,hql,M7⟩:=hrel;obtain⟨HB,HV,HU,LW,HQ⟩:=kN hb hv hu hul hq;have l8:=lH hql;have gQ:=lH M7;clear hb hv hu hul hq hql M7;by_cases h0:j=0
    ·subst h0
     have e:(((0:Nat):Int)-1)=-1:=rfl;rw[e];clear e;have HDD:=lH (aGG gQ.o HNV.o.1 yH);have hyB:y<BB m:=by have:=oL y;rwa[HYL.o] at this
     have HUZ:Hid (wv us / 2^s<BB m):=lH (Nat.lt_trans HDD.o.2.2 hyB);have HUW:Hid (Wd us):=lH gQ.o.ud;have HQW:Hid (Wd qs):=lH gQ.o.qd;have S1:∀w:World,(Instr.makeSlice 111 (.int .i64 (m:Int)) (.int .i64 (m:Int))).run Tryz.prog w=.ok (.slice (some ⟨w.heap.size,0,none⟩) m m) (w.alloc (.cells (bS (List.replicate m 0)).toArray 216)):=fun w=>qN m (by omega) w;have HKR:=lH ((Below.refl wr.heap.size wr).alloc lR (.cells (bS (List.replicate m 0)).toArray 216));obtain⟨E6,fL,HU6,HQ6⟩:=iK (aG.new wr 216 (bS (List.replicate m 0)).toArray) (HB.o.tm HKR.o) (HU.o.bl HKR.o) (HQ.o.bl HKR.o);have a5Z:wr.heap.size≠gu:=by have:=HU.o.lt;omega
     have aYk:gu≠wr.heap.size:=by have:=HU.o.lt;omega
     have aYj:gq≠wr.heap.size:=by have:=HQ.o.lt;omega
     have aYi:v.heap.size<=wr.heap.size:=HB.o.size;clear gQ;(go_wp2_with fail);clear S1;generalize wr.alloc (.cells (bS (List.replicate m 0)).toArray 216)=WR at *;generalize wr.heap.size=gr at *;clear HB HV HU HQ HKR
     go_loopw [250] (fun v250 wr=>∃(z:Nat)(rs:List Nat),z<=m/\v250=.int .i64 z/\Below v.heap.size v wr/\aG wr gu 216 (bS us).toArray/\aG wr gq 216 (bS qs).toArray/\aG wr gr 216 (bS rs).toArray/\rs.length=m/\Wd rs/\Zf rs z/\wv rs=wv us / 2^s % BB z) (fun v250 _=>m-(intOf v250).toNat)
     case atStart=>exact⟨0,_,Nat.zero_le _,rfl,fL.o,HU6.o,HQ6.o,E6.o,by simp,qE _,sQ _ _,by rw[qC,yS,Nat.mod_one]⟩
     case round=>as_aux_lemma=>
      clear fL HU6 HQ6 E6;obtain⟨z,rs,hz,rfl,hb,hu,hq,hr,w_,hrw,hrz,hrv⟩:=hrel;obtain⟨HB,HU,HQ,HR,vN⟩:=kN hb hu hq hr w_;obtain⟨sC,HRZ,HRV⟩:=d_ hrw hrz hrv;have a5Y:=hr.lt;have hfr:=hr.frozen;have aCl:=hu.lt;clear hb hu hq hr w_ hrw hrz hrv;by_cases hzm:z<m
      ·have JV:=cG HU.o (i:=z) (by rw[LW.o];omega)
       have hc1:=cG HU.o (i:=z+1) (by rw[LW.o];omega);have hcr:=cG HR.o (i:=z) (by rw[vN.o];omega);have AZ:=HUW.o.getD z;have bC:=HUW.o.getD (z+1);have UO:=lH (YD HUW.o aJE hzm (by rw[vN.o];omega) (by rw[LW.o];omega) HRZ.o HRV.o);obtain⟨x0,O3⟩:∃a,us.getD z 0=a:=⟨_,rfl⟩;obtain⟨x1,CH⟩:∃a,us.getD (z+1) 0=a:=⟨_,rfl⟩;obtain⟨x2,y9⟩:∃a,rs.getD z 0=a:=⟨_,rfl⟩;rw[O3] at JV AZ;rw[CH] at hc1 bC;rw[O3,CH] at UO;rw[y9] at hcr;have hor:bits BinOp.or IntKind.u64 ((x1:Int)*4294967296) (x0:Int)=((x1*4294967296+x0:Nat):Int):=B5 x1 x0 32 (by omega) bC AZ;have aNR:=UO.o.1;have cH:=lH UO.o.2;clear UO O3 CH y9;generalize x1*4294967296+x0=sm at *;have fC:=lN z;have iI:Hid (m-(z+1)<m-z):=lH (by omega);have tS:Hid ((sm:Int) / 2^s % 4294967296=((sm / 2^s % 4294967296:Nat):Int)):=lH (by
        rw[Int.natCast_emod,Int.natCast_ediv,Int.natCast_pow];rfl)
       have aZ7:Hid ((rs.set z (sm / 2^s % 4294967296)).length=m):=lH (by rw[lS];exact vN.o);have aZ2:Hid (Wd (rs.set z (sm / 2^s % 4294967296))):=lH (sC.o.set _ (Nat.mod_lt _ (by decide)));have aZZ:Hid (Zf (rs.set z (sm / 2^s % 4294967296)) (z+1)):=lH HRZ.o.put;have s1:(z:Int)<(m:Int):=by omega
       have s2:IntKind.i64.wrap ((z:Int)+1)=(z:Int)+1:=Go.IntWalk.i64_in _ (by omega);have s3:((z:Int)+1).toNat=z+1:=by omega
       have s4:(z:Int)+1<(k:Int)+(m:Int)+1:=by omega
       have s5:(0:Int)<=(z:Int)+1:=by omega
       have s6:(z:Int)<(k:Int)+(m:Int)+1:=by omega
       (go_wp2_with fail);refine kX 19 (fun hHeld=>?_);simp only[nI,List.take_zero];refine cW [0,1,2,3,4,5,6,7,8,9,10,11,12,13,14,15,16,17,18] ?_;refine eM ?_;(go_wp2_with fail);clear s1 s2 s3 s4 s5 s6;go_roundw
       case rel=>exact⟨z+1,rs.set z (sm / 2^s % 4294967296),hzm,aO fC.o,aK (HB.o.setCell aYi _),(HU.o.far aYk _).drew,(HQ.o.far aYj _).drew,(fA HR.o tS.o).drew,aZ7.o,aZ2.o,aZZ.o,cH.o⟩
       case measure=>exact iI.o
      ·have hze:z=m:=by omega
       subst hze;have lT:Hid (wv rs=x % y):=lH (by rw[HRV.o,Nat.mod_eq_of_lt HUZ.o];exact HDD.o.2.1);(go_wp2_with fail);go_ret2;exact⟨bT.o.tm HB.o,_,k+1,k+1,qs,_,z,z,rs,rfl,⟨by have:=rN HQ.o;rwa[l8.o] at this,HQW.o,HDD.o.1,lR,by omega⟩,⟨by have:=rN HR.o;rwa[vN.o] at this,sC.o,lT.o,lR,by omega⟩,by omega,by omega⟩
    ·obtain⟨i,rfl⟩:∃i,j=i+1:=⟨j-1,by omega⟩
     have e:(((i+1:Nat):Int)-1)=(i:Int):=by omega
     rw[e];clear e h0;have U5:Hid (h_ us vm m i):=lH (aEd gQ.o zS F0.o HVW.o lT.o (by rw[LW.o];omega));obtain⟨u1,hu1⟩:∃t,us.getD (i+m) 0=t:=⟨_,rfl⟩;obtain⟨u0,hu0⟩:∃t,us.getD (i+m-1) 0=t:=⟨_,rfl⟩;obtain⟨u2,hu2⟩:∃t,us.getD (i+m-2) 0=t:=⟨_,rfl⟩;obtain⟨v1,nG⟩:∃t,vm.getD (m-1) 0=t:=⟨_,rfl⟩;obtain⟨v2,lA⟩:∃t,vm.getD (m-2) 0=t:=⟨_,rfl⟩;have aS6:=cG HU.o (i:=i+m) (by rw[LW.o];omega);have aS7:=cG HU.o (i:=i+m-1) (by rw[LW.o];omega);have aF_:=cG HV.o (i:=m-1) (by rw[HVP.o.2.2];omega);have aOA:=U5.o.ud.getD (i+m);have aOB:=U5.o.ud.getD (i+m-1);have aS9:=U5.o.ud.getD (i+m-2);have aYL:=HVW.o.getD (m-1);have aYK:=HVW.o.getD (m-2);have aXV:=lT.o;rw[HVT.o _ (by omega),nG] at aF_;rw[hu1] at aS6 aOA;rw[hu0] at aS7 aOB;rw[hu2] at aS9;rw[nG] at aYL aXV;rw[lA] at aYK;have HTP:Hid (h_.tp us m i=u1*4294967296+u0):=lH (by unfold h_.tp;rw[hu1,hu0]);obtain⟨HU2,aC0,aPa⟩:=d_ hu2 nG lA;clear hu1 hu0 hu2 nG lA;have s1:IntKind.i64.wrap ((i:Int)+(m:Int))=(i:Int)+(m:Int):=Go.IntWalk.i64_in _ (by omega);have s2:IntKind.i64.wrap ((i:Int)+(m:Int)-1)=(i:Int)+(m:Int)-1:=Go.IntWalk.i64_in _ (by omega);have s3:((i:Int)+(m:Int)).toNat=i+m:=by omega
     have s4:((i:Int)+(m:Int)-1).toNat=i+m-1:=by omega
     have s5:(i:Int)+(m:Int)<(k:Int)+(m:Int)+1:=by omega
     have s6:(i:Int)+(m:Int)-1<(k:Int)+(m:Int)+1:=by omega
     have s7:(0:Int)<=(i:Int)+(m:Int):=by omega
     have s8:(0:Int)<=(i:Int)+(m:Int)-1:=by omega
     have s9:(1:Int)<=(i:Int)+(m:Int):=by omega
     have hor:bits BinOp.or IntKind.u64 ((u1:Int)*4294967296) (u0:Int)=((u1*4294967296+u0:Nat):Int):=B5 u1 u0 32 (by omega) aOA aOB;have aCl:gu<wr.heap.size:=HU.o.lt;have aCk:gv<wr.heap.size:=HV.o.lt;(go_wp2_with fail)
     go_cut [13] (fun v13 wc=>v13=.int .u64 ((u1*4294967296+u0:Nat):Int)/\∃nq,wc=wr.drewN nq)
     case first=>
      go_quiet (fail)
      (go_wp2_with fail);go_meet
      case rel=>exact⟨rfl,_,rfl⟩
     obtain⟨rfl,nq1,rfl⟩:=hcut;have aS5:(wr.drewN nq1).cell? ⟨gv,m-1,none⟩=some (.int .u32 (v1:Int)):=aF_;have aSR:gv<(wr.drewN nq1).heap.size:=aCk;clear aF_ aCk aCl;obtain⟨HBx,HVx,HUx,HQx⟩:=iK (bD HB.o nq1) (HV.o.drewN nq1) (HU.o.drewN nq1) (HQ.o.drewN nq1);clear HB HV HU HQ;have HB:=HBx;have HV:=HVx;have HU:=HUx;have HQ:=HQx;clear HBx HVx HUx HQx;generalize wr.drewN nq1=wa at *;have sP:=lH (h_.top_lt U5.o);rw[HTP.o,aC0.o] at sP;have UW:u1*4294967296+u0<18446744073709551616:=by omega
     generalize u1*4294967296+u0=tp at *;clear aS6 aS7 s1 s2 s3 s4 s5 s6 s7 s8 s9 hor aOA aOB;have aHK:=lH (S_ U5.o);rw[HTP.o,aC0.o] at aHK;have htd:=RD tp v1;have htm:=RC tp v1;have hqb:tp / v1<=tp:=Nat.div_le_self _ _;have AX:tp % v1<v1:=Nat.mod_lt _ (by omega);generalize hg0:tp / v1=g0 at *;generalize gN:tp % v1=r0 at *;have hwq:IntKind.u64.wrap (g0:Int)=(g0:Int):=Go.IntWalk.u64_in _ (by omega);have aNJ:((v1:Int) == 0)=false:=by simp;omega
     have s1:IntKind.i64.wrap ((m:Int)-1)=(m:Int)-1:=Go.IntWalk.i64_in _ (by omega);have s2:((m:Int)-1).toNat=m-1:=by omega
     have s3:(m:Int)-1<(m:Int):=by omega
     have s4:(1:Int)<=(m:Int):=by omega
     clear hg0 gN;(go_wp2_with fail)
     go_cut [14,15] (fun v14 v15 wc=>v14=.int .u64 (g0:Int)/\v15=.int .u64 (r0:Int)/\∃nq,wc=wa.drewN nq)
     case first=>
      go_quiet (fail)
      (go_wp2_with fail);go_meet
      case rel=>exact⟨rfl,rfl,_,rfl⟩
     obtain⟨rfl,rfl,nq2,rfl⟩:=hcut;clear aS5 aSR;obtain⟨HBx,HVx,HUx,HQx⟩:=iK (bD HB.o nq2) (HV.o.drewN nq2) (HU.o.drewN nq2) (HQ.o.drewN nq2);clear HB HV HU HQ;have HB:=HBx;have HV:=HVx;have HU:=HUx;have HQ:=HQx;clear HBx HVx HUx HQx;generalize wa.drewN nq2=wb at *;clear htd htm hwq aNJ s1 s2 s3 s4 hqb;have aF6:g0<18446744073709551616:=by
      have h:=aHK.o.eq;rw[aC0.o,HTP.o] at h;have:g0*1<=g0*v1:=Nat.mul_le_mul_left _ (by omega);omega
     have aFJ:r0<4294967296:=by omega
     clear AX UW
     go_upto_block 2 with fail
     go_cut [14] (fun v14 wc=>∃g:Nat,v14=.int .u64 (g:Int)/\yR us vm i g/\∃nq,wc=wb.drewN nq)
     case first=>
      go_wp2_with fail
      go_loopw [14,15] (fun v14 v15 wr=>∃g rest:Nat,v14=.int .u64 (g:Int)/\v15=.int .u64 (rest:Int)/\g<18446744073709551616/\rest<4294967296/\US us vm m i g rest/\∃nq,wr=wb.drewN nq) (fun _ v15 _=>4294967296-(intOf v15).toNat)
      case atStart=>exact⟨g0,r0,rfl,rfl,aF6,aFJ,aHK.o,0,rfl⟩
      case round=>as_aux_lemma=>
       clear aHK aF6 aFJ;obtain⟨g,rest,rfl,rfl,a57,aNZ,hG,nq3,rfl⟩:=hrel;have HG:=lH hG;clear hG;have aYD:=cG HU.o (i:=i+m-2) (by rw[LW.o];omega);have aF_:=cG HV.o (i:=m-1) (by rw[HVP.o.2.2];omega);have aOv:=cG HV.o (i:=m-2) (by rw[HVP.o.2.2];omega);rw[HVT.o _ (by omega),aC0.o] at aF_;rw[HVT.o _ (by omega),aPa.o] at aOv;rw[HU2.o] at aYD;have aCl:=HU.o.lt;have aCk:=HV.o.lt;have s1:IntKind.i64.wrap ((m:Int)-1)=(m:Int)-1:=Go.IntWalk.i64_in _ (by omega);have s2:((m:Int)-1).toNat=m-1:=by omega
       have s3:(m:Int)-1<(m:Int):=by omega
       have s4:(1:Int)<=(m:Int):=by omega
       have s5:IntKind.i64.wrap ((m:Int)-2)=(m:Int)-2:=Go.IntWalk.i64_in _ (by omega);have s6:((m:Int)-2).toNat=m-2:=by omega
       have s7:(m:Int)-2<(m:Int):=by omega
       have s8:(2:Int)<=(m:Int):=by omega
       have s9:IntKind.i64.wrap ((i:Int)+(m:Int))=(i:Int)+(m:Int):=Go.IntWalk.i64_in _ (by omega);have s10:IntKind.i64.wrap ((i:Int)+(m:Int)-2)=(i:Int)+(m:Int)-2:=Go.IntWalk.i64_in _ (by omega);have s11:((i:Int)+(m:Int)-2).toNat=i+m-2:=by omega
       have s12:(i:Int)+(m:Int)-2<(k:Int)+(m:Int)+1:=by omega
       have s13:(0:Int)<=(i:Int)+(m:Int)-2:=by omega
       have s14:(2:Int)<=(i:Int)+(m:Int):=by omega
       by_cases aOC:4294967296<=g
       ·have ta:decide ((4294967296:Int)<=(g:Int))=true:=by simp;omega
        have ta2:(4294967296:Int)<=(g:Int):=by omega
        have HBG:=lH aOC;clear aOC;have hdn:=JX U5.o HG.o (.inl HBG.o);obtain⟨LP,XQ⟩:=hdn;have fC:Hid ((g:Int)-1=((g-1:Nat):Int)):=lH (by omega);have iI:Hid ((rest:Int)+(v1:Int)=((rest+v1:Nat):Int)):=lH (by omega);have tS:Hid (g-1<18446744073709551616):=lH (by omega);rw[aC0.o] at XQ;have iJ:=lH XQ;have HGE:=lH (fun h=>EP U5.o iJ.o (.inr h));have hw:IntKind.u64.wrap ((g:Int)-1)=(g:Int)-1:=Go.IntWalk.u64_in _ (by omega);have hgI:(1:Int)<=(g:Int):=by omega
        clear XQ;by_cases hbr:4294967296<=rest+v1
        ·have b1:decide ((4294967296:Int)<=(rest:Int)+(v1:Int))=true:=by simp;omega
         have b2:(4294967296:Int)<=(rest:Int)+(v1:Int):=by omega
         have qA:=lH hbr;clear hbr;(go_wp2_with fail)
         go_quiet (fail)
         (go_wp2_with fail);clear s1 s2 s3 s4 s5 s6 s7 s8 s9 s10 s11 s12 s13 s14;go_meet
         case rel=>exact⟨g-1,aO fC.o,HGE.o qA.o,_,by first | rfl | exact World.drewN_drewN _ _ _⟩
        ·have b1:decide ((4294967296:Int)<=(rest:Int)+(v1:Int))=false:=by simp;omega
         have b2:¬(4294967296:Int)<=(rest:Int)+(v1:Int):=by omega
         have mK:Hid (rest+v1<4294967296):=lH (by omega);have DB:Hid (4294967296-(rest+v1)<4294967296-rest):=lH (by omega);(go_wp2_with fail)
         go_quiet (fail)
         (go_wp2_with fail);clear s1 s2 s3 s4 s5 s6 s7 s8 s9 s10 s11 s12 s13 s14;go_roundw
         case rel=>exact⟨g-1,rest+v1,aO fC.o,aO iI.o,tS.o,mK.o,iJ.o,_,by first | rfl | exact World.drewN_drewN _ _ _⟩
         case measure=>simp[intOf];omega
       ·have ta:decide ((4294967296:Int)<=(g:Int))=false:=by simp;omega
        have ta2:¬(4294967296:Int)<=(g:Int):=by omega
        have S5:g<4294967296:=by omega
        have hpr:g*v2<=4294967295*4294967295:=Nat.mul_le_mul (by omega) (by omega);have aFX:IntKind.u64.wrap ((g:Int)*(v2:Int))=((g*v2:Nat):Int):=by rw[<-Int.natCast_mul];exact Go.IntWalk.u64_in _ (by omega)
        have hor:bits BinOp.or IntKind.u64 ((rest:Int)*4294967296) (u2:Int)=((rest*4294967296+u2:Nat):Int):=B5 rest u2 32 (by omega) aNZ aS9;obtain⟨pr,aN2⟩:∃p,g*v2=p:=⟨_,rfl⟩;obtain⟨sm,hsm⟩:∃p,rest*4294967296+u2=p:=⟨_,rfl⟩;have N0:=lH aN2;have HSM:=lH hsm;rw[aN2] at aFX;rw[hsm] at hor;clear hpr aN2 hsm aOC;by_cases aGd:sm<pr
        ·have tb:decide (sm<pr)=true:=by simpa using aGd
         have HCM:Hid (rest*4294967296+us.getD (i+m-2) 0<g*vm.getD (m-2) 0):=lH (by rw[HU2.o,aPa.o,N0.o,HSM.o];exact aGd);clear aGd;have hdn:=JX U5.o HG.o (.inr HCM.o);obtain⟨LP,XQ⟩:=hdn;have fC:Hid ((g:Int)-1=((g-1:Nat):Int)):=lH (by omega);have iI:Hid ((rest:Int)+(v1:Int)=((rest+v1:Nat):Int)):=lH (by omega);have tS:Hid (g-1<18446744073709551616):=lH (by omega);rw[aC0.o] at XQ;have iJ:=lH XQ;have HGE:=lH (fun h=>EP U5.o iJ.o (.inr h));have hw:IntKind.u64.wrap ((g:Int)-1)=(g:Int)-1:=Go.IntWalk.u64_in _ (by omega);have hgI:(1:Int)<=(g:Int):=by omega
         clear XQ;by_cases hbr:4294967296<=rest+v1
         ·have b1:decide ((4294967296:Int)<=(rest:Int)+(v1:Int))=true:=by simp;omega
          have b2:(4294967296:Int)<=(rest:Int)+(v1:Int):=by omega
          have qA:=lH hbr;clear hbr;(go_wp2_with fail)
          go_quiet (fail)
          (go_wp2_with fail);clear s1 s2 s3 s4 s5 s6 s7 s8 s9 s10 s11 s12 s13 s14;go_meet
          case rel=>exact⟨g-1,aO fC.o,HGE.o qA.o,_,by first | rfl | exact World.drewN_drewN _ _ _⟩
         ·have b1:decide ((4294967296:Int)<=(rest:Int)+(v1:Int))=false:=by simp;omega
          have b2:¬(4294967296:Int)<=(rest:Int)+(v1:Int):=by omega
          have mK:Hid (rest+v1<4294967296):=lH (by omega);have DB:Hid (4294967296-(rest+v1)<4294967296-rest):=lH (by omega);(go_wp2_with fail)
          go_quiet (fail)
          (go_wp2_with fail);clear s1 s2 s3 s4 s5 s6 s7 s8 s9 s10 s11 s12 s13 s14;go_roundw
          case rel=>exact⟨g-1,rest+v1,aO fC.o,aO iI.o,tS.o,mK.o,iJ.o,_,by first | rfl | exact World.drewN_drewN _ _ _⟩
          case measure=>simp[intOf];omega
        ·have tb:decide (sm<pr)=false:=by simpa using aGd
         have HGE:=lH (EP U5.o HG.o (.inl ⟨S5,by rw[HU2.o,aPa.o,N0.o,HSM.o];omega⟩));clear aGd;(go_wp2_with fail)
         go_quiet (fail)
         (go_wp2_with fail);clear s1 s2 s3 s4 s5 s6 s7 s8 s9 s10 s11 s12 s13 s14;go_meet
         case rel=>exact⟨g,rfl,HGE.o,_,by first | rfl | exact World.drewN_drewN _ _ _⟩
     obtain⟨g,rfl,hGO,nq3,rfl⟩:=hcut;have kV:=lH hGO;have S5:g<4294967296:=hGO.lt;clear hGO aHK aF6 aFJ;obtain⟨HBx,HVx,HUx,HQx⟩:=iK (bD HB.o nq3) (HV.o.drewN nq3) (HU.o.drewN nq3) (HQ.o.drewN nq3);clear HB HV HU HQ;have HB:=HBx;have HV:=HVx;have HU:=HUx;have HQ:=HQx;clear HBx HVx HUx HQx;generalize wb.drewN nq3=wd at *;have UI:=lH (WV (g:=g) U5.o);(go_wp2_with fail)
     go_loopw [16,17,143] (fun v16 v17 v143 wr=>∃(t:Nat)(bo:Int)(ca:Nat)(ux:List Nat),t<=m/\v143=.int .i64 t/\v16=.int .i64 bo/\v17=.int .u64 (ca:Int)/\Below v.heap.size v wr/\aG wr gv 216 (bS vs).toArray/\aG wr gu 216 (bS ux).toArray/\aG wr gq 216 (bS qs).toArray/\aCU us ux vm m i t g bo ca) (fun _ _ v143 _=>m-(intOf v143).toNat)
     case atStart=>exact⟨0,0,0,us,by omega,rfl,rfl,rfl,HB.o,HV.o,HU.o,HQ.o,UI.o⟩
     case round=>as_aux_lemma=>
      clear HB HV HU HQ UI;obtain⟨t,bo,ca,ux,ht,rfl,rfl,rfl,hb,hv,hu,hq,hms⟩:=hrel;obtain⟨HB,HV,HU,HQ,UI⟩:=kN hb hv hu hq hms;have a6j:=hms.b1;have a6i:=hms.b2;have XU:=hms.c1;have hfu:=hu.frozen;have aCl:=hu.lt;have aCk:=hv.lt;have HUX:Hid (ux.length=k+m+1):=lH (by rw[hms.ul];exact LW.o);clear hb hv hu hq hms;by_cases htm:t<m
      ·have hcu:=cG HU.o (i:=i+t) (by rw[HUX.o];omega)
       have XS:=cG HV.o (i:=t) (by rw[HVP.o.2.2];omega);have GH:=UI.o.ud.getD (i+t);have K9:=HVW.o.getD t;have aKD:=lH (aBY HVW.o F0.o (by rw[HUX.o];omega) S5 htm UI.o);obtain⟨xv,hxv⟩:∃z,vm.getD t 0=z:=⟨_,rfl⟩;obtain⟨xu,hxu⟩:∃z,ux.getD (i+t) 0=z:=⟨_,rfl⟩;rw[HVT.o _ htm,hxv] at XS;rw[hxu] at hcu GH;rw[hxv] at K9;rw[hxv,hxu] at aKD;clear hxv hxu;have hpr:g*xv<=4294967295*4294967295:=Nat.mul_le_mul (by omega) (by omega);have aFX:IntKind.u64.wrap ((g:Int)*(xv:Int))=((g*xv:Nat):Int):=by rw[<-Int.natCast_mul];exact Go.IntWalk.u64_in _ (by omega)
       have aNR:=aKD.o.1;have HMN:=lH aKD.o.2;clear aKD;generalize g*xv=pr at *;have aNM:(ca:Int)+(pr:Int)=((ca+pr:Nat):Int):=(Int.natCast_add _ _).symm;have a6m:bits BinOp.and IntKind.u64 ((ca+pr:Nat):Int) 4294967295=(((ca+pr) % 4294967296:Nat):Int):=aG9 _ aNR;have hdv:((ca+pr:Nat):Int) / 4294967296=(((ca+pr) / 4294967296:Nat):Int):=by omega
       have hlo:(ca+pr) % 4294967296<4294967296:=Nat.mod_lt _ (by decide);have hhi:(ca+pr) / 4294967296<4294967296:=by omega
       have GA:ca+pr<18446744073709551616:=aNR;generalize (ca+pr) % 4294967296=lo at *;generalize (ca+pr) / 4294967296=hi at *;generalize ca+pr=sm at *;have fC:Hid (bo+((xu:Int)-(lo:Int))=bo+(xu:Int)-(lo:Int)):=lH (by omega);have iI:=lN t;have tS:Hid (m-(t+1)<m-t):=lH (by omega);have mK:Hid (t+1<=m):=lH htm;have DB:Hid ((bo+((xu:Int)-(lo:Int))) % 4294967296=(((bo+(xu:Int)-(lo:Int)) % 4294967296).toNat:Int)):=lH (by omega);have s1:(t:Int)<(m:Int):=by omega
       have s2:IntKind.i64.wrap ((t:Int)+(i:Int))=(t:Int)+(i:Int):=Go.IntWalk.i64_in _ (by omega);have s3:((t:Int)+(i:Int)).toNat=i+t:=by omega
       have s4:(t:Int)+(i:Int)<(k:Int)+(m:Int)+1:=by omega
       have s5:(0:Int)<=(t:Int)+(i:Int):=by omega
       (go_wp2_with fail);clear s1 s2 s3 s4 s5;go_roundw
       case rel=>exact⟨t+1,_,hi,_,mK.o,aO iI.o,aO (by rw[fC.o]),rfl,HB.o.setCell yJ _,HV.o.far hnv _,fA HU.o DB.o,HQ.o.far hnq _,HMN.o⟩
       case measure=>exact tS.o
      ·have hte:t=m:=by omega
       subst hte;have hcu:=cG HU.o (i:=i+t) (by rw[HUX.o];omega);have GH:=UI.o.ud.getD (i+t);have HME:=lH (aFb U5.o kV.o UI.o);obtain⟨xu,hxu⟩:∃z,ux.getD (i+t) 0=z:=⟨_,rfl⟩;rw[hxu] at hcu GH HME;clear hxu;obtain⟨bot,aS_⟩:∃z:Int,bo+(xu:Int)-(ca:Int)=z:=⟨_,rfl⟩;rw[aS_] at HME;have HBO:Hid (bo+((xu:Int)-(ca:Int))=bot):=lH (by omega);have aYO:-4294967296<=bot:=by omega
       have a6k:bot<4294967296:=by omega
       have aYN:bo+((xu:Int)-(ca:Int))=bot:=HBO.o;clear aS_;have s2:IntKind.i64.wrap ((i:Int)+(t:Int))=(i:Int)+(t:Int):=Go.IntWalk.i64_in _ (by omega);have s3:((i:Int)+(t:Int)).toNat=i+t:=by omega
       have s4:(i:Int)+(t:Int)<(k:Int)+(t:Int)+1:=by omega
       have s5:(0:Int)<=(i:Int)+(t:Int):=by omega
       go_upto_if 200 with fail
       clear s2 s3 s4 s5 hcu hfu aCl aCk aYN
       go_cut [14] (fun v14 wc=>∃(g2:Nat)(uy:List Nat),v14=.int .u64 (g2:Int)/\Below v.heap.size v wc/\aG wc gv 216 (bS vs).toArray/\aG wc gu 216 (bS uy).toArray/\aG wc gq 216 (bS qs).toArray/\uy.length=k+t+1/\Wd uy/\wv uy+g2*(wv vm*BB i)=wv us/\wv us<(g2+1)*(wv vm*BB i)/\g2<4294967296)
       case first=>
        by_cases vS:0<=bot
        ·obtain⟨e1,e2⟩:=HME.o.1 vS
         have E3:Hid (bot % 4294967296=(bot.toNat:Int)):=lH (by omega);have HW1:Hid (Wd (ux.set (i+t) bot.toNat)):=lH (UI.o.ud.set _ (by omega));have HL1:Hid ((ux.set (i+t) bot.toNat).length=k+t+1):=lH (by rw[lS];exact HUX.o);have HE2:=lH e2;clear e1 e2;(go_wp2_with fail);go_meet
         case rel=>exact⟨g,_,rfl,HB.o.setCell yJ _,HV.o.far hnv _,fA HU.o E3.o,HQ.o.far hnq _,HL1.o,HW1.o,HE2.o,kV.o.up,kV.o.lt⟩
        ·obtain⟨e1,e2,e3⟩:=HME.o.2 (by omega)
         have aSv:bot<0:=by omega
         obtain⟨nw1,nw2⟩:=aE4 aYO aSv;obtain⟨nw,hnw⟩:∃z,(bot+4294967296).toNat=z:=⟨_,rfl⟩;rw[hnw] at nw1 nw2 e2;have E3:=lH nw1;have yQ:=lH (YC UI.o nw2);clear nw1 nw2 hnw HME;have HL1:Hid ((ux.set (i+t) nw).length=us.length):=lH (by rw[lS,HUX.o,LW.o]);have HE2:=lH e2;have HE3:=lH e3;have LP:1<=g:=LJ e3;clear e1 e2 e3 vS;have hgI:(1:Int)<=(g:Int):=Int.ofNat_le.2 LP;have Y1:Hid ((g:Int)-1=((g-1:Nat):Int)):=lH (Int.ofNat_sub LP).symm;have sL:Hid (g-1<4294967296):=lH (zT_ (Nat.sub_le _ _) S5);have aPd:=lH (fA (i:=i+t) HU.o E3.o);have aVs:=lH (HB.o.setCell (p:=⟨gu,i+t,none⟩) yJ (.int .u32 (bot % 4294967296)));have aT5:=lH (HV.o.far (p:=⟨gu,i+t,none⟩) hnv (.int .u32 (bot % 4294967296)));have C_:=lH (HQ.o.far (p:=⟨gu,i+t,none⟩) hnq (.int .u32 (bot % 4294967296)));have hw:IntKind.u64.wrap ((g:Int)-1)=(g:Int)-1:=aDW LP S5;clear HB HV HU HQ UI HUX;obtain⟨uz,huz⟩:∃l,ux.set (i+t) nw=l:=⟨_,rfl⟩;rw[huz] at yQ HL1 HE2 aPd;clear huz E3;generalize bot % 4294967296=bm at *;generalize wr.setCell ⟨gu,i+t,none⟩ (.int .u32 bm)=wz at *;(go_wp2_with fail);clear hw
         go_loopw [19,204] (fun v19 v204 wr=>∃(z cc:Nat)(uy:List Nat),z<=t/\v204=.int .i64 z/\v19=.int .u64 (cc:Int)/\Below v.heap.size v wr/\aG wr gv 216 (bS vs).toArray/\aG wr gu 216 (bS uy).toArray/\aG wr gq 216 (bS qs).toArray/\aDl uz uy vm t i z cc) (fun _ v204 _=>t-(intOf v204).toNat)
         case atStart=>exact⟨0,0,uz,Nat.zero_le _,rfl,rfl,aVs.o,aT5.o,aPd.o,C_.o,yQ.o⟩
         case round=>as_aux_lemma=>
          clear aVs aT5 aPd C_ yQ;obtain⟨z,cc,uy,hz,rfl,rfl,hb,hv,hu,hq,zW⟩:=hrel;obtain⟨HB,HV,HU,HQ,yQ⟩:=kN hb hv hu hq zW;have NC:=zW.c1;have hfu:=hu.frozen;have aCl:=hu.lt;have aCk:=hv.lt;have HUY:Hid (uy.length=k+t+1):=lH (by rw[zW.ul,HL1.o,LW.o]);clear hb hv hu hq zW;by_cases hzt:z<t
          ·have hcu:=cG HU.o (i:=i+z) (by rw[HUY.o];omega)
           have XS:=cG HV.o (i:=z) (by rw[HVP.o.2.2];omega);have GH:=yQ.o.ud.getD (i+z);have K9:=HVW.o.getD z;have l9:=lH (aCS HVW.o (by rw[HUY.o];omega) hzt yQ.o);obtain⟨xv,hxv⟩:∃a,vm.getD z 0=a:=⟨_,rfl⟩;obtain⟨xw,hxw⟩:∃a,uy.getD (i+z) 0=a:=⟨_,rfl⟩;rw[HVT.o _ hzt,hxv] at XS;rw[hxw] at hcu GH;rw[hxv] at K9;rw[hxv,hxw] at l9;clear hxv hxw;have fC:=lN z;have iI:Hid (t-(z+1)<t-z):=lH (by omega);have tS:Hid (((cc:Int)+((xw:Int)+(xv:Int))) / 4294967296=(((cc+xw+xv) / 4294967296:Nat):Int)):=lH (by omega);have mK:Hid (((cc:Int)+((xw:Int)+(xv:Int))) % 4294967296=(((cc+xw+xv) % 4294967296:Nat):Int)):=lH (by omega);have s1:(z:Int)<(t:Int):=by omega
           have s2:IntKind.i64.wrap ((z:Int)+(i:Int))=(z:Int)+(i:Int):=Go.IntWalk.i64_in _ (by omega);have s3:((z:Int)+(i:Int)).toNat=i+z:=by omega
           have s4:(z:Int)+(i:Int)<(k:Int)+(t:Int)+1:=by omega
           have s5:(0:Int)<=(z:Int)+(i:Int):=by omega
           have aRV:IntKind.u64.wrap ((xw:Int)+(xv:Int))=(xw:Int)+(xv:Int):=Go.IntWalk.u64_in _ (by omega);have aRU:IntKind.u64.wrap ((cc:Int)+((xw:Int)+(xv:Int)))=(cc:Int)+((xw:Int)+(xv:Int)):=Go.IntWalk.u64_in _ (by omega);(go_wp2_with fail)
           go_quiet (fail)
           (go_wp2_with fail);clear s1 s2 s3 s4 s5 aRV aRU;go_roundw
           case rel=>exact⟨z+1,_,_,hzt,aO fC.o,aO tS.o,bD (HB.o.setCell yJ _) _,(HV.o.far hnv _).drewN _,(fA HU.o mK.o).drewN _,(HQ.o.far hnq _).drewN _,l9.o⟩
           case measure=>exact iI.o
          ·have hze:z=t:=by omega
           subst hze;have hcu:=cG HU.o (i:=i+z) (by rw[HUY.o];omega);have GH:=yQ.o.ud.getD (i+z);obtain⟨xw,hxw⟩:∃a,uy.getD (i+z) 0=a:=⟨_,rfl⟩;have HBE:=lH (aG7 U5.o kV.o HL1.o HE2.o HE3.o yQ.o hxw HUY.o);rw[hxw] at hcu GH;clear hxw;have mK:=lH (aCK xw cc);have s2:IntKind.i64.wrap ((i:Int)+(z:Int))=(i:Int)+(z:Int):=Go.IntWalk.i64_in _ (by omega);have s3:((i:Int)+(z:Int)).toNat=i+z:=by omega
           have s4:(i:Int)+(z:Int)<(k:Int)+(z:Int)+1:=by omega
           have s5:(0:Int)<=(i:Int)+(z:Int):=by omega
           have aYI:(cc:Int) % 4294967296=(cc:Int):=by omega
           have hw2:IntKind.u32.wrap ((xw:Int)+(cc:Int))=((xw:Int)+(cc:Int)) % 4294967296:=aDX _;(go_wp2_with fail);clear s2 s3 s4 s5 aYI hw2;go_meet
           case rel=>exact⟨g-1,_,aO Y1.o,HB.o.setCell yJ _,HV.o.far hnv _,fA HU.o mK.o,HQ.o.far hnq _,HBE.o.1.1,HBE.o.1.2,HBE.o.2.1,HBE.o.2.2,sL.o⟩
       clear HB HV HU HQ UI HUX HME kV S5;obtain⟨g2,uy,rfl,hb,hv,hu,hq,aRP,aRO,FT,aU,S5⟩:=hcut;obtain⟨HB,HV,HU,HQ,aZJ⟩:=kN hb hv hu hq aRP;have a0q:=lH (VL gQ.o (by rw[l8.o];omega) aRO S5 FT aU);have a0h:Hid ((qs.set i g2).length=k+1):=lH (by rw[lS];exact l8.o);have hfq:=hq.frozen;have a54:=hq.lt;have hcq:=cG hq (i:=i) (by rw[l8.o];omega);obtain⟨zq,hzq⟩:∃a,qs.getD i 0=a:=⟨_,rfl⟩;rw[hzq] at hcq;have fC:Hid (i<=k+1):=lH (by omega);have iI:Hid ((intOf (Value.int .i64 ((i:Int)-1))+1).toNat<(intOf (Value.int .i64 (i:Int))+1).toNat):=lH (by simp[intOf]);have aSQ:(i:Int)<(k:Int)+1:=by omega
       have hgm:(g2:Int) % 4294967296=(g2:Int):=by omega
       clear hb hv hu hq aRP aRO FT aU hzq;(go_wp2_with fail);go_roundw
       case rel=>exact⟨i,uy,qs.set i g2,fC.o,rfl,HB.o.setCell aYm _,HV.o.far aXF _,HU.o.far aXG _,aZJ.o,fA HQ.o rfl,a0h.o,a0q.o⟩
       case measure=>exact iI.o
def SlQ(l:List Nat):Value->World->Prop:=fun v w=>∃A n c,v=.slice A n c/\jU w w.heap.size A n l/\n<=c/\c<=9223372036854775807
theorem SlQ.up{l:List Nat}(h:SlQ l v w)(hb:Below w.heap.size w w'):SlQ l v w':=by
 obtain⟨A,n,c,e,h1,h2⟩:=h;exact⟨A,n,c,e,h1.up hb,h2⟩
def LgQ(z:Int):Value->World->Prop:=fun v w=>∃b A n c,v=.agg #[.bool b,.slice A n c]/\cE w w.heap.size z b A n c
theorem LgQ.up{z:Int}(h:LgQ z v w)(hb:Below w.heap.size w w'):LgQ z v w':=by
 obtain⟨b,A,n,c,e,h1⟩:=h;exact⟨b,A,n,c,e,h1.up hb⟩
def KI(B:Nat)(T:TypeId)(cs:Array Value):Value->World->Prop:=fun v w=>∃g,v=.pointer (some ⟨g,0,none⟩)/\B<=g/\aG w g T cs
theorem KI.up{T:TypeId}{cs:Array Value}(h:KI B T cs v w)(hb:Below w.heap.size w w'):KI B T cs v w':=by
 obtain⟨g,e,h1,h2⟩:=h;exact⟨g,e,h1,h2.bl hb⟩
theorem aIA(l:List Nat):∀u∈bS l,u.oneCell'=true:=by
 intro u hu;unfold bS at hu;obtain⟨x,_,rfl⟩:=List.mem_map.1 hu;rfl
theorem ZR{n:Nat}{l:List Nat}(h:w.ownsRow B 216 1 v n (bS l)):∃A c,v=.slice A n c/\jU w w.heap.size A n l/\n<=c/\c<=9223372036854775807:=by
 rcases h.2 with⟨h1,h2⟩ | ⟨g,cap,cur,h1,h2,h3,h4,h5,h6,h7⟩
 ·refine⟨none,0,by rw[h2];exact h1,⟨h.1,fun h0=>by omega⟩,by omega,by omega⟩
 ·refine⟨_,_,h1,⟨h.1,fun h0=>⟨g,0,rfl,?_,fun j u hu=>?_⟩⟩,h4,by simpa[maxLen] using h5⟩
  ·rcases Nat.lt_or_ge g w.heap.size with aU | QU
   ·exact aU
   ·rw[Array.getElem?_eq_none QU] at h3;cases h3
  ·rw[Nat.zero_add,cell_of_row w g j cur 216 (0,0) h3]
   rw[<-h7] at hu;have oP:=(dH.1 hu).1;rw[List.getElem?_take_of_lt (by rw[kR] at oP;omega)] at hu;simpa using hu
theorem X8(A:OA)(n c:Nat)(l:List Nat)(w:Wo)(hr:jU w w.heap.size A n l)(hn:n<=35184372088833):Calls Tryz.prog 169 #[.slice A n c] w fun e w'=>Below w.heap.size w w'/\∃A' c',e=.returned (.slice A' n c')/\jU w' w'.heap.size A' n l/\n<=c'/\c'<=9223372036854775807:=by
 have q22:∀(w:Wo)(a:OA)(n c n' c':Nat),(binOp .eql 111 (.slice a n c) (.slice none n' c')).run Tryz.prog w=.ok (.bool a.isNone) w:=fun w a n c n' c'=>Lib.run_eql_slice_nil w _ _ a n c n' c' Tryz.underlying111;cases A with
 | none=>
  have h0:n=0:=by
   refine Nat.eq_zero_of_not_pos fun h=>?_;obtain⟨b,off,e,_⟩:=hr.form h;cases e
  subst h0;have hl:l=[]:=List.eq_nil_of_length_eq_zero hr.len;subst hl;go_enter Tryz.func169,Tryz.ntmps169
  (go_wp2_with fail);go_ret;exact⟨bR,none,0,rfl,BU _ _ _,lR,by decide⟩
 | some ad=>
  obtain⟨i0,kA,rU,jR,kS⟩:=info_parts JR;have HL:=lH hr.len;have HC:Hid (∀j u,(bS l)[j]?=some u->w.cell? (ad.add j)=some u):=lH fun j u hu=>by
   have hj:=(dH.1 hu).1;have mY:0<n:=by have:=hr.len;unfold bS at hj;rw[jO] at hj;omega
   obtain⟨b,off,e,aU,hc⟩:=hr.2 mY;injection e with e;subst e;have:=hc j u hu;unfold Addr.add;by_cases GE:j=0
   ·subst GE;simpa using this
   ·simpa[GE] using this
  have HN:Hid ((bS l).length=n*1):=lH hr.1;clear hr;go_enter Tryz.func169,Tryz.ntmps169
  go_wp2_with (at_builtin;refine wpList_append_own_wide _ rfl _ _ 111 rfl w.heap.size 216 i0 _ 1 4 Tryz.underlying111 kA rU jR kS rfl (by omega) _ _ _ rfl (Z1 _ _ _) ad n c (bS l) rfl ?qc1 ?qc2 (aIA l) ?qc4 ?qc5 ?qc6 ?_)
  case qc1=>exact HN.o
  case qc2=>exact fun j u hj=>Lib.cell?_alloc_some _ (HC.o j u hj)
  case qc4=>simp only[maxLen];omega
  case qc5=>omega
  case qc6=>simp
  intro v' w1 bB hgrow aCh
  go_wp2
  go_ret;obtain⟨A',c',e,h1,h2,h3⟩:=ZR bB;subst e;exact⟨((Below.refl _ w).alloc lR _).grown hgrow (by simp) (by intro k hk;simp[Value.ownBlock] at hk;omega),A',c',rfl,h1,h2,h3⟩
def DmP(y z:Int)(w:Wo)(e:Ending)(w':Wo):Prop:=Below w.heap.size w w'/\∃b A n c b2 B m d,e=.returned (.tuple #[.agg #[.bool b,.slice A n c],.agg #[.bool b2,.slice B m d]])/\cE w' w'.heap.size y b A n c/\cE w' w'.heap.size z b2 B m d
theorem aGC(x y:Nat)(b1:Bool)(A:OA)(n c:Nat)(b2:Bool)(B:OA)(m d:Nat)(w:Wo)(h1:cE w w.heap.size (x:Int) b1 A n c)(h2:cE w w.heap.size (y:Int) b2 B m d)(yH:0<y)(hn:n<=35184372088832)(hm:m<=35184372088832):Calls Tryz.prog 146 #[.agg #[.bool b1,.slice A n c],.agg #[.bool b2,.slice B m d]] w (DmP ((x / y:Nat):Int) ((x % y:Nat):Int) w):=by
 have bC:b1=false:=by rw[h1.eb];simp
 subst bC;have dA:Hid (Below w.heap.size w ((((w.alloc (.cells #[.bool false,.slice A n c] 113)).alloc (.cells #[.bool b2,.slice B m d] 113)).alloc (.cells #[.bool false,.slice none 0 0] 113)).alloc (.cells #[.bool false,.slice none 0 0] 113))):=lH ((((bA).alloc (by simp) _).alloc (by simp;omega) _).alloc (by simp;omega) _);have eB:Hid (aG ((((w.alloc (.cells #[.bool false,.slice A n c] 113)).alloc (.cells #[.bool b2,.slice B m d] 113)).alloc (.cells #[.bool false,.slice none 0 0] 113)).alloc (.cells #[.bool false,.slice none 0 0] 113)) w.heap.size 113 #[.bool false,.slice A n c]):=lH ((((aG.new w _ _).alloc _).alloc _).alloc _);have f_:Hid (aG ((((w.alloc (.cells #[.bool false,.slice A n c] 113)).alloc (.cells #[.bool b2,.slice B m d] 113)).alloc (.cells #[.bool false,.slice none 0 0] 113)).alloc (.cells #[.bool false,.slice none 0 0] 113)) (w.heap.size+1) 113 #[.bool b2,.slice B m d]):=lH (((aG.new_ (by simp)).alloc _).alloc _);have E6:Hid (aG ((((w.alloc (.cells #[.bool false,.slice A n c] 113)).alloc (.cells #[.bool b2,.slice B m d] 113)).alloc (.cells #[.bool false,.slice none 0 0] 113)).alloc (.cells #[.bool false,.slice none 0 0] 113)) (w.heap.size+1+1) 113 #[.bool false,.slice none 0 0]):=lH ((aG.new_ (by simp)).alloc _);have vY:Hid (aG ((((w.alloc (.cells #[.bool false,.slice A n c] 113)).alloc (.cells #[.bool b2,.slice B m d] 113)).alloc (.cells #[.bool false,.slice none 0 0] 113)).alloc (.cells #[.bool false,.slice none 0 0] 113)) (w.heap.size+1+1+1) 113 #[.bool false,.slice none 0 0]):=lH (aG.new_ (by simp));have HD1:Hid (jU ((((w.alloc (.cells #[.bool false,.slice A n c] 113)).alloc (.cells #[.bool b2,.slice B m d] 113)).alloc (.cells #[.bool false,.slice none 0 0] 113)).alloc (.cells #[.bool false,.slice none 0 0] 113)) (((((w.alloc (.cells #[.bool false,.slice A n c] 113)).alloc (.cells #[.bool b2,.slice B m d] 113)).alloc (.cells #[.bool false,.slice none 0 0] 113)).alloc (.cells #[.bool false,.slice none 0 0] 113))).heap.size A n (kU x)):=lH (h1.up dA.o).rd;have HD2:Hid (jU ((((w.alloc (.cells #[.bool false,.slice A n c] 113)).alloc (.cells #[.bool b2,.slice B m d] 113)).alloc (.cells #[.bool false,.slice none 0 0] 113)).alloc (.cells #[.bool false,.slice none 0 0] 113)) (((((w.alloc (.cells #[.bool false,.slice A n c] 113)).alloc (.cells #[.bool b2,.slice B m d] 113)).alloc (.cells #[.bool false,.slice none 0 0] 113)).alloc (.cells #[.bool false,.slice none 0 0] 113))).heap.size B m (kU y)):=lH (h2.up dA.o).rd;have hnc:=h1.nc;have LQ:=h1.cm;clear h1 h2;go_enter Tryz.func146,Tryz.ntmps146
 go_wp2_with fail
 generalize ((((w.alloc (.cells #[.bool false,.slice A n c] 113)).alloc (.cells #[.bool b2,.slice B m d] 113)).alloc (.cells #[.bool false,.slice none 0 0] 113)).alloc (.cells #[.bool false,.slice none 0 0] 113))=V at *;obtain⟨p0,p1,pl⟩:=eB.o.b2;have q1:=f_.o.cell 1;have ql:=f_.o.lt
 go_wp2_with fail
 refine(TM A n c B m d x y V HD1.o HD2.o yH hnc LQ hn hm).mono ?_;rintro e W ⟨bC,Aq,nq,cq,lq,Ar,nr,cr,lr,rfl,⟨pQ,oO,M8,hq4,hq5⟩,⟨O7,AY,vR,DE,y_⟩,a0g,aZ4⟩;have bT:=bW dA bC;obtain⟨aKv,aO7,aKK,aKJ,HQR⟩:=kN (eB.o.bl bC) (f_.o.bl bC) (E6.o.bl bC) (vY.o.bl bC) pQ;have HQD:=lH oO;have HQV:Hid (DY false (wv lq)=((x / y:Nat):Int)):=lH (by rw[M8];rfl);have xN:=lH O7;have YR:=lH AY;have HRV:Hid (DY false (wv lr)=((x % y:Nat):Int)):=lH (by rw[vR];rfl);have rW:w.heap.size<=V.heap.size:=dA.o.size;clear bC pQ oO M8 hq4 hq5 O7 AY vR DE y_ p0 p1 q1 pl ql eB f_ E6 vY HD1 HD2;have a5X:w.heap.size<=W.heap.size:=bT.o.size;clear dA rW;obtain⟨p0,pl⟩:=aKv.o.b1
 go_wp2_with fail
 refine l_ (S:=fun w'=>Below W.heap.size W w') 12 _ _ (by kernel_rfl) (by kernel_rfl) (by kernel_rfl) rfl rfl (aK bR) (fun hHeld=>?_);simp only[nI,List.take_zero];refine cW [0,1,2,5,6,7] ?_;refine aEv (C:=fun s w'=>Below W.heap.size W w'/\Sep 10 11 s w') (G:=fun w' w''=>Below w'.heap.size w' w'') [(3,SlQ lq),(4,LgQ ((x / y:Nat):Int)),(8,SlQ lr),(9,LgQ ((x % y:Nat):Int)),(10,KI W.heap.size 113 #[.bool false,.slice none 0 0]),(11,KI W.heap.size 113 #[.bool false,.slice none 0 0])] rfl (by kernel_rfl) (List.forall_mem_cons.2 ⟨fun _ _ _ h g=>h.up g,List.forall_mem_cons.2 ⟨fun _ _ _ h g=>h.up g,List.forall_mem_cons.2 ⟨fun _ _ _ h g=>h.up g,List.forall_mem_cons.2 ⟨fun _ _ _ h g=>h.up g,List.forall_mem_cons.2 ⟨fun _ _ _ h g=>h.up g,List.forall_mem_cons.2 ⟨fun _ _ _ h g=>h.up g,List.forall_mem_nil _⟩⟩⟩⟩⟩⟩) (fun _ _ h=>h.1) ⟨hHeld,aBx _ _ _⟩ ?_;refine eE (i:=3) rfl (fun s w3 hC hn hK=>?_) (fun v3=>?_)
 ·unfold iE;go_simp;simp only[eZ]
  refine(X8 Aq nq cq lq w3 (HQR.o.lift hC.1 hC.1.size) (by have:=a0g;omega)).mono ?_;rintro e w4 ⟨eR,hq4⟩;obtain⟨A4,c4,rfl,DE,hn4,hc4⟩:=hq4;exact⟨_,rfl,⟨A4,nq,c4,rfl,DE,hn4,hc4⟩,⟨hC.1.tm eR,hC.2.other (by decide) (by decide) eR.size _⟩,eR⟩
 try simp only[Act.put,gL,gK,gJ]
 refine eE (i:=4) rfl (fun s w3 hC hn hK=>?_) (fun v4=>?_)
 ·have k3:s 3=some v3/\SlQ lq v3 w3:=hK 3 (by kernel_rfl)
  obtain⟨-,A3,n3,c3,rfl,vR,hn3,hc3⟩:=k3;unfold iE;go_simp;simp only[eZ];refine(kL false A3 n3 c3 lq w3 vR HQD.o hn3 hc3).mono ?_;rw[HQV.o];rintro e w4 ⟨eR,b4,A4,n4,c4,rfl,h4⟩;exact⟨_,rfl,⟨b4,A4,n4,c4,rfl,h4⟩,⟨hC.1.tm eR,hC.2.other (by decide) (by decide) eR.size _⟩,eR⟩
 try simp only[Act.put,gL,gK,gJ]
 refine eE (i:=8) rfl (fun s w3 hC hn hK=>?_) (fun v8=>?_)
 ·unfold iE;go_simp;simp only[eZ]
  refine(X8 Ar nr cr lr w3 (xN.o.lift hC.1 hC.1.size) (by have:=aZ4;omega)).mono ?_;rintro e w4 ⟨eR,hq4⟩;obtain⟨A4,c4,rfl,DE,hn4,hc4⟩:=hq4;exact⟨_,rfl,⟨A4,nr,c4,rfl,DE,hn4,hc4⟩,⟨hC.1.tm eR,hC.2.other (by decide) (by decide) eR.size _⟩,eR⟩
 try simp only[Act.put,gL,gK,gJ]
 refine eE (i:=9) rfl (fun s w3 hC hn hK=>?_) (fun v9=>?_)
 ·have k8:s 8=some v8/\SlQ lr v8 w3:=hK 8 (by kernel_rfl)
  obtain⟨-,A3,n3,c3,rfl,vR,hn3,hc3⟩:=k8;unfold iE;go_simp;simp only[eZ];refine(kL false A3 n3 c3 lr w3 vR YR.o hn3 hc3).mono ?_;rw[HRV.o];rintro e w4 ⟨eR,b4,A4,n4,c4,rfl,h4⟩;exact⟨_,rfl,⟨b4,A4,n4,c4,rfl,h4⟩,⟨hC.1.tm eR,hC.2.other (by decide) (by decide) eR.size _⟩,eR⟩
 try simp only[Act.put,gL,gK,gJ]
 refine eE (i:=10) rfl (fun s w3 hC hn hK=>?_) (fun v10=>?_)
 ·unfold iE;go_simp;simp only[eZ]
  exact⟨⟨_,rfl,hC.1.size,aG.new _ _ _⟩,⟨hC.1.alloc hC.1.size _,hC.2.left (by decide) (by simp)⟩,bA⟩
 try simp only[Act.put,gL,gK,gJ]
 refine eE (i:=11) rfl (fun s w3 hC hn hK=>?_) (fun v11=>?_)
 ·unfold iE;go_simp;simp only[eZ]
  exact⟨⟨_,rfl,hC.1.size,aG.new _ _ _⟩,⟨hC.1.alloc hC.1.size _,hC.2.right (by decide) (by simp)⟩,bA⟩
 try simp only[Act.put,gL,gK,gJ]
 refine D_ (fun s w5 hC hK=>?_);have k4:s 4=some v4/\LgQ ((x / y:Nat):Int) v4 w5:=hK 4;have k9:s 9=some v9/\LgQ ((x % y:Nat):Int) v9 w5:=hK 9;have k10:s 10=some v10/\KI W.heap.size 113 #[.bool false,.slice none 0 0] v10 w5:=hK 10;have k11:s 11=some v11/\KI W.heap.size 113 #[.bool false,.slice none 0 0] v11 w5:=hK 11;obtain⟨-,bq,Aq2,nq2,cq2,rfl,oO⟩:=k4;obtain⟨-,br,Ar2,nr2,cr2,rfl,AY⟩:=k9;obtain⟨s10,g10,rfl,aJN,QH⟩:=k10;obtain⟨s11,g11,rfl,aJM,aKY⟩:=k11;have bX:g10≠g11:=hC.2.2.2 g10 g11 s10 s11;obtain⟨eK,sO,wD,QH,aKY⟩:=kN hC.1 oO AY QH aKY;clear hC hK s10 s11 oO AY hHeld;have hbr:br=false:=by rw[wD.o.eb];exact decide_eq_false (by omega)
 subst hbr;obtain⟨z0,z1,zf,zl⟩:=QH.o.e2;have aUu:=lH (aKK.o.bl eK.o);have aUr:=lH (aKJ.o.bl eK.o);clear p0 pl;have e0:w.heap.size+1+1≠g10:=by have:=aKK.o.lt;omega
 have e1:w.heap.size+1+1≠g11:=by have:=aKK.o.lt;omega
 have e2:w.heap.size+1+1+1≠g10:=by have:=aKJ.o.lt;omega
 have e3:w.heap.size+1+1+1≠g11:=by have:=aKJ.o.lt;omega
 have a5g:w.heap.size+1+1<W.heap.size:=aKK.o.lt;have a5f:w.heap.size+1+1+1<W.heap.size:=aKJ.o.lt;refine dK (by rfl) ?_;go_simp;clear z0 z1 zf zl;generalize sF:(w5.setCell ⟨g10,0,none⟩ _).setCell ⟨g10,1,none⟩ _=w6;have aMM:Hid (aG w6 g10 113 #[.bool bq,.slice Aq2 nq2 cq2]):=lH (by rw[<-sF];exact cD QH.o);have KT:Hid (aG w6 g11 113 #[.bool false,.slice none 0 0]):=lH (by rw[<-sF];exact(aKY.o.far bX.symm _).far bX.symm _);have aUt:Hid (aG w6 (w.heap.size+1+1) 113 #[.bool false,.slice none 0 0]):=lH (by rw[<-sF];exact(aUu.o.far e0 _).far e0 _);have aUq:Hid (aG w6 (w.heap.size+1+1+1) 113 #[.bool false,.slice none 0 0]):=lH (by rw[<-sF];exact(aUr.o.far e2 _).far e2 _);have fL:Hid (Below W.heap.size W w6):=lH (by rw[<-sF];exact cY eK.o aJN);have HQ6:Hid (cE w6 w6.heap.size ((x / y:Nat):Int) bq Aq2 nq2 cq2):=lH (by rw[<-sF];exact(sO.o.keep (QH.o.cell 0) (by simp) _).keep ((QH.o.set_ 0 (.bool bq)).cell 1) (by simp) _);have LA:Hid (cE w6 w6.heap.size ((x % y:Nat):Int) false Ar2 nr2 cr2):=lH (by rw[<-sF];exact(wD.o.keep (QH.o.cell 0) (by simp) _).keep ((QH.o.set_ 0 (.bool bq)).cell 1) (by simp) _);clear sF QH aKY eK sO wD aUu aUr;obtain⟨z0,z1,zf,zl⟩:=KT.o.e2;refine dK (by rfl) ?_;go_simp;clear z0 z1 zf zl;generalize K5:(w6.setCell ⟨g11,0,none⟩ _).setCell ⟨g11,1,none⟩ _=w7;have UL:Hid (aG w7 g10 113 #[.bool bq,.slice Aq2 nq2 cq2]):=lH (by rw[<-K5];exact(aMM.o.far bX _).far bX _);have aHM:Hid (aG w7 g11 113 #[.bool false,.slice Ar2 nr2 cr2]):=lH (by rw[<-K5];exact cD KT.o);have YS:Hid (aG w7 (w.heap.size+1+1) 113 #[.bool false,.slice none 0 0]):=lH (by rw[<-K5];exact(aUt.o.far e1 _).far e1 _);have aPq:Hid (aG w7 (w.heap.size+1+1+1) 113 #[.bool false,.slice none 0 0]):=lH (by rw[<-K5];exact(aUq.o.far e3 _).far e3 _);have j_:Hid (Below W.heap.size W w7):=lH (by rw[<-K5];exact cY fL.o aJM);have HQ7:Hid (cE w7 w7.heap.size ((x / y:Nat):Int) bq Aq2 nq2 cq2):=lH (by rw[<-K5];exact(HQ6.o.keep (KT.o.cell 0) (by simp) _).keep ((KT.o.set_ 0 (.bool false)).cell 1) (by simp) _);have KK:Hid (cE w7 w7.heap.size ((x % y:Nat):Int) false Ar2 nr2 cr2):=lH (by rw[<-K5];exact(LA.o.keep (KT.o.cell 0) (by simp) _).keep ((KT.o.set_ 0 (.bool false)).cell 1) (by simp) _);clear K5 aMM KT fL HQ6 LA aUt aUq;have hO:Hid (Below w.heap.size w w7):=lH (bT.o.tm j_.o);have a0:=UL.o.cell 0;have a1:=UL.o.cell 1;have al:=UL.o.lt;obtain⟨b0,b1,bl⟩:=aHM.o.b2;obtain⟨c0,c1,cf,cl⟩:=YS.o.e2;obtain⟨d0,d1,df,dl⟩:=aPq.o.e2
 go_wp2_with fail
 refine bZ (S:=fun w'=>w'.cell? ⟨g10,0,none⟩=some (.bool bq)/\w'.cell? ⟨g10,1,none⟩=some (.slice Aq2 nq2 cq2)/\w'.cell? ⟨g11,0,none⟩=some (.bool false)/\w'.cell? ⟨g11,1,none⟩=some (.slice Ar2 nr2 cr2)) 3 _ (by kernel_rfl) (by kernel_rfl) rfl ⟨a0,a1,b0,b1⟩ (fun hHeld=>?_);simp only[nI,List.take_zero];refine gB 0 (v:=?_) ?_ hHeld ?_;rotate_left 1
 ·intro w' hSw;obtain⟨s0,s1,s2,s3⟩:=hSw;go_simp<;>with_reducible rfl
 try simp only[Act.put,gL,gK,gJ]
 refine gB 1 (v:=?_) ?_ hHeld ?_;rotate_left 1
 ·intro w' hSw;obtain⟨s0,s1,s2,s3⟩:=hSw;go_simp<;>with_reducible rfl
 try simp only[Act.put,gL,gK,gJ]
 clear a0 a1 b0 b1 d0 d1 df dl al bl;have e4:g10≠w.heap.size+1+1:=e0.symm;have e5:g11≠w.heap.size+1+1:=e1.symm;have e6:w.heap.size+1+1+1≠w.heap.size+1+1:=by omega
 have aYh:w.heap.size<=w.heap.size+1+1:=by omega
 have aYg:w.heap.size<=w.heap.size+1+1+1:=by omega
 refine bQ 2 (fun K hK=>?_);go_simp;clear c0 c1 cf cl;generalize QQ:(w7.setCell ⟨w.heap.size+1+1,0,none⟩ _).setCell ⟨w.heap.size+1+1,1,none⟩ _=w8;have aML:Hid (aG w8 g10 113 #[.bool bq,.slice Aq2 nq2 cq2]):=lH (by rw[<-QQ];exact(UL.o.far e4 _).far e4 _);have aMK:Hid (aG w8 g11 113 #[.bool false,.slice Ar2 nr2 cr2]):=lH (by rw[<-QQ];exact(aHM.o.far e5 _).far e5 _);have a0e:Hid (aG w8 (w.heap.size+1+1) 113 #[.bool bq,.slice Aq2 nq2 cq2]):=lH (by rw[<-QQ];exact cD YS.o);have aC4:Hid (aG w8 (w.heap.size+1+1+1) 113 #[.bool false,.slice none 0 0]):=lH (by rw[<-QQ];exact(aPq.o.far e6 _).far e6 _);have dR:Hid (Below w.heap.size w w8):=lH (by rw[<-QQ];exact cY hO.o aYh);have HQ8:Hid (cE w8 w8.heap.size ((x / y:Nat):Int) bq Aq2 nq2 cq2):=lH (by rw[<-QQ];exact(HQ7.o.keep (YS.o.cell 0) (by simp) _).keep ((YS.o.set_ 0 (.bool bq)).cell 1) (by simp) _);have HR8:Hid (cE w8 w8.heap.size ((x % y:Nat):Int) false Ar2 nr2 cr2):=lH (by rw[<-QQ];exact(KK.o.keep (YS.o.cell 0) (by simp) _).keep ((YS.o.set_ 0 (.bool bq)).cell 1) (by simp) _);clear QQ;refine hK.out _ _ ?_ (fun hHeld=>?_)
 ·exact⟨aML.o.cell 0,aML.o.cell 1,aMK.o.cell 0,aMK.o.cell 1⟩
 clear hK K
 try simp only[Act.put,gL,gK,gJ]
 refine eM ?_;clear hO UL aHM YS aPq HQ7 KK;obtain⟨d0,d1,df,dl⟩:=aC4.o.e2
 go_wp2_with fail
 clear d0 d1 df dl;generalize FN:(w8.setCell ⟨w.heap.size+1+1+1,0,none⟩ _).setCell ⟨w.heap.size+1+1+1,1,none⟩ _=w9;have aUs:Hid (aG w9 (w.heap.size+1+1) 113 #[.bool bq,.slice Aq2 nq2 cq2]):=lH (by rw[<-FN];exact(a0e.o.far e6.symm _).far e6.symm _);have a0d:Hid (aG w9 (w.heap.size+1+1+1) 113 #[.bool false,.slice Ar2 nr2 cr2]):=lH (by rw[<-FN];exact cD aC4.o);have eV:Hid (Below w.heap.size w w9):=lH (by rw[<-FN];exact cY dR.o aYg);have HQ9:Hid (cE w9 w9.heap.size ((x / y:Nat):Int) bq Aq2 nq2 cq2):=lH (by rw[<-FN];exact(HQ8.o.keep (aC4.o.cell 0) (by simp) _).keep ((aC4.o.set_ 0 (.bool false)).cell 1) (by simp) _);have HR9:Hid (cE w9 w9.heap.size ((x % y:Nat):Int) false Ar2 nr2 cr2):=lH (by rw[<-FN];exact(HR8.o.keep (aC4.o.cell 0) (by simp) _).keep ((aC4.o.set_ 0 (.bool false)).cell 1) (by simp) _);clear FN;have q0:=aUs.o.cell 0;have q1:=aUs.o.cell 1;obtain⟨q2,q3⟩:=a0d.o.a2;exact bodyPost_ret (v:=.tuple #[.agg #[.bool bq,.slice Aq2 nq2 cq2],.agg #[.bool false,.slice Ar2 nr2 cr2]]) (by simp[results,Tryz.results146,go_sem,q0,q1,q2,q3]) rfl ⟨aK eV.o,bq,Aq2,nq2,cq2,false,Ar2,nr2,cr2,rfl,HQ9.o.up (aK bR),HR9.o.up (aK bR)⟩
theorem W3{z:Int}{b:Bool}{A:OA}{n c:Nat}(h:cE w B z b A n c):cE w B (z.natAbs:Int) false A n c:=
 ⟨by simp,by rw[Int.natAbs_natCast];exact h.en,by rw[Int.natAbs_natCast];exact h.rd,h.nc,h.cm⟩
theorem aAr(y0 z0:Int)(b1:Bool)(A:OA)(n c:Nat)(b2:Bool)(B:OA)(m d:Nat)(w:Wo)(h1:cE w w.heap.size y0 b1 A n c)(h2:cE w w.heap.size z0 b2 B m d)(hn:n<=35184372088832)(hm:m<=35184372088832):Calls Tryz.prog 145 #[.agg #[.bool b1,.slice A n c],.agg #[.bool b2,.slice B m d]] w (LgP ((y0.natAbs.gcd z0.natAbs:Nat):Int) w):=by
 have dA:Hid (Below w.heap.size w (((w.alloc (.cells #[.bool false,.slice A n c] 113)).alloc (.cells #[.bool false,.slice B m d] 113)).alloc (.cells #[.bool false,.slice none 0 0] 113))):=lH (((bA).alloc (by simp) _).alloc (by simp;omega) _);have eB:Hid (aG (((w.alloc (.cells #[.bool false,.slice A n c] 113)).alloc (.cells #[.bool false,.slice B m d] 113)).alloc (.cells #[.bool false,.slice none 0 0] 113)) w.heap.size 113 #[.bool false,.slice A n c]):=lH (((aG.new w _ _).alloc _).alloc _);have f_:Hid (aG (((w.alloc (.cells #[.bool false,.slice A n c] 113)).alloc (.cells #[.bool false,.slice B m d] 113)).alloc (.cells #[.bool false,.slice none 0 0] 113)) (w.heap.size+1) 113 #[.bool false,.slice B m d]):=lH ((aG.new_ (by simp)).alloc _);have HR:Hid (aG (((w.alloc (.cells #[.bool false,.slice A n c] 113)).alloc (.cells #[.bool false,.slice B m d] 113)).alloc (.cells #[.bool false,.slice none 0 0] 113)) (w.heap.size+1+1) 113 #[.bool false,.slice none 0 0]):=lH (aG.new_ (by simp));have H1b:=lH (W3 (h1.up dA.o));have H2b:=lH (W3 (h2.up dA.o));clear h1 h2;have e01:w.heap.size≠w.heap.size+1:=by omega
 have e10:w.heap.size+1≠w.heap.size:=by omega
 have e20:w.heap.size+1+1≠w.heap.size:=by omega
 have e21:w.heap.size+1+1≠w.heap.size+1:=by omega
 obtain⟨GG,hG⟩:∃g,y0.natAbs.gcd z0.natAbs=g:=⟨_,rfl⟩;rw[hG];go_enter Tryz.func145,Tryz.ntmps145
 go_wp2_with fail
 generalize (((w.alloc (.cells #[.bool false,.slice A n c] 113)).alloc (.cells #[.bool false,.slice B m d] 113)).alloc (.cells #[.bool false,.slice none 0 0] 113))=W1 at *
 go_loopg [5] z0.natAbs (fun k v5 wr=>∃(x y:Nat)(A:OA)(n c:Nat)(B:OA)(m d:Nat),k=y/\x.gcd y=GG/\Below w.heap.size w wr/\aG wr w.heap.size 113 #[.bool false,.slice A n c]/\aG wr (w.heap.size+1) 113 #[.bool false,.slice B m d]/\aG wr (w.heap.size+1+1) 113 #[.bool false,.slice none 0 0]/\cE wr wr.heap.size (x:Int) false A n c/\cE wr wr.heap.size (y:Int) false B m d/\n<=35184372088832/\m<=35184372088832)
 case atStart=>exact⟨_,_,A,n,c,B,m,d,rfl,hG,dA.o,eB.o,f_.o,HR.o,H1b.o,H2b.o,hn,hm⟩
 case round=>
  clear dA eB f_ HR H1b H2b hn hm hG;obtain⟨x,y,A,n,c,B,m,d,hk,hg,hbr,K6,hp3,hp4,hx,hy,hn,hm⟩:=hrel;have HKY:=lH hk;clear hk;obtain⟨HG,qA,wE,Q2,DA⟩:=kN hg hbr K6 hp3 hp4;obtain⟨HX,HY,mA⟩:=d_ hx hy hm;obtain⟨z0,z1,zl⟩:=Q2.o.b2;clear hg hbr K6 hp3 hp4 hx hy hm;(go_wp2_with fail);refine(EH (y:Int) false B m d wr HY.o).mono ?_;rintro e w1 ⟨rfl,bC⟩;clear z0 z1 zl;have aP7:=bW qA bC;obtain⟨aKP,aPG,aHB,eB,HY1⟩:=kN (wE.o.bl bC) (Q2.o.bl bC) (DA.o.bl bC) (HX.o.up bC) (HY.o.up bC);clear bC qA wE Q2 DA HX HY;by_cases hy:y=0
  ·subst hy
   have hs:((0:Nat):Int).sign=0:=rfl;rw[hs];clear hs;have hgx:x=GG:=by rw[<-HG.o,Nat.gcd_zero_right]
   subst hgx;obtain⟨a0,a1,al⟩:=aKP.o.b2;have rW:w.heap.size<=w.heap.size+1+1:=by omega
   obtain⟨z0,z1,zf,zl⟩:=aHB.o.e2;(go_wp2_with fail);generalize fU:(w1.setCell ⟨_,0,none⟩ _).setCell ⟨_,1,none⟩ _=W9;have jM:=lH (pG (e:=.returned (.agg #[.bool false,.slice A n c])) aP7.o rW aHB.o (by simp) (by simp) eB.o rfl);rw[fU] at jM;have eV:Hid (aG W9 _ 113 #[.bool false,.slice A n c]):=lH (by rw[<-fU];exact cD aHB.o);clear fU z0 z1 zf zl;obtain⟨q0,q1⟩:=eV.o.a2;exact bodyPost_ret (v:=.agg #[.bool false,.slice A n c]) (by simp[results,Tryz.results145,go_sem,q0,q1]) rfl jM.o
  ·have hs:(y:Int).sign=1:=Int.sign_eq_one_of_pos (by omega)
   rw[hs];clear hs;have yH:0<y:=by omega
   clear hy;obtain⟨a0,a1,al⟩:=aKP.o.b2;obtain⟨z0,z1,zl⟩:=aPG.o.b2;have hxn:n=dL x:=by rw[eB.o.en,Int.natAbs_natCast]
   have hyn:m=dL y:=by rw[HY1.o.en,Int.natAbs_natCast]
   have hnc:=eB.o.nc;have LQ:=eB.o.cm;clear hxn hyn;(go_wp2_with fail);refine(TM A n c B m d x y w1 (by have:=eB.o.rd;exact this) (by have:=HY1.o.rd;exact this) yH hnc LQ hn mA.o).mono ?_;rintro e W2 ⟨bH,Aq,nq,cq,lq,Ar,nr,cr,lr,rfl,-,⟨O7,AY,vR,DE,y_⟩,-,hnr⟩;clear a0 a1 al z0 z1 zl;have HBr:=bW aP7 bH;obtain⟨wE,Q2,DA,HY2⟩:=iK (aKP.o.bl bH) (aPG.o.bl bH) (aHB.o.bl bH) (HY1.o.up bH);have xN:Hid (jU W2.drew W2.drew.heap.size Ar nr lr):=lH O7;have YR:=lH AY;have HRV:Hid (DY false (wv lr)=((x % y:Nat):Int)):=lH (by rw[vR];rfl);clear bH O7 AY vR DE y_ aP7 aKP aPG aHB eB HY1 hnc LQ;obtain⟨z0,z1,zl⟩:=Q2.o.b2;(go_wp2_with fail);refine bZ (S:=fun w'=>w'.cell? ⟨w.heap.size+1,0,none⟩=some (.bool false)/\w'.cell? ⟨w.heap.size+1,1,none⟩=some (.slice B m d)) 5 _ (by kernel_rfl) (by kernel_rfl) rfl ⟨z0,z1⟩ (fun hHeld=>?_);simp only[nI,List.take_zero];refine gB 0 (v:=?_) ?_ hHeld ?_;rotate_left 1
   ·intro w' hSw;obtain⟨s0,s1⟩:=hSw;go_simp<;>with_reducible rfl
   (try simp only[Act.put,gL,gK,gJ]);refine gB 1 (v:=?_) ?_ hHeld ?_;rotate_left 1
   ·intro w' hSw;obtain⟨s0,s1⟩:=hSw;go_simp<;>with_reducible rfl
   (try simp only[Act.put,gL,gK,gJ]);clear z0 z1;refine bQ 2 (fun K hK=>?_);go_simp;refine(X8 Ar nr cr lr W2.drew xN.o (by omega)).mono ?_;rintro e w3 ⟨cN,A3,c3,rfl,vR,hn3,hc3⟩;have dY:=lH ((aK (Below.refl W2.heap.size W2)).trans cN);have E5:=lH vR;clear cN vR;go_simp;refine hK.out _ _ ?_ (fun hHeld=>?_)
   ·exact⟨(Q2.o.bl dY.o).cell 0,(Q2.o.bl dY.o).cell 1⟩
   clear hK K;(try simp only[Act.put,gL,gK,gJ]);refine bQ 3 (fun K hK=>?_);go_simp;refine(kL false A3 nr c3 lr w3 E5.o YR.o hn3 hc3).mono ?_;rw[HRV.o];rintro e w4 ⟨eR,b4,A4,n4,c4,rfl,h4⟩;have bM:=bW dY eR;have H4:=lH h4;clear eR h4 hn3 hc3 E5;go_simp;refine hK.out _ _ ?_ (fun hHeld=>?_)
   ·exact⟨(Q2.o.bl bM.o).cell 0,(Q2.o.bl bM.o).cell 1⟩
   clear hK K;(try simp only[Act.put,gL,gK,gJ]);have aOD:b4=false:=by rw[H4.o.eb];exact decide_eq_false (by omega)
   subst aOD;obtain⟨aC6,a0l,a0k⟩:=d_ (wE.o.bl bM.o) (Q2.o.bl bM.o) (DA.o.bl bM.o);obtain⟨z0,z1,zf,zl⟩:=aC6.o.e2;refine bQ 4 (fun K hK=>?_);go_simp;clear z0 z1 zf zl;generalize XD:(w4.setCell ⟨w.heap.size,0,none⟩ _).setCell ⟨w.heap.size,1,none⟩ _=w5;have aPI:Hid (aG w5 w.heap.size 113 #[.bool false,.slice B m d]):=lH (by rw[<-XD];exact cD aC6.o);have AT:Hid (aG w5 (w.heap.size+1) 113 #[.bool false,.slice B m d]):=lH (by rw[<-XD];exact(a0l.o.far e10 _).far e10 _);have aPA:Hid (aG w5 (w.heap.size+1+1) 113 #[.bool false,.slice none 0 0]):=lH (by rw[<-XD];exact(a0k.o.far e20 _).far e20 _);have HBc:Hid (Below w.heap.size w w5):=lH (by rw[<-XD];exact cY (HBr.o.tm bM.o) lR);have HYc:Hid (cE w5 w5.heap.size (y:Int) false B m d):=lH (by rw[<-XD];exact((HY2.o.up bM.o).keep (aC6.o.cell 0) (by simp) _).keep ((aC6.o.set_ 0 (.bool false)).cell 1) (by simp) _);have HRc:Hid (cE w5 w5.heap.size ((x % y:Nat):Int) false A4 n4 c4):=lH (by rw[<-XD];exact(H4.o.keep (aC6.o.cell 0) (by simp) _).keep ((aC6.o.set_ 0 (.bool false)).cell 1) (by simp) _);clear XD;refine hK.out _ _ ?_ (fun hHeld=>?_)
   ·exact⟨AT.o.cell 0,AT.o.cell 1⟩
   clear hK K;(try simp only[Act.put,gL,gK,gJ]);refine eM ?_;obtain⟨z0,z1,zf,zl⟩:=AT.o.e2;(go_wp2_with fail);clear z0 z1 zf zl;generalize sF:(w5.setCell ⟨w.heap.size+1,0,none⟩ _).setCell ⟨w.heap.size+1,1,none⟩ _=w6;have aPH:Hid (aG w6 w.heap.size 113 #[.bool false,.slice B m d]):=lH (by rw[<-sF];exact(aPI.o.far e01 _).far e01 _);have aPC:Hid (aG w6 (w.heap.size+1) 113 #[.bool false,.slice A4 n4 c4]):=lH (by rw[<-sF];exact cD AT.o);have aPz:Hid (aG w6 (w.heap.size+1+1) 113 #[.bool false,.slice none 0 0]):=lH (by rw[<-sF];exact(aPA.o.far e21 _).far e21 _);have HBd:Hid (Below w.heap.size w w6):=lH (by rw[<-sF];exact cY HBc.o (Nat.le_succ _));have HYd:Hid (cE w6 w6.heap.size (y:Int) false B m d):=lH (by rw[<-sF];exact(HYc.o.keep (AT.o.cell 0) (by simp) _).keep ((AT.o.set_ 0 (.bool false)).cell 1) (by simp) _);have HRd:Hid (cE w6 w6.heap.size ((x % y:Nat):Int) false A4 n4 c4):=lH (by rw[<-sF];exact(HRc.o.keep (AT.o.cell 0) (by simp) _).keep ((AT.o.set_ 0 (.bool false)).cell 1) (by simp) _);clear sF;have HM4:Hid (n4<=35184372088832):=lH (by rw[HRc.o.en];refine cO ?_ mA.o;rw[HYc.o.en];exact lD (by rw[Int.natAbs_natCast,Int.natAbs_natCast];exact pJ (Nat.mod_lt _ yH)));have zZ:Hid (y.gcd (x % y)=GG):=lH (by rw[<-HG.o,Nat.gcd_comm x y,Nat.gcd_rec y x,Nat.gcd_comm]);have UI:Hid (x % y<gk):=lH (by rw[HKY.o];exact Nat.mod_lt _ yH)
   go_roundg (x % y)
   case rel=>exact⟨y,x % y,B,m,d,A4,n4,c4,rfl,zZ.o,HBd.o,aPH.o,aPC.o,aPz.o,HYd.o,HRd.o,mA.o,HM4.o⟩
   case measure=>exact UI.o
def RtS(q:Rat)(w wc:Wo):Prop:=∃(y:Int)(k:Nat)(b1:Bool)(A:OA)(n c:Nat)(B:OA)(m d:Nat),0<k/\q=Rat.divInt y (k:Int)/\Below w.heap.size w wc/\aG wc w.heap.size 113 #[.bool b1,.slice A n c]/\aG wc (w.heap.size+1) 113 #[.bool false,.slice B m d]/\aG wc (w.heap.size+1+1) 115 #[.bool false,.slice none 0 0,.bool false,.slice none 0 0]/\cE wc wc.heap.size y b1 A n c/\cE wc wc.heap.size (k:Int) false B m d/\n<=35184372088832/\m<=35184372088832
theorem xW(y z:Int)(b1:Bool)(A:OA)(n c:Nat)(b2:Bool)(B:OA)(m d:Nat)(w:Wo)(h1:cE w w.heap.size y b1 A n c)(h2:cE w w.heap.size z b2 B m d)(hz:z≠0)(hn:n<=35184372088832)(hm:m<=35184372088832):Calls Tryz.prog 114 #[.agg #[.bool b1,.slice A n c],.agg #[.bool b2,.slice B m d]] w (RtP (Rat.divInt y z) w):=by
 obtain⟨HYN,HZM,cH⟩:=d_ h1.en h2.en h2.eb;have dA:Hid (Below w.heap.size w (((w.alloc (.cells #[.bool b1,.slice A n c] 113)).alloc (.cells #[.bool b2,.slice B m d] 113)).alloc (.cells #[.bool false,.slice none 0 0,.bool false,.slice none 0 0] 115))):=lH (((bA).alloc (by simp) _).alloc (by simp;omega) _);have eB:Hid (aG (((w.alloc (.cells #[.bool b1,.slice A n c] 113)).alloc (.cells #[.bool b2,.slice B m d] 113)).alloc (.cells #[.bool false,.slice none 0 0,.bool false,.slice none 0 0] 115)) w.heap.size 113 #[.bool b1,.slice A n c]):=lH (((aG.new w _ _).alloc _).alloc _);have f_:Hid (aG (((w.alloc (.cells #[.bool b1,.slice A n c] 113)).alloc (.cells #[.bool b2,.slice B m d] 113)).alloc (.cells #[.bool false,.slice none 0 0,.bool false,.slice none 0 0] 115)) (w.heap.size+1) 113 #[.bool b2,.slice B m d]):=lH ((aG.new_ (by simp)).alloc _);have HR:Hid (aG (((w.alloc (.cells #[.bool b1,.slice A n c] 113)).alloc (.cells #[.bool b2,.slice B m d] 113)).alloc (.cells #[.bool false,.slice none 0 0,.bool false,.slice none 0 0] 115)) (w.heap.size+1+1) 115 #[.bool false,.slice none 0 0,.bool false,.slice none 0 0]):=lH (aG.new_ (by simp));have H1:=lH (h1.up dA.o);have H2:=lH (h2.up dA.o);have e01:w.heap.size≠w.heap.size+1:=by omega
 have e10:w.heap.size+1≠w.heap.size:=by omega
 have e20:w.heap.size+1+1≠w.heap.size:=by omega
 have e21:w.heap.size+1+1≠w.heap.size+1:=by omega
 clear h1 h2;go_enter Tryz.func114,Tryz.ntmps114
 go_upto_region 1 with fail
 generalize (((w.alloc (.cells #[.bool b1,.slice A n c] 113)).alloc (.cells #[.bool b2,.slice B m d] 113)).alloc (.cells #[.bool false,.slice none 0 0,.bool false,.slice none 0 0] 115))=W at *;obtain⟨p0,p1,pl⟩:=eB.o.b2;obtain⟨q0,q1,ql⟩:=f_.o.b2
 go_upto_if 8 with fail
 go_cut [] (fun wc=>RtS (Rat.divInt y z) w wc)
 case first=>
  cases b2 with
  | true=>
   have jR:z<0:=by simpa using cH.o.symm
   have HH1:Hid (cE W.drew W.drew.heap.size y b1 A n c):=lH (H1.o.up (aK bR));have HH2:Hid (cE W.drew W.drew.heap.size z true B m d):=lH (H2.o.up (aK bR));clear cH;(go_wp2_with fail);refine l_ (S:=fun w'=>Below W.heap.size W w') 4 _ _ (by kernel_rfl) (by kernel_rfl) (by kernel_rfl) rfl rfl (aK bR) (fun hHeld=>?_);simp only[nI,List.take_zero];refine cW [0,2] ?_;refine bQ 1 (fun K hK=>?_);go_simp;refine(G8 y b1 A n c W.drew HH1.o).mono ?_;rintro e w3 ⟨cN,b3,A3,n3,c3,rfl,h3⟩;obtain⟨dY,H3,a0B⟩:=d_ ((aK (Below.refl W.heap.size W)).trans cN) h3 (HH2.o.up cN);clear cN h3;go_simp;refine gZ hK dY.o (fun hHeld=>?_);clear hK K;refine bQ 3 (fun K hK=>?_);go_simp;refine(G8 z true B m d w3 a0B.o).mono ?_;rintro e w4 ⟨eR,b4,A4,n4,c4,rfl,h4⟩;have bM:=bW dY eR;have H4:=lH h4;have H3b:=lH (H3.o.up eR);clear eR h4 H3;go_simp;refine gZ hK bM.o (fun hHeld=>?_);clear hK K;refine eM ?_;obtain⟨wE,Q2,DA,Q7⟩:=iK (eB.o.bl bM.o) (f_.o.bl bM.o) (HR.o.bl bM.o) (dA.o.tm bM.o);clear p0 p1 q0 q1 pl ql;obtain⟨z0,z1,zf,zl⟩:=wE.o.e2;go_simp;clear z0 z1 zf zl;generalize XD:(w4.setCell ⟨w.heap.size,0,none⟩ _).setCell ⟨w.heap.size,1,none⟩ _=w5;have aPI:Hid (aG w5 w.heap.size 113 #[.bool b3,.slice A3 n3 c3]):=lH (by rw[<-XD];exact cD wE.o);have AT:Hid (aG w5 (w.heap.size+1) 113 #[.bool true,.slice B m d]):=lH (by rw[<-XD];exact(Q2.o.far e10 _).far e10 _);have aPA:Hid (aG w5 (w.heap.size+1+1) 115 #[.bool false,.slice none 0 0,.bool false,.slice none 0 0]):=lH (by rw[<-XD];exact(DA.o.far e20 _).far e20 _);have HBc:Hid (Below w.heap.size w w5):=lH (by rw[<-XD];exact cY Q7.o lR);have HNc:Hid (cE w5 w5.heap.size (-y) b3 A3 n3 c3):=lH (by rw[<-XD];exact(H3b.o.keep (wE.o.cell 0) (by simp) _).keep ((wE.o.set_ 0 (.bool b3)).cell 1) (by simp) _);have HDc:Hid (cE w5 w5.heap.size (-z) b4 A4 n4 c4):=lH (by rw[<-XD];exact(H4.o.keep (wE.o.cell 0) (by simp) _).keep ((wE.o.set_ 0 (.bool b3)).cell 1) (by simp) _);clear XD;refine dK (by rfl) ?_;obtain⟨z0,z1,zf,zl⟩:=AT.o.e2;(go_wp2_with fail);clear z0 z1 zf zl;generalize sF:(w5.setCell ⟨w.heap.size+1,0,none⟩ _).setCell ⟨w.heap.size+1,1,none⟩ _=w6;have aPH:Hid (aG w6 w.heap.size 113 #[.bool b3,.slice A3 n3 c3]):=lH (by rw[<-sF];exact(aPI.o.far e01 _).far e01 _);have aPC:Hid (aG w6 (w.heap.size+1) 113 #[.bool b4,.slice A4 n4 c4]):=lH (by rw[<-sF];exact cD AT.o);have aPz:Hid (aG w6 (w.heap.size+1+1) 115 #[.bool false,.slice none 0 0,.bool false,.slice none 0 0]):=lH (by rw[<-sF];exact(aPA.o.far e21 _).far e21 _);have HBd:Hid (Below w.heap.size w w6):=lH (by rw[<-sF];exact cY HBc.o (Nat.le_succ _));have HNd:Hid (cE w6 w6.heap.size (-y) b3 A3 n3 c3):=lH (by rw[<-sF];exact(HNc.o.keep (AT.o.cell 0) (by simp) _).keep ((AT.o.set_ 0 (.bool b4)).cell 1) (by simp) _);have HDd:Hid (cE w6 w6.heap.size (-z) b4 A4 n4 c4):=lH (by rw[<-sF];exact(HDc.o.keep (AT.o.cell 0) (by simp) _).keep ((AT.o.set_ 0 (.bool b4)).cell 1) (by simp) _);clear sF;obtain⟨k,hk⟩:∃k:Nat,-z=(k:Int):=⟨(-z).toNat,by omega⟩;rw[hk] at HDd;have aOD:b4=false:=by rw[HDd.o.eb];exact decide_eq_false (by omega)
   subst aOD;have HE1:Hid (Rat.divInt y z=Rat.divInt (-y) (k:Int)):=lH (by rw[show z=-(k:Int) from by omega];exact MJ y k);have lB:0<k:=by omega
   have hn3:n3<=35184372088832:=by rw[HNd.o.en,Int.natAbs_neg,<-HYN.o];exact hn
   have hm4:n4<=35184372088832:=by rw[HDd.o.en,<-hk,Int.natAbs_neg,<-HZM.o];exact hm
   clear hk;go_meet
   case rel=>exact⟨-y,k,b3,A3,n3,c3,A4,n4,c4,lB,HE1.o,HBd.o,aPH.o,aPC.o,aPz.o,HNd.o,HDd.o,hn3,hm4⟩
  | false=>
   have jR : 0 < z := by
    have : ¬ z < 0 := by simpa using cH.o.symm
    omega
   obtain⟨k,rfl⟩:∃k:Nat,z=(k:Int):=⟨z.toNat,by omega⟩;clear cH;have lB:0<k:=by omega
   (go_wp2_with fail);go_meet
   case rel=>exact⟨y,k,b1,A,n,c,B,m,d,lB,rfl,dA.o,eB.o,f_.o,HR.o,H1.o,H2.o,hn,hm⟩
 clear dA eB f_ HR H1 H2 p0 p1 q0 q1 pl ql hn hm hz cH HYN HZM;generalize Rat.divInt y z=q at *;obtain⟨y,k,b1,A,n,c,B,m,d,lB,hq,hb,CH,y9,hr,h1,h2,hn,hm⟩:=hcut;obtain⟨HQ,HB,wE,Q2,DA⟩:=kN hq hb CH y9 hr;have HY:=lH h1;have HK:=lH h2;clear hq hb CH y9 hr h1 h2;generalize wc=V at *;have rW:w.heap.size<=w.heap.size+1+1:=by omega
 have HKM:Hid (m=dL k):=lH (by rw[HK.o.en,Int.natAbs_natCast]);obtain⟨p0,p1,pl⟩:=wE.o.b2;obtain⟨q0,q1,ql⟩:=Q2.o.b2
 go_upto_region 3 with fail
 go_cut [23] (fun v wc=>wc=V/\v=.bool (decide (k=1)))
 case first=>
  by_cases S3:m=1
  ·subst S3
   have aOi:k<4294967296:=by
    have:=oL k;rw[<-HKM.o] at this;exact this
   obtain⟨bb,bo,ND,pE⟩:=HK.o.rd.form (by omega);subst ND;have JV:=HK.o.rd.at_ (i:=0) (by omega);rw[Int.natAbs_natCast,oQ (by omega),Nat.mod_eq_of_lt aOi,Nat.add_zero] at JV;have hc1:V.cell? ⟨bb,bo,none⟩=some (.int .u32 (k:Int)):=JV;clear JV;have hkb:((k:Int) == 1)=decide (k=1):=by
    by_cases h:k=1
    ·subst h;rfl
    ·simp[h];omega
   (go_wp2_with fail);go_meet
   case rel=>exact⟨rfl,rfl⟩
  ·have hmb:((m:Int) == 1)=false:=by simp;omega
   have hkb:decide (k=1)=false:=decide_eq_false fun e=>S3 (by rw[HKM.o,e];exact tK (by decide) (by decide));clear S3
   (go_wp2_with fail);go_meet
   case rel=>exact⟨rfl,by rw[hkb]⟩
 obtain⟨K4,rfl⟩:=hcut;subst K4;generalize wc=V at *;by_cases FR:k=1
 ·subst FR
  have QS:c_ V V.heap.size q b1 A n c false B m d:=by
   obtain⟨e1,e2⟩:=EB (n:=y) (d:=1) (by decide) (Nat.gcd_one_right _);rw[HQ.o];exact⟨by rw[e1];exact HY.o,by rw[e2];exact HK.o⟩
  have HRT:=lH QS;clear QS;obtain⟨z0,z1,z2,z3,zf,zl⟩:=DA.o.e4;(go_wp2_with fail);generalize fU:(((V.setCell ⟨_,0,none⟩ _).setCell ⟨_,1,none⟩ _).setCell ⟨_,2,none⟩ _).setCell ⟨_,3,none⟩ _=W9;have jM:=lH (nR (e:=.returned (.agg #[.bool b1,.slice A n c,.bool false,.slice B m d])) HB.o rW DA.o (by simp) (by simp) (by simp) (by simp) HRT.o rfl);rw[fU] at jM;have eV:Hid (aG W9 _ 115 #[.bool b1,.slice A n c,.bool false,.slice B m d]):=lH (by rw[<-fU];exact gF DA.o);clear fU z0 z1 z2 z3 zf zl;obtain⟨q0,q1,q2,q3⟩:=eV.o.a4;exact bodyPost_ret (v:=.agg #[.bool b1,.slice A n c,.bool false,.slice B m d]) (by simp[results,Tryz.results114,go_sem,q0,q1,q2,q3]) rfl jM.o
 ·have hkf:decide (k=1)=false:=decide_eq_false FR
  rw[hkf];clear hkf FR;(go_wp2_with fail);refine(aAr y (k:Int) b1 A n c false B m d V HY.o HK.o hn hm).mono ?_;rw[Int.natAbs_natCast];rintro e V2 ⟨bH,bg,Ag,ng,cg,rfl,lO⟩;obtain⟨g,hgg⟩:∃g,y.natAbs.gcd k=g:=⟨_,rfl⟩;rw[hgg] at lO;have HGG:=lH hgg;have hg0:0<g:=by rw[<-hgg];exact Nat.gcd_pos_of_pos_right _ lB
  have hbg:bg=false:=by rw[lO.eb];exact decide_eq_false (by omega)
  subst hbg;clear p0 p1 pl q0 q1 ql hgg;have cH:=bW HB bH;obtain⟨aPK,aPF,aPB,HY2,xO⟩:=kN (wE.o.bl bH) (Q2.o.bl bH) (DA.o.bl bH) (HY.o.up bH) (HK.o.up bH);have iJ:=lH lO;clear bH lO HB wE Q2 DA HY HK;have F2:=lH ((Below.refl V2.heap.size V2).alloc lR (.cells #[.bool false,.slice Ag ng cg] 113));have HP5:Hid (aG (V2.alloc (.cells #[.bool false,.slice Ag ng cg] 113)) V2.heap.size 113 #[.bool false,.slice Ag ng cg]):=lH (aG.new V2 _ _);obtain⟨dY,L3,aPE,UH,HY3⟩:=kN (cH.o.tm F2.o) (aPK.o.bl F2.o) (aPF.o.bl F2.o) (aPB.o.bl F2.o) (HY2.o.up F2.o);have Q3:=lH (xO.o.up F2.o);have N1:=lH (iJ.o.up F2.o);have f2:V2.heap.size≠w.heap.size:=by have:=aPK.o.lt;omega
  have f3:V2.heap.size≠w.heap.size+1:=by have:=aPF.o.lt;omega
  have f4:V2.heap.size≠w.heap.size+1+1:=by have:=aPB.o.lt;omega
  (go_upto_region 6 with fail);generalize V2.alloc (.cells #[.bool false,.slice Ag ng cg] 113)=V3 at *;generalize V2.heap.size=g5 at *;clear cH aPK aPF aPB HY2 xO iJ F2;have Y1:Hid (ng=dL g):=lH (by rw[N1.o.en,Int.natAbs_natCast]);obtain⟨p0,p1,pl⟩:=HP5.o.b2
  go_cut [40] (fun v wd=>wd=V3/\v=.bool (decide (g=1)))
  case first=>
   by_cases S3:ng=1
   ·subst S3
    have aOi:g<4294967296:=by
     have:=oL g;rw[<-Y1.o] at this;exact this
    obtain⟨bb,bo,ND,pE⟩:=N1.o.rd.form (by omega);subst ND;have JV:=N1.o.rd.at_ (i:=0) (by omega);rw[Int.natAbs_natCast,oQ (by omega),Nat.mod_eq_of_lt aOi,Nat.add_zero] at JV;have hc1:V3.cell? ⟨bb,bo,none⟩=some (.int .u32 (g:Int)):=JV;clear JV;have hkb:((g:Int) == 1)=decide (g=1):=by
     by_cases h:g=1
     ·subst h;rfl
     ·simp[h];omega
    (go_wp2_with fail);go_meet
    case rel=>exact⟨rfl,rfl⟩
   ·have hmb:((ng:Int) == 1)=false:=by simp;omega
    have hkb:decide (g=1)=false:=decide_eq_false fun e=>S3 (by rw[Y1.o,e];exact tK (by decide) (by decide));clear S3
    (go_wp2_with fail);go_meet
    case rel=>exact⟨rfl,by rw[hkb]⟩
  obtain⟨K4,rfl⟩:=hcut;subst K4;clear p0 p1 pl;generalize wc=V at *;by_cases LP:g=1
  ·subst LP
   have QS:c_ V V.heap.size q b1 A n c false B m d:=by
    obtain⟨e1,e2⟩:=EB (n:=y) (d:=k) (by omega) HGG.o;rw[HQ.o];exact⟨by rw[e1];exact HY3.o,by rw[e2];exact Q3.o⟩
   have HRT:=lH QS;clear QS;obtain⟨p0,p1,pl⟩:=L3.o.b2;obtain⟨q0,q1,ql⟩:=aPE.o.b2;obtain⟨z0,z1,z2,z3,zf,zl⟩:=UH.o.e4;(go_wp2_with fail);generalize fU:(((V.setCell ⟨_,0,none⟩ _).setCell ⟨_,1,none⟩ _).setCell ⟨_,2,none⟩ _).setCell ⟨_,3,none⟩ _=W9;have jM:=lH (nR (e:=.returned (.agg #[.bool b1,.slice A n c,.bool false,.slice B m d])) dY.o rW UH.o (by simp) (by simp) (by simp) (by simp) HRT.o rfl);rw[fU] at jM;have eV:Hid (aG W9 _ 115 #[.bool b1,.slice A n c,.bool false,.slice B m d]):=lH (by rw[<-fU];exact gF UH.o);clear fU z0 z1 z2 z3 zf zl;obtain⟨q0,q1,q2,q3⟩:=eV.o.a4;exact bodyPost_ret (v:=.agg #[.bool b1,.slice A n c,.bool false,.slice B m d]) (by simp[results,Tryz.results114,go_sem,q0,q1,q2,q3]) rfl jM.o
  ·have IB:decide (g=1)=false:=decide_eq_false LP
   rw[IB];clear IB LP;obtain⟨p0,p1,pf,pl⟩:=L3.o.e2;(go_upto_region 10 with fail);clear p0 p1 pf pl;generalize F_:V.setCell ⟨w.heap.size,0,none⟩ (.bool false)=V4;have aPJ:Hid (aG V4 w.heap.size 113 #[.bool false,.slice A n c]):=lH (by rw[<-F_];exact L3.o.set_at (i:=0) (.bool false) (by simp));have aUI:Hid (aG V4 (w.heap.size+1) 113 #[.bool false,.slice B m d]):=lH (by rw[<-F_];exact aPE.o.far e10 _);have aUG:Hid (aG V4 (w.heap.size+1+1) 115 #[.bool false,.slice none 0 0,.bool false,.slice none 0 0]):=lH (by rw[<-F_];exact UH.o.far e20 _);have aPy:Hid (aG V4 g5 113 #[.bool false,.slice Ag ng cg]):=lH (by rw[<-F_];exact HP5.o.far f2 _);have bM:Hid (Below w.heap.size w V4):=lH (by rw[<-F_];exact dY.o.setCell lR _);have HY4:Hid (cE V4 V4.heap.size (y.natAbs:Int) false A n c):=lH (by rw[<-F_];exact W3 (HY3.o.keep (L3.o.cell 0) (by simp) _));have HK4:Hid (cE V4 V4.heap.size (k:Int) false B m d):=lH (by rw[<-F_];exact Q3.o.keep (L3.o.cell 0) (by simp) _);have HG4:Hid (cE V4 V4.heap.size (g:Int) false Ag ng cg):=lH (by rw[<-F_];exact N1.o.keep (L3.o.cell 0) (by simp) _);have HYB:Hid (b1=decide (y<0)):=lH HY3.o.eb;clear F_ L3 aPE UH HP5 dY HY3 Q3 N1;have hng:ng<=35184372088832:=by rw[Y1.o];refine cO (lD (n:=k) (by rw[<-HGG.o];exact Nat.gcd_le_right _ lB)) ?_;rw[<-HKM.o];exact hm
   obtain⟨p0,p1,pl⟩:=aPJ.o.b2;obtain⟨q0,q1,ql⟩:=aPy.o.b2;(go_wp2_with fail);refine(aGC y.natAbs g false A n c false Ag ng cg V4 HY4.o HG4.o hg0 hn hng).mono ?_;clear p0 p1 pl q0 q1 ql;rintro e V5 ⟨fD,bq,Aq,nq,cq,br,Ar,nr,cr,rfl,hq5,y_⟩;clear y_;have UZ:bq=false:=by rw[hq5.eb];exact decide_eq_false (Int.not_lt.2 (Int.natCast_nonneg _))
   subst UZ;have eK:=bW bM fD;obtain⟨QD,aUH,aUF,aUC,HK5⟩:=kN (aPJ.o.bl fD) (aUI.o.bl fD) (aUG.o.bl fD) (aPy.o.bl fD) (HK4.o.up fD);have HG5:=lH (HG4.o.up fD);have HQ5:=lH hq5;clear fD hq5 bM aPJ aUI aUG aPy HY4 HK4 HG4;obtain⟨p0,p1,pf,pl⟩:=QD.o.e2;(go_upto_region 11 with fail);clear p0 p1 pf pl;generalize sF:(V5.setCell ⟨w.heap.size,0,none⟩ (.bool false)).setCell ⟨w.heap.size,1,none⟩ (.slice Aq nq cq)=V6;have aUK:Hid (aG V6 w.heap.size 113 #[.bool false,.slice Aq nq cq]):=lH (by rw[<-sF];exact cD QD.o);have aPD:Hid (aG V6 (w.heap.size+1) 113 #[.bool false,.slice B m d]):=lH (by rw[<-sF];exact(aUH.o.far e10 _).far e10 _);have aUE:Hid (aG V6 (w.heap.size+1+1) 115 #[.bool false,.slice none 0 0,.bool false,.slice none 0 0]):=lH (by rw[<-sF];exact(aUF.o.far e20 _).far e20 _);have aUB:Hid (aG V6 g5 113 #[.bool false,.slice Ag ng cg]):=lH (by rw[<-sF];exact(aUC.o.far f2 _).far f2 _);have fL:Hid (Below w.heap.size w V6):=lH (by rw[<-sF];exact cY eK.o lR);have HQ6:Hid (cE V6 V6.heap.size ((y.natAbs / g:Nat):Int) false Aq nq cq):=lH (by rw[<-sF];exact(HQ5.o.keep (QD.o.cell 0) (by simp) _).keep ((QD.o.set_ 0 (.bool false)).cell 1) (by simp) _);have U3:Hid (cE V6 V6.heap.size (k:Int) false B m d):=lH (by rw[<-sF];exact(HK5.o.keep (QD.o.cell 0) (by simp) _).keep ((QD.o.set_ 0 (.bool false)).cell 1) (by simp) _);have Q5:Hid (cE V6 V6.heap.size (g:Int) false Ag ng cg):=lH (by rw[<-sF];exact(HG5.o.keep (QD.o.cell 0) (by simp) _).keep ((QD.o.set_ 0 (.bool false)).cell 1) (by simp) _);clear sF QD aUH aUF aUC eK HQ5 HK5 HG5;obtain⟨p0,p1,pl⟩:=aPD.o.b2;obtain⟨q0,q1,ql⟩:=aUB.o.b2;(go_wp2_with fail);refine(aGC k g false B m d false Ag ng cg V6 U3.o Q5.o hg0 hm hng).mono ?_;clear p0 p1 pl q0 q1 ql;rintro e V7 ⟨iA,bk,Ak,nk,ck,br,Ar,nr,cr,rfl,hk7,hr7⟩;clear hr7;have zW:bk=false:=by rw[hk7.eb];exact decide_eq_false (Int.not_lt.2 (Int.natCast_nonneg _))
   subst zW;have j_:=bW fL iA;obtain⟨aUJ,YV,aUD,HQ7,HK7⟩:=kN (aUK.o.bl iA) (aPD.o.bl iA) (aUE.o.bl iA) (HQ6.o.up iA) hk7;clear iA hk7 fL aUK aPD aUE aUB HQ6 U3 Q5;obtain⟨p0,p1,pf,pl⟩:=YV.o.e2;(go_upto_region 12 with fail);clear p0 p1 pf pl;generalize QQ:(V7.setCell ⟨w.heap.size+1,0,none⟩ (.bool false)).setCell ⟨w.heap.size+1,1,none⟩ (.slice Ak nk ck)=V8;have KN:Hid (aG V8 w.heap.size 113 #[.bool false,.slice Aq nq cq]):=lH (by rw[<-QQ];exact(aUJ.o.far e01 _).far e01 _);have aKO:Hid (aG V8 (w.heap.size+1) 113 #[.bool false,.slice Ak nk ck]):=lH (by rw[<-QQ];exact cD YV.o);have QC:Hid (aG V8 (w.heap.size+1+1) 115 #[.bool false,.slice none 0 0,.bool false,.slice none 0 0]):=lH (by rw[<-QQ];exact(aUD.o.far e21 _).far e21 _);have dR:Hid (Below w.heap.size w V8):=lH (by rw[<-QQ];exact cY j_.o (Nat.le_succ _));have HQ8:Hid (cE V8 V8.heap.size ((y.natAbs / g:Nat):Int) false Aq nq cq):=lH (by rw[<-QQ];exact(HQ7.o.keep (YV.o.cell 0) (by simp) _).keep ((YV.o.set_ 0 (.bool false)).cell 1) (by simp) _);have HK8:Hid (cE V8 V8.heap.size ((k / g:Nat):Int) false Ak nk ck):=lH (by rw[<-QQ];exact(HK7.o.keep (YV.o.cell 0) (by simp) _).keep ((YV.o.set_ 0 (.bool false)).cell 1) (by simp) _);clear QQ aUJ YV aUD j_ HQ7 HK7;have HNQ:Hid (b1=true->0<nq):=lH fun hb=>by
    rw[HQ8.o.en,Int.natAbs_natCast];have yH:y<0:=by have:=HYB.o;rw[hb] at this;simpa using this.symm
    have hdv:g∣y.natAbs:=by rw[<-HGG.o];exact Nat.gcd_dvd_left _ _
    have:0<y.natAbs / g:=Nat.div_pos (Nat.le_of_dvd (by omega) hdv) hg0;rw[kP (by omega)];omega
   have QS:∀W,cE W W.heap.size ((y.natAbs / g:Nat):Int) false Aq nq cq->cE W W.heap.size ((k / g:Nat):Int) false Ak nk ck->c_ W W.heap.size q b1 Aq nq cq false Ak nk ck:=fun W g1 g2=>by
    obtain⟨e1,e2⟩:=sY y (d:=k) (by omega);obtain⟨_,e3⟩:=nS y (d:=k) (by omega);rw[HGG.o] at e1 e3;rw[HQ.o];refine⟨⟨?_,?_,?_,g1.nc,g1.cm⟩,by rw[e3];exact g2⟩
    ·rw[HYB.o];exact decide_eq_decide.2 e2
    ·rw[e1,g1.en,Int.natAbs_natCast]
    ·rw[e1];have:=g1.rd;rwa[Int.natAbs_natCast] at this
   have HRT:=lH QS;clear QS;obtain⟨p0,p1,pf,pl⟩:=KN.o.e2;cases b1 with
   | true=>
    have hnq:0<nq:=HNQ.o rfl;(go_upto_region 13 with fail);clear p0 p1 pf pl;generalize FN:V8.setCell ⟨w.heap.size,0,none⟩ (.bool true)=V9;have aHC:Hid (aG V9 w.heap.size 113 #[.bool true,.slice Aq nq cq]):=lH (by rw[<-FN];exact KN.o.set_at (i:=0) (.bool true) (by simp));have YU:Hid (aG V9 (w.heap.size+1) 113 #[.bool false,.slice Ak nk ck]):=lH (by rw[<-FN];exact aKO.o.far e10 _);have QB:Hid (aG V9 (w.heap.size+1+1) 115 #[.bool false,.slice none 0 0,.bool false,.slice none 0 0]):=lH (by rw[<-FN];exact QC.o.far e20 _);have eV:Hid (Below w.heap.size w V9):=lH (by rw[<-FN];exact dR.o.setCell lR _);have aPn:Hid (c_ V9 V9.heap.size q true Aq nq cq false Ak nk ck):=lH (by rw[<-FN];exact HRT.o _ (HQ8.o.keep (KN.o.cell 0) (by simp) _) (HK8.o.keep (KN.o.cell 0) (by simp) _));clear FN KN aKO QC dR HQ8 HK8 HRT;obtain⟨p0,p1,pl⟩:=aHC.o.b2;have q0:=YU.o.cell 0;have q1:=YU.o.cell 1;have ql:=YU.o.lt;obtain⟨z0,z1,z2,z3,zf,zl⟩:=QB.o.e4;(go_wp2_with fail);generalize fU:(((V9.setCell ⟨_,0,none⟩ _).setCell ⟨_,1,none⟩ _).setCell ⟨_,2,none⟩ _).setCell ⟨_,3,none⟩ _=W9;have jM:=lH (nR (e:=.returned (.agg #[.bool true,.slice Aq nq cq,.bool false,.slice Ak nk ck])) eV.o rW QB.o (by simp) (by simp) (by simp) (by simp) aPn.o rfl);rw[fU] at jM;have eV:Hid (aG W9 _ 115 #[.bool true,.slice Aq nq cq,.bool false,.slice Ak nk ck]):=lH (by rw[<-fU];exact gF QB.o);clear fU z0 z1 z2 z3 zf zl;obtain⟨q0,q1,q2,q3⟩:=eV.o.a4;exact bodyPost_ret (v:=.agg #[.bool true,.slice Aq nq cq,.bool false,.slice Ak nk ck]) (by simp[results,Tryz.results114,go_sem,q0,q1,q2,q3]) rfl jM.o
   | false=>
    (go_upto_region 13 with fail);clear p0 p1 pf pl;generalize FN:V8.setCell ⟨w.heap.size,0,none⟩ (.bool false)=V9;have aHC:Hid (aG V9 w.heap.size 113 #[.bool false,.slice Aq nq cq]):=lH (by rw[<-FN];exact KN.o.set_at (i:=0) (.bool false) (by simp));have YU:Hid (aG V9 (w.heap.size+1) 113 #[.bool false,.slice Ak nk ck]):=lH (by rw[<-FN];exact aKO.o.far e10 _);have QB:Hid (aG V9 (w.heap.size+1+1) 115 #[.bool false,.slice none 0 0,.bool false,.slice none 0 0]):=lH (by rw[<-FN];exact QC.o.far e20 _);have eV:Hid (Below w.heap.size w V9):=lH (by rw[<-FN];exact dR.o.setCell lR _);have aPn:Hid (c_ V9 V9.heap.size q false Aq nq cq false Ak nk ck):=lH (by rw[<-FN];exact HRT.o _ (HQ8.o.keep (KN.o.cell 0) (by simp) _) (HK8.o.keep (KN.o.cell 0) (by simp) _));clear FN KN aKO QC dR HQ8 HK8 HRT;obtain⟨p0,p1,pl⟩:=aHC.o.b2;have q0:=YU.o.cell 0;have q1:=YU.o.cell 1;have ql:=YU.o.lt;obtain⟨z0,z1,z2,z3,zf,zl⟩:=QB.o.e4;(go_wp2_with fail);generalize fU:(((V9.setCell ⟨_,0,none⟩ _).setCell ⟨_,1,none⟩ _).setCell ⟨_,2,none⟩ _).setCell ⟨_,3,none⟩ _=W9;have jM:=lH (nR (e:=.returned (.agg #[.bool false,.slice Aq nq cq,.bool false,.slice Ak nk ck])) eV.o rW QB.o (by simp) (by simp) (by simp) (by simp) aPn.o rfl);rw[fU] at jM;have eV:Hid (aG W9 _ 115 #[.bool false,.slice Aq nq cq,.bool false,.slice Ak nk ck]):=lH (by rw[<-fU];exact gF QB.o);clear fU z0 z1 z2 z3 zf zl;obtain⟨q0,q1,q2,q3⟩:=eV.o.a4;exact bodyPost_ret (v:=.agg #[.bool false,.slice Aq nq cq,.bool false,.slice Ak nk ck]) (by simp[results,Tryz.results114,go_sem,q0,q1,q2,q3]) rfl jM.o
end
