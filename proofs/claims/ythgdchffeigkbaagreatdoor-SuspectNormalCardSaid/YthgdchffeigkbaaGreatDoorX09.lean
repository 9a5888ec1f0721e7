import Derived.Test.YthgdchffeigkbaaGreatDoorX05
import Derived.Test.YthgdchffeigkbaaGreatDoorX06
import Derived.Test.YthgdchffeigkbaaGreatDoorX07
import Derived.Lib.BitFns
import Derived.Deep.CutBlock
import Derived.Deep.DeepAppendWide
import Derived.Deep.LoopGhost
set_option linter.unusedVariables false
set_option linter.unusedSimpArgs false
namespace Go.Proofs.YthgdchffeigkbaaGreatDoor
set_option maxHeartbeats 8000000
set_option maxRecDepth 100000
section
open Go.ChangeShapes Go.WideShapes Go.ChangeAt Go.RowKit
attribute [local go_sem ↓] aE
attribute [local go_sem] aK aH aM
theorem aG9 (y z:Int) (b1:Bool) (A:OA) (n c:Nat) (b2:Bool) (B:OA) (m d:Nat) (w:Wo) (h1:cG w w.heap.size y b1 A n c) (h2:cG w w.heap.size z b2 B m d) (hn:n<=35184372088832) (hm:m<=35184372088832) :
    Calls Tryz.prog 170 #[.agg #[.bool b1,.slice A n c],.agg #[.bool b2,.slice B m d]] w (LgP (y-z) w):=by
 have HMZ:=lH h2.en;have dB:Hid (Below w.heap.size w (((w.alloc (.cells #[.bool b1,.slice A n c] 113)).alloc (.cells #[.bool b2,.slice B m d] 113)).alloc (.cells #[.bool false,.slice none 0 0] 113))):=lH (((bA).alloc (by simp) _).alloc (by simp;omega) _);have cJ:Hid (aG (((w.alloc (.cells #[.bool b1,.slice A n c] 113)).alloc (.cells #[.bool b2,.slice B m d] 113)).alloc (.cells #[.bool false,.slice none 0 0] 113)) w.heap.size 113 #[.bool b1,.slice A n c]):=lH (((aG.new w _ _).alloc _).alloc _);have dI:Hid (aG (((w.alloc (.cells #[.bool b1,.slice A n c] 113)).alloc (.cells #[.bool b2,.slice B m d] 113)).alloc (.cells #[.bool false,.slice none 0 0] 113)) (w.heap.size+1) 113 #[.bool b2,.slice B m d]):=lH ((aG.new_ (by simp)).alloc _)
 have HR:Hid (aG (((w.alloc (.cells #[.bool b1,.slice A n c] 113)).alloc (.cells #[.bool b2,.slice B m d] 113)).alloc (.cells #[.bool false,.slice none 0 0] 113)) (w.heap.size+1+1) 113 #[.bool false,.slice none 0 0]):=lH (aG.new_ (by simp));have H1:=lH (h1.up dB.o);have H2:=lH (h2.up dB.o);clear h1 h2;go_enter Tryz.func170,Tryz.ntmps170
 have qK:w.heap.size<=w.heap.size+1+1:=by omega
 go_wp2_with fail
 generalize (((w.alloc (.cells #[.bool b1,.slice A n c] 113)).alloc (.cells #[.bool b2,.slice B m d] 113)).alloc (.cells #[.bool false,.slice none 0 0] 113))=W at *;have p0:=cJ.o.cell 0;have p1:=cJ.o.cell 1;have q0:=dI.o.cell 0;have q1:=dI.o.cell 1;have pl:=cJ.o.lt;have ql:=dI.o.lt;have HH1:Hid (cG W.drew W.drew.heap.size y b1 A n c):=lH (H1.o.up (aD bR));have HH2:Hid (cG W.drew W.drew.heap.size z b2 B m d):=lH (H2.o.up (aD bR));refine aJ (S:=fun w'=>Below W.heap.size W w') 4 _ (by kernel_rfl) (by kernel_rfl) rfl (aD bR) (fun hHeld=>?_);simp only [lA,List.take_zero];refine aL 0 rfl ?_;refine aL 1 rfl ?_;refine aU 2 (by kernel_rfl) rfl (fun K hK=>?_);go_simp;refine (EU z b2 B m d W.drew HH2.o).mono ?_;rintro e w5 ⟨eD,b5,A5,n5,c5,rfl,h5⟩
 have dX:=lH ((aD (Below.refl W.heap.size W)).trans eD);have H5:=lH h5;have L0:Hid (n5=m):=lH (by rw [h5.en,Int.natAbs_neg,<-HMZ.o]);have aXw:=lH (HH1.o.up eD);clear eD h5;go_simp;refine hK.out _ _ ?_ (fun hHeld=>?_)
 ·exact dX.o
 clear hK K
 try simp only [Act.put,bP,bO,bN]
 refine aU 3 (by kernel_rfl) rfl (fun K hK=>?_);go_simp;refine (NM y (-z) b1 A n c b5 A5 n5 c5 w5 aXw.o H5.o hn (by have:=L0.o;omega)).mono ?_;rw [show y+-z=y-z from by omega];rintro e w6 ⟨fQ,b9,A9,n9,c9,rfl,h9⟩;have fV:=lH (dX.o.tm fQ);have H9:=lH h9;clear fQ h9;go_simp;refine hK.out _ _ ?_ (fun hHeld=>?_)
 ·exact fV.o
 clear hK K
 try simp only [Act.put,bP,bO,bN]
 refine wpAnyH_done (by kernel_rfl) ?_ _;refine aP (by rfl) ?_;have CU:=lH (dB.o.tm fV.o);have eP:=lH (HR.o.bl fV.o);clear p0 p1 q0 q1 pl ql;have z0:=eP.o.cell 0;have z1:=eP.o.cell 1;have zf:=eP.o.frozen;have zl:=eP.o.lt
 go_wp2_with fail
 generalize fD:(w6.setCell ⟨_,0,none⟩ _).setCell ⟨_,1,none⟩ _=W9;have iK:=lH (nU (e:=.returned (.agg #[.bool b9,.slice A9 n9 c9])) CU.o qK eP.o (by simp) (by simp) H9.o rfl);rw [fD] at iK;have cQ:Hid (aG W9 _ 113 #[.bool b9,.slice A9 n9 c9]):=lH (by rw [<-fD];exact cD eP.o);clear fD z0 z1 zf zl;have q0:=cQ.o.cell 0;have q1:=cQ.o.cell 1;exact bodyPost_ret (v:=.agg #[.bool b9,.slice A9 n9 c9]) (by simp [results,Tryz.results170,go_sem,q0,q1]) rfl iK.o
theorem aIM (y z:Int) (b1:Bool) (A:OA) (n c:Nat) (b2:Bool) (B:OA) (m d:Nat) (w:Wo) (h1:cG w w.heap.size y b1 A n c) (h2:cG w w.heap.size z b2 B m d) (hn:n<=35184372088832) (hm:m<=35184372088832) :
    Calls Tryz.prog 154 #[.agg #[.bool b1,.slice A n c],.agg #[.bool b2,.slice B m d]] w fun e w'=>e=.returned (.int .i64 (y-z).sign)/\Below w.heap.size w w':=by
 have dB:Hid (Below w.heap.size w ((w.alloc (.cells #[.bool b1,.slice A n c] 113)).alloc (.cells #[.bool b2,.slice B m d] 113))):=lH ((bA).alloc (by simp) _);have cJ:Hid (aG ((w.alloc (.cells #[.bool b1,.slice A n c] 113)).alloc (.cells #[.bool b2,.slice B m d] 113)) w.heap.size 113 #[.bool b1,.slice A n c]):=lH ((aG.new w _ _).alloc _);have dI:Hid (aG ((w.alloc (.cells #[.bool b1,.slice A n c] 113)).alloc (.cells #[.bool b2,.slice B m d] 113)) (w.heap.size+1) 113 #[.bool b2,.slice B m d]):=lH (aG.new_ (by simp));have H1:=lH (h1.up dB.o);have H2:=lH (h2.up dB.o);clear h1 h2;go_enter Tryz.func154,Tryz.ntmps154
 go_wp2_with fail
 generalize ((w.alloc (.cells #[.bool b1,.slice A n c] 113)).alloc (.cells #[.bool b2,.slice B m d] 113))=W at *;clear cJ dI;refine (aG9 y z b1 A n c b2 B m d W H1.o H2.o hn hm).mono ?_;rintro e w5 ⟨eD,b5,A5,n5,c5,rfl,h5⟩;have dX:=lH (dB.o.tm eD);have H5:=lH h5;clear eD h5
 go_wp2_with fail
 refine (B9 (y-z) b5 A5 n5 c5 w5 H5.o).mono ?_;rintro e w6 ⟨rfl,fQ⟩;have fV:=lH (dX.o.tm fQ);clear fQ
 go_wp2_with fail
 go_ret;exact ⟨rfl,fV.o⟩
structure aWr (x s:Nat):Prop where
 le:s<=31
 lo:2147483648<=x*2^s
 hi:x*2^s<4294967296
theorem RO:∀ (x:Nat),0<x->x<18446744073709551616->1<=Lib.bitLen x/\2^(Lib.bitLen x-1)<=x/\x<2^Lib.bitLen x:=by
 intro x
 induction x using Nat.strongRecOn with
 | ind x ih=>
  intro h0 h1;have hh:=Lib.bitLen_half x (by omega) h1
  by_cases hx:x=1
  ·subst hx
   have e:Lib.bitLen (1 / 2)=0:=by decide
   rw [e] at hh;rw [hh];decide
  ·obtain ⟨g1,g2,g3⟩:=ih (x / 2) (by omega) (by omega) (by omega)
   rw [hh];generalize Lib.bitLen (x / 2)=L at *;obtain ⟨k,rfl⟩:∃ k,L=k+1:=⟨L-1,by omega⟩;rw [show 1+(k+1)-1=k+1 from by omega,show 1+(k+1)=k+2 from by omega];rw [Nat.add_sub_cancel] at g2;rw [Nat.pow_succ] at g3;refine ⟨by omega,?_,?_⟩
   ·rw [Nat.pow_succ];omega
   ·rw [Nat.pow_succ,Nat.pow_succ];omega
theorem aLC (x:Nat) (w:Wo) (h0:0<x) (h1:x<4294967296) :
    Calls Tryz.prog 189 #[.int .u32 (x:Int)] w fun e w'=>(∃ s:Nat,e=.returned (.int .i64 (s:Int))/\aWr x s)/\w=w':=by
 refine (Tryz.bits_LeadingZeros32 (x:Int) w (by omega) (by omega)).mono ?_;rintro e w' ⟨rfl,rfl⟩;rw [kU];obtain ⟨g1,g2,g3⟩:=RO x h0 (by omega);have K5:Lib.bitLen x<=32:=Lib.bitLen_le x 32 (by decide) h1;generalize Lib.bitLen x=L at *;refine ⟨⟨32-L,aX (by omega),⟨by omega,?_,?_⟩⟩,rfl⟩
 ·have:2^(L-1)*2^(32-L)=2147483648:=by rw [<-Nat.pow_add,show L-1+(32-L)=31 from by omega]
  have:=Nat.mul_le_mul_right (2^(32-L)) g2;omega
 ·have:2^L*2^(32-L)=4294967296:=by rw [<-Nat.pow_add,show L+(32-L)=32 from by omega]
  have:=(Nat.mul_lt_mul_right (a:=2^(32-L)) (Nat.pow_pos (by decide))).2 g3;omega
def aSW (x y:Nat) (w:Wo) (e:Ending) (w':Wo):Prop:=Below w.heap.size w w'/\∃ A n c l B m d l2,e=.returned (.tuple #[.slice A n c,.slice B m d])/\(iR w' w'.heap.size A n l/\Wd l/\wv l=x / y/\n<=c/\c<=9223372036854775807)/\(iR w' w'.heap.size B m l2/\Wd l2/\wv l2=x % y/\m<=d/\d<=9223372036854775807)/\n<=35184372088833/\m<=35184372088832
theorem Q4 (A:OA) (n c:Nat) (B:OA) (m d:Nat) (x y:Nat) (w:Wo) (hx:iR w w.heap.size A n (jN x)) (hy:iR w w.heap.size B m (jN y)) (wC:0<y) (hnc:n<=c) (JJ:c<=9223372036854775807) (hn:n<=35184372088832) (hm:m<=35184372088832) :
    Calls Tryz.prog 168 #[.slice A n c,.slice B m d] w (aSW x y w):=by
 have HX:=lH hx;have HY:=lH hy;have HXL:Hid (dK x=n):=lH hx.len;have HYL:Hid (dK y=m):=lH hy.len;have hm0:0<m:=by rw [<-HYL.o,jK (by omega)];omega
 clear hx hy;go_enter Tryz.func168,Tryz.ntmps168
 go_wp2_with fail
 refine (RH A n c B m d x y w HX.o HY.o (by omega) (by omega)).mono ?_;rintro e w1 ⟨⟨r,rfl,hr⟩,nq,rfl⟩;have I3:Below w.heap.size w (w.drewN nq):=bC bR nq;have bS:=lH I3;have cJ:=lH (HX.o.up I3);have HY1:=lH (HY.o.up I3);clear I3 HX HY;generalize w.drewN nq=v at *
 by_cases gL:r<0
 ·have tB:Hid (x<y):=lH (hr.1.1 gL)
  clear hr
  go_wp2_with fail
  go_ret2;exact ⟨bS.o,none,0,0,[],A,n,c,jN x,rfl,⟨zK _ _ _,aCk,by rw [Nat.div_eq_of_lt tB.o];rfl,lR,by decide⟩,⟨cJ.o,gH _,by rw [Nat.mod_eq_of_lt tB.o,d8],hnc,JJ⟩,by omega,by omega⟩
 ·have Y7:Hid (y<=x):=lH (Nat.le_of_not_lt fun h=>gL (hr.1.2 h))
  have yQ:0<=r:=by omega
  clear hr gL;obtain ⟨bb,bo,LB,pK⟩:=HY1.o.form hm0;subst LB
  by_cases JG:m=1
  ·subst JG
   have aLH:y<4294967296:=by
    have:=m9 y;rw [HYL.o] at this;exact this
   have HD0:Hid ((jN y).getD 0 0=y):=lH (by
    rw [nA (by omega),Nat.mod_eq_of_lt aLH];rfl)
   have hcb:=HY1.o.at_ (i:=0) (by omega);rw [HD0.o,Nat.add_zero] at hcb
   go_wp2_with fail
   refine (aJz A n c y (jN x) v cJ.o (gH _) hn wC aLH).mono ?_;rw [d8];rintro e w2 ⟨bL,g2,n2,l2,rfl,MY,hd2,kD,hn2,-⟩;have bW:=lH (bS.o.tm bL);have sC:=lH MY;have qY:=lH kD;have HD2:=lH hd2;have K3:x % y<4294967296:=Nat.lt_trans (Nat.mod_lt _ wC) aLH;obtain ⟨t,ht⟩:∃ t,x % y=t:=⟨_,rfl⟩;have HT:=lH ht;rw [ht] at K3 ⊢;have vG:=lH ((Below.refl w2.heap.size w2).alloc lR (.cells #[.int .u32 (t:Int)] 216));have fI:Hid (aG (w2.alloc (.cells #[.int .u32 (t:Int)] 216)) w2.heap.size 216 (bQ [t]).toArray):=lH (aG.new w2 _ _);clear bL MY kD hd2 ht hcb yQ
   go_wp2_with fail
   go_ret2;exact ⟨bW.o.tm vG.o,_,n2,n2,l2,_,1,1,[t],rfl,⟨sC.o.up vG.o,HD2.o,qY.o,lR,by omega⟩,⟨qD fI.o,fun z hz=>by rw [List.mem_singleton.1 hz];exact K3,by rw [HT.o];simp [wv],lR,by decide⟩,by omega,by omega⟩
  ·have sP:2<=m:=by omega
   have hmb:((m:Int) == 1)=false:=by simp;omega
   have HTP:Hid (0<(jN y).getD (m-1) 0/\(jN y).getD (m-1) 0<4294967296):=lH ⟨by
    have h:=(aHK y).2;have hl:(jN y).length=m:=HYL.o;rw [List.getLast?_eq_getElem?,hl,jA (by omega)] at h;rw [eY,jA (by omega)];simp only [Option.getD_some];refine Nat.pos_of_ne_zero fun e=>h (by rw [e])
    ,(gH y).getD _⟩
   have hcb:=HY1.o.at_ (i:=m-1) (by omega);obtain ⟨bt,hbt⟩:∃ t,(jN y).getD (m-1) 0=t:=⟨_,rfl⟩;have HBT:=lH hbt;rw [hbt] at hcb HTP;obtain ⟨EX,pW⟩:=HTP.o;have g1:(1:Int)<=(m:Int):=by omega
   have g4:((m:Int)-1).toNat=m-1:=by omega
   have g5:(m:Int)-1<(m:Int):=by omega
   have hmI:(m:Int)<=35184372088832:=by omega
   clear hbt
   go_wp2_with fail
   clear hcb;refine (aLC bt v EX pW).mono ?_;rintro e w2 ⟨⟨s,rfl,hs⟩,rfl⟩;have HS:=lH hs;have aH9:=hs.le;clear hs EX pW g1 g4 g5
   go_wp2_with fail
   have aQ_:Hid (iR v.drew v.drew.heap.size A n (jN x)):=lH cJ.o;have aQ4:Hid (iR v.drew v.drew.heap.size (some ⟨bb,bo,none⟩) m (jN y)):=lH HY1.o;have aUU:(m:Int)<=(m:Int)+1:=by omega
   refine aJ (S:=fun w'=>Below v.heap.size v w') 10 _ (by kernel_rfl) (by kernel_rfl) rfl (aD bR) (fun hHeld=>?_);simp only [lA,List.take_zero];refine aL 0 rfl ?_;refine aL 1 rfl ?_;refine aL 3 rfl ?_;refine aL 4 rfl ?_;refine aL 6 rfl ?_;refine aL 7 rfl ?_;refine aU 2 (by kernel_rfl) rfl (fun K hK=>?_);go_simp;refine (shW A n c s (jN x) v.drew aQ_.o (gH _) hn aH9).mono ?_;rw [d8];rintro e w3 ⟨cR,gu,us,rfl,hgu,hu,hud,huv,hul⟩;have dR:=lH ((aD (Below.refl v.heap.size v)).trans cR);have HU3:=lH hu;have HUP:Hid (Wd us/\wv us=x*2^s/\us.length=n+1):=lH ⟨hud,huv,hul⟩;have aVc:v.heap.size<=gu:=hgu;have HY3:=lH (aQ4.o.up cR);clear cR hu hud huv hul hgu;go_simp;refine hK.out _ _ ?_ (fun hHeld=>?_)
   ·exact dR.o
   clear hK K
   try simp only [Act.put,bP,bO,bN]
   refine aU 5 (by kernel_rfl) rfl (fun K hK=>?_);go_simp;refine (shW (some ⟨bb,bo,none⟩) m d s (jN y) w3 HY3.o (gH _) hm aH9).mono ?_;rw [d8];rintro e w4 ⟨dU,gv,vs,rfl,hgv,tY,hvd,hvv,hvl⟩;have bK:=lH (dR.o.tm dU);have RX:=lH tY;have HVP:Hid (Wd vs/\wv vs=y*2^s/\vs.length=m+1):=lH ⟨hvd,hvv,hvl⟩;have a2A:gu<gv:=jO HU3.o.lt hgv;have HU4:=lH (HU3.o.bl dU);clear dU tY hvd hvv hvl hgv;go_simp;refine hK.out _ _ ?_ (fun hHeld=>?_)
   ·exact bK.o
   clear hK K
   try simp only [Act.put,bP,bO,bN]
   refine aL 8 rfl ?_;refine aL 9 rfl ?_;refine wpAnyH_done (by kernel_rfl) ?_ _;refine aP (by rfl) ?_;go_simp;have hmn:m<=n:=by rw [<-HXL.o,<-HYL.o];exact jU Y7.o
   have HNV:Hid (wv (vs.take m)=y*2^s/\2147483648<=(vs.take m).getD (m-1) 0):=lH (by
    have hlz:=HS.o;have h:=aDr (n:=m) (by omega) (gH y) HYL.o HVP.o.1 HVP.o.2.2 (by rw [d8];exact HVP.o.2.1) (by rw [HBT.o];exact hlz.lo) (by rw [HBT.o];exact hlz.hi) hlz.le;rwa [d8] at h)
   obtain ⟨k,hk⟩:∃ k,n=k+m:=⟨n-m,by omega⟩;subst hk;have tK:∀ w:World,(Instr.makeSlice 111 (.int .i64 ((k:Int)+1)) (.int .i64 ((k:Int)+1))).run Tryz.prog w=.ok (.slice (some ⟨w.heap.size,0,none⟩) (k+1) (k+1)) (w.alloc (.cells (bQ (List.replicate (k+1) 0)).toArray 216)):=fun w=>pG (k+1) (by omega) w;have HKQ:=lH ((Below.refl w4.heap.size w4).alloc lR (.cells (bQ (List.replicate (k+1) 0)).toArray 216));have HQ0:=lH (aG.new w4 216 (bQ (List.replicate (k+1) 0)).toArray)
   go_wp2_with fail
   clear tK;obtain ⟨vm,hvm⟩:∃ l,vs.take m=l:=⟨_,rfl⟩;have HVM:=lH hvm;have OI:Hid (vm.length=m):=lH (by rw [<-hvm,jP,HVP.o.2.2];omega);have HVW:Hid (Wd vm):=lH (by rw [<-hvm];exact HVP.o.1.take m);have HVT:Hid (∀ i,i<m->vs.getD i 0=vm.getD i 0):=lH (fun i hi=>by
    rw [<-hvm,eY,eY,List.getElem?_take_of_lt hi])
   rw [hvm] at HNV;clear hvm;have JR:Hid (us.length=k+m+1):=lH HUP.o.2.2;have JS:Hid (IF (x*2^s) us vm (List.replicate (k+1) 0) m (k+1)):=lH (O2 (a:=jN x) (d8 x) (gH x) HXL.o (by omega) HUP.o.1 (o9 _) HUP.o.2.1 aH9 OI.o HNV.o.2 (rH _ _));have mZ:Hid (2147483648<=vm.getD (m-1) 0):=lH HNV.o.2;have dX:=lH (bK.o.tm HKQ.o);have HU5:=lH (HU4.o.bl HKQ.o);have ST:=lH (RX.o.bl HKQ.o);have a2z:gv<w4.heap.size:=RX.o.lt;have I2:v.heap.size<=gu:=aVc;have aVk:v.heap.size<=w4.heap.size:=by omega
   have hnv:gv≠gu:=by omega
   have hnq:w4.heap.size≠gu:=by omega
   have aUG:gv≠w4.heap.size:=by omega
   have aUH:gu≠w4.heap.size:=by omega
   generalize w4.alloc (.cells (bQ (List.replicate (k+1) 0)).toArray 216)=W at *;generalize w4.heap.size=gq at *;clear dR HU3 HY3 bK HU4 RX aQ_ aQ4 aUU HKQ;clear cJ HY1
   go_loopw [12] (fun v12 wr=>∃ (j:Nat) (us qs:List Nat),j<=k+1/\v12=.int .i64 ((j:Int)-1)/\Below v.heap.size v wr/\aG wr gv 216 (bQ vs).toArray/\aG wr gu 216 (bQ us).toArray/\us.length=k+m+1/\aG wr gq 216 (bQ qs).toArray/\qs.length=k+1/\IF (x*2^s) us vm qs m j) (fun v12 _=>(intOf v12+1).toNat)
   case atStart=>exact ⟨k+1,us,_,lR,aQ (by omega),dX.o,ST.o,HU5.o,JR.o,HQ0.o,by simp,JS.o⟩
   case round=>as_aux_lemma=>
    clear dX ST HU5 JR HQ0 JS HUP;obtain ⟨j,us,qs,hj,rfl,hb,hv,hu,hul,hq,hql,QC⟩:=hrel;have HB:=lH hb;have HV:=lH hv;have HU:=lH hu;have JR:=lH hul;have HQ:=lH hq;have mH:=lH hql;have gR:=lH QC;clear hb hv hu hul hq hql QC
    by_cases h0:j=0
    ·subst h0
     have e:(((0:Nat):Int)-1)=-1:=rfl;rw [e];clear e;have HDD:=lH (aE3 gR.o HNV.o.1 wC);have hyB:y<BB m:=by have:=m9 y;rwa [HYL.o] at this
     have HUZ:Hid (wv us / 2^s<BB m):=lH (Nat.lt_trans HDD.o.2.2 hyB);have HUW:Hid (Wd us):=lH gR.o.ud;have HQW:Hid (Wd qs):=lH gR.o.qd;have QH:∀ w:World,(Instr.makeSlice 111 (.int .i64 (m:Int)) (.int .i64 (m:Int))).run Tryz.prog w=.ok (.slice (some ⟨w.heap.size,0,none⟩) m m) (w.alloc (.cells (bQ (List.replicate m 0)).toArray 216)):=fun w=>pG m (by omega) w;have Y8:=lH ((Below.refl wr.heap.size wr).alloc lR (.cells (bQ (List.replicate m 0)).toArray 216));have CS:=lH (aG.new wr 216 (bQ (List.replicate m 0)).toArray);have fV:=lH (HB.o.tm Y8.o);have HU6:=lH (HU.o.bl Y8.o);have HQ6:=lH (HQ.o.bl Y8.o);have a2D:wr.heap.size≠gu:=by have:=HU.o.lt;omega
     have aVh:gu≠wr.heap.size:=by have:=HU.o.lt;omega
     have aVg:gq≠wr.heap.size:=by have:=HQ.o.lt;omega
     have aVf:v.heap.size<=wr.heap.size:=HB.o.size;clear gR
     go_wp2_with fail
     clear QH;generalize wr.alloc (.cells (bQ (List.replicate m 0)).toArray 216)=WR at *;generalize wr.heap.size=gr at *;clear HB HV HU HQ Y8
     go_loopw [250] (fun v250 wr=>∃ (z:Nat) (rs:List Nat),z<=m/\v250=.int .i64 z/\Below v.heap.size v wr/\aG wr gu 216 (bQ us).toArray/\aG wr gq 216 (bQ qs).toArray/\aG wr gr 216 (bQ rs).toArray/\rs.length=m/\Wd rs/\Zf rs z/\wv rs=wv us / 2^s % BB z) (fun v250 _=>m-(intOf v250).toNat)
     case atStart=>exact ⟨0,_,Nat.zero_le _,rfl,fV.o,HU6.o,HQ6.o,CS.o,by simp,o9 _,rH _ _,by rw [o5,wL,Nat.mod_one]⟩
     case round=>as_aux_lemma=>
      clear fV HU6 HQ6 CS;obtain ⟨z,rs,hz,rfl,hb,hu,hq,hr,rX,hrw,hrz,hrv⟩:=hrel;have HB:=lH hb;have HU:=lH hu;have HQ:=lH hq;have HR:=lH hr;have vE:=lH rX;have rE:=lH hrw;have HRZ:=lH hrz;have HRV:=lH hrv;have a2C:=hr.lt;have aAC:=hu.lt;have hfr:=hr.frozen;clear hb hu hq hr rX hrw hrz hrv
      by_cases hzm:z<m
      ·have JK:=cI HU.o (i:=z) (by rw [JR.o];omega)
       have VD:=cI HU.o (i:=z+1) (by rw [JR.o];omega);have hcr:=cI HR.o (i:=z) (by rw [vE.o];omega);have AD:=HUW.o.getD z;have bH:=HUW.o.getD (z+1);have HBS:=lH (VS HUW.o aH9 hzm (by rw [vE.o];omega) (by rw [JR.o];omega) HRZ.o HRV.o);obtain ⟨x0,OE⟩:∃ a,us.getD z 0=a:=⟨_,rfl⟩;obtain ⟨x1,yA⟩:∃ a,us.getD (z+1) 0=a:=⟨_,rfl⟩;obtain ⟨x2,xJ⟩:∃ a,rs.getD z 0=a:=⟨_,rfl⟩;rw [OE] at JK AD;rw [yA] at VD bH;rw [OE,yA] at HBS;rw [xJ] at hcr;have hor:bits BinOp.or IntKind.u64 ((x1:Int)*4294967296) (x0:Int)=((x1*4294967296+x0:Nat):Int):=zP x1 x0 32 (by omega) bH AD;have aLP:=HBS.o.1;have bW:=lH HBS.o.2;clear HBS OE yA xJ;generalize x1*4294967296+x0=sm at *;have eN:=lN z;have iL:Hid (m-(z+1)<m-z):=lH (by omega);have wJ:Hid ((sm:Int) / 2^s % 4294967296=((sm / 2^s % 4294967296:Nat):Int)):=lH (by
        rw [Int.natCast_emod,Int.natCast_ediv,Int.natCast_pow];rfl)
       have aW3:Hid ((rs.set z (sm / 2^s % 4294967296)).length=m):=lH (by rw [lF];exact vE.o);have aWZ:Hid (Wd (rs.set z (sm / 2^s % 4294967296))):=lH (rE.o.set _ (Nat.mod_lt _ (by decide)));have aWW:Hid (Zf (rs.set z (sm / 2^s % 4294967296)) (z+1)):=lH HRZ.o.put;have s1:(z:Int)<(m:Int):=by omega
       have s2:IntKind.i64.wrap ((z:Int)+1)=(z:Int)+1:=Go.IntWalk.i64_in _ (by omega);have s3:((z:Int)+1).toNat=z+1:=by omega
       have s4:(z:Int)+1<(k:Int)+(m:Int)+1:=by omega
       have s5:(0:Int)<=(z:Int)+1:=by omega
       have s6:(z:Int)<(k:Int)+(m:Int)+1:=by omega
       go_wp2_with fail
       refine aJ (S:=fun w'=>Below wr.heap.size wr w') 19 _ (by kernel_rfl) (by kernel_rfl) rfl (aD bR) (fun hHeld=>?_);simp only [lA,List.take_zero];refine aL 0 rfl ?_;refine aL 1 rfl ?_;refine aL 2 rfl ?_;refine aL 3 rfl ?_;refine aL 4 rfl ?_;refine aL 5 rfl ?_;refine aL 6 rfl ?_;refine aL 7 rfl ?_;refine aL 8 rfl ?_;refine aL 9 rfl ?_;refine aL 10 rfl ?_;refine aL 11 rfl ?_;refine aL 12 rfl ?_;refine aL 13 rfl ?_;refine aL 14 rfl ?_;refine aL 15 rfl ?_;refine aL 16 rfl ?_;refine aL 17 rfl ?_;refine aL 18 rfl ?_;refine wpAnyH_done (by kernel_rfl) ?_ _;refine aP (by rfl) ?_
       go_wp2_with fail
       clear s1 s2 s3 s4 s5 s6;go_roundw
       case rel=>exact ⟨z+1,rs.set z (sm / 2^s % 4294967296),hzm,aQ eN.o,aD (HB.o.setCell aVf _),(HU.o.far aVh _).drew,(HQ.o.far aVg _).drew,(eM HR.o wJ.o).drew,aW3.o,aWZ.o,aWW.o,bW.o⟩
       case measure=>exact iL.o
      ·have hze:z=m:=by omega
       subst hze;have mZ:Hid (wv rs=x % y):=lH (by rw [HRV.o,Nat.mod_eq_of_lt HUZ.o];exact HDD.o.2.1)
       go_wp2_with fail
       go_ret2;exact ⟨bS.o.tm HB.o,_,k+1,k+1,qs,_,z,z,rs,rfl,⟨by have:=qD HQ.o;rwa [mH.o] at this,HQW.o,HDD.o.1,lR,by omega⟩,⟨by have:=qD HR.o;rwa [vE.o] at this,rE.o,mZ.o,lR,by omega⟩,by omega,by omega⟩
    ·obtain ⟨i,rfl⟩:∃ i,j=i+1:=⟨j-1,by omega⟩
     have e:(((i+1:Nat):Int)-1)=(i:Int):=by omega
     rw [e];clear e h0;have SY:Hid (gG us vm m i):=lH (aCE gR.o sP OI.o HVW.o mZ.o (by rw [JR.o];omega));obtain ⟨u1,hu1⟩:∃ t,us.getD (i+m) 0=t:=⟨_,rfl⟩;obtain ⟨u0,hu0⟩:∃ t,us.getD (i+m-1) 0=t:=⟨_,rfl⟩;obtain ⟨u2,hu2⟩:∃ t,us.getD (i+m-2) 0=t:=⟨_,rfl⟩;obtain ⟨v1,mJ⟩:∃ t,vm.getD (m-1) 0=t:=⟨_,rfl⟩;obtain ⟨v2,kD⟩:∃ t,vm.getD (m-2) 0=t:=⟨_,rfl⟩;have aQm:=cI HU.o (i:=i+m) (by rw [JR.o];omega);have aQn:=cI HU.o (i:=i+m-1) (by rw [JR.o];omega);have aEz:=cI HV.o (i:=m-1) (by rw [HVP.o.2.2];omega);have aMq:=SY.o.ud.getD (i+m);have aMr:=SY.o.ud.getD (i+m-1);have aQp:=SY.o.ud.getD (i+m-2);have aVJ:=HVW.o.getD (m-1);have aVI:=HVW.o.getD (m-2);have aUW:=mZ.o;rw [HVT.o _ (by omega),mJ] at aEz;rw [hu1] at aQm aMq;rw [hu0] at aQn aMr;rw [hu2] at aQp;rw [mJ] at aVJ aUW;rw [kD] at aVI
     have HTP:Hid (gG.tp us m i=u1*4294967296+u0):=lH (by unfold gG.tp;rw [hu1,hu0]);have HU2:=lH hu2;have aBe:=lH mJ;have aMS:=lH kD;clear hu1 hu0 hu2 mJ kD;have s1:IntKind.i64.wrap ((i:Int)+(m:Int))=(i:Int)+(m:Int):=Go.IntWalk.i64_in _ (by omega);have s2:IntKind.i64.wrap ((i:Int)+(m:Int)-1)=(i:Int)+(m:Int)-1:=Go.IntWalk.i64_in _ (by omega);have s3:((i:Int)+(m:Int)).toNat=i+m:=by omega
     have s4:((i:Int)+(m:Int)-1).toNat=i+m-1:=by omega
     have s5:(i:Int)+(m:Int)<(k:Int)+(m:Int)+1:=by omega
     have s6:(i:Int)+(m:Int)-1<(k:Int)+(m:Int)+1:=by omega
     have s7:(0:Int)<=(i:Int)+(m:Int):=by omega
     have s8:(0:Int)<=(i:Int)+(m:Int)-1:=by omega
     have s9:(1:Int)<=(i:Int)+(m:Int):=by omega
     have hor:bits BinOp.or IntKind.u64 ((u1:Int)*4294967296) (u0:Int)=((u1*4294967296+u0:Nat):Int):=zP u1 u0 32 (by omega) aMq aMr;have aAC:gu<wr.heap.size:=HU.o.lt;have aAB:gv<wr.heap.size:=HV.o.lt
     go_wp2_with fail
     go_cut [13] (fun v13 wc=>v13=.int .u64 ((u1*4294967296+u0:Nat):Int)/\∃ nq,wc=wr.drewN nq)
     case first=>
      go_quiet (fail)
      go_wp2_with fail
      go_meet
      case rel=>exact ⟨rfl,_,rfl⟩
     obtain ⟨rfl,nq1,rfl⟩:=hcut;have aQl:(wr.drewN nq1).cell? ⟨gv,m-1,none⟩=some (.int .u32 (v1:Int)):=aEz;have aP7:gv<(wr.drewN nq1).heap.size:=aAB;clear aEz aAB aAC;have HBx:=lH (bC HB.o nq1);have HVx:=lH (HV.o.drewN nq1);have HUx:=lH (HU.o.drewN nq1);have HQx:=lH (HQ.o.drewN nq1);clear HB HV HU HQ;have HB:=HBx;have HV:=HVx;have HU:=HUx;have HQ:=HQx;clear HBx HVx HUx HQx;generalize wr.drewN nq1=wa at *;have tB:=lH (gG.top_lt SY.o);rw [HTP.o,aBe.o] at tB;have UT:u1*4294967296+u0<18446744073709551616:=by omega
     generalize u1*4294967296+u0=tp at *;clear aQm aQn s1 s2 s3 s4 s5 s6 s7 s8 s9 hor aMq aMr;have aF5:=lH (QS SY.o);rw [HTP.o,aBe.o] at aF5;have htd:=OS tp v1;have htm:=OR tp v1;have hqb:tp / v1<=tp:=Nat.div_le_self _ _;have zW:tp % v1<v1:=Nat.mod_lt _ (by omega);generalize hg0:tp / v1=g0 at *;generalize gL:tp % v1=r0 at *;have hwq:IntKind.u64.wrap (g0:Int)=(g0:Int):=Go.IntWalk.u64_in _ (by omega);have aLK:((v1:Int) == 0)=false:=by simp;omega
     have s1:IntKind.i64.wrap ((m:Int)-1)=(m:Int)-1:=Go.IntWalk.i64_in _ (by omega);have s2:((m:Int)-1).toNat=m-1:=by omega
     have s3:(m:Int)-1<(m:Int):=by omega
     have s4:(1:Int)<=(m:Int):=by omega
     clear hg0 gL
     go_wp2_with fail
     go_cut [14,15] (fun v14 v15 wc=>v14=.int .u64 (g0:Int)/\v15=.int .u64 (r0:Int)/\∃ nq,wc=wa.drewN nq)
     case first=>
      go_quiet (fail)
      go_wp2_with fail
      go_meet
      case rel=>exact ⟨rfl,rfl,_,rfl⟩
     obtain ⟨rfl,rfl,nq2,rfl⟩:=hcut;clear aQl aP7;have HBx:=lH (bC HB.o nq2);have HVx:=lH (HV.o.drewN nq2);have HUx:=lH (HU.o.drewN nq2);have HQx:=lH (HQ.o.drewN nq2);clear HB HV HU HQ;have HB:=HBx;have HV:=HVx;have HU:=HUx;have HQ:=HQx;clear HBx HVx HUx HQx;generalize wa.drewN nq2=wb at *;clear htd htm hwq aLK s1 s2 s3 s4 hqb;have aEw:g0<18446744073709551616:=by
      have h:=aF5.o.eq;rw [aBe.o,HTP.o] at h;have:g0*1<=g0*v1:=Nat.mul_le_mul_left _ (by omega);omega
     have aD9:r0<4294967296:=by omega
     clear zW UT
     go_upto_block 2 with fail
     go_cut [14] (fun v14 wc=>∃ g:Nat,v14=.int .u64 (g:Int)/\wK us vm i g/\∃ nq,wc=wb.drewN nq)
     case first=>
      go_wp2_with fail
      go_loopw [14,15] (fun v14 v15 wr=>∃ g rest:Nat,v14=.int .u64 (g:Int)/\v15=.int .u64 (rest:Int)/\g<18446744073709551616/\rest<4294967296/\SG us vm m i g rest/\∃ nq,wr=wb.drewN nq) (fun _ v15 _=>4294967296-(intOf v15).toNat)
      case atStart=>exact ⟨g0,r0,rfl,rfl,aEw,aD9,aF5.o,0,rfl⟩
      case round=>as_aux_lemma=>
       clear aF5 aEw aD9;obtain ⟨g,rest,rfl,rfl,a2G,aLV,hG,nq3,rfl⟩:=hrel;have HG:=lH hG;clear hG;have aVB:=cI HU.o (i:=i+m-2) (by rw [JR.o];omega);have aEz:=cI HV.o (i:=m-1) (by rw [HVP.o.2.2];omega);have aMn:=cI HV.o (i:=m-2) (by rw [HVP.o.2.2];omega);rw [HVT.o _ (by omega),aBe.o] at aEz;rw [HVT.o _ (by omega),aMS.o] at aMn;rw [HU2.o] at aVB;have aAC:=HU.o.lt;have aAB:=HV.o.lt;have s1:IntKind.i64.wrap ((m:Int)-1)=(m:Int)-1:=Go.IntWalk.i64_in _ (by omega);have s2:((m:Int)-1).toNat=m-1:=by omega
       have s3:(m:Int)-1<(m:Int):=by omega
       have s4:(1:Int)<=(m:Int):=by omega
       have s5:IntKind.i64.wrap ((m:Int)-2)=(m:Int)-2:=Go.IntWalk.i64_in _ (by omega);have s6:((m:Int)-2).toNat=m-2:=by omega
       have s7:(m:Int)-2<(m:Int):=by omega
       have s8:(2:Int)<=(m:Int):=by omega
       have s9:IntKind.i64.wrap ((i:Int)+(m:Int))=(i:Int)+(m:Int):=Go.IntWalk.i64_in _ (by omega);have s10:IntKind.i64.wrap ((i:Int)+(m:Int)-2)=(i:Int)+(m:Int)-2:=Go.IntWalk.i64_in _ (by omega);have s11:((i:Int)+(m:Int)-2).toNat=i+m-2:=by omega
       have s12:(i:Int)+(m:Int)-2<(k:Int)+(m:Int)+1:=by omega
       have s13:(0:Int)<=(i:Int)+(m:Int)-2:=by omega
       have s14:(2:Int)<=(i:Int)+(m:Int):=by omega
       by_cases aAI:4294967296<=g
       ·have ta:decide ((4294967296:Int)<=(g:Int))=true:=by simp;omega
        have ta2:(4294967296:Int)<=(g:Int):=by omega
        have HBG:=lH aAI;clear aAI;have hdn:=GT SY.o HG.o (.inl HBG.o);obtain ⟨hg1,U8⟩:=hdn;have eN:Hid ((g:Int)-1=((g-1:Nat):Int)):=lH (by omega);have iL:Hid ((rest:Int)+(v1:Int)=((rest+v1:Nat):Int)):=lH (by omega);have wJ:Hid (g-1<18446744073709551616):=lH (by omega);rw [aBe.o] at U8;have fI:=lH U8;have HGE:=lH (fun h=>CI SY.o fI.o (.inr h));have hw:IntKind.u64.wrap ((g:Int)-1)=(g:Int)-1:=Go.IntWalk.u64_in _ (by omega);have hgI:(1:Int)<=(g:Int):=by omega
        clear U8
        by_cases hbr:4294967296<=rest+v1
        ·have b1:decide ((4294967296:Int)<=(rest:Int)+(v1:Int))=true:=by simp;omega
         have b2:(4294967296:Int)<=(rest:Int)+(v1:Int):=by omega
         have qS:=lH hbr;clear hbr
         go_wp2_with fail
         go_quiet (fail)
         go_wp2_with fail
         clear s1 s2 s3 s4 s5 s6 s7 s8 s9 s10 s11 s12 s13 s14;go_meet
         case rel=>exact ⟨g-1,aQ eN.o,HGE.o qS.o,_,by first | rfl | exact World.drewN_drewN _ _ _⟩
        ·have b1:decide ((4294967296:Int)<=(rest:Int)+(v1:Int))=false:=by simp;omega
         have b2:¬(4294967296:Int)<=(rest:Int)+(v1:Int):=by omega
         have m6:Hid (rest+v1<4294967296):=lH (by omega);have L0:Hid (4294967296-(rest+v1)<4294967296-rest):=lH (by omega)
         go_wp2_with fail
         go_quiet (fail)
         go_wp2_with fail
         clear s1 s2 s3 s4 s5 s6 s7 s8 s9 s10 s11 s12 s13 s14;go_roundw
         case rel=>exact ⟨g-1,rest+v1,aQ eN.o,aQ iL.o,wJ.o,m6.o,fI.o,_,by first | rfl | exact World.drewN_drewN _ _ _⟩
         case measure=>simp [intOf];omega
       ·have ta:decide ((4294967296:Int)<=(g:Int))=false:=by simp;omega
        have ta2:¬(4294967296:Int)<=(g:Int):=by omega
        have QK:g<4294967296:=by omega
        have hpr:g*v2<=4294967295*4294967295:=Nat.mul_le_mul (by omega) (by omega);have aEh:IntKind.u64.wrap ((g:Int)*(v2:Int))=((g*v2:Nat):Int):=by rw [<-Int.natCast_mul];exact Go.IntWalk.u64_in _ (by omega)
        have hor:bits BinOp.or IntKind.u64 ((rest:Int)*4294967296) (u2:Int)=((rest*4294967296+u2:Nat):Int):=zP rest u2 32 (by omega) aLV aQp;obtain ⟨pr,aLZ⟩:∃ p,g*v2=p:=⟨_,rfl⟩;obtain ⟨sm,hsm⟩:∃ p,rest*4294967296+u2=p:=⟨_,rfl⟩;have R2:=lH aLZ;have HSM:=lH hsm;rw [aLZ] at aEh;rw [hsm] at hor;clear hpr aLZ hsm aAI
        by_cases U_:sm<pr
        ·have tb:decide (sm<pr)=true:=by simpa using U_
         have HCM:Hid (rest*4294967296+us.getD (i+m-2) 0<g*vm.getD (m-2) 0):=lH (by rw [HU2.o,aMS.o,R2.o,HSM.o];exact U_);clear U_;have hdn:=GT SY.o HG.o (.inr HCM.o);obtain ⟨hg1,U8⟩:=hdn;have eN:Hid ((g:Int)-1=((g-1:Nat):Int)):=lH (by omega);have iL:Hid ((rest:Int)+(v1:Int)=((rest+v1:Nat):Int)):=lH (by omega);have wJ:Hid (g-1<18446744073709551616):=lH (by omega);rw [aBe.o] at U8;have fI:=lH U8;have HGE:=lH (fun h=>CI SY.o fI.o (.inr h));have hw:IntKind.u64.wrap ((g:Int)-1)=(g:Int)-1:=Go.IntWalk.u64_in _ (by omega);have hgI:(1:Int)<=(g:Int):=by omega
         clear U8
         by_cases hbr:4294967296<=rest+v1
         ·have b1:decide ((4294967296:Int)<=(rest:Int)+(v1:Int))=true:=by simp;omega
          have b2:(4294967296:Int)<=(rest:Int)+(v1:Int):=by omega
          have qS:=lH hbr;clear hbr
          go_wp2_with fail
          go_quiet (fail)
          go_wp2_with fail
          clear s1 s2 s3 s4 s5 s6 s7 s8 s9 s10 s11 s12 s13 s14;go_meet
          case rel=>exact ⟨g-1,aQ eN.o,HGE.o qS.o,_,by first | rfl | exact World.drewN_drewN _ _ _⟩
         ·have b1:decide ((4294967296:Int)<=(rest:Int)+(v1:Int))=false:=by simp;omega
          have b2:¬(4294967296:Int)<=(rest:Int)+(v1:Int):=by omega
          have m6:Hid (rest+v1<4294967296):=lH (by omega);have L0:Hid (4294967296-(rest+v1)<4294967296-rest):=lH (by omega)
          go_wp2_with fail
          go_quiet (fail)
          go_wp2_with fail
          clear s1 s2 s3 s4 s5 s6 s7 s8 s9 s10 s11 s12 s13 s14;go_roundw
          case rel=>exact ⟨g-1,rest+v1,aQ eN.o,aQ iL.o,wJ.o,m6.o,fI.o,_,by first | rfl | exact World.drewN_drewN _ _ _⟩
          case measure=>simp [intOf];omega
        ·have tb:decide (sm<pr)=false:=by simpa using U_
         have HGE:=lH (CI SY.o HG.o (.inl ⟨QK,by rw [HU2.o,aMS.o,R2.o,HSM.o];omega⟩));clear U_
         go_wp2_with fail
         go_quiet (fail)
         go_wp2_with fail
         clear s1 s2 s3 s4 s5 s6 s7 s8 s9 s10 s11 s12 s13 s14;go_meet
         case rel=>exact ⟨g,rfl,HGE.o,_,by first | rfl | exact World.drewN_drewN _ _ _⟩
     obtain ⟨g,rfl,hGO,nq3,rfl⟩:=hcut;have jB:=lH hGO;have QK:g<4294967296:=hGO.lt;clear hGO aF5 aEw aD9;have HBx:=lH (bC HB.o nq3);have HVx:=lH (HV.o.drewN nq3);have HUx:=lH (HU.o.drewN nq3);have HQx:=lH (HQ.o.drewN nq3);clear HB HV HU HQ;have HB:=HBx;have HV:=HVx;have HU:=HUx;have HQ:=HQx;clear HBx HVx HUx HQx;generalize wb.drewN nq3=wd at *;have R5:=lH (UF (g:=g) SY.o)
     go_wp2_with fail
     go_loopw [16,17,143] (fun v16 v17 v143 wr=>∃ (t:Nat) (bo:Int) (ca:Nat) (ux:List Nat),t<=m/\v143=.int .i64 t/\v16=.int .i64 bo/\v17=.int .u64 (ca:Int)/\Below v.heap.size v wr/\aG wr gv 216 (bQ vs).toArray/\aG wr gu 216 (bQ ux).toArray/\aG wr gq 216 (bQ qs).toArray/\aA_ us ux vm m i t g bo ca) (fun _ _ v143 _=>m-(intOf v143).toNat)
     case atStart=>exact ⟨0,0,0,us,by omega,rfl,rfl,rfl,HB.o,HV.o,HU.o,HQ.o,R5.o⟩
     case round=>as_aux_lemma=>
      clear HB HV HU HQ R5;obtain ⟨t,bo,ca,ux,ht,rfl,rfl,rfl,hb,hv,hu,hq,hms⟩:=hrel;have HB:=lH hb;have HV:=lH hv;have HU:=lH hu;have HQ:=lH hq;have R5:=lH hms;have a2U:=hms.b1;have a2T:=hms.b2;have VC:=hms.c1;have hfu:=hu.frozen;have aAC:=hu.lt;have aAB:=hv.lt;have HUX:Hid (ux.length=k+m+1):=lH (by rw [hms.ul];exact JR.o);clear hb hv hu hq hms
      by_cases htm:t<m
      ·have hcu:=cI HU.o (i:=i+t) (by rw [HUX.o];omega)
       have U9:=cI HV.o (i:=t) (by rw [HVP.o.2.2];omega);have M6:=R5.o.ud.getD (i+t);have QN:=HVW.o.getD t;have aI1:=lH (aAg HVW.o OI.o (by rw [HUX.o];omega) QK htm R5.o);obtain ⟨xv,hxv⟩:∃ z,vm.getD t 0=z:=⟨_,rfl⟩;obtain ⟨xu,hxu⟩:∃ z,ux.getD (i+t) 0=z:=⟨_,rfl⟩;rw [HVT.o _ htm,hxv] at U9;rw [hxu] at hcu M6;rw [hxv] at QN;rw [hxv,hxu] at aI1;clear hxv hxu;have hpr:g*xv<=4294967295*4294967295:=Nat.mul_le_mul (by omega) (by omega);have aEh:IntKind.u64.wrap ((g:Int)*(xv:Int))=((g*xv:Nat):Int):=by rw [<-Int.natCast_mul];exact Go.IntWalk.u64_in _ (by omega)
       have aLP:=aI1.o.1;have HMN:=lH aI1.o.2;clear aI1;generalize g*xv=pr at *;have aUr:(ca:Int)+(pr:Int)=((ca+pr:Nat):Int):=(Int.natCast_add _ _).symm;have a2Y:bits BinOp.and IntKind.u64 ((ca+pr:Nat):Int) 4294967295=(((ca+pr) % 4294967296:Nat):Int):=aFs _ aLP;have hdv:((ca+pr:Nat):Int) / 4294967296=(((ca+pr) / 4294967296:Nat):Int):=by omega
       have hlo:(ca+pr) % 4294967296<4294967296:=Nat.mod_lt _ (by decide);have hhi:(ca+pr) / 4294967296<4294967296:=by omega
       have mU:ca+pr<18446744073709551616:=aLP;generalize (ca+pr) % 4294967296=lo at *;generalize (ca+pr) / 4294967296=hi at *;generalize ca+pr=sm at *;have eN:Hid (bo+((xu:Int)-(lo:Int))=bo+(xu:Int)-(lo:Int)):=lH (by omega);have iL:=lN t;have wJ:Hid (m-(t+1)<m-t):=lH (by omega);have m6:Hid (t+1<=m):=lH htm;have L0:Hid ((bo+((xu:Int)-(lo:Int))) % 4294967296=(((bo+(xu:Int)-(lo:Int)) % 4294967296).toNat:Int)):=lH (by omega);have s1:(t:Int)<(m:Int):=by omega
       have s2:IntKind.i64.wrap ((t:Int)+(i:Int))=(t:Int)+(i:Int):=Go.IntWalk.i64_in _ (by omega);have s3:((t:Int)+(i:Int)).toNat=i+t:=by omega
       have s4:(t:Int)+(i:Int)<(k:Int)+(m:Int)+1:=by omega
       have s5:(0:Int)<=(t:Int)+(i:Int):=by omega
       go_wp2_with fail
       clear s1 s2 s3 s4 s5;go_roundw
       case rel=>exact ⟨t+1,_,hi,_,m6.o,aQ iL.o,aQ (by rw [eN.o]),rfl,HB.o.setCell I2 _,HV.o.far hnv _,eM HU.o L0.o,HQ.o.far hnq _,HMN.o⟩
       case measure=>exact wJ.o
      ·have hte:t=m:=by omega
       subst hte;have hcu:=cI HU.o (i:=i+t) (by rw [HUX.o];omega);have M6:=R5.o.ud.getD (i+t);have HME:=lH (aDz SY.o jB.o R5.o);obtain ⟨xu,hxu⟩:∃ z,ux.getD (i+t) 0=z:=⟨_,rfl⟩;rw [hxu] at hcu M6 HME;clear hxu;obtain ⟨bot,aQq⟩:∃ z:Int,bo+(xu:Int)-(ca:Int)=z:=⟨_,rfl⟩;rw [aQq] at HME;have HBO:Hid (bo+((xu:Int)-(ca:Int))=bot):=lH (by omega);have aVO:-4294967296<=bot:=by omega
       have a2V:bot<4294967296:=by omega
       have aVM:bo+((xu:Int)-(ca:Int))=bot:=HBO.o;clear aQq;have s2:IntKind.i64.wrap ((i:Int)+(t:Int))=(i:Int)+(t:Int):=Go.IntWalk.i64_in _ (by omega);have s3:((i:Int)+(t:Int)).toNat=i+t:=by omega
       have s4:(i:Int)+(t:Int)<(k:Int)+(t:Int)+1:=by omega
       have s5:(0:Int)<=(i:Int)+(t:Int):=by omega
       go_upto_if 200 with fail
       clear s2 s3 s4 s5 hcu hfu aAC aAB aVM
       go_cut [14] (fun v14 wc=>∃ (g2:Nat) (uy:List Nat),v14=.int .u64 (g2:Int)/\Below v.heap.size v wc/\aG wc gv 216 (bQ vs).toArray/\aG wc gu 216 (bQ uy).toArray/\aG wc gq 216 (bQ qs).toArray/\uy.length=k+t+1/\Wd uy/\wv uy+g2*(wv vm*BB i)=wv us/\wv us<(g2+1)*(wv vm*BB i)/\g2<4294967296)
       case first=>
        by_cases zX:0<=bot
        ·obtain ⟨e1,e2⟩:=HME.o.1 zX
         have NU:Hid (bot % 4294967296=(bot.toNat:Int)):=lH (by omega);have JQ:Hid (Wd (ux.set (i+t) bot.toNat)):=lH (R5.o.ud.set _ (by omega));have OL:Hid ((ux.set (i+t) bot.toNat).length=k+t+1):=lH (by rw [lF];exact HUX.o);have HE2:=lH e2;clear e1 e2
         go_wp2_with fail
         go_meet
         case rel=>exact ⟨g,_,rfl,HB.o.setCell I2 _,HV.o.far hnv _,eM HU.o NU.o,HQ.o.far hnq _,OL.o,JQ.o,HE2.o,jB.o.up,jB.o.lt⟩
        ·obtain ⟨e1,e2,e3⟩:=HME.o.2 (by omega)
         have aPL:bot<0:=by omega
         obtain ⟨nw1,nw2⟩:=aDs aVO aPL;obtain ⟨nw,hnw⟩:∃ z,(bot+4294967296).toNat=z:=⟨_,rfl⟩;rw [hnw] at nw1 nw2 e2;have NU:=lH nw1;have E8:=lH (VR R5.o nw2);clear nw1 nw2 hnw HME;have OL:Hid ((ux.set (i+t) nw).length=us.length):=lH (by rw [lF,HUX.o,JR.o]);have HE2:=lH e2;have HE3:=lH e3;have hg1:1<=g:=JE e3;clear e1 e2 e3 zX;have hgI:(1:Int)<=(g:Int):=Int.ofNat_le.2 hg1;have N0:Hid ((g:Int)-1=((g-1:Nat):Int)):=lH (Int.ofNat_sub hg1).symm;have tW:Hid (g-1<4294967296):=lH (WT (Nat.sub_le _ _) QK);have aMW:=lH (eM (i:=i+t) HU.o NU.o);have aSJ:=lH (HB.o.setCell (p:=⟨gu,i+t,none⟩) I2 (.int .u32 (bot % 4294967296)));have aRl:=lH (HV.o.far (p:=⟨gu,i+t,none⟩) hnv (.int .u32 (bot % 4294967296)));have AO:=lH (HQ.o.far (p:=⟨gu,i+t,none⟩) hnq (.int .u32 (bot % 4294967296)))
         have hw:IntKind.u64.wrap ((g:Int)-1)=(g:Int)-1:=aCn hg1 QK;clear HB HV HU HQ R5 HUX;obtain ⟨uz,huz⟩:∃ l,ux.set (i+t) nw=l:=⟨_,rfl⟩;rw [huz] at E8 OL HE2 aMW;clear huz NU;generalize bot % 4294967296=bm at *;generalize wr.setCell ⟨gu,i+t,none⟩ (.int .u32 bm)=wz at *
         go_wp2_with fail
         clear hw
         go_loopw [19,204] (fun v19 v204 wr=>∃ (z cc:Nat) (uy:List Nat),z<=t/\v204=.int .i64 z/\v19=.int .u64 (cc:Int)/\Below v.heap.size v wr/\aG wr gv 216 (bQ vs).toArray/\aG wr gu 216 (bQ uy).toArray/\aG wr gq 216 (bQ qs).toArray/\aBE uz uy vm t i z cc) (fun _ v204 _=>t-(intOf v204).toNat)
         case atStart=>exact ⟨0,0,uz,Nat.zero_le _,rfl,rfl,aSJ.o,aRl.o,aMW.o,AO.o,E8.o⟩
         case round=>as_aux_lemma=>
          clear aSJ aRl aMW AO E8;obtain ⟨z,cc,uy,hz,rfl,rfl,hb,hv,hu,hq,I4⟩:=hrel;have HB:=lH hb;have HV:=lH hv;have HU:=lH hu;have HQ:=lH hq;have E8:=lH I4;have OG:=I4.c1;have hfu:=hu.frozen;have aAC:=hu.lt;have aAB:=hv.lt;have HUY:Hid (uy.length=k+t+1):=lH (by rw [I4.ul,OL.o,JR.o]);clear hb hv hu hq I4
          by_cases hzt:z<t
          ·have hcu:=cI HU.o (i:=i+z) (by rw [HUY.o];omega)
           have U9:=cI HV.o (i:=z) (by rw [HVP.o.2.2];omega);have M6:=E8.o.ud.getD (i+z);have QN:=HVW.o.getD z;have l_:=lH (aA6 HVW.o (by rw [HUY.o];omega) hzt E8.o);obtain ⟨xv,hxv⟩:∃ a,vm.getD z 0=a:=⟨_,rfl⟩;obtain ⟨xw,hxw⟩:∃ a,uy.getD (i+z) 0=a:=⟨_,rfl⟩;rw [HVT.o _ hzt,hxv] at U9;rw [hxw] at hcu M6;rw [hxv] at QN;rw [hxv,hxw] at l_;clear hxv hxw;have eN:=lN z;have iL:Hid (t-(z+1)<t-z):=lH (by omega);have wJ:Hid (((cc:Int)+((xw:Int)+(xv:Int))) / 4294967296=(((cc+xw+xv) / 4294967296:Nat):Int)):=lH (by omega);have m6:Hid (((cc:Int)+((xw:Int)+(xv:Int))) % 4294967296=(((cc+xw+xv) % 4294967296:Nat):Int)):=lH (by omega);have s1:(z:Int)<(t:Int):=by omega
           have s2:IntKind.i64.wrap ((z:Int)+(i:Int))=(z:Int)+(i:Int):=Go.IntWalk.i64_in _ (by omega);have s3:((z:Int)+(i:Int)).toNat=i+z:=by omega
           have s4:(z:Int)+(i:Int)<(k:Int)+(t:Int)+1:=by omega
           have s5:(0:Int)<=(z:Int)+(i:Int):=by omega
           have aPg:IntKind.u64.wrap ((xw:Int)+(xv:Int))=(xw:Int)+(xv:Int):=Go.IntWalk.u64_in _ (by omega);have aPf:IntKind.u64.wrap ((cc:Int)+((xw:Int)+(xv:Int)))=(cc:Int)+((xw:Int)+(xv:Int)):=Go.IntWalk.u64_in _ (by omega)
           go_wp2_with fail
           go_quiet (fail)
           go_wp2_with fail
           clear s1 s2 s3 s4 s5 aPg aPf;go_roundw
           case rel=>exact ⟨z+1,_,_,hzt,aQ eN.o,aQ wJ.o,bC (HB.o.setCell I2 _) _,(HV.o.far hnv _).drewN _,(eM HU.o m6.o).drewN _,(HQ.o.far hnq _).drewN _,l_.o⟩
           case measure=>exact iL.o
          ·have hze:z=t:=by omega
           subst hze;have hcu:=cI HU.o (i:=i+z) (by rw [HUY.o];omega);have M6:=E8.o.ud.getD (i+z);obtain ⟨xw,hxw⟩:∃ a,uy.getD (i+z) 0=a:=⟨_,rfl⟩;have HBE:=lH (aFq SY.o jB.o OL.o HE2.o HE3.o E8.o hxw HUY.o);rw [hxw] at hcu M6;clear hxw;have m6:=lH (aA2 xw cc);have s2:IntKind.i64.wrap ((i:Int)+(z:Int))=(i:Int)+(z:Int):=Go.IntWalk.i64_in _ (by omega);have s3:((i:Int)+(z:Int)).toNat=i+z:=by omega
           have s4:(i:Int)+(z:Int)<(k:Int)+(z:Int)+1:=by omega
           have s5:(0:Int)<=(i:Int)+(z:Int):=by omega
           have aVG:(cc:Int) % 4294967296=(cc:Int):=by omega
           have hw2:IntKind.u32.wrap ((xw:Int)+(cc:Int))=((xw:Int)+(cc:Int)) % 4294967296:=aCo _
           go_wp2_with fail
           clear s2 s3 s4 s5 aVG hw2;go_meet
           case rel=>exact ⟨g-1,_,aQ N0.o,HB.o.setCell I2 _,HV.o.far hnv _,eM HU.o m6.o,HQ.o.far hnq _,HBE.o.1.1,HBE.o.1.2,HBE.o.2.1,HBE.o.2.2,tW.o⟩
       clear HB HV HU HQ R5 HUX HME jB QK;obtain ⟨g2,uy,rfl,hb,hv,hu,hq,aPb,aPa,GO,aW,QK⟩:=hcut;have HB:=lH hb;have HV:=lH hv;have HU:=lH hu;have HQ:=lH hq;have aWF:=lH aPb;have aXk:=lH (TF gR.o (by rw [mH.o];omega) aPa QK GO aW);have aXb:Hid ((qs.set i g2).length=k+1):=lH (by rw [lF];exact mH.o);have hfq:=hq.frozen;have a2E:=hq.lt;have hcq:=cI hq (i:=i) (by rw [mH.o];omega);obtain ⟨zq,hzq⟩:∃ a,qs.getD i 0=a:=⟨_,rfl⟩;rw [hzq] at hcq;have eN:Hid (i<=k+1):=lH (by omega);have iL:Hid ((intOf (Value.int .i64 ((i:Int)-1))+1).toNat<(intOf (Value.int .i64 (i:Int))+1).toNat):=lH (by simp [intOf]);have aP6:(i:Int)<(k:Int)+1:=by omega
       have hgm:(g2:Int) % 4294967296=(g2:Int):=by omega
       clear hb hv hu hq aPb aPa GO aW hzq
       go_wp2_with fail
       go_roundw
       case rel=>exact ⟨i,uy,qs.set i g2,eN.o,rfl,HB.o.setCell aVk _,HV.o.far aUG _,HU.o.far aUH _,aWF.o,eM HQ.o rfl,aXb.o,aXk.o⟩
       case measure=>exact iL.o
def SlQ (l:List Nat):Value->World->Prop:=fun v w=>∃ A n c,v=.slice A n c/\iR w w.heap.size A n l/\n<=c/\c<=9223372036854775807
theorem SlQ.up {l:List Nat} {v:Value} {w w':Wo} (h:SlQ l v w) (hb:Below w.heap.size w w'):SlQ l v w':=by
 obtain ⟨A,n,c,e,h1,h2⟩:=h;exact ⟨A,n,c,e,h1.up hb,h2⟩
def LgQ (z:Int):Value->World->Prop:=fun v w=>∃ b A n c,v=.agg #[.bool b,.slice A n c]/\cG w w.heap.size z b A n c
theorem LgQ.up {z:Int} {v:Value} {w w':Wo} (h:LgQ z v w) (hb:Below w.heap.size w w'):LgQ z v w':=by
 obtain ⟨b,A,n,c,e,h1⟩:=h;exact ⟨b,A,n,c,e,h1.up hb⟩
def IG (B:Nat) (T:TypeId) (cs:Array Value):Value->World->Prop:=fun v w=>∃ g,v=.pointer (some ⟨g,0,none⟩)/\B<=g/\aG w g T cs
theorem IG.up {B:Nat} {T:TypeId} {cs:Array Value} {v:Value} {w w':Wo} (h:IG B T cs v w) (hb:Below w.heap.size w w'):IG B T cs v w':=by
 obtain ⟨g,e,h1,h2⟩:=h;exact ⟨g,e,h1,h2.bl hb⟩
theorem aG1 (l:List Nat):∀ u∈bQ l,u.oneCell'=true:=by
 intro u hu;unfold bQ at hu;obtain ⟨x,_,rfl⟩:=List.mem_map.1 hu;rfl
theorem W_ {w:Wo} {B n:Nat} {v:Value} {l:List Nat} (h:w.ownsRow B 216 1 v n (bQ l)):∃ A c,v=.slice A n c/\iR w w.heap.size A n l/\n<=c/\c<=9223372036854775807:=by
 rcases h.2 with ⟨h1,h2⟩ | ⟨g,cap,cur,h1,h2,h3,h4,h5,h6,h7⟩
 ·refine ⟨none,0,by rw [h2];exact h1,⟨h.1,fun h0=>by omega⟩,by omega,by omega⟩
 ·refine ⟨_,_,h1,⟨h.1,fun h0=>⟨g,0,rfl,?_,fun j u hu=>?_⟩⟩,h4,by simpa [maxLen] using h5⟩
  ·rcases Nat.lt_or_ge g w.heap.size with aW | QJ
   ·exact aW
   ·rw [Array.getElem?_eq_none QJ] at h3;cases h3
  ·rw [Nat.zero_add,cell_of_row w g j cur 216 (0,0) h3]
   rw [<-h7] at hu;have sQ:=(dP.1 hu).1;rw [List.getElem?_take_of_lt (by rw [jP] at sQ;omega)] at hu;simpa using hu
theorem VQ (A:OA) (n c:Nat) (l:List Nat) (w:Wo) (hr:iR w w.heap.size A n l) (hn:n<=35184372088833) :
    Calls Tryz.prog 169 #[.slice A n c] w fun e w'=>Below w.heap.size w w'/\∃ A' c',e=.returned (.slice A' n c')/\iR w' w'.heap.size A' n l/\n<=c'/\c'<=9223372036854775807:=by
 have q22:∀ (w:Wo) (a:OA) (n c n' c':Nat),(binOp .eql 111 (.slice a n c) (.slice none n' c')).run Tryz.prog w=.ok (.bool a.isNone) w:=fun w a n c n' c'=>Lib.run_eql_slice_nil w _ _ a n c n' c' Tryz.underlying111;cases A with
 | none=>
  have h0:n=0:=by
   refine Nat.eq_zero_of_not_pos fun h=>?_;obtain ⟨b,off,e,_⟩:=hr.form h;cases e
  subst h0;have hl:l=[]:=List.eq_nil_of_length_eq_zero hr.len;subst hl;go_enter Tryz.func169,Tryz.ntmps169
  go_wp2_with fail
  go_ret;exact ⟨bR,none,0,rfl,zK _ _ _,lR,by decide⟩
 | some ad=>
  obtain ⟨i0,kC,oE,kK,lQ⟩:=info_parts GJ;have HL:=lH hr.len;have HC:Hid (∀ j u,(bQ l)[j]?=some u->w.cell? (ad.add j)=some u):=lH fun j u hu=>by
   have hj:=(dP.1 hu).1;have nO:0<n:=by have:=hr.len;unfold bQ at hj;rw [lB] at hj;omega
   obtain ⟨b,off,e,aW,hc⟩:=hr.2 nO;injection e with e;subst e;have:=hc j u hu;unfold Addr.add
   by_cases JH:j=0
   ·subst JH;simpa using this
   ·simpa [JH] using this
  have HN:Hid ((bQ l).length=n*1):=lH hr.1;clear hr;go_enter Tryz.func169,Tryz.ntmps169
  go_wp2_with (at_builtin;refine wpList_append_own_wide _ rfl _ _ 111 rfl w.heap.size 216 i0 _ 1 4 Tryz.underlying111 kC oE kK lQ rfl (by omega) _ _ _ rfl (XN _ _ _) ad n c (bQ l) rfl ?qc1 ?qc2 (aG1 l) ?qc4 ?qc5 ?qc6 ?_)
  case qc1=>exact HN.o
  case qc2=>exact fun j u hj=>Lib.cell?_alloc_some _ (HC.o j u hj)
  case qc4=>simp only [maxLen];omega
  case qc5=>omega
  case qc6=>simp
  intro v' w1 bF hgrow aIc
  go_wp2
  go_ret;obtain ⟨A',c',e,h1,h2,h3⟩:=W_ bF;subst e;exact ⟨((Below.refl _ w).alloc lR _).grown hgrow (by simp) (by intro k hk;simp [Value.ownBlock] at hk;omega),A',c',rfl,h1,h2,h3⟩
def DmP (y z:Int) (w:Wo) (e:Ending) (w':Wo):Prop:=Below w.heap.size w w'/\∃ b A n c b2 B m d,e=.returned (.tuple #[.agg #[.bool b,.slice A n c],.agg #[.bool b2,.slice B m d]])/\cG w' w'.heap.size y b A n c/\cG w' w'.heap.size z b2 B m d
theorem aEZ (x y:Nat) (b1:Bool) (A:OA) (n c:Nat) (b2:Bool) (B:OA) (m d:Nat) (w:Wo) (h1:cG w w.heap.size (x:Int) b1 A n c) (h2:cG w w.heap.size (y:Int) b2 B m d) (wC:0<y) (hn:n<=35184372088832) (hm:m<=35184372088832) :
    Calls Tryz.prog 146 #[.agg #[.bool b1,.slice A n c],.agg #[.bool b2,.slice B m d]] w (DmP ((x / y:Nat):Int) ((x % y:Nat):Int) w):=by
 have bH:b1=false:=by rw [h1.eb];simp
 subst bH;have dB:Hid (Below w.heap.size w ((((w.alloc (.cells #[.bool false,.slice A n c] 113)).alloc (.cells #[.bool b2,.slice B m d] 113)).alloc (.cells #[.bool false,.slice none 0 0] 113)).alloc (.cells #[.bool false,.slice none 0 0] 113))):=lH ((((bA).alloc (by simp) _).alloc (by simp;omega) _).alloc (by simp;omega) _);have cJ:Hid (aG ((((w.alloc (.cells #[.bool false,.slice A n c] 113)).alloc (.cells #[.bool b2,.slice B m d] 113)).alloc (.cells #[.bool false,.slice none 0 0] 113)).alloc (.cells #[.bool false,.slice none 0 0] 113)) w.heap.size 113 #[.bool false,.slice A n c]):=lH ((((aG.new w _ _).alloc _).alloc _).alloc _)
 have dI:Hid (aG ((((w.alloc (.cells #[.bool false,.slice A n c] 113)).alloc (.cells #[.bool b2,.slice B m d] 113)).alloc (.cells #[.bool false,.slice none 0 0] 113)).alloc (.cells #[.bool false,.slice none 0 0] 113)) (w.heap.size+1) 113 #[.bool b2,.slice B m d]):=lH (((aG.new_ (by simp)).alloc _).alloc _);have CS:Hid (aG ((((w.alloc (.cells #[.bool false,.slice A n c] 113)).alloc (.cells #[.bool b2,.slice B m d] 113)).alloc (.cells #[.bool false,.slice none 0 0] 113)).alloc (.cells #[.bool false,.slice none 0 0] 113)) (w.heap.size+1+1) 113 #[.bool false,.slice none 0 0]):=lH ((aG.new_ (by simp)).alloc _)
 have tV:Hid (aG ((((w.alloc (.cells #[.bool false,.slice A n c] 113)).alloc (.cells #[.bool b2,.slice B m d] 113)).alloc (.cells #[.bool false,.slice none 0 0] 113)).alloc (.cells #[.bool false,.slice none 0 0] 113)) (w.heap.size+1+1+1) 113 #[.bool false,.slice none 0 0]):=lH (aG.new_ (by simp));have HD1:Hid (iR ((((w.alloc (.cells #[.bool false,.slice A n c] 113)).alloc (.cells #[.bool b2,.slice B m d] 113)).alloc (.cells #[.bool false,.slice none 0 0] 113)).alloc (.cells #[.bool false,.slice none 0 0] 113)) (((((w.alloc (.cells #[.bool false,.slice A n c] 113)).alloc (.cells #[.bool b2,.slice B m d] 113)).alloc (.cells #[.bool false,.slice none 0 0] 113)).alloc (.cells #[.bool false,.slice none 0 0] 113))).heap.size A n (jN x)):=lH (h1.up dB.o).rd
 have HD2:Hid (iR ((((w.alloc (.cells #[.bool false,.slice A n c] 113)).alloc (.cells #[.bool b2,.slice B m d] 113)).alloc (.cells #[.bool false,.slice none 0 0] 113)).alloc (.cells #[.bool false,.slice none 0 0] 113)) (((((w.alloc (.cells #[.bool false,.slice A n c] 113)).alloc (.cells #[.bool b2,.slice B m d] 113)).alloc (.cells #[.bool false,.slice none 0 0] 113)).alloc (.cells #[.bool false,.slice none 0 0] 113))).heap.size B m (jN y)):=lH (h2.up dB.o).rd;have hnc:=h1.nc;have JJ:=h1.cm;clear h1 h2;go_enter Tryz.func146,Tryz.ntmps146
 go_wp2_with fail
 generalize ((((w.alloc (.cells #[.bool false,.slice A n c] 113)).alloc (.cells #[.bool b2,.slice B m d] 113)).alloc (.cells #[.bool false,.slice none 0 0] 113)).alloc (.cells #[.bool false,.slice none 0 0] 113))=V at *;have p0:=cJ.o.cell 0;have p1:=cJ.o.cell 1;have q1:=dI.o.cell 1;have pl:=cJ.o.lt;have ql:=dI.o.lt
 go_wp2_with fail
 refine (Q4 A n c B m d x y V HD1.o HD2.o wC hnc JJ hn hm).mono ?_;rintro e W ⟨bH,Aq,nq,cq,lq,Ar,nr,cr,lr,rfl,⟨m_,mV,K2,hq4,hq5⟩,⟨yQ,MY,CB,GL,xL⟩,aXa,aW0⟩;have bS:=lH (dB.o.tm bH);have aFG:=lH (cJ.o.bl bH);have aMO:=lH (dI.o.bl bH);have aI7:=lH (CS.o.bl bH);have aI6:=lH (tV.o.bl bH);have HQR:=lH m_;have HQD:=lH mV;have HQV:Hid (BJ false (wv lq)=((x / y:Nat):Int)):=lH (by rw [K2];rfl);have tU:=lH yQ;have LX:=lH MY;have HRV:Hid (BJ false (wv lr)=((x % y:Nat):Int)):=lH (by rw [CB];rfl);have qK:w.heap.size<=V.heap.size:=dB.o.size;clear bH m_ mV K2 hq4 hq5 yQ MY CB GL xL p0 p1 q1 pl ql cJ dI CS tV HD1 HD2;have a2B:w.heap.size<=W.heap.size:=bS.o.size;clear dB qK;have p0:=aFG.o.cell 0;have pl:=aFG.o.lt
 go_wp2_with fail
 refine nS (S:=fun w'=>Below W.heap.size W w') 12 _ _ (by kernel_rfl) (by kernel_rfl) (by kernel_rfl) rfl rfl (aD bR) (fun hHeld=>?_);simp only [lA,List.take_zero];refine aL 0 rfl ?_;refine aL 1 rfl ?_;refine aL 2 rfl ?_;refine aL 5 rfl ?_;refine aL 6 rfl ?_;refine aL 7 rfl ?_
 refine aCW (C:=fun s w'=>Below W.heap.size W w'/\YY 10 11 s w') (G:=fun w' w''=>Below w'.heap.size w' w'') [(3,SlQ lq),(4,LgQ ((x / y:Nat):Int)),(8,SlQ lr),(9,LgQ ((x % y:Nat):Int)),(10,IG W.heap.size 113 #[.bool false,.slice none 0 0]),(11,IG W.heap.size 113 #[.bool false,.slice none 0 0])] rfl (by kernel_rfl) (List.forall_mem_cons.2 ⟨fun _ _ _ h g=>h.up g,List.forall_mem_cons.2 ⟨fun _ _ _ h g=>h.up g,List.forall_mem_cons.2 ⟨fun _ _ _ h g=>h.up g,List.forall_mem_cons.2 ⟨fun _ _ _ h g=>h.up g,List.forall_mem_cons.2 ⟨fun _ _ _ h g=>h.up g,List.forall_mem_cons.2 ⟨fun _ _ _ h g=>h.up g,List.forall_mem_nil _⟩⟩⟩⟩⟩⟩) (fun _ _ h=>h.1) ⟨hHeld,ZX _ _ _⟩ ?_;refine d_ (i:=3) rfl (fun s w3 hC hn hK=>?_) (fun v3=>?_)
 ·unfold gJ;go_simp;simp only [eK]
  refine (VQ Aq nq cq lq w3 (HQR.o.lift hC.1 hC.1.size) (by have:=aXa;omega)).mono ?_;rintro e w4 ⟨dU,hq4⟩;obtain ⟨A4,c4,rfl,GL,X5,hc4⟩:=hq4;exact ⟨_,rfl,⟨A4,nq,c4,rfl,GL,X5,hc4⟩,⟨hC.1.tm dU,hC.2.other (by decide) (by decide) dU.size _⟩,dU⟩
 try simp only [Act.put,bP,bO,bN]
 refine d_ (i:=4) rfl (fun s w3 hC hn hK=>?_) (fun v4=>?_)
 ·have k3:s 3=some v3/\SlQ lq v3 w3:=hK 3 (by kernel_rfl)
  obtain ⟨-,A3,n3,c3,rfl,CB,U0,hc3⟩:=k3;unfold gJ;go_simp;simp only [eK];refine (jG false A3 n3 c3 lq w3 CB HQD.o U0 hc3).mono ?_;rw [HQV.o];rintro e w4 ⟨dU,b4,A4,n4,c4,rfl,h4⟩;exact ⟨_,rfl,⟨b4,A4,n4,c4,rfl,h4⟩,⟨hC.1.tm dU,hC.2.other (by decide) (by decide) dU.size _⟩,dU⟩
 try simp only [Act.put,bP,bO,bN]
 refine d_ (i:=8) rfl (fun s w3 hC hn hK=>?_) (fun v8=>?_)
 ·unfold gJ;go_simp;simp only [eK]
  refine (VQ Ar nr cr lr w3 (tU.o.lift hC.1 hC.1.size) (by have:=aW0;omega)).mono ?_;rintro e w4 ⟨dU,hq4⟩;obtain ⟨A4,c4,rfl,GL,X5,hc4⟩:=hq4;exact ⟨_,rfl,⟨A4,nr,c4,rfl,GL,X5,hc4⟩,⟨hC.1.tm dU,hC.2.other (by decide) (by decide) dU.size _⟩,dU⟩
 try simp only [Act.put,bP,bO,bN]
 refine d_ (i:=9) rfl (fun s w3 hC hn hK=>?_) (fun v9=>?_)
 ·have k8:s 8=some v8/\SlQ lr v8 w3:=hK 8 (by kernel_rfl)
  obtain ⟨-,A3,n3,c3,rfl,CB,U0,hc3⟩:=k8;unfold gJ;go_simp;simp only [eK];refine (jG false A3 n3 c3 lr w3 CB LX.o U0 hc3).mono ?_;rw [HRV.o];rintro e w4 ⟨dU,b4,A4,n4,c4,rfl,h4⟩;exact ⟨_,rfl,⟨b4,A4,n4,c4,rfl,h4⟩,⟨hC.1.tm dU,hC.2.other (by decide) (by decide) dU.size _⟩,dU⟩
 try simp only [Act.put,bP,bO,bN]
 refine d_ (i:=10) rfl (fun s w3 hC hn hK=>?_) (fun v10=>?_)
 ·unfold gJ;go_simp;simp only [eK]
  exact ⟨⟨_,rfl,hC.1.size,aG.new _ _ _⟩,⟨hC.1.alloc hC.1.size _,hC.2.left (by decide) (by simp)⟩,bA⟩
 try simp only [Act.put,bP,bO,bN]
 refine d_ (i:=11) rfl (fun s w3 hC hn hK=>?_) (fun v11=>?_)
 ·unfold gJ;go_simp;simp only [eK]
  exact ⟨⟨_,rfl,hC.1.size,aG.new _ _ _⟩,⟨hC.1.alloc hC.1.size _,hC.2.right (by decide) (by simp)⟩,bA⟩
 try simp only [Act.put,bP,bO,bN]
 refine BQ (fun s w5 hC hK=>?_);have k4:s 4=some v4/\LgQ ((x / y:Nat):Int) v4 w5:=hK 4;have k9:s 9=some v9/\LgQ ((x % y:Nat):Int) v9 w5:=hK 9;have k10:s 10=some v10/\IG W.heap.size 113 #[.bool false,.slice none 0 0] v10 w5:=hK 10;have k11:s 11=some v11/\IG W.heap.size 113 #[.bool false,.slice none 0 0] v11 w5:=hK 11;obtain ⟨-,bq,Aq2,nq2,cq2,rfl,mV⟩:=k4;obtain ⟨-,br,Ar2,nr2,cr2,rfl,MY⟩:=k9;obtain ⟨s10,g10,rfl,aVn,EE⟩:=k10;obtain ⟨s11,g11,rfl,aVm,aJi⟩:=k11;have cP:g10≠g11:=hC.2.2.2 g10 g11 s10 s11;have dX:=lH hC.1;have rG:=lH mV;have sC:=lH MY;have EE:=lH EE;have aJi:=lH aJi;clear hC hK s10 s11 mV MY hHeld;have hbr:br=false:=by rw [sC.o.eb];exact decide_eq_false (by omega)
 subst hbr;have z0:=EE.o.cell 0;have z1:=EE.o.cell 1;have zf:=EE.o.frozen;have zl:=EE.o.lt;have aRP:=lH (aI7.o.bl dX.o);have aRL:=lH (aI6.o.bl dX.o);clear p0 pl;have e0:w.heap.size+1+1≠g10:=by have:=aI7.o.lt;omega
 have e1:w.heap.size+1+1≠g11:=by have:=aI7.o.lt;omega
 have e2:w.heap.size+1+1+1≠g10:=by have:=aI6.o.lt;omega
 have e3:w.heap.size+1+1+1≠g11:=by have:=aI6.o.lt;omega
 have a1T:w.heap.size+1+1<W.heap.size:=aI7.o.lt;have a1S:w.heap.size+1+1+1<W.heap.size:=aI6.o.lt;refine aP (by rfl) ?_;go_simp;clear z0 z1 zf zl;generalize tH:(w5.setCell ⟨g10,0,none⟩ _).setCell ⟨g10,1,none⟩ _=w6;have aKP:Hid (aG w6 g10 113 #[.bool bq,.slice Aq2 nq2 cq2]):=lH (by rw [<-tH];exact cD EE.o);have xO:Hid (aG w6 g11 113 #[.bool false,.slice none 0 0]):=lH (by rw [<-tH];exact (aJi.o.far cP.symm _).far cP.symm _);have aRO:Hid (aG w6 (w.heap.size+1+1) 113 #[.bool false,.slice none 0 0]):=lH (by rw [<-tH];exact (aRP.o.far e0 _).far e0 _);have aRK:Hid (aG w6 (w.heap.size+1+1+1) 113 #[.bool false,.slice none 0 0]):=lH (by rw [<-tH];exact (aRL.o.far e2 _).far e2 _);have fV:Hid (Below W.heap.size W w6):=lH (by rw [<-tH];exact cW dX.o aVn)
 have HQ6:Hid (cG w6 w6.heap.size ((x / y:Nat):Int) bq Aq2 nq2 cq2):=lH (by rw [<-tH];exact (rG.o.keep (EE.o.cell 0) (by simp) _).keep ((EE.o.set_ 0 (.bool bq)).cell 1) (by simp) _);have V_:Hid (cG w6 w6.heap.size ((x % y:Nat):Int) false Ar2 nr2 cr2):=lH (by rw [<-tH];exact (sC.o.keep (EE.o.cell 0) (by simp) _).keep ((EE.o.set_ 0 (.bool bq)).cell 1) (by simp) _);clear tH EE aJi dX rG sC aRP aRL;have z0:=xO.o.cell 0;have z1:=xO.o.cell 1;have zf:=xO.o.frozen;have zl:=xO.o.lt;refine aP (by rfl) ?_;go_simp;clear z0 z1 zf zl;generalize IZ:(w6.setCell ⟨g11,0,none⟩ _).setCell ⟨g11,1,none⟩ _=w7;have R_:Hid (aG w7 g10 113 #[.bool bq,.slice Aq2 nq2 cq2]):=lH (by rw [<-IZ];exact (aKP.o.far cP _).far cP _);have R9:Hid (aG w7 g11 113 #[.bool false,.slice Ar2 nr2 cr2]):=lH (by rw [<-IZ];exact cD xO.o)
 have JV:Hid (aG w7 (w.heap.size+1+1) 113 #[.bool false,.slice none 0 0]):=lH (by rw [<-IZ];exact (aRO.o.far e1 _).far e1 _);have aBj:Hid (aG w7 (w.heap.size+1+1+1) 113 #[.bool false,.slice none 0 0]):=lH (by rw [<-IZ];exact (aRK.o.far e3 _).far e3 _);have iM:Hid (Below W.heap.size W w7):=lH (by rw [<-IZ];exact cW fV.o aVm);have HQ7:Hid (cG w7 w7.heap.size ((x / y:Nat):Int) bq Aq2 nq2 cq2):=lH (by rw [<-IZ];exact (HQ6.o.keep (xO.o.cell 0) (by simp) _).keep ((xO.o.set_ 0 (.bool false)).cell 1) (by simp) _);have NV:Hid (cG w7 w7.heap.size ((x % y:Nat):Int) false Ar2 nr2 cr2):=lH (by rw [<-IZ];exact (V_.o.keep (xO.o.cell 0) (by simp) _).keep ((xO.o.set_ 0 (.bool false)).cell 1) (by simp) _);clear IZ aKP xO fV HQ6 V_ aRO aRK;have fZ:Hid (Below w.heap.size w w7):=lH (bS.o.tm iM.o);have a0:=R_.o.cell 0
 have a1:=R_.o.cell 1;have al:=R_.o.lt;have b0:=R9.o.cell 0;have b1:=R9.o.cell 1;have bl:=R9.o.lt;have c0:=JV.o.cell 0;have c1:=JV.o.cell 1;have cf:=JV.o.frozen;have cl:=JV.o.lt;have d0:=aBj.o.cell 0;have d1:=aBj.o.cell 1;have df:=aBj.o.frozen;have dl:=aBj.o.lt
 go_wp2_with fail
 refine aJ (S:=fun w'=>w'.cell? ⟨g10,0,none⟩=some (.bool bq)/\w'.cell? ⟨g10,1,none⟩=some (.slice Aq2 nq2 cq2)/\w'.cell? ⟨g11,0,none⟩=some (.bool false)/\w'.cell? ⟨g11,1,none⟩=some (.slice Ar2 nr2 cr2)) 3 _ (by kernel_rfl) (by kernel_rfl) rfl ⟨a0,a1,b0,b1⟩ (fun hHeld=>?_);simp only [lA,List.take_zero];refine cK 0 (v:=?_) rfl (by kernel_rfl) (fun _ _ _ h=>h) (by rfl) ?_ hHeld ?_;rotate_left 1
 ·intro w' hSw;obtain ⟨s0,s1,s2,s3⟩:=hSw;go_simp<;>with_reducible rfl
 try simp only [Act.put,bP,bO,bN]
 refine cK 1 (v:=?_) rfl (by kernel_rfl) (fun _ _ _ h=>h) (by rfl) ?_ hHeld ?_;rotate_left 1
 ·intro w' hSw;obtain ⟨s0,s1,s2,s3⟩:=hSw;go_simp<;>with_reducible rfl
 try simp only [Act.put,bP,bO,bN]
 clear a0 a1 b0 b1 d0 d1 df dl al bl;have e4:g10≠w.heap.size+1+1:=e0.symm;have e5:g11≠w.heap.size+1+1:=e1.symm;have e6:w.heap.size+1+1+1≠w.heap.size+1+1:=by omega
 have aVe:w.heap.size<=w.heap.size+1+1:=by omega
 have aVd:w.heap.size<=w.heap.size+1+1+1:=by omega
 refine aU 2 (by kernel_rfl) rfl (fun K hK=>?_);go_simp;clear c0 c1 cf cl;generalize MW:(w7.setCell ⟨w.heap.size+1+1,0,none⟩ _).setCell ⟨w.heap.size+1+1,1,none⟩ _=w8;have aKO:Hid (aG w8 g10 113 #[.bool bq,.slice Aq2 nq2 cq2]):=lH (by rw [<-MW];exact (R_.o.far e4 _).far e4 _);have aKN:Hid (aG w8 g11 113 #[.bool false,.slice Ar2 nr2 cr2]):=lH (by rw [<-MW];exact (R9.o.far e5 _).far e5 _);have aW9:Hid (aG w8 (w.heap.size+1+1) 113 #[.bool bq,.slice Aq2 nq2 cq2]):=lH (by rw [<-MW];exact cD JV.o);have NW:Hid (aG w8 (w.heap.size+1+1+1) 113 #[.bool false,.slice none 0 0]):=lH (by rw [<-MW];exact (aBj.o.far e6 _).far e6 _);have dF:Hid (Below w.heap.size w w8):=lH (by rw [<-MW];exact cW fZ.o aVe)
 have HQ8:Hid (cG w8 w8.heap.size ((x / y:Nat):Int) bq Aq2 nq2 cq2):=lH (by rw [<-MW];exact (HQ7.o.keep (JV.o.cell 0) (by simp) _).keep ((JV.o.set_ 0 (.bool bq)).cell 1) (by simp) _);have HR8:Hid (cG w8 w8.heap.size ((x % y:Nat):Int) false Ar2 nr2 cr2):=lH (by rw [<-MW];exact (NV.o.keep (JV.o.cell 0) (by simp) _).keep ((JV.o.set_ 0 (.bool bq)).cell 1) (by simp) _);clear MW;refine hK.out _ _ ?_ (fun hHeld=>?_)
 ·exact ⟨aKO.o.cell 0,aKO.o.cell 1,aKN.o.cell 0,aKN.o.cell 1⟩
 clear hK K
 try simp only [Act.put,bP,bO,bN]
 refine wpAnyH_done (by kernel_rfl) ?_ _;refine aP (by rfl) ?_;clear fZ R_ R9 JV aBj HQ7 NV;have d0:=NW.o.cell 0;have d1:=NW.o.cell 1;have df:=NW.o.frozen;have dl:=NW.o.lt
 go_wp2_with fail
 clear d0 d1 df dl;generalize DF:(w8.setCell ⟨w.heap.size+1+1+1,0,none⟩ _).setCell ⟨w.heap.size+1+1+1,1,none⟩ _=w9;have aRN:Hid (aG w9 (w.heap.size+1+1) 113 #[.bool bq,.slice Aq2 nq2 cq2]):=lH (by rw [<-DF];exact (aW9.o.far e6.symm _).far e6.symm _);have aRJ:Hid (aG w9 (w.heap.size+1+1+1) 113 #[.bool false,.slice Ar2 nr2 cr2]):=lH (by rw [<-DF];exact cD NW.o);have cQ:Hid (Below w.heap.size w w9):=lH (by rw [<-DF];exact cW dF.o aVd);have HQ9:Hid (cG w9 w9.heap.size ((x / y:Nat):Int) bq Aq2 nq2 cq2):=lH (by rw [<-DF];exact (HQ8.o.keep (NW.o.cell 0) (by simp) _).keep ((NW.o.set_ 0 (.bool false)).cell 1) (by simp) _);have HR9:Hid (cG w9 w9.heap.size ((x % y:Nat):Int) false Ar2 nr2 cr2):=lH (by rw [<-DF];exact (HR8.o.keep (NW.o.cell 0) (by simp) _).keep ((NW.o.set_ 0 (.bool false)).cell 1) (by simp) _);clear DF;have q0:=aRN.o.cell 0
 have q1:=aRN.o.cell 1;have q2:=aRJ.o.cell 0;have q3:=aRJ.o.cell 1;exact bodyPost_ret (v:=.tuple #[.agg #[.bool bq,.slice Aq2 nq2 cq2],.agg #[.bool false,.slice Ar2 nr2 cr2]]) (by simp [results,Tryz.results146,go_sem,q0,q1,q2,q3]) rfl ⟨aD cQ.o,bq,Aq2,nq2,cq2,false,Ar2,nr2,cr2,rfl,HQ9.o.up (aD bR),HR9.o.up (aD bR)⟩
end
section
open Go.ChangeShapes Go.WideShapes Go.ChangeAt Go.RowKit
structure dE (w:Wo) (B:Nat) (q:Rat) (b1:Bool) (A:OA) (n c:Nat) (b2:Bool) (A2:OA) (m d:Nat):Prop where
 num:cG w B q.num b1 A n c
 den:cG w B (q.den:Int) b2 A2 m d
section
variable {w w':Wo} {B B':Nat} {q:Rat} {b1:Bool} {A:OA} {n c:Nat} {b2:Bool} {A2:OA} {m d:Nat}
theorem dE.below (h:dE w B q b1 A n c b2 A2 m d) (hb:Below B' w w') (hB:B<=B'):dE w' B q b1 A n c b2 A2 m d:=⟨h.num.below hb hB,h.den.below hb hB⟩
theorem dE.more (h:dE w B q b1 A n c b2 A2 m d) (hB:B<=B'):dE w B' q b1 A n c b2 A2 m d:=⟨h.num.more hB,h.den.more hB⟩
theorem dE.up (h:dE w w.heap.size q b1 A n c b2 A2 m d) (hb:Below w.heap.size w w'):dE w' w'.heap.size q b1 A n c b2 A2 m d:=⟨h.num.up hb,h.den.up hb⟩
theorem dE.keep (h:dE w w.heap.size q b1 A n c b2 A2 m d) {p:Addr} {v:Value} (hp:w.cell? p=some v) (hv:∀ k x,v≠.int k x) (u:Value):dE (w.setCell p u) (w.setCell p u).heap.size q b1 A n c b2 A2 m d:=⟨h.num.keep hp hv u,h.den.keep hp hv u⟩
theorem dE.n_le (h:dE w B q b1 A n c b2 A2 m d):n<=bU q:=by rw [h.num.en];exact aHx q
theorem dE.m_le (h:dE w B q b1 A n c b2 A2 m d):m<=bU q:=by rw [h.den.en,Int.natAbs_natCast];exact XC q
theorem dE.pos (h:dE w B q b1 A n c b2 A2 m d):b2=false:=by rw [h.den.eb];simp
end
def YZ (q:Rat) (w:Wo) (e:Ending) (w':Wo):Prop:=Below w.heap.size w w'/\∃ b1 A n c b2 A2 m d,e=.returned (.agg #[.bool b1,.slice A n c,.bool b2,.slice A2 m d])/\dE w' w'.heap.size q b1 A n c b2 A2 m d
theorem fO {w:Wo} {p t:Nat} {v0 v1 v2 v3 x0 x1 x2 x3:Value} (h:aG w p t #[x0,x1,x2,x3]):aG ((((w.setCell ⟨p,0,none⟩ v0).setCell ⟨p,1,none⟩ v1).setCell ⟨p,2,none⟩ v2).setCell ⟨p,3,none⟩ v3) p t #[v0,v1,v2,v3]:=
 (((h.set_at (i:=0) (cs':=#[v0,x1,x2,x3]) v0 (by simp)).set_at (i:=1) (cs':=#[v0,v1,x2,x3]) v1 (by simp)).set_at (i:=2) (cs':=#[v0,v1,v2,x3]) v2 (by simp)).set_at (i:=3) v3 (by simp)
theorem IB {a w:Wo} {B p:Nat} {v0 v1 v2 v3:Value} (h:Below B a w) (hp:B<=p):Below B a ((((w.setCell ⟨p,0,none⟩ v0).setCell ⟨p,1,none⟩ v1).setCell ⟨p,2,none⟩ v2).setCell ⟨p,3,none⟩ v3):=(((h.setCell hp _).setCell hp _).setCell hp _).setCell hp _
theorem mO {w w2:Wo} {g T:Nat} {v0 v1 v2 v3:Value} {q:Rat} {b1:Bool} {A:OA} {n c:Nat} {b2:Bool} {A2:OA} {m d:Nat} {e:Ending} (hb:Below w.heap.size w w2) (hg:w.heap.size<=g) (hB:aG w2 g T #[v0,v1,v2,v3]) (h0:∀ k x,v0≠.int k x) (h1:∀ k x,v1≠.int k x) (h2:∀ k x,v2≠.int k x) (h3:∀ k x,v3≠.int k x) (h:dE w2 w2.heap.size q b1 A n c b2 A2 m d) (he:e=.returned (.agg #[.bool b1,.slice A n c,.bool b2,.slice A2 m d])) :
    YZ q w e ((((w2.setCell ⟨g,0,none⟩ (.bool b1)).setCell ⟨g,1,none⟩ (.slice A n c)).setCell ⟨g,2,none⟩ (.bool b2)).setCell ⟨g,3,none⟩ (.slice A2 m d)):=by
 refine ⟨IB hb hg,b1,A,n,c,b2,A2,m,d,he,?_⟩;have B1:=hB.set_at (i:=0) (cs':=#[.bool b1,v1,v2,v3]) (.bool b1) (by simp);have B2:=B1.set_at (i:=1) (cs':=#[.bool b1,.slice A n c,v2,v3]) (.slice A n c) (by simp);have B3:=B2.set_at (i:=2) (cs':=#[.bool b1,.slice A n c,.bool b2,v3]) (.bool b2) (by simp);exact (((h.keep (hB.cell 0) h0 _).keep (B1.cell 1) h1 _).keep (B2.cell 2) h2 _).keep (B3.cell 3) h3 _
end
section
open Go.ChangeShapes Go.WideShapes Go.ChangeAt Go.RowKit
attribute [local go_sem ↓] aE
attribute [local go_sem] aK aH aM
theorem UJ {w:Wo} {B:Nat} {z:Int} {b:Bool} {A:OA} {n c:Nat} (h:cG w B z b A n c):cG w B (z.natAbs:Int) false A n c:=
 ⟨by simp,by rw [Int.natAbs_natCast];exact h.en,by rw [Int.natAbs_natCast];exact h.rd,h.nc,h.cm⟩
theorem YB (y0 z0:Int) (b1:Bool) (A:OA) (n c:Nat) (b2:Bool) (B:OA) (m d:Nat) (w:Wo) (h1:cG w w.heap.size y0 b1 A n c) (h2:cG w w.heap.size z0 b2 B m d) (hn:n<=35184372088832) (hm:m<=35184372088832) :
    Calls Tryz.prog 145 #[.agg #[.bool b1,.slice A n c],.agg #[.bool b2,.slice B m d]] w (LgP ((y0.natAbs.gcd z0.natAbs:Nat):Int) w):=by
 have dB:Hid (Below w.heap.size w (((w.alloc (.cells #[.bool false,.slice A n c] 113)).alloc (.cells #[.bool false,.slice B m d] 113)).alloc (.cells #[.bool false,.slice none 0 0] 113))):=lH (((bA).alloc (by simp) _).alloc (by simp;omega) _);have cJ:Hid (aG (((w.alloc (.cells #[.bool false,.slice A n c] 113)).alloc (.cells #[.bool false,.slice B m d] 113)).alloc (.cells #[.bool false,.slice none 0 0] 113)) w.heap.size 113 #[.bool false,.slice A n c]):=lH (((aG.new w _ _).alloc _).alloc _);have dI:Hid (aG (((w.alloc (.cells #[.bool false,.slice A n c] 113)).alloc (.cells #[.bool false,.slice B m d] 113)).alloc (.cells #[.bool false,.slice none 0 0] 113)) (w.heap.size+1) 113 #[.bool false,.slice B m d]):=lH ((aG.new_ (by simp)).alloc _)
 have HR:Hid (aG (((w.alloc (.cells #[.bool false,.slice A n c] 113)).alloc (.cells #[.bool false,.slice B m d] 113)).alloc (.cells #[.bool false,.slice none 0 0] 113)) (w.heap.size+1+1) 113 #[.bool false,.slice none 0 0]):=lH (aG.new_ (by simp));have H1b:=lH (UJ (h1.up dB.o));have H2b:=lH (UJ (h2.up dB.o));clear h1 h2;have e01:w.heap.size≠w.heap.size+1:=by omega
 have e10:w.heap.size+1≠w.heap.size:=by omega
 have e20:w.heap.size+1+1≠w.heap.size:=by omega
 have e21:w.heap.size+1+1≠w.heap.size+1:=by omega
 obtain ⟨GG,hG⟩:∃ g,y0.natAbs.gcd z0.natAbs=g:=⟨_,rfl⟩;rw [hG];go_enter Tryz.func145,Tryz.ntmps145
 go_wp2_with fail
 generalize (((w.alloc (.cells #[.bool false,.slice A n c] 113)).alloc (.cells #[.bool false,.slice B m d] 113)).alloc (.cells #[.bool false,.slice none 0 0] 113))=W1 at *
 go_loopg [5] z0.natAbs (fun k v5 wr=>∃ (x y:Nat) (A:OA) (n c:Nat) (B:OA) (m d:Nat),k=y/\x.gcd y=GG/\Below w.heap.size w wr/\aG wr w.heap.size 113 #[.bool false,.slice A n c]/\aG wr (w.heap.size+1) 113 #[.bool false,.slice B m d]/\aG wr (w.heap.size+1+1) 113 #[.bool false,.slice none 0 0]/\cG wr wr.heap.size (x:Int) false A n c/\cG wr wr.heap.size (y:Int) false B m d/\n<=35184372088832/\m<=35184372088832)
 case atStart=>exact ⟨_,_,A,n,c,B,m,d,rfl,hG,dB.o,cJ.o,dI.o,HR.o,H1b.o,H2b.o,hn,hm⟩
 case round=>
  clear dB cJ dI HR H1b H2b hn hm hG;obtain ⟨x,y,A,n,c,B,m,d,hk,hg,hbr,I0,hp3,hp4,hx,hy,hn,hm⟩:=hrel;have HKY:=lH hk;clear hk;have HG:=lH hg;have qS:=lH hbr;have tO:=lH I0;have I7:=lH hp3;have s_:=lH hp4;have HX:=lH hx;have HY:=lH hy;have j_:=lH hm;have z0:=I7.o.cell 0;have z1:=I7.o.cell 1;have zl:=I7.o.lt;clear hg hbr I0 hp3 hp4 hx hy hm
  go_wp2_with fail
  refine (B9 (y:Int) false B m d wr HY.o).mono ?_;rintro e w1 ⟨rfl,bH⟩;clear z0 z1 zl;have aNH:=lH (qS.o.tm bH);have R4:=lH (tO.o.bl bH);have aFV:=lH (I7.o.bl bH);have R3:=lH (s_.o.bl bH);have cJ:=lH (HX.o.up bH);have HY1:=lH (HY.o.up bH);clear bH qS tO I7 s_ HX HY
  by_cases hy:y=0
  ·subst hy
   have hs:((0:Nat):Int).sign=0:=rfl;rw [hs];clear hs;have hgx:x=GG:=by rw [<-HG.o,Nat.gcd_zero_right]
   subst hgx;have a0:=R4.o.cell 0;have a1:=R4.o.cell 1;have al:=R4.o.lt;have qK:w.heap.size<=w.heap.size+1+1:=by omega
   have z0:=R3.o.cell 0;have z1:=R3.o.cell 1;have zf:=R3.o.frozen;have zl:=R3.o.lt
   go_wp2_with fail
   generalize fD:(w1.setCell ⟨_,0,none⟩ _).setCell ⟨_,1,none⟩ _=W9;have iK:=lH (nU (e:=.returned (.agg #[.bool false,.slice A n c])) aNH.o qK R3.o (by simp) (by simp) cJ.o rfl);rw [fD] at iK;have cQ:Hid (aG W9 _ 113 #[.bool false,.slice A n c]):=lH (by rw [<-fD];exact cD R3.o);clear fD z0 z1 zf zl;have q0:=cQ.o.cell 0;have q1:=cQ.o.cell 1;exact bodyPost_ret (v:=.agg #[.bool false,.slice A n c]) (by simp [results,Tryz.results145,go_sem,q0,q1]) rfl iK.o
  ·have hs:(y:Int).sign=1:=Int.sign_eq_one_of_pos (by omega)
   rw [hs];clear hs;have wC:0<y:=by omega
   clear hy;have a0:=R4.o.cell 0;have a1:=R4.o.cell 1;have al:=R4.o.lt;have z0:=aFV.o.cell 0;have z1:=aFV.o.cell 1;have zl:=aFV.o.lt;have hxn:n=dK x:=by rw [cJ.o.en,Int.natAbs_natCast]
   have hyn:m=dK y:=by rw [HY1.o.en,Int.natAbs_natCast]
   have hnc:=cJ.o.nc;have JJ:=cJ.o.cm;clear hxn hyn
   go_wp2_with fail
   refine (Q4 A n c B m d x y w1 (by have:=cJ.o.rd;exact this) (by have:=HY1.o.rd;exact this) wC hnc JJ hn j_.o).mono ?_;rintro e W2 ⟨bL,Aq,nq,cq,lq,Ar,nr,cr,lr,rfl,-,⟨yQ,MY,CB,GL,xL⟩,-,hnr⟩;clear a0 a1 al z0 z1 zl;have HBr:=lH (aNH.o.tm bL);have tO:=lH (R4.o.bl bL);have I7:=lH (aFV.o.bl bL);have s_:=lH (R3.o.bl bL);have HY2:=lH (HY1.o.up bL);have tU:Hid (iR W2.drew W2.drew.heap.size Ar nr lr):=lH yQ;have LX:=lH MY;have HRV:Hid (BJ false (wv lr)=((x % y:Nat):Int)):=lH (by rw [CB];rfl);clear bL yQ MY CB GL xL aNH R4 aFV R3 cJ HY1 hnc JJ;have z0:=I7.o.cell 0;have z1:=I7.o.cell 1;have zl:=I7.o.lt
   go_wp2_with fail
   refine aJ (S:=fun w'=>w'.cell? ⟨w.heap.size+1,0,none⟩=some (.bool false)/\w'.cell? ⟨w.heap.size+1,1,none⟩=some (.slice B m d)) 5 _ (by kernel_rfl) (by kernel_rfl) rfl ⟨z0,z1⟩ (fun hHeld=>?_);simp only [lA,List.take_zero];refine cK 0 (v:=?_) rfl (by kernel_rfl) (fun _ _ _ h=>h) (by rfl) ?_ hHeld ?_;rotate_left 1
   ·intro w' hSw;obtain ⟨s0,s1⟩:=hSw;go_simp<;>with_reducible rfl
   try simp only [Act.put,bP,bO,bN]
   refine cK 1 (v:=?_) rfl (by kernel_rfl) (fun _ _ _ h=>h) (by rfl) ?_ hHeld ?_;rotate_left 1
   ·intro w' hSw;obtain ⟨s0,s1⟩:=hSw;go_simp<;>with_reducible rfl
   try simp only [Act.put,bP,bO,bN]
   clear z0 z1;refine aU 2 (by kernel_rfl) rfl (fun K hK=>?_);go_simp;refine (VQ Ar nr cr lr W2.drew tU.o (by omega)).mono ?_;rintro e w3 ⟨cR,A3,c3,rfl,CB,U0,hc3⟩;have dR:=lH ((aD (Below.refl W2.heap.size W2)).trans cR);have sY:=lH CB;clear cR CB;go_simp;refine hK.out _ _ ?_ (fun hHeld=>?_)
   ·exact ⟨(I7.o.bl dR.o).cell 0,(I7.o.bl dR.o).cell 1⟩
   clear hK K
   try simp only [Act.put,bP,bO,bN]
   refine aU 3 (by kernel_rfl) rfl (fun K hK=>?_);go_simp;refine (jG false A3 nr c3 lr w3 sY.o LX.o U0 hc3).mono ?_;rw [HRV.o];rintro e w4 ⟨dU,b4,A4,n4,c4,rfl,h4⟩;have bK:=lH (dR.o.tm dU);have H4:=lH h4;clear dU h4 U0 hc3 sY;go_simp;refine hK.out _ _ ?_ (fun hHeld=>?_)
   ·exact ⟨(I7.o.bl bK.o).cell 0,(I7.o.bl bK.o).cell 1⟩
   clear hK K
   try simp only [Act.put,bP,bO,bN]
   have aMs:b4=false:=by rw [H4.o.eb];exact decide_eq_false (by omega)
   subst aMs;have NX:=lH (tO.o.bl bK.o);have aXg:=lH (I7.o.bl bK.o);have aXf:=lH (s_.o.bl bK.o);have z0:=NX.o.cell 0;have z1:=NX.o.cell 1;have zf:=NX.o.frozen;have zl:=NX.o.lt;refine aU 4 (by kernel_rfl) rfl (fun K hK=>?_);go_simp;clear z0 z1 zf zl;generalize UR:(w4.setCell ⟨w.heap.size,0,none⟩ _).setCell ⟨w.heap.size,1,none⟩ _=w5;have aNj:Hid (aG w5 w.heap.size 113 #[.bool false,.slice B m d]):=lH (by rw [<-UR];exact cD NX.o);have qZ:Hid (aG w5 (w.heap.size+1) 113 #[.bool false,.slice B m d]):=lH (by rw [<-UR];exact (aXg.o.far e10 _).far e10 _);have aNe:Hid (aG w5 (w.heap.size+1+1) 113 #[.bool false,.slice none 0 0]):=lH (by rw [<-UR];exact (aXf.o.far e20 _).far e20 _);have HBc:Hid (Below w.heap.size w w5):=lH (by rw [<-UR];exact cW (HBr.o.tm bK.o) lR)
   have HYc:Hid (cG w5 w5.heap.size (y:Int) false B m d):=lH (by rw [<-UR];exact ((HY2.o.up bK.o).keep (NX.o.cell 0) (by simp) _).keep ((NX.o.set_ 0 (.bool false)).cell 1) (by simp) _);have HRc:Hid (cG w5 w5.heap.size ((x % y:Nat):Int) false A4 n4 c4):=lH (by rw [<-UR];exact (H4.o.keep (NX.o.cell 0) (by simp) _).keep ((NX.o.set_ 0 (.bool false)).cell 1) (by simp) _);clear UR;refine hK.out _ _ ?_ (fun hHeld=>?_)
   ·exact ⟨qZ.o.cell 0,qZ.o.cell 1⟩
   clear hK K
   try simp only [Act.put,bP,bO,bN]
   refine wpAnyH_done (by kernel_rfl) ?_ _;refine aP (by rfl) ?_;have z0:=qZ.o.cell 0;have z1:=qZ.o.cell 1;have zf:=qZ.o.frozen;have zl:=qZ.o.lt
   go_wp2_with fail
   clear z0 z1 zf zl;generalize tH:(w5.setCell ⟨w.heap.size+1,0,none⟩ _).setCell ⟨w.heap.size+1,1,none⟩ _=w6;have aNi:Hid (aG w6 w.heap.size 113 #[.bool false,.slice B m d]):=lH (by rw [<-tH];exact (aNj.o.far e01 _).far e01 _);have aNg:Hid (aG w6 (w.heap.size+1) 113 #[.bool false,.slice A4 n4 c4]):=lH (by rw [<-tH];exact cD qZ.o);have aNd:Hid (aG w6 (w.heap.size+1+1) 113 #[.bool false,.slice none 0 0]):=lH (by rw [<-tH];exact (aNe.o.far e21 _).far e21 _);have HBd:Hid (Below w.heap.size w w6):=lH (by rw [<-tH];exact cW HBc.o (Nat.le_succ _));have HYd:Hid (cG w6 w6.heap.size (y:Int) false B m d):=lH (by rw [<-tH];exact (HYc.o.keep (qZ.o.cell 0) (by simp) _).keep ((qZ.o.set_ 0 (.bool false)).cell 1) (by simp) _)
   have HRd:Hid (cG w6 w6.heap.size ((x % y:Nat):Int) false A4 n4 c4):=lH (by rw [<-tH];exact (HRc.o.keep (qZ.o.cell 0) (by simp) _).keep ((qZ.o.set_ 0 (.bool false)).cell 1) (by simp) _);clear tH;have WE:Hid (n4<=35184372088832):=lH (by rw [HRc.o.en];refine cV ?_ j_.o;rw [HYc.o.en];exact jU (by rw [Int.natAbs_natCast,Int.natAbs_natCast];exact rC (Nat.mod_lt _ wC)));have tZ:Hid (y.gcd (x % y)=GG):=lH (by rw [<-HG.o,Nat.gcd_comm x y,Nat.gcd_rec y x,Nat.gcd_comm]);have R5:Hid (x % y<gk):=lH (by rw [HKY.o];exact Nat.mod_lt _ wC)
   go_roundg (x % y)
   case rel=>exact ⟨y,x % y,B,m,d,A4,n4,c4,rfl,tZ.o,HBd.o,aNi.o,aNg.o,aNd.o,HYd.o,HRd.o,j_.o,WE.o⟩
   case measure=>exact R5.o
def RtS (q:Rat) (w wc:Wo):Prop:=∃ (y:Int) (k:Nat) (b1:Bool) (A:OA) (n c:Nat) (B:OA) (m d:Nat),0<k/\q=Rat.divInt y (k:Int)/\Below w.heap.size w wc/\aG wc w.heap.size 113 #[.bool b1,.slice A n c]/\aG wc (w.heap.size+1) 113 #[.bool false,.slice B m d]/\aG wc (w.heap.size+1+1) 115 #[.bool false,.slice none 0 0,.bool false,.slice none 0 0]/\cG wc wc.heap.size y b1 A n c/\cG wc wc.heap.size (k:Int) false B m d/\n<=35184372088832/\m<=35184372088832
theorem vP (y z:Int) (b1:Bool) (A:OA) (n c:Nat) (b2:Bool) (B:OA) (m d:Nat) (w:Wo) (h1:cG w w.heap.size y b1 A n c) (h2:cG w w.heap.size z b2 B m d) (hz:z≠0) (hn:n<=35184372088832) (hm:m<=35184372088832) :
    Calls Tryz.prog 114 #[.agg #[.bool b1,.slice A n c],.agg #[.bool b2,.slice B m d]] w (YZ (Rat.divInt y z) w):=by
 have HYN:=lH h1.en;have HZM:=lH h2.en;have bW:=lH h2.eb;have dB:Hid (Below w.heap.size w (((w.alloc (.cells #[.bool b1,.slice A n c] 113)).alloc (.cells #[.bool b2,.slice B m d] 113)).alloc (.cells #[.bool false,.slice none 0 0,.bool false,.slice none 0 0] 115))):=lH (((bA).alloc (by simp) _).alloc (by simp;omega) _);have cJ:Hid (aG (((w.alloc (.cells #[.bool b1,.slice A n c] 113)).alloc (.cells #[.bool b2,.slice B m d] 113)).alloc (.cells #[.bool false,.slice none 0 0,.bool false,.slice none 0 0] 115)) w.heap.size 113 #[.bool b1,.slice A n c]):=lH (((aG.new w _ _).alloc _).alloc _);have dI:Hid (aG (((w.alloc (.cells #[.bool b1,.slice A n c] 113)).alloc (.cells #[.bool b2,.slice B m d] 113)).alloc (.cells #[.bool false,.slice none 0 0,.bool false,.slice none 0 0] 115)) (w.heap.size+1) 113 #[.bool b2,.slice B m d]):=lH ((aG.new_ (by simp)).alloc _)
 have HR:Hid (aG (((w.alloc (.cells #[.bool b1,.slice A n c] 113)).alloc (.cells #[.bool b2,.slice B m d] 113)).alloc (.cells #[.bool false,.slice none 0 0,.bool false,.slice none 0 0] 115)) (w.heap.size+1+1) 115 #[.bool false,.slice none 0 0,.bool false,.slice none 0 0]):=lH (aG.new_ (by simp));have H1:=lH (h1.up dB.o);have H2:=lH (h2.up dB.o);have e01:w.heap.size≠w.heap.size+1:=by omega
 have e10:w.heap.size+1≠w.heap.size:=by omega
 have e20:w.heap.size+1+1≠w.heap.size:=by omega
 have e21:w.heap.size+1+1≠w.heap.size+1:=by omega
 clear h1 h2;go_enter Tryz.func114,Tryz.ntmps114
 go_upto_region 1 with fail
 generalize (((w.alloc (.cells #[.bool b1,.slice A n c] 113)).alloc (.cells #[.bool b2,.slice B m d] 113)).alloc (.cells #[.bool false,.slice none 0 0,.bool false,.slice none 0 0] 115))=W at *;have p0:=cJ.o.cell 0;have p1:=cJ.o.cell 1;have q0:=dI.o.cell 0;have q1:=dI.o.cell 1;have pl:=cJ.o.lt;have ql:=dI.o.lt
 go_upto_if 8 with fail
 go_cut [] (fun wc=>RtS (Rat.divInt y z) w wc)
 case first=>
  cases b2 with
  | true=>
   have kK:z<0:=by simpa using bW.o.symm
   have HH1:Hid (cG W.drew W.drew.heap.size y b1 A n c):=lH (H1.o.up (aD bR));have HH2:Hid (cG W.drew W.drew.heap.size z true B m d):=lH (H2.o.up (aD bR));clear bW
   go_wp2_with fail
   refine nS (S:=fun w'=>Below W.heap.size W w') 4 _ _ (by kernel_rfl) (by kernel_rfl) (by kernel_rfl) rfl rfl (aD bR) (fun hHeld=>?_);simp only [lA,List.take_zero];refine aL 0 rfl ?_;refine aL 2 rfl ?_;refine aU 1 (by kernel_rfl) rfl (fun K hK=>?_);go_simp;refine (EU y b1 A n c W.drew HH1.o).mono ?_;rintro e w3 ⟨cR,b3,A3,n3,c3,rfl,h3⟩;have dR:=lH ((aD (Below.refl W.heap.size W)).trans cR);have H3:=lH h3;have aXv:=lH (HH2.o.up cR);clear cR h3;go_simp;refine hK.out _ _ ?_ (fun hHeld=>?_)
   ·exact dR.o
   clear hK K
   try simp only [Act.put,bP,bO,bN]
   refine aU 3 (by kernel_rfl) rfl (fun K hK=>?_);go_simp;refine (EU z true B m d w3 aXv.o).mono ?_;rintro e w4 ⟨dU,b4,A4,n4,c4,rfl,h4⟩;have bK:=lH (dR.o.tm dU);have H4:=lH h4;have H3b:=lH (H3.o.up dU);clear dU h4 H3;go_simp;refine hK.out _ _ ?_ (fun hHeld=>?_)
   ·exact bK.o
   clear hK K
   try simp only [Act.put,bP,bO,bN]
   refine wpAnyH_done (by kernel_rfl) ?_ _;refine aP (by rfl) ?_;have tO:=lH (cJ.o.bl bK.o);have I7:=lH (dI.o.bl bK.o);have s_:=lH (HR.o.bl bK.o);have HBB:=lH (dB.o.tm bK.o);clear p0 p1 q0 q1 pl ql;have z0:=tO.o.cell 0;have z1:=tO.o.cell 1;have zf:=tO.o.frozen;have zl:=tO.o.lt;go_simp;clear z0 z1 zf zl;generalize UR:(w4.setCell ⟨w.heap.size,0,none⟩ _).setCell ⟨w.heap.size,1,none⟩ _=w5;have aNj:Hid (aG w5 w.heap.size 113 #[.bool b3,.slice A3 n3 c3]):=lH (by rw [<-UR];exact cD tO.o);have qZ:Hid (aG w5 (w.heap.size+1) 113 #[.bool true,.slice B m d]):=lH (by rw [<-UR];exact (I7.o.far e10 _).far e10 _);have aNe:Hid (aG w5 (w.heap.size+1+1) 115 #[.bool false,.slice none 0 0,.bool false,.slice none 0 0]):=lH (by rw [<-UR];exact (s_.o.far e20 _).far e20 _)
   have HBc:Hid (Below w.heap.size w w5):=lH (by rw [<-UR];exact cW HBB.o lR);have HNc:Hid (cG w5 w5.heap.size (-y) b3 A3 n3 c3):=lH (by rw [<-UR];exact (H3b.o.keep (tO.o.cell 0) (by simp) _).keep ((tO.o.set_ 0 (.bool b3)).cell 1) (by simp) _);have HDc:Hid (cG w5 w5.heap.size (-z) b4 A4 n4 c4):=lH (by rw [<-UR];exact (H4.o.keep (tO.o.cell 0) (by simp) _).keep ((tO.o.set_ 0 (.bool b3)).cell 1) (by simp) _);clear UR;refine aP (by rfl) ?_;have z0:=qZ.o.cell 0;have z1:=qZ.o.cell 1;have zf:=qZ.o.frozen;have zl:=qZ.o.lt
   go_wp2_with fail
   clear z0 z1 zf zl;generalize tH:(w5.setCell ⟨w.heap.size+1,0,none⟩ _).setCell ⟨w.heap.size+1,1,none⟩ _=w6;have aNi:Hid (aG w6 w.heap.size 113 #[.bool b3,.slice A3 n3 c3]):=lH (by rw [<-tH];exact (aNj.o.far e01 _).far e01 _);have aNg:Hid (aG w6 (w.heap.size+1) 113 #[.bool b4,.slice A4 n4 c4]):=lH (by rw [<-tH];exact cD qZ.o);have aNd:Hid (aG w6 (w.heap.size+1+1) 115 #[.bool false,.slice none 0 0,.bool false,.slice none 0 0]):=lH (by rw [<-tH];exact (aNe.o.far e21 _).far e21 _);have HBd:Hid (Below w.heap.size w w6):=lH (by rw [<-tH];exact cW HBc.o (Nat.le_succ _));have HNd:Hid (cG w6 w6.heap.size (-y) b3 A3 n3 c3):=lH (by rw [<-tH];exact (HNc.o.keep (qZ.o.cell 0) (by simp) _).keep ((qZ.o.set_ 0 (.bool b4)).cell 1) (by simp) _)
   have HDd:Hid (cG w6 w6.heap.size (-z) b4 A4 n4 c4):=lH (by rw [<-tH];exact (HDc.o.keep (qZ.o.cell 0) (by simp) _).keep ((qZ.o.set_ 0 (.bool b4)).cell 1) (by simp) _);clear tH;obtain ⟨k,hk⟩:∃ k:Nat,-z=(k:Int):=⟨(-z).toNat,by omega⟩;rw [hk] at HDd;have aMs:b4=false:=by rw [HDd.o.eb];exact decide_eq_false (by omega)
   subst aMs;have Y9:Hid (Rat.divInt y z=Rat.divInt (-y) (k:Int)):=lH (by rw [show z=-(k:Int) from by omega];exact KH y k);have kF:0<k:=by omega
   have U0:n3<=35184372088832:=by rw [HNd.o.en,Int.natAbs_neg,<-HYN.o];exact hn
   have hm4:n4<=35184372088832:=by rw [HDd.o.en,<-hk,Int.natAbs_neg,<-HZM.o];exact hm
   clear hk;go_meet
   case rel=>exact ⟨-y,k,b3,A3,n3,c3,A4,n4,c4,kF,Y9.o,HBd.o,aNi.o,aNg.o,aNd.o,HNd.o,HDd.o,U0,hm4⟩
  | false=>
   have kK : 0 < z := by
    have : ¬ z < 0 := by simpa using bW.o.symm
    omega
   obtain ⟨k,rfl⟩:∃ k:Nat,z=(k:Int):=⟨z.toNat,by omega⟩;clear bW;have kF:0<k:=by omega
   go_wp2_with fail
   go_meet
   case rel=>exact ⟨y,k,b1,A,n,c,B,m,d,kF,rfl,dB.o,cJ.o,dI.o,HR.o,H1.o,H2.o,hn,hm⟩
 clear dB cJ dI HR H1 H2 p0 p1 q0 q1 pl ql hn hm hz bW HYN HZM;generalize Rat.divInt y z=q at *;obtain ⟨y,k,b1,A,n,c,B,m,d,kF,hq,hb,yA,xJ,hr,h1,h2,hn,hm⟩:=hcut;have HQ:=lH hq;have HB:=lH hb;have tO:=lH yA;have I7:=lH xJ;have s_:=lH hr;have HY:=lH h1;have HK:=lH h2;clear hq hb yA xJ hr h1 h2;generalize wc=V at *;have qK:w.heap.size<=w.heap.size+1+1:=by omega
 have HKM:Hid (m=dK k):=lH (by rw [HK.o.en,Int.natAbs_natCast]);have p0:=tO.o.cell 0;have p1:=tO.o.cell 1;have pl:=tO.o.lt;have q0:=I7.o.cell 0;have q1:=I7.o.cell 1;have ql:=I7.o.lt
 go_upto_region 3 with fail
 go_cut [23] (fun v wc=>wc=V/\v=.bool (decide (k=1)))
 case first=>
  by_cases JG:m=1
  ·subst JG
   have aMc:k<4294967296:=by
    have:=m9 k;rw [<-HKM.o] at this;exact this
   obtain ⟨bb,bo,LB,pK⟩:=HK.o.rd.form (by omega);subst LB;have JK:=HK.o.rd.at_ (i:=0) (by omega);rw [Int.natAbs_natCast,nA (by omega),Nat.mod_eq_of_lt aMc,Nat.add_zero] at JK;have VD:V.cell? ⟨bb,bo,none⟩=some (.int .u32 (k:Int)):=JK;clear JK;have hkb:((k:Int) == 1)=decide (k=1):=by
    by_cases h:k=1
    ·subst h;rfl
    ·simp [h];omega
   go_wp2_with fail
   go_meet
   case rel=>exact ⟨rfl,rfl⟩
  ·have hmb:((m:Int) == 1)=false:=by simp;omega
   have hkb:decide (k=1)=false:=decide_eq_false fun e=>JG (by rw [HKM.o,e];exact rZ (by decide) (by decide));clear JG
   go_wp2_with fail
   go_meet
   case rel=>exact ⟨rfl,by rw [hkb]⟩
 obtain ⟨KY,rfl⟩:=hcut;subst KY;generalize wc=V at *
 by_cases X7:k=1
 ·subst X7
  have SM:dE V V.heap.size q b1 A n c false B m d:=by
   obtain ⟨e1,e2⟩:=BS (n:=y) (d:=1) (by decide) (Nat.gcd_one_right _);rw [HQ.o];exact ⟨by rw [e1];exact HY.o,by rw [e2];exact HK.o⟩
  have HRT:=lH SM;clear SM;have z0:=s_.o.cell 0;have z1:=s_.o.cell 1;have z2:=s_.o.cell 2;have z3:=s_.o.cell 3;have zf:=s_.o.frozen;have zl:=s_.o.lt
  go_wp2_with fail
  generalize fD:(((V.setCell ⟨_,0,none⟩ _).setCell ⟨_,1,none⟩ _).setCell ⟨_,2,none⟩ _).setCell ⟨_,3,none⟩ _=W9;have iK:=lH (mO (e:=.returned (.agg #[.bool b1,.slice A n c,.bool false,.slice B m d])) HB.o qK s_.o (by simp) (by simp) (by simp) (by simp) HRT.o rfl);rw [fD] at iK;have cQ:Hid (aG W9 _ 115 #[.bool b1,.slice A n c,.bool false,.slice B m d]):=lH (by rw [<-fD];exact fO s_.o);clear fD z0 z1 z2 z3 zf zl;have q0:=cQ.o.cell 0;have q1:=cQ.o.cell 1;have q2:=cQ.o.cell 2;have q3:=cQ.o.cell 3;exact bodyPost_ret (v:=.agg #[.bool b1,.slice A n c,.bool false,.slice B m d]) (by simp [results,Tryz.results114,go_sem,q0,q1,q2,q3]) rfl iK.o
 ·have hkf:decide (k=1)=false:=decide_eq_false X7
  rw [hkf];clear hkf X7
  go_wp2_with fail
  refine (YB y (k:Int) b1 A n c false B m d V HY.o HK.o hn hm).mono ?_;rw [Int.natAbs_natCast];rintro e V2 ⟨bL,bg,Ag,ng,cg,rfl,lE⟩;obtain ⟨g,hgg⟩:∃ g,y.natAbs.gcd k=g:=⟨_,rfl⟩;rw [hgg] at lE;have HGG:=lH hgg;have hg0:0<g:=by rw [<-hgg];exact Nat.gcd_pos_of_pos_right _ kF
  have hbg:bg=false:=by rw [lE.eb];exact decide_eq_false (by omega)
  subst hbg;clear p0 p1 pl q0 q1 ql hgg;have bW:=lH (HB.o.tm bL);have aNk:=lH (tO.o.bl bL);have aNh:=lH (I7.o.bl bL);have aNf:=lH (s_.o.bl bL);have HY2:=lH (HY.o.up bL);have vG:=lH (HK.o.up bL);have fI:=lH lE;clear bL lE HB tO I7 s_ HY HK;have IX:=lH ((Below.refl V2.heap.size V2).alloc lR (.cells #[.bool false,.slice Ag ng cg] 113));have SW:Hid (aG (V2.alloc (.cells #[.bool false,.slice Ag ng cg] 113)) V2.heap.size 113 #[.bool false,.slice Ag ng cg]):=lH (aG.new V2 _ _);have dR:=lH (bW.o.tm IX.o);have yL:=lH (aNk.o.bl IX.o);have aFU:=lH (aNh.o.bl IX.o);have CT:=lH (aNf.o.bl IX.o);have HY3:=lH (HY2.o.up IX.o);have JY:=lH (vG.o.up IX.o);have L3:=lH (fI.o.up IX.o);have f2:V2.heap.size≠w.heap.size:=by have:=aNk.o.lt;omega
  have f3:V2.heap.size≠w.heap.size+1:=by have:=aNh.o.lt;omega
  have f4:V2.heap.size≠w.heap.size+1+1:=by have:=aNf.o.lt;omega
  go_upto_region 6 with fail
  generalize V2.alloc (.cells #[.bool false,.slice Ag ng cg] 113)=V3 at *;generalize V2.heap.size=g5 at *;clear bW aNk aNh aNf HY2 vG fI IX;have N0:Hid (ng=dK g):=lH (by rw [L3.o.en,Int.natAbs_natCast]);have p0:=SW.o.cell 0;have p1:=SW.o.cell 1;have pl:=SW.o.lt
  go_cut [40] (fun v wd=>wd=V3/\v=.bool (decide (g=1)))
  case first=>
   by_cases JG:ng=1
   ·subst JG
    have aMc:g<4294967296:=by
     have:=m9 g;rw [<-N0.o] at this;exact this
    obtain ⟨bb,bo,LB,pK⟩:=L3.o.rd.form (by omega);subst LB;have JK:=L3.o.rd.at_ (i:=0) (by omega);rw [Int.natAbs_natCast,nA (by omega),Nat.mod_eq_of_lt aMc,Nat.add_zero] at JK;have VD:V3.cell? ⟨bb,bo,none⟩=some (.int .u32 (g:Int)):=JK;clear JK;have hkb:((g:Int) == 1)=decide (g=1):=by
     by_cases h:g=1
     ·subst h;rfl
     ·simp [h];omega
    go_wp2_with fail
    go_meet
    case rel=>exact ⟨rfl,rfl⟩
   ·have hmb:((ng:Int) == 1)=false:=by simp;omega
    have hkb:decide (g=1)=false:=decide_eq_false fun e=>JG (by rw [N0.o,e];exact rZ (by decide) (by decide));clear JG
    go_wp2_with fail
    go_meet
    case rel=>exact ⟨rfl,by rw [hkb]⟩
  obtain ⟨KY,rfl⟩:=hcut;subst KY;clear p0 p1 pl;generalize wc=V at *
  by_cases hg1:g=1
  ·subst hg1
   have SM:dE V V.heap.size q b1 A n c false B m d:=by
    obtain ⟨e1,e2⟩:=BS (n:=y) (d:=k) (by omega) HGG.o;rw [HQ.o];exact ⟨by rw [e1];exact HY3.o,by rw [e2];exact JY.o⟩
   have HRT:=lH SM;clear SM;have p0:=yL.o.cell 0;have p1:=yL.o.cell 1;have pl:=yL.o.lt;have q0:=aFU.o.cell 0;have q1:=aFU.o.cell 1;have ql:=aFU.o.lt;have z0:=CT.o.cell 0;have z1:=CT.o.cell 1;have z2:=CT.o.cell 2;have z3:=CT.o.cell 3;have zf:=CT.o.frozen;have zl:=CT.o.lt
   go_wp2_with fail
   generalize fD:(((V.setCell ⟨_,0,none⟩ _).setCell ⟨_,1,none⟩ _).setCell ⟨_,2,none⟩ _).setCell ⟨_,3,none⟩ _=W9;have iK:=lH (mO (e:=.returned (.agg #[.bool b1,.slice A n c,.bool false,.slice B m d])) dR.o qK CT.o (by simp) (by simp) (by simp) (by simp) HRT.o rfl);rw [fD] at iK;have cQ:Hid (aG W9 _ 115 #[.bool b1,.slice A n c,.bool false,.slice B m d]):=lH (by rw [<-fD];exact fO CT.o);clear fD z0 z1 z2 z3 zf zl;have q0:=cQ.o.cell 0;have q1:=cQ.o.cell 1;have q2:=cQ.o.cell 2;have q3:=cQ.o.cell 3;exact bodyPost_ret (v:=.agg #[.bool b1,.slice A n c,.bool false,.slice B m d]) (by simp [results,Tryz.results114,go_sem,q0,q1,q2,q3]) rfl iK.o
  ·have EZ:decide (g=1)=false:=decide_eq_false hg1
   rw [EZ];clear EZ hg1;have p0:=yL.o.cell 0;have p1:=yL.o.cell 1;have pf:=yL.o.frozen;have pl:=yL.o.lt
   go_upto_region 10 with fail
   clear p0 p1 pf pl;generalize DY:V.setCell ⟨w.heap.size,0,none⟩ (.bool false)=V4;have aFW:Hid (aG V4 w.heap.size 113 #[.bool false,.slice A n c]):=lH (by rw [<-DY];exact yL.o.set_at (i:=0) (.bool false) (by simp));have aR4:Hid (aG V4 (w.heap.size+1) 113 #[.bool false,.slice B m d]):=lH (by rw [<-DY];exact aFU.o.far e10 _);have aR2:Hid (aG V4 (w.heap.size+1+1) 115 #[.bool false,.slice none 0 0,.bool false,.slice none 0 0]):=lH (by rw [<-DY];exact CT.o.far e20 _);have aFS:Hid (aG V4 g5 113 #[.bool false,.slice Ag ng cg]):=lH (by rw [<-DY];exact SW.o.far f2 _);have bK:Hid (Below w.heap.size w V4):=lH (by rw [<-DY];exact dR.o.setCell lR _);have HY4:Hid (cG V4 V4.heap.size (y.natAbs:Int) false A n c):=lH (by rw [<-DY];exact UJ (HY3.o.keep (yL.o.cell 0) (by simp) _))
   have HK4:Hid (cG V4 V4.heap.size (k:Int) false B m d):=lH (by rw [<-DY];exact JY.o.keep (yL.o.cell 0) (by simp) _);have HG4:Hid (cG V4 V4.heap.size (g:Int) false Ag ng cg):=lH (by rw [<-DY];exact L3.o.keep (yL.o.cell 0) (by simp) _);have HYB:Hid (b1=decide (y<0)):=lH HY3.o.eb;clear DY yL aFU CT SW dR HY3 JY L3;have hng:ng<=35184372088832:=by rw [N0.o];refine cV (jU (n:=k) (by rw [<-HGG.o];exact Nat.gcd_le_right _ kF)) ?_;rw [<-HKM.o];exact hm
   have p0:=aFW.o.cell 0;have p1:=aFW.o.cell 1;have pl:=aFW.o.lt;have q0:=aFS.o.cell 0;have q1:=aFS.o.cell 1;have ql:=aFS.o.lt
   go_wp2_with fail
   refine (aEZ y.natAbs g false A n c false Ag ng cg V4 HY4.o HG4.o hg0 hn hng).mono ?_;clear p0 p1 pl q0 q1 ql;rintro e V5 ⟨eD,bq,Aq,nq,cq,br,Ar,nr,cr,rfl,hq5,xL⟩;clear xL;have hbq:bq=false:=by rw [hq5.eb];exact decide_eq_false (Int.not_lt.2 (Int.natCast_nonneg _))
   subst hbq;have dX:=lH (bK.o.tm eD);have EB:=lH (aFW.o.bl eD);have aR3:=lH (aR4.o.bl eD);have aR1:=lH (aR2.o.bl eD);have aRY:=lH (aFS.o.bl eD);have HK5:=lH (HK4.o.up eD);have HG5:=lH (HG4.o.up eD);have HQ5:=lH hq5;clear eD hq5 bK aFW aR4 aR2 aFS HY4 HK4 HG4;have p0:=EB.o.cell 0;have p1:=EB.o.cell 1;have pf:=EB.o.frozen;have pl:=EB.o.lt
   go_upto_region 11 with fail
   clear p0 p1 pf pl;generalize tH:(V5.setCell ⟨w.heap.size,0,none⟩ (.bool false)).setCell ⟨w.heap.size,1,none⟩ (.slice Aq nq cq)=V6;have aR6:Hid (aG V6 w.heap.size 113 #[.bool false,.slice Aq nq cq]):=lH (by rw [<-tH];exact cD EB.o);have aFT:Hid (aG V6 (w.heap.size+1) 113 #[.bool false,.slice B m d]):=lH (by rw [<-tH];exact (aR3.o.far e10 _).far e10 _);have aR0:Hid (aG V6 (w.heap.size+1+1) 115 #[.bool false,.slice none 0 0,.bool false,.slice none 0 0]):=lH (by rw [<-tH];exact (aR1.o.far e20 _).far e20 _);have aJa:Hid (aG V6 g5 113 #[.bool false,.slice Ag ng cg]):=lH (by rw [<-tH];exact (aRY.o.far f2 _).far f2 _);have fV:Hid (Below w.heap.size w V6):=lH (by rw [<-tH];exact cW dX.o lR)
   have HQ6:Hid (cG V6 V6.heap.size ((y.natAbs / g:Nat):Int) false Aq nq cq):=lH (by rw [<-tH];exact (HQ5.o.keep (EB.o.cell 0) (by simp) _).keep ((EB.o.set_ 0 (.bool false)).cell 1) (by simp) _);have HK6:Hid (cG V6 V6.heap.size (k:Int) false B m d):=lH (by rw [<-tH];exact (HK5.o.keep (EB.o.cell 0) (by simp) _).keep ((EB.o.set_ 0 (.bool false)).cell 1) (by simp) _);have I9:Hid (cG V6 V6.heap.size (g:Int) false Ag ng cg):=lH (by rw [<-tH];exact (HG5.o.keep (EB.o.cell 0) (by simp) _).keep ((EB.o.set_ 0 (.bool false)).cell 1) (by simp) _);clear tH EB aR3 aR1 aRY dX HQ5 HK5 HG5;have p0:=aFT.o.cell 0;have p1:=aFT.o.cell 1;have pl:=aFT.o.lt;have q0:=aJa.o.cell 0;have q1:=aJa.o.cell 1;have ql:=aJa.o.lt
   go_wp2_with fail
   refine (aEZ k g false B m d false Ag ng cg V6 HK6.o I9.o hg0 hm hng).mono ?_;clear p0 p1 pl q0 q1 ql;rintro e V7 ⟨gY,bk,Ak,nk,ck,br,Ar,nr,cr,rfl,hk7,hr7⟩;clear hr7;have I4:bk=false:=by rw [hk7.eb];exact decide_eq_false (Int.not_lt.2 (Int.natCast_nonneg _))
   subst I4;have iM:=lH (fV.o.tm gY);have aR5:=lH (aR6.o.bl gY);have JW:=lH (aFT.o.bl gY);have aRZ:=lH (aR0.o.bl gY);have HQ7:=lH (HQ6.o.up gY);have HK7:=lH hk7;clear gY hk7 fV aR6 aFT aR0 aJa HQ6 HK6 I9;have p0:=JW.o.cell 0;have p1:=JW.o.cell 1;have pf:=JW.o.frozen;have pl:=JW.o.lt
   go_upto_region 12 with fail
   clear p0 p1 pf pl;generalize MW:(V7.setCell ⟨w.heap.size+1,0,none⟩ (.bool false)).setCell ⟨w.heap.size+1,1,none⟩ (.slice Ak nk ck)=V8;have AP:Hid (aG V8 w.heap.size 113 #[.bool false,.slice Aq nq cq]):=lH (by rw [<-MW];exact (aR5.o.far e01 _).far e01 _);have aJb:Hid (aG V8 (w.heap.size+1) 113 #[.bool false,.slice Ak nk ck]):=lH (by rw [<-MW];exact cD JW.o);have EA:Hid (aG V8 (w.heap.size+1+1) 115 #[.bool false,.slice none 0 0,.bool false,.slice none 0 0]):=lH (by rw [<-MW];exact (aRZ.o.far e21 _).far e21 _);have dF:Hid (Below w.heap.size w V8):=lH (by rw [<-MW];exact cW iM.o (Nat.le_succ _));have HQ8:Hid (cG V8 V8.heap.size ((y.natAbs / g:Nat):Int) false Aq nq cq):=lH (by rw [<-MW];exact (HQ7.o.keep (JW.o.cell 0) (by simp) _).keep ((JW.o.set_ 0 (.bool false)).cell 1) (by simp) _)
   have HK8:Hid (cG V8 V8.heap.size ((k / g:Nat):Int) false Ak nk ck):=lH (by rw [<-MW];exact (HK7.o.keep (JW.o.cell 0) (by simp) _).keep ((JW.o.set_ 0 (.bool false)).cell 1) (by simp) _);clear MW aR5 JW aRZ iM HQ7 HK7;have HNQ:Hid (b1=true->0<nq):=lH fun hb=>by
    rw [HQ8.o.en,Int.natAbs_natCast];have wC:y<0:=by have:=HYB.o;rw [hb] at this;simpa using this.symm
    have hdv:g∣y.natAbs:=by rw [<-HGG.o];exact Nat.gcd_dvd_left _ _
    have:0<y.natAbs / g:=Nat.div_pos (Nat.le_of_dvd (by omega) hdv) hg0;rw [jK (by omega)];omega
   have SM:∀ W,cG W W.heap.size ((y.natAbs / g:Nat):Int) false Aq nq cq->cG W W.heap.size ((k / g:Nat):Int) false Ak nk ck->dE W W.heap.size q b1 Aq nq cq false Ak nk ck:=fun W g1 g2=>by
    obtain ⟨e1,e2⟩:=rM y (d:=k) (by omega);obtain ⟨_,e3⟩:=mP y (d:=k) (by omega);rw [HGG.o] at e1 e3;rw [HQ.o];refine ⟨⟨?_,?_,?_,g1.nc,g1.cm⟩,by rw [e3];exact g2⟩
    ·rw [HYB.o];exact decide_eq_decide.2 e2
    ·rw [e1,g1.en,Int.natAbs_natCast]
    ·rw [e1];have:=g1.rd;rwa [Int.natAbs_natCast] at this
   have HRT:=lH SM;clear SM;have p0:=AP.o.cell 0;have p1:=AP.o.cell 1;have pf:=AP.o.frozen;have pl:=AP.o.lt;cases b1 with
   | true=>
    have hnq:0<nq:=HNQ.o rfl
    go_upto_region 13 with fail
    clear p0 p1 pf pl;generalize DF:V8.setCell ⟨w.heap.size,0,none⟩ (.bool true)=V9;have NY:Hid (aG V9 w.heap.size 113 #[.bool true,.slice Aq nq cq]):=lH (by rw [<-DF];exact AP.o.set_at (i:=0) (.bool true) (by simp));have WB:Hid (aG V9 (w.heap.size+1) 113 #[.bool false,.slice Ak nk ck]):=lH (by rw [<-DF];exact aJb.o.far e10 _);have sZ:Hid (aG V9 (w.heap.size+1+1) 115 #[.bool false,.slice none 0 0,.bool false,.slice none 0 0]):=lH (by rw [<-DF];exact EA.o.far e20 _);have cQ:Hid (Below w.heap.size w V9):=lH (by rw [<-DF];exact dF.o.setCell lR _);have aM5:Hid (dE V9 V9.heap.size q true Aq nq cq false Ak nk ck):=lH (by rw [<-DF];exact HRT.o _ (HQ8.o.keep (AP.o.cell 0) (by simp) _) (HK8.o.keep (AP.o.cell 0) (by simp) _));clear DF AP aJb EA dF HQ8 HK8 HRT;have p0:=NY.o.cell 0;have p1:=NY.o.cell 1;have pl:=NY.o.lt;have q0:=WB.o.cell 0
    have q1:=WB.o.cell 1;have ql:=WB.o.lt;have z0:=sZ.o.cell 0;have z1:=sZ.o.cell 1;have z2:=sZ.o.cell 2;have z3:=sZ.o.cell 3;have zf:=sZ.o.frozen;have zl:=sZ.o.lt
    go_wp2_with fail
    generalize fD:(((V9.setCell ⟨_,0,none⟩ _).setCell ⟨_,1,none⟩ _).setCell ⟨_,2,none⟩ _).setCell ⟨_,3,none⟩ _=W9;have iK:=lH (mO (e:=.returned (.agg #[.bool true,.slice Aq nq cq,.bool false,.slice Ak nk ck])) cQ.o qK sZ.o (by simp) (by simp) (by simp) (by simp) aM5.o rfl);rw [fD] at iK;have cQ:Hid (aG W9 _ 115 #[.bool true,.slice Aq nq cq,.bool false,.slice Ak nk ck]):=lH (by rw [<-fD];exact fO sZ.o);clear fD z0 z1 z2 z3 zf zl;have q0:=cQ.o.cell 0;have q1:=cQ.o.cell 1;have q2:=cQ.o.cell 2;have q3:=cQ.o.cell 3;exact bodyPost_ret (v:=.agg #[.bool true,.slice Aq nq cq,.bool false,.slice Ak nk ck]) (by simp [results,Tryz.results114,go_sem,q0,q1,q2,q3]) rfl iK.o
   | false=>
    go_upto_region 13 with fail
    clear p0 p1 pf pl;generalize DF:V8.setCell ⟨w.heap.size,0,none⟩ (.bool false)=V9;have NY:Hid (aG V9 w.heap.size 113 #[.bool false,.slice Aq nq cq]):=lH (by rw [<-DF];exact AP.o.set_at (i:=0) (.bool false) (by simp));have WB:Hid (aG V9 (w.heap.size+1) 113 #[.bool false,.slice Ak nk ck]):=lH (by rw [<-DF];exact aJb.o.far e10 _);have sZ:Hid (aG V9 (w.heap.size+1+1) 115 #[.bool false,.slice none 0 0,.bool false,.slice none 0 0]):=lH (by rw [<-DF];exact EA.o.far e20 _);have cQ:Hid (Below w.heap.size w V9):=lH (by rw [<-DF];exact dF.o.setCell lR _);have aM5:Hid (dE V9 V9.heap.size q false Aq nq cq false Ak nk ck):=lH (by rw [<-DF];exact HRT.o _ (HQ8.o.keep (AP.o.cell 0) (by simp) _) (HK8.o.keep (AP.o.cell 0) (by simp) _));clear DF AP aJb EA dF HQ8 HK8 HRT;have p0:=NY.o.cell 0;have p1:=NY.o.cell 1;have pl:=NY.o.lt;have q0:=WB.o.cell 0
    have q1:=WB.o.cell 1;have ql:=WB.o.lt;have z0:=sZ.o.cell 0;have z1:=sZ.o.cell 1;have z2:=sZ.o.cell 2;have z3:=sZ.o.cell 3;have zf:=sZ.o.frozen;have zl:=sZ.o.lt
    go_wp2_with fail
    generalize fD:(((V9.setCell ⟨_,0,none⟩ _).setCell ⟨_,1,none⟩ _).setCell ⟨_,2,none⟩ _).setCell ⟨_,3,none⟩ _=W9;have iK:=lH (mO (e:=.returned (.agg #[.bool false,.slice Aq nq cq,.bool false,.slice Ak nk ck])) cQ.o qK sZ.o (by simp) (by simp) (by simp) (by simp) aM5.o rfl);rw [fD] at iK;have cQ:Hid (aG W9 _ 115 #[.bool false,.slice Aq nq cq,.bool false,.slice Ak nk ck]):=lH (by rw [<-fD];exact fO sZ.o);clear fD z0 z1 z2 z3 zf zl;have q0:=cQ.o.cell 0;have q1:=cQ.o.cell 1;have q2:=cQ.o.cell 2;have q3:=cQ.o.cell 3;exact bodyPost_ret (v:=.agg #[.bool false,.slice Aq nq cq,.bool false,.slice Ak nk ck]) (by simp [results,Tryz.results114,go_sem,q0,q1,q2,q3]) rfl iK.o
end
