import Derived.Test.YthgdchffeigkbaaGreatDoorW21
set_option linter.unusedVariables false
set_option linter.unusedSimpArgs false
namespace Go.Proofs.YthgdchffeigkbaaGreatDoor
set_option maxHeartbeats 8000000
set_option maxRecDepth 100000
section
theorem T1{x:bK}{ms:List Mi}{v:List Vc}(h:jB x ms v=true):x.nodes.length<=8/\x.brs.length<=10/\(∀m∈ms,m.txt.size<=24):=by
 unfold jB at h;simp only[Bool.and_eq_true,decide_eq_true_eq,List.all_eq_true] at h;exact⟨h.1.1.1,h.1.1.2,h.1.2⟩
end
section
open Go.ChangeShapes Go.WideShapes Go.ChangeAt Go.RowKit
attribute [local go_sem ↓] aE
attribute [local go_sem] aL aK aO a_
theorem aPo(h:bZ)(x:bK)(I:OA)(ni ci:Nat)(ps:List Int)(A:OA)(n c:Nat)(ms0:List Mi)(w:Wo)(r:cL w w.heap.size h x)(hp:pK w w.heap.size I ni ps)(hni:ni<=9223372036854775807)(hm:eB w w.heap.size A n ms0)(hnc:n<=c)(hc:c<=9223372036854775807)(ht:fL w):Calls Tryz.prog 3 #[.agg h.cells,.slice I ni ci,.slice A n c] w fun e w'=>e=.returned (.bool true)/\Below w.heap.size w w':=by
 obtain⟨k,hk8,rR,aER⟩:∃k:Nat,k<=8/\k<=n/\min (n:Int) 8=(k:Int):=by
  by_cases h:(8:Int)<(n:Int)
  ·exact⟨8,by omega,by omega,by omega⟩
  ·exact⟨n,by omega,by omega,by omega⟩
 have hkc:(k:Int)<=(c:Int):=by omega
 have FV:=hm.take rR;generalize hms:ms0.take k=ms at *;clear hms hm;have K0:=jO w (.cells h.cells 29);obtain⟨HK,P0,HX,HM,HI⟩:=iS K0 (aD.new w 29 h.cells) (r.up K0) (FV.bm K0) (hp.bm K0);have HT:=lH (ht.up K0);have lB:Hid (ms.length=k):=lH FV.1;have eC:Hid (w.heap.size<=(w.alloc (.cells h.cells 29)).heap.size):=lH K0.size;clear K0 FV r ht hp;obtain⟨D0,r0,s0,D1,r1,s1,D2,r2,s2,D3,r3,s3,D4,r4,s4,D5,r5,s5⟩:=h;go_enter Tryz.func3,Tryz.ntmps3
 go_wp2_with fail
 generalize w.alloc (.cells (bZ.cells ⟨D0,r0,s0,D1,r1,s1,D2,r2,s2,D3,r3,s3,D4,r4,s4,D5,r5,s5⟩) 29)=W at *;have HK:=lH (HK.o.trans ((Below.refl W.heap.size W).mono eC.o));refine(Q7 W HT.o).mono ?_;rintro e w0 ⟨rfl,IL⟩;have HB:=cJ HK IL;replace P0:=lH (P0.o.bl IL);replace HM:=lH (HM.o.bm IL);replace HX:=lH (HX.o.up IL);replace HI:=lH (HI.o.bm IL);replace HT:=lH (HT.o.up IL);clear IL HK eC;obtain⟨y0,y1,y2,y3,y4,y5,nf,nlt⟩:=aX P0.o;dsimp only at y0 y1 y2 y3 y4 y5
 go_wp2_with fail
 clear y0 y1 y2 y3 y4 y5 nf nlt;refine(KW _ x A k c ms none 0 0 [] w0 HX.o HM.o (aDv _ _) (by omega) (by decide)).mono ?_;rintro e w2 ⟨rfl,bH⟩;replace HB:=lH (HB.o.tm bH);replace P0:=lH (P0.o.bl bH);replace HM:=lH (HM.o.bm bH);replace HX:=lH (HX.o.up bH);replace HI:=lH (HI.o.bm bH);replace HT:=lH (HT.o.up bH);clear bH;cases hsm:jB x ms [] with
 | false=>
  (go_wp2_with fail);go_ret;exact⟨rfl,HB.o⟩
 | true=>
 obtain⟨h8,h10,aPF⟩:=T1 hsm;have HZ:Hid (∀m∈ms,m.txt.size<=maxLen):=lH fun m hm=>b_ (aPF m hm) (by decide);clear hsm aPF h10;obtain⟨y0,y1,y2,y3,y4,y5,nf,nlt⟩:=aX P0.o;dsimp only at y0 y1 y2 y3 y4 y5
 go_wp2_with fail
 clear y0 y1 y2 y3 y4 y5 nf nlt;refine(yX _ x h8 I ni ci ps A k c ms w2 HX.o HI.o hni HM.o HZ.o (by omega) HT.o).mono ?_;rintro e w3 ⟨dK,A3,n3,c3,B3,m3,d3,M3,k3,e3,bt,rfl,NN⟩;have hz:=jO w3 (.cells #[.slice A3 n3 c3,.slice B3 m3 d3] 37);have oY:=dK.tm hz;replace HB:=lH (HB.o.tm oY);replace P0:=lH (P0.o.bl oY);replace HX:=lH (HX.o.up oY);replace HT:=lH (HT.o.up oY);obtain⟨PS,H3,SP⟩:=dZ (aD.new w3 37 #[.slice A3 n3 c3,.slice B3 m3 d3]) NN hz;clear dK hz oY NN HM HI
 go_upto_region 7 with fail
 generalize w3.alloc (.cells #[.slice A3 n3 c3,.slice B3 m3 d3] 37)=w4 at *;generalize mO:w3.heap.size=gs at *;cases bt with
 | false=>
  (go_wp2_with fail);go_ret;exact⟨rfl,HB.o⟩
 | true=>
 obtain⟨mD,⟨ha,YQ,ha2⟩,⟨hb,bO,bH⟩,aW⟩:=H3.o rfl;have bM:=lH mD;have hgz:gs<=w4.heap.size:=by rw[<-mO];exact SP.o.size
 have HA:=lH ((ha.below SP.o lR).more hgz);have o3:=lH ((hb.below SP.o lR).more hgz);obtain⟨hr,hl1,hl2⟩:=(aW.keep (by rw[mO];exact SP.o)).rd2;have HN:Hid (k3<=8):=lH (by have h:=hr.1;rw[iT,lB.o] at h;omega);have HM:=lH hr;have HZ2:Hid (∀m∈ms.map (dQ x (iJ x ps)),m.txt.size<=maxLen):=lH fun m hm=>by
  obtain⟨m0,h0,rfl⟩:=List.mem_map.1 hm;exact TR (mD.fm m0 h0)
 clear mD ha hb aW hr H3 SP hgz mO hl1 hl2 HZ lB;obtain⟨y0,y1,y2,y3,y4,y5,nf,nlt⟩:=aX P0.o;dsimp only at y0 y1 y2 y3 y4 y5
 go_wp2_with fail
 clear y0 y1 y2 y3 y4 y5 nf nlt;refine(CI _ x h8 M3 k3 e3 (ms.map (dQ x (iJ x ps))) w4 HX.o HM.o HZ2.o (b_ HN.o (by decide)) HT.o).mono ?_;rintro e w5 ⟨eJ,iH⟩;have d_:=cJ HB eJ;replace PS:=lH (PS.out.bl eJ);replace HA:=lH (HA.o.bm eJ);replace o3:=lH (o3.o.bm eJ);clear P0 HX HM;rcases iH with⟨d,hd,-,rfl⟩ | ⟨hE,OS,A5,n5,c5,B5,m5,d5,rfl,⟨hs5,aPZ,aII⟩,JR,aQU,aIV⟩
 ·have hB:(d != 0)=true:=by simp[hd]
  clear eJ;(go_wp2_with fail);go_ret;exact⟨rfl,d_.o.alloc d_.o.size _⟩
 ·obtain⟨mP,iP,EK⟩:=hE.zero rfl
  obtain⟨e1,-⟩:=aFB (x:=x) (al:=iJ x ps) bM.o.fm bM.o.ck PK iP;rw[e1] at hs5 JR;have hz:=jO w5 (.cells #[.slice A5 n5 c5,.slice B5 m5 d5] 37);have gQ:=cJ d_ hz;obtain⟨HA5,HF5,PT⟩:=dZ (hs5.bm hz) (JR.bm hz) (aD.new w5 37 #[.slice A5 n5 c5,.slice B5 m5 d5]);replace PS:=lH (PS.out.bl hz);replace HA:=lH (HA.o.bm hz);replace o3:=lH (o3.o.bm hz);clear eJ hz hs5 JR HB d_ hE OS mP iP EK e1;(go_upto_region 10 with fail);generalize w5.alloc (.cells #[.slice A5 n5 c5,.slice B5 m5 d5] 37)=w6 at *;generalize w5.heap.size=gt at *;obtain⟨q0,ql⟩:=PS.out.b1;obtain⟨t0,tl⟩:=PT.out.b1;(go_wp2_with fail);refine(nZ A3 n3 c3 _ A5 n5 c5 _ w6 HA.o HA5.o (by unfold maxLen at ha2;omega) (by unfold maxLen at aII;omega)).mono ?_;rintro e w7 ⟨rfl,iA⟩;rw[decide_eq_true rfl];have lG:=cJ gQ iA;replace PS:=lH (PS.out.bl iA);replace PT:=lH (PT.out.bl iA);replace o3:=lH (o3.o.bm iA);replace HF5:=lH (HF5.o.bm iA);clear iA q0 ql t0 tl HA HA5 gQ;have q1:=PS.out.cell 1;have ql:=PS.out.lt;have t1:=PT.out.cell 1;have tl:=PT.out.lt;(go_wp2_with fail);refine(nZ B3 m3 d3 _ B5 m5 d5 _ w7 o3.o HF5.o (by unfold maxLen at bH;omega) (by unfold maxLen at aIV;omega)).mono ?_;rintro e w8 ⟨rfl,fJ⟩;rw[decide_eq_true rfl];have dS:=cJ lG fJ;clear fJ q1 ql t1 tl o3 HF5 lG;(go_wp2_with fail);go_ret;exact⟨rfl,dS.o⟩
end
