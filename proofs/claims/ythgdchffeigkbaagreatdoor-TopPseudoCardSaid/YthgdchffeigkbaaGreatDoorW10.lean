import Derived.Test.YthgdchffeigkbaaGreatDoorW07
import Derived.Test.YthgdchffeigkbaaGreatDoorW08
set_option linter.unusedVariables false
set_option linter.unusedSimpArgs false
namespace Go.Proofs.YthgdchffeigkbaaGreatDoor
set_option maxHeartbeats 8000000
set_option maxRecDepth 100000
variable {B b e i j k : Nat} {a u : Fn}
section
open Go.ChangeShapes Go.WideShapes Go.ChangeAt Go.RowKit Go.Joins Go.Deep Go.Maps
attribute [local go_sem ↓] aE
attribute [local go_sem] aL aK aO a_
theorem VU(w:Wo)(row:Option Nat):w.grownBy w row:=⟨rfl,rfl,rfl,lR,fun _ _ _=>rfl⟩
theorem Ck.start{w:Wo}{h:bZ}{x:bK}(hS:jJ w b 0 [])(r:cL w w.heap.size h x):Ck w w b h.A0 h.n0 x.nodes h x []:=⟨VU _ _,hS,r.r0,r⟩
theorem SE(h:bZ)(x:bK)(w:Wo)(r:cL w w.heap.size h x)(hl:mG x):Calls Tryz.prog 58 #[.agg h.cells] w fun e w'=>e=.returned (.int .i64 (iV x))/\Below w.heap.size w w':=by
 have HR:=lH (show iV x=2 by unfold iV;rw[if_pos hl]);have K0:=jO w (.cells h.cells 29);have HK:=lH K0;have l0:=r.r0.1;have l1:=r.r1.1;have l2:=r.r2.1;have l3:=r.r3.1;have l4:=r.r4.1;have l5:=r.r5.1;have i0:=r.m0;have i1:=r.m1;have i2:=r.m2;have i3:=r.m3;have i4:=r.m4;have i5:=r.m5;unfold mG at hl;rw[l0,l1,l2,l3,l4,l5] at hl;clear K0 l0 l1 l2 l3 l4 l5 r;obtain⟨A0,m0,c0,A1,m1,c1,A2,m2,c2,A3,m3,c3,A4,m4,c4,A5,m5,c5⟩:=h;dsimp only[bZ.cells] at *;by_cases h0:24<m0
 ·clear hl
  go_enter Tryz.func58,Tryz.ntmps58
  (go_wp2_with fail);go_ret;exact⟨aU HR.o.symm,HK.o⟩
 ·skip
  by_cases h1:32<m1
  ·clear hl
   go_enter Tryz.func58,Tryz.ntmps58
   (go_wp2_with fail);go_ret;exact⟨aU HR.o.symm,HK.o⟩
  ·skip
   by_cases h2:24<m2
   ·clear hl
    go_enter Tryz.func58,Tryz.ntmps58
    (go_wp2_with fail);go_ret;exact⟨aU HR.o.symm,HK.o⟩
   ·skip
    by_cases h3:10<m3
    ·clear hl
     go_enter Tryz.func58,Tryz.ntmps58
     (go_wp2_with fail);go_ret;exact⟨aU HR.o.symm,HK.o⟩
    ·skip
     by_cases h4:12<m4
     ·clear hl
      go_enter Tryz.func58,Tryz.ntmps58
      (go_wp2_with fail);go_ret;exact⟨aU HR.o.symm,HK.o⟩
     ·skip
      have h5:4<m5:=by omega
      clear hl;go_enter Tryz.func58,Tryz.ntmps58
      (go_wp2_with fail);go_ret;exact⟨aU HR.o.symm,HK.o⟩
theorem SD(h:bZ)(x:bK)(w:Wo)(r:cL w w.heap.size h x)(hl:¬mG x):Calls Tryz.prog 58 #[.agg h.cells] w fun e w'=>e=.returned (.int .i64 (iV x))/\Below w.heap.size w w':=by
 have HW0:Hid (iV x=ck0 x):=lH (by unfold iV;rw[if_neg hl]);have l0:=r.r0.1;have l1:=r.r1.1;have l2:=r.r2.1;have l3:=r.r3.1;have l4:=r.r4.1;have l5:=r.r5.1;unfold mG at hl;rw[l0,l1,l2,l3,l4,l5] at hl;obtain⟨A0,m0,c0,A1,m1,c1,A2,m2,c2,A3,m3,c3,A4,m4,c4,A5,m5,c5⟩:=h;dsimp only[bZ.cells] at *;have a2W:m0<=24:=by omega
 have FV:m1<=32:=by omega
 have wM:m2<=24:=by omega
 have hm3:m3<=10:=by omega
 have hm4:m4<=12:=by omega
 have hm5:m5<=4:=by omega
 have VJ:m0<=9223372036854775807:=by omega
 clear hl l0 l1 l2 l3 l4 l5;generalize hnd:x.nodes=nodes;have DU:=lH hnd;have K1:Below w.heap.size w (((w.alloc (.cells #[.slice A0 m0 c0,.slice A1 m1 c1,.slice A2 m2 c2,.slice A3 m3 c3,.slice A4 m4 c4,.slice A5 m5 c5] 29)).alloc (.map #[] 0)).alloc (.cells #[.map (some (w.heap.size+1)),.slice A0 m0 c0] 161)):=((bA).alloc (by simp) _).alloc (by simp;omega) _;have bH:Below (w.heap.size+1+1) ((w.alloc (.cells #[.slice A0 m0 c0,.slice A1 m1 c1,.slice A2 m2 c2,.slice A3 m3 c3,.slice A4 m4 c4,.slice A5 m5 c5] 29)).alloc (.map #[] 0)) (((w.alloc (.cells #[.slice A0 m0 c0,.slice A1 m1 c1,.slice A2 m2 c2,.slice A3 m3 c3,.slice A4 m4 c4,.slice A5 m5 c5] 29)).alloc (.map #[] 0)).alloc (.cells #[.map (some (w.heap.size+1)),.slice A0 m0 c0] 161)):=bR.alloc (by simp) _;have hS0:jJ (((w.alloc (.cells #[.slice A0 m0 c0,.slice A1 m1 c1,.slice A2 m2 c2,.slice A3 m3 c3,.slice A4 m4 c4,.slice A5 m5 c5] 29)).alloc (.map #[] 0)).alloc (.cells #[.map (some (w.heap.size+1)),.slice A0 m0 c0] 161)) (w.heap.size+1) 0 []:=by
  have h0:=jJ.made (w.alloc (.cells #[.slice A0 m0 c0,.slice A1 m1 c1,.slice A2 m2 c2,.slice A3 m3 c3,.slice A4 m4 c4,.slice A5 m5 c5] 29));have h1:=h0.below (bR.alloc lR (.cells #[.map (some (w.heap.size+1)),.slice A0 m0 c0] 161));simpa using h1
 have HC:=lH (Ck.start hS0 (r.up K1));have sW:Hid (aD (((w.alloc (.cells #[.slice A0 m0 c0,.slice A1 m1 c1,.slice A2 m2 c2,.slice A3 m3 c3,.slice A4 m4 c4,.slice A5 m5 c5] 29)).alloc (.map #[] 0)).alloc (.cells #[.map (some (w.heap.size+1)),.slice A0 m0 c0] 161)) w.heap.size 29 #[.slice A0 m0 c0,.slice A1 m1 c1,.slice A2 m2 c2,.slice A3 m3 c3,.slice A4 m4 c4,.slice A5 m5 c5]):=lH (((aD.new w _ _).alloc _).alloc _);have BW:Hid (aD (((w.alloc (.cells #[.slice A0 m0 c0,.slice A1 m1 c1,.slice A2 m2 c2,.slice A3 m3 c3,.slice A4 m4 c4,.slice A5 m5 c5] 29)).alloc (.map #[] 0)).alloc (.cells #[.map (some (w.heap.size+1)),.slice A0 m0 c0] 161)) (w.heap.size+1+1) 161 #[.map (some (w.heap.size+1)),.slice A0 m0 c0]):=lH (aD.new_ (by simp));have pM:=lH HC.o.net;have JJ:Hid (∀{w':Wo},(((w.alloc (.cells #[.slice A0 m0 c0,.slice A1 m1 c1,.slice A2 m2 c2,.slice A3 m3 c3,.slice A4 m4 c4,.slice A5 m5 c5] 29)).alloc (.map #[] 0)).alloc (.cells #[.map (some (w.heap.size+1)),.slice A0 m0 c0] 161)).grownBy w' (some (w.heap.size+1))->Below w.heap.size w w'):=
  lH fun hg=>y_ K1 hg (by omega) lR
 obtain⟨y0,y1,y2,y3,y4,y5,nf,nlt⟩:=aX (h:=⟨A0,m0,c0,A1,m1,c1,A2,m2,c2,A3,m3,c3,A4,m4,c4,A5,m5,c5⟩) sW.o;rw[hnd] at HC;clear r hnd K1 bH hS0;have Q9:=@run_makeMap Tryz.prog;go_enter Tryz.func58,Tryz.ntmps58
 go_wp2_with fail
 clear Q9;generalize hWW:(((w.alloc (.cells #[.slice A0 m0 c0,.slice A1 m1 c1,.slice A2 m2 c2,.slice A3 m3 c3,.slice A4 m4 c4,.slice A5 m5 c5] 29)).alloc (.map #[] 0)).alloc (.cells #[.map (some (w.heap.size+1)),.slice A0 m0 c0] 161))=W0 at *;clear hWW;have aKG:Hid (x.nodes.length=m0):=lH pM.o.r0.1
 go_loopw [55] (fun i wr=>∃(k:Nat)(seen0:List ByteArray),k<=m0/\i=.int .i64 k/\Ck W0 wr (w.heap.size+1) A0 m0 nodes ⟨A0,m0,c0,A1,m1,c1,A2,m2,c2,A3,m3,c3,A4,m4,c4,A5,m5,c5⟩ x seen0/\aD wr (w.heap.size+1+1) 161 #[.map (some (w.heap.size+1)),.slice A0 m0 c0]/\aD wr w.heap.size 29 #[.slice A0 m0 c0,.slice A1 m1 c1,.slice A2 m2 c2,.slice A3 m3 c3,.slice A4 m4 c4,.slice A5 m5 c5]/\seen0.length<=k/\bG (uD nodes) id [] x.nodes=bG (uD nodes) id seen0 (x.nodes.drop k)) (fun i _=>m0-(intOf i).toNat)
 case atStart=>exact⟨0,[],by omega,rfl,HC.o,BW.o,sW.o,by simp,rfl⟩
 case round=>
  clear HC BW sW pM;obtain⟨k,seen0,hk,rfl,hC,pH,nR,II,oR⟩:=hrel;obtain⟨HC,BW,sW,lQ⟩:=h_ hC pH nR oR;obtain⟨g0,g1,gf,glt⟩:=lX pH;obtain⟨y0,y1,y2,y3,y4,y5,nf,nlt⟩:=aX (h:=⟨A0,m0,c0,A1,m1,c1,A2,m2,c2,A3,m3,c3,A4,m4,c4,A5,m5,c5⟩) nR;have VQ:=hC.sn.lt;have pM:=lH hC.net;clear hC pH nR oR;by_cases aR:k<m0
  ·obtain⟨z,hz⟩:∃z,x.nodes[k]?=some z:=eE (by have:=aKG.out;omega)
   obtain⟨bz,oz,hA,oY⟩:=HC.o.net.r0.form (by dsimp only;omega);dsimp only at hA;subst hA;have e0:=HC.o.net.r0.at_ hz;have hzn:=HC.o.net.z0 z (bS hz);have HZ:=lH (bX hz);clear hz;(go_wp2_with fail);refine(nK (w.heap.size+1) _ _ m0 c0 nodes seen0 z _ 0 0 [] _ HC.o.rn VJ HC.o.sn (by omega) hzn (K4 _ _ _) (by omega)).mono ?_;generalize hR:m9 nodes seen0 z []=r;rintro e w2 ⟨rfl,lM,RI⟩;have pH:=aD.grown BW.o lM (fun e=>by injection e;omega);have nR:=aD.grown sW.o lM (fun e=>by injection e;omega);obtain⟨jA,mZ,Hg2,JA,DT⟩:=iS (fR HC.o.gr lM) RI lM pH nR;have xN:=lH hR;clear lM RI pH nR hR e0;by_cases gC:r=0
   ·subst gC
    have HC3:=lH (HC.o.put Hg2.o (mZ.o rfl));have hf:uD nodes seen0 z=0:=xN.o;have HF:=lH hf;clear hf;(go_wp2_with fail);go_roundw
    case rel=>exact⟨k+1,z::seen0,by omega,by go_num,HC3.o,JA.o,DT.o,by simp;omega,by rw[lQ.o];exact pR HZ.o HF.o⟩
    case measure=>simp[intOf];omega
   ·have EE:(r != 0)=true:=by simpa using gC
    have hr:(bG (uD nodes) id [] x.nodes).1=r:=by rw[lQ.o];exact d9 HZ.o xN.o gC
    have rY:=lH hr;have F4:=lH gC;clear hr gC;(go_wp2_with fail);go_ret;exact⟨aU (by rw[HW0.o];unfold ck0;rw[(show uD x.nodes=uD nodes by rw[DU.o]),if_pos (by rw[rY.o];exact F4.o),rY.o]),JJ.o jA.o⟩
  ·have hd:x.nodes.drop k=[]:=by rw[List.drop_eq_nil_iff];have:=aKG.out;omega
   have hr:bG (uD nodes) id [] x.nodes=(0,seen0):=by rw[lQ.o,hd];rfl
   have HL0:=lH hr;have a0J:seen0.length<=m0:=by omega
   clear hd hr II;have HW1:Hid (iV x=ck1 x seen0):=lH (by rw[HW0.o];unfold ck0;rw[show uD x.nodes=uD nodes by rw[DU.o],HL0.o];rfl);(go_wp2_with fail);have aKF:Hid (x.sws.length=m1):=lH pM.o.r1.1
   go_loopw [69] (fun i wr=>∃(k:Nat)(seen1:List ByteArray),k<=m1/\i=.int .i64 k/\Ck W0 wr (w.heap.size+1) A0 m0 nodes ⟨A0,m0,c0,A1,m1,c1,A2,m2,c2,A3,m3,c3,A4,m4,c4,A5,m5,c5⟩ x seen1/\aD wr (w.heap.size+1+1) 161 #[.map (some (w.heap.size+1)),(.slice A0 m0 c0)]/\aD wr w.heap.size 29 #[.slice A0 m0 c0,.slice A1 m1 c1,.slice A2 m2 c2,.slice A3 m3 c3,.slice A4 m4 c4,.slice A5 m5 c5]/\seen1.length<=seen0.length+k/\bG (fSw nodes) Sw.name seen0 x.sws=bG (fSw nodes) Sw.name seen1 (x.sws.drop k)) (fun i _=>m1-(intOf i).toNat)
   case atStart=>exact⟨0,seen0,by omega,rfl,HC.o,BW.o,sW.o,by omega,rfl⟩
   case round=>
    clear HC BW sW pM;obtain⟨k,seen1,hk,rfl,hC,pH,nR,II,oR⟩:=hrel;obtain⟨HC,BW,sW,lQ⟩:=h_ hC pH nR oR;obtain⟨g0,g1,gf,glt⟩:=lX pH;obtain⟨y0,y1,y2,y3,y4,y5,nf,nlt⟩:=aX (h:=⟨A0,m0,c0,A1,m1,c1,A2,m2,c2,A3,m3,c3,A4,m4,c4,A5,m5,c5⟩) nR;have VQ:=hC.sn.lt;have pM:=lH hC.net;clear hC pH nR oR;by_cases aR:k<m1
    ·obtain⟨z,hz⟩:∃z,x.sws[k]?=some z:=eE (by have:=aKF.out;omega)
     obtain⟨bz,oz,hA,oY⟩:=HC.o.net.r1.form (by dsimp only;omega);dsimp only at hA;subst hA;obtain⟨e0,e1,e2,e3,e4⟩:=HC.o.net.r1.at_ hz;have hzn:=HC.o.net.z1 z (bS hz);have HZ:=lH (bX hz);clear hz;(go_wp2_with fail);have hB:=DM wr (.cells #[.string z.name,.string z.a,.string z.b,.bool z.breaker,.bool z.opn] 148) (.cells #[.string z.a,.string z.b] 9);have hE:bD ((wr.alloc (.cells #[.string z.name,.string z.a,.string z.b,.bool z.breaker,.bool z.opn] 148)).alloc (.cells #[.string z.a,.string z.b] 9)) ((wr.alloc (.cells #[.string z.name,.string z.a,.string z.b,.bool z.breaker,.bool z.opn] 148)).alloc (.cells #[.string z.a,.string z.b] 9)).heap.size (some ⟨wr.heap.size+1,0,none⟩) 2 [z.a,z.b]:=nG (zs:=[z.a,z.b]) (aD.new_ (by simp)) (by simp);have xJ:=HC.o.below hB;refine(nK (w.heap.size+1) _ _ m0 c0 nodes seen1 z.name _ 2 2 [z.a,z.b] _ xJ.rn VJ xJ.sn (by omega) hzn hE (by omega)).mono ?_;generalize hR:m9 nodes seen1 z.name [z.a,z.b]=r;rintro e w2 ⟨rfl,lM,RI⟩;have LN:aD w2 wr.heap.size 148 #[.string z.name,.string z.a,.string z.b,.bool z.breaker,.bool z.opn]:=aD.grown ((aD.new wr _ _).alloc _) lM (fun e=>by injection e;omega);have pH:aD w2 (w.heap.size+1+1) 161 #[.map (some (w.heap.size+1)),(.slice A0 m0 c0)]:=aD.grown (BW.o.bl hB) lM (fun e=>by injection e;omega);have nR:=aD.grown (sW.o.bl hB) lM (fun e=>by injection e;omega);obtain⟨jA,mZ,TJ,Hg2⟩:=h_ (fR xJ.gr lM) RI xJ lM;obtain⟨f0,f1,f2,f3,f4,ff,flt⟩:=Sw.box LN;obtain⟨JA,DT,xN⟩:=dZ pH nR hR;clear hB hE xJ lM RI LN pH nR hR e0 e1 e2 e3 e4;by_cases gC:r=0
     ·subst gC
      have HC3:=lH (TJ.o.put Hg2.o (mZ.o rfl));have hf:fSw nodes seen1 z=0:=by unfold fSw Sw.bad;rw[xN.o];simp[]
      have HF:=lH hf;clear hf
      go_wp2_with (first | (go_at_call 130;refine(cS _ _).mono ?_;rintro e w' ⟨rfl,rfl⟩) | (go_at_call 129;refine(dY _ _ _ _).mono ?_;rintro e w' ⟨rfl,rfl⟩))
      go_roundw
      case rel=>exact⟨k+1,z.name::seen1,by omega,by go_num,HC3.o,JA.o,DT.o,by simp;omega,by rw[lQ.o];exact pR HZ.o HF.o⟩
      case measure=>simp[intOf];omega
     ·have EE:(r != 0)=true:=by simpa using gC
      have hf:fSw nodes seen1 z=r:=by unfold fSw;rw[xN.o,if_pos gC]
      have hr:(bG (fSw nodes) Sw.name seen0 x.sws).1=r:=by rw[lQ.o];exact d9 HZ.o hf gC
      have rY:=lH hr;have F4:=lH gC;clear hf hr gC;(go_wp2_with fail);go_ret;exact⟨aU (by rw[HW1.o];unfold ck1;rw[DU.o,if_pos (by rw[rY.o];exact F4.o),rY.o]),JJ.o jA.o⟩
    ·have hd:x.sws.drop k=[]:=by rw[List.drop_eq_nil_iff];have:=aKF.out;omega
     have hr:bG (fSw nodes) Sw.name seen0 x.sws=(0,seen1):=by rw[lQ.o,hd];rfl
     have HL1:=lH hr;have a0I:seen1.length<=seen0.length+m1:=by omega
     clear hd hr II;have YJ:=pM;have HW2:Hid (iV x=ck2 x seen1):=lH (by rw[HW1.o];unfold ck1;rw[DU.o,HL1.o];rfl);(go_wp2_with fail);have aKE:Hid (x.brs.length=m2):=lH pM.o.r2.1
     go_loopw [89] (fun i wr=>∃(k:Nat)(seen2:List ByteArray),k<=m2/\i=.int .i64 k/\Ck W0 wr (w.heap.size+1) A0 m0 nodes ⟨A0,m0,c0,A1,m1,c1,A2,m2,c2,A3,m3,c3,A4,m4,c4,A5,m5,c5⟩ x seen2/\aD wr (w.heap.size+1+1) 161 #[.map (some (w.heap.size+1)),(.slice A0 m0 c0)]/\aD wr w.heap.size 29 #[.slice A0 m0 c0,.slice A1 m1 c1,.slice A2 m2 c2,.slice A3 m3 c3,.slice A4 m4 c4,.slice A5 m5 c5]/\seen2.length<=seen1.length+k/\bG (VW nodes) Br.name seen1 x.brs=bG (VW nodes) Br.name seen2 (x.brs.drop k)) (fun i _=>m2-(intOf i).toNat)
     case atStart=>exact⟨0,seen1,by omega,rfl,HC.o,BW.o,sW.o,by omega,rfl⟩
     case round=>
      clear HC BW sW pM;obtain⟨k,seen2,hk,rfl,hC,pH,nR,II,oR⟩:=hrel;obtain⟨HC,BW,sW,lQ⟩:=h_ hC pH nR oR;obtain⟨g0,g1,gf,glt⟩:=lX pH;obtain⟨y0,y1,y2,y3,y4,y5,nf,nlt⟩:=aX (h:=⟨A0,m0,c0,A1,m1,c1,A2,m2,c2,A3,m3,c3,A4,m4,c4,A5,m5,c5⟩) nR;have VQ:=hC.sn.lt;have pM:=lH hC.net;clear hC pH nR oR;by_cases aR:k<m2
      ·obtain⟨z,hz⟩:∃z,x.brs[k]?=some z:=eE (by have:=aKE.out;omega)
       obtain⟨bz,oz,hA,oY⟩:=HC.o.net.r2.form (by dsimp only;omega);dsimp only at hA;subst hA;obtain⟨e0,e1,e2,e3,e4,e5,e6,e7,e8⟩:=HC.o.net.r2.at_ hz;have hzn:=HC.o.net.z2 z (bS hz);have HZ:=lH (bX hz);clear hz;(go_wp2_with fail);have hB:=DM wr (.cells #[.string z.name,.string z.fr,.string z.to,.int .i64 z.x,.int .i64 z.tap,.int .i64 z.shift,.int .i64 z.limit,.int .i64 z.short,.int .i64 z.hold] 54) (.cells #[.string z.fr,.string z.to] 9);have hE:bD ((wr.alloc (.cells #[.string z.name,.string z.fr,.string z.to,.int .i64 z.x,.int .i64 z.tap,.int .i64 z.shift,.int .i64 z.limit,.int .i64 z.short,.int .i64 z.hold] 54)).alloc (.cells #[.string z.fr,.string z.to] 9)) ((wr.alloc (.cells #[.string z.name,.string z.fr,.string z.to,.int .i64 z.x,.int .i64 z.tap,.int .i64 z.shift,.int .i64 z.limit,.int .i64 z.short,.int .i64 z.hold] 54)).alloc (.cells #[.string z.fr,.string z.to] 9)).heap.size (some ⟨wr.heap.size+1,0,none⟩) 2 [z.fr,z.to]:=nG (zs:=[z.fr,z.to]) (aD.new_ (by simp)) (by simp);have xJ:=HC.o.below hB;refine(nK (w.heap.size+1) _ _ m0 c0 nodes seen2 z.name _ 2 2 [z.fr,z.to] _ xJ.rn VJ xJ.sn (by omega) hzn hE (by omega)).mono ?_;generalize hR:m9 nodes seen2 z.name [z.fr,z.to]=r;rintro e w2 ⟨rfl,lM,RI⟩;have LN:aD w2 wr.heap.size 54 #[.string z.name,.string z.fr,.string z.to,.int .i64 z.x,.int .i64 z.tap,.int .i64 z.shift,.int .i64 z.limit,.int .i64 z.short,.int .i64 z.hold]:=aD.grown ((aD.new wr _ _).alloc _) lM (fun e=>by injection e;omega);have pH:aD w2 (w.heap.size+1+1) 161 #[.map (some (w.heap.size+1)),(.slice A0 m0 c0)]:=aD.grown (BW.o.bl hB) lM (fun e=>by injection e;omega);have nR:=aD.grown (sW.o.bl hB) lM (fun e=>by injection e;omega);obtain⟨jA,mZ,TJ,Hg2⟩:=h_ (fR xJ.gr lM) RI xJ lM;obtain⟨f0,f1,f2,f3,f4,f5,f6,f7,f8,ff,flt⟩:=Br.box LN;have JA:=lH pH;have DT:=lH nR;have xN:=lH hR;clear hB hE xJ lM RI LN pH nR hR e0 e1 e2 e3 e4 e5 e6 e7 e8;by_cases gC:r=0
       ·subst gC
        have HC3:=lH (TJ.o.put Hg2.o (mZ.o rfl));(go_wp2_with fail);refine(QF z _).mono ?_;rintro e w3 ⟨rfl,k3⟩;obtain⟨HC4,HQ1'',HQ2''⟩:=dZ (HC3.o.below k3) (JA.o.bl k3) (DT.o.bl k3);have SZ:=lH (fR jA.o (gW k3 _));clear k3;cases hbad:z.bad with
        | true=>
         have mP:z.ck=4:=by unfold Br.ck;rw[hbad];rfl
         have hf:VW nodes seen2 z=4:=by unfold VW;rw[xN.o,mP];rfl
         have hr:(bG (VW nodes) Br.name seen1 x.brs).1=4:=by rw[lQ.o];exact d9 HZ.o hf (by omega)
         have rY:=lH hr;clear hf hr hbad;(go_wp2_with fail);go_ret;exact⟨aU (by rw[HW2.o];unfold ck2;rw[DU.o,if_pos (by rw[rY.o];omega),rY.o]),JJ.o SZ.o⟩
        | false=>
         have mP:z.ck=0:=by unfold Br.ck;rw[hbad];rfl
         have hf:VW nodes seen2 z=0:=by unfold VW;rw[xN.o,mP];rfl
         have HF:=lH hf;clear hf hbad;(go_wp2_with fail);go_roundw
         case rel=>exact⟨k+1,z.name::seen2,by omega,by go_num,HC4.o,HQ1''.o,HQ2''.o,by simp;omega,by rw[lQ.o];exact pR HZ.o HF.o⟩
         case measure=>simp[intOf];omega
       ·have EE:(r != 0)=true:=by simpa using gC
        have hf:VW nodes seen2 z=r:=by unfold VW;rw[xN.o,if_pos gC]
        have hr:(bG (VW nodes) Br.name seen1 x.brs).1=r:=by rw[lQ.o];exact d9 HZ.o hf gC
        have rY:=lH hr;have F4:=lH gC;clear hf hr gC;(go_wp2_with fail);go_ret;exact⟨aU (by rw[HW2.o];unfold ck2;rw[DU.o,if_pos (by rw[rY.o];exact F4.o),rY.o]),JJ.o jA.o⟩
      ·have hd:x.brs.drop k=[]:=by rw[List.drop_eq_nil_iff];have:=aKE.out;omega
       have hr:bG (VW nodes) Br.name seen1 x.brs=(0,seen2):=by rw[lQ.o,hd];rfl
       have HL2:=lH hr;have a0H:seen2.length<=seen1.length+m2:=by omega
       clear hd hr II;have YJ:=pM;have xM:Hid (iV x=ck3 x seen2):=lH (by rw[HW2.o];unfold ck2;rw[DU.o,HL2.o];rfl);(go_wp2_with fail);have hCw:Ck wr wr (w.heap.size+1) A0 m0 nodes ⟨A0,m0,c0,A1,m1,c1,A2,m2,c2,A3,m3,c3,A4,m4,c4,A5,m5,c5⟩ x seen2:=⟨⟨rfl,rfl,rfl,lR,fun _ _ _=>rfl⟩,HC.o.sn,HC.o.rn,HC.o.net⟩;refine(aFC (w.heap.size+1) _ m0 c0 nodes ⟨A0,m0,c0,A1,m1,c1,A2,m2,c2,A3,m3,c3,A4,m4,c4,A5,m5,c5⟩ x seen2 _ hCw VJ (by omega) hm3 hm4 hm5 DU.o).mono ?_;rintro e w4 ⟨rfl,hg4⟩;have HG4:=lH (fR HC.o.gr hg4);clear hg4 hCw;(go_wp2_with fail);go_ret;exact⟨aU (by rw[xM.o]),JJ.o HG4.o⟩
theorem ME(h:bZ)(x:bK)(w:Wo)(r:cL w w.heap.size h x):Calls Tryz.prog 58 #[.agg h.cells] w fun e w'=>e=.returned (.int .i64 (iV x))/\Below w.heap.size w w':=by
 by_cases hl:mG x
 ·exact SE h x w r hl
 ·exact SD h x w r hl
end
section
open Go
theorem aHR{P:Program}{md:Region.Mode}{Q:Exit->Act->World->Prop}{L:List Oper}{S:World->Prop}(i j:Nat){o o':Oper}{fuel:Nat}{listed:Array Bool}{a:Act}{w:Wo}(hr:Region.ready md L.toArray listed=[i,j])(ho:L[i]?=some o)(TB:L[j]?=some o')(h:∀K':Act->World->Prop,Shut (∀a w,S w->(S w->wpAnyH P md L.toArray Q S fuel (listed.setIfInBounds i true) a w)->K' a w)->if Region.wanted o (yielded L.toArray a.tmps)=true then Oper.wp P o a w K' Q else K' (a.put o.dst undef) w)(h':∀K':Act->World->Prop,Shut (∀a w,S w->(S w->wpAnyH P md L.toArray Q S fuel (listed.setIfInBounds j true) a w)->K' a w)->if Region.wanted o' (yielded L.toArray a.tmps)=true then Oper.wp P o' a w K' Q else K' (a.put o'.dst undef) w):wpAnyH P md L.toArray Q S (fuel+1) listed a w:=
 wpAnyH_ready hr (by simp) (AllReadyH.cons (by rw[List.getElem?_toArray];exact ho) h (AllReadyH.cons (by rw[List.getElem?_toArray];exact TB) h' AllReadyH.nil))
end
section
theorem GJ(c:Rat)(f:Fn)(n:Nat):aM n f*c=aM n (fun i=>f i*c):=by
 rw[Rat.mul_comm,<-bL];exact aJ fun i _=>Rat.mul_comm _ _
theorem KU(f g:Fn)(n:Nat):aM n (fun i=>f i-g i)=aM n f-aM n g:=by
 have h:=eR f (fun i=>(-1)*g i) n;rw[bL] at h;have e:aM n (fun i=>f i-g i)=aM n (fun i=>f i+(-1)*g i):=aJ fun i _=>by grind
 rw[e,h];grind
theorem aJ8(x:Rat):0<=x*x:=by
 rcases Rat.le_total (a:=0) (b:=x) with h | h
 ·exact Rat.mul_nonneg h h
 ·have h2:0<=-x:=by grind
  have:=Rat.mul_nonneg h2 h2;grind
theorem O7:∀{n:Nat}{f:Fn},(∀i,i<n->0<=f i)->0<=aM n f
 | 0,_,_=>by simp[aM]
 | n+1,f,h=>by
  have h1:=O7 (n:=n) (f:=f) fun i hi=>h i (by omega);have h2:=h n (by omega);simp only[aM];grind
theorem xR:∀{n:Nat}{f:Fn},(∀i,i<n->0<=f i)->aM n f=0->∀i,i<n->f i=0
 | 0,_,_,_,i,hi=>by omega
 | n+1,f,h,he,i,hi=>by
  have h1:=O7 (n:=n) (f:=f) fun i hi=>h i (by omega);have h2:=h n (by omega);simp only[aM] at he
  by_cases lE:i=n
  ·subst lE;grind
  ·exact xR (n:=n) (fun i hi=>h i (by omega)) (by grind) i (by omega)
structure Ls where
 n:Nat
 K:Nat
 R:Nat->Fn
 w:Fn
 y:Fn
namespace Ls
variable {B b e i j k : Nat} {a u : Fn}
variable (L:Ls)
def Pos:Prop:=∀k,k<L.K->0<L.w k
def G(i:Nat):Fn:=fun j=>aM L.K fun k=>L.w k*L.R k i*L.R k j
def rt:Fn:=fun i=>aM L.K fun k=>L.w k*L.y k*L.R k i
def res(a:Fn):Fn:=fun k=>L.y k-aV L.n (L.R k) a
def cost(a:Fn):Rat:=aM L.K fun k=>L.w k*L.res a k*L.res a k
def Sol(a:Fn):Prop:=∀i,i<L.n->aV L.n (L.G i) a=L.rt i
theorem gdot(c:Fn)(i:Nat):aV L.n (L.G i) c=aM L.K fun k=>L.w k*L.R k i*aV L.n (L.R k) c:=by
 unfold aV G;have e:aM L.n (fun j=>aM L.K (fun k=>L.w k*L.R k i*L.R k j)*c j)=aM L.n (fun j=>aM L.K (fun k=>L.w k*L.R k i*(L.R k j*c j))):=aJ fun j _=>by
  rw[GJ];exact aJ fun k _=>by grind
 rw[e,nD];exact aJ fun k _=>bL _ _ _
theorem wdot(f c:Fn):aM L.n (fun i=>c i*aM L.K fun k=>f k*L.R k i)=aM L.K fun k=>f k*aV L.n (L.R k) c:=by
 have e:aM L.n (fun i=>c i*aM L.K fun k=>f k*L.R k i)=aM L.n (fun i=>aM L.K fun k=>f k*(L.R k i*c i)):=aJ fun i _=>by
  rw[<-bL];exact aJ fun k _=>by grind
 rw[e,nD];exact aJ fun k _=>bL _ _ _
theorem bil(c d:Fn):aM L.n (fun i=>c i*aV L.n (L.G i) d)=aM L.K fun k=>L.w k*aV L.n (L.R k) d*aV L.n (L.R k) c:=by
 have e:aM L.n (fun i=>c i*aV L.n (L.G i) d)=aM L.n (fun i=>c i*aM L.K fun k=>(L.w k*aV L.n (L.R k) d)*L.R k i):=aJ fun i _=>by
  rw[L.gdot];congr 1
  exact aJ fun k _=>by grind
 rw[e,L.wdot]
theorem quad(c:Fn):aM L.n (fun i=>c i*aV L.n (L.G i) c)=aM L.K fun k=>L.w k*(aV L.n (L.R k) c*aV L.n (L.R k) c):=by
 rw[L.bil];exact aJ fun k _=>by grind
variable {L}
theorem Pos.nn(h:L.Pos)(f:Fn):∀k,k<L.K->0<=L.w k*(f k*f k):=fun k hk=>Rat.mul_nonneg (Rat.le_of_lt (h k hk)) (aJ8 _)
theorem Pos.zero(h:L.Pos){f:Fn}(h0:aM L.K (fun k=>L.w k*(f k*f k))=0):∀k,k<L.K->f k=0:=fun k hk=>by
 have h1:=xR (h.nn f) h0 k hk;have h2:=h k hk;rcases Rat.mul_eq_zero.1 h1 with h3 | h3
 ·rw[h3] at h2;exact absurd h2 Rat.lt_irrefl
 ·rcases Rat.mul_eq_zero.1 h3 with h4 | h4<;>exact h4
theorem Pos.ker(h:L.Pos)(c:Fn):(∀i,i<L.n->aV L.n (L.G i) c=0)<->∀k,k<L.K->aV L.n (L.R k) c=0:=by
 constructor
 ·intro hc
  refine h.zero (f:=fun k=>aV L.n (L.R k) c) ?_;rw[<-L.quad];exact cM fun i hi=>by rw[hc i hi,Rat.mul_zero]
 ·intro hc i hi
  rw[L.gdot];exact cM fun k hk=>by rw[hc k hk,Rat.mul_zero]
theorem Sol.normal(h:L.Sol a):∀i,i<L.n->aM L.K (fun k=>L.w k*L.res a k*L.R k i)=0:=fun i hi=>by
 have h1:=h i hi;rw[L.gdot] at h1;unfold rt at h1;have e:aM L.K (fun k=>L.w k*L.res a k*L.R k i)=aM L.K (fun k=>L.w k*L.y k*L.R k i)-aM L.K (fun k=>L.w k*L.R k i*aV L.n (L.R k) a):=by
  rw[<-KU];exact aJ fun k _=>by unfold res;grind
 rw[e,h1];grind
theorem Sol.orth(h:L.Sol a)(c:Fn):aM L.K (fun k=>L.w k*L.res a k*aV L.n (L.R k) c)=0:=by
 rw[<-L.wdot];exact cM fun i hi=>by rw[h.normal i hi,Rat.mul_zero]
theorem Sol.least(h:L.Sol a)(o:Fn):L.cost o=L.cost a+aM L.K fun k=>L.w k*(aV L.n (L.R k) (fun i=>o i+(-1)*a i)*aV L.n (L.R k) (fun i=>o i+(-1)*a i)):=by
 have h1:=h.orth (fun i=>o i+(-1)*a i);have e:L.cost o=L.cost a+aM L.K (fun k=>L.w k*(aV L.n (L.R k) (fun i=>o i+(-1)*a i)*aV L.n (L.R k) (fun i=>o i+(-1)*a i)))+(-2)*aM L.K (fun k=>L.w k*L.res a k*aV L.n (L.R k) (fun i=>o i+(-1)*a i)):=by
  unfold cost;rw[<-bL,<-eR,<-eR];refine aJ fun k _=>?_;rw[RS,RQ];unfold res;grind
 rw[e,h1];grind
theorem exact_sol{o:Fn}(hy:∀k,k<L.K->L.y k=aV L.n (L.R k) o):L.Sol o:=fun i hi=>by
 rw[L.gdot];exact aJ fun k hk=>by rw[hy k hk];grind
theorem exact_cost{o:Fn}(hy:∀k,k<L.K->L.y k=aV L.n (L.R k) o):L.cost o=0:=
 cM fun k hk=>by unfold res;rw[hy k hk];grind
def SolK(L:Ls)(k:Nat)(u:Fn):Prop:=∀i,i<L.n->aV L.n (L.G i) u=L.R k i
def spr(L:Ls)(k:Nat)(u:Fn):Rat:=1 / L.w k-aV L.n (L.R k) u
theorem SolK.dot(h:L.SolK k u)(c:Fn):aV L.n (L.R k) c=aM L.K fun j=>L.w j*aV L.n (L.R j) u*aV L.n (L.R j) c:=by
 rw[<-L.bil];unfold aV;exact aJ fun i hi=>by
  have:=h i hi;unfold aV at this;rw[<-this];grind
theorem SolK.rest(h:L.SolK k u)(hk:k<L.K):aV L.n (L.R k) u=L.w k*(aV L.n (L.R k) u*aV L.n (L.R k) u)+aM L.K (fun j=>if j=k then 0 else L.w j*(aV L.n (L.R j) u*aV L.n (L.R j) u)):=by
 have h1:=h.dot u;have e:aM L.K (fun j=>L.w j*aV L.n (L.R j) u*aV L.n (L.R j) u)=aM L.K (fun j=>if j=k then L.w j*(aV L.n (L.R j) u*aV L.n (L.R j) u) else 0)+aM L.K (fun j=>if j=k then 0 else L.w j*(aV L.n (L.R j) u*aV L.n (L.R j) u)):=by
  rw[<-eR];exact aJ fun j _=>by
   by_cases ej:j=k
   ·rw[if_pos ej,if_pos ej];grind
   ·rw[if_neg ej,if_neg ej];grind
 have e2:aM L.K (fun j=>if j=k then L.w j*(aV L.n (L.R j) u*aV L.n (L.R j) u) else 0)=L.w k*(aV L.n (L.R k) u*aV L.n (L.R k) u):=by
  rw[gH hk (fun j _ cG=>by rw[if_neg cG]),if_pos rfl]
 rw[e,e2] at h1;exact h1
theorem aPE(hp:L.Pos)(hk:k<L.K):L.w k*(1 / L.w k)=1:=by
 have h:=hp k hk;have cG:L.w k≠0:=fun e=>by rw[e] at h;exact absurd h Rat.lt_irrefl
 rw[Rat.div_def,Rat.one_mul,Rat.mul_inv_cancel _ cG]
theorem SolK.spr_of{c:Fn}(hp:L.Pos)(hk:k<L.K)(h:L.SolK k u)(hc:∀j,j<L.K->j≠k->aV L.n (L.R j) c=0)(kO:aV L.n (L.R k) c≠0):L.spr k u=0:=by
 have h1:=h.dot c;have h2:aM L.K (fun j=>L.w j*aV L.n (L.R j) u*aV L.n (L.R j) c)=L.w k*aV L.n (L.R k) u*aV L.n (L.R k) c:=
  gH hk fun j hj cG=>by rw[hc j hj cG,Rat.mul_zero]
 rw[h2] at h1;have h4:=aPE hp hk;have h3:L.w k*aV L.n (L.R k) u=1:=by
  have h5:(1-L.w k*aV L.n (L.R k) u)*aV L.n (L.R k) c=0:=by grind
  rcases Rat.mul_eq_zero.1 h5 with h6 | h6
  ·grind
  ·exact absurd h6 kO
 unfold spr;have h5:=hp k hk;have cG:L.w k≠0:=fun e=>by rw[e] at h5;exact absurd h5 Rat.lt_irrefl
 have h6:L.w k*(1 / L.w k-aV L.n (L.R k) u)=0:=by grind
 rcases Rat.mul_eq_zero.1 h6 with h7 | h7
 ·exact absurd h7 cG
 ·exact h7
end Ls
end
section
open Go
theorem aPq{l:List Int}{m:Int}(hi:i<l.length):(l.set i m).getD j 0=if j=i then m else l.getD j 0:=by
 rw[dH,List.getElem?_set];by_cases h:i=j
 ·subst h;rw[if_pos rfl,if_pos hi,if_pos rfl];rfl
 ·rw[if_neg h,if_neg (fun e=>h e.symm),dH]
def Ch(m:Int)(a b:List Int):Prop:=∀j,b.getD j 0=a.getD j 0\/(a.getD j 0<0/\b.getD j 0=m)
theorem Ch.refl(m:Int)(a:List Int):Ch m a a:=fun j=>.inl rfl
theorem Ch.trans{m:Int}(hm:0<=m){a b c:List Int}(h:Ch m a b)(h2:Ch m b c):Ch m a c:=fun j=>by
 rcases h j with h | ⟨h,h'⟩<;>rcases h2 j with g | ⟨g,g'⟩
 ·exact .inl (g.trans h)
 ·exact .inr ⟨by omega,g'⟩
 ·exact .inr ⟨h,g.trans h'⟩
 ·omega
theorem aLE{n:Nat}(h:j<n):(List.replicate n (-1:Int)).getD j 0=-1:=by
 rw[dH,List.getElem?_replicate,if_pos h];rfl
end
section
namespace Ls
variable {B b e i j k : Nat} {a u : Fn}
variable {L:Ls}
theorem SolK.symm{v:Fn}(hu:L.SolK k u)(hv:L.SolK j v):aV L.n (L.R j) u=aV L.n (L.R k) v:=by
 rw[hu.dot v,hv.dot u];exact aJ fun i _=>by grind
end Ls
end
section
theorem QE:∀(K:Nat)(l:List Nat),l.Nodup->(∀x∈l,x<K)->l.length<=K
 | 0,l,_,h=>by
  cases l with
  | nil=>exact lR
  | cons a l=>exact absurd (h a (by simp)) (by omega)
 | K+1,l,hn,h=>by
  have h1:=QE K (l.erase K) (hn.erase K) fun x hx=>by
   have h2:=(List.Nodup.mem_erase_iff hn).1 hx;have:=h x h2.2;omega
  have h2:=List.length_erase (a:=K) (l:=l);split at h2<;>omega
theorem aLH{N K:Nat}(f:Nat->Nat)(hf:∀u,u<N->f u<K)(h:K<N):∃u v,u<v/\v<N/\f u=f v:=by
 refine Classical.byContradiction fun cG=>?_;have hnd:((List.range N).map f).Nodup:=by
  rw[List.nodup_iff_pairwise_ne,List.pairwise_map];refine List.Pairwise.imp_of_mem ?_ List.pairwise_lt_range;intro a b ha hb lO he;exact cG ⟨a,b,lO,List.mem_range.1 hb,he⟩
 have:=QE K _ hnd fun x hx=>by
  obtain⟨u,hu,rfl⟩:=List.mem_map.1 hx;exact hf u (List.mem_range.1 hu)
 rw[iT,List.length_range] at this;omega
def vN(B:Nat)(e:Nat->Nat):Nat->Nat
 | 0=>0
 | n+1=>vN B e n*B+e n
theorem R9{e:Nat->Nat}:∀{n:Nat},(∀i,i<n->e i<B)->vN B e n<B^n
 | 0,_=>by simp[vN]
 | n+1,h=>by
  have h1:=R9 (n:=n) fun i hi=>h i (by omega);have h2:=h n (by omega);simp only[vN,Nat.pow_succ];have h3:(vN B e n+1)*B<=B^n*B:=Nat.mul_le_mul_right _ h1;rw[Nat.add_mul] at h3;omega
theorem MC{e f:Nat->Nat}:∀{n:Nat},(∀i,i<n->e i<B)->(∀i,i<n->f i<B)->vN B e n=vN B f n->∀i,i<n->e i=f i
 | 0,_,_,_,i,hi=>by omega
 | n+1,h,k,he,i,hi=>by
  have h1:=h n (by omega);have h2:=k n (by omega);simp only[vN] at he;have hm:e n=f n:=by
   have h3:=congrArg (· % B) he;simp only[Nat.mul_comm _ B,Nat.mul_add_mod] at h3;rwa[Nat.mod_eq_of_lt h1,Nat.mod_eq_of_lt h2] at h3
  rw[hm] at he;have hd:vN B e n=vN B f n:=Nat.eq_of_mul_eq_mul_right (by omega:0<B) (by omega);by_cases lE:i=n
  ·subst lE;exact hm
  ·exact MC (fun i hi=>h i (by omega)) (fun i hi=>k i (by omega)) hd i (by omega)
theorem IU{u v:Nat}:∀{n:Nat},(∀j,j<n->u / B^j % B=v / B^j % B)->u / B^n=v / B^n->u=v
 | 0,_,h=>by simpa using h
 | n+1,hd,h=>by
  refine IU (n:=n) (fun j hj=>hd j (by omega)) ?_;rw[Nat.pow_succ,<-Nat.div_div_eq_div_mul,<-Nat.div_div_eq_div_mul] at h;have h1:=Nat.div_add_mod (u / B^n) B;have h2:=Nat.div_add_mod (v / B^n) B;rw[h,hd n (by omega)] at h1;omega
def pZ:Nat->(Nat->Int)->Int
 | 0,_=>0
 | n+1,f=>pZ n f+f n
theorem GL:∀{n:Nat}{f g:Nat->Int},(∀i,i<n->f i=g i)->pZ n f=pZ n g
 | 0,_,_,_=>rfl
 | n+1,f,g,h=>by simp only[pZ];rw[GL fun i hi=>h i (by omega),h n (by omega)]
theorem O9(f g:Nat->Int):∀n:Nat,pZ n (fun i=>f i-g i)=pZ n f-pZ n g
 | 0=>rfl
 | n+1=>by simp only[pZ];rw[O9 f g n];omega
theorem O_{f:Nat->Int}:∀{n:Nat},(∀i,i<n->(f i).natAbs<=B)->(pZ n f).natAbs<=n*B
 | 0,_=>by simp[pZ]
 | n+1,h=>by
  have h1:=O_ (n:=n) fun i hi=>h i (by omega);have h2:=h n (by omega);simp only[pZ];have h3:=Int.natAbs_add_le (pZ n f) (f n);rw[Nat.add_mul];omega
theorem aAm{n BA Bb H1 H2:Nat}{A:Nat->Nat->Int}{b:Nat->Int}(hA:∀i j,i<n->j<n->(A i j).natAbs<=BA)(hb:∀i,i<n->(b i).natAbs<=Bb)(iP:∀z:Nat->Int,(∀i,i<n->pZ n (fun j=>A i j*z j)=0)->∀j,j<n->z j=0)(hc:(2*(n*(BA*H1)+Bb*H2)+1)^n<(H1+1)^n*(H2+1)):∃(z:Nat->Int)(t:Int),t≠0/\t.natAbs<=H2/\(∀j,j<n->(z j).natAbs<=H1)/\∀i,i<n->pZ n (fun j=>A i j*z j)=b i*t:=by
 obtain⟨S,hS⟩:∃S,S=n*(BA*H1)+Bb*H2:=⟨_,rfl⟩;rw[<-hS] at hc;obtain⟨dg,hdg⟩:∃dg:Nat->Nat->Nat,dg=fun u j=>u / (H1+1)^j % (H1+1):=⟨_,rfl⟩;obtain⟨tp,htp⟩:∃tp:Nat->Nat,tp=fun u=>u / (H1+1)^n:=⟨_,rfl⟩;have hd:∀u j,dg u j<=H1:=fun u j=>by
  rw[hdg];have:=Nat.mod_lt (u / (H1+1)^j) (show 0<H1+1 by omega);simp only;omega
 have ht:∀u,u<(H1+1)^n*(H2+1)->tp u<=H2:=fun u hu=>by
  rw[htp];have:=Nat.div_lt_of_lt_mul hu;simp only;omega
 obtain⟨lin,aQz⟩:∃lin:Nat->Nat->Int,lin=fun u i=>pZ n (fun j=>A i j*(dg u j:Int))-b i*(tp u:Int):=⟨_,rfl⟩;have hl:∀u i,u<(H1+1)^n*(H2+1)->i<n->(lin u i).natAbs<=S:=fun u i hu hi=>by
  have h1:=O_ (B:=BA*H1) (n:=n) (f:=fun j=>A i j*(dg u j:Int)) fun j hj=>by
   rw[Int.natAbs_mul,Int.natAbs_natCast];exact Nat.mul_le_mul (hA i j hi hj) (hd u j)
  have h2:(b i*(tp u:Int)).natAbs<=Bb*H2:=by
   rw[Int.natAbs_mul,Int.natAbs_natCast];exact Nat.mul_le_mul (hb i hi) (ht u hu)
  rw[aQz];simp only;omega
 obtain⟨cd,hcd⟩:∃cd:Nat->Nat->Nat,cd=fun u i=>(lin u i+(S:Int)).toNat:=⟨_,rfl⟩;have wQ:∀u,u<(H1+1)^n*(H2+1)->∀i,i<n->cd u i<2*S+1:=fun u hu i hi=>by
  have:=hl u i hu hi;rw[hcd];simp only;omega
 obtain⟨u,v,YE,hvN,he⟩:=aLH (N:=(H1+1)^n*(H2+1)) (K:=(2*S+1)^n) (fun u=>vN (2*S+1) (cd u) n) (fun u hu=>R9 (wQ u hu)) hc;have huN:u<(H1+1)^n*(H2+1):=by omega
 have hee:=MC (wQ u huN) (wQ v hvN) he;have aKB:∀i,i<n->pZ n (fun j=>A i j*((dg v j:Int)-(dg u j:Int)))=b i*((tp v:Int)-(tp u:Int)):=fun i hi=>by
  have h1:=hee i hi;have h2:=hl u i huN hi;have h3:=hl v i hvN hi;have h4:lin u i=lin v i:=by
   rw[hcd] at h1;simp only at h1;omega
  rw[aQz] at h4;simp only at h4;have h5:pZ n (fun j=>A i j*((dg v j:Int)-(dg u j:Int)))=pZ n (fun j=>A i j*(dg v j:Int))-pZ n (fun j=>A i j*(dg u j:Int)):=by
   rw[<-O9];exact GL fun j hj=>Int.mul_sub _ _ _
  rw[h5,Int.mul_sub];omega
 refine⟨fun j=>(dg v j:Int)-(dg u j:Int),(tp v:Int)-(tp u:Int),fun h0=>?_,?_,fun j hj=>?_,aKB⟩
 ·have hz:=iP (fun j=>(dg v j:Int)-(dg u j:Int)) fun i hi=>by
   rw[aKB i hi,h0,Int.mul_zero]
  have:u=v:=IU (B:=H1+1) (n:=n) (fun j hj=>by
   have h5:(dg v j:Int)-(dg u j:Int)=0:=hz j hj;have h6:dg u j=dg v j:=by omega
   rw[hdg] at h6;exact h6) (by
   have h7:tp u=tp v:=by omega
   rw[htp] at h7;exact h7)
  omega
 ·have h1:=ht u huN
  have h2:=ht v hvN;omega
 ·have h1:=hd u j
  have h2:=hd v j;simp only;omega
theorem CH(f:Nat->Int):∀n:Nat,((pZ n f:Int):Rat)=aM n fun i=>(f i:Rat)
 | 0=>rfl
 | n+1=>by
  simp only[pZ,aM];rw[Rat.intCast_add,CH f n]
theorem aAl{n BA Bb H1 H2:Nat}{A:Nat->Nat->Int}{b:Nat->Int}{x:Fn}{V:Rat}(hA:∀i j,i<n->j<n->(A i j).natAbs<=BA)(hb:∀i,i<n->(b i).natAbs<=Bb)(iP:∀c:Fn,(∀i,i<n->aM n (fun j=>(A i j:Rat)*c j)=0)->∀j,j<n->c j=0)(hx:∀i,i<n->aM n (fun j=>(A i j:Rat)*(V*x j))=(b i:Rat))(hc:(2*(n*(BA*H1)+Bb*H2)+1)^n<(H1+1)^n*(H2+1)):∃t:Int,t≠0/\t.natAbs<=H2/\∀j,j<n->∃z:Int,z.natAbs<=H1/\V*x j*(t:Rat)=(z:Rat):=by
 obtain⟨z,t,h0,h1,h2,h3⟩:=aAm hA hb (fun z hz j hj=>by
  have:=iP (fun j=>(z j:Rat)) (fun i hi=>by
   have h:((pZ n (fun j=>A i j*z j):Int):Rat)=((0:Int):Rat):=congrArg (fun q:Int=>(q:Rat)) (hz i hi);rw[CH] at h;rw[<-show((0:Int):Rat)=0 from rfl,<-h];exact aJ fun j _=>(Rat.intCast_mul _ _).symm) j hj
  exact Rat.intCast_inj.1 (by rw[this];rfl)) hc
 refine⟨t,h0,h1,fun j hj=>⟨z j,h2 j hj,?_⟩⟩;have hz:=iP (fun j=>V*x j*(t:Rat)+(-1)*(z j:Rat)) (fun i hi=>by
  have e:aM n (fun j=>(A i j:Rat)*(V*x j*(t:Rat)+(-1)*(z j:Rat)))=(t:Rat)*aM n (fun j=>(A i j:Rat)*(V*x j))+(-1)*aM n (fun j=>(A i j:Rat)*(z j:Rat)):=by
   rw[<-bL,<-bL,<-eR];exact aJ fun j _=>by grind
  have h:((pZ n (fun j=>A i j*z j):Int):Rat)=((b i*t:Int):Rat):=congrArg (fun q:Int=>(q:Rat)) (h3 i hi);rw[CH,Rat.intCast_mul] at h;have e2:aM n (fun j=>((A i j*z j:Int):Rat))=aM n (fun j=>(A i j:Rat)*(z j:Rat)):=aJ fun j _=>Rat.intCast_mul _ _;rw[e,hx i hi,<-e2,h];grind) j hj
 have:V*x j*(t:Rat)+(-1)*(z j:Rat)=0:=hz;grind
end
section
def G6{α:Type}(n E K:Nat)(f1 f2 f3 f4:Nat->α):Nat->α:=fun j=>if j<n then f1 j else if j<n+E then f2 (j-n) else if j<n+E+K then f3 (j-n-E) else f4 (j-n-E-K)
section
variable {n E K:Nat}
theorem LD{α:Type}{f1 f2 f3 f4:Nat->α}(h:j<n):G6 n E K f1 f2 f3 f4 j=f1 j:=by unfold G6;rw[if_pos h]
theorem QK{α:Type}{f1 f2 f3 f4:Nat->α}(h:j<E):G6 n E K f1 f2 f3 f4 (n+j)=f2 j:=by
 unfold G6;rw[if_neg (by omega),if_pos (by omega),Nat.add_sub_cancel_left]
theorem G5{α:Type}{f1 f2 f3 f4:Nat->α}(h:j<K):G6 n E K f1 f2 f3 f4 (n+(E+j))=f3 j:=by
 unfold G6;rw[if_neg (by omega),if_neg (by omega),if_pos (by omega),show n+(E+j)-n-E=j by omega]
theorem QJ{α:Type}{f1 f2 f3 f4:Nat->α}:G6 n E K f1 f2 f3 f4 (n+(E+(K+j)))=f4 j:=by
 unfold G6;rw[if_neg (by omega),if_neg (by omega),if_neg (by omega),show n+(E+(K+j))-n-E-K=j by omega]
theorem wI{α:Type}{f1 f2 f3 f4:Nat->α}{P:α->Prop}(h1:∀j,j<n->P (f1 j))(h2:∀j,j<E->P (f2 j))(h3:∀j,j<K->P (f3 j))(h4:∀j,j<E->P (f4 j)):∀j,j<n+(E+(K+E))->P (G6 n E K f1 f2 f3 f4 j):=fun j hj=>by
 unfold G6;split
 ·exact h1 j (by omega)
 ·split
  ·exact h2 _ (by omega)
  ·split
   ·exact h3 _ (by omega)
   ·exact h4 _ (by omega)
theorem aJi(f1 f2 f3 f4:Nat->Int)(g:Fn):aM (n+(E+(K+E))) (fun j=>((G6 n E K f1 f2 f3 f4 j:Int):Rat)*g j)=aM n (fun j=>(f1 j:Rat)*g j)+(aM E (fun j=>(f2 j:Rat)*g (n+j))+(aM K (fun j=>(f3 j:Rat)*g (n+(E+j)))+aM E (fun j=>(f4 j:Rat)*g (n+(E+(K+j)))))):=by
 rw[lU,lU,lU];congr 1
 ·exact aJ fun j hj=>by rw[LD hj]
 congr 1
 ·exact aJ fun j hj=>by rw[QK hj]
 congr 1
 ·exact aJ fun j hj=>by rw[G5 hj]
 ·exact aJ fun j hj=>by rw[QJ]
end
def lI(n:Nat):Nat:=10^n
theorem aUo{a:Nat}(h:a<=b):lI a<=lI b:=Nat.pow_le_pow_right (by decide) h
theorem aC1{a c:Nat}(h:a+b<=c):lI a*lI b<=lI c:=by
 unfold lI;rw[<-Nat.pow_add];exact Nat.pow_le_pow_right (by decide) h
theorem aPn(a:Nat):1<=lI a:=Nat.pow_pos (by decide)
structure Aug where
 E:Nat
 X:Nat->Int
 tw:Nat->Nat->Int
 M:Nat->Nat->Int
 N:Nat->Nat->Int
 w:Nat->Int
structure Aug.Ok (U:Aug) (L:Ls):Prop where
 x:∀e,e<U.E->1<=U.X e/\U.X e<=1000000000
 t:∀e i,(U.tw e i).natAbs<=1
 m:∀k e,(U.M k e).natAbs<=1
 n:∀k i,(U.N k i).natAbs<=1
 w:∀k,k<L.K->1<=U.w k/\U.w k<=1000/\L.w k=(U.w k:Rat)
 r:∀k,k<L.K->∀i,i<L.n->L.R k i=aM U.E (fun e=>(U.M k e:Rat)*((1000000 / (U.X e:Rat))*(U.tw e i:Rat)))+(U.N k i:Rat)
namespace Aug
variable {B b e i j k : Nat} {a u : Fn}
variable (U:Aug) (L:Ls)
def row(i:Nat):Nat->Int:=
 G6 L.n U.E L.K
  (fun i=>G6 L.n U.E L.K (fun _=>0) (fun _=>0) (fun k=>U.N k i*U.w k) (fun e=>U.tw e i))
  (fun e=>G6 L.n U.E L.K (fun i=>-(1000000*U.tw e i)) (fun e2=>if e2=e then U.X e else 0) (fun _=>0) (fun _=>0))
  (fun k=>G6 L.n U.E L.K (fun i=>U.N k i) (fun e=>U.M k e) (fun k2=>if k2=k then 1 else 0) (fun _=>0))
  (fun e=>G6 L.n U.E L.K (fun _=>0) (fun _=>0) (fun k=>-(1000000*(U.M k e*U.w k))) (fun e2=>if e2=e then U.X e else 0)) i
def sus(e:Nat):Rat:=1000000 / (U.X e:Rat)
def pp(a:Fn):Fn:=fun e=>U.sus e*aM L.n fun i=>(U.tw e i:Rat)*a i
def tt(r:Fn):Fn:=fun e=>U.sus e*aM L.K fun k=>(U.M k e:Rat)*(L.w k*r k)
def vec(a r:Fn):Fn:=G6 L.n U.E L.K a (U.pp L a) r (U.tt L r)
variable {U L}
theorem Ok.sus_x(h:U.Ok L)(he:e<U.E):(U.X e:Rat)*U.sus e=1000000:=by
 have h1:=(h.x e he).1;have h2:(U.X e:Rat)≠0:=fun e2=>by
  have:(U.X e:Rat)=((0:Int):Rat):=e2;rw[Rat.intCast_inj] at this;omega
 unfold sus;rw[Rat.div_def,Rat.mul_comm,Rat.mul_assoc,Rat.inv_mul_cancel _ h2,Rat.mul_one]
theorem UQ{m:Nat}(hk:k<m)(c:Int)(g:Fn):aM m (fun j=>(((if j=k then c else 0):Int):Rat)*g j)=(c:Rat)*g k:=by
 rw[gH hk (fun j _ cG=>by rw[if_neg cG];exact Rat.zero_mul _),if_pos rfl]
theorem pT(m:Nat)(g:Fn):aM m (fun j=>((0:Int):Rat)*g j)=0:=cM fun j _=>Rat.zero_mul _
theorem Ok.rdot(h:U.Ok L)(hk:k<L.K)(a:Fn):aV L.n (L.R k) a=aM U.E (fun e=>(U.M k e:Rat)*U.pp L a e)+aM L.n (fun i=>(U.N k i:Rat)*a i):=by
 have e1:aV L.n (L.R k) a=aM L.n (fun i=>aM U.E (fun e=>(U.M k e:Rat)*(U.sus e*((U.tw e i:Rat)*a i)))+(U.N k i:Rat)*a i):=by
  unfold aV;refine aJ fun i hi=>?_;rw[h.r k hk i hi,Rat.add_mul,GJ];congr 1
  exact aJ fun e _=>by unfold sus;grind
 rw[e1,eR,nD];congr 1
 refine aJ fun e _=>?_;rw[bL];unfold pp;rw[bL]
theorem Ok.cdot(h:U.Ok L)(hi:i<L.n)(r:Fn):aM L.K (fun k=>L.w k*r k*L.R k i)=aM U.E (fun e=>(U.tw e i:Rat)*U.tt L r e)+aM L.K (fun k=>(U.N k i:Rat)*(L.w k*r k)):=by
 have e1:aM L.K (fun k=>L.w k*r k*L.R k i)=aM L.K (fun k=>aM U.E (fun e=>(U.tw e i:Rat)*(U.sus e*((U.M k e:Rat)*(L.w k*r k))))+(U.N k i:Rat)*(L.w k*r k)):=by
  refine aJ fun k hk=>?_;rw[h.r k hk i hi,Rat.mul_add,<-bL];congr 1
  ·exact aJ fun e _=>by unfold sus;grind
  ·grind
 rw[e1,eR,nD];congr 1
 refine aJ fun e _=>?_;rw[bL];unfold tt;rw[bL]
theorem aKc(hi:i<L.n)(g:Fn):aM (L.n+(U.E+(L.K+U.E))) (fun j=>((U.row L i j:Int):Rat)*g j)=aM L.K (fun k=>((U.N k i*U.w k:Int):Rat)*g (L.n+(U.E+k)))+aM U.E (fun e=>(U.tw e i:Rat)*g (L.n+(U.E+(L.K+e)))):=by
 have e:∀j,U.row L i j=G6 L.n U.E L.K (fun _=>0) (fun _=>0) (fun k=>U.N k i*U.w k) (fun e=>U.tw e i) j:=fun j=>by unfold row;rw[LD hi]
 simp only[e];rw[aJi,pT,pT,Rat.zero_add,Rat.zero_add]
theorem aKb(he:e<U.E)(g:Fn):aM (L.n+(U.E+(L.K+U.E))) (fun j=>((U.row L (L.n+e) j:Int):Rat)*g j)=(U.X e:Rat)*g (L.n+e)-1000000*aM L.n (fun i=>(U.tw e i:Rat)*g i):=by
 have e1:∀j,U.row L (L.n+e) j=G6 L.n U.E L.K (fun i=>-(1000000*U.tw e i)) (fun e2=>if e2=e then U.X e else 0) (fun _=>0) (fun _=>0) j:=fun j=>by unfold row;rw[QK he]
 simp only[e1];rw[aJi,pT,pT,UQ he (U.X e) (fun j=>g (L.n+j))];have e2:aM L.n (fun j=>((-(1000000*U.tw e j):Int):Rat)*g j)=(-1000000)*aM L.n (fun i=>(U.tw e i:Rat)*g i):=by
  rw[<-bL];refine aJ fun i _=>?_;rw[Rat.intCast_neg,Rat.intCast_mul];have:((1000000:Int):Rat)=1000000:=rfl;rw[this];grind
 rw[e2];grind
theorem aKa(hk:k<L.K)(g:Fn):aM (L.n+(U.E+(L.K+U.E))) (fun j=>((U.row L (L.n+(U.E+k)) j:Int):Rat)*g j)=aM L.n (fun i=>(U.N k i:Rat)*g i)+aM U.E (fun e=>(U.M k e:Rat)*g (L.n+e))+g (L.n+(U.E+k)):=by
 have e1:∀j,U.row L (L.n+(U.E+k)) j=G6 L.n U.E L.K (fun i=>U.N k i) (fun e=>U.M k e) (fun k2=>if k2=k then 1 else 0) (fun _=>0) j:=fun j=>by unfold row;rw[G5 hk]
 simp only[e1];rw[aJi,pT,UQ hk 1 (fun j=>g (L.n+(U.E+j)))];have:((1:Int):Rat)=1:=rfl;rw[this];grind
theorem aJ_(he:e<U.E)(g:Fn):aM (L.n+(U.E+(L.K+U.E))) (fun j=>((U.row L (L.n+(U.E+(L.K+e))) j:Int):Rat)*g j)=(U.X e:Rat)*g (L.n+(U.E+(L.K+e)))-1000000*aM L.K (fun k=>((U.M k e*U.w k:Int):Rat)*g (L.n+(U.E+k))):=by
 have e1:∀j,U.row L (L.n+(U.E+(L.K+e))) j=G6 L.n U.E L.K (fun _=>0) (fun _=>0) (fun k=>-(1000000*(U.M k e*U.w k))) (fun e2=>if e2=e then U.X e else 0) j:=fun j=>by unfold row;rw[QJ]
 simp only[e1];rw[aJi,pT,pT,UQ he (U.X e) (fun j=>g (L.n+(U.E+(L.K+j))))];have e2:aM L.K (fun j=>((-(1000000*(U.M j e*U.w j)):Int):Rat)*g (L.n+(U.E+j)))=(-1000000)*aM L.K (fun k=>((U.M k e*U.w k:Int):Rat)*g (L.n+(U.E+k))):=by
  rw[<-bL];refine aJ fun i _=>?_;rw[Rat.intCast_neg,Rat.intCast_mul];have:((1000000:Int):Rat)=1000000:=rfl;rw[this];grind
 rw[e2];grind
theorem Ok.bnd(h:U.Ok L)(hi:i<L.n+(U.E+(L.K+U.E)))(hj:j<L.n+(U.E+(L.K+U.E))):(U.row L i j).natAbs<=1000000000:=by
 have wN:∀k,k<L.K->(U.w k).natAbs<=1000:=fun k hk=>by have:=h.w k hk;omega
 have key:∀(a b:Int)(m:Nat),a.natAbs<=1->b.natAbs<=m->(a*b).natAbs<=m:=fun a b m h1 h2=>by
  rw[Int.natAbs_mul];have:=Nat.mul_le_mul h1 h2;omega
 unfold row;refine wI (P:=fun f:Nat->Int=>(f j).natAbs<=1000000000) (fun i2 h2=>?_) (fun e he=>?_) (fun k hk=>?_) (fun e he=>?_) i hi
 ·exact wI (P:=fun z:Int=>z.natAbs<=1000000000) (fun _ _=>by decide) (fun _ _=>by decide) (fun k hk=>b_ (key _ _ _ (h.n k i2) (wN k hk)) (by decide)) (fun e _=>b_ (h.t e i2) (by decide)) j hj
 ·refine wI (P:=fun z:Int=>z.natAbs<=1000000000) (fun i2 _=>?_) (fun e2 _=>?_) (fun _ _=>by decide) (fun _ _=>by decide) j hj
  ·have:=h.t e i2;omega
  ·split
   ·have:=h.x e he;omega
   ·decide
 ·refine wI (P:=fun z:Int=>z.natAbs<=1000000000) (fun i2 _=>?_) (fun e2 _=>?_) (fun k2 _=>?_) (fun _ _=>by decide) j hj
  ·have:=h.n k i2;omega
  ·have:=h.m k e2;omega
  ·split<;>decide
 ·refine wI (P:=fun z:Int=>z.natAbs<=1000000000) (fun _ _=>by decide) (fun _ _=>by decide) (fun k hk=>?_) (fun e2 _=>?_) j hj
  ·have h1:=key _ _ _ (h.m k e) (wN k hk)
   show(-(1000000*(U.M k e*U.w k))).natAbs<=1000000000;omega
  ·split
   ·have:=h.x e he;omega
   ·decide
theorem Ok.x0(h:U.Ok L)(he:e<U.E):(U.X e:Rat)≠0:=fun e2=>by
 have h1:=(h.x e he).1;have:(U.X e:Rat)=((0:Int):Rat):=e2;rw[Rat.intCast_inj] at this;omega
theorem Ok.cancel(h:U.Ok L)(he:e<U.E){p s:Rat}(hp:(U.X e:Rat)*p-1000000*s=0):p=U.sus e*s:=by
 have h1:=h.sus_x he;have h2:=h.x0 he;have h3:(U.X e:Rat)*(p-U.sus e*s)=0:=by grind
 rcases Rat.mul_eq_zero.1 h3 with h4 | h4
 ·exact absurd h4 h2
 ·grind
theorem Ok.wcast(h:U.Ok L)(hk:k<L.K)(z:Int)(r:Rat):((z*U.w k:Int):Rat)*r=(z:Rat)*(L.w k*r):=by
 rw[Rat.intCast_mul,(h.w k hk).2.2,Rat.mul_assoc]
theorem Ok.pos(h:U.Ok L):L.Pos:=fun k hk=>by
 rw[(h.w k hk).2.2];exact Rat.intCast_pos.2 (by have:=(h.w k hk).1;omega)
theorem Ok.reg(h:U.Ok L)(iP:∀c:Fn,(∀k,k<L.K->aV L.n (L.R k) c=0)->∀j,j<L.n->c j=0)(c:Fn)(hc:∀i,i<L.n+(U.E+(L.K+U.E))->aM (L.n+(U.E+(L.K+U.E))) (fun j=>((U.row L i j:Int):Rat)*c j)=0):∀j,j<L.n+(U.E+(L.K+U.E))->c j=0:=by
 have hp:∀e,e<U.E->c (L.n+e)=U.pp L c e:=fun e he=>by
  have h1:=hc (L.n+e) (by omega);rw[aKb he] at h1;exact h.cancel he h1
 have hr:∀k,k<L.K->c (L.n+(U.E+k))=-(aV L.n (L.R k) c):=fun k hk=>by
  have h1:=hc (L.n+(U.E+k)) (by omega);rw[aKa hk] at h1;rw[h.rdot hk,aJ (f:=fun e=>(U.M k e:Rat)*U.pp L c e) (g:=fun e=>(U.M k e:Rat)*c (L.n+e)) (fun e he=>by rw[hp e he])];grind
 have ht:∀e,e<U.E->c (L.n+(U.E+(L.K+e)))=U.tt L (fun k=>c (L.n+(U.E+k))) e:=fun e he=>by
  have h1:=hc (L.n+(U.E+(L.K+e))) (by omega);rw[aJ_ he] at h1;rw[h.cancel he h1];unfold tt;rw[aJ (fun k hk=>h.wcast hk (U.M k e) (c (L.n+(U.E+k))))]
 have hs:∀i,i<L.n->aM L.K (fun k=>L.w k*c (L.n+(U.E+k))*L.R k i)=0:=fun i hi=>by
  have h1:=hc i (by omega);rw[aKc hi] at h1;rw[h.cdot hi (fun k=>c (L.n+(U.E+k)))];rw[aJ (fun k hk=>h.wcast hk (U.N k i) (c (L.n+(U.E+k)))),aJ (f:=fun e=>(U.tw e i:Rat)*c (L.n+(U.E+(L.K+e)))) (g:=fun e=>(U.tw e i:Rat)*U.tt L (fun k=>c (L.n+(U.E+k))) e) (fun e he=>by rw[ht e he])] at h1;grind
 have hG:∀i,i<L.n->aV L.n (L.G i) c=0:=fun i hi=>by
  rw[L.gdot];have h1:=hs i hi;rw[aJ (f:=fun k=>L.w k*c (L.n+(U.E+k))*L.R k i) (g:=fun k=>(-1)*(L.w k*L.R k i*aV L.n (L.R k) c)) (fun k hk=>by rw[hr k hk];grind),bL] at h1;grind
 have hR:=(h.pos.ker c).1 hG;have ha:=iP c hR;have gC:∀k,k<L.K->c (L.n+(U.E+k))=0:=fun k hk=>by rw[hr k hk,hR k hk];rfl
 intro j hj;by_cases h1:j<L.n
 ·exact ha j h1
 ·by_cases h2:j<L.n+U.E
  ·obtain⟨e,rfl⟩:∃e,j=L.n+e:=⟨j-L.n,by omega⟩
   rw[hp e (by omega)];unfold pp;rw[cM (fun i hi=>by rw[ha i hi,Rat.mul_zero]),Rat.mul_zero]
  ·by_cases h3:j<L.n+U.E+L.K
   ·obtain⟨k,rfl⟩:∃k,j=L.n+(U.E+k):=⟨j-L.n-U.E,by omega⟩
    exact gC k (by omega)
   ·obtain⟨e,rfl⟩:∃e,j=L.n+(U.E+(L.K+e)):=⟨j-L.n-U.E-L.K,by omega⟩
    rw[ht e (by omega)];unfold tt;rw[cM (fun k hk=>by show(U.M k e:Rat)*(L.w k*c (L.n+(U.E+k)))=0;rw[gC k hk,Rat.mul_zero,Rat.mul_zero]),Rat.mul_zero]
theorem Ok.sol(h:U.Ok L)(ha:L.Sol a){V:Rat}{Y:Nat->Int}(hY:∀k,k<L.K->L.y k*V=(Y k:Rat)):∀i,i<L.n+(U.E+(L.K+U.E))->aM (L.n+(U.E+(L.K+U.E))) (fun j=>((U.row L i j:Int):Rat)*(V*U.vec L a (L.res a) j))=((G6 L.n U.E L.K (fun _=>(0:Int)) (fun _=>0) Y (fun _=>0) i:Int):Rat):=by
 intro j hj;by_cases h1:j<L.n
 ·rw[aKc h1,LD h1]
  have e1:aM L.K (fun k=>((U.N k j*U.w k:Int):Rat)*(V*U.vec L a (L.res a) (L.n+(U.E+k))))=V*aM L.K (fun k=>(U.N k j:Rat)*(L.w k*L.res a k)):=by
   rw[<-bL];refine aJ fun k hk=>?_;rw[h.wcast hk];unfold vec;rw[G5 hk];grind
  have e2:aM U.E (fun e=>(U.tw e j:Rat)*(V*U.vec L a (L.res a) (L.n+(U.E+(L.K+e)))))=V*aM U.E (fun e=>(U.tw e j:Rat)*U.tt L (L.res a) e):=by
   rw[<-bL];refine aJ fun e he=>?_;unfold vec;rw[QJ];grind
  have h3:=ha.normal j h1;rw[h.cdot h1] at h3;rw[e1,e2];have e0:(((0:Int)):Rat)=0:=rfl;rw[e0];grind
 ·by_cases h2:j<L.n+U.E
  ·obtain⟨e,rfl⟩:∃e,j=L.n+e:=⟨j-L.n,by omega⟩
   have he:e<U.E:=by omega
   rw[aKb he,QK he];have e1:aM L.n (fun i=>(U.tw e i:Rat)*(V*U.vec L a (L.res a) i))=V*aM L.n (fun i=>(U.tw e i:Rat)*a i):=by
    rw[<-bL];refine aJ fun i hi=>?_;unfold vec;rw[LD hi];grind
   have h4:=h.sus_x he;unfold vec at e1 ⊢;rw[e1,QK he];unfold pp;have e0:(((0:Int)):Rat)=0:=rfl;rw[e0];grind
  ·by_cases h3:j<L.n+U.E+L.K
   ·obtain⟨k,rfl⟩:∃k,j=L.n+(U.E+k):=⟨j-L.n-U.E,by omega⟩
    have hk:k<L.K:=by omega
    rw[aKa hk,G5 hk,<-hY k hk];have e1:aM L.n (fun i=>(U.N k i:Rat)*(V*U.vec L a (L.res a) i))=V*aM L.n (fun i=>(U.N k i:Rat)*a i):=by
     rw[<-bL];refine aJ fun i hi=>?_;unfold vec;rw[LD hi];grind
    have e2:aM U.E (fun e=>(U.M k e:Rat)*(V*U.vec L a (L.res a) (L.n+e)))=V*aM U.E (fun e=>(U.M k e:Rat)*U.pp L a e):=by
     rw[<-bL];refine aJ fun e he=>?_;unfold vec;rw[QK he];grind
    have h5:=h.rdot hk a;rw[e1,e2];unfold vec;rw[G5 hk];unfold Ls.res;grind
   ·obtain⟨e,rfl⟩:∃e,j=L.n+(U.E+(L.K+e)):=⟨j-L.n-U.E-L.K,by omega⟩
    have he:e<U.E:=by omega
    rw[aJ_ he,QJ];have e1:aM L.K (fun k=>((U.M k e*U.w k:Int):Rat)*(V*U.vec L a (L.res a) (L.n+(U.E+k))))=V*aM L.K (fun k=>(U.M k e:Rat)*(L.w k*L.res a k)):=by
     rw[<-bL];refine aJ fun k hk=>?_;rw[h.wcast hk];unfold vec;rw[G5 hk];grind
    have h4:=h.sus_x he;rw[e1];unfold vec;rw[QJ];unfold tt;have e0:(((0:Int)):Rat)=0:=rfl;rw[e0];grind
theorem Ok.short(h:U.Ok L)(hn:L.n<=8)(hE:U.E<=10)(hK:L.K<=8)(iP:∀c:Fn,(∀k,k<L.K->aV L.n (L.R k) c=0)->∀j,j<L.n->c j=0)(ha:L.Sol a){V:Rat}(hB:1<=B){Y:Nat->Int}(hY:∀k,k<L.K->L.y k*V=(Y k:Rat))(hYB:∀k,k<L.K->(Y k).natAbs<=B):∃t:Int,t≠0/\t.natAbs<=lI 396/\(∀i,i<L.n->∃z:Int,z.natAbs<=B*lI 396/\V*a i*(t:Rat)=(z:Rat))/\∀k,k<L.K->∃z:Int,z.natAbs<=B*lI 396/\V*L.res a k*(t:Rat)=(z:Rat):=by
 have hN:L.n+(U.E+(L.K+U.E))<=36:=by omega
 have hQp:∀N,N<=36->(10:Nat)^(11*N)<=lI 396:=fun N h=>aUo (a:=11*N) (b:=396) (by omega);generalize lI 396=Q at hQp ⊢;obtain⟨t,h0,h1,h2⟩:=aAl (n:=L.n+(U.E+(L.K+U.E))) (BA:=1000000000) (Bb:=B) (H1:=B*Q) (H2:=Q) (A:=U.row L) (b:=G6 L.n U.E L.K (fun _=>(0:Int)) (fun _=>0) Y (fun _=>0)) (x:=U.vec L a (L.res a)) (V:=V) (fun i j hi hj=>h.bnd hi hj) (wI (P:=fun z:Int=>z.natAbs<=B) (fun _ _=>Nat.zero_le _) (fun _ _=>Nat.zero_le _) hYB (fun _ _=>Nat.zero_le _)) (h.reg iP) (h.sol ha hY) (by
  generalize L.n+(U.E+(L.K+U.E))=N at hN;have e1:2*(N*(1000000000*(B*Q))+B*Q)+1<=10^11*(B*Q+1):=by
   generalize B*Q=H;have:=Nat.mul_le_mul_right (1000000000*H) hN;omega
  have e2:=Nat.pow_le_pow_left e1 N;rw[Nat.mul_pow,<-Nat.pow_mul] at e2;have e3:=hQp N hN;have e4:0<(B*Q+1)^N:=Nat.pow_pos (Nat.succ_pos _);have e5:=Nat.mul_le_mul_right ((B*Q+1)^N) e3;rw[Nat.mul_succ,Nat.mul_comm ((B*Q+1)^N) Q];omega)
 refine⟨t,h0,h1,fun i hi=>?_,fun k hk=>?_⟩
 ·obtain⟨z,h3,h4⟩:=h2 i (by omega)
  unfold vec at h4;rw[LD hi] at h4;exact⟨z,h3,h4⟩
 ·obtain⟨z,h3,h4⟩:=h2 (L.n+(U.E+k)) (by omega)
  unfold vec at h4;rw[G5 hk] at h4;exact⟨z,h3,h4⟩
end Aug
end
