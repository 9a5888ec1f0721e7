import Derived.Test.YthgdchffeigkbaaGreatDoorV06
import Derived.Test.YthgdchffeigkbaaGreatDoorV07
import Derived.Test.YthgdchffeigkbaaGreatDoorCards
import Derived.Test.YthgdchffeigkbaaGreatDoorTie
import Derived.JoinedOf
import Derived.RowKitTokens
set_option linter.unusedVariables false
set_option linter.unusedSimpArgs false
namespace Go.Proofs.YthgdchffeigkbaaGreatDoor
set_option maxHeartbeats 8000000
set_option maxRecDepth 100000
variable {B b e i j k : Nat} {a u : Fn}
section
open Go
section
variable {P:Program} {Q:Exit->Act->World->Prop}
theorem kW{S:World->Prop}{id:Nat}{a:Act}{w:Wo}{L:List Oper}(m p:Nat)(op oJ oK oM oN:Oper)(v:Value)(hm:P.follows .mixedOrders=true)(hs:rS .any L (m+4)=true)(wY:rS .any (L.take (m+4)) (m+3)=true)(hs3:rS .any (L.take (m+3)) (m+2)=true)(hs4:JM .any (L.take (m+2)) (m+1) [p]=true)(hp:L[p]?=some op)(hpm:p<m+1)(hpa:op.after.all (fun e=>!Region.binds .any e)=true)(hJ:L[m+1]?=some oJ)(hK:L[m+2]?=some oK)(hM:L[m+3]?=some oM)(hN:L[m+4]?=some oN)(hP:BG .any L.toArray (Array.replicate (m+5) false) p=true)(hQ:∀c a w,Q (.panic c) (a.put op.dst v) w->Q (.panic c) a w)(hw:Region.wanted op (yielded L.toArray a.tmps)=true)(hy:∀w,(execOp a.eval op).run P w=.ok (.value v) w)(hS:S w.drew)(h:S w.drew->wpAnyH P .any (L.take (m+1)).toArray (lK P (L.take (m+2)).toArray oJ (lK P (L.take (m+3)).toArray oK (lK P (L.take (m+4)).toArray oM (lK P L.toArray oN Q)))) S m ((Array.replicate (m+1) false).setIfInBounds p true) (a.put op.dst v) w.drew):(Code.region id L.toArray true).wp P Q a w:=by
 obtain⟨h1,h2,h3⟩:=mH hs;have FO:(L.take (m+4)).take (m+3)=L.take (m+3):=by rw[List.take_take,Nat.min_eq_left (by omega)]
 have oY:(L.take (m+3)).take (m+2)=L.take (m+2):=by rw[List.take_take,Nat.min_eq_left (by omega)]
 have sG:(L.take (m+2)).take (m+1)=L.take (m+1):=by rw[List.take_take,Nat.min_eq_left (by omega)]
 refine wp_region_any hm ?_;rw[show L.toArray.size=m+4+1 from by simpa using h1];unfold BG at hP;rw[Bool.and_eq_true,Bool.and_eq_true] at hP;refine wpAny_take (by rw[List.getElem?_toArray];exact hp) hP.1.1 hP.1.2 hP.2 hQ (.inl ⟨hw,hy⟩) ?_;have zC:∀(F:List Oper)(k:Nat),F[p]?=some op\/F[p]?=none->nF .any F ((Array.replicate k false).setIfInBounds p true):=fun F k hF j o ho hj e he hb=>by
  by_cases hpj:p=j
  ·subst hpj
   rcases hF with hF | hF
   ·rw[hF] at ho;injection ho with ho;subst ho
    have:=Array.all_eq_true_iff_forall_mem.1 hpa e he;rw[hb] at this;cases this
   ·rw[hF] at ho;cases ho
  ·rw[getD_set_ne false hpj] at hj
   exact absurd hj (by rcases Nat.lt_or_ge j k with h' | h'<;>simp[h'])
 have htk:∀k,(L.take k)[p]?=some op\/(L.take k)[p]?=none:=fun k=>by
  rw[List.getElem?_take];split
  ·exact .inl hp
  ·exact .inr rfl
 rw[Array.replicate_succ,m7 (by simp;omega)];refine kD hs hN (m+3) _ _ _ (by simp) (zC _ _ (htk _)) ?_;rw[Array.replicate_succ,m7 (by simp;omega)];refine kD wY (by rw[List.getElem?_take_of_lt (by omega)];exact hM) (m+2) _ _ _ (by simp) (zC _ _ (by rw[FO];exact htk _)) ?_;rw[FO,Array.replicate_succ,m7 (by simp;omega)];refine kD hs3 (by rw[List.getElem?_take_of_lt (by omega)];exact hK) (m+1) _ _ _ (by simp) (zC _ _ (by rw[oY];exact htk _)) ?_;rw[oY,Array.replicate_succ,m7 (by simp;omega)];refine FF hs4 (by rw[List.getElem?_take_of_lt (by omega)];exact hJ) m _ _ _ (by simp) (zC _ _ (by rw[sG];exact htk _)) (fun j hj=>by rw[List.mem_singleton.1 hj];simp;omega) ?_;rw[sG];exact wpAny_of_held _ _ _ _ (h hS)
end
end
section
open Go.ChangeShapes Go.WideShapes Go.ChangeAt Go.RowKit Go.Joins Go.Deep Go.Maps
attribute [local go_sem ↓] aE
attribute [local go_sem] aJ aI aM aR
theorem XX(w:Wo)(row:Option Nat):w.grownBy w row:=⟨rfl,rfl,rfl,lR,fun _ _ _=>rfl⟩
theorem Ck.start{w:Wo}{h:bY}{x:bO}(hS:jZ w b 0 [])(r:cQ w w.heap.size h x):Ck w w b h.A0 h.n0 x.nodes h x []:=⟨XX _ _,hS,r.r0,r⟩
theorem T4(h:bY)(x:bO)(w:Wo)(r:cQ w w.heap.size h x)(hl:m8 x):Calls Tryz.prog 58 #[.agg h.cells] w fun e w'=>e=.returned (.int .i64 (b_ x))/\Below w.heap.size w w':=by
 have HR:=lH (show b_ x=2 by unfold b_;rw[if_pos hl]);have K0:=jT w (.cells h.cells 29);have HK:=lH K0;have l0:=r.r0.1;have l1:=r.r1.1;have l2:=r.r2.1;have l3:=r.r3.1;have l4:=r.r4.1;have l5:=r.r5.1;have i0:=r.m0;have i1:=r.m1;have i2:=r.m2;have i3:=r.m3;have i4:=r.m4;have i5:=r.m5;unfold m8 at hl;rw[l0,l1,l2,l3,l4,l5] at hl;clear K0 l0 l1 l2 l3 l4 l5 r;obtain⟨A0,m0,c0,A1,m1,c1,A2,m2,c2,A3,m3,c3,A4,m4,c4,A5,m5,c5⟩:=h;dsimp only[bY.cells] at *;by_cases h0:24<m0
 ·clear hl
  go_enter Tryz.func58,Tryz.ntmps58
  (go_wp2_with fail);go_ret;exact⟨aX HR.o.symm,HK.o⟩
 ·skip
  by_cases h1:32<m1
  ·clear hl
   go_enter Tryz.func58,Tryz.ntmps58
   (go_wp2_with fail);go_ret;exact⟨aX HR.o.symm,HK.o⟩
  ·skip
   by_cases h2:24<m2
   ·clear hl
    go_enter Tryz.func58,Tryz.ntmps58
    (go_wp2_with fail);go_ret;exact⟨aX HR.o.symm,HK.o⟩
   ·skip
    by_cases h3:10<m3
    ·clear hl
     go_enter Tryz.func58,Tryz.ntmps58
     (go_wp2_with fail);go_ret;exact⟨aX HR.o.symm,HK.o⟩
    ·skip
     by_cases h4:12<m4
     ·clear hl
      go_enter Tryz.func58,Tryz.ntmps58
      (go_wp2_with fail);go_ret;exact⟨aX HR.o.symm,HK.o⟩
     ·skip
      have h5:4<m5:=by omega
      clear hl;go_enter Tryz.func58,Tryz.ntmps58
      (go_wp2_with fail);go_ret;exact⟨aX HR.o.symm,HK.o⟩
theorem T3(h:bY)(x:bO)(w:Wo)(r:cQ w w.heap.size h x)(hl:¬m8 x):Calls Tryz.prog 58 #[.agg h.cells] w fun e w'=>e=.returned (.int .i64 (b_ x))/\Below w.heap.size w w':=by
 have HW0:Hid (b_ x=ck0 x):=lH (by unfold b_;rw[if_neg hl]);have l0:=r.r0.1;have l1:=r.r1.1;have l2:=r.r2.1;have l3:=r.r3.1;have l4:=r.r4.1;have l5:=r.r5.1;unfold m8 at hl;rw[l0,l1,l2,l3,l4,l5] at hl;obtain⟨A0,m0,c0,A1,m1,c1,A2,m2,c2,A3,m3,c3,A4,m4,c4,A5,m5,c5⟩:=h;dsimp only[bY.cells] at *;have a5F:m0<=24:=by omega
 have S3:m1<=32:=by omega
 have zS:m2<=24:=by omega
 have hm3:m3<=10:=by omega
 have hm4:m4<=12:=by omega
 have hm5:m5<=4:=by omega
 have M9:m0<=9223372036854775807:=by omega
 clear hl l0 l1 l2 l3 l4 l5;generalize hnd:x.nodes=nodes;have DK:=lH hnd;have K1:Below w.heap.size w (((w.alloc (.cells #[.slice A0 m0 c0,.slice A1 m1 c1,.slice A2 m2 c2,.slice A3 m3 c3,.slice A4 m4 c4,.slice A5 m5 c5] 29)).alloc (.map #[] 0)).alloc (.cells #[.map (some (w.heap.size+1)),.slice A0 m0 c0] 161)):=((bA).alloc (by simp) _).alloc (by simp;omega) _;have bH:Below (w.heap.size+1+1) ((w.alloc (.cells #[.slice A0 m0 c0,.slice A1 m1 c1,.slice A2 m2 c2,.slice A3 m3 c3,.slice A4 m4 c4,.slice A5 m5 c5] 29)).alloc (.map #[] 0)) (((w.alloc (.cells #[.slice A0 m0 c0,.slice A1 m1 c1,.slice A2 m2 c2,.slice A3 m3 c3,.slice A4 m4 c4,.slice A5 m5 c5] 29)).alloc (.map #[] 0)).alloc (.cells #[.map (some (w.heap.size+1)),.slice A0 m0 c0] 161)):=bR.alloc (by simp) _;have hS0:jZ (((w.alloc (.cells #[.slice A0 m0 c0,.slice A1 m1 c1,.slice A2 m2 c2,.slice A3 m3 c3,.slice A4 m4 c4,.slice A5 m5 c5] 29)).alloc (.map #[] 0)).alloc (.cells #[.map (some (w.heap.size+1)),.slice A0 m0 c0] 161)) (w.heap.size+1) 0 []:=by
  have h0:=jZ.made (w.alloc (.cells #[.slice A0 m0 c0,.slice A1 m1 c1,.slice A2 m2 c2,.slice A3 m3 c3,.slice A4 m4 c4,.slice A5 m5 c5] 29));have h1:=h0.below (bR.alloc lR (.cells #[.map (some (w.heap.size+1)),.slice A0 m0 c0] 161));simpa using h1
 have HC:=lH (Ck.start hS0 (r.up K1));have sO:Hid (aG (((w.alloc (.cells #[.slice A0 m0 c0,.slice A1 m1 c1,.slice A2 m2 c2,.slice A3 m3 c3,.slice A4 m4 c4,.slice A5 m5 c5] 29)).alloc (.map #[] 0)).alloc (.cells #[.map (some (w.heap.size+1)),.slice A0 m0 c0] 161)) w.heap.size 29 #[.slice A0 m0 c0,.slice A1 m1 c1,.slice A2 m2 c2,.slice A3 m3 c3,.slice A4 m4 c4,.slice A5 m5 c5]):=lH (((aG.new w _ _).alloc _).alloc _);have DI:Hid (aG (((w.alloc (.cells #[.slice A0 m0 c0,.slice A1 m1 c1,.slice A2 m2 c2,.slice A3 m3 c3,.slice A4 m4 c4,.slice A5 m5 c5] 29)).alloc (.map #[] 0)).alloc (.cells #[.map (some (w.heap.size+1)),.slice A0 m0 c0] 161)) (w.heap.size+1+1) 161 #[.map (some (w.heap.size+1)),.slice A0 m0 c0]):=lH (aG.new_ (by simp));have pT:=lH HC.o.net;have KY:Hid (∀{w':Wo},(((w.alloc (.cells #[.slice A0 m0 c0,.slice A1 m1 c1,.slice A2 m2 c2,.slice A3 m3 c3,.slice A4 m4 c4,.slice A5 m5 c5] 29)).alloc (.map #[] 0)).alloc (.cells #[.map (some (w.heap.size+1)),.slice A0 m0 c0] 161)).grownBy w' (some (w.heap.size+1))->Below w.heap.size w w'):=
  lH fun hg=>AO K1 hg (by omega) lR
 obtain⟨y0,y1,y2,y3,y4,y5,nf,nlt⟩:=aW (h:=⟨A0,m0,c0,A1,m1,c1,A2,m2,c2,A3,m3,c3,A4,m4,c4,A5,m5,c5⟩) sO.o;rw[hnd] at HC;clear r hnd K1 bH hS0;have S2:=@run_makeMap Tryz.prog;go_enter Tryz.func58,Tryz.ntmps58
 go_wp2_with fail
 clear S2;generalize hWW:(((w.alloc (.cells #[.slice A0 m0 c0,.slice A1 m1 c1,.slice A2 m2 c2,.slice A3 m3 c3,.slice A4 m4 c4,.slice A5 m5 c5] 29)).alloc (.map #[] 0)).alloc (.cells #[.map (some (w.heap.size+1)),.slice A0 m0 c0] 161))=W0 at *;clear hWW;have aLR:Hid (x.nodes.length=m0):=lH pT.o.r0.1
 go_loopw [55] (fun i wr=>∃(k:Nat)(seen0:List ByteArray),k<=m0/\i=.int .i64 k/\Ck W0 wr (w.heap.size+1) A0 m0 nodes ⟨A0,m0,c0,A1,m1,c1,A2,m2,c2,A3,m3,c3,A4,m4,c4,A5,m5,c5⟩ x seen0/\aG wr (w.heap.size+1+1) 161 #[.map (some (w.heap.size+1)),.slice A0 m0 c0]/\aG wr w.heap.size 29 #[.slice A0 m0 c0,.slice A1 m1 c1,.slice A2 m2 c2,.slice A3 m3 c3,.slice A4 m4 c4,.slice A5 m5 c5]/\seen0.length<=k/\bF (tI nodes) id [] x.nodes=bF (tI nodes) id seen0 (x.nodes.drop k)) (fun i _=>m0-(intOf i).toNat)
 case atStart=>exact⟨0,[],by omega,rfl,HC.o,DI.o,sO.o,by simp,rfl⟩
 case round=>
  clear HC DI sO pT;obtain⟨k,seen0,hk,rfl,hC,pQ,oO,JU,pD⟩:=hrel;obtain⟨HC,DI,sO,kV⟩:=iK hC pQ oO pD;obtain⟨g0,g1,gf,glt⟩:=mR pQ;obtain⟨y0,y1,y2,y3,y4,y5,nf,nlt⟩:=aW (h:=⟨A0,m0,c0,A1,m1,c1,A2,m2,c2,A3,m3,c3,A4,m4,c4,A5,m5,c5⟩) oO;have QX:=hC.sn.lt;have pT:=lH hC.net;clear hC pQ oO pD;by_cases aU:k<m0
  ·obtain⟨z,hz⟩:∃z,x.nodes[k]?=some z:=eA (by have:=aLR.out;omega)
   obtain⟨bz,oz,hA,PE⟩:=HC.o.net.r0.form (by dsimp only;omega);dsimp only at hA;subst hA;have e0:=HC.o.net.r0.at_ hz;have hzn:=HC.o.net.z0 z (bV hz);have HZ:=lH (cM hz);clear hz;(go_wp2_with fail);refine(n_ (w.heap.size+1) _ _ m0 c0 nodes seen0 z _ 0 0 [] _ HC.o.rn M9 HC.o.sn (by omega) hzn (aBH _ _ _) (by omega)).mono ?_;generalize hR:nK nodes seen0 z []=r;rintro e w2 ⟨rfl,lO,S9⟩;have pQ:=aG.grown DI.o lO (fun e=>by injection e;omega);have oO:=aG.grown sO.o lO (fun e=>by injection e;omega);obtain⟨iJ,nO,Hg2,KM,C_⟩:=kN (gD HC.o.gr lO) S9 lO pQ oO;have xN:=lH hR;clear lO S9 pQ oO hR e0;by_cases gN:r=0
   ·subst gN
    have HC3:=lH (HC.o.put Hg2.o (nO.o rfl));have hf:tI nodes seen0 z=0:=xN.o;have HF:=lH hf;clear hf;(go_wp2_with fail);go_roundw
    case rel=>exact⟨k+1,z::seen0,by omega,by go_num,HC3.o,KM.o,C_.o,by simp;omega,by rw[kV.o];exact p5 HZ.o HF.o⟩
    case measure=>simp[intOf];omega
   ·have AX:(r != 0)=true:=by simpa using gN
    have hr:(bF (tI nodes) id [] x.nodes).1=r:=by rw[kV.o];exact eG HZ.o xN.o gN
    have sN:=lH hr;have E6:=lH gN;clear hr gN;(go_wp2_with fail);go_ret;exact⟨aX (by rw[HW0.o];unfold ck0;rw[(show tI x.nodes=tI nodes by rw[DK.o]),if_pos (by rw[sN.o];exact E6.o),sN.o]),KY.o iJ.o⟩
  ·have hd:x.nodes.drop k=[]:=by rw[List.drop_eq_nil_iff];have:=aLR.out;omega
   have hr:bF (tI nodes) id [] x.nodes=(0,seen0):=by rw[kV.o,hd];rfl
   have HL0:=lH hr;have a2H:seen0.length<=m0:=by omega
   clear hd hr JU;have HW1:Hid (b_ x=ck1 x seen0):=lH (by rw[HW0.o];unfold ck0;rw[show tI x.nodes=tI nodes by rw[DK.o],HL0.o];rfl);(go_wp2_with fail);have aLQ:Hid (x.sws.length=m1):=lH pT.o.r1.1
   go_loopw [69] (fun i wr=>∃(k:Nat)(seen1:List ByteArray),k<=m1/\i=.int .i64 k/\Ck W0 wr (w.heap.size+1) A0 m0 nodes ⟨A0,m0,c0,A1,m1,c1,A2,m2,c2,A3,m3,c3,A4,m4,c4,A5,m5,c5⟩ x seen1/\aG wr (w.heap.size+1+1) 161 #[.map (some (w.heap.size+1)),(.slice A0 m0 c0)]/\aG wr w.heap.size 29 #[.slice A0 m0 c0,.slice A1 m1 c1,.slice A2 m2 c2,.slice A3 m3 c3,.slice A4 m4 c4,.slice A5 m5 c5]/\seen1.length<=seen0.length+k/\bF (fSw nodes) Sw.name seen0 x.sws=bF (fSw nodes) Sw.name seen1 (x.sws.drop k)) (fun i _=>m1-(intOf i).toNat)
   case atStart=>exact⟨0,seen0,by omega,rfl,HC.o,DI.o,sO.o,by omega,rfl⟩
   case round=>
    clear HC DI sO pT;obtain⟨k,seen1,hk,rfl,hC,pQ,oO,JU,pD⟩:=hrel;obtain⟨HC,DI,sO,kV⟩:=iK hC pQ oO pD;obtain⟨g0,g1,gf,glt⟩:=mR pQ;obtain⟨y0,y1,y2,y3,y4,y5,nf,nlt⟩:=aW (h:=⟨A0,m0,c0,A1,m1,c1,A2,m2,c2,A3,m3,c3,A4,m4,c4,A5,m5,c5⟩) oO;have QX:=hC.sn.lt;have pT:=lH hC.net;clear hC pQ oO pD;by_cases aU:k<m1
    ·obtain⟨z,hz⟩:∃z,x.sws[k]?=some z:=eA (by have:=aLQ.out;omega)
     obtain⟨bz,oz,hA,PE⟩:=HC.o.net.r1.form (by dsimp only;omega);dsimp only at hA;subst hA;obtain⟨e0,e1,e2,e3,e4⟩:=HC.o.net.r1.at_ hz;have hzn:=HC.o.net.z1 z (bV hz);have HZ:=lH (cM hz);clear hz;(go_wp2_with fail);have hB:=EX wr (.cells #[.string z.name,.string z.a,.string z.b,.bool z.breaker,.bool z.opn] 148) (.cells #[.string z.a,.string z.b] 9);have hE:aY ((wr.alloc (.cells #[.string z.name,.string z.a,.string z.b,.bool z.breaker,.bool z.opn] 148)).alloc (.cells #[.string z.a,.string z.b] 9)) ((wr.alloc (.cells #[.string z.name,.string z.a,.string z.b,.bool z.breaker,.bool z.opn] 148)).alloc (.cells #[.string z.a,.string z.b] 9)).heap.size (some ⟨wr.heap.size+1,0,none⟩) 2 [z.a,z.b]:=fF (zs:=[z.a,z.b]) (aG.new_ (by simp)) (by simp);have zE:=HC.o.below hB;refine(n_ (w.heap.size+1) _ _ m0 c0 nodes seen1 z.name _ 2 2 [z.a,z.b] _ zE.rn M9 zE.sn (by omega) hzn hE (by omega)).mono ?_;generalize hR:nK nodes seen1 z.name [z.a,z.b]=r;rintro e w2 ⟨rfl,lO,S9⟩;have M8:aG w2 wr.heap.size 148 #[.string z.name,.string z.a,.string z.b,.bool z.breaker,.bool z.opn]:=aG.grown ((aG.new wr _ _).alloc _) lO (fun e=>by injection e;omega);have pQ:aG w2 (w.heap.size+1+1) 161 #[.map (some (w.heap.size+1)),(.slice A0 m0 c0)]:=aG.grown (DI.o.bl hB) lO (fun e=>by injection e;omega);have oO:=aG.grown (sO.o.bl hB) lO (fun e=>by injection e;omega);obtain⟨iJ,nO,HC2,Hg2⟩:=iK (gD zE.gr lO) S9 zE lO;obtain⟨f0,f1,f2,f3,f4,ff,flt⟩:=Sw.box M8;obtain⟨KM,C_,xN⟩:=d_ pQ oO hR;clear hB hE zE lO S9 M8 pQ oO hR e0 e1 e2 e3 e4;by_cases gN:r=0
     ·subst gN
      have HC3:=lH (HC2.o.put Hg2.o (nO.o rfl));have hf:fSw nodes seen1 z=0:=by unfold fSw Sw.bad;rw[xN.o];simp[]
      have HF:=lH hf;clear hf
      go_wp2_with (first | (go_at_call 130;refine(dB _ _).mono ?_;rintro e w' ⟨rfl,rfl⟩) | (go_at_call 129;refine(eF _ _ _ _).mono ?_;rintro e w' ⟨rfl,rfl⟩))
      go_roundw
      case rel=>exact⟨k+1,z.name::seen1,by omega,by go_num,HC3.o,KM.o,C_.o,by simp;omega,by rw[kV.o];exact p5 HZ.o HF.o⟩
      case measure=>simp[intOf];omega
     ·have AX:(r != 0)=true:=by simpa using gN
      have hf:fSw nodes seen1 z=r:=by unfold fSw;rw[xN.o,if_pos gN]
      have hr:(bF (fSw nodes) Sw.name seen0 x.sws).1=r:=by rw[kV.o];exact eG HZ.o hf gN
      have sN:=lH hr;have E6:=lH gN;clear hf hr gN;(go_wp2_with fail);go_ret;exact⟨aX (by rw[HW1.o];unfold ck1;rw[DK.o,if_pos (by rw[sN.o];exact E6.o),sN.o]),KY.o iJ.o⟩
    ·have hd:x.sws.drop k=[]:=by rw[List.drop_eq_nil_iff];have:=aLQ.out;omega
     have hr:bF (fSw nodes) Sw.name seen0 x.sws=(0,seen1):=by rw[kV.o,hd];rfl
     have HL1:=lH hr;have a2G:seen1.length<=seen0.length+m1:=by omega
     clear hd hr JU;have aAi:=pT;have HW2:Hid (b_ x=ck2 x seen1):=lH (by rw[HW1.o];unfold ck1;rw[DK.o,HL1.o];rfl);(go_wp2_with fail);have aLP:Hid (x.brs.length=m2):=lH pT.o.r2.1
     go_loopw [89] (fun i wr=>∃(k:Nat)(seen2:List ByteArray),k<=m2/\i=.int .i64 k/\Ck W0 wr (w.heap.size+1) A0 m0 nodes ⟨A0,m0,c0,A1,m1,c1,A2,m2,c2,A3,m3,c3,A4,m4,c4,A5,m5,c5⟩ x seen2/\aG wr (w.heap.size+1+1) 161 #[.map (some (w.heap.size+1)),(.slice A0 m0 c0)]/\aG wr w.heap.size 29 #[.slice A0 m0 c0,.slice A1 m1 c1,.slice A2 m2 c2,.slice A3 m3 c3,.slice A4 m4 c4,.slice A5 m5 c5]/\seen2.length<=seen1.length+k/\bF (TG nodes) Br.name seen1 x.brs=bF (TG nodes) Br.name seen2 (x.brs.drop k)) (fun i _=>m2-(intOf i).toNat)
     case atStart=>exact⟨0,seen1,by omega,rfl,HC.o,DI.o,sO.o,by omega,rfl⟩
     case round=>
      clear HC DI sO pT;obtain⟨k,seen2,hk,rfl,hC,pQ,oO,JU,pD⟩:=hrel;obtain⟨HC,DI,sO,kV⟩:=iK hC pQ oO pD;obtain⟨g0,g1,gf,glt⟩:=mR pQ;obtain⟨y0,y1,y2,y3,y4,y5,nf,nlt⟩:=aW (h:=⟨A0,m0,c0,A1,m1,c1,A2,m2,c2,A3,m3,c3,A4,m4,c4,A5,m5,c5⟩) oO;have QX:=hC.sn.lt;have pT:=lH hC.net;clear hC pQ oO pD;by_cases aU:k<m2
      ·obtain⟨z,hz⟩:∃z,x.brs[k]?=some z:=eA (by have:=aLP.out;omega)
       obtain⟨bz,oz,hA,PE⟩:=HC.o.net.r2.form (by dsimp only;omega);dsimp only at hA;subst hA;obtain⟨e0,e1,e2,e3,e4,e5,e6,e7,e8⟩:=HC.o.net.r2.at_ hz;have hzn:=HC.o.net.z2 z (bV hz);have HZ:=lH (cM hz);clear hz;(go_wp2_with fail);have hB:=EX wr (.cells #[.string z.name,.string z.fr,.string z.to,.int .i64 z.x,.int .i64 z.tap,.int .i64 z.shift,.int .i64 z.limit,.int .i64 z.short,.int .i64 z.hold] 54) (.cells #[.string z.fr,.string z.to] 9);have hE:aY ((wr.alloc (.cells #[.string z.name,.string z.fr,.string z.to,.int .i64 z.x,.int .i64 z.tap,.int .i64 z.shift,.int .i64 z.limit,.int .i64 z.short,.int .i64 z.hold] 54)).alloc (.cells #[.string z.fr,.string z.to] 9)) ((wr.alloc (.cells #[.string z.name,.string z.fr,.string z.to,.int .i64 z.x,.int .i64 z.tap,.int .i64 z.shift,.int .i64 z.limit,.int .i64 z.short,.int .i64 z.hold] 54)).alloc (.cells #[.string z.fr,.string z.to] 9)).heap.size (some ⟨wr.heap.size+1,0,none⟩) 2 [z.fr,z.to]:=fF (zs:=[z.fr,z.to]) (aG.new_ (by simp)) (by simp);have zE:=HC.o.below hB;refine(n_ (w.heap.size+1) _ _ m0 c0 nodes seen2 z.name _ 2 2 [z.fr,z.to] _ zE.rn M9 zE.sn (by omega) hzn hE (by omega)).mono ?_;generalize hR:nK nodes seen2 z.name [z.fr,z.to]=r;rintro e w2 ⟨rfl,lO,S9⟩;have M8:aG w2 wr.heap.size 54 #[.string z.name,.string z.fr,.string z.to,.int .i64 z.x,.int .i64 z.tap,.int .i64 z.shift,.int .i64 z.limit,.int .i64 z.short,.int .i64 z.hold]:=aG.grown ((aG.new wr _ _).alloc _) lO (fun e=>by injection e;omega);have pQ:aG w2 (w.heap.size+1+1) 161 #[.map (some (w.heap.size+1)),(.slice A0 m0 c0)]:=aG.grown (DI.o.bl hB) lO (fun e=>by injection e;omega);have oO:=aG.grown (sO.o.bl hB) lO (fun e=>by injection e;omega);obtain⟨iJ,nO,HC2,Hg2⟩:=iK (gD zE.gr lO) S9 zE lO;obtain⟨f0,f1,f2,f3,f4,f5,f6,f7,f8,ff,flt⟩:=Br.box M8;have KM:=lH pQ;have C_:=lH oO;have xN:=lH hR;clear hB hE zE lO S9 M8 pQ oO hR e0 e1 e2 e3 e4 e5 e6 e7 e8;by_cases gN:r=0
       ·subst gN
        have HC3:=lH (HC2.o.put Hg2.o (nO.o rfl));(go_wp2_with fail);refine(R_ z _).mono ?_;rintro e w3 ⟨rfl,k3⟩;obtain⟨HC4,HQ1'',HQ2''⟩:=d_ (HC3.o.below k3) (KM.o.bl k3) (C_.o.bl k3);have N1:=lH (gD iJ.o (iF k3 _));clear k3;cases hbad:z.bad with
        | true=>
         have mI:z.ck=4:=by unfold Br.ck;rw[hbad];rfl
         have hf:TG nodes seen2 z=4:=by unfold TG;rw[xN.o,mI];rfl
         have hr:(bF (TG nodes) Br.name seen1 x.brs).1=4:=by rw[kV.o];exact eG HZ.o hf (by omega)
         have sN:=lH hr;clear hf hr hbad;(go_wp2_with fail);go_ret;exact⟨aX (by rw[HW2.o];unfold ck2;rw[DK.o,if_pos (by rw[sN.o];omega),sN.o]),KY.o N1.o⟩
        | false=>
         have mI:z.ck=0:=by unfold Br.ck;rw[hbad];rfl
         have hf:TG nodes seen2 z=0:=by unfold TG;rw[xN.o,mI];rfl
         have HF:=lH hf;clear hf hbad;(go_wp2_with fail);go_roundw
         case rel=>exact⟨k+1,z.name::seen2,by omega,by go_num,HC4.o,HQ1''.o,HQ2''.o,by simp;omega,by rw[kV.o];exact p5 HZ.o HF.o⟩
         case measure=>simp[intOf];omega
       ·have AX:(r != 0)=true:=by simpa using gN
        have hf:TG nodes seen2 z=r:=by unfold TG;rw[xN.o,if_pos gN]
        have hr:(bF (TG nodes) Br.name seen1 x.brs).1=r:=by rw[kV.o];exact eG HZ.o hf gN
        have sN:=lH hr;have E6:=lH gN;clear hf hr gN;(go_wp2_with fail);go_ret;exact⟨aX (by rw[HW2.o];unfold ck2;rw[DK.o,if_pos (by rw[sN.o];exact E6.o),sN.o]),KY.o iJ.o⟩
      ·have hd:x.brs.drop k=[]:=by rw[List.drop_eq_nil_iff];have:=aLP.out;omega
       have hr:bF (TG nodes) Br.name seen1 x.brs=(0,seen2):=by rw[kV.o,hd];rfl
       have U2:=lH hr;have a2F:seen2.length<=seen1.length+m2:=by omega
       clear hd hr JU;have aAi:=pT;have AQ:Hid (b_ x=ck3 x seen2):=lH (by rw[HW2.o];unfold ck2;rw[DK.o,U2.o];rfl);(go_wp2_with fail);have hCw:Ck wr wr (w.heap.size+1) A0 m0 nodes ⟨A0,m0,c0,A1,m1,c1,A2,m2,c2,A3,m3,c3,A4,m4,c4,A5,m5,c5⟩ x seen2:=⟨⟨rfl,rfl,rfl,lR,fun _ _ _=>rfl⟩,HC.o.sn,HC.o.rn,HC.o.net⟩;refine(aGA (w.heap.size+1) _ m0 c0 nodes ⟨A0,m0,c0,A1,m1,c1,A2,m2,c2,A3,m3,c3,A4,m4,c4,A5,m5,c5⟩ x seen2 _ hCw M9 (by omega) hm3 hm4 hm5 DK.o).mono ?_;rintro e w4 ⟨rfl,hg4⟩;have HG4:=lH (gD HC.o.gr hg4);clear hg4 hCw;(go_wp2_with fail);go_ret;exact⟨aX (by rw[AQ.o]),KY.o HG4.o⟩
theorem tM(h:bY)(x:bO)(w:Wo)(r:cQ w w.heap.size h x):Calls Tryz.prog 58 #[.agg h.cells] w fun e w'=>e=.returned (.int .i64 (b_ x))/\Below w.heap.size w w':=by
 by_cases hl:m8 x
 ·exact T4 h x w r hl
 ·exact T3 h x w r hl
end
section
open Go
theorem OF{P:Program}{md:Region.Mode}{Q:Exit->Act->World->Prop}{L:List Oper}{S:World->Prop}(i j:Nat){o o':Oper}{fuel:Nat}{listed:Array Bool}{a:Act}{w:Wo}(hr:Region.ready md L.toArray listed=[i,j])(ho:L[i]?=some o)(UX:L[j]?=some o')(h:∀K':Act->World->Prop,Shut (∀a w,S w->(S w->wpAnyH P md L.toArray Q S fuel (listed.setIfInBounds i true) a w)->K' a w)->if Region.wanted o (yielded L.toArray a.tmps)=true then Oper.wp P o a w K' Q else K' (a.put o.dst undef) w)(h':∀K':Act->World->Prop,Shut (∀a w,S w->(S w->wpAnyH P md L.toArray Q S fuel (listed.setIfInBounds j true) a w)->K' a w)->if Region.wanted o' (yielded L.toArray a.tmps)=true then Oper.wp P o' a w K' Q else K' (a.put o'.dst undef) w):wpAnyH P md L.toArray Q S (fuel+1) listed a w:=
 wpAnyH_ready hr (by simp) (AllReadyH.cons (by rw[List.getElem?_toArray];exact ho) h (AllReadyH.cons (by rw[List.getElem?_toArray];exact UX) h' AllReadyH.nil))
end
section
theorem IX(c:Rat)(f:Fn)(n:Nat):aN n f*c=aN n (fun i=>f i*c):=by
 rw[Rat.mul_comm,<-bL];exact aL fun i _=>Rat.mul_comm _ _
theorem DV(f g:Fn)(n:Nat):aN n (fun i=>f i-g i)=aN n f-aN n g:=by
 have h:=cK f (fun i=>(-1)*g i) n;rw[bL] at h;have e:aN n (fun i=>f i-g i)=aN n (fun i=>f i+(-1)*g i):=aL fun i _=>by grind
 rw[e,h];grind
theorem aEe(x:Rat):0<=x*x:=by
 rcases Rat.le_total (a:=0) (b:=x) with h | h
 ·exact Rat.mul_nonneg h h
 ·have h2:0<=-x:=by grind
  have:=Rat.mul_nonneg h2 h2;grind
theorem wM:∀{n:Nat}{f:Fn},(∀i,i<n->0<=f i)->0<=aN n f
 | 0,_,_=>by simp[aN]
 | n+1,f,h=>by
  have h1:=wM (n:=n) (f:=f) fun i hi=>h i (by omega);have h2:=h n (by omega);simp only[aN];grind
theorem sD:∀{n:Nat}{f:Fn},(∀i,i<n->0<=f i)->aN n f=0->∀i,i<n->f i=0
 | 0,_,_,_,i,hi=>by omega
 | n+1,f,h,he,i,hi=>by
  have h1:=wM (n:=n) (f:=f) fun i hi=>h i (by omega);have h2:=h n (by omega);simp only[aN] at he
  by_cases kT:i=n
  ·subst kT;grind
  ·exact sD (n:=n) (fun i hi=>h i (by omega)) (by grind) i (by omega)
structure Ls where
 n:Nat
 K:Nat
 R:Nat->Fn
 w:Fn
 y:Fn
namespace Ls
variable {B b e i j k : Nat} {a u : Fn}
variable (L:Ls)
def Pos:Prop:=∀k,k<L.K->0<L.w k
def G(i:Nat):Fn:=fun j=>aN L.K fun k=>L.w k*L.R k i*L.R k j
def rt:Fn:=fun i=>aN L.K fun k=>L.w k*L.y k*L.R k i
def res(a:Fn):Fn:=fun k=>L.y k-aP L.n (L.R k) a
def cost(a:Fn):Rat:=aN L.K fun k=>L.w k*L.res a k*L.res a k
def Sol(a:Fn):Prop:=∀i,i<L.n->aP L.n (L.G i) a=L.rt i
theorem gdot(c:Fn)(i:Nat):aP L.n (L.G i) c=aN L.K fun k=>L.w k*L.R k i*aP L.n (L.R k) c:=by
 unfold aP G;have e:aN L.n (fun j=>aN L.K (fun k=>L.w k*L.R k i*L.R k j)*c j)=aN L.n (fun j=>aN L.K (fun k=>L.w k*L.R k i*(L.R k j*c j))):=aL fun j _=>by
  rw[IX];exact aL fun k _=>by grind
 rw[e,qI];exact aL fun k _=>bL _ _ _
theorem wdot(f c:Fn):aN L.n (fun i=>c i*aN L.K fun k=>f k*L.R k i)=aN L.K fun k=>f k*aP L.n (L.R k) c:=by
 have e:aN L.n (fun i=>c i*aN L.K fun k=>f k*L.R k i)=aN L.n (fun i=>aN L.K fun k=>f k*(L.R k i*c i)):=aL fun i _=>by
  rw[<-bL];exact aL fun k _=>by grind
 rw[e,qI];exact aL fun k _=>bL _ _ _
theorem bil(c d:Fn):aN L.n (fun i=>c i*aP L.n (L.G i) d)=aN L.K fun k=>L.w k*aP L.n (L.R k) d*aP L.n (L.R k) c:=by
 have e:aN L.n (fun i=>c i*aP L.n (L.G i) d)=aN L.n (fun i=>c i*aN L.K fun k=>(L.w k*aP L.n (L.R k) d)*L.R k i):=aL fun i _=>by
  rw[L.gdot];congr 1
  exact aL fun k _=>by grind
 rw[e,L.wdot]
theorem quad(c:Fn):aN L.n (fun i=>c i*aP L.n (L.G i) c)=aN L.K fun k=>L.w k*(aP L.n (L.R k) c*aP L.n (L.R k) c):=by
 rw[L.bil];exact aL fun k _=>by grind
variable {L}
theorem Pos.nn(h:L.Pos)(f:Fn):∀k,k<L.K->0<=L.w k*(f k*f k):=fun k hk=>Rat.mul_nonneg (Rat.le_of_lt (h k hk)) (aEe _)
theorem Pos.zero(h:L.Pos){f:Fn}(h0:aN L.K (fun k=>L.w k*(f k*f k))=0):∀k,k<L.K->f k=0:=fun k hk=>by
 have h1:=sD (h.nn f) h0 k hk;have h2:=h k hk;rcases Rat.mul_eq_zero.1 h1 with h3 | h3
 ·rw[h3] at h2;exact absurd h2 Rat.lt_irrefl
 ·rcases Rat.mul_eq_zero.1 h3 with h4 | h4<;>exact h4
theorem Pos.ker(h:L.Pos)(c:Fn):(∀i,i<L.n->aP L.n (L.G i) c=0)<->∀k,k<L.K->aP L.n (L.R k) c=0:=by
 constructor
 ·intro hc
  refine h.zero (f:=fun k=>aP L.n (L.R k) c) ?_;rw[<-L.quad];exact cX fun i hi=>by rw[hc i hi,Rat.mul_zero]
 ·intro hc i hi
  rw[L.gdot];exact cX fun k hk=>by rw[hc k hk,Rat.mul_zero]
theorem Sol.normal(h:L.Sol a):∀i,i<L.n->aN L.K (fun k=>L.w k*L.res a k*L.R k i)=0:=fun i hi=>by
 have h1:=h i hi;rw[L.gdot] at h1;unfold rt at h1;have e:aN L.K (fun k=>L.w k*L.res a k*L.R k i)=aN L.K (fun k=>L.w k*L.y k*L.R k i)-aN L.K (fun k=>L.w k*L.R k i*aP L.n (L.R k) a):=by
  rw[<-DV];exact aL fun k _=>by unfold res;grind
 rw[e,h1];grind
theorem Sol.orth(h:L.Sol a)(c:Fn):aN L.K (fun k=>L.w k*L.res a k*aP L.n (L.R k) c)=0:=by
 rw[<-L.wdot];exact cX fun i hi=>by rw[h.normal i hi,Rat.mul_zero]
theorem Sol.least(h:L.Sol a)(o:Fn):L.cost o=L.cost a+aN L.K fun k=>L.w k*(aP L.n (L.R k) (fun i=>o i+(-1)*a i)*aP L.n (L.R k) (fun i=>o i+(-1)*a i)):=by
 have h1:=h.orth (fun i=>o i+(-1)*a i);have e:L.cost o=L.cost a+aN L.K (fun k=>L.w k*(aP L.n (L.R k) (fun i=>o i+(-1)*a i)*aP L.n (L.R k) (fun i=>o i+(-1)*a i)))+(-2)*aN L.K (fun k=>L.w k*L.res a k*aP L.n (L.R k) (fun i=>o i+(-1)*a i)):=by
  unfold cost;rw[<-bL,<-cK,<-cK];refine aL fun k _=>?_;rw[nB,kO];unfold res;grind
 rw[e,h1];grind
def SolK(L:Ls)(k:Nat)(u:Fn):Prop:=∀i,i<L.n->aP L.n (L.G i) u=L.R k i
def spr(L:Ls)(k:Nat)(u:Fn):Rat:=1 / L.w k-aP L.n (L.R k) u
theorem SolK.dot(h:L.SolK k u)(c:Fn):aP L.n (L.R k) c=aN L.K fun j=>L.w j*aP L.n (L.R j) u*aP L.n (L.R j) c:=by
 rw[<-L.bil];unfold aP;exact aL fun i hi=>by
  have:=h i hi;unfold aP at this;rw[<-this];grind
theorem SolK.rest(h:L.SolK k u)(hk:k<L.K):aP L.n (L.R k) u=L.w k*(aP L.n (L.R k) u*aP L.n (L.R k) u)+aN L.K (fun j=>if j=k then 0 else L.w j*(aP L.n (L.R j) u*aP L.n (L.R j) u)):=by
 have h1:=h.dot u;have e:aN L.K (fun j=>L.w j*aP L.n (L.R j) u*aP L.n (L.R j) u)=aN L.K (fun j=>if j=k then L.w j*(aP L.n (L.R j) u*aP L.n (L.R j) u) else 0)+aN L.K (fun j=>if j=k then 0 else L.w j*(aP L.n (L.R j) u*aP L.n (L.R j) u)):=by
  rw[<-cK];exact aL fun j _=>by
   by_cases ej:j=k
   ·rw[if_pos ej,if_pos ej];grind
   ·rw[if_neg ej,if_neg ej];grind
 have e2:aN L.K (fun j=>if j=k then L.w j*(aP L.n (L.R j) u*aP L.n (L.R j) u) else 0)=L.w k*(aP L.n (L.R k) u*aP L.n (L.R k) u):=by
  rw[dQ hk (fun j _ bX=>by rw[if_neg bX]),if_pos rfl]
 rw[e,e2] at h1;exact h1
theorem SolK.q_nn(hp:L.Pos)(h:L.SolK k u):0<=aP L.n (L.R k) u:=by
 rw[h.dot u];exact wM fun j hj=>by
  have:=hp.nn (fun j=>aP L.n (L.R j) u) j hj;grind
theorem Z0(hp:L.Pos):∀j,j<L.K->0<=(if j=k then 0 else L.w j*(aP L.n (L.R j) u*aP L.n (L.R j) u)):=fun j hj=>by
 by_cases e:j=k
 ·rw[if_pos e];exact Rat.le_refl
 ·rw[if_neg e];exact hp.nn (fun j=>aP L.n (L.R j) u) j hj
theorem SL(hp:L.Pos)(hk:k<L.K):L.w k*(1 / L.w k)=1:=by
 have h:=hp k hk;have bX:L.w k≠0:=fun e=>by rw[e] at h;exact absurd h Rat.lt_irrefl
 rw[Rat.div_def,Rat.one_mul,Rat.mul_inv_cancel _ bX]
theorem SolK.spr_nn(hp:L.Pos)(hk:k<L.K)(h:L.SolK k u):0<=L.spr k u:=by
 have h1:=h.rest hk;have h2:=wM (Z0 (k:=k) (u:=u) hp);have h3:=h.q_nn hp;have h4:=SL hp hk;have h5:=hp k hk;unfold spr;generalize aP L.n (L.R k) u=p at *;generalize aN L.K (fun j=>if j=k then 0 else L.w j*(aP L.n (L.R j) u*aP L.n (L.R j) u))=t at *;generalize L.w k=w at *;generalize 1 / w=v at *;rcases Rat.le_total (a:=p) (b:=v) with FQ | FQ
 ·grind
 ·by_cases h0:p=v
  ·grind
  ·have aU:0<p-v:=by grind
   have hvp:0<v:=by
    rcases Rat.le_total (a:=v) (b:=0) with hv | hv
    ·have:=Rat.mul_nonneg (Rat.le_of_lt h5) (show 0<=-v by grind)
     grind
    ·by_cases vE:v=0
     ·rw[vE] at h4;grind
     ·grind
   have hpp:0<p:=by grind
   have h6:0<w*p*(p-v):=Rat.mul_pos (Rat.mul_pos h5 hpp) aU;have e:w*p*(p-v)=w*(p*p)-(w*v)*p:=by grind
   rw[e,h4,Rat.one_mul] at h6;generalize w*(p*p)=s at *;grind
theorem SolK.spr_zero(hp:L.Pos)(hk:k<L.K)(h:L.SolK k u)(h0:L.spr k u=0):(∀j,j<L.K->j≠k->aP L.n (L.R j) u=0)/\aP L.n (L.R k) u≠0:=by
 have h1:=h.rest hk;have h4:=SL hp hk;have h5:=hp k hk;unfold spr at h0;have hpv:aP L.n (L.R k) u=1 / L.w k:=by grind
 have hz:aN L.K (fun j=>if j=k then 0 else L.w j*(aP L.n (L.R j) u*aP L.n (L.R j) u))=0:=by
  have h6:L.w k*(aP L.n (L.R k) u*aP L.n (L.R k) u)=aP L.n (L.R k) u:=by
   rw[hpv];grind
  grind
 constructor
 ·intro j hj bX
  have:=sD (Z0 (k:=k) (u:=u) hp) hz j hj;rw[if_neg bX] at this;have h7:=hp j hj;rcases Rat.mul_eq_zero.1 this with h8 | h8
  ·rw[h8] at h7;exact absurd h7 Rat.lt_irrefl
  ·rcases Rat.mul_eq_zero.1 h8 with h9 | h9<;>exact h9
 ·rw[hpv]
  intro e;rw[e,Rat.mul_zero] at h4;exact absurd h4 (by decide)
end Ls
end
section
theorem R8:∀(K:Nat)(l:List Nat),l.Nodup->(∀x∈l,x<K)->l.length<=K
 | 0,l,_,h=>by
  cases l with
  | nil=>exact lR
  | cons a l=>exact absurd (h a (by simp)) (by omega)
 | K+1,l,hn,h=>by
  have h1:=R8 K (l.erase K) (hn.erase K) fun x hx=>by
   have h2:=(List.Nodup.mem_erase_iff hn).1 hx;have:=h x h2.2;omega
  have h2:=List.length_erase (a:=K) (l:=l);split at h2<;>omega
theorem aNn{N K:Nat}(f:Nat->Nat)(hf:∀u,u<N->f u<K)(h:K<N):∃u v,u<v/\v<N/\f u=f v:=by
 refine Classical.byContradiction fun bX=>?_;have hnd:((List.range N).map f).Nodup:=by
  rw[List.nodup_iff_pairwise_ne,List.pairwise_map];refine List.Pairwise.imp_of_mem ?_ List.pairwise_lt_range;intro a b ha hb jA he;exact bX ⟨a,b,jA,List.mem_range.1 hb,he⟩
 have:=R8 K _ hnd fun x hx=>by
  obtain⟨u,hu,rfl⟩:=List.mem_map.1 hx;exact hf u (List.mem_range.1 hu)
 rw[jO,List.length_range] at this;omega
def xI(B:Nat)(e:Nat->Nat):Nat->Nat
 | 0=>0
 | n+1=>xI B e n*B+e n
theorem TX{e:Nat->Nat}:∀{n:Nat},(∀i,i<n->e i<B)->xI B e n<B^n
 | 0,_=>by simp[xI]
 | n+1,h=>by
  have h1:=TX (n:=n) fun i hi=>h i (by omega);have h2:=h n (by omega);simp only[xI,Nat.pow_succ];have h3:(xI B e n+1)*B<=B^n*B:=Nat.mul_le_mul_right _ h1;rw[Nat.add_mul] at h3;omega
theorem NQ{e f:Nat->Nat}:∀{n:Nat},(∀i,i<n->e i<B)->(∀i,i<n->f i<B)->xI B e n=xI B f n->∀i,i<n->e i=f i
 | 0,_,_,_,i,hi=>by omega
 | n+1,h,k,he,i,hi=>by
  have h1:=h n (by omega);have h2:=k n (by omega);simp only[xI] at he;have hm:e n=f n:=by
   have h3:=congrArg (· % B) he;simp only[Nat.mul_comm _ B,Nat.mul_add_mod] at h3;rwa[Nat.mod_eq_of_lt h1,Nat.mod_eq_of_lt h2] at h3
  rw[hm] at he;have hd:xI B e n=xI B f n:=Nat.eq_of_mul_eq_mul_right (by omega:0<B) (by omega);by_cases kT:i=n
  ·subst kT;exact hm
  ·exact NQ (fun i hi=>h i (by omega)) (fun i hi=>k i (by omega)) hd i (by omega)
theorem J6{u v:Nat}:∀{n:Nat},(∀j,j<n->u / B^j % B=v / B^j % B)->u / B^n=v / B^n->u=v
 | 0,_,h=>by simpa using h
 | n+1,hd,h=>by
  refine J6 (n:=n) (fun j hj=>hd j (by omega)) ?_;rw[Nat.pow_succ,<-Nat.div_div_eq_div_mul,<-Nat.div_div_eq_div_mul] at h;have h1:=Nat.div_add_mod (u / B^n) B;have h2:=Nat.div_add_mod (v / B^n) B;rw[h,hd n (by omega)] at h1;omega
def qJ:Nat->(Nat->Int)->Int
 | 0,_=>0
 | n+1,f=>qJ n f+f n
theorem IY:∀{n:Nat}{f g:Nat->Int},(∀i,i<n->f i=g i)->qJ n f=qJ n g
 | 0,_,_,_=>rfl
 | n+1,f,g,h=>by simp only[qJ];rw[IY fun i hi=>h i (by omega),h n (by omega)]
theorem RG(f g:Nat->Int):∀n:Nat,qJ n (fun i=>f i-g i)=qJ n f-qJ n g
 | 0=>rfl
 | n+1=>by simp only[qJ];rw[RG f g n];omega
theorem RH{f:Nat->Int}:∀{n:Nat},(∀i,i<n->(f i).natAbs<=B)->(qJ n f).natAbs<=n*B
 | 0,_=>by simp[qJ]
 | n+1,h=>by
  have h1:=RH (n:=n) fun i hi=>h i (by omega);have h2:=h n (by omega);simp only[qJ];have h3:=Int.natAbs_add_le (qJ n f) (f n);rw[Nat.add_mul];omega
theorem aBv{n BA Bb H1 H2:Nat}{A:Nat->Nat->Int}{b:Nat->Int}(hA:∀i j,i<n->j<n->(A i j).natAbs<=BA)(hb:∀i,i<n->(b i).natAbs<=Bb)(gY:∀z:Nat->Int,(∀i,i<n->qJ n (fun j=>A i j*z j)=0)->∀j,j<n->z j=0)(hc:(2*(n*(BA*H1)+Bb*H2)+1)^n<(H1+1)^n*(H2+1)):∃(z:Nat->Int)(t:Int),t≠0/\t.natAbs<=H2/\(∀j,j<n->(z j).natAbs<=H1)/\∀i,i<n->qJ n (fun j=>A i j*z j)=b i*t:=by
 obtain⟨S,hS⟩:∃S,S=n*(BA*H1)+Bb*H2:=⟨_,rfl⟩;rw[<-hS] at hc;obtain⟨dg,hdg⟩:∃dg:Nat->Nat->Nat,dg=fun u j=>u / (H1+1)^j % (H1+1):=⟨_,rfl⟩;obtain⟨tp,htp⟩:∃tp:Nat->Nat,tp=fun u=>u / (H1+1)^n:=⟨_,rfl⟩;have hd:∀u j,dg u j<=H1:=fun u j=>by
  rw[hdg];have:=Nat.mod_lt (u / (H1+1)^j) (show 0<H1+1 by omega);simp only;omega
 have ht:∀u,u<(H1+1)^n*(H2+1)->tp u<=H2:=fun u hu=>by
  rw[htp];have:=Nat.div_lt_of_lt_mul hu;simp only;omega
 obtain⟨lin,aSE⟩:∃lin:Nat->Nat->Int,lin=fun u i=>qJ n (fun j=>A i j*(dg u j:Int))-b i*(tp u:Int):=⟨_,rfl⟩;have hl:∀u i,u<(H1+1)^n*(H2+1)->i<n->(lin u i).natAbs<=S:=fun u i hu hi=>by
  have h1:=RH (B:=BA*H1) (n:=n) (f:=fun j=>A i j*(dg u j:Int)) fun j hj=>by
   rw[Int.natAbs_mul,Int.natAbs_natCast];exact Nat.mul_le_mul (hA i j hi hj) (hd u j)
  have h2:(b i*(tp u:Int)).natAbs<=Bb*H2:=by
   rw[Int.natAbs_mul,Int.natAbs_natCast];exact Nat.mul_le_mul (hb i hi) (ht u hu)
  rw[aSE];simp only;omega
 obtain⟨cd,hcd⟩:∃cd:Nat->Nat->Nat,cd=fun u i=>(lin u i+(S:Int)).toNat:=⟨_,rfl⟩;have zC:∀u,u<(H1+1)^n*(H2+1)->∀i,i<n->cd u i<2*S+1:=fun u hu i hi=>by
  have:=hl u i hu hi;rw[hcd];simp only;omega
 obtain⟨u,v,huv,hvN,he⟩:=aNn (N:=(H1+1)^n*(H2+1)) (K:=(2*S+1)^n) (fun u=>xI (2*S+1) (cd u) n) (fun u hu=>TX (zC u hu)) hc;have huN:u<(H1+1)^n*(H2+1):=by omega
 have hee:=NQ (zC u huN) (zC v hvN) he;have aLM:∀i,i<n->qJ n (fun j=>A i j*((dg v j:Int)-(dg u j:Int)))=b i*((tp v:Int)-(tp u:Int)):=fun i hi=>by
  have h1:=hee i hi;have h2:=hl u i huN hi;have h3:=hl v i hvN hi;have h4:lin u i=lin v i:=by
   rw[hcd] at h1;simp only at h1;omega
  rw[aSE] at h4;simp only at h4;have h5:qJ n (fun j=>A i j*((dg v j:Int)-(dg u j:Int)))=qJ n (fun j=>A i j*(dg v j:Int))-qJ n (fun j=>A i j*(dg u j:Int)):=by
   rw[<-RG];exact IY fun j hj=>Int.mul_sub _ _ _
  rw[h5,Int.mul_sub];omega
 refine⟨fun j=>(dg v j:Int)-(dg u j:Int),(tp v:Int)-(tp u:Int),fun h0=>?_,?_,fun j hj=>?_,aLM⟩
 ·have hz:=gY (fun j=>(dg v j:Int)-(dg u j:Int)) fun i hi=>by
   rw[aLM i hi,h0,Int.mul_zero]
  have:u=v:=J6 (B:=H1+1) (n:=n) (fun j hj=>by
   have h5:(dg v j:Int)-(dg u j:Int)=0:=hz j hj;have h6:dg u j=dg v j:=by omega
   rw[hdg] at h6;exact h6) (by
   have h7:tp u=tp v:=by omega
   rw[htp] at h7;exact h7)
  omega
 ·have h1:=ht u huN
  have h2:=ht v hvN;omega
 ·have h1:=hd u j
  have h2:=hd v j;simp only;omega
theorem DX(f:Nat->Int):∀n:Nat,((qJ n f:Int):Rat)=aN n fun i=>(f i:Rat)
 | 0=>rfl
 | n+1=>by
  simp only[qJ,aN];rw[Rat.intCast_add,DX f n]
theorem aBs{n BA Bb H1 H2:Nat}{A:Nat->Nat->Int}{b:Nat->Int}{x:Fn}{V:Rat}(hA:∀i j,i<n->j<n->(A i j).natAbs<=BA)(hb:∀i,i<n->(b i).natAbs<=Bb)(gY:∀c:Fn,(∀i,i<n->aN n (fun j=>(A i j:Rat)*c j)=0)->∀j,j<n->c j=0)(hx:∀i,i<n->aN n (fun j=>(A i j:Rat)*(V*x j))=(b i:Rat))(hc:(2*(n*(BA*H1)+Bb*H2)+1)^n<(H1+1)^n*(H2+1)):∃t:Int,t≠0/\t.natAbs<=H2/\∀j,j<n->∃z:Int,z.natAbs<=H1/\V*x j*(t:Rat)=(z:Rat):=by
 obtain⟨z,t,h0,h1,h2,h3⟩:=aBv hA hb (fun z hz j hj=>by
  have:=gY (fun j=>(z j:Rat)) (fun i hi=>by
   have h:((qJ n (fun j=>A i j*z j):Int):Rat)=((0:Int):Rat):=congrArg (fun q:Int=>(q:Rat)) (hz i hi);rw[DX] at h;rw[<-show((0:Int):Rat)=0 from rfl,<-h];exact aL fun j _=>(Rat.intCast_mul _ _).symm) j hj
  exact Rat.intCast_inj.1 (by rw[this];rfl)) hc
 refine⟨t,h0,h1,fun j hj=>⟨z j,h2 j hj,?_⟩⟩;have hz:=gY (fun j=>V*x j*(t:Rat)+(-1)*(z j:Rat)) (fun i hi=>by
  have e:aN n (fun j=>(A i j:Rat)*(V*x j*(t:Rat)+(-1)*(z j:Rat)))=(t:Rat)*aN n (fun j=>(A i j:Rat)*(V*x j))+(-1)*aN n (fun j=>(A i j:Rat)*(z j:Rat)):=by
   rw[<-bL,<-bL,<-cK];exact aL fun j _=>by grind
  have h:((qJ n (fun j=>A i j*z j):Int):Rat)=((b i*t:Int):Rat):=congrArg (fun q:Int=>(q:Rat)) (h3 i hi);rw[DX,Rat.intCast_mul] at h;have e2:aN n (fun j=>((A i j*z j:Int):Rat))=aN n (fun j=>(A i j:Rat)*(z j:Rat)):=aL fun j _=>Rat.intCast_mul _ _;rw[e,hx i hi,<-e2,h];grind) j hj
 have:V*x j*(t:Rat)+(-1)*(z j:Rat)=0:=hz;grind
end
section
namespace Ls
variable {B b e i j k : Nat} {a u : Fn}
variable {L:Ls}
theorem SolK.symm{v:Fn}(hu:L.SolK k u)(hv:L.SolK j v):aP L.n (L.R j) u=aP L.n (L.R k) v:=by
 rw[hu.dot v,hv.dot u];exact aL fun i _=>by grind
theorem VE{n:Nat}{f g:Fn}{x y:Rat}(hj:j<n)(hk:k<n)(bX:j≠k)(h1:f j=g j+x)(h2:f k=g k+y)(h:∀i,i<n->i≠j->i≠k->f i=g i):aN n f=aN n g+x+y:=by
 have e:aN n f=aN n g+aN n (fun i=>if i=j then x else 0)+aN n (fun i=>if i=k then y else 0):=by
  rw[<-cK,<-cK];refine aL fun i hi=>?_
  by_cases tE:i=j
  ·subst tE;rw[if_pos rfl,if_neg bX,h1];grind
  ·by_cases zB:i=k
   ·subst zB;rw[if_neg tE,if_pos rfl,h2];grind
   ·rw[if_neg tE,if_neg zB,h i hi tE zB];grind
 have e1:aN n (fun i=>if i=j then x else 0)=x:=by rw[dQ hj (fun i _ bX=>by rw[if_neg bX]),if_pos rfl]
 have e2:aN n (fun i=>if i=k then y else 0)=y:=by rw[dQ hk (fun i _ bX=>by rw[if_neg bX]),if_pos rfl]
 rw[e,e1,e2]
theorem aLa(hp:L.Pos)(hi:i<L.K)(a g:Rat):L.w i*((a*(1 / L.w i)-g)*(a*(1 / L.w i)-g))=L.w i*(g*g)+(a*a*(1 / L.w i)-2*(a*g)):=by
 have h:=SL hp hi;generalize 1 / L.w i=v at *;generalize L.w i=w at *;have e:w*((a*v-g)*(a*v-g))=(w*v)*(a*a*v)-2*((w*v)*(a*g))+w*(g*g):=by grind
 rw[e,h];grind
theorem cross{v:Fn}(hp:L.Pos)(hj:j<L.K)(hk:k<L.K)(bX:j≠k)(hu:L.SolK k u)(hv:L.SolK j v)(h0:0<L.spr k u):aP L.n (L.R j) u*aP L.n (L.R j) u<=L.spr j v*L.spr k u:=by
 obtain⟨q,hq⟩:∃q,q=aP L.n (L.R j) u:=⟨_,rfl⟩;obtain⟨s,hs⟩:∃s,s=L.spr k u:=⟨_,rfl⟩;obtain⟨t,ht⟩:∃t,t=L.spr j v:=⟨_,rfl⟩;rw[<-hq,<-hs,<-ht];rw[<-hs] at h0;obtain⟨c,hc⟩:∃c:Fn,c=fun i=>s*v i+q*u i:=⟨_,rfl⟩;have hd:∀i,aP L.n (L.R i) c=s*aP L.n (L.R i) v+q*aP L.n (L.R i) u:=fun i=>by
  rw[hc,nB L.n (L.R i) (fun i=>s*v i) (fun i=>q*u i),kO,kO]
 have hG:∀i,i<L.n->aP L.n (L.G i) c=s*L.R j i+q*L.R k i:=fun i hi=>by
  rw[hc,nB L.n (L.G i) (fun i=>s*v i) (fun i=>q*u i),kO,kO,hv i hi,hu i hi]
 have aSb:aN L.K (fun i=>L.w i*(aP L.n (L.R i) c*aP L.n (L.R i) c))=s*aP L.n (L.R j) c+q*aP L.n (L.R k) c:=by
  rw[<-L.quad];have e:aN L.n (fun i=>c i*aP L.n (L.G i) c)=aN L.n (fun i=>s*(L.R j i*c i)+q*(L.R k i*c i)):=aL fun i hi=>by rw[hG i hi];grind
  rw[e,cK (fun i=>s*(L.R j i*c i)) (fun i=>q*(L.R k i*c i)),bL,bL];rfl
 have aNM:=VE (n:=L.K) (j:=j) (k:=k) (f:=fun i=>L.w i*(((if i=j then s else if i=k then q else 0)*(1 / L.w i)-aP L.n (L.R i) c)*((if i=j then s else if i=k then q else 0)*(1 / L.w i)-aP L.n (L.R i) c)))
  (g:=fun i=>L.w i*(aP L.n (L.R i) c*aP L.n (L.R i) c)) (x:=s*s*(1 / L.w j)-2*(s*aP L.n (L.R j) c)) (y:=q*q*(1 / L.w k)-2*(q*aP L.n (L.R k) c)) hj hk bX
  (by simp only[if_true];exact aLa hp hj s _) (by simp only[if_neg (fun e:k=j=>bX e.symm),if_true];exact aLa hp hk q _)
  (fun i hi h1 h2=>by simp only[if_neg h1,if_neg h2];grind)
 have G_:0<=aN L.K (fun i=>L.w i*(((if i=j then s else if i=k then q else 0)*(1 / L.w i)-aP L.n (L.R i) c)*((if i=j then s else if i=k then q else 0)*(1 / L.w i)-aP L.n (L.R i) c))):=
  wM (hp.nn fun i=>(if i=j then s else if i=k then q else 0)*(1 / L.w i)-aP L.n (L.R i) c)
 rw[aNM,aSb,hd j,hd k,<-hu.symm hv,<-hq] at G_;have hsk:1 / L.w k=s+aP L.n (L.R k) u:=by rw[hs];unfold spr;grind
 have htj:1 / L.w j=t+aP L.n (L.R j) v:=by rw[ht];unfold spr;grind
 rw[hsk,htj] at G_;generalize aP L.n (L.R k) u=a at *;generalize aP L.n (L.R j) v=b at *;have e:s*(s*b+q*q)+q*(s*q+q*a)+(s*s*(t+b)-2*(s*(s*b+q*q)))+(q*q*(s+a)-2*(q*(s*q+q*a)))=s*(t*s-q*q):=by grind
 rw[e] at G_;rcases Rat.le_total (a:=q*q) (b:=t*s) with h | h
 ·exact h
 ·by_cases he:q*q=t*s
  ·rw[he];exact Rat.le_refl
  ·have h1:0<q*q-t*s:=by grind
   have:=Rat.mul_pos h0 h1;grind
end Ls
end
section
open Go
def Ch(m:Int)(a b:List Int):Prop:=∀j,b.getD j 0=a.getD j 0\/(a.getD j 0<0/\b.getD j 0=m)
theorem Ch.refl(m:Int)(a:List Int):Ch m a a:=fun j=>.inl rfl
theorem Ch.trans{m:Int}(hm:0<=m){a b c:List Int}(h:Ch m a b)(h2:Ch m b c):Ch m a c:=fun j=>by
 rcases h j with h | ⟨h,h'⟩<;>rcases h2 j with g | ⟨g,g'⟩
 ·exact .inl (g.trans h)
 ·exact .inr ⟨by omega,g'⟩
 ·exact .inr ⟨h,g.trans h'⟩
 ·omega
end
section
def JJ{α:Type}(n E K:Nat)(f1 f2 f3 f4:Nat->α):Nat->α:=fun j=>if j<n then f1 j else if j<n+E then f2 (j-n) else if j<n+E+K then f3 (j-n-E) else f4 (j-n-E-K)
section
variable {n E K:Nat}
theorem MU{α:Type}{f1 f2 f3 f4:Nat->α}(h:j<n):JJ n E K f1 f2 f3 f4 j=f1 j:=by unfold JJ;rw[if_pos h]
theorem SF{α:Type}{f1 f2 f3 f4:Nat->α}(h:j<E):JJ n E K f1 f2 f3 f4 (n+j)=f2 j:=by
 unfold JJ;rw[if_neg (by omega),if_pos (by omega),Nat.add_sub_cancel_left]
theorem JI{α:Type}{f1 f2 f3 f4:Nat->α}(h:j<K):JJ n E K f1 f2 f3 f4 (n+(E+j))=f3 j:=by
 unfold JJ;rw[if_neg (by omega),if_neg (by omega),if_pos (by omega),show n+(E+j)-n-E=j by omega]
theorem SE{α:Type}{f1 f2 f3 f4:Nat->α}:JJ n E K f1 f2 f3 f4 (n+(E+(K+j)))=f4 j:=by
 unfold JJ;rw[if_neg (by omega),if_neg (by omega),if_neg (by omega),show n+(E+(K+j))-n-E-K=j by omega]
theorem yE{α:Type}{f1 f2 f3 f4:Nat->α}{P:α->Prop}(h1:∀j,j<n->P (f1 j))(h2:∀j,j<E->P (f2 j))(h3:∀j,j<K->P (f3 j))(h4:∀j,j<E->P (f4 j)):∀j,j<n+(E+(K+E))->P (JJ n E K f1 f2 f3 f4 j):=fun j hj=>by
 unfold JJ;split
 ·exact h1 j (by omega)
 ·split
  ·exact h2 _ (by omega)
  ·split
   ·exact h3 _ (by omega)
   ·exact h4 _ (by omega)
theorem aKe(f1 f2 f3 f4:Nat->Int)(g:Fn):aN (n+(E+(K+E))) (fun j=>((JJ n E K f1 f2 f3 f4 j:Int):Rat)*g j)=aN n (fun j=>(f1 j:Rat)*g j)+(aN E (fun j=>(f2 j:Rat)*g (n+j))+(aN K (fun j=>(f3 j:Rat)*g (n+(E+j)))+aN E (fun j=>(f4 j:Rat)*g (n+(E+(K+j)))))):=by
 rw[mP,mP,mP];congr 1
 ·exact aL fun j hj=>by rw[MU hj]
 congr 1
 ·exact aL fun j hj=>by rw[SF hj]
 congr 1
 ·exact aL fun j hj=>by rw[JI hj]
 ·exact aL fun j hj=>by rw[SE]
end
def jG(n:Nat):Nat:=10^n
theorem aWW{a:Nat}(h:a<=b):jG a<=jG b:=Nat.pow_le_pow_right (by decide) h
theorem FG{a c:Nat}(h:a+b<=c):jG a*jG b<=jG c:=by
 unfold jG;rw[<-Nat.pow_add];exact Nat.pow_le_pow_right (by decide) h
theorem aLc(a:Nat):1<=jG a:=Nat.pow_pos (by decide)
structure Aug where
 E:Nat
 X:Nat->Int
 tw:Nat->Nat->Int
 M:Nat->Nat->Int
 N:Nat->Nat->Int
 w:Nat->Int
structure Aug.Ok (U:Aug) (L:Ls):Prop where
 x:∀e,e<U.E->1<=U.X e/\U.X e<=1000000000
 t:∀e i,(U.tw e i).natAbs<=1
 m:∀k e,(U.M k e).natAbs<=1
 n:∀k i,(U.N k i).natAbs<=1
 w:∀k,k<L.K->1<=U.w k/\U.w k<=1000/\L.w k=(U.w k:Rat)
 r:∀k,k<L.K->∀i,i<L.n->L.R k i=aN U.E (fun e=>(U.M k e:Rat)*((1000000 / (U.X e:Rat))*(U.tw e i:Rat)))+(U.N k i:Rat)
namespace Aug
variable {B b e i j k : Nat} {a u : Fn}
variable (U:Aug) (L:Ls)
def row(i:Nat):Nat->Int:=
 JJ L.n U.E L.K
  (fun i=>JJ L.n U.E L.K (fun _=>0) (fun _=>0) (fun k=>U.N k i*U.w k) (fun e=>U.tw e i))
  (fun e=>JJ L.n U.E L.K (fun i=>-(1000000*U.tw e i)) (fun e2=>if e2=e then U.X e else 0) (fun _=>0) (fun _=>0))
  (fun k=>JJ L.n U.E L.K (fun i=>U.N k i) (fun e=>U.M k e) (fun k2=>if k2=k then 1 else 0) (fun _=>0))
  (fun e=>JJ L.n U.E L.K (fun _=>0) (fun _=>0) (fun k=>-(1000000*(U.M k e*U.w k))) (fun e2=>if e2=e then U.X e else 0)) i
def sus(e:Nat):Rat:=1000000 / (U.X e:Rat)
def pp(a:Fn):Fn:=fun e=>U.sus e*aN L.n fun i=>(U.tw e i:Rat)*a i
def tt(r:Fn):Fn:=fun e=>U.sus e*aN L.K fun k=>(U.M k e:Rat)*(L.w k*r k)
def vec(a r:Fn):Fn:=JJ L.n U.E L.K a (U.pp L a) r (U.tt L r)
variable {U L}
theorem Ok.sus_x(h:U.Ok L)(he:e<U.E):(U.X e:Rat)*U.sus e=1000000:=by
 have h1:=(h.x e he).1;have h2:(U.X e:Rat)≠0:=fun e2=>by
  have:(U.X e:Rat)=((0:Int):Rat):=e2;rw[Rat.intCast_inj] at this;omega
 unfold sus;rw[Rat.div_def,Rat.mul_comm,Rat.mul_assoc,Rat.inv_mul_cancel _ h2,Rat.mul_one]
theorem WM{m:Nat}(hk:k<m)(c:Int)(g:Fn):aN m (fun j=>(((if j=k then c else 0):Int):Rat)*g j)=(c:Rat)*g k:=by
 rw[dQ hk (fun j _ bX=>by rw[if_neg bX];exact Rat.zero_mul _),if_pos rfl]
theorem qB(m:Nat)(g:Fn):aN m (fun j=>((0:Int):Rat)*g j)=0:=cX fun j _=>Rat.zero_mul _
theorem Ok.rdot(h:U.Ok L)(hk:k<L.K)(a:Fn):aP L.n (L.R k) a=aN U.E (fun e=>(U.M k e:Rat)*U.pp L a e)+aN L.n (fun i=>(U.N k i:Rat)*a i):=by
 have e1:aP L.n (L.R k) a=aN L.n (fun i=>aN U.E (fun e=>(U.M k e:Rat)*(U.sus e*((U.tw e i:Rat)*a i)))+(U.N k i:Rat)*a i):=by
  unfold aP;refine aL fun i hi=>?_;rw[h.r k hk i hi,Rat.add_mul,IX];congr 1
  exact aL fun e _=>by unfold sus;grind
 rw[e1,cK,qI];congr 1
 refine aL fun e _=>?_;rw[bL];unfold pp;rw[bL]
theorem Ok.cdot(h:U.Ok L)(hi:i<L.n)(r:Fn):aN L.K (fun k=>L.w k*r k*L.R k i)=aN U.E (fun e=>(U.tw e i:Rat)*U.tt L r e)+aN L.K (fun k=>(U.N k i:Rat)*(L.w k*r k)):=by
 have e1:aN L.K (fun k=>L.w k*r k*L.R k i)=aN L.K (fun k=>aN U.E (fun e=>(U.tw e i:Rat)*(U.sus e*((U.M k e:Rat)*(L.w k*r k))))+(U.N k i:Rat)*(L.w k*r k)):=by
  refine aL fun k hk=>?_;rw[h.r k hk i hi,Rat.mul_add,<-bL];congr 1
  ·exact aL fun e _=>by unfold sus;grind
  ·grind
 rw[e1,cK,qI];congr 1
 refine aL fun e _=>?_;rw[bL];unfold tt;rw[bL]
theorem aLk(hi:i<L.n)(g:Fn):aN (L.n+(U.E+(L.K+U.E))) (fun j=>((U.row L i j:Int):Rat)*g j)=aN L.K (fun k=>((U.N k i*U.w k:Int):Rat)*g (L.n+(U.E+k)))+aN U.E (fun e=>(U.tw e i:Rat)*g (L.n+(U.E+(L.K+e)))):=by
 have e:∀j,U.row L i j=JJ L.n U.E L.K (fun _=>0) (fun _=>0) (fun k=>U.N k i*U.w k) (fun e=>U.tw e i) j:=fun j=>by unfold row;rw[MU hi]
 simp only[e];rw[aKe,qB,qB,Rat.zero_add,Rat.zero_add]
theorem aLj(he:e<U.E)(g:Fn):aN (L.n+(U.E+(L.K+U.E))) (fun j=>((U.row L (L.n+e) j:Int):Rat)*g j)=(U.X e:Rat)*g (L.n+e)-1000000*aN L.n (fun i=>(U.tw e i:Rat)*g i):=by
 have e1:∀j,U.row L (L.n+e) j=JJ L.n U.E L.K (fun i=>-(1000000*U.tw e i)) (fun e2=>if e2=e then U.X e else 0) (fun _=>0) (fun _=>0) j:=fun j=>by unfold row;rw[SF he]
 simp only[e1];rw[aKe,qB,qB,WM he (U.X e) (fun j=>g (L.n+j))];have e2:aN L.n (fun j=>((-(1000000*U.tw e j):Int):Rat)*g j)=(-1000000)*aN L.n (fun i=>(U.tw e i:Rat)*g i):=by
  rw[<-bL];refine aL fun i _=>?_;rw[Rat.intCast_neg,Rat.intCast_mul];have:((1000000:Int):Rat)=1000000:=rfl;rw[this];grind
 rw[e2];grind
theorem aLi(hk:k<L.K)(g:Fn):aN (L.n+(U.E+(L.K+U.E))) (fun j=>((U.row L (L.n+(U.E+k)) j:Int):Rat)*g j)=aN L.n (fun i=>(U.N k i:Rat)*g i)+aN U.E (fun e=>(U.M k e:Rat)*g (L.n+e))+g (L.n+(U.E+k)):=by
 have e1:∀j,U.row L (L.n+(U.E+k)) j=JJ L.n U.E L.K (fun i=>U.N k i) (fun e=>U.M k e) (fun k2=>if k2=k then 1 else 0) (fun _=>0) j:=fun j=>by unfold row;rw[JI hk]
 simp only[e1];rw[aKe,qB,WM hk 1 (fun j=>g (L.n+(U.E+j)))];have:((1:Int):Rat)=1:=rfl;rw[this];grind
theorem aLh(he:e<U.E)(g:Fn):aN (L.n+(U.E+(L.K+U.E))) (fun j=>((U.row L (L.n+(U.E+(L.K+e))) j:Int):Rat)*g j)=(U.X e:Rat)*g (L.n+(U.E+(L.K+e)))-1000000*aN L.K (fun k=>((U.M k e*U.w k:Int):Rat)*g (L.n+(U.E+k))):=by
 have e1:∀j,U.row L (L.n+(U.E+(L.K+e))) j=JJ L.n U.E L.K (fun _=>0) (fun _=>0) (fun k=>-(1000000*(U.M k e*U.w k))) (fun e2=>if e2=e then U.X e else 0) j:=fun j=>by unfold row;rw[SE]
 simp only[e1];rw[aKe,qB,qB,WM he (U.X e) (fun j=>g (L.n+(U.E+(L.K+j))))];have e2:aN L.K (fun j=>((-(1000000*(U.M j e*U.w j)):Int):Rat)*g (L.n+(U.E+j)))=(-1000000)*aN L.K (fun k=>((U.M k e*U.w k:Int):Rat)*g (L.n+(U.E+k))):=by
  rw[<-bL];refine aL fun i _=>?_;rw[Rat.intCast_neg,Rat.intCast_mul];have:((1000000:Int):Rat)=1000000:=rfl;rw[this];grind
 rw[e2];grind
theorem Ok.bnd(h:U.Ok L)(hi:i<L.n+(U.E+(L.K+U.E)))(hj:j<L.n+(U.E+(L.K+U.E))):(U.row L i j).natAbs<=1000000000:=by
 have wN:∀k,k<L.K->(U.w k).natAbs<=1000:=fun k hk=>by have:=h.w k hk;omega
 have key:∀(a b:Int)(m:Nat),a.natAbs<=1->b.natAbs<=m->(a*b).natAbs<=m:=fun a b m h1 h2=>by
  rw[Int.natAbs_mul];have:=Nat.mul_le_mul h1 h2;omega
 unfold row;refine yE (P:=fun f:Nat->Int=>(f j).natAbs<=1000000000) (fun i2 h2=>?_) (fun e he=>?_) (fun k hk=>?_) (fun e he=>?_) i hi
 ·exact yE (P:=fun z:Int=>z.natAbs<=1000000000) (fun _ _=>by decide) (fun _ _=>by decide) (fun k hk=>cO (key _ _ _ (h.n k i2) (wN k hk)) (by decide)) (fun e _=>cO (h.t e i2) (by decide)) j hj
 ·refine yE (P:=fun z:Int=>z.natAbs<=1000000000) (fun i2 _=>?_) (fun e2 _=>?_) (fun _ _=>by decide) (fun _ _=>by decide) j hj
  ·have:=h.t e i2;omega
  ·split
   ·have:=h.x e he;omega
   ·decide
 ·refine yE (P:=fun z:Int=>z.natAbs<=1000000000) (fun i2 _=>?_) (fun e2 _=>?_) (fun k2 _=>?_) (fun _ _=>by decide) j hj
  ·have:=h.n k i2;omega
  ·have:=h.m k e2;omega
  ·split<;>decide
 ·refine yE (P:=fun z:Int=>z.natAbs<=1000000000) (fun _ _=>by decide) (fun _ _=>by decide) (fun k hk=>?_) (fun e2 _=>?_) j hj
  ·have h1:=key _ _ _ (h.m k e) (wN k hk)
   show(-(1000000*(U.M k e*U.w k))).natAbs<=1000000000;omega
  ·split
   ·have:=h.x e he;omega
   ·decide
theorem Ok.x0(h:U.Ok L)(he:e<U.E):(U.X e:Rat)≠0:=fun e2=>by
 have h1:=(h.x e he).1;have:(U.X e:Rat)=((0:Int):Rat):=e2;rw[Rat.intCast_inj] at this;omega
theorem Ok.cancel(h:U.Ok L)(he:e<U.E){p s:Rat}(hp:(U.X e:Rat)*p-1000000*s=0):p=U.sus e*s:=by
 have h1:=h.sus_x he;have h2:=h.x0 he;have h3:(U.X e:Rat)*(p-U.sus e*s)=0:=by grind
 rcases Rat.mul_eq_zero.1 h3 with h4 | h4
 ·exact absurd h4 h2
 ·grind
theorem Ok.wcast(h:U.Ok L)(hk:k<L.K)(z:Int)(r:Rat):((z*U.w k:Int):Rat)*r=(z:Rat)*(L.w k*r):=by
 rw[Rat.intCast_mul,(h.w k hk).2.2,Rat.mul_assoc]
theorem Ok.pos(h:U.Ok L):L.Pos:=fun k hk=>by
 rw[(h.w k hk).2.2];exact Rat.intCast_pos.2 (by have:=(h.w k hk).1;omega)
theorem Ok.reg(h:U.Ok L)(gY:∀c:Fn,(∀k,k<L.K->aP L.n (L.R k) c=0)->∀j,j<L.n->c j=0)(c:Fn)(hc:∀i,i<L.n+(U.E+(L.K+U.E))->aN (L.n+(U.E+(L.K+U.E))) (fun j=>((U.row L i j:Int):Rat)*c j)=0):∀j,j<L.n+(U.E+(L.K+U.E))->c j=0:=by
 have hp:∀e,e<U.E->c (L.n+e)=U.pp L c e:=fun e he=>by
  have h1:=hc (L.n+e) (by omega);rw[aLj he] at h1;exact h.cancel he h1
 have hr:∀k,k<L.K->c (L.n+(U.E+k))=-(aP L.n (L.R k) c):=fun k hk=>by
  have h1:=hc (L.n+(U.E+k)) (by omega);rw[aLi hk] at h1;rw[h.rdot hk,aL (f:=fun e=>(U.M k e:Rat)*U.pp L c e) (g:=fun e=>(U.M k e:Rat)*c (L.n+e)) (fun e he=>by rw[hp e he])];grind
 have ht:∀e,e<U.E->c (L.n+(U.E+(L.K+e)))=U.tt L (fun k=>c (L.n+(U.E+k))) e:=fun e he=>by
  have h1:=hc (L.n+(U.E+(L.K+e))) (by omega);rw[aLh he] at h1;rw[h.cancel he h1];unfold tt;rw[aL (fun k hk=>h.wcast hk (U.M k e) (c (L.n+(U.E+k))))]
 have hs:∀i,i<L.n->aN L.K (fun k=>L.w k*c (L.n+(U.E+k))*L.R k i)=0:=fun i hi=>by
  have h1:=hc i (by omega);rw[aLk hi] at h1;rw[h.cdot hi (fun k=>c (L.n+(U.E+k)))];rw[aL (fun k hk=>h.wcast hk (U.N k i) (c (L.n+(U.E+k)))),aL (f:=fun e=>(U.tw e i:Rat)*c (L.n+(U.E+(L.K+e)))) (g:=fun e=>(U.tw e i:Rat)*U.tt L (fun k=>c (L.n+(U.E+k))) e) (fun e he=>by rw[ht e he])] at h1;grind
 have hG:∀i,i<L.n->aP L.n (L.G i) c=0:=fun i hi=>by
  rw[L.gdot];have h1:=hs i hi;rw[aL (f:=fun k=>L.w k*c (L.n+(U.E+k))*L.R k i) (g:=fun k=>(-1)*(L.w k*L.R k i*aP L.n (L.R k) c)) (fun k hk=>by rw[hr k hk];grind),bL] at h1;grind
 have hR:=(h.pos.ker c).1 hG;have ha:=gY c hR;have gN:∀k,k<L.K->c (L.n+(U.E+k))=0:=fun k hk=>by rw[hr k hk,hR k hk];rfl
 intro j hj;by_cases h1:j<L.n
 ·exact ha j h1
 ·by_cases h2:j<L.n+U.E
  ·obtain⟨e,rfl⟩:∃e,j=L.n+e:=⟨j-L.n,by omega⟩
   rw[hp e (by omega)];unfold pp;rw[cX (fun i hi=>by rw[ha i hi,Rat.mul_zero]),Rat.mul_zero]
  ·by_cases h3:j<L.n+U.E+L.K
   ·obtain⟨k,rfl⟩:∃k,j=L.n+(U.E+k):=⟨j-L.n-U.E,by omega⟩
    exact gN k (by omega)
   ·obtain⟨e,rfl⟩:∃e,j=L.n+(U.E+(L.K+e)):=⟨j-L.n-U.E-L.K,by omega⟩
    rw[ht e (by omega)];unfold tt;rw[cX (fun k hk=>by show(U.M k e:Rat)*(L.w k*c (L.n+(U.E+k)))=0;rw[gN k hk,Rat.mul_zero,Rat.mul_zero]),Rat.mul_zero]
theorem Ok.sol(h:U.Ok L)(ha:L.Sol a){V:Rat}{Y:Nat->Int}(hY:∀k,k<L.K->L.y k*V=(Y k:Rat)):∀i,i<L.n+(U.E+(L.K+U.E))->aN (L.n+(U.E+(L.K+U.E))) (fun j=>((U.row L i j:Int):Rat)*(V*U.vec L a (L.res a) j))=((JJ L.n U.E L.K (fun _=>(0:Int)) (fun _=>0) Y (fun _=>0) i:Int):Rat):=by
 intro j hj;by_cases h1:j<L.n
 ·rw[aLk h1,MU h1]
  have e1:aN L.K (fun k=>((U.N k j*U.w k:Int):Rat)*(V*U.vec L a (L.res a) (L.n+(U.E+k))))=V*aN L.K (fun k=>(U.N k j:Rat)*(L.w k*L.res a k)):=by
   rw[<-bL];refine aL fun k hk=>?_;rw[h.wcast hk];unfold vec;rw[JI hk];grind
  have e2:aN U.E (fun e=>(U.tw e j:Rat)*(V*U.vec L a (L.res a) (L.n+(U.E+(L.K+e)))))=V*aN U.E (fun e=>(U.tw e j:Rat)*U.tt L (L.res a) e):=by
   rw[<-bL];refine aL fun e he=>?_;unfold vec;rw[SE];grind
  have h3:=ha.normal j h1;rw[h.cdot h1] at h3;rw[e1,e2];have e0:(((0:Int)):Rat)=0:=rfl;rw[e0];grind
 ·by_cases h2:j<L.n+U.E
  ·obtain⟨e,rfl⟩:∃e,j=L.n+e:=⟨j-L.n,by omega⟩
   have he:e<U.E:=by omega
   rw[aLj he,SF he];have e1:aN L.n (fun i=>(U.tw e i:Rat)*(V*U.vec L a (L.res a) i))=V*aN L.n (fun i=>(U.tw e i:Rat)*a i):=by
    rw[<-bL];refine aL fun i hi=>?_;unfold vec;rw[MU hi];grind
   have h4:=h.sus_x he;unfold vec at e1 ⊢;rw[e1,SF he];unfold pp;have e0:(((0:Int)):Rat)=0:=rfl;rw[e0];grind
  ·by_cases h3:j<L.n+U.E+L.K
   ·obtain⟨k,rfl⟩:∃k,j=L.n+(U.E+k):=⟨j-L.n-U.E,by omega⟩
    have hk:k<L.K:=by omega
    rw[aLi hk,JI hk,<-hY k hk];have e1:aN L.n (fun i=>(U.N k i:Rat)*(V*U.vec L a (L.res a) i))=V*aN L.n (fun i=>(U.N k i:Rat)*a i):=by
     rw[<-bL];refine aL fun i hi=>?_;unfold vec;rw[MU hi];grind
    have e2:aN U.E (fun e=>(U.M k e:Rat)*(V*U.vec L a (L.res a) (L.n+e)))=V*aN U.E (fun e=>(U.M k e:Rat)*U.pp L a e):=by
     rw[<-bL];refine aL fun e he=>?_;unfold vec;rw[SF he];grind
    have h5:=h.rdot hk a;rw[e1,e2];unfold vec;rw[JI hk];unfold Ls.res;grind
   ·obtain⟨e,rfl⟩:∃e,j=L.n+(U.E+(L.K+e)):=⟨j-L.n-U.E-L.K,by omega⟩
    have he:e<U.E:=by omega
    rw[aLh he,SE];have e1:aN L.K (fun k=>((U.M k e*U.w k:Int):Rat)*(V*U.vec L a (L.res a) (L.n+(U.E+k))))=V*aN L.K (fun k=>(U.M k e:Rat)*(L.w k*L.res a k)):=by
     rw[<-bL];refine aL fun k hk=>?_;rw[h.wcast hk];unfold vec;rw[JI hk];grind
    have h4:=h.sus_x he;rw[e1];unfold vec;rw[SE];unfold tt;have e0:(((0:Int)):Rat)=0:=rfl;rw[e0];grind
theorem Ok.short(h:U.Ok L)(hn:L.n<=8)(hE:U.E<=10)(hK:L.K<=8)(gY:∀c:Fn,(∀k,k<L.K->aP L.n (L.R k) c=0)->∀j,j<L.n->c j=0)(ha:L.Sol a){V:Rat}(hB:1<=B){Y:Nat->Int}(hY:∀k,k<L.K->L.y k*V=(Y k:Rat))(hYB:∀k,k<L.K->(Y k).natAbs<=B):∃t:Int,t≠0/\t.natAbs<=jG 396/\(∀i,i<L.n->∃z:Int,z.natAbs<=B*jG 396/\V*a i*(t:Rat)=(z:Rat))/\∀k,k<L.K->∃z:Int,z.natAbs<=B*jG 396/\V*L.res a k*(t:Rat)=(z:Rat):=by
 have hN:L.n+(U.E+(L.K+U.E))<=36:=by omega
 have hQp:∀N,N<=36->(10:Nat)^(11*N)<=jG 396:=fun N h=>aWW (a:=11*N) (b:=396) (by omega);generalize jG 396=Q at hQp ⊢;obtain⟨t,h0,h1,h2⟩:=aBs (n:=L.n+(U.E+(L.K+U.E))) (BA:=1000000000) (Bb:=B) (H1:=B*Q) (H2:=Q) (A:=U.row L) (b:=JJ L.n U.E L.K (fun _=>(0:Int)) (fun _=>0) Y (fun _=>0)) (x:=U.vec L a (L.res a)) (V:=V) (fun i j hi hj=>h.bnd hi hj) (yE (P:=fun z:Int=>z.natAbs<=B) (fun _ _=>Nat.zero_le _) (fun _ _=>Nat.zero_le _) hYB (fun _ _=>Nat.zero_le _)) (h.reg gY) (h.sol ha hY) (by
  generalize L.n+(U.E+(L.K+U.E))=N at hN;have e1:2*(N*(1000000000*(B*Q))+B*Q)+1<=10^11*(B*Q+1):=by
   generalize B*Q=H;have:=Nat.mul_le_mul_right (1000000000*H) hN;omega
  have e2:=Nat.pow_le_pow_left e1 N;rw[Nat.mul_pow,<-Nat.pow_mul] at e2;have e3:=hQp N hN;have e4:0<(B*Q+1)^N:=Nat.pow_pos (Nat.succ_pos _);have e5:=Nat.mul_le_mul_right ((B*Q+1)^N) e3;rw[Nat.mul_succ,Nat.mul_comm ((B*Q+1)^N) Q];omega)
 refine⟨t,h0,h1,fun i hi=>?_,fun k hk=>?_⟩
 ·obtain⟨z,h3,h4⟩:=h2 i (by omega)
  unfold vec at h4;rw[MU hi] at h4;exact⟨z,h3,h4⟩
 ·obtain⟨z,h3,h4⟩:=h2 (L.n+(U.E+k)) (by omega)
  unfold vec at h4;rw[JI hk] at h4;exact⟨z,h3,h4⟩
end Aug
end
section
open Go.ChangeShapes Go.WideShapes Go.ChangeAt Go.RowKit
attribute [local go_sem ↓] aE
attribute [local go_sem] aJ aI aM
def MD(a b:List Int):Bool:=decide (a=b)
theorem BL(A:OA)(n c:Nat)(a:List Int)(B:OA)(m d:Nat)(b:List Int)(w:Wo)(ha:o_ w w.heap.size A n a)(hb:o_ w w.heap.size B m b)(hn:n<=9223372036854775807):Calls Tryz.prog 46 #[.slice A n c,.slice B m d] w fun e w'=>e=.returned (.bool (MD a b))/\∃nq,w'=w.drewN nq:=by
 have hla:=lH ha.len;have hlb:=lH hb.len;by_cases H_:n=m
 ·subst H_
  go_enter Tryz.func46,Tryz.ntmps46
  go_wp2_with fail
  go_loopw [5,13] (fun _ i wr=>∃k nq:Nat,k<=n/\i=.int .i64 k/\wr=w.drewN nq/\a.take k=b.take k) (fun _ i _=>n-(intOf i).toNat)
  case atStart=>exact⟨0,0,by omega,rfl,rfl,by simp⟩
  case round=>
   obtain⟨k,nq,hk,rfl,rfl,FT⟩:=hrel;have HEQ:=lH FT;clear FT;by_cases aU:k<n
   ·obtain⟨x,hx⟩:∃x,a[k]?=some x:=eA (by have:=hla.out;omega)
    obtain⟨y,hy⟩:∃y,b[k]?=some y:=eA (by have:=hlb.out;omega);obtain⟨ba,oa,rfl,aAq,_⟩:=ha.2 (by omega);obtain⟨bb,ob,rfl,aAn,_⟩:=hb.2 (by omega);have XU:=ha.at_ hx;have hcb:=hb.at_ hy;have aXW:(k:Int)<(n:Int):=by omega
    have fY:=lZ k;have HX:=lH hx;have HY:=lH hy;clear hx hy;cases hp:(x != y) with
    | true=>
     have HP:=lH hp;(go_wp2_with fail)
     go_quiet (fail)
     (go_wp2_with fail);go_ret;refine⟨kI ?_,_,World.drewN_drewN _ _ _⟩;unfold MD;have bX:a≠b:=by
      intro he;subst he;have h1:=HX.o;rw[HY.o] at h1;injection h1 with h1;have h2:=HP.o;simp[h1] at h2
     simp[bX]
    | false=>
     have HP:=lH hp;(go_wp2_with fail)
     go_quiet (fail)
     (go_wp2_with fail);go_roundw
     case rel=>
      refine⟨k+1,_,by omega,by go_num,rfl,?_⟩;have h2:=HP.o;simp at h2;rw[List.take_add_one,List.take_add_one,HEQ.o,HX.o,HY.o,h2]
     case measure=>simp[intOf];omega
   ·have rJ:k=n:=by omega
    have HKN:=lH rJ;clear rJ;(go_wp2_with fail);go_ret;refine⟨kI ?_,_,rfl⟩;have h1:=HEQ.o;rw[nL (by have:=hla.out;omega),nL (by have:=hlb.out;omega)] at h1;simp[MD,h1]
 ·have bX:¬(n:Int)=(m:Int):=by omega
  go_enter Tryz.func46,Tryz.ntmps46
  (go_wp2_with fail);go_ret;refine⟨kI ?_,0,rfl⟩;have:a≠b:=by intro he;subst he;have:=hla.out;have:=hlb.out;omega
  simp[MD,this]
end
section
open Go.ChangeShapes Go.WideShapes Go.ChangeAt Go.RowKit Go.Joins
theorem aVP:laidOutB Tryz.prog=true:=by kernel_rfl
theorem aVO:mapsRowed Tryz.prog=true:=by kernel_rfl
theorem aRy:(Tryz.prog.stops == [])=true:=by kernel_rfl
theorem aRA:(Tryz.prog.stopKnobs == [])=true:=by kernel_rfl
theorem aVQ:(Rows.topEstimatedRow.plainKeys == Tryz.prog.plainKeys)=true:=by kernel_rfl
theorem aRB:Tryz.prog.stopsHeard=true:=by kernel_rfl
theorem aRC:Tryz.prog.mayEnter=true:=by kernel_rfl
theorem aRz:(Rows.topEstimatedRow.lifted == Tryz.prog.liftsFinal)=true:=by kernel_rfl
end
