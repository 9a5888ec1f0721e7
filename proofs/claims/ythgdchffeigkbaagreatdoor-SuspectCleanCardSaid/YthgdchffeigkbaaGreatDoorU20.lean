import Derived.Test.YthgdchffeigkbaaGreatDoorU10
set_option linter.unusedVariables false
set_option linter.unusedSimpArgs false
namespace Go.Proofs.YthgdchffeigkbaaGreatDoor
set_option maxHeartbeats 8000000
set_option maxRecDepth 100000
section
open Go.ChangeShapes Go.WideShapes Go.ChangeAt Go.RowKit Go.Joins Go.Deep Go.Maps
attribute [local go_sem ↓] execOp_call_val
attribute [local go_sem] callVal_func setCell_drewN alloc_drewN sEq_walk
theorem grown_refl (w:World) (row:Option Nat):w.grownBy w row:=⟨rfl,rfl,rfl,lR,fun _ _ _=>rfl⟩
theorem Ck.start {w:World} {b:Nat} {h:NetH} {x:Net} (hS:SeenM w b 0 []) (r:RdNet w w.heap.size h x):Ck w w b h.A0 h.n0 x.nodes h x []:=⟨grown_refl _ _,hS,r.r0,r⟩
theorem check_large (h:NetH) (x:Net) (w:World) (r:RdNet w w.heap.size h x) (hl:netLarge x) :
    Calls Tryz.prog 58 #[.agg h.cells] w fun e w'=>e=.returned (.int .i64 (netCk x))∧Below w.heap.size w w':=by
 have HR:=lH (show netCk x=2 by unfold netCk;rw [if_pos hl]);have K0:Below w.heap.size w (w.alloc (.cells h.cells 29)):=bA;have HK:=lH K0;have l0:=r.r0.1;have l1:=r.r1.1;have l2:=r.r2.1;have l3:=r.r3.1;have l4:=r.r4.1;have l5:=r.r5.1;have i0:=r.m0;have i1:=r.m1;have i2:=r.m2;have i3:=r.m3;have i4:=r.m4;have i5:=r.m5;unfold netLarge at hl;rw [l0,l1,l2,l3,l4,l5] at hl;clear K0 l0 l1 l2 l3 l4 l5 r;obtain ⟨A0,m0,c0,A1,m1,c1,A2,m2,c2,A3,m3,c3,A4,m4,c4,A5,m5,c5⟩:=h;dsimp only [NetH.cells] at *
 by_cases h0:24<m0
 ·clear hl
  go_enter Tryz.func58,Tryz.ntmps58
  go_wp2_with fail
  go_ret;exact ⟨ret_int HR.o.symm,HK.o⟩
 ·skip
  by_cases h1:32<m1
  ·clear hl
   go_enter Tryz.func58,Tryz.ntmps58
   go_wp2_with fail
   go_ret;exact ⟨ret_int HR.o.symm,HK.o⟩
  ·skip
   by_cases h2:24<m2
   ·clear hl
    go_enter Tryz.func58,Tryz.ntmps58
    go_wp2_with fail
    go_ret;exact ⟨ret_int HR.o.symm,HK.o⟩
   ·skip
    by_cases h3:10<m3
    ·clear hl
     go_enter Tryz.func58,Tryz.ntmps58
     go_wp2_with fail
     go_ret;exact ⟨ret_int HR.o.symm,HK.o⟩
    ·skip
     by_cases h4:12<m4
     ·clear hl
      go_enter Tryz.func58,Tryz.ntmps58
      go_wp2_with fail
      go_ret;exact ⟨ret_int HR.o.symm,HK.o⟩
     ·skip
      have h5:4<m5:=by omega
      clear hl;go_enter Tryz.func58,Tryz.ntmps58
      go_wp2_with fail
      go_ret;exact ⟨ret_int HR.o.symm,HK.o⟩
theorem check_small (h:NetH) (x:Net) (w:World) (r:RdNet w w.heap.size h x) (hl:¬netLarge x) :
    Calls Tryz.prog 58 #[.agg h.cells] w fun e w'=>e=.returned (.int .i64 (netCk x))∧Below w.heap.size w w':=by
 have HW0:Hid (netCk x=ck0 x):=lH (by unfold netCk;rw [if_neg hl]);have l0:=r.r0.1;have l1:=r.r1.1;have l2:=r.r2.1;have l3:=r.r3.1;have l4:=r.r4.1;have l5:=r.r5.1;unfold netLarge at hl;rw [l0,l1,l2,l3,l4,l5] at hl;obtain ⟨A0,m0,c0,A1,m1,c1,A2,m2,c2,A3,m3,c3,A4,m4,c4,A5,m5,c5⟩:=h;dsimp only [NetH.cells] at *;have hm0':m0≤24:=by omega
 have hm1:m1≤32:=by omega
 have hm2:m2≤24:=by omega
 have hm3:m3≤10:=by omega
 have hm4:m4≤12:=by omega
 have hm5:m5≤4:=by omega
 have hm0:m0≤9223372036854775807:=by omega
 clear hl l0 l1 l2 l3 l4 l5;generalize hnd:x.nodes=nodes;have HND:=lH hnd;have K1:Below w.heap.size w (((w.alloc (.cells #[.slice A0 m0 c0,.slice A1 m1 c1,.slice A2 m2 c2,.slice A3 m3 c3,.slice A4 m4 c4,.slice A5 m5 c5] 29)).alloc (.map #[] 0)).alloc (.cells #[.map (some (w.heap.size+1)),.slice A0 m0 c0] 161)):=((bA).alloc (by simp) _).alloc (by simp;omega) _;have hb2:Below (w.heap.size+1+1) ((w.alloc (.cells #[.slice A0 m0 c0,.slice A1 m1 c1,.slice A2 m2 c2,.slice A3 m3 c3,.slice A4 m4 c4,.slice A5 m5 c5] 29)).alloc (.map #[] 0)) (((w.alloc (.cells #[.slice A0 m0 c0,.slice A1 m1 c1,.slice A2 m2 c2,.slice A3 m3 c3,.slice A4 m4 c4,.slice A5 m5 c5] 29)).alloc (.map #[] 0)).alloc (.cells #[.map (some (w.heap.size+1)),.slice A0 m0 c0] 161)):=bR.alloc (by simp) _
 have hS0:SeenM (((w.alloc (.cells #[.slice A0 m0 c0,.slice A1 m1 c1,.slice A2 m2 c2,.slice A3 m3 c3,.slice A4 m4 c4,.slice A5 m5 c5] 29)).alloc (.map #[] 0)).alloc (.cells #[.map (some (w.heap.size+1)),.slice A0 m0 c0] 161)) (w.heap.size+1) 0 []:=by
  have h0:=SeenM.made (w.alloc (.cells #[.slice A0 m0 c0,.slice A1 m1 c1,.slice A2 m2 c2,.slice A3 m3 c3,.slice A4 m4 c4,.slice A5 m5 c5] 29));have h1:=h0.below (bR.alloc lR (.cells #[.map (some (w.heap.size+1)),.slice A0 m0 c0] 161));simpa using h1
 have HC:=lH (Ck.start hS0 (r.up K1));have HQ2:Hid (Blk (((w.alloc (.cells #[.slice A0 m0 c0,.slice A1 m1 c1,.slice A2 m2 c2,.slice A3 m3 c3,.slice A4 m4 c4,.slice A5 m5 c5] 29)).alloc (.map #[] 0)).alloc (.cells #[.map (some (w.heap.size+1)),.slice A0 m0 c0] 161)) w.heap.size 29 #[.slice A0 m0 c0,.slice A1 m1 c1,.slice A2 m2 c2,.slice A3 m3 c3,.slice A4 m4 c4,.slice A5 m5 c5]):=lH (((Blk.new w _ _).alloc _).alloc _);have HQ1:Hid (Blk (((w.alloc (.cells #[.slice A0 m0 c0,.slice A1 m1 c1,.slice A2 m2 c2,.slice A3 m3 c3,.slice A4 m4 c4,.slice A5 m5 c5] 29)).alloc (.map #[] 0)).alloc (.cells #[.map (some (w.heap.size+1)),.slice A0 m0 c0] 161)) (w.heap.size+1+1) 161 #[.map (some (w.heap.size+1)),.slice A0 m0 c0]):=lH (Blk.new_ (by simp));have HNET:=lH HC.o.net
 have HBELOW:Hid (∀ {w':World},(((w.alloc (.cells #[.slice A0 m0 c0,.slice A1 m1 c1,.slice A2 m2 c2,.slice A3 m3 c3,.slice A4 m4 c4,.slice A5 m5 c5] 29)).alloc (.map #[] 0)).alloc (.cells #[.map (some (w.heap.size+1)),.slice A0 m0 c0] 161)).grownBy w' (some (w.heap.size+1))→Below w.heap.size w w'):=
  lH fun hg=>below_only K1 hg (by omega) lR
 obtain ⟨y0,y1,y2,y3,y4,y5,nf,nlt⟩:=net_box (h:=⟨A0,m0,c0,A1,m1,c1,A2,m2,c2,A3,m3,c3,A4,m4,c4,A5,m5,c5⟩) HQ2.o;rw [hnd] at HC;clear r hnd K1 hb2 hS0;have hmake:=@run_makeMap Tryz.prog;go_enter Tryz.func58,Tryz.ntmps58
 go_wp2_with fail
 clear hmake;generalize hWW:(((w.alloc (.cells #[.slice A0 m0 c0,.slice A1 m1 c1,.slice A2 m2 c2,.slice A3 m3 c3,.slice A4 m4 c4,.slice A5 m5 c5] 29)).alloc (.map #[] 0)).alloc (.cells #[.map (some (w.heap.size+1)),.slice A0 m0 c0] 161))=W0 at *;clear hWW;have hlen0:Hid (x.nodes.length=m0):=lH HNET.o.r0.1
 go_loopw [55] (fun i wr=>∃ (k:Nat) (seen0:List ByteArray),k≤m0∧i=.int .i64 k∧Ck W0 wr (w.heap.size+1) A0 m0 nodes ⟨A0,m0,c0,A1,m1,c1,A2,m2,c2,A3,m3,c3,A4,m4,c4,A5,m5,c5⟩ x seen0∧Blk wr (w.heap.size+1+1) 161 #[.map (some (w.heap.size+1)),.slice A0 m0 c0]∧Blk wr w.heap.size 29 #[.slice A0 m0 c0,.slice A1 m1 c1,.slice A2 m2 c2,.slice A3 m3 c3,.slice A4 m4 c4,.slice A5 m5 c5]∧seen0.length≤k∧ckList (fNode nodes) id [] x.nodes=ckList (fNode nodes) id seen0 (x.nodes.drop k)) (fun i _=>m0-(intOf i).toNat)
 case atStart=>exact ⟨0,[],by omega,rfl,HC.o,HQ1.o,HQ2.o,by simp,rfl⟩
 case round=>
  clear HC HQ1 HQ2 HNET;obtain ⟨k,seen0,hk,rfl,hC,hq1,hq2,hcnt,hgo⟩:=hrel;have HC:=lH hC;have HQ1:=lH hq1;have HQ2:=lH hq2;have HGO:=lH hgo;obtain ⟨g0,g1,gf,glt⟩:=check_box hq1;obtain ⟨y0,y1,y2,y3,y4,y5,nf,nlt⟩:=net_box (h:=⟨A0,m0,c0,A1,m1,c1,A2,m2,c2,A3,m3,c3,A4,m4,c4,A5,m5,c5⟩) hq2;have hbw:=hC.sn.lt;have HNET:=lH hC.net;clear hC hq1 hq2 hgo
  by_cases hlt:k<m0
  ·obtain ⟨z,hz⟩:∃ z,x.nodes[k]?=some z:=zX_ (by have:=hlen0.out;omega)
   obtain ⟨bz,oz,hA,hbz⟩:=HC.o.net.r0.form (by dsimp only;omega);dsimp only at hA;subst hA;have e0:=HC.o.net.r0.at_ hz;have hzn:=HC.o.net.z0 z (zC_ hz);have HZ:=lH (drop_cons hz);clear hz
   go_wp2_with fail
   refine (device_any (w.heap.size+1) _ _ m0 c0 nodes seen0 z _ 0 0 [] _ HC.o.rn hm0 HC.o.sn (by omega) hzn (rdStr_nil _ _ _) (by omega)).mono ?_;generalize hR:devR nodes seen0 z []=r;rintro e w2 ⟨rfl,hg2,hS2⟩;have hq1:=Blk.grown HQ1.o hg2 (fun e=>by injection e;omega);have hq2:=Blk.grown HQ2.o hg2 (fun e=>by injection e;omega);have HG2:=lH (only_trans HC.o.gr hg2);have HS2:=lH hS2;have Hg2:=lH hg2;have HQ1':=lH hq1;have HQ2':=lH hq2;have HRR:=lH hR;clear hg2 hS2 hq1 hq2 hR e0
   by_cases hr0:r=0
   ·subst hr0
    have HC3:=lH (HC.o.put Hg2.o (HS2.o rfl));have hf:fNode nodes seen0 z=0:=HRR.o;have HF:=lH hf;clear hf
    go_wp2_with fail
    go_roundw
    case rel=>exact ⟨k+1,z::seen0,by omega,by go_num,HC3.o,HQ1'.o,HQ2'.o,by simp;omega,by rw [HGO.o];exact ckList_ok HZ.o HF.o⟩
    case measure=>simp [intOf];omega
   ·have hrb:(r != 0)=true:=by simpa using hr0
    have hr:(ckList (fNode nodes) id [] x.nodes).1=r:=by rw [HGO.o];exact ckList_bad HZ.o HRR.o hr0
    have HR4:=lH hr;have HR0:=lH hr0;clear hr hr0
    go_wp2_with fail
    go_ret;exact ⟨ret_int (by rw [HW0.o];unfold ck0;rw [(show fNode x.nodes=fNode nodes by rw [HND.o]),if_pos (by rw [HR4.o];exact HR0.o),HR4.o]),HBELOW.o HG2.o⟩
  ·have hd:x.nodes.drop k=[]:=by rw [List.drop_eq_nil_iff];have:=hlen0.out;omega
   have hr:ckList (fNode nodes) id [] x.nodes=(0,seen0):=by rw [HGO.o,hd];rfl
   have HL0:=lH hr;have hcnt0:seen0.length≤m0:=by omega
   clear hd hr hcnt;have HW1:Hid (netCk x=ck1 x seen0):=lH (by rw [HW0.o];unfold ck0;rw [show fNode x.nodes=fNode nodes by rw [HND.o],HL0.o];rfl)
   go_wp2_with fail
   have hlen1:Hid (x.sws.length=m1):=lH HNET.o.r1.1
   go_loopw [69] (fun i wr=>∃ (k:Nat) (seen1:List ByteArray),k≤m1∧i=.int .i64 k∧Ck W0 wr (w.heap.size+1) A0 m0 nodes ⟨A0,m0,c0,A1,m1,c1,A2,m2,c2,A3,m3,c3,A4,m4,c4,A5,m5,c5⟩ x seen1∧Blk wr (w.heap.size+1+1) 161 #[.map (some (w.heap.size+1)),(.slice A0 m0 c0)]∧Blk wr w.heap.size 29 #[.slice A0 m0 c0,.slice A1 m1 c1,.slice A2 m2 c2,.slice A3 m3 c3,.slice A4 m4 c4,.slice A5 m5 c5]∧seen1.length≤seen0.length+k∧ckList (fSw nodes) Sw.name seen0 x.sws=ckList (fSw nodes) Sw.name seen1 (x.sws.drop k)) (fun i _=>m1-(intOf i).toNat)
   case atStart=>exact ⟨0,seen0,by omega,rfl,HC.o,HQ1.o,HQ2.o,by omega,rfl⟩
   case round=>
    clear HC HQ1 HQ2 HNET;obtain ⟨k,seen1,hk,rfl,hC,hq1,hq2,hcnt,hgo⟩:=hrel;have HC:=lH hC;have HQ1:=lH hq1;have HQ2:=lH hq2;have HGO:=lH hgo;obtain ⟨g0,g1,gf,glt⟩:=check_box hq1;obtain ⟨y0,y1,y2,y3,y4,y5,nf,nlt⟩:=net_box (h:=⟨A0,m0,c0,A1,m1,c1,A2,m2,c2,A3,m3,c3,A4,m4,c4,A5,m5,c5⟩) hq2;have hbw:=hC.sn.lt;have HNET:=lH hC.net;clear hC hq1 hq2 hgo
    by_cases hlt:k<m1
    ·obtain ⟨z,hz⟩:∃ z,x.sws[k]?=some z:=zX_ (by have:=hlen1.out;omega)
     obtain ⟨bz,oz,hA,hbz⟩:=HC.o.net.r1.form (by dsimp only;omega);dsimp only at hA;subst hA;obtain ⟨e0,e1,e2,e3,e4⟩:=HC.o.net.r1.at_ hz;have hzn:=HC.o.net.z1 z (zC_ hz);have HZ:=lH (drop_cons hz);clear hz
     go_wp2_with fail
     have hB:=below2 wr (.cells #[.string z.name,.string z.a,.string z.b,.bool z.breaker,.bool z.opn] 148) (.cells #[.string z.a,.string z.b] 9);have hE:RdStr ((wr.alloc (.cells #[.string z.name,.string z.a,.string z.b,.bool z.breaker,.bool z.opn] 148)).alloc (.cells #[.string z.a,.string z.b] 9)) ((wr.alloc (.cells #[.string z.name,.string z.a,.string z.b,.bool z.breaker,.bool z.opn] 148)).alloc (.cells #[.string z.a,.string z.b] 9)).heap.size (some ⟨wr.heap.size+1,0,none⟩) 2 [z.a,z.b]:=rdStr_lit (zs:=[z.a,z.b]) (Blk.new_ (by simp)) (by simp);have hC2:=HC.o.below hB;refine (device_any (w.heap.size+1) _ _ m0 c0 nodes seen1 z.name _ 2 2 [z.a,z.b] _ hC2.rn hm0 hC2.sn (by omega) hzn hE (by omega)).mono ?_;generalize hR:devR nodes seen1 z.name [z.a,z.b]=r;rintro e w2 ⟨rfl,hg2,hS2⟩
     have hq3:Blk w2 wr.heap.size 148 #[.string z.name,.string z.a,.string z.b,.bool z.breaker,.bool z.opn]:=Blk.grown ((Blk.new wr _ _).alloc _) hg2 (fun e=>by injection e;omega);have hq1:Blk w2 (w.heap.size+1+1) 161 #[.map (some (w.heap.size+1)),(.slice A0 m0 c0)]:=Blk.grown (HQ1.o.bl hB) hg2 (fun e=>by injection e;omega);have hq2:=Blk.grown (HQ2.o.bl hB) hg2 (fun e=>by injection e;omega);have HG2:=lH (only_trans hC2.gr hg2);have HS2:=lH hS2;have HC2:=lH hC2;have Hg2:=lH hg2;obtain ⟨f0,f1,f2,f3,f4,ff,flt⟩:=Sw.box hq3;have HQ1':=lH hq1;have HQ2':=lH hq2;have HRR:=lH hR;clear hB hE hC2 hg2 hS2 hq3 hq1 hq2 hR e0 e1 e2 e3 e4
     by_cases hr0:r=0
     ·subst hr0
      have HC3:=lH (HC2.o.put Hg2.o (HS2.o rfl));have hf:fSw nodes seen1 z=0:=by unfold fSw Sw.bad;rw [HRR.o];simp []
      have HF:=lH hf;clear hf
      go_wp2_with (first | (go_at_call 130;refine (npermitted_any _ _).mono ?_;rintro e w' ⟨rfl,rfl⟩) | (go_at_call 129;refine (nout_any _ _ _ _).mono ?_;rintro e w' ⟨rfl,rfl⟩))
      go_roundw
      case rel=>exact ⟨k+1,z.name::seen1,by omega,by go_num,HC3.o,HQ1'.o,HQ2'.o,by simp;omega,by rw [HGO.o];exact ckList_ok HZ.o HF.o⟩
      case measure=>simp [intOf];omega
     ·have hrb:(r != 0)=true:=by simpa using hr0
      have hf:fSw nodes seen1 z=r:=by unfold fSw;rw [HRR.o,if_pos hr0]
      have hr:(ckList (fSw nodes) Sw.name seen0 x.sws).1=r:=by rw [HGO.o];exact ckList_bad HZ.o hf hr0
      have HR4:=lH hr;have HR0:=lH hr0;clear hf hr hr0
      go_wp2_with fail
      go_ret;exact ⟨ret_int (by rw [HW1.o];unfold ck1;rw [HND.o,if_pos (by rw [HR4.o];exact HR0.o),HR4.o]),HBELOW.o HG2.o⟩
    ·have hd:x.sws.drop k=[]:=by rw [List.drop_eq_nil_iff];have:=hlen1.out;omega
     have hr:ckList (fSw nodes) Sw.name seen0 x.sws=(0,seen1):=by rw [HGO.o,hd];rfl
     have HL1:=lH hr;have hcnt1:seen1.length≤seen0.length+m1:=by omega
     clear hd hr hcnt;have hlenx:=HNET;have HW2:Hid (netCk x=ck2 x seen1):=lH (by rw [HW1.o];unfold ck1;rw [HND.o,HL1.o];rfl)
     go_wp2_with fail
     have hlen2:Hid (x.brs.length=m2):=lH HNET.o.r2.1
     go_loopw [89] (fun i wr=>∃ (k:Nat) (seen2:List ByteArray),k≤m2∧i=.int .i64 k∧Ck W0 wr (w.heap.size+1) A0 m0 nodes ⟨A0,m0,c0,A1,m1,c1,A2,m2,c2,A3,m3,c3,A4,m4,c4,A5,m5,c5⟩ x seen2∧Blk wr (w.heap.size+1+1) 161 #[.map (some (w.heap.size+1)),(.slice A0 m0 c0)]∧Blk wr w.heap.size 29 #[.slice A0 m0 c0,.slice A1 m1 c1,.slice A2 m2 c2,.slice A3 m3 c3,.slice A4 m4 c4,.slice A5 m5 c5]∧seen2.length≤seen1.length+k∧ckList (fBr nodes) Br.name seen1 x.brs=ckList (fBr nodes) Br.name seen2 (x.brs.drop k)) (fun i _=>m2-(intOf i).toNat)
     case atStart=>exact ⟨0,seen1,by omega,rfl,HC.o,HQ1.o,HQ2.o,by omega,rfl⟩
     case round=>
      clear HC HQ1 HQ2 HNET;obtain ⟨k,seen2,hk,rfl,hC,hq1,hq2,hcnt,hgo⟩:=hrel;have HC:=lH hC;have HQ1:=lH hq1;have HQ2:=lH hq2;have HGO:=lH hgo;obtain ⟨g0,g1,gf,glt⟩:=check_box hq1;obtain ⟨y0,y1,y2,y3,y4,y5,nf,nlt⟩:=net_box (h:=⟨A0,m0,c0,A1,m1,c1,A2,m2,c2,A3,m3,c3,A4,m4,c4,A5,m5,c5⟩) hq2;have hbw:=hC.sn.lt;have HNET:=lH hC.net;clear hC hq1 hq2 hgo
      by_cases hlt:k<m2
      ·obtain ⟨z,hz⟩:∃ z,x.brs[k]?=some z:=zX_ (by have:=hlen2.out;omega)
       obtain ⟨bz,oz,hA,hbz⟩:=HC.o.net.r2.form (by dsimp only;omega);dsimp only at hA;subst hA;obtain ⟨e0,e1,e2,e3,e4,e5,e6,e7,e8⟩:=HC.o.net.r2.at_ hz;have hzn:=HC.o.net.z2 z (zC_ hz);have HZ:=lH (drop_cons hz);clear hz
       go_wp2_with fail
       have hB:=below2 wr (.cells #[.string z.name,.string z.fr,.string z.to,.int .i64 z.x,.int .i64 z.tap,.int .i64 z.shift,.int .i64 z.limit,.int .i64 z.short,.int .i64 z.hold] 54) (.cells #[.string z.fr,.string z.to] 9);have hE:RdStr ((wr.alloc (.cells #[.string z.name,.string z.fr,.string z.to,.int .i64 z.x,.int .i64 z.tap,.int .i64 z.shift,.int .i64 z.limit,.int .i64 z.short,.int .i64 z.hold] 54)).alloc (.cells #[.string z.fr,.string z.to] 9)) ((wr.alloc (.cells #[.string z.name,.string z.fr,.string z.to,.int .i64 z.x,.int .i64 z.tap,.int .i64 z.shift,.int .i64 z.limit,.int .i64 z.short,.int .i64 z.hold] 54)).alloc (.cells #[.string z.fr,.string z.to] 9)).heap.size (some ⟨wr.heap.size+1,0,none⟩) 2 [z.fr,z.to]:=rdStr_lit (zs:=[z.fr,z.to]) (Blk.new_ (by simp)) (by simp);have hC2:=HC.o.below hB
       refine (device_any (w.heap.size+1) _ _ m0 c0 nodes seen2 z.name _ 2 2 [z.fr,z.to] _ hC2.rn hm0 hC2.sn (by omega) hzn hE (by omega)).mono ?_;generalize hR:devR nodes seen2 z.name [z.fr,z.to]=r;rintro e w2 ⟨rfl,hg2,hS2⟩;have hq3:Blk w2 wr.heap.size 54 #[.string z.name,.string z.fr,.string z.to,.int .i64 z.x,.int .i64 z.tap,.int .i64 z.shift,.int .i64 z.limit,.int .i64 z.short,.int .i64 z.hold]:=Blk.grown ((Blk.new wr _ _).alloc _) hg2 (fun e=>by injection e;omega);have hq1:Blk w2 (w.heap.size+1+1) 161 #[.map (some (w.heap.size+1)),(.slice A0 m0 c0)]:=Blk.grown (HQ1.o.bl hB) hg2 (fun e=>by injection e;omega);have hq2:=Blk.grown (HQ2.o.bl hB) hg2 (fun e=>by injection e;omega);have HG2:=lH (only_trans hC2.gr hg2);have HS2:=lH hS2;have HC2:=lH hC2;have Hg2:=lH hg2;obtain ⟨f0,f1,f2,f3,f4,f5,f6,f7,f8,ff,flt⟩:=Br.box hq3;have HQ1':=lH hq1;have HQ2':=lH hq2
       have HRR:=lH hR;clear hB hE hC2 hg2 hS2 hq3 hq1 hq2 hR e0 e1 e2 e3 e4 e5 e6 e7 e8
       by_cases hr0:r=0
       ·subst hr0
        have HC3:=lH (HC2.o.put Hg2.o (HS2.o rfl))
        go_wp2_with fail
        refine (nbranch_any z _).mono ?_;rintro e w3 ⟨rfl,k3⟩;have HC4:=lH (HC3.o.below k3);have HQ1'':=lH (HQ1'.o.bl k3);have HQ2'':=lH (HQ2'.o.bl k3);have HG3:=lH (only_trans HG2.o (only_of_below k3 _));clear k3;cases hbad:z.bad with
        | true=>
         have hck:z.ck=4:=by unfold Br.ck;rw [hbad];rfl
         have hf:fBr nodes seen2 z=4:=by unfold fBr;rw [HRR.o,hck];rfl
         have hr:(ckList (fBr nodes) Br.name seen1 x.brs).1=4:=by rw [HGO.o];exact ckList_bad HZ.o hf (by omega)
         have HR4:=lH hr;clear hf hr hbad
         go_wp2_with fail
         go_ret;exact ⟨ret_int (by rw [HW2.o];unfold ck2;rw [HND.o,if_pos (by rw [HR4.o];omega),HR4.o]),HBELOW.o HG3.o⟩
        | false=>
         have hck:z.ck=0:=by unfold Br.ck;rw [hbad];rfl
         have hf:fBr nodes seen2 z=0:=by unfold fBr;rw [HRR.o,hck];rfl
         have HF:=lH hf;clear hf hbad
         go_wp2_with fail
         go_roundw
         case rel=>exact ⟨k+1,z.name::seen2,by omega,by go_num,HC4.o,HQ1''.o,HQ2''.o,by simp;omega,by rw [HGO.o];exact ckList_ok HZ.o HF.o⟩
         case measure=>simp [intOf];omega
       ·have hrb:(r != 0)=true:=by simpa using hr0
        have hf:fBr nodes seen2 z=r:=by unfold fBr;rw [HRR.o,if_pos hr0]
        have hr:(ckList (fBr nodes) Br.name seen1 x.brs).1=r:=by rw [HGO.o];exact ckList_bad HZ.o hf hr0
        have HR4:=lH hr;have HR0:=lH hr0;clear hf hr hr0
        go_wp2_with fail
        go_ret;exact ⟨ret_int (by rw [HW2.o];unfold ck2;rw [HND.o,if_pos (by rw [HR4.o];exact HR0.o),HR4.o]),HBELOW.o HG2.o⟩
      ·have hd:x.brs.drop k=[]:=by rw [List.drop_eq_nil_iff];have:=hlen2.out;omega
       have hr:ckList (fBr nodes) Br.name seen1 x.brs=(0,seen2):=by rw [HGO.o,hd];rfl
       have HL2:=lH hr;have hcnt2:seen2.length≤seen1.length+m2:=by omega
       clear hd hr hcnt;have hlenx:=HNET;have HW3:Hid (netCk x=ck3 x seen2):=lH (by rw [HW2.o];unfold ck2;rw [HND.o,HL2.o];rfl)
       go_wp2_with fail
       have hCw:Ck wr wr (w.heap.size+1) A0 m0 nodes ⟨A0,m0,c0,A1,m1,c1,A2,m2,c2,A3,m3,c3,A4,m4,c4,A5,m5,c5⟩ x seen2:=⟨⟨rfl,rfl,rfl,lR,fun _ _ _=>rfl⟩,HC.o.sn,HC.o.rn,HC.o.net⟩;refine (ends_any (w.heap.size+1) _ m0 c0 nodes ⟨A0,m0,c0,A1,m1,c1,A2,m2,c2,A3,m3,c3,A4,m4,c4,A5,m5,c5⟩ x seen2 _ hCw hm0 (by omega) hm3 hm4 hm5 HND.o).mono ?_;rintro e w4 ⟨rfl,hg4⟩;have HG4:=lH (only_trans HC.o.gr hg4);clear hg4 hCw
       go_wp2_with fail
       go_ret;exact ⟨ret_int (by rw [HW3.o]),HBELOW.o HG4.o⟩
theorem check_any (h:NetH) (x:Net) (w:World) (r:RdNet w w.heap.size h x) :
    Calls Tryz.prog 58 #[.agg h.cells] w fun e w'=>e=.returned (.int .i64 (netCk x))∧Below w.heap.size w w':=by
 by_cases hl:netLarge x
 ·exact check_large h x w r hl
 ·exact check_small h x w r hl
end
end Go.Proofs.YthgdchffeigkbaaGreatDoor
