import Derived.Test.YthgdchffeigkbaaGreatDoorU46
import Derived.Test.YthgdchffeigkbaaGreatDoorU48
set_option linter.unusedVariables false
set_option linter.unusedSimpArgs false
namespace Go.Proofs.YthgdchffeigkbaaGreatDoor
set_option maxHeartbeats 8000000
set_option maxRecDepth 100000
section
section
variable {x:Net} {ms:List Mi}
theorem row_zt (h:Sml x ms) {k j:Nat} (hk:k<ms.length) (hj:j<(freeL x).length):Zt (denB x.brs:Int) (tenP 85) ((lsOf x ms).R k j):=by
 obtain ⟨m,hm⟩:∃ m,ms[k]?=some m:=⟨_,zA_ hk⟩;have hmi:=h.mi m (zC_ hm);rw [ls_row hm];have hF:=formR_ot h.ok h.h10 hmi;have h1:vf (rowR x (formR x m).1) j∈(formR x m).1:=by
  obtain ⟨b,hb,-,hb2,-⟩:=free_at hj;have e:(rowR x (formR x m).1)[j]?=some (vf (formR x m).1 b):=by
   unfold rowR;rw [zM_,hb];rfl
  rw [vf_at e];exact zC_ (vf_get (by rw [hF.len];exact hb2))
 refine (Zt.of_ot (hF.cf _ h1)).more ?_;have h2:=(denB_lt (l:=x.brs) fun b hb=>(h.ok.br b hb).2.2.2).2;have h3:(10^8)^x.brs.length≤tenP 80:=by
  rw [←Nat.pow_mul];exact Nat.pow_le_pow_right (by decide) (by have:=h.h10;omega)
 have h4:80000≤tenP 5:=by decide
 exact zI_ (Nat.mul_le_mul h4 (zI_ h2 h3)) (tnAdd (by decide))
theorem denB_zt (h:Sml x ms):(denB x.brs:Int)≠0∧(denB x.brs:Int).natAbs≤tenP 80:=by
 obtain ⟨h1,h2⟩:=denB_lt (l:=x.brs) fun b hb=>(h.ok.br b hb).2.2.2;have h3:(10^8)^x.brs.length≤tenP 80:=by
  rw [←Nat.pow_mul];exact Nat.pow_le_pow_right (by decide) (by have:=h.h10;omega)
 exact ⟨by omega,by rw [Int.natAbs_natCast];omega⟩
theorem G_fits (h:Sml x ms) {i j:Nat} (hi:i<(freeL x).length) (hj:j<(freeL x).length):Fits ((lsOf x ms).G i j):=by
 obtain ⟨d0,d1⟩:=denB_zt h;obtain ⟨Q,hQ⟩:∃ Q,Q=tenP 85:=⟨_,rfl⟩;obtain ⟨D,hD⟩:∃ D:Int,D=(denB x.brs:Int):=⟨_,rfl⟩;rw [←hD] at d0 d1;have h3:∀ k,k<ms.length→Zt (1*D*D) (1000*Q*Q) ((lsOf x ms).w k*(lsOf x ms).R k i*(lsOf x ms).R k j):=fun k hk=>by
  obtain ⟨m,hm⟩:∃ m,ms[k]?=some m:=⟨_,zA_ hk⟩;rw [ls_w hm];have r1:=row_zt h hk hi;have r2:=row_zt h hk hj;rw [←hQ,←hD] at r1 r2;exact (((Zt.int m.wt).more (by have:=h.wt m (zC_ hm);omega)).mul r1).mul r2
 have h4:=Zt.sum (n:=ms.length) h3;refine Zt.fits (a:=180) (b:=160) h4 ?_ ?_ ?_ (by decide) (by decide)
 ·rw [Int.one_mul]
  intro e;rcases Int.mul_eq_zero.1 e with e | e<;>exact d0 e
 ·have e0:1000≤tenP 3:=by decide
  have e2:Q≤tenP 85:=Nat.le_of_eq hQ;have e1:1000*Q*Q≤tenP 173:=zI_ (Nat.mul_le_mul (zI_ (Nat.mul_le_mul e0 e2) (tnAdd (c:=88) (by decide))) e2) (tnAdd (by decide));exact zI_ (Nat.mul_le_mul (show ms.length≤tenP 1 from zI_ h.k8 (by decide)) e1) (tnAdd (by decide))
 ·rw [Int.one_mul,Int.natAbs_mul]
  exact zI_ (Nat.mul_le_mul d1 d1) (tnAdd (by decide))
theorem gain_fits (h:Sml x ms):∀ a∈gainR (freeL x).length (rowsR x ms) ms,∀ q∈a,Fits q:=fun a ha q hq=>by
 obtain ⟨i,hi⟩:=List.mem_iff_getElem?.1 ha;have hil:i<(freeL x).length:=by
  have:=(zB_.1 hi).1;unfold gainR at this;rwa [zG_,List.length_range] at this
 obtain ⟨r,h1,h2,h3⟩:=gain_row (ms:=ms) (M:=rowsR x ms) hil;rw [h1] at hi;injection hi with hi;subst hi;obtain ⟨j,hj⟩:=List.mem_iff_getElem?.1 hq;have hjl:j<(freeL x).length:=by have:=(zB_.1 hj).1;omega
 rw [←vf_at hj,h3 j hjl,ls_G];exact G_fits h hil hjl
def gnT (x:Net) (ms:List Mi):List (List ByteArray):=(gainR (freeL x).length (rowsR x ms) ms).map fun a=>a.map txtQ
theorem gnT_len:(gnT x ms).length=(freeL x).length:=by unfold gnT gainR;rw [zG_,zG_,List.length_range]
theorem gnT_row {i:Nat} {r:List ByteArray} (h:(gnT x ms)[i]?=some r):r.length=(freeL x).length∧∀ j,j<(freeL x).length→r[j]?=some (txtQ ((lsOf x ms).G i j)):=by
 have hil:i<(freeL x).length:=by have:=(zB_.1 h).1;rwa [gnT_len] at this
 obtain ⟨r0,h1,h2,h3⟩:=gain_row (ms:=ms) (M:=rowsR x ms) hil;unfold gnT at h;rw [zM_,h1] at h;injection h with h;subst h;refine ⟨by rw [zG_];exact h2,fun j hj=>?_⟩;rw [zM_,vf_get (by rw [h2];exact hj),h3 j hj,ls_G];rfl
theorem gnT_sym (i j:Nat):txtQ ((lsOf x ms).G i j)=txtQ ((lsOf x ms).G j i):=by rw [Ls.sym]
theorem obs_ereg (hc:mtCk x ms=0):(obsA x ms=true↔EReg x ms)∧(rankA x ms).2.2=0:=by
 obtain ⟨h1,-,h2⟩:=mtCk_ok hc;have h3:=ereg_rank h1 h2 fun m hm=>((mtCk_val hc).2 m hm).1;unfold obsA;rw [rankA_eq hc];refine ⟨?_,rfl⟩;rw [decide_eq_true rfl,Bool.true_and,decide_eq_true_iff,h3]
 constructor<;>intro h
 ·have h':((rankR (rowsR x ms):Nat):Int)=((freeL x).length:Int):=h
  omega
 ·show ((rankR (rowsR x ms):Nat):Int)=((freeL x).length:Int)
  omega
theorem busN_pos (ok:NetOk x) (h:x.nodes≠[]):0<busN x:=by
 obtain ⟨s,hs⟩:=List.exists_mem_of_ne_nil _ h;have:=(busAt_ok ok hs).2.1;omega
end
end
section
open Go.ChangeShapes Go.WideShapes Go.ChangeAt Go.RowKit
attribute [local go_sem ↓] execOp_call_val
attribute [local go_sem] callVal_func setCell_drewN alloc_drewN sEq_walk
theorem egainl_any (h:NetH) (x:Net) (A:Option Addr) (n c:Nat) (ms0:List Mi) (w:World) (r:RdNet w w.heap.size h x) (hm:RdMi w w.heap.size A n ms0) (hnc:n≤c) (hc:c≤9223372036854775807) (ht:TabOk w) :
    Calls Tryz.prog 10 #[.agg h.cells,.slice A n c] w fun e w'=>e=.returned (.bool true)∧Below w.heap.size w w':=by
 obtain ⟨k,hk8,hkn,hmin⟩:∃ k:Nat,k≤8∧k≤n∧min (n:Int) 8=(k:Int):=by
  by_cases h:(8:Int)<(n:Int)
  ·exact ⟨8,by omega,by omega,by omega⟩
  ·exact ⟨n,by omega,by omega,by omega⟩
 have hkc:(k:Int)≤(c:Int):=by omega
 have hm1:=hm.take hkn;generalize hms:ms0.take k=ms at *;clear hms hm;have K0:Below w.heap.size w (w.alloc (.cells h.cells 29)):=bA;have HK:=lH K0;have P0:=lH (Blk.new w 29 h.cells);have HX:=lH (r.up K0);have HM:=lH (hm1.bm K0);have HT:=lH (ht.up K0);have HML:Hid (ms.length=k):=lH hm1.1;have HSZ:Hid (w.heap.size≤(w.alloc (.cells h.cells 29)).heap.size):=lH K0.size;clear K0 hm1 r ht;obtain ⟨D0,r0,s0,D1,r1,s1,D2,r2,s2,D3,r3,s3,D4,r4,s4,D5,r5,s5⟩:=h;go_enter Tryz.func10,Tryz.ntmps10
 go_wp2_with fail
 generalize w.alloc (.cells (NetH.cells ⟨D0,r0,s0,D1,r1,s1,D2,r2,s2,D3,r3,s3,D4,r4,s4,D5,r5,s5⟩) 29)=W at *;have HK:=lH (HK.o.trans ((Below.refl W.heap.size W).mono HSZ.o));refine (eworks_any W HT.o).mono ?_;rintro e w0 ⟨rfl,hb0⟩;have HB0:=lH (HK.o.tm hb0);replace P0:=lH (P0.o.bl hb0);replace HM:=lH (HM.o.bm hb0);replace HX:=lH (HX.o.up hb0);replace HT:=lH (HT.o.up hb0);clear hb0
 go_wp2_with fail
 refine (oworks_any w0 HT.o).mono ?_;rintro e w1 ⟨rfl,hb1⟩;have HB1:=lH (HB0.o.tm hb1);replace P0:=lH (P0.o.bl hb1);replace HM:=lH (HM.o.bm hb1);replace HX:=lH (HX.o.up hb1);replace HT:=lH (HT.o.up hb1);clear hb1;clear HK HSZ HB0;have PNX:=P0.o;obtain ⟨y0,y1,y2,y3,y4,y5,nf,nlt⟩:=net_box PNX;dsimp only at y0 y1 y2 y3 y4 y5;clear PNX
 go_wp2_with fail
 clear y0 y1 y2 y3 y4 y5 nf nlt;refine (small_any _ x A k c ms none 0 0 [] w1 HX.o HM.o (rdVc_0 _ _) (by omega) (by decide)).mono ?_;rintro e w2 ⟨rfl,hb2⟩;have HB2:=lH (HB1.o.tm hb2);replace P0:=lH (P0.o.bl hb2);replace HM:=lH (HM.o.bm hb2);replace HX:=lH (HX.o.up hb2);replace HT:=lH (HT.o.up hb2);clear hb2;cases hsm:smallR x ms [] with
 | false=>
  go_wp2_with fail
  go_ret;exact ⟨rfl,HB2.o⟩
 | true=>
  obtain ⟨h8,h10,hz24⟩:=small_allv hsm;have HZ24:=lH hz24;have HZ:Hid (∀ m∈ms,m.txt.size≤maxLen):=lH fun m hm=>zI_ (hz24 m hm) (by decide);have H10:=lH h10;clear hsm hz24 h10;have PNX:=P0.o;obtain ⟨y0,y1,y2,y3,y4,y5,nf,nlt⟩:=net_box PNX;dsimp only at y0 y1 y2 y3 y4 y5;clear PNX
  go_wp2_with fail
  clear y0 y1 y2 y3 y4 y5 nf nlt;refine (egain_any _ x h8 A k c ms w2 HX.o HM.o HZ.o (by omega) HT.o).mono ?_;rintro e w3 ⟨hb3,hg3⟩;have HB3:=lH (HB2.o.tm hb3);replace P0:=lH (P0.o.bl hb3);replace HM:=lH (HM.o.bm hb3);replace HX:=lH (HX.o.up hb3);replace HT:=lH (HT.o.up hb3);clear hb3;obtain ⟨A3,n3,c3,vs3,he3,hrd3,hz3,hnz3⟩:∃ (A3:Option Addr) (n3 c3:Nat) (vs3:List Vc),e=.returned (.tuple #[.slice A3 n3 c3,.int .i64 (mtCk x ms)])∧RdVc w3 w3.heap.size A3 n3 vs3∧(mtCk x ms=0→vs3.map Vc.ss=gnT x ms∧n3=(freeL x).length)∧(mtCk x ms≠0→n3=0):=by
   rcases hg3 with ⟨h1,rfl⟩ | ⟨h1,h2,-⟩
   ·exact ⟨none,0,0,[],rfl,rdVc_0 _ _,fun h=>absurd h h1,fun _=>rfl⟩
   ·obtain ⟨v,hs,rfl,hv⟩:=h2 (gain_fits (sml_of h8 H10.o (by have:=HML.o;omega) HZ24.o h1))
    obtain ⟨A3,c3,vs,rfl,h3,h4,-,-⟩:=hv.rd;have e0:(gnT x ms).length=(freeL x).length:=gnT_len;unfold gnT at e0;rw [h1];exact ⟨A3,_,c3,vs,rfl,h3,fun _=>⟨h4,e0⟩,fun h=>absurd rfl h⟩
  subst he3;have HV:=lH hrd3;have HZ3:=lH hz3;have HN3:=lH hnz3;clear hg3 hrd3 hz3 hnz3;have PNX:=P0.o;obtain ⟨y0,y1,y2,y3,y4,y5,nf,nlt⟩:=net_box PNX;dsimp only at y0 y1 y2 y3 y4 y5;clear PNX
  go_wp2_with fail
  clear y0 y1 y2 y3 y4 y5 nf nlt;refine (obs_any _ x h8 A k c ms w3 HX.o HM.o HZ.o (by omega) HT.o).mono ?_;rintro e w4 ⟨rfl,hb4⟩;have HB4:=lH (HB3.o.tm hb4);replace P0:=lH (P0.o.bl hb4);replace HM:=lH (HM.o.bm hb4);replace HX:=lH (HX.o.up hb4);replace HT:=lH (HT.o.up hb4);replace HV:=lH (HV.o.bm hb4);clear hb4;have HOB:Hid ((rankA x ms).2.2=mtCk x ms∧(mtCk x ms=0→(obsA x ms=true↔EReg x ms))):=lH (by
   by_cases h:mtCk x ms=0
   ·exact ⟨by rw [(obs_ereg h).2,h],fun _=>(obs_ereg h).1⟩
   ·exact ⟨by rw [rankA_bad h],fun h2=>absurd h2 h⟩)
  rw [HOB.o.1];generalize obsA x ms=ob at *;have PNX:=P0.o;obtain ⟨y0,y1,y2,y3,y4,y5,nf,nlt⟩:=net_box PNX;dsimp only at y0 y1 y2 y3 y4 y5;clear PNX
  go_wp2_with fail
  clear y0 y1 y2 y3 y4 y5 nf nlt;refine (angles_any _ x h8 A k c ms w4 HX.o HM.o HZ.o (by omega) HT.o).mono ?_;rintro e w5 ⟨hb5,hc5⟩;have HB5:=lH (HB4.o.tm hb5);replace P0:=lH (P0.o.bl hb5);replace HM:=lH (HM.o.bm hb5);replace HX:=lH (HX.o.up hb5);replace HT:=lH (HT.o.up hb5);replace HV:=lH (HV.o.bm hb5);clear hb5;obtain ⟨A5,n5,c5,d5,he5,h51,h52,h53,h54⟩:∃ (A5:Option Addr) (n5 c5:Nat) (d5:Int),e=.returned (.tuple #[.slice A5 n5 c5,.int .i64 d5])∧(d5≠0→n5=0)∧(d5=0→n5=busN x)∧(mtCk x ms=0→(d5=0↔EReg x ms))∧(mtCk x ms≠0→d5≠0):=by
   rcases hc5 with ⟨d,hd,h1,rfl⟩ | ⟨h1,A5,n5,c5,rfl,h2,-,-⟩
   ·refine ⟨none,0,0,d,rfl,fun _=>rfl,fun h=>absurd h hd,fun h=>⟨fun h=>absurd h hd,fun h3=>?_⟩,fun _=>hd⟩
    rcases h1 with ⟨e1,-⟩ | ⟨-,e1,-⟩ | ⟨-,e1,e2,-⟩ | ⟨-,-,-,e1⟩
    ·exact absurd h e1
    ·exact absurd h3 e1
    ·exact absurd (est_fits (sml_of h8 H10.o (by have:=HML.o;omega) HZ24.o h) e1) e2
    ·exact e1
   ·obtain ⟨e1,e2,e3⟩:=h1.zero rfl
    exact ⟨A5,n5,c5,0,rfl,fun h=>absurd rfl h,fun _=>by rw [←h2.1,zG_,est_len],fun _=>⟨fun _=>e2,fun _=>rfl⟩,fun h=>absurd e1 h⟩
  subst he5;clear hc5;have H51:=lH h51;have H52:=lH h52;have H53:=lH h53;have H54:=lH h54;clear h51 h52 h53 h54;have PNX:=P0.o;obtain ⟨y0,y1,y2,y3,y4,y5,nf,nlt⟩:=net_box PNX;dsimp only at y0 y1 y2 y3 y4 y5;clear PNX
  go_wp2_with fail
  clear y0 y1 y2 y3 y4 y5 nf nlt;refine (free_any _ x h8 w5 HX.o).mono ?_;rintro e w6 ⟨hb6,hfr⟩;have HB6:=lH (HB5.o.tm hb6);replace P0:=lH (P0.o.bl hb6);replace HM:=lH (HM.o.bm hb6);replace HX:=lH (HX.o.up hb6);replace HT:=lH (HT.o.up hb6);replace HV:=lH (HV.o.bm hb6);clear hb6;obtain ⟨A6,c6,F6,e6,hF6⟩:∃ (A6:Option Addr) (c6 F6:Nat),e=.returned (.tuple #[.slice A6 F6 c6,.int .i64 (netCk x)])∧(netCk x=0→F6=(freeL x).length):=by
   rcases hfr with ⟨h1,rfl⟩ | ⟨h1,A6,c6,rfl,h3⟩
   ·exact ⟨none,0,0,rfl,fun h=>absurd h h1⟩
   ·exact ⟨A6,c6,(freeL x).length,by rw [h1],fun _=>rfl⟩
  subst e6;clear hfr
  by_cases hck:mtCk x ms=0
  case neg=>
   have h1:=HN3.o hck;subst h1;have h2:=H51.o (H54.o hck);subst h2;have hB:(mtCk x ms != 0)=true:=by simp [hck]
   go_wp2_with fail
   go_ret;exact ⟨rfl,HB6.o⟩
  obtain ⟨hv3,hn3⟩:=HZ3.o hck;obtain ⟨hnet,-,-⟩:=mtCk_parts hck;have hf6:=hF6 hnet;have hob:=HOB.o.2 hck;have h53:=H53.o hck;have hbp:=busN_pos (netCk_ok hnet);rw [hck,hnet];subst hf6;subst hn3;have HBP:=lH hbp;have HX3:Hid ((d5=0∧ob=true∧n5=busN x)∨(d5≠0∧ob=false)):=lH (by
   by_cases hd:d5=0
   ·exact .inl ⟨hd,hob.2 (h53.1 hd),H52.o hd⟩
   ·refine .inr ⟨hd,?_⟩
    cases ob with
    | false=>rfl
    | true=>exact absurd (h53.2 (hob.1 rfl)) hd)
  have hF8:=freeL_len (netCk_ok hnet) h8;generalize hFN:(freeL x).length=N at *;have HFN:=lH hFN;have HV3:=lH hv3;have HCK:=lH hck;clear hbp hob h53 hnet hck hFN hv3 HOB H51 H52 H53 H54 HZ3 HN3 HZ24 H10 hF6
  go_upto_region 12 with fail
  go_cut [100] (fun v wc=>wc=w6∧v=.bool false)
  case first=>
   have hx0:x.nodes.length=r0:=HX.o.r0.1;have PNX:=P0.o;obtain ⟨y0,y1,y2,y3,y4,y5,nf,nlt⟩:=net_box PNX;dsimp only at y0 y1 y2 y3 y4 y5;clear PNX;rcases HX3.o with ⟨rfl,rfl,hn5⟩ | ⟨hd,rfl⟩
   ·by_cases hb0:busN x=0
    ·have hr0:r0=0:=by
      rw [←hx0]
      by_cases e:x.nodes=[]
      ·rw [e];rfl
      ·exact absurd hb0 (by have:=HBP.o e;omega)
     rw [hb0] at hn5;subst hn5;subst hr0;clear hx0 hb0
     go_wp2_with fail
     go_meet
     case rel=>exact ⟨rfl,rfl⟩
    ·have hB:((n5:Int) == 0)=false:=by simp;omega
     clear hb0 hn5 hx0
     go_wp2_with fail
     go_meet
     case rel=>exact ⟨rfl,rfl⟩
   ·have hB:(d5 == 0)=false:=by simp [hd]
    clear hx0 hd
    go_wp2_with fail
    go_meet
    case rel=>exact ⟨rfl,rfl⟩
  obtain ⟨rfl,rfl⟩:=hcut;have HROW:Hid (∀ i,i<N→∃ u:Vc,vs3[i]?=some u∧u.n=N∧u.n≤9223372036854775807∧RdStr wc wc.heap.size u.A u.n u.ss∧∀ j,j<N→u.ss[j]?=some (txtQ ((lsOf x ms).G i j))):=lH fun i hi=>by
   have hl:vs3.length=N:=HV.o.1;obtain ⟨u,hu⟩:∃ u,vs3[i]?=some u:=zX_ (by omega);have h1:(gnT x ms)[i]?=some u.ss:=by rw [←HV3.o,zM_,hu];rfl
   obtain ⟨h2,h3⟩:=gnT_row h1;rw [HFN.o] at h2 h3;obtain ⟨h4,h5⟩:=HV.o.2.2 u (zC_ hu);exact ⟨u,hu,by rw [←h4.1];exact h2,h5,h4,h3⟩
  have HSYM:Hid (∀ i j,txtQ ((lsOf x ms).G i j)=txtQ ((lsOf x ms).G j i)):=lH fun i j=>gnT_sym i j;generalize hGT:(fun i j=>txtQ ((lsOf x ms).G i j))=GT;have HROW:Hid (∀ i,i<N→∃ u:Vc,vs3[i]?=some u∧u.n=N∧u.n≤9223372036854775807∧RdStr wc wc.heap.size u.A u.n u.ss∧∀ j,j<N→u.ss[j]?=some (GT i j)):=lH (by rw [←hGT];exact HROW.o);have HSYM:Hid (∀ i j,GT i j=GT j i):=lH (by rw [←hGT];exact HSYM.o);clear hGT HV3 HX3 HBP HX HM
  go_wp2_with fail
  go_loopw [103] (fun v103 wr=>∃ i:Nat,i≤N∧v103=.int .i64 i∧Below wc.heap.size wc wr) (fun v103 _=>N-(intOf v103).toNat)
  case atStart=>exact ⟨0,by omega,rfl,bR⟩
  case round=>
   obtain ⟨i,hi,rfl,hw⟩:=hrel;have HBL:=lH hw;clear hw;obtain ⟨wl,hwl⟩:∃ wl,wl=wr:=⟨_,rfl⟩;subst hwl
   by_cases hlt:i<N
   ·obtain ⟨u,hu,hun,hu9,hru,hue⟩:=HROW.o i hlt
    obtain ⟨bb,bo,hA,hbb0⟩:=HV.o.form (by omega);subst hA;have hc0:=(HV.o.below HBL.o lR).at_ hu;have hbb:bb<wl.heap.size:=zJ_ hbb0 HBL.o.size;rw [hun] at hc0 hru;have HRU:=lH hru;have HUE:=lH hue;clear hru hue hu9;have hkI:(i:Int)<(N:Int):=by omega
    have hk0:=lZ i
    have hkn:=zL_ i;have HNX:=lN i;have HNM:Hid (N-(i+1)<N-i):=lH (by omega)
    go_wp2_with fail
    clear hc0
    go_loopw [115] (fun v115 wr=>∃ j:Nat,j≤i∧v115=.int .i64 j∧Below wl.heap.size wl wr) (fun v115 _=>i-(intOf v115).toNat)
    case atStart=>exact ⟨0,by omega,rfl,bR⟩
    case round=>
     obtain ⟨j,hj,rfl,hw⟩:=hrel;have HB2:=lH hw;have HBL2:=lH (HBL.o.tm hw);clear hw
     by_cases hjt:j<i
     ·obtain ⟨u2,hu2,hun2,hu92,hru2,hue2⟩:=HROW.o j (by omega)
      have e1:=HUE.o j (by omega);have e2:=hue2 i hlt;rw [hun2] at hru2;obtain ⟨b1,o1,hA1,hb1⟩:=HRU.o.form (by omega);obtain ⟨b2,o2,hA2,hb2⟩:=hru2.form (by omega);have hV2:=HV.o.below HBL2.o lR;have hR1:=HRU.o.below HBL2.o lR;have hR2:=hru2.below HBL2.o lR;have hc0:=hV2.at_ hu;have hc1:=hV2.at_ hu2;have hl0:bb<wr.heap.size:=zJ_ hbb0 HBL2.o.size;have hl1:b1<wr.heap.size:=zJ_ hb1 HBL2.o.size;have hl2:b2<wr.heap.size:=zJ_ hb2 HBL2.o.size;rw [hun,hA1] at hc0;rw [hun2,hA2] at hc1;have hc2:wr.cell? ⟨b1,o1+j,none⟩=some (.string (GT i j)):=RdStr.at_ (by rw [hA1] at hR1;exact hR1) e1;have hc3:wr.cell? ⟨b2,o2+i,none⟩=some (.string (GT j i)):=RdStr.at_ (by rw [hA2] at hR2;exact hR2) e2;have hEQ:sEq (GT i j) (GT j i)=true:=sEq_iff.2 (HSYM.o i j);have hkI:(i:Int)<(N:Int):=by omega
      have hk0:=lZ i
      have hkn:=zL_ i;have hjI:(j:Int)<(i:Int):=by omega
      have hjN:(j:Int)<(N:Int):=by omega
      have hj0:=lZ j
      have hjn:=zL_ j;have HNX2:=lN j;have HNM2:Hid (i-(j+1)<i-j):=lH (by omega);clear hru2 hue2 e1 e2 hun hun2 hA1 hA2 hu2 hV2 hR1 hR2 hb1 hb2 hbb0 hbb
      go_wp2_with fail
      go_quiet (fail)
      go_wp2_with fail
      go_roundw
      case rel=>exact ⟨j+1,hjt,val_int HNX2.o,below_drewN HB2.o _⟩
      case measure=>exact HNM2.o
     ·have hjI:¬(j:Int)<(i:Int):=by omega
      go_wp2_with fail
      go_roundw
      case rel=>exact ⟨i+1,hlt,val_int HNX.o,HBL2.o⟩
      case measure=>exact HNM.o
   ·have hie:i=N:=by omega
    have hkI:¬(i:Int)<(N:Int):=by omega
    go_wp2_with fail
    go_ret;exact ⟨rfl,HB6.o.tm HBL.o⟩
end
end Go.Proofs.YthgdchffeigkbaaGreatDoor
