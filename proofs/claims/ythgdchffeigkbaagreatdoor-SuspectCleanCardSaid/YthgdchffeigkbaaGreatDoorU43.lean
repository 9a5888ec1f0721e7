import Derived.Test.YthgdchffeigkbaaGreatDoorU41
import Derived.Test.YthgdchffeigkbaaGreatDoorU42
set_option linter.unusedVariables false
set_option linter.unusedSimpArgs false
namespace Go.Proofs.YthgdchffeigkbaaGreatDoor
set_option maxHeartbeats 8000000
set_option maxRecDepth 100000
section
open Go.ChangeShapes Go.WideShapes Go.ChangeAt Go.RowKit
attribute [local go_sem ↓] execOp_call_val
attribute [local go_sem] callVal_func setCell_drewN alloc_drewN sEq_walk
theorem spread_any (x:Net) (ok:NetOk x) (h8:x.nodes.length≤8) (ms:List Mi) (hmi:∀ m∈ms,MiOk x m) (hwt:∀ m∈ms,1≤m.wt∧m.wt≤1000) (hl:ms.length≤64) (fv:Value) (B0:Nat) (A:Option Addr) (c:Nat) (w:World) (hf:FitF x ms B0 w fv) (hm:RdMi w w.heap.size A ms.length ms) :
    Calls Tryz.prog 85 #[fv,.slice A ms.length c] w fun e w'=>Below w.heap.size w w'∧∃ v us,e=.returned v∧OwnQ w' w.heap.size v us (sprR x ms):=by
 obtain ⟨g,m,y,A1,c1,gi,ga,B1,d1,rfl,hf0,hf1,hf2,hf3,hf4,hf5,hf6⟩:=hf;have hz:Below w.heap.size w (w.alloc (.cells #[.pointer (some ⟨g,0,none⟩),.slice A1 ms.length c1,.slice (some ⟨gi,0,none⟩) (freeL x).length (freeL x).length,.slice (some ⟨ga,0,none⟩) (busN x) (busN x),.slice B1 ms.length d1] 95)):=bA;have HBZ:=lH hz;have HFB:=lH (Blk.new w 95 #[.pointer (some ⟨g,0,none⟩),.slice A1 ms.length c1,.slice (some ⟨gi,0,none⟩) (freeL x).length (freeL x).length,.slice (some ⟨ga,0,none⟩) (busN x) (busN x),.slice B1 ms.length d1]);have HRM:=lH (hf3.bm hz);have HIM:=lH (hf4.bm hz);have HM:=lH (hm.bm hz);have HOK:=lH ok;have HMI:=lH hmi;have HWT:=lH hwt;have HF8:=lH (freeL_len ok h8);clear hf0 hf1 hf2 hf3 hf4 hf5 hf6 hz hm ok hmi hwt;go_enter Tryz.func85,Tryz.ntmps85
 go_upto_region 1 with fail
 generalize w.alloc (.cells #[.pointer (some ⟨g,0,none⟩),.slice A1 ms.length c1,.slice (some ⟨gi,0,none⟩) (freeL x).length (freeL x).length,.slice (some ⟨ga,0,none⟩) (busN x) (busN x),.slice B1 ms.length d1] 95)=wz at *;generalize hgf:w.heap.size=gf at *;have HGF:=lH hgf;clear hgf;have f1:=HFB.o.cell 1;have fl:=HFB.o.lt
 go_wp2_with fail
 clear f1 fl
 go_loopw [5,13] (fun v5 v13 wr=>∃ (k:Nat) (us:List Rv),k≤ms.length∧v13=.int .i64 k∧OwnQ wr wz.heap.size v5 us ((sprR x ms).take k)∧Below wz.heap.size wz wr) (fun _ v13 _=>ms.length-(intOf v13).toNat)
 case atStart=>exact ⟨0,[],by omega,rfl,ownQ_none _ _,bR⟩
 case round=>
  obtain ⟨k,us,hk,rfl,ho,hb⟩:=hrel;have HO:=lH ho;have HB:=lH hb;clear ho hb
  by_cases hlt:k<ms.length
  ·obtain ⟨mi,hmk⟩:∃ mi,ms[k]?=some mi:=⟨_,zA_ hlt⟩
   have HMK:=lH hmk;have HTK:Hid ((sprR x ms).take (k+1)=(sprR x ms).take k++[sprK x ms k mi (freeL x).length]):=lH (take_at (sprR_get hmk));have hrl:k<(rowsR x ms).length:=by rw [rows_len];exact hlt
   obtain ⟨row,hrow⟩:∃ row,(rowsR x ms)[k]?=some row:=⟨_,zA_ hrl⟩;have HROW:=lH hrow;have hrm2:=(HRM.o.below HB.o lR).more HB.o.size;obtain ⟨pb,po,hRAe,hpb⟩:=hrm2.form (by omega);subst hRAe;obtain ⟨⟨qa,qn,qc⟩,q0,q1,q2,q3⟩:=hrm2.at_ hrow;dsimp only at q0 q1 q2 q3;have hrl2:row.length=(freeL x).length:=(rowsR_ok HOK.o HMI.o).1 row (zC_ hrow);have hqn:(freeL x).length=qn:=by rw [←q1.len];exact hrl2.symm
   subst hqn;have HQ1:=lH q1;have hmm:=(HM.o.below HB.o lR).more HB.o.size;obtain ⟨ab,ao,hA,hab,-⟩:=hmm.2.2 (by omega);subst hA;obtain ⟨a0,a1,a2,a3⟩:=hmm.at_ hmk;have hw3:=HWT.o mi (zC_ hmk);have hkI:(k:Int)<(ms.length:Int):=by omega
   have hk0:=lZ k
   have hkn:=zL_ k;have HNX:=lN k;have HNM:Hid (ms.length-(k+1)<ms.length-k):=lH (by omega);clear hrm2 hmm hrow hmk q1 q2 q3 hrl hrl2
   go_wp2_with fail
   refine (fracV 1 mi.wt wr (by decide) (by decide) (by omega) (by omega) (by omega)).mono ?_;rintro e w1 ⟨hb1,r0,rfl,h0⟩;clear a0 a1 a2 a3 q0 hpb hab;have hz1:Below w1.heap.size w1 (w1.alloc (.cells #[.bool r0.b1,.slice r0.A r0.n r0.c,.bool r0.b2,.slice r0.A2 r0.m r0.d] 115)):=bA;have HBV:=lH (Blk.new w1 115 #[.bool r0.b1,.slice r0.A r0.n r0.c,.bool r0.b2,.slice r0.A2 r0.m r0.d]);have HR0:=lH (h0.up hz1);have HBB:=lH (hb1.tm hz1);have HGV:Hid (wr.heap.size≤w1.heap.size):=lH hb1.size;clear hz1 hb1 h0
   go_upto_region 6 with fail
   generalize w1.alloc (.cells #[.bool r0.b1,.slice r0.A r0.n r0.c,.bool r0.b2,.slice r0.A2 r0.m r0.d] 115)=wb at *;generalize w1.heap.size=gs at *;obtain ⟨wl,hwl⟩:∃ wl,wl=wr:=⟨_,rfl⟩;subst hwl
   go_wp2_with fail
   go_loopw [26] (fun v26 wr=>∃ (i:Nat) (r:Rv),i≤(freeL x).length∧v26=.int .i64 i∧Blk wr gs 115 #[.bool r.b1,.slice r.A r.n r.c,.bool r.b2,.slice r.A2 r.m r.d]∧RtV wr wr.heap.size (sprK x ms k mi i) r∧Below wl.heap.size wl wr) (fun v26 _=>(freeL x).length-(intOf v26).toNat)
   case atStart=>exact ⟨0,r0,by omega,rfl,HBV.o,HR0.o,HBB.o⟩
   case round=>
    clear HBV HR0 HBB;obtain ⟨i,r,hi,rfl,hbx,hrx,hb⟩:=hrel;have HBX:=lH hbx;have HRX:=lH hrx;have HB2:=lH hb;clear hbx hrx hb
    by_cases hin:i<(freeL x).length
    ·have hiI:(i:Int)<((freeL x).length:Int):=by omega
     have hi0:=lZ i
     have hinn:=zL_ i;have HNXi:=lN i;have HNMi:Hid ((freeL x).length-(i+1)<(freeL x).length-i):=lH (by omega)
     go_upto_region 9 with fail
     have HB3:=lH (HB.o.tm HB2.o);have HFr:=lH (HFB.o.bl HB3.o);have f2:=HFr.o.cell 2;have fl:=HFr.o.lt;have hqi:=(HIM.o.below HB3.o lR).more HB3.o.size;obtain ⟨irow,hir⟩:∃ irow,(invL (gainR (freeL x).length (rowsR x ms) ms))[i]?=some irow:=zX_ (by rw [hqi.len];exact hin);obtain ⟨⟨ia,inn,ic⟩,i0,i1,i2,i3⟩:=hqi.at_ hir;dsimp only at i0 i1 i2 i3;rw [Nat.zero_add] at i0;have hgi:gi<wr.heap.size:=World.block_lt_of_cell? wr ⟨gi,i,none⟩ i0;have hdq:=dotI_qsz HOK.o h8 HMI.o HWT.o hl hir (zC_ HROW.o);have hrl:irow.length=(freeL x).length:=hdq.1;have hin2:(freeL x).length=inn:=by rw [←i1.len];exact hrl.symm
     subst hin2;have HIR:=lH i1;have HIQ:=lH (inv_sz HOK.o h8 HMI.o HWT.o hl irow (zC_ hir));have HRQ:Hid (∀ q∈row,qsz q≤2600000000):=lH fun q hq=>zI_ ((rowsR_ok HOK.o HMI.o).2 row (zC_ HROW.o) q hq) (by decide);have HR1:=lH (HQ1.o.bm HB2.o);have hrl2:row.length=(freeL x).length:=(rowsR_ok HOK.o HMI.o).1 row (zC_ HROW.o);obtain ⟨rb,ro,hqa,hrb⟩:=HR1.o.form (by omega);subst hqa;obtain ⟨xe,e0,e1,e2,e3,e4⟩:=HR1.o.at_ (vf_get (i:=i) (by rw [hrl2];exact hin));have HXE:=lH e4;have z0:=HBX.o.cell 0;have z1:=HBX.o.cell 1;have z2:=HBX.o.cell 2;have z3:=HBX.o.cell 3;have zl:=HBX.o.lt;have HDQ:=lH hdq.2;have HVQ:Hid (qsz (vf row i)≤300):=lH ((rowsR_ok HOK.o HMI.o).2 row (zC_ HROW.o) _ (zC_ (vf_get (i:=i) (by rw [hrl2];exact hin))));have HSQ:Hid (qsz (sprK x ms k mi i)≤400000000000):=lH (by
      have h1:=sprK_qsz HOK.o h8 HMI.o HWT.o hl HMK.o i hi;have h2:=HF8.o;omega)
     have HSE:Hid (sprK x ms k mi (i+1)=sprK x ms k mi i-vf row i*dotR irow row):=lH (by
      have a1:(rowsR x ms).getD k []=row:=by rw [zD_,HROW.o];rfl
      have a2:(invL (gainR (freeL x).length (rowsR x ms) ms)).getD i []=irow:=by rw [zD_,hir];rfl
      unfold sprK;rw [a1];show sprGo _ _ _ i-vf row i*dotR ((invL (gainR (freeL x).length (rowsR x ms) ms)).getD i []) row=_;rw [a2])
     have HB4:=lH (below_drew (Below.refl wr.heap.size wr));have hn8:(freeL x).length≤8:=HF8.o;clear hqi hir i1 i2 i3 hdq hrl hrl2 e4;refine wp_region_last (S:=fun w'=>Below wr.heap.size wr w') 14 _ (by kernel_rfl) (by kernel_rfl) rfl (below_drew bR) (fun hHeld=>?_);simp only [zK_,List.take_zero];refine tkH 0 rfl ?_;refine tkH 1 rfl ?_;refine tkH 2 rfl ?_;refine tkH 3 rfl ?_;refine tkH 4 rfl ?_;refine tkH 5 rfl ?_;refine tkH 6 rfl ?_;refine tkH 7 rfl ?_;refine tkH 8 rfl ?_;refine tkH 9 rfl ?_;refine tkH 10 rfl ?_;refine stepH 11 (by kernel_rfl) rfl (fun K hK=>?_);go_simp;refine (dot_any ia (freeL x).length ic (some ⟨rb,ro,none⟩) (freeL x).length qc irow row 2600000000 _ (HIR.o.up HB4.o) (HR1.o.up HB4.o) lR (by omega) HIQ.o HRQ.o (by omega)).mono ?_;rintro e w8 ⟨hb8,v8,rfl,h8'⟩;have HB8:Hid (Below wr.heap.size wr w8):=lH (HB4.o.tm hb8)
     have H8:=lH h8';clear hb8 h8';go_simp;refine hK.out _ _ ?_ (fun hHeld=>?_)
     ·exact HB8.o
     clear hK K
     try simp only [Act.put,sA_,sB_,sC_]
     refine stepH 12 (by kernel_rfl) rfl (fun K hK=>?_);go_simp;refine (mulV (HXE.o.up HB8.o) H8.o (by have:=HVQ.o;have:=HDQ.o;omega)).mono ?_;rintro e w9 ⟨hb9,v9,rfl,h9⟩;have HB9:Hid (Below wr.heap.size wr w9):=lH (HB8.o.tm hb9);have H9:=lH h9;clear hb9 h9;go_simp;refine hK.out _ _ ?_ (fun hHeld=>?_)
     ·exact HB9.o
     clear hK K
     try simp only [Act.put,sA_,sB_,sC_]
     refine stepH 13 (by kernel_rfl) rfl (fun K hK=>?_);go_simp;refine (subV (HRX.o.up HB9.o) H9.o (by have:=HVQ.o;have:=HDQ.o;have:=HSQ.o;have:=mul_qsz (vf row i) (dotR irow row);omega)).mono ?_;rintro e wq ⟨hbq,vq,rfl,hq⟩;have HBQ:Hid (Below wr.heap.size wr wq):=lH (HB9.o.tm hbq);have HVQ2:Hid (RtV wq wq.heap.size (sprK x ms k mi (i+1)) vq):=lH (by rw [HSE.o];exact hq);clear hbq hq;go_simp;refine hK.out _ _ ?_ (fun hHeld=>?_)
     ·exact HBQ.o
     clear hK K
     try simp only [Act.put,sA_,sB_,sC_]
     refine wpAnyH_done (by kernel_rfl) ?_ _;refine lastQ_go (by rfl) ?_;clear hHeld;have HBXq:=lH (HBX.o.bl HBQ.o);have HB2q:=lH (HB2.o.tm HBQ.o);clear f2 fl i0 hgi e0 e1 e2 e3 z0 z1 z2 z3 zl hrb HXE HB4 HB8 H8 HB9 H9 HBX HRX HB2 HB3 HFr HIR HR1;have z0:=HBXq.o.cell 0;have z1:=HBXq.o.cell 1;have z2:=HBXq.o.cell 2;have z3:=HBXq.o.cell 3;have zl:=HBXq.o.lt;have zf:=HBXq.o.frozen
     go_wp2_with fail
     go_roundw
     case rel=>exact ⟨i+1,vq,hin,val_int HNXi.o,qput HBXq.o,HVQ2.o.keepq HBXq.o,below_putQ HB2q.o HGV.o⟩
     case measure=>exact HNMi.o
    ·have hie:i=(freeL x).length:=by omega
     have hiI:¬(i:Int)<((freeL x).length:Int):=by omega
     have HSK:Hid (RtV wr wr.heap.size (sprK x ms k mi (freeL x).length) r):=lH (by rw [←hie];exact HRX.o);have HO2:=lH (HO.o.keep HB2.o);have HB3:=lH (HB.o.tm HB2.o);have z0:=HBX.o.cell 0;have z1:=HBX.o.cell 1;have z2:=HBX.o.cell 2;have z3:=HBX.o.cell 3;have zl:=HBX.o.lt;have HKL:Hid (((sprR x ms).take k).length≤1000000000000):=lH (by rw [zF_];omega);have HSZB:Hid (wz.heap.size≤wr.heap.size):=lH HB3.o.size
     go_wp2_with (at_builtin;refine wpList_appQ rfl (.tmp 44) (.tmp 46) _ rfl wz.heap.size Tryz.underlying93 _ us _ rfl HO2.o r (sprK x ms k mi (freeL x).length) HSK.o rfl HKL.o HSZB.o ?_)
     intro v' w9 hown hkp hob;have HO9:=lH hown;have HB9:=lH (HB3.o.trans hob);clear hown hkp hob z0 z1 z2 z3 zl
     go_wp2_with fail
     go_roundw
     case rel=>exact ⟨k+1,us++[r],hlt,val_int HNX.o,by rw [HTK.o];exact HO9.o,HB9.o⟩
     case measure=>exact HNM.o
  ·have hke:k=ms.length:=by omega
   subst hke;have hkI:¬((ms.length:Nat):Int)<(ms.length:Int):=by omega
   have hoe:OwnQ wr wz.heap.size u5 us (sprR x ms):=by
    have h:=HO.o;rw [zH_ (by rw [sprR_len];exact lR)] at h;exact h
   have HOE:=lH hoe;clear hoe
   go_wp2_with fail
   go_ret;exact ⟨by rw [HGF.o];exact HBZ.o.trans (HB.o.mono (zQ_ HFB.o.lt)),_,rfl,us,⟨OwnS.mono HOE.o.own (by rw [HGF.o];exact zQ_ HFB.o.lt),HOE.o.len,HOE.o.ok⟩⟩
theorem worst_any (x:Net) (ms:List Mi) (hk:MOk x ms) (fv:Value) (B0:Nat) (A:Option Addr) (c:Nat) (w:World) (hf:FitF x ms B0 w fv) (hm:RdMi w w.heap.size A ms.length ms) :
    Calls Tryz.prog 74 #[fv,.slice A ms.length c] w fun e w'=>Below w.heap.size w w'∧∃ b:Int,e=.returned (.int .i64 b)∧WBest (residR x ms (estR x ms)) (sprR x ms) ms.length b:=by
 have hff:=hf;obtain ⟨g,m,y,A1,c1,gi,ga,B1,d1,rfl,hf0,hf1,hf2,hf3,hf4,hf5,hf6⟩:=hf;have hz:Below w.heap.size w (w.alloc (.cells #[.pointer (some ⟨g,0,none⟩),.slice A1 ms.length c1,.slice (some ⟨gi,0,none⟩) (freeL x).length (freeL x).length,.slice (some ⟨ga,0,none⟩) (busN x) (busN x),.slice B1 ms.length d1] 95)):=bA;have HBZ:=lH hz;have HFB:=lH (Blk.new w 95 #[.pointer (some ⟨g,0,none⟩),.slice A1 ms.length c1,.slice (some ⟨gi,0,none⟩) (freeL x).length (freeL x).length,.slice (some ⟨ga,0,none⟩) (busN x) (busN x),.slice B1 ms.length d1]);have HFF:=lH (hff.up hz);have HQ:=lH (hf6.bm hz);have HM:=lH (hm.bm hz);have HK:=lH hk;have HL:Hid (ms.length≤64):=lH hk.k64;clear hf0 hf1 hf2 hf3 hf4 hf5 hf6 hz hm hk hff;go_enter Tryz.func74,Tryz.ntmps74
 go_upto_region 1 with fail
 generalize w.alloc (.cells #[.pointer (some ⟨g,0,none⟩),.slice A1 ms.length c1,.slice (some ⟨gi,0,none⟩) (freeL x).length (freeL x).length,.slice (some ⟨ga,0,none⟩) (busN x) (busN x),.slice B1 ms.length d1] 95)=wz at *;generalize hgf:w.heap.size=gf at *;have HGF:=lH hgf;clear hgf;have f0:=HFB.o.cell 0;have f1:=HFB.o.cell 1;have f2:=HFB.o.cell 2;have f3:=HFB.o.cell 3;have f4:=HFB.o.cell 4;have fl:=HFB.o.lt
 go_wp2_with fail
 refine (spread_any x HK.o.ok HK.o.h8 ms HK.o.mi HK.o.wt HK.o.k64 _ B0 A c wz HFF.o HM.o).mono ?_;rintro e w1 ⟨hb1,v,us,rfl,ho⟩;obtain ⟨As,cs,rfl,hrd,-,-,-⟩:=ho.rd;rw [sprR_len] at hrd;rw [sprR_len];have HS:=lH hrd;have HB1:=lH hb1;clear f0 f1 f2 f3 f4 fl ho hrd hb1 HFF HM;replace HQ:=lH (HQ.o.bm HB1.o)
 go_wp2_with fail
 refine (wholeV 0 w1 (by decide) (by decide)).mono ?_;rintro e w2 ⟨hb2,r0,rfl,h0⟩;have hz1:Below w2.heap.size w2 (w2.alloc (.cells #[.bool r0.b1,.slice r0.A r0.n r0.c,.bool r0.b2,.slice r0.A2 r0.m r0.d] 115)):=bA;have HBV:=lH (Blk.new w2 115 #[.bool r0.b1,.slice r0.A r0.n r0.c,.bool r0.b2,.slice r0.A2 r0.m r0.d]);have HBB:=lH (hb2.tm hz1);have HGV:Hid (w1.heap.size≤w2.heap.size):=lH hb2.size;clear hz1 hb2 h0;have HFr:=lH (HFB.o.below (HB1.o.tm HBB.o) HFB.o.lt)
 go_upto_region 4 with fail
 generalize w2.alloc (.cells #[.bool r0.b1,.slice r0.A r0.n r0.c,.bool r0.b2,.slice r0.A2 r0.m r0.d] 115)=wb at *;generalize w2.heap.size=g7 at *;have f4:=HFr.o.cell 4;have fl:=HFr.o.lt
 go_wp2_with fail
 clear f4 fl
 go_loopw [6,18] (fun v6 v18 wr=>∃ (k:Nat) (b:Int) (r:Rv),k≤ms.length∧v18=.int .i64 k∧v6=.int .i64 b∧WBest (residR x ms (estR x ms)) (sprR x ms) k b∧Blk wr g7 115 #[.bool r.b1,.slice r.A r.n r.c,.bool r.b2,.slice r.A2 r.m r.d]∧(∀ j:Nat,b=(j:Int)→RtV wr wr.heap.size (wqR (residR x ms (estR x ms)) (sprR x ms) j) r)∧Below w1.heap.size w1 wr) (fun _ v18 _=>ms.length-(intOf v18).toNat)
 case atStart=>exact ⟨0,-1,r0,by omega,rfl,rfl,WBest.zero,HBV.o,fun j h=>absurd h (by omega),HBB.o⟩
 case round=>
  clear HBV HBB HFr;obtain ⟨k,b,r,hk,rfl,rfl,hwb,hbx,hrx,hb⟩:=hrel;have HWB:=lH hwb;have HBX:=lH hbx;have HRX:=lH hrx;have HB:=lH hb;clear hwb hbx hrx hb
  by_cases hlt:k<ms.length
  ·have hkI:(k:Int)<(ms.length:Int):=by omega
   have hk0:=lZ k
   have hkn:=zL_ k;have hl64:=HL.o;have HNX:=lN k;have HNM:Hid (ms.length-(k+1)<ms.length-k):=lH (by omega);have hq2:=(HQ.o.below HB.o lR).more HB.o.size;obtain ⟨rb,ro,hqa,hrb⟩:=hq2.form (by omega);subst hqa;obtain ⟨xe,e0,e1,e2,e3,e4⟩:=hq2.at_ (vf_get (i:=k) (by rw [residR_len];exact hlt));have HXE:=lH e4;generalize hpe:vf (residR x ms (estR x ms)) k=p at *;have HPE:=lH hpe;clear hq2 e4 hpe
   go_upto_region 7 with fail
   have hz1:Below wr.heap.size wr (wr.alloc (.cells #[.bool xe.b1,.slice xe.A xe.n xe.c,.bool xe.b2,.slice xe.A2 xe.m xe.d] 115)):=bA;have HBY:=lH (Blk.new wr 115 #[.bool xe.b1,.slice xe.A xe.n xe.c,.bool xe.b2,.slice xe.A2 xe.m xe.d]);have HBXa:=lH (HBX.o.bl hz1);have HBa:=lH (HB.o.tm hz1);have HXEa:=lH (HXE.o.up hz1);have HRXa:=lH fun j h=>(HRX.o j h).up hz1;clear hz1 e0 e1 e2 e3 hrb HBX HB HXE HRX;generalize wr.alloc (.cells #[.bool xe.b1,.slice xe.A xe.n xe.c,.bool xe.b2,.slice xe.A2 xe.m xe.d] 115)=wa at *;generalize wr.heap.size=g9 at *;have y0:=HBY.o.cell 0;have y1:=HBY.o.cell 1;have y2:=HBY.o.cell 2;have y3:=HBY.o.cell 3;have yl:=HBY.o.lt
   go_wp2_with fail
   refine (signV HXEa.o).mono ?_;rintro e w3 ⟨rfl,hb3⟩;have HBYb:=lH (HBY.o.bl hb3);have HBXb:=lH (HBXa.o.bl hb3);have HBb:=lH (HBa.o.tm hb3);have HXEb:=lH (HXEa.o.up hb3);have HRXb:=lH fun j h=>(HRXa.o j h).up hb3;clear hb3 y0 y1 y2 y3 yl HBY HBXa HBa HXEa HRXa
   by_cases hp:p=0
   ·have hsg:(p.num.sign == 0)=true:=by rw [sgn_z,decide_eq_true hp]
    have HWS:=lH (HWB.o.skip (fun h=>h.1 (by rw [HPE.o];exact hp)));generalize p.num.sign=sg at *
    go_wp2_with fail
    go_roundw
    case rel=>exact ⟨k+1,b,r,hlt,val_int HNX.o,rfl,HWS.o,HBXb.o,HRXb.o,HBb.o⟩
    case measure=>exact HNM.o
   ·have hsg:(p.num.sign == 0)=false:=by rw [sgn_z,decide_eq_false hp]
    have HP0:=lH hp;generalize p.num.sign=sg at *;clear hp;have hs2:=(HS.o.below HBb.o lR).more HBb.o.size;obtain ⟨sb,so,hqa,hsb⟩:=hs2.form (by omega);subst hqa;obtain ⟨se,e0,e1,e2,e3,e4⟩:=hs2.at_ (vf_get (i:=k) (by rw [sprR_len];exact hlt));have HSE:=lH e4;have HQK:Hid (vf (sprR x ms) k∈sprR x ms):=lH (zC_ (vf_get (i:=k) (by rw [sprR_len];exact hlt)));generalize hqe:vf (sprR x ms) k=q at *;have HQE:=lH hqe;clear hs2 e4 hqe
    go_wp2_with fail
    refine (signV HSE.o).mono ?_;rintro e w4 ⟨rfl,hb4⟩;have HBYc:=lH (HBYb.o.bl hb4);have HBXc:=lH (HBXb.o.bl hb4);have HBc:=lH (HBb.o.tm hb4);have HXEc:=lH (HXEb.o.up hb4);have HRXc:=lH fun j h=>(HRXb.o j h).up hb4;have HSEc:=lH (HSE.o.up hb4);clear e0 e1 e2 e3 hb4 HBYb HBXb HBb HXEb HRXb HSE hsb
    by_cases hq:q=0
    ·have hsg2:(q.num.sign == 0)=true:=by rw [sgn_z,decide_eq_true hq]
     have HWS:=lH (HWB.o.skip (fun h=>h.2 (by rw [HQE.o];exact hq)));generalize q.num.sign=sg2 at *
     go_wp2_with fail
     go_roundw
     case rel=>exact ⟨k+1,b,r,hlt,val_int HNX.o,rfl,HWS.o,HBXc.o,HRXc.o,HBc.o⟩
     case measure=>exact HNM.o
    ·have hsg2:(q.num.sign == 0)=false:=by rw [sgn_z,decide_eq_false hq]
     have HQ0:=lH hq;have HWK:Hid (WOk (residR x ms (estR x ms)) (sprR x ms) k):=lH ⟨by rw [HPE.o];exact HP0.o,by rw [HQE.o];exact hq⟩;generalize q.num.sign=sg2 at *;clear hq;have HPZ:Hid (qsz p≤700000000000):=lH (by
      rw [←HPE.o];exact HK.o.res _ (zC_ (vf_get (i:=k) (by rw [residR_len];exact hlt))))
     have HQZ:=lH (HK.o.spr q HQK.o);have HWQ:Hid (wqR (residR x ms (estR x ms)) (sprR x ms) k=p*p / q):=lH (by unfold wqR;rw [HPE.o,HQE.o]);have y0:=HBYc.o.cell 0;have y1:=HBYc.o.cell 1;have y2:=HBYc.o.cell 2;have y3:=HBYc.o.cell 3;have yl:=HBYc.o.lt
     go_upto_region 8 with fail
     have hs2:=(HS.o.below HBc.o lR).more HBc.o.size;obtain ⟨se2,e0,e1,e2,e3,e4⟩:=hs2.at_ (vf_get (i:=k) (by rw [sprR_len];exact hlt));rw [HQE.o] at e4;have HSE2:=lH e4;have hsb:sb<w4.heap.size:=World.block_lt_of_cell? w4 _ e0;have HB4:=lH (below_drew (Below.refl w4.heap.size w4));clear hs2 e4;refine wp_region_last (S:=fun w'=>Below w4.heap.size w4 w') 9 _ (by kernel_rfl) (by kernel_rfl) rfl (below_drew bR) (fun hHeld=>?_);simp only [zK_,List.take_zero];refine tkH 0 rfl ?_;refine tkH 1 rfl ?_;refine tkH 3 rfl ?_;refine tkH 4 rfl ?_;refine tkH 5 rfl ?_;refine tkH 6 rfl ?_
     refine relyH (C:=fun s w'=>Below w4.heap.size w4 w') (G:=fun w' w''=>Below w'.heap.size w' w'') [(2,RtQ (p*p)),(7,RtQ (p*p / q)),(8,NewQ w4.heap.size 115 #[.bool false,.slice none 0 0,.bool false,.slice none 0 0])] rfl (by kernel_rfl) (List.forall_mem_cons.2 ⟨fun _ _ _ h g=>h.up g,List.forall_mem_cons.2 ⟨fun _ _ _ h g=>h.up g,List.forall_mem_cons.2 ⟨fun _ _ _ h g=>h.up g,List.forall_mem_nil _⟩⟩⟩) (fun _ _ h=>h) hHeld ?_;refine relyL_cons (i:=2) rfl (fun s w3 hC hn hK=>?_) (fun v2=>?_)
     ·unfold relyOp;go_simp;simp only [relyUpon]
      refine (mulV (HXEc.o.up hC) (HXEc.o.up hC) (by have:=HPZ.o;omega)).mono ?_;rintro e w6 ⟨hb6,r6,rfl,hr6⟩;exact ⟨_,rfl,⟨r6,rfl,hr6⟩,hC.tm hb6,hb6⟩
     try simp only [Act.put,sA_,sB_,sC_]
     refine relyL_cons (i:=7) rfl (fun s w3 hC hn hK=>?_) (fun v7=>?_)
     ·have k2:s 2=some v2∧RtQ (p*p) v2 w3:=hK 2 (by kernel_rfl)
      obtain ⟨-,r2',rfl,h2⟩:=k2;unfold relyOp;go_simp;simp only [relyUpon];refine (divV h2 (HSE2.o.up hC) HQ0.o (by have:=HPZ.o;have:=HQZ.o;have:=mul_qsz p p;omega)).mono ?_;rintro e w6 ⟨hb6,r6,rfl,hr6⟩;exact ⟨_,rfl,⟨r6,rfl,hr6⟩,hC.tm hb6,hb6⟩
     try simp only [Act.put,sA_,sB_,sC_]
     refine relyL_cons (i:=8) rfl (fun s w3 hC hn hK=>?_) (fun v8=>?_)
     ·unfold relyOp;go_simp;simp only [relyUpon]
      exact ⟨⟨_,rfl,hC.size,Blk.new _ _ _⟩,hC.alloc hC.size _,bA⟩
     try simp only [Act.put,sA_,sB_,sC_]
     refine relyL_nil (fun s wc hC hK=>?_);have k7:s 7=some v7∧RtQ (p*p / q) v7 wc:=hK 7;have k8:s 8=some v8∧NewQ w4.heap.size 115 #[.bool false,.slice none 0 0,.bool false,.slice none 0 0] v8 wc:=hK 8;obtain ⟨-,r7,rfl,h7⟩:=k7;obtain ⟨-,gv,rfl,hgv,hbv⟩:=k8;have HBC:=lH hC;have HR7:=lH h7;have HGW:=lH hgv;have HBW:=lH hbv;clear hC hK h7 hgv hbv hHeld;have z0:=HBW.o.cell 0;have z1:=HBW.o.cell 1;have z2:=HBW.o.cell 2;have z3:=HBW.o.cell 3;have zl:=HBW.o.lt;have zf:=HBW.o.frozen;refine lastQ_go (by rfl) ?_
     go_upto_region 9 with fail
     clear z0 z1 z2 z3 zl zf e0 e1 e2 e3 y0 y1 y2 y3 yl hsb;have HBX0:=lH (qput (v:=r7) (x:=rv0) HBW.o);have HBD0:=lH (below_putQ (v:=r7) HBC.o HGW.o);have HRX0:=lH (HR7.o.keepq (v:=r7) (x:=rv0) HBW.o);unfold putQ at HBD0 HRX0;generalize (((wc.setCell ⟨gv,0,none⟩ _).setCell ⟨gv,1,none⟩ _).setCell ⟨gv,2,none⟩ _).setCell ⟨gv,3,none⟩ _=wd at *;have HBXd:=lH (HBXc.o.bl HBD0.o);have HBd:=lH (HBc.o.tm HBD0.o);have HRXd:=lH fun j h=>(HRXc.o j h).up HBD0.o;clear HBC HR7 HBW HB4 HBXc HBc HRXc HXEc HSEc HSE2 HBYc;have x0:=HBXd.o.cell 0;have x1:=HBXd.o.cell 1;have x2:=HBXd.o.cell 2;have x3:=HBXd.o.cell 3;have xl:=HBXd.o.lt;have z0:=HBX0.o.cell 0;have z1:=HBX0.o.cell 1;have z2:=HBX0.o.cell 2;have z3:=HBX0.o.cell 3;have zl:=HBX0.o.lt;have xf:=HBXd.o.frozen
     by_cases hb:b<0
     ·have hbd:decide (b<0)=true:=decide_eq_true hb
      have HWS:Hid (WBest (residR x ms (estR x ms)) (sprR x ms) (k+1) (k:Int)):=lH (by
       have h:=HWB.o;have e:b=-1:=by
        rcases h with ⟨h1,-⟩ | ⟨j,h1,-⟩<;>omega
       rw [e] at h;exact h.first HWK.o)
      go_wp2_with fail
      refine wp_region_last (S:=fun w'=>Below wd.heap.size wd w') 3 _ (by kernel_rfl) (by kernel_rfl) rfl (below_drew bR) (fun hHeld=>?_);simp only [zK_,List.take_zero];refine tkH 0 rfl ?_;refine tkH 1 rfl ?_;refine tkH 2 rfl ?_;refine wpAnyH_done (by kernel_rfl) ?_ _;refine lastQ_go (by rfl) ?_;have hdr:=below_drew (Below.refl wd.heap.size wd);have HBXf:=lH (HBXd.o.bl hdr);have HBf:=lH (HBd.o.tm hdr);have HRXf:=lH (HRX0.o.up hdr);clear hdr x0 x1 x2 x3 xl xf z0 z1 z2 z3 zl HBXd HBX0 HBd HRX0 hHeld;generalize wd.drew=wf at *;have x0:=HBXf.o.cell 0;have x1:=HBXf.o.cell 1;have x2:=HBXf.o.cell 2;have x3:=HBXf.o.cell 3;have xl:=HBXf.o.lt;have xf:=HBXf.o.frozen
      go_wp2_with fail
      go_roundw
      case rel=>exact ⟨k+1,k,r7,hlt,val_int HNX.o,rfl,HWS.o,qput HBXf.o,fun j hj=>by
       have e:j=k:=by omega
       subst e;rw [HWQ.o];exact HRXf.o.keepq HBXf.o,below_putQ HBf.o HGV.o⟩
      case measure=>exact HNM.o
     ·have hbd:decide (b<0)=false:=decide_eq_false hb
      obtain ⟨j,hj⟩:∃ j:Nat,b=(j:Int):=⟨b.toNat,by omega⟩;subst hj;have HJK:=lH (HRXd.o j rfl);have HJQ:Hid (qsz (wqR (residR x ms (estR x ms)) (sprR x ms) j)≤1800000000000):=lH (by
       have hjl:j<ms.length:=by
        rcases HWB.o with ⟨h1,-⟩ | ⟨i,h1,h2,-⟩<;>omega
       have h1:=HK.o.res _ (zC_ (vf_get (i:=j) (by rw [residR_len];exact hjl)));have h2:=HK.o.spr _ (zC_ (vf_get (i:=j) (by rw [sprR_len];exact hjl)));unfold wqR;have h3:=mul_qsz (vf (residR x ms (estR x ms)) j) (vf (residR x ms (estR x ms)) j);have h4:=div_qsz (vf (residR x ms (estR x ms)) j*vf (residR x ms (estR x ms)) j) (vf (sprR x ms) j);omega)
      have HKQ:Hid (qsz (p*p / q)≤1800000000000):=lH (by
       have h1:=HPZ.o;have h2:=HQZ.o;have h3:=mul_qsz p p;have h4:=div_qsz (p*p) q;omega)
      go_wp2_with fail
      refine (cmpV HRX0.o HJK.o (by have:=HJQ.o;have:=HKQ.o;omega)).mono ?_;rintro e w9 ⟨rfl,hb9⟩;have HBXe:=lH (HBXd.o.bl hb9);have HBX1:=lH (HBX0.o.bl hb9);have HBe:=lH (HBd.o.tm hb9);have HRXe:=lH fun j h=>(HRXd.o j h).up hb9;have HRX1:=lH (HRX0.o.up hb9);clear hb9 x0 x1 x2 x3 xl xf z0 z1 z2 z3 zl HBXd HBd HRXd HBX0 HRX0 HJK HJQ HKQ;have x0:=HBXe.o.cell 0;have x1:=HBXe.o.cell 1;have x2:=HBXe.o.cell 2;have x3:=HBXe.o.cell 3;have xl:=HBXe.o.lt;have xf:=HBXe.o.frozen;have z0:=HBX1.o.cell 0;have z1:=HBX1.o.cell 1;have z2:=HBX1.o.cell 2;have z3:=HBX1.o.cell 3;have zl:=HBX1.o.lt
      by_cases hcq:0<cmpQ (p*p / q) (wqR (residR x ms (estR x ms)) (sprR x ms) j)
      ·have HWS:Hid (WBest (residR x ms (estR x ms)) (sprR x ms) (k+1) (k:Int)):=lH (HWB.o.take HWK.o (by rw [HWQ.o];exact cmpQ_lt.1 hcq))
       generalize cmpQ (p*p / q) (wqR (residR x ms (estR x ms)) (sprR x ms) j)=cq at *;have hcd:decide (0<cq)=true:=decide_eq_true hcq;have hcd2:decide (cq>0)=true:=decide_eq_true hcq
       go_wp2_with fail
       refine wp_region_last (S:=fun w'=>Below w9.heap.size w9 w') 3 _ (by kernel_rfl) (by kernel_rfl) rfl (below_drew bR) (fun hHeld=>?_);simp only [zK_,List.take_zero];refine tkH 0 rfl ?_;refine tkH 1 rfl ?_;refine tkH 2 rfl ?_;refine wpAnyH_done (by kernel_rfl) ?_ _;refine lastQ_go (by rfl) ?_;have hdr:=below_drew (Below.refl w9.heap.size w9);have HBXf:=lH (HBXe.o.bl hdr);have HBf:=lH (HBe.o.tm hdr);have HRXf:=lH (HRX1.o.up hdr);clear hdr x0 x1 x2 x3 xl xf z0 z1 z2 z3 zl HBXe HBX1 HBe HRX1 hHeld;generalize w9.drew=wf at *;have x0:=HBXf.o.cell 0;have x1:=HBXf.o.cell 1;have x2:=HBXf.o.cell 2;have x3:=HBXf.o.cell 3;have xl:=HBXf.o.lt;have xf:=HBXf.o.frozen
       go_wp2_with fail
       go_roundw
       case rel=>exact ⟨k+1,k,r7,hlt,val_int HNX.o,rfl,HWS.o,qput HBXf.o,fun j hj=>by
        have e:j=k:=by omega
        subst e;rw [HWQ.o];exact HRXf.o.keepq HBXf.o,below_putQ HBf.o HGV.o⟩
       case measure=>exact HNM.o
      ·have HWS:Hid (WBest (residR x ms (estR x ms)) (sprR x ms) (k+1) (j:Int)):=lH (HWB.o.stay (by rw [HWQ.o];exact fun h=>hcq (cmpQ_lt.2 h)))
       generalize cmpQ (p*p / q) (wqR (residR x ms (estR x ms)) (sprR x ms) j)=cq at *;have hcd:decide (0<cq)=false:=decide_eq_false hcq;have hcd2:decide (cq>0)=false:=decide_eq_false hcq
       go_wp2_with fail
       go_roundw
       case rel=>exact ⟨k+1,j,r,hlt,val_int HNX.o,rfl,HWS.o,HBXe.o,HRXe.o,HBe.o⟩
       case measure=>exact HNM.o
  ·have hke:k=ms.length:=by omega
   subst hke;have hkI:¬((ms.length:Nat):Int)<(ms.length:Int):=by omega
   go_wp2_with fail
   go_ret;exact ⟨by rw [HGF.o];exact HBZ.o.trans ((HB1.o.tm HB.o).mono (zQ_ HFB.o.lt)),_,rfl,HWB.o⟩
def SprP (x:Net) (ms:List Mi) (w:World) (e:Ending) (w':World):Prop:=Below w.heap.size w w'∧((∃ c:Int,c≠0∧EstC x ms c∧e=.returned (.tuple #[.slice none 0 0,.int .i64 c]))∨
 (EstC x ms 0∧((∀ q∈sprR x ms,Fits q)→∃ A n c,e=.returned (.tuple #[.slice A n c,.int .i64 0])∧RdStr w' w'.heap.size A n ((sprR x ms).map txtQ)∧n≤c∧c≤maxLen)∧(¬(∀ q∈sprR x ms,Fits q)→e=.returned (.tuple #[.slice none 0 0,.int .i64 2]))))
theorem sprd_any (h:NetH) (x:Net) (h8:x.nodes.length≤8) (A:Option Addr) (n c:Nat) (ms:List Mi) (w:World) (r:RdNet w w.heap.size h x) (hm:RdMi w w.heap.size A n ms) (hz:∀ m∈ms,m.txt.size≤maxLen) (hn:n≤9223372036854775807) (ht:TabOk w) :
    Calls Tryz.prog 43 #[.agg h.cells,.slice A n c] w (SprP x ms w):=by
 have K0:Below w.heap.size w (w.alloc (.cells h.cells 29)):=bA;have HK:=lH K0;have P0:=lH (Blk.new w 29 h.cells);have HF:=lH (sfit_any h x h8 A n c ms (w.alloc (.cells h.cells 29)) (r.up K0) (hm.bm K0) hz hn (ht.up K0));have HT:=lH (ht.up K0);have HSZ:Hid (w.heap.size≤(w.alloc (.cells h.cells 29)).heap.size):=lH K0.size;have HML:Hid (ms.length=n):=lH hm.1;have HM:=lH (hm.bm K0);clear K0 hm r ht hz;obtain ⟨D0,r0,s0,D1,r1,s1,D2,r2,s2,D3,r3,s3,D4,r4,s4,D5,r5,s5⟩:=h;obtain ⟨y0,y1,y2,y3,y4,y5,nf,nlt⟩:=net_box P0.o;dsimp only at y0 y1 y2 y3 y4 y5;go_enter Tryz.func43,Tryz.ntmps43
 go_wp2_with fail
 generalize w.alloc (.cells (NetH.cells ⟨D0,r0,s0,D1,r1,s1,D2,r2,s2,D3,r3,s3,D4,r4,s4,D5,r5,s5⟩) 29)=W at *;refine HF.o.mono ?_;rintro e w1 ⟨hb1,hcase⟩;have HB1:=lH (HK.o.trans (hb1.mono HSZ.o));have HT1:=lH (HT.o.up hb1);replace HM:=lH (HM.o.bm hb1);clear hb1 y0 y1 y2 y3 y4 y5 nf nlt HF;rcases hcase with ⟨d,hd,hec,rfl⟩ | ⟨hec,fv,rfl,⟨g,m,y,A1,c1,gi,ga,B1,d1,rfl,hf0,hf1,hf2,hf3,hf4,hf5,hf6⟩⟩
 ·have HE:=lH hec
  have HD:=lH hd;have hdb:(d != 0)=true:=by simp [hd]
  clear hec hd
  go_wp2_with fail
  go_ret2;exact ⟨HB1.o.alloc HB1.o.size _,.inl ⟨d,HD.o,HE.o,rfl⟩⟩
 ·obtain ⟨hck,hreg,hfits⟩:=hec.zero rfl
  obtain ⟨ok,hl,hmi⟩:=mtCk_ok hck;have HE:=lH hec;have hz:Below w1.heap.size w1 (w1.alloc (.cells #[.pointer (some ⟨g,0,none⟩),.slice A1 ms.length c1,.slice (some ⟨gi,0,none⟩) (freeL x).length (freeL x).length,.slice (some ⟨ga,0,none⟩) (busN x) (busN x),.slice B1 ms.length d1] 95)):=bA;have hff:=FitF.up (B0:=W.heap.size) (x:=x) (ms:=ms) ⟨g,m,y,A1,c1,gi,ga,B1,d1,rfl,hf0,hf1,hf2,hf3,hf4,hf5,hf6⟩ hz;have HFF:=lH hff;have HK:=lH (mok_of h8 hck);have HM2:=lH (HM.o.bm hz);have HFB:=lH (Blk.new w1 95 #[.pointer (some ⟨g,0,none⟩),.slice A1 ms.length c1,.slice (some ⟨gi,0,none⟩) (freeL x).length (freeL x).length,.slice (some ⟨ga,0,none⟩) (busN x) (busN x),.slice B1 ms.length d1]);have HBZ:=lH (HB1.o.tm hz);have HT2:=lH (HT1.o.up hz);have HL:Hid (ms.length≤64):=lH hl
  clear hec hf0 hf1 hf2 hf3 hf4 hf5 hf6 hff hck hreg hfits ok hl hmi hz
  go_upto_region 4 with fail
  generalize w1.alloc (.cells #[.pointer (some ⟨g,0,none⟩),.slice A1 ms.length c1,.slice (some ⟨gi,0,none⟩) (freeL x).length (freeL x).length,.slice (some ⟨ga,0,none⟩) (busN x) (busN x),.slice B1 ms.length d1] 95)=wz at *;generalize w1.heap.size=gt at *;have x0:=HFB.o.cell 0;have x1:=HFB.o.cell 1;have x2:=HFB.o.cell 2;have x3:=HFB.o.cell 3;have x4:=HFB.o.cell 4;have xl:=HFB.o.lt;have hml:=HML.o;subst hml
  go_wp2_with fail
  refine (spread_any x HK.o.ok h8 ms HK.o.mi HK.o.wt HK.o.k64 _ _ A c wz HFF.o HM2.o).mono ?_;rintro e w2 ⟨hb2,v2,us2,rfl,ho2⟩;obtain ⟨A2,c2,hv2,hrd2,-,-,-⟩:=ho2.rd;subst hv2;rw [sprR_len] at hrd2;rw [sprR_len];have HQ:=lH hrd2;have HB2:=lH (HBZ.o.tm hb2);have HT3:=lH (HT2.o.up hb2);clear hb2 ho2 hrd2 x0 x1 x2 x3 x4 xl
  go_wp2_with fail
  refine (textvec_any A2 _ c2 (sprR x ms) w2 HQ.o (by have:=HL.o;omega) HT3.o).mono ?_;rintro e w3 ⟨hb3,ht1,ht2⟩;have HB3:=lH (HB2.o.tm hb3);have HTA:=lH ht1;have HTB:=lH ht2;clear hb3 ht1 ht2
  by_cases hf:∀ q∈sprR x ms,Fits q
  ·obtain ⟨A7,n7,c7,rfl,hr7,h71,h72⟩:=HTA.o hf
   have HR7:=lH hr7;have HFI:=lH hf;clear hr7 HTA HTB hf
   go_wp2_with fail
   go_ret2;exact ⟨HB3.o,.inr ⟨HE.o,fun _=>⟨_,_,_,rfl,HR7.o,h71,h72⟩,fun h=>absurd HFI.o h⟩⟩
  ·obtain rfl:=HTB.o hf
   have HFI:=lH hf;clear HTA HTB hf
   go_wp2_with fail
   go_ret2;exact ⟨HB3.o,.inr ⟨HE.o,fun h=>absurd h HFI.o,fun _=>rfl⟩⟩
def WorP (x:Net) (ms:List Mi) (w:World) (e:Ending) (w':World):Prop:=Below w.heap.size w w'∧((∃ c:Int,c≠0∧EstC x ms c∧e=.returned (.tuple #[.int .i64 0,.int .i64 c]))∨
 (EstC x ms 0∧∃ b:Int,WBest (residR x ms (estR x ms)) (sprR x ms) ms.length b∧((b<0∧e=.returned (.tuple #[.int .i64 0,.int .i64 8]))∨(0≤b∧e=.returned (.tuple #[.int .i64 b,.int .i64 0])))))
theorem worstl_any (h:NetH) (x:Net) (h8:x.nodes.length≤8) (A:Option Addr) (n c:Nat) (ms:List Mi) (w:World) (r:RdNet w w.heap.size h x) (hm:RdMi w w.heap.size A n ms) (hz:∀ m∈ms,m.txt.size≤maxLen) (hn:n≤9223372036854775807) (ht:TabOk w) :
    Calls Tryz.prog 45 #[.agg h.cells,.slice A n c] w (WorP x ms w):=by
 have K0:Below w.heap.size w (w.alloc (.cells h.cells 29)):=bA;have HK:=lH K0;have P0:=lH (Blk.new w 29 h.cells);have HF:=lH (sfit_any h x h8 A n c ms (w.alloc (.cells h.cells 29)) (r.up K0) (hm.bm K0) hz hn (ht.up K0));have HT:=lH (ht.up K0);have HSZ:Hid (w.heap.size≤(w.alloc (.cells h.cells 29)).heap.size):=lH K0.size;have HML:Hid (ms.length=n):=lH hm.1;have HM:=lH (hm.bm K0);clear K0 hm r ht hz;obtain ⟨D0,r0,s0,D1,r1,s1,D2,r2,s2,D3,r3,s3,D4,r4,s4,D5,r5,s5⟩:=h;obtain ⟨y0,y1,y2,y3,y4,y5,nf,nlt⟩:=net_box P0.o;dsimp only at y0 y1 y2 y3 y4 y5;go_enter Tryz.func45,Tryz.ntmps45
 go_wp2_with fail
 generalize w.alloc (.cells (NetH.cells ⟨D0,r0,s0,D1,r1,s1,D2,r2,s2,D3,r3,s3,D4,r4,s4,D5,r5,s5⟩) 29)=W at *;refine HF.o.mono ?_;rintro e w1 ⟨hb1,hcase⟩;have HB1:=lH (HK.o.trans (hb1.mono HSZ.o));have HT1:=lH (HT.o.up hb1);replace HM:=lH (HM.o.bm hb1);clear hb1 y0 y1 y2 y3 y4 y5 nf nlt HF;rcases hcase with ⟨d,hd,hec,rfl⟩ | ⟨hec,fv,rfl,⟨g,m,y,A1,c1,gi,ga,B1,d1,rfl,hf0,hf1,hf2,hf3,hf4,hf5,hf6⟩⟩
 ·have HE:=lH hec
  have HD:=lH hd;have hdb:(d != 0)=true:=by simp [hd]
  clear hec hd
  go_wp2_with fail
  go_ret2;exact ⟨HB1.o.alloc HB1.o.size _,.inl ⟨d,HD.o,HE.o,rfl⟩⟩
 ·obtain ⟨hck,hreg,hfits⟩:=hec.zero rfl
  obtain ⟨ok,hl,hmi⟩:=mtCk_ok hck;have HE:=lH hec;have hz:Below w1.heap.size w1 (w1.alloc (.cells #[.pointer (some ⟨g,0,none⟩),.slice A1 ms.length c1,.slice (some ⟨gi,0,none⟩) (freeL x).length (freeL x).length,.slice (some ⟨ga,0,none⟩) (busN x) (busN x),.slice B1 ms.length d1] 95)):=bA;have hff:=FitF.up (B0:=W.heap.size) (x:=x) (ms:=ms) ⟨g,m,y,A1,c1,gi,ga,B1,d1,rfl,hf0,hf1,hf2,hf3,hf4,hf5,hf6⟩ hz;have HFF:=lH hff;have HK:=lH (mok_of h8 hck);have HM2:=lH (HM.o.bm hz);have HFB:=lH (Blk.new w1 95 #[.pointer (some ⟨g,0,none⟩),.slice A1 ms.length c1,.slice (some ⟨gi,0,none⟩) (freeL x).length (freeL x).length,.slice (some ⟨ga,0,none⟩) (busN x) (busN x),.slice B1 ms.length d1]);have HBZ:=lH (HB1.o.tm hz);have HT2:=lH (HT1.o.up hz);have HL:Hid (ms.length≤64):=lH hl
  clear hec hf0 hf1 hf2 hf3 hf4 hf5 hf6 hff hck hreg hfits ok hl hmi hz
  go_upto_region 4 with fail
  generalize w1.alloc (.cells #[.pointer (some ⟨g,0,none⟩),.slice A1 ms.length c1,.slice (some ⟨gi,0,none⟩) (freeL x).length (freeL x).length,.slice (some ⟨ga,0,none⟩) (busN x) (busN x),.slice B1 ms.length d1] 95)=wz at *;generalize w1.heap.size=gt at *;have x0:=HFB.o.cell 0;have x1:=HFB.o.cell 1;have x2:=HFB.o.cell 2;have x3:=HFB.o.cell 3;have x4:=HFB.o.cell 4;have xl:=HFB.o.lt;have hml:=HML.o;subst hml
  go_wp2_with fail
  refine (worst_any x ms HK.o _ _ A c wz HFF.o HM2.o).mono ?_;rintro e w2 ⟨hb2,b,rfl,hwb⟩;have HWB:=lH hwb;have HB2:=lH (HBZ.o.tm hb2);clear hb2 hwb x0 x1 x2 x3 x4 xl
  by_cases hb:b<0
  ·have HBD:=lH hb
   have hbd:decide (b<0)=true:=decide_eq_true hb
   go_wp2_with fail
   go_ret2;exact ⟨HB2.o,.inr ⟨HE.o,b,HWB.o,.inl ⟨HBD.o,rfl⟩⟩⟩
  ·have HBD:Hid (0≤b):=lH (by omega)
   have hbd:decide (b<0)=false:=decide_eq_false hb
   go_wp2_with fail
   go_ret2;exact ⟨HB2.o,.inr ⟨HE.o,b,HWB.o,.inr ⟨HBD.o,rfl⟩⟩⟩
end
end Go.Proofs.YthgdchffeigkbaaGreatDoor
