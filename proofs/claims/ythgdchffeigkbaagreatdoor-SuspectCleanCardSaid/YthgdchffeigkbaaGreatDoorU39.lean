import Derived.Test.YthgdchffeigkbaaGreatDoorU32
import Derived.Test.YthgdchffeigkbaaGreatDoorU34
set_option linter.unusedVariables false
set_option linter.unusedSimpArgs false
namespace Go.Proofs.YthgdchffeigkbaaGreatDoor
set_option maxHeartbeats 8000000
set_option maxRecDepth 100000
section
open Go.ChangeShapes Go.WideShapes Go.ChangeAt Go.RowKit
attribute [local go_sem ↓] execOp_call_val
attribute [local go_sem] callVal_func setCell_drewN alloc_drewN sEq_walk
theorem rgt_qsz {n:Nat} {x:Net} {ms:List Mi} {i:Nat} (hi:i<n):∀ {k:Nat},(∀ t,t<k→qsz (mdvF x ms t*vf ((rowsR x ms).getD t []) i)≤3000)→qsz (vf (rgtR n x ms k) i)≤3001*k+2
 | 0,h=>by
  rw [rgtR_vf hi];exact qsz_whole 0 (by decide) (by decide)
 | k+1,h=>by
  have ih:=rgt_qsz hi (k:=k) (fun t ht=>h t (by omega));rw [rgtR_vf hi] at ih ⊢;simp only [sumTo];have h1:=add_qsz (sumTo k fun t=>mdvF x ms t*vf ((rowsR x ms).getD t []) i) (mdvF x ms k*vf ((rowsR x ms).getD k []) i);have h2:=h k (by omega);omega
def RtQ (q:Rat):Value→World→Prop:=fun v w=>∃ r:Rv,v=.agg #[.bool r.b1,.slice r.A r.n r.c,.bool r.b2,.slice r.A2 r.m r.d]∧RtV w w.heap.size q r
theorem RtQ.up {q:Rat} {v:Value} {w w':World} (h:RtQ q v w) (hb:Below w.heap.size w w'):RtQ q v w':=by
 obtain ⟨r,e,h1⟩:=h;exact ⟨r,e,h1.up hb⟩
def FitF (x:Net) (ms:List Mi) (B0:Nat) (w':World) (fv:Value):Prop:=∃ (g:Nat) (m:ModH) (y:Value) (A:Option Addr) (c gi:Nat) (ga:Nat) (B:Option Addr) (d:Nat),fv=.agg #[.pointer (some ⟨g,0,none⟩),.slice A ms.length c,.slice (some ⟨gi,0,none⟩) (freeL x).length (freeL x).length,.slice (some ⟨ga,0,none⟩) (busN x) (busN x),.slice B ms.length d]∧((∀ b off,A=some ⟨b,off,none⟩→B0≤b)∧B0≤gi)∧Blk w' g 122 (m.cells y)∧RdMod w' w'.heap.size m x∧RdM w' w'.heap.size A ms.length (rowsR x ms)∧RdM w' w'.heap.size (some ⟨gi,0,none⟩) (freeL x).length (invL (gainR (freeL x).length (rowsR x ms) ms))∧RdQ w' w'.heap.size (some ⟨ga,0,none⟩) (busN x) (estR x ms)∧RdQ w' w'.heap.size B ms.length (residR x ms (estR x ms))
theorem FitF.up {x:Net} {ms:List Mi} {B0:Nat} {w w':World} {fv:Value} (h:FitF x ms B0 w fv) (hb:Below w.heap.size w w'):FitF x ms B0 w' fv:=by
 obtain ⟨g,m,y,A,c,gi,ga,B,d,e,h0,h1,h2,h3,h4,h5,h6⟩:=h;exact ⟨g,m,y,A,c,gi,ga,B,d,e,h0,h1.bl hb,h2.up hb,h3.up hb,h4.up hb,(h5.below hb lR).more hb.size,(h6.below hb lR).more hb.size⟩
theorem FitF.unP {x:Net} {ms:List Mi} {B0 gp:Nat} {w w':World} {fv:Value} (h:FitF x ms B0 w fv) (u:UnP gp w w') (hg:gp<B0):FitF x ms B0 w' fv:=by
 obtain ⟨g,m,y,A,c,gi,ga,B,d,e,h0,h1,h2,h3,h4,h5,h6⟩:=h;exact ⟨g,m,y,A,c,gi,ga,B,d,e,h0,u.blk h1 (by decide),h2.unP u,u.mat h3 (fun b off e=>by have:=h0.1 b off e;omega),u.mat h4 (fun b off e=>by injection e with e;injection e with e1 e2;have:=h0.2;omega),u.row h5,u.row h6⟩
theorem FitF.low {x:Net} {ms:List Mi} {B0 B1:Nat} {w:World} {fv:Value} (h:FitF x ms B0 w fv) (hB:B1≤B0):FitF x ms B1 w fv:=by
 obtain ⟨g,m,y,A,c,gi,ga,B,d,e,h0,h1⟩:=h;exact ⟨g,m,y,A,c,gi,ga,B,d,e,⟨fun b off e=>zI_ hB (h0.1 b off e),zI_ hB h0.2⟩,h1⟩
def EstP (x:Net) (ms:List Mi) (w:World) (e:Ending) (w':World):Prop:=
 Below w.heap.size w w'∧((¬EReg x ms∧∃ (g:Nat) (A:Option Addr) (c:Nat),e=.returned (.tuple #[.agg #[.pointer (some ⟨g,0,none⟩),.slice A ms.length c,.slice none 0 0,.slice none 0 0,.slice none 0 0],.bool false]))∨
  (EReg x ms∧∃ fv,e=.returned (.tuple #[fv,.bool true])∧FitF x ms w.heap.size w' fv))
theorem est_any (h:NetH) (x:Net) (ok:NetOk x) (h8:x.nodes.length≤8) (A:Option Addr) (n c:Nat) (ms:List Mi) (w:World) (r:RdNet w w.heap.size h x) (hm:RdMi w w.heap.size A n ms) (hn:n≤64) (hok:∀ m∈ms,MiOk x m) (hv:∀ m∈ms,ratCk m.txt.data.toList=0) (hwt:∀ m∈ms,1≤m.wt∧m.wt≤1000) :
    Calls Tryz.prog 77 #[.agg h.cells,.slice A n c] w (EstP x ms w):=by
 have Q0:Below w.heap.size w ((w.alloc (.cells h.cells 29)).alloc (.cells #[.pointer none,.slice none 0 0,.slice none 0 0,.slice none 0 0,.slice none 0 0] 95)):=(bA).alloc (by simp) _;have HW:=lH Q0;have P0:=lH ((Blk.new w 29 h.cells).alloc (.cells #[.pointer none,.slice none 0 0,.slice none 0 0,.slice none 0 0,.slice none 0 0] 95));have P4:Hid (Blk ((w.alloc (.cells h.cells 29)).alloc (.cells #[.pointer none,.slice none 0 0,.slice none 0 0,.slice none 0 0,.slice none 0 0] 95)) (w.heap.size+1) 95 #[.pointer none,.slice none 0 0,.slice none 0 0,.slice none 0 0,.slice none 0 0]):=lH (Blk.new_ (by simp));have HX:=lH (r.up Q0);have HM:=lH (hm.bm Q0);have hml:=hm.1;subst hml;have HOK:=lH ok;have HMK:=lH hok;have HV:=lH hv;have HWT:=lH hwt;have HMDV:Hid (∀ m∈ms,qsz (mdvR x m)≤2600):=lH fun m hm=>by
  have h0:=formR_ok HOK.o (HMK.o m hm);have h1:=fits_qsz (valid_fits (HV.o m hm));have h2:=sub_qsz (qOf m.txt) (formR x m).2;have h3:=h0.fr;have h4:=qsz_whole m.wt (by have:=HWT.o m hm;omega) (by have:=HWT.o m hm;omega);have h5:=mul_qsz (m.wt:Rat) (qOf m.txt-(formR x m).2);unfold mdvR;omega
 clear Q0 hm r hok ok hv hwt;obtain ⟨D0,r0,s0,D1,r1,s1,D2,r2,s2,D3,r3,s3,D4,r4,s4,D5,r5,s5⟩:=h;go_enter Tryz.func77,Tryz.ntmps77
 go_upto_region 1 with fail
 have HSZ:Hid (((w.alloc (.cells (NetH.cells ⟨D0,r0,s0,D1,r1,s1,D2,r2,s2,D3,r3,s3,D4,r4,s4,D5,r5,s5⟩) 29)).alloc (.cells #[.pointer none,.slice none 0 0,.slice none 0 0,.slice none 0 0,.slice none 0 0] 95)).heap.size=w.heap.size+1+1):=lH (by simp);generalize (w.alloc (.cells (NetH.cells ⟨D0,r0,s0,D1,r1,s1,D2,r2,s2,D3,r3,s3,D4,r4,s4,D5,r5,s5⟩) 29)).alloc (.cells #[.pointer none,.slice none 0 0,.slice none 0 0,.slice none 0 0,.slice none 0 0] 95)=W at *;obtain ⟨y0,y1,y2,y3,y4,y5,nf,nlt⟩:=net_box P0.o;dsimp only at y0 y1 y2 y3 y4 y5
 go_wp2_with fail
 refine (flowOf_any _ x HOK.o h8 W HX.o).mono ?_;clear y0 y1 y2 y3 y4 y5 nf nlt;rintro e w2 ⟨hb2,g,m,A7,n7,c7,rfl,hg,hblk,hrd,-⟩;have HB2:=lH hb2;have HG:=lH hblk;have HR:=lH hrd;have HN6:Hid ((freeL x).length=m.n6):=lH (by rw [←natJ_len];exact hrd.r6.len);have HGW:=lH hg;clear hb2 hg hblk hrd
 go_upto_region 2 with fail
 generalize hwb:w2.alloc (.cells #[.pointer (some ⟨g,0,none⟩),.slice none 0 0,.slice none 0 0,.slice none 0 0,.slice none 0 0] 95)=wb;have hbb:Below w2.heap.size w2 wb:=by rw [←hwb];exact bA
 have HF:Hid (Blk wb w2.heap.size 95 #[.pointer (some ⟨g,0,none⟩),.slice none 0 0,.slice none 0 0,.slice none 0 0,.slice none 0 0]):=lH (by rw [←hwb];exact Blk.new w2 _ _);have HL:=lH hbb;have HGL:Hid (g<w2.heap.size):=lH HG.o.lt;have HWF:Hid (W.heap.size≤w2.heap.size):=lH HB2.o.size;clear hwb hbb;generalize hgf:w2.heap.size=gf at *;have HGF:=lH hgf;clear hgf;have HLW:Hid (∀ wr,Below gf w2 wr→Below W.heap.size W wr):=lH fun wr hb=>HB2.o.trans (hb.mono HWF.o);have HBW:=lH (HLW.o _ HL.o);have P0w:=P0.o.bl HBW.o;obtain ⟨y0,y1,y2,y3,y4,y5,nf,nlt⟩:=net_box P0w;dsimp only at y0 y1 y2 y3 y4 y5;have f0:=HF.o.cell 0;have f1:=HF.o.cell 1;have fl:=HF.o.lt;have ff:=HF.o.frozen;clear P0w
 go_wp2_with fail
 refine (orowsO_any _ x HOK.o h8 g m (.slice A7 n7 c7) A ms.length c ms wb (HX.o.up HBW.o) (HG.o.below HL.o HGL.o) ((HR.o.below HL.o lR).more (zQ_ fl)) (HM.o.bm HBW.o) hn HMK.o).mono ?_;clear y0 y1 y2 y3 y4 y5 nf nlt f0 f1 fl ff;rintro e w3 ⟨hb3,RA,rc,rh,rb0,rfl,hrb,hrs,hrc,hrm⟩;have HF3:=lH (HF.o.bl hb3);have HL3:=lH (HL.o.trans (hb3.mono (zQ_ HF.o.lt)));have HRS:=lH hrs;have HRC:=lH hrc;have HRB:Hid (w.heap.size≤rb0):=lH (by have h1:=hrb;have h2:=HF.o.lt;have h3:=HWF.o;have h4:=HSZ.o;omega);clear hb3 hrb hrs hrc hrm HF HL HBW;have f0:=HF3.o.cell 0;have f1:=HF3.o.cell 1;have fl:=HF3.o.lt;have ff:=HF3.o.frozen;have HN1:Hid (busN x=m.n1):=lH (by rw [←islR_len HOK.o];exact HR.o.r1.len);obtain ⟨A0,n0,c0,A1,n1,c1,A2,n2,c2,A3,n3,c3,A4,n4,c4,A5,n5,c5,A6,n6,c6⟩:=m;dsimp only at HN6 HN1;have hn6:=HN6.o;have hn1:=HN1.o;subst hn6;subst hn1
 go_upto_region 3 with fail
 generalize hwc:w3.setCell ⟨gf,1,none⟩ (.slice RA ms.length rc)=wc;have HF4:Hid (Blk wc gf 95 #[.pointer (some ⟨g,0,none⟩),.slice RA ms.length rc,.slice none 0 0,.slice none 0 0,.slice none 0 0]):=lH (by rw [←hwc];exact HF3.o.set_ 1 _);have HL4:Hid (Below gf w2 wc):=lH (by rw [←hwc];exact HL3.o.setCell lR _);have HRS4:Hid (RowsS wc rb0 (.slice RA ms.length rc) rh (rowsR x ms)):=lH (by rw [←hwc];exact HRS.o.far HF3.o (by decide) (by decide) rfl slice_ni);clear hwc HF3 HL3 HRS f0 f1 fl ff;have HGc:=HG.o.below HL4.o HGL.o;have g6:wc.cell? ⟨g,6,none⟩=some (.slice A6 (freeL x).length c6):=HGc.cell 6;have gl:=HGc.lt;have f0:=HF4.o.cell 0;have f1:=HF4.o.cell 1;have fl:=HF4.o.lt;clear HGc;have HBW:=lH (HLW.o _ HL4.o);have HRO:=lH (rowsR_ok HOK.o HMK.o);have HRM:Hid (RdM wc wc.heap.size RA ms.length (rowsR x ms)):=lH (by
  obtain ⟨A',c',e,h,-⟩:=HRS4.o.rd;injection e with e1 e2 e3;have hl:(rowsR x ms).length=ms.length:=by unfold rowsR;rw [zG_]
  rw [hl] at h;rw [e1];exact h)
 have HF8:Hid ((freeL x).length≤8):=lH (freeL_len HOK.o h8)
 go_wp2_with fail
 refine (gain_any RA A ms.length rc c (freeL x).length (rowsR x ms) ms wc HRM.o (HM.o.bm HBW.o) HRO.o.1 HRO.o.2 HWT.o HF8.o hn).mono ?_;rintro e w5 ⟨hb5,gg,G,rfl,hG,hGo,hGe⟩;have hE:=gain_eq hGo hGe;subst hE;have HF5:=lH (HF4.o.below hb5 fl);have HL5:=lH (HL4.o.trans (hb5.mono (zQ_ fl)));have HRS5:=lH (HRS4.o.keep hb5);have HGO:Hid (AdmOk (freeL x).length (3+606*ms.length) (gainR (freeL x).length (rowsR x ms) ms)):=lH (by
  have hl:(rowsR x ms).length=ms.length:=by unfold rowsR;rw [zG_]
  rw [hl] at hGo;exact hGo)
 have HGM:=lH hG;have HZ4:Hid (4^(freeL x).length*(3+606*ms.length)≤2600000000):=lH (by
  have h1:4^(freeL x).length≤4^8:=Nat.pow_le_pow_right (by decide) HF8.o;have h2:=Nat.mul_le_mul h1 (show 3+606*ms.length≤38787 by omega);omega)
 clear hb5 hG hGo hGe HF4 HL4 HRS4 HRM HBW f0 f1 fl g6 gl
 go_wp2_with fail
 refine (inverse_m (some ⟨gg,0,none⟩) (freeL x).length (freeL x).length (3+606*ms.length) (gainR (freeL x).length (rowsR x ms) ms) w5 HGM.o (by have:=HF8.o;omega) HGO.o.wid HGO.o.bd (by omega) (zI_ HZ4.o (by decide))).mono ?_;rintro e w6 ⟨hb6,hcase⟩;have HF:=lH (HF5.o.bl hb6);have HL:=lH (HL5.o.trans (hb6.mono (zQ_ HF5.o.lt)));have HRS:=lH (HRS5.o.keep hb6);have HF5L:Hid (gf<w5.heap.size):=lH HF5.o.lt;clear hb6 HF5 HL5 HRS5 HGM;rcases hcase with ⟨hreg,rfl⟩ | ⟨hreg,gi,he,hgi,hinv⟩
 ·have HNR:Hid (¬EReg x ms):=lH (fun h=>h hreg)
  clear hreg;have f0:=HF.o.cell 0;have f1:=HF.o.cell 1;have f2:=HF.o.cell 2;have f3:=HF.o.cell 3;have f4:=HF.o.cell 4;have fl:=HF.o.lt;have P6:=lH (P4.o.below (HLW.o _ HL.o) P4.o.lt);have z0:=P6.o.cell 0;have z1:=P6.o.cell 1;have z2:=P6.o.cell 2;have z3:=P6.o.cell 3;have z4:=P6.o.cell 4;have zl:=P6.o.lt;have zf:=P6.o.frozen
  go_wp2_with fail
  have hq:=fit_put (v0:=.pointer (some ⟨g,0,none⟩)) (v1:=.slice RA ms.length rc) (v2:=.slice none 0 0) (v3:=.slice none 0 0) (v4:=.slice none 0 0) P6.o;have p0:=hq.cell 0;have p1:=hq.cell 1;have p2:=hq.cell 2;have p3:=hq.cell 3;have p4:=hq.cell 4;exact bodyPost_ret (v:=.tuple #[.agg #[.pointer (some ⟨g,0,none⟩),.slice RA ms.length rc,.slice none 0 0,.slice none 0 0,.slice none 0 0],.bool false]) (by simp [results,Tryz.results77,go_sem,p0,p1,p2,p3,p4]) rfl ⟨below_fit (HW.o.trans ((HLW.o _ HL.o).mono (by have:=HSZ.o;omega))) (Nat.le_succ _),.inl ⟨HNR.o,_,_,_,rfl⟩⟩
 ·have HER:Hid (EReg x ms):=lH hreg
  rw [gainR_len] at he;subst he;have HINV:Hid (RdM w6 w6.heap.size (some ⟨gi,0,none⟩) (freeL x).length (invL (gainR (freeL x).length (rowsR x ms) ms))):=lH (by
   have h:=hinv;rw [show (gainR (freeL x).length (rowsR x ms) ms).length=(freeL x).length from gainR_len] at h;unfold invL;rw [show (gainR (freeL x).length (rowsR x ms) ms).length=(freeL x).length from gainR_len];exact h)
  have HGI:Hid (gf<gi):=lH (by have:=HF5L.o;omega);clear hreg hinv hgi;have f0:=HF.o.cell 0;have fl:=HF.o.lt;have ff:=HF.o.frozen;have f2:=HF.o.cell 2
  go_upto_region 8 with fail
  generalize hwc:w6.setCell ⟨gf,2,none⟩ (.slice (some ⟨gi,0,none⟩) (freeL x).length (freeL x).length)=wA;have HFA:Hid (Blk wA gf 95 #[.pointer (some ⟨g,0,none⟩),.slice RA ms.length rc,.slice (some ⟨gi,0,none⟩) (freeL x).length (freeL x).length,.slice none 0 0,.slice none 0 0]):=lH (by rw [←hwc];exact HF.o.set_ 2 _);have HLA:Hid (Below gf w2 wA):=lH (by rw [←hwc];exact HL.o.setCell lR _);have HRA:Hid (RowsS wA rb0 (.slice RA ms.length rc) rh (rowsR x ms)):=lH (by rw [←hwc];exact HRS.o.far HF.o (by decide) (by decide) rfl slice_ni);have HIA:Hid (RdM wA wA.heap.size (some ⟨gi,0,none⟩) (freeL x).length (invL (gainR (freeL x).length (rowsR x ms) ms))):=lH (by
   rw [←hwc];exact HINV.o.keepB HF.o fit_nob rfl (fun b off e=>by injection e with e;injection e with e1 e2;have:=HGI.o;omega))
  clear hwc HF HL HRS HINV f0 fl ff f2
  go_wp2_with fail
  refine (zeros_any (freeL x).length wA (by have:=HF8.o;omega)).mono ?_;rintro e w7 ⟨hb7,gz,vz,rfl,hgz,hbz,hvz⟩;have HB7:=lH hb7;have HVB:=lH (vb_made hbz hvz);have HGZ:=lH hgz;clear hb7 hbz hvz hgz
  go_wp2_with fail
  have HLQ:Hid (∀ wr,Below wA.heap.size wA wr→Below gf w2 wr):=lH fun wr hb=>HLA.o.trans (hb.mono (zQ_ HFA.o.lt));have HGZ7:Hid (gz<w7.heap.size):=lH HVB.o.lt;have HA7:Hid (wA.heap.size≤w7.heap.size):=lH HB7.o.size
  go_loopw [11,54] (fun v11 v54 wr=>∃ (k:Nat) (fs:List Fh) (vs:List Rv),k≤ms.length∧v54=.int .i64 k∧FormsS wr w7.heap.size (busN x) v11 fs ((ms.map (formR x)).take k)∧Vb wr gz vs (rgtR (freeL x).length x ms k)∧Below wA.heap.size wA wr∧w7.heap.size≤wr.heap.size) (fun _ v54 _=>ms.length-(intOf v54).toNat)
  case atStart=>exact ⟨0,[],_,by omega,rfl,formsS_none _ _ _,by rw [rgtR_zero];exact HVB.o,HB7.o,lR⟩
  case round=>
   clear HVB HB7;obtain ⟨k,fs,vs,hk,rfl,hfs,hvb,hb,hsz⟩:=hrel;have HFS:=lH hfs;have HVB:=lH hvb;have HB:=lH hb;have HS7:=lH hsz;clear hfs hvb hb hsz
   by_cases hlt:k<ms.length
   ·obtain ⟨mi,hmi⟩:∃ mi,ms[k]?=some mi:=⟨_,zA_ hlt⟩
    have HTK:Hid ((ms.map (formR x)).take (k+1)=(ms.map (formR x)).take k++[formR x mi]):=lH (take_at (by rw [zM_,hmi];rfl));have HMO:=lH (HMK.o mi (zC_ hmi));have HMI:=lH hmi;have HBW:=lH (HLW.o _ (HLQ.o _ HB.o));have hmm:=(HM.o.below HBW.o lR).more HBW.o.size;have hmm2:=hmm.2.2 (by omega);obtain ⟨ab,ao,hA,hab,-⟩:=hmm2;subst hA;obtain ⟨a0,a1,a2,a3⟩:=hmm.at_ hmi;have hkI:(k:Int)<(ms.length:Int):=by omega
    have hk0:=lZ k
    have hkn:=zL_ k;have HNX:=lN k;have HNM:Hid (ms.length-(k+1)<ms.length-k):=lH (by omega);have HOB0:Hid (∀ q,u11.ownBlock=some q→q<wr.heap.size):=lH fun q hq=>(HFS.o.own.lt hq).2;clear hmi hmm
    go_upto_region 13 with fail
    clear a0 a1 a2 a3 hab hkI hk0 hkn;have hz:Below wr.heap.size wr (wr.alloc (.cells #[.int .i64 mi.kind,.string mi.name,.string mi.txt,.int .i64 mi.wt] 57)):=bA;have HMB:=lH (Blk.new wr 57 #[.int .i64 mi.kind,.string mi.name,.string mi.txt,.int .i64 mi.wt]);replace HFS:=lH (HFS.o.keep hz);replace HVB:=lH (HVB.o.up hz);replace HB:=lH (HB.o.tm hz);replace HS7:Hid (w7.heap.size≤wr.heap.size+1):=lH (Nat.le_succ_of_le HS7.o);have HSA:Hid ((wr.alloc (.cells #[.int .i64 mi.kind,.string mi.name,.string mi.txt,.int .i64 mi.wt] 57)).heap.size=wr.heap.size+1):=lH (by simp);clear hz HBW;generalize wr.alloc (.cells #[.int .i64 mi.kind,.string mi.name,.string mi.txt,.int .i64 mi.wt] 57)=wa at *;generalize hgm:wr.heap.size=gm at *;clear hgm;have HBW:=lH (HLW.o _ (HLQ.o _ HB.o));have P0w:=P0.o.bl HBW.o
    obtain ⟨y0,y1,y2,y3,y4,y5,nf,nlt⟩:=net_box P0w;dsimp only at y0 y1 y2 y3 y4 y5;have x0:=HMB.o.cell 0;have x1:=HMB.o.cell 1;have x2:=HMB.o.cell 2;have x3:=HMB.o.cell 3;have xl:=HMB.o.lt;have HFa:=lH (HFA.o.bl HB.o);have f0:=HFa.o.cell 0;have fl:=HFa.o.lt;clear P0w;have HLR:=lH (HLQ.o _ HB.o)
    go_wp2_with fail
    refine (formO_any _ x HOK.o h8 g ⟨A0,n0,c0,A1,busN x,c1,A2,n2,c2,A3,n3,c3,A4,n4,c4,A5,n5,c5,A6,(freeL x).length,c6⟩ (.slice A7 n7 c7) mi wa (HX.o.up HBW.o) (HG.o.below HLR.o HGL.o) ((HR.o.below HLR.o lR).more (by rw [←HGF.o];exact HLR.o.size)) HMO.o.1 HMO.o.2).mono ?_;rintro e w8 ⟨hb8,gc,u,rfl,hgc,hvc,hu⟩;clear y0 y1 y2 y3 y4 y5 nf nlt x0 x1 x2 x3 xl f0 fl HFa HBW HLR;have HFM:=lH (formR_ok HOK.o HMO.o);have HF8s:=lH (HFS.o.keep hb8);have HV8:=lH (HVB.o.up hb8);have HB8:=lH (HB.o.tm hb8);have HM8:=lH (HMB.o.bl hb8);have HC8:Hid (w7.heap.size≤gc):=lH (by have:=HS7.o;have:=HSA.o;omega);have HVC:=lH hvc;have HU:=lH hu;have HS8:Hid (w7.heap.size≤w8.heap.size):=lH (by have:=HS7.o;have:=HSA.o;have:=hb8.size;omega);have HGM8:Hid (gm<wa.heap.size):=lH HMB.o.lt;have HGO:Hid (gm<w8.heap.size):=lH (zJ_ HMB.o.lt hb8.size)
    have HOB:Hid (∀ q,u11.ownBlock=some q→q<gm):=lH fun q hq=>HOB0.o q hq;clear hb8 hgc hvc hu HFS HVB HB HMB HS7
    go_upto_region 14 with fail
    have hz:Below w8.heap.size w8 (w8.alloc (.cells #[.slice (some ⟨gc,0,none⟩) (busN x) (busN x),.bool u.b1,.slice u.A u.n u.c,.bool u.b2,.slice u.A2 u.m u.d] 117)):=bA;have HFB:=lH (Blk.new w8 117 #[.slice (some ⟨gc,0,none⟩) (busN x) (busN x),.bool u.b1,.slice u.A u.n u.c,.bool u.b2,.slice u.A2 u.m u.d]);have HF9:=lH (HF8s.o.keep hz);have HV9:=lH (HV8.o.up hz);have HB9:=lH (HB8.o.tm hz);have HM9:=lH (HM8.o.bl hz);have HU9:=lH (HU.o.up hz);have HC9:Hid (∃ vs,Vb (w8.alloc (.cells #[.slice (some ⟨gc,0,none⟩) (busN x) (busN x),.bool u.b1,.slice u.A u.n u.c,.bool u.b2,.slice u.A2 u.m u.d] 117)) gc vs (formR x mi).1):=lH (by obtain ⟨vs,h⟩:=HVC.o;exact ⟨vs,h.up hz⟩);have HS9:Hid (w7.heap.size≤w8.heap.size+1):=lH (Nat.le_succ_of_le HS8.o)
    have HSZ9:Hid ((w8.alloc (.cells #[.slice (some ⟨gc,0,none⟩) (busN x) (busN x),.bool u.b1,.slice u.A u.n u.c,.bool u.b2,.slice u.A2 u.m u.d] 117)).heap.size=w8.heap.size+1):=lH (by simp);clear hz HF8s HV8 HB8 HM8 HU HVC;generalize w8.alloc (.cells #[.slice (some ⟨gc,0,none⟩) (busN x) (busN x),.bool u.b1,.slice u.A u.n u.c,.bool u.b2,.slice u.A2 u.m u.d] 117)=w9 at *;generalize hgo:w8.heap.size=go at *;clear hgo;have b0:=HFB.o.cell 0;have b1:=HFB.o.cell 1;have b2:=HFB.o.cell 2;have b3:=HFB.o.cell 3;have b4:=HFB.o.cell 4;have bl:=HFB.o.lt;have HW9:Hid (w7.heap.size≤w9.heap.size):=lH (by rw [HSZ9.o];exact HS9.o)
    go_wp2_with (at_builtin;refine wpList_appForm rfl (.tmp 64) (.tmp 66) _ rfl w7.heap.size (busN x) Tryz.underlying188 u11 fs _ rfl HF9.o gc u (formR x mi) ⟨HC8.o,HFM.o.len,HC9.o,HU9.o⟩ rfl ?k1 HW9.o ?_)
    case k1=>rw [zF_];omega
    intro v' wb fs' hfs' hkp hob;have hzz:Below w9.heap.size w9 (w9.alloc (.cells #[.slice (some ⟨gc,0,none⟩) (busN x) (busN x),.bool u.b1,.slice u.A u.n u.c,.bool u.b2,.slice u.A2 u.m u.d] 117)):=bA;have HFSb:=lH hfs';have HFBb:=lH (hob go _ _ (fun e=>by have:=HOB.o _ e;have:=HGO.o;omega) HFB.o);have HMBb:=lH (hob gm _ _ (fun e=>by have:=HOB.o _ e;omega) HM9.o);have HVb:=lH ((HV9.o.up hzz).keeps hkp (by decide));have HBb:=lH ((HB9.o.tm hzz).trans (hkp.low.mono HA7.o));have HUb:=lH ((HU9.o.up hzz).keeps hkp);have HSb:Hid (w7.heap.size≤wb.heap.size):=lH (by have:=HW9.o;have:=hzz.size;have:=hkp.size;omega);clear hzz hfs' hkp hob b0 b1 b2 b3 b4 bl HFB HM9 HV9 HB9 HU9 HC9 HF9 HS9 HSZ9 HW9
    go_upto_region 15 with fail
    have m2:=HMBb.o.cell 2;have m3:=HMBb.o.cell 3;have ml:=HMBb.o.lt;have b1:=HFBb.o.cell 1;have b2:=HFBb.o.cell 2;have b3:=HFBb.o.cell 3;have b4:=HFBb.o.cell 4;have bl:=HFBb.o.lt;have HB4:=lH (below_drew (Below.refl wb.heap.size wb));have HWM:=lH (HWT.o mi (zC_ HMI.o));have HVM:=lH (HV.o mi (zC_ HMI.o));have HT1:Hid (qsz (qOf mi.txt)≤2000):=lH (fits_qsz (valid_fits HVM.o));have HT2:Hid (qsz (qOf mi.txt-(formR x mi).2)≤2400):=lH (by have h1:=sub_qsz (qOf mi.txt) (formR x mi).2;have h2:=HFM.o.fr;have h3:=HT1.o;omega);have HT3:Hid (qsz (mi.wt:Rat)≤2):=lH (by have h3:=qsz_whole mi.wt (by have:=HWM.o;omega) (by have:=HWM.o;omega);omega);refine wp_region_last (S:=fun w'=>Below wb.heap.size wb w') 11 _ (by kernel_rfl) (by kernel_rfl) rfl (below_drew bR) (fun hHeld=>?_);simp only [zK_,List.take_zero];refine tkH 0 rfl ?_;refine tkH 1 rfl ?_;refine tkH 3 rfl ?_
    refine tkH 4 rfl ?_;refine tkH 6 rfl ?_;refine tkH 7 rfl ?_;refine relyH (C:=fun s w'=>Below wb.heap.size wb w') (G:=fun w' w''=>Below w'.heap.size w' w'') [(2,RtQ (mi.wt:Rat)),(5,RtQ (qOf mi.txt)),(8,RtQ (qOf mi.txt-(formR x mi).2)),(9,RtQ (mdvR x mi)),(10,NewQ wb.heap.size 115 #[.bool false,.slice none 0 0,.bool false,.slice none 0 0])] rfl (by kernel_rfl) (List.forall_mem_cons.2 ⟨fun _ _ _ h g=>h.up g,List.forall_mem_cons.2 ⟨fun _ _ _ h g=>h.up g,List.forall_mem_cons.2 ⟨fun _ _ _ h g=>h.up g,List.forall_mem_cons.2 ⟨fun _ _ _ h g=>h.up g,List.forall_mem_cons.2 ⟨fun _ _ _ h g=>h.up g,List.forall_mem_nil _⟩⟩⟩⟩⟩) (fun _ _ h=>h) hHeld ?_;refine relyL_cons (i:=2) rfl (fun s w3 hC hn hK=>?_) (fun v2=>?_)
    ·unfold relyOp;go_simp;simp only [relyUpon]
     refine (wholeV mi.wt w3 (by have:=HWM.o;omega) (by have:=HWM.o;omega)).mono ?_;rintro e w4 ⟨hb4,r,rfl,hr⟩;exact ⟨_,rfl,⟨r,rfl,hr⟩,hC.tm hb4,hb4⟩
    try simp only [Act.put,sA_,sB_,sC_]
    refine relyL_cons (i:=5) rfl (fun s w3 hC hn hK=>?_) (fun v5=>?_)
    ·unfold relyOp;go_simp;simp only [relyUpon]
     refine (parseV HVM.o w3).mono ?_;rintro e w4 ⟨hb4,r,rfl,hr⟩;exact ⟨_,rfl,⟨r,rfl,hr⟩,hC.tm hb4,hb4⟩
    try simp only [Act.put,sA_,sB_,sC_]
    refine relyL_cons (i:=8) rfl (fun s w3 hC hn hK=>?_) (fun v8=>?_)
    ·have k5:s 5=some v5∧RtQ (qOf mi.txt) v5 w3:=hK 5 (by kernel_rfl)
     obtain ⟨-,r5,rfl,h5⟩:=k5;unfold relyOp;go_simp;simp only [relyUpon];refine (subV h5 (HUb.o.up hC) (by have:=HT1.o;have:=HFM.o.fr;omega)).mono ?_;rintro e w4 ⟨hb4,r,rfl,hr⟩;exact ⟨_,rfl,⟨r,rfl,hr⟩,hC.tm hb4,hb4⟩
    try simp only [Act.put,sA_,sB_,sC_]
    refine relyL_cons (i:=9) rfl (fun s w3 hC hn hK=>?_) (fun v9=>?_)
    ·have k2:s 2=some v2∧RtQ (mi.wt:Rat) v2 w3:=hK 2 (by kernel_rfl)
     have k8:s 8=some v8∧RtQ (qOf mi.txt-(formR x mi).2) v8 w3:=hK 8 (by kernel_rfl);obtain ⟨-,r2',rfl,h2⟩:=k2;obtain ⟨-,r8,rfl,h8'⟩:=k8;unfold relyOp;go_simp;simp only [relyUpon];refine (mulV h2 h8' (by have:=HT2.o;have:=HT3.o;omega)).mono ?_;rintro e w4 ⟨hb4,r,rfl,hr⟩;exact ⟨_,rfl,⟨r,rfl,hr⟩,hC.tm hb4,hb4⟩
    try simp only [Act.put,sA_,sB_,sC_]
    refine relyL_cons (i:=10) rfl (fun s w3 hC hn hK=>?_) (fun v10=>?_)
    ·unfold relyOp;go_simp;simp only [relyUpon]
     exact ⟨⟨_,rfl,hC.size,Blk.new _ _ _⟩,hC.alloc hC.size _,bA⟩
    try simp only [Act.put,sA_,sB_,sC_]
    refine relyL_nil (fun s wc hC hK=>?_);have k9:s 9=some v9∧RtQ (mdvR x mi) v9 wc:=hK 9;have k10:s 10=some v10∧NewQ wb.heap.size 115 #[.bool false,.slice none 0 0,.bool false,.slice none 0 0] v10 wc:=hK 10;obtain ⟨-,r9,rfl,h9⟩:=k9;obtain ⟨-,gv,rfl,hgv,hbv⟩:=k10;have HBC:=lH hC;have HR9:=lH h9;have HGV:=lH hgv;have HBV:=lH hbv;clear hC hK h9 hgv hbv hHeld;have z0:=HBV.o.cell 0;have z1:=HBV.o.cell 1;have z2:=HBV.o.cell 2;have z3:=HBV.o.cell 3;have zl:=HBV.o.lt;have zf:=HBV.o.frozen;refine lastQ_go (by rfl) ?_
    go_upto_region 16 with fail
    clear z0 z1 z2 z3 zl zf m2 m3 ml b1 b2 b3 b4 bl;have HBX0:=lH (qput (v:=r9) (x:=rv0) HBV.o);have HBD0:=lH (below_putQ (v:=r9) HBC.o HGV.o);have HRX0:=lH (HR9.o.keepq (v:=r9) (x:=rv0) HBV.o);unfold putQ at HBD0 HRX0;generalize (((wc.setCell ⟨gv,0,none⟩ _).setCell ⟨gv,1,none⟩ _).setCell ⟨gv,2,none⟩ _).setCell ⟨gv,3,none⟩ _=wd at *;have HFSd:=lH (HFSb.o.keep HBD0.o);have HVd:=lH (HVb.o.up HBD0.o);have HBd:=lH (HBb.o.tm HBD0.o);have HGVz:Hid (gz<gv):=lH (by have:=HGZ7.o;have:=HSb.o;have:=HGV.o;omega);have HSd:Hid (w7.heap.size≤wd.heap.size):=lH (zI_ HSb.o HBD0.o.size);clear HBC HR9 HGV HBV HFSb HFBb HMBb HVb HBb HUb HSb HB4 HWM HVM HT1 HT2 HT3 HBD0
    go_wp2_with fail
    go_loopw [80] (fun v80 wr=>∃ (i:Nat) (vs:List Rv),i≤(freeL x).length∧v80=.int .i64 i∧FormsS wr w7.heap.size (busN x) v' fs' ((ms.map (formR x)).take k++[formR x mi])∧Vb wr gz vs (rgtP (freeL x).length x ms k i)∧Blk wr gv 115 #[.bool r9.b1,.slice r9.A r9.n r9.c,.bool r9.b2,.slice r9.A2 r9.m r9.d]∧RtV wr wr.heap.size (mdvR x mi) r9∧Below wA.heap.size wA wr∧w7.heap.size≤wr.heap.size) (fun v80 _=>(freeL x).length-(intOf v80).toNat)
    case atStart=>exact ⟨0,_,by omega,rfl,HFSd.o,by rw [rgtP_zero];exact HVd.o,HBX0.o,HRX0.o,HBd.o,HSd.o⟩
    case round=>
     clear HFSd HVd HBX0 HRX0 HBd HSd;obtain ⟨i,vs2,hi,rfl,hfs,hvb,hbx,hrx,hb,hsz⟩:=hrel;have HFS:=lH hfs;have HVB:=lH hvb;have HBX:=lH hbx;have HRX:=lH hrx;have HB:=lH hb;have HSI:=lH hsz;clear hfs hvb hbx hrx hb hsz
     by_cases hin:i<(freeL x).length
     ·have hinI:(i:Int)<((freeL x).length:Int):=by omega
      have HNXi:=lN i;have HNMi:Hid ((freeL x).length-(i+1)<(freeL x).length-i):=lH (by omega)
      go_upto_region 19 with fail
      have hrm:RdM wA wA.heap.size RA ms.length (rowsR x ms):=by
       obtain ⟨A',c',e,h,-⟩:=HRA.o.rd;injection e with e1 e2 e3;have hl:(rowsR x ms).length=ms.length:=by unfold rowsR;rw [zG_]
       rw [hl] at h;rw [e1];exact h
      have hrm2:=(hrm.below HB.o lR).more HB.o.size;obtain ⟨pb,po,hRAe,hpb⟩:=hrm2.form (by omega);subst hRAe;have hrow:(rowsR x ms)[k]?=some (rowR x (formR x mi).1):=by unfold rowsR;rw [zM_,HMI.o];rfl
      obtain ⟨⟨qa,qn,qc⟩,q0,q1,q2,q3⟩:=hrm2.at_ hrow;dsimp only at q0 q1 q2 q3;have hqn:(freeL x).length=qn:=by rw [←q1.len];exact rowR_len.symm
      subst hqn;obtain ⟨eb,eo,hqa,heb⟩:=q1.form (by omega);subst hqa;obtain ⟨ve,e0,e1,e2,e3,e4⟩:=q1.at_ (vf_get (l:=rowR x (formR x mi).1) (i:=i) (by rw [rowR_len];exact hin));obtain ⟨xe,hx,c0,c1',c2',c3',l1,f1⟩:=HVB.o.elem (j:=i) (by rw [rgtP_len hi];exact hin);have HXE:Hid (RtV wr wr.heap.size (vf (rgtR (freeL x).length x ms k) i) xe):=lH (by
       have h:=HVB.o.val (j:=i) (by rw [rgtP_len hi];exact hin) hx;rwa [vf_at (rgtP_at hin)] at h)
      have HVE:=lH e4;have HROW:=lH hrow;have hf1:=(HFA.o.bl HB.o).cell 1;have hfl:=(HFA.o.bl HB.o).lt;have z0:=HBX.o.cell 0;have z1:=HBX.o.cell 1;have z2:=HBX.o.cell 2;have z3:=HBX.o.cell 3;have zl:=HBX.o.lt;have HB4:=lH (below_drew (Below.refl wr.heap.size wr));have hi0:=lZ i
      have hinn:=zL_ i;have hk0:=lZ k
      have hkn:=zL_ k;have hkI:(k:Int)<(ms.length:Int):=by omega
      clear hrm hrm2 hrow q1 q2 q3 e4 hx;refine wp_region_last (S:=fun w'=>Below wr.heap.size wr w') 18 _ (by kernel_rfl) (by kernel_rfl) rfl (below_drew bR) (fun hHeld=>?_);simp only [zK_,List.take_zero];refine tkH 0 rfl ?_;refine tkH 1 rfl ?_;refine tkH 2 rfl ?_;refine tkH 3 rfl ?_;refine tkH 4 rfl ?_;refine tkH 5 rfl ?_;refine tkH 6 rfl ?_;refine tkH 7 rfl ?_;refine tkH 8 rfl ?_;refine tkH 9 rfl ?_;refine tkH 10 rfl ?_;refine tkH 11 rfl ?_;refine tkH 12 rfl ?_;refine tkH 13 rfl ?_;refine tkH 14 rfl ?_;refine stepH 15 (by kernel_rfl) rfl (fun K hK=>?_);have HS0:Hid (∀ t,t<ms.length→qsz (mdvF x ms t*vf ((rowsR x ms).getD t []) i)≤3000):=lH fun t ht=>by
       obtain ⟨m2,hm2⟩:∃ m2,ms[t]?=some m2:=⟨_,zA_ ht⟩;have h1:=HMDV.o m2 (zC_ hm2);have h2:(rowsR x ms)[t]?=some (rowR x (formR x m2).1):=by unfold rowsR;rw [zM_,hm2];rfl
       have h3:=HRO.o.2 _ (zC_ h2) _ (zC_ (vf_get (l:=rowR x (formR x m2).1) (i:=i) (by rw [rowR_len];exact hin)));rw [devF_at hm2,zD_,h2];have h4:=mul_qsz (mdvR x m2) (vf (rowR x (formR x m2).1) i);show qsz (mdvR x m2*vf (rowR x (formR x m2).1) i)≤3000;omega
      have HS1:Hid (qsz (mdvR x mi)+qsz (vf (rowR x (formR x mi).1) i)+1≤3000):=lH (by
       have h1:=HMDV.o mi (zC_ HMI.o);have h3:=HRO.o.2 _ (zC_ HROW.o) _ (zC_ (vf_get (l:=rowR x (formR x mi).1) (i:=i) (by rw [rowR_len];exact hin)));omega)
      have HS2:Hid (qsz (vf (rgtR (freeL x).length x ms k) i)+qsz (mdvR x mi*vf (rowR x (formR x mi).1) i)+1≤35184372088832):=lH (by
       have h1:=rgt_qsz hin (k:=k) (fun t ht=>HS0.o t (by omega));have h2:=mul_qsz (mdvR x mi) (vf (rowR x (formR x mi).1) i);have h3:=HS1.o;omega)
      go_simp;refine (mulV (HRX.o.up HB4.o) (HVE.o.up HB4.o) (zI_ HS1.o (by decide))).mono ?_;rintro e w8 ⟨hb8,v8,rfl,h8⟩;have HB8:Hid (Below wr.heap.size wr w8):=lH (HB4.o.tm hb8);have H8:=lH h8;clear hb8 h8;go_simp;refine hK.out _ _ ?_ (fun hHeld=>?_)
      ·exact HB8.o
      clear hK K
      try simp only [Act.put,sA_,sB_,sC_]
      refine stepH 16 (by kernel_rfl) rfl (fun K hK=>?_);go_simp;refine (addV (HXE.o.up HB8.o) H8.o HS2.o).mono ?_;rintro e wq ⟨hbq,vq,rfl,hq⟩;have HBQ:Hid (Below wr.heap.size wr wq):=lH (HB8.o.tm hbq);have HVQ:=lH hq;clear hbq hq;go_simp;refine hK.out _ _ ?_ (fun hHeld=>?_)
      ·exact HBQ.o
      clear hK K
      try simp only [Act.put,sA_,sB_,sC_]
      refine tkH 17 rfl ?_;refine wpAnyH_done (by kernel_rfl) ?_ _;refine lastQ_go (by rfl) ?_;clear hHeld;have HVBq:=lH (HVB.o.up HBQ.o);have HFSq:=lH (HFS.o.keep HBQ.o);have HBXq:=lH (HBX.o.bl HBQ.o);have HRXq:=lH (HRX.o.up HBQ.o);have HBq:=lH (HB.o.tm HBQ.o);have HSq:Hid (w7.heap.size≤wq.heap.size):=lH (zI_ HSI.o HBQ.o.size);clear c0 c1' c2' c3' l1 f1 z0 z1 z2 z3 zl hf1 hfl q0 e0 e1 e2 e3 hpb heb HVE HXE HB4 HB8 H8 HS1 HS2 HS0 HFS HVB HBX HRX HB HSI;obtain ⟨xe',hx',c0,c1',c2',c3',l1,f1⟩:=HVBq.o.elem (j:=i) (by rw [rgtP_len hi];exact hin);have hn8:(freeL x).length≤8:=HF8.o
      go_wp2_with fail
      go_roundw
      case rel=>exact ⟨i+1,_,hin,val_int HNXi.o,HFSq.o.far HVBq.o (x:=vq) (by rw [rgtP_len hi];exact hin) HGZ7.o,by
       have h:=HVBq.o.put (j:=i) (x:=vq) (by rw [rgtP_len hi];exact hin) HVQ.o;rw [←devF_at HMI.o,rgtP_set hin HROW.o] at h;exact h,HBXq.o.far4 vq (by have:=HGVz.o;omega),HVBq.o.keep (by rw [rgtP_len hi];exact hin) HRXq.o,below_putV HBq.o HGZ.o,zI_ HSq.o (Nat.le_of_eq (putV_size wq gz i vq).symm)⟩
      case measure=>exact HNMi.o
     ·have hie:i=(freeL x).length:=by omega
      have hinI:¬(i:Int)<((freeL x).length:Int):=by omega
      have HVE:Hid (Vb wr gz vs2 (rgtR (freeL x).length x ms (k+1))):=lH (by
       have h:=HVB.o;rw [hie,rgtP_end] at h;exact h)
      clear HVB hie
      go_wp2_with fail
      go_roundw
      case rel=>exact ⟨k+1,fs',vs2,hlt,val_int HNX.o,by rw [HTK.o];exact HFS.o,HVE.o,HB.o,HSI.o⟩
      case measure=>exact HNM.o
   ·obtain ⟨wl,rfl⟩:∃ z,z=wr:=⟨wr,rfl⟩
    have hke:k=ms.length:=by omega
    subst hke;have hkI:¬((ms.length:Nat):Int)<(ms.length:Int):=by omega
    have HFSe:Hid (FormsS wl w7.heap.size (busN x) u11 fs (ms.map (formR x))):=lH (by
     have h:=HFS.o;rw [zH_ (by rw [zG_];exact lR)] at h;exact h)
    have HFr:=lH (HFA.o.bl HB.o);have HIr:Hid (RdM wl wl.heap.size (some ⟨gi,0,none⟩) (freeL x).length (invL (gainR (freeL x).length (rowsR x ms) ms))):=lH (HIA.o.bm HB.o);have HRr:=lH (HRA.o.keep HB.o);have HLr:=lH (HLQ.o _ HB.o);have HQr:Hid (RdQ wl wl.heap.size (some ⟨gz,0,none⟩) (freeL x).length (rgtR (freeL x).length x ms ms.length)):=lH (by
     have h:=HVB.o.rdq;rwa [rgtR_len] at h)
    have HGr:=lH (HG.o.below HLr.o HGL.o);clear HFS HVB HB HS7 HIA HRA HFA HA7 HGZ7 HLQ hk hlt;have f0:=HFr.o.cell 0;have fl:=HFr.o.lt
    go_wp2_with fail
    refine (mbuses_any g ⟨A0,n0,c0,A1,busN x,c1,A2,n2,c2,A3,n3,c3,A4,n4,c4,A5,n5,c5,A6,(freeL x).length,c6⟩ (.slice A7 n7 c7) wl HGr.o).mono ?_;rintro e w10 ⟨rfl,rfl⟩
    go_wp2_with fail
    refine (zeros_any (busN x) wl (by have:=(busN_ok HOK.o).2;omega)).mono ?_;rintro e w11 ⟨hb11,ga,va,rfl,hga,hba,hva⟩;have HVA:=lH (vb_made hba hva);have HGA:=lH hga;have HB11:=lH hb11;have HF11:=lH (HFr.o.bl hb11);clear hb11 hga hba hva f0 fl;have f0:=HF11.o.cell 0;have f3:=HF11.o.cell 3;have fl:=HF11.o.lt;have ff:=HF11.o.frozen
    go_upto_region 23 with fail
    generalize hwe:w11.setCell ⟨gf,3,none⟩ (.slice (some ⟨ga,0,none⟩) (busN x) (busN x))=we;have HFe:Hid (Blk we gf 95 #[.pointer (some ⟨g,0,none⟩),.slice RA ms.length rc,.slice (some ⟨gi,0,none⟩) (freeL x).length (freeL x).length,.slice (some ⟨ga,0,none⟩) (busN x) (busN x),.slice none 0 0]):=lH (by rw [←hwe];exact HF11.o.set_ 3 _);have HMe:Hid (wl.grownBy we (some gf)):=lH (by rw [←hwe];exact only_set 3 _ (only_of _ HB11.o));have HVe:=lH (show Vb we ga _ (zrs (busN x)) by rw [←hwe];exact HVA.o.keepF HF11.o (by decide) rfl slice_ni);have HLe:Hid (Below gf w2 we):=lH (by rw [←hwe];exact (HLr.o.trans (HB11.o.mono (zQ_ HFr.o.lt))).setCell lR _);have HGAl:Hid (ga<we.heap.size):=lH HVe.o.lt;clear hwe f0 f3 fl ff HVA HB11 HF11;have g6:we.cell? ⟨g,6,none⟩=some (.slice A6 (freeL x).length c6):=(HG.o.below HLe.o HGL.o).cell 6;have gl:=(HG.o.below HLe.o HGL.o).lt;have f0:=HFe.o.cell 0
    have fl:=HFe.o.lt
    go_wp2_with fail
    clear g6 gl f0 fl
    go_loopw [114] (fun v114 wq=>∃ (i:Nat) (us:List Rv),i≤(freeL x).length∧v114=.int .i64 i∧Vb wq ga us (layL (freeL x) (estD x ms) (zrs (busN x)) i)∧Blk wq gf 95 #[.pointer (some ⟨g,0,none⟩),.slice RA ms.length rc,.slice (some ⟨gi,0,none⟩) (freeL x).length (freeL x).length,.slice (some ⟨ga,0,none⟩) (busN x) (busN x),.slice none 0 0]∧wl.grownBy wq (some gf)∧Below gf w2 wq∧∀ q∈layL (freeL x) (estD x ms) (zrs (busN x)) i,qsz q≤50000000000) (fun v114 _=>(freeL x).length-(intOf v114).toNat)
    case atStart=>exact ⟨0,_,Nat.zero_le _,rfl,HVe.o,HFe.o,HMe.o,HLe.o,fun q hq=>by rw [List.eq_of_mem_replicate hq];exact zI_ (qsz_whole 0 (by decide) (by decide)) (by decide)⟩
    case round=>
     clear HVe HFe HMe HLe;obtain ⟨i,us,hi,rfl,hv,hf,hm,hl,hqs⟩:=hrel;have HQS3:=lH hqs;have HV3:=lH hv;have HF3:=lH hf;have HM3:=lH hm;have HL3:=lH hl;clear hv hf hm hl hqs
     by_cases hin:i<(freeL x).length
     ·obtain ⟨j,hj⟩:∃ j,(freeL x)[i]?=some j:=⟨_,zA_ hin⟩
      have HJB:Hid (j<busN x):=lH (freeL_lt (zC_ hj));have hjb:=HJB.o;have hr6:=((HR.o.below HL3.o lR).more (by rw [←HGF.o];exact HL3.o.size)).r6;simp only at hr6;obtain ⟨fb,fo,hA6,hfb,-⟩:=hr6.2 (by have:=hr6.len;omega);subst hA6;have f6:=hr6.at_ (natJ_at hj);have HJ:=lH hj;have hiI:(i:Int)<((freeL x).length:Int):=by omega
      have hi0:=lZ i
      have hinn:=zL_ i;have hjI:(j:Int)<(busN x:Int):=by omega
      have hj0:=lZ j
      have hjn:=zL_ j;have HNXi:=lN i;have HNMi:Hid ((freeL x).length-(i+1)<(freeL x).length-i):=lH (by omega);clear hr6 hj
      go_upto_region 26 with fail
      clear f6 hfb;have hU:=un_fit HFr.o HF3.o (i:=3) rfl rfl fit_nob HM3.o;have hqi:=hU.mat HIr.o (fun b off e=>by injection e with e;injection e with e1 e2;have:=HGI.o;omega);have HQR:=lH (hU.row HQr.o);obtain ⟨row,hrow⟩:∃ row,(invL (gainR (freeL x).length (rowsR x ms) ms))[i]?=some row:=zX_ (by rw [hqi.len];exact hin);obtain ⟨⟨qa,qn,qc⟩,q0,q1,q2,q3⟩:=hqi.at_ hrow;dsimp only at q0 q1 q2 q3;rw [Nat.zero_add] at q0;have hqb:gi<wr.heap.size:=World.block_lt_of_cell? wr ⟨gi,i,none⟩ q0;have HBI:Hid (∀ q∈row,qsz q≤2600000000):=lH fun q hq=>by
       have h:=inv_bd (M:=gainR (freeL x).length (rowsR x ms) ms) (by rw [gainR_len];exact HGO.o.wid) HGO.o.bd (by omega) row (zC_ hrow) q hq;rw [gainR_len] at h;exact zI_ (Nat.le_of_succ_le h) HZ4.o
      have hrl:row.length=(freeL x).length:=by
       have h:=(invL_len (M:=gainR (freeL x).length (rowsR x ms) ms) (by rw [gainR_len];exact HGO.o.wid)).2 row (zC_ hrow);rwa [gainR_len] at h
      have hqn:(freeL x).length=qn:=by rw [←q1.len];exact hrl.symm
      subst hqn;have HROW:=lH q1;have HED:Hid (dotR row (rgtR (freeL x).length x ms ms.length)=estD x ms i):=lH (by
       unfold estD;rw [zD_,hrow];rfl)
      have HBR:Hid (∀ q∈rgtR (freeL x).length x ms ms.length,qsz q≤2600000000):=lH fun q hq=>by
       obtain ⟨t,ht⟩:=List.mem_iff_getElem?.1 hq;have htl:t<(freeL x).length:=by have:=(zB_.1 ht).1;rwa [rgtR_len] at this
       have h0:∀ u,u<ms.length→qsz (mdvF x ms u*vf ((rowsR x ms).getD u []) t)≤3000:=fun u hu=>by
        obtain ⟨m2,hm2⟩:∃ m2,ms[u]?=some m2:=⟨_,zA_ hu⟩;have h1:=HMDV.o m2 (zC_ hm2);have h2:(rowsR x ms)[u]?=some (rowR x (formR x m2).1):=by unfold rowsR;rw [zM_,hm2];rfl
        have h3:=HRO.o.2 _ (zC_ h2) _ (zC_ (vf_get (l:=rowR x (formR x m2).1) (i:=t) (by rw [rowR_len];exact htl)));rw [devF_at hm2,zD_,h2];have h4:=mul_qsz (mdvR x m2) (vf (rowR x (formR x m2).1) t);show qsz (mdvR x m2*vf (rowR x (formR x m2).1) t)≤3000;omega
       have h5:=rgt_qsz htl (k:=ms.length) h0;rw [vf_at ht] at h5;omega
      have HQSN:Hid (qsz (estD x ms i)≤50000000000):=lH (by
       have h:=dotR_qsz (ys:=rgtR (freeL x).length x ms ms.length) hrl HBI.o HBR.o (freeL x).length lR;rw [zH_ (by rw [List.length_zipWith];omega)] at h;rw [←HED.o];have h8:=HF8.o;unfold dotR;omega)
      have f2:=HF3.o.cell 3;have fl:=HF3.o.lt;have HB4:=lH (below_drew (Below.refl wr.heap.size wr));have hn8:(freeL x).length≤8:=HF8.o;clear hU hqi hrow q1 q2 q3 hrl;refine wp_region_last (S:=fun w'=>Below wr.heap.size wr w') 10 _ (by kernel_rfl) (by kernel_rfl) rfl (below_drew bR) (fun hHeld=>?_);simp only [zK_,List.take_zero];refine tkH 0 rfl ?_;refine tkH 1 rfl ?_;refine tkH 2 rfl ?_;refine tkH 3 rfl ?_;refine tkH 4 rfl ?_;refine tkH 5 rfl ?_;refine tkH 6 rfl ?_;refine tkH 7 rfl ?_;refine stepH 8 (by kernel_rfl) rfl (fun K hK=>?_);go_simp;refine (dot_any qa (freeL x).length qc (some ⟨gz,0,none⟩) (freeL x).length (freeL x).length row (rgtR (freeL x).length x ms ms.length) 2600000000 _ (HROW.o.up HB4.o) (HQR.o.up HB4.o) lR (by omega) HBI.o HBR.o (by omega)).mono ?_;rintro e w8 ⟨hb8,v8,rfl,h8⟩;rw [HED.o] at h8
      have HB8:Hid (Below wr.heap.size wr w8):=lH (HB4.o.tm hb8);have H8:=lH h8;clear hb8 h8;go_simp;refine hK.out _ _ ?_ (fun hHeld=>?_)
      ·exact HB8.o
      clear hK K
      try simp only [Act.put,sA_,sB_,sC_]
      refine tkH 9 rfl ?_;refine wpAnyH_done (by kernel_rfl) ?_ _;refine lastQ_go (by rfl) ?_;clear hHeld;have HVq:=lH (HV3.o.up HB8.o);have HFq:=lH (HF3.o.bl HB8.o);have HMq:=lH (only_up HM3.o HB8.o);have HLq:=lH (HL3.o.trans (HB8.o.mono (zI_ (Nat.le_of_eq HGF.o.symm) HL3.o.size)));have HGGA:Hid (gf<ga):=lH (by have:=HFr.o.lt;have:=HGA.o;omega);clear q0 hqb f2 fl HB4 HBI HBR HROW HED HQR HV3 HF3 HM3 HL3;have hjl:j<(layL (freeL x) (estD x ms) (zrs (busN x)) i).length:=by rw [layL_len];unfold zrs;rw [zO_];exact HJB.o
      obtain ⟨xe',hx',c0,c1',c2',c3',l1,f1⟩:=HVq.o.elem (j:=j) hjl;clear hx';have HJL:=lH hjl;clear hjl
      go_wp2_with fail
      go_roundw
      case rel=>exact ⟨i+1,_,hin,val_int HNXi.o,by
       have h:=HVq.o.put (j:=j) (x:=v8) HJL.o H8.o;have e:layL (freeL x) (estD x ms) (zrs (busN x)) (i+1)=(layL (freeL x) (estD x ms) (zrs (busN x)) i).set j (estD x ms i):=by
        show (layL (freeL x) (estD x ms) (zrs (busN x)) i).set ((freeL x).getD i 0) (estD x ms i)=_;rw [zD_,HJ.o];rfl
       rw [e];exact h,HFq.o.far4 v8 (by have:=HGGA.o;omega),only_putV HMq.o HGA.o,below_putV HLq.o (zQ_ HGGA.o),fun q hq=>by
       have e:layL (freeL x) (estD x ms) (zrs (busN x)) (i+1)=(layL (freeL x) (estD x ms) (zrs (busN x)) i).set ((freeL x).getD i 0) (estD x ms i):=rfl;rw [e] at hq;rcases List.mem_or_eq_of_mem_set hq with h1 | h1
       ·exact HQS3.o q h1
       ·rw [h1];exact HQSN.o⟩
      case measure=>exact HNMi.o
     ·obtain ⟨wm,rfl⟩:∃ z,z=wr:=⟨wr,rfl⟩
      have hie:i=(freeL x).length:=by omega
      have hinI:¬(i:Int)<((freeL x).length:Int):=by omega
      have HQSm:Hid (∀ q∈estR x ms,qsz q≤50000000000):=lH (by have h:=HQS3.o;rw [hie] at h;exact h);have HVm:Hid (Vb wm ga us (estR x ms)):=lH (by have h:=HV3.o;rw [hie] at h;exact h);have hU:=un_fit HFr.o HF3.o (i:=3) rfl rfl fit_nob HM3.o;have HIm:=lH (hU.mat HIr.o (fun b off e=>by injection e with e;injection e with e1 e2;have:=HGI.o;omega));have HRm:=lH (hU.rows HRr.o);have HFSm:=lH (hU.forms HFSe.o);have HGam:Hid (gf<ga):=lH (by have:=HFr.o.lt;have:=HGA.o;omega);clear hU HV3 HM3 HQS3 HIr HRr HFSe HFr HQr hie HGA HGAl HGr HLr HGO HRO HZ4 HMDV
      go_wp2_with fail
      go_loopw [132] (fun v132 wq=>∃ (k:Nat) (cu:Value) (us:List Rv),k≤ms.length∧v132=.int .i64 k∧OwnQ wq wm.heap.size cu us ((residR x ms (estR x ms)).take k)∧Blk wq gf 95 #[.pointer (some ⟨g,0,none⟩),.slice RA ms.length rc,.slice (some ⟨gi,0,none⟩) (freeL x).length (freeL x).length,.slice (some ⟨ga,0,none⟩) (busN x) (busN x),cu]∧wm.grownBy wq (some gf)∧Below gf w2 wq) (fun v132 _=>ms.length-(intOf v132).toNat)
      case atStart=>exact ⟨0,_,[],Nat.zero_le _,rfl,ownQ_none _ _,HF3.o,only_of _ bR,HL3.o⟩
      case round=>
       obtain ⟨k,cu,us,hk,rfl,ho,hf,hm,hl⟩:=hrel;have HML:Hid ((residR x ms (estR x ms)).length=ms.length):=lH (by unfold residR;rw [zG_]);have hlk:us.length=k:=by rw [ho.len,zF_,HML.o];omega
       obtain ⟨cA,cc,hcu,-⟩:=ho.own.shape;rw [hlk] at hcu;subst hcu;have HO:=lH ho;have HF4:=lH hf;have HM4:=lH hm;have HL4:=lH hl;clear ho hf hm hl hlk
       by_cases hlt:k<ms.length
       ·obtain ⟨mi,hmi⟩:∃ mi,ms[k]?=some mi:=⟨_,zA_ hlt⟩
        have HTK:Hid ((residR x ms (estR x ms)).take (k+1)=(residR x ms (estR x ms)).take k++[qOf mi.txt-(dotR (formR x mi).1 (estR x ms)+(formR x mi).2)]):=lH (take_at (by unfold residR;rw [zM_,hmi];rfl));have HMO:=lH (HMK.o mi (zC_ hmi));have HVM:=lH (HV.o mi (zC_ hmi));have HMI:=lH hmi;have HBW:=lH (HLW.o _ HL4.o);have hmm:=(HM.o.below HBW.o lR).more HBW.o.size;have hmm2:=hmm.2.2 (by omega);obtain ⟨ab,ao,hA,hab,-⟩:=hmm2;subst hA;obtain ⟨a0,a1,a2,a3⟩:=hmm.at_ hmi;have hkI:(k:Int)<(ms.length:Int):=by omega
        have hk0:=lZ k
        have hkn:=zL_ k;have HNX:=lN k;have HNM:Hid (ms.length-(k+1)<ms.length-k):=lH (by omega);clear hmi hmm HBW
        go_upto_region 31 with fail
        clear a0 a1 a2 a3 hab;have hz:Below wr.heap.size wr (wr.alloc (.cells #[.int .i64 mi.kind,.string mi.name,.string mi.txt,.int .i64 mi.wt] 57)):=bA;have HMB:=lH (Blk.new wr 57 #[.int .i64 mi.kind,.string mi.name,.string mi.txt,.int .i64 mi.wt]);replace HO:=lH (HO.o.keep hz);have HFa:=lH (HF4.o.bl hz);have HMa:=lH (only_up HM4.o hz);have HLa:=lH (HL4.o.trans (hz.mono (zI_ (Nat.le_of_eq HGF.o.symm) HL4.o.size)));clear hz HF4 HM4 HL4;generalize wr.alloc (.cells #[.int .i64 mi.kind,.string mi.name,.string mi.txt,.int .i64 mi.wt] 57)=wa at *;generalize wr.heap.size=gm at *;have hU:=un_fit HF3.o HFa.o (i:=4) rfl rfl fit_nob HMa.o;have HVa:=lH (hU.vec HVm.o);obtain ⟨fb,fc,fm,hfv,hfl,⟨e0,e1,e2,e3,e4⟩,⟨vs4,hvc⟩,hpl,hu,cur,hcur⟩:=(hU.forms HFSm.o).at_ (k:=k) (p:=formR x mi) (by rw [zM_,HMI.o];rfl);rw [zG_] at hfv
        subst hfv;have HQC:Hid (RdQ wa wa.heap.size (some ⟨fm.gc,0,none⟩) (busN x) (formR x mi).1):=lH (by have h:=hvc.rdq;rwa [hpl] at h);have HUF:=lH hu;have HQE:Hid (RdQ wa wa.heap.size (some ⟨ga,0,none⟩) (busN x) (estR x ms)):=lH (by
         have h:=HVa.o.rdq;rwa [show (estR x ms).length=busN x from by unfold estR;rw [layL_len];exact zO_] at h)
        have HCUR:=lH hcur;have HSS:Hid (∀ w',Blk w' gf 95 #[.pointer (some ⟨g,0,none⟩),.slice RA ms.length rc,.slice (some ⟨gi,0,none⟩) (freeL x).length (freeL x).length,.slice (some ⟨ga,0,none⟩) (busN x) (busN x),.slice cA k cc]→Blk w' gm 57 #[.int .i64 mi.kind,.string mi.name,.string mi.txt,.int .i64 mi.wt]→Blk w' fb 117 cur→(w'.cell? ⟨gf,3,none⟩=some (.slice (some ⟨ga,0,none⟩) (busN x) (busN x))∧w'.cell? ⟨gf,4,none⟩=some (.slice cA k cc)∧w'.cell? ⟨gm,2,none⟩=some (.string mi.txt)∧w'.cell? ⟨fb,k*5,none⟩=some (.slice (some ⟨fm.gc,0,none⟩) (busN x) (busN x))∧w'.cell? ⟨fb,k*5+1,none⟩=some (.bool fm.u.b1)∧w'.cell? ⟨fb,k*5+2,none⟩=some (.slice fm.u.A fm.u.n fm.u.c)∧w'.cell? ⟨fb,k*5+3,none⟩=some (.bool fm.u.b2)∧w'.cell? ⟨fb,k*5+4,none⟩=some (.slice fm.u.A2 fm.u.m fm.u.d))):=lH fun w' q1 q2 q3=>by
         have hc:∀ o,w'.cell? ⟨fb,o,none⟩=wa.cell? ⟨fb,o,none⟩:=fun o=>(q3.cell o).trans (hcur.cell o).symm;exact ⟨q1.cell 3,q1.cell 4,q2.cell 2,(hc _).trans e0,(hc _).trans e1,(hc _).trans e2,(hc _).trans e3,(hc _).trans e4⟩
        have HFM:=lH (formR_ok HOK.o HMO.o);have HT1:Hid (qsz (qOf mi.txt)≤2000):=lH (fits_qsz (valid_fits HVM.o));have HN8:Hid (busN x≤8):=lH (zI_ (busN_ok HOK.o).2 h8);have HSB:Hid (qsz (qOf mi.txt)+qsz (dotR (formR x mi).1 (estR x ms)+(formR x mi).2)+1≤35184372088832):=lH (by
         have h1:=dotR_qsz (ys:=estR x ms) (Z:=50000000000) HFM.o.len (fun q hq=>zI_ (HFM.o.cf q hq) (by decide)) HQSm.o (busN x) lR;rw [zH_ (by rw [List.length_zipWith,HFM.o.len];omega)] at h1;have h2:=add_qsz (dotR (formR x mi).1 (estR x ms)) (formR x mi).2;have h3:=HFM.o.fr;have h4:=HT1.o;have h5:=HN8.o;unfold dotR at h2 ⊢;omega)
        have HGFM:Hid (gf≤wm.heap.size):=lH (zQ_ HF3.o.lt);have HK6:Hid (((residR x ms (estR x ms)).take k).length≤1000000):=lH (by rw [zF_];omega);clear hU hfl e0 e1 e2 e3 e4 hvc hpl hu hcur hkI;refine wp_region_last (S:=fun w'=>(w'.cell? ⟨gf,3,none⟩=some (.slice (some ⟨ga,0,none⟩) (busN x) (busN x))∧w'.cell? ⟨gf,4,none⟩=some (.slice cA k cc)∧w'.cell? ⟨gm,2,none⟩=some (.string mi.txt)∧w'.cell? ⟨fb,k*5,none⟩=some (.slice (some ⟨fm.gc,0,none⟩) (busN x) (busN x))∧w'.cell? ⟨fb,k*5+1,none⟩=some (.bool fm.u.b1)∧w'.cell? ⟨fb,k*5+2,none⟩=some (.slice fm.u.A fm.u.n fm.u.c)∧w'.cell? ⟨fb,k*5+3,none⟩=some (.bool fm.u.b2)∧w'.cell? ⟨fb,k*5+4,none⟩=some (.slice fm.u.A2 fm.u.m fm.u.d))) 16 _ (by kernel_rfl) (by kernel_rfl) rfl (HSS.o _ HFa.o HMB.o HCUR.o) (fun hHeld=>?_);simp only [zK_,List.take_zero];have hkI:(k:Int)<(ms.length:Int):=by omega
        refine takeH 0 (v:=?_) rfl (by kernel_rfl) (fun _ _ _ h=>h) (by rfl) ?_ hHeld ?_;rotate_left 1
        ·intro w' hSw;obtain ⟨s0,s1,s2,s3,s4,s5,s6,s7⟩:=hSw;go_simp<;>with_reducible rfl
        try simp only [Act.put,sA_,sB_,sC_]
        refine takeH 1 (v:=?_) rfl (by kernel_rfl) (fun _ _ _ h=>h) (by rfl) ?_ hHeld ?_;rotate_left 1
        ·intro w' hSw;obtain ⟨s0,s1,s2,s3,s4,s5,s6,s7⟩:=hSw;go_simp<;>with_reducible rfl
        try simp only [Act.put,sA_,sB_,sC_]
        refine takeH 2 (v:=?_) rfl (by kernel_rfl) (fun _ _ _ h=>h) (by rfl) ?_ hHeld ?_;rotate_left 1
        ·intro w' hSw;obtain ⟨s0,s1,s2,s3,s4,s5,s6,s7⟩:=hSw;go_simp<;>with_reducible rfl
        try simp only [Act.put,sA_,sB_,sC_]
        refine takeH 3 (v:=?_) rfl (by kernel_rfl) (fun _ _ _ h=>h) (by rfl) ?_ hHeld ?_;rotate_left 1
        ·intro w' hSw;obtain ⟨s0,s1,s2,s3,s4,s5,s6,s7⟩:=hSw;go_simp<;>with_reducible rfl
        try simp only [Act.put,sA_,sB_,sC_]
        refine takeH 5 (v:=?_) rfl (by kernel_rfl) (fun _ _ _ h=>h) (by rfl) ?_ hHeld ?_;rotate_left 1
        ·intro w' hSw;obtain ⟨s0,s1,s2,s3,s4,s5,s6,s7⟩:=hSw;go_simp<;>with_reducible rfl
        try simp only [Act.put,sA_,sB_,sC_]
        refine takeH 6 (v:=?_) rfl (by kernel_rfl) (fun _ _ _ h=>h) (by rfl) ?_ hHeld ?_;rotate_left 1
        ·intro w' hSw;obtain ⟨s0,s1,s2,s3,s4,s5,s6,s7⟩:=hSw;go_simp<;>with_reducible rfl
        try simp only [Act.put,sA_,sB_,sC_]
        refine takeH 7 (v:=?_) rfl (by kernel_rfl) (fun _ _ _ h=>h) (by rfl) ?_ hHeld ?_;rotate_left 1
        ·intro w' hSw;obtain ⟨s0,s1,s2,s3,s4,s5,s6,s7⟩:=hSw;go_simp<;>with_reducible rfl
        try simp only [Act.put,sA_,sB_,sC_]
        refine takeH 8 (v:=?_) rfl (by kernel_rfl) (fun _ _ _ h=>h) (by rfl) ?_ hHeld ?_;rotate_left 1
        ·intro w' hSw;obtain ⟨s0,s1,s2,s3,s4,s5,s6,s7⟩:=hSw;go_simp<;>with_reducible rfl
        try simp only [Act.put,sA_,sB_,sC_]
        refine takeH 9 (v:=?_) rfl (by kernel_rfl) (fun _ _ _ h=>h) (by rfl) ?_ hHeld ?_;rotate_left 1
        ·intro w' hSw;obtain ⟨s0,s1,s2,s3,s4,s5,s6,s7⟩:=hSw;go_simp<;>with_reducible rfl
        try simp only [Act.put,sA_,sB_,sC_]
        refine takeH 10 (v:=?_) rfl (by kernel_rfl) (fun _ _ _ h=>h) (by rfl) ?_ hHeld ?_;rotate_left 1
        ·intro w' hSw;obtain ⟨s0,s1,s2,s3,s4,s5,s6,s7⟩:=hSw;go_simp<;>with_reducible rfl
        try simp only [Act.put,sA_,sB_,sC_]
        have HV0:=lH (below_drew (Below.refl wa.heap.size wa));generalize wa.drew=v0 at *;refine stepH 4 (by kernel_rfl) rfl (fun K hK=>?_);go_simp;refine (parseV HVM.o v0).mono ?_;rintro e w4 ⟨hb4,r4,rfl,h4⟩;have HB1:Hid (Below wa.heap.size wa w4):=lH (HV0.o.tm hb4);have H4:=lH h4;clear hb4 h4;go_simp;refine hK.out _ _ ?_ (fun hHeld=>?_)
        ·exact HSS.o _ (HFa.o.bl HB1.o) (HMB.o.bl HB1.o) (HCUR.o.bl HB1.o)
        clear hK K
        try simp only [Act.put,sA_,sB_,sC_]
        refine stepH 11 (by kernel_rfl) rfl (fun K hK=>?_);go_simp;refine (fatG_any (some ⟨fm.gc,0,none⟩) (busN x) (busN x) fm.u (formR x mi).1 (formR x mi).2 (some ⟨ga,0,none⟩) (busN x) (busN x) (estR x ms) w4 (HQC.o.up HB1.o) (HUF.o.up HB1.o) (HQE.o.up HB1.o) lR HN8.o (fun p hp=>zI_ (HFM.o.cf p hp) (by decide)) (fun p hp=>zI_ (HQSm.o p hp) (by decide)) (zI_ HFM.o.fr (by decide))).mono ?_;rintro e w5 ⟨hb5,r5,rfl,h5⟩;have HB2:Hid (Below wa.heap.size wa w5):=lH (HB1.o.tm hb5);have H5:=lH h5;replace H4:=lH (H4.o.up hb5);clear hb5 h5;go_simp;refine hK.out _ _ ?_ (fun hHeld=>?_)
        ·exact HSS.o _ (HFa.o.bl HB2.o) (HMB.o.bl HB2.o) (HCUR.o.bl HB2.o)
        clear hK K
        try simp only [Act.put,sA_,sB_,sC_]
        refine stepH 12 (by kernel_rfl) rfl (fun K hK=>?_);go_simp;refine (subV H4.o H5.o HSB.o).mono ?_;rintro e w6 ⟨hb6,r6,rfl,h6⟩;have HB3:Hid (Below wa.heap.size wa w6):=lH (HB2.o.tm hb6);have H6:=lH h6;clear hb6 h6 H4 H5 HB1 HB2;go_simp;refine hK.out _ _ ?_ (fun hHeld=>?_)
        ·exact HSS.o _ (HFa.o.bl HB3.o) (HMB.o.bl HB3.o) (HCUR.o.bl HB3.o)
        clear hK K
        try simp only [Act.put,sA_,sB_,sC_]
        refine stepH 13 (by kernel_rfl) rfl (fun K hK=>?_);go_simp;have HBK:=lH (Blk.new w6 115 #[.bool r6.b1,.slice r6.A r6.n r6.c,.bool r6.b2,.slice r6.A2 r6.m r6.d]);have hz2:Below w6.heap.size w6 (w6.alloc (.cells #[.bool r6.b1,.slice r6.A r6.n r6.c,.bool r6.b2,.slice r6.A2 r6.m r6.d] 115)):=bA;have HB4:Hid (Below wa.heap.size wa (w6.alloc (.cells #[.bool r6.b1,.slice r6.A r6.n r6.c,.bool r6.b2,.slice r6.A2 r6.m r6.d] 115))):=lH (HB3.o.tm hz2);replace H6:=lH (H6.o.up hz2);clear hz2 HB3;generalize w6.alloc (.cells #[.bool r6.b1,.slice r6.A r6.n r6.c,.bool r6.b2,.slice r6.A2 r6.m r6.d] 115)=w7b at *;generalize w6.heap.size=gb at *;refine hK.out _ _ ?_ (fun hHeld=>?_)
        ·exact HSS.o _ (HFa.o.bl HB4.o) (HMB.o.bl HB4.o) (HCUR.o.bl HB4.o)
        clear hK K
        try simp only [Act.put,sA_,sB_,sC_]
        refine stepH 14 (by kernel_rfl) rfl (fun K hK=>?_);refine ite_goC (by rfl) ?_;have HM7:=lH (only_up HMa.o HB4.o);refine wp_appQ1 (.tmp 138) (.tmp 150) _ rfl wm.heap.size Tryz.underlying93 (.slice cA k cc) us _ rfl (HO.o.keep HB4.o) r6 _ H6.o gb _ rfl HBK.o HK6.o HM7.o.size ?_;intro v' w8 hown hkp hob;obtain ⟨vA,vc,hvv,-⟩:=hown.own.shape;rw [zE_,List.length_singleton] at hvv;subst hvv;have HO8:=lH hown;have HF8:=lH (hkp.blk _ _ _ (HFa.o.bl HB4.o) (by decide));have HM8:=lH (only_mono HM7.o hkp.low lR);have HL8:=lH ((HLa.o.trans (HB4.o.mono (zQ_ HFa.o.lt))).trans (hkp.low.mono HGFM.o));refine hK.out _ _ ?_ (fun hHeld=>?_)
        ·exact HSS.o _ HF8.o (hkp.blk _ _ _ (HMB.o.bl HB4.o) (by decide)) (hkp.blk _ _ _ (HCUR.o.bl HB4.o) (by decide))
        clear hK K
        try simp only [Act.put,sA_,sB_,sC_]
        refine takeH 15 (v:=?_) rfl (by kernel_rfl) (fun _ _ _ h=>h) (by rfl) ?_ hHeld ?_;rotate_left 1
        ·intro w' hSw;skip;go_simp<;>with_reducible rfl
        try simp only [Act.put,sA_,sB_,sC_]
        refine wpAnyH_done (by kernel_rfl) ?_ _;refine lastQ_go (by rfl) ?_;clear hHeld hown hkp hob HB4 HM7 HBK H6 HSS HO HMa HLa HFa;have f3:=HF8.o.cell 4;have fl:=HF8.o.lt;have ff:=HF8.o.frozen
        go_wp2_with fail
        go_roundw
        case rel=>exact ⟨k+1,_,us++[r6],hlt,val_int HNX.o,by rw [HTK.o];exact HO8.o.far HF8.o (by decide) (i:=4) rfl slice_ni,HF8.o.set_ 4 _,only_set 4 _ HM8.o,HL8.o.setCell lR _⟩
        case measure=>exact HNM.o
       ·have hke:k=ms.length:=by omega
        subst hke;have hkI:¬((ms.length:Nat):Int)<(ms.length:Int):=by omega
        have hoe:OwnQ wr wm.heap.size (.slice cA ms.length cc) us (residR x ms (estR x ms)):=by
         have h:=HO.o;rw [zH_ (by rw [HML.o];exact lR)] at h;exact h
        obtain ⟨A9,c9,hv9,hrd9,-,-,-⟩:=hoe.rd;rw [HML.o] at hv9 hrd9;injection hv9 with hv9 hv9b hv9c;subst hv9;subst hv9c;have HRES:=lH hrd9;have hU:=un_fit HF3.o HF4.o (i:=4) rfl rfl fit_nob HM4.o;have HIe:=lH (hU.mat HIm.o (fun b off e=>by injection e with e;injection e with e1 e2;have:=HGI.o;omega));have HRe:=lH (hU.rows HRm.o);have HVe:Hid (RdQ wr wr.heap.size (some ⟨ga,0,none⟩) (busN x) (estR x ms)):=lH (by
         have h:=(hU.vec HVm.o).rdq;rwa [show (estR x ms).length=busN x from by unfold estR;rw [layL_len];exact zO_] at h)
        have HGe:=lH (HG.o.below HL4.o HGL.o);have HRDe:=lH ((HR.o.below HL4.o lR).more (by rw [←HGF.o];exact HL4.o.size));have HBe:=lH (HLW.o _ HL4.o);have P6:=lH (P4.o.bl HBe.o);have HGP:Hid (w.heap.size+1<gi):=lH (by have h1:=HGI.o;have h2:=HWF.o;have h3:=HSZ.o;omega);have HRMe:Hid (RdM wr wr.heap.size RA ms.length (rowsR x ms)):=lH (by
         obtain ⟨A',c',e,h,-⟩:=HRe.o.rd;injection e with e1 e2 e3;have hl:(rowsR x ms).length=ms.length:=by unfold rowsR;rw [zG_]
         rw [hl] at h;rw [e1];exact h)
        clear hU hoe hrd9 HO HM4 HIm HRm HVm HFSm HQSm HF3;have f0:=HF4.o.cell 0;have f1:=HF4.o.cell 1;have f2:=HF4.o.cell 2;have f3:=HF4.o.cell 3;have f4:=HF4.o.cell 4;have fl:=HF4.o.lt;have z0:=P6.o.cell 0;have z1:=P6.o.cell 1;have z2:=P6.o.cell 2;have z3:=P6.o.cell 3;have z4:=P6.o.cell 4;have zl:=P6.o.lt;have zf:=P6.o.frozen
        go_wp2_with fail
        have hq:=fit_put (v0:=.pointer (some ⟨g,0,none⟩)) (v1:=.slice RA ms.length rc) (v2:=.slice (some ⟨gi,0,none⟩) (freeL x).length (freeL x).length) (v3:=.slice (some ⟨ga,0,none⟩) (busN x) (busN x)) (v4:=.slice cA ms.length cc) P6.o;have p0:=hq.cell 0;have p1:=hq.cell 1;have p2:=hq.cell 2;have p3:=hq.cell 3;have p4:=hq.cell 4;have hu:=un_put5 (p':=some ⟨g,0,none⟩) (B1:=RA) (k1:=ms.length) (d1:=rc) (B2:=some ⟨gi,0,none⟩) (k2:=(freeL x).length) (d2:=(freeL x).length) (B3:=some ⟨ga,0,none⟩) (k3:=busN x) (d3:=busN x) (B4:=cA) (k4:=ms.length) (d4:=cc) P6.o
        exact bodyPost_ret (v:=.tuple #[.agg #[.pointer (some ⟨g,0,none⟩),.slice RA ms.length rc,.slice (some ⟨gi,0,none⟩) (freeL x).length (freeL x).length,.slice (some ⟨ga,0,none⟩) (busN x) (busN x),.slice cA ms.length cc],.bool true]) (by simp [results,Tryz.results77,go_sem,p0,p1,p2,p3,p4]) rfl ⟨below_fit (HW.o.trans (HBe.o.mono (by have:=HSZ.o;omega))) (Nat.le_succ _),.inr ⟨HER.o,_,rfl,g,_,_,RA,rc,gi,ga,cA,cc,rfl,⟨fun b off e=>zI_ HRB.o (HRe.o.base b off e),by have:=HGP.o;omega⟩,hu.blk HGe.o (by decide),HRDe.o.unP hu,hu.mat HRMe.o (HRe.o.apart P6.o (by decide)),hu.mat HIe.o (fun b off e=>by injection e with e;injection e with e1 e2;have:=HGP.o;omega),hu.row HVe.o,hu.row HRES.o⟩⟩
theorem mtCk_val {x:Net} {ms:List Mi} (h:mtCk x ms=0):(∀ m∈ms,ratCk m.txt.data.toList=0)∧∀ m∈ms,1≤m.wt∧m.wt≤1000:=by
 have key:∀ m∈ms,ratCk m.txt.data.toList=0∧1≤m.wt∧m.wt≤1000:=fun m hm=>by
  unfold mtCk at h
  split at h
  ·exact absurd h (by assumption)
  ·split at h
   ·omega
   ·have h1:=misGo_ok h m hm
    unfold miCk at h1
    split at h1
    ·omega
    ·split at h1
     ·omega
     ·split at h1
      ·exact absurd h1 (by assumption)
      ·split at h1
       ·omega
       ·rename_i h2 h3
        exact ⟨by omega,by omega,by omega⟩
 exact ⟨fun m hm=>(key m hm).1,fun m hm=>(key m hm).2⟩
def EstC (x:Net) (ms:List Mi) (c:Int):Prop:=(mtCk x ms≠0∧c=mtCk x ms)∨(mtCk x ms=0∧¬EReg x ms∧c=8)∨(mtCk x ms=0∧EReg x ms∧¬(∀ q∈estR x ms,Fits q)∧c=2)∨(mtCk x ms=0∧EReg x ms∧(∀ q∈estR x ms,Fits q)∧c=0)
theorem EstC.zero {x:Net} {ms:List Mi} {c:Int} (h:EstC x ms c) (h0:c=0):mtCk x ms=0∧EReg x ms∧∀ q∈estR x ms,Fits q:=by
 rcases h with ⟨h1,h2⟩ | ⟨h1,h2,h3⟩ | ⟨h1,h2,h3,h4⟩ | ⟨h1,h2,h3,h4⟩
 ·omega
 ·omega
 ·omega
 ·exact ⟨h1,h2,h3⟩
theorem EstC.one {x:Net} {ms:List Mi} {c d:Int} (h:EstC x ms c) (g:EstC x ms d):c=d:=by
 rcases h with ⟨h1,h2⟩ | ⟨h1,h2,h3⟩ | ⟨h1,h2,h3,h4⟩ | ⟨h1,h2,h3,h4⟩<;>rcases g with ⟨g1,g2⟩ | ⟨g1,g2,g3⟩ | ⟨g1,g2,g3,g4⟩ | ⟨g1,g2,g3,g4⟩<;>first | omega | exact absurd g2 h2 | exact absurd h2 g2 | exact absurd g3 h3 | exact absurd h3 g3
def FitP (x:Net) (ms:List Mi) (w:World) (e:Ending) (w':World):Prop:=Below w.heap.size w w'∧((∃ c:Int,c≠0∧EstC x ms c∧∃ p A1 n1 c1 A2 n2 c2 A3 n3 c3 A4 n4 c4,e=.returned (.tuple #[.agg #[.pointer p,.slice A1 n1 c1,.slice A2 n2 c2,.slice A3 n3 c3,.slice A4 n4 c4],.slice none 0 0,.int .i64 c]))∨
 (EstC x ms 0∧∃ fv A n c,e=.returned (.tuple #[fv,.slice A n c,.int .i64 0])∧FitF x ms w.heap.size w' fv∧RdStr w' w'.heap.size A n ((estR x ms).map txtQ)∧n≤c∧c≤maxLen))
theorem fit_any (h:NetH) (x:Net) (h8:x.nodes.length≤8) (A:Option Addr) (n c:Nat) (ms:List Mi) (w:World) (r:RdNet w w.heap.size h x) (hm:RdMi w w.heap.size A n ms) (hz:∀ m∈ms,m.txt.size≤maxLen) (hn:n≤9223372036854775807) (ht:TabOk w) :
    Calls Tryz.prog 48 #[.agg h.cells,.slice A n c] w (FitP x ms w):=by
 have Q0:Below w.heap.size w ((w.alloc (.cells h.cells 29)).alloc (.cells #[.pointer none,.slice none 0 0,.slice none 0 0,.slice none 0 0,.slice none 0 0] 95)):=(bA).alloc (by simp) _;have HW:=lH Q0;have P0:=lH ((Blk.new w 29 h.cells).alloc (.cells #[.pointer none,.slice none 0 0,.slice none 0 0,.slice none 0 0,.slice none 0 0] 95));have P4:Hid (Blk ((w.alloc (.cells h.cells 29)).alloc (.cells #[.pointer none,.slice none 0 0,.slice none 0 0,.slice none 0 0,.slice none 0 0] 95)) (w.heap.size+1) 95 #[.pointer none,.slice none 0 0,.slice none 0 0,.slice none 0 0,.slice none 0 0]):=lH (Blk.new_ (by simp));have HX:=lH (r.up Q0);have HM:=lH (hm.bm Q0);have HT:=lH (ht.up Q0);have HZ:=lH hz
 have HSZ:Hid (((w.alloc (.cells h.cells 29)).alloc (.cells #[.pointer none,.slice none 0 0,.slice none 0 0,.slice none 0 0,.slice none 0 0] 95)).heap.size=w.heap.size+1+1):=lH (by simp);clear Q0 hm r ht hz;obtain ⟨D0,r0,s0,D1,r1,s1,D2,r2,s2,D3,r3,s3,D4,r4,s4,D5,r5,s5⟩:=h;go_enter Tryz.func48,Tryz.ntmps48
 go_upto_region 1 with fail
 generalize (w.alloc (.cells (NetH.cells ⟨D0,r0,s0,D1,r1,s1,D2,r2,s2,D3,r3,s3,D4,r4,s4,D5,r5,s5⟩) 29)).alloc (.cells #[.pointer none,.slice none 0 0,.slice none 0 0,.slice none 0 0,.slice none 0 0] 95)=W at *;obtain ⟨y0,y1,y2,y3,y4,y5,nf,nlt⟩:=net_box P0.o;dsimp only at y0 y1 y2 y3 y4 y5
 go_wp2_with fail
 refine (mcheck_any _ x A n c ms W HX.o HM.o HZ.o hn HT.o).mono ?_;rintro e w1 ⟨rfl,hb1⟩;have HB1:=lH hb1;clear hb1 y0 y1 y2 y3 y4 y5 nf nlt;have HC0:=lH (rfl:mtCk x ms=mtCk x ms)
 by_cases hck:mtCk x ms=0
 ·obtain ⟨ok,hl,hmi⟩:=mtCk_ok hck
  obtain ⟨hv,hwt⟩:=mtCk_val hck;have HC:=lH hck;have HOK:=lH ok;have HMI:=lH hmi;have HL:=lH hl;have HV:=lH hv;have HWT:=lH hwt;rw [hck];clear ok hl hmi hv hwt hck;have PNX:=P0.o.bl HB1.o;obtain ⟨y0,y1,y2,y3,y4,y5,nf,nlt⟩:=net_box PNX;dsimp only at y0 y1 y2 y3 y4 y5;clear PNX;have HN:Hid (n≤64):=lH (by have h1:=HM.o.1;have h2:=HL.o;omega)
  go_wp2_with fail
  refine (est_any _ x HOK.o h8 A n c ms w1 (HX.o.up HB1.o) (HM.o.bm HB1.o) HN.o HMI.o HV.o HWT.o).mono ?_;rintro e w2 ⟨hb2,hcase⟩;have HB2:=lH (HB1.o.tm hb2);clear hb2 y0 y1 y2 y3 y4 y5 nf nlt;rcases hcase with ⟨hreg,g,A1,c1,rfl⟩ | ⟨hreg,fv,rfl,hff⟩
  ·have HR:=lH hreg
   clear hreg;have P6:=lH (P4.o.bl HB2.o);have z0:=P6.o.cell 0;have z1:=P6.o.cell 1;have z2:=P6.o.cell 2;have z3:=P6.o.cell 3;have z4:=P6.o.cell 4;have zl:=P6.o.lt;have zf:=P6.o.frozen
   go_wp2_with fail
   have hq:=(fit_put (v0:=.pointer none) (v1:=.slice none 0 0) (v2:=.slice none 0 0) (v3:=.slice none 0 0) (v4:=.slice none 0 0) P6.o).alloc (.cells #[.pointer (some ⟨g,0,none⟩),.slice A1 ms.length c1,.slice none 0 0,.slice none 0 0,.slice none 0 0] 95);have p0:=hq.cell 0;have p1:=hq.cell 1;have p2:=hq.cell 2;have p3:=hq.cell 3;have p4:=hq.cell 4;exact bodyPost_ret (v:=.tuple #[.agg #[.pointer none,.slice none 0 0,.slice none 0 0,.slice none 0 0,.slice none 0 0],.slice none 0 0,.int .i64 8]) (by simp [results,Tryz.results48,go_sem,p0,p1,p2,p3,p4]) rfl ⟨(below_fit (HW.o.trans (HB2.o.mono (by have:=HSZ.o;omega))) (Nat.le_succ _)).alloc (by have:=HB2.o.size;have:=HSZ.o;simp [World.setCell];omega) _,.inl ⟨8,by decide,.inr (.inl ⟨HC.o,HR.o,rfl⟩),_,_,_,_,_,_,_,_,_,_,_,_,_,rfl⟩⟩
  ·have HR:=lH hreg
   have HFF:=lH hff;clear hreg hff;have HBW:Hid (w.heap.size+1<w1.heap.size):=lH (by have:=HB1.o.size;have:=HSZ.o;omega);obtain ⟨g,m,y,A1,c1,gi,ga,B1,d1,rfl,hf0,hf1,hf2,hf3,hf4,hf5,hf6⟩:=HFF.o;clear hf0 hf1 hf2 hf3 hf4 hf6;have hz:Below w2.heap.size w2 (w2.alloc (.cells #[.pointer (some ⟨g,0,none⟩),.slice A1 ms.length c1,.slice (some ⟨gi,0,none⟩) (freeL x).length (freeL x).length,.slice (some ⟨ga,0,none⟩) (busN x) (busN x),.slice B1 ms.length d1] 95)):=bA;have HZA:=lH hz;have HFB:=lH (Blk.new w2 95 #[.pointer (some ⟨g,0,none⟩),.slice A1 ms.length c1,.slice (some ⟨gi,0,none⟩) (freeL x).length (freeL x).length,.slice (some ⟨ga,0,none⟩) (busN x) (busN x),.slice B1 ms.length d1]);have HQ:=lH (hf5.bm hz);clear hz hf5
   go_upto_region 7 with fail
   generalize w2.alloc (.cells #[.pointer (some ⟨g,0,none⟩),.slice A1 ms.length c1,.slice (some ⟨gi,0,none⟩) (freeL x).length (freeL x).length,.slice (some ⟨ga,0,none⟩) (busN x) (busN x),.slice B1 ms.length d1] 95)=wz at *;generalize hgt:w2.heap.size=gt at *;have HGT:=lH hgt;clear hgt;have x3:=HFB.o.cell 3;have xl:=HFB.o.lt;have HBZ:Hid (Below W.heap.size W wz):=lH (HB2.o.trans (HZA.o.mono (by rw [←HGT.o];exact HB2.o.size)));have hb8:busN x≤8:=zI_ (busN_ok HOK.o).2 h8
   go_wp2_with fail
   refine (textvec_any (some ⟨ga,0,none⟩) (busN x) (busN x) (estR x ms) wz HQ.o (by omega) (HT.o.up HBZ.o)).mono ?_;rintro e w3 ⟨hb3,ht1,ht2⟩;have HB3:=lH (HBZ.o.tm hb3);have HFB3:=lH (HFB.o.bl hb3);have HZ3:Hid (Below gt w2 w3):=lH (HZA.o.trans (hb3.mono (zI_ (Nat.le_of_eq HGT.o.symm) HZA.o.size)));have HT1:=lH ht1;have HT2:=lH ht2;have P6:=lH (P4.o.bl HB3.o);have HF3:Hid (FitF x ms w1.heap.size w3 (.agg #[.pointer (some ⟨g,0,none⟩),.slice A1 ms.length c1,.slice (some ⟨gi,0,none⟩) (freeL x).length (freeL x).length,.slice (some ⟨ga,0,none⟩) (busN x) (busN x),.slice B1 ms.length d1])):=lH (HFF.o.up (by rw [HGT.o];exact HZ3.o));clear hb3 ht1 ht2 HZA HFB HQ x3 xl HFF;have z0:=P6.o.cell 0;have z1:=P6.o.cell 1;have z2:=P6.o.cell 2;have z3:=P6.o.cell 3;have z4:=P6.o.cell 4;have zl:=P6.o.lt;have zf:=P6.o.frozen;have x0:=HFB3.o.cell 0
   have x1:=HFB3.o.cell 1;have x2:=HFB3.o.cell 2;have x3:=HFB3.o.cell 3;have x4:=HFB3.o.cell 4;have xl:=HFB3.o.lt;have hq:=fit_put (v0:=.pointer (some ⟨g,0,none⟩)) (v1:=.slice A1 ms.length c1) (v2:=.slice (some ⟨gi,0,none⟩) (freeL x).length (freeL x).length) (v3:=.slice (some ⟨ga,0,none⟩) (busN x) (busN x)) (v4:=.slice B1 ms.length d1) P6.o;have HU:=lH (un_put5 (p':=some ⟨g,0,none⟩) (B1:=A1) (k1:=ms.length) (d1:=c1) (B2:=some ⟨gi,0,none⟩) (k2:=(freeL x).length) (d2:=(freeL x).length) (B3:=some ⟨ga,0,none⟩) (k3:=busN x) (d3:=busN x) (B4:=B1) (k4:=ms.length) (d4:=d1) P6.o);have HQP:=lH hq
   have HBF:=lH (below_fit (v0:=.pointer (some ⟨g,0,none⟩)) (v1:=.slice A1 ms.length c1) (v2:=.slice (some ⟨gi,0,none⟩) (freeL x).length (freeL x).length) (v3:=.slice (some ⟨ga,0,none⟩) (busN x) (busN x)) (v4:=.slice B1 ms.length d1) (HW.o.trans (HB3.o.mono (by have:=HSZ.o;omega))) (Nat.le_succ w.heap.size));clear hq
   by_cases hf:∀ q∈estR x ms,Fits q
   ·obtain ⟨A6,n6,c6,rfl,hr6,h61,h62⟩:=HT1.o hf
    have HR6:=lH hr6;clear hr6 HT1 HT2
    go_wp2_with fail
    have p0:=HQP.o.cell 0;have p1:=HQP.o.cell 1;have p2:=HQP.o.cell 2;have p3:=HQP.o.cell 3;have p4:=HQP.o.cell 4;exact bodyPost_ret (v:=.tuple #[.agg #[.pointer (some ⟨g,0,none⟩),.slice A1 ms.length c1,.slice (some ⟨gi,0,none⟩) (freeL x).length (freeL x).length,.slice (some ⟨ga,0,none⟩) (busN x) (busN x),.slice B1 ms.length d1],.slice A6 n6 c6,.int .i64 0]) (by simp [results,Tryz.results48,go_sem,p0,p1,p2,p3,p4]) rfl ⟨HBF.o,.inr ⟨.inr (.inr (.inr ⟨HC.o,HR.o,hf,rfl⟩)),_,_,_,_,rfl,(HF3.o.unP HU.o HBW.o).low (by have:=HBW.o;omega),HU.o.strs HR6.o,h61,h62⟩⟩
   ·obtain rfl:=HT2.o hf
    clear HT1 HT2
    go_wp2_with fail
    have p0:=HQP.o.cell 0;have p1:=HQP.o.cell 1;have p2:=HQP.o.cell 2;have p3:=HQP.o.cell 3;have p4:=HQP.o.cell 4;exact bodyPost_ret (v:=.tuple #[.agg #[.pointer (some ⟨g,0,none⟩),.slice A1 ms.length c1,.slice (some ⟨gi,0,none⟩) (freeL x).length (freeL x).length,.slice (some ⟨ga,0,none⟩) (busN x) (busN x),.slice B1 ms.length d1],.slice none 0 0,.int .i64 2]) (by simp [results,Tryz.results48,go_sem,p0,p1,p2,p3,p4]) rfl ⟨HBF.o,.inl ⟨2,by decide,.inr (.inr (.inl ⟨HC.o,HR.o,hf,rfl⟩)),_,_,_,_,_,_,_,_,_,_,_,_,_,rfl⟩⟩
 ·have hckB:(mtCk x ms != 0)=true:=by simp [hck]
  have P6:=lH (P4.o.bl HB1.o);have z0:=P6.o.cell 0;have z1:=P6.o.cell 1;have z2:=P6.o.cell 2;have z3:=P6.o.cell 3;have z4:=P6.o.cell 4;have zl:=P6.o.lt;have zf:=P6.o.frozen
  go_wp2_with fail
  have hq:=(fit_put (v0:=.pointer none) (v1:=.slice none 0 0) (v2:=.slice none 0 0) (v3:=.slice none 0 0) (v4:=.slice none 0 0) P6.o);have p0:=hq.cell 0;have p1:=hq.cell 1;have p2:=hq.cell 2;have p3:=hq.cell 3;have p4:=hq.cell 4;exact bodyPost_ret (v:=.tuple #[.agg #[.pointer none,.slice none 0 0,.slice none 0 0,.slice none 0 0,.slice none 0 0],.slice none 0 0,.int .i64 (mtCk x ms)]) (by simp [results,Tryz.results48,go_sem,p0,p1,p2,p3,p4]) rfl ⟨below_fit (HW.o.trans (HB1.o.mono (by have:=HSZ.o;omega))) (Nat.le_succ _),.inl ⟨_,hck,.inl ⟨hck,rfl⟩,_,_,_,_,_,_,_,_,_,_,_,_,_,rfl⟩⟩
def AngP (x:Net) (ms:List Mi) (w:World) (e:Ending) (w':World):Prop:=Below w.heap.size w w'∧((∃ c:Int,c≠0∧EstC x ms c∧e=.returned (.tuple #[.slice none 0 0,.int .i64 c]))∨
 (EstC x ms 0∧∃ A n c,e=.returned (.tuple #[.slice A n c,.int .i64 0])∧RdStr w' w'.heap.size A n ((estR x ms).map txtQ)∧n≤c∧c≤maxLen))
theorem angles_any (h:NetH) (x:Net) (h8:x.nodes.length≤8) (A:Option Addr) (n c:Nat) (ms:List Mi) (w:World) (r:RdNet w w.heap.size h x) (hm:RdMi w w.heap.size A n ms) (hz:∀ m∈ms,m.txt.size≤maxLen) (hn:n≤9223372036854775807) (ht:TabOk w) :
    Calls Tryz.prog 28 #[.agg h.cells,.slice A n c] w (AngP x ms w):=by
 have K0:Below w.heap.size w (w.alloc (.cells h.cells 29)):=bA;have HK:=lH K0;have P0:=lH (Blk.new w 29 h.cells);have HF:=lH (fit_any h x h8 A n c ms (w.alloc (.cells h.cells 29)) (r.up K0) (hm.bm K0) hz hn (ht.up K0));have HSZ:Hid (w.heap.size≤(w.alloc (.cells h.cells 29)).heap.size):=lH K0.size;clear K0 hm r ht hz;obtain ⟨D0,r0,s0,D1,r1,s1,D2,r2,s2,D3,r3,s3,D4,r4,s4,D5,r5,s5⟩:=h;obtain ⟨y0,y1,y2,y3,y4,y5,nf,nlt⟩:=net_box P0.o;dsimp only at y0 y1 y2 y3 y4 y5;go_enter Tryz.func28,Tryz.ntmps28
 go_wp2_with fail
 generalize w.alloc (.cells (NetH.cells ⟨D0,r0,s0,D1,r1,s1,D2,r2,s2,D3,r3,s3,D4,r4,s4,D5,r5,s5⟩) 29)=W at *;refine HF.o.mono ?_;rintro e w1 ⟨hb1,hcase⟩;have HB1:=lH (HK.o.trans (hb1.mono HSZ.o));clear hb1 y0 y1 y2 y3 y4 y5 nf nlt HF;rcases hcase with ⟨d,hd,hec,p,A1,n1,c1,A2,n2,c2,A3,n3,c3,A4,n4,c4,rfl⟩ | ⟨hec,fv,A6,n6,c6,rfl,⟨g,m,y,A1,c1,gi,ga,B1,d1,rfl,-⟩,hr6,h61,h62⟩
 ·have HE:=lH hec
  have HD:=lH hd;clear hec hd
  go_wp2_with fail
  go_ret2;exact ⟨HB1.o.alloc HB1.o.size _,.inl ⟨d,HD.o,HE.o,rfl⟩⟩
 ·have HE:=lH hec
  have HR6:=lH hr6;clear hec hr6
  go_wp2_with fail
  go_ret2;refine ⟨HB1.o.alloc HB1.o.size _,.inr ⟨HE.o,_,_,_,rfl,?_,h61,h62⟩⟩;have hb:Below w1.heap.size w1 (w1.alloc (.cells #[.pointer (some ⟨g,0,none⟩),.slice A1 ms.length c1,.slice (some ⟨gi,0,none⟩) (freeL x).length (freeL x).length,.slice (some ⟨ga,0,none⟩) (busN x) (busN x),.slice B1 ms.length d1] 95)):=bA;exact (HR6.o.below hb lR).more hb.size
theorem VecS.low {w:World} {base base':Nat} {v:Value} {hs:List Hd} {vss:List (List ByteArray)} (m:VecS w base v hs vss) (h:base'≤base):VecS w base' v hs vss:=⟨⟨m.own.1,by
 rcases m.own.2 with h1 | ⟨g,cap,cur,h1,h2,h3⟩
 ·exact .inl h1
 ·exact .inr ⟨g,cap,cur,h1,zI_ h h2,h3⟩⟩,m.len,m.rows⟩
end
end Go.Proofs.YthgdchffeigkbaaGreatDoor
