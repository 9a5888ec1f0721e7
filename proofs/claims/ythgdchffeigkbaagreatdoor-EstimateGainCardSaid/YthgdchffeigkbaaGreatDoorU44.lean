import Derived.Test.YthgdchffeigkbaaGreatDoorU37
import Derived.Test.YthgdchffeigkbaaGreatDoorU39
set_option linter.unusedVariables false
set_option linter.unusedSimpArgs false
namespace Go.Proofs.YthgdchffeigkbaaGreatDoor
set_option maxHeartbeats 8000000
set_option maxRecDepth 100000
section
open Go.ChangeShapes Go.WideShapes Go.ChangeAt Go.RowKit
attribute [local go_sem ↓] execOp_call_val
attribute [local go_sem] callVal_func setCell_drewN alloc_drewN sEq_walk
def termR (x:Net) (al:List Rat) (m:Mi):Rat:=(m.wt:Rat)*(qOf m.txt-(dotR (formR x m).1 al+(formR x m).2))*(qOf m.txt-(dotR (formR x m).1 al+(formR x m).2))
theorem term_qsz {x:Net} (ok:NetOk x) {m:Mi} (hm:MiOk x m) (hv:ratCk m.txt.data.toList=0) (hw:1≤m.wt∧m.wt≤1000) {al:List Rat} (hb:busN x≤8) (ha:∀ q∈al,qsz q≤2000) :
    qsz (dotR (formR x m).1 al+(formR x m).2)≤40000∧qsz (qOf m.txt)≤2000∧qsz (m.wt:Rat)≤2∧qsz (qOf m.txt-(dotR (formR x m).1 al+(formR x m).2))≤42001∧qsz ((m.wt:Rat)*(qOf m.txt-(dotR (formR x m).1 al+(formR x m).2)))≤42010∧qsz (termR x al m)≤84020:=by
 have h0:=formR_ok ok hm;have h1:=dotR_qsz (ys:=al) (Z:=2000) h0.len (fun q hq=>zI_ (h0.cf q hq) (by decide)) ha (busN x) lR;rw [zH_ (by rw [List.length_zipWith,h0.len];omega)] at h1;have h2:=add_qsz (dotR (formR x m).1 al) (formR x m).2;have h3:=h0.fr;have h4:=fits_qsz (valid_fits hv);have h5:=sub_qsz (qOf m.txt) (dotR (formR x m).1 al+(formR x m).2);have h6:=qsz_whole m.wt (by omega) (by omega);have h7:=mul_qsz (m.wt:Rat) (qOf m.txt-(dotR (formR x m).1 al+(formR x m).2));have h8:=mul_qsz ((m.wt:Rat)*(qOf m.txt-(dotR (formR x m).1 al+(formR x m).2))) (qOf m.txt-(dotR (formR x m).1 al+(formR x m).2));unfold dotR at h2 h5 h7 h8 ⊢;unfold termR dotR;omega
def FormQ (n:Nat) (p:List Rat×Rat):Value→World→Prop:=fun v w=>∃ (gc:Nat) (u:Rv),v=.agg #[.slice (some ⟨gc,0,none⟩) n n,.bool u.b1,.slice u.A u.n u.c,.bool u.b2,.slice u.A2 u.m u.d]∧RdQ w w.heap.size (some ⟨gc,0,none⟩) n p.1∧RtV w w.heap.size p.2 u
theorem FormQ.up {n:Nat} {p:List Rat×Rat} {v:Value} {w w':World} (h:FormQ n p v w) (hb:Below w.heap.size w w'):FormQ n p v w':=by
 obtain ⟨gc,u,e,h1,h2⟩:=h;exact ⟨gc,u,e,(h1.below hb lR).more hb.size,h2.up hb⟩
def CostP (x:Net) (ms:List Mi) (ss:List ByteArray) (w:World) (e:Ending) (w':World):Prop:=Below w.heap.size w w'∧((readE x ms ss≠0∧e=.returned (.tuple #[.string ⟨#[]⟩,.int .i64 (readE x ms ss)]))∨
 (readE x ms ss=0∧(Fits (costR x ms (ss.map qOf))→e=.returned (.tuple #[.string (txtQ (costR x ms (ss.map qOf))),.int .i64 0]))∧(¬Fits (costR x ms (ss.map qOf))→e=.returned (.tuple #[.string ⟨#[]⟩,.int .i64 2]))))
theorem ecost_any (h:NetH) (x:Net) (h8:x.nodes.length≤8) (A:Option Addr) (n c:Nat) (ms:List Mi) (B:Option Addr) (mm d:Nat) (ss:List ByteArray) (w:World) (r:RdNet w w.heap.size h x) (hm:RdMi w w.heap.size A n ms) (hR:RdStr w w.heap.size B mm ss) (hz:∀ m∈ms,m.txt.size≤maxLen) (hs:∀ s∈ss,s.size≤maxLen) (hn:n≤9223372036854775807) (hmm:mm≤9223372036854775807) (ht:TabOk w) :
    Calls Tryz.prog 31 #[.agg h.cells,.slice A n c,.slice B mm d] w (CostP x ms ss w):=by
 have K0:Below w.heap.size w (w.alloc (.cells h.cells 29)):=bA;have HK:=lH K0;have P0:=lH (Blk.new w 29 h.cells);have HX:=lH (r.up K0);have HM:=lH (hm.bm K0);have HS:=lH (hR.bm K0);have HT:=lH (ht.up K0);have HML:Hid (ms.length=n):=lH hm.1;have HSL:Hid (ss.length=mm):=lH hR.1;have HSS:=lH hs;have HSZ:Hid (w.heap.size≤(w.alloc (.cells h.cells 29)).heap.size):=lH K0.size;have HRP:Hid (∀ e w',CostP x ms ss w e w'↔(Below w.heap.size w w'∧((readE x ms ss≠0∧e=.returned (.tuple #[.string ⟨#[]⟩,.int .i64 (readE x ms ss)]))∨
 (readE x ms ss=0∧(Fits (costR x ms (ss.map qOf))→e=.returned (.tuple #[.string (txtQ (costR x ms (ss.map qOf))),.int .i64 0]))∧(¬Fits (costR x ms (ss.map qOf))→e=.returned (.tuple #[.string ⟨#[]⟩,.int .i64 2])))))):=lH fun e w'=>Iff.rfl
 have HRE:Hid (readE x ms ss=if mtCk x ms≠0 then mtCk x ms else angE ss.length (busN x) ss):=lH rfl;have HCK:=lH (mcheck_any h x A n c ms (w.alloc (.cells h.cells 29)) HX.o HM.o hz hn HT.o);have HPA:=lH (readE_parts (x:=x) (ms:=ms) (ss:=ss));generalize readE x ms ss=re at *;clear K0 hm hR r ht hs hz;obtain ⟨D0,r0,s0,D1,r1,s1,D2,r2,s2,D3,r3,s3,D4,r4,s4,D5,r5,s5⟩:=h;obtain ⟨y0,y1,y2,y3,y4,y5,nf,nlt⟩:=net_box P0.o;dsimp only at y0 y1 y2 y3 y4 y5;go_enter Tryz.func31,Tryz.ntmps31
 go_wp2_with fail
 generalize w.alloc (.cells (NetH.cells ⟨D0,r0,s0,D1,r1,s1,D2,r2,s2,D3,r3,s3,D4,r4,s4,D5,r5,s5⟩) 29)=W at *;refine HCK.o.mono ?_;rintro e w1 ⟨rfl,hb1⟩;have HB1:=lH hb1;clear hb1 y0 y1 y2 y3 y4 y5 nf nlt HCK
 by_cases hck:mtCk x ms=0
 ·have HC:=lH hck
  rw [if_neg (fun h=>h hck)] at HRE;rw [hck];clear hck;have PNX:=P0.o.bl HB1.o;obtain ⟨y0,y1,y2,y3,y4,y5,nf,nlt⟩:=net_box PNX;dsimp only at y0 y1 y2 y3 y4 y5;clear PNX;obtain ⟨ok,hl,hmi⟩:=mtCk_ok HC.o;obtain ⟨hv,hwt⟩:=mtCk_val HC.o;have HOK:=lH ok;have HL:=lH hl;have HMI:=lH hmi;have HV:=lH hv;have HWT:=lH hwt;clear ok hl hmi hv hwt
  go_wp2_with fail
  refine (flowOf_any _ x HOK.o h8 w1 (HX.o.up HB1.o)).mono ?_;rintro e w2 ⟨hb2,g,m,A7,n7,c7,rfl,hg,hblk,hrd,-⟩;have HB2:=lH (HB1.o.tm hb2);have HG:=lH hblk;have HR:=lH hrd;have HN1:Hid (busN x=m.n1):=lH (by rw [←islR_len HOK.o];exact hrd.r1.len);clear hb2 hg hblk hrd HB1 y0 y1 y2 y3 y4 y5 nf nlt
  go_wp2_with fail
  refine (ckang_any g m _ B mm d ss w2 HG.o (HS.o.bm HB2.o) HSS.o hmm (HT.o.up HB2.o) re (by rw [HRE.o,HSL.o,HN1.o])).mono ?_;rintro e w3 ⟨rfl,hb3⟩;have HB3:=lH (HB2.o.tm hb3);replace HG:=lH (HG.o.bl hb3);replace HR:=lH (HR.o.up hb3);clear hb3 HB2
  by_cases hre:re=0
  ·subst hre
   obtain ⟨-,hsl,hsv⟩:=HPA.o rfl;have HSV:=lH hsv;have HMB:Hid (mm=busN x):=lH (by rw [←HSL.o];exact hsl);have hmm8:mm≤8:=by rw [HMB.o];exact zI_ (busN_ok HOK.o).2 h8
   clear hsl hsv HPA HRE
   go_wp2_with fail
   refine (parseall_any B mm d ss w3 (HS.o.bm HB3.o) HSV.o (by omega)).mono ?_;rintro e w4 ⟨hb4,A4,n4,c4,rfl,hq4,-,-,-⟩;have HB4:=lH (HB3.o.tm hb4);replace HG:=lH (HG.o.bl hb4);replace HR:=lH (HR.o.up hb4);have HQ:=lH hq4;have HN4:Hid (n4=mm):=lH (by rw [←hq4.len,zG_,HSL.o]);have HQS:Hid (∀ p∈ss.map qOf,qsz p≤2000):=lH fun p hp=>by
    obtain ⟨s,hs,rfl⟩:=List.mem_map.1 hp;exact fits_qsz (valid_fits (HSV.o s hs))
   have HTQ:=lH fun (m:Mi) (hm:m∈ms)=>term_qsz HOK.o (HMI.o m hm) (HV.o m hm) (HWT.o m hm) (by rw [←HMB.o];exact hmm8) HQS.o;clear hb4 hq4 HB3 HS;have HN64:Hid (n≤64):=lH (by have:=HL.o;have:=HML.o;omega);have hn64:=HN64.o
   go_upto_region 9 with fail
   go_wp2_with fail
   refine (wholeV 0 w4 (by decide) (by decide)).mono ?_;rintro e w5 ⟨hb5,rz,rfl,hr5⟩;have hz:Below w5.heap.size w5 (w5.alloc (.cells #[.bool rz.b1,.slice rz.A rz.n rz.c,.bool rz.b2,.slice rz.A2 rz.m rz.d] 115)):=bA;have HB5:=lH hb5;have HR5:=lH (hr5.up hz);have HGS:=lH (Blk.new w5 115 #[.bool rz.b1,.slice rz.A rz.n rz.c,.bool rz.b2,.slice rz.A2 rz.m rz.d]);have HB6:=lH (hb5.tm hz);have HGW:Hid (w4.heap.size≤w5.heap.size):=lH hb5.size;clear hb5 hr5 hz HB5
   go_upto_region 10 with fail
   generalize w5.alloc (.cells #[.bool rz.b1,.slice rz.A rz.n rz.c,.bool rz.b2,.slice rz.A2 rz.m rz.d] 115)=w6 at *;generalize w5.heap.size=gs at *
   go_wp2_with fail
   go_loopw [37] (fun v37 wr=>∃ (k:Nat) (sv:Rv),k≤n∧v37=.int .i64 k∧Blk wr gs 115 #[.bool sv.b1,.slice sv.A sv.n sv.c,.bool sv.b2,.slice sv.A2 sv.m sv.d]∧RtV wr wr.heap.size (sumR ((ms.map (termR x (ss.map qOf))).take k)) sv∧Below w4.heap.size w4 wr) (fun v37 _=>n-(intOf v37).toNat)
   case atStart=>exact ⟨0,rz,by omega,rfl,HGS.o,HR5.o,HB6.o⟩
   case round=>
    obtain ⟨k,sv,hk,rfl,hgs,hsv,hb⟩:=hrel;have HGSr:=lH hgs;have HSVr:=lH hsv;have HB:=lH hb;clear hgs hsv hb HGS HR5 HB6
    by_cases hlt:k<n
    ·obtain ⟨mi,hmi⟩:∃ mi,ms[k]?=some mi:=zX_ (by have:=HML.o;omega)
     have HTK:Hid ((ms.map (termR x (ss.map qOf))).take (k+1)=(ms.map (termR x (ss.map qOf))).take k++[termR x (ss.map qOf) mi]):=lH (take_at (by rw [zM_,hmi];rfl));have HMO:=lH (HMI.o mi (zC_ hmi));have HVM:=lH (HV.o mi (zC_ hmi));have HWM:=lH (HWT.o mi (zC_ hmi));have HTM:=lH (HTQ.o mi (zC_ hmi));have HBW:=lH (HB4.o.tm HB.o);have hmx:=(HM.o.below HBW.o lR).more HBW.o.size;obtain ⟨ab,ao,hA,hab,-⟩:=hmx.2.2 (by omega);subst hA;obtain ⟨a0,a1,a2,a3⟩:=hmx.at_ hmi;have hkI:(k:Int)<(n:Int):=by omega
     have hk0:=lZ k
     have hkn:=zL_ k;have HNX:=lN k;have HNM:Hid (n-(k+1)<n-k):=lH (by omega);have HLT:=lH hlt;clear hmi hmx
     go_upto_region 13 with fail
     clear a0 a1 a2 a3 hab hkI hk0 hkn;have hz:Below wr.heap.size wr (wr.alloc (.cells #[.int .i64 mi.kind,.string mi.name,.string mi.txt,.int .i64 mi.wt] 57)):=bA;have HMB2:=lH (Blk.new wr 57 #[.int .i64 mi.kind,.string mi.name,.string mi.txt,.int .i64 mi.wt]);replace HGSr:=lH (HGSr.o.bl hz);replace HSVr:=lH (HSVr.o.up hz);have HBA:Hid (Below w4.heap.size w4 (wr.alloc (.cells #[.int .i64 mi.kind,.string mi.name,.string mi.txt,.int .i64 mi.wt] 57))):=lH (HB.o.tm hz);have HWA:Hid (Below W.heap.size W (wr.alloc (.cells #[.int .i64 mi.kind,.string mi.name,.string mi.txt,.int .i64 mi.wt] 57))):=lH (HB4.o.tm HBA.o);clear hz HB HBW;generalize wr.heap.size=gm at *;generalize wr.alloc (.cells #[.int .i64 mi.kind,.string mi.name,.string mi.txt,.int .i64 mi.wt] 57)=wa at *;have PNX:=P0.o.bl HWA.o
     obtain ⟨y0,y1,y2,y3,y4,y5,nf,nlt⟩:=net_box PNX;dsimp only at y0 y1 y2 y3 y4 y5;clear PNX;have x0:=HMB2.o.cell 0;have x1:=HMB2.o.cell 1;have x2:=HMB2.o.cell 2;have x3:=HMB2.o.cell 3;have xl:=HMB2.o.lt;have HB4a:=lH (below_drew (Below.refl wa.heap.size wa));refine wp_region_last (S:=fun w'=>Below wa.heap.size wa w') 11 _ (by kernel_rfl) (by kernel_rfl) rfl (below_drew bR) (fun hHeld=>?_);simp only [zK_,List.take_zero];refine tkH 0 rfl ?_;refine tkH 1 rfl ?_;refine tkH 3 rfl ?_;refine tkH 4 rfl ?_;refine tkH 5 rfl ?_;refine tkH 7 rfl ?_
     refine relyH (C:=fun s w'=>Below wa.heap.size wa w') (G:=fun w' w''=>Below w'.heap.size w' w'') [(2,RtQ (qOf mi.txt)),(6,FormQ (busN x) (formR x mi)),(8,RtQ (dotR (formR x mi).1 (ss.map qOf)+(formR x mi).2)),(9,RtQ (qOf mi.txt-(dotR (formR x mi).1 (ss.map qOf)+(formR x mi).2))),(10,NewQ wa.heap.size 115 #[.bool false,.slice none 0 0,.bool false,.slice none 0 0])] rfl (by kernel_rfl) (List.forall_mem_cons.2 ⟨fun _ _ _ h g=>h.up g,List.forall_mem_cons.2 ⟨fun _ _ _ h g=>h.up g,List.forall_mem_cons.2 ⟨fun _ _ _ h g=>h.up g,List.forall_mem_cons.2 ⟨fun _ _ _ h g=>h.up g,List.forall_mem_cons.2 ⟨fun _ _ _ h g=>h.up g,List.forall_mem_nil _⟩⟩⟩⟩⟩) (fun _ _ h=>h) hHeld ?_;clear y0 y1 y2 y3 y4 y5 nf nlt x0 x1 x2 x3 xl;refine relyL_cons (i:=2) rfl (fun s w3 hC hn hK=>?_) (fun v2=>?_)
     ·unfold relyOp;go_simp;simp only [relyUpon]
      refine (parseV HVM.o w3).mono ?_;rintro e w4 ⟨hb4,r,rfl,hr⟩;exact ⟨_,rfl,⟨r,rfl,hr⟩,hC.tm hb4,hb4⟩
     try simp only [Act.put,sA_,sB_,sC_]
     refine relyL_cons (i:=6) rfl (fun s w3 hC hn hK=>?_) (fun v6=>?_)
     ·unfold relyOp;go_simp;simp only [relyUpon]
      refine (formOf_any _ x HOK.o h8 g m _ mi w3 (HX.o.up (HWA.o.tm hC)) (HG.o.below (HBA.o.tm hC) HG.o.lt) (HR.o.up (HBA.o.tm hC)) HMO.o.1 HMO.o.2).mono ?_;rintro e w5 ⟨hb5,gc,u,rfl,hq,hv⟩;exact ⟨_,rfl,⟨gc,u,rfl,hq,hv⟩,hC.tm hb5,hb5⟩
     try simp only [Act.put,sA_,sB_,sC_]
     refine relyL_cons (i:=8) rfl (fun s w3 hC hn hK=>?_) (fun v8=>?_)
     ·have k6:s 6=some v6∧FormQ (busN x) (formR x mi) v6 w3:=hK 6 (by kernel_rfl)
      obtain ⟨-,gc,u,rfl,hq,hu⟩:=k6;have h0:=formR_ok HOK.o HMO.o;unfold relyOp;go_simp;simp only [relyUpon];refine (fatG_any (some ⟨gc,0,none⟩) (busN x) (busN x) u (formR x mi).1 (formR x mi).2 A4 n4 c4 (ss.map qOf) w3 hq hu ((HQ.o.below (HBA.o.tm hC) lR).more (zI_ HBA.o.size hC.size)) (by rw [HN4.o,HMB.o];exact lR) (by have:=HMB.o;omega) (fun p hp=>zI_ (h0.cf p hp) (by decide)) (fun p hp=>zI_ (HQS.o p hp) (by decide)) (zI_ h0.fr (by decide))).mono ?_;rintro e w4 ⟨hb4,r,rfl,hr⟩;exact ⟨_,rfl,⟨r,rfl,hr⟩,hC.tm hb4,hb4⟩
     try simp only [Act.put,sA_,sB_,sC_]
     refine relyL_cons (i:=9) rfl (fun s w3 hC hn hK=>?_) (fun v9=>?_)
     ·have k2:s 2=some v2∧RtQ (qOf mi.txt) v2 w3:=hK 2 (by kernel_rfl)
      have k8:s 8=some v8∧RtQ (dotR (formR x mi).1 (ss.map qOf)+(formR x mi).2) v8 w3:=hK 8 (by kernel_rfl);obtain ⟨-,r2',rfl,h2⟩:=k2;obtain ⟨-,r8,rfl,h8'⟩:=k8;unfold relyOp;go_simp;simp only [relyUpon];refine (subV h2 h8' (by have:=HTM.o;omega)).mono ?_;rintro e w4 ⟨hb4,r,rfl,hr⟩;exact ⟨_,rfl,⟨r,rfl,hr⟩,hC.tm hb4,hb4⟩
     try simp only [Act.put,sA_,sB_,sC_]
     refine relyL_cons (i:=10) rfl (fun s w3 hC hn hK=>?_) (fun v10=>?_)
     ·unfold relyOp;go_simp;simp only [relyUpon]
      exact ⟨⟨_,rfl,hC.size,Blk.new _ _ _⟩,hC.alloc hC.size _,bA⟩
     try simp only [Act.put,sA_,sB_,sC_]
     refine relyL_nil (fun s wc hC hK=>?_);have k9:s 9=some v9∧RtQ (qOf mi.txt-(dotR (formR x mi).1 (ss.map qOf)+(formR x mi).2)) v9 wc:=hK 9;have k10:s 10=some v10∧NewQ wa.heap.size 115 #[.bool false,.slice none 0 0,.bool false,.slice none 0 0] v10 wc:=hK 10;obtain ⟨-,r9,rfl,h9⟩:=k9;obtain ⟨-,gv,rfl,hgv,hbv⟩:=k10;have HBC:=lH hC;have HR9:=lH h9;have HGV:=lH hgv;have HBV:=lH hbv;clear hC hK h9 hgv hbv hHeld;have z0:=HBV.o.cell 0;have z1:=HBV.o.cell 1;have z2:=HBV.o.cell 2;have z3:=HBV.o.cell 3;have zl:=HBV.o.lt;have zf:=HBV.o.frozen;refine lastQ_go (by rfl) ?_
     go_upto_region 14 with fail
     clear z0 z1 z2 z3 zl zf;have HBX0:=lH (qput (v:=r9) (x:=rv0) HBV.o);have HBD0:=lH (below_putQ (v:=r9) HBC.o HGV.o);have HRX0:=lH (HR9.o.keepq (v:=r9) (x:=rv0) HBV.o);unfold putQ at HBD0 HRX0;generalize (((wc.setCell ⟨gv,0,none⟩ _).setCell ⟨gv,1,none⟩ _).setCell ⟨gv,2,none⟩ _).setCell ⟨gv,3,none⟩ _=wd at *;have HGSd:=lH (HGSr.o.bl HBD0.o);have HSVd:=lH (HSVr.o.up HBD0.o);have HMBd:=lH (HMB2.o.bl HBD0.o);have HBd:=lH (HBA.o.tm HBD0.o);clear HBC HR9 HGV HBV HGSr HSVr HMB2 HBA HWA HBD0;have z0:=HBX0.o.cell 0;have z1:=HBX0.o.cell 1;have z2:=HBX0.o.cell 2;have z3:=HBX0.o.cell 3;have zl:=HBX0.o.lt;have g0:=HGSd.o.cell 0;have g1:=HGSd.o.cell 1;have g2:=HGSd.o.cell 2;have g3:=HGSd.o.cell 3;have gl:=HGSd.o.lt;have m3:=HMBd.o.cell 3;have ml:=HMBd.o.lt;have HB4:=lH (below_drew (Below.refl wd.heap.size wd))
     have HSUM:Hid (qsz (sumR ((ms.map (termR x (ss.map qOf))).take k))+84020+1≤35184372088832):=lH (by
      have h:=sumR_qsz k ((ms.map (termR x (ss.map qOf))).take k) (by rw [zF_,zG_];have:=HML.o;have:=HLT.o;omega) 84020 (fun q hq=>by
       obtain ⟨m2,hm2,rfl⟩:=List.mem_map.1 (List.mem_of_mem_take hq);exact (HTQ.o m2 hm2).2.2.2.2.2)
      have:=HN64.o;have:=HLT.o;omega)
     refine wp_region_last (S:=fun w'=>Below wd.heap.size wd w') 9 _ (by kernel_rfl) (by kernel_rfl) rfl (below_drew bR) (fun hHeld=>?_);simp only [zK_,List.take_zero];refine tkH 0 rfl ?_;refine tkH 1 rfl ?_;refine tkH 2 rfl ?_;refine tkH 4 rfl ?_;refine tkH 6 rfl ?_;clear z0 z1 z2 z3 zl g0 g1 g2 g3 gl m3 ml;refine stepH 3 (by kernel_rfl) rfl (fun K hK=>?_);go_simp;refine (wholeV mi.wt _ (by have:=HWM.o;omega) (by have:=HWM.o;omega)).mono ?_;rintro e w7 ⟨hb7,r7,rfl,h7⟩;have HB5:Hid (Below wd.heap.size wd w7):=lH (HB4.o.tm hb7);have H7:=lH h7;clear hb7 h7;go_simp;refine hK.out _ _ ?_ (fun hHeld=>?_)
     ·exact HB5.o
     clear hK K
     try simp only [Act.put,sA_,sB_,sC_]
     refine stepH 5 (by kernel_rfl) rfl (fun K hK=>?_);go_simp;refine (mulV H7.o (HRX0.o.up HB5.o) (by have:=HTM.o;omega)).mono ?_;rintro e w8 ⟨hb8,r8,rfl,h8'⟩;have HB6:Hid (Below wd.heap.size wd w8):=lH (HB5.o.tm hb8);have H8:=lH h8';clear hb8 h8';go_simp;refine hK.out _ _ ?_ (fun hHeld=>?_)
     ·exact HB6.o
     clear hK K
     try simp only [Act.put,sA_,sB_,sC_]
     refine stepH 7 (by kernel_rfl) rfl (fun K hK=>?_);go_simp;refine (mulV H8.o (HRX0.o.up HB6.o) (by have:=HTM.o;omega)).mono ?_;rintro e w9 ⟨hb9,r9b,rfl,h9'⟩;have HB7:Hid (Below wd.heap.size wd w9):=lH (HB6.o.tm hb9);have H9:=lH (show RtV w9 w9.heap.size (termR x (ss.map qOf) mi) r9b from h9');clear hb9 h9';go_simp;refine hK.out _ _ ?_ (fun hHeld=>?_)
     ·exact HB7.o
     clear hK K
     try simp only [Act.put,sA_,sB_,sC_]
     refine stepH 8 (by kernel_rfl) rfl (fun K hK=>?_);go_simp;refine (addV (HSVd.o.up HB7.o) H9.o (by have h1:=HSUM.o;have h2:=HTM.o.2.2.2.2.2;omega)).mono ?_;rintro e wq ⟨hbq,vq,rfl,hq⟩;have HBQ:Hid (Below wd.heap.size wd wq):=lH (HB7.o.tm hbq);have HVQ:=lH hq;clear hbq hq;go_simp;refine hK.out _ _ ?_ (fun hHeld=>?_)
     ·exact HBQ.o
     clear hK K
     try simp only [Act.put,sA_,sB_,sC_]
     refine wpAnyH_done (by kernel_rfl) ?_ _;refine lastQ_go (by rfl) ?_;clear hHeld;have HGSq:=lH (HGSd.o.bl HBQ.o);have HBq:=lH (HBd.o.tm HBQ.o);have HGS2:=lH (qput (v:=vq) (x:=sv) HGSq.o);have HBP:=lH (below_putQ (v:=vq) HBq.o HGW.o);have HVP:=lH (HVQ.o.keepq (v:=vq) (x:=sv) HGSq.o);unfold putQ at HBP HVP;have z0:=HGSq.o.cell 0;have z1:=HGSq.o.cell 1;have z2:=HGSq.o.cell 2;have z3:=HGSq.o.cell 3;have zl:=HGSq.o.lt;have zf:=HGSq.o.frozen;clear HB4 HB5 HB6 HB7 HBQ H7 H8 H9 HSUM HVQ HBd HGSd HSVd HMBd HBX0 HRX0;have hn64b:=HN64.o
     go_wp2_with fail
     go_roundw
     case rel=>exact ⟨k+1,vq,HLT.o,val_int HNX.o,HGS2.o,by rw [HTK.o,sumR_snoc];exact HVP.o,HBP.o⟩
     case measure=>exact HNM.o
    ·have hke:k=n:=by omega
     subst hke;have hkI:¬(k:Int)<(k:Int):=by omega
     have HVE:Hid (RtV wr wr.heap.size (costR x ms (ss.map qOf)) sv):=lH (by
      have h:=HSVr.o;rw [zH_ (by rw [zG_];have:=HML.o;omega)] at h;exact h)
     have HBW:=lH (HB4.o.tm HB.o);have g0:=HGSr.o.cell 0;have g1:=HGSr.o.cell 1;have g2:=HGSr.o.cell 2;have g3:=HGSr.o.cell 3;have gl:=HGSr.o.lt;clear HSVr
     go_wp2_with fail
     refine (textV HVE.o (HT.o.up HBW.o)).mono ?_;rintro e w9 ⟨hb9,st,rfl,hst⟩;have HB9:=lH (HK.o.trans ((HBW.o.tm hb9).mono HSZ.o));have HST:=lH hst;clear hb9 hst
     by_cases hf:Fits (costR x ms (ss.map qOf))
     ·have hst:=HST.o hf
      rw [show (⟨(textQ (costR x ms (ss.map qOf))).toArray⟩:ByteArray)=txtQ (costR x ms (ss.map qOf)) from rfl] at hst;subst hst;have hd:decide (Fits (costR x ms (ss.map qOf)))=true:=decide_eq_true hf;have HF:=lH hf;rw [hd];clear hd hf
      go_wp2_with fail
      go_ret2;rw [HRP.o];exact ⟨HB9.o,.inr ⟨by trivial,fun _=>rfl,fun h=>absurd HF.o h⟩⟩
     ·have hd:decide (Fits (costR x ms (ss.map qOf)))=false:=decide_eq_false hf
      have HF:=lH hf;rw [hd];clear hd hf
      go_wp2_with fail
      go_ret2;rw [HRP.o];exact ⟨HB9.o,.inr ⟨by trivial,fun h=>absurd h HF.o,fun _=>rfl⟩⟩
  ·have hB:(re != 0)=true:=by simp [hre]
   go_wp2_with fail
   go_ret2;rw [HRP.o];exact ⟨HK.o.trans (HB3.o.mono HSZ.o),.inl ⟨hre,rfl⟩⟩
 ·have hckB:(mtCk x ms != 0)=true:=by simp [hck]
  rw [if_pos hck] at HRE
  go_wp2_with fail
  go_ret2;rw [HRP.o];exact ⟨HK.o.trans (HB1.o.mono HSZ.o),.inl ⟨by rw [HRE.o];exact hck,by rw [HRE.o];rfl⟩⟩
end
end Go.Proofs.YthgdchffeigkbaaGreatDoor
