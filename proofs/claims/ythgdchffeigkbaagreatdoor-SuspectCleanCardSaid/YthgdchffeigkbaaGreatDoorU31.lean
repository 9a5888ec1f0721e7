import Derived.Test.YthgdchffeigkbaaGreatDoorU27
set_option linter.unusedVariables false
set_option linter.unusedSimpArgs false
namespace Go.Proofs.YthgdchffeigkbaaGreatDoor
set_option maxHeartbeats 8000000
set_option maxRecDepth 100000
section
open Go.ChangeShapes Go.WideShapes Go.ChangeAt Go.RowKit
attribute [local go_sem ↓] execOp_call_val
attribute [local go_sem] callVal_func setCell_drewN alloc_drewN sEq_walk
theorem formOf_any (h:NetH) (x:Net) (ok:NetOk x) (h8:x.nodes.length≤8) (g:Nat) (m:ModH) (y:Value) (mi:Mi) (w:World) (r:RdNet w w.heap.size h x) (hg:Blk w g 122 (m.cells y)) (hr:RdMod w w.heap.size m x) (h0:mi.kind=0→0≤brIdx x mi.name) (h1:mi.kind≠0→mi.name∈x.nodes) :
    Calls Tryz.prog 63 #[.agg h.cells,.pointer (some ⟨g,0,none⟩),mi.val] w (FormP x mi w):=by
 have HN1:Hid (busN x=m.n1):=lH (by rw [←islR_len ok];exact hr.r1.len);have HX:=lH r;have HG:=lH hg;have HR:=lH hr;have H0:=lH h0;have H1:=lH h1;have HOK:=lH ok;have hnb:m.n1≤8:=by rw [←HN1.o];exact zI_ (busN_ok ok).2 h8
 have HNB:=lH hnb;obtain ⟨kind,name,txt,wt⟩:=mi;simp only [Mi.val];have Q0:Below w.heap.size w ((((w.alloc (.cells h.cells 29)).alloc (.cells #[.pointer (some ⟨g,0,none⟩)] 90)).alloc (.cells #[.int .i64 kind,.string name,.string txt,.int .i64 wt] 57)).alloc (.cells #[.slice none 0 0,.bool false,.slice none 0 0,.bool false,.slice none 0 0] 117)):=(((Below.alloc (Below.refl _ w) lR _).alloc (by simp<;>omega) _).alloc (by simp<;>omega) _).alloc (by simp<;>omega) _;have HW:=lH Q0;have P0:=lH (((Blk.new w 29 h.cells).alloc (.cells #[.pointer (some ⟨g,0,none⟩)] 90)).alloc (.cells #[.int .i64 kind,.string name,.string txt,.int .i64 wt] 57) |>.alloc (.cells #[.slice none 0 0,.bool false,.slice none 0 0,.bool false,.slice none 0 0] 117))
 have P1:Hid (Blk ((((w.alloc (.cells h.cells 29)).alloc (.cells #[.pointer (some ⟨g,0,none⟩)] 90)).alloc (.cells #[.int .i64 kind,.string name,.string txt,.int .i64 wt] 57)).alloc (.cells #[.slice none 0 0,.bool false,.slice none 0 0,.bool false,.slice none 0 0] 117)) (w.heap.size+1) 90 #[.pointer (some ⟨g,0,none⟩)]):=lH (((Blk.new_ (by simp)).alloc _).alloc _);have P2:Hid (Blk ((((w.alloc (.cells h.cells 29)).alloc (.cells #[.pointer (some ⟨g,0,none⟩)] 90)).alloc (.cells #[.int .i64 kind,.string name,.string txt,.int .i64 wt] 57)).alloc (.cells #[.slice none 0 0,.bool false,.slice none 0 0,.bool false,.slice none 0 0] 117)) (w.heap.size+1+1) 57 #[.int .i64 kind,.string name,.string txt,.int .i64 wt]):=lH ((Blk.new_ (by simp)).alloc _)
 have P3:Hid (Blk ((((w.alloc (.cells h.cells 29)).alloc (.cells #[.pointer (some ⟨g,0,none⟩)] 90)).alloc (.cells #[.int .i64 kind,.string name,.string txt,.int .i64 wt] 57)).alloc (.cells #[.slice none 0 0,.bool false,.slice none 0 0,.bool false,.slice none 0 0] 117)) (w.heap.size+1+1+1) 117 #[.slice none 0 0,.bool false,.slice none 0 0,.bool false,.slice none 0 0]):=lH (Blk.new_ (by simp));clear r hg hr h0 h1 ok Q0 hnb;obtain ⟨A0,n0,c0,A1,n1,c1,A2,n2,c2,A3,n3,c3,A4,n4,c4,A5,n5,c5,A6,n6,c6⟩:=m;simp only [ModH.cells] at HG HN1 HNB;go_enter Tryz.func63,Tryz.ntmps63
 go_upto_region 1 with fail
 have HSZ:Hid (((((w.alloc (.cells h.cells 29)).alloc (.cells #[.pointer (some ⟨g,0,none⟩)] 90)).alloc (.cells #[.int .i64 kind,.string name,.string txt,.int .i64 wt] 57)).alloc (.cells #[.slice none 0 0,.bool false,.slice none 0 0,.bool false,.slice none 0 0] 117)).heap.size=w.heap.size+1+1+1+1):=lH (by simp);generalize ((((w.alloc (.cells h.cells 29)).alloc (.cells #[.pointer (some ⟨g,0,none⟩)] 90)).alloc (.cells #[.int .i64 kind,.string name,.string txt,.int .i64 wt] 57)).alloc (.cells #[.slice none 0 0,.bool false,.slice none 0 0,.bool false,.slice none 0 0] 117))=wa at *;have b0:=P1.o.cell 0;have bl:=P1.o.lt
 go_wp2_with fail
 refine (mbuses_any g ⟨A0,n0,c0,A1,n1,c1,A2,n2,c2,A3,n3,c3,A4,n4,c4,A5,n5,c5,A6,n6,c6⟩ y wa (HG.o.bl HW.o)).mono ?_;rintro e w1 ⟨rfl,rfl⟩
 go_wp2_with fail
 refine (zeros_any n1 wa (by have:=HNB.o;omega)).mono ?_;rintro e w1 ⟨hb1,gc,v,rfl,hgc,hbc,hv⟩
 go_wp2_with fail
 refine (wholeV 0 w1 (by decide) (by decide)).mono ?_;rintro e w2 ⟨hb2,u,rfl,hu⟩;have HF0:=lH (form_made (gc:=gc) (n:=n1) (hbc.bl hb2) (hv.up hb2) hu);have HB2:=lH (HW.o.trans ((hb1.tm hb2).mono HW.o.size));have HBM:=lH (below_mkF (w:=w2) (gc:=gc) (n:=n1) (u:=u));have HGC:Hid (wa.heap.size≤gc∧gc<w2.heap.size):=lH ⟨hgc,zJ_ hbc.lt hb2.size⟩;have HS2:Hid (wa.heap.size≤w2.heap.size):=lH (zI_ hb1.size hb2.size);have hz:Below wa.heap.size wa w2:=hb1.tm hb2;replace P0:=lH (P0.o.bl hz);replace P1:=lH (P1.o.bl hz);replace P2:=lH (P2.o.bl hz);replace P3:=lH (P3.o.bl hz);clear hb1 hb2 hgc hbc hv hu hz b0 bl
 go_upto_region 2 with fail
 unfold mkF at HF0 HBM;generalize hwb:w2.alloc (.cells #[.slice (some ⟨gc,0,none⟩) n1 n1,.bool u.b1,.slice u.A u.n u.c,.bool u.b2,.slice u.A2 u.m u.d] 117)=wb at *;clear hwb;have HW3:=lH (HB2.o.tm HBM.o);have EV:Hid (FEnv wb wa.heap.size (w.heap.size+1) g ⟨A0,n0,c0,A1,n1,c1,A2,n2,c2,A3,n3,c3,A4,n4,c4,A5,n5,c5,A6,n6,c6⟩ y x w2.heap.size gc):=lH ⟨HS2.o,HGC.o.1,by have:=HSZ.o;omega,by have:=HSZ.o;have:=HG.o.lt;omega,by have:=HBM.o.size;have:=HS2.o;omega,P1.o.bl HBM.o,HG.o.bl HW3.o,(HR.o.below HW3.o lR).more (by have:=HSZ.o;omega)⟩;replace P0:=lH (P0.o.bl HBM.o);replace P2:=lH (P2.o.bl HBM.o);replace P3:=lH (P3.o.bl HBM.o);generalize hgf:w2.heap.size=gf at *;have HGF:Hid (wa.heap.size≤gf):=lH (by have:=HS2.o;omega);clear hgf HBM HB2 P1 HS2 HG;have k0:=P2.o.cell 0;have kl:=P2.o.lt
 go_upto_if 19 with fail
 clear k0 kl;obtain ⟨D0,r0,s0,D1,r1,s1,D2,r2,s2,D3,r3,s3,D4,r4,s4,D5,r5,s5⟩:=h
 by_cases hk:kind=0
 ·subst hk
  have hbi:=H0.o rfl;rcases brIdx_spec x name with ⟨h1,_⟩ | ⟨i,b,h1,h2,h3⟩
  ·exact absurd (show 0≤brIdx x name from hbi) (by omega)
  clear hbi h3;have HBI:=lH h1;have HBR:=lH h2;clear h1 h2;obtain ⟨y0,y1,y2,y3,y4,y5,nf,nlt⟩:=net_box P0.o;dsimp only at y0 y1 y2 y3 y4 y5;have k1:=P2.o.cell 1;have kl:=P2.o.lt
  go_wp2_with fail
  refine (mbranch_any _ x name wb (HX.o.up HW3.o)).mono ?_;rintro e w5 ⟨rfl,hb5⟩;rw [HBI.o]
  go_wp2_with fail
  refine (addx_any (s:=(zrs n1,0)) (EV.out.oth (oth_below hb5)) (HF0.o.up hb5) (zrs_ok n1) (by decide) HN1.o.symm h8 HOK.o HBR.o false).mono ?_;rintro e w6 ⟨rfl,ho,vs2,u2,hf⟩;have HO:Hid (Oth gf gc wb w6):=lH ((oth_below hb5).trans ho);have HF:=lH hf;clear hb5 ho hf k1 kl;clear y0 y1 y2 y3 y4 y5 nf nlt;have HFE:Hid (formR x ⟨0,name,txt,wt⟩=(addF (sg false (susR b)) (busAt x b.fr) (busAt x b.to) (zrs n1),0+sg false (conR b))):=lH (by
   obtain ⟨a1,a2,a3,a4⟩:=mFrom_at HBR.o;unfold formR;rw [if_pos rfl];simp only [HBI.o,zL_,HN1.o,zD_,vf,a1,a2,a3,a4];rfl)
  have HQL:Hid ((addF (sg false (susR b)) (busAt x b.fr) (busAt x b.to) (zrs n1)).length=n1):=lH (by rw [addF_len];simp [zrs]);have HL:Hid (Below w.heap.size w w6):=lH (HW3.o.trans (HO.o.below (by have:=HSZ.o;have:=HGF.o;omega) (by have:=HSZ.o;have:=HGC.o.1;omega) HW3.o.size));have P3b:Hid (Blk w6 (w.heap.size+1+1+1) 117 #[.slice none 0 0,.bool false,.slice none 0 0,.bool false,.slice none 0 0]):=lH (HO.o.blk P3.o (by have:=HSZ.o;have:=HGF.o;omega) (by have:=HSZ.o;have:=HGC.o.1;omega));have HPC:Hid (gc≠w.heap.size+1+1+1):=lH (by have:=HSZ.o;have:=HGC.o.1;omega);have q0:=HF.o.blk.cell 0;have q1:=HF.o.blk.cell 1;have q2:=HF.o.blk.cell 2;have q3:=HF.o.blk.cell 3;have q4:=HF.o.blk.cell 4;rw [HQL.o] at q0;have z0:=P3b.o.cell 0;have z1:=P3b.o.cell 1;have z2:=P3b.o.cell 2;have z3:=P3b.o.cell 3;have z4:=P3b.o.cell 4;have ql:=HF.o.blk.lt;have zl:=P3b.o.lt;have zf:=P3b.o.frozen
  go_wp2_with fail
  have HPB:=lH (put5_blk (gc:=gc) (n:=n1) (u:=u2) P3b.o);clear q0 z0 q1 z1 q2 z2 q3 z3 q4 z4 ql zl zf;have p0:=HPB.o.cell 0;have p1:=HPB.o.cell 1;have p2:=HPB.o.cell 2;have p3:=HPB.o.cell 3;have p4:=HPB.o.cell 4;unfold put5 at p0 p1 p2 p3 p4;refine bodyPost_ret (v:=.agg #[.slice (some ⟨gc,0,none⟩) n1 n1,.bool u2.b1,.slice u2.A u2.n u2.c,.bool u2.b2,.slice u2.A2 u2.m u2.d]) (by simp [results,Tryz.results63,go_sem,p0,p1,p2,p3,p4]) rfl ?_;refine ⟨below_put5 (gc:=gc) (n:=n1) (u:=u2) HL.o (by omega),gc,u2,by rw [HN1.o],?_,?_⟩
  ·have h:=HF.o.rdq P3b.o HPC.o (n:=n1) (y:=u2)
   rw [HN1.o,HFE.o];rw [HQL.o] at h;exact h
  ·rw [HFE.o]
   exact HF.o.val.keep5 P3b.o (gc:=gc) (n:=n1) (u:=u2)
 ·have hkB:(kind == 0)=false:=by simp [hk]
  rw [hkB];have hm:=H1.o hk;obtain ⟨ha1,ha2,ha3⟩:=busAt_ok HOK.o hm;obtain ⟨hi1,hi2⟩:=ndIdx_ok hm;have HA:Hid (∀ N,Calls Tryz.prog 91 #[.slice D0 r0 s0,.string name] (wb.drewN N) fun e w'=>e=.returned (.int .i64 (ndIdx x.nodes name:Int))∧w'=wb.drewN N):=lH fun N=>by
   have hx:=HX.o.up (below_drewN HW3.o N);exact (index_str _ _ s0 x.nodes name _ hx.r0 hx.m0).mono fun e w' ⟨he,hw⟩=>⟨by rw [he,hi1],hw.symm⟩
  have HBN:Hid (busAt x name<n1):=lH (by rw [←HN1.o];exact ha2);have hr0:=EV.out.rd.r0;simp only at hr0;have hr1:=hr0.2 (by have:=hr0.len;omega);obtain ⟨tb,to2,hA,htb,-⟩:=hr1;subst hA;have f0:=hr0.at_ (i:=ndIdx x.nodes name) (z:=(busAt x name:Int)) (by rw [zD_] at ha1;rw [zA_ ha3] at ha1 ⊢;simpa using ha1);have hiI:((ndIdx x.nodes name:Nat):Int)<(n0:Int):=by have:=hr0.len;omega
  have hi0:(0:Int)≤((ndIdx x.nodes name:Nat):Int):=by omega
  have hin:((ndIdx x.nodes name:Nat):Int).toNat=ndIdx x.nodes name:=zL_ _;have htl:tb<wb.heap.size:=zJ_ htb EV.out.hs;obtain ⟨y0,y1,y2,y3,y4,y5,nf,nlt⟩:=net_box P0.o;dsimp only at y0 y1 y2 y3 y4 y5;have k1:=P2.o.cell 1;have k0:=P2.o.cell 0;have kl:=P2.o.lt;have b0:=EV.out.box.cell 0;have bl:=EV.out.box.lt;have g0:wb.cell? ⟨g,0,none⟩=some (.slice (some ⟨tb,to2,none⟩) n0 c0):=EV.out.md.cell 0;have gl:=EV.out.md.lt;clear hi1 hi2 ha1 ha2 ha3 hm hr0 htb;generalize ndIdx x.nodes name=ia at *;generalize hK:busAt x name=bus at *;have HBUS:=lH hK;clear hK
  go_wp2_with fail
  go_quiet ((go_at_call_of 91 (Value.string name);exact (HA.o _).mono (fun _ _ hh=>⟨hh.1,_,hh.2⟩)))
  have hd:=below_drewN (Below.refl wb.heap.size wb) nq;replace EV:=lH (EV.out.oth (oth_below hd));replace HF0:=lH (HF0.o.up hd);replace P2:=lH (P2.o.bl hd);replace P3:=lH (P3.o.bl hd);replace HW3:=lH (below_drewN HW3.o nq);clear y0 y1 y2 y3 y4 y5 nf nlt;clear hd k0 k1 kl b0 bl g0 gl f0 HA hiI hi0 hin htl hkB P0 HX;generalize wb.drewN nq=wd at *;have k0:=P2.o.cell 0;have kl:=P2.o.lt;have HZL:Hid ((zrs n1).length=n1):=lH (by simp [zrs])
  by_cases hk2:kind=2
  ·subst hk2
   obtain ⟨xe,hx,c0,c1,c2',c3',hv,l1,f1⟩:=HF0.o.elem (j:=bus) (by rw [HZL.o];exact HBN.o);have HXX:=lH hx;have q0:=HF0.o.blk.cell 0;rw [HZL.o] at q0;have ql:=HF0.o.blk.lt;have hixI:(bus:Int)<(n1:Int):=by have:=HBN.o;omega
   have hix0:=lZ bus
   have hixn:=zL_ bus;have HB4:=lH (below_drew (Below.refl wd.heap.size wd));clear hx hv
   go_upto_region 8 with fail
   clear k0 kl;refine wp_region_last (S:=fun w'=>Below wd.heap.size wd w') 5 _ (by kernel_rfl) (by kernel_rfl) rfl (below_drew bR) (fun hHeld=>?_);simp only [zK_,List.take_zero];refine tkH 0 rfl ?_;refine tkH 1 rfl ?_;refine tkH 2 rfl ?_;refine stepH 3 (by kernel_rfl) rfl (fun K hK=>?_);go_simp;refine (wholeV 1 wd.drew (by decide) (by decide)).mono ?_;rintro e w8 ⟨hb8,v8,rfl,h8⟩;have HB8:Hid (Below wd.heap.size wd w8):=lH (HB4.o.tm hb8);have H8:Hid (RtV w8 w8.heap.size 1 v8):=lH h8;clear hb8 h8;go_simp;refine hK.out _ _ ?_ (fun hHeld=>?_)
   ·exact HB8.o
   clear hK K
   try simp only [Act.put,sA_,sB_,sC_]
   refine tkH 4 rfl ?_;refine wpAnyH_done (by kernel_rfl) ?_ _;refine lastQ_go (by rfl) ?_;clear hHeld;have HF8:=lH (HF0.o.up HB8.o);have HO8:Hid (Oth gf gc wd w8):=lH (oth_below HB8.o);clear c0 c1 c2' c3' l1 f1 q0 ql HF0 HB4 HB8;obtain ⟨c0,c1,c2',c3',l1,f1⟩:=HF8.o.elem2 HXX.o
   go_upto_region 9 with fail
   clear c0 c1 c2' c3' l1 f1;have HF:=lH (HF8.o.put (j:=bus) (by rw [HZL.o];exact HBN.o) H8.o);have HO:Hid (Oth gf gc wd (putV w8 gc bus v8)):=lH (HO8.o.trans oth_putV);clear HF8 HO8 H8 HXX hixI hix0 hixn;simp only [putV] at HF HO;generalize (((w8.setCell ⟨gc,bus*4,none⟩ _).setCell ⟨gc,bus*4+1,none⟩ _).setCell ⟨gc,bus*4+2,none⟩ _).setCell ⟨gc,bus*4+3,none⟩ _=we at *;replace HW3:=lH HW3.o;have HFE:Hid (formR x ⟨2,name,txt,wt⟩=((zrs n1).set bus 1,0)):=lH (by unfold formR;rw [if_neg (show ¬(2:Int)=0 by decide),if_pos rfl,HN1.o];simp only [HBUS.o]);have HQL:Hid (((zrs n1).set bus 1).length=n1):=lH (by rw [zU_];exact HZL.o);have HL:Hid (Below w.heap.size w we):=lH (HW3.o.trans (HO.o.below (by have:=HSZ.o;have:=HGF.o;omega) (by have:=HSZ.o;have:=HGC.o.1;omega) HW3.o.size))
   have P3b:Hid (Blk we (w.heap.size+1+1+1) 117 #[.slice none 0 0,.bool false,.slice none 0 0,.bool false,.slice none 0 0]):=lH (HO.o.blk P3.o (by have:=HSZ.o;have:=HGF.o;omega) (by have:=HSZ.o;have:=HGC.o.1;omega));have HPC:Hid (gc≠w.heap.size+1+1+1):=lH (by have:=HSZ.o;have:=HGC.o.1;omega);have q0:=HF.o.blk.cell 0;have q1:=HF.o.blk.cell 1;have q2:=HF.o.blk.cell 2;have q3:=HF.o.blk.cell 3;have q4:=HF.o.blk.cell 4;rw [HQL.o] at q0;have z0:=P3b.o.cell 0;have z1:=P3b.o.cell 1;have z2:=P3b.o.cell 2;have z3:=P3b.o.cell 3;have z4:=P3b.o.cell 4;have ql:=HF.o.blk.lt;have zl:=P3b.o.lt;have zf:=P3b.o.frozen
   go_wp2_with fail
   have HPB:=lH (put5_blk (gc:=gc) (n:=n1) (u:=u) P3b.o);clear q0 z0 q1 z1 q2 z2 q3 z3 q4 z4 ql zl zf;have p0:=HPB.o.cell 0;have p1:=HPB.o.cell 1;have p2:=HPB.o.cell 2;have p3:=HPB.o.cell 3;have p4:=HPB.o.cell 4;unfold put5 at p0 p1 p2 p3 p4;refine bodyPost_ret (v:=.agg #[.slice (some ⟨gc,0,none⟩) n1 n1,.bool u.b1,.slice u.A u.n u.c,.bool u.b2,.slice u.A2 u.m u.d]) (by simp [results,Tryz.results63,go_sem,p0,p1,p2,p3,p4]) rfl ?_;refine ⟨below_put5 (gc:=gc) (n:=n1) (u:=u) HL.o (by omega),gc,u,by rw [HN1.o],?_,?_⟩
   ·have h:=HF.o.rdq P3b.o HPC.o (n:=n1) (y:=u)
    rw [HN1.o,HFE.o];rw [HQL.o] at h;exact h
   ·rw [HFE.o]
    exact HF.o.val.keep5 P3b.o (gc:=gc) (n:=n1) (u:=u)
  ·have hkB2:(kind == 2)=false:=by simp [hk2]
   have b0:=EV.out.box.cell 0;have bl:=EV.out.box.lt;have g4:wd.cell? ⟨g,4,none⟩=some (.slice A4 n4 c4):=EV.out.md.cell 4;have gl:=EV.out.md.lt;have HFE:Hid (formR x ⟨kind,name,txt,wt⟩=injGo bus (mB x) (mC x) (mFrom x) (mTo x) (zrs n1,0)):=lH (by unfold formR;rw [if_neg (show ¬kind=0 from hk),if_neg (show ¬kind=2 from hk2),HN1.o];simp only [HBUS.o]);generalize hRR:injGo bus (mB x) (mC x) (mFrom x) (mTo x) (zrs n1,0)=RR at *;have HRR:=lH hRR;clear hRR;have HN4:Hid (x.brs.length=n4):=lH (by rw [←mB_len];exact EV.out.rd.r4.len);have HN2:Hid (x.brs.length=n2):=lH (by rw [←mFrom_len,←natJ_len];exact EV.out.rd.r2.len);have HN3:Hid (x.brs.length=n3):=lH (by rw [←mTo_len,←natJ_len];exact EV.out.rd.r3.len);have hn4:n4≤24:=by have:=HOK.o.l2;have:=HN4.o;omega
   go_wp2_with fail
   clear k0 kl hkB2 b0 bl g4 gl
   go_loopw [53] (fun v53 wr=>∃ (k:Nat) (vs:List Rv) (u2:Rv) (s:List Rat×Rat),k≤n4∧v53=.int .i64 k∧Oth gf gc wd wr∧FmS wr gf gc vs u2 s.1 s.2∧FOk n1 (2+12*k) s∧injGo bus ((mB x).drop k) ((mC x).drop k) ((mFrom x).drop k) ((mTo x).drop k) s=RR) (fun v53 _=>n4-(intOf v53).toNat)
   case atStart=>exact ⟨0,_,_,(zrs n1,0),by omega,rfl,oth_below bR,HF0.o,zrs_ok n1,HRR.o⟩
   case round=>
    clear HF0 HRR;obtain ⟨k,vs,u2,s,hk,rfl,ho,hf,hok,hgo⟩:=hrel;have HO:=lH ho;have HF:=lH hf;have HFK:=lH hok;have HGO:=lH hgo;clear ho hf hok hgo
    by_cases hlt:k<n4
    ·obtain ⟨b,hb⟩:∃ b,x.brs[k]?=some b:=zX_ (by have:=HN4.o;omega)
     have HBR:=lH hb;obtain ⟨a1,a2,a3,a4⟩:=mFrom_at hb;have HST:=lH ((injGo_cons (s:=s) (bus:=bus) a3 a4 a1 a2).symm.trans HGO.o);have HFR:=lH a1;have HTO:=lH a2;clear hb a1 a2 a3 a4 HGO;have hkI:(k:Int)<(n4:Int):=by omega
     have hk2I:(k:Int)<(n2:Int):=by have:=HN2.o;have:=HN4.o;omega
     have hk3I:(k:Int)<(n3:Int):=by have:=HN3.o;have:=HN4.o;omega
     have hk0:=lZ k
     have hkn:=zL_ k;have HNX:=lN k;have HNM:Hid (n4-(k+1)<n4-k):=lH (by omega);have HK6:Hid (2+12*k+6≤1000000):=lH (by omega);generalize hbu:busAt x b.fr=bu at *;generalize hbv:busAt x b.to=bv at *;have HBU:=lH hbu;have HBV:=lH hbv;clear hbu hbv;have HE:=lH (EV.out.oth HO.o);have hrI:=HE.o.rd.r2;simp only at hrI;have hrI2:=hrI.2 (by have:=HN2.o;have:=HN4.o;omega);obtain ⟨fb2,fo2,hA,hfb,-⟩:=hrI2;subst hA;have f0:=hrI.at_ (natJ_at HFR.o);have hfl:fb2<wr.heap.size:=zJ_ hfb HE.o.hs;have b0:=HE.o.box.cell 0;have bl:=HE.o.box.lt;have g0:wr.cell? ⟨g,2,none⟩=some (.slice (some ⟨fb2,fo2,none⟩) n2 c2):=HE.o.md.cell 2;have gl:=HE.o.md.lt;clear hrI hfb;unfold injStep at HST;dsimp only at HST
     by_cases hu:bu=bus
     ·have huB:((bu:Int) == (bus:Int))=true:=by simp [hu]
      rw [if_pos hu] at HST
      go_wp2_with fail
      refine (addx_any (s:=s) HE.o HF.o HFK.o (by have:=HK6.o;omega) HN1.o.symm h8 HOK.o HBR.o false).mono ?_;rintro e w7 ⟨rfl,ho7,vs7,u7,hf7⟩;rw [HBU.o,HBV.o] at hf7;replace HFK:=lH (addx_ok HOK.o (s:=s) HFK.o HN1.o.symm HBR.o false);rw [HBU.o,HBV.o] at HFK;replace HO:=lH (HO.o.trans ho7);replace HF:=lH hf7;clear ho7 hf7 huB;clear f0 hfl b0 bl g0 gl HE;have HE:=lH (EV.out.oth HO.o);have hrI:=HE.o.rd.r3;simp only at hrI;have hrI2:=hrI.2 (by have:=HN3.o;have:=HN4.o;omega);obtain ⟨fb3,fo3,hA,hfb,-⟩:=hrI2;subst hA;have f0:=hrI.at_ (natJ_at HTO.o);have hfl:fb3<w7.heap.size:=zJ_ hfb HE.o.hs;have b0:=HE.o.box.cell 0;have bl:=HE.o.box.lt;have g0:w7.cell? ⟨g,3,none⟩=some (.slice (some ⟨fb3,fo3,none⟩) n3 c3):=HE.o.md.cell 3;have gl:=HE.o.md.lt;clear hrI hfb
      by_cases hv:bv=bus
      ·have hvB:((bv:Int) == (bus:Int))=true:=by simp [hv]
       go_wp2_with fail
       refine (addx_any (s:=(addF (sg false (susR b)) bu bv s.1,s.2+sg false (conR b))) HE.o HF.o HFK.o (by have:=HK6.o;omega) HN1.o.symm h8 HOK.o HBR.o true).mono ?_;rintro e w9 ⟨rfl,ho9,vs9,u9,hf9⟩;rw [HBU.o,HBV.o] at hf9;have HFK9:=lH (addx_ok HOK.o (s:=(addF (sg false (susR b)) bu bv s.1,s.2+sg false (conR b))) HFK.o HN1.o.symm HBR.o true);rw [HBU.o,HBV.o] at HFK9;have HO9:=lH (HO.o.trans ho9);have HF9:=lH hf9;clear ho9 hf9 f0 hfl b0 bl g0 gl;rw [if_pos hv] at HST
       go_wp2_with fail
       go_roundw
       case rel=>exact ⟨k+1,_,_,_,hlt,val_int HNX.o,HO9.o,HF9.o,HFK9.o.mono (by omega),HST.o⟩
       case measure=>exact HNM.o
      ·have hvB:((bv:Int) == (bus:Int))=false:=by simp;omega
       rw [if_neg hv] at HST
       go_wp2_with fail
       go_roundw
       case rel=>exact ⟨k+1,_,_,_,hlt,val_int HNX.o,HO.o,HF.o,HFK.o.mono (by omega),HST.o⟩
       case measure=>exact HNM.o
     ·have huB:((bu:Int) == (bus:Int))=false:=by simp;omega
      rw [if_neg hu] at HST
      go_upto_region 15 with fail
      clear huB;clear f0 hfl b0 bl g0 gl HE;have HE:=lH (EV.out.oth HO.o);have hrI:=HE.o.rd.r3;simp only at hrI;have hrI2:=hrI.2 (by have:=HN3.o;have:=HN4.o;omega);obtain ⟨fb3,fo3,hA,hfb,-⟩:=hrI2;subst hA;have f0:=hrI.at_ (natJ_at HTO.o);have hfl:fb3<wr.heap.size:=zJ_ hfb HE.o.hs;have b0:=HE.o.box.cell 0;have bl:=HE.o.box.lt;have g0:wr.cell? ⟨g,3,none⟩=some (.slice (some ⟨fb3,fo3,none⟩) n3 c3):=HE.o.md.cell 3;have gl:=HE.o.md.lt;clear hrI hfb
      by_cases hv:bv=bus
      ·have hvB:((bv:Int) == (bus:Int))=true:=by simp [hv]
       go_wp2_with fail
       refine (addx_any (s:=s) HE.o HF.o HFK.o (by have:=HK6.o;omega) HN1.o.symm h8 HOK.o HBR.o true).mono ?_;rintro e w9 ⟨rfl,ho9,vs9,u9,hf9⟩;rw [HBU.o,HBV.o] at hf9;have HFK9:=lH (addx_ok HOK.o (s:=s) HFK.o HN1.o.symm HBR.o true);rw [HBU.o,HBV.o] at HFK9;have HO9:=lH (HO.o.trans ho9);have HF9:=lH hf9;clear ho9 hf9 f0 hfl b0 bl g0 gl;rw [if_pos hv] at HST
       go_wp2_with fail
       go_roundw
       case rel=>exact ⟨k+1,_,_,_,hlt,val_int HNX.o,HO9.o,HF9.o,HFK9.o.mono (by omega),HST.o⟩
       case measure=>exact HNM.o
      ·have hvB:((bv:Int) == (bus:Int))=false:=by simp;omega
       rw [if_neg hv] at HST
       go_wp2_with fail
       go_roundw
       case rel=>exact ⟨k+1,_,_,_,hlt,val_int HNX.o,HO.o,HF.o,HFK.o.mono (by omega),HST.o⟩
       case measure=>exact HNM.o
    ·have hke:k=n4:=by omega
     have HS:Hid (s=RR):=lH (by have h:=HGO.o;rw [List.drop_eq_nil_of_le (by rw [mB_len];have:=HN4.o;omega)] at h;exact h);have HQL:Hid (s.1.length=n1):=lH HFK.o.len;replace HFE:Hid (formR x ⟨kind,name,txt,wt⟩=(s.1,s.2)):=lH (by rw [HFE.o,←HS.o]);have hkI:¬(k:Int)<(n4:Int):=by omega
     clear HGO HS hke hlt hk;have HL:Hid (Below w.heap.size w wr):=lH (HW3.o.trans (HO.o.below (by have:=HSZ.o;have:=HGF.o;omega) (by have:=HSZ.o;have:=HGC.o.1;omega) HW3.o.size));have P3b:Hid (Blk wr (w.heap.size+1+1+1) 117 #[.slice none 0 0,.bool false,.slice none 0 0,.bool false,.slice none 0 0]):=lH (HO.o.blk P3.o (by have:=HSZ.o;have:=HGF.o;omega) (by have:=HSZ.o;have:=HGC.o.1;omega));have HPC:Hid (gc≠w.heap.size+1+1+1):=lH (by have:=HSZ.o;have:=HGC.o.1;omega);have q0:=HF.o.blk.cell 0;have q1:=HF.o.blk.cell 1;have q2:=HF.o.blk.cell 2;have q3:=HF.o.blk.cell 3;have q4:=HF.o.blk.cell 4;rw [HQL.o] at q0;have z0:=P3b.o.cell 0;have z1:=P3b.o.cell 1;have z2:=P3b.o.cell 2;have z3:=P3b.o.cell 3;have z4:=P3b.o.cell 4;have ql:=HF.o.blk.lt;have zl:=P3b.o.lt;have zf:=P3b.o.frozen
     go_wp2_with fail
     have HPB:=lH (put5_blk (gc:=gc) (n:=n1) (u:=u2) P3b.o);clear q0 z0 q1 z1 q2 z2 q3 z3 q4 z4 ql zl zf;have p0:=HPB.o.cell 0;have p1:=HPB.o.cell 1;have p2:=HPB.o.cell 2;have p3:=HPB.o.cell 3;have p4:=HPB.o.cell 4;unfold put5 at p0 p1 p2 p3 p4;refine bodyPost_ret (v:=.agg #[.slice (some ⟨gc,0,none⟩) n1 n1,.bool u2.b1,.slice u2.A u2.n u2.c,.bool u2.b2,.slice u2.A2 u2.m u2.d]) (by simp [results,Tryz.results63,go_sem,p0,p1,p2,p3,p4]) rfl ?_;refine ⟨below_put5 (gc:=gc) (n:=n1) (u:=u2) HL.o (by omega),gc,u2,by rw [HN1.o],?_,?_⟩
     ·have h:=HF.o.rdq P3b.o HPC.o (n:=n1) (y:=u2)
      rw [HN1.o,HFE.o];rw [HQL.o] at h;exact h
     ·rw [HFE.o]
      exact HF.o.val.keep5 P3b.o (gc:=gc) (n:=n1) (u:=u2)
theorem info_rw:(Tryz.prog.info? 93).map (fun i=>(i.zero,i.size,i.bytes))=some (some (.slice none 0 0),1,24):=by kernel_rfl
structure RowsS (w:World) (base:Nat) (v:Value) (hs:List Hd) (M:List (List Rat)):Prop where
 own:OwnS NoI w base 93 1 v hs.length (hs.map Hd.val)
 len:hs.length=M.length
 rows:∀ (i:Nat) (h:Hd) (q:List Rat),hs[i]?=some h→M[i]?=some q→∃ B us,OwnQ w B h.val us q
theorem rowsS_none (w:World) (base:Nat):RowsS w base (.slice none 0 0) [] []:=⟨ownS_none _ _ _ _ _,rfl,fun i h q hh=>by simp at hh⟩
theorem OwnQ.blkS {w w':World} {B b:Nat} {v:Value} {us:List Rv} {q:List Rat} (h:OwnQ w B v us q) (k:Keeps NoI b 93 w w'):OwnQ w' B v us q:=⟨h.own.blk k (by decide),h.len,fun i p x hp hx=>(h.ok i p x hp hx).keeps k⟩
theorem RowsS.keep {w w':World} {base:Nat} {v:Value} {hs:List Hd} {M:List (List Rat)} (m:RowsS w base v hs M) (hb:Below w.heap.size w w'):RowsS w' base v hs M:=⟨m.own.keep hb,m.len,fun i h q hh hq=>by
 obtain ⟨B,us,k⟩:=m.rows i h q hh hq;exact ⟨B,us,k.keep hb⟩⟩
theorem RowsS.app {w w':World} {base B:Nat} {v v':Value} {hs:List Hd} {M:List (List Rat)} {z:Hd} {us:List Rv} {p:List Rat} (m:RowsS w base v hs M) (hp:OwnQ w B z.val us p) (h1:OwnS NoI w' base 93 1 v' (hs.length+1) (hs.map Hd.val++[z.val])) (k:Keeps NoI base 93 w w'):RowsS w' base v' (hs++[z]) (M++[p]):=by
 refine ⟨by rw [zE_,List.length_singleton,List.map_append];exact h1,by rw [zE_,zE_,m.len];rfl,fun i h q hh hq=>?_⟩
 by_cases hi:i<M.length
 ·rw [zR_ hi] at hq
  rw [zR_ (by rw [m.len];exact hi)] at hh;obtain ⟨B,us,r⟩:=m.rows i h q hh hq;exact ⟨B,us,r.blkS k⟩
 ·rw [zN_ (by omega)] at hq
  rw [zN_ (by rw [m.len];omega),m.len] at hh;have hi2:=(zB_.1 hq).1;rw [List.length_singleton] at hi2;have:i-M.length=0:=by omega
  rw [this] at hq hh;simp at hq hh;subst hq;subst hh;exact ⟨B,us,hp.blkS k⟩
theorem RowsS.rd {w:World} {base:Nat} {v:Value} {hs:List Hd} {M:List (List Rat)} (m:RowsS w base v hs M):∃ A c,v=.slice A M.length c∧RdM w w.heap.size A M.length M∧M.length≤c∧c≤maxLen:=by
 obtain ⟨A,c,hv,hr,h1,h2,h3⟩:=own_rd m.own.own;rw [m.len] at hv hr h1;refine ⟨A,c,hv,⟨hs,m.len,rfl,hr,fun i h q hh hq=>?_⟩,h1,h2⟩;obtain ⟨B,us,k⟩:=m.rows i h q hh hq;obtain ⟨A',c',e,r,k1,k2,_⟩:=k.rd;unfold Hd.val at e;injection e with e1 e2 e3;rw [e1,e2,e3];exact ⟨r,k1,k2⟩
theorem wpList_appRow {ops:Array Oper} {rest:List Oper} {o:Oper} {a:Act} {Q:Exit→Act→World→Prop} {w:World} {T:TypeId} (hgd:o.guard=none) (s x:Operand) (t:TypeId)
    (ho:o.op=.call { callee:=.builtin .append,args:=#[s,x],argTypes:=#[t,t] }) (base:Nat)
    (ht:Tryz.prog.underlying t=some (.slice 93))
    (v:Value) (hs:List Hd) (M:List (List Rat)) (hsv:a.eval s=v) (hown:RowsS w base v hs M) (B:Nat) (z:Value) (us:List Rv) (p:List Rat) (hp:OwnQ w B z us p)
    (hx:a.eval x=.slice (some ⟨w.heap.size,0,none⟩) 1 1) (h63:M.length≤1000000000) (hbase:base≤w.heap.size)
    (h:∀ v' w' hs',RowsS w' base v' hs' (M++[p])→Below base w w'→wpList Tryz.prog ops Q rest (a.put o.dst v') w') :
    wpList Tryz.prog ops Q (o::rest) a (w.alloc (.cells #[z] T)):=by
 obtain ⟨i0,hi0,hz0,hz1,hz2⟩:=info_parts info_rw;have hl:=hown.len;obtain ⟨A,c,e,_⟩:=hp.rd;subst e;refine wpList_appS (S:=NoI) hgd s x t ho base 93 i0 _ 1 24 ht hi0 hz0 hz1 hz2 rfl (by omega) (fun u hu=>?_) v hs.length (hs.map Hd.val) hsv hown.own hx rfl (fun u hu=>?_) (by simp only [maxLen];omega) (by omega) hbase fun v' w' h1 h2 _=>?_
 ·have hu':u∈[Value.slice none 0 0]:=hu
  rw [List.mem_singleton.1 hu'];exact fun k x h=>by cases h
 ·have hu':u∈[Value.slice A p.length c]:=hu
  rw [List.mem_singleton.1 hu'];exact ⟨rfl,fun k x h=>by cases h⟩
 have hb:Below w.heap.size w (w.alloc (.cells #[.slice A p.length c] T)):=bA;exact h v' w' (hs++[⟨A,p.length,c⟩]) (RowsS.app (hown.keep hb) (z:=⟨A,p.length,c⟩) (hp.keep hb) h1 h2) ((hb.mono hbase).trans h2.low)
def rowsR (x:Net) (ms:List Mi):List (List Rat):=ms.map fun m=>rowR x (formR x m).1
def MiOk (x:Net) (m:Mi):Prop:=(m.kind=0→0≤brIdx x m.name)∧(m.kind≠0→m.name∈x.nodes)
theorem rowsR_at {x:Net} {ms:List Mi} {k:Nat} {mi:Mi} (h:ms[k]?=some mi):(rowsR x ms).take (k+1)=(rowsR x ms).take k++[rowR x (formR x mi).1]:=by
 have h2:(rowsR x ms)[k]?=some (rowR x (formR x mi).1):=by unfold rowsR;rw [zM_,h];rfl
 exact take_at h2
def ent (A:List (List Rat)) (a b:Nat):Rat:=vf (A.getD a []) b
theorem ent_row {A:List (List Rat)} {a b:Nat} {r:List Rat} (h:A[a]?=some r):ent A a b=vf r b:=by
 unfold ent;rw [zD_,h];rfl
theorem vf_setC {l:List Rat} {j b:Nat} {q:Rat} (hj:j<l.length):vf (l.set j q) b=if b=j then q else vf l b:=by
 unfold vf;rw [zD_,zD_,List.getElem?_set]
 by_cases h:j=b
 ·subst h;rw [if_pos rfl,if_pos hj,if_pos rfl];rfl
 ·rw [if_neg h,if_neg (fun e=>h e.symm)]
theorem ent_add {A:List (List Rat)} {i j n:Nat} {q:Rat} (hl:A.length=n) (hw:∀ a∈A,a.length=n) (hi:i<n) (hj:j<n) (a b:Nat):ent (addAt A i j q) a b=if a=i∧b=j then ent A a b+q else ent A a b:=by
 obtain ⟨r,hr⟩:∃ r,A[i]?=some r:=zX_ (by omega);have hrl:=hw r (zC_ hr);rw [addAt_row hr];unfold ent;rw [zD_,zD_,List.getElem?_set]
 by_cases h:i=a
 ·subst h
  rw [if_pos rfl,if_pos (by omega),hr];show vf (r.set j (vf r j+q)) b=_;rw [vf_setC (by omega)]
  by_cases h2:b=j
  ·subst h2;rw [if_pos rfl,if_pos ⟨rfl,rfl⟩];rfl
  ·rw [if_neg h2,if_neg (fun e=>h2 e.2)];rfl
 ·rw [if_neg h,if_neg (fun e=>h e.1.symm)]
structure GPart (n K:Nat) (wt:Rat) (q:List Rat) (A0 A:List (List Rat)) (i j:Nat):Prop where
 old:AdmOk n K A0
 len:A.length=n
 wid:∀ a∈A,a.length=n
 val:∀ a b,a<n→b<n→ent A a b=ent A0 a b+(if a<i∨(a=i∧b<j) then wt*vf q a*vf q b else 0)
section
variable {n K i j:Nat} {wt:Rat} {q:List Rat} {A0 A:List (List Rat)}
theorem GPart.start (h:AdmOk n K A0):GPart n K wt q A0 A0 0 0:=⟨h,h.len,h.wid,fun a b _ _=>by rw [if_neg (by omega),Rat.add_zero]⟩
theorem GPart.row (h:GPart n K wt q A0 A i n):GPart n K wt q A0 A (i+1) 0:=⟨h.old,h.len,h.wid,fun a b ha hb=>by
 rw [h.val a b ha hb]
 by_cases h1:a<i∨(a=i∧b<n)
 ·rw [if_pos h1,if_pos (by omega)]
 ·rw [if_neg h1,if_neg (by omega)]⟩
theorem GPart.add (h:GPart n K wt q A0 A i j) (hi:i<n) (hj:j<n):GPart n K wt q A0 (addAt A i j (wt*vf q i*vf q j)) i (j+1):=
 ⟨h.old,addAt_len.trans h.len,addAt_wid h.wid (by rw [h.len];exact hi),fun a b ha hb=>by
  rw [ent_add h.len h.wid hi hj,h.val a b ha hb]
  by_cases h1:a=i∧b=j
  ·rw [if_pos h1,if_neg (by omega),if_pos (by omega),h1.1,h1.2,Rat.add_zero]
  ·rw [if_neg h1]
   by_cases h2:a<i∨(a=i∧b<j)
   ·rw [if_pos h2,if_pos (by omega)]
   ·rw [if_neg h2,if_neg (by omega)]⟩
theorem GPart.skip (h:GPart n K wt q A0 A i j) (h0:vf q i=0∨vf q j=0):GPart n K wt q A0 A i (j+1):=
 ⟨h.old,h.len,h.wid,fun a b ha hb=>by
  rw [h.val a b ha hb]
  by_cases h1:a=i∧b=j
  ·rw [if_neg (by omega),if_pos (by omega),h1.1,h1.2]
   rcases h0 with h0 | h0<;>rw [h0]<;>grind
  ·by_cases h2:a<i∨(a=i∧b<j)
   ·rw [if_pos h2,if_pos (by omega)]
   ·rw [if_neg h2,if_neg (by omega)]⟩
theorem GPart.bd (h:GPart n K wt q A0 A i j) {e:Nat} (he:∀ a b,a<n→b<n→qsz (wt*vf q a*vf q b)≤e):AdmOk n (K+e+1) A:=⟨h.len,h.wid,fun a ha x hx=>by
 obtain ⟨i1,h1⟩:=List.mem_iff_getElem?.1 ha;obtain ⟨j1,h2⟩:=List.mem_iff_getElem?.1 hx;have l1:=(zB_.1 h1).1;have l2:=(zB_.1 h2).1;rw [h.len] at l1;rw [h.wid a ha] at l2;have hv:=h.val i1 j1 l1 l2;rw [ent_row h1,vf_at h2] at hv;obtain ⟨r,hr⟩:∃ r,A0[i1]?=some r:=zX_ (by rw [h.old.len];exact l1);have h3:=h.old.bd.vf hr (j:=j1) (by rw [h.old.wid r (zC_ hr)];exact l2);rw [ent_row hr] at hv;rw [hv]
 by_cases h4:i1<i∨(i1=i∧j1<j)
 ·rw [if_pos h4]
  have h5:=add_qsz (vf r j1) (wt*vf q i1*vf q j1);have h6:=he i1 j1 l1 l2;omega
 ·rw [if_neg h4,Rat.add_zero]
  omega⟩
end
theorem injStep_ok {x:Net} (ok:NetOk x) {n K bus:Nat} {s:List Rat×Rat} (hs:FOk n K s) (hn:n=busN x) {b:Br} (hb:b∈x.brs):FOk n (K+12) (injStep bus (busAt x b.fr) (busAt x b.to) (susR b) (conR b) s):=by
 obtain ⟨k,hk⟩:=List.getElem?_of_mem hb;unfold injStep;dsimp only;have h1:FOk n (K+6) (if busAt x b.fr=bus then (addF (sg false (susR b)) (busAt x b.fr) (busAt x b.to) s.1,s.2+sg false (conR b)) else s):=by
  split
  ·exact addx_ok ok hs hn hk false
  ·exact hs.mono (by omega)
 split
 ·exact addx_ok ok h1 hn hk true
 ·exact h1.mono (by omega)
theorem injGo_ok {x:Net} (ok:NetOk x) {n bus:Nat} (hn:n=busN x):∀ (bs:List Br) (K:Nat) (s:List Rat×Rat),(∀ b∈bs,b∈x.brs)→FOk n K s→FOk n (K+12*bs.length) (injGo bus (bs.map susR) (bs.map conR) (bs.map fun b=>busAt x b.fr) (bs.map fun b=>busAt x b.to) s)
 | [],K,s,_,hs=>hs
 | b::bs,K,s,h,hs=>by
  have h1:=injGo_ok ok (bus:=bus) hn bs (K+12) _ (fun a ha=>h a (List.mem_cons_of_mem _ ha)) (injStep_ok ok (bus:=bus) hs hn (h b List.mem_cons_self));refine FOk.mono (K:=K+12+12*bs.length) h1 ?_;rw [zV_];omega
theorem formR_ok {x:Net} (ok:NetOk x) {m:Mi} (hm:MiOk x m):FOk (busN x) 300 (formR x m):=by
 have hz:=zrs_ok (busN x);have hl:=ok.l2;unfold formR
 split
 ·rename_i h0
  have h1:=hm.1 h0;rcases brIdx_spec x m.name with ⟨e,_⟩ | ⟨i,b,e,hb,_⟩
  ·omega
  ·obtain ⟨a1,a2,a3,a4⟩:=mFrom_at hb
   have h2:=addx_ok ok hz rfl hb false;simp only [e,zL_,zD_,vf,a1,a2,a3,a4];exact h2.mono (by omega)
 ·split
  ·rename_i h0 h2
   have hq:qsz (1:Rat)≤2:=qsz_whole 1 (by decide) (by decide);refine ⟨by rw [zU_];exact hz.len,fun p hp=>?_,zI_ hz.fr (by decide)⟩;rcases List.mem_or_eq_of_mem_set hp with e | e
   ·exact zI_ (hz.cf p e) (by decide)
   ·rw [e];exact zI_ hq (by decide)
  ·have h:=injGo_ok ok (bus:=busAt x m.name) rfl x.brs 2 _ (fun b hb=>hb) hz
   have e1:mFrom x=x.brs.map fun b=>busAt x b.fr:=by unfold mFrom brE;rw [List.map_map];rfl
   have e2:mTo x=x.brs.map fun b=>busAt x b.to:=by unfold mTo brE;rw [List.map_map];rfl
   rw [e1,e2];exact h.mono (by omega)
theorem rowR_len {x:Net} {q:List Rat}:(rowR x q).length=(freeL x).length:=by unfold rowR;rw [zG_]
theorem rowsR_ok {x:Net} (ok:NetOk x) {ms:List Mi} (hm:∀ m∈ms,MiOk x m):(∀ a∈rowsR x ms,a.length=(freeL x).length)∧∀ a∈rowsR x ms,∀ q∈a,qsz q≤300:=by
 refine ⟨fun a ha=>?_,fun a ha q hq=>?_⟩<;>(unfold rowsR at ha;obtain ⟨m,hmm,rfl⟩:=List.mem_map.1 ha)
 ·exact rowR_len
 ·unfold rowR at hq
  obtain ⟨j,hj,rfl⟩:=List.mem_map.1 hq;have h:=formR_ok ok (hm m hmm);exact h.cf _ (zC_ (vf_get (by rw [h.len];exact freeL_lt hj)))
theorem mtCk_ok {x:Net} {ms:List Mi} (h:mtCk x ms=0):NetOk x∧ms.length≤64∧∀ m∈ms,MiOk x m:=by
 unfold mtCk at h
 split at h
 ·exact absurd h (by assumption)
 ·rename_i hn
  have hn:netCk x=0:=by omega
  split at h
  ·omega
  ·refine ⟨netCk_ok hn,by omega,fun m hm=>?_⟩
   have h1:=misGo_ok h m hm;unfold miCk at h1
   split at h1
   ·omega
   ·split at h1
    ·omega
    ·rename_i hb
     refine ⟨fun h0=>?_,fun h0=>?_⟩
     ·exact Int.not_lt.1 fun e=>hb (.inl ⟨h0,e⟩)
     ·have h2:¬(x.nodes.any fun y=>sEq m.name y)=false:=fun e=>hb (.inr ⟨h0,e⟩)
      have h3:(x.nodes.any fun y=>sEq m.name y)=true:=by simpa using h2
      obtain ⟨y,hy,he⟩:=List.any_eq_true.1 h3;rw [sEq_iff.1 he];exact hy
theorem fatG_any (A:Option Addr) (n c:Nat) (u:Rv) (q:List Rat) (z:Rat) (B:Option Addr) (m d:Nat) (al:List Rat) (w:World) (hq:RdQ w w.heap.size A n q) (hz:RtV w w.heap.size z u) (ha:RdQ w w.heap.size B m al) (hnm:n≤m) (hn:n≤8) (h1:∀ p∈q,qsz p≤1000000000000) (h2:∀ p∈al,qsz p≤1000000000000) (h3:qsz z≤1000000000000) :
    Calls Tryz.prog 64 #[.agg #[.slice A n c,.bool u.b1,.slice u.A u.n u.c,.bool u.b2,.slice u.A2 u.m u.d],.slice B m d] w (QP (dotR q al+z) w):=by
 have K0:Below w.heap.size w ((w.alloc (.cells #[.slice A n c,.bool u.b1,.slice u.A u.n u.c,.bool u.b2,.slice u.A2 u.m u.d] 117)).alloc (.cells #[.bool false,.slice none 0 0,.bool false,.slice none 0 0] 115)):=(bA).alloc (by simp) _;have HK:=lH K0;have PF:=lH ((Blk.new w 117 #[.slice A n c,.bool u.b1,.slice u.A u.n u.c,.bool u.b2,.slice u.A2 u.m u.d]).alloc (.cells #[.bool false,.slice none 0 0,.bool false,.slice none 0 0] 115));have PB:Hid (Blk ((w.alloc (.cells #[.slice A n c,.bool u.b1,.slice u.A u.n u.c,.bool u.b2,.slice u.A2 u.m u.d] 117)).alloc (.cells #[.bool false,.slice none 0 0,.bool false,.slice none 0 0] 115)) (w.heap.size+1) 115 #[.bool false,.slice none 0 0,.bool false,.slice none 0 0]):=lH (Blk.new_ (by simp));have HQ:=lH (hq.up K0);have HZ:=lH (hz.up K0);have HA:=lH (ha.up K0);have H1:=lH h1;have H2:=lH h2;have H3:=lH h3
 have HSZ:Hid (w.heap.size+1<((w.alloc (.cells #[.slice A n c,.bool u.b1,.slice u.A u.n u.c,.bool u.b2,.slice u.A2 u.m u.d] 117)).alloc (.cells #[.bool false,.slice none 0 0,.bool false,.slice none 0 0] 115)).heap.size):=lH (by simp);have HQL:Hid (q.length=n):=lH hq.len;have HDS:Hid (qsz (dotR q al)+qsz z+1≤35184372088832):=lH (by
  have h:=dotR_qsz (n:=n) (Z:=1000000000000) hq.len h1 h2 n lR;rw [zH_ (by rw [List.length_zipWith,hq.len];exact Nat.min_le_left _ _)] at h;have h':qsz (dotR q al)≤n*(2*1000000000000+1)+1:=h;have:n*(2*1000000000000+1)≤8*(2*1000000000000+1):=Nat.mul_le_mul_right _ hn;omega)
 have HD2:Hid (n*(2*1000000000000+1)+2*1000000000000+2≤35184372088832):=lH (by omega);clear K0 hq hz ha h1 h2 h3;go_enter Tryz.func64,Tryz.ntmps64
 go_upto_region 1 with fail
 generalize (w.alloc (.cells #[.slice A n c,.bool u.b1,.slice u.A u.n u.c,.bool u.b2,.slice u.A2 u.m u.d] 117)).alloc (.cells #[.bool false,.slice none 0 0,.bool false,.slice none 0 0] 115)=W at *;have y0:=PF.out.cell 0;have y1:=PF.out.cell 1;have y2:=PF.out.cell 2;have y3:=PF.out.cell 3;have y4:=PF.out.cell 4;have yl:=PF.out.lt;refine wp_region_last (S:=fun w'=>Below W.heap.size W w') 7 _ (by kernel_rfl) (by kernel_rfl) rfl (below_drew bR) (fun hHeld=>?_);simp only [zK_,List.take_zero];refine tkH 0 rfl ?_;refine tkH 1 rfl ?_;refine tkH 2 rfl ?_;refine tkH 4 rfl ?_;refine tkH 5 rfl ?_;clear y0 y1 y2 y3 y4 yl;have HV0:=lH (below_drew (Below.refl W.heap.size W));generalize W.drew=v0 at *;refine stepH 3 (by kernel_rfl) rfl (fun K hK=>?_);go_simp
 refine (dot_any A n c B m d q al 1000000000000 v0 (HQ.o.up HV0.o) (HA.o.up HV0.o) hnm (by omega) H1.o H2.o HD2.o).mono ?_;rintro e v1 ⟨hb1,x1,rfl,hx1⟩;have HV1:Hid (Below W.heap.size W v1):=lH (HV0.o.tm hb1);have HX1:=lH hx1;clear hb1 hx1 HV0;go_simp;refine hK.out _ _ ?_ (fun hHeld=>?_)
 ·exact HV1.o
 clear hK K
 try simp only [Act.put,sA_,sB_,sC_]
 refine stepH 6 (by kernel_rfl) rfl (fun K hK=>?_);go_simp;refine (addV HX1.o (HZ.o.up HV1.o) HDS.o).mono ?_;rintro e v2 ⟨hb2,x2,rfl,hx2⟩;have HV2:Hid (Below W.heap.size W v2):=lH (HV1.o.tm hb2);have HX2:=lH hx2;clear hb2 hx2 HV1 HX1;go_simp;refine hK.out _ _ ?_ (fun hHeld=>?_)
 ·exact HV2.o
 clear hK K
 try simp only [Act.put,sA_,sB_,sC_]
 refine wpAnyH_done (by kernel_rfl) ?_ _;refine lastQ_go (by rfl) ?_;clear hHeld;have PC:=lH (PB.out.bl HV2.o);have z0:=PC.out.cell 0;have z1:=PC.out.cell 1;have z2:=PC.out.cell 2;have z3:=PC.out.cell 3;have zl:=PC.out.lt;have zf:=PC.out.frozen
 go_wp2_with fail
 clear z0 z1 z2 z3 zl zf;have PD:=lH (box_put (v:=x2) PC.out);have p0:=PD.out.cell 0;have p1:=PD.out.cell 1;have p2:=PD.out.cell 2;have p3:=PD.out.cell 3;unfold putQ at p0 p1 p2 p3;refine bodyPost_ret (v:=.agg #[.bool x2.b1,.slice x2.A x2.n x2.c,.bool x2.b2,.slice x2.A2 x2.m x2.d]) (by simp [results,Tryz.results64,go_sem,p0,p1,p2,p3]) rfl ?_;exact ⟨below_putQ (v:=x2) (HK.o.trans (HV2.o.mono (by have:=HSZ.o;omega))) (Nat.le_succ _),x2,rfl,HX2.o.keepq PC.out (x:=⟨false,none,0,0,false,none,0,0⟩)⟩
def wtF (ms:List Mi):Fn:=fun k=>match ms[k]? with | some m=>(m.wt:Rat) | none=>0
theorem wtF_at {ms:List Mi} {k:Nat} {m:Mi} (h:ms[k]?=some m):wtF ms k=(m.wt:Rat):=by unfold wtF;rw [h]
def gSum (M:List (List Rat)) (ms:List Mi) (k a b:Nat):Rat:=sumTo k fun t=>wtF ms t*vf (M.getD t []) a*vf (M.getD t []) b
def GainP (n:Nat) (M:List (List Rat)) (ms:List Mi) (w:World) (e:Ending) (w':World):Prop:=
 Below w.heap.size w w'∧∃ (g:Nat) (G:List (List Rat)),e=.returned (.slice (some ⟨g,0,none⟩) n n)∧RdM w' w'.heap.size (some ⟨g,0,none⟩) n G∧AdmOk n (3+606*M.length) G∧∀ a b,a<n→b<n→ent G a b=gSum M ms M.length a b
theorem gain_any (A B:Option Addr) (K c d n:Nat) (M:List (List Rat)) (ms:List Mi) (w:World) (hM:RdM w w.heap.size A K M) (hm:RdMi w w.heap.size B K ms) (hw:∀ a∈M,a.length=n) (hq:∀ a∈M,∀ q∈a,qsz q≤300) (hwt:∀ x∈ms,1≤x.wt∧x.wt≤1000) (hn:n≤8) (hK:K≤64) :
    Calls Tryz.prog 81 #[.slice A K c,.slice B K d,.int .i64 n] w (GainP n M ms w):=by
 have HM:=lH hM;have HMI:=lH hm;have HW:=lH hw;have HQ:=lH hq;have HWT:=lH hwt;have HML:=lH hM.len;have HMS:=lH hm.1;clear hM hm hw hq hwt;have hmk:∀ w:World,(Instr.makeSlice 92 (.int .i64 (n:Int)) (.int .i64 (n:Int))).run Tryz.prog w=.ok (.slice (some ⟨w.heap.size,0,none⟩) n n) (w.alloc (.cells (nilRows n) 93)):=fun w=>make_rows n (by omega) w;have HK:=lH ((Below.refl w.heap.size w).alloc lR (.cells (nilRows n) 93));have HGM:=lH (Blk.new w 93 (nilRows n));go_enter Tryz.func81,Tryz.ntmps81
 go_wp2_with fail
 clear hmk;generalize w.alloc (.cells (nilRows n) 93)=W at *;have HO:=lH (ownM_made HGM.o lR);generalize hga:w.heap.size=ga at *;have HGA:=lH hga;clear hga HGM
 go_loopw [18] (fun v18 wr=>∃ (k:Nat) (hs:List Mh),k≤n∧v18=.int .i64 k∧Below ga w wr∧OwnM wr ga ga hs ((adm0 n).take k++List.replicate (n-k) [])) (fun v18 _=>n-(intOf v18).toNat)
 case atStart=>exact ⟨0,_,by omega,rfl,HK.o,by rw [List.take_zero,List.nil_append,Nat.sub_zero];exact HO.o⟩
 case round=>
  clear HK HO;obtain ⟨k,hs,hk,rfl,hb,ho⟩:=hrel;have HK:=lH hb;have HO:=lH ho;clear hb ho
  by_cases hlt:k<n
  ·have hkI:(k:Int)<(n:Int):=by omega
   have HNX:=lN k;have HNM:Hid (n-(k+1)<n-k):=lH (by omega);have HGL:Hid (ga<wr.heap.size):=lH HO.o.top.lt
   go_wp2_with fail
   refine (zeros_any n wr (by omega)).mono ?_;rintro e w7 ⟨hb7,gz,vz,rfl,hgz,hbz,hvz⟩;have HO8:=lH (HO.o.up hb7);have HRW:Hid (MRow w7 ga ga ⟨some ⟨gz,0,none⟩,gz,n,List.replicate n vz⟩ (List.replicate n 0)):=lH (zer_row hbz hvz (by have:=HGL.o;omega) (by have:=HGL.o;omega) (by omega));have HBW:=lH (HK.o.trans (hb7.mono (zQ_ HGL.o)));have HFR:Hid (∀ j (h':Mh),j≠k→hs[j]?=some h'→0<h'.vs.length→0<(List.replicate n vz).length→h'.g≠gz):=lH fun j h' _ hh l1 l2=>by
    have h3:=HO.o.lt hh l1;omega
   clear hb7 hbz hvz hgz HK HO;have gl:=HO8.o.top.lt;have gf:=HO8.o.top.frozen;have HKL:Hid (k<(((adm0 n).take k++List.replicate (n-k) []):List (List Rat)).length):=lH (by simp [adm0];omega);obtain ⟨gv,gc⟩:∃ gv,w7.cell? ⟨ga,k,none⟩=some gv:=by
    rw [HO8.o.top.cell];exact ⟨_,Array.getElem?_eq_getElem (by rw [List.size_toArray,zG_,HO8.o.len];exact HKL.o)⟩
   have HO9:=lH (HO8.o.setRow HKL.o HRW.o HFR.o);rw [zer_set hlt,zO_] at HO9
   go_wp2_with fail
   go_roundw
   case rel=>exact ⟨k+1,_,hlt,val_int HNX.o,HBW.o.setCell lR _,HO9.o⟩
   case measure=>exact HNM.o
  ·have hke:k=n:=by omega
   have HO1:Hid (OwnM wr ga ga hs (adm0 n)):=lH (by
    have h:=HO.o;rw [hke,Nat.sub_self,List.replicate_zero,List.append_nil,zH_ (by unfold adm0;rw [zO_];exact lR)] at h;exact h)
   have hkI:¬(k:Int)<(n:Int):=by omega
   have HGW:Hid (Below w.heap.size w wr):=lH (by rw [HGA.o];exact HK.o);clear HO hke
   go_wp2_with fail
   generalize wr=wz at *;have HKZ:Hid (∀ a b,a<n→b<n→ent (adm0 n) a b=0):=lH fun a b ha hb=>by
    have h:(adm0 n)[a]?=some (List.replicate n 0):=by unfold adm0;rw [List.getElem?_replicate,if_pos ha]
    rw [ent_row h];unfold vf;rw [zD_,List.getElem?_replicate,if_pos hb];rfl
   go_loopw [29] (fun v29 wr=>∃ (k:Nat) (hs:List Mh) (G:List (List Rat)),k≤K∧v29=.int .i64 k∧MatS ga ga w wr (.slice none 0 0) [] hs G∧AdmOk n (3+606*k) G∧∀ a b,a<n→b<n→ent G a b=gSum M ms k a b) (fun v29 _=>K-(intOf v29).toNat)
   case atStart=>exact ⟨0,hs,adm0 n,by omega,rfl,⟨HO1.o,ownS_none _ _ _ _ _,HK.o⟩,adm0_ok n,fun a b ha hb=>HKZ.o a b ha hb⟩
   case round=>
    clear HK HO1 HKZ;obtain ⟨k,hs,G,hk,rfl,ho,hok,hgo⟩:=hrel;have HMA:=lH ho;have HOK:=lH hok;have HGO:=lH hgo;have hb:=ho.low;have hgl:=zQ_ ho.own.top.lt;have HMW:=lH ((HM.o.below hb lR).more hgl);have HMIW:=lH ((HMI.o.below hb lR).more hgl);clear ho hok hgo hb hgl
    by_cases hlt:k<K
    ·obtain ⟨q,hq⟩:∃ q,M[k]?=some q:=zX_ (by have:=HML.o;omega)
     obtain ⟨m,hmk2⟩:∃ m,ms[k]?=some m:=zX_ (by have:=HMS.o;omega);obtain ⟨ab,ao,hA,hab⟩:=HM.o.form (by omega);subst hA;obtain ⟨bb,bo,hB,hbb⟩:=HMIW.o.form (by omega);subst hB;obtain ⟨⟨ra,rn,rc⟩,r0,r1,r2,r3⟩:=HM.o.at_ hq;dsimp only at r0 r1 r2 r3;have hlow:=HMA.o.low;have r0':=(hlow.cell (p:=⟨ab,ao+k,none⟩) hab).trans r0;have habl:ab<wr.heap.size:=zJ_ hab HMA.o.le;obtain ⟨m0,m1,m2,m3⟩:=HMIW.o.at_ hmk2;have hwts:=HWT.o m (zC_ hmk2);have HQL:=lH (HW.o q (zC_ hq));have HQB:=lH (HQ.o q (zC_ hq));have hrn:n=rn:=by rw [←r1.len];exact HQL.o.symm
     subst hrn;have HGS:Hid (∀ a b,gSum M ms (k+1) a b=gSum M ms k a b+(m.wt:Rat)*vf q a*vf q b):=lH fun a b=>by
      unfold gSum;simp only [sumTo];rw [wtF_at hmk2,zD_,hq];rfl
     have HRQ:=lH r1;have hkI:(k:Int)<(K:Int):=by omega
     have HNX:=lN k;have HNM:Hid (K-(k+1)<K-k):=lH (by omega);clear hq hmk2 r0 r1 r2 r3 hlow
     go_wp2_with fail
     refine (wholeV m.wt wr (by omega) (by omega)).mono ?_;rintro e w7 ⟨hb7,xr,rfl,hx⟩;have HX:=lH hx;have HB7:=lH hb7;clear hx hb7 r0' habl m0 m1 m2 m3
     go_upto_region 11 with fail
     generalize hwa:w7.alloc (.cells #[.bool xr.b1,.slice xr.A xr.n xr.c,.bool xr.b2,.slice xr.A2 xr.m xr.d] 115)=wa;have hba:Below w7.heap.size w7 wa:=by rw [←hwa];exact bA
     have HSX:Hid (Blk wa w7.heap.size 115 #[.bool xr.b1,.slice xr.A xr.n xr.c,.bool xr.b2,.slice xr.A2 xr.m xr.d]):=lH (by rw [←hwa];exact Blk.new w7 _ _);have HBX:Hid (BoxS wa ga w7.heap.size hs (m.wt:Rat) xr):=lH ⟨HSX.o,HX.o.up hba,fun i h hh l=>zJ_ (HMA.o.own.lt hh l) HB7.o.size⟩;replace HMA:=lH ((HMA.o.up HB7.o).up hba);clear hwa hba HSX HX HB7;generalize hgx:w7.heap.size=gx at *;clear hgx;have HTS:Hid (∀ a b,a<n→b<n→qsz ((m.wt:Rat)*vf q a*vf q b)≤602):=lH fun a b ha hb=>by
      have h1:=mul_qsz ((m.wt:Rat)*vf q a) (vf q b);have h2:=mul_qsz (m.wt:Rat) (vf q a);have h3:=qsz_whole m.wt (by omega) (by omega);have h4:=HQB.o _ (zC_ (vf_get (l:=q) (i:=a) (by rw [HQL.o];exact ha)));have h5:=HQB.o _ (zC_ (vf_get (l:=q) (i:=b) (by rw [HQL.o];exact hb)));omega
     go_wp2_with fail
     go_loopw [42] (fun v42 wr=>∃ (i:Nat) (hs:List Mh) (G2:List (List Rat)),i≤n∧v42=.int .i64 i∧MatS ga ga w wr (.slice none 0 0) [] hs G2∧BoxS wr ga gx hs (m.wt:Rat) xr∧GPart n (3+606*k) (m.wt:Rat) q G G2 i 0) (fun v42 _=>n-(intOf v42).toNat)
     case atStart=>exact ⟨0,hs,G,by omega,rfl,HMA.o,HBX.o,GPart.start HOK.o⟩
     case round=>
      clear HMA HBX;obtain ⟨i,hs,G2,hi,rfl,ho,hbx,hgp⟩:=hrel;have HMA:=lH ho;have HBX:=lH hbx;have HGP:=lH hgp;clear ho hbx hgp
      by_cases hin:i<n
      rotate_left
      ·have hie:i=n:=by omega
       have HG2:Hid (AdmOk n (3+606*(k+1)) G2):=lH ((HGP.o.bd HTS.o).mono (by omega));have HV2:Hid (∀ a b,a<n→b<n→ent G2 a b=gSum M ms (k+1) a b):=lH fun a b ha hb=>by
        rw [HGP.o.val a b ha hb,HGO.o a b ha hb,HGS.o,if_pos (by omega)]
       clear hie
       go_wp2_with fail
       go_roundw
       case rel=>exact ⟨k+1,hs,G2,hlt,val_int HNX.o,HMA.o,HG2.o,HV2.o⟩
       case measure=>exact HNM.o
      obtain ⟨rb,ro,hRA,hrb⟩:=HRQ.o.form (by omega);subst hRA;have hinI:(i:Int)<(n:Int):=by omega
      have HNXi:=lN i;have HNMi:Hid (n-(i+1)<n-i):=lH (by omega)
      go_wp2_with fail
      go_loopw [47] (fun v47 wr=>∃ (j:Nat) (hs:List Mh) (G2:List (List Rat)),j≤n∧v47=.int .i64 j∧MatS ga ga w wr (.slice none 0 0) [] hs G2∧BoxS wr ga gx hs (m.wt:Rat) xr∧GPart n (3+606*k) (m.wt:Rat) q G G2 i j) (fun v47 _=>n-(intOf v47).toNat)
      case atStart=>exact ⟨0,hs,G2,by omega,rfl,HMA.o,HBX.o,HGP.o⟩
      case round=>
       clear HMA HBX HGP;obtain ⟨j,hs,G2,hj,rfl,ho,hbx,hgp⟩:=hrel;have HMA:=lH ho;have HBX:=lH hbx;have HGP:=lH hgp;clear ho hbx hgp
       by_cases hjn:j<n
       rotate_left
       ·have hje:j=n:=by omega
        have HGR:Hid (GPart n (3+606*k) (m.wt:Rat) q G G2 (i+1) 0):=lH (by have h:=HGP.o;rw [hje] at h;exact h.row);clear hje
        go_wp2_with fail
        go_roundw
        case rel=>exact ⟨i+1,hs,G2,hin,val_int HNXi.o,HMA.o,HBX.o,HGR.o⟩
        case measure=>exact HNMi.o
       have HQI:Hid (q[i]?=some (vf q i)):=lH (vf_get (by rw [HQL.o];exact hin));have HQJ:Hid (q[j]?=some (vf q j)):=lH (vf_get (by rw [HQL.o];exact hjn));have hjnI:(j:Int)<(n:Int):=by omega
       have HNXj:=lN j;have HNMj:Hid (n-(j+1)<n-j):=lH (by omega);have HKW:Hid (Below ga w wr):=lH HMA.o.low;have HKS:ga≤wr.heap.size:=HMA.o.le;obtain ⟨vx,a0,a1,a2,a3,a4⟩:=(HRQ.o.below HKW.o lR).at_ HQI.o;have HVX:=lH (RtV.more (w:=wr) a4 HKS);have hrb2:rb<wr.heap.size:=zJ_ hrb HKS;clear a4
       go_wp2_with fail
       refine (signV HVX.o).mono ?_;clear a0 a1 a2 a3;rintro e w2 ⟨rfl,hb2⟩;have HMA2:=lH (HMA.o.up hb2);have HBX2:=lH (HBX.o.up hb2);clear hb2 HVX hrb2 HKW HKS HMA HBX
       by_cases hx0:vf q i=0
       ·have hz:=sign_zero hx0
        rw [hz];have HGP2:=lH (HGP.o.skip (Or.inl hx0));clear hz hx0
        go_wp2_with fail
        go_roundw
        case rel=>exact ⟨j+1,hs,G2,hjn,val_int HNXj.o,HMA2.o,HBX2.o,HGP2.o⟩
        case measure=>exact HNMj.o
       ·have hz:=sign_ne hx0
        generalize (vf q i).num.sign=z at hz ⊢;clear hx0;have HKW:Hid (Below ga w w2):=lH HMA2.o.low;have HKS:ga≤w2.heap.size:=HMA2.o.le;obtain ⟨vy,a0,a1,a2,a3,a4⟩:=(HRQ.o.below HKW.o lR).at_ HQJ.o;have HVY:=lH (RtV.more (w:=w2) a4 HKS);have hrb2:rb<w2.heap.size:=zJ_ hrb HKS;clear a4
        go_wp2_with fail
        refine (signV HVY.o).mono ?_;clear a0 a1 a2 a3;rintro e w3 ⟨rfl,hb3⟩;have HMA:=lH (HMA2.o.up hb3);have HBX:=lH (HBX2.o.up hb3);clear hb3 HVY hrb2 HKW HKS HMA2 HBX2
        by_cases hy0:vf q j=0
        ·have hz2:=sign_zero hy0
         rw [hz2];have HGP2:=lH (HGP.o.skip (Or.inr hy0));clear hz2 hy0
         go_wp2_with fail
         go_roundw
         case rel=>exact ⟨j+1,hs,G2,hjn,val_int HNXj.o,HMA.o,HBX.o,HGP2.o⟩
         case measure=>exact HNMj.o
        ·have hz2:=sign_ne hy0
         generalize (vf q j).num.sign=z2 at hz2 ⊢;clear hy0
         go_upto_region 18 with fail
         clear hz hz2;have HKW:Hid (Below ga w w3):=lH HMA.o.low;have HKS:ga≤w3.heap.size:=HMA.o.le;obtain ⟨vx,a0,a1,a2,a3,a4⟩:=(HRQ.o.below HKW.o lR).at_ HQI.o;have HVX:=lH (RtV.more (w:=w3) a4 HKS);obtain ⟨vy,d0,d1,d2,d3,d4⟩:=(HRQ.o.below HKW.o lR).at_ HQJ.o;have HVY:=lH (RtV.more (w:=w3) d4 HKS);have hrb2:rb<w3.heap.size:=zJ_ hrb HKS;clear a4 d4 HKW HKS;obtain ⟨rg,hrg⟩:∃ rg,G2[i]?=some rg:=zX_ (by rw [HGP.o.len];exact hin);have hrgl:rg.length=n:=HGP.o.wid rg (zC_ hrg);obtain ⟨gg,cc,vs,xe,hh,c,hx,c0,c1,c2',c3',hv,l1,f1,hne⟩:=HMA.o.elem (i:=i) (j:=j) hrg (by omega);rw [hrgl] at c;have HH:=lH hh;have HXX:=lH hx;have HVV:=lH hv;have HRA:=lH hrg;have HRL:=lH hrgl;have HS1:Hid (qsz (m.wt:Rat)+qsz (vf q i)+1≤35184372088832):=lH (by
          have h3:=qsz_whole m.wt (by omega) (by omega);have h4:=HQB.o _ (zC_ HQI.o);omega)
         have HS2:Hid (qsz ((m.wt:Rat)*vf q i)+qsz (vf q j)+1≤35184372088832):=lH (by
          have h2:=mul_qsz (m.wt:Rat) (vf q i);have h3:=qsz_whole m.wt (by omega) (by omega);have h4:=HQB.o _ (zC_ HQI.o);have h5:=HQB.o _ (zC_ HQJ.o);omega)
         have HS3:Hid (qsz (vf rg j)+qsz ((m.wt:Rat)*vf q i*vf q j)+1≤35184372088832):=lH (by
          have h1:=(HGP.o.bd HTS.o).bd.vf hrg (j:=j) (by omega);have h2:=HTS.o i j hin hjn;omega)
         have gl:=HMA.o.own.top.lt;have z0:=HBX.o.blk.cell 0;have z1:=HBX.o.blk.cell 1;have z2:=HBX.o.blk.cell 2;have z3:=HBX.o.blk.cell 3;have zl:=HBX.o.blk.lt;have HB4:=lH (below_drew (Below.refl w3.heap.size w3));have hi0:=lZ i
         have hinn:=zL_ i;have hj0:=lZ j
         have hjnn:=zL_ j;clear hh hx hv hrg hrgl;refine wp_region_last (S:=fun w'=>Below w3.heap.size w3 w') 25 _ (by kernel_rfl) (by kernel_rfl) rfl (below_drew bR) (fun hHeld=>?_);simp only [zK_,List.take_zero];refine tkH 0 rfl ?_;refine tkH 1 rfl ?_;refine tkH 2 rfl ?_;refine tkH 3 rfl ?_;refine tkH 4 rfl ?_;refine tkH 5 rfl ?_;refine tkH 6 rfl ?_;refine tkH 7 rfl ?_;refine tkH 8 rfl ?_;refine tkH 9 rfl ?_;refine tkH 10 rfl ?_;refine tkH 11 rfl ?_;refine tkH 12 rfl ?_;refine tkH 13 rfl ?_;refine tkH 14 rfl ?_;refine tkH 15 rfl ?_;refine tkH 16 rfl ?_;refine tkH 18 rfl ?_;refine tkH 19 rfl ?_;refine tkH 20 rfl ?_;refine tkH 21 rfl ?_;refine stepH 17 (by kernel_rfl) rfl (fun K hK=>?_);go_simp;refine (mulV (HBX.o.val.up HB4.o) (HVX.o.up HB4.o) HS1.o).mono ?_;rintro e w8 ⟨hb8,v8,rfl,h8⟩
         have HB8:Hid (Below w3.heap.size w3 w8):=lH (HB4.o.tm hb8);have H8:=lH h8;clear hb8 h8;go_simp;refine hK.out _ _ ?_ (fun hHeld=>?_)
         ·exact HB8.o
         clear hK K
         try simp only [Act.put,sA_,sB_,sC_]
         refine stepH 22 (by kernel_rfl) rfl (fun K hK=>?_);go_simp;refine (mulV H8.o (HVY.o.up HB8.o) HS2.o).mono ?_;rintro e w9 ⟨hb9,v9,rfl,h9⟩;have HB9:Hid (Below w3.heap.size w3 w9):=lH (HB8.o.tm hb9);have H9:=lH h9;clear hb9 h9;go_simp;refine hK.out _ _ ?_ (fun hHeld=>?_)
         ·exact HB9.o
         clear hK K
         try simp only [Act.put,sA_,sB_,sC_]
         refine stepH 23 (by kernel_rfl) rfl (fun K hK=>?_);go_simp;refine (addV (HVV.o.up HB9.o) H9.o HS3.o).mono ?_;rintro e wq ⟨hbq,vq,rfl,hq⟩;have HBQ:Hid (Below w3.heap.size w3 wq):=lH (HB9.o.tm hbq);have HVQ:=lH hq;clear hbq hq;go_simp;refine hK.out _ _ ?_ (fun hHeld=>?_)
         ·exact HBQ.o
         clear hK K
         try simp only [Act.put,sA_,sB_,sC_]
         refine tkH 24 rfl ?_;refine wpAnyH_done (by kernel_rfl) ?_ _;refine lastQ_go (by rfl) ?_;clear hHeld;have HM8:=lH (HMA.o.up HBQ.o);have HX8:=lH (HBX.o.up HBQ.o);clear c c0 c1 c2' c3' l1 f1 hne gl z0 z1 z2 z3 zl HMA HBX HVV HS1 HS2 HS3 HB4 HB8 HB9 H8 H9 HVX HVY hrb2 a0 a1 a2 a3 d0 d1 d2 d3;obtain ⟨c0,c1,c2',c3',l1,f1⟩:=HM8.o.elem2 HH.o HRA.o HXX.o;have HGP2:=lH (HGP.o.add hin hjn)
         go_wp2_with fail
         go_roundw
         case rel=>exact ⟨j+1,_,_,hjn,val_int HNXj.o,by
          have h:=HM8.o.put HH.o HRA.o (j:=j) (x:=vq) (by rw [HRL.o];exact hjn) HVQ.o;rw [←addAt_row HRA.o] at h;exact h,HX8.o.put HM8.o HH.o HRA.o (j:=j) (x:=vq) (by rw [HRL.o];exact hjn),HGP2.o⟩
         case measure=>exact HNMj.o
    ·have hke:k=K:=by omega
     have hkI:¬(k:Int)<(K:Int):=by omega
     have HG0:Hid (RdM wr wr.heap.size (some ⟨ga,0,none⟩) n G):=lH (by have h:=HMA.o.own.rd;rw [HOK.o.len] at h;exact h);have HBW:Hid (Below w.heap.size w wr):=lH (by rw [HGA.o];exact HMA.o.low);have HGA2:Hid (AdmOk n (3+606*M.length) G):=lH (by rw [HML.o,←hke];exact HOK.o);have HGS:Hid (∀ a b,a<n→b<n→ent G a b=gSum M ms M.length a b):=lH (by rw [HML.o,←hke];exact HGO.o)
     go_wp2_with fail
     exact bodyPost_ret (v:=.slice (some ⟨ga,0,none⟩) n n) (by simp [results,Tryz.results81,go_sem]) rfl ⟨HBW.o,ga,G,rfl,HG0.o,HGA2.o,HGS.o⟩
def RowsO (x:Net) (ms:List Mi) (w:World) (e:Ending) (w':World):Prop:=Below w.heap.size w w'∧∃ A c hs b0,e=.returned (.slice A ms.length c)∧w.heap.size≤b0∧RowsS w' b0 (.slice A ms.length c) hs (rowsR x ms)∧ms.length≤c∧c≤maxLen
theorem RowsS.far {w:World} {base g T i:Nat} {v u y:Value} {hs:List Hd} {M:List (List Rat)} {cs:Array Value} (m:RowsS w base v hs M) (hb:Blk w g T cs) (h1:115≠T) (h2:93≠T) (hy:cs[i]?=some y) (hn:NotInt y):RowsS (w.setCell ⟨g,i,none⟩ u) base v hs M:=
 ⟨m.own.far hb h2,m.len,fun j h q hh hq=>by
  obtain ⟨B,us,k⟩:=m.rows j h q hh hq;exact ⟨B,us,k.far hb h1 hy hn⟩⟩
theorem orowsO_any (h:NetH) (x:Net) (ok:NetOk x) (h8:x.nodes.length≤8) (g:Nat) (m:ModH) (y:Value) (A:Option Addr) (n c:Nat) (ms:List Mi) (w:World) (r:RdNet w w.heap.size h x) (hg:Blk w g 122 (m.cells y)) (hr:RdMod w w.heap.size m x) (hm:RdMi w w.heap.size A n ms) (hn:n≤64) (hok:∀ m∈ms,MiOk x m) :
    Calls Tryz.prog 82 #[.agg h.cells,.pointer (some ⟨g,0,none⟩),.slice A n c] w (RowsO x ms w):=by
 have K0:Below w.heap.size w (w.alloc (.cells h.cells 29)):=bA;have HK:=lH K0;have P0:=lH (Blk.new w 29 h.cells);have HG:=lH (hg.bl K0);have HR:=lH (hr.up K0);have HX:=lH (r.up K0);have HM:=lH (hm.bm K0);have HML:Hid (ms.length=n):=lH hm.1;have HOK:=lH ok;have HMK:=lH hok;have HSZ:Hid (w.heap.size≤(w.alloc (.cells h.cells 29)).heap.size):=lH K0.size;clear K0 hg hr hm r hok ok;obtain ⟨D0,r0,s0,D1,r1,s1,D2,r2,s2,D3,r3,s3,D4,r4,s4,D5,r5,s5⟩:=h;go_enter Tryz.func82,Tryz.ntmps82
 go_wp2_with fail
 generalize w.alloc (.cells (NetH.cells ⟨D0,r0,s0,D1,r1,s1,D2,r2,s2,D3,r3,s3,D4,r4,s4,D5,r5,s5⟩) 29)=W at *
 go_loopw [7,12] (fun v7 v12 wr=>∃ (k:Nat) (hs:List Hd),k≤n∧v12=.int .i64 k∧RowsS wr W.heap.size v7 hs ((rowsR x ms).take k)∧Below W.heap.size W wr) (fun _ v12 _=>n-(intOf v12).toNat)
 case atStart=>exact ⟨0,[],by omega,rfl,rowsS_none _ _,bR⟩
 case round=>
  obtain ⟨k,hs,hk,rfl,ho,hb⟩:=hrel;have HO:=lH ho;have HB:=lH hb;clear ho hb
  by_cases hlt:k<n
  ·obtain ⟨mi,hmi⟩:∃ mi,ms[k]?=some mi:=zX_ (by have:=HML.o;omega)
   have HTK:=lH (rowsR_at (x:=x) hmi);have HMO:=lH (HMK.o mi (zC_ hmi));have hmm:=(HM.o.below HB.o lR).more HB.o.size;have hmm2:=hmm.2.2 (by omega);obtain ⟨ab,ao,hA,hab,-⟩:=hmm2;subst hA;obtain ⟨a0,a1,a2,a3⟩:=hmm.at_ hmi;have hkI:(k:Int)<(n:Int):=by omega
   have hk0:=lZ k
   have hkn:=zL_ k;have HNX:=lN k;have HNM:Hid (n-(k+1)<n-k):=lH (by omega);clear hmi hmm
   go_upto_region 5 with fail
   clear a0 a1 a2 a3 hab hkI hk0 hkn;have hz:Below wr.heap.size wr (wr.alloc (.cells #[.int .i64 mi.kind,.string mi.name,.string mi.txt,.int .i64 mi.wt] 57)):=bA;have HMB:=lH (Blk.new wr 57 #[.int .i64 mi.kind,.string mi.name,.string mi.txt,.int .i64 mi.wt]);replace HO:=lH (HO.o.keep hz);have HBW:Hid (Below W.heap.size W (wr.alloc (.cells #[.int .i64 mi.kind,.string mi.name,.string mi.txt,.int .i64 mi.wt] 57))):=lH (HB.o.tm hz);clear hz HB;generalize wr.alloc (.cells #[.int .i64 mi.kind,.string mi.name,.string mi.txt,.int .i64 mi.wt] 57)=wa at *;have P0w:=P0.o.bl HBW.o;obtain ⟨y0,y1,y2,y3,y4,y5,nf,nlt⟩:=net_box P0w;dsimp only at y0 y1 y2 y3 y4 y5;have x0:=HMB.o.cell 0;have x1:=HMB.o.cell 1;have x2:=HMB.o.cell 2;have x3:=HMB.o.cell 3;have xl:=HMB.o.lt;clear P0w
   go_wp2_with fail
   refine (formOf_any _ x HOK.o h8 g m y mi wa (HX.o.up HBW.o) (HG.o.bl HBW.o) (HR.o.up HBW.o) HMO.o.1 HMO.o.2).mono ?_;rintro e w5 ⟨hb5,gc,u,rfl,hq,hv⟩;clear y0 y1 y2 y3 y4 y5 nf nlt x0 x1 x2 x3 xl;have HB5:=lH (HBW.o.tm hb5);replace HO:=lH (HO.o.keep hb5);have HQ:=lH hq;clear hb5 hq hv HBW
   go_wp2_with fail
   refine (orow_any g m y x HOK.o h8 u (some ⟨gc,0,none⟩) (busN x) (busN x) (formR x mi).1 w5 (HG.o.bl HB5.o) (HR.o.up HB5.o) HQ.o rfl).mono ?_;rintro e w6 ⟨hb6,B6,v6,us,hB6,rfl,hown⟩;have HB6:=lH (HB5.o.tm hb6);replace HO:=lH (HO.o.keep hb6);have HW6:=lH hown;obtain ⟨A',c',hv6,-⟩:=hown.rd;subst hv6;have HGW:Hid (W.heap.size≤w6.heap.size):=lH HB6.o.size;clear hb6 hB6 hown HB5 HQ
   go_wp2_with (at_builtin;refine wpList_appRow rfl (.tmp 16) (.tmp 23) _ rfl W.heap.size Tryz.underlying92 u7 hs _ rfl HO.o B6 _ us _ HW6.o rfl ?k1 HGW.o ?_)
   case k1=>rw [zF_];omega
   intro v' w8 hs' hrows hb8;have HO8:=lH hrows;have HB8:=lH (HB6.o.trans hb8);clear hrows hb8
   go_wp2_with fail
   go_roundw
   case rel=>exact ⟨k+1,hs',hlt,val_int HNX.o,by rw [HTK.o];exact HO8.o,HB8.o⟩
   case measure=>exact HNM.o
  ·have hke:k=n:=by omega
   have hrl:(rowsR x ms).length=n:=by unfold rowsR;rw [zG_];exact HML.o
   have HOE:Hid (RowsS wr W.heap.size u7 hs (rowsR x ms)):=lH (by
    have h:=HO.o;rw [zH_ (by omega)] at h;exact h)
   have hkI:¬(k:Int)<(n:Int):=by omega
   obtain ⟨A',c',hv,hrd,h1,h2⟩:=HOE.o.rd;rw [hrl] at hv hrd h1;subst hv;have HO2:Hid (RowsS wr W.heap.size (.slice A' n c') hs (rowsR x ms)):=HOE;clear hrd hrl
   go_wp2_with fail
   go_ret;exact ⟨HK.o.trans (HB.o.mono HSZ.o),A',c',hs,W.heap.size,by rw [HML.o];rfl,HSZ.o,by rw [HML.o];exact HO2.o,by rw [HML.o];exact h1,h2⟩
end
section
theorem redGo_bd:∀ (s:Nat) {M:List (List Rat)} {N k b:Nat} {piv:List Nat},(∀ a∈M,a.length=N)→k+s≤N→Bd b M→Bd (4^s*b) (redGo s M piv k).1
 | 0,M,N,k,b,piv,hw,hk,h=>by rw [Nat.pow_zero,Nat.one_mul];exact h
 | s+1,M,N,k,b,piv,hw,hk,h=>by
  unfold redGo;have hpos:0<4^(s+1):=Nat.pow_pos (by decide);have hle:b≤4^(s+1)*b:=Nat.le_mul_of_pos_left _ hpos
  by_cases hl:piv.length<M.length
  ·rw [if_pos hl]
   by_cases hp:pivR M piv.length k=M.length
   ·rw [if_pos hp]
    exact (redGo_bd s hw (by omega) h).mono (Nat.mul_le_mul_right _ (Nat.pow_le_pow_right (by decide) (Nat.le_succ _)))
   ·rw [if_neg hp]
    obtain ⟨Rp,hRp,hd⟩:=pivR_some (zQ_ hl) hp;obtain ⟨Rr,hRr⟩:∃ Rr,M[piv.length]?=some Rr:=⟨_,zA_ hl⟩;have h1:=col_bd h hw hRr hRp (k:=k) (by omega);have h2:=redGo_bd s (piv:=piv++[k]) (k:=k+1) (col_width hw hRr hRp) (by omega) h1;rw [←Nat.mul_assoc,←Nat.pow_succ] at h2;exact h2
  ·rw [if_neg hl]
   exact h.mono hle
theorem inv_bd {M:List (List Rat)} {b:Nat} (hw:∀ a∈M,a.length=M.length) (h:Bd b M) (hb:3≤b):Bd (4^M.length*b) (invL M):=fun a ha x hx=>by
 unfold invL at ha;obtain ⟨r,hr,rfl⟩:=List.mem_map.1 ha;exact redGo_bd M.length (extR_wid hw) (by omega) (extR_bd h hb) r hr x (List.mem_of_mem_drop hx)
def gainR (n:Nat) (M:List (List Rat)) (ms:List Mi):List (List Rat):=(List.range n).map fun a=>(List.range n).map fun b=>gSum M ms M.length a b
theorem gainR_len {n:Nat} {M:List (List Rat)} {ms:List Mi}:(gainR n M ms).length=n:=by simp [gainR]
theorem gain_eq {n K:Nat} {M G:List (List Rat)} {ms:List Mi} (h:AdmOk n K G) (hv:∀ a b,a<n→b<n→ent G a b=gSum M ms M.length a b):G=gainR n M ms:=by
 apply List.ext_getElem?;intro i
 by_cases hi:i<n
 ·obtain ⟨r,hr⟩:∃ r,G[i]?=some r:=zX_ (by rw [h.len];exact hi)
  have hrl:=h.wid r (zC_ hr);rw [hr];unfold gainR;rw [zM_,List.getElem?_range hi];show some r=some _;congr 1
  apply List.ext_getElem?;intro j
  by_cases hj:j<n
  ·have h2:=hv i j hi hj
   rw [ent_row hr] at h2;rw [zM_,List.getElem?_range hj,vf_get (l:=r) (i:=j) (by rw [hrl];exact hj),h2];rfl
  ·rw [List.getElem?_eq_none (by omega),List.getElem?_eq_none (by simp;omega)]
 ·rw [List.getElem?_eq_none (by rw [h.len];omega),List.getElem?_eq_none (by rw [gainR_len];omega)]
def mdvR (x:Net) (m:Mi):Rat:=(m.wt:Rat)*(qOf m.txt-(formR x m).2)
def mdvF (x:Net) (ms:List Mi):Fn:=fun k=>match ms[k]? with | some m=>mdvR x m | none=>0
theorem devF_at {x:Net} {ms:List Mi} {k:Nat} {m:Mi} (h:ms[k]?=some m):mdvF x ms k=mdvR x m:=by unfold mdvF;rw [h]
def rgtR (n:Nat) (x:Net) (ms:List Mi) (k:Nat):List Rat:=(List.range n).map fun i=>sumTo k fun t=>mdvF x ms t*vf ((rowsR x ms).getD t []) i
theorem rgtR_len {n:Nat} {x:Net} {ms:List Mi} {k:Nat}:(rgtR n x ms k).length=n:=by simp [rgtR]
theorem rgtR_zero {n:Nat} {x:Net} {ms:List Mi}:rgtR n x ms 0=List.replicate n 0:=by
 apply List.ext_getElem?;intro i;unfold rgtR;rw [zM_,List.getElem?_replicate]
 by_cases hi:i<n
 ·rw [List.getElem?_range hi,if_pos hi];rfl
 ·rw [List.getElem?_eq_none (by simp;omega),if_neg hi];rfl
theorem rgtR_vf {n:Nat} {x:Net} {ms:List Mi} {k i:Nat} (hi:i<n):vf (rgtR n x ms k) i=sumTo k fun t=>mdvF x ms t*vf ((rowsR x ms).getD t []) i:=by
 apply vf_at;unfold rgtR;rw [zM_,List.getElem?_range hi];rfl
def rgtP (n:Nat) (x:Net) (ms:List Mi) (k i:Nat):List Rat:=(rgtR n x ms (k+1)).take i++(rgtR n x ms k).drop i
theorem rgtP_zero {n:Nat} {x:Net} {ms:List Mi} {k:Nat}:rgtP n x ms k 0=rgtR n x ms k:=by simp [rgtP]
theorem rgtP_end {n:Nat} {x:Net} {ms:List Mi} {k:Nat}:rgtP n x ms k n=rgtR n x ms (k+1):=by
 unfold rgtP;rw [zH_ (by rw [rgtR_len];exact lR),List.drop_eq_nil_iff.2 (by rw [rgtR_len];exact lR),List.append_nil]
theorem rgtP_len {n:Nat} {x:Net} {ms:List Mi} {k i:Nat} (hi:i≤n):(rgtP n x ms k i).length=n:=by
 unfold rgtP;rw [zE_,zF_,zS_,rgtR_len,rgtR_len];omega
theorem rgtP_at {n:Nat} {x:Net} {ms:List Mi} {k i:Nat} (hi:i<n):(rgtP n x ms k i)[i]?=some (vf (rgtR n x ms k) i):=by
 unfold rgtP;rw [zN_ (by rw [zF_,rgtR_len];omega),zF_,rgtR_len,List.getElem?_drop,show i+(i-min i n)=i from by omega];exact vf_get (by rw [rgtR_len];exact hi)
theorem rgtP_set {n:Nat} {x:Net} {ms:List Mi} {k i:Nat} (hi:i<n) {row:List Rat} (hr:(rowsR x ms)[k]?=some row):(rgtP n x ms k i).set i (vf (rgtR n x ms k) i+mdvF x ms k*vf row i)=rgtP n x ms k (i+1):=by
 have h1:vf (rgtR n x ms k) i+mdvF x ms k*vf row i=vf (rgtR n x ms (k+1)) i:=by
  rw [rgtR_vf hi,rgtR_vf hi];simp only [sumTo];rw [zD_ (l:=rowsR x ms) (i:=k),hr];rfl
 rw [h1];apply List.ext_getElem?;intro j;unfold rgtP;rw [List.getElem?_set]
 by_cases hj:i=j
 ·subst hj
  rw [if_pos rfl,if_pos (by rw [zE_,zF_,zS_,rgtR_len,rgtR_len];omega),zR_ (by rw [zF_,rgtR_len];omega),List.getElem?_take,if_pos (Nat.lt_succ_self _),vf_get (by rw [rgtR_len];exact hi)]
 ·rw [if_neg hj,List.getElem?_append,List.getElem?_append,zF_,zF_,rgtR_len,List.getElem?_take,List.getElem?_take,List.getElem?_drop,List.getElem?_drop]
  by_cases h2:j<i
  ·rw [if_pos (by omega),if_pos h2,if_pos (by omega),if_pos (by omega)]
  ·rw [if_neg (by omega),if_neg (by omega),show i+(j-min i n)=j from by omega,show i+1+(j-min (i+1) n)=j from by omega]
def layL (F:List Nat) (d:Fn) (z:List Rat):Nat→List Rat
 | 0=>z
 | k+1=>(layL F d z k).set (F.getD k 0) (d k)
theorem layL_len {F:List Nat} {d:Fn} {z:List Rat}:∀ k,(layL F d z k).length=z.length
 | 0=>rfl
 | k+1=>by unfold layL;rw [zU_,layL_len k]
def estD (x:Net) (ms:List Mi):Fn:=fun i=>dotR ((invL (gainR (freeL x).length (rowsR x ms) ms)).getD i []) (rgtR (freeL x).length x ms ms.length)
def estR (x:Net) (ms:List Mi):List Rat:=layL (freeL x) (estD x ms) (zrs (busN x)) (freeL x).length
def residR (x:Net) (ms:List Mi) (al:List Rat):List Rat:=ms.map fun m=>qOf m.txt-(dotR (formR x m).1 al+(formR x m).2)
def EReg (x:Net) (ms:List Mi):Prop:=Reg (gainR (freeL x).length (rowsR x ms) ms)
end
section
open Go.ChangeShapes Go.WideShapes Go.ChangeAt Go.RowKit
attribute [local go_sem ↓] execOp_call_val
attribute [local go_sem] callVal_func setCell_drewN alloc_drewN sEq_walk
structure Vb (w:World) (gc:Nat) (vs:List Rv) (q:List Rat):Prop where
 row:∃ cs,Blk w gc 115 cs∧cs.toList.take (q.length*4)=rvs vs
 len:vs.length=q.length
 ok:RvOk w vs q
section
variable {w w':World} {gc:Nat} {vs:List Rv} {q:List Rat}
theorem Vb.lt (f:Vb w gc vs q):gc<w.heap.size:=by obtain ⟨cs,h1,h2⟩:=f.row;exact h1.lt
theorem Vb.up (f:Vb w gc vs q) (hb:Below w.heap.size w w'):Vb w' gc vs q:=by
 obtain ⟨cs,h1,h2⟩:=f.row;exact ⟨⟨cs,h1.bl hb,h2⟩,f.len,f.ok.up hb⟩
theorem Vb.elem (f:Vb w gc vs q) {j:Nat} (hj:j<q.length):∃ x,vs[j]?=some x∧w.cell? ⟨gc,j*4,none⟩=some (.bool x.b1)∧w.cell? ⟨gc,j*4+1,none⟩=some (.slice x.A x.n x.c)∧w.cell? ⟨gc,j*4+2,none⟩=some (.bool x.b2)∧w.cell? ⟨gc,j*4+3,none⟩=some (.slice x.A2 x.m x.d)∧gc<w.heap.size∧(∀ o,w.frozen? ⟨gc,o,none⟩=false):=by
 obtain ⟨cs,h1,h2⟩:=f.row;obtain ⟨x,hx⟩:∃ x,vs[j]?=some x:=zX_ (by rw [f.len];exact hj);obtain ⟨c0,c1,c2,c3⟩:=h1.row_cell h2 hx;exact ⟨x,hx,c0,c1,c2,c3,h1.lt,h1.frozen⟩
theorem Vb.val (f:Vb w gc vs q) {j:Nat} (hj:j<q.length) {x:Rv} (hx:vs[j]?=some x):RtV w w.heap.size (vf q j) x:=f.ok j _ x (vf_get hj) hx
theorem Vb.keep (f:Vb w gc vs q) {j:Nat} (hj:j<q.length) {x y:Rv} {p:Rat} (hy:RtV w w.heap.size p y):RtV (putV w gc j x) (putV w gc j x).heap.size p y:=by
 obtain ⟨cs,h1,h2⟩:=f.row;obtain ⟨x0,hx⟩:∃ x,vs[j]?=some x:=zX_ (by rw [f.len];exact hj);exact RtV.keep4 hy x h1 h2 hx
theorem Vb.put (f:Vb w gc vs q) {j:Nat} (hj:j<q.length) {x:Rv} {p:Rat} (hx:RtV w w.heap.size p x):Vb (putV w gc j x) gc (vs.set j x) (q.set j p):=by
 obtain ⟨cs,h1,h2⟩:=f.row;obtain ⟨cs',k1,k2⟩:=h1.row_put x h2 f.len hj;refine ⟨⟨cs',k1,by rw [zU_];exact k2⟩,by simp [f.len],fun i p' y hp hy=>?_⟩;rw [List.getElem?_set] at hp hy
 by_cases hij:j=i
 ·subst hij
  rw [if_pos rfl,if_pos hj] at hp;rw [if_pos rfl,if_pos (by rw [f.len];exact hj)] at hy;injection hp with hp;injection hy with hy;subst hp;subst hy;exact f.keep hj hx
 ·rw [if_neg hij] at hp hy
  exact f.keep hj (f.ok i p' y hp hy)
theorem Vb.rdq (f:Vb w gc vs q):RdQ w w.heap.size (some ⟨gc,0,none⟩) q.length q:=by
 obtain ⟨cs,h1,h2⟩:=f.row;refine ⟨vs,f.len,rfl,⟨by rw [rvs_len,f.len],fun hn=>⟨gc,0,rfl,h1.lt,fun i v hv=>?_⟩⟩,f.ok⟩;rw [Nat.zero_add,h1.cell];rw [←h2] at hv;rw [List.getElem?_take] at hv
 split at hv
 ·rwa [Array.getElem?_toList] at hv
 ·cases hv
end
theorem vb_made {w:World} {gc n:Nat} {v:Rv} (hc:Blk w gc 115 (rvs (List.replicate n v)).toArray) (hv:RtV w w.heap.size 0 v):Vb w gc (List.replicate n v) (zrs n):=by
 refine ⟨⟨_,hc,?_⟩,by simp [zrs],fun i p x hp hx=>?_⟩
 ·have hl:(rvs (List.replicate n v)).length=n*4:=(rvs_len _).trans (by rw [zO_])
  rw [zrs,zO_];exact zH_ (Nat.le_of_eq hl)
 ·unfold zrs at hp
  rw [List.getElem?_replicate] at hp hx
  split at hp
  ·rename_i h
   rw [if_pos h] at hx;rw [←Option.some.inj hp,←Option.some.inj hx];exact hv
  ·cases hp
theorem fit_put {w:World} {g T:Nat} {a0 a1 a2 a3 a4 v0 v1 v2 v3 v4:Value} (h:Blk w g T #[a0,a1,a2,a3,a4]):Blk (((((w.setCell ⟨g,0,none⟩ v0).setCell ⟨g,1,none⟩ v1).setCell ⟨g,2,none⟩ v2).setCell ⟨g,3,none⟩ v3).setCell ⟨g,4,none⟩ v4) g T #[v0,v1,v2,v3,v4]:=((((h.set_ 0 v0).set_ 1 v1).set_ 2 v2).set_ 3 v3).set_ 4 v4
theorem below_fit {a w:World} {B g:Nat} {v0 v1 v2 v3 v4:Value} (h:Below B a w) (hg:B≤g):Below B a (((((w.setCell ⟨g,0,none⟩ v0).setCell ⟨g,1,none⟩ v1).setCell ⟨g,2,none⟩ v2).setCell ⟨g,3,none⟩ v3).setCell ⟨g,4,none⟩ v4):=((((h.setCell hg _).setCell hg _).setCell hg _).setCell hg _).setCell hg _
def NoB (cs:Array Value):Prop:=∀ (i:Nat) (u:Value),cs[i]?=some u→(∀ b,u≠.bool b)∧NotInt u
section
variable {w:World} {g T:Nat} {cs:Array Value} {i:Nat} {u y:Value}
theorem RdQ.keepB {n:Nat} {A0:Option Addr} {qs:List Rat} (h:RdQ w w.heap.size A0 n qs) (hb:Blk w g T cs) (hc:NoB cs) (hy:cs[i]?=some y):RdQ (w.setCell ⟨g,i,none⟩ u) (w.setCell ⟨g,i,none⟩ u).heap.size A0 n qs:=by
 obtain ⟨vs,h1,h2,h3,h4⟩:=h;refine ⟨vs,h1,h2,⟨h3.1,fun hn=>?_⟩,fun j q v hq hv=>RtV.keep1 (h4 j q v hq hv) hb hy (hc _ _ hy).2 u⟩;obtain ⟨b,off,e,hlt,hcc⟩:=h3.2 hn;have hbg:b≠g:=by
  rintro rfl;obtain ⟨v,hv⟩:∃ v,vs[0]?=some v:=zX_ (by omega);have:=hcc 0 (.bool v.b1) (by have h5:=rvs_at hv 0 (by decide);simpa [Rv.cells] using h5);rw [Nat.add_zero,hb.cell] at this;exact (hc _ _ this).1 _ rfl
 refine ⟨b,off,e,by simpa [World.setCell] using hlt,fun j v hv=>?_⟩;rw [World.cell?_setCell_other _ _ _ _ (fun e2=>hbg (by injection e2 with e2;exact e2.symm))];exact hcc j v hv
theorem RdM.keepB {n:Nat} {A0:Option Addr} {M:List (List Rat)} (h:RdM w w.heap.size A0 n M) (hb:Blk w g T cs) (hc:NoB cs) (hy:cs[i]?=some y) (hA:∀ b off,A0=some ⟨b,off,none⟩→b≠g):RdM (w.setCell ⟨g,i,none⟩ u) (w.setCell ⟨g,i,none⟩ u).heap.size A0 n M:=by
 obtain ⟨hs,h1,h2,h3,h4⟩:=h;refine ⟨hs,h1,h2,⟨h3.1,fun hn=>?_⟩,fun j z q hz hq=>⟨(h4 j z q hz hq).1.keepB hb hc hy,(h4 j z q hz hq).2⟩⟩;obtain ⟨b,off,e,hlt,hcc⟩:=h3.2 hn;refine ⟨b,off,e,by simpa [World.setCell] using hlt,fun j v hv=>?_⟩;rw [World.cell?_setCell_other _ _ _ _ (fun e2=>hA b off e (by injection e2 with e2;exact e2.symm))];exact hcc j v hv
end
theorem fit_nob {g:Nat} {A1 A2 A3 A4:Option Addr} {n1 c1 n2 c2 n3 c3 n4 c4:Nat}:NoB #[.pointer (some ⟨g,0,none⟩),.slice A1 n1 c1,.slice A2 n2 c2,.slice A3 n3 c3,.slice A4 n4 c4]:=fun i u h=>by
 have h2:=Array.mem_toList_iff.2 (Array.mem_of_getElem? h);simp only [List.mem_cons,List.not_mem_nil,or_false] at h2;rcases h2 with rfl | rfl | rfl | rfl | rfl<;>exact ⟨fun b e=>(by cases e),fun k x e=>(by cases e)⟩
end
end Go.Proofs.YthgdchffeigkbaaGreatDoor
