import Derived.Test.YthgdchffeigkbaaGreatDoorU31
set_option linter.unusedVariables false
set_option linter.unusedSimpArgs false
namespace Go.Proofs.YthgdchffeigkbaaGreatDoor
set_option maxHeartbeats 4000000
set_option maxRecDepth 100000
section
open Go.ChangeShapes Go.WideShapes Go.ChangeAt Go.RowKit
attribute [local go_sem ↓] execOp_call_val
attribute [local go_sem] callVal_func setCell_drewN alloc_drewN sEq_walk
theorem FmS.vb {w:World} {gf gc:Nat} {vs:List Rv} {u:Rv} {q:List Rat} {z:Rat} (f:FmS w gf gc vs u q z) {p n T:Nat} {y:Rv} (hb:Blk w p T #[.slice none 0 0,.bool false,.slice none 0 0,.bool false,.slice none 0 0]) (hp:gc≠p):Vb (put5 w p gc n y) gc vs q:=by
 obtain ⟨cs,h1,h2⟩:=f.row;exact ⟨⟨cs,((((h1.far hp _).far hp _).far hp _).far hp _).far hp _,h2⟩,f.len,fun i t v ht hv=>(f.ok i t v ht hv).keep5 hb⟩
def FormO (x:Net) (m:Mi) (w:World) (e:Ending) (w':World):Prop:=Below w.heap.size w w'∧∃ (gc:Nat) (u:Rv),e=.returned (.agg #[.slice (some ⟨gc,0,none⟩) (busN x) (busN x),.bool u.b1,.slice u.A u.n u.c,.bool u.b2,.slice u.A2 u.m u.d])∧w.heap.size≤gc∧(∃ vs,Vb w' gc vs (formR x m).1)∧RtV w' w'.heap.size (formR x m).2 u
theorem formO_any (h:NetH) (x:Net) (ok:NetOk x) (h8:x.nodes.length≤8) (g:Nat) (m:ModH) (y:Value) (mi:Mi) (w:World) (r:RdNet w w.heap.size h x) (hg:Blk w g 122 (m.cells y)) (hr:RdMod w w.heap.size m x) (h0:mi.kind=0→0≤brIdx x mi.name) (h1:mi.kind≠0→mi.name∈x.nodes) :
    Calls Tryz.prog 63 #[.agg h.cells,.pointer (some ⟨g,0,none⟩),mi.val] w (FormO x mi w):=by
 have HN1:Hid (busN x=m.n1):=lH (by rw [←islR_len ok];exact hr.r1.len);have HX:=lH r;have HG:=lH hg;have HR:=lH hr;have H0:=lH h0;have H1:=lH h1;have HOK:=lH ok;have hnb:m.n1≤8:=by rw [←HN1.o];exact zI_ (busN_ok ok).2 h8
 have HNB:=lH hnb;obtain ⟨kind,name,txt,wt⟩:=mi;simp only [Mi.val];have Q0:Below w.heap.size w ((((w.alloc (.cells h.cells 29)).alloc (.cells #[.pointer (some ⟨g,0,none⟩)] 90)).alloc (.cells #[.int .i64 kind,.string name,.string txt,.int .i64 wt] 57)).alloc (.cells #[.slice none 0 0,.bool false,.slice none 0 0,.bool false,.slice none 0 0] 117)):=(((Below.alloc (Below.refl _ w) lR _).alloc (by simp<;>omega) _).alloc (by simp<;>omega) _).alloc (by simp<;>omega) _;have HW:=lH Q0;have P0:=lH (((Blk.new w 29 h.cells).alloc (.cells #[.pointer (some ⟨g,0,none⟩)] 90)).alloc (.cells #[.int .i64 kind,.string name,.string txt,.int .i64 wt] 57) |>.alloc (.cells #[.slice none 0 0,.bool false,.slice none 0 0,.bool false,.slice none 0 0] 117))
 have P1:Hid (Blk ((((w.alloc (.cells h.cells 29)).alloc (.cells #[.pointer (some ⟨g,0,none⟩)] 90)).alloc (.cells #[.int .i64 kind,.string name,.string txt,.int .i64 wt] 57)).alloc (.cells #[.slice none 0 0,.bool false,.slice none 0 0,.bool false,.slice none 0 0] 117)) (w.heap.size+1) 90 #[.pointer (some ⟨g,0,none⟩)]):=lH (((Blk.new_ (by simp)).alloc _).alloc _);have P2:Hid (Blk ((((w.alloc (.cells h.cells 29)).alloc (.cells #[.pointer (some ⟨g,0,none⟩)] 90)).alloc (.cells #[.int .i64 kind,.string name,.string txt,.int .i64 wt] 57)).alloc (.cells #[.slice none 0 0,.bool false,.slice none 0 0,.bool false,.slice none 0 0] 117)) (w.heap.size+1+1) 57 #[.int .i64 kind,.string name,.string txt,.int .i64 wt]):=lH ((Blk.new_ (by simp)).alloc _)
 have P3:Hid (Blk ((((w.alloc (.cells h.cells 29)).alloc (.cells #[.pointer (some ⟨g,0,none⟩)] 90)).alloc (.cells #[.int .i64 kind,.string name,.string txt,.int .i64 wt] 57)).alloc (.cells #[.slice none 0 0,.bool false,.slice none 0 0,.bool false,.slice none 0 0] 117)) (w.heap.size+1+1+1) 117 #[.slice none 0 0,.bool false,.slice none 0 0,.bool false,.slice none 0 0]):=lH (Blk.new_ (by simp));clear r hg hr h0 h1 ok Q0 hnb;obtain ⟨A0,n0,c0,A1,n1,c1,A2,n2,c2,A3,n3,c3,A4,n4,c4,A5,n5,c5,A6,n6,c6⟩:=m;simp only [ModH.cells] at HG HN1 HNB;go_enter Tryz.func63,Tryz.ntmps63
 go_upto_region 1 with fail
 have HSZ:Hid (((((w.alloc (.cells h.cells 29)).alloc (.cells #[.pointer (some ⟨g,0,none⟩)] 90)).alloc (.cells #[.int .i64 kind,.string name,.string txt,.int .i64 wt] 57)).alloc (.cells #[.slice none 0 0,.bool false,.slice none 0 0,.bool false,.slice none 0 0] 117)).heap.size=w.heap.size+1+1+1+1):=lH (by simp);generalize ((((w.alloc (.cells h.cells 29)).alloc (.cells #[.pointer (some ⟨g,0,none⟩)] 90)).alloc (.cells #[.int .i64 kind,.string name,.string txt,.int .i64 wt] 57)).alloc (.cells #[.slice none 0 0,.bool false,.slice none 0 0,.bool false,.slice none 0 0] 117))=wa at *;have b0:=P1.o.cell 0;have bl:=P1.o.lt
 go_wp2_with fail
 refine (mbuses_any g ⟨A0,n0,c0,A1,n1,c1,A2,n2,c2,A3,n3,c3,A4,n4,c4,A5,n5,c5,A6,n6,c6⟩ y wa (HG.o.bl HW.o)).mono ?_;rintro e w1 ⟨rfl,rfl⟩
 go_wp2_with fail
 refine (zeros_any n1 wa (by have:=HNB.o;omega)).mono ?_;rintro e w1 ⟨hb1,gc,v,rfl,hgc,hbc,hv⟩
 go_wp2_with fail
 refine (wholeV 0 w1 (by decide) (by decide)).mono ?_;rintro e w2 ⟨hb2,u,rfl,hu⟩;have HF0:=lH (form_made (gc:=gc) (n:=n1) (hbc.bl hb2) (hv.up hb2) hu);have HB2:=lH (HW.o.trans ((hb1.tm hb2).mono HW.o.size));have HBM:=lH (below_mkF (w:=w2) (gc:=gc) (n:=n1) (u:=u));have HGC:Hid (wa.heap.size≤gc∧gc<w2.heap.size):=lH ⟨hgc,zJ_ hbc.lt hb2.size⟩;have HS2:Hid (wa.heap.size≤w2.heap.size):=lH (zI_ hb1.size hb2.size);have hz:Below wa.heap.size wa w2:=hb1.tm hb2;replace P0:=lH (P0.o.bl hz);replace P1:=lH (P1.o.bl hz);replace P2:=lH (P2.o.bl hz);replace P3:=lH (P3.o.bl hz);clear hb1 hb2 hgc hbc hv hu hz b0 bl
 go_upto_region 2 with fail
 unfold mkF at HF0 HBM;generalize hwb:w2.alloc (.cells #[.slice (some ⟨gc,0,none⟩) n1 n1,.bool u.b1,.slice u.A u.n u.c,.bool u.b2,.slice u.A2 u.m u.d] 117)=wb at *;clear hwb;have HW3:=lH (HB2.o.tm HBM.o);have EV:Hid (FEnv wb wa.heap.size (w.heap.size+1) g ⟨A0,n0,c0,A1,n1,c1,A2,n2,c2,A3,n3,c3,A4,n4,c4,A5,n5,c5,A6,n6,c6⟩ y x w2.heap.size gc):=lH ⟨HS2.o,HGC.o.1,by have:=HSZ.o;omega,by have:=HSZ.o;have:=HG.o.lt;omega,by have:=HBM.o.size;have:=HS2.o;omega,P1.o.bl HBM.o,HG.o.bl HW3.o,(HR.o.below HW3.o lR).more (by have:=HSZ.o;omega)⟩;replace P0:=lH (P0.o.bl HBM.o);replace P2:=lH (P2.o.bl HBM.o);replace P3:=lH (P3.o.bl HBM.o);generalize hgf:w2.heap.size=gf at *;have HGF:Hid (wa.heap.size≤gf):=lH (by have:=HS2.o;omega);clear hgf HBM HB2 P1 HS2 HG;have k0:=P2.o.cell 0;have kl:=P2.o.lt
 go_upto_if 19 with fail
 clear k0 kl;obtain ⟨D0,r0,s0,D1,r1,s1,D2,r2,s2,D3,r3,s3,D4,r4,s4,D5,r5,s5⟩:=h
 by_cases hk:kind=0
 ·subst hk
  have hbi:=H0.o rfl;rcases brIdx_spec x name with ⟨h1,_⟩ | ⟨i,b,h1,h2,h3⟩
  ·exact absurd (show 0≤brIdx x name from hbi) (by omega)
  clear hbi h3;have HBI:=lH h1;have HBR:=lH h2;clear h1 h2;obtain ⟨y0,y1,y2,y3,y4,y5,nf,nlt⟩:=net_box P0.o;dsimp only at y0 y1 y2 y3 y4 y5;have k1:=P2.o.cell 1;have kl:=P2.o.lt
  go_wp2_with fail
  refine (mbranch_any _ x name wb (HX.o.up HW3.o)).mono ?_;rintro e w5 ⟨rfl,hb5⟩;rw [HBI.o]
  go_wp2_with fail
  refine (addx_any (s:=(zrs n1,0)) (EV.out.oth (oth_below hb5)) (HF0.o.up hb5) (zrs_ok n1) (by decide) HN1.o.symm h8 HOK.o HBR.o false).mono ?_;rintro e w6 ⟨rfl,ho,vs2,u2,hf⟩;have HO:Hid (Oth gf gc wb w6):=lH ((oth_below hb5).trans ho);have HF:=lH hf;clear hb5 ho hf k1 kl;clear y0 y1 y2 y3 y4 y5 nf nlt;have HFE:Hid (formR x ⟨0,name,txt,wt⟩=(addF (sg false (susR b)) (busAt x b.fr) (busAt x b.to) (zrs n1),0+sg false (conR b))):=lH (by
   obtain ⟨a1,a2,a3,a4⟩:=mFrom_at HBR.o;unfold formR;rw [if_pos rfl];simp only [HBI.o,zL_,HN1.o,zD_,vf,a1,a2,a3,a4];rfl)
  have HQL:Hid ((addF (sg false (susR b)) (busAt x b.fr) (busAt x b.to) (zrs n1)).length=n1):=lH (by rw [addF_len];simp [zrs]);have HL:Hid (Below w.heap.size w w6):=lH (HW3.o.trans (HO.o.below (by have:=HSZ.o;have:=HGF.o;omega) (by have:=HSZ.o;have:=HGC.o.1;omega) HW3.o.size));have P3b:Hid (Blk w6 (w.heap.size+1+1+1) 117 #[.slice none 0 0,.bool false,.slice none 0 0,.bool false,.slice none 0 0]):=lH (HO.o.blk P3.o (by have:=HSZ.o;have:=HGF.o;omega) (by have:=HSZ.o;have:=HGC.o.1;omega));have HPC:Hid (gc≠w.heap.size+1+1+1):=lH (by have:=HSZ.o;have:=HGC.o.1;omega);have q0:=HF.o.blk.cell 0;have q1:=HF.o.blk.cell 1;have q2:=HF.o.blk.cell 2;have q3:=HF.o.blk.cell 3;have q4:=HF.o.blk.cell 4;rw [HQL.o] at q0;have z0:=P3b.o.cell 0;have z1:=P3b.o.cell 1;have z2:=P3b.o.cell 2;have z3:=P3b.o.cell 3;have z4:=P3b.o.cell 4;have ql:=HF.o.blk.lt;have zl:=P3b.o.lt;have zf:=P3b.o.frozen
  go_wp2_with fail
  have HPB:=lH (put5_blk (gc:=gc) (n:=n1) (u:=u2) P3b.o);clear q0 z0 q1 z1 q2 z2 q3 z3 q4 z4 ql zl zf;have p0:=HPB.o.cell 0;have p1:=HPB.o.cell 1;have p2:=HPB.o.cell 2;have p3:=HPB.o.cell 3;have p4:=HPB.o.cell 4;unfold put5 at p0 p1 p2 p3 p4;refine bodyPost_ret (v:=.agg #[.slice (some ⟨gc,0,none⟩) n1 n1,.bool u2.b1,.slice u2.A u2.n u2.c,.bool u2.b2,.slice u2.A2 u2.m u2.d]) (by simp [results,Tryz.results63,go_sem,p0,p1,p2,p3,p4]) rfl ?_;refine ⟨below_put5 (gc:=gc) (n:=n1) (u:=u2) HL.o (by omega),gc,u2,by rw [HN1.o],(by have:=HSZ.o;have:=HGC.o.1;omega),?_,?_⟩
  ·have h:=HF.o.vb P3b.o HPC.o (n:=n1) (y:=u2)
   rw [HFE.o];exact ⟨_,h⟩
  ·rw [HFE.o]
   exact HF.o.val.keep5 P3b.o (gc:=gc) (n:=n1) (u:=u2)
 ·have hkB:(kind == 0)=false:=by simp [hk]
  rw [hkB];have hm:=H1.o hk;obtain ⟨ha1,ha2,ha3⟩:=busAt_ok HOK.o hm;obtain ⟨hi1,hi2⟩:=ndIdx_ok hm;have HA:Hid (∀ N,Calls Tryz.prog 91 #[.slice D0 r0 s0,.string name] (wb.drewN N) fun e w'=>e=.returned (.int .i64 (ndIdx x.nodes name:Int))∧w'=wb.drewN N):=lH fun N=>by
   have hx:=HX.o.up (below_drewN HW3.o N);exact (index_str _ _ s0 x.nodes name _ hx.r0 hx.m0).mono fun e w' ⟨he,hw⟩=>⟨by rw [he,hi1],hw.symm⟩
  have HBN:Hid (busAt x name<n1):=lH (by rw [←HN1.o];exact ha2);have hr0:=EV.out.rd.r0;simp only at hr0;have hr1:=hr0.2 (by have:=hr0.len;omega);obtain ⟨tb,to2,hA,htb,-⟩:=hr1;subst hA;have f0:=hr0.at_ (i:=ndIdx x.nodes name) (z:=(busAt x name:Int)) (by rw [zD_] at ha1;rw [zA_ ha3] at ha1 ⊢;simpa using ha1);have hiI:((ndIdx x.nodes name:Nat):Int)<(n0:Int):=by have:=hr0.len;omega
  have hi0:(0:Int)≤((ndIdx x.nodes name:Nat):Int):=by omega
  have hin:((ndIdx x.nodes name:Nat):Int).toNat=ndIdx x.nodes name:=zL_ _;have htl:tb<wb.heap.size:=zJ_ htb EV.out.hs;obtain ⟨y0,y1,y2,y3,y4,y5,nf,nlt⟩:=net_box P0.o;dsimp only at y0 y1 y2 y3 y4 y5;have k1:=P2.o.cell 1;have k0:=P2.o.cell 0;have kl:=P2.o.lt;have b0:=EV.out.box.cell 0;have bl:=EV.out.box.lt;have g0:wb.cell? ⟨g,0,none⟩=some (.slice (some ⟨tb,to2,none⟩) n0 c0):=EV.out.md.cell 0;have gl:=EV.out.md.lt;clear hi1 hi2 ha1 ha2 ha3 hm hr0 htb;generalize ndIdx x.nodes name=ia at *;generalize hK:busAt x name=bus at *;have HBUS:=lH hK;clear hK
  go_wp2_with fail
  go_quiet ((go_at_call_of 91 (Value.string name);exact (HA.o _).mono (fun _ _ hh=>⟨hh.1,_,hh.2⟩)))
  have hd:=below_drewN (Below.refl wb.heap.size wb) nq;replace EV:=lH (EV.out.oth (oth_below hd));replace HF0:=lH (HF0.o.up hd);replace P2:=lH (P2.o.bl hd);replace P3:=lH (P3.o.bl hd);replace HW3:=lH (below_drewN HW3.o nq);clear y0 y1 y2 y3 y4 y5 nf nlt;clear hd k0 k1 kl b0 bl g0 gl f0 HA hiI hi0 hin htl hkB P0 HX;generalize wb.drewN nq=wd at *;have k0:=P2.o.cell 0;have kl:=P2.o.lt;have HZL:Hid ((zrs n1).length=n1):=lH (by simp [zrs])
  by_cases hk2:kind=2
  ·subst hk2
   obtain ⟨xe,hx,c0,c1,c2',c3',hv,l1,f1⟩:=HF0.o.elem (j:=bus) (by rw [HZL.o];exact HBN.o);have HXX:=lH hx;have q0:=HF0.o.blk.cell 0;rw [HZL.o] at q0;have ql:=HF0.o.blk.lt;have hixI:(bus:Int)<(n1:Int):=by have:=HBN.o;omega
   have hix0:=lZ bus
   have hixn:=zL_ bus;have HB4:=lH (below_drew (Below.refl wd.heap.size wd));clear hx hv
   go_upto_region 8 with fail
   clear k0 kl;refine wp_region_last (S:=fun w'=>Below wd.heap.size wd w') 5 _ (by kernel_rfl) (by kernel_rfl) rfl (below_drew bR) (fun hHeld=>?_);simp only [zK_,List.take_zero];refine tkH 0 rfl ?_;refine tkH 1 rfl ?_;refine tkH 2 rfl ?_;refine stepH 3 (by kernel_rfl) rfl (fun K hK=>?_);go_simp;refine (wholeV 1 wd.drew (by decide) (by decide)).mono ?_;rintro e w8 ⟨hb8,v8,rfl,h8⟩;have HB8:Hid (Below wd.heap.size wd w8):=lH (HB4.o.tm hb8);have H8:Hid (RtV w8 w8.heap.size 1 v8):=lH h8;clear hb8 h8;go_simp;refine hK.out _ _ ?_ (fun hHeld=>?_)
   ·exact HB8.o
   clear hK K
   try simp only [Act.put,sA_,sB_,sC_]
   refine tkH 4 rfl ?_;refine wpAnyH_done (by kernel_rfl) ?_ _;refine lastQ_go (by rfl) ?_;clear hHeld;have HF8:=lH (HF0.o.up HB8.o);have HO8:Hid (Oth gf gc wd w8):=lH (oth_below HB8.o);clear c0 c1 c2' c3' l1 f1 q0 ql HF0 HB4 HB8;obtain ⟨c0,c1,c2',c3',l1,f1⟩:=HF8.o.elem2 HXX.o
   go_upto_region 9 with fail
   clear c0 c1 c2' c3' l1 f1;have HF:=lH (HF8.o.put (j:=bus) (by rw [HZL.o];exact HBN.o) H8.o);have HO:Hid (Oth gf gc wd (putV w8 gc bus v8)):=lH (HO8.o.trans oth_putV);clear HF8 HO8 H8 HXX hixI hix0 hixn;simp only [putV] at HF HO;generalize (((w8.setCell ⟨gc,bus*4,none⟩ _).setCell ⟨gc,bus*4+1,none⟩ _).setCell ⟨gc,bus*4+2,none⟩ _).setCell ⟨gc,bus*4+3,none⟩ _=we at *;replace HW3:=lH HW3.o;have HFE:Hid (formR x ⟨2,name,txt,wt⟩=((zrs n1).set bus 1,0)):=lH (by unfold formR;rw [if_neg (show ¬(2:Int)=0 by decide),if_pos rfl,HN1.o];simp only [HBUS.o]);have HQL:Hid (((zrs n1).set bus 1).length=n1):=lH (by rw [zU_];exact HZL.o);have HL:Hid (Below w.heap.size w we):=lH (HW3.o.trans (HO.o.below (by have:=HSZ.o;have:=HGF.o;omega) (by have:=HSZ.o;have:=HGC.o.1;omega) HW3.o.size))
   have P3b:Hid (Blk we (w.heap.size+1+1+1) 117 #[.slice none 0 0,.bool false,.slice none 0 0,.bool false,.slice none 0 0]):=lH (HO.o.blk P3.o (by have:=HSZ.o;have:=HGF.o;omega) (by have:=HSZ.o;have:=HGC.o.1;omega));have HPC:Hid (gc≠w.heap.size+1+1+1):=lH (by have:=HSZ.o;have:=HGC.o.1;omega);have q0:=HF.o.blk.cell 0;have q1:=HF.o.blk.cell 1;have q2:=HF.o.blk.cell 2;have q3:=HF.o.blk.cell 3;have q4:=HF.o.blk.cell 4;rw [HQL.o] at q0;have z0:=P3b.o.cell 0;have z1:=P3b.o.cell 1;have z2:=P3b.o.cell 2;have z3:=P3b.o.cell 3;have z4:=P3b.o.cell 4;have ql:=HF.o.blk.lt;have zl:=P3b.o.lt;have zf:=P3b.o.frozen
   go_wp2_with fail
   have HPB:=lH (put5_blk (gc:=gc) (n:=n1) (u:=u) P3b.o);clear q0 z0 q1 z1 q2 z2 q3 z3 q4 z4 ql zl zf;have p0:=HPB.o.cell 0;have p1:=HPB.o.cell 1;have p2:=HPB.o.cell 2;have p3:=HPB.o.cell 3;have p4:=HPB.o.cell 4;unfold put5 at p0 p1 p2 p3 p4;refine bodyPost_ret (v:=.agg #[.slice (some ⟨gc,0,none⟩) n1 n1,.bool u.b1,.slice u.A u.n u.c,.bool u.b2,.slice u.A2 u.m u.d]) (by simp [results,Tryz.results63,go_sem,p0,p1,p2,p3,p4]) rfl ?_;refine ⟨below_put5 (gc:=gc) (n:=n1) (u:=u) HL.o (by omega),gc,u,by rw [HN1.o],(by have:=HSZ.o;have:=HGC.o.1;omega),?_,?_⟩
   ·have h:=HF.o.vb P3b.o HPC.o (n:=n1) (y:=u)
    rw [HFE.o];exact ⟨_,h⟩
   ·rw [HFE.o]
    exact HF.o.val.keep5 P3b.o (gc:=gc) (n:=n1) (u:=u)
  ·have hkB2:(kind == 2)=false:=by simp [hk2]
   have b0:=EV.out.box.cell 0;have bl:=EV.out.box.lt;have g4:wd.cell? ⟨g,4,none⟩=some (.slice A4 n4 c4):=EV.out.md.cell 4;have gl:=EV.out.md.lt;have HFE:Hid (formR x ⟨kind,name,txt,wt⟩=injGo bus (mB x) (mC x) (mFrom x) (mTo x) (zrs n1,0)):=lH (by unfold formR;rw [if_neg (show ¬kind=0 from hk),if_neg (show ¬kind=2 from hk2),HN1.o];simp only [HBUS.o]);generalize hRR:injGo bus (mB x) (mC x) (mFrom x) (mTo x) (zrs n1,0)=RR at *;have HRR:=lH hRR;clear hRR;have HN4:Hid (x.brs.length=n4):=lH (by rw [←mB_len];exact EV.out.rd.r4.len);have HN2:Hid (x.brs.length=n2):=lH (by rw [←mFrom_len,←natJ_len];exact EV.out.rd.r2.len);have HN3:Hid (x.brs.length=n3):=lH (by rw [←mTo_len,←natJ_len];exact EV.out.rd.r3.len);have hn4:n4≤24:=by have:=HOK.o.l2;have:=HN4.o;omega
   go_wp2_with fail
   clear k0 kl hkB2 b0 bl g4 gl
   go_loopw [53] (fun v53 wr=>∃ (k:Nat) (vs:List Rv) (u2:Rv) (s:List Rat×Rat),k≤n4∧v53=.int .i64 k∧Oth gf gc wd wr∧FmS wr gf gc vs u2 s.1 s.2∧FOk n1 (2+12*k) s∧injGo bus ((mB x).drop k) ((mC x).drop k) ((mFrom x).drop k) ((mTo x).drop k) s=RR) (fun v53 _=>n4-(intOf v53).toNat)
   case atStart=>exact ⟨0,_,_,(zrs n1,0),by omega,rfl,oth_below bR,HF0.o,zrs_ok n1,HRR.o⟩
   case round=>
    clear HF0 HRR;obtain ⟨k,vs,u2,s,hk,rfl,ho,hf,hok,hgo⟩:=hrel;have HO:=lH ho;have HF:=lH hf;have HFK:=lH hok;have HGO:=lH hgo;clear ho hf hok hgo
    by_cases hlt:k<n4
    ·obtain ⟨b,hb⟩:∃ b,x.brs[k]?=some b:=zX_ (by have:=HN4.o;omega)
     have HBR:=lH hb;obtain ⟨a1,a2,a3,a4⟩:=mFrom_at hb;have HST:=lH ((injGo_cons (s:=s) (bus:=bus) a3 a4 a1 a2).symm.trans HGO.o);have HFR:=lH a1;have HTO:=lH a2;clear hb a1 a2 a3 a4 HGO;have hkI:(k:Int)<(n4:Int):=by omega
     have hk2I:(k:Int)<(n2:Int):=by have:=HN2.o;have:=HN4.o;omega
     have hk3I:(k:Int)<(n3:Int):=by have:=HN3.o;have:=HN4.o;omega
     have hk0:=lZ k
     have hkn:=zL_ k;have HNX:=lN k;have HNM:Hid (n4-(k+1)<n4-k):=lH (by omega);have HK6:Hid (2+12*k+6≤1000000):=lH (by omega);generalize hbu:busAt x b.fr=bu at *;generalize hbv:busAt x b.to=bv at *;have HBU:=lH hbu;have HBV:=lH hbv;clear hbu hbv;have HE:=lH (EV.out.oth HO.o);have hrI:=HE.o.rd.r2;simp only at hrI;have hrI2:=hrI.2 (by have:=HN2.o;have:=HN4.o;omega);obtain ⟨fb2,fo2,hA,hfb,-⟩:=hrI2;subst hA;have f0:=hrI.at_ (natJ_at HFR.o);have hfl:fb2<wr.heap.size:=zJ_ hfb HE.o.hs;have b0:=HE.o.box.cell 0;have bl:=HE.o.box.lt;have g0:wr.cell? ⟨g,2,none⟩=some (.slice (some ⟨fb2,fo2,none⟩) n2 c2):=HE.o.md.cell 2;have gl:=HE.o.md.lt;clear hrI hfb;unfold injStep at HST;dsimp only at HST
     by_cases hu:bu=bus
     ·have huB:((bu:Int) == (bus:Int))=true:=by simp [hu]
      rw [if_pos hu] at HST
      go_wp2_with fail
      refine (addx_any (s:=s) HE.o HF.o HFK.o (by have:=HK6.o;omega) HN1.o.symm h8 HOK.o HBR.o false).mono ?_;rintro e w7 ⟨rfl,ho7,vs7,u7,hf7⟩;rw [HBU.o,HBV.o] at hf7;replace HFK:=lH (addx_ok HOK.o (s:=s) HFK.o HN1.o.symm HBR.o false);rw [HBU.o,HBV.o] at HFK;replace HO:=lH (HO.o.trans ho7);replace HF:=lH hf7;clear ho7 hf7 huB;clear f0 hfl b0 bl g0 gl HE;have HE:=lH (EV.out.oth HO.o);have hrI:=HE.o.rd.r3;simp only at hrI;have hrI2:=hrI.2 (by have:=HN3.o;have:=HN4.o;omega);obtain ⟨fb3,fo3,hA,hfb,-⟩:=hrI2;subst hA;have f0:=hrI.at_ (natJ_at HTO.o);have hfl:fb3<w7.heap.size:=zJ_ hfb HE.o.hs;have b0:=HE.o.box.cell 0;have bl:=HE.o.box.lt;have g0:w7.cell? ⟨g,3,none⟩=some (.slice (some ⟨fb3,fo3,none⟩) n3 c3):=HE.o.md.cell 3;have gl:=HE.o.md.lt;clear hrI hfb
      by_cases hv:bv=bus
      ·have hvB:((bv:Int) == (bus:Int))=true:=by simp [hv]
       go_wp2_with fail
       refine (addx_any (s:=(addF (sg false (susR b)) bu bv s.1,s.2+sg false (conR b))) HE.o HF.o HFK.o (by have:=HK6.o;omega) HN1.o.symm h8 HOK.o HBR.o true).mono ?_;rintro e w9 ⟨rfl,ho9,vs9,u9,hf9⟩;rw [HBU.o,HBV.o] at hf9;have HFK9:=lH (addx_ok HOK.o (s:=(addF (sg false (susR b)) bu bv s.1,s.2+sg false (conR b))) HFK.o HN1.o.symm HBR.o true);rw [HBU.o,HBV.o] at HFK9;have HO9:=lH (HO.o.trans ho9);have HF9:=lH hf9;clear ho9 hf9 f0 hfl b0 bl g0 gl;rw [if_pos hv] at HST
       go_wp2_with fail
       go_roundw
       case rel=>exact ⟨k+1,_,_,_,hlt,val_int HNX.o,HO9.o,HF9.o,HFK9.o.mono (by omega),HST.o⟩
       case measure=>exact HNM.o
      ·have hvB:((bv:Int) == (bus:Int))=false:=by simp;omega
       rw [if_neg hv] at HST
       go_wp2_with fail
       go_roundw
       case rel=>exact ⟨k+1,_,_,_,hlt,val_int HNX.o,HO.o,HF.o,HFK.o.mono (by omega),HST.o⟩
       case measure=>exact HNM.o
     ·have huB:((bu:Int) == (bus:Int))=false:=by simp;omega
      rw [if_neg hu] at HST
      go_upto_region 15 with fail
      clear huB;clear f0 hfl b0 bl g0 gl HE;have HE:=lH (EV.out.oth HO.o);have hrI:=HE.o.rd.r3;simp only at hrI;have hrI2:=hrI.2 (by have:=HN3.o;have:=HN4.o;omega);obtain ⟨fb3,fo3,hA,hfb,-⟩:=hrI2;subst hA;have f0:=hrI.at_ (natJ_at HTO.o);have hfl:fb3<wr.heap.size:=zJ_ hfb HE.o.hs;have b0:=HE.o.box.cell 0;have bl:=HE.o.box.lt;have g0:wr.cell? ⟨g,3,none⟩=some (.slice (some ⟨fb3,fo3,none⟩) n3 c3):=HE.o.md.cell 3;have gl:=HE.o.md.lt;clear hrI hfb
      by_cases hv:bv=bus
      ·have hvB:((bv:Int) == (bus:Int))=true:=by simp [hv]
       go_wp2_with fail
       refine (addx_any (s:=s) HE.o HF.o HFK.o (by have:=HK6.o;omega) HN1.o.symm h8 HOK.o HBR.o true).mono ?_;rintro e w9 ⟨rfl,ho9,vs9,u9,hf9⟩;rw [HBU.o,HBV.o] at hf9;have HFK9:=lH (addx_ok HOK.o (s:=s) HFK.o HN1.o.symm HBR.o true);rw [HBU.o,HBV.o] at HFK9;have HO9:=lH (HO.o.trans ho9);have HF9:=lH hf9;clear ho9 hf9 f0 hfl b0 bl g0 gl;rw [if_pos hv] at HST
       go_wp2_with fail
       go_roundw
       case rel=>exact ⟨k+1,_,_,_,hlt,val_int HNX.o,HO9.o,HF9.o,HFK9.o.mono (by omega),HST.o⟩
       case measure=>exact HNM.o
      ·have hvB:((bv:Int) == (bus:Int))=false:=by simp;omega
       rw [if_neg hv] at HST
       go_wp2_with fail
       go_roundw
       case rel=>exact ⟨k+1,_,_,_,hlt,val_int HNX.o,HO.o,HF.o,HFK.o.mono (by omega),HST.o⟩
       case measure=>exact HNM.o
    ·have hke:k=n4:=by omega
     have HS:Hid (s=RR):=lH (by have h:=HGO.o;rw [List.drop_eq_nil_of_le (by rw [mB_len];have:=HN4.o;omega)] at h;exact h);have HQL:Hid (s.1.length=n1):=lH HFK.o.len;replace HFE:Hid (formR x ⟨kind,name,txt,wt⟩=(s.1,s.2)):=lH (by rw [HFE.o,←HS.o]);have hkI:¬(k:Int)<(n4:Int):=by omega
     clear HGO HS hke hlt hk;have HL:Hid (Below w.heap.size w wr):=lH (HW3.o.trans (HO.o.below (by have:=HSZ.o;have:=HGF.o;omega) (by have:=HSZ.o;have:=HGC.o.1;omega) HW3.o.size));have P3b:Hid (Blk wr (w.heap.size+1+1+1) 117 #[.slice none 0 0,.bool false,.slice none 0 0,.bool false,.slice none 0 0]):=lH (HO.o.blk P3.o (by have:=HSZ.o;have:=HGF.o;omega) (by have:=HSZ.o;have:=HGC.o.1;omega));have HPC:Hid (gc≠w.heap.size+1+1+1):=lH (by have:=HSZ.o;have:=HGC.o.1;omega);have q0:=HF.o.blk.cell 0;have q1:=HF.o.blk.cell 1;have q2:=HF.o.blk.cell 2;have q3:=HF.o.blk.cell 3;have q4:=HF.o.blk.cell 4;rw [HQL.o] at q0;have z0:=P3b.o.cell 0;have z1:=P3b.o.cell 1;have z2:=P3b.o.cell 2;have z3:=P3b.o.cell 3;have z4:=P3b.o.cell 4;have ql:=HF.o.blk.lt;have zl:=P3b.o.lt;have zf:=P3b.o.frozen
     go_wp2_with fail
     have HPB:=lH (put5_blk (gc:=gc) (n:=n1) (u:=u2) P3b.o);clear q0 z0 q1 z1 q2 z2 q3 z3 q4 z4 ql zl zf;have p0:=HPB.o.cell 0;have p1:=HPB.o.cell 1;have p2:=HPB.o.cell 2;have p3:=HPB.o.cell 3;have p4:=HPB.o.cell 4;unfold put5 at p0 p1 p2 p3 p4;refine bodyPost_ret (v:=.agg #[.slice (some ⟨gc,0,none⟩) n1 n1,.bool u2.b1,.slice u2.A u2.n u2.c,.bool u2.b2,.slice u2.A2 u2.m u2.d]) (by simp [results,Tryz.results63,go_sem,p0,p1,p2,p3,p4]) rfl ?_;refine ⟨below_put5 (gc:=gc) (n:=n1) (u:=u2) HL.o (by omega),gc,u2,by rw [HN1.o],(by have:=HSZ.o;have:=HGC.o.1;omega),?_,?_⟩
     ·have h:=HF.o.vb P3b.o HPC.o (n:=n1) (y:=u2)
      rw [HFE.o];exact ⟨_,h⟩
     ·rw [HFE.o]
      exact HF.o.val.keep5 P3b.o (gc:=gc) (n:=n1) (u:=u2)
section
variable {w w':World} {gc gz:Nat} {vs us:List Rv} {q p:List Rat}
theorem Vb.far (f:Vb w gc vs q) (g:Vb w gz us p) {j:Nat} {x:Rv} (hj:j<p.length) (hne:gc≠gz):Vb (putV w gz j x) gc vs q:=by
 obtain ⟨cs,h1,h2⟩:=f.row;exact ⟨⟨cs,h1.far4 x hne,h2⟩,f.len,fun i t v ht hv=>g.keep hj (f.ok i t v ht hv)⟩
theorem Vb.keeps {base e:Nat} (f:Vb w gc vs q) (k:Keeps NoI base e w w') (he:115≠e):Vb w' gc vs q:=by
 obtain ⟨cs,h1,h2⟩:=f.row;exact ⟨⟨cs,k.blk _ _ _ h1 he,h2⟩,f.len,fun i t v ht hv=>(f.ok i t v ht hv).keeps k⟩
end
theorem info_form:(Tryz.prog.info? 117).map (fun i=>(i.zero,i.size,i.bytes))=some (some (.agg #[.slice none 0 0,.bool false,.slice none 0 0,.bool false,.slice none 0 0]),5,88):=by kernel_rfl
structure Fh where
 gc:Nat
 u:Rv
def Fh.cells (n:Nat) (f:Fh):List Value:=[.slice (some ⟨f.gc,0,none⟩) n n,.bool f.u.b1,.slice f.u.A f.u.n f.u.c,.bool f.u.b2,.slice f.u.A2 f.u.m f.u.d]
theorem Fh.cells_len {n:Nat} (f:Fh):(Fh.cells n f).length=5:=rfl
structure FormsS (w:World) (base n:Nat) (v:Value) (fs:List Fh) (ps:List (List Rat×Rat)):Prop where
 own:OwnS NoI w base 117 5 v fs.length (fs.flatMap (Fh.cells n))
 len:fs.length=ps.length
 ok:∀ (i:Nat) (f:Fh) (p:List Rat×Rat),fs[i]?=some f→ps[i]?=some p→base≤f.gc∧p.1.length=n∧(∃ vs,Vb w f.gc vs p.1)∧RtV w w.heap.size p.2 f.u
theorem formsS_none (w:World) (base n:Nat):FormsS w base n (.slice none 0 0) [] []:=⟨ownS_none _ _ _ _ _,rfl,fun i h q hh=>by simp at hh⟩
theorem FormsS.keep {w w':World} {base n:Nat} {v:Value} {fs:List Fh} {ps:List (List Rat×Rat)} (m:FormsS w base n v fs ps) (hb:Below w.heap.size w w'):FormsS w' base n v fs ps:=⟨m.own.keep hb,m.len,fun i f p hf hp=>by
 obtain ⟨h1,h2,⟨vs,h3⟩,h4⟩:=m.ok i f p hf hp;exact ⟨h1,h2,⟨vs,h3.up hb⟩,h4.up hb⟩⟩
theorem FormsS.far {w:World} {base n gz j:Nat} {v:Value} {fs:List Fh} {ps:List (List Rat×Rat)} {us:List Rv} {q:List Rat} {x:Rv} (m:FormsS w base n v fs ps) (g:Vb w gz us q) (hj:j<q.length) (hz:gz<base):FormsS (putV w gz j x) base n v fs ps:=⟨by
 obtain ⟨cs,h1,h2⟩:=g.row;exact m.own.far4 h1 (by decide),m.len,fun i f p hf hp=>by
 obtain ⟨h1,h2,⟨vs,h3⟩,h4⟩:=m.ok i f p hf hp;exact ⟨h1,h2,⟨vs,h3.far g hj (by omega)⟩,g.keep hj h4⟩⟩
theorem FormsS.app {w w':World} {base n:Nat} {v v':Value} {fs:List Fh} {ps:List (List Rat×Rat)} {f:Fh} {p:List Rat×Rat} (m:FormsS w base n v fs ps) (hf:base≤f.gc∧p.1.length=n∧(∃ vs,Vb w f.gc vs p.1)∧RtV w w.heap.size p.2 f.u) (h1:OwnS NoI w' base 117 5 v' (fs.length+1) (fs.flatMap (Fh.cells n)++Fh.cells n f)) (k:Keeps NoI base 117 w w'):FormsS w' base n v' (fs++[f]) (ps++[p]):=by
 have key:∀ {f:Fh} {p:List Rat×Rat},(base≤f.gc∧p.1.length=n∧(∃ vs,Vb w f.gc vs p.1)∧RtV w w.heap.size p.2 f.u)→(base≤f.gc∧p.1.length=n∧(∃ vs,Vb w' f.gc vs p.1)∧RtV w' w'.heap.size p.2 f.u):=fun h=>by
  obtain ⟨h1,h2,⟨vs,h3⟩,h4⟩:=h;exact ⟨h1,h2,⟨vs,h3.keeps k (by decide)⟩,h4.keeps k⟩
 refine ⟨by rw [zE_,List.length_singleton,List.flatMap_append];simpa using h1,by rw [zE_,zE_,m.len];rfl,fun i f2 p2 hf2 hp2=>?_⟩
 by_cases hi:i<ps.length
 ·rw [zR_ hi] at hp2
  rw [zR_ (by rw [m.len];exact hi)] at hf2;exact key (m.ok i f2 p2 hf2 hp2)
 ·rw [zN_ (by omega)] at hp2
  rw [zN_ (by rw [m.len];omega),m.len] at hf2;have hi2:=(zB_.1 hp2).1;rw [List.length_singleton] at hi2;have:i-ps.length=0:=by omega
  rw [this] at hp2 hf2;simp at hp2 hf2;subst hp2;subst hf2;exact key hf
theorem wpList_appForm {ops:Array Oper} {rest:List Oper} {o:Oper} {a:Act} {Q:Exit→Act→World→Prop} {w:World} {T:TypeId} (hgd:o.guard=none) (s x:Operand) (t:TypeId)
    (ho:o.op=.call { callee:=.builtin .append,args:=#[s,x],argTypes:=#[t,t] }) (base n:Nat)
    (ht:Tryz.prog.underlying t=some (.slice 117))
    (v:Value) (fs:List Fh) (ps:List (List Rat×Rat)) (hs:a.eval s=v) (hown:FormsS w base n v fs ps) (gc:Nat) (u:Rv) (p:List Rat×Rat) (hp:base≤gc∧p.1.length=n∧(∃ vs,Vb w gc vs p.1)∧RtV w w.heap.size p.2 u)
    (hx:a.eval x=.slice (some ⟨w.heap.size,0,none⟩) 1 1) (h63:ps.length≤1000000) (hbase:base≤w.heap.size)
    (h:∀ v' w' fs',FormsS w' base n v' fs' (ps++[p])→Keeps NoI base 117 (w.alloc (.cells #[.slice (some ⟨gc,0,none⟩) n n,.bool u.b1,.slice u.A u.n u.c,.bool u.b2,.slice u.A2 u.m u.d] T)) w'→(∀ (g t:Nat) (cs:Array Value),v.ownBlock≠some g→Blk w g t cs→Blk w' g t cs)→wpList Tryz.prog ops Q rest (a.put o.dst v') w') :
    wpList Tryz.prog ops Q (o::rest) a (w.alloc (.cells #[.slice (some ⟨gc,0,none⟩) n n,.bool u.b1,.slice u.A u.n u.c,.bool u.b2,.slice u.A2 u.m u.d] T)):=by
 obtain ⟨i0,hi0,hz0,hz1,hz2⟩:=info_parts info_form;have hl:=hown.len;have hb:Below w.heap.size w (w.alloc (.cells #[.slice (some ⟨gc,0,none⟩) n n,.bool u.b1,.slice u.A u.n u.c,.bool u.b2,.slice u.A2 u.m u.d] T)):=bA;refine wpList_plain hgd fun K hK=>?_;refine wp_app_blk (S:=NoI) s x t ho base 117 i0 _ 5 88 ht hi0 hz0 hz1 hz2 rfl (by omega) (fun y hu=>?_) v fs.length (fs.flatMap (Fh.cells n)) hs (hown.own.keep hb) w.heap.size T #[.slice (some ⟨gc,0,none⟩) n n,.bool u.b1,.slice u.A u.n u.c,.bool u.b2,.slice u.A2 u.m u.d] hx (Blk.new w T _) rfl (fun y hu=>?_) (by simp only [maxLen];omega) (by omega) (zI_ hbase hb.size) fun v' w' h1 h2 _ h4=>?_
 ·have hu':y∈[Value.slice none 0 0,.bool false,.slice none 0 0,.bool false,.slice none 0 0]:=hu
  simp only [List.mem_cons,List.not_mem_nil,or_false] at hu';rcases hu' with rfl | rfl | rfl | rfl | rfl<;>exact fun k x h=>by cases h
 ·have hu':y∈[Value.slice (some ⟨gc,0,none⟩) n n,.bool u.b1,.slice u.A u.n u.c,.bool u.b2,.slice u.A2 u.m u.d]:=hu
  simp only [List.mem_cons,List.not_mem_nil,or_false] at hu';rcases hu' with rfl | rfl | rfl | rfl | rfl<;>exact ⟨rfl,fun k x h=>by cases h⟩
 ·obtain ⟨e1,e2,⟨vs,e3⟩,e4⟩:=hp
  refine hK _ _ (h v' w' (fs++[⟨gc,u⟩]) (FormsS.app (hown.keep hb) (f:=⟨gc,u⟩) ⟨e1,e2,⟨vs,e3.up hb⟩,e4.up hb⟩ h1 h2) h2 fun g t cs hg hbk=>?_);have hbk2:=hbk.bl hb;exact (h4 g hbk2.lt hg).trans hbk2
end
section
open Go.ChangeShapes Go.WideShapes Go.ChangeAt Go.RowKit
theorem set_self {w:World} {g t i:Nat} {cs:Array Value} {y:Value} (h:Blk w g t cs) (hy:cs[i]?=some y):w.setCell ⟨g,i,none⟩ y=w:=by
 have e:w.heap.modify g (fun | .cells c elem frozen=>.cells (c.setIfInBounds i y) elem frozen | o=>o)=w.heap:=by
  apply Array.ext_getElem?;intro j;rw [Array.getElem?_modify]
  split
  ·rename_i hj
   subst hj;unfold Blk at h;rw [h];simp only [Option.map_some];congr 2
   apply Array.ext_getElem?;intro k;rw [Array.getElem?_setIfInBounds]
   split
   ·rename_i hk
    subst hk;have:=(Array.getElem?_eq_some_iff.1 hy).1;rw [if_pos this,hy]
   ·rfl
  ·rfl
 have e2:w.setCell ⟨g,i,none⟩ y={ w with heap:=w.heap.modify g (fun | .cells c elem frozen=>.cells (c.setIfInBounds i y) elem frozen | o=>o) }:=rfl;rw [e2,e]
theorem set_twice {w:World} {g t i:Nat} {cs:Array Value} {y z:Value} (h:Blk w g t cs):(w.setCell ⟨g,i,none⟩ y).setCell ⟨g,i,none⟩ z=w.setCell ⟨g,i,none⟩ z:=by
 have e:(w.heap.modify g (fun | .cells c elem frozen=>.cells (c.setIfInBounds i y) elem frozen | o=>o)).modify g (fun | .cells c elem frozen=>.cells (c.setIfInBounds i z) elem frozen | o=>o)=w.heap.modify g (fun | .cells c elem frozen=>.cells (c.setIfInBounds i z) elem frozen | o=>o):=by
  apply Array.ext_getElem?;intro j;rw [Array.getElem?_modify,Array.getElem?_modify,Array.getElem?_modify]
  split
  ·rename_i hj
   subst hj;unfold Blk at h;rw [h];simp only [Option.map_some];congr 2
   apply Array.ext_getElem?;intro k;rw [Array.getElem?_setIfInBounds,Array.getElem?_setIfInBounds,Array.getElem?_setIfInBounds,Array.size_setIfInBounds]
   split<;>rfl
  ·rfl
 have e1:w.setCell ⟨g,i,none⟩ z={ w with heap:=w.heap.modify g (fun | .cells c elem frozen=>.cells (c.setIfInBounds i z) elem frozen | o=>o) }:=rfl;have e2:(w.setCell ⟨g,i,none⟩ y).setCell ⟨g,i,none⟩ z={ w with heap:=(w.heap.modify g (fun | .cells c elem frozen=>.cells (c.setIfInBounds i y) elem frozen | o=>o)).modify g (fun | .cells c elem frozen=>.cells (c.setIfInBounds i z) elem frozen | o=>o) }:=rfl;rw [e1,e2,e]
theorem unmask {w:World} {g t i:Nat} {cs:Array Value} {y z:Value} (h:Blk w g t cs) (hy:cs[i]?=some y):(w.setCell ⟨g,i,none⟩ z).setCell ⟨g,i,none⟩ y=w:=by
 rw [set_twice h,set_self h hy]
section
variable {w:World} {gc g T i n base:Nat} {vs:List Rv} {q:List Rat} {cs:Array Value} {y u v:Value} {fs:List Fh} {ps:List (List Rat×Rat)}
theorem Vb.keepF (f:Vb w gc vs q) (hb:Blk w g T cs) (ht:115≠T) (hy:cs[i]?=some y) (hn:NotInt y):Vb (w.setCell ⟨g,i,none⟩ u) gc vs q:=by
 obtain ⟨cs',h1,h2⟩:=f.row;exact ⟨⟨cs',h1.far (h1.apart hb ht) u,h2⟩,f.len,fun j t v ht hv=>(f.ok j t v ht hv).keep1 hb hy hn u⟩
theorem FormsS.keepF (m:FormsS w base n v fs ps) (hb:Blk w g T cs) (h1:115≠T) (h2:117≠T) (hy:cs[i]?=some y) (hn:NotInt y):FormsS (w.setCell ⟨g,i,none⟩ u) base n v fs ps:=
 ⟨m.own.far hb h2,m.len,fun j f p hf hp=>by
  obtain ⟨a,b,⟨vs,c⟩,d⟩:=m.ok j f p hf hp;exact ⟨a,b,⟨vs,c.keepF hb h1 hy hn⟩,d.keep1 hb hy hn u⟩⟩
theorem FormsS.at_ {k:Nat} {p:List Rat×Rat} (m:FormsS w base n v fs ps) (hp:ps[k]?=some p):∃ (fb c:Nat) (f:Fh),v=.slice (some ⟨fb,0,none⟩) ps.length c∧fb<w.heap.size∧(w.cell? ⟨fb,k*5,none⟩=some (.slice (some ⟨f.gc,0,none⟩) n n)∧w.cell? ⟨fb,k*5+1,none⟩=some (.bool f.u.b1)∧w.cell? ⟨fb,k*5+2,none⟩=some (.slice f.u.A f.u.n f.u.c)∧w.cell? ⟨fb,k*5+3,none⟩=some (.bool f.u.b2)∧w.cell? ⟨fb,k*5+4,none⟩=some (.slice f.u.A2 f.u.m f.u.d))∧(∃ vs,Vb w f.gc vs p.1)∧p.1.length=n∧RtV w w.heap.size p.2 f.u∧∃ cur,Blk w fb 117 cur:=by
 have hk:=(zB_.1 hp).1;obtain ⟨f,hf⟩:∃ f,fs[k]?=some f:=zX_ (by rw [m.len];exact hk);obtain ⟨a,b,c,d⟩:=m.ok k f p hf hp;rcases m.own.2 with ⟨-,h0⟩ | ⟨fb,cap,cur,h1,h2,h3,h4,h5,h6,h7,-⟩
 ·have:=m.len;omega
 ·have key:∀ j y,j<5→(Fh.cells n f)[j]?=some y→w.cell? ⟨fb,k*5+j,none⟩=some y:=fun j y hj hy=>by
   rw [h3.cell];have:=flat_at (fun f:Fh=>(Fh.cells_len f:(Fh.cells n f).length=5)) fs k f hf j hj;rw [hy,←h7,List.getElem?_take] at this
   split at this
   ·rwa [Array.getElem?_toList] at this
   ·cases this
  exact ⟨fb,cap,f,by rw [←m.len];exact h1,h3.lt,⟨key 0 _ (by decide) rfl,key 1 _ (by decide) rfl,key 2 _ (by decide) rfl,key 3 _ (by decide) rfl,key 4 _ (by decide) rfl⟩,c,b,d,cur,h3⟩
end
structure UnM (gf:Nat) (w0 w:World):Prop where
 forms:∀ {base n:Nat} {v:Value} {fs:List Fh} {ps:List (List Rat×Rat)},FormsS w0 base n v fs ps→FormsS w base n v fs ps
 mat:∀ {A:Option Addr} {n:Nat} {M:List (List Rat)},RdM w0 w0.heap.size A n M→(∀ b off,A=some ⟨b,off,none⟩→b≠gf)→RdM w w.heap.size A n M
 row:∀ {A:Option Addr} {n:Nat} {q:List Rat},RdQ w0 w0.heap.size A n q→RdQ w w.heap.size A n q
 rows:∀ {base:Nat} {v:Value} {hs:List Hd} {M:List (List Rat)},RowsS w0 base v hs M→RowsS w base v hs M
 vec:∀ {gc:Nat} {vs:List Rv} {q:List Rat},Vb w0 gc vs q→Vb w gc vs q
theorem only_mono {a w w':World} {B:Nat} {row:Option Nat} (h:a.grownBy w row) (hb:Below B w w') (hB:a.heap.size≤B):a.grownBy w' row:=
 ⟨hb.os.trans h.os,hb.tape.trans h.tape,hb.output.trans h.output,zI_ h.size hb.size,fun i hi hne=>(hb.block i (zJ_ hi hB)).trans (h.block i hi hne)⟩
theorem only_up {a w w':World} {row:Option Nat} (h:a.grownBy w row) (hb:Below w.heap.size w w'):a.grownBy w' row:=only_mono h hb h.size
theorem only_of {a w:World} (row:Option Nat) (h:Below a.heap.size a w):a.grownBy w row:=⟨h.os,h.tape,h.output,h.size,fun i hi _=>h.block i hi⟩
theorem only_putV {a w:World} {g gz j:Nat} {x:Rv} (h:a.grownBy w (some g)) (hz:a.heap.size≤gz):a.grownBy (putV w gz j x) (some g):=
 only_setCell (only_setCell (only_setCell (only_setCell h (.inr hz) _) (.inr hz) _) (.inr hz) _) (.inr hz) _
theorem un_fit {w0 w:World} {gf i:Nat} {cs cs0:Array Value} {y:Value} (ha:Blk w0 gf 95 cs0) (hb:Blk w gf 95 cs) (hy:cs[i]?=some y) (hc0:cs.setIfInBounds i (.slice none 0 0)=cs0) (hn:NoB cs0) (hg:w0.grownBy w (some gf)):UnM gf w0 w:=by
 have h0:Blk (w.setCell ⟨gf,i,none⟩ (.slice none 0 0)) gf 95 cs0:=hb.set_at _ hc0;have hm:Below w0.heap.size w0 (w.setCell ⟨gf,i,none⟩ (.slice none 0 0)):=⟨hg.os,hg.tape,hg.output,by simpa [World.setCell] using hg.size,fun k hk=>by
  by_cases e:k=gf
  ·subst e
   exact h0.trans ha.symm
  ·exact (Below.heap_setCell w _ _ k e).trans (hg.block k hk (fun e2=>e (by injection e2)))⟩
 have h1:cs0[i]?=some (.slice none 0 0):=by
  rw [←hc0,Array.getElem?_setIfInBounds,if_pos rfl,if_pos (Array.getElem?_eq_some_iff.1 hy).1]
 have e:(w.setCell ⟨gf,i,none⟩ (.slice none 0 0)).setCell ⟨gf,i,none⟩ y=w:=unmask hb hy;refine ⟨fun h=>?_,fun h hA=>?_,fun h=>?_,fun h=>?_,fun h=>?_⟩
 ·have:=(h.keep hm).keepF (u:=y) h0 (by decide) (by decide) h1 slice_ni
  rwa [e] at this
 ·have:=(h.bm hm).keepB (u:=y) h0 hn h1 hA
  rwa [e] at this
 ·have:=(h.bm hm).keepB (u:=y) h0 hn h1
  rwa [e] at this
 ·have:=(h.keep hm).far (u:=y) h0 (by decide) (by decide) h1 slice_ni
  rwa [e] at this
 ·have:=(h.up hm).keepF (u:=y) h0 (by decide) h1 slice_ni
  rwa [e] at this
theorem fit_nobp {p:Option Addr} {A1 A2 A3 A4:Option Addr} {n1 c1 n2 c2 n3 c3 n4 c4:Nat}:NoB #[.pointer p,.slice A1 n1 c1,.slice A2 n2 c2,.slice A3 n3 c3,.slice A4 n4 c4]:=fun i u h=>by
 have h2:=Array.mem_toList_iff.2 (Array.mem_of_getElem? h);simp only [List.mem_cons,List.not_mem_nil,or_false] at h2;rcases h2 with rfl | rfl | rfl | rfl | rfl<;>exact ⟨fun b e=>(by cases e),fun k x e=>(by cases e)⟩
def NoS (cs:Array Value):Prop:=∀ (i:Nat) (u:Value),cs[i]?=some u→∀ s,u≠.string s
theorem fit_nos {p:Option Addr} {A1 A2 A3 A4:Option Addr} {n1 c1 n2 c2 n3 c3 n4 c4:Nat}:NoS #[.pointer p,.slice A1 n1 c1,.slice A2 n2 c2,.slice A3 n3 c3,.slice A4 n4 c4]:=fun i u h=>by
 have h2:=Array.mem_toList_iff.2 (Array.mem_of_getElem? h);simp only [List.mem_cons,List.not_mem_nil,or_false] at h2;rcases h2 with rfl | rfl | rfl | rfl | rfl<;>exact fun b e=>by cases e
structure UnP (gp:Nat) (w w':World):Prop where
 mat:∀ {A:Option Addr} {n:Nat} {M:List (List Rat)},RdM w w.heap.size A n M→(∀ b off,A=some ⟨b,off,none⟩→b≠gp)→RdM w' w'.heap.size A n M
 row:∀ {A:Option Addr} {n:Nat} {q:List Rat},RdQ w w.heap.size A n q→RdQ w' w'.heap.size A n q
 ints:∀ {A:Option Addr} {n:Nat} {l:List Int},RdI w w.heap.size A n l→RdI w' w'.heap.size A n l
 strs:∀ {A:Option Addr} {n:Nat} {l:List ByteArray},RdStr w w.heap.size A n l→RdStr w' w'.heap.size A n l
 blk:∀ {g T:Nat} {cs:Array Value},Blk w g T cs→T≠95→Blk w' g T cs
theorem UnP.trans {gp:Nat} {w w1 w2:World} (a:UnP gp w w1) (b:UnP gp w1 w2):UnP gp w w2:=⟨fun h hA=>b.mat (a.mat h hA) hA,fun h=>b.row (a.row h),fun h=>b.ints (a.ints h),fun h=>b.strs (a.strs h),fun h ht=>b.blk (a.blk h ht) ht⟩
theorem un_put1 {w:World} {gp i:Nat} {cs:Array Value} {y u:Value} (hb:Blk w gp 95 cs) (hn:NoB cs) (hs:NoS cs) (hy:cs[i]?=some y):UnP gp w (w.setCell ⟨gp,i,none⟩ u):=by
 refine ⟨fun h hA=>h.keepB hb hn hy hA,fun h=>h.keepB hb hn hy,fun {A n l} h=>?_,fun {A n l} h=>?_,fun h ht=>h.far (h.apart hb ht) u⟩
 ·refine ⟨h.1,fun h0=>?_⟩
  obtain ⟨b,off,e,hlt,hc⟩:=h.2 h0;have hbg:b≠gp:=by
   rintro rfl;obtain ⟨z,hz⟩:∃ z,l[0]?=some z:=zX_ (by rw [h.len];exact h0);have:=hc 0 (.int .i64 z) (by unfold ints;rw [zM_,hz];rfl);rw [Nat.add_zero,hb.cell] at this;exact (hn _ _ this).2 _ _ rfl
  refine ⟨b,off,e,by simpa [World.setCell] using hlt,fun j v hv=>?_⟩;rw [World.cell?_setCell_other _ _ _ _ (fun e2=>hbg (by injection e2 with e2;exact e2.symm))];exact hc j v hv
 ·refine ⟨h.1,h.2.1,fun h0=>?_⟩
  obtain ⟨b,off,e,hlt,hc⟩:=h.2.2 h0;have hbg:b≠gp:=by
   rintro rfl;obtain ⟨z,hz⟩:∃ z,l[0]?=some z:=zX_ (by rw [h.1];exact h0);have:=hc 0 (.string z) (by unfold strsV;rw [zM_,hz];rfl);rw [Nat.add_zero,hb.cell] at this;exact hs _ _ this _ rfl
  refine ⟨b,off,e,by simpa [World.setCell] using hlt,fun j v hv=>?_⟩;rw [World.cell?_setCell_other _ _ _ _ (fun e2=>hbg (by injection e2 with e2;exact e2.symm))];exact hc j v hv
theorem un_put5 {w:World} {gp:Nat} {p p' A1 A2 A3 A4 B1 B2 B3 B4:Option Addr} {n1 c1 n2 c2 n3 c3 n4 c4 k1 d1 k2 d2 k3 d3 k4 d4:Nat} (h:Blk w gp 95 #[.pointer p,.slice A1 n1 c1,.slice A2 n2 c2,.slice A3 n3 c3,.slice A4 n4 c4]) :
    UnP gp w (((((w.setCell ⟨gp,0,none⟩ (.pointer p')).setCell ⟨gp,1,none⟩ (.slice B1 k1 d1)).setCell ⟨gp,2,none⟩ (.slice B2 k2 d2)).setCell ⟨gp,3,none⟩ (.slice B3 k3 d3)).setCell ⟨gp,4,none⟩ (.slice B4 k4 d4)):=by
 have h1:Blk (w.setCell ⟨gp,0,none⟩ (.pointer p')) gp 95 #[.pointer p',.slice A1 n1 c1,.slice A2 n2 c2,.slice A3 n3 c3,.slice A4 n4 c4]:=h.set_ 0 _;have h2:Blk ((w.setCell ⟨gp,0,none⟩ (.pointer p')).setCell ⟨gp,1,none⟩ (.slice B1 k1 d1)) gp 95 #[.pointer p',.slice B1 k1 d1,.slice A2 n2 c2,.slice A3 n3 c3,.slice A4 n4 c4]:=h1.set_ 1 _;have h3:Blk (((w.setCell ⟨gp,0,none⟩ (.pointer p')).setCell ⟨gp,1,none⟩ (.slice B1 k1 d1)).setCell ⟨gp,2,none⟩ (.slice B2 k2 d2)) gp 95 #[.pointer p',.slice B1 k1 d1,.slice B2 k2 d2,.slice A3 n3 c3,.slice A4 n4 c4]:=h2.set_ 2 _;have h4:Blk ((((w.setCell ⟨gp,0,none⟩ (.pointer p')).setCell ⟨gp,1,none⟩ (.slice B1 k1 d1)).setCell ⟨gp,2,none⟩ (.slice B2 k2 d2)).setCell ⟨gp,3,none⟩ (.slice B3 k3 d3)) gp 95 #[.pointer p',.slice B1 k1 d1,.slice B2 k2 d2,.slice B3 k3 d3,.slice A4 n4 c4]:=h3.set_ 3 _
 exact ((((un_put1 (i:=0) h fit_nobp fit_nos rfl).trans (un_put1 (i:=1) h1 fit_nobp fit_nos rfl)).trans (un_put1 (i:=2) h2 fit_nobp fit_nos rfl)).trans (un_put1 (i:=3) h3 fit_nobp fit_nos rfl)).trans (un_put1 (i:=4) h4 fit_nobp fit_nos rfl)
theorem RdMod.unP {gp:Nat} {w w':World} {m:ModH} {x:Net} (r:RdMod w w.heap.size m x) (u:UnP gp w w'):RdMod w' w'.heap.size m x:=⟨u.ints r.r0,u.ints r.r1,u.ints r.r2,u.ints r.r3,u.row r.r4,u.row r.r5,u.ints r.r6⟩
theorem RowsS.apart {w:World} {base n c g T:Nat} {A:Option Addr} {hs:List Hd} {M:List (List Rat)} {cs:Array Value} (m:RowsS w base (.slice A n c) hs M) (hb:Blk w g T cs) (ht:93≠T):∀ b off,A=some ⟨b,off,none⟩→b≠g:=fun b off e=>by
 rcases m.own.2 with ⟨h0,-⟩ | ⟨g',cap,cur,h1,h2,h3,-⟩
 ·rw [e] at h0
  cases h0
 ·rw [e] at h1
  injection h1 with h1;injection h1 with h1;injection h1 with h1 h4;rw [h1];exact h3.apart hb ht
theorem ite_goC {c:Bool} {p q:Prop} (h:c=true) (hp:p):if c=true then p else q:=by rw [if_pos h];exact hp
theorem RowsS.base {w:World} {base n c:Nat} {A:Option Addr} {hs:List Hd} {M:List (List Rat)} (m:RowsS w base (.slice A n c) hs M):∀ b off,A=some ⟨b,off,none⟩→base≤b:=fun b off e=>by
 rcases m.own.2 with ⟨h0,-⟩ | ⟨g',cap,cur,h1,h2,h3,-⟩
 ·rw [e] at h0
  cases h0
 ·rw [e] at h1
  injection h1 with h1;injection h1 with h1;injection h1 with h1 h4;rw [h1];exact h2
theorem wp_appQ1 {o:Oper} {a:Act} {w:World} {K:Act→World→Prop} {Q:Exit→Act→World→Prop} (s x:Operand) (t:TypeId)
    (ho:o.op=.call { callee:=.builtin .append,args:=#[s,x],argTypes:=#[t,t] }) (base:Nat)
    (ht:Tryz.prog.underlying t=some (.slice 115))
    (v:Value) (vs:List Rv) (qs:List Rat) (hs:a.eval s=v) (hown:OwnQ w base v vs qs) (u:Rv) (q:Rat) (hq:RtV w w.heap.size q u) (g T:Nat)
    (hx:a.eval x=.slice (some ⟨g,0,none⟩) 1 1) (hg:Blk w g T #[.bool u.b1,.slice u.A u.n u.c,.bool u.b2,.slice u.A2 u.m u.d]) (h63:qs.length≤1000000) (hbase:base≤w.heap.size)
    (h:∀ v' w',OwnQ w' base v' (vs++[u]) (qs++[q])→Keeps NoI base 115 w w'→(∀ g t cs,v.ownBlock≠some g→Blk w g t cs→Blk w' g t cs)→K (a.put o.dst v') w') :
    o.wp Tryz.prog a w K Q:=by
 obtain ⟨i0,hi0,hz0,hz1,hz2⟩:=rat_parts;have hl:=hown.len;exact wp_app_blk (S:=NoI) s x t ho base 115 i0 _ 4 64 ht hi0 hz0 hz1 hz2 rfl (by omega) zr_noI v vs.length (rvs vs) hs hown.own g T #[.bool u.b1,.slice u.A u.n u.c,.bool u.b2,.slice u.A2 u.m u.d] hx hg rfl (rv_noI u) (by simp only [maxLen];omega) (by omega) hbase fun v' w' h1 h2 h3 h4=>h v' w' (OwnQ.app hown hq h1 h2) h2 fun g2 t2 cs hne hb2=>(h4 g2 hb2.lt hne).trans hb2
end
end Go.Proofs.YthgdchffeigkbaaGreatDoor
