import Derived.Test.YthgdchffeigkbaaGreatDoorU09
import Derived.Deep.LoopGhost
set_option linter.unusedVariables false
set_option linter.unusedSimpArgs false
namespace Go.Proofs.YthgdchffeigkbaaGreatDoor
set_option maxHeartbeats 8000000
set_option maxRecDepth 100000
section
open Go.ChangeShapes Go.WideShapes Go.ChangeAt Go.RowKit
attribute [local go_sem ↓] execOp_call_val
attribute [local go_sem] callVal_func setCell_drewN alloc_drewN
theorem lg_abs {w:World} {B:Nat} {z:Int} {b:Bool} {A:Option Addr} {n c:Nat} (h:LgIs w B z b A n c):LgIs w B (z.natAbs:Int) false A n c:=
 ⟨by simp,by rw [Int.natAbs_natCast];exact h.en,by rw [Int.natAbs_natCast];exact h.rd,h.nc,h.cm⟩
theorem gcd_any (y0 z0:Int) (b1:Bool) (A:Option Addr) (n c:Nat) (b2:Bool) (B:Option Addr) (m d:Nat) (w:World) (h1:LgIs w w.heap.size y0 b1 A n c) (h2:LgIs w w.heap.size z0 b2 B m d) (hn:n≤35184372088832) (hm:m≤35184372088832) :
    Calls Tryz.prog 145 #[.agg #[.bool b1,.slice A n c],.agg #[.bool b2,.slice B m d]] w (LgP ((y0.natAbs.gcd z0.natAbs:Nat):Int) w):=by
 have HB0:Hid (Below w.heap.size w (((w.alloc (.cells #[.bool false,.slice A n c] 113)).alloc (.cells #[.bool false,.slice B m d] 113)).alloc (.cells #[.bool false,.slice none 0 0] 113))):=lH (((bA).alloc (by simp) _).alloc (by simp;omega) _);have HX1:Hid (Blk (((w.alloc (.cells #[.bool false,.slice A n c] 113)).alloc (.cells #[.bool false,.slice B m d] 113)).alloc (.cells #[.bool false,.slice none 0 0] 113)) w.heap.size 113 #[.bool false,.slice A n c]):=lH (((Blk.new w _ _).alloc _).alloc _);have HX2:Hid (Blk (((w.alloc (.cells #[.bool false,.slice A n c] 113)).alloc (.cells #[.bool false,.slice B m d] 113)).alloc (.cells #[.bool false,.slice none 0 0] 113)) (w.heap.size+1) 113 #[.bool false,.slice B m d]):=lH ((Blk.new_ (by simp)).alloc _)
 have HR:Hid (Blk (((w.alloc (.cells #[.bool false,.slice A n c] 113)).alloc (.cells #[.bool false,.slice B m d] 113)).alloc (.cells #[.bool false,.slice none 0 0] 113)) (w.heap.size+1+1) 113 #[.bool false,.slice none 0 0]):=lH (Blk.new_ (by simp));have H1b:=lH (lg_abs (h1.up HB0.o));have H2b:=lH (lg_abs (h2.up HB0.o));clear h1 h2;have e01:w.heap.size≠w.heap.size+1:=by omega
 have e10:w.heap.size+1≠w.heap.size:=by omega
 have e20:w.heap.size+1+1≠w.heap.size:=by omega
 have e21:w.heap.size+1+1≠w.heap.size+1:=by omega
 obtain ⟨GG,hG⟩:∃ g,y0.natAbs.gcd z0.natAbs=g:=⟨_,rfl⟩;rw [hG];go_enter Tryz.func145,Tryz.ntmps145
 go_wp2_with fail
 generalize (((w.alloc (.cells #[.bool false,.slice A n c] 113)).alloc (.cells #[.bool false,.slice B m d] 113)).alloc (.cells #[.bool false,.slice none 0 0] 113))=W1 at *
 go_loopg [5] z0.natAbs (fun k v5 wr=>∃ (x y:Nat) (A:Option Addr) (n c:Nat) (B:Option Addr) (m d:Nat),k=y∧x.gcd y=GG∧Below w.heap.size w wr∧Blk wr w.heap.size 113 #[.bool false,.slice A n c]∧Blk wr (w.heap.size+1) 113 #[.bool false,.slice B m d]∧Blk wr (w.heap.size+1+1) 113 #[.bool false,.slice none 0 0]∧LgIs wr wr.heap.size (x:Int) false A n c∧LgIs wr wr.heap.size (y:Int) false B m d∧n≤35184372088832∧m≤35184372088832)
 case atStart=>exact ⟨_,_,A,n,c,B,m,d,rfl,hG,HB0.o,HX1.o,HX2.o,HR.o,H1b.o,H2b.o,hn,hm⟩
 case round=>
  clear HB0 HX1 HX2 HR H1b H2b hn hm hG;obtain ⟨x,y,A,n,c,B,m,d,hk,hg,hbr,hp2,hp3,hp4,hx,hy,hn,hm⟩:=hrel;have HKY:=lH hk;clear hk;have HG:=lH hg;have HBR:=lH hbr;have HP2:=lH hp2;have HP3:=lH hp3;have HP4:=lH hp4;have HX:=lH hx;have HY:=lH hy;have HML:=lH hm;have z0:=HP3.o.cell 0;have z1:=HP3.o.cell 1;have zl:=HP3.o.lt;clear hg hbr hp2 hp3 hp4 hx hy hm
  go_wp2_with fail
  refine (lsign_any (y:Int) false B m d wr HY.o).mono ?_;rintro e w1 ⟨rfl,hb1⟩;clear z0 z1 zl;have HBR1:=lH (HBR.o.tm hb1);have HP21:=lH (HP2.o.bl hb1);have HP31:=lH (HP3.o.bl hb1);have HP41:=lH (HP4.o.bl hb1);have HX1:=lH (HX.o.up hb1);have HY1:=lH (HY.o.up hb1);clear hb1 HBR HP2 HP3 HP4 HX HY
  by_cases hy:y=0
  ·subst hy
   have hs:((0:Nat):Int).sign=0:=rfl;rw [hs];clear hs;have hgx:x=GG:=by rw [←HG.o,Nat.gcd_zero_right]
   subst hgx;have a0:=HP21.o.cell 0;have a1:=HP21.o.cell 1;have al:=HP21.o.lt;have hgs:w.heap.size≤w.heap.size+1+1:=by omega
   have z0:=HP41.o.cell 0;have z1:=HP41.o.cell 1;have zf:=HP41.o.frozen;have zl:=HP41.o.lt
   go_wp2_with fail
   generalize hW9:(w1.setCell ⟨_,0,none⟩ _).setCell ⟨_,1,none⟩ _=W9;have HP9:=lH (lg_put (e:=.returned (.agg #[.bool false,.slice A n c])) HBR1.o hgs HP41.o (by simp) (by simp) HX1.o rfl);rw [hW9] at HP9;have HB9:Hid (Blk W9 _ 113 #[.bool false,.slice A n c]):=lH (by rw [←hW9];exact blk_set2 HP41.o);clear hW9 z0 z1 zf zl;have q0:=HB9.o.cell 0;have q1:=HB9.o.cell 1;exact bodyPost_ret (v:=.agg #[.bool false,.slice A n c]) (by simp [results,Tryz.results145,go_sem,q0,q1]) rfl HP9.o
  ·have hs:(y:Int).sign=1:=Int.sign_eq_one_of_pos (by omega)
   rw [hs];clear hs;have hy0:0<y:=by omega
   clear hy;have a0:=HP21.o.cell 0;have a1:=HP21.o.cell 1;have al:=HP21.o.lt;have z0:=HP31.o.cell 0;have z1:=HP31.o.cell 1;have zl:=HP31.o.lt;have hxn:n=dlen x:=by rw [HX1.o.en,Int.natAbs_natCast]
   have hyn:m=dlen y:=by rw [HY1.o.en,Int.natAbs_natCast]
   have hnc:=HX1.o.nc;have hcm:=HX1.o.cm;clear hxn hyn
   go_wp2_with fail
   refine (divW_any A n c B m d x y w1 (by have:=HX1.o.rd;exact this) (by have:=HY1.o.rd;exact this) hy0 hnc hcm hn HML.o).mono ?_;rintro e W2 ⟨hb2,Aq,nq,cq,lq,Ar,nr,cr,lr,rfl,-,⟨hr1,hr2,hr3,hr4,hr5⟩,-,hnr⟩;clear a0 a1 al z0 z1 zl;have HBr:=lH (HBR1.o.tm hb2);have HP2:=lH (HP21.o.bl hb2);have HP3:=lH (HP31.o.bl hb2);have HP4:=lH (HP41.o.bl hb2);have HY2:=lH (HY1.o.up hb2);have HRR:Hid (RdW W2.drew W2.drew.heap.size Ar nr lr):=lH hr1;have HRD:=lH hr2;have HRV:Hid (sgn false (wv lr)=((x % y:Nat):Int)):=lH (by rw [hr3];rfl);clear hb2 hr1 hr2 hr3 hr4 hr5 HBR1 HP21 HP31 HP41 HX1 HY1 hnc hcm;have z0:=HP3.o.cell 0;have z1:=HP3.o.cell 1;have zl:=HP3.o.lt
   go_wp2_with fail
   refine wp_region_last (S:=fun w'=>w'.cell? ⟨w.heap.size+1,0,none⟩=some (.bool false)∧w'.cell? ⟨w.heap.size+1,1,none⟩=some (.slice B m d)) 5 _ (by kernel_rfl) (by kernel_rfl) rfl ⟨z0,z1⟩ (fun hHeld=>?_);simp only [zK_,List.take_zero];refine takeH 0 (v:=?_) rfl (by kernel_rfl) (fun _ _ _ h=>h) (by rfl) ?_ hHeld ?_;rotate_left 1
   ·intro w' hSw;obtain ⟨s0,s1⟩:=hSw;go_simp<;>with_reducible rfl
   try simp only [Act.put,sA_,sB_,sC_]
   refine takeH 1 (v:=?_) rfl (by kernel_rfl) (fun _ _ _ h=>h) (by rfl) ?_ hHeld ?_;rotate_left 1
   ·intro w' hSw;obtain ⟨s0,s1⟩:=hSw;go_simp<;>with_reducible rfl
   try simp only [Act.put,sA_,sB_,sC_]
   clear z0 z1;refine stepH 2 (by kernel_rfl) rfl (fun K hK=>?_);go_simp;refine (cloneW Ar nr cr lr W2.drew HRR.o (by omega)).mono ?_;rintro e w3 ⟨hb3,A3,c3,rfl,hr3,hn3,hc3⟩;have HB3:=lH ((below_drew (Below.refl W2.heap.size W2)).trans hb3);have HR3:=lH hr3;clear hb3 hr3;go_simp;refine hK.out _ _ ?_ (fun hHeld=>?_)
   ·exact ⟨(HP3.o.bl HB3.o).cell 0,(HP3.o.bl HB3.o).cell 1⟩
   clear hK K
   try simp only [Act.put,sA_,sB_,sC_]
   refine stepH 3 (by kernel_rfl) rfl (fun K hK=>?_);go_simp;refine (norm_any false A3 nr c3 lr w3 HR3.o HRD.o hn3 hc3).mono ?_;rw [HRV.o];rintro e w4 ⟨hb4,b4,A4,n4,c4,rfl,h4⟩;have HB4:=lH (HB3.o.tm hb4);have H4:=lH h4;clear hb4 h4 hn3 hc3 HR3;go_simp;refine hK.out _ _ ?_ (fun hHeld=>?_)
   ·exact ⟨(HP3.o.bl HB4.o).cell 0,(HP3.o.bl HB4.o).cell 1⟩
   clear hK K
   try simp only [Act.put,sA_,sB_,sC_]
   have hb40:b4=false:=by rw [H4.o.eb];exact decide_eq_false (by omega)
   subst hb40;have HP2b:=lH (HP2.o.bl HB4.o);have HP3b:=lH (HP3.o.bl HB4.o);have HP4b:=lH (HP4.o.bl HB4.o);have z0:=HP2b.o.cell 0;have z1:=HP2b.o.cell 1;have zf:=HP2b.o.frozen;have zl:=HP2b.o.lt;refine stepH 4 (by kernel_rfl) rfl (fun K hK=>?_);go_simp;clear z0 z1 zf zl;generalize hw5:(w4.setCell ⟨w.heap.size,0,none⟩ _).setCell ⟨w.heap.size,1,none⟩ _=w5;have HP2c:Hid (Blk w5 w.heap.size 113 #[.bool false,.slice B m d]):=lH (by rw [←hw5];exact blk_set2 HP2b.o);have HP3c:Hid (Blk w5 (w.heap.size+1) 113 #[.bool false,.slice B m d]):=lH (by rw [←hw5];exact (HP3b.o.far e10 _).far e10 _);have HP4c:Hid (Blk w5 (w.heap.size+1+1) 113 #[.bool false,.slice none 0 0]):=lH (by rw [←hw5];exact (HP4b.o.far e20 _).far e20 _);have HBc:Hid (Below w.heap.size w w5):=lH (by rw [←hw5];exact below_set2 (HBr.o.tm HB4.o) lR)
   have HYc:Hid (LgIs w5 w5.heap.size (y:Int) false B m d):=lH (by rw [←hw5];exact ((HY2.o.up HB4.o).keep (HP2b.o.cell 0) (by simp) _).keep ((HP2b.o.set_ 0 (.bool false)).cell 1) (by simp) _);have HRc:Hid (LgIs w5 w5.heap.size ((x % y:Nat):Int) false A4 n4 c4):=lH (by rw [←hw5];exact (H4.o.keep (HP2b.o.cell 0) (by simp) _).keep ((HP2b.o.set_ 0 (.bool false)).cell 1) (by simp) _);clear hw5;refine hK.out _ _ ?_ (fun hHeld=>?_)
   ·exact ⟨HP3c.o.cell 0,HP3c.o.cell 1⟩
   clear hK K
   try simp only [Act.put,sA_,sB_,sC_]
   refine wpAnyH_done (by kernel_rfl) ?_ _;refine lastQ_go (by rfl) ?_;have z0:=HP3c.o.cell 0;have z1:=HP3c.o.cell 1;have zf:=HP3c.o.frozen;have zl:=HP3c.o.lt
   go_wp2_with fail
   clear z0 z1 zf zl;generalize hw6:(w5.setCell ⟨w.heap.size+1,0,none⟩ _).setCell ⟨w.heap.size+1,1,none⟩ _=w6;have HP2d:Hid (Blk w6 w.heap.size 113 #[.bool false,.slice B m d]):=lH (by rw [←hw6];exact (HP2c.o.far e01 _).far e01 _);have HP3d:Hid (Blk w6 (w.heap.size+1) 113 #[.bool false,.slice A4 n4 c4]):=lH (by rw [←hw6];exact blk_set2 HP3c.o);have HP4d:Hid (Blk w6 (w.heap.size+1+1) 113 #[.bool false,.slice none 0 0]):=lH (by rw [←hw6];exact (HP4c.o.far e21 _).far e21 _);have HBd:Hid (Below w.heap.size w w6):=lH (by rw [←hw6];exact below_set2 HBc.o (Nat.le_succ _));have HYd:Hid (LgIs w6 w6.heap.size (y:Int) false B m d):=lH (by rw [←hw6];exact (HYc.o.keep (HP3c.o.cell 0) (by simp) _).keep ((HP3c.o.set_ 0 (.bool false)).cell 1) (by simp) _)
   have HRd:Hid (LgIs w6 w6.heap.size ((x % y:Nat):Int) false A4 n4 c4):=lH (by rw [←hw6];exact (HRc.o.keep (HP3c.o.cell 0) (by simp) _).keep ((HP3c.o.set_ 0 (.bool false)).cell 1) (by simp) _);clear hw6;have HM4:Hid (n4≤35184372088832):=lH (by rw [HRc.o.en];refine zI_ ?_ HML.o;rw [HYc.o.en];exact dlen_mono (by rw [Int.natAbs_natCast,Int.natAbs_natCast];exact zQ_ (Nat.mod_lt _ hy0)));have HGC:Hid (y.gcd (x % y)=GG):=lH (by rw [←HG.o,Nat.gcd_comm x y,Nat.gcd_rec y x,Nat.gcd_comm]);have HMS:Hid (x % y<gk):=lH (by rw [HKY.o];exact Nat.mod_lt _ hy0)
   go_roundg (x % y)
   case rel=>exact ⟨y,x % y,B,m,d,A4,n4,c4,rfl,HGC.o,HBd.o,HP2d.o,HP3d.o,HP4d.o,HYd.o,HRd.o,HML.o,HM4.o⟩
   case measure=>exact HMS.o
def RtS (q:Rat) (w wc:World):Prop:=∃ (y:Int) (k:Nat) (b1:Bool) (A:Option Addr) (n c:Nat) (B:Option Addr) (m d:Nat),0<k∧q=Rat.divInt y (k:Int)∧Below w.heap.size w wc∧Blk wc w.heap.size 113 #[.bool b1,.slice A n c]∧Blk wc (w.heap.size+1) 113 #[.bool false,.slice B m d]∧Blk wc (w.heap.size+1+1) 115 #[.bool false,.slice none 0 0,.bool false,.slice none 0 0]∧LgIs wc wc.heap.size y b1 A n c∧LgIs wc wc.heap.size (k:Int) false B m d∧n≤35184372088832∧m≤35184372088832
theorem ratio_any (y z:Int) (b1:Bool) (A:Option Addr) (n c:Nat) (b2:Bool) (B:Option Addr) (m d:Nat) (w:World) (h1:LgIs w w.heap.size y b1 A n c) (h2:LgIs w w.heap.size z b2 B m d) (hz:z≠0) (hn:n≤35184372088832) (hm:m≤35184372088832) :
    Calls Tryz.prog 114 #[.agg #[.bool b1,.slice A n c],.agg #[.bool b2,.slice B m d]] w (RtP (Rat.divInt y z) w):=by
 have HYN:=lH h1.en;have HZM:=lH h2.en;have HB2:=lH h2.eb;have HB0:Hid (Below w.heap.size w (((w.alloc (.cells #[.bool b1,.slice A n c] 113)).alloc (.cells #[.bool b2,.slice B m d] 113)).alloc (.cells #[.bool false,.slice none 0 0,.bool false,.slice none 0 0] 115))):=lH (((bA).alloc (by simp) _).alloc (by simp;omega) _);have HX1:Hid (Blk (((w.alloc (.cells #[.bool b1,.slice A n c] 113)).alloc (.cells #[.bool b2,.slice B m d] 113)).alloc (.cells #[.bool false,.slice none 0 0,.bool false,.slice none 0 0] 115)) w.heap.size 113 #[.bool b1,.slice A n c]):=lH (((Blk.new w _ _).alloc _).alloc _);have HX2:Hid (Blk (((w.alloc (.cells #[.bool b1,.slice A n c] 113)).alloc (.cells #[.bool b2,.slice B m d] 113)).alloc (.cells #[.bool false,.slice none 0 0,.bool false,.slice none 0 0] 115)) (w.heap.size+1) 113 #[.bool b2,.slice B m d]):=lH ((Blk.new_ (by simp)).alloc _)
 have HR:Hid (Blk (((w.alloc (.cells #[.bool b1,.slice A n c] 113)).alloc (.cells #[.bool b2,.slice B m d] 113)).alloc (.cells #[.bool false,.slice none 0 0,.bool false,.slice none 0 0] 115)) (w.heap.size+1+1) 115 #[.bool false,.slice none 0 0,.bool false,.slice none 0 0]):=lH (Blk.new_ (by simp));have H1:=lH (h1.up HB0.o);have H2:=lH (h2.up HB0.o);have e01:w.heap.size≠w.heap.size+1:=by omega
 have e10:w.heap.size+1≠w.heap.size:=by omega
 have e20:w.heap.size+1+1≠w.heap.size:=by omega
 have e21:w.heap.size+1+1≠w.heap.size+1:=by omega
 clear h1 h2;go_enter Tryz.func114,Tryz.ntmps114
 go_upto_region 1 with fail
 generalize (((w.alloc (.cells #[.bool b1,.slice A n c] 113)).alloc (.cells #[.bool b2,.slice B m d] 113)).alloc (.cells #[.bool false,.slice none 0 0,.bool false,.slice none 0 0] 115))=W at *;have p0:=HX1.o.cell 0;have p1:=HX1.o.cell 1;have q0:=HX2.o.cell 0;have q1:=HX2.o.cell 1;have pl:=HX1.o.lt;have ql:=HX2.o.lt
 go_upto_if 8 with fail
 go_cut [] (fun wc=>RtS (Rat.divInt y z) w wc)
 case first=>
  cases b2 with
  | true=>
   have hz1:z<0:=by simpa using HB2.o.symm
   have HH1:Hid (LgIs W.drew W.drew.heap.size y b1 A n c):=lH (H1.o.up (below_drew bR));have HH2:Hid (LgIs W.drew W.drew.heap.size z true B m d):=lH (H2.o.up (below_drew bR));clear HB2
   go_wp2_with fail
   refine wp_region_last2 (S:=fun w'=>Below W.heap.size W w') 4 _ _ (by kernel_rfl) (by kernel_rfl) (by kernel_rfl) rfl rfl (below_drew bR) (fun hHeld=>?_);simp only [zK_,List.take_zero];refine tkH 0 rfl ?_;refine tkH 2 rfl ?_;refine stepH 1 (by kernel_rfl) rfl (fun K hK=>?_);go_simp;refine (neg_any y b1 A n c W.drew HH1.o).mono ?_;rintro e w3 ⟨hb3,b3,A3,n3,c3,rfl,h3⟩;have HB3:=lH ((below_drew (Below.refl W.heap.size W)).trans hb3);have H3:=lH h3;have HH2b:=lH (HH2.o.up hb3);clear hb3 h3;go_simp;refine hK.out _ _ ?_ (fun hHeld=>?_)
   ·exact HB3.o
   clear hK K
   try simp only [Act.put,sA_,sB_,sC_]
   refine stepH 3 (by kernel_rfl) rfl (fun K hK=>?_);go_simp;refine (neg_any z true B m d w3 HH2b.o).mono ?_;rintro e w4 ⟨hb4,b4,A4,n4,c4,rfl,h4⟩;have HB4:=lH (HB3.o.tm hb4);have H4:=lH h4;have H3b:=lH (H3.o.up hb4);clear hb4 h4 H3;go_simp;refine hK.out _ _ ?_ (fun hHeld=>?_)
   ·exact HB4.o
   clear hK K
   try simp only [Act.put,sA_,sB_,sC_]
   refine wpAnyH_done (by kernel_rfl) ?_ _;refine lastQ_go (by rfl) ?_;have HP2:=lH (HX1.o.bl HB4.o);have HP3:=lH (HX2.o.bl HB4.o);have HP4:=lH (HR.o.bl HB4.o);have HBB:=lH (HB0.o.tm HB4.o);clear p0 p1 q0 q1 pl ql;have z0:=HP2.o.cell 0;have z1:=HP2.o.cell 1;have zf:=HP2.o.frozen;have zl:=HP2.o.lt;go_simp;clear z0 z1 zf zl;generalize hw5:(w4.setCell ⟨w.heap.size,0,none⟩ _).setCell ⟨w.heap.size,1,none⟩ _=w5;have HP2c:Hid (Blk w5 w.heap.size 113 #[.bool b3,.slice A3 n3 c3]):=lH (by rw [←hw5];exact blk_set2 HP2.o);have HP3c:Hid (Blk w5 (w.heap.size+1) 113 #[.bool true,.slice B m d]):=lH (by rw [←hw5];exact (HP3.o.far e10 _).far e10 _);have HP4c:Hid (Blk w5 (w.heap.size+1+1) 115 #[.bool false,.slice none 0 0,.bool false,.slice none 0 0]):=lH (by rw [←hw5];exact (HP4.o.far e20 _).far e20 _)
   have HBc:Hid (Below w.heap.size w w5):=lH (by rw [←hw5];exact below_set2 HBB.o lR);have HNc:Hid (LgIs w5 w5.heap.size (-y) b3 A3 n3 c3):=lH (by rw [←hw5];exact (H3b.o.keep (HP2.o.cell 0) (by simp) _).keep ((HP2.o.set_ 0 (.bool b3)).cell 1) (by simp) _);have HDc:Hid (LgIs w5 w5.heap.size (-z) b4 A4 n4 c4):=lH (by rw [←hw5];exact (H4.o.keep (HP2.o.cell 0) (by simp) _).keep ((HP2.o.set_ 0 (.bool b3)).cell 1) (by simp) _);clear hw5;refine lastQ_go (by rfl) ?_;have z0:=HP3c.o.cell 0;have z1:=HP3c.o.cell 1;have zf:=HP3c.o.frozen;have zl:=HP3c.o.lt
   go_wp2_with fail
   clear z0 z1 zf zl;generalize hw6:(w5.setCell ⟨w.heap.size+1,0,none⟩ _).setCell ⟨w.heap.size+1,1,none⟩ _=w6;have HP2d:Hid (Blk w6 w.heap.size 113 #[.bool b3,.slice A3 n3 c3]):=lH (by rw [←hw6];exact (HP2c.o.far e01 _).far e01 _);have HP3d:Hid (Blk w6 (w.heap.size+1) 113 #[.bool b4,.slice A4 n4 c4]):=lH (by rw [←hw6];exact blk_set2 HP3c.o);have HP4d:Hid (Blk w6 (w.heap.size+1+1) 115 #[.bool false,.slice none 0 0,.bool false,.slice none 0 0]):=lH (by rw [←hw6];exact (HP4c.o.far e21 _).far e21 _);have HBd:Hid (Below w.heap.size w w6):=lH (by rw [←hw6];exact below_set2 HBc.o (Nat.le_succ _));have HNd:Hid (LgIs w6 w6.heap.size (-y) b3 A3 n3 c3):=lH (by rw [←hw6];exact (HNc.o.keep (HP3c.o.cell 0) (by simp) _).keep ((HP3c.o.set_ 0 (.bool b4)).cell 1) (by simp) _)
   have HDd:Hid (LgIs w6 w6.heap.size (-z) b4 A4 n4 c4):=lH (by rw [←hw6];exact (HDc.o.keep (HP3c.o.cell 0) (by simp) _).keep ((HP3c.o.set_ 0 (.bool b4)).cell 1) (by simp) _);clear hw6;obtain ⟨k,hk⟩:∃ k:Nat,-z=(k:Int):=⟨(-z).toNat,by omega⟩;rw [hk] at HDd;have hb40:b4=false:=by rw [HDd.o.eb];exact decide_eq_false (by omega)
   subst hb40;have HE1:Hid (Rat.divInt y z=Rat.divInt (-y) (k:Int)):=lH (by rw [show z=-(k:Int) from by omega];exact ratio_neg y k);have hk0:0<k:=by omega
   have hn3:n3≤35184372088832:=by rw [HNd.o.en,Int.natAbs_neg,←HYN.o];exact hn
   have hm4:n4≤35184372088832:=by rw [HDd.o.en,←hk,Int.natAbs_neg,←HZM.o];exact hm
   clear hk;go_meet
   case rel=>exact ⟨-y,k,b3,A3,n3,c3,A4,n4,c4,hk0,HE1.o,HBd.o,HP2d.o,HP3d.o,HP4d.o,HNd.o,HDd.o,hn3,hm4⟩
  | false=>
   have hz1 : 0 < z := by have : ¬ z < 0 := by simpa using HB2.o.symm
                          omega
   obtain ⟨k,rfl⟩:∃ k:Nat,z=(k:Int):=⟨z.toNat,by omega⟩;clear HB2;have hk0:0<k:=by omega
   go_wp2_with fail
   go_meet
   case rel=>exact ⟨y,k,b1,A,n,c,B,m,d,hk0,rfl,HB0.o,HX1.o,HX2.o,HR.o,H1.o,H2.o,hn,hm⟩
 clear HB0 HX1 HX2 HR H1 H2 p0 p1 q0 q1 pl ql hn hm hz HB2 HYN HZM;generalize Rat.divInt y z=q at *;obtain ⟨y,k,b1,A,n,c,B,m,d,hk0,hq,hb,hx1,hx2,hr,h1,h2,hn,hm⟩:=hcut;have HQ:=lH hq;have HB:=lH hb;have HP2:=lH hx1;have HP3:=lH hx2;have HP4:=lH hr;have HY:=lH h1;have HK:=lH h2;clear hq hb hx1 hx2 hr h1 h2;generalize wc=V at *;have hgs:w.heap.size≤w.heap.size+1+1:=by omega
 have HKM:Hid (m=dlen k):=lH (by rw [HK.o.en,Int.natAbs_natCast]);have p0:=HP2.o.cell 0;have p1:=HP2.o.cell 1;have pl:=HP2.o.lt;have q0:=HP3.o.cell 0;have q1:=HP3.o.cell 1;have ql:=HP3.o.lt
 go_upto_region 3 with fail
 go_cut [23] (fun v wc=>wc=V∧v=.bool (decide (k=1)))
 case first=>
  by_cases hm1:m=1
  ·subst hm1
   have hk32:k<4294967296:=by
    have:=lt_dlen k;rw [←HKM.o] at this;exact this
   obtain ⟨bb,bo,hB1,hbb⟩:=HK.o.rd.form (by omega);subst hB1;have hc0:=HK.o.rd.at_ (i:=0) (by omega);rw [Int.natAbs_natCast,dig_pos (by omega),Nat.mod_eq_of_lt hk32,Nat.add_zero] at hc0;have hc1:V.cell? ⟨bb,bo,none⟩=some (.int .u32 (k:Int)):=hc0;clear hc0;have hkb:((k:Int) == 1)=decide (k=1):=by
    by_cases h:k=1
    ·subst h;rfl
    ·simp [h];omega
   go_wp2_with fail
   go_meet
   case rel=>exact ⟨rfl,rfl⟩
  ·have hmb:((m:Int) == 1)=false:=by simp;omega
   have hkb:decide (k=1)=false:=decide_eq_false fun e=>hm1 (by rw [HKM.o,e];exact dlen_one (by decide) (by decide));clear hm1
   go_wp2_with fail
   go_meet
   case rel=>exact ⟨rfl,by rw [hkb]⟩
 obtain ⟨hwc,rfl⟩:=hcut;subst hwc;generalize wc=V at *
 by_cases hk1:k=1
 ·subst hk1
  have hrt:RtIs V V.heap.size q b1 A n c false B m d:=by
   obtain ⟨e1,e2⟩:=ratio_one (n:=y) (d:=1) (by decide) (Nat.gcd_one_right _);rw [HQ.o];exact ⟨by rw [e1];exact HY.o,by rw [e2];exact HK.o⟩
  have HRT:=lH hrt;clear hrt;have z0:=HP4.o.cell 0;have z1:=HP4.o.cell 1;have z2:=HP4.o.cell 2;have z3:=HP4.o.cell 3;have zf:=HP4.o.frozen;have zl:=HP4.o.lt
  go_wp2_with fail
  generalize hW9:(((V.setCell ⟨_,0,none⟩ _).setCell ⟨_,1,none⟩ _).setCell ⟨_,2,none⟩ _).setCell ⟨_,3,none⟩ _=W9;have HP9:=lH (rt_put (e:=.returned (.agg #[.bool b1,.slice A n c,.bool false,.slice B m d])) HB.o hgs HP4.o (by simp) (by simp) (by simp) (by simp) HRT.o rfl);rw [hW9] at HP9;have HB9:Hid (Blk W9 _ 115 #[.bool b1,.slice A n c,.bool false,.slice B m d]):=lH (by rw [←hW9];exact blk_set4 HP4.o);clear hW9 z0 z1 z2 z3 zf zl;have q0:=HB9.o.cell 0;have q1:=HB9.o.cell 1;have q2:=HB9.o.cell 2;have q3:=HB9.o.cell 3;exact bodyPost_ret (v:=.agg #[.bool b1,.slice A n c,.bool false,.slice B m d]) (by simp [results,Tryz.results114,go_sem,q0,q1,q2,q3]) rfl HP9.o
 ·have hkf:decide (k=1)=false:=decide_eq_false hk1
  rw [hkf];clear hkf hk1
  go_wp2_with fail
  refine (gcd_any y (k:Int) b1 A n c false B m d V HY.o HK.o hn hm).mono ?_;rw [Int.natAbs_natCast];rintro e V2 ⟨hb2,bg,Ag,ng,cg,rfl,hg2⟩;obtain ⟨g,hgg⟩:∃ g,y.natAbs.gcd k=g:=⟨_,rfl⟩;rw [hgg] at hg2;have HGG:=lH hgg;have hg0:0<g:=by rw [←hgg];exact Nat.gcd_pos_of_pos_right _ hk0
  have hbg:bg=false:=by rw [hg2.eb];exact decide_eq_false (by omega)
  subst hbg;clear p0 p1 pl q0 q1 ql hgg;have HB2:=lH (HB.o.tm hb2);have HP22:=lH (HP2.o.bl hb2);have HP32:=lH (HP3.o.bl hb2);have HP42:=lH (HP4.o.bl hb2);have HY2:=lH (HY.o.up hb2);have HK2:=lH (HK.o.up hb2);have HG2:=lH hg2;clear hb2 hg2 HB HP2 HP3 HP4 HY HK;have HAL:=lH ((Below.refl V2.heap.size V2).alloc lR (.cells #[.bool false,.slice Ag ng cg] 113));have HP5:Hid (Blk (V2.alloc (.cells #[.bool false,.slice Ag ng cg] 113)) V2.heap.size 113 #[.bool false,.slice Ag ng cg]):=lH (Blk.new V2 _ _);have HB3:=lH (HB2.o.tm HAL.o);have HP23:=lH (HP22.o.bl HAL.o);have HP33:=lH (HP32.o.bl HAL.o);have HP43:=lH (HP42.o.bl HAL.o);have HY3:=lH (HY2.o.up HAL.o);have HK3:=lH (HK2.o.up HAL.o);have HG3:=lH (HG2.o.up HAL.o);have f2:V2.heap.size≠w.heap.size:=by have:=HP22.o.lt;omega
  have f3:V2.heap.size≠w.heap.size+1:=by have:=HP32.o.lt;omega
  have f4:V2.heap.size≠w.heap.size+1+1:=by have:=HP42.o.lt;omega
  go_upto_region 6 with fail
  generalize V2.alloc (.cells #[.bool false,.slice Ag ng cg] 113)=V3 at *;generalize V2.heap.size=g5 at *;clear HB2 HP22 HP32 HP42 HY2 HK2 HG2 HAL;have HGM:Hid (ng=dlen g):=lH (by rw [HG3.o.en,Int.natAbs_natCast]);have p0:=HP5.o.cell 0;have p1:=HP5.o.cell 1;have pl:=HP5.o.lt
  go_cut [40] (fun v wd=>wd=V3∧v=.bool (decide (g=1)))
  case first=>
   by_cases hm1:ng=1
   ·subst hm1
    have hk32:g<4294967296:=by
     have:=lt_dlen g;rw [←HGM.o] at this;exact this
    obtain ⟨bb,bo,hB1,hbb⟩:=HG3.o.rd.form (by omega);subst hB1;have hc0:=HG3.o.rd.at_ (i:=0) (by omega);rw [Int.natAbs_natCast,dig_pos (by omega),Nat.mod_eq_of_lt hk32,Nat.add_zero] at hc0;have hc1:V3.cell? ⟨bb,bo,none⟩=some (.int .u32 (g:Int)):=hc0;clear hc0;have hkb:((g:Int) == 1)=decide (g=1):=by
     by_cases h:g=1
     ·subst h;rfl
     ·simp [h];omega
    go_wp2_with fail
    go_meet
    case rel=>exact ⟨rfl,rfl⟩
   ·have hmb:((ng:Int) == 1)=false:=by simp;omega
    have hkb:decide (g=1)=false:=decide_eq_false fun e=>hm1 (by rw [HGM.o,e];exact dlen_one (by decide) (by decide));clear hm1
    go_wp2_with fail
    go_meet
    case rel=>exact ⟨rfl,by rw [hkb]⟩
  obtain ⟨hwc,rfl⟩:=hcut;subst hwc;clear p0 p1 pl;generalize wc=V at *
  by_cases hg1:g=1
  ·subst hg1
   have hrt:RtIs V V.heap.size q b1 A n c false B m d:=by
    obtain ⟨e1,e2⟩:=ratio_one (n:=y) (d:=k) (by omega) HGG.o;rw [HQ.o];exact ⟨by rw [e1];exact HY3.o,by rw [e2];exact HK3.o⟩
   have HRT:=lH hrt;clear hrt;have p0:=HP23.o.cell 0;have p1:=HP23.o.cell 1;have pl:=HP23.o.lt;have q0:=HP33.o.cell 0;have q1:=HP33.o.cell 1;have ql:=HP33.o.lt;have z0:=HP43.o.cell 0;have z1:=HP43.o.cell 1;have z2:=HP43.o.cell 2;have z3:=HP43.o.cell 3;have zf:=HP43.o.frozen;have zl:=HP43.o.lt
   go_wp2_with fail
   generalize hW9:(((V.setCell ⟨_,0,none⟩ _).setCell ⟨_,1,none⟩ _).setCell ⟨_,2,none⟩ _).setCell ⟨_,3,none⟩ _=W9;have HP9:=lH (rt_put (e:=.returned (.agg #[.bool b1,.slice A n c,.bool false,.slice B m d])) HB3.o hgs HP43.o (by simp) (by simp) (by simp) (by simp) HRT.o rfl);rw [hW9] at HP9;have HB9:Hid (Blk W9 _ 115 #[.bool b1,.slice A n c,.bool false,.slice B m d]):=lH (by rw [←hW9];exact blk_set4 HP43.o);clear hW9 z0 z1 z2 z3 zf zl;have q0:=HB9.o.cell 0;have q1:=HB9.o.cell 1;have q2:=HB9.o.cell 2;have q3:=HB9.o.cell 3;exact bodyPost_ret (v:=.agg #[.bool b1,.slice A n c,.bool false,.slice B m d]) (by simp [results,Tryz.results114,go_sem,q0,q1,q2,q3]) rfl HP9.o
  ·have hgf:decide (g=1)=false:=decide_eq_false hg1
   rw [hgf];clear hgf hg1;have p0:=HP23.o.cell 0;have p1:=HP23.o.cell 1;have pf:=HP23.o.frozen;have pl:=HP23.o.lt
   go_upto_region 10 with fail
   clear p0 p1 pf pl;generalize hw4:V.setCell ⟨w.heap.size,0,none⟩ (.bool false)=V4;have HP24:Hid (Blk V4 w.heap.size 113 #[.bool false,.slice A n c]):=lH (by rw [←hw4];exact HP23.o.set_at (i:=0) (.bool false) (by simp));have HP34:Hid (Blk V4 (w.heap.size+1) 113 #[.bool false,.slice B m d]):=lH (by rw [←hw4];exact HP33.o.far e10 _);have HP44:Hid (Blk V4 (w.heap.size+1+1) 115 #[.bool false,.slice none 0 0,.bool false,.slice none 0 0]):=lH (by rw [←hw4];exact HP43.o.far e20 _);have HP54:Hid (Blk V4 g5 113 #[.bool false,.slice Ag ng cg]):=lH (by rw [←hw4];exact HP5.o.far f2 _);have HB4:Hid (Below w.heap.size w V4):=lH (by rw [←hw4];exact HB3.o.setCell lR _);have HY4:Hid (LgIs V4 V4.heap.size (y.natAbs:Int) false A n c):=lH (by rw [←hw4];exact lg_abs (HY3.o.keep (HP23.o.cell 0) (by simp) _))
   have HK4:Hid (LgIs V4 V4.heap.size (k:Int) false B m d):=lH (by rw [←hw4];exact HK3.o.keep (HP23.o.cell 0) (by simp) _);have HG4:Hid (LgIs V4 V4.heap.size (g:Int) false Ag ng cg):=lH (by rw [←hw4];exact HG3.o.keep (HP23.o.cell 0) (by simp) _);have HYB:Hid (b1=decide (y<0)):=lH HY3.o.eb;clear hw4 HP23 HP33 HP43 HP5 HB3 HY3 HK3 HG3;have hng:ng≤35184372088832:=by rw [HGM.o];refine zI_ (dlen_mono (n:=k) (by rw [←HGG.o];exact Nat.gcd_le_right _ hk0)) ?_;rw [←HKM.o];exact hm
   have p0:=HP24.o.cell 0;have p1:=HP24.o.cell 1;have pl:=HP24.o.lt;have q0:=HP54.o.cell 0;have q1:=HP54.o.cell 1;have ql:=HP54.o.lt
   go_wp2_with fail
   refine (dm_any y.natAbs g false A n c false Ag ng cg V4 HY4.o HG4.o hg0 hn hng).mono ?_;clear p0 p1 pl q0 q1 ql;rintro e V5 ⟨hb5,bq,Aq,nq,cq,br,Ar,nr,cr,rfl,hq5,hr5⟩;clear hr5;have hbq:bq=false:=by rw [hq5.eb];exact decide_eq_false (Int.not_lt.2 (Int.natCast_nonneg _))
   subst hbq;have HB5:=lH (HB4.o.tm hb5);have HP25:=lH (HP24.o.bl hb5);have HP35:=lH (HP34.o.bl hb5);have HP45:=lH (HP44.o.bl hb5);have HP55:=lH (HP54.o.bl hb5);have HK5:=lH (HK4.o.up hb5);have HG5:=lH (HG4.o.up hb5);have HQ5:=lH hq5;clear hb5 hq5 HB4 HP24 HP34 HP44 HP54 HY4 HK4 HG4;have p0:=HP25.o.cell 0;have p1:=HP25.o.cell 1;have pf:=HP25.o.frozen;have pl:=HP25.o.lt
   go_upto_region 11 with fail
   clear p0 p1 pf pl;generalize hw6:(V5.setCell ⟨w.heap.size,0,none⟩ (.bool false)).setCell ⟨w.heap.size,1,none⟩ (.slice Aq nq cq)=V6;have HP26:Hid (Blk V6 w.heap.size 113 #[.bool false,.slice Aq nq cq]):=lH (by rw [←hw6];exact blk_set2 HP25.o);have HP36:Hid (Blk V6 (w.heap.size+1) 113 #[.bool false,.slice B m d]):=lH (by rw [←hw6];exact (HP35.o.far e10 _).far e10 _);have HP46:Hid (Blk V6 (w.heap.size+1+1) 115 #[.bool false,.slice none 0 0,.bool false,.slice none 0 0]):=lH (by rw [←hw6];exact (HP45.o.far e20 _).far e20 _);have HP56:Hid (Blk V6 g5 113 #[.bool false,.slice Ag ng cg]):=lH (by rw [←hw6];exact (HP55.o.far f2 _).far f2 _);have HB6:Hid (Below w.heap.size w V6):=lH (by rw [←hw6];exact below_set2 HB5.o lR)
   have HQ6:Hid (LgIs V6 V6.heap.size ((y.natAbs / g:Nat):Int) false Aq nq cq):=lH (by rw [←hw6];exact (HQ5.o.keep (HP25.o.cell 0) (by simp) _).keep ((HP25.o.set_ 0 (.bool false)).cell 1) (by simp) _);have HK6:Hid (LgIs V6 V6.heap.size (k:Int) false B m d):=lH (by rw [←hw6];exact (HK5.o.keep (HP25.o.cell 0) (by simp) _).keep ((HP25.o.set_ 0 (.bool false)).cell 1) (by simp) _);have HG6:Hid (LgIs V6 V6.heap.size (g:Int) false Ag ng cg):=lH (by rw [←hw6];exact (HG5.o.keep (HP25.o.cell 0) (by simp) _).keep ((HP25.o.set_ 0 (.bool false)).cell 1) (by simp) _);clear hw6 HP25 HP35 HP45 HP55 HB5 HQ5 HK5 HG5;have p0:=HP36.o.cell 0;have p1:=HP36.o.cell 1;have pl:=HP36.o.lt;have q0:=HP56.o.cell 0;have q1:=HP56.o.cell 1;have ql:=HP56.o.lt
   go_wp2_with fail
   refine (dm_any k g false B m d false Ag ng cg V6 HK6.o HG6.o hg0 hm hng).mono ?_;clear p0 p1 pl q0 q1 ql;rintro e V7 ⟨hb7,bk,Ak,nk,ck,br,Ar,nr,cr,rfl,hk7,hr7⟩;clear hr7;have hbk:bk=false:=by rw [hk7.eb];exact decide_eq_false (Int.not_lt.2 (Int.natCast_nonneg _))
   subst hbk;have HB7:=lH (HB6.o.tm hb7);have HP27:=lH (HP26.o.bl hb7);have HP37:=lH (HP36.o.bl hb7);have HP47:=lH (HP46.o.bl hb7);have HQ7:=lH (HQ6.o.up hb7);have HK7:=lH hk7;clear hb7 hk7 HB6 HP26 HP36 HP46 HP56 HQ6 HK6 HG6;have p0:=HP37.o.cell 0;have p1:=HP37.o.cell 1;have pf:=HP37.o.frozen;have pl:=HP37.o.lt
   go_upto_region 12 with fail
   clear p0 p1 pf pl;generalize hw8:(V7.setCell ⟨w.heap.size+1,0,none⟩ (.bool false)).setCell ⟨w.heap.size+1,1,none⟩ (.slice Ak nk ck)=V8;have HP28:Hid (Blk V8 w.heap.size 113 #[.bool false,.slice Aq nq cq]):=lH (by rw [←hw8];exact (HP27.o.far e01 _).far e01 _);have HP38:Hid (Blk V8 (w.heap.size+1) 113 #[.bool false,.slice Ak nk ck]):=lH (by rw [←hw8];exact blk_set2 HP37.o);have HP48:Hid (Blk V8 (w.heap.size+1+1) 115 #[.bool false,.slice none 0 0,.bool false,.slice none 0 0]):=lH (by rw [←hw8];exact (HP47.o.far e21 _).far e21 _);have HB8:Hid (Below w.heap.size w V8):=lH (by rw [←hw8];exact below_set2 HB7.o (Nat.le_succ _));have HQ8:Hid (LgIs V8 V8.heap.size ((y.natAbs / g:Nat):Int) false Aq nq cq):=lH (by rw [←hw8];exact (HQ7.o.keep (HP37.o.cell 0) (by simp) _).keep ((HP37.o.set_ 0 (.bool false)).cell 1) (by simp) _)
   have HK8:Hid (LgIs V8 V8.heap.size ((k / g:Nat):Int) false Ak nk ck):=lH (by rw [←hw8];exact (HK7.o.keep (HP37.o.cell 0) (by simp) _).keep ((HP37.o.set_ 0 (.bool false)).cell 1) (by simp) _);clear hw8 HP27 HP37 HP47 HB7 HQ7 HK7;have HNQ:Hid (b1=true→0<nq):=lH fun hb=>by
    rw [HQ8.o.en,Int.natAbs_natCast];have hy0:y<0:=by have:=HYB.o;rw [hb] at this;simpa using this.symm
    have hdv:g∣y.natAbs:=by rw [←HGG.o];exact Nat.gcd_dvd_left _ _
    have:0<y.natAbs / g:=Nat.div_pos (Nat.le_of_dvd (by omega) hdv) hg0;rw [dlen_pos (by omega)];omega
   have hrt:∀ W,LgIs W W.heap.size ((y.natAbs / g:Nat):Int) false Aq nq cq→LgIs W W.heap.size ((k / g:Nat):Int) false Ak nk ck→RtIs W W.heap.size q b1 Aq nq cq false Ak nk ck:=fun W g1 g2=>by
    obtain ⟨e1,e2⟩:=ratio_abs y (d:=k) (by omega);obtain ⟨_,e3⟩:=ratio_num y (d:=k) (by omega);rw [HGG.o] at e1 e3;rw [HQ.o];refine ⟨⟨?_,?_,?_,g1.nc,g1.cm⟩,by rw [e3];exact g2⟩
    ·rw [HYB.o];exact decide_eq_decide.2 e2
    ·rw [e1,g1.en,Int.natAbs_natCast]
    ·rw [e1];have:=g1.rd;rwa [Int.natAbs_natCast] at this
   have HRT:=lH hrt;clear hrt;have p0:=HP28.o.cell 0;have p1:=HP28.o.cell 1;have pf:=HP28.o.frozen;have pl:=HP28.o.lt;cases b1 with
   | true=>
    have hnq:0<nq:=HNQ.o rfl
    go_upto_region 13 with fail
    clear p0 p1 pf pl;generalize hw9:V8.setCell ⟨w.heap.size,0,none⟩ (.bool true)=V9;have HP29:Hid (Blk V9 w.heap.size 113 #[.bool true,.slice Aq nq cq]):=lH (by rw [←hw9];exact HP28.o.set_at (i:=0) (.bool true) (by simp));have HP39:Hid (Blk V9 (w.heap.size+1) 113 #[.bool false,.slice Ak nk ck]):=lH (by rw [←hw9];exact HP38.o.far e10 _);have HP49:Hid (Blk V9 (w.heap.size+1+1) 115 #[.bool false,.slice none 0 0,.bool false,.slice none 0 0]):=lH (by rw [←hw9];exact HP48.o.far e20 _);have HB9:Hid (Below w.heap.size w V9):=lH (by rw [←hw9];exact HB8.o.setCell lR _);have HRT9:Hid (RtIs V9 V9.heap.size q true Aq nq cq false Ak nk ck):=lH (by rw [←hw9];exact HRT.o _ (HQ8.o.keep (HP28.o.cell 0) (by simp) _) (HK8.o.keep (HP28.o.cell 0) (by simp) _));clear hw9 HP28 HP38 HP48 HB8 HQ8 HK8 HRT;have p0:=HP29.o.cell 0;have p1:=HP29.o.cell 1;have pl:=HP29.o.lt;have q0:=HP39.o.cell 0
    have q1:=HP39.o.cell 1;have ql:=HP39.o.lt;have z0:=HP49.o.cell 0;have z1:=HP49.o.cell 1;have z2:=HP49.o.cell 2;have z3:=HP49.o.cell 3;have zf:=HP49.o.frozen;have zl:=HP49.o.lt
    go_wp2_with fail
    generalize hW9:(((V9.setCell ⟨_,0,none⟩ _).setCell ⟨_,1,none⟩ _).setCell ⟨_,2,none⟩ _).setCell ⟨_,3,none⟩ _=W9;have HP9:=lH (rt_put (e:=.returned (.agg #[.bool true,.slice Aq nq cq,.bool false,.slice Ak nk ck])) HB9.o hgs HP49.o (by simp) (by simp) (by simp) (by simp) HRT9.o rfl);rw [hW9] at HP9;have HB9:Hid (Blk W9 _ 115 #[.bool true,.slice Aq nq cq,.bool false,.slice Ak nk ck]):=lH (by rw [←hW9];exact blk_set4 HP49.o);clear hW9 z0 z1 z2 z3 zf zl;have q0:=HB9.o.cell 0;have q1:=HB9.o.cell 1;have q2:=HB9.o.cell 2;have q3:=HB9.o.cell 3;exact bodyPost_ret (v:=.agg #[.bool true,.slice Aq nq cq,.bool false,.slice Ak nk ck]) (by simp [results,Tryz.results114,go_sem,q0,q1,q2,q3]) rfl HP9.o
   | false=>
    go_upto_region 13 with fail
    clear p0 p1 pf pl;generalize hw9:V8.setCell ⟨w.heap.size,0,none⟩ (.bool false)=V9;have HP29:Hid (Blk V9 w.heap.size 113 #[.bool false,.slice Aq nq cq]):=lH (by rw [←hw9];exact HP28.o.set_at (i:=0) (.bool false) (by simp));have HP39:Hid (Blk V9 (w.heap.size+1) 113 #[.bool false,.slice Ak nk ck]):=lH (by rw [←hw9];exact HP38.o.far e10 _);have HP49:Hid (Blk V9 (w.heap.size+1+1) 115 #[.bool false,.slice none 0 0,.bool false,.slice none 0 0]):=lH (by rw [←hw9];exact HP48.o.far e20 _);have HB9:Hid (Below w.heap.size w V9):=lH (by rw [←hw9];exact HB8.o.setCell lR _);have HRT9:Hid (RtIs V9 V9.heap.size q false Aq nq cq false Ak nk ck):=lH (by rw [←hw9];exact HRT.o _ (HQ8.o.keep (HP28.o.cell 0) (by simp) _) (HK8.o.keep (HP28.o.cell 0) (by simp) _));clear hw9 HP28 HP38 HP48 HB8 HQ8 HK8 HRT;have p0:=HP29.o.cell 0;have p1:=HP29.o.cell 1;have pl:=HP29.o.lt;have q0:=HP39.o.cell 0
    have q1:=HP39.o.cell 1;have ql:=HP39.o.lt;have z0:=HP49.o.cell 0;have z1:=HP49.o.cell 1;have z2:=HP49.o.cell 2;have z3:=HP49.o.cell 3;have zf:=HP49.o.frozen;have zl:=HP49.o.lt
    go_wp2_with fail
    generalize hW9:(((V9.setCell ⟨_,0,none⟩ _).setCell ⟨_,1,none⟩ _).setCell ⟨_,2,none⟩ _).setCell ⟨_,3,none⟩ _=W9;have HP9:=lH (rt_put (e:=.returned (.agg #[.bool false,.slice Aq nq cq,.bool false,.slice Ak nk ck])) HB9.o hgs HP49.o (by simp) (by simp) (by simp) (by simp) HRT9.o rfl);rw [hW9] at HP9;have HB9:Hid (Blk W9 _ 115 #[.bool false,.slice Aq nq cq,.bool false,.slice Ak nk ck]):=lH (by rw [←hW9];exact blk_set4 HP49.o);clear hW9 z0 z1 z2 z3 zf zl;have q0:=HB9.o.cell 0;have q1:=HB9.o.cell 1;have q2:=HB9.o.cell 2;have q3:=HB9.o.cell 3;exact bodyPost_ret (v:=.agg #[.bool false,.slice Aq nq cq,.bool false,.slice Ak nk ck]) (by simp [results,Tryz.results114,go_sem,q0,q1,q2,q3]) rfl HP9.o
theorem den_pos_int (p q:Rat):(p.den:Int)*(q.den:Int)≠0:=by
 have h1:=p.den_pos;have h2:=q.den_pos;have:0<p.den*q.den:=Nat.mul_pos h1 h2;rw [←Int.natCast_mul];omega
theorem add_ratio' (a b:Rat):Rat.divInt (a.num*(b.den:Int)+b.num*(a.den:Int)) ((a.den:Int)*(b.den:Int))=a+b:=by
 rw [←Int.natCast_mul];exact add_ratio a b
theorem mul_ratio' (a b:Rat):Rat.divInt (a.num*b.num) ((a.den:Int)*(b.den:Int))=a*b:=by
 rw [←Int.natCast_mul];exact mul_ratio a b
theorem rmul_any (p q:Rat) (b1:Bool) (A:Option Addr) (n c:Nat) (b2:Bool) (A2:Option Addr) (n2 c2:Nat) (b3:Bool) (B:Option Addr) (m d:Nat) (b4:Bool) (B2:Option Addr) (m2 d2:Nat) (w:World) (h1:RtIs w w.heap.size p b1 A n c b2 A2 n2 c2) (h2:RtIs w w.heap.size q b3 B m d b4 B2 m2 d2) (hs:qsz p+qsz q+1≤35184372088832) :
    Calls Tryz.prog 70 #[.agg #[.bool b1,.slice A n c,.bool b2,.slice A2 n2 c2],.agg #[.bool b3,.slice B m d,.bool b4,.slice B2 m2 d2]] w (RtP (p*q) w):=by
 have l1:=h1.n_le;have l2:=h1.m_le;have l3:=h2.n_le;have l4:=h2.m_le;have HB0:Hid (Below w.heap.size w (((w.alloc (.cells #[.bool b1,.slice A n c,.bool b2,.slice A2 n2 c2] 115)).alloc (.cells #[.bool b3,.slice B m d,.bool b4,.slice B2 m2 d2] 115)).alloc (.cells #[.bool false,.slice none 0 0,.bool false,.slice none 0 0] 115))):=lH (((bA).alloc (by simp) _).alloc (by simp;omega) _);have HX1:Hid (Blk (((w.alloc (.cells #[.bool b1,.slice A n c,.bool b2,.slice A2 n2 c2] 115)).alloc (.cells #[.bool b3,.slice B m d,.bool b4,.slice B2 m2 d2] 115)).alloc (.cells #[.bool false,.slice none 0 0,.bool false,.slice none 0 0] 115)) w.heap.size 115 #[.bool b1,.slice A n c,.bool b2,.slice A2 n2 c2]):=lH (((Blk.new w _ _).alloc _).alloc _)
 have HX2:Hid (Blk (((w.alloc (.cells #[.bool b1,.slice A n c,.bool b2,.slice A2 n2 c2] 115)).alloc (.cells #[.bool b3,.slice B m d,.bool b4,.slice B2 m2 d2] 115)).alloc (.cells #[.bool false,.slice none 0 0,.bool false,.slice none 0 0] 115)) (w.heap.size+1) 115 #[.bool b3,.slice B m d,.bool b4,.slice B2 m2 d2]):=lH ((Blk.new_ (by simp)).alloc _);have HR:Hid (Blk (((w.alloc (.cells #[.bool b1,.slice A n c,.bool b2,.slice A2 n2 c2] 115)).alloc (.cells #[.bool b3,.slice B m d,.bool b4,.slice B2 m2 d2] 115)).alloc (.cells #[.bool false,.slice none 0 0,.bool false,.slice none 0 0] 115)) (w.heap.size+1+1) 115 #[.bool false,.slice none 0 0,.bool false,.slice none 0 0]):=lH (Blk.new_ (by simp));have hgs:w.heap.size≤w.heap.size+1+1:=by omega
 have H1:=lH (h1.up HB0.o);have H2:=lH (h2.up HB0.o);clear h1 h2;go_enter Tryz.func70,Tryz.ntmps70
 go_upto_region 1 with fail
 generalize (((w.alloc (.cells #[.bool b1,.slice A n c,.bool b2,.slice A2 n2 c2] 115)).alloc (.cells #[.bool b3,.slice B m d,.bool b4,.slice B2 m2 d2] 115)).alloc (.cells #[.bool false,.slice none 0 0,.bool false,.slice none 0 0] 115))=W at *;have p0:=HX1.o.cell 0;have p1:=HX1.o.cell 1;have p2:=HX1.o.cell 2;have p3:=HX1.o.cell 3;have pl:=HX1.o.lt;have q0:=HX2.o.cell 0;have q1:=HX2.o.cell 1;have q2:=HX2.o.cell 2;have q3:=HX2.o.cell 3;have ql:=HX2.o.lt;have HB4:=lH (below_drew (Below.refl W.heap.size W));refine wp_region_last (S:=fun w'=>Below W.heap.size W w') 11 _ (by kernel_rfl) (by kernel_rfl) rfl HB4.o (fun hHeld=>?_);simp only [zK_,List.take_zero];refine tkH 0 rfl ?_;refine tkH 1 rfl ?_;refine tkH 2 rfl ?_;refine tkH 3 rfl ?_;refine tkH 5 rfl ?_;refine tkH 6 rfl ?_;refine tkH 7 rfl ?_;refine tkH 8 rfl ?_;refine stepH 4 (by kernel_rfl) rfl (fun K hK=>?_);go_simp
 refine (lgmul_any (p.num) (q.num) b1 A n c b3 B m d _ (H1.o.up HB4.o).num (H2.o.up HB4.o).num (by omega)).mono ?_;rintro e w5 ⟨hb5,f5,C5,i5,j5,rfl,h5⟩;have HB5:=lH (HB4.o.tm hb5);have H5:=lH h5;have s5:i5≤m+n:=by rw [h5.en,((H1.o.up HB4.o).num).en,((H2.o.up HB4.o).num).en,Nat.add_comm];exact dlen_mulZ _ _
 clear hb5 h5;go_simp;refine hK.out _ _ ?_ (fun hHeld=>?_)
 ·exact HB5.o
 clear hK K
 try simp only [Act.put,sA_,sB_,sC_]
 refine stepH 9 (by kernel_rfl) rfl (fun K hK=>?_);go_simp;refine (lgmul_any ((p.den:Int)) ((q.den:Int)) b2 A2 n2 c2 b4 B2 m2 d2 _ (H1.o.up HB5.o).den (H2.o.up HB5.o).den (by omega)).mono ?_;rintro e w6 ⟨hb6,f6,C6,i6,j6,rfl,h6⟩;have HB6:=lH (HB5.o.tm hb6);have H6:=lH h6;have s6:i6≤m2+n2:=by rw [h6.en,((H1.o.up HB5.o).den).en,((H2.o.up HB5.o).den).en,Nat.add_comm];exact dlen_mulZ _ _
 have H5_6:=lH (H5.o.up hb6);clear hb6 h6;go_simp;refine hK.out _ _ ?_ (fun hHeld=>?_)
 ·exact HB6.o
 clear hK K
 try simp only [Act.put,sA_,sB_,sC_]
 refine stepH 10 (by kernel_rfl) rfl (fun K hK=>?_);go_simp;refine (ratio_any (p.num*q.num) ((p.den:Int)*(q.den:Int)) f5 C5 i5 j5 f6 C6 i6 j6 _ H5_6.o H6.o (den_pos_int p q) (by omega) (by omega)).mono ?_;rw [mul_ratio'];rintro e w7 ⟨hb7,f7,C7,i7,j7,f7d,C7d,i7d,j7d,rfl,h7⟩;have HB7:=lH (HB6.o.tm hb7);have H7:=lH h7;clear hb7 h7;go_simp;refine hK.out _ _ ?_ (fun hHeld=>?_)
 ·exact HB7.o
 clear hK K
 try simp only [Act.put,sA_,sB_,sC_]
 refine wpAnyH_done (by kernel_rfl) ?_ _;refine lastQ_go (by rfl) ?_;have HBF:=lH (HB0.o.tm HB7.o);have HGF:=lH (HR.o.bl HB7.o);clear p0 p1 p2 p3 q0 q1 q2 q3 pl ql;have z0:=HGF.o.cell 0;have z1:=HGF.o.cell 1;have z2:=HGF.o.cell 2;have z3:=HGF.o.cell 3;have zf:=HGF.o.frozen;have zl:=HGF.o.lt
 go_wp2_with fail
 generalize hW9:(((w7.setCell ⟨_,0,none⟩ _).setCell ⟨_,1,none⟩ _).setCell ⟨_,2,none⟩ _).setCell ⟨_,3,none⟩ _=W9;have HP9:=lH (rt_put (e:=.returned (.agg #[.bool f7,.slice C7 i7 j7,.bool f7d,.slice C7d i7d j7d])) HBF.o hgs HGF.o (by simp) (by simp) (by simp) (by simp) H7.o rfl);rw [hW9] at HP9;have HB9:Hid (Blk W9 _ 115 #[.bool f7,.slice C7 i7 j7,.bool f7d,.slice C7d i7d j7d]):=lH (by rw [←hW9];exact blk_set4 HGF.o);clear hW9 z0 z1 z2 z3 zf zl;have q0:=HB9.o.cell 0;have q1:=HB9.o.cell 1;have q2:=HB9.o.cell 2;have q3:=HB9.o.cell 3;exact bodyPost_ret (v:=.agg #[.bool f7,.slice C7 i7 j7,.bool f7d,.slice C7d i7d j7d]) (by simp [results,Tryz.results70,go_sem,q0,q1,q2,q3]) rfl HP9.o
theorem rdiv_any (p q:Rat) (b1:Bool) (A:Option Addr) (n c:Nat) (b2:Bool) (A2:Option Addr) (n2 c2:Nat) (b3:Bool) (B:Option Addr) (m d:Nat) (b4:Bool) (B2:Option Addr) (m2 d2:Nat) (w:World) (h1:RtIs w w.heap.size p b1 A n c b2 A2 n2 c2) (h2:RtIs w w.heap.size q b3 B m d b4 B2 m2 d2) (hq:q≠0) (hs:qsz p+qsz q+1≤35184372088832) :
    Calls Tryz.prog 120 #[.agg #[.bool b1,.slice A n c,.bool b2,.slice A2 n2 c2],.agg #[.bool b3,.slice B m d,.bool b4,.slice B2 m2 d2]] w (RtP (p / q) w):=by
 have l1:=h1.n_le;have l2:=h1.m_le;have l3:=h2.n_le;have l4:=h2.m_le;have HB0:Hid (Below w.heap.size w (((w.alloc (.cells #[.bool b1,.slice A n c,.bool b2,.slice A2 n2 c2] 115)).alloc (.cells #[.bool b3,.slice B m d,.bool b4,.slice B2 m2 d2] 115)).alloc (.cells #[.bool false,.slice none 0 0,.bool false,.slice none 0 0] 115))):=lH (((bA).alloc (by simp) _).alloc (by simp;omega) _);have HX1:Hid (Blk (((w.alloc (.cells #[.bool b1,.slice A n c,.bool b2,.slice A2 n2 c2] 115)).alloc (.cells #[.bool b3,.slice B m d,.bool b4,.slice B2 m2 d2] 115)).alloc (.cells #[.bool false,.slice none 0 0,.bool false,.slice none 0 0] 115)) w.heap.size 115 #[.bool b1,.slice A n c,.bool b2,.slice A2 n2 c2]):=lH (((Blk.new w _ _).alloc _).alloc _)
 have HX2:Hid (Blk (((w.alloc (.cells #[.bool b1,.slice A n c,.bool b2,.slice A2 n2 c2] 115)).alloc (.cells #[.bool b3,.slice B m d,.bool b4,.slice B2 m2 d2] 115)).alloc (.cells #[.bool false,.slice none 0 0,.bool false,.slice none 0 0] 115)) (w.heap.size+1) 115 #[.bool b3,.slice B m d,.bool b4,.slice B2 m2 d2]):=lH ((Blk.new_ (by simp)).alloc _);have HR:Hid (Blk (((w.alloc (.cells #[.bool b1,.slice A n c,.bool b2,.slice A2 n2 c2] 115)).alloc (.cells #[.bool b3,.slice B m d,.bool b4,.slice B2 m2 d2] 115)).alloc (.cells #[.bool false,.slice none 0 0,.bool false,.slice none 0 0] 115)) (w.heap.size+1+1) 115 #[.bool false,.slice none 0 0,.bool false,.slice none 0 0]):=lH (Blk.new_ (by simp));have hgs:w.heap.size≤w.heap.size+1+1:=by omega
 have H1:=lH (h1.up HB0.o);have H2:=lH (h2.up HB0.o);clear h1 h2;go_enter Tryz.func120,Tryz.ntmps120
 go_upto_region 1 with fail
 generalize (((w.alloc (.cells #[.bool b1,.slice A n c,.bool b2,.slice A2 n2 c2] 115)).alloc (.cells #[.bool b3,.slice B m d,.bool b4,.slice B2 m2 d2] 115)).alloc (.cells #[.bool false,.slice none 0 0,.bool false,.slice none 0 0] 115))=W at *;have p0:=HX1.o.cell 0;have p1:=HX1.o.cell 1;have p2:=HX1.o.cell 2;have p3:=HX1.o.cell 3;have pl:=HX1.o.lt;have q0:=HX2.o.cell 0;have q1:=HX2.o.cell 1;have q2:=HX2.o.cell 2;have q3:=HX2.o.cell 3;have ql:=HX2.o.lt;have HB4:=lH (below_drew (Below.refl W.heap.size W));refine wp_region_last (S:=fun w'=>Below W.heap.size W w') 11 _ (by kernel_rfl) (by kernel_rfl) rfl HB4.o (fun hHeld=>?_);simp only [zK_,List.take_zero];refine tkH 0 rfl ?_;refine tkH 1 rfl ?_;refine tkH 2 rfl ?_;refine tkH 3 rfl ?_;refine tkH 5 rfl ?_;refine tkH 6 rfl ?_;refine tkH 7 rfl ?_;refine tkH 8 rfl ?_;refine stepH 4 (by kernel_rfl) rfl (fun K hK=>?_);go_simp
 refine (lgmul_any (p.num) ((q.den:Int)) b1 A n c b4 B2 m2 d2 _ (H1.o.up HB4.o).num (H2.o.up HB4.o).den (by omega)).mono ?_;rintro e w5 ⟨hb5,f5,C5,i5,j5,rfl,h5⟩;have HB5:=lH (HB4.o.tm hb5);have H5:=lH h5;have s5:i5≤m2+n:=by rw [h5.en,((H1.o.up HB4.o).num).en,((H2.o.up HB4.o).den).en,Nat.add_comm];exact dlen_mulZ _ _
 clear hb5 h5;go_simp;refine hK.out _ _ ?_ (fun hHeld=>?_)
 ·exact HB5.o
 clear hK K
 try simp only [Act.put,sA_,sB_,sC_]
 refine stepH 9 (by kernel_rfl) rfl (fun K hK=>?_);go_simp;refine (lgmul_any ((p.den:Int)) (q.num) b2 A2 n2 c2 b3 B m d _ (H1.o.up HB5.o).den (H2.o.up HB5.o).num (by omega)).mono ?_;rintro e w6 ⟨hb6,f6,C6,i6,j6,rfl,h6⟩;have HB6:=lH (HB5.o.tm hb6);have H6:=lH h6;have s6:i6≤m+n2:=by rw [h6.en,((H1.o.up HB5.o).den).en,((H2.o.up HB5.o).num).en,Nat.add_comm];exact dlen_mulZ _ _
 have H5_6:=lH (H5.o.up hb6);clear hb6 h6;go_simp;refine hK.out _ _ ?_ (fun hHeld=>?_)
 ·exact HB6.o
 clear hK K
 try simp only [Act.put,sA_,sB_,sC_]
 refine stepH 10 (by kernel_rfl) rfl (fun K hK=>?_);go_simp;refine (ratio_any (p.num*(q.den:Int)) ((p.den:Int)*q.num) f5 C5 i5 j5 f6 C6 i6 j6 _ H5_6.o H6.o (Int.mul_ne_zero (by have:=p.den_pos;omega) fun h=>hq (Rat.num_eq_zero.1 h)) (by omega) (by omega)).mono ?_;rw [div_ratio];rintro e w7 ⟨hb7,f7,C7,i7,j7,f7d,C7d,i7d,j7d,rfl,h7⟩;have HB7:=lH (HB6.o.tm hb7);have H7:=lH h7;clear hb7 h7;go_simp;refine hK.out _ _ ?_ (fun hHeld=>?_)
 ·exact HB7.o
 clear hK K
 try simp only [Act.put,sA_,sB_,sC_]
 refine wpAnyH_done (by kernel_rfl) ?_ _;refine lastQ_go (by rfl) ?_;have HBF:=lH (HB0.o.tm HB7.o);have HGF:=lH (HR.o.bl HB7.o);clear p0 p1 p2 p3 q0 q1 q2 q3 pl ql;have z0:=HGF.o.cell 0;have z1:=HGF.o.cell 1;have z2:=HGF.o.cell 2;have z3:=HGF.o.cell 3;have zf:=HGF.o.frozen;have zl:=HGF.o.lt
 go_wp2_with fail
 generalize hW9:(((w7.setCell ⟨_,0,none⟩ _).setCell ⟨_,1,none⟩ _).setCell ⟨_,2,none⟩ _).setCell ⟨_,3,none⟩ _=W9;have HP9:=lH (rt_put (e:=.returned (.agg #[.bool f7,.slice C7 i7 j7,.bool f7d,.slice C7d i7d j7d])) HBF.o hgs HGF.o (by simp) (by simp) (by simp) (by simp) H7.o rfl);rw [hW9] at HP9;have HB9:Hid (Blk W9 _ 115 #[.bool f7,.slice C7 i7 j7,.bool f7d,.slice C7d i7d j7d]):=lH (by rw [←hW9];exact blk_set4 HGF.o);clear hW9 z0 z1 z2 z3 zf zl;have q0:=HB9.o.cell 0;have q1:=HB9.o.cell 1;have q2:=HB9.o.cell 2;have q3:=HB9.o.cell 3;exact bodyPost_ret (v:=.agg #[.bool f7,.slice C7 i7 j7,.bool f7d,.slice C7d i7d j7d]) (by simp [results,Tryz.results120,go_sem,q0,q1,q2,q3]) rfl HP9.o
theorem radd_any (p q:Rat) (b1:Bool) (A:Option Addr) (n c:Nat) (b2:Bool) (A2:Option Addr) (n2 c2:Nat) (b3:Bool) (B:Option Addr) (m d:Nat) (b4:Bool) (B2:Option Addr) (m2 d2:Nat) (w:World) (h1:RtIs w w.heap.size p b1 A n c b2 A2 n2 c2) (h2:RtIs w w.heap.size q b3 B m d b4 B2 m2 d2) (hs:qsz p+qsz q+1≤35184372088832) :
    Calls Tryz.prog 69 #[.agg #[.bool b1,.slice A n c,.bool b2,.slice A2 n2 c2],.agg #[.bool b3,.slice B m d,.bool b4,.slice B2 m2 d2]] w (RtP (p+q) w):=by
 have l1:=h1.n_le;have l2:=h1.m_le;have l3:=h2.n_le;have l4:=h2.m_le;have HB0:Hid (Below w.heap.size w (((w.alloc (.cells #[.bool b1,.slice A n c,.bool b2,.slice A2 n2 c2] 115)).alloc (.cells #[.bool b3,.slice B m d,.bool b4,.slice B2 m2 d2] 115)).alloc (.cells #[.bool false,.slice none 0 0,.bool false,.slice none 0 0] 115))):=lH (((bA).alloc (by simp) _).alloc (by simp;omega) _);have HX1:Hid (Blk (((w.alloc (.cells #[.bool b1,.slice A n c,.bool b2,.slice A2 n2 c2] 115)).alloc (.cells #[.bool b3,.slice B m d,.bool b4,.slice B2 m2 d2] 115)).alloc (.cells #[.bool false,.slice none 0 0,.bool false,.slice none 0 0] 115)) w.heap.size 115 #[.bool b1,.slice A n c,.bool b2,.slice A2 n2 c2]):=lH (((Blk.new w _ _).alloc _).alloc _)
 have HX2:Hid (Blk (((w.alloc (.cells #[.bool b1,.slice A n c,.bool b2,.slice A2 n2 c2] 115)).alloc (.cells #[.bool b3,.slice B m d,.bool b4,.slice B2 m2 d2] 115)).alloc (.cells #[.bool false,.slice none 0 0,.bool false,.slice none 0 0] 115)) (w.heap.size+1) 115 #[.bool b3,.slice B m d,.bool b4,.slice B2 m2 d2]):=lH ((Blk.new_ (by simp)).alloc _);have HR:Hid (Blk (((w.alloc (.cells #[.bool b1,.slice A n c,.bool b2,.slice A2 n2 c2] 115)).alloc (.cells #[.bool b3,.slice B m d,.bool b4,.slice B2 m2 d2] 115)).alloc (.cells #[.bool false,.slice none 0 0,.bool false,.slice none 0 0] 115)) (w.heap.size+1+1) 115 #[.bool false,.slice none 0 0,.bool false,.slice none 0 0]):=lH (Blk.new_ (by simp));have hgs:w.heap.size≤w.heap.size+1+1:=by omega
 have H1:=lH (h1.up HB0.o);have H2:=lH (h2.up HB0.o);clear h1 h2;go_enter Tryz.func69,Tryz.ntmps69
 go_upto_region 1 with fail
 generalize (((w.alloc (.cells #[.bool b1,.slice A n c,.bool b2,.slice A2 n2 c2] 115)).alloc (.cells #[.bool b3,.slice B m d,.bool b4,.slice B2 m2 d2] 115)).alloc (.cells #[.bool false,.slice none 0 0,.bool false,.slice none 0 0] 115))=W at *;have p0:=HX1.o.cell 0;have p1:=HX1.o.cell 1;have p2:=HX1.o.cell 2;have p3:=HX1.o.cell 3;have pl:=HX1.o.lt;have q0:=HX2.o.cell 0;have q1:=HX2.o.cell 1;have q2:=HX2.o.cell 2;have q3:=HX2.o.cell 3;have ql:=HX2.o.lt;have HB4:=lH (below_drew (Below.refl W.heap.size W));refine wp_region_last (S:=fun w'=>Below W.heap.size W w') 17 _ (by kernel_rfl) (by kernel_rfl) rfl HB4.o (fun hHeld=>?_);simp only [zK_,List.take_zero];refine tkH 0 rfl ?_;refine tkH 1 rfl ?_;refine tkH 2 rfl ?_;refine tkH 3 rfl ?_;refine tkH 5 rfl ?_;refine tkH 6 rfl ?_;refine tkH 7 rfl ?_;refine tkH 8 rfl ?_;refine tkH 11 rfl ?_;refine tkH 12 rfl ?_;refine tkH 13 rfl ?_
 refine tkH 14 rfl ?_;refine stepH 4 (by kernel_rfl) rfl (fun K hK=>?_);go_simp;refine (lgmul_any (p.num) ((q.den:Int)) b1 A n c b4 B2 m2 d2 _ (H1.o.up HB4.o).num (H2.o.up HB4.o).den (by omega)).mono ?_;rintro e w5 ⟨hb5,f5,C5,i5,j5,rfl,h5⟩;have HB5:=lH (HB4.o.tm hb5);have H5:=lH h5;have s5:i5≤m2+n:=by rw [h5.en,((H1.o.up HB4.o).num).en,((H2.o.up HB4.o).den).en,Nat.add_comm];exact dlen_mulZ _ _
 clear hb5 h5;go_simp;refine hK.out _ _ ?_ (fun hHeld=>?_)
 ·exact HB5.o
 clear hK K
 try simp only [Act.put,sA_,sB_,sC_]
 refine stepH 9 (by kernel_rfl) rfl (fun K hK=>?_);go_simp;refine (lgmul_any (q.num) ((p.den:Int)) b3 B m d b2 A2 n2 c2 _ (H2.o.up HB5.o).num (H1.o.up HB5.o).den (by omega)).mono ?_;rintro e w6 ⟨hb6,f6,C6,i6,j6,rfl,h6⟩;have HB6:=lH (HB5.o.tm hb6);have H6:=lH h6;have s6:i6≤n2+m:=by rw [h6.en,((H2.o.up HB5.o).num).en,((H1.o.up HB5.o).den).en,Nat.add_comm];exact dlen_mulZ _ _
 have H5_6:=lH (H5.o.up hb6);clear hb6 h6;go_simp;refine hK.out _ _ ?_ (fun hHeld=>?_)
 ·exact HB6.o
 clear hK K
 try simp only [Act.put,sA_,sB_,sC_]
 refine stepH 10 (by kernel_rfl) rfl (fun K hK=>?_);go_simp;refine (add_any (p.num*(q.den:Int)) (q.num*(p.den:Int)) f5 C5 i5 j5 f6 C6 i6 j6 _ H5_6.o H6.o (by omega) (by omega)).mono ?_;rintro e w7 ⟨hb7,f7,C7,i7,j7,rfl,h7⟩;have HB7:=lH (HB6.o.tm hb7);have H7:=lH h7;have s7:i7≤max i5 i6+1:=by rw [h7.en,H5_6.o.en,H6.o.en];exact dlen_addZ _ _
 clear hb7 h7;go_simp;refine hK.out _ _ ?_ (fun hHeld=>?_)
 ·exact HB7.o
 clear hK K
 try simp only [Act.put,sA_,sB_,sC_]
 refine stepH 15 (by kernel_rfl) rfl (fun K hK=>?_);go_simp;refine (lgmul_any ((p.den:Int)) ((q.den:Int)) b2 A2 n2 c2 b4 B2 m2 d2 _ (H1.o.up HB7.o).den (H2.o.up HB7.o).den (by omega)).mono ?_;rintro e w8 ⟨hb8,f8,C8,i8,j8,rfl,h8⟩;have HB8:=lH (HB7.o.tm hb8);have H8:=lH h8;have s8:i8≤m2+n2:=by rw [h8.en,((H1.o.up HB7.o).den).en,((H2.o.up HB7.o).den).en,Nat.add_comm];exact dlen_mulZ _ _
 have H7_8:=lH (H7.o.up hb8);clear hb8 h8;go_simp;refine hK.out _ _ ?_ (fun hHeld=>?_)
 ·exact HB8.o
 clear hK K
 try simp only [Act.put,sA_,sB_,sC_]
 refine stepH 16 (by kernel_rfl) rfl (fun K hK=>?_);go_simp;refine (ratio_any (p.num*(q.den:Int)+q.num*(p.den:Int)) ((p.den:Int)*(q.den:Int)) f7 C7 i7 j7 f8 C8 i8 j8 _ H7_8.o H8.o (den_pos_int p q) (by omega) (by omega)).mono ?_;rw [add_ratio'];rintro e w9 ⟨hb9,f9,C9,i9,j9,f9d,C9d,i9d,j9d,rfl,h9⟩;have HB9:=lH (HB8.o.tm hb9);have H9:=lH h9;clear hb9 h9;go_simp;refine hK.out _ _ ?_ (fun hHeld=>?_)
 ·exact HB9.o
 clear hK K
 try simp only [Act.put,sA_,sB_,sC_]
 refine wpAnyH_done (by kernel_rfl) ?_ _;refine lastQ_go (by rfl) ?_;have HBF:=lH (HB0.o.tm HB9.o);have HGF:=lH (HR.o.bl HB9.o);clear p0 p1 p2 p3 q0 q1 q2 q3 pl ql;have z0:=HGF.o.cell 0;have z1:=HGF.o.cell 1;have z2:=HGF.o.cell 2;have z3:=HGF.o.cell 3;have zf:=HGF.o.frozen;have zl:=HGF.o.lt
 go_wp2_with fail
 generalize hW9:(((w9.setCell ⟨_,0,none⟩ _).setCell ⟨_,1,none⟩ _).setCell ⟨_,2,none⟩ _).setCell ⟨_,3,none⟩ _=W9;have HP9:=lH (rt_put (e:=.returned (.agg #[.bool f9,.slice C9 i9 j9,.bool f9d,.slice C9d i9d j9d])) HBF.o hgs HGF.o (by simp) (by simp) (by simp) (by simp) H9.o rfl);rw [hW9] at HP9;have HB9:Hid (Blk W9 _ 115 #[.bool f9,.slice C9 i9 j9,.bool f9d,.slice C9d i9d j9d]):=lH (by rw [←hW9];exact blk_set4 HGF.o);clear hW9 z0 z1 z2 z3 zf zl;have q0:=HB9.o.cell 0;have q1:=HB9.o.cell 1;have q2:=HB9.o.cell 2;have q3:=HB9.o.cell 3;exact bodyPost_ret (v:=.agg #[.bool f9,.slice C9 i9 j9,.bool f9d,.slice C9d i9d j9d]) (by simp [results,Tryz.results69,go_sem,q0,q1,q2,q3]) rfl HP9.o
theorem rcmp_any (p q:Rat) (b1:Bool) (A:Option Addr) (n c:Nat) (b2:Bool) (A2:Option Addr) (n2 c2:Nat) (b3:Bool) (B:Option Addr) (m d:Nat) (b4:Bool) (B2:Option Addr) (m2 d2:Nat) (w:World) (h1:RtIs w w.heap.size p b1 A n c b2 A2 n2 c2) (h2:RtIs w w.heap.size q b3 B m d b4 B2 m2 d2) (hs:qsz p+qsz q+1≤35184372088832) :
    Calls Tryz.prog 118 #[.agg #[.bool b1,.slice A n c,.bool b2,.slice A2 n2 c2],.agg #[.bool b3,.slice B m d,.bool b4,.slice B2 m2 d2]] w (fun e w'=>e=.returned (.int .i64 (p.num*(q.den:Int)-q.num*(p.den:Int)).sign)∧Below w.heap.size w w'):=by
 have l1:=h1.n_le;have l2:=h1.m_le;have l3:=h2.n_le;have l4:=h2.m_le;have HB0:Hid (Below w.heap.size w ((w.alloc (.cells #[.bool b1,.slice A n c,.bool b2,.slice A2 n2 c2] 115)).alloc (.cells #[.bool b3,.slice B m d,.bool b4,.slice B2 m2 d2] 115))):=lH ((bA).alloc (by simp) _);have HX1:Hid (Blk ((w.alloc (.cells #[.bool b1,.slice A n c,.bool b2,.slice A2 n2 c2] 115)).alloc (.cells #[.bool b3,.slice B m d,.bool b4,.slice B2 m2 d2] 115)) w.heap.size 115 #[.bool b1,.slice A n c,.bool b2,.slice A2 n2 c2]):=lH ((Blk.new w _ _).alloc _);have HX2:Hid (Blk ((w.alloc (.cells #[.bool b1,.slice A n c,.bool b2,.slice A2 n2 c2] 115)).alloc (.cells #[.bool b3,.slice B m d,.bool b4,.slice B2 m2 d2] 115)) (w.heap.size+1) 115 #[.bool b3,.slice B m d,.bool b4,.slice B2 m2 d2]):=lH (Blk.new_ (by simp));have H1:=lH (h1.up HB0.o);have H2:=lH (h2.up HB0.o);clear h1 h2
 go_enter Tryz.func118,Tryz.ntmps118
 go_upto_region 1 with fail
 generalize ((w.alloc (.cells #[.bool b1,.slice A n c,.bool b2,.slice A2 n2 c2] 115)).alloc (.cells #[.bool b3,.slice B m d,.bool b4,.slice B2 m2 d2] 115))=W at *;have p0:=HX1.o.cell 0;have p1:=HX1.o.cell 1;have p2:=HX1.o.cell 2;have p3:=HX1.o.cell 3;have pl:=HX1.o.lt;have q0:=HX2.o.cell 0;have q1:=HX2.o.cell 1;have q2:=HX2.o.cell 2;have q3:=HX2.o.cell 3;have ql:=HX2.o.lt;have HB4:=lH (below_drew (Below.refl W.heap.size W));refine wp_region_last (S:=fun w'=>Below W.heap.size W w') 11 _ (by kernel_rfl) (by kernel_rfl) rfl HB4.o (fun hHeld=>?_);simp only [zK_,List.take_zero];refine tkH 0 rfl ?_;refine tkH 1 rfl ?_;refine tkH 2 rfl ?_;refine tkH 3 rfl ?_;refine tkH 5 rfl ?_;refine tkH 6 rfl ?_;refine tkH 7 rfl ?_;refine tkH 8 rfl ?_;refine stepH 4 (by kernel_rfl) rfl (fun K hK=>?_);go_simp
 refine (lgmul_any (p.num) ((q.den:Int)) b1 A n c b4 B2 m2 d2 _ (H1.o.up HB4.o).num (H2.o.up HB4.o).den (by omega)).mono ?_;rintro e w5 ⟨hb5,f5,C5,i5,j5,rfl,h5⟩;have HB5:=lH (HB4.o.tm hb5);have H5:=lH h5;have s5:i5≤m2+n:=by rw [h5.en,((H1.o.up HB4.o).num).en,((H2.o.up HB4.o).den).en,Nat.add_comm];exact dlen_mulZ _ _
 clear hb5 h5;go_simp;refine hK.out _ _ ?_ (fun hHeld=>?_)
 ·exact HB5.o
 clear hK K
 try simp only [Act.put,sA_,sB_,sC_]
 refine stepH 9 (by kernel_rfl) rfl (fun K hK=>?_);go_simp;refine (lgmul_any (q.num) ((p.den:Int)) b3 B m d b2 A2 n2 c2 _ (H2.o.up HB5.o).num (H1.o.up HB5.o).den (by omega)).mono ?_;rintro e w6 ⟨hb6,f6,C6,i6,j6,rfl,h6⟩;have HB6:=lH (HB5.o.tm hb6);have H6:=lH h6;have s6:i6≤n2+m:=by rw [h6.en,((H2.o.up HB5.o).num).en,((H1.o.up HB5.o).den).en,Nat.add_comm];exact dlen_mulZ _ _
 have H5_6:=lH (H5.o.up hb6);clear hb6 h6;go_simp;refine hK.out _ _ ?_ (fun hHeld=>?_)
 ·exact HB6.o
 clear hK K
 try simp only [Act.put,sA_,sB_,sC_]
 refine stepH 10 (by kernel_rfl) rfl (fun K hK=>?_);go_simp;refine (cmp_any (p.num*(q.den:Int)) (q.num*(p.den:Int)) f5 C5 i5 j5 f6 C6 i6 j6 _ H5_6.o H6.o (by omega) (by omega)).mono ?_;rintro e w7 ⟨rfl,hb7⟩;have HB7:=lH (HB6.o.tm hb7);clear hb7;go_simp;refine hK.out _ _ ?_ (fun hHeld=>?_)
 ·exact HB7.o
 clear hK K
 try simp only [Act.put,sA_,sB_,sC_]
 refine wpAnyH_done (by kernel_rfl) ?_ _;refine lastQ_go (by rfl) ?_
 go_wp2_with fail
 go_ret;exact ⟨rfl,HB0.o.tm HB7.o⟩
theorem rneg_any (p:Rat) (b1:Bool) (A:Option Addr) (n c:Nat) (b2:Bool) (A2:Option Addr) (n2 c2:Nat) (w:World) (h1:RtIs w w.heap.size p b1 A n c b2 A2 n2 c2) :
    Calls Tryz.prog 108 #[.agg #[.bool b1,.slice A n c,.bool b2,.slice A2 n2 c2]] w (RtP (-p) w):=by
 have HB0:Hid (Below w.heap.size w ((w.alloc (.cells #[.bool b1,.slice A n c,.bool b2,.slice A2 n2 c2] 115)).alloc (.cells #[.bool false,.slice none 0 0,.bool false,.slice none 0 0] 115))):=lH ((bA).alloc (by simp) _);have HX1:Hid (Blk ((w.alloc (.cells #[.bool b1,.slice A n c,.bool b2,.slice A2 n2 c2] 115)).alloc (.cells #[.bool false,.slice none 0 0,.bool false,.slice none 0 0] 115)) w.heap.size 115 #[.bool b1,.slice A n c,.bool b2,.slice A2 n2 c2]):=lH ((Blk.new w _ _).alloc _);have HR:Hid (Blk ((w.alloc (.cells #[.bool b1,.slice A n c,.bool b2,.slice A2 n2 c2] 115)).alloc (.cells #[.bool false,.slice none 0 0,.bool false,.slice none 0 0] 115)) (w.heap.size+1) 115 #[.bool false,.slice none 0 0,.bool false,.slice none 0 0]):=lH (Blk.new_ (by simp));have hgs:w.heap.size≤w.heap.size+1:=by omega
 have H1:=lH (h1.up HB0.o);clear h1;go_enter Tryz.func108,Tryz.ntmps108
 go_upto_region 1 with fail
 generalize ((w.alloc (.cells #[.bool b1,.slice A n c,.bool b2,.slice A2 n2 c2] 115)).alloc (.cells #[.bool false,.slice none 0 0,.bool false,.slice none 0 0] 115))=W at *;have p0:=HX1.o.cell 0;have p1:=HX1.o.cell 1;have p2:=HX1.o.cell 2;have p3:=HX1.o.cell 3;have pl:=HX1.o.lt;have HB4:=lH (below_drew (Below.refl W.heap.size W));refine wp_region_last (S:=fun w'=>Below W.heap.size W w') 6 _ (by kernel_rfl) (by kernel_rfl) rfl HB4.o (fun hHeld=>?_);simp only [zK_,List.take_zero];refine tkH 0 rfl ?_;refine tkH 1 rfl ?_;refine tkH 3 rfl ?_;refine tkH 4 rfl ?_;refine stepH 2 (by kernel_rfl) rfl (fun K hK=>?_);go_simp;refine (neg_any p.num b1 A n c _ (H1.o.up HB4.o).num).mono ?_;rintro e w5 ⟨hb5,f5,C5,i5,j5,rfl,h5⟩;have HB5:=lH (HB4.o.tm hb5);have H5:Hid (RtIs w5 w5.heap.size (-p) f5 C5 i5 j5 b2 A2 n2 c2):=lH ⟨h5,(H1.o.up HB5.o).den⟩;clear hb5 h5;go_simp
 refine hK.out _ _ ?_ (fun hHeld=>?_)
 ·exact HB5.o
 clear hK K
 try simp only [Act.put,sA_,sB_,sC_]
 refine tkH 5 rfl ?_;refine wpAnyH_done (by kernel_rfl) ?_ _;refine lastQ_go (by rfl) ?_;have HBF:=lH (HB0.o.tm HB5.o);have HGF:=lH (HR.o.bl HB5.o);clear p0 p1 p2 p3 pl;have z0:=HGF.o.cell 0;have z1:=HGF.o.cell 1;have z2:=HGF.o.cell 2;have z3:=HGF.o.cell 3;have zf:=HGF.o.frozen;have zl:=HGF.o.lt
 go_wp2_with fail
 generalize hW9:(((w5.setCell ⟨_,0,none⟩ _).setCell ⟨_,1,none⟩ _).setCell ⟨_,2,none⟩ _).setCell ⟨_,3,none⟩ _=W9;have HP9:=lH (rt_put (e:=.returned (.agg #[.bool f5,.slice C5 i5 j5,.bool b2,.slice A2 n2 c2])) HBF.o hgs HGF.o (by simp) (by simp) (by simp) (by simp) H5.o rfl);rw [hW9] at HP9;have HB9:Hid (Blk W9 _ 115 #[.bool f5,.slice C5 i5 j5,.bool b2,.slice A2 n2 c2]):=lH (by rw [←hW9];exact blk_set4 HGF.o);clear hW9 z0 z1 z2 z3 zf zl;have q0:=HB9.o.cell 0;have q1:=HB9.o.cell 1;have q2:=HB9.o.cell 2;have q3:=HB9.o.cell 3;exact bodyPost_ret (v:=.agg #[.bool f5,.slice C5 i5 j5,.bool b2,.slice A2 n2 c2]) (by simp [results,Tryz.results108,go_sem,q0,q1,q2,q3]) rfl HP9.o
theorem rsub_any (p q:Rat) (b1:Bool) (A:Option Addr) (n c:Nat) (b2:Bool) (A2:Option Addr) (n2 c2:Nat) (b3:Bool) (B:Option Addr) (m d:Nat) (b4:Bool) (B2:Option Addr) (m2 d2:Nat) (w:World) (h1:RtIs w w.heap.size p b1 A n c b2 A2 n2 c2) (h2:RtIs w w.heap.size q b3 B m d b4 B2 m2 d2) (hs:qsz p+qsz q+1≤35184372088832) :
    Calls Tryz.prog 68 #[.agg #[.bool b1,.slice A n c,.bool b2,.slice A2 n2 c2],.agg #[.bool b3,.slice B m d,.bool b4,.slice B2 m2 d2]] w (RtP (p-q) w):=by
 have l1:=h1.n_le;have l2:=h1.m_le;have l3:=h2.n_le;have l4:=h2.m_le;have HB0:Hid (Below w.heap.size w (((w.alloc (.cells #[.bool b1,.slice A n c,.bool b2,.slice A2 n2 c2] 115)).alloc (.cells #[.bool b3,.slice B m d,.bool b4,.slice B2 m2 d2] 115)).alloc (.cells #[.bool false,.slice none 0 0,.bool false,.slice none 0 0] 115))):=lH (((bA).alloc (by simp) _).alloc (by simp;omega) _);have HX1:Hid (Blk (((w.alloc (.cells #[.bool b1,.slice A n c,.bool b2,.slice A2 n2 c2] 115)).alloc (.cells #[.bool b3,.slice B m d,.bool b4,.slice B2 m2 d2] 115)).alloc (.cells #[.bool false,.slice none 0 0,.bool false,.slice none 0 0] 115)) w.heap.size 115 #[.bool b1,.slice A n c,.bool b2,.slice A2 n2 c2]):=lH (((Blk.new w _ _).alloc _).alloc _)
 have HX2:Hid (Blk (((w.alloc (.cells #[.bool b1,.slice A n c,.bool b2,.slice A2 n2 c2] 115)).alloc (.cells #[.bool b3,.slice B m d,.bool b4,.slice B2 m2 d2] 115)).alloc (.cells #[.bool false,.slice none 0 0,.bool false,.slice none 0 0] 115)) (w.heap.size+1) 115 #[.bool b3,.slice B m d,.bool b4,.slice B2 m2 d2]):=lH ((Blk.new_ (by simp)).alloc _);have HR:Hid (Blk (((w.alloc (.cells #[.bool b1,.slice A n c,.bool b2,.slice A2 n2 c2] 115)).alloc (.cells #[.bool b3,.slice B m d,.bool b4,.slice B2 m2 d2] 115)).alloc (.cells #[.bool false,.slice none 0 0,.bool false,.slice none 0 0] 115)) (w.heap.size+1+1) 115 #[.bool false,.slice none 0 0,.bool false,.slice none 0 0]):=lH (Blk.new_ (by simp));have hgs:w.heap.size≤w.heap.size+1+1:=by omega
 have H1:=lH (h1.up HB0.o);have H2:=lH (h2.up HB0.o);clear h1 h2;go_enter Tryz.func68,Tryz.ntmps68
 go_upto_region 1 with fail
 generalize (((w.alloc (.cells #[.bool b1,.slice A n c,.bool b2,.slice A2 n2 c2] 115)).alloc (.cells #[.bool b3,.slice B m d,.bool b4,.slice B2 m2 d2] 115)).alloc (.cells #[.bool false,.slice none 0 0,.bool false,.slice none 0 0] 115))=W at *;have p0:=HX1.o.cell 0;have p1:=HX1.o.cell 1;have p2:=HX1.o.cell 2;have p3:=HX1.o.cell 3;have pl:=HX1.o.lt;have q0:=HX2.o.cell 0;have q1:=HX2.o.cell 1;have q2:=HX2.o.cell 2;have q3:=HX2.o.cell 3;have ql:=HX2.o.lt;have HB4:=lH (below_drew (Below.refl W.heap.size W));refine wp_region_last (S:=fun w'=>Below W.heap.size W w') 4 _ (by kernel_rfl) (by kernel_rfl) rfl HB4.o (fun hHeld=>?_);simp only [zK_,List.take_zero];refine tkH 0 rfl ?_;refine tkH 1 rfl ?_;refine stepH 2 (by kernel_rfl) rfl (fun K hK=>?_);go_simp;refine (rneg_any q b3 B m d b4 B2 m2 d2 _ (H2.o.up HB4.o)).mono ?_;rintro e w5 ⟨hb5,f5,C5,i5,j5,f5d,C5d,i5d,j5d,rfl,h5⟩
 have HB5:=lH (HB4.o.tm hb5);have H5:=lH h5;clear hb5 h5;go_simp;refine hK.out _ _ ?_ (fun hHeld=>?_)
 ·exact HB5.o
 clear hK K
 try simp only [Act.put,sA_,sB_,sC_]
 refine stepH 3 (by kernel_rfl) rfl (fun K hK=>?_);go_simp;refine (radd_any p (-q) b1 A n c b2 A2 n2 c2 f5 C5 i5 j5 f5d C5d i5d j5d _ (H1.o.up HB5.o) H5.o (by rw [neg_qsz];exact hs)).mono ?_;rw [←Rat.sub_eq_add_neg];rintro e w7 ⟨hb7,f7,C7,i7,j7,f7d,C7d,i7d,j7d,rfl,h7⟩;have HB7:=lH (HB5.o.tm hb7);have H7:=lH h7;clear hb7 h7;go_simp;refine hK.out _ _ ?_ (fun hHeld=>?_)
 ·exact HB7.o
 clear hK K
 try simp only [Act.put,sA_,sB_,sC_]
 refine wpAnyH_done (by kernel_rfl) ?_ _;refine lastQ_go (by rfl) ?_;have HBF:=lH (HB0.o.tm HB7.o);have HGF:=lH (HR.o.bl HB7.o);clear p0 p1 p2 p3 q0 q1 q2 q3 pl ql;have z0:=HGF.o.cell 0;have z1:=HGF.o.cell 1;have z2:=HGF.o.cell 2;have z3:=HGF.o.cell 3;have zf:=HGF.o.frozen;have zl:=HGF.o.lt
 go_wp2_with fail
 generalize hW9:(((w7.setCell ⟨_,0,none⟩ _).setCell ⟨_,1,none⟩ _).setCell ⟨_,2,none⟩ _).setCell ⟨_,3,none⟩ _=W9;have HP9:=lH (rt_put (e:=.returned (.agg #[.bool f7,.slice C7 i7 j7,.bool f7d,.slice C7d i7d j7d])) HBF.o hgs HGF.o (by simp) (by simp) (by simp) (by simp) H7.o rfl);rw [hW9] at HP9;have HB9:Hid (Blk W9 _ 115 #[.bool f7,.slice C7 i7 j7,.bool f7d,.slice C7d i7d j7d]):=lH (by rw [←hW9];exact blk_set4 HGF.o);clear hW9 z0 z1 z2 z3 zf zl;have q0:=HB9.o.cell 0;have q1:=HB9.o.cell 1;have q2:=HB9.o.cell 2;have q3:=HB9.o.cell 3;exact bodyPost_ret (v:=.agg #[.bool f7,.slice C7 i7 j7,.bool f7d,.slice C7d i7d j7d]) (by simp [results,Tryz.results68,go_sem,q0,q1,q2,q3]) rfl HP9.o
theorem rsign_any (p:Rat) (b1:Bool) (A:Option Addr) (n c:Nat) (b2:Bool) (A2:Option Addr) (n2 c2:Nat) (w:World) (h1:RtIs w w.heap.size p b1 A n c b2 A2 n2 c2) :
    Calls Tryz.prog 119 #[.agg #[.bool b1,.slice A n c,.bool b2,.slice A2 n2 c2]] w fun e w'=>e=.returned (.int .i64 p.num.sign)∧Below w.heap.size w w':=by
 have HB0:Hid (Below w.heap.size w (w.alloc (.cells #[.bool b1,.slice A n c,.bool b2,.slice A2 n2 c2] 115))):=lH (bA);have HX1:=lH (Blk.new w 115 #[.bool b1,.slice A n c,.bool b2,.slice A2 n2 c2]);have H1:=lH (h1.up HB0.o);clear h1;go_enter Tryz.func119,Tryz.ntmps119
 go_upto_region 1 with fail
 generalize w.alloc (.cells #[.bool b1,.slice A n c,.bool b2,.slice A2 n2 c2] 115)=W at *;have p0:=HX1.o.cell 0;have p1:=HX1.o.cell 1;have p2:=HX1.o.cell 2;have p3:=HX1.o.cell 3;have pl:=HX1.o.lt
 go_wp2_with fail
 refine (lsign_any p.num b1 A n c W H1.o.num).mono ?_;rintro e w1 ⟨rfl,hb1⟩;have HB1:=lH (HB0.o.tm hb1);clear hb1
 go_wp2_with fail
 go_ret;exact ⟨rfl,HB1.o⟩
theorem whole_any (k:Int) (w:World) (h0:-9223372036854775808≤k) (h1:k≤9223372036854775807) :
    Calls Tryz.prog 66 #[.int .i64 k] w (RtP (k:Rat) w):=by
 have HB0:Hid (Below w.heap.size w (w.alloc (.cells #[.bool false,.slice none 0 0,.bool false,.slice none 0 0] 115))):=lH (bA);have HR:Hid (Blk (w.alloc (.cells #[.bool false,.slice none 0 0,.bool false,.slice none 0 0] 115)) w.heap.size 115 #[.bool false,.slice none 0 0,.bool false,.slice none 0 0]):=lH (Blk.new w _ _);have hgs:w.heap.size≤w.heap.size:=lR;go_enter Tryz.func66,Tryz.ntmps66
 go_upto_region 1 with fail
 generalize (w.alloc (.cells #[.bool false,.slice none 0 0,.bool false,.slice none 0 0] 115))=W at *
 go_wp2_with fail
 refine (of_any k W h0 h1).mono ?_;rintro e w1 ⟨hb1,f5,C5,i5,j5,rfl,h5⟩;have HB1:=lH (HB0.o.tm hb1);have HR1:=lH (HR.o.bl hb1);have H5:=lH h5;clear hb1 h5
 go_wp2_with fail
 refine (of_any 1 w1 (by decide) (by decide)).mono ?_;rintro e w2 ⟨hb2,f6,C6,i6,j6,rfl,h6⟩;have HB2:=lH (HB1.o.tm hb2);have HR2:=lH (HR1.o.bl hb2);have HQ:Hid (RtIs w2 w2.heap.size (k:Rat) f5 C5 i5 j5 f6 C6 i6 j6):=lH ⟨by rw [Rat.num_intCast];exact H5.o.up hb2,by rw [Rat.den_intCast];exact h6⟩;clear hb2 h6 HB0 HR HB1 HR1;have z0:=HR2.o.cell 0;have z1:=HR2.o.cell 1;have z2:=HR2.o.cell 2;have z3:=HR2.o.cell 3;have zf:=HR2.o.frozen;have zl:=HR2.o.lt
 go_wp2_with fail
 generalize hW9:(((w2.setCell ⟨_,0,none⟩ _).setCell ⟨_,1,none⟩ _).setCell ⟨_,2,none⟩ _).setCell ⟨_,3,none⟩ _=W9;have HP9:=lH (rt_put (e:=.returned (.agg #[.bool f5,.slice C5 i5 j5,.bool f6,.slice C6 i6 j6])) HB2.o hgs HR2.o (by simp) (by simp) (by simp) (by simp) HQ.o rfl);rw [hW9] at HP9;have HB9:Hid (Blk W9 _ 115 #[.bool f5,.slice C5 i5 j5,.bool f6,.slice C6 i6 j6]):=lH (by rw [←hW9];exact blk_set4 HR2.o);clear hW9 z0 z1 z2 z3 zf zl;have q0:=HB9.o.cell 0;have q1:=HB9.o.cell 1;have q2:=HB9.o.cell 2;have q3:=HB9.o.cell 3;exact bodyPost_ret (v:=.agg #[.bool f5,.slice C5 i5 j5,.bool f6,.slice C6 i6 j6]) (by simp [results,Tryz.results66,go_sem,q0,q1,q2,q3]) rfl HP9.o
theorem frac_any (k d:Int) (w:World) (h0:-9223372036854775808≤k) (h1:k≤9223372036854775807) (h2:-9223372036854775808≤d) (h3:d≤9223372036854775807) (hd:d≠0) :
    Calls Tryz.prog 92 #[.int .i64 k,.int .i64 d] w (RtP (Rat.divInt k d) w):=by
 have HB0:Hid (Below w.heap.size w (w.alloc (.cells #[.bool false,.slice none 0 0,.bool false,.slice none 0 0] 115))):=lH (bA);have HR:Hid (Blk (w.alloc (.cells #[.bool false,.slice none 0 0,.bool false,.slice none 0 0] 115)) w.heap.size 115 #[.bool false,.slice none 0 0,.bool false,.slice none 0 0]):=lH (Blk.new w _ _);have hgs:w.heap.size≤w.heap.size:=lR;have sz:∀ z:Int,-9223372036854775808≤z→z≤9223372036854775807→dlen z.natAbs≤2:=fun z a b=>dlen_le (by show _<4294967296^2;omega);have s1:=sz k h0 h1;have s2:=sz d h2 h3;clear sz;go_enter Tryz.func92,Tryz.ntmps92
 go_upto_region 1 with fail
 generalize (w.alloc (.cells #[.bool false,.slice none 0 0,.bool false,.slice none 0 0] 115))=W at *
 go_wp2_with fail
 refine (of_any k W h0 h1).mono ?_;rintro e w1 ⟨hb1,f5,C5,i5,j5,rfl,h5⟩;have HB1:=lH (HB0.o.tm hb1);have HR1:=lH (HR.o.bl hb1);have H5:=lH h5;clear hb1 h5
 go_wp2_with fail
 refine (of_any d w1 h2 h3).mono ?_;rintro e w2 ⟨hb2,f6,C6,i6,j6,rfl,h6⟩;have HB2:=lH (HB1.o.tm hb2);have HR2:=lH (HR1.o.bl hb2);have H52:=lH (H5.o.up hb2);have H62:=lH h6;clear hb2 h6 HB0 HR HB1 HR1 H5
 go_wp2_with fail
 refine (ratio_any k d f5 C5 i5 j5 f6 C6 i6 j6 w2 H52.o H62.o hd (by rw [H52.o.en];omega) (by rw [H62.o.en];omega)).mono ?_;rintro e w3 ⟨hb3,f7,C7,i7,j7,f7d,C7d,i7d,j7d,rfl,h7⟩;have HB3:=lH (HB2.o.tm hb3);have HR3:=lH (HR2.o.bl hb3);have H7:=lH h7;clear hb3 h7 HB2 HR2 H52 H62;have z0:=HR3.o.cell 0;have z1:=HR3.o.cell 1;have z2:=HR3.o.cell 2;have z3:=HR3.o.cell 3;have zf:=HR3.o.frozen;have zl:=HR3.o.lt
 go_wp2_with fail
 generalize hW9:(((w3.setCell ⟨_,0,none⟩ _).setCell ⟨_,1,none⟩ _).setCell ⟨_,2,none⟩ _).setCell ⟨_,3,none⟩ _=W9;have HP9:=lH (rt_put (e:=.returned (.agg #[.bool f7,.slice C7 i7 j7,.bool f7d,.slice C7d i7d j7d])) HB3.o hgs HR3.o (by simp) (by simp) (by simp) (by simp) H7.o rfl);rw [hW9] at HP9;have HB9:Hid (Blk W9 _ 115 #[.bool f7,.slice C7 i7 j7,.bool f7d,.slice C7d i7d j7d]):=lH (by rw [←hW9];exact blk_set4 HR3.o);clear hW9 z0 z1 z2 z3 zf zl;have q0:=HB9.o.cell 0;have q1:=HB9.o.cell 1;have q2:=HB9.o.cell 2;have q3:=HB9.o.cell 3;exact bodyPost_ret (v:=.agg #[.bool f7,.slice C7 i7 j7,.bool f7d,.slice C7d i7d j7d]) (by simp [results,Tryz.results92,go_sem,q0,q1,q2,q3]) rfl HP9.o
end
end Go.Proofs.YthgdchffeigkbaaGreatDoor
