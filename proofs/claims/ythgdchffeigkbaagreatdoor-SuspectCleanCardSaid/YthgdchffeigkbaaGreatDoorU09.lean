import Derived.Test.YthgdchffeigkbaaGreatDoorU05
import Derived.Test.YthgdchffeigkbaaGreatDoorU06
import Derived.Test.YthgdchffeigkbaaGreatDoorU07
import Derived.Lib.BitFns
import Derived.Deep.CutBlock
import Derived.Deep.DeepAppendWide
set_option linter.unusedVariables false
set_option linter.unusedSimpArgs false
namespace Go.Proofs.YthgdchffeigkbaaGreatDoor
set_option maxHeartbeats 8000000
set_option maxRecDepth 100000
section
open Go.ChangeShapes Go.WideShapes Go.ChangeAt Go.RowKit
attribute [local go_sem ↓] execOp_call_val
attribute [local go_sem] callVal_func setCell_drewN alloc_drewN
theorem sub_any (y z:Int) (b1:Bool) (A:Option Addr) (n c:Nat) (b2:Bool) (B:Option Addr) (m d:Nat) (w:World) (h1:LgIs w w.heap.size y b1 A n c) (h2:LgIs w w.heap.size z b2 B m d) (hn:n≤35184372088832) (hm:m≤35184372088832) :
    Calls Tryz.prog 170 #[.agg #[.bool b1,.slice A n c],.agg #[.bool b2,.slice B m d]] w (LgP (y-z) w):=by
 have HMZ:=lH h2.en;have HB0:Hid (Below w.heap.size w (((w.alloc (.cells #[.bool b1,.slice A n c] 113)).alloc (.cells #[.bool b2,.slice B m d] 113)).alloc (.cells #[.bool false,.slice none 0 0] 113))):=lH (((bA).alloc (by simp) _).alloc (by simp;omega) _);have HX1:Hid (Blk (((w.alloc (.cells #[.bool b1,.slice A n c] 113)).alloc (.cells #[.bool b2,.slice B m d] 113)).alloc (.cells #[.bool false,.slice none 0 0] 113)) w.heap.size 113 #[.bool b1,.slice A n c]):=lH (((Blk.new w _ _).alloc _).alloc _);have HX2:Hid (Blk (((w.alloc (.cells #[.bool b1,.slice A n c] 113)).alloc (.cells #[.bool b2,.slice B m d] 113)).alloc (.cells #[.bool false,.slice none 0 0] 113)) (w.heap.size+1) 113 #[.bool b2,.slice B m d]):=lH ((Blk.new_ (by simp)).alloc _)
 have HR:Hid (Blk (((w.alloc (.cells #[.bool b1,.slice A n c] 113)).alloc (.cells #[.bool b2,.slice B m d] 113)).alloc (.cells #[.bool false,.slice none 0 0] 113)) (w.heap.size+1+1) 113 #[.bool false,.slice none 0 0]):=lH (Blk.new_ (by simp));have H1:=lH (h1.up HB0.o);have H2:=lH (h2.up HB0.o);clear h1 h2;go_enter Tryz.func170,Tryz.ntmps170
 have hgs:w.heap.size≤w.heap.size+1+1:=by omega
 go_wp2_with fail
 generalize (((w.alloc (.cells #[.bool b1,.slice A n c] 113)).alloc (.cells #[.bool b2,.slice B m d] 113)).alloc (.cells #[.bool false,.slice none 0 0] 113))=W at *;have p0:=HX1.o.cell 0;have p1:=HX1.o.cell 1;have q0:=HX2.o.cell 0;have q1:=HX2.o.cell 1;have pl:=HX1.o.lt;have ql:=HX2.o.lt;have HH1:Hid (LgIs W.drew W.drew.heap.size y b1 A n c):=lH (H1.o.up (below_drew bR));have HH2:Hid (LgIs W.drew W.drew.heap.size z b2 B m d):=lH (H2.o.up (below_drew bR));refine wp_region_last (S:=fun w'=>Below W.heap.size W w') 4 _ (by kernel_rfl) (by kernel_rfl) rfl (below_drew bR) (fun hHeld=>?_);simp only [zK_,List.take_zero];refine tkH 0 rfl ?_;refine tkH 1 rfl ?_;refine stepH 2 (by kernel_rfl) rfl (fun K hK=>?_);go_simp;refine (neg_any z b2 B m d W.drew HH2.o).mono ?_;rintro e w5 ⟨hb5,b5,A5,n5,c5,rfl,h5⟩
 have HB5:=lH ((below_drew (Below.refl W.heap.size W)).trans hb5);have H5:=lH h5;have HN5:Hid (n5=m):=lH (by rw [h5.en,Int.natAbs_neg,←HMZ.o]);have HH1b:=lH (HH1.o.up hb5);clear hb5 h5;go_simp;refine hK.out _ _ ?_ (fun hHeld=>?_)
 ·exact HB5.o
 clear hK K
 try simp only [Act.put,sA_,sB_,sC_]
 refine stepH 3 (by kernel_rfl) rfl (fun K hK=>?_);go_simp;refine (add_any y (-z) b1 A n c b5 A5 n5 c5 w5 HH1b.o H5.o hn (by have:=HN5.o;omega)).mono ?_;rw [show y+-z=y-z from by omega];rintro e w6 ⟨hb6,b9,A9,n9,c9,rfl,h9⟩;have HB6:=lH (HB5.o.tm hb6);have H9:=lH h9;clear hb6 h9;go_simp;refine hK.out _ _ ?_ (fun hHeld=>?_)
 ·exact HB6.o
 clear hK K
 try simp only [Act.put,sA_,sB_,sC_]
 refine wpAnyH_done (by kernel_rfl) ?_ _;refine lastQ_go (by rfl) ?_;have HBF:=lH (HB0.o.tm HB6.o);have HGF:=lH (HR.o.bl HB6.o);clear p0 p1 q0 q1 pl ql;have z0:=HGF.o.cell 0;have z1:=HGF.o.cell 1;have zf:=HGF.o.frozen;have zl:=HGF.o.lt
 go_wp2_with fail
 generalize hW9:(w6.setCell ⟨_,0,none⟩ _).setCell ⟨_,1,none⟩ _=W9;have HP9:=lH (lg_put (e:=.returned (.agg #[.bool b9,.slice A9 n9 c9])) HBF.o hgs HGF.o (by simp) (by simp) H9.o rfl);rw [hW9] at HP9;have HB9:Hid (Blk W9 _ 113 #[.bool b9,.slice A9 n9 c9]):=lH (by rw [←hW9];exact blk_set2 HGF.o);clear hW9 z0 z1 zf zl;have q0:=HB9.o.cell 0;have q1:=HB9.o.cell 1;exact bodyPost_ret (v:=.agg #[.bool b9,.slice A9 n9 c9]) (by simp [results,Tryz.results170,go_sem,q0,q1]) rfl HP9.o
theorem cmp_any (y z:Int) (b1:Bool) (A:Option Addr) (n c:Nat) (b2:Bool) (B:Option Addr) (m d:Nat) (w:World) (h1:LgIs w w.heap.size y b1 A n c) (h2:LgIs w w.heap.size z b2 B m d) (hn:n≤35184372088832) (hm:m≤35184372088832) :
    Calls Tryz.prog 154 #[.agg #[.bool b1,.slice A n c],.agg #[.bool b2,.slice B m d]] w fun e w'=>e=.returned (.int .i64 (y-z).sign)∧Below w.heap.size w w':=by
 have HB0:Hid (Below w.heap.size w ((w.alloc (.cells #[.bool b1,.slice A n c] 113)).alloc (.cells #[.bool b2,.slice B m d] 113))):=lH ((bA).alloc (by simp) _);have HX1:Hid (Blk ((w.alloc (.cells #[.bool b1,.slice A n c] 113)).alloc (.cells #[.bool b2,.slice B m d] 113)) w.heap.size 113 #[.bool b1,.slice A n c]):=lH ((Blk.new w _ _).alloc _);have HX2:Hid (Blk ((w.alloc (.cells #[.bool b1,.slice A n c] 113)).alloc (.cells #[.bool b2,.slice B m d] 113)) (w.heap.size+1) 113 #[.bool b2,.slice B m d]):=lH (Blk.new_ (by simp));have H1:=lH (h1.up HB0.o);have H2:=lH (h2.up HB0.o);clear h1 h2;go_enter Tryz.func154,Tryz.ntmps154
 go_wp2_with fail
 generalize ((w.alloc (.cells #[.bool b1,.slice A n c] 113)).alloc (.cells #[.bool b2,.slice B m d] 113))=W at *;clear HX1 HX2;refine (sub_any y z b1 A n c b2 B m d W H1.o H2.o hn hm).mono ?_;rintro e w5 ⟨hb5,b5,A5,n5,c5,rfl,h5⟩;have HB5:=lH (HB0.o.tm hb5);have H5:=lH h5;clear hb5 h5
 go_wp2_with fail
 refine (lsign_any (y-z) b5 A5 n5 c5 w5 H5.o).mono ?_;rintro e w6 ⟨rfl,hb6⟩;have HB6:=lH (HB5.o.tm hb6);clear hb6
 go_wp2_with fail
 go_ret;exact ⟨rfl,HB6.o⟩
structure LzIs (x s:Nat):Prop where
 le:s≤31
 lo:2147483648≤x*2^s
 hi:x*2^s<4294967296
theorem bitLen_spec:∀ (x:Nat),0<x→x<18446744073709551616→1≤Lib.bitLen x∧2^(Lib.bitLen x-1)≤x∧x<2^Lib.bitLen x:=by
 intro x
 induction x using Nat.strongRecOn with
 | ind x ih=>
  intro h0 h1;have hh:=Lib.bitLen_half x (by omega) h1
  by_cases hx:x=1
  ·subst hx
   have e:Lib.bitLen (1 / 2)=0:=by decide
   rw [e] at hh;rw [hh];decide
  ·obtain ⟨g1,g2,g3⟩:=ih (x / 2) (by omega) (by omega) (by omega)
   rw [hh];generalize Lib.bitLen (x / 2)=L at *;obtain ⟨k,rfl⟩:∃ k,L=k+1:=⟨L-1,by omega⟩;rw [show 1+(k+1)-1=k+1 from by omega,show 1+(k+1)=k+2 from by omega];rw [Nat.add_sub_cancel] at g2;rw [Nat.pow_succ] at g3;refine ⟨by omega,?_,?_⟩
   ·rw [Nat.pow_succ];omega
   ·rw [Nat.pow_succ,Nat.pow_succ];omega
theorem lz_any (x:Nat) (w:World) (h0:0<x) (h1:x<4294967296) :
    Calls Tryz.prog 189 #[.int .u32 (x:Int)] w fun e w'=>(∃ s:Nat,e=.returned (.int .i64 (s:Int))∧LzIs x s)∧w=w':=by
 refine (Tryz.bits_LeadingZeros32 (x:Int) w (by omega) (by omega)).mono ?_;rintro e w' ⟨rfl,rfl⟩;rw [zL_];obtain ⟨g1,g2,g3⟩:=bitLen_spec x h0 (by omega);have hle:Lib.bitLen x≤32:=Lib.bitLen_le x 32 (by decide) h1;generalize Lib.bitLen x=L at *;refine ⟨⟨32-L,ret_int (by omega),⟨by omega,?_,?_⟩⟩,rfl⟩
 ·have:2^(L-1)*2^(32-L)=2147483648:=by rw [←Nat.pow_add,show L-1+(32-L)=31 from by omega]
  have:=Nat.mul_le_mul_right (2^(32-L)) g2;omega
 ·have:2^L*2^(32-L)=4294967296:=by rw [←Nat.pow_add,show L+(32-L)=32 from by omega]
  have:=(Nat.mul_lt_mul_right (a:=2^(32-L)) (Nat.pow_pos (by decide))).2 g3;omega
def DivWP (x y:Nat) (w:World) (e:Ending) (w':World):Prop:=Below w.heap.size w w'∧∃ A n c l B m d l2,e=.returned (.tuple #[.slice A n c,.slice B m d])∧(RdW w' w'.heap.size A n l∧Wd l∧wv l=x / y∧n≤c∧c≤9223372036854775807)∧(RdW w' w'.heap.size B m l2∧Wd l2∧wv l2=x % y∧m≤d∧d≤9223372036854775807)∧n≤35184372088833∧m≤35184372088832
theorem divW_any (A:Option Addr) (n c:Nat) (B:Option Addr) (m d:Nat) (x y:Nat) (w:World) (hx:RdW w w.heap.size A n (dig x)) (hy:RdW w w.heap.size B m (dig y)) (hy0:0<y) (hnc:n≤c) (hcm:c≤9223372036854775807) (hn:n≤35184372088832) (hm:m≤35184372088832) :
    Calls Tryz.prog 168 #[.slice A n c,.slice B m d] w (DivWP x y w):=by
 have HX:=lH hx;have HY:=lH hy;have HXL:Hid (dlen x=n):=lH hx.len;have HYL:Hid (dlen y=m):=lH hy.len;have hm0:0<m:=by rw [←HYL.o,dlen_pos (by omega)];omega
 clear hx hy;go_enter Tryz.func168,Tryz.ntmps168
 go_wp2_with fail
 refine (cmpW_any A n c B m d x y w HX.o HY.o (by omega) (by omega)).mono ?_;rintro e w1 ⟨⟨r,rfl,hr⟩,nq,rfl⟩;have hdr:Below w.heap.size w (w.drewN nq):=below_drewN bR nq;have HB1:=lH hdr;have HX1:=lH (HX.o.up hdr);have HY1:=lH (HY.o.up hdr);clear hdr HX HY;generalize w.drewN nq=v at *
 by_cases hr0:r<0
 ·have HLT:Hid (x<y):=lH (hr.1.1 hr0)
  clear hr
  go_wp2_with fail
  go_ret2;exact ⟨HB1.o,none,0,0,[],A,n,c,dig x,rfl,⟨rdW_nil _ _ _,wd_nil,by rw [Nat.div_eq_of_lt HLT.o];rfl,lR,by decide⟩,⟨HX1.o,wd_dig _,by rw [Nat.mod_eq_of_lt HLT.o,wv_dig],hnc,hcm⟩,by omega,by omega⟩
 ·have HLE:Hid (y≤x):=lH (Nat.le_of_not_lt fun h=>hr0 (hr.1.2 h))
  have hr1:0≤r:=by omega
  clear hr hr0;obtain ⟨bb,bo,hB1,hbb⟩:=HY1.o.form hm0;subst hB1
  by_cases hm1:m=1
  ·subst hm1
   have hy32:y<4294967296:=by
    have:=lt_dlen y;rw [HYL.o] at this;exact this
   have HD0:Hid ((dig y).getD 0 0=y):=lH (by
    rw [dig_pos (by omega),Nat.mod_eq_of_lt hy32];rfl)
   have hcb:=HY1.o.at_ (i:=0) (by omega);rw [HD0.o,Nat.add_zero] at hcb
   go_wp2_with fail
   refine (sdivW A n c y (dig x) v HX1.o (wd_dig _) hn hy0 hy32).mono ?_;rw [wv_dig];rintro e w2 ⟨hb2,g2,n2,l2,rfl,hr2,hd2,hv2,hn2,-⟩;have HB2:=lH (HB1.o.tm hb2);have HR2:=lH hr2;have HV2:=lH hv2;have HD2:=lH hd2;have hml:x % y<4294967296:=Nat.lt_trans (Nat.mod_lt _ hy0) hy32;obtain ⟨t,ht⟩:∃ t,x % y=t:=⟨_,rfl⟩;have HT:=lH ht;rw [ht] at hml ⊢;have HK2:=lH ((Below.refl w2.heap.size w2).alloc lR (.cells #[.int .u32 (t:Int)] 216));have HG2:Hid (Blk (w2.alloc (.cells #[.int .u32 (t:Int)] 216)) w2.heap.size 216 (u32s [t]).toArray):=lH (Blk.new w2 _ _);clear hb2 hr2 hv2 hd2 ht hcb hr1
   go_wp2_with fail
   go_ret2;exact ⟨HB2.o.tm HK2.o,_,n2,n2,l2,_,1,1,[t],rfl,⟨HR2.o.up HK2.o,HD2.o,HV2.o,lR,by omega⟩,⟨rdW_blk HG2.o,fun z hz=>by rw [List.mem_singleton.1 hz];exact hml,by rw [HT.o];simp [wv],lR,by decide⟩,by omega,by omega⟩
  ·have hm2:2≤m:=by omega
   have hmb:((m:Int) == 1)=false:=by simp;omega
   have HTP:Hid (0<(dig y).getD (m-1) 0∧(dig y).getD (m-1) 0<4294967296):=lH ⟨by
    have h:=(nrm_dig y).2;have hl:(dig y).length=m:=HYL.o;rw [List.getLast?_eq_getElem?,hl,zA_ (by omega)] at h;rw [zD_,zA_ (by omega)];simp only [Option.getD_some];refine Nat.pos_of_ne_zero fun e=>h (by rw [e])
    ,(wd_dig y).getD _⟩
   have hcb:=HY1.o.at_ (i:=m-1) (by omega);obtain ⟨bt,hbt⟩:∃ t,(dig y).getD (m-1) 0=t:=⟨_,rfl⟩;have HBT:=lH hbt;rw [hbt] at hcb HTP;obtain ⟨ht0,ht1⟩:=HTP.o;have g1:(1:Int)≤(m:Int):=by omega
   have g4:((m:Int)-1).toNat=m-1:=by omega
   have g5:(m:Int)-1<(m:Int):=by omega
   have hmI:(m:Int)≤35184372088832:=by omega
   clear hbt
   go_wp2_with fail
   clear hcb;refine (lz_any bt v ht0 ht1).mono ?_;rintro e w2 ⟨⟨s,rfl,hs⟩,rfl⟩;have HS:=lH hs;have hs31:=hs.le;clear hs ht0 ht1 g1 g4 g5
   go_wp2_with fail
   have HX1D:Hid (RdW v.drew v.drew.heap.size A n (dig x)):=lH HX1.o;have HY1D:Hid (RdW v.drew v.drew.heap.size (some ⟨bb,bo,none⟩) m (dig y)):=lH HY1.o;have hm1I:(m:Int)≤(m:Int)+1:=by omega
   refine wp_region_last (S:=fun w'=>Below v.heap.size v w') 10 _ (by kernel_rfl) (by kernel_rfl) rfl (below_drew bR) (fun hHeld=>?_);simp only [zK_,List.take_zero];refine tkH 0 rfl ?_;refine tkH 1 rfl ?_;refine tkH 3 rfl ?_;refine tkH 4 rfl ?_;refine tkH 6 rfl ?_;refine tkH 7 rfl ?_;refine stepH 2 (by kernel_rfl) rfl (fun K hK=>?_);go_simp;refine (shW A n c s (dig x) v.drew HX1D.o (wd_dig _) hn hs31).mono ?_;rw [wv_dig];rintro e w3 ⟨hb3,gu,us,rfl,hgu,hu,hud,huv,hul⟩;have HB3:=lH ((below_drew (Below.refl v.heap.size v)).trans hb3);have HU3:=lH hu;have HUP:Hid (Wd us∧wv us=x*2^s∧us.length=n+1):=lH ⟨hud,huv,hul⟩;have hgu2:v.heap.size≤gu:=hgu;have HY3:=lH (HY1D.o.up hb3);clear hb3 hu hud huv hul hgu;go_simp;refine hK.out _ _ ?_ (fun hHeld=>?_)
   ·exact HB3.o
   clear hK K
   try simp only [Act.put,sA_,sB_,sC_]
   refine stepH 5 (by kernel_rfl) rfl (fun K hK=>?_);go_simp;refine (shW (some ⟨bb,bo,none⟩) m d s (dig y) w3 HY3.o (wd_dig _) hm hs31).mono ?_;rw [wv_dig];rintro e w4 ⟨hb4,gv,vs,rfl,hgv,hv4,hvd,hvv,hvl⟩;have HB4:=lH (HB3.o.tm hb4);have HV4:=lH hv4;have HVP:Hid (Wd vs∧wv vs=y*2^s∧vs.length=m+1):=lH ⟨hvd,hvv,hvl⟩;have hguv:gu<gv:=zJ_ HU3.o.lt hgv;have HU4:=lH (HU3.o.bl hb4);clear hb4 hv4 hvd hvv hvl hgv;go_simp;refine hK.out _ _ ?_ (fun hHeld=>?_)
   ·exact HB4.o
   clear hK K
   try simp only [Act.put,sA_,sB_,sC_]
   refine tkH 8 rfl ?_;refine tkH 9 rfl ?_;refine wpAnyH_done (by kernel_rfl) ?_ _;refine lastQ_go (by rfl) ?_;go_simp;have hmn:m≤n:=by rw [←HXL.o,←HYL.o];exact dlen_mono HLE.o
   have HNV:Hid (wv (vs.take m)=y*2^s∧2147483648≤(vs.take m).getD (m-1) 0):=lH (by
    have hlz:=HS.o;have h:=norm_div (n:=m) (by omega) (wd_dig y) HYL.o HVP.o.1 HVP.o.2.2 (by rw [wv_dig];exact HVP.o.2.1) (by rw [HBT.o];exact hlz.lo) (by rw [HBT.o];exact hlz.hi) hlz.le;rwa [wv_dig] at h)
   obtain ⟨k,hk⟩:∃ k,n=k+m:=⟨n-m,by omega⟩;subst hk;have hmk:∀ w:World,(Instr.makeSlice 111 (.int .i64 ((k:Int)+1)) (.int .i64 ((k:Int)+1))).run Tryz.prog w=.ok (.slice (some ⟨w.heap.size,0,none⟩) (k+1) (k+1)) (w.alloc (.cells (u32s (List.replicate (k+1) 0)).toArray 216)):=fun w=>make_u32 (k+1) (by omega) w;have HKQ:=lH ((Below.refl w4.heap.size w4).alloc lR (.cells (u32s (List.replicate (k+1) 0)).toArray 216));have HQ0:=lH (Blk.new w4 216 (u32s (List.replicate (k+1) 0)).toArray)
   go_wp2_with fail
   clear hmk;obtain ⟨vm,hvm⟩:∃ l,vs.take m=l:=⟨_,rfl⟩;have HVM:=lH hvm;have HVL:Hid (vm.length=m):=lH (by rw [←hvm,zF_,HVP.o.2.2];omega);have HVW:Hid (Wd vm):=lH (by rw [←hvm];exact HVP.o.1.take m);have HVT:Hid (∀ i,i<m→vs.getD i 0=vm.getD i 0):=lH (fun i hi=>by
    rw [←hvm,zD_,zD_,List.getElem?_take_of_lt hi])
   rw [hvm] at HNV;clear hvm;have HUL:Hid (us.length=k+m+1):=lH HUP.o.2.2;have HS0:Hid (Steps (x*2^s) us vm (List.replicate (k+1) 0) m (k+1)):=lH (steps_start (a:=dig x) (wv_dig x) (wd_dig x) HXL.o (by omega) HUP.o.1 (wd_zeros _) HUP.o.2.1 hs31 HVL.o HNV.o.2 (zf_zeros _ _));have HV1:Hid (2147483648≤vm.getD (m-1) 0):=lH HNV.o.2;have HB5:=lH (HB4.o.tm HKQ.o);have HU5:=lH (HU4.o.bl HKQ.o);have HV5:=lH (HV4.o.bl HKQ.o);have hgvq:gv<w4.heap.size:=HV4.o.lt;have hgb:v.heap.size≤gu:=hgu2;have hgbq:v.heap.size≤w4.heap.size:=by omega
   have hnv:gv≠gu:=by omega
   have hnq:w4.heap.size≠gu:=by omega
   have hnqv:gv≠w4.heap.size:=by omega
   have hnqu:gu≠w4.heap.size:=by omega
   generalize w4.alloc (.cells (u32s (List.replicate (k+1) 0)).toArray 216)=W at *;generalize w4.heap.size=gq at *;clear HB3 HU3 HY3 HB4 HU4 HV4 HX1D HY1D hm1I HKQ;clear HX1 HY1
   go_loopw [12] (fun v12 wr=>∃ (j:Nat) (us qs:List Nat),j≤k+1∧v12=.int .i64 ((j:Int)-1)∧Below v.heap.size v wr∧Blk wr gv 216 (u32s vs).toArray∧Blk wr gu 216 (u32s us).toArray∧us.length=k+m+1∧Blk wr gq 216 (u32s qs).toArray∧qs.length=k+1∧Steps (x*2^s) us vm qs m j) (fun v12 _=>(intOf v12+1).toNat)
   case atStart=>exact ⟨k+1,us,_,lR,val_int (by omega),HB5.o,HV5.o,HU5.o,HUL.o,HQ0.o,by simp,HS0.o⟩
   case round=>as_aux_lemma=>
    clear HB5 HV5 HU5 HUL HQ0 HS0 HUP;obtain ⟨j,us,qs,hj,rfl,hb,hv,hu,hul,hq,hql,hst⟩:=hrel;have HB:=lH hb;have HV:=lH hv;have HU:=lH hu;have HUL:=lH hul;have HQ:=lH hq;have HQL:=lH hql;have HST:=lH hst;clear hb hv hu hul hq hql hst
    by_cases h0:j=0
    ·subst h0
     have e:(((0:Nat):Int)-1)=-1:=rfl;rw [e];clear e;have HDD:=lH (div_done HST.o HNV.o.1 hy0);have hyB:y<BB m:=by have:=lt_dlen y;rwa [HYL.o] at this
     have HUZ:Hid (wv us / 2^s<BB m):=lH (Nat.lt_trans HDD.o.2.2 hyB);have HUW:Hid (Wd us):=lH HST.o.ud;have HQW:Hid (Wd qs):=lH HST.o.qd;have hmk2:∀ w:World,(Instr.makeSlice 111 (.int .i64 (m:Int)) (.int .i64 (m:Int))).run Tryz.prog w=.ok (.slice (some ⟨w.heap.size,0,none⟩) m m) (w.alloc (.cells (u32s (List.replicate m 0)).toArray 216)):=fun w=>make_u32 m (by omega) w;have HKR:=lH ((Below.refl wr.heap.size wr).alloc lR (.cells (u32s (List.replicate m 0)).toArray 216));have HR0:=lH (Blk.new wr 216 (u32s (List.replicate m 0)).toArray);have HB6:=lH (HB.o.tm HKR.o);have HU6:=lH (HU.o.bl HKR.o);have HQ6:=lH (HQ.o.bl HKR.o);have hgr1:wr.heap.size≠gu:=by have:=HU.o.lt;omega
     have hgr2:gu≠wr.heap.size:=by have:=HU.o.lt;omega
     have hgr3:gq≠wr.heap.size:=by have:=HQ.o.lt;omega
     have hgr4:v.heap.size≤wr.heap.size:=HB.o.size;clear HST
     go_wp2_with fail
     clear hmk2;generalize wr.alloc (.cells (u32s (List.replicate m 0)).toArray 216)=WR at *;generalize wr.heap.size=gr at *;clear HB HV HU HQ HKR
     go_loopw [250] (fun v250 wr=>∃ (z:Nat) (rs:List Nat),z≤m∧v250=.int .i64 z∧Below v.heap.size v wr∧Blk wr gu 216 (u32s us).toArray∧Blk wr gq 216 (u32s qs).toArray∧Blk wr gr 216 (u32s rs).toArray∧rs.length=m∧Wd rs∧Zf rs z∧wv rs=wv us / 2^s % BB z) (fun v250 _=>m-(intOf v250).toNat)
     case atStart=>exact ⟨0,_,Nat.zero_le _,rfl,HB6.o,HU6.o,HQ6.o,HR0.o,by simp,wd_zeros _,zf_zeros _ _,by rw [wv_zeros,BB_zero,Nat.mod_one]⟩
     case round=>as_aux_lemma=>
      clear HB6 HU6 HQ6 HR0;obtain ⟨z,rs,hz,rfl,hb,hu,hq,hr,hrl,hrw,hrz,hrv⟩:=hrel;have HB:=lH hb;have HU:=lH hu;have HQ:=lH hq;have HR:=lH hr;have HRL:=lH hrl;have HRW:=lH hrw;have HRZ:=lH hrz;have HRV:=lH hrv;have hgrl:=hr.lt;have hgul:=hu.lt;have hfr:=hr.frozen;clear hb hu hq hr hrl hrw hrz hrv
      by_cases hzm:z<m
      ·have hc0:=blkW_cell HU.o (i:=z) (by rw [HUL.o];omega)
       have hc1:=blkW_cell HU.o (i:=z+1) (by rw [HUL.o];omega);have hcr:=blkW_cell HR.o (i:=z) (by rw [HRL.o];omega);have hb0:=HUW.o.getD z;have hb1:=HUW.o.getD (z+1);have HBS:=lH (back_shift HUW.o hs31 hzm (by rw [HRL.o];omega) (by rw [HUL.o];omega) HRZ.o HRV.o);obtain ⟨x0,hx0⟩:∃ a,us.getD z 0=a:=⟨_,rfl⟩;obtain ⟨x1,hx1⟩:∃ a,us.getD (z+1) 0=a:=⟨_,rfl⟩;obtain ⟨x2,hx2⟩:∃ a,rs.getD z 0=a:=⟨_,rfl⟩;rw [hx0] at hc0 hb0;rw [hx1] at hc1 hb1;rw [hx0,hx1] at HBS;rw [hx2] at hcr;have hor:bits BinOp.or IntKind.u64 ((x1:Int)*4294967296) (x0:Int)=((x1*4294967296+x0:Nat):Int):=or_words x1 x0 32 (by omega) hb1 hb0;have hs64:=HBS.o.1;have HB2:=lH HBS.o.2;clear HBS hx0 hx1 hx2;generalize x1*4294967296+x0=sm at *;have HN1:=lN z;have HN2:Hid (m-(z+1)<m-z):=lH (by omega);have HN3:Hid ((sm:Int) / 2^s % 4294967296=((sm / 2^s % 4294967296:Nat):Int)):=lH (by
        rw [Int.natCast_emod,Int.natCast_ediv,Int.natCast_pow];rfl)
       have HRL2:Hid ((rs.set z (sm / 2^s % 4294967296)).length=m):=lH (by rw [zU_];exact HRL.o);have HRW2:Hid (Wd (rs.set z (sm / 2^s % 4294967296))):=lH (HRW.o.set _ (Nat.mod_lt _ (by decide)));have HRZ2:Hid (Zf (rs.set z (sm / 2^s % 4294967296)) (z+1)):=lH HRZ.o.put;have s1:(z:Int)<(m:Int):=by omega
       have s2:IntKind.i64.wrap ((z:Int)+1)=(z:Int)+1:=Go.IntWalk.i64_in _ (by omega);have s3:((z:Int)+1).toNat=z+1:=by omega
       have s4:(z:Int)+1<(k:Int)+(m:Int)+1:=by omega
       have s5:(0:Int)≤(z:Int)+1:=by omega
       have s6:(z:Int)<(k:Int)+(m:Int)+1:=by omega
       go_wp2_with fail
       refine wp_region_last (S:=fun w'=>Below wr.heap.size wr w') 19 _ (by kernel_rfl) (by kernel_rfl) rfl (below_drew bR) (fun hHeld=>?_);simp only [zK_,List.take_zero];refine tkH 0 rfl ?_;refine tkH 1 rfl ?_;refine tkH 2 rfl ?_;refine tkH 3 rfl ?_;refine tkH 4 rfl ?_;refine tkH 5 rfl ?_;refine tkH 6 rfl ?_;refine tkH 7 rfl ?_;refine tkH 8 rfl ?_;refine tkH 9 rfl ?_;refine tkH 10 rfl ?_;refine tkH 11 rfl ?_;refine tkH 12 rfl ?_;refine tkH 13 rfl ?_;refine tkH 14 rfl ?_;refine tkH 15 rfl ?_;refine tkH 16 rfl ?_;refine tkH 17 rfl ?_;refine tkH 18 rfl ?_;refine wpAnyH_done (by kernel_rfl) ?_ _;refine lastQ_go (by rfl) ?_
       go_wp2_with fail
       clear s1 s2 s3 s4 s5 s6;go_roundw
       case rel=>exact ⟨z+1,rs.set z (sm / 2^s % 4294967296),hzm,val_int HN1.o,below_drew (HB.o.setCell hgr4 _),(HU.o.far hgr2 _).drew,(HQ.o.far hgr3 _).drew,(blkW_set HR.o HN3.o).drew,HRL2.o,HRW2.o,HRZ2.o,HB2.o⟩
       case measure=>exact HN2.o
      ·have hze:z=m:=by omega
       subst hze;have HV1:Hid (wv rs=x % y):=lH (by rw [HRV.o,Nat.mod_eq_of_lt HUZ.o];exact HDD.o.2.1)
       go_wp2_with fail
       go_ret2;exact ⟨HB1.o.tm HB.o,_,k+1,k+1,qs,_,z,z,rs,rfl,⟨by have:=rdW_blk HQ.o;rwa [HQL.o] at this,HQW.o,HDD.o.1,lR,by omega⟩,⟨by have:=rdW_blk HR.o;rwa [HRL.o] at this,HRW.o,HV1.o,lR,by omega⟩,by omega,by omega⟩
    ·obtain ⟨i,rfl⟩:∃ i,j=i+1:=⟨j-1,by omega⟩
     have e:(((i+1:Nat):Int)-1)=(i:Int):=by omega
     rw [e];clear e h0;have HIN:Hid (DivIn us vm m i):=lH (steps_in HST.o hm2 HVL.o HVW.o HV1.o (by rw [HUL.o];omega));obtain ⟨u1,hu1⟩:∃ t,us.getD (i+m) 0=t:=⟨_,rfl⟩;obtain ⟨u0,hu0⟩:∃ t,us.getD (i+m-1) 0=t:=⟨_,rfl⟩;obtain ⟨u2,hu2⟩:∃ t,us.getD (i+m-2) 0=t:=⟨_,rfl⟩;obtain ⟨v1,hv1⟩:∃ t,vm.getD (m-1) 0=t:=⟨_,rfl⟩;obtain ⟨v2,hv2⟩:∃ t,vm.getD (m-2) 0=t:=⟨_,rfl⟩;have hcu1:=blkW_cell HU.o (i:=i+m) (by rw [HUL.o];omega);have hcu0:=blkW_cell HU.o (i:=i+m-1) (by rw [HUL.o];omega);have hcv1:=blkW_cell HV.o (i:=m-1) (by rw [HVP.o.2.2];omega);have hbu1:=HIN.o.ud.getD (i+m);have hbu0:=HIN.o.ud.getD (i+m-1);have hbu2:=HIN.o.ud.getD (i+m-2);have hbv1:=HVW.o.getD (m-1);have hbv2:=HVW.o.getD (m-2);have hlv1:=HV1.o;rw [HVT.o _ (by omega),hv1] at hcv1;rw [hu1] at hcu1 hbu1;rw [hu0] at hcu0 hbu0;rw [hu2] at hbu2;rw [hv1] at hbv1 hlv1;rw [hv2] at hbv2
     have HTP:Hid (DivIn.tp us m i=u1*4294967296+u0):=lH (by unfold DivIn.tp;rw [hu1,hu0]);have HU2:=lH hu2;have HVV1:=lH hv1;have HVV2:=lH hv2;clear hu1 hu0 hu2 hv1 hv2;have s1:IntKind.i64.wrap ((i:Int)+(m:Int))=(i:Int)+(m:Int):=Go.IntWalk.i64_in _ (by omega);have s2:IntKind.i64.wrap ((i:Int)+(m:Int)-1)=(i:Int)+(m:Int)-1:=Go.IntWalk.i64_in _ (by omega);have s3:((i:Int)+(m:Int)).toNat=i+m:=by omega
     have s4:((i:Int)+(m:Int)-1).toNat=i+m-1:=by omega
     have s5:(i:Int)+(m:Int)<(k:Int)+(m:Int)+1:=by omega
     have s6:(i:Int)+(m:Int)-1<(k:Int)+(m:Int)+1:=by omega
     have s7:(0:Int)≤(i:Int)+(m:Int):=by omega
     have s8:(0:Int)≤(i:Int)+(m:Int)-1:=by omega
     have s9:(1:Int)≤(i:Int)+(m:Int):=by omega
     have hor:bits BinOp.or IntKind.u64 ((u1:Int)*4294967296) (u0:Int)=((u1*4294967296+u0:Nat):Int):=or_words u1 u0 32 (by omega) hbu1 hbu0;have hgul:gu<wr.heap.size:=HU.o.lt;have hgvl:gv<wr.heap.size:=HV.o.lt
     go_wp2_with fail
     go_cut [13] (fun v13 wc=>v13=.int .u64 ((u1*4294967296+u0:Nat):Int)∧∃ nq,wc=wr.drewN nq)
     case first=>
      go_quiet (fail)
      go_wp2_with fail
      go_meet
      case rel=>exact ⟨rfl,_,rfl⟩
     obtain ⟨rfl,nq1,rfl⟩:=hcut;have hcv1b:(wr.drewN nq1).cell? ⟨gv,m-1,none⟩=some (.int .u32 (v1:Int)):=hcv1;have hgvlb:gv<(wr.drewN nq1).heap.size:=hgvl;clear hcv1 hgvl hgul;have HBx:=lH (below_drewN HB.o nq1);have HVx:=lH (HV.o.drewN nq1);have HUx:=lH (HU.o.drewN nq1);have HQx:=lH (HQ.o.drewN nq1);clear HB HV HU HQ;have HB:=HBx;have HV:=HVx;have HU:=HUx;have HQ:=HQx;clear HBx HVx HUx HQx;generalize wr.drewN nq1=wa at *;have HLT:=lH (DivIn.top_lt HIN.o);rw [HTP.o,HVV1.o] at HLT;have htb:u1*4294967296+u0<18446744073709551616:=by omega
     generalize u1*4294967296+u0=tp at *;clear hcu1 hcu0 s1 s2 s3 s4 s5 s6 s7 s8 s9 hor hbu1 hbu0;have HGS0:=lH (guess_start HIN.o);rw [HTP.o,HVV1.o] at HGS0;have htd:=tdiv_nat tp v1;have htm:=tmod_nat tp v1;have hqb:tp / v1≤tp:=Nat.div_le_self _ _;have hrb:tp % v1<v1:=Nat.mod_lt _ (by omega);generalize hg0:tp / v1=g0 at *;generalize hr0:tp % v1=r0 at *;have hwq:IntKind.u64.wrap (g0:Int)=(g0:Int):=Go.IntWalk.u64_in _ (by omega);have hv10:((v1:Int) == 0)=false:=by simp;omega
     have s1:IntKind.i64.wrap ((m:Int)-1)=(m:Int)-1:=Go.IntWalk.i64_in _ (by omega);have s2:((m:Int)-1).toNat=m-1:=by omega
     have s3:(m:Int)-1<(m:Int):=by omega
     have s4:(1:Int)≤(m:Int):=by omega
     clear hg0 hr0
     go_wp2_with fail
     go_cut [14,15] (fun v14 v15 wc=>v14=.int .u64 (g0:Int)∧v15=.int .u64 (r0:Int)∧∃ nq,wc=wa.drewN nq)
     case first=>
      go_quiet (fail)
      go_wp2_with fail
      go_meet
      case rel=>exact ⟨rfl,rfl,_,rfl⟩
     obtain ⟨rfl,rfl,nq2,rfl⟩:=hcut;clear hcv1b hgvlb;have HBx:=lH (below_drewN HB.o nq2);have HVx:=lH (HV.o.drewN nq2);have HUx:=lH (HU.o.drewN nq2);have HQx:=lH (HQ.o.drewN nq2);clear HB HV HU HQ;have HB:=HBx;have HV:=HVx;have HU:=HUx;have HQ:=HQx;clear HBx HVx HUx HQx;generalize wa.drewN nq2=wb at *;clear htd htm hwq hv10 s1 s2 s3 s4 hqb;have hg064:g0<18446744073709551616:=by
      have h:=HGS0.o.eq;rw [HVV1.o,HTP.o] at h;have:g0*1≤g0*v1:=Nat.mul_le_mul_left _ (by omega);omega
     have hr032:r0<4294967296:=by omega
     clear hrb htb
     go_upto_block 2 with fail
     go_cut [14] (fun v14 wc=>∃ g:Nat,v14=.int .u64 (g:Int)∧GuessOk us vm i g∧∃ nq,wc=wb.drewN nq)
     case first=>
      go_wp2_with fail
      go_loopw [14,15] (fun v14 v15 wr=>∃ g rest:Nat,v14=.int .u64 (g:Int)∧v15=.int .u64 (rest:Int)∧g<18446744073709551616∧rest<4294967296∧Guess us vm m i g rest∧∃ nq,wr=wb.drewN nq) (fun _ v15 _=>4294967296-(intOf v15).toNat)
      case atStart=>exact ⟨g0,r0,rfl,rfl,hg064,hr032,HGS0.o,0,rfl⟩
      case round=>as_aux_lemma=>
       clear HGS0 hg064 hr032;obtain ⟨g,rest,rfl,rfl,hg64,hr32,hG,nq3,rfl⟩:=hrel;have HG:=lH hG;clear hG;have hcu2:=blkW_cell HU.o (i:=i+m-2) (by rw [HUL.o];omega);have hcv1:=blkW_cell HV.o (i:=m-1) (by rw [HVP.o.2.2];omega);have hcv2:=blkW_cell HV.o (i:=m-2) (by rw [HVP.o.2.2];omega);rw [HVT.o _ (by omega),HVV1.o] at hcv1;rw [HVT.o _ (by omega),HVV2.o] at hcv2;rw [HU2.o] at hcu2;have hgul:=HU.o.lt;have hgvl:=HV.o.lt;have s1:IntKind.i64.wrap ((m:Int)-1)=(m:Int)-1:=Go.IntWalk.i64_in _ (by omega);have s2:((m:Int)-1).toNat=m-1:=by omega
       have s3:(m:Int)-1<(m:Int):=by omega
       have s4:(1:Int)≤(m:Int):=by omega
       have s5:IntKind.i64.wrap ((m:Int)-2)=(m:Int)-2:=Go.IntWalk.i64_in _ (by omega);have s6:((m:Int)-2).toNat=m-2:=by omega
       have s7:(m:Int)-2<(m:Int):=by omega
       have s8:(2:Int)≤(m:Int):=by omega
       have s9:IntKind.i64.wrap ((i:Int)+(m:Int))=(i:Int)+(m:Int):=Go.IntWalk.i64_in _ (by omega);have s10:IntKind.i64.wrap ((i:Int)+(m:Int)-2)=(i:Int)+(m:Int)-2:=Go.IntWalk.i64_in _ (by omega);have s11:((i:Int)+(m:Int)-2).toNat=i+m-2:=by omega
       have s12:(i:Int)+(m:Int)-2<(k:Int)+(m:Int)+1:=by omega
       have s13:(0:Int)≤(i:Int)+(m:Int)-2:=by omega
       have s14:(2:Int)≤(i:Int)+(m:Int):=by omega
       by_cases hbig:4294967296≤g
       ·have ta:decide ((4294967296:Int)≤(g:Int))=true:=by simp;omega
        have ta2:(4294967296:Int)≤(g:Int):=by omega
        have HBG:=lH hbig;clear hbig;have hdn:=guess_down HIN.o HG.o (.inl HBG.o);obtain ⟨hg1,hdn2⟩:=hdn;have HN1:Hid ((g:Int)-1=((g-1:Nat):Int)):=lH (by omega);have HN2:Hid ((rest:Int)+(v1:Int)=((rest+v1:Nat):Int)):=lH (by omega);have HN3:Hid (g-1<18446744073709551616):=lH (by omega);rw [HVV1.o] at hdn2;have HG2:=lH hdn2;have HGE:=lH (fun h=>guess_end HIN.o HG2.o (.inr h));have hw:IntKind.u64.wrap ((g:Int)-1)=(g:Int)-1:=Go.IntWalk.u64_in _ (by omega);have hgI:(1:Int)≤(g:Int):=by omega
        clear hdn2
        by_cases hbr:4294967296≤rest+v1
        ·have b1:decide ((4294967296:Int)≤(rest:Int)+(v1:Int))=true:=by simp;omega
         have b2:(4294967296:Int)≤(rest:Int)+(v1:Int):=by omega
         have HBR:=lH hbr;clear hbr
         go_wp2_with fail
         go_quiet (fail)
         go_wp2_with fail
         clear s1 s2 s3 s4 s5 s6 s7 s8 s9 s10 s11 s12 s13 s14;go_meet
         case rel=>exact ⟨g-1,val_int HN1.o,HGE.o HBR.o,_,by first | rfl | exact World.drewN_drewN _ _ _⟩
        ·have b1:decide ((4294967296:Int)≤(rest:Int)+(v1:Int))=false:=by simp;omega
         have b2:¬(4294967296:Int)≤(rest:Int)+(v1:Int):=by omega
         have HN4:Hid (rest+v1<4294967296):=lH (by omega);have HN5:Hid (4294967296-(rest+v1)<4294967296-rest):=lH (by omega)
         go_wp2_with fail
         go_quiet (fail)
         go_wp2_with fail
         clear s1 s2 s3 s4 s5 s6 s7 s8 s9 s10 s11 s12 s13 s14;go_roundw
         case rel=>exact ⟨g-1,rest+v1,val_int HN1.o,val_int HN2.o,HN3.o,HN4.o,HG2.o,_,by first | rfl | exact World.drewN_drewN _ _ _⟩
         case measure=>simp [intOf];omega
       ·have ta:decide ((4294967296:Int)≤(g:Int))=false:=by simp;omega
        have ta2:¬(4294967296:Int)≤(g:Int):=by omega
        have hg32:g<4294967296:=by omega
        have hpr:g*v2≤4294967295*4294967295:=Nat.mul_le_mul (by omega) (by omega);have hmul:IntKind.u64.wrap ((g:Int)*(v2:Int))=((g*v2:Nat):Int):=by rw [←Int.natCast_mul];exact Go.IntWalk.u64_in _ (by omega)
        have hor:bits BinOp.or IntKind.u64 ((rest:Int)*4294967296) (u2:Int)=((rest*4294967296+u2:Nat):Int):=or_words rest u2 32 (by omega) hr32 hbu2;obtain ⟨pr,hpr2⟩:∃ p,g*v2=p:=⟨_,rfl⟩;obtain ⟨sm,hsm⟩:∃ p,rest*4294967296+u2=p:=⟨_,rfl⟩;have HPR:=lH hpr2;have HSM:=lH hsm;rw [hpr2] at hmul;rw [hsm] at hor;clear hpr hpr2 hsm hbig
        by_cases hcmp:sm<pr
        ·have tb:decide (sm<pr)=true:=by simpa using hcmp
         have HCM:Hid (rest*4294967296+us.getD (i+m-2) 0<g*vm.getD (m-2) 0):=lH (by rw [HU2.o,HVV2.o,HPR.o,HSM.o];exact hcmp);clear hcmp;have hdn:=guess_down HIN.o HG.o (.inr HCM.o);obtain ⟨hg1,hdn2⟩:=hdn;have HN1:Hid ((g:Int)-1=((g-1:Nat):Int)):=lH (by omega);have HN2:Hid ((rest:Int)+(v1:Int)=((rest+v1:Nat):Int)):=lH (by omega);have HN3:Hid (g-1<18446744073709551616):=lH (by omega);rw [HVV1.o] at hdn2;have HG2:=lH hdn2;have HGE:=lH (fun h=>guess_end HIN.o HG2.o (.inr h));have hw:IntKind.u64.wrap ((g:Int)-1)=(g:Int)-1:=Go.IntWalk.u64_in _ (by omega);have hgI:(1:Int)≤(g:Int):=by omega
         clear hdn2
         by_cases hbr:4294967296≤rest+v1
         ·have b1:decide ((4294967296:Int)≤(rest:Int)+(v1:Int))=true:=by simp;omega
          have b2:(4294967296:Int)≤(rest:Int)+(v1:Int):=by omega
          have HBR:=lH hbr;clear hbr
          go_wp2_with fail
          go_quiet (fail)
          go_wp2_with fail
          clear s1 s2 s3 s4 s5 s6 s7 s8 s9 s10 s11 s12 s13 s14;go_meet
          case rel=>exact ⟨g-1,val_int HN1.o,HGE.o HBR.o,_,by first | rfl | exact World.drewN_drewN _ _ _⟩
         ·have b1:decide ((4294967296:Int)≤(rest:Int)+(v1:Int))=false:=by simp;omega
          have b2:¬(4294967296:Int)≤(rest:Int)+(v1:Int):=by omega
          have HN4:Hid (rest+v1<4294967296):=lH (by omega);have HN5:Hid (4294967296-(rest+v1)<4294967296-rest):=lH (by omega)
          go_wp2_with fail
          go_quiet (fail)
          go_wp2_with fail
          clear s1 s2 s3 s4 s5 s6 s7 s8 s9 s10 s11 s12 s13 s14;go_roundw
          case rel=>exact ⟨g-1,rest+v1,val_int HN1.o,val_int HN2.o,HN3.o,HN4.o,HG2.o,_,by first | rfl | exact World.drewN_drewN _ _ _⟩
          case measure=>simp [intOf];omega
        ·have tb:decide (sm<pr)=false:=by simpa using hcmp
         have HGE:=lH (guess_end HIN.o HG.o (.inl ⟨hg32,by rw [HU2.o,HVV2.o,HPR.o,HSM.o];omega⟩));clear hcmp
         go_wp2_with fail
         go_quiet (fail)
         go_wp2_with fail
         clear s1 s2 s3 s4 s5 s6 s7 s8 s9 s10 s11 s12 s13 s14;go_meet
         case rel=>exact ⟨g,rfl,HGE.o,_,by first | rfl | exact World.drewN_drewN _ _ _⟩
     obtain ⟨g,rfl,hGO,nq3,rfl⟩:=hcut;have HGO:=lH hGO;have hg32:g<4294967296:=hGO.lt;clear hGO HGS0 hg064 hr032;have HBx:=lH (below_drewN HB.o nq3);have HVx:=lH (HV.o.drewN nq3);have HUx:=lH (HU.o.drewN nq3);have HQx:=lH (HQ.o.drewN nq3);clear HB HV HU HQ;have HB:=HBx;have HV:=HVx;have HU:=HUx;have HQ:=HQx;clear HBx HVx HUx HQx;generalize wb.drewN nq3=wd at *;have HMS:=lH (msub_start (g:=g) HIN.o)
     go_wp2_with fail
     go_loopw [16,17,143] (fun v16 v17 v143 wr=>∃ (t:Nat) (bo:Int) (ca:Nat) (ux:List Nat),t≤m∧v143=.int .i64 t∧v16=.int .i64 bo∧v17=.int .u64 (ca:Int)∧Below v.heap.size v wr∧Blk wr gv 216 (u32s vs).toArray∧Blk wr gu 216 (u32s ux).toArray∧Blk wr gq 216 (u32s qs).toArray∧Msub us ux vm m i t g bo ca) (fun _ _ v143 _=>m-(intOf v143).toNat)
     case atStart=>exact ⟨0,0,0,us,by omega,rfl,rfl,rfl,HB.o,HV.o,HU.o,HQ.o,HMS.o⟩
     case round=>as_aux_lemma=>
      clear HB HV HU HQ HMS;obtain ⟨t,bo,ca,ux,ht,rfl,rfl,rfl,hb,hv,hu,hq,hms⟩:=hrel;have HB:=lH hb;have HV:=lH hv;have HU:=lH hu;have HQ:=lH hq;have HMS:=lH hms;have hbo1:=hms.b1;have hbo2:=hms.b2;have hca:=hms.c1;have hfu:=hu.frozen;have hgul:=hu.lt;have hgvl:=hv.lt;have HUX:Hid (ux.length=k+m+1):=lH (by rw [hms.ul];exact HUL.o);clear hb hv hu hq hms
      by_cases htm:t<m
      ·have hcu:=blkW_cell HU.o (i:=i+t) (by rw [HUX.o];omega)
       have hcv:=blkW_cell HV.o (i:=t) (by rw [HVP.o.2.2];omega);have hbu:=HMS.o.ud.getD (i+t);have hbv:=HVW.o.getD t;have HST2:=lH (msub_step HVW.o HVL.o (by rw [HUX.o];omega) hg32 htm HMS.o);obtain ⟨xv,hxv⟩:∃ z,vm.getD t 0=z:=⟨_,rfl⟩;obtain ⟨xu,hxu⟩:∃ z,ux.getD (i+t) 0=z:=⟨_,rfl⟩;rw [HVT.o _ htm,hxv] at hcv;rw [hxu] at hcu hbu;rw [hxv] at hbv;rw [hxv,hxu] at HST2;clear hxv hxu;have hpr:g*xv≤4294967295*4294967295:=Nat.mul_le_mul (by omega) (by omega);have hmul:IntKind.u64.wrap ((g:Int)*(xv:Int))=((g*xv:Nat):Int):=by rw [←Int.natCast_mul];exact Go.IntWalk.u64_in _ (by omega)
       have hs64:=HST2.o.1;have HMN:=lH HST2.o.2;clear HST2;generalize g*xv=pr at *;have hsum:(ca:Int)+(pr:Int)=((ca+pr:Nat):Int):=(Int.natCast_add _ _).symm;have hand:bits BinOp.and IntKind.u64 ((ca+pr:Nat):Int) 4294967295=(((ca+pr) % 4294967296:Nat):Int):=and_mask _ hs64;have hdv:((ca+pr:Nat):Int) / 4294967296=(((ca+pr) / 4294967296:Nat):Int):=by omega
       have hlo:(ca+pr) % 4294967296<4294967296:=Nat.mod_lt _ (by decide);have hhi:(ca+pr) / 4294967296<4294967296:=by omega
       have hsb:ca+pr<18446744073709551616:=hs64;generalize (ca+pr) % 4294967296=lo at *;generalize (ca+pr) / 4294967296=hi at *;generalize ca+pr=sm at *;have HN1:Hid (bo+((xu:Int)-(lo:Int))=bo+(xu:Int)-(lo:Int)):=lH (by omega);have HN2:=lN t;have HN3:Hid (m-(t+1)<m-t):=lH (by omega);have HN4:Hid (t+1≤m):=lH htm;have HN5:Hid ((bo+((xu:Int)-(lo:Int))) % 4294967296=(((bo+(xu:Int)-(lo:Int)) % 4294967296).toNat:Int)):=lH (by omega);have s1:(t:Int)<(m:Int):=by omega
       have s2:IntKind.i64.wrap ((t:Int)+(i:Int))=(t:Int)+(i:Int):=Go.IntWalk.i64_in _ (by omega);have s3:((t:Int)+(i:Int)).toNat=i+t:=by omega
       have s4:(t:Int)+(i:Int)<(k:Int)+(m:Int)+1:=by omega
       have s5:(0:Int)≤(t:Int)+(i:Int):=by omega
       go_wp2_with fail
       clear s1 s2 s3 s4 s5;go_roundw
       case rel=>exact ⟨t+1,_,hi,_,HN4.o,val_int HN2.o,val_int (by rw [HN1.o]),rfl,HB.o.setCell hgb _,HV.o.far hnv _,blkW_set HU.o HN5.o,HQ.o.far hnq _,HMN.o⟩
       case measure=>exact HN3.o
      ·have hte:t=m:=by omega
       subst hte;have hcu:=blkW_cell HU.o (i:=i+t) (by rw [HUX.o];omega);have hbu:=HMS.o.ud.getD (i+t);have HME:=lH (msub_end HIN.o HGO.o HMS.o);obtain ⟨xu,hxu⟩:∃ z,ux.getD (i+t) 0=z:=⟨_,rfl⟩;rw [hxu] at hcu hbu HME;clear hxu;obtain ⟨bot,hbot⟩:∃ z:Int,bo+(xu:Int)-(ca:Int)=z:=⟨_,rfl⟩;rw [hbot] at HME;have HBO:Hid (bo+((xu:Int)-(ca:Int))=bot):=lH (by omega);have hbl1:-4294967296≤bot:=by omega
       have hbl2:bot<4294967296:=by omega
       have hbo3:bo+((xu:Int)-(ca:Int))=bot:=HBO.o;clear hbot;have s2:IntKind.i64.wrap ((i:Int)+(t:Int))=(i:Int)+(t:Int):=Go.IntWalk.i64_in _ (by omega);have s3:((i:Int)+(t:Int)).toNat=i+t:=by omega
       have s4:(i:Int)+(t:Int)<(k:Int)+(t:Int)+1:=by omega
       have s5:(0:Int)≤(i:Int)+(t:Int):=by omega
       go_upto_if 200 with fail
       clear s2 s3 s4 s5 hcu hfu hgul hgvl hbo3
       go_cut [14] (fun v14 wc=>∃ (g2:Nat) (uy:List Nat),v14=.int .u64 (g2:Int)∧Below v.heap.size v wc∧Blk wc gv 216 (u32s vs).toArray∧Blk wc gu 216 (u32s uy).toArray∧Blk wc gq 216 (u32s qs).toArray∧uy.length=k+t+1∧Wd uy∧wv uy+g2*(wv vm*BB i)=wv us∧wv us<(g2+1)*(wv vm*BB i)∧g2<4294967296)
       case first=>
        by_cases hneg:0≤bot
        ·obtain ⟨e1,e2⟩:=HME.o.1 hneg
         have HS1:Hid (bot % 4294967296=(bot.toNat:Int)):=lH (by omega);have HW1:Hid (Wd (ux.set (i+t) bot.toNat)):=lH (HMS.o.ud.set _ (by omega));have HL1:Hid ((ux.set (i+t) bot.toNat).length=k+t+1):=lH (by rw [zU_];exact HUX.o);have HE2:=lH e2;clear e1 e2
         go_wp2_with fail
         go_meet
         case rel=>exact ⟨g,_,rfl,HB.o.setCell hgb _,HV.o.far hnv _,blkW_set HU.o HS1.o,HQ.o.far hnq _,HL1.o,HW1.o,HE2.o,HGO.o.up,HGO.o.lt⟩
        ·obtain ⟨e1,e2,e3⟩:=HME.o.2 (by omega)
         have hnegb:bot<0:=by omega
         obtain ⟨nw1,nw2⟩:=neg_word hbl1 hnegb;obtain ⟨nw,hnw⟩:∃ z,(bot+4294967296).toNat=z:=⟨_,rfl⟩;rw [hnw] at nw1 nw2 e2;have HS1:=lH nw1;have HBK:=lH (back_start HMS.o nw2);clear nw1 nw2 hnw HME;have HL1:Hid ((ux.set (i+t) nw).length=us.length):=lH (by rw [zU_,HUX.o,HUL.o]);have HE2:=lH e2;have HE3:=lH e3;have hg1:1≤g:=pos_of_lt_mul e3;clear e1 e2 e3 hneg;have hgI:(1:Int)≤(g:Int):=Int.ofNat_le.2 hg1;have HGM:Hid ((g:Int)-1=((g-1:Nat):Int)):=lH (Int.ofNat_sub hg1).symm;have HGL:Hid (g-1<4294967296):=lH (zT_ (Nat.sub_le _ _) hg32);have HU2':=lH (blkW_set (i:=i+t) HU.o HS1.o);have HB2':=lH (HB.o.setCell (p:=⟨gu,i+t,none⟩) hgb (.int .u32 (bot % 4294967296)));have HV2':=lH (HV.o.far (p:=⟨gu,i+t,none⟩) hnv (.int .u32 (bot % 4294967296)));have HQ2':=lH (HQ.o.far (p:=⟨gu,i+t,none⟩) hnq (.int .u32 (bot % 4294967296)))
         have hw:IntKind.u64.wrap ((g:Int)-1)=(g:Int)-1:=u64_pred hg1 hg32;clear HB HV HU HQ HMS HUX;obtain ⟨uz,huz⟩:∃ l,ux.set (i+t) nw=l:=⟨_,rfl⟩;rw [huz] at HBK HL1 HE2 HU2';clear huz HS1;generalize bot % 4294967296=bm at *;generalize wr.setCell ⟨gu,i+t,none⟩ (.int .u32 bm)=wz at *
         go_wp2_with fail
         clear hw
         go_loopw [19,204] (fun v19 v204 wr=>∃ (z cc:Nat) (uy:List Nat),z≤t∧v204=.int .i64 z∧v19=.int .u64 (cc:Int)∧Below v.heap.size v wr∧Blk wr gv 216 (u32s vs).toArray∧Blk wr gu 216 (u32s uy).toArray∧Blk wr gq 216 (u32s qs).toArray∧Back uz uy vm t i z cc) (fun _ v204 _=>t-(intOf v204).toNat)
         case atStart=>exact ⟨0,0,uz,Nat.zero_le _,rfl,rfl,HB2'.o,HV2'.o,HU2'.o,HQ2'.o,HBK.o⟩
         case round=>as_aux_lemma=>
          clear HB2' HV2' HU2' HQ2' HBK;obtain ⟨z,cc,uy,hz,rfl,rfl,hb,hv,hu,hq,hbk⟩:=hrel;have HB:=lH hb;have HV:=lH hv;have HU:=lH hu;have HQ:=lH hq;have HBK:=lH hbk;have hcc:=hbk.c1;have hfu:=hu.frozen;have hgul:=hu.lt;have hgvl:=hv.lt;have HUY:Hid (uy.length=k+t+1):=lH (by rw [hbk.ul,HL1.o,HUL.o]);clear hb hv hu hq hbk
          by_cases hzt:z<t
          ·have hcu:=blkW_cell HU.o (i:=i+z) (by rw [HUY.o];omega)
           have hcv:=blkW_cell HV.o (i:=z) (by rw [HVP.o.2.2];omega);have hbu:=HBK.o.ud.getD (i+z);have hbv:=HVW.o.getD z;have HNX:=lH (back_step HVW.o (by rw [HUY.o];omega) hzt HBK.o);obtain ⟨xv,hxv⟩:∃ a,vm.getD z 0=a:=⟨_,rfl⟩;obtain ⟨xw,hxw⟩:∃ a,uy.getD (i+z) 0=a:=⟨_,rfl⟩;rw [HVT.o _ hzt,hxv] at hcv;rw [hxw] at hcu hbu;rw [hxv] at hbv;rw [hxv,hxw] at HNX;clear hxv hxw;have HN1:=lN z;have HN2:Hid (t-(z+1)<t-z):=lH (by omega);have HN3:Hid (((cc:Int)+((xw:Int)+(xv:Int))) / 4294967296=(((cc+xw+xv) / 4294967296:Nat):Int)):=lH (by omega);have HN4:Hid (((cc:Int)+((xw:Int)+(xv:Int))) % 4294967296=(((cc+xw+xv) % 4294967296:Nat):Int)):=lH (by omega);have s1:(z:Int)<(t:Int):=by omega
           have s2:IntKind.i64.wrap ((z:Int)+(i:Int))=(z:Int)+(i:Int):=Go.IntWalk.i64_in _ (by omega);have s3:((z:Int)+(i:Int)).toNat=i+z:=by omega
           have s4:(z:Int)+(i:Int)<(k:Int)+(t:Int)+1:=by omega
           have s5:(0:Int)≤(z:Int)+(i:Int):=by omega
           have hsum2:IntKind.u64.wrap ((xw:Int)+(xv:Int))=(xw:Int)+(xv:Int):=Go.IntWalk.u64_in _ (by omega);have hsum3:IntKind.u64.wrap ((cc:Int)+((xw:Int)+(xv:Int)))=(cc:Int)+((xw:Int)+(xv:Int)):=Go.IntWalk.u64_in _ (by omega)
           go_wp2_with fail
           go_quiet (fail)
           go_wp2_with fail
           clear s1 s2 s3 s4 s5 hsum2 hsum3;go_roundw
           case rel=>exact ⟨z+1,_,_,hzt,val_int HN1.o,val_int HN3.o,below_drewN (HB.o.setCell hgb _) _,(HV.o.far hnv _).drewN _,(blkW_set HU.o HN4.o).drewN _,(HQ.o.far hnq _).drewN _,HNX.o⟩
           case measure=>exact HN2.o
          ·have hze:z=t:=by omega
           subst hze;have hcu:=blkW_cell HU.o (i:=i+z) (by rw [HUY.o];omega);have hbu:=HBK.o.ud.getD (i+z);obtain ⟨xw,hxw⟩:∃ a,uy.getD (i+z) 0=a:=⟨_,rfl⟩;have HBE:=lH (back_fin HIN.o HGO.o HL1.o HE2.o HE3.o HBK.o hxw HUY.o);rw [hxw] at hcu hbu;clear hxw;have HN4:=lH (cast_mod2 xw cc);have s2:IntKind.i64.wrap ((i:Int)+(z:Int))=(i:Int)+(z:Int):=Go.IntWalk.i64_in _ (by omega);have s3:((i:Int)+(z:Int)).toNat=i+z:=by omega
           have s4:(i:Int)+(z:Int)<(k:Int)+(z:Int)+1:=by omega
           have s5:(0:Int)≤(i:Int)+(z:Int):=by omega
           have hccI:(cc:Int) % 4294967296=(cc:Int):=by omega
           have hw2:IntKind.u32.wrap ((xw:Int)+(cc:Int))=((xw:Int)+(cc:Int)) % 4294967296:=u32_wrap _
           go_wp2_with fail
           clear s2 s3 s4 s5 hccI hw2;go_meet
           case rel=>exact ⟨g-1,_,val_int HGM.o,HB.o.setCell hgb _,HV.o.far hnv _,blkW_set HU.o HN4.o,HQ.o.far hnq _,HBE.o.1.1,HBE.o.1.2,HBE.o.2.1,HBE.o.2.2,HGL.o⟩
       clear HB HV HU HQ HMS HUX HME HGO hg32;obtain ⟨g2,uy,rfl,hb,hv,hu,hq,huyl,huyw,heq,hlt,hg32⟩:=hcut;have HB:=lH hb;have HV:=lH hv;have HU:=lH hu;have HQ:=lH hq;have HUYL:=lH huyl;have HNXT:=lH (steps_next HST.o (by rw [HQL.o];omega) huyw hg32 heq hlt);have HQL2:Hid ((qs.set i g2).length=k+1):=lH (by rw [zU_];exact HQL.o);have hfq:=hq.frozen;have hgql:=hq.lt;have hcq:=blkW_cell hq (i:=i) (by rw [HQL.o];omega);obtain ⟨zq,hzq⟩:∃ a,qs.getD i 0=a:=⟨_,rfl⟩;rw [hzq] at hcq;have HN1:Hid (i≤k+1):=lH (by omega);have HN2:Hid ((intOf (Value.int .i64 ((i:Int)-1))+1).toNat<(intOf (Value.int .i64 (i:Int))+1).toNat):=lH (by simp [intOf]);have hikI:(i:Int)<(k:Int)+1:=by omega
       have hgm:(g2:Int) % 4294967296=(g2:Int):=by omega
       clear hb hv hu hq huyl huyw heq hlt hzq
       go_wp2_with fail
       go_roundw
       case rel=>exact ⟨i,uy,qs.set i g2,HN1.o,rfl,HB.o.setCell hgbq _,HV.o.far hnqv _,HU.o.far hnqu _,HUYL.o,blkW_set HQ.o rfl,HQL2.o,HNXT.o⟩
       case measure=>exact HN2.o
def SlQ (l:List Nat):Value→World→Prop:=fun v w=>∃ A n c,v=.slice A n c∧RdW w w.heap.size A n l∧n≤c∧c≤9223372036854775807
theorem SlQ.up {l:List Nat} {v:Value} {w w':World} (h:SlQ l v w) (hb:Below w.heap.size w w'):SlQ l v w':=by
 obtain ⟨A,n,c,e,h1,h2⟩:=h;exact ⟨A,n,c,e,h1.up hb,h2⟩
def LgQ (z:Int):Value→World→Prop:=fun v w=>∃ b A n c,v=.agg #[.bool b,.slice A n c]∧LgIs w w.heap.size z b A n c
theorem LgQ.up {z:Int} {v:Value} {w w':World} (h:LgQ z v w) (hb:Below w.heap.size w w'):LgQ z v w':=by
 obtain ⟨b,A,n,c,e,h1⟩:=h;exact ⟨b,A,n,c,e,h1.up hb⟩
def NewQ (B:Nat) (T:TypeId) (cs:Array Value):Value→World→Prop:=fun v w=>∃ g,v=.pointer (some ⟨g,0,none⟩)∧B≤g∧Blk w g T cs
theorem NewQ.up {B:Nat} {T:TypeId} {cs:Array Value} {v:Value} {w w':World} (h:NewQ B T cs v w) (hb:Below w.heap.size w w'):NewQ B T cs v w':=by
 obtain ⟨g,e,h1,h2⟩:=h;exact ⟨g,e,h1,h2.bl hb⟩
theorem u32_one (l:List Nat):∀ u∈u32s l,u.oneCell'=true:=by
 intro u hu;unfold u32s at hu;obtain ⟨x,_,rfl⟩:=List.mem_map.1 hu;rfl
theorem rdW_own {w:World} {B n:Nat} {v:Value} {l:List Nat} (h:w.ownsRow B 216 1 v n (u32s l)):∃ A c,v=.slice A n c∧RdW w w.heap.size A n l∧n≤c∧c≤9223372036854775807:=by
 rcases h.2 with ⟨h1,h2⟩ | ⟨g,cap,cur,h1,h2,h3,h4,h5,h6,h7⟩
 ·refine ⟨none,0,by rw [h2];exact h1,⟨h.1,fun h0=>by omega⟩,by omega,by omega⟩
 ·refine ⟨_,_,h1,⟨h.1,fun h0=>⟨g,0,rfl,?_,fun j u hu=>?_⟩⟩,h4,by simpa [maxLen] using h5⟩
  ·rcases Nat.lt_or_ge g w.heap.size with hlt | hge
   ·exact hlt
   ·rw [Array.getElem?_eq_none hge] at h3;cases h3
  ·rw [Nat.zero_add,cell_of_row w g j cur 216 (0,0) h3]
   rw [←h7] at hu;have hjl:=(zB_.1 hu).1;rw [List.getElem?_take_of_lt (by rw [zF_] at hjl;omega)] at hu;simpa using hu
theorem cloneW (A:Option Addr) (n c:Nat) (l:List Nat) (w:World) (hr:RdW w w.heap.size A n l) (hn:n≤35184372088833) :
    Calls Tryz.prog 169 #[.slice A n c] w fun e w'=>Below w.heap.size w w'∧∃ A' c',e=.returned (.slice A' n c')∧RdW w' w'.heap.size A' n l∧n≤c'∧c'≤9223372036854775807:=by
 have q22:∀ (w:World) (a:Option Addr) (n c n' c':Nat),(binOp .eql 111 (.slice a n c) (.slice none n' c')).run Tryz.prog w=.ok (.bool a.isNone) w:=fun w a n c n' c'=>Lib.run_eql_slice_nil w _ _ a n c n' c' Tryz.underlying111;cases A with
 | none=>
  have h0:n=0:=by
   refine Nat.eq_zero_of_not_pos fun h=>?_;obtain ⟨b,off,e,_⟩:=hr.form h;cases e
  subst h0;have hl:l=[]:=List.eq_nil_of_length_eq_zero hr.len;subst hl;go_enter Tryz.func169,Tryz.ntmps169
  go_wp2_with fail
  go_ret;exact ⟨bR,none,0,rfl,rdW_nil _ _ _,lR,by decide⟩
 | some ad=>
  obtain ⟨i0,hi0,hz0,hz1,hz2⟩:=info_parts info_u32;have HL:=lH hr.len;have HC:Hid (∀ j u,(u32s l)[j]?=some u→w.cell? (ad.add j)=some u):=lH fun j u hu=>by
   have hj:=(zB_.1 hu).1;have hn0:0<n:=by have:=hr.len;unfold u32s at hj;rw [zG_] at hj;omega
   obtain ⟨b,off,e,hlt,hc⟩:=hr.2 hn0;injection e with e;subst e;have:=hc j u hu;unfold Addr.add
   by_cases hj0:j=0
   ·subst hj0;simpa using this
   ·simpa [hj0] using this
  have HN:Hid ((u32s l).length=n*1):=lH hr.1;clear hr;go_enter Tryz.func169,Tryz.ntmps169
  go_wp2_with (at_builtin;refine wpList_append_own_wide _ rfl _ _ 111 rfl w.heap.size 216 i0 _ 1 4 Tryz.underlying111 hi0 hz0 hz1 hz2 rfl (by omega) _ _ _ rfl (own_nil _ _ _) ad n c (u32s l) rfl ?qc1 ?qc2 (u32_one l) ?qc4 ?qc5 ?qc6 ?_)
  case qc1=>exact HN.o
  case qc2=>exact fun j u hj=>Lib.cell?_alloc_some _ (HC.o j u hj)
  case qc4=>simp only [maxLen];omega
  case qc5=>omega
  case qc6=>simp
  intro v' w1 hown hgrow hnil
  go_wp2
  go_ret;obtain ⟨A',c',e,h1,h2,h3⟩:=rdW_own hown;subst e;exact ⟨((Below.refl _ w).alloc lR _).grown hgrow (by simp) (by intro k hk;simp [Value.ownBlock] at hk;omega),A',c',rfl,h1,h2,h3⟩
def DmP (y z:Int) (w:World) (e:Ending) (w':World):Prop:=Below w.heap.size w w'∧∃ b A n c b2 B m d,e=.returned (.tuple #[.agg #[.bool b,.slice A n c],.agg #[.bool b2,.slice B m d]])∧LgIs w' w'.heap.size y b A n c∧LgIs w' w'.heap.size z b2 B m d
theorem dm_any (x y:Nat) (b1:Bool) (A:Option Addr) (n c:Nat) (b2:Bool) (B:Option Addr) (m d:Nat) (w:World) (h1:LgIs w w.heap.size (x:Int) b1 A n c) (h2:LgIs w w.heap.size (y:Int) b2 B m d) (hy0:0<y) (hn:n≤35184372088832) (hm:m≤35184372088832) :
    Calls Tryz.prog 146 #[.agg #[.bool b1,.slice A n c],.agg #[.bool b2,.slice B m d]] w (DmP ((x / y:Nat):Int) ((x % y:Nat):Int) w):=by
 have hb1:b1=false:=by rw [h1.eb];simp
 subst hb1;have HB0:Hid (Below w.heap.size w ((((w.alloc (.cells #[.bool false,.slice A n c] 113)).alloc (.cells #[.bool b2,.slice B m d] 113)).alloc (.cells #[.bool false,.slice none 0 0] 113)).alloc (.cells #[.bool false,.slice none 0 0] 113))):=lH ((((bA).alloc (by simp) _).alloc (by simp;omega) _).alloc (by simp;omega) _);have HX1:Hid (Blk ((((w.alloc (.cells #[.bool false,.slice A n c] 113)).alloc (.cells #[.bool b2,.slice B m d] 113)).alloc (.cells #[.bool false,.slice none 0 0] 113)).alloc (.cells #[.bool false,.slice none 0 0] 113)) w.heap.size 113 #[.bool false,.slice A n c]):=lH ((((Blk.new w _ _).alloc _).alloc _).alloc _)
 have HX2:Hid (Blk ((((w.alloc (.cells #[.bool false,.slice A n c] 113)).alloc (.cells #[.bool b2,.slice B m d] 113)).alloc (.cells #[.bool false,.slice none 0 0] 113)).alloc (.cells #[.bool false,.slice none 0 0] 113)) (w.heap.size+1) 113 #[.bool b2,.slice B m d]):=lH (((Blk.new_ (by simp)).alloc _).alloc _);have HR0:Hid (Blk ((((w.alloc (.cells #[.bool false,.slice A n c] 113)).alloc (.cells #[.bool b2,.slice B m d] 113)).alloc (.cells #[.bool false,.slice none 0 0] 113)).alloc (.cells #[.bool false,.slice none 0 0] 113)) (w.heap.size+1+1) 113 #[.bool false,.slice none 0 0]):=lH ((Blk.new_ (by simp)).alloc _)
 have HR1:Hid (Blk ((((w.alloc (.cells #[.bool false,.slice A n c] 113)).alloc (.cells #[.bool b2,.slice B m d] 113)).alloc (.cells #[.bool false,.slice none 0 0] 113)).alloc (.cells #[.bool false,.slice none 0 0] 113)) (w.heap.size+1+1+1) 113 #[.bool false,.slice none 0 0]):=lH (Blk.new_ (by simp));have HD1:Hid (RdW ((((w.alloc (.cells #[.bool false,.slice A n c] 113)).alloc (.cells #[.bool b2,.slice B m d] 113)).alloc (.cells #[.bool false,.slice none 0 0] 113)).alloc (.cells #[.bool false,.slice none 0 0] 113)) (((((w.alloc (.cells #[.bool false,.slice A n c] 113)).alloc (.cells #[.bool b2,.slice B m d] 113)).alloc (.cells #[.bool false,.slice none 0 0] 113)).alloc (.cells #[.bool false,.slice none 0 0] 113))).heap.size A n (dig x)):=lH (h1.up HB0.o).rd
 have HD2:Hid (RdW ((((w.alloc (.cells #[.bool false,.slice A n c] 113)).alloc (.cells #[.bool b2,.slice B m d] 113)).alloc (.cells #[.bool false,.slice none 0 0] 113)).alloc (.cells #[.bool false,.slice none 0 0] 113)) (((((w.alloc (.cells #[.bool false,.slice A n c] 113)).alloc (.cells #[.bool b2,.slice B m d] 113)).alloc (.cells #[.bool false,.slice none 0 0] 113)).alloc (.cells #[.bool false,.slice none 0 0] 113))).heap.size B m (dig y)):=lH (h2.up HB0.o).rd;have hnc:=h1.nc;have hcm:=h1.cm;clear h1 h2;go_enter Tryz.func146,Tryz.ntmps146
 go_wp2_with fail
 generalize ((((w.alloc (.cells #[.bool false,.slice A n c] 113)).alloc (.cells #[.bool b2,.slice B m d] 113)).alloc (.cells #[.bool false,.slice none 0 0] 113)).alloc (.cells #[.bool false,.slice none 0 0] 113))=V at *;have p0:=HX1.o.cell 0;have p1:=HX1.o.cell 1;have q1:=HX2.o.cell 1;have pl:=HX1.o.lt;have ql:=HX2.o.lt
 go_wp2_with fail
 refine (divW_any A n c B m d x y V HD1.o HD2.o hy0 hnc hcm hn hm).mono ?_;rintro e W ⟨hb1,Aq,nq,cq,lq,Ar,nr,cr,lr,rfl,⟨hq1,hq2,hq3,hq4,hq5⟩,⟨hr1,hr2,hr3,hr4,hr5⟩,HQRn,HRRn⟩;have HB1:=lH (HB0.o.tm hb1);have HX1b:=lH (HX1.o.bl hb1);have HX2b:=lH (HX2.o.bl hb1);have HR0b:=lH (HR0.o.bl hb1);have HR1b:=lH (HR1.o.bl hb1);have HQR:=lH hq1;have HQD:=lH hq2;have HQV:Hid (sgn false (wv lq)=((x / y:Nat):Int)):=lH (by rw [hq3];rfl);have HRR:=lH hr1;have HRD:=lH hr2;have HRV:Hid (sgn false (wv lr)=((x % y:Nat):Int)):=lH (by rw [hr3];rfl);have hgs:w.heap.size≤V.heap.size:=HB0.o.size;clear hb1 hq1 hq2 hq3 hq4 hq5 hr1 hr2 hr3 hr4 hr5 p0 p1 q1 pl ql HX1 HX2 HR0 HR1 HD1 HD2;have hgs1:w.heap.size≤W.heap.size:=HB1.o.size;clear HB0 hgs;have p0:=HX1b.o.cell 0;have pl:=HX1b.o.lt
 go_wp2_with fail
 refine wp_region_last2 (S:=fun w'=>Below W.heap.size W w') 12 _ _ (by kernel_rfl) (by kernel_rfl) (by kernel_rfl) rfl rfl (below_drew bR) (fun hHeld=>?_);simp only [zK_,List.take_zero];refine tkH 0 rfl ?_;refine tkH 1 rfl ?_;refine tkH 2 rfl ?_;refine tkH 5 rfl ?_;refine tkH 6 rfl ?_;refine tkH 7 rfl ?_
 refine relyH (C:=fun s w'=>Below W.heap.size W w'∧Sep 10 11 s w') (G:=fun w' w''=>Below w'.heap.size w' w'') [(3,SlQ lq),(4,LgQ ((x / y:Nat):Int)),(8,SlQ lr),(9,LgQ ((x % y:Nat):Int)),(10,NewQ W.heap.size 113 #[.bool false,.slice none 0 0]),(11,NewQ W.heap.size 113 #[.bool false,.slice none 0 0])] rfl (by kernel_rfl) (List.forall_mem_cons.2 ⟨fun _ _ _ h g=>h.up g,List.forall_mem_cons.2 ⟨fun _ _ _ h g=>h.up g,List.forall_mem_cons.2 ⟨fun _ _ _ h g=>h.up g,List.forall_mem_cons.2 ⟨fun _ _ _ h g=>h.up g,List.forall_mem_cons.2 ⟨fun _ _ _ h g=>h.up g,List.forall_mem_cons.2 ⟨fun _ _ _ h g=>h.up g,List.forall_mem_nil _⟩⟩⟩⟩⟩⟩) (fun _ _ h=>h.1) ⟨hHeld,sep_start _ _ _⟩ ?_;refine relyL_cons (i:=3) rfl (fun s w3 hC hn hK=>?_) (fun v3=>?_)
 ·unfold relyOp;go_simp;simp only [relyUpon]
  refine (cloneW Aq nq cq lq w3 (HQR.o.lift hC.1 hC.1.size) (by have:=HQRn;omega)).mono ?_;rintro e w4 ⟨hb4,hq4⟩;obtain ⟨A4,c4,rfl,hr4,hn4,hc4⟩:=hq4;exact ⟨_,rfl,⟨A4,nq,c4,rfl,hr4,hn4,hc4⟩,⟨hC.1.tm hb4,hC.2.other (by decide) (by decide) hb4.size _⟩,hb4⟩
 try simp only [Act.put,sA_,sB_,sC_]
 refine relyL_cons (i:=4) rfl (fun s w3 hC hn hK=>?_) (fun v4=>?_)
 ·have k3:s 3=some v3∧SlQ lq v3 w3:=hK 3 (by kernel_rfl)
  obtain ⟨-,A3,n3,c3,rfl,hr3,hn3,hc3⟩:=k3;unfold relyOp;go_simp;simp only [relyUpon];refine (norm_any false A3 n3 c3 lq w3 hr3 HQD.o hn3 hc3).mono ?_;rw [HQV.o];rintro e w4 ⟨hb4,b4,A4,n4,c4,rfl,h4⟩;exact ⟨_,rfl,⟨b4,A4,n4,c4,rfl,h4⟩,⟨hC.1.tm hb4,hC.2.other (by decide) (by decide) hb4.size _⟩,hb4⟩
 try simp only [Act.put,sA_,sB_,sC_]
 refine relyL_cons (i:=8) rfl (fun s w3 hC hn hK=>?_) (fun v8=>?_)
 ·unfold relyOp;go_simp;simp only [relyUpon]
  refine (cloneW Ar nr cr lr w3 (HRR.o.lift hC.1 hC.1.size) (by have:=HRRn;omega)).mono ?_;rintro e w4 ⟨hb4,hq4⟩;obtain ⟨A4,c4,rfl,hr4,hn4,hc4⟩:=hq4;exact ⟨_,rfl,⟨A4,nr,c4,rfl,hr4,hn4,hc4⟩,⟨hC.1.tm hb4,hC.2.other (by decide) (by decide) hb4.size _⟩,hb4⟩
 try simp only [Act.put,sA_,sB_,sC_]
 refine relyL_cons (i:=9) rfl (fun s w3 hC hn hK=>?_) (fun v9=>?_)
 ·have k8:s 8=some v8∧SlQ lr v8 w3:=hK 8 (by kernel_rfl)
  obtain ⟨-,A3,n3,c3,rfl,hr3,hn3,hc3⟩:=k8;unfold relyOp;go_simp;simp only [relyUpon];refine (norm_any false A3 n3 c3 lr w3 hr3 HRD.o hn3 hc3).mono ?_;rw [HRV.o];rintro e w4 ⟨hb4,b4,A4,n4,c4,rfl,h4⟩;exact ⟨_,rfl,⟨b4,A4,n4,c4,rfl,h4⟩,⟨hC.1.tm hb4,hC.2.other (by decide) (by decide) hb4.size _⟩,hb4⟩
 try simp only [Act.put,sA_,sB_,sC_]
 refine relyL_cons (i:=10) rfl (fun s w3 hC hn hK=>?_) (fun v10=>?_)
 ·unfold relyOp;go_simp;simp only [relyUpon]
  exact ⟨⟨_,rfl,hC.1.size,Blk.new _ _ _⟩,⟨hC.1.alloc hC.1.size _,hC.2.left (by decide) (by simp)⟩,bA⟩
 try simp only [Act.put,sA_,sB_,sC_]
 refine relyL_cons (i:=11) rfl (fun s w3 hC hn hK=>?_) (fun v11=>?_)
 ·unfold relyOp;go_simp;simp only [relyUpon]
  exact ⟨⟨_,rfl,hC.1.size,Blk.new _ _ _⟩,⟨hC.1.alloc hC.1.size _,hC.2.right (by decide) (by simp)⟩,bA⟩
 try simp only [Act.put,sA_,sB_,sC_]
 refine relyL_nil (fun s w5 hC hK=>?_);have k4:s 4=some v4∧LgQ ((x / y:Nat):Int) v4 w5:=hK 4;have k9:s 9=some v9∧LgQ ((x % y:Nat):Int) v9 w5:=hK 9;have k10:s 10=some v10∧NewQ W.heap.size 113 #[.bool false,.slice none 0 0] v10 w5:=hK 10;have k11:s 11=some v11∧NewQ W.heap.size 113 #[.bool false,.slice none 0 0] v11 w5:=hK 11;obtain ⟨-,bq,Aq2,nq2,cq2,rfl,hq2⟩:=k4;obtain ⟨-,br,Ar2,nr2,cr2,rfl,hr2⟩:=k9;obtain ⟨s10,g10,rfl,hg10,HG10⟩:=k10;obtain ⟨s11,g11,rfl,hg11,HG11⟩:=k11;have hne:g10≠g11:=hC.2.2.2 g10 g11 s10 s11;have HB5:=lH hC.1;have HQ2:=lH hq2;have HR2:=lH hr2;have HG10:=lH HG10;have HG11:=lH HG11;clear hC hK s10 s11 hq2 hr2 hHeld;have hbr:br=false:=by rw [HR2.o.eb];exact decide_eq_false (by omega)
 subst hbr;have z0:=HG10.o.cell 0;have z1:=HG10.o.cell 1;have zf:=HG10.o.frozen;have zl:=HG10.o.lt;have HR0c:=lH (HR0b.o.bl HB5.o);have HR1c:=lH (HR1b.o.bl HB5.o);clear p0 pl;have e0:w.heap.size+1+1≠g10:=by have:=HR0b.o.lt;omega
 have e1:w.heap.size+1+1≠g11:=by have:=HR0b.o.lt;omega
 have e2:w.heap.size+1+1+1≠g10:=by have:=HR1b.o.lt;omega
 have e3:w.heap.size+1+1+1≠g11:=by have:=HR1b.o.lt;omega
 have hr0l:w.heap.size+1+1<W.heap.size:=HR0b.o.lt;have hr1l:w.heap.size+1+1+1<W.heap.size:=HR1b.o.lt;refine lastQ_go (by rfl) ?_;go_simp;clear z0 z1 zf zl;generalize hw6:(w5.setCell ⟨g10,0,none⟩ _).setCell ⟨g10,1,none⟩ _=w6;have HG10b:Hid (Blk w6 g10 113 #[.bool bq,.slice Aq2 nq2 cq2]):=lH (by rw [←hw6];exact blk_set2 HG10.o);have HG11b:Hid (Blk w6 g11 113 #[.bool false,.slice none 0 0]):=lH (by rw [←hw6];exact (HG11.o.far hne.symm _).far hne.symm _);have HR0d:Hid (Blk w6 (w.heap.size+1+1) 113 #[.bool false,.slice none 0 0]):=lH (by rw [←hw6];exact (HR0c.o.far e0 _).far e0 _);have HR1d:Hid (Blk w6 (w.heap.size+1+1+1) 113 #[.bool false,.slice none 0 0]):=lH (by rw [←hw6];exact (HR1c.o.far e2 _).far e2 _);have HB6:Hid (Below W.heap.size W w6):=lH (by rw [←hw6];exact below_set2 HB5.o hg10)
 have HQ6:Hid (LgIs w6 w6.heap.size ((x / y:Nat):Int) bq Aq2 nq2 cq2):=lH (by rw [←hw6];exact (HQ2.o.keep (HG10.o.cell 0) (by simp) _).keep ((HG10.o.set_ 0 (.bool bq)).cell 1) (by simp) _);have HR6:Hid (LgIs w6 w6.heap.size ((x % y:Nat):Int) false Ar2 nr2 cr2):=lH (by rw [←hw6];exact (HR2.o.keep (HG10.o.cell 0) (by simp) _).keep ((HG10.o.set_ 0 (.bool bq)).cell 1) (by simp) _);clear hw6 HG10 HG11 HB5 HQ2 HR2 HR0c HR1c;have z0:=HG11b.o.cell 0;have z1:=HG11b.o.cell 1;have zf:=HG11b.o.frozen;have zl:=HG11b.o.lt;refine lastQ_go (by rfl) ?_;go_simp;clear z0 z1 zf zl;generalize hw7:(w6.setCell ⟨g11,0,none⟩ _).setCell ⟨g11,1,none⟩ _=w7;have HG10c:Hid (Blk w7 g10 113 #[.bool bq,.slice Aq2 nq2 cq2]):=lH (by rw [←hw7];exact (HG10b.o.far hne _).far hne _);have HG11c:Hid (Blk w7 g11 113 #[.bool false,.slice Ar2 nr2 cr2]):=lH (by rw [←hw7];exact blk_set2 HG11b.o)
 have HR0e:Hid (Blk w7 (w.heap.size+1+1) 113 #[.bool false,.slice none 0 0]):=lH (by rw [←hw7];exact (HR0d.o.far e1 _).far e1 _);have HR1e:Hid (Blk w7 (w.heap.size+1+1+1) 113 #[.bool false,.slice none 0 0]):=lH (by rw [←hw7];exact (HR1d.o.far e3 _).far e3 _);have HB7:Hid (Below W.heap.size W w7):=lH (by rw [←hw7];exact below_set2 HB6.o hg11);have HQ7:Hid (LgIs w7 w7.heap.size ((x / y:Nat):Int) bq Aq2 nq2 cq2):=lH (by rw [←hw7];exact (HQ6.o.keep (HG11b.o.cell 0) (by simp) _).keep ((HG11b.o.set_ 0 (.bool false)).cell 1) (by simp) _);have HR7:Hid (LgIs w7 w7.heap.size ((x % y:Nat):Int) false Ar2 nr2 cr2):=lH (by rw [←hw7];exact (HR6.o.keep (HG11b.o.cell 0) (by simp) _).keep ((HG11b.o.set_ 0 (.bool false)).cell 1) (by simp) _);clear hw7 HG10b HG11b HB6 HQ6 HR6 HR0d HR1d;have HBW:Hid (Below w.heap.size w w7):=lH (HB1.o.tm HB7.o);have a0:=HG10c.o.cell 0
 have a1:=HG10c.o.cell 1;have al:=HG10c.o.lt;have b0:=HG11c.o.cell 0;have b1:=HG11c.o.cell 1;have bl:=HG11c.o.lt;have c0:=HR0e.o.cell 0;have c1:=HR0e.o.cell 1;have cf:=HR0e.o.frozen;have cl:=HR0e.o.lt;have d0:=HR1e.o.cell 0;have d1:=HR1e.o.cell 1;have df:=HR1e.o.frozen;have dl:=HR1e.o.lt
 go_wp2_with fail
 refine wp_region_last (S:=fun w'=>w'.cell? ⟨g10,0,none⟩=some (.bool bq)∧w'.cell? ⟨g10,1,none⟩=some (.slice Aq2 nq2 cq2)∧w'.cell? ⟨g11,0,none⟩=some (.bool false)∧w'.cell? ⟨g11,1,none⟩=some (.slice Ar2 nr2 cr2)) 3 _ (by kernel_rfl) (by kernel_rfl) rfl ⟨a0,a1,b0,b1⟩ (fun hHeld=>?_);simp only [zK_,List.take_zero];refine takeH 0 (v:=?_) rfl (by kernel_rfl) (fun _ _ _ h=>h) (by rfl) ?_ hHeld ?_;rotate_left 1
 ·intro w' hSw;obtain ⟨s0,s1,s2,s3⟩:=hSw;go_simp<;>with_reducible rfl
 try simp only [Act.put,sA_,sB_,sC_]
 refine takeH 1 (v:=?_) rfl (by kernel_rfl) (fun _ _ _ h=>h) (by rfl) ?_ hHeld ?_;rotate_left 1
 ·intro w' hSw;obtain ⟨s0,s1,s2,s3⟩:=hSw;go_simp<;>with_reducible rfl
 try simp only [Act.put,sA_,sB_,sC_]
 clear a0 a1 b0 b1 d0 d1 df dl al bl;have e4:g10≠w.heap.size+1+1:=e0.symm;have e5:g11≠w.heap.size+1+1:=e1.symm;have e6:w.heap.size+1+1+1≠w.heap.size+1+1:=by omega
 have hgs2:w.heap.size≤w.heap.size+1+1:=by omega
 have hgs3:w.heap.size≤w.heap.size+1+1+1:=by omega
 refine stepH 2 (by kernel_rfl) rfl (fun K hK=>?_);go_simp;clear c0 c1 cf cl;generalize hw8:(w7.setCell ⟨w.heap.size+1+1,0,none⟩ _).setCell ⟨w.heap.size+1+1,1,none⟩ _=w8;have HG10d:Hid (Blk w8 g10 113 #[.bool bq,.slice Aq2 nq2 cq2]):=lH (by rw [←hw8];exact (HG10c.o.far e4 _).far e4 _);have HG11d:Hid (Blk w8 g11 113 #[.bool false,.slice Ar2 nr2 cr2]):=lH (by rw [←hw8];exact (HG11c.o.far e5 _).far e5 _);have HR0f:Hid (Blk w8 (w.heap.size+1+1) 113 #[.bool bq,.slice Aq2 nq2 cq2]):=lH (by rw [←hw8];exact blk_set2 HR0e.o);have HR1f:Hid (Blk w8 (w.heap.size+1+1+1) 113 #[.bool false,.slice none 0 0]):=lH (by rw [←hw8];exact (HR1e.o.far e6 _).far e6 _);have HB8:Hid (Below w.heap.size w w8):=lH (by rw [←hw8];exact below_set2 HBW.o hgs2)
 have HQ8:Hid (LgIs w8 w8.heap.size ((x / y:Nat):Int) bq Aq2 nq2 cq2):=lH (by rw [←hw8];exact (HQ7.o.keep (HR0e.o.cell 0) (by simp) _).keep ((HR0e.o.set_ 0 (.bool bq)).cell 1) (by simp) _);have HR8:Hid (LgIs w8 w8.heap.size ((x % y:Nat):Int) false Ar2 nr2 cr2):=lH (by rw [←hw8];exact (HR7.o.keep (HR0e.o.cell 0) (by simp) _).keep ((HR0e.o.set_ 0 (.bool bq)).cell 1) (by simp) _);clear hw8;refine hK.out _ _ ?_ (fun hHeld=>?_)
 ·exact ⟨HG10d.o.cell 0,HG10d.o.cell 1,HG11d.o.cell 0,HG11d.o.cell 1⟩
 clear hK K
 try simp only [Act.put,sA_,sB_,sC_]
 refine wpAnyH_done (by kernel_rfl) ?_ _;refine lastQ_go (by rfl) ?_;clear HBW HG10c HG11c HR0e HR1e HQ7 HR7;have d0:=HR1f.o.cell 0;have d1:=HR1f.o.cell 1;have df:=HR1f.o.frozen;have dl:=HR1f.o.lt
 go_wp2_with fail
 clear d0 d1 df dl;generalize hw9:(w8.setCell ⟨w.heap.size+1+1+1,0,none⟩ _).setCell ⟨w.heap.size+1+1+1,1,none⟩ _=w9;have HR0g:Hid (Blk w9 (w.heap.size+1+1) 113 #[.bool bq,.slice Aq2 nq2 cq2]):=lH (by rw [←hw9];exact (HR0f.o.far e6.symm _).far e6.symm _);have HR1g:Hid (Blk w9 (w.heap.size+1+1+1) 113 #[.bool false,.slice Ar2 nr2 cr2]):=lH (by rw [←hw9];exact blk_set2 HR1f.o);have HB9:Hid (Below w.heap.size w w9):=lH (by rw [←hw9];exact below_set2 HB8.o hgs3);have HQ9:Hid (LgIs w9 w9.heap.size ((x / y:Nat):Int) bq Aq2 nq2 cq2):=lH (by rw [←hw9];exact (HQ8.o.keep (HR1f.o.cell 0) (by simp) _).keep ((HR1f.o.set_ 0 (.bool false)).cell 1) (by simp) _);have HR9:Hid (LgIs w9 w9.heap.size ((x % y:Nat):Int) false Ar2 nr2 cr2):=lH (by rw [←hw9];exact (HR8.o.keep (HR1f.o.cell 0) (by simp) _).keep ((HR1f.o.set_ 0 (.bool false)).cell 1) (by simp) _);clear hw9;have q0:=HR0g.o.cell 0
 have q1:=HR0g.o.cell 1;have q2:=HR1g.o.cell 0;have q3:=HR1g.o.cell 1;exact bodyPost_ret (v:=.tuple #[.agg #[.bool bq,.slice Aq2 nq2 cq2],.agg #[.bool false,.slice Ar2 nr2 cr2]]) (by simp [results,Tryz.results146,go_sem,q0,q1,q2,q3]) rfl ⟨below_drew HB9.o,bq,Aq2,nq2,cq2,false,Ar2,nr2,cr2,rfl,HQ9.o.up (below_drew bR),HR9.o.up (below_drew bR)⟩
end
section
open Go.ChangeShapes Go.WideShapes Go.ChangeAt Go.RowKit
structure RtIs (w:World) (B:Nat) (q:Rat) (b1:Bool) (A:Option Addr) (n c:Nat) (b2:Bool) (A2:Option Addr) (m d:Nat):Prop where
 num:LgIs w B q.num b1 A n c
 den:LgIs w B (q.den:Int) b2 A2 m d
section
variable {w w':World} {B B':Nat} {q:Rat} {b1:Bool} {A:Option Addr} {n c:Nat} {b2:Bool} {A2:Option Addr} {m d:Nat}
theorem RtIs.below (h:RtIs w B q b1 A n c b2 A2 m d) (hb:Below B' w w') (hB:B≤B'):RtIs w' B q b1 A n c b2 A2 m d:=⟨h.num.below hb hB,h.den.below hb hB⟩
theorem RtIs.more (h:RtIs w B q b1 A n c b2 A2 m d) (hB:B≤B'):RtIs w B' q b1 A n c b2 A2 m d:=⟨h.num.more hB,h.den.more hB⟩
theorem RtIs.up (h:RtIs w w.heap.size q b1 A n c b2 A2 m d) (hb:Below w.heap.size w w'):RtIs w' w'.heap.size q b1 A n c b2 A2 m d:=⟨h.num.up hb,h.den.up hb⟩
theorem RtIs.keep (h:RtIs w w.heap.size q b1 A n c b2 A2 m d) {p:Addr} {v:Value} (hp:w.cell? p=some v) (hv:∀ k x,v≠.int k x) (u:Value):RtIs (w.setCell p u) (w.setCell p u).heap.size q b1 A n c b2 A2 m d:=⟨h.num.keep hp hv u,h.den.keep hp hv u⟩
theorem RtIs.n_le (h:RtIs w B q b1 A n c b2 A2 m d):n≤qsz q:=by rw [h.num.en];exact qsz_num q
theorem RtIs.m_le (h:RtIs w B q b1 A n c b2 A2 m d):m≤qsz q:=by rw [h.den.en,Int.natAbs_natCast];exact qsz_den q
theorem RtIs.pos (h:RtIs w B q b1 A n c b2 A2 m d):b2=false:=by rw [h.den.eb];simp
end
def RtP (q:Rat) (w:World) (e:Ending) (w':World):Prop:=Below w.heap.size w w'∧∃ b1 A n c b2 A2 m d,e=.returned (.agg #[.bool b1,.slice A n c,.bool b2,.slice A2 m d])∧RtIs w' w'.heap.size q b1 A n c b2 A2 m d
theorem blk_set4 {w:World} {p t:Nat} {v0 v1 v2 v3 x0 x1 x2 x3:Value} (h:Blk w p t #[x0,x1,x2,x3]):Blk ((((w.setCell ⟨p,0,none⟩ v0).setCell ⟨p,1,none⟩ v1).setCell ⟨p,2,none⟩ v2).setCell ⟨p,3,none⟩ v3) p t #[v0,v1,v2,v3]:=
 (((h.set_at (i:=0) (cs':=#[v0,x1,x2,x3]) v0 (by simp)).set_at (i:=1) (cs':=#[v0,v1,x2,x3]) v1 (by simp)).set_at (i:=2) (cs':=#[v0,v1,v2,x3]) v2 (by simp)).set_at (i:=3) v3 (by simp)
theorem below_set4 {a w:World} {B p:Nat} {v0 v1 v2 v3:Value} (h:Below B a w) (hp:B≤p):Below B a ((((w.setCell ⟨p,0,none⟩ v0).setCell ⟨p,1,none⟩ v1).setCell ⟨p,2,none⟩ v2).setCell ⟨p,3,none⟩ v3):=(((h.setCell hp _).setCell hp _).setCell hp _).setCell hp _
theorem rt_put {w w2:World} {g T:Nat} {v0 v1 v2 v3:Value} {q:Rat} {b1:Bool} {A:Option Addr} {n c:Nat} {b2:Bool} {A2:Option Addr} {m d:Nat} {e:Ending} (hb:Below w.heap.size w w2) (hg:w.heap.size≤g) (hB:Blk w2 g T #[v0,v1,v2,v3]) (h0:∀ k x,v0≠.int k x) (h1:∀ k x,v1≠.int k x) (h2:∀ k x,v2≠.int k x) (h3:∀ k x,v3≠.int k x) (h:RtIs w2 w2.heap.size q b1 A n c b2 A2 m d) (he:e=.returned (.agg #[.bool b1,.slice A n c,.bool b2,.slice A2 m d])) :
    RtP q w e ((((w2.setCell ⟨g,0,none⟩ (.bool b1)).setCell ⟨g,1,none⟩ (.slice A n c)).setCell ⟨g,2,none⟩ (.bool b2)).setCell ⟨g,3,none⟩ (.slice A2 m d)):=by
 refine ⟨below_set4 hb hg,b1,A,n,c,b2,A2,m,d,he,?_⟩;have B1:=hB.set_at (i:=0) (cs':=#[.bool b1,v1,v2,v3]) (.bool b1) (by simp);have B2:=B1.set_at (i:=1) (cs':=#[.bool b1,.slice A n c,v2,v3]) (.slice A n c) (by simp);have B3:=B2.set_at (i:=2) (cs':=#[.bool b1,.slice A n c,.bool b2,v3]) (.bool b2) (by simp);exact (((h.keep (hB.cell 0) h0 _).keep (B1.cell 1) h1 _).keep (B2.cell 2) h2 _).keep (B3.cell 3) h3 _
end
end Go.Proofs.YthgdchffeigkbaaGreatDoor
