import Derived.Test.YthgdchffeigkbaaGreatDoorU16
import Derived.Test.YthgdchffeigkbaaGreatDoorU19
set_option linter.unusedVariables false
set_option linter.unusedSimpArgs false
namespace Go.Proofs.YthgdchffeigkbaaGreatDoor
set_option maxHeartbeats 4000000
set_option maxRecDepth 100000
section
open Go.ChangeShapes Go.WideShapes Go.ChangeAt Go.RowKit
attribute [local go_sem ↓] execOp_call_val
attribute [local go_sem] callVal_func setCell_drewN alloc_drewN sEq_walk
theorem dotR_step {xs ys:List Rat} {k:Nat} {p q:Rat} (hp:xs[k]?=some p) (hq:ys[k]?=some q):sumR ((List.zipWith (·*·) xs ys).take (k+1))=sumR ((List.zipWith (·*·) xs ys).take k)+p*q:=by
 rw [take_snoc (x:=p*q) (by rw [List.getElem?_zipWith,hp,hq]),sumR_snoc]
theorem dotR_qsz {xs ys:List Rat} {n Z:Nat} (hn:xs.length=n) (ha:∀ q∈xs,qsz q≤Z) (hb:∀ q∈ys,qsz q≤Z) (k:Nat) (hk:k≤n):qsz (sumR ((List.zipWith (·*·) xs ys).take k))≤n*(2*Z+1)+1:=by
 have h1:((List.zipWith (·*·) xs ys).take k).length≤n:=by rw [zF_,List.length_zipWith];omega
 refine zI_ (sumR_qsz _ _ rfl (2*Z) fun q hq=>?_) ?_
 ·obtain ⟨i,hi⟩:=List.getElem?_of_mem (List.mem_of_mem_take hq)
  rw [List.getElem?_zipWith] at hi;cases h1:xs[i]? with
  | none=>rw [h1] at hi;simp at hi
  | some x=>
   cases h2:ys[i]? with
   | none=>rw [h1,h2] at hi;simp at hi
   | some y=>
    rw [h1,h2] at hi;simp at hi;subst hi;have:=mul_qsz x y;have:=ha x (zC_ h1);have:=hb y (zC_ h2);omega
 ·have:=Nat.mul_le_mul_right (2*Z+1) h1
  omega
theorem sign_zero {q:Rat} (h:q=0):q.num.sign=0:=by subst h;rfl
theorem sign_ne {q:Rat} (h:q≠0):(q.num.sign != 0)=true:=by
 have:q.num≠0:=fun e=>h (Rat.num_eq_zero.1 e);have:q.num.sign≠0:=fun e=>this (Int.sign_eq_zero_iff_zero.1 e);simpa using this
theorem dot_any (A:Option Addr) (n c:Nat) (B:Option Addr) (m d:Nat) (xs ys:List Rat) (Z:Nat) (w:World) (hA:RdQ w w.heap.size A n xs) (hB:RdQ w w.heap.size B m ys) (hnm:n≤m) (hn:n≤9223372036854775807) (ha:∀ q∈xs,qsz q≤Z) (hb:∀ q∈ys,qsz q≤Z) (hz:n*(2*Z+1)+2*Z+2≤35184372088832) :
    Calls Tryz.prog 109 #[.slice A n c,.slice B m d] w (QP (dotR xs ys) w):=by
 have HA:=lH hA;have HB:=lH hB;have HAL:=lH hA.len;have HBL:=lH hB.len;have HQA:=lH ha;have HQB:=lH hb;have HZ:=lH hz;have HNM:=lH hnm;have HB0:Hid (Below w.heap.size w ((w.alloc (.cells #[.bool false,.slice none 0 0,.bool false,.slice none 0 0] 115)))):=lH (bA);have HR:Hid (Blk ((w.alloc (.cells #[.bool false,.slice none 0 0,.bool false,.slice none 0 0] 115))) w.heap.size 115 #[.bool false,.slice none 0 0,.bool false,.slice none 0 0]):=lH (Blk.new w _ _);clear hA hB ha hb hz hnm;go_enter Tryz.func109,Tryz.ntmps109
 go_upto_region 1 with fail
 generalize ((w.alloc (.cells #[.bool false,.slice none 0 0,.bool false,.slice none 0 0] 115)))=W at *
 go_wp2_with fail
 refine (wholeV 0 W (by decide) (by decide)).mono ?_;rintro e w1 ⟨hb1,v1,rfl,h1⟩;have HB1:=lH (HB0.o.tm hb1);have HR1:=lH (HR.o.bl hb1);have H1:=lH h1;clear hb1 h1 HB0 HR
 go_wp2_with fail
 generalize hwa:w1.alloc (.cells #[.bool v1.b1,.slice v1.A v1.n v1.c,.bool v1.b2,.slice v1.A2 v1.m v1.d] 115)=wa;have hba:Below w1.heap.size w1 wa:=by rw [←hwa];exact bA
 have HGS:Hid (Blk wa w1.heap.size 115 #[.bool v1.b1,.slice v1.A v1.n v1.c,.bool v1.b2,.slice v1.A2 v1.m v1.d]):=lH (by rw [←hwa];exact Blk.new w1 _ _);have HBA:=lH (HB1.o.tm hba);have HRA:=lH (HR1.o.bl hba);have HVA:Hid (RtV wa wa.heap.size (0:Rat) v1):=lH (by have:=H1.o.up hba;simpa using this);have HGL:Hid (w.heap.size<w1.heap.size):=lH HR1.o.lt;clear hwa hba HB1 HR1 H1;generalize w1.heap.size=g at *
 go_loopw [10] (fun v10 wr=>∃ (k:Nat) (v:Rv),k≤n∧v10=.int .i64 k∧Below w.heap.size w wr∧Blk wr w.heap.size 115 #[.bool false,.slice none 0 0,.bool false,.slice none 0 0]∧Blk wr g 115 #[.bool v.b1,.slice v.A v.n v.c,.bool v.b2,.slice v.A2 v.m v.d]∧RtV wr wr.heap.size (sumR ((List.zipWith (·*·) xs ys).take k)) v) (fun v10 _=>n-(intOf v10).toNat)
 case atStart=>exact ⟨0,v1,by omega,rfl,HBA.o,HRA.o,HGS.o,by rw [List.take_zero];exact HVA.o⟩
 case round=>
  clear HBA HRA HGS HVA;obtain ⟨k,v,hk,rfl,hb,hr,hg,hv⟩:=hrel;have HK:=lH hb;have HR:=lH hr;have HG:=lH hg;have HV:=lH hv;clear hb hr hg hv
  by_cases hlt:k<n
  ·obtain ⟨x,hx⟩:∃ x,xs[k]?=some x:=zX_ (by have:=HAL.o;omega)
   obtain ⟨y,hy⟩:∃ y,ys[k]?=some y:=zX_ (by have:=HBL.o;have:=HNM.o;omega);obtain ⟨ab,ao,hA1,hab⟩:=HA.o.form (by omega);subst hA1;obtain ⟨bb,bo,hB1,hbb⟩:=HB.o.form (by have:=HNM.o;omega);subst hB1;have HS:=lH (dotR_step hx hy);have HQX:=lH (HQA.o x (zC_ hx));have HQY:=lH (HQB.o y (zC_ hy));have HQS:=lH (dotR_qsz HAL.o HQA.o HQB.o k hk);obtain ⟨vx,a0,a1,a2,a3,a4⟩:=(HA.o.below HK.o lR).at_ hx;have HX:=lH hx;have HY:=lH hy;have hab2:ab<wr.heap.size:=zJ_ hab HK.o.size;have hbb2:bb<wr.heap.size:=zJ_ hbb HK.o.size;have HLX:=lH hab;have HLY:=lH hbb;clear hx hy hab hbb;have hkI:(k:Int)<(n:Int):=by omega
   have hkm:(k:Int)<(m:Int):=by have:=HNM.o;omega
   have hkm2:k<m:=by have:=HNM.o;omega
   have HN1:=lN k;have HN2:Hid (n-(k+1)<n-k):=lH (by omega);have HVX:=lH ((RtV.more (w:=wr) a4 HK.o.size));clear a4
   go_wp2_with fail
   refine (signV HVX.o).mono ?_;clear a0 a1 a2 a3;rintro e w2 ⟨rfl,hb2⟩;have HK2:=lH (HK.o.tm hb2);have HR2:=lH (HR.o.bl hb2);have HG2:=lH (HG.o.bl hb2);have HV2:=lH (HV.o.up hb2);have HVX2:=lH (HVX.o.up hb2);clear hb2 HR HG HV HVX
   by_cases hx0:x=0
   ·have hz:=sign_zero hx0
    rw [hz];have HE:Hid (sumR ((List.zipWith (·*·) xs ys).take (k+1))=sumR ((List.zipWith (·*·) xs ys).take k)):=lH (by rw [HS.o,hx0,Rat.zero_mul,Rat.add_zero]);clear hz hx0
    go_wp2_with fail
    go_roundw
    case rel=>exact ⟨k+1,v,hlt,val_int HN1.o,HK2.o,HR2.o,HG2.o,by rw [HE.o];exact HV2.o⟩
    case measure=>exact HN2.o
   ·have hz:=sign_ne hx0
    generalize x.num.sign=z at hz ⊢;clear hx0;obtain ⟨vy,a0,a1,a2,a3,a4⟩:=(HB.o.below HK2.o lR).at_ HY.o;have HVY2:=lH (RtV.more (w:=w2) a4 HK2.o.size);have hbb3:bb<w2.heap.size:=zJ_ HLY.o HK2.o.size;clear a4
    go_wp2_with fail
    refine (signV HVY2.o).mono ?_;clear a0 a1 a2 a3;rintro e w3 ⟨rfl,hb3⟩;have HK3:=lH (HK2.o.tm hb3);have HR3:=lH (HR2.o.bl hb3);have HG3:=lH (HG2.o.bl hb3);have HV3:=lH (HV2.o.up hb3);clear hb3 HR2 HG2 HV2 HVX2 HVY2
    by_cases hy0:y=0
    ·have hz2:=sign_zero hy0
     rw [hz2];have HE:Hid (sumR ((List.zipWith (·*·) xs ys).take (k+1))=sumR ((List.zipWith (·*·) xs ys).take k)):=lH (by rw [HS.o,hy0,Rat.mul_zero,Rat.add_zero]);clear hz2 hy0
     go_wp2_with fail
     go_roundw
     case rel=>exact ⟨k+1,v,hlt,val_int HN1.o,HK3.o,HR3.o,HG3.o,by rw [HE.o];exact HV3.o⟩
     case measure=>exact HN2.o
    ·have hz2:=sign_ne hy0
     generalize y.num.sign=z2 at hz2 ⊢;clear hy0
     go_upto_region 6 with fail
     clear hz hz2;obtain ⟨vx,a0,a1,a2,a3,a4⟩:=(HA.o.below HK3.o lR).at_ HX.o;have HVX3:=lH (RtV.more (w:=w3) a4 HK3.o.size);obtain ⟨vy,d0,d1,d2,d3,d4⟩:=(HB.o.below HK3.o lR).at_ HY.o;have HVY3:=lH (RtV.more (w:=w3) d4 HK3.o.size);have hab4:ab<w3.heap.size:=zJ_ HLX.o HK3.o.size;have hbb4:bb<w3.heap.size:=zJ_ HLY.o HK3.o.size;clear a4 d4;have p0:=HG3.o.cell 0;have p1:=HG3.o.cell 1;have p2:=HG3.o.cell 2;have p3:=HG3.o.cell 3;have pl:=HG3.o.lt;have HB4:=lH (below_drew (Below.refl w3.heap.size w3));refine wp_region_last (S:=fun w'=>Below w3.heap.size w3 w') 11 _ (by kernel_rfl) (by kernel_rfl) rfl HB4.o (fun hHeld=>?_);simp only [zK_,List.take_zero];refine tkH 0 rfl ?_;refine tkH 1 rfl ?_;refine tkH 2 rfl ?_;refine tkH 3 rfl ?_;refine tkH 4 rfl ?_;refine tkH 5 rfl ?_;refine tkH 6 rfl ?_;refine tkH 7 rfl ?_;refine tkH 8 rfl ?_
     refine stepH 9 (by kernel_rfl) rfl (fun K hK=>?_);go_simp;refine (mulV (HVX3.o.up HB4.o) (HVY3.o.up HB4.o) (by have:=HQX.o;have:=HQY.o;have:=HZ.o;omega)).mono ?_;rintro e w5 ⟨hb5,v5,rfl,h5⟩;have HB5:=lH (HB4.o.tm hb5);have H5:=lH h5;clear hb5 h5;go_simp;refine hK.out _ _ ?_ (fun hHeld=>?_)
     ·exact HB5.o
     clear hK K
     try simp only [Act.put,sA_,sB_,sC_]
     refine stepH 10 (by kernel_rfl) rfl (fun K hK=>?_);go_simp;refine (addV (HV3.o.up HB5.o) H5.o (by have:=mul_qsz x y;have:=HQX.o;have:=HQY.o;have:=HQS.o;have:=HZ.o;omega)).mono ?_;rintro e w6 ⟨hb6,v6,rfl,h6⟩;have HB6:=lH (HB5.o.tm hb6);have H6:=lH h6;clear hb6 h6;go_simp;refine hK.out _ _ ?_ (fun hHeld=>?_)
     ·exact HB6.o
     clear hK K
     try simp only [Act.put,sA_,sB_,sC_]
     refine wpAnyH_done (by kernel_rfl) ?_ _;refine lastQ_go (by rfl) ?_;have HKF:=lH (HK3.o.tm HB6.o);have HRF:=lH (HR3.o.bl HB6.o);have HGF:=lH (HG3.o.bl HB6.o);clear p0 p1 p2 p3 pl a0 a1 a2 a3 d0 d1 d2 d3 hab2 hab4 hbb2 hbb3 hbb4;have p0:=HGF.o.cell 0;have p1:=HGF.o.cell 1;have p2:=HGF.o.cell 2;have p3:=HGF.o.cell 3;have pf:=HGF.o.frozen;have pl:=HGF.o.lt
     go_wp2_with fail
     go_roundw
     case rel=>exact ⟨k+1,v6,hlt,val_int HN1.o,below_putQ HKF.o (zQ_ HGL.o),qfar HRF.o (Nat.ne_of_lt HGL.o),qput HGF.o,by rw [HS.o];exact H6.o.keepq HGF.o⟩
     case measure=>exact HN2.o
  ·have hke:k=n:=by omega
   subst hke;have hkI:¬(k:Int)<(k:Int):=by omega
   have HE:Hid (RtV wr wr.heap.size (dotR xs ys) v):=lH (by
    have h:=HV.o;rw [zH_ (by rw [List.length_zipWith,HAL.o];omega)] at h;exact h)
   have p0:=HG.o.cell 0;have p1:=HG.o.cell 1;have p2:=HG.o.cell 2;have p3:=HG.o.cell 3;have pl:=HG.o.lt;have z0:=HR.o.cell 0;have z1:=HR.o.cell 1;have z2:=HR.o.cell 2;have z3:=HR.o.cell 3;have zf:=HR.o.frozen;have zl:=HR.o.lt
   go_wp2_with fail
   clear p0 p1 p2 p3 pl z0 z1 z2 z3 zf zl;have HX:=lH (qput (v:=v) (x:=rv0) HR.o);have HB9:=lH (below_putQ (v:=v) HK.o lR);have HV9:=lH (HE.o.keepq (v:=v) (x:=rv0) HR.o);unfold putQ at HB9;generalize (((wr.setCell ⟨_,0,none⟩ _).setCell ⟨_,1,none⟩ _).setCell ⟨_,2,none⟩ _).setCell ⟨_,3,none⟩ _=W9 at *;have q0:=HX.o.cell 0;have q1:=HX.o.cell 1;have q2:=HX.o.cell 2;have q3:=HX.o.cell 3;exact bodyPost_ret (v:=.agg #[.bool v.b1,.slice v.A v.n v.c,.bool v.b2,.slice v.A2 v.m v.d]) (by simp [results,Tryz.results109,go_sem,q0,q1,q2,q3]) rfl ⟨HB9.o,v,rfl,HV9.o⟩
structure Mi where
 kind:Int
 name:ByteArray
 txt:ByteArray
 wt:Int
def Mi.cells (x:Mi):List Value:=[.int .i64 x.kind,.string x.name,.string x.txt,.int .i64 x.wt]
def Mi.val (x:Mi):Value:=.agg #[.int .i64 x.kind,.string x.name,.string x.txt,.int .i64 x.wt]
theorem Mi.len (x:Mi):x.cells.length=4:=rfl
def RdMi (w:World) (B:Nat) (A:Option Addr) (n:Nat) (xs:List Mi):Prop:=xs.length=n∧Rd w B 4 A n (xs.flatMap Mi.cells)
theorem RdMi.below {w w':World} {B B' n:Nat} {A:Option Addr} {xs:List Mi} (h:RdMi w B A n xs) (hb:Below B' w w') (hB:B≤B'):RdMi w' B A n xs:=⟨h.1,h.2.below hb hB⟩
theorem RdMi.more {w:World} {B B' n:Nat} {A:Option Addr} {xs:List Mi} (h:RdMi w B A n xs) (hB:B≤B'):RdMi w B' A n xs:=⟨h.1,h.2.more hB⟩
theorem RdMi.at_ {w:World} {B n:Nat} {b off:Nat} {xs:List Mi} (h:RdMi w B (some ⟨b,off,none⟩) n xs) {i:Nat} {x:Mi} (hx:xs[i]?=some x) :
    w.cell? ⟨b,off+i*4,none⟩=some (.int .i64 x.kind)∧w.cell? ⟨b,off+i*4+1,none⟩=some (.string x.name)∧w.cell? ⟨b,off+i*4+2,none⟩=some (.string x.txt)∧w.cell? ⟨b,off+i*4+3,none⟩=some (.int .i64 x.wt):=by
 have hl:i<xs.length:=(zB_.1 hx).1;have h1:=h.1;obtain ⟨b',off',e,_,hc⟩:=h.2.2 (by omega);injection e with e;injection e with e1 e2;subst e1;subst e2;have key:∀ k,k<4→∀ u,x.cells[k]?=some u→w.cell? ⟨b,off+i*4+k,none⟩=some u:=fun k hk u hu=>by
  have:=hc (i*4+k) u (by rw [flat_at Mi.len xs i x hx k hk];exact hu);rwa [←Nat.add_assoc] at this
 exact ⟨key 0 (by omega) _ rfl,key 1 (by omega) _ rfl,key 2 (by omega) _ rfl,key 3 (by omega) _ rfl⟩
theorem RdMi.form {w:World} {B n:Nat} {A:Option Addr} {xs:List Mi} (h:RdMi w B A n xs) (h0:0<n):∃ b off,A=some ⟨b,off,none⟩∧b<B:=by
 obtain ⟨b,off,e,hlt,_⟩:=h.2.2 h0;exact ⟨b,off,e,hlt⟩
theorem Mi.box {w:World} {p:Nat} {t:TypeId} {x:Mi} (h:Blk w p t #[.int .i64 x.kind,.string x.name,.string x.txt,.int .i64 x.wt]):w.cell? ⟨p,0,none⟩=some (.int .i64 x.kind)∧w.cell? ⟨p,1,none⟩=some (.string x.name)∧w.cell? ⟨p,2,none⟩=some (.string x.txt)∧w.cell? ⟨p,3,none⟩=some (.int .i64 x.wt)∧(∀ i,w.frozen? ⟨p,i,none⟩=false)∧p<w.heap.size:=
 ⟨h.cell 0,h.cell 1,h.cell 2,h.cell 3,h.frozen,h.lt⟩
structure Vc where
 A:Option Addr
 n:Nat
 c:Nat
 ss:List ByteArray
def Vc.cells (v:Vc):List Value:=[.slice v.A v.n v.c]
theorem Vc.len (v:Vc):v.cells.length=1:=rfl
def RdVc (w:World) (B:Nat) (A:Option Addr) (n:Nat) (vs:List Vc):Prop:=vs.length=n∧Rd w B 1 A n (vs.flatMap Vc.cells)∧∀ v∈vs,RdStr w B v.A v.n v.ss∧v.n≤9223372036854775807
theorem RdVc.below {w w':World} {B B' n:Nat} {A:Option Addr} {xs:List Vc} (h:RdVc w B A n xs) (hb:Below B' w w') (hB:B≤B'):RdVc w' B A n xs:=⟨h.1,h.2.1.below hb hB,fun v hv=>⟨(h.2.2 v hv).1.below hb hB,(h.2.2 v hv).2⟩⟩
theorem RdVc.more {w:World} {B B' n:Nat} {A:Option Addr} {xs:List Vc} (h:RdVc w B A n xs) (hB:B≤B'):RdVc w B' A n xs:=⟨h.1,h.2.1.more hB,fun v hv=>⟨(h.2.2 v hv).1.more hB,(h.2.2 v hv).2⟩⟩
theorem RdVc.form {w:World} {B n:Nat} {A:Option Addr} {xs:List Vc} (h:RdVc w B A n xs) (h0:0<n):∃ b off,A=some ⟨b,off,none⟩∧b<B:=by
 obtain ⟨b,off,e,hlt,_⟩:=h.2.1.2 h0;exact ⟨b,off,e,hlt⟩
theorem RdVc.at_ {w:World} {B n:Nat} {b off:Nat} {xs:List Vc} (h:RdVc w B (some ⟨b,off,none⟩) n xs) {i:Nat} {x:Vc} (hx:xs[i]?=some x):w.cell? ⟨b,off+i,none⟩=some (.slice x.A x.n x.c):=by
 have hl:i<xs.length:=(zB_.1 hx).1;have h1:=h.1;obtain ⟨b',off',e,_,hc⟩:=h.2.1.2 (by omega);injection e with e;injection e with e1 e2;subst e1;subst e2;have:=flat_at Vc.len xs i x hx 0 (by decide);rw [Nat.mul_one,Nat.add_zero] at this;exact hc i _ this
theorem samevec_any (A:Option Addr) (n c:Nat) (a:List ByteArray) (B:Option Addr) (m d:Nat) (b:List ByteArray) (w:World) (ha:RdStr w w.heap.size A n a) (hb:RdStr w w.heap.size B m b) (hn:n≤9223372036854775807) (hm:m≤9223372036854775807) :
    Calls Tryz.prog 19 #[.slice A n c,.slice B m d] w fun e w'=>e=.returned (.bool (decide (a=b)))∧Below w.heap.size w w':=by
 have hla:=lH ha.1;have hlb:=lH hb.1;have HA:=lH ha;have HB:=lH hb;clear ha hb;go_enter Tryz.func19,Tryz.ntmps19
 by_cases hnm:n=m
 ·subst hnm
  go_wp2_with fail
  go_loopw [5,13] (fun _ i wr=>∃ k:Nat,k≤n∧i=.int .i64 k∧a.take k=b.take k∧Below w.heap.size w wr) (fun _ i _=>n-(intOf i).toNat)
  case atStart=>exact ⟨0,by omega,rfl,by simp,bR⟩
  case round=>
   obtain ⟨k,hk,rfl,hab,hbw⟩:=hrel;have HAB:=lH hab;have HW:=lH hbw;clear hab hbw
   by_cases hlt:k<n
   ·obtain ⟨x,hx⟩:∃ x,a[k]?=some x:=zX_ (by have:=hla.out;omega)
    obtain ⟨y,hy⟩:∃ y,b[k]?=some y:=zX_ (by have:=hlb.out;omega);obtain ⟨ba,oa,rfl,hablt⟩:=HA.o.form (by omega);obtain ⟨bb,ob,rfl,hbblt⟩:=HB.o.form (by omega);have hca:=(HA.o.below HW.o lR).at_ hx;have hcb:=(HB.o.below HW.o lR).at_ hy;have hl1:ba<wr.heap.size:=zJ_ hablt HW.o.size;have hl2:bb<wr.heap.size:=zJ_ hbblt HW.o.size;have hltI:(k:Int)<(n:Int):=by omega
    have hkI:=lZ k
    have HN1:=lN k;have HN2:Hid (n-(k+1)<n-k):=lH (by omega)
    by_cases hxy:x=y
    ·subst hxy
     have hp:sEq x x=true:=sEq_iff.2 rfl;have HT:Hid (a.take (k+1)=b.take (k+1)):=lH (by rw [take_snoc hx,take_snoc hy,HAB.o]);clear hx hy hablt hbblt
     go_wp2_with fail
     go_quiet (fail)
     go_wp2_with fail
     go_roundw
     case rel=>exact ⟨k+1,hlt,val_int HN1.o,HT.o,below_drewN HW.o _⟩
     case measure=>exact HN2.o
    ·have hp:sEq x y=false:=sEq_ff.2 hxy
     have HT:Hid (decide (a=b)=false):=lH (by
      rw [decide_eq_false_iff_not];intro e;subst e;rw [hx] at hy;injection hy with hy;exact hxy hy)
     clear hx hy hablt hbblt hxy
     go_wp2_with fail
     go_quiet (fail)
     go_wp2_with fail
     go_ret;exact ⟨by rw [HT.o];rfl,below_drewN HW.o _⟩
   ·have hkI:¬(k:Int)<(n:Int):=by omega
    have HT:Hid (decide (a=b)=true):=lH (by
     rw [decide_eq_true_iff];have h:=HAB.o;rwa [zH_ (by have:=hla.out;omega),zH_ (by have:=hlb.out;omega)] at h)
    go_wp2_with fail
    go_ret;exact ⟨by rw [HT.o];rfl,HW.o⟩
 ·have hI:((n:Int) != (m:Int))=true:=by simp;omega
  have HT:Hid (decide (a=b)=false):=lH (by
   rw [decide_eq_false_iff_not];intro e;subst e;exact hnm (hla.out.symm.trans hlb.out))
  go_wp2_with fail
  go_ret;exact ⟨by rw [HT.o];rfl,bR⟩
theorem RdMi.bm {w w':World} {n:Nat} {A:Option Addr} {l:List Mi} (h:RdMi w w.heap.size A n l) (g:Below w.heap.size w w'):RdMi w' w'.heap.size A n l:=(h.below g lR).more g.size
theorem RdVc.bm {w w':World} {n:Nat} {A:Option Addr} {l:List Vc} (h:RdVc w w.heap.size A n l) (g:Below w.heap.size w w'):RdVc w' w'.heap.size A n l:=(h.below g lR).more g.size
end
section
open Go
theorem stepTwo {P:Program} {md:Region.Mode} {Q:Exit→Act→World→Prop} {L:List Oper} {S:World→Prop} (i j:Nat) {o o':Oper} {fuel:Nat} {listed:Array Bool} {a:Act} {w:World} (hr:Region.ready md L.toArray listed=[i,j]) (ho:L[i]?=some o) (ho':L[j]?=some o')
    (h:∀ K':Act→World→Prop,Shut (∀ a w,S w→(S w→wpAnyH P md L.toArray Q S fuel (listed.setIfInBounds i true) a w)→K' a w)→if Region.wanted o (yielded L.toArray a.tmps)=true then Oper.wp P o a w K' Q else K' (a.put o.dst undef) w)
    (h':∀ K':Act→World→Prop,Shut (∀ a w,S w→(S w→wpAnyH P md L.toArray Q S fuel (listed.setIfInBounds j true) a w)→K' a w)→if Region.wanted o' (yielded L.toArray a.tmps)=true then Oper.wp P o' a w K' Q else K' (a.put o'.dst undef) w):wpAnyH P md L.toArray Q S (fuel+1) listed a w:=
 wpAnyH_ready hr (by simp) (AllReadyH.cons (by rw [List.getElem?_toArray];exact ho) h (AllReadyH.cons (by rw [List.getElem?_toArray];exact ho') h' AllReadyH.nil))
end
section
theorem sumTo_mulr (c:Rat) (f:Fn) (n:Nat):sumTo n f*c=sumTo n (fun i=>f i*c):=by
 rw [Rat.mul_comm,←sumTo_mul];exact sumTo_congr fun i _=>Rat.mul_comm _ _
theorem sumTo_sub (f g:Fn) (n:Nat):sumTo n (fun i=>f i-g i)=sumTo n f-sumTo n g:=by
 have h:=sumTo_add f (fun i=>(-1)*g i) n;rw [sumTo_mul] at h;have e:sumTo n (fun i=>f i-g i)=sumTo n (fun i=>f i+(-1)*g i):=sumTo_congr fun i _=>by grind
 rw [e,h];grind
theorem sq_nn (x:Rat):0≤x*x:=by
 rcases Rat.le_total (a:=0) (b:=x) with h | h
 ·exact Rat.mul_nonneg h h
 ·have h2:0≤-x:=by grind
  have:=Rat.mul_nonneg h2 h2;grind
theorem sumTo_nn:∀ {n:Nat} {f:Fn},(∀ i,i<n→0≤f i)→0≤sumTo n f
 | 0,_,_=>by simp [sumTo]
 | n+1,f,h=>by
  have h1:=sumTo_nn (n:=n) (f:=f) fun i hi=>h i (by omega);have h2:=h n (by omega);simp only [sumTo];grind
theorem sumTo_nn_zero:∀ {n:Nat} {f:Fn},(∀ i,i<n→0≤f i)→sumTo n f=0→∀ i,i<n→f i=0
 | 0,_,_,_,i,hi=>by omega
 | n+1,f,h,he,i,hi=>by
  have h1:=sumTo_nn (n:=n) (f:=f) fun i hi=>h i (by omega);have h2:=h n (by omega);simp only [sumTo] at he
  by_cases hin:i=n
  ·subst hin;grind
  ·exact sumTo_nn_zero (n:=n) (fun i hi=>h i (by omega)) (by grind) i (by omega)
structure Ls where
 n:Nat
 K:Nat
 R:Nat→Fn
 w:Fn
 y:Fn
namespace Ls
variable (L:Ls)
def Pos:Prop:=∀ k,k<L.K→0<L.w k
def G (i:Nat):Fn:=fun j=>sumTo L.K fun k=>L.w k*L.R k i*L.R k j
def rt:Fn:=fun i=>sumTo L.K fun k=>L.w k*L.y k*L.R k i
def res (a:Fn):Fn:=fun k=>L.y k-dotn L.n (L.R k) a
def cost (a:Fn):Rat:=sumTo L.K fun k=>L.w k*L.res a k*L.res a k
def Sol (a:Fn):Prop:=∀ i,i<L.n→dotn L.n (L.G i) a=L.rt i
theorem gdot (c:Fn) (i:Nat):dotn L.n (L.G i) c=sumTo L.K fun k=>L.w k*L.R k i*dotn L.n (L.R k) c:=by
 unfold dotn G;have e:sumTo L.n (fun j=>sumTo L.K (fun k=>L.w k*L.R k i*L.R k j)*c j)=sumTo L.n (fun j=>sumTo L.K (fun k=>L.w k*L.R k i*(L.R k j*c j))):=sumTo_congr fun j _=>by
  rw [sumTo_mulr];exact sumTo_congr fun k _=>by grind
 rw [e,sumTo_comm];exact sumTo_congr fun k _=>sumTo_mul _ _ _
theorem wdot (f c:Fn):sumTo L.n (fun i=>c i*sumTo L.K fun k=>f k*L.R k i)=sumTo L.K fun k=>f k*dotn L.n (L.R k) c:=by
 have e:sumTo L.n (fun i=>c i*sumTo L.K fun k=>f k*L.R k i)=sumTo L.n (fun i=>sumTo L.K fun k=>f k*(L.R k i*c i)):=sumTo_congr fun i _=>by
  rw [←sumTo_mul];exact sumTo_congr fun k _=>by grind
 rw [e,sumTo_comm];exact sumTo_congr fun k _=>sumTo_mul _ _ _
theorem bil (c d:Fn):sumTo L.n (fun i=>c i*dotn L.n (L.G i) d)=sumTo L.K fun k=>L.w k*dotn L.n (L.R k) d*dotn L.n (L.R k) c:=by
 have e:sumTo L.n (fun i=>c i*dotn L.n (L.G i) d)=sumTo L.n (fun i=>c i*sumTo L.K fun k=>(L.w k*dotn L.n (L.R k) d)*L.R k i):=sumTo_congr fun i _=>by
  rw [L.gdot];congr 1
  exact sumTo_congr fun k _=>by grind
 rw [e,L.wdot]
theorem quad (c:Fn):sumTo L.n (fun i=>c i*dotn L.n (L.G i) c)=sumTo L.K fun k=>L.w k*(dotn L.n (L.R k) c*dotn L.n (L.R k) c):=by
 rw [L.bil];exact sumTo_congr fun k _=>by grind
variable {L}
theorem Pos.nn (h:L.Pos) (f:Fn):∀ k,k<L.K→0≤L.w k*(f k*f k):=fun k hk=>Rat.mul_nonneg (Rat.le_of_lt (h k hk)) (sq_nn _)
theorem Pos.zero (h:L.Pos) {f:Fn} (h0:sumTo L.K (fun k=>L.w k*(f k*f k))=0):∀ k,k<L.K→f k=0:=fun k hk=>by
 have h1:=sumTo_nn_zero (h.nn f) h0 k hk;have h2:=h k hk;rcases Rat.mul_eq_zero.1 h1 with h3 | h3
 ·rw [h3] at h2;exact absurd h2 Rat.lt_irrefl
 ·rcases Rat.mul_eq_zero.1 h3 with h4 | h4<;>exact h4
theorem Pos.ker (h:L.Pos) (c:Fn):(∀ i,i<L.n→dotn L.n (L.G i) c=0)↔∀ k,k<L.K→dotn L.n (L.R k) c=0:=by
 constructor
 ·intro hc
  refine h.zero (f:=fun k=>dotn L.n (L.R k) c) ?_;rw [←L.quad];exact sumTo_zero fun i hi=>by rw [hc i hi,Rat.mul_zero]
 ·intro hc i hi
  rw [L.gdot];exact sumTo_zero fun k hk=>by rw [hc k hk,Rat.mul_zero]
theorem Sol.normal {a:Fn} (h:L.Sol a):∀ i,i<L.n→sumTo L.K (fun k=>L.w k*L.res a k*L.R k i)=0:=fun i hi=>by
 have h1:=h i hi;rw [L.gdot] at h1;unfold rt at h1;have e:sumTo L.K (fun k=>L.w k*L.res a k*L.R k i)=sumTo L.K (fun k=>L.w k*L.y k*L.R k i)-sumTo L.K (fun k=>L.w k*L.R k i*dotn L.n (L.R k) a):=by
  rw [←sumTo_sub];exact sumTo_congr fun k _=>by unfold res;grind
 rw [e,h1];grind
theorem Sol.orth {a:Fn} (h:L.Sol a) (c:Fn):sumTo L.K (fun k=>L.w k*L.res a k*dotn L.n (L.R k) c)=0:=by
 rw [←L.wdot];exact sumTo_zero fun i hi=>by rw [h.normal i hi,Rat.mul_zero]
theorem Sol.least {a:Fn} (h:L.Sol a) (o:Fn):L.cost o=L.cost a+sumTo L.K fun k=>L.w k*(dotn L.n (L.R k) (fun i=>o i+(-1)*a i)*dotn L.n (L.R k) (fun i=>o i+(-1)*a i)):=by
 have h1:=h.orth (fun i=>o i+(-1)*a i);have e:L.cost o=L.cost a+sumTo L.K (fun k=>L.w k*(dotn L.n (L.R k) (fun i=>o i+(-1)*a i)*dotn L.n (L.R k) (fun i=>o i+(-1)*a i)))+(-2)*sumTo L.K (fun k=>L.w k*L.res a k*dotn L.n (L.R k) (fun i=>o i+(-1)*a i)):=by
  unfold cost;rw [←sumTo_mul,←sumTo_add,←sumTo_add];refine sumTo_congr fun k _=>?_;rw [dotn_add,dotn_mul];unfold res;grind
 rw [e,h1];grind
def SolK (L:Ls) (k:Nat) (u:Fn):Prop:=∀ i,i<L.n→dotn L.n (L.G i) u=L.R k i
def spr (L:Ls) (k:Nat) (u:Fn):Rat:=1 / L.w k-dotn L.n (L.R k) u
theorem SolK.dot {k:Nat} {u:Fn} (h:L.SolK k u) (c:Fn):dotn L.n (L.R k) c=sumTo L.K fun j=>L.w j*dotn L.n (L.R j) u*dotn L.n (L.R j) c:=by
 rw [←L.bil];unfold dotn;exact sumTo_congr fun i hi=>by
  have:=h i hi;unfold dotn at this;rw [←this];grind
theorem SolK.rest {k:Nat} {u:Fn} (h:L.SolK k u) (hk:k<L.K):dotn L.n (L.R k) u=L.w k*(dotn L.n (L.R k) u*dotn L.n (L.R k) u)+sumTo L.K (fun j=>if j=k then 0 else L.w j*(dotn L.n (L.R j) u*dotn L.n (L.R j) u)):=by
 have h1:=h.dot u;have e:sumTo L.K (fun j=>L.w j*dotn L.n (L.R j) u*dotn L.n (L.R j) u)=sumTo L.K (fun j=>if j=k then L.w j*(dotn L.n (L.R j) u*dotn L.n (L.R j) u) else 0)+sumTo L.K (fun j=>if j=k then 0 else L.w j*(dotn L.n (L.R j) u*dotn L.n (L.R j) u)):=by
  rw [←sumTo_add];exact sumTo_congr fun j _=>by
   by_cases ej:j=k
   ·rw [if_pos ej,if_pos ej];grind
   ·rw [if_neg ej,if_neg ej];grind
 have e2:sumTo L.K (fun j=>if j=k then L.w j*(dotn L.n (L.R j) u*dotn L.n (L.R j) u) else 0)=L.w k*(dotn L.n (L.R k) u*dotn L.n (L.R k) u):=by
  rw [sumTo_one hk (fun j _ hne=>by rw [if_neg hne]),if_pos rfl]
 rw [e,e2] at h1;exact h1
theorem part_nn {k:Nat} {u:Fn} (hp:L.Pos):∀ j,j<L.K→0≤(if j=k then 0 else L.w j*(dotn L.n (L.R j) u*dotn L.n (L.R j) u)):=fun j hj=>by
 by_cases e:j=k
 ·rw [if_pos e];exact Rat.le_refl
 ·rw [if_neg e];exact hp.nn (fun j=>dotn L.n (L.R j) u) j hj
theorem inv_w {k:Nat} (hp:L.Pos) (hk:k<L.K):L.w k*(1 / L.w k)=1:=by
 have h:=hp k hk;have hne:L.w k≠0:=fun e=>by rw [e] at h;exact absurd h Rat.lt_irrefl
 rw [Rat.div_def,Rat.one_mul,Rat.mul_inv_cancel _ hne]
theorem SolK.spr_zero {k:Nat} {u:Fn} (hp:L.Pos) (hk:k<L.K) (h:L.SolK k u) (h0:L.spr k u=0):(∀ j,j<L.K→j≠k→dotn L.n (L.R j) u=0)∧dotn L.n (L.R k) u≠0:=by
 have h1:=h.rest hk;have h4:=inv_w hp hk;have h5:=hp k hk;unfold spr at h0;have hpv:dotn L.n (L.R k) u=1 / L.w k:=by grind
 have hz:sumTo L.K (fun j=>if j=k then 0 else L.w j*(dotn L.n (L.R j) u*dotn L.n (L.R j) u))=0:=by
  have h6:L.w k*(dotn L.n (L.R k) u*dotn L.n (L.R k) u)=dotn L.n (L.R k) u:=by
   rw [hpv];grind
  grind
 constructor
 ·intro j hj hne
  have:=sumTo_nn_zero (part_nn (k:=k) (u:=u) hp) hz j hj;rw [if_neg hne] at this;have h7:=hp j hj;rcases Rat.mul_eq_zero.1 this with h8 | h8
  ·rw [h8] at h7;exact absurd h7 Rat.lt_irrefl
  ·rcases Rat.mul_eq_zero.1 h8 with h9 | h9<;>exact h9
 ·rw [hpv]
  intro e;rw [e,Rat.mul_zero] at h4;exact absurd h4 (by decide)
theorem SolK.spr_of {k:Nat} {u c:Fn} (hp:L.Pos) (hk:k<L.K) (h:L.SolK k u) (hc:∀ j,j<L.K→j≠k→dotn L.n (L.R j) c=0) (hk0:dotn L.n (L.R k) c≠0):L.spr k u=0:=by
 have h1:=h.dot c;have h2:sumTo L.K (fun j=>L.w j*dotn L.n (L.R j) u*dotn L.n (L.R j) c)=L.w k*dotn L.n (L.R k) u*dotn L.n (L.R k) c:=
  sumTo_one hk fun j hj hne=>by rw [hc j hj hne,Rat.mul_zero]
 rw [h2] at h1;have h4:=inv_w hp hk;have h3:L.w k*dotn L.n (L.R k) u=1:=by
  have h5:(1-L.w k*dotn L.n (L.R k) u)*dotn L.n (L.R k) c=0:=by grind
  rcases Rat.mul_eq_zero.1 h5 with h6 | h6
  ·grind
  ·exact absurd h6 hk0
 unfold spr;have h5:=hp k hk;have hne:L.w k≠0:=fun e=>by rw [e] at h5;exact absurd h5 Rat.lt_irrefl
 have h6:L.w k*(1 / L.w k-dotn L.n (L.R k) u)=0:=by grind
 rcases Rat.mul_eq_zero.1 h6 with h7 | h7
 ·exact absurd h7 hne
 ·exact h7
theorem SolK.res_zero {k:Nat} {u a:Fn} (hp:L.Pos) (hk:k<L.K) (h:L.SolK k u) (h0:L.spr k u=0) (ha:L.Sol a):L.res a k=0:=by
 obtain ⟨h1,h2⟩:=h.spr_zero hp hk h0;have h3:=ha.orth u;have h4:sumTo L.K (fun j=>L.w j*L.res a j*dotn L.n (L.R j) u)=L.w k*L.res a k*dotn L.n (L.R k) u:=
  sumTo_one hk fun j hj hne=>by rw [h1 j hj hne,Rat.mul_zero]
 rw [h4] at h3;have h5:=hp k hk;rcases Rat.mul_eq_zero.1 h3 with h6 | h6
 ·rcases Rat.mul_eq_zero.1 h6 with h7 | h7
  ·rw [h7] at h5;exact absurd h5 Rat.lt_irrefl
  ·exact h7
 ·exact absurd h6 h2
end Ls
end
section
def Tn (k:Nat) (q:Rat):Prop:=q.num.natAbs<10^k∧q.den<10^k
theorem Tn.mono {k m:Nat} {q:Rat} (h:Tn k q) (hm:k≤m):Tn m q:=
 ⟨zJ_ h.1 (Nat.pow_le_pow_right (by decide) hm),zJ_ h.2 (Nat.pow_le_pow_right (by decide) hm)⟩
theorem Tn.fits {k:Nat} {q:Rat} (h:Tn k q) (hk:k≤2000):Fits q:=by
 have h2:=h.mono hk;exact ⟨ndg_le (by decide) h2.1,ndg_le (by decide) h2.2⟩
theorem tn_divInt {k:Nat} {n:Int} {d:Nat} (hd:d≠0) (h1:n.natAbs<10^k) (h2:d<10^k):Tn k (Rat.divInt n d):=by
 have h3:=(ratio_abs n hd).1;have h4:=(ratio_num n hd).2;unfold Tn;rw [h3,h4];exact ⟨zT_ (Nat.div_le_self ..) h1,zT_ (Nat.div_le_self ..) h2⟩
theorem tn_valid {s:ByteArray} (h:ratCk s.data.toList=0):Tn (s.size+1) (qOf s):=by
 obtain ⟨h1,h2,-,-,h5,h6,-,-⟩:=valid_parse h;have hs:s.data.toList.length=s.size:=by rw [Array.length_toList];rfl
 have hl:=congrArg List.length (rtS_split s.data.toList);have hl2:=congrArg List.length (pre_split s.data.toList);rw [zE_] at hl hl2;have k1:(rtN s.data.toList).length≤s.size:=by omega
 refine ⟨?_,?_⟩
 ·show (parseQ s.data.toList).num.natAbs<_
  rw [h1,rdZ_abs];exact zJ_ (dv_lt h5) (Nat.pow_le_pow_right (by decide) (by omega))
 ·show (parseQ s.data.toList).den<_
  rw [h2];unfold denL
  split
  ·rename_i hi
   rw [if_pos hi,zV_] at hl;exact zJ_ (dv_lt h6) (Nat.pow_le_pow_right (by decide) (by omega))
  ·rw [Nat.pow_succ]
   have:0<10^s.size:=Nat.pow_pos (by decide);omega
theorem tn_tiny {s:ByteArray} (h:ratCk s.data.toList=0) (hs:s.size≤24):Tn 25 (qOf s):=(tn_valid h).mono (by omega)
def Ot (D B:Nat) (q:Rat):Prop:=∃ z:Int,q*((D:Int):Rat)=(z:Rat)∧z.natAbs≤B*D
theorem ot_add {D B C:Nat} {p q:Rat} (hp:Ot D B p) (hq:Ot D C q):Ot D (B+C) (p+q):=by
 obtain ⟨a,h1,h2⟩:=hp;obtain ⟨b,h3,h4⟩:=hq;refine ⟨a+b,by rw [Rat.add_mul,h1,h3,Rat.intCast_add],?_⟩;have:=Int.natAbs_add_le a b;rw [Nat.add_mul];omega
theorem ot_neg {D B:Nat} {q:Rat} (hq:Ot D B q):Ot D B (-q):=by
 obtain ⟨a,h1,h2⟩:=hq;exact ⟨-a,by rw [Rat.neg_mul,h1,Rat.intCast_neg],by rw [Int.natAbs_neg];exact h2⟩
theorem ot_mul {D E B C:Nat} {p q:Rat} (hp:Ot D B p) (hq:Ot E C q):Ot (D*E) (B*C) (p*q):=by
 obtain ⟨a,h1,h2⟩:=hp;obtain ⟨b,h3,h4⟩:=hq;refine ⟨a*b,?_,?_⟩
 ·rw [Rat.intCast_mul,←h1,←h3,Int.natCast_mul,Rat.intCast_mul];grind
 ·rw [Int.natAbs_mul]
  have:=Nat.mul_le_mul h2 h4;have e:B*D*(C*E)=B*C*(D*E):=by grind
  omega
theorem ot_zero (D:Nat):Ot D 0 0:=⟨0,by rw [Rat.zero_mul];rfl,by simp⟩
theorem ot_one {D:Nat}:Ot D 1 1:=⟨(D:Int),by rw [Rat.one_mul],by simp⟩
theorem ot_more {D B C:Nat} {q:Rat} (h:Ot D B q) (hb:B≤C):Ot D C q:=by
 obtain ⟨a,h1,h2⟩:=h;exact ⟨a,h1,zI_ h2 (Nat.mul_le_mul hb lR)⟩
theorem ot_dvd {D E B:Nat} {q:Rat} (h:Ot D B q) (hd:D∣E):Ot E B q:=by
 obtain ⟨a,h1,h2⟩:=h;obtain ⟨k,rfl⟩:=hd;refine ⟨a*k,?_,?_⟩
 ·rw [Rat.intCast_mul,←h1,Int.natCast_mul,Rat.intCast_mul,Rat.mul_assoc]
 ·rw [Int.natAbs_mul,Int.natAbs_natCast,←Nat.mul_assoc]
  exact Nat.mul_le_mul h2 lR
theorem ot_div {n:Int} {d B:Nat} (hd:d≠0) (h:n.natAbs≤B*d):Ot d B (Rat.divInt n d):=by
 refine ⟨n,?_,h⟩;rw [Rat.divInt_eq_div,Rat.div_mul_cancel];intro e;have:((d:Int):Rat)=((0:Int):Rat):=e;rw [Rat.intCast_inj] at this;omega
theorem ot_tn {k:Nat} {q:Rat} (h:Tn k q):Ot q.den (10^k) q:=by
 have h1:=ot_div (n:=q.num) (d:=q.den) (B:=10^k) q.den_nz (zI_ (zQ_ h.1) (Nat.le_mul_of_pos_right _ (Nat.pos_of_ne_zero q.den_nz)));rwa [Rat.num_divInt_den] at h1
theorem nodup_lt:∀ (K:Nat) (l:List Nat),l.Nodup→(∀ x∈l,x<K)→l.length≤K
 | 0,l,_,h=>by
  cases l with
  | nil=>exact lR
  | cons a l=>exact absurd (h a (by simp)) (by omega)
 | K+1,l,hn,h=>by
  have h1:=nodup_lt K (l.erase K) (hn.erase K) fun x hx=>by
   have h2:=(List.Nodup.mem_erase_iff hn).1 hx;have:=h x h2.2;omega
  have h2:=List.length_erase (a:=K) (l:=l)
  split at h2<;>omega
theorem pigeon {N K:Nat} (f:Nat→Nat) (hf:∀ u,u<N→f u<K) (h:K<N):∃ u v,u<v∧v<N∧f u=f v:=by
 refine Classical.byContradiction fun hne=>?_;have hnd:((List.range N).map f).Nodup:=by
  rw [List.nodup_iff_pairwise_ne,List.pairwise_map];refine List.Pairwise.imp_of_mem ?_ List.pairwise_lt_range;intro a b ha hb hab he;exact hne ⟨a,b,hab,List.mem_range.1 hb,he⟩
 have:=nodup_lt K _ hnd fun x hx=>by
  obtain ⟨u,hu,rfl⟩:=List.mem_map.1 hx;exact hf u (List.mem_range.1 hu)
 rw [zG_,List.length_range] at this;omega
def codeN (B:Nat) (e:Nat→Nat):Nat→Nat
 | 0=>0
 | n+1=>codeN B e n*B+e n
theorem codeN_lt {B:Nat} {e:Nat→Nat}:∀ {n:Nat},(∀ i,i<n→e i<B)→codeN B e n<B^n
 | 0,_=>by simp [codeN]
 | n+1,h=>by
  have h1:=codeN_lt (n:=n) fun i hi=>h i (by omega);have h2:=h n (by omega);simp only [codeN,Nat.pow_succ];have h3:(codeN B e n+1)*B≤B^n*B:=Nat.mul_le_mul_right _ h1;rw [Nat.add_mul] at h3;omega
theorem codeN_inj {B:Nat} {e f:Nat→Nat}:∀ {n:Nat},(∀ i,i<n→e i<B)→(∀ i,i<n→f i<B)→codeN B e n=codeN B f n→∀ i,i<n→e i=f i
 | 0,_,_,_,i,hi=>by omega
 | n+1,h,k,he,i,hi=>by
  have h1:=h n (by omega);have h2:=k n (by omega);simp only [codeN] at he;have hm:e n=f n:=by
   have h3:=congrArg (· % B) he;simp only [Nat.mul_comm _ B,Nat.mul_add_mod] at h3;rwa [Nat.mod_eq_of_lt h1,Nat.mod_eq_of_lt h2] at h3
  rw [hm] at he;have hd:codeN B e n=codeN B f n:=Nat.eq_of_mul_eq_mul_right (by omega:0<B) (by omega)
  by_cases hin:i=n
  ·subst hin;exact hm
  ·exact codeN_inj (fun i hi=>h i (by omega)) (fun i hi=>k i (by omega)) hd i (by omega)
theorem digits_inj {B u v:Nat}:∀ {n:Nat},(∀ j,j<n→u / B^j % B=v / B^j % B)→u / B^n=v / B^n→u=v
 | 0,_,h=>by simpa using h
 | n+1,hd,h=>by
  refine digits_inj (n:=n) (fun j hj=>hd j (by omega)) ?_;rw [Nat.pow_succ,←Nat.div_div_eq_div_mul,←Nat.div_div_eq_div_mul] at h;have h1:=Nat.div_add_mod (u / B^n) B;have h2:=Nat.div_add_mod (v / B^n) B;rw [h,hd n (by omega)] at h1;omega
def sumI:Nat→(Nat→Int)→Int
 | 0,_=>0
 | n+1,f=>sumI n f+f n
theorem sumI_congr:∀ {n:Nat} {f g:Nat→Int},(∀ i,i<n→f i=g i)→sumI n f=sumI n g
 | 0,_,_,_=>rfl
 | n+1,f,g,h=>by simp only [sumI];rw [sumI_congr fun i hi=>h i (by omega),h n (by omega)]
theorem sumI_sub (f g:Nat→Int):∀ n:Nat,sumI n (fun i=>f i-g i)=sumI n f-sumI n g
 | 0=>rfl
 | n+1=>by simp only [sumI];rw [sumI_sub f g n];omega
theorem sumI_abs {B:Nat} {f:Nat→Int}:∀ {n:Nat},(∀ i,i<n→(f i).natAbs≤B)→(sumI n f).natAbs≤n*B
 | 0,_=>by simp [sumI]
 | n+1,h=>by
  have h1:=sumI_abs (n:=n) fun i hi=>h i (by omega);have h2:=h n (by omega);simp only [sumI];have h3:=Int.natAbs_add_le (sumI n f) (f n);rw [Nat.add_mul];omega
theorem small_sol {n BA Bb H1 H2:Nat} {A:Nat→Nat→Int} {b:Nat→Int} (hA:∀ i j,i<n→j<n→(A i j).natAbs≤BA) (hb:∀ i,i<n→(b i).natAbs≤Bb)
    (hreg:∀ z:Nat→Int,(∀ i,i<n→sumI n (fun j=>A i j*z j)=0)→∀ j,j<n→z j=0)
    (hc:(2*(n*(BA*H1)+Bb*H2)+1)^n<(H1+1)^n*(H2+1)) :
    ∃ (z:Nat→Int) (t:Int),t≠0∧t.natAbs≤H2∧(∀ j,j<n→(z j).natAbs≤H1)∧∀ i,i<n→sumI n (fun j=>A i j*z j)=b i*t:=by
 obtain ⟨S,hS⟩:∃ S,S=n*(BA*H1)+Bb*H2:=⟨_,rfl⟩;rw [←hS] at hc;obtain ⟨dg,hdg⟩:∃ dg:Nat→Nat→Nat,dg=fun u j=>u / (H1+1)^j % (H1+1):=⟨_,rfl⟩;obtain ⟨tp,htp⟩:∃ tp:Nat→Nat,tp=fun u=>u / (H1+1)^n:=⟨_,rfl⟩;have hd:∀ u j,dg u j≤H1:=fun u j=>by
  rw [hdg];have:=Nat.mod_lt (u / (H1+1)^j) (show 0<H1+1 by omega);simp only;omega
 have ht:∀ u,u<(H1+1)^n*(H2+1)→tp u≤H2:=fun u hu=>by
  rw [htp];have:=Nat.div_lt_of_lt_mul hu;simp only;omega
 obtain ⟨lin,hlin⟩:∃ lin:Nat→Nat→Int,lin=fun u i=>sumI n (fun j=>A i j*(dg u j:Int))-b i*(tp u:Int):=⟨_,rfl⟩;have hl:∀ u i,u<(H1+1)^n*(H2+1)→i<n→(lin u i).natAbs≤S:=fun u i hu hi=>by
  have h1:=sumI_abs (B:=BA*H1) (n:=n) (f:=fun j=>A i j*(dg u j:Int)) fun j hj=>by
   rw [Int.natAbs_mul,Int.natAbs_natCast];exact Nat.mul_le_mul (hA i j hi hj) (hd u j)
  have h2:(b i*(tp u:Int)).natAbs≤Bb*H2:=by
   rw [Int.natAbs_mul,Int.natAbs_natCast];exact Nat.mul_le_mul (hb i hi) (ht u hu)
  rw [hlin];simp only;omega
 obtain ⟨cd,hcd⟩:∃ cd:Nat→Nat→Nat,cd=fun u i=>(lin u i+(S:Int)).toNat:=⟨_,rfl⟩;have hcl:∀ u,u<(H1+1)^n*(H2+1)→∀ i,i<n→cd u i<2*S+1:=fun u hu i hi=>by
  have:=hl u i hu hi;rw [hcd];simp only;omega
 obtain ⟨u,v,huv,hvN,he⟩:=pigeon (N:=(H1+1)^n*(H2+1)) (K:=(2*S+1)^n) (fun u=>codeN (2*S+1) (cd u) n) (fun u hu=>codeN_lt (hcl u hu)) hc;have huN:u<(H1+1)^n*(H2+1):=by omega
 have hee:=codeN_inj (hcl u huN) (hcl v hvN) he;have hlin2:∀ i,i<n→sumI n (fun j=>A i j*((dg v j:Int)-(dg u j:Int)))=b i*((tp v:Int)-(tp u:Int)):=fun i hi=>by
  have h1:=hee i hi;have h2:=hl u i huN hi;have h3:=hl v i hvN hi;have h4:lin u i=lin v i:=by
   rw [hcd] at h1;simp only at h1;omega
  rw [hlin] at h4;simp only at h4;have h5:sumI n (fun j=>A i j*((dg v j:Int)-(dg u j:Int)))=sumI n (fun j=>A i j*(dg v j:Int))-sumI n (fun j=>A i j*(dg u j:Int)):=by
   rw [←sumI_sub];exact sumI_congr fun j hj=>Int.mul_sub _ _ _
  rw [h5,Int.mul_sub];omega
 refine ⟨fun j=>(dg v j:Int)-(dg u j:Int),(tp v:Int)-(tp u:Int),fun h0=>?_,?_,fun j hj=>?_,hlin2⟩
 ·have hz:=hreg (fun j=>(dg v j:Int)-(dg u j:Int)) fun i hi=>by
   rw [hlin2 i hi,h0,Int.mul_zero]
  have:u=v:=digits_inj (B:=H1+1) (n:=n) (fun j hj=>by
   have h5:(dg v j:Int)-(dg u j:Int)=0:=hz j hj;have h6:dg u j=dg v j:=by omega
   rw [hdg] at h6;exact h6) (by
   have h7:tp u=tp v:=by omega
   rw [htp] at h7;exact h7)
  omega
 ·have h1:=ht u huN
  have h2:=ht v hvN;omega
 ·have h1:=hd u j
  have h2:=hd v j;simp only;omega
end
section
namespace Ls
variable {L:Ls}
theorem SolK.symm {j k:Nat} {u v:Fn} (hu:L.SolK k u) (hv:L.SolK j v):dotn L.n (L.R j) u=dotn L.n (L.R k) v:=by
 rw [hu.dot v,hv.dot u];exact sumTo_congr fun i _=>by grind
end Ls
end
section
theorem sumI_cast (f:Nat→Int):∀ n:Nat,((sumI n f:Int):Rat)=sumTo n fun i=>(f i:Rat)
 | 0=>rfl
 | n+1=>by
  simp only [sumI,sumTo];rw [Rat.intCast_add,sumI_cast f n]
theorem sol_short {n BA Bb H1 H2:Nat} {A:Nat→Nat→Int} {b:Nat→Int} {x:Fn} {V:Rat} (hA:∀ i j,i<n→j<n→(A i j).natAbs≤BA) (hb:∀ i,i<n→(b i).natAbs≤Bb)
    (hreg:∀ c:Fn,(∀ i,i<n→sumTo n (fun j=>(A i j:Rat)*c j)=0)→∀ j,j<n→c j=0)
    (hx:∀ i,i<n→sumTo n (fun j=>(A i j:Rat)*(V*x j))=(b i:Rat))
    (hc:(2*(n*(BA*H1)+Bb*H2)+1)^n<(H1+1)^n*(H2+1)) :
    ∃ t:Int,t≠0∧t.natAbs≤H2∧∀ j,j<n→∃ z:Int,z.natAbs≤H1∧V*x j*(t:Rat)=(z:Rat):=by
 obtain ⟨z,t,h0,h1,h2,h3⟩:=small_sol hA hb (fun z hz j hj=>by
  have:=hreg (fun j=>(z j:Rat)) (fun i hi=>by
   have h:((sumI n (fun j=>A i j*z j):Int):Rat)=((0:Int):Rat):=congrArg (fun q:Int=>(q:Rat)) (hz i hi);rw [sumI_cast] at h;rw [←show ((0:Int):Rat)=0 from rfl,←h];exact sumTo_congr fun j _=>(Rat.intCast_mul _ _).symm) j hj
  exact Rat.intCast_inj.1 (by rw [this];rfl)) hc
 refine ⟨t,h0,h1,fun j hj=>⟨z j,h2 j hj,?_⟩⟩;have hz:=hreg (fun j=>V*x j*(t:Rat)+(-1)*(z j:Rat)) (fun i hi=>by
  have e:sumTo n (fun j=>(A i j:Rat)*(V*x j*(t:Rat)+(-1)*(z j:Rat)))=(t:Rat)*sumTo n (fun j=>(A i j:Rat)*(V*x j))+(-1)*sumTo n (fun j=>(A i j:Rat)*(z j:Rat)):=by
   rw [←sumTo_mul,←sumTo_mul,←sumTo_add];exact sumTo_congr fun j _=>by grind
  have h:((sumI n (fun j=>A i j*z j):Int):Rat)=((b i*t:Int):Rat):=congrArg (fun q:Int=>(q:Rat)) (h3 i hi);rw [sumI_cast,Rat.intCast_mul] at h;have e2:sumTo n (fun j=>((A i j*z j:Int):Rat))=sumTo n (fun j=>(A i j:Rat)*(z j:Rat)):=sumTo_congr fun j _=>Rat.intCast_mul _ _;rw [e,hx i hi,←e2,h];grind) j hj
 have:V*x j*(t:Rat)+(-1)*(z j:Rat)=0:=hz;grind
end
section
open Go
def Ch (m:Int) (a b:List Int):Prop:=∀ j,b.getD j 0=a.getD j 0∨(a.getD j 0<0∧b.getD j 0=m)
theorem Ch.refl (m:Int) (a:List Int):Ch m a a:=fun j=>.inl rfl
theorem Ch.trans {m:Int} (hm:0≤m) {a b c:List Int} (h:Ch m a b) (h2:Ch m b c):Ch m a c:=fun j=>by
 rcases h j with h | ⟨h,h'⟩<;>rcases h2 j with g | ⟨g,g'⟩
 ·exact .inl (g.trans h)
 ·exact .inr ⟨by omega,g'⟩
 ·exact .inr ⟨h,g.trans h'⟩
 ·omega
end
end Go.Proofs.YthgdchffeigkbaaGreatDoor
