import Derived.Test.YthgdchffeigkbaaGreatDoorU17
import Derived.Test.YthgdchffeigkbaaGreatDoorU20
set_option linter.unusedVariables false
set_option linter.unusedSimpArgs false
namespace Go.Proofs.YthgdchffeigkbaaGreatDoor
set_option maxHeartbeats 4000000
set_option maxRecDepth 100000
section
open Go.ChangeShapes Go.WideShapes Go.ChangeAt Go.RowKit
attribute [local go_sem ↓] execOp_call_val
attribute [local go_sem] callVal_func setCell_drewN alloc_drewN sEq_walk
theorem dotR_step {xs ys:List Rat} {k:Nat} {p q:Rat} (hp:xs[k]?=some p) (hq:ys[k]?=some q):sumR ((List.zipWith (·*·) xs ys).take (k+1))=sumR ((List.zipWith (·*·) xs ys).take k)+p*q:=by
 rw [take_snoc (x:=p*q) (by rw [List.getElem?_zipWith,hp,hq]),sumR_snoc]
theorem dotR_qsz {xs ys:List Rat} {n Z:Nat} (hn:xs.length=n) (ha:∀ q∈xs,qsz q≤Z) (hb:∀ q∈ys,qsz q≤Z) (k:Nat) (hk:k≤n):qsz (sumR ((List.zipWith (·*·) xs ys).take k))≤n*(2*Z+1)+1:=by
 have h1:((List.zipWith (·*·) xs ys).take k).length≤n:=by rw [zF_,List.length_zipWith];omega
 refine zI_ (sumR_qsz _ _ rfl (2*Z) fun q hq=>?_) ?_
 ·obtain ⟨i,hi⟩:=List.getElem?_of_mem (List.mem_of_mem_take hq)
  rw [List.getElem?_zipWith] at hi;cases h1:xs[i]? with
  | none=>rw [h1] at hi;simp at hi
  | some x=>
   cases h2:ys[i]? with
   | none=>rw [h1,h2] at hi;simp at hi
   | some y=>
    rw [h1,h2] at hi;simp at hi;subst hi;have:=mul_qsz x y;have:=ha x (zC_ h1);have:=hb y (zC_ h2);omega
 ·have:=Nat.mul_le_mul_right (2*Z+1) h1
  omega
theorem sign_zero {q:Rat} (h:q=0):q.num.sign=0:=by subst h;rfl
theorem sign_ne {q:Rat} (h:q≠0):(q.num.sign != 0)=true:=by
 have:q.num≠0:=fun e=>h (Rat.num_eq_zero.1 e);have:q.num.sign≠0:=fun e=>this (Int.sign_eq_zero_iff_zero.1 e);simpa using this
theorem dot_any (A:Option Addr) (n c:Nat) (B:Option Addr) (m d:Nat) (xs ys:List Rat) (Z:Nat) (w:World) (hA:RdQ w w.heap.size A n xs) (hB:RdQ w w.heap.size B m ys) (hnm:n≤m) (hn:n≤9223372036854775807) (ha:∀ q∈xs,qsz q≤Z) (hb:∀ q∈ys,qsz q≤Z) (hz:n*(2*Z+1)+2*Z+2≤35184372088832) :
    Calls Tryz.prog 109 #[.slice A n c,.slice B m d] w (QP (dotR xs ys) w):=by
 have HA:=lH hA;have HB:=lH hB;have HAL:=lH hA.len;have HBL:=lH hB.len;have HQA:=lH ha;have HQB:=lH hb;have HZ:=lH hz;have HNM:=lH hnm;have HB0:Hid (Below w.heap.size w ((w.alloc (.cells #[.bool false,.slice none 0 0,.bool false,.slice none 0 0] 115)))):=lH (bA);have HR:Hid (Blk ((w.alloc (.cells #[.bool false,.slice none 0 0,.bool false,.slice none 0 0] 115))) w.heap.size 115 #[.bool false,.slice none 0 0,.bool false,.slice none 0 0]):=lH (Blk.new w _ _);clear hA hB ha hb hz hnm;go_enter Tryz.func109,Tryz.ntmps109
 go_upto_region 1 with fail
 generalize ((w.alloc (.cells #[.bool false,.slice none 0 0,.bool false,.slice none 0 0] 115)))=W at *
 go_wp2_with fail
 refine (wholeV 0 W (by decide) (by decide)).mono ?_;rintro e w1 ⟨hb1,v1,rfl,h1⟩;have HB1:=lH (HB0.o.tm hb1);have HR1:=lH (HR.o.bl hb1);have H1:=lH h1;clear hb1 h1 HB0 HR
 go_wp2_with fail
 generalize hwa:w1.alloc (.cells #[.bool v1.b1,.slice v1.A v1.n v1.c,.bool v1.b2,.slice v1.A2 v1.m v1.d] 115)=wa;have hba:Below w1.heap.size w1 wa:=by rw [←hwa];exact bA
 have HGS:Hid (Blk wa w1.heap.size 115 #[.bool v1.b1,.slice v1.A v1.n v1.c,.bool v1.b2,.slice v1.A2 v1.m v1.d]):=lH (by rw [←hwa];exact Blk.new w1 _ _);have HBA:=lH (HB1.o.tm hba);have HRA:=lH (HR1.o.bl hba);have HVA:Hid (RtV wa wa.heap.size (0:Rat) v1):=lH (by have:=H1.o.up hba;simpa using this);have HGL:Hid (w.heap.size<w1.heap.size):=lH HR1.o.lt;clear hwa hba HB1 HR1 H1;generalize w1.heap.size=g at *
 go_loopw [10] (fun v10 wr=>∃ (k:Nat) (v:Rv),k≤n∧v10=.int .i64 k∧Below w.heap.size w wr∧Blk wr w.heap.size 115 #[.bool false,.slice none 0 0,.bool false,.slice none 0 0]∧Blk wr g 115 #[.bool v.b1,.slice v.A v.n v.c,.bool v.b2,.slice v.A2 v.m v.d]∧RtV wr wr.heap.size (sumR ((List.zipWith (·*·) xs ys).take k)) v) (fun v10 _=>n-(intOf v10).toNat)
 case atStart=>exact ⟨0,v1,by omega,rfl,HBA.o,HRA.o,HGS.o,by rw [List.take_zero];exact HVA.o⟩
 case round=>
  clear HBA HRA HGS HVA;obtain ⟨k,v,hk,rfl,hb,hr,hg,hv⟩:=hrel;have HK:=lH hb;have HR:=lH hr;have HG:=lH hg;have HV:=lH hv;clear hb hr hg hv
  by_cases hlt:k<n
  ·obtain ⟨x,hx⟩:∃ x,xs[k]?=some x:=zX_ (by have:=HAL.o;omega)
   obtain ⟨y,hy⟩:∃ y,ys[k]?=some y:=zX_ (by have:=HBL.o;have:=HNM.o;omega);obtain ⟨ab,ao,hA1,hab⟩:=HA.o.form (by omega);subst hA1;obtain ⟨bb,bo,hB1,hbb⟩:=HB.o.form (by have:=HNM.o;omega);subst hB1;have HS:=lH (dotR_step hx hy);have HQX:=lH (HQA.o x (zC_ hx));have HQY:=lH (HQB.o y (zC_ hy));have HQS:=lH (dotR_qsz HAL.o HQA.o HQB.o k hk);obtain ⟨vx,a0,a1,a2,a3,a4⟩:=(HA.o.below HK.o lR).at_ hx;have HX:=lH hx;have HY:=lH hy;have hab2:ab<wr.heap.size:=zJ_ hab HK.o.size;have hbb2:bb<wr.heap.size:=zJ_ hbb HK.o.size;have HLX:=lH hab;have HLY:=lH hbb;clear hx hy hab hbb;have hkI:(k:Int)<(n:Int):=by omega
   have hkm:(k:Int)<(m:Int):=by have:=HNM.o;omega
   have hkm2:k<m:=by have:=HNM.o;omega
   have HN1:=lN k;have HN2:Hid (n-(k+1)<n-k):=lH (by omega);have HVX:=lH ((RtV.more (w:=wr) a4 HK.o.size));clear a4
   go_wp2_with fail
   refine (signV HVX.o).mono ?_;clear a0 a1 a2 a3;rintro e w2 ⟨rfl,hb2⟩;have HK2:=lH (HK.o.tm hb2);have HR2:=lH (HR.o.bl hb2);have HG2:=lH (HG.o.bl hb2);have HV2:=lH (HV.o.up hb2);have HVX2:=lH (HVX.o.up hb2);clear hb2 HR HG HV HVX
   by_cases hx0:x=0
   ·have hz:=sign_zero hx0
    rw [hz];have HE:Hid (sumR ((List.zipWith (·*·) xs ys).take (k+1))=sumR ((List.zipWith (·*·) xs ys).take k)):=lH (by rw [HS.o,hx0,Rat.zero_mul,Rat.add_zero]);clear hz hx0
    go_wp2_with fail
    go_roundw
    case rel=>exact ⟨k+1,v,hlt,val_int HN1.o,HK2.o,HR2.o,HG2.o,by rw [HE.o];exact HV2.o⟩
    case measure=>exact HN2.o
   ·have hz:=sign_ne hx0
    generalize x.num.sign=z at hz ⊢;clear hx0;obtain ⟨vy,a0,a1,a2,a3,a4⟩:=(HB.o.below HK2.o lR).at_ HY.o;have HVY2:=lH (RtV.more (w:=w2) a4 HK2.o.size);have hbb3:bb<w2.heap.size:=zJ_ HLY.o HK2.o.size;clear a4
    go_wp2_with fail
    refine (signV HVY2.o).mono ?_;clear a0 a1 a2 a3;rintro e w3 ⟨rfl,hb3⟩;have HK3:=lH (HK2.o.tm hb3);have HR3:=lH (HR2.o.bl hb3);have HG3:=lH (HG2.o.bl hb3);have HV3:=lH (HV2.o.up hb3);clear hb3 HR2 HG2 HV2 HVX2 HVY2
    by_cases hy0:y=0
    ·have hz2:=sign_zero hy0
     rw [hz2];have HE:Hid (sumR ((List.zipWith (·*·) xs ys).take (k+1))=sumR ((List.zipWith (·*·) xs ys).take k)):=lH (by rw [HS.o,hy0,Rat.mul_zero,Rat.add_zero]);clear hz2 hy0
     go_wp2_with fail
     go_roundw
     case rel=>exact ⟨k+1,v,hlt,val_int HN1.o,HK3.o,HR3.o,HG3.o,by rw [HE.o];exact HV3.o⟩
     case measure=>exact HN2.o
    ·have hz2:=sign_ne hy0
     generalize y.num.sign=z2 at hz2 ⊢;clear hy0
     go_upto_region 6 with fail
     clear hz hz2;obtain ⟨vx,a0,a1,a2,a3,a4⟩:=(HA.o.below HK3.o lR).at_ HX.o;have HVX3:=lH (RtV.more (w:=w3) a4 HK3.o.size);obtain ⟨vy,d0,d1,d2,d3,d4⟩:=(HB.o.below HK3.o lR).at_ HY.o;have HVY3:=lH (RtV.more (w:=w3) d4 HK3.o.size);have hab4:ab<w3.heap.size:=zJ_ HLX.o HK3.o.size;have hbb4:bb<w3.heap.size:=zJ_ HLY.o HK3.o.size;clear a4 d4;have p0:=HG3.o.cell 0;have p1:=HG3.o.cell 1;have p2:=HG3.o.cell 2;have p3:=HG3.o.cell 3;have pl:=HG3.o.lt;have HB4:=lH (below_drew (Below.refl w3.heap.size w3));refine wp_region_last (S:=fun w'=>Below w3.heap.size w3 w') 11 _ (by kernel_rfl) (by kernel_rfl) rfl HB4.o (fun hHeld=>?_);simp only [zK_,List.take_zero];refine tkH 0 rfl ?_;refine tkH 1 rfl ?_;refine tkH 2 rfl ?_;refine tkH 3 rfl ?_;refine tkH 4 rfl ?_;refine tkH 5 rfl ?_;refine tkH 6 rfl ?_;refine tkH 7 rfl ?_;refine tkH 8 rfl ?_
     refine stepH 9 (by kernel_rfl) rfl (fun K hK=>?_);go_simp;refine (mulV (HVX3.o.up HB4.o) (HVY3.o.up HB4.o) (by have:=HQX.o;have:=HQY.o;have:=HZ.o;omega)).mono ?_;rintro e w5 ⟨hb5,v5,rfl,h5⟩;have HB5:=lH (HB4.o.tm hb5);have H5:=lH h5;clear hb5 h5;go_simp;refine hK.out _ _ ?_ (fun hHeld=>?_)
     ·exact HB5.o
     clear hK K
     try simp only [Act.put,sA_,sB_,sC_]
     refine stepH 10 (by kernel_rfl) rfl (fun K hK=>?_);go_simp;refine (addV (HV3.o.up HB5.o) H5.o (by have:=mul_qsz x y;have:=HQX.o;have:=HQY.o;have:=HQS.o;have:=HZ.o;omega)).mono ?_;rintro e w6 ⟨hb6,v6,rfl,h6⟩;have HB6:=lH (HB5.o.tm hb6);have H6:=lH h6;clear hb6 h6;go_simp;refine hK.out _ _ ?_ (fun hHeld=>?_)
     ·exact HB6.o
     clear hK K
     try simp only [Act.put,sA_,sB_,sC_]
     refine wpAnyH_done (by kernel_rfl) ?_ _;refine lastQ_go (by rfl) ?_;have HKF:=lH (HK3.o.tm HB6.o);have HRF:=lH (HR3.o.bl HB6.o);have HGF:=lH (HG3.o.bl HB6.o);clear p0 p1 p2 p3 pl a0 a1 a2 a3 d0 d1 d2 d3 hab2 hab4 hbb2 hbb3 hbb4;have p0:=HGF.o.cell 0;have p1:=HGF.o.cell 1;have p2:=HGF.o.cell 2;have p3:=HGF.o.cell 3;have pf:=HGF.o.frozen;have pl:=HGF.o.lt
     go_wp2_with fail
     go_roundw
     case rel=>exact ⟨k+1,v6,hlt,val_int HN1.o,below_putQ HKF.o (zQ_ HGL.o),qfar HRF.o (Nat.ne_of_lt HGL.o),qput HGF.o,by rw [HS.o];exact H6.o.keepq HGF.o⟩
     case measure=>exact HN2.o
  ·have hke:k=n:=by omega
   subst hke;have hkI:¬(k:Int)<(k:Int):=by omega
   have HE:Hid (RtV wr wr.heap.size (dotR xs ys) v):=lH (by
    have h:=HV.o;rw [zH_ (by rw [List.length_zipWith,HAL.o];omega)] at h;exact h)
   have p0:=HG.o.cell 0;have p1:=HG.o.cell 1;have p2:=HG.o.cell 2;have p3:=HG.o.cell 3;have pl:=HG.o.lt;have z0:=HR.o.cell 0;have z1:=HR.o.cell 1;have z2:=HR.o.cell 2;have z3:=HR.o.cell 3;have zf:=HR.o.frozen;have zl:=HR.o.lt
   go_wp2_with fail
   clear p0 p1 p2 p3 pl z0 z1 z2 z3 zf zl;have HX:=lH (qput (v:=v) (x:=rv0) HR.o);have HB9:=lH (below_putQ (v:=v) HK.o lR);have HV9:=lH (HE.o.keepq (v:=v) (x:=rv0) HR.o);unfold putQ at HB9;generalize (((wr.setCell ⟨_,0,none⟩ _).setCell ⟨_,1,none⟩ _).setCell ⟨_,2,none⟩ _).setCell ⟨_,3,none⟩ _=W9 at *;have q0:=HX.o.cell 0;have q1:=HX.o.cell 1;have q2:=HX.o.cell 2;have q3:=HX.o.cell 3;exact bodyPost_ret (v:=.agg #[.bool v.b1,.slice v.A v.n v.c,.bool v.b2,.slice v.A2 v.m v.d]) (by simp [results,Tryz.results109,go_sem,q0,q1,q2,q3]) rfl ⟨HB9.o,v,rfl,HV9.o⟩
structure Mi where
 kind:Int
 name:ByteArray
 txt:ByteArray
 wt:Int
def Mi.cells (x:Mi):List Value:=[.int .i64 x.kind,.string x.name,.string x.txt,.int .i64 x.wt]
def Mi.val (x:Mi):Value:=.agg #[.int .i64 x.kind,.string x.name,.string x.txt,.int .i64 x.wt]
theorem Mi.len (x:Mi):x.cells.length=4:=rfl
def RdMi (w:World) (B:Nat) (A:Option Addr) (n:Nat) (xs:List Mi):Prop:=xs.length=n∧Rd w B 4 A n (xs.flatMap Mi.cells)
theorem RdMi.below {w w':World} {B B' n:Nat} {A:Option Addr} {xs:List Mi} (h:RdMi w B A n xs) (hb:Below B' w w') (hB:B≤B'):RdMi w' B A n xs:=⟨h.1,h.2.below hb hB⟩
theorem RdMi.more {w:World} {B B' n:Nat} {A:Option Addr} {xs:List Mi} (h:RdMi w B A n xs) (hB:B≤B'):RdMi w B' A n xs:=⟨h.1,h.2.more hB⟩
theorem RdMi.at_ {w:World} {B n:Nat} {b off:Nat} {xs:List Mi} (h:RdMi w B (some ⟨b,off,none⟩) n xs) {i:Nat} {x:Mi} (hx:xs[i]?=some x) :
    w.cell? ⟨b,off+i*4,none⟩=some (.int .i64 x.kind)∧w.cell? ⟨b,off+i*4+1,none⟩=some (.string x.name)∧w.cell? ⟨b,off+i*4+2,none⟩=some (.string x.txt)∧w.cell? ⟨b,off+i*4+3,none⟩=some (.int .i64 x.wt):=by
 have hl:i<xs.length:=(zB_.1 hx).1;have h1:=h.1;obtain ⟨b',off',e,_,hc⟩:=h.2.2 (by omega);injection e with e;injection e with e1 e2;subst e1;subst e2;have key:∀ k,k<4→∀ u,x.cells[k]?=some u→w.cell? ⟨b,off+i*4+k,none⟩=some u:=fun k hk u hu=>by
  have:=hc (i*4+k) u (by rw [flat_at Mi.len xs i x hx k hk];exact hu);rwa [←Nat.add_assoc] at this
 exact ⟨key 0 (by omega) _ rfl,key 1 (by omega) _ rfl,key 2 (by omega) _ rfl,key 3 (by omega) _ rfl⟩
theorem RdMi.form {w:World} {B n:Nat} {A:Option Addr} {xs:List Mi} (h:RdMi w B A n xs) (h0:0<n):∃ b off,A=some ⟨b,off,none⟩∧b<B:=by
 obtain ⟨b,off,e,hlt,_⟩:=h.2.2 h0;exact ⟨b,off,e,hlt⟩
theorem Mi.box {w:World} {p:Nat} {t:TypeId} {x:Mi} (h:Blk w p t #[.int .i64 x.kind,.string x.name,.string x.txt,.int .i64 x.wt]):w.cell? ⟨p,0,none⟩=some (.int .i64 x.kind)∧w.cell? ⟨p,1,none⟩=some (.string x.name)∧w.cell? ⟨p,2,none⟩=some (.string x.txt)∧w.cell? ⟨p,3,none⟩=some (.int .i64 x.wt)∧(∀ i,w.frozen? ⟨p,i,none⟩=false)∧p<w.heap.size:=
 ⟨h.cell 0,h.cell 1,h.cell 2,h.cell 3,h.frozen,h.lt⟩
structure Vc where
 A:Option Addr
 n:Nat
 c:Nat
 ss:List ByteArray
def Vc.cells (v:Vc):List Value:=[.slice v.A v.n v.c]
theorem Vc.len (v:Vc):v.cells.length=1:=rfl
def RdVc (w:World) (B:Nat) (A:Option Addr) (n:Nat) (vs:List Vc):Prop:=vs.length=n∧Rd w B 1 A n (vs.flatMap Vc.cells)∧∀ v∈vs,RdStr w B v.A v.n v.ss∧v.n≤9223372036854775807
theorem RdVc.below {w w':World} {B B' n:Nat} {A:Option Addr} {xs:List Vc} (h:RdVc w B A n xs) (hb:Below B' w w') (hB:B≤B'):RdVc w' B A n xs:=⟨h.1,h.2.1.below hb hB,fun v hv=>⟨(h.2.2 v hv).1.below hb hB,(h.2.2 v hv).2⟩⟩
theorem RdVc.more {w:World} {B B' n:Nat} {A:Option Addr} {xs:List Vc} (h:RdVc w B A n xs) (hB:B≤B'):RdVc w B' A n xs:=⟨h.1,h.2.1.more hB,fun v hv=>⟨(h.2.2 v hv).1.more hB,(h.2.2 v hv).2⟩⟩
theorem RdVc.form {w:World} {B n:Nat} {A:Option Addr} {xs:List Vc} (h:RdVc w B A n xs) (h0:0<n):∃ b off,A=some ⟨b,off,none⟩∧b<B:=by
 obtain ⟨b,off,e,hlt,_⟩:=h.2.1.2 h0;exact ⟨b,off,e,hlt⟩
theorem RdVc.at_ {w:World} {B n:Nat} {b off:Nat} {xs:List Vc} (h:RdVc w B (some ⟨b,off,none⟩) n xs) {i:Nat} {x:Vc} (hx:xs[i]?=some x):w.cell? ⟨b,off+i,none⟩=some (.slice x.A x.n x.c):=by
 have hl:i<xs.length:=(zB_.1 hx).1;have h1:=h.1;obtain ⟨b',off',e,_,hc⟩:=h.2.1.2 (by omega);injection e with e;injection e with e1 e2;subst e1;subst e2;have:=flat_at Vc.len xs i x hx 0 (by decide);rw [Nat.mul_one,Nat.add_zero] at this;exact hc i _ this
theorem samevec_any (A:Option Addr) (n c:Nat) (a:List ByteArray) (B:Option Addr) (m d:Nat) (b:List ByteArray) (w:World) (ha:RdStr w w.heap.size A n a) (hb:RdStr w w.heap.size B m b) (hn:n≤9223372036854775807) (hm:m≤9223372036854775807) :
    Calls Tryz.prog 19 #[.slice A n c,.slice B m d] w fun e w'=>e=.returned (.bool (decide (a=b)))∧Below w.heap.size w w':=by
 have hla:=lH ha.1;have hlb:=lH hb.1;have HA:=lH ha;have HB:=lH hb;clear ha hb;go_enter Tryz.func19,Tryz.ntmps19
 by_cases hnm:n=m
 ·subst hnm
  go_wp2_with fail
  go_loopw [5,13] (fun _ i wr=>∃ k:Nat,k≤n∧i=.int .i64 k∧a.take k=b.take k∧Below w.heap.size w wr) (fun _ i _=>n-(intOf i).toNat)
  case atStart=>exact ⟨0,by omega,rfl,by simp,bR⟩
  case round=>
   obtain ⟨k,hk,rfl,hab,hbw⟩:=hrel;have HAB:=lH hab;have HW:=lH hbw;clear hab hbw
   by_cases hlt:k<n
   ·obtain ⟨x,hx⟩:∃ x,a[k]?=some x:=zX_ (by have:=hla.out;omega)
    obtain ⟨y,hy⟩:∃ y,b[k]?=some y:=zX_ (by have:=hlb.out;omega);obtain ⟨ba,oa,rfl,hablt⟩:=HA.o.form (by omega);obtain ⟨bb,ob,rfl,hbblt⟩:=HB.o.form (by omega);have hca:=(HA.o.below HW.o lR).at_ hx;have hcb:=(HB.o.below HW.o lR).at_ hy;have hl1:ba<wr.heap.size:=zJ_ hablt HW.o.size;have hl2:bb<wr.heap.size:=zJ_ hbblt HW.o.size;have hltI:(k:Int)<(n:Int):=by omega
    have hkI:=lZ k
    have HN1:=lN k;have HN2:Hid (n-(k+1)<n-k):=lH (by omega)
    by_cases hxy:x=y
    ·subst hxy
     have hp:sEq x x=true:=sEq_iff.2 rfl;have HT:Hid (a.take (k+1)=b.take (k+1)):=lH (by rw [take_snoc hx,take_snoc hy,HAB.o]);clear hx hy hablt hbblt
     go_wp2_with fail
     go_quiet (fail)
     go_wp2_with fail
     go_roundw
     case rel=>exact ⟨k+1,hlt,val_int HN1.o,HT.o,below_drewN HW.o _⟩
     case measure=>exact HN2.o
    ·have hp:sEq x y=false:=sEq_ff.2 hxy
     have HT:Hid (decide (a=b)=false):=lH (by
      rw [decide_eq_false_iff_not];intro e;subst e;rw [hx] at hy;injection hy with hy;exact hxy hy)
     clear hx hy hablt hbblt hxy
     go_wp2_with fail
     go_quiet (fail)
     go_wp2_with fail
     go_ret;exact ⟨by rw [HT.o];rfl,below_drewN HW.o _⟩
   ·have hkI:¬(k:Int)<(n:Int):=by omega
    have HT:Hid (decide (a=b)=true):=lH (by
     rw [decide_eq_true_iff];have h:=HAB.o;rwa [zH_ (by have:=hla.out;omega),zH_ (by have:=hlb.out;omega)] at h)
    go_wp2_with fail
    go_ret;exact ⟨by rw [HT.o];rfl,HW.o⟩
 ·have hI:((n:Int) != (m:Int))=true:=by simp;omega
  have HT:Hid (decide (a=b)=false):=lH (by
   rw [decide_eq_false_iff_not];intro e;subst e;exact hnm (hla.out.symm.trans hlb.out))
  go_wp2_with fail
  go_ret;exact ⟨by rw [HT.o];rfl,bR⟩
theorem RdMi.bm {w w':World} {n:Nat} {A:Option Addr} {l:List Mi} (h:RdMi w w.heap.size A n l) (g:Below w.heap.size w w'):RdMi w' w'.heap.size A n l:=(h.below g lR).more g.size
theorem RdVc.bm {w w':World} {n:Nat} {A:Option Addr} {l:List Vc} (h:RdVc w w.heap.size A n l) (g:Below w.heap.size w w'):RdVc w' w'.heap.size A n l:=(h.below g lR).more g.size
end
end Go.Proofs.YthgdchffeigkbaaGreatDoor
