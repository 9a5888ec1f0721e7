import Derived.Test.YthgdchffeigkbaaGreatDoorX16
import Derived.Test.YthgdchffeigkbaaGreatDoorX17
set_option linter.unusedVariables false
set_option linter.unusedSimpArgs false
namespace Go.Proofs.YthgdchffeigkbaaGreatDoor
set_option maxHeartbeats 4000000
set_option maxRecDepth 100000
section
open Go.ChangeShapes Go.WideShapes Go.ChangeAt Go.RowKit
attribute [local go_sem ↓] aE
attribute [local go_sem] aK aH aM aY
theorem LI {xs ys:List Rat} {k:Nat} {p q:Rat} (hp:xs[k]?=some p) (hq:ys[k]?=some q):sI ((List.zipWith (·*·) xs ys).take (k+1))=sI ((List.zipWith (·*·) xs ys).take k)+p*q:=by
 rw [oL (x:=p*q) (by rw [List.getElem?_zipWith,hp,hq]),BH]
theorem nG {xs ys:List Rat} {n Z:Nat} (hn:xs.length=n) (ha:∀ q∈xs,bU q<=Z) (hb:∀ q∈ys,bU q<=Z) (k:Nat) (hk:k<=n):bU (sI ((List.zipWith (·*·) xs ys).take k))<=n*(2*Z+1)+1:=by
 have h1:((List.zipWith (·*·) xs ys).take k).length<=n:=by rw [jP,List.length_zipWith];omega
 refine cV (OU _ _ rfl (2*Z) fun q hq=>?_) ?_
 ·obtain ⟨i,hi⟩:=List.getElem?_of_mem (List.mem_of_mem_take hq)
  rw [List.getElem?_zipWith] at hi;cases h1:xs[i]? with
  | none=>rw [h1] at hi;simp at hi
  | some x=>
   cases h2:ys[i]? with
   | none=>rw [h1,h2] at hi;simp at hi
   | some y=>
    rw [h1,h2] at hi;simp at hi;subst hi;have:=eH x y;have:=ha x (cO h1);have:=hb y (cO h2);omega
 ·have:=Nat.mul_le_mul_right (2*Z+1) h1
  omega
theorem vN {q:Rat} (h:q=0):q.num.sign=0:=by subst h;rfl
theorem EN {q:Rat} (h:q≠0):(q.num.sign != 0)=true:=by
 have:q.num≠0:=fun e=>h (Rat.num_eq_zero.1 e);have:q.num.sign≠0:=fun e=>this (Int.sign_eq_zero_iff_zero.1 e);simpa using this
theorem E3 (A:OA) (n c:Nat) (B:OA) (m d:Nat) (xs ys:List Rat) (Z:Nat) (w:Wo) (hA:iF w w.heap.size A n xs) (hB:iF w w.heap.size B m ys) (I1:n<=m) (hn:n<=9223372036854775807) (ha:∀ q∈xs,bU q<=Z) (hb:∀ q∈ys,bU q<=Z) (hz:n*(2*Z+1)+2*Z+2<=35184372088832) :
    Calls Tryz.prog 109 #[.slice A n c,.slice B m d] w (QP (jJ xs ys) w):=by
 have HA:=lH hA;have HB:=lH hB;have IX:=lH hA.len;have iP:=lH hB.len;have HQA:=lH ha;have HQB:=lH hb;have HZ:=lH hz;have jW:=lH I1;have dB:Hid (Below w.heap.size w ((w.alloc (.cells #[.bool false,.slice none 0 0,.bool false,.slice none 0 0] 115)))):=lH (bA);have HR:Hid (aG ((w.alloc (.cells #[.bool false,.slice none 0 0,.bool false,.slice none 0 0] 115))) w.heap.size 115 #[.bool false,.slice none 0 0,.bool false,.slice none 0 0]):=lH (aG.new w _ _);clear hA hB ha hb hz I1;go_enter Tryz.func109,Tryz.ntmps109
 go_upto_region 1 with fail
 generalize ((w.alloc (.cells #[.bool false,.slice none 0 0,.bool false,.slice none 0 0] 115)))=W at *
 go_wp2_with fail
 refine (nT 0 W (by decide) (by decide)).mono ?_;rintro e w1 ⟨bH,v1,rfl,h1⟩;have bS:=lH (dB.o.tm bH);have tV:=lH (HR.o.bl bH);have H1:=lH h1;clear bH h1 dB HR
 go_wp2_with fail
 generalize yP:w1.alloc (.cells #[.bool v1.b1,.slice v1.A v1.n v1.c,.bool v1.b2,.slice v1.A2 v1.m v1.d] 115)=wa;have rY:Below w1.heap.size w1 wa:=by rw [<-yP];exact bA
 have nM:Hid (aG wa w1.heap.size 115 #[.bool v1.b1,.slice v1.A v1.n v1.c,.bool v1.b2,.slice v1.A2 v1.m v1.d]):=lH (by rw [<-yP];exact aG.new w1 _ _);have DP:=lH (bS.o.tm rY);have p5:=lH (tV.o.bl rY);have HVA:Hid (dL wa wa.heap.size (0:Rat) v1):=lH (by have:=H1.o.up rY;simpa using this);have tW:Hid (w.heap.size<w1.heap.size):=lH tV.o.lt;clear yP rY bS tV H1;generalize w1.heap.size=g at *
 go_loopw [10] (fun v10 wr=>∃ (k:Nat) (v:Rv),k<=n/\v10=.int .i64 k/\Below w.heap.size w wr/\aG wr w.heap.size 115 #[.bool false,.slice none 0 0,.bool false,.slice none 0 0]/\aG wr g 115 #[.bool v.b1,.slice v.A v.n v.c,.bool v.b2,.slice v.A2 v.m v.d]/\dL wr wr.heap.size (sI ((List.zipWith (·*·) xs ys).take k)) v) (fun v10 _=>n-(intOf v10).toNat)
 case atStart=>exact ⟨0,v1,by omega,rfl,DP.o,p5.o,nM.o,by rw [List.take_zero];exact HVA.o⟩
 case round=>
  clear DP p5 nM HVA;obtain ⟨k,v,hk,rfl,hb,hr,hg,hv⟩:=hrel;have HK:=lH hb;have HR:=lH hr;have HG:=lH hg;have HV:=lH hv;clear hb hr hg hv
  by_cases aW:k<n
  ·obtain ⟨x,hx⟩:∃ x,xs[k]?=some x:=eO (by have:=IX.o;omega)
   obtain ⟨y,hy⟩:∃ y,ys[k]?=some y:=eO (by have:=iP.o;have:=jW.o;omega);obtain ⟨ab,ao,AE,oS⟩:=HA.o.form (by omega);subst AE;obtain ⟨bb,bo,LB,pK⟩:=HB.o.form (by have:=jW.o;omega);subst LB;have HS:=lH (LI hx hy);have HQX:=lH (HQA.o x (cO hx));have HQY:=lH (HQB.o y (cO hy));have IK:=lH (nG IX.o HQA.o HQB.o k hk);obtain ⟨vx,a0,a1,a2,a3,a4⟩:=(HA.o.below HK.o lR).at_ hx;have HX:=lH hx;have HY:=lH hy;have aAJ:ab<wr.heap.size:=jO oS HK.o.size;have aIp:bb<wr.heap.size:=jO pK HK.o.size;have HLX:=lH oS;have HLY:=lH pK;clear hx hy oS pK;have fT:(k:Int)<(n:Int):=by omega
   have hkm:(k:Int)<(m:Int):=by have:=jW.o;omega
   have a2m:k<m:=by have:=jW.o;omega
   have eN:=lN k;have iL:Hid (n-(k+1)<n-k):=lH (by omega);have HVX:=lH ((dL.more (w:=wr) a4 HK.o.size));clear a4
   go_wp2_with fail
   refine (tF HVX.o).mono ?_;clear a0 a1 a2 a3;rintro e w2 ⟨rfl,bL⟩;have vG:=lH (HK.o.tm bL);have sC:=lH (HR.o.bl bL);have fI:=lH (HG.o.bl bL);have qY:=lH (HV.o.up bL);have aWD:=lH (HVX.o.up bL);clear bL HR HG HV HVX
   by_cases OE:x=0
   ·have hz:=vN OE
    rw [hz];have HE:Hid (sI ((List.zipWith (·*·) xs ys).take (k+1))=sI ((List.zipWith (·*·) xs ys).take k)):=lH (by rw [HS.o,OE,Rat.zero_mul,Rat.add_zero]);clear hz OE
    go_wp2_with fail
    go_roundw
    case rel=>exact ⟨k+1,v,aW,aQ eN.o,vG.o,sC.o,fI.o,by rw [HE.o];exact qY.o⟩
    case measure=>exact iL.o
   ·have hz:=EN OE
    generalize x.num.sign=z at hz ⊢;clear OE;obtain ⟨vy,a0,a1,a2,a3,a4⟩:=(HB.o.below vG.o lR).at_ HY.o;have aRh:=lH (dL.more (w:=w2) a4 vG.o.size);have aVR:bb<w2.heap.size:=jO HLY.o vG.o.size;clear a4
    go_wp2_with fail
    refine (tF aRh.o).mono ?_;clear a0 a1 a2 a3;rintro e w3 ⟨rfl,cR⟩;have JY:=lH (vG.o.tm cR);have sY:=lH (sC.o.bl cR);have L3:=lH (fI.o.bl cR);have u_:=lH (qY.o.up cR);clear cR sC fI qY aWD aRh
    by_cases wC:y=0
    ·have lQ:=vN wC
     rw [lQ];have HE:Hid (sI ((List.zipWith (·*·) xs ys).take (k+1))=sI ((List.zipWith (·*·) xs ys).take k)):=lH (by rw [HS.o,wC,Rat.mul_zero,Rat.add_zero]);clear lQ wC
     go_wp2_with fail
     go_roundw
     case rel=>exact ⟨k+1,v,aW,aQ eN.o,JY.o,sY.o,L3.o,by rw [HE.o];exact u_.o⟩
     case measure=>exact iL.o
    ·have lQ:=EN wC
     generalize y.num.sign=z2 at lQ ⊢;clear wC
     go_upto_region 6 with fail
     clear hz lQ;obtain ⟨vx,a0,a1,a2,a3,a4⟩:=(HA.o.below JY.o lR).at_ HX.o;have aWC:=lH (dL.more (w:=w3) a4 JY.o.size);obtain ⟨vy,d0,d1,d2,d3,d4⟩:=(HB.o.below JY.o lR).at_ HY.o;have aWB:=lH (dL.more (w:=w3) d4 JY.o.size);have aVU:ab<w3.heap.size:=jO HLX.o JY.o.size;have aVQ:bb<w3.heap.size:=jO HLY.o JY.o.size;clear a4 d4;have p0:=L3.o.cell 0;have p1:=L3.o.cell 1;have p2:=L3.o.cell 2;have p3:=L3.o.cell 3;have pl:=L3.o.lt;have bK:=lH (aD (Below.refl w3.heap.size w3));refine aJ (S:=fun w'=>Below w3.heap.size w3 w') 11 _ (by kernel_rfl) (by kernel_rfl) rfl bK.o (fun hHeld=>?_);simp only [lA,List.take_zero];refine aL 0 rfl ?_;refine aL 1 rfl ?_;refine aL 2 rfl ?_;refine aL 3 rfl ?_;refine aL 4 rfl ?_;refine aL 5 rfl ?_;refine aL 6 rfl ?_;refine aL 7 rfl ?_;refine aL 8 rfl ?_
     refine aU 9 (by kernel_rfl) rfl (fun K hK=>?_);go_simp;refine (MR (aWC.o.up bK.o) (aWB.o.up bK.o) (by have:=HQX.o;have:=HQY.o;have:=HZ.o;omega)).mono ?_;rintro e w5 ⟨eD,v5,rfl,h5⟩;have dX:=lH (bK.o.tm eD);have H5:=lH h5;clear eD h5;go_simp;refine hK.out _ _ ?_ (fun hHeld=>?_)
     ·exact dX.o
     clear hK K
     try simp only [Act.put,bP,bO,bN]
     refine aU 10 (by kernel_rfl) rfl (fun K hK=>?_);go_simp;refine (ID (u_.o.up dX.o) H5.o (by have:=eH x y;have:=HQX.o;have:=HQY.o;have:=IK.o;have:=HZ.o;omega)).mono ?_;rintro e w6 ⟨fQ,v6,rfl,h6⟩;have fV:=lH (dX.o.tm fQ);have H6:=lH h6;clear fQ h6;go_simp;refine hK.out _ _ ?_ (fun hHeld=>?_)
     ·exact fV.o
     clear hK K
     try simp only [Act.put,bP,bO,bN]
     refine wpAnyH_done (by kernel_rfl) ?_ _;refine aP (by rfl) ?_;have HKF:=lH (JY.o.tm fV.o);have HRF:=lH (sY.o.bl fV.o);have eP:=lH (L3.o.bl fV.o);clear p0 p1 p2 p3 pl a0 a1 a2 a3 d0 d1 d2 d3 aAJ aVU aIp aVR aVQ;have p0:=eP.o.cell 0;have p1:=eP.o.cell 1;have p2:=eP.o.cell 2;have p3:=eP.o.cell 3;have pf:=eP.o.frozen;have pl:=eP.o.lt
     go_wp2_with fail
     go_roundw
     case rel=>exact ⟨k+1,v6,aW,aQ eN.o,dM HKF.o (rC tW.o),aT3 HRF.o (Nat.ne_of_lt tW.o),TP eP.o,by rw [HS.o];exact H6.o.keepq eP.o⟩
     case measure=>exact iL.o
  ·have lS:k=n:=by omega
   subst lS;have fT:¬(k:Int)<(k:Int):=by omega
   have HE:Hid (dL wr wr.heap.size (jJ xs ys) v):=lH (by
    have h:=HV.o;rw [nW (by rw [List.length_zipWith,IX.o];omega)] at h;exact h)
   have p0:=HG.o.cell 0;have p1:=HG.o.cell 1;have p2:=HG.o.cell 2;have p3:=HG.o.cell 3;have pl:=HG.o.lt;have z0:=HR.o.cell 0;have z1:=HR.o.cell 1;have z2:=HR.o.cell 2;have z3:=HR.o.cell 3;have zf:=HR.o.frozen;have zl:=HR.o.lt
   go_wp2_with fail
   clear p0 p1 p2 p3 pl z0 z1 z2 z3 zf zl;have HX:=lH (TP (v:=v) (x:=EQ) HR.o);have cQ:=lH (dM (v:=v) HK.o lR);have HV9:=lH (HE.o.keepq (v:=v) (x:=EQ) HR.o);unfold DU at cQ;generalize (((wr.setCell ⟨_,0,none⟩ _).setCell ⟨_,1,none⟩ _).setCell ⟨_,2,none⟩ _).setCell ⟨_,3,none⟩ _=W9 at *;have q0:=HX.o.cell 0;have q1:=HX.o.cell 1;have q2:=HX.o.cell 2;have q3:=HX.o.cell 3;exact bodyPost_ret (v:=.agg #[.bool v.b1,.slice v.A v.n v.c,.bool v.b2,.slice v.A2 v.m v.d]) (by simp [results,Tryz.results109,go_sem,q0,q1,q2,q3]) rfl ⟨cQ.o,v,rfl,HV9.o⟩
structure Mi where
 kind:Int
 name:ByteArray
 txt:ByteArray
 wt:Int
def Mi.cells (x:Mi):List Value:=[.int .i64 x.kind,.string x.name,.string x.txt,.int .i64 x.wt]
def Mi.val (x:Mi):Value:=.agg #[.int .i64 x.kind,.string x.name,.string x.txt,.int .i64 x.wt]
theorem Mi.len (x:Mi):x.cells.length=4:=rfl
def eG (w:Wo) (B:Nat) (A:OA) (n:Nat) (xs:List Mi):Prop:=xs.length=n/\Rd w B 4 A n (xs.flatMap Mi.cells)
theorem eG.below {w w':Wo} {B B' n:Nat} {A:OA} {xs:List Mi} (h:eG w B A n xs) (hb:Below B' w w') (hB:B<=B'):eG w' B A n xs:=⟨h.1,h.2.below hb hB⟩
theorem eG.more {w:Wo} {B B' n:Nat} {A:OA} {xs:List Mi} (h:eG w B A n xs) (hB:B<=B'):eG w B' A n xs:=⟨h.1,h.2.more hB⟩
theorem eG.at_ {w:Wo} {B n:Nat} {b off:Nat} {xs:List Mi} (h:eG w B (some ⟨b,off,none⟩) n xs) {i:Nat} {x:Mi} (hx:xs[i]?=some x) :
    w.cell? ⟨b,off+i*4,none⟩=some (.int .i64 x.kind)/\w.cell? ⟨b,off+i*4+1,none⟩=some (.string x.name)/\w.cell? ⟨b,off+i*4+2,none⟩=some (.string x.txt)/\w.cell? ⟨b,off+i*4+3,none⟩=some (.int .i64 x.wt):=by
 have hl:i<xs.length:=(dP.1 hx).1;have h1:=h.1;obtain ⟨b',off',e,_,hc⟩:=h.2.2 (by omega);injection e with e;injection e with e1 e2;subst e1;subst e2;have key:∀ k,k<4->∀ u,x.cells[k]?=some u->w.cell? ⟨b,off+i*4+k,none⟩=some u:=fun k hk u hu=>by
  have:=hc (i*4+k) u (by rw [jT Mi.len xs i x hx k hk];exact hu);rwa [<-Nat.add_assoc] at this
 exact ⟨key 0 (by omega) _ rfl,key 1 (by omega) _ rfl,key 2 (by omega) _ rfl,key 3 (by omega) _ rfl⟩
theorem eG.form {w:Wo} {B n:Nat} {A:OA} {xs:List Mi} (h:eG w B A n xs) (h0:0<n):∃ b off,A=some ⟨b,off,none⟩/\b<B:=by
 obtain ⟨b,off,e,aW,_⟩:=h.2.2 h0;exact ⟨b,off,e,aW⟩
theorem Mi.box {w:Wo} {p:Nat} {t:TypeId} {x:Mi} (h:aG w p t #[.int .i64 x.kind,.string x.name,.string x.txt,.int .i64 x.wt]):w.cell? ⟨p,0,none⟩=some (.int .i64 x.kind)/\w.cell? ⟨p,1,none⟩=some (.string x.name)/\w.cell? ⟨p,2,none⟩=some (.string x.txt)/\w.cell? ⟨p,3,none⟩=some (.int .i64 x.wt)/\(∀ i,w.frozen? ⟨p,i,none⟩=false)/\p<w.heap.size:=
 ⟨h.cell 0,h.cell 1,h.cell 2,h.cell 3,h.frozen,h.lt⟩
structure Vc where
 A:OA
 n:Nat
 c:Nat
 ss:List ByteArray
def Vc.cells (v:Vc):List Value:=[.slice v.A v.n v.c]
theorem Vc.len (v:Vc):v.cells.length=1:=rfl
def wY (w:Wo) (B:Nat) (A:OA) (n:Nat) (vs:List Vc):Prop:=vs.length=n/\Rd w B 1 A n (vs.flatMap Vc.cells)/\∀ v∈vs,bG w B v.A v.n v.ss/\v.n<=9223372036854775807
theorem wY.below {w w':Wo} {B B' n:Nat} {A:OA} {xs:List Vc} (h:wY w B A n xs) (hb:Below B' w w') (hB:B<=B'):wY w' B A n xs:=⟨h.1,h.2.1.below hb hB,fun v hv=>⟨(h.2.2 v hv).1.below hb hB,(h.2.2 v hv).2⟩⟩
theorem wY.more {w:Wo} {B B' n:Nat} {A:OA} {xs:List Vc} (h:wY w B A n xs) (hB:B<=B'):wY w B' A n xs:=⟨h.1,h.2.1.more hB,fun v hv=>⟨(h.2.2 v hv).1.more hB,(h.2.2 v hv).2⟩⟩
theorem wY.form {w:Wo} {B n:Nat} {A:OA} {xs:List Vc} (h:wY w B A n xs) (h0:0<n):∃ b off,A=some ⟨b,off,none⟩/\b<B:=by
 obtain ⟨b,off,e,aW,_⟩:=h.2.1.2 h0;exact ⟨b,off,e,aW⟩
theorem wY.at_ {w:Wo} {B n:Nat} {b off:Nat} {xs:List Vc} (h:wY w B (some ⟨b,off,none⟩) n xs) {i:Nat} {x:Vc} (hx:xs[i]?=some x):w.cell? ⟨b,off+i,none⟩=some (.slice x.A x.n x.c):=by
 have hl:i<xs.length:=(dP.1 hx).1;have h1:=h.1;obtain ⟨b',off',e,_,hc⟩:=h.2.1.2 (by omega);injection e with e;injection e with e1 e2;subst e1;subst e2;have:=jT Vc.len xs i x hx 0 (by decide);rw [Nat.mul_one,Nat.add_zero] at this;exact hc i _ this
theorem qC (A:OA) (n c:Nat) (a:List ByteArray) (B:OA) (m d:Nat) (b:List ByteArray) (w:Wo) (ha:bG w w.heap.size A n a) (hb:bG w w.heap.size B m b) (hn:n<=9223372036854775807) (hm:m<=9223372036854775807) :
    Calls Tryz.prog 19 #[.slice A n c,.slice B m d] w fun e w'=>e=.returned (.bool (decide (a=b)))/\Below w.heap.size w w':=by
 have hla:=lH ha.1;have hlb:=lH hb.1;have HA:=lH ha;have HB:=lH hb;clear ha hb;go_enter Tryz.func19,Tryz.ntmps19
 by_cases I1:n=m
 ·subst I1
  go_wp2_with fail
  go_loopw [5,13] (fun _ i wr=>∃ k:Nat,k<=n/\i=.int .i64 k/\a.take k=b.take k/\Below w.heap.size w wr) (fun _ i _=>n-(intOf i).toNat)
  case atStart=>exact ⟨0,by omega,rfl,by simp,bR⟩
  case round=>
   obtain ⟨k,hk,rfl,oS,CF⟩:=hrel;have HAB:=lH oS;have HW:=lH CF;clear oS CF
   by_cases aW:k<n
   ·obtain ⟨x,hx⟩:∃ x,a[k]?=some x:=eO (by have:=hla.out;omega)
    obtain ⟨y,hy⟩:∃ y,b[k]?=some y:=eO (by have:=hlb.out;omega);obtain ⟨ba,oa,rfl,YA⟩:=HA.o.form (by omega);obtain ⟨bb,ob,rfl,X9⟩:=HB.o.form (by omega);have VC:=(HA.o.below HW.o lR).at_ hx;have hcb:=(HB.o.below HW.o lR).at_ hy;have hl1:ba<wr.heap.size:=jO YA HW.o.size;have hl2:bb<wr.heap.size:=jO X9 HW.o.size;have aUX:(k:Int)<(n:Int):=by omega
    have fT:=lZ k
    have eN:=lN k;have iL:Hid (n-(k+1)<n-k):=lH (by omega)
    by_cases hxy:x=y
    ·subst hxy
     have hp:pR x x=true:=sK.2 rfl;have HT:Hid (a.take (k+1)=b.take (k+1)):=lH (by rw [oL hx,oL hy,HAB.o]);clear hx hy YA X9
     go_wp2_with fail
     go_quiet (fail)
     go_wp2_with fail
     go_roundw
     case rel=>exact ⟨k+1,aW,aQ eN.o,HT.o,bC HW.o _⟩
     case measure=>exact iL.o
    ·have hp:pR x y=false:=BK.2 hxy
     have HT:Hid (decide (a=b)=false):=lH (by
      rw [decide_eq_false_iff_not];intro e;subst e;rw [hx] at hy;injection hy with hy;exact hxy hy)
     clear hx hy YA X9 hxy
     go_wp2_with fail
     go_quiet (fail)
     go_wp2_with fail
     go_ret;exact ⟨by rw [HT.o];rfl,bC HW.o _⟩
   ·have fT:¬(k:Int)<(n:Int):=by omega
    have HT:Hid (decide (a=b)=true):=lH (by
     rw [decide_eq_true_iff];have h:=HAB.o;rwa [nW (by have:=hla.out;omega),nW (by have:=hlb.out;omega)] at h)
    go_wp2_with fail
    go_ret;exact ⟨by rw [HT.o];rfl,HW.o⟩
 ·have hI:((n:Int) != (m:Int))=true:=by simp;omega
  have HT:Hid (decide (a=b)=false):=lH (by
   rw [decide_eq_false_iff_not];intro e;subst e;exact I1 (hla.out.symm.trans hlb.out))
  go_wp2_with fail
  go_ret;exact ⟨by rw [HT.o];rfl,bR⟩
theorem eG.bm {w w':Wo} {n:Nat} {A:OA} {l:List Mi} (h:eG w w.heap.size A n l) (g:Below w.heap.size w w'):eG w' w'.heap.size A n l:=(h.below g lR).more g.size
theorem wY.bm {w w':Wo} {n:Nat} {A:OA} {l:List Vc} (h:wY w w.heap.size A n l) (g:Below w.heap.size w w'):wY w' w'.heap.size A n l:=(h.below g lR).more g.size
end
section
def Tn (k:Nat) (q:Rat):Prop:=q.num.natAbs<10^k/\q.den<10^k
theorem Tn.mono {k m:Nat} {q:Rat} (h:Tn k q) (hm:k<=m):Tn m q:=
 ⟨jO h.1 (Nat.pow_le_pow_right (by decide) hm),jO h.2 (Nat.pow_le_pow_right (by decide) hm)⟩
theorem Tn.fits {k:Nat} {q:Rat} (h:Tn k q) (hk:k<=2000):bZ q:=by
 have h2:=h.mono hk;exact ⟨T_ (by decide) h2.1,T_ (by decide) h2.2⟩
theorem J7 {k:Nat} {n:Int} {d:Nat} (hd:d≠0) (h1:n.natAbs<10^k) (h2:d<10^k):Tn k (Rat.divInt n d):=by
 have h3:=(rM n hd).1;have h4:=(mP n hd).2;unfold Tn;rw [h3,h4];exact ⟨WT (Nat.div_le_self ..) h1,WT (Nat.div_le_self ..) h2⟩
theorem aCu {s:ByteArray} (h:cX s.data.toList=0):Tn (s.size+1) (kB s):=by
 obtain ⟨h1,h2,-,-,h5,h6,-,-⟩:=uD h;have hs:s.data.toList.length=s.size:=by rw [Array.length_toList];rfl
 have hl:=congrArg List.length (BM s.data.toList);have hl2:=congrArg List.length (oP s.data.toList);rw [iC] at hl hl2;have k1:(tP s.data.toList).length<=s.size:=by omega
 refine ⟨?_,?_⟩
 ·show (jF s.data.toList).num.natAbs<_
  rw [h1,ES];exact jO (G3 h5) (Nat.pow_le_pow_right (by decide) (by omega))
 ·show (jF s.data.toList).den<_
  rw [h2];unfold CM
  split
  ·rename_i hi
   rw [if_pos hi,E_] at hl;exact jO (G3 h6) (Nat.pow_le_pow_right (by decide) (by omega))
  ·rw [Nat.pow_succ]
   have:0<10^s.size:=Nat.pow_pos (by decide);omega
theorem aG6 {s:ByteArray} (h:cX s.data.toList=0) (hs:s.size<=24):Tn 25 (kB s):=(aCu h).mono (by omega)
def Ot (D B:Nat) (q:Rat):Prop:=∃ z:Int,q*((D:Int):Rat)=(z:Rat)/\z.natAbs<=B*D
theorem MO {D B C:Nat} {p q:Rat} (hp:Ot D B p) (hq:Ot D C q):Ot D (B+C) (p+q):=by
 obtain ⟨a,h1,h2⟩:=hp;obtain ⟨b,h3,h4⟩:=hq;refine ⟨a+b,by rw [Rat.add_mul,h1,h3,Rat.intCast_add],?_⟩;have:=Int.natAbs_add_le a b;rw [Nat.add_mul];omega
theorem T1 {D B:Nat} {q:Rat} (hq:Ot D B q):Ot D B (-q):=by
 obtain ⟨a,h1,h2⟩:=hq;exact ⟨-a,by rw [Rat.neg_mul,h1,Rat.intCast_neg],by rw [Int.natAbs_neg];exact h2⟩
theorem aLq {D E B C:Nat} {p q:Rat} (hp:Ot D B p) (hq:Ot E C q):Ot (D*E) (B*C) (p*q):=by
 obtain ⟨a,h1,h2⟩:=hp;obtain ⟨b,h3,h4⟩:=hq;refine ⟨a*b,?_,?_⟩
 ·rw [Rat.intCast_mul,<-h1,<-h3,Int.natCast_mul,Rat.intCast_mul];grind
 ·rw [Int.natAbs_mul]
  have:=Nat.mul_le_mul h2 h4;have e:B*D*(C*E)=B*C*(D*E):=by grind
  omega
theorem XO (D:Nat):Ot D 0 0:=⟨0,by rw [Rat.zero_mul];rfl,by simp⟩
theorem aLp {D:Nat}:Ot D 1 1:=⟨(D:Int),by rw [Rat.one_mul],by simp⟩
theorem oD {D B C:Nat} {q:Rat} (h:Ot D B q) (hb:B<=C):Ot D C q:=by
 obtain ⟨a,h1,h2⟩:=h;exact ⟨a,h1,cV h2 (Nat.mul_le_mul hb lR)⟩
theorem T2 {D E B:Nat} {q:Rat} (h:Ot D B q) (hd:D∣E):Ot E B q:=by
 obtain ⟨a,h1,h2⟩:=h;obtain ⟨k,rfl⟩:=hd;refine ⟨a*k,?_,?_⟩
 ·rw [Rat.intCast_mul,<-h1,Int.natCast_mul,Rat.intCast_mul,Rat.mul_assoc]
 ·rw [Int.natAbs_mul,Int.natAbs_natCast,<-Nat.mul_assoc]
  exact Nat.mul_le_mul h2 lR
theorem T3 {n:Int} {d B:Nat} (hd:d≠0) (h:n.natAbs<=B*d):Ot d B (Rat.divInt n d):=by
 refine ⟨n,?_,h⟩;rw [Rat.divInt_eq_div,Rat.div_mul_cancel];intro e;have:((d:Int):Rat)=((0:Int):Rat):=e;rw [Rat.intCast_inj] at this;omega
theorem aOP {k:Nat} {q:Rat} (h:Tn k q):Ot q.den (10^k) q:=by
 have h1:=T3 (n:=q.num) (d:=q.den) (B:=10^k) q.den_nz (cV (rC h.1) (Nat.le_mul_of_pos_right _ (Nat.pos_of_ne_zero q.den_nz)));rwa [Rat.num_divInt_den] at h1
theorem PP:∀ (K:Nat) (l:List Nat),l.Nodup->(∀ x∈l,x<K)->l.length<=K
 | 0,l,_,h=>by
  cases l with
  | nil=>exact lR
  | cons a l=>exact absurd (h a (by simp)) (by omega)
 | K+1,l,hn,h=>by
  have h1:=PP K (l.erase K) (hn.erase K) fun x hx=>by
   have h2:=(List.Nodup.mem_erase_iff hn).1 hx;have:=h x h2.2;omega
  have h2:=List.length_erase (a:=K) (l:=l)
  split at h2<;>omega
theorem aLo {N K:Nat} (f:Nat->Nat) (hf:∀ u,u<N->f u<K) (h:K<N):∃ u v,u<v/\v<N/\f u=f v:=by
 refine Classical.byContradiction fun cP=>?_;have hnd:((List.range N).map f).Nodup:=by
  rw [List.nodup_iff_pairwise_ne,List.pairwise_map];refine List.Pairwise.imp_of_mem ?_ List.pairwise_lt_range;intro a b ha hb oS he;exact cP ⟨a,b,oS,List.mem_range.1 hb,he⟩
 have:=PP K _ hnd fun x hx=>by
  obtain ⟨u,hu,rfl⟩:=List.mem_map.1 hx;exact hf u (List.mem_range.1 hu)
 rw [lB,List.length_range] at this;omega
def uW (B:Nat) (e:Nat->Nat):Nat->Nat
 | 0=>0
 | n+1=>uW B e n*B+e n
theorem RF {B:Nat} {e:Nat->Nat}:∀ {n:Nat},(∀ i,i<n->e i<B)->uW B e n<B^n
 | 0,_=>by simp [uW]
 | n+1,h=>by
  have h1:=RF (n:=n) fun i hi=>h i (by omega);have h2:=h n (by omega);simp only [uW,Nat.pow_succ];have h3:(uW B e n+1)*B<=B^n*B:=Nat.mul_le_mul_right _ h1;rw [Nat.add_mul] at h3;omega
theorem LS {B:Nat} {e f:Nat->Nat}:∀ {n:Nat},(∀ i,i<n->e i<B)->(∀ i,i<n->f i<B)->uW B e n=uW B f n->∀ i,i<n->e i=f i
 | 0,_,_,_,i,hi=>by omega
 | n+1,h,k,he,i,hi=>by
  have h1:=h n (by omega);have h2:=k n (by omega);simp only [uW] at he;have hm:e n=f n:=by
   have h3:=congrArg (· % B) he;simp only [Nat.mul_comm _ B,Nat.mul_add_mod] at h3;rwa [Nat.mod_eq_of_lt h1,Nat.mod_eq_of_lt h2] at h3
  rw [hm] at he;have hd:uW B e n=uW B f n:=Nat.eq_of_mul_eq_mul_right (by omega:0<B) (by omega)
  by_cases lG:i=n
  ·subst lG;exact hm
  ·exact LS (fun i hi=>h i (by omega)) (fun i hi=>k i (by omega)) hd i (by omega)
theorem G5 {B u v:Nat}:∀ {n:Nat},(∀ j,j<n->u / B^j % B=v / B^j % B)->u / B^n=v / B^n->u=v
 | 0,_,h=>by simpa using h
 | n+1,hd,h=>by
  refine G5 (n:=n) (fun j hj=>hd j (by omega)) ?_;rw [Nat.pow_succ,<-Nat.div_div_eq_div_mul,<-Nat.div_div_eq_div_mul] at h;have h1:=Nat.div_add_mod (u / B^n) B;have h2:=Nat.div_add_mod (v / B^n) B;rw [h,hd n (by omega)] at h1;omega
def pD:Nat->(Nat->Int)->Int
 | 0,_=>0
 | n+1,f=>pD n f+f n
theorem FK:∀ {n:Nat} {f g:Nat->Int},(∀ i,i<n->f i=g i)->pD n f=pD n g
 | 0,_,_,_=>rfl
 | n+1,f,g,h=>by simp only [pD];rw [FK fun i hi=>h i (by omega),h n (by omega)]
theorem OV (f g:Nat->Int):∀ n:Nat,pD n (fun i=>f i-g i)=pD n f-pD n g
 | 0=>rfl
 | n+1=>by simp only [pD];rw [OV f g n];omega
theorem OW {B:Nat} {f:Nat->Int}:∀ {n:Nat},(∀ i,i<n->(f i).natAbs<=B)->(pD n f).natAbs<=n*B
 | 0,_=>by simp [pD]
 | n+1,h=>by
  have h1:=OW (n:=n) fun i hi=>h i (by omega);have h2:=h n (by omega);simp only [pD];have h3:=Int.natAbs_add_le (pD n f) (f n);rw [Nat.add_mul];omega
theorem ZV {n BA Bb H1 H2:Nat} {A:Nat->Nat->Int} {b:Nat->Int} (hA:∀ i j,i<n->j<n->(A i j).natAbs<=BA) (hb:∀ i,i<n->(b i).natAbs<=Bb)
    (fN:∀ z:Nat->Int,(∀ i,i<n->pD n (fun j=>A i j*z j)=0)->∀ j,j<n->z j=0)
    (hc:(2*(n*(BA*H1)+Bb*H2)+1)^n<(H1+1)^n*(H2+1)) :
    ∃ (z:Nat->Int) (t:Int),t≠0/\t.natAbs<=H2/\(∀ j,j<n->(z j).natAbs<=H1)/\∀ i,i<n->pD n (fun j=>A i j*z j)=b i*t:=by
 obtain ⟨S,hS⟩:∃ S,S=n*(BA*H1)+Bb*H2:=⟨_,rfl⟩;rw [<-hS] at hc;obtain ⟨dg,hdg⟩:∃ dg:Nat->Nat->Nat,dg=fun u j=>u / (H1+1)^j % (H1+1):=⟨_,rfl⟩;obtain ⟨tp,htp⟩:∃ tp:Nat->Nat,tp=fun u=>u / (H1+1)^n:=⟨_,rfl⟩;have hd:∀ u j,dg u j<=H1:=fun u j=>by
  rw [hdg];have:=Nat.mod_lt (u / (H1+1)^j) (show 0<H1+1 by omega);simp only;omega
 have ht:∀ u,u<(H1+1)^n*(H2+1)->tp u<=H2:=fun u hu=>by
  rw [htp];have:=Nat.div_lt_of_lt_mul hu;simp only;omega
 obtain ⟨lin,aPU⟩:∃ lin:Nat->Nat->Int,lin=fun u i=>pD n (fun j=>A i j*(dg u j:Int))-b i*(tp u:Int):=⟨_,rfl⟩;have hl:∀ u i,u<(H1+1)^n*(H2+1)->i<n->(lin u i).natAbs<=S:=fun u i hu hi=>by
  have h1:=OW (B:=BA*H1) (n:=n) (f:=fun j=>A i j*(dg u j:Int)) fun j hj=>by
   rw [Int.natAbs_mul,Int.natAbs_natCast];exact Nat.mul_le_mul (hA i j hi hj) (hd u j)
  have h2:(b i*(tp u:Int)).natAbs<=Bb*H2:=by
   rw [Int.natAbs_mul,Int.natAbs_natCast];exact Nat.mul_le_mul (hb i hi) (ht u hu)
  rw [aPU];simp only;omega
 obtain ⟨cd,hcd⟩:∃ cd:Nat->Nat->Nat,cd=fun u i=>(lin u i+(S:Int)).toNat:=⟨_,rfl⟩;have wV:∀ u,u<(H1+1)^n*(H2+1)->∀ i,i<n->cd u i<2*S+1:=fun u hu i hi=>by
  have:=hl u i hu hi;rw [hcd];simp only;omega
 obtain ⟨u,v,huv,hvN,he⟩:=aLo (N:=(H1+1)^n*(H2+1)) (K:=(2*S+1)^n) (fun u=>uW (2*S+1) (cd u) n) (fun u hu=>RF (wV u hu)) hc;have huN:u<(H1+1)^n*(H2+1):=by omega
 have hee:=LS (wV u huN) (wV v hvN) he;have aJ5:∀ i,i<n->pD n (fun j=>A i j*((dg v j:Int)-(dg u j:Int)))=b i*((tp v:Int)-(tp u:Int)):=fun i hi=>by
  have h1:=hee i hi;have h2:=hl u i huN hi;have h3:=hl v i hvN hi;have h4:lin u i=lin v i:=by
   rw [hcd] at h1;simp only at h1;omega
  rw [aPU] at h4;simp only at h4;have h5:pD n (fun j=>A i j*((dg v j:Int)-(dg u j:Int)))=pD n (fun j=>A i j*(dg v j:Int))-pD n (fun j=>A i j*(dg u j:Int)):=by
   rw [<-OV];exact FK fun j hj=>Int.mul_sub _ _ _
  rw [h5,Int.mul_sub];omega
 refine ⟨fun j=>(dg v j:Int)-(dg u j:Int),(tp v:Int)-(tp u:Int),fun h0=>?_,?_,fun j hj=>?_,aJ5⟩
 ·have hz:=fN (fun j=>(dg v j:Int)-(dg u j:Int)) fun i hi=>by
   rw [aJ5 i hi,h0,Int.mul_zero]
  have:u=v:=G5 (B:=H1+1) (n:=n) (fun j hj=>by
   have h5:(dg v j:Int)-(dg u j:Int)=0:=hz j hj;have h6:dg u j=dg v j:=by omega
   rw [hdg] at h6;exact h6) (by
   have h7:tp u=tp v:=by omega
   rw [htp] at h7;exact h7)
  omega
 ·have h1:=ht u huN
  have h2:=ht v hvN;omega
 ·have h1:=hd u j
  have h2:=hd v j;simp only;omega
end
section
namespace Ls
variable {L:Ls}
theorem SolK.symm {j k:Nat} {u v:Fn} (hu:L.SolK k u) (hv:L.SolK j v):bB L.n (L.R j) u=bB L.n (L.R k) v:=by
 rw [hu.dot v,hv.dot u];exact aN fun i _=>by grind
end Ls
end
section
theorem BI (f:Nat->Int):∀ n:Nat,((pD n f:Int):Rat)=aO n fun i=>(f i:Rat)
 | 0=>rfl
 | n+1=>by
  simp only [pD,aO];rw [Rat.intCast_add,BI f n]
theorem ZS {n BA Bb H1 H2:Nat} {A:Nat->Nat->Int} {b:Nat->Int} {x:Fn} {V:Rat} (hA:∀ i j,i<n->j<n->(A i j).natAbs<=BA) (hb:∀ i,i<n->(b i).natAbs<=Bb)
    (fN:∀ c:Fn,(∀ i,i<n->aO n (fun j=>(A i j:Rat)*c j)=0)->∀ j,j<n->c j=0)
    (hx:∀ i,i<n->aO n (fun j=>(A i j:Rat)*(V*x j))=(b i:Rat))
    (hc:(2*(n*(BA*H1)+Bb*H2)+1)^n<(H1+1)^n*(H2+1)) :
    ∃ t:Int,t≠0/\t.natAbs<=H2/\∀ j,j<n->∃ z:Int,z.natAbs<=H1/\V*x j*(t:Rat)=(z:Rat):=by
 obtain ⟨z,t,h0,h1,h2,h3⟩:=ZV hA hb (fun z hz j hj=>by
  have:=fN (fun j=>(z j:Rat)) (fun i hi=>by
   have h:((pD n (fun j=>A i j*z j):Int):Rat)=((0:Int):Rat):=congrArg (fun q:Int=>(q:Rat)) (hz i hi);rw [BI] at h;rw [<-show ((0:Int):Rat)=0 from rfl,<-h];exact aN fun j _=>(Rat.intCast_mul _ _).symm) j hj
  exact Rat.intCast_inj.1 (by rw [this];rfl)) hc
 refine ⟨t,h0,h1,fun j hj=>⟨z j,h2 j hj,?_⟩⟩;have hz:=fN (fun j=>V*x j*(t:Rat)+(-1)*(z j:Rat)) (fun i hi=>by
  have e:aO n (fun j=>(A i j:Rat)*(V*x j*(t:Rat)+(-1)*(z j:Rat)))=(t:Rat)*aO n (fun j=>(A i j:Rat)*(V*x j))+(-1)*aO n (fun j=>(A i j:Rat)*(z j:Rat)):=by
   rw [<-bY,<-bY,<-fX];exact aN fun j _=>by grind
  have h:((pD n (fun j=>A i j*z j):Int):Rat)=((b i*t:Int):Rat):=congrArg (fun q:Int=>(q:Rat)) (h3 i hi);rw [BI,Rat.intCast_mul] at h;have e2:aO n (fun j=>((A i j*z j:Int):Rat))=aO n (fun j=>(A i j:Rat)*(z j:Rat)):=aN fun j _=>Rat.intCast_mul _ _;rw [e,hx i hi,<-e2,h];grind) j hj
 have:V*x j*(t:Rat)+(-1)*(z j:Rat)=0:=hz;grind
end
