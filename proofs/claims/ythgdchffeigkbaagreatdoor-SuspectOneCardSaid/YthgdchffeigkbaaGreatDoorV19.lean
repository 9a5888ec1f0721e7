import Derived.Test.YthgdchffeigkbaaGreatDoorV14
set_option linter.unusedVariables false
set_option linter.unusedSimpArgs false
namespace Go.Proofs.YthgdchffeigkbaaGreatDoor
set_option maxHeartbeats 4000000
set_option maxRecDepth 100000
variable {A : OA} {B B' C D k n : Nat} {p q : Rat} {w w' : World}
section
open Go.ChangeShapes Go.WideShapes Go.ChangeAt Go.RowKit
attribute [local go_sem ↓] aE
attribute [local go_sem] aJ aI aM aR
theorem NH{xs ys:List Rat}(hp:xs[k]?=some p)(hq:ys[k]?=some q):sS ((List.zipWith (·*·) xs ys).take (k+1))=sS ((List.zipWith (·*·) xs ys).take k)+p*q:=by
 rw[pU (x:=p*q) (by rw[List.getElem?_zipWith,hp,hq]),DW]
theorem nC{xs ys:List Rat}{Z:Nat}(hn:xs.length=n)(ha:∀q∈xs,bI q<=Z)(hb:∀q∈ys,bI q<=Z)(k:Nat)(hk:k<=n):bI (sS ((List.zipWith (·*·) xs ys).take k))<=n*(2*Z+1)+1:=by
 have h1:((List.zipWith (·*·) xs ys).take k).length<=n:=by rw[kR,List.length_zipWith];omega
 refine cO (RF _ _ rfl (2*Z) fun q hq=>?_) ?_
 ·obtain⟨i,hi⟩:=List.getElem?_of_mem (List.mem_of_mem_take hq)
  rw[List.getElem?_zipWith] at hi;cases h1:xs[i]? with
  | none=>rw[h1] at hi;simp at hi
  | some x=>
   cases h2:ys[i]? with
   | none=>rw[h1,h2] at hi;simp at hi
   | some y=>
    rw[h1,h2] at hi;simp at hi;subst hi;have:=eL x y;have:=ha x (bV h1);have:=hb y (bV h2);omega
 ·have:=Nat.mul_le_mul_right (2*Z+1) h1
  omega
theorem xU(h:q=0):q.num.sign=0:=by subst h;rfl
theorem GY(h:q≠0):(q.num.sign != 0)=true:=by
 have:q.num≠0:=fun e=>h (Rat.num_eq_zero.1 e);have:q.num.sign≠0:=fun e=>this (Int.sign_eq_zero_iff_zero.1 e);simpa using this
theorem CS(A:OA)(n c:Nat)(B:OA)(m d:Nat)(xs ys:List Rat)(Z:Nat)(w:Wo)(hA:iT w w.heap.size A n xs)(hB:iT w w.heap.size B m ys)(H_:n<=m)(hn:n<=9223372036854775807)(ha:∀q∈xs,bI q<=Z)(hb:∀q∈ys,bI q<=Z)(hz:n*(2*Z+1)+2*Z+2<=35184372088832):Calls Tryz.prog 109 #[.slice A n c,.slice B m d] w (QP (jJ xs ys) w):=by
 obtain⟨HA,HB,F2,mE,HQA⟩:=kN hA hB hA.len hB.len ha;obtain⟨HQB,HZ,jV⟩:=d_ hb hz H_;have dA:Hid (Below w.heap.size w ((w.alloc (.cells #[.bool false,.slice none 0 0,.bool false,.slice none 0 0] 115)))):=lH (bA);have HR:Hid (aG ((w.alloc (.cells #[.bool false,.slice none 0 0,.bool false,.slice none 0 0] 115))) w.heap.size 115 #[.bool false,.slice none 0 0,.bool false,.slice none 0 0]):=lH (aG.new w _ _);clear hA hB ha hb hz H_;go_enter Tryz.func109,Tryz.ntmps109
 go_upto_region 1 with fail
 generalize ((w.alloc (.cells #[.bool false,.slice none 0 0,.bool false,.slice none 0 0] 115)))=W at *
 go_wp2_with fail
 refine(qD 0 W (by decide) (by decide)).mono ?_;rintro e w1 ⟨bC,v1,rfl,h1⟩;have bT:=bW dA bC;have vY:=lH (HR.o.bl bC);have H1:=lH h1;clear bC h1 dA HR
 go_wp2_with fail
 generalize AW:w1.alloc (.cells #[.bool v1.b1,.slice v1.A v1.n v1.c,.bool v1.b2,.slice v1.A2 v1.m v1.d] 115)=wa;have pI:Below w1.heap.size w1 wa:=by rw[<-AW];exact bA
 have pB:Hid (aG wa w1.heap.size 115 #[.bool v1.b1,.slice v1.A v1.n v1.c,.bool v1.b2,.slice v1.A2 v1.m v1.d]):=lH (by rw[<-AW];exact aG.new w1 _ _);have GQ:=bW bT pI;have tR:=lH (vY.o.bl pI);have U1:Hid (dD wa wa.heap.size (0:Rat) v1):=lH (by have:=H1.o.up pI;simpa using this);have sL:Hid (w.heap.size<w1.heap.size):=lH vY.o.lt;clear AW pI bT vY H1;generalize w1.heap.size=g at *
 go_loopw [10] (fun v10 wr=>∃(k:Nat)(v:Rv),k<=n/\v10=.int .i64 k/\Below w.heap.size w wr/\aG wr w.heap.size 115 #[.bool false,.slice none 0 0,.bool false,.slice none 0 0]/\aG wr g 115 #[.bool v.b1,.slice v.A v.n v.c,.bool v.b2,.slice v.A2 v.m v.d]/\dD wr wr.heap.size (sS ((List.zipWith (·*·) xs ys).take k)) v) (fun v10 _=>n-(intOf v10).toNat)
 case atStart=>exact⟨0,v1,by omega,rfl,GQ.o,tR.o,pB.o,by rw[List.take_zero];exact U1.o⟩
 case round=>
  clear GQ tR pB U1;obtain⟨k,v,hk,rfl,hb,hr,hg,hv⟩:=hrel;obtain⟨HK,HR,HG,HV⟩:=iK hb hr hg hv;clear hb hr hg hv;by_cases aU:k<n
  ·obtain⟨x,hx⟩:∃x,xs[k]?=some x:=eA (by have:=F2.o;omega)
   obtain⟨y,hy⟩:∃y,ys[k]?=some y:=eA (by have:=mE.o;have:=jV.o;omega);obtain⟨ab,ao,CN,jA⟩:=HA.o.form (by omega);subst CN;obtain⟨bb,bo,ND,pE⟩:=HB.o.form (by have:=jV.o;omega);subst ND;obtain⟨HS,HQX,HQY,KL⟩:=iK (NH hx hy) (HQA.o x (bV hx)) (HQB.o y (bV hy)) (nC F2.o HQA.o HQB.o k hk);obtain⟨vx,a0,a1,a2,a3,a4⟩:=(HA.o.below HK.o lR).at_ hx;have HX:=lH hx;have HY:=lH hy;have aCr:ab<wr.heap.size:=jE jA HK.o.size;have aJW:bb<wr.heap.size:=jE pE HK.o.size;have HLX:=lH jA;have HLY:=lH pE;clear hx hy jA pE;have fY:(k:Int)<(n:Int):=by omega
   have hkm:(k:Int)<(m:Int):=by have:=jV.o;omega
   have a5J:k<m:=by have:=jV.o;omega
   have fC:=lN k;have iI:Hid (n-(k+1)<n-k):=lH (by omega);have HVX:=lH ((dD.more (w:=wr) a4 HK.o.size));clear a4;(go_wp2_with fail);refine(uZ HVX.o).mono ?_;clear a0 a1 a2 a3;rintro e w2 ⟨rfl,bH⟩;have xO:=bW HK bH;obtain⟨wD,iJ,sJ,aZH⟩:=iK (HR.o.bl bH) (HG.o.bl bH) (HV.o.up bH) (HVX.o.up bH);clear bH HR HG HV HVX;by_cases O3:x=0
   ·have hz:=xU O3
    rw[hz];have HE:Hid (sS ((List.zipWith (·*·) xs ys).take (k+1))=sS ((List.zipWith (·*·) xs ys).take k)):=lH (by rw[HS.o,O3,Rat.zero_mul,Rat.add_zero]);clear hz O3;(go_wp2_with fail);go_roundw
    case rel=>exact⟨k+1,v,aU,aO fC.o,xO.o,wD.o,iJ.o,by rw[HE.o];exact sJ.o⟩
    case measure=>exact iI.o
   ·have hz:=GY O3
    generalize x.num.sign=z at hz ⊢;clear O3;obtain⟨vy,a0,a1,a2,a3,a4⟩:=(HB.o.below xO.o lR).at_ HY.o;have aT1:=lH (dD.more (w:=w2) a4 xO.o.size);have aYS:bb<w2.heap.size:=jE HLY.o xO.o.size;clear a4;(go_wp2_with fail);refine(uZ aT1.o).mono ?_;clear a0 a1 a2 a3;rintro e w3 ⟨rfl,cN⟩;have Q3:=bW xO cN;obtain⟨E5,N1,vM⟩:=d_ (wD.o.bl cN) (iJ.o.bl cN) (sJ.o.up cN);clear cN wD iJ sJ aZH aT1;by_cases yH:y=0
    ·have kS:=xU yH
     rw[kS];have HE:Hid (sS ((List.zipWith (·*·) xs ys).take (k+1))=sS ((List.zipWith (·*·) xs ys).take k)):=lH (by rw[HS.o,yH,Rat.mul_zero,Rat.add_zero]);clear kS yH;(go_wp2_with fail);go_roundw
     case rel=>exact⟨k+1,v,aU,aO fC.o,Q3.o,E5.o,N1.o,by rw[HE.o];exact vM.o⟩
     case measure=>exact iI.o
    ·have kS:=GY yH
     generalize y.num.sign=z2 at kS ⊢;clear yH;(go_upto_region 6 with fail);clear hz kS;obtain⟨vx,a0,a1,a2,a3,a4⟩:=(HA.o.below Q3.o lR).at_ HX.o;have aZG:=lH (dD.more (w:=w3) a4 Q3.o.size);obtain⟨vy,d0,d1,d2,d3,d4⟩:=(HB.o.below Q3.o lR).at_ HY.o;have aZF:=lH (dD.more (w:=w3) d4 Q3.o.size);have aYW:ab<w3.heap.size:=jE HLX.o Q3.o.size;have aYR:bb<w3.heap.size:=jE HLY.o Q3.o.size;clear a4 d4;obtain⟨p0,p1,p2,p3,pl⟩:=N1.o.b4;have bM:=lH (aK (Below.refl w3.heap.size w3));refine bZ (S:=fun w'=>Below w3.heap.size w3 w') 11 _ (by kernel_rfl) (by kernel_rfl) rfl bM.o (fun hHeld=>?_);simp only[nI,List.take_zero];refine cW [0,1,2,3,4,5,6,7,8] ?_;refine bQ 9 (fun K hK=>?_);go_simp;refine(LL (aZG.o.up bM.o) (aZF.o.up bM.o) (by have:=HQX.o;have:=HQY.o;have:=HZ.o;omega)).mono ?_;rintro e w5 ⟨fD,v5,rfl,h5⟩;have eK:=bW bM fD;have H5:=lH h5;clear fD h5;go_simp;refine gZ hK eK.o (fun hHeld=>?_);clear hK K;refine bQ 10 (fun K hK=>?_);go_simp;refine(EZ (vM.o.up eK.o) H5.o (by have:=eL x y;have:=HQX.o;have:=HQY.o;have:=KL.o;have:=HZ.o;omega)).mono ?_;rintro e w6 ⟨fT,v6,rfl,h6⟩;have fL:=bW eK fT;have H6:=lH h6;clear fT h6;go_simp;refine gZ hK fL.o (fun hHeld=>?_);clear hK K;refine eM ?_;obtain⟨HKF,HRF,mD⟩:=d_ (Q3.o.tm fL.o) (E5.o.bl fL.o) (N1.o.bl fL.o);clear p0 p1 p2 p3 pl a0 a1 a2 a3 d0 d1 d2 d3 aCr aYW aJW aYS aYR;obtain⟨p0,p1,p2,p3,pf,pl⟩:=mD.o.e4;(go_wp2_with fail);go_roundw
     case rel=>exact⟨k+1,v6,aU,aO fC.o,dO HKF.o (pJ sL.o),aWZ HRF.o (Nat.ne_of_lt sL.o),VX mD.o,by rw[HS.o];exact H6.o.keepq mD.o⟩
     case measure=>exact iI.o
  ·have nH:k=n:=by omega
   subst nH;have fY:¬(k:Int)<(k:Int):=by omega
   have HE:Hid (dD wr wr.heap.size (jJ xs ys) v):=lH (by
    have h:=HV.o;rw[nL (by rw[List.length_zipWith,F2.o];omega)] at h;exact h)
   obtain⟨p0,p1,p2,p3,pl⟩:=HG.o.b4;obtain⟨z0,z1,z2,z3,zf,zl⟩:=HR.o.e4;(go_wp2_with fail);clear p0 p1 p2 p3 pl z0 z1 z2 z3 zf zl;have HX:=lH (VX (v:=v) (x:=DD) HR.o);have eV:=lH (dO (v:=v) HK.o lR);have HV9:=lH (HE.o.keepq (v:=v) (x:=DD) HR.o);unfold F8 at eV;generalize (((wr.setCell ⟨_,0,none⟩ _).setCell ⟨_,1,none⟩ _).setCell ⟨_,2,none⟩ _).setCell ⟨_,3,none⟩ _=W9 at *;obtain⟨q0,q1,q2,q3⟩:=HX.o.a4;exact bodyPost_ret (v:=.agg #[.bool v.b1,.slice v.A v.n v.c,.bool v.b2,.slice v.A2 v.m v.d]) (by simp[results,Tryz.results109,go_sem,q0,q1,q2,q3]) rfl ⟨eV.o,v,rfl,HV9.o⟩
structure Mi where
 kind:Int
 name:ByteArray
 txt:ByteArray
 wt:Int
def Mi.cells(x:Mi):List Value:=[.int .i64 x.kind,.string x.name,.string x.txt,.int .i64 x.wt]
def Mi.val(x:Mi):Value:=.agg #[.int .i64 x.kind,.string x.name,.string x.txt,.int .i64 x.wt]
theorem Mi.len(x:Mi):x.cells.length=4:=rfl
def fP(w:Wo)(B:Nat)(A:OA)(n:Nat)(xs:List Mi):Prop:=xs.length=n/\Rd w B 4 A n (xs.flatMap Mi.cells)
theorem fP.below{xs:List Mi}(h:fP w B A n xs)(hb:Below B' w w')(hB:B<=B'):fP w' B A n xs:=⟨h.1,h.2.below hb hB⟩
theorem fP.more{xs:List Mi}(h:fP w B A n xs)(hB:B<=B'):fP w B' A n xs:=⟨h.1,h.2.more hB⟩
theorem fP.at_{b off:Nat}{xs:List Mi}(h:fP w B (some ⟨b,off,none⟩) n xs){i:Nat}{x:Mi}(hx:xs[i]?=some x):w.cell? ⟨b,off+i*4,none⟩=some (.int .i64 x.kind)/\w.cell? ⟨b,off+i*4+1,none⟩=some (.string x.name)/\w.cell? ⟨b,off+i*4+2,none⟩=some (.string x.txt)/\w.cell? ⟨b,off+i*4+3,none⟩=some (.int .i64 x.wt):=by
 have hl:i<xs.length:=(dH.1 hx).1;have h1:=h.1;obtain⟨b',off',e,_,hc⟩:=h.2.2 (by omega);injection e with e;injection e with e1 e2;subst e1;subst e2;have key:∀k,k<4->∀u,x.cells[k]?=some u->w.cell? ⟨b,off+i*4+k,none⟩=some u:=fun k hk u hu=>by
  have:=hc (i*4+k) u (by rw[lC Mi.len xs i x hx k hk];exact hu);rwa[<-Nat.add_assoc] at this
 exact⟨key 0 (by omega) _ rfl,key 1 (by omega) _ rfl,key 2 (by omega) _ rfl,key 3 (by omega) _ rfl⟩
theorem fP.form{xs:List Mi}(h:fP w B A n xs)(h0:0<n):∃b off,A=some ⟨b,off,none⟩/\b<B:=by
 obtain⟨b,off,e,aU,_⟩:=h.2.2 h0;exact⟨b,off,e,aU⟩
theorem Mi.box{p:Nat}{t:TypeId}{x:Mi}(h:aG w p t #[.int .i64 x.kind,.string x.name,.string x.txt,.int .i64 x.wt]):w.cell? ⟨p,0,none⟩=some (.int .i64 x.kind)/\w.cell? ⟨p,1,none⟩=some (.string x.name)/\w.cell? ⟨p,2,none⟩=some (.string x.txt)/\w.cell? ⟨p,3,none⟩=some (.int .i64 x.wt)/\(∀i,w.frozen? ⟨p,i,none⟩=false)/\p<w.heap.size:=
 ⟨h.cell 0,h.cell 1,h.cell 2,h.cell 3,h.frozen,h.lt⟩
structure Vc where
 A:OA
 n:Nat
 c:Nat
 ss:List ByteArray
def Vc.cells(v:Vc):List Value:=[.slice v.A v.n v.c]
theorem Vc.len(v:Vc):v.cells.length=1:=rfl
def xL(w:Wo)(B:Nat)(A:OA)(n:Nat)(vs:List Vc):Prop:=vs.length=n/\Rd w B 1 A n (vs.flatMap Vc.cells)/\∀v∈vs,aY w B v.A v.n v.ss/\v.n<=9223372036854775807
theorem xL.below{xs:List Vc}(h:xL w B A n xs)(hb:Below B' w w')(hB:B<=B'):xL w' B A n xs:=⟨h.1,h.2.1.below hb hB,fun v hv=>⟨(h.2.2 v hv).1.below hb hB,(h.2.2 v hv).2⟩⟩
theorem xL.more{xs:List Vc}(h:xL w B A n xs)(hB:B<=B'):xL w B' A n xs:=⟨h.1,h.2.1.more hB,fun v hv=>⟨(h.2.2 v hv).1.more hB,(h.2.2 v hv).2⟩⟩
theorem xL.form{xs:List Vc}(h:xL w B A n xs)(h0:0<n):∃b off,A=some ⟨b,off,none⟩/\b<B:=by
 obtain⟨b,off,e,aU,_⟩:=h.2.1.2 h0;exact⟨b,off,e,aU⟩
theorem xL.at_{b off:Nat}{xs:List Vc}(h:xL w B (some ⟨b,off,none⟩) n xs){i:Nat}{x:Vc}(hx:xs[i]?=some x):w.cell? ⟨b,off+i,none⟩=some (.slice x.A x.n x.c):=by
 have hl:i<xs.length:=(dH.1 hx).1;have h1:=h.1;obtain⟨b',off',e,_,hc⟩:=h.2.1.2 (by omega);injection e with e;injection e with e1 e2;subst e1;subst e2;have:=lC Vc.len xs i x hx 0 (by decide);rw[Nat.mul_one,Nat.add_zero] at this;exact hc i _ this
theorem oU(A:OA)(n c:Nat)(a:List ByteArray)(B:OA)(m d:Nat)(b:List ByteArray)(w:Wo)(ha:aY w w.heap.size A n a)(hb:aY w w.heap.size B m b)(hn:n<=9223372036854775807)(hm:m<=9223372036854775807):Calls Tryz.prog 19 #[.slice A n c,.slice B m d] w fun e w'=>e=.returned (.bool (decide (a=b)))/\Below w.heap.size w w':=by
 obtain⟨hla,hlb,HA,HB⟩:=iK ha.1 hb.1 ha hb;clear ha hb;go_enter Tryz.func19,Tryz.ntmps19
 by_cases H_:n=m
 ·subst H_
  go_wp2_with fail
  go_loopw [5,13] (fun _ i wr=>∃k:Nat,k<=n/\i=.int .i64 k/\a.take k=b.take k/\Below w.heap.size w wr) (fun _ i _=>n-(intOf i).toNat)
  case atStart=>exact⟨0,by omega,rfl,by simp,bR⟩
  case round=>
   obtain⟨k,hk,rfl,jA,QX⟩:=hrel;have HAB:=lH jA;have HW:=lH QX;clear jA QX;by_cases aU:k<n
   ·obtain⟨x,hx⟩:∃x,a[k]?=some x:=eA (by have:=hla.out;omega)
    obtain⟨y,hy⟩:∃y,b[k]?=some y:=eA (by have:=hlb.out;omega);obtain⟨ba,oa,rfl,aAq⟩:=HA.o.form (by omega);obtain⟨bb,ob,rfl,aAn⟩:=HB.o.form (by omega);have XU:=(HA.o.below HW.o lR).at_ hx;have hcb:=(HB.o.below HW.o lR).at_ hy;have hl1:ba<wr.heap.size:=jE aAq HW.o.size;have hl2:bb<wr.heap.size:=jE aAn HW.o.size;have aXW:(k:Int)<(n:Int):=by omega
    have fY:=lZ k;have fC:=lN k;have iI:Hid (n-(k+1)<n-k):=lH (by omega);by_cases hxy:x=y
    ·subst hxy
     have hp:pH x x=true:=pM.2 rfl;have HT:Hid (a.take (k+1)=b.take (k+1)):=lH (by rw[pU hx,pU hy,HAB.o]);clear hx hy aAq aAn;(go_wp2_with fail)
     go_quiet (fail)
     (go_wp2_with fail);go_roundw
     case rel=>exact⟨k+1,aU,aO fC.o,HT.o,bD HW.o _⟩
     case measure=>exact iI.o
    ·have hp:pH x y=false:=t8.2 hxy
     have HT:Hid (decide (a=b)=false):=lH (by
      rw[decide_eq_false_iff_not];intro e;subst e;rw[hx] at hy;injection hy with hy;exact hxy hy)
     clear hx hy aAq aAn hxy;(go_wp2_with fail)
     go_quiet (fail)
     (go_wp2_with fail);go_ret;exact⟨by rw[HT.o];rfl,bD HW.o _⟩
   ·have fY:¬(k:Int)<(n:Int):=by omega
    have HT:Hid (decide (a=b)=true):=lH (by
     rw[decide_eq_true_iff];have h:=HAB.o;rwa[nL (by have:=hla.out;omega),nL (by have:=hlb.out;omega)] at h)
    (go_wp2_with fail);go_ret;exact⟨by rw[HT.o];rfl,HW.o⟩
 ·have hI:((n:Int) != (m:Int))=true:=by simp;omega
  have HT:Hid (decide (a=b)=false):=lH (by
   rw[decide_eq_false_iff_not];intro e;subst e;exact H_ (hla.out.symm.trans hlb.out))
  (go_wp2_with fail);go_ret;exact⟨by rw[HT.o];rfl,bR⟩
theorem fP.bm{l:List Mi}(h:fP w w.heap.size A n l)(g:Below w.heap.size w w'):fP w' w'.heap.size A n l:=(h.below g lR).more g.size
theorem xL.bm{l:List Vc}(h:xL w w.heap.size A n l)(g:Below w.heap.size w w'):xL w' w'.heap.size A n l:=(h.below g lR).more g.size
end
section
def Tn(k:Nat)(q:Rat):Prop:=q.num.natAbs<10^k/\q.den<10^k
theorem Tn.mono{m:Nat}(h:Tn k q)(hm:k<=m):Tn m q:=
 ⟨jE h.1 (Nat.pow_le_pow_right (by decide) hm),jE h.2 (Nat.pow_le_pow_right (by decide) hm)⟩
theorem Tn.fits(h:Tn k q)(hk:k<=2000):bP q:=by
 have h2:=h.mono hk;exact⟨WO (by decide) h2.1,WO (by decide) h2.2⟩
theorem aBi{n:Int}{d:Nat}(hd:d≠0)(h1:n.natAbs<10^k)(h2:d<10^k):Tn k (Rat.divInt n d):=by
 have h3:=(sY n hd).1;have h4:=(nS n hd).2;unfold Tn;rw[h3,h4];exact⟨zT_ (Nat.div_le_self ..) h1,zT_ (Nat.div_le_self ..) h2⟩
def Ot(D B:Nat)(q:Rat):Prop:=∃z:Int,q*((D:Int):Rat)=(z:Rat)/\z.natAbs<=B*D
theorem OR(hp:Ot D B p)(hq:Ot D C q):Ot D (B+C) (p+q):=by
 obtain⟨a,h1,h2⟩:=hp;obtain⟨b,h3,h4⟩:=hq;refine⟨a+b,by rw[Rat.add_mul,h1,h3,Rat.intCast_add],?_⟩;have:=Int.natAbs_add_le a b;rw[Nat.add_mul];omega
theorem WF(hq:Ot D B q):Ot D B (-q):=by
 obtain⟨a,h1,h2⟩:=hq;exact⟨-a,by rw[Rat.neg_mul,h1,Rat.intCast_neg],by rw[Int.natAbs_neg];exact h2⟩
theorem aNp{E:Nat}(hp:Ot D B p)(hq:Ot E C q):Ot (D*E) (B*C) (p*q):=by
 obtain⟨a,h1,h2⟩:=hp;obtain⟨b,h3,h4⟩:=hq;refine⟨a*b,?_,?_⟩
 ·rw[Rat.intCast_mul,<-h1,<-h3,Int.natCast_mul,Rat.intCast_mul];grind
 ·rw[Int.natAbs_mul]
  have:=Nat.mul_le_mul h2 h4;have e:B*D*(C*E)=B*C*(D*E):=by grind
  omega
theorem Z2(D:Nat):Ot D 0 0:=⟨0,by rw[Rat.zero_mul];rfl,by simp⟩
theorem aNo:Ot D 1 1:=⟨(D:Int),by rw[Rat.one_mul],by simp⟩
theorem pP(h:Ot D B q)(hb:B<=C):Ot D C q:=by
 obtain⟨a,h1,h2⟩:=h;exact⟨a,h1,cO h2 (Nat.mul_le_mul hb lR)⟩
theorem WG{E:Nat}(h:Ot D B q)(hd:D∣E):Ot E B q:=by
 obtain⟨a,h1,h2⟩:=h;obtain⟨k,rfl⟩:=hd;refine⟨a*k,?_,?_⟩
 ·rw[Rat.intCast_mul,<-h1,Int.natCast_mul,Rat.intCast_mul,Rat.mul_assoc]
 ·rw[Int.natAbs_mul,Int.natAbs_natCast,<-Nat.mul_assoc]
  exact Nat.mul_le_mul h2 lR
theorem WH{n:Int}{d:Nat}(hd:d≠0)(h:n.natAbs<=B*d):Ot d B (Rat.divInt n d):=by
 refine⟨n,?_,h⟩;rw[Rat.divInt_eq_div,Rat.div_mul_cancel];intro e;have:((d:Int):Rat)=((0:Int):Rat):=e;rw[Rat.intCast_inj] at this;omega
theorem aLm(h:Tn k q):Ot q.den (10^k) q:=by
 have h1:=WH (n:=q.num) (d:=q.den) (B:=10^k) q.den_nz (cO (pJ h.1) (Nat.le_mul_of_pos_right _ (Nat.pos_of_ne_zero q.den_nz)));rwa[Rat.num_divInt_den] at h1
end
section
open Go.ChangeShapes Go.WideShapes Go.ChangeAt Go.RowKit
attribute [local go_sem ↓] aE
attribute [local go_sem] aJ aI aM aR bY.cells
def uY(v:Vc):Bool:=v.ss.all fun s=>decide (s.size<=24)
def kG(x:bO)(ms:List Mi)(vs:List Vc):Bool:=decide (x.nodes.length<=8) && decide (x.brs.length<=10) && ms.all (fun m=>decide (m.txt.size<=24)) && vs.all uY
theorem KF{α:Type}{l:List α}{x:α}(f:α->Bool)(h:l[k]?=some x):(l.drop k).all f=(f x && (l.drop (k+1)).all f):=by rw[cM h];rfl
theorem MB(h:bY)(x:bO)(A:OA)(n c:Nat)(ms:List Mi)(B:OA)(m d:Nat)(vs:List Vc)(w:Wo)(r:cQ w w.heap.size h x)(hm:fP w w.heap.size A n ms)(hv:xL w w.heap.size B m vs)(hn:n<=9223372036854775807)(xA:m<=9223372036854775807):Calls Tryz.prog 16 #[.agg h.cells,.slice A n c,.slice B m d] w fun e w'=>e=.returned (.bool (kG x ms vs))/\Below w.heap.size w w':=by
 have K0:=jT w (.cells h.cells 29);obtain⟨HK,HM,mA,HV,F0⟩:=kN K0 hm hm.1 hv hv.1;have l0:=r.r0.1;have l2:=r.r2.1;have m0:=r.m0;have m2:=r.m2;obtain⟨y0,y1,y2,y3,y4,y5,nf,nlt⟩:=aW (aG.new w 29 h.cells);simp only[bY.cells] at HK y0 y1 y2 y3 y4 y5 nf nlt;clear K0 r hm hv;go_enter Tryz.func16,Tryz.ntmps16
 go_upto_region 1 with fail
 generalize w.alloc (.cells #[.slice h.A0 h.n0 h.c0,.slice h.A1 h.n1 h.c1,.slice h.A2 h.n2 h.c2,.slice h.A3 h.n3 h.c3,.slice h.A4 h.n4 h.c4,.slice h.A5 h.n5 h.c5] 29)=W at *;by_cases g0:8<h.n0
 ·have g0I:(8:Int)<(h.n0:Int):=by omega
  have HE:Hid (kG x ms vs=false):=lH (by unfold kG;rw[decide_eq_false (by rw[l0];omega)];rfl);(go_wp2_with fail);go_ret;exact⟨by rw[HE.o];rfl,HK.o⟩
 ·by_cases g2:10<h.n2
  ·have g0I:¬(8:Int)<(h.n0:Int):=by omega
   have g2I:(10:Int)<(h.n2:Int):=by omega
   have HE:Hid (kG x ms vs=false):=lH (by unfold kG;rw[decide_eq_false (p:=x.brs.length<=10) (by rw[l2];omega),Bool.and_false];rfl);(go_wp2_with fail);go_ret;exact⟨by rw[HE.o];rfl,HK.o⟩
  ·have g0I:¬(8:Int)<(h.n0:Int):=by omega
   have g2I:¬(10:Int)<(h.n2:Int):=by omega
   have HS:Hid (kG x ms vs=(ms.all (fun m=>decide (m.txt.size<=24)) && vs.all uY)):=lH (by unfold kG;rw[decide_eq_true (by rw[l0];omega),decide_eq_true (by rw[l2];omega)];rfl);clear g0 g2 m0 m2;(go_wp2_with fail);clear g0I g2I y0 y1 y2 y3 y4 y5 nf nlt l0 l2
   go_loopw [25] (fun v25 wr=>∃k:Nat,k<=n/\v25=.int .i64 k/\ms.all (fun m=>decide (m.txt.size<=24))=(ms.drop k).all (fun m=>decide (m.txt.size<=24))/\Below w.heap.size w wr) (fun v25 _=>n-(intOf v25).toNat)
   case atStart=>exact⟨0,by omega,rfl,rfl,HK.o⟩
   case round=>
    clear HK;obtain⟨k,hk,rfl,pD,hb⟩:=hrel;have HG:=lH pD;have HB:=lH hb;clear pD hb;by_cases aU:k<n
    ·obtain⟨z,hz⟩:∃z,ms[k]?=some z:=eA (by have:=mA.o;omega)
     obtain⟨b,off,hA,hb⟩:=(HM.o.below HB.o lR).form (by omega);subst hA;obtain⟨c0,c1,c2,c3⟩:=(HM.o.below HB.o lR).at_ hz;have sH:b<wr.heap.size:=jE hb HB.o.size;have HD:=lH (KF (fun m:Mi=>decide (m.txt.size<=24)) hz);have fY:(k:Int)<(n:Int):=by omega
     have fC:=lN k;have iI:Hid (n-(k+1)<n-k):=lH (by omega);clear hz hb;(go_upto_region 6 with fail);clear c0 c1 c2 c3;generalize AW:wr.alloc (.cells #[.int .i64 z.kind,.string z.name,.string z.txt,.int .i64 z.wt] 57)=wa;have pI:Below wr.heap.size wr wa:=by rw[<-AW];exact bA
     have HZ:Hid (aG wa wr.heap.size 57 #[.int .i64 z.kind,.string z.name,.string z.txt,.int .i64 z.wt]):=lH (by rw[<-AW];exact aG.new wr _ _);have GQ:=bW HB pI;clear AW pI sH HB;obtain⟨c0,c1,c2,c3,cf,cl⟩:=Mi.box HZ.o;clear HZ;by_cases hs:24<z.txt.size
     ·have hsI:(24:Int)<(z.txt.size:Int):=by omega
      have HE:Hid (kG x ms vs=false):=lH (by rw[HS.o,HG.o,HD.o,decide_eq_false (by omega)];rfl);(go_wp2_with fail);go_ret;exact⟨by rw[HE.o];rfl,GQ.o⟩
     ·have hsI:¬(24:Int)<(z.txt.size:Int):=by omega
      have HE:Hid (ms.all (fun m=>decide (m.txt.size<=24))=(ms.drop (k+1)).all (fun m=>decide (m.txt.size<=24))):=lH (by rw[HG.o,HD.o,decide_eq_true (by omega),Bool.true_and]);clear hs;(go_wp2_with fail);go_roundw
      case rel=>exact⟨k+1,aU,aO fC.o,HE.o,GQ.o⟩
      case measure=>exact iI.o
    ·have fY:¬(k:Int)<(n:Int):=by omega
     have nO:Hid (kG x ms vs=vs.all uY):=lH (by rw[HS.o,HG.o,List.drop_eq_nil_of_le (by have:=mA.o;omega)];rfl);clear HS HG;(go_wp2_with fail);clear fY hk aU;generalize wr=wz at *
     go_loopw [36] (fun v36 wr=>∃k:Nat,k<=m/\v36=.int .i64 k/\vs.all uY=(vs.drop k).all uY/\Below w.heap.size w wr) (fun v36 _=>m-(intOf v36).toNat)
     case atStart=>exact⟨0,by omega,rfl,rfl,HB.o⟩
     case round=>
      clear HB;obtain⟨i,hi,rfl,pD,hb⟩:=hrel;have HG:=lH pD;have HB:=lH hb;clear pD hb;by_cases aU:i<m
      ·obtain⟨v,hv⟩:∃v,vs[i]?=some v:=eA (by have:=F0.o;omega)
       obtain⟨b,off,hA,hb⟩:=(HV.o.below HB.o lR).form (by omega);subst hA;have c0:=(HV.o.below HB.o lR).at_ hv;have sH:b<wr.heap.size:=jE hb HB.o.size;have HD:=lH (KF uY hv);have FZ:=lH (HV.o.2.2 v (bV hv)).1;have hvn:=(HV.o.2.2 v (bV hv)).2;have DH:(i:Int)<(m:Int):=by omega
       have HM1:=lN i;have HM2:Hid (m-(i+1)<m-i):=lH (by omega);clear hv hb;(go_wp2_with fail);clear c0 sH;generalize wr=wy at *
       go_loopw [42] (fun v42 wr=>∃k:Nat,k<=v.n/\v42=.int .i64 k/\uY v=(v.ss.drop k).all (fun s=>decide (s.size<=24))/\Below w.heap.size w wr) (fun v42 _=>v.n-(intOf v42).toNat)
       case atStart=>exact⟨0,by omega,rfl,rfl,HB.o⟩
       case round=>
        clear HB;obtain⟨k,hk,rfl,pD,hb⟩:=hrel;have iJ:=lH pD;have HB:=lH hb;clear pD hb;have HVN:=lH FZ.o.1;by_cases aCi:k<v.n
        ·obtain⟨s,hs⟩:∃s,v.ss[k]?=some s:=eA (by have:=HVN.o;omega)
         obtain⟨b2,off2,LR,hb⟩:=(FZ.o.below HB.o lR).form (by omega);have c0:=FZ.o.below HB.o lR;rw[LR] at c0;replace c0:=c0.at_ hs;have sH:b2<wr.heap.size:=jE hb HB.o.size;have HD2:=lH (KF (fun s:ByteArray=>decide (s.size<=24)) hs);have fY:(k:Int)<(v.n:Int):=by omega
         have fC:=lN k;have iI:Hid (v.n-(k+1)<v.n-k):=lH (by omega);clear hs hb;by_cases hz:24<s.size
         ·have hsI:(24:Int)<(s.size:Int):=by omega
          have HE:Hid (kG x ms vs=false):=lH (by rw[nO.o,HG.o,HD.o,iJ.o,HD2.o,decide_eq_false (by omega)];rfl);(go_wp2_with fail);go_ret;exact⟨by rw[HE.o];rfl,HB.o⟩
         ·have hsI:¬(24:Int)<(s.size:Int):=by omega
          have HE:Hid (uY v=(v.ss.drop (k+1)).all (fun s=>decide (s.size<=24))):=lH (by rw[iJ.o,HD2.o,decide_eq_true (by omega),Bool.true_and]);clear hz;(go_wp2_with fail);go_roundw
          case rel=>exact⟨k+1,aCi,aO fC.o,HE.o,HB.o⟩
          case measure=>exact iI.o
        ·have fY:¬(k:Int)<(v.n:Int):=by omega
         have HT:Hid (uY v=true):=lH (by rw[iJ.o,List.drop_eq_nil_of_le (by have:=HVN.o;omega)];rfl);have HE:Hid (vs.all uY=(vs.drop (i+1)).all uY):=lH (by rw[HG.o,HD.o,HT.o,Bool.true_and]);(go_wp2_with fail);go_roundw
         case rel=>exact⟨i+1,aU,aO HM1.o,HE.o,HB.o⟩
         case measure=>exact HM2.o
      ·have DH:¬(i:Int)<(m:Int):=by omega
       have HE:Hid (kG x ms vs=true):=lH (by rw[nO.o,HG.o,List.drop_eq_nil_of_le (by have:=F0.o;omega)];rfl);(go_wp2_with fail);go_ret;exact⟨by rw[HE.o];rfl,HB.o⟩
end
