import Derived.Test.YthgdchffeigkbaaGreatDoorX37
set_option linter.unusedVariables false
set_option linter.unusedSimpArgs false
namespace Go.Proofs.YthgdchffeigkbaaGreatDoor
set_option maxHeartbeats 8000000
set_option maxRecDepth 100000
section
open Go.ChangeShapes Go.WideShapes Go.ChangeAt Go.RowKit
attribute [local go_sem ↓] aE
attribute [local go_sem] aK aH aM aY
theorem DE (q:Rat) (b1:Bool) (A:OA) (n c:Nat) (b2:Bool) (A2:OA) (n2 c2:Nat) (w:Wo) (h1:dE w w.heap.size q b1 A n c b2 A2 n2 c2) (ht:dA w) :
    Calls Tryz.prog 110 #[.agg #[.bool b1,.slice A n c,.bool b2,.slice A2 n2 c2]] w (RnP q w):=by
 have dB:Hid (Below w.heap.size w (w.alloc (.cells #[.bool b1,.slice A n c,.bool b2,.slice A2 n2 c2] 115))):=lH (bA);have cJ:=lH (aG.new w 115 #[.bool b1,.slice A n c,.bool b2,.slice A2 n2 c2]);have HC:=lH (BL q b1 A n c b2 A2 n2 c2 _ (h1.up dB.o) (ht.up dB.o));clear h1 ht;go_enter Tryz.func110,Tryz.ntmps110
 go_upto_region 1 with fail
 generalize w.alloc (.cells #[.bool b1,.slice A n c,.bool b2,.slice A2 n2 c2] 115)=W at *;have c0:=cJ.o.cell 0;have c1:=cJ.o.cell 1;have c2':=cJ.o.cell 2;have c3:=cJ.o.cell 3
 go_wp2_with fail
 refine HC.o.mono ?_;clear c0 c1 c2' c3 HC;rintro e w1 ⟨hb,s,rfl,hs⟩;have HB:=lH (dB.o.tm hb);have HS:=lH hs;clear hb hs dB
 by_cases hf:bZ q
 ·have HF:=lH hf
  rw [decide_eq_true hf];clear hf
  go_wp2_with fail
  go_ret2;exact ⟨HB.o,fun h=>by rw [HS.o h];rfl,fun h=>absurd HF.o h⟩
 ·have HF:=lH hf
  rw [decide_eq_false hf];clear hf
  go_wp2_with fail
  go_ret2;exact ⟨HB.o,fun h=>absurd h HF.o,fun _=>rfl⟩
theorem KG (F:FuncId) (f:Rat->Rat->Rat) (hF:∀ (args:Array Value) (w:Wo),(callFunc F args).run Tryz.prog w=.ok (.enter F args) w)
    (hf:∀ (p q:Rat) (b1:Bool) (A:OA) (n c:Nat) (b2:Bool) (A2:OA) (n2 c2:Nat) (b3:Bool) (B:OA) (m d:Nat) (b4:Bool) (B2:OA) (m2 d2:Nat) (w:Wo),dE w w.heap.size p b1 A n c b2 A2 n2 c2->dE w w.heap.size q b3 B m d b4 B2 m2 d2->bZ p->bZ q->
     Calls Tryz.prog F #[.agg #[.bool b1,.slice A n c,.bool b2,.slice A2 n2 c2],.agg #[.bool b3,.slice B m d,.bool b4,.slice B2 m2 d2]] w (YZ (f p q) w))
    (a b:ByteArray) (ha:a.size<=maxLen) (hb:b.size<=maxLen) (w:Wo) (ht:dA w) :
    Calls Tryz.prog 123 #[.string a,.string b,.func (.func F) #[] #[]] w (OpP f a b w):=by
 have HF:=lH hf;have dB:Hid (Below w.heap.size w (w.alloc (.cells #[.string a,.string b] 55))):=lH (bA);have cJ:=lH (aG.new w 55 #[.string a,.string b]);have HA:=lH (show ∀ s∈[a,b],s.size<=maxLen from fun s hs=>by simp at hs;rcases hs with rfl | rfl<;>assumption);have HT:=lH ht;clear hf ha hb ht;go_enter Tryz.func123,Tryz.ntmps123
 go_wp2_with fail
 generalize yP:w.alloc (.cells #[.string a,.string b] 55)=wa at *;have Y1:=lH (HT.o.up dB.o);have jY:bG wa wa.heap.size (some ⟨w.heap.size,0,none⟩) 2 [a,b]:=eR cJ.o cJ.o.lt;clear yP;refine (CO (some ⟨w.heap.size,0,none⟩) 2 2 [a,b] wa jY HA.o (by decide) Y1.o).mono ?_;clear jY;rintro e w1 ⟨he,bH⟩;have bS:=lH (dB.o.tm bH);have xD:=lH (Y1.o.up bH);clear bH dB Y1 cJ
 by_cases h0:dQ [a,b]=0
 ·have hv:=oW.1 h0
  have HVA:=lH (hv a (by simp));have wI:=lH (hv b (by simp));have H0:=lH h0;rw [h0] at he;subst he;clear hv h0
  go_wp2_with fail
  refine (rQ HVA.o w1).mono ?_;rintro e w2 ⟨bL,f1,C1,i1,j1,g1,D1,k1,l1,rfl,h1⟩;have bW:=lH (bS.o.tm bL);have tT:=lH (xD.o.up bL);have H1:=lH h1;clear bL h1 bS xD
  go_wp2_with fail
  refine (rQ wI.o w2).mono ?_;rintro e w3 ⟨cR,f2,C2,i2,j2,g2,D2,k2,l2,rfl,h2⟩;have dR:=lH (bW.o.tm cR);have HT3:=lH (tT.o.up cR);have H1:=lH (H1.o.up cR);have H2:=lH h2;clear cR h2 bW tT
  go_wp2_with fail
  refine (HF.o _ _ f1 C1 i1 j1 g1 D1 k1 l1 f2 C2 i2 j2 g2 D2 k2 l2 w3 H1.o H2.o (gI HVA.o) (gI wI.o)).mono ?_;rintro e w4 ⟨dU,f3,C3,i3,j3,g3,D3,k3,l3,rfl,h3⟩;have bK:=lH (dR.o.tm dU);have HT4:=lH (HT3.o.up dU);have H3:=lH h3;clear dU h3 dR HT3 H1 H2
  go_wp2_with fail
  refine (DE _ f3 C3 i3 j3 g3 D3 k3 l3 w4 H3.o HT4.o).mono ?_;rintro e w5 ⟨eD,hy,hn⟩;have dX:=lH (bK.o.tm eD);clear eD bK HT4 H3
  by_cases hf:bZ (f (kB a) (kB b))
  ·have he:=hy hf
   have EF:=lH hf;subst he;clear hy hn hf
   go_wp2_with fail
   go_ret2;exact ⟨dX.o,fun h=>absurd H0.o h,fun _=>⟨dX.o,fun _=>rfl,fun h=>absurd EF.o h⟩⟩
  ·have he:=hn hf
   have EF:=lH hf;subst he;clear hy hn hf
   go_wp2_with fail
   go_ret2;exact ⟨dX.o,fun h=>absurd H0.o h,fun _=>⟨dX.o,fun h=>absurd h EF.o,fun _=>rfl⟩⟩
 ·obtain ⟨z,hz⟩:∃ z,dQ [a,b]=z:=⟨_,rfl⟩
  have HZ:=lH hz;rw [hz] at he h0;subst he;have H0:=lH h0;have h0b:(z != 0)=true:=by simp [h0]
  clear hz h0
  go_wp2_with fail
  go_ret2;exact ⟨bS.o,fun _=>by rw [HZ.o];rfl,fun h=>absurd (HZ.o.symm.trans h) H0.o⟩
theorem TO (a b:ByteArray) (ha:a.size<=maxLen) (hb:b.size<=maxLen) (w:Wo) (ht:dA w) :
    Calls Tryz.prog 83 #[.string a,.string b] w (OpP (fun p q=>p+q) a b w):=by
 have HC:=lH (KG 69 (fun p q=>p+q) (pO Tryz.func69 (by kernel_rfl) rfl) (fun p q b1 A n c b2 A2 n2 c2 b3 B m d b4 B2 m2 d2 w h1 h2 hp hq=>F4 p q b1 A n c b2 A2 n2 c2 b3 B m d b4 B2 m2 d2 w h1 h2 (GY hp hq)) a b ha hb w ht);clear ha hb ht;go_enter Tryz.func83,Tryz.ntmps83
 go_wp2_with fail
 refine HC.o.mono ?_;rintro e w1 ⟨hb,h1,h2⟩;have HB:=lH hb;clear hb HC
 by_cases h0:dQ [a,b]=0
 ·have hr:=h2 h0
  have H0:=lH h0;clear h1 h2 h0;obtain ⟨_,hy,hn⟩:=hr
  by_cases hf:bZ ((fun p q:Rat=>p+q) (kB a) (kB b))
  ·have he:=hy hf
   have EF:=lH hf;subst he;clear hy hn hf
   go_wp2_with fail
   go_ret2;exact ⟨HB.o,fun h=>absurd H0.o h,fun _=>⟨HB.o,fun _=>rfl,fun h=>absurd EF.o h⟩⟩
  ·have he:=hn hf
   have EF:=lH hf;subst he;clear hy hn hf
   go_wp2_with fail
   go_ret2;exact ⟨HB.o,fun h=>absurd H0.o h,fun _=>⟨HB.o,fun h=>absurd h EF.o,fun _=>rfl⟩⟩
 ·have he:=h1 h0
  have H0:=lH h0;subst he;clear h0 h1 h2
  go_wp2_with fail
  go_ret2;exact ⟨HB.o,fun _=>rfl,fun h=>absurd h H0.o⟩
theorem TN (a b:ByteArray) (ha:a.size<=maxLen) (hb:b.size<=maxLen) (w:Wo) (ht:dA w) :
    Calls Tryz.prog 84 #[.string a,.string b] w (OpP (fun p q=>p*q) a b w):=by
 have HC:=lH (KG 70 (fun p q=>p*q) (pO Tryz.func70 (by kernel_rfl) rfl) (fun p q b1 A n c b2 A2 n2 c2 b3 B m d b4 B2 m2 d2 w h1 h2 hp hq=>PA p q b1 A n c b2 A2 n2 c2 b3 B m d b4 B2 m2 d2 w h1 h2 (GY hp hq)) a b ha hb w ht);clear ha hb ht;go_enter Tryz.func84,Tryz.ntmps84
 go_wp2_with fail
 refine HC.o.mono ?_;rintro e w1 ⟨hb,h1,h2⟩;have HB:=lH hb;clear hb HC
 by_cases h0:dQ [a,b]=0
 ·have hr:=h2 h0
  have H0:=lH h0;clear h1 h2 h0;obtain ⟨_,hy,hn⟩:=hr
  by_cases hf:bZ ((fun p q:Rat=>p*q) (kB a) (kB b))
  ·have he:=hy hf
   have EF:=lH hf;subst he;clear hy hn hf
   go_wp2_with fail
   go_ret2;exact ⟨HB.o,fun h=>absurd H0.o h,fun _=>⟨HB.o,fun _=>rfl,fun h=>absurd EF.o h⟩⟩
  ·have he:=hn hf
   have EF:=lH hf;subst he;clear hy hn hf
   go_wp2_with fail
   go_ret2;exact ⟨HB.o,fun h=>absurd H0.o h,fun _=>⟨HB.o,fun h=>absurd h EF.o,fun _=>rfl⟩⟩
 ·have he:=h1 h0
  have H0:=lH h0;subst he;clear h0 h1 h2
  go_wp2_with fail
  go_ret2;exact ⟨HB.o,fun _=>rfl,fun h=>absurd h H0.o⟩
theorem ZH {a b:ByteArray} (ha:cX a.data.toList=0) (hb:cX b.data.toList=0):dQ [a,b]=0:=oW.2 fun s hs=>by
 simp at hs;rcases hs with rfl | rfl<;>assumption
theorem aLs {f:Rat->Rat->Rat} {a b:ByteArray} (ha:cX a.data.toList=0) (hb:cX b.data.toList=0):opS f a b=rnS (f (kB a) (kB b)):=by unfold opS;rw [if_pos (ZH ha hb)]
theorem aC8 (a b:ByteArray) (ha:a.size<=maxLen) (hb:b.size<=maxLen) (w:Wo) (ht:dA w) :
    Calls Tryz.prog 41 #[.string a,.string b] w (fun e w'=>e=.returned (.string (opS (fun p q=>p+q) a b))/\Below w.heap.size w w'):=by
 have HC:=lH (TO a b ha hb w ht);clear ha hb ht;go_enter Tryz.func41,Tryz.ntmps41
 go_wp2_with fail
 refine HC.o.mono ?_;intro e w1 h;obtain ⟨rfl,hb⟩:=h.out;clear h HC;have HB:=lH hb;clear hb;generalize hs:opS (fun p q=>p+q) a b=s;have HS:=lH hs;clear hs;generalize opE (fun p q=>p+q) a b=z
 go_wp2_with fail
 go_ret;exact ⟨by rw [HS.o];rfl,HB.o⟩
theorem J8 (a b:ByteArray) (ha:a.size<=maxLen) (hb:b.size<=maxLen) (w:Wo) (ht:dA w) :
    Calls Tryz.prog 42 #[.string a,.string b] w (fun e w'=>e=.returned (.string (opS (fun p q=>p*q) a b))/\Below w.heap.size w w'):=by
 have HC:=lH (TN a b ha hb w ht);clear ha hb ht;go_enter Tryz.func42,Tryz.ntmps42
 go_wp2_with fail
 refine HC.o.mono ?_;intro e w1 h;obtain ⟨rfl,hb⟩:=h.out;clear h HC;have HB:=lH hb;clear hb;generalize hs:opS (fun p q=>p*q) a b=s;have HS:=lH hs;clear hs;generalize opE (fun p q=>p*q) a b=z
 go_wp2_with fail
 go_ret;exact ⟨by rw [HS.o];rfl,HB.o⟩
section
variable {w w':Wo} {B B':Nat} {q:Rat} {v:Rv}
end
theorem aOM {q:Rat} {v:Rv} {w:Wo} (h1:dL w w.heap.size q v) (ht:dA w):Calls Tryz.prog 71 #[.agg #[.bool v.b1,.slice v.A v.n v.c,.bool v.b2,.slice v.A2 v.m v.d]] w (aQT q w):=BL q v.b1 v.A v.n v.c v.b2 v.A2 v.m v.d w h1 ht
theorem aLj {q:Rat} (h:bZ q):rnS q=bV q:=if_pos h
theorem aIB (A:OA) (n c:Nat) (u:Rv) (q:List Rat) (z:Rat) (B:OA) (m d:Nat) (al:List Rat) (w:Wo) (hq:iF w w.heap.size A n q) (hz:dL w w.heap.size z u) (ha:iF w w.heap.size B m al) (I1:n<=m) (hn:n<=1000) (h1:∀ p∈q,bU p<=2000) (h2:∀ p∈al,bU p<=2000) (h3:bU z<=2000) :
    Calls Tryz.prog 64 #[.agg #[.slice A n c,.bool u.b1,.slice u.A u.n u.c,.bool u.b2,.slice u.A2 u.m u.d],.slice B m d] w (QP (jJ q al+z) w):=by
 have K0:Below w.heap.size w ((w.alloc (.cells #[.slice A n c,.bool u.b1,.slice u.A u.n u.c,.bool u.b2,.slice u.A2 u.m u.d] 117)).alloc (.cells #[.bool false,.slice none 0 0,.bool false,.slice none 0 0] 115)):=(bA).alloc (by simp) _;have HK:=lH K0;have PF:=lH ((aG.new w 117 #[.slice A n c,.bool u.b1,.slice u.A u.n u.c,.bool u.b2,.slice u.A2 u.m u.d]).alloc (.cells #[.bool false,.slice none 0 0,.bool false,.slice none 0 0] 115));have PB:Hid (aG ((w.alloc (.cells #[.slice A n c,.bool u.b1,.slice u.A u.n u.c,.bool u.b2,.slice u.A2 u.m u.d] 117)).alloc (.cells #[.bool false,.slice none 0 0,.bool false,.slice none 0 0] 115)) (w.heap.size+1) 115 #[.bool false,.slice none 0 0,.bool false,.slice none 0 0]):=lH (aG.new_ (by simp));have HQ:=lH (hq.up K0);have HZ:=lH (hz.up K0);have HA:=lH (ha.up K0);have H1:=lH h1;have H2:=lH h2;have H3:=lH h3
 have dW:Hid (w.heap.size+1<((w.alloc (.cells #[.slice A n c,.bool u.b1,.slice u.A u.n u.c,.bool u.b2,.slice u.A2 u.m u.d] 117)).alloc (.cells #[.bool false,.slice none 0 0,.bool false,.slice none 0 0] 115)).heap.size):=lH (by simp);have mH:Hid (q.length=n):=lH hq.len;have HDS:Hid (bU (jJ q al)+bU z+1<=35184372088832):=lH (by
  have h:=nG (n:=n) (Z:=2000) hq.len h1 h2 n lR;rw [nW (by rw [List.length_zipWith,hq.len];exact Nat.min_le_left _ _)] at h;have h':bU (jJ q al)<=n*(2*2000+1)+1:=h;have:n*(2*2000+1)<=1000*(2*2000+1):=Nat.mul_le_mul_right _ hn;omega)
 clear K0 hq hz ha h1 h2 h3;go_enter Tryz.func64,Tryz.ntmps64
 go_upto_region 1 with fail
 generalize (w.alloc (.cells #[.slice A n c,.bool u.b1,.slice u.A u.n u.c,.bool u.b2,.slice u.A2 u.m u.d] 117)).alloc (.cells #[.bool false,.slice none 0 0,.bool false,.slice none 0 0] 115)=W at *;have y0:=PF.out.cell 0;have y1:=PF.out.cell 1;have y2:=PF.out.cell 2;have y3:=PF.out.cell 3;have y4:=PF.out.cell 4;have yl:=PF.out.lt;refine aJ (S:=fun w'=>Below W.heap.size W w') 7 _ (by kernel_rfl) (by kernel_rfl) rfl (aD bR) (fun hHeld=>?_);simp only [lA,List.take_zero];refine aL 0 rfl ?_;refine aL 1 rfl ?_;refine aL 2 rfl ?_;refine aL 4 rfl ?_;refine aL 5 rfl ?_;clear y0 y1 y2 y3 y4 yl;have yI:=lH (aD (Below.refl W.heap.size W));generalize W.drew=v0 at *;refine aU 3 (by kernel_rfl) rfl (fun K hK=>?_);go_simp
 refine (E3 A n c B m d q al 2000 v0 (HQ.o.up yI.o) (HA.o.up yI.o) I1 (by omega) H1.o H2.o (by have:n*(2*2000+1)<=1000*(2*2000+1):=Nat.mul_le_mul_right _ hn;omega)).mono ?_;rintro e v1 ⟨bH,x1,rfl,yA⟩;have mZ:Hid (Below W.heap.size W v1):=lH (yI.o.tm bH);have cJ:=lH yA;clear bH yA yI;go_simp;refine hK.out _ _ ?_ (fun hHeld=>?_)
 ·exact mZ.o
 clear hK K
 try simp only [Act.put,bP,bO,bN]
 refine aU 6 (by kernel_rfl) rfl (fun K hK=>?_);go_simp;refine (ID cJ.o (HZ.o.up mZ.o) HDS.o).mono ?_;rintro e v2 ⟨bL,x2,rfl,xJ⟩;have qY:Hid (Below W.heap.size W v2):=lH (mZ.o.tm bL);have dI:=lH xJ;clear bL xJ mZ cJ;go_simp;refine hK.out _ _ ?_ (fun hHeld=>?_)
 ·exact qY.o
 clear hK K
 try simp only [Act.put,bP,bO,bN]
 refine wpAnyH_done (by kernel_rfl) ?_ _;refine aP (by rfl) ?_;clear hHeld;have PC:=lH (PB.out.bl qY.o);have z0:=PC.out.cell 0;have z1:=PC.out.cell 1;have z2:=PC.out.cell 2;have z3:=PC.out.cell 3;have zl:=PC.out.lt;have zf:=PC.out.frozen
 go_wp2_with fail
 clear z0 z1 z2 z3 zl zf;have PD:=lH (qQ (v:=x2) PC.out);have p0:=PD.out.cell 0;have p1:=PD.out.cell 1;have p2:=PD.out.cell 2;have p3:=PD.out.cell 3;unfold DU at p0 p1 p2 p3;refine bodyPost_ret (v:=.agg #[.bool x2.b1,.slice x2.A x2.n x2.c,.bool x2.b2,.slice x2.A2 x2.m x2.d]) (by simp [results,Tryz.results64,go_sem,p0,p1,p2,p3]) rfl ?_;exact ⟨dM (v:=x2) (HK.o.trans (qY.o.mono (by have:=dW.o;omega))) (Nat.le_succ _),x2,rfl,dI.o.keepq PC.out (x:=⟨false,none,0,0,false,none,0,0⟩)⟩
def aA8 (n n1:Nat) (ss:List ByteArray):Int:=if n≠n1 then 3 else dQ ss
theorem aA1 (g:Nat) (m:iZ) (y:Value) (A:OA) (n c:Nat) (ss:List ByteArray) (w:Wo) (hg:aG w g 122 (m.cells y)) (hR:bG w w.heap.size A n ss) (hs:∀ s∈ss,s.size<=maxLen) (hn:n<=9223372036854775807) (ht:dA w) (ae:Int) (hae:aA8 n m.n1 ss=ae) :
    Calls Tryz.prog 61 #[.pointer (some ⟨g,0,none⟩),.slice A n c] w fun e w'=>e=.returned (.int .i64 ae)/\Below w.heap.size w w':=by
 have HG:=lH hg;have HC:=lH (CO A n c ss w hR hs hn ht);clear hg hR hs ht;go_enter Tryz.func61,Tryz.ntmps61
 go_wp2_with fail
 refine (mT g m y w HG.o).mono ?_;rintro e w1 ⟨rfl,rfl⟩
 by_cases h:n=m.n1
 ·have HE:Hid (ae=dQ ss):=lH (by rw [<-hae];unfold aA8;rw [if_neg (fun hh=>hh h)])
  clear hae;rw [<-h];clear h
  go_wp2_with fail
  refine HC.o.mono ?_;rintro e w2 ⟨rfl,bL⟩;have HB:=lH bL;clear bL HC
  go_wp2_with fail
  go_ret;exact ⟨aX HE.o.symm,HB.o⟩
 ·have HE:Hid (ae=3):=lH (by rw [<-hae];unfold aA8;rw [if_pos h])
  clear hae;have hB:((n:Int) != (m.n1:Int))=true:=by simp;omega
  go_wp2_with fail
  go_ret;exact ⟨aX HE.o.symm,bR⟩
end
section
theorem S8 {f:Rat->Rat->Rat} {p q:Rat} (hp:bZ p) (hq:bZ q) (h:bZ (f p q)):opS f (bV p) (bV q)=bV (f p q):=by
 rw [aLs (kV hp).1 (kV hq).1,(kV hp).2,(kV hq).2,aLj h]
theorem aOK {D B k:Nat} {q:Rat} (h:Ot D B q) (h0:D≠0) (h1:B*D<10^k) (h2:D<10^k):Tn k q:=by
 obtain ⟨a,h3,h4⟩:=h;have cP:((D:Int):Rat)≠0:=by
  intro e;have:((D:Int):Rat)=((0:Int):Rat):=e;rw [Rat.intCast_inj] at this;omega
 have e:q=Rat.divInt a D:=by
  rw [Rat.divInt_eq_div,<-h3,Rat.mul_div_cancel cP]
 rw [e];exact J7 h0 (WT h4 h1) h2
end
section
open Go.ChangeShapes Go.WideShapes Go.ChangeAt Go.RowKit
attribute [local go_sem ↓] aE
attribute [local go_sem] aK aH aM aY
def aLx (x:bE) (al:List Rat) (m:Mi):Rat:=jJ (aS x m).1 al+(aS x m).2
def kX (x:bE) (ms:List Mi) (ss:List ByteArray):List Rat:=ms.map (aLx x (ss.map kB))
def uI (x:bE) (ms:List Mi) (ss:List ByteArray):Int:=if b6 x ms≠0 then b6 x ms else aA8 ss.length (aI x) ss
def aKp (x:bE) (ms:List Mi) (ss:List ByteArray) (w:Wo) (e:Ending) (w':Wo):Prop:=Below w.heap.size w w'/\((uI x ms ss≠0/\e=.returned (.tuple #[.slice none 0 0,.int .i64 (uI x ms ss)]))\/
 (uI x ms ss=0/\((∀ q∈kX x ms ss,bZ q)->∃ A n c,e=.returned (.tuple #[.slice A n c,.int .i64 0])/\bG w' w'.heap.size A n ((kX x ms ss).map bV)/\n<=c/\c<=maxLen)/\(¬(∀ q∈kX x ms ss,bZ q)->e=.returned (.tuple #[.slice none 0 0,.int .i64 2]))))
theorem UD {x:bE} {ms:List Mi} {ss:List ByteArray} {k:Nat} {m:Mi} (h:ms[k]?=some m):(kX x ms ss).take (k+1)=(kX x ms ss).take k++[aLx x (ss.map kB) m]:=by
 have h2:(kX x ms ss)[k]?=some (aLx x (ss.map kB) m):=by unfold kX;rw [kI,h];rfl
 exact kJ h2
theorem PG {x:bE} {ms:List Mi} {ss:List ByteArray} (h:uI x ms ss=0):b6 x ms=0/\ss.length=aI x/\∀ s∈ss,cX s.data.toList=0:=by
 unfold uI at h
 split at h
 ·exact absurd h (by assumption)
 ·rename_i h1
  unfold aA8 at h
  split at h
  ·omega
  ·rename_i h2
   exact ⟨by omega,by omega,oW.1 h⟩
theorem aAh (h:cE) (x:bE) (h8:x.nodes.length<=8) (A:OA) (n c:Nat) (ms:List Mi) (B:OA) (mm d:Nat) (ss:List ByteArray) (w:Wo) (r:cS w w.heap.size h x) (hm:eG w w.heap.size A n ms) (hR:bG w w.heap.size B mm ss) (hz:∀ m∈ms,m.txt.size<=maxLen) (hs:∀ s∈ss,s.size<=maxLen) (hn:n<=9223372036854775807) (pS:mm<=9223372036854775807) (ht:dA w) :
    Calls Tryz.prog 25 #[.agg h.cells,.slice A n c,.slice B mm d] w (aKp x ms ss w):=by
 have K0:Below w.heap.size w (w.alloc (.cells h.cells 29)):=bA;have HK:=lH K0;have P0:=lH (aG.new w 29 h.cells);have HX:=lH (r.up K0);have HM:=lH (hm.bm K0);have HS:=lH (hR.bm K0);have HT:=lH (ht.up K0);have j_:Hid (ms.length=n):=lH hm.1;have II:Hid (ss.length=mm):=lH hR.1;have HSS:=lH hs;have dW:Hid (w.heap.size<=(w.alloc (.cells h.cells 29)).heap.size):=lH K0.size;have HRP:Hid (∀ e w',aKp x ms ss w e w'<->(Below w.heap.size w w'/\((uI x ms ss≠0/\e=.returned (.tuple #[.slice none 0 0,.int .i64 (uI x ms ss)]))\/
 (uI x ms ss=0/\((∀ q∈kX x ms ss,bZ q)->∃ A n c,e=.returned (.tuple #[.slice A n c,.int .i64 0])/\bG w' w'.heap.size A n ((kX x ms ss).map bV)/\n<=c/\c<=maxLen)/\(¬(∀ q∈kX x ms ss,bZ q)->e=.returned (.tuple #[.slice none 0 0,.int .i64 2])))))):=lH fun e w'=>Iff.rfl
 have HRE:Hid (uI x ms ss=if b6 x ms≠0 then b6 x ms else aA8 ss.length (aI x) ss):=lH rfl;have DO:=lH (mS h x A n c ms (w.alloc (.cells h.cells 29)) HX.o HM.o hz hn HT.o);have HPA:=lH (PG (x:=x) (ms:=ms) (ss:=ss));generalize uI x ms ss=re at *;clear K0 hm hR r ht hs hz;obtain ⟨D0,r0,s0,D1,r1,s1,D2,r2,s2,D3,r3,s3,D4,r4,s4,D5,r5,s5⟩:=h;obtain ⟨y0,y1,y2,y3,y4,y5,nf,nlt⟩:=a_ P0.o;dsimp only at y0 y1 y2 y3 y4 y5;go_enter Tryz.func25,Tryz.ntmps25
 go_wp2_with fail
 generalize w.alloc (.cells (cE.cells ⟨D0,r0,s0,D1,r1,s1,D2,r2,s2,D3,r3,s3,D4,r4,s4,D5,r5,s5⟩) 29)=W at *;refine DO.o.mono ?_;rintro e w1 ⟨rfl,bH⟩;have bS:=lH bH;clear bH y0 y1 y2 y3 y4 y5 nf nlt DO
 by_cases iX:b6 x ms=0
 ·have HC:=lH iX
  rw [if_neg (fun h=>h iX)] at HRE;rw [iX];clear iX;have PNX:=P0.o.bl bS.o;obtain ⟨y0,y1,y2,y3,y4,y5,nf,nlt⟩:=a_ PNX;dsimp only at y0 y1 y2 y3 y4 y5;clear PNX;obtain ⟨ok,hl,jS⟩:=iU HC.o;have cH:=lH ok;have HL:=lH hl;have q_:=lH jS;clear ok hl jS
  go_wp2_with fail
  refine (jI _ x cH.o h8 w1 (HX.o.up bS.o)).mono ?_;rintro e w2 ⟨bL,g,m,A7,n7,c7,rfl,hg,b_,jY,-⟩;have bW:=lH (bS.o.tm bL);have HG:=lH b_;have HR:=lH jY;have eN:Hid (aI x=m.n1):=lH (by rw [<-rV cH.o];exact jY.r1.len);clear bL hg b_ jY bS y0 y1 y2 y3 y4 y5 nf nlt
  go_wp2_with fail
  refine (aA1 g m _ B mm d ss w2 HG.o (HS.o.bm bW.o) HSS.o pS (HT.o.up bW.o) re (by rw [HRE.o,II.o,eN.o])).mono ?_;rintro e w3 ⟨rfl,cR⟩;have dR:=lH (bW.o.tm cR);replace HG:=lH (HG.o.bl cR);replace HR:=lH (HR.o.up cR);clear cR bW
  by_cases hre:re=0
  ·subst hre
   obtain ⟨-,CA,hsv⟩:=HPA.o rfl;have HSV:=lH hsv;have nR:Hid (mm=aI x):=lH (by rw [<-II.o];exact CA);have a2f:mm<=8:=by rw [nR.o];exact cV (fR cH.o).2 h8
   clear CA hsv HPA HRE
   go_wp2_with fail
   refine (MM B mm d ss w3 (HS.o.bm dR.o) HSV.o (by omega)).mono ?_;rintro e w4 ⟨dU,A4,n4,c4,rfl,hq4,-,-,-⟩;have bK:=lH (dR.o.tm dU);replace HG:=lH (HG.o.bl dU);replace HR:=lH (HR.o.up dU);have HQ:=lH hq4;have m6:Hid (n4=mm):=lH (by rw [<-hq4.len,lB,II.o]);have IK:Hid (∀ p∈ss.map kB,bU p<=2000):=lH fun p hp=>by
    obtain ⟨s,hs,rfl⟩:=List.mem_map.1 hp;exact nF (gI (HSV.o s hs))
   clear dU hq4 dR HS;have a4o:Hid (W.heap.size<=w4.heap.size):=lH bK.o.size;have a2a:n<=64:=by have:=HL.o;have:=j_.o;omega
   go_wp2_with fail
   go_loopw [12,33] (fun v12 v33 wr=>∃ (k:Nat) (us:List Rv),k<=n/\v33=.int .i64 k/\fH wr w4.heap.size v12 us ((kX x ms ss).take k)/\Below w4.heap.size w4 wr) (fun _ v33 _=>n-(intOf v33).toNat)
   case atStart=>exact ⟨0,[],by omega,rfl,oQ _ _,bR⟩
   case round=>
    obtain ⟨k,us,hk,rfl,ho,hb⟩:=hrel;have HO:=lH ho;have HB:=lH hb;clear ho hb
    by_cases aW:k<n
    ·obtain ⟨mi,jS⟩:∃ mi,ms[k]?=some mi:=eO (by have:=j_.o;omega)
     have OJ:=lH (UD (x:=x) (ss:=ss) jS);have tA:=lH (q_.o mi (cO jS));have fZ:=lH (bK.o.tm HB.o);have hmx:=(HM.o.below fZ.o lR).more fZ.o.size;obtain ⟨ab,ao,hA,oS,-⟩:=hmx.2.2 (by omega);subst hA;obtain ⟨a0,a1,a2,a3⟩:=hmx.at_ jS;have fT:(k:Int)<(n:Int):=by omega
     have kF:=lZ k
     have qW:=kU k;have l_:=lN k;have jW:Hid (n-(k+1)<n-k):=lH (by omega);have tB:=lH aW;clear jS hmx
     go_upto_region 13 with fail
     clear a0 a1 a2 a3 oS fT kF qW;have hz:Below wr.heap.size wr (wr.alloc (.cells #[.int .i64 mi.kind,.string mi.name,.string mi.txt,.int .i64 mi.wt] 57)):=bA;have aBm:=lH (aG.new wr 57 #[.int .i64 mi.kind,.string mi.name,.string mi.txt,.int .i64 mi.wt]);replace HO:=lH (HO.o.keep hz);have DP:Hid (Below w4.heap.size w4 (wr.alloc (.cells #[.int .i64 mi.kind,.string mi.name,.string mi.txt,.int .i64 mi.wt] 57))):=lH (HB.o.tm hz);have HWA:Hid (Below W.heap.size W (wr.alloc (.cells #[.int .i64 mi.kind,.string mi.name,.string mi.txt,.int .i64 mi.wt] 57))):=lH (bK.o.tm DP.o);clear hz HB fZ;generalize wr.heap.size=gm at *;generalize wr.alloc (.cells #[.int .i64 mi.kind,.string mi.name,.string mi.txt,.int .i64 mi.wt] 57)=wa at *;have PNX:=P0.o.bl HWA.o;obtain ⟨y0,y1,y2,y3,y4,y5,nf,nlt⟩:=a_ PNX
     dsimp only at y0 y1 y2 y3 y4 y5;clear PNX;have x0:=aBm.o.cell 0;have x1:=aBm.o.cell 1;have x2:=aBm.o.cell 2;have x3:=aBm.o.cell 3;have xl:=aBm.o.lt
     go_wp2_with fail
     refine (mW _ x cH.o h8 g m _ mi wa (HX.o.up HWA.o) (HG.o.bl DP.o) (HR.o.up DP.o) tA.o.1 tA.o.2).mono ?_;rintro e w5 ⟨eD,gc,u,rfl,hq,hv⟩;clear y0 y1 y2 y3 y4 y5 nf nlt x0 x1 x2 x3 xl;have dX:=lH (DP.o.tm eD);replace HO:=lH (HO.o.keep eD);have HQF:=lH hq;have HVF:=lH hv;have HFO:=lH (lV cH.o tA.o);clear eD hq hv HWA DP
     go_wp2_with fail
     refine (aIB (some ⟨gc,0,none⟩) (aI x) (aI x) u (aS x mi).1 (aS x mi).2 A4 n4 c4 (ss.map kB) w5 HQF.o HVF.o (HQ.o.bm dX.o) (by rw [m6.o,nR.o];exact lR) (by have:=nR.o;omega) (fun p hp=>cV (HFO.o.cf p hp) (by decide)) IK.o (cV HFO.o.fr (by decide))).mono ?_;rintro e w6 ⟨fQ,xe,rfl,hxe⟩;have fV:=lH (dX.o.tm fQ);replace HO:=lH (HO.o.keep fQ);have SR:=lH hxe;have tW:Hid (w4.heap.size<=w6.heap.size):=lH fV.o.size;clear fQ hxe dX HQF HVF HFO
     go_wp2_with (at_builtin;refine t_ rfl (.tmp 37) (.tmp 44) _ rfl w4.heap.size Tryz.underlying93 u12 us _ rfl HO.o xe _ SR.o rfl ?k1 tW.o ?_)
     case k1=>rw [jP];omega
     intro v' w8 bF hkeep e_;have oY:Hid (fH w8 w4.heap.size v' (us++[xe]) ((kX x ms ss).take (k+1))):=lH (by rw [OJ.o];exact bF);have dF:=lH (fV.o.trans e_);clear bF hkeep e_ HO fV SR aBm
     go_wp2_with fail
     go_roundw
     case rel=>exact ⟨k+1,us++[xe],tB.o,aQ l_.o,oY.o,dF.o⟩
     case measure=>exact jW.o
    ·have lS:k=n:=by omega
     subst lS;have fT:¬(k:Int)<(k:Int):=by omega
     have K3:(kX x ms ss).length=k:=by unfold kX;rw [lB];exact j_.o
     have Y2:Hid (fH wr w4.heap.size u12 us (kX x ms ss)):=lH (by
      have h:=HO.o;rw [nW (by rw [K3];exact lR)] at h;exact h)
     obtain ⟨A9,c9,hv,jY,-,-,-⟩:=Y2.o.rd;subst hv;rw [K3] at jY ⊢;have LX:=lH jY;have CU:=lH (bK.o.tm HB.o);clear jY K3 HO
     go_wp2_with fail
     refine (qB A9 k c9 (kX x ms ss) wr LX.o (by omega) (HT.o.up CU.o)).mono ?_;rintro e w9 ⟨gE,pW,uN⟩;have cQ:=lH (HK.o.trans ((CU.o.tm gE).mono dW.o));have xD:=lH pW;have tT:=lH uN;clear gE pW uN
     by_cases hf:∀ q∈kX x ms ss,bZ q
     ·obtain ⟨A6,n6,c6,rfl,xK,h61,h62⟩:=xD.o hf
      have V_:=lH xK;clear xK
      go_wp2_with fail
      go_ret2;rw [HRP.o];exact ⟨cQ.o,.inr ⟨by trivial,fun _=>⟨A6,n6,c6,rfl,V_.o,h61,h62⟩,fun h=>absurd hf h⟩⟩
     ·obtain rfl:=tT.o hf
      go_wp2_with fail
      go_ret2;rw [HRP.o];exact ⟨cQ.o,.inr ⟨by trivial,fun h=>absurd h hf,fun _=>rfl⟩⟩
  ·have hB:(re != 0)=true:=by simp [hre]
   go_wp2_with fail
   go_ret2;rw [HRP.o];exact ⟨HK.o.trans (dR.o.mono dW.o),.inl ⟨hre,rfl⟩⟩
 ·have aEF:(b6 x ms != 0)=true:=by simp [iX]
  rw [if_pos iX] at HRE
  go_wp2_with fail
  go_ret2;rw [HRP.o];exact ⟨HK.o.trans (bS.o.mono dW.o),.inl ⟨by rw [HRE.o];exact iX,by rw [HRE.o];rfl⟩⟩
end
section
open Go.ChangeShapes Go.WideShapes Go.ChangeAt Go.RowKit
theorem XP {D B a b:Nat} {q:Rat} (h:Ot D B q) (h0:D≠0) (h1:B<=10^a) (h2:D<=10^b) (h3:a+b+1<=2000):bZ q:=by
 refine (aOK (k:=a+b+1) h h0 ?_ ?_).fits h3
 ·refine WT (Nat.mul_le_mul h1 h2) ?_
  rw [<-Nat.pow_add];exact Nat.pow_lt_pow_right (by decide) (by omega)
 ·exact WT h2 (Nat.pow_lt_pow_right (by decide) (by omega))
theorem LE {x:bE} (ok:cN x) (hl:x.brs.length<=10) {m:Mi} (hm:nV x m):(∀ q∈(aS x m).1,bZ q)/\bZ (aS x m).2:=by
 have h:=GU ok hl hm;obtain ⟨h1,h2⟩:=LL ok hl;have hD:kR x.brs*1000<=10^83:=by
  have:=Nat.mul_le_mul_right 1000 h2;exact cV this (by decide)
 exact ⟨fun q hq=>XP (h.cf q hq) h1 (a:=5) (by decide) h2 (by decide),XP h.fr (Nat.mul_ne_zero h1 (by decide)) (a:=5) (by decide) hD (by decide)⟩
theorem KS {x:bE}:∀ {ms:List Mi},(∀ m∈ms,DW x m=0)->tG x ms=0
 | [],_=>rfl
 | a::r,h=>by
  unfold tG;rw [if_pos (h a List.mem_cons_self)];exact KS fun m hm=>h m (List.mem_cons_of_mem _ hm)
theorem aDy {x:bE} {ms:List Mi} (hn:fK x=0) (hl:ms.length<=64) (h:∀ m∈ms,DW x m=0):b6 x ms=0:=by
 unfold b6;rw [if_neg (by omega),if_neg (by omega)];exact KS h
theorem aDx {x:bE} {ms ms':List Mi} (h:b6 x ms=0) (hs:∀ m∈ms',m∈ms) (hl:ms'.length<=64):b6 x ms'=0:=by
 obtain ⟨h1,_,h3⟩:=sN h;exact aDy h1 hl fun m hm=>h3 m (hs m hm)
end
section
open Go.ChangeShapes Go.WideShapes Go.ChangeAt Go.RowKit Go.Joins
attribute [local go_sem ↓] aE
attribute [local go_sem] aK aH aM aY
section
variable {o:Oper} {a:Act} {w:Wo} {Q:Exit->Act->World->Prop}
end
theorem aC1 {w:Wo} {g:Nat} {T:TypeId} {m:Mi} (h:aG w g T #[.int .i64 m.kind,.string m.name,.string m.txt,.int .i64 m.wt]):eG w w.heap.size (some ⟨g,0,none⟩) 1 [m]:=by
 refine ⟨rfl,⟨rfl,fun _=>⟨g,0,rfl,h.lt,fun j u hu=>?_⟩⟩⟩;rw [Nat.zero_add,h.cell j];simpa [Mi.cells] using hu
end
section
open Go.ChangeShapes Go.WideShapes Go.ChangeAt Go.RowKit
attribute [local go_sem ↓] aE
attribute [local go_sem] aK aH aM aY
def aWq (x:bE) (m:Mi) (w:Wo) (e:Ending) (w':Wo):Prop:=Below w.heap.size w w'/\((b6 x [m]≠0/\e=.returned (.tuple #[.slice none 0 0,.string ⟨#[]⟩,.int .i64 (b6 x [m])]))\/
 (b6 x [m]=0/\∃ A c,e=.returned (.tuple #[.slice A (aI x) c,.string (bV (aS x m).2),.int .i64 0])/\bG w' w'.heap.size A (aI x) ((aS x m).1.map bV)))
def aQ0 (x:bE) (m:Mi) (w:Wo) (e:Ending) (w':Wo):Prop:=Below w.heap.size w w'/\((b6 x [m]≠0/\e=.returned (.tuple #[.slice none 0 0,.string ⟨#[]⟩,.int .i64 (b6 x [m])]))\/
 (b6 x [m]=0/\∃ A c,e=.returned (.tuple #[.slice A (aI x) c,.string (bV (aS x m).2),.int .i64 0])/\bG w' w'.heap.size A (aI x) ((aS x m).1.map bV)/\aFA w.heap.size A))
theorem XT (h:cE) (x:bE) (h8:x.nodes.length<=8) (m:Mi) (w:Wo) (r:cS w w.heap.size h x) (hz:m.txt.size<=maxLen) (ht:dA w) (hfc:b6 x [m]=0->(∀ q∈(aS x m).1,bZ q)/\bZ (aS x m).2) :
    Calls Tryz.prog 40 #[.agg h.cells,.agg #[.int .i64 m.kind,.string m.name,.string m.txt,.int .i64 m.wt]] w (aQ0 x m w):=by
 have K0:Below w.heap.size w ((w.alloc (.cells h.cells 29)).alloc (.cells #[.int .i64 m.kind,.string m.name,.string m.txt,.int .i64 m.wt] 57)):=(bA).alloc (by simp) _;have HK:=lH K0;have P0:=lH ((aG.new w 29 h.cells).alloc (.cells #[.int .i64 m.kind,.string m.name,.string m.txt,.int .i64 m.wt] 57));have P1:Hid (aG ((w.alloc (.cells h.cells 29)).alloc (.cells #[.int .i64 m.kind,.string m.name,.string m.txt,.int .i64 m.wt] 57)) (w.heap.size+1) 57 #[.int .i64 m.kind,.string m.name,.string m.txt,.int .i64 m.wt]):=lH (aG.new_ (by simp));have HX:=lH (r.up K0);have HT:=lH (ht.up K0);have HFC:=lH hfc;have HMZ:Hid (∀ a∈[m],a.txt.size<=maxLen):=lH fun a ha=>by rw [List.mem_singleton.1 ha];exact hz
 have dW:Hid (w.heap.size<=((w.alloc (.cells h.cells 29)).alloc (.cells #[.int .i64 m.kind,.string m.name,.string m.txt,.int .i64 m.wt] 57)).heap.size):=lH K0.size;have HOP:Hid (∀ e w',aQ0 x m w e w'<->(Below w.heap.size w w'/\((b6 x [m]≠0/\e=.returned (.tuple #[.slice none 0 0,.string ⟨#[]⟩,.int .i64 (b6 x [m])]))\/
 (b6 x [m]=0/\∃ A c,e=.returned (.tuple #[.slice A (aI x) c,.string (bV (aS x m).2),.int .i64 0])/\bG w' w'.heap.size A (aI x) ((aS x m).1.map bV)/\aFA w.heap.size A)))):=lH fun e w'=>Iff.rfl
 clear K0 r ht hfc;obtain ⟨D0,r0,s0,D1,r1,s1,D2,r2,s2,D3,r3,s3,D4,r4,s4,D5,r5,s5⟩:=h;obtain ⟨y0,y1,y2,y3,y4,y5,nf,nlt⟩:=a_ P0.o;dsimp only at y0 y1 y2 y3 y4 y5;have x0:=P1.o.cell 0;have x1:=P1.o.cell 1;have x2:=P1.o.cell 2;have x3:=P1.o.cell 3;have xl:=P1.o.lt;go_enter Tryz.func40,Tryz.ntmps40
 go_upto_region 1 with fail
 generalize (w.alloc (.cells (cE.cells ⟨D0,r0,s0,D1,r1,s1,D2,r2,s2,D3,r3,s3,D4,r4,s4,D5,r5,s5⟩) 29)).alloc (.cells #[.int .i64 m.kind,.string m.name,.string m.txt,.int .i64 m.wt] 57)=W at *;generalize w.heap.size+1=p1 at *
 go_wp2_with fail
 have hzl:Below W.heap.size W (W.alloc (.cells #[.int .i64 m.kind,.string m.name,.string m.txt,.int .i64 m.wt] 57)):=bA;have tB:=lH (aC1 (aG.new W 57 #[.int .i64 m.kind,.string m.name,.string m.txt,.int .i64 m.wt]));have iP:=lH hzl;clear y0 y1 y2 y3 y4 y5 nf nlt x0 x1 x2 x3 xl hzl;generalize W.alloc (.cells #[.int .i64 m.kind,.string m.name,.string m.txt,.int .i64 m.wt] 57)=wl at *;refine (mS _ x _ 1 1 [m] wl (HX.o.up iP.o) tB.o HMZ.o (by decide) (HT.o.up iP.o)).mono ?_;rintro e w1 ⟨rfl,bH⟩;have bS:=lH (iP.o.tm bH);clear bH iP tB
 by_cases iX:b6 x [m]=0
 ·have HC:=lH iX
  obtain ⟨ok,hl,jS⟩:=iU iX;have cH:=lH ok;have q_:=lH (jS m (List.mem_singleton.2 rfl));have HFT:=lH (HFC.o iX);rw [iX];clear ok hl jS iX HFC;have PNX:=P0.o.bl bS.o;obtain ⟨y0,y1,y2,y3,y4,y5,nf,nlt⟩:=a_ PNX;dsimp only at y0 y1 y2 y3 y4 y5;have P1b:=P1.o.bl bS.o;have x0:=P1b.cell 0;have x1:=P1b.cell 1;have x2:=P1b.cell 2;have x3:=P1b.cell 3;have xl:=P1b.lt;clear PNX P1b
  go_upto_region 4 with fail
  go_cut [8] (fun v8 wc=>∃ (p8 gc:Nat) (u:Rv),v8=.pointer (some ⟨p8,0,none⟩)/\aG wc p8 117 #[.slice (some ⟨gc,0,none⟩) (aI x) (aI x),.bool u.b1,.slice u.A u.n u.c,.bool u.b2,.slice u.A2 u.m u.d]/\iF wc wc.heap.size (some ⟨gc,0,none⟩) (aI x) (aS x m).1/\dL wc wc.heap.size (aS x m).2 u/\Below w1.heap.size w1 wc)
  case first=>
   refine aJ (S:=fun w'=>Below w1.heap.size w1 w') 6 _ (by kernel_rfl) (by kernel_rfl) rfl (aD bR) (fun hHeld=>?_);simp only [lA,List.take_zero];refine aL 0 rfl ?_;refine aL 1 rfl ?_;refine aL 3 rfl ?_;clear y0 y1 y2 y3 y4 y5 nf nlt x0 x1 x2 x3 xl;have yI:=lH (aD (Below.refl w1.heap.size w1));generalize w1.drew=v0 at *;refine MD 2 5 (by kernel_rfl) rfl rfl (fun K hK=>?_) (fun K hK=>?_)
   ·go_simp
    refine (jI _ x cH.o h8 v0 (HX.o.up (bS.o.tm yI.o))).mono ?_;rintro e v1 ⟨hb,g,md,A7,n7,c7,rfl,hg,b_,jY,-⟩;have mZ:Hid (Below w1.heap.size w1 v1):=lH (yI.o.tm hb);have AS:=lH b_;have tV:=lH jY;clear hb hg b_ jY;go_simp;refine hK.out _ _ ?_ (fun hHeld=>?_)
    ·exact mZ.o
    clear hK K
    try simp only [Act.put,bP,bO,bN]
    refine MD 4 5 (by kernel_rfl) rfl rfl (fun K hK=>?_) (fun K hK=>?_)
    ·go_simp
     refine (mW _ x cH.o h8 g md _ m v1 (HX.o.up (bS.o.tm mZ.o)) AS.o tV.o q_.o.1 q_.o.2).mono ?_;rintro e v2 ⟨hb,gc,u,rfl,hq,hv⟩;have qY:Hid (Below w1.heap.size w1 v2):=lH (mZ.o.tm hb);have rG:=lH hq;have HU2:=lH hv;have tZ:Hid (v1.heap.size<=v1.heap.size):=lH lR;clear hb hq hv tZ;go_simp;refine hK.out _ _ ?_ (fun hHeld=>?_)
     ·exact qY.o
     clear hK K
     try simp only [Act.put,bP,bO,bN]
     refine aU 5 (by kernel_rfl) rfl (fun K hK=>?_);go_simp;have hz:Below v2.heap.size v2 (v2.alloc (.cells #[.slice none 0 0,.bool false,.slice none 0 0,.bool false,.slice none 0 0] 117)):=bA;have pT:=lH (aG.new v2 117 #[.slice none 0 0,.bool false,.slice none 0 0,.bool false,.slice none 0 0]);have u_:Hid (Below w1.heap.size w1 (v2.alloc (.cells #[.slice none 0 0,.bool false,.slice none 0 0,.bool false,.slice none 0 0] 117))):=lH (qY.o.tm hz);have HPG:Hid (w1.heap.size<=v2.heap.size):=lH qY.o.size;have HQ3:=lH (rG.o.up hz);have HU3:=lH (HU2.o.up hz);generalize v2.alloc (.cells #[.slice none 0 0,.bool false,.slice none 0 0,.bool false,.slice none 0 0] 117)=v3 at *;generalize v2.heap.size=p8 at *;clear hz;refine hK.out _ _ ?_ (fun hHeld=>?_)
     ·exact u_.o
     clear hK K
     try simp only [Act.put,bP,bO,bN]
     refine wpAnyH_done (by kernel_rfl) ?_ _;refine aP (by rfl) ?_;clear hHeld;have s0:=pT.o.cell 0;have s1:=pT.o.cell 1;have s2:=pT.o.cell 2;have s3:=pT.o.cell 3;have s4:=pT.o.cell 4;have sl:=pT.o.lt;have sf:=pT.o.frozen
     go_wp2_with fail
     go_meet
     case rel=>exact ⟨p8,gc,u,rfl,lJ pT.o,HQ3.o.keep5 pT.o,HU3.o.keep5 pT.o,iE u_.o HPG.o⟩
    ·go_simp
     have hz:Below v1.heap.size v1 (v1.alloc (.cells #[.slice none 0 0,.bool false,.slice none 0 0,.bool false,.slice none 0 0] 117)):=bA;have NZ:=lH (aG.new v1 117 #[.slice none 0 0,.bool false,.slice none 0 0,.bool false,.slice none 0 0]);have qY:Hid (Below w1.heap.size w1 (v1.alloc (.cells #[.slice none 0 0,.bool false,.slice none 0 0,.bool false,.slice none 0 0] 117))):=lH (mZ.o.tm hz);have HPG:Hid (w1.heap.size<=v1.heap.size):=lH mZ.o.size;have fI:=lH (AS.o.bl hz);have sC:=lH (tV.o.up hz);generalize v1.alloc (.cells #[.slice none 0 0,.bool false,.slice none 0 0,.bool false,.slice none 0 0] 117)=v2 at *;generalize v1.heap.size=p8 at *;clear hz;refine hK.out _ _ ?_ (fun hHeld=>?_)
     ·exact qY.o
     clear hK K
     try simp only [Act.put,bP,bO,bN]
     refine aU 4 (by kernel_rfl) rfl (fun K hK=>?_);go_simp;refine (mW _ x cH.o h8 g md _ m v2 (HX.o.up (bS.o.tm qY.o)) fI.o sC.o q_.o.1 q_.o.2).mono ?_;rintro e v3 ⟨hb,gc,u,rfl,hq,hv⟩;have u_:Hid (Below w1.heap.size w1 v3):=lH (qY.o.tm hb);have HQ3:=lH hq;have HU3:=lH hv;have tZ:Hid (v2.heap.size<=v2.heap.size):=lH lR;have pT:=lH (NZ.o.bl hb);clear hb hq hv tZ;go_simp;refine hK.out _ _ ?_ (fun hHeld=>?_)
     ·exact u_.o
     clear hK K
     try simp only [Act.put,bP,bO,bN]
     refine wpAnyH_done (by kernel_rfl) ?_ _;refine aP (by rfl) ?_;clear hHeld;have s0:=pT.o.cell 0;have s1:=pT.o.cell 1;have s2:=pT.o.cell 2;have s3:=pT.o.cell 3;have s4:=pT.o.cell 4;have sl:=pT.o.lt;have sf:=pT.o.frozen
     go_wp2_with fail
     go_meet
     case rel=>exact ⟨p8,gc,u,rfl,lJ pT.o,HQ3.o.keep5 pT.o,HU3.o.keep5 pT.o,iE u_.o HPG.o⟩
   ·go_simp
    have hz:Below v0.heap.size v0 (v0.alloc (.cells #[.slice none 0 0,.bool false,.slice none 0 0,.bool false,.slice none 0 0] 117)):=bA;have OL:=lH (aG.new v0 117 #[.slice none 0 0,.bool false,.slice none 0 0,.bool false,.slice none 0 0]);have mZ:Hid (Below w1.heap.size w1 (v0.alloc (.cells #[.slice none 0 0,.bool false,.slice none 0 0,.bool false,.slice none 0 0] 117))):=lH (yI.o.tm hz);have HPG:Hid (w1.heap.size<=v0.heap.size):=lH yI.o.size;generalize v0.alloc (.cells #[.slice none 0 0,.bool false,.slice none 0 0,.bool false,.slice none 0 0] 117)=v1 at *;generalize v0.heap.size=p8 at *;clear hz;refine hK.out _ _ ?_ (fun hHeld=>?_)
    ·exact mZ.o
    clear hK K
    try simp only [Act.put,bP,bO,bN]
    refine aU 2 (by kernel_rfl) rfl (fun K hK=>?_);go_simp;refine (jI _ x cH.o h8 v1 (HX.o.up (bS.o.tm mZ.o))).mono ?_;rintro e v2 ⟨hb,g,md,A7,n7,c7,rfl,hg,b_,jY,-⟩;have qY:Hid (Below w1.heap.size w1 v2):=lH (mZ.o.tm hb);have fI:=lH b_;have sC:=lH jY;have NZ:=lH (OL.o.bl hb);clear hb hg b_ jY;go_simp;refine hK.out _ _ ?_ (fun hHeld=>?_)
    ·exact qY.o
    clear hK K
    try simp only [Act.put,bP,bO,bN]
    refine aU 4 (by kernel_rfl) rfl (fun K hK=>?_);go_simp;refine (mW _ x cH.o h8 g md _ m v2 (HX.o.up (bS.o.tm qY.o)) fI.o sC.o q_.o.1 q_.o.2).mono ?_;rintro e v3 ⟨hb,gc,u,rfl,hq,hv⟩;have u_:Hid (Below w1.heap.size w1 v3):=lH (qY.o.tm hb);have HQ3:=lH hq;have HU3:=lH hv;have tZ:Hid (v2.heap.size<=v2.heap.size):=lH lR;have pT:=lH (NZ.o.bl hb);clear hb hq hv tZ;go_simp;refine hK.out _ _ ?_ (fun hHeld=>?_)
    ·exact u_.o
    clear hK K
    try simp only [Act.put,bP,bO,bN]
    refine wpAnyH_done (by kernel_rfl) ?_ _;refine aP (by rfl) ?_;clear hHeld;have s0:=pT.o.cell 0;have s1:=pT.o.cell 1;have s2:=pT.o.cell 2;have s3:=pT.o.cell 3;have s4:=pT.o.cell 4;have sl:=pT.o.lt;have sf:=pT.o.frozen
    go_wp2_with fail
    go_meet
    case rel=>exact ⟨p8,gc,u,rfl,lJ pT.o,HQ3.o.keep5 pT.o,HU3.o.keep5 pT.o,iE u_.o HPG.o⟩
  case rest=>
   obtain ⟨p8,gc,u,rfl,I4,hq,hv,CF⟩:=hcut;have HF:=lH I4;have HQ:=lH hq;have HU:=lH hv;have bW:=lH (bS.o.tm CF);clear I4 hq hv CF bS y0 y1 y2 y3 y4 y5 nf nlt x0 x1 x2 x3 xl;generalize wc=w2 at *;have LZ:Hid (aI x<=8):=lH (cV (fR cH.o).2 h8);have mH:Hid ((aS x m).1.length=aI x):=lH HQ.o.len;have s0:=HF.o.cell 0;have s1:=HF.o.cell 1;have s2:=HF.o.cell 2;have s3:=HF.o.cell 3;have s4:=HF.o.cell 4;have sl:=HF.o.lt
   go_wp2_with fail
   clear s0 s1 s2 s3 s4 sl;refine (C4 _ (aI x) (aI x) (aS x m).1 w2 HQ.o (by have:=LZ.o;omega) (HT.o.up bW.o)).mono ?_;rintro e w3 ⟨cR,pW,-⟩;obtain ⟨A3,n3,c3,rfl,CB,-,-,hnw⟩:=pW HFT.o.1;have HNW:Hid (aFA w.heap.size A3):=lH (by obtain ⟨g,e1,e2⟩:=hnw;exact ⟨g,e1,by have:=bW.o.size;have:=dW.o;omega⟩);clear hnw;have dR:=lH (bW.o.tm cR);have HS3:=lH CB;have U0:n3=aI x:=by rw [<-CB.1,lB];exact mH.o
   subst U0;replace HU:=lH (HU.o.up cR);replace HF:=lH (HF.o.bl cR);clear cR pW CB bW HQ;have s0:=HF.o.cell 0;have s1:=HF.o.cell 1;have s2:=HF.o.cell 2;have s3:=HF.o.cell 3;have s4:=HF.o.cell 4;have sl:=HF.o.lt
   go_wp2_with fail
   clear s0 s1 s2 s3 s4 sl;refine (aOM HU.o (HT.o.up dR.o)).mono ?_;rintro e w4 ⟨dU,s,rfl,hs⟩;rw [decide_eq_true HFT.o.2];have HTX:Hid (s=bV (aS x m).2):=lH (hs HFT.o.2);have bK:=lH (HK.o.trans ((dR.o.tm dU).mono dW.o));replace HS3:=lH (HS3.o.bm dU);clear dU hs dR
   go_wp2_with fail
   refine bodyPost_ret (v:=.tuple #[.slice A3 (aI x) c3,.string s,.int .i64 0]) (by simp [results,Tryz.results40,go_sem]) rfl ?_;rw [HOP.o];exact ⟨bK.o,.inr ⟨HC.o,A3,c3,by rw [HTX.o],HS3.o,HNW.o⟩⟩
 ·have aEF:(b6 x [m] != 0)=true:=by simp [iX]
  go_wp2_with fail
  refine bodyPost_ret (v:=.tuple #[.slice none 0 0,.string ⟨#[]⟩,.int .i64 (b6 x [m])]) (by simp [results,Tryz.results40,go_sem]) rfl ?_;rw [HOP.o];exact ⟨HK.o.trans (bS.o.mono dW.o),.inl ⟨iX,rfl⟩⟩
theorem aHR (h:cE) (x:bE) (h8:x.nodes.length<=8) (m:Mi) (w:Wo) (r:cS w w.heap.size h x) (hz:m.txt.size<=maxLen) (ht:dA w) (hfc:b6 x [m]=0->(∀ q∈(aS x m).1,bZ q)/\bZ (aS x m).2) :
    Calls Tryz.prog 40 #[.agg h.cells,.agg #[.int .i64 m.kind,.string m.name,.string m.txt,.int .i64 m.wt]] w (aWq x m w):=(XT h x h8 m w r hz ht hfc).mono fun e w' h=>by
 obtain ⟨h1,h2⟩:=h;refine ⟨h1,?_⟩;rcases h2 with ⟨a1,a2⟩ | ⟨a1,A,c,a2,a3,-⟩
 ·exact .inl ⟨a1,a2⟩
 ·exact .inr ⟨a1,A,c,a2,a3⟩
def aK1 (x:bE) (w:Wo) (e:Ending) (w':Wo):Prop:=Below w.heap.size w w'/\((fK x≠0/\e=.returned (.tuple #[.slice none 0 0,.int .i64 (fK x)]))\/(fK x=0/\∃ A c,e=.returned (.tuple #[.slice A (aA x).length c,.int .i64 0])/\nL w' w'.heap.size A (aA x).length (dZ (aA x))))
theorem QT (h:cE) (x:bE) (h8:x.nodes.length<=8) (w:Wo) (r:cS w w.heap.size h x):Calls Tryz.prog 29 #[.agg h.cells] w (aK1 x w):=by
 have K0:Below w.heap.size w (w.alloc (.cells h.cells 29)):=bA;have HK:=lH K0;have P0:=lH (aG.new w 29 h.cells);have HX:=lH (r.up K0);have dW:Hid (w.heap.size<=(w.alloc (.cells h.cells 29)).heap.size):=lH K0.size;have cH:Hid (fK x=0->cN x):=lH zQ;have HFP:Hid (∀ e w',aK1 x w e w'<->(Below w.heap.size w w'/\((fK x≠0/\e=.returned (.tuple #[.slice none 0 0,.int .i64 (fK x)]))\/(fK x=0/\∃ A c,e=.returned (.tuple #[.slice A (aA x).length c,.int .i64 0])/\nL w' w'.heap.size A (aA x).length (dZ (aA x)))))):=lH fun e w'=>Iff.rfl;have DO:=lH (LT h x (w.alloc (.cells h.cells 29)) HX.o);generalize fK x=ck at *;clear K0 r;obtain ⟨D0,r0,s0,D1,r1,s1,D2,r2,s2,D3,r3,s3,D4,r4,s4,D5,r5,s5⟩:=h;obtain ⟨y0,y1,y2,y3,y4,y5,nf,nlt⟩:=a_ P0.o;dsimp only at y0 y1 y2 y3 y4 y5;go_enter Tryz.func29,Tryz.ntmps29
 go_wp2_with fail
 generalize w.alloc (.cells (cE.cells ⟨D0,r0,s0,D1,r1,s1,D2,r2,s2,D3,r3,s3,D4,r4,s4,D5,r5,s5⟩) 29)=W at *;refine DO.o.mono ?_;rintro e w1 ⟨rfl,bH⟩;have bS:=lH bH;clear bH y0 y1 y2 y3 y4 y5 nf nlt DO
 by_cases h0:ck=0
 ·subst h0
  have P1:=P0.o.bl bS.o;obtain ⟨y0,y1,y2,y3,y4,y5,nf,nlt⟩:=a_ P1;dsimp only at y0 y1 y2 y3 y4 y5;clear P1
  go_wp2_with fail
  refine (jI _ x (cH.o (by simp)) h8 w1 (HX.o.up bS.o)).mono ?_;rintro e w2 ⟨bL,g,m,A7,n7,c7,rfl,hg,b_,jY,-⟩;have bW:=lH (HK.o.trans ((bS.o.tm bL).mono dW.o));have DM:Hid ((aA x).length=m.n6):=lH (by rw [<-gU];exact jY.r6.len);have H6:=lH jY.r6;have g6:w2.cell? ⟨g,6,none⟩=some (.slice m.A6 m.n6 m.c6):=b_.cell 6;have gl:=b_.lt;clear bL hg b_ jY y0 y1 y2 y3 y4 y5 nf nlt
  go_wp2_with fail
  refine bodyPost_ret (v:=.tuple #[.slice m.A6 m.n6 m.c6,.int .i64 0]) (by simp [results,Tryz.results29,go_sem]) rfl ?_;rw [HFP.o];exact ⟨bW.o,.inr ⟨by simp,m.A6,m.c6,by rw [DM.o],by rw [DM.o];exact H6.o⟩⟩
 ·have hb:(ck != 0)=true:=by simp [h0]
  go_wp2_with fail
  refine bodyPost_ret (v:=.tuple #[.slice none 0 0,.int .i64 ck]) (by simp [results,Tryz.results29,go_sem]) rfl ?_;rw [HFP.o];exact ⟨HK.o.trans (bS.o.mono dW.o),.inl ⟨h0,rfl⟩⟩
theorem M8 {q:Rat} (h:q.num.natAbs<10^5/\q.den<10^5):bZ q:=Tn.fits (k:=5) h (by decide)
def mwB:Mi:=⟨1,⟨#[66]⟩,⟨#[48]⟩,1⟩
def mwL:List Mi:=[⟨0,⟨#[76]⟩,⟨#[48]⟩,1⟩]
def mwA:List ByteArray:=[⟨#[48]⟩,⟨#[45,53]⟩,⟨#[45,55]⟩]
theorem XR:aS bT mwB=([-1,3,-2],0):=by decide+kernel
theorem KP:b6 bT [mwB]=0/\uI bT mwL mwA=0/\aI bT=3/\aA bT=[1,2]/\fK bT=0:=by decide+kernel
theorem aDv:kX bT mwL mwA=[5]:=by decide+kernel
theorem aLu:bV (-1)=⟨#[45,49]⟩/\bV 3=⟨#[51]⟩/\bV (-2)=⟨#[45,50]⟩/\bV 0=⟨#[48]⟩/\bV 5=⟨#[53]⟩:=by decide+kernel
theorem aLv:(∀ q∈(aS bT mwB).1,bZ q)/\bZ (aS bT mwB).2:=by
 rw [XR];refine ⟨fun q hq=>?_,M8 (by decide+kernel)⟩;simp only [List.mem_cons,List.not_mem_nil,or_false] at hq;rcases hq with rfl | rfl | rfl<;>exact M8 (by decide+kernel)
theorem aHP:∀ q∈kX bT mwL mwA,bZ q:=by
 rw [aDv];intro q hq;rw [List.mem_singleton.1 hq];exact M8 (by decide+kernel)
theorem UC:(aS bT mwB).1.map bV=[⟨#[45,49]⟩,⟨#[51]⟩,⟨#[45,50]⟩]/\bV (aS bT mwB).2=⟨#[48]⟩/\(kX bT mwL mwA).map bV=[⟨#[53]⟩]:=by
 rw [XR,aDv];obtain ⟨h1,h2,h3,h4,h5⟩:=aLu;simp only [List.map_cons,List.map_nil,h1,h2,h3,h4,h5,and_self]
theorem aJI:(∀ m∈mwL,m.txt.size<=maxLen)/\∀ s∈mwA,s.size<=maxLen:=by decide+kernel
theorem UB (w:Wo) (ht:dA w):Calls Tryz.prog 21 #[] w fun e w'=>e=.returned (.bool true)/\Below w.heap.size w w':=by
 have HT:=lH ht;clear ht;go_enter Tryz.func21,Tryz.ntmps21
 go_wp2_with fail
 refine (eL w).mono ?_;rintro e w1 ⟨h1,rfl,yQ,bH⟩;have bS:=lH bH;have tV:=lH yQ;have xD:=lH (HT.o.up bH);clear bH yQ
 go_wp2_with fail
 refine (aHR h1 bT (by decide) mwB w1 tV.o (by decide) xD.o (fun _=>aLv)).mono ?_;rintro e w2 ⟨bL,hh⟩;rcases hh with ⟨h0,_⟩ | ⟨_,A2,c2,rfl,yB⟩
 ·exact absurd KP.1 h0
 rw [UC.1,KP.2.2.1] at yB;rw [UC.2.1,KP.2.2.1];have bW:=lH (bS.o.tm bL);have HV:=lH yB;clear bL yB tV xD bS
 go_wp2_with fail
 refine (eL w2).mono ?_;rintro e w3 ⟨h3,rfl,CB,cR⟩;have dR:=lH (bW.o.tm cR);have sY:=lH CB;replace HV:=lH (HV.o.bm cR);clear cR CB bW
 go_wp2_with fail
 refine (fF ⟨#[76]⟩ ⟨#[48]⟩ w3).mono ?_;rintro e w4 ⟨rfl,dU⟩;have bK:=lH (dR.o.tm dU);replace sY:=lH (sY.o.up dU);replace HV:=lH (HV.o.bm dU);clear dU dR
 go_wp2_with fail
 have hz:Below w4.heap.size w4 ((w4.alloc (.cells #[.int .i64 0,.string ⟨#[76]⟩,.string ⟨#[48]⟩,.int .i64 1] 57)).alloc (.cells #[.string ⟨#[48]⟩,.string ⟨#[45,53]⟩,.string ⟨#[45,55]⟩] 55)):=(bA).alloc (by simp) _;have HM:Hid (eG ((w4.alloc (.cells #[.int .i64 0,.string ⟨#[76]⟩,.string ⟨#[48]⟩,.int .i64 1] 57)).alloc (.cells #[.string ⟨#[48]⟩,.string ⟨#[45,53]⟩,.string ⟨#[45,55]⟩] 55)) ((w4.alloc (.cells #[.int .i64 0,.string ⟨#[76]⟩,.string ⟨#[48]⟩,.int .i64 1] 57)).alloc (.cells #[.string ⟨#[48]⟩,.string ⟨#[45,53]⟩,.string ⟨#[45,55]⟩] 55)).heap.size (some ⟨w4.heap.size,0,none⟩) 1 mwL):=lH ⟨rfl,uJ (vs:=mwL.flatMap Mi.cells) (T:=57) ((aG.new w4 _ _).alloc _) rfl (by simp;omega)⟩
 have HA:Hid (bG ((w4.alloc (.cells #[.int .i64 0,.string ⟨#[76]⟩,.string ⟨#[48]⟩,.int .i64 1] 57)).alloc (.cells #[.string ⟨#[48]⟩,.string ⟨#[45,53]⟩,.string ⟨#[45,55]⟩] 55)) ((w4.alloc (.cells #[.int .i64 0,.string ⟨#[76]⟩,.string ⟨#[48]⟩,.int .i64 1] 57)).alloc (.cells #[.string ⟨#[48]⟩,.string ⟨#[45,53]⟩,.string ⟨#[45,55]⟩] 55)).heap.size (some ⟨w4.heap.size+1,0,none⟩) 3 mwA):=lH (eR (zs:=mwA) (T:=55) (aG.new_ (w:=(w4.alloc (.cells #[.int .i64 0,.string ⟨#[76]⟩,.string ⟨#[48]⟩,.int .i64 1] 57))) (by simp)) (by simp));have dX:=lH (bK.o.tm hz);replace sY:=lH (sY.o.up hz);replace HV:=lH (HV.o.bm hz);have HT5:=lH (HT.o.up dX.o);clear hz bK;generalize (w4.alloc (.cells #[.int .i64 0,.string ⟨#[76]⟩,.string ⟨#[48]⟩,.int .i64 1] 57)).alloc (.cells #[.string ⟨#[48]⟩,.string ⟨#[45,53]⟩,.string ⟨#[45,55]⟩] 55)=w5 at *
 refine (aAh h3 bT (by decide) _ 1 1 mwL _ 3 3 mwA w5 sY.o HM.o HA.o aJI.1 aJI.2 (by decide) (by decide) HT5.o).mono ?_;rintro e w6 ⟨fQ,hh⟩;rcases hh with ⟨h0,_⟩ | ⟨_,hh,-⟩
 ·exact absurd KP.2.1 h0
 obtain ⟨A6,n6,c6,rfl,hs6,-,-⟩:=hh aHP;rw [UC.2.2] at hs6;have hn6:n6=1:=hs6.1.symm;subst hn6;have fV:=lH (dX.o.tm fQ);have HW:=lH hs6;replace HV:=lH (HV.o.bm fQ);clear fQ hs6 dX sY HM HA HT5 hh
 go_wp2_with fail
 refine (eL w6).mono ?_;rintro e w7 ⟨h7,rfl,hr7,gY⟩;have iM:=lH (fV.o.tm gY);have NV:=lH hr7;replace HV:=lH (HV.o.bm gY);replace HW:=lH (HW.o.bm gY);clear gY hr7 fV
 go_wp2_with fail
 refine (QT h7 bT (by decide) w7 NV.o).mono ?_;rintro e w8 ⟨e_,hh⟩;rcases hh with ⟨h0,_⟩ | ⟨_,A8,c8,rfl,hi8⟩
 ·exact absurd KP.2.2.2.2 h0
 rw [KP.2.2.2.1] at hi8 ⊢;have dF:=lH (iM.o.tm e_);have HI:Hid (nL w8 w8.heap.size A8 2 [1,2]):=lH hi8;replace HV:=lH (HV.o.bm e_);replace HW:=lH (HW.o.bm e_);clear e_ hi8 iM NV;simp only [E_,zW_,Nat.zero_add]
 go_wp2_with fail
 have hz:Below w8.heap.size w8 (w8.alloc (.cells #[.string ⟨#[45,49]⟩,.string ⟨#[51]⟩,.string ⟨#[45,50]⟩] 55)):=bA;have HLa:Hid (bG (w8.alloc (.cells #[.string ⟨#[45,49]⟩,.string ⟨#[51]⟩,.string ⟨#[45,50]⟩] 55)) (w8.alloc (.cells #[.string ⟨#[45,49]⟩,.string ⟨#[51]⟩,.string ⟨#[45,50]⟩] 55)).heap.size (some ⟨w8.heap.size,0,none⟩) 3 [⟨#[45,49]⟩,⟨#[51]⟩,⟨#[45,50]⟩]):=lH (eR (zs:=[⟨#[45,49]⟩,⟨#[51]⟩,⟨#[45,50]⟩]) (T:=55) (aG.new_ (w:=w8) (by simp)) (by simp));have cQ:=lH (dF.o.tm hz);replace HV:=lH (HV.o.bm hz);replace HW:=lH (HW.o.bm hz);replace HI:=lH (HI.o.bm hz);clear hz dF;generalize w8.alloc (.cells #[.string ⟨#[45,49]⟩,.string ⟨#[51]⟩,.string ⟨#[45,50]⟩] 55)=w9 at *;refine (qC A2 3 c2 _ _ 3 3 _ w9 HV.o HLa.o (by decide) (by decide)).mono ?_
 rintro e w10 ⟨rfl,qX⟩;rw [decide_eq_true rfl];have AU:=lH (cQ.o.tm qX);replace HW:=lH (HW.o.bm qX);replace HI:=lH (HI.o.bm qX);clear qX cQ HV HLa
 go_wp2_with fail
 have hz:Below w10.heap.size w10 (w10.alloc (.cells #[.string ⟨#[53]⟩] 55)):=bA;have HLb:Hid (bG (w10.alloc (.cells #[.string ⟨#[53]⟩] 55)) (w10.alloc (.cells #[.string ⟨#[53]⟩] 55)).heap.size (some ⟨w10.heap.size,0,none⟩) 1 [⟨#[53]⟩]):=lH (eR (zs:=[⟨#[53]⟩]) (T:=55) (aG.new_ (w:=w10) (by simp)) (by simp));have rB:=lH (AU.o.tm hz);replace HW:=lH (HW.o.bm hz);replace HI:=lH (HI.o.bm hz);clear hz AU;generalize w10.alloc (.cells #[.string ⟨#[53]⟩] 55)=w11 at *;refine (qC A6 1 c6 _ _ 1 1 _ w11 HW.o HLb.o (by decide) (by decide)).mono ?_;rintro e w12 ⟨rfl,uQ⟩;rw [decide_eq_true rfl];have vI:=lH (rB.o.tm uQ);replace HI:=lH (HI.o.bm uQ);clear uQ rB HW HLb
 go_wp2_with fail
 have hz:Below w12.heap.size w12 (w12.alloc (.cells #[.int .i64 1,.int .i64 2] 3)):=bA;have HJ:Hid (nL (w12.alloc (.cells #[.int .i64 1,.int .i64 2] 3)) (w12.alloc (.cells #[.int .i64 1,.int .i64 2] 3)).heap.size (some ⟨w12.heap.size,0,none⟩) 2 [1,2]):=lH (uJ (vs:=ints [1,2]) (T:=3) (aG.new w12 _ _) rfl (by simp));have N9:=lH (vI.o.tm hz);replace HI:=lH (HI.o.bm hz);clear hz vI;generalize w12.alloc (.cells #[.int .i64 1,.int .i64 2] 3)=w13 at *;refine (nZ A8 2 c8 [1,2] _ 2 2 [1,2] w13 HI.o HJ.o (by decide)).mono ?_;rintro e w14 ⟨rfl,nq,rfl⟩;have aJq:=lH (bC N9.o nq);rw [show C_ [1,2] [1,2]=true from by decide];generalize w13.drewN nq=w14 at *
 go_wp2_with fail
 go_ret;exact ⟨rfl,aJq.o⟩
end
section
theorem Zt.mul {D E:Int} {H H':Nat} {p q:Rat} (hp:Zt D H p) (hq:Zt E H' q):Zt (D*E) (H*H') (p*q):=by
 obtain ⟨a,h1,h2⟩:=hp;obtain ⟨b,h3,h4⟩:=hq;refine ⟨a*b,?_,?_⟩
 ·rw [Rat.intCast_mul,Rat.intCast_mul,<-h1,<-h3]
  grind
 ·rw [Int.natAbs_mul]
  exact Nat.mul_le_mul h2 h4
theorem Zt.sum {D:Int} {H:Nat} {f:Fn}:∀ {n:Nat},(∀ k,k<n->Zt D H (f k))->Zt D (n*H) (aO n f)
 | 0,_=>by rw [Nat.zero_mul];exact Zt.zero D
 | n+1,h=>by
  rw [Nat.add_mul,Nat.one_mul];exact (Zt.sum fun k hk=>h k (by omega)).add (h n (by omega))
theorem Zt.of_ot {D B:Nat} {q:Rat} (h:Ot D B q):Zt (D:Int) (B*D) q:=h
section
variable {x:bE} {ms:List Mi}
end
section
variable {x:bE} {ms:List Mi}
theorem aLi (h:Sml x ms) {k j:Nat} (hk:k<ms.length) (hj:j<(aA x).length):Zt (kR x.brs:Int) (fW 85) ((fM x ms).R k j):=by
 obtain ⟨m,hm⟩:∃ m,ms[k]?=some m:=⟨_,jA hk⟩;have jS:=h.mi m (cO hm);rw [pH hm];have hF:=GU h.ok h.h10 jS;have h1:vf (f_ x (aS x m).1) j∈(aS x m).1:=by
  obtain ⟨b,hb,-,bL,-⟩:=M7 hj;have e:(f_ x (aS x m).1)[j]?=some (vf (aS x m).1 b):=by
   unfold f_;rw [kI,hb];rfl
  rw [iA e];exact cO (bI (by rw [hF.len];exact bL))
 refine (Zt.of_ot (hF.cf _ h1)).more ?_;have h2:=(E6 (l:=x.brs) fun b hb=>(h.ok.br b hb).2.2.2).2;have h3:(10^8)^x.brs.length<=fW 80:=by
  rw [<-Nat.pow_mul];exact Nat.pow_le_pow_right (by decide) (by have:=h.h10;omega)
 have h4:80000<=fW 5:=by decide
 exact cV (Nat.mul_le_mul h4 (cV h2 h3)) (CZ (by decide))
theorem aIJ (h:Sml x ms):(kR x.brs:Int)≠0/\(kR x.brs:Int).natAbs<=fW 80:=by
 obtain ⟨h1,h2⟩:=E6 (l:=x.brs) fun b hb=>(h.ok.br b hb).2.2.2;have h3:(10^8)^x.brs.length<=fW 80:=by
  rw [<-Nat.pow_mul];exact Nat.pow_le_pow_right (by decide) (by have:=h.h10;omega)
 exact ⟨by omega,by rw [Int.natAbs_natCast];omega⟩
end
section
variable {x:bE} {ms:List Mi}
def nrT (x:bE) (ms:List Mi) (i k:Nat):Rat:=(fM x ms).R k i*vf (bD x ms (bX x ms)) k*S2 ms k
def uL (x:bE) (ms:List Mi) (i k:Nat):Rat:=aO k (nrT x ms i)
theorem aDq (i k:Nat):uL x ms i (k+1)=uL x ms i k+nrT x ms i k:=rfl
theorem aLt (h:Sml x ms) (hm:D7 x ms) (hr:mI x ms) {i:Nat} (hi:i<(aA x).length) :
    (∀ k,k<ms.length->bZ ((fM x ms).R k i)/\bZ ((fM x ms).R k i*vf (bD x ms (bX x ms)) k)/\bZ (nrT x ms i k))/\(∀ k,k<=ms.length->bZ (uL x ms i k))/\uL x ms i ms.length=0:=by
 obtain ⟨D,h0,h1,-,h2⟩:=h.own hr;obtain ⟨e0,e1⟩:=aIJ h;have hv:∀ k,k<ms.length->vf (bD x ms (bX x ms)) k=(fM x ms).res (lW x ms) k:=fun k hk=>by rw [BO hm hk,W8 hr hk]
 obtain ⟨Q,hQ⟩:∃ Q,Q=fW 706:=⟨_,rfl⟩;obtain ⟨U,hU⟩:∃ U,U=fW 85:=⟨_,rfl⟩;rw [<-hQ] at h2;have hDD:(kR x.brs:Int)*D≠0:=fun e=>by
  rcases Int.mul_eq_zero.1 e with e | e
  ·exact e0 e
  ·exact h0 e
 have hDl:((kR x.brs:Int)*D).natAbs<=fW 759:=by
  rw [Int.natAbs_mul];exact cV (Nat.mul_le_mul e1 h1) (CZ (by decide))
 have hUQ:U*Q<=fW 791:=by rw [hQ,hU];exact CZ (by decide)
 have z0:∀ k,k<ms.length->Zt (kR x.brs:Int) U ((fM x ms).R k i):=fun k hk=>by rw [hU];exact aLi h hk hi
 have z1:∀ k,k<ms.length->Zt ((kR x.brs:Int)*D) (U*Q) ((fM x ms).R k i*vf (bD x ms (bX x ms)) k):=fun k hk=>by rw [hv k hk];exact (z0 k hk).mul (h2 k hk)
 have z2:∀ k,k<ms.length->Zt ((kR x.brs:Int)*D*1) (U*Q*1000) (nrT x ms i k):=fun k hk=>by
  obtain ⟨m,pS⟩:∃ m,ms[k]?=some m:=⟨_,jA hk⟩;have hw:=h.wt m (cO pS);unfold nrT;rw [BC pS];exact (z1 k hk).mul ((Zt.int m.wt).more (by omega))
 rw [Int.mul_one] at z2;have aAI:U*Q*1000<=fW 794:=cV (Nat.mul_le_mul hUQ (show (1000:Nat)<=fW 3 by decide)) (CZ (by decide));refine ⟨fun k hk=>⟨(z0 k hk).fits e0 (by rw [hU];exact lR) e1 (by decide) (by decide),(z1 k hk).fits hDD hUQ hDl (by decide) (by decide),(z2 k hk).fits hDD aAI hDl (by decide) (by decide)⟩,fun k hk=>?_,?_⟩
 ·have z3:Zt ((kR x.brs:Int)*D) (k*(U*Q*1000)) (uL x ms i k):=Zt.sum fun j hj=>z2 j (by omega)
  have h8:=h.k8;exact z3.fits hDD (cV (Nat.mul_le_mul (show k<=fW 1 by unfold fW;omega) aAI) (CZ (c:=795) (by decide))) hDl (by decide) (by decide)
 ·have hn:=(QY hr).normal i hi
  rw [<-hn];refine aN fun k hk=>?_;unfold nrT;rw [BO hm hk];show _*_*(fM x ms).w k=_;grind
end
end
section
open Go.ChangeShapes Go.WideShapes Go.ChangeAt Go.RowKit
attribute [local go_sem ↓] aE
attribute [local go_sem] aK aH aM aY
theorem Z6 (k d:Int) (w:Wo) (h0:-9223372036854775808<=k) (h1:k<=9223372036854775807) (h2:-9223372036854775808<=d) (h3:d<=9223372036854775807) (hd:d≠0) (ht:dA w) :
    Calls Tryz.prog 65 #[.int .i64 k,.int .i64 d] w (RnP (Rat.divInt k d) w):=by
 have HT:=lH ht;have HC:=lH (YC k d w h0 h1 h2 h3 hd);have hB:(d == 0)=false:=by simp [hd]
 clear ht h0 h1 h2 h3;go_enter Tryz.func65,Tryz.ntmps65
 go_wp2_with fail
 refine HC.o.mono ?_;rintro e w1 ⟨bH,u,rfl,hu⟩;have bS:=lH bH;have HU:=lH hu;have xD:=lH (HT.o.up bH);clear bH hu HC HT
 go_wp2_with fail
 refine (DE _ u.b1 u.A u.n u.c u.b2 u.A2 u.m u.d w1 HU.o xD.o).mono ?_;rintro e w2 ⟨bL,hy,hn⟩;have bW:=lH (bS.o.tm bL);clear bL bS HU xD
 by_cases hf:bZ (Rat.divInt k d)
 ·have he:=hy hf
  have EF:=lH hf;subst he;clear hy hn hf
  go_wp2_with fail
  go_ret2;exact ⟨bW.o,fun _=>rfl,fun h=>absurd EF.o h⟩
 ·have he:=hn hf
  have EF:=lH hf;subst he;clear hy hn hf
  go_wp2_with fail
  go_ret2;exact ⟨bW.o,fun h=>absurd h EF.o,fun _=>rfl⟩
theorem aDc (k d:Int) (w:Wo) (h0:-9223372036854775808<=k) (h1:k<=9223372036854775807) (h2:-9223372036854775808<=d) (h3:d<=9223372036854775807) (hd:d≠0) (ht:dA w) :
    Calls Tryz.prog 26 #[.int .i64 k,.int .i64 d] w (fun e w'=>e=.returned (.string (rnS (Rat.divInt k d)))/\Below w.heap.size w w'):=by
 have HC:=lH (Z6 k d w h0 h1 h2 h3 hd ht);clear ht h0 h1 h2 h3;go_enter Tryz.func26,Tryz.ntmps26
 go_wp2_with fail
 refine HC.o.mono ?_;intro e w1 h;obtain ⟨rfl,hb⟩:=h.out;clear h HC;have HB:=lH hb;clear hb;generalize hs:rnS (Rat.divInt k d)=s;have HS:=lH hs;clear hs;generalize rnE (Rat.divInt k d)=z
 go_wp2_with fail
 go_ret;exact ⟨by rw [HS.o];rfl,HB.o⟩
def qU (q j:Nat) (f g:Nat->ByteArray):List ByteArray:=(List.range q).map fun i=>if i<j then f i else g i
theorem UG {q j:Nat} {f g:Nat->ByteArray} (h:j<q):(qU q j f g)[j]?=some (g j):=by
 unfold qU;rw [kI,List.getElem?_range h];simp
theorem aLy {q i j:Nat} {f g:Nat->ByteArray} (h:i<q) (hj:j<=i):(qU q j f g)[i]?=some (g i):=by
 unfold qU;rw [kI,List.getElem?_range h];simp only [Option.map_some];rw [if_neg (by omega)]
theorem XU {q j:Nat} {f g:Nat->ByteArray} (h:j<q):(qU q j f g).set j (f j)=qU q (j+1) f g:=by
 apply List.ext_getElem?;intro i;rw [List.getElem?_set];unfold qU
 by_cases e:j=i
 ·subst e
  rw [if_pos rfl,lB,List.length_range,if_pos h,kI,List.getElem?_range h];simp
 ·rw [if_neg e,kI,kI]
  cases h2:(List.range q)[i]? with
  | none=>rfl
  | some t=>
   have ht:t=i:=by
    obtain ⟨h3,h4⟩:=dP.1 h2;rw [List.getElem_range] at h4;exact h4.symm
   subst ht;simp only [Option.map_some]
   by_cases h5:t<j
   ·rw [if_pos h5,if_pos (by omega)]
   ·rw [if_neg h5,if_neg (by omega)]
theorem XV {q:Nat} {f g h:Nat->ByteArray}:qU q q f g=qU q 0 h f:=by
 unfold qU;refine List.map_congr_left fun i hi=>?_;rw [if_pos (List.mem_range.1 hi),if_neg (by omega)]
theorem aHS {q:Nat} {f:Nat->ByteArray} {s:ByteArray}:List.replicate q s=qU q 0 f fun _=>s:=by
 unfold qU;refine (List.eq_replicate_iff.2 ⟨by simp,fun b hb=>?_⟩).symm;obtain ⟨i,-,rfl⟩:=List.mem_map.1 hb;rw [if_neg (by omega)]
theorem TX {w:Wo} {ss:List ByteArray} (hl:ss.length<=1000000):jL (w.alloc (.cells (fE ss).toArray 55)) w.heap.size (.slice (some ⟨w.heap.size,0,none⟩) ss.length ss.length) ss:=by
 have h1:(fE ss).length=ss.length:=lB ..;refine ⟨by rw [h1,Nat.mul_one],.inr ⟨w.heap.size,ss.length,(fE ss).toArray,rfl,lR,aG.new w _ _,lR,by unfold maxLen;omega,by rw [List.size_toArray,h1,Nat.mul_one],?_,fun _ _=>trivial⟩⟩;rw [Nat.mul_one,<-h1];exact List.take_length
theorem jL.blk_lt {w:Wo} {base g n c:Nat} {ss:List ByteArray} (h:jL w base (.slice (some ⟨g,0,none⟩) n c) ss):g<w.heap.size:=by
 rcases h.2 with ⟨h1,-⟩ | ⟨g',cap,cur,h1,h2,hb,-⟩
 ·cases h1
 ·injection h1 with e1
  injection e1 with e1;injection e1 with e1;rw [e1];exact hb.lt
theorem bG.set_far {w:Wo} {g5 g0 i n:Nat} {u:Value} {ss:List ByteArray} (h:bG w w.heap.size (some ⟨g5,0,none⟩) n ss) (cP:g5≠g0):bG (w.setCell ⟨g0,i,none⟩ u) (w.setCell ⟨g0,i,none⟩ u).heap.size (some ⟨g5,0,none⟩) n ss:=by
 rw [show (w.setCell ⟨g0,i,none⟩ u).heap.size=w.heap.size from by simp];refine ⟨h.1,h.2.1,fun hn=>?_⟩;obtain ⟨b,off,e,aW,hc⟩:=h.2.2 hn;injection e with e;injection e with e1 e2;subst e1;subst e2;exact ⟨g5,0,rfl,aW,fun j y hy=>by rw [World.cell?_setCell_other _ _ _ _ (fun e=>cP (by injection e with e;exact e.symm))];exact hc j y hy⟩
theorem aDD (n:Nat) (hn:n<=1000000) (w:Wo):(Instr.makeSlice 35 (.int .i64 (n:Int)) (.int .i64 (n:Int))).run Tryz.prog w=.ok (.slice (some ⟨w.heap.size,0,none⟩) n n) (w.alloc (.cells (fE (List.replicate n ⟨#[]⟩)).toArray 55)):=by
 rw [run_make_row' (P:=Tryz.prog) 35 55 (.string ⟨#[]⟩) 16 Tryz.underlying35 KV rfl .i64 .i64 n (by omega) (by omega) w,O0]
theorem aJy (h:cE) (x:bE) (A:OA) (n c:Nat) (ms0:List Mi) (w:Wo) (r:cS w w.heap.size h x) (hm:eG w w.heap.size A n ms0) (hnc:n<=c) (hc:c<=9223372036854775807) (ht:dA w) :
    Calls Tryz.prog 11 #[.agg h.cells,.slice A n c] w fun e w'=>e=.returned (.bool true)/\Below w.heap.size w w':=by
 obtain ⟨k,hk8,qW,aEj⟩:∃ k:Nat,k<=7/\k<=n/\min (n:Int) 7=(k:Int):=by
  by_cases h:(7:Int)<(n:Int)
  ·exact ⟨7,by omega,by omega,by omega⟩
  ·exact ⟨n,by omega,by omega,by omega⟩
 have hkc:(k:Int)<=(c:Int):=by omega
 have JG:=hm.take qW;generalize hms:ms0.take k=ms at *;clear hms hm;have K0:Below w.heap.size w (w.alloc (.cells h.cells 29)):=bA;have HK:=lH K0;have P0:=lH (aG.new w 29 h.cells);have HX:=lH (r.up K0);have HM:=lH (JG.bm K0);have HT:=lH (ht.up K0);have j_:Hid (ms.length=k):=lH JG.1;have dW:Hid (w.heap.size<=(w.alloc (.cells h.cells 29)).heap.size):=lH K0.size;clear K0 JG r ht;obtain ⟨D0,r0,s0,D1,r1,s1,D2,r2,s2,D3,r3,s3,D4,r4,s4,D5,r5,s5⟩:=h;go_enter Tryz.func11,Tryz.ntmps11
 go_wp2_with fail
 generalize w.alloc (.cells (cE.cells ⟨D0,r0,s0,D1,r1,s1,D2,r2,s2,D3,r3,s3,D4,r4,s4,D5,r5,s5⟩) 29)=W at *;have HK:=lH (HK.o.trans ((Below.refl W.heap.size W).mono dW.o));refine (FI W HT.o).mono ?_;rintro e w0 ⟨rfl,AD⟩;have dB:=lH (HK.o.tm AD);replace P0:=lH (P0.o.bl AD);replace HM:=lH (HM.o.bm AD);replace HX:=lH (HX.o.up AD);replace HT:=lH (HT.o.up AD);clear AD
 go_wp2_with fail
 refine (UB w0 HT.o).mono ?_;rintro e w1 ⟨rfl,bH⟩;have bS:=lH (dB.o.tm bH);replace P0:=lH (P0.o.bl bH);replace HM:=lH (HM.o.bm bH);replace HX:=lH (HX.o.up bH);replace HT:=lH (HT.o.up bH);clear bH;clear HK dW dB;have PNX:=P0.o;obtain ⟨y0,y1,y2,y3,y4,y5,nf,nlt⟩:=a_ PNX;dsimp only at y0 y1 y2 y3 y4 y5;clear PNX
 go_wp2_with fail
 clear y0 y1 y2 y3 y4 y5 nf nlt;refine (J_ _ x A k c ms none 0 0 [] w1 HX.o HM.o (aC0 _ _) (by omega) (by decide)).mono ?_;rintro e w2 ⟨rfl,bL⟩;have bW:=lH (bS.o.tm bL);replace P0:=lH (P0.o.bl bL);replace HM:=lH (HM.o.bm bL);replace HX:=lH (HX.o.up bL);replace HT:=lH (HT.o.up bL);clear bL;cases hsm:kN x ms [] with
 | false=>
  go_wp2_with fail
  go_ret;exact ⟨rfl,bW.o⟩
 | true=>
  obtain ⟨h8,h10,UQ⟩:=FQ hsm;have VZ:=lH UQ;have HZ:Hid (∀ m∈ms,m.txt.size<=maxLen):=lH fun m hm=>cV (UQ m hm) (by decide);have WP:=lH h10;clear hsm UQ h10;have PNX:=P0.o;obtain ⟨y0,y1,y2,y3,y4,y5,nf,nlt⟩:=a_ PNX;dsimp only at y0 y1 y2 y3 y4 y5;clear PNX
  go_wp2_with fail
  clear y0 y1 y2 y3 y4 y5 nf nlt;refine (BP _ x h8 A k c ms w2 HX.o HM.o HZ.o (by omega) HT.o).mono ?_;rintro e w3 ⟨cR,hg3⟩;have dR:=lH (bW.o.tm cR);replace P0:=lH (P0.o.bl cR);replace HM:=lH (HM.o.bm cR);replace HX:=lH (HX.o.up cR);replace HT:=lH (HT.o.up cR);clear cR;obtain ⟨A4,n4,c4,d4,rr,he4,aD6,hc4,X5⟩:∃ (A4:OA) (n4 c4:Nat) (d4:Int) (rr:List ByteArray),e=.returned (.tuple #[.slice A4 n4 c4,.int .i64 d4])/\bG w3 w3.heap.size A4 n4 rr/\(d4=0->pQ x ms 0/\rr=(bD x ms (bX x ms)).map bV)/\(d4≠0->n4=0):=by
   rcases hg3 with ⟨d,hd,h1,rfl⟩ | ⟨h1,h2,h3⟩
   ·exact ⟨none,0,0,d,[],rfl,⟨rfl,rfl,fun h=>absurd h (by decide)⟩,fun h=>absurd h hd,fun _=>rfl⟩
   ·obtain ⟨e1,e2,e3⟩:=h1.zero rfl
    have hf:=zG (ME h8 WP.o (by have:=j_.o;omega) VZ.o e1) e2;obtain ⟨A3,n3,c3,rfl,h4,h5,h6⟩:=h2 hf;exact ⟨A3,n3,c3,0,_,rfl,h4,fun _=>⟨h1,rfl⟩,fun h=>absurd rfl h⟩
  subst he4;have HR:=lH aD6;have HC4:=lH hc4;have m6:=lH X5;clear hg3 aD6 hc4 X5;have PNX:=P0.o;obtain ⟨y0,y1,y2,y3,y4,y5,nf,nlt⟩:=a_ PNX;dsimp only at y0 y1 y2 y3 y4 y5;clear PNX
  go_wp2_with fail
  clear y0 y1 y2 y3 y4 y5 nf nlt;refine (QT _ x h8 w3 HX.o).mono ?_;rintro e w4 ⟨dU,hfr⟩;have bK:=lH (dR.o.tm dU);replace P0:=lH (P0.o.bl dU);replace HM:=lH (HM.o.bm dU);replace HX:=lH (HX.o.up dU);replace HT:=lH (HT.o.up dU);replace HR:=lH (HR.o.bm dU);clear dU;obtain ⟨A3,c3,F3,e3,hF3,aD7,he3⟩:∃ (A3:OA) (c3:Nat) (F3:List Nat),e=.returned (.tuple #[.slice A3 F3.length c3,.int .i64 (fK x)])/\(fK x=0->F3=aA x)/\nL w4 w4.heap.size A3 F3.length (dZ F3)/\F3.length<=8:=by
   rcases hfr with ⟨h1,rfl⟩ | ⟨h1,A3,c3,rfl,h3⟩
   ·exact ⟨none,0,[],rfl,fun h=>absurd h h1,⟨rfl,fun h=>absurd h (by decide)⟩,by decide⟩
   ·exact ⟨A3,c3,aA x,by rw [h1],fun _=>rfl,h3,fY (zQ h1) h8⟩
  subst e3;have HI:=lH aD7;clear hfr
  by_cases hd4:d4=0
  case neg=>
   have h1:=m6.o hd4;subst h1;have hB:(d4 != 0)=true:=by simp [hd4]
   go_wp2_with fail
   go_ret;exact ⟨rfl,bK.o⟩
  subst hd4;obtain ⟨hE0,hrr⟩:=HC4.o rfl;obtain ⟨iX,fN,-⟩:=hE0.zero rfl;obtain rfl:=hF3 (sN iX).1;have aLN:=ME h8 WP.o (by have:=j_.o;omega) VZ.o iX;have QG:=F9 h8 iX;have cH:=lH QG.ok;have q_:=lH QG.mi;have RW:=lH QG.wt;have DO:=lH iX;have HRF:=lH (zG aLN fN);have SX:=lH (fun i (hi:i<(aA x).length)=>aLt aLN QG fN hi);have LZ:Hid (aI x<=8):=lH (cV (fR QG.ok).2 h8);have X5:n4=k:=by rw [<-HR.o.1,hrr,lB,iD];exact j_.o
  subst X5;have tU:=lH hrr;rw [(sN iX).1];clear hE0 hrr iX fN aLN QG HC4 m6 VZ hF3 aD7;obtain ⟨q,hq⟩:∃ q,q=(aA x).length:=⟨_,rfl⟩;have HQ:=lH hq;rw [<-hq] at he3 HI SX ⊢;clear hq;have tK:∀ w:World,(Instr.makeSlice 35 (.int .i64 (q:Int)) (.int .i64 (q:Int))).run Tryz.prog w=.ok (.slice (some ⟨w.heap.size,0,none⟩) q q) (w.alloc (.cells (fE (List.replicate q ⟨#[]⟩)).toArray 55)):=fun w=>aDD q (by omega) w;have HO0:Hid (jL (w4.alloc (.cells (fE (List.replicate q ⟨#[]⟩)).toArray 55)) w4.heap.size (.slice (some ⟨w4.heap.size,0,none⟩) q q) (qU q 0 (fun _=>⟨#[48]⟩) fun _=>⟨#[]⟩)):=lH (by
   have h:=TX (w:=w4) (ss:=List.replicate q ⟨#[]⟩) (by rw [o3];omega);rw [o3] at h;rw [<-aHS];exact h)
  have HZ0:=lH ((Below.refl w4.heap.size w4).alloc lR (.cells (fE (List.replicate q ⟨#[]⟩)).toArray 55));obtain ⟨g0,hg0⟩:∃ g0,g0=w4.heap.size:=⟨_,rfl⟩
  go_wp2_with fail
  clear tK;generalize w4.alloc (.cells (fE (List.replicate q ⟨#[]⟩)).toArray 55)=w5 at *;rw [<-hg0] at HO0 ⊢;have HG0:=lH hg0;clear hg0
  go_loopw [60] (fun v60 wr=>∃ i:Nat,i<=q/\v60=.int .i64 i/\jL wr g0 (.slice (some ⟨g0,0,none⟩) q q) (qU q i (fun _=>⟨#[48]⟩) fun _=>⟨#[]⟩)/\Below g0 w4 wr) (fun v60 _=>q-(intOf v60).toNat)
  case atStart=>exact ⟨0,by omega,rfl,HO0.o,by rw [HG0.o];exact HZ0.o⟩
  case round=>
   clear HO0 HZ0;obtain ⟨i,hi,rfl,ho,hw⟩:=hrel;have HO:=lH ho;have iP:=lH hw;clear ho hw
   by_cases aW:i<q
   ·obtain ⟨-,EY,c0,cf,aPy⟩:=HO.o.box (UG aW)
    have aI_:=lH (aPy ⟨#[48]⟩);have gR:=lH (XU (q:=q) (f:=fun _=>(⟨#[48]⟩:ByteArray)) (g:=fun _=>⟨#[]⟩) aW);have fT:(i:Int)<(q:Int):=by omega
    have kF:=lZ i
    have qW:=kU i;have l_:=lN i;have jW:Hid (q-(i+1)<q-i):=lH (by omega);clear aPy
    go_wp2_with fail
    go_roundw
    case rel=>exact ⟨i+1,aW,aQ l_.o,by rw [<-gR.o];exact aI_.o,iP.o.setCell lR _⟩
    case measure=>exact jW.o
   ·have SQ:q=i:=by omega
    subst SQ;have fT:¬(q:Int)<(q:Int):=by omega
    have IN:Hid (jL wr g0 (.slice (some ⟨g0,0,none⟩) q q) (qU q 0 (fun t=>bV (uL x ms t 1)) fun t=>bV (uL x ms t 0))):=lH (by
     have h:=HO.o;rw [XV (h:=fun t=>bV (uL x ms t 1)),show (fun _:Nat=>(⟨#[48]⟩:ByteArray))=fun t=>bV (uL x ms t 0) from funext fun t=>VK.1.symm] at h;exact h)
    obtain ⟨w6,tH⟩:∃ w6,w6=wr:=⟨_,rfl⟩;have fV:Hid (Below g0 w4 w6):=lH (by rw [tH];exact iP.o);rw [<-tH] at IN ⊢;clear tH HO iP;have K3:=j_.o
    go_wp2_with fail
    go_loopw [69] (fun v69 wr=>∃ i:Nat,i<=n4/\v69=.int .i64 i/\jL wr g0 (.slice (some ⟨g0,0,none⟩) q q) (qU q 0 (fun t=>bV (uL x ms t (i+1))) fun t=>bV (uL x ms t i))/\Below g0 w4 wr) (fun v69 _=>n4-(intOf v69).toNat)
    case atStart=>exact ⟨0,by omega,rfl,IN.o,fV.o⟩
    case round=>
     clear IN fV;obtain ⟨k,hk,rfl,ho,hw⟩:=hrel;have HO:=lH ho;have iP:=lH hw;clear ho hw;rw [HG0.o] at iP
     by_cases aW:k<n4
     ·obtain ⟨m,hm⟩:∃ m,ms[k]?=some m:=eO (by have:=j_.o;omega)
      have HMJ:=lH hm;have Y4:=lH (cO hm);have pS:=(HM.o.below iP.o lR).more iP.o.size;obtain ⟨mb,mo,hA,hmb,-⟩:=pS.2.2 (by omega);subst hA;obtain ⟨a0,a1,a2,a3⟩:=pS.at_ hm;have fT:(k:Int)<(n4:Int):=by omega
      have kF:=lZ k
      have qW:=kU k;have l_:=lN k;have jW:Hid (n4-(k+1)<n4-k):=lH (by omega);have tB:=lH aW;clear hm pS
      go_upto_region 19 with fail
      clear a0 a1 a2 a3 hmb fT kF qW;have hz:Below wr.heap.size wr (wr.alloc (.cells #[.int .i64 m.kind,.string m.name,.string m.txt,.int .i64 m.wt] 57)):=bA;have nR:=lH (aG.new wr 57 #[.int .i64 m.kind,.string m.name,.string m.txt,.int .i64 m.wt]);have DP:=lH (iP.o.tm hz);have HOA:=lH (HO.o.keep hz);have N0:Hid (g0<wr.heap.size):=lH HO.o.blk_lt;clear hz iP HO;generalize wr.alloc (.cells #[.int .i64 m.kind,.string m.name,.string m.txt,.int .i64 m.wt] 57)=wa at *;generalize wr.heap.size=gm at *;have x0:=nR.o.cell 0;have x1:=nR.o.cell 1;have x2:=nR.o.cell 2;have x3:=nR.o.cell 3;have xl:=nR.o.lt;have PNX:=P0.o.bl DP.o;obtain ⟨y0,y1,y2,y3,y4,y5,nf,nlt⟩:=a_ PNX;dsimp only at y0 y1 y2 y3 y4 y5;clear PNX
      go_wp2_with fail
      clear y0 y1 y2 y3 y4 y5 nf nlt x0 x1 x2 x3 xl;refine (XT ⟨D0,r0,s0,D1,r1,s1,D2,r2,s2,D3,r3,s3,D4,r4,s4,D5,r5,s5⟩ x h8 m wa (HX.o.up DP.o) (HZ.o m Y4.o) (HT.o.up DP.o) (fun _=>LE cH.o WP.o (q_.o m Y4.o))).mono ?_;rintro e w7 ⟨gY,hh⟩;have iM:=lH (DP.o.tm gY);have aSd:=lH (nR.o.bl gY);have Y3:=lH (HOA.o.keep gY);rcases hh with ⟨h0,_⟩ | ⟨_,A5,c5,rfl,xL,g5,rfl,hg5⟩
      ·exact absurd (aDx DO.o (fun a ha=>by rw [List.mem_singleton.1 ha];exact Y4.o) (by simp)) h0
      have LY:=lH xL;have HG5:Hid (g5≠g0):=lH (by have:=N0.o;have:=nR.o.lt;omega);have HGN:Hid (gm≠g0):=lH (by have:=N0.o;omega);have HNR:Hid (∀ t,uL x ms t (k+1)=uL x ms t k+nrT x ms t k):=lH fun t=>aDq t k;clear gY xL hg5 DP nR HOA N0;have fT:(k:Int)<(n4:Int):=by have:=tB.o;omega
      have hkG:¬(n4:Int)<=(k:Int):=by omega
      have hkN:¬n4<=k:=by omega
      have hq8:q<=8:=he3;have aW:k<n4:=tB.o
      go_wp2_with fail
      go_loopw [91] (fun v91 wr=>∃ j:Nat,j<=q/\v91=.int .i64 j/\jL wr g0 (.slice (some ⟨g0,0,none⟩) q q) (qU q j (fun t=>bV (uL x ms t (k+1))) fun t=>bV (uL x ms t k))/\bG wr wr.heap.size (some ⟨g5,0,none⟩) (aI x) ((aS x m).1.map bV)/\aG wr gm 57 #[.int .i64 m.kind,.string m.name,.string m.txt,.int .i64 m.wt]/\Below g0 w4 wr) (fun v91 _=>q-(intOf v91).toNat)
      case atStart=>exact ⟨0,by omega,rfl,Y3.o,LY.o,aSd.o,by rw [HG0.o];exact iM.o⟩
      case round=>
       clear Y3 LY aSd iM;obtain ⟨j,hj,rfl,ho,xL,hmb,hw⟩:=hrel;rw [HG0.o] at hw;have HO:=lH ho;have LY:=lH xL;have nR:=lH hmb;have iP:=lH hw;clear ho xL hmb hw
       by_cases hlj:j<q
       ·obtain ⟨f,hf⟩:∃ f,(aA x)[j]?=some f:=eO (by have:=HQ.o;omega)
        have wD:f<aI x:=uS (cO hf);have hfq:(aS x m).1[f]?=some (vf (aS x m).1 f):=bI (by rw [(lV cH.o (q_.o m Y4.o)).len];exact wD);have SU:Hid ((fM x ms).R k j=vf (aS x m).1 f):=lH (by
         rw [pH HMJ.o];exact iA (by unfold f_;rw [kI,hf];rfl))
        have N1:=lH (LE cH.o WP.o (q_.o m Y4.o)).1;have hks:k<ms.length:=by have:=j_.o;have:=tB.o;omega
        have OL:=lH ((SX.o j hlj).1 k hks);have NZ:=lH ((SX.o j hlj).2.1 k (by omega));have pT:=lH ((SX.o j hlj).2.1 (k+1) (by omega));have HRV:=lH (HRF.o _ (cO (bI (l:=bD x ms (bX x ms)) (i:=k) (by rw [iD];exact hks))));have hif:=(HI.o.below iP.o lR);obtain ⟨ib,io,hA,hib,-⟩:=hif.2 (by omega);subst hA;have ci:=hif.at_ (iT hf);have CD:ib<wr.heap.size:=jO hib iP.o.size;have hjI:(j:Int)<(q:Int):=by omega
        have JH:=lZ j
        have tL:=kU j;have fT:(k:Int)<(n4:Int):=by have:=tB.o;omega
        have kF:=lZ k
        have qW:=kU k;have hfI:(f:Int)<(aI x:Int):=by omega
        have hfG:¬(aI x:Int)<=(f:Int):=by omega
        have K_:=lZ f
        have hfn:=kU f;have HNY:=lN j;have OK:Hid (q-(j+1)<q-j):=lH (by omega);have HLJ:=lH hlj;obtain ⟨-,EY,c0,cf,-⟩:=HO.o.box (UG hlj);replace c0:wr.cell? ⟨g0,j,none⟩=some (.string (bV (uL x ms j k))):=c0;have cv:=LY.o.at_ (i:=f) (x:=bV (vf (aS x m).1 f)) (by rw [kI,hfq];rfl);rw [Nat.zero_add] at cv;have hvl:g5<wr.heap.size:=by
         obtain ⟨b,o,e,hb⟩:=LY.o.form (by omega);injection e with e;injection e with e;omega
        have hrr:=HR.o.below iP.o lR;obtain ⟨rb,ro,hA,zW⟩:=hrr.form (by omega);subst hA;have cr:=hrr.at_ (i:=k) (x:=bV (vf (bD x ms (bX x ms)) k)) (by rw [tU.o,kI,bI (by rw [iD];exact hks)];rfl);have rX:rb<wr.heap.size:=jO zW iP.o.size;have xw:=nR.o.cell 3;have xl:=nR.o.lt;have aI_:Hid (∀ W2,Below wr.heap.size wr W2->W2.cell? ⟨g0,j,none⟩=some (.string (bV (uL x ms j k)))/\(∀ o,W2.frozen? ⟨g0,o,none⟩=false)/\g0<W2.heap.size/\∀ s',jL (W2.setCell ⟨g0,j,none⟩ (.string s')) g0 (.slice (some ⟨g0,0,none⟩) q q) ((qU q j (fun t=>bV (uL x ms t (k+1))) fun t=>bV (uL x ms t k)).set j s')):=lH fun W2 hb=>by
         obtain ⟨-,a1,a2,a3,a4⟩:=(HO.o.keep hb).box (UG hlj);exact ⟨a2,a3,a1,a4⟩
        have gR:Hid ((qU q j (fun t=>bV (uL x ms t (k+1))) fun t=>bV (uL x ms t k)).set j (bV (uL x ms j (k+1)))=qU q (j+1) (fun t=>bV (uL x ms t (k+1))) fun t=>bV (uL x ms t k)):=lH (XU hlj);have tQ:=RW.o m Y4.o;have HW0:Hid (1<=m.wt/\m.wt<=1000):=lH tQ;have HWF:Hid (bZ ((m.wt:Int):Rat)):=lH ((Zt.int m.wt).fits (a:=3) (b:=0) (by decide) (by unfold fW;omega) (by decide) (by decide) (by decide));have HF1:Hid (bZ (vf (aS x m).1 f)):=lH (N1.o _ (cO hfq));have yN:Hid (bZ (vf (aS x m).1 f*vf (bD x ms (bX x ms)) k)):=lH (by rw [<-SU.o];exact OL.o.2.1);have HTT:Hid (nrT x ms j k=vf (aS x m).1 f*vf (bD x ms (bX x ms)) k*((m.wt:Int):Rat)):=lH (by unfold nrT;rw [SU.o,BC HMJ.o]);have IS:Hid (bZ (vf (aS x m).1 f*vf (bD x ms (bX x ms)) k*((m.wt:Int):Rat))):=lH (by rw [<-HTT.o];exact OL.o.2.2)
        have HSS:Hid (uL x ms j (k+1)=uL x ms j k+vf (aS x m).1 f*vf (bD x ms (bX x ms)) k*((m.wt:Int):Rat)):=lH (by rw [HNR.o,HTT.o]);have HTR:=lH (HT.o.up iP.o);clear hf hif hib hrr zW hfq wD hks tQ OL;generalize vf (aS x m).1 f=fa at *;generalize vf (bD x ms (bX x ms)) k=fr at *
        go_upto_region 27 with fail
        clear ci CD hfG;refine aJ (S:=fun w'=>Below wr.heap.size wr w') 21 _ (by kernel_rfl) (by kernel_rfl) rfl (aD bR) (fun hHeld=>?_);simp only [lA,List.take_zero];refine aL 0 rfl ?_;refine aL 1 rfl ?_;refine aL 2 rfl ?_;refine aL 3 rfl ?_;refine aL 4 rfl ?_;refine aL 5 rfl ?_;refine aL 6 rfl ?_;refine aL 7 rfl ?_;refine aL 8 rfl ?_;refine aL 9 rfl ?_;refine aL 10 rfl ?_;refine aL 11 rfl ?_;refine aL 12 rfl ?_;refine aL 13 rfl ?_;refine aL 15 rfl ?_;refine aL 16 rfl ?_;clear c0 cv hvl cr rX xw xl hfI K_ hfn fT kF qW;have yI:=lH (aD (Below.refl wr.heap.size wr));generalize wr.drew=v0 at *;refine aU 14 (by kernel_rfl) rfl (fun K hK=>?_);go_simp;refine (J8 (bV fa) (bV fr) (xS HF1.o) (xS HRV.o) v0 (HTR.o.up yI.o)).mono ?_;rintro e v1 ⟨rfl,bH⟩
        rw [show opS (fun p q=>p*q) (bV fa) (bV fr)=bV (fa*fr) from S8 (f:=fun p q=>p*q) HF1.o HRV.o yN.o];have mZ:Hid (Below wr.heap.size wr v1):=lH (yI.o.tm bH);clear bH yI;go_simp;refine hK.out _ _ ?_ (fun hHeld=>?_)
        ·exact mZ.o
        clear hK K
        try simp only [Act.put,bP,bO,bN]
        refine aU 17 (by kernel_rfl) rfl (fun K hK=>?_);go_simp;refine (aDc m.wt 1 v1 (by have:=HW0.o;omega) (by have:=HW0.o;omega) (by decide) (by decide) (by decide) (HTR.o.up mZ.o)).mono ?_;rintro e v2 ⟨rfl,bL⟩;rw [div_one,show rnS ((m.wt:Int):Rat)=bV ((m.wt:Int):Rat) from if_pos HWF.o];have qY:Hid (Below wr.heap.size wr v2):=lH (mZ.o.tm bL);clear bL mZ;go_simp;refine hK.out _ _ ?_ (fun hHeld=>?_)
        ·exact qY.o
        clear hK K
        try simp only [Act.put,bP,bO,bN]
        refine aU 18 (by kernel_rfl) rfl (fun K hK=>?_);go_simp;refine (J8 (bV (fa*fr)) (bV ((m.wt:Int):Rat)) (xS yN.o) (xS HWF.o) v2 (HTR.o.up qY.o)).mono ?_;rintro e v3 ⟨rfl,cR⟩;rw [show opS (fun p q=>p*q) (bV (fa*fr)) (bV ((m.wt:Int):Rat))=bV (fa*fr*((m.wt:Int):Rat)) from S8 (f:=fun p q=>p*q) yN.o HWF.o IS.o];have u_:Hid (Below wr.heap.size wr v3):=lH (qY.o.tm cR);clear cR qY;go_simp;refine hK.out _ _ ?_ (fun hHeld=>?_)
        ·exact u_.o
        clear hK K
        try simp only [Act.put,bP,bO,bN]
        refine aU 19 (by kernel_rfl) rfl (fun K hK=>?_);go_simp;refine (aC8 (bV (uL x ms j k)) (bV (fa*fr*((m.wt:Int):Rat))) (xS NZ.o) (xS IS.o) v3 (HTR.o.up u_.o)).mono ?_;rintro e v4 ⟨rfl,dU⟩;rw [show opS (fun p q=>p+q) (bV (uL x ms j k)) (bV (fa*fr*((m.wt:Int):Rat)))=bV (uL x ms j (k+1)) from by
         rw [HSS.o];exact S8 (f:=fun p q=>p+q) NZ.o IS.o (by rw [<-HSS.o];exact pT.o)]
        have RX:Hid (Below wr.heap.size wr v4):=lH (u_.o.tm dU);clear dU u_;go_simp;refine hK.out _ _ ?_ (fun hHeld=>?_)
        ·exact RX.o
        clear hK K
        try simp only [Act.put,bP,bO,bN]
        refine aL 20 rfl ?_;refine wpAnyH_done (by kernel_rfl) ?_ _;refine aP (by rfl) ?_;clear hHeld EY cf;obtain ⟨d0,df,dl,dput⟩:=aI_.o v4 RX.o;have HPD:=lH (dput (bV (uL x ms j (k+1))));have aW6:=lH (LY.o.bm RX.o);have aXm:=lH (nR.o.bl RX.o);have aBB:=lH (iP.o.tm RX.o);clear dput aI_ LY nR iP RX
        go_wp2_with fail
        go_roundw
        case rel=>exact ⟨j+1,HLJ.o,aQ HNY.o,by rw [<-gR.o];exact HPD.o,aW6.o.set_far HG5.o,aXm.o.far HGN.o _,(show Below g0 w4 v4 from by rw [HG0.o];exact aBB.o).setCell lR _⟩
        case measure=>exact OK.o
       ·have hje:q=j:=by omega
        subst hje;have hjI:¬(q:Int)<(q:Int):=by omega
        have Y2:Hid (jL wr g0 (.slice (some ⟨g0,0,none⟩) q q) (qU q 0 (fun t=>bV (uL x ms t (k+1+1))) fun t=>bV (uL x ms t (k+1)))):=lH (by
         have h:=HO.o;rw [XV (h:=fun t=>bV (uL x ms t (k+1+1)))] at h;exact h)
        have aW:k<n4:=tB.o
        go_wp2_with fail
        go_roundw
        case rel=>exact ⟨k+1,tB.o,aQ l_.o,Y2.o,by rw [HG0.o];exact iP.o⟩
        case measure=>exact jW.o
     ·have lS:k=n4:=by omega
      subst lS;have fT:¬(k:Int)<(k:Int):=by omega
      have HRO:=lH HO.o.rd;have HZR:Hid (∀ j,j<q->uL x ms j k=0):=lH fun j hj=>by
       have:=(SX.o j hj).2.2;rwa [j_.o] at this
      have dF:=lH (bK.o.tm iP.o);obtain ⟨w8,MW⟩:∃ w8,w8=wr:=⟨_,rfl⟩;rw [<-MW] at HRO dF ⊢;have hq8:q<=8:=he3;clear MW HO iP
      go_wp2_with fail
      go_loopw [125] (fun v125 wr=>∃ j:Nat,j<=q/\v125=.int .i64 j/\Below w8.heap.size w8 wr) (fun v125 _=>q-(intOf v125).toNat)
      case atStart=>exact ⟨0,by omega,rfl,bR⟩
      case round=>
       obtain ⟨j,hj,rfl,hw⟩:=hrel;have I_:=lH hw;clear hw
       by_cases hlj:j<q
       ·obtain ⟨t,ht⟩:∃ t,bV (uL x ms j k)=t:=⟨_,rfl⟩
        have EX:t=⟨#[48]⟩:=by rw [<-ht,HZR.o j hlj];exact VK.1
        have hro:=HRO.o.below I_.o lR;have cr:=hro.at_ (i:=j) (x:=t) (by rw [<-ht];exact aLy hlj (Nat.zero_le _));rw [Nat.zero_add] at cr;have rX:g0<wr.heap.size:=by
         obtain ⟨b,o,e,hb⟩:=HRO.o.form (by omega);injection e with e;injection e with e;have:=I_.o.size;omega
        have hjI:(j:Int)<(q:Int):=by omega
        have JH:=lZ j
        have tL:=kU j;have HNY:=lN j;have OK:Hid (q-(j+1)<q-j):=lH (by omega);clear ht hro;subst EX
        go_wp2_with fail
        go_roundw
        case rel=>exact ⟨j+1,hlj,aQ HNY.o,I_.o⟩
        case measure=>exact OK.o
       ·have hjI:¬(j:Int)<(q:Int):=by omega
        go_wp2_with fail
        go_ret;exact ⟨rfl,dF.o.tm I_.o⟩
end
