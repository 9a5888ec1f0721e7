import Derived.Test.YthgdchffeigkbaaGreatDoorV26
import Derived.SizedLaws
set_option linter.unusedVariables false
set_option linter.unusedSimpArgs false
namespace Go.Proofs.YthgdchffeigkbaaGreatDoor
set_option maxHeartbeats 8000000
set_option maxRecDepth 100000
variable {al : List Rat} {g i k n : Nat} {ms : List Mi} {s : ByteArray} {w : World} {x : bO}
section
open Go.ChangeShapes Go.WideShapes Go.ChangeAt Go.RowKit
section
variable {w w':Wo} {g:Nat} {t:TypeId} {cs:Array Value}
end
theorem R6{a:Wo}{p:Nat}(i:Nat)(u:Value)(h:a.grownBy w (some p)):a.grownBy (w.setCell ⟨p,i,none⟩ u) (some p):=gU h (.inl rfl) u
theorem aLd(a n:Int)(h:0<n):-n<a.tmod n/\a.tmod n<n:=⟨Int.lt_tmod_of_pos a h,Int.tmod_lt_of_pos a h⟩
end
section
open Go.ChangeShapes Go.WideShapes Go.ChangeAt Go.RowKit Go.Joins Go.Deep
section
variable {H:Type} {enc:TypeId×Value->H} {w:Wo} {sp:Nat->Bool}
theorem aI7{r:Reach}{b0:Nat}{t:TypeId}{v:Value}{d:DataW H}{ps:List MemPlace}(ht:Tryz.prog.underlying t=some .string)(aNI:Value.okWide Tryz.prog w r b0 t v)(hd:DataW.Trod enc Tryz.prog w 0 sp true t v d ps):∃s:ByteArray,v=.string s/\s.size<=maxLen:=by
 obtain⟨s,h1,_,_,h2⟩:=Go.ChangeMaps.open_string ht aNI hd;exact⟨s,h1,h2⟩
end
section
variable {H:Type} {enc:TypeId×Value->H} {w:Wo} {sp:Nat->Bool}
theorem aBS{fuel:Nat}{cs:List Value}{x:DataW H×List MemPlace}(h:DataW.trod enc Tryz.prog w 0 sp true fuel 35 cs=some x):∃(A:OA)(n c:Nat)(ss:List ByteArray),cs=[.slice A n c]/\n<=c/\c<=maxLen/\(∀s∈ss,s.size<=maxLen)/\aY w w.heap.size A n ss:=by
 obtain⟨A,n,c,xs,h1,h2,h3,hl,hq,h4⟩:=kZ (fun s:ByteArray=>[.string s]) 1 (fun s=>s.size<=maxLen) Tryz.underlying35 (by kernel_rfl) (by omega) (fun _=>rfl) (fun fu cs' y hy=>eH Tryz.underlying55 hy) h;exact⟨A,n,c,xs,h1,h2,h3,hq,hl,by unfold fN;rw[List.map_eq_flatMap];exact h4⟩
theorem aRq{r:Reach}{b0:Nat}{v:Value}{d:DataW H}{p:List MemPlace}(hv:Value.okWide Tryz.prog w r b0 35 v)(h:DataW.Trod enc Tryz.prog w 0 sp true 35 v d p):∃(A:OA)(n c:Nat)(ss:List ByteArray),v=.slice A n c/\n<=c/\c<=maxLen/\(∀s∈ss,s.size<=maxLen)/\aY w w.heap.size A n ss:=by
 obtain⟨A,n,c,rfl⟩:=okWide_slice Tryz.underlying35 hv;obtain⟨fuel,hf⟩:=h;obtain⟨A',n',c',ss,he,h1,h2,h3,h4⟩:=aBS hf;simp[Value.cells] at he;obtain⟨rfl,rfl,rfl⟩:=he;exact⟨_,_,_,ss,rfl,h1,h2,h3,h4⟩
end
theorem aQc{H:Type}{enc:TypeId×Value->H}{sp:Nat->Bool}{ts:List TypeId}{ds:List (DataW H)}{j c:Nat}{A:OA}{d:DataW H}{p:List MemPlace}(iV:(DataW.weightsEach Tryz.prog ts ds).all (·<=reachBytes)=true)(ht:ts[j]?=some 35)(hd:ds[j]?=some d)(h:DataW.Trod enc Tryz.prog w 0 sp true 35 (.slice A n c) d p):n*16<=140737488355328:=by
 obtain⟨fuel,hf⟩:=h;rcases open_slice Tryz.underlying35 hf with⟨he,hx⟩ | ⟨a,len,cap,m,n',D,Pl,he,_,hl,hm,xA,hx,_⟩
 ·simp[Value.cells] at he
  omega
 ·simp[Value.cells] at he
  injection hx with CH y9;subst CH;have:=sized_slice iV ht hd Tryz.underlying35;rw[show Tryz.prog.bytesOf 55=16 by kernel_rfl] at this;simp only[jO,List.length_range,reachBytes] at this;have h2:=Nat.mul_le_mul_right 16 (show len<=len+(m-len) by omega);omega
end
section
open Go.ChangeShapes Go.WideShapes Go.ChangeAt Go.RowKit
attribute [local go_sem ↓] aE
attribute [local go_sem] aJ aI aM
theorem aII(y z:Int)(b1:Bool)(A:OA)(n c:Nat)(b2:Bool)(B:OA)(m d:Nat)(w:Wo)(h1:cE w w.heap.size y b1 A n c)(h2:cE w w.heap.size z b2 B m d)(hn:n<=35184372088832)(hm:m<=35184372088832):Calls Tryz.prog 170 #[.agg #[.bool b1,.slice A n c],.agg #[.bool b2,.slice B m d]] w (LgP (y-z) w):=by
 have HMZ:=lH h2.en;have dA:Hid (Below w.heap.size w (((w.alloc (.cells #[.bool b1,.slice A n c] 113)).alloc (.cells #[.bool b2,.slice B m d] 113)).alloc (.cells #[.bool false,.slice none 0 0] 113))):=lH (((bA).alloc (by simp) _).alloc (by simp;omega) _);have eB:Hid (aG (((w.alloc (.cells #[.bool b1,.slice A n c] 113)).alloc (.cells #[.bool b2,.slice B m d] 113)).alloc (.cells #[.bool false,.slice none 0 0] 113)) w.heap.size 113 #[.bool b1,.slice A n c]):=lH (((aG.new w _ _).alloc _).alloc _);have f_:Hid (aG (((w.alloc (.cells #[.bool b1,.slice A n c] 113)).alloc (.cells #[.bool b2,.slice B m d] 113)).alloc (.cells #[.bool false,.slice none 0 0] 113)) (w.heap.size+1) 113 #[.bool b2,.slice B m d]):=lH ((aG.new_ (by simp)).alloc _);have HR:Hid (aG (((w.alloc (.cells #[.bool b1,.slice A n c] 113)).alloc (.cells #[.bool b2,.slice B m d] 113)).alloc (.cells #[.bool false,.slice none 0 0] 113)) (w.heap.size+1+1) 113 #[.bool false,.slice none 0 0]):=lH (aG.new_ (by simp));have H1:=lH (h1.up dA.o);have H2:=lH (h2.up dA.o);clear h1 h2;go_enter Tryz.func170,Tryz.ntmps170
 have rW:w.heap.size<=w.heap.size+1+1:=by omega
 go_wp2_with fail
 generalize (((w.alloc (.cells #[.bool b1,.slice A n c] 113)).alloc (.cells #[.bool b2,.slice B m d] 113)).alloc (.cells #[.bool false,.slice none 0 0] 113))=W at *;obtain⟨p0,p1,pl⟩:=eB.o.b2;obtain⟨q0,q1,ql⟩:=f_.o.b2;have HH1:Hid (cE W.drew W.drew.heap.size y b1 A n c):=lH (H1.o.up (aK bR));have HH2:Hid (cE W.drew W.drew.heap.size z b2 B m d):=lH (H2.o.up (aK bR));refine kX 4 (fun hHeld=>?_);simp only[nI,List.take_zero];refine cW [0,1] ?_;refine bQ 2 (fun K hK=>?_);go_simp;refine(G8 z b2 B m d W.drew HH2.o).mono ?_;rintro e w5 ⟨fD,b5,A5,n5,c5,rfl,h5⟩;have eK:=lH ((aK (Below.refl W.heap.size W)).trans fD);have H5:=lH h5;have DB:Hid (n5=m):=lH (by rw[h5.en,Int.natAbs_neg,<-HMZ.o]);have a0C:=lH (HH1.o.up fD);clear fD h5;go_simp;refine gZ hK eK.o (fun hHeld=>?_);clear hK K;refine bQ 3 (fun K hK=>?_);go_simp;refine(PW y (-z) b1 A n c b5 A5 n5 c5 w5 a0C.o H5.o hn (by have:=DB.o;omega)).mono ?_;rw[show y+-z=y-z from by omega];rintro e w6 ⟨fT,b9,A9,n9,c9,rfl,h9⟩;have fL:=bW eK fT;have H9:=lH h9;clear fT h9;go_simp;refine gZ hK fL.o (fun hHeld=>?_);clear hK K;refine eM ?_;have z8:=lH (dA.o.tm fL.o);have mD:=lH (HR.o.bl fL.o);clear p0 p1 q0 q1 pl ql;obtain⟨z0,z1,zf,zl⟩:=mD.o.e2
 go_wp2_with fail
 generalize fU:(w6.setCell ⟨_,0,none⟩ _).setCell ⟨_,1,none⟩ _=W9;have jM:=lH (pG (e:=.returned (.agg #[.bool b9,.slice A9 n9 c9])) z8.o rW mD.o (by simp) (by simp) H9.o rfl);rw[fU] at jM;have eV:Hid (aG W9 _ 113 #[.bool b9,.slice A9 n9 c9]):=lH (by rw[<-fU];exact cD mD.o);clear fU z0 z1 zf zl;obtain⟨q0,q1⟩:=eV.o.a2;exact bodyPost_ret (v:=.agg #[.bool b9,.slice A9 n9 c9]) (by simp[results,Tryz.results170,go_sem,q0,q1]) rfl jM.o
theorem aKj(y z:Int)(b1:Bool)(A:OA)(n c:Nat)(b2:Bool)(B:OA)(m d:Nat)(w:Wo)(h1:cE w w.heap.size y b1 A n c)(h2:cE w w.heap.size z b2 B m d)(hn:n<=35184372088832)(hm:m<=35184372088832):Calls Tryz.prog 154 #[.agg #[.bool b1,.slice A n c],.agg #[.bool b2,.slice B m d]] w fun e w'=>e=.returned (.int .i64 (y-z).sign)/\Below w.heap.size w w':=by
 have dA:Hid (Below w.heap.size w ((w.alloc (.cells #[.bool b1,.slice A n c] 113)).alloc (.cells #[.bool b2,.slice B m d] 113))):=lH ((bA).alloc (by simp) _);have eB:Hid (aG ((w.alloc (.cells #[.bool b1,.slice A n c] 113)).alloc (.cells #[.bool b2,.slice B m d] 113)) w.heap.size 113 #[.bool b1,.slice A n c]):=lH ((aG.new w _ _).alloc _);have f_:Hid (aG ((w.alloc (.cells #[.bool b1,.slice A n c] 113)).alloc (.cells #[.bool b2,.slice B m d] 113)) (w.heap.size+1) 113 #[.bool b2,.slice B m d]):=lH (aG.new_ (by simp));have H1:=lH (h1.up dA.o);have H2:=lH (h2.up dA.o);clear h1 h2;go_enter Tryz.func154,Tryz.ntmps154
 go_wp2_with fail
 generalize ((w.alloc (.cells #[.bool b1,.slice A n c] 113)).alloc (.cells #[.bool b2,.slice B m d] 113))=W at *;clear eB f_;refine(aII y z b1 A n c b2 B m d W H1.o H2.o hn hm).mono ?_;rintro e w5 ⟨fD,b5,A5,n5,c5,rfl,h5⟩;have eK:=bW dA fD;have H5:=lH h5;clear fD h5
 go_wp2_with fail
 refine(EH (y-z) b5 A5 n5 c5 w5 H5.o).mono ?_;rintro e w6 ⟨rfl,fT⟩;have fL:=bW eK fT;clear fT
 go_wp2_with fail
 go_ret;exact⟨rfl,fL.o⟩
theorem RY(p q:Rat)(b1:Bool)(A:OA)(n c:Nat)(b2:Bool)(A2:OA)(n2 c2:Nat)(b3:Bool)(B:OA)(m d:Nat)(b4:Bool)(B2:OA)(m2 d2:Nat)(w:Wo)(h1:c_ w w.heap.size p b1 A n c b2 A2 n2 c2)(h2:c_ w w.heap.size q b3 B m d b4 B2 m2 d2)(hs:bI p+bI q+1<=35184372088832):Calls Tryz.prog 118 #[.agg #[.bool b1,.slice A n c,.bool b2,.slice A2 n2 c2],.agg #[.bool b3,.slice B m d,.bool b4,.slice B2 m2 d2]] w (fun e w'=>e=.returned (.int .i64 (p.num*(q.den:Int)-q.num*(p.den:Int)).sign)/\Below w.heap.size w w'):=by
 have l1:=h1.n_le;have l2:=h1.m_le;have l3:=h2.n_le;have l4:=h2.m_le;have dA:Hid (Below w.heap.size w ((w.alloc (.cells #[.bool b1,.slice A n c,.bool b2,.slice A2 n2 c2] 115)).alloc (.cells #[.bool b3,.slice B m d,.bool b4,.slice B2 m2 d2] 115))):=lH ((bA).alloc (by simp) _);have eB:Hid (aG ((w.alloc (.cells #[.bool b1,.slice A n c,.bool b2,.slice A2 n2 c2] 115)).alloc (.cells #[.bool b3,.slice B m d,.bool b4,.slice B2 m2 d2] 115)) w.heap.size 115 #[.bool b1,.slice A n c,.bool b2,.slice A2 n2 c2]):=lH ((aG.new w _ _).alloc _);have f_:Hid (aG ((w.alloc (.cells #[.bool b1,.slice A n c,.bool b2,.slice A2 n2 c2] 115)).alloc (.cells #[.bool b3,.slice B m d,.bool b4,.slice B2 m2 d2] 115)) (w.heap.size+1) 115 #[.bool b3,.slice B m d,.bool b4,.slice B2 m2 d2]):=lH (aG.new_ (by simp));have H1:=lH (h1.up dA.o);have H2:=lH (h2.up dA.o);clear h1 h2;go_enter Tryz.func118,Tryz.ntmps118
 go_upto_region 1 with fail
 generalize ((w.alloc (.cells #[.bool b1,.slice A n c,.bool b2,.slice A2 n2 c2] 115)).alloc (.cells #[.bool b3,.slice B m d,.bool b4,.slice B2 m2 d2] 115))=W at *;obtain⟨p0,p1,p2,p3,pl⟩:=eB.o.b4;obtain⟨q0,q1,q2,q3,ql⟩:=f_.o.b4;have bM:=lH (aK (Below.refl W.heap.size W));refine bZ (S:=fun w'=>Below W.heap.size W w') 11 _ (by kernel_rfl) (by kernel_rfl) rfl bM.o (fun hHeld=>?_);simp only[nI,List.take_zero];refine cW [0,1,2,3,5,6,7,8] ?_;refine bQ 4 (fun K hK=>?_);go_simp;refine(jP (p.num) ((q.den:Int)) b1 A n c b4 B2 m2 d2 _ (H1.o.up bM.o).num (H2.o.up bM.o).den (by omega)).mono ?_;rintro e w5 ⟨fD,f5,C5,i5,j5,rfl,h5⟩;have eK:=bW bM fD;have H5:=lH h5;have s5:i5<=m2+n:=by rw[h5.en,((H1.o.up bM.o).num).en,((H2.o.up bM.o).den).en,Nat.add_comm];exact fI _ _
 clear fD h5;go_simp;refine gZ hK eK.o (fun hHeld=>?_);clear hK K;refine bQ 9 (fun K hK=>?_);go_simp;refine(jP (q.num) ((p.den:Int)) b3 B m d b2 A2 n2 c2 _ (H2.o.up eK.o).num (H1.o.up eK.o).den (by omega)).mono ?_;rintro e w6 ⟨fT,f6,C6,i6,j6,rfl,h6⟩;have fL:=bW eK fT;have H6:=lH h6;have s6:i6<=n2+m:=by rw[h6.en,((H2.o.up eK.o).num).en,((H1.o.up eK.o).den).en,Nat.add_comm];exact fI _ _
 have H5_6:=lH (H5.o.up fT);clear fT h6;go_simp;refine gZ hK fL.o (fun hHeld=>?_);clear hK K;refine bQ 10 (fun K hK=>?_);go_simp;refine(aKj (p.num*(q.den:Int)) (q.num*(p.den:Int)) f5 C5 i5 j5 f6 C6 i6 j6 _ H5_6.o H6.o (by omega) (by omega)).mono ?_;rintro e w7 ⟨rfl,iA⟩;have j_:=bW fL iA;clear iA;go_simp;refine gZ hK j_.o (fun hHeld=>?_);clear hK K;refine eM ?_
 go_wp2_with fail
 go_ret;exact⟨rfl,dA.o.tm j_.o⟩
end
section
open Go.ChangeShapes Go.WideShapes Go.ChangeAt Go.RowKit
attribute [local go_sem ↓] aE
attribute [local go_sem] aJ aI aM aR
theorem lI.stay{t:Nat}{vs us:List Rv}{qs:List Rat}{v x:Rv}(h:lI w us qs)(hb:aG w g t (fX vs).toArray)(hx:vs[i]?=some x):lI (eO w g i v) us qs:=fun j q' v' hq' hv'=>c_.keep4 (h j q' v' hq' hv') hb hx
end
section
open Go.ChangeShapes Go.WideShapes Go.ChangeAt Go.RowKit
section
variable {w w':Wo} {B B' n:Nat} {A:OA} {M:List (List Rat)}
end
theorem aBJ(w:Wo)(g i:Nat)(v:Rv):(eO w g i v).heap.size=w.heap.size:=by simp[eO]
section
variable {w w':Wo} {base g:Nat} {h:Mh} {q:List Rat}
end
section
variable {w w':Wo} {base g:Nat} {hs:List Mh} {M:List (List Rat)}
end
end
section
open Go.ChangeShapes Go.WideShapes Go.ChangeAt Go.RowKit
attribute [local go_sem ↓] aE
attribute [local go_sem] aJ aI aM aR
theorem aCD(s:ByteArray):(⟨s.data.toList.toArray⟩:ByteArray)=s:=by cases s;simp
theorem tA(h:cI s.data.toList=0)(w:Wo):Calls Tryz.prog 67 #[.string s] w (RtP (gC s) w):=by
 have:=MO s.data.toList h w;rwa[aCD] at this
theorem MI(F:FuncId)(f:Rat->Rat->Rat)(hF:∀(args:Array Value)(w:Wo),(callFunc F args).run Tryz.prog w=.ok (.enter F args) w)(hf:∀(p q:Rat)(b1:Bool)(A:OA)(n c:Nat)(b2:Bool)(A2:OA)(n2 c2:Nat)(b3:Bool)(B:OA)(m d:Nat)(b4:Bool)(B2:OA)(m2 d2:Nat)(w:Wo),c_ w w.heap.size p b1 A n c b2 A2 n2 c2->c_ w w.heap.size q b3 B m d b4 B2 m2 d2->bP p->bP q-> Calls Tryz.prog F #[.agg #[.bool b1,.slice A n c,.bool b2,.slice A2 n2 c2],.agg #[.bool b3,.slice B m d,.bool b4,.slice B2 m2 d2]] w (RtP (f p q) w))(a b:ByteArray)(ha:a.size<=maxLen)(hb:b.size<=maxLen)(w:Wo)(ht:dM w):Calls Tryz.prog 123 #[.string a,.string b,.func (.func F) #[] #[]] w (OpP f a b w):=by
 have HF:=lH hf;have dA:Hid (Below w.heap.size w (w.alloc (.cells #[.string a,.string b] 55))):=lH (bA);have eB:=lH (aG.new w 55 #[.string a,.string b]);have HA:=lH (show ∀s∈[a,b],s.size<=maxLen from fun s hs=>by simp at hs;rcases hs with rfl | rfl<;>assumption);have HT:=lH ht;clear hf ha hb ht;go_enter Tryz.func123,Tryz.ntmps123
 go_wp2_with fail
 generalize AW:w.alloc (.cells #[.string a,.string b] 55)=wa at *;have HTA:=lH (HT.o.up dA.o);have rC:aY wa wa.heap.size (some ⟨w.heap.size,0,none⟩) 2 [a,b]:=fF eB.o eB.o.lt;clear AW;refine(EW (some ⟨w.heap.size,0,none⟩) 2 2 [a,b] wa rC HA.o (by decide) HTA.o).mono ?_;clear rC;rintro e w1 ⟨he,bC⟩;have bT:=bW dA bC;have zM:=lH (HTA.o.up bC);clear bC dA HTA eB;by_cases h0:dS [a,b]=0
 ·have hv:=oD.1 h0
  have U1:=lH (hv a (by simp));have yO:=lH (hv b (by simp));have H0:=lH h0;rw[h0] at he;subst he;clear hv h0;(go_wp2_with fail);refine(tA U1.o w1).mono ?_;rintro e w2 ⟨bH,f1,C1,i1,j1,g1,D1,k1,l1,rfl,h1⟩;have cH:=bW bT bH;have vX:=lH (zM.o.up bH);have H1:=lH h1;clear bH h1 bT zM;(go_wp2_with fail);refine(tA yO.o w2).mono ?_;rintro e w3 ⟨cN,f2,C2,i2,j2,g2,D2,k2,l2,rfl,h2⟩;have dY:=bW cH cN;obtain⟨HT3,H1,H2⟩:=d_ (vX.o.up cN) (H1.o.up cN) h2;clear cN h2 cH vX;(go_wp2_with fail);refine(HF.o _ _ f1 C1 i1 j1 g1 D1 k1 l1 f2 C2 i2 j2 g2 D2 k2 l2 w3 H1.o H2.o (iD U1.o) (iD yO.o)).mono ?_;rintro e w4 ⟨eR,f3,C3,i3,j3,g3,D3,k3,l3,rfl,h3⟩;have bM:=bW dY eR;have HT4:=lH (HT3.o.up eR);have H3:=lH h3;clear eR h3 dY HT3 H1 H2;(go_wp2_with fail);refine(FM _ f3 C3 i3 j3 g3 D3 k3 l3 w4 H3.o HT4.o).mono ?_;rintro e w5 ⟨fD,hy,hn⟩;have eK:=bW bM fD;clear fD bM HT4 H3;by_cases hf:bP (f (gC a) (gC b))
  ·have he:=hy hf
   have FA:=lH hf;subst he;clear hy hn hf;(go_wp2_with fail);go_ret2;exact⟨eK.o,fun h=>absurd H0.o h,fun _=>⟨eK.o,fun _=>rfl,fun h=>absurd FA.o h⟩⟩
  ·have he:=hn hf
   have FA:=lH hf;subst he;clear hy hn hf;(go_wp2_with fail);go_ret2;exact⟨eK.o,fun h=>absurd H0.o h,fun _=>⟨eK.o,fun h=>absurd h FA.o,fun _=>rfl⟩⟩
 ·obtain⟨z,hz⟩:∃z,dS [a,b]=z:=⟨_,rfl⟩
  have HZ:=lH hz;rw[hz] at he h0;subst he;have H0:=lH h0;have h0b:(z != 0)=true:=by simp[h0]
  clear hz h0;(go_wp2_with fail);go_ret2;exact⟨bT.o,fun _=>by rw[HZ.o];rfl,fun h=>absurd (HZ.o.symm.trans h) H0.o⟩
theorem J1{p q:Rat}(hp:bP p)(hq:bP q):bI p+bI q+1<=35184372088832:=by
 have:=o0 hp;have:=o0 hq;omega
theorem VW(a b:ByteArray)(ha:a.size<=maxLen)(hb:b.size<=maxLen)(w:Wo)(ht:dM w):Calls Tryz.prog 83 #[.string a,.string b] w (OpP (fun p q=>p+q) a b w):=by
 have HC:=lH (MI 69 (fun p q=>p+q) (qZ Tryz.func69 (by kernel_rfl) rfl) (fun p q b1 A n c b2 A2 n2 c2 b3 B m d b4 B2 m2 d2 w h1 h2 hp hq=>JC p q b1 A n c b2 A2 n2 c2 b3 B m d b4 B2 m2 d2 w h1 h2 (J1 hp hq)) a b ha hb w ht);clear ha hb ht;go_enter Tryz.func83,Tryz.ntmps83
 go_wp2_with fail
 refine HC.o.mono ?_;rintro e w1 ⟨hb,h1,h2⟩;have HB:=lH hb;clear hb HC;by_cases h0:dS [a,b]=0
 ·have hr:=h2 h0
  have H0:=lH h0;clear h1 h2 h0;obtain⟨_,hy,hn⟩:=hr;by_cases hf:bP ((fun p q:Rat=>p+q) (gC a) (gC b))
  ·have he:=hy hf
   have FA:=lH hf;subst he;clear hy hn hf;(go_wp2_with fail);go_ret2;exact⟨HB.o,fun h=>absurd H0.o h,fun _=>⟨HB.o,fun _=>rfl,fun h=>absurd FA.o h⟩⟩
  ·have he:=hn hf
   have FA:=lH hf;subst he;clear hy hn hf;(go_wp2_with fail);go_ret2;exact⟨HB.o,fun h=>absurd H0.o h,fun _=>⟨HB.o,fun h=>absurd h FA.o,fun _=>rfl⟩⟩
 ·have he:=h1 h0
  have H0:=lH h0;subst he;clear h0 h1 h2;(go_wp2_with fail);go_ret2;exact⟨HB.o,fun _=>rfl,fun h=>absurd h H0.o⟩
theorem VV(a b:ByteArray)(ha:a.size<=maxLen)(hb:b.size<=maxLen)(w:Wo)(ht:dM w):Calls Tryz.prog 84 #[.string a,.string b] w (OpP (fun p q=>p*q) a b w):=by
 have HC:=lH (MI 70 (fun p q=>p*q) (qZ Tryz.func70 (by kernel_rfl) rfl) (fun p q b1 A n c b2 A2 n2 c2 b3 B m d b4 B2 m2 d2 w h1 h2 hp hq=>RX p q b1 A n c b2 A2 n2 c2 b3 B m d b4 B2 m2 d2 w h1 h2 (J1 hp hq)) a b ha hb w ht);clear ha hb ht;go_enter Tryz.func84,Tryz.ntmps84
 go_wp2_with fail
 refine HC.o.mono ?_;rintro e w1 ⟨hb,h1,h2⟩;have HB:=lH hb;clear hb HC;by_cases h0:dS [a,b]=0
 ·have hr:=h2 h0
  have H0:=lH h0;clear h1 h2 h0;obtain⟨_,hy,hn⟩:=hr;by_cases hf:bP ((fun p q:Rat=>p*q) (gC a) (gC b))
  ·have he:=hy hf
   have FA:=lH hf;subst he;clear hy hn hf;(go_wp2_with fail);go_ret2;exact⟨HB.o,fun h=>absurd H0.o h,fun _=>⟨HB.o,fun _=>rfl,fun h=>absurd FA.o h⟩⟩
  ·have he:=hn hf
   have FA:=lH hf;subst he;clear hy hn hf;(go_wp2_with fail);go_ret2;exact⟨HB.o,fun h=>absurd H0.o h,fun _=>⟨HB.o,fun h=>absurd h FA.o,fun _=>rfl⟩⟩
 ·have he:=h1 h0
  have H0:=lH h0;subst he;clear h0 h1 h2;(go_wp2_with fail);go_ret2;exact⟨HB.o,fun _=>rfl,fun h=>absurd h H0.o⟩
theorem aBe{a b:ByteArray}(ha:cI a.data.toList=0)(hb:cI b.data.toList=0):dS [a,b]=0:=oD.2 fun s hs=>by
 simp at hs;rcases hs with rfl | rfl<;>assumption
theorem OS{f:Rat->Rat->Rat}{a b:ByteArray}(ha:cI a.data.toList=0)(hb:cI b.data.toList=0):MQ f a b=rnS (f (gC a) (gC b)):=by unfold MQ;rw[if_pos (aBe ha hb)]
theorem OB{p q:Rat}(hp:bP p)(hq:bP q)(h:bN p=bN q):p=q:=by
 rw[<-(cV hp).2,h,(cV hq).2]
theorem aEo(q:Rat):(rnS q).size<=4002:=by
 unfold rnS;split
 ·rename_i h;exact RB h
 ·decide
theorem aE0(f:Rat->Rat->Rat)(a b:ByteArray):(MQ f a b).size<=4002:=by
 unfold MQ;split
 ·exact aEo _
 ·decide
def X7(p q:Rat):Int:=(p.num*(q.den:Int)-q.num*(p.den:Int)).sign
def GK(a b:ByteArray):Int:=if dS [a,b]=0 then X7 (gC a) (gC b) else 0
theorem aEH(a b:ByteArray)(ha:a.size<=maxLen)(hb:b.size<=maxLen)(w:Wo)(ht:dM w):Calls Tryz.prog 41 #[.string a,.string b] w (fun e w'=>e=.returned (.string (MQ (fun p q=>p+q) a b))/\Below w.heap.size w w'):=by
 have HC:=lH (VW a b ha hb w ht);clear ha hb ht;go_enter Tryz.func41,Tryz.ntmps41
 go_wp2_with fail
 refine HC.o.mono ?_;intro e w1 h;obtain⟨rfl,hb⟩:=h.out;clear h HC;have HB:=lH hb;clear hb;generalize hs:MQ (fun p q=>p+q) a b=s;have HS:=lH hs;clear hs;generalize opE (fun p q=>p+q) a b=z
 go_wp2_with fail
 go_ret;exact⟨by rw[HS.o];rfl,HB.o⟩
theorem xT(a b:ByteArray)(ha:a.size<=maxLen)(hb:b.size<=maxLen)(w:Wo)(ht:dM w):Calls Tryz.prog 42 #[.string a,.string b] w (fun e w'=>e=.returned (.string (MQ (fun p q=>p*q) a b))/\Below w.heap.size w w'):=by
 have HC:=lH (VV a b ha hb w ht);clear ha hb ht;go_enter Tryz.func42,Tryz.ntmps42
 go_wp2_with fail
 refine HC.o.mono ?_;intro e w1 h;obtain⟨rfl,hb⟩:=h.out;clear h HC;have HB:=lH hb;clear hb;generalize hs:MQ (fun p q=>p*q) a b=s;have HS:=lH hs;clear hs;generalize opE (fun p q=>p*q) a b=z
 go_wp2_with fail
 go_ret;exact⟨by rw[HS.o];rfl,HB.o⟩
theorem TV(a b:ByteArray)(ha:a.size<=maxLen)(hb:b.size<=maxLen)(w:Wo)(ht:dM w):Calls Tryz.prog 72 #[.string a,.string b] w (fun e w'=>e=.returned (.tuple #[.int .i64 (GK a b),.int .i64 (dS [a,b])])/\Below w.heap.size w w'):=by
 have dA:Hid (Below w.heap.size w (w.alloc (.cells #[.string a,.string b] 55))):=lH (bA);have eB:=lH (aG.new w 55 #[.string a,.string b]);have HA:=lH (show ∀s∈[a,b],s.size<=maxLen from fun s hs=>by simp at hs;rcases hs with rfl | rfl<;>assumption);have HT:=lH ht;clear ha hb ht;go_enter Tryz.func72,Tryz.ntmps72
 go_wp2_with fail
 generalize AW:w.alloc (.cells #[.string a,.string b] 55)=wa at *;have HTA:=lH (HT.o.up dA.o);have rC:aY wa wa.heap.size (some ⟨w.heap.size,0,none⟩) 2 [a,b]:=fF eB.o eB.o.lt;clear AW;refine(EW (some ⟨w.heap.size,0,none⟩) 2 2 [a,b] wa rC HA.o (by decide) HTA.o).mono ?_;clear rC;rintro e w1 ⟨he,bC⟩;have bT:=bW dA bC;clear bC dA HTA eB;by_cases h0:dS [a,b]=0
 ·have hv:=oD.1 h0
  have U1:=lH (hv a (by simp));have yO:=lH (hv b (by simp));have H0:=lH h0;rw[h0] at he;subst he;clear hv h0;(go_wp2_with fail);refine(tA U1.o w1).mono ?_;rintro e w2 ⟨bH,f1,C1,i1,j1,g1,D1,k1,l1,rfl,h1⟩;have cH:=bW bT bH;have H1:=lH h1;clear bH h1 bT;(go_wp2_with fail);refine(tA yO.o w2).mono ?_;rintro e w3 ⟨cN,f2,C2,i2,j2,g2,D2,k2,l2,rfl,h2⟩;have dY:=bW cH cN;have H1:=lH (H1.o.up cN);have H2:=lH h2;clear cN h2 cH;(go_wp2_with fail);refine(RY _ _ f1 C1 i1 j1 g1 D1 k1 l1 f2 C2 i2 j2 g2 D2 k2 l2 w3 H1.o H2.o (J1 (iD U1.o) (iD yO.o))).mono ?_;rintro e w4 ⟨rfl,eR⟩;have bM:=bW dY eR;have HE:Hid (GK a b=((gC a).num*((gC b).den:Int)-(gC b).num*((gC a).den:Int)).sign):=lH (by unfold GK;rw[if_pos H0.o];rfl);clear eR dY H1 H2;generalize ((gC a).num*((gC b).den:Int)-(gC b).num*((gC a).den:Int)).sign=z at *;(go_wp2_with fail);go_ret2;exact⟨by rw[HE.o,H0.o];rfl,bM.o⟩
 ·have HE:Hid (GK a b=0):=lH (by unfold GK;rw[if_neg h0])
  obtain⟨z,hz⟩:∃z,dS [a,b]=z:=⟨_,rfl⟩;have HZ:=lH hz;rw[hz] at he h0;subst he;have h0b:(z != 0)=true:=by simp[h0]
  clear hz h0;(go_wp2_with fail);go_ret2;exact⟨by rw[HE.o,HZ.o];rfl,bT.o⟩
theorem aGZ(a b:ByteArray)(ha:a.size<=maxLen)(hb:b.size<=maxLen)(w:Wo)(ht:dM w):Calls Tryz.prog 32 #[.string a,.string b] w (fun e w'=>e=.returned (.int .i64 (GK a b))/\Below w.heap.size w w'):=by
 have HC:=lH (TV a b ha hb w ht);clear ha hb ht;go_enter Tryz.func32,Tryz.ntmps32
 go_wp2_with fail
 refine HC.o.mono ?_;rintro e w1 ⟨rfl,hb⟩;clear HC;have HB:=lH hb;clear hb;generalize hs:GK a b=s;have HS:=lH hs;clear hs;generalize dS [a,b]=z
 go_wp2_with fail
 go_ret;exact⟨by rw[HS.o];rfl,HB.o⟩
section
variable {w w':Wo} {B B':Nat} {q:Rat} {v:Rv}
end
theorem aZf{p q:Rat}{v u:Rv}(h1:dD w w.heap.size p v)(h2:dD w w.heap.size q u)(hs:bI p+bI q+1<=35184372088832):Calls Tryz.prog 118 #[.agg #[.bool v.b1,.slice v.A v.n v.c,.bool v.b2,.slice v.A2 v.m v.d],.agg #[.bool u.b1,.slice u.A u.n u.c,.bool u.b2,.slice u.A2 u.m u.d]] w (fun e w'=>e=.returned (.int .i64 (X7 p q))/\Below w.heap.size w w'):=
 RY p q v.b1 v.A v.n v.c v.b2 v.A2 v.m v.d u.b1 u.A u.n u.c u.b2 u.A2 u.m u.d w h1 h2 hs
theorem aEN(h:cI s.data.toList=0)(w:Wo):Calls Tryz.prog 67 #[.string s] w (QP (gC s) w):=(tA h w).mono fun _ _ h=>h.qp
theorem aNg{q:Rat}(h:bP q):rnS q=bN q:=if_pos h
theorem aIZ{q:List Rat}{j:Nat}(h:(aA x)[k]?=some j):(kH x q).take (k+1)=(kH x q).take k++[vf q j]:=by
 have h2:(kH x q)[k]?=some (vf q j):=by unfold kH;rw[iY,h];rfl
 exact fE h2
def aZi(x:bO)(q:List Rat)(w:Wo)(e:Ending)(w':Wo):Prop:=Below w.heap.size w w'/\∃B v us,w.heap.size<=B/\e=.returned v/\dP w' B v us (kH x q)
theorem aET(g:Nat)(m:iU)(y:Value)(x:bO)(ok:bJ x)(h8:x.nodes.length<=8)(u:Rv)(A:OA)(n c:Nat)(q:List Rat)(w:Wo)(hg:aG w g 122 (m.cells y))(hr:fB w w.heap.size m x)(hq:iT w w.heap.size A n q)(hn:n=aH x):Calls Tryz.prog 90 #[.pointer (some ⟨g,0,none⟩),.agg #[.slice A n c,.bool u.b1,.slice u.A u.n u.c,.bool u.b2,.slice u.A2 u.m u.d]] w (aZi x q w):=by
 have K0:=jT w (.cells #[.slice A n c,.bool u.b1,.slice u.A u.n u.c,.bool u.b2,.slice u.A2 u.m u.d] 117);obtain⟨HK,tX,HG,HR,HQ⟩:=kN K0 (aG.new w 117 #[.slice A n c,.bool u.b1,.slice u.A u.n u.c,.bool u.b2,.slice u.A2 u.m u.d]) (hg.bl K0) (hr.up K0) (hq.up K0);have IL:=lH hn;have E8:Hid ((aA x).length=m.n6):=lH (by rw[<-e_];exact hr.r6.len);have h6:m.n6<=8:=by rw[<-E8.o];exact fZ ok h8
 have l8:Hid (q.length=n):=lH (by obtain⟨vs,_,h,_⟩:=hq;exact h);have XJ:n<=8:=by rw[hn];exact cO (eX ok).2 h8
 have dZ:Hid (w.heap.size<=(w.alloc (.cells #[.slice A n c,.bool u.b1,.slice u.A u.n u.c,.bool u.b2,.slice u.A2 u.m u.d] 117)).heap.size):=lH K0.size;have HFW:Hid (w.heap.size<(w.alloc (.cells #[.slice A n c,.bool u.b1,.slice u.A u.n u.c,.bool u.b2,.slice u.A2 u.m u.d] 117)).heap.size):=lH tX.o.lt;clear K0 hg hr hq hn ok;obtain⟨A0,n0,c0,A1,n1,c1,A2,n2,c2,A3,n3,c3,A4,n4,c4,A5,n5,c5,A6,n6,c6⟩:=m;simp only[iU.cells] at HG E8 h6;have y6:=HG.o.cell 6;have yl:=HG.o.lt;go_enter Tryz.func90,Tryz.ntmps90
 go_wp2_with fail
 clear y6 yl;generalize w.alloc (.cells #[.slice A n c,.bool u.b1,.slice u.A u.n u.c,.bool u.b2,.slice u.A2 u.m u.d] 117)=W at *
 go_loopw [5,13] (fun v5 v13 wr=>∃(k:Nat)(us:List Rv),k<=n6/\v13=.int .i64 k/\dP wr W.heap.size v5 us ((kH x q).take k)/\Below W.heap.size W wr) (fun _ v13 _=>n6-(intOf v13).toNat)
 case atStart=>exact⟨0,[],by omega,rfl,kY _ _,bR⟩
 case round=>
  obtain⟨k,us,hk,rfl,ho,hb⟩:=hrel;have HO:=lH ho;have HB:=lH hb;clear ho hb;by_cases aU:k<n6
  ·obtain⟨j,hj⟩:∃j,(aA x)[k]?=some j:=eA (by have:=E8.o;omega)
   have IK:=lH (aIZ (q:=q) hj);have hjb:j<n:=by rw[IL.o];exact tH (bV hj)
   have rD:=(HR.o.up HB.o).r6;simp only at rD;obtain⟨fb,fo,hA,qU,-⟩:=rD.2 (by have:=rD.len;omega);subst hA;have f0:=rD.at_ (fS hj);have HQW:=HQ.o.up HB.o;obtain⟨ab,ao,CN,jA⟩:=HQW.form (by omega);subst CN;obtain⟨xe,a0,a1,a2,a3,a4⟩:=HQW.at_ (a_ (i:=j) (by rw[l8.o];exact hjb));have HX:=lH a4;have aVa:=tX.o.bl HB.o;obtain⟨z0,zl⟩:=aVa.b1;have fY:(k:Int)<(n6:Int):=by omega
   have lB:=lZ k;have rJ:=jF k;have XO:(j:Int)<(n:Int):=by omega
   have GE:=lZ j;have rE:=jF j;have l9:=lN k;have jV:Hid (n6-(k+1)<n6-k):=lH (by omega);have L5:Hid (W.heap.size<=wr.heap.size):=lH HB.o.size;clear hj a4 rD HQW aVa
   go_wp2_with (at_builtin;refine rL rfl (.tmp 17) (.tmp 23) _ rfl W.heap.size Tryz.underlying93 u5 us _ rfl HO.o xe _ HX.o rfl ?k1 L5.o ?_)
   case k1=>rw[kR];omega
   intro v' w8 bB vJ gP;have sK:=lH bB;have dR:=lH (HB.o.trans gP);clear bB vJ gP f0 a0 a1 a2 a3 z0 zl;(go_wp2_with fail);go_roundw
   case rel=>exact⟨k+1,us++[xe],aU,aO l9.o,by rw[IK.o];exact sK.o,dR.o⟩
   case measure=>exact jV.o
  ·have nH:k=n6:=by omega
   have QE:Hid (dP wr W.heap.size u5 us (kH x q)):=lH (by
    have h:=HO.o;rw[nL (by unfold kH;rw[jO];have:=E8.o;omega)] at h;exact h)
   have fY:¬(k:Int)<(n6:Int):=by omega
   (go_wp2_with fail);go_ret;exact⟨HK.o.trans (HB.o.mono dZ.o),_,_,_,dZ.o,rfl,QE.o⟩
theorem Z9:(Tryz.prog.info? 93).map (fun i=>(i.zero,i.size,i.bytes))=some (some (.slice none 0 0),1,24):=by kernel_rfl
theorem VO(w:Wo)(base:Nat):iS w base (.slice none 0 0) [] []:=⟨eQ _ _ _ _ _,rfl,fun i h q hh=>by simp at hh⟩
theorem LE{ops:Array Oper}{rest:List Oper}{o:Oper}{a:Act}{Q:Exit->Act->World->Prop}{w:Wo}{T:TypeId}(AK:o.guard=none)(s x:Operand)(t:TypeId)(ho:o.op=.call { callee:=.builtin .append,args:=#[s,x],argTypes:=#[t,t] })(base:Nat)(ht:Tryz.prog.underlying t=some (.slice 93))(v:Value)(hs:List Hd)(M:List (List Rat))(O5:a.eval s=v)(bB:iS w base v hs M)(B:Nat)(z:Value)(us:List Rv)(p:List Rat)(hp:dP w B z us p)(hx:a.eval x=.slice (some ⟨w.heap.size,0,none⟩) 1 1)(xC:M.length<=1000000000)(cS:base<=w.heap.size)(h:∀v' w' hs',iS w' base v' hs' (M++[p])->Below base w w'->wpList Tryz.prog ops Q rest (a.put o.dst v') w'):wpList Tryz.prog ops Q (o::rest) a (w.alloc (.cells #[z] T)):=by
 obtain⟨i0,kA,rU,jR,kS⟩:=info_parts Z9;have hl:=bB.len;obtain⟨A,c,e,_⟩:=hp.rd;subst e;refine wK (S:=rF) AK s x t ho base 93 i0 _ 1 24 ht kA rU jR kS rfl (by omega) (fun u hu=>?_) v hs.length (hs.map Hd.val) O5 bB.own hx rfl (fun u hu=>?_) (by simp only[maxLen];omega) (by omega) cS fun v' w' h1 h2 _=>?_
 ·have SU:u∈[Value.slice none 0 0]:=hu
  rw[List.mem_singleton.1 SU];exact fun k x h=>by cases h
 ·have SU:u∈[Value.slice A p.length c]:=hu
  rw[List.mem_singleton.1 SU];exact⟨rfl,fun k x h=>by cases h⟩
 have hb:=jT w (.cells #[.slice A p.length c] T);exact h v' w' (hs++[⟨A,p.length,c⟩]) (iS.app (bB.keep hb) (z:=⟨A,p.length,c⟩) (hp.keep hb) h1 h2) ((hb.mono cS).trans h2.low)
theorem aEm{mi:Mi}(h:ms[k]?=some mi):(aV x ms).take (k+1)=(aV x ms).take k++[kH x (aS x mi).1]:=by
 have h2:(aV x ms)[k]?=some (kH x (aS x mi).1):=by unfold aV;rw[iY,h];rfl
 exact fE h2
end
section
namespace Ls
variable {al : List Rat} {g i k n : Nat} {ms : List Mi} {s : ByteArray} {w : World} {x : bO}
variable (L:Ls)
variable {L}
theorem SolK.spr_of{u c:Fn}(hp:L.Pos)(hk:k<L.K)(h:L.SolK k u)(hc:∀j,j<L.K->j≠k->aP L.n (L.R j) c=0)(lB:aP L.n (L.R k) c≠0):L.spr k u=0:=by
 have h1:=h.dot c;have h2:aN L.K (fun j=>L.w j*aP L.n (L.R j) u*aP L.n (L.R j) c)=L.w k*aP L.n (L.R k) u*aP L.n (L.R k) c:=
  dQ hk fun j hj bX=>by rw[hc j hj bX,Rat.mul_zero]
 rw[h2] at h1;have h4:=SL hp hk;have h3:L.w k*aP L.n (L.R k) u=1:=by
  have h5:(1-L.w k*aP L.n (L.R k) u)*aP L.n (L.R k) c=0:=by grind
  rcases Rat.mul_eq_zero.1 h5 with h6 | h6
  ·grind
  ·exact absurd h6 lB
 unfold spr;have h5:=hp k hk;have bX:L.w k≠0:=fun e=>by rw[e] at h5;exact absurd h5 Rat.lt_irrefl
 have h6:L.w k*(1 / L.w k-aP L.n (L.R k) u)=0:=by grind
 rcases Rat.mul_eq_zero.1 h6 with h7 | h7
 ·exact absurd h7 bX
 ·exact h7
end Ls
end
section
open Go.ChangeShapes Go.WideShapes Go.ChangeAt Go.RowKit
attribute [local go_sem ↓] aE
attribute [local go_sem] aJ aI aM aR
def aVA(n:Nat)(M:List (List Rat))(ms:List Mi)(w:Wo)(e:Ending)(w':Wo):Prop:=
 Below w.heap.size w w'/\∃(g:Nat) (G:List (List Rat)),e=.returned (.slice (some ⟨g,0,none⟩) n n)/\lQ w' w'.heap.size (some ⟨g,0,none⟩) n G/\fM n (3+606*M.length) G/\∀a b,a<n->b<n->ent G a b=ER M ms M.length a b
theorem aGq(A B:OA)(K c d n:Nat)(M:List (List Rat))(ms:List Mi)(w:Wo)(hM:lQ w w.heap.size A K M)(hm:fP w w.heap.size B K ms)(hw:∀a∈M,a.length=n)(hq:∀a∈M,∀q∈a,bI q<=300)(zR:∀x∈ms,1<=x.wt/\x.wt<=1000)(hn:n<=8)(hK:K<=64):Calls Tryz.prog 81 #[.slice A K c,.slice B K d,.int .i64 n] w (aVA n M ms w):=by
 obtain⟨HM,AU,HW,HQ,YO⟩:=kN hM hm hw hq zR;have mA:=lH hM.len;have UI:=lH hm.1;clear hM hm hw hq zR;have vI:∀w:World,(Instr.makeSlice 92 (.int .i64 (n:Int)) (.int .i64 (n:Int))).run Tryz.prog w=.ok (.slice (some ⟨w.heap.size,0,none⟩) n n) (w.alloc (.cells (fR n) 93)):=fun w=>yG n (by omega) w;have HK:=lH ((Below.refl w.heap.size w).alloc lR (.cells (fR n) 93));have Y1:=lH (aG.new w 93 (fR n));go_enter Tryz.func81,Tryz.ntmps81
 go_wp2_with fail
 clear vI;generalize w.alloc (.cells (fR n) 93)=W at *;have HO:=lH (yA Y1.o lR);generalize FS:w.heap.size=ga at *;have E_:=lH FS;clear FS Y1
 go_loopw [18] (fun v18 wr=>∃(k:Nat)(hs:List Mh),k<=n/\v18=.int .i64 k/\Below ga w wr/\kB wr ga ga hs ((o8 n).take k++List.replicate (n-k) [])) (fun v18 _=>n-(intOf v18).toNat)
 case atStart=>exact⟨0,_,by omega,rfl,HK.o,by rw[List.take_zero,List.nil_append,Nat.sub_zero];exact HO.o⟩
 case round=>
  clear HK HO;obtain⟨k,hs,hk,rfl,hb,ho⟩:=hrel;have HK:=lH hb;have HO:=lH ho;clear hb ho;by_cases aU:k<n
  ·have fY:(k:Int)<(n:Int):=by omega
   have l9:=lN k;have jV:Hid (n-(k+1)<n-k):=lH (by omega);have sL:Hid (ga<wr.heap.size):=lH HO.o.top.lt;(go_wp2_with fail);refine(mL n wr (by omega)).mono ?_;rintro e w7 ⟨iA,gz,vz,rfl,hgz,PE,hvz⟩;have sK:=lH (HO.o.up iA);have sC:Hid (tQ w7 ga ga ⟨some ⟨gz,0,none⟩,gz,n,List.replicate n vz⟩ (List.replicate n 0)):=lH (ZE PE hvz (by have:=sL.o;omega) (by have:=sL.o;omega) (by omega));have hO:=lH (HK.o.trans (iA.mono (pJ sL.o)));have Y4:Hid (∀j (h':Mh),j≠k->hs[j]?=some h'->0<h'.vs.length->0<(List.replicate n vz).length->h'.g≠gz):=lH fun j h' _ hh l1 l2=>by
    have h3:=HO.o.lt hh l1;omega
   clear iA PE hvz hgz HK HO;have gl:=sK.o.top.lt;have gf:=sK.o.top.frozen;have KQ:Hid (k<(((o8 n).take k++List.replicate (n-k) []):List (List Rat)).length):=lH (by simp[o8];omega);obtain⟨gv,gc⟩:∃gv,w7.cell? ⟨ga,k,none⟩=some gv:=by
    rw[sK.o.top.cell];exact⟨_,Array.getElem?_eq_getElem (by rw[List.size_toArray,jO,sK.o.len];exact KQ.o)⟩
   have E7:=lH (sK.o.setRow KQ.o sC.o Y4.o);rw[ZD aU,rB] at E7;(go_wp2_with fail);go_roundw
   case rel=>exact⟨k+1,_,aU,aO l9.o,hO.o.setCell lR _,E7.o⟩
   case measure=>exact jV.o
  ·have nH:k=n:=by omega
   have DJ:Hid (kB wr ga ga hs (o8 n)):=lH (by
    have h:=HO.o;rw[nH,Nat.sub_self,List.replicate_zero,List.append_nil,nL (by unfold o8;rw[rB];exact lR)] at h;exact h)
   have fY:¬(k:Int)<(n:Int):=by omega
   have L5:Hid (Below w.heap.size w wr):=lH (by rw[E_.o];exact HK.o);clear HO nH;(go_wp2_with fail);generalize wr=wz at *;have HKZ:Hid (∀a b,a<n->b<n->ent (o8 n) a b=0):=lH fun a b ha hb=>by
    have h:(o8 n)[a]?=some (List.replicate n 0):=by unfold o8;rw[List.getElem?_replicate,if_pos ha]
    rw[ID h];unfold vf;rw[dN,List.getElem?_replicate,if_pos hb];rfl
   go_loopw [29] (fun v29 wr=>∃(k:Nat)(hs:List Mh) (G:List (List Rat)),k<=K/\v29=.int .i64 k/\kC ga ga w wr (.slice none 0 0) [] hs G/\fM n (3+606*k) G/\∀a b,a<n->b<n->ent G a b=ER M ms k a b) (fun v29 _=>K-(intOf v29).toNat)
   case atStart=>exact⟨0,hs,o8 n,by omega,rfl,⟨DJ.o,eQ _ _ _ _ _,HK.o⟩,CX n,fun a b ha hb=>HKZ.o a b ha hb⟩
   case round=>
    clear HK DJ HKZ;obtain⟨k,hs,G,hk,rfl,ho,pY,pD⟩:=hrel;obtain⟨dI,bU,kV⟩:=d_ ho pY pD;have hb:=ho.low;have zV:=pJ ho.own.top.lt;have HMW:=lH ((HM.o.below hb lR).more zV);have aUQ:=lH ((AU.o.below hb lR).more zV);clear ho pY pD hb zV;by_cases aU:k<K
    ·obtain⟨q,hq⟩:∃q,M[k]?=some q:=eA (by have:=mA.o;omega)
     obtain⟨m,S1⟩:∃m,ms[k]?=some m:=eA (by have:=UI.o;omega);obtain⟨ab,ao,hA,jA⟩:=HM.o.form (by omega);subst hA;obtain⟨bb,bo,hB,pE⟩:=aUQ.o.form (by omega);subst hB;obtain⟨⟨ra,rn,rc⟩,r0,r1,r2,r3⟩:=HM.o.at_ hq;dsimp only at r0 r1 r2 r3;have CJ:=dI.o.low;have r0':=(CJ.cell (p:=⟨ab,ao+k,none⟩) jA).trans r0;have aYV:ab<wr.heap.size:=jE jA dI.o.le;obtain⟨m0,m1,m2,m3⟩:=aUQ.o.at_ S1;have a4U:=YO.o m (bV S1);have l8:=lH (HW.o q (bV hq));have HQB:=lH (HQ.o q (bV hq));have hrn:n=rn:=by rw[<-r1.len];exact l8.o.symm
     subst hrn;have pB:Hid (∀a b,ER M ms (k+1) a b=ER M ms k a b+(m.wt:Rat)*vf q a*vf q b):=lH fun a b=>by
      unfold ER;simp only[aN];rw[N4 S1,dN,hq];rfl
     have HRQ:=lH r1;have fY:(k:Int)<(K:Int):=by omega
     have l9:=lN k;have jV:Hid (K-(k+1)<K-k):=lH (by omega);clear hq S1 r0 r1 r2 r3 CJ;(go_wp2_with fail);refine(qD m.wt wr (by omega) (by omega)).mono ?_;rintro e w7 ⟨iA,xr,rfl,hx⟩;have HX:=lH hx;have j_:=lH iA;clear hx iA r0' aYV m0 m1 m2 m3;(go_upto_region 11 with fail);generalize AW:w7.alloc (.cells #[.bool xr.b1,.slice xr.A xr.n xr.c,.bool xr.b2,.slice xr.A2 xr.m xr.d] 115)=wa;have pI:Below w7.heap.size w7 wa:=by rw[<-AW];exact bA
     have HSX:Hid (aG wa w7.heap.size 115 #[.bool xr.b1,.slice xr.A xr.n xr.c,.bool xr.b2,.slice xr.A2 xr.m xr.d]):=lH (by rw[<-AW];exact aG.new w7 _ _);have eU:Hid (DC wa ga w7.heap.size hs (m.wt:Rat) xr):=lH ⟨HSX.o,HX.o.up pI,fun i h hh l=>jE (dI.o.own.lt hh l) j_.o.size⟩;replace dI:=lH ((dI.o.up j_.o).up pI);clear AW pI HSX HX j_;generalize hgx:w7.heap.size=gx at *;clear hgx;have HTS:Hid (∀a b,a<n->b<n->bI ((m.wt:Rat)*vf q a*vf q b)<=602):=lH fun a b ha hb=>by
      have h1:=eL ((m.wt:Rat)*vf q a) (vf q b);have h2:=eL (m.wt:Rat) (vf q a);have h3:=dV m.wt (by omega) (by omega);have h4:=HQB.o _ (bV (a_ (l:=q) (i:=a) (by rw[l8.o];exact ha)));have h5:=HQB.o _ (bV (a_ (l:=q) (i:=b) (by rw[l8.o];exact hb)));omega
     go_wp2_with fail
     go_loopw [42] (fun v42 wr=>∃(i:Nat)(hs:List Mh) (G2:List (List Rat)),i<=n/\v42=.int .i64 i/\kC ga ga w wr (.slice none 0 0) [] hs G2/\DC wr ga gx hs (m.wt:Rat) xr/\pC n (3+606*k) (m.wt:Rat) q G G2 i 0) (fun v42 _=>n-(intOf v42).toNat)
     case atStart=>exact⟨0,hs,G,by omega,rfl,dI.o,eU.o,pC.start bU.o⟩
     case round=>
      clear dI eU;obtain⟨i,hs,G2,hi,rfl,ho,FU,hgp⟩:=hrel;obtain⟨dI,eU,Y0⟩:=d_ ho FU hgp;clear ho FU hgp;by_cases kT:i<n
      rotate_left
      ·have DG:i=n:=by omega
       have iJ:Hid (fM n (3+606*(k+1)) G2):=lH ((Y0.o.bd HTS.o).mono (by omega));have sJ:Hid (∀a b,a<n->b<n->ent G2 a b=ER M ms (k+1) a b):=lH fun a b ha hb=>by
        rw[Y0.o.val a b ha hb,kV.o a b ha hb,pB.o,if_pos (by omega)]
       clear DG;(go_wp2_with fail);go_roundw
       case rel=>exact⟨k+1,hs,G2,aU,aO l9.o,dI.o,iJ.o,sJ.o⟩
       case measure=>exact jV.o
      obtain⟨rb,ro,hRA,AX⟩:=HRQ.o.form (by omega);subst hRA;have aOl:(i:Int)<(n:Int):=by omega
      have YX:=lN i;have YY:Hid (n-(i+1)<n-i):=lH (by omega);(go_wp2_with fail)
      go_loopw [47] (fun v47 wr=>∃(j:Nat)(hs:List Mh) (G2:List (List Rat)),j<=n/\v47=.int .i64 j/\kC ga ga w wr (.slice none 0 0) [] hs G2/\DC wr ga gx hs (m.wt:Rat) xr/\pC n (3+606*k) (m.wt:Rat) q G G2 i j) (fun v47 _=>n-(intOf v47).toNat)
      case atStart=>exact⟨0,hs,G2,by omega,rfl,dI.o,eU.o,Y0.o⟩
      case round=>
       clear dI eU Y0;obtain⟨j,hs,G2,hj,rfl,ho,FU,hgp⟩:=hrel;obtain⟨dI,eU,Y0⟩:=d_ ho FU hgp;clear ho FU hgp;by_cases rE:j<n
       rotate_left
       ·have hje:j=n:=by omega
        have HGR:Hid (pC n (3+606*k) (m.wt:Rat) q G G2 (i+1) 0):=lH (by have h:=Y0.o;rw[hje] at h;exact h.row);clear hje;(go_wp2_with fail);go_roundw
        case rel=>exact⟨i+1,hs,G2,kT,aO YX.o,dI.o,eU.o,HGR.o⟩
        case measure=>exact YY.o
       have HQI:Hid (q[i]?=some (vf q i)):=lH (a_ (by rw[l8.o];exact kT));have HQJ:Hid (q[j]?=some (vf q j)):=lH (a_ (by rw[l8.o];exact rE));have a5P:(j:Int)<(n:Int):=by omega
       have aPN:=lN j;have aPQ:Hid (n-(j+1)<n-j):=lH (by omega);have HKW:Hid (Below ga w wr):=lH dI.o.low;have HKS:ga<=wr.heap.size:=dI.o.le;obtain⟨vx,a0,a1,a2,a3,a4⟩:=(HRQ.o.below HKW.o lR).at_ HQI.o;have HVX:=lH (dD.more (w:=wr) a4 HKS);have aFI:rb<wr.heap.size:=jE AX HKS;clear a4;(go_wp2_with fail);refine(uZ HVX.o).mono ?_;clear a0 a1 a2 a3;rintro e w2 ⟨rfl,bH⟩;have aHF:=lH (dI.o.up bH);have aP6:=lH (eU.o.up bH);clear bH HVX aFI HKW HKS dI eU;by_cases O3:vf q i=0
       ·have hz:=xU O3
        rw[hz];have aHL:=lH (Y0.o.skip (Or.inl O3));clear hz O3;(go_wp2_with fail);go_roundw
        case rel=>exact⟨j+1,hs,G2,rE,aO aPN.o,aHF.o,aP6.o,aHL.o⟩
        case measure=>exact aPQ.o
       ·have hz:=GY O3
        generalize (vf q i).num.sign=z at hz ⊢;clear O3;have HKW:Hid (Below ga w w2):=lH aHF.o.low;have HKS:ga<=w2.heap.size:=aHF.o.le;obtain⟨vy,a0,a1,a2,a3,a4⟩:=(HRQ.o.below HKW.o lR).at_ HQJ.o;have HVY:=lH (dD.more (w:=w2) a4 HKS);have aFI:rb<w2.heap.size:=jE AX HKS;clear a4;(go_wp2_with fail);refine(uZ HVY.o).mono ?_;clear a0 a1 a2 a3;rintro e w3 ⟨rfl,cN⟩;have dI:=lH (aHF.o.up cN);have eU:=lH (aP6.o.up cN);clear cN HVY aFI HKW HKS aHF aP6;by_cases yH:vf q j=0
        ·have kS:=xU yH
         rw[kS];have aHL:=lH (Y0.o.skip (Or.inr yH));clear kS yH;(go_wp2_with fail);go_roundw
         case rel=>exact⟨j+1,hs,G2,rE,aO aPN.o,dI.o,eU.o,aHL.o⟩
         case measure=>exact aPQ.o
        ·have kS:=GY yH
         generalize (vf q j).num.sign=z2 at kS ⊢;clear yH;(go_upto_region 18 with fail);clear hz kS;have HKW:Hid (Below ga w w3):=lH dI.o.low;have HKS:ga<=w3.heap.size:=dI.o.le;obtain⟨vx,a0,a1,a2,a3,a4⟩:=(HRQ.o.below HKW.o lR).at_ HQI.o;have HVX:=lH (dD.more (w:=w3) a4 HKS);obtain⟨vy,d0,d1,d2,d3,d4⟩:=(HRQ.o.below HKW.o lR).at_ HQJ.o;have HVY:=lH (dD.more (w:=w3) d4 HKS);have aFI:rb<w3.heap.size:=jE AX HKS;clear a4 d4 HKW HKS;obtain⟨rg,hrg⟩:∃rg,G2[i]?=some rg:=eA (by rw[Y0.o.len];exact kT);have aNU:rg.length=n:=Y0.o.wid rg (bV hrg);obtain⟨gg,cc,vs,xe,hh,c,hx,c0,c1,c2',c3',hv,l1,f1,bX⟩:=dI.o.elem (i:=i) (j:=j) hrg (by omega);rw[aNU] at c;obtain⟨HH,GL,FZ,tR,vN⟩:=kN hh hx hv hrg aNU;have E3:Hid (bI (m.wt:Rat)+bI (vf q i)+1<=35184372088832):=lH (by
          have h3:=dV m.wt (by omega) (by omega);have h4:=HQB.o _ (bV HQI.o);omega)
         have nO:Hid (bI ((m.wt:Rat)*vf q i)+bI (vf q j)+1<=35184372088832):=lH (by
          have h2:=eL (m.wt:Rat) (vf q i);have h3:=dV m.wt (by omega) (by omega);have h4:=HQB.o _ (bV HQI.o);have h5:=HQB.o _ (bV HQJ.o);omega)
         have HS3:Hid (bI (vf rg j)+bI ((m.wt:Rat)*vf q i*vf q j)+1<=35184372088832):=lH (by
          have h1:=(Y0.o.bd HTS.o).bd.vf hrg (j:=j) (by omega);have h2:=HTS.o i j kT rE;omega)
         have gl:=dI.o.own.top.lt;obtain⟨z0,z1,z2,z3,zl⟩:=eU.o.blk.b4;have bM:=lH (aK (Below.refl w3.heap.size w3));have kA:=lZ i;have aJK:=jF i;have GE:=lZ j;have a5O:=jF j;clear hh hx hv hrg aNU;refine kX 25 (fun hHeld=>?_);simp only[nI,List.take_zero];refine cW [0,1,2,3,4,5,6,7,8,9,10,11,12,13,14,15,16,18,19,20,21] ?_;refine bQ 17 (fun K hK=>?_);go_simp;refine(LL (eU.o.val.up bM.o) (HVX.o.up bM.o) E3.o).mono ?_;rintro e w8 ⟨gP,v8,rfl,h8⟩;have dR:Hid (Below w3.heap.size w3 w8):=lH (bM.o.tm gP);have H8:=lH h8;clear gP h8;go_simp;refine gZ hK dR.o (fun hHeld=>?_);clear hK K;refine bQ 22 (fun K hK=>?_);go_simp;refine(LL H8.o (HVY.o.up dR.o) nO.o).mono ?_;rintro e w9 ⟨gA,v9,rfl,h9⟩;have eV:Hid (Below w3.heap.size w3 w9):=lH (dR.o.tm gA);have H9:=lH h9;clear gA h9;go_simp;refine gZ hK eV.o (fun hHeld=>?_);clear hK K;refine bQ 23 (fun K hK=>?_);go_simp;refine(EZ (FZ.o.up eV.o) H9.o HS3.o).mono ?_;rintro e wq ⟨UZ,vq,rfl,hq⟩;have QJ:Hid (Below w3.heap.size w3 wq):=lH (eV.o.tm UZ);have HVQ:=lH hq;clear UZ hq;go_simp;refine gZ hK QJ.o (fun hHeld=>?_);clear hK K;refine cW [24] ?_;refine eM ?_;clear hHeld;have tT:=lH (dI.o.up QJ.o);have YL:=lH (eU.o.up QJ.o);clear c c0 c1 c2' c3' l1 f1 bX gl z0 z1 z2 z3 zl dI eU FZ E3 nO HS3 bM dR eV H8 H9 HVX HVY aFI a0 a1 a2 a3 d0 d1 d2 d3;obtain⟨c0,c1,c2',c3',l1,f1⟩:=tT.o.elem2 HH.o tR.o GL.o;have aHL:=lH (Y0.o.add kT rE);(go_wp2_with fail);go_roundw
         case rel=>exact⟨j+1,_,_,rE,aO aPN.o,by
          have h:=tT.o.put HH.o tR.o (j:=j) (x:=vq) (by rw[vN.o];exact rE) HVQ.o;rw[<-gT tR.o] at h;exact h,YL.o.put tT.o HH.o tR.o (j:=j) (x:=vq) (by rw[vN.o];exact rE),aHL.o⟩
         case measure=>exact aPQ.o
    ·have nH:k=K:=by omega
     have fY:¬(k:Int)<(K:Int):=by omega
     have HG0:Hid (lQ wr wr.heap.size (some ⟨ga,0,none⟩) n G):=lH (by have h:=dI.o.own.rd;rw[bU.o.len] at h;exact h);have hO:Hid (Below w.heap.size w wr):=lH (by rw[E_.o];exact dI.o.low);have a0H:Hid (fM n (3+606*M.length) G):=lH (by rw[mA.o,<-nH];exact bU.o);have pB:Hid (∀a b,a<n->b<n->ent G a b=ER M ms M.length a b):=lH (by rw[mA.o,<-nH];exact kV.o);(go_wp2_with fail);exact bodyPost_ret (v:=.slice (some ⟨ga,0,none⟩) n n) (by simp[results,Tryz.results81,go_sem]) rfl ⟨hO.o,ga,G,rfl,HG0.o,a0H.o,pB.o⟩
theorem aGx(A:OA)(n c:Nat)(u:Rv)(q:List Rat)(z:Rat)(B:OA)(m d:Nat)(al:List Rat)(w:Wo)(hq:iT w w.heap.size A n q)(hz:dD w w.heap.size z u)(ha:iT w w.heap.size B m al)(H_:n<=m)(hn:n<=8)(h1:∀p∈q,bI p<=1000000000000)(h2:∀p∈al,bI p<=1000000000000)(h3:bI z<=1000000000000):Calls Tryz.prog 64 #[.agg #[.slice A n c,.bool u.b1,.slice u.A u.n u.c,.bool u.b2,.slice u.A2 u.m u.d],.slice B m d] w (QP (jJ q al+z) w):=by
 have K0:Below w.heap.size w ((w.alloc (.cells #[.slice A n c,.bool u.b1,.slice u.A u.n u.c,.bool u.b2,.slice u.A2 u.m u.d] 117)).alloc (.cells #[.bool false,.slice none 0 0,.bool false,.slice none 0 0] 115)):=(bA).alloc (by simp) _;have HK:=lH K0;have PF:=lH ((aG.new w 117 #[.slice A n c,.bool u.b1,.slice u.A u.n u.c,.bool u.b2,.slice u.A2 u.m u.d]).alloc (.cells #[.bool false,.slice none 0 0,.bool false,.slice none 0 0] 115));have PB:Hid (aG ((w.alloc (.cells #[.slice A n c,.bool u.b1,.slice u.A u.n u.c,.bool u.b2,.slice u.A2 u.m u.d] 117)).alloc (.cells #[.bool false,.slice none 0 0,.bool false,.slice none 0 0] 115)) (w.heap.size+1) 115 #[.bool false,.slice none 0 0,.bool false,.slice none 0 0]):=lH (aG.new_ (by simp));obtain⟨HQ,HZ,HA,H1,H2⟩:=kN (hq.up K0) (hz.up K0) (ha.up K0) h1 h2;have H3:=lH h3;have dZ:Hid (w.heap.size+1<((w.alloc (.cells #[.slice A n c,.bool u.b1,.slice u.A u.n u.c,.bool u.b2,.slice u.A2 u.m u.d] 117)).alloc (.cells #[.bool false,.slice none 0 0,.bool false,.slice none 0 0] 115)).heap.size):=lH (by simp);have l8:Hid (q.length=n):=lH hq.len;have HDS:Hid (bI (jJ q al)+bI z+1<=35184372088832):=lH (by
  have h:=nC (n:=n) (Z:=1000000000000) hq.len h1 h2 n lR;rw[nL (by rw[List.length_zipWith,hq.len];exact Nat.min_le_left _ _)] at h;have h':bI (jJ q al)<=n*(2*1000000000000+1)+1:=h;have:n*(2*1000000000000+1)<=8*(2*1000000000000+1):=Nat.mul_le_mul_right _ hn;omega)
 have HD2:Hid (n*(2*1000000000000+1)+2*1000000000000+2<=35184372088832):=lH (by omega);clear K0 hq hz ha h1 h2 h3;go_enter Tryz.func64,Tryz.ntmps64
 go_upto_region 1 with fail
 generalize (w.alloc (.cells #[.slice A n c,.bool u.b1,.slice u.A u.n u.c,.bool u.b2,.slice u.A2 u.m u.d] 117)).alloc (.cells #[.bool false,.slice none 0 0,.bool false,.slice none 0 0] 115)=W at *;obtain⟨y0,y1,y2,y3,y4,yl⟩:=PF.out.b5;refine kX 7 (fun hHeld=>?_);simp only[nI,List.take_zero];refine cW [0,1,2,4,5] ?_;clear y0 y1 y2 y3 y4 yl;have zL:=lH (aK (Below.refl W.heap.size W));generalize W.drew=v0 at *;refine bQ 3 (fun K hK=>?_);go_simp;refine(CS A n c B m d q al 1000000000000 v0 (HQ.o.up zL.o) (HA.o.up zL.o) H_ (by omega) H1.o H2.o HD2.o).mono ?_;rintro e v1 ⟨bC,x1,rfl,CH⟩;have lT:Hid (Below W.heap.size W v1):=lH (zL.o.tm bC);have eB:=lH CH;clear bC CH zL;go_simp;refine gZ hK lT.o (fun hHeld=>?_);clear hK K;refine bQ 6 (fun K hK=>?_);go_simp;refine(EZ eB.o (HZ.o.up lT.o) HDS.o).mono ?_;rintro e v2 ⟨bH,x2,rfl,y9⟩;have sJ:Hid (Below W.heap.size W v2):=lH (lT.o.tm bH);have f_:=lH y9;clear bH y9 lT eB;go_simp;refine gZ hK sJ.o (fun hHeld=>?_);clear hK K;refine eM ?_;clear hHeld;have PC:=lH (PB.out.bl sJ.o);obtain⟨z0,z1,z2,z3,zf,zl⟩:=PC.out.e4
 go_wp2_with fail
 clear z0 z1 z2 z3 zl zf;have PD:=lH (r_ (v:=x2) PC.out);obtain⟨p0,p1,p2,p3⟩:=PD.out.a4;unfold F8 at p0 p1 p2 p3;refine bodyPost_ret (v:=.agg #[.bool x2.b1,.slice x2.A x2.n x2.c,.bool x2.b2,.slice x2.A2 x2.m x2.d]) (by simp[results,Tryz.results64,go_sem,p0,p1,p2,p3]) rfl ?_;exact⟨dO (v:=x2) (HK.o.trans (sJ.o.mono (by have:=dZ.o;omega))) (Nat.le_succ _),x2,rfl,f_.o.keepq PC.out (x:=⟨false,none,0,0,false,none,0,0⟩)⟩
end
section
theorem aJ2{K:Nat}{M G:List (List Rat)}(h:fM n K G)(hv:∀a b,a<n->b<n->ent G a b=ER M ms M.length a b):G=dU n M ms:=by
 apply List.ext_getElem?;intro i;by_cases hi:i<n
 ·obtain⟨r,hr⟩:∃r,G[i]?=some r:=eA (by rw[h.len];exact hi)
  have w_:=h.wid r (bV hr);rw[hr];unfold dU;rw[iY,List.getElem?_range hi];show some r=some _;congr 1
  apply List.ext_getElem?;intro j;by_cases hj:j<n
  ·have h2:=hv i j hi hj
   rw[ID hr] at h2;rw[iY,List.getElem?_range hj,a_ (l:=r) (i:=j) (by rw[w_];exact hj),h2];rfl
  ·rw[List.getElem?_eq_none (by omega),List.getElem?_eq_none (by simp;omega)]
 ·rw[List.getElem?_eq_none (by rw[h.len];omega),List.getElem?_eq_none (by rw[cL];omega)]
theorem aBD:mT n x ms 0=List.replicate n 0:=by
 apply List.ext_getElem?;intro i;unfold mT;rw[iY,List.getElem?_replicate];by_cases hi:i<n
 ·rw[List.getElem?_range hi,if_pos hi];rfl
 ·rw[List.getElem?_eq_none (by simp;omega),if_neg hi];rfl
def F7(n:Nat)(x:bO)(ms:List Mi)(k i:Nat):List Rat:=(mT n x ms (k+1)).take i++(mT n x ms k).drop i
theorem aBE:F7 n x ms k 0=mT n x ms k:=by simp[F7]
theorem aEq:F7 n x ms k n=mT n x ms (k+1):=by
 unfold F7;rw[nL (by rw[fO];exact lR),List.drop_eq_nil_iff.2 (by rw[fO];exact lR),List.append_nil]
theorem sX(hi:i<=n):(F7 n x ms k i).length=n:=by
 unfold F7;rw[jW,kR,LC,fO,fO];omega
theorem aI0(hi:i<n):(F7 n x ms k i)[i]?=some (vf (mT n x ms k) i):=by
 unfold F7;rw[DN (by rw[kR,fO];omega),kR,fO,List.getElem?_drop,show i+(i-min i n)=i from by omega];exact a_ (by rw[fO];exact hi)
theorem aEp(hi:i<n){row:List Rat}(hr:(aV x ms)[k]?=some row):(F7 n x ms k i).set i (vf (mT n x ms k) i+EG x ms k*vf row i)=F7 n x ms k (i+1):=by
 have h1:vf (mT n x ms k) i+EG x ms k*vf row i=vf (mT n x ms (k+1)) i:=by
  rw[BR hi,BR hi];simp only[aN];rw[dN (l:=aV x ms) (i:=k),hr];rfl
 rw[h1];apply List.ext_getElem?;intro j;unfold F7;rw[List.getElem?_set];by_cases hj:i=j
 ·subst hj
  rw[if_pos rfl,if_pos (by rw[jW,kR,LC,fO,fO];omega),BD (by rw[kR,fO];omega),List.getElem?_take,if_pos (Nat.lt_succ_self _),a_ (by rw[fO];exact hi)]
 ·rw[if_neg hj,List.getElem?_append,List.getElem?_append,kR,kR,fO,List.getElem?_take,List.getElem?_take,List.getElem?_drop,List.getElem?_drop]
  by_cases h2:j<i
  ·rw[if_pos (by omega),if_pos h2,if_pos (by omega),if_pos (by omega)]
  ·rw[if_neg (by omega),if_neg (by omega),show i+(j-min i n)=j from by omega,show i+1+(j-min (i+1) n)=j from by omega]
end
section
namespace Ls
variable {al : List Rat} {g i k n : Nat} {ms : List Mi} {s : ByteArray} {w : World} {x : bO}
variable {L:Ls}
theorem one_wrong{by_:Rat}{o a u:Fn}(hp:L.Pos)(hk:k<L.K)(hy:∀j,j<L.K->L.y j=aP L.n (L.R j) o+(if j=k then by_ else 0))(ha:L.Sol a)(hu:L.SolK k u):L.res a k=by_*L.w k*L.spr k u/\∀j,j<L.K->j≠k->L.res a j=-(by_*L.w k*aP L.n (L.R j) u):=by
 have QS:∀i,i<L.n->aP L.n (L.G i) (fun i=>o i+(by_*L.w k)*u i)=L.rt i:=fun i hi=>by
  rw[nB L.n (L.G i) o (fun i=>(by_*L.w k)*u i),kO,hu i hi,L.gdot];have e:L.rt i=aN L.K (fun j=>L.w j*L.R j i*aP L.n (L.R j) o)+aN L.K (fun j=>if j=k then by_*L.w k*L.R k i else 0):=by
   unfold rt;rw[<-cK];refine aL fun j hj=>?_;rw[hy j hj]
   by_cases h:j=k
   ·subst h;rw[if_pos rfl,if_pos rfl];grind
   ·rw[if_neg h,if_neg h];grind
  have e2:aN L.K (fun j=>if j=k then by_*L.w k*L.R k i else 0)=by_*L.w k*L.R k i:=by
   rw[dQ hk (fun j _ bX=>by rw[if_neg bX]),if_pos rfl]
  rw[e,e2]
 have aS2:∀j,j<L.K->aP L.n (L.R j) (fun i=>a i+(-1)*(o i+(by_*L.w k)*u i))=0:=(hp.ker _).1 fun i hi=>by
  rw[nB L.n (L.G i) a (fun i=>(-1)*(o i+(by_*L.w k)*u i)),kO L.n (L.G i) (fun i=>o i+(by_*L.w k)*u i),QS i hi,ha i hi];grind
 have hR:∀j,j<L.K->aP L.n (L.R j) a=aP L.n (L.R j) o+by_*L.w k*aP L.n (L.R j) u:=fun j hj=>by
  have h:=aS2 j hj;rw[nB L.n (L.R j) a (fun i=>(-1)*(o i+(by_*L.w k)*u i)),kO L.n (L.R j) (fun i=>o i+(by_*L.w k)*u i),nB L.n (L.R j) o (fun i=>(by_*L.w k)*u i),kO] at h;grind
 constructor
 ·unfold res
  rw[hy k hk,hR k hk,if_pos rfl];unfold spr;have h:=SL hp hk;generalize 1 / L.w k=v at *;generalize L.w k=w at *;have e:by_*w*(v-aP L.n (L.R k) u)=by_*(w*v)-by_*w*aP L.n (L.R k) u:=by grind
  rw[e,h];grind
 ·intro j hj bX
  unfold res;rw[hy j hj,hR j hj,if_neg bX];grind
end Ls
end
section
theorem aD3(h:cI s.data.toList=0):Tn (s.size+1) (gC s):=by
 obtain⟨h1,h2,-,-,h5,h6,-,-⟩:=wL h;have hs:s.data.toList.length=s.size:=by rw[Array.length_toList];rfl
 have hl:=congrArg List.length (D7 s.data.toList);have hl2:=congrArg List.length (pX s.data.toList);rw[jW] at hl hl2;have k1:(vP s.data.toList).length<=s.size:=by omega
 refine⟨?_,?_⟩
 ·show(kJ s.data.toList).num.natAbs<_
  rw[h1,G5];exact jE (J5 h5) (Nat.pow_le_pow_right (by decide) (by omega))
 ·show(kJ s.data.toList).den<_
  rw[h2];unfold ET;split
  ·rename_i hi
   rw[if_pos hi,GS] at hl;exact jE (J5 h6) (Nat.pow_le_pow_right (by decide) (by omega))
  ·rw[Nat.pow_succ]
   have:0<10^s.size:=Nat.pow_pos (by decide);omega
theorem ZJ(h:cI s.data.toList=0)(hs:s.size<=24):Tn 25 (gC s):=(aD3 h).mono (by omega)
theorem aDZ{f:Rat->Rat->Rat}{p q:Rat}(hp:bP p)(hq:bP q)(h:bP (f p q)):MQ f (bN p) (bN q)=bN (f p q):=by
 rw[OS (cV hp).1 (cV hq).1,(cV hp).2,(cV hq).2,aNg h]
end
section
open Go.ChangeShapes Go.WideShapes Go.ChangeAt Go.RowKit
theorem WU(h:dJ x ms=0):b_ x=0/\ms.length<=64/\∀m∈ms,CB x m=0:=by
 unfold dJ at h;split at h
 ·exact absurd h (by assumption)
 ·rename_i hn
  split at h
  ·omega
  ·exact⟨by omega,by omega,CA h⟩
end
section
section
variable {x:bO} {ms:List Mi}
end
section
variable {x:bO} {ms:List Mi}
theorem aJ_:ZB x (bE x ms):=⟨aAz,fun j hj hf=>by rw[X0 hj];unfold ext;rw[hf];rfl⟩
theorem aOJ(hi:i<(aA x).length):LS x (bE x ms) i=nY x ms i:=by
 obtain⟨j,h1,h2,h3,h4⟩:=aAs hi;unfold LS;rw[dN,h1];show vf (bE x ms) j=_;rw[X0 h3];unfold ext;rw[if_pos h2,h4]
theorem aBt{a b:Fn}(h:(cU x ms).Sol a)(he:∀i,i<(aA x).length->a i=b i):(cU x ms).Sol b:=fun i hi=>by
 rw[<-h i hi];exact nZ (fun _ _=>rfl) fun j hj=>(he j hj).symm
theorem TH(hr:mX x ms):(cU x ms).Sol (LS x (bE x ms)):=aBt (aAy hr) fun i hi=>(aOJ hi).symm
theorem aEr(ok:bJ x)(hm:∀m∈ms,vW x m)(h:ZB x al){m:Mi}(hk:ms[k]?=some m):gC m.txt-(jJ (aS x m).1 al+(aS x m).2)=(cU x ms).res (LS x al) k:=by
 unfold Ls.res;rw[aNz hk,EJ hk];rw[h.dot (nA ok (hm m (bV hk))).len];show _=_-aP (aA x).length _ _;grind
theorem aBF(ok:bJ x)(hm:∀m∈ms,vW x m)(h:ZB x al)(hk:k<ms.length):(aQ x ms al)[k]?=some ((cU x ms).res (LS x al) k):=by
 obtain⟨m,h0⟩:∃m,ms[k]?=some m:=⟨_,iB hk⟩;unfold aQ;rw[iY,h0];exact congrArg some (aEr ok hm h h0)
theorem qK:(aQ x ms al).length=ms.length:=by unfold aQ;rw[jO]
end
section
variable {x:bO} {ms:List Mi} {by_:Int}
end
section
variable {x:bO} {ms:List Mi}
end
end
section
open Go.ChangeShapes Go.WideShapes Go.ChangeAt Go.RowKit
attribute [local go_sem ↓] aE
attribute [local go_sem] aJ aI aM aR
def aTD(x:bO)(ms:List Mi)(w:Wo)(e:Ending)(w':Wo):Prop:=Below w.heap.size w w'/\∃A c hs b0,e=.returned (.slice A ms.length c)/\w.heap.size<=b0/\iS w' b0 (.slice A ms.length c) hs (aV x ms)/\ms.length<=c/\c<=maxLen
theorem WI(h:bY)(x:bO)(ok:bJ x)(h8:x.nodes.length<=8)(g:Nat)(m:iU)(y:Value)(A:OA)(n c:Nat)(ms:List Mi)(w:Wo)(r:cQ w w.heap.size h x)(hg:aG w g 122 (m.cells y))(hr:fB w w.heap.size m x)(hm:fP w w.heap.size A n ms)(hn:n<=64)(pY:∀m∈ms,vW x m):Calls Tryz.prog 82 #[.agg h.cells,.pointer (some ⟨g,0,none⟩),.slice A n c] w (aTD x ms w):=by
 have K0:=jT w (.cells h.cells 29);obtain⟨HK,P0,HG,HR,HX⟩:=kN K0 (aG.new w 29 h.cells) (hg.bl K0) (hr.up K0) (r.up K0);have HM:=lH (hm.bm K0);have mA:Hid (ms.length=n):=lH hm.1;have bU:=lH ok;have HMK:=lH pY;have dZ:Hid (w.heap.size<=(w.alloc (.cells h.cells 29)).heap.size):=lH K0.size;clear K0 hg hr hm r pY ok;obtain⟨D0,r0,s0,D1,r1,s1,D2,r2,s2,D3,r3,s3,D4,r4,s4,D5,r5,s5⟩:=h;go_enter Tryz.func82,Tryz.ntmps82
 go_wp2_with fail
 generalize w.alloc (.cells (bY.cells ⟨D0,r0,s0,D1,r1,s1,D2,r2,s2,D3,r3,s3,D4,r4,s4,D5,r5,s5⟩) 29)=W at *
 go_loopw [7,12] (fun v7 v12 wr=>∃(k:Nat)(hs:List Hd),k<=n/\v12=.int .i64 k/\iS wr W.heap.size v7 hs ((aV x ms).take k)/\Below W.heap.size W wr) (fun _ v12 _=>n-(intOf v12).toNat)
 case atStart=>exact⟨0,[],by omega,rfl,VO _ _,bR⟩
 case round=>
  obtain⟨k,hs,hk,rfl,ho,hb⟩:=hrel;have HO:=lH ho;have HB:=lH hb;clear ho hb;by_cases aU:k<n
  ·obtain⟨mi,mZ⟩:∃mi,ms[k]?=some mi:=eA (by have:=mA.o;omega)
   have IK:=lH (aEm (x:=x) mZ);have wB:=lH (HMK.o mi (bV mZ));have xA:=(HM.o.below HB.o lR).more HB.o.size;have aFY:=xA.2.2 (by omega);obtain⟨ab,ao,hA,jA,-⟩:=aFY;subst hA;obtain⟨a0,a1,a2,a3⟩:=xA.at_ mZ;have fY:(k:Int)<(n:Int):=by omega
   have lB:=lZ k;have rJ:=jF k;have l9:=lN k;have jV:Hid (n-(k+1)<n-k):=lH (by omega);clear mZ xA;(go_upto_region 5 with fail);clear a0 a1 a2 a3 jA fY lB rJ;have hz:=jT wr (.cells #[.int .i64 mi.kind,.string mi.name,.string mi.txt,.int .i64 mi.wt] 57);have IM:=lH (aG.new wr 57 #[.int .i64 mi.kind,.string mi.name,.string mi.txt,.int .i64 mi.wt]);replace HO:=lH (HO.o.keep hz);have hO:Hid (Below W.heap.size W (wr.alloc (.cells #[.int .i64 mi.kind,.string mi.name,.string mi.txt,.int .i64 mi.wt] 57))):=lH (HB.o.tm hz);clear hz HB;generalize wr.alloc (.cells #[.int .i64 mi.kind,.string mi.name,.string mi.txt,.int .i64 mi.wt] 57)=wa at *;have P0w:=P0.o.bl hO.o;obtain⟨y0,y1,y2,y3,y4,y5,nf,nlt⟩:=aW P0w;dsimp only at y0 y1 y2 y3 y4 y5;obtain⟨x0,x1,x2,x3,xl⟩:=IM.o.b4;clear P0w;(go_wp2_with fail);refine(qV _ x bU.o h8 g m y mi wa (HX.o.up hO.o) (HG.o.bl hO.o) (HR.o.up hO.o) wB.o.1 wB.o.2).mono ?_;rintro e w5 ⟨fD,gc,u,rfl,hq,hv⟩;clear y0 y1 y2 y3 y4 y5 nf nlt x0 x1 x2 x3 xl;have eK:=bW hO fD;replace HO:=lH (HO.o.keep fD);have HQ:=lH hq;clear fD hq hv hO;(go_wp2_with fail);refine(aET g m y x bU.o h8 u (some ⟨gc,0,none⟩) (aH x) (aH x) (aS x mi).1 w5 (HG.o.bl eK.o) (HR.o.up eK.o) HQ.o rfl).mono ?_;rintro e w6 ⟨fT,B6,v6,us,hB6,rfl,bB⟩;have fL:=bW eK fT;replace HO:=lH (HO.o.keep fT);have HW6:=lH bB;obtain⟨A',c',hv6,-⟩:=bB.rd;subst hv6;have L5:Hid (W.heap.size<=w6.heap.size):=lH fL.o.size;clear fT hB6 bB eK HQ
   go_wp2_with (at_builtin;refine LE rfl (.tmp 16) (.tmp 23) _ rfl W.heap.size Tryz.underlying92 u7 hs _ rfl HO.o B6 _ us _ HW6.o rfl ?k1 L5.o ?_)
   case k1=>rw[kR];omega
   intro v' w8 hs' hrows gP;have sK:=lH hrows;have dR:=lH (fL.o.trans gP);clear hrows gP;(go_wp2_with fail);go_roundw
   case rel=>exact⟨k+1,hs',aU,aO l9.o,by rw[IK.o];exact sK.o,dR.o⟩
   case measure=>exact jV.o
  ·have nH:k=n:=by omega
   have w_:(aV x ms).length=n:=by unfold aV;rw[jO];exact mA.o
   have QE:Hid (iS wr W.heap.size u7 hs (aV x ms)):=lH (by
    have h:=HO.o;rw[nL (by omega)] at h;exact h)
   have fY:¬(k:Int)<(n:Int):=by omega
   obtain⟨A',c',hv,rC,h1,h2⟩:=QE.o.rd;rw[w_] at hv rC h1;subst hv;have HO2:Hid (iS wr W.heap.size (.slice A' n c') hs (aV x ms)):=QE;clear rC w_;(go_wp2_with fail);go_ret;exact⟨HK.o.trans (HB.o.mono dZ.o),A',c',hs,W.heap.size,by rw[mA.o];rfl,dZ.o,by rw[mA.o];exact HO2.o,by rw[mA.o];exact h1,h2⟩
section
variable {w w':Wo} {gc:Nat} {vs:List Rv} {q:List Rat}
end
theorem rY{T:Nat}{a0 a1 a2 a3 a4 v0 v1 v2 v3 v4:Value}(h:aG w g T #[a0,a1,a2,a3,a4]):aG (((((w.setCell ⟨g,0,none⟩ v0).setCell ⟨g,1,none⟩ v1).setCell ⟨g,2,none⟩ v2).setCell ⟨g,3,none⟩ v3).setCell ⟨g,4,none⟩ v4) g T #[v0,v1,v2,v3,v4]:=((((h.set_ 0 v0).set_ 1 v1).set_ 2 v2).set_ 3 v3).set_ 4 v4
theorem mS{a:Wo}{B:Nat}{v0 v1 v2 v3 v4:Value}(h:Below B a w)(hg:B<=g):Below B a (((((w.setCell ⟨g,0,none⟩ v0).setCell ⟨g,1,none⟩ v1).setCell ⟨g,2,none⟩ v2).setCell ⟨g,3,none⟩ v3).setCell ⟨g,4,none⟩ v4):=((((h.setCell hg _).setCell hg _).setCell hg _).setCell hg _).setCell hg _
def NoB(cs:Array Value):Prop:=∀(i:Nat)(u:Value),cs[i]?=some u->(∀b,u≠.bool b)/\xM u
section
variable {w:Wo} {g T:Nat} {cs:Array Value} {i:Nat} {u y:Value}
theorem iT.keepB{A0:OA}{qs:List Rat}(h:iT w w.heap.size A0 n qs)(hb:aG w g T cs)(hc:NoB cs)(hy:cs[i]?=some y):iT (w.setCell ⟨g,i,none⟩ u) (w.setCell ⟨g,i,none⟩ u).heap.size A0 n qs:=by
 obtain⟨vs,h1,h2,h3,h4⟩:=h;refine⟨vs,h1,h2,⟨h3.1,fun hn=>?_⟩,fun j q v hq hv=>dD.keep1 (h4 j q v hq hv) hb hy (hc _ _ hy).2 u⟩;obtain⟨b,off,e,aU,NC⟩:=h3.2 hn;have hbg:b≠g:=by
  rintro rfl;obtain⟨v,hv⟩:∃v,vs[0]?=some v:=eA (by omega);have:=NC 0 (.bool v.b1) (by have h5:=t_ hv 0 (by decide);simpa[Rv.cells] using h5);rw[Nat.add_zero,hb.cell] at this;exact(hc _ _ this).1 _ rfl
 refine⟨b,off,e,by simpa[World.setCell] using aU,fun j v hv=>?_⟩;rw[World.cell?_setCell_other _ _ _ _ (fun e2=>hbg (by injection e2 with e2;exact e2.symm))];exact NC j v hv
theorem lQ.keepB{A0:OA}{M:List (List Rat)}(h:lQ w w.heap.size A0 n M)(hb:aG w g T cs)(hc:NoB cs)(hy:cs[i]?=some y)(hA:∀b off,A0=some ⟨b,off,none⟩->b≠g):lQ (w.setCell ⟨g,i,none⟩ u) (w.setCell ⟨g,i,none⟩ u).heap.size A0 n M:=by
 obtain⟨hs,h1,h2,h3,h4⟩:=h;refine⟨hs,h1,h2,⟨h3.1,fun hn=>?_⟩,fun j z q hz hq=>⟨(h4 j z q hz hq).1.keepB hb hc hy,(h4 j z q hz hq).2⟩⟩;obtain⟨b,off,e,aU,NC⟩:=h3.2 hn;refine⟨b,off,e,by simpa[World.setCell] using aU,fun j v hv=>?_⟩;rw[World.cell?_setCell_other _ _ _ _ (fun e2=>hA b off e (by injection e2 with e2;exact e2.symm))];exact NC j v hv
end
theorem CQ{A1 A2 A3 A4:OA}{n1 c1 n2 c2 n3 c3 n4 c4:Nat}:NoB #[.pointer (some ⟨g,0,none⟩),.slice A1 n1 c1,.slice A2 n2 c2,.slice A3 n3 c3,.slice A4 n4 c4]:=fun i u h=>by
 have h2:=Array.mem_toList_iff.2 (Array.mem_of_getElem? h);simp only[List.mem_cons,List.not_mem_nil,or_false] at h2;rcases h2 with rfl | rfl | rfl | rfl | rfl<;>exact⟨fun b e=>(by cases e),fun k x e=>(by cases e)⟩
theorem FC.vb{gf gc:Nat}{vs:List Rv}{u:Rv}{q:List Rat}{z:Rat}(f:FC w gf gc vs u q z){p T:Nat}{y:Rv}(hb:aG w p T #[.slice none 0 0,.bool false,.slice none 0 0,.bool false,.slice none 0 0])(hp:gc≠p):Vb (put5 w p gc n y) gc vs q:=by
 obtain⟨cs,h1,h2⟩:=f.row;exact⟨⟨cs,((((h1.far hp _).far hp _).far hp _).far hp _).far hp _,h2⟩,f.len,fun i t v ht hv=>(f.ok i t v ht hv).keep5 hb⟩
def aVC(x:bO)(m:Mi)(w:Wo)(e:Ending)(w':Wo):Prop:=Below w.heap.size w w'/\∃(gc:Nat)(u:Rv),e=.returned (.agg #[.slice (some ⟨gc,0,none⟩) (aH x) (aH x),.bool u.b1,.slice u.A u.n u.c,.bool u.b2,.slice u.A2 u.m u.d])/\w.heap.size<=gc/\(∃vs,Vb w' gc vs (aS x m).1)/\dD w' w'.heap.size (aS x m).2 u
theorem aCt(h:bY)(x:bO)(ok:bJ x)(h8:x.nodes.length<=8)(g:Nat)(m:iU)(y:Value)(mi:Mi)(w:Wo)(r:cQ w w.heap.size h x)(hg:aG w g 122 (m.cells y))(hr:fB w w.heap.size m x)(h0:mi.kind=0->0<=lL x mi.name)(h1:mi.kind≠0->mi.name∈x.nodes):Calls Tryz.prog 63 #[.agg h.cells,.pointer (some ⟨g,0,none⟩),mi.val] w (aVC x mi w):=by
 have fC:Hid (aH x=m.n1):=lH (by rw[<-qQ ok];exact hr.r1.len);obtain⟨HX,HG,HR,H0,H1⟩:=kN r hg hr h0 h1;have bU:=lH ok;have XJ:m.n1<=8:=by rw[<-fC.o];exact cO (eX ok).2 h8
 have IL:=lH XJ;obtain⟨kind,name,txt,wt⟩:=mi;simp only[Mi.val];have Q0:Below w.heap.size w ((((w.alloc (.cells h.cells 29)).alloc (.cells #[.pointer (some ⟨g,0,none⟩)] 90)).alloc (.cells #[.int .i64 kind,.string name,.string txt,.int .i64 wt] 57)).alloc (.cells #[.slice none 0 0,.bool false,.slice none 0 0,.bool false,.slice none 0 0] 117)):=(((Below.alloc (Below.refl _ w) lR _).alloc (by simp<;>omega) _).alloc (by simp<;>omega) _).alloc (by simp<;>omega) _;have HW:=lH Q0;have P0:=lH (((aG.new w 29 h.cells).alloc (.cells #[.pointer (some ⟨g,0,none⟩)] 90)).alloc (.cells #[.int .i64 kind,.string name,.string txt,.int .i64 wt] 57) |>.alloc (.cells #[.slice none 0 0,.bool false,.slice none 0 0,.bool false,.slice none 0 0] 117));have P1:Hid (aG ((((w.alloc (.cells h.cells 29)).alloc (.cells #[.pointer (some ⟨g,0,none⟩)] 90)).alloc (.cells #[.int .i64 kind,.string name,.string txt,.int .i64 wt] 57)).alloc (.cells #[.slice none 0 0,.bool false,.slice none 0 0,.bool false,.slice none 0 0] 117)) (w.heap.size+1) 90 #[.pointer (some ⟨g,0,none⟩)]):=lH (((aG.new_ (by simp)).alloc _).alloc _);have P2:Hid (aG ((((w.alloc (.cells h.cells 29)).alloc (.cells #[.pointer (some ⟨g,0,none⟩)] 90)).alloc (.cells #[.int .i64 kind,.string name,.string txt,.int .i64 wt] 57)).alloc (.cells #[.slice none 0 0,.bool false,.slice none 0 0,.bool false,.slice none 0 0] 117)) (w.heap.size+1+1) 57 #[.int .i64 kind,.string name,.string txt,.int .i64 wt]):=lH ((aG.new_ (by simp)).alloc _);have P3:Hid (aG ((((w.alloc (.cells h.cells 29)).alloc (.cells #[.pointer (some ⟨g,0,none⟩)] 90)).alloc (.cells #[.int .i64 kind,.string name,.string txt,.int .i64 wt] 57)).alloc (.cells #[.slice none 0 0,.bool false,.slice none 0 0,.bool false,.slice none 0 0] 117)) (w.heap.size+1+1+1) 117 #[.slice none 0 0,.bool false,.slice none 0 0,.bool false,.slice none 0 0]):=lH (aG.new_ (by simp));clear r hg hr h0 h1 ok Q0 XJ;obtain⟨A0,n0,c0,A1,n1,c1,A2,n2,c2,A3,n3,c3,A4,n4,c4,A5,n5,c5,A6,n6,c6⟩:=m;simp only[iU.cells] at HG fC IL;go_enter Tryz.func63,Tryz.ntmps63
 go_upto_region 1 with fail
 have dZ:Hid (((((w.alloc (.cells h.cells 29)).alloc (.cells #[.pointer (some ⟨g,0,none⟩)] 90)).alloc (.cells #[.int .i64 kind,.string name,.string txt,.int .i64 wt] 57)).alloc (.cells #[.slice none 0 0,.bool false,.slice none 0 0,.bool false,.slice none 0 0] 117)).heap.size=w.heap.size+1+1+1+1):=lH (by simp);generalize ((((w.alloc (.cells h.cells 29)).alloc (.cells #[.pointer (some ⟨g,0,none⟩)] 90)).alloc (.cells #[.int .i64 kind,.string name,.string txt,.int .i64 wt] 57)).alloc (.cells #[.slice none 0 0,.bool false,.slice none 0 0,.bool false,.slice none 0 0] 117))=wa at *;obtain⟨b0,bl⟩:=P1.o.b1
 go_wp2_with fail
 refine(nU g ⟨A0,n0,c0,A1,n1,c1,A2,n2,c2,A3,n3,c3,A4,n4,c4,A5,n5,c5,A6,n6,c6⟩ y wa (HG.o.bl HW.o)).mono ?_;rintro e w1 ⟨rfl,rfl⟩
 go_wp2_with fail
 refine(mL n1 wa (by have:=IL.o;omega)).mono ?_;rintro e w1 ⟨bC,gc,v,rfl,hgc,hbc,hv⟩
 go_wp2_with fail
 refine(qD 0 w1 (by decide) (by decide)).mono ?_;rintro e w2 ⟨bH,u,rfl,hu⟩;have KX:=lH (NE (gc:=gc) (n:=n1) (hbc.bl bH) (hv.up bH) hu);have cH:=lH (HW.o.trans ((bC.tm bH).mono HW.o.size));have DL:=lH (tP (w:=w2) (gc:=gc) (n:=n1) (u:=u));have zZ:Hid (wa.heap.size<=gc/\gc<w2.heap.size):=lH ⟨hgc,jE hbc.lt bH.size⟩;have nO:Hid (wa.heap.size<=w2.heap.size):=lH (cO bC.size bH.size);have hz:Below wa.heap.size wa w2:=bC.tm bH;replace P0:=lH (P0.o.bl hz);replace P1:=lH (P1.o.bl hz);replace P2:=lH (P2.o.bl hz);replace P3:=lH (P3.o.bl hz);clear bC bH hgc hbc hv hu hz b0 bl
 go_upto_region 2 with fail
 unfold mkF at KX DL;generalize EM:w2.alloc (.cells #[.slice (some ⟨gc,0,none⟩) n1 n1,.bool u.b1,.slice u.A u.n u.c,.bool u.b2,.slice u.A2 u.m u.d] 117)=wb at *;clear EM;have AQ:=lH (cH.o.tm DL.o);have EV:Hid (aDk wb wa.heap.size (w.heap.size+1) g ⟨A0,n0,c0,A1,n1,c1,A2,n2,c2,A3,n3,c3,A4,n4,c4,A5,n5,c5,A6,n6,c6⟩ y x w2.heap.size gc):=lH ⟨nO.o,zZ.o.1,by have:=dZ.o;omega,by have:=dZ.o;have:=HG.o.lt;omega,by have:=DL.o.size;have:=nO.o;omega,P1.o.bl DL.o,HG.o.bl AQ.o,(HR.o.below AQ.o lR).more (by have:=dZ.o;omega)⟩;replace P0:=lH (P0.o.bl DL.o);replace P2:=lH (P2.o.bl DL.o);replace P3:=lH (P3.o.bl DL.o);generalize IB:w2.heap.size=gf at *;have mD:Hid (wa.heap.size<=gf):=lH (by have:=nO.o;omega);clear IB DL cH P1 nO HG;obtain⟨k0,kl⟩:=P2.o.b1
 go_upto_if 19 with fail
 clear k0 kl;obtain⟨D0,r0,s0,D1,r1,s1,D2,r2,s2,D3,r3,s3,D4,r4,s4,D5,r5,s5⟩:=h;by_cases hk:kind=0
 ·subst hk
  have QY:=H0.o rfl;rcases oE x name with⟨h1,_⟩ | ⟨i,b,h1,h2,h3⟩
  ·exact absurd (show 0<=lL x name from QY) (by omega)
  clear QY h3;have HBI:=lH h1;have qA:=lH h2;clear h1 h2;obtain⟨y0,y1,y2,y3,y4,y5,nf,nlt⟩:=aW P0.o;dsimp only at y0 y1 y2 y3 y4 y5;have k1:=P2.o.cell 1;have kl:=P2.o.lt;(go_wp2_with fail);refine(wV _ x name wb (HX.o.up AQ.o)).mono ?_;rintro e w5 ⟨rfl,fD⟩;rw[HBI.o];(go_wp2_with fail);refine(o9 (s:=(jN n1,0)) (EV.out.oth (fH fD)) (KX.o.up fD) (IN n1) (by decide) fC.o.symm h8 bU.o qA.o false).mono ?_;rintro e w6 ⟨rfl,ho,vs2,u2,hf⟩;have HO:Hid (CY gf gc wb w6):=lH ((fH fD).trans ho);have HF:=lH hf;clear fD ho hf k1 kl;clear y0 y1 y2 y3 y4 y5 nf nlt;have L6:Hid (aS x ⟨0,name,txt,wt⟩=(lP (sg false (cP b)) (aD x b.fr) (aD x b.to) (jN n1),0+sg false (eS b))):=lH (by
   obtain⟨a1,a2,a3,a4⟩:=kM qA.o;unfold aS;rw[if_pos rfl];simp only[HBI.o,jF,fC.o,dN,vf,a1,a2,a3,a4];rfl)
  have l8:Hid ((lP (sg false (cP b)) (aD x b.fr) (aD x b.to) (jN n1)).length=n1):=lH (by rw[gG];simp[jN]);have HL:Hid (Below w.heap.size w w6):=lH (AQ.o.trans (HO.o.below (by have:=dZ.o;have:=mD.o;omega) (by have:=dZ.o;have:=zZ.o.1;omega) AQ.o.size));have P3b:Hid (aG w6 (w.heap.size+1+1+1) 117 #[.slice none 0 0,.bool false,.slice none 0 0,.bool false,.slice none 0 0]):=lH (HO.o.blk P3.o (by have:=dZ.o;have:=mD.o;omega) (by have:=dZ.o;have:=zZ.o.1;omega));have HPC:Hid (gc≠w.heap.size+1+1+1):=lH (by have:=dZ.o;have:=zZ.o.1;omega);obtain⟨q0,q1,q2,q3,q4⟩:=HF.o.blk.a5;rw[l8.o] at q0;obtain⟨z0,z1,z2,z3,z4,zf,zl⟩:=P3b.o.e5;have ql:=HF.o.blk.lt;(go_wp2_with fail);have HPB:=lH (m6 (gc:=gc) (n:=n1) (u:=u2) P3b.o);clear q0 z0 q1 z1 q2 z2 q3 z3 q4 z4 ql zl zf;obtain⟨p0,p1,p2,p3,p4⟩:=HPB.o.a5;unfold put5 at p0 p1 p2 p3 p4;refine bodyPost_ret (v:=.agg #[.slice (some ⟨gc,0,none⟩) n1 n1,.bool u2.b1,.slice u2.A u2.n u2.c,.bool u2.b2,.slice u2.A2 u2.m u2.d]) (by simp[results,Tryz.results63,go_sem,p0,p1,p2,p3,p4]) rfl ?_;refine⟨jD (gc:=gc) (n:=n1) (u:=u2) HL.o (by omega),gc,u2,by rw[fC.o],(by have:=dZ.o;have:=zZ.o.1;omega),?_,?_⟩
  ·have h:=HF.o.vb P3b.o HPC.o (n:=n1) (y:=u2)
   rw[L6.o];exact⟨_,h⟩
  ·rw[L6.o]
   exact HF.o.val.keep5 P3b.o (gc:=gc) (n:=n1) (u:=u2)
 ·have hkB:(kind == 0)=false:=by simp[hk]
  rw[hkB];have hm:=H1.o hk;obtain⟨ha1,ha2,ha3⟩:=bG bU.o hm;obtain⟨LO,IA⟩:=tB hm;have HA:Hid (∀N,Calls Tryz.prog 91 #[.slice D0 r0 s0,.string name] (wb.drewN N) fun e w'=>e=.returned (.int .i64 (dE x.nodes name:Int))/\w'=wb.drewN N):=lH fun N=>by
   have hx:=HX.o.up (bD AQ.o N);exact(k_ _ _ s0 x.nodes name _ hx.r0 hx.m0).mono fun e w' ⟨he,hw⟩=>⟨by rw[he,LO],hw.symm⟩
  have HBN:Hid (aD x name<n1):=lH (by rw[<-fC.o];exact ha2);have gN:=EV.out.rd.r0;simp only at gN;have O7:=gN.2 (by have:=gN.len;omega);obtain⟨tb,to2,hA,UW,-⟩:=O7;subst hA;have f0:=gN.at_ (i:=dE x.nodes name) (z:=(aD x name:Int)) (by rw[dN] at ha1;rw[iB ha3] at ha1 ⊢;simpa using ha1);have DH:((dE x.nodes name:Nat):Int)<(n0:Int):=by have:=gN.len;omega
  have kA:(0:Int)<=((dE x.nodes name:Nat):Int):=by omega
  have kT:((dE x.nodes name:Nat):Int).toNat=dE x.nodes name:=jF _;have LM:tb<wb.heap.size:=jE UW EV.out.hs;obtain⟨y0,y1,y2,y3,y4,y5,nf,nlt⟩:=aW P0.o;dsimp only at y0 y1 y2 y3 y4 y5;obtain⟨k0,k1,kl⟩:=P2.o.b2;obtain⟨b0,bl⟩:=EV.out.box.b1;have g0:wb.cell? ⟨g,0,none⟩=some (.slice (some ⟨tb,to2,none⟩) n0 c0):=EV.out.md.cell 0;have gl:=EV.out.md.lt;clear LO IA ha1 ha2 ha3 hm gN UW;generalize dE x.nodes name=ia at *;generalize hK:aD x name=bus at *;have aHT:=lH hK;clear hK;(go_wp2_with fail)
  go_quiet ((go_at_call_of 91 (Value.string name);exact(HA.o _).mono (fun _ _ hh=>⟨hh.1,_,hh.2⟩)))
  have hd:=bD (Below.refl wb.heap.size wb) nq;replace EV:=lH (EV.out.oth (fH hd));replace KX:=lH (KX.o.up hd);replace P2:=lH (P2.o.bl hd);replace P3:=lH (P3.o.bl hd);replace AQ:=lH (bD AQ.o nq);clear y0 y1 y2 y3 y4 y5 nf nlt;clear hd k0 k1 kl b0 bl g0 gl f0 HA DH kA kT LM hkB P0 HX;generalize wb.drewN nq=wd at *;obtain⟨k0,kl⟩:=P2.o.b1;have P8:Hid ((jN n1).length=n1):=lH (by simp[jN]);by_cases rV:kind=2
  ·subst rV
   obtain⟨xe,hx,c0,c1,c2',c3',hv,l1,f1⟩:=KX.o.elem (j:=bus) (by rw[P8.o];exact HBN.o);have GL:=lH hx;have q0:=KX.o.blk.cell 0;rw[P8.o] at q0;have ql:=KX.o.blk.lt;have uI:(bus:Int)<(n1:Int):=by have:=HBN.o;omega
   have uJ:=lZ bus;have uH:=jF bus;have bM:=lH (aK (Below.refl wd.heap.size wd));clear hx hv;(go_upto_region 8 with fail);clear k0 kl;refine kX 5 (fun hHeld=>?_);simp only[nI,List.take_zero];refine cW [0,1,2] ?_;refine bQ 3 (fun K hK=>?_);go_simp;refine(qD 1 wd.drew (by decide) (by decide)).mono ?_;rintro e w8 ⟨gP,v8,rfl,h8⟩;have dR:Hid (Below wd.heap.size wd w8):=lH (bM.o.tm gP);have H8:Hid (dD w8 w8.heap.size 1 v8):=lH h8;clear gP h8;go_simp;refine gZ hK dR.o (fun hHeld=>?_);clear hK K;refine cW [4] ?_;refine eM ?_;clear hHeld;have uV:=lH (KX.o.up dR.o);have sK:Hid (CY gf gc wd w8):=lH (fH dR.o);clear c0 c1 c2' c3' l1 f1 q0 ql KX bM dR;obtain⟨c0,c1,c2',c3',l1,f1⟩:=uV.o.elem2 GL.o;(go_upto_region 9 with fail);clear c0 c1 c2' c3' l1 f1;have HF:=lH (uV.o.put (j:=bus) (by rw[P8.o];exact HBN.o) H8.o);have HO:Hid (CY gf gc wd (eO w8 gc bus v8)):=lH (sK.o.trans BZ);clear uV sK H8 GL uI uJ uH;simp only[eO] at HF HO;generalize (((w8.setCell ⟨gc,bus*4,none⟩ _).setCell ⟨gc,bus*4+1,none⟩ _).setCell ⟨gc,bus*4+2,none⟩ _).setCell ⟨gc,bus*4+3,none⟩ _=we at *;replace AQ:=lH AQ.o;have L6:Hid (aS x ⟨2,name,txt,wt⟩=((jN n1).set bus 1,0)):=lH (by unfold aS;rw[if_neg (show ¬(2:Int)=0 by decide),if_pos rfl,fC.o];simp only[aHT.o]);have l8:Hid (((jN n1).set bus 1).length=n1):=lH (by rw[lS];exact P8.o);have HL:Hid (Below w.heap.size w we):=lH (AQ.o.trans (HO.o.below (by have:=dZ.o;have:=mD.o;omega) (by have:=dZ.o;have:=zZ.o.1;omega) AQ.o.size));have P3b:Hid (aG we (w.heap.size+1+1+1) 117 #[.slice none 0 0,.bool false,.slice none 0 0,.bool false,.slice none 0 0]):=lH (HO.o.blk P3.o (by have:=dZ.o;have:=mD.o;omega) (by have:=dZ.o;have:=zZ.o.1;omega));have HPC:Hid (gc≠w.heap.size+1+1+1):=lH (by have:=dZ.o;have:=zZ.o.1;omega);obtain⟨q0,q1,q2,q3,q4⟩:=HF.o.blk.a5;rw[l8.o] at q0;obtain⟨z0,z1,z2,z3,z4,zf,zl⟩:=P3b.o.e5;have ql:=HF.o.blk.lt;(go_wp2_with fail);have HPB:=lH (m6 (gc:=gc) (n:=n1) (u:=u) P3b.o);clear q0 z0 q1 z1 q2 z2 q3 z3 q4 z4 ql zl zf;obtain⟨p0,p1,p2,p3,p4⟩:=HPB.o.a5;unfold put5 at p0 p1 p2 p3 p4;refine bodyPost_ret (v:=.agg #[.slice (some ⟨gc,0,none⟩) n1 n1,.bool u.b1,.slice u.A u.n u.c,.bool u.b2,.slice u.A2 u.m u.d]) (by simp[results,Tryz.results63,go_sem,p0,p1,p2,p3,p4]) rfl ?_;refine⟨jD (gc:=gc) (n:=n1) (u:=u) HL.o (by omega),gc,u,by rw[fC.o],(by have:=dZ.o;have:=zZ.o.1;omega),?_,?_⟩
   ·have h:=HF.o.vb P3b.o HPC.o (n:=n1) (y:=u)
    rw[L6.o];exact⟨_,h⟩
   ·rw[L6.o]
    exact HF.o.val.keep5 P3b.o (gc:=gc) (n:=n1) (u:=u)
  ·have aOh:(kind == 2)=false:=by simp[rV]
   obtain⟨b0,bl⟩:=EV.out.box.b1;have g4:wd.cell? ⟨g,4,none⟩=some (.slice A4 n4 c4):=EV.out.md.cell 4;have gl:=EV.out.md.lt;have L6:Hid (aS x ⟨kind,name,txt,wt⟩=nM bus (mB x) (mC x) (gV x) (CC x) (jN n1,0)):=lH (by unfold aS;rw[if_neg (show ¬kind=0 from hk),if_neg (show ¬kind=2 from rV),fC.o];simp only[aHT.o]);generalize hRR:nM bus (mB x) (mC x) (gV x) (CC x) (jN n1,0)=RR at *;have xN:=lH hRR;clear hRR;have mK:Hid (x.brs.length=n4):=lH (by rw[<-pF];exact EV.out.rd.r4.len);have iI:Hid (x.brs.length=n2):=lH (by rw[<-mQ,<-e_];exact EV.out.rd.r2.len);have tS:Hid (x.brs.length=n3):=lH (by rw[<-rQ,<-e_];exact EV.out.rd.r3.len);have hn4:n4<=24:=by have:=bU.o.l2;have:=mK.o;omega
   (go_wp2_with fail);clear k0 kl aOh b0 bl g4 gl
   go_loopw [53] (fun v53 wr=>∃(k:Nat)(vs:List Rv)(u2:Rv)(s:List Rat×Rat),k<=n4/\v53=.int .i64 k/\CY gf gc wd wr/\FC wr gf gc vs u2 s.1 s.2/\QL n1 (2+12*k) s/\nM bus ((mB x).drop k) ((mC x).drop k) ((gV x).drop k) ((CC x).drop k) s=RR) (fun v53 _=>n4-(intOf v53).toNat)
   case atStart=>exact⟨0,_,_,(jN n1,0),by omega,rfl,fH bR,KX.o,IN n1,xN.o⟩
   case round=>
    clear KX xN;obtain⟨k,vs,u2,s,hk,rfl,ho,hf,pY,pD⟩:=hrel;obtain⟨HO,HF,KV,kV⟩:=iK ho hf pY pD;clear ho hf pY pD;by_cases aU:k<n4
    ·obtain⟨b,hb⟩:∃b,x.brs[k]?=some b:=eA (by have:=mK.o;omega)
     have qA:=lH hb;obtain⟨a1,a2,a3,a4⟩:=kM hb;have gQ:=lH ((JQ (s:=s) (bus:=bus) a3 a4 a1 a2).symm.trans kV.o);have Y4:=lH a1;have HTO:=lH a2;clear hb a1 a2 a3 a4 kV;have fY:(k:Int)<(n4:Int):=by omega
     have aSM:(k:Int)<(n2:Int):=by have:=iI.o;have:=mK.o;omega
     have aSL:(k:Int)<(n3:Int):=by have:=tS.o;have:=mK.o;omega
     have lB:=lZ k;have rJ:=jF k;have l9:=lN k;have jV:Hid (n4-(k+1)<n4-k):=lH (by omega);have U3:Hid (2+12*k+6<=1000000):=lH (by omega);generalize GH:aD x b.fr=bu at *;generalize K9:aD x b.to=bv at *;have UN:=lH GH;have FB:=lH K9;clear GH K9;have HE:=lH (EV.out.oth HO.o);have tD:=HE.o.rd.r2;simp only at tD;have AJ:=tD.2 (by have:=iI.o;have:=mK.o;omega);obtain⟨fb2,fo2,hA,qU,-⟩:=AJ;subst hA;have f0:=tD.at_ (fS Y4.o);have uK:fb2<wr.heap.size:=jE qU HE.o.hs;obtain⟨b0,bl⟩:=HE.o.box.b1;have g0:wr.cell? ⟨g,2,none⟩=some (.slice (some ⟨fb2,fo2,none⟩) n2 c2):=HE.o.md.cell 2;have gl:=HE.o.md.lt;clear tD qU;unfold i_ at gQ;dsimp only at gQ;by_cases hu:bu=bus
     ·have huB:((bu:Int) == (bus:Int))=true:=by simp[hu]
      rw[if_pos hu] at gQ;(go_wp2_with fail);refine(o9 (s:=s) HE.o HF.o KV.o (by have:=U3.o;omega) fC.o.symm h8 bU.o qA.o false).mono ?_;rintro e w7 ⟨rfl,ho7,vs7,u7,hf7⟩;rw[UN.o,FB.o] at hf7;replace KV:=lH (pS bU.o (s:=s) KV.o fC.o.symm qA.o false);rw[UN.o,FB.o] at KV;replace HO:=lH (HO.o.trans ho7);replace HF:=lH hf7;clear ho7 hf7 huB;clear f0 uK b0 bl g0 gl HE;have HE:=lH (EV.out.oth HO.o);have tD:=HE.o.rd.r3;simp only at tD;have AJ:=tD.2 (by have:=tS.o;have:=mK.o;omega);obtain⟨fb3,fo3,hA,qU,-⟩:=AJ;subst hA;have f0:=tD.at_ (fS HTO.o);have uK:fb3<w7.heap.size:=jE qU HE.o.hs;obtain⟨b0,bl⟩:=HE.o.box.b1;have g0:w7.cell? ⟨g,3,none⟩=some (.slice (some ⟨fb3,fo3,none⟩) n3 c3):=HE.o.md.cell 3;have gl:=HE.o.md.lt;clear tD qU;by_cases hv:bv=bus
      ·have hvB:((bv:Int) == (bus:Int))=true:=by simp[hv]
       (go_wp2_with fail);refine(o9 (s:=(lP (sg false (cP b)) bu bv s.1,s.2+sg false (eS b))) HE.o HF.o KV.o (by have:=U3.o;omega) fC.o.symm h8 bU.o qA.o true).mono ?_;rintro e w9 ⟨rfl,ho9,vs9,u9,QV⟩;rw[UN.o,FB.o] at QV;have KU:=lH (pS bU.o (s:=(lP (sg false (cP b)) bu bv s.1,s.2+sg false (eS b))) KV.o fC.o.symm qA.o true);rw[UN.o,FB.o] at KU;have E7:=lH (HO.o.trans ho9);have Y6:=lH QV;clear ho9 QV f0 uK b0 bl g0 gl;rw[if_pos hv] at gQ;(go_wp2_with fail);go_roundw
       case rel=>exact⟨k+1,_,_,_,aU,aO l9.o,E7.o,Y6.o,KU.o.mono (by omega),gQ.o⟩
       case measure=>exact jV.o
      ·have hvB:((bv:Int) == (bus:Int))=false:=by simp;omega
       rw[if_neg hv] at gQ;(go_wp2_with fail);go_roundw
       case rel=>exact⟨k+1,_,_,_,aU,aO l9.o,HO.o,HF.o,KV.o.mono (by omega),gQ.o⟩
       case measure=>exact jV.o
     ·have huB:((bu:Int) == (bus:Int))=false:=by simp;omega
      rw[if_neg hu] at gQ;(go_upto_region 15 with fail);clear huB;clear f0 uK b0 bl g0 gl HE;have HE:=lH (EV.out.oth HO.o);have tD:=HE.o.rd.r3;simp only at tD;have AJ:=tD.2 (by have:=tS.o;have:=mK.o;omega);obtain⟨fb3,fo3,hA,qU,-⟩:=AJ;subst hA;have f0:=tD.at_ (fS HTO.o);have uK:fb3<wr.heap.size:=jE qU HE.o.hs;obtain⟨b0,bl⟩:=HE.o.box.b1;have g0:wr.cell? ⟨g,3,none⟩=some (.slice (some ⟨fb3,fo3,none⟩) n3 c3):=HE.o.md.cell 3;have gl:=HE.o.md.lt;clear tD qU;by_cases hv:bv=bus
      ·have hvB:((bv:Int) == (bus:Int))=true:=by simp[hv]
       (go_wp2_with fail);refine(o9 (s:=s) HE.o HF.o KV.o (by have:=U3.o;omega) fC.o.symm h8 bU.o qA.o true).mono ?_;rintro e w9 ⟨rfl,ho9,vs9,u9,QV⟩;rw[UN.o,FB.o] at QV;have KU:=lH (pS bU.o (s:=s) KV.o fC.o.symm qA.o true);rw[UN.o,FB.o] at KU;have E7:=lH (HO.o.trans ho9);have Y6:=lH QV;clear ho9 QV f0 uK b0 bl g0 gl;rw[if_pos hv] at gQ;(go_wp2_with fail);go_roundw
       case rel=>exact⟨k+1,_,_,_,aU,aO l9.o,E7.o,Y6.o,KU.o.mono (by omega),gQ.o⟩
       case measure=>exact jV.o
      ·have hvB:((bv:Int) == (bus:Int))=false:=by simp;omega
       rw[if_neg hv] at gQ;(go_wp2_with fail);go_roundw
       case rel=>exact⟨k+1,_,_,_,aU,aO l9.o,HO.o,HF.o,KV.o.mono (by omega),gQ.o⟩
       case measure=>exact jV.o
    ·have nH:k=n4:=by omega
     have HS:Hid (s=RR):=lH (by have h:=kV.o;rw[List.drop_eq_nil_of_le (by rw[pF];have:=mK.o;omega)] at h;exact h);have l8:Hid (s.1.length=n1):=lH KV.o.len;replace L6:Hid (aS x ⟨kind,name,txt,wt⟩=(s.1,s.2)):=lH (by rw[L6.o,<-HS.o]);have fY:¬(k:Int)<(n4:Int):=by omega
     clear kV HS nH aU hk;have HL:Hid (Below w.heap.size w wr):=lH (AQ.o.trans (HO.o.below (by have:=dZ.o;have:=mD.o;omega) (by have:=dZ.o;have:=zZ.o.1;omega) AQ.o.size));have P3b:Hid (aG wr (w.heap.size+1+1+1) 117 #[.slice none 0 0,.bool false,.slice none 0 0,.bool false,.slice none 0 0]):=lH (HO.o.blk P3.o (by have:=dZ.o;have:=mD.o;omega) (by have:=dZ.o;have:=zZ.o.1;omega));have HPC:Hid (gc≠w.heap.size+1+1+1):=lH (by have:=dZ.o;have:=zZ.o.1;omega);obtain⟨q0,q1,q2,q3,q4⟩:=HF.o.blk.a5;rw[l8.o] at q0;obtain⟨z0,z1,z2,z3,z4,zf,zl⟩:=P3b.o.e5;have ql:=HF.o.blk.lt;(go_wp2_with fail);have HPB:=lH (m6 (gc:=gc) (n:=n1) (u:=u2) P3b.o);clear q0 z0 q1 z1 q2 z2 q3 z3 q4 z4 ql zl zf;obtain⟨p0,p1,p2,p3,p4⟩:=HPB.o.a5;unfold put5 at p0 p1 p2 p3 p4;refine bodyPost_ret (v:=.agg #[.slice (some ⟨gc,0,none⟩) n1 n1,.bool u2.b1,.slice u2.A u2.n u2.c,.bool u2.b2,.slice u2.A2 u2.m u2.d]) (by simp[results,Tryz.results63,go_sem,p0,p1,p2,p3,p4]) rfl ?_;refine⟨jD (gc:=gc) (n:=n1) (u:=u2) HL.o (by omega),gc,u2,by rw[fC.o],(by have:=dZ.o;have:=zZ.o.1;omega),?_,?_⟩
     ·have h:=HF.o.vb P3b.o HPC.o (n:=n1) (y:=u2)
      rw[L6.o];exact⟨_,h⟩
     ·rw[L6.o]
      exact HF.o.val.keep5 P3b.o (gc:=gc) (n:=n1) (u:=u2)
section
variable {w w':Wo} {gc gz:Nat} {vs us:List Rv} {q p:List Rat}
end
theorem aB7:(Tryz.prog.info? 117).map (fun i=>(i.zero,i.size,i.bytes))=some (some (.agg #[.slice none 0 0,.bool false,.slice none 0 0,.bool false,.slice none 0 0]),5,88):=by kernel_rfl
theorem TC(w:Wo)(base n:Nat):gI w base n (.slice none 0 0) [] []:=⟨eQ _ _ _ _ _,rfl,fun i h q hh=>by simp at hh⟩
theorem IQ{ops:Array Oper}{rest:List Oper}{o:Oper}{a:Act}{Q:Exit->Act->World->Prop}{w:Wo}{T:TypeId}(AK:o.guard=none)(s x:Operand)(t:TypeId)(ho:o.op=.call { callee:=.builtin .append,args:=#[s,x],argTypes:=#[t,t] })(base n:Nat)(ht:Tryz.prog.underlying t=some (.slice 117))(v:Value)(fs:List Fh)(ps:List (List Rat×Rat))(hs:a.eval s=v)(bB:gI w base n v fs ps)(gc:Nat)(u:Rv)(p:List Rat×Rat)(hp:base<=gc/\p.1.length=n/\(∃vs,Vb w gc vs p.1)/\dD w w.heap.size p.2 u)(hx:a.eval x=.slice (some ⟨w.heap.size,0,none⟩) 1 1)(xC:ps.length<=1000000)(cS:base<=w.heap.size)(h:∀v' w' fs',gI w' base n v' fs' (ps++[p])->d8 rF base 117 (w.alloc (.cells #[.slice (some ⟨gc,0,none⟩) n n,.bool u.b1,.slice u.A u.n u.c,.bool u.b2,.slice u.A2 u.m u.d] T)) w'->(∀(g t:Nat)(cs:Array Value),v.ownBlock≠some g->aG w g t cs->aG w' g t cs)->wpList Tryz.prog ops Q rest (a.put o.dst v') w'):wpList Tryz.prog ops Q (o::rest) a (w.alloc (.cells #[.slice (some ⟨gc,0,none⟩) n n,.bool u.b1,.slice u.A u.n u.c,.bool u.b2,.slice u.A2 u.m u.d] T)):=by
 obtain⟨i0,kA,rU,jR,kS⟩:=info_parts aB7;have hl:=bB.len;have hb:=jT w (.cells #[.slice (some ⟨gc,0,none⟩) n n,.bool u.b1,.slice u.A u.n u.c,.bool u.b2,.slice u.A2 u.m u.d] T);refine wpList_plain AK fun K hK=>?_;refine tY (S:=rF) s x t ho base 117 i0 _ 5 88 ht kA rU jR kS rfl (by omega) (fun y hu=>?_) v fs.length (fs.flatMap (Fh.cells n)) hs (bB.own.keep hb) w.heap.size T #[.slice (some ⟨gc,0,none⟩) n n,.bool u.b1,.slice u.A u.n u.c,.bool u.b2,.slice u.A2 u.m u.d] hx (aG.new w T _) rfl (fun y hu=>?_) (by simp only[maxLen];omega) (by omega) (cO cS hb.size) fun v' w' h1 h2 _ h4=>?_
 ·have SU:y∈[Value.slice none 0 0,.bool false,.slice none 0 0,.bool false,.slice none 0 0]:=hu
  simp only[List.mem_cons,List.not_mem_nil,or_false] at SU;rcases SU with rfl | rfl | rfl | rfl | rfl<;>exact fun k x h=>by cases h
 ·have SU:y∈[Value.slice (some ⟨gc,0,none⟩) n n,.bool u.b1,.slice u.A u.n u.c,.bool u.b2,.slice u.A2 u.m u.d]:=hu
  simp only[List.mem_cons,List.not_mem_nil,or_false] at SU;rcases SU with rfl | rfl | rfl | rfl | rfl<;>exact⟨rfl,fun k x h=>by cases h⟩
 ·obtain⟨e1,e2,⟨vs,e3⟩,e4⟩:=hp
  refine hK _ _ (h v' w' (fs++[⟨gc,u⟩]) (gI.app (bB.keep hb) (f:=⟨gc,u⟩) ⟨e1,e2,⟨vs,e3.up hb⟩,e4.up hb⟩ h1 h2) h2 fun g t cs hg zW=>?_);have aGi:=zW.bl hb;exact(h4 g aGi.lt hg).trans aGi
end
