import Derived.Test.YthgdchffeigkbaaGreatDoorV31
import Derived.Test.YthgdchffeigkbaaGreatDoorV34
set_option linter.unusedVariables false
set_option linter.unusedSimpArgs false
namespace Go.Proofs.YthgdchffeigkbaaGreatDoor
set_option maxHeartbeats 8000000
set_option maxRecDepth 100000
variable {A1 A2 A3 A4 p : OA} {F : List Nat} {c1 c2 c3 c4 g gp i n1 n2 n3 n4 t : Nat} {cs : Array Value} {ms : List Mi} {w w' : World} {x : bO} {y : Value}
section
open Go.ChangeShapes Go.WideShapes Go.ChangeAt Go.RowKit
theorem aEk(h:aG w g t cs)(hy:cs[i]?=some y):w.setCell ⟨g,i,none⟩ y=w:=by
 have e:w.heap.modify g (fun | .cells c elem frozen=>.cells (c.setIfInBounds i y) elem frozen | o=>o)=w.heap:=by
  apply Array.ext_getElem?;intro j;rw[Array.getElem?_modify];split
  ·rename_i hj
   subst hj;unfold aG at h;rw[h];simp only[Option.map_some];congr 2
   apply Array.ext_getElem?;intro k;rw[Array.getElem?_setIfInBounds];split
   ·rename_i hk
    subst hk;have:=(Array.getElem?_eq_some_iff.1 hy).1;rw[if_pos this,hy]
   ·rfl
  ·rfl
 have e2:w.setCell ⟨g,i,none⟩ y={ w with heap:=w.heap.modify g (fun | .cells c elem frozen=>.cells (c.setIfInBounds i y) elem frozen | o=>o) }:=rfl;rw[e2,e]
theorem aBw{z:Value}(h:aG w g t cs):(w.setCell ⟨g,i,none⟩ y).setCell ⟨g,i,none⟩ z=w.setCell ⟨g,i,none⟩ z:=by
 have e:(w.heap.modify g (fun | .cells c elem frozen=>.cells (c.setIfInBounds i y) elem frozen | o=>o)).modify g (fun | .cells c elem frozen=>.cells (c.setIfInBounds i z) elem frozen | o=>o)=w.heap.modify g (fun | .cells c elem frozen=>.cells (c.setIfInBounds i z) elem frozen | o=>o):=by
  apply Array.ext_getElem?;intro j;rw[Array.getElem?_modify,Array.getElem?_modify,Array.getElem?_modify];split
  ·rename_i hj
   subst hj;unfold aG at h;rw[h];simp only[Option.map_some];congr 2
   apply Array.ext_getElem?;intro k;rw[Array.getElem?_setIfInBounds,Array.getElem?_setIfInBounds,Array.getElem?_setIfInBounds,Array.size_setIfInBounds];split<;>rfl
  ·rfl
 have e1:w.setCell ⟨g,i,none⟩ z={ w with heap:=w.heap.modify g (fun | .cells c elem frozen=>.cells (c.setIfInBounds i z) elem frozen | o=>o) }:=rfl;have e2:(w.setCell ⟨g,i,none⟩ y).setCell ⟨g,i,none⟩ z={ w with heap:=(w.heap.modify g (fun | .cells c elem frozen=>.cells (c.setIfInBounds i y) elem frozen | o=>o)).modify g (fun | .cells c elem frozen=>.cells (c.setIfInBounds i z) elem frozen | o=>o) }:=rfl;rw[e1,e2,e]
theorem aM4{z:Value}(h:aG w g t cs)(hy:cs[i]?=some y):(w.setCell ⟨g,i,none⟩ z).setCell ⟨g,i,none⟩ y=w:=by
 rw[aBw h,aEk h hy]
section
variable {w:Wo} {gc g T i n base:Nat} {vs:List Rv} {q:List Rat} {cs:Array Value} {y u v:Value} {fs:List Fh} {ps:List (List Rat×Rat)}
theorem Vb.keepF(f:Vb w gc vs q)(hb:aG w g T cs)(ht:115≠T)(hy:cs[i]?=some y)(hn:xM y):Vb (w.setCell ⟨g,i,none⟩ u) gc vs q:=by
 obtain⟨cs',h1,h2⟩:=f.row;exact⟨⟨cs',h1.far (h1.apart hb ht) u,h2⟩,f.len,fun j t v ht hv=>(f.ok j t v ht hv).keep1 hb hy hn u⟩
theorem gI.keepF(m:gI w base n v fs ps)(hb:aG w g T cs)(h1:115≠T)(h2:117≠T)(hy:cs[i]?=some y)(hn:xM y):gI (w.setCell ⟨g,i,none⟩ u) base n v fs ps:=
 ⟨m.own.far hb h2,m.len,fun j f p hf hp=>by
  obtain⟨a,b,⟨vs,c⟩,d⟩:=m.ok j f p hf hp;exact⟨a,b,⟨vs,c.keepF hb h1 hy hn⟩,d.keep1 hb hy hn u⟩⟩
end
theorem MR{a:Wo}{B:Nat}{row:Option Nat}(h:a.grownBy w row)(hb:Below B w w')(hB:a.heap.size<=B):a.grownBy w' row:=
 ⟨hb.os.trans h.os,hb.tape.trans h.tape,hb.output.trans h.output,cO h.size hb.size,fun i hi bX=>(hb.block i (jE hi hB)).trans (h.block i hi bX)⟩
theorem OT{a:Wo}{row:Option Nat}(h:a.grownBy w row)(hb:Below w.heap.size w w'):a.grownBy w' row:=MR h hb h.size
theorem Z3{a:Wo}(row:Option Nat)(h:Below a.heap.size a w):a.grownBy w row:=⟨h.os,h.tape,h.output,h.size,fun i hi _=>h.block i hi⟩
theorem aBT{a:Wo}{gz j:Nat}{x:Rv}(h:a.grownBy w (some g))(hz:a.heap.size<=gz):a.grownBy (eO w gz j x) (some g):=
 gU (gU (gU (gU h (.inr hz) _) (.inr hz) _) (.inr hz) _) (.inr hz) _
theorem N9{w0:Wo}{gf:Nat}{cs0:Array Value}(ha:aG w0 gf 95 cs0)(hb:aG w gf 95 cs)(hy:cs[i]?=some y)(JV:cs.setIfInBounds i (.slice none 0 0)=cs0)(hn:NoB cs0)(hg:w0.grownBy w (some gf)):UnM gf w0 w:=by
 have h0:aG (w.setCell ⟨gf,i,none⟩ (.slice none 0 0)) gf 95 cs0:=hb.set_at _ JV;have hm:Below w0.heap.size w0 (w.setCell ⟨gf,i,none⟩ (.slice none 0 0)):=⟨hg.os,hg.tape,hg.output,by simpa[World.setCell] using hg.size,fun k hk=>by
  by_cases e:k=gf
  ·subst e
   exact h0.trans ha.symm
  ·exact(Below.heap_setCell w _ _ k e).trans (hg.block k hk (fun e2=>e (by injection e2)))⟩
 have h1:cs0[i]?=some (.slice none 0 0):=by
  rw[<-JV,Array.getElem?_setIfInBounds,if_pos rfl,if_pos (Array.getElem?_eq_some_iff.1 hy).1]
 have e:(w.setCell ⟨gf,i,none⟩ (.slice none 0 0)).setCell ⟨gf,i,none⟩ y=w:=aM4 hb hy;refine⟨fun h=>?_,fun h hA=>?_,fun h=>?_,fun h=>?_,fun h=>?_⟩
 ·have:=(h.keep hm).keepF (u:=y) h0 (by decide) (by decide) h1 iL
  rwa[e] at this
 ·have:=(h.bm hm).keepB (u:=y) h0 hn h1 hA
  rwa[e] at this
 ·have:=(h.bm hm).keepB (u:=y) h0 hn h1
  rwa[e] at this
 ·have:=(h.keep hm).far (u:=y) h0 (by decide) (by decide) h1 iL
  rwa[e] at this
 ·have:=(h.up hm).keepF (u:=y) h0 (by decide) h1 iL
  rwa[e] at this
theorem xF:NoB #[.pointer p,.slice A1 n1 c1,.slice A2 n2 c2,.slice A3 n3 c3,.slice A4 n4 c4]:=fun i u h=>by
 have h2:=Array.mem_toList_iff.2 (Array.mem_of_getElem? h);simp only[List.mem_cons,List.not_mem_nil,or_false] at h2;rcases h2 with rfl | rfl | rfl | rfl | rfl<;>exact⟨fun b e=>(by cases e),fun k x e=>(by cases e)⟩
theorem CP:NoS #[.pointer p,.slice A1 n1 c1,.slice A2 n2 c2,.slice A3 n3 c3,.slice A4 n4 c4]:=fun i u h=>by
 have h2:=Array.mem_toList_iff.2 (Array.mem_of_getElem? h);simp only[List.mem_cons,List.not_mem_nil,or_false] at h2;rcases h2 with rfl | rfl | rfl | rfl | rfl<;>exact fun b e=>by cases e
theorem BF{u:Value}(hb:aG w gp 95 cs)(hn:NoB cs)(hs:NoS cs)(hy:cs[i]?=some y):UnP gp w (w.setCell ⟨gp,i,none⟩ u):=by
 refine⟨fun h hA=>h.keepB hb hn hy hA,fun h=>h.keepB hb hn hy,fun{A n l} h=>?_,fun{A n l} h=>?_,fun h ht=>h.far (h.apart hb ht) u⟩
 ·refine⟨h.1,fun h0=>?_⟩
  obtain⟨b,off,e,aU,hc⟩:=h.2 h0;have hbg:b≠gp:=by
   rintro rfl;obtain⟨z,hz⟩:∃z,l[0]?=some z:=eA (by rw[h.len];exact h0);have:=hc 0 (.int .i64 z) (by unfold ints;rw[iY,hz];rfl);rw[Nat.add_zero,hb.cell] at this;exact(hn _ _ this).2 _ _ rfl
  refine⟨b,off,e,by simpa[World.setCell] using aU,fun j v hv=>?_⟩;rw[World.cell?_setCell_other _ _ _ _ (fun e2=>hbg (by injection e2 with e2;exact e2.symm))];exact hc j v hv
 ·refine⟨h.1,h.2.1,fun h0=>?_⟩
  obtain⟨b,off,e,aU,hc⟩:=h.2.2 h0;have hbg:b≠gp:=by
   rintro rfl;obtain⟨z,hz⟩:∃z,l[0]?=some z:=eA (by rw[h.1];exact h0);have:=hc 0 (.string z) (by unfold fN;rw[iY,hz];rfl);rw[Nat.add_zero,hb.cell] at this;exact hs _ _ this _ rfl
  refine⟨b,off,e,by simpa[World.setCell] using aU,fun j v hv=>?_⟩;rw[World.cell?_setCell_other _ _ _ _ (fun e2=>hbg (by injection e2 with e2;exact e2.symm))];exact hc j v hv
theorem GT{p' B1 B2 B3 B4:OA}{k1 d1 k2 d2 k3 d3 k4 d4:Nat}(h:aG w gp 95 #[.pointer p,.slice A1 n1 c1,.slice A2 n2 c2,.slice A3 n3 c3,.slice A4 n4 c4]):UnP gp w (((((w.setCell ⟨gp,0,none⟩ (.pointer p')).setCell ⟨gp,1,none⟩ (.slice B1 k1 d1)).setCell ⟨gp,2,none⟩ (.slice B2 k2 d2)).setCell ⟨gp,3,none⟩ (.slice B3 k3 d3)).setCell ⟨gp,4,none⟩ (.slice B4 k4 d4)):=by
 have h1:aG (w.setCell ⟨gp,0,none⟩ (.pointer p')) gp 95 #[.pointer p',.slice A1 n1 c1,.slice A2 n2 c2,.slice A3 n3 c3,.slice A4 n4 c4]:=h.set_ 0 _;have h2:aG ((w.setCell ⟨gp,0,none⟩ (.pointer p')).setCell ⟨gp,1,none⟩ (.slice B1 k1 d1)) gp 95 #[.pointer p',.slice B1 k1 d1,.slice A2 n2 c2,.slice A3 n3 c3,.slice A4 n4 c4]:=h1.set_ 1 _;have h3:aG (((w.setCell ⟨gp,0,none⟩ (.pointer p')).setCell ⟨gp,1,none⟩ (.slice B1 k1 d1)).setCell ⟨gp,2,none⟩ (.slice B2 k2 d2)) gp 95 #[.pointer p',.slice B1 k1 d1,.slice B2 k2 d2,.slice A3 n3 c3,.slice A4 n4 c4]:=h2.set_ 2 _;have h4:aG ((((w.setCell ⟨gp,0,none⟩ (.pointer p')).setCell ⟨gp,1,none⟩ (.slice B1 k1 d1)).setCell ⟨gp,2,none⟩ (.slice B2 k2 d2)).setCell ⟨gp,3,none⟩ (.slice B3 k3 d3)) gp 95 #[.pointer p',.slice B1 k1 d1,.slice B2 k2 d2,.slice B3 k3 d3,.slice A4 n4 c4]:=h3.set_ 3 _;exact((((BF (i:=0) h xF CP rfl).trans (BF (i:=1) h1 xF CP rfl)).trans (BF (i:=2) h2 xF CP rfl)).trans (BF (i:=3) h3 xF CP rfl)).trans (BF (i:=4) h4 xF CP rfl)
theorem fB.unP{m:iU}(r:fB w w.heap.size m x)(u:UnP gp w w'):fB w' w'.heap.size m x:=⟨u.ints r.r0,u.ints r.r1,u.ints r.r2,u.ints r.r3,u.row r.r4,u.row r.r5,u.ints r.r6⟩
theorem aJr{c:Bool}{p q:Prop}(h:c=true)(hp:p):if c=true then p else q:=by rw[if_pos h];exact hp
theorem U_{o:Oper}{a:Act}{w:Wo}{K:Act->World->Prop}{Q:Exit->Act->World->Prop}(s x:Operand)(t:TypeId)(ho:o.op=.call { callee:=.builtin .append,args:=#[s,x],argTypes:=#[t,t] })(base:Nat)(ht:Tryz.prog.underlying t=some (.slice 93))(v:Value)(hs:List Hd)(O5:a.eval s=v)(bB:bK rF w base 93 1 v hs.length (hs.map Hd.val))(A:OA)(m c:Nat)(h2:List Hd)(hm:h2.length=m)(hx:a.eval x=.slice A m c)(hr:Rd w w.heap.size 1 A m (h2.map Hd.val))(xC:hs.length+m<=1000000000)(cS:base<=w.heap.size)(N:Nat)(hN:(hs++h2).length=N)(h:∀A' c' w',bK rF w' base 93 1 (.slice A' N c') (hs++h2).length ((hs++h2).map Hd.val)->Below base w w'->d8 rF base 93 w w'->K (a.put o.dst (.slice A' N c')) w'):o.wp Tryz.prog a w K Q:=by
 obtain⟨i0,kA,rU,jR,kS⟩:=info_parts Z9;subst hm;refine ZF (S:=rF) s x t ho base 93 i0 _ 1 24 ht kA rU jR kS rfl (by omega) (fun u hu=>?_) v hs.length (hs.map Hd.val) O5 bB A h2.length c (h2.map Hd.val) hx hr (aF9 h2) (by simp only[maxLen];omega) (by omega) cS fun v' w' k1 k2 _ _=>?_
 ·have SU:u∈[Value.slice none 0 0]:=hu
  rw[List.mem_singleton.1 SU];exact fun k x h=>by cases h
 ·rw[<-List.map_append,<-jW] at k1
  obtain⟨A',c',e,_⟩:=k1.shape;subst e;subst hN;exact h A' c' w' k1 k2.low k2
end
section
open Go.ChangeShapes Go.WideShapes Go.ChangeAt Go.RowKit
attribute [local go_sem ↓] aE
attribute [local go_sem] aJ aI aM aR
theorem tU.unP{B0:Nat}{fv:Value}(h:tU x ms B0 w fv)(u:UnP gp w w')(hg:gp<B0):tU x ms B0 w' fv:=by
 obtain⟨g,m,y,A,c,gi,ga,B,d,e,h0,h1,h2,h3,h4,h5,h6⟩:=h;exact⟨g,m,y,A,c,gi,ga,B,d,e,h0,u.blk h1 (by decide),h2.unP u,u.mat h3 (fun b off e=>by have:=h0.1 b off e;omega),u.mat h4 (fun b off e=>by injection e with e;injection e with e1 e2;have:=h0.2;omega),u.row h5,u.row h6⟩
def a1c(x:bO)(ms:List Mi)(w:Wo)(e:Ending)(w':Wo):Prop:=
 Below w.heap.size w w'/\((¬mX x ms/\∃(g:Nat)(A:OA)(c:Nat),e=.returned (.tuple #[.agg #[.pointer (some ⟨g,0,none⟩),.slice A ms.length c,.slice none 0 0,.slice none 0 0,.slice none 0 0],.bool false]))\/
  (mX x ms/\∃fv,e=.returned (.tuple #[fv,.bool true])/\tU x ms w.heap.size w' fv))
theorem PL(h:bY)(x:bO)(ok:bJ x)(h8:x.nodes.length<=8)(A:OA)(n c:Nat)(ms:List Mi)(w:Wo)(r:cQ w w.heap.size h x)(hm:fP w w.heap.size A n ms)(hn:n<=64)(pY:∀m∈ms,vW x m)(hv:∀m∈ms,cI m.txt.data.toList=0)(zR:∀m∈ms,1<=m.wt/\m.wt<=1000):Calls Tryz.prog 77 #[.agg h.cells,.slice A n c] w (a1c x ms w):=by
 have Q0:Below w.heap.size w ((w.alloc (.cells h.cells 29)).alloc (.cells #[.pointer none,.slice none 0 0,.slice none 0 0,.slice none 0 0,.slice none 0 0] 95)):=(bA).alloc (by simp) _;have HW:=lH Q0;have P0:=lH ((aG.new w 29 h.cells).alloc (.cells #[.pointer none,.slice none 0 0,.slice none 0 0,.slice none 0 0,.slice none 0 0] 95));have P4:Hid (aG ((w.alloc (.cells h.cells 29)).alloc (.cells #[.pointer none,.slice none 0 0,.slice none 0 0,.slice none 0 0,.slice none 0 0] 95)) (w.heap.size+1) 95 #[.pointer none,.slice none 0 0,.slice none 0 0,.slice none 0 0,.slice none 0 0]):=lH (aG.new_ (by simp));have HX:=lH (r.up Q0);have HM:=lH (hm.bm Q0);have LN:=hm.1;subst LN;obtain⟨bU,HMK,HV,YO⟩:=iK ok pY hv zR;have aKS:Hid (∀m∈ms,bI (yY x m)<=2600):=lH fun m hm=>by
  have h0:=nA bU.o (HMK.o m hm);have h1:=o0 (iD (HV.o m hm));have h2:=rM (gC m.txt) (aS x m).2;have h3:=h0.fr;have h4:=dV m.wt (by have:=YO.o m hm;omega) (by have:=YO.o m hm;omega);have h5:=eL (m.wt:Rat) (gC m.txt-(aS x m).2);unfold yY;omega
 clear Q0 hm r pY ok hv zR;obtain⟨D0,r0,s0,D1,r1,s1,D2,r2,s2,D3,r3,s3,D4,r4,s4,D5,r5,s5⟩:=h;go_enter Tryz.func77,Tryz.ntmps77
 go_upto_region 1 with fail
 have dZ:Hid (((w.alloc (.cells (bY.cells ⟨D0,r0,s0,D1,r1,s1,D2,r2,s2,D3,r3,s3,D4,r4,s4,D5,r5,s5⟩) 29)).alloc (.cells #[.pointer none,.slice none 0 0,.slice none 0 0,.slice none 0 0,.slice none 0 0] 95)).heap.size=w.heap.size+1+1):=lH (by simp);generalize (w.alloc (.cells (bY.cells ⟨D0,r0,s0,D1,r1,s1,D2,r2,s2,D3,r3,s3,D4,r4,s4,D5,r5,s5⟩) 29)).alloc (.cells #[.pointer none,.slice none 0 0,.slice none 0 0,.slice none 0 0,.slice none 0 0] 95)=W at *;obtain⟨y0,y1,y2,y3,y4,y5,nf,nlt⟩:=aW P0.o;dsimp only at y0 y1 y2 y3 y4 y5
 go_wp2_with fail
 refine(nX _ x bU.o h8 W HX.o).mono ?_;clear y0 y1 y2 y3 y4 y5 nf nlt;rintro e w2 ⟨bH,g,m,A7,n7,c7,rfl,hg,dC,rC,-⟩;obtain⟨cH,HG,HR⟩:=d_ bH dC rC;have E8:Hid ((aA x).length=m.n6):=lH (by rw[<-e_];exact rC.r6.len);have L5:=lH hg;clear bH hg dC rC
 go_upto_region 2 with fail
 generalize EM:w2.alloc (.cells #[.pointer (some ⟨g,0,none⟩),.slice none 0 0,.slice none 0 0,.slice none 0 0,.slice none 0 0] 95)=wb;have pE:Below w2.heap.size w2 wb:=by rw[<-EM];exact bA
 have HF:Hid (aG wb w2.heap.size 95 #[.pointer (some ⟨g,0,none⟩),.slice none 0 0,.slice none 0 0,.slice none 0 0,.slice none 0 0]):=lH (by rw[<-EM];exact aG.new w2 _ _);have HL:=lH pE;have sL:Hid (g<w2.heap.size):=lH HG.o.lt;have HWF:Hid (W.heap.size<=w2.heap.size):=lH cH.o.size;clear EM pE;generalize IB:w2.heap.size=gf at *;have mD:=lH IB;clear IB;have HLW:Hid (∀wr,Below gf w2 wr->Below W.heap.size W wr):=lH fun wr hb=>cH.o.trans (hb.mono HWF.o);have hO:=lH (HLW.o _ HL.o);have P0w:=P0.o.bl hO.o;obtain⟨y0,y1,y2,y3,y4,y5,nf,nlt⟩:=aW P0w;dsimp only at y0 y1 y2 y3 y4 y5;obtain⟨f0,f1,ff,fl⟩:=HF.o.e2;clear P0w
 go_wp2_with fail
 refine(WI _ x bU.o h8 g m (.slice A7 n7 c7) A ms.length c ms wb (HX.o.up hO.o) (HG.o.below HL.o sL.o) ((HR.o.below HL.o lR).more (pJ fl)) (HM.o.bm hO.o) hn HMK.o).mono ?_;clear y0 y1 y2 y3 y4 y5 nf nlt f0 f1 fl ff;rintro e w3 ⟨cN,RA,rc,rh,rb0,rfl,AX,hrs,hrc,hrm⟩;obtain⟨KW,F1,HRS,HRC⟩:=iK (HF.o.bl cN) (HL.o.trans (cN.mono (pJ HF.o.lt))) hrs hrc;have HRB:Hid (w.heap.size<=rb0):=lH (by have h1:=AX;have h2:=HF.o.lt;have h3:=HWF.o;have h4:=dZ.o;omega);clear cN AX hrs hrc hrm HF HL hO;obtain⟨f0,f1,ff,fl⟩:=KW.o.e2;have fC:Hid (aH x=m.n1):=lH (by rw[<-qQ bU.o];exact HR.o.r1.len);obtain⟨A0,n0,c0,A1,n1,c1,A2,n2,c2,A3,n3,c3,A4,n4,c4,A5,n5,c5,A6,n6,c6⟩:=m;dsimp only at E8 fC;have hn6:=E8.o;have hn1:=fC.o;subst hn6;subst hn1
 go_upto_region 3 with fail
 generalize K4:w3.setCell ⟨gf,1,none⟩ (.slice RA ms.length rc)=wc;have HF4:Hid (aG wc gf 95 #[.pointer (some ⟨g,0,none⟩),.slice RA ms.length rc,.slice none 0 0,.slice none 0 0,.slice none 0 0]):=lH (by rw[<-K4];exact KW.o.set_ 1 _);have YZ:Hid (Below gf w2 wc):=lH (by rw[<-K4];exact F1.o.setCell lR _);have aPo:Hid (iS wc rb0 (.slice RA ms.length rc) rh (aV x ms)):=lH (by rw[<-K4];exact HRS.o.far KW.o (by decide) (by decide) rfl iL);clear K4 KW F1 HRS f0 f1 fl ff;have HGc:=HG.o.below YZ.o sL.o;have g6:wc.cell? ⟨g,6,none⟩=some (.slice A6 (aA x).length c6):=HGc.cell 6;have gl:=HGc.lt;obtain⟨f0,f1,fl⟩:=HF4.o.b2;clear HGc;have hO:=lH (HLW.o _ YZ.o);have HRO:=lH (lV bU.o HMK.o);have HRM:Hid (lQ wc wc.heap.size RA ms.length (aV x ms)):=lH (by
  obtain⟨A',c',e,h,-⟩:=aPo.o.rd;injection e with e1 e2 e3;have hl:(aV x ms).length=ms.length:=by unfold aV;rw[jO]
  rw[hl] at h;rw[e1];exact h)
 have uV:Hid ((aA x).length<=8):=lH (fZ bU.o h8)
 go_wp2_with fail
 refine(aGq RA A ms.length rc c (aA x).length (aV x ms) ms wc HRM.o (HM.o.bm hO.o) HRO.o.1 HRO.o.2 YO.o uV.o hn).mono ?_;rintro e w5 ⟨fD,gg,G,rfl,hG,hGo,hGe⟩;have hE:=aJ2 hGo hGe;subst hE;obtain⟨HF5,HL5,aUl⟩:=d_ (HF4.o.below fD fl) (YZ.o.trans (fD.mono (pJ fl))) (aPo.o.keep fD);have kV:Hid (fM (aA x).length (3+606*ms.length) (dU (aA x).length (aV x ms) ms)):=lH (by
  have hl:(aV x ms).length=ms.length:=by unfold aV;rw[jO]
  rw[hl] at hGo;exact hGo)
 have Y1:=lH hG;have HZ4:Hid (4^(aA x).length*(3+606*ms.length)<=2600000000):=lH (by
  have h1:4^(aA x).length<=4^8:=Nat.pow_le_pow_right (by decide) uV.o;have h2:=Nat.mul_le_mul h1 (show 3+606*ms.length<=38787 by omega);omega)
 clear fD hG hGo hGe HF4 YZ aPo HRM hO f0 f1 fl g6 gl
 go_wp2_with fail
 refine(MX (some ⟨gg,0,none⟩) (aA x).length (aA x).length (3+606*ms.length) (dU (aA x).length (aV x ms) ms) w5 Y1.o (by have:=uV.o;omega) kV.o.wid kV.o.bd (by omega) (cO HZ4.o (by decide))).mono ?_;rintro e w6 ⟨fT,iO⟩;obtain⟨HF,HL,HRS⟩:=d_ (HF5.o.bl fT) (HL5.o.trans (fT.mono (pJ HF5.o.lt))) (aUl.o.keep fT);have a0N:Hid (gf<w5.heap.size):=lH HF5.o.lt;clear fT HF5 HL5 aUl Y1;rcases iO with⟨gY,rfl⟩ | ⟨gY,gi,he,hgi,S4⟩
 ·have HNR:Hid (¬mX x ms):=lH (fun h=>h gY)
  clear gY;obtain⟨f0,f1,f2,f3,f4,fl⟩:=HF.o.b5;have P6:=lH (P4.o.below (HLW.o _ HL.o) P4.o.lt);obtain⟨z0,z1,z2,z3,z4,zf,zl⟩:=P6.o.e5;(go_wp2_with fail);have hq:=rY (v0:=.pointer (some ⟨g,0,none⟩)) (v1:=.slice RA ms.length rc) (v2:=.slice none 0 0) (v3:=.slice none 0 0) (v4:=.slice none 0 0) P6.o;obtain⟨p0,p1,p2,p3,p4⟩:=hq.a5;exact bodyPost_ret (v:=.tuple #[.agg #[.pointer (some ⟨g,0,none⟩),.slice RA ms.length rc,.slice none 0 0,.slice none 0 0,.slice none 0 0],.bool false]) (by simp[results,Tryz.results77,go_sem,p0,p1,p2,p3,p4]) rfl ⟨mS (HW.o.trans ((HLW.o _ HL.o).mono (by have:=dZ.o;omega))) (Nat.le_succ _),.inl ⟨HNR.o,_,_,_,rfl⟩⟩
 ·have HER:Hid (mX x ms):=lH gY
  rw[cL] at he;subst he;have KS:Hid (lQ w6 w6.heap.size (some ⟨gi,0,none⟩) (aA x).length (mV (dU (aA x).length (aV x ms) ms))):=lH (by
   have h:=S4;rw[show(dU (aA x).length (aV x ms) ms).length=(aA x).length from cL] at h;unfold mV;rw[show(dU (aA x).length (aV x ms) ms).length=(aA x).length from cL];exact h)
  have HGI:Hid (gf<gi):=lH (by have:=a0N.o;omega);clear gY S4 hgi;have f0:=HF.o.cell 0;have fl:=HF.o.lt;have ff:=HF.o.frozen;have f2:=HF.o.cell 2;(go_upto_region 8 with fail);generalize K4:w6.setCell ⟨gf,2,none⟩ (.slice (some ⟨gi,0,none⟩) (aA x).length (aA x).length)=wA;have HFA:Hid (aG wA gf 95 #[.pointer (some ⟨g,0,none⟩),.slice RA ms.length rc,.slice (some ⟨gi,0,none⟩) (aA x).length (aA x).length,.slice none 0 0,.slice none 0 0]):=lH (by rw[<-K4];exact HF.o.set_ 2 _);have HLA:Hid (Below gf w2 wA):=lH (by rw[<-K4];exact HL.o.setCell lR _);have tR:Hid (iS wA rb0 (.slice RA ms.length rc) rh (aV x ms)):=lH (by rw[<-K4];exact HRS.o.far HF.o (by decide) (by decide) rfl iL);have HIA:Hid (lQ wA wA.heap.size (some ⟨gi,0,none⟩) (aA x).length (mV (dU (aA x).length (aV x ms) ms))):=lH (by
   rw[<-K4];exact KS.o.keepB HF.o CQ rfl (fun b off e=>by injection e with e;injection e with e1 e2;have:=HGI.o;omega))
  clear K4 HF HL HRS KS f0 fl ff f2;(go_wp2_with fail);refine(mL (aA x).length wA (by have:=uV.o;omega)).mono ?_;rintro e w7 ⟨iA,gz,vz,rfl,hgz,PE,hvz⟩;obtain⟨j_,yO,HGZ⟩:=d_ iA (N8 PE hvz) hgz;clear iA PE hvz hgz;(go_wp2_with fail);have HLQ:Hid (∀wr,Below wA.heap.size wA wr->Below gf w2 wr):=lH fun wr hb=>HLA.o.trans (hb.mono (pJ HFA.o.lt));have aPZ:Hid (gz<w7.heap.size):=lH yO.o.lt;have HA7:Hid (wA.heap.size<=w7.heap.size):=lH j_.o.size
  go_loopw [11,54] (fun v11 v54 wr=>∃(k:Nat)(fs:List Fh)(vs:List Rv),k<=ms.length/\v54=.int .i64 k/\gI wr w7.heap.size (aH x) v11 fs ((ms.map (aS x)).take k)/\Vb wr gz vs (mT (aA x).length x ms k)/\Below wA.heap.size wA wr/\w7.heap.size<=wr.heap.size) (fun _ v54 _=>ms.length-(intOf v54).toNat)
  case atStart=>exact⟨0,[],_,by omega,rfl,TC _ _ _,by rw[aBD];exact yO.o,j_.o,lR⟩
  case round=>
   clear yO j_;obtain⟨k,fs,vs,hk,rfl,hfs,hvb,hb,iV⟩:=hrel;obtain⟨HFS,yO,HB,HS7⟩:=iK hfs hvb hb iV;clear hfs hvb hb iV;by_cases aU:k<ms.length
   ·obtain⟨mi,mZ⟩:∃mi,ms[k]?=some mi:=⟨_,iB aU⟩
    have IK:Hid ((ms.map (aS x)).take (k+1)=(ms.map (aS x)).take k++[aS x mi]):=lH (fE (by rw[iY,mZ];rfl));have wB:=lH (HMK.o mi (bV mZ));have AU:=lH mZ;have hO:=lH (HLW.o _ (HLQ.o _ HB.o));have xA:=(HM.o.below hO.o lR).more hO.o.size;have aFY:=xA.2.2 (by omega);obtain⟨ab,ao,hA,jA,-⟩:=aFY;subst hA;obtain⟨a0,a1,a2,a3⟩:=xA.at_ mZ;have fY:(k:Int)<(ms.length:Int):=by omega
    have lB:=lZ k;have rJ:=jF k;have l9:=lN k;have jV:Hid (ms.length-(k+1)<ms.length-k):=lH (by omega);have a0p:Hid (∀q,u11.ownBlock=some q->q<wr.heap.size):=lH fun q hq=>(HFS.o.own.lt hq).2;clear mZ xA
    (go_upto_region 13 with fail);clear a0 a1 a2 a3 jA fY lB rJ;have hz:=jT wr (.cells #[.int .i64 mi.kind,.string mi.name,.string mi.txt,.int .i64 mi.wt] 57);have IM:=lH (aG.new wr 57 #[.int .i64 mi.kind,.string mi.name,.string mi.txt,.int .i64 mi.wt]);replace HFS:=lH (HFS.o.keep hz);replace yO:=lH (yO.o.up hz);replace HB:=lH (HB.o.tm hz);replace HS7:Hid (w7.heap.size<=wr.heap.size+1):=lH (Nat.le_succ_of_le HS7.o);have LX:Hid ((wr.alloc (.cells #[.int .i64 mi.kind,.string mi.name,.string mi.txt,.int .i64 mi.wt] 57)).heap.size=wr.heap.size+1):=lH (by simp);clear hz hO;generalize wr.alloc (.cells #[.int .i64 mi.kind,.string mi.name,.string mi.txt,.int .i64 mi.wt] 57)=wa at *;generalize hgm:wr.heap.size=gm at *;clear hgm;have hO:=lH (HLW.o _ (HLQ.o _ HB.o));have P0w:=P0.o.bl hO.o;obtain⟨y0,y1,y2,y3,y4,y5,nf,nlt⟩:=aW P0w;dsimp only at y0 y1 y2 y3 y4 y5;obtain⟨x0,x1,x2,x3,xl⟩:=IM.o.b4;have HFa:=lH (HFA.o.bl HB.o);obtain⟨f0,fl⟩:=HFa.o.b1;clear P0w;have HLR:=lH (HLQ.o _ HB.o);(go_wp2_with fail);refine(aCt _ x bU.o h8 g ⟨A0,n0,c0,A1,aH x,c1,A2,n2,c2,A3,n3,c3,A4,n4,c4,A5,n5,c5,A6,(aA x).length,c6⟩ (.slice A7 n7 c7) mi wa (HX.o.up hO.o) (HG.o.below HLR.o sL.o) ((HR.o.below HLR.o lR).more (by rw[<-mD.o];exact HLR.o.size)) wB.o.1 wB.o.2).mono ?_;rintro e w8 ⟨gP,gc,u,rfl,hgc,hvc,hu⟩;clear y0 y1 y2 y3 y4 y5 nf nlt x0 x1 x2 x3 xl f0 fl HFa hO HLR;obtain⟨Q6,aVc,HV8⟩:=d_ (nA bU.o wB.o) (HFS.o.keep gP) (yO.o.up gP);have dR:=bW HB gP;have tT:=lH (IM.o.bl gP);have HC8:Hid (w7.heap.size<=gc):=lH (by have:=HS7.o;have:=LX.o;omega);have YQ:=lH hvc;have HU:=lH hu;have HS8:Hid (w7.heap.size<=w8.heap.size):=lH (by have:=HS7.o;have:=LX.o;have:=gP.size;omega);have a7M:Hid (gm<wa.heap.size):=lH IM.o.lt;have kV:Hid (gm<w8.heap.size):=lH (jE IM.o.lt gP.size);have HOB:Hid (∀q,u11.ownBlock=some q->q<gm):=lH fun q hq=>a0p.o q hq;clear gP hgc hvc hu HFS yO HB IM HS7
    (go_upto_region 14 with fail);have hz:=jT w8 (.cells #[.slice (some ⟨gc,0,none⟩) (aH x) (aH x),.bool u.b1,.slice u.A u.n u.c,.bool u.b2,.slice u.A2 u.m u.d] 117);obtain⟨tX,Y6,HV9⟩:=d_ (aG.new w8 117 #[.slice (some ⟨gc,0,none⟩) (aH x) (aH x),.bool u.b1,.slice u.A u.n u.c,.bool u.b2,.slice u.A2 u.m u.d]) (aVc.o.keep hz) (HV8.o.up hz);have eV:=bW dR hz;have UJ:=lH (tT.o.bl hz);have HU9:=lH (HU.o.up hz);have HC9:Hid (∃vs,Vb (w8.alloc (.cells #[.slice (some ⟨gc,0,none⟩) (aH x) (aH x),.bool u.b1,.slice u.A u.n u.c,.bool u.b2,.slice u.A2 u.m u.d] 117)) gc vs (aS x mi).1):=lH (by obtain⟨vs,h⟩:=YQ.o;exact⟨vs,h.up hz⟩);have UF:Hid (w7.heap.size<=w8.heap.size+1):=lH (Nat.le_succ_of_le HS8.o);have aT_:Hid ((w8.alloc (.cells #[.slice (some ⟨gc,0,none⟩) (aH x) (aH x),.bool u.b1,.slice u.A u.n u.c,.bool u.b2,.slice u.A2 u.m u.d] 117)).heap.size=w8.heap.size+1):=lH (by simp);clear hz aVc HV8 dR tT HU YQ;generalize w8.alloc (.cells #[.slice (some ⟨gc,0,none⟩) (aH x) (aH x),.bool u.b1,.slice u.A u.n u.c,.bool u.b2,.slice u.A2 u.m u.d] 117)=w9 at *;generalize pD:w8.heap.size=go at *;clear pD;obtain⟨b0,b1,b2,b3,b4,bl⟩:=tX.o.b5;have HW9:Hid (w7.heap.size<=w9.heap.size):=lH (by rw[aT_.o];exact UF.o)
    go_wp2_with (at_builtin;refine IQ rfl (.tmp 64) (.tmp 66) _ rfl w7.heap.size (aH x) Tryz.underlying188 u11 fs _ rfl Y6.o gc u (aS x mi) ⟨HC8.o,Q6.o.len,HC9.o,HU9.o⟩ rfl ?k1 HW9.o ?_)
    case k1=>rw[kR];omega
    intro v' wb fs' hfs' GD hob;have nW:=jT w9 (.cells #[.slice (some ⟨gc,0,none⟩) (aH x) (aH x),.bool u.b1,.slice u.A u.n u.c,.bool u.b2,.slice u.A2 u.m u.d] 117);have aU_:=lH hfs';have aDb:=lH (hob go _ _ (fun e=>by have:=HOB.o _ e;have:=kV.o;omega) tX.o);have aKT:=lH (hob gm _ _ (fun e=>by have:=HOB.o _ e;omega) UJ.o);have HVb:=lH ((HV9.o.up nW).keeps GD (by decide));have HBb:=lH ((eV.o.tm nW).trans (GD.low.mono HA7.o));have HUb:=lH ((HU9.o.up nW).keeps GD);have HSb:Hid (w7.heap.size<=wb.heap.size):=lH (by have:=HW9.o;have:=nW.size;have:=GD.size;omega);clear nW hfs' GD hob b0 b1 b2 b3 b4 bl tX UJ HV9 eV HU9 HC9 Y6 UF aT_ HW9;(go_upto_region 15 with fail);have m2:=aKT.o.cell 2;have m3:=aKT.o.cell 3;have ml:=aKT.o.lt;have b1:=aDb.o.cell 1;have b2:=aDb.o.cell 2;have b3:=aDb.o.cell 3;have b4:=aDb.o.cell 4;have bl:=aDb.o.lt;obtain⟨bM,HWM,HVM⟩:=d_ (aK (Below.refl wb.heap.size wb)) (YO.o mi (bV AU.o)) (HV.o mi (bV AU.o));have zM:Hid (bI (gC mi.txt)<=2000):=lH (o0 (iD HVM.o));have vX:Hid (bI (gC mi.txt-(aS x mi).2)<=2400):=lH (by have h1:=rM (gC mi.txt) (aS x mi).2;have h2:=Q6.o.fr;have h3:=zM.o;omega);have HT3:Hid (bI (mi.wt:Rat)<=2):=lH (by have h3:=dV mi.wt (by have:=HWM.o;omega) (by have:=HWM.o;omega);omega);refine kX 11 (fun hHeld=>?_);simp only[nI,List.take_zero];refine cW [0,1,3,4,6,7] ?_;refine aEv (C:=fun s w'=>Below wb.heap.size wb w') (G:=fun w' w''=>Below w'.heap.size w' w'') [(2,YJ (mi.wt:Rat)),(5,YJ (gC mi.txt)),(8,YJ (gC mi.txt-(aS x mi).2)),(9,YJ (yY x mi)),(10,KI wb.heap.size 115 #[.bool false,.slice none 0 0,.bool false,.slice none 0 0])] rfl (by kernel_rfl) (List.forall_mem_cons.2 ⟨fun _ _ _ h g=>h.up g,List.forall_mem_cons.2 ⟨fun _ _ _ h g=>h.up g,List.forall_mem_cons.2 ⟨fun _ _ _ h g=>h.up g,List.forall_mem_cons.2 ⟨fun _ _ _ h g=>h.up g,List.forall_mem_cons.2 ⟨fun _ _ _ h g=>h.up g,List.forall_mem_nil _⟩⟩⟩⟩⟩) (fun _ _ h=>h) hHeld ?_;refine eE (i:=2) rfl (fun s w3 hC hn hK=>?_) (fun v2=>?_)
    ·unfold iE;go_simp;simp only[eZ]
     refine(qD mi.wt w3 (by have:=HWM.o;omega) (by have:=HWM.o;omega)).mono ?_;rintro e w4 ⟨eR,r,rfl,hr⟩;exact⟨_,rfl,⟨r,rfl,hr⟩,hC.tm eR,eR⟩
    (try simp only[Act.put,gL,gK,gJ]);refine eE (i:=5) rfl (fun s w3 hC hn hK=>?_) (fun v5=>?_)
    ·unfold iE;go_simp;simp only[eZ]
     refine(aEN HVM.o w3).mono ?_;rintro e w4 ⟨eR,r,rfl,hr⟩;exact⟨_,rfl,⟨r,rfl,hr⟩,hC.tm eR,eR⟩
    (try simp only[Act.put,gL,gK,gJ]);refine eE (i:=8) rfl (fun s w3 hC hn hK=>?_) (fun v8=>?_)
    ·have k5:s 5=some v5/\YJ (gC mi.txt) v5 w3:=hK 5 (by kernel_rfl)
     obtain⟨-,r5,rfl,h5⟩:=k5;unfold iE;go_simp;simp only[eZ];refine(OC h5 (HUb.o.up hC) (by have:=zM.o;have:=Q6.o.fr;omega)).mono ?_;rintro e w4 ⟨eR,r,rfl,hr⟩;exact⟨_,rfl,⟨r,rfl,hr⟩,hC.tm eR,eR⟩
    (try simp only[Act.put,gL,gK,gJ]);refine eE (i:=9) rfl (fun s w3 hC hn hK=>?_) (fun v9=>?_)
    ·have k2:s 2=some v2/\YJ (mi.wt:Rat) v2 w3:=hK 2 (by kernel_rfl)
     have k8:s 8=some v8/\YJ (gC mi.txt-(aS x mi).2) v8 w3:=hK 8 (by kernel_rfl);obtain⟨-,r2',rfl,h2⟩:=k2;obtain⟨-,r8,rfl,h8'⟩:=k8;unfold iE;go_simp;simp only[eZ];refine(LL h2 h8' (by have:=vX.o;have:=HT3.o;omega)).mono ?_;rintro e w4 ⟨eR,r,rfl,hr⟩;exact⟨_,rfl,⟨r,rfl,hr⟩,hC.tm eR,eR⟩
    (try simp only[Act.put,gL,gK,gJ]);refine eE (i:=10) rfl (fun s w3 hC hn hK=>?_) (fun v10=>?_)
    ·unfold iE;go_simp;simp only[eZ]
     exact⟨⟨_,rfl,hC.size,aG.new _ _ _⟩,hC.alloc hC.size _,bA⟩
    (try simp only[Act.put,gL,gK,gJ]);refine D_ (fun s wc hC hK=>?_);have k9:s 9=some v9/\YJ (yY x mi) v9 wc:=hK 9;have k10:s 10=some v10/\KI wb.heap.size 115 #[.bool false,.slice none 0 0,.bool false,.slice none 0 0] v10 wc:=hK 10;obtain⟨-,r9,rfl,h9⟩:=k9;obtain⟨-,gv,rfl,hgv,K9⟩:=k10;obtain⟨HBC,HR9,HGV,FB⟩:=iK hC h9 hgv K9;clear hC hK h9 hgv K9 hHeld;obtain⟨z0,z1,z2,z3,zf,zl⟩:=FB.o.e4;refine dK (by rfl) ?_;(go_upto_region 16 with fail);clear z0 z1 z2 z3 zl zf m2 m3 ml b1 b2 b3 b4 bl;have ZA:=lH (VX (v:=r9) (x:=DD) FB.o);have KZ:=lH (dO (v:=r9) HBC.o HGV.o);have LZ:=lH (HR9.o.keepq (v:=r9) (x:=DD) FB.o);unfold F8 at KZ LZ;generalize (((wc.setCell ⟨gv,0,none⟩ _).setCell ⟨gv,1,none⟩ _).setCell ⟨gv,2,none⟩ _).setCell ⟨gv,3,none⟩ _=wd at *;obtain⟨aU9,HVd,HBd⟩:=d_ (aU_.o.keep KZ.o) (HVb.o.up KZ.o) (HBb.o.tm KZ.o);have a0E:Hid (gz<gv):=lH (by have:=aPZ.o;have:=HSb.o;have:=HGV.o;omega);have HSd:Hid (w7.heap.size<=wd.heap.size):=lH (cO HSb.o KZ.o.size);clear HBC HR9 HGV FB aU_ aDb aKT HVb HBb HUb HSb bM HWM HVM zM vX HT3 KZ;(go_wp2_with fail)
    go_loopw [80] (fun v80 wr=>∃(i:Nat)(vs:List Rv),i<=(aA x).length/\v80=.int .i64 i/\gI wr w7.heap.size (aH x) v' fs' ((ms.map (aS x)).take k++[aS x mi])/\Vb wr gz vs (F7 (aA x).length x ms k i)/\aG wr gv 115 #[.bool r9.b1,.slice r9.A r9.n r9.c,.bool r9.b2,.slice r9.A2 r9.m r9.d]/\dD wr wr.heap.size (yY x mi) r9/\Below wA.heap.size wA wr/\w7.heap.size<=wr.heap.size) (fun v80 _=>(aA x).length-(intOf v80).toNat)
    case atStart=>exact⟨0,_,by omega,rfl,aU9.o,by rw[aBE];exact HVd.o,ZA.o,LZ.o,HBd.o,HSd.o⟩
    case round=>
     clear aU9 HVd ZA LZ HBd HSd;obtain⟨i,vs2,hi,rfl,hfs,hvb,FU,hrx,hb,iV⟩:=hrel;obtain⟨HFS,yO,eU,HRX,HB⟩:=kN hfs hvb FU hrx hb;have HSI:=lH iV;clear hfs hvb FU hrx hb iV;by_cases kT:i<(aA x).length
     ·have aOl:(i:Int)<((aA x).length:Int):=by omega
      have YX:=lN i;have YY:Hid ((aA x).length-(i+1)<(aA x).length-i):=lH (by omega);(go_upto_region 19 with fail);have hrm:lQ wA wA.heap.size RA ms.length (aV x ms):=by
       obtain⟨A',c',e,h,-⟩:=tR.o.rd;injection e with e1 e2 e3;have hl:(aV x ms).length=ms.length:=by unfold aV;rw[jO]
       rw[hl] at h;rw[e1];exact h
      have XH:=(hrm.below HB.o lR).more HB.o.size;obtain⟨pb,po,aOF,hpb⟩:=XH.form (by omega);subst aOF;have gX:(aV x ms)[k]?=some (kH x (aS x mi).1):=by unfold aV;rw[iY,AU.o];rfl
      obtain⟨⟨qa,qn,qc⟩,q0,q1,q2,q3⟩:=XH.at_ gX;dsimp only at q0 q1 q2 q3;have hqn:(aA x).length=qn:=by rw[<-q1.len];exact sW.symm
      subst hqn;obtain⟨eb,eo,hqa,heb⟩:=q1.form (by omega);subst hqa;obtain⟨ve,e0,e1,e2,e3,e4⟩:=q1.at_ (a_ (l:=kH x (aS x mi).1) (i:=i) (by rw[sW];exact kT));obtain⟨xe,hx,c0,c1',c2',c3',l1,f1⟩:=yO.o.elem (j:=i) (by rw[sX hi];exact kT);have U0:Hid (dD wr wr.heap.size (vf (mT (aA x).length x ms k) i) xe):=lH (by
       have h:=yO.o.val (j:=i) (by rw[sX hi];exact kT) hx;rwa[fW (aI0 kT)] at h)
      have HVE:=lH e4;have E4:=lH gX;have tF:=(HFA.o.bl HB.o).cell 1;have uK:=(HFA.o.bl HB.o).lt;obtain⟨z0,z1,z2,z3,zl⟩:=eU.o.b4;have bM:=lH (aK (Below.refl wr.heap.size wr));have kA:=lZ i;have aJK:=jF i;have lB:=lZ k;have rJ:=jF k;have fY:(k:Int)<(ms.length:Int):=by omega
      clear hrm XH gX q1 q2 q3 e4 hx;refine kX 18 (fun hHeld=>?_);simp only[nI,List.take_zero];refine cW [0,1,2,3,4,5,6,7,8,9,10,11,12,13,14] ?_;refine bQ 15 (fun K hK=>?_);have LY:Hid (∀t,t<ms.length->bI (EG x ms t*vf ((aV x ms).getD t []) i)<=3000):=lH fun t ht=>by
       obtain⟨m2,zS⟩:∃m2,ms[t]?=some m2:=⟨_,iB ht⟩;have h1:=aKS.o m2 (bV zS);have h2:(aV x ms)[t]?=some (kH x (aS x m2).1):=by unfold aV;rw[iY,zS];rfl
       have h3:=HRO.o.2 _ (bV h2) _ (bV (a_ (l:=kH x (aS x m2).1) (i:=i) (by rw[sW];exact kT)));rw[CU zS,dN,h2];have h4:=eL (yY x m2) (vf (kH x (aS x m2).1) i);show bI (yY x m2*vf (kH x (aS x m2).1) i)<=3000;omega
      have E3:Hid (bI (yY x mi)+bI (vf (kH x (aS x mi).1) i)+1<=3000):=lH (by
       have h1:=aKS.o mi (bV AU.o);have h3:=HRO.o.2 _ (bV E4.o) _ (bV (a_ (l:=kH x (aS x mi).1) (i:=i) (by rw[sW];exact kT)));omega)
      have nO:Hid (bI (vf (mT (aA x).length x ms k) i)+bI (yY x mi*vf (kH x (aS x mi).1) i)+1<=35184372088832):=lH (by
       have h1:=G3 kT (k:=k) (fun t ht=>LY.o t (by omega));have h2:=eL (yY x mi) (vf (kH x (aS x mi).1) i);have h3:=E3.o;omega)
      go_simp;refine(LL (HRX.o.up bM.o) (HVE.o.up bM.o) (cO E3.o (by decide))).mono ?_;rintro e w8 ⟨gP,v8,rfl,h8⟩;have dR:Hid (Below wr.heap.size wr w8):=lH (bM.o.tm gP);have H8:=lH h8;clear gP h8;go_simp;refine gZ hK dR.o (fun hHeld=>?_);clear hK K;refine bQ 16 (fun K hK=>?_);go_simp;refine(EZ (U0.o.up dR.o) H8.o nO.o).mono ?_;rintro e wq ⟨UZ,vq,rfl,hq⟩;have QJ:Hid (Below wr.heap.size wr wq):=lH (dR.o.tm UZ);have HVQ:=lH hq;clear UZ hq;go_simp;refine gZ hK QJ.o (fun hHeld=>?_);clear hK K;refine cW [17] ?_;refine eM ?_;clear hHeld;obtain⟨aKx,a0K,aHR,aZ0,HBq⟩:=kN (yO.o.up QJ.o) (HFS.o.keep QJ.o) (eU.o.bl QJ.o) (HRX.o.up QJ.o) (HB.o.tm QJ.o);have HSq:Hid (w7.heap.size<=wq.heap.size):=lH (cO HSI.o QJ.o.size);clear c0 c1' c2' c3' l1 f1 z0 z1 z2 z3 zl tF uK q0 e0 e1 e2 e3 hpb heb HVE U0 bM dR H8 E3 nO LY HFS yO eU HRX HB HSI;obtain⟨xe',hx',c0,c1',c2',c3',l1,f1⟩:=aKx.o.elem (j:=i) (by rw[sX hi];exact kT);have hn8:(aA x).length<=8:=uV.o;(go_wp2_with fail);go_roundw
      case rel=>exact⟨i+1,_,kT,aO YX.o,a0K.o.far aKx.o (x:=vq) (by rw[sX hi];exact kT) aPZ.o,by
       have h:=aKx.o.put (j:=i) (x:=vq) (by rw[sX hi];exact kT) HVQ.o;rw[<-CU AU.o,aEp kT E4.o] at h;exact h,aHR.o.far4 vq (by have:=a0E.o;omega),aKx.o.keep (by rw[sX hi];exact kT) aZ0.o,jC HBq.o HGZ.o,cO HSq.o (Nat.le_of_eq (aBJ wq gz i vq).symm)⟩
      case measure=>exact YY.o
     ·have DG:i=(aA x).length:=by omega
      have aOl:¬(i:Int)<((aA x).length:Int):=by omega
      have HVE:Hid (Vb wr gz vs2 (mT (aA x).length x ms (k+1))):=lH (by
       have h:=yO.o;rw[DG,aEq] at h;exact h)
      clear yO DG;(go_wp2_with fail);go_roundw
      case rel=>exact⟨k+1,fs',vs2,aU,aO l9.o,by rw[IK.o];exact HFS.o,HVE.o,HB.o,HSI.o⟩
      case measure=>exact jV.o
   ·obtain⟨wl,rfl⟩:∃z,z=wr:=⟨wr,rfl⟩
    have nH:k=ms.length:=by omega
    subst nH;have fY:¬((ms.length:Nat):Int)<(ms.length:Int):=by omega
    have aU8:Hid (gI wl w7.heap.size (aH x) u11 fs (ms.map (aS x))):=lH (by
     have h:=HFS.o;rw[nL (by rw[jO];exact lR)] at h;exact h)
    have U6:=lH (HFA.o.bl HB.o);have HIr:Hid (lQ wl wl.heap.size (some ⟨gi,0,none⟩) (aA x).length (mV (dU (aA x).length (aV x ms) ms))):=lH (HIA.o.bm HB.o);have HRr:=lH (tR.o.keep HB.o);have HLr:=lH (HLQ.o _ HB.o);have HQr:Hid (iT wl wl.heap.size (some ⟨gz,0,none⟩) (aA x).length (mT (aA x).length x ms ms.length)):=lH (by
     have h:=yO.o.rdq;rwa[fO] at h)
    have HGr:=lH (HG.o.below HLr.o sL.o);clear HFS yO HB HS7 HIA tR HFA HA7 aPZ HLQ hk aU;obtain⟨f0,fl⟩:=U6.o.b1;(go_wp2_with fail);refine(nU g ⟨A0,n0,c0,A1,aH x,c1,A2,n2,c2,A3,n3,c3,A4,n4,c4,A5,n5,c5,A6,(aA x).length,c6⟩ (.slice A7 n7 c7) wl HGr.o).mono ?_;rintro e w10 ⟨rfl,rfl⟩;(go_wp2_with fail);refine(mL (aH x) wl (by have:=(eX bU.o).2;omega)).mono ?_;rintro e w11 ⟨mJ,ga,va,rfl,FS,pI,hva⟩;obtain⟨U1,E_,q_,Y7⟩:=iK (N8 pI hva) FS mJ (U6.o.bl mJ);clear mJ FS pI hva f0 fl;have f0:=Y7.o.cell 0;have f3:=Y7.o.cell 3;have fl:=Y7.o.lt;have ff:=Y7.o.frozen;(go_upto_region 23 with fail);generalize hwe:w11.setCell ⟨gf,3,none⟩ (.slice (some ⟨ga,0,none⟩) (aH x) (aH x))=we;have HFe:Hid (aG we gf 95 #[.pointer (some ⟨g,0,none⟩),.slice RA ms.length rc,.slice (some ⟨gi,0,none⟩) (aA x).length (aA x).length,.slice (some ⟨ga,0,none⟩) (aH x) (aH x),.slice none 0 0]):=lH (by rw[<-hwe];exact Y7.o.set_ 3 _);have HMe:Hid (wl.grownBy we (some gf)):=lH (by rw[<-hwe];exact R6 3 _ (Z3 _ q_.o));have HVe:=lH (show Vb we ga _ (jN (aH x)) by rw[<-hwe];exact U1.o.keepF Y7.o (by decide) rfl iL);have HLe:Hid (Below gf w2 we):=lH (by rw[<-hwe];exact(HLr.o.trans (q_.o.mono (pJ U6.o.lt))).setCell lR _);have a0G:Hid (ga<we.heap.size):=lH HVe.o.lt;clear hwe f0 f3 fl ff U1 q_ Y7;have g6:we.cell? ⟨g,6,none⟩=some (.slice A6 (aA x).length c6):=(HG.o.below HLe.o sL.o).cell 6;have gl:=(HG.o.below HLe.o sL.o).lt;have f0:=HFe.o.cell 0;have fl:=HFe.o.lt;(go_wp2_with fail);clear g6 gl f0 fl
    go_loopw [114] (fun v114 wq=>∃(i:Nat)(us:List Rv),i<=(aA x).length/\v114=.int .i64 i/\Vb wq ga us (qO (aA x) (nY x ms) (jN (aH x)) i)/\aG wq gf 95 #[.pointer (some ⟨g,0,none⟩),.slice RA ms.length rc,.slice (some ⟨gi,0,none⟩) (aA x).length (aA x).length,.slice (some ⟨ga,0,none⟩) (aH x) (aH x),.slice none 0 0]/\wl.grownBy wq (some gf)/\Below gf w2 wq/\∀q∈qO (aA x) (nY x ms) (jN (aH x)) i,bI q<=50000000000) (fun v114 _=>(aA x).length-(intOf v114).toNat)
    case atStart=>exact⟨0,_,Nat.zero_le _,rfl,HVe.o,HFe.o,HMe.o,HLe.o,fun q hq=>by rw[List.eq_of_mem_replicate hq];exact cO (dV 0 (by decide) (by decide)) (by decide)⟩
    case round=>
     clear HVe HFe HMe HLe;obtain⟨i,us,hi,rfl,hv,hf,hm,hl,hqs⟩:=hrel;obtain⟨aPv,vM,KW,HM3,F1⟩:=kN hqs hv hf hm hl;clear hv hf hm hl hqs;by_cases kT:i<(aA x).length
     ·obtain⟨j,hj⟩:∃j,(aA x)[i]?=some j:=⟨_,iB kT⟩
      have HJB:Hid (j<aH x):=lH (tH (bV hj));have hjb:=HJB.o;have rD:=((HR.o.below F1.o lR).more (by rw[<-mD.o];exact F1.o.size)).r6;simp only at rD;obtain⟨fb,fo,hA6,qU,-⟩:=rD.2 (by have:=rD.len;omega);subst hA6;have f6:=rD.at_ (fS hj);have HJ:=lH hj;have DH:(i:Int)<((aA x).length:Int):=by omega
      have kA:=lZ i;have aJK:=jF i;have XO:(j:Int)<(aH x:Int):=by omega
      have GE:=lZ j;have rE:=jF j;have YX:=lN i;have YY:Hid ((aA x).length-(i+1)<(aA x).length-i):=lH (by omega);clear rD hj;(go_upto_region 26 with fail);clear f6 qU;have hU:=N9 U6.o KW.o (i:=3) rfl rfl CQ HM3.o;have hqi:=hU.mat HIr.o (fun b off e=>by injection e with e;injection e with e1 e2;have:=HGI.o;omega);have HQR:=lH (hU.row HQr.o);obtain⟨row,gX⟩:∃row,(mV (dU (aA x).length (aV x ms) ms))[i]?=some row:=eA (by rw[hqi.len];exact kT);obtain⟨⟨qa,qn,qc⟩,q0,q1,q2,q3⟩:=hqi.at_ gX;dsimp only at q0 q1 q2 q3;rw[Nat.zero_add] at q0;have hqb:gi<wr.heap.size:=World.block_lt_of_cell? wr ⟨gi,i,none⟩ q0;have HBI:Hid (∀q∈row,bI q<=2600000000):=lH fun q hq=>by
       have h:=W7 (M:=dU (aA x).length (aV x ms) ms) (by rw[cL];exact kV.o.wid) kV.o.bd (by omega) row (bV gX) q hq;rw[cL] at h;exact cO (Nat.le_of_succ_le h) HZ4.o
      have w_:row.length=(aA x).length:=by
       have h:=(qS (M:=dU (aA x).length (aV x ms) ms) (by rw[cL];exact kV.o.wid)).2 row (bV gX);rwa[cL] at h
      have hqn:(aA x).length=qn:=by rw[<-q1.len];exact w_.symm
      subst hqn;have E4:=lH q1;have HED:Hid (jJ row (mT (aA x).length x ms ms.length)=nY x ms i):=lH (by
       unfold nY;rw[dN,gX];rfl)
      have qA:Hid (∀q∈mT (aA x).length x ms ms.length,bI q<=2600000000):=lH fun q hq=>by
       obtain⟨t,ht⟩:=List.mem_iff_getElem?.1 hq;have LM:t<(aA x).length:=by have:=(dH.1 ht).1;rwa[fO] at this
       have h0:∀u,u<ms.length->bI (EG x ms u*vf ((aV x ms).getD u []) t)<=3000:=fun u hu=>by
        obtain⟨m2,zS⟩:∃m2,ms[u]?=some m2:=⟨_,iB hu⟩;have h1:=aKS.o m2 (bV zS);have h2:(aV x ms)[u]?=some (kH x (aS x m2).1):=by unfold aV;rw[iY,zS];rfl
        have h3:=HRO.o.2 _ (bV h2) _ (bV (a_ (l:=kH x (aS x m2).1) (i:=t) (by rw[sW];exact LM)));rw[CU zS,dN,h2];have h4:=eL (yY x m2) (vf (kH x (aS x m2).1) t);show bI (yY x m2*vf (kH x (aS x m2).1) t)<=3000;omega
       have h5:=G3 LM (k:=ms.length) h0;rw[fW ht] at h5;omega
      have a0f:Hid (bI (nY x ms i)<=50000000000):=lH (by
       have h:=nC (ys:=mT (aA x).length x ms ms.length) w_ HBI.o qA.o (aA x).length lR;rw[nL (by rw[List.length_zipWith];omega)] at h;rw[<-HED.o];have h8:=uV.o;unfold jJ;omega)
      have f2:=KW.o.cell 3;have fl:=KW.o.lt;have bM:=lH (aK (Below.refl wr.heap.size wr));have hn8:(aA x).length<=8:=uV.o;clear hU hqi gX q1 q2 q3 w_;refine kX 10 (fun hHeld=>?_);simp only[nI,List.take_zero];refine cW [0,1,2,3,4,5,6,7] ?_;refine bQ 8 (fun K hK=>?_);go_simp;refine(CS qa (aA x).length qc (some ⟨gz,0,none⟩) (aA x).length (aA x).length row (mT (aA x).length x ms ms.length) 2600000000 _ (E4.o.up bM.o) (HQR.o.up bM.o) lR (by omega) HBI.o qA.o (by omega)).mono ?_;rintro e w8 ⟨gP,v8,rfl,h8⟩;rw[HED.o] at h8;have dR:Hid (Below wr.heap.size wr w8):=lH (bM.o.tm gP);have H8:=lH h8;clear gP h8;go_simp;refine gZ hK dR.o (fun hHeld=>?_);clear hK K;refine cW [9] ?_;refine eM ?_;clear hHeld;obtain⟨HVq,HFq,HMq,HLq⟩:=iK (vM.o.up dR.o) (KW.o.bl dR.o) (OT HM3.o dR.o) (F1.o.trans (dR.o.mono (cO (Nat.le_of_eq mD.o.symm) F1.o.size)));have aU3:Hid (gf<ga):=lH (by have:=U6.o.lt;have:=E_.o;omega);clear q0 hqb f2 fl bM HBI qA E4 HED HQR vM KW HM3 F1;have oP:j<(qO (aA x) (nY x ms) (jN (aH x)) i).length:=by rw[oX];unfold jN;rw[rB];exact HJB.o
      obtain⟨xe',hx',c0,c1',c2',c3',l1,f1⟩:=HVq.o.elem (j:=j) oP;clear hx';have HJL:=lH oP;clear oP;(go_wp2_with fail);go_roundw
      case rel=>exact⟨i+1,_,kT,aO YX.o,by
       have h:=HVq.o.put (j:=j) (x:=v8) HJL.o H8.o;have e:qO (aA x) (nY x ms) (jN (aH x)) (i+1)=(qO (aA x) (nY x ms) (jN (aH x)) i).set j (nY x ms i):=by
        show(qO (aA x) (nY x ms) (jN (aH x)) i).set ((aA x).getD i 0) (nY x ms i)=_;rw[dN,HJ.o];rfl
       rw[e];exact h,HFq.o.far4 v8 (by have:=aU3.o;omega),aBT HMq.o E_.o,jC HLq.o (pJ aU3.o),fun q hq=>by
       have e:qO (aA x) (nY x ms) (jN (aH x)) (i+1)=(qO (aA x) (nY x ms) (jN (aH x)) i).set ((aA x).getD i 0) (nY x ms i):=rfl;rw[e] at hq;rcases List.mem_or_eq_of_mem_set hq with h1 | h1
       ·exact aPv.o q h1
       ·rw[h1];exact a0f.o⟩
      case measure=>exact YY.o
     ·obtain⟨wm,rfl⟩:∃z,z=wr:=⟨wr,rfl⟩
      have DG:i=(aA x).length:=by omega
      have aOl:¬(i:Int)<((aA x).length:Int):=by omega
      have aPu:Hid (∀q∈bE x ms,bI q<=50000000000):=lH (by have h:=aPv.o;rw[DG] at h;exact h);have HVm:Hid (Vb wm ga us (bE x ms)):=lH (by have h:=vM.o;rw[DG] at h;exact h);have hU:=N9 U6.o KW.o (i:=3) rfl rfl CQ HM3.o;have HIm:=lH (hU.mat HIr.o (fun b off e=>by injection e with e;injection e with e1 e2;have:=HGI.o;omega));have HRm:=lH (hU.rows HRr.o);have aU7:=lH (hU.forms aU8.o);have a7I:Hid (gf<ga):=lH (by have:=U6.o.lt;have:=E_.o;omega);clear hU vM HM3 aPv HIr HRr aU8 U6 HQr DG E_ a0G HGr HLr kV HRO HZ4 aKS;(go_wp2_with fail)
      go_loopw [132] (fun v132 wq=>∃(k:Nat)(cu:Value)(us:List Rv),k<=ms.length/\v132=.int .i64 k/\dP wq wm.heap.size cu us ((aQ x ms (bE x ms)).take k)/\aG wq gf 95 #[.pointer (some ⟨g,0,none⟩),.slice RA ms.length rc,.slice (some ⟨gi,0,none⟩) (aA x).length (aA x).length,.slice (some ⟨ga,0,none⟩) (aH x) (aH x),cu]/\wm.grownBy wq (some gf)/\Below gf w2 wq) (fun v132 _=>ms.length-(intOf v132).toNat)
      case atStart=>exact⟨0,_,[],Nat.zero_le _,rfl,kY _ _,KW.o,Z3 _ bR,F1.o⟩
      case round=>
       obtain⟨k,cu,us,hk,rfl,ho,hf,hm,hl⟩:=hrel;have mA:Hid ((aQ x ms (bE x ms)).length=ms.length):=lH (by unfold aQ;rw[jO]);have hlk:us.length=k:=by rw[ho.len,kR,mA.o];omega
       obtain⟨cA,cc,hcu,-⟩:=ho.own.shape;rw[hlk] at hcu;subst hcu;obtain⟨HO,HF4,HM4,YZ⟩:=iK ho hf hm hl;clear ho hf hm hl hlk;by_cases aU:k<ms.length
       ·obtain⟨mi,mZ⟩:∃mi,ms[k]?=some mi:=⟨_,iB aU⟩
        have IK:Hid ((aQ x ms (bE x ms)).take (k+1)=(aQ x ms (bE x ms)).take k++[gC mi.txt-(jJ (aS x mi).1 (bE x ms)+(aS x mi).2)]):=lH (fE (by unfold aQ;rw[iY,mZ];rfl));obtain⟨wB,HVM,AU⟩:=d_ (HMK.o mi (bV mZ)) (HV.o mi (bV mZ)) mZ;have hO:=lH (HLW.o _ YZ.o);have xA:=(HM.o.below hO.o lR).more hO.o.size;have aFY:=xA.2.2 (by omega);obtain⟨ab,ao,hA,jA,-⟩:=aFY;subst hA;obtain⟨a0,a1,a2,a3⟩:=xA.at_ mZ;have fY:(k:Int)<(ms.length:Int):=by omega
        have lB:=lZ k;have rJ:=jF k;have l9:=lN k;have jV:Hid (ms.length-(k+1)<ms.length-k):=lH (by omega);clear mZ xA hO;(go_upto_region 31 with fail);clear a0 a1 a2 a3 jA;have hz:=jT wr (.cells #[.int .i64 mi.kind,.string mi.name,.string mi.txt,.int .i64 mi.wt] 57);have IM:=lH (aG.new wr 57 #[.int .i64 mi.kind,.string mi.name,.string mi.txt,.int .i64 mi.wt]);replace HO:=lH (HO.o.keep hz);obtain⟨HFa,HMa,HLa⟩:=d_ (HF4.o.bl hz) (OT HM4.o hz) (YZ.o.trans (hz.mono (cO (Nat.le_of_eq mD.o.symm) YZ.o.size)));clear hz HF4 HM4 YZ;generalize wr.alloc (.cells #[.int .i64 mi.kind,.string mi.name,.string mi.txt,.int .i64 mi.wt] 57)=wa at *;generalize wr.heap.size=gm at *;have hU:=N9 KW.o HFa.o (i:=4) rfl rfl CQ HMa.o;have HVa:=lH (hU.vec HVm.o);obtain⟨fb,fc,fm,hfv,uK,⟨e0,e1,e2,e3,e4⟩,⟨vs4,hvc⟩,yI,hu,cur,aOw⟩:=(hU.forms aU7.o).at_ (k:=k) (p:=aS x mi) (by rw[iY,AU.o];rfl);rw[jO] at hfv;subst hfv;have HQC:Hid (iT wa wa.heap.size (some ⟨fm.gc,0,none⟩) (aH x) (aS x mi).1):=lH (by have h:=hvc.rdq;rwa[yI] at h);have HUF:=lH hu;have HQE:Hid (iT wa wa.heap.size (some ⟨ga,0,none⟩) (aH x) (bE x ms)):=lH (by
         have h:=HVa.o.rdq;rwa[show(bE x ms).length=aH x from by unfold bE;rw[oX];exact rB] at h)
        have aDf:=lH aOw;have HSS:Hid (∀w',aG w' gf 95 #[.pointer (some ⟨g,0,none⟩),.slice RA ms.length rc,.slice (some ⟨gi,0,none⟩) (aA x).length (aA x).length,.slice (some ⟨ga,0,none⟩) (aH x) (aH x),.slice cA k cc]->aG w' gm 57 #[.int .i64 mi.kind,.string mi.name,.string mi.txt,.int .i64 mi.wt]->aG w' fb 117 cur->(w'.cell? ⟨gf,3,none⟩=some (.slice (some ⟨ga,0,none⟩) (aH x) (aH x))/\w'.cell? ⟨gf,4,none⟩=some (.slice cA k cc)/\w'.cell? ⟨gm,2,none⟩=some (.string mi.txt)/\w'.cell? ⟨fb,k*5,none⟩=some (.slice (some ⟨fm.gc,0,none⟩) (aH x) (aH x))/\w'.cell? ⟨fb,k*5+1,none⟩=some (.bool fm.u.b1)/\w'.cell? ⟨fb,k*5+2,none⟩=some (.slice fm.u.A fm.u.n fm.u.c)/\w'.cell? ⟨fb,k*5+3,none⟩=some (.bool fm.u.b2)/\w'.cell? ⟨fb,k*5+4,none⟩=some (.slice fm.u.A2 fm.u.m fm.u.d))):=lH fun w' q1 q2 q3=>by
         have hc:∀o,w'.cell? ⟨fb,o,none⟩=wa.cell? ⟨fb,o,none⟩:=fun o=>(q3.cell o).trans (aOw.cell o).symm;exact⟨q1.cell 3,q1.cell 4,q2.cell 2,(hc _).trans e0,(hc _).trans e1,(hc _).trans e2,(hc _).trans e3,(hc _).trans e4⟩
        have Q6:=lH (nA bU.o wB.o);have zM:Hid (bI (gC mi.txt)<=2000):=lH (o0 (iD HVM.o));have HN8:Hid (aH x<=8):=lH (cO (eX bU.o).2 h8);have NZ:Hid (bI (gC mi.txt)+bI (jJ (aS x mi).1 (bE x ms)+(aS x mi).2)+1<=35184372088832):=lH (by
         have h1:=nC (ys:=bE x ms) (Z:=50000000000) Q6.o.len (fun q hq=>cO (Q6.o.cf q hq) (by decide)) aPu.o (aH x) lR;rw[nL (by rw[List.length_zipWith,Q6.o.len];omega)] at h1;have h2:=lG (jJ (aS x mi).1 (bE x ms)) (aS x mi).2;have h3:=Q6.o.fr;have h4:=zM.o;have h5:=HN8.o;unfold jJ at h2 ⊢;omega)
        have a0F:Hid (gf<=wm.heap.size):=lH (pJ KW.o.lt);have U3:Hid (((aQ x ms (bE x ms)).take k).length<=1000000):=lH (by rw[kR];omega);clear hU uK e0 e1 e2 e3 e4 hvc yI hu aOw fY;refine bZ (S:=fun w'=>(w'.cell? ⟨gf,3,none⟩=some (.slice (some ⟨ga,0,none⟩) (aH x) (aH x))/\w'.cell? ⟨gf,4,none⟩=some (.slice cA k cc)/\w'.cell? ⟨gm,2,none⟩=some (.string mi.txt)/\w'.cell? ⟨fb,k*5,none⟩=some (.slice (some ⟨fm.gc,0,none⟩) (aH x) (aH x))/\w'.cell? ⟨fb,k*5+1,none⟩=some (.bool fm.u.b1)/\w'.cell? ⟨fb,k*5+2,none⟩=some (.slice fm.u.A fm.u.n fm.u.c)/\w'.cell? ⟨fb,k*5+3,none⟩=some (.bool fm.u.b2)/\w'.cell? ⟨fb,k*5+4,none⟩=some (.slice fm.u.A2 fm.u.m fm.u.d))) 16 _ (by kernel_rfl) (by kernel_rfl) rfl (HSS.o _ HFa.o IM.o aDf.o) (fun hHeld=>?_);simp only[nI,List.take_zero];have fY:(k:Int)<(ms.length:Int):=by omega
        refine gB 0 (v:=?_) ?_ hHeld ?_;rotate_left 1
        ·intro w' hSw;obtain⟨s0,s1,s2,s3,s4,s5,s6,s7⟩:=hSw;go_simp<;>with_reducible rfl
        (try simp only[Act.put,gL,gK,gJ]);refine gB 1 (v:=?_) ?_ hHeld ?_;rotate_left 1
        ·intro w' hSw;obtain⟨s0,s1,s2,s3,s4,s5,s6,s7⟩:=hSw;go_simp<;>with_reducible rfl
        (try simp only[Act.put,gL,gK,gJ]);refine gB 2 (v:=?_) ?_ hHeld ?_;rotate_left 1
        ·intro w' hSw;obtain⟨s0,s1,s2,s3,s4,s5,s6,s7⟩:=hSw;go_simp<;>with_reducible rfl
        (try simp only[Act.put,gL,gK,gJ]);refine gB 3 (v:=?_) ?_ hHeld ?_;rotate_left 1
        ·intro w' hSw;obtain⟨s0,s1,s2,s3,s4,s5,s6,s7⟩:=hSw;go_simp<;>with_reducible rfl
        (try simp only[Act.put,gL,gK,gJ]);refine gB 5 (v:=?_) ?_ hHeld ?_;rotate_left 1
        ·intro w' hSw;obtain⟨s0,s1,s2,s3,s4,s5,s6,s7⟩:=hSw;go_simp<;>with_reducible rfl
        (try simp only[Act.put,gL,gK,gJ]);refine gB 6 (v:=?_) ?_ hHeld ?_;rotate_left 1
        ·intro w' hSw;obtain⟨s0,s1,s2,s3,s4,s5,s6,s7⟩:=hSw;go_simp<;>with_reducible rfl
        (try simp only[Act.put,gL,gK,gJ]);refine gB 7 (v:=?_) ?_ hHeld ?_;rotate_left 1
        ·intro w' hSw;obtain⟨s0,s1,s2,s3,s4,s5,s6,s7⟩:=hSw;go_simp<;>with_reducible rfl
        (try simp only[Act.put,gL,gK,gJ]);refine gB 8 (v:=?_) ?_ hHeld ?_;rotate_left 1
        ·intro w' hSw;obtain⟨s0,s1,s2,s3,s4,s5,s6,s7⟩:=hSw;go_simp<;>with_reducible rfl
        (try simp only[Act.put,gL,gK,gJ]);refine gB 9 (v:=?_) ?_ hHeld ?_;rotate_left 1
        ·intro w' hSw;obtain⟨s0,s1,s2,s3,s4,s5,s6,s7⟩:=hSw;go_simp<;>with_reducible rfl
        (try simp only[Act.put,gL,gK,gJ]);refine gB 10 (v:=?_) ?_ hHeld ?_;rotate_left 1
        ·intro w' hSw;obtain⟨s0,s1,s2,s3,s4,s5,s6,s7⟩:=hSw;go_simp<;>with_reducible rfl
        (try simp only[Act.put,gL,gK,gJ]);have zL:=lH (aK (Below.refl wa.heap.size wa));generalize wa.drew=v0 at *;refine bQ 4 (fun K hK=>?_);go_simp;refine(aEN HVM.o v0).mono ?_;rintro e w4 ⟨eR,r4,rfl,h4⟩;have bT:Hid (Below wa.heap.size wa w4):=lH (zL.o.tm eR);have H4:=lH h4;clear eR h4;go_simp;refine hK.out _ _ ?_ (fun hHeld=>?_)
        ·exact HSS.o _ (HFa.o.bl bT.o) (IM.o.bl bT.o) (aDf.o.bl bT.o)
        clear hK K;(try simp only[Act.put,gL,gK,gJ]);refine bQ 11 (fun K hK=>?_);go_simp;refine(aGx (some ⟨fm.gc,0,none⟩) (aH x) (aH x) fm.u (aS x mi).1 (aS x mi).2 (some ⟨ga,0,none⟩) (aH x) (aH x) (bE x ms) w4 (HQC.o.up bT.o) (HUF.o.up bT.o) (HQE.o.up bT.o) lR HN8.o (fun p hp=>cO (Q6.o.cf p hp) (by decide)) (fun p hp=>cO (aPu.o p hp) (by decide)) (cO Q6.o.fr (by decide))).mono ?_;rintro e w5 ⟨fD,r5,rfl,h5⟩;have cH:Hid (Below wa.heap.size wa w5):=lH (bT.o.tm fD);have H5:=lH h5;replace H4:=lH (H4.o.up fD);clear fD h5;go_simp;refine hK.out _ _ ?_ (fun hHeld=>?_)
        ·exact HSS.o _ (HFa.o.bl cH.o) (IM.o.bl cH.o) (aDf.o.bl cH.o)
        clear hK K;(try simp only[Act.put,gL,gK,gJ]);refine bQ 12 (fun K hK=>?_);go_simp;refine(OC H4.o H5.o NZ.o).mono ?_;rintro e w6 ⟨fT,r6,rfl,h6⟩;have dY:Hid (Below wa.heap.size wa w6):=lH (cH.o.tm fT);have H6:=lH h6;clear fT h6 H4 H5 bT cH;go_simp;refine hK.out _ _ ?_ (fun hHeld=>?_)
        ·exact HSS.o _ (HFa.o.bl dY.o) (IM.o.bl dY.o) (aDf.o.bl dY.o)
        clear hK K;(try simp only[Act.put,gL,gK,gJ]);refine bQ 13 (fun K hK=>?_);go_simp;have yQ:=lH (aG.new w6 115 #[.bool r6.b1,.slice r6.A r6.n r6.c,.bool r6.b2,.slice r6.A2 r6.m r6.d]);have kS:=jT w6 (.cells #[.bool r6.b1,.slice r6.A r6.n r6.c,.bool r6.b2,.slice r6.A2 r6.m r6.d] 115);have bM:Hid (Below wa.heap.size wa (w6.alloc (.cells #[.bool r6.b1,.slice r6.A r6.n r6.c,.bool r6.b2,.slice r6.A2 r6.m r6.d] 115))):=lH (dY.o.tm kS);replace H6:=lH (H6.o.up kS);clear kS dY;generalize w6.alloc (.cells #[.bool r6.b1,.slice r6.A r6.n r6.c,.bool r6.b2,.slice r6.A2 r6.m r6.d] 115)=w7b at *;generalize w6.heap.size=gb at *;refine hK.out _ _ ?_ (fun hHeld=>?_)
        ·exact HSS.o _ (HFa.o.bl bM.o) (IM.o.bl bM.o) (aDf.o.bl bM.o)
        clear hK K;(try simp only[Act.put,gL,gK,gJ]);refine bQ 14 (fun K hK=>?_);refine aJr (by rfl) ?_;have HM7:=lH (OT HMa.o bM.o);refine Q9 (.tmp 138) (.tmp 150) _ rfl wm.heap.size Tryz.underlying93 (.slice cA k cc) us _ rfl (HO.o.keep bM.o) r6 _ H6.o gb _ rfl yQ.o U3.o HM7.o.size ?_;intro v' w8 bB GD hob;obtain⟨vA,vc,hvv,-⟩:=bB.own.shape;rw[jW,List.length_singleton] at hvv;subst hvv;have sK:=lH bB;have uV:=lH (GD.blk _ _ _ (HFa.o.bl bM.o) (by decide));have tT:=lH (MR HM7.o GD.low lR);have HL8:=lH ((HLa.o.trans (bM.o.mono (pJ HFa.o.lt))).trans (GD.low.mono a0F.o));refine hK.out _ _ ?_ (fun hHeld=>?_)
        ·exact HSS.o _ uV.o (GD.blk _ _ _ (IM.o.bl bM.o) (by decide)) (GD.blk _ _ _ (aDf.o.bl bM.o) (by decide))
        clear hK K;(try simp only[Act.put,gL,gK,gJ]);refine gB 15 (v:=?_) ?_ hHeld ?_;rotate_left 1
        ·intro w' hSw;skip;go_simp<;>with_reducible rfl
        (try simp only[Act.put,gL,gK,gJ]);refine eM ?_;clear hHeld bB GD hob bM HM7 yQ H6 HSS HO HMa HLa HFa;have f3:=uV.o.cell 4;have fl:=uV.o.lt;have ff:=uV.o.frozen;(go_wp2_with fail);go_roundw
        case rel=>exact⟨k+1,_,us++[r6],aU,aO l9.o,by rw[IK.o];exact sK.o.far uV.o (by decide) (i:=4) rfl iL,uV.o.set_ 4 _,R6 4 _ tT.o,HL8.o.setCell lR _⟩
        case measure=>exact jV.o
       ·have nH:k=ms.length:=by omega
        subst nH;have fY:¬((ms.length:Nat):Int)<(ms.length:Int):=by omega
        have hoe:dP wr wm.heap.size (.slice cA ms.length cc) us (aQ x ms (bE x ms)):=by
         have h:=HO.o;rw[nL (by rw[mA.o];exact lR)] at h;exact h
        obtain⟨A9,c9,M5,aNV,-,-,-⟩:=hoe.rd;rw[mA.o] at M5 aNV;injection M5 with M5 hv9b hv9c;subst M5;subst hv9c;have aZ9:=lH aNV;have hU:=N9 KW.o HF4.o (i:=4) rfl rfl CQ HM4.o;have HIe:=lH (hU.mat HIm.o (fun b off e=>by injection e with e;injection e with e1 e2;have:=HGI.o;omega));have HRe:=lH (hU.rows HRm.o);have HVe:Hid (iT wr wr.heap.size (some ⟨ga,0,none⟩) (aH x) (bE x ms)):=lH (by
         have h:=(hU.vec HVm.o).rdq;rwa[show(bE x ms).length=aH x from by unfold bE;rw[oX];exact rB] at h)
        have HGe:=lH (HG.o.below YZ.o sL.o);have aZ_:=lH ((HR.o.below YZ.o lR).more (by rw[<-mD.o];exact YZ.o.size));have HBe:=lH (HLW.o _ YZ.o);have P6:=lH (P4.o.bl HBe.o);have Y0:Hid (w.heap.size+1<gi):=lH (by have h1:=HGI.o;have h2:=HWF.o;have h3:=dZ.o;omega);have aZ5:Hid (lQ wr wr.heap.size RA ms.length (aV x ms)):=lH (by
         obtain⟨A',c',e,h,-⟩:=HRe.o.rd;injection e with e1 e2 e3;have hl:(aV x ms).length=ms.length:=by unfold aV;rw[jO]
         rw[hl] at h;rw[e1];exact h)
        clear hU hoe aNV HO HM4 HIm HRm HVm aU7 aPu KW;obtain⟨f0,f1,f2,f3,f4,fl⟩:=HF4.o.b5;obtain⟨z0,z1,z2,z3,z4,zf,zl⟩:=P6.o.e5;(go_wp2_with fail);have hq:=rY (v0:=.pointer (some ⟨g,0,none⟩)) (v1:=.slice RA ms.length rc) (v2:=.slice (some ⟨gi,0,none⟩) (aA x).length (aA x).length) (v3:=.slice (some ⟨ga,0,none⟩) (aH x) (aH x)) (v4:=.slice cA ms.length cc) P6.o;obtain⟨p0,p1,p2,p3,p4⟩:=hq.a5;have hu:=GT (p':=some ⟨g,0,none⟩) (B1:=RA) (k1:=ms.length) (d1:=rc) (B2:=some ⟨gi,0,none⟩) (k2:=(aA x).length) (d2:=(aA x).length) (B3:=some ⟨ga,0,none⟩) (k3:=aH x) (d3:=aH x) (B4:=cA) (k4:=ms.length) (d4:=cc) P6.o;exact bodyPost_ret (v:=.tuple #[.agg #[.pointer (some ⟨g,0,none⟩),.slice RA ms.length rc,.slice (some ⟨gi,0,none⟩) (aA x).length (aA x).length,.slice (some ⟨ga,0,none⟩) (aH x) (aH x),.slice cA ms.length cc],.bool true]) (by simp[results,Tryz.results77,go_sem,p0,p1,p2,p3,p4]) rfl ⟨mS (HW.o.trans (HBe.o.mono (by have:=dZ.o;omega))) (Nat.le_succ _),.inr ⟨HER.o,_,rfl,g,_,_,RA,rc,gi,ga,cA,cc,rfl,⟨fun b off e=>cO HRB.o (HRe.o.base b off e),by have:=Y0.o;omega⟩,hu.blk HGe.o (by decide),aZ_.o.unP hu,hu.mat aZ5.o (HRe.o.apart P6.o (by decide)),hu.mat HIe.o (fun b off e=>by injection e with e;injection e with e1 e2;have:=Y0.o;omega),hu.row HVe.o,hu.row aZ9.o⟩⟩
theorem B_(h:dJ x ms=0):(∀m∈ms,cI m.txt.data.toList=0)/\∀m∈ms,1<=m.wt/\m.wt<=1000:=by
 have key:∀m∈ms,cI m.txt.data.toList=0/\1<=m.wt/\m.wt<=1000:=fun m hm=>by
  unfold dJ at h;split at h
  ·exact absurd h (by assumption)
  ·split at h
   ·omega
   ·have h1:=CA h m hm
    unfold CB at h1;split at h1
    ·omega
    ·split at h1
     ·omega
     ·split at h1
      ·exact absurd h1 (by assumption)
      ·split at h1
       ·omega
       ·rename_i h2 h3
        exact⟨by omega,by omega,by omega⟩
 exact⟨fun m hm=>(key m hm).1,fun m hm=>(key m hm).2⟩
def a1a(x:bO)(ms:List Mi)(w:Wo)(e:Ending)(w':Wo):Prop:=Below w.heap.size w w'/\((∃c:Int,c≠0/\rK x ms c/\∃p A1 n1 c1 A2 n2 c2 A3 n3 c3 A4 n4 c4,e=.returned (.tuple #[.agg #[.pointer p,.slice A1 n1 c1,.slice A2 n2 c2,.slice A3 n3 c3,.slice A4 n4 c4],.slice none 0 0,.int .i64 c]))\/
 (rK x ms 0/\∃fv A n c,e=.returned (.tuple #[fv,.slice A n c,.int .i64 0])/\tU x ms w.heap.size w' fv/\aY w' w'.heap.size A n ((bE x ms).map bN)/\n<=c/\c<=maxLen))
theorem aJ5(h:bY)(x:bO)(h8:x.nodes.length<=8)(A:OA)(n c:Nat)(ms:List Mi)(w:Wo)(r:cQ w w.heap.size h x)(hm:fP w w.heap.size A n ms)(hz:∀m∈ms,m.txt.size<=maxLen)(hn:n<=9223372036854775807)(ht:dM w):Calls Tryz.prog 48 #[.agg h.cells,.slice A n c] w (a1a x ms w):=by
 have Q0:Below w.heap.size w ((w.alloc (.cells h.cells 29)).alloc (.cells #[.pointer none,.slice none 0 0,.slice none 0 0,.slice none 0 0,.slice none 0 0] 95)):=(bA).alloc (by simp) _;have HW:=lH Q0;have P0:=lH ((aG.new w 29 h.cells).alloc (.cells #[.pointer none,.slice none 0 0,.slice none 0 0,.slice none 0 0,.slice none 0 0] 95));have P4:Hid (aG ((w.alloc (.cells h.cells 29)).alloc (.cells #[.pointer none,.slice none 0 0,.slice none 0 0,.slice none 0 0,.slice none 0 0] 95)) (w.heap.size+1) 95 #[.pointer none,.slice none 0 0,.slice none 0 0,.slice none 0 0,.slice none 0 0]):=lH (aG.new_ (by simp));obtain⟨HX,HM,HT,HZ⟩:=iK (r.up Q0) (hm.bm Q0) (ht.up Q0) hz;have dZ:Hid (((w.alloc (.cells h.cells 29)).alloc (.cells #[.pointer none,.slice none 0 0,.slice none 0 0,.slice none 0 0,.slice none 0 0] 95)).heap.size=w.heap.size+1+1):=lH (by simp);clear Q0 hm r ht hz;obtain⟨D0,r0,s0,D1,r1,s1,D2,r2,s2,D3,r3,s3,D4,r4,s4,D5,r5,s5⟩:=h;go_enter Tryz.func48,Tryz.ntmps48
 go_upto_region 1 with fail
 generalize (w.alloc (.cells (bY.cells ⟨D0,r0,s0,D1,r1,s1,D2,r2,s2,D3,r3,s3,D4,r4,s4,D5,r5,s5⟩) 29)).alloc (.cells #[.pointer none,.slice none 0 0,.slice none 0 0,.slice none 0 0,.slice none 0 0] 95)=W at *;obtain⟨y0,y1,y2,y3,y4,y5,nf,nlt⟩:=aW P0.o;dsimp only at y0 y1 y2 y3 y4 y5
 go_wp2_with fail
 refine(AG _ x A n c ms W HX.o HM.o HZ.o hn HT.o).mono ?_;rintro e w1 ⟨rfl,bC⟩;have bT:=lH bC;clear bC y0 y1 y2 y3 y4 y5 nf nlt;have HC0:=lH (rfl:dJ x ms=dJ x ms);by_cases mI:dJ x ms=0
 ·obtain⟨ok,hl,mZ⟩:=oI mI
  obtain⟨hv,zR⟩:=B_ mI;obtain⟨HC,bU,AU,HL,HV⟩:=kN mI ok mZ hl hv;have YO:=lH zR;rw[mI];clear ok hl mZ hv zR mI;have PNX:=P0.o.bl bT.o;obtain⟨y0,y1,y2,y3,y4,y5,nf,nlt⟩:=aW PNX;dsimp only at y0 y1 y2 y3 y4 y5;clear PNX;have HN:Hid (n<=64):=lH (by have h1:=HM.o.1;have h2:=HL.o;omega);(go_wp2_with fail);refine(PL _ x bU.o h8 A n c ms w1 (HX.o.up bT.o) (HM.o.bm bT.o) HN.o AU.o HV.o YO.o).mono ?_;rintro e w2 ⟨bH,iO⟩;have cH:=bW bT bH;clear bH y0 y1 y2 y3 y4 y5 nf nlt;rcases iO with⟨gY,g,A1,c1,rfl⟩ | ⟨gY,fv,rfl,NA⟩
  ·have HR:=lH gY
   clear gY;have P6:=lH (P4.o.bl cH.o);obtain⟨z0,z1,z2,z3,z4,zf,zl⟩:=P6.o.e5;(go_wp2_with fail);have hq:=(rY (v0:=.pointer none) (v1:=.slice none 0 0) (v2:=.slice none 0 0) (v3:=.slice none 0 0) (v4:=.slice none 0 0) P6.o).alloc (.cells #[.pointer (some ⟨g,0,none⟩),.slice A1 ms.length c1,.slice none 0 0,.slice none 0 0,.slice none 0 0] 95);obtain⟨p0,p1,p2,p3,p4⟩:=hq.a5;exact bodyPost_ret (v:=.tuple #[.agg #[.pointer none,.slice none 0 0,.slice none 0 0,.slice none 0 0,.slice none 0 0],.slice none 0 0,.int .i64 8]) (by simp[results,Tryz.results48,go_sem,p0,p1,p2,p3,p4]) rfl ⟨(mS (HW.o.trans (cH.o.mono (by have:=dZ.o;omega))) (Nat.le_succ _)).alloc (by have:=cH.o.size;have:=dZ.o;simp[World.setCell];omega) _,.inl ⟨8,by decide,.inr (.inl ⟨HC.o,HR.o,rfl⟩),_,_,_,_,_,_,_,_,_,_,_,_,_,rfl⟩⟩
  ·have HR:=lH gY
   have UM:=lH NA;clear gY NA;have hO:Hid (w.heap.size+1<w1.heap.size):=lH (by have:=bT.o.size;have:=dZ.o;omega);obtain⟨g,m,y,A1,c1,gi,ga,B1,d1,rfl,NB,tF,uM,PA,O_,O9,IC⟩:=UM.o;clear NB tF uM PA O_ IC;have hz:=jT w2 (.cells #[.pointer (some ⟨g,0,none⟩),.slice A1 ms.length c1,.slice (some ⟨gi,0,none⟩) (aA x).length (aA x).length,.slice (some ⟨ga,0,none⟩) (aH x) (aH x),.slice B1 ms.length d1] 95);obtain⟨YK,tX,HQ⟩:=d_ hz (aG.new w2 95 #[.pointer (some ⟨g,0,none⟩),.slice A1 ms.length c1,.slice (some ⟨gi,0,none⟩) (aA x).length (aA x).length,.slice (some ⟨ga,0,none⟩) (aH x) (aH x),.slice B1 ms.length d1]) (O9.bm hz);clear hz O9;(go_upto_region 7 with fail);generalize w2.alloc (.cells #[.pointer (some ⟨g,0,none⟩),.slice A1 ms.length c1,.slice (some ⟨gi,0,none⟩) (aA x).length (aA x).length,.slice (some ⟨ga,0,none⟩) (aH x) (aH x),.slice B1 ms.length d1] 95)=wz at *;generalize hgt:w2.heap.size=gt at *;have HGT:=lH hgt;clear hgt;have x3:=tX.o.cell 3;have xl:=tX.o.lt;have HBZ:Hid (Below W.heap.size W wz):=lH (cH.o.trans (YK.o.mono (by rw[<-HGT.o];exact cH.o.size)));have gP:aH x<=8:=cO (eX bU.o).2 h8;(go_wp2_with fail);refine(mO (some ⟨ga,0,none⟩) (aH x) (aH x) (bE x ms) wz HQ.o (by omega) (HT.o.up HBZ.o)).mono ?_;rintro e w3 ⟨cN,oY,sG⟩;have dY:=bW HBZ cN;have aDc:=lH (tX.o.bl cN);have HZ3:Hid (Below gt w2 w3):=lH (YK.o.trans (cN.mono (cO (Nat.le_of_eq HGT.o.symm) YK.o.size)));obtain⟨zM,vX,P6⟩:=d_ oY sG (P4.o.bl dY.o);have KW:Hid (tU x ms w1.heap.size w3 (.agg #[.pointer (some ⟨g,0,none⟩),.slice A1 ms.length c1,.slice (some ⟨gi,0,none⟩) (aA x).length (aA x).length,.slice (some ⟨ga,0,none⟩) (aH x) (aH x),.slice B1 ms.length d1])):=lH (UM.o.up (by rw[HGT.o];exact HZ3.o));clear cN oY sG YK tX HQ x3 xl UM;obtain⟨z0,z1,z2,z3,z4,zf,zl⟩:=P6.o.e5;have x0:=aDc.o.cell 0;have x1:=aDc.o.cell 1;have x2:=aDc.o.cell 2;have x3:=aDc.o.cell 3;have x4:=aDc.o.cell 4;have xl:=aDc.o.lt;have hq:=rY (v0:=.pointer (some ⟨g,0,none⟩)) (v1:=.slice A1 ms.length c1) (v2:=.slice (some ⟨gi,0,none⟩) (aA x).length (aA x).length) (v3:=.slice (some ⟨ga,0,none⟩) (aH x) (aH x)) (v4:=.slice B1 ms.length d1) P6.o;have HU:=lH (GT (p':=some ⟨g,0,none⟩) (B1:=A1) (k1:=ms.length) (d1:=c1) (B2:=some ⟨gi,0,none⟩) (k2:=(aA x).length) (d2:=(aA x).length) (B3:=some ⟨ga,0,none⟩) (k3:=aH x) (d3:=aH x) (B4:=B1) (k4:=ms.length) (d4:=d1) P6.o);have HQP:=lH hq;have z8:=lH (mS (v0:=.pointer (some ⟨g,0,none⟩)) (v1:=.slice A1 ms.length c1) (v2:=.slice (some ⟨gi,0,none⟩) (aA x).length (aA x).length) (v3:=.slice (some ⟨ga,0,none⟩) (aH x) (aH x)) (v4:=.slice B1 ms.length d1) (HW.o.trans (dY.o.mono (by have:=dZ.o;omega))) (Nat.le_succ w.heap.size));clear hq;by_cases hf:∀q∈bE x ms,bP q
   ·obtain⟨A6,n6,c6,rfl,rD,h61,h62⟩:=zM.o hf
    have LA:=lH rD;clear rD zM vX;(go_wp2_with fail);obtain⟨p0,p1,p2,p3,p4⟩:=HQP.o.a5;exact bodyPost_ret (v:=.tuple #[.agg #[.pointer (some ⟨g,0,none⟩),.slice A1 ms.length c1,.slice (some ⟨gi,0,none⟩) (aA x).length (aA x).length,.slice (some ⟨ga,0,none⟩) (aH x) (aH x),.slice B1 ms.length d1],.slice A6 n6 c6,.int .i64 0]) (by simp[results,Tryz.results48,go_sem,p0,p1,p2,p3,p4]) rfl ⟨z8.o,.inr ⟨.inr (.inr (.inr ⟨HC.o,HR.o,hf,rfl⟩)),_,_,_,_,rfl,(KW.o.unP HU.o hO.o).low (by have:=hO.o;omega),HU.o.strs LA.o,h61,h62⟩⟩
   ·obtain rfl:=vX.o hf
    clear zM vX;(go_wp2_with fail);obtain⟨p0,p1,p2,p3,p4⟩:=HQP.o.a5;exact bodyPost_ret (v:=.tuple #[.agg #[.pointer (some ⟨g,0,none⟩),.slice A1 ms.length c1,.slice (some ⟨gi,0,none⟩) (aA x).length (aA x).length,.slice (some ⟨ga,0,none⟩) (aH x) (aH x),.slice B1 ms.length d1],.slice none 0 0,.int .i64 2]) (by simp[results,Tryz.results48,go_sem,p0,p1,p2,p3,p4]) rfl ⟨z8.o,.inl ⟨2,by decide,.inr (.inr (.inl ⟨HC.o,HR.o,hf,rfl⟩)),_,_,_,_,_,_,_,_,_,_,_,_,_,rfl⟩⟩
 ·have aOy:(dJ x ms != 0)=true:=by simp[mI]
  have P6:=lH (P4.o.bl bT.o);obtain⟨z0,z1,z2,z3,z4,zf,zl⟩:=P6.o.e5;(go_wp2_with fail);have hq:=(rY (v0:=.pointer none) (v1:=.slice none 0 0) (v2:=.slice none 0 0) (v3:=.slice none 0 0) (v4:=.slice none 0 0) P6.o);obtain⟨p0,p1,p2,p3,p4⟩:=hq.a5;exact bodyPost_ret (v:=.tuple #[.agg #[.pointer none,.slice none 0 0,.slice none 0 0,.slice none 0 0,.slice none 0 0],.slice none 0 0,.int .i64 (dJ x ms)]) (by simp[results,Tryz.results48,go_sem,p0,p1,p2,p3,p4]) rfl ⟨mS (HW.o.trans (bT.o.mono (by have:=dZ.o;omega))) (Nat.le_succ _),.inl ⟨_,mI,.inl ⟨mI,rfl⟩,_,_,_,_,_,_,_,_,_,_,_,_,_,rfl⟩⟩
def a1f(x:bO)(ms:List Mi)(w:Wo)(e:Ending)(w':Wo):Prop:=Below w.heap.size w w'/\((∃c:Int,c≠0/\rK x ms c/\e=.returned (.tuple #[.slice none 0 0,.int .i64 c]))\/
 (rK x ms 0/\∃A n c,e=.returned (.tuple #[.slice A n c,.int .i64 0])/\aY w' w'.heap.size A n ((bE x ms).map bN)/\n<=c/\c<=maxLen))
theorem YE(h:bY)(x:bO)(h8:x.nodes.length<=8)(A:OA)(n c:Nat)(ms:List Mi)(w:Wo)(r:cQ w w.heap.size h x)(hm:fP w w.heap.size A n ms)(hz:∀m∈ms,m.txt.size<=maxLen)(hn:n<=9223372036854775807)(ht:dM w):Calls Tryz.prog 28 #[.agg h.cells,.slice A n c] w (a1f x ms w):=by
 have K0:=jT w (.cells h.cells 29);obtain⟨HK,P0,HF⟩:=d_ K0 (aG.new w 29 h.cells) (aJ5 h x h8 A n c ms (w.alloc (.cells h.cells 29)) (r.up K0) (hm.bm K0) hz hn (ht.up K0));have dZ:Hid (w.heap.size<=(w.alloc (.cells h.cells 29)).heap.size):=lH K0.size;clear K0 hm r ht hz;obtain⟨D0,r0,s0,D1,r1,s1,D2,r2,s2,D3,r3,s3,D4,r4,s4,D5,r5,s5⟩:=h;obtain⟨y0,y1,y2,y3,y4,y5,nf,nlt⟩:=aW P0.o;dsimp only at y0 y1 y2 y3 y4 y5;go_enter Tryz.func28,Tryz.ntmps28
 go_wp2_with fail
 generalize w.alloc (.cells (bY.cells ⟨D0,r0,s0,D1,r1,s1,D2,r2,s2,D3,r3,s3,D4,r4,s4,D5,r5,s5⟩) 29)=W at *;refine HF.o.mono ?_;rintro e w1 ⟨bC,iO⟩;have bT:=lH (HK.o.trans (bC.mono dZ.o));clear bC y0 y1 y2 y3 y4 y5 nf nlt HF;rcases iO with⟨d,hd,tW,p,A1,n1,c1,A2,n2,c2,A3,n3,c3,A4,n4,c4,rfl⟩ | ⟨tW,fv,A6,n6,c6,rfl,⟨g,m,y,A1,c1,gi,ga,B1,d1,rfl,-⟩,rD,h61,h62⟩
 ·have HE:=lH tW
  have HD:=lH hd;clear tW hd;(go_wp2_with fail);go_ret2;exact⟨bT.o.alloc bT.o.size _,.inl ⟨d,HD.o,HE.o,rfl⟩⟩
 ·have HE:=lH tW
  have LA:=lH rD;clear tW rD;(go_wp2_with fail);go_ret2;refine⟨bT.o.alloc bT.o.size _,.inr ⟨HE.o,_,_,_,rfl,?_,h61,h62⟩⟩;have hb:=jT w1 (.cells #[.pointer (some ⟨g,0,none⟩),.slice A1 ms.length c1,.slice (some ⟨gi,0,none⟩) (aA x).length (aA x).length,.slice (some ⟨ga,0,none⟩) (aH x) (aH x),.slice B1 ms.length d1] 95);exact(LA.o.below hb lR).more hb.size
end
section
open Go.ChangeShapes Go.WideShapes Go.ChangeAt Go.RowKit Go.Joins Go.Deep
section
variable {H:Type} {enc:TypeId×Value->H} {w:Wo} {sp:Nat->Bool}
theorem aI_{fuel:Nat}{cs:List Value}{y:DataW H×List MemPlace}(h:DataW.trod enc Tryz.prog w 0 sp true fuel 57 cs=some y):∃x:Mi,cs=x.cells/\x.txt.size<=maxLen:=by
 obtain⟨hl,hf⟩:=nT Tryz.underlying57 (by kernel_rfl) (by kernel_rfl) h;obtain⟨v0,n0,y0,vE,FO⟩:=hf 0 _ rfl;obtain⟨v1,n1,y1,nG,oY⟩:=hf 1 _ rfl;obtain⟨v2,n2,y2,lA,sG⟩:=hf 2 _ rfl;obtain⟨v3,n3,y3,qT,ht3⟩:=hf 3 _ rfl;obtain⟨x0,e0,_⟩:=eI Tryz.underlying3 FO;obtain⟨s,e1,_⟩:=eH Tryz.underlying9 oY;obtain⟨t,e2,k2⟩:=eH Tryz.underlying55 sG;obtain⟨x3,e3,_⟩:=eI Tryz.underlying3 ht3;injection e0 with e0;injection e1 with e1;injection e2 with e2;injection e3 with e3;subst e0;subst e1;subst e2;subst e3;refine⟨⟨x0,s,t,x3⟩,?_,k2⟩;have hl':cs.length=4:=hl
 match cs,hl',vE,nG,lA,qT with
 | [c0,c1,c2,c3],_,vE,nG,lA,qT=>
  simp at vE nG lA qT;subst vE nG lA qT;rfl
theorem aRs{r:Reach}{b0:Nat}{v:Value}{d:DataW H}{p:List MemPlace}(hv:Value.okWide Tryz.prog w r b0 31 v)(h:DataW.Trod enc Tryz.prog w 0 sp true 31 v d p):∃(A:OA)(n c:Nat)(l:List Mi),v=.slice A n c/\n<=c/\c<=maxLen/\(∀m∈l,m.txt.size<=maxLen)/\fP w w.heap.size A n l:=by
 obtain⟨A,n,c,rfl⟩:=okWide_slice Tryz.underlying31 hv;obtain⟨fuel,hf⟩:=h;obtain⟨A',n',c',xs,h1,h2,h3,hl,hq,h4⟩:=kZ Mi.cells 4 (fun x:Mi=>x.txt.size<=maxLen) Tryz.underlying31 (by kernel_rfl) (by omega) Mi.len (fun fu cs' y hy=>aI_ hy) hf;simp[Value.cells] at h1;obtain⟨rfl,rfl,rfl⟩:=h1;exact⟨_,_,_,xs,rfl,h2,h3,hq,⟨hl,h4⟩⟩
end
end
section
open Go.ChangeShapes Go.WideShapes Go.ChangeAt Go.RowKit Go.Joins
attribute [local go_sem ↓] aE
attribute [local go_sem] aJ aI aM aR
theorem WE:eN (w.alloc (.cells #[] 57)) w.heap.size (.slice (some ⟨w.heap.size,0,none⟩) 0 0) []:=Z1 w _ _
section
variable {o:Oper} {a:Act} {w:Wo} {Q:Exit->Act->World->Prop}
end
end
section
open Go.ChangeShapes Go.WideShapes Go.ChangeAt Go.RowKit
attribute [local go_sem ↓] aE
attribute [local go_sem] aJ aI aM
theorem XV(A:OA)(n c:Nat)(zs:List Int)(z:Int)(w:Wo)(hr:o_ w w.heap.size A n zs)(hn:n<=9223372036854775807):Calls Tryz.prog 30 #[.slice A n c,.int .i64 z] w fun e w'=>e=.returned (.bool (zs.any (· == z)))/\w=w':=by
 have dW:=lH hr.len;go_enter Tryz.func30,Tryz.ntmps30
 go_wp2_with fail
 go_loop [6,9] (fun _ i=>∃k:Nat,k<=n/\i=.int .i64 k/\zs.any (· == z)=(zs.drop k).any (· == z)) (fun _ i=>n-(intOf i).toNat)
 case atStart=>exact⟨0,by omega,rfl,rfl⟩
 case round=>
  obtain⟨k,hk,rfl,CK⟩:=hrel;have uU:=lH CK;clear CK;by_cases aU:k<n
  ·obtain⟨y,hy⟩:∃y,zs[k]?=some y:=eA (by have:=dW.out;omega)
   obtain⟨b,off,rfl,S8,_⟩:=hr.2 (by omega);have jI:=hr.at_ hy;have HZ:=lH (cM hy);clear hy;cases hp:(y == z) with
   | true=>
    have HP:=lH hp;(go_wp2_with fail);go_ret;exact⟨kI (by rw[uU.o,HZ.o];simp[HP.o]),rfl⟩
   | false=>
    have HP:=lH hp;(go_wp2_with fail)
    go_round
    case rel=>exact⟨k+1,by omega,by go_num,by rw[uU.o,HZ.o];simp[HP.o]⟩
    case measure=>simp[intOf];omega
  ·have hd:zs.drop k=[]:=by rw[List.drop_eq_nil_iff];have:=dW.out;omega
   have HD:=lH hd;clear hd;(go_wp2_with fail);go_ret;exact⟨kI (by rw[uU.o,HD.o];rfl),rfl⟩
end
section
open Go.ChangeShapes Go.WideShapes Go.ChangeAt Go.RowKit
attribute [local go_sem ↓] aE
attribute [local go_sem] aJ aI aM aR
theorem WD:bK rF (w.alloc (.cells #[] 93)) w.heap.size 93 1 (.slice (some ⟨w.heap.size,0,none⟩) 0 0) 0 []:=
 ⟨rfl,.inr ⟨w.heap.size,0,#[],rfl,lR,aG.new w _ _,lR,by simp[maxLen],rfl,rfl,fun u hu=>by simp at hu⟩⟩
theorem IP{ops:Array Oper}{rest:List Oper}{o:Oper}{a:Act}{w:Wo}{Q:Exit->Act->World->Prop}(AK:o.guard=none)(s x:Operand)(t:TypeId)(ho:o.op=.call { callee:=.builtin .append,args:=#[s,x],argTypes:=#[t,t] })(base:Nat)(ht:Tryz.prog.underlying t=some (.slice 93))(v:Value)(hs:List Hd)(O5:a.eval s=v)(bB:bK rF w base 93 1 v hs.length (hs.map Hd.val))(A:OA)(m c:Nat)(h2:List Hd)(hm:h2.length=m)(hx:a.eval x=.slice A m c)(hr:Rd w w.heap.size 1 A m (h2.map Hd.val))(xC:hs.length+m<=1000000000)(cS:base<=w.heap.size)(N:Nat)(hN:(hs++h2).length=N)(h:∀A' c' w',bK rF w' base 93 1 (.slice A' N c') (hs++h2).length ((hs++h2).map Hd.val)->Below base w w'->d8 rF base 93 w w'->wpList Tryz.prog ops Q rest (a.put o.dst (.slice A' N c')) w'):wpList Tryz.prog ops Q (o::rest) a w:=by
 refine wpList_plain AK fun K hK=>?_;exact U_ s x t ho base ht v hs O5 bB A m c h2 hm hx hr xC cS N hN fun A' c' w' a1 a2 a3=>hK _ _ (h A' c' w' a1 a2 a3)
theorem aOQ(A:OA)(n c:Nat)(hs:List Hd)(w:Wo)(hl:hs.length=n)(hr:Rd w w.heap.size 1 A n (hs.map Hd.val))(hn:n<=1000000):Calls Tryz.prog 89 #[.slice A n c] w fun e w'=>Below w.heap.size w w'/\∃A' c',e=.returned (.slice A' n c')/\bK rF w' w.heap.size 93 1 (.slice A' n c') hs.length (hs.map Hd.val):=by
 have q22:∀(w:Wo)(a:OA)(n c n' c':Nat),(binOp .eql 92 (.slice a n c) (.slice none n' c')).run Tryz.prog w=.ok (.bool a.isNone) w:=fun w a n c n' c'=>Lib.run_eql_slice_nil w _ _ a n c n' c' Tryz.underlying92;have HL:=lH hl;have HR:=lH hr;cases A with
 | none=>
  have h0:n=0:=by
   rcases Nat.eq_zero_or_pos n with h | h
   ·exact h
   ·obtain⟨b,off,e,_⟩:=hr.2 h;cases e
  subst h0;have aCh:hs=[]:=List.eq_nil_of_length_eq_zero hl;subst aCh;clear hl hr HL HR;go_enter Tryz.func89,Tryz.ntmps89
  (go_wp2_with fail);go_ret;exact⟨bR,none,0,rfl,eQ _ _ _ _ _⟩
 | some ad=>
  clear hl hr;have hz:=jT w (.cells #[] 93);have HZ:=lH hz;clear hz;go_enter Tryz.func89,Tryz.ntmps89
  go_wp2_with (at_builtin;refine IP rfl _ _ 92 rfl w.heap.size Tryz.underlying92 _ [] rfl WD (some ad) n c hs HL.o rfl ?qc1 ?qc2 ?qc3 n ?qc4 ?_)
  case qc1=>exact(HR.o.below HZ.o lR).more HZ.o.size
  case qc2=>simp only[zW_];omega
  case qc3=>exact HZ.o.size
  case qc4=>rw[List.nil_append];exact HL.o
  intro A' c' w' ho hb _;have HO:Hid (bK rF w' w.heap.size 93 1 (.slice A' n c') hs.length (hs.map Hd.val)):=lH ho;have HB:=lH (HZ.o.trans hb);clear ho hb;(go_wp2_with fail);go_ret;exact⟨HB.o,A',c',rfl,HO.o⟩
theorem FY(A:OA)(n c:Nat)(ms:List Mi)(w:Wo)(hr:fP w w.heap.size A n ms)(hn:n<=1000000):Calls Tryz.prog 52 #[.slice A n c] w fun e w'=>Below w.heap.size w w'/\∃A' c',e=.returned (.slice A' n c')/\eN w' w.heap.size (.slice A' n c') ms:=by
 have q22:∀(w:Wo)(a:OA)(n c n' c':Nat),(binOp .eql 31 (.slice a n c) (.slice none n' c')).run Tryz.prog w=.ok (.bool a.isNone) w:=fun w a n c n' c'=>Lib.run_eql_slice_nil w _ _ a n c n' c' Tryz.underlying31;have HR:=lH hr;cases A with
 | none=>
  have h0:n=0:=by
   rcases Nat.eq_zero_or_pos n with h | h
   ·exact h
   ·obtain⟨b,off,e,_⟩:=hr.2.2 h;cases e
  subst h0;have aCh:ms=[]:=List.eq_nil_of_length_eq_zero hr.1;subst aCh;clear hr HR;go_enter Tryz.func52,Tryz.ntmps52
  (go_wp2_with fail);go_ret;exact⟨bR,none,0,rfl,JG _ _⟩
 | some ad=>
  clear hr;have hz:=jT w (.cells #[] 57);have HZ:=lH hz;clear hz;go_enter Tryz.func52,Tryz.ntmps52
  go_wp2_with (at_builtin;refine BE rfl _ _ 31 rfl w.heap.size Tryz.underlying31 _ [] rfl WE (some ad) n c ms rfl ?qc1 ?qc2 ?qc3 n ?qc4 ?_)
  case qc1=>exact(HR.o.below HZ.o lR).more HZ.o.size
  case qc2=>simp only[zW_];omega
  case qc3=>exact HZ.o.size
  case qc4=>rw[List.nil_append];exact HR.o.1
  intro A' c' w' ho hb _;have HO:Hid (eN w' w.heap.size (.slice A' n c') ms):=lH ho;have HB:=lH (HZ.o.trans hb);clear ho hb;(go_wp2_with fail);go_ret;exact⟨HB.o,A',c',rfl,HO.o⟩
def tJ(x:bO)(al:List Rat)(m:Mi):Mi:={ m with txt:=bN (mU x al m) }
def ExP(x:bO)(ms:List Mi)(ss:List ByteArray)(w:Wo)(e:Ending)(w':Wo):Prop:=Below w.heap.size w w'/\((iZ x ms ss≠0/\e=.returned (.tuple #[.slice none 0 0,.int .i64 (iZ x ms ss)]))\/
 (iZ x ms ss=0/\((∀q∈eT x ms ss,bP q)->∃A c,e=.returned (.tuple #[.slice A ms.length c,.int .i64 0])/\eN w' w.heap.size (.slice A ms.length c) (ms.map (tJ x (ss.map gC))))/\(¬(∀q∈eT x ms ss,bP q)->e=.returned (.tuple #[.slice none 0 0,.int .i64 2]))))
theorem WX(h:bY)(x:bO)(h8:x.nodes.length<=8)(A:OA)(n c:Nat)(ms:List Mi)(B:OA)(mm d:Nat)(ss:List ByteArray)(w:Wo)(r:cQ w w.heap.size h x)(hm:fP w w.heap.size A n ms)(hR:aY w w.heap.size B mm ss)(hz:∀m∈ms,m.txt.size<=maxLen)(hs:∀s∈ss,s.size<=maxLen)(hn:n<=1000000)(xA:mm<=9223372036854775807)(ht:dM w):Calls Tryz.prog 36 #[.agg h.cells,.slice A n c,.slice B mm d] w (ExP x ms ss w):=by
 have K0:=jT w (.cells h.cells 29);obtain⟨HK,P0,HM⟩:=d_ K0 (aG.new w 29 h.cells) (hm.bm K0);have mA:Hid (ms.length=n):=lH hm.1;have YR:=lH (yD h x h8 A n c ms B mm d ss (w.alloc (.cells h.cells 29)) (r.up K0) HM.o (hR.bm K0) hz hs (by omega) xA (ht.up K0));have dZ:Hid (w.heap.size<=(w.alloc (.cells h.cells 29)).heap.size):=lH K0.size;have HEP:Hid (∀e w',ExP x ms ss w e w'<->(Below w.heap.size w w'/\((iZ x ms ss≠0/\e=.returned (.tuple #[.slice none 0 0,.int .i64 (iZ x ms ss)]))\/
 (iZ x ms ss=0/\((∀q∈eT x ms ss,bP q)->∃A c,e=.returned (.tuple #[.slice A ms.length c,.int .i64 0])/\eN w' w.heap.size (.slice A ms.length c) (ms.map (tJ x (ss.map gC))))/\(¬(∀q∈eT x ms ss,bP q)->e=.returned (.tuple #[.slice none 0 0,.int .i64 2])))))):=lH fun e w'=>Iff.rfl
 have HRP:Hid (∀e w',aHe x ms ss (w.alloc (.cells h.cells 29)) e w'->(Below (w.alloc (.cells h.cells 29)).heap.size (w.alloc (.cells h.cells 29)) w'/\((iZ x ms ss≠0/\e=.returned (.tuple #[.slice none 0 0,.int .i64 (iZ x ms ss)]))\/
 (iZ x ms ss=0/\((∀q∈eT x ms ss,bP q)->∃A n c,e=.returned (.tuple #[.slice A n c,.int .i64 0])/\aY w' w'.heap.size A n ((eT x ms ss).map bN)/\n<=c/\c<=maxLen)/\(¬(∀q∈eT x ms ss,bP q)->e=.returned (.tuple #[.slice none 0 0,.int .i64 2])))))):=lH fun e w' h=>h
 generalize iZ x ms ss=re at *;clear K0 hm hR r ht hs hz;obtain⟨D0,r0,s0,D1,r1,s1,D2,r2,s2,D3,r3,s3,D4,r4,s4,D5,r5,s5⟩:=h;obtain⟨y0,y1,y2,y3,y4,y5,nf,nlt⟩:=aW P0.o;dsimp only at y0 y1 y2 y3 y4 y5;go_enter Tryz.func36,Tryz.ntmps36
 go_wp2_with fail
 generalize w.alloc (.cells (bY.cells ⟨D0,r0,s0,D1,r1,s1,D2,r2,s2,D3,r3,s3,D4,r4,s4,D5,r5,s5⟩) 29)=W at *;refine YR.o.mono ?_;intro e w1 hh;obtain⟨bC,iO⟩:=HRP.o e w1 hh;have bT:=lH bC;clear hh bC y0 y1 y2 y3 y4 y5 nf nlt YR HRP;rcases iO with⟨QT,rfl⟩ | ⟨QT,tF,uM⟩
 ·have hB:(re != 0)=true:=by simp[QT]
  have HRE:=lH QT;clear QT;(go_wp2_with fail);go_ret2;rw[HEP.o];exact⟨HK.o.trans (bT.o.mono dZ.o),.inl ⟨HRE.o,rfl⟩⟩
 ·subst QT
  by_cases hf:∀q∈eT x ms ss,bP q
  ·obtain⟨A2,n2,c2,rfl,wY,h21,h22⟩:=tF hf
   have HF:=lH hf;have HS:=lH wY;have iI:Hid (n2=n):=lH (by rw[<-wY.1,jO];unfold eT;rw[jO];exact mA.o);have UY:=iI.o;subst UY;clear hf tF uM wY;(go_wp2_with fail);refine(FY A n2 c ms w1 (HM.o.bm bT.o) hn).mono ?_;rintro e w2 ⟨bH,A3,c3,rfl,ho⟩;have cH:=bW bT bH;have HO:Hid (eN w2 w1.heap.size (.slice A3 n2 c3) ms):=lH ho;have nO:=lH (HS.o.bm bH);have LX:Hid (aY w2 w1.heap.size A2 n2 ((eT x ms ss).map bN)):=lH (HS.o.below bH lR);have L5:Hid (w.heap.size<=w1.heap.size):=lH (by have h1:=dZ.o;have h2:=bT.o.size;omega);have HZ2:Hid (w1.heap.size<=w2.heap.size):=lH bH.size;clear bH ho HS HM;(go_wp2_with fail)
   go_loopw [26] (fun v26 wr=>∃i:Nat,i<=n2/\v26=.int .i64 i/\eN wr w1.heap.size (.slice A3 n2 c3) ((ms.take i).map (tJ x (ss.map gC))++ms.drop i)/\Below w1.heap.size w2 wr) (fun v26 _=>n2-(intOf v26).toNat)
   case atStart=>exact⟨0,by omega,rfl,HO.o,bR⟩
   case round=>
    obtain⟨i,hi,rfl,ho,hb⟩:=hrel;have HO:=lH ho;have HB:=lH hb;clear ho hb;by_cases aU:i<n2
    ·obtain⟨mi,mZ⟩:∃mi,ms[i]?=some mi:=eA (by have:=mA.o;omega)
     have aSy:((ms.take i).map (tJ x (ss.map gC))++ms.drop i)[i]?=some mi:=by
      rw[DN (by rw[jO,kR];omega),jO,kR,List.getElem?_drop,show i+(i-min i ms.length)=i from by have:=mA.o;omega];exact mZ
     have IK:Hid (ms.take (i+1)=ms.take i++[mi]):=lH (fE mZ);obtain⟨g,hA,yJ,zV,c0,c1,c2',c3',cf,JT⟩:=HO.o.at_ aSy;subst hA;obtain⟨GN,Y2,AU⟩:=d_ JT yJ mZ;have hsr:=LX.o.below HB.o lR;have aNN:=hsr.more (cO HZ2.o HB.o.size);obtain⟨sb,so,LR,GA⟩:=aNN.form (by omega);subst LR;have s0':=aNN.at_ (i:=i) (x:=bN (mU x (ss.map gC) mi)) (by rw[iY];unfold eT;rw[iY,mZ];rfl);have fY:(i:Int)<(n2:Int):=by omega
     have lB:=lZ i;have rJ:=jF i;have l9:=lN i;have jV:Hid (n2-(i+1)<n2-i):=lH (by omega);clear c0 c1 c3' JT aSy yJ hsr aNN mZ;(go_wp2_with fail);go_roundw
     case rel=>exact⟨i+1,aU,aO l9.o,by
      have h:=GN.o 2 (.string (bN (mU x (ss.map gC) mi))) (tJ x (ss.map gC) mi) (by decide) rfl;have e:((ms.take i).map (tJ x (ss.map gC))++ms.drop i).set i (tJ x (ss.map gC) mi)=(ms.take (i+1)).map (tJ x (ss.map gC))++ms.drop (i+1):=by
       have hl:((ms.take i).map (tJ x (ss.map gC))).length=i:=by rw[jO,kR];have:=mA.o;omega
       rw[List.set_append_right _ _ (by omega),hl,Nat.sub_self,IK.o,List.map_append,List.map_singleton,List.append_assoc];congr 1
       rw[List.drop_eq_getElem_cons (by have:=mA.o;omega)];rfl
      rw[<-e];exact h,HB.o.setCell Y2.o _⟩
     case measure=>exact jV.o
    ·have DG:i=n2:=by omega
     have QE:Hid (eN wr w.heap.size (.slice A3 n2 c3) (ms.map (tJ x (ss.map gC)))):=lH (by
      have h:=HO.o;rw[nL (by have:=mA.o;omega),List.drop_eq_nil_iff.2 (by have:=mA.o;omega),List.append_nil] at h;exact h.mono L5.o)
     have fY:¬(i:Int)<(n2:Int):=by omega
     have HBE:=lH (HK.o.trans ((cH.o.trans (HB.o.mono bT.o.size)).mono dZ.o));(go_wp2_with fail);go_ret2;rw[HEP.o];exact⟨HBE.o,.inr ⟨by trivial,fun _=>⟨A3,c3,by rw[mA.o];rfl,by rw[mA.o];exact QE.o⟩,fun h=>absurd HF.o h⟩⟩
  ·obtain rfl:=uM hf
   have HF:=lH hf;clear hf tF uM;(go_wp2_with fail);go_ret2;rw[HEP.o];exact⟨HK.o.trans (bT.o.mono dZ.o),.inr ⟨by trivial,fun h=>absurd h HF.o,fun _=>rfl⟩⟩
end
section
open Go.ChangeShapes Go.WideShapes Go.ChangeAt Go.RowKit
theorem WC:l7 (w.alloc (.cells #[] 55)) w.heap.size (.slice (some ⟨w.heap.size,0,none⟩) 0 0) []:=
 ⟨rfl,.inr ⟨w.heap.size,0,#[],rfl,lR,aG.new w _ _,lR,by simp[maxLen],rfl,rfl,fun u hu=>by simp at hu⟩⟩
theorem aJt:(Tryz.prog.info? 55).map (fun i=>(i.zero,i.size,i.bytes))=some (some (.string ⟨#[]⟩),1,16):=by kernel_rfl
theorem N6{ops:Array Oper}{rest:List Oper}{o:Oper}{a:Act}{Q:Exit->Act->World->Prop}{w:Wo}(AK:o.guard=none)(s x:Operand)(t:TypeId)(ho:o.op=.call { callee:=.builtin .append,args:=#[s,x],argTypes:=#[t,t] })(base:Nat)(ht:Tryz.prog.underlying t=some (.slice 55))(v:Value)(xs:List ByteArray)(O5:a.eval s=v)(bB:l7 w base v xs)(A:OA)(m c:Nat)(ys:List ByteArray)(hx:a.eval x=.slice A m c)(hr:aY w w.heap.size A m ys)(xC:(xs.length+m)*16<=140737488355328)(cS:base<=w.heap.size)(N:Nat)(hN:(xs++ys).length=N)(h:∀A' c' w',l7 w' base (.slice A' N c') (xs++ys)->Below base w w'->wpList Tryz.prog ops Q rest (a.put o.dst (.slice A' N c')) w'):wpList Tryz.prog ops Q (o::rest) a w:=by
 obtain⟨i0,kA,rU,jR,kS⟩:=info_parts aJt;have hm:=hr.1;refine oS (S:=aVJ) AK s x t ho base 55 i0 _ 1 16 ht kA rU jR kS rfl (by omega) (fun _ _=>trivial) v xs.length (fN xs) O5 bB A m c (fN ys) hx hr.2 (fun u hu=>?_) (by simp only[maxLen];omega) (by omega) cS fun v' w' h1 h2 _ _=>?_
 ·unfold fN at hu
  obtain⟨b,-,rfl⟩:=List.mem_map.1 hu;exact⟨rfl,trivial⟩
 ·have h3:l7 w' base v' (xs++ys):=by
   unfold l7;have e:fN (xs++ys)=fN xs++fN ys:=List.map_append;rw[e,jW,hm];exact h1
  obtain⟨A',c',e,-⟩:=bK.shape h3;subst e;subst hN;exact h A' c' w' h3 h2.low
def uN(F:List Nat)(ss:List ByteArray):List ByteArray:=ss.mapIdx fun i s=>if(d9 F).any (· == (i:Int)) then s else⟨#[48]⟩
theorem tG{ss:List ByteArray}:(uN F ss).length=ss.length:=by unfold uN;rw[List.length_mapIdx]
theorem PH{ss:List ByteArray}{s:ByteArray}(h:ss[i]?=some s):(uN F ss)[i]?=some (if(d9 F).any (· == (i:Int)) then s else⟨#[48]⟩):=by
 unfold uN;rw[List.getElem?_mapIdx,h];rfl
theorem aGn{ss:List ByteArray}{s:ByteArray}(h:ss[i]?=some s):(uN F ss).take (i+1)=(uN F ss).take i++[if(d9 F).any (· == (i:Int)) then s else⟨#[48]⟩]:=fE (PH h)
theorem aE6:(d9 F).any (· == (i:Int))=true<->i∈F:=by
 unfold d9;rw[List.any_eq_true]
 constructor
 ·rintro⟨z,hz,e⟩
  obtain⟨j,hj,rfl⟩:=List.mem_map.1 hz;have:(j:Int)=(i:Int):=by simpa using e
  rwa[show i=j by omega]
 ·intro h
  exact⟨(i:Int),List.mem_map.2 ⟨i,h,rfl⟩,by simp⟩
theorem aDN:cI (⟨#[48]⟩:ByteArray).data.toList=0/\gC ⟨#[48]⟩=0:=by decide+kernel
theorem aJ1{ss:List ByteArray}(hl:ss.length=aH x):ZB x ((uN (aA x) ss).map gC):=⟨by rw[jO,tG,hl],fun j hj hf=>by
 obtain⟨t,ht⟩:∃t,ss[j]?=some t:=eA (by omega);refine fW ?_;rw[iY,PH ht,if_neg,Option.map_some,aDN.2];rw[aE6];intro hm;obtain⟨i,hi⟩:=List.mem_iff_getElem?.1 hm;have:=(xZ (p:=dX (eJ x)) (n:=aH x) hi).1;rw[hf] at this;cases this⟩
end
section
theorem Zt.mul{D E:Int}{H H':Nat}{p q:Rat}(hp:Zt D H p)(hq:Zt E H' q):Zt (D*E) (H*H') (p*q):=by
 obtain⟨a,h1,h2⟩:=hp;obtain⟨b,h3,h4⟩:=hq;refine⟨a*b,?_,?_⟩
 ·rw[Rat.intCast_mul,Rat.intCast_mul,<-h1,<-h3]
  grind
 ·rw[Int.natAbs_mul]
  exact Nat.mul_le_mul h2 h4
section
variable {x:bO} {ms:List Mi}
end
theorem J3:bN 0=⟨#[48]⟩/\bN (-5)=⟨#[45,53]⟩/\bN (-6)=⟨#[45,54]⟩/\bN 5=⟨#[53]⟩/\bN 2=⟨#[50]⟩/\bN 1=⟨#[49]⟩:=by decide+kernel
theorem AL{q:Rat}(h:q.num.natAbs<10^5/\q.den<10^5):bP q:=Tn.fits (k:=5) h (by decide)
end
section
open Go.ChangeShapes Go.WideShapes Go.ChangeAt Go.RowKit
attribute [local go_sem ↓] aE
attribute [local go_sem] aJ aI aM aR
theorem aBV{ss:List ByteArray}(h:∀q∈eT x ms ss,bP q):∀m∈ms,bP (mU x (ss.map gC) m):=fun m hm=>h _ (List.mem_map.2 ⟨m,hm,rfl⟩)
theorem aJ8{al:List Rat}(hf:∀m∈ms,bP (mU x al m)):∀m∈ms.map (tJ x al),m.txt.size<=maxLen:=fun m hm=>by
 obtain⟨m0,h0,rfl⟩:=List.mem_map.1 hm;exact qH (hf m0 h0)
end
section
theorem aNf(h8:x.nodes.length<=8)(h10:x.brs.length<=10)(k8:ms.length<=8)(hz:∀m∈ms,m.txt.size<=24)(hc:dJ x ms=0):Sml x ms:=by
 obtain⟨h1,-,h2⟩:=oI hc;obtain⟨h3,h4⟩:=B_ hc;exact⟨h1,h8,h10,k8,h2,fun m hm=>ZJ (h3 m hm) (hz m hm),h4⟩
theorem OV(h8:x.nodes.length<=8)(hc:dJ x ms=0):CZ x ms:=by
 obtain⟨h1,h2,h3⟩:=oI hc;obtain⟨h4,h5⟩:=B_ hc;exact⟨h1,h8,h2,h3,h4,h5⟩
section
variable {x:bO} {ms:List Mi}
end
section
variable {rs ss:List Rat} {n:Nat} {b:Int}
theorem gH.stay{j:Nat}(h:gH rs ss n (j:Int))(hq:¬QO rs ss j<QO rs ss n):gH rs ss (n+1) (j:Int):=by
 rcases h with⟨h1,-⟩ | ⟨j',h1,h2,h3,h4,h5⟩
 ·omega
 ·have e:j'=j:=by omega
  subst e;exact .inr ⟨j',rfl,by omega,h3,fun i hi hw=>by
   by_cases e:i=n
   ·rw[e];grind
   ·exact h4 i (by omega) hw,h5⟩
theorem aAJ{p q:Rat}:0<X7 p q<->q<p:=by
 unfold X7;rw[<-Rat.not_le];have h5:=Rat.le_iff p q;rw[h5]
 constructor
 ·intro h FQ
  rcases Int.lt_trichotomy (p.num*(q.den:Int)-q.num*(p.den:Int)) 0 with c | c | c
  ·rw[Int.sign_eq_neg_one_of_neg c] at h;omega
  ·rw[c] at h;exact absurd h (by decide)
  ·omega
 ·intro h
  have c:0<p.num*(q.den:Int)-q.num*(p.den:Int):=by omega
  rw[Int.sign_eq_one_of_pos c];decide
theorem ZN{p:Rat}:(p.num.sign == 0)=decide (p=0):=by
 have h1:p.num.sign=0<->p=0:=by
  rw[Int.sign_eq_zero_iff_zero];exact Rat.num_eq_zero
 by_cases h:p=0
 ·rw[h1.2 h,decide_eq_true h];rfl
 ·rw[decide_eq_false h]
  exact beq_eq_false_iff_ne.2 (fun e=>h (h1.1 e))
end
section
variable {x:bO} {ms:List Mi}
theorem X1(h:CZ x ms)(hr:mX x ms){k:Nat}(hk:k<ms.length)(hs:vf (cR x ms) k≠0):mX x (ms.eraseIdx k):=by
 have hp:(cU x ms).Pos:=AH fun m hm=>(h.wt m hm).1;rw[fW (t6 h.ok h.mi hk)] at hs;refine(xH fun m hm=>(h.wt m (List.mem_of_mem_eraseIdx hm)).1).2 fun c hc=>?_;have FQ:(ms.eraseIdx k).length=ms.length-1:=List.length_eraseIdx_of_lt hk;have aLH:∀j,j<ms.length->j≠k->aP (cU x ms).n ((cU x ms).R j) c=0:=fun j hj bX=>by
  obtain⟨m,hm⟩:∃m,ms[j]?=some m:=⟨_,iB hj⟩;rw[EJ hm];by_cases hjk:j<k
  ·have e:(ms.eraseIdx k)[j]?=some m:=by rw[List.getElem?_eraseIdx_of_lt hjk];exact hm
   have:=hc j (by omega);rw[EJ e] at this;exact this
  ·have e:(ms.eraseIdx k)[j-1]?=some m:=by
    rw[List.getElem?_eraseIdx_of_ge (by omega),show j-1+1=j by omega];exact hm
   have:=hc (j-1) (by omega);rw[EJ e] at this;exact this
 have XM:aP (cU x ms).n ((cU x ms).R k) c=0:=by
  by_cases e:aP (cU x ms).n ((cU x ms).R k) c=0
  ·exact e
  ·exact absurd ((sU hr k).spr_of hp hk aLH e) hs
 exact(xH fun m hm=>(h.wt m hm).1).1 hr c fun j hj=>by
  by_cases e:j=k
  ·rw[e];exact XM
  ·exact aLH j hj e
theorem D9(h:CZ x ms){k:Nat}(hk:k<ms.length):vf (aQ x ms (bE x ms)) k=(cU x ms).res (LS x (bE x ms)) k:=fW (aBF h.ok h.mi aJ_ hk)
end
end
