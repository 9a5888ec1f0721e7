import Derived.Test.YthgdchffeigkbaaGreatDoorW16
set_option linter.unusedVariables false
set_option linter.unusedSimpArgs false
namespace Go.Proofs.YthgdchffeigkbaaGreatDoor
set_option maxHeartbeats 8000000
set_option maxRecDepth 100000
variable {A A1 A2 A3 A4 p : OA} {B0 c c1 c2 c3 c4 g gp i n n1 n2 n3 n4 t : Nat} {a w w' : World} {cs : Array Value} {fv y : Value} {ms : List Mi} {x : bK}
section
open Go.ChangeShapes Go.WideShapes Go.ChangeAt Go.RowKit
theorem aDi(h:aD w g t cs)(hy:cs[i]?=some y):w.setCell ⟨g,i,none⟩ y=w:=by
 have e:w.heap.modify g (fun | .cells c elem frozen=>.cells (c.setIfInBounds i y) elem frozen | o=>o)=w.heap:=by
  apply Array.ext_getElem?;intro j;rw[Array.getElem?_modify];split
  ·rename_i hj
   subst hj;unfold aD at h;rw[h];simp only[Option.map_some];congr 2
   apply Array.ext_getElem?;intro k;rw[Array.getElem?_setIfInBounds];split
   ·rename_i hk
    subst hk;have:=(Array.getElem?_eq_some_iff.1 hy).1;rw[if_pos this,hy]
   ·rfl
  ·rfl
 have e2:w.setCell ⟨g,i,none⟩ y={ w with heap:=w.heap.modify g (fun | .cells c elem frozen=>.cells (c.setIfInBounds i y) elem frozen | o=>o) }:=rfl;rw[e2,e]
theorem aAn{z:Value}(h:aD w g t cs):(w.setCell ⟨g,i,none⟩ y).setCell ⟨g,i,none⟩ z=w.setCell ⟨g,i,none⟩ z:=by
 have e:(w.heap.modify g (fun | .cells c elem frozen=>.cells (c.setIfInBounds i y) elem frozen | o=>o)).modify g (fun | .cells c elem frozen=>.cells (c.setIfInBounds i z) elem frozen | o=>o)=w.heap.modify g (fun | .cells c elem frozen=>.cells (c.setIfInBounds i z) elem frozen | o=>o):=by
  apply Array.ext_getElem?;intro j;rw[Array.getElem?_modify,Array.getElem?_modify,Array.getElem?_modify];split
  ·rename_i hj
   subst hj;unfold aD at h;rw[h];simp only[Option.map_some];congr 2
   apply Array.ext_getElem?;intro k;rw[Array.getElem?_setIfInBounds,Array.getElem?_setIfInBounds,Array.getElem?_setIfInBounds,Array.size_setIfInBounds];split<;>rfl
  ·rfl
 have e1:w.setCell ⟨g,i,none⟩ z={ w with heap:=w.heap.modify g (fun | .cells c elem frozen=>.cells (c.setIfInBounds i z) elem frozen | o=>o) }:=rfl;have e2:(w.setCell ⟨g,i,none⟩ y).setCell ⟨g,i,none⟩ z={ w with heap:=(w.heap.modify g (fun | .cells c elem frozen=>.cells (c.setIfInBounds i y) elem frozen | o=>o)).modify g (fun | .cells c elem frozen=>.cells (c.setIfInBounds i z) elem frozen | o=>o) }:=rfl;rw[e1,e2,e]
theorem aLw{z:Value}(h:aD w g t cs)(hy:cs[i]?=some y):(w.setCell ⟨g,i,none⟩ z).setCell ⟨g,i,none⟩ y=w:=by
 rw[aAn h,aDi h hy]
section
variable {w:Wo} {gc g T i n base:Nat} {vs:List Rv} {q:List Rat} {cs:Array Value} {y u v:Value} {fs:List Fh} {ps:List (List Rat×Rat)}
theorem Vb.keepF(f:Vb w gc vs q)(hb:aD w g T cs)(ht:115≠T)(hy:cs[i]?=some y)(hn:vR y):Vb (w.setCell ⟨g,i,none⟩ u) gc vs q:=by
 obtain⟨cs',h1,h2⟩:=f.row;exact⟨⟨cs',h1.far (h1.apart hb ht) u,h2⟩,f.len,fun j t v ht hv=>(f.ok j t v ht hv).keep1 hb hy hn u⟩
theorem fW.keepF(m:fW w base n v fs ps)(hb:aD w g T cs)(h1:115≠T)(h2:117≠T)(hy:cs[i]?=some y)(hn:vR y):fW (w.setCell ⟨g,i,none⟩ u) base n v fs ps:=
 ⟨m.own.far hb h2,m.len,fun j f p hf hp=>by
  obtain⟨a,b,⟨vs,c⟩,d⟩:=m.ok j f p hf hp;exact⟨a,b,⟨vs,c.keepF hb h1 hy hn⟩,d.keep1 hb hy hn u⟩⟩
theorem fW.at_{k:Nat}{p:List Rat×Rat}(m:fW w base n v fs ps)(hp:ps[k]?=some p):∃(fb c:Nat)(f:Fh),v=.slice (some ⟨fb,0,none⟩) ps.length c/\fb<w.heap.size/\(w.cell? ⟨fb,k*5,none⟩=some (.slice (some ⟨f.gc,0,none⟩) n n)/\w.cell? ⟨fb,k*5+1,none⟩=some (.bool f.u.b1)/\w.cell? ⟨fb,k*5+2,none⟩=some (.slice f.u.A f.u.n f.u.c)/\w.cell? ⟨fb,k*5+3,none⟩=some (.bool f.u.b2)/\w.cell? ⟨fb,k*5+4,none⟩=some (.slice f.u.A2 f.u.m f.u.d))/\(∃vs,Vb w f.gc vs p.1)/\p.1.length=n/\cU w w.heap.size p.2 f.u/\∃cur,aD w fb 117 cur:=by
 have hk:=(cY.1 hp).1;obtain⟨f,hf⟩:∃f,fs[k]?=some f:=eE (by rw[m.len];exact hk);obtain⟨a,b,c,d⟩:=m.ok k f p hf hp;rcases m.own.2 with⟨-,h0⟩ | ⟨fb,cap,cur,h1,h2,h3,h4,h5,h6,h7,-⟩
 ·have:=m.len;omega
 ·have key:∀j y,j<5->(Fh.cells n f)[j]?=some y->w.cell? ⟨fb,k*5+j,none⟩=some y:=fun j y hj hy=>by
   rw[h3.cell];have:=kG (fun f:Fh=>(Fh.cells_len f:(Fh.cells n f).length=5)) fs k f hf j hj;rw[hy,<-h7,List.getElem?_take] at this;split at this
   ·rwa[Array.getElem?_toList] at this
   ·cases this
  exact⟨fb,cap,f,by rw[<-m.len];exact h1,h3.lt,⟨key 0 _ (by decide) rfl,key 1 _ (by decide) rfl,key 2 _ (by decide) rfl,key 3 _ (by decide) rfl,key 4 _ (by decide) rfl⟩,c,b,d,cur,h3⟩
end
structure UnM (gf:Nat) (w0 w:Wo):Prop where
 forms:∀{base n:Nat}{v:Value}{fs:List Fh} {ps:List (List Rat×Rat)},fW w0 base n v fs ps->fW w base n v fs ps
 mat:∀{A:OA}{n:Nat} {M:List (List Rat)},jP w0 w0.heap.size A n M->(∀b off,A=some ⟨b,off,none⟩->b≠gf)->jP w w.heap.size A n M
 row:∀{A:OA}{n:Nat}{q:List Rat},iE w0 w0.heap.size A n q->iE w w.heap.size A n q
 rows:∀{base:Nat}{v:Value}{hs:List Hd} {M:List (List Rat)},gP w0 base v hs M->gP w base v hs M
 vec:∀{gc:Nat}{vs:List Rv}{q:List Rat},Vb w0 gc vs q->Vb w gc vs q
theorem LB{B:Nat}{row:Option Nat}(h:a.grownBy w row)(hb:Below B w w')(hB:a.heap.size<=B):a.grownBy w' row:=
 ⟨hb.os.trans h.os,hb.tape.trans h.tape,hb.output.trans h.output,b_ h.size hb.size,fun i hi cG=>(hb.block i (kA hi hB)).trans (h.block i hi cG)⟩
theorem NE{row:Option Nat}(h:a.grownBy w row)(hb:Below w.heap.size w w'):a.grownBy w' row:=LB h hb h.size
theorem X5(row:Option Nat)(h:Below a.heap.size a w):a.grownBy w row:=⟨h.os,h.tape,h.output,h.size,fun i hi _=>h.block i hi⟩
theorem aAK{gz j:Nat}{x:Rv}(h:a.grownBy w (some g))(hz:a.heap.size<=gz):a.grownBy (eG w gz j x) (some g):=
 gK (gK (gK (gK h (.inr hz) _) (.inr hz) _) (.inr hz) _) (.inr hz) _
theorem MU{w0:Wo}{gf:Nat}{cs0:Array Value}(ha:aD w0 gf 95 cs0)(hb:aD w gf 95 cs)(hy:cs[i]?=some y)(IJ:cs.setIfInBounds i (.slice none 0 0)=cs0)(hn:NoB cs0)(hg:w0.grownBy w (some gf)):UnM gf w0 w:=by
 have h0:aD (w.setCell ⟨gf,i,none⟩ (.slice none 0 0)) gf 95 cs0:=hb.set_at _ IJ;have hm:Below w0.heap.size w0 (w.setCell ⟨gf,i,none⟩ (.slice none 0 0)):=⟨hg.os,hg.tape,hg.output,by simpa[World.setCell] using hg.size,fun k hk=>by
  by_cases e:k=gf
  ·subst e
   exact h0.trans ha.symm
  ·exact(Below.heap_setCell w _ _ k e).trans (hg.block k hk (fun e2=>e (by injection e2)))⟩
 have h1:cs0[i]?=some (.slice none 0 0):=by
  rw[<-IJ,Array.getElem?_setIfInBounds,if_pos rfl,if_pos (Array.getElem?_eq_some_iff.1 hy).1]
 have e:(w.setCell ⟨gf,i,none⟩ (.slice none 0 0)).setCell ⟨gf,i,none⟩ y=w:=aLw hb hy;refine⟨fun h=>?_,fun h hA=>?_,fun h=>?_,fun h=>?_,fun h=>?_⟩
 ·have:=(h.keep hm).keepF (u:=y) h0 (by decide) (by decide) h1 iF
  rwa[e] at this
 ·have:=(h.bm hm).keepB (u:=y) h0 hn h1 hA
  rwa[e] at this
 ·have:=(h.bm hm).keepB (u:=y) h0 hn h1
  rwa[e] at this
 ·have:=(h.keep hm).far (u:=y) h0 (by decide) (by decide) h1 iF
  rwa[e] at this
 ·have:=(h.up hm).keepF (u:=y) h0 (by decide) h1 iF
  rwa[e] at this
theorem vL:NoB #[.pointer p,.slice A1 n1 c1,.slice A2 n2 c2,.slice A3 n3 c3,.slice A4 n4 c4]:=fun i u h=>by
 have h2:=Array.mem_toList_iff.2 (Array.mem_of_getElem? h);simp only[List.mem_cons,List.not_mem_nil,or_false] at h2;rcases h2 with rfl | rfl | rfl | rfl | rfl<;>exact⟨fun b e=>(by cases e),fun k x e=>(by cases e)⟩
def NoS(cs:Array Value):Prop:=∀(i:Nat)(u:Value),cs[i]?=some u->∀s,u≠.string s
theorem AW:NoS #[.pointer p,.slice A1 n1 c1,.slice A2 n2 c2,.slice A3 n3 c3,.slice A4 n4 c4]:=fun i u h=>by
 have h2:=Array.mem_toList_iff.2 (Array.mem_of_getElem? h);simp only[List.mem_cons,List.not_mem_nil,or_false] at h2;rcases h2 with rfl | rfl | rfl | rfl | rfl<;>exact fun b e=>by cases e
structure UnP (gp:Nat) (w w':Wo):Prop where
 mat:∀{A:OA}{n:Nat} {M:List (List Rat)},jP w w.heap.size A n M->(∀b off,A=some ⟨b,off,none⟩->b≠gp)->jP w' w'.heap.size A n M
 row:∀{A:OA}{n:Nat}{q:List Rat},iE w w.heap.size A n q->iE w' w'.heap.size A n q
 ints:∀{A:OA}{n:Nat}{l:List Int},pK w w.heap.size A n l->pK w' w'.heap.size A n l
 strs:∀{A:OA}{n:Nat}{l:List ByteArray},bD w w.heap.size A n l->bD w' w'.heap.size A n l
 blk:∀{g T:Nat}{cs:Array Value},aD w g T cs->T≠95->aD w' g T cs
theorem UnP.trans{w1 w2:Wo}(a:UnP gp w w1)(b:UnP gp w1 w2):UnP gp w w2:=⟨fun h hA=>b.mat (a.mat h hA) hA,fun h=>b.row (a.row h),fun h=>b.ints (a.ints h),fun h=>b.strs (a.strs h),fun h ht=>b.blk (a.blk h ht) ht⟩
theorem zO{u:Value}(hb:aD w gp 95 cs)(hn:NoB cs)(hs:NoS cs)(hy:cs[i]?=some y):UnP gp w (w.setCell ⟨gp,i,none⟩ u):=by
 refine⟨fun h hA=>h.keepB hb hn hy hA,fun h=>h.keepB hb hn hy,fun{A n l} h=>?_,fun{A n l} h=>?_,fun h ht=>h.far (h.apart hb ht) u⟩
 ·refine⟨h.1,fun h0=>?_⟩
  obtain⟨b,off,e,aR,hc⟩:=h.2 h0;have YO:b≠gp:=by
   rintro rfl;obtain⟨z,hz⟩:∃z,l[0]?=some z:=eE (by rw[h.len];exact h0);have:=hc 0 (.int .i64 z) (by unfold ints;rw[lT,hz];rfl);rw[Nat.add_zero,hb.cell] at this;exact(hn _ _ this).2 _ _ rfl
  refine⟨b,off,e,by simpa[World.setCell] using aR,fun j v hv=>?_⟩;rw[World.cell?_setCell_other _ _ _ _ (fun e2=>YO (by injection e2 with e2;exact e2.symm))];exact hc j v hv
 ·refine⟨h.1,h.2.1,fun h0=>?_⟩
  obtain⟨b,off,e,aR,hc⟩:=h.2.2 h0;have YO:b≠gp:=by
   rintro rfl;obtain⟨z,hz⟩:∃z,l[0]?=some z:=eE (by rw[h.1];exact h0);have:=hc 0 (.string z) (by unfold fC;rw[lT,hz];rfl);rw[Nat.add_zero,hb.cell] at this;exact hs _ _ this _ rfl
  refine⟨b,off,e,by simpa[World.setCell] using aR,fun j v hv=>?_⟩;rw[World.cell?_setCell_other _ _ _ _ (fun e2=>YO (by injection e2 with e2;exact e2.symm))];exact hc j v hv
theorem FJ{p' B1 B2 B3 B4:OA}{k1 d1 k2 d2 k3 d3 k4 d4:Nat}(h:aD w gp 95 #[.pointer p,.slice A1 n1 c1,.slice A2 n2 c2,.slice A3 n3 c3,.slice A4 n4 c4]):UnP gp w (((((w.setCell ⟨gp,0,none⟩ (.pointer p')).setCell ⟨gp,1,none⟩ (.slice B1 k1 d1)).setCell ⟨gp,2,none⟩ (.slice B2 k2 d2)).setCell ⟨gp,3,none⟩ (.slice B3 k3 d3)).setCell ⟨gp,4,none⟩ (.slice B4 k4 d4)):=by
 have h1:aD (w.setCell ⟨gp,0,none⟩ (.pointer p')) gp 95 #[.pointer p',.slice A1 n1 c1,.slice A2 n2 c2,.slice A3 n3 c3,.slice A4 n4 c4]:=h.set_ 0 _;have h2:aD ((w.setCell ⟨gp,0,none⟩ (.pointer p')).setCell ⟨gp,1,none⟩ (.slice B1 k1 d1)) gp 95 #[.pointer p',.slice B1 k1 d1,.slice A2 n2 c2,.slice A3 n3 c3,.slice A4 n4 c4]:=h1.set_ 1 _;have h3:aD (((w.setCell ⟨gp,0,none⟩ (.pointer p')).setCell ⟨gp,1,none⟩ (.slice B1 k1 d1)).setCell ⟨gp,2,none⟩ (.slice B2 k2 d2)) gp 95 #[.pointer p',.slice B1 k1 d1,.slice B2 k2 d2,.slice A3 n3 c3,.slice A4 n4 c4]:=h2.set_ 2 _;have h4:aD ((((w.setCell ⟨gp,0,none⟩ (.pointer p')).setCell ⟨gp,1,none⟩ (.slice B1 k1 d1)).setCell ⟨gp,2,none⟩ (.slice B2 k2 d2)).setCell ⟨gp,3,none⟩ (.slice B3 k3 d3)) gp 95 #[.pointer p',.slice B1 k1 d1,.slice B2 k2 d2,.slice B3 k3 d3,.slice A4 n4 c4]:=h3.set_ 3 _;exact((((zO (i:=0) h vL AW rfl).trans (zO (i:=1) h1 vL AW rfl)).trans (zO (i:=2) h2 vL AW rfl)).trans (zO (i:=3) h3 vL AW rfl)).trans (zO (i:=4) h4 vL AW rfl)
theorem eK.unP{m:iC}(r:eK w w.heap.size m x)(u:UnP gp w w'):eK w' w'.heap.size m x:=⟨u.ints r.r0,u.ints r.r1,u.ints r.r2,u.ints r.r3,u.row r.r4,u.row r.r5,u.ints r.r6⟩
theorem gP.apart{base T:Nat}{hs:List Hd}{M:List (List Rat)}(m:gP w base (.slice A n c) hs M)(hb:aD w g T cs)(ht:93≠T):∀b off,A=some ⟨b,off,none⟩->b≠g:=fun b off e=>by
 rcases m.own.2 with⟨h0,-⟩ | ⟨g',cap,cur,h1,h2,h3,-⟩
 ·rw[e] at h0
  cases h0
 ·rw[e] at h1
  injection h1 with h1;injection h1 with h1;injection h1 with h1 h4;rw[h1];exact h3.apart hb ht
theorem aIu{c:Bool}{p q:Prop}(h:c=true)(hp:p):if c=true then p else q:=by rw[if_pos h];exact hp
theorem gP.base{base:Nat}{hs:List Hd}{M:List (List Rat)}(m:gP w base (.slice A n c) hs M):∀b off,A=some ⟨b,off,none⟩->base<=b:=fun b off e=>by
 rcases m.own.2 with⟨h0,-⟩ | ⟨g',cap,cur,h1,h2,h3,-⟩
 ·rw[e] at h0
  cases h0
 ·rw[e] at h1
  injection h1 with h1;injection h1 with h1;injection h1 with h1 h4;rw[h1];exact h2
theorem O1{o:Oper}{a:Act}{w:Wo}{K:Act->World->Prop}{Q:Exit->Act->World->Prop}(s x:Operand)(t:TypeId)(ho:o.op=.call { callee:=.builtin .append,args:=#[s,x],argTypes:=#[t,t] })(base:Nat)(ht:Tryz.prog.underlying t=some (.slice 115))(v:Value)(vs:List Rv)(qs:List Rat)(hs:a.eval s=v)(aW:dD w base v vs qs)(u:Rv)(q:Rat)(hq:cU w w.heap.size q u)(g T:Nat)(hx:a.eval x=.slice (some ⟨g,0,none⟩) 1 1)(hg:aD w g T #[.bool u.b1,.slice u.A u.n u.c,.bool u.b2,.slice u.A2 u.m u.d])(uO:qs.length<=1000000)(cD:base<=w.heap.size)(h:∀v' w',dD w' base v' (vs++[u]) (qs++[q])->dU o9 base 115 w w'->(∀g t cs,v.ownBlock≠some g->aD w g t cs->aD w' g t cs)->K (a.put o.dst v') w'):o.wp Tryz.prog a w K Q:=by
 obtain⟨i0,iW,qY,kF,kE⟩:=pP;have hl:=aW.len;exact tE (S:=o9) s x t ho base 115 i0 _ 4 64 ht iW qY kF kE rfl (by omega) uS v vs.length (fI vs) hs aW.own g T #[.bool u.b1,.slice u.A u.n u.c,.bool u.b2,.slice u.A2 u.m u.d] hx hg rfl (CL u) (by simp only[maxLen];omega) (by omega) cD fun v' w' h1 h2 h3 h4=>h v' w' (dD.app aW hq h1 h2) h2 fun g2 t2 cs cG bH=>(h4 g2 bH.lt cG).trans bH
end
section
open Go.ChangeShapes Go.WideShapes Go.ChangeAt Go.RowKit
attribute [local go_sem ↓] aE
attribute [local go_sem] aL aK aO a_
theorem FQ(hi:i<n):∀{k:Nat},(∀t,t<k->bE (CY x ms t*vf ((aP x ms).getD t []) i)<=3000)->bE (vf (l7 n x ms k) i)<=3001*k+2
 | 0,h=>by
  rw[zZ hi];exact dP 0 (by decide) (by decide)
 | k+1,h=>by
  have ih:=FQ hi (k:=k) (fun t ht=>h t (by omega));rw[zZ hi] at ih ⊢;simp only[aM];have h1:=kJ (aM k fun t=>CY x ms t*vf ((aP x ms).getD t []) i) (CY x ms k*vf ((aP x ms).getD k []) i);have h2:=h k (by omega);omega
def WQ(q:Rat):Value->World->Prop:=fun v w=>∃r:Rv,v=.agg #[.bool r.b1,.slice r.A r.n r.c,.bool r.b2,.slice r.A2 r.m r.d]/\cU w w.heap.size q r
theorem WQ.up{q:Rat}{v:Value}(h:WQ q v w)(hb:Below w.heap.size w w'):WQ q v w':=by
 obtain⟨r,e,h1⟩:=h;exact⟨r,e,h1.up hb⟩
def uL(x:bK)(ms:List Mi)(B0:Nat)(w':Wo)(fv:Value):Prop:=∃(g:Nat)(m:iC)(y:Value)(A:OA)(c gi:Nat)(ga:Nat)(B:OA)(d:Nat),fv=.agg #[.pointer (some ⟨g,0,none⟩),.slice A ms.length c,.slice (some ⟨gi,0,none⟩) (aA x).length (aA x).length,.slice (some ⟨ga,0,none⟩) (aH x) (aH x),.slice B ms.length d]/\((∀b off,A=some ⟨b,off,none⟩->B0<=b)/\B0<=gi)/\aD w' g 122 (m.cells y)/\eK w' w'.heap.size m x/\jP w' w'.heap.size A ms.length (aP x ms)/\jP w' w'.heap.size (some ⟨gi,0,none⟩) (aA x).length (l9 (dL (aA x).length (aP x ms) ms))/\iE w' w'.heap.size (some ⟨ga,0,none⟩) (aH x) (cE x ms)/\iE w' w'.heap.size B ms.length (cW x ms (cE x ms))
theorem uL.up(h:uL x ms B0 w fv)(hb:Below w.heap.size w w'):uL x ms B0 w' fv:=by
 obtain⟨g,m,y,A,c,gi,ga,B,d,e,h0,h1,h2,h3,h4,h5,h6⟩:=h;exact⟨g,m,y,A,c,gi,ga,B,d,e,h0,h1.bl hb,h2.up hb,h3.up hb,h4.up hb,(h5.below hb lR).more hb.size,(h6.below hb lR).more hb.size⟩
theorem uL.unP(h:uL x ms B0 w fv)(u:UnP gp w w')(hg:gp<B0):uL x ms B0 w' fv:=by
 obtain⟨g,m,y,A,c,gi,ga,B,d,e,h0,h1,h2,h3,h4,h5,h6⟩:=h;exact⟨g,m,y,A,c,gi,ga,B,d,e,h0,u.blk h1 (by decide),h2.unP u,u.mat h3 (fun b off e=>by have:=h0.1 b off e;omega),u.mat h4 (fun b off e=>by injection e with e;injection e with e1 e2;have:=h0.2;omega),u.row h5,u.row h6⟩
theorem uL.low{B1:Nat}(h:uL x ms B0 w fv)(hB:B1<=B0):uL x ms B1 w fv:=by
 obtain⟨g,m,y,A,c,gi,ga,B,d,e,h0,h1⟩:=h;exact⟨g,m,y,A,c,gi,ga,B,d,e,⟨fun b off e=>b_ hB (h0.1 b off e),b_ hB h0.2⟩,h1⟩
def aZe(x:bK)(ms:List Mi)(w:Wo)(e:Ending)(w':Wo):Prop:=
 Below w.heap.size w w'/\((¬o5 x ms/\∃(g:Nat)(A:OA)(c:Nat),e=.returned (.tuple #[.agg #[.pointer (some ⟨g,0,none⟩),.slice A ms.length c,.slice none 0 0,.slice none 0 0,.slice none 0 0],.bool false]))\/
  (o5 x ms/\∃fv,e=.returned (.tuple #[fv,.bool true])/\uL x ms w.heap.size w' fv))
theorem NY(h:bZ)(x:bK)(ok:bJ x)(h8:x.nodes.length<=8)(A:OA)(n c:Nat)(ms:List Mi)(w:Wo)(r:cL w w.heap.size h x)(hm:eB w w.heap.size A n ms)(hn:n<=64)(mD:∀m∈ms,qU x m)(hv:∀m∈ms,dJ m.txt.data.toList=0)(wL:∀m∈ms,1<=m.wt/\m.wt<=1000):Calls Tryz.prog 77 #[.agg h.cells,.slice A n c] w (aZe x ms w):=by
 have Q0:Below w.heap.size w ((w.alloc (.cells h.cells 29)).alloc yL):=(bA).alloc (by simp) _;have HW:=lH Q0;have P0:=lH ((aD.new w 29 h.cells).alloc yL);have P4:Hid (aD ((w.alloc (.cells h.cells 29)).alloc yL) (w.heap.size+1) 95 #[.pointer none,.slice none 0 0,.slice none 0 0,.slice none 0 0,.slice none 0 0]):=lH (aD.new_ (by simp));have HX:=lH (r.up Q0);have HM:=lH (hm.bm Q0);have Q5:=hm.1;subst Q5;obtain⟨bM,ZS,HV,WS⟩:=h_ ok mD hv wL;have aNW:Hid (∀m∈ms,bE (xE x m)<=2600):=lH fun m hm=>by
  have h0:=mQ bM.o (ZS.o m hm);have h1:=qO (nC (HV.o m hm));have h2:=rD (kY m.txt) (aS x m).2;have h3:=h0.fr;have h4:=dP m.wt (by have:=WS.o m hm;omega) (by have:=WS.o m hm;omega);have h5:=eF (m.wt:Rat) (kY m.txt-(aS x m).2);unfold xE;omega
 clear Q0 hm r mD ok hv wL;obtain⟨D0,r0,s0,D1,r1,s1,D2,r2,s2,D3,r3,s3,D4,r4,s4,D5,r5,s5⟩:=h;go_enter Tryz.func77,Tryz.ntmps77
 go_upto_region 1 with fail
 have eC:Hid (((w.alloc (.cells (bZ.cells ⟨D0,r0,s0,D1,r1,s1,D2,r2,s2,D3,r3,s3,D4,r4,s4,D5,r5,s5⟩) 29)).alloc yL).heap.size=w.heap.size+1+1):=lH (by simp);generalize (w.alloc (.cells (bZ.cells ⟨D0,r0,s0,D1,r1,s1,D2,r2,s2,D3,r3,s3,D4,r4,s4,D5,r5,s5⟩) 29)).alloc yL=W at *;obtain⟨y0,y1,y2,y3,y4,y5,nf,nlt⟩:=aX P0.o;dsimp only at y0 y1 y2 y3 y4 y5
 go_wp2_with fail
 refine(tS _ x bM.o h8 W HX.o).mono ?_;clear y0 y1 y2 y3 y4 y5 nf nlt;rintro e w2 ⟨bH,g,m,A7,n7,c7,rfl,hg,dO,oP,-⟩;obtain⟨dN,HG,HR⟩:=dZ bH dO oP;have FG:Hid ((aA x).length=m.n6):=lH (by rw[<-eO];exact oP.r6.len);have JZ:=lH hg;clear bH hg dO oP
 go_upto_region 2 with fail
 generalize NP:w2.alloc (.cells #[.pointer (some ⟨g,0,none⟩),.slice none 0 0,.slice none 0 0,.slice none 0 0,.slice none 0 0] 95)=wb;have yZ:Below w2.heap.size w2 wb:=by rw[<-NP];exact bA
 have HF:Hid (aD wb w2.heap.size 95 #[.pointer (some ⟨g,0,none⟩),.slice none 0 0,.slice none 0 0,.slice none 0 0,.slice none 0 0]):=lH (by rw[<-NP];exact aD.new w2 _ _);have HL:=lH yZ;have sX:Hid (g<w2.heap.size):=lH HG.o.lt;have HWF:Hid (W.heap.size<=w2.heap.size):=lH dN.o.size;clear NP yZ;generalize FW:w2.heap.size=gf at *;have lF:=lH FW;clear FW;have HLW:Hid (∀wr,Below gf w2 wr->Below W.heap.size W wr):=lH fun wr hb=>dN.o.trans (hb.mono HWF.o);have gT:=lH (HLW.o _ HL.o);have P0w:=P0.o.bl gT.o;obtain⟨y0,y1,y2,y3,y4,y5,nf,nlt⟩:=aX P0w;dsimp only at y0 y1 y2 y3 y4 y5;obtain⟨f0,f1,ff,fl⟩:=HF.o.e2;clear P0w
 go_wp2_with fail
 refine(UM _ x bM.o h8 g m (.slice A7 n7 c7) A ms.length c ms wb (HX.o.up gT.o) (HG.o.below HL.o sX.o) ((HR.o.below HL.o lR).more (oO fl)) (HM.o.bm gT.o) hn ZS.o).mono ?_;clear y0 y1 y2 y3 y4 y5 nf nlt f0 f1 fl ff;rintro e w3 ⟨dK,RA,rc,rh,rb0,rfl,EE,hrs,hrc,NS⟩;obtain⟨OM,HL3,HRS,HRC⟩:=h_ (HF.o.bl dK) (HL.o.trans (dK.mono (oO HF.o.lt))) hrs hrc;have HRB:Hid (w.heap.size<=rb0):=lH (by have h1:=EE;have h2:=HF.o.lt;have h3:=HWF.o;have h4:=eC.o;omega);clear dK EE hrs hrc NS HF HL gT;obtain⟨f0,f1,ff,fl⟩:=OM.o.e2;have eY:Hid (aH x=m.n1):=lH (by rw[<-qE bM.o];exact HR.o.r1.len);obtain⟨A0,n0,c0,A1,n1,c1,A2,n2,c2,A3,n3,c3,A4,n4,c4,A5,n5,c5,A6,n6,c6⟩:=m;dsimp only at FG eY;have hn6:=FG.o;have hn1:=eY.o;subst hn6;subst hn1
 go_upto_region 3 with fail
 generalize JM:w3.setCell ⟨gf,1,none⟩ (.slice RA ms.length rc)=wc;have HF4:Hid (aD wc gf 95 #[.pointer (some ⟨g,0,none⟩),.slice RA ms.length rc,.slice none 0 0,.slice none 0 0,.slice none 0 0]):=lH (by rw[<-JM];exact OM.o.set_ 1 _);have ZU:Hid (Below gf w2 wc):=lH (by rw[<-JM];exact HL3.o.setCell lR _);have aR9:Hid (gP wc rb0 (.slice RA ms.length rc) rh (aP x ms)):=lH (by rw[<-JM];exact HRS.o.far OM.o (by decide) (by decide) rfl iF);clear JM OM HL3 HRS f0 f1 fl ff;have HGc:=HG.o.below ZU.o sX.o;have g6:wc.cell? ⟨g,6,none⟩=some (.slice A6 (aA x).length c6):=HGc.cell 6;have gl:=HGc.lt;obtain⟨f0,f1,fl⟩:=HF4.o.b2;clear HGc;have gT:=lH (HLW.o _ ZU.o);have HRO:=lH (fQ bM.o ZS.o);have FE:Hid (jP wc wc.heap.size RA ms.length (aP x ms)):=lH (by
  obtain⟨A',c',e,h,-⟩:=aR9.o.rd;injection e with e1 e2 e3;have hl:(aP x ms).length=ms.length:=by unfold aP;rw[iT]
  rw[hl] at h;rw[e1];exact h)
 have uR:Hid ((aA x).length<=8):=lH (fN bM.o h8)
 go_wp2_with fail
 refine(aFq RA A ms.length rc c (aA x).length (aP x ms) ms wc FE.o (HM.o.bm gT.o) HRO.o.1 HRO.o.2 WS.o uR.o hn).mono ?_;rintro e w5 ⟨eJ,gg,G,rfl,hG,hGo,hGe⟩;have hE:=aI8 hGo hGe;subst hE;obtain⟨HF5,HL5,aXy⟩:=dZ (HF4.o.below eJ fl) (ZU.o.trans (eJ.mono (oO fl))) (aR9.o.keep eJ);have lQ:Hid (eZ (aA x).length (3+606*ms.length) (dL (aA x).length (aP x ms) ms)):=lH (by
  have hl:(aP x ms).length=ms.length:=by unfold aP;rw[iT]
  rw[hl] at hGo;exact hGo)
 have HGM:=lH hG;have HZ4:Hid (4^(aA x).length*(3+606*ms.length)<=2600000000):=lH (by
  have h1:4^(aA x).length<=4^8:=Nat.pow_le_pow_right (by decide) uR.o;have h2:=Nat.mul_le_mul h1 (show 3+606*ms.length<=38787 by omega);omega)
 clear eJ hG hGo hGe HF4 ZU aR9 FE gT f0 f1 fl g6 gl
 go_wp2_with fail
 refine(LI (some ⟨gg,0,none⟩) (aA x).length (aA x).length (3+606*ms.length) (dL (aA x).length (aP x ms) ms) w5 HGM.o (by have:=uR.o;omega) lQ.o.wid lQ.o.bd (by omega) (b_ HZ4.o (by decide))).mono ?_;rintro e w6 ⟨gA,iH⟩;obtain⟨HF,HL,HRS⟩:=dZ (HF5.o.bl gA) (HL5.o.trans (gA.mono (oO HF5.o.lt))) (aXy.o.keep gA);have aYI:Hid (gf<w5.heap.size):=lH HF5.o.lt;clear gA HF5 HL5 aXy HGM;rcases iH with⟨iP,rfl⟩ | ⟨iP,gi,he,hgi,Q_⟩
 ·have HNR:Hid (¬o5 x ms):=lH (fun h=>h iP)
  clear iP;obtain⟨f0,f1,f2,f3,f4,fl⟩:=HF.o.b5;have P6:=lH (P4.o.below (HLW.o _ HL.o) P4.o.lt);obtain⟨z0,z1,z2,z3,z4,zf,zl⟩:=P6.o.e5;(go_wp2_with fail);have hq:=rJ (v0:=.pointer (some ⟨g,0,none⟩)) (v1:=.slice RA ms.length rc) (v2:=.slice none 0 0) (v3:=.slice none 0 0) (v4:=.slice none 0 0) P6.o;obtain⟨p0,p1,p2,p3,p4⟩:=hq.a5;exact bodyPost_ret (v:=.tuple #[.agg #[.pointer (some ⟨g,0,none⟩),.slice RA ms.length rc,.slice none 0 0,.slice none 0 0,.slice none 0 0],.bool false]) (by simp[results,Tryz.results77,go_sem,p0,p1,p2,p3,p4]) rfl ⟨lY (HW.o.trans ((HLW.o _ HL.o).mono (by have:=eC.o;omega))) (Nat.le_succ _),.inl ⟨HNR.o,_,_,_,rfl⟩⟩
 ·have HER:Hid (o5 x ms):=lH iP
  rw[bQ] at he;subst he;have SY:Hid (jP w6 w6.heap.size (some ⟨gi,0,none⟩) (aA x).length (l9 (dL (aA x).length (aP x ms) ms))):=lH (by
   have h:=Q_;rw[show(dL (aA x).length (aP x ms) ms).length=(aA x).length from bQ] at h;unfold l9;rw[show(dL (aA x).length (aP x ms) ms).length=(aA x).length from bQ];exact h)
  have HGI:Hid (gf<gi):=lH (by have:=aYI.o;omega);clear iP Q_ hgi;have f0:=HF.o.cell 0;have fl:=HF.o.lt;have ff:=HF.o.frozen;have f2:=HF.o.cell 2;(go_upto_region 8 with fail);generalize JM:w6.setCell ⟨gf,2,none⟩ (.slice (some ⟨gi,0,none⟩) (aA x).length (aA x).length)=wA;have HFA:Hid (aD wA gf 95 #[.pointer (some ⟨g,0,none⟩),.slice RA ms.length rc,.slice (some ⟨gi,0,none⟩) (aA x).length (aA x).length,.slice none 0 0,.slice none 0 0]):=lH (by rw[<-JM];exact HF.o.set_ 2 _);have HLA:Hid (Below gf w2 wA):=lH (by rw[<-JM];exact HL.o.setCell lR _);have tX:Hid (gP wA rb0 (.slice RA ms.length rc) rh (aP x ms)):=lH (by rw[<-JM];exact HRS.o.far HF.o (by decide) (by decide) rfl iF);have HIA:Hid (jP wA wA.heap.size (some ⟨gi,0,none⟩) (aA x).length (l9 (dL (aA x).length (aP x ms) ms))):=lH (by
   rw[<-JM];exact SY.o.keepB HF.o AX rfl (fun b off e=>by injection e with e;injection e with e1 e2;have:=HGI.o;omega))
  clear JM HF HL HRS SY f0 fl ff f2;(go_wp2_with fail);refine(lS (aA x).length wA (by have:=uR.o;omega)).mono ?_;rintro e w7 ⟨iA,gz,vz,rfl,hgz,oY,hvz⟩;obtain⟨lG,FC,HGZ⟩:=dZ iA (MT oY hvz) hgz;clear iA oY hvz hgz;(go_wp2_with fail);have HLQ:Hid (∀wr,Below wA.heap.size wA wr->Below gf w2 wr):=lH fun wr hb=>HLA.o.trans (hb.mono (oO HFA.o.lt));have aSO:Hid (gz<w7.heap.size):=lH FC.o.lt;have HA7:Hid (wA.heap.size<=w7.heap.size):=lH lG.o.size
  go_loopw [11,54] (fun v11 v54 wr=>∃(k:Nat)(fs:List Fh)(vs:List Rv),k<=ms.length/\v54=.int .i64 k/\fW wr w7.heap.size (aH x) v11 fs ((ms.map (aS x)).take k)/\Vb wr gz vs (l7 (aA x).length x ms k)/\Below wA.heap.size wA wr/\w7.heap.size<=wr.heap.size) (fun _ v54 _=>ms.length-(intOf v54).toNat)
  case atStart=>exact⟨0,[],_,by omega,rfl,RK _ _ _,by rw[aAv];exact FC.o,lG.o,lR⟩
  case round=>
   clear FC lG;obtain⟨k,fs,vs,hk,rfl,hfs,hvb,hb,hZ⟩:=hrel;obtain⟨HFS,FC,HB,HS7⟩:=h_ hfs hvb hb hZ;clear hfs hvb hb hZ;by_cases aR:k<ms.length
   ·obtain⟨mi,jZ⟩:∃mi,ms[k]?=some mi:=⟨_,gS aR⟩
    have EQ:Hid ((ms.map (aS x)).take (k+1)=(ms.map (aS x)).take k++[aS x mi]):=lH (gJ (by rw[lT,jZ];rfl));have wW:=lH (ZS.o mi (bS jZ));have BM:=lH jZ;have gT:=lH (HLW.o _ (HLQ.o _ HB.o));have qJ:=(HM.o.below gT.o lR).more gT.o.size;have VH:=qJ.2.2 (by omega);obtain⟨ab,ao,hA,lO,-⟩:=VH;subst hA;obtain⟨a0,a1,a2,a3⟩:=qJ.at_ jZ;have f_:(k:Int)<(ms.length:Int):=by omega
    have kO:=lZ k;have rR:=jM k;have kL:=lN k;have iR:Hid (ms.length-(k+1)<ms.length-k):=lH (by omega);have aYe:Hid (∀q,u11.ownBlock=some q->q<wr.heap.size):=lH fun q hq=>(HFS.o.own.lt hq).2;clear jZ qJ
    (go_upto_region 13 with fail);clear a0 a1 a2 a3 lO f_ kO rR;have hz:=jO wr (.cells #[.int .i64 mi.kind,.string mi.name,.string mi.txt,.int .i64 mi.wt] 57);have BZ:=lH (aD.new wr 57 #[.int .i64 mi.kind,.string mi.name,.string mi.txt,.int .i64 mi.wt]);replace HFS:=lH (HFS.o.keep hz);replace FC:=lH (FC.o.up hz);replace HB:=lH (HB.o.tm hz);replace HS7:Hid (w7.heap.size<=wr.heap.size+1):=lH (Nat.le_succ_of_le HS7.o);have OH:Hid ((wr.alloc (.cells #[.int .i64 mi.kind,.string mi.name,.string mi.txt,.int .i64 mi.wt] 57)).heap.size=wr.heap.size+1):=lH (by simp);clear hz gT;generalize wr.alloc (.cells #[.int .i64 mi.kind,.string mi.name,.string mi.txt,.int .i64 mi.wt] 57)=wa at *;generalize hgm:wr.heap.size=gm at *;clear hgm;have gT:=lH (HLW.o _ (HLQ.o _ HB.o));have P0w:=P0.o.bl gT.o;obtain⟨y0,y1,y2,y3,y4,y5,nf,nlt⟩:=aX P0w;dsimp only at y0 y1 y2 y3 y4 y5;obtain⟨x0,x1,x2,x3,xl⟩:=BZ.o.b4;have HFa:=lH (HFA.o.bl HB.o);obtain⟨f0,fl⟩:=HFa.o.b1;clear P0w;have HLR:=lH (HLQ.o _ HB.o);(go_wp2_with fail);refine(aBk _ x bM.o h8 g ⟨A0,n0,c0,A1,aH x,c1,A2,n2,c2,A3,n3,c3,A4,n4,c4,A5,n5,c5,A6,(aA x).length,c6⟩ (.slice A7 n7 c7) mi wa (HX.o.up gT.o) (HG.o.below HLR.o sX.o) ((HR.o.below HLR.o lR).more (by rw[<-lF.o];exact HLR.o.size)) wW.o.1 wW.o.2).mono ?_;rintro e w8 ⟨fJ,gc,u,rfl,hgc,hvc,hu⟩;clear y0 y1 y2 y3 y4 y5 nf nlt x0 x1 x2 x3 xl f0 fl HFa gT HLR;obtain⟨HFM,aYH,HV8⟩:=dZ (mQ bM.o wW.o) (HFS.o.keep fJ) (FC.o.up fJ);have dS:=cJ HB fJ;have tZ:=lH (BZ.o.bl fJ);have HC8:Hid (w7.heap.size<=gc):=lH (by have:=HS7.o;have:=OH.o;omega);have HVC:=lH hvc;have HU:=lH hu;have HS8:Hid (w7.heap.size<=w8.heap.size):=lH (by have:=HS7.o;have:=OH.o;have:=fJ.size;omega);have a57:Hid (gm<wa.heap.size):=lH BZ.o.lt;have lQ:Hid (gm<w8.heap.size):=lH (kA BZ.o.lt fJ.size);have HOB:Hid (∀q,u11.ownBlock=some q->q<gm):=lH fun q hq=>aYe.o q hq;clear fJ hgc hvc hu HFS FC HB BZ HS7
    (go_upto_region 14 with fail);have hz:=jO w8 (.cells #[.slice (some ⟨gc,0,none⟩) (aH x) (aH x),.bool u.b1,.slice u.A u.n u.c,.bool u.b2,.slice u.A2 u.m u.d] 117);obtain⟨wY,ZX,HV9⟩:=dZ (aD.new w8 117 #[.slice (some ⟨gc,0,none⟩) (aH x) (aH x),.bool u.b1,.slice u.A u.n u.c,.bool u.b2,.slice u.A2 u.m u.d]) (aYH.o.keep hz) (HV8.o.up hz);have fH:=cJ dS hz;have W6:=lH (tZ.o.bl hz);have HU9:=lH (HU.o.up hz);have HC9:Hid (∃vs,Vb (w8.alloc (.cells #[.slice (some ⟨gc,0,none⟩) (aH x) (aH x),.bool u.b1,.slice u.A u.n u.c,.bool u.b2,.slice u.A2 u.m u.d] 117)) gc vs (aS x mi).1):=lH (by obtain⟨vs,h⟩:=HVC.o;exact⟨vs,h.up hz⟩);have WV:Hid (w7.heap.size<=w8.heap.size+1):=lH (Nat.le_succ_of_le HS8.o);have aXh:Hid ((w8.alloc (.cells #[.slice (some ⟨gc,0,none⟩) (aH x) (aH x),.bool u.b1,.slice u.A u.n u.c,.bool u.b2,.slice u.A2 u.m u.d] 117)).heap.size=w8.heap.size+1):=lH (by simp);clear hz aYH HV8 dS tZ HU HVC;generalize w8.alloc (.cells #[.slice (some ⟨gc,0,none⟩) (aH x) (aH x),.bool u.b1,.slice u.A u.n u.c,.bool u.b2,.slice u.A2 u.m u.d] 117)=w9 at *;generalize oR:w8.heap.size=go at *;clear oR;obtain⟨b0,b1,b2,b3,b4,bl⟩:=wY.o.b5;have HW9:Hid (w7.heap.size<=w9.heap.size):=lH (by rw[aXh.o];exact WV.o)
    go_wp2_with (at_builtin;refine GC rfl (.tmp 64) (.tmp 66) _ rfl w7.heap.size (aH x) Tryz.underlying188 u11 fs _ rfl ZX.o gc u (aS x mi) ⟨HC8.o,HFM.o.len,HC9.o,HU9.o⟩ rfl ?k1 HW9.o ?_)
    case k1=>rw[jN];omega
    intro v' wb fs' hfs' E7 hob;have l_:=jO w9 (.cells #[.slice (some ⟨gc,0,none⟩) (aH x) (aH x),.bool u.b1,.slice u.A u.n u.c,.bool u.b2,.slice u.A2 u.m u.d] 117);have aYE:=lH hfs';have aGK:=lH (hob go _ _ (fun e=>by have:=HOB.o _ e;have:=lQ.o;omega) wY.o);have aNX:=lH (hob gm _ _ (fun e=>by have:=HOB.o _ e;omega) W6.o);have HVb:=lH ((HV9.o.up l_).keeps E7 (by decide));have HBb:=lH ((fH.o.tm l_).trans (E7.low.mono HA7.o));have HUb:=lH ((HU9.o.up l_).keeps E7);have HSb:Hid (w7.heap.size<=wb.heap.size):=lH (by have:=HW9.o;have:=l_.size;have:=E7.size;omega);clear l_ hfs' E7 hob b0 b1 b2 b3 b4 bl wY W6 HV9 fH HU9 HC9 ZX WV aXh HW9;(go_upto_region 15 with fail);have m2:=aNX.o.cell 2;have m3:=aNX.o.cell 3;have ml:=aNX.o.lt;have b1:=aGK.o.cell 1;have b2:=aGK.o.cell 2;have b3:=aGK.o.cell 3;have b4:=aGK.o.cell 4;have bl:=aGK.o.lt;obtain⟨bP,HWM,HVM⟩:=dZ (aI (Below.refl wb.heap.size wb)) (WS.o mi (bS BM.o)) (HV.o mi (bS BM.o));have OV:Hid (bE (kY mi.txt)<=2000):=lH (qO (nC HVM.o));have F2:Hid (bE (kY mi.txt-(aS x mi).2)<=2400):=lH (by have h1:=rD (kY mi.txt) (aS x mi).2;have h2:=HFM.o.fr;have h3:=OV.o;omega);have HT3:Hid (bE (mi.wt:Rat)<=2):=lH (by have h3:=dP mi.wt (by have:=HWM.o;omega) (by have:=HWM.o;omega);omega);refine kQ 11 (fun hHeld=>?_);simp only[m_,List.take_zero];refine cR [0,1,3,4,6,7] ?_;refine aDr (C:=fun s w'=>Below wb.heap.size wb w') (G:=fun w' w''=>Below w'.heap.size w' w'') [(2,WQ (mi.wt:Rat)),(5,WQ (kY mi.txt)),(8,WQ (kY mi.txt-(aS x mi).2)),(9,WQ (xE x mi)),(10,I7 wb.heap.size 115 #[.bool false,.slice none 0 0,.bool false,.slice none 0 0])] rfl (by kernel_rfl) (List.forall_mem_cons.2 ⟨fun _ _ _ h g=>h.up g,List.forall_mem_cons.2 ⟨fun _ _ _ h g=>h.up g,List.forall_mem_cons.2 ⟨fun _ _ _ h g=>h.up g,List.forall_mem_cons.2 ⟨fun _ _ _ h g=>h.up g,List.forall_mem_cons.2 ⟨fun _ _ _ h g=>h.up g,List.forall_mem_nil _⟩⟩⟩⟩⟩) (fun _ _ h=>h) hHeld ?_;refine dX (i:=2) rfl (fun s w3 hC hn hK=>?_) (fun v2=>?_)
    ·unfold gV;go_simp;simp only[eN]
     refine(pV mi.wt w3 (by have:=HWM.o;omega) (by have:=HWM.o;omega)).mono ?_;rintro e w4 ⟨gE,r,rfl,hr⟩;exact⟨_,rfl,⟨r,rfl,hr⟩,hC.tm gE,gE⟩
    (try simp only[Act.put,fZ,fY,fX]);refine dX (i:=5) rfl (fun s w3 hC hn hK=>?_) (fun v5=>?_)
    ·unfold gV;go_simp;simp only[eN]
     refine(aDK HVM.o w3).mono ?_;rintro e w4 ⟨gE,r,rfl,hr⟩;exact⟨_,rfl,⟨r,rfl,hr⟩,hC.tm gE,gE⟩
    (try simp only[Act.put,fZ,fY,fX]);refine dX (i:=8) rfl (fun s w3 hC hn hK=>?_) (fun v8=>?_)
    ·have k5:s 5=some v5/\WQ (kY mi.txt) v5 w3:=hK 5 (by kernel_rfl)
     obtain⟨-,r5,rfl,h5⟩:=k5;unfold gV;go_simp;simp only[eN];refine(MW h5 (HUb.o.up hC) (by have:=OV.o;have:=HFM.o.fr;omega)).mono ?_;rintro e w4 ⟨gE,r,rfl,hr⟩;exact⟨_,rfl,⟨r,rfl,hr⟩,hC.tm gE,gE⟩
    (try simp only[Act.put,fZ,fY,fX]);refine dX (i:=9) rfl (fun s w3 hC hn hK=>?_) (fun v9=>?_)
    ·have k2:s 2=some v2/\WQ (mi.wt:Rat) v2 w3:=hK 2 (by kernel_rfl)
     have k8:s 8=some v8/\WQ (kY mi.txt-(aS x mi).2) v8 w3:=hK 8 (by kernel_rfl);obtain⟨-,r2',rfl,h2⟩:=k2;obtain⟨-,r8,rfl,h8'⟩:=k8;unfold gV;go_simp;simp only[eN];refine(J9 h2 h8' (by have:=F2.o;have:=HT3.o;omega)).mono ?_;rintro e w4 ⟨gE,r,rfl,hr⟩;exact⟨_,rfl,⟨r,rfl,hr⟩,hC.tm gE,gE⟩
    (try simp only[Act.put,fZ,fY,fX]);refine dX (i:=10) rfl (fun s w3 hC hn hK=>?_) (fun v10=>?_)
    ·unfold gV;go_simp;simp only[eN]
     exact⟨⟨_,rfl,hC.size,aD.new _ _ _⟩,hC.alloc hC.size _,bA⟩
    (try simp only[Act.put,fZ,fY,fX]);refine CO (fun s wc hC hK=>?_);have k9:s 9=some v9/\WQ (xE x mi) v9 wc:=hK 9;have k10:s 10=some v10/\I7 wb.heap.size 115 #[.bool false,.slice none 0 0,.bool false,.slice none 0 0] v10 wc:=hK 10;obtain⟨-,r9,rfl,h9⟩:=k9;obtain⟨-,gv,rfl,hgv,RG⟩:=k10;obtain⟨HBC,HR9,HGV,KQ⟩:=h_ hC h9 hgv RG;clear hC hK h9 hgv RG hHeld;obtain⟨z0,z1,z2,z3,zf,zl⟩:=KQ.o.e4;refine c_ (by rfl) ?_;(go_upto_region 16 with fail);clear z0 z1 z2 z3 zl zf m2 m3 ml b1 b2 b3 b4 bl;have aJX:=lH (T_ (v:=r9) (x:=BQ) KQ.o);have KR:=lH (dC (v:=r9) HBC.o HGV.o);have WW:=lH (HR9.o.keepq (v:=r9) (x:=BQ) KQ.o);unfold E1 at KR WW;generalize (((wc.setCell ⟨gv,0,none⟩ _).setCell ⟨gv,1,none⟩ _).setCell ⟨gv,2,none⟩ _).setCell ⟨gv,3,none⟩ _=wd at *;obtain⟨aYD,HVd,HBd⟩:=dZ (aYE.o.keep KR.o) (HVb.o.up KR.o) (HBb.o.tm KR.o);have aYv:Hid (gz<gv):=lH (by have:=aSO.o;have:=HSb.o;have:=HGV.o;omega);have HSd:Hid (w7.heap.size<=wd.heap.size):=lH (b_ HSb.o KR.o.size);clear HBC HR9 HGV KQ aYE aGK aNX HVb HBb HUb HSb bP HWM HVM OV F2 HT3 KR;(go_wp2_with fail)
    go_loopw [80] (fun v80 wr=>∃(i:Nat)(vs:List Rv),i<=(aA x).length/\v80=.int .i64 i/\fW wr w7.heap.size (aH x) v' fs' ((ms.map (aS x)).take k++[aS x mi])/\Vb wr gz vs (EZ (aA x).length x ms k i)/\aD wr gv 115 #[.bool r9.b1,.slice r9.A r9.n r9.c,.bool r9.b2,.slice r9.A2 r9.m r9.d]/\cU wr wr.heap.size (xE x mi) r9/\Below wA.heap.size wA wr/\w7.heap.size<=wr.heap.size) (fun v80 _=>(aA x).length-(intOf v80).toNat)
    case atStart=>exact⟨0,_,by omega,rfl,aYD.o,by rw[aAw];exact HVd.o,aJX.o,WW.o,HBd.o,HSd.o⟩
    case round=>
     clear aYD HVd aJX WW HBd HSd;obtain⟨i,vs2,hi,rfl,hfs,hvb,IK,hrx,hb,hZ⟩:=hrel;obtain⟨HFS,FC,fO,HRX,HB⟩:=iS hfs hvb IK hrx hb;have HSI:=lH hZ;clear hfs hvb IK hrx hb hZ;by_cases lE:i<(aA x).length
     ·have aMz:(i:Int)<((aA x).length:Int):=by omega
      have W3:=lN i;have W4:Hid ((aA x).length-(i+1)<(aA x).length-i):=lH (by omega);(go_upto_region 19 with fail);have NS:jP wA wA.heap.size RA ms.length (aP x ms):=by
       obtain⟨A',c',e,h,-⟩:=tX.o.rd;injection e with e1 e2 e3;have hl:(aP x ms).length=ms.length:=by unfold aP;rw[iT]
       rw[hl] at h;rw[e1];exact h
      have VF:=(NS.below HB.o lR).more HB.o.size;obtain⟨pb,po,aMP,hpb⟩:=VF.form (by omega);subst aMP;have gN:(aP x ms)[k]?=some (fM x (aS x mi).1):=by unfold aP;rw[lT,BM.o];rfl
      obtain⟨⟨qa,qn,qc⟩,q0,q1,q2,q3⟩:=VF.at_ gN;dsimp only at q0 q1 q2 q3;have hqn:(aA x).length=qn:=by rw[<-q1.len];exact jT.symm
      subst hqn;obtain⟨eb,eo,hqa,heb⟩:=q1.form (by omega);subst hqa;obtain⟨ve,e0,e1,e2,e3,e4⟩:=q1.at_ (bC (l:=fM x (aS x mi).1) (i:=i) (by rw[jT];exact lE));obtain⟨xe,hx,c0,c1',c2',c3',l1,f1⟩:=FC.o.elem (j:=i) (by rw[sC hi];exact lE);have HXE:Hid (cU wr wr.heap.size (vf (l7 (aA x).length x ms k) i) xe):=lH (by
       have h:=FC.o.val (j:=i) (by rw[sC hi];exact lE) hx;rwa[kW (aH5 lE)] at h)
      have HVE:=lH e4;have FD:=lH gN;have BT:=(HFA.o.bl HB.o).cell 1;have tB:=(HFA.o.bl HB.o).lt;obtain⟨z0,z1,z2,z3,zl⟩:=fO.o.b4;have bP:=lH (aI (Below.refl wr.heap.size wr));have iW:=lZ i;have aIT:=jM i;have kO:=lZ k;have rR:=jM k;have f_:(k:Int)<(ms.length:Int):=by omega
      clear NS VF gN q1 q2 q3 e4 hx;refine kQ 18 (fun hHeld=>?_);simp only[m_,List.take_zero];refine cR [0,1,2,3,4,5,6,7,8,9,10,11,12,13,14] ?_;refine bI 15 (fun K hK=>?_);have OI:Hid (∀t,t<ms.length->bE (CY x ms t*vf ((aP x ms).getD t []) i)<=3000):=lH fun t ht=>by
       obtain⟨m2,wM⟩:∃m2,ms[t]?=some m2:=⟨_,gS ht⟩;have h1:=aNW.o m2 (bS wM);have h2:(aP x ms)[t]?=some (fM x (aS x m2).1):=by unfold aP;rw[lT,wM];rfl
       have h3:=HRO.o.2 _ (bS h2) _ (bS (bC (l:=fM x (aS x m2).1) (i:=i) (by rw[jT];exact lE)));rw[BE wM,dH,h2];have h4:=eF (xE x m2) (vf (fM x (aS x m2).1) i);show bE (xE x m2*vf (fM x (aS x m2).1) i)<=3000;omega
      have F3:Hid (bE (xE x mi)+bE (vf (fM x (aS x mi).1) i)+1<=3000):=lH (by
       have h1:=aNW.o mi (bS BM.o);have h3:=HRO.o.2 _ (bS FD.o) _ (bS (bC (l:=fM x (aS x mi).1) (i:=i) (by rw[jT];exact lE)));omega)
      have mZ:Hid (bE (vf (l7 (aA x).length x ms k) i)+bE (xE x mi*vf (fM x (aS x mi).1) i)+1<=35184372088832):=lH (by
       have h1:=FQ lE (k:=k) (fun t ht=>OI.o t (by omega));have h2:=eF (xE x mi) (vf (fM x (aS x mi).1) i);have h3:=F3.o;omega)
      go_simp;refine(J9 (HRX.o.up bP.o) (HVE.o.up bP.o) (b_ F3.o (by decide))).mono ?_;rintro e w8 ⟨fJ,v8,rfl,h8⟩;have dS:Hid (Below wr.heap.size wr w8):=lH (bP.o.tm fJ);have H8:=lH h8;clear fJ h8;go_simp;refine iB hK dS.o (fun hHeld=>?_);clear hK K;refine bI 16 (fun K hK=>?_);go_simp;refine(DO (HXE.o.up dS.o) H8.o mZ.o).mono ?_;rintro e wq ⟨hbq,vq,rfl,hq⟩;have XD:Hid (Below wr.heap.size wr wq):=lH (dS.o.tm hbq);have HVQ:=lH hq;clear hbq hq;go_simp;refine iB hK XD.o (fun hHeld=>?_);clear hK K;refine cR [17] ?_;refine eP ?_;clear hHeld;obtain⟨aJC,aYA,aGO,aXr,HBq⟩:=iS (FC.o.up XD.o) (HFS.o.keep XD.o) (fO.o.bl XD.o) (HRX.o.up XD.o) (HB.o.tm XD.o);have HSq:Hid (w7.heap.size<=wq.heap.size):=lH (b_ HSI.o XD.o.size);clear c0 c1' c2' c3' l1 f1 z0 z1 z2 z3 zl BT tB q0 e0 e1 e2 e3 hpb heb HVE HXE bP dS H8 F3 mZ OI HFS FC fO HRX HB HSI;obtain⟨xe',hx',c0,c1',c2',c3',l1,f1⟩:=aJC.o.elem (j:=i) (by rw[sC hi];exact lE);have hn8:(aA x).length<=8:=uR.o;(go_wp2_with fail);go_roundw
      case rel=>exact⟨i+1,_,lE,aQ W3.o,aYA.o.far aJC.o (x:=vq) (by rw[sC hi];exact lE) aSO.o,by
       have h:=aJC.o.put (j:=i) (x:=vq) (by rw[sC hi];exact lE) HVQ.o;rw[<-BE BM.o,aDm lE FD.o] at h;exact h,aGO.o.far4 vq (by have:=aYv.o;omega),aJC.o.keep (by rw[sC hi];exact lE) aXr.o,iQ HBq.o HGZ.o,b_ HSq.o (Nat.le_of_eq (aAA wq gz i vq).symm)⟩
      case measure=>exact W4.o
     ·have EH:i=(aA x).length:=by omega
      have aMz:¬(i:Int)<((aA x).length:Int):=by omega
      have HVE:Hid (Vb wr gz vs2 (l7 (aA x).length x ms (k+1))):=lH (by
       have h:=FC.o;rw[EH,aDn] at h;exact h)
      clear FC EH;(go_wp2_with fail);go_roundw
      case rel=>exact⟨k+1,fs',vs2,aR,aQ kL.o,by rw[EQ.o];exact HFS.o,HVE.o,HB.o,HSI.o⟩
      case measure=>exact iR.o
   ·obtain⟨wl,rfl⟩:∃z,z=wr:=⟨wr,rfl⟩
    have mL:k=ms.length:=by omega
    subst mL;have f_:¬((ms.length:Nat):Int)<(ms.length:Int):=by omega
    have aYC:Hid (fW wl w7.heap.size (aH x) u11 fs (ms.map (aS x))):=lH (by
     have h:=HFS.o;rw[nT (by rw[iT];exact lR)] at h;exact h)
    have HFr:=lH (HFA.o.bl HB.o);have HIr:Hid (jP wl wl.heap.size (some ⟨gi,0,none⟩) (aA x).length (l9 (dL (aA x).length (aP x ms) ms))):=lH (HIA.o.bm HB.o);have HRr:=lH (tX.o.keep HB.o);have HLr:=lH (HLQ.o _ HB.o);have HQr:Hid (iE wl wl.heap.size (some ⟨gz,0,none⟩) (aA x).length (l7 (aA x).length x ms ms.length)):=lH (by
     have h:=FC.o.rdq;rwa[fD] at h)
    have HGr:=lH (HG.o.below HLr.o sX.o);clear HFS FC HB HS7 HIA tX HFA HA7 aSO HLQ hk aR;obtain⟨f0,fl⟩:=HFr.o.b1;(go_wp2_with fail);refine(nJ g ⟨A0,n0,c0,A1,aH x,c1,A2,n2,c2,A3,n3,c3,A4,n4,c4,A5,n5,c5,A6,(aA x).length,c6⟩ (.slice A7 n7 c7) wl HGr.o).mono ?_;rintro e w10 ⟨rfl,rfl⟩;(go_wp2_with fail);refine(lS (aH x) wl (by have:=(eW bM.o).2;omega)).mono ?_;rintro e w11 ⟨kZ,ga,va,rfl,EJ,qM,hva⟩;obtain⟨HVA,EU,zK,aB_⟩:=h_ (MT qM hva) EJ kZ (HFr.o.bl kZ);clear kZ EJ qM hva f0 fl;have f0:=aB_.o.cell 0;have f3:=aB_.o.cell 3;have fl:=aB_.o.lt;have ff:=aB_.o.frozen;(go_upto_region 23 with fail);generalize hwe:w11.setCell ⟨gf,3,none⟩ (.slice (some ⟨ga,0,none⟩) (aH x) (aH x))=we;have HFe:Hid (aD we gf 95 #[.pointer (some ⟨g,0,none⟩),.slice RA ms.length rc,.slice (some ⟨gi,0,none⟩) (aA x).length (aA x).length,.slice (some ⟨ga,0,none⟩) (aH x) (aH x),.slice none 0 0]):=lH (by rw[<-hwe];exact aB_.o.set_ 3 _);have HMe:Hid (wl.grownBy we (some gf)):=lH (by rw[<-hwe];exact QD 3 _ (X5 _ zK.o));have HVe:=lH (show Vb we ga _ (kT (aH x)) by rw[<-hwe];exact HVA.o.keepF aB_.o (by decide) rfl iF);have HLe:Hid (Below gf w2 we):=lH (by rw[<-hwe];exact(HLr.o.trans (zK.o.mono (oO HFr.o.lt))).setCell lR _);have a58:Hid (ga<we.heap.size):=lH HVe.o.lt;clear hwe f0 f3 fl ff HVA zK aB_;have g6:we.cell? ⟨g,6,none⟩=some (.slice A6 (aA x).length c6):=(HG.o.below HLe.o sX.o).cell 6;have gl:=(HG.o.below HLe.o sX.o).lt;have f0:=HFe.o.cell 0;have fl:=HFe.o.lt;(go_wp2_with fail);clear g6 gl f0 fl
    go_loopw [114] (fun v114 wq=>∃(i:Nat)(us:List Rv),i<=(aA x).length/\v114=.int .i64 i/\Vb wq ga us (qD (aA x) (mR x ms) (kT (aH x)) i)/\aD wq gf 95 #[.pointer (some ⟨g,0,none⟩),.slice RA ms.length rc,.slice (some ⟨gi,0,none⟩) (aA x).length (aA x).length,.slice (some ⟨ga,0,none⟩) (aH x) (aH x),.slice none 0 0]/\wl.grownBy wq (some gf)/\Below gf w2 wq/\∀q∈qD (aA x) (mR x ms) (kT (aH x)) i,bE q<=50000000000) (fun v114 _=>(aA x).length-(intOf v114).toNat)
    case atStart=>exact⟨0,_,Nat.zero_le _,rfl,HVe.o,HFe.o,HMe.o,HLe.o,fun q hq=>by rw[List.eq_of_mem_replicate hq];exact b_ (dP 0 (by decide) (by decide)) (by decide)⟩
    case round=>
     clear HVe HFe HMe HLe;obtain⟨i,us,hi,rfl,hv,hf,hm,hl,hqs⟩:=hrel;obtain⟨aSh,DR,OM,HM3,HL3⟩:=iS hqs hv hf hm hl;clear hv hf hm hl hqs;by_cases lE:i<(aA x).length
     ·obtain⟨j,hj⟩:∃j,(aA x)[i]?=some j:=⟨_,gS lE⟩
      have HJB:Hid (j<aH x):=lH (sO (bS hj));have hjb:=HJB.o;have pG:=((HR.o.below HL3.o lR).more (by rw[<-lF.o];exact HL3.o.size)).r6;simp only at pG;obtain⟨fb,fo,hA6,qK,-⟩:=pG.2 (by have:=pG.len;omega);subst hA6;have f6:=pG.at_ (eT hj);have HJ:=lH hj;have BS:(i:Int)<((aA x).length:Int):=by omega
      have iW:=lZ i;have aIT:=jM i;have hjI:(j:Int)<(aH x:Int):=by omega
      have NU:=lZ j;have tA:=jM j;have W3:=lN i;have W4:Hid ((aA x).length-(i+1)<(aA x).length-i):=lH (by omega);clear pG hj;(go_upto_region 26 with fail);clear f6 qK;have hU:=MU HFr.o OM.o (i:=3) rfl rfl AX HM3.o;have hqi:=hU.mat HIr.o (fun b off e=>by injection e with e;injection e with e1 e2;have:=HGI.o;omega);have HQR:=lH (hU.row HQr.o);obtain⟨row,gN⟩:∃row,(l9 (dL (aA x).length (aP x ms) ms))[i]?=some row:=eE (by rw[hqi.len];exact lE);obtain⟨⟨qa,qn,qc⟩,q0,q1,q2,q3⟩:=hqi.at_ gN;dsimp only at q0 q1 q2 q3;rw[Nat.zero_add] at q0;have hqb:gi<wr.heap.size:=World.block_lt_of_cell? wr ⟨gi,i,none⟩ q0;have HBI:Hid (∀q∈row,bE q<=2600000000):=lH fun q hq=>by
       have h:=U5 (M:=dL (aA x).length (aP x ms) ms) (by rw[bQ];exact lQ.o.wid) lQ.o.bd (by omega) row (bS gN) q hq;rw[bQ] at h;exact b_ (Nat.le_of_succ_le h) HZ4.o
      have sM:row.length=(aA x).length:=by
       have h:=(qG (M:=dL (aA x).length (aP x ms) ms) (by rw[bQ];exact lQ.o.wid)).2 row (bS gN);rwa[bQ] at h
      have hqn:(aA x).length=qn:=by rw[<-q1.len];exact sM.symm
      subst hqn;have FD:=lH q1;have HED:Hid (iM row (l7 (aA x).length x ms ms.length)=mR x ms i):=lH (by
       unfold mR;rw[dH,gN];rfl)
      have qW:Hid (∀q∈l7 (aA x).length x ms ms.length,bE q<=2600000000):=lH fun q hq=>by
       obtain⟨t,ht⟩:=List.mem_iff_getElem?.1 hq;have QX:t<(aA x).length:=by have:=(cY.1 ht).1;rwa[fD] at this
       have h0:∀u,u<ms.length->bE (CY x ms u*vf ((aP x ms).getD u []) t)<=3000:=fun u hu=>by
        obtain⟨m2,wM⟩:∃m2,ms[u]?=some m2:=⟨_,gS hu⟩;have h1:=aNW.o m2 (bS wM);have h2:(aP x ms)[u]?=some (fM x (aS x m2).1):=by unfold aP;rw[lT,wM];rfl
        have h3:=HRO.o.2 _ (bS h2) _ (bS (bC (l:=fM x (aS x m2).1) (i:=t) (by rw[jT];exact QX)));rw[BE wM,dH,h2];have h4:=eF (xE x m2) (vf (fM x (aS x m2).1) t);show bE (xE x m2*vf (fM x (aS x m2).1) t)<=3000;omega
       have h5:=FQ QX (k:=ms.length) h0;rw[kW ht] at h5;omega
      have aXR:Hid (bE (mR x ms i)<=50000000000):=lH (by
       have h:=mS (ys:=l7 (aA x).length x ms ms.length) sM HBI.o qW.o (aA x).length lR;rw[nT (by rw[List.length_zipWith];omega)] at h;rw[<-HED.o];have h8:=uR.o;unfold iM;omega)
      have f2:=OM.o.cell 3;have fl:=OM.o.lt;have bP:=lH (aI (Below.refl wr.heap.size wr));have hn8:(aA x).length<=8:=uR.o;clear hU hqi gN q1 q2 q3 sM;refine kQ 10 (fun hHeld=>?_);simp only[m_,List.take_zero];refine cR [0,1,2,3,4,5,6,7] ?_;refine bI 8 (fun K hK=>?_);go_simp;refine(A_ qa (aA x).length qc (some ⟨gz,0,none⟩) (aA x).length (aA x).length row (l7 (aA x).length x ms ms.length) 2600000000 _ (FD.o.up bP.o) (HQR.o.up bP.o) lR (by omega) HBI.o qW.o (by omega)).mono ?_;rintro e w8 ⟨fJ,v8,rfl,h8⟩;rw[HED.o] at h8;have dS:Hid (Below wr.heap.size wr w8):=lH (bP.o.tm fJ);have H8:=lH h8;clear fJ h8;go_simp;refine iB hK dS.o (fun hHeld=>?_);clear hK K;refine cR [9] ?_;refine eP ?_;clear hHeld;obtain⟨HVq,HFq,HMq,HLq⟩:=h_ (DR.o.up dS.o) (OM.o.bl dS.o) (NE HM3.o dS.o) (HL3.o.trans (dS.o.mono (b_ (Nat.le_of_eq lF.o.symm) HL3.o.size)));have aSQ:Hid (gf<ga):=lH (by have:=HFr.o.lt;have:=EU.o;omega);clear q0 hqb f2 fl bP HBI qW FD HED HQR DR OM HM3 HL3;have rS:j<(qD (aA x) (mR x ms) (kT (aH x)) i).length:=by rw[oE];unfold kT;rw[qV];exact HJB.o
      obtain⟨xe',hx',c0,c1',c2',c3',l1,f1⟩:=HVq.o.elem (j:=j) rS;clear hx';have HJL:=lH rS;clear rS;(go_wp2_with fail);go_roundw
      case rel=>exact⟨i+1,_,lE,aQ W3.o,by
       have h:=HVq.o.put (j:=j) (x:=v8) HJL.o H8.o;have e:qD (aA x) (mR x ms) (kT (aH x)) (i+1)=(qD (aA x) (mR x ms) (kT (aH x)) i).set j (mR x ms i):=by
        show(qD (aA x) (mR x ms) (kT (aH x)) i).set ((aA x).getD i 0) (mR x ms i)=_;rw[dH,HJ.o];rfl
       rw[e];exact h,HFq.o.far4 v8 (by have:=aSQ.o;omega),aAK HMq.o EU.o,iQ HLq.o (oO aSQ.o),fun q hq=>by
       have e:qD (aA x) (mR x ms) (kT (aH x)) (i+1)=(qD (aA x) (mR x ms) (kT (aH x)) i).set ((aA x).getD i 0) (mR x ms i):=rfl;rw[e] at hq;rcases List.mem_or_eq_of_mem_set hq with h1 | h1
       ·exact aSh.o q h1
       ·rw[h1];exact aXR.o⟩
      case measure=>exact W4.o
     ·obtain⟨wm,rfl⟩:∃z,z=wr:=⟨wr,rfl⟩
      have EH:i=(aA x).length:=by omega
      have aMz:¬(i:Int)<((aA x).length:Int):=by omega
      have aSg:Hid (∀q∈cE x ms,bE q<=50000000000):=lH (by have h:=aSh.o;rw[EH] at h;exact h);have HVm:Hid (Vb wm ga us (cE x ms)):=lH (by have h:=DR.o;rw[EH] at h;exact h);have hU:=MU HFr.o OM.o (i:=3) rfl rfl AX HM3.o;have HIm:=lH (hU.mat HIr.o (fun b off e=>by injection e with e;injection e with e1 e2;have:=HGI.o;omega));have HRm:=lH (hU.rows HRr.o);have aYB:=lH (hU.forms aYC.o);have a5Y:Hid (gf<ga):=lH (by have:=HFr.o.lt;have:=EU.o;omega);clear hU DR HM3 aSh HIr HRr aYC HFr HQr EH EU a58 HGr HLr lQ HRO HZ4 aNW;(go_wp2_with fail)
      go_loopw [132] (fun v132 wq=>∃(k:Nat)(cu:Value)(us:List Rv),k<=ms.length/\v132=.int .i64 k/\dD wq wm.heap.size cu us ((cW x ms (cE x ms)).take k)/\aD wq gf 95 #[.pointer (some ⟨g,0,none⟩),.slice RA ms.length rc,.slice (some ⟨gi,0,none⟩) (aA x).length (aA x).length,.slice (some ⟨ga,0,none⟩) (aH x) (aH x),cu]/\wm.grownBy wq (some gf)/\Below gf w2 wq) (fun v132 _=>ms.length-(intOf v132).toNat)
      case atStart=>exact⟨0,_,[],Nat.zero_le _,rfl,kC _ _,OM.o,X5 _ bR,HL3.o⟩
      case round=>
       obtain⟨k,cu,us,hk,rfl,ho,hf,hm,hl⟩:=hrel;have lB:Hid ((cW x ms (cE x ms)).length=ms.length):=lH (by unfold cW;rw[iT]);have hlk:us.length=k:=by rw[ho.len,jN,lB.o];omega
       obtain⟨cA,cc,hcu,-⟩:=ho.own.shape;rw[hlk] at hcu;subst hcu;obtain⟨HO,HF4,HM4,ZU⟩:=h_ ho hf hm hl;clear ho hf hm hl hlk;by_cases aR:k<ms.length
       ·obtain⟨mi,jZ⟩:∃mi,ms[k]?=some mi:=⟨_,gS aR⟩
        have EQ:Hid ((cW x ms (cE x ms)).take (k+1)=(cW x ms (cE x ms)).take k++[kY mi.txt-(iM (aS x mi).1 (cE x ms)+(aS x mi).2)]):=lH (gJ (by unfold cW;rw[lT,jZ];rfl));obtain⟨wW,HVM,BM⟩:=dZ (ZS.o mi (bS jZ)) (HV.o mi (bS jZ)) jZ;have gT:=lH (HLW.o _ ZU.o);have qJ:=(HM.o.below gT.o lR).more gT.o.size;have VH:=qJ.2.2 (by omega);obtain⟨ab,ao,hA,lO,-⟩:=VH;subst hA;obtain⟨a0,a1,a2,a3⟩:=qJ.at_ jZ;have f_:(k:Int)<(ms.length:Int):=by omega
        have kO:=lZ k;have rR:=jM k;have kL:=lN k;have iR:Hid (ms.length-(k+1)<ms.length-k):=lH (by omega);clear jZ qJ gT;(go_upto_region 31 with fail);clear a0 a1 a2 a3 lO;have hz:=jO wr (.cells #[.int .i64 mi.kind,.string mi.name,.string mi.txt,.int .i64 mi.wt] 57);have BZ:=lH (aD.new wr 57 #[.int .i64 mi.kind,.string mi.name,.string mi.txt,.int .i64 mi.wt]);replace HO:=lH (HO.o.keep hz);obtain⟨HFa,HMa,HLa⟩:=dZ (HF4.o.bl hz) (NE HM4.o hz) (ZU.o.trans (hz.mono (b_ (Nat.le_of_eq lF.o.symm) ZU.o.size)));clear hz HF4 HM4 ZU;generalize wr.alloc (.cells #[.int .i64 mi.kind,.string mi.name,.string mi.txt,.int .i64 mi.wt] 57)=wa at *;generalize wr.heap.size=gm at *;have hU:=MU OM.o HFa.o (i:=4) rfl rfl AX HMa.o;have HVa:=lH (hU.vec HVm.o);obtain⟨fb,fc,fm,hfv,tB,⟨e0,e1,e2,e3,e4⟩,⟨vs4,hvc⟩,xW,hu,cur,aMH⟩:=(hU.forms aYB.o).at_ (k:=k) (p:=aS x mi) (by rw[lT,BM.o];rfl);rw[iT] at hfv;subst hfv;have HQC:Hid (iE wa wa.heap.size (some ⟨fm.gc,0,none⟩) (aH x) (aS x mi).1):=lH (by have h:=hvc.rdq;rwa[xW] at h);have HUF:=lH hu;have HQE:Hid (iE wa wa.heap.size (some ⟨ga,0,none⟩) (aH x) (cE x ms)):=lH (by
         have h:=HVa.o.rdq;rwa[show(cE x ms).length=aH x from by unfold cE;rw[oE];exact qV] at h)
        have aCb:=lH aMH;have HSS:Hid (∀w',aD w' gf 95 #[.pointer (some ⟨g,0,none⟩),.slice RA ms.length rc,.slice (some ⟨gi,0,none⟩) (aA x).length (aA x).length,.slice (some ⟨ga,0,none⟩) (aH x) (aH x),.slice cA k cc]->aD w' gm 57 #[.int .i64 mi.kind,.string mi.name,.string mi.txt,.int .i64 mi.wt]->aD w' fb 117 cur->(w'.cell? ⟨gf,3,none⟩=some (.slice (some ⟨ga,0,none⟩) (aH x) (aH x))/\w'.cell? ⟨gf,4,none⟩=some (.slice cA k cc)/\w'.cell? ⟨gm,2,none⟩=some (.string mi.txt)/\w'.cell? ⟨fb,k*5,none⟩=some (.slice (some ⟨fm.gc,0,none⟩) (aH x) (aH x))/\w'.cell? ⟨fb,k*5+1,none⟩=some (.bool fm.u.b1)/\w'.cell? ⟨fb,k*5+2,none⟩=some (.slice fm.u.A fm.u.n fm.u.c)/\w'.cell? ⟨fb,k*5+3,none⟩=some (.bool fm.u.b2)/\w'.cell? ⟨fb,k*5+4,none⟩=some (.slice fm.u.A2 fm.u.m fm.u.d))):=lH fun w' q1 q2 q3=>by
         have hc:∀o,w'.cell? ⟨fb,o,none⟩=wa.cell? ⟨fb,o,none⟩:=fun o=>(q3.cell o).trans (aMH.cell o).symm;exact⟨q1.cell 3,q1.cell 4,q2.cell 2,(hc _).trans e0,(hc _).trans e1,(hc _).trans e2,(hc _).trans e3,(hc _).trans e4⟩
        have HFM:=lH (mQ bM.o wW.o);have OV:Hid (bE (kY mi.txt)<=2000):=lH (qO (nC HVM.o));have HN8:Hid (aH x<=8):=lH (b_ (eW bM.o).2 h8);have SQ:Hid (bE (kY mi.txt)+bE (iM (aS x mi).1 (cE x ms)+(aS x mi).2)+1<=35184372088832):=lH (by
         have h1:=mS (ys:=cE x ms) (Z:=50000000000) HFM.o.len (fun q hq=>b_ (HFM.o.cf q hq) (by decide)) aSg.o (aH x) lR;rw[nT (by rw[List.length_zipWith,HFM.o.len];omega)] at h1;have h2:=kJ (iM (aS x mi).1 (cE x ms)) (aS x mi).2;have h3:=HFM.o.fr;have h4:=OV.o;have h5:=HN8.o;unfold iM at h2 ⊢;omega)
        have aYw:Hid (gf<=wm.heap.size):=lH (oO OM.o.lt);have W8:Hid (((cW x ms (cE x ms)).take k).length<=1000000):=lH (by rw[jN];omega);clear hU tB e0 e1 e2 e3 e4 hvc xW hu aMH f_;refine bT (S:=fun w'=>(w'.cell? ⟨gf,3,none⟩=some (.slice (some ⟨ga,0,none⟩) (aH x) (aH x))/\w'.cell? ⟨gf,4,none⟩=some (.slice cA k cc)/\w'.cell? ⟨gm,2,none⟩=some (.string mi.txt)/\w'.cell? ⟨fb,k*5,none⟩=some (.slice (some ⟨fm.gc,0,none⟩) (aH x) (aH x))/\w'.cell? ⟨fb,k*5+1,none⟩=some (.bool fm.u.b1)/\w'.cell? ⟨fb,k*5+2,none⟩=some (.slice fm.u.A fm.u.n fm.u.c)/\w'.cell? ⟨fb,k*5+3,none⟩=some (.bool fm.u.b2)/\w'.cell? ⟨fb,k*5+4,none⟩=some (.slice fm.u.A2 fm.u.m fm.u.d))) 16 _ (by kernel_rfl) (by kernel_rfl) rfl (HSS.o _ HFa.o BZ.o aCb.o) (fun hHeld=>?_);simp only[m_,List.take_zero];have f_:(k:Int)<(ms.length:Int):=by omega
        refine fP 0 (v:=?_) ?_ hHeld ?_;rotate_left 1
        ·intro w' hSw;obtain⟨s0,s1,s2,s3,s4,s5,s6,s7⟩:=hSw;go_simp<;>with_reducible rfl
        (try simp only[Act.put,fZ,fY,fX]);refine fP 1 (v:=?_) ?_ hHeld ?_;rotate_left 1
        ·intro w' hSw;obtain⟨s0,s1,s2,s3,s4,s5,s6,s7⟩:=hSw;go_simp<;>with_reducible rfl
        (try simp only[Act.put,fZ,fY,fX]);refine fP 2 (v:=?_) ?_ hHeld ?_;rotate_left 1
        ·intro w' hSw;obtain⟨s0,s1,s2,s3,s4,s5,s6,s7⟩:=hSw;go_simp<;>with_reducible rfl
        (try simp only[Act.put,fZ,fY,fX]);refine fP 3 (v:=?_) ?_ hHeld ?_;rotate_left 1
        ·intro w' hSw;obtain⟨s0,s1,s2,s3,s4,s5,s6,s7⟩:=hSw;go_simp<;>with_reducible rfl
        (try simp only[Act.put,fZ,fY,fX]);refine fP 5 (v:=?_) ?_ hHeld ?_;rotate_left 1
        ·intro w' hSw;obtain⟨s0,s1,s2,s3,s4,s5,s6,s7⟩:=hSw;go_simp<;>with_reducible rfl
        (try simp only[Act.put,fZ,fY,fX]);refine fP 6 (v:=?_) ?_ hHeld ?_;rotate_left 1
        ·intro w' hSw;obtain⟨s0,s1,s2,s3,s4,s5,s6,s7⟩:=hSw;go_simp<;>with_reducible rfl
        (try simp only[Act.put,fZ,fY,fX]);refine fP 7 (v:=?_) ?_ hHeld ?_;rotate_left 1
        ·intro w' hSw;obtain⟨s0,s1,s2,s3,s4,s5,s6,s7⟩:=hSw;go_simp<;>with_reducible rfl
        (try simp only[Act.put,fZ,fY,fX]);refine fP 8 (v:=?_) ?_ hHeld ?_;rotate_left 1
        ·intro w' hSw;obtain⟨s0,s1,s2,s3,s4,s5,s6,s7⟩:=hSw;go_simp<;>with_reducible rfl
        (try simp only[Act.put,fZ,fY,fX]);refine fP 9 (v:=?_) ?_ hHeld ?_;rotate_left 1
        ·intro w' hSw;obtain⟨s0,s1,s2,s3,s4,s5,s6,s7⟩:=hSw;go_simp<;>with_reducible rfl
        (try simp only[Act.put,fZ,fY,fX]);refine fP 10 (v:=?_) ?_ hHeld ?_;rotate_left 1
        ·intro w' hSw;obtain⟨s0,s1,s2,s3,s4,s5,s6,s7⟩:=hSw;go_simp<;>with_reducible rfl
        (try simp only[Act.put,fZ,fY,fX]);have BU:=lH (aI (Below.refl wa.heap.size wa));generalize wa.drew=v0 at *;refine bI 4 (fun K hK=>?_);go_simp;refine(aDK HVM.o v0).mono ?_;rintro e w4 ⟨gE,r4,rfl,h4⟩;have cI:Hid (Below wa.heap.size wa w4):=lH (BU.o.tm gE);have H4:=lH h4;clear gE h4;go_simp;refine hK.out _ _ ?_ (fun hHeld=>?_)
        ·exact HSS.o _ (HFa.o.bl cI.o) (BZ.o.bl cI.o) (aCb.o.bl cI.o)
        clear hK K;(try simp only[Act.put,fZ,fY,fX]);refine bI 11 (fun K hK=>?_);go_simp;refine(aFy (some ⟨fm.gc,0,none⟩) (aH x) (aH x) fm.u (aS x mi).1 (aS x mi).2 (some ⟨ga,0,none⟩) (aH x) (aH x) (cE x ms) w4 (HQC.o.up cI.o) (HUF.o.up cI.o) (HQE.o.up cI.o) lR HN8.o (fun p hp=>b_ (HFM.o.cf p hp) (by decide)) (fun p hp=>b_ (aSg.o p hp) (by decide)) (b_ HFM.o.fr (by decide))).mono ?_;rintro e w5 ⟨eJ,r5,rfl,h5⟩;have dN:Hid (Below wa.heap.size wa w5):=lH (cI.o.tm eJ);have H5:=lH h5;replace H4:=lH (H4.o.up eJ);clear eJ h5;go_simp;refine hK.out _ _ ?_ (fun hHeld=>?_)
        ·exact HSS.o _ (HFa.o.bl dN.o) (BZ.o.bl dN.o) (aCb.o.bl dN.o)
        clear hK K;(try simp only[Act.put,fZ,fY,fX]);refine bI 12 (fun K hK=>?_);go_simp;refine(MW H4.o H5.o SQ.o).mono ?_;rintro e w6 ⟨gA,r6,rfl,h6⟩;have fV:Hid (Below wa.heap.size wa w6):=lH (dN.o.tm gA);have H6:=lH h6;clear gA h6 H4 H5 cI dN;go_simp;refine hK.out _ _ ?_ (fun hHeld=>?_)
        ·exact HSS.o _ (HFa.o.bl fV.o) (BZ.o.bl fV.o) (aCb.o.bl fV.o)
        clear hK K;(try simp only[Act.put,fZ,fY,fX]);refine bI 13 (fun K hK=>?_);go_simp;have zJ:=lH (aD.new w6 115 #[.bool r6.b1,.slice r6.A r6.n r6.c,.bool r6.b2,.slice r6.A2 r6.m r6.d]);have kE:=jO w6 (.cells #[.bool r6.b1,.slice r6.A r6.n r6.c,.bool r6.b2,.slice r6.A2 r6.m r6.d] 115);have bP:Hid (Below wa.heap.size wa (w6.alloc (.cells #[.bool r6.b1,.slice r6.A r6.n r6.c,.bool r6.b2,.slice r6.A2 r6.m r6.d] 115))):=lH (fV.o.tm kE);replace H6:=lH (H6.o.up kE);clear kE fV;generalize w6.alloc (.cells #[.bool r6.b1,.slice r6.A r6.n r6.c,.bool r6.b2,.slice r6.A2 r6.m r6.d] 115)=w7b at *;generalize w6.heap.size=gb at *;refine hK.out _ _ ?_ (fun hHeld=>?_)
        ·exact HSS.o _ (HFa.o.bl bP.o) (BZ.o.bl bP.o) (aCb.o.bl bP.o)
        clear hK K;(try simp only[Act.put,fZ,fY,fX]);refine bI 14 (fun K hK=>?_);refine aIu (by rfl) ?_;have HM7:=lH (NE HMa.o bP.o);refine O1 (.tmp 138) (.tmp 150) _ rfl wm.heap.size Tryz.underlying93 (.slice cA k cc) us _ rfl (HO.o.keep bP.o) r6 _ H6.o gb _ rfl zJ.o W8.o HM7.o.size ?_;intro v' w8 aW E7 hob;obtain⟨vA,vc,hvv,-⟩:=aW.own.shape;rw[g_,List.length_singleton] at hvv;subst hvv;have tD:=lH aW;have uR:=lH (E7.blk _ _ _ (HFa.o.bl bP.o) (by decide));have tZ:=lH (LB HM7.o E7.low lR);have HL8:=lH ((HLa.o.trans (bP.o.mono (oO HFa.o.lt))).trans (E7.low.mono aYw.o));refine hK.out _ _ ?_ (fun hHeld=>?_)
        ·exact HSS.o _ uR.o (E7.blk _ _ _ (BZ.o.bl bP.o) (by decide)) (E7.blk _ _ _ (aCb.o.bl bP.o) (by decide))
        clear hK K;(try simp only[Act.put,fZ,fY,fX]);refine fP 15 (v:=?_) ?_ hHeld ?_;rotate_left 1
        ·intro w' hSw;skip;go_simp<;>with_reducible rfl
        (try simp only[Act.put,fZ,fY,fX]);refine eP ?_;clear hHeld aW E7 hob bP HM7 zJ H6 HSS HO HMa HLa HFa;have f3:=uR.o.cell 4;have fl:=uR.o.lt;have ff:=uR.o.frozen;(go_wp2_with fail);go_roundw
        case rel=>exact⟨k+1,_,us++[r6],aR,aQ kL.o,by rw[EQ.o];exact tD.o.far uR.o (by decide) (i:=4) rfl iF,uR.o.set_ 4 _,QD 4 _ tZ.o,HL8.o.setCell lR _⟩
        case measure=>exact iR.o
       ·have mL:k=ms.length:=by omega
        subst mL;have f_:¬((ms.length:Nat):Int)<(ms.length:Int):=by omega
        have hoe:dD wr wm.heap.size (.slice cA ms.length cc) us (cW x ms (cE x ms)):=by
         have h:=HO.o;rw[nT (by rw[lB.o];exact lR)] at h;exact h
        obtain⟨A9,c9,LL,aL7,-,-,-⟩:=hoe.rd;rw[lB.o] at LL aL7;injection LL with LL hv9b hv9c;subst LL;subst hv9c;have aXG:=lH aL7;have hU:=MU OM.o HF4.o (i:=4) rfl rfl AX HM4.o;have HIe:=lH (hU.mat HIm.o (fun b off e=>by injection e with e;injection e with e1 e2;have:=HGI.o;omega));have HRe:=lH (hU.rows HRm.o);have HVe:Hid (iE wr wr.heap.size (some ⟨ga,0,none⟩) (aH x) (cE x ms)):=lH (by
         have h:=(hU.vec HVm.o).rdq;rwa[show(cE x ms).length=aH x from by unfold cE;rw[oE];exact qV] at h)
        have HGe:=lH (HG.o.below ZU.o sX.o);have aXH:=lH ((HR.o.below ZU.o lR).more (by rw[<-lF.o];exact ZU.o.size));have HBe:=lH (HLW.o _ ZU.o);have P6:=lH (P4.o.bl HBe.o);have TG:Hid (w.heap.size+1<gi):=lH (by have h1:=HGI.o;have h2:=HWF.o;have h3:=eC.o;omega);have aXA:Hid (jP wr wr.heap.size RA ms.length (aP x ms)):=lH (by
         obtain⟨A',c',e,h,-⟩:=HRe.o.rd;injection e with e1 e2 e3;have hl:(aP x ms).length=ms.length:=by unfold aP;rw[iT]
         rw[hl] at h;rw[e1];exact h)
        clear hU hoe aL7 HO HM4 HIm HRm HVm aYB aSg OM;obtain⟨f0,f1,f2,f3,f4,fl⟩:=HF4.o.b5;obtain⟨z0,z1,z2,z3,z4,zf,zl⟩:=P6.o.e5;(go_wp2_with fail);have hq:=rJ (v0:=.pointer (some ⟨g,0,none⟩)) (v1:=.slice RA ms.length rc) (v2:=.slice (some ⟨gi,0,none⟩) (aA x).length (aA x).length) (v3:=.slice (some ⟨ga,0,none⟩) (aH x) (aH x)) (v4:=.slice cA ms.length cc) P6.o;obtain⟨p0,p1,p2,p3,p4⟩:=hq.a5;have hu:=FJ (p':=some ⟨g,0,none⟩) (B1:=RA) (k1:=ms.length) (d1:=rc) (B2:=some ⟨gi,0,none⟩) (k2:=(aA x).length) (d2:=(aA x).length) (B3:=some ⟨ga,0,none⟩) (k3:=aH x) (d3:=aH x) (B4:=cA) (k4:=ms.length) (d4:=cc) P6.o;exact bodyPost_ret (v:=.tuple #[.agg #[.pointer (some ⟨g,0,none⟩),.slice RA ms.length rc,.slice (some ⟨gi,0,none⟩) (aA x).length (aA x).length,.slice (some ⟨ga,0,none⟩) (aH x) (aH x),.slice cA ms.length cc],.bool true]) (by simp[results,Tryz.results77,go_sem,p0,p1,p2,p3,p4]) rfl ⟨lY (HW.o.trans (HBe.o.mono (by have:=eC.o;omega))) (Nat.le_succ _),.inr ⟨HER.o,_,rfl,g,_,_,RA,rc,gi,ga,cA,cc,rfl,⟨fun b off e=>b_ HRB.o (HRe.o.base b off e),by have:=TG.o;omega⟩,hu.blk HGe.o (by decide),aXH.o.unP hu,hu.mat aXA.o (HRe.o.apart P6.o (by decide)),hu.mat HIe.o (fun b off e=>by injection e with e;injection e with e1 e2;have:=TG.o;omega),hu.row HVe.o,hu.row aXG.o⟩⟩
def dM(x:bK)(al:List Rat):List Rat:=x.brs.map fun b=>dB b*(vf al (aG x b.fr)-vf al (aG x b.to))+jD b
def aOg(x:bK)(al:List Rat)(w:Wo)(e:Ending)(w':Wo):Prop:=Below w.heap.size w w'/\∃v us,e=.returned v/\dD w' w.heap.size v us (dM x al)
theorem LV(g:Nat)(m:iC)(y:Value)(x:bK)(ok:bJ x)(A:OA)(n c:Nat)(al:List Rat)(w:Wo)(hg:aD w g 122 (m.cells y))(hr:eK w w.heap.size m x)(hq:iE w w.heap.size A n al)(hn:n=aH x)(hz:∀q∈al,bE q<=100000000000):Calls Tryz.prog 50 #[.pointer (some ⟨g,0,none⟩),.slice A n c] w (aOg x al w):=by
 obtain⟨HG,HR,HQ,bM,HAZ⟩:=iS hg hr hq ok hz;have JY:=lH hn;have lP:Hid (al.length=n):=lH hq.len;have m8:Hid (x.brs.length=m.n4):=lH (by rw[<-oW];exact hr.r4.len);have oS:Hid (x.brs.length=m.n5):=lH (by rw[<-NH];exact hr.r5.len);have iD:Hid (x.brs.length=m.n2):=lH (by rw[<-lW,<-eO];exact hr.r2.len);have tY:Hid (x.brs.length=m.n3):=lH (by rw[<-rG,<-eO];exact hr.r3.len);have aJ1:Hid (x.brs.length<=1000):=lH (by have:=ok.l2;omega);obtain⟨A0,n0,c0,A1,n1,c1,A2,n2,c2,A3,n3,c3,A4,n4,c4,A5,n5,c5,A6,n6,c6⟩:=m;simp only[iC.cells] at HG m8 oS iD tY;have e4:=m8.o;have e5:=oS.o;have e2:=iD.o;have e3:=tY.o;subst e4;subst e5;subst e2;subst e3;clear hg hr hq ok hz hn;have y5:=HG.o.cell 5;have yl:=HG.o.lt;go_enter Tryz.func50,Tryz.ntmps50
 go_wp2_with fail
 clear y5 yl
 go_loopw [5,13] (fun v5 v13 wr=>∃(k:Nat)(us:List Rv),k<=x.brs.length/\v13=.int .i64 k/\dD wr w.heap.size v5 us ((dM x al).take k)/\Below w.heap.size w wr) (fun _ v13 _=>x.brs.length-(intOf v13).toNat)
 case atStart=>exact⟨0,[],by omega,rfl,kC _ _,bR⟩
 case round=>
  obtain⟨k,us,hk,rfl,ho,hb⟩:=hrel;have HO:=lH ho;have HB:=lH hb;clear ho hb;by_cases aR:k<x.brs.length
  ·obtain⟨b,AT⟩:∃b,x.brs[k]?=some b:=⟨_,gS aR⟩
   obtain⟨a1,a2,a3,a4⟩:=jW AT;have EQ:Hid ((dM x al).take (k+1)=(dM x al).take k++[dB b*(vf al (aG x b.fr)-vf al (aG x b.to))+jD b]):=lH (gJ (by unfold dM;rw[lT,AT];rfl));have KE:=bS AT;have hj1:aG x b.fr<n:=by rw[JY.o];exact(bU bM.o (bM.o.br b KE).1).2.1
   have hj2:aG x b.to<n:=by rw[JY.o];exact(bU bM.o (bM.o.br b KE).2.1).2.1
   have xG:=(HR.o.up HB.o).r5;simp only at xG;obtain⟨db,do',hA5,hdb⟩:=xG.form (by omega);subst hA5;obtain⟨xc,p0,p1,p2,p3,p4⟩:=xG.at_ a4;have f_:(k:Int)<(x.brs.length:Int):=by omega
   have kO:=lZ k;have rR:=jM k;have kL:=lN k;have iR:Hid (x.brs.length-(k+1)<x.brs.length-k):=lH (by omega);have TE:=lH p4;clear p4 xG AT;(go_upto_region 5 with fail);clear p0 p1 p2 p3 hdb;have hz:=jO wr (.cells #[.bool xc.b1,.slice xc.A xc.n xc.c,.bool xc.b2,.slice xc.A2 xc.m xc.d] 115);have HCB:=lH (aD.new wr 115 #[.bool xc.b1,.slice xc.A xc.n xc.c,.bool xc.b2,.slice xc.A2 xc.m xc.d]);replace HO:=lH (HO.o.keep hz);replace TE:=lH (TE.o.up hz);have OY:=cJ HB hz;clear hz HB;generalize wr.alloc (.cells #[.bool xc.b1,.slice xc.A xc.n xc.c,.bool xc.b2,.slice xc.A2 xc.m xc.d] 115)=wa at *;generalize wr.heap.size=gq at *;have HQa:=lH (HQ.o.bm OY.o);have HGa:=lH (HG.o.bl OY.o);have t_:=HR.o.up OY.o;have E5:=t_.r4;have EF:=t_.r2;have DC:=t_.r3;simp only at E5 EF DC;obtain⟨bb,bo,hA4,yZ⟩:=E5.form (by omega);subst hA4;obtain⟨xb,b0,b1,b2,b3,b4⟩:=E5.at_ a3;obtain⟨fb,fo,KF,qK,-⟩:=EF.2 (by omega);subst KF;have f0:=EF.at_ (eT a1);obtain⟨tb,to',hA3,S_,-⟩:=DC.2 (by omega);subst hA3;have t0:=DC.at_ (eT a2);obtain⟨ab,ao,hA,lO⟩:=HQa.o.form (by omega);subst hA;obtain⟨x1,u0,u1,u2,u3,u4⟩:=HQa.o.at_ (bC (i:=aG x b.fr) (by rw[lP.o];exact hj1));obtain⟨x2,w0,w1,w2,w3,w4⟩:=HQa.o.at_ (bC (i:=aG x b.to) (by rw[lP.o];exact hj2));obtain⟨HXB,fB,gG⟩:=dZ b4 u4 w4;have y2:=HGa.o.cell 2;have y3:=HGa.o.cell 3;have y4:=HGa.o.cell 4;have yl:=HGa.o.lt;obtain⟨z0,z1,z2,z3,zl⟩:=HCB.o.b4;have i1:((aG x b.fr:Nat):Int)<(n:Int):=by omega
   have i10:(0:Int)<=((aG x b.fr:Nat):Int):=by omega
   have i1n:((aG x b.fr:Nat):Int).toNat=aG x b.fr:=jM _;have i2:((aG x b.to:Nat):Int)<(n:Int):=by omega
   have i20:(0:Int)<=((aG x b.to:Nat):Int):=by omega
   have i2n:((aG x b.to:Nat):Int).toNat=aG x b.to:=jM _;have HBB:=lH (bM.o.br b KE).2.2.2;have F3:Hid (bE (vf al (aG x b.fr))+bE (vf al (aG x b.to))+1<=200000000001):=lH (by
    have h1:=HAZ.o _ (bS (bC (l:=al) (i:=aG x b.fr) (by rw[lP.o];exact hj1)));have h2:=HAZ.o _ (bS (bC (l:=al) (i:=aG x b.to) (by rw[lP.o];exact hj2)));omega)
   have mZ:Hid (bE (dB b)+bE (vf al (aG x b.fr)-vf al (aG x b.to))+1<=200000000010):=lH (by
    have h1:=F3.o;have h2:=rD (vf al (aG x b.fr)) (vf al (aG x b.to));have h3:=o_ HBB.o;omega)
   have HS3:Hid (bE (dB b*(vf al (aG x b.fr)-vf al (aG x b.to)))+bE (jD b)+1<=200000000020):=lH (by
    have h1:=mZ.o;have h2:=eF (dB b) (vf al (aG x b.fr)-vf al (aG x b.to));have h3:=tW HBB.o;omega)
   have bP:=lH (aI (Below.refl wa.heap.size wa));clear b4 u4 w4 t_ E5 EF DC hj1 hj2 KE a1 a2 a3 a4;refine lC (S:=fun w'=>Below wa.heap.size wa w') 33 _ _ (by kernel_rfl) (by kernel_rfl) (by kernel_rfl) rfl rfl (aI bR) (fun hHeld=>?_);simp only[m_,List.take_zero];refine cR [0,1,2,3,4,5,6,7,8,9,10,11,12,13,14,15,16,17,18,19,20,21,22,23,24,25,26,27,30] ?_;clear y2 y3 y4 yl z0 z1 z2 z3 zl b0 b1 b2 b3 f0 t0 u0 u1 u2 u3 w0 w1 w2 w3 yZ qK S_ lO i1 i10 i1n i2 i20 i2n;refine bI 28 (fun K hK=>?_);go_simp;refine(MW (fB.o.up bP.o) (gG.o.up bP.o) (b_ F3.o (by decide))).mono ?_;rintro e w5 ⟨eJ,r5,rfl,h5⟩;have d_:Hid (Below wa.heap.size wa w5):=lH (bP.o.tm eJ);have H5:=lH h5;clear eJ h5;go_simp;refine iB hK d_.o (fun hHeld=>?_);clear hK K;refine bI 29 (fun K hK=>?_);go_simp;refine(J9 (HXB.o.up d_.o) H5.o (b_ mZ.o (by decide))).mono ?_;rintro e w6 ⟨gA,r6,rfl,h6⟩;have gQ:Hid (Below wa.heap.size wa w6):=lH (d_.o.tm gA);have H6:=lH h6;clear gA h6;go_simp;refine iB hK gQ.o (fun hHeld=>?_);clear hK K;refine bI 31 (fun K hK=>?_);go_simp;refine(DO H6.o (TE.o.up gQ.o) (b_ HS3.o (by decide))).mono ?_;rintro e w7 ⟨iA,r7,rfl,h7⟩;have lG:Hid (Below wa.heap.size wa w7):=lH (gQ.o.tm iA);have H7:=lH h7;clear iA h7;go_simp;refine iB hK lG.o (fun hHeld=>?_);clear hK K;refine bI 32 (fun K hK=>?_);go_simp;have zJ:=lH (aD.new w7 115 #[.bool r7.b1,.slice r7.A r7.n r7.c,.bool r7.b2,.slice r7.A2 r7.m r7.d]);have kE:=jO w7 (.cells #[.bool r7.b1,.slice r7.A r7.n r7.c,.bool r7.b2,.slice r7.A2 r7.m r7.d] 115);have dS:Hid (Below wa.heap.size wa (w7.alloc (.cells #[.bool r7.b1,.slice r7.A r7.n r7.c,.bool r7.b2,.slice r7.A2 r7.m r7.d] 115))):=lH (lG.o.tm kE);replace H7:=lH (H7.o.up kE);clear kE;generalize w7.alloc (.cells #[.bool r7.b1,.slice r7.A r7.n r7.c,.bool r7.b2,.slice r7.A2 r7.m r7.d] 115)=w8 at *;generalize w7.heap.size=gb at *;refine iB hK dS.o (fun hHeld=>?_);clear hK K;refine eP ?_;have W8:Hid (((dM x al).take k).length<=1000000):=lH (by rw[jN];have:=aJ1.o;omega);refine O1 (.tmp 18) (.tmp 50) _ rfl w.heap.size Tryz.underlying93 _ us _ rfl (HO.o.keep dS.o) r7 _ H7.o gb _ rfl zJ.o W8.o (b_ OY.o.size dS.o.size) ?_;intro v' w9 aW E7 hob;have BY:=lH aW;have fH:=lH ((OY.o.tm dS.o).trans E7.low);clear aW E7 hob hHeld;refine c_ (by rfl) ?_;have aQ8:=aJ1.o;(go_wp2_with fail);go_roundw
   case rel=>exact⟨k+1,us++[r7],aR,aQ kL.o,by rw[EQ.o];exact BY.o,fH.o⟩
   case measure=>exact iR.o
  ·have mL:k=x.brs.length:=by omega
   have ML:Hid (dD wr w.heap.size u5 us (dM x al)):=lH (by
    have h:=HO.o;rw[nT (by unfold dM;rw[iT];omega)] at h;exact h)
   have f_:¬(k:Int)<(x.brs.length:Int):=by omega
   (go_wp2_with fail);go_ret;exact⟨HB.o,_,_,rfl,ML.o⟩
theorem AL(h:cN x ms=0):(∀m∈ms,dJ m.txt.data.toList=0)/\∀m∈ms,1<=m.wt/\m.wt<=1000:=by
 have key:∀m∈ms,dJ m.txt.data.toList=0/\1<=m.wt/\m.wt<=1000:=fun m hm=>by
  unfold cN at h;split at h
  ·exact absurd h (by assumption)
  ·split at h
   ·omega
   ·have h1:=vE h m hm
    unfold AM at h1;split at h1
    ·omega
    ·split at h1
     ·omega
     ·split at h1
      ·exact absurd h1 (by assumption)
      ·split at h1
       ·omega
       ·rename_i h2 h3
        exact⟨by omega,by omega,by omega⟩
 exact⟨fun m hm=>(key m hm).1,fun m hm=>(key m hm).2⟩
def rV(x:bK)(ms:List Mi)(c:Int):Prop:=(cN x ms≠0/\c=cN x ms)\/(cN x ms=0/\¬o5 x ms/\c=8)\/(cN x ms=0/\o5 x ms/\¬(∀q∈cE x ms,cH q)/\c=2)\/(cN x ms=0/\o5 x ms/\(∀q∈cE x ms,cH q)/\c=0)
theorem rV.zero{c:Int}(h:rV x ms c)(h0:c=0):cN x ms=0/\o5 x ms/\∀q∈cE x ms,cH q:=by
 rcases h with⟨h1,h2⟩ | ⟨h1,h2,h3⟩ | ⟨h1,h2,h3,h4⟩ | ⟨h1,h2,h3,h4⟩
 ·omega
 ·omega
 ·omega
 ·exact⟨h1,h2,h3⟩
theorem rV.one{c d:Int}(h:rV x ms c)(g:rV x ms d):c=d:=by
 rcases h with⟨h1,h2⟩ | ⟨h1,h2,h3⟩ | ⟨h1,h2,h3,h4⟩ | ⟨h1,h2,h3,h4⟩<;>rcases g with⟨g1,g2⟩ | ⟨g1,g2,g3⟩ | ⟨g1,g2,g3,g4⟩ | ⟨g1,g2,g3,g4⟩<;>first | omega | exact absurd g2 h2 | exact absurd h2 g2 | exact absurd g3 h3 | exact absurd h3 g3
def aZc(x:bK)(ms:List Mi)(w:Wo)(e:Ending)(w':Wo):Prop:=Below w.heap.size w w'/\((∃c:Int,c≠0/\rV x ms c/\∃p A1 n1 c1 A2 n2 c2 A3 n3 c3 A4 n4 c4,e=.returned (.tuple #[.agg #[.pointer p,.slice A1 n1 c1,.slice A2 n2 c2,.slice A3 n3 c3,.slice A4 n4 c4],.slice none 0 0,.int .i64 c]))\/
 (rV x ms 0/\∃fv A n c,e=.returned (.tuple #[fv,.slice A n c,.int .i64 0])/\uL x ms w.heap.size w' fv/\bD w' w'.heap.size A n ((cE x ms).map iU)/\n<=c/\c<=maxLen))
theorem YY(h:bZ)(x:bK)(h8:x.nodes.length<=8)(A:OA)(n c:Nat)(ms:List Mi)(w:Wo)(r:cL w w.heap.size h x)(hm:eB w w.heap.size A n ms)(hz:∀m∈ms,m.txt.size<=maxLen)(hn:n<=9223372036854775807)(ht:fL w):Calls Tryz.prog 48 #[.agg h.cells,.slice A n c] w (aZc x ms w):=by
 have Q0:Below w.heap.size w ((w.alloc (.cells h.cells 29)).alloc yL):=(bA).alloc (by simp) _;have HW:=lH Q0;have P0:=lH ((aD.new w 29 h.cells).alloc yL);have P4:Hid (aD ((w.alloc (.cells h.cells 29)).alloc yL) (w.heap.size+1) 95 #[.pointer none,.slice none 0 0,.slice none 0 0,.slice none 0 0,.slice none 0 0]):=lH (aD.new_ (by simp));obtain⟨HX,HM,HT,HZ⟩:=h_ (r.up Q0) (hm.bm Q0) (ht.up Q0) hz;have eC:Hid (((w.alloc (.cells h.cells 29)).alloc yL).heap.size=w.heap.size+1+1):=lH (by simp);clear Q0 hm r ht hz;obtain⟨D0,r0,s0,D1,r1,s1,D2,r2,s2,D3,r3,s3,D4,r4,s4,D5,r5,s5⟩:=h;go_enter Tryz.func48,Tryz.ntmps48
 go_upto_region 1 with fail
 generalize (w.alloc (.cells (bZ.cells ⟨D0,r0,s0,D1,r1,s1,D2,r2,s2,D3,r3,s3,D4,r4,s4,D5,r5,s5⟩) 29)).alloc yL=W at *;obtain⟨y0,y1,y2,y3,y4,y5,nf,nlt⟩:=aX P0.o;dsimp only at y0 y1 y2 y3 y4 y5
 go_wp2_with fail
 refine(tK _ x A n c ms W HX.o HM.o HZ.o hn HT.o).mono ?_;rintro e w1 ⟨rfl,bO⟩;have cI:=lH bO;clear bO y0 y1 y2 y3 y4 y5 nf nlt;have HC0:=lH (rfl:cN x ms=cN x ms);by_cases mP:cN x ms=0
 ·obtain⟨ok,hl,jZ⟩:=mI mP
  obtain⟨hv,wL⟩:=AL mP;obtain⟨HC,bM,BM,HL,HV⟩:=iS mP ok jZ hl hv;have WS:=lH wL;rw[mP];clear ok hl jZ hv wL mP;have PNX:=P0.o.bl cI.o;obtain⟨y0,y1,y2,y3,y4,y5,nf,nlt⟩:=aX PNX;dsimp only at y0 y1 y2 y3 y4 y5;clear PNX;have HN:Hid (n<=64):=lH (by have h1:=HM.o.1;have h2:=HL.o;omega);(go_wp2_with fail);refine(NY _ x bM.o h8 A n c ms w1 (HX.o.up cI.o) (HM.o.bm cI.o) HN.o BM.o HV.o WS.o).mono ?_;rintro e w2 ⟨bH,iH⟩;have dN:=cJ cI bH;clear bH y0 y1 y2 y3 y4 y5 nf nlt;rcases iH with⟨iP,g,A1,c1,rfl⟩ | ⟨iP,fv,rfl,OS⟩
  ·have HR:=lH iP
   clear iP;have P6:=lH (P4.o.bl dN.o);obtain⟨z0,z1,z2,z3,z4,zf,zl⟩:=P6.o.e5;(go_wp2_with fail);have hq:=(rJ (v0:=.pointer none) (v1:=.slice none 0 0) (v2:=.slice none 0 0) (v3:=.slice none 0 0) (v4:=.slice none 0 0) P6.o).alloc (.cells #[.pointer (some ⟨g,0,none⟩),.slice A1 ms.length c1,.slice none 0 0,.slice none 0 0,.slice none 0 0] 95);obtain⟨p0,p1,p2,p3,p4⟩:=hq.a5;exact bodyPost_ret (v:=.tuple #[.agg #[.pointer none,.slice none 0 0,.slice none 0 0,.slice none 0 0,.slice none 0 0],.slice none 0 0,.int .i64 8]) (by simp[results,Tryz.results48,go_sem,p0,p1,p2,p3,p4]) rfl ⟨(lY (HW.o.trans (dN.o.mono (by have:=eC.o;omega))) (Nat.le_succ _)).alloc (by have:=dN.o.size;have:=eC.o;simp[World.setCell];omega) _,.inl ⟨8,by decide,.inr (.inl ⟨HC.o,HR.o,rfl⟩),_,_,_,_,_,_,_,_,_,_,_,_,_,rfl⟩⟩
  ·have HR:=lH iP
   have HFF:=lH OS;clear iP OS;have gT:Hid (w.heap.size+1<w1.heap.size):=lH (by have:=cI.o.size;have:=eC.o;omega);obtain⟨g,m,y,A1,c1,gi,ga,B1,d1,rfl,YL,BT,wP,hf3,hf4,JR,RD⟩:=HFF.o;clear YL BT wP hf3 hf4 RD;have hz:=jO w2 (.cells #[.pointer (some ⟨g,0,none⟩),.slice A1 ms.length c1,.slice (some ⟨gi,0,none⟩) (aA x).length (aA x).length,.slice (some ⟨ga,0,none⟩) (aH x) (aH x),.slice B1 ms.length d1] 95);obtain⟨HZA,wY,HQ⟩:=dZ hz (aD.new w2 95 #[.pointer (some ⟨g,0,none⟩),.slice A1 ms.length c1,.slice (some ⟨gi,0,none⟩) (aA x).length (aA x).length,.slice (some ⟨ga,0,none⟩) (aH x) (aH x),.slice B1 ms.length d1]) (JR.bm hz);clear hz JR;(go_upto_region 7 with fail);generalize w2.alloc (.cells #[.pointer (some ⟨g,0,none⟩),.slice A1 ms.length c1,.slice (some ⟨gi,0,none⟩) (aA x).length (aA x).length,.slice (some ⟨ga,0,none⟩) (aH x) (aH x),.slice B1 ms.length d1] 95)=wz at *;generalize hgt:w2.heap.size=gt at *;have HGT:=lH hgt;clear hgt;have x3:=wY.o.cell 3;have xl:=wY.o.lt;have TK:Hid (Below W.heap.size W wz):=lH (dN.o.trans (HZA.o.mono (by rw[<-HGT.o];exact dN.o.size)));have fJ:aH x<=8:=b_ (eW bM.o).2 h8;(go_wp2_with fail);refine(nW (some ⟨ga,0,none⟩) (aH x) (aH x) (cE x ms) wz HQ.o (by omega) (HT.o.up TK.o)).mono ?_;rintro e w3 ⟨dK,qZ,t8⟩;have fV:=cJ TK dK;have aB9:=lH (wY.o.bl dK);have HZ3:Hid (Below gt w2 w3):=lH (HZA.o.trans (dK.mono (b_ (Nat.le_of_eq HGT.o.symm) HZA.o.size)));obtain⟨OV,F2,P6⟩:=dZ qZ t8 (P4.o.bl fV.o);have OM:Hid (uL x ms w1.heap.size w3 (.agg #[.pointer (some ⟨g,0,none⟩),.slice A1 ms.length c1,.slice (some ⟨gi,0,none⟩) (aA x).length (aA x).length,.slice (some ⟨ga,0,none⟩) (aH x) (aH x),.slice B1 ms.length d1])):=lH (HFF.o.up (by rw[HGT.o];exact HZ3.o));clear dK qZ t8 HZA wY HQ x3 xl HFF;obtain⟨z0,z1,z2,z3,z4,zf,zl⟩:=P6.o.e5;have x0:=aB9.o.cell 0;have x1:=aB9.o.cell 1;have x2:=aB9.o.cell 2;have x3:=aB9.o.cell 3;have x4:=aB9.o.cell 4;have xl:=aB9.o.lt;have hq:=rJ (v0:=.pointer (some ⟨g,0,none⟩)) (v1:=.slice A1 ms.length c1) (v2:=.slice (some ⟨gi,0,none⟩) (aA x).length (aA x).length) (v3:=.slice (some ⟨ga,0,none⟩) (aH x) (aH x)) (v4:=.slice B1 ms.length d1) P6.o;have HU:=lH (FJ (p':=some ⟨g,0,none⟩) (B1:=A1) (k1:=ms.length) (d1:=c1) (B2:=some ⟨gi,0,none⟩) (k2:=(aA x).length) (d2:=(aA x).length) (B3:=some ⟨ga,0,none⟩) (k3:=aH x) (d3:=aH x) (B4:=B1) (k4:=ms.length) (d4:=d1) P6.o);have HQP:=lH hq;have o3:=lH (lY (v0:=.pointer (some ⟨g,0,none⟩)) (v1:=.slice A1 ms.length c1) (v2:=.slice (some ⟨gi,0,none⟩) (aA x).length (aA x).length) (v3:=.slice (some ⟨ga,0,none⟩) (aH x) (aH x)) (v4:=.slice B1 ms.length d1) (HW.o.trans (fV.o.mono (by have:=eC.o;omega))) (Nat.le_succ w.heap.size));clear hq;by_cases hf:∀q∈cE x ms,cH q
   ·obtain⟨A6,n6,c6,rfl,pG,h61,h62⟩:=OV.o hf
    have JX:=lH pG;clear pG OV F2;(go_wp2_with fail);obtain⟨p0,p1,p2,p3,p4⟩:=HQP.o.a5;exact bodyPost_ret (v:=.tuple #[.agg #[.pointer (some ⟨g,0,none⟩),.slice A1 ms.length c1,.slice (some ⟨gi,0,none⟩) (aA x).length (aA x).length,.slice (some ⟨ga,0,none⟩) (aH x) (aH x),.slice B1 ms.length d1],.slice A6 n6 c6,.int .i64 0]) (by simp[results,Tryz.results48,go_sem,p0,p1,p2,p3,p4]) rfl ⟨o3.o,.inr ⟨.inr (.inr (.inr ⟨HC.o,HR.o,hf,rfl⟩)),_,_,_,_,rfl,(OM.o.unP HU.o gT.o).low (by have:=gT.o;omega),HU.o.strs JX.o,h61,h62⟩⟩
   ·obtain rfl:=F2.o hf
    clear OV F2;(go_wp2_with fail);obtain⟨p0,p1,p2,p3,p4⟩:=HQP.o.a5;exact bodyPost_ret (v:=.tuple #[.agg #[.pointer (some ⟨g,0,none⟩),.slice A1 ms.length c1,.slice (some ⟨gi,0,none⟩) (aA x).length (aA x).length,.slice (some ⟨ga,0,none⟩) (aH x) (aH x),.slice B1 ms.length d1],.slice none 0 0,.int .i64 2]) (by simp[results,Tryz.results48,go_sem,p0,p1,p2,p3,p4]) rfl ⟨o3.o,.inl ⟨2,by decide,.inr (.inr (.inl ⟨HC.o,HR.o,hf,rfl⟩)),_,_,_,_,_,_,_,_,_,_,_,_,_,rfl⟩⟩
 ·have aMJ:(cN x ms != 0)=true:=by simp[mP]
  have P6:=lH (P4.o.bl cI.o);obtain⟨z0,z1,z2,z3,z4,zf,zl⟩:=P6.o.e5;(go_wp2_with fail);have hq:=(rJ (v0:=.pointer none) (v1:=.slice none 0 0) (v2:=.slice none 0 0) (v3:=.slice none 0 0) (v4:=.slice none 0 0) P6.o);obtain⟨p0,p1,p2,p3,p4⟩:=hq.a5;exact bodyPost_ret (v:=.tuple #[.agg #[.pointer none,.slice none 0 0,.slice none 0 0,.slice none 0 0,.slice none 0 0],.slice none 0 0,.int .i64 (cN x ms)]) (by simp[results,Tryz.results48,go_sem,p0,p1,p2,p3,p4]) rfl ⟨lY (HW.o.trans (cI.o.mono (by have:=eC.o;omega))) (Nat.le_succ _),.inl ⟨_,mP,.inl ⟨mP,rfl⟩,_,_,_,_,_,_,_,_,_,_,_,_,_,rfl⟩⟩
theorem bD.keepN{T:Nat}{l:List ByteArray}{u:Value}(h:bD w w.heap.size A n l)(hb:aD w g T cs)(hs:NoS cs)(hy:cs[i]?=some y):bD (w.setCell ⟨g,i,none⟩ u) (w.setCell ⟨g,i,none⟩ u).heap.size A n l:=by
 refine⟨h.1,h.2.1,fun h0=>?_⟩;obtain⟨b,off,e,aR,hc⟩:=h.2.2 h0;have YO:b≠g:=by
  rintro rfl;obtain⟨z,hz⟩:∃z,l[0]?=some z:=eE (by rw[h.1];exact h0);have:=hc 0 (.string z) (by unfold fC;rw[lT,hz];rfl);rw[Nat.add_zero,hb.cell] at this;exact hs _ _ this _ rfl
 refine⟨b,off,e,by simpa[World.setCell] using aR,fun j v hv=>?_⟩;rw[World.cell?_setCell_other _ _ _ _ (fun e2=>YO (by injection e2 with e2;exact e2.symm))];exact hc j v hv
theorem lD{B:OA}{m d:Nat}:NoS #[.slice A n c,.slice B m d]:=fun i u h=>by
 have h2:=Array.mem_toList_iff.2 (Array.mem_of_getElem? h);simp only[List.mem_cons,List.not_mem_nil,or_false] at h2;rcases h2 with rfl | rfl<;>exact fun b e=>by cases e
def aZh(x:bK)(ms:List Mi)(w:Wo)(e:Ending)(w':Wo):Prop:=Below w.heap.size w w'/\((∃c:Int,c≠0/\rV x ms c/\e=.returned (.tuple #[.slice none 0 0,.int .i64 c]))\/
 (rV x ms 0/\∃A n c,e=.returned (.tuple #[.slice A n c,.int .i64 0])/\bD w' w'.heap.size A n ((cE x ms).map iU)/\n<=c/\c<=maxLen))
theorem WJ(h:bZ)(x:bK)(h8:x.nodes.length<=8)(A:OA)(n c:Nat)(ms:List Mi)(w:Wo)(r:cL w w.heap.size h x)(hm:eB w w.heap.size A n ms)(hz:∀m∈ms,m.txt.size<=maxLen)(hn:n<=9223372036854775807)(ht:fL w):Calls Tryz.prog 28 #[.agg h.cells,.slice A n c] w (aZh x ms w):=by
 have K0:=jO w (.cells h.cells 29);obtain⟨HK,P0,HF⟩:=dZ K0 (aD.new w 29 h.cells) (YY h x h8 A n c ms (w.alloc (.cells h.cells 29)) (r.up K0) (hm.bm K0) hz hn (ht.up K0));have eC:Hid (w.heap.size<=(w.alloc (.cells h.cells 29)).heap.size):=lH K0.size;clear K0 hm r ht hz;obtain⟨D0,r0,s0,D1,r1,s1,D2,r2,s2,D3,r3,s3,D4,r4,s4,D5,r5,s5⟩:=h;obtain⟨y0,y1,y2,y3,y4,y5,nf,nlt⟩:=aX P0.o;dsimp only at y0 y1 y2 y3 y4 y5;go_enter Tryz.func28,Tryz.ntmps28
 go_wp2_with fail
 generalize w.alloc (.cells (bZ.cells ⟨D0,r0,s0,D1,r1,s1,D2,r2,s2,D3,r3,s3,D4,r4,s4,D5,r5,s5⟩) 29)=W at *;refine HF.o.mono ?_;rintro e w1 ⟨bO,iH⟩;have cI:=lH (HK.o.trans (bO.mono eC.o));clear bO y0 y1 y2 y3 y4 y5 nf nlt HF;rcases iH with⟨d,hd,AS,p,A1,n1,c1,A2,n2,c2,A3,n3,c3,A4,n4,c4,rfl⟩ | ⟨AS,fv,A6,n6,c6,rfl,⟨g,m,y,A1,c1,gi,ga,B1,d1,rfl,-⟩,pG,h61,h62⟩
 ·have HE:=lH AS
  have HD:=lH hd;clear AS hd;(go_wp2_with fail);go_ret2;exact⟨cI.o.alloc cI.o.size _,.inl ⟨d,HD.o,HE.o,rfl⟩⟩
 ·have HE:=lH AS
  have JX:=lH pG;clear AS pG;(go_wp2_with fail);go_ret2;refine⟨cI.o.alloc cI.o.size _,.inr ⟨HE.o,_,_,_,rfl,?_,h61,h62⟩⟩;have hb:=jO w1 (.cells #[.pointer (some ⟨g,0,none⟩),.slice A1 ms.length c1,.slice (some ⟨gi,0,none⟩) (aA x).length (aA x).length,.slice (some ⟨ga,0,none⟩) (aH x) (aH x),.slice B1 ms.length d1] 95);exact(JX.o.below hb lR).more hb.size
def StC(x:bK)(ms:List Mi)(c:Int):Prop:=(rV x ms c/\c≠0)\/(rV x ms 0/\¬(∀q∈dM x (cE x ms),cH q)/\c=2)\/(rV x ms 0/\(∀q∈dM x (cE x ms),cH q)/\c=0)
def aGg(x:bK)(ms:List Mi)(w:Wo)(e:Ending)(w':Wo):Prop:=Below w.heap.size w w'/\((∃c:Int,c≠0/\StC x ms c/\e=.returned (.tuple #[.agg #[.slice none 0 0,.slice none 0 0],.int .i64 c]))\/
 (rV x ms 0/\(∀q∈dM x (cE x ms),cH q)/\∃A n c B m d,e=.returned (.tuple #[.agg #[.slice A n c,.slice B m d],.int .i64 0])/\(bD w' w'.heap.size A n ((cE x ms).map iU)/\n<=c/\c<=maxLen)/\bD w' w'.heap.size B m ((dM x (cE x ms)).map iU)/\m<=d/\d<=maxLen))
theorem CI(h:bZ)(x:bK)(h8:x.nodes.length<=8)(A:OA)(n c:Nat)(ms:List Mi)(w:Wo)(r:cL w w.heap.size h x)(hm:eB w w.heap.size A n ms)(hz:∀m∈ms,m.txt.size<=maxLen)(hn:n<=9223372036854775807)(ht:fL w):Calls Tryz.prog 18 #[.agg h.cells,.slice A n c] w (aGg x ms w):=by
 have Q0:Below w.heap.size w ((w.alloc (.cells h.cells 29)).alloc yK):=(bA).alloc (by simp) _;have HW:=lH Q0;have P0:=lH ((aD.new w 29 h.cells).alloc yK);have P4:Hid (aD ((w.alloc (.cells h.cells 29)).alloc yK) (w.heap.size+1) 37 #[.slice none 0 0,.slice none 0 0]):=lH (aD.new_ (by simp));have eC:Hid (((w.alloc (.cells h.cells 29)).alloc yK).heap.size=w.heap.size+1+1):=lH (by simp);have HF:=lH (YY h x h8 A n c ms _ (r.up Q0) (hm.bm Q0) hz hn (ht.up Q0));have HT:=lH (ht.up Q0);clear Q0 hm r ht hz;obtain⟨D0,r0,s0,D1,r1,s1,D2,r2,s2,D3,r3,s3,D4,r4,s4,D5,r5,s5⟩:=h;go_enter Tryz.func18,Tryz.ntmps18
 go_upto_region 1 with fail
 generalize (w.alloc (.cells (bZ.cells ⟨D0,r0,s0,D1,r1,s1,D2,r2,s2,D3,r3,s3,D4,r4,s4,D5,r5,s5⟩) 29)).alloc yK=W at *;obtain⟨y0,y1,y2,y3,y4,y5,nf,nlt⟩:=aX P0.o;dsimp only at y0 y1 y2 y3 y4 y5
 go_wp2_with fail
 refine HF.o.mono ?_;rintro e w1 ⟨bO,iH⟩;have cI:=lH bO;clear bO y0 y1 y2 y3 y4 y5 nf nlt HF;rcases iH with⟨d,hd,AS,p,A1,n1,c1,A2,n2,c2,A3,n3,c3,A4,n4,c4,rfl⟩ | ⟨AS,fv,A6,n6,c6,rfl,⟨g,m,y,A1,c1,gi,ga,B1,d1,rfl,YL,BT,wP,hf3,hf4,JR,RD⟩,pG,h61,h62⟩
 ·have HE:=lH AS
  have HD:=lH hd;have hdb:(d != 0)=true:=by simp[hd]
  clear AS hd;have P6:=lH ((P4.o.bl cI.o).alloc (.cells #[.pointer p,.slice A1 n1 c1,.slice A2 n2 c2,.slice A3 n3 c3,.slice A4 n4 c4] 95));have P7:=lH (P4.o.bl cI.o);obtain⟨z0,z1,zf,zl⟩:=P7.o.e2;(go_wp2_with fail);have p0:=(P7.o.set_ 0 (.slice none 0 0)).set_ 1 (.slice none 0 0);have p1:=p0.alloc (.cells #[.pointer p,.slice A1 n1 c1,.slice A2 n2 c2,.slice A3 n3 c3,.slice A4 n4 c4] 95);obtain⟨q0,q1⟩:=p1.a2;exact bodyPost_ret (v:=.tuple #[.agg #[.slice none 0 0,.slice none 0 0],.int .i64 d]) (by simp[results,Tryz.results18,go_sem,q0,q1]) rfl ⟨(((HW.o.trans (cI.o.mono (by have:=eC.o;omega))).setCell (Nat.le_succ _) _).setCell (Nat.le_succ _) _).alloc (by have:=cI.o.size;have:=eC.o;simp[World.setCell];omega) _,.inl ⟨d,HD.o,.inl ⟨HE.o,HD.o⟩,rfl⟩⟩
 ·obtain⟨mP,iP,EK⟩:=AS.zero rfl
  obtain⟨ok,hl,jZ⟩:=mI mP;have HE:=lH AS;have bM:=lH ok;have hz:=jO w1 (.cells #[.pointer (some ⟨g,0,none⟩),.slice A1 ms.length c1,.slice (some ⟨gi,0,none⟩) (aA x).length (aA x).length,.slice (some ⟨ga,0,none⟩) (aH x) (aH x),.slice B1 ms.length d1] 95);obtain⟨JX,HG,FE,HQ,wY⟩:=iS (pG.bm hz) (BT.bl hz) (wP.up hz) (JR.bm hz) (aD.new w1 95 #[.pointer (some ⟨g,0,none⟩),.slice A1 ms.length c1,.slice (some ⟨gi,0,none⟩) (aA x).length (aA x).length,.slice (some ⟨ga,0,none⟩) (aH x) (aH x),.slice B1 ms.length d1]);have F5:Hid (∀q∈cE x ms,bE q<=100000000000):=lH fun q hq=>b_ (qO (EK q hq)) (by decide);have TK:=cJ cI hz
  clear AS pG YL BT wP hf3 hf4 JR RD mP iP EK ok hl jZ hz;(go_upto_region 4 with fail);generalize w1.alloc (.cells #[.pointer (some ⟨g,0,none⟩),.slice A1 ms.length c1,.slice (some ⟨gi,0,none⟩) (aA x).length (aA x).length,.slice (some ⟨ga,0,none⟩) (aH x) (aH x),.slice B1 ms.length d1] 95)=wz at *;generalize w1.heap.size=gt at *;have x0:=wY.o.cell 0;have x3:=wY.o.cell 3;have xl:=wY.o.lt;(go_wp2_with fail);refine(LV g m y x bM.o (some ⟨ga,0,none⟩) (aH x) (aH x) (cE x ms) wz HG.o FE.o HQ.o rfl F5.o).mono ?_;rintro e w2 ⟨bH,v2,us2,rfl,ho2⟩;obtain⟨A2,c2,kU,aP7,-,-,-⟩:=ho2.rd;subst kU;have dN:=cJ TK bH;have DS:=lH aP7;replace JX:=lH (JX.o.bm bH);have J0:Hid ((dM x (cE x ms)).length<=1000000):=lH (by unfold dM;rw[iT];have:=bM.o.l2;omega);clear bH ho2 aP7 x0 x3 xl wY HG FE HQ;(go_wp2_with fail);refine(nW A2 _ c2 (dM x (cE x ms)) w2 DS.o J0.o (HT.o.up dN.o)).mono ?_;rintro e w3 ⟨dK,qZ,t8⟩;have fV:=cJ dN dK;replace JX:=lH (JX.o.bm dK);obtain⟨OV,F2,P7⟩:=dZ qZ t8 (P4.o.bl fV.o);clear dK qZ t8;obtain⟨z0,z1,zf,zl⟩:=P7.o.e2;have gT:=lH (HW.o.trans (fV.o.mono (by have:=eC.o;omega)));by_cases hf:∀q∈dM x (cE x ms),cH q
  ·obtain⟨A7,n7,c7,rfl,hr7,h71,h72⟩:=OV.o hf
   have HR7:=lH hr7;clear hr7 OV F2;(go_wp2_with fail);have k1:=P7.o.set_ 0 (.slice A6 n6 c6);have p1:=k1.set_ 1 (.slice A7 n7 c7);obtain⟨q0,q1⟩:=p1.a2;have a6:=(JX.o.keepN (i:=0) (u:=.slice A6 n6 c6) P7.o lD rfl).keepN (i:=1) (u:=.slice A7 n7 c7) k1 lD rfl;have a7:=(HR7.o.keepN (i:=0) (u:=.slice A6 n6 c6) P7.o lD rfl).keepN (i:=1) (u:=.slice A7 n7 c7) k1 lD rfl;exact bodyPost_ret (v:=.tuple #[.agg #[.slice A6 n6 c6,.slice A7 n7 c7],.int .i64 0]) (by simp[results,Tryz.results18,go_sem,q0,q1]) rfl ⟨(gT.o.setCell (Nat.le_succ _) _).setCell (Nat.le_succ _) _,.inr ⟨HE.o,hf,_,_,_,_,_,_,rfl,⟨a6,h61,h62⟩,a7,h71,h72⟩⟩
  ·obtain rfl:=F2.o hf
   clear OV F2;(go_wp2_with fail);have p1:=(P7.o.set_ 0 (.slice none 0 0)).set_ 1 (.slice none 0 0);obtain⟨q0,q1⟩:=p1.a2;exact bodyPost_ret (v:=.tuple #[.agg #[.slice none 0 0,.slice none 0 0],.int .i64 2]) (by simp[results,Tryz.results18,go_sem,q0,q1]) rfl ⟨(gT.o.setCell (Nat.le_succ _) _).setCell (Nat.le_succ _) _,.inl ⟨2,by decide,.inr (.inl ⟨HE.o,hf,rfl⟩),rfl⟩⟩
theorem I5.low{base base':Nat}{v:Value}{hs:List Hd}{vss:List (List ByteArray)}(m:I5 w base v hs vss)(h:base'<=base):I5 w base' v hs vss:=⟨⟨m.own.1,by
 rcases m.own.2 with h1 | ⟨g,cap,cur,h1,h2,h3⟩
 ·exact .inl h1
 ·exact .inr ⟨g,cap,cur,h1,b_ h h2,h3⟩⟩,m.len,m.rows⟩
def aRv(x:bK)(ms:List Mi)(w:Wo)(e:Ending)(w':Wo):Prop:=Below w.heap.size w w'/\((∃c:Int,c≠0/\rV x ms c/\e=.returned (.tuple #[.agg #[.pointer none,.slice none 0 0,.slice none 0 0,.slice none 0 0,.slice none 0 0],.int .i64 c]))\/
 (rV x ms 0/\∃fv,e=.returned (.tuple #[fv,.int .i64 0])/\uL x ms w.heap.size w' fv))
theorem aDh(h:bZ)(x:bK)(h8:x.nodes.length<=8)(A:OA)(n c:Nat)(ms:List Mi)(w:Wo)(r:cL w w.heap.size h x)(hm:eB w w.heap.size A n ms)(hz:∀m∈ms,m.txt.size<=maxLen)(hn:n<=9223372036854775807)(ht:fL w):Calls Tryz.prog 73 #[.agg h.cells,.slice A n c] w (aRv x ms w):=by
 have Q0:Below w.heap.size w ((w.alloc (.cells h.cells 29)).alloc yL):=(bA).alloc (by simp) _;have HW:=lH Q0;have P0:=lH ((aD.new w 29 h.cells).alloc yL);have P4:Hid (aD ((w.alloc (.cells h.cells 29)).alloc yL) (w.heap.size+1) 95 #[.pointer none,.slice none 0 0,.slice none 0 0,.slice none 0 0,.slice none 0 0]):=lH (aD.new_ (by simp));obtain⟨HX,HM,HT,HZ⟩:=h_ (r.up Q0) (hm.bm Q0) (ht.up Q0) hz;have eC:Hid (((w.alloc (.cells h.cells 29)).alloc yL).heap.size=w.heap.size+1+1):=lH (by simp);clear Q0 hm r ht hz;obtain⟨D0,r0,s0,D1,r1,s1,D2,r2,s2,D3,r3,s3,D4,r4,s4,D5,r5,s5⟩:=h;go_enter Tryz.func73,Tryz.ntmps73
 go_upto_region 1 with fail
 generalize (w.alloc (.cells (bZ.cells ⟨D0,r0,s0,D1,r1,s1,D2,r2,s2,D3,r3,s3,D4,r4,s4,D5,r5,s5⟩) 29)).alloc yL=W at *;obtain⟨y0,y1,y2,y3,y4,y5,nf,nlt⟩:=aX P0.o;dsimp only at y0 y1 y2 y3 y4 y5
 go_wp2_with fail
 refine(WJ _ x h8 A n c ms W HX.o HM.o HZ.o hn HT.o).mono ?_;rintro e w1 ⟨bO,iH⟩;have cI:=lH bO;clear bO y0 y1 y2 y3 y4 y5 nf nlt;rcases iH with⟨d,hd,AS,rfl⟩ | ⟨AS,A6,n6,c6,rfl,-,-,-⟩
 ·have HE:=lH AS
  have HD:=lH hd;have hdb:(d != 0)=true:=by simp[hd]
  clear AS hd;have P6:=lH (P4.o.bl cI.o);obtain⟨z0,z1,z2,z3,z4,zf,zl⟩:=P6.o.e5;(go_wp2_with fail);have hq:=(rJ (v0:=.pointer none) (v1:=.slice none 0 0) (v2:=.slice none 0 0) (v3:=.slice none 0 0) (v4:=.slice none 0 0) P6.o);obtain⟨p0,p1,p2,p3,p4⟩:=hq.a5;exact bodyPost_ret (v:=.tuple #[.agg #[.pointer none,.slice none 0 0,.slice none 0 0,.slice none 0 0,.slice none 0 0],.int .i64 d]) (by simp[results,Tryz.results73,go_sem,p0,p1,p2,p3,p4]) rfl ⟨lY (HW.o.trans (cI.o.mono (by have:=eC.o;omega))) (Nat.le_succ _),.inl ⟨_,HD.o,HE.o,rfl⟩⟩
 ·obtain⟨mP,iP,EK⟩:=AS.zero rfl
  obtain⟨ok,hl,jZ⟩:=mI mP;obtain⟨hv,wL⟩:=AL mP;obtain⟨HE,HR,bM,BM,HV⟩:=iS AS iP ok jZ hv;have WS:=lH wL;have HN:Hid (n<=64):=lH (by have h1:=HM.o.1;omega);clear ok hl jZ hv wL mP iP EK AS;have PNX:=P0.o.bl cI.o;obtain⟨y0,y1,y2,y3,y4,y5,nf,nlt⟩:=aX PNX;dsimp only at y0 y1 y2 y3 y4 y5;clear PNX;(go_wp2_with fail);refine(NY _ x bM.o h8 A n c ms w1 (HX.o.up cI.o) (HM.o.bm cI.o) HN.o BM.o HV.o WS.o).mono ?_;rintro e w2 ⟨bH,iH⟩;have dN:=cJ cI bH;clear bH y0 y1 y2 y3 y4 y5 nf nlt;rcases iH with⟨iP,g,A1,c1,rfl⟩ | ⟨-,fv,rfl,OS⟩
  ·exact absurd HR.o iP
  have HFF:=lH OS;clear OS;have gT:Hid (w.heap.size+1<w1.heap.size):=lH (by have:=cI.o.size;have:=eC.o;omega);obtain⟨g,m,y,A1,c1,gi,ga,B1,d1,rfl,YL,BT,wP,hf3,hf4,JR,RD⟩:=HFF.o;clear YL BT wP hf3 hf4 JR RD;have hz:=jO w2 (.cells #[.pointer (some ⟨g,0,none⟩),.slice A1 ms.length c1,.slice (some ⟨gi,0,none⟩) (aA x).length (aA x).length,.slice (some ⟨ga,0,none⟩) (aH x) (aH x),.slice B1 ms.length d1] 95);have HZA:=lH hz;have wY:=lH (aD.new w2 95 #[.pointer (some ⟨g,0,none⟩),.slice A1 ms.length c1,.slice (some ⟨gi,0,none⟩) (aA x).length (aA x).length,.slice (some ⟨ga,0,none⟩) (aH x) (aH x),.slice B1 ms.length d1]);clear hz;(go_upto_region 5 with fail);generalize w2.alloc (.cells #[.pointer (some ⟨g,0,none⟩),.slice A1 ms.length c1,.slice (some ⟨gi,0,none⟩) (aA x).length (aA x).length,.slice (some ⟨ga,0,none⟩) (aH x) (aH x),.slice B1 ms.length d1] 95)=wz at *;generalize hgt:w2.heap.size=gt at *;have HGT:=lH hgt;clear hgt;have fV:Hid (Below W.heap.size W wz):=lH (dN.o.trans (HZA.o.mono (by rw[<-HGT.o];exact dN.o.size)));have P6:=lH (P4.o.bl fV.o);have OM:Hid (uL x ms w1.heap.size wz (.agg #[.pointer (some ⟨g,0,none⟩),.slice A1 ms.length c1,.slice (some ⟨gi,0,none⟩) (aA x).length (aA x).length,.slice (some ⟨ga,0,none⟩) (aH x) (aH x),.slice B1 ms.length d1])):=lH (HFF.o.up (by rw[HGT.o];exact HZA.o));clear HZA HFF;obtain⟨z0,z1,z2,z3,z4,zf,zl⟩:=P6.o.e5;obtain⟨x0,x1⟩:=wY.o.a2;have x2:=wY.o.cell 2;have x3:=wY.o.cell 3;have x4:=wY.o.cell 4;have xl:=wY.o.lt;have HU:=lH (FJ (p':=some ⟨g,0,none⟩) (B1:=A1) (k1:=ms.length) (d1:=c1) (B2:=some ⟨gi,0,none⟩) (k2:=(aA x).length) (d2:=(aA x).length) (B3:=some ⟨ga,0,none⟩) (k3:=aH x) (d3:=aH x) (B4:=B1) (k4:=ms.length) (d4:=d1) P6.o);have HQP:=lH (rJ (v0:=.pointer (some ⟨g,0,none⟩)) (v1:=.slice A1 ms.length c1) (v2:=.slice (some ⟨gi,0,none⟩) (aA x).length (aA x).length) (v3:=.slice (some ⟨ga,0,none⟩) (aH x) (aH x)) (v4:=.slice B1 ms.length d1) P6.o);have o3:=lH (lY (v0:=.pointer (some ⟨g,0,none⟩)) (v1:=.slice A1 ms.length c1) (v2:=.slice (some ⟨gi,0,none⟩) (aA x).length (aA x).length) (v3:=.slice (some ⟨ga,0,none⟩) (aH x) (aH x)) (v4:=.slice B1 ms.length d1) (HW.o.trans (fV.o.mono (by have:=eC.o;omega))) (Nat.le_succ w.heap.size));(go_wp2_with fail);obtain⟨p0,p1,p2,p3,p4⟩:=HQP.o.a5;exact bodyPost_ret (v:=.tuple #[.agg #[.pointer (some ⟨g,0,none⟩),.slice A1 ms.length c1,.slice (some ⟨gi,0,none⟩) (aA x).length (aA x).length,.slice (some ⟨ga,0,none⟩) (aH x) (aH x),.slice B1 ms.length d1],.int .i64 0]) (by simp[results,Tryz.results73,go_sem,p0,p1,p2,p3,p4]) rfl ⟨o3.o,.inr ⟨HE.o,_,rfl,(OM.o.unP HU.o gT.o).low (by have:=gT.o;omega)⟩⟩
end
