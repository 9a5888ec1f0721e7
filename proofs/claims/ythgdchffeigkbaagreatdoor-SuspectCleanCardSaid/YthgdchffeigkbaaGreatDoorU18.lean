import Derived.Test.YthgdchffeigkbaaGreatDoorU15
set_option linter.unusedVariables false
set_option linter.unusedSimpArgs false
namespace Go.Proofs.YthgdchffeigkbaaGreatDoor
set_option maxHeartbeats 4000000
set_option maxRecDepth 100000
section
open Go.ChangeShapes Go.WideShapes Go.ChangeAt Go.RowKit
structure Hd where
 A:Option Addr
 n:Nat
 c:Nat
def Hd.val (h:Hd):Value:=.slice h.A h.n h.c
def Hd.cells (h:Hd):List Value:=[h.val]
theorem Hd.len (h:Hd):h.cells.length=1:=rfl
def RdM (w:World) (B:Nat) (A:Option Addr) (n:Nat) (M:List (List Rat)):Prop:=∃ hs:List Hd,hs.length=n∧M.length=n∧Rd w B 1 A n (hs.map Hd.val)∧∀ (i:Nat) (h:Hd) (q:List Rat),hs[i]?=some h→M[i]?=some q→RdQ w B h.A h.n q∧h.n≤h.c∧h.c≤maxLen
section
variable {w w':World} {B B' n:Nat} {A:Option Addr} {M:List (List Rat)}
theorem RdM.below (h:RdM w B A n M) (hb:Below B' w w') (hB:B≤B'):RdM w' B A n M:=by
 obtain ⟨hs,h1,h2,h3,h4⟩:=h;exact ⟨hs,h1,h2,h3.below hb hB,fun i h q hq hv=>⟨(h4 i h q hq hv).1.below hb hB,(h4 i h q hq hv).2⟩⟩
theorem RdM.more (h:RdM w B A n M) (hB:B≤B'):RdM w B' A n M:=by
 obtain ⟨hs,h1,h2,h3,h4⟩:=h;exact ⟨hs,h1,h2,h3.more hB,fun i h q hq hv=>⟨(h4 i h q hq hv).1.more hB,(h4 i h q hq hv).2⟩⟩
theorem RdM.up (h:RdM w w.heap.size A n M) (hb:Below w.heap.size w w'):RdM w' w'.heap.size A n M:=(h.below hb lR).more hb.size
theorem RdM.len (h:RdM w B A n M):M.length=n:=by obtain ⟨_,_,h,_⟩:=h;exact h
theorem RdM.form (h:RdM w B A n M) (h0:0<n):∃ b off,A=some ⟨b,off,none⟩∧b<B:=by
 obtain ⟨hs,_,_,h3,_⟩:=h;obtain ⟨b,off,e,hlt,_⟩:=h3.2 h0;exact ⟨b,off,e,hlt⟩
theorem RdM.at_ {b off i:Nat} {q:List Rat} (h:RdM w B (some ⟨b,off,none⟩) n M) (hq:M[i]?=some q):∃ h:Hd,w.cell? ⟨b,off+i,none⟩=some (.slice h.A h.n h.c)∧RdQ w B h.A h.n q∧h.n≤h.c∧h.c≤maxLen:=by
 obtain ⟨hs,h1,h2,h3,h4⟩:=h;have hi:=(zB_.1 hq).1;obtain ⟨v,hv⟩:∃ v,hs[i]?=some v:=zX_ (by omega);obtain ⟨b',off',e,_,hc⟩:=h3.2 (by omega);injection e with e;injection e with e1 e2;subst e1;subst e2;exact ⟨v,hc i _ (by rw [zM_,hv];rfl),h4 i v q hv hq⟩
theorem RdM.take {m:Nat} (h:RdM w B A n M) (hm:m≤n):RdM w B A m (M.take m):=by
 obtain ⟨hs,h1,h2,h3,h4⟩:=h;refine ⟨hs.take m,by rw [zF_,h1];omega,by rw [zF_,h2];omega,⟨by simp;omega,fun h0=>?_⟩,fun j h q hh hq=>?_⟩
 ·obtain ⟨b',off',e,hlt,hc⟩:=h3.2 (by omega)
  refine ⟨b',off',e,hlt,fun j u hu=>hc j u ?_⟩;rw [List.map_take] at hu;have hj:=(zB_.1 hu).1;rw [zF_] at hj;rwa [List.getElem?_take_of_lt (by omega)] at hu
 ·have hj:=(zB_.1 hh).1
  rw [zF_] at hj;rw [List.getElem?_take_of_lt (by omega)] at hh hq;exact h4 _ _ _ hh hq
end
structure Mh where
 A:Option Addr
 g:Nat
 c:Nat
 vs:List Rv
def Mh.hd (h:Mh):Value:=.slice h.A h.vs.length h.c
structure MRow (w:World) (base g:Nat) (h:Mh) (q:List Rat):Prop where
 len:h.vs.length=q.length
 cap:h.vs.length≤h.c
 cm:h.c≤maxLen
 ok:RvOk w h.vs q
 lies:0<q.length→h.A=some ⟨h.g,0,none⟩∧base≤h.g∧h.g≠g∧∃ cs,Blk w h.g 115 cs∧cs.toList.take (q.length*4)=rvs h.vs
theorem Blk.row_cell {w:World} {g t i m:Nat} {cs:Array Value} {vs:List Rv} {v:Rv} (h:Blk w g t cs) (ht:cs.toList.take m=rvs vs) (hv:vs[i]?=some v):w.cell? ⟨g,i*4,none⟩=some (.bool v.b1)∧w.cell? ⟨g,i*4+1,none⟩=some (.slice v.A v.n v.c)∧w.cell? ⟨g,i*4+2,none⟩=some (.bool v.b2)∧w.cell? ⟨g,i*4+3,none⟩=some (.slice v.A2 v.m v.d):=by
 have hk:=fun k (hk:k<4)=>rvs_at hv k hk;have key:∀ k,k<4→∀ u,v.cells[k]?=some u→w.cell? ⟨g,i*4+k,none⟩=some u:=fun k h4 u hu=>by
  rw [h.cell];have h1:=hk k h4;rw [hu,←ht] at h1;have h2:=(zB_.1 h1).1;rw [zF_] at h2;rw [List.getElem?_take_of_lt (by omega)] at h1;simpa using h1
 exact ⟨key 0 (by decide) _ rfl,key 1 (by decide) _ rfl,key 2 (by decide) _ rfl,key 3 (by decide) _ rfl⟩
theorem RtV.keep4 {w:World} {q:Rat} {u:Rv} (h:RtV w w.heap.size q u) {g t i m:Nat} {cs:Array Value} {vs:List Rv} {x:Rv} (v:Rv) (hb:Blk w g t cs) (ht:cs.toList.take m=rvs vs) (hx:vs[i]?=some x):RtV (putV w g i v) (putV w g i v).heap.size q u:=by
 obtain ⟨c0,c1,c2,c3⟩:=hb.row_cell ht hx;have ne:∀ (a b:Nat),a≠b→(⟨g,a,none⟩:Addr)≠⟨g,b,none⟩:=fun a b h e=>h (by injection e);have off:∀ (w:World) (a b:Nat) (u v:Value),a≠b→w.cell? ⟨g,b,none⟩=some v→(w.setCell ⟨g,a,none⟩ u).cell? ⟨g,b,none⟩=some v:=fun w a b u v hab hv=>by
  rw [World.cell?_setCell_other _ _ _ _ (ne a b hab)];exact hv
 have h':RtIs w w.heap.size q u.b1 u.A u.n u.c u.b2 u.A2 u.m u.d:=h;exact (((h'.keep c0 (by simp) _).keep (off _ _ _ _ _ (by omega) c1) (by simp) _).keep (off _ _ _ _ _ (by omega) (off _ _ _ _ _ (by omega) c2)) (by simp) _).keep (off _ _ _ _ _ (by omega) (off _ _ _ _ _ (by omega) (off _ _ _ _ _ (by omega) c3))) (by simp) _
theorem Blk.far4 {w:World} {g g' t i:Nat} {cs:Array Value} (v:Rv) (h:Blk w g' t cs) (hg:g'≠g):Blk (putV w g i v) g' t cs:=(((h.far hg _).far hg _).far hg _).far hg _
theorem putV_size (w:World) (g i:Nat) (v:Rv):(putV w g i v).heap.size=w.heap.size:=by simp [putV]
theorem take_set {α:Type} (l:List α) (m k:Nat) (u:α) (hk:k<m):(l.set k u).take m=(l.take m).set k u:=by
 apply List.ext_getElem?;intro j
 by_cases hj:j<m
 ·rw [List.getElem?_take_of_lt hj,List.getElem?_set,List.getElem?_set,List.getElem?_take_of_lt hj,zF_]
  by_cases h1:k=j
  ·subst h1
   rw [if_pos rfl,if_pos rfl]
   split<;>split<;>first | rfl | omega
  ·simp [h1]
 ·rw [List.getElem?_eq_none (by simp;omega),List.getElem?_eq_none (by simp;omega)]
theorem Blk.row_put {w:World} {g t i n:Nat} {cs:Array Value} {vs:List Rv} (v:Rv) (h:Blk w g t cs) (ht:cs.toList.take (n*4)=rvs vs) (hn:vs.length=n) (hi:i<n):∃ cs',Blk (putV w g i v) g t cs'∧cs'.toList.take (n*4)=rvs (vs.set i v):=by
 refine ⟨_,(((h.set_ (i*4) (.bool v.b1)).set_ (i*4+1) (.slice v.A v.n v.c)).set_ (i*4+2) (.bool v.b2)).set_ (i*4+3) (.slice v.A2 v.m v.d),?_⟩;rw [←rvs_set vs i v (by omega),←ht];simp only [Array.toList_setIfInBounds];rw [take_set _ _ _ _ (by omega),take_set _ _ _ _ (by omega),take_set _ _ _ _ (by omega),take_set _ _ _ _ (by omega)]
section
variable {w w':World} {base g:Nat} {h:Mh} {q:List Rat}
theorem MRow.up (r:MRow w base g h q) (hb:Below w.heap.size w w'):MRow w' base g h q:=
 ⟨r.len,r.cap,r.cm,r.ok.up hb,fun h0=>by
  obtain ⟨h1,h2,h3,cs,h4,h5⟩:=r.lies h0;exact ⟨h1,h2,h3,cs,h4.bl hb,h5⟩⟩
theorem mrow_nil (w:World) (base g g':Nat) (A:Option Addr) (c:Nat) (hc:c≤maxLen):MRow w base g ⟨A,g',c,[]⟩ []:=
 ⟨rfl,Nat.zero_le _,hc,fun i q v h=>by simp at h,fun h=>by simp at h⟩
theorem MRow.rd (r:MRow w base g h q):RdQ w w.heap.size h.A q.length q:=by
 refine ⟨h.vs,r.len,rfl,⟨by rw [rvs_len,r.len],fun h0=>?_⟩,r.ok⟩;obtain ⟨h1,h2,h3,cs,h4,h5⟩:=r.lies h0;refine ⟨h.g,0,h1,h4.lt,fun j u hu=>?_⟩;rw [Nat.zero_add,h4.cell j];rw [←h5] at hu;have hj:=(zB_.1 hu).1;rw [zF_] at hj;rw [List.getElem?_take_of_lt (by omega)] at hu;simpa using hu
end
structure OwnM (w:World) (base g:Nat) (hs:List Mh) (M:List (List Rat)):Prop where
 top:Blk w g 93 (hs.map Mh.hd).toArray
 len:hs.length=M.length
 gb:base≤g
 row:∀ (i:Nat) (h:Mh) (q:List Rat),hs[i]?=some h→M[i]?=some q→MRow w base g h q
 dis:∀ (i j:Nat) (h h':Mh),i≠j→hs[i]?=some h→hs[j]?=some h'→0<h.vs.length→0<h'.vs.length→h.g≠h'.g
section
variable {w w':World} {base g:Nat} {hs:List Mh} {M:List (List Rat)}
theorem OwnM.up (o:OwnM w base g hs M) (hb:Below w.heap.size w w'):OwnM w' base g hs M:=
 ⟨o.top.bl hb,o.len,o.gb,fun i h q hh hq=>(o.row i h q hh hq).up hb,o.dis⟩
theorem OwnM.get (o:OwnM w base g hs M) {i:Nat} {q:List Rat} (hq:M[i]?=some q):∃ h,hs[i]?=some h∧w.cell? ⟨g,i,none⟩=some (.slice h.A q.length h.c)∧MRow w base g h q:=by
 obtain ⟨h,hh⟩:∃ h,hs[i]?=some h:=zX_ (by rw [o.len];exact (zB_.1 hq).1);have hr:=o.row i h q hh hq;refine ⟨h,hh,?_,hr⟩;rw [o.top.cell,List.getElem?_toArray,zM_,hh,←hr.len];rfl
theorem OwnM.rd (o:OwnM w base g hs M):RdM w w.heap.size (some ⟨g,0,none⟩) M.length M:=by
 refine ⟨hs.map fun h=>⟨h.A,h.vs.length,h.c⟩,by rw [zG_,o.len],rfl,⟨by simp [o.len],fun _=>⟨g,0,rfl,o.top.lt,fun j u hu=>?_⟩⟩,fun i h q hh hq=>?_⟩
 ·rw [Nat.zero_add,o.top.cell j,List.getElem?_toArray]
  rw [List.map_map] at hu;exact hu
 ·rw [zM_] at hh
  obtain ⟨h',hh',rfl⟩:=Option.map_eq_some_iff.1 hh;have hr:=o.row i h' q hh' hq;refine ⟨?_,hr.cap,hr.cm⟩;have:=hr.rd;rw [←hr.len] at this;exact this
theorem OwnM.put (o:OwnM w base g hs M) {i j:Nat} {h:Mh} {q:List Rat} {v:Rv} {x:Rat} (hh:hs[i]?=some h) (hq:M[i]?=some q) (hj:j<q.length) (hv:RtV w w.heap.size x v) :
    OwnM (putV w h.g j v) base g (hs.set i ⟨h.A,h.g,h.c,h.vs.set j v⟩) (M.set i (q.set j x)):=by
 have hr:=o.row i h q hh hq;obtain ⟨h1,h2,h3,cs,h4,h5⟩:=hr.lies (by omega);obtain ⟨y,hy⟩:∃ y,h.vs[j]?=some y:=zX_ (by rw [hr.len];exact hj);have hil:=(zB_.1 hh).1;have hok:∀ {us:List Rv} {ps:List Rat},RvOk w us ps→RvOk (putV w h.g j v) us ps:=fun H k p u hp hu=>RtV.keep4 (H k p u hp hu) v h4 h5 hy;refine ⟨?_,by rw [zU_,zU_,o.len],o.gb,fun k h' q' hk hkq=>?_,fun a b ha hb hab hga hgb l1 l2=>?_⟩
 ·have e:(hs.set i ⟨h.A,h.g,h.c,h.vs.set j v⟩).map Mh.hd=hs.map Mh.hd:=by
   rw [List.map_set];apply List.ext_getElem?;intro k;rw [List.getElem?_set]
   by_cases hk:i=k
   ·subst hk
    rw [zG_,zM_,hh];simp [hil,Mh.hd]
   ·rw [if_neg hk]
  rw [e];exact o.top.far4 v (fun e=>h3 e.symm)
 ·rw [List.getElem?_set] at hk hkq
  by_cases hik:i=k
  ·subst hik
   rw [if_pos rfl,if_pos hil] at hk;rw [if_pos rfl,if_pos (by rw [←o.len];exact hil)] at hkq;injection hk with hk;injection hkq with hkq;subst hk;subst hkq;obtain ⟨cs',k1,k2⟩:=h4.row_put v h5 hr.len hj;refine ⟨by simp [hr.len],by simpa using hr.cap,hr.cm,fun a p u hp hu=>?_,fun _=>⟨h1,h2,h3,cs',k1,by rw [zU_];exact k2⟩⟩;simp only at hu;rw [List.getElem?_set] at hp hu
   by_cases hja:j=a
   ·subst hja
    rw [if_pos rfl,if_pos hj] at hp;rw [if_pos rfl,if_pos (by rw [hr.len];exact hj)] at hu;injection hp with hp;injection hu with hu;subst hp;subst hu;exact RtV.keep4 hv v h4 h5 hy
   ·rw [if_neg hja] at hp hu
    exact hok hr.ok a p u hp hu
  ·rw [if_neg hik] at hk hkq
   have hr':=o.row k h' q' hk hkq;refine ⟨hr'.len,hr'.cap,hr'.cm,hok hr'.ok,fun h0=>?_⟩;obtain ⟨a1,a2,a3,cs',a4,a5⟩:=hr'.lies h0;exact ⟨a1,a2,a3,cs',a4.far4 v (o.dis k i h' h (fun e=>hik e.symm) hk hh (by rw [hr'.len];exact h0) (by rw [hr.len];omega)),a5⟩
 ·rw [List.getElem?_set] at hga hgb
  have key:∀ (k:Nat) (z:Mh),(if i=k then (if i<hs.length then some (⟨h.A,h.g,h.c,h.vs.set j v⟩:Mh) else none) else hs[k]?)=some z→∃ z',hs[k]?=some z'∧z'.g=z.g∧z'.vs.length=z.vs.length:=fun k z hz=>by
   by_cases hik:i=k
   ·subst hik
    rw [if_pos rfl,if_pos hil] at hz;injection hz with hz;subst hz;exact ⟨h,hh,rfl,by simp⟩
   ·rw [if_neg hik] at hz
    exact ⟨z,hz,rfl,rfl⟩
  obtain ⟨z1,k1,k2,k3⟩:=key a ha hga;obtain ⟨z2,k4,k5,k6⟩:=key b hb hgb;rw [←k2,←k5];exact o.dis a b z1 z2 hab k1 k4 (by omega) (by omega)
theorem OwnM.setRow (o:OwnM w base g hs M) {i:Nat} {h:Mh} {q:List Rat} (hi:i<M.length) (hr:MRow w base g h q) (hd:∀ (j:Nat) (h':Mh),j≠i→hs[j]?=some h'→0<h'.vs.length→0<h.vs.length→h'.g≠h.g) :
    OwnM (w.setCell ⟨g,i,none⟩ (.slice h.A q.length h.c)) base g (hs.set i h) (M.set i q):=by
 have hil:i<hs.length:=by rw [o.len];exact hi
 have hok:∀ {us:List Rv} {ps:List Rat} (u:Value),RvOk w us ps→RvOk (w.setCell ⟨g,i,none⟩ u) us ps:=fun u H k p v hp hv=>by
  have h0:RtIs w w.heap.size p v.b1 v.A v.n v.c v.b2 v.A2 v.m v.d:=H k p v hp hv;refine RtIs.keep h0 (v:=(hs.map Mh.hd)[i]'(by simpa using hil)) ?_ (fun a b e=>?_) u
  ·rw [o.top.cell];simp [hil]
  ·simp [Mh.hd] at e
 have hrow:∀ {h:Mh} {q:List Rat} (u:Value),MRow w base g h q→MRow (w.setCell ⟨g,i,none⟩ u) base g h q:=fun u r=>
  ⟨r.len,r.cap,r.cm,hok u r.ok,fun h0=>by
   obtain ⟨h1,h2,h3,cs,h4,h5⟩:=r.lies h0;exact ⟨h1,h2,h3,cs,h4.far h3 u,h5⟩⟩
 refine ⟨?_,by rw [zU_,zU_,o.len],o.gb,fun k h' q' hk hkq=>?_,fun a b ha hb hab hga hgb l1 l2=>?_⟩
 ·have:=o.top.set_ i (.slice h.A q.length h.c)
  rw [List.map_set];rw [←hr.len] at this ⊢;simpa [Mh.hd] using this
 ·rw [List.getElem?_set] at hk hkq
  by_cases hik:i=k
  ·subst hik
   rw [if_pos rfl,if_pos hil] at hk;rw [if_pos rfl,if_pos hi] at hkq;injection hk with hk;injection hkq with hkq;subst hk;subst hkq;exact hrow _ hr
  ·rw [if_neg hik] at hk hkq
   exact hrow _ (o.row k h' q' hk hkq)
 ·rw [List.getElem?_set] at hga hgb
  by_cases hia:i=a
  ·subst hia
   rw [if_pos rfl,if_pos hil] at hga;injection hga with hga;subst hga;rw [if_neg hab] at hgb;exact fun e=>hd b hb (fun e=>hab e.symm) hgb l2 l1 e.symm
  ·rw [if_neg hia] at hga
   by_cases hib:i=b
   ·subst hib
    rw [if_pos rfl,if_pos hil] at hgb;injection hgb with hgb;subst hgb;exact hd a ha (fun e=>hia e.symm) hga l1 l2
   ·rw [if_neg hib] at hgb
    exact o.dis a b ha hb hab hga hgb l1 l2
theorem OwnM.swap (o:OwnM w base g hs M) {r p:Nat} {a b:List Rat} {ha hb:Mh} (h1:hs[r]?=some ha) (h2:hs[p]?=some hb) (h3:M[r]?=some a) (h4:M[p]?=some b) :
    OwnM ((w.setCell ⟨g,r,none⟩ (.slice hb.A b.length hb.c)).setCell ⟨g,p,none⟩ (.slice ha.A a.length ha.c)) base g ((hs.set r hb).set p ha) ((M.set r b).set p a):=by
 have hrl:=(zB_.1 h1).1;have hpl:=(zB_.1 h2).1;have ra:=o.row r ha a h1 h3;have rb:=o.row p hb b h2 h4;have hok:∀ {w:World} {cs:Array Value} {us:List Rv} {ps:List Rat} {i:Nat} {x:Value} (u:Value),Blk w g 93 cs→cs[i]?=some x→(∀ k y,x≠.int k y)→RvOk w us ps→RvOk (w.setCell ⟨g,i,none⟩ u) us ps:=fun {w cs us ps i x} u hb hc hx H k p v hp hv=>by
  have h0:RtIs w w.heap.size p v.b1 v.A v.n v.c v.b2 v.A2 v.m v.d:=H k p v hp hv;refine RtIs.keep h0 (v:=x) ?_ hx u;rw [hb.cell];exact hc
 have hB1:=o.top.set_ r (.slice hb.A b.length hb.c);have hd1:∀ (i:Nat) (z:Mh),hs[i]?=some z→(hs.map Mh.hd).toArray[i]?=some z.hd:=fun i z hz=>by rw [List.getElem?_toArray,zM_,hz];rfl
 have hrow:∀ {h:Mh} {q:List Rat},MRow w base g h q→MRow ((w.setCell ⟨g,r,none⟩ (.slice hb.A b.length hb.c)).setCell ⟨g,p,none⟩ (.slice ha.A a.length ha.c)) base g h q:=fun R=>
  ⟨R.len,R.cap,R.cm,by
   have k1:=hok (.slice hb.A b.length hb.c) o.top (hd1 r ha h1) (fun k y e=>by cases e) R.ok
   by_cases hrp:r=p
   ·subst hrp
    exact hok _ hB1 (x:=.slice hb.A b.length hb.c) (by simp [hrl]) (fun k y e=>by cases e) k1
   ·exact hok _ hB1 (x:=hb.hd) (by rw [Array.getElem?_setIfInBounds_ne hrp];exact hd1 p hb h2) (fun k y e=>by cases e) k1,fun h0=>by
   obtain ⟨k1,k2,k3,cs,k4,k5⟩:=R.lies h0;exact ⟨k1,k2,k3,cs,(k4.far k3 _).far k3 _,k5⟩⟩
 have hnew:∀ (i:Nat) (z:Mh),((hs.set r hb).set p ha)[i]?=some z→∃ i' ,hs[i']?=some z∧((i'=i∧i≠r∧i≠p)∨(i=r∧i≠p∧i'=p)∨(i=p∧i'=r))∧∀ q,((M.set r b).set p a)[i]?=some q→M[i']?=some q:=fun i z hz=>by
  rw [List.getElem?_set,List.getElem?_set,zU_] at hz
  by_cases hp:p=i
  ·subst hp
   rw [if_pos rfl,if_pos hpl] at hz;injection hz with hz;subst hz;refine ⟨r,h1,.inr (.inr ⟨rfl,rfl⟩),fun q hq=>?_⟩;rw [List.getElem?_set,if_pos rfl,if_pos (by rw [zU_,←o.len];exact hpl)] at hq;rw [h3];exact hq
  ·rw [if_neg hp] at hz
   by_cases hr:r=i
   ·subst hr
    rw [if_pos rfl,if_pos hrl] at hz;injection hz with hz;subst hz;refine ⟨p,h2,.inr (.inl ⟨rfl,fun e=>hp e.symm,rfl⟩),fun q hq=>?_⟩;rw [List.getElem?_set,if_neg hp,List.getElem?_set,if_pos rfl,if_pos (by rw [←o.len];exact hrl)] at hq;rw [h4];exact hq
   ·rw [if_neg hr] at hz
    refine ⟨i,hz,.inl ⟨rfl,fun e=>hr e.symm,fun e=>hp e.symm⟩,fun q hq=>?_⟩;rw [List.getElem?_set,if_neg hp,List.getElem?_set,if_neg hr] at hq;exact hq
 refine ⟨?_,by simp [o.len],o.gb,fun i z q hz hq=>?_,fun i j z z' hij hz hz' l1 l2=>?_⟩
 ·have:=hB1.set_ p (.slice ha.A a.length ha.c)
  rw [List.map_set,List.map_set];rw [←ra.len,←rb.len] at this ⊢;simpa [Mh.hd] using this
 ·obtain ⟨i',k1,_,k3⟩:=hnew i z hz
  exact hrow (o.row i' z q k1 (k3 q hq))
 ·obtain ⟨i',k1,k2,_⟩:=hnew i z hz
  obtain ⟨j',m1,m2,_⟩:=hnew j z' hz'
  by_cases hne:i'=j'
  ·subst hne
   omega
  ·exact o.dis i' j' z z' hne k1 m1 l1 l2
end
theorem info_row:(Tryz.prog.info? 93).map (fun i=>(i.zero,i.size,i.bytes))=some (some (.slice none 0 0),1,24):=by kernel_rfl
def nilRows (n:Nat):Array Value:=(List.replicate n (Value.slice none 0 0)).toArray
theorem make_rows (n:Nat) (hn:n≤1000000) (w:World):(Instr.makeSlice 92 (.int .i64 (n:Int)) (.int .i64 (n:Int))).run Tryz.prog w=.ok (.slice (some ⟨w.heap.size,0,none⟩) n n) (w.alloc (.cells (nilRows n) 93)):=by
 obtain ⟨i0,hi0,hz0,hz1,hz2⟩:=info_parts info_row;rw [run_make w 92 93 i0 _ Tryz.underlying92 hi0 hz0 .i64 .i64 (n:Int) (n:Int) (by omega) (Int.le_refl _) (by rw [hz2];omega) (by omega),zL_,hz1,Nat.mul_one];rw [show (Value.slice none 0 0).cells=#[Value.slice none 0 0] from rfl];rw [show madeCells #[Value.slice none 0 0] n=(List.replicate n (Value.slice none 0 0)).toArray from by
  apply Array.ext';rw [toList_madeCells_one]]
 rfl
theorem ownM_made {w:World} {g n:Nat} (h:Blk w g 93 (nilRows n)) {base:Nat} (hb:base≤g):OwnM w base g (List.replicate n ⟨none,0,0,[]⟩) (List.replicate n []):=by
 unfold nilRows at h;refine ⟨by rw [List.map_replicate];exact h,by simp,hb,fun i h q hh hq=>?_,fun i j h h' _ hh _ l=>?_⟩
 ·rw [List.getElem?_replicate] at hh hq
  split at hh
  ·rw [if_pos ‹_›] at hq
   injection hh with hh;injection hq with hq;subst hh;subst hq;exact mrow_nil _ _ _ _ _ _ (by simp [maxLen])
  ·cases hh
 ·rw [List.getElem?_replicate] at hh
  split at hh
  ·injection hh with hh
   subst hh;simp at l
  ·cases hh
theorem mrow_own {w w':World} {base g:Nat} {v:Value} {vs:List Rv} {qs:List Rat} (h:OwnQ w base v vs qs) (hg:g<base):∃ h:Mh,v=.slice h.A qs.length h.c∧h.vs=vs∧MRow w base g h qs:=by
 obtain ⟨hl,h1⟩:=h.own;rcases h1 with ⟨h1,h2⟩ | ⟨b,cap,cur,h1,h2,h3,h4,h5,h6,h7,_⟩
 ·have hq:qs=[]:=List.eq_nil_of_length_eq_zero (by rw [←h.len];exact h2)
  have hv:vs=[]:=List.eq_nil_of_length_eq_zero h2;subst hq;subst hv;exact ⟨⟨none,0,0,[]⟩,h1,rfl,mrow_nil _ _ _ _ _ _ (by simp [maxLen])⟩
 ·refine ⟨⟨some ⟨b,0,none⟩,b,cap,vs⟩,by rw [←h.len];exact h1,rfl,h.len,h4,h5,h.ok,fun _=>⟨rfl,h2,by simp only;omega,cur,h3,by rw [←h.len];exact h7⟩⟩
theorem RdM.bm {w w':World} {n:Nat} {A:Option Addr} {l:List (List Rat)} (h:RdM w w.heap.size A n l) (g:Below w.heap.size w w'):RdM w' w'.heap.size A n l:=(h.below g lR).more g.size
end
section
open Go.ChangeShapes Go.WideShapes Go.ChangeAt Go.RowKit
attribute [local go_sem ↓] execOp_call_val
attribute [local go_sem] callVal_func setCell_drewN alloc_drewN sEq_walk
theorem MRow.mono {w:World} {base base' g:Nat} {h:Mh} {q:List Rat} (r:MRow w base g h q) (hb:base'≤base):MRow w base' g h q:=
 ⟨r.len,r.cap,r.cm,r.ok,fun h0=>by
  obtain ⟨h1,h2,h3⟩:=r.lies h0;exact ⟨h1,zI_ hb h2,h3⟩⟩
theorem OwnM.lt {w:World} {base g:Nat} {hs:List Mh} {M:List (List Rat)} (o:OwnM w base g hs M) {j:Nat} {h:Mh} (hh:hs[j]?=some h) (h0:0<h.vs.length):h.g<w.heap.size:=by
 obtain ⟨q,hq⟩:∃ q,M[j]?=some q:=zX_ (by rw [←o.len];exact (zB_.1 hh).1);have r:=o.row j h q hh hq;obtain ⟨_,_,_,cs,hb,_⟩:=r.lies (by rw [←r.len];exact h0);exact hb.lt
theorem fill_set {M:List (List Rat)} {n k:Nat} {q:List Rat} (hn:M.length=n) (hq:M[k]?=some q):(M.take k++List.replicate (n-k) []).set k q=M.take (k+1)++List.replicate (n-(k+1)) []:=by
 have hk:=(zB_.1 hq).1;rw [List.set_append_right _ _ (by rw [zF_];omega),zF_,Nat.min_eq_left (by omega),Nat.sub_self,take_snoc hq];rw [show n-k=(n-(k+1))+1 from by omega,List.replicate_succ];simp
def OutM (M:List (List Rat)) (w:World) (e:Ending) (w':World):Prop:=Below w.heap.size w w'∧∃ g hs,e=.returned (.slice (some ⟨g,0,none⟩) M.length M.length)∧OwnM w' w.heap.size g hs M
theorem rdQ_parts {w:World} {B n:Nat} {A:Option Addr} {q:List Rat} (h:RdQ w B A n q):∃ vs:List Rv,vs.length=n∧q.length=n∧Rd w B 4 A n (rvs vs)∧∀ (i:Nat) (x:Rat) (v:Rv),q[i]?=some x→vs[i]?=some v→RtV w B x v:=h
theorem rvs_noI (vs:List Rv):∀ u∈rvs vs,u.oneCell'=true∧NoI u:=fun u hu=>by
 unfold rvs at hu;obtain ⟨v,_,hv⟩:=List.mem_flatMap.1 hu;exact rv_noI v u hv
theorem copy_m (A:Option Addr) (n c:Nat) (M:List (List Rat)) (w:World) (hR:RdM w w.heap.size A n M) (hn:n≤1000000) (hw:∀ a∈M,a.length≤1000000) :
    Calls Tryz.prog 156 #[.slice A n c] w (OutM M w):=by
 have HR:=lH hR;have HL:=lH hR.len;have HWD:=lH hw;have HNN:=lH hn;obtain ⟨i0,hi0,hz0,hz1,hz2⟩:=rat_parts;have HI0:=lH hi0;have HI1:=lH hz0;have HI2:=lH hz1;have HI3:=lH hz2;clear hR hw hi0 hz0 hz1 hz2;have hmk:∀ w:World,(Instr.makeSlice 92 (.int .i64 (n:Int)) (.int .i64 (n:Int))).run Tryz.prog w=.ok (.slice (some ⟨w.heap.size,0,none⟩) n n) (w.alloc (.cells (nilRows n) 93)):=fun w=>make_rows n hn w;have HK:=lH ((Below.refl w.heap.size w).alloc lR (.cells (nilRows n) 93));have HG:=lH (Blk.new w 93 (nilRows n));go_enter Tryz.func156,Tryz.ntmps156
 go_wp2_with fail
 clear hmk;generalize w.alloc (.cells (nilRows n) 93)=W at *;have HO:=lH (ownM_made HG.o lR);generalize hg:w.heap.size=g at *;have HGS:=lH hg;clear hg HG
 go_loopw [11] (fun v11 wr=>∃ (k:Nat) (hs:List Mh),k≤n∧v11=.int .i64 k∧Below g w wr∧OwnM wr g g hs (M.take k++List.replicate (n-k) [])) (fun v11 _=>n-(intOf v11).toNat)
 case atStart=>exact ⟨0,_,by omega,rfl,HK.o,by rw [List.take_zero,List.nil_append,Nat.sub_zero];exact HO.o⟩
 case round=>
  clear HK HO;obtain ⟨k,hs,hk,rfl,hb,ho⟩:=hrel;have HK:=lH hb;have HO:=lH ho;clear hb ho
  by_cases hlt:k<n
  ·obtain ⟨q,hq⟩:∃ q,M[k]?=some q:=zX_ (by have:=HL.o;omega)
   obtain ⟨b,o,hA,hb⟩:=(HR.o.below HK.o (by have:=HGS.o;omega)).form (by omega);subst hA;obtain ⟨h,hc,hrq,hh1,hh2⟩:=(HR.o.below HK.o (by have:=HGS.o;omega)).at_ hq;have HGL:Hid (g<wr.heap.size):=lH HO.o.top.lt;have HRQ:=lH (hrq.more (B':=wr.heap.size) (by have:=HGS.o;have:=HGL.o;omega));have HQ:=lH hq;have HQW:=lH (HWD.o q (zC_ hq));have HF:=lH (fill_set HL.o hq);have hkI:(k:Int)<(n:Int):=by omega
   have HN1:=lN k;have HN2:Hid (n-(k+1)<n-k):=lH (by omega);have hbl:b<wr.heap.size:=by have:=HK.o.size;have:=HGS.o;omega
   obtain ⟨vs,hv1,hv2,hv3,hv4⟩:=rdQ_parts HRQ.o;obtain ⟨hA0,hn0,hc0⟩:=h;simp only at hc hv1 hv2 hv3 hv4 hh1 hh2;have HV1:=lH hv1;have HV2:=lH hv2;have HV3:=lH hv3;have HV4:=lH hv4;have hn00:hn0≤1000000:=by have:=HQW.o;omega
   clear hv1 hv2 hv3 hv4 hq hrq hb HR
   go_wp2_with (at_builtin;refine wpList_appR (S:=NoI) rfl (.const (.slice none 0 0)) (.tmp 18) _ rfl g 115 i0 _ 4 64 Tryz.underlying93 HI0.o HI1.o HI2.o HI3.o rfl (by omega) zr_noI (.slice none 0 0) 0 [] rfl (ownS_none _ _ _ _ _) hA0 hn0 hc0 (rvs vs) rfl HV3.o (rvs_noI vs) ?k1 ?k2 ?k3 ?_)
   case k1=>simp only [maxLen];omega
   case k2=>omega
   case k3=>have:=HGL.o;omega
   intro v' w6 hown hkeep hb6 how6 hblk;have hvn:vs.length=hn0:=HV1.o;rw [←hvn] at how6;have hoq:OwnQ w6 wr.heap.size v' vs q:=⟨how6,by rw [HV1.o,HV2.o],RvOk.up (w:=wr) (w':=w6) HV4.o hb6⟩;obtain ⟨h2,hv,hvs,hrow⟩:=mrow_own (w':=w6) (g:=g) hoq HGL.o;clear hoq;subst hv;have HRW:=lH (hrow.mono (base':=g) (zQ_ HGL.o));have HB6:=lH (HK.o.trans (hb6.mono (zQ_ HGL.o)));have HO6:=lH (HO.o.up hb6);have HFR:Hid (∀ j (h':Mh),j≠k→hs[j]?=some h'→0<h'.vs.length→0<h2.vs.length→h'.g≠h2.g):=lH fun j h' _ hh l1 l2=>by
    have h3:=HO.o.lt hh l1;have h4:=(hrow.lies (by rw [←hrow.len];exact l2)).2.1;omega
   clear hown hkeep hb6 how6 hblk hvn hvs hrow hc HK HO;have gl:=HO6.o.top.lt;have gf:=HO6.o.top.frozen;obtain ⟨gv,gc⟩:∃ gv,w6.cell? ⟨g,k,none⟩=some gv:=by
    rw [HO6.o.top.cell];exact ⟨_,Array.getElem?_eq_getElem (by simp;rw [HO6.o.len];simp;have:=HL.o;omega)⟩
   generalize hql:q.length=ql at *;have HQL:=lH hql;clear hql
   go_wp2_with fail
   go_roundw
   case rel=>exact ⟨k+1,hs.set k h2,hlt,val_int HN1.o,HB6.o.setCell lR _,by rw [←HF.o,←HQL.o];exact HO6.o.setRow (by simp;have:=HL.o;omega) HRW.o HFR.o⟩
   case measure=>exact HN2.o
  ·have hke:k=n:=by omega
   subst hke;have hkI:¬(k:Int)<(k:Int):=by omega
   go_wp2_with fail
   go_ret;refine ⟨by rw [HGS.o];exact HK.o,g,hs,by rw [HL.o];rfl,?_⟩;have h:=HO.o;rw [Nat.sub_self,List.replicate_zero,List.append_nil,zH_ (by rw [HL.o];exact lR)] at h;rw [HGS.o];exact h
end
end Go.Proofs.YthgdchffeigkbaaGreatDoor
