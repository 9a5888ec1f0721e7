import Derived.Test.YthgdchffeigkbaaGreatDoorX17
set_option linter.unusedVariables false
set_option linter.unusedSimpArgs false
namespace Go.Proofs.YthgdchffeigkbaaGreatDoor
section
open Go.ChangeShapes Go.WideShapes Go.ChangeAt Go.RowKit Go.Joins
theorem t_ {ops:Array Oper} {rest:List Oper} {o:Oper} {a:Act} {Q:Exit->Act->World->Prop} {w:Wo} {T:TypeId} (CE:o.guard=none) (s x:Operand) (t:TypeId)
    (ho:o.op=.call { callee:=.builtin .append,args:=#[s,x],argTypes:=#[t,t] }) (base:Nat)
    (ht:Tryz.prog.underlying t=some (.slice 115))
    (v:Value) (vs:List Rv) (qs:List Rat) (hs:a.eval s=v) (bF:fH w base v vs qs) (u:Rv) (q:Rat) (hq:dL w w.heap.size q u)
    (hx:a.eval x=.slice (some ⟨w.heap.size,0,none⟩) 1 1) (wX:qs.length<=1000000000000) (c_:base<=w.heap.size)
    (h:∀ v' w',fH w' base v' (vs++[u]) (qs++[q])->dY oX base 115 (w.alloc (.cells #[.bool u.b1,.slice u.A u.n u.c,.bool u.b2,.slice u.A2 u.m u.d] T)) w'->Below base w w'->wpList Tryz.prog ops Q rest (a.put o.dst v') w') :
    wpList Tryz.prog ops Q (o::rest) a (w.alloc (.cells #[.bool u.b1,.slice u.A u.n u.c,.bool u.b2,.slice u.A2 u.m u.d] T)):=by
 obtain ⟨i0,kC,oE,kK,lQ⟩:=rN;have hl:=bF.len;refine qA (S:=oX) CE s x t ho base 115 i0 _ 4 64 ht kC oE kK lQ rfl (by omega) xP v vs.length (fS vs) hs bF.own hx rfl (FT u) (by simp only [maxLen];omega) (by omega) c_ fun v' w' h1 h2 _=>?_;have hb:Below w.heap.size w (w.alloc (.cells #[.bool u.b1,.slice u.A u.n u.c,.bool u.b2,.slice u.A2 u.m u.d] T)):=bA;exact h v' w' (fH.app (bF.keep hb) (hq.up hb) h1 h2) h2 ((hb.mono c_).trans h2.low)
section
variable {P:Program}
theorem JM {S:Value->Prop} (w:Wo) (base:Nat) (t ty e:TypeId) (i:TypeInfo) (z:Value) (size bytes:Nat) (ht:P.underlying t=some (.slice e)) (hi:P.info? e=some i) (hz:i.zero=some z)
    (gX:i.size=size) (AC:i.bytes=bytes)
    (v:Value) (n:Nat) (xs:List Value) (bF:bJ S w base e size v n xs)
    (a:Addr) (m c:Nat) (news:List Value) (hl:news.length=m*size) (iV:∀ j u,news[j]?=some u->w.cell? (a.add j)=some u) (h1:∀ u∈news,u.oneCell'=true)
    (wX:n+m<=maxLen) (gM:(n+m)*bytes<=140737488355328) (hm:0<m) {v':Value} {w':Wo}
    (GM:(Builtin.append_ #[t,t] ty #[v,.slice (some a) m c]).run P w=.ok v' w'):∀ k,k<w.heap.size->v.ownBlock≠some k->w'.heap[k]?=w.heap[k]?:=by
 subst gX;subst AC;have aLO:n+m<=9223372036854775807:=by simp only [maxLen] at wX;omega
 rcases bF.2 with ⟨rfl,rfl⟩ | ⟨g,cap,cur,rfl,hbg,hg,hnc,JJ,QM,aD0,hS⟩
 ·have hr:=run_append_nil (P:=P) w t ty e i z ht hi hz a m c news hl iV hm (by omega) (by have hb:=gM;rw [Nat.zero_add] at hb;omega)
  rw [GM] at hr;injection hr with _ hr;subst hr;intro k hk _;exact heap_alloc_old w.drew _ hk
 ·by_cases zV:n+m<=cap
  ·have wU:n*i.size+news.length<=cur.size:=by rw [hl,QM,<-Nat.add_mul];exact Nat.mul_le_mul_right _ zV
   have hr:=run_append_room (P:=P) w t ty e i ht hi g n cap cur hg a m c news hl iV (fun u hu=>h1 u hu) zV wU;rw [GM] at hr;injection hr with _ hr;subst hr;intro k hk cP;exact setRow_other w g k _ (fun e=>cP (by rw [e];rfl))
  ·have holds:∀ j u,xs[j]?=some u->w.cell? ((⟨g,0,none⟩:Addr).add j)=some u:=bF.own.cells (g:=g) rfl
   have hr:=run_append_grow (P:=P) w t ty e i z ht hi hz ⟨g,0,none⟩ n cap xs bF.1 holds a m c news hl iV (by omega) (by omega) (growslice_fits (by omega) gM);rw [GM] at hr;injection hr with _ hr;subst hr;intro k hk _;exact heap_alloc_old w.drew _ hk
theorem sG {S:Value->Prop} {o:Oper} {a:Act} {w:Wo} {K:Act->World->Prop} {Q:Exit->Act->World->Prop} (s x:Operand) (t:TypeId)
    (ho:o.op=.call { callee:=.builtin .append,args:=#[s,x],argTypes:=#[t,t] })
    (base:Nat) (e:TypeId) (i:TypeInfo) (z:Value) (size bytes:Nat) (ht:P.underlying t=some (.slice e)) (hi:P.info? e=some i) (hz:i.zero=some z)
    (gX:i.size=size) (AC:i.bytes=bytes) (IY:z.cells.size=size) (gW:0<size) (SJ:∀ u∈z.cells.toList,S u)
    (v:Value) (n:Nat) (xs:List Value) (hs:a.eval s=v) (bF:bJ S w base e size v n xs)
    (g T:Nat) (lit:Array Value) (hx:a.eval x=.slice (some ⟨g,0,none⟩) 1 1) (hg:aG w g T lit) (hl:lit.size=size) (h1:∀ u∈lit.toList,u.oneCell'=true/\S u)
    (wX:n+1<=maxLen) (gM:(n+1)*bytes<=140737488355328) (c_:base<=w.heap.size)
    (h:∀ v' w',bJ S w' base e size v' (n+1) (xs++lit.toList)->dY S base e w w'->(v'.ownBlock=v.ownBlock\/v'.ownBlock=some w.heap.size)->(∀ k,k<w.heap.size->v.ownBlock≠some k->w'.heap[k]?=w.heap[k]?)->K (a.put o.dst v') w') :
    o.wp P a w K Q:=by
 have hn:∀ j u,lit.toList[j]?=some u->w.cell? ((⟨g,0,none⟩:Addr).add j)=some u:=fun j u hu=>by
  rw [Addr.add_lit,Nat.zero_add,hg.cell j];simpa using hu
 have hll:lit.toList.length=1*size:=by rw [Array.length_toList,hl,Nat.one_mul]
 obtain ⟨v',w',g1,g2,g3,g4⟩:=n_ (P:=P) w base t o.type e i z size bytes ht hi hz gX AC IY gW SJ v n xs bF ⟨g,0,none⟩ 1 1 lit.toList hll hn h1 wX gM c_ (by decide);have g5:=JM (P:=P) w base t o.type e i z size bytes ht hi hz gX AC v n xs bF ⟨g,0,none⟩ 1 1 lit.toList hll hn (fun u hu=>(h1 u hu).1) wX gM (by decide) g1;unfold Oper.wp execOp;simp only [ho,resolve,invoke,builtin,Sem.run_bind,Sem.run_pure,Result.andThen_ok,List.map_toArray,List.map_cons,List.map_nil,hs,hx,g1];exact h v' w' g2 g3 g4 g5
theorem nB {S:Value->Prop} {o:Oper} {a:Act} {w:Wo} {K:Act->World->Prop} {Q:Exit->Act->World->Prop} (s x:Operand) (t:TypeId)
    (ho:o.op=.call { callee:=.builtin .append,args:=#[s,x],argTypes:=#[t,t] })
    (base:Nat) (e:TypeId) (i:TypeInfo) (z:Value) (size bytes:Nat) (ht:P.underlying t=some (.slice e)) (hi:P.info? e=some i) (hz:i.zero=some z)
    (gX:i.size=size) (AC:i.bytes=bytes) (IY:z.cells.size=size) (gW:0<size) (SJ:∀ u∈z.cells.toList,S u)
    (v:Value) (n:Nat) (xs:List Value) (hs:a.eval s=v) (bF:bJ S w base e size v n xs)
    (g T:Nat) (lit:Array Value) (hx:a.eval x=.slice (some ⟨g,0,none⟩) 1 1) (hg:aG w g T lit) (hl:lit.size=size) (h1:∀ u∈lit.toList,u.oneCell'=true/\S u)
    (wX:n+1<=maxLen) (gM:(n+1)*bytes<=140737488355328) (c_:base<=w.heap.size)
    (h:∀ A m c w',bJ S w' base e size (.slice A m c) (n+1) (xs++lit.toList)->dY S base e w w'->((Value.slice A m c).ownBlock=v.ownBlock\/(Value.slice A m c).ownBlock=some w.heap.size)->(∀ k,k<w.heap.size->v.ownBlock≠some k->w'.heap[k]?=w.heap[k]?)->K (a.put o.dst (.slice A m c)) w') :
    o.wp P a w K Q:=
 sG s x t ho base e i z size bytes ht hi hz gX AC IY gW SJ v n xs hs bF g T lit hx hg hl h1 wX gM c_ fun v' w' q1 q2 q3 q4=>by
  obtain ⟨A,c,hv,_⟩:=q1.shape;subst hv;exact h A _ c w' q1 q2 q3 q4
end
theorem bJ.lt {S:Value->Prop} {w:Wo} {base e size n:Nat} {v:Value} {xs:List Value} (h:bJ S w base e size v n xs) {k:Nat} (hk:v.ownBlock=some k):base<=k/\k<w.heap.size:=by
 rcases h.2 with ⟨h1,_⟩ | ⟨g,cap,cur,h1,h2,h3,_⟩
 ·rw [h1] at hk;cases hk
 ·rw [h1] at hk
  injection hk with hk;subst hk;exact ⟨h2,h3.lt⟩
theorem bJ.apart {S:Value->Prop} {w w':Wo} {base e size n:Nat} {v u:Value} {xs:List Value} (h:bJ S w base e size u n xs) (ho:∀ k,k<w.heap.size->v.ownBlock≠some k->w'.heap[k]?=w.heap[k]?) (cP:∀ k,u.ownBlock=some k->v.ownBlock≠some k):bJ S w' base e size u n xs:=by
 refine ⟨h.1,?_⟩;rcases h.2 with h1 | ⟨g,cap,cur,h1,h2,h3,h4⟩
 ·exact .inl h1
 ·exact .inr ⟨g,cap,cur,h1,h2,(ho g h3.lt (cP g (by rw [h1];rfl))).trans h3,h4⟩
end
