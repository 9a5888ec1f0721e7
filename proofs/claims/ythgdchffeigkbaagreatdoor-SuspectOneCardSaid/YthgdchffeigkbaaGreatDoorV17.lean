import Derived.Test.YthgdchffeigkbaaGreatDoorV14
set_option linter.unusedVariables false
set_option linter.unusedSimpArgs false
namespace Go.Proofs.YthgdchffeigkbaaGreatDoor
section
open Go.ChangeShapes Go.WideShapes Go.ChangeAt Go.RowKit Go.Joins
section
variable {P:Program}
theorem LV{S:Value->Prop}(w:Wo)(base:Nat)(t ty e:TypeId)(i:TypeInfo)(z:Value)(size bytes:Nat)(ht:P.underlying t=some (.slice e))(hi:P.info? e=some i)(hz:i.zero=some z)(iN:i.size=size)(CM:i.bytes=bytes)(v:Value)(n:Nat)(xs:List Value)(bB:bK S w base e size v n xs)(a:Addr)(m c:Nat)(news:List Value)(hl:news.length=m*size)(jY:∀j u,news[j]?=some u->w.cell? (a.add j)=some u)(h1:∀u∈news,u.oneCell'=true)(xC:n+m<=maxLen)(iG:(n+m)*bytes<=140737488355328)(hm:0<m){v':Value}{w':Wo}(JS:(Builtin.append_ #[t,t] ty #[v,.slice (some a) m c]).run P w=.ok v' w'):∀k,k<w.heap.size->v.ownBlock≠some k->w'.heap[k]?=w.heap[k]?:=by
 subst iN;subst CM;have aNP:n+m<=9223372036854775807:=by simp only[maxLen] at xC;omega
 rcases bB.2 with⟨rfl,rfl⟩ | ⟨g,cap,cur,rfl,hbg,hg,hnc,LQ,S7,aFB,hS⟩
 ·have hr:=run_append_nil (P:=P) w t ty e i z ht hi hz a m c news hl jY hm (by omega) (by have hb:=iG;rw[Nat.zero_add] at hb;omega)
  rw[JS] at hr;injection hr with _ hr;subst hr;intro k hk _;exact heap_alloc_old w.drew _ hk
 ·by_cases CI:n+m<=cap
  ·have uL:n*i.size+news.length<=cur.size:=by rw[hl,S7,<-Nat.add_mul];exact Nat.mul_le_mul_right _ CI
   have hr:=run_append_room (P:=P) w t ty e i ht hi g n cap cur hg a m c news hl jY (fun u hu=>h1 u hu) CI uL;rw[JS] at hr;injection hr with _ hr;subst hr;intro k hk bX;exact setRow_other w g k _ (fun e=>bX (by rw[e];rfl))
  ·have holds:∀j u,xs[j]?=some u->w.cell? ((⟨g,0,none⟩:Addr).add j)=some u:=bB.own.cells (g:=g) rfl
   have hr:=run_append_grow (P:=P) w t ty e i z ht hi hz ⟨g,0,none⟩ n cap xs bB.1 holds a m c news hl jY (by omega) (by omega) (growslice_fits (by omega) iG);rw[JS] at hr;injection hr with _ hr;subst hr;intro k hk _;exact heap_alloc_old w.drew _ hk
theorem tY{S:Value->Prop}{o:Oper}{a:Act}{w:Wo}{K:Act->World->Prop}{Q:Exit->Act->World->Prop}(s x:Operand)(t:TypeId)(ho:o.op=.call { callee:=.builtin .append,args:=#[s,x],argTypes:=#[t,t] })(base:Nat)(e:TypeId)(i:TypeInfo)(z:Value)(size bytes:Nat)(ht:P.underlying t=some (.slice e))(hi:P.info? e=some i)(hz:i.zero=some z)(iN:i.size=size)(CM:i.bytes=bytes)(M3:z.cells.size=size)(iV:0<size)(UV:∀u∈z.cells.toList,S u)(v:Value)(n:Nat)(xs:List Value)(hs:a.eval s=v)(bB:bK S w base e size v n xs)(g T:Nat)(lit:Array Value)(hx:a.eval x=.slice (some ⟨g,0,none⟩) 1 1)(hg:aG w g T lit)(hl:lit.size=size)(h1:∀u∈lit.toList,u.oneCell'=true/\S u)(xC:n+1<=maxLen)(iG:(n+1)*bytes<=140737488355328)(cS:base<=w.heap.size)(h:∀v' w',bK S w' base e size v' (n+1) (xs++lit.toList)->d8 S base e w w'->(v'.ownBlock=v.ownBlock\/v'.ownBlock=some w.heap.size)->(∀k,k<w.heap.size->v.ownBlock≠some k->w'.heap[k]?=w.heap[k]?)->K (a.put o.dst v') w'):o.wp P a w K Q:=by
 have hn:∀j u,lit.toList[j]?=some u->w.cell? ((⟨g,0,none⟩:Addr).add j)=some u:=fun j u hu=>by
  rw[Addr.add_lit,Nat.zero_add,hg.cell j];simpa using hu
 have hll:lit.toList.length=1*size:=by rw[Array.length_toList,hl,Nat.one_mul]
 obtain⟨v',w',g1,g2,g3,g4⟩:=pN (P:=P) w base t o.type e i z size bytes ht hi hz iN CM M3 iV UV v n xs bB ⟨g,0,none⟩ 1 1 lit.toList hll hn h1 xC iG cS (by decide);have g5:=LV (P:=P) w base t o.type e i z size bytes ht hi hz iN CM v n xs bB ⟨g,0,none⟩ 1 1 lit.toList hll hn (fun u hu=>(h1 u hu).1) xC iG (by decide) g1;unfold Oper.wp execOp;simp only[ho,resolve,invoke,builtin,Sem.run_bind,Sem.run_pure,Result.andThen_ok,List.map_toArray,List.map_cons,List.map_nil,hs,hx,g1];exact h v' w' g2 g3 g4 g5
theorem oR{S:Value->Prop}{o:Oper}{a:Act}{w:Wo}{K:Act->World->Prop}{Q:Exit->Act->World->Prop}(s x:Operand)(t:TypeId)(ho:o.op=.call { callee:=.builtin .append,args:=#[s,x],argTypes:=#[t,t] })(base:Nat)(e:TypeId)(i:TypeInfo)(z:Value)(size bytes:Nat)(ht:P.underlying t=some (.slice e))(hi:P.info? e=some i)(hz:i.zero=some z)(iN:i.size=size)(CM:i.bytes=bytes)(M3:z.cells.size=size)(iV:0<size)(UV:∀u∈z.cells.toList,S u)(v:Value)(n:Nat)(xs:List Value)(hs:a.eval s=v)(bB:bK S w base e size v n xs)(g T:Nat)(lit:Array Value)(hx:a.eval x=.slice (some ⟨g,0,none⟩) 1 1)(hg:aG w g T lit)(hl:lit.size=size)(h1:∀u∈lit.toList,u.oneCell'=true/\S u)(xC:n+1<=maxLen)(iG:(n+1)*bytes<=140737488355328)(cS:base<=w.heap.size)(h:∀A m c w',bK S w' base e size (.slice A m c) (n+1) (xs++lit.toList)->d8 S base e w w'->((Value.slice A m c).ownBlock=v.ownBlock\/(Value.slice A m c).ownBlock=some w.heap.size)->(∀k,k<w.heap.size->v.ownBlock≠some k->w'.heap[k]?=w.heap[k]?)->K (a.put o.dst (.slice A m c)) w'):o.wp P a w K Q:=
 tY s x t ho base e i z size bytes ht hi hz iN CM M3 iV UV v n xs hs bB g T lit hx hg hl h1 xC iG cS fun v' w' q1 q2 q3 q4=>by
  obtain⟨A,c,hv,_⟩:=q1.shape;subst hv;exact h A _ c w' q1 q2 q3 q4
end
theorem bK.lt{S:Value->Prop}{w:Wo}{base e size n:Nat}{v:Value}{xs:List Value}(h:bK S w base e size v n xs){k:Nat}(hk:v.ownBlock=some k):base<=k/\k<w.heap.size:=by
 rcases h.2 with⟨h1,_⟩ | ⟨g,cap,cur,h1,h2,h3,_⟩
 ·rw[h1] at hk;cases hk
 ·rw[h1] at hk
  injection hk with hk;subst hk;exact⟨h2,h3.lt⟩
theorem bK.apart{S:Value->Prop}{w w':Wo}{base e size n:Nat}{v u:Value}{xs:List Value}(h:bK S w base e size u n xs)(ho:∀k,k<w.heap.size->v.ownBlock≠some k->w'.heap[k]?=w.heap[k]?)(bX:∀k,u.ownBlock=some k->v.ownBlock≠some k):bK S w' base e size u n xs:=by
 refine⟨h.1,?_⟩;rcases h.2 with h1 | ⟨g,cap,cur,h1,h2,h3,h4⟩
 ·exact .inl h1
 ·exact .inr ⟨g,cap,cur,h1,h2,(ho g h3.lt (bX g (by rw[h1];rfl))).trans h3,h4⟩
end
