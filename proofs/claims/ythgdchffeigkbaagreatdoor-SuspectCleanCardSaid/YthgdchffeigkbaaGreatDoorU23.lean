import Derived.Test.YthgdchffeigkbaaGreatDoorU15
set_option linter.unusedVariables false
set_option linter.unusedSimpArgs false
namespace Go.Proofs.YthgdchffeigkbaaGreatDoor
section
open Go.ChangeShapes Go.WideShapes Go.ChangeAt Go.RowKit Go.Joins
theorem wpList_appQ {ops:Array Oper} {rest:List Oper} {o:Oper} {a:Act} {Q:Exit→Act→World→Prop} {w:World} {T:TypeId} (hgd:o.guard=none) (s x:Operand) (t:TypeId)
    (ho:o.op=.call { callee:=.builtin .append,args:=#[s,x],argTypes:=#[t,t] }) (base:Nat)
    (ht:Tryz.prog.underlying t=some (.slice 115))
    (v:Value) (vs:List Rv) (qs:List Rat) (hs:a.eval s=v) (hown:OwnQ w base v vs qs) (u:Rv) (q:Rat) (hq:RtV w w.heap.size q u)
    (hx:a.eval x=.slice (some ⟨w.heap.size,0,none⟩) 1 1) (h63:qs.length≤1000000000000) (hbase:base≤w.heap.size)
    (h:∀ v' w',OwnQ w' base v' (vs++[u]) (qs++[q])→Keeps NoI base 115 (w.alloc (.cells #[.bool u.b1,.slice u.A u.n u.c,.bool u.b2,.slice u.A2 u.m u.d] T)) w'→Below base w w'→wpList Tryz.prog ops Q rest (a.put o.dst v') w') :
    wpList Tryz.prog ops Q (o::rest) a (w.alloc (.cells #[.bool u.b1,.slice u.A u.n u.c,.bool u.b2,.slice u.A2 u.m u.d] T)):=by
 obtain ⟨i0,hi0,hz0,hz1,hz2⟩:=rat_parts;have hl:=hown.len;refine wpList_appS (S:=NoI) hgd s x t ho base 115 i0 _ 4 64 ht hi0 hz0 hz1 hz2 rfl (by omega) zr_noI v vs.length (rvs vs) hs hown.own hx rfl (rv_noI u) (by simp only [maxLen];omega) (by omega) hbase fun v' w' h1 h2 _=>?_;have hb:Below w.heap.size w (w.alloc (.cells #[.bool u.b1,.slice u.A u.n u.c,.bool u.b2,.slice u.A2 u.m u.d] T)):=bA;exact h v' w' (OwnQ.app (hown.keep hb) (hq.up hb) h1 h2) h2 ((hb.mono hbase).trans h2.low)
section
variable {P:Program}
theorem append_others {S:Value→Prop} (w:World) (base:Nat) (t ty e:TypeId) (i:TypeInfo) (z:Value) (size bytes:Nat) (ht:P.underlying t=some (.slice e)) (hi:P.info? e=some i) (hz:i.zero=some z)
    (hsize:i.size=size) (hby:i.bytes=bytes)
    (v:Value) (n:Nat) (xs:List Value) (hown:OwnS S w base e size v n xs)
    (a:Addr) (m c:Nat) (news:List Value) (hl:news.length=m*size) (hnews:∀ j u,news[j]?=some u→w.cell? (a.add j)=some u) (h1:∀ u∈news,u.oneCell'=true)
    (h63:n+m≤maxLen) (hbytes:(n+m)*bytes≤140737488355328) (hm:0<m) {v':Value} {w':World}
    (hr':(Builtin.append_ #[t,t] ty #[v,.slice (some a) m c]).run P w=.ok v' w'):∀ k,k<w.heap.size→v.ownBlock≠some k→w'.heap[k]?=w.heap[k]?:=by
 subst hsize;subst hby;have hsmall:n+m≤9223372036854775807:=by simp only [maxLen] at h63;omega
 rcases hown.2 with ⟨rfl,rfl⟩ | ⟨g,cap,cur,rfl,hbg,hg,hnc,hcm,hcs,htake,hS⟩
 ·have hr:=run_append_nil (P:=P) w t ty e i z ht hi hz a m c news hl hnews hm (by omega) (by have hb:=hbytes;rw [Nat.zero_add] at hb;omega)
  rw [hr'] at hr;injection hr with _ hr;subst hr;intro k hk _;exact heap_alloc_old w.drew _ hk
 ·by_cases hroom:n+m≤cap
  ·have hfit:n*i.size+news.length≤cur.size:=by rw [hl,hcs,←Nat.add_mul];exact Nat.mul_le_mul_right _ hroom
   have hr:=run_append_room (P:=P) w t ty e i ht hi g n cap cur hg a m c news hl hnews (fun u hu=>h1 u hu) hroom hfit;rw [hr'] at hr;injection hr with _ hr;subst hr;intro k hk hne;exact setRow_other w g k _ (fun e=>hne (by rw [e];rfl))
  ·have holds:∀ j u,xs[j]?=some u→w.cell? ((⟨g,0,none⟩:Addr).add j)=some u:=hown.own.cells (g:=g) rfl
   have hr:=run_append_grow (P:=P) w t ty e i z ht hi hz ⟨g,0,none⟩ n cap xs hown.1 holds a m c news hl hnews (by omega) (by omega) (growslice_fits (by omega) hbytes);rw [hr'] at hr;injection hr with _ hr;subst hr;intro k hk _;exact heap_alloc_old w.drew _ hk
theorem wp_app_blk {S:Value→Prop} {o:Oper} {a:Act} {w:World} {K:Act→World→Prop} {Q:Exit→Act→World→Prop} (s x:Operand) (t:TypeId)
    (ho:o.op=.call { callee:=.builtin .append,args:=#[s,x],argTypes:=#[t,t] })
    (base:Nat) (e:TypeId) (i:TypeInfo) (z:Value) (size bytes:Nat) (ht:P.underlying t=some (.slice e)) (hi:P.info? e=some i) (hz:i.zero=some z)
    (hsize:i.size=size) (hby:i.bytes=bytes) (hzs:z.cells.size=size) (hsz:0<size) (hzS:∀ u∈z.cells.toList,S u)
    (v:Value) (n:Nat) (xs:List Value) (hs:a.eval s=v) (hown:OwnS S w base e size v n xs)
    (g T:Nat) (lit:Array Value) (hx:a.eval x=.slice (some ⟨g,0,none⟩) 1 1) (hg:Blk w g T lit) (hl:lit.size=size) (h1:∀ u∈lit.toList,u.oneCell'=true∧S u)
    (h63:n+1≤maxLen) (hbytes:(n+1)*bytes≤140737488355328) (hbase:base≤w.heap.size)
    (h:∀ v' w',OwnS S w' base e size v' (n+1) (xs++lit.toList)→Keeps S base e w w'→(v'.ownBlock=v.ownBlock∨v'.ownBlock=some w.heap.size)→(∀ k,k<w.heap.size→v.ownBlock≠some k→w'.heap[k]?=w.heap[k]?)→K (a.put o.dst v') w') :
    o.wp P a w K Q:=by
 have hn:∀ j u,lit.toList[j]?=some u→w.cell? ((⟨g,0,none⟩:Addr).add j)=some u:=fun j u hu=>by
  rw [Addr.add_lit,Nat.zero_add,hg.cell j];simpa using hu
 have hll:lit.toList.length=1*size:=by rw [Array.length_toList,hl,Nat.one_mul]
 obtain ⟨v',w',g1,g2,g3,g4⟩:=run_append_S (P:=P) w base t o.type e i z size bytes ht hi hz hsize hby hzs hsz hzS v n xs hown ⟨g,0,none⟩ 1 1 lit.toList hll hn h1 h63 hbytes hbase (by decide);have g5:=append_others (P:=P) w base t o.type e i z size bytes ht hi hz hsize hby v n xs hown ⟨g,0,none⟩ 1 1 lit.toList hll hn (fun u hu=>(h1 u hu).1) h63 hbytes (by decide) g1;unfold Oper.wp execOp;simp only [ho,resolve,invoke,builtin,Sem.run_bind,Sem.run_pure,Result.andThen_ok,List.map_toArray,List.map_cons,List.map_nil,hs,hx,g1];exact h v' w' g2 g3 g4 g5
theorem wp_app_blk2 {S:Value→Prop} {o:Oper} {a:Act} {w:World} {K:Act→World→Prop} {Q:Exit→Act→World→Prop} (s x:Operand) (t:TypeId)
    (ho:o.op=.call { callee:=.builtin .append,args:=#[s,x],argTypes:=#[t,t] })
    (base:Nat) (e:TypeId) (i:TypeInfo) (z:Value) (size bytes:Nat) (ht:P.underlying t=some (.slice e)) (hi:P.info? e=some i) (hz:i.zero=some z)
    (hsize:i.size=size) (hby:i.bytes=bytes) (hzs:z.cells.size=size) (hsz:0<size) (hzS:∀ u∈z.cells.toList,S u)
    (v:Value) (n:Nat) (xs:List Value) (hs:a.eval s=v) (hown:OwnS S w base e size v n xs)
    (g T:Nat) (lit:Array Value) (hx:a.eval x=.slice (some ⟨g,0,none⟩) 1 1) (hg:Blk w g T lit) (hl:lit.size=size) (h1:∀ u∈lit.toList,u.oneCell'=true∧S u)
    (h63:n+1≤maxLen) (hbytes:(n+1)*bytes≤140737488355328) (hbase:base≤w.heap.size)
    (h:∀ A m c w',OwnS S w' base e size (.slice A m c) (n+1) (xs++lit.toList)→Keeps S base e w w'→((Value.slice A m c).ownBlock=v.ownBlock∨(Value.slice A m c).ownBlock=some w.heap.size)→(∀ k,k<w.heap.size→v.ownBlock≠some k→w'.heap[k]?=w.heap[k]?)→K (a.put o.dst (.slice A m c)) w') :
    o.wp P a w K Q:=
 wp_app_blk s x t ho base e i z size bytes ht hi hz hsize hby hzs hsz hzS v n xs hs hown g T lit hx hg hl h1 h63 hbytes hbase fun v' w' q1 q2 q3 q4=>by
  obtain ⟨A,c,hv,_⟩:=q1.shape;subst hv;exact h A _ c w' q1 q2 q3 q4
end
theorem OwnS.lt {S:Value→Prop} {w:World} {base e size n:Nat} {v:Value} {xs:List Value} (h:OwnS S w base e size v n xs) {k:Nat} (hk:v.ownBlock=some k):base≤k∧k<w.heap.size:=by
 rcases h.2 with ⟨h1,_⟩ | ⟨g,cap,cur,h1,h2,h3,_⟩
 ·rw [h1] at hk;cases hk
 ·rw [h1] at hk
  injection hk with hk;subst hk;exact ⟨h2,h3.lt⟩
theorem OwnS.apart {S:Value→Prop} {w w':World} {base e size n:Nat} {v u:Value} {xs:List Value} (h:OwnS S w base e size u n xs) (ho:∀ k,k<w.heap.size→v.ownBlock≠some k→w'.heap[k]?=w.heap[k]?) (hne:∀ k,u.ownBlock=some k→v.ownBlock≠some k):OwnS S w' base e size u n xs:=by
 refine ⟨h.1,?_⟩;rcases h.2 with h1 | ⟨g,cap,cur,h1,h2,h3,h4⟩
 ·exact .inl h1
 ·exact .inr ⟨g,cap,cur,h1,h2,(ho g h3.lt (hne g (by rw [h1];rfl))).trans h3,h4⟩
end
end Go.Proofs.YthgdchffeigkbaaGreatDoor
