import Derived.Test.YthgdchffeigkbaaGreatDoorU10
import Derived.Deep.AppendSrc
import Derived.Deep.Upon
import Derived.Deep.DeepAppendWide
import Derived.Lib.Mul64
import Derived.Laws.Bits64b
import Derived.Laws.CopyOwn
import Derived.Deep.OwnRows
import Derived.Deep.RegionLaw
set_option linter.unusedVariables false
set_option linter.unusedSimpArgs false
namespace Go.Proofs.YthgdchffeigkbaaGreatDoor
set_option maxHeartbeats 2000000
set_option maxRecDepth 100000
section
open Go.ChangeShapes Go.WideShapes Go.ChangeAt Go.RowKit
section
variable {P:Program}
end
theorem own_keep {w w':World} {base e size n:Nat} {v:Value} {xs:List Value} (h:w.ownsRow base e size v n xs) (hb:Below w.heap.size w w'):w'.ownsRow base e size v n xs:=by
 refine ⟨h.1,?_⟩;rcases h.2 with h1 | ⟨g,cap,cur,h1,h2,h3,h4⟩
 ·exact .inl h1
 ·refine .inr ⟨g,cap,cur,h1,h2,?_,h4⟩
  exact (hb.block g (Array.getElem?_eq_some_iff.1 h3).1).trans h3
theorem own_rd {w:World} {base e size n:Nat} {v:Value} {xs:List Value} (h:w.ownsRow base e size v n xs):∃ A c,v=.slice A n c∧Rd w w.heap.size size A n xs∧n≤c∧c≤maxLen∧(0<n→∃ b off,A=some ⟨b,off,none⟩∧base≤b):=by
 have hl:=h.1;rcases h.2 with ⟨h1,h2⟩ | ⟨g,cap,cur,h1,h2,h3,h4,h5,h6,h7⟩
 ·subst h2
  exact ⟨none,0,h1,⟨hl,fun h=>by omega⟩,lR,by simp [maxLen],fun h=>by omega⟩
 ·refine ⟨some ⟨g,0,none⟩,cap,h1,⟨hl,fun _=>⟨g,0,rfl,(Array.getElem?_eq_some_iff.1 h3).1,fun j u hu=>?_⟩⟩,h4,h5,fun _=>⟨g,0,rfl,h2⟩⟩
  have hb:Blk w g e cur:=h3;rw [Nat.zero_add,hb.cell j];rw [←h7] at hu;have hj:=(zB_.1 hu).1;rw [zF_] at hj;rw [List.getElem?_take_of_lt (by omega)] at hu;simpa using hu
def OwnS (S:Value→Prop) (w:World) (base:Nat) (e:TypeId) (size:Nat) (v:Value) (n:Nat) (xs:List Value):Prop:=
 xs.length=n*size∧((v=.slice none 0 0∧n=0)∨∃ g cap cur,v=.slice (some ⟨g,0,none⟩) n cap∧base≤g∧Blk w g e cur∧n≤cap∧cap≤maxLen∧cur.size=cap*size∧cur.toList.take (n*size)=xs∧∀ u∈cur.toList,S u)
structure Keeps (S:Value→Prop) (base:Nat) (e:TypeId) (w w':World):Prop where
 low:Below base w w'
 size:w.heap.size≤w'.heap.size
 cell:∀ p u,w.cell? p=some u→¬S u→w'.cell? p=some u
 blk:∀ b t cs,Blk w b t cs→t≠e→Blk w' b t cs
section
variable {S:Value→Prop} {w w':World} {base e size n:Nat} {v:Value} {xs:List Value}
theorem OwnS.own (h:OwnS S w base e size v n xs):w.ownsRow base e size v n xs:=by
 refine ⟨h.1,?_⟩;rcases h.2 with h1 | ⟨g,cap,cur,h1,h2,h3,h4,h5,h6,h7,_⟩
 ·exact .inl h1
 ·exact .inr ⟨g,cap,cur,h1,h2,h3,h4,h5,h6,h7⟩
theorem OwnS.keep (h:OwnS S w base e size v n xs) (hb:Below w.heap.size w w'):OwnS S w' base e size v n xs:=by
 refine ⟨h.1,?_⟩;rcases h.2 with h1 | ⟨g,cap,cur,h1,h2,h3,h4⟩
 ·exact .inl h1
 ·exact .inr ⟨g,cap,cur,h1,h2,h3.bl hb,h4⟩
theorem ownS_none (S:Value→Prop) (w:World) (base e size:Nat):OwnS S w base e size (.slice none 0 0) 0 []:=⟨by simp,.inl ⟨rfl,rfl⟩⟩
theorem Keeps.old (h:∀ i,i<w.heap.size→w'.heap[i]?=w.heap[i]?) (hs:w.heap.size≤w'.heap.size) (ho:w'.os=w.os) (ht:w'.tape=w.tape) (hp:w'.output=w.output) (hbs:base≤w.heap.size):Keeps S base e w w':=
 ⟨⟨ho,ht,hp,hs,fun i hi=>h i (zJ_ hi hbs)⟩,hs,fun p u hu _=>(World.cell?_of_block (h _ (World.block_lt_of_cell? w p hu))).trans hu,fun b t cs hb _=>(h b hb.lt).trans hb⟩
theorem zero_mem {z:Array Value} {k:Nat} {u:Value} (h:u∈(Builtin.zeroCells z k).toList):u∈z.toList:=by
 unfold Builtin.zeroCells at h;rw [Array.mem_toList_iff,Array.mem_map] at h;obtain ⟨i,hi,rfl⟩:=h;rw [Array.mem_range] at hi;have hz:0<z.size:=by
  rcases Nat.eq_zero_or_pos z.size with e | e
  ·rw [e] at hi;simp at hi
  ·exact e
 have hm:i % z.size<z.size:=Nat.mod_lt _ hz;rw [getElem!_pos z _ hm];exact Array.mem_toList_iff.2 (Array.getElem_mem hm)
end
section
variable {P:Program}
theorem run_append_S {S:Value→Prop} (w:World) (base:Nat) (t ty e:TypeId) (i:TypeInfo) (z:Value) (size bytes:Nat) (ht:P.underlying t=some (.slice e)) (hi:P.info? e=some i) (hz:i.zero=some z)
    (hsize:i.size=size) (hby:i.bytes=bytes) (hzs:z.cells.size=size) (hsz:0<size) (hzS:∀ u∈z.cells.toList,S u)
    (v:Value) (n:Nat) (xs:List Value) (hown:OwnS S w base e size v n xs)
    (a:Addr) (m c:Nat) (news:List Value) (hl:news.length=m*size) (hnews:∀ j u,news[j]?=some u→w.cell? (a.add j)=some u) (h1:∀ u∈news,u.oneCell'=true∧S u)
    (h63:n+m≤maxLen) (hbytes:(n+m)*bytes≤140737488355328) (hbase:base≤w.heap.size) (hm:0<m) :
    ∃ v' w',(Builtin.append_ #[t,t] ty #[v,.slice (some a) m c]).run P w=.ok v' w'∧OwnS S w' base e size v' (n+m) (xs++news)∧Keeps S base e w w'∧(v'.ownBlock=v.ownBlock∨v'.ownBlock=some w.heap.size):=by
 subst hsize;subst hby;have hsmall:n+m≤9223372036854775807:=by simp only [maxLen] at h63;omega
 have hlen:(xs++news).length=(n+m)*i.size:=by rw [zE_,hown.1,hl,Nat.add_mul]
 have fresh:∀ (old:Nat),(∀ u∈xs,S u)→
     OwnS S (w.drew.alloc (.cells (xs.toArray++news.toArray++Builtin.zeroCells z.cells (grownCap w (n+m) old e-(n+m))) e)) base e i.size (.slice (some ⟨w.heap.size,0,none⟩) (n+m) (grownCap w (n+m) old e)) (n+m) (xs++news)∧
     Keeps S base e w (w.drew.alloc (.cells (xs.toArray++news.toArray++Builtin.zeroCells z.cells (grownCap w (n+m) old e-(n+m))) e)):=by
  intro old hx;have hge:=grownCap_ge w (n+m) old e;refine ⟨⟨hlen,.inr ⟨w.heap.size,_,_,rfl,hbase,Blk.new w.drew _ _,hge,grownCap_le_maxLen w (n+m) old e h63,?_,?_,?_⟩⟩,Keeps.old (fun k hk=>heap_alloc_old w.drew _ hk) (by simp) rfl rfl rfl hbase⟩
  ·rw [Array.size_append,Array.size_append,List.size_toArray,List.size_toArray,size_zeroCells,hzs,hown.1,hl,←Nat.add_mul,←Nat.add_mul,Nat.add_sub_cancel' hge]
  ·rw [Array.toList_append,Array.toList_append,←hlen]
   exact List.take_left
  ·intro u hu
   rw [Array.toList_append,Array.toList_append,List.mem_append,List.mem_append] at hu;rcases hu with (hu | hu) | hu
   ·exact hx u (by simpa using hu)
   ·exact (h1 u (by simpa using hu)).2
   ·exact hzS u (zero_mem hu)
 rcases hown.2 with ⟨rfl,rfl⟩ | ⟨g,cap,cur,rfl,hbg,hg,hnc,hcm,hcs,htake,hS⟩
 ·have hx:xs=[]:=List.eq_nil_of_length_eq_zero (by simpa using hown.1)
  subst hx;have hr:=run_append_nil (P:=P) w t ty e i z ht hi hz a m c news hl hnews hm (by omega) (by have hb:=hbytes;rw [Nat.zero_add] at hb;omega);obtain ⟨f1,f2⟩:=fresh 0 (by simp);simp only [Nat.zero_add,List.nil_append,Array.empty_append] at f1 f2 ⊢;exact ⟨_,_,hr,f1,f2,.inr rfl⟩
 ·have hxS:∀ u∈xs,S u:=fun u hu=>hS u (List.mem_of_mem_take (by rw [htake];exact hu))
  by_cases hroom:n+m≤cap
  ·have hfit:n*i.size+news.length≤cur.size:=by rw [hl,hcs,←Nat.add_mul];exact Nat.mul_le_mul_right _ hroom
   have hr:=run_append_room (P:=P) w t ty e i ht hi g n cap cur hg a m c news hl hnews (fun u hu=>(h1 u hu).1) hroom hfit;have hoth:∀ k,k≠g→(w.setRow g (cur.toList.take (n*i.size)++news++cur.toList.drop (n*i.size+news.length)).toArray).heap[k]?=w.heap[k]?:=fun k hk=>setRow_other w g k _ hk;refine ⟨_,_,hr,⟨hlen,.inr ⟨g,cap,_,rfl,hbg,setRow_heap w g cur _ e _ hg,hroom,hcm,?_,?_,?_⟩⟩,⟨⟨rfl,rfl,rfl,by simp,fun k hk=>hoth k (by omega)⟩,by simp,fun p u hu hn=>?_,fun b t' cs hb hne=>?_⟩,.inl rfl⟩
   ·rw [List.size_toArray,zE_,zE_,zF_,zS_,Array.length_toList]
    omega
   ·rw [htake,←hlen]
    exact List.take_left
   ·intro u hu
    rw [List.mem_append,List.mem_append] at hu;rcases hu with (hu | hu) | hu
    ·exact hS u (List.mem_of_mem_take hu)
    ·exact (h1 u hu).2
    ·exact hS u (List.mem_of_mem_drop hu)
   ·have hpg:p.block≠g:=by
     intro e;obtain ⟨b,off,sp⟩:=p;simp only at e;subst e;cases sp with
     | none=>
      have:=hg.cell off;rw [this] at hu;exact hn (hS u (Array.mem_toList_iff.2 (Array.mem_of_getElem? hu)))
     | some s=>
      unfold World.cell? at hu;rw [show w.heap[b]?=some (.cells cur _ (0,0)) from hg] at hu;simp at hu
    exact (World.cell?_of_block (hoth _ hpg)).trans hu
   ·have hbg':b≠g:=by
     rintro rfl;have h2:some (Obj.cells cs t' (0,0))=some (Obj.cells cur e (0,0)):=hb.symm.trans hg;injection h2 with h2;injection h2 with _ h2;exact hne h2
    exact (hoth b hbg').trans hb
  ·have holds:∀ j u,xs[j]?=some u→w.cell? ((⟨g,0,none⟩:Addr).add j)=some u:=hown.own.cells (g:=g) rfl
   have hr:=run_append_grow (P:=P) w t ty e i z ht hi hz ⟨g,0,none⟩ n cap xs hown.1 holds a m c news hl hnews (by omega) (by omega) (growslice_fits (by omega) hbytes);obtain ⟨f1,f2⟩:=fresh cap hxS;exact ⟨_,_,hr,f1,f2,.inr rfl⟩
theorem wpList_appS {S:Value→Prop} {ops:Array Oper} {rest:List Oper} {o:Oper} {a:Act} {Q:Exit→Act→World→Prop} {w:World} {lit:Array Value} {T:TypeId} (hgd:o.guard=none) (s x:Operand) (t:TypeId)
    (ho:o.op=.call { callee:=.builtin .append,args:=#[s,x],argTypes:=#[t,t] })
    (base:Nat) (e:TypeId) (i:TypeInfo) (z:Value) (size bytes:Nat) (ht:P.underlying t=some (.slice e)) (hi:P.info? e=some i) (hz:i.zero=some z)
    (hsize:i.size=size) (hby:i.bytes=bytes) (hzs:z.cells.size=size) (hsz:0<size) (hzS:∀ u∈z.cells.toList,S u)
    (v:Value) (n:Nat) (xs:List Value) (hs:a.eval s=v) (hown:OwnS S w base e size v n xs)
    (hx:a.eval x=.slice (some ⟨w.heap.size,0,none⟩) 1 1) (hl:lit.size=size) (h1:∀ u∈lit.toList,u.oneCell'=true∧S u)
    (h63:n+1≤maxLen) (hbytes:(n+1)*bytes≤140737488355328) (hbase:base≤w.heap.size)
    (h:∀ v' w',OwnS S w' base e size v' (n+1) (xs++lit.toList)→Keeps S base e (w.alloc (.cells lit T)) w'→(v'.ownBlock=v.ownBlock∨v'.ownBlock=some (w.heap.size+1))→wpList P ops Q rest (a.put o.dst v') w') :
    wpList P ops Q (o::rest) a (w.alloc (.cells lit T)):=by
 refine wpList_plain hgd fun K hK=>?_;obtain ⟨v',w',hr,h2,h3,h4⟩:=run_append_S (P:=P) (w.alloc (.cells lit T)) base t o.type e i z size bytes ht hi hz hsize hby hzs hsz hzS v n xs (hown.keep (bA)) ⟨w.heap.size,0,none⟩ 1 1 lit.toList (by rw [Array.length_toList,hl,Nat.one_mul]) (fun j u hu=>by
  rw [Addr.add_lit,Nat.zero_add,(Blk.new w T lit).cell j];simpa using hu) h1 h63 hbytes (zI_ hbase (by simp)) (by decide)
 unfold Oper.wp execOp;simp only [ho,resolve,invoke,builtin,Sem.run_bind,Sem.run_pure,Result.andThen_ok,List.map_toArray,List.map_cons,List.map_nil,hs,hx,hr];exact hK _ _ (h v' w' h2 h3 (by simpa using h4))
end
end
section
open Go.ChangeShapes Go.WideShapes Go.ChangeAt Go.RowKit Go.Joins
section
variable {P:Program}
theorem Keeps.refl (S:Value→Prop) (base:Nat) (e:TypeId) (w:World):Keeps S base e w w:=⟨bR,lR,fun _ _ h _=>h,fun _ _ _ h _=>h⟩
theorem OwnS.shape {S:Value→Prop} {w:World} {base e size n:Nat} {v:Value} {xs:List Value} (h:OwnS S w base e size v n xs):∃ A c,v=.slice A n c∧n≤c∧c≤maxLen:=by
 rcases h.2 with ⟨h1,h2⟩ | ⟨g,cap,cur,h1,h2,h3,h4,h5,h6⟩
 ·subst h2;exact ⟨none,0,h1,lR,by simp [maxLen]⟩
 ·exact ⟨_,cap,h1,h4,h5⟩
theorem run_append_rd {S:Value→Prop} (w:World) (base:Nat) (t ty e:TypeId) (i:TypeInfo) (z:Value) (size bytes:Nat) (ht:P.underlying t=some (.slice e)) (hi:P.info? e=some i) (hz:i.zero=some z)
    (hsize:i.size=size) (hby:i.bytes=bytes) (hzs:z.cells.size=size) (hsz:0<size) (hzS:∀ u∈z.cells.toList,S u)
    (v:Value) (n:Nat) (xs:List Value) (hown:OwnS S w base e size v n xs)
    (A:Option Addr) (m c:Nat) (news:List Value) (hr:Rd w w.heap.size size A m news) (h1:∀ u∈news,u.oneCell'=true∧S u)
    (h63:n+m≤maxLen) (hbytes:(n+m)*bytes≤140737488355328) (hbase:base≤w.heap.size) :
    ∃ v' w',(Builtin.append_ #[t,t] ty #[v,.slice A m c]).run P w=.ok v' w'∧OwnS S w' base e size v' (n+m) (xs++news)∧Keeps S base e w w'∧(v=.slice none 0 0→Below w.heap.size w w'∧OwnS S w' w.heap.size e size v' (n+m) (xs++news))∧(v'.ownBlock=v.ownBlock∨v'.ownBlock=some w.heap.size):=by
 rcases Nat.eq_zero_or_pos m with rfl | h0
 ·have hn:news=[]:=List.eq_nil_of_length_eq_zero (by simpa using hr.1)
  subst hn;obtain ⟨A1,c1,rfl,hc,hc2⟩:=hown.shape;have hsrc:Src P i.size t (.slice A 0 c) 0 [] w:=by
   cases A with
   | none=>exact Src.ofNil w ht c
   | some ad=>exact Src.ofSlice w ht ad 0 c [] (by simp) (fun j u hu=>by simp at hu) (fun u hu=>by cases hu)
  refine ⟨_,w,run_append_nothing (P:=P) w t t ty e i ht hi A1 n c1 hc (.slice A 0 c) hsrc,by rw [List.append_nil];exact hown,Keeps.refl _ _ _ _,fun hv=>⟨bR,?_⟩,.inl rfl⟩;injection hv with a1 a2 a3;subst a1;subst a2;subst a3;rw [List.append_nil];exact ⟨hown.1,.inl ⟨rfl,rfl⟩⟩
 ·obtain ⟨b,off,rfl,hb,hc⟩:=hr.2 h0
  by_cases hv:v=.slice none 0 0
  ·subst hv
   have hown2:OwnS S w w.heap.size e size (.slice none 0 0) n xs:=by
    refine ⟨hown.1,?_⟩;rcases hown.2 with h | ⟨g,cap,cur,h,_⟩
    ·exact .inl h
    ·cases h
   obtain ⟨v',w',g1,g2,g3,g4⟩:=run_append_S (P:=P) w w.heap.size t ty e i z size bytes ht hi hz hsize hby hzs hsz hzS _ n xs hown2 ⟨b,off,none⟩ m c news hr.1 (fun j u hu=>by rw [Addr.add_lit];exact hc j u hu) h1 h63 hbytes lR h0;refine ⟨v',w',g1,⟨g2.1,?_⟩,⟨⟨g3.low.os,g3.low.tape,g3.low.output,g3.low.size,fun k hk=>g3.low.block k (zJ_ hk hbase)⟩,g3.size,g3.cell,g3.blk⟩,fun _=>⟨g3.low,g2⟩,g4⟩;exact g2.2.imp id fun ⟨g,cap,cur,k1,k2,k3⟩=>⟨g,cap,cur,k1,zI_ hbase k2,k3⟩
  ·obtain ⟨v',w',g1,g2,g3,g4⟩:=run_append_S (P:=P) w base t ty e i z size bytes ht hi hz hsize hby hzs hsz hzS v n xs hown ⟨b,off,none⟩ m c news hr.1 (fun j u hu=>by rw [Addr.add_lit];exact hc j u hu) h1 h63 hbytes hbase h0
   exact ⟨v',w',g1,g2,g3,fun h=>absurd h hv,g4⟩
theorem wp_appR {S:Value→Prop} {o:Oper} {a:Act} {w:World} {K:Act→World→Prop} {Q:Exit→Act→World→Prop} (s x:Operand) (t:TypeId)
    (ho:o.op=.call { callee:=.builtin .append,args:=#[s,x],argTypes:=#[t,t] })
    (base:Nat) (e:TypeId) (i:TypeInfo) (z:Value) (size bytes:Nat) (ht:P.underlying t=some (.slice e)) (hi:P.info? e=some i) (hz:i.zero=some z)
    (hsize:i.size=size) (hby:i.bytes=bytes) (hzs:z.cells.size=size) (hsz:0<size) (hzS:∀ u∈z.cells.toList,S u)
    (v:Value) (n:Nat) (xs:List Value) (hs:a.eval s=v) (hown:OwnS S w base e size v n xs)
    (A:Option Addr) (m c:Nat) (news:List Value) (hx:a.eval x=.slice A m c) (hr:Rd w w.heap.size size A m news) (h1:∀ u∈news,u.oneCell'=true∧S u)
    (h63:n+m≤maxLen) (hbytes:(n+m)*bytes≤140737488355328) (hbase:base≤w.heap.size)
    (h:∀ v' w',OwnS S w' base e size v' (n+m) (xs++news)→Keeps S base e w w'→(v=.slice none 0 0→Below w.heap.size w w'∧OwnS S w' w.heap.size e size v' (n+m) (xs++news))→(v'.ownBlock=v.ownBlock∨v'.ownBlock=some w.heap.size)→K (a.put o.dst v') w') :
    o.wp P a w K Q:=by
 obtain ⟨v',w',g1,g2,g3,g4,g5⟩:=run_append_rd (P:=P) w base t o.type e i z size bytes ht hi hz hsize hby hzs hsz hzS v n xs hown A m c news hr h1 h63 hbytes hbase;unfold Oper.wp execOp;simp only [ho,resolve,invoke,builtin,Sem.run_bind,Sem.run_pure,Result.andThen_ok,List.map_toArray,List.map_cons,List.map_nil,hs,hx,g1];exact h v' w' g2 g3 g4 g5
theorem wpList_appR {S:Value→Prop} {ops:Array Oper} {rest:List Oper} {o:Oper} {a:Act} {Q:Exit→Act→World→Prop} {w:World} (hgd:o.guard=none) (s x:Operand) (t:TypeId)
    (ho:o.op=.call { callee:=.builtin .append,args:=#[s,x],argTypes:=#[t,t] })
    (base:Nat) (e:TypeId) (i:TypeInfo) (z:Value) (size bytes:Nat) (ht:P.underlying t=some (.slice e)) (hi:P.info? e=some i) (hz:i.zero=some z)
    (hsize:i.size=size) (hby:i.bytes=bytes) (hzs:z.cells.size=size) (hsz:0<size) (hzS:∀ u∈z.cells.toList,S u)
    (v:Value) (n:Nat) (xs:List Value) (hs:a.eval s=v) (hown:OwnS S w base e size v n xs)
    (A:Option Addr) (m c:Nat) (news:List Value) (hx:a.eval x=.slice A m c) (hr:Rd w w.heap.size size A m news) (h1:∀ u∈news,u.oneCell'=true∧S u)
    (h63:n+m≤maxLen) (hbytes:(n+m)*bytes≤140737488355328) (hbase:base≤w.heap.size)
    (h:∀ v' w',OwnS S w' base e size v' (n+m) (xs++news)→Keeps S base e w w'→(v=.slice none 0 0→Below w.heap.size w w'∧OwnS S w' w.heap.size e size v' (n+m) (xs++news))→(v'.ownBlock=v.ownBlock∨v'.ownBlock=some w.heap.size)→wpList P ops Q rest (a.put o.dst v') w') :
    wpList P ops Q (o::rest) a w:=by
 refine wpList_plain hgd fun K hK=>?_;exact wp_appR s x t ho base e i z size bytes ht hi hz hsize hby hzs hsz hzS v n xs hs hown A m c news hx hr h1 h63 hbytes hbase fun v' w' a1 a2 a3 a4=>hK _ _ (h v' w' a1 a2 a3 a4)
end
end
section
open Go
def pstep (u:Nat) (m:Int) (s:List Int×List Nat) (x:Nat×Nat):List Int×List Nat:=
 if (x.1=u∨x.2=u)∧s.1.getD (x.1+x.2-u) 0<0 then (s.1.set (x.1+x.2-u) m,s.2++[x.1+x.2-u]) else s
def pscan (u:Nat) (m:Int) (es:List (Nat×Nat)) (s:List Int×List Nat):List Int×List Nat:=es.foldl (pstep u m) s
def pbfs (m:Int) (es:List (Nat×Nat)):Nat→List Int→List Nat→List Int
 | 0,out,_=>out
 | _+1,out,[]=>out
 | f+1,out,u::q=>pbfs m es f (pscan u m es (out,q)).1 (pscan u m es (out,q)).2
def pgo (n:Nat) (es:List (Nat×Nat)):Nat→Nat→List Int×Int→List Int×Int
 | 0,_,s=>s
 | k+1,i,s=>if 0≤s.1.getD i 0 then pgo n es k (i+1) s else pgo n es k (i+1) (pbfs s.2 es (n+1) (s.1.set i s.2) [i],s.2+1)
def partsR (n:Nat) (es:List (Nat×Nat)):List Int:=(pgo n es n 0 (List.replicate n (-1),0)).1
def negs (l:List Int):Nat:=(l.filter (·<0)).length
theorem negs_set:∀ (l:List Int) (i:Nat) (m:Int),0≤m→i<l.length→l.getD i 0<0→negs (l.set i m)+1=negs l
 | [],i,m,_,h,_=>by simp at h
 | x::r,0,m,hm,_,h=>by
  have hx:x<0:=by simpa using h
  have h1:¬m<0:=by omega
  simp [negs,hx,h1]
 | x::r,i+1,m,hm,hl,h=>by
  have ih:=negs_set r i m hm (by simpa using hl) (by simpa using h);unfold negs at ih ⊢;rw [List.set_cons_succ]
  by_cases hx:x<0<;>simp [List.filter_cons,hx]<;>omega
structure Ps (n:Nat) (m:Int) (out:List Int) (q:List Nat):Prop where
 len:out.length=n
 lt:∀ u∈q,u<n
 bd:∀ x∈out,-1≤x∧x≤m
theorem pstep_ok {n u:Nat} {m:Int} {s:List Int×List Nat} {x:Nat×Nat} (hm:0≤m) (hx:x.1<n∧x.2<n) (h:Ps n m s.1 s.2) :
    Ps n m (pstep u m s x).1 (pstep u m s x).2∧(pstep u m s x).2.length+negs (pstep u m s x).1=s.2.length+negs s.1∧s.2.length≤(pstep u m s x).2.length:=by
 unfold pstep
 split
 ·rename_i hc
  have ho:x.1+x.2-u<n:=by omega
  refine ⟨⟨by simp [h.len],fun v hv=>?_,fun y hy=>?_⟩,?_,by simp⟩
  ·rcases List.mem_append.1 hv with hv | hv
   ·exact h.lt v hv
   ·rw [List.mem_singleton.1 hv];exact ho
  ·rcases List.mem_or_eq_of_mem_set hy with hy | rfl
   ·exact h.bd y hy
   ·omega
  ·have:=negs_set s.1 _ m hm (by rw [h.len];exact ho) hc.2
   simp;omega
 ·exact ⟨h,rfl,lR⟩
theorem pscan_ok {n u:Nat} {m:Int} (hm:0≤m):∀ {es:List (Nat×Nat)} {s:List Int×List Nat},(∀ x∈es,x.1<n∧x.2<n)→Ps n m s.1 s.2→
    Ps n m (pscan u m es s).1 (pscan u m es s).2∧(pscan u m es s).2.length+negs (pscan u m es s).1=s.2.length+negs s.1
 | [],s,_,h=>⟨h,rfl⟩
 | x::r,s,hx,h=>by
  have h1:=pstep_ok (u:=u) hm (hx x (List.mem_cons_self ..)) h;have h2:=pscan_ok (u:=u) hm (fun y hy=>hx y (List.mem_cons_of_mem _ hy)) h1.1;exact ⟨h2.1,h2.2.trans h1.2.1⟩
theorem pbfs_ok {n:Nat} {m:Int} (hm:0≤m) {es:List (Nat×Nat)} (hx:∀ x∈es,x.1<n∧x.2<n):∀ (f:Nat) {out:List Int} {q:List Nat},Ps n m out q→(pbfs m es f out q).length=n∧(∀ x∈pbfs m es f out q,-1≤x∧x≤m)
 | 0,out,q,h=>⟨h.len,h.bd⟩
 | f+1,out,[],h=>⟨h.len,h.bd⟩
 | f+1,out,u::q,h=>by
  have h1:Ps n m out q:=⟨h.len,fun v hv=>h.lt v (List.mem_cons_of_mem _ hv),h.bd⟩;exact pbfs_ok hm hx f (pscan_ok (s:=(out,q)) hm hx h1).1
theorem negs_le (l:List Int):negs l≤l.length:=List.length_filter_le _ _
theorem pstep_keep {u:Nat} {m:Int} (hm:0≤m) (s:List Int×List Nat) (x:Nat×Nat) {j:Nat} (h:0≤s.1.getD j 0):0≤(pstep u m s x).1.getD j 0:=by
 unfold pstep
 split
 ·simp only [zD_] at h ⊢
  rw [List.getElem?_set]
  split
  ·split
   ·simpa using hm
   ·simp
  ·exact h
 ·exact h
theorem pscan_keep {u:Nat} {m:Int} (hm:0≤m):∀ (es:List (Nat×Nat)) (s:List Int×List Nat) {j:Nat},0≤s.1.getD j 0→0≤(pscan u m es s).1.getD j 0
 | [],s,j,h=>h
 | x::r,s,j,h=>pscan_keep hm r (pstep u m s x) (pstep_keep hm s x h)
theorem pbfs_keep {m:Int} (hm:0≤m) (es:List (Nat×Nat)):∀ (f:Nat) (out:List Int) (q:List Nat) {j:Nat},0≤out.getD j 0→0≤(pbfs m es f out q).getD j 0
 | 0,out,q,j,h=>h
 | f+1,out,[],j,h=>h
 | f+1,out,u::q,j,h=>pbfs_keep hm es f _ _ (pscan_keep hm es (out,q) h)
theorem pgo_ok {n:Nat} {es:List (Nat×Nat)} (hx:∀ x∈es,x.1<n∧x.2<n):∀ (k i:Nat) (s:List Int×Int),s.1.length=n→i+k=n→(∀ x∈s.1,-1≤x∧x<s.2)→0≤s.2→s.2≤i→(∀ j,j<i→0≤s.1.getD j 0)→
    (pgo n es k i s).1.length=n∧(∀ x∈(pgo n es k i s).1,-1≤x∧x<n)∧∀ j,j<n→0≤(pgo n es k i s).1.getD j 0
 | 0,i,s,hl,hi,hb,h0,h1,hj=>by
  refine ⟨hl,fun x hx=>?_,fun j h=>hj j (by omega)⟩;have:=hb x hx;omega
 | k+1,i,s,hl,hi,hb,h0,h1,hj=>by
  unfold pgo
  split
  ·rename_i hz
   exact pgo_ok hx k (i+1) s hl (by omega) hb h0 (by omega) (fun j h=>by
    by_cases hji:j=i
    ·subst hji;exact hz
    ·exact hj j (by omega))
  ·rename_i hz
   have hin:i<s.1.length:=by omega
   have hps:Ps n s.2 (s.1.set i s.2) [i]:=⟨by simp [hl],fun v hv=>(by rw [List.mem_singleton.1 hv];omega),fun x hx=>by
    rcases List.mem_or_eq_of_mem_set hx with hx | rfl
    ·have:=hb x hx;omega
    ·omega⟩
   have h2:=pbfs_ok h0 hx (n+1) hps;refine pgo_ok hx k (i+1) _ h2.1 (by omega) (fun x hx=>(by have:=h2.2 x hx;show _∧_<s.2+1;omega)) (by show 0≤s.2+1;omega) (by show s.2+1≤_;omega) (fun j h=>?_);refine pbfs_keep h0 es _ _ _ ?_;rw [zD_,List.getElem?_set]
   by_cases hji:i=j
   ·subst hji
    rw [if_pos rfl,if_pos hin];exact h0
   ·rw [if_neg hji,←zD_]
    exact hj j (by omega)
theorem parts_ok {n:Nat} {es:List (Nat×Nat)} (hx:∀ x∈es,x.1<n∧x.2<n):(partsR n es).length=n∧∀ x∈partsR n es,0≤x∧x<n:=by
 obtain ⟨h1,h2,h3⟩:=pgo_ok hx n 0 (List.replicate n (-1),0) (by simp) (by omega) (fun x hx=>(by rw [List.eq_of_mem_replicate hx];exact ⟨by omega,show (-1:Int)<0 by omega⟩)) (by show (0:Int)≤0;omega) (by show (0:Int)≤_;omega) (fun j h=>by omega);refine ⟨h1,fun x hx=>?_⟩;have h4:=h2 x hx;obtain ⟨j,hj⟩:=List.mem_iff_getElem?.1 hx;have hjl:=(zB_.1 hj).1;have h5:=h3 j (by unfold partsR at hjl;omega);rw [zD_,show (pgo n es n 0 (List.replicate n (-1),0)).1[j]?=some x from hj] at h5;exact ⟨h5,h4.2⟩
def topR (l:List Int):Int:=l.foldl (fun a b=>max a (b+1)) 0
theorem foldl_max (l:List Int):∀ a:Int,a≤l.foldl (fun a b=>max a (b+1)) a∧(∀ b∈l,b<l.foldl (fun a b=>max a (b+1)) a)∧∀ c,a≤c→(∀ b∈l,b<c)→l.foldl (fun a b=>max a (b+1)) a≤c:=by
 induction l with
 | nil=>intro a;exact ⟨Int.le_refl _,fun _ h=>(by cases h),fun c h _=>h⟩
 | cons x r ih=>
  intro a;obtain ⟨h1,h2,h3⟩:=ih (max a (x+1));rw [List.foldl_cons];refine ⟨by omega,fun b hb=>?_,fun c hc hb=>h3 c ?_ (fun b h=>hb b (List.mem_cons_of_mem _ h))⟩
  ·rcases List.mem_cons.1 hb with rfl | hb
   ·omega
   ·exact h2 b hb
  ·have:=hb x (List.mem_cons_self ..);omega
theorem topR_ok (l:List Int):0≤topR l∧(∀ b∈l,b<topR l)∧∀ c,0≤c→(∀ b∈l,b<c)→topR l≤c:=foldl_max l 0
end
section
open Go.ChangeShapes Go.WideShapes Go.ChangeAt Go.RowKit Go.Deep
structure Qu (w:World) (base:Nat) (v:Value) (xs:List Value):Prop where
 ex:∃ g off cap,v=.slice (some ⟨g,off,none⟩) xs.length cap∧base≤g∧g<w.heap.size∧xs.length≤cap∧cap≤maxLen∧(∀ j,j<cap→(w.cell? ⟨g,off+j,none⟩).isSome=true∧w.frozen? ⟨g,off+j,none⟩=false)∧∀ (j:Nat) (u:Value),xs[j]?=some u→w.cell? ⟨g,off+j,none⟩=some u
theorem Qu.up {w w':World} {base:Nat} {v:Value} {xs:List Value} (h:Qu w base v xs) (hb:Below w.heap.size w w'):Qu w' base v xs:=by
 obtain ⟨g,off,cap,h1,h2,h3,h4,h5,h6,h7⟩:=h.ex;exact ⟨g,off,cap,h1,h2,zJ_ h3 hb.size,h4,h5,fun j hj=>by rw [hb.cell h3,hb.frozen h3];exact h6 j hj,fun j u hu=>by rw [hb.cell h3];exact h7 j u hu⟩
theorem Qu.tail {w:World} {base g off n cap:Nat} {x:Value} {xs:List Value} (h:Qu w base (.slice (some ⟨g,off,none⟩) n cap) (x::xs)):Qu w base (.slice (if cap=1 then some ⟨g,off,none⟩ else some ⟨g,off+1,none⟩) (n-1) (cap-1)) xs:=by
 obtain ⟨g',off',cap',h1,h2,h3,h4,h5,h6,h7⟩:=h.ex;injection h1 with e1 e2 e3;injection e1 with e1;injection e1 with e4 e5;subst e2;subst e3;subst e4;subst e5;simp only [zV_,Nat.add_sub_cancel] at h4 ⊢
 by_cases hc:cap=1
 ·have hx:xs.length=0:=by omega
  rw [if_pos hc];refine ⟨g,off,cap-1,rfl,h2,h3,by omega,by omega,fun j hj=>by omega,fun j u hu=>?_⟩;have:=(zB_.1 hu).1;omega
 ·rw [if_neg hc]
  refine ⟨g,off+1,cap-1,rfl,h2,h3,by omega,by omega,fun j hj=>?_,fun j u hu=>?_⟩
  ·rw [Nat.add_assoc,Nat.add_comm 1 j];exact h6 (j+1) (by omega)
  ·rw [Nat.add_assoc,Nat.add_comm 1 j];exact h7 (j+1) u (by simpa using hu)
theorem run_append_q {P:Program} (w:World) (base:Nat) (t ty e:TypeId) (i:TypeInfo) (z:Value) (ht:P.underlying t=some (.slice e)) (hi:P.info? e=some i) (hz:i.zero=some z) (hsize:i.size=1) (hby:i.bytes≤16) (hzs:z.cells.size=1)
    (v:Value) (xs:List Value) (h:Qu w base v xs) (a:Addr) (c:Nat) (u:Value) (hu:w.cell? a=some u) (h1:u.oneCell'=true) (ha:a.spot=none) (hlen:xs.length≤1000000) (hbase:base≤w.heap.size) :
    ∃ v' w',(Builtin.append_ #[t,t] ty #[v,.slice (some a) 1 c]).run P w=.ok v' w'∧Qu w' base v' (xs++[u])∧Below base w w'∧∀ g off n cap,v=.slice (some ⟨g,off,none⟩) n cap→w.grownBy w' (some g):=by
 obtain ⟨g,off,cap,rfl,h2,h3,h4,h5,h6,h7⟩:=h.ex;have hnews:∀ (j:Nat) (x:Value),([u]:List Value)[j]?=some x→w.cell? (a.add j)=some x:=fun j x hx=>by
  have hj:j=0:=by have:=(zB_.1 hx).1;simpa using this
  subst hj;simp at hx;subst hx;obtain ⟨ab,ao,asp⟩:=a;simp only at ha;subst ha;rw [Addr.add_lit,Nat.add_zero];exact hu
 have hsrc:Src P i.size t (.slice (some a) 1 c) 1 [u] w:=Src.ofSlice w ht a 1 c [u] (by rw [hsize];rfl) hnews (fun x hx=>by rw [List.mem_singleton.1 hx];exact h1)
 by_cases hroom:xs.length+1≤cap
 ·have hr:=run_append_room_src (P:=P) w t t ty e i ht hi g off xs.length cap _ 1 [u] hsrc hroom
   (fun j hj=>by
    have hj0:j=0:=by simpa using hj
    subst hj0;rw [hsize,Nat.mul_one,Nat.add_zero];exact (h6 xs.length (by omega)).1)
   (fun j hj=>by
    have hj0:j=0:=by simpa using hj
    subst hj0;rw [hsize,Nat.mul_one,Nat.add_zero];exact (h6 xs.length (by omega)).2)
  rw [hsize,Nat.mul_one] at hr;have hin:=World.cell?_setCells_in g [u] (off+xs.length) w (fun j hj=>by
   have hj0:j=0:=by simpa using hj
   subst hj0;rw [Nat.add_zero];exact (h6 xs.length (by omega)).1) 0 (by simp)
  rw [Nat.add_zero] at hin;have hb:Below base w (w.setCells g (off+xs.length) [u]):=(Below.refl base w).setCell (p:=⟨g,off+xs.length,none⟩) h2 u;have hcell:∀ j,j≠xs.length→(w.setCells g (off+xs.length) [u]).cell? ⟨g,off+j,none⟩=w.cell? ⟨g,off+j,none⟩:=fun j hj=>World.cell?_setCells_out g [u] (off+xs.length) w _ (fun _ _=>by simp only [List.length_singleton];omega);refine ⟨_,_,hr,⟨g,off,cap,by rw [zE_];rfl,h2,zJ_ h3 hb.size,by rw [zE_];simpa using hroom,h5,fun j hj=>⟨?_,?_⟩,fun j x hx=>?_⟩,hb,?_⟩
  ·by_cases hje:j=xs.length
   ·subst hje;rw [hin];rfl
   ·rw [hcell j hje];exact (h6 j hj).1
  ·rw [World.frozen?_setCells];exact (h6 j hj).2
  ·by_cases hje:j=xs.length
   ·subst hje
    rw [hin];simp at hx;rw [←hx];rfl
   ·have hl:j<xs.length:=by have:=(zB_.1 hx).1;rw [zE_,List.length_singleton] at this;omega
    rw [hcell j hje];rw [zR_ hl] at hx;exact h7 j x hx
  ·intro g' off' n' cap' e
   injection e with e _ _;injection e with e;injection e with e _;subst e;exact only_setCell (p:=⟨g,off+xs.length,none⟩) (World.grownBy.refl w (some g)) (.inl rfl) u
 ·have hold:(Builtin.firstCells i.size xs.length (.slice (some ⟨g,off,none⟩) xs.length cap)).run P w.drew=.ok xs.toArray w.drew:=
   run_firstCells_some w.drew i.size xs.length ⟨g,off,none⟩ xs.length cap xs (by rw [hsize,Nat.mul_one]) (fun j x hx=>by rw [Addr.add_lit];exact h7 j x hx)
  have hr:=run_append_grow_src (P:=P) w t t ty e i z ht hi hz (some ⟨g,off,none⟩) xs.length cap xs hold _ 1 [u] hsrc (by omega) (by omega)
   (growslice_fits_wide (by omega) (zI_ (Nat.mul_le_mul_left _ hby) (by omega)))
  have hge:=grownCap_ge w (xs.length+1) cap e;have hcm:grownCap w (xs.length+1) cap e≤maxLen:=grownCap_le_maxLen w (xs.length+1) cap e (by simp only [maxLen];omega);generalize grownCap w (xs.length+1) cap e=gc at *;have hblk:=Blk.new w.drew e ((xs++[u]).toArray++Builtin.zeroCells z.cells (gc-(xs.length+1)));have hsz:((xs++[u]).toArray++Builtin.zeroCells z.cells (gc-(xs.length+1))).size=gc:=by
   rw [Array.size_append,size_zeroCells,hzs];simp only [List.size_toArray,zE_,List.length_singleton];omega
  have hb:Below base w (w.drew.alloc (.cells ((xs++[u]).toArray++Builtin.zeroCells z.cells (gc-(xs.length+1))) e)):=(below_drewN (Below.refl base w) 1).alloc hbase _;refine ⟨_,_,hr,⟨w.heap.size,0,gc,by rw [zE_];rfl,hbase,by simp,by rw [zE_];simpa using hge,hcm,fun j hj=>?_,fun j x hx=>?_⟩,hb,fun g' _ _ _ _=>only_alloc (only_drewN (World.grownBy.refl w (some g')) 1) _⟩
  ·rw [Nat.zero_add]
   refine ⟨?_,hblk.frozen j⟩;have:=hblk.cell j;rw [show w.drew.heap.size=w.heap.size from rfl] at this;rw [this,Array.getElem?_eq_getElem (by omega)];rfl
  ·rw [Nat.zero_add]
   have:=hblk.cell j;rw [show w.drew.heap.size=w.heap.size from rfl] at this;have hl:=(zB_.1 hx).1;rw [this,Array.getElem?_append_left (by simpa using hl)];simpa using hx
theorem wpList_append_q {P:Program} (w:World) {ops:Array Oper} {rest:List Oper} {o:Oper} {a:Act} {Q:Exit→Act→World→Prop} (hgd:o.guard=none) (s x:Operand) (t:TypeId)
    (ho:o.op=.call { callee:=.builtin .append,args:=#[s,x],argTypes:=#[t,t] })
    (base:Nat) (e:TypeId) (i:TypeInfo) (z:Value) (ht:P.underlying t=some (.slice e)) (hi:P.info? e=some i) (hz:i.zero=some z) (hsize:i.size=1) (hby:i.bytes≤16) (hzs:z.cells.size=1)
    (v:Value) (xs:List Value) (hs:a.eval s=v) (h:Qu w base v xs) (ad:Addr) (c:Nat) (u:Value) (hx:a.eval x=.slice (some ad) 1 c) (hu:w.cell? ad=some u) (h1:u.oneCell'=true) (ha:ad.spot=none) (hlen:xs.length≤1000000) (hbase:base≤w.heap.size)
    (hk:∀ v' w',Qu w' base v' (xs++[u])→Below base w w'→wpList P ops Q rest (a.put o.dst v') w'):wpList P ops Q (o::rest) a w:=by
 obtain ⟨v',w',hr,h2,h3,_⟩:=run_append_q (P:=P) w base t o.type e i z ht hi hz hsize hby hzs v xs h ad c u hu h1 ha hlen hbase;refine wpList_plain hgd fun _ hK=>?_;unfold Oper.wp execOp;simp only [ho,resolve,invoke,builtin,Sem.run_bind,Sem.run_pure,Result.andThen_ok,List.map_toArray,List.map_cons,List.map_nil,hs,hx,hr];exact hK _ _ (hk v' w' h2 h3)
end
section
open Go.ChangeShapes Go.WideShapes Go.ChangeAt Go.RowKit Go.Joins Go.Deep
attribute [local go_sem ↓] execOp_call_val
attribute [local go_sem] callVal_func setCell_drewN alloc_drewN sEq_walk
open Go.RowKit in
theorem step_copy_at {P:Program} {ops:Array Oper} {o:Oper} {a:Act} {w:World} {K:Act→World→Prop} {Q:Exit→Act→World→Prop} {E:Prop} (q:Nat) (hq:o.dst=some q) (hgd:o.guard=none) (d s:Operand) (dT sT:TypeId)
    (ho:o.op=.call { callee:=.builtin .copy,args:=#[d,s],argTypes:=#[dT,sT] }) (elem:TypeId) (hu:P.underlying dT=some (.slice elem)) (hsz:(P.info? elem).map (·.size)=some 1)
    (dp sp:Option Addr) (dLen dCap sLen sCap:Nat) (hd:a.eval d=.slice dp dLen dCap) (hs:a.eval s=.slice sp sLen sCap)
    (g off:Nat) (cur:List Value) (t:TypeId) (hg:w.heap[g]?=some (.cells cur.toArray t (0,0))) (cs:List Value) (hn:cs.length=Nat.min sLen dLen)
    (hpos:0<cs.length→dp=some ⟨g,off,none⟩∧∃ ad,sp=some ad∧∀ j v,cs[j]?=some v→w.cell? (ad.add j)=some v)
    (hfit:off+cs.length≤cur.length) (h1:∀ v∈cs,v.oneCell'=true) (B:Nat) (w0:World) (hb:Below B w0 w) (hBg:B≤g)
    (h:∀ w',Hid (w'.heap[g]?=some (.cells (splice cur off cs).toArray t (0,0)))→Below B w0 w'→K (a.put (some q) (goInt cs.length)) w') :
    if Region.wanted o (yielded ops a.tmps)=true then Oper.wp P o a w K Q else E:=
 step_copy_splice hgd d s dT sT ho elem hu hsz dp sp dLen dCap sLen sCap hd hs g off cur t hg cs hn hpos hfit h1 B w0 hb hBg (by rw [hq];exact h)
namespace M64
theorem maskN (a:Nat) (ha:a<18446744073709551616):bits .and .u64 (a:Int) 4294967295=((a % 4294967296:Nat):Int):=by
 have h:=Go.bits_and_u64_nat a 4294967295 ha (by omega);have e:a &&& 4294967295=a % 4294967296:=Nat.and_two_pow_sub_one_eq_mod a 32;rw [e] at h;exact h
theorem divN (a:Nat):(a:Int) / 4294967296=((a / 4294967296:Nat):Int):=by omega
theorem mulN (a b:Nat):(a:Int)*(b:Int)=((a*b:Nat):Int):=(Int.natCast_mul a b).symm
theorem addN (a b:Nat):(a:Int)+(b:Int)=((a+b:Nat):Int):=(Int.natCast_add a b).symm
theorem wrapN (a:Nat) (ha:a<18446744073709551616):IntKind.u64.wrap (a:Int)=(a:Int):=by rw [IntKind.wrap_u64];omega
theorem wrapM (a:Nat):IntKind.u64.wrap (a:Int)=((a % 18446744073709551616:Nat):Int):=by rw [IntKind.wrap_u64];omega
end M64
theorem mul64_any (x y:Nat) (hx:x<18446744073709551616) (hy:y<18446744073709551616) (w:World) :
    Calls Tryz.prog 178 #[.int .u64 x,.int .u64 y] w fun e w'=>e=.returned (.tuple #[.int .u64 ((x*y / 18446744073709551616:Nat):Int),.int .u64 ((x*y % 18446744073709551616:Nat):Int)])∧w=w':=by
 obtain ⟨bd,bt,bw,hhi⟩:=Lib.mul64_hi x y hx hy;have ba:=Lib.half_mul_le (a:=x / 4294967296) (b:=y / 4294967296) (by omega) (by omega);have bb:=Lib.half_mul_le (a:=x / 4294967296) (b:=y % 4294967296) (by omega) (by omega);have bc:=Lib.half_mul_le (a:=x % 4294967296) (b:=y / 4294967296) (by omega) (by omega);have ba':x / 4294967296*(y / 4294967296)<18446744073709551616:=by omega
 have bb':x / 4294967296*(y % 4294967296)<18446744073709551616:=by omega
 have bc':x % 4294967296*(y / 4294967296)<18446744073709551616:=by omega
 have bh1:x / 4294967296*(y / 4294967296)+(x / 4294967296*(y % 4294967296)+x % 4294967296*(y % 4294967296) / 4294967296) / 4294967296<18446744073709551616:=by omega
 have bh:x / 4294967296*(y / 4294967296)+(x / 4294967296*(y % 4294967296)+x % 4294967296*(y % 4294967296) / 4294967296) / 4294967296+((x / 4294967296*(y % 4294967296)+x % 4294967296*(y % 4294967296) / 4294967296) % 4294967296+x % 4294967296*(y / 4294967296)) / 4294967296<18446744073709551616:=by omega
 go_enter Tryz.func178,Tryz.ntmps178
 go_wp2
 simp only [M64.maskN x hx,M64.maskN y hy,M64.divN,M64.mulN,M64.addN,M64.wrapN _ bd,M64.wrapN _ bb',M64.wrapN _ bt,M64.maskN _ bt,M64.wrapN _ bc',M64.wrapN _ bw,M64.wrapN _ ba',M64.wrapN _ bh1,M64.wrapN _ bh,M64.wrapM (x*y)];rw [hhi];go_ret2;exact ⟨rfl,rfl⟩
theorem mul_any (x y:Nat) (hx:x<18446744073709551616) (hy:y<18446744073709551616) (w:World) :
    Calls Tryz.prog 163 #[.int .u64 x,.int .u64 y] w fun e w'=>e=.returned (.tuple #[.int .u64 ((x*y / 18446744073709551616:Nat):Int),.int .u64 ((x*y % 18446744073709551616:Nat):Int)])∧w=w':=by
 go_enter Tryz.func163,Tryz.ntmps163
 go_wp2_with fail
 refine (mul64_any x y hx hy w).mono ?_;rintro e w' ⟨rfl,rfl⟩
 go_wp2_with fail
 go_ret2;exact ⟨rfl,rfl⟩
theorem info_int:(Tryz.prog.info? 3).map (fun i=>(i.zero,i.size,i.bytes))=some (some (.int .i64 0),1,8):=by kernel_rfl
theorem size_int:(Tryz.prog.info? 3).map (·.size)=some 1:=by kernel_rfl
theorem repeat_int (v:Int) (b:Nat) (n:Nat) (w:World) (hv:w.cell? ⟨b,0,none⟩=some (.int .i64 v)) (hn:n≤1000) :
    Calls Tryz.prog 159 #[.slice (some ⟨b,0,none⟩) 1 1,.int .i64 n] w fun e w'=>∃ g,e=.returned (.slice (some ⟨g,0,none⟩) n n)∧w.heap.size≤g∧Blk w' g 3 (List.replicate n (.int .i64 v)).toArray∧Below w.heap.size w w':=by
 have hblt:=World.block_lt_of_cell? w ⟨b,0,none⟩ hv;have hmk:∀ w:World,(Instr.makeSlice 30 (.int .i64 (n:Int)) (.int .i64 (n:Int))).run Tryz.prog w=.ok (.slice (some ⟨w.heap.size,0,none⟩) n n) (w.alloc (.cells (madeCells #[.int .i64 0] n) 3)):=
  fun w=>run_make_row' (P:=Tryz.prog) 30 3 (.int .i64 0) 8 Tryz.underlying30 info_int rfl .i64 .i64 n (by omega) (by omega) w
 have hHV:=lH hv;clear hv;go_enter Tryz.func159,Tryz.ntmps159
 go_wp2_with fail
 refine (mul_any 1 n (by omega) (by omega) _).mono ?_;rw [show (1*n / 18446744073709551616:Nat)=0 from by omega,show (1*n % 18446744073709551616:Nat)=n from by omega];rintro e w' ⟨rfl,rfl⟩;have hmadeL:(madeCells #[.int .i64 0] n).toList.length=n:=by simp [size_madeCells]
 have HML:=lH hmadeL;clear hmadeL;have hB0:Below w.heap.size w (w.alloc (.cells (madeCells #[.int .i64 0] n) 3)):=bA;have hblk:(w.alloc (.cells (madeCells #[.int .i64 0] n) 3)).heap[w.heap.size]?=some (.cells (madeCells #[.int .i64 0] n).toList.toArray 3 (0,0)):=by simpa using heap_alloc_new w _
 have hsrc:(w.alloc (.cells (madeCells #[.int .i64 0] n) 3)).cell? ⟨b,0,none⟩=some (.int .i64 v):=(World.cell?_alloc_lt _ _ _ hblt).trans hHV.out;have HB0:=lH hB0;have HBLK:=lH hblk;have HSRC:=lH hsrc;have hsrc2:∀ j u,(List.replicate (min 1 n) (.int .i64 v))[j]?=some u→(w.alloc (.cells (madeCells #[.int .i64 0] n) 3)).cell? ((⟨b,0,none⟩:Addr).add j)=some u:=fun j u hu=>by
  have hj:=(zB_.1 hu).1;simp at hj;have:j=0:=by omega
  subst this;rw [List.getElem?_replicate,if_pos (by omega)] at hu;injection hu with hu;subst hu;exact HSRC.o
 have HSRC2:=lH hsrc2;clear hB0 hblk hsrc hsrc2
 go_wp2_with (refine wpList_copy_splice rfl (.tmp 31) (.tmp 32) 30 30 rfl 3 Tryz.underlying30 size_int (some ⟨w.heap.size,0,none⟩) (some ⟨b,0,none⟩) n n 1 1 rfl rfl w.heap.size 0 (madeCells #[.int .i64 0] n).toList 3 HBLK.o (List.replicate (min 1 n) (.int .i64 v)) (by simp) (fun _=>⟨rfl,_,rfl,HSRC2.o⟩) (by simp;have:=HML.o;simp at this;omega) (fun u hu=>by rw [(List.mem_replicate.1 hu).2];rfl) w.heap.size w HB0.o lR ?_)
 intro w2 hb2 k2;have hk0:(splice (madeCells #[.int .i64 0] n).toList 0 (List.replicate (min 1 n) (.int .i64 v))).length=n∧∀ i,i<min 1 n→(splice (madeCells #[.int .i64 0] n).toList 0 (List.replicate (min 1 n) (.int .i64 v)))[i]?=some (.int .i64 v):=by
  refine ⟨by unfold splice;have:=HML.o;simp at this ⊢;omega,fun i hi=>?_⟩;unfold splice;rw [List.take_zero,List.nil_append,zR_ (by simpa using hi),List.getElem?_replicate,if_pos hi]
 generalize splice (madeCells #[.int .i64 0] n).toList 0 (List.replicate (min 1 n) (.int .i64 v))=cur0 at hb2 hk0;have HB2:=lH hb2.out;have HK2:=lH k2;have HK0:=lH hk0;have hmin:min 1 n≤n:=Nat.min_le_right _ _;have hmin2:0<n→0<min 1 n:=fun h=>by omega
 clear hb2 k2 hk0 hmk;generalize min 1 n=k0 at *
 go_wp2_with fail
 go_loopw [8] (fun i wr=>∃ k:Nat,k≤n∧i=.int .i64 k∧(0<n→0<k)∧Below w.heap.size w wr∧∃ cur:List Value,cur.length=n∧(∀ i,i<k→cur[i]?=some (.int .i64 v))∧Hid (wr.heap[w.heap.size]?=some (.cells cur.toArray 3 (0,0)))) (fun i _=>n-(intOf i).toNat)
 case atStart=>exact ⟨k0,hmin,rfl,hmin2,HK2.o,cur0,HK0.o.1,HK0.o.2,HB2⟩
 case round=>
  obtain ⟨k,hk,rfl,hkp,hbel,cur,hcl,hci,hblk⟩:=hrel;have HCI:=lH hci;have HBL:=lH hbel;have HCL:=lH hcl;clear hci hbel hcl HK2 HB2 HK0
  by_cases hlt:k<n
  ·have hkp':0<k:=hkp (by omega)
   clear hkp;have hsrc:∀ j u,(List.replicate (min k (n-k)) (.int .i64 v))[j]?=some u→wr.drew.cell? ((⟨w.heap.size,0,none⟩:Addr).add j)=some u:=fun j u hu=>by
    have hj:=(zB_.1 hu).1;simp at hj;rw [List.getElem?_replicate,if_pos hj] at hu;injection hu with hu;subst hu;have h1:=HCI.o j (by omega);have h2:=cell_of_row wr w.heap.size j cur.toArray 3 (0,0) hblk.out;rw [show ((⟨w.heap.size,0,none⟩:Addr).add j)=⟨w.heap.size,j,none⟩ from by unfold Addr.add;split<;>simp_all];show wr.cell? _=_;rw [h2];simpa using h1
   have HSRC3:=lH hsrc;clear hsrc;have hI1:(k:Int)≤(n:Int):=by omega
   have hI2:=lZ k
   have hmk1:min k (n-k)≤n-k:=Nat.min_le_right _ _;have hmk2:0<min k (n-k):=by omega
   have hw1:IntKind.i64.wrap ((k:Int)+((min k (n-k):Nat):Int))=(k:Int)+((min k (n-k):Nat):Int):=IntWalk.i64_in _ (by omega)
   go_wp2_with fail
   go_region_law (refine step_copy_at 45 rfl rfl (.tmp 41) (.tmp 44) 30 30 rfl 3 Tryz.underlying30 size_int (some ⟨w.heap.size,k,none⟩) (some ⟨w.heap.size,0,none⟩) (n-k) (n-k) k n (by simp [Act.eval,Act.put];omega) (by simp [Act.eval,Act.put]) w.heap.size k cur 3 hblk.out (List.replicate (min k (n-k)) (.int .i64 v)) (by simp) (fun _=>⟨rfl,_,rfl,HSRC3.o⟩) (by rw [zO_,HCL.o];omega) (fun u hu=>by rw [(List.mem_replicate.1 hu).2];rfl) w.heap.size w (below_drew HBL.o) lR ?_;intro w3 hb3 k3)
   have hk3:(splice cur k (List.replicate (min k (n-k)) (.int .i64 v))).length=n∧∀ i,i<k+min k (n-k)→(splice cur k (List.replicate (min k (n-k)) (.int .i64 v)))[i]?=some (.int .i64 v):=by
    have hcl:=HCL.o;refine ⟨by unfold splice;simp;omega,fun i hi=>?_⟩;unfold splice
    by_cases hik:i<k
    ·rw [zR_ (by simp;omega),List.getElem?_take,if_pos hik]
     exact HCI.o i hik
    ·rw [zN_ (by simp;omega),zR_ (by simp;omega),List.getElem?_replicate,if_pos (by simp;omega)]
   have HK3:=lH hk3;have HKK3:=lH k3;have HBB3:=lH hb3.out;have hmk4:k+min k (n-k)≤n:=by omega
   clear hk3 k3 hb3 HSRC3;generalize splice cur k (List.replicate (min k (n-k)) (.int .i64 v))=cur3 at *;generalize min k (n-k)=q at *
   go_wp2_with fail
   go_roundw
   case rel=>exact ⟨k+q,hmk4,by go_num,fun _=>by omega,HKK3.o,cur3,HK3.o.1,HK3.o.2,HBB3⟩
   case measure=>simp [intOf];omega
  ·have hkn:k=n:=by omega
   subst hkn
   go_wp2_with fail
   go_ret;refine ⟨w.heap.size,rfl,lR,?_,HBL.o⟩;have hc:cur=List.replicate k (.int .i64 v):=by
    apply List.ext_getElem?;intro i
    by_cases hi:i<k
    ·rw [HCI.o i hi,List.getElem?_replicate,if_pos hi]
    ·rw [List.getElem?_eq_none (by have:=HCL.o;omega),List.getElem?_eq_none (by simp;omega)]
   have:=hblk.out;rw [hc] at this;exact this
end
end Go.Proofs.YthgdchffeigkbaaGreatDoor
