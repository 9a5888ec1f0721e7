import Derived.Test.YthgdchffeigkbaaGreatDoorU06
import Derived.Test.YthgdchffeigkbaaGreatDoorU07
import Derived.Lib.ParseIntB
import Derived.Deep.AppendSrc
import Derived.Deep.Upon
import Derived.Deep.DeepAppendWide
set_option linter.unusedVariables false
set_option linter.unusedSimpArgs false
namespace Go.Proofs.YthgdchffeigkbaaGreatDoor
section
def pv:List Nat→Nat
 | []=>0
 | x::r=>x+1000000000*pv r
def PsOk (ps:List Nat):Prop:=∀ x∈ps,x<1000000000
theorem pv_snoc:∀ (ps:List Nat) (r:Nat),pv (ps++[r])=pv ps+r*1000000000^ps.length
 | [],r=>by simp [pv]
 | x::t,r=>by
  rw [List.cons_append,pv,pv_snoc t r,pv,zV_,Nat.pow_succ];grind
theorem psOk_snoc {ps:List Nat} {r:Nat} (h:PsOk ps) (hr:r<1000000000):PsOk (ps++[r]):=fun x hx=>(List.mem_append.1 hx).elim (h x) fun h=>by rw [List.mem_singleton.1 h];exact hr
theorem pv_drop {ps:List Nat} {k x:Nat} (h:ps[k]?=some x):pv (ps.drop k)=x+1000000000*pv (ps.drop (k+1)):=by
 obtain ⟨hl,he⟩:=zB_.1 h;rw [List.drop_eq_getElem_cons hl,he,pv]
def PsTop (ps:List Nat):Prop:=∀ x,ps.getLast?=some x→0<x
theorem pv_pos:∀ {ps:List Nat},PsTop ps→ps≠[]→0<pv ps
 | [x],h,_=>by
  have:=h x rfl;simp only [pv];omega
 | x::y::r,h,_=>by
  have:=pv_pos (ps:=y::r) (fun z hz=>h z (by rw [List.getLast?_cons_cons];exact hz)) (by simp);rw [pv];omega
theorem psTop_drop {ps:List Nat} (h:PsTop ps) {k:Nat} (hk:k<ps.length):0<pv (ps.drop k):=by
 refine pv_pos (fun x hx=>h x ?_) (fun e=>by have:=congrArg List.length e;rw [zS_] at this;simp at this;omega);rw [List.getLast?_drop,if_neg (by omega)] at hx;exact hx
def Dg (ps:List Nat) (k:Nat):List UInt8:=if k<ps.length then Lib.decDigits (pv (ps.drop k)) else []
theorem dg_end (ps:List Nat):Dg ps ps.length=[]:=by unfold Dg;rw [if_neg (Nat.lt_irrefl _)]
theorem dg_top {ps:List Nat} {k x:Nat} (h:ps[k]?=some x) (hk:k+1=ps.length):Dg ps k=Lib.decDigits x:=by
 unfold Dg;rw [if_pos (by omega),pv_drop h,List.drop_eq_nil_of_le (by omega),pv,Nat.mul_zero,Nat.add_zero]
theorem dg_low {ps:List Nat} {k x:Nat} (h:ps[k]?=some x) (hk:k+1<ps.length) (hok:PsOk ps) (ht:PsTop ps):Dg ps k=Dg ps (k+1)++List.replicate (9-(Lib.decDigits x).length) 48++Lib.decDigits x:=by
 unfold Dg;have hx:=hok x (zC_ h);have hp:=psTop_drop ht hk;rw [if_pos (by omega),if_pos hk,pv_drop h,Nat.add_comm x,Nat.mul_comm,show 1000000000=10^9 from rfl,dec_split 9 _ x hp hx,fixd_pad 9 x (by decide) hx,List.append_assoc]
theorem dg_all {ps:List Nat} (h:ps≠[]):Dg ps 0=Lib.decDigits (pv ps):=by
 unfold Dg;rw [if_pos (List.length_pos_iff.2 h),List.drop_zero]
theorem dg_len {ps:List Nat} {k x:Nat} (h:ps[k]?=some x) (hok:PsOk ps):1≤(Lib.decDigits x).length∧(Lib.decDigits x).length≤9:=
 ⟨dec_len_pos x,dec_len9 (by decide) (hok x (zC_ h))⟩
theorem pow_mono10 {a b:Nat} (h:a≤b):10^a≤10^b:=Nat.pow_le_pow_right (by decide) h
theorem bb_lo:10^2000≤BB 210:=by unfold BB;decide+kernel
theorem bb_hi:BB 210≤1000000000^225:=by unfold BB;decide+kernel
theorem many_words {n:Nat} (h:210<dlen n):2000<ndg n:=by
 have h0:n≠0:=fun e=>by rw [e,dlen_zero] at h;omega
 have h1:=le_dlen h0;have h2:BB 210≤n:=zI_ (BB_le (by omega)) h1;refine Nat.lt_of_not_le fun hle=>?_;have h3:=lt_ndg n;have h4:=pow_mono10 hle;have h5:=bb_lo;omega
theorem few_parts {v g L:Nat} (hv:dlen v≤210) (hg:0<g) (h:g*1000000000^L≤v):L<225:=by
 have h1:=lt_dlen v;have h2:v<1000000000^225:=zJ_ h1 (zI_ (BB_le hv) bb_hi);have h3:1*1000000000^L≤g*1000000000^L:=Nat.mul_le_mul_right _ hg;exact (Nat.pow_lt_pow_iff_right (a:=1000000000) (by decide)).1 (by omega)
def textL (z:Int):List UInt8:=(if z<0 then [45] else [])++Lib.decDigits z.natAbs
def AllDg (l:List UInt8):Prop:=∀ c∈l,IsDg c
theorem AllDg.take {l:List UInt8} (h:AllDg l) (n:Nat):AllDg (l.take n):=fun c hc=>h c (List.mem_of_mem_take hc)
theorem AllDg.drop {l:List UInt8} (h:AllDg l) (n:Nat):AllDg (l.drop n):=fun c hc=>h c (List.mem_of_mem_drop hc)
theorem puM:∀ (l:List UInt8) (mx acc:Nat),AllDg l→mx≤4294967295→dvg acc l≤mx→Lib.parseUintM mx acc l=.ok (dvg acc l)
 | [],mx,acc,_,_,_=>rfl
 | c::r,mx,acc,h,h4,hm=>by
  have hc:=h c (List.mem_cons_self ..);have hr:AllDg r:=fun x hx=>h x (List.mem_cons_of_mem _ hx);have e:dvg acc (c::r)=dvg (acc*10+(c.toNat-48)) r:=rfl;rw [e] at hm ⊢;have hle:acc*10+(c.toNat-48)≤dvg (acc*10+(c.toNat-48)) r:=by
   rw [dvg_acc];have:1≤10^r.length:=Nat.one_le_pow _ _ (by decide);have:=Nat.mul_le_mul_left (acc*10+(c.toNat-48)) this;omega
  have ih:=puM r mx _ hr h4 hm;unfold Lib.parseUintM;rw [if_pos (show 48≤c.toNat∧c.toNat≤57 from hc),if_neg (by omega),if_neg (by omega)];exact ih
theorem pu32 {l:List UInt8} (h:AllDg l) (h0:l≠[]) (h9:l.length≤9):Lib.parseUintB 32 l=.ok (dv l):=by
 unfold Lib.parseUintB;rw [if_neg h0];refine puM l _ 0 h (by decide) ?_;have h1:=dv_lt h;have h2:10^l.length≤10^9:=Nat.pow_le_pow_right (by decide) h9;show dv l≤_;omega
theorem dv_part (l m:List UInt8) (h:l=[]∨m.length=9):dv (l++m)=dv l*1000000000+dv m:=by
 rw [dv_append];rcases h with rfl | h
 ·simp [dv,dvg]
 ·rw [h]
theorem dv_dlen {l:List UInt8} (h:AllDg l):dlen (dv l)≤l.length:=by
 refine dlen_le (zJ_ (dv_lt h) ?_);exact Nat.pow_le_pow_left (by decide) _
end
section
open Go.ChangeShapes Go.WideShapes Go.ChangeAt Go.RowKit
section
variable {P:Program}
end
theorem own_keep {w w':World} {base e size n:Nat} {v:Value} {xs:List Value} (h:w.ownsRow base e size v n xs) (hb:Below w.heap.size w w'):w'.ownsRow base e size v n xs:=by
 refine ⟨h.1,?_⟩;rcases h.2 with h1 | ⟨g,cap,cur,h1,h2,h3,h4⟩
 ·exact .inl h1
 ·refine .inr ⟨g,cap,cur,h1,h2,?_,h4⟩
  exact (hb.block g (Array.getElem?_eq_some_iff.1 h3).1).trans h3
theorem own_none (w:World) (base e size:Nat):w.ownsRow base e size (.slice none 0 0) 0 []:=⟨by simp,.inl ⟨rfl,rfl⟩⟩
theorem own_rd {w:World} {base e size n:Nat} {v:Value} {xs:List Value} (h:w.ownsRow base e size v n xs):∃ A c,v=.slice A n c∧Rd w w.heap.size size A n xs∧n≤c∧c≤maxLen∧(0<n→∃ b off,A=some ⟨b,off,none⟩∧base≤b):=by
 have hl:=h.1;rcases h.2 with ⟨h1,h2⟩ | ⟨g,cap,cur,h1,h2,h3,h4,h5,h6,h7⟩
 ·subst h2
  exact ⟨none,0,h1,⟨hl,fun h=>by omega⟩,lR,by simp [maxLen],fun h=>by omega⟩
 ·refine ⟨some ⟨g,0,none⟩,cap,h1,⟨hl,fun _=>⟨g,0,rfl,(Array.getElem?_eq_some_iff.1 h3).1,fun j u hu=>?_⟩⟩,h4,h5,fun _=>⟨g,0,rfl,h2⟩⟩
  have hb:Blk w g e cur:=h3;rw [Nat.zero_add,hb.cell j];rw [←h7] at hu;have hj:=(zB_.1 hu).1;rw [zF_] at hj;rw [List.getElem?_take_of_lt (by omega)] at hu;simpa using hu
def OwnS (S:Value→Prop) (w:World) (base:Nat) (e:TypeId) (size:Nat) (v:Value) (n:Nat) (xs:List Value):Prop:=
 xs.length=n*size∧((v=.slice none 0 0∧n=0)∨∃ g cap cur,v=.slice (some ⟨g,0,none⟩) n cap∧base≤g∧Blk w g e cur∧n≤cap∧cap≤maxLen∧cur.size=cap*size∧cur.toList.take (n*size)=xs∧∀ u∈cur.toList,S u)
structure Keeps (S:Value→Prop) (base:Nat) (e:TypeId) (w w':World):Prop where
 low:Below base w w'
 size:w.heap.size≤w'.heap.size
 cell:∀ p u,w.cell? p=some u→¬S u→w'.cell? p=some u
 blk:∀ b t cs,Blk w b t cs→t≠e→Blk w' b t cs
section
variable {S:Value→Prop} {w w':World} {base e size n:Nat} {v:Value} {xs:List Value}
theorem OwnS.own (h:OwnS S w base e size v n xs):w.ownsRow base e size v n xs:=by
 refine ⟨h.1,?_⟩;rcases h.2 with h1 | ⟨g,cap,cur,h1,h2,h3,h4,h5,h6,h7,_⟩
 ·exact .inl h1
 ·exact .inr ⟨g,cap,cur,h1,h2,h3,h4,h5,h6,h7⟩
theorem OwnS.keep (h:OwnS S w base e size v n xs) (hb:Below w.heap.size w w'):OwnS S w' base e size v n xs:=by
 refine ⟨h.1,?_⟩;rcases h.2 with h1 | ⟨g,cap,cur,h1,h2,h3,h4⟩
 ·exact .inl h1
 ·exact .inr ⟨g,cap,cur,h1,h2,h3.bl hb,h4⟩
theorem ownS_none (S:Value→Prop) (w:World) (base e size:Nat):OwnS S w base e size (.slice none 0 0) 0 []:=⟨by simp,.inl ⟨rfl,rfl⟩⟩
theorem Keeps.old (h:∀ i,i<w.heap.size→w'.heap[i]?=w.heap[i]?) (hs:w.heap.size≤w'.heap.size) (ho:w'.os=w.os) (ht:w'.tape=w.tape) (hp:w'.output=w.output) (hbs:base≤w.heap.size):Keeps S base e w w':=
 ⟨⟨ho,ht,hp,hs,fun i hi=>h i (zJ_ hi hbs)⟩,hs,fun p u hu _=>(World.cell?_of_block (h _ (World.block_lt_of_cell? w p hu))).trans hu,fun b t cs hb _=>(h b hb.lt).trans hb⟩
theorem zero_mem {z:Array Value} {k:Nat} {u:Value} (h:u∈(Builtin.zeroCells z k).toList):u∈z.toList:=by
 unfold Builtin.zeroCells at h;rw [Array.mem_toList_iff,Array.mem_map] at h;obtain ⟨i,hi,rfl⟩:=h;rw [Array.mem_range] at hi;have hz:0<z.size:=by
  rcases Nat.eq_zero_or_pos z.size with e | e
  ·rw [e] at hi;simp at hi
  ·exact e
 have hm:i % z.size<z.size:=Nat.mod_lt _ hz;rw [getElem!_pos z _ hm];exact Array.mem_toList_iff.2 (Array.getElem_mem hm)
end
section
variable {P:Program}
theorem run_append_S {S:Value→Prop} (w:World) (base:Nat) (t ty e:TypeId) (i:TypeInfo) (z:Value) (size bytes:Nat) (ht:P.underlying t=some (.slice e)) (hi:P.info? e=some i) (hz:i.zero=some z)
    (hsize:i.size=size) (hby:i.bytes=bytes) (hzs:z.cells.size=size) (hsz:0<size) (hzS:∀ u∈z.cells.toList,S u)
    (v:Value) (n:Nat) (xs:List Value) (hown:OwnS S w base e size v n xs)
    (a:Addr) (m c:Nat) (news:List Value) (hl:news.length=m*size) (hnews:∀ j u,news[j]?=some u→w.cell? (a.add j)=some u) (h1:∀ u∈news,u.oneCell'=true∧S u)
    (h63:n+m≤maxLen) (hbytes:(n+m)*bytes≤140737488355328) (hbase:base≤w.heap.size) (hm:0<m) :
    ∃ v' w',(Builtin.append_ #[t,t] ty #[v,.slice (some a) m c]).run P w=.ok v' w'∧OwnS S w' base e size v' (n+m) (xs++news)∧Keeps S base e w w'∧(v'.ownBlock=v.ownBlock∨v'.ownBlock=some w.heap.size):=by
 subst hsize;subst hby;have hsmall:n+m≤9223372036854775807:=by simp only [maxLen] at h63;omega
 have hlen:(xs++news).length=(n+m)*i.size:=by rw [zE_,hown.1,hl,Nat.add_mul]
 have fresh:∀ (old:Nat),(∀ u∈xs,S u)→
     OwnS S (w.drew.alloc (.cells (xs.toArray++news.toArray++Builtin.zeroCells z.cells (grownCap w (n+m) old e-(n+m))) e)) base e i.size (.slice (some ⟨w.heap.size,0,none⟩) (n+m) (grownCap w (n+m) old e)) (n+m) (xs++news)∧
     Keeps S base e w (w.drew.alloc (.cells (xs.toArray++news.toArray++Builtin.zeroCells z.cells (grownCap w (n+m) old e-(n+m))) e)):=by
  intro old hx;have hge:=grownCap_ge w (n+m) old e;refine ⟨⟨hlen,.inr ⟨w.heap.size,_,_,rfl,hbase,Blk.new w.drew _ _,hge,grownCap_le_maxLen w (n+m) old e h63,?_,?_,?_⟩⟩,Keeps.old (fun k hk=>heap_alloc_old w.drew _ hk) (by simp) rfl rfl rfl hbase⟩
  ·rw [Array.size_append,Array.size_append,List.size_toArray,List.size_toArray,size_zeroCells,hzs,hown.1,hl,←Nat.add_mul,←Nat.add_mul,Nat.add_sub_cancel' hge]
  ·rw [Array.toList_append,Array.toList_append,←hlen]
   exact List.take_left
  ·intro u hu
   rw [Array.toList_append,Array.toList_append,List.mem_append,List.mem_append] at hu;rcases hu with (hu | hu) | hu
   ·exact hx u (by simpa using hu)
   ·exact (h1 u (by simpa using hu)).2
   ·exact hzS u (zero_mem hu)
 rcases hown.2 with ⟨rfl,rfl⟩ | ⟨g,cap,cur,rfl,hbg,hg,hnc,hcm,hcs,htake,hS⟩
 ·have hx:xs=[]:=List.eq_nil_of_length_eq_zero (by simpa using hown.1)
  subst hx;have hr:=run_append_nil (P:=P) w t ty e i z ht hi hz a m c news hl hnews hm (by omega) (by have hb:=hbytes;rw [Nat.zero_add] at hb;omega);obtain ⟨f1,f2⟩:=fresh 0 (by simp);simp only [Nat.zero_add,List.nil_append,Array.empty_append] at f1 f2 ⊢;exact ⟨_,_,hr,f1,f2,.inr rfl⟩
 ·have hxS:∀ u∈xs,S u:=fun u hu=>hS u (List.mem_of_mem_take (by rw [htake];exact hu))
  by_cases hroom:n+m≤cap
  ·have hfit:n*i.size+news.length≤cur.size:=by rw [hl,hcs,←Nat.add_mul];exact Nat.mul_le_mul_right _ hroom
   have hr:=run_append_room (P:=P) w t ty e i ht hi g n cap cur hg a m c news hl hnews (fun u hu=>(h1 u hu).1) hroom hfit;have hoth:∀ k,k≠g→(w.setRow g (cur.toList.take (n*i.size)++news++cur.toList.drop (n*i.size+news.length)).toArray).heap[k]?=w.heap[k]?:=fun k hk=>setRow_other w g k _ hk;refine ⟨_,_,hr,⟨hlen,.inr ⟨g,cap,_,rfl,hbg,setRow_heap w g cur _ e _ hg,hroom,hcm,?_,?_,?_⟩⟩,⟨⟨rfl,rfl,rfl,by simp,fun k hk=>hoth k (by omega)⟩,by simp,fun p u hu hn=>?_,fun b t' cs hb hne=>?_⟩,.inl rfl⟩
   ·rw [List.size_toArray,zE_,zE_,zF_,zS_,Array.length_toList]
    omega
   ·rw [htake,←hlen]
    exact List.take_left
   ·intro u hu
    rw [List.mem_append,List.mem_append] at hu;rcases hu with (hu | hu) | hu
    ·exact hS u (List.mem_of_mem_take hu)
    ·exact (h1 u hu).2
    ·exact hS u (List.mem_of_mem_drop hu)
   ·have hpg:p.block≠g:=by
     intro e;obtain ⟨b,off,sp⟩:=p;simp only at e;subst e;cases sp with
     | none=>
      have:=hg.cell off;rw [this] at hu;exact hn (hS u (Array.mem_toList_iff.2 (Array.mem_of_getElem? hu)))
     | some s=>
      unfold World.cell? at hu;rw [show w.heap[b]?=some (.cells cur _ (0,0)) from hg] at hu;simp at hu
    exact (World.cell?_of_block (hoth _ hpg)).trans hu
   ·have hbg':b≠g:=by
     rintro rfl;have h2:some (Obj.cells cs t' (0,0))=some (Obj.cells cur e (0,0)):=hb.symm.trans hg;injection h2 with h2;injection h2 with _ h2;exact hne h2
    exact (hoth b hbg').trans hb
  ·have holds:∀ j u,xs[j]?=some u→w.cell? ((⟨g,0,none⟩:Addr).add j)=some u:=hown.own.cells (g:=g) rfl
   have hr:=run_append_grow (P:=P) w t ty e i z ht hi hz ⟨g,0,none⟩ n cap xs hown.1 holds a m c news hl hnews (by omega) (by omega) (growslice_fits (by omega) hbytes);obtain ⟨f1,f2⟩:=fresh cap hxS;exact ⟨_,_,hr,f1,f2,.inr rfl⟩
theorem wpList_appS {S:Value→Prop} {ops:Array Oper} {rest:List Oper} {o:Oper} {a:Act} {Q:Exit→Act→World→Prop} {w:World} {lit:Array Value} {T:TypeId} (hgd:o.guard=none) (s x:Operand) (t:TypeId)
    (ho:o.op=.call { callee:=.builtin .append,args:=#[s,x],argTypes:=#[t,t] })
    (base:Nat) (e:TypeId) (i:TypeInfo) (z:Value) (size bytes:Nat) (ht:P.underlying t=some (.slice e)) (hi:P.info? e=some i) (hz:i.zero=some z)
    (hsize:i.size=size) (hby:i.bytes=bytes) (hzs:z.cells.size=size) (hsz:0<size) (hzS:∀ u∈z.cells.toList,S u)
    (v:Value) (n:Nat) (xs:List Value) (hs:a.eval s=v) (hown:OwnS S w base e size v n xs)
    (hx:a.eval x=.slice (some ⟨w.heap.size,0,none⟩) 1 1) (hl:lit.size=size) (h1:∀ u∈lit.toList,u.oneCell'=true∧S u)
    (h63:n+1≤maxLen) (hbytes:(n+1)*bytes≤140737488355328) (hbase:base≤w.heap.size)
    (h:∀ v' w',OwnS S w' base e size v' (n+1) (xs++lit.toList)→Keeps S base e (w.alloc (.cells lit T)) w'→(v'.ownBlock=v.ownBlock∨v'.ownBlock=some (w.heap.size+1))→wpList P ops Q rest (a.put o.dst v') w') :
    wpList P ops Q (o::rest) a (w.alloc (.cells lit T)):=by
 refine wpList_plain hgd fun K hK=>?_;obtain ⟨v',w',hr,h2,h3,h4⟩:=run_append_S (P:=P) (w.alloc (.cells lit T)) base t o.type e i z size bytes ht hi hz hsize hby hzs hsz hzS v n xs (hown.keep (bA)) ⟨w.heap.size,0,none⟩ 1 1 lit.toList (by rw [Array.length_toList,hl,Nat.one_mul]) (fun j u hu=>by
  rw [Addr.add_lit,Nat.zero_add,(Blk.new w T lit).cell j];simpa using hu) h1 h63 hbytes (zI_ hbase (by simp)) (by decide)
 unfold Oper.wp execOp;simp only [ho,resolve,invoke,builtin,Sem.run_bind,Sem.run_pure,Result.andThen_ok,List.map_toArray,List.map_cons,List.map_nil,hs,hx,hr];exact hK _ _ (h v' w' h2 h3 (by simpa using h4))
end
end
section
abbrev Fn:=Nat→Rat
def sumTo:Nat→Fn→Rat
 | 0,_=>0
 | n+1,f=>sumTo n f+f n
theorem sumTo_congr:∀ {n:Nat} {f g:Fn},(∀ i,i<n→f i=g i)→sumTo n f=sumTo n g
 | 0,_,_,_=>rfl
 | n+1,f,g,h=>by rw [sumTo,sumTo,sumTo_congr fun i hi=>h i (by omega),h n (by omega)]
theorem sumTo_zero:∀ {n:Nat} {f:Fn},(∀ i,i<n→f i=0)→sumTo n f=0
 | 0,_,_=>rfl
 | n+1,f,h=>by rw [sumTo,sumTo_zero fun i hi=>h i (by omega),h n (by omega)];exact Rat.add_zero 0
theorem sumTo_add (f g:Fn):∀ n:Nat,sumTo n (fun i=>f i+g i)=sumTo n f+sumTo n g
 | 0=>(Rat.add_zero 0).symm
 | n+1=>by rw [sumTo,sumTo,sumTo,sumTo_add f g n];grind
theorem sumTo_mul (c:Rat) (f:Fn):∀ n:Nat,sumTo n (fun i=>c*f i)=c*sumTo n f
 | 0=>(Rat.mul_zero c).symm
 | n+1=>by rw [sumTo,sumTo,sumTo_mul c f n];grind
theorem sumTo_one {n k:Nat} {f:Fn} (hk:k<n) (h:∀ i,i<n→i≠k→f i=0):sumTo n f=f k:=by
 induction n with
 | zero=>omega
 | succ n ih=>
  rw [sumTo]
  by_cases hn:k=n
  ·subst hn
   rw [sumTo_zero fun i hi=>h i (by omega) (by omega),Rat.zero_add]
  ·rw [ih (by omega) (fun i hi hik=>h i (by omega) hik),h n (by omega) (fun e=>hn e.symm),Rat.add_zero]
theorem sumTo_comm (f:Nat→Nat→Rat) (m:Nat):∀ n:Nat,sumTo n (fun i=>sumTo m fun j=>f i j)=sumTo m (fun j=>sumTo n fun i=>f i j)
 | 0=>by
  rw [sumTo,sumTo_zero];intro i _;rfl
 | n+1=>by
  rw [sumTo,sumTo_comm f m n,←sumTo_add];rfl
def dotn (n:Nat) (a x:Fn):Rat:=sumTo n fun i=>a i*x i
theorem dotn_add (n:Nat) (a x y:Fn):dotn n a (fun i=>x i+y i)=dotn n a x+dotn n a y:=by
 unfold dotn;rw [←sumTo_add];exact sumTo_congr fun i _=>by grind
theorem dotn_mul (n:Nat) (a x:Fn) (c:Rat):dotn n a (fun i=>c*x i)=c*dotn n a x:=by
 unfold dotn;rw [←sumTo_mul];exact sumTo_congr fun i _=>by grind
theorem dotn_addl (n:Nat) (a b x:Fn):dotn n (fun i=>a i+b i) x=dotn n a x+dotn n b x:=by
 unfold dotn;rw [←sumTo_add];exact sumTo_congr fun i _=>by grind
theorem dotn_mull (n:Nat) (a x:Fn) (c:Rat):dotn n (fun i=>c*a i) x=c*dotn n a x:=by
 unfold dotn;rw [←sumTo_mul];exact sumTo_congr fun i _=>by grind
theorem dotn_congr {n:Nat} {a b x y:Fn} (h:∀ i,i<n→a i=b i) (h2:∀ i,i<n→x i=y i):dotn n a x=dotn n b y:=
 sumTo_congr fun i hi=>by rw [h i hi,h2 i hi]
def Ker (n:Nat) (A:List Fn) (x:Fn):Prop:=∀ a∈A,dotn n a x=0
structure Ech (M:List Fn) (piv:List Nat) (k:Nat):Prop where
 le:piv.length≤M.length
 inc:piv.Pairwise (·<·)
 lt:∀ p∈piv,p<k
 one:∀ (t p:Nat) (a:Fn),piv[t]?=some p→M[t]?=some a→a p=1
 zer:∀ (t p i:Nat) (a:Fn),piv[t]?=some p→M[i]?=some a→i≠t→a p=0
 low:∀ (t p:Nat) (a:Fn),piv[t]?=some p→M[t]?=some a→∀ j,j<p→a j=0
 rest:∀ (i:Nat) (a:Fn),M[i]?=some a→piv.length≤i→∀ j,j<k→a j=0
namespace Ech
variable {M:List Fn} {piv:List Nat} {n:Nat}
def free (piv:List Nat) (n:Nat):List Nat:=(List.range n).filter fun j=>!piv.contains j
theorem nodup (E:Ech M piv n):piv.Nodup:=E.inc.imp fun h=>Nat.ne_of_lt h
theorem free_len (E:Ech M piv n):(free piv n).length+piv.length=n:=by
 have h1:((List.range n).filter fun j=>piv.contains j).length=piv.length:=by
  refine List.Perm.length_eq ((List.perm_ext_iff_of_nodup (List.Pairwise.filter _ List.nodup_range) E.nodup).2 fun a=>?_);rw [List.mem_filter,List.mem_range]
  constructor
  ·intro h;simpa using h.2
  ·intro h;exact ⟨E.lt a h,by simpa using h⟩
 have h2:=List.length_eq_countP_add_countP (fun j=>piv.contains j) (l:=List.range n);rw [List.length_range,List.countP_eq_length_filter,List.countP_eq_length_filter,h1] at h2;unfold free;have h3:((List.range n).filter fun j=>!piv.contains j)=((List.range n).filter fun a=>decide ¬piv.contains a=true):=by
  congr 1
  funext j
  cases piv.contains j<;>rfl
 rw [h3];omega
theorem mem_free {j:Nat}:j∈free piv n↔j<n∧j∉piv:=by
 unfold free;rw [List.mem_filter,List.mem_range];simp
theorem ker_zero (E:Ech M piv n) {z:Fn} (hz:Ker n M z) (hf:∀ j,j<n→j∉piv→z j=0):∀ j,j<n→z j=0:=by
 intro j hj
 by_cases hp:j∈piv
 ·obtain ⟨t,ht⟩:=List.mem_iff_getElem?.1 hp
  have htl:=(zB_.1 ht).1;obtain ⟨a,ha⟩:∃ a,M[t]?=some a:=⟨_,zA_ (zJ_ htl E.le)⟩;have h:=hz a (zC_ ha);unfold dotn at h;rw [sumTo_one hj,E.one t j a ht ha,Rat.one_mul] at h
  ·exact h
  ·intro i hi hij
   by_cases hip:i∈piv
   ·obtain ⟨s,hs⟩:=List.mem_iff_getElem?.1 hip
    rw [E.zer s i t a hs ha (fun e=>by subst e;rw [ht] at hs;injection hs with hs;exact hij hs.symm),Rat.zero_mul]
   ·rw [hf i hi hip,Rat.mul_zero]
 ·exact hf j hj hp
def bas (M:List Fn) (piv:List Nat) (c:Nat):Fn:=fun j=>if j=c then 1 else match piv.findIdx? (· == j) with
 | some t=>-((M.getD t (fun _=>0)) c)
 | none=>0
theorem bas_free {c j:Nat} (hj:j∉piv):bas M piv c j=if j=c then 1 else 0:=by
 unfold bas
 by_cases h:j=c
 ·rw [if_pos h,if_pos h]
 ·rw [if_neg h,if_neg h]
  have:piv.findIdx? (· == j)=none:=List.findIdx?_eq_none_iff.2 fun x hx=>by
   have:x≠j:=fun e=>hj (e▸hx);simpa using this
  rw [this]
theorem bas_piv (E:Ech M piv n) {c t p:Nat} {a:Fn} (hc:c∉piv) (ht:piv[t]?=some p) (ha:M[t]?=some a):bas M piv c p=-(a c):=by
 unfold bas;have hp:=zC_ ht;rw [if_neg (fun e:p=c=>hc (by rw [←e];exact hp))];have:piv.findIdx? (· == p)=some t:=by
  rw [List.findIdx?_eq_some_iff_getElem];obtain ⟨hl,he⟩:=zB_.1 ht;refine ⟨hl,by simp [he],fun j hj=>?_⟩;have h1:=(List.pairwise_iff_getElem.1 E.inc) j t (by omega) hl hj;rw [he] at h1;simp;omega
 rw [this];simp only;rw [zD_,ha];rfl
theorem bas_ker (E:Ech M piv n) {c:Nat} (hc:c<n) (hcp:c∉piv):Ker n M (bas M piv c):=by
 intro a ha;obtain ⟨i,hi⟩:=List.mem_iff_getElem?.1 ha
 by_cases hr:piv.length≤i
 ·unfold dotn
  exact sumTo_zero fun j hj=>by rw [E.rest i a hi hr j hj,Rat.zero_mul]
 ·obtain ⟨p,hp⟩:∃ p,piv[i]?=some p:=zX_ (by omega)
  have hpn:=E.lt p (zC_ hp);have hpc:p≠c:=fun e=>hcp (e▸zC_ hp);have key:∀ j,j<n→a j*bas M piv c j=(if j=c then a c else 0)+(if j=p then -(a c) else 0):=fun j hj=>by
   by_cases hjp:j∈piv
   ·obtain ⟨s,hs⟩:=List.mem_iff_getElem?.1 hjp
    have hjc:j≠c:=fun e=>hcp (e▸hjp);rw [if_neg hjc]
    by_cases hji:j=p
    ·subst hji
     rw [if_pos rfl,E.one i j a hp hi,E.bas_piv hcp hp hi,Rat.one_mul,Rat.zero_add]
    ·rw [if_neg hji,E.zer s j i a hs hi (fun e=>by subst e;rw [hp] at hs;injection hs with hs;exact hji hs.symm),Rat.zero_mul,Rat.add_zero]
   ·rw [bas_free hjp]
    have hji:j≠p:=fun e=>hjp (e▸zC_ hp);rw [if_neg hji,Rat.add_zero]
    by_cases h:j=c
    ·subst h;rw [if_pos rfl,if_pos rfl,Rat.mul_one]
    ·rw [if_neg h,if_neg h,Rat.mul_zero]
  unfold dotn;rw [sumTo_congr key,sumTo_add,sumTo_one (k:=c) hc (fun i _ h=>if_neg h),sumTo_one (k:=p) hpn (fun i _ h=>if_neg h),if_pos rfl,if_pos rfl];exact Rat.add_neg_cancel _
end Ech
theorem rank_full {n:Nat} {M:List Fn} {piv:List Nat} (E:Ech M piv n):piv.length=n↔∀ x,Ker n M x→∀ j,j<n→x j=0:=by
 have hl:=E.free_len
 constructor
 ·intro h x hx
  refine E.ker_zero hx fun j hj hjp=>?_;have:j∈Ech.free piv n:=Ech.mem_free.2 ⟨hj,hjp⟩;rw [List.eq_nil_of_length_eq_zero (by omega:(Ech.free piv n).length=0)] at this;cases this
 ·intro h
  refine Classical.byContradiction fun hne=>?_;obtain ⟨c,hc⟩:∃ c,c∈Ech.free piv n:=List.exists_mem_of_length_pos (by omega);obtain ⟨h1,h2⟩:=Ech.mem_free.1 hc;have:=h _ (E.bas_ker h1 h2) c h1;rw [Ech.bas_free h2,if_pos rfl] at this;exact absurd this (by decide)
end
section
open Go.ChangeShapes Go.WideShapes Go.ChangeAt Go.RowKit Go.Joins
section
variable {P:Program}
theorem Keeps.refl (S:Value→Prop) (base:Nat) (e:TypeId) (w:World):Keeps S base e w w:=⟨bR,lR,fun _ _ h _=>h,fun _ _ _ h _=>h⟩
theorem OwnS.shape {S:Value→Prop} {w:World} {base e size n:Nat} {v:Value} {xs:List Value} (h:OwnS S w base e size v n xs):∃ A c,v=.slice A n c∧n≤c∧c≤maxLen:=by
 rcases h.2 with ⟨h1,h2⟩ | ⟨g,cap,cur,h1,h2,h3,h4,h5,h6⟩
 ·subst h2;exact ⟨none,0,h1,lR,by simp [maxLen]⟩
 ·exact ⟨_,cap,h1,h4,h5⟩
theorem run_append_rd {S:Value→Prop} (w:World) (base:Nat) (t ty e:TypeId) (i:TypeInfo) (z:Value) (size bytes:Nat) (ht:P.underlying t=some (.slice e)) (hi:P.info? e=some i) (hz:i.zero=some z)
    (hsize:i.size=size) (hby:i.bytes=bytes) (hzs:z.cells.size=size) (hsz:0<size) (hzS:∀ u∈z.cells.toList,S u)
    (v:Value) (n:Nat) (xs:List Value) (hown:OwnS S w base e size v n xs)
    (A:Option Addr) (m c:Nat) (news:List Value) (hr:Rd w w.heap.size size A m news) (h1:∀ u∈news,u.oneCell'=true∧S u)
    (h63:n+m≤maxLen) (hbytes:(n+m)*bytes≤140737488355328) (hbase:base≤w.heap.size) :
    ∃ v' w',(Builtin.append_ #[t,t] ty #[v,.slice A m c]).run P w=.ok v' w'∧OwnS S w' base e size v' (n+m) (xs++news)∧Keeps S base e w w'∧(v=.slice none 0 0→Below w.heap.size w w'∧OwnS S w' w.heap.size e size v' (n+m) (xs++news))∧(v'.ownBlock=v.ownBlock∨v'.ownBlock=some w.heap.size):=by
 rcases Nat.eq_zero_or_pos m with rfl | h0
 ·have hn:news=[]:=List.eq_nil_of_length_eq_zero (by simpa using hr.1)
  subst hn;obtain ⟨A1,c1,rfl,hc,hc2⟩:=hown.shape;have hsrc:Src P i.size t (.slice A 0 c) 0 [] w:=by
   cases A with
   | none=>exact Src.ofNil w ht c
   | some ad=>exact Src.ofSlice w ht ad 0 c [] (by simp) (fun j u hu=>by simp at hu) (fun u hu=>by cases hu)
  refine ⟨_,w,run_append_nothing (P:=P) w t t ty e i ht hi A1 n c1 hc (.slice A 0 c) hsrc,by rw [List.append_nil];exact hown,Keeps.refl _ _ _ _,fun hv=>⟨bR,?_⟩,.inl rfl⟩;injection hv with a1 a2 a3;subst a1;subst a2;subst a3;rw [List.append_nil];exact ⟨hown.1,.inl ⟨rfl,rfl⟩⟩
 ·obtain ⟨b,off,rfl,hb,hc⟩:=hr.2 h0
  by_cases hv:v=.slice none 0 0
  ·subst hv
   have hown2:OwnS S w w.heap.size e size (.slice none 0 0) n xs:=by
    refine ⟨hown.1,?_⟩;rcases hown.2 with h | ⟨g,cap,cur,h,_⟩
    ·exact .inl h
    ·cases h
   obtain ⟨v',w',g1,g2,g3,g4⟩:=run_append_S (P:=P) w w.heap.size t ty e i z size bytes ht hi hz hsize hby hzs hsz hzS _ n xs hown2 ⟨b,off,none⟩ m c news hr.1 (fun j u hu=>by rw [Addr.add_lit];exact hc j u hu) h1 h63 hbytes lR h0;refine ⟨v',w',g1,⟨g2.1,?_⟩,⟨⟨g3.low.os,g3.low.tape,g3.low.output,g3.low.size,fun k hk=>g3.low.block k (zJ_ hk hbase)⟩,g3.size,g3.cell,g3.blk⟩,fun _=>⟨g3.low,g2⟩,g4⟩;exact g2.2.imp id fun ⟨g,cap,cur,k1,k2,k3⟩=>⟨g,cap,cur,k1,zI_ hbase k2,k3⟩
  ·obtain ⟨v',w',g1,g2,g3,g4⟩:=run_append_S (P:=P) w base t ty e i z size bytes ht hi hz hsize hby hzs hsz hzS v n xs hown ⟨b,off,none⟩ m c news hr.1 (fun j u hu=>by rw [Addr.add_lit];exact hc j u hu) h1 h63 hbytes hbase h0
   exact ⟨v',w',g1,g2,g3,fun h=>absurd h hv,g4⟩
theorem wp_appR {S:Value→Prop} {o:Oper} {a:Act} {w:World} {K:Act→World→Prop} {Q:Exit→Act→World→Prop} (s x:Operand) (t:TypeId)
    (ho:o.op=.call { callee:=.builtin .append,args:=#[s,x],argTypes:=#[t,t] })
    (base:Nat) (e:TypeId) (i:TypeInfo) (z:Value) (size bytes:Nat) (ht:P.underlying t=some (.slice e)) (hi:P.info? e=some i) (hz:i.zero=some z)
    (hsize:i.size=size) (hby:i.bytes=bytes) (hzs:z.cells.size=size) (hsz:0<size) (hzS:∀ u∈z.cells.toList,S u)
    (v:Value) (n:Nat) (xs:List Value) (hs:a.eval s=v) (hown:OwnS S w base e size v n xs)
    (A:Option Addr) (m c:Nat) (news:List Value) (hx:a.eval x=.slice A m c) (hr:Rd w w.heap.size size A m news) (h1:∀ u∈news,u.oneCell'=true∧S u)
    (h63:n+m≤maxLen) (hbytes:(n+m)*bytes≤140737488355328) (hbase:base≤w.heap.size)
    (h:∀ v' w',OwnS S w' base e size v' (n+m) (xs++news)→Keeps S base e w w'→(v=.slice none 0 0→Below w.heap.size w w'∧OwnS S w' w.heap.size e size v' (n+m) (xs++news))→(v'.ownBlock=v.ownBlock∨v'.ownBlock=some w.heap.size)→K (a.put o.dst v') w') :
    o.wp P a w K Q:=by
 obtain ⟨v',w',g1,g2,g3,g4,g5⟩:=run_append_rd (P:=P) w base t o.type e i z size bytes ht hi hz hsize hby hzs hsz hzS v n xs hown A m c news hr h1 h63 hbytes hbase;unfold Oper.wp execOp;simp only [ho,resolve,invoke,builtin,Sem.run_bind,Sem.run_pure,Result.andThen_ok,List.map_toArray,List.map_cons,List.map_nil,hs,hx,g1];exact h v' w' g2 g3 g4 g5
theorem wpList_appR {S:Value→Prop} {ops:Array Oper} {rest:List Oper} {o:Oper} {a:Act} {Q:Exit→Act→World→Prop} {w:World} (hgd:o.guard=none) (s x:Operand) (t:TypeId)
    (ho:o.op=.call { callee:=.builtin .append,args:=#[s,x],argTypes:=#[t,t] })
    (base:Nat) (e:TypeId) (i:TypeInfo) (z:Value) (size bytes:Nat) (ht:P.underlying t=some (.slice e)) (hi:P.info? e=some i) (hz:i.zero=some z)
    (hsize:i.size=size) (hby:i.bytes=bytes) (hzs:z.cells.size=size) (hsz:0<size) (hzS:∀ u∈z.cells.toList,S u)
    (v:Value) (n:Nat) (xs:List Value) (hs:a.eval s=v) (hown:OwnS S w base e size v n xs)
    (A:Option Addr) (m c:Nat) (news:List Value) (hx:a.eval x=.slice A m c) (hr:Rd w w.heap.size size A m news) (h1:∀ u∈news,u.oneCell'=true∧S u)
    (h63:n+m≤maxLen) (hbytes:(n+m)*bytes≤140737488355328) (hbase:base≤w.heap.size)
    (h:∀ v' w',OwnS S w' base e size v' (n+m) (xs++news)→Keeps S base e w w'→(v=.slice none 0 0→Below w.heap.size w w'∧OwnS S w' w.heap.size e size v' (n+m) (xs++news))→(v'.ownBlock=v.ownBlock∨v'.ownBlock=some w.heap.size)→wpList P ops Q rest (a.put o.dst v') w') :
    wpList P ops Q (o::rest) a w:=by
 refine wpList_plain hgd fun K hK=>?_;exact wp_appR s x t ho base e i z size bytes ht hi hz hsize hby hzs hsz hzS v n xs hs hown A m c news hx hr h1 h63 hbytes hbase fun v' w' a1 a2 a3 a4=>hK _ _ (h v' w' a1 a2 a3 a4)
end
end
section
def vf (l:List Rat):Fn:=fun i=>l.getD i 0
def vfs (M:List (List Rat)):List Fn:=M.map vf
theorem vf_at {l:List Rat} {i:Nat} {x:Rat} (h:l[i]?=some x):vf l i=x:=by unfold vf;rw [zD_,h];rfl
theorem vf_get {l:List Rat} {i:Nat} (h:i<l.length):l[i]?=some (vf l i):=by unfold vf;rw [zD_,zA_ h];rfl
theorem vfs_at {M:List (List Rat)} {i:Nat} {f:Fn} (h:(vfs M)[i]?=some f):∃ a,M[i]?=some a∧f=vf a:=by
 unfold vfs at h;rw [zM_] at h;obtain ⟨a,ha,he⟩:=Option.map_eq_some_iff.1 h;exact ⟨a,ha,he.symm⟩
theorem vfs_get {M:List (List Rat)} {i:Nat} {a:List Rat} (h:M[i]?=some a):(vfs M)[i]?=some (vf a):=by unfold vfs;rw [zM_,h];rfl
theorem vfs_len (M:List (List Rat)):(vfs M).length=M.length:=by unfold vfs;rw [zG_]
theorem ker_iff {n:Nat} {M:List (List Rat)} {x:Fn}:Ker n (vfs M) x↔∀ (i:Nat) (a:List Rat),M[i]?=some a→dotn n (vf a) x=0:=by
 constructor
 ·intro h i a ha
  exact h _ (zC_ (vfs_get ha))
 ·intro h f hf
  obtain ⟨i,hi⟩:=List.mem_iff_getElem?.1 hf;obtain ⟨a,ha,rfl⟩:=vfs_at hi;exact h i a ha
def divR (d:Rat) (row:List Rat):List Rat:=row.map fun x=>x / d
def subR (f:Rat) (R row:List Rat):List Rat:=List.zipWith (fun x y=>x-f*y) row R
theorem divR_len (d:Rat) (row:List Rat):(divR d row).length=row.length:=by unfold divR;rw [zG_]
theorem subR_len {f:Rat} {R row:List Rat} (h:R.length=row.length):(subR f R row).length=row.length:=by unfold subR;rw [List.length_zipWith,h,Nat.min_self]
theorem divR_vf {d:Rat} {row:List Rat} {i:Nat} (h:i<row.length):vf (divR d row) i=vf row i / d:=by
 refine vf_at ?_;unfold divR;rw [zM_,vf_get h];rfl
theorem subR_vf {f:Rat} {R row:List Rat} {i:Nat} (h:i<row.length) (hl:R.length=row.length):vf (subR f R row) i=vf row i-f*vf R i:=by
 refine vf_at ?_;unfold subR;rw [List.getElem?_zipWith,vf_get h,vf_get (by rw [hl];exact h)]
def preStep (M:List (List Rat)) (r p k:Nat):List (List Rat):=(M.set p (M.getD r [])).set r (divR (vf (M.getD p []) k) (M.getD p []))
def colStep (M:List (List Rat)) (r p k:Nat):List (List Rat):=(preStep M r p k).mapIdx fun i row=>if i=r then row else subR (vf row k) (divR (vf (M.getD p []) k) (M.getD p [])) row
theorem preStep_len (M:List (List Rat)) (r p k:Nat):(preStep M r p k).length=M.length:=by unfold preStep;rw [zU_,zU_]
theorem colStep_len (M:List (List Rat)) (r p k:Nat):(colStep M r p k).length=M.length:=by unfold colStep;rw [List.length_mapIdx,preStep_len]
section
variable {M:List (List Rat)} {N r p k:Nat} {Rp Rr:List Rat}
theorem pre_r (hr:M[r]?=some Rr) (hp:M[p]?=some Rp):(preStep M r p k)[r]?=some (divR (vf Rp k) Rp):=by
 unfold preStep;rw [List.getElem?_set_self (by rw [zU_];exact (zB_.1 hr).1),zD_,hp];rfl
theorem pre_p (hr:M[r]?=some Rr) (hp:M[p]?=some Rp) (hrp:r≠p):(preStep M r p k)[p]?=some Rr:=by
 unfold preStep;rw [List.getElem?_set_ne hrp,List.getElem?_set_self (zB_.1 hp).1,zD_,hr];rfl
theorem pre_off {i:Nat} (h1:i≠r) (h2:i≠p):(preStep M r p k)[i]?=M[i]?:=by
 unfold preStep;rw [List.getElem?_set_ne (fun e=>h1 e.symm),List.getElem?_set_ne (fun e=>h2 e.symm)]
theorem pre_src {i:Nat} {a:List Rat} (hr:M[r]?=some Rr) (hp:M[p]?=some Rp) (hi:i≠r) (h:(preStep M r p k)[i]?=some a):∃ s,M[s]?=some a∧s≠p∧(s=i∨(i=p∧s=r)):=by
 by_cases hip:i=p
 ·subst hip
  rw [pre_p hr hp (fun e=>hi e.symm)] at h;injection h with h;subst h;exact ⟨r,hr,fun e=>hi e.symm,.inr ⟨rfl,rfl⟩⟩
 ·rw [pre_off hi hip] at h
  exact ⟨i,h,hip,.inl rfl⟩
theorem col_at {i:Nat} {a':List Rat} (hp:M[p]?=some Rp) (h:(colStep M r p k)[i]?=some a'):∃ a,(preStep M r p k)[i]?=some a∧a'=if i=r then a else subR (vf a k) (divR (vf Rp k) Rp) a:=by
 unfold colStep at h;rw [List.getElem?_mapIdx] at h;obtain ⟨a,ha,he⟩:=Option.map_eq_some_iff.1 h;refine ⟨a,ha,?_⟩;rw [←he];have:M.getD p []=Rp:=by rw [zD_,hp];rfl
 rw [this]
theorem col_get {i:Nat} {a:List Rat} (hp:M[p]?=some Rp) (h:(preStep M r p k)[i]?=some a):(colStep M r p k)[i]?=some (if i=r then a else subR (vf a k) (divR (vf Rp k) Rp) a):=by
 unfold colStep;rw [List.getElem?_mapIdx,h];have:M.getD p []=Rp:=by rw [zD_,hp];rfl
 rw [this];rfl
theorem pre_width (hw:∀ a∈M,a.length=N) (hr:M[r]?=some Rr) (hp:M[p]?=some Rp):∀ a∈preStep M r p k,a.length=N:=by
 intro a ha;obtain ⟨i,hi⟩:=List.mem_iff_getElem?.1 ha
 by_cases hir:i=r
 ·subst hir
  rw [pre_r hr hp] at hi;injection hi with hi;subst hi;rw [divR_len];exact hw _ (zC_ hp)
 ·obtain ⟨s,hs,_⟩:=pre_src hr hp hir hi
  exact hw _ (zC_ hs)
theorem col_width (hw:∀ a∈M,a.length=N) (hr:M[r]?=some Rr) (hp:M[p]?=some Rp):∀ a∈colStep M r p k,a.length=N:=by
 intro a ha;obtain ⟨i,hi⟩:=List.mem_iff_getElem?.1 ha;obtain ⟨b,hb,rfl⟩:=col_at hp hi;have h1:=pre_width (k:=k) hw hr hp b (zC_ hb);have h2:=hw _ (zC_ hp)
 split
 ·exact h1
 ·rw [subR_len (by rw [divR_len,h1,h2]),h1]
theorem divR_dot {n:Nat} {d:Rat} {row:List Rat} (h:n≤row.length) (x:Fn):dotn n (vf (divR d row)) x=(1 / d)*dotn n (vf row) x:=by
 rw [←dotn_mull];exact dotn_congr (fun i hi=>by rw [divR_vf (by omega)];grind) fun _ _=>rfl
theorem subR_dot {n:Nat} {f:Rat} {R row:List Rat} (h:n≤row.length) (hl:R.length=row.length) (x:Fn):dotn n (vf (subR f R row)) x=dotn n (vf row) x+(-f)*dotn n (vf R) x:=by
 rw [←dotn_mull,←dotn_addl];exact dotn_congr (fun i hi=>by rw [subR_vf (by omega) hl];grind) fun _ _=>rfl
theorem col_ker {n:Nat} (hn:n≤N) (hw:∀ a∈M,a.length=N) (hr:M[r]?=some Rr) (hp:M[p]?=some Rp) (hd:vf Rp k≠0) (x:Fn):Ker n (vfs (colStep M r p k)) x↔Ker n (vfs M) x:=by
 have hpl:=hw _ (zC_ hp);rw [ker_iff,ker_iff]
 constructor
 ·intro h
  have hR:dotn n (vf (divR (vf Rp k) Rp)) x=0:=by
   have:=h r _ (col_get hp (pre_r hr hp));rwa [if_pos rfl] at this
  have hP:dotn n (vf Rp) x=0:=by
   rw [divR_dot (by omega)] at hR;generalize vf Rp k=d at *;grind
  intro i a ha
  by_cases hip:i=p
  ·subst hip
   rw [hp] at ha;injection ha with ha;subst ha;exact hP
  ·have hal:=hw _ (zC_ ha)
   have key:∀ s,s≠r→(preStep M r p k)[s]?=some a→dotn n (vf a) x=0:=fun s hs hsa=>by
    have:=h s _ (col_get hp hsa);rw [if_neg hs,subR_dot (by omega) (by rw [divR_len,hpl,hal]),hR,Rat.mul_zero,Rat.add_zero] at this;exact this
   by_cases hir:i=r
   ·subst hir
    rw [hr] at ha;injection ha with ha;subst ha;exact key p (fun e=>hip e.symm) (pre_p hr hp hip)
   ·exact key i hir (by rw [pre_off hir hip];exact ha)
 ·intro h i a' ha'
  have hR:dotn n (vf (divR (vf Rp k) Rp)) x=0:=by rw [divR_dot (by omega),h p Rp hp,Rat.mul_zero]
  obtain ⟨a,ha,rfl⟩:=col_at hp ha'
  by_cases hir:i=r
  ·subst hir
   rw [if_pos rfl];rw [pre_r hr hp] at ha;injection ha with ha;subst ha;exact hR
  ·rw [if_neg hir]
   obtain ⟨s,hs,_⟩:=pre_src hr hp hir ha;have hal:=hw _ (zC_ hs);rw [subR_dot (by omega) (by rw [divR_len,hpl,hal]),h s a hs,hR,Rat.mul_zero,Rat.add_zero]
theorem col_ech {piv:List Nat} (E:Ech (vfs M) piv k) (hw:∀ a∈M,a.length=N) (hk:k<N) (hrl:r=piv.length) (hr:M[r]?=some Rr) (hp:M[p]?=some Rp) (hrp:r≤p) (hd:vf Rp k≠0):Ech (vfs (colStep M r p k)) (piv++[k]) (k+1):=by
 have hpl:=hw _ (zC_ hp);have hRz:∀ j,j<k→vf (divR (vf Rp k) Rp) j=0:=fun j hj=>by
  rw [divR_vf (by omega),E.rest p _ (vfs_get hp) (by omega) j hj];exact Rat.div_def 0 _▸Rat.zero_mul _
 have hR1:vf (divR (vf Rp k) Rp) k=1:=by
  rw [divR_vf (by omega)];generalize vf Rp k=d at *;grind
 have row:∀ i a',(colStep M r p k)[i]?=some a'→i≠r→∃ s a,M[s]?=some a∧(s=i∨(i=p∧s=r))∧vf a' k=0∧∀ j,j<k→vf a' j=vf a j:=fun i a' ha' hir=>by
  obtain ⟨a,ha,rfl⟩:=col_at hp ha';obtain ⟨s,hs,_,h2⟩:=pre_src hr hp hir ha;have hal:=hw _ (zC_ hs);refine ⟨s,a,hs,h2,?_,fun j hj=>?_⟩
  ·rw [if_neg hir,subR_vf (by omega) (by rw [divR_len,hpl,hal]),hR1];grind
  ·rw [if_neg hir,subR_vf (by omega) (by rw [divR_len,hpl,hal]),hRz j hj];grind
 have prow:∀ a',(colStep M r p k)[r]?=some a'→a'=divR (vf Rp k) Rp:=fun a' ha'=>by
  obtain ⟨a,ha,rfl⟩:=col_at hp ha';rw [if_pos rfl];rw [pre_r hr hp] at ha;injection ha with ha;exact ha.symm
 have pv:∀ t q,(piv++[k])[t]?=some q→(t<piv.length∧piv[t]?=some q∧q<k)∨(t=r∧q=k):=fun t q h=>by
  rcases Nat.lt_or_ge t piv.length with hlt | hge
  ·rw [zR_ hlt] at h
   exact .inl ⟨hlt,h,E.lt q (zC_ h)⟩
  ·rw [zN_ hge] at h
   have:t-piv.length=0:=by
    have:=(zB_.1 h).1;simp at this;omega
   rw [this] at h;simp at h;exact .inr ⟨by omega,h.symm⟩
 have hrM:=(zB_.1 hr).1;refine ⟨?_,?_,?_,?_,?_,?_,?_⟩
 ·rw [vfs_len,colStep_len,zE_,List.length_singleton];omega
 ·rw [List.pairwise_append]
  exact ⟨E.inc,List.pairwise_singleton _ _,fun a ha b hb=>by rw [List.mem_singleton.1 hb];exact E.lt a ha⟩
 ·intro q hq
  rcases List.mem_append.1 hq with h | h
  ·have:=E.lt q h;omega
  ·rw [List.mem_singleton.1 h];omega
 ·intro t q f h1 h2
  obtain ⟨a',ha',rfl⟩:=vfs_at h2;rcases pv t q h1 with ⟨hlt,hq,hqk⟩ | ⟨rfl,rfl⟩
  ·obtain ⟨s,a,hs,hsi,_,hj⟩:=row t a' ha' (by omega)
   rw [hj q hqk];rcases hsi with rfl | ⟨e1,e2⟩
   ·exact E.one s q _ hq (vfs_get hs)
   ·omega
  ·rw [prow a' ha'];exact hR1
 ·intro t q i f h1 h2 hit
  obtain ⟨a',ha',rfl⟩:=vfs_at h2;rcases pv t q h1 with ⟨hlt,hq,hqk⟩ | ⟨rfl,rfl⟩
  ·by_cases hir:i=r
   ·subst hir
    rw [prow a' ha'];exact hRz q hqk
   ·obtain ⟨s,a,hs,hsi,_,hj⟩:=row i a' ha' hir
    rw [hj q hqk];refine E.zer t q s _ hq (vfs_get hs) ?_;rcases hsi with rfl | ⟨e1,e2⟩
    ·exact hit
    ·omega
  ·obtain ⟨s,a,_,_,h0,_⟩:=row i a' ha' hit
   exact h0
 ·intro t q f h1 h2 j hj
  obtain ⟨a',ha',rfl⟩:=vfs_at h2;rcases pv t q h1 with ⟨hlt,hq,hqk⟩ | ⟨rfl,rfl⟩
  ·obtain ⟨s,a,hs,hsi,_,hjj⟩:=row t a' ha' (by omega)
   rw [hjj j (by omega)];rcases hsi with rfl | ⟨e1,e2⟩
   ·exact E.low s q _ hq (vfs_get hs) j hj
   ·omega
  ·rw [prow a' ha'];exact hRz j hj
 ·intro i f h2 hi j hj
  obtain ⟨a',ha',rfl⟩:=vfs_at h2;rw [zE_,List.length_singleton] at hi;obtain ⟨s,a,hs,hsi,h0,hjj⟩:=row i a' ha' (by omega)
  by_cases hjk:j=k
  ·subst hjk;exact h0
  ·rw [hjj j (by omega)]
   refine E.rest s _ (vfs_get hs) ?_ j (by omega);rcases hsi with rfl | ⟨e1,e2⟩<;>omega
theorem skip_ech {piv:List Nat} (E:Ech (vfs M) piv k) (h:∀ i a,M[i]?=some a→piv.length≤i→vf a k=0):Ech (vfs M) piv (k+1):=
 ⟨E.le,E.inc,fun p hp=>Nat.lt_succ_of_lt (E.lt p hp),E.one,E.zer,E.low,fun i f hf hi j hj=>by
  obtain ⟨a,ha,rfl⟩:=vfs_at hf
  by_cases hjk:j=k
  ·subst hjk;exact h i a ha hi
  ·exact E.rest i _ (vfs_get ha) hi j (by omega)⟩
theorem full_ech {piv:List Nat} {n:Nat} (E:Ech (vfs M) piv k) (h:piv.length=M.length) (hk:k≤n):Ech (vfs M) piv n:=
 ⟨E.le,E.inc,fun p hp=>zJ_ (E.lt p hp) hk,E.one,E.zer,E.low,fun i f hf hi j hj=>by
  have:=(zB_.1 hf).1;rw [vfs_len] at this;omega⟩
theorem start_ech (M:List (List Rat)):Ech (vfs M) [] 0:=
 ⟨Nat.zero_le _,List.Pairwise.nil,fun p hp=>(by cases hp),fun t p a h=>by simp at h,fun t p i a h=>by simp at h,fun t p a h=>by simp at h,fun i a h hi j hj=>by omega⟩
end
end
section
open Go
def pstep (u:Nat) (m:Int) (s:List Int×List Nat) (x:Nat×Nat):List Int×List Nat:=
 if (x.1=u∨x.2=u)∧s.1.getD (x.1+x.2-u) 0<0 then (s.1.set (x.1+x.2-u) m,s.2++[x.1+x.2-u]) else s
def pscan (u:Nat) (m:Int) (es:List (Nat×Nat)) (s:List Int×List Nat):List Int×List Nat:=es.foldl (pstep u m) s
def pbfs (m:Int) (es:List (Nat×Nat)):Nat→List Int→List Nat→List Int
 | 0,out,_=>out
 | _+1,out,[]=>out
 | f+1,out,u::q=>pbfs m es f (pscan u m es (out,q)).1 (pscan u m es (out,q)).2
def pgo (n:Nat) (es:List (Nat×Nat)):Nat→Nat→List Int×Int→List Int×Int
 | 0,_,s=>s
 | k+1,i,s=>if 0≤s.1.getD i 0 then pgo n es k (i+1) s else pgo n es k (i+1) (pbfs s.2 es (n+1) (s.1.set i s.2) [i],s.2+1)
def partsR (n:Nat) (es:List (Nat×Nat)):List Int:=(pgo n es n 0 (List.replicate n (-1),0)).1
def negs (l:List Int):Nat:=(l.filter (·<0)).length
theorem negs_set:∀ (l:List Int) (i:Nat) (m:Int),0≤m→i<l.length→l.getD i 0<0→negs (l.set i m)+1=negs l
 | [],i,m,_,h,_=>by simp at h
 | x::r,0,m,hm,_,h=>by
  have hx:x<0:=by simpa using h
  have h1:¬m<0:=by omega
  simp [negs,hx,h1]
 | x::r,i+1,m,hm,hl,h=>by
  have ih:=negs_set r i m hm (by simpa using hl) (by simpa using h);unfold negs at ih ⊢;rw [List.set_cons_succ]
  by_cases hx:x<0<;>simp [List.filter_cons,hx]<;>omega
structure Ps (n:Nat) (m:Int) (out:List Int) (q:List Nat):Prop where
 len:out.length=n
 lt:∀ u∈q,u<n
 bd:∀ x∈out,-1≤x∧x≤m
theorem pstep_ok {n u:Nat} {m:Int} {s:List Int×List Nat} {x:Nat×Nat} (hm:0≤m) (hx:x.1<n∧x.2<n) (h:Ps n m s.1 s.2) :
    Ps n m (pstep u m s x).1 (pstep u m s x).2∧(pstep u m s x).2.length+negs (pstep u m s x).1=s.2.length+negs s.1∧s.2.length≤(pstep u m s x).2.length:=by
 unfold pstep
 split
 ·rename_i hc
  have ho:x.1+x.2-u<n:=by omega
  refine ⟨⟨by simp [h.len],fun v hv=>?_,fun y hy=>?_⟩,?_,by simp⟩
  ·rcases List.mem_append.1 hv with hv | hv
   ·exact h.lt v hv
   ·rw [List.mem_singleton.1 hv];exact ho
  ·rcases List.mem_or_eq_of_mem_set hy with hy | rfl
   ·exact h.bd y hy
   ·omega
  ·have:=negs_set s.1 _ m hm (by rw [h.len];exact ho) hc.2
   simp;omega
 ·exact ⟨h,rfl,lR⟩
theorem pscan_ok {n u:Nat} {m:Int} (hm:0≤m):∀ {es:List (Nat×Nat)} {s:List Int×List Nat},(∀ x∈es,x.1<n∧x.2<n)→Ps n m s.1 s.2→
    Ps n m (pscan u m es s).1 (pscan u m es s).2∧(pscan u m es s).2.length+negs (pscan u m es s).1=s.2.length+negs s.1
 | [],s,_,h=>⟨h,rfl⟩
 | x::r,s,hx,h=>by
  have h1:=pstep_ok (u:=u) hm (hx x (List.mem_cons_self ..)) h;have h2:=pscan_ok (u:=u) hm (fun y hy=>hx y (List.mem_cons_of_mem _ hy)) h1.1;exact ⟨h2.1,h2.2.trans h1.2.1⟩
theorem pbfs_ok {n:Nat} {m:Int} (hm:0≤m) {es:List (Nat×Nat)} (hx:∀ x∈es,x.1<n∧x.2<n):∀ (f:Nat) {out:List Int} {q:List Nat},Ps n m out q→(pbfs m es f out q).length=n∧(∀ x∈pbfs m es f out q,-1≤x∧x≤m)
 | 0,out,q,h=>⟨h.len,h.bd⟩
 | f+1,out,[],h=>⟨h.len,h.bd⟩
 | f+1,out,u::q,h=>by
  have h1:Ps n m out q:=⟨h.len,fun v hv=>h.lt v (List.mem_cons_of_mem _ hv),h.bd⟩;exact pbfs_ok hm hx f (pscan_ok (s:=(out,q)) hm hx h1).1
theorem negs_le (l:List Int):negs l≤l.length:=List.length_filter_le _ _
theorem pstep_keep {u:Nat} {m:Int} (hm:0≤m) (s:List Int×List Nat) (x:Nat×Nat) {j:Nat} (h:0≤s.1.getD j 0):0≤(pstep u m s x).1.getD j 0:=by
 unfold pstep
 split
 ·simp only [zD_] at h ⊢
  rw [List.getElem?_set]
  split
  ·split
   ·simpa using hm
   ·simp
  ·exact h
 ·exact h
theorem pscan_keep {u:Nat} {m:Int} (hm:0≤m):∀ (es:List (Nat×Nat)) (s:List Int×List Nat) {j:Nat},0≤s.1.getD j 0→0≤(pscan u m es s).1.getD j 0
 | [],s,j,h=>h
 | x::r,s,j,h=>pscan_keep hm r (pstep u m s x) (pstep_keep hm s x h)
theorem pbfs_keep {m:Int} (hm:0≤m) (es:List (Nat×Nat)):∀ (f:Nat) (out:List Int) (q:List Nat) {j:Nat},0≤out.getD j 0→0≤(pbfs m es f out q).getD j 0
 | 0,out,q,j,h=>h
 | f+1,out,[],j,h=>h
 | f+1,out,u::q,j,h=>pbfs_keep hm es f _ _ (pscan_keep hm es (out,q) h)
theorem pgo_ok {n:Nat} {es:List (Nat×Nat)} (hx:∀ x∈es,x.1<n∧x.2<n):∀ (k i:Nat) (s:List Int×Int),s.1.length=n→i+k=n→(∀ x∈s.1,-1≤x∧x<s.2)→0≤s.2→s.2≤i→(∀ j,j<i→0≤s.1.getD j 0)→
    (pgo n es k i s).1.length=n∧(∀ x∈(pgo n es k i s).1,-1≤x∧x<n)∧∀ j,j<n→0≤(pgo n es k i s).1.getD j 0
 | 0,i,s,hl,hi,hb,h0,h1,hj=>by
  refine ⟨hl,fun x hx=>?_,fun j h=>hj j (by omega)⟩;have:=hb x hx;omega
 | k+1,i,s,hl,hi,hb,h0,h1,hj=>by
  unfold pgo
  split
  ·rename_i hz
   exact pgo_ok hx k (i+1) s hl (by omega) hb h0 (by omega) (fun j h=>by
    by_cases hji:j=i
    ·subst hji;exact hz
    ·exact hj j (by omega))
  ·rename_i hz
   have hin:i<s.1.length:=by omega
   have hps:Ps n s.2 (s.1.set i s.2) [i]:=⟨by simp [hl],fun v hv=>(by rw [List.mem_singleton.1 hv];omega),fun x hx=>by
    rcases List.mem_or_eq_of_mem_set hx with hx | rfl
    ·have:=hb x hx;omega
    ·omega⟩
   have h2:=pbfs_ok h0 hx (n+1) hps;refine pgo_ok hx k (i+1) _ h2.1 (by omega) (fun x hx=>(by have:=h2.2 x hx;show _∧_<s.2+1;omega)) (by show 0≤s.2+1;omega) (by show s.2+1≤_;omega) (fun j h=>?_);refine pbfs_keep h0 es _ _ _ ?_;rw [zD_,List.getElem?_set]
   by_cases hji:i=j
   ·subst hji
    rw [if_pos rfl,if_pos hin];exact h0
   ·rw [if_neg hji,←zD_]
    exact hj j (by omega)
theorem parts_ok {n:Nat} {es:List (Nat×Nat)} (hx:∀ x∈es,x.1<n∧x.2<n):(partsR n es).length=n∧∀ x∈partsR n es,0≤x∧x<n:=by
 obtain ⟨h1,h2,h3⟩:=pgo_ok hx n 0 (List.replicate n (-1),0) (by simp) (by omega) (fun x hx=>(by rw [List.eq_of_mem_replicate hx];exact ⟨by omega,show (-1:Int)<0 by omega⟩)) (by show (0:Int)≤0;omega) (by show (0:Int)≤_;omega) (fun j h=>by omega);refine ⟨h1,fun x hx=>?_⟩;have h4:=h2 x hx;obtain ⟨j,hj⟩:=List.mem_iff_getElem?.1 hx;have hjl:=(zB_.1 hj).1;have h5:=h3 j (by unfold partsR at hjl;omega);rw [zD_,show (pgo n es n 0 (List.replicate n (-1),0)).1[j]?=some x from hj] at h5;exact ⟨h5,h4.2⟩
def topR (l:List Int):Int:=l.foldl (fun a b=>max a (b+1)) 0
theorem foldl_max (l:List Int):∀ a:Int,a≤l.foldl (fun a b=>max a (b+1)) a∧(∀ b∈l,b<l.foldl (fun a b=>max a (b+1)) a)∧∀ c,a≤c→(∀ b∈l,b<c)→l.foldl (fun a b=>max a (b+1)) a≤c:=by
 induction l with
 | nil=>intro a;exact ⟨Int.le_refl _,fun _ h=>(by cases h),fun c h _=>h⟩
 | cons x r ih=>
  intro a;obtain ⟨h1,h2,h3⟩:=ih (max a (x+1));rw [List.foldl_cons];refine ⟨by omega,fun b hb=>?_,fun c hc hb=>h3 c ?_ (fun b h=>hb b (List.mem_cons_of_mem _ h))⟩
  ·rcases List.mem_cons.1 hb with rfl | hb
   ·omega
   ·exact h2 b hb
  ·have:=hb x (List.mem_cons_self ..);omega
theorem topR_ok (l:List Int):0≤topR l∧(∀ b∈l,b<topR l)∧∀ c,0≤c→(∀ b∈l,b<c)→topR l≤c:=foldl_max l 0
end
section
open Go.ChangeShapes Go.WideShapes Go.ChangeAt Go.RowKit Go.Deep
structure Qu (w:World) (base:Nat) (v:Value) (xs:List Value):Prop where
 ex:∃ g off cap,v=.slice (some ⟨g,off,none⟩) xs.length cap∧base≤g∧g<w.heap.size∧xs.length≤cap∧cap≤maxLen∧(∀ j,j<cap→(w.cell? ⟨g,off+j,none⟩).isSome=true∧w.frozen? ⟨g,off+j,none⟩=false)∧∀ (j:Nat) (u:Value),xs[j]?=some u→w.cell? ⟨g,off+j,none⟩=some u
theorem Qu.up {w w':World} {base:Nat} {v:Value} {xs:List Value} (h:Qu w base v xs) (hb:Below w.heap.size w w'):Qu w' base v xs:=by
 obtain ⟨g,off,cap,h1,h2,h3,h4,h5,h6,h7⟩:=h.ex;exact ⟨g,off,cap,h1,h2,zJ_ h3 hb.size,h4,h5,fun j hj=>by rw [hb.cell h3,hb.frozen h3];exact h6 j hj,fun j u hu=>by rw [hb.cell h3];exact h7 j u hu⟩
theorem Qu.tail {w:World} {base g off n cap:Nat} {x:Value} {xs:List Value} (h:Qu w base (.slice (some ⟨g,off,none⟩) n cap) (x::xs)):Qu w base (.slice (if cap=1 then some ⟨g,off,none⟩ else some ⟨g,off+1,none⟩) (n-1) (cap-1)) xs:=by
 obtain ⟨g',off',cap',h1,h2,h3,h4,h5,h6,h7⟩:=h.ex;injection h1 with e1 e2 e3;injection e1 with e1;injection e1 with e4 e5;subst e2;subst e3;subst e4;subst e5;simp only [zV_,Nat.add_sub_cancel] at h4 ⊢
 by_cases hc:cap=1
 ·have hx:xs.length=0:=by omega
  rw [if_pos hc];refine ⟨g,off,cap-1,rfl,h2,h3,by omega,by omega,fun j hj=>by omega,fun j u hu=>?_⟩;have:=(zB_.1 hu).1;omega
 ·rw [if_neg hc]
  refine ⟨g,off+1,cap-1,rfl,h2,h3,by omega,by omega,fun j hj=>?_,fun j u hu=>?_⟩
  ·rw [Nat.add_assoc,Nat.add_comm 1 j];exact h6 (j+1) (by omega)
  ·rw [Nat.add_assoc,Nat.add_comm 1 j];exact h7 (j+1) u (by simpa using hu)
theorem run_append_q {P:Program} (w:World) (base:Nat) (t ty e:TypeId) (i:TypeInfo) (z:Value) (ht:P.underlying t=some (.slice e)) (hi:P.info? e=some i) (hz:i.zero=some z) (hsize:i.size=1) (hby:i.bytes≤16) (hzs:z.cells.size=1)
    (v:Value) (xs:List Value) (h:Qu w base v xs) (a:Addr) (c:Nat) (u:Value) (hu:w.cell? a=some u) (h1:u.oneCell'=true) (ha:a.spot=none) (hlen:xs.length≤1000000) (hbase:base≤w.heap.size) :
    ∃ v' w',(Builtin.append_ #[t,t] ty #[v,.slice (some a) 1 c]).run P w=.ok v' w'∧Qu w' base v' (xs++[u])∧Below base w w'∧∀ g off n cap,v=.slice (some ⟨g,off,none⟩) n cap→w.grownBy w' (some g):=by
 obtain ⟨g,off,cap,rfl,h2,h3,h4,h5,h6,h7⟩:=h.ex;have hnews:∀ (j:Nat) (x:Value),([u]:List Value)[j]?=some x→w.cell? (a.add j)=some x:=fun j x hx=>by
  have hj:j=0:=by have:=(zB_.1 hx).1;simpa using this
  subst hj;simp at hx;subst hx;obtain ⟨ab,ao,asp⟩:=a;simp only at ha;subst ha;rw [Addr.add_lit,Nat.add_zero];exact hu
 have hsrc:Src P i.size t (.slice (some a) 1 c) 1 [u] w:=Src.ofSlice w ht a 1 c [u] (by rw [hsize];rfl) hnews (fun x hx=>by rw [List.mem_singleton.1 hx];exact h1)
 by_cases hroom:xs.length+1≤cap
 ·have hr:=run_append_room_src (P:=P) w t t ty e i ht hi g off xs.length cap _ 1 [u] hsrc hroom
   (fun j hj=>by
    have hj0:j=0:=by simpa using hj
    subst hj0;rw [hsize,Nat.mul_one,Nat.add_zero];exact (h6 xs.length (by omega)).1)
   (fun j hj=>by
    have hj0:j=0:=by simpa using hj
    subst hj0;rw [hsize,Nat.mul_one,Nat.add_zero];exact (h6 xs.length (by omega)).2)
  rw [hsize,Nat.mul_one] at hr;have hin:=World.cell?_setCells_in g [u] (off+xs.length) w (fun j hj=>by
   have hj0:j=0:=by simpa using hj
   subst hj0;rw [Nat.add_zero];exact (h6 xs.length (by omega)).1) 0 (by simp)
  rw [Nat.add_zero] at hin;have hb:Below base w (w.setCells g (off+xs.length) [u]):=(Below.refl base w).setCell (p:=⟨g,off+xs.length,none⟩) h2 u;have hcell:∀ j,j≠xs.length→(w.setCells g (off+xs.length) [u]).cell? ⟨g,off+j,none⟩=w.cell? ⟨g,off+j,none⟩:=fun j hj=>World.cell?_setCells_out g [u] (off+xs.length) w _ (fun _ _=>by simp only [List.length_singleton];omega);refine ⟨_,_,hr,⟨g,off,cap,by rw [zE_];rfl,h2,zJ_ h3 hb.size,by rw [zE_];simpa using hroom,h5,fun j hj=>⟨?_,?_⟩,fun j x hx=>?_⟩,hb,?_⟩
  ·by_cases hje:j=xs.length
   ·subst hje;rw [hin];rfl
   ·rw [hcell j hje];exact (h6 j hj).1
  ·rw [World.frozen?_setCells];exact (h6 j hj).2
  ·by_cases hje:j=xs.length
   ·subst hje
    rw [hin];simp at hx;rw [←hx];rfl
   ·have hl:j<xs.length:=by have:=(zB_.1 hx).1;rw [zE_,List.length_singleton] at this;omega
    rw [hcell j hje];rw [zR_ hl] at hx;exact h7 j x hx
  ·intro g' off' n' cap' e
   injection e with e _ _;injection e with e;injection e with e _;subst e;exact only_setCell (p:=⟨g,off+xs.length,none⟩) (World.grownBy.refl w (some g)) (.inl rfl) u
 ·have hold:(Builtin.firstCells i.size xs.length (.slice (some ⟨g,off,none⟩) xs.length cap)).run P w.drew=.ok xs.toArray w.drew:=
   run_firstCells_some w.drew i.size xs.length ⟨g,off,none⟩ xs.length cap xs (by rw [hsize,Nat.mul_one]) (fun j x hx=>by rw [Addr.add_lit];exact h7 j x hx)
  have hr:=run_append_grow_src (P:=P) w t t ty e i z ht hi hz (some ⟨g,off,none⟩) xs.length cap xs hold _ 1 [u] hsrc (by omega) (by omega)
   (growslice_fits_wide (by omega) (zI_ (Nat.mul_le_mul_left _ hby) (by omega)))
  have hge:=grownCap_ge w (xs.length+1) cap e;have hcm:grownCap w (xs.length+1) cap e≤maxLen:=grownCap_le_maxLen w (xs.length+1) cap e (by simp only [maxLen];omega);generalize grownCap w (xs.length+1) cap e=gc at *;have hblk:=Blk.new w.drew e ((xs++[u]).toArray++Builtin.zeroCells z.cells (gc-(xs.length+1)));have hsz:((xs++[u]).toArray++Builtin.zeroCells z.cells (gc-(xs.length+1))).size=gc:=by
   rw [Array.size_append,size_zeroCells,hzs];simp only [List.size_toArray,zE_,List.length_singleton];omega
  have hb:Below base w (w.drew.alloc (.cells ((xs++[u]).toArray++Builtin.zeroCells z.cells (gc-(xs.length+1))) e)):=(below_drewN (Below.refl base w) 1).alloc hbase _;refine ⟨_,_,hr,⟨w.heap.size,0,gc,by rw [zE_];rfl,hbase,by simp,by rw [zE_];simpa using hge,hcm,fun j hj=>?_,fun j x hx=>?_⟩,hb,fun g' _ _ _ _=>only_alloc (only_drewN (World.grownBy.refl w (some g')) 1) _⟩
  ·rw [Nat.zero_add]
   refine ⟨?_,hblk.frozen j⟩;have:=hblk.cell j;rw [show w.drew.heap.size=w.heap.size from rfl] at this;rw [this,Array.getElem?_eq_getElem (by omega)];rfl
  ·rw [Nat.zero_add]
   have:=hblk.cell j;rw [show w.drew.heap.size=w.heap.size from rfl] at this;have hl:=(zB_.1 hx).1;rw [this,Array.getElem?_append_left (by simpa using hl)];simpa using hx
theorem wpList_append_q {P:Program} (w:World) {ops:Array Oper} {rest:List Oper} {o:Oper} {a:Act} {Q:Exit→Act→World→Prop} (hgd:o.guard=none) (s x:Operand) (t:TypeId)
    (ho:o.op=.call { callee:=.builtin .append,args:=#[s,x],argTypes:=#[t,t] })
    (base:Nat) (e:TypeId) (i:TypeInfo) (z:Value) (ht:P.underlying t=some (.slice e)) (hi:P.info? e=some i) (hz:i.zero=some z) (hsize:i.size=1) (hby:i.bytes≤16) (hzs:z.cells.size=1)
    (v:Value) (xs:List Value) (hs:a.eval s=v) (h:Qu w base v xs) (ad:Addr) (c:Nat) (u:Value) (hx:a.eval x=.slice (some ad) 1 c) (hu:w.cell? ad=some u) (h1:u.oneCell'=true) (ha:ad.spot=none) (hlen:xs.length≤1000000) (hbase:base≤w.heap.size)
    (hk:∀ v' w',Qu w' base v' (xs++[u])→Below base w w'→wpList P ops Q rest (a.put o.dst v') w'):wpList P ops Q (o::rest) a w:=by
 obtain ⟨v',w',hr,h2,h3,_⟩:=run_append_q (P:=P) w base t o.type e i z ht hi hz hsize hby hzs v xs h ad c u hu h1 ha hlen hbase;refine wpList_plain hgd fun _ hK=>?_;unfold Oper.wp execOp;simp only [ho,resolve,invoke,builtin,Sem.run_bind,Sem.run_pure,Result.andThen_ok,List.map_toArray,List.map_cons,List.map_nil,hs,hx,hr];exact hK _ _ (hk v' w' h2 h3)
end
section
def pivR (M:List (List Rat)) (r k:Nat):Nat:=r+(M.drop r).findIdx fun row=>vf row k != 0
def redGo:Nat→List (List Rat)→List Nat→Nat→List (List Rat)×List Nat
 | 0,M,piv,_=>(M,piv)
 | s+1,M,piv,k=>if piv.length<M.length then (if pivR M piv.length k=M.length then redGo s M piv (k+1) else redGo s (colStep M piv.length (pivR M piv.length k) k) (piv++[k]) (k+1)) else (M,piv)
def redR (M:List (List Rat)) (cols:Nat):List (List Rat)×List Nat:=redGo cols M [] 0
def widthR (M:List (List Rat)):Nat:=match M with | []=>0 | a::_=>a.length
def rankR (M:List (List Rat)):Nat:=(redR M (widthR M)).2.length
theorem pivR_le {M:List (List Rat)} {r k:Nat} (h:r≤M.length):r≤pivR M r k∧pivR M r k≤M.length:=by
 unfold pivR;have h1:(M.drop r).findIdx (fun row=>vf row k != 0)≤(M.drop r).length:=List.findIdx_le_length;rw [zS_] at h1;omega
theorem pivR_none {M:List (List Rat)} {r k:Nat} (h:r≤M.length) (hp:pivR M r k=M.length):∀ (i:Nat) (a:List Rat),M[i]?=some a→r≤i→vf a k=0:=by
 intro i a hi hri;have hlt:=(zB_.1 hi).1;have h2:(M.drop r).findIdx (fun row=>vf row k != 0)=(M.drop r).length:=by unfold pivR at hp;rw [zS_];omega
 have h3:=List.findIdx_eq_length.1 h2 a (zC_ (i:=i-r) (by rw [List.getElem?_drop];rw [show r+(i-r)=i from by omega];exact hi));simpa using h3
theorem pivR_some {M:List (List Rat)} {r k:Nat} (h:r≤M.length) (hp:pivR M r k≠M.length):∃ a,M[pivR M r k]?=some a∧vf a k≠0:=by
 have h1:=pivR_le (k:=k) h;have h2:(M.drop r).findIdx (fun row=>vf row k != 0)<(M.drop r).length:=by
  have:(M.drop r).findIdx (fun row=>vf row k != 0)≤(M.drop r).length:=List.findIdx_le_length;rw [zS_] at *;unfold pivR at *;omega
 have h3:=List.findIdx_getElem (p:=fun row=>vf row k != 0) (xs:=M.drop r) (w:=h2);refine ⟨_,zA_ (by omega),?_⟩;rw [List.getElem_drop] at h3;simpa [pivR] using h3
theorem pivR_before {M:List (List Rat)} {r k i:Nat} {a:List Rat} (hi:M[i]?=some a) (h1:r≤i) (h2:i<pivR M r k):vf a k=0:=by
 have h3:=List.not_of_lt_findIdx (p:=fun row=>vf row k != 0) (xs:=M.drop r) (i:=i-r) (by unfold pivR at h2;omega);have hlt:=(zB_.1 hi).1;rw [List.getElem_drop] at h3;have:M[r+(i-r)]'(by omega)=a:=by
  have e:r+(i-r)=i:=by omega
  have:=(zB_.1 hi).2;simp only [e];exact this
 rw [this] at h3;simpa using h3
theorem pivR_at {M:List (List Rat)} {r k p:Nat} {a:List Rat} (hr:r≤p) (hp:M[p]?=some a) (ha:vf a k≠0) (hb:∀ (i:Nat) (b:List Rat),M[i]?=some b→r≤i→i<p→vf b k=0):pivR M r k=p:=by
 have hlt:=(zB_.1 hp).1;have h1:=pivR_le (M:=M) (r:=r) (k:=k) (by omega);rcases Nat.lt_trichotomy (pivR M r k) p with h | h | h
 ·obtain ⟨b,hb1,hb2⟩:=pivR_some (M:=M) (r:=r) (k:=k) (by omega) (by omega)
  exact absurd (hb _ b hb1 h1.1 h) hb2
 ·exact h
 ·exact absurd (pivR_before hp hr h) ha
theorem pivR_end {M:List (List Rat)} {r k:Nat} (hr:r≤M.length) (hb:∀ (i:Nat) (b:List Rat),M[i]?=some b→r≤i→vf b k=0):pivR M r k=M.length:=by
 refine Classical.byContradiction fun h=>?_;obtain ⟨a,h1,h2⟩:=pivR_some hr h;exact h2 (hb _ a h1 (pivR_le hr).1)
structure RedOk (M0 M:List (List Rat)) (N:Nat) (piv:List Nat) (k:Nat):Prop where
 ech:Ech (vfs M) piv k
 wid:∀ a∈M,a.length=N
 ker:∀ n,n≤N→∀ x,Ker n (vfs M) x↔Ker n (vfs M0) x
 len:M.length=M0.length
theorem redOk_start {M:List (List Rat)} {N:Nat} (h:∀ a∈M,a.length=N):RedOk M M N [] 0:=⟨start_ech M,h,fun _ _ _=>Iff.rfl,rfl⟩
theorem RedOk.skip {M0 M:List (List Rat)} {N k:Nat} {piv:List Nat} (h:RedOk M0 M N piv k) (hp:pivR M piv.length k=M.length):RedOk M0 M N piv (k+1):=
 ⟨skip_ech h.ech (pivR_none (by have:=h.ech.le;rwa [vfs_len] at this) hp),h.wid,h.ker,h.len⟩
theorem RedOk.step {M0 M:List (List Rat)} {N k:Nat} {piv:List Nat} (h:RedOk M0 M N piv k) (hk:k<N) (hl:piv.length<M.length) (hp:pivR M piv.length k≠M.length):RedOk M0 (colStep M piv.length (pivR M piv.length k) k) N (piv++[k]) (k+1):=by
 obtain ⟨Rp,hRp,hd⟩:=pivR_some (zQ_ hl) hp;obtain ⟨Rr,hRr⟩:∃ Rr,M[piv.length]?=some Rr:=⟨_,zA_ hl⟩;have h1:=pivR_le (M:=M) (k:=k) (zQ_ hl);exact ⟨col_ech h.ech h.wid hk rfl hRr hRp h1.1 hd,col_width h.wid hRr hRp,fun n hn x=>(col_ker hn h.wid hRr hRp hd x).trans (h.ker n hn x),(colStep_len ..).trans h.len⟩
theorem RedOk.full {M0 M:List (List Rat)} {N k n:Nat} {piv:List Nat} (h:RedOk M0 M N piv k) (hl:¬piv.length<M.length) (hk:k≤n):RedOk M0 M N piv n:=
 ⟨full_ech h.ech (by have:=h.ech.le;rw [vfs_len] at this;omega) hk,h.wid,h.ker,h.len⟩
theorem redGo_ok:∀ (s:Nat) {M0 M:List (List Rat)} {N k:Nat} {piv:List Nat},RedOk M0 M N piv k→k+s≤N→RedOk M0 (redGo s M piv k).1 N (redGo s M piv k).2 (k+s)
 | 0,_,_,_,_,_,h,_=>h
 | s+1,M0,M,N,k,piv,h,hk=>by
  unfold redGo
  by_cases hl:piv.length<M.length
  ·rw [if_pos hl]
   by_cases hp:pivR M piv.length k=M.length
   ·rw [if_pos hp]
    have:=redGo_ok s (h.skip hp) (by omega);rwa [show k+1+s=k+(s+1) from by omega] at this
   ·rw [if_neg hp]
    have:=redGo_ok s (h.step (by omega) hl hp) (by omega);rwa [show k+1+s=k+(s+1) from by omega] at this
  ·rw [if_neg hl]
   exact h.full hl (by omega)
theorem redR_ok {M:List (List Rat)} {N cols:Nat} (h:∀ a∈M,a.length=N) (hc:cols≤N):RedOk M (redR M cols).1 N (redR M cols).2 cols:=by
 have:=redGo_ok cols (redOk_start h) (by omega);rwa [Nat.zero_add] at this
end
end Go.Proofs.YthgdchffeigkbaaGreatDoor
