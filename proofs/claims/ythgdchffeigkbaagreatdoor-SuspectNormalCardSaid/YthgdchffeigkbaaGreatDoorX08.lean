import Derived.Test.YthgdchffeigkbaaGreatDoorX06
import Derived.Test.YthgdchffeigkbaaGreatDoorX07
import Derived.Lib.ParseIntB
import Derived.Deep.AppendSrc
import Derived.Deep.Upon
import Derived.Deep.DeepAppendWide
set_option linter.unusedVariables false
set_option linter.unusedSimpArgs false
namespace Go.Proofs.YthgdchffeigkbaaGreatDoor
section
def pv:List Nat->Nat
 | []=>0
 | x::r=>x+1000000000*pv r
def aFx (ps:List Nat):Prop:=∀ x∈ps,x<1000000000
theorem XD:∀ (ps:List Nat) (r:Nat),pv (ps++[r])=pv ps+r*1000000000^ps.length
 | [],r=>by simp [pv]
 | x::t,r=>by
  rw [List.cons_append,pv,XD t r,pv,E_,Nat.pow_succ];grind
theorem Z9 {ps:List Nat} {r:Nat} (h:aFx ps) (hr:r<1000000000):aFx (ps++[r]):=fun x hx=>(List.mem_append.1 hx).elim (h x) fun h=>by rw [List.mem_singleton.1 h];exact hr
theorem XE {ps:List Nat} {k x:Nat} (h:ps[k]?=some x):pv (ps.drop k)=x+1000000000*pv (ps.drop (k+1)):=by
 obtain ⟨hl,he⟩:=dP.1 h;rw [List.drop_eq_getElem_cons hl,he,pv]
def RV (ps:List Nat):Prop:=∀ x,ps.getLast?=some x->0<x
theorem aC4:∀ {ps:List Nat},RV ps->ps≠[]->0<pv ps
 | [x],h,_=>by
  have:=h x rfl;simp only [pv];omega
 | x::y::r,h,_=>by
  have:=aC4 (ps:=y::r) (fun z hz=>h z (by rw [List.getLast?_cons_cons];exact hz)) (by simp);rw [pv];omega
theorem TS {ps:List Nat} (h:RV ps) {k:Nat} (hk:k<ps.length):0<pv (ps.drop k):=by
 refine aC4 (fun x hx=>h x ?_) (fun e=>by have:=congrArg List.length e;rw [EI] at this;simp at this;omega);rw [List.getLast?_drop,if_neg (by omega)] at hx;exact hx
def Dg (ps:List Nat) (k:Nat):List UInt8:=if k<ps.length then Lib.decDigits (pv (ps.drop k)) else []
theorem aE9 (ps:List Nat):Dg ps ps.length=[]:=by unfold Dg;rw [if_neg (Nat.lt_irrefl _)]
theorem aMv {ps:List Nat} {k x:Nat} (h:ps[k]?=some x) (hk:k+1=ps.length):Dg ps k=Lib.decDigits x:=by
 unfold Dg;rw [if_pos (by omega),XE h,List.drop_eq_nil_of_le (by omega),pv,Nat.mul_zero,Nat.add_zero]
theorem aMw {ps:List Nat} {k x:Nat} (h:ps[k]?=some x) (hk:k+1<ps.length) (pY:aFx ps) (ht:RV ps):Dg ps k=Dg ps (k+1)++List.replicate (9-(Lib.decDigits x).length) 48++Lib.decDigits x:=by
 unfold Dg;have hx:=pY x (cO h);have hp:=TS ht hk;rw [if_pos (by omega),if_pos hk,XE h,Nat.add_comm x,Nat.mul_comm,show 1000000000=10^9 from rfl,LN 9 _ x hp hx,GW 9 x (by decide) hx,List.append_assoc]
theorem aMy {ps:List Nat} (h:ps≠[]):Dg ps 0=Lib.decDigits (pv ps):=by
 unfold Dg;rw [if_pos (List.length_pos_iff.2 h),List.drop_zero]
theorem aMx {ps:List Nat} {k x:Nat} (h:ps[k]?=some x) (pY:aFx ps):1<=(Lib.decDigits x).length/\(Lib.decDigits x).length<=9:=
 ⟨nH x,Q_ (by decide) (pY x (cO h))⟩
theorem xT {a b:Nat} (h:a<=b):10^a<=10^b:=Nat.pow_le_pow_right (by decide) h
theorem aQK:10^2000<=BB 210:=by unfold BB;decide+kernel
theorem aQL:BB 210<=1000000000^225:=by unfold BB;decide+kernel
theorem UI {n:Nat} (h:210<dK n):2000<xI n:=by
 have h0:n≠0:=fun e=>by rw [e,hO] at h;omega
 have h1:=aHV h0;have h2:BB 210<=n:=cV (SI (by omega)) h1;refine Nat.lt_of_not_le fun K5=>?_;have h3:=aDH n;have h4:=xT K5;have h5:=aQK;omega
theorem aAN {v g L:Nat} (hv:dK v<=210) (hg:0<g) (h:g*1000000000^L<=v):L<225:=by
 have h1:=m9 v;have h2:v<1000000000^225:=jO h1 (cV (SI hv) aQL);have h3:1*1000000000^L<=g*1000000000^L:=Nat.mul_le_mul_right _ hg;exact (Nat.pow_lt_pow_iff_right (a:=1000000000) (by decide)).1 (by omega)
def jD (z:Int):List UInt8:=(if z<0 then [45] else [])++Lib.decDigits z.natAbs
def jM (l:List UInt8):Prop:=∀ c∈l,NR c
theorem jM.take {l:List UInt8} (h:jM l) (n:Nat):jM (l.take n):=fun c hc=>h c (List.mem_of_mem_take hc)
theorem jM.drop {l:List UInt8} (h:jM l) (n:Nat):jM (l.drop n):=fun c hc=>h c (List.mem_of_mem_drop hc)
theorem puM:∀ (l:List UInt8) (mx acc:Nat),jM l->mx<=4294967295->dvg acc l<=mx->Lib.parseUintM mx acc l=.ok (dvg acc l)
 | [],mx,acc,_,_,_=>rfl
 | c::r,mx,acc,h,h4,hm=>by
  have hc:=h c (List.mem_cons_self ..);have hr:jM r:=fun x hx=>h x (List.mem_cons_of_mem _ hx);have e:dvg acc (c::r)=dvg (acc*10+(c.toNat-48)) r:=rfl;rw [e] at hm ⊢;have K5:acc*10+(c.toNat-48)<=dvg (acc*10+(c.toNat-48)) r:=by
   rw [AI];have:1<=10^r.length:=Nat.one_le_pow _ _ (by decide);have:=Nat.mul_le_mul_left (acc*10+(c.toNat-48)) this;omega
  have ih:=puM r mx _ hr h4 hm;unfold Lib.parseUintM;rw [if_pos (show 48<=c.toNat/\c.toNat<=57 from hc),if_neg (by omega),if_neg (by omega)];exact ih
theorem aT4 {l:List UInt8} (h:jM l) (h0:l≠[]) (h9:l.length<=9):Lib.parseUintB 32 l=.ok (dv l):=by
 unfold Lib.parseUintB;rw [if_neg h0];refine puM l _ 0 h (by decide) ?_;have h1:=G3 h;have h2:10^l.length<=10^9:=Nat.pow_le_pow_right (by decide) h9;show dv l<=_;omega
theorem aIG (l m:List UInt8) (h:l=[]\/m.length=9):dv (l++m)=dv l*1000000000+dv m:=by
 rw [wF];rcases h with rfl | h
 ·simp [dv,dvg]
 ·rw [h]
theorem NB {l:List UInt8} (h:jM l):dK (dv l)<=l.length:=by
 refine jV (jO (G3 h) ?_);exact Nat.pow_le_pow_left (by decide) _
end
section
open Go.ChangeShapes Go.WideShapes Go.ChangeAt Go.RowKit
section
variable {P:Program}
end
theorem aDf {w w':Wo} {base e size n:Nat} {v:Value} {xs:List Value} (h:w.ownsRow base e size v n xs) (hb:Below w.heap.size w w'):w'.ownsRow base e size v n xs:=by
 refine ⟨h.1,?_⟩;rcases h.2 with h1 | ⟨g,cap,cur,h1,h2,h3,h4⟩
 ·exact .inl h1
 ·refine .inr ⟨g,cap,cur,h1,h2,?_,h4⟩
  exact (hb.block g (Array.getElem?_eq_some_iff.1 h3).1).trans h3
theorem aDe (w:Wo) (base e size:Nat):w.ownsRow base e size (.slice none 0 0) 0 []:=⟨by simp,.inl ⟨rfl,rfl⟩⟩
theorem sL {w:Wo} {base e size n:Nat} {v:Value} {xs:List Value} (h:w.ownsRow base e size v n xs):∃ A c,v=.slice A n c/\Rd w w.heap.size size A n xs/\n<=c/\c<=maxLen/\(0<n->∃ b off,A=some ⟨b,off,none⟩/\base<=b):=by
 have hl:=h.1;rcases h.2 with ⟨h1,h2⟩ | ⟨g,cap,cur,h1,h2,h3,h4,h5,h6,h7⟩
 ·subst h2
  exact ⟨none,0,h1,⟨hl,fun h=>by omega⟩,lR,by simp [maxLen],fun h=>by omega⟩
 ·refine ⟨some ⟨g,0,none⟩,cap,h1,⟨hl,fun _=>⟨g,0,rfl,(Array.getElem?_eq_some_iff.1 h3).1,fun j u hu=>?_⟩⟩,h4,h5,fun _=>⟨g,0,rfl,h2⟩⟩
  have hb:aG w g e cur:=h3;rw [Nat.zero_add,hb.cell j];rw [<-h7] at hu;have hj:=(dP.1 hu).1;rw [jP] at hj;rw [List.getElem?_take_of_lt (by omega)] at hu;simpa using hu
def bJ (S:Value->Prop) (w:Wo) (base:Nat) (e:TypeId) (size:Nat) (v:Value) (n:Nat) (xs:List Value):Prop:=
 xs.length=n*size/\((v=.slice none 0 0/\n=0)\/∃ g cap cur,v=.slice (some ⟨g,0,none⟩) n cap/\base<=g/\aG w g e cur/\n<=cap/\cap<=maxLen/\cur.size=cap*size/\cur.toList.take (n*size)=xs/\∀ u∈cur.toList,S u)
structure dY (S:Value->Prop) (base:Nat) (e:TypeId) (w w':Wo):Prop where
 low:Below base w w'
 size:w.heap.size<=w'.heap.size
 cell:∀ p u,w.cell? p=some u->¬S u->w'.cell? p=some u
 blk:∀ b t cs,aG w b t cs->t≠e->aG w' b t cs
section
variable {S:Value->Prop} {w w':Wo} {base e size n:Nat} {v:Value} {xs:List Value}
theorem bJ.own (h:bJ S w base e size v n xs):w.ownsRow base e size v n xs:=by
 refine ⟨h.1,?_⟩;rcases h.2 with h1 | ⟨g,cap,cur,h1,h2,h3,h4,h5,h6,h7,_⟩
 ·exact .inl h1
 ·exact .inr ⟨g,cap,cur,h1,h2,h3,h4,h5,h6,h7⟩
theorem bJ.keep (h:bJ S w base e size v n xs) (hb:Below w.heap.size w w'):bJ S w' base e size v n xs:=by
 refine ⟨h.1,?_⟩;rcases h.2 with h1 | ⟨g,cap,cur,h1,h2,h3,h4⟩
 ·exact .inl h1
 ·exact .inr ⟨g,cap,cur,h1,h2,h3.bl hb,h4⟩
theorem dO (S:Value->Prop) (w:Wo) (base e size:Nat):bJ S w base e size (.slice none 0 0) 0 []:=⟨by simp,.inl ⟨rfl,rfl⟩⟩
theorem dY.old (h:∀ i,i<w.heap.size->w'.heap[i]?=w.heap[i]?) (hs:w.heap.size<=w'.heap.size) (ho:w'.os=w.os) (ht:w'.tape=w.tape) (hp:w'.output=w.output) (hbs:base<=w.heap.size):dY S base e w w':=
 ⟨⟨ho,ht,hp,hs,fun i hi=>h i (jO hi hbs)⟩,hs,fun p u hu _=>(World.cell?_of_block (h _ (World.block_lt_of_cell? w p hu))).trans hu,fun b t cs hb _=>(h b hb.lt).trans hb⟩
theorem aCe {z:Array Value} {k:Nat} {u:Value} (h:u∈(Builtin.zeroCells z k).toList):u∈z.toList:=by
 unfold Builtin.zeroCells at h;rw [Array.mem_toList_iff,Array.mem_map] at h;obtain ⟨i,hi,rfl⟩:=h;rw [Array.mem_range] at hi;have hz:0<z.size:=by
  rcases Nat.eq_zero_or_pos z.size with e | e
  ·rw [e] at hi;simp at hi
  ·exact e
 have hm:i % z.size<z.size:=Nat.mod_lt _ hz;rw [getElem!_pos z _ hm];exact Array.mem_toList_iff.2 (Array.getElem_mem hm)
end
section
variable {P:Program}
theorem n_ {S:Value->Prop} (w:Wo) (base:Nat) (t ty e:TypeId) (i:TypeInfo) (z:Value) (size bytes:Nat) (ht:P.underlying t=some (.slice e)) (hi:P.info? e=some i) (hz:i.zero=some z)
    (gX:i.size=size) (AC:i.bytes=bytes) (IY:z.cells.size=size) (gW:0<size) (SJ:∀ u∈z.cells.toList,S u)
    (v:Value) (n:Nat) (xs:List Value) (bF:bJ S w base e size v n xs)
    (a:Addr) (m c:Nat) (news:List Value) (hl:news.length=m*size) (iV:∀ j u,news[j]?=some u->w.cell? (a.add j)=some u) (h1:∀ u∈news,u.oneCell'=true/\S u)
    (wX:n+m<=maxLen) (gM:(n+m)*bytes<=140737488355328) (c_:base<=w.heap.size) (hm:0<m) :
    ∃ v' w',(Builtin.append_ #[t,t] ty #[v,.slice (some a) m c]).run P w=.ok v' w'/\bJ S w' base e size v' (n+m) (xs++news)/\dY S base e w w'/\(v'.ownBlock=v.ownBlock\/v'.ownBlock=some w.heap.size):=by
 subst gX;subst AC;have aLO:n+m<=9223372036854775807:=by simp only [maxLen] at wX;omega
 have eC:(xs++news).length=(n+m)*i.size:=by rw [iC,bF.1,hl,Nat.add_mul]
 have fresh:∀ (old:Nat),(∀ u∈xs,S u)->
     bJ S (w.drew.alloc (.cells (xs.toArray++news.toArray++Builtin.zeroCells z.cells (grownCap w (n+m) old e-(n+m))) e)) base e i.size (.slice (some ⟨w.heap.size,0,none⟩) (n+m) (grownCap w (n+m) old e)) (n+m) (xs++news)/\
     dY S base e w (w.drew.alloc (.cells (xs.toArray++news.toArray++Builtin.zeroCells z.cells (grownCap w (n+m) old e-(n+m))) e)):=by
  intro old hx;have QJ:=grownCap_ge w (n+m) old e;refine ⟨⟨eC,.inr ⟨w.heap.size,_,_,rfl,c_,aG.new w.drew _ _,QJ,grownCap_le_maxLen w (n+m) old e wX,?_,?_,?_⟩⟩,dY.old (fun k hk=>heap_alloc_old w.drew _ hk) (by simp) rfl rfl rfl c_⟩
  ·rw [Array.size_append,Array.size_append,List.size_toArray,List.size_toArray,size_zeroCells,IY,bF.1,hl,<-Nat.add_mul,<-Nat.add_mul,Nat.add_sub_cancel' QJ]
  ·rw [Array.toList_append,Array.toList_append,<-eC]
   exact List.take_left
  ·intro u hu
   rw [Array.toList_append,Array.toList_append,List.mem_append,List.mem_append] at hu;rcases hu with (hu | hu) | hu
   ·exact hx u (by simpa using hu)
   ·exact (h1 u (by simpa using hu)).2
   ·exact SJ u (aCe hu)
 rcases bF.2 with ⟨rfl,rfl⟩ | ⟨g,cap,cur,rfl,hbg,hg,hnc,JJ,QM,aD0,hS⟩
 ·have hx:xs=[]:=List.eq_nil_of_length_eq_zero (by simpa using bF.1)
  subst hx;have hr:=run_append_nil (P:=P) w t ty e i z ht hi hz a m c news hl iV hm (by omega) (by have hb:=gM;rw [Nat.zero_add] at hb;omega);obtain ⟨f1,f2⟩:=fresh 0 (by simp);simp only [Nat.zero_add,List.nil_append,Array.empty_append] at f1 f2 ⊢;exact ⟨_,_,hr,f1,f2,.inr rfl⟩
 ·have hxS:∀ u∈xs,S u:=fun u hu=>hS u (List.mem_of_mem_take (by rw [aD0];exact hu))
  by_cases zV:n+m<=cap
  ·have wU:n*i.size+news.length<=cur.size:=by rw [hl,QM,<-Nat.add_mul];exact Nat.mul_le_mul_right _ zV
   have hr:=run_append_room (P:=P) w t ty e i ht hi g n cap cur hg a m c news hl iV (fun u hu=>(h1 u hu).1) zV wU;have QE:∀ k,k≠g->(w.setRow g (cur.toList.take (n*i.size)++news++cur.toList.drop (n*i.size+news.length)).toArray).heap[k]?=w.heap[k]?:=fun k hk=>setRow_other w g k _ hk;refine ⟨_,_,hr,⟨eC,.inr ⟨g,cap,_,rfl,hbg,setRow_heap w g cur _ e _ hg,zV,JJ,?_,?_,?_⟩⟩,⟨⟨rfl,rfl,rfl,by simp,fun k hk=>QE k (by omega)⟩,by simp,fun p u hu hn=>?_,fun b t' cs hb cP=>?_⟩,.inl rfl⟩
   ·rw [List.size_toArray,iC,iC,jP,EI,Array.length_toList]
    omega
   ·rw [aD0,<-eC]
    exact List.take_left
   ·intro u hu
    rw [List.mem_append,List.mem_append] at hu;rcases hu with (hu | hu) | hu
    ·exact hS u (List.mem_of_mem_take hu)
    ·exact (h1 u hu).2
    ·exact hS u (List.mem_of_mem_drop hu)
   ·have hpg:p.block≠g:=by
     intro e;obtain ⟨b,off,sp⟩:=p;simp only at e;subst e;cases sp with
     | none=>
      have:=hg.cell off;rw [this] at hu;exact hn (hS u (Array.mem_toList_iff.2 (Array.mem_of_getElem? hu)))
     | some s=>
      unfold World.cell? at hu;rw [show w.heap[b]?=some (.cells cur _ (0,0)) from hg] at hu;simp at hu
    exact (World.cell?_of_block (QE _ hpg)).trans hu
   ·have aVP:b≠g:=by
     rintro rfl;have h2:some (Obj.cells cs t' (0,0))=some (Obj.cells cur e (0,0)):=hb.symm.trans hg;injection h2 with h2;injection h2 with _ h2;exact cP h2
    exact (QE b aVP).trans hb
  ·have holds:∀ j u,xs[j]?=some u->w.cell? ((⟨g,0,none⟩:Addr).add j)=some u:=bF.own.cells (g:=g) rfl
   have hr:=run_append_grow (P:=P) w t ty e i z ht hi hz ⟨g,0,none⟩ n cap xs bF.1 holds a m c news hl iV (by omega) (by omega) (growslice_fits (by omega) gM);obtain ⟨f1,f2⟩:=fresh cap hxS;exact ⟨_,_,hr,f1,f2,.inr rfl⟩
theorem qA {S:Value->Prop} {ops:Array Oper} {rest:List Oper} {o:Oper} {a:Act} {Q:Exit->Act->World->Prop} {w:Wo} {lit:Array Value} {T:TypeId} (CE:o.guard=none) (s x:Operand) (t:TypeId)
    (ho:o.op=.call { callee:=.builtin .append,args:=#[s,x],argTypes:=#[t,t] })
    (base:Nat) (e:TypeId) (i:TypeInfo) (z:Value) (size bytes:Nat) (ht:P.underlying t=some (.slice e)) (hi:P.info? e=some i) (hz:i.zero=some z)
    (gX:i.size=size) (AC:i.bytes=bytes) (IY:z.cells.size=size) (gW:0<size) (SJ:∀ u∈z.cells.toList,S u)
    (v:Value) (n:Nat) (xs:List Value) (hs:a.eval s=v) (bF:bJ S w base e size v n xs)
    (hx:a.eval x=.slice (some ⟨w.heap.size,0,none⟩) 1 1) (hl:lit.size=size) (h1:∀ u∈lit.toList,u.oneCell'=true/\S u)
    (wX:n+1<=maxLen) (gM:(n+1)*bytes<=140737488355328) (c_:base<=w.heap.size)
    (h:∀ v' w',bJ S w' base e size v' (n+1) (xs++lit.toList)->dY S base e (w.alloc (.cells lit T)) w'->(v'.ownBlock=v.ownBlock\/v'.ownBlock=some (w.heap.size+1))->wpList P ops Q rest (a.put o.dst v') w') :
    wpList P ops Q (o::rest) a (w.alloc (.cells lit T)):=by
 refine wpList_plain CE fun K hK=>?_;obtain ⟨v',w',hr,h2,h3,h4⟩:=n_ (P:=P) (w.alloc (.cells lit T)) base t o.type e i z size bytes ht hi hz gX AC IY gW SJ v n xs (bF.keep (bA)) ⟨w.heap.size,0,none⟩ 1 1 lit.toList (by rw [Array.length_toList,hl,Nat.one_mul]) (fun j u hu=>by
  rw [Addr.add_lit,Nat.zero_add,(aG.new w T lit).cell j];simpa using hu) h1 wX gM (cV c_ (by simp)) (by decide)
 unfold Oper.wp execOp;simp only [ho,resolve,invoke,builtin,Sem.run_bind,Sem.run_pure,Result.andThen_ok,List.map_toArray,List.map_cons,List.map_nil,hs,hx,hr];exact hK _ _ (h v' w' h2 h3 (by simpa using h4))
end
end
section
abbrev Fn:=Nat->Rat
def aO:Nat->Fn->Rat
 | 0,_=>0
 | n+1,f=>aO n f+f n
theorem aN:∀ {n:Nat} {f g:Fn},(∀ i,i<n->f i=g i)->aO n f=aO n g
 | 0,_,_,_=>rfl
 | n+1,f,g,h=>by rw [aO,aO,aN fun i hi=>h i (by omega),h n (by omega)]
theorem eV:∀ {n:Nat} {f:Fn},(∀ i,i<n->f i=0)->aO n f=0
 | 0,_,_=>rfl
 | n+1,f,h=>by rw [aO,eV fun i hi=>h i (by omega),h n (by omega)];exact Rat.add_zero 0
theorem fX (f g:Fn):∀ n:Nat,aO n (fun i=>f i+g i)=aO n f+aO n g
 | 0=>(Rat.add_zero 0).symm
 | n+1=>by rw [aO,aO,aO,fX f g n];grind
theorem bY (c:Rat) (f:Fn):∀ n:Nat,aO n (fun i=>c*f i)=c*aO n f
 | 0=>(Rat.mul_zero c).symm
 | n+1=>by rw [aO,aO,bY c f n];grind
theorem iN {n k:Nat} {f:Fn} (hk:k<n) (h:∀ i,i<n->i≠k->f i=0):aO n f=f k:=by
 induction n with
 | zero=>omega
 | succ n ih=>
  rw [aO]
  by_cases hn:k=n
  ·subst hn
   rw [eV fun i hi=>h i (by omega) (by omega),Rat.zero_add]
  ·rw [ih (by omega) (fun i hi zZ=>h i (by omega) zZ),h n (by omega) (fun e=>hn e.symm),Rat.add_zero]
theorem pC (f:Nat->Nat->Rat) (m:Nat):∀ n:Nat,aO n (fun i=>aO m fun j=>f i j)=aO m (fun j=>aO n fun i=>f i j)
 | 0=>by
  rw [aO,eV];intro i _;rfl
 | n+1=>by
  rw [aO,pC f m n,<-fX];rfl
def bB (n:Nat) (a x:Fn):Rat:=aO n fun i=>a i*x i
theorem aEY (n:Nat) (a x y:Fn):bB n a (fun i=>x i+y i)=bB n a x+bB n a y:=by
 unfold bB;rw [<-fX];exact aN fun i _=>by grind
theorem aEX (n:Nat) (a x:Fn) (c:Rat):bB n a (fun i=>c*x i)=c*bB n a x:=by
 unfold bB;rw [<-bY];exact aN fun i _=>by grind
theorem aAQ (n:Nat) (a b x:Fn):bB n (fun i=>a i+b i) x=bB n a x+bB n b x:=by
 unfold bB;rw [<-fX];exact aN fun i _=>by grind
theorem LH (n:Nat) (a x:Fn) (c:Rat):bB n (fun i=>c*a i) x=c*bB n a x:=by
 unfold bB;rw [<-bY];exact aN fun i _=>by grind
theorem kQ {n:Nat} {a b x y:Fn} (h:∀ i,i<n->a i=b i) (h2:∀ i,i<n->x i=y i):bB n a x=bB n b y:=
 aN fun i hi=>by rw [h i hi,h2 i hi]
def NQ (n:Nat) (A:List Fn) (x:Fn):Prop:=∀ a∈A,bB n a x=0
structure EG (M:List Fn) (piv:List Nat) (k:Nat):Prop where
 le:piv.length<=M.length
 inc:piv.Pairwise (·<·)
 lt:∀ p∈piv,p<k
 one:∀ (t p:Nat) (a:Fn),piv[t]?=some p->M[t]?=some a->a p=1
 zer:∀ (t p i:Nat) (a:Fn),piv[t]?=some p->M[i]?=some a->i≠t->a p=0
 low:∀ (t p:Nat) (a:Fn),piv[t]?=some p->M[t]?=some a->∀ j,j<p->a j=0
 rest:∀ (i:Nat) (a:Fn),M[i]?=some a->piv.length<=i->∀ j,j<k->a j=0
namespace EG
variable {M:List Fn} {piv:List Nat} {n:Nat}
def free (piv:List Nat) (n:Nat):List Nat:=(List.range n).filter fun j=>!piv.contains j
theorem nodup (E:EG M piv n):piv.Nodup:=E.inc.imp fun h=>Nat.ne_of_lt h
theorem free_len (E:EG M piv n):(free piv n).length+piv.length=n:=by
 have h1:((List.range n).filter fun j=>piv.contains j).length=piv.length:=by
  refine List.Perm.length_eq ((List.perm_ext_iff_of_nodup (List.Pairwise.filter _ List.nodup_range) E.nodup).2 fun a=>?_);rw [List.mem_filter,List.mem_range]
  constructor
  ·intro h;simpa using h.2
  ·intro h;exact ⟨E.lt a h,by simpa using h⟩
 have h2:=List.length_eq_countP_add_countP (fun j=>piv.contains j) (l:=List.range n);rw [List.length_range,List.countP_eq_length_filter,List.countP_eq_length_filter,h1] at h2;unfold free;have h3:((List.range n).filter fun j=>!piv.contains j)=((List.range n).filter fun a=>decide ¬piv.contains a=true):=by
  congr 1
  funext j
  cases piv.contains j<;>rfl
 rw [h3];omega
theorem mem_free {j:Nat}:j∈free piv n<->j<n/\j∉piv:=by
 unfold free;rw [List.mem_filter,List.mem_range];simp
theorem ker_zero (E:EG M piv n) {z:Fn} (hz:NQ n M z) (hf:∀ j,j<n->j∉piv->z j=0):∀ j,j<n->z j=0:=by
 intro j hj
 by_cases hp:j∈piv
 ·obtain ⟨t,ht⟩:=List.mem_iff_getElem?.1 hp
  have QB:=(dP.1 ht).1;obtain ⟨a,ha⟩:∃ a,M[t]?=some a:=⟨_,jA (jO QB E.le)⟩;have h:=hz a (cO ha);unfold bB at h;rw [iN hj,E.one t j a ht ha,Rat.one_mul] at h
  ·exact h
  ·intro i hi xM
   by_cases hip:i∈piv
   ·obtain ⟨s,hs⟩:=List.mem_iff_getElem?.1 hip
    rw [E.zer s i t a hs ha (fun e=>by subst e;rw [ht] at hs;injection hs with hs;exact xM hs.symm),Rat.zero_mul]
   ·rw [hf i hi hip,Rat.mul_zero]
 ·exact hf j hj hp
def bas (M:List Fn) (piv:List Nat) (c:Nat):Fn:=fun j=>if j=c then 1 else match piv.findIdx? (· == j) with
 | some t=>-((M.getD t (fun _=>0)) c)
 | none=>0
theorem bas_free {c j:Nat} (hj:j∉piv):bas M piv c j=if j=c then 1 else 0:=by
 unfold bas
 by_cases h:j=c
 ·rw [if_pos h,if_pos h]
 ·rw [if_neg h,if_neg h]
  have:piv.findIdx? (· == j)=none:=List.findIdx?_eq_none_iff.2 fun x hx=>by
   have:x≠j:=fun e=>hj (e▸hx);simpa using this
  rw [this]
theorem bas_piv (E:EG M piv n) {c t p:Nat} {a:Fn} (hc:c∉piv) (ht:piv[t]?=some p) (ha:M[t]?=some a):bas M piv c p=-(a c):=by
 unfold bas;have hp:=cO ht;rw [if_neg (fun e:p=c=>hc (by rw [<-e];exact hp))];have:piv.findIdx? (· == p)=some t:=by
  rw [List.findIdx?_eq_some_iff_getElem];obtain ⟨hl,he⟩:=dP.1 ht;refine ⟨hl,by simp [he],fun j hj=>?_⟩;have h1:=(List.pairwise_iff_getElem.1 E.inc) j t (by omega) hl hj;rw [he] at h1;simp;omega
 rw [this];simp only;rw [eY,ha];rfl
theorem bas_ker (E:EG M piv n) {c:Nat} (hc:c<n) (hcp:c∉piv):NQ n M (bas M piv c):=by
 intro a ha;obtain ⟨i,hi⟩:=List.mem_iff_getElem?.1 ha
 by_cases hr:piv.length<=i
 ·unfold bB
  exact eV fun j hj=>by rw [E.rest i a hi hr j hj,Rat.zero_mul]
 ·obtain ⟨p,hp⟩:∃ p,piv[i]?=some p:=eO (by omega)
  have hpn:=E.lt p (cO hp);have hpc:p≠c:=fun e=>hcp (e▸cO hp);have key:∀ j,j<n->a j*bas M piv c j=(if j=c then a c else 0)+(if j=p then -(a c) else 0):=fun j hj=>by
   by_cases hjp:j∈piv
   ·obtain ⟨s,hs⟩:=List.mem_iff_getElem?.1 hjp
    have hjc:j≠c:=fun e=>hcp (e▸hjp);rw [if_neg hjc]
    by_cases hji:j=p
    ·subst hji
     rw [if_pos rfl,E.one i j a hp hi,E.bas_piv hcp hp hi,Rat.one_mul,Rat.zero_add]
    ·rw [if_neg hji,E.zer s j i a hs hi (fun e=>by subst e;rw [hp] at hs;injection hs with hs;exact hji hs.symm),Rat.zero_mul,Rat.add_zero]
   ·rw [bas_free hjp]
    have hji:j≠p:=fun e=>hjp (e▸cO hp);rw [if_neg hji,Rat.add_zero]
    by_cases h:j=c
    ·subst h;rw [if_pos rfl,if_pos rfl,Rat.mul_one]
    ·rw [if_neg h,if_neg h,Rat.mul_zero]
  unfold bB;rw [aN key,fX,iN (k:=c) hc (fun i _ h=>if_neg h),iN (k:=p) hpn (fun i _ h=>if_neg h),if_pos rfl,if_pos rfl];exact Rat.add_neg_cancel _
end EG
theorem BT {n:Nat} {M:List Fn} {piv:List Nat} (E:EG M piv n):piv.length=n<->∀ x,NQ n M x->∀ j,j<n->x j=0:=by
 have hl:=E.free_len
 constructor
 ·intro h x hx
  refine E.ker_zero hx fun j hj hjp=>?_;have:j∈EG.free piv n:=EG.mem_free.2 ⟨hj,hjp⟩;rw [List.eq_nil_of_length_eq_zero (by omega:(EG.free piv n).length=0)] at this;cases this
 ·intro h
  refine Classical.byContradiction fun cP=>?_;obtain ⟨c,hc⟩:∃ c,c∈EG.free piv n:=List.exists_mem_of_length_pos (by omega);obtain ⟨h1,h2⟩:=EG.mem_free.1 hc;have:=h _ (E.bas_ker h1 h2) c h1;rw [EG.bas_free h2,if_pos rfl] at this;exact absurd this (by decide)
end
section
open Go.ChangeShapes Go.WideShapes Go.ChangeAt Go.RowKit Go.Joins
section
variable {P:Program}
theorem dY.refl (S:Value->Prop) (base:Nat) (e:TypeId) (w:Wo):dY S base e w w:=⟨bR,lR,fun _ _ h _=>h,fun _ _ _ h _=>h⟩
theorem bJ.shape {S:Value->Prop} {w:Wo} {base e size n:Nat} {v:Value} {xs:List Value} (h:bJ S w base e size v n xs):∃ A c,v=.slice A n c/\n<=c/\c<=maxLen:=by
 rcases h.2 with ⟨h1,h2⟩ | ⟨g,cap,cur,h1,h2,h3,h4,h5,h6⟩
 ·subst h2;exact ⟨none,0,h1,lR,by simp [maxLen]⟩
 ·exact ⟨_,cap,h1,h4,h5⟩
theorem JA {S:Value->Prop} (w:Wo) (base:Nat) (t ty e:TypeId) (i:TypeInfo) (z:Value) (size bytes:Nat) (ht:P.underlying t=some (.slice e)) (hi:P.info? e=some i) (hz:i.zero=some z)
    (gX:i.size=size) (AC:i.bytes=bytes) (IY:z.cells.size=size) (gW:0<size) (SJ:∀ u∈z.cells.toList,S u)
    (v:Value) (n:Nat) (xs:List Value) (bF:bJ S w base e size v n xs)
    (A:OA) (m c:Nat) (news:List Value) (hr:Rd w w.heap.size size A m news) (h1:∀ u∈news,u.oneCell'=true/\S u)
    (wX:n+m<=maxLen) (gM:(n+m)*bytes<=140737488355328) (c_:base<=w.heap.size) :
    ∃ v' w',(Builtin.append_ #[t,t] ty #[v,.slice A m c]).run P w=.ok v' w'/\bJ S w' base e size v' (n+m) (xs++news)/\dY S base e w w'/\(v=.slice none 0 0->Below w.heap.size w w'/\bJ S w' w.heap.size e size v' (n+m) (xs++news))/\(v'.ownBlock=v.ownBlock\/v'.ownBlock=some w.heap.size):=by
 rcases Nat.eq_zero_or_pos m with rfl | h0
 ·have hn:news=[]:=List.eq_nil_of_length_eq_zero (by simpa using hr.1)
  subst hn;obtain ⟨A1,c1,rfl,hc,M4⟩:=bF.shape;have pX:Src P i.size t (.slice A 0 c) 0 [] w:=by
   cases A with
   | none=>exact Src.ofNil w ht c
   | some ad=>exact Src.ofSlice w ht ad 0 c [] (by simp) (fun j u hu=>by simp at hu) (fun u hu=>by cases hu)
  refine ⟨_,w,run_append_nothing (P:=P) w t t ty e i ht hi A1 n c1 hc (.slice A 0 c) pX,by rw [List.append_nil];exact bF,dY.refl _ _ _ _,fun hv=>⟨bR,?_⟩,.inl rfl⟩;injection hv with a1 a2 a3;subst a1;subst a2;subst a3;rw [List.append_nil];exact ⟨bF.1,.inl ⟨rfl,rfl⟩⟩
 ·obtain ⟨b,off,rfl,hb,hc⟩:=hr.2 h0
  by_cases hv:v=.slice none 0 0
  ·subst hv
   have tJ:bJ S w w.heap.size e size (.slice none 0 0) n xs:=by
    refine ⟨bF.1,?_⟩;rcases bF.2 with h | ⟨g,cap,cur,h,_⟩
    ·exact .inl h
    ·cases h
   obtain ⟨v',w',g1,g2,g3,g4⟩:=n_ (P:=P) w w.heap.size t ty e i z size bytes ht hi hz gX AC IY gW SJ _ n xs tJ ⟨b,off,none⟩ m c news hr.1 (fun j u hu=>by rw [Addr.add_lit];exact hc j u hu) h1 wX gM lR h0;refine ⟨v',w',g1,⟨g2.1,?_⟩,⟨⟨g3.low.os,g3.low.tape,g3.low.output,g3.low.size,fun k hk=>g3.low.block k (jO hk c_)⟩,g3.size,g3.cell,g3.blk⟩,fun _=>⟨g3.low,g2⟩,g4⟩;exact g2.2.imp id fun ⟨g,cap,cur,k1,k2,k3⟩=>⟨g,cap,cur,k1,cV c_ k2,k3⟩
  ·obtain ⟨v',w',g1,g2,g3,g4⟩:=n_ (P:=P) w base t ty e i z size bytes ht hi hz gX AC IY gW SJ v n xs bF ⟨b,off,none⟩ m c news hr.1 (fun j u hu=>by rw [Addr.add_lit];exact hc j u hu) h1 wX gM c_ h0
   exact ⟨v',w',g1,g2,g3,fun h=>absurd h hv,g4⟩
theorem WU {S:Value->Prop} {o:Oper} {a:Act} {w:Wo} {K:Act->World->Prop} {Q:Exit->Act->World->Prop} (s x:Operand) (t:TypeId)
    (ho:o.op=.call { callee:=.builtin .append,args:=#[s,x],argTypes:=#[t,t] })
    (base:Nat) (e:TypeId) (i:TypeInfo) (z:Value) (size bytes:Nat) (ht:P.underlying t=some (.slice e)) (hi:P.info? e=some i) (hz:i.zero=some z)
    (gX:i.size=size) (AC:i.bytes=bytes) (IY:z.cells.size=size) (gW:0<size) (SJ:∀ u∈z.cells.toList,S u)
    (v:Value) (n:Nat) (xs:List Value) (hs:a.eval s=v) (bF:bJ S w base e size v n xs)
    (A:OA) (m c:Nat) (news:List Value) (hx:a.eval x=.slice A m c) (hr:Rd w w.heap.size size A m news) (h1:∀ u∈news,u.oneCell'=true/\S u)
    (wX:n+m<=maxLen) (gM:(n+m)*bytes<=140737488355328) (c_:base<=w.heap.size)
    (h:∀ v' w',bJ S w' base e size v' (n+m) (xs++news)->dY S base e w w'->(v=.slice none 0 0->Below w.heap.size w w'/\bJ S w' w.heap.size e size v' (n+m) (xs++news))->(v'.ownBlock=v.ownBlock\/v'.ownBlock=some w.heap.size)->K (a.put o.dst v') w') :
    o.wp P a w K Q:=by
 obtain ⟨v',w',g1,g2,g3,g4,g5⟩:=JA (P:=P) w base t o.type e i z size bytes ht hi hz gX AC IY gW SJ v n xs bF A m c news hr h1 wX gM c_;unfold Oper.wp execOp;simp only [ho,resolve,invoke,builtin,Sem.run_bind,Sem.run_pure,Result.andThen_ok,List.map_toArray,List.map_cons,List.map_nil,hs,hx,g1];exact h v' w' g2 g3 g4 g5
theorem t8 {S:Value->Prop} {ops:Array Oper} {rest:List Oper} {o:Oper} {a:Act} {Q:Exit->Act->World->Prop} {w:Wo} (CE:o.guard=none) (s x:Operand) (t:TypeId)
    (ho:o.op=.call { callee:=.builtin .append,args:=#[s,x],argTypes:=#[t,t] })
    (base:Nat) (e:TypeId) (i:TypeInfo) (z:Value) (size bytes:Nat) (ht:P.underlying t=some (.slice e)) (hi:P.info? e=some i) (hz:i.zero=some z)
    (gX:i.size=size) (AC:i.bytes=bytes) (IY:z.cells.size=size) (gW:0<size) (SJ:∀ u∈z.cells.toList,S u)
    (v:Value) (n:Nat) (xs:List Value) (hs:a.eval s=v) (bF:bJ S w base e size v n xs)
    (A:OA) (m c:Nat) (news:List Value) (hx:a.eval x=.slice A m c) (hr:Rd w w.heap.size size A m news) (h1:∀ u∈news,u.oneCell'=true/\S u)
    (wX:n+m<=maxLen) (gM:(n+m)*bytes<=140737488355328) (c_:base<=w.heap.size)
    (h:∀ v' w',bJ S w' base e size v' (n+m) (xs++news)->dY S base e w w'->(v=.slice none 0 0->Below w.heap.size w w'/\bJ S w' w.heap.size e size v' (n+m) (xs++news))->(v'.ownBlock=v.ownBlock\/v'.ownBlock=some w.heap.size)->wpList P ops Q rest (a.put o.dst v') w') :
    wpList P ops Q (o::rest) a w:=by
 refine wpList_plain CE fun K hK=>?_;exact WU s x t ho base e i z size bytes ht hi hz gX AC IY gW SJ v n xs hs bF A m c news hx hr h1 wX gM c_ fun v' w' a1 a2 a3 a4=>hK _ _ (h v' w' a1 a2 a3 a4)
end
end
section
open Go.ChangeShapes Go.WideShapes Go.ChangeAt Go.RowKit Go.Deep
structure Qu (w:Wo) (base:Nat) (v:Value) (xs:List Value):Prop where
 ex:∃ g off cap,v=.slice (some ⟨g,off,none⟩) xs.length cap/\base<=g/\g<w.heap.size/\xs.length<=cap/\cap<=maxLen/\(∀ j,j<cap->(w.cell? ⟨g,off+j,none⟩).isSome=true/\w.frozen? ⟨g,off+j,none⟩=false)/\∀ (j:Nat) (u:Value),xs[j]?=some u->w.cell? ⟨g,off+j,none⟩=some u
theorem Qu.up {w w':Wo} {base:Nat} {v:Value} {xs:List Value} (h:Qu w base v xs) (hb:Below w.heap.size w w'):Qu w' base v xs:=by
 obtain ⟨g,off,cap,h1,h2,h3,h4,h5,h6,h7⟩:=h.ex;exact ⟨g,off,cap,h1,h2,jO h3 hb.size,h4,h5,fun j hj=>by rw [hb.cell h3,hb.frozen h3];exact h6 j hj,fun j u hu=>by rw [hb.cell h3];exact h7 j u hu⟩
theorem Qu.tail {w:Wo} {base g off n cap:Nat} {x:Value} {xs:List Value} (h:Qu w base (.slice (some ⟨g,off,none⟩) n cap) (x::xs)):Qu w base (.slice (if cap=1 then some ⟨g,off,none⟩ else some ⟨g,off+1,none⟩) (n-1) (cap-1)) xs:=by
 obtain ⟨g',off',cap',h1,h2,h3,h4,h5,h6,h7⟩:=h.ex;injection h1 with e1 e2 e3;injection e1 with e1;injection e1 with e4 e5;subst e2;subst e3;subst e4;subst e5;simp only [E_,Nat.add_sub_cancel] at h4 ⊢
 by_cases hc:cap=1
 ·have hx:xs.length=0:=by omega
  rw [if_pos hc];refine ⟨g,off,cap-1,rfl,h2,h3,by omega,by omega,fun j hj=>by omega,fun j u hu=>?_⟩;have:=(dP.1 hu).1;omega
 ·rw [if_neg hc]
  refine ⟨g,off+1,cap-1,rfl,h2,h3,by omega,by omega,fun j hj=>?_,fun j u hu=>?_⟩
  ·rw [Nat.add_assoc,Nat.add_comm 1 j];exact h6 (j+1) (by omega)
  ·rw [Nat.add_assoc,Nat.add_comm 1 j];exact h7 (j+1) u (by simpa using hu)
theorem MH {P:Program} (w:Wo) (base:Nat) (t ty e:TypeId) (i:TypeInfo) (z:Value) (ht:P.underlying t=some (.slice e)) (hi:P.info? e=some i) (hz:i.zero=some z) (gX:i.size=1) (AC:i.bytes<=16) (IY:z.cells.size=1)
    (v:Value) (xs:List Value) (h:Qu w base v xs) (a:Addr) (c:Nat) (u:Value) (hu:w.cell? a=some u) (h1:u.oneCell'=true) (ha:a.spot=none) (eC:xs.length<=1000000) (c_:base<=w.heap.size) :
    ∃ v' w',(Builtin.append_ #[t,t] ty #[v,.slice (some a) 1 c]).run P w=.ok v' w'/\Qu w' base v' (xs++[u])/\Below base w w'/\∀ g off n cap,v=.slice (some ⟨g,off,none⟩) n cap->w.grownBy w' (some g):=by
 obtain ⟨g,off,cap,rfl,h2,h3,h4,h5,h6,h7⟩:=h.ex;have iV:∀ (j:Nat) (x:Value),([u]:List Value)[j]?=some x->w.cell? (a.add j)=some x:=fun j x hx=>by
  have hj:j=0:=by have:=(dP.1 hx).1;simpa using this
  subst hj;simp at hx;subst hx;obtain ⟨ab,ao,asp⟩:=a;simp only at ha;subst ha;rw [Addr.add_lit,Nat.add_zero];exact hu
 have pX:Src P i.size t (.slice (some a) 1 c) 1 [u] w:=Src.ofSlice w ht a 1 c [u] (by rw [gX];rfl) iV (fun x hx=>by rw [List.mem_singleton.1 hx];exact h1)
 by_cases zV:xs.length+1<=cap
 ·have hr:=run_append_room_src (P:=P) w t t ty e i ht hi g off xs.length cap _ 1 [u] pX zV
   (fun j hj=>by
    have JH:j=0:=by simpa using hj
    subst JH;rw [gX,Nat.mul_one,Nat.add_zero];exact (h6 xs.length (by omega)).1)
   (fun j hj=>by
    have JH:j=0:=by simpa using hj
    subst JH;rw [gX,Nat.mul_one,Nat.add_zero];exact (h6 xs.length (by omega)).2)
  rw [gX,Nat.mul_one] at hr;have lG:=World.cell?_setCells_in g [u] (off+xs.length) w (fun j hj=>by
   have JH:j=0:=by simpa using hj
   subst JH;rw [Nat.add_zero];exact (h6 xs.length (by omega)).1) 0 (by simp)
  rw [Nat.add_zero] at lG;have hb:Below base w (w.setCells g (off+xs.length) [u]):=(Below.refl base w).setCell (p:=⟨g,off+xs.length,none⟩) h2 u;have nX:∀ j,j≠xs.length->(w.setCells g (off+xs.length) [u]).cell? ⟨g,off+j,none⟩=w.cell? ⟨g,off+j,none⟩:=fun j hj=>World.cell?_setCells_out g [u] (off+xs.length) w _ (fun _ _=>by simp only [List.length_singleton];omega);refine ⟨_,_,hr,⟨g,off,cap,by rw [iC];rfl,h2,jO h3 hb.size,by rw [iC];simpa using zV,h5,fun j hj=>⟨?_,?_⟩,fun j x hx=>?_⟩,hb,?_⟩
  ·by_cases hje:j=xs.length
   ·subst hje;rw [lG];rfl
   ·rw [nX j hje];exact (h6 j hj).1
  ·rw [World.frozen?_setCells];exact (h6 j hj).2
  ·by_cases hje:j=xs.length
   ·subst hje
    rw [lG];simp at hx;rw [<-hx];rfl
   ·have hl:j<xs.length:=by have:=(dP.1 hx).1;rw [iC,List.length_singleton] at this;omega
    rw [nX j hje];rw [xQ hl] at hx;exact h7 j x hx
  ·intro g' off' n' cap' e
   injection e with e _ _;injection e with e;injection e with e _;subst e;exact gC (p:=⟨g,off+xs.length,none⟩) (World.grownBy.refl w (some g)) (.inl rfl) u
 ·have hold:(Builtin.firstCells i.size xs.length (.slice (some ⟨g,off,none⟩) xs.length cap)).run P w.drew=.ok xs.toArray w.drew:=
   run_firstCells_some w.drew i.size xs.length ⟨g,off,none⟩ xs.length cap xs (by rw [gX,Nat.mul_one]) (fun j x hx=>by rw [Addr.add_lit];exact h7 j x hx)
  have hr:=run_append_grow_src (P:=P) w t t ty e i z ht hi hz (some ⟨g,off,none⟩) xs.length cap xs hold _ 1 [u] pX (by omega) (by omega)
   (growslice_fits_wide (by omega) (cV (Nat.mul_le_mul_left _ AC) (by omega)))
  have QJ:=grownCap_ge w (xs.length+1) cap e;have JJ:grownCap w (xs.length+1) cap e<=maxLen:=grownCap_le_maxLen w (xs.length+1) cap e (by simp only [maxLen];omega);generalize grownCap w (xs.length+1) cap e=gc at *;have b_:=aG.new w.drew e ((xs++[u]).toArray++Builtin.zeroCells z.cells (gc-(xs.length+1)));have gW:((xs++[u]).toArray++Builtin.zeroCells z.cells (gc-(xs.length+1))).size=gc:=by
   rw [Array.size_append,size_zeroCells,IY];simp only [List.size_toArray,iC,List.length_singleton];omega
  have hb:Below base w (w.drew.alloc (.cells ((xs++[u]).toArray++Builtin.zeroCells z.cells (gc-(xs.length+1))) e)):=(bC (Below.refl base w) 1).alloc c_ _;refine ⟨_,_,hr,⟨w.heap.size,0,gc,by rw [iC];rfl,c_,by simp,by rw [iC];simpa using QJ,JJ,fun j hj=>?_,fun j x hx=>?_⟩,hb,fun g' _ _ _ _=>T6 (sM (World.grownBy.refl w (some g')) 1) _⟩
  ·rw [Nat.zero_add]
   refine ⟨?_,b_.frozen j⟩;have:=b_.cell j;rw [show w.drew.heap.size=w.heap.size from rfl] at this;rw [this,Array.getElem?_eq_getElem (by omega)];rfl
  ·rw [Nat.zero_add]
   have:=b_.cell j;rw [show w.drew.heap.size=w.heap.size from rfl] at this;have hl:=(dP.1 hx).1;rw [this,Array.getElem?_append_left (by simpa using hl)];simpa using hx
theorem tE {P:Program} (w:Wo) {ops:Array Oper} {rest:List Oper} {o:Oper} {a:Act} {Q:Exit->Act->World->Prop} (CE:o.guard=none) (s x:Operand) (t:TypeId)
    (ho:o.op=.call { callee:=.builtin .append,args:=#[s,x],argTypes:=#[t,t] })
    (base:Nat) (e:TypeId) (i:TypeInfo) (z:Value) (ht:P.underlying t=some (.slice e)) (hi:P.info? e=some i) (hz:i.zero=some z) (gX:i.size=1) (AC:i.bytes<=16) (IY:z.cells.size=1)
    (v:Value) (xs:List Value) (hs:a.eval s=v) (h:Qu w base v xs) (ad:Addr) (c:Nat) (u:Value) (hx:a.eval x=.slice (some ad) 1 c) (hu:w.cell? ad=some u) (h1:u.oneCell'=true) (ha:ad.spot=none) (eC:xs.length<=1000000) (c_:base<=w.heap.size)
    (hk:∀ v' w',Qu w' base v' (xs++[u])->Below base w w'->wpList P ops Q rest (a.put o.dst v') w'):wpList P ops Q (o::rest) a w:=by
 obtain ⟨v',w',hr,h2,h3,_⟩:=MH (P:=P) w base t o.type e i z ht hi hz gX AC IY v xs h ad c u hu h1 ha eC c_;refine wpList_plain CE fun _ hK=>?_;unfold Oper.wp execOp;simp only [ho,resolve,invoke,builtin,Sem.run_bind,Sem.run_pure,Result.andThen_ok,List.map_toArray,List.map_cons,List.map_nil,hs,hx,hr];exact hK _ _ (hk v' w' h2 h3)
end
section
open Go
def rO (u:Nat) (m:Int) (s:List Int×List Nat) (x:Nat×Nat):List Int×List Nat:=
 if (x.1=u\/x.2=u)/\s.1.getD (x.1+x.2-u) 0<0 then (s.1.set (x.1+x.2-u) m,s.2++[x.1+x.2-u]) else s
def qF (u:Nat) (m:Int) (es:List (Nat×Nat)) (s:List Int×List Nat):List Int×List Nat:=es.foldl (rO u m) s
def DV (m:Int) (es:List (Nat×Nat)):Nat->List Int->List Nat->List Int
 | 0,out,_=>out
 | _+1,out,[]=>out
 | f+1,out,u::q=>DV m es f (qF u m es (out,q)).1 (qF u m es (out,q)).2
def XK (n:Nat) (es:List (Nat×Nat)):Nat->Nat->List Int×Int->List Int×Int
 | 0,_,s=>s
 | k+1,i,s=>if 0<=s.1.getD i 0 then XK n es k (i+1) s else XK n es k (i+1) (DV s.2 es (n+1) (s.1.set i s.2) [i],s.2+1)
def lL (n:Nat) (es:List (Nat×Nat)):List Int:=(XK n es n 0 (List.replicate n (-1),0)).1
def BZ (l:List Int):Nat:=(l.filter (·<0)).length
theorem F8:∀ (l:List Int) (i:Nat) (m:Int),0<=m->i<l.length->l.getD i 0<0->BZ (l.set i m)+1=BZ l
 | [],i,m,_,h,_=>by simp at h
 | x::r,0,m,hm,_,h=>by
  have hx:x<0:=by simpa using h
  have h1:¬m<0:=by omega
  simp [BZ,hx,h1]
 | x::r,i+1,m,hm,hl,h=>by
  have ih:=F8 r i m hm (by simpa using hl) (by simpa using h);unfold BZ at ih ⊢;rw [List.set_cons_succ]
  by_cases hx:x<0<;>simp [List.filter_cons,hx]<;>omega
structure Ps (n:Nat) (m:Int) (out:List Int) (q:List Nat):Prop where
 len:out.length=n
 lt:∀ u∈q,u<n
 bd:∀ x∈out,-1<=x/\x<=m
theorem PJ {n u:Nat} {m:Int} {s:List Int×List Nat} {x:Nat×Nat} (hm:0<=m) (hx:x.1<n/\x.2<n) (h:Ps n m s.1 s.2) :
    Ps n m (rO u m s x).1 (rO u m s x).2/\(rO u m s x).2.length+BZ (rO u m s x).1=s.2.length+BZ s.1/\s.2.length<=(rO u m s x).2.length:=by
 unfold rO
 split
 ·rename_i hc
  have ho:x.1+x.2-u<n:=by omega
  refine ⟨⟨by simp [h.len],fun v hv=>?_,fun y hy=>?_⟩,?_,by simp⟩
  ·rcases List.mem_append.1 hv with hv | hv
   ·exact h.lt v hv
   ·rw [List.mem_singleton.1 hv];exact ho
  ·rcases List.mem_or_eq_of_mem_set hy with hy | rfl
   ·exact h.bd y hy
   ·omega
  ·have:=F8 s.1 _ m hm (by rw [h.len];exact ho) hc.2
   simp;omega
 ·exact ⟨h,rfl,lR⟩
theorem PK {n u:Nat} {m:Int} (hm:0<=m):∀ {es:List (Nat×Nat)} {s:List Int×List Nat},(∀ x∈es,x.1<n/\x.2<n)->Ps n m s.1 s.2->
    Ps n m (qF u m es s).1 (qF u m es s).2/\(qF u m es s).2.length+BZ (qF u m es s).1=s.2.length+BZ s.1
 | [],s,_,h=>⟨h,rfl⟩
 | x::r,s,hx,h=>by
  have h1:=PJ (u:=u) hm (hx x (List.mem_cons_self ..)) h;have h2:=PK (u:=u) hm (fun y hy=>hx y (List.mem_cons_of_mem _ hy)) h1.1;exact ⟨h2.1,h2.2.trans h1.2.1⟩
theorem XL {n:Nat} {m:Int} (hm:0<=m) {es:List (Nat×Nat)} (hx:∀ x∈es,x.1<n/\x.2<n):∀ (f:Nat) {out:List Int} {q:List Nat},Ps n m out q->(DV m es f out q).length=n/\(∀ x∈DV m es f out q,-1<=x/\x<=m)
 | 0,out,q,h=>⟨h.len,h.bd⟩
 | f+1,out,[],h=>⟨h.len,h.bd⟩
 | f+1,out,u::q,h=>by
  have h1:Ps n m out q:=⟨h.len,fun v hv=>h.lt v (List.mem_cons_of_mem _ hv),h.bd⟩;exact XL hm hx f (PK (s:=(out,q)) hm hx h1).1
theorem aHN (l:List Int):BZ l<=l.length:=List.length_filter_le _ _
theorem TQ {u:Nat} {m:Int} (hm:0<=m) (s:List Int×List Nat) (x:Nat×Nat) {j:Nat} (h:0<=s.1.getD j 0):0<=(rO u m s x).1.getD j 0:=by
 unfold rO
 split
 ·simp only [eY] at h ⊢
  rw [List.getElem?_set]
  split
  ·split
   ·simpa using hm
   ·simp
  ·exact h
 ·exact h
theorem F5 {u:Nat} {m:Int} (hm:0<=m):∀ (es:List (Nat×Nat)) (s:List Int×List Nat) {j:Nat},0<=s.1.getD j 0->0<=(qF u m es s).1.getD j 0
 | [],s,j,h=>h
 | x::r,s,j,h=>F5 hm r (rO u m s x) (TQ hm s x h)
theorem KK {m:Int} (hm:0<=m) (es:List (Nat×Nat)):∀ (f:Nat) (out:List Int) (q:List Nat) {j:Nat},0<=out.getD j 0->0<=(DV m es f out q).getD j 0
 | 0,out,q,j,h=>h
 | f+1,out,[],j,h=>h
 | f+1,out,u::q,j,h=>KK hm es f _ _ (F5 hm es (out,q) h)
theorem TU {n:Nat} {es:List (Nat×Nat)} (hx:∀ x∈es,x.1<n/\x.2<n):∀ (k i:Nat) (s:List Int×Int),s.1.length=n->i+k=n->(∀ x∈s.1,-1<=x/\x<s.2)->0<=s.2->s.2<=i->(∀ j,j<i->0<=s.1.getD j 0)->
    (XK n es k i s).1.length=n/\(∀ x∈(XK n es k i s).1,-1<=x/\x<n)/\∀ j,j<n->0<=(XK n es k i s).1.getD j 0
 | 0,i,s,hl,hi,hb,h0,h1,hj=>by
  refine ⟨hl,fun x hx=>?_,fun j h=>hj j (by omega)⟩;have:=hb x hx;omega
 | k+1,i,s,hl,hi,hb,h0,h1,hj=>by
  unfold XK
  split
  ·rename_i hz
   exact TU hx k (i+1) s hl (by omega) hb h0 (by omega) (fun j h=>by
    by_cases hji:j=i
    ·subst hji;exact hz
    ·exact hj j (by omega))
  ·rename_i hz
   have lG:i<s.1.length:=by omega
   have GN:Ps n s.2 (s.1.set i s.2) [i]:=⟨by simp [hl],fun v hv=>(by rw [List.mem_singleton.1 hv];omega),fun x hx=>by
    rcases List.mem_or_eq_of_mem_set hx with hx | rfl
    ·have:=hb x hx;omega
    ·omega⟩
   have h2:=XL h0 hx (n+1) GN;refine TU hx k (i+1) _ h2.1 (by omega) (fun x hx=>(by have:=h2.2 x hx;show _/\_<s.2+1;omega)) (by show 0<=s.2+1;omega) (by show s.2+1<=_;omega) (fun j h=>?_);refine KK h0 es _ _ _ ?_;rw [eY,List.getElem?_set]
   by_cases hji:i=j
   ·subst hji
    rw [if_pos rfl,if_pos lG];exact h0
   ·rw [if_neg hji,<-eY]
    exact hj j (by omega)
theorem zN {n:Nat} {es:List (Nat×Nat)} (hx:∀ x∈es,x.1<n/\x.2<n):(lL n es).length=n/\∀ x∈lL n es,0<=x/\x<n:=by
 obtain ⟨h1,h2,h3⟩:=TU hx n 0 (List.replicate n (-1),0) (by simp) (by omega) (fun x hx=>(by rw [List.eq_of_mem_replicate hx];exact ⟨by omega,show (-1:Int)<0 by omega⟩)) (by show (0:Int)<=0;omega) (by show (0:Int)<=_;omega) (fun j h=>by omega);refine ⟨h1,fun x hx=>?_⟩;have h4:=h2 x hx;obtain ⟨j,hj⟩:=List.mem_iff_getElem?.1 hx;have sQ:=(dP.1 hj).1;have h5:=h3 j (by unfold lL at sQ;omega);rw [eY,show (XK n es n 0 (List.replicate n (-1),0)).1[j]?=some x from hj] at h5;exact ⟨h5,h4.2⟩
def FH (l:List Int):Int:=l.foldl (fun a b=>max a (b+1)) 0
theorem aAM (l:List Int):∀ a:Int,a<=l.foldl (fun a b=>max a (b+1)) a/\(∀ b∈l,b<l.foldl (fun a b=>max a (b+1)) a)/\∀ c,a<=c->(∀ b∈l,b<c)->l.foldl (fun a b=>max a (b+1)) a<=c:=by
 induction l with
 | nil=>intro a;exact ⟨Int.le_refl _,fun _ h=>(by cases h),fun c h _=>h⟩
 | cons x r ih=>
  intro a;obtain ⟨h1,h2,h3⟩:=ih (max a (x+1));rw [List.foldl_cons];refine ⟨by omega,fun b hb=>?_,fun c hc hb=>h3 c ?_ (fun b h=>hb b (List.mem_cons_of_mem _ h))⟩
  ·rcases List.mem_cons.1 hb with rfl | hb
   ·omega
   ·exact h2 b hb
  ·have:=hb x (List.mem_cons_self ..);omega
theorem MA (l:List Int):0<=FH l/\(∀ b∈l,b<FH l)/\∀ c,0<=c->(∀ b∈l,b<c)->FH l<=c:=aAM l 0
end
section
def vf (l:List Rat):Fn:=fun i=>l.getD i 0
def yS (M:List (List Rat)):List Fn:=M.map vf
theorem iA {l:List Rat} {i:Nat} {x:Rat} (h:l[i]?=some x):vf l i=x:=by unfold vf;rw [eY,h];rfl
theorem bI {l:List Rat} {i:Nat} (h:i<l.length):l[i]?=some (vf l i):=by unfold vf;rw [eY,jA h];rfl
theorem BG {M:List (List Rat)} {i:Nat} {f:Fn} (h:(yS M)[i]?=some f):∃ a,M[i]?=some a/\f=vf a:=by
 unfold yS at h;rw [kI] at h;obtain ⟨a,ha,he⟩:=Option.map_eq_some_iff.1 h;exact ⟨a,ha,he.symm⟩
theorem m7 {M:List (List Rat)} {i:Nat} {a:List Rat} (h:M[i]?=some a):(yS M)[i]?=some (vf a):=by unfold yS;rw [kI,h];rfl
theorem sH (M:List (List Rat)):(yS M).length=M.length:=by unfold yS;rw [lB]
theorem qI {n:Nat} {M:List (List Rat)} {x:Fn}:NQ n (yS M) x<->∀ (i:Nat) (a:List Rat),M[i]?=some a->bB n (vf a) x=0:=by
 constructor
 ·intro h i a ha
  exact h _ (cO (m7 ha))
 ·intro h f hf
  obtain ⟨i,hi⟩:=List.mem_iff_getElem?.1 hf;obtain ⟨a,ha,rfl⟩:=BG hi;exact h i a ha
def iI (d:Rat) (row:List Rat):List Rat:=row.map fun x=>x / d
def wM (f:Rat) (R row:List Rat):List Rat:=List.zipWith (fun x y=>x-f*y) row R
theorem kG (d:Rat) (row:List Rat):(iI d row).length=row.length:=by unfold iI;rw [lB]
theorem OX {f:Rat} {R row:List Rat} (h:R.length=row.length):(wM f R row).length=row.length:=by unfold wM;rw [List.length_zipWith,h,Nat.min_self]
theorem E5 {d:Rat} {row:List Rat} {i:Nat} (h:i<row.length):vf (iI d row) i=vf row i / d:=by
 refine iA ?_;unfold iI;rw [kI,bI h];rfl
theorem EK {f:Rat} {R row:List Rat} {i:Nat} (h:i<row.length) (hl:R.length=row.length):vf (wM f R row) i=vf row i-f*vf R i:=by
 refine iA ?_;unfold wM;rw [List.getElem?_zipWith,bI h,bI (by rw [hl];exact h)]
def dH (M:List (List Rat)) (r p k:Nat):List (List Rat):=(M.set p (M.getD r [])).set r (iI (vf (M.getD p []) k) (M.getD p []))
def eI (M:List (List Rat)) (r p k:Nat):List (List Rat):=(dH M r p k).mapIdx fun i row=>if i=r then row else wM (vf row k) (iI (vf (M.getD p []) k) (M.getD p [])) row
theorem uK (M:List (List Rat)) (r p k:Nat):(dH M r p k).length=M.length:=by unfold dH;rw [lF,lF]
theorem DJ (M:List (List Rat)) (r p k:Nat):(eI M r p k).length=M.length:=by unfold eI;rw [List.length_mapIdx,uK]
section
variable {M:List (List Rat)} {N r p k:Nat} {Rp Rr:List Rat}
theorem KJ (hr:M[r]?=some Rr) (hp:M[p]?=some Rp):(dH M r p k)[r]?=some (iI (vf Rp k) Rp):=by
 unfold dH;rw [List.getElem?_set_self (by rw [lF];exact (dP.1 hr).1),eY,hp];rfl
theorem aC6 (hr:M[r]?=some Rr) (hp:M[p]?=some Rp) (hrp:r≠p):(dH M r p k)[p]?=some Rr:=by
 unfold dH;rw [List.getElem?_set_ne hrp,List.getElem?_set_self (dP.1 hp).1,eY,hr];rfl
theorem MJ {i:Nat} (h1:i≠r) (h2:i≠p):(dH M r p k)[i]?=M[i]?:=by
 unfold dH;rw [List.getElem?_set_ne (fun e=>h1 e.symm),List.getElem?_set_ne (fun e=>h2 e.symm)]
theorem zM {i:Nat} {a:List Rat} (hr:M[r]?=some Rr) (hp:M[p]?=some Rp) (hi:i≠r) (h:(dH M r p k)[i]?=some a):∃ s,M[s]?=some a/\s≠p/\(s=i\/(i=p/\s=r)):=by
 by_cases hip:i=p
 ·subst hip
  rw [aC6 hr hp (fun e=>hi e.symm)] at h;injection h with h;subst h;exact ⟨r,hr,fun e=>hi e.symm,.inr ⟨rfl,rfl⟩⟩
 ·rw [MJ hi hip] at h
  exact ⟨i,h,hip,.inl rfl⟩
theorem G8 {i:Nat} {a':List Rat} (hp:M[p]?=some Rp) (h:(eI M r p k)[i]?=some a'):∃ a,(dH M r p k)[i]?=some a/\a'=if i=r then a else wM (vf a k) (iI (vf Rp k) Rp) a:=by
 unfold eI at h;rw [List.getElem?_mapIdx] at h;obtain ⟨a,ha,he⟩:=Option.map_eq_some_iff.1 h;refine ⟨a,ha,?_⟩;rw [<-he];have:M.getD p []=Rp:=by rw [eY,hp];rfl
 rw [this]
theorem YQ {i:Nat} {a:List Rat} (hp:M[p]?=some Rp) (h:(dH M r p k)[i]?=some a):(eI M r p k)[i]?=some (if i=r then a else wM (vf a k) (iI (vf Rp k) Rp) a):=by
 unfold eI;rw [List.getElem?_mapIdx,h];have:M.getD p []=Rp:=by rw [eY,hp];rfl
 rw [this];rfl
theorem KI (hw:∀ a∈M,a.length=N) (hr:M[r]?=some Rr) (hp:M[p]?=some Rp):∀ a∈dH M r p k,a.length=N:=by
 intro a ha;obtain ⟨i,hi⟩:=List.mem_iff_getElem?.1 ha
 by_cases yD:i=r
 ·subst yD
  rw [KJ hr hp] at hi;injection hi with hi;subst hi;rw [kG];exact hw _ (cO hp)
 ·obtain ⟨s,hs,_⟩:=zM hr hp yD hi
  exact hw _ (cO hs)
theorem LR (hw:∀ a∈M,a.length=N) (hr:M[r]?=some Rr) (hp:M[p]?=some Rp):∀ a∈eI M r p k,a.length=N:=by
 intro a ha;obtain ⟨i,hi⟩:=List.mem_iff_getElem?.1 ha;obtain ⟨b,hb,rfl⟩:=G8 hp hi;have h1:=KI (k:=k) hw hr hp b (cO hb);have h2:=hw _ (cO hp)
 split
 ·exact h1
 ·rw [OX (by rw [kG,h1,h2]),h1]
theorem Q5 {n:Nat} {d:Rat} {row:List Rat} (h:n<=row.length) (x:Fn):bB n (vf (iI d row)) x=(1 / d)*bB n (vf row) x:=by
 rw [<-LH];exact kQ (fun i hi=>by rw [E5 (by omega)];grind) fun _ _=>rfl
theorem OY {n:Nat} {f:Rat} {R row:List Rat} (h:n<=row.length) (hl:R.length=row.length) (x:Fn):bB n (vf (wM f R row)) x=bB n (vf row) x+(-f)*bB n (vf R) x:=by
 rw [<-LH,<-aAQ];exact kQ (fun i hi=>by rw [EK (by omega) hl];grind) fun _ _=>rfl
theorem aIK {n:Nat} (hn:n<=N) (hw:∀ a∈M,a.length=N) (hr:M[r]?=some Rr) (hp:M[p]?=some Rp) (hd:vf Rp k≠0) (x:Fn):NQ n (yS (eI M r p k)) x<->NQ n (yS M) x:=by
 have CC:=hw _ (cO hp);rw [qI,qI]
 constructor
 ·intro h
  have hR:bB n (vf (iI (vf Rp k) Rp)) x=0:=by
   have:=h r _ (YQ hp (KJ hr hp));rwa [if_pos rfl] at this
  have hP:bB n (vf Rp) x=0:=by
   rw [Q5 (by omega)] at hR;generalize vf Rp k=d at *;grind
  intro i a ha
  by_cases hip:i=p
  ·subst hip
   rw [hp] at ha;injection ha with ha;subst ha;exact hP
  ·have E1:=hw _ (cO ha)
   have key:∀ s,s≠r->(dH M r p k)[s]?=some a->bB n (vf a) x=0:=fun s hs hsa=>by
    have:=h s _ (YQ hp hsa);rw [if_neg hs,OY (by omega) (by rw [kG,CC,E1]),hR,Rat.mul_zero,Rat.add_zero] at this;exact this
   by_cases yD:i=r
   ·subst yD
    rw [hr] at ha;injection ha with ha;subst ha;exact key p (fun e=>hip e.symm) (aC6 hr hp hip)
   ·exact key i yD (by rw [MJ yD hip];exact ha)
 ·intro h i a' ha'
  have hR:bB n (vf (iI (vf Rp k) Rp)) x=0:=by rw [Q5 (by omega),h p Rp hp,Rat.mul_zero]
  obtain ⟨a,ha,rfl⟩:=G8 hp ha'
  by_cases yD:i=r
  ·subst yD
   rw [if_pos rfl];rw [KJ hr hp] at ha;injection ha with ha;subst ha;exact hR
  ·rw [if_neg yD]
   obtain ⟨s,hs,_⟩:=zM hr hp yD ha;have E1:=hw _ (cO hs);rw [OY (by omega) (by rw [kG,CC,E1]),h s a hs,hR,Rat.mul_zero,Rat.add_zero]
theorem aIL {piv:List Nat} (E:EG (yS M) piv k) (hw:∀ a∈M,a.length=N) (hk:k<N) (rX:r=piv.length) (hr:M[r]?=some Rr) (hp:M[p]?=some Rp) (hrp:r<=p) (hd:vf Rp k≠0):EG (yS (eI M r p k)) (piv++[k]) (k+1):=by
 have CC:=hw _ (cO hp);have hRz:∀ j,j<k->vf (iI (vf Rp k) Rp) j=0:=fun j hj=>by
  rw [E5 (by omega),E.rest p _ (m7 hp) (by omega) j hj];exact Rat.div_def 0 _▸Rat.zero_mul _
 have hR1:vf (iI (vf Rp k) Rp) k=1:=by
  rw [E5 (by omega)];generalize vf Rp k=d at *;grind
 have row:∀ i a',(eI M r p k)[i]?=some a'->i≠r->∃ s a,M[s]?=some a/\(s=i\/(i=p/\s=r))/\vf a' k=0/\∀ j,j<k->vf a' j=vf a j:=fun i a' ha' yD=>by
  obtain ⟨a,ha,rfl⟩:=G8 hp ha';obtain ⟨s,hs,_,h2⟩:=zM hr hp yD ha;have E1:=hw _ (cO hs);refine ⟨s,a,hs,h2,?_,fun j hj=>?_⟩
  ·rw [if_neg yD,EK (by omega) (by rw [kG,CC,E1]),hR1];grind
  ·rw [if_neg yD,EK (by omega) (by rw [kG,CC,E1]),hRz j hj];grind
 have prow:∀ a',(eI M r p k)[r]?=some a'->a'=iI (vf Rp k) Rp:=fun a' ha'=>by
  obtain ⟨a,ha,rfl⟩:=G8 hp ha';rw [if_pos rfl];rw [KJ hr hp] at ha;injection ha with ha;exact ha.symm
 have pv:∀ t q,(piv++[k])[t]?=some q->(t<piv.length/\piv[t]?=some q/\q<k)\/(t=r/\q=k):=fun t q h=>by
  rcases Nat.lt_or_ge t piv.length with aW | QJ
  ·rw [xQ aW] at h
   exact .inl ⟨aW,h,E.lt q (cO h)⟩
  ·rw [AZ QJ] at h
   have:t-piv.length=0:=by
    have:=(dP.1 h).1;simp at this;omega
   rw [this] at h;simp at h;exact .inr ⟨by omega,h.symm⟩
 have hrM:=(dP.1 hr).1;refine ⟨?_,?_,?_,?_,?_,?_,?_⟩
 ·rw [sH,DJ,iC,List.length_singleton];omega
 ·rw [List.pairwise_append]
  exact ⟨E.inc,List.pairwise_singleton _ _,fun a ha b hb=>by rw [List.mem_singleton.1 hb];exact E.lt a ha⟩
 ·intro q hq
  rcases List.mem_append.1 hq with h | h
  ·have:=E.lt q h;omega
  ·rw [List.mem_singleton.1 h];omega
 ·intro t q f h1 h2
  obtain ⟨a',ha',rfl⟩:=BG h2;rcases pv t q h1 with ⟨aW,hq,hqk⟩ | ⟨rfl,rfl⟩
  ·obtain ⟨s,a,hs,hsi,_,hj⟩:=row t a' ha' (by omega)
   rw [hj q hqk];rcases hsi with rfl | ⟨e1,e2⟩
   ·exact E.one s q _ hq (m7 hs)
   ·omega
  ·rw [prow a' ha'];exact hR1
 ·intro t q i f h1 h2 hit
  obtain ⟨a',ha',rfl⟩:=BG h2;rcases pv t q h1 with ⟨aW,hq,hqk⟩ | ⟨rfl,rfl⟩
  ·by_cases yD:i=r
   ·subst yD
    rw [prow a' ha'];exact hRz q hqk
   ·obtain ⟨s,a,hs,hsi,_,hj⟩:=row i a' ha' yD
    rw [hj q hqk];refine E.zer t q s _ hq (m7 hs) ?_;rcases hsi with rfl | ⟨e1,e2⟩
    ·exact hit
    ·omega
  ·obtain ⟨s,a,_,_,h0,_⟩:=row i a' ha' hit
   exact h0
 ·intro t q f h1 h2 j hj
  obtain ⟨a',ha',rfl⟩:=BG h2;rcases pv t q h1 with ⟨aW,hq,hqk⟩ | ⟨rfl,rfl⟩
  ·obtain ⟨s,a,hs,hsi,_,hjj⟩:=row t a' ha' (by omega)
   rw [hjj j (by omega)];rcases hsi with rfl | ⟨e1,e2⟩
   ·exact E.low s q _ hq (m7 hs) j hj
   ·omega
  ·rw [prow a' ha'];exact hRz j hj
 ·intro i f h2 hi j hj
  obtain ⟨a',ha',rfl⟩:=BG h2;rw [iC,List.length_singleton] at hi;obtain ⟨s,a,hs,hsi,h0,hjj⟩:=row i a' ha' (by omega)
  by_cases hjk:j=k
  ·subst hjk;exact h0
  ·rw [hjj j (by omega)]
   refine E.rest s _ (m7 hs) ?_ j (by omega);rcases hsi with rfl | ⟨e1,e2⟩<;>omega
theorem aCH {piv:List Nat} (E:EG (yS M) piv k) (h:∀ i a,M[i]?=some a->piv.length<=i->vf a k=0):EG (yS M) piv (k+1):=
 ⟨E.le,E.inc,fun p hp=>Nat.lt_succ_of_lt (E.lt p hp),E.one,E.zer,E.low,fun i f hf hi j hj=>by
  obtain ⟨a,ha,rfl⟩:=BG hf
  by_cases hjk:j=k
  ·subst hjk;exact h i a ha hi
  ·exact E.rest i _ (m7 ha) hi j (by omega)⟩
theorem aEQ {piv:List Nat} {n:Nat} (E:EG (yS M) piv k) (h:piv.length=M.length) (hk:k<=n):EG (yS M) piv n:=
 ⟨E.le,E.inc,fun p hp=>jO (E.lt p hp) hk,E.one,E.zer,E.low,fun i f hf hi j hj=>by
  have:=(dP.1 hf).1;rw [sH] at this;omega⟩
theorem ZR (M:List (List Rat)):EG (yS M) [] 0:=
 ⟨Nat.zero_le _,List.Pairwise.nil,fun p hp=>(by cases hp),fun t p a h=>by simp at h,fun t p i a h=>by simp at h,fun t p a h=>by simp at h,fun i a h hi j hj=>by omega⟩
end
def nE (M:List (List Rat)) (r k:Nat):Nat:=r+(M.drop r).findIdx fun row=>vf row k != 0
def nD:Nat->List (List Rat)->List Nat->Nat->List (List Rat)×List Nat
 | 0,M,piv,_=>(M,piv)
 | s+1,M,piv,k=>if piv.length<M.length then (if nE M piv.length k=M.length then nD s M piv (k+1) else nD s (eI M piv.length (nE M piv.length k) k) (piv++[k]) (k+1)) else (M,piv)
def lD (M:List (List Rat)) (cols:Nat):List (List Rat)×List Nat:=nD cols M [] 0
def uA (M:List (List Rat)):Nat:=match M with | []=>0 | a::_=>a.length
def cY (M:List (List Rat)):Nat:=(lD M (uA M)).2.length
theorem ET {M:List (List Rat)} {r k:Nat} (h:r<=M.length):r<=nE M r k/\nE M r k<=M.length:=by
 unfold nE;have h1:(M.drop r).findIdx (fun row=>vf row k != 0)<=(M.drop r).length:=List.findIdx_le_length;rw [EI] at h1;omega
theorem aAa {M:List (List Rat)} {r k:Nat} (h:r<=M.length) (hp:nE M r k=M.length):∀ (i:Nat) (a:List Rat),M[i]?=some a->r<=i->vf a k=0:=by
 intro i a hi hri;have aW:=(dP.1 hi).1;have h2:(M.drop r).findIdx (fun row=>vf row k != 0)=(M.drop r).length:=by unfold nE at hp;rw [EI];omega
 have h3:=List.findIdx_eq_length.1 h2 a (cO (i:=i-r) (by rw [List.getElem?_drop];rw [show r+(i-r)=i from by omega];exact hi));simpa using h3
theorem vR {M:List (List Rat)} {r k:Nat} (h:r<=M.length) (hp:nE M r k≠M.length):∃ a,M[nE M r k]?=some a/\vf a k≠0:=by
 have h1:=ET (k:=k) h;have h2:(M.drop r).findIdx (fun row=>vf row k != 0)<(M.drop r).length:=by
  have:(M.drop r).findIdx (fun row=>vf row k != 0)<=(M.drop r).length:=List.findIdx_le_length;rw [EI] at *;unfold nE at *;omega
 have h3:=List.findIdx_getElem (p:=fun row=>vf row k != 0) (xs:=M.drop r) (w:=h2);refine ⟨_,jA (by omega),?_⟩;rw [List.getElem_drop] at h3;simpa [nE] using h3
theorem PM {M:List (List Rat)} {r k i:Nat} {a:List Rat} (hi:M[i]?=some a) (h1:r<=i) (h2:i<nE M r k):vf a k=0:=by
 have h3:=List.not_of_lt_findIdx (p:=fun row=>vf row k != 0) (xs:=M.drop r) (i:=i-r) (by unfold nE at h2;omega);have aW:=(dP.1 hi).1;rw [List.getElem_drop] at h3;have:M[r+(i-r)]'(by omega)=a:=by
  have e:r+(i-r)=i:=by omega
  have:=(dP.1 hi).2;simp only [e];exact this
 rw [this] at h3;simpa using h3
theorem aHA {M:List (List Rat)} {r k p:Nat} {a:List Rat} (hr:r<=p) (hp:M[p]?=some a) (ha:vf a k≠0) (hb:∀ (i:Nat) (b:List Rat),M[i]?=some b->r<=i->i<p->vf b k=0):nE M r k=p:=by
 have aW:=(dP.1 hp).1;have h1:=ET (M:=M) (r:=r) (k:=k) (by omega);rcases Nat.lt_trichotomy (nE M r k) p with h | h | h
 ·obtain ⟨b,bH,bL⟩:=vR (M:=M) (r:=r) (k:=k) (by omega) (by omega)
  exact absurd (hb _ b bH h1.1 h) bL
 ·exact h
 ·exact absurd (PM hp hr h) ha
theorem aC9 {M:List (List Rat)} {r k:Nat} (hr:r<=M.length) (hb:∀ (i:Nat) (b:List Rat),M[i]?=some b->r<=i->vf b k=0):nE M r k=M.length:=by
 refine Classical.byContradiction fun h=>?_;obtain ⟨a,h1,h2⟩:=vR hr h;exact h2 (hb _ a h1 (ET hr).1)
structure qR (M0 M:List (List Rat)) (N:Nat) (piv:List Nat) (k:Nat):Prop where
 ech:EG (yS M) piv k
 wid:∀ a∈M,a.length=N
 ker:∀ n,n<=N->∀ x,NQ n (yS M) x<->NQ n (yS M0) x
 len:M.length=M0.length
theorem DC {M:List (List Rat)} {N:Nat} (h:∀ a∈M,a.length=N):qR M M N [] 0:=⟨ZR M,h,fun _ _ _=>Iff.rfl,rfl⟩
theorem qR.skip {M0 M:List (List Rat)} {N k:Nat} {piv:List Nat} (h:qR M0 M N piv k) (hp:nE M piv.length k=M.length):qR M0 M N piv (k+1):=
 ⟨aCH h.ech (aAa (by have:=h.ech.le;rwa [sH] at this) hp),h.wid,h.ker,h.len⟩
theorem qR.step {M0 M:List (List Rat)} {N k:Nat} {piv:List Nat} (h:qR M0 M N piv k) (hk:k<N) (hl:piv.length<M.length) (hp:nE M piv.length k≠M.length):qR M0 (eI M piv.length (nE M piv.length k) k) N (piv++[k]) (k+1):=by
 obtain ⟨Rp,hRp,hd⟩:=vR (rC hl) hp;obtain ⟨Rr,hRr⟩:∃ Rr,M[piv.length]?=some Rr:=⟨_,jA hl⟩;have h1:=ET (M:=M) (k:=k) (rC hl);exact ⟨aIL h.ech h.wid hk rfl hRr hRp h1.1 hd,LR h.wid hRr hRp,fun n hn x=>(aIK hn h.wid hRr hRp hd x).trans (h.ker n hn x),(DJ ..).trans h.len⟩
theorem qR.full {M0 M:List (List Rat)} {N k n:Nat} {piv:List Nat} (h:qR M0 M N piv k) (hl:¬piv.length<M.length) (hk:k<=n):qR M0 M N piv n:=
 ⟨aEQ h.ech (by have:=h.ech.le;rw [sH] at this;omega) hk,h.wid,h.ker,h.len⟩
theorem FZ:∀ (s:Nat) {M0 M:List (List Rat)} {N k:Nat} {piv:List Nat},qR M0 M N piv k->k+s<=N->qR M0 (nD s M piv k).1 N (nD s M piv k).2 (k+s)
 | 0,_,_,_,_,_,h,_=>h
 | s+1,M0,M,N,k,piv,h,hk=>by
  unfold nD
  by_cases hl:piv.length<M.length
  ·rw [if_pos hl]
   by_cases hp:nE M piv.length k=M.length
   ·rw [if_pos hp]
    have:=FZ s (h.skip hp) (by omega);rwa [show k+1+s=k+(s+1) from by omega] at this
   ·rw [if_neg hp]
    have:=FZ s (h.step (by omega) hl hp) (by omega);rwa [show k+1+s=k+(s+1) from by omega] at this
  ·rw [if_neg hl]
   exact h.full hl (by omega)
theorem zH {M:List (List Rat)} {N cols:Nat} (h:∀ a∈M,a.length=N) (hc:cols<=N):qR M (lD M cols).1 N (lD M cols).2 cols:=by
 have:=FZ cols (DC h) (by omega);rwa [Nat.zero_add] at this
def Bd (B:Nat) (M:List (List Rat)):Prop:=∀ a∈M,∀ x∈a,bU x+1<=B
theorem Bd.mono {B C:Nat} {M:List (List Rat)} (h:Bd B M) (hc:B<=C):Bd C M:=fun a ha x hx=>cV (h a ha x hx) hc
theorem Bd.at_ {B:Nat} {M:List (List Rat)} (h:Bd B M) {i j:Nat} {a:List Rat} {x:Rat} (ha:M[i]?=some a) (hx:a[j]?=some x):bU x+1<=B:=h a (cO ha) x (cO hx)
theorem Bd.vf {B:Nat} {M:List (List Rat)} (h:Bd B M) {i j:Nat} {a:List Rat} (ha:M[i]?=some a) (hj:j<a.length):bU (vf a j)+1<=B:=h.at_ ha (bI hj)
section
variable {d f x:Rat} {R row:List Rat} {k i j:Nat}
def tR (d:Rat) (k j:Nat) (row:List Rat):List Rat:=row.mapIdx fun i x=>if k<=i/\i<j then x / d else x
def nY (f:Rat) (R:List Rat) (k j:Nat) (row:List Rat):List Rat:=row.mapIdx fun i x=>if k<=i/\i<j then x-f*vf R i else x
theorem Q6:(tR d k j row).length=row.length:=by unfold tR;rw [List.length_mapIdx]
theorem OZ:(nY f R k j row).length=row.length:=by unfold nY;rw [List.length_mapIdx]
theorem VL:tR d k k row=row:=by
 apply List.ext_getElem?;intro i;unfold tR;rw [List.getElem?_mapIdx];cases row[i]? with
 | none=>rfl
 | some x=>simp only [Option.map_some];rw [if_neg (by omega)]
theorem TE:nY f R k k row=row:=by
 apply List.ext_getElem?;intro i;unfold nY;rw [List.getElem?_mapIdx];cases row[i]? with
 | none=>rfl
 | some x=>simp only [Option.map_some];rw [if_neg (by omega)]
theorem aII (h:row[j]?=some x):(tR d k j row)[j]?=some x:=by
 unfold tR;rw [List.getElem?_mapIdx,h];simp only [Option.map_some];rw [if_neg (by omega)]
theorem aG_ (h:row[j]?=some x):(nY f R k j row)[j]?=some x:=by
 unfold nY;rw [List.getElem?_mapIdx,h];simp only [Option.map_some];rw [if_neg (by omega)]
theorem aAR (hk:k<=j) (h:row[j]?=some x):(tR d k j row).set j (x / d)=tR d k (j+1) row:=by
 have hj:=(dP.1 h).1;apply List.ext_getElem?;intro i;rw [List.getElem?_set,Q6];unfold tR;rw [List.getElem?_mapIdx,List.getElem?_mapIdx]
 by_cases hi:j=i
 ·subst hi
  rw [if_pos rfl,if_pos hj,h];simp only [Option.map_some];rw [if_pos ⟨hk,by omega⟩]
 ·rw [if_neg hi]
  cases row[i]? with
  | none=>rfl
  | some y=>
   simp only [Option.map_some]
   by_cases h2:k<=i/\i<j
   ·rw [if_pos h2,if_pos ⟨h2.1,by omega⟩]
   ·rw [if_neg h2,if_neg (by omega)]
theorem ZP (hk:k<=j) (h:row[j]?=some x):(nY f R k j row).set j (x-f*vf R j)=nY f R k (j+1) row:=by
 have hj:=(dP.1 h).1;apply List.ext_getElem?;intro i;rw [List.getElem?_set,OZ];unfold nY;rw [List.getElem?_mapIdx,List.getElem?_mapIdx]
 by_cases hi:j=i
 ·subst hi
  rw [if_pos rfl,if_pos hj,h];simp only [Option.map_some];rw [if_pos ⟨hk,by omega⟩]
 ·rw [if_neg hi]
  cases row[i]? with
  | none=>rfl
  | some y=>
   simp only [Option.map_some]
   by_cases h2:k<=i/\i<j
   ·rw [if_pos h2,if_pos ⟨h2.1,by omega⟩]
   ·rw [if_neg h2,if_neg (by omega)]
theorem ZQ (h:vf R j=0):nY f R k (j+1) row=nY f R k j row:=by
 apply List.ext_getElem?;intro i;unfold nY;rw [List.getElem?_mapIdx,List.getElem?_mapIdx];cases row[i]? with
 | none=>rfl
 | some y=>
  simp only [Option.map_some]
  by_cases h2:k<=i/\i<j
  ·rw [if_pos h2,if_pos ⟨h2.1,by omega⟩]
  ·rw [if_neg h2]
   by_cases h3:i=j
   ·subst h3
    by_cases h4:k<=i/\i<i+1
    ·rw [if_pos h4,h,Rat.mul_zero,Rat.sub_eq_add_neg,Rat.neg_zero,Rat.add_zero]
    ·rw [if_neg h4]
   ·rw [if_neg (by omega)]
theorem aE5 (h:∀ i,i<k->vf row i=0):tR d k row.length row=iI d row:=by
 apply List.ext_getElem?;intro i;unfold tR iI;rw [List.getElem?_mapIdx,kI];cases hx:row[i]? with
 | none=>rfl
 | some x=>
  have hi:=(dP.1 hx).1;simp only [Option.map_some]
  by_cases hk:k<=i
  ·rw [if_pos ⟨hk,hi⟩]
  ·rw [if_neg (by omega)]
   have:=h i (by omega);rw [iA hx] at this;rw [this,Rat.div_def,Rat.zero_mul]
theorem aCA (hl:R.length=row.length) (h:∀ i,i<k->vf R i=0):nY f R k row.length row=wM f R row:=by
 apply List.ext_getElem?;intro i;unfold nY wM;rw [List.getElem?_mapIdx,List.getElem?_zipWith];cases hx:row[i]? with
 | none=>rfl
 | some x=>
  have hi:=(dP.1 hx).1;rw [bI (l:=R) (by omega)];simp only [Option.map_some]
  by_cases hk:k<=i
  ·rw [if_pos ⟨hk,hi⟩]
  ·rw [if_neg (by omega),h i (by omega),Rat.mul_zero,Rat.sub_eq_add_neg,Rat.neg_zero,Rat.add_zero]
theorem ZO (hl:R.length=row.length):wM 0 R row=row:=by
 apply List.ext_getElem?;intro i;unfold wM;rw [List.getElem?_zipWith];cases hx:row[i]? with
 | none=>rfl
 | some x=>
  have hi:=(dP.1 hx).1;rw [bI (l:=R) (by omega)];simp only;rw [Rat.zero_mul,Rat.sub_eq_add_neg,Rat.neg_zero,Rat.add_zero]
end
def fU (M:List (List Rat)) (R:List Rat) (r k i:Nat):List (List Rat):=M.mapIdx fun t row=>if t<i/\t≠r then wM (vf row k) R row else row
section
variable {M:List (List Rat)} {R row:List Rat} {r p k i:Nat}
theorem BN:(fU M R r k i).length=M.length:=by unfold fU;rw [List.length_mapIdx]
theorem O9:fU M R r k 0=M:=by
 apply List.ext_getElem?;intro t;unfold fU;rw [List.getElem?_mapIdx];cases M[t]? with
 | none=>rfl
 | some x=>simp only [Option.map_some];rw [if_neg (by omega)]
theorem zD (h:M[i]?=some row):(fU M R r k i)[i]?=some row:=by
 unfold fU;rw [List.getElem?_mapIdx,h];simp only [Option.map_some];rw [if_neg (by omega)]
theorem aHo (h:M[r]?=some row):(fU M R r k i)[r]?=some row:=by
 unfold fU;rw [List.getElem?_mapIdx,h];simp only [Option.map_some];rw [if_neg (by omega)]
theorem FX:fU M R r k (r+1)=fU M R r k r:=by
 apply List.ext_getElem?;intro t;unfold fU;rw [List.getElem?_mapIdx,List.getElem?_mapIdx];cases M[t]? with
 | none=>rfl
 | some x=>
  simp only [Option.map_some]
  by_cases h:t<r
  ·rw [if_pos ⟨by omega,by omega⟩,if_pos ⟨h,by omega⟩]
  ·rw [if_neg (by omega),if_neg (by omega)]
theorem FW (hi:i≠r) (h:M[i]?=some row):(fU M R r k i).set i (wM (vf row k) R row)=fU M R r k (i+1):=by
 have hl:=(dP.1 h).1;apply List.ext_getElem?;intro t;rw [List.getElem?_set,BN];unfold fU;rw [List.getElem?_mapIdx,List.getElem?_mapIdx]
 by_cases ht:i=t
 ·subst ht
  rw [if_pos rfl,if_pos hl,h];simp only [Option.map_some];rw [if_pos ⟨by omega,hi⟩]
 ·rw [if_neg ht]
  cases M[t]? with
  | none=>rfl
  | some x=>
   simp only [Option.map_some]
   by_cases h2:t<i/\t≠r
   ·rw [if_pos h2,if_pos ⟨by omega,h2.2⟩]
   ·rw [if_neg h2,if_neg (by omega)]
theorem TH (hl:R.length=row.length) (h:M[i]?=some row) (hz:vf row k=0):fU M R r k (i+1)=fU M R r k i:=by
 by_cases hi:i=r
 ·subst hi;exact FX
 ·rw [<-FW hi h,hz,ZO hl]
  apply List.ext_getElem?;intro t;rw [List.getElem?_set]
  by_cases ht:i=t
  ·subst ht
   rw [if_pos rfl,if_pos (by rw [BN];exact (dP.1 h).1),zD h]
  ·rw [if_neg ht]
theorem Z1 (hp:M[p]?=some row):fU (dH M r p k) (iI (vf row k) row) r k M.length=eI M r p k:=by
 unfold fU eI;have e:M.getD p []=row:=by rw [eY,hp];rfl
 rw [e];apply List.ext_getElem?;intro t;rw [List.getElem?_mapIdx,List.getElem?_mapIdx];cases hx:(dH M r p k)[t]? with
 | none=>rfl
 | some x=>
  have ht:=(dP.1 hx).1;rw [uK] at ht;simp only [Option.map_some]
  by_cases h:t=r
  ·rw [if_neg (by omega),if_pos h]
  ·rw [if_pos ⟨ht,h⟩,if_neg h]
theorem aCx {a:List Rat} (hr:M[r]?=some a) (hp:M[p]?=some row):((M.set r row).set p a).set r (iI (vf row k) row)=dH M r p k:=by
 unfold dH;have e:M.getD p []=row:=by rw [eY,hp];rfl
 have e2:M.getD r []=a:=by rw [eY,hr];rfl
 rw [e,e2]
 by_cases h:r=p
 ·subst h;simp
 ·rw [List.set_comm _ _ (fun e=>h e.symm),List.set_set,List.set_comm _ _ h]
theorem aLa {a:List Rat} (hr:M[r]?=some a) (hp:M[p]?=some row):((M.set r row).set p a)[r]?=some row:=by
 have h1:=(dP.1 hr).1;rw [List.getElem?_set]
 by_cases h:p=r
 ·subst h
  rw [if_pos rfl,if_pos (by rw [lF];exact h1)];rw [hr] at hp;exact hp
 ·rw [if_neg h,List.getElem?_set,if_pos rfl,if_pos h1]
theorem O7 {α:Type} {l:List α} {i:Nat} {x:α} (h:l[i]?=some x):l.set i x=l:=by
 apply List.ext_getElem?;intro t;rw [List.getElem?_set]
 by_cases ht:i=t
 ·subst ht
  rw [if_pos rfl,if_pos (dP.1 h).1,h]
 ·rw [if_neg ht]
theorem aDB {d x:Rat} (h:x∈iI d row):∃ y∈row,x=y / d:=by
 unfold iI at h;obtain ⟨y,hy,e⟩:=List.mem_map.1 h;exact ⟨y,hy,e.symm⟩
theorem aHy {a:List Rat} (hr:M[r]?=some a) (hp:M[p]?=some row) {b:List Rat} (hb:b∈dH M r p k):b∈M\/b=iI (vf row k) row:=by
 obtain ⟨t,ht⟩:=List.mem_iff_getElem?.1 hb
 by_cases h1:t=r
 ·subst h1
  rw [KJ hr hp] at ht;injection ht with ht;exact .inr ht.symm
 ·by_cases h2:t=p
  ·subst h2
   rw [aC6 hr hp (fun e=>h1 e.symm)] at ht;injection ht with ht;exact .inl (ht▸cO hr)
  ·rw [MJ h1 h2] at ht
   exact .inl (cO ht)
theorem aE4 {B:Nat} (h:Bd B M) (hp:M[p]?=some row) (hk:k<row.length):∀ x∈iI (vf row k) row,bU x+2<=2*B:=fun x hx=>by
 obtain ⟨y,hy,rfl⟩:=aDB hx;have h1:=h row (cO hp) y hy;have h2:=h.vf hp hk;have:=E4 y (vf row k);omega
theorem aFk {N B:Nat} {a:List Rat} (h:Bd B M) (hw:∀ a∈M,a.length=N) (hr:M[r]?=some a) (hp:M[p]?=some row) (hk:k<N):Bd (4*B) (eI M r p k):=by
 have CC:=hw row (cO hp);have hd:=aE4 h hp (by rw [CC];exact hk);intro b hb x hx;obtain ⟨t,ht⟩:=List.mem_iff_getElem?.1 hb;obtain ⟨c,hc,rfl⟩:=G8 hp ht;have JJ:=aHy hr hp (cO hc)
 by_cases h1:t=r
 ·rw [if_pos h1] at hx
  rcases JJ with h2 | rfl
  ·have:=h c h2 x hx;omega
  ·have:=hd x hx;omega
 ·rw [if_neg h1] at hx
  have hcM:c∈M:=by
   obtain ⟨s,hs,_⟩:=zM hr hp h1 hc;exact cO hs
  have wV:=hw c hcM;obtain ⟨j,hj⟩:=List.mem_iff_getElem?.1 hx;have sQ:j<c.length:=by
   have:=(dP.1 hj).1;rwa [OX (by rw [kG,CC,wV])] at this
  have hv:=EK (f:=vf c k) (R:=iI (vf row k) row) (row:=c) sQ (by rw [kG,CC,wV]);rw [iA hj] at hv;rw [hv];obtain ⟨s,hs⟩:=List.mem_iff_getElem?.1 hcM;have b1:=h.vf hs sQ;have b2:=h.vf hs (show k<c.length by omega);have b3:=hd _ (cO (bI (l:=iI (vf row k) row) (show j<_ by rw [kG,CC];omega)));have b4:=eH (vf c k) (vf (iI (vf row k) row) j);have b5:=vM (vf c j) (vf c k*vf (iI (vf row k) row) j);omega
theorem PL {piv:List Nat} (E:EG (yS M) piv k) (hp:M[p]?=some row) (hl:piv.length<=p):∀ j,j<k->vf row j=0:=fun j hj=>E.rest p _ (m7 hp) hl j hj
theorem aE2 {d:Rat} {j:Nat} (h:vf row j=0) (hj:j<row.length):vf (iI d row) j=0:=by
 rw [E5 hj,h,Rat.div_def,Rat.zero_mul]
theorem TL {s:Nat} {piv:List Nat} (h:piv.length<M.length) (hp:nE M piv.length k=M.length):nD (s+1) M piv k=nD s M piv (k+1):=by
 rw [nD,if_pos h,if_pos hp]
theorem TK {s:Nat} {piv:List Nat} (h:piv.length<M.length) (hp:nE M piv.length k=p) (cP:p≠M.length):nD (s+1) M piv k=nD s (eI M piv.length p k) (piv++[k]) (k+1):=by
 subst hp;rw [nD,if_pos h,if_neg cP]
theorem TM {s:Nat} {piv:List Nat} (h:¬piv.length<M.length):nD s M piv k=(M,piv):=by
 cases s with
 | zero=>rfl
 | succ s=>rw [nD,if_neg h]
end
theorem MK {k cols:Nat} (h:k<=cols) (c:Nat):4^k*c<=4^cols*c:=Nat.mul_le_mul_right _ (Nat.pow_le_pow_right (by decide) h)
end
