import Derived.Test.YthgdchffeigkbaaGreatDoorX03
import Derived.Lib.Hide
import Derived.Lib.ItoaNum
set_option linter.unusedVariables false
set_option linter.unusedSimpArgs false
namespace Go.Proofs.YthgdchffeigkbaaGreatDoor
section
open Go
section
variable {P:Program} {Q:Exit->Act->World->Prop} {md:Region.Mode}
def eK (P:Program) (K:Value->World->Prop):Result Next->Prop
 | .ok (.value v) w'=>K v w'
 | .ok .skip w'=>K undef w'
 | .ok (.enter f args) w'=>Calls P f args w' fun e w''=>∃ v,e=.returned v/\K v w''
 | _=>False
def gJ (P:Program) (o:Oper) (a:Act) (w:Wo) (K:Value->World->Prop):Prop:=eK P K ((execOp a.eval o).run P w)
theorem S3 {o:Oper} {a:Act} {w:Wo} {K:Value->World->Prop} {N:Act->World->Prop} (h:gJ P o a w K) (hN:∀ v w',K v w'->N (a.put o.dst v) w'):o.wp P a w N Q:=by
 unfold gJ at h;unfold Oper.wp;generalize (execOp a.eval o).run P w=r at *;cases r with
 | ok n w'=>
  cases n<;>simp only [eK] at h<;>simp only [Oper.upon]
  case value v=>exact hN _ _ h
  case skip=>exact hN _ _ h
  case enter f args=>exact h.mono fun e w'' ⟨v,he,hk⟩=>by subst he;exact hN _ _ hk
 | halt x w'=>simp only [eK] at h
def mK (md:Region.Mode) (o:Oper) (k:Nat):Bool:=o.after.any fun e=>Region.binds md e && e.on == k
theorem FD {o:Oper} {k:Nat} (h:mK md o k=true):∃ e∈o.after,Region.binds md e=true/\e.on=k:=by
 unfold mK at h;obtain ⟨e,he,hb⟩:=Array.any_eq_true'.1 h;simp only [Bool.and_eq_true,beq_iff_eq] at hb;exact ⟨e,he,hb.1,hb.2⟩
abbrev uY:=Nat->Option Value
def upv (s:uY) (i:Nat) (v:Value):uY:=fun k=>bif Nat.beq k i then some v else s k
theorem FF (s:uY) (i:Nat) (v:Value):upv s i v i=some v:=by unfold upv;rw [Nat.beq_refl];rfl
theorem vL {s:uY} {i k:Nat} {v:Value} (h:k≠i):upv s i v k=s k:=by
 unfold upv;have:Nat.beq k i=false:=by
  cases h':Nat.beq k i with
  | false=>rfl
  | true=>exact absurd (Nat.eq_of_beq_eq_true h') h
 rw [this];rfl
abbrev xN:=Nat->uY->World->Prop
def ZG (K:xN) (i:Nat) (p:uY->World->Prop):xN:=fun k=>bif Nat.beq k i then p else K k
theorem rI (K:xN) (i:Nat) (p:uY->World->Prop):ZG K i p i=p:=by unfold ZG;rw [Nat.beq_refl];rfl
theorem m8 {K:xN} {i k:Nat} {p:uY->World->Prop} (h:k≠i):ZG K i p k=K k:=by
 unfold ZG;have:Nat.beq k i=false:=by
  cases h':Nat.beq k i with
  | false=>rfl
  | true=>exact absurd (Nat.eq_of_beq_eq_true h') h
 rw [this];rfl
theorem aCm {K:xN} {i j:Nat} {p q:uY->World->Prop} (h:i≠j):ZG (ZG K i p) j q=ZG (ZG K j q) i p:=by
 funext k
 by_cases h1:k=i
 ·subst h1;rw [m8 h,rI,rI]
 ·by_cases h2:k=j
  ·subst h2;rw [rI,m8 h1,rI]
  ·rw [m8 h2,m8 h1,m8 h1,m8 h2]
def DB (P:Program) (md:Region.Mode) (ops:Array Oper) (C:uY->World->Prop) (G:World->World->Prop) (Fin:Act->World->Prop):List (Nat×(Value->World->Prop))->Act->xN->Prop
 | [],a,K=>∀ s w,C s w->(∀ k,K k s w)->Fin a w
 | (i,p)::rs,a,K=>∃ o,ops[i]?=some o/\(∀ s w,C s w->s i=none->(∀ k,mK md o k=true->K k s w)->gJ P o a w fun v w'=>p v w'/\C (upv s i v) w'/\G w w')/\∀ v,DB P md ops C G Fin rs (a.put o.dst v) (ZG K i fun s w=>s i=some v/\p v w)
def qN (j:Nat):List (Nat×(Value->World->Prop))->List (Nat×(Value->World->Prop))
 | []=>[]
 | p::r=>bif Nat.beq p.1 j then r else p::qN j r
theorem pM {p:Nat×(Value->World->Prop)} {r:List (Nat×(Value->World->Prop))}:qN p.1 (p::r)=r:=by unfold qN;rw [Nat.beq_refl];rfl
theorem r_ {p:Nat×(Value->World->Prop)} {j:Nat} {r:List (Nat×(Value->World->Prop))} (h:p.1≠j):qN j (p::r)=p::qN j r:=by
 have:Nat.beq p.1 j=false:=by
  cases h':Nat.beq p.1 j with
  | false=>rfl
  | true=>exact absurd (Nat.eq_of_beq_eq_true h') h
 conv=>lhs;unfold qN
 rw [this];rfl
theorem LO (j:Nat):∀ r:List (Nat×(Value->World->Prop)),(qN j r).Sublist r
 | []=>List.Sublist.refl _
 | p::r=>by
  by_cases h:p.1=j
  ·subst h;rw [pM];exact List.sublist_cons_self ..
  ·rw [r_ h];exact (LO j r).cons_cons _
theorem LQ {j:Nat}:∀ {r:List (Nat×(Value->World->Prop))},j∈r.map (·.1)->(qN j r).length+1=r.length
 | [],h=>by cases h
 | p::r,h=>by
  by_cases hp:p.1=j
  ·subst hp;rw [pM];rfl
  ·rw [r_ hp,E_,E_,LQ ((List.mem_cons.1 h).resolve_left fun e=>hp e.symm)]
theorem LP {j k:Nat} (hk:k≠j):∀ {r:List (Nat×(Value->World->Prop))},k∈r.map (·.1)->k∈(qN j r).map (·.1)
 | [],h=>by cases h
 | p::r,h=>by
  by_cases hp:p.1=j
  ·subst hp;rw [pM];exact (List.mem_cons.1 h).resolve_left hk
  ·rw [r_ hp,List.map_cons]
   rcases List.mem_cons.1 h with e | h
   ·rw [e];exact List.mem_cons_self ..
   ·exact List.mem_cons_of_mem _ (LP hk h)
theorem wG {j:Nat}:∀ {r:List (Nat×(Value->World->Prop))},(r.map (·.1)).Pairwise (·<·)->j∉(qN j r).map (·.1)
 | [],_=>by simp [qN]
 | p::r,h=>by
  rw [List.map_cons,List.pairwise_cons] at h
  by_cases hp:p.1=j
  ·subst hp
   rw [pM];intro hm;have:=h.1 _ hm;omega
  ·rw [r_ hp,List.map_cons]
   intro hm;rcases List.mem_cons.1 hm with e | hm
   ·exact hp e.symm
   ·exact wG h.2 hm
structure CR (md:Region.Mode) (ops:Array Oper) (idx:List Nat):Prop where
 one:∀ j∈idx,∃ o,ops[j]?=some o/\o.guard=none/\∀ e∈o.after,Region.binds md e=true->e.on<j
 two:∀ i∈idx,∀ j∈idx,i<j->∀ oi oj,ops[i]?=some oi->ops[j]?=some oj->mK md oj i=false->oi.apart ops oj=true
theorem CR.sub {ops:Array Oper} {l m:List Nat} (h:CR md ops l) (hs:∀ x∈m,x∈l):CR md ops m:=⟨fun j hj=>h.one j (hs j hj),fun i hi j hj=>h.two i (hs i hi) j (hs j hj)⟩
variable {ops:Array Oper} {C:uY->World->Prop} {G:World->World->Prop} {Fin:Act->World->Prop}
theorem KD (aD4:∀ (j:Nat) (o:Oper) cs b,ops[j]?=some o->o.op≠.select cs b) {j:Nat} {oj:Oper} {q:Value->World->Prop} (X4:ops[j]?=some oj):∀ (rs:List (Nat×(Value->World->Prop))) (a:Act) (K:xN),
    (rs.map (·.1)).Pairwise (·<·)->CR md ops (rs.map (·.1))->(j,q)∈rs->(∀ i∈rs.map (·.1),i<j->mK md oj i=false)->DB P md ops C G Fin rs a K->
    (∀ s w,C s w->s j=none->(∀ k,mK md oj k=true->K k s w)->gJ P oj a w fun v w'=>q v w'/\C (upv s j v) w'/\G w w')/\∀ v,DB P md ops C G Fin (qN j rs) (a.put oj.dst v) (ZG K j fun s w=>s j=some v/\q v w)
 | [],a,K,_,_,hm,_,_=>by cases hm
 | (i,p)::rs,a,K,hp,pY,hm,hw,h=>by
  rw [List.map_cons,List.pairwise_cons] at hp;obtain ⟨oi,hoi,h1,h2⟩:=h
  by_cases xM:i=j
  ·subst xM
   have hpq:p=q:=by
    rcases List.mem_cons.1 hm with e | hm
    ·injection e with _ e;exact e.symm
    ·have:=hp.1 _ (List.mem_map.2 ⟨_,hm,rfl⟩)
     dsimp only at this;omega
   subst hpq;rw [hoi] at X4;injection X4 with X4;subst X4;rw [pM (p:=(i,p))];exact ⟨h1,h2⟩
  ·have hm':(j,q)∈rs:=(List.mem_cons.1 hm).resolve_left fun e=>xM (by injection e with e _;exact e.symm)
   have aW:i<j:=hp.1 _ (List.mem_map.2 ⟨_,hm',rfl⟩);have jS:i∈((i,p)::rs).map (·.1):=List.mem_cons_self ..;have hmj:j∈((i,p)::rs).map (·.1):=List.mem_cons_of_mem _ (List.mem_map.2 ⟨_,hm',rfl⟩);have hwi:=hw i jS aW;have hap:=Oper.apart_spec (pY.two i jS j hmj aW oi oj hoi X4 hwi);have aUF:=pY.sub (m:=rs.map (·.1)) fun x hx=>List.mem_cons_of_mem _ hx;have hw':∀ k∈rs.map (·.1),k<j->mK md oj k=false:=fun k hk=>hw k (List.mem_cons_of_mem _ hk);have ih:=fun v=>KD aD4 X4 rs (a.put oi.dst v) (ZG K i fun s w=>s i=some v/\p v w) hp.2 aUF hm' hw' (h2 v);refine ⟨fun s w hC hn hK=>?_,fun v=>?_⟩
   ·have h3:=(ih undef).1 s w hC hn fun k hk=>by
     have hki:k≠i:=fun e=>by rw [e,hwi] at hk;cases hk
     rw [m8 hki];exact hK k hk
    unfold gJ at h3 ⊢;rwa [execOp_put oj (fun cs b=>aD4 j oj cs b X4) a oi.dst undef hap.1] at h3
   ·rw [r_ (p:=(i,p)) xM]
    refine ⟨oi,hoi,fun s w hC hn hK=>?_,fun v'=>?_⟩
    ·have hnj:mK md oi j=false:=by
      cases hb:mK md oi j with
      | false=>rfl
      | true=>
       obtain ⟨e,he,bH,bL⟩:=FD hb;obtain ⟨o',SO,_,hlt'⟩:=pY.one i jS;rw [hoi] at SO;injection SO with SO;subst SO;have:=hlt' e he bH;omega
     have h3:=h1 s w hC hn fun k hk=>by
      have U6:k≠j:=fun e=>by rw [e,hnj] at hk;cases hk
      have:=hK k hk;rwa [m8 U6] at this
     unfold gJ at h3 ⊢;rwa [execOp_put oi (fun cs b=>aD4 i oi cs b hoi) a oj.dst v hap.2.2]
    ·have h3:=(ih v').2 v
     rw [Act.put_comm a v' v hap.2.1,aCm xM] at h3;exact h3
theorem S4 {S:World->Prop} (hCS:∀ s w,C s w->S w) (aD4:∀ (j:Nat) (o:Oper) cs b,ops[j]?=some o->o.op≠.select cs b):∀ (fuel:Nat) (rs:List (Nat×(Value->World->Prop))) (listed:Array Bool) (a:Act) (w:Wo) (K:xN) (s:uY),
    rs.length=fuel->listed.size=ops.size->(rs.map (·.1)).Pairwise (·<·)->CR md ops (rs.map (·.1))->(∀ j,j<ops.size->listed.getD j true=false->j∈rs.map (·.1))->(∀ j∈rs.map (·.1),listed.getD j true=false)->
    (∀ p∈rs,∀ v w w',p.2 v w->G w w'->p.2 v w')->(∀ k s w j v w',j∈rs.map (·.1)->K k s w->G w w'->K k (upv s j v) w')->DB P md ops C G (Q .normal) rs a K->C s w->(∀ k,K k s w)->(∀ j∈rs.map (·.1),s j=none)->wpAnyH P md ops Q S fuel listed a w:=by
 intro fuel
 induction fuel with
 | zero=>
  intro rs listed a w K s hl gW hp pY hcov hun QC hKs h hC hK SP;have:rs=[]:=List.eq_nil_of_length_eq_zero hl;subst this;refine ⟨?_,h s w hC hK⟩;rw [List.eq_nil_iff_forall_not_mem];intro j hj;obtain ⟨h0,o,ho,_⟩:=mem_ready.1 hj;have:=hcov j (Array.getElem?_eq_some_iff.1 ho).1 h0;cases this
 | succ fuel ih=>
  intro rs listed a w K s hl gW hp pY hcov hun QC hKs h hC hK SP;refine ⟨fun h0=>?_,fun j hj=>?_⟩
  ·exfalso
   cases rs with
   | nil=>simp at hl
   | cons p r=>
    have jS:p.1∈(p::r).map (·.1):=List.mem_cons_self ..;obtain ⟨o,ho,_,aW⟩:=pY.one p.1 jS;have:p.1∈Region.ready md ops listed:=by
     refine mem_ready.2 ⟨hun _ jS,o,ho,fun e he hb=>?_⟩;have hel:=aW e he hb;have GN:=(Array.getElem?_eq_some_iff.1 ho).1;cases hg:listed.getD e.on true with
     | true=>rw [<-oG (by omega)];exact hg
     | false=>
      have:=hcov e.on (by omega) hg;rw [List.map_cons] at this;rcases List.mem_cons.1 this with e1 | hm
      ·omega
      ·rw [List.map_cons,List.pairwise_cons] at hp
       have:=hp.1 _ hm;omega
    rw [h0] at this;cases this
  ·obtain ⟨h0,oj,X4,CH⟩:=mem_ready.1 hj
   have hjs:=(Array.getElem?_eq_some_iff.1 X4).1;have hmj:=hcov j hjs h0;obtain ⟨⟨j',q⟩,hq,rfl⟩:=List.mem_map.1 hmj;dsimp only at *;have hwn:∀ i∈rs.map (·.1),i<j'->mK md oj i=false:=fun i hi _=>by
    cases hb:mK md oj i with
    | false=>rfl
    | true=>
     obtain ⟨e,he,bH,bL⟩:=FD hb;have h3:=CH e he bH;have h4:=hun i hi;have CD:i<listed.size:=by
      rw [bL] at h3;exact aEN h3
     rw [bL,<-oG CD,h4] at h3;cases h3
   obtain ⟨h1,h2⟩:=KD aD4 X4 rs a K hp pY hq hwn h;obtain ⟨o',SO,hg,_⟩:=pY.one j' hmj;rw [X4] at SO;injection SO with SO;subst SO;unfold wpOp;rw [X4];have aO8:Region.wanted oj (yielded ops a.tmps)=true:=by simp [Region.wanted,hg]
   simp only [aO8,if_true];have aH3:=LO j' rs;have X2:∀ x∈(qN j' rs).map (·.1),x∈rs.map (·.1):=fun x hx=>(aH3.map (·.1)).subset hx;refine .inl (S3 (h1 s w hC (SP j' hmj) fun k _=>hK k) fun v w' ⟨g1,g2,g3⟩=>⟨hCS _ _ g2,?_⟩);refine ih (qN j' rs) _ _ w' (ZG K j' fun s w=>s j'=some v/\q v w) (upv s j' v) (by have:=LQ hmj;omega) (by simp [gW]) (hp.sublist (aH3.map (·.1))) (pY.sub X2) (fun k hk hu=>?_) (fun k hk=>?_) (fun p hp=>QC p (aH3.subset hp)) (fun k s1 w1 j1 v1 w2 hj1 hk hG=>?_) (h2 v) g2 (fun k=>?_) fun k hk=>?_
   ·by_cases U6:j'=k
    ·subst U6
     simp [gW,hjs] at hu
    ·rw [getD_set_ne true U6] at hu
     exact LP (fun e=>U6 e.symm) (hcov k hk hu)
   ·have U6:j'≠k:=fun e=>by subst e;exact wG hp hk
    rw [getD_set_ne true U6];exact hun k (X2 k hk)
   ·by_cases U6:k=j'
    ·subst U6
     rw [rI] at hk ⊢;exact ⟨by rw [vL (fun e=>by subst e;exact wG hp hj1)];exact hk.1,QC _ hq v w1 w2 hk.2 hG⟩
    ·rw [m8 U6] at hk ⊢;exact hKs k s1 w1 j1 v1 w2 (X2 _ hj1) hk hG
   ·by_cases U6:k=j'
    ·subst U6;rw [rI];exact ⟨FF ..,g1⟩
    ·rw [m8 U6];exact hKs k s w j' v w' hmj (hK k) g3
   ·rw [vL (fun e=>by subst e;exact wG hp hk)]
    exact SP k (X2 k hk)
def aCX (md:Region.Mode) (ops:Array Oper) (listed:Array Bool) (idx:List Nat):Bool:=
 Region.noSelect ops && (listed.size == ops.size) && ((List.range ops.size).filter (fun j=>!listed.getD j true) == idx) &&
 idx.all (fun j=>match ops[j]? with
  | some oj=>oj.guard.isNone && oj.after.all (fun e=>!Region.binds md e || decide (e.on<j)) && idx.all fun i=>!decide (i<j) || match ops[i]? with
   | some oi=>mK md oj i || oi.apart ops oj
   | none=>false
  | none=>false)
theorem TJ {listed:Array Bool} {idx:List Nat} (h:aCX md ops listed idx=true):(∀ (j:Nat) (o:Oper) cs b,ops[j]?=some o->o.op≠.select cs b)/\listed.size=ops.size/\(List.range ops.size).filter (fun j=>!listed.getD j true)=idx/\CR md ops idx:=by
 unfold aCX at h;simp only [Bool.and_eq_true,beq_iff_eq,List.all_eq_true] at h;obtain ⟨⟨⟨h1,h2⟩,h3⟩,h4⟩:=h;refine ⟨Region.noSelect_spec h1,h2,h3,fun j hj=>?_,fun i hi j hj xM oi oj hoi X4 hw=>?_⟩
 ·have:=h4 j hj
  cases ho:ops[j]? with
  | none=>rw [ho] at this;cases this
  | some o=>
   rw [ho] at this;simp only [Bool.and_eq_true,Option.isNone_iff_eq_none,Array.all_eq_true_iff_forall_mem,Bool.or_eq_true,Bool.not_eq_true',decide_eq_true_eq] at this;exact ⟨o,rfl,this.1.1,fun e he hb=>(this.1.2 e he).resolve_left (by simp [hb])⟩
 ·have:=h4 j hj
  rw [X4] at this;simp only [Bool.and_eq_true,List.all_eq_true] at this;have h5:=this.2 i hi;rw [hoi] at h5;simp only [Bool.or_eq_true,Bool.not_eq_true',decide_eq_false_iff_not,hw,Bool.false_eq_true,false_or] at h5;exact h5.resolve_left fun h=>h xM
theorem aCW {S:World->Prop} {L:List Oper} {fuel:Nat} {listed:Array Bool} {a:Act} {w:Wo} (C:uY->World->Prop) (G:World->World->Prop) (rs:List (Nat×(Value->World->Prop))) (hl:rs.length=fuel) (hB:aCX md L.toArray listed (rs.map (·.1))=true)
    (QC:∀ p∈rs,∀ v w w',p.2 v w->G w w'->p.2 v w') (hCS:∀ s w,C s w->S w) (hC:C (fun _=>none) w) (h:DB P md L.toArray C G (Q .normal) rs a fun _ _ _=>True):wpAnyH P md L.toArray Q S fuel listed a w:=by
 obtain ⟨h1,h2,h3,h4⟩:=TJ hB;refine S4 hCS h1 fuel rs listed a w (fun _ _ _=>True) (fun _=>none) hl h2 ?_ h4 (fun j hj hu=>?_) (fun j hj=>?_) QC (fun _ _ _ _ _ _ _ _ _=>trivial) h hC (fun _=>trivial) fun _ _=>rfl
 ·rw [<-h3];exact List.Pairwise.filter _ List.pairwise_lt_range
 ·rw [<-h3,List.mem_filter,List.mem_range]
  exact ⟨hj,by simp only [hu];rfl⟩
 ·rw [<-h3,List.mem_filter] at hj
  simpa using hj.2
theorem d_ {i:Nat} {p:Value->World->Prop} {rs:List (Nat×(Value->World->Prop))} {L:List Oper} {a:Act} {K:xN} {o:Oper} (ho:L[i]?=some o) (h1:∀ s w,C s w->s i=none->(∀ k,mK md o k=true->K k s w)->gJ P o a w fun v w'=>p v w'/\C (upv s i v) w'/\G w w')
    (h2:∀ v,DB P md L.toArray C G Fin rs (a.put o.dst v) (ZG K i fun s w=>s i=some v/\p v w)):DB P md L.toArray C G Fin ((i,p)::rs) a K:=⟨o,by rw [List.getElem?_toArray];exact ho,h1,h2⟩
theorem BQ {a:Act} {K:xN} (h:∀ s w,C s w->(∀ k,K k s w)->Fin a w):DB P md ops C G Fin [] a K:=h
def YY (i j:Nat) (s:uY) (w:Wo):Prop:=(∀ v,s i=some v->∃ g,v=.pointer (some ⟨g,0,none⟩)/\g<w.heap.size)/\(∀ v,s j=some v->∃ g,v=.pointer (some ⟨g,0,none⟩)/\g<w.heap.size)/\∀ g h,s i=some (.pointer (some ⟨g,0,none⟩))->s j=some (.pointer (some ⟨h,0,none⟩))->g≠h
theorem ZX (i j:Nat) (w:Wo):YY i j (fun _=>none) w:=⟨fun v h=>(by cases h),fun v h=>(by cases h),fun g h h1=>(by cases h1)⟩
theorem YY.other {i j k:Nat} {s:uY} {w w':Wo} (h:YY i j s w) (hi:i≠k) (hj:j≠k) (hs:w.heap.size<=w'.heap.size) (v:Value):YY i j (upv s k v) w':=by
 unfold YY;rw [vL hi,vL hj];refine ⟨fun v hv=>?_,fun v hv=>?_,h.2.2⟩
 ·obtain ⟨g,e,hl⟩:=h.1 v hv
  exact ⟨g,e,by omega⟩
 ·obtain ⟨g,e,hl⟩:=h.2.1 v hv
  exact ⟨g,e,by omega⟩
theorem YY.left {i j:Nat} {s:uY} {w w':Wo} (h:YY i j s w) (xM:j≠i) (hs:w.heap.size<w'.heap.size):YY i j (upv s i (.pointer (some ⟨w.heap.size,0,none⟩))) w':=by
 unfold YY;rw [FF,vL xM];refine ⟨fun v hv=>?_,fun v hv=>?_,fun g k h1 h2=>?_⟩
 ·injection hv with hv
  exact ⟨_,hv.symm,hs⟩
 ·obtain ⟨g,e,hl⟩:=h.2.1 v hv
  exact ⟨g,e,by omega⟩
 ·injection h1 with h1
  injection h1 with h1;injection h1 with h1;injection h1 with h1;obtain ⟨g',e,hl⟩:=h.2.1 _ h2;injection e with e;injection e with e;injection e with e;omega
theorem YY.right {i j:Nat} {s:uY} {w w':Wo} (h:YY i j s w) (xM:i≠j) (hs:w.heap.size<w'.heap.size):YY i j (upv s j (.pointer (some ⟨w.heap.size,0,none⟩))) w':=by
 unfold YY;rw [FF,vL xM];refine ⟨fun v hv=>?_,fun v hv=>?_,fun g k h1 h2=>?_⟩
 ·obtain ⟨g,e,hl⟩:=h.1 v hv
  exact ⟨g,e,by omega⟩
 ·injection hv with hv
  exact ⟨_,hv.symm,hs⟩
 ·injection h2 with h2
  injection h2 with h2;injection h2 with h2;injection h2 with h2;obtain ⟨g',e,hl⟩:=h.1 _ h1;injection e with e;injection e with e;injection e with e;omega
theorem nS {S:World->Prop} {id:Nat} {a:Act} {w:Wo} {L:List Oper} (n:Nat) (oM oN:Oper) (hm:P.follows .mixedOrders=true) (hs:rU .any L (n+1)=true) (yB:rU .any (L.take (n+1)) n=true) (hM:L[n]?=some oM) (hN:L[n+1]?=some oN) (hS:S w.drew)
    (h:S w.drew->wpAnyH P .any (L.take n).toArray (kY P (L.take (n+1)).toArray oM (kY P L.toArray oN Q)) S n (Array.replicate n false) a w.drew):(Code.region id L.toArray true).wp P Q a w:=by
 obtain ⟨h1,h2,h3⟩:=kP hs;have ht:(L.take (n+1)).take n=L.take n:=by rw [List.take_take,Nat.min_eq_left (by omega)]
 refine wp_region_any hm ?_;rw [show L.toArray.size=n+1+1 from by simpa using h1,Array.replicate_succ];have wV:∀ (F:List Oper) (k:Nat),mD .any F (Array.replicate k false):=fun F k j o ho hj=>by
  rcases Nat.lt_or_ge j k with h' | h'<;>simp [h'] at hj
 refine jC hs hN (n+1) _ a _ (by simp) (wV _ _) ?_;rw [Array.replicate_succ];refine jC yB (by rw [List.getElem?_take_of_lt (by omega)];exact hM) n _ a _ (by simp) (wV _ _) ?_;rw [ht];exact wpAny_of_held _ _ _ _ (h hS)
end
def GX:Nat->Nat->List UInt8
 | 0,_=>[]
 | k+1,r=>GX k (r / 10)++[UInt8.ofNat (48+r % 10)]
theorem QW:∀ (k r:Nat),(GX k r).length=k
 | 0,_=>rfl
 | k+1,r=>by rw [GX,iC,QW k];rfl
theorem eU {u:Nat} (h:u<10):Lib.decDigits u=[UInt8.ofNat (48+u)]:=by rw [Lib.decDigits,dif_pos h]
theorem sW {u:Nat} (h:¬u<10):Lib.decDigits u=Lib.decDigits (u / 10)++[UInt8.ofNat (48+u % 10)]:=by rw [Lib.decDigits,dif_neg h]
theorem LN:∀ (k q r:Nat),0<q->r<10^k->Lib.decDigits (q*10^k+r)=Lib.decDigits q++GX k r
 | 0,q,r,_,hr=>by
  rw [Nat.pow_zero] at hr ⊢;rw [GX,List.append_nil,Nat.mul_one,show q+r=q from by omega]
 | k+1,q,r,hq,hr=>by
  have h1:1<=10^k:=Nat.one_le_pow _ _ (by decide);have h2:10^(k+1)=10^k*10:=Nat.pow_succ ..;have h3:q*10^(k+1)=q*10^k*10:=by rw [h2,Nat.mul_assoc]
  have h4:1*10^k<=q*10^k:=Nat.mul_le_mul_right _ hq;rw [sW (by omega),GX,show (q*10^(k+1)+r) / 10=q*10^k+r / 10 from by omega,show (q*10^(k+1)+r) % 10=r % 10 from by omega,
   LN k q (r / 10) hq (by rw [h2] at hr;omega),List.append_assoc]
theorem LF:∀ k:Nat,GX k 0=List.replicate k 48
 | 0=>rfl
 | k+1=>by
  rw [GX,Nat.zero_div,LF k,List.replicate_succ'];rfl
theorem nH (u:Nat):1<=(Lib.decDigits u).length:=by
 by_cases h:u<10
 ·rw [eU h];exact lR
 ·rw [sW h,iC];simp
theorem GW:∀ (k r:Nat),1<=k->r<10^k->GX k r=List.replicate (k-(Lib.decDigits r).length) 48++Lib.decDigits r
 | 0,_,h,_=>absurd h (by decide)
 | k+1,r,_,hr=>by
  by_cases h:r<10
  ·rw [eU h,GX,Nat.div_eq_of_lt h,LF,Nat.mod_eq_of_lt h]
   rfl
  ·have hk:1<=k:=by
    rcases Nat.eq_zero_or_pos k with rfl | h'
    ·simp at hr;omega
    ·exact h'
   rw [sW h,GX,GW k (r / 10) hk (by rw [Nat.pow_succ] at hr;omega),List.append_assoc,iC,List.length_singleton,Nat.add_sub_add_right]
theorem Q_ {k r:Nat} (hk:1<=k) (hr:r<10^k):(Lib.decDigits r).length<=k:=by
 have h:=congrArg List.length (GW k r hk hr);rw [QW,iC] at h;omega
def dvg (acc:Nat) (l:List UInt8):Nat:=l.foldl (fun a c=>a*10+(c.toNat-48)) acc
def dv (l:List UInt8):Nat:=dvg 0 l
theorem AI:∀ (l:List UInt8) (acc:Nat),dvg acc l=acc*10^l.length+dv l
 | [],acc=>by simp [dvg,dv]
 | c::r,acc=>by
  have h1:=AI r (acc*10+(c.toNat-48));have h2:=AI r (0*10+(c.toNat-48));unfold dv dvg at *;rw [List.foldl_cons,List.foldl_cons,h1,h2,E_,Nat.pow_succ];grind
theorem wF (a b:List UInt8):dv (a++b)=dv a*10^b.length+dv b:=by
 have h:dv (a++b)=dvg (dv a) b:=by unfold dv dvg;rw [List.foldl_append]
 rw [h,AI]
theorem aE8 {d:Nat} (h:d<10):(UInt8.ofNat (48+d)).toNat-48=d:=by
 have:(UInt8.ofNat (48+d)).toNat=48+d:=by rw [UInt8.toNat_ofNat'];omega
 omega
theorem NA {d:Nat} (h:d<10):dv [UInt8.ofNat (48+d)]=d:=by
 show 0*10+((UInt8.ofNat (48+d)).toNat-48)=d;rw [aE8 h];omega
theorem yE (u:Nat):dv (Lib.decDigits u)=u:=by
 induction u using Nat.strongRecOn with
 | _ u ih=>
  by_cases h:u<10
  ·rw [eU h,NA h]
  ·rw [sW h,wF,ih (u / 10) (by omega),NA (by omega)]
   simp;omega
def NR (c:UInt8):Prop:=48<=c.toNat/\c.toNat<=57
theorem NG (u:Nat):∀ c∈Lib.decDigits u,NR c:=by
 induction u using Nat.strongRecOn with
 | _ u ih=>
  intro c hc;have key:∀ d,d<10->NR (UInt8.ofNat (48+d)):=fun d hd=>by
   have:(UInt8.ofNat (48+d)).toNat=48+d:=by rw [UInt8.toNat_ofNat'];omega
   exact ⟨by omega,by omega⟩
  by_cases h:u<10
  ·rw [eU h,List.mem_singleton] at hc
   subst hc;exact key u h
  ·rw [sW h,List.mem_append,List.mem_singleton] at hc
   rcases hc with hc | rfl
   ·exact ih (u / 10) (by omega) c hc
   ·exact key _ (by omega)
def DQ (l:List UInt8):Prop:=l≠[]/\(∀ c∈l,NR c)/\(1<l.length->l.head?≠some 48)
theorem aFd (u:Nat):0<u->(Lib.decDigits u).head?≠some 48:=by
 induction u using Nat.strongRecOn with
 | _ u ih=>
  intro hu
  by_cases h:u<10
  ·rw [eU h]
   intro he;have he:UInt8.ofNat (48+u)=48:=Option.some.inj he;have:(UInt8.ofNat (48+u)).toNat=48+u:=by rw [UInt8.toNat_ofNat'];omega
   rw [he] at this;have h48:(48:UInt8).toNat=48:=rfl;omega
  ·rw [sW h,List.head?_append]
   have h1:=ih (u / 10) (by omega) (by omega);have h2:=nH (u / 10);cases hd:Lib.decDigits (u / 10) with
   | nil=>rw [hd] at h2;simp at h2
   | cons c t=>rw [hd] at h1;simpa using h1
theorem aA4 (u:Nat):DQ (Lib.decDigits u):=by
 refine ⟨fun h=>?_,NG u,fun h=>?_⟩
 ·have:=nH u
  rw [h] at this;simp at this
 ·by_cases h0:u=0
  ·subst h0
   rw [eU (by decide)] at h;simp at h
  ·exact aFd u (by omega)
theorem MV {c:UInt8} (h:NR c):∃ d,d<10/\c=UInt8.ofNat (48+d):=by
 refine ⟨c.toNat-48,by have:=h.2;omega,?_⟩;apply UInt8.toNat_inj.1;rw [UInt8.toNat_ofNat'];have:=h.1;have:=h.2;omega
theorem aMu:∀ {l:List UInt8},l≠[]->(∀ c∈l,NR c)->l.head?≠some 48->0<dv l
 | [],h,_,_=>absurd rfl h
 | c::r,_,hd,hh=>by
  obtain ⟨d,X8,rfl⟩:=MV (hd c (by simp));have h1:=AI r (0*10+((UInt8.ofNat (48+d)).toNat-48));have h2:dv (UInt8.ofNat (48+d)::r)=dvg (0*10+((UInt8.ofNat (48+d)).toNat-48)) r:=rfl;rw [h2,h1,aE8 X8];have hd0:d≠0:=fun e=>by subst e;exact hh rfl
  have:1*10^r.length<=(0*10+d)*10^r.length:=Nat.mul_le_mul_right _ (by omega);have:1<=10^r.length:=Nat.one_le_pow _ _ (by decide);omega
theorem oU {l:List UInt8} (h:DQ l):Lib.decDigits (dv l)=l:=by
 obtain ⟨n,hn⟩:∃ n,l.length=n:=⟨_,rfl⟩
 induction n generalizing l with
 | zero=>exact absurd (List.eq_nil_of_length_eq_zero hn) h.1
 | succ n ih=>
  obtain ⟨a,c,rfl⟩:∃ a c,l=a++[c]:=⟨l.dropLast,l.getLast h.1,(List.dropLast_concat_getLast h.1).symm⟩;obtain ⟨d,hd,rfl⟩:=MV (h.2.1 c (by simp));rw [wF,NA hd]
  by_cases ha:a=[]
  ·subst ha
   rw [List.nil_append,show dv []=0 from rfl];simp only [List.length_singleton,Nat.pow_one,Nat.zero_mul,Nat.zero_add];exact eU hd
  ·have E1:1<=a.length:=by cases a with | nil=>exact absurd rfl ha | cons _ _=>simp
   have hh:a.head?≠some 48:=by
    have:=h.2.2 (by simp;omega);cases a with
    | nil=>exact absurd rfl ha
    | cons x t=>simpa using this
   have hdg:∀ c∈a,NR c:=fun c hc=>h.2.1 c (List.mem_append_left _ hc);have hp:=aMu ha hdg hh;have VC:DQ a:=⟨ha,hdg,fun _=>hh⟩;have:=ih VC (by simp at hn;omega);simp only [List.length_singleton,Nat.pow_one];rw [sW (by omega),show (dv a*10+d) / 10=dv a from by omega,show (dv a*10+d) % 10=d from by omega,this]
theorem NF {m n:Nat} (h:Lib.decDigits m=Lib.decDigits n):m=n:=by rw [<-yE m,<-yE n,h]
theorem G3:∀ {l:List UInt8},(∀ c∈l,NR c)->dv l<10^l.length:=by
 intro l;obtain ⟨n,hn⟩:∃ n,l.length=n:=⟨_,rfl⟩
 induction n generalizing l with
 | zero=>intro _;rw [List.eq_nil_of_length_eq_zero hn];decide
 | succ n ih=>
  intro h;have cP:l≠[]:=fun e=>by subst e;simp at hn
  obtain ⟨a,c,rfl⟩:∃ a c,l=a++[c]:=⟨l.dropLast,l.getLast cP,(List.dropLast_concat_getLast cP).symm⟩;obtain ⟨d,hd,rfl⟩:=MV (h c (by simp));have:=ih (l:=a) (by simp at hn;omega) (fun c hc=>h c (List.mem_append_left _ hc));rw [wF,NA hd,iC,List.length_singleton,Nat.pow_succ];omega
def xI (n:Nat):Nat:=(Lib.decDigits n).length
theorem T_ {n k:Nat} (hk:1<=k) (h:n<10^k):xI n<=k:=Q_ hk h
theorem aDH (n:Nat):n<10^xI n:=by
 have:=G3 (NG n);rwa [yE] at this
end
