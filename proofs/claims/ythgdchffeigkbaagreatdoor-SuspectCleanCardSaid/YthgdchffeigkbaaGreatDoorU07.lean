import Derived.Test.YthgdchffeigkbaaGreatDoorU03
import Derived.Lib.Hide
import Derived.Lib.ItoaNum
set_option linter.unusedVariables false
set_option linter.unusedSimpArgs false
namespace Go.Proofs.YthgdchffeigkbaaGreatDoor
section
open Go
section
variable {P:Program} {Q:Exit→Act→World→Prop} {md:Region.Mode}
def relyUpon (P:Program) (K:Value→World→Prop):Result Next→Prop
 | .ok (.value v) w'=>K v w'
 | .ok .skip w'=>K undef w'
 | .ok (.enter f args) w'=>Calls P f args w' fun e w''=>∃ v,e=.returned v∧K v w''
 | _=>False
def relyOp (P:Program) (o:Oper) (a:Act) (w:World) (K:Value→World→Prop):Prop:=relyUpon P K ((execOp a.eval o).run P w)
theorem wp_of_rely {o:Oper} {a:Act} {w:World} {K:Value→World→Prop} {N:Act→World→Prop} (h:relyOp P o a w K) (hN:∀ v w',K v w'→N (a.put o.dst v) w'):o.wp P a w N Q:=by
 unfold relyOp at h;unfold Oper.wp;generalize (execOp a.eval o).run P w=r at *;cases r with
 | ok n w'=>
  cases n<;>simp only [relyUpon] at h<;>simp only [Oper.upon]
  case value v=>exact hN _ _ h
  case skip=>exact hN _ _ h
  case enter f args=>exact h.mono fun e w'' ⟨v,he,hk⟩=>by subst he;exact hN _ _ hk
 | halt x w'=>simp only [relyUpon] at h
def waitsB (md:Region.Mode) (o:Oper) (k:Nat):Bool:=o.after.any fun e=>Region.binds md e && e.on == k
theorem waits_spec {o:Oper} {k:Nat} (h:waitsB md o k=true):∃ e∈o.after,Region.binds md e=true∧e.on=k:=by
 unfold waitsB at h;obtain ⟨e,he,hb⟩:=Array.any_eq_true'.1 h;simp only [Bool.and_eq_true,beq_iff_eq] at hb;exact ⟨e,he,hb.1,hb.2⟩
abbrev Vals:=Nat→Option Value
def upv (s:Vals) (i:Nat) (v:Value):Vals:=fun k=>bif Nat.beq k i then some v else s k
theorem upv_self (s:Vals) (i:Nat) (v:Value):upv s i v i=some v:=by unfold upv;rw [Nat.beq_refl];rfl
theorem upv_off {s:Vals} {i k:Nat} {v:Value} (h:k≠i):upv s i v k=s k:=by
 unfold upv;have:Nat.beq k i=false:=by
  cases h':Nat.beq k i with
  | false=>rfl
  | true=>exact absurd (Nat.eq_of_beq_eq_true h') h
 rw [this];rfl
abbrev Known:=Nat→Vals→World→Prop
def upd (K:Known) (i:Nat) (p:Vals→World→Prop):Known:=fun k=>bif Nat.beq k i then p else K k
theorem upd_self (K:Known) (i:Nat) (p:Vals→World→Prop):upd K i p i=p:=by unfold upd;rw [Nat.beq_refl];rfl
theorem upd_off {K:Known} {i k:Nat} {p:Vals→World→Prop} (h:k≠i):upd K i p k=K k:=by
 unfold upd;have:Nat.beq k i=false:=by
  cases h':Nat.beq k i with
  | false=>rfl
  | true=>exact absurd (Nat.eq_of_beq_eq_true h') h
 rw [this];rfl
theorem upd_comm {K:Known} {i j:Nat} {p q:Vals→World→Prop} (h:i≠j):upd (upd K i p) j q=upd (upd K j q) i p:=by
 funext k
 by_cases h1:k=i
 ·subst h1;rw [upd_off h,upd_self,upd_self]
 ·by_cases h2:k=j
  ·subst h2;rw [upd_self,upd_off h1,upd_self]
  ·rw [upd_off h2,upd_off h1,upd_off h1,upd_off h2]
def relyL (P:Program) (md:Region.Mode) (ops:Array Oper) (C:Vals→World→Prop) (G:World→World→Prop) (Fin:Act→World→Prop):List (Nat×(Value→World→Prop))→Act→Known→Prop
 | [],a,K=>∀ s w,C s w→(∀ k,K k s w)→Fin a w
 | (i,p)::rs,a,K=>∃ o,ops[i]?=some o∧(∀ s w,C s w→s i=none→(∀ k,waitsB md o k=true→K k s w)→relyOp P o a w fun v w'=>p v w'∧C (upv s i v) w'∧G w w')∧∀ v,relyL P md ops C G Fin rs (a.put o.dst v) (upd K i fun s w=>s i=some v∧p v w)
def cutAt (j:Nat):List (Nat×(Value→World→Prop))→List (Nat×(Value→World→Prop))
 | []=>[]
 | p::r=>bif Nat.beq p.1 j then r else p::cutAt j r
theorem cutAt_self {p:Nat×(Value→World→Prop)} {r:List (Nat×(Value→World→Prop))}:cutAt p.1 (p::r)=r:=by unfold cutAt;rw [Nat.beq_refl];rfl
theorem cutAt_off {p:Nat×(Value→World→Prop)} {j:Nat} {r:List (Nat×(Value→World→Prop))} (h:p.1≠j):cutAt j (p::r)=p::cutAt j r:=by
 have:Nat.beq p.1 j=false:=by
  cases h':Nat.beq p.1 j with
  | false=>rfl
  | true=>exact absurd (Nat.eq_of_beq_eq_true h') h
 conv=>lhs;unfold cutAt
 rw [this];rfl
theorem cutAt_sub (j:Nat):∀ r:List (Nat×(Value→World→Prop)),(cutAt j r).Sublist r
 | []=>List.Sublist.refl _
 | p::r=>by
  by_cases h:p.1=j
  ·subst h;rw [cutAt_self];exact List.sublist_cons_self ..
  ·rw [cutAt_off h];exact (cutAt_sub j r).cons_cons _
theorem cutAt_len {j:Nat}:∀ {r:List (Nat×(Value→World→Prop))},j∈r.map (·.1)→(cutAt j r).length+1=r.length
 | [],h=>by cases h
 | p::r,h=>by
  by_cases hp:p.1=j
  ·subst hp;rw [cutAt_self];rfl
  ·rw [cutAt_off hp,zV_,zV_,cutAt_len ((List.mem_cons.1 h).resolve_left fun e=>hp e.symm)]
theorem cutAt_mem {j k:Nat} (hk:k≠j):∀ {r:List (Nat×(Value→World→Prop))},k∈r.map (·.1)→k∈(cutAt j r).map (·.1)
 | [],h=>by cases h
 | p::r,h=>by
  by_cases hp:p.1=j
  ·subst hp;rw [cutAt_self];exact (List.mem_cons.1 h).resolve_left hk
  ·rw [cutAt_off hp,List.map_cons]
   rcases List.mem_cons.1 h with e | h
   ·rw [e];exact List.mem_cons_self ..
   ·exact List.mem_cons_of_mem _ (cutAt_mem hk h)
theorem cutAt_not {j:Nat}:∀ {r:List (Nat×(Value→World→Prop))},(r.map (·.1)).Pairwise (·<·)→j∉(cutAt j r).map (·.1)
 | [],_=>by simp [cutAt]
 | p::r,h=>by
  rw [List.map_cons,List.pairwise_cons] at h
  by_cases hp:p.1=j
  ·subst hp
   rw [cutAt_self];intro hm;have:=h.1 _ hm;omega
  ·rw [cutAt_off hp,List.map_cons]
   intro hm;rcases List.mem_cons.1 hm with e | hm
   ·exact hp e.symm
   ·exact cutAt_not h.2 hm
structure RelyOk (md:Region.Mode) (ops:Array Oper) (idx:List Nat):Prop where
 one:∀ j∈idx,∃ o,ops[j]?=some o∧o.guard=none∧∀ e∈o.after,Region.binds md e=true→e.on<j
 two:∀ i∈idx,∀ j∈idx,i<j→∀ oi oj,ops[i]?=some oi→ops[j]?=some oj→waitsB md oj i=false→oi.apart ops oj=true
theorem RelyOk.sub {ops:Array Oper} {l m:List Nat} (h:RelyOk md ops l) (hs:∀ x∈m,x∈l):RelyOk md ops m:=⟨fun j hj=>h.one j (hs j hj),fun i hi j hj=>h.two i (hs i hi) j (hs j hj)⟩
variable {ops:Array Oper} {C:Vals→World→Prop} {G:World→World→Prop} {Fin:Act→World→Prop}
theorem rely_pick (hsel:∀ (j:Nat) (o:Oper) cs b,ops[j]?=some o→o.op≠.select cs b) {j:Nat} {oj:Oper} {q:Value→World→Prop} (hoj:ops[j]?=some oj):∀ (rs:List (Nat×(Value→World→Prop))) (a:Act) (K:Known),
    (rs.map (·.1)).Pairwise (·<·)→RelyOk md ops (rs.map (·.1))→(j,q)∈rs→(∀ i∈rs.map (·.1),i<j→waitsB md oj i=false)→relyL P md ops C G Fin rs a K→
    (∀ s w,C s w→s j=none→(∀ k,waitsB md oj k=true→K k s w)→relyOp P oj a w fun v w'=>q v w'∧C (upv s j v) w'∧G w w')∧∀ v,relyL P md ops C G Fin (cutAt j rs) (a.put oj.dst v) (upd K j fun s w=>s j=some v∧q v w)
 | [],a,K,_,_,hm,_,_=>by cases hm
 | (i,p)::rs,a,K,hp,hok,hm,hw,h=>by
  rw [List.map_cons,List.pairwise_cons] at hp;obtain ⟨oi,hoi,h1,h2⟩:=h
  by_cases hij:i=j
  ·subst hij
   have hpq:p=q:=by
    rcases List.mem_cons.1 hm with e | hm
    ·injection e with _ e;exact e.symm
    ·have:=hp.1 _ (List.mem_map.2 ⟨_,hm,rfl⟩)
     dsimp only at this;omega
   subst hpq;rw [hoi] at hoj;injection hoj with hoj;subst hoj;rw [cutAt_self (p:=(i,p))];exact ⟨h1,h2⟩
  ·have hm':(j,q)∈rs:=(List.mem_cons.1 hm).resolve_left fun e=>hij (by injection e with e _;exact e.symm)
   have hlt:i<j:=hp.1 _ (List.mem_map.2 ⟨_,hm',rfl⟩);have hmi:i∈((i,p)::rs).map (·.1):=List.mem_cons_self ..;have hmj:j∈((i,p)::rs).map (·.1):=List.mem_cons_of_mem _ (List.mem_map.2 ⟨_,hm',rfl⟩);have hwi:=hw i hmi hlt;have hap:=Oper.apart_spec (hok.two i hmi j hmj hlt oi oj hoi hoj hwi);have hok':=hok.sub (m:=rs.map (·.1)) fun x hx=>List.mem_cons_of_mem _ hx;have hw':∀ k∈rs.map (·.1),k<j→waitsB md oj k=false:=fun k hk=>hw k (List.mem_cons_of_mem _ hk);have ih:=fun v=>rely_pick hsel hoj rs (a.put oi.dst v) (upd K i fun s w=>s i=some v∧p v w) hp.2 hok' hm' hw' (h2 v);refine ⟨fun s w hC hn hK=>?_,fun v=>?_⟩
   ·have h3:=(ih undef).1 s w hC hn fun k hk=>by
     have hki:k≠i:=fun e=>by rw [e,hwi] at hk;cases hk
     rw [upd_off hki];exact hK k hk
    unfold relyOp at h3 ⊢;rwa [execOp_put oj (fun cs b=>hsel j oj cs b hoj) a oi.dst undef hap.1] at h3
   ·rw [cutAt_off (p:=(i,p)) hij]
    refine ⟨oi,hoi,fun s w hC hn hK=>?_,fun v'=>?_⟩
    ·have hnj:waitsB md oi j=false:=by
      cases hb:waitsB md oi j with
      | false=>rfl
      | true=>
       obtain ⟨e,he,hb1,hb2⟩:=waits_spec hb;obtain ⟨o',ho',_,hlt'⟩:=hok.one i hmi;rw [hoi] at ho';injection ho' with ho';subst ho';have:=hlt' e he hb1;omega
     have h3:=h1 s w hC hn fun k hk=>by
      have hkj:k≠j:=fun e=>by rw [e,hnj] at hk;cases hk
      have:=hK k hk;rwa [upd_off hkj] at this
     unfold relyOp at h3 ⊢;rwa [execOp_put oi (fun cs b=>hsel i oi cs b hoi) a oj.dst v hap.2.2]
    ·have h3:=(ih v').2 v
     rw [Act.put_comm a v' v hap.2.1,upd_comm hij] at h3;exact h3
theorem wpAny_rely {S:World→Prop} (hCS:∀ s w,C s w→S w) (hsel:∀ (j:Nat) (o:Oper) cs b,ops[j]?=some o→o.op≠.select cs b):∀ (fuel:Nat) (rs:List (Nat×(Value→World→Prop))) (listed:Array Bool) (a:Act) (w:World) (K:Known) (s:Vals),
    rs.length=fuel→listed.size=ops.size→(rs.map (·.1)).Pairwise (·<·)→RelyOk md ops (rs.map (·.1))→(∀ j,j<ops.size→listed.getD j true=false→j∈rs.map (·.1))→(∀ j∈rs.map (·.1),listed.getD j true=false)→
    (∀ p∈rs,∀ v w w',p.2 v w→G w w'→p.2 v w')→(∀ k s w j v w',j∈rs.map (·.1)→K k s w→G w w'→K k (upv s j v) w')→relyL P md ops C G (Q .normal) rs a K→C s w→(∀ k,K k s w)→(∀ j∈rs.map (·.1),s j=none)→wpAnyH P md ops Q S fuel listed a w:=by
 intro fuel
 induction fuel with
 | zero=>
  intro rs listed a w K s hl hsz hp hok hcov hun hst hKs h hC hK hnn;have:rs=[]:=List.eq_nil_of_length_eq_zero hl;subst this;refine ⟨?_,h s w hC hK⟩;rw [List.eq_nil_iff_forall_not_mem];intro j hj;obtain ⟨h0,o,ho,_⟩:=mem_ready.1 hj;have:=hcov j (Array.getElem?_eq_some_iff.1 ho).1 h0;cases this
 | succ fuel ih=>
  intro rs listed a w K s hl hsz hp hok hcov hun hst hKs h hC hK hnn;refine ⟨fun h0=>?_,fun j hj=>?_⟩
  ·exfalso
   cases rs with
   | nil=>simp at hl
   | cons p r=>
    have hmi:p.1∈(p::r).map (·.1):=List.mem_cons_self ..;obtain ⟨o,ho,_,hlt⟩:=hok.one p.1 hmi;have:p.1∈Region.ready md ops listed:=by
     refine mem_ready.2 ⟨hun _ hmi,o,ho,fun e he hb=>?_⟩;have hel:=hlt e he hb;have hps:=(Array.getElem?_eq_some_iff.1 ho).1;cases hg:listed.getD e.on true with
     | true=>rw [←getD_tf (by omega)];exact hg
     | false=>
      have:=hcov e.on (by omega) hg;rw [List.map_cons] at this;rcases List.mem_cons.1 this with e1 | hm
      ·omega
      ·rw [List.map_cons,List.pairwise_cons] at hp
       have:=hp.1 _ hm;omega
    rw [h0] at this;cases this
  ·obtain ⟨h0,oj,hoj,hall⟩:=mem_ready.1 hj
   have hjs:=(Array.getElem?_eq_some_iff.1 hoj).1;have hmj:=hcov j hjs h0;obtain ⟨⟨j',q⟩,hq,rfl⟩:=List.mem_map.1 hmj;dsimp only at *;have hwn:∀ i∈rs.map (·.1),i<j'→waitsB md oj i=false:=fun i hi _=>by
    cases hb:waitsB md oj i with
    | false=>rfl
    | true=>
     obtain ⟨e,he,hb1,hb2⟩:=waits_spec hb;have h3:=hall e he hb1;have h4:=hun i hi;have hil:i<listed.size:=by
      rw [hb2] at h3;exact getD_out h3
     rw [hb2,←getD_tf hil,h4] at h3;cases h3
   obtain ⟨h1,h2⟩:=rely_pick hsel hoj rs a K hp hok hq hwn h;obtain ⟨o',ho',hg,_⟩:=hok.one j' hmj;rw [hoj] at ho';injection ho' with ho';subst ho';unfold wpOp;rw [hoj];have hwant:Region.wanted oj (yielded ops a.tmps)=true:=by simp [Region.wanted,hg]
   simp only [hwant,if_true];have hsub:=cutAt_sub j' rs;have hsub':∀ x∈(cutAt j' rs).map (·.1),x∈rs.map (·.1):=fun x hx=>(hsub.map (·.1)).subset hx;refine .inl (wp_of_rely (h1 s w hC (hnn j' hmj) fun k _=>hK k) fun v w' ⟨g1,g2,g3⟩=>⟨hCS _ _ g2,?_⟩);refine ih (cutAt j' rs) _ _ w' (upd K j' fun s w=>s j'=some v∧q v w) (upv s j' v) (by have:=cutAt_len hmj;omega) (by simp [hsz]) (hp.sublist (hsub.map (·.1))) (hok.sub hsub') (fun k hk hu=>?_) (fun k hk=>?_) (fun p hp=>hst p (hsub.subset hp)) (fun k s1 w1 j1 v1 w2 hj1 hk hG=>?_) (h2 v) g2 (fun k=>?_) fun k hk=>?_
   ·by_cases hkj:j'=k
    ·subst hkj
     simp [hsz,hjs] at hu
    ·rw [getD_set_ne true hkj] at hu
     exact cutAt_mem (fun e=>hkj e.symm) (hcov k hk hu)
   ·have hkj:j'≠k:=fun e=>by subst e;exact cutAt_not hp hk
    rw [getD_set_ne true hkj];exact hun k (hsub' k hk)
   ·by_cases hkj:k=j'
    ·subst hkj
     rw [upd_self] at hk ⊢;exact ⟨by rw [upv_off (fun e=>by subst e;exact cutAt_not hp hj1)];exact hk.1,hst _ hq v w1 w2 hk.2 hG⟩
    ·rw [upd_off hkj] at hk ⊢;exact hKs k s1 w1 j1 v1 w2 (hsub' _ hj1) hk hG
   ·by_cases hkj:k=j'
    ·subst hkj;rw [upd_self];exact ⟨upv_self ..,g1⟩
    ·rw [upd_off hkj];exact hKs k s w j' v w' hmj (hK k) g3
   ·rw [upv_off (fun e=>by subst e;exact cutAt_not hp hk)]
    exact hnn k (hsub' k hk)
def relyB (md:Region.Mode) (ops:Array Oper) (listed:Array Bool) (idx:List Nat):Bool:=
 Region.noSelect ops && (listed.size == ops.size) && ((List.range ops.size).filter (fun j=>!listed.getD j true) == idx) &&
 idx.all (fun j=>match ops[j]? with
  | some oj=>oj.guard.isNone && oj.after.all (fun e=>!Region.binds md e || decide (e.on<j)) && idx.all fun i=>!decide (i<j) || match ops[i]? with
   | some oi=>waitsB md oj i || oi.apart ops oj
   | none=>false
  | none=>false)
theorem relyB_spec {listed:Array Bool} {idx:List Nat} (h:relyB md ops listed idx=true):(∀ (j:Nat) (o:Oper) cs b,ops[j]?=some o→o.op≠.select cs b)∧listed.size=ops.size∧(List.range ops.size).filter (fun j=>!listed.getD j true)=idx∧RelyOk md ops idx:=by
 unfold relyB at h;simp only [Bool.and_eq_true,beq_iff_eq,List.all_eq_true] at h;obtain ⟨⟨⟨h1,h2⟩,h3⟩,h4⟩:=h;refine ⟨Region.noSelect_spec h1,h2,h3,fun j hj=>?_,fun i hi j hj hij oi oj hoi hoj hw=>?_⟩
 ·have:=h4 j hj
  cases ho:ops[j]? with
  | none=>rw [ho] at this;cases this
  | some o=>
   rw [ho] at this;simp only [Bool.and_eq_true,Option.isNone_iff_eq_none,Array.all_eq_true_iff_forall_mem,Bool.or_eq_true,Bool.not_eq_true',decide_eq_true_eq] at this;exact ⟨o,rfl,this.1.1,fun e he hb=>(this.1.2 e he).resolve_left (by simp [hb])⟩
 ·have:=h4 j hj
  rw [hoj] at this;simp only [Bool.and_eq_true,List.all_eq_true] at this;have h5:=this.2 i hi;rw [hoi] at h5;simp only [Bool.or_eq_true,Bool.not_eq_true',decide_eq_false_iff_not,hw,Bool.false_eq_true,false_or] at h5;exact h5.resolve_left fun h=>h hij
theorem relyH {S:World→Prop} {L:List Oper} {fuel:Nat} {listed:Array Bool} {a:Act} {w:World} (C:Vals→World→Prop) (G:World→World→Prop) (rs:List (Nat×(Value→World→Prop))) (hl:rs.length=fuel) (hB:relyB md L.toArray listed (rs.map (·.1))=true)
    (hst:∀ p∈rs,∀ v w w',p.2 v w→G w w'→p.2 v w') (hCS:∀ s w,C s w→S w) (hC:C (fun _=>none) w) (h:relyL P md L.toArray C G (Q .normal) rs a fun _ _ _=>True):wpAnyH P md L.toArray Q S fuel listed a w:=by
 obtain ⟨h1,h2,h3,h4⟩:=relyB_spec hB;refine wpAny_rely hCS h1 fuel rs listed a w (fun _ _ _=>True) (fun _=>none) hl h2 ?_ h4 (fun j hj hu=>?_) (fun j hj=>?_) hst (fun _ _ _ _ _ _ _ _ _=>trivial) h hC (fun _=>trivial) fun _ _=>rfl
 ·rw [←h3];exact List.Pairwise.filter _ List.pairwise_lt_range
 ·rw [←h3,List.mem_filter,List.mem_range]
  exact ⟨hj,by simp only [hu];rfl⟩
 ·rw [←h3,List.mem_filter] at hj
  simpa using hj.2
theorem relyL_cons {i:Nat} {p:Value→World→Prop} {rs:List (Nat×(Value→World→Prop))} {L:List Oper} {a:Act} {K:Known} {o:Oper} (ho:L[i]?=some o) (h1:∀ s w,C s w→s i=none→(∀ k,waitsB md o k=true→K k s w)→relyOp P o a w fun v w'=>p v w'∧C (upv s i v) w'∧G w w')
    (h2:∀ v,relyL P md L.toArray C G Fin rs (a.put o.dst v) (upd K i fun s w=>s i=some v∧p v w)):relyL P md L.toArray C G Fin ((i,p)::rs) a K:=⟨o,by rw [List.getElem?_toArray];exact ho,h1,h2⟩
theorem relyL_nil {a:Act} {K:Known} (h:∀ s w,C s w→(∀ k,K k s w)→Fin a w):relyL P md ops C G Fin [] a K:=h
def Sep (i j:Nat) (s:Vals) (w:World):Prop:=(∀ v,s i=some v→∃ g,v=.pointer (some ⟨g,0,none⟩)∧g<w.heap.size)∧(∀ v,s j=some v→∃ g,v=.pointer (some ⟨g,0,none⟩)∧g<w.heap.size)∧∀ g h,s i=some (.pointer (some ⟨g,0,none⟩))→s j=some (.pointer (some ⟨h,0,none⟩))→g≠h
theorem sep_start (i j:Nat) (w:World):Sep i j (fun _=>none) w:=⟨fun v h=>(by cases h),fun v h=>(by cases h),fun g h h1=>(by cases h1)⟩
theorem Sep.other {i j k:Nat} {s:Vals} {w w':World} (h:Sep i j s w) (hi:i≠k) (hj:j≠k) (hs:w.heap.size≤w'.heap.size) (v:Value):Sep i j (upv s k v) w':=by
 unfold Sep;rw [upv_off hi,upv_off hj];refine ⟨fun v hv=>?_,fun v hv=>?_,h.2.2⟩
 ·obtain ⟨g,e,hl⟩:=h.1 v hv
  exact ⟨g,e,by omega⟩
 ·obtain ⟨g,e,hl⟩:=h.2.1 v hv
  exact ⟨g,e,by omega⟩
theorem Sep.left {i j:Nat} {s:Vals} {w w':World} (h:Sep i j s w) (hij:j≠i) (hs:w.heap.size<w'.heap.size):Sep i j (upv s i (.pointer (some ⟨w.heap.size,0,none⟩))) w':=by
 unfold Sep;rw [upv_self,upv_off hij];refine ⟨fun v hv=>?_,fun v hv=>?_,fun g k h1 h2=>?_⟩
 ·injection hv with hv
  exact ⟨_,hv.symm,hs⟩
 ·obtain ⟨g,e,hl⟩:=h.2.1 v hv
  exact ⟨g,e,by omega⟩
 ·injection h1 with h1
  injection h1 with h1;injection h1 with h1;injection h1 with h1;obtain ⟨g',e,hl⟩:=h.2.1 _ h2;injection e with e;injection e with e;injection e with e;omega
theorem Sep.right {i j:Nat} {s:Vals} {w w':World} (h:Sep i j s w) (hij:i≠j) (hs:w.heap.size<w'.heap.size):Sep i j (upv s j (.pointer (some ⟨w.heap.size,0,none⟩))) w':=by
 unfold Sep;rw [upv_self,upv_off hij];refine ⟨fun v hv=>?_,fun v hv=>?_,fun g k h1 h2=>?_⟩
 ·obtain ⟨g,e,hl⟩:=h.1 v hv
  exact ⟨g,e,by omega⟩
 ·injection hv with hv
  exact ⟨_,hv.symm,hs⟩
 ·injection h2 with h2
  injection h2 with h2;injection h2 with h2;injection h2 with h2;obtain ⟨g',e,hl⟩:=h.1 _ h1;injection e with e;injection e with e;injection e with e;omega
theorem wp_region_last2 {S:World→Prop} {id:Nat} {a:Act} {w:World} {L:List Oper} (n:Nat) (oM oN:Oper) (hm:P.follows .mixedOrders=true) (hs:lastB .any L (n+1)=true) (hs2:lastB .any (L.take (n+1)) n=true) (hM:L[n]?=some oM) (hN:L[n+1]?=some oN) (hS:S w.drew)
    (h:S w.drew→wpAnyH P .any (L.take n).toArray (lastQ P (L.take (n+1)).toArray oM (lastQ P L.toArray oN Q)) S n (Array.replicate n false) a w.drew):(Code.region id L.toArray true).wp P Q a w:=by
 obtain ⟨h1,h2,h3⟩:=lastB_spec hs;have ht:(L.take (n+1)).take n=L.take n:=by rw [List.take_take,Nat.min_eq_left (by omega)]
 refine wp_region_any hm ?_;rw [show L.toArray.size=n+1+1 from by simpa using h1,Array.replicate_succ];have hcl:∀ (F:List Oper) (k:Nat),ClosedL .any F (Array.replicate k false):=fun F k j o ho hj=>by
  rcases Nat.lt_or_ge j k with h' | h'<;>simp [h'] at hj
 refine wpAny_last hs hN (n+1) _ a _ (by simp) (hcl _ _) ?_;rw [Array.replicate_succ];refine wpAny_last hs2 (by rw [List.getElem?_take_of_lt (by omega)];exact hM) n _ a _ (by simp) (hcl _ _) ?_;rw [ht];exact wpAny_of_held _ _ _ _ (h hS)
end
def fixd:Nat→Nat→List UInt8
 | 0,_=>[]
 | k+1,r=>fixd k (r / 10)++[UInt8.ofNat (48+r % 10)]
theorem fixd_len:∀ (k r:Nat),(fixd k r).length=k
 | 0,_=>rfl
 | k+1,r=>by rw [fixd,zE_,fixd_len k];rfl
theorem dec_small {u:Nat} (h:u<10):Lib.decDigits u=[UInt8.ofNat (48+u)]:=by rw [Lib.decDigits,dif_pos h]
theorem dec_big {u:Nat} (h:¬u<10):Lib.decDigits u=Lib.decDigits (u / 10)++[UInt8.ofNat (48+u % 10)]:=by rw [Lib.decDigits,dif_neg h]
theorem dec_split:∀ (k q r:Nat),0<q→r<10^k→Lib.decDigits (q*10^k+r)=Lib.decDigits q++fixd k r
 | 0,q,r,_,hr=>by
  rw [Nat.pow_zero] at hr ⊢;rw [fixd,List.append_nil,Nat.mul_one,show q+r=q from by omega]
 | k+1,q,r,hq,hr=>by
  have h1:1≤10^k:=Nat.one_le_pow _ _ (by decide);have h2:10^(k+1)=10^k*10:=Nat.pow_succ ..;have h3:q*10^(k+1)=q*10^k*10:=by rw [h2,Nat.mul_assoc]
  have h4:1*10^k≤q*10^k:=Nat.mul_le_mul_right _ hq;rw [dec_big (by omega),fixd,show (q*10^(k+1)+r) / 10=q*10^k+r / 10 from by omega,show (q*10^(k+1)+r) % 10=r % 10 from by omega,
   dec_split k q (r / 10) hq (by rw [h2] at hr;omega),List.append_assoc]
theorem fixd_zero:∀ k:Nat,fixd k 0=List.replicate k 48
 | 0=>rfl
 | k+1=>by
  rw [fixd,Nat.zero_div,fixd_zero k,List.replicate_succ'];rfl
theorem dec_len_pos (u:Nat):1≤(Lib.decDigits u).length:=by
 by_cases h:u<10
 ·rw [dec_small h];exact lR
 ·rw [dec_big h,zE_];simp
theorem fixd_pad:∀ (k r:Nat),1≤k→r<10^k→fixd k r=List.replicate (k-(Lib.decDigits r).length) 48++Lib.decDigits r
 | 0,_,h,_=>absurd h (by decide)
 | k+1,r,_,hr=>by
  by_cases h:r<10
  ·rw [dec_small h,fixd,Nat.div_eq_of_lt h,fixd_zero,Nat.mod_eq_of_lt h]
   rfl
  ·have hk:1≤k:=by
    rcases Nat.eq_zero_or_pos k with rfl | h'
    ·simp at hr;omega
    ·exact h'
   rw [dec_big h,fixd,fixd_pad k (r / 10) hk (by rw [Nat.pow_succ] at hr;omega),List.append_assoc,zE_,List.length_singleton,Nat.add_sub_add_right]
theorem dec_len9 {k r:Nat} (hk:1≤k) (hr:r<10^k):(Lib.decDigits r).length≤k:=by
 have h:=congrArg List.length (fixd_pad k r hk hr);rw [fixd_len,zE_] at h;omega
def dvg (acc:Nat) (l:List UInt8):Nat:=l.foldl (fun a c=>a*10+(c.toNat-48)) acc
def dv (l:List UInt8):Nat:=dvg 0 l
theorem dvg_acc:∀ (l:List UInt8) (acc:Nat),dvg acc l=acc*10^l.length+dv l
 | [],acc=>by simp [dvg,dv]
 | c::r,acc=>by
  have h1:=dvg_acc r (acc*10+(c.toNat-48));have h2:=dvg_acc r (0*10+(c.toNat-48));unfold dv dvg at *;rw [List.foldl_cons,List.foldl_cons,h1,h2,zV_,Nat.pow_succ];grind
theorem dv_append (a b:List UInt8):dv (a++b)=dv a*10^b.length+dv b:=by
 have h:dv (a++b)=dvg (dv a) b:=by unfold dv dvg;rw [List.foldl_append]
 rw [h,dvg_acc]
theorem dg_val {d:Nat} (h:d<10):(UInt8.ofNat (48+d)).toNat-48=d:=by
 have:(UInt8.ofNat (48+d)).toNat=48+d:=by rw [UInt8.toNat_ofNat'];omega
 omega
theorem dv_one {d:Nat} (h:d<10):dv [UInt8.ofNat (48+d)]=d:=by
 show 0*10+((UInt8.ofNat (48+d)).toNat-48)=d;rw [dg_val h];omega
theorem dv_dec (u:Nat):dv (Lib.decDigits u)=u:=by
 induction u using Nat.strongRecOn with
 | _ u ih=>
  by_cases h:u<10
  ·rw [dec_small h,dv_one h]
  ·rw [dec_big h,dv_append,ih (u / 10) (by omega),dv_one (by omega)]
   simp;omega
def IsDg (c:UInt8):Prop:=48≤c.toNat∧c.toNat≤57
theorem dec_dg (u:Nat):∀ c∈Lib.decDigits u,IsDg c:=by
 induction u using Nat.strongRecOn with
 | _ u ih=>
  intro c hc;have key:∀ d,d<10→IsDg (UInt8.ofNat (48+d)):=fun d hd=>by
   have:(UInt8.ofNat (48+d)).toNat=48+d:=by rw [UInt8.toNat_ofNat'];omega
   exact ⟨by omega,by omega⟩
  by_cases h:u<10
  ·rw [dec_small h,List.mem_singleton] at hc
   subst hc;exact key u h
  ·rw [dec_big h,List.mem_append,List.mem_singleton] at hc
   rcases hc with hc | rfl
   ·exact ih (u / 10) (by omega) c hc
   ·exact key _ (by omega)
def Canon (l:List UInt8):Prop:=l≠[]∧(∀ c∈l,IsDg c)∧(1<l.length→l.head?≠some 48)
theorem isDg_of {c:UInt8} (h:IsDg c):∃ d,d<10∧c=UInt8.ofNat (48+d):=by
 refine ⟨c.toNat-48,by have:=h.2;omega,?_⟩;apply UInt8.toNat_inj.1;rw [UInt8.toNat_ofNat'];have:=h.1;have:=h.2;omega
theorem dv_pos:∀ {l:List UInt8},l≠[]→(∀ c∈l,IsDg c)→l.head?≠some 48→0<dv l
 | [],h,_,_=>absurd rfl h
 | c::r,_,hd,hh=>by
  obtain ⟨d,hd1,rfl⟩:=isDg_of (hd c (by simp));have h1:=dvg_acc r (0*10+((UInt8.ofNat (48+d)).toNat-48));have h2:dv (UInt8.ofNat (48+d)::r)=dvg (0*10+((UInt8.ofNat (48+d)).toNat-48)) r:=rfl;rw [h2,h1,dg_val hd1];have hd0:d≠0:=fun e=>by subst e;exact hh rfl
  have:1*10^r.length≤(0*10+d)*10^r.length:=Nat.mul_le_mul_right _ (by omega);have:1≤10^r.length:=Nat.one_le_pow _ _ (by decide);omega
theorem dec_canon {l:List UInt8} (h:Canon l):Lib.decDigits (dv l)=l:=by
 obtain ⟨n,hn⟩:∃ n,l.length=n:=⟨_,rfl⟩
 induction n generalizing l with
 | zero=>exact absurd (List.eq_nil_of_length_eq_zero hn) h.1
 | succ n ih=>
  obtain ⟨a,c,rfl⟩:∃ a c,l=a++[c]:=⟨l.dropLast,l.getLast h.1,(List.dropLast_concat_getLast h.1).symm⟩;obtain ⟨d,hd,rfl⟩:=isDg_of (h.2.1 c (by simp));rw [dv_append,dv_one hd]
  by_cases ha:a=[]
  ·subst ha
   rw [List.nil_append,show dv []=0 from rfl];simp only [List.length_singleton,Nat.pow_one,Nat.zero_mul,Nat.zero_add];exact dec_small hd
  ·have hal:1≤a.length:=by cases a with | nil=>exact absurd rfl ha | cons _ _=>simp
   have hh:a.head?≠some 48:=by
    have:=h.2.2 (by simp;omega);cases a with
    | nil=>exact absurd rfl ha
    | cons x t=>simpa using this
   have hdg:∀ c∈a,IsDg c:=fun c hc=>h.2.1 c (List.mem_append_left _ hc);have hp:=dv_pos ha hdg hh;have hca:Canon a:=⟨ha,hdg,fun _=>hh⟩;have:=ih hca (by simp at hn;omega);simp only [List.length_singleton,Nat.pow_one];rw [dec_big (by omega),show (dv a*10+d) / 10=dv a from by omega,show (dv a*10+d) % 10=d from by omega,this]
theorem dec_inj {m n:Nat} (h:Lib.decDigits m=Lib.decDigits n):m=n:=by rw [←dv_dec m,←dv_dec n,h]
theorem dv_lt:∀ {l:List UInt8},(∀ c∈l,IsDg c)→dv l<10^l.length:=by
 intro l;obtain ⟨n,hn⟩:∃ n,l.length=n:=⟨_,rfl⟩
 induction n generalizing l with
 | zero=>intro _;rw [List.eq_nil_of_length_eq_zero hn];decide
 | succ n ih=>
  intro h;have hne:l≠[]:=fun e=>by subst e;simp at hn
  obtain ⟨a,c,rfl⟩:∃ a c,l=a++[c]:=⟨l.dropLast,l.getLast hne,(List.dropLast_concat_getLast hne).symm⟩;obtain ⟨d,hd,rfl⟩:=isDg_of (h c (by simp));have:=ih (l:=a) (by simp at hn;omega) (fun c hc=>h c (List.mem_append_left _ hc));rw [dv_append,dv_one hd,zE_,List.length_singleton,Nat.pow_succ];omega
def ndg (n:Nat):Nat:=(Lib.decDigits n).length
theorem ndg_le {n k:Nat} (hk:1≤k) (h:n<10^k):ndg n≤k:=dec_len9 hk h
theorem lt_ndg (n:Nat):n<10^ndg n:=by
 have:=dv_lt (dec_dg n);rwa [dv_dec] at this
end
end Go.Proofs.YthgdchffeigkbaaGreatDoor
