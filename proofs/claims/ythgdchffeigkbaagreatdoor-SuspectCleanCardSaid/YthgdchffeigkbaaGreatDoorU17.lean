import Derived.Test.YthgdchffeigkbaaGreatDoorU07
set_option linter.unusedVariables false
set_option linter.unusedSimpArgs false
namespace Go.Proofs.YthgdchffeigkbaaGreatDoor
section
open Go
def lastX (md:Region.Mode) (L:List Oper) (n:Nat) (ex:List Nat):Bool:=
 decide (L.length=n+1) &&
 (List.range (n+1)).all (fun j=>match L[j]? with
  | some o=>o.after.all (fun e=>!Region.binds md e || decide (e.on<j)) && (match o.guard with | none=>true | some (g,_)=>decide (g<n))
  | none=>false) &&
 (List.range n).all (fun j=>ex.contains j || (List.range (n+1)).any fun k=>decide (j<k) && match L[k]? with
  | some o=>o.after.any (fun e=>Region.binds md e && e.on == j)
  | none=>false)
section
variable {P:Program} {Q:Exit→Act→World→Prop} {md:Region.Mode}
theorem lastX_spec {L:List Oper} {n:Nat} {ex:List Nat} (h:lastX md L n ex=true):L.length=n+1∧
    (∀ j o,L[j]?=some o→(∀ e∈o.after,Region.binds md e=true→e.on<j)∧∀ g b,o.guard=some (g,b)→g<n)∧
    (∀ j,j<n→j∈ex∨∃ k o e,j<k∧L[k]?=some o∧e∈o.after∧Region.binds md e=true∧e.on=j):=by
 unfold lastX at h;simp only [Bool.and_eq_true,decide_eq_true_eq,List.all_eq_true,List.mem_range,List.any_eq_true,Bool.or_eq_true,List.contains_iff_mem] at h;obtain ⟨⟨h1,h2⟩,h3⟩:=h;refine ⟨h1,fun j o ho=>?_,fun j hj=>?_⟩
 ·have hj:j<n+1:=by rw [←h1];exact (zB_.1 ho).1
  have:=h2 j hj;rw [ho] at this;simp only [Bool.and_eq_true,Array.all_eq_true_iff_forall_mem,Bool.or_eq_true,Bool.not_eq_true',decide_eq_true_eq] at this;refine ⟨fun e he hb=>(this.1 e he).resolve_left (by simp [hb]),fun g b hg=>?_⟩;have h4:=this.2;rw [hg] at h4;simpa using h4
 ·rcases h3 j hj with h3 | ⟨k,hk,hjk,h4⟩
  ·exact .inl h3
  refine .inr ?_;cases ho:L[k]? with
  | none=>rw [ho] at h4;cases h4
  | some o=>
   rw [ho] at h4;simp only [Array.any_eq_true'] at h4;obtain ⟨e,he,h5⟩:=h4;simp only [Bool.and_eq_true,beq_iff_eq] at h5;exact ⟨k,o,e,hjk,ho,he,h5.1,h5.2⟩
theorem all_listedX {L:List Oper} {n:Nat} {ex:List Nat} {oN:Oper} {listed:Array Bool} (hs:lastX md L n ex=true) (hx:∀ j∈ex,listed.getD j false=true) (hN:L[n]?=some oN) (hsz:listed.size=n) (hc:ClosedL md (L.take n) listed)
    (hr:∀ e∈oN.after,Region.binds md e=true→(listed.push false).getD e.on false=true):∀ d j,j+d=n→0<d→listed.getD j false=true:=by
 obtain ⟨h1,h2,h3⟩:=lastX_spec hs;intro d
 induction d using Nat.strongRecOn with
 | _ d ih=>
  intro j hj hd;rcases h3 j (by omega) with h3 | ⟨k,o,e,hjk,hk,he,hb,hej⟩
  ·exact hx j h3
  have hkl:k<n+1:=by rw [←h1];exact (zB_.1 hk).1
  by_cases hkn:k=n
  ·subst hkn
   rw [hN] at hk;injection hk with hk;subst hk;have:=hr e he hb;rw [hej] at this;rwa [Array.getD_eq_getD_getElem?,Array.getElem?_push_lt (by omega),←Array.getElem?_eq_getElem (by omega),←Array.getD_eq_getD_getElem?] at this
  ·have hl:=ih (n-k) (by omega) k (by omega) (by omega)
   have:=hc k o (by rw [List.getElem?_take_of_lt (by omega)];exact hk) hl e he hb;rwa [hej] at this
theorem ready_frontX {L:List Oper} {n:Nat} {ex:List Nat} {listed:Array Bool} (hs:lastX md L n ex=true) (hsz:listed.size=n) {i:Nat} (hi:i<n):i∈Region.ready md L.toArray (listed.push false)↔i∈Region.ready md (L.take n).toArray listed:=by
 obtain ⟨h1,h2,h3⟩:=lastX_spec hs;rw [mem_ready,mem_ready,List.getElem?_toArray,List.getElem?_toArray,List.getElem?_take_of_lt hi,getD_push (by omega)];refine and_congr Iff.rfl ⟨?_,?_⟩
 ·rintro ⟨o,ho,h⟩
  exact ⟨o,ho,fun e he hb=>by rw [←getD_push (by have:=(h2 i o ho).1 e he hb;omega)];exact h e he hb⟩
 ·rintro ⟨o,ho,h⟩
  exact ⟨o,ho,fun e he hb=>by rw [getD_push (by have:=(h2 i o ho).1 e he hb;omega)];exact h e he hb⟩
theorem wpAny_lastX {L:List Oper} {n:Nat} {ex:List Nat} {oN:Oper} (hs:lastX md L n ex=true) (hN:L[n]?=some oN):∀ (fuel:Nat) (listed:Array Bool) (a:Act) (w:World),listed.size=n→ClosedL md (L.take n) listed→(∀ j∈ex,listed.getD j false=true)→
    wpAny P md (L.take n).toArray (lastQ P L.toArray oN Q) fuel listed a w→wpAny P md L.toArray Q (fuel+1) (listed.push false) a w:=by
 obtain ⟨h1,h2,h3⟩:=lastX_spec hs;have key:∀ (fuel:Nat) (listed:Array Bool) (a:Act) (w:World),listed.size=n→ClosedL md (L.take n) listed→Region.ready md (L.take n).toArray listed=[]→lastQ P L.toArray oN Q .normal a w→wpAny P md L.toArray Q (fuel+1) (listed.push false) a w:=by
  intro fuel listed a w hsz hc hr hq;have hall:∀ m j,j<m→j<n→listed.getD j false=true:=by
   intro m
   induction m with
   | zero=>intro j hj;omega
   | succ m ih=>
    intro j hj hjn;cases hl:listed.getD j false with
    | true=>rfl
    | false=>
     exfalso;have hjl:j<L.length:=by omega
     have hmem:j∈Region.ready md (L.take n).toArray listed:=by
      rw [mem_ready,List.getElem?_toArray,List.getElem?_take_of_lt hjn,getD_tf (by omega),hl];refine ⟨rfl,L[j],zA_ hjl,fun e he hb=>ih _ ?_ ?_⟩
      ·have:=(h2 j _ (zA_ hjl)).1 e he hb;omega
      ·have:=(h2 j _ (zA_ hjl)).1 e he hb;omega
     rw [hr] at hmem;cases hmem
  have hall':=fun j hj=>hall n j hj hj;have hnr:n∈Region.ready md L.toArray (listed.push false):=by
   rw [mem_ready,List.getElem?_toArray];refine ⟨by simp [←hsz],oN,hN,fun e he hb=>?_⟩;have:=(h2 n oN hN).1 e he hb;rw [getD_push (by omega)];exact hall' _ this
  refine ⟨fun h0=>by rw [h0] at hnr;exact absurd hnr (by simp),fun j hj=>?_⟩;have hjn:j=n:=by
   obtain ⟨h0,o,ho,_⟩:=mem_ready.1 hj;rw [List.getElem?_toArray] at ho;have hjl:=(zB_.1 ho).1;refine Decidable.byContradiction fun hne=>?_;rw [getD_push (by omega),getD_tf (by omega),hall' j (by omega)] at h0;cases h0
  subst hjn;unfold wpOp;rw [List.getElem?_toArray,hN];simp only;have hd:=done_of_all (md:=md) h1 hsz hall';unfold lastQ at hq;dsimp only at hq
  split
  ·rename_i hw
   rw [if_pos hw] at hq;exact .inl (Oper.wp_mono (fun a' w' h=>wpAny_done hd h fuel) hq)
  ·rename_i hw
   rw [if_neg hw] at hq;exact wpAny_done hd hq fuel
 intro fuel
 induction fuel with
 | zero=>intro listed a w hsz hc hx h;exact key 0 listed a w hsz hc h.1 h.2
 | succ fuel ih=>
  intro listed a w hsz hc hx h
  by_cases hr:Region.ready md (L.take n).toArray listed=[]
  ·exact key (fuel+1) listed a w hsz hc hr (h.1 hr)
  ·have hnn:n∉Region.ready md L.toArray (listed.push false):=by
    intro hn;obtain ⟨_,o,ho,hall⟩:=mem_ready.1 hn;rw [List.getElem?_toArray,hN] at ho;injection ho with ho;subst ho;have hl:=all_listedX hs hx hN hsz hc hall;apply hr;rw [List.eq_nil_iff_forall_not_mem];intro j hj;obtain ⟨h0,o,ho,_⟩:=mem_ready.1 hj;rw [List.getElem?_toArray] at ho;have hjl:=(zB_.1 ho).1;have hjn:j<n:=by simp at hjl;omega
    have:=hl (n-j) j (by omega) (by omega);rw [getD_tf (by omega),this] at h0;cases h0
   have hlt:∀ j,j∈Region.ready md L.toArray (listed.push false)→j<n:=fun j hj=>by
    obtain ⟨_,o,ho,_⟩:=mem_ready.1 hj;rw [List.getElem?_toArray] at ho;have:=(zB_.1 ho).1;have hne:j≠n:=fun e=>hnn (e▸hj);omega
   refine ⟨fun h0=>?_,fun j hj=>?_⟩
   ·exfalso
    obtain ⟨j,hj⟩:=List.exists_mem_of_ne_nil _ hr;have hjn:j<n:=by
     obtain ⟨_,o,ho,_⟩:=mem_ready.1 hj;rw [List.getElem?_toArray] at ho;have:=(zB_.1 ho).1;simp at this;omega
    have:=(ready_frontX hs hsz hjn).2 hj;rw [h0] at this;cases this
   ·have hjn:=hlt j hj
    have hjr:=(ready_frontX hs hsz hjn).1 hj;refine wpOp_lastQ (L:=L) (F:=L.take n) (by rw [List.getElem?_take_of_lt hjn]) (fun o ho g b hg=>?_) (fun a' w' hh=>?_) (h.2 j hjr)
    ·rw [List.getElem?_take_of_lt hjn] at ho
     rw [List.getElem?_take_of_lt ((h2 j o ho).2 g b hg)]
    ·rw [push_set (by omega)]
     exact ih _ a' w' (by simpa using hsz) (closed_set hc hjr) (fun y hy=>getD_set_true (hx y hy)) hh
theorem wp_region_last3X {S:World→Prop} {id:Nat} {a:Act} {w:World} {L:List Oper} (m p:Nat) (op oK oM oN:Oper) (v:Value) (hm:P.follows .mixedOrders=true) (hs:lastB .any L (m+3)=true) (hs2:lastB .any (L.take (m+3)) (m+2)=true) (hs3:lastX .any (L.take (m+2)) (m+1) [p]=true)
    (hp:L[p]?=some op) (hpm:p<m+1) (hpa:op.after.all (fun e=>!Region.binds .any e)=true) (hK:L[m+1]?=some oK) (hM:L[m+2]?=some oM) (hN:L[m+3]?=some oN) (hP:takeB .any L.toArray (Array.replicate (m+4) false) p=true)
    (hQ:∀ c a w,Q (.panic c) (a.put op.dst v) w→Q (.panic c) a w) (hw:Region.wanted op (yielded L.toArray a.tmps)=true) (hy:∀ w,(execOp a.eval op).run P w=.ok (.value v) w) (hS:S w.drew)
    (h:S w.drew→wpAnyH P .any (L.take (m+1)).toArray (lastQ P (L.take (m+2)).toArray oK (lastQ P (L.take (m+3)).toArray oM (lastQ P L.toArray oN Q))) S m ((Array.replicate (m+1) false).setIfInBounds p true) (a.put op.dst v) w.drew):(Code.region id L.toArray true).wp P Q a w:=by
 obtain ⟨h1,h2,h3⟩:=lastB_spec hs;have ht1:(L.take (m+3)).take (m+2)=L.take (m+2):=by rw [List.take_take,Nat.min_eq_left (by omega)]
 have ht2:(L.take (m+2)).take (m+1)=L.take (m+1):=by rw [List.take_take,Nat.min_eq_left (by omega)]
 refine wp_region_any hm ?_;rw [show L.toArray.size=m+3+1 from by simpa using h1];unfold takeB at hP;rw [Bool.and_eq_true,Bool.and_eq_true] at hP;refine wpAny_take (by rw [List.getElem?_toArray];exact hp) hP.1.1 hP.1.2 hP.2 hQ (.inl ⟨hw,hy⟩) ?_;have hcl:∀ (F:List Oper) (k:Nat),F[p]?=some op∨F[p]?=none→ClosedL .any F ((Array.replicate k false).setIfInBounds p true):=fun F k hF j o ho hj e he hb=>by
  by_cases hpj:p=j
  ·subst hpj
   rcases hF with hF | hF
   ·rw [hF] at ho;injection ho with ho;subst ho
    have:=Array.all_eq_true_iff_forall_mem.1 hpa e he;rw [hb] at this;cases this
   ·rw [hF] at ho;cases ho
  ·rw [getD_set_ne false hpj] at hj
   exact absurd hj (by rcases Nat.lt_or_ge j k with h' | h'<;>simp [h'])
 have htk:∀ k,(L.take k)[p]?=some op∨(L.take k)[p]?=none:=fun k=>by
  rw [List.getElem?_take]
  split
  ·exact .inl hp
  ·exact .inr rfl
 rw [Array.replicate_succ,push_set (by simp;omega)];refine wpAny_last hs hN (m+2) _ _ _ (by simp) (hcl _ _ (htk _)) ?_;rw [Array.replicate_succ,push_set (by simp;omega)];refine wpAny_last hs2 (by rw [List.getElem?_take_of_lt (by omega)];exact hM) (m+1) _ _ _ (by simp) (hcl _ _ (by rw [ht1];exact htk _)) ?_;rw [ht1,Array.replicate_succ,push_set (by simp;omega)];refine wpAny_lastX hs3 (by rw [List.getElem?_take_of_lt (by omega)];exact hK) m _ _ _ (by simp) (hcl _ _ (by rw [ht2];exact htk _)) (fun j hj=>by rw [List.mem_singleton.1 hj];simp;omega) ?_;rw [ht2];exact wpAny_of_held _ _ _ _ (h hS)
end
section
variable {P:Program} {Q:Exit→Act→World→Prop}
theorem wp_region_last4X {S:World→Prop} {id:Nat} {a:Act} {w:World} {L:List Oper} (m p:Nat) (op oJ oK oM oN:Oper) (v:Value) (hm:P.follows .mixedOrders=true) (hs:lastB .any L (m+4)=true) (hs2:lastB .any (L.take (m+4)) (m+3)=true) (hs3:lastB .any (L.take (m+3)) (m+2)=true) (hs4:lastX .any (L.take (m+2)) (m+1) [p]=true)
    (hp:L[p]?=some op) (hpm:p<m+1) (hpa:op.after.all (fun e=>!Region.binds .any e)=true) (hJ:L[m+1]?=some oJ) (hK:L[m+2]?=some oK) (hM:L[m+3]?=some oM) (hN:L[m+4]?=some oN) (hP:takeB .any L.toArray (Array.replicate (m+5) false) p=true)
    (hQ:∀ c a w,Q (.panic c) (a.put op.dst v) w→Q (.panic c) a w) (hw:Region.wanted op (yielded L.toArray a.tmps)=true) (hy:∀ w,(execOp a.eval op).run P w=.ok (.value v) w) (hS:S w.drew)
    (h:S w.drew→wpAnyH P .any (L.take (m+1)).toArray (lastQ P (L.take (m+2)).toArray oJ (lastQ P (L.take (m+3)).toArray oK (lastQ P (L.take (m+4)).toArray oM (lastQ P L.toArray oN Q)))) S m ((Array.replicate (m+1) false).setIfInBounds p true) (a.put op.dst v) w.drew):(Code.region id L.toArray true).wp P Q a w:=by
 obtain ⟨h1,h2,h3⟩:=lastB_spec hs;have ht0:(L.take (m+4)).take (m+3)=L.take (m+3):=by rw [List.take_take,Nat.min_eq_left (by omega)]
 have ht1:(L.take (m+3)).take (m+2)=L.take (m+2):=by rw [List.take_take,Nat.min_eq_left (by omega)]
 have ht2:(L.take (m+2)).take (m+1)=L.take (m+1):=by rw [List.take_take,Nat.min_eq_left (by omega)]
 refine wp_region_any hm ?_;rw [show L.toArray.size=m+4+1 from by simpa using h1];unfold takeB at hP;rw [Bool.and_eq_true,Bool.and_eq_true] at hP;refine wpAny_take (by rw [List.getElem?_toArray];exact hp) hP.1.1 hP.1.2 hP.2 hQ (.inl ⟨hw,hy⟩) ?_;have hcl:∀ (F:List Oper) (k:Nat),F[p]?=some op∨F[p]?=none→ClosedL .any F ((Array.replicate k false).setIfInBounds p true):=fun F k hF j o ho hj e he hb=>by
  by_cases hpj:p=j
  ·subst hpj
   rcases hF with hF | hF
   ·rw [hF] at ho;injection ho with ho;subst ho
    have:=Array.all_eq_true_iff_forall_mem.1 hpa e he;rw [hb] at this;cases this
   ·rw [hF] at ho;cases ho
  ·rw [getD_set_ne false hpj] at hj
   exact absurd hj (by rcases Nat.lt_or_ge j k with h' | h'<;>simp [h'])
 have htk:∀ k,(L.take k)[p]?=some op∨(L.take k)[p]?=none:=fun k=>by
  rw [List.getElem?_take]
  split
  ·exact .inl hp
  ·exact .inr rfl
 rw [Array.replicate_succ,push_set (by simp;omega)];refine wpAny_last hs hN (m+3) _ _ _ (by simp) (hcl _ _ (htk _)) ?_;rw [Array.replicate_succ,push_set (by simp;omega)];refine wpAny_last hs2 (by rw [List.getElem?_take_of_lt (by omega)];exact hM) (m+2) _ _ _ (by simp) (hcl _ _ (by rw [ht0];exact htk _)) ?_;rw [ht0,Array.replicate_succ,push_set (by simp;omega)];refine wpAny_last hs3 (by rw [List.getElem?_take_of_lt (by omega)];exact hK) (m+1) _ _ _ (by simp) (hcl _ _ (by rw [ht1];exact htk _)) ?_;rw [ht1,Array.replicate_succ,push_set (by simp;omega)];refine wpAny_lastX hs4 (by rw [List.getElem?_take_of_lt (by omega)];exact hJ) m _ _ _ (by simp) (hcl _ _ (by rw [ht2];exact htk _)) (fun j hj=>by rw [List.mem_singleton.1 hj];simp;omega) ?_;rw [ht2];exact wpAny_of_held _ _ _ _ (h hS)
end
end
end Go.Proofs.YthgdchffeigkbaaGreatDoor
