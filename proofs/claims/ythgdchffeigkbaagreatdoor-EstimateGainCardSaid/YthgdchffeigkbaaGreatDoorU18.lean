import Derived.Test.YthgdchffeigkbaaGreatDoorU07
import Derived.Test.YthgdchffeigkbaaGreatDoorU15
set_option linter.unusedVariables false
set_option linter.unusedSimpArgs false
namespace Go.Proofs.YthgdchffeigkbaaGreatDoor
section
def unitL (n i:Nat):List Rat:=(List.replicate n 0).set i 1
def extR (M:List (List Rat)):List (List Rat):=M.mapIdx fun i row=>row++unitL M.length i
theorem extR_len (M:List (List Rat)):(extR M).length=M.length:=by unfold extR;rw [List.length_mapIdx]
theorem extR_at {M:List (List Rat)} {i:Nat} {row:List Rat} (h:M[i]?=some row):(extR M)[i]?=some (row++unitL M.length i):=by
 unfold extR;rw [List.getElem?_mapIdx,h];rfl
theorem extR_wid {M:List (List Rat)} (h:∀ a∈M,a.length=M.length):∀ a∈extR M,a.length=M.length+M.length:=fun a ha=>by
 obtain ⟨i,hi⟩:=List.mem_iff_getElem?.1 ha;obtain ⟨row,hr⟩:∃ row,M[i]?=some row:=zX_ (by have:=(zB_.1 hi).1;rwa [extR_len] at this);rw [extR_at hr] at hi;injection hi with hi;rw [←hi,zE_,h row (zC_ hr)];unfold unitL;rw [zU_,zO_]
def invL (M:List (List Rat)):List (List Rat):=(redR (extR M) M.length).1.map (List.drop M.length)
def Reg (M:List (List Rat)):Prop:=¬(redR (extR M) M.length).2.length<M.length
theorem sumTo_split (f:Fn) (n:Nat):∀ m:Nat,sumTo (n+m) f=sumTo n f+sumTo m (fun j=>f (n+j))
 | 0=>by simp only [Nat.add_zero,sumTo];rw [Rat.add_zero]
 | m+1=>by
  rw [←Nat.add_assoc];simp only [sumTo];rw [sumTo_split f n m,Rat.add_assoc]
theorem inc_ge:∀ {l:List Nat} {k t p:Nat},l.Pairwise (·<·)→(∀ x∈l,k≤x)→l[t]?=some p→k+t≤p
 | x::l,k,0,p,_,h,e=>by simp at e;subst e;exact h x (by simp)
 | x::l,k,t+1,p,hp,h,e=>by
  rw [List.pairwise_cons] at hp;have:=inc_ge (k:=k+1) hp.2 (fun y hy=>by have:=hp.1 y hy;have:=h x (by simp);omega) (by simpa using e);omega
 | [],_,_,_,_,_,e=>by simp at e
theorem inc_le:∀ {l:List Nat} {n t p:Nat},l.Pairwise (·<·)→(∀ x∈l,x<n)→l[t]?=some p→p+(l.length-t)≤n
 | [x],n,0,p,_,h,e=>by simp at e;subst e;have:=h x (by simp);simp;omega
 | x::y::l,n,0,p,hp,h,e=>by
  simp at e;subst e;rw [List.pairwise_cons] at hp;have h1:=inc_le (t:=0) hp.2 (fun z hz=>h z (by simp [hz])) rfl;have h2:=hp.1 y (by simp);simp only [zV_] at h1 ⊢;omega
 | x::l,n,t+1,p,hp,h,e=>by
  rw [List.pairwise_cons] at hp;have:=inc_le (t:=t) hp.2 (fun z hz=>h z (by simp [hz])) (by simpa using e);simp only [zV_];omega
 | [],_,_,_,_,_,e=>by simp at e
theorem inc_all {l:List Nat} {n t p:Nat} (h1:l.Pairwise (·<·)) (h2:∀ x∈l,x<n) (h3:l.length=n) (h:l[t]?=some p):p=t:=by
 have a:=inc_ge (k:=0) h1 (fun _ _=>Nat.zero_le _) h;have b:=inc_le h1 h2 h;have c:=(zB_.1 h).1;omega
section
variable {M:List (List Rat)}
theorem vf_app {a b:List Rat} {j:Nat} (h:j<a.length):vf (a++b) j=vf a j:=by
 unfold vf;rw [zD_,zD_,zR_ h]
theorem vf_app2 {a b:List Rat} {j:Nat}:vf (a++b) (a.length+j)=vf b j:=by
 unfold vf;rw [zD_,zD_,zN_ (by omega),Nat.add_sub_cancel_left]
theorem vf_drop {a:List Rat} {n j:Nat}:vf (a.drop n) j=vf a (n+j):=by
 unfold vf;rw [zD_,zD_,List.getElem?_drop]
theorem vf_unit {n i j:Nat} (hj:j<n):vf (unitL n i) j=if j=i then 1 else 0:=by
 unfold vf unitL;rw [zD_,List.getElem?_set]
 by_cases h:i=j
 ·subst h
  rw [if_pos rfl,if_pos (by rw [zO_];exact hj),if_pos rfl];rfl
 ·rw [if_neg h,if_neg (fun e=>h e.symm),List.getElem?_replicate,if_pos hj]
  rfl
theorem ext_ker (hw:∀ a∈M,a.length=M.length) (x:Fn):Ker M.length (vfs (extR M)) x↔Ker M.length (vfs M) x:=by
 rw [ker_iff,ker_iff];have key:∀ (i:Nat) (a:List Rat),M[i]?=some a→dotn M.length (vf (a++unitL M.length i)) x=dotn M.length (vf a) x:=fun i a hi=>
  dotn_congr (fun j hj=>vf_app (by rw [hw a (zC_ hi)];exact hj)) fun _ _=>rfl
 constructor
 ·intro h i a hi
  rw [←key i a hi];exact h i _ (extR_at hi)
 ·intro h i a hi
  obtain ⟨row,hr⟩:∃ row,M[i]?=some row:=zX_ (by have:=(zB_.1 hi).1;rwa [extR_len] at this);rw [extR_at hr] at hi;injection hi with hi;rw [←hi,key i row hr];exact h i row hr
theorem reg_iff (hw:∀ a∈M,a.length=M.length):Reg M↔∀ x,Ker M.length (vfs M) x→∀ j,j<M.length→x j=0:=by
 have R:=redR_ok (M:=extR M) (cols:=M.length) (extR_wid hw) (Nat.le_add_right _ _);have hle:=R.ech.le;rw [vfs_len,R.len,extR_len] at hle;unfold Reg
 constructor
 ·intro h x hx
  exact (rank_full R.ech).1 (by omega) x ((R.ker M.length (Nat.le_add_right _ _) x).2 ((ext_ker hw x).2 hx))
 ·intro h
  have:=(rank_full R.ech).2 fun x hx=>h x ((ext_ker hw x).1 ((R.ker M.length (Nat.le_add_right _ _) x).1 hx));omega
theorem invL_len (hw:∀ a∈M,a.length=M.length):(invL M).length=M.length∧∀ a∈invL M,a.length=M.length:=by
 have R:=redR_ok (M:=extR M) (cols:=M.length) (extR_wid hw) (Nat.le_add_right _ _);refine ⟨by unfold invL;rw [zG_,R.len,extR_len],fun a ha=>?_⟩;unfold invL at ha;obtain ⟨e,he,rfl⟩:=List.mem_map.1 ha;rw [zS_,R.wid e he];omega
def invMul (M:List (List Rat)) (b:Fn):Fn:=fun t=>dotn M.length (vf ((invL M).getD t [])) b
theorem inv_mul (hw:∀ a∈M,a.length=M.length) (hr:Reg M) (b:Fn) {i:Nat} {a:List Rat} (hi:M[i]?=some a):dotn M.length (vf a) (invMul M b)=b i:=by
 have R:=redR_ok (M:=extR M) (cols:=M.length) (extR_wid hw) (Nat.le_add_right _ _);have hle:=R.ech.le;rw [vfs_len,R.len,extR_len] at hle;have hpl:(redR (extR M) M.length).2.length=M.length:=by unfold Reg at hr;omega
 have hil:=(zB_.1 hi).1;obtain ⟨x,hx⟩:∃ x:Fn,x=fun j=>if j<M.length then invMul M b j else -(b (j-M.length)):=⟨_,rfl⟩;have hx1:∀ j,j<M.length→x j=invMul M b j:=fun j hj=>by rw [hx];simp only;rw [if_pos hj]
 have hx2:∀ j,x (M.length+j)=-(b j):=fun j=>by rw [hx];simp only;rw [if_neg (by omega),Nat.add_sub_cancel_left]
 have hk:Ker (M.length+M.length) (vfs (redR (extR M) M.length).1) x:=by
  rw [ker_iff];intro t e ht;have htl:=(zB_.1 ht).1;rw [R.len,extR_len] at htl;obtain ⟨p,hp⟩:∃ p,(redR (extR M) M.length).2[t]?=some p:=zX_ (by omega);have hpt:=inc_all R.ech.inc R.ech.lt hpl hp;subst hpt;have hone:=R.ech.one p p (vf e) hp (vfs_get ht);have hzer:∀ j,j<M.length→j≠p→vf e j=0:=fun j hj hne=>by
   obtain ⟨q,hq⟩:∃ q,(redR (extR M) M.length).2[j]?=some q:=zX_ (by omega);have:=inc_all R.ech.inc R.ech.lt hpl hq;subst this;exact R.ech.zer q q p (vf e) hq (vfs_get ht) (fun h=>hne h.symm)
  unfold dotn;rw [sumTo_split];have h1:sumTo M.length (fun j=>vf e j*x j)=invMul M b p:=by
   rw [sumTo_one htl (fun j hj hne=>by rw [hzer j hj hne,Rat.zero_mul]),hone,Rat.one_mul,hx1 p htl]
  have h2:sumTo M.length (fun j=>vf e (M.length+j)*x (M.length+j))=-(invMul M b p):=by
   have h3:(invL M).getD p []=e.drop M.length:=by
    unfold invL;rw [zD_,zM_,ht];rfl
   unfold invMul dotn;rw [h3,show ∀ z:Rat,-z=(-1)*z from fun z=>by grind,←sumTo_mul];refine sumTo_congr fun j hj=>?_;rw [hx2,vf_drop];grind
  rw [h1,h2];grind
 have hk2:=(R.ker _ lR x).1 hk;rw [ker_iff] at hk2;have h0:=hk2 i _ (extR_at hi);unfold dotn at h0;rw [sumTo_split] at h0;have hal:=hw a (zC_ hi);have h1:sumTo M.length (fun j=>vf (a++unitL M.length i) j*x j)=dotn M.length (vf a) (invMul M b):=
  sumTo_congr fun j hj=>by rw [vf_app (by omega),hx1 j hj]
 have h2:sumTo M.length (fun j=>vf (a++unitL M.length i) (M.length+j)*x (M.length+j))=-(b i):=by
  rw [sumTo_one hil (fun j hj hne=>by
   have:=vf_app2 (a:=a) (b:=unitL M.length i) (j:=j);rw [hal] at this;rw [this,vf_unit hj,if_neg hne,Rat.zero_mul])]
  have:=vf_app2 (a:=a) (b:=unitL M.length i) (j:=i);rw [hal] at this;rw [this,vf_unit hil,if_pos rfl,Rat.one_mul,hx2]
 rw [h1,h2] at h0;grind
end
def cnt (p:Nat→Bool) (b:Nat):Nat:=((List.range b).filter p).length
theorem cnt_succ (p:Nat→Bool) (b:Nat):cnt p (b+1)=cnt p b+if p b then 1 else 0:=by
 unfold cnt;rw [List.range_succ,List.filter_append,zE_];congr 1
 cases h:p b<;>simp [h]
def pick (p:Nat→Bool) (n:Nat):List Nat:=(List.range n).filter p
theorem pick_len (p:Nat→Bool) (n:Nat):(pick p n).length=cnt p n:=rfl
def ext (p:Nat→Bool) (x:Fn) (b:Nat):Rat:=if p b then x (cnt p b) else 0
theorem vf_app_lt {l m:List Rat} {i:Nat} (h:i<l.length):vf (l++m) i=vf l i:=by
 unfold vf;rw [zD_,zD_,zR_ h]
theorem vf_app_at (l:List Rat) (y:Rat):vf (l++[y]) l.length=y:=vf_at (by simp)
theorem pick_dot (p:Nat→Bool) (c:Nat→Rat) (x:Fn):∀ n:Nat,dotn (cnt p n) (vf ((pick p n).map c)) x=sumTo n fun b=>c b*ext p x b
 | 0=>rfl
 | n+1=>by
  have ih:=pick_dot p c x n;rw [sumTo,←ih];have hl:((pick p n).map c).length=cnt p n:=by rw [zG_,pick_len]
  cases hp:p n with
  | false=>
   have e1:cnt p (n+1)=cnt p n:=by rw [cnt_succ,hp];rfl
   have e2:pick p (n+1)=pick p n:=by unfold pick;rw [List.range_succ,List.filter_append];simp [hp]
   rw [e1,e2];unfold ext;rw [hp];simp only [Bool.false_eq_true,if_false];rw [Rat.mul_zero,Rat.add_zero]
  | true=>
   have e1:cnt p (n+1)=cnt p n+1:=by rw [cnt_succ,hp];rfl
   have e2:pick p (n+1)=pick p n++[n]:=by unfold pick;rw [List.range_succ,List.filter_append];simp [hp]
   rw [e1,e2,List.map_append,List.map_singleton];unfold dotn;rw [sumTo];have e3:vf ((pick p n).map c++[c n]) (cnt p n)=c n:=by rw [←hl];exact vf_app_at _ _
   rw [e3];congr 1
   ·refine sumTo_congr fun i hi=>?_
    rw [vf_app_lt (by rw [hl];exact hi)]
   ·unfold ext
    rw [hp];simp
def two (a b:Nat) (k:Nat):Rat:=(if k=a then 1 else 0)-(if k=b then 1 else 0)
def arR (S:Nat→Nat→Bool):Nat→List Nat×Nat
 | 0=>([],0)
 | b+1=>match (List.range b).find? (fun a=>S a b) with
  | some a=>((arR S b).1++[(arR S b).1.getD a 0],(arR S b).2)
  | none=>((arR S b).1++[(arR S b).2],(arR S b).2+1)
theorem arR_succ (S:Nat→Nat→Bool) (b:Nat):arR S (b+1)=match (List.range b).find? (fun a=>S a b) with
    | some a=>((arR S b).1++[(arR S b).1.getD a 0],(arR S b).2)
    | none=>((arR S b).1++[(arR S b).2],(arR S b).2+1):=rfl
def newS (S:Nat→Nat→Bool) (b:Nat):Bool:=!(List.range b).any fun a=>S a b
theorem arR_len (S:Nat→Nat→Bool):∀ n:Nat,(arR S n).1.length=n
 | 0=>rfl
 | n+1=>by
  have:=arR_len S n;rw [arR_succ]
  split<;>simp [this]
def sameIs (l:List Nat) (a b:Nat):Bool:=l.getD a 0 == l.getD b 0
def freeB (l:List Nat) (b:Nat):Bool:=!newS (sameIs l) b
end
section
open Go
def lastX (md:Region.Mode) (L:List Oper) (n:Nat) (ex:List Nat):Bool:=
 decide (L.length=n+1) &&
 (List.range (n+1)).all (fun j=>match L[j]? with
  | some o=>o.after.all (fun e=>!Region.binds md e || decide (e.on<j)) && (match o.guard with | none=>true | some (g,_)=>decide (g<n))
  | none=>false) &&
 (List.range n).all (fun j=>ex.contains j || (List.range (n+1)).any fun k=>decide (j<k) && match L[k]? with
  | some o=>o.after.any (fun e=>Region.binds md e && e.on == j)
  | none=>false)
section
variable {P:Program} {Q:Exit→Act→World→Prop} {md:Region.Mode}
theorem lastX_spec {L:List Oper} {n:Nat} {ex:List Nat} (h:lastX md L n ex=true):L.length=n+1∧
    (∀ j o,L[j]?=some o→(∀ e∈o.after,Region.binds md e=true→e.on<j)∧∀ g b,o.guard=some (g,b)→g<n)∧
    (∀ j,j<n→j∈ex∨∃ k o e,j<k∧L[k]?=some o∧e∈o.after∧Region.binds md e=true∧e.on=j):=by
 unfold lastX at h;simp only [Bool.and_eq_true,decide_eq_true_eq,List.all_eq_true,List.mem_range,List.any_eq_true,Bool.or_eq_true,List.contains_iff_mem] at h;obtain ⟨⟨h1,h2⟩,h3⟩:=h;refine ⟨h1,fun j o ho=>?_,fun j hj=>?_⟩
 ·have hj:j<n+1:=by rw [←h1];exact (zB_.1 ho).1
  have:=h2 j hj;rw [ho] at this;simp only [Bool.and_eq_true,Array.all_eq_true_iff_forall_mem,Bool.or_eq_true,Bool.not_eq_true',decide_eq_true_eq] at this;refine ⟨fun e he hb=>(this.1 e he).resolve_left (by simp [hb]),fun g b hg=>?_⟩;have h4:=this.2;rw [hg] at h4;simpa using h4
 ·rcases h3 j hj with h3 | ⟨k,hk,hjk,h4⟩
  ·exact .inl h3
  refine .inr ?_;cases ho:L[k]? with
  | none=>rw [ho] at h4;cases h4
  | some o=>
   rw [ho] at h4;simp only [Array.any_eq_true'] at h4;obtain ⟨e,he,h5⟩:=h4;simp only [Bool.and_eq_true,beq_iff_eq] at h5;exact ⟨k,o,e,hjk,ho,he,h5.1,h5.2⟩
theorem all_listedX {L:List Oper} {n:Nat} {ex:List Nat} {oN:Oper} {listed:Array Bool} (hs:lastX md L n ex=true) (hx:∀ j∈ex,listed.getD j false=true) (hN:L[n]?=some oN) (hsz:listed.size=n) (hc:ClosedL md (L.take n) listed)
    (hr:∀ e∈oN.after,Region.binds md e=true→(listed.push false).getD e.on false=true):∀ d j,j+d=n→0<d→listed.getD j false=true:=by
 obtain ⟨h1,h2,h3⟩:=lastX_spec hs;intro d
 induction d using Nat.strongRecOn with
 | _ d ih=>
  intro j hj hd;rcases h3 j (by omega) with h3 | ⟨k,o,e,hjk,hk,he,hb,hej⟩
  ·exact hx j h3
  have hkl:k<n+1:=by rw [←h1];exact (zB_.1 hk).1
  by_cases hkn:k=n
  ·subst hkn
   rw [hN] at hk;injection hk with hk;subst hk;have:=hr e he hb;rw [hej] at this;rwa [Array.getD_eq_getD_getElem?,Array.getElem?_push_lt (by omega),←Array.getElem?_eq_getElem (by omega),←Array.getD_eq_getD_getElem?] at this
  ·have hl:=ih (n-k) (by omega) k (by omega) (by omega)
   have:=hc k o (by rw [List.getElem?_take_of_lt (by omega)];exact hk) hl e he hb;rwa [hej] at this
theorem ready_frontX {L:List Oper} {n:Nat} {ex:List Nat} {listed:Array Bool} (hs:lastX md L n ex=true) (hsz:listed.size=n) {i:Nat} (hi:i<n):i∈Region.ready md L.toArray (listed.push false)↔i∈Region.ready md (L.take n).toArray listed:=by
 obtain ⟨h1,h2,h3⟩:=lastX_spec hs;rw [mem_ready,mem_ready,List.getElem?_toArray,List.getElem?_toArray,List.getElem?_take_of_lt hi,getD_push (by omega)];refine and_congr Iff.rfl ⟨?_,?_⟩
 ·rintro ⟨o,ho,h⟩
  exact ⟨o,ho,fun e he hb=>by rw [←getD_push (by have:=(h2 i o ho).1 e he hb;omega)];exact h e he hb⟩
 ·rintro ⟨o,ho,h⟩
  exact ⟨o,ho,fun e he hb=>by rw [getD_push (by have:=(h2 i o ho).1 e he hb;omega)];exact h e he hb⟩
theorem wpAny_lastX {L:List Oper} {n:Nat} {ex:List Nat} {oN:Oper} (hs:lastX md L n ex=true) (hN:L[n]?=some oN):∀ (fuel:Nat) (listed:Array Bool) (a:Act) (w:World),listed.size=n→ClosedL md (L.take n) listed→(∀ j∈ex,listed.getD j false=true)→
    wpAny P md (L.take n).toArray (lastQ P L.toArray oN Q) fuel listed a w→wpAny P md L.toArray Q (fuel+1) (listed.push false) a w:=by
 obtain ⟨h1,h2,h3⟩:=lastX_spec hs;have key:∀ (fuel:Nat) (listed:Array Bool) (a:Act) (w:World),listed.size=n→ClosedL md (L.take n) listed→Region.ready md (L.take n).toArray listed=[]→lastQ P L.toArray oN Q .normal a w→wpAny P md L.toArray Q (fuel+1) (listed.push false) a w:=by
  intro fuel listed a w hsz hc hr hq;have hall:∀ m j,j<m→j<n→listed.getD j false=true:=by
   intro m
   induction m with
   | zero=>intro j hj;omega
   | succ m ih=>
    intro j hj hjn;cases hl:listed.getD j false with
    | true=>rfl
    | false=>
     exfalso;have hjl:j<L.length:=by omega
     have hmem:j∈Region.ready md (L.take n).toArray listed:=by
      rw [mem_ready,List.getElem?_toArray,List.getElem?_take_of_lt hjn,getD_tf (by omega),hl];refine ⟨rfl,L[j],zA_ hjl,fun e he hb=>ih _ ?_ ?_⟩
      ·have:=(h2 j _ (zA_ hjl)).1 e he hb;omega
      ·have:=(h2 j _ (zA_ hjl)).1 e he hb;omega
     rw [hr] at hmem;cases hmem
  have hall':=fun j hj=>hall n j hj hj;have hnr:n∈Region.ready md L.toArray (listed.push false):=by
   rw [mem_ready,List.getElem?_toArray];refine ⟨by simp [←hsz],oN,hN,fun e he hb=>?_⟩;have:=(h2 n oN hN).1 e he hb;rw [getD_push (by omega)];exact hall' _ this
  refine ⟨fun h0=>by rw [h0] at hnr;exact absurd hnr (by simp),fun j hj=>?_⟩;have hjn:j=n:=by
   obtain ⟨h0,o,ho,_⟩:=mem_ready.1 hj;rw [List.getElem?_toArray] at ho;have hjl:=(zB_.1 ho).1;refine Decidable.byContradiction fun hne=>?_;rw [getD_push (by omega),getD_tf (by omega),hall' j (by omega)] at h0;cases h0
  subst hjn;unfold wpOp;rw [List.getElem?_toArray,hN];simp only;have hd:=done_of_all (md:=md) h1 hsz hall';unfold lastQ at hq;dsimp only at hq
  split
  ·rename_i hw
   rw [if_pos hw] at hq;exact .inl (Oper.wp_mono (fun a' w' h=>wpAny_done hd h fuel) hq)
  ·rename_i hw
   rw [if_neg hw] at hq;exact wpAny_done hd hq fuel
 intro fuel
 induction fuel with
 | zero=>intro listed a w hsz hc hx h;exact key 0 listed a w hsz hc h.1 h.2
 | succ fuel ih=>
  intro listed a w hsz hc hx h
  by_cases hr:Region.ready md (L.take n).toArray listed=[]
  ·exact key (fuel+1) listed a w hsz hc hr (h.1 hr)
  ·have hnn:n∉Region.ready md L.toArray (listed.push false):=by
    intro hn;obtain ⟨_,o,ho,hall⟩:=mem_ready.1 hn;rw [List.getElem?_toArray,hN] at ho;injection ho with ho;subst ho;have hl:=all_listedX hs hx hN hsz hc hall;apply hr;rw [List.eq_nil_iff_forall_not_mem];intro j hj;obtain ⟨h0,o,ho,_⟩:=mem_ready.1 hj;rw [List.getElem?_toArray] at ho;have hjl:=(zB_.1 ho).1;have hjn:j<n:=by simp at hjl;omega
    have:=hl (n-j) j (by omega) (by omega);rw [getD_tf (by omega),this] at h0;cases h0
   have hlt:∀ j,j∈Region.ready md L.toArray (listed.push false)→j<n:=fun j hj=>by
    obtain ⟨_,o,ho,_⟩:=mem_ready.1 hj;rw [List.getElem?_toArray] at ho;have:=(zB_.1 ho).1;have hne:j≠n:=fun e=>hnn (e▸hj);omega
   refine ⟨fun h0=>?_,fun j hj=>?_⟩
   ·exfalso
    obtain ⟨j,hj⟩:=List.exists_mem_of_ne_nil _ hr;have hjn:j<n:=by
     obtain ⟨_,o,ho,_⟩:=mem_ready.1 hj;rw [List.getElem?_toArray] at ho;have:=(zB_.1 ho).1;simp at this;omega
    have:=(ready_frontX hs hsz hjn).2 hj;rw [h0] at this;cases this
   ·have hjn:=hlt j hj
    have hjr:=(ready_frontX hs hsz hjn).1 hj;refine wpOp_lastQ (L:=L) (F:=L.take n) (by rw [List.getElem?_take_of_lt hjn]) (fun o ho g b hg=>?_) (fun a' w' hh=>?_) (h.2 j hjr)
    ·rw [List.getElem?_take_of_lt hjn] at ho
     rw [List.getElem?_take_of_lt ((h2 j o ho).2 g b hg)]
    ·rw [push_set (by omega)]
     exact ih _ a' w' (by simpa using hsz) (closed_set hc hjr) (fun y hy=>getD_set_true (hx y hy)) hh
theorem wp_region_last3X {S:World→Prop} {id:Nat} {a:Act} {w:World} {L:List Oper} (m p:Nat) (op oK oM oN:Oper) (v:Value) (hm:P.follows .mixedOrders=true) (hs:lastB .any L (m+3)=true) (hs2:lastB .any (L.take (m+3)) (m+2)=true) (hs3:lastX .any (L.take (m+2)) (m+1) [p]=true)
    (hp:L[p]?=some op) (hpm:p<m+1) (hpa:op.after.all (fun e=>!Region.binds .any e)=true) (hK:L[m+1]?=some oK) (hM:L[m+2]?=some oM) (hN:L[m+3]?=some oN) (hP:takeB .any L.toArray (Array.replicate (m+4) false) p=true)
    (hQ:∀ c a w,Q (.panic c) (a.put op.dst v) w→Q (.panic c) a w) (hw:Region.wanted op (yielded L.toArray a.tmps)=true) (hy:∀ w,(execOp a.eval op).run P w=.ok (.value v) w) (hS:S w.drew)
    (h:S w.drew→wpAnyH P .any (L.take (m+1)).toArray (lastQ P (L.take (m+2)).toArray oK (lastQ P (L.take (m+3)).toArray oM (lastQ P L.toArray oN Q))) S m ((Array.replicate (m+1) false).setIfInBounds p true) (a.put op.dst v) w.drew):(Code.region id L.toArray true).wp P Q a w:=by
 obtain ⟨h1,h2,h3⟩:=lastB_spec hs;have ht1:(L.take (m+3)).take (m+2)=L.take (m+2):=by rw [List.take_take,Nat.min_eq_left (by omega)]
 have ht2:(L.take (m+2)).take (m+1)=L.take (m+1):=by rw [List.take_take,Nat.min_eq_left (by omega)]
 refine wp_region_any hm ?_;rw [show L.toArray.size=m+3+1 from by simpa using h1];unfold takeB at hP;rw [Bool.and_eq_true,Bool.and_eq_true] at hP;refine wpAny_take (by rw [List.getElem?_toArray];exact hp) hP.1.1 hP.1.2 hP.2 hQ (.inl ⟨hw,hy⟩) ?_;have hcl:∀ (F:List Oper) (k:Nat),F[p]?=some op∨F[p]?=none→ClosedL .any F ((Array.replicate k false).setIfInBounds p true):=fun F k hF j o ho hj e he hb=>by
  by_cases hpj:p=j
  ·subst hpj
   rcases hF with hF | hF
   ·rw [hF] at ho;injection ho with ho;subst ho
    have:=Array.all_eq_true_iff_forall_mem.1 hpa e he;rw [hb] at this;cases this
   ·rw [hF] at ho;cases ho
  ·rw [getD_set_ne false hpj] at hj
   exact absurd hj (by rcases Nat.lt_or_ge j k with h' | h'<;>simp [h'])
 have htk:∀ k,(L.take k)[p]?=some op∨(L.take k)[p]?=none:=fun k=>by
  rw [List.getElem?_take]
  split
  ·exact .inl hp
  ·exact .inr rfl
 rw [Array.replicate_succ,push_set (by simp;omega)];refine wpAny_last hs hN (m+2) _ _ _ (by simp) (hcl _ _ (htk _)) ?_;rw [Array.replicate_succ,push_set (by simp;omega)];refine wpAny_last hs2 (by rw [List.getElem?_take_of_lt (by omega)];exact hM) (m+1) _ _ _ (by simp) (hcl _ _ (by rw [ht1];exact htk _)) ?_;rw [ht1,Array.replicate_succ,push_set (by simp;omega)];refine wpAny_lastX hs3 (by rw [List.getElem?_take_of_lt (by omega)];exact hK) m _ _ _ (by simp) (hcl _ _ (by rw [ht2];exact htk _)) (fun j hj=>by rw [List.mem_singleton.1 hj];simp;omega) ?_;rw [ht2];exact wpAny_of_held _ _ _ _ (h hS)
end
section
variable {P:Program} {Q:Exit→Act→World→Prop}
theorem wp_region_last4X {S:World→Prop} {id:Nat} {a:Act} {w:World} {L:List Oper} (m p:Nat) (op oJ oK oM oN:Oper) (v:Value) (hm:P.follows .mixedOrders=true) (hs:lastB .any L (m+4)=true) (hs2:lastB .any (L.take (m+4)) (m+3)=true) (hs3:lastB .any (L.take (m+3)) (m+2)=true) (hs4:lastX .any (L.take (m+2)) (m+1) [p]=true)
    (hp:L[p]?=some op) (hpm:p<m+1) (hpa:op.after.all (fun e=>!Region.binds .any e)=true) (hJ:L[m+1]?=some oJ) (hK:L[m+2]?=some oK) (hM:L[m+3]?=some oM) (hN:L[m+4]?=some oN) (hP:takeB .any L.toArray (Array.replicate (m+5) false) p=true)
    (hQ:∀ c a w,Q (.panic c) (a.put op.dst v) w→Q (.panic c) a w) (hw:Region.wanted op (yielded L.toArray a.tmps)=true) (hy:∀ w,(execOp a.eval op).run P w=.ok (.value v) w) (hS:S w.drew)
    (h:S w.drew→wpAnyH P .any (L.take (m+1)).toArray (lastQ P (L.take (m+2)).toArray oJ (lastQ P (L.take (m+3)).toArray oK (lastQ P (L.take (m+4)).toArray oM (lastQ P L.toArray oN Q)))) S m ((Array.replicate (m+1) false).setIfInBounds p true) (a.put op.dst v) w.drew):(Code.region id L.toArray true).wp P Q a w:=by
 obtain ⟨h1,h2,h3⟩:=lastB_spec hs;have ht0:(L.take (m+4)).take (m+3)=L.take (m+3):=by rw [List.take_take,Nat.min_eq_left (by omega)]
 have ht1:(L.take (m+3)).take (m+2)=L.take (m+2):=by rw [List.take_take,Nat.min_eq_left (by omega)]
 have ht2:(L.take (m+2)).take (m+1)=L.take (m+1):=by rw [List.take_take,Nat.min_eq_left (by omega)]
 refine wp_region_any hm ?_;rw [show L.toArray.size=m+4+1 from by simpa using h1];unfold takeB at hP;rw [Bool.and_eq_true,Bool.and_eq_true] at hP;refine wpAny_take (by rw [List.getElem?_toArray];exact hp) hP.1.1 hP.1.2 hP.2 hQ (.inl ⟨hw,hy⟩) ?_;have hcl:∀ (F:List Oper) (k:Nat),F[p]?=some op∨F[p]?=none→ClosedL .any F ((Array.replicate k false).setIfInBounds p true):=fun F k hF j o ho hj e he hb=>by
  by_cases hpj:p=j
  ·subst hpj
   rcases hF with hF | hF
   ·rw [hF] at ho;injection ho with ho;subst ho
    have:=Array.all_eq_true_iff_forall_mem.1 hpa e he;rw [hb] at this;cases this
   ·rw [hF] at ho;cases ho
  ·rw [getD_set_ne false hpj] at hj
   exact absurd hj (by rcases Nat.lt_or_ge j k with h' | h'<;>simp [h'])
 have htk:∀ k,(L.take k)[p]?=some op∨(L.take k)[p]?=none:=fun k=>by
  rw [List.getElem?_take]
  split
  ·exact .inl hp
  ·exact .inr rfl
 rw [Array.replicate_succ,push_set (by simp;omega)];refine wpAny_last hs hN (m+3) _ _ _ (by simp) (hcl _ _ (htk _)) ?_;rw [Array.replicate_succ,push_set (by simp;omega)];refine wpAny_last hs2 (by rw [List.getElem?_take_of_lt (by omega)];exact hM) (m+2) _ _ _ (by simp) (hcl _ _ (by rw [ht0];exact htk _)) ?_;rw [ht0,Array.replicate_succ,push_set (by simp;omega)];refine wpAny_last hs3 (by rw [List.getElem?_take_of_lt (by omega)];exact hK) (m+1) _ _ _ (by simp) (hcl _ _ (by rw [ht1];exact htk _)) ?_;rw [ht1,Array.replicate_succ,push_set (by simp;omega)];refine wpAny_lastX hs4 (by rw [List.getElem?_take_of_lt (by omega)];exact hJ) m _ _ _ (by simp) (hcl _ _ (by rw [ht2];exact htk _)) (fun j hj=>by rw [List.mem_singleton.1 hj];simp;omega) ?_;rw [ht2];exact wpAny_of_held _ _ _ _ (h hS)
end
end
end Go.Proofs.YthgdchffeigkbaaGreatDoor
