import Derived.Test.YthgdchffeigkbaaGreatDoorX08
set_option linter.unusedVariables false
set_option linter.unusedSimpArgs false
namespace Go.Proofs.YthgdchffeigkbaaGreatDoor
section
def pB (n i:Nat):List Rat:=(List.replicate n 0).set i 1
def gN (M:List (List Rat)):List (List Rat):=M.mapIdx fun i row=>row++pB M.length i
theorem g_ (M:List (List Rat)):(gN M).length=M.length:=by unfold gN;rw [List.length_mapIdx]
theorem wE {M:List (List Rat)} {i:Nat} {row:List Rat} (h:M[i]?=some row):(gN M)[i]?=some (row++pB M.length i):=by
 unfold gN;rw [List.getElem?_mapIdx,h];rfl
theorem uU {M:List (List Rat)} (h:∀ a∈M,a.length=M.length):∀ a∈gN M,a.length=M.length+M.length:=fun a ha=>by
 obtain ⟨i,hi⟩:=List.mem_iff_getElem?.1 ha;obtain ⟨row,hr⟩:∃ row,M[i]?=some row:=eO (by have:=(dP.1 hi).1;rwa [g_] at this);rw [wE hr] at hi;injection hi with hi;rw [<-hi,iC,h row (cO hr)];unfold pB;rw [lF,o3]
def mE (M:List (List Rat)):List (List Rat):=(lD (gN M) M.length).1.map (List.drop M.length)
def Reg (M:List (List Rat)):Prop:=¬(lD (gN M) M.length).2.length<M.length
theorem kW (f:Fn) (n:Nat):∀ m:Nat,aO (n+m) f=aO n f+aO m (fun j=>f (n+j))
 | 0=>by simp only [Nat.add_zero,aO];rw [Rat.add_zero]
 | m+1=>by
  rw [<-Nat.add_assoc];simp only [aO];rw [kW f n m,Rat.add_assoc]
theorem aDS:∀ {l:List Nat} {k t p:Nat},l.Pairwise (·<·)->(∀ x∈l,k<=x)->l[t]?=some p->k+t<=p
 | x::l,k,0,p,_,h,e=>by simp at e;subst e;exact h x (by simp)
 | x::l,k,t+1,p,hp,h,e=>by
  rw [List.pairwise_cons] at hp;have:=aDS (k:=k+1) hp.2 (fun y hy=>by have:=hp.1 y hy;have:=h x (by simp);omega) (by simpa using e);omega
 | [],_,_,_,_,_,e=>by simp at e
theorem UP:∀ {l:List Nat} {n t p:Nat},l.Pairwise (·<·)->(∀ x∈l,x<n)->l[t]?=some p->p+(l.length-t)<=n
 | [x],n,0,p,_,h,e=>by simp at e;subst e;have:=h x (by simp);simp;omega
 | x::y::l,n,0,p,hp,h,e=>by
  simp at e;subst e;rw [List.pairwise_cons] at hp;have h1:=UP (t:=0) hp.2 (fun z hz=>h z (by simp [hz])) rfl;have h2:=hp.1 y (by simp);simp only [E_] at h1 ⊢;omega
 | x::l,n,t+1,p,hp,h,e=>by
  rw [List.pairwise_cons] at hp;have:=UP (t:=t) hp.2 (fun z hz=>h z (by simp [hz])) (by simpa using e);simp only [E_];omega
 | [],_,_,_,_,_,e=>by simp at e
theorem X0 {l:List Nat} {n t p:Nat} (h1:l.Pairwise (·<·)) (h2:∀ x∈l,x<n) (h3:l.length=n) (h:l[t]?=some p):p=t:=by
 have a:=aDS (k:=0) h1 (fun _ _=>Nat.zero_le _) h;have b:=UP h1 h2 h;have c:=(dP.1 h).1;omega
section
variable {M:List (List Rat)}
theorem aCl {a b:List Rat} {j:Nat} (h:j<a.length):vf (a++b) j=vf a j:=by
 unfold vf;rw [eY,eY,xQ h]
theorem WW {a b:List Rat} {j:Nat}:vf (a++b) (a.length+j)=vf b j:=by
 unfold vf;rw [eY,eY,AZ (by omega),Nat.add_sub_cancel_left]
theorem aGY {a:List Rat} {n j:Nat}:vf (a.drop n) j=vf a (n+j):=by
 unfold vf;rw [eY,eY,List.getElem?_drop]
theorem WV {n i j:Nat} (hj:j<n):vf (pB n i) j=if j=i then 1 else 0:=by
 unfold vf pB;rw [eY,List.getElem?_set]
 by_cases h:i=j
 ·subst h
  rw [if_pos rfl,if_pos (by rw [o3];exact hj),if_pos rfl];rfl
 ·rw [if_neg h,if_neg (fun e=>h e.symm),List.getElem?_replicate,if_pos hj]
  rfl
theorem YF (hw:∀ a∈M,a.length=M.length) (x:Fn):NQ M.length (yS (gN M)) x<->NQ M.length (yS M) x:=by
 rw [qI,qI];have key:∀ (i:Nat) (a:List Rat),M[i]?=some a->bB M.length (vf (a++pB M.length i)) x=bB M.length (vf a) x:=fun i a hi=>
  kQ (fun j hj=>aCl (by rw [hw a (cO hi)];exact hj)) fun _ _=>rfl
 constructor
 ·intro h i a hi
  rw [<-key i a hi];exact h i _ (wE hi)
 ·intro h i a hi
  obtain ⟨row,hr⟩:∃ row,M[i]?=some row:=eO (by have:=(dP.1 hi).1;rwa [g_] at this);rw [wE hr] at hi;injection hi with hi;rw [<-hi,key i row hr];exact h i row hr
theorem aHt (hw:∀ a∈M,a.length=M.length):Reg M<->∀ x,NQ M.length (yS M) x->∀ j,j<M.length->x j=0:=by
 have R:=zH (M:=gN M) (cols:=M.length) (uU hw) (Nat.le_add_right _ _);have K5:=R.ech.le;rw [sH,R.len,g_] at K5;unfold Reg
 constructor
 ·intro h x hx
  exact (BT R.ech).1 (by omega) x ((R.ker M.length (Nat.le_add_right _ _) x).2 ((YF hw x).2 hx))
 ·intro h
  have:=(BT R.ech).2 fun x hx=>h x ((YF hw x).1 ((R.ker M.length (Nat.le_add_right _ _) x).1 hx));omega
theorem rW (hw:∀ a∈M,a.length=M.length):(mE M).length=M.length/\∀ a∈mE M,a.length=M.length:=by
 have R:=zH (M:=gN M) (cols:=M.length) (uU hw) (Nat.le_add_right _ _);refine ⟨by unfold mE;rw [lB,R.len,g_],fun a ha=>?_⟩;unfold mE at ha;obtain ⟨e,he,rfl⟩:=List.mem_map.1 ha;rw [EI,R.wid e he];omega
def pI (M:List (List Rat)) (b:Fn):Fn:=fun t=>bB M.length (vf ((mE M).getD t [])) b
theorem XX (hw:∀ a∈M,a.length=M.length) (hr:Reg M) (b:Fn) {i:Nat} {a:List Rat} (hi:M[i]?=some a):bB M.length (vf a) (pI M b)=b i:=by
 have R:=zH (M:=gN M) (cols:=M.length) (uU hw) (Nat.le_add_right _ _);have K5:=R.ech.le;rw [sH,R.len,g_] at K5;have CC:(lD (gN M) M.length).2.length=M.length:=by unfold Reg at hr;omega
 have CD:=(dP.1 hi).1;obtain ⟨x,hx⟩:∃ x:Fn,x=fun j=>if j<M.length then pI M b j else -(b (j-M.length)):=⟨_,rfl⟩;have yA:∀ j,j<M.length->x j=pI M b j:=fun j hj=>by rw [hx];simp only;rw [if_pos hj]
 have xJ:∀ j,x (M.length+j)=-(b j):=fun j=>by rw [hx];simp only;rw [if_neg (by omega),Nat.add_sub_cancel_left]
 have hk:NQ (M.length+M.length) (yS (lD (gN M) M.length).1) x:=by
  rw [qI];intro t e ht;have QB:=(dP.1 ht).1;rw [R.len,g_] at QB;obtain ⟨p,hp⟩:∃ p,(lD (gN M) M.length).2[t]?=some p:=eO (by omega);have hpt:=X0 R.ech.inc R.ech.lt CC hp;subst hpt;have JF:=R.ech.one p p (vf e) hp (m7 ht);have aT8:∀ j,j<M.length->j≠p->vf e j=0:=fun j hj cP=>by
   obtain ⟨q,hq⟩:∃ q,(lD (gN M) M.length).2[j]?=some q:=eO (by omega);have:=X0 R.ech.inc R.ech.lt CC hq;subst this;exact R.ech.zer q q p (vf e) hq (m7 ht) (fun h=>cP h.symm)
  unfold bB;rw [kW];have h1:aO M.length (fun j=>vf e j*x j)=pI M b p:=by
   rw [iN QB (fun j hj cP=>by rw [aT8 j hj cP,Rat.zero_mul]),JF,Rat.one_mul,yA p QB]
  have h2:aO M.length (fun j=>vf e (M.length+j)*x (M.length+j))=-(pI M b p):=by
   have h3:(mE M).getD p []=e.drop M.length:=by
    unfold mE;rw [eY,kI,ht];rfl
   unfold pI bB;rw [h3,show ∀ z:Rat,-z=(-1)*z from fun z=>by grind,<-bY];refine aN fun j hj=>?_;rw [xJ,aGY];grind
  rw [h1,h2];grind
 have AW:=(R.ker _ lR x).1 hk;rw [qI] at AW;have h0:=AW i _ (wE hi);unfold bB at h0;rw [kW] at h0;have E1:=hw a (cO hi);have h1:aO M.length (fun j=>vf (a++pB M.length i) j*x j)=bB M.length (vf a) (pI M b):=
  aN fun j hj=>by rw [aCl (by omega),yA j hj]
 have h2:aO M.length (fun j=>vf (a++pB M.length i) (M.length+j)*x (M.length+j))=-(b i):=by
  rw [iN CD (fun j hj cP=>by
   have:=WW (a:=a) (b:=pB M.length i) (j:=j);rw [E1] at this;rw [this,WV hj,if_neg cP,Rat.zero_mul])]
  have:=WW (a:=a) (b:=pB M.length i) (j:=i);rw [E1] at this;rw [this,WV CD,if_pos rfl,Rat.one_mul,xJ]
 rw [h1,h2] at h0;grind
end
end
