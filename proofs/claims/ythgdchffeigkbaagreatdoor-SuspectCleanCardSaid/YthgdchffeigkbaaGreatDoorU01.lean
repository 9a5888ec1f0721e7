import Derived.Test.YthgdchffeigkbaaGreatDoorU00
import Derived.Lib.Hide
set_option linter.unusedVariables false
set_option linter.unusedSimpArgs false
namespace Go.Proofs.YthgdchffeigkbaaGreatDoor
section
def wv:List Nat→Nat
 | []=>0
 | x::r=>x+4294967296*wv r
def Wd (l:List Nat):Prop:=∀ x∈l,x<4294967296
def BB (k:Nat):Nat:=4294967296^k
theorem BB_zero:BB 0=1:=rfl
theorem BB_succ (k:Nat):BB (k+1)=BB k*4294967296:=Nat.pow_succ ..
theorem BB_add (j k:Nat):BB (j+k)=BB j*BB k:=Nat.pow_add ..
theorem BB_pos (k:Nat):0<BB k:=Nat.pow_pos (by decide)
theorem BB_le {j k:Nat} (h:j≤k):BB j≤BB k:=Nat.pow_le_pow_right (by decide) h
theorem Wd.tail {x:Nat} {l:List Nat} (h:Wd (x::l)):Wd l:=fun y hy=>h y (List.mem_cons_of_mem _ hy)
theorem Wd.head {x:Nat} {l:List Nat} (h:Wd (x::l)):x<4294967296:=h x (List.mem_cons_self ..)
theorem Wd.take {l:List Nat} (h:Wd l) (k:Nat):Wd (l.take k):=fun y hy=>h y (List.mem_of_mem_take hy)
theorem Wd.drop {l:List Nat} (h:Wd l) (k:Nat):Wd (l.drop k):=fun y hy=>h y (List.mem_of_mem_drop hy)
theorem Wd.getD {l:List Nat} (h:Wd l) (k:Nat):l.getD k 0<4294967296:=by
 rw [zD_];cases hk:l[k]? with
 | none=>simp
 | some x=>exact h x (zC_ hk)
theorem Wd.set {l:List Nat} (h:Wd l) (k:Nat) {x:Nat} (hx:x<4294967296):Wd (l.set k x):=fun y hy=>by
 rcases List.mem_or_eq_of_mem_set hy with hy | rfl
 ·exact h y hy
 ·exact hx
theorem wd_nil:Wd []:=fun x h=>by cases h
theorem wd_zeros (n:Nat):Wd (List.replicate n 0):=fun x h=>by rw [List.eq_of_mem_replicate h];decide
theorem wv_zeros:∀ n:Nat,wv (List.replicate n 0)=0
 | 0=>rfl
 | n+1=>by rw [List.replicate_succ,wv,wv_zeros n]
theorem wv_append:∀ l m:List Nat,wv (l++m)=wv l+BB l.length*wv m
 | [],m=>by rw [List.nil_append,zW_,BB_zero,wv,Nat.one_mul,Nat.zero_add]
 | x::r,m=>by
  rw [List.cons_append,wv,wv,wv_append r m,zV_,BB_succ];grind
theorem wv_lt:∀ {l:List Nat},Wd l→wv l<BB l.length
 | [],_=>by simp [wv,BB_zero]
 | x::r,h=>by
  have h1:=wv_lt h.tail;have h2:=h.head;rw [wv,zV_,BB_succ];omega
theorem wv_split (l:List Nat) (k:Nat) (hk:k≤l.length):wv l=wv (l.take k)+BB k*wv (l.drop k):=by
 conv=>lhs;rw [←List.take_append_drop k l]
 rw [wv_append,zF_,Nat.min_eq_left hk]
theorem take_getD (l:List Nat) (k:Nat):wv (l.take (k+1))=wv (l.take k)+l.getD k 0*BB k:=by
 rw [List.take_add_one,wv_append,zD_];cases hk:l[k]? with
 | none=>simp [wv]
 | some x=>
  have:=(zB_.1 hk).1;simp only [Option.toList_some,Option.getD_some,wv,zF_];rw [Nat.min_eq_left (by omega)];grind
theorem wv_set:∀ (l:List Nat) (k x:Nat),k<l.length→wv (l.set k x)+l.getD k 0*BB k=wv l+x*BB k
 | [],_,_,h=>absurd h (by simp)
 | y::r,0,x,_=>by simp only [List.set_cons_zero,wv,List.getD_cons_zero,BB_zero];omega
 | y::r,k+1,x,h=>by
  have:=wv_set r k x (by simpa using h);simp only [List.set_cons_succ,wv,List.getD_cons_succ,BB_succ];grind
theorem wd_set_off {l:List Nat} {k j x:Nat} (h:k≠j):(l.set k x).getD j 0=l.getD j 0:=by
 rw [zD_,List.getElem?_set_ne h,zD_]
theorem wd_zero_at (n k:Nat):(List.replicate n 0).getD k 0=0:=by
 rw [zD_,List.getElem?_replicate]
 split<;>rfl
theorem wd_out {l:List Nat} {k:Nat} (h:l.length≤k):l.getD k 0=0:=by
 rw [zD_,List.getElem?_eq_none h];rfl
def dig (n:Nat):List Nat:=if h:n=0 then [] else n % 4294967296::dig (n / 4294967296)
termination_by n
decreasing_by exact Nat.div_lt_self (by omega) (by decide)
theorem dig_zero:dig 0=[]:=by unfold dig;simp
theorem dig_pos {n:Nat} (h:n≠0):dig n=n % 4294967296::dig (n / 4294967296):=by rw [dig,dif_neg h]
theorem wv_dig (n:Nat):wv (dig n)=n:=by
 induction n using Nat.strongRecOn with
 | _ n ih=>
  by_cases h:n=0
  ·subst h;rw [dig_zero,wv]
  ·rw [dig_pos h,wv,ih _ (Nat.div_lt_self (by omega) (by decide))]
   omega
theorem wd_dig (n:Nat):Wd (dig n):=by
 induction n using Nat.strongRecOn with
 | _ n ih=>
  by_cases h:n=0
  ·subst h;rw [dig_zero];exact wd_nil
  ·rw [dig_pos h]
   intro x hx;rcases List.mem_cons.1 hx with rfl | hx
   ·omega
   ·exact ih _ (Nat.div_lt_self (by omega) (by decide)) x hx
def Nrm (l:List Nat):Prop:=Wd l∧l.getLast?≠some 0
theorem nrm_dig (n:Nat):Nrm (dig n):=by
 refine ⟨wd_dig n,?_⟩
 induction n using Nat.strongRecOn with
 | _ n ih=>
  by_cases h:n=0
  ·subst h;rw [dig_zero];simp
  ·rw [dig_pos h]
   by_cases h2:n / 4294967296=0
   ·rw [h2,dig_zero];simp;omega
   ·have:=ih _ (Nat.div_lt_self (by omega) (by decide):n / 4294967296<n)
    rw [dig_pos h2] at this ⊢;simpa using this
theorem dig_of:∀ {l:List Nat},Nrm l→dig (wv l)=l
 | [],_=>by rw [wv,dig_zero]
 | x::r,h=>by
  have hx:=h.1.head;cases r with
  | nil=>
   have:x≠0:=fun e=>h.2 (by rw [e];rfl);rw [wv,wv,dig_pos (by omega)];rw [show (x+4294967296*0) % 4294967296=x from by omega,show (x+4294967296*0) / 4294967296=0 from by omega,dig_zero]
  | cons y t=>
   have hn:Nrm (y::t):=⟨h.1.tail,by have:=h.2;simpa using this⟩;have ih:=dig_of hn;have hne:wv (y::t)≠0:=fun e=>by rw [e,dig_zero] at ih;cases ih
   rw [wv,dig_pos (by omega)];rw [show (x+4294967296*wv (y::t)) % 4294967296=x from by omega,show (x+4294967296*wv (y::t)) / 4294967296=wv (y::t) from by omega,ih]
def dlen (n:Nat):Nat:=(dig n).length
theorem dlen_zero:dlen 0=0:=by unfold dlen;rw [dig_zero];rfl
theorem dlen_pos {n:Nat} (h:n≠0):dlen n=dlen (n / 4294967296)+1:=by unfold dlen;rw [dig_pos h];rfl
theorem lt_dlen (n:Nat):n<BB (dlen n):=by
 have:=wv_lt (wd_dig n);rwa [wv_dig] at this
theorem dlen_le {n k:Nat} (h:n<BB k):dlen n≤k:=by
 induction k generalizing n with
 | zero=>rw [BB_zero] at h;rw [show n=0 from by omega,dlen_zero];exact Nat.le_refl 0
 | succ k ih=>
  by_cases h0:n=0
  ·rw [h0,dlen_zero];omega
  ·rw [dlen_pos h0]
   have:n / 4294967296<BB k:=by rw [BB_succ] at h;exact (Nat.div_lt_iff_lt_mul (by decide)).2 h
   have:=ih this;omega
theorem le_dlen {n:Nat} (h:n≠0):BB (dlen n-1)≤n:=by
 refine Nat.le_of_not_lt fun hn=>?_;have:=dlen_le hn;have:dlen n≠0:=by rw [dlen_pos h];omega
 omega
theorem dlen_mono {m n:Nat} (h:m≤n):dlen m≤dlen n:=dlen_le (zT_ h (lt_dlen n))
theorem lt_of_dlen {m n:Nat} (h:dlen m<dlen n):m<n:=Nat.lt_of_not_le fun hn=>by have:=dlen_mono hn;omega
theorem dlen_add (m n:Nat):dlen (m+n)≤max (dlen m) (dlen n)+1:=by
 refine dlen_le ?_;have h1:=zJ_ (lt_dlen m) (BB_le (Nat.le_max_left (dlen m) (dlen n)));have h2:=zJ_ (lt_dlen n) (BB_le (Nat.le_max_right (dlen m) (dlen n)));rw [BB_succ];omega
theorem dlen_mul (m n:Nat):dlen (m*n)≤dlen m+dlen n:=by
 refine dlen_le ?_;rw [BB_add];have h1:=lt_dlen m;have h2:=lt_dlen n;exact Nat.mul_lt_mul_of_lt_of_le h1 (zQ_ h2) (BB_pos _)
theorem dlen_one {n:Nat} (h:n≠0) (h2:n<4294967296):dlen n=1:=by rw [dlen_pos h,Nat.div_eq_of_lt h2,dlen_zero]
theorem dig_len (n:Nat):(dig n).length=dlen n:=rfl
theorem trim_step {l:List Nat} {k:Nat} (hk:0<k) (hl:k≤l.length) (h0:l.getD (k-1) 0=0):wv (l.take (k-1))=wv (l.take k):=by
 have:=take_getD l (k-1);rw [h0,Nat.zero_mul,Nat.add_zero,Nat.sub_add_cancel hk] at this;exact this.symm
theorem trim_end {l:List Nat} {k:Nat} (hd:Wd l) (hl:k≤l.length) (hz:k=0∨l.getD (k-1) 0≠0):l.take k=dig (wv (l.take k)):=by
 refine (dig_of ⟨hd.take k,?_⟩).symm;rcases hz with rfl | hz
 ·simp
 ·intro h
  rw [List.getLast?_eq_getElem?,zF_,Nat.min_eq_left hl] at h
  by_cases hk:k=0
  ·subst hk;simp at h
  ·rw [List.getElem?_take_of_lt (by omega)] at h
   rw [zD_,h] at hz;exact hz rfl
theorem wv_cmp {l m:List Nat} {i:Nat} (hl:Wd l) (hlen:l.length=m.length) (hi:i<l.length) (hd:l.drop (i+1)=m.drop (i+1)) (h:l.getD i 0<m.getD i 0):wv l<wv m:=by
 rw [wv_split l (i+1) (by omega),wv_split m (i+1) (by omega),hd,take_getD,take_getD];have h1:wv (l.take i)<BB i:=by
  have:=wv_lt (hl.take i);rwa [zF_,Nat.min_eq_left (by omega)] at this
 have h2:(l.getD i 0+1)*BB i≤m.getD i 0*BB i:=Nat.mul_le_mul_right _ h;rw [Nat.add_mul,Nat.one_mul] at h2;omega
theorem drop_eq_step {l m:List Nat} {i:Nat} (hlen:l.length=m.length) (hi:i<l.length) (hd:l.drop (i+1)=m.drop (i+1)) (h:l.getD i 0=m.getD i 0):l.drop i=m.drop i:=by
 rw [List.drop_eq_getElem_cons hi,List.drop_eq_getElem_cons (by omega:i<m.length),hd];congr 1
 rw [zD_,zD_,zA_ hi,zA_ (by omega)] at h;exact h
def Zf (l:List Nat) (i:Nat):Prop:=∀ j,i≤j→l.getD j 0=0
theorem zf_zeros (n i:Nat):Zf (List.replicate n 0) i:=fun j _=>wd_zero_at n j
theorem Zf.set {l:List Nat} {i k x:Nat} (h:Zf l i) (hk:k<i):Zf (l.set k x) i:=fun j hj=>by rw [wd_set_off (by omega)];exact h j hj
theorem Zf.put {l:List Nat} {i x:Nat} (h:Zf l i):Zf (l.set i x) (i+1):=fun j hj=>by rw [wd_set_off (by omega)];exact h j (by omega)
theorem Zf.mono {l:List Nat} {i j:Nat} (h:Zf l i) (hj:i≤j):Zf l j:=fun k hk=>h k (by omega)
theorem zf_set {l:List Nat} {i x:Nat} (h:Zf l i) (hi:i<l.length):wv (l.set i x)=wv l+x*BB i:=by
 have:=wv_set l i x hi;rw [h i lR,Nat.zero_mul,Nat.add_zero] at this;exact this
theorem add_step {a b out:List Nat} {i c:Nat} (ha:Wd a) (hb:Wd b) (hi:i<out.length) (hz:Zf out i) (hc:c≤1) (hI:wv out+c*BB i=wv (a.take i)+wv (b.take i)) :
    (c+a.getD i 0+b.getD i 0) / 4294967296≤1∧wv (out.set i ((c+a.getD i 0+b.getD i 0) % 4294967296))+(c+a.getD i 0+b.getD i 0) / 4294967296*BB (i+1)=wv (a.take (i+1))+wv (b.take (i+1)):=by
 have h1:=ha.getD i;have h2:=hb.getD i;generalize hs:c+a.getD i 0+b.getD i 0=s;refine ⟨by omega,?_⟩;rw [zf_set hz hi,take_getD,take_getD,BB_succ];have h3:=Nat.div_add_mod s 4294967296;have h4:s % 4294967296*BB i+s / 4294967296*(BB i*4294967296)=s*BB i:=by grind
 rw [←hs] at h4 ⊢;generalize (c+a.getD i 0+b.getD i 0) / 4294967296=q at *;generalize (c+a.getD i 0+b.getD i 0) % 4294967296=r at *;rw [Nat.add_mul,Nat.add_mul] at h4;omega
theorem add_end {out:List Nat} {n c v:Nat} (hn:n<out.length) (hz:Zf out n) (hI:wv out+c*BB n=v):wv (out.set n c)=v:=by rw [zf_set hz hn];exact hI
theorem sub_step {a b out:List Nat} {i:Nat} {c:Int} (ha:Wd a) (hb:Wd b) (hi:i<out.length) (hz:Zf out i) (hc:-1≤c) (hc2:c≤0) (hI:(wv out:Int)+c*(BB i:Int)=(wv (a.take i):Int)-(wv (b.take i):Int)) :
    -1≤(c+a.getD i 0-b.getD i 0) / 4294967296∧(c+a.getD i 0-b.getD i 0) / 4294967296≤0∧(wv (out.set i ((c+a.getD i 0-b.getD i 0) % 4294967296).toNat):Int)+(c+a.getD i 0-b.getD i 0) / 4294967296*(BB (i+1):Int)=(wv (a.take (i+1)):Int)-(wv (b.take (i+1)):Int):=by
 have h1:=ha.getD i;have h2:=hb.getD i;rw [zf_set hz hi,take_getD,take_getD,BB_succ];generalize a.getD i 0=x at *;generalize b.getD i 0=y at *;refine ⟨by omega,by omega,?_⟩;have h3:(((c+x-y) % 4294967296).toNat:Int)=(c+x-y) % 4294967296:=by omega
 have h4:=Int.mul_ediv_add_emod (c+x-y) 4294967296;generalize (c+(x:Int)-y) / 4294967296=q at *;generalize ((c+(x:Int)-y) % 4294967296)=r at *;simp only [Int.natCast_add,Int.natCast_mul,h3];grind
theorem sub_end {a b out:List Nat} {c:Int} (hc:-1≤c) (hc2:c≤0) (ho:Wd out) (hle:wv b≤wv a) (hI:(wv out:Int)+c*(BB out.length:Int)=(wv a:Int)-(wv b:Int)):wv out=wv a-wv b:=by
 have h1:=wv_lt ho;have h2:c=0:=by
  rcases (by omega:c=-1∨c=0) with rfl | rfl
  ·omega
  ·rfl
 subst h2;omega
theorem mul_step {b out:List Nat} {i k c x W:Nat} (hb:Wd b) (ho:Wd out) (hx:x<4294967296) (hc:c<4294967296) (hi:i+k<out.length) (hI:wv out+c*BB (i+k)=W+x*wv (b.take k)*BB i) :
    (c+out.getD (i+k) 0+x*b.getD k 0)<18446744073709551616∧(c+out.getD (i+k) 0+x*b.getD k 0) / 4294967296<4294967296∧wv (out.set (i+k) ((c+out.getD (i+k) 0+x*b.getD k 0) % 4294967296))+(c+out.getD (i+k) 0+x*b.getD k 0) / 4294967296*BB (i+(k+1))=W+x*wv (b.take (k+1))*BB i:=by
 have h1:=hb.getD k;have h2:=ho.getD (i+k);have h3:x*b.getD k 0≤4294967295*4294967295:=Nat.mul_le_mul (by omega) (by omega);have h5:=wv_set out (i+k) ((c+out.getD (i+k) 0+x*b.getD k 0) % 4294967296) hi;generalize hs:c+out.getD (i+k) 0+x*b.getD k 0=s at *;refine ⟨by omega,by omega,?_⟩;rw [take_getD,←Nat.add_assoc i k 1,BB_succ];have h4:=Nat.div_add_mod s 4294967296;have hbb:BB (i+k)=BB i*BB k:=BB_add i k;generalize s / 4294967296=q at *;generalize s % 4294967296=r at *;generalize b.getD k 0=y at *;generalize out.getD (i+k) 0=z at *;have h6:r*BB (i+k)+q*(BB (i+k)*4294967296)=s*BB (i+k):=by rw [←h4];grind
 rw [←hs] at h6;have h7:x*(wv (b.take k)+y*BB k)*BB i=x*wv (b.take k)*BB i+x*y*BB (i+k):=by rw [hbb];grind
 rw [h7];have h8:(c+z+x*y)*BB (i+k)=c*BB (i+k)+z*BB (i+k)+x*y*BB (i+k):=by grind
 rw [h8] at h6;omega
theorem mul_end {a b out:List Nat} {i c:Nat} (hn:i+b.length<out.length) (hz:Zf out (i+b.length)) (hI:wv out+c*BB (i+b.length)=wv (a.take i)*wv b+a.getD i 0*wv b*BB i):wv (out.set (i+b.length) c)=wv (a.take (i+1))*wv b:=by
 rw [zf_set hz hn,hI,take_getD];grind
theorem sdiv_step {a out:List Nat} {i r d:Nat} (ha:Wd a) (hl:a.length=out.length) (hd:0<d) (hd2:d<4294967296) (hr:r<d) (hi:i<a.length) (hI:wv (a.drop (i+1))=d*wv (out.drop (i+1))+r) :
    (r*4294967296+a.getD i 0) / d<4294967296∧wv (a.drop i)=d*wv ((out.set i ((r*4294967296+a.getD i 0) / d)).drop i)+(r*4294967296+a.getD i 0) % d:=by
 have h1:=ha.getD i;have h2:(r*4294967296+a.getD i 0)<d*4294967296:=by
  have:(r+1)*4294967296≤d*4294967296:=Nat.mul_le_mul_right _ hr;omega
 refine ⟨(Nat.div_lt_iff_lt_mul hd).2 (by omega),?_⟩;rw [List.drop_eq_getElem_cons hi,List.drop_eq_getElem_cons (by simpa using by omega:i<(out.set i _).length),wv,wv,hI];have h3:a[i]=a.getD i 0:=by rw [zD_,zA_ hi];rfl
 have h5:(out.set i ((r*4294967296+a.getD i 0) / d)).drop (i+1)=out.drop (i+1):=by rw [List.drop_set_of_lt (by omega)]
 rw [h3,h5];have h6:(out.set i ((r*4294967296+a.getD i 0) / d))[i]'(by simp;omega)=(r*4294967296+a.getD i 0) / d:=by simp
 rw [h6];clear h5 h6 h3;have h4:=Nat.div_add_mod (r*4294967296+a.getD i 0) d;generalize (r*4294967296+a.getD i 0) / d=q at *;generalize (r*4294967296+a.getD i 0) % d=t at *;grind
end
section
theorem zf_of_lt {l:List Nat} {k:Nat} (h:wv l<BB k):Zf l k:=by
 intro j hj;refine Classical.byContradiction fun hne=>?_;have hjl:j<l.length:=Classical.byContradiction fun hn=>hne (wd_out (by omega));have h1:wv (l.take (j+1))≤wv l:=by rw [wv_split l (j+1) (by omega)];omega
 rw [take_getD] at h1;have h2:1*BB j≤l.getD j 0*BB j:=Nat.mul_le_mul_right _ (by omega);have h3:=BB_le hj;omega
theorem zf_drop {l:List Nat} {k:Nat} (h:Zf l k):wv (l.drop k)=0:=by
 have e:l.drop k=List.replicate (l.length-k) 0:=by
  apply List.ext_getElem?;intro i;rw [List.getElem?_drop,List.getElem?_replicate]
  split
  ·rename_i hi
   have:=h (k+i) (by omega);rw [zD_,zA_ (by omega)] at this;rw [zA_ (by omega)];simpa using this
  ·rw [List.getElem?_eq_none (by omega)]
 rw [e,wv_zeros]
theorem zf_take {l:List Nat} {k:Nat} (h:Zf l k) (hk:k≤l.length):wv l=wv (l.take k):=by
 rw [wv_split l k hk,zf_drop h,Nat.mul_zero,Nat.add_zero]
theorem zf_lt {l:List Nat} {k:Nat} (hd:Wd l) (h:Zf l k) (hk:k≤l.length):wv l<BB k:=by
 rw [zf_take h hk];have:=wv_lt (hd.take k);rwa [zF_,Nat.min_eq_left hk] at this
theorem sh_step {a out:List Nat} {i c s:Nat} (ha:Wd a) (hs:s≤31) (hi:i<out.length) (hz:Zf out i) (hc:c<2^s) (hI:wv out+c*BB i=wv (a.take i)*2^s) :
    c+a.getD i 0*2^s<18446744073709551616∧(c+a.getD i 0*2^s) / 4294967296<2^s∧wv (out.set i ((c+a.getD i 0*2^s) % 4294967296))+(c+a.getD i 0*2^s) / 4294967296*BB (i+1)=wv (a.take (i+1))*2^s:=by
 have h1:=ha.getD i;rw [zf_set hz hi,take_getD,BB_succ];generalize a.getD i 0=x at *;have hp:0<2^s:=Nat.pow_pos (by decide);have hp2:2^s≤2147483648:=Nat.pow_le_pow_right (by decide) hs;generalize 2^s=p at *;have h2:x*p+p≤4294967296*p:=by
  have:(x+1)*p≤4294967296*p:=Nat.mul_le_mul_right _ h1;rwa [Nat.add_mul,Nat.one_mul] at this
 have h3:c+x*p<p*4294967296:=by omega
 refine ⟨by omega,(Nat.div_lt_iff_lt_mul (by decide)).2 h3,?_⟩;have h4:=Nat.div_add_mod (c+x*p) 4294967296;generalize hq:(c+x*p) / 4294967296=q at *;generalize (c+x*p) % 4294967296=r at *;clear h3 h2 hp2;grind
theorem two_top {l:List Nat} {n:Nat} (hn:2≤n) (hl:n≤l.length) (hz:Zf l n):wv l=wv (l.take (n-2))+l.getD (n-2) 0*BB (n-2)+l.getD (n-1) 0*BB (n-1):=by
 rw [zf_take hz hl];obtain ⟨k,rfl⟩:∃ k,n=k+2:=⟨n-2,by omega⟩;rw [show k+2-2=k from by omega,show k+2-1=k+1 from by omega,take_getD,take_getD]
theorem one_top {l:List Nat} {n:Nat} (hn:1≤n) (hl:n≤l.length) (hz:Zf l n):wv l=wv (l.take (n-1))+l.getD (n-1) 0*BB (n-1):=by
 rw [zf_take hz hl];obtain ⟨k,rfl⟩:∃ k,n=k+1:=⟨n-1,by omega⟩;rw [show k+1-1=k from by omega,take_getD]
theorem wd_take_lt {l:List Nat} {k:Nat} (h:Wd l) (hk:k≤l.length):wv (l.take k)<BB k:=by
 have:=wv_lt (h.take k);rwa [zF_,Nat.min_eq_left hk] at this
structure DivIn (u v:List Nat) (n j:Nat):Prop where
 n2:2≤n
 vl:v.length=n
 vd:Wd v
 v1:2147483648≤v.getD (n-1) 0
 ul:j+n<u.length
 ud:Wd u
 lt:wv u<wv v*BB (j+1)
namespace DivIn
variable {u v:List Nat} {n j:Nat}
theorem vz (H:DivIn u v n j):Zf v n:=fun k hk=>wd_out (by rw [H.vl];exact hk)
theorem vlt (H:DivIn u v n j):wv v<BB n:=by have:=wv_lt H.vd;rwa [H.vl] at this
theorem uz (H:DivIn u v n j):Zf u (j+n+1):=by
 refine zf_of_lt (zJ_ H.lt ?_);rw [show j+n+1=n+(j+1) from by omega,BB_add n (j+1)];exact Nat.mul_le_mul_right _ (zQ_ H.vlt)
def tp (u:List Nat) (n j:Nat):Nat:=u.getD (j+n) 0*4294967296+u.getD (j+n-1) 0
theorem uval (H:DivIn u v n j):∃ lo,lo<BB (j+n-2)∧wv u=lo+(tp u n j*4294967296+u.getD (j+n-2) 0)*BB (j+n-2):=by
 have h2:=H.n2;have hul:=H.ul;refine ⟨wv (u.take (j+n-2)),wd_take_lt H.ud (by omega),?_⟩;have h:=zf_take H.uz (by omega);obtain ⟨k,hk⟩:∃ k,j+n=k+2:=⟨j+n-2,by omega⟩;rw [hk] at h ⊢;rw [h,take_getD,take_getD,take_getD];unfold tp;rw [hk,show k+2-2=k from by omega,show k+2-1=k+1 from by omega,show BB (k+2)=BB k*4294967296*4294967296 from by rw [BB_succ,BB_succ],BB_succ];clear h hul hk h2 H;generalize u.getD (k+2) 0=x;generalize u.getD (k+1) 0=y;generalize u.getD k 0=z;generalize BB k=P;grind
theorem vval (H:DivIn u v n j):∃ lo,lo<BB (n-2)∧wv v=lo+(v.getD (n-1) 0*4294967296+v.getD (n-2) 0)*BB (n-2):=by
 have h2:=H.n2;refine ⟨wv (v.take (n-2)),wd_take_lt H.vd (by rw [H.vl];omega),?_⟩;have h:=two_top h2 (by rw [H.vl];exact lR) H.vz;rw [show BB (n-1)=BB (n-2)*4294967296 from by rw [←BB_succ];congr 1;omega] at h;rw [h];clear h h2 H;generalize v.getD (n-1) 0=x;generalize v.getD (n-2) 0=y;generalize BB (n-2)=P;grind
theorem bb (H:DivIn u v n j):BB (j+n-2)=BB j*BB (n-2):=by rw [←BB_add];congr 1;have:=H.n2;omega
theorem top_lt (H:DivIn u v n j):tp u n j<(v.getD (n-1) 0+1)*4294967296:=by
 obtain ⟨lo,h1,h2⟩:=H.uval;obtain ⟨lv,g1,g2⟩:=H.vval;have hlt:=H.lt;have hv2:=H.vd.getD (n-2);rw [h2,g2,H.bb,BB_succ] at hlt;have hp:=BB_pos (n-2);have hq:=BB_pos j;generalize tp u n j=t at *;generalize v.getD (n-1) 0=x at *;generalize v.getD (n-2) 0=y at *;generalize u.getD (j+n-2) 0=z at *;generalize BB (n-2)=P at *;generalize BB j=Q at *;refine Nat.lt_of_not_le fun hn=>?_;have e1:(x+1)*4294967296*4294967296*(Q*P)≤t*4294967296*(Q*P):=Nat.mul_le_mul_right _ (Nat.mul_le_mul_right _ hn);have e2:(lv+(x*4294967296+y)*P)*(Q*4294967296)≤((x*4294967296+y)*P+P)*(Q*4294967296):=Nat.mul_le_mul_right _ (by omega);have e3:((x*4294967296+y+1)*P)*(Q*4294967296)≤((x+1)*4294967296)*P*(Q*4294967296):=Nat.mul_le_mul_right _ (Nat.mul_le_mul_right _ (by omega));have e4:((x*4294967296+y)*P+P)=(x*4294967296+y+1)*P:=by grind
 rw [e4] at e2;have e5:((x+1)*4294967296)*P*(Q*4294967296)=(x+1)*4294967296*4294967296*(Q*P):=by grind
 rw [e5] at e3;have e6:(t*4294967296+z)*(Q*P)=t*4294967296*(Q*P)+z*(Q*P):=by grind
 rw [e6] at hlt;omega
end DivIn
structure Guess (u v:List Nat) (n j g rest:Nat):Prop where
 eq:g*v.getD (n-1) 0+rest=DivIn.tp u n j
 up:wv u<(g+1)*(wv v*BB j)
theorem guess_start {u v:List Nat} {n j:Nat} (H:DivIn u v n j):Guess u v n j (DivIn.tp u n j / v.getD (n-1) 0) (DivIn.tp u n j % v.getD (n-1) 0):=by
 have hv1:=H.v1;refine ⟨by rw [Nat.mul_comm];exact Nat.div_add_mod _ _,?_⟩;obtain ⟨lo,h1,h2⟩:=H.uval;obtain ⟨lv,g1,g2⟩:=H.vval;have hz:=H.ud.getD (j+n-2);have ht:=Nat.lt_mul_div_succ (DivIn.tp u n j) (show 0<v.getD (n-1) 0 from by omega);rw [h2,g2];rw [H.bb] at h1 ⊢;generalize DivIn.tp u n j / v.getD (n-1) 0=g at *;generalize DivIn.tp u n j=t at *;generalize v.getD (n-1) 0=x at *;generalize v.getD (n-2) 0=y at *;generalize u.getD (j+n-2) 0=z at *;generalize BB (n-2)=P at *;generalize BB j=Q at *;have e1:(t+1)*4294967296*(Q*P)≤(x*(g+1))*4294967296*(Q*P):=Nat.mul_le_mul_right _ (Nat.mul_le_mul_right _ ht);have e2:(z+1)*(Q*P)≤4294967296*(Q*P):=Nat.mul_le_mul_right _ hz;have e3:(g+1)*((x*4294967296)*P*Q)≤(g+1)*((lv+(x*4294967296+y)*P)*Q):=by
  refine Nat.mul_le_mul_left _ (Nat.mul_le_mul_right _ ?_);have:x*4294967296*P≤(x*4294967296+y)*P:=Nat.mul_le_mul_right _ (Nat.le_add_right _ _);exact zI_ this (Nat.le_add_left _ _)
 have e4:(g+1)*((x*4294967296)*P*Q)=(x*(g+1))*4294967296*(Q*P):=by grind
 have e5:(t+1)*4294967296*(Q*P)=t*4294967296*(Q*P)+4294967296*(Q*P):=by grind
 have e6:(z+1)*(Q*P)=z*(Q*P)+Q*P:=by grind
 have e7:(t*4294967296+z)*(Q*P)=t*4294967296*(Q*P)+z*(Q*P):=by grind
 rw [e4] at e3;rw [e5] at e1;rw [e6] at e2;rw [e7];omega
theorem guess_down {u v:List Nat} {n j g rest:Nat} (H:DivIn u v n j) (G:Guess u v n j g rest) (ht:4294967296≤g∨rest*4294967296+u.getD (j+n-2) 0<g*v.getD (n-2) 0):1≤g∧Guess u v n j (g-1) (rest+v.getD (n-1) 0):=by
 have hg:1≤g:=by
  rcases ht with h | h
  ·omega
  ·refine Nat.one_le_iff_ne_zero.2 fun e=>?_
   rw [e,Nat.zero_mul] at h;omega
 obtain ⟨k,rfl⟩:∃ k,g=k+1:=⟨g-1,by omega⟩;refine ⟨hg,?_,?_⟩
 ·have:=G.eq
  rw [show k+1-1=k from by omega,←this];grind
 ·rw [show k+1-1=k from by omega]
  rcases ht with h | h
  ·refine zJ_ H.lt ?_
   have e:wv v*BB (j+1)=4294967296*(wv v*BB j):=by rw [BB_succ,←Nat.mul_assoc,Nat.mul_comm]
   rw [e];generalize wv v*BB j=X;exact Nat.mul_le_mul_right X h
  ·obtain ⟨lo,h1,h2⟩:=H.uval
   obtain ⟨lv,g1,g2⟩:=H.vval;have heq:=G.eq;rw [h2,g2];rw [H.bb] at h1 ⊢;generalize DivIn.tp u n j=t at *;generalize v.getD (n-1) 0=x at *;generalize v.getD (n-2) 0=y at *;generalize u.getD (j+n-2) 0=z at *;generalize BB (n-2)=P at *;generalize BB j=Q at *;have e1:t*4294967296+z+1≤(k+1)*(x*4294967296+y):=by
    rw [←heq];have:(k+1)*(x*4294967296+y)=(k+1)*x*4294967296+(k+1)*y:=by grind
    omega
   have e2:(t*4294967296+z+1)*(Q*P)≤(k+1)*(x*4294967296+y)*(Q*P):=Nat.mul_le_mul_right _ e1;have e3:(k+1)*((x*4294967296+y)*P*Q)≤(k+1)*((lv+(x*4294967296+y)*P)*Q):=Nat.mul_le_mul_left _ (Nat.mul_le_mul_right _ (Nat.le_add_left _ _));have e4:(k+1)*((x*4294967296+y)*P*Q)=(k+1)*(x*4294967296+y)*(Q*P):=by grind
   have e5:(t*4294967296+z+1)*(Q*P)=(t*4294967296+z)*(Q*P)+Q*P:=by grind
   rw [e4] at e3;rw [e5] at e2;omega
structure GuessOk (u v:List Nat) (j g:Nat):Prop where
 lt:g<4294967296
 up:wv u<(g+1)*(wv v*BB j)
 lo:g*(wv v*BB j)≤wv u+wv v*BB j
theorem guess_end {u v:List Nat} {n j g rest:Nat} (H:DivIn u v n j) (G:Guess u v n j g rest) (ht:(g<4294967296∧g*v.getD (n-2) 0≤rest*4294967296+u.getD (j+n-2) 0)∨4294967296≤rest):GuessOk u v j g:=by
 have hv1:=H.v1;have hlt:g<4294967296:=by
  rcases ht with h | h
  ·exact h.1
  ·have h1:=H.top_lt
   rw [←G.eq] at h1;refine Nat.lt_of_not_le fun hn=>?_;have:4294967296*v.getD (n-1) 0≤g*v.getD (n-1) 0:=Nat.mul_le_mul_right _ hn;omega
 have hv2:=H.vd.getD (n-2);have hle:g*v.getD (n-2) 0≤rest*4294967296+u.getD (j+n-2) 0:=by
  rcases ht with h | h
  ·exact h.2
  ·have:g*v.getD (n-2) 0≤4294967296*4294967296:=Nat.mul_le_mul (by omega) (by omega)
   omega
 refine ⟨hlt,G.up,?_⟩;obtain ⟨lo,h1,h2⟩:=H.uval;obtain ⟨lv,g1,g2⟩:=H.vval;have heq:=G.eq;rw [h2,g2];rw [H.bb] at h1 ⊢;generalize DivIn.tp u n j=t at *;generalize v.getD (n-1) 0=x at *;generalize v.getD (n-2) 0=y at *;generalize u.getD (j+n-2) 0=z at *;generalize BB (n-2)=P at *;generalize BB j=Q at *;have e1:g*(x*4294967296+y)≤t*4294967296+z:=by
  rw [←heq];have:g*(x*4294967296+y)=g*x*4294967296+g*y:=by grind
  omega
 have e2:g*(x*4294967296+y)*(Q*P)≤(t*4294967296+z)*(Q*P):=Nat.mul_le_mul_right _ e1;have e3:g*(lv*Q)≤g*(P*Q):=Nat.mul_le_mul_left _ (Nat.mul_le_mul_right _ (by omega));have e4:g*(P*Q)≤4294967296*(P*Q):=Nat.mul_le_mul_right _ (by omega);have e5:4294967296*(P*Q)≤(x*4294967296+y)*(P*Q):=Nat.mul_le_mul_right _ (by omega);have e6:(lv+(x*4294967296+y)*P)*Q=lv*Q+(x*4294967296+y)*(P*Q):=by grind
 have e7:g*(lv*Q+(x*4294967296+y)*(P*Q))=g*(lv*Q)+g*(x*4294967296+y)*(Q*P):=by grind
 rw [e6,e7];omega
structure Msub (u0 u v:List Nat) (n j i g:Nat) (bo:Int) (ca:Nat):Prop where
 ud:Wd u
 ul:u.length=u0.length
 uz:Zf u (j+n+1)
 b1:-1≤bo
 b2:bo≤0
 c1:ca<4294967296
 eq:(wv u:Int)+(bo-ca)*(BB (j+i):Int)=(wv u0:Int)-(g:Int)*(wv (v.take i):Int)*(BB j:Int)
theorem msub_start {u v:List Nat} {n j g:Nat} (H:DivIn u v n j):Msub u u v n j 0 g 0 0:=
 ⟨H.ud,rfl,H.uz,by decide,by decide,by decide,by simp [wv]⟩
theorem msub_step {u0 u v:List Nat} {n j i g:Nat} {bo:Int} {ca:Nat} (hv:Wd v) (hvl:v.length=n) (hl:j+n<u.length) (hg:g<4294967296) (hi:i<n) (M:Msub u0 u v n j i g bo ca) :
    ca+g*v.getD i 0<18446744073709551616∧Msub u0 (u.set (j+i) ((bo+u.getD (j+i) 0-((ca+g*v.getD i 0) % 4294967296:Nat)) % 4294967296).toNat) v n j (i+1) g ((bo+u.getD (j+i) 0-((ca+g*v.getD i 0) % 4294967296:Nat)) / 4294967296) ((ca+g*v.getD i 0) / 4294967296):=by
 have h1:=hv.getD i;have h2:=M.ud.getD (j+i);have h3:g*v.getD i 0≤4294967295*4294967295:=Nat.mul_le_mul (by omega) (by omega);have h4:=Nat.div_add_mod (ca+g*v.getD i 0) 4294967296;have h5:=Nat.mod_lt (ca+g*v.getD i 0) (show 0<4294967296 by decide);have b1:=M.b1;have b2:=M.b2;have c1:=M.c1;have heq:=M.eq;have hset:=wv_set u (j+i) ((bo+u.getD (j+i) 0-((ca+g*v.getD i 0) % 4294967296:Nat)) % 4294967296).toNat (by omega);refine ⟨by omega,M.ud.set _ (by omega),by rw [zU_];exact M.ul,M.uz.set (by omega),by omega,by omega,by omega,?_⟩;rw [←Nat.add_assoc,BB_succ,take_getD];have hx:(((bo+u.getD (j+i) 0-((ca+g*v.getD i 0) % 4294967296:Nat)) % 4294967296).toNat:Int)=(bo+u.getD (j+i) 0-((ca+g*v.getD i 0) % 4294967296:Nat)) % 4294967296:=by omega
 have hd:=Int.mul_ediv_add_emod (bo+u.getD (j+i) 0-((ca+g*v.getD i 0) % 4294967296:Nat)) 4294967296;have hset2:=congrArg (fun n:Nat=>(n:Int)) hset;simp only [Int.natCast_add,Int.natCast_mul,hx] at hset2;have h42:=congrArg (fun n:Nat=>(n:Int)) h4;simp only [Int.natCast_add,Int.natCast_mul] at h42;have hbb:(BB (j+i):Int)=(BB j:Int)*(BB i:Int):=by rw [BB_add];exact Int.natCast_mul ..
 simp only [Int.natCast_add,Int.natCast_mul];generalize (wv (u.set (j+i) ((bo+u.getD (j+i) 0-((ca+g*v.getD i 0) % 4294967296:Nat)) % 4294967296).toNat):Int)=W at *;generalize ((bo+u.getD (j+i) 0-((ca+g*v.getD i 0) % 4294967296:Nat)) / 4294967296)=q at *;generalize ((bo+u.getD (j+i) 0-((ca+g*v.getD i 0) % 4294967296:Nat)) % 4294967296)=r at *;generalize (ca+g*v.getD i 0) / 4294967296=t at *;generalize (ca+g*v.getD i 0) % 4294967296=s at *;clear h1 h2 h3 h4 h5 b1 b2 c1 hset hx M;generalize (v.getD i 0)=y at *;generalize (u.getD (j+i) 0)=x at *;generalize (BB (j+i):Int)=P at *;have k1:W=(wv u:Int)+(r-x)*P:=by grind
 have k2:(q:Int)*(P*4294967296)=(bo+x-s-r)*P:=by grind
 have k3:(t:Int)*(P*4294967296)=(ca+g*y-s)*P:=by grind
 have k4:(g:Int)*(wv (v.take i)+y*BB i)*BB j=g*wv (v.take i)*BB j+g*y*P:=by rw [hbb];grind
 rw [k4];grind
theorem msub_end {u0 u v:List Nat} {n j g:Nat} {bo:Int} {ca:Nat} (H:DivIn u0 v n j) (G:GuessOk u0 v j g) (M:Msub u0 u v n j n g bo ca) :
    (0≤bo+u.getD (j+n) 0-ca→bo+u.getD (j+n) 0-ca<4294967296∧wv (u.set (j+n) (bo+u.getD (j+n) 0-ca).toNat)+g*(wv v*BB j)=wv u0)∧
    (bo+u.getD (j+n) 0-ca<0→-4294967296≤bo+u.getD (j+n) 0-ca∧wv (u.set (j+n) (bo+u.getD (j+n) 0-ca+4294967296).toNat)+g*(wv v*BB j)=wv u0+BB (j+n+1)∧wv u0<g*(wv v*BB j)):=by
 have h2:=M.ud.getD (j+n);have b1:=M.b1;have b2:=M.b2;have c1:=M.c1;have heq:=M.eq;have hul:=H.ul;have huz:=M.uz;have hud:=M.ud;have hlen:=M.ul;rw [zH_ (by rw [H.vl];exact lR)] at heq;have hgv:((g*(wv v*BB j):Nat):Int)=(g:Int)*(wv v:Int)*(BB j:Int):=by simp only [Int.natCast_mul];grind
 rw [←hgv] at heq;have hset:=fun x=>wv_set u (j+n) x (by omega);have hP:(BB (j+n+1):Int)=(BB (j+n):Int)*4294967296:=by rw [BB_succ];exact Int.natCast_mul ..
 refine ⟨fun h0=>⟨by omega,?_⟩,fun h0=>⟨by omega,?_⟩⟩
 ·have hs:=congrArg (fun n:Nat=>(n:Int)) (hset (bo+u.getD (j+n) 0-ca).toNat)
  have hx:((bo+u.getD (j+n) 0-ca).toNat:Int)=bo+u.getD (j+n) 0-ca:=by omega
  simp only [Int.natCast_add,Int.natCast_mul,hx] at hs;have k:((wv (u.set (j+n) (bo+u.getD (j+n) 0-ca).toNat):Nat):Int)+((g*(wv v*BB j):Nat):Int)=(wv u0:Int):=by
   generalize (wv (u.set (j+n) (bo+u.getD (j+n) 0-ca).toNat):Int)=W at *;generalize ((g*(wv v*BB j):Nat):Int)=D at *;generalize u.getD (j+n) 0=x at *;generalize (BB (j+n):Int)=P at *;grind
  omega
 ·have hs:=congrArg (fun n:Nat=>(n:Int)) (hset (bo+u.getD (j+n) 0-ca+4294967296).toNat)
  have hx:((bo+u.getD (j+n) 0-ca+4294967296).toNat:Int)=bo+u.getD (j+n) 0-ca+4294967296:=by omega
  simp only [Int.natCast_add,Int.natCast_mul,hx] at hs;have k:((wv (u.set (j+n) (bo+u.getD (j+n) 0-ca+4294967296).toNat):Nat):Int)+((g*(wv v*BB j):Nat):Int)=(wv u0:Int)+(BB (j+n+1):Int):=by
   rw [hP];generalize (wv (u.set (j+n) (bo+u.getD (j+n) 0-ca+4294967296).toNat):Int)=W at *;generalize ((g*(wv v*BB j):Nat):Int)=D at *;generalize u.getD (j+n) 0=x at *;generalize (BB (j+n):Int)=P at *;grind
  have hlt:wv (u.set (j+n) (bo+u.getD (j+n) 0-ca+4294967296).toNat)<BB (j+n+1):=
   zf_lt (hud.set _ (by omega)) (huz.set (by omega)) (by rw [zU_];omega)
  exact ⟨by omega,by omega⟩
structure Back (u0 u v:List Nat) (n j i c:Nat):Prop where
 ud:Wd u
 ul:u.length=u0.length
 uz:Zf u (j+n+1)
 c1:c≤1
 eq:wv u+c*BB (j+i)=wv u0+wv (v.take i)*BB j
theorem back_start {us ux v:List Nat} {n j i g x:Nat} {bo:Int} {ca:Nat} (M:Msub us ux v n j i g bo ca) (hx:x<4294967296):Back (ux.set (j+n) x) (ux.set (j+n) x) v n j 0 0:=
 ⟨M.ud.set _ hx,rfl,M.uz.set (by omega),by decide,by rw [List.take_zero,Nat.zero_mul,wv,Nat.zero_mul]⟩
theorem pos_of_lt_mul {a g X:Nat} (h:a<g*X):1≤g:=by
 rcases Nat.eq_zero_or_pos g with rfl | h2
 ·rw [Nat.zero_mul] at h;omega
 ·exact h2
theorem neg_word {bot:Int} (h1:-4294967296≤bot) (h2:bot<0):bot % 4294967296=((bot+4294967296).toNat:Int)∧(bot+4294967296).toNat<4294967296:=by omega
theorem back_step {u0 u v:List Nat} {n j i c:Nat} (hv:Wd v) (hl:j+n<u.length) (hi:i<n) (M:Back u0 u v n j i c) :
    Back u0 (u.set (j+i) ((c+u.getD (j+i) 0+v.getD i 0) % 4294967296)) v n j (i+1) ((c+u.getD (j+i) 0+v.getD i 0) / 4294967296):=by
 have h1:=hv.getD i;have h2:=M.ud.getD (j+i);have c1:=M.c1;have heq:=M.eq;have hset:=wv_set u (j+i) ((c+u.getD (j+i) 0+v.getD i 0) % 4294967296) (by omega);refine ⟨M.ud.set _ (by omega),by rw [zU_];exact M.ul,M.uz.set (by omega),by omega,?_⟩;have h4:=Nat.div_add_mod (c+u.getD (j+i) 0+v.getD i 0) 4294967296;rw [←Nat.add_assoc,BB_succ,take_getD];have hbb:BB (j+i)=BB j*BB i:=BB_add ..;generalize wv (u.set (j+i) ((c+u.getD (j+i) 0+v.getD i 0) % 4294967296))=W at *;generalize (c+u.getD (j+i) 0+v.getD i 0) / 4294967296=q at *;generalize (c+u.getD (j+i) 0+v.getD i 0) % 4294967296=r at *;generalize u.getD (j+i) 0=x at *;generalize v.getD i 0=y at *;have k:(4294967296*q+r)*BB (j+i)=(c+x+y)*BB (j+i):=by rw [h4]
 have k2:(wv (v.take i)+y*BB i)*BB j=wv (v.take i)*BB j+y*BB (j+i):=by rw [hbb];grind
 rw [k2];generalize BB (j+i)=P at *;have k3:(4294967296*q+r)*P=q*(P*4294967296)+r*P:=by grind
 have k4:(c+x+y)*P=c*P+x*P+y*P:=by grind
 omega
theorem back_end {uu u0 u v:List Nat} {n j g c:Nat} (H:DivIn uu v n j) (G:GuessOk uu v j g) (hl:u0.length=uu.length) (h0:wv u0+g*(wv v*BB j)=wv uu+BB (j+n+1)) (hneg:wv uu<g*(wv v*BB j)) (M:Back u0 u v n j n c) :
    wv (u.set (j+n) ((u.getD (j+n) 0+c) % 4294967296))+(g-1)*(wv v*BB j)=wv uu∧1≤g:=by
 have hg:1≤g:=Nat.one_le_iff_ne_zero.2 fun e=>by rw [e,Nat.zero_mul] at hneg;omega
 refine ⟨?_,hg⟩;have h2:=M.ud.getD (j+n);have c1:=M.c1;have heq:=M.eq;have hul:=H.ul;have hml:=M.ul;have hud:=M.ud;have huz:=M.uz;rw [zH_ (by rw [H.vl];exact lR)] at heq;have hset:=wv_set u (j+n) ((u.getD (j+n) 0+c) % 4294967296) (by omega);have hlt:wv (u.set (j+n) ((u.getD (j+n) 0+c) % 4294967296))<BB (j+n+1):=zf_lt (hud.set _ (by omega)) (huz.set (by omega)) (by rw [zU_];omega);have hlo:=G.lo;rw [BB_succ] at h0 hlt;obtain ⟨k,rfl⟩:∃ k,g=k+1:=⟨g-1,by omega⟩;rw [show k+1-1=k from by omega];rw [Nat.add_mul,Nat.one_mul] at *;have h4:=Nat.div_add_mod (u.getD (j+n) 0+c) 4294967296;have hq:(u.getD (j+n) 0+c) / 4294967296≤1:=by omega
 generalize wv (u.set (j+n) ((u.getD (j+n) 0+c) % 4294967296))=W at *;generalize (u.getD (j+n) 0+c) / 4294967296=q at *;generalize (u.getD (j+n) 0+c) % 4294967296=r at *;generalize u.getD (j+n) 0=x at *;generalize BB (j+n)=P at *;have k1:(4294967296*q+r)*P=(x+c)*P:=by rw [h4]
 have k3:(4294967296*q+r)*P=q*(P*4294967296)+r*P:=by grind
 have k4:(x+c)*P=x*P+c*P:=by grind
 generalize wv v*BB j=VB at *;generalize k*VB=KB at *;rcases (by omega:q=0∨q=1) with rfl | rfl<;>omega
structure Steps (a2:Nat) (u v q:List Nat) (n j:Nat):Prop where
 ud:Wd u
 qd:Wd q
 eq:wv u+wv v*wv q=a2
 lt:wv u<wv v*BB j
 qz:∀ i,i<j→q.getD i 0=0
theorem steps_in {a2:Nat} {u v q:List Nat} {n j:Nat} (S:Steps a2 u v q n (j+1)) (n2:2≤n) (vl:v.length=n) (vd:Wd v) (v1:2147483648≤v.getD (n-1) 0) (ul:j+n<u.length):DivIn u v n j:=
 ⟨n2,vl,vd,v1,ul,S.ud,S.lt⟩
theorem steps_next {a2:Nat} {u u' v q:List Nat} {n j g:Nat} (S:Steps a2 u v q n (j+1)) (hq:j<q.length) (hd:Wd u') (hg:g<4294967296) (heq:wv u'+g*(wv v*BB j)=wv u) (hlt:wv u<(g+1)*(wv v*BB j)):Steps a2 u' v (q.set j g) n j:=by
 refine ⟨hd,S.qd.set _ hg,?_,?_,fun i hi=>by rw [wd_set_off (by omega)];exact S.qz i (by omega)⟩
 ·have h:=wv_set q j g hq
  rw [S.qz j (by omega),Nat.zero_mul,Nat.add_zero] at h;rw [h,←S.eq,←heq];grind
 ·rw [Nat.add_mul,Nat.one_mul] at hlt
  omega
theorem divIn_up {u v:List Nat} {n j g:Nat} (G:GuessOk u v j g) (h1:1≤g) (hneg:wv u<g*(wv v*BB j)):wv u<(g-1+1)*(wv v*BB j):=by rw [Nat.sub_add_cancel h1];exact hneg
theorem back_fin {uu u0 u v:List Nat} {n j g c x L:Nat} (H:DivIn uu v n j) (G:GuessOk uu v j g) (hl:u0.length=uu.length) (h0:wv u0+g*(wv v*BB j)=wv uu+BB (j+n+1)) (hneg:wv uu<g*(wv v*BB j)) (M:Back u0 u v n j n c) (hx:u.getD (j+n) 0=x) (hL:u.length=L) :
    ((u.set (j+n) ((x+c) % 4294967296)).length=L∧Wd (u.set (j+n) ((x+c) % 4294967296)))∧wv (u.set (j+n) ((x+c) % 4294967296))+(g-1)*(wv v*BB j)=wv uu∧wv uu<(g-1+1)*(wv v*BB j):=by
 subst hx;have h:=back_end H G hl h0 hneg M;exact ⟨⟨by rw [zU_];exact hL,M.ud.set _ (Nat.mod_lt _ (by decide))⟩,h.1,divIn_up (n:=0) G h.2 hneg⟩
theorem back_shift {u r:List Nat} {i n s:Nat} (hd:Wd u) (hs:s≤31) (hi:i<n) (hr:i<r.length) (hu:n<u.length) (hz:Zf r i) (hI:wv r=wv u / 2^s % BB i) :
    u.getD (i+1) 0*4294967296+u.getD i 0<18446744073709551616∧wv (r.set i ((u.getD (i+1) 0*4294967296+u.getD i 0) / 2^s % 4294967296))=wv u / 2^s % BB (i+1):=by
 have h1:=hd.getD i;have h2:=hd.getD (i+1);refine ⟨by omega,?_⟩;rw [zf_set hz hr,hI,BB_succ,Nat.mod_mul];congr 1
 rw [Nat.mul_comm (BB i)];congr 1
 have h3:wv u / 2^s / BB i=wv (u.drop i) / 2^s:=by
  rw [Nat.div_div_eq_div_mul,Nat.mul_comm,←Nat.div_div_eq_div_mul];congr 1
  rw [wv_split u i (by omega),Nat.add_mul_div_left _ _ (BB_pos i),Nat.div_eq_of_lt (wd_take_lt hd (by omega)),Nat.zero_add]
 rw [h3];have h4:wv (u.drop i)=u.getD (i+1) 0*4294967296+u.getD i 0+18446744073709551616*wv (u.drop (i+2)):=by
  have e1:i<u.length:=by omega
  have e2:i+1<u.length:=by omega
  rw [List.drop_eq_getElem_cons e1,List.drop_eq_getElem_cons e2,wv,wv];rw [zD_,zA_ e2,zD_,zA_ e1];simp only [Option.getD_some];rw [show i+1+1=i+2 from rfl];omega
 have h5:18446744073709551616=2^s*(4294967296*2^(32-s)):=by
  rw [show 4294967296=2^32 from rfl,Nat.mul_left_comm,←Nat.pow_add,show s+(32-s)=32 from by omega]
 rw [h4,h5,Nat.mul_assoc (2^s),Nat.add_mul_div_left _ _ (Nat.pow_pos (by decide)),Nat.mul_assoc 4294967296,Nat.add_mul_mod_self_left]
theorem div_done {A B:Nat} {u v q:List Nat} {n s:Nat} (S:Steps (A*2^s) u v q n 0) (hv:wv v=B*2^s) (hB:0<B):wv q=A / B∧wv u / 2^s=A % B∧wv u / 2^s<B:=by
 have heq:=S.eq;have hlt:=S.lt;rw [BB_zero,Nat.mul_one] at hlt;rw [hv] at heq hlt;have hp:0<2^s:=Nat.pow_pos (by decide);generalize 2^s=p at *;have h1:p∣wv u:=by
  have h:p∣B*p*wv q:=⟨B*wv q,by grind⟩;have h2:p∣wv u+B*p*wv q:=by rw [heq];exact ⟨A,Nat.mul_comm _ _⟩
  exact (Nat.dvd_add_iff_left h).2 h2
 obtain ⟨r,hr⟩:=h1;rw [hr] at heq hlt;have h2:r<B:=by
  rw [Nat.mul_comm] at hlt;exact Nat.lt_of_mul_lt_mul_right hlt
 have h3:r+B*wv q=A:=by
  have:p*(r+B*wv q)=p*A:=by rw [Nat.mul_comm p A,←heq];grind
  exact Nat.eq_of_mul_eq_mul_left hp this
 rw [hr,Nat.mul_div_cancel_left _ hp];refine ⟨?_,?_,h2⟩
 ·rw [←h3,Nat.add_mul_div_left _ _ hB,Nat.div_eq_of_lt h2,Nat.zero_add]
 ·rw [←h3,Nat.add_mul_mod_self_left,Nat.mod_eq_of_lt h2]
theorem norm_div {b w:List Nat} {n s:Nat} (hn:1≤n) (hb:Wd b) (hl:b.length=n) (hw:Wd w) (hwl:w.length=n+1) (hI:wv w=wv b*2^s) (h1:2147483648≤b.getD (n-1) 0*2^s) (h2:b.getD (n-1) 0*2^s<4294967296) (hs:s≤31) :
    wv (w.take n)=wv b*2^s∧2147483648≤(w.take n).getD (n-1) 0:=by
 have e1:=one_top hn (by omega) (fun k hk=>wd_out (by omega):Zf b n);have e2:=wd_take_lt hb (show n-1≤b.length by omega);have hdiv:(2:Nat)^s∣4294967296:=⟨2^(32-s),by rw [←Nat.pow_add,show s+(32-s)=32 from by omega]⟩;have hp:0<2^s:=Nat.pow_pos (by decide);generalize 2^s=p at *;have e3:(b.getD (n-1) 0+1)*p≤4294967296:=by
  obtain ⟨d,hd⟩:=hdiv;rw [hd,Nat.mul_comm p d] at h2 ⊢;have:=Nat.lt_of_mul_lt_mul_right h2;exact Nat.mul_le_mul_right _ this
 have hBn:BB n=BB (n-1)*4294967296:=by rw [←BB_succ];congr 1;omega
 have e4:wv b*p<BB n:=by
  rw [e1,hBn];have:(wv (b.take (n-1))+b.getD (n-1) 0*BB (n-1))*p<(BB (n-1)+b.getD (n-1) 0*BB (n-1))*p:=Nat.mul_lt_mul_of_pos_right (by omega) hp;have e5:(BB (n-1)+b.getD (n-1) 0*BB (n-1))*p=BB (n-1)*((b.getD (n-1) 0+1)*p):=by grind
  have e6:BB (n-1)*((b.getD (n-1) 0+1)*p)≤BB (n-1)*4294967296:=Nat.mul_le_mul_left _ e3;omega
 have hz:Zf w n:=zf_of_lt (by rw [hI];exact e4);have hv:wv (w.take n)=wv b*p:=by rw [←zf_take hz (by omega),hI]
 refine ⟨hv,?_⟩;have hg:(w.take n).getD (n-1) 0=w.getD (n-1) 0:=by
  rw [zD_,List.getElem?_take_of_lt (by omega),zD_]
 rw [hg];have e7:=one_top hn (by omega) hz;have e8:=wd_take_lt hw (show n-1≤w.length by omega);rw [hI,e1] at e7;refine Nat.le_of_not_lt fun hlt=>?_;have k1:(w.getD (n-1) 0+1)*BB (n-1)≤2147483648*BB (n-1):=Nat.mul_le_mul_right _ hlt;have k2:2147483648*BB (n-1)≤b.getD (n-1) 0*p*BB (n-1):=Nat.mul_le_mul_right _ h1;have k3:(wv (b.take (n-1))+b.getD (n-1) 0*BB (n-1))*p=wv (b.take (n-1))*p+b.getD (n-1) 0*p*BB (n-1):=by grind
 rw [k3] at e7;rw [Nat.add_mul,Nat.one_mul] at k1;omega
theorem steps_start {A:Nat} {a u v q:List Nat} {n m s:Nat} (hA:wv a=A) (ha:Wd a) (hal:a.length=m+n) (hn:1≤n) (hud:Wd u) (hqd:Wd q) (hu:wv u=A*2^s) (hs:s≤31) (vl:v.length=n) (v1:2147483648≤v.getD (n-1) 0) (hq:Zf q 0):Steps (A*2^s) u v q n (m+1):=by
 have hq0:wv q=0:=by have:=zf_take hq (Nat.zero_le _);rw [this];rfl
 refine ⟨hud,hqd,by rw [hq0,hu];omega,?_,fun i _=>hq i (Nat.zero_le _)⟩;rw [hu,←hA];have h1:=wv_lt ha;rw [hal] at h1;have h2:=one_top hn (by omega) (fun k hk=>wd_out (by omega):Zf v n);have h3:2147483648*BB (n-1)≤wv v:=by
  have:2147483648*BB (n-1)≤v.getD (n-1) 0*BB (n-1):=Nat.mul_le_mul_right _ v1;omega
 have hp2:2^s≤2147483648:=Nat.pow_le_pow_right (by decide) hs;have h4:wv a*2^s<BB (m+n)*2147483648:=Nat.mul_lt_mul_of_lt_of_le h1 hp2 (by decide);have h5:2147483648*BB (n-1)*BB (m+1)≤wv v*BB (m+1):=Nat.mul_le_mul_right _ h3;have h6:BB (m+n)=BB (n-1)*BB (m+1):=by rw [←BB_add];congr 1;omega
 rw [h6] at h4;have h7:BB (n-1)*BB (m+1)*2147483648=2147483648*BB (n-1)*BB (m+1):=by grind
 omega
end
end Go.Proofs.YthgdchffeigkbaaGreatDoor
