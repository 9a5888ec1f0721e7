import Derived.Test.YthgdchffeigkbaaGreatDoorV00
import Derived.Lib.Hide
set_option linter.unusedVariables false
set_option linter.unusedSimpArgs false
namespace Go.Proofs.YthgdchffeigkbaaGreatDoor
variable {a b l out q u u0 v : List Nat} {bo : Int} {c ca d g i j k m n s x : Nat}
section
def wv:List Nat->Nat
 | []=>0
 | x::r=>x+4294967296*wv r
def Wd(l:List Nat):Prop:=∀x∈l,x<4294967296
def BB(k:Nat):Nat:=4294967296^k
theorem yS:BB 0=1:=rfl
theorem eY(k:Nat):BB (k+1)=BB k*4294967296:=Nat.pow_succ ..
theorem AV(j k:Nat):BB (j+k)=BB j*BB k:=Nat.pow_add ..
theorem QM(k:Nat):0<BB k:=Nat.pow_pos (by decide)
theorem UU(h:j<=k):BB j<=BB k:=Nat.pow_le_pow_right (by decide) h
theorem Wd.tail(h:Wd (x::l)):Wd l:=fun y hy=>h y (List.mem_cons_of_mem _ hy)
theorem Wd.head(h:Wd (x::l)):x<4294967296:=h x (List.mem_cons_self ..)
theorem Wd.take(h:Wd l)(k:Nat):Wd (l.take k):=fun y hy=>h y (List.mem_of_mem_take hy)
theorem Wd.drop(h:Wd l)(k:Nat):Wd (l.drop k):=fun y hy=>h y (List.mem_of_mem_drop hy)
theorem Wd.getD(h:Wd l)(k:Nat):l.getD k 0<4294967296:=by
 rw[dN];cases hk:l[k]? with
 | none=>simp
 | some x=>exact h x (bV hk)
theorem Wd.set(h:Wd l)(k:Nat)(hx:x<4294967296):Wd (l.set k x):=fun y hy=>by
 rcases List.mem_or_eq_of_mem_set hy with hy | rfl
 ·exact h y hy
 ·exact hx
theorem aDT:Wd []:=fun x h=>by cases h
theorem qE(n:Nat):Wd (List.replicate n 0):=fun x h=>by rw[List.eq_of_mem_replicate h];decide
theorem qC:∀n:Nat,wv (List.replicate n 0)=0
 | 0=>rfl
 | n+1=>by rw[List.replicate_succ,wv,qC n]
theorem DO:∀l m:List Nat,wv (l++m)=wv l+BB l.length*wv m
 | [],m=>by rw[List.nil_append,zW_,yS,wv,Nat.one_mul,Nat.zero_add]
 | x::r,m=>by
  rw[List.cons_append,wv,wv,DO r m,GS,eY];grind
theorem FD:∀{l:List Nat},Wd l->wv l<BB l.length
 | [],_=>by simp[wv,yS]
 | x::r,h=>by
  have h1:=FD h.tail;have h2:=h.head;rw[wv,GS,eY];omega
theorem wG(l:List Nat)(k:Nat)(hk:k<=l.length):wv l=wv (l.take k)+BB k*wv (l.drop k):=by
 conv=>lhs;rw[<-List.take_append_drop k l]
 rw[DO,kR,Nat.min_eq_left hk]
theorem dF(l:List Nat)(k:Nat):wv (l.take (k+1))=wv (l.take k)+l.getD k 0*BB k:=by
 rw[List.take_add_one,DO,dN];cases hk:l[k]? with
 | none=>simp[wv]
 | some x=>
  have:=(dH.1 hk).1;simp only[Option.toList_some,Option.getD_some,wv,kR];rw[Nat.min_eq_left (by omega)];grind
theorem wH:∀(l:List Nat)(k x:Nat),k<l.length->wv (l.set k x)+l.getD k 0*BB k=wv l+x*BB k
 | [],_,_,h=>absurd h (by simp)
 | y::r,0,x,_=>by simp only[List.set_cons_zero,wv,List.getD_cons_zero,yS];omega
 | y::r,k+1,x,h=>by
  have:=wH r k x (by simpa using h);simp only[List.set_cons_succ,wv,List.getD_cons_succ,eY];grind
theorem z_(h:k≠j):(l.set k x).getD j 0=l.getD j 0:=by
 rw[dN,List.getElem?_set_ne h,dN]
theorem VC(n k:Nat):(List.replicate n 0).getD k 0=0:=by
 rw[dN,List.getElem?_replicate];split<;>rfl
theorem DS(h:l.length<=k):l.getD k 0=0:=by
 rw[dN,List.getElem?_eq_none h];rfl
def kU(n:Nat):List Nat:=if h:n=0 then[] else n % 4294967296::kU (n / 4294967296)
termination_by n
decreasing_by exact Nat.div_lt_self (by omega) (by decide)
theorem nD:kU 0=[]:=by unfold kU;simp
theorem oQ(h:n≠0):kU n=n % 4294967296::kU (n / 4294967296):=by rw[kU,dif_neg h]
theorem eC(n:Nat):wv (kU n)=n:=by
 induction n using Nat.strongRecOn with
 | _ n ih=>
  by_cases h:n=0
  ·subst h;rw[nD,wv]
  ·rw[oQ h,wv,ih _ (Nat.div_lt_self (by omega) (by decide))]
   omega
theorem iC(n:Nat):Wd (kU n):=by
 induction n using Nat.strongRecOn with
 | _ n ih=>
  by_cases h:n=0
  ·subst h;rw[nD];exact aDT
  ·rw[oQ h]
   intro x hx;rcases List.mem_cons.1 hx with rfl | hx
   ·omega
   ·exact ih _ (Nat.div_lt_self (by omega) (by decide)) x hx
def Nrm(l:List Nat):Prop:=Wd l/\l.getLast?≠some 0
theorem aJe(n:Nat):Nrm (kU n):=by
 refine⟨iC n,?_⟩
 induction n using Nat.strongRecOn with
 | _ n ih=>
  by_cases h:n=0
  ·subst h;rw[nD];simp
  ·rw[oQ h]
   by_cases h2:n / 4294967296=0
   ·rw[h2,nD];simp;omega
   ·have:=ih _ (Nat.div_lt_self (by omega) (by decide):n / 4294967296<n)
    rw[oQ h2] at this ⊢;simpa using this
theorem aGK:∀{l:List Nat},Nrm l->kU (wv l)=l
 | [],_=>by rw[wv,nD]
 | x::r,h=>by
  have hx:=h.1.head;cases r with
  | nil=>
   have:x≠0:=fun e=>h.2 (by rw[e];rfl);rw[wv,wv,oQ (by omega)];rw[show(x+4294967296*0) % 4294967296=x from by omega,show(x+4294967296*0) / 4294967296=0 from by omega,nD]
  | cons y t=>
   have hn:Nrm (y::t):=⟨h.1.tail,by have:=h.2;simpa using this⟩;have ih:=aGK hn;have bX:wv (y::t)≠0:=fun e=>by rw[e,nD] at ih;cases ih
   rw[wv,oQ (by omega)];rw[show(x+4294967296*wv (y::t)) % 4294967296=x from by omega,show(x+4294967296*wv (y::t)) / 4294967296=wv (y::t) from by omega,ih]
def dL(n:Nat):Nat:=(kU n).length
theorem iR:dL 0=0:=by unfold dL;rw[nD];rfl
theorem kP(h:n≠0):dL n=dL (n / 4294967296)+1:=by unfold dL;rw[oQ h];rfl
theorem oL(n:Nat):n<BB (dL n):=by
 have:=FD (iC n);rwa[eC] at this
theorem lE(h:n<BB k):dL n<=k:=by
 induction k generalizing n with
 | zero=>rw[yS] at h;rw[show n=0 from by omega,iR];exact Nat.le_refl 0
 | succ k ih=>
  by_cases h0:n=0
  ·rw[h0,iR];omega
  ·rw[kP h0]
   have:n / 4294967296<BB k:=by rw[eY] at h;exact(Nat.div_lt_iff_lt_mul (by decide)).2 h
   have:=ih this;omega
theorem aJq(h:n≠0):BB (dL n-1)<=n:=by
 refine Nat.le_of_not_lt fun hn=>?_;have:=lE hn;have:dL n≠0:=by rw[kP h];omega
 omega
theorem lD(h:m<=n):dL m<=dL n:=lE (zT_ h (oL n))
theorem JL(h:dL m<dL n):m<n:=Nat.lt_of_not_le fun hn=>by have:=lD hn;omega
theorem aGE(m n:Nat):dL (m+n)<=max (dL m) (dL n)+1:=by
 refine lE ?_;have h1:=jE (oL m) (UU (Nat.le_max_left (dL m) (dL n)));have h2:=jE (oL n) (UU (Nat.le_max_right (dL m) (dL n)));rw[eY];omega
theorem CT(m n:Nat):dL (m*n)<=dL m+dL n:=by
 refine lE ?_;rw[AV];have h1:=oL m;have h2:=oL n;exact Nat.mul_lt_mul_of_lt_of_le h1 (pJ h2) (QM _)
theorem tK(h:n≠0)(h2:n<4294967296):dL n=1:=by rw[kP h,Nat.div_eq_of_lt h2,iR]
theorem uP(n:Nat):(kU n).length=dL n:=rfl
theorem aBf(hk:0<k)(hl:k<=l.length)(h0:l.getD (k-1) 0=0):wv (l.take (k-1))=wv (l.take k):=by
 have:=dF l (k-1);rw[h0,Nat.zero_mul,Nat.add_zero,Nat.sub_add_cancel hk] at this;exact this.symm
theorem aD1(hd:Wd l)(hl:k<=l.length)(hz:k=0\/l.getD (k-1) 0≠0):l.take k=kU (wv (l.take k)):=by
 refine(aGK ⟨hd.take k,?_⟩).symm;rcases hz with rfl | hz
 ·simp
 ·intro h
  rw[List.getLast?_eq_getElem?,kR,Nat.min_eq_left hl] at h;by_cases hk:k=0
  ·subst hk;simp at h
  ·rw[List.getElem?_take_of_lt (by omega)] at h
   rw[dN,h] at hz;exact hz rfl
theorem aDQ{m:List Nat}(hl:Wd l)(dW:l.length=m.length)(hi:i<l.length)(hd:l.drop (i+1)=m.drop (i+1))(h:l.getD i 0<m.getD i 0):wv l<wv m:=by
 rw[wG l (i+1) (by omega),wG m (i+1) (by omega),hd,dF,dF];have h1:wv (l.take i)<BB i:=by
  have:=FD (hl.take i);rwa[kR,Nat.min_eq_left (by omega)] at this
 have h2:(l.getD i 0+1)*BB i<=m.getD i 0*BB i:=Nat.mul_le_mul_right _ h;rw[Nat.add_mul,Nat.one_mul] at h2;omega
theorem PO{m:List Nat}(dW:l.length=m.length)(hi:i<l.length)(hd:l.drop (i+1)=m.drop (i+1))(h:l.getD i 0=m.getD i 0):l.drop i=m.drop i:=by
 rw[List.drop_eq_getElem_cons hi,List.drop_eq_getElem_cons (by omega:i<m.length),hd];congr 1
 rw[dN,dN,iB hi,iB (by omega)] at h;exact h
def Zf(l:List Nat)(i:Nat):Prop:=∀j,i<=j->l.getD j 0=0
theorem sQ(n i:Nat):Zf (List.replicate n 0) i:=fun j _=>VC n j
theorem Zf.set(h:Zf l i)(hk:k<i):Zf (l.set k x) i:=fun j hj=>by rw[z_ (by omega)];exact h j hj
theorem Zf.put(h:Zf l i):Zf (l.set i x) (i+1):=fun j hj=>by rw[z_ (by omega)];exact h j (by omega)
theorem Zf.mono(h:Zf l i)(hj:i<=j):Zf l j:=fun k hk=>h k (by omega)
theorem DM(h:Zf l i)(hi:i<l.length):wv (l.set i x)=wv l+x*BB i:=by
 have:=wH l i x hi;rw[h i lR,Nat.zero_mul,Nat.add_zero] at this;exact this
theorem aHb(ha:Wd a)(hb:Wd b)(hi:i<out.length)(hz:Zf out i)(hc:c<=1)(hI:wv out+c*BB i=wv (a.take i)+wv (b.take i)):(c+a.getD i 0+b.getD i 0) / 4294967296<=1/\wv (out.set i ((c+a.getD i 0+b.getD i 0) % 4294967296))+(c+a.getD i 0+b.getD i 0) / 4294967296*BB (i+1)=wv (a.take (i+1))+wv (b.take (i+1)):=by
 have h1:=ha.getD i;have h2:=hb.getD i;generalize hs:c+a.getD i 0+b.getD i 0=s;refine⟨by omega,?_⟩;rw[DM hz hi,dF,dF,eY];have h3:=Nat.div_add_mod s 4294967296;have h4:s % 4294967296*BB i+s / 4294967296*(BB i*4294967296)=s*BB i:=by grind
 rw[<-hs] at h4 ⊢;generalize (c+a.getD i 0+b.getD i 0) / 4294967296=q at *;generalize (c+a.getD i 0+b.getD i 0) % 4294967296=r at *;rw[Nat.add_mul,Nat.add_mul] at h4;omega
theorem aAP{v:Nat}(hn:n<out.length)(hz:Zf out n)(hI:wv out+c*BB n=v):wv (out.set n c)=v:=by rw[DM hz hn];exact hI
theorem aD8{c:Int}(ha:Wd a)(hb:Wd b)(hi:i<out.length)(hz:Zf out i)(hc:-1<=c)(hc2:c<=0)(hI:(wv out:Int)+c*(BB i:Int)=(wv (a.take i):Int)-(wv (b.take i):Int)):-1<=(c+a.getD i 0-b.getD i 0) / 4294967296/\(c+a.getD i 0-b.getD i 0) / 4294967296<=0/\(wv (out.set i ((c+a.getD i 0-b.getD i 0) % 4294967296).toNat):Int)+(c+a.getD i 0-b.getD i 0) / 4294967296*(BB (i+1):Int)=(wv (a.take (i+1)):Int)-(wv (b.take (i+1)):Int):=by
 have h1:=ha.getD i;have h2:=hb.getD i;rw[DM hz hi,dF,dF,eY];generalize a.getD i 0=x at *;generalize b.getD i 0=y at *;refine⟨by omega,by omega,?_⟩;have h3:(((c+x-y) % 4294967296).toNat:Int)=(c+x-y) % 4294967296:=by omega
 have h4:=Int.mul_ediv_add_emod (c+x-y) 4294967296;generalize (c+(x:Int)-y) / 4294967296=q at *;generalize ((c+(x:Int)-y) % 4294967296)=r at *;simp only[Int.natCast_add,Int.natCast_mul,h3];grind
theorem aIH{c:Int}(hc:-1<=c)(hc2:c<=0)(ho:Wd out)(FQ:wv b<=wv a)(hI:(wv out:Int)+c*(BB out.length:Int)=(wv a:Int)-(wv b:Int)):wv out=wv a-wv b:=by
 have h1:=FD ho;have h2:c=0:=by
  rcases(by omega:c=-1\/c=0) with rfl | rfl
  ·omega
  ·rfl
 subst h2;omega
theorem aFa{W:Nat}(hb:Wd b)(ho:Wd out)(hx:x<4294967296)(hc:c<4294967296)(hi:i+k<out.length)(hI:wv out+c*BB (i+k)=W+x*wv (b.take k)*BB i):(c+out.getD (i+k) 0+x*b.getD k 0)<18446744073709551616/\(c+out.getD (i+k) 0+x*b.getD k 0) / 4294967296<4294967296/\wv (out.set (i+k) ((c+out.getD (i+k) 0+x*b.getD k 0) % 4294967296))+(c+out.getD (i+k) 0+x*b.getD k 0) / 4294967296*BB (i+(k+1))=W+x*wv (b.take (k+1))*BB i:=by
 have h1:=hb.getD k;have h2:=ho.getD (i+k);have h3:x*b.getD k 0<=4294967295*4294967295:=Nat.mul_le_mul (by omega) (by omega);have h5:=wH out (i+k) ((c+out.getD (i+k) 0+x*b.getD k 0) % 4294967296) hi;generalize hs:c+out.getD (i+k) 0+x*b.getD k 0=s at *;refine⟨by omega,by omega,?_⟩;rw[dF,<-Nat.add_assoc i k 1,eY];have h4:=Nat.div_add_mod s 4294967296;have pE:BB (i+k)=BB i*BB k:=AV i k;generalize s / 4294967296=q at *;generalize s % 4294967296=r at *;generalize b.getD k 0=y at *;generalize out.getD (i+k) 0=z at *;have h6:r*BB (i+k)+q*(BB (i+k)*4294967296)=s*BB (i+k):=by rw[<-h4];grind
 rw[<-hs] at h6;have h7:x*(wv (b.take k)+y*BB k)*BB i=x*wv (b.take k)*BB i+x*y*BB (i+k):=by rw[pE];grind
 rw[h7];have h8:(c+z+x*y)*BB (i+k)=c*BB (i+k)+z*BB (i+k)+x*y*BB (i+k):=by grind
 rw[h8] at h6;omega
theorem aJj(hn:i+b.length<out.length)(hz:Zf out (i+b.length))(hI:wv out+c*BB (i+b.length)=wv (a.take i)*wv b+a.getD i 0*wv b*BB i):wv (out.set (i+b.length) c)=wv (a.take (i+1))*wv b:=by
 rw[DM hz hn,hI,dF];grind
theorem aBz{r:Nat}(ha:Wd a)(hl:a.length=out.length)(hd:0<d)(hd2:d<4294967296)(hr:r<d)(hi:i<a.length)(hI:wv (a.drop (i+1))=d*wv (out.drop (i+1))+r):(r*4294967296+a.getD i 0) / d<4294967296/\wv (a.drop i)=d*wv ((out.set i ((r*4294967296+a.getD i 0) / d)).drop i)+(r*4294967296+a.getD i 0) % d:=by
 have h1:=ha.getD i;have h2:(r*4294967296+a.getD i 0)<d*4294967296:=by
  have:(r+1)*4294967296<=d*4294967296:=Nat.mul_le_mul_right _ hr;omega
 refine⟨(Nat.div_lt_iff_lt_mul hd).2 (by omega),?_⟩;rw[List.drop_eq_getElem_cons hi,List.drop_eq_getElem_cons (by simpa using by omega:i<(out.set i _).length),wv,wv,hI];have h3:a[i]=a.getD i 0:=by rw[dN,iB hi];rfl
 have h5:(out.set i ((r*4294967296+a.getD i 0) / d)).drop (i+1)=out.drop (i+1):=by rw[List.drop_set_of_lt (by omega)]
 rw[h3,h5];have h6:(out.set i ((r*4294967296+a.getD i 0) / d))[i]'(by simp;omega)=(r*4294967296+a.getD i 0) / d:=by simp
 rw[h6];clear h5 h6 h3;have h4:=Nat.div_add_mod (r*4294967296+a.getD i 0) d;generalize (r*4294967296+a.getD i 0) / d=q at *;generalize (r*4294967296+a.getD i 0) % d=t at *;grind
end
section
theorem Q8(h:wv l<BB k):Zf l k:=by
 intro j hj;refine Classical.byContradiction fun bX=>?_;have oP:j<l.length:=Classical.byContradiction fun hn=>bX (DS (by omega));have h1:wv (l.take (j+1))<=wv l:=by rw[wG l (j+1) (by omega)];omega
 rw[dF] at h1;have h2:1*BB j<=l.getD j 0*BB j:=Nat.mul_le_mul_right _ (by omega);have h3:=UU hj;omega
theorem aIv(h:Zf l k):wv (l.drop k)=0:=by
 have e:l.drop k=List.replicate (l.length-k) 0:=by
  apply List.ext_getElem?;intro i;rw[List.getElem?_drop,List.getElem?_replicate];split
  ·rename_i hi
   have:=h (k+i) (by omega);rw[dN,iB (by omega)] at this;rw[iB (by omega)];simpa using this
  ·rw[List.getElem?_eq_none (by omega)]
 rw[e,qC]
theorem xP(h:Zf l k)(hk:k<=l.length):wv l=wv (l.take k):=by
 rw[wG l k hk,aIv h,Nat.mul_zero,Nat.add_zero]
theorem aK9(hd:Wd l)(h:Zf l k)(hk:k<=l.length):wv l<BB k:=by
 rw[xP h hk];have:=FD (hd.take k);rwa[kR,Nat.min_eq_left hk] at this
theorem aIS(ha:Wd a)(hs:s<=31)(hi:i<out.length)(hz:Zf out i)(hc:c<2^s)(hI:wv out+c*BB i=wv (a.take i)*2^s):c+a.getD i 0*2^s<18446744073709551616/\(c+a.getD i 0*2^s) / 4294967296<2^s/\wv (out.set i ((c+a.getD i 0*2^s) % 4294967296))+(c+a.getD i 0*2^s) / 4294967296*BB (i+1)=wv (a.take (i+1))*2^s:=by
 have h1:=ha.getD i;rw[DM hz hi,dF,eY];generalize a.getD i 0=x at *;have hp:0<2^s:=Nat.pow_pos (by decide);have K6:2^s<=2147483648:=Nat.pow_le_pow_right (by decide) hs;generalize 2^s=p at *;have h2:x*p+p<=4294967296*p:=by
  have:(x+1)*p<=4294967296*p:=Nat.mul_le_mul_right _ h1;rwa[Nat.add_mul,Nat.one_mul] at this
 have h3:c+x*p<p*4294967296:=by omega
 refine⟨by omega,(Nat.div_lt_iff_lt_mul (by decide)).2 h3,?_⟩;have h4:=Nat.div_add_mod (c+x*p) 4294967296;generalize hq:(c+x*p) / 4294967296=q at *;generalize (c+x*p) % 4294967296=r at *;clear h3 h2 K6;grind
theorem aIB(hn:2<=n)(hl:n<=l.length)(hz:Zf l n):wv l=wv (l.take (n-2))+l.getD (n-2) 0*BB (n-2)+l.getD (n-1) 0*BB (n-1):=by
 rw[xP hz hl];obtain⟨k,rfl⟩:∃k,n=k+2:=⟨n-2,by omega⟩;rw[show k+2-2=k from by omega,show k+2-1=k+1 from by omega,dF,dF]
theorem OU(hn:1<=n)(hl:n<=l.length)(hz:Zf l n):wv l=wv (l.take (n-1))+l.getD (n-1) 0*BB (n-1):=by
 rw[xP hz hl];obtain⟨k,rfl⟩:∃k,n=k+1:=⟨n-1,by omega⟩;rw[show k+1-1=k from by omega,dF]
theorem qF(h:Wd l)(hk:k<=l.length):wv (l.take k)<BB k:=by
 have:=FD (h.take k);rwa[kR,Nat.min_eq_left hk] at this
structure h_ (u v:List Nat) (n j:Nat):Prop where
 n2:2<=n
 vl:v.length=n
 vd:Wd v
 v1:2147483648<=v.getD (n-1) 0
 ul:j+n<u.length
 ud:Wd u
 lt:wv u<wv v*BB (j+1)
namespace h_
variable {a b l out q u u0 v : List Nat} {bo : Int} {c ca d g i j k m n s x : Nat}
variable {u v:List Nat} {n j:Nat}
theorem vz(H:h_ u v n j):Zf v n:=fun k hk=>DS (by rw[H.vl];exact hk)
theorem vlt(H:h_ u v n j):wv v<BB n:=by have:=FD H.vd;rwa[H.vl] at this
theorem uz(H:h_ u v n j):Zf u (j+n+1):=by
 refine Q8 (jE H.lt ?_);rw[show j+n+1=n+(j+1) from by omega,AV n (j+1)];exact Nat.mul_le_mul_right _ (pJ H.vlt)
def tp(u:List Nat)(n j:Nat):Nat:=u.getD (j+n) 0*4294967296+u.getD (j+n-1) 0
theorem uval(H:h_ u v n j):∃lo,lo<BB (j+n-2)/\wv u=lo+(tp u n j*4294967296+u.getD (j+n-2) 0)*BB (j+n-2):=by
 have h2:=H.n2;have hul:=H.ul;refine⟨wv (u.take (j+n-2)),qF H.ud (by omega),?_⟩;have h:=xP H.uz (by omega);obtain⟨k,hk⟩:∃k,j+n=k+2:=⟨j+n-2,by omega⟩;rw[hk] at h ⊢;rw[h,dF,dF,dF];unfold tp;rw[hk,show k+2-2=k from by omega,show k+2-1=k+1 from by omega,show BB (k+2)=BB k*4294967296*4294967296 from by rw[eY,eY],eY];clear h hul hk h2 H;generalize u.getD (k+2) 0=x;generalize u.getD (k+1) 0=y;generalize u.getD k 0=z;generalize BB k=P;grind
theorem vval(H:h_ u v n j):∃lo,lo<BB (n-2)/\wv v=lo+(v.getD (n-1) 0*4294967296+v.getD (n-2) 0)*BB (n-2):=by
 have h2:=H.n2;refine⟨wv (v.take (n-2)),qF H.vd (by rw[H.vl];omega),?_⟩;have h:=aIB h2 (by rw[H.vl];exact lR) H.vz;rw[show BB (n-1)=BB (n-2)*4294967296 from by rw[<-eY];congr 1;omega] at h;rw[h];clear h h2 H;generalize v.getD (n-1) 0=x;generalize v.getD (n-2) 0=y;generalize BB (n-2)=P;grind
theorem bb(H:h_ u v n j):BB (j+n-2)=BB j*BB (n-2):=by rw[<-AV];congr 1;have:=H.n2;omega
theorem top_lt(H:h_ u v n j):tp u n j<(v.getD (n-1) 0+1)*4294967296:=by
 obtain⟨lo,h1,h2⟩:=H.uval;obtain⟨lv,g1,g2⟩:=H.vval;have aU:=H.lt;have lA:=H.vd.getD (n-2);rw[h2,g2,H.bb,eY] at aU;have hp:=QM (n-2);have hq:=QM j;generalize tp u n j=t at *;generalize v.getD (n-1) 0=x at *;generalize v.getD (n-2) 0=y at *;generalize u.getD (j+n-2) 0=z at *;generalize BB (n-2)=P at *;generalize BB j=Q at *;refine Nat.lt_of_not_le fun hn=>?_;have e1:(x+1)*4294967296*4294967296*(Q*P)<=t*4294967296*(Q*P):=Nat.mul_le_mul_right _ (Nat.mul_le_mul_right _ hn);have e2:(lv+(x*4294967296+y)*P)*(Q*4294967296)<=((x*4294967296+y)*P+P)*(Q*4294967296):=Nat.mul_le_mul_right _ (by omega);have e3:((x*4294967296+y+1)*P)*(Q*4294967296)<=((x+1)*4294967296)*P*(Q*4294967296):=Nat.mul_le_mul_right _ (Nat.mul_le_mul_right _ (by omega));have e4:((x*4294967296+y)*P+P)=(x*4294967296+y+1)*P:=by grind
 rw[e4] at e2;have e5:((x+1)*4294967296)*P*(Q*4294967296)=(x+1)*4294967296*4294967296*(Q*P):=by grind
 rw[e5] at e3;have e6:(t*4294967296+z)*(Q*P)=t*4294967296*(Q*P)+z*(Q*P):=by grind
 rw[e6] at aU;omega
end h_
structure US (u v:List Nat) (n j g rest:Nat):Prop where
 eq:g*v.getD (n-1) 0+rest=h_.tp u n j
 up:wv u<(g+1)*(wv v*BB j)
theorem S_(H:h_ u v n j):US u v n j (h_.tp u n j / v.getD (n-1) 0) (h_.tp u n j % v.getD (n-1) 0):=by
 have nG:=H.v1;refine⟨by rw[Nat.mul_comm];exact Nat.div_add_mod _ _,?_⟩;obtain⟨lo,h1,h2⟩:=H.uval;obtain⟨lv,g1,g2⟩:=H.vval;have hz:=H.ud.getD (j+n-2);have ht:=Nat.lt_mul_div_succ (h_.tp u n j) (show 0<v.getD (n-1) 0 from by omega);rw[h2,g2];rw[H.bb] at h1 ⊢;generalize h_.tp u n j / v.getD (n-1) 0=g at *;generalize h_.tp u n j=t at *;generalize v.getD (n-1) 0=x at *;generalize v.getD (n-2) 0=y at *;generalize u.getD (j+n-2) 0=z at *;generalize BB (n-2)=P at *;generalize BB j=Q at *;have e1:(t+1)*4294967296*(Q*P)<=(x*(g+1))*4294967296*(Q*P):=Nat.mul_le_mul_right _ (Nat.mul_le_mul_right _ ht);have e2:(z+1)*(Q*P)<=4294967296*(Q*P):=Nat.mul_le_mul_right _ hz;have e3:(g+1)*((x*4294967296)*P*Q)<=(g+1)*((lv+(x*4294967296+y)*P)*Q):=by
  refine Nat.mul_le_mul_left _ (Nat.mul_le_mul_right _ ?_);have:x*4294967296*P<=(x*4294967296+y)*P:=Nat.mul_le_mul_right _ (Nat.le_add_right _ _);exact cO this (Nat.le_add_left _ _)
 have e4:(g+1)*((x*4294967296)*P*Q)=(x*(g+1))*4294967296*(Q*P):=by grind
 have e5:(t+1)*4294967296*(Q*P)=t*4294967296*(Q*P)+4294967296*(Q*P):=by grind
 have e6:(z+1)*(Q*P)=z*(Q*P)+Q*P:=by grind
 have e7:(t*4294967296+z)*(Q*P)=t*4294967296*(Q*P)+z*(Q*P):=by grind
 rw[e4] at e3;rw[e5] at e1;rw[e6] at e2;rw[e7];omega
theorem JX{rest:Nat}(H:h_ u v n j)(G:US u v n j g rest)(ht:4294967296<=g\/rest*4294967296+u.getD (j+n-2) 0<g*v.getD (n-2) 0):1<=g/\US u v n j (g-1) (rest+v.getD (n-1) 0):=by
 have hg:1<=g:=by
  rcases ht with h | h
  ·omega
  ·refine Nat.one_le_iff_ne_zero.2 fun e=>?_
   rw[e,Nat.zero_mul] at h;omega
 obtain⟨k,rfl⟩:∃k,g=k+1:=⟨g-1,by omega⟩;refine⟨hg,?_,?_⟩
 ·have:=G.eq
  rw[show k+1-1=k from by omega,<-this];grind
 ·rw[show k+1-1=k from by omega]
  rcases ht with h | h
  ·refine jE H.lt ?_
   have e:wv v*BB (j+1)=4294967296*(wv v*BB j):=by rw[eY,<-Nat.mul_assoc,Nat.mul_comm]
   rw[e];generalize wv v*BB j=X;exact Nat.mul_le_mul_right X h
  ·obtain⟨lo,h1,h2⟩:=H.uval
   obtain⟨lv,g1,g2⟩:=H.vval;have FT:=G.eq;rw[h2,g2];rw[H.bb] at h1 ⊢;generalize h_.tp u n j=t at *;generalize v.getD (n-1) 0=x at *;generalize v.getD (n-2) 0=y at *;generalize u.getD (j+n-2) 0=z at *;generalize BB (n-2)=P at *;generalize BB j=Q at *;have e1:t*4294967296+z+1<=(k+1)*(x*4294967296+y):=by
    rw[<-FT];have:(k+1)*(x*4294967296+y)=(k+1)*x*4294967296+(k+1)*y:=by grind
    omega
   have e2:(t*4294967296+z+1)*(Q*P)<=(k+1)*(x*4294967296+y)*(Q*P):=Nat.mul_le_mul_right _ e1;have e3:(k+1)*((x*4294967296+y)*P*Q)<=(k+1)*((lv+(x*4294967296+y)*P)*Q):=Nat.mul_le_mul_left _ (Nat.mul_le_mul_right _ (Nat.le_add_left _ _));have e4:(k+1)*((x*4294967296+y)*P*Q)=(k+1)*(x*4294967296+y)*(Q*P):=by grind
   have e5:(t*4294967296+z+1)*(Q*P)=(t*4294967296+z)*(Q*P)+Q*P:=by grind
   rw[e4] at e3;rw[e5] at e2;omega
structure yR (u v:List Nat) (j g:Nat):Prop where
 lt:g<4294967296
 up:wv u<(g+1)*(wv v*BB j)
 lo:g*(wv v*BB j)<=wv u+wv v*BB j
theorem EP{rest:Nat}(H:h_ u v n j)(G:US u v n j g rest)(ht:(g<4294967296/\g*v.getD (n-2) 0<=rest*4294967296+u.getD (j+n-2) 0)\/4294967296<=rest):yR u v j g:=by
 have nG:=H.v1;have aU:g<4294967296:=by
  rcases ht with h | h
  ·exact h.1
  ·have h1:=H.top_lt
   rw[<-G.eq] at h1;refine Nat.lt_of_not_le fun hn=>?_;have:4294967296*v.getD (n-1) 0<=g*v.getD (n-1) 0:=Nat.mul_le_mul_right _ hn;omega
 have lA:=H.vd.getD (n-2);have FQ:g*v.getD (n-2) 0<=rest*4294967296+u.getD (j+n-2) 0:=by
  rcases ht with h | h
  ·exact h.2
  ·have:g*v.getD (n-2) 0<=4294967296*4294967296:=Nat.mul_le_mul (by omega) (by omega)
   omega
 refine⟨aU,G.up,?_⟩;obtain⟨lo,h1,h2⟩:=H.uval;obtain⟨lv,g1,g2⟩:=H.vval;have FT:=G.eq;rw[h2,g2];rw[H.bb] at h1 ⊢;generalize h_.tp u n j=t at *;generalize v.getD (n-1) 0=x at *;generalize v.getD (n-2) 0=y at *;generalize u.getD (j+n-2) 0=z at *;generalize BB (n-2)=P at *;generalize BB j=Q at *;have e1:g*(x*4294967296+y)<=t*4294967296+z:=by
  rw[<-FT];have:g*(x*4294967296+y)=g*x*4294967296+g*y:=by grind
  omega
 have e2:g*(x*4294967296+y)*(Q*P)<=(t*4294967296+z)*(Q*P):=Nat.mul_le_mul_right _ e1;have e3:g*(lv*Q)<=g*(P*Q):=Nat.mul_le_mul_left _ (Nat.mul_le_mul_right _ (by omega));have e4:g*(P*Q)<=4294967296*(P*Q):=Nat.mul_le_mul_right _ (by omega);have e5:4294967296*(P*Q)<=(x*4294967296+y)*(P*Q):=Nat.mul_le_mul_right _ (by omega);have e6:(lv+(x*4294967296+y)*P)*Q=lv*Q+(x*4294967296+y)*(P*Q):=by grind
 have e7:g*(lv*Q+(x*4294967296+y)*(P*Q))=g*(lv*Q)+g*(x*4294967296+y)*(Q*P):=by grind
 rw[e6,e7];omega
structure aCU (u0 u v:List Nat) (n j i g:Nat) (bo:Int) (ca:Nat):Prop where
 ud:Wd u
 ul:u.length=u0.length
 uz:Zf u (j+n+1)
 b1:-1<=bo
 b2:bo<=0
 c1:ca<4294967296
 eq:(wv u:Int)+(bo-ca)*(BB (j+i):Int)=(wv u0:Int)-(g:Int)*(wv (v.take i):Int)*(BB j:Int)
theorem WV(H:h_ u v n j):aCU u u v n j 0 g 0 0:=
 ⟨H.ud,rfl,H.uz,by decide,by decide,by decide,by simp[wv]⟩
theorem aBY(hv:Wd v)(QR:v.length=n)(hl:j+n<u.length)(hg:g<4294967296)(hi:i<n)(M:aCU u0 u v n j i g bo ca):ca+g*v.getD i 0<18446744073709551616/\aCU u0 (u.set (j+i) ((bo+u.getD (j+i) 0-((ca+g*v.getD i 0) % 4294967296:Nat)) % 4294967296).toNat) v n j (i+1) g ((bo+u.getD (j+i) 0-((ca+g*v.getD i 0) % 4294967296:Nat)) / 4294967296) ((ca+g*v.getD i 0) / 4294967296):=by
 have h1:=hv.getD i;have h2:=M.ud.getD (j+i);have h3:g*v.getD i 0<=4294967295*4294967295:=Nat.mul_le_mul (by omega) (by omega);have h4:=Nat.div_add_mod (ca+g*v.getD i 0) 4294967296;have h5:=Nat.mod_lt (ca+g*v.getD i 0) (show 0<4294967296 by decide);have b1:=M.b1;have b2:=M.b2;have c1:=M.c1;have FT:=M.eq;have XF:=wH u (j+i) ((bo+u.getD (j+i) 0-((ca+g*v.getD i 0) % 4294967296:Nat)) % 4294967296).toNat (by omega);refine⟨by omega,M.ud.set _ (by omega),by rw[lS];exact M.ul,M.uz.set (by omega),by omega,by omega,by omega,?_⟩;rw[<-Nat.add_assoc,eY,dF];have hx:(((bo+u.getD (j+i) 0-((ca+g*v.getD i 0) % 4294967296:Nat)) % 4294967296).toNat:Int)=(bo+u.getD (j+i) 0-((ca+g*v.getD i 0) % 4294967296:Nat)) % 4294967296:=by omega
 have hd:=Int.mul_ediv_add_emod (bo+u.getD (j+i) 0-((ca+g*v.getD i 0) % 4294967296:Nat)) 4294967296;have aRZ:=congrArg (fun n:Nat=>(n:Int)) XF;simp only[Int.natCast_add,Int.natCast_mul,hx] at aRZ;have h42:=congrArg (fun n:Nat=>(n:Int)) h4;simp only[Int.natCast_add,Int.natCast_mul] at h42;have pE:(BB (j+i):Int)=(BB j:Int)*(BB i:Int):=by rw[AV];exact Int.natCast_mul ..
 simp only[Int.natCast_add,Int.natCast_mul];generalize (wv (u.set (j+i) ((bo+u.getD (j+i) 0-((ca+g*v.getD i 0) % 4294967296:Nat)) % 4294967296).toNat):Int)=W at *;generalize ((bo+u.getD (j+i) 0-((ca+g*v.getD i 0) % 4294967296:Nat)) / 4294967296)=q at *;generalize ((bo+u.getD (j+i) 0-((ca+g*v.getD i 0) % 4294967296:Nat)) % 4294967296)=r at *;generalize (ca+g*v.getD i 0) / 4294967296=t at *;generalize (ca+g*v.getD i 0) % 4294967296=s at *;clear h1 h2 h3 h4 h5 b1 b2 c1 XF hx M;generalize (v.getD i 0)=y at *;generalize (u.getD (j+i) 0)=x at *;generalize (BB (j+i):Int)=P at *;have k1:W=(wv u:Int)+(r-x)*P:=by grind
 have k2:(q:Int)*(P*4294967296)=(bo+x-s-r)*P:=by grind
 have k3:(t:Int)*(P*4294967296)=(ca+g*y-s)*P:=by grind
 have k4:(g:Int)*(wv (v.take i)+y*BB i)*BB j=g*wv (v.take i)*BB j+g*y*P:=by rw[pE];grind
 rw[k4];grind
theorem aFb(H:h_ u0 v n j)(G:yR u0 v j g)(M:aCU u0 u v n j n g bo ca):(0<=bo+u.getD (j+n) 0-ca->bo+u.getD (j+n) 0-ca<4294967296/\wv (u.set (j+n) (bo+u.getD (j+n) 0-ca).toNat)+g*(wv v*BB j)=wv u0)/\
    (bo+u.getD (j+n) 0-ca<0->-4294967296<=bo+u.getD (j+n) 0-ca/\wv (u.set (j+n) (bo+u.getD (j+n) 0-ca+4294967296).toNat)+g*(wv v*BB j)=wv u0+BB (j+n+1)/\wv u0<g*(wv v*BB j)):=by
 have h2:=M.ud.getD (j+n);have b1:=M.b1;have b2:=M.b2;have c1:=M.c1;have FT:=M.eq;have hul:=H.ul;have huz:=M.uz;have hud:=M.ud;have dW:=M.ul;rw[nL (by rw[H.vl];exact lR)] at FT;have hgv:((g*(wv v*BB j):Nat):Int)=(g:Int)*(wv v:Int)*(BB j:Int):=by simp only[Int.natCast_mul];grind
 rw[<-hgv] at FT;have XF:=fun x=>wH u (j+n) x (by omega);have hP:(BB (j+n+1):Int)=(BB (j+n):Int)*4294967296:=by rw[eY];exact Int.natCast_mul ..
 refine⟨fun h0=>⟨by omega,?_⟩,fun h0=>⟨by omega,?_⟩⟩
 ·have hs:=congrArg (fun n:Nat=>(n:Int)) (XF (bo+u.getD (j+n) 0-ca).toNat)
  have hx:((bo+u.getD (j+n) 0-ca).toNat:Int)=bo+u.getD (j+n) 0-ca:=by omega
  simp only[Int.natCast_add,Int.natCast_mul,hx] at hs;have k:((wv (u.set (j+n) (bo+u.getD (j+n) 0-ca).toNat):Nat):Int)+((g*(wv v*BB j):Nat):Int)=(wv u0:Int):=by
   generalize (wv (u.set (j+n) (bo+u.getD (j+n) 0-ca).toNat):Int)=W at *;generalize ((g*(wv v*BB j):Nat):Int)=D at *;generalize u.getD (j+n) 0=x at *;generalize (BB (j+n):Int)=P at *;grind
  omega
 ·have hs:=congrArg (fun n:Nat=>(n:Int)) (XF (bo+u.getD (j+n) 0-ca+4294967296).toNat)
  have hx:((bo+u.getD (j+n) 0-ca+4294967296).toNat:Int)=bo+u.getD (j+n) 0-ca+4294967296:=by omega
  simp only[Int.natCast_add,Int.natCast_mul,hx] at hs;have k:((wv (u.set (j+n) (bo+u.getD (j+n) 0-ca+4294967296).toNat):Nat):Int)+((g*(wv v*BB j):Nat):Int)=(wv u0:Int)+(BB (j+n+1):Int):=by
   rw[hP];generalize (wv (u.set (j+n) (bo+u.getD (j+n) 0-ca+4294967296).toNat):Int)=W at *;generalize ((g*(wv v*BB j):Nat):Int)=D at *;generalize u.getD (j+n) 0=x at *;generalize (BB (j+n):Int)=P at *;grind
  have aU:wv (u.set (j+n) (bo+u.getD (j+n) 0-ca+4294967296).toNat)<BB (j+n+1):=
   aK9 (hud.set _ (by omega)) (huz.set (by omega)) (by rw[lS];omega)
  exact⟨by omega,by omega⟩
structure aDl (u0 u v:List Nat) (n j i c:Nat):Prop where
 ud:Wd u
 ul:u.length=u0.length
 uz:Zf u (j+n+1)
 c1:c<=1
 eq:wv u+c*BB (j+i)=wv u0+wv (v.take i)*BB j
theorem YC{us ux:List Nat}(M:aCU us ux v n j i g bo ca)(hx:x<4294967296):aDl (ux.set (j+n) x) (ux.set (j+n) x) v n j 0 0:=
 ⟨M.ud.set _ hx,rfl,M.uz.set (by omega),by decide,by rw[List.take_zero,Nat.zero_mul,wv,Nat.zero_mul]⟩
theorem LJ{a X:Nat}(h:a<g*X):1<=g:=by
 rcases Nat.eq_zero_or_pos g with rfl | h2
 ·rw[Nat.zero_mul] at h;omega
 ·exact h2
theorem aE4{bot:Int}(h1:-4294967296<=bot)(h2:bot<0):bot % 4294967296=((bot+4294967296).toNat:Int)/\(bot+4294967296).toNat<4294967296:=by omega
theorem aCS(hv:Wd v)(hl:j+n<u.length)(hi:i<n)(M:aDl u0 u v n j i c):aDl u0 (u.set (j+i) ((c+u.getD (j+i) 0+v.getD i 0) % 4294967296)) v n j (i+1) ((c+u.getD (j+i) 0+v.getD i 0) / 4294967296):=by
 have h1:=hv.getD i;have h2:=M.ud.getD (j+i);have c1:=M.c1;have FT:=M.eq;have XF:=wH u (j+i) ((c+u.getD (j+i) 0+v.getD i 0) % 4294967296) (by omega);refine⟨M.ud.set _ (by omega),by rw[lS];exact M.ul,M.uz.set (by omega),by omega,?_⟩;have h4:=Nat.div_add_mod (c+u.getD (j+i) 0+v.getD i 0) 4294967296;rw[<-Nat.add_assoc,eY,dF];have pE:BB (j+i)=BB j*BB i:=AV ..;generalize wv (u.set (j+i) ((c+u.getD (j+i) 0+v.getD i 0) % 4294967296))=W at *;generalize (c+u.getD (j+i) 0+v.getD i 0) / 4294967296=q at *;generalize (c+u.getD (j+i) 0+v.getD i 0) % 4294967296=r at *;generalize u.getD (j+i) 0=x at *;generalize v.getD i 0=y at *;have k:(4294967296*q+r)*BB (j+i)=(c+x+y)*BB (j+i):=by rw[h4]
 have k2:(wv (v.take i)+y*BB i)*BB j=wv (v.take i)*BB j+y*BB (j+i):=by rw[pE];grind
 rw[k2];generalize BB (j+i)=P at *;have k3:(4294967296*q+r)*P=q*(P*4294967296)+r*P:=by grind
 have k4:(c+x+y)*P=c*P+x*P+y*P:=by grind
 omega
theorem aG8{uu:List Nat}(H:h_ uu v n j)(G:yR uu v j g)(hl:u0.length=uu.length)(h0:wv u0+g*(wv v*BB j)=wv uu+BB (j+n+1))(vS:wv uu<g*(wv v*BB j))(M:aDl u0 u v n j n c):wv (u.set (j+n) ((u.getD (j+n) 0+c) % 4294967296))+(g-1)*(wv v*BB j)=wv uu/\1<=g:=by
 have hg:1<=g:=Nat.one_le_iff_ne_zero.2 fun e=>by rw[e,Nat.zero_mul] at vS;omega
 refine⟨?_,hg⟩;have h2:=M.ud.getD (j+n);have c1:=M.c1;have FT:=M.eq;have hul:=H.ul;have LN:=M.ul;have hud:=M.ud;have huz:=M.uz;rw[nL (by rw[H.vl];exact lR)] at FT;have XF:=wH u (j+n) ((u.getD (j+n) 0+c) % 4294967296) (by omega);have aU:wv (u.set (j+n) ((u.getD (j+n) 0+c) % 4294967296))<BB (j+n+1):=aK9 (hud.set _ (by omega)) (huz.set (by omega)) (by rw[lS];omega);have hlo:=G.lo;rw[eY] at h0 aU;obtain⟨k,rfl⟩:∃k,g=k+1:=⟨g-1,by omega⟩;rw[show k+1-1=k from by omega];rw[Nat.add_mul,Nat.one_mul] at *;have h4:=Nat.div_add_mod (u.getD (j+n) 0+c) 4294967296;have hq:(u.getD (j+n) 0+c) / 4294967296<=1:=by omega
 generalize wv (u.set (j+n) ((u.getD (j+n) 0+c) % 4294967296))=W at *;generalize (u.getD (j+n) 0+c) / 4294967296=q at *;generalize (u.getD (j+n) 0+c) % 4294967296=r at *;generalize u.getD (j+n) 0=x at *;generalize BB (j+n)=P at *;have k1:(4294967296*q+r)*P=(x+c)*P:=by rw[h4]
 have k3:(4294967296*q+r)*P=q*(P*4294967296)+r*P:=by grind
 have k4:(x+c)*P=x*P+c*P:=by grind
 generalize wv v*BB j=VB at *;generalize k*VB=KB at *;rcases(by omega:q=0\/q=1) with rfl | rfl<;>omega
structure KH (a2:Nat) (u v q:List Nat) (n j:Nat):Prop where
 ud:Wd u
 qd:Wd q
 eq:wv u+wv v*wv q=a2
 lt:wv u<wv v*BB j
 qz:∀i,i<j->q.getD i 0=0
theorem aEd{a2:Nat}(S:KH a2 u v q n (j+1))(n2:2<=n)(vl:v.length=n)(vd:Wd v)(v1:2147483648<=v.getD (n-1) 0)(ul:j+n<u.length):h_ u v n j:=
 ⟨n2,vl,vd,v1,ul,S.ud,S.lt⟩
theorem VL{a2:Nat}{u':List Nat}(S:KH a2 u v q n (j+1))(hq:j<q.length)(hd:Wd u')(hg:g<4294967296)(FT:wv u'+g*(wv v*BB j)=wv u)(aU:wv u<(g+1)*(wv v*BB j)):KH a2 u' v (q.set j g) n j:=by
 refine⟨hd,S.qd.set _ hg,?_,?_,fun i hi=>by rw[z_ (by omega)];exact S.qz i (by omega)⟩
 ·have h:=wH q j g hq
  rw[S.qz j (by omega),Nat.zero_mul,Nat.add_zero] at h;rw[h,<-S.eq,<-FT];grind
 ·rw[Nat.add_mul,Nat.one_mul] at aU
  omega
theorem aGJ{n:Nat}(G:yR u v j g)(h1:1<=g)(vS:wv u<g*(wv v*BB j)):wv u<(g-1+1)*(wv v*BB j):=by rw[Nat.sub_add_cancel h1];exact vS
theorem aG7{uu:List Nat}{L:Nat}(H:h_ uu v n j)(G:yR uu v j g)(hl:u0.length=uu.length)(h0:wv u0+g*(wv v*BB j)=wv uu+BB (j+n+1))(vS:wv uu<g*(wv v*BB j))(M:aDl u0 u v n j n c)(hx:u.getD (j+n) 0=x)(hL:u.length=L):((u.set (j+n) ((x+c) % 4294967296)).length=L/\Wd (u.set (j+n) ((x+c) % 4294967296)))/\wv (u.set (j+n) ((x+c) % 4294967296))+(g-1)*(wv v*BB j)=wv uu/\wv uu<(g-1+1)*(wv v*BB j):=by
 subst hx;have h:=aG8 H G hl h0 vS M;exact⟨⟨by rw[lS];exact hL,M.ud.set _ (Nat.mod_lt _ (by decide))⟩,h.1,aGJ (n:=0) G h.2 vS⟩
theorem YD{r:List Nat}(hd:Wd u)(hs:s<=31)(hi:i<n)(hr:i<r.length)(hu:n<u.length)(hz:Zf r i)(hI:wv r=wv u / 2^s % BB i):u.getD (i+1) 0*4294967296+u.getD i 0<18446744073709551616/\wv (r.set i ((u.getD (i+1) 0*4294967296+u.getD i 0) / 2^s % 4294967296))=wv u / 2^s % BB (i+1):=by
 have h1:=hd.getD i;have h2:=hd.getD (i+1);refine⟨by omega,?_⟩;rw[DM hz hr,hI,eY,Nat.mod_mul];congr 1
 rw[Nat.mul_comm (BB i)];congr 1
 have h3:wv u / 2^s / BB i=wv (u.drop i) / 2^s:=by
  rw[Nat.div_div_eq_div_mul,Nat.mul_comm,<-Nat.div_div_eq_div_mul];congr 1
  rw[wG u i (by omega),Nat.add_mul_div_left _ _ (QM i),Nat.div_eq_of_lt (qF hd (by omega)),Nat.zero_add]
 rw[h3];have h4:wv (u.drop i)=u.getD (i+1) 0*4294967296+u.getD i 0+18446744073709551616*wv (u.drop (i+2)):=by
  have e1:i<u.length:=by omega
  have e2:i+1<u.length:=by omega
  rw[List.drop_eq_getElem_cons e1,List.drop_eq_getElem_cons e2,wv,wv];rw[dN,iB e2,dN,iB e1];simp only[Option.getD_some];rw[show i+1+1=i+2 from rfl];omega
 have h5:18446744073709551616=2^s*(4294967296*2^(32-s)):=by
  rw[show 4294967296=2^32 from rfl,Nat.mul_left_comm,<-Nat.pow_add,show s+(32-s)=32 from by omega]
 rw[h4,h5,Nat.mul_assoc (2^s),Nat.add_mul_div_left _ _ (Nat.pow_pos (by decide)),Nat.mul_assoc 4294967296,Nat.add_mul_mod_self_left]
theorem aGG{A B:Nat}(S:KH (A*2^s) u v q n 0)(hv:wv v=B*2^s)(hB:0<B):wv q=A / B/\wv u / 2^s=A % B/\wv u / 2^s<B:=by
 have FT:=S.eq;have aU:=S.lt;rw[yS,Nat.mul_one] at aU;rw[hv] at FT aU;have hp:0<2^s:=Nat.pow_pos (by decide);generalize 2^s=p at *;have h1:p∣wv u:=by
  have h:p∣B*p*wv q:=⟨B*wv q,by grind⟩;have h2:p∣wv u+B*p*wv q:=by rw[FT];exact⟨A,Nat.mul_comm _ _⟩
  exact(Nat.dvd_add_iff_left h).2 h2
 obtain⟨r,hr⟩:=h1;rw[hr] at FT aU;have h2:r<B:=by
  rw[Nat.mul_comm] at aU;exact Nat.lt_of_mul_lt_mul_right aU
 have h3:r+B*wv q=A:=by
  have:p*(r+B*wv q)=p*A:=by rw[Nat.mul_comm p A,<-FT];grind
  exact Nat.eq_of_mul_eq_mul_left hp this
 rw[hr,Nat.mul_div_cancel_left _ hp];refine⟨?_,?_,h2⟩
 ·rw[<-h3,Nat.add_mul_div_left _ _ hB,Nat.div_eq_of_lt h2,Nat.zero_add]
 ·rw[<-h3,Nat.add_mul_mod_self_left,Nat.mod_eq_of_lt h2]
theorem aE3{w:List Nat}(hn:1<=n)(hb:Wd b)(hl:b.length=n)(hw:Wd w)(hwl:w.length=n+1)(hI:wv w=wv b*2^s)(h1:2147483648<=b.getD (n-1) 0*2^s)(h2:b.getD (n-1) 0*2^s<4294967296)(hs:s<=31):wv (w.take n)=wv b*2^s/\2147483648<=(w.take n).getD (n-1) 0:=by
 have e1:=OU hn (by omega) (fun k hk=>DS (by omega):Zf b n);have e2:=qF hb (show n-1<=b.length by omega);have aYB:(2:Nat)^s∣4294967296:=⟨2^(32-s),by rw[<-Nat.pow_add,show s+(32-s)=32 from by omega]⟩;have hp:0<2^s:=Nat.pow_pos (by decide);generalize 2^s=p at *;have e3:(b.getD (n-1) 0+1)*p<=4294967296:=by
  obtain⟨d,hd⟩:=aYB;rw[hd,Nat.mul_comm p d] at h2 ⊢;have:=Nat.lt_of_mul_lt_mul_right h2;exact Nat.mul_le_mul_right _ this
 have hBn:BB n=BB (n-1)*4294967296:=by rw[<-eY];congr 1;omega
 have e4:wv b*p<BB n:=by
  rw[e1,hBn];have:(wv (b.take (n-1))+b.getD (n-1) 0*BB (n-1))*p<(BB (n-1)+b.getD (n-1) 0*BB (n-1))*p:=Nat.mul_lt_mul_of_pos_right (by omega) hp;have e5:(BB (n-1)+b.getD (n-1) 0*BB (n-1))*p=BB (n-1)*((b.getD (n-1) 0+1)*p):=by grind
  have e6:BB (n-1)*((b.getD (n-1) 0+1)*p)<=BB (n-1)*4294967296:=Nat.mul_le_mul_left _ e3;omega
 have hz:Zf w n:=Q8 (by rw[hI];exact e4);have hv:wv (w.take n)=wv b*p:=by rw[<-xP hz (by omega),hI]
 refine⟨hv,?_⟩;have hg:(w.take n).getD (n-1) 0=w.getD (n-1) 0:=by
  rw[dN,List.getElem?_take_of_lt (by omega),dN]
 rw[hg];have e7:=OU hn (by omega) hz;have e8:=qF hw (show n-1<=w.length by omega);rw[hI,e1] at e7;refine Nat.le_of_not_lt fun aU=>?_;have k1:(w.getD (n-1) 0+1)*BB (n-1)<=2147483648*BB (n-1):=Nat.mul_le_mul_right _ aU;have k2:2147483648*BB (n-1)<=b.getD (n-1) 0*p*BB (n-1):=Nat.mul_le_mul_right _ h1;have k3:(wv (b.take (n-1))+b.getD (n-1) 0*BB (n-1))*p=wv (b.take (n-1))*p+b.getD (n-1) 0*p*BB (n-1):=by grind
 rw[k3] at e7;rw[Nat.add_mul,Nat.one_mul] at k1;omega
theorem RM{A:Nat}(hA:wv a=A)(ha:Wd a)(A_:a.length=m+n)(hn:1<=n)(hud:Wd u)(hqd:Wd q)(hu:wv u=A*2^s)(hs:s<=31)(vl:v.length=n)(v1:2147483648<=v.getD (n-1) 0)(hq:Zf q 0):KH (A*2^s) u v q n (m+1):=by
 have hq0:wv q=0:=by have:=xP hq (Nat.zero_le _);rw[this];rfl
 refine⟨hud,hqd,by rw[hq0,hu];omega,?_,fun i _=>hq i (Nat.zero_le _)⟩;rw[hu,<-hA];have h1:=FD ha;rw[A_] at h1;have h2:=OU hn (by omega) (fun k hk=>DS (by omega):Zf v n);have h3:2147483648*BB (n-1)<=wv v:=by
  have:2147483648*BB (n-1)<=v.getD (n-1) 0*BB (n-1):=Nat.mul_le_mul_right _ v1;omega
 have K6:2^s<=2147483648:=Nat.pow_le_pow_right (by decide) hs;have h4:wv a*2^s<BB (m+n)*2147483648:=Nat.mul_lt_mul_of_lt_of_le h1 K6 (by decide);have h5:2147483648*BB (n-1)*BB (m+1)<=wv v*BB (m+1):=Nat.mul_le_mul_right _ h3;have h6:BB (m+n)=BB (n-1)*BB (m+1):=by rw[<-AV];congr 1;omega
 rw[h6] at h4;have h7:BB (n-1)*BB (m+1)*2147483648=2147483648*BB (n-1)*BB (m+1):=by grind
 omega
end
section
theorem nS(n:Int)(hd:d≠0):(Rat.divInt n d).num=n / (n.natAbs.gcd d:Nat)/\(Rat.divInt n d).den=d / n.natAbs.gcd d:=by
 rw[Rat.divInt_ofNat,mkRat,dif_neg hd,Rat.normalize_eq];exact⟨rfl,rfl⟩
theorem EB{n:Int}(hd:d≠0)(h:n.natAbs.gcd d=1):(Rat.divInt n d).num=n/\(Rat.divInt n d).den=d:=by
 obtain⟨h1,h2⟩:=nS n hd;rw[h] at h1 h2;exact⟨by rw[h1];simp,by rw[h2,Nat.div_one]⟩
theorem sY(n:Int)(hd:d≠0):(Rat.divInt n d).num.natAbs=n.natAbs / n.natAbs.gcd d/\(n<0<->(Rat.divInt n d).num<0):=by
 obtain⟨h1,_⟩:=nS n hd;have hg:(n.natAbs.gcd d:Int)∣n:=by
  exact Int.ofNat_dvd_left.2 (Nat.gcd_dvd_left ..)
 have hp:0<n.natAbs.gcd d:=Nat.gcd_pos_of_pos_right _ (Nat.pos_of_ne_zero hd);rw[h1];refine⟨?_,?_⟩
 ·rw[Int.natAbs_ediv,if_pos (.inr (.inr hg)),Nat.add_zero,Int.natAbs_natCast]
 ·generalize n.natAbs.gcd d=g at *
  obtain⟨k,hk⟩:=hg;rw[hk,Int.mul_ediv_cancel_left _ (by omega)];have K6:(0:Int)<(g:Nat):=by omega
  constructor
  ·intro h
   refine Int.lt_of_not_ge fun h2=>?_;have:=Int.mul_nonneg (Int.le_of_lt K6) h2;omega
  ·intro h
   have:=Int.mul_neg_of_pos_of_neg K6 h;omega
theorem MJ(n:Int)(d:Nat):Rat.divInt n (-(d:Int))=Rat.divInt (-n) d:=by
 by_cases hd:d=0
 ·subst hd;simp
 ·rw[Rat.divInt_eq_divInt_iff (by omega) (by omega)]
  grind
theorem BV(q:Rat):Rat.divInt q.num q.den=q:=Rat.num_divInt_den q
theorem ES(q:Rat):q.den≠0:=q.den_nz
theorem NV(a b:Rat):Rat.divInt (a.num*b.den+b.num*a.den) ((a.den*b.den:Nat):Int)=a+b:=by
 rw[Rat.add_def',Rat.divInt_ofNat]
theorem MT(a b:Rat):Rat.divInt (a.num*b.num) ((a.den*b.den:Nat):Int)=a*b:=by
 have:=Rat.divInt_mul_divInt a.num b.num (d₁:=a.den) (d₂:=b.den);rw[BV,BV] at this;rw[this,Int.natCast_mul]
theorem NJ(a b:Rat):Rat.divInt (a.num*b.den) ((a.den:Int)*b.num)=a / b:=by
 rw[Rat.div_def,Rat.inv_def,<-Rat.divInt_mul_divInt,BV]
def bI(q:Rat):Nat:=max (dL q.num.natAbs) (dL q.den)
theorem aI3(q:Rat):dL q.num.natAbs<=bI q:=Nat.le_max_left ..
theorem ZV(q:Rat):dL q.den<=bI q:=Nat.le_max_right ..
theorem aI2(q:Rat):1<=bI q:=by
 have h:=ZV q;have:=kP (ES q);omega
theorem TL(m n:Nat):dL (m / n)<=dL m:=lD (Nat.div_le_self ..)
theorem EA(n:Int)(hd:d≠0):bI (Rat.divInt n d)<=max (dL n.natAbs) (dL d):=by
 unfold bI;obtain⟨h1,h2⟩:=nS n hd;rw[(sY n hd).1,h2];have h3:=TL n.natAbs (n.natAbs.gcd d);have h4:=TL d (n.natAbs.gcd d);omega
theorem fI(a b:Int):dL (a*b).natAbs<=dL a.natAbs+dL b.natAbs:=by rw[Int.natAbs_mul];exact CT ..
theorem NI(a b:Int):dL (a+b).natAbs<=max (dL a.natAbs) (dL b.natAbs)+1:=
 cO (lD (Int.natAbs_add_le ..)) (aGE ..)
theorem lG(a b:Rat):bI (a+b)<=bI a+bI b+1:=by
 rw[<-NV];refine cO (EA _ (Nat.mul_ne_zero (ES a) (ES b))) ?_;have h1:=NI (a.num*b.den) (b.num*a.den);have h2:=fI a.num b.den;have h3:=fI b.num a.den;have h4:=CT a.den b.den;unfold bI;rw[Int.natAbs_natCast] at h2 h3;omega
theorem eL(a b:Rat):bI (a*b)<=bI a+bI b:=by
 rw[<-MT];refine cO (EA _ (Nat.mul_ne_zero (ES a) (ES b))) ?_;have h2:=fI a.num b.num;have h4:=CT a.den b.den;unfold bI;omega
theorem IE(a b:Rat):bI (a / b)<=bI a+bI b:=by
 by_cases hb:b=0
 ·subst hb
  rw[Rat.div_def,Rat.inv_zero,Rat.mul_zero];have h0:bI 0<=1:=by
   show max (dL 0) (dL 1)<=1;rw[iR,tK (by decide) (by decide)];decide
  have:=aI2 a;omega
 ·rw[<-NJ]
  have AZ:b.num≠0:=fun h=>hb (Rat.num_eq_zero.1 h);have key:∀(n:Int)(k:Nat),k≠0->n.natAbs=(a.num*b.den).natAbs->k=(a.den*b.num.natAbs)->bI (Rat.divInt n k)<=bI a+bI b:=fun n k hk hn he=>by
   refine cO (EA _ hk) ?_;rw[hn,he];have h2:=fI a.num b.den;rw[Int.natAbs_natCast] at h2;have h4:=CT a.den b.num.natAbs;unfold bI;omega
  have hk:a.den*b.num.natAbs≠0:=Nat.mul_ne_zero (ES a) (by omega);by_cases hs:b.num<0
  ·have e:(a.den:Int)*b.num=-((a.den*b.num.natAbs:Nat):Int):=by
    rw[Int.natCast_mul,Int.ofNat_natAbs_of_nonpos (by omega)];grind
   rw[e,MJ];exact key _ _ hk (by rw[Int.natAbs_neg]) rfl
  ·have e:(a.den:Int)*b.num=((a.den*b.num.natAbs:Nat):Int):=by
    rw[Int.natCast_mul,Int.natAbs_of_nonneg (by omega)]
   rw[e];exact key _ _ hk rfl rfl
theorem m9(a:Rat):bI (-a)=bI a:=by
 unfold bI;rw[Rat.neg_num,Int.natAbs_neg,Rat.neg_den]
theorem rM(a b:Rat):bI (a-b)<=bI a+bI b+1:=by
 rw[Rat.sub_eq_add_neg];have:=lG a (-b);rwa[m9] at this
end
