import Derived.Test.YtonlblmobjhjjaaGreatDoorW00
import Derived.Lib.Hide
import Derived.OrdersHeld
import Derived.Deep.RegionHeld
import Derived.Shelf.Strings.Builder1
import Derived.Shelf.Small.Bits
import Derived.Shelf.Strings.BuilderF
import Derived.Shelf.Strings.BuilderK
import Derived.Shelf.Strconv.Itoa0
import Derived.Shelf.Strconv.Itoa1
import Derived.Shelf.LaysM
import Derived.Shelf.Strconv.Itoa2
import Derived.Ground.MpProg
import Derived.Shelf.Pu.ParseUintPublic10
import Derived.Shelf.Strings.Search1
import Derived.Shelf.Strings.Search2
import Derived.Shelf.Strings.Cut
import Derived.Shelf.Strings.Shaped
import Derived.Shelf.Strings.Prefix
import Derived.Shelf.Bits.Mul64
import Derived.Shelf.Strings.BuilderCap
import Derived.Shelf.Slices.Turned
import Derived.Test.YtonlblmobjhjjaaGreatDoorProg
import Derived.Lib.ItoaNum
import Derived.Lib.ParseIntB
set_option linter.unusedVariables false
set_option linter.unusedSimpArgs false
namespace Go.Proofs.YtonlblmobjhjjaaGreatDoor
variable {L : List Oper} {a b l out ps q u u0 v : List Nat} {bo : Int} {c ca d g i j k m n r s x : Nat} {o : Oper} {ops : Array Oper} {w w' : World}
section
def wv:List Nat->Nat
 | []=>0
 | x::r=>x+4294967296*wv r
def Wd(l:List Nat):Prop:=∀x∈l,x<4294967296
def BB(k:Nat):Nat:=4294967296^k
theorem rP:BB 0=1:=rfl
theorem dL(k:Nat):BB (k+1)=BB k*4294967296:=Nat.pow_succ ..
theorem tM(j k:Nat):BB (j+k)=BB j*BB k:=Nat.pow_add ..
theorem GP(k:Nat):0<BB k:=Nat.pow_pos (by decide)
theorem K6(h:j<=k):BB j<=BB k:=Nat.pow_le_pow_right (by decide) h
theorem Wd.tail(h:Wd (x::l)):Wd l:=fun y hy=>h y (List.mem_cons_of_mem _ hy)
theorem Wd.head(h:Wd (x::l)):x<4294967296:=h x (List.mem_cons_self ..)
theorem Wd.take(h:Wd l)(k:Nat):Wd (l.take k):=fun y hy=>h y (List.mem_of_mem_take hy)
theorem Wd.drop(h:Wd l)(k:Nat):Wd (l.drop k):=fun y hy=>h y (List.mem_of_mem_drop hy)
theorem Wd.getD(h:Wd l)(k:Nat):l.getD k 0<4294967296:=by
 rw[dQ];cases hk:l[k]? with
 | none=>simp
 | some x=>exact h x (cS hk)
theorem Wd.set(h:Wd l)(k:Nat)(hx:x<4294967296):Wd (l.set k x):=fun y hy=>by
 rcases List.mem_or_eq_of_mem_set hy with hy | rfl
 ·exact h y hy
 ·exact hx
theorem UA:Wd []:=fun x h=>by cases h
theorem lX(n:Nat):Wd (List.replicate n 0):=fun x h=>by rw[List.eq_of_mem_replicate h];decide
theorem lW:∀n:Nat,wv (List.replicate n 0)=0
 | 0=>rfl
 | n+1=>by rw[List.replicate_succ,wv,lW n]
theorem vV:∀l m:List Nat,wv (l++m)=wv l+BB l.length*wv m
 | [],m=>by rw[List.nil_append,zW_,rP,wv,Nat.one_mul,Nat.zero_add]
 | x::r,m=>by
  rw[List.cons_append,wv,wv,vV r m,G4,dL];grind
theorem xL:∀{l:List Nat},Wd l->wv l<BB l.length
 | [],_=>by simp[wv,rP]
 | x::r,h=>by
  have h1:=xL h.tail;have h2:=h.head;rw[wv,G4,dL];omega
theorem qB(l:List Nat)(k:Nat)(hk:k<=l.length):wv l=wv (l.take k)+BB k*wv (l.drop k):=by
 conv=>lhs;rw[<-List.take_append_drop k l]
 rw[vV,kC,Nat.min_eq_left hk]
theorem b_(l:List Nat)(k:Nat):wv (l.take (k+1))=wv (l.take k)+l.getD k 0*BB k:=by
 rw[List.take_add_one,vV,dQ];cases hk:l[k]? with
 | none=>simp[wv]
 | some x=>
  have:=(c_.1 hk).1;simp only[Option.toList_some,Option.getD_some,wv,kC];rw[Nat.min_eq_left (by omega)];grind
theorem qC:∀(l:List Nat)(k x:Nat),k<l.length->wv (l.set k x)+l.getD k 0*BB k=wv l+x*BB k
 | [],_,_,h=>absurd h (by simp)
 | y::r,0,x,_=>by simp only[List.set_cons_zero,wv,List.getD_cons_zero,rP];omega
 | y::r,k+1,x,h=>by
  have:=qC r k x (by simpa using h);simp only[List.set_cons_succ,wv,List.getD_cons_succ,dL];grind
theorem sK(h:k≠j):(l.set k x).getD j 0=l.getD j 0:=by
 rw[dQ,List.getElem?_set_ne h,dQ]
theorem LO(n k:Nat):(List.replicate n 0).getD k 0=0:=by
 rw[dQ,List.getElem?_replicate];split<;>rfl
theorem v_(h:l.length<=k):l.getD k 0=0:=by
 rw[dQ,List.getElem?_eq_none h];rfl
def gX(n:Nat):List Nat:=if h:n=0 then[] else n % 4294967296::gX (n / 4294967296)
termination_by n
decreasing_by exact Nat.div_lt_self (by omega) (by decide)
theorem jC:gX 0=[]:=by unfold gX;simp
theorem kI(h:n≠0):gX n=n % 4294967296::gX (n / 4294967296):=by rw[gX,dif_neg h]
theorem cU(n:Nat):wv (gX n)=n:=by
 induction n using Nat.strongRecOn with
 | _ n ih=>
  by_cases h:n=0
  ·subst h;rw[jC,wv]
  ·rw[kI h,wv,ih _ (Nat.div_lt_self (by omega) (by decide))]
   omega
theorem fA(n:Nat):Wd (gX n):=by
 induction n using Nat.strongRecOn with
 | _ n ih=>
  by_cases h:n=0
  ·subst h;rw[jC];exact UA
  ·rw[kI h]
   intro x hx;rcases List.mem_cons.1 hx with rfl | hx
   ·omega
   ·exact ih _ (Nat.div_lt_self (by omega) (by decide)) x hx
def Nrm(l:List Nat):Prop:=Wd l/\l.getLast?≠some 0
theorem aBt(n:Nat):Nrm (gX n):=by
 refine⟨fA n,?_⟩
 induction n using Nat.strongRecOn with
 | _ n ih=>
  by_cases h:n=0
  ·subst h;rw[jC];simp
  ·rw[kI h]
   by_cases h2:n / 4294967296=0
   ·rw[h2,jC];simp;omega
   ·have:=ih _ (Nat.div_lt_self (by omega) (by decide):n / 4294967296<n)
    rw[kI h2] at this ⊢;simpa using this
theorem YY:∀{l:List Nat},Nrm l->gX (wv l)=l
 | [],_=>by rw[wv,jC]
 | x::r,h=>by
  have hx:=h.1.head;cases r with
  | nil=>
   have:x≠0:=fun e=>h.2 (by rw[e];rfl);rw[wv,wv,kI (by omega)];rw[show(x+4294967296*0) % 4294967296=x from by omega,show(x+4294967296*0) / 4294967296=0 from by omega,jC]
  | cons y t=>
   have hn:Nrm (y::t):=⟨h.1.tail,by have:=h.2;simpa using this⟩;have ih:=YY hn;have cK:wv (y::t)≠0:=fun e=>by rw[e,jC] at ih;cases ih
   rw[wv,kI (by omega)];rw[show(x+4294967296*wv (y::t)) % 4294967296=x from by omega,show(x+4294967296*wv (y::t)) / 4294967296=wv (y::t) from by omega,ih]
def cE(n:Nat):Nat:=(gX n).length
theorem fK:cE 0=0:=by unfold cE;rw[jC];rfl
theorem gV(h:n≠0):cE n=cE (n / 4294967296)+1:=by unfold cE;rw[kI h];rfl
theorem kH(n:Nat):n<BB (cE n):=by
 have:=xL (fA n);rwa[cU] at this
theorem gI(h:n<BB k):cE n<=k:=by
 induction k generalizing n with
 | zero=>rw[rP] at h;rw[show n=0 from by omega,fK];exact Nat.le_refl 0
 | succ k ih=>
  by_cases h0:n=0
  ·rw[h0,fK];omega
  ·rw[gV h0]
   have:n / 4294967296<BB k:=by rw[dL] at h;exact(Nat.div_lt_iff_lt_mul (by decide)).2 h
   have:=ih this;omega
theorem aBC(h:n≠0):BB (cE n-1)<=n:=by
 refine Nat.le_of_not_lt fun hn=>?_;have:=gI hn;have:cE n≠0:=by rw[gV h];omega
 omega
theorem g_(h:m<=n):cE m<=cE n:=gI (zT_ h (kH n))
theorem AV(h:cE m<cE n):m<n:=Nat.lt_of_not_le fun hn=>by have:=g_ hn;omega
theorem YS(m n:Nat):cE (m+n)<=max (cE m) (cE n)+1:=by
 refine gI ?_;have h1:=jJ (kH m) (K6 (Nat.le_max_left (cE m) (cE n)));have h2:=jJ (kH n) (K6 (Nat.le_max_right (cE m) (cE n)));rw[dL];omega
theorem uY(m n:Nat):cE (m*n)<=cE m+cE n:=by
 refine gI ?_;rw[tM];have h1:=kH m;have h2:=kH n;exact Nat.mul_lt_mul_of_lt_of_le h1 (qY h2) (GP _)
theorem uX(h:n≠0)(h2:n<4294967296):cE n=1:=by rw[gV h,Nat.div_eq_of_lt h2,fK]
theorem o9(n:Nat):(gX n).length=cE n:=rfl
theorem QF(hk:0<k)(hl:k<=l.length)(h0:l.getD (k-1) 0=0):wv (l.take (k-1))=wv (l.take k):=by
 have:=b_ l (k-1);rw[h0,Nat.zero_mul,Nat.add_zero,Nat.sub_add_cancel hk] at this;exact this.symm
theorem UK(hd:Wd l)(hl:k<=l.length)(hz:k=0\/l.getD (k-1) 0≠0):l.take k=gX (wv (l.take k)):=by
 refine(YY ⟨hd.take k,?_⟩).symm;rcases hz with rfl | hz
 ·simp
 ·intro h
  rw[List.getLast?_eq_getElem?,kC,Nat.min_eq_left hl] at h;by_cases hk:k=0
  ·subst hk;simp at h
  ·rw[List.getElem?_take_of_lt (by omega)] at h
   rw[dQ,h] at hz;exact hz rfl
theorem T8{m:List Nat}(hl:Wd l)(d5:l.length=m.length)(hi:i<l.length)(hd:l.drop (i+1)=m.drop (i+1))(h:l.getD i 0<m.getD i 0):wv l<wv m:=by
 rw[qB l (i+1) (by omega),qB m (i+1) (by omega),hd,b_,b_];have h1:wv (l.take i)<BB i:=by
  have:=xL (hl.take i);rwa[kC,Nat.min_eq_left (by omega)] at this
 have h2:(l.getD i 0+1)*BB i<=m.getD i 0*BB i:=Nat.mul_le_mul_right _ h;rw[Nat.add_mul,Nat.one_mul] at h2;omega
theorem F6{m:List Nat}(d5:l.length=m.length)(hi:i<l.length)(hd:l.drop (i+1)=m.drop (i+1))(h:l.getD i 0=m.getD i 0):l.drop i=m.drop i:=by
 rw[List.drop_eq_getElem_cons hi,List.drop_eq_getElem_cons (by omega:i<m.length),hd];congr 1
 rw[dQ,dQ,jP hi,jP (by omega)] at h;exact h
def Zf(l:List Nat)(i:Nat):Prop:=∀j,i<=j->l.getD j 0=0
theorem nJ(n i:Nat):Zf (List.replicate n 0) i:=fun j _=>LO n j
theorem Zf.set(h:Zf l i)(hk:k<i):Zf (l.set k x) i:=fun j hj=>by rw[sK (by omega)];exact h j hj
theorem Zf.put(h:Zf l i):Zf (l.set i x) (i+1):=fun j hj=>by rw[sK (by omega)];exact h j (by omega)
theorem Zf.mono(h:Zf l i)(hj:i<=j):Zf l j:=fun k hk=>h k (by omega)
theorem vS(h:Zf l i)(hi:i<l.length):wv (l.set i x)=wv l+x*BB i:=by
 have:=qC l i x hi;rw[h i lR,Nat.zero_mul,Nat.add_zero] at this;exact this
theorem ZS(ha:Wd a)(hb:Wd b)(hi:i<out.length)(hz:Zf out i)(hc:c<=1)(hI:wv out+c*BB i=wv (a.take i)+wv (b.take i)):(c+a.getD i 0+b.getD i 0) / 4294967296<=1/\wv (out.set i ((c+a.getD i 0+b.getD i 0) % 4294967296))+(c+a.getD i 0+b.getD i 0) / 4294967296*BB (i+1)=wv (a.take (i+1))+wv (b.take (i+1)):=by
 have h1:=ha.getD i;have h2:=hb.getD i;generalize hs:c+a.getD i 0+b.getD i 0=s;refine⟨by omega,?_⟩;rw[vS hz hi,b_,b_,dL];have h3:=Nat.div_add_mod s 4294967296;have h4:s % 4294967296*BB i+s / 4294967296*(BB i*4294967296)=s*BB i:=by grind
 rw[<-hs] at h4 ⊢;generalize (c+a.getD i 0+b.getD i 0) / 4294967296=q at *;generalize (c+a.getD i 0+b.getD i 0) % 4294967296=r at *;rw[Nat.add_mul,Nat.add_mul] at h4;omega
theorem PQ{v:Nat}(hn:n<out.length)(hz:Zf out n)(hI:wv out+c*BB n=v):wv (out.set n c)=v:=by rw[vS hz hn];exact hI
theorem US{c:Int}(ha:Wd a)(hb:Wd b)(hi:i<out.length)(hz:Zf out i)(hc:-1<=c)(hc2:c<=0)(hI:(wv out:Int)+c*(BB i:Int)=(wv (a.take i):Int)-(wv (b.take i):Int)):-1<=(c+a.getD i 0-b.getD i 0) / 4294967296/\(c+a.getD i 0-b.getD i 0) / 4294967296<=0/\(wv (out.set i ((c+a.getD i 0-b.getD i 0) % 4294967296).toNat):Int)+(c+a.getD i 0-b.getD i 0) / 4294967296*(BB (i+1):Int)=(wv (a.take (i+1)):Int)-(wv (b.take (i+1)):Int):=by
 have h1:=ha.getD i;have h2:=hb.getD i;rw[vS hz hi,b_,b_,dL];generalize a.getD i 0=x at *;generalize b.getD i 0=y at *;refine⟨by omega,by omega,?_⟩;have h3:(((c+x-y) % 4294967296).toNat:Int)=(c+x-y) % 4294967296:=by omega
 have h4:=Int.mul_ediv_add_emod (c+x-y) 4294967296;generalize (c+(x:Int)-y) / 4294967296=q at *;generalize ((c+(x:Int)-y) % 4294967296)=r at *;simp only[Int.natCast_add,Int.natCast_mul,h3];grind
theorem aA4{c:Int}(hc:-1<=c)(hc2:c<=0)(ho:Wd out)(FW:wv b<=wv a)(hI:(wv out:Int)+c*(BB out.length:Int)=(wv a:Int)-(wv b:Int)):wv out=wv a-wv b:=by
 have h1:=xL ho;have h2:c=0:=by
  rcases(by omega:c=-1\/c=0) with rfl | rfl
  ·omega
  ·rfl
 subst h2;omega
theorem WF{W:Nat}(hb:Wd b)(ho:Wd out)(hx:x<4294967296)(hc:c<4294967296)(hi:i+k<out.length)(hI:wv out+c*BB (i+k)=W+x*wv (b.take k)*BB i):(c+out.getD (i+k) 0+x*b.getD k 0)<18446744073709551616/\(c+out.getD (i+k) 0+x*b.getD k 0) / 4294967296<4294967296/\wv (out.set (i+k) ((c+out.getD (i+k) 0+x*b.getD k 0) % 4294967296))+(c+out.getD (i+k) 0+x*b.getD k 0) / 4294967296*BB (i+(k+1))=W+x*wv (b.take (k+1))*BB i:=by
 have h1:=hb.getD k;have h2:=ho.getD (i+k);have h3:x*b.getD k 0<=4294967295*4294967295:=Nat.mul_le_mul (by omega) (by omega);have h5:=qC out (i+k) ((c+out.getD (i+k) 0+x*b.getD k 0) % 4294967296) hi;generalize hs:c+out.getD (i+k) 0+x*b.getD k 0=s at *;refine⟨by omega,by omega,?_⟩;rw[b_,<-Nat.add_assoc i k 1,dL];have h4:=Nat.div_add_mod s 4294967296;have pY:BB (i+k)=BB i*BB k:=tM i k;generalize s / 4294967296=q at *;generalize s % 4294967296=r at *;generalize b.getD k 0=y at *;generalize out.getD (i+k) 0=z at *;have h6:r*BB (i+k)+q*(BB (i+k)*4294967296)=s*BB (i+k):=by rw[<-h4];grind
 rw[<-hs] at h6;have h7:x*(wv (b.take k)+y*BB k)*BB i=x*wv (b.take k)*BB i+x*y*BB (i+k):=by rw[pY];grind
 rw[h7];have h8:(c+z+x*y)*BB (i+k)=c*BB (i+k)+z*BB (i+k)+x*y*BB (i+k):=by grind
 rw[h8] at h6;omega
theorem aBy(hn:i+b.length<out.length)(hz:Zf out (i+b.length))(hI:wv out+c*BB (i+b.length)=wv (a.take i)*wv b+a.getD i 0*wv b*BB i):wv (out.set (i+b.length) c)=wv (a.take (i+1))*wv b:=by
 rw[vS hz hn,hI,b_];grind
theorem QT(ha:Wd a)(hl:a.length=out.length)(hd:0<d)(R5:d<4294967296)(hr:r<d)(hi:i<a.length)(hI:wv (a.drop (i+1))=d*wv (out.drop (i+1))+r):(r*4294967296+a.getD i 0) / d<4294967296/\wv (a.drop i)=d*wv ((out.set i ((r*4294967296+a.getD i 0) / d)).drop i)+(r*4294967296+a.getD i 0) % d:=by
 have h1:=ha.getD i;have h2:(r*4294967296+a.getD i 0)<d*4294967296:=by
  have:(r+1)*4294967296<=d*4294967296:=Nat.mul_le_mul_right _ hr;omega
 refine⟨(Nat.div_lt_iff_lt_mul hd).2 (by omega),?_⟩;rw[List.drop_eq_getElem_cons hi,List.drop_eq_getElem_cons (by simpa using by omega:i<(out.set i _).length),wv,wv,hI];have h3:a[i]=a.getD i 0:=by rw[dQ,jP hi];rfl
 have h5:(out.set i ((r*4294967296+a.getD i 0) / d)).drop (i+1)=out.drop (i+1):=by rw[List.drop_set_of_lt (by omega)]
 rw[h3,h5];have h6:(out.set i ((r*4294967296+a.getD i 0) / d))[i]'(by simp;omega)=(r*4294967296+a.getD i 0) / d:=by simp
 rw[h6];clear h5 h6 h3;have h4:=Nat.div_add_mod (r*4294967296+a.getD i 0) d;generalize (r*4294967296+a.getD i 0) / d=q at *;generalize (r*4294967296+a.getD i 0) % d=t at *;grind
end
section
theorem G3(h:wv l<BB k):Zf l k:=by
 intro j hj;refine Classical.byContradiction fun cK=>?_;have pQ:j<l.length:=Classical.byContradiction fun hn=>cK (v_ (by omega));have h1:wv (l.take (j+1))<=wv l:=by rw[qB l (j+1) (by omega)];omega
 rw[b_] at h1;have h2:1*BB j<=l.getD j 0*BB j:=Nat.mul_le_mul_right _ (by omega);have h3:=K6 hj;omega
theorem aAP(h:Zf l k):wv (l.drop k)=0:=by
 have e:l.drop k=List.replicate (l.length-k) 0:=by
  apply List.ext_getElem?;intro i;rw[List.getElem?_drop,List.getElem?_replicate];split
  ·rename_i hi
   have:=h (k+i) (by omega);rw[dQ,jP (by omega)] at this;rw[jP (by omega)];simpa using this
  ·rw[List.getElem?_eq_none (by omega)]
 rw[e,lW]
theorem qW(h:Zf l k)(hk:k<=l.length):wv l=wv (l.take k):=by
 rw[qB l k hk,aAP h,Nat.mul_zero,Nat.add_zero]
theorem aCQ(hd:Wd l)(h:Zf l k)(hk:k<=l.length):wv l<BB k:=by
 rw[qW h hk];have:=xL (hd.take k);rwa[kC,Nat.min_eq_left hk] at this
theorem aA8(ha:Wd a)(hs:s<=31)(hi:i<out.length)(hz:Zf out i)(hc:c<2^s)(hI:wv out+c*BB i=wv (a.take i)*2^s):c+a.getD i 0*2^s<18446744073709551616/\(c+a.getD i 0*2^s) / 4294967296<2^s/\wv (out.set i ((c+a.getD i 0*2^s) % 4294967296))+(c+a.getD i 0*2^s) / 4294967296*BB (i+1)=wv (a.take (i+1))*2^s:=by
 have h1:=ha.getD i;rw[vS hz hi,b_,dL];generalize a.getD i 0=x at *;have hp:0<2^s:=Nat.pow_pos (by decide);have K_:2^s<=2147483648:=Nat.pow_le_pow_right (by decide) hs;generalize 2^s=p at *;have h2:x*p+p<=4294967296*p:=by
  have:(x+1)*p<=4294967296*p:=Nat.mul_le_mul_right _ h1;rwa[Nat.add_mul,Nat.one_mul] at this
 have h3:c+x*p<p*4294967296:=by omega
 refine⟨by omega,(Nat.div_lt_iff_lt_mul (by decide)).2 h3,?_⟩;have h4:=Nat.div_add_mod (c+x*p) 4294967296;generalize hq:(c+x*p) / 4294967296=q at *;generalize (c+x*p) % 4294967296=r at *;clear h3 h2 K_;grind
theorem aAZ(hn:2<=n)(hl:n<=l.length)(hz:Zf l n):wv l=wv (l.take (n-2))+l.getD (n-2) 0*BB (n-2)+l.getD (n-1) 0*BB (n-1):=by
 rw[qW hz hl];obtain⟨k,rfl⟩:∃k,n=k+2:=⟨n-2,by omega⟩;rw[show k+2-2=k from by omega,show k+2-1=k+1 from by omega,b_,b_]
theorem FO(hn:1<=n)(hl:n<=l.length)(hz:Zf l n):wv l=wv (l.take (n-1))+l.getD (n-1) 0*BB (n-1):=by
 rw[qW hz hl];obtain⟨k,rfl⟩:∃k,n=k+1:=⟨n-1,by omega⟩;rw[show k+1-1=k from by omega,b_]
theorem lY(h:Wd l)(hk:k<=l.length):wv (l.take k)<BB k:=by
 have:=xL (h.take k);rwa[kC,Nat.min_eq_left hk] at this
structure eZ (u v:List Nat) (n j:Nat):Prop where
 n2:2<=n
 vl:v.length=n
 vd:Wd v
 v1:2147483648<=v.getD (n-1) 0
 ul:j+n<u.length
 ud:Wd u
 lt:wv u<wv v*BB (j+1)
namespace eZ
variable {L : List Oper} {a b l out ps q u u0 v : List Nat} {bo : Int} {c ca d g i j k m n r s x : Nat} {o : Oper} {ops : Array Oper} {w w' : World}
variable {u v:List Nat} {n j:Nat}
theorem vz(H:eZ u v n j):Zf v n:=fun k hk=>v_ (by rw[H.vl];exact hk)
theorem vlt(H:eZ u v n j):wv v<BB n:=by have:=xL H.vd;rwa[H.vl] at this
theorem uz(H:eZ u v n j):Zf u (j+n+1):=by
 refine G3 (jJ H.lt ?_);rw[show j+n+1=n+(j+1) from by omega,tM n (j+1)];exact Nat.mul_le_mul_right _ (qY H.vlt)
def tp(u:List Nat)(n j:Nat):Nat:=u.getD (j+n) 0*4294967296+u.getD (j+n-1) 0
theorem uval(H:eZ u v n j):∃lo,lo<BB (j+n-2)/\wv u=lo+(tp u n j*4294967296+u.getD (j+n-2) 0)*BB (j+n-2):=by
 have h2:=H.n2;have hul:=H.ul;refine⟨wv (u.take (j+n-2)),lY H.ud (by omega),?_⟩;have h:=qW H.uz (by omega);obtain⟨k,hk⟩:∃k,j+n=k+2:=⟨j+n-2,by omega⟩;rw[hk] at h ⊢;rw[h,b_,b_,b_];unfold tp;rw[hk,show k+2-2=k from by omega,show k+2-1=k+1 from by omega,show BB (k+2)=BB k*4294967296*4294967296 from by rw[dL,dL],dL];clear h hul hk h2 H;generalize u.getD (k+2) 0=x;generalize u.getD (k+1) 0=y;generalize u.getD k 0=z;generalize BB k=P;grind
theorem vval(H:eZ u v n j):∃lo,lo<BB (n-2)/\wv v=lo+(v.getD (n-1) 0*4294967296+v.getD (n-2) 0)*BB (n-2):=by
 have h2:=H.n2;refine⟨wv (v.take (n-2)),lY H.vd (by rw[H.vl];omega),?_⟩;have h:=aAZ h2 (by rw[H.vl];exact lR) H.vz;rw[show BB (n-1)=BB (n-2)*4294967296 from by rw[<-dL];congr 1;omega] at h;rw[h];clear h h2 H;generalize v.getD (n-1) 0=x;generalize v.getD (n-2) 0=y;generalize BB (n-2)=P;grind
theorem bb(H:eZ u v n j):BB (j+n-2)=BB j*BB (n-2):=by rw[<-tM];congr 1;have:=H.n2;omega
theorem top_lt(H:eZ u v n j):tp u n j<(v.getD (n-1) 0+1)*4294967296:=by
 obtain⟨lo,h1,h2⟩:=H.uval;obtain⟨lv,g1,g2⟩:=H.vval;have aR:=H.lt;have jG:=H.vd.getD (n-2);rw[h2,g2,H.bb,dL] at aR;have hp:=GP (n-2);have hq:=GP j;generalize tp u n j=t at *;generalize v.getD (n-1) 0=x at *;generalize v.getD (n-2) 0=y at *;generalize u.getD (j+n-2) 0=z at *;generalize BB (n-2)=P at *;generalize BB j=Q at *;refine Nat.lt_of_not_le fun hn=>?_;have e1:(x+1)*4294967296*4294967296*(Q*P)<=t*4294967296*(Q*P):=Nat.mul_le_mul_right _ (Nat.mul_le_mul_right _ hn);have e2:(lv+(x*4294967296+y)*P)*(Q*4294967296)<=((x*4294967296+y)*P+P)*(Q*4294967296):=Nat.mul_le_mul_right _ (by omega);have e3:((x*4294967296+y+1)*P)*(Q*4294967296)<=((x+1)*4294967296)*P*(Q*4294967296):=Nat.mul_le_mul_right _ (Nat.mul_le_mul_right _ (by omega));have e4:((x*4294967296+y)*P+P)=(x*4294967296+y+1)*P:=by grind
 rw[e4] at e2;have e5:((x+1)*4294967296)*P*(Q*4294967296)=(x+1)*4294967296*4294967296*(Q*P):=by grind
 rw[e5] at e3;have e6:(t*4294967296+z)*(Q*P)=t*4294967296*(Q*P)+z*(Q*P):=by grind
 rw[e6] at aR;omega
end eZ
structure K4 (u v:List Nat) (n j g rest:Nat):Prop where
 eq:g*v.getD (n-1) 0+rest=eZ.tp u n j
 up:wv u<(g+1)*(wv v*BB j)
theorem JM(H:eZ u v n j):K4 u v n j (eZ.tp u n j / v.getD (n-1) 0) (eZ.tp u n j % v.getD (n-1) 0):=by
 have lD:=H.v1;refine⟨by rw[Nat.mul_comm];exact Nat.div_add_mod _ _,?_⟩;obtain⟨lo,h1,h2⟩:=H.uval;obtain⟨lv,g1,g2⟩:=H.vval;have hz:=H.ud.getD (j+n-2);have ht:=Nat.lt_mul_div_succ (eZ.tp u n j) (show 0<v.getD (n-1) 0 from by omega);rw[h2,g2];rw[H.bb] at h1 ⊢;generalize eZ.tp u n j / v.getD (n-1) 0=g at *;generalize eZ.tp u n j=t at *;generalize v.getD (n-1) 0=x at *;generalize v.getD (n-2) 0=y at *;generalize u.getD (j+n-2) 0=z at *;generalize BB (n-2)=P at *;generalize BB j=Q at *;have e1:(t+1)*4294967296*(Q*P)<=(x*(g+1))*4294967296*(Q*P):=Nat.mul_le_mul_right _ (Nat.mul_le_mul_right _ ht);have e2:(z+1)*(Q*P)<=4294967296*(Q*P):=Nat.mul_le_mul_right _ hz;have e3:(g+1)*((x*4294967296)*P*Q)<=(g+1)*((lv+(x*4294967296+y)*P)*Q):=by
  refine Nat.mul_le_mul_left _ (Nat.mul_le_mul_right _ ?_);have:x*4294967296*P<=(x*4294967296+y)*P:=Nat.mul_le_mul_right _ (Nat.le_add_right _ _);exact eN this (Nat.le_add_left _ _)
 have e4:(g+1)*((x*4294967296)*P*Q)=(x*(g+1))*4294967296*(Q*P):=by grind
 have e5:(t+1)*4294967296*(Q*P)=t*4294967296*(Q*P)+4294967296*(Q*P):=by grind
 have e6:(z+1)*(Q*P)=z*(Q*P)+Q*P:=by grind
 have e7:(t*4294967296+z)*(Q*P)=t*4294967296*(Q*P)+z*(Q*P):=by grind
 rw[e4] at e3;rw[e5] at e1;rw[e6] at e2;rw[e7];omega
theorem BH{rest:Nat}(H:eZ u v n j)(G:K4 u v n j g rest)(ht:4294967296<=g\/rest*4294967296+u.getD (j+n-2) 0<g*v.getD (n-2) 0):1<=g/\K4 u v n j (g-1) (rest+v.getD (n-1) 0):=by
 have hg:1<=g:=by
  rcases ht with h | h
  ·omega
  ·refine Nat.one_le_iff_ne_zero.2 fun e=>?_
   rw[e,Nat.zero_mul] at h;omega
 obtain⟨k,rfl⟩:∃k,g=k+1:=⟨g-1,by omega⟩;refine⟨hg,?_,?_⟩
 ·have:=G.eq
  rw[show k+1-1=k from by omega,<-this];grind
 ·rw[show k+1-1=k from by omega]
  rcases ht with h | h
  ·refine jJ H.lt ?_
   have e:wv v*BB (j+1)=4294967296*(wv v*BB j):=by rw[dL,<-Nat.mul_assoc,Nat.mul_comm]
   rw[e];generalize wv v*BB j=X;exact Nat.mul_le_mul_right X h
  ·obtain⟨lo,h1,h2⟩:=H.uval
   obtain⟨lv,g1,g2⟩:=H.vval;have EG:=G.eq;rw[h2,g2];rw[H.bb] at h1 ⊢;generalize eZ.tp u n j=t at *;generalize v.getD (n-1) 0=x at *;generalize v.getD (n-2) 0=y at *;generalize u.getD (j+n-2) 0=z at *;generalize BB (n-2)=P at *;generalize BB j=Q at *;have e1:t*4294967296+z+1<=(k+1)*(x*4294967296+y):=by
    rw[<-EG];have:(k+1)*(x*4294967296+y)=(k+1)*x*4294967296+(k+1)*y:=by grind
    omega
   have e2:(t*4294967296+z+1)*(Q*P)<=(k+1)*(x*4294967296+y)*(Q*P):=Nat.mul_le_mul_right _ e1;have e3:(k+1)*((x*4294967296+y)*P*Q)<=(k+1)*((lv+(x*4294967296+y)*P)*Q):=Nat.mul_le_mul_left _ (Nat.mul_le_mul_right _ (Nat.le_add_left _ _));have e4:(k+1)*((x*4294967296+y)*P*Q)=(k+1)*(x*4294967296+y)*(Q*P):=by grind
   have e5:(t*4294967296+z+1)*(Q*P)=(t*4294967296+z)*(Q*P)+Q*P:=by grind
   rw[e4] at e3;rw[e5] at e2;omega
structure rO (u v:List Nat) (j g:Nat):Prop where
 lt:g<4294967296
 up:wv u<(g+1)*(wv v*BB j)
 lo:g*(wv v*BB j)<=wv u+wv v*BB j
theorem xC{rest:Nat}(H:eZ u v n j)(G:K4 u v n j g rest)(ht:(g<4294967296/\g*v.getD (n-2) 0<=rest*4294967296+u.getD (j+n-2) 0)\/4294967296<=rest):rO u v j g:=by
 have lD:=H.v1;have aR:g<4294967296:=by
  rcases ht with h | h
  ·exact h.1
  ·have h1:=H.top_lt
   rw[<-G.eq] at h1;refine Nat.lt_of_not_le fun hn=>?_;have:4294967296*v.getD (n-1) 0<=g*v.getD (n-1) 0:=Nat.mul_le_mul_right _ hn;omega
 have jG:=H.vd.getD (n-2);have FW:g*v.getD (n-2) 0<=rest*4294967296+u.getD (j+n-2) 0:=by
  rcases ht with h | h
  ·exact h.2
  ·have:g*v.getD (n-2) 0<=4294967296*4294967296:=Nat.mul_le_mul (by omega) (by omega)
   omega
 refine⟨aR,G.up,?_⟩;obtain⟨lo,h1,h2⟩:=H.uval;obtain⟨lv,g1,g2⟩:=H.vval;have EG:=G.eq;rw[h2,g2];rw[H.bb] at h1 ⊢;generalize eZ.tp u n j=t at *;generalize v.getD (n-1) 0=x at *;generalize v.getD (n-2) 0=y at *;generalize u.getD (j+n-2) 0=z at *;generalize BB (n-2)=P at *;generalize BB j=Q at *;have e1:g*(x*4294967296+y)<=t*4294967296+z:=by
  rw[<-EG];have:g*(x*4294967296+y)=g*x*4294967296+g*y:=by grind
  omega
 have e2:g*(x*4294967296+y)*(Q*P)<=(t*4294967296+z)*(Q*P):=Nat.mul_le_mul_right _ e1;have e3:g*(lv*Q)<=g*(P*Q):=Nat.mul_le_mul_left _ (Nat.mul_le_mul_right _ (by omega));have e4:g*(P*Q)<=4294967296*(P*Q):=Nat.mul_le_mul_right _ (by omega);have e5:4294967296*(P*Q)<=(x*4294967296+y)*(P*Q):=Nat.mul_le_mul_right _ (by omega);have e6:(lv+(x*4294967296+y)*P)*Q=lv*Q+(x*4294967296+y)*(P*Q):=by grind
 have e7:g*(lv*Q+(x*4294967296+y)*(P*Q))=g*(lv*Q)+g*(x*4294967296+y)*(Q*P):=by grind
 rw[e6,e7];omega
structure SU (u0 u v:List Nat) (n j i g:Nat) (bo:Int) (ca:Nat):Prop where
 ud:Wd u
 ul:u.length=u0.length
 uz:Zf u (j+n+1)
 b1:-1<=bo
 b2:bo<=0
 c1:ca<4294967296
 eq:(wv u:Int)+(bo-ca)*(BB (j+i):Int)=(wv u0:Int)-(g:Int)*(wv (v.take i):Int)*(BB j:Int)
theorem MJ(H:eZ u v n j):SU u u v n j 0 g 0 0:=
 ⟨H.ud,rfl,H.uz,by decide,by decide,by decide,by simp[wv]⟩
theorem RE(hv:Wd v)(TM:v.length=n)(hl:j+n<u.length)(hg:g<4294967296)(hi:i<n)(M:SU u0 u v n j i g bo ca):ca+g*v.getD i 0<18446744073709551616/\SU u0 (u.set (j+i) ((bo+u.getD (j+i) 0-((ca+g*v.getD i 0) % 4294967296:Nat)) % 4294967296).toNat) v n j (i+1) g ((bo+u.getD (j+i) 0-((ca+g*v.getD i 0) % 4294967296:Nat)) / 4294967296) ((ca+g*v.getD i 0) / 4294967296):=by
 have h1:=hv.getD i;have h2:=M.ud.getD (j+i);have h3:g*v.getD i 0<=4294967295*4294967295:=Nat.mul_le_mul (by omega) (by omega);have h4:=Nat.div_add_mod (ca+g*v.getD i 0) 4294967296;have h5:=Nat.mod_lt (ca+g*v.getD i 0) (show 0<4294967296 by decide);have b1:=M.b1;have b2:=M.b2;have c1:=M.c1;have EG:=M.eq;have MT:=qC u (j+i) ((bo+u.getD (j+i) 0-((ca+g*v.getD i 0) % 4294967296:Nat)) % 4294967296).toNat (by omega);refine⟨by omega,M.ud.set _ (by omega),by rw[jI];exact M.ul,M.uz.set (by omega),by omega,by omega,by omega,?_⟩;rw[<-Nat.add_assoc,dL,b_];have hx:(((bo+u.getD (j+i) 0-((ca+g*v.getD i 0) % 4294967296:Nat)) % 4294967296).toNat:Int)=(bo+u.getD (j+i) 0-((ca+g*v.getD i 0) % 4294967296:Nat)) % 4294967296:=by omega
 have hd:=Int.mul_ediv_add_emod (bo+u.getD (j+i) 0-((ca+g*v.getD i 0) % 4294967296:Nat)) 4294967296;have aHH:=congrArg (fun n:Nat=>(n:Int)) MT;simp only[Int.natCast_add,Int.natCast_mul,hx] at aHH;have h42:=congrArg (fun n:Nat=>(n:Int)) h4;simp only[Int.natCast_add,Int.natCast_mul] at h42;have pY:(BB (j+i):Int)=(BB j:Int)*(BB i:Int):=by rw[tM];exact Int.natCast_mul ..
 simp only[Int.natCast_add,Int.natCast_mul];generalize (wv (u.set (j+i) ((bo+u.getD (j+i) 0-((ca+g*v.getD i 0) % 4294967296:Nat)) % 4294967296).toNat):Int)=W at *;generalize ((bo+u.getD (j+i) 0-((ca+g*v.getD i 0) % 4294967296:Nat)) / 4294967296)=q at *;generalize ((bo+u.getD (j+i) 0-((ca+g*v.getD i 0) % 4294967296:Nat)) % 4294967296)=r at *;generalize (ca+g*v.getD i 0) / 4294967296=t at *;generalize (ca+g*v.getD i 0) % 4294967296=s at *;clear h1 h2 h3 h4 h5 b1 b2 c1 MT hx M;generalize (v.getD i 0)=y at *;generalize (u.getD (j+i) 0)=x at *;generalize (BB (j+i):Int)=P at *;have k1:W=(wv u:Int)+(r-x)*P:=by grind
 have k2:(q:Int)*(P*4294967296)=(bo+x-s-r)*P:=by grind
 have k3:(t:Int)*(P*4294967296)=(ca+g*y-s)*P:=by grind
 have k4:(g:Int)*(wv (v.take i)+y*BB i)*BB j=g*wv (v.take i)*BB j+g*y*P:=by rw[pY];grind
 rw[k4];grind
theorem WH(H:eZ u0 v n j)(G:rO u0 v j g)(M:SU u0 u v n j n g bo ca):(0<=bo+u.getD (j+n) 0-ca->bo+u.getD (j+n) 0-ca<4294967296/\wv (u.set (j+n) (bo+u.getD (j+n) 0-ca).toNat)+g*(wv v*BB j)=wv u0)/\
    (bo+u.getD (j+n) 0-ca<0->-4294967296<=bo+u.getD (j+n) 0-ca/\wv (u.set (j+n) (bo+u.getD (j+n) 0-ca+4294967296).toNat)+g*(wv v*BB j)=wv u0+BB (j+n+1)/\wv u0<g*(wv v*BB j)):=by
 have h2:=M.ud.getD (j+n);have b1:=M.b1;have b2:=M.b2;have c1:=M.c1;have EG:=M.eq;have hul:=H.ul;have huz:=M.uz;have hud:=M.ud;have d5:=M.ul;rw[oP (by rw[H.vl];exact lR)] at EG;have hgv:((g*(wv v*BB j):Nat):Int)=(g:Int)*(wv v:Int)*(BB j:Int):=by simp only[Int.natCast_mul];grind
 rw[<-hgv] at EG;have MT:=fun x=>qC u (j+n) x (by omega);have hP:(BB (j+n+1):Int)=(BB (j+n):Int)*4294967296:=by rw[dL];exact Int.natCast_mul ..
 refine⟨fun h0=>⟨by omega,?_⟩,fun h0=>⟨by omega,?_⟩⟩
 ·have hs:=congrArg (fun n:Nat=>(n:Int)) (MT (bo+u.getD (j+n) 0-ca).toNat)
  have hx:((bo+u.getD (j+n) 0-ca).toNat:Int)=bo+u.getD (j+n) 0-ca:=by omega
  simp only[Int.natCast_add,Int.natCast_mul,hx] at hs;have k:((wv (u.set (j+n) (bo+u.getD (j+n) 0-ca).toNat):Nat):Int)+((g*(wv v*BB j):Nat):Int)=(wv u0:Int):=by
   generalize (wv (u.set (j+n) (bo+u.getD (j+n) 0-ca).toNat):Int)=W at *;generalize ((g*(wv v*BB j):Nat):Int)=D at *;generalize u.getD (j+n) 0=x at *;generalize (BB (j+n):Int)=P at *;grind
  omega
 ·have hs:=congrArg (fun n:Nat=>(n:Int)) (MT (bo+u.getD (j+n) 0-ca+4294967296).toNat)
  have hx:((bo+u.getD (j+n) 0-ca+4294967296).toNat:Int)=bo+u.getD (j+n) 0-ca+4294967296:=by omega
  simp only[Int.natCast_add,Int.natCast_mul,hx] at hs;have k:((wv (u.set (j+n) (bo+u.getD (j+n) 0-ca+4294967296).toNat):Nat):Int)+((g*(wv v*BB j):Nat):Int)=(wv u0:Int)+(BB (j+n+1):Int):=by
   rw[hP];generalize (wv (u.set (j+n) (bo+u.getD (j+n) 0-ca+4294967296).toNat):Int)=W at *;generalize ((g*(wv v*BB j):Nat):Int)=D at *;generalize u.getD (j+n) 0=x at *;generalize (BB (j+n):Int)=P at *;grind
  have aR:wv (u.set (j+n) (bo+u.getD (j+n) 0-ca+4294967296).toNat)<BB (j+n+1):=
   aCQ (hud.set _ (by omega)) (huz.set (by omega)) (by rw[jI];omega)
  exact⟨by omega,by omega⟩
structure TI (u0 u v:List Nat) (n j i c:Nat):Prop where
 ud:Wd u
 ul:u.length=u0.length
 uz:Zf u (j+n+1)
 c1:c<=1
 eq:wv u+c*BB (j+i)=wv u0+wv (v.take i)*BB j
theorem NR{us ux:List Nat}(M:SU us ux v n j i g bo ca)(hx:x<4294967296):TI (ux.set (j+n) x) (ux.set (j+n) x) v n j 0 0:=
 ⟨M.ud.set _ hx,rfl,M.uz.set (by omega),by decide,by rw[List.take_zero,Nat.zero_mul,wv,Nat.zero_mul]⟩
theorem CW{a X:Nat}(h:a<g*X):1<=g:=by
 rcases Nat.eq_zero_or_pos g with rfl | h2
 ·rw[Nat.zero_mul] at h;omega
 ·exact h2
theorem WD{bot:Int}(h1:-4294967296<=bot)(h2:bot<0):bot % 4294967296=((bot+4294967296).toNat:Int)/\(bot+4294967296).toNat<4294967296:=by omega
theorem ST(hv:Wd v)(hl:j+n<u.length)(hi:i<n)(M:TI u0 u v n j i c):TI u0 (u.set (j+i) ((c+u.getD (j+i) 0+v.getD i 0) % 4294967296)) v n j (i+1) ((c+u.getD (j+i) 0+v.getD i 0) / 4294967296):=by
 have h1:=hv.getD i;have h2:=M.ud.getD (j+i);have c1:=M.c1;have EG:=M.eq;have MT:=qC u (j+i) ((c+u.getD (j+i) 0+v.getD i 0) % 4294967296) (by omega);refine⟨M.ud.set _ (by omega),by rw[jI];exact M.ul,M.uz.set (by omega),by omega,?_⟩;have h4:=Nat.div_add_mod (c+u.getD (j+i) 0+v.getD i 0) 4294967296;rw[<-Nat.add_assoc,dL,b_];have pY:BB (j+i)=BB j*BB i:=tM ..;generalize wv (u.set (j+i) ((c+u.getD (j+i) 0+v.getD i 0) % 4294967296))=W at *;generalize (c+u.getD (j+i) 0+v.getD i 0) / 4294967296=q at *;generalize (c+u.getD (j+i) 0+v.getD i 0) % 4294967296=r at *;generalize u.getD (j+i) 0=x at *;generalize v.getD i 0=y at *;have k:(4294967296*q+r)*BB (j+i)=(c+x+y)*BB (j+i):=by rw[h4]
 have k2:(wv (v.take i)+y*BB i)*BB j=wv (v.take i)*BB j+y*BB (j+i):=by rw[pY];grind
 rw[k2];generalize BB (j+i)=P at *;have k3:(4294967296*q+r)*P=q*(P*4294967296)+r*P:=by grind
 have k4:(c+x+y)*P=c*P+x*P+y*P:=by grind
 omega
theorem ZP{uu:List Nat}(H:eZ uu v n j)(G:rO uu v j g)(hl:u0.length=uu.length)(h0:wv u0+g*(wv v*BB j)=wv uu+BB (j+n+1))(pO:wv uu<g*(wv v*BB j))(M:TI u0 u v n j n c):wv (u.set (j+n) ((u.getD (j+n) 0+c) % 4294967296))+(g-1)*(wv v*BB j)=wv uu/\1<=g:=by
 have hg:1<=g:=Nat.one_le_iff_ne_zero.2 fun e=>by rw[e,Nat.zero_mul] at pO;omega
 refine⟨?_,hg⟩;have h2:=M.ud.getD (j+n);have c1:=M.c1;have EG:=M.eq;have hul:=H.ul;have hml:=M.ul;have hud:=M.ud;have huz:=M.uz;rw[oP (by rw[H.vl];exact lR)] at EG;have MT:=qC u (j+n) ((u.getD (j+n) 0+c) % 4294967296) (by omega);have aR:wv (u.set (j+n) ((u.getD (j+n) 0+c) % 4294967296))<BB (j+n+1):=aCQ (hud.set _ (by omega)) (huz.set (by omega)) (by rw[jI];omega);have hlo:=G.lo;rw[dL] at h0 aR;obtain⟨k,rfl⟩:∃k,g=k+1:=⟨g-1,by omega⟩;rw[show k+1-1=k from by omega];rw[Nat.add_mul,Nat.one_mul] at *;have h4:=Nat.div_add_mod (u.getD (j+n) 0+c) 4294967296;have hq:(u.getD (j+n) 0+c) / 4294967296<=1:=by omega
 generalize wv (u.set (j+n) ((u.getD (j+n) 0+c) % 4294967296))=W at *;generalize (u.getD (j+n) 0+c) / 4294967296=q at *;generalize (u.getD (j+n) 0+c) % 4294967296=r at *;generalize u.getD (j+n) 0=x at *;generalize BB (j+n)=P at *;have k1:(4294967296*q+r)*P=(x+c)*P:=by rw[h4]
 have k3:(4294967296*q+r)*P=q*(P*4294967296)+r*P:=by grind
 have k4:(x+c)*P=x*P+c*P:=by grind
 generalize wv v*BB j=VB at *;generalize k*VB=KB at *;rcases(by omega:q=0\/q=1) with rfl | rfl<;>omega
structure B6 (a2:Nat) (u v q:List Nat) (n j:Nat):Prop where
 ud:Wd u
 qd:Wd q
 eq:wv u+wv v*wv q=a2
 lt:wv u<wv v*BB j
 qz:∀i,i<j->q.getD i 0=0
theorem UX{a2:Nat}(S:B6 a2 u v q n (j+1))(n2:2<=n)(vl:v.length=n)(vd:Wd v)(v1:2147483648<=v.getD (n-1) 0)(ul:j+n<u.length):eZ u v n j:=
 ⟨n2,vl,vd,v1,ul,S.ud,S.lt⟩
theorem LU{a2:Nat}{u':List Nat}(S:B6 a2 u v q n (j+1))(hq:j<q.length)(hd:Wd u')(hg:g<4294967296)(EG:wv u'+g*(wv v*BB j)=wv u)(aR:wv u<(g+1)*(wv v*BB j)):B6 a2 u' v (q.set j g) n j:=by
 refine⟨hd,S.qd.set _ hg,?_,?_,fun i hi=>by rw[sK (by omega)];exact S.qz i (by omega)⟩
 ·have h:=qC q j g hq
  rw[S.qz j (by omega),Nat.zero_mul,Nat.add_zero] at h;rw[h,<-S.eq,<-EG];grind
 ·rw[Nat.add_mul,Nat.one_mul] at aR
  omega
theorem YX{n:Nat}(G:rO u v j g)(h1:1<=g)(pO:wv u<g*(wv v*BB j)):wv u<(g-1+1)*(wv v*BB j):=by rw[Nat.sub_add_cancel h1];exact pO
theorem ZO{uu:List Nat}{L:Nat}(H:eZ uu v n j)(G:rO uu v j g)(hl:u0.length=uu.length)(h0:wv u0+g*(wv v*BB j)=wv uu+BB (j+n+1))(pO:wv uu<g*(wv v*BB j))(M:TI u0 u v n j n c)(hx:u.getD (j+n) 0=x)(hL:u.length=L):((u.set (j+n) ((x+c) % 4294967296)).length=L/\Wd (u.set (j+n) ((x+c) % 4294967296)))/\wv (u.set (j+n) ((x+c) % 4294967296))+(g-1)*(wv v*BB j)=wv uu/\wv uu<(g-1+1)*(wv v*BB j):=by
 subst hx;have h:=ZP H G hl h0 pO M;exact⟨⟨by rw[jI];exact hL,M.ud.set _ (Nat.mod_lt _ (by decide))⟩,h.1,YX (n:=0) G h.2 pO⟩
theorem NS{r:List Nat}(hd:Wd u)(hs:s<=31)(hi:i<n)(hr:i<r.length)(hu:n<u.length)(hz:Zf r i)(hI:wv r=wv u / 2^s % BB i):u.getD (i+1) 0*4294967296+u.getD i 0<18446744073709551616/\wv (r.set i ((u.getD (i+1) 0*4294967296+u.getD i 0) / 2^s % 4294967296))=wv u / 2^s % BB (i+1):=by
 have h1:=hd.getD i;have h2:=hd.getD (i+1);refine⟨by omega,?_⟩;rw[vS hz hr,hI,dL,Nat.mod_mul];congr 1
 rw[Nat.mul_comm (BB i)];congr 1
 have h3:wv u / 2^s / BB i=wv (u.drop i) / 2^s:=by
  rw[Nat.div_div_eq_div_mul,Nat.mul_comm,<-Nat.div_div_eq_div_mul];congr 1
  rw[qB u i (by omega),Nat.add_mul_div_left _ _ (GP i),Nat.div_eq_of_lt (lY hd (by omega)),Nat.zero_add]
 rw[h3];have h4:wv (u.drop i)=u.getD (i+1) 0*4294967296+u.getD i 0+18446744073709551616*wv (u.drop (i+2)):=by
  have e1:i<u.length:=by omega
  have e2:i+1<u.length:=by omega
  rw[List.drop_eq_getElem_cons e1,List.drop_eq_getElem_cons e2,wv,wv];rw[dQ,jP e2,dQ,jP e1];simp only[Option.getD_some];rw[show i+1+1=i+2 from rfl];omega
 have h5:18446744073709551616=2^s*(4294967296*2^(32-s)):=by
  rw[show 4294967296=2^32 from rfl,Nat.mul_left_comm,<-Nat.pow_add,show s+(32-s)=32 from by omega]
 rw[h4,h5,Nat.mul_assoc (2^s),Nat.add_mul_div_left _ _ (Nat.pow_pos (by decide)),Nat.mul_assoc 4294967296,Nat.add_mul_mod_self_left]
theorem YU{A B:Nat}(S:B6 (A*2^s) u v q n 0)(hv:wv v=B*2^s)(hB:0<B):wv q=A / B/\wv u / 2^s=A % B/\wv u / 2^s<B:=by
 have EG:=S.eq;have aR:=S.lt;rw[rP,Nat.mul_one] at aR;rw[hv] at EG aR;have hp:0<2^s:=Nat.pow_pos (by decide);generalize 2^s=p at *;have h1:p∣wv u:=by
  have h:p∣B*p*wv q:=⟨B*wv q,by grind⟩;have h2:p∣wv u+B*p*wv q:=by rw[EG];exact⟨A,Nat.mul_comm _ _⟩
  exact(Nat.dvd_add_iff_left h).2 h2
 obtain⟨r,hr⟩:=h1;rw[hr] at EG aR;have h2:r<B:=by
  rw[Nat.mul_comm] at aR;exact Nat.lt_of_mul_lt_mul_right aR
 have h3:r+B*wv q=A:=by
  have:p*(r+B*wv q)=p*A:=by rw[Nat.mul_comm p A,<-EG];grind
  exact Nat.eq_of_mul_eq_mul_left hp this
 rw[hr,Nat.mul_div_cancel_left _ hp];refine⟨?_,?_,h2⟩
 ·rw[<-h3,Nat.add_mul_div_left _ _ hB,Nat.div_eq_of_lt h2,Nat.zero_add]
 ·rw[<-h3,Nat.add_mul_mod_self_left,Nat.mod_eq_of_lt h2]
theorem WB{w:List Nat}(hn:1<=n)(hb:Wd b)(hl:b.length=n)(hw:Wd w)(hwl:w.length=n+1)(hI:wv w=wv b*2^s)(h1:2147483648<=b.getD (n-1) 0*2^s)(h2:b.getD (n-1) 0*2^s<4294967296)(hs:s<=31):wv (w.take n)=wv b*2^s/\2147483648<=(w.take n).getD (n-1) 0:=by
 have e1:=FO hn (by omega) (fun k hk=>v_ (by omega):Zf b n);have e2:=lY hb (show n-1<=b.length by omega);have aMW:(2:Nat)^s∣4294967296:=⟨2^(32-s),by rw[<-Nat.pow_add,show s+(32-s)=32 from by omega]⟩;have hp:0<2^s:=Nat.pow_pos (by decide);generalize 2^s=p at *;have e3:(b.getD (n-1) 0+1)*p<=4294967296:=by
  obtain⟨d,hd⟩:=aMW;rw[hd,Nat.mul_comm p d] at h2 ⊢;have:=Nat.lt_of_mul_lt_mul_right h2;exact Nat.mul_le_mul_right _ this
 have hBn:BB n=BB (n-1)*4294967296:=by rw[<-dL];congr 1;omega
 have e4:wv b*p<BB n:=by
  rw[e1,hBn];have:(wv (b.take (n-1))+b.getD (n-1) 0*BB (n-1))*p<(BB (n-1)+b.getD (n-1) 0*BB (n-1))*p:=Nat.mul_lt_mul_of_pos_right (by omega) hp;have e5:(BB (n-1)+b.getD (n-1) 0*BB (n-1))*p=BB (n-1)*((b.getD (n-1) 0+1)*p):=by grind
  have e6:BB (n-1)*((b.getD (n-1) 0+1)*p)<=BB (n-1)*4294967296:=Nat.mul_le_mul_left _ e3;omega
 have hz:Zf w n:=G3 (by rw[hI];exact e4);have hv:wv (w.take n)=wv b*p:=by rw[<-qW hz (by omega),hI]
 refine⟨hv,?_⟩;have hg:(w.take n).getD (n-1) 0=w.getD (n-1) 0:=by
  rw[dQ,List.getElem?_take_of_lt (by omega),dQ]
 rw[hg];have e7:=FO hn (by omega) hz;have e8:=lY hw (show n-1<=w.length by omega);rw[hI,e1] at e7;refine Nat.le_of_not_lt fun aR=>?_;have k1:(w.getD (n-1) 0+1)*BB (n-1)<=2147483648*BB (n-1):=Nat.mul_le_mul_right _ aR;have k2:2147483648*BB (n-1)<=b.getD (n-1) 0*p*BB (n-1):=Nat.mul_le_mul_right _ h1;have k3:(wv (b.take (n-1))+b.getD (n-1) 0*BB (n-1))*p=wv (b.take (n-1))*p+b.getD (n-1) 0*p*BB (n-1):=by grind
 rw[k3] at e7;rw[Nat.add_mul,Nat.one_mul] at k1;omega
theorem IF{A:Nat}(hA:wv a=A)(ha:Wd a)(DB:a.length=m+n)(hn:1<=n)(hud:Wd u)(hqd:Wd q)(hu:wv u=A*2^s)(hs:s<=31)(vl:v.length=n)(v1:2147483648<=v.getD (n-1) 0)(hq:Zf q 0):B6 (A*2^s) u v q n (m+1):=by
 have hq0:wv q=0:=by have:=qW hq (Nat.zero_le _);rw[this];rfl
 refine⟨hud,hqd,by rw[hq0,hu];omega,?_,fun i _=>hq i (Nat.zero_le _)⟩;rw[hu,<-hA];have h1:=xL ha;rw[DB] at h1;have h2:=FO hn (by omega) (fun k hk=>v_ (by omega):Zf v n);have h3:2147483648*BB (n-1)<=wv v:=by
  have:2147483648*BB (n-1)<=v.getD (n-1) 0*BB (n-1):=Nat.mul_le_mul_right _ v1;omega
 have K_:2^s<=2147483648:=Nat.pow_le_pow_right (by decide) hs;have h4:wv a*2^s<BB (m+n)*2147483648:=Nat.mul_lt_mul_of_lt_of_le h1 K_ (by decide);have h5:2147483648*BB (n-1)*BB (m+1)<=wv v*BB (m+1):=Nat.mul_le_mul_right _ h3;have h6:BB (m+n)=BB (n-1)*BB (m+1):=by rw[<-tM];congr 1;omega
 rw[h6] at h4;have h7:BB (n-1)*BB (m+1)*2147483648=2147483648*BB (n-1)*BB (m+1):=by grind
 omega
end
section
open Go
def mX(md:Region.Mode)(L:List Oper)(n:Nat):Bool:=
 decide (L.length=n+1) &&
 (List.range (n+1)).all (fun j=>match L[j]? with
  | some o=>o.after.all (fun e=>!Region.binds md e || decide (e.on<j)) && (match o.guard with | none=>true | some (g,_)=>decide (g<n))
  | none=>false) &&
 (List.range n).all (fun j=>(List.range (n+1)).any fun k=>decide (j<k) && match L[k]? with
  | some o=>o.after.any (fun e=>Region.binds md e && e.on == j)
  | none=>false)
def hZ(P:Program)(ops:Array Oper)(o:Oper)(Q:Exit->Act->World->Prop):Exit->Act->World->Prop
 | .normal,a,w=>if Region.wanted o (yielded ops a.tmps)=true then Oper.wp P o a w (Q .normal) Q else Q .normal (a.put o.dst undef) w
 | e,a,w=>Q e a w
section
variable {P:Program} {Q:Exit->Act->World->Prop} {md:Region.Mode}
theorem T9{oN:Oper}{a:Act}{K K':Act->World->Prop}(h:∀a w,K a w->K' a w)(hh:o.wp P a w K (hZ P ops oN Q)):o.wp P a w K' Q:=by
 unfold Oper.wp at *;generalize (execOp a.eval o).run P w=r at *;cases r with
 | ok n w'=>
  cases n<;>simp only[Oper.upon] at hh ⊢<;>
   first
    | exact h _ _ hh
    | exact Calls.mono hh (fun e w'' he=>by cases e<;>first | exact h _ _ he | exact he)
    | exact Rows.mono hh (fun _ _ he=>h _ _ he)
 | halt x w'=>cases x<;>simp only[Oper.upon] at hh ⊢<;>exact hh
theorem zV{L F:List Oper}{i:Nat}{oN:Oper}{a:Act}{w:Wo}{K K':Act->World->Prop}(hi:L[i]?=F[i]?)(hg:∀o,F[i]?=some o->∀g b,o.guard=some (g,b)->L[g]?=F[g]?)(h:∀a w,K a w->K' a w)(hh:wpOp P F.toArray (hZ P L.toArray oN Q) i K a w):wpOp P L.toArray Q i K' a w:=by
 unfold wpOp at *;rw[List.getElem?_toArray] at *;rw[hi];cases ho:F[i]? with
 | none=>rw[ho] at hh;exact h _ _ hh
 | some o=>
  rw[ho] at hh;simp only at hh ⊢;have hw:Region.wanted o (yielded L.toArray a.tmps)=Region.wanted o (yielded F.toArray a.tmps):=by
   unfold Region.wanted;cases C4:o.guard with
   | none=>rfl
   | some gb=>
    obtain⟨g,b⟩:=gb;simp only;unfold yielded;rw[List.getElem?_toArray,List.getElem?_toArray,hg o ho g b C4]
  rw[hw];split
  ·rename_i h1
   rw[if_pos h1] at hh;exact hh.imp (T9 h) id
  ·rename_i h1
   rw[if_neg h1] at hh;exact h _ _ hh
theorem iT(h:mX md L n=true):L.length=n+1/\
    (∀j o,L[j]?=some o->(∀e∈o.after,Region.binds md e=true->e.on<j)/\∀g b,o.guard=some (g,b)->g<n)/\
    (∀j,j<n->∃k o e,j<k/\L[k]?=some o/\e∈o.after/\Region.binds md e=true/\e.on=j):=by
 unfold mX at h;simp only[Bool.and_eq_true,decide_eq_true_eq,List.all_eq_true,List.mem_range,List.any_eq_true] at h;obtain⟨⟨h1,h2⟩,h3⟩:=h;refine⟨h1,fun j o ho=>?_,fun j hj=>?_⟩
 ·have hj:j<n+1:=by rw[<-h1];exact(c_.1 ho).1
  have:=h2 j hj;rw[ho] at this;simp only[Bool.and_eq_true,Array.all_eq_true_iff_forall_mem,Bool.or_eq_true,Bool.not_eq_true',decide_eq_true_eq] at this;refine⟨fun e he hb=>(this.1 e he).resolve_left (by simp[hb]),fun g b hg=>?_⟩;have h4:=this.2;rw[hg] at h4;simpa using h4
 ·obtain⟨k,hk,hjk,h4⟩:=h3 j hj
  cases ho:L[k]? with
  | none=>rw[ho] at h4;cases h4
  | some o=>
   rw[ho] at h4;simp only[Array.any_eq_true'] at h4;obtain⟨e,he,h5⟩:=h4;simp only[Bool.and_eq_true,beq_iff_eq] at h5;exact⟨k,o,e,hjk,ho,he,h5.1,h5.2⟩
def jF(md:Region.Mode)(F:List Oper)(listed:Array Bool):Prop:=∀(j:Nat)(o:Oper),F[j]?=some o->listed.getD j false=true->∀e∈o.after,Region.binds md e=true->listed.getD e.on false=true
theorem lE{l:Array Bool}(h:j<l.size):l.getD j true=l.getD j false:=by simp[h]
theorem NT{L:List Oper}{n:Nat}{oN:Oper}{listed:Array Bool}(hs:mX md L n=true)(hN:L[n]?=some oN)(gP:listed.size=n)(hc:jF md (L.take n) listed)(hr:∀e∈oN.after,Region.binds md e=true->(listed.push false).getD e.on false=true):∀d j,j+d=n->0<d->listed.getD j false=true:=by
 obtain⟨h1,h2,h3⟩:=iT hs;intro d
 induction d using Nat.strongRecOn with
 | _ d ih=>
  intro j hj hd;obtain⟨k,o,e,hjk,hk,he,hb,hej⟩:=h3 j (by omega);have hkl:k<n+1:=by rw[<-h1];exact(c_.1 hk).1
  by_cases FX:k=n
  ·subst FX
   rw[hN] at hk;injection hk with hk;subst hk;have:=hr e he hb;rw[hej] at this;rwa[Array.getD_eq_getD_getElem?,Array.getElem?_push_lt (by omega),<-Array.getElem?_eq_getElem (by omega),<-Array.getD_eq_getD_getElem?] at this
  ·have hl:=ih (n-k) (by omega) k (by omega) (by omega)
   have:=hc k o (by rw[List.getElem?_take_of_lt (by omega)];exact hk) hl e he hb;rwa[hej] at this
theorem i_{l:Array Bool}(hi:i<l.size):(l.push false).setIfInBounds i true=(l.setIfInBounds i true).push false:=by
 apply Array.ext
 ·simp
 ·intro j h1 h2
  simp only[Array.size_setIfInBounds,Array.size_push] at h1;rw[Array.getElem_setIfInBounds (by simpa using h1),Array.getElem_push];by_cases rV:i=j
  ·subst rV
   rw[if_pos rfl,Array.getElem_push];simp only[Array.size_setIfInBounds,hi,dif_pos,Array.getElem_setIfInBounds,if_true]
  ·simp only[rV,if_false]
   rw[Array.getElem_push];simp only[Array.size_setIfInBounds];split
   ·rename_i h3
    rw[Array.getElem_setIfInBounds (by simpa using h3),if_neg rV]
   ·rfl
theorem fI{l:Array Bool}(hj:j<l.size)(d:Bool):(l.push false).getD j d=l.getD j d:=by
 rw[Array.getD_eq_getD_getElem?,Array.getElem?_push_lt hj,<-Array.getElem?_eq_getElem hj,<-Array.getD_eq_getD_getElem?]
theorem X_{l:Array Bool}(h:l.getD j false=true):j<l.size:=by
 rcases Nat.lt_or_ge j l.size with h' | h'
 ·exact h'
 ·simp[Array.getElem?_eq_none h'] at h
theorem xT{listed:Array Bool}(hs:mX md L n=true)(gP:listed.size=n)(hi:i<n):i∈Region.ready md L.toArray (listed.push false)<->i∈Region.ready md (L.take n).toArray listed:=by
 obtain⟨h1,h2,h3⟩:=iT hs;rw[mem_ready,mem_ready,List.getElem?_toArray,List.getElem?_toArray,List.getElem?_take_of_lt hi,fI (by omega)];refine and_congr Iff.rfl ⟨?_,?_⟩
 ·rintro⟨o,ho,h⟩
  exact⟨o,ho,fun e he hb=>by rw[<-fI (by have:=(h2 i o ho).1 e he hb;omega)];exact h e he hb⟩
 ·rintro⟨o,ho,h⟩
  exact⟨o,ho,fun e he hb=>by rw[fI (by have:=(h2 i o ho).1 e he hb;omega)];exact h e he hb⟩
theorem BT{F:List Oper}{listed:Array Bool}(hc:jF md F listed)(hr:i∈Region.ready md F.toArray listed):jF md F (listed.setIfInBounds i true):=by
 intro j o ho hj e he hb;by_cases rV:i=j
 ·subst rV
  obtain⟨_,o',ho',xB⟩:=mem_ready.1 hr;rw[List.getElem?_toArray,ho] at ho';injection ho' with ho';subst ho';exact getD_set_true (xB e he hb)
 ·rw[getD_set_ne false rV] at hj
  exact getD_set_true (hc j o ho hj e he hb)
theorem xZ{listed:Array Bool}(h1:L.length=n+1)(gP:listed.size=n)(xB:∀j,j<n->listed.getD j false=true):Region.ready md L.toArray ((listed.push false).setIfInBounds n true)=[]:=by
 rw[List.eq_nil_iff_forall_not_mem];intro j hj;obtain⟨h0,o,ho,_⟩:=mem_ready.1 hj;rw[List.getElem?_toArray] at ho;have pQ:=(c_.1 ho).1;by_cases tP:n=j
 ·subst tP
  simp[gP] at h0
 ·rw[getD_set_ne true tP,fI (by omega),lE (by omega),xB j (by omega)] at h0
  cases h0
theorem gQ{oN:Oper}(hs:mX md L n=true)(hN:L[n]?=some oN):∀(fuel:Nat)(listed:Array Bool)(a:Act)(w:Wo),listed.size=n->jF md (L.take n) listed->
    wpAny P md (L.take n).toArray (hZ P L.toArray oN Q) fuel listed a w->wpAny P md L.toArray Q (fuel+1) (listed.push false) a w:=by
 obtain⟨h1,h2,h3⟩:=iT hs;have key:∀(fuel:Nat)(listed:Array Bool)(a:Act)(w:Wo),listed.size=n->jF md (L.take n) listed->Region.ready md (L.take n).toArray listed=[]->hZ P L.toArray oN Q .normal a w->wpAny P md L.toArray Q (fuel+1) (listed.push false) a w:=by
  intro fuel listed a w gP hc hr hq;have xB:∀m j,j<m->j<n->listed.getD j false=true:=by
   intro m
   induction m with
   | zero=>intro j hj;omega
   | succ m ih=>
    intro j hj tP;cases hl:listed.getD j false with
    | true=>rfl
    | false=>
     exfalso;have pQ:j<L.length:=by omega
     have XO:j∈Region.ready md (L.take n).toArray listed:=by
      rw[mem_ready,List.getElem?_toArray,List.getElem?_take_of_lt tP,lE (by omega),hl];refine⟨rfl,L[j],jP pQ,fun e he hb=>ih _ ?_ ?_⟩
      ·have:=(h2 j _ (jP pQ)).1 e he hb;omega
      ·have:=(h2 j _ (jP pQ)).1 e he hb;omega
     rw[hr] at XO;cases XO
  have BG:=fun j hj=>xB n j hj hj;have hnr:n∈Region.ready md L.toArray (listed.push false):=by
   rw[mem_ready,List.getElem?_toArray];refine⟨by simp[<-gP],oN,hN,fun e he hb=>?_⟩;have:=(h2 n oN hN).1 e he hb;rw[fI (by omega)];exact BG _ this
  refine⟨fun h0=>by rw[h0] at hnr;exact absurd hnr (by simp),fun j hj=>?_⟩;have tP:j=n:=by
   obtain⟨h0,o,ho,_⟩:=mem_ready.1 hj;rw[List.getElem?_toArray] at ho;have pQ:=(c_.1 ho).1;refine Decidable.byContradiction fun cK=>?_;rw[fI (by omega),lE (by omega),BG j (by omega)] at h0;cases h0
  subst tP;unfold wpOp;rw[List.getElem?_toArray,hN];simp only;have hd:=xZ (md:=md) h1 gP BG;unfold hZ at hq;dsimp only at hq;split
  ·rename_i hw
   rw[if_pos hw] at hq;exact .inl (Oper.wp_mono (fun a' w' h=>wpAny_done hd h fuel) hq)
  ·rename_i hw
   rw[if_neg hw] at hq;exact wpAny_done hd hq fuel
 intro fuel
 induction fuel with
 | zero=>intro listed a w gP hc h;exact key 0 listed a w gP hc h.1 h.2
 | succ fuel ih=>
  intro listed a w gP hc h;by_cases hr:Region.ready md (L.take n).toArray listed=[]
  ·exact key (fuel+1) listed a w gP hc hr (h.1 hr)
  ·have GS:n∉Region.ready md L.toArray (listed.push false):=by
    intro hn;obtain⟨_,o,ho,xB⟩:=mem_ready.1 hn;rw[List.getElem?_toArray,hN] at ho;injection ho with ho;subst ho;have hl:=NT hs hN gP hc xB;apply hr;rw[List.eq_nil_iff_forall_not_mem];intro j hj;obtain⟨h0,o,ho,_⟩:=mem_ready.1 hj;rw[List.getElem?_toArray] at ho;have pQ:=(c_.1 ho).1;have tP:j<n:=by simp at pQ;omega
    have:=hl (n-j) j (by omega) (by omega);rw[lE (by omega),this] at h0;cases h0
   have aR:∀j,j∈Region.ready md L.toArray (listed.push false)->j<n:=fun j hj=>by
    obtain⟨_,o,ho,_⟩:=mem_ready.1 hj;rw[List.getElem?_toArray] at ho;have:=(c_.1 ho).1;have cK:j≠n:=fun e=>GS (e▸hj);omega
   refine⟨fun h0=>?_,fun j hj=>?_⟩
   ·exfalso
    obtain⟨j,hj⟩:=List.exists_mem_of_ne_nil _ hr;have tP:j<n:=by
     obtain⟨_,o,ho,_⟩:=mem_ready.1 hj;rw[List.getElem?_toArray] at ho;have:=(c_.1 ho).1;simp at this;omega
    have:=(xT hs gP tP).2 hj;rw[h0] at this;cases this
   ·have tP:=aR j hj
    have hjr:=(xT hs gP tP).1 hj;refine zV (L:=L) (F:=L.take n) (by rw[List.getElem?_take_of_lt tP]) (fun o ho g b hg=>?_) (fun a' w' hh=>?_) (h.2 j hjr)
    ·rw[List.getElem?_take_of_lt tP] at ho
     rw[List.getElem?_take_of_lt ((h2 j o ho).2 g b hg)]
    ·rw[i_ (by omega)]
     exact ih _ a' w' (by simpa using gP) (BT hc hjr) hh
theorem bC{S:World->Prop}{id:Nat}{a:Act}{w:Wo}{L:List Oper}(n:Nat)(oN:Oper)(hm:P.follows .mixedOrders=true)(hs:mX .any L n=true)(hN:L[n]?=some oN)(hS:S w.drew)(h:S w.drew->wpAnyH P .any (L.take n).toArray (hZ P L.toArray oN Q) S n (Array.replicate n false) a w.drew):(Code.region id L.toArray true).wp P Q a w:=by
 obtain⟨h1,h2,h3⟩:=iT hs;refine wp_region_any hm ?_;rw[show L.toArray.size=n+1 from by simpa using h1,Array.replicate_succ];refine gQ hs hN n _ a _ (by simp) (fun j o ho hj=>?_) (wpAny_of_held _ _ _ _ (h hS));rcases Nat.lt_or_ge j n with h' | h'<;>simp[h'] at hj
def tS(md:Region.Mode)(ops:Array Oper)(listed:Array Bool)(i:Nat):Bool:=Region.noSelect ops && Region.free md ops listed i && (Region.ready md ops listed).contains i
theorem aCS{L:List Oper}{S:World->Prop}(i:Nat){oi:Oper}{v:Value}{fuel:Nat}{listed:Array Bool}{a:Act}{w:Wo}(hi:L[i]?=some oi)(hB:tS md L.toArray listed i=true)(hQ:∀c a w,Q (.panic c) (a.put oi.dst v) w->Q (.panic c) a w)(hw:Region.wanted oi (yielded L.toArray a.tmps)=true)(hy:∀w,S w->(execOp a.eval oi).run P w=.ok (.value v) w)(hS:S w)(h:wpAnyH P md L.toArray Q S fuel (listed.setIfInBounds i true) (a.put oi.dst v) w):wpAnyH P md L.toArray Q S (fuel+1) listed a w:=by
 unfold tS at hB;rw[Bool.and_eq_true,Bool.and_eq_true] at hB;exact wpAnyH_take (by rw[List.getElem?_toArray];exact hi) hB.1.1 hB.1.2 hB.2 hQ (.inl ⟨hw,hy⟩) hS h
theorem aHh{L:List Oper}{S:World->Prop}(i:Nat){o:Oper}{fuel:Nat}{listed:Array Bool}{a:Act}{w:Wo}(hr:Region.ready md L.toArray listed=[i])(ho:L[i]?=some o)(h:∀K':Act->World->Prop,Shut (∀a w,S w->(S w->wpAnyH P md L.toArray Q S fuel (listed.setIfInBounds i true) a w)->K' a w)->if Region.wanted o (yielded L.toArray a.tmps)=true then Oper.wp P o a w K' Q else K' (a.put o.dst undef) w):wpAnyH P md L.toArray Q S (fuel+1) listed a w:=
 wpAnyH_ready hr (by simp) (AllReadyH.cons (by rw[List.getElem?_toArray];exact ho) h AllReadyH.nil)
theorem cJ{a:Act}(hw:Region.wanted o (yielded ops a.tmps)=true)(h:Oper.wp P o a w (Q .normal) Q):hZ P ops o Q .normal a w:=by
 unfold hZ;dsimp only;rw[if_pos hw];exact h
end
end
section
theorem lL(n:Int)(hd:d≠0):(Rat.divInt n d).num=n / (n.natAbs.gcd d:Nat)/\(Rat.divInt n d).den=d / n.natAbs.gcd d:=by
 rw[Rat.divInt_ofNat,mkRat,dif_neg hd,Rat.normalize_eq];exact⟨rfl,rfl⟩
theorem wH{n:Int}(hd:d≠0)(h:n.natAbs.gcd d=1):(Rat.divInt n d).num=n/\(Rat.divInt n d).den=d:=by
 obtain⟨h1,h2⟩:=lL n hd;rw[h] at h1 h2;exact⟨by rw[h1];simp,by rw[h2,Nat.div_one]⟩
theorem q_(n:Int)(hd:d≠0):(Rat.divInt n d).num.natAbs=n.natAbs / n.natAbs.gcd d/\(n<0<->(Rat.divInt n d).num<0):=by
 obtain⟨h1,_⟩:=lL n hd;have hg:(n.natAbs.gcd d:Int)∣n:=by
  exact Int.ofNat_dvd_left.2 (Nat.gcd_dvd_left ..)
 have hp:0<n.natAbs.gcd d:=Nat.gcd_pos_of_pos_right _ (Nat.pos_of_ne_zero hd);rw[h1];refine⟨?_,?_⟩
 ·rw[Int.natAbs_ediv,if_pos (.inr (.inr hg)),Nat.add_zero,Int.natAbs_natCast]
 ·generalize n.natAbs.gcd d=g at *
  obtain⟨k,hk⟩:=hg;rw[hk,Int.mul_ediv_cancel_left _ (by omega)];have K_:(0:Int)<(g:Nat):=by omega
  constructor
  ·intro h
   refine Int.lt_of_not_ge fun h2=>?_;have:=Int.mul_nonneg (Int.le_of_lt K_) h2;omega
  ·intro h
   have:=Int.mul_neg_of_pos_of_neg K_ h;omega
theorem DT(n:Int)(d:Nat):Rat.divInt n (-(d:Int))=Rat.divInt (-n) d:=by
 by_cases hd:d=0
 ·subst hd;simp
 ·rw[Rat.divInt_eq_divInt_iff (by omega) (by omega)]
  grind
theorem t8(q:Rat):Rat.divInt q.num q.den=q:=Rat.num_divInt_den q
theorem xD(q:Rat):q.den≠0:=q.den_nz
theorem E1(a b:Rat):Rat.divInt (a.num*b.den+b.num*a.den) ((a.den*b.den:Nat):Int)=a+b:=by
 rw[Rat.add_def',Rat.divInt_ofNat]
theorem D6(a b:Rat):Rat.divInt (a.num*b.num) ((a.den*b.den:Nat):Int)=a*b:=by
 have:=Rat.divInt_mul_divInt a.num b.num (d₁:=a.den) (d₂:=b.den);rw[t8,t8] at this;rw[this,Int.natCast_mul]
theorem EO(a b:Rat):Rat.divInt (a.num*b.den) ((a.den:Int)*b.num)=a / b:=by
 rw[Rat.div_def,Rat.inv_def,<-Rat.divInt_mul_divInt,t8]
def bM(q:Rat):Nat:=max (cE q.num.natAbs) (cE q.den)
theorem aBj(q:Rat):cE q.num.natAbs<=bM q:=Nat.le_max_left ..
theorem OM(q:Rat):cE q.den<=bM q:=Nat.le_max_right ..
theorem aBi(q:Rat):1<=bM q:=by
 have h:=OM q;have:=gV (xD q);omega
theorem J0(m n:Nat):cE (m / n)<=cE m:=g_ (Nat.div_le_self ..)
theorem q7(n:Int)(hd:d≠0):bM (Rat.divInt n d)<=max (cE n.natAbs) (cE d):=by
 unfold bM;obtain⟨h1,h2⟩:=lL n hd;rw[(q_ n hd).1,h2];have h3:=J0 n.natAbs (n.natAbs.gcd d);have h4:=J0 d (n.natAbs.gcd d);omega
theorem dW(a b:Int):cE (a*b).natAbs<=cE a.natAbs+cE b.natAbs:=by rw[Int.natAbs_mul];exact uY ..
theorem EN(a b:Int):cE (a+b).natAbs<=max (cE a.natAbs) (cE b.natAbs)+1:=
 eN (g_ (Int.natAbs_add_le ..)) (YS ..)
theorem lI(a b:Rat):bM (a+b)<=bM a+bM b+1:=by
 rw[<-E1];refine eN (q7 _ (Nat.mul_ne_zero (xD a) (xD b))) ?_;have h1:=EN (a.num*b.den) (b.num*a.den);have h2:=dW a.num b.den;have h3:=dW b.num a.den;have h4:=uY a.den b.den;unfold bM;rw[Int.natAbs_natCast] at h2 h3;omega
theorem mV(a b:Rat):bM (a*b)<=bM a+bM b:=by
 rw[<-D6];refine eN (q7 _ (Nat.mul_ne_zero (xD a) (xD b))) ?_;have h2:=dW a.num b.num;have h4:=uY a.den b.den;unfold bM;omega
theorem PC(a b:Rat):bM (a / b)<=bM a+bM b:=by
 by_cases hb:b=0
 ·subst hb
  rw[Rat.div_def,Rat.inv_zero,Rat.mul_zero];have h0:bM 0<=1:=by
   show max (cE 0) (cE 1)<=1;rw[fK,uX (by decide) (by decide)];decide
  have:=aBi a;omega
 ·rw[<-EO]
  have R8:b.num≠0:=fun h=>hb (Rat.num_eq_zero.1 h);have key:∀(n:Int)(k:Nat),k≠0->n.natAbs=(a.num*b.den).natAbs->k=(a.den*b.num.natAbs)->bM (Rat.divInt n k)<=bM a+bM b:=fun n k hk hn he=>by
   refine eN (q7 _ hk) ?_;rw[hn,he];have h2:=dW a.num b.den;rw[Int.natAbs_natCast] at h2;have h4:=uY a.den b.num.natAbs;unfold bM;omega
  have hk:a.den*b.num.natAbs≠0:=Nat.mul_ne_zero (xD a) (by omega);by_cases hs:b.num<0
  ·have e:(a.den:Int)*b.num=-((a.den*b.num.natAbs:Nat):Int):=by
    rw[Int.natCast_mul,Int.ofNat_natAbs_of_nonpos (by omega)];grind
   rw[e,DT];exact key _ _ hk (by rw[Int.natAbs_neg]) rfl
  ·have e:(a.den:Int)*b.num=((a.den*b.num.natAbs:Nat):Int):=by
    rw[Int.natCast_mul,Int.natAbs_of_nonneg (by omega)]
   rw[e];exact key _ _ hk rfl rfl
theorem kG(a:Rat):bM (-a)=bM a:=by
 unfold bM;rw[Rat.neg_num,Int.natAbs_neg,Rat.neg_den]
theorem FB(a b:Rat):bM (a-b)<=bM a+bM b+1:=by
 rw[Rat.sub_eq_add_neg];have:=lI a (-b);rwa[kG] at this
end
end Go.Proofs.YtonlblmobjhjjaaGreatDoor
namespace Go.Proofs
variable {L : List Oper} {a b l out ps q u u0 v : List Nat} {bo : Int} {c ca d g i j k m n r s x : Nat} {o : Oper} {ops : Array Oper} {w w' : World}
open Go.Shelf
def Tryz.lays169_ren:Go.Shelf.Ren:=⟨fun | 169=>108 | n=>n,fun | 70=>179 | 9=>9 | 0=>0 | 72=>182 | 37=>180 | 127=>225 | 3=>3 | 5=>5 | n=>n,fun | n=>n⟩
theorem Tryz.lays169:Go.Proofs.Lays.n169 Tryz.prog Tryz.lays169_ren:={
 mixed:=by kernel_rfl
 f169:=Tryz.func108.trans (congrArg some (by kernel_rfl))
 t0:=Tryz.underlying0
 a0:=Tryz.isAgg0
 z0:=Tryz.sizeOf0
 v0:=Tryz.zeroValue0
 t3:=Tryz.underlying3
 a3:=Tryz.isAgg3
 z3:=Tryz.sizeOf3
 v3:=Tryz.zeroValue3
 t9:=Tryz.underlying9
 a9:=Tryz.isAgg9
 z9:=Tryz.sizeOf9
 v9:=Tryz.zeroValue9
 t37:=Tryz.underlying180
 a37:=Tryz.isAgg180
 z37:=Tryz.sizeOf180
 v37:=Tryz.zeroValue180
 t70:=Tryz.underlying179
 a70:=Tryz.isAgg179
 z70:=Tryz.sizeOf179
 v70:=Tryz.zeroValue179
 t72:=Tryz.underlying182
 a72:=Tryz.isAgg182
 z72:=Tryz.sizeOf182
 v72:=Tryz.zeroValue182
 t127:=Tryz.underlying225
 a127:=Tryz.isAgg225
 z127:=Tryz.sizeOf225
 v127:=Tryz.zeroValue225 }
theorem Tryz.Builder_Extra_169:Builder.Extra Tryz.prog Tryz.lays169_ren:={
 sizeBuilder:=by kernel_rfl
 liesBuilder:=by kernel_rfl
 t5:=Tryz.underlying5
 a5:=Tryz.isAgg5
 z5:=Tryz.sizeOf5
 v5:=Tryz.zeroValue5
 infoByte:=by kernel_rfl
 cellsByte:=by kernel_rfl
 sizeByte:=by kernel_rfl
 neB5:=by decide }
open Go.RowKit in
theorem Tryz.Builder_String(B b:Nat)(l:List UInt8)(w:Wo)(h:Lib.IsBuilder 182 5 B b (Lib.byteCells l) w)(h0:l≠[]):Calls Tryz.prog 108 #[.pointer (some ⟨b,0,none⟩)] w fun e w'=>e=.returned (.string ⟨l.toArray⟩)/\Below B w w':=Any.Builder_String Tryz.lays169 Tryz.Builder_Extra_169 B b l w h h0
def Tryz.lays128_ren:Go.Shelf.Ren:=⟨fun | 128=>179 | n=>n,fun | 51=>175 | 3=>3 | 4=>4 | 46=>164 | 5=>5 | 9=>9 | n=>n,fun | n=>n⟩
def Tryz.lays133_ren:Go.Shelf.Ren:=⟨fun | 133=>162 | 128=>179 | n=>n,fun | 51=>175 | 3=>3 | 4=>4 | 46=>164 | 5=>5 | 9=>9 | n=>n,fun | n=>n⟩
theorem Tryz.lays133:Go.Proofs.Lays.n133 Tryz.prog Tryz.lays133_ren:={
 mixed:=by kernel_rfl
 f128:=Tryz.func179.trans (congrArg some (by kernel_rfl))
 f133:=Tryz.func162.trans (congrArg some (by kernel_rfl))
 t3:=Tryz.underlying3
 a3:=Tryz.isAgg3
 z3:=Tryz.sizeOf3
 v3:=Tryz.zeroValue3
 t4:=Tryz.underlying4
 a4:=Tryz.isAgg4
 z4:=Tryz.sizeOf4
 v4:=Tryz.zeroValue4
 t5:=Tryz.underlying5
 a5:=Tryz.isAgg5
 z5:=Tryz.sizeOf5
 v5:=Tryz.zeroValue5
 t9:=Tryz.underlying9
 a9:=Tryz.isAgg9
 z9:=Tryz.sizeOf9
 v9:=Tryz.zeroValue9
 t46:=Tryz.underlying164
 a46:=Tryz.isAgg164
 z46:=Tryz.sizeOf164
 v46:=Tryz.zeroValue164
 t51:=Tryz.underlying175
 a51:=Tryz.isAgg175
 z51:=Tryz.sizeOf175
 v51:=Tryz.zeroValue175 }
theorem Tryz.bits_LeadingZeros32(x:Int)(w:Wo)(h0:0<=x)(h1:x<=4294967295):Calls Tryz.prog 162 #[.int .u32 x] w fun e w'=>e=.returned (.int .i64 (32-(Lib.bitLen x.toNat:Int)))/\w'=w:=Any.bits_LeadingZeros32 Tryz.lays133 x w h0 h1
def Tryz.lays283_ren:Go.Shelf.Ren:=⟨fun | 283=>150 | n=>n,fun | 3=>3 | 9=>9 | 4=>4 | n=>n,fun | n=>n⟩
theorem Tryz.lays283:Go.Proofs.Lays.n283 Tryz.prog Tryz.lays283_ren:={
 mixed:=by kernel_rfl
 f283:=Tryz.func150.trans (congrArg some (by kernel_rfl))
 t3:=Tryz.underlying3
 a3:=Tryz.isAgg3
 z3:=Tryz.sizeOf3
 v3:=Tryz.zeroValue3
 t4:=Tryz.underlying4
 a4:=Tryz.isAgg4
 z4:=Tryz.sizeOf4
 v4:=Tryz.zeroValue4
 t9:=Tryz.underlying9
 a9:=Tryz.isAgg9
 z9:=Tryz.sizeOf9
 v9:=Tryz.zeroValue9 }
open Go.Lib in
theorem Tryz.internal_strconv_small(i:Nat)(h:i<100)(w:Wo):Calls Tryz.prog 150 #[.int .i64 i] w fun e w'=>e=.returned (.string ⟨(Lib.decDigits i).toArray⟩)/\w'=w:=Any.internal_strconv_small Tryz.lays283 i h w
def Tryz.laysM284_ren:Go.Shelf.Ren:=⟨fun | 284=>151 | 129=>165 | 317=>164 | 318=>166 | n=>n,fun | 53=>184 | 3=>3 | 212=>254 | 0=>0 | 4=>4 | 46=>164 | 5=>5 | 9=>9 | n=>n,fun | 17=>0 | n=>n⟩
theorem Tryz.laysM284:Go.Proofs.LaysM.n284 Tryz.prog Tryz.laysM284_ren:={
 mixed:=by kernel_rfl
 f129:=Tryz.func165.trans (congrArg some (by kernel_rfl))
 f284:=Tryz.func151.trans (congrArg some (by kernel_rfl))
 f317:=Tryz.func164.trans (congrArg some (by kernel_rfl))
 f318:=Tryz.func166.trans (congrArg some (by kernel_rfl))
 t0:=Tryz.underlying0
 a0:=Tryz.isAgg0
 z0:=Tryz.sizeOf0
 v0:=Tryz.zeroValue0
 t3:=Tryz.underlying3
 a3:=Tryz.isAgg3
 z3:=Tryz.sizeOf3
 v3:=Tryz.zeroValue3
 t4:=Tryz.underlying4
 a4:=Tryz.isAgg4
 z4:=Tryz.sizeOf4
 v4:=Tryz.zeroValue4
 t5:=Tryz.underlying5
 a5:=Tryz.isAgg5
 z5:=Tryz.sizeOf5
 v5:=Tryz.zeroValue5
 t9:=Tryz.underlying9
 a9:=Tryz.isAgg9
 z9:=Tryz.sizeOf9
 v9:=Tryz.zeroValue9
 t46:=Tryz.underlying164
 a46:=Tryz.isAgg164
 z46:=Tryz.sizeOf164
 v46:=Tryz.zeroValue164
 t53:=Tryz.underlying184
 a53:=Tryz.isAgg184
 z53:=Tryz.sizeOf184
 v53:=Tryz.zeroValue184
 t212:=Tryz.underlying254
 a212:=Tryz.isAgg254
 z212:=Tryz.sizeOf254
 v212:=Tryz.zeroValue254
 g17:=by kernel_rfl
 i0:=by kernel_rfl
 i3:=by kernel_rfl
 i4:=by kernel_rfl
 i5:=by kernel_rfl
 i9:=by kernel_rfl
 i46:=by kernel_rfl
 i53:=by kernel_rfl
 i212:=by kernel_rfl
 m17:=by kernel_rfl }
open Go.Lib in
theorem Tryz.internal_strconv_numDigits (u : Nat) (h1 : 1 <= u) (h2 : u < 18446744073709551616) (w : World) (aLW : Lib.TabIs Tryz.prog w "internal/strconv.uint64pow10" .u64 Lib.pow10Tab) :Calls Tryz.prog 151 #[.int .u64 u] w fun e w'=>e=.returned (.int .i64 (Lib.nDigits u))/\w'=w:=Any.internal_strconv_numDigits Tryz.laysM284 u h1 h2 w aLW
def Tryz.lays285_ren:Go.Shelf.Ren:=⟨fun | 285=>152 | n=>n,fun | 37=>180 | 53=>184 | 3=>3 | 4=>4 | 51=>175 | 9=>9 | 5=>5 | 0=>0 | n=>n,fun | n=>n⟩
theorem Tryz.lays285:Go.Proofs.Lays.n285 Tryz.prog Tryz.lays285_ren:={
 mixed:=by kernel_rfl
 f285:=Tryz.func152.trans (congrArg some (by kernel_rfl))
 t0:=Tryz.underlying0
 a0:=Tryz.isAgg0
 z0:=Tryz.sizeOf0
 v0:=Tryz.zeroValue0
 t3:=Tryz.underlying3
 a3:=Tryz.isAgg3
 z3:=Tryz.sizeOf3
 v3:=Tryz.zeroValue3
 t4:=Tryz.underlying4
 a4:=Tryz.isAgg4
 z4:=Tryz.sizeOf4
 v4:=Tryz.zeroValue4
 t5:=Tryz.underlying5
 a5:=Tryz.isAgg5
 z5:=Tryz.sizeOf5
 v5:=Tryz.zeroValue5
 t9:=Tryz.underlying9
 a9:=Tryz.isAgg9
 z9:=Tryz.sizeOf9
 v9:=Tryz.zeroValue9
 t37:=Tryz.underlying180
 a37:=Tryz.isAgg180
 z37:=Tryz.sizeOf180
 v37:=Tryz.zeroValue180
 t51:=Tryz.underlying175
 a51:=Tryz.isAgg175
 z51:=Tryz.sizeOf175
 v51:=Tryz.zeroValue175
 t53:=Tryz.underlying184
 a53:=Tryz.isAgg184
 z53:=Tryz.sizeOf184
 v53:=Tryz.zeroValue184 }
open Go.RowKit Go.Sort Go.Lib in
theorem Tryz.internal_strconv_formatBase10(blk off cap:Nat)(u:Nat)(d:Array UInt8)(w:Wo)(hH:Holds (fun(b:UInt8)=>Value.int .u8 (b.toNat:Int)) w blk off d)(hu:u<10^d.size)(MS:u<18446744073709551616)(gP:d.size<4611686018427387904):Calls Tryz.prog 152 #[.slice (some ⟨blk,off,none⟩) d.size cap,.int .u64 u] w fun e w'=>
     e=.returned (.tuple #[])/\∃(n v':Nat)(dk:Array UInt8),w'=(putRow (fun(b:UInt8)=>Value.int .u8 (b.toNat:Int)) w blk off dk).drewN n/\FmtInv d.size u 0 v' dk:=Any.internal_strconv_formatBase10 Tryz.lays285 blk off cap u d w hH hu MS gP
def Tryz.laysPu14_ren:Go.Shelf.Ren:=⟨fun | 14=>144 | 16=>160 | 17=>161 | 19=>173 | 20=>174 | 21=>175 | 22=>176 | 23=>177 | 24=>178 | 25=>184 | 27=>186 | 26=>185 | 28=>187 | 29=>188 | 30=>150 | 31=>151 | 32=>152 | 33=>153 | 35=>165 | 34=>164 | 36=>166 | 37=>167 | 38=>168 | 39=>180 | 40=>181 | n=>n,fun | 9=>9 | 3=>3 | 22=>184 | 24=>186 | 25=>231 | 4=>4 | 34=>259 | 5=>5 | 36=>164 | 37=>180 | 0=>0 | 39=>261 | 21=>21 | 44=>267 | 47=>225 | 50=>273 | 48=>271 | 2=>2 | 52=>239 | 55=>242 | 59=>254 | 60=>175 | 20=>20 | 61=>255 | 65=>269 | 66=>270 | 67=>189 | n=>n,fun | 0=>2 | 1=>3 | 2=>0 | 3=>4 | 4=>5 | n=>n⟩
theorem Tryz.laysPu14:Go.Proofs.LaysPu.n14 Tryz.prog Tryz.laysPu14_ren:={
 mixed:=by kernel_rfl
 f14:=Tryz.func144.trans (congrArg some (by kernel_rfl))
 f16:=Tryz.func160.trans (congrArg some (by kernel_rfl))
 f17:=Tryz.func161.trans (congrArg some (by kernel_rfl))
 f19:=Tryz.func173.trans (congrArg some (by kernel_rfl))
 f20:=Tryz.func174.trans (congrArg some (by kernel_rfl))
 f21:=Tryz.func175.trans (congrArg some (by kernel_rfl))
 f22:=Tryz.func176.trans (congrArg some (by kernel_rfl))
 f23:=Tryz.func177.trans (congrArg some (by kernel_rfl))
 f24:=Tryz.func178.trans (congrArg some (by kernel_rfl))
 f25:=Tryz.func184.trans (congrArg some (by kernel_rfl))
 f26:=Tryz.func185.trans (congrArg some (by kernel_rfl))
 f27:=Tryz.func186.trans (congrArg some (by kernel_rfl))
 f28:=Tryz.func187.trans (congrArg some (by kernel_rfl))
 f29:=Tryz.func188.trans (congrArg some (by kernel_rfl))
 f30:=Tryz.func150.trans (congrArg some (by kernel_rfl))
 f31:=Tryz.func151.trans (congrArg some (by kernel_rfl))
 f32:=Tryz.func152.trans (congrArg some (by kernel_rfl))
 f33:=Tryz.func153.trans (congrArg some (by kernel_rfl))
 f34:=Tryz.func164.trans (congrArg some (by kernel_rfl))
 f35:=Tryz.func165.trans (congrArg some (by kernel_rfl))
 f36:=Tryz.func166.trans (congrArg some (by kernel_rfl))
 f37:=Tryz.func167.trans (congrArg some (by kernel_rfl))
 f38:=Tryz.func168.trans (congrArg some (by kernel_rfl))
 f39:=Tryz.func180.trans (congrArg some (by kernel_rfl))
 f40:=Tryz.func181.trans (congrArg some (by kernel_rfl))
 t0:=Tryz.underlying0
 a0:=Tryz.isAgg0
 z0:=Tryz.sizeOf0
 v0:=Tryz.zeroValue0
 i0:=by kernel_rfl
 t2:=Tryz.underlying2
 a2:=Tryz.isAgg2
 z2:=Tryz.sizeOf2
 v2:=Tryz.zeroValue2
 i2:=by kernel_rfl
 t3:=Tryz.underlying3
 a3:=Tryz.isAgg3
 z3:=Tryz.sizeOf3
 v3:=Tryz.zeroValue3
 i3:=by kernel_rfl
 t4:=Tryz.underlying4
 a4:=Tryz.isAgg4
 z4:=Tryz.sizeOf4
 v4:=Tryz.zeroValue4
 i4:=by kernel_rfl
 t5:=Tryz.underlying5
 a5:=Tryz.isAgg5
 z5:=Tryz.sizeOf5
 v5:=Tryz.zeroValue5
 i5:=by kernel_rfl
 t9:=Tryz.underlying9
 a9:=Tryz.isAgg9
 z9:=Tryz.sizeOf9
 v9:=Tryz.zeroValue9
 i9:=by kernel_rfl
 t20:=Tryz.underlying20
 a20:=Tryz.isAgg20
 z20:=Tryz.sizeOf20
 v20:=Tryz.zeroValue20
 i20:=by kernel_rfl
 t21:=Tryz.underlying21
 a21:=Tryz.isAgg21
 z21:=Tryz.sizeOf21
 v21:=Tryz.zeroValue21
 i21:=by kernel_rfl
 t22:=Tryz.underlying184
 a22:=Tryz.isAgg184
 z22:=Tryz.sizeOf184
 v22:=Tryz.zeroValue184
 i22:=by kernel_rfl
 t24:=Tryz.underlying186
 a24:=Tryz.isAgg186
 z24:=Tryz.sizeOf186
 v24:=Tryz.zeroValue186
 i24:=by kernel_rfl
 t25:=Tryz.underlying231
 a25:=Tryz.isAgg231
 z25:=Tryz.sizeOf231
 v25:=Tryz.zeroValue231
 i25:=by kernel_rfl
 t34:=Tryz.underlying259
 a34:=Tryz.isAgg259
 z34:=Tryz.sizeOf259
 v34:=Tryz.zeroValue259
 i34:=by kernel_rfl
 c34:=by kernel_rfl
 t36:=Tryz.underlying164
 a36:=Tryz.isAgg164
 z36:=Tryz.sizeOf164
 v36:=Tryz.zeroValue164
 i36:=by kernel_rfl
 t37:=Tryz.underlying180
 a37:=Tryz.isAgg180
 z37:=Tryz.sizeOf180
 v37:=Tryz.zeroValue180
 i37:=by kernel_rfl
 t39:=Tryz.underlying261
 a39:=Tryz.isAgg261
 z39:=Tryz.sizeOf261
 v39:=Tryz.zeroValue261
 i39:=by kernel_rfl
 t44:=Tryz.underlying267
 a44:=Tryz.isAgg267
 z44:=Tryz.sizeOf267
 v44:=Tryz.zeroValue267
 i44:=by kernel_rfl
 t47:=Tryz.underlying225
 a47:=Tryz.isAgg225
 z47:=Tryz.sizeOf225
 v47:=Tryz.zeroValue225
 i47:=by kernel_rfl
 t48:=Tryz.underlying271
 a48:=Tryz.isAgg271
 z48:=Tryz.sizeOf271
 v48:=Tryz.zeroValue271
 i48:=by kernel_rfl
 t50:=Tryz.underlying273
 a50:=Tryz.isAgg273
 z50:=Tryz.sizeOf273
 v50:=Tryz.zeroValue273
 i50:=by kernel_rfl
 t52:=Tryz.underlying239
 a52:=Tryz.isAgg239
 z52:=Tryz.sizeOf239
 v52:=Tryz.zeroValue239
 i52:=by kernel_rfl
 t55:=Tryz.underlying242
 a55:=Tryz.isAgg242
 z55:=Tryz.sizeOf242
 v55:=Tryz.zeroValue242
 i55:=by kernel_rfl
 t59:=Tryz.underlying254
 a59:=Tryz.isAgg254
 z59:=Tryz.sizeOf254
 v59:=Tryz.zeroValue254
 i59:=by kernel_rfl
 t60:=Tryz.underlying175
 a60:=Tryz.isAgg175
 z60:=Tryz.sizeOf175
 v60:=Tryz.zeroValue175
 i60:=by kernel_rfl
 t61:=Tryz.underlying255
 a61:=Tryz.isAgg255
 z61:=Tryz.sizeOf255
 t65:=Tryz.underlying269
 a65:=Tryz.isAgg269
 z65:=Tryz.sizeOf269
 v65:=Tryz.zeroValue269
 i65:=by kernel_rfl
 t66:=Tryz.underlying270
 a66:=Tryz.isAgg270
 z66:=Tryz.sizeOf270
 v66:=Tryz.zeroValue270
 i66:=by kernel_rfl
 t67:=Tryz.underlying189
 a67:=Tryz.isAgg189
 z67:=Tryz.sizeOf189
 v67:=Tryz.zeroValue189
 i67:=by kernel_rfl
 g0:=by kernel_rfl
 m0:=by kernel_rfl
 g1:=by kernel_rfl
 m1:=by kernel_rfl
 g2:=by kernel_rfl
 m2:=by kernel_rfl
 g3:=by kernel_rfl
 m3:=by kernel_rfl
 g4:=by kernel_rfl
 m4:=by kernel_rfl }
open Go.RowKit in
theorem Tryz.strconv_ParseUint_10_at32_ok(s:ByteArray)(aMh:s.size<=9223372036854775806)(u:Nat)(h:Lib.parseUintB 32 s.data.toList=.ok u)(w:Wo):Calls Tryz.prog 144 #[.string s,.int .i64 10,.int .i64 32] w fun e w'=>e=.returned (.tuple #[.int .u64 u,.nilIface])/\(w'=w\/w'=Lib.bytesWorld w 5 s):=Any.strconv_ParseUint_10_at32_ok Tryz.laysPu14 s aMh u h w
def Tryz.lays219_ren:Go.Shelf.Ren:=⟨fun | 219=>158 | 217=>169 | 225=>170 | 224=>171 | 267=>172 | 266=>182 | 314=>183 | n=>n,fun | 9=>9 | 3=>3 | 4=>4 | 5=>5 | 46=>164 | 146=>213 | 51=>175 | n=>n,fun | 1=>1 | n=>n⟩
theorem Tryz.lays219:Go.Proofs.Lays.n219 Tryz.prog Tryz.lays219_ren:={
 mixed:=by kernel_rfl
 f217:=Tryz.func169.trans (congrArg some (by kernel_rfl))
 f219:=Tryz.func158.trans (congrArg some (by kernel_rfl))
 f224:=Tryz.func171.trans (congrArg some (by kernel_rfl))
 f225:=Tryz.func170.trans (congrArg some (by kernel_rfl))
 f266:=Tryz.func182.trans (congrArg some (by kernel_rfl))
 f267:=Tryz.func172.trans (congrArg some (by kernel_rfl))
 f314:=Tryz.func183.trans (congrArg some (by kernel_rfl))
 t3:=Tryz.underlying3
 a3:=Tryz.isAgg3
 z3:=Tryz.sizeOf3
 v3:=Tryz.zeroValue3
 t4:=Tryz.underlying4
 a4:=Tryz.isAgg4
 z4:=Tryz.sizeOf4
 v4:=Tryz.zeroValue4
 t5:=Tryz.underlying5
 a5:=Tryz.isAgg5
 z5:=Tryz.sizeOf5
 v5:=Tryz.zeroValue5
 t9:=Tryz.underlying9
 a9:=Tryz.isAgg9
 z9:=Tryz.sizeOf9
 v9:=Tryz.zeroValue9
 t46:=Tryz.underlying164
 a46:=Tryz.isAgg164
 z46:=Tryz.sizeOf164
 v46:=Tryz.zeroValue164
 t51:=Tryz.underlying175
 a51:=Tryz.isAgg175
 z51:=Tryz.sizeOf175
 v51:=Tryz.zeroValue175
 t146:=Tryz.underlying213
 a146:=Tryz.isAgg213
 z146:=Tryz.sizeOf213
 v146:=Tryz.zeroValue213
 g1:=by kernel_rfl }
open Go.RowKit Go.Lib in
theorem Tryz.stringslite_Index_one(s:ByteArray)(c:UInt8)(w:Wo):Calls Tryz.prog 158 #[.string s,.string ⟨#[c]⟩] w fun e w'=>e=.returned (.int .i64 (Lib.indexByte s.data.toList c))/\w'=w:=Any.stringslite_Index_one Tryz.lays219 s c w
def Tryz.lays206_ren:Go.Shelf.Ren:=⟨fun | 206=>159 | n=>n,fun | 9=>9 | 4=>4 | 3=>3 | n=>n,fun | n=>n⟩
def Tryz.lays99_ren:Go.Shelf.Ren:=⟨fun | 99=>143 | 206=>159 | n=>n,fun | 9=>9 | 4=>4 | 3=>3 | n=>n,fun | n=>n⟩
theorem Tryz.lays99:Go.Proofs.Lays.n99 Tryz.prog Tryz.lays99_ren:={
 mixed:=by kernel_rfl
 f99:=Tryz.func143.trans (congrArg some (by kernel_rfl))
 f206:=Tryz.func159.trans (congrArg some (by kernel_rfl))
 t3:=Tryz.underlying3
 a3:=Tryz.isAgg3
 z3:=Tryz.sizeOf3
 v3:=Tryz.zeroValue3
 t4:=Tryz.underlying4
 a4:=Tryz.isAgg4
 z4:=Tryz.sizeOf4
 v4:=Tryz.zeroValue4
 t9:=Tryz.underlying9
 a9:=Tryz.isAgg9
 z9:=Tryz.sizeOf9
 v9:=Tryz.zeroValue9 }
open Go.RowKit Go.Lib in
theorem Tryz.strings_HasPrefix(s p:ByteArray)(w:Wo):Calls Tryz.prog 143 #[.string s,.string p] w fun e w'=>e=.returned (.bool (Lib.hasPrefix s.data.toList p.data.toList))/\w'=w:=Any.strings_HasPrefix Tryz.lays99 s p w
def Tryz.lays101_ren:Go.Shelf.Ren:=⟨fun | 101=>139 | 208=>155 | 206=>159 | n=>n,fun | 9=>9 | 4=>4 | 3=>3 | n=>n,fun | n=>n⟩
theorem Tryz.lays101:Go.Proofs.Lays.n101 Tryz.prog Tryz.lays101_ren:={
 mixed:=by kernel_rfl
 f101:=Tryz.func139.trans (congrArg some (by kernel_rfl))
 f206:=Tryz.func159.trans (congrArg some (by kernel_rfl))
 f208:=Tryz.func155.trans (congrArg some (by kernel_rfl))
 t3:=Tryz.underlying3
 a3:=Tryz.isAgg3
 z3:=Tryz.sizeOf3
 v3:=Tryz.zeroValue3
 t4:=Tryz.underlying4
 a4:=Tryz.isAgg4
 z4:=Tryz.sizeOf4
 v4:=Tryz.zeroValue4
 t9:=Tryz.underlying9
 a9:=Tryz.isAgg9
 z9:=Tryz.sizeOf9
 v9:=Tryz.zeroValue9 }
open Go.RowKit Go.Lib in
theorem Tryz.strings_TrimPrefix(s p:ByteArray)(w:Wo):Calls Tryz.prog 139 #[.string s,.string p] w fun e w'=>e=.returned (.string ⟨(Lib.trimPrefix s.data.toList p.data.toList).toArray⟩)/\w'=w:=Any.strings_TrimPrefix Tryz.lays101 s p w
end Go.Proofs
namespace Go.Proofs.YtonlblmobjhjjaaGreatDoor
variable {L : List Oper} {a b l out ps q u u0 v : List Nat} {bo : Int} {c ca d g i j k m n r s x : Nat} {o : Oper} {ops : Array Oper} {w w' : World}
section
open Go
section
variable {P:Program} {Q:Exit->Act->World->Prop} {md:Region.Mode}
def iZ(P:Program)(K:Value->World->Prop):Result Next->Prop
 | .ok (.value v) w'=>K v w'
 | .ok .skip w'=>K undef w'
 | .ok (.enter f args) w'=>Calls P f args w' fun e w''=>∃v,e=.returned v/\K v w''
 | _=>False
def jU(P:Program)(o:Oper)(a:Act)(w:Wo)(K:Value->World->Prop):Prop:=iZ P K ((execOp a.eval o).run P w)
theorem LM{a:Act}{K:Value->World->Prop}{N:Act->World->Prop}(h:jU P o a w K)(hN:∀v w',K v w'->N (a.put o.dst v) w'):o.wp P a w N Q:=by
 unfold jU at h;unfold Oper.wp;generalize (execOp a.eval o).run P w=r at *;cases r with
 | ok n w'=>
  cases n<;>simp only[iZ] at h<;>simp only[Oper.upon]
  case value v=>exact hN _ _ h
  case skip=>exact hN _ _ h
  case enter f args=>exact h.mono fun e w'' ⟨v,he,hk⟩=>by subst he;exact hN _ _ hk
 | halt x w'=>simp only[iZ] at h
def jS(md:Region.Mode)(o:Oper)(k:Nat):Bool:=o.after.any fun e=>Region.binds md e && e.on == k
theorem zW(h:jS md o k=true):∃e∈o.after,Region.binds md e=true/\e.on=k:=by
 unfold jS at h;obtain⟨e,he,hb⟩:=Array.any_eq_true'.1 h;simp only[Bool.and_eq_true,beq_iff_eq] at hb;exact⟨e,he,hb.1,hb.2⟩
abbrev qT:=Nat->Option Value
def TJ(s:qT)(i:Nat)(v:Value):qT:=fun k=>bif Nat.beq k i then some v else s k
theorem z7(s:qT)(i:Nat)(v:Value):TJ s i v i=some v:=by unfold TJ;rw[Nat.beq_refl];rfl
theorem q6{s:qT}{v:Value}(h:k≠i):TJ s i v k=s k:=by
 unfold TJ;have:Nat.beq k i=false:=by
  cases h':Nat.beq k i with
  | false=>rfl
  | true=>exact absurd (Nat.eq_of_beq_eq_true h') h
 rw[this];rfl
abbrev sI:=Nat->qT->World->Prop
def QE(K:sI)(i:Nat)(p:qT->World->Prop):sI:=fun k=>bif Nat.beq k i then p else K k
theorem nK(K:sI)(i:Nat)(p:qT->World->Prop):QE K i p i=p:=by unfold QE;rw[Nat.beq_refl];rfl
theorem kE{K:sI}{p:qT->World->Prop}(h:k≠i):QE K i p k=K k:=by
 unfold QE;have:Nat.beq k i=false:=by
  cases h':Nat.beq k i with
  | false=>rfl
  | true=>exact absurd (Nat.eq_of_beq_eq_true h') h
 rw[this];rfl
theorem UF{K:sI}{p q:qT->World->Prop}(h:i≠j):QE (QE K i p) j q=QE (QE K j q) i p:=by
 funext k
 by_cases h1:k=i
 ·subst h1;rw[kE h,nK,nK]
 ·by_cases h2:k=j
  ·subst h2;rw[nK,kE h1,nK]
  ·rw[kE h2,kE h1,kE h1,kE h2]
def xR(P:Program)(md:Region.Mode)(ops:Array Oper)(C:qT->World->Prop)(G:World->World->Prop)(Fin:Act->World->Prop):List (Nat×(Value->World->Prop))->Act->sI->Prop
 | [],a,K=>∀s w,C s w->(∀k,K k s w)->Fin a w
 | (i,p)::rs,a,K=>∃o,ops[i]?=some o/\(∀s w,C s w->s i=none->(∀k,jS md o k=true->K k s w)->jU P o a w fun v w'=>p v w'/\C (TJ s i v) w'/\G w w')/\∀v,xR P md ops C G Fin rs (a.put o.dst v) (QE K i fun s w=>s i=some v/\p v w)
def mZ(j:Nat):List (Nat×(Value->World->Prop))->List (Nat×(Value->World->Prop))
 | []=>[]
 | p::r=>bif Nat.beq p.1 j then r else p::mZ j r
theorem mH{p:Nat×(Value->World->Prop)}{r:List (Nat×(Value->World->Prop))}:mZ p.1 (p::r)=r:=by unfold mZ;rw[Nat.beq_refl];rfl
theorem nW{p:Nat×(Value->World->Prop)}{r:List (Nat×(Value->World->Prop))}(h:p.1≠j):mZ j (p::r)=p::mZ j r:=by
 have:Nat.beq p.1 j=false:=by
  cases h':Nat.beq p.1 j with
  | false=>rfl
  | true=>exact absurd (Nat.eq_of_beq_eq_true h') h
 conv=>lhs;unfold mZ
 rw[this];rfl
theorem EQ(j:Nat):∀r:List (Nat×(Value->World->Prop)),(mZ j r).Sublist r
 | []=>List.Sublist.refl _
 | p::r=>by
  by_cases h:p.1=j
  ·subst h;rw[mH];exact List.sublist_cons_self ..
  ·rw[nW h];exact(EQ j r).cons_cons _
theorem ES:∀{r:List (Nat×(Value->World->Prop))},j∈r.map (·.1)->(mZ j r).length+1=r.length
 | [],h=>by cases h
 | p::r,h=>by
  by_cases hp:p.1=j
  ·subst hp;rw[mH];rfl
  ·rw[nW hp,G4,G4,ES ((List.mem_cons.1 h).resolve_left fun e=>hp e.symm)]
theorem ER(hk:k≠j):∀{r:List (Nat×(Value->World->Prop))},k∈r.map (·.1)->k∈(mZ j r).map (·.1)
 | [],h=>by cases h
 | p::r,h=>by
  by_cases hp:p.1=j
  ·subst hp;rw[mH];exact(List.mem_cons.1 h).resolve_left hk
  ·rw[nW hp,List.map_cons]
   rcases List.mem_cons.1 h with e | h
   ·rw[e];exact List.mem_cons_self ..
   ·exact List.mem_cons_of_mem _ (ER hk h)
theorem rL:∀{r:List (Nat×(Value->World->Prop))},(r.map (·.1)).Pairwise (·<·)->j∉(mZ j r).map (·.1)
 | [],_=>by simp[mZ]
 | p::r,h=>by
  rw[List.map_cons,List.pairwise_cons] at h;by_cases hp:p.1=j
  ·subst hp
   rw[mH];intro hm;have:=h.1 _ hm;omega
  ·rw[nW hp,List.map_cons]
   intro hm;rcases List.mem_cons.1 hm with e | hm
   ·exact hp e.symm
   ·exact rL h.2 hm
structure xI (md:Region.Mode) (ops:Array Oper) (idx:List Nat):Prop where
 one:∀j∈idx,∃o,ops[j]?=some o/\o.guard=none/\∀e∈o.after,Region.binds md e=true->e.on<j
 two:∀i∈idx,∀j∈idx,i<j->∀oi oj,ops[i]?=some oi->ops[j]?=some oj->jS md oj i=false->oi.apart ops oj=true
theorem xI.sub{m:List Nat}(h:xI md ops l)(hs:∀x∈m,x∈l):xI md ops m:=⟨fun j hj=>h.one j (hs j hj),fun i hi j hj=>h.two i (hs i hi) j (hs j hj)⟩
variable {ops:Array Oper} {C:qT->World->Prop} {G:World->World->Prop} {Fin:Act->World->Prop}
theorem DQ(XC:∀(j:Nat)(o:Oper) cs b,ops[j]?=some o->o.op≠.select cs b){oj:Oper}{q:Value->World->Prop}(OY:ops[j]?=some oj):∀(rs:List (Nat×(Value->World->Prop))) (a:Act) (K:sI),
    (rs.map (·.1)).Pairwise (·<·)->xI md ops (rs.map (·.1))->(j,q)∈rs->(∀i∈rs.map (·.1),i<j->jS md oj i=false)->xR P md ops C G Fin rs a K->
    (∀s w,C s w->s j=none->(∀k,jS md oj k=true->K k s w)->jU P oj a w fun v w'=>q v w'/\C (TJ s j v) w'/\G w w')/\∀v,xR P md ops C G Fin (mZ j rs) (a.put oj.dst v) (QE K j fun s w=>s j=some v/\q v w)
 | [],a,K,_,_,hm,_,_=>by cases hm
 | (i,p)::rs,a,K,hp,kU,hm,hw,h=>by
  rw[List.map_cons,List.pairwise_cons] at hp;obtain⟨oi,hoi,h1,h2⟩:=h;by_cases rV:i=j
  ·subst rV
   have hpq:p=q:=by
    rcases List.mem_cons.1 hm with e | hm
    ·injection e with _ e;exact e.symm
    ·have:=hp.1 _ (List.mem_map.2 ⟨_,hm,rfl⟩)
     dsimp only at this;omega
   subst hpq;rw[hoi] at OY;injection OY with OY;subst OY;rw[mH (p:=(i,p))];exact⟨h1,h2⟩
  ·have hm':(j,q)∈rs:=(List.mem_cons.1 hm).resolve_left fun e=>rV (by injection e with e _;exact e.symm)
   have aR:i<j:=hp.1 _ (List.mem_map.2 ⟨_,hm',rfl⟩);have hmi:i∈((i,p)::rs).map (·.1):=List.mem_cons_self ..;have hmj:j∈((i,p)::rs).map (·.1):=List.mem_cons_of_mem _ (List.mem_map.2 ⟨_,hm',rfl⟩);have hwi:=hw i hmi aR;have hap:=Oper.apart_spec (kU.two i hmi j hmj aR oi oj hoi OY hwi);have aL8:=kU.sub (m:=rs.map (·.1)) fun x hx=>List.mem_cons_of_mem _ hx;have hw':∀k∈rs.map (·.1),k<j->jS md oj k=false:=fun k hk=>hw k (List.mem_cons_of_mem _ hk);have ih:=fun v=>DQ XC OY rs (a.put oi.dst v) (QE K i fun s w=>s i=some v/\p v w) hp.2 aL8 hm' hw' (h2 v);refine⟨fun s w hC hn hK=>?_,fun v=>?_⟩
   ·have h3:=(ih undef).1 s w hC hn fun k hk=>by
     have hki:k≠i:=fun e=>by rw[e,hwi] at hk;cases hk
     rw[kE hki];exact hK k hk
    unfold jU at h3 ⊢;rwa[execOp_put oj (fun cs b=>XC j oj cs b OY) a oi.dst undef hap.1] at h3
   ·rw[nW (p:=(i,p)) rV]
    refine⟨oi,hoi,fun s w hC hn hK=>?_,fun v'=>?_⟩
    ·have hnj:jS md oi j=false:=by
      cases hb:jS md oi j with
      | false=>rfl
      | true=>
       obtain⟨e,he,bG,bV⟩:=zW hb;obtain⟨o',ho',_,hlt'⟩:=kU.one i hmi;rw[hoi] at ho';injection ho' with ho';subst ho';have:=hlt' e he bG;omega
     have h3:=h1 s w hC hn fun k hk=>by
      have M1:k≠j:=fun e=>by rw[e,hnj] at hk;cases hk
      have:=hK k hk;rwa[kE M1] at this
     unfold jU at h3 ⊢;rwa[execOp_put oi (fun cs b=>XC i oi cs b hoi) a oj.dst v hap.2.2]
    ·have h3:=(ih v').2 v
     rw[Act.put_comm a v' v hap.2.1,UF rV] at h3;exact h3
theorem LN{S:World->Prop}(hCS:∀s w,C s w->S w)(XC:∀(j:Nat)(o:Oper) cs b,ops[j]?=some o->o.op≠.select cs b):∀(fuel:Nat) (rs:List (Nat×(Value->World->Prop))) (listed:Array Bool) (a:Act) (w:Wo) (K:sI) (s:qT),
    rs.length=fuel->listed.size=ops.size->(rs.map (·.1)).Pairwise (·<·)->xI md ops (rs.map (·.1))->(∀j,j<ops.size->listed.getD j true=false->j∈rs.map (·.1))->(∀j∈rs.map (·.1),listed.getD j true=false)->
    (∀p∈rs,∀v w w',p.2 v w->G w w'->p.2 v w')->(∀k s w j v w',j∈rs.map (·.1)->K k s w->G w w'->K k (TJ s j v) w')->xR P md ops C G (Q .normal) rs a K->C s w->(∀k,K k s w)->(∀j∈rs.map (·.1),s j=none)->wpAnyH P md ops Q S fuel listed a w:=by
 intro fuel
 induction fuel with
 | zero=>
  intro rs listed a w K s hl gP hp kU hcov hun OW hKs h hC hK GS;have:rs=[]:=List.eq_nil_of_length_eq_zero hl;subst this;refine⟨?_,h s w hC hK⟩;rw[List.eq_nil_iff_forall_not_mem];intro j hj;obtain⟨h0,o,ho,_⟩:=mem_ready.1 hj;have:=hcov j (Array.getElem?_eq_some_iff.1 ho).1 h0;cases this
 | succ fuel ih=>
  intro rs listed a w K s hl gP hp kU hcov hun OW hKs h hC hK GS;refine⟨fun h0=>?_,fun j hj=>?_⟩
  ·exfalso
   cases rs with
   | nil=>simp at hl
   | cons p r=>
    have hmi:p.1∈(p::r).map (·.1):=List.mem_cons_self ..;obtain⟨o,ho,_,aR⟩:=kU.one p.1 hmi;have:p.1∈Region.ready md ops listed:=by
     refine mem_ready.2 ⟨hun _ hmi,o,ho,fun e he hb=>?_⟩;have hel:=aR e he hb;have vL:=(Array.getElem?_eq_some_iff.1 ho).1;cases hg:listed.getD e.on true with
     | true=>rw[<-lE (by omega)];exact hg
     | false=>
      have:=hcov e.on (by omega) hg;rw[List.map_cons] at this;rcases List.mem_cons.1 this with e1 | hm
      ·omega
      ·rw[List.map_cons,List.pairwise_cons] at hp
       have:=hp.1 _ hm;omega
    rw[h0] at this;cases this
  ·obtain⟨h0,oj,OY,xB⟩:=mem_ready.1 hj
   have hjs:=(Array.getElem?_eq_some_iff.1 OY).1;have hmj:=hcov j hjs h0;obtain⟨⟨j',q⟩,hq,rfl⟩:=List.mem_map.1 hmj;dsimp only at *;have hwn:∀i∈rs.map (·.1),i<j'->jS md oj i=false:=fun i hi _=>by
    cases hb:jS md oj i with
    | false=>rfl
    | true=>
     obtain⟨e,he,bG,bV⟩:=zW hb;have h3:=xB e he bG;have h4:=hun i hi;have FY:i<listed.size:=by
      rw[bV] at h3;exact X_ h3
     rw[bV,<-lE FY,h4] at h3;cases h3
   obtain⟨h1,h2⟩:=DQ XC OY rs a K hp kU hq hwn h;obtain⟨o',ho',hg,_⟩:=kU.one j' hmj;rw[OY] at ho';injection ho' with ho';subst ho';unfold wpOp;rw[OY];have aHu:Region.wanted oj (yielded ops a.tmps)=true:=by simp[Region.wanted,hg]
   simp only[aHu,if_true];have aBM:=EQ j' rs;have OV:∀x∈(mZ j' rs).map (·.1),x∈rs.map (·.1):=fun x hx=>(aBM.map (·.1)).subset hx;refine .inl (LM (h1 s w hC (GS j' hmj) fun k _=>hK k) fun v w' ⟨g1,g2,g3⟩=>⟨hCS _ _ g2,?_⟩);refine ih (mZ j' rs) _ _ w' (QE K j' fun s w=>s j'=some v/\q v w) (TJ s j' v) (by have:=ES hmj;omega) (by simp[gP]) (hp.sublist (aBM.map (·.1))) (kU.sub OV) (fun k hk hu=>?_) (fun k hk=>?_) (fun p hp=>OW p (aBM.subset hp)) (fun k s1 w1 j1 v1 w2 hj1 hk hG=>?_) (h2 v) g2 (fun k=>?_) fun k hk=>?_
   ·by_cases M1:j'=k
    ·subst M1
     simp[gP,hjs] at hu
    ·rw[getD_set_ne true M1] at hu
     exact ER (fun e=>M1 e.symm) (hcov k hk hu)
   ·have M1:j'≠k:=fun e=>by subst e;exact rL hp hk
    rw[getD_set_ne true M1];exact hun k (OV k hk)
   ·by_cases M1:k=j'
    ·subst M1
     rw[nK] at hk ⊢;exact⟨by rw[q6 (fun e=>by subst e;exact rL hp hj1)];exact hk.1,OW _ hq v w1 w2 hk.2 hG⟩
    ·rw[kE M1] at hk ⊢;exact hKs k s1 w1 j1 v1 w2 (OV _ hj1) hk hG
   ·by_cases M1:k=j'
    ·subst M1;rw[nK];exact⟨z7 ..,g1⟩
    ·rw[kE M1];exact hKs k s w j' v w' hmj (hK k) g3
   ·rw[q6 (fun e=>by subst e;exact rL hp hk)]
    exact GS k (OV k hk)
def VA(md:Region.Mode)(ops:Array Oper)(listed:Array Bool)(idx:List Nat):Bool:=
 Region.noSelect ops && (listed.size == ops.size) && ((List.range ops.size).filter (fun j=>!listed.getD j true) == idx) &&
 idx.all (fun j=>match ops[j]? with
  | some oj=>oj.guard.isNone && oj.after.all (fun e=>!Region.binds md e || decide (e.on<j)) && idx.all fun i=>!decide (i<j) || match ops[i]? with
   | some oi=>jS md oj i || oi.apart ops oj
   | none=>false
  | none=>false)
theorem LZ{listed:Array Bool}{idx:List Nat}(h:VA md ops listed idx=true):(∀(j:Nat)(o:Oper) cs b,ops[j]?=some o->o.op≠.select cs b)/\listed.size=ops.size/\(List.range ops.size).filter (fun j=>!listed.getD j true)=idx/\xI md ops idx:=by
 unfold VA at h;simp only[Bool.and_eq_true,beq_iff_eq,List.all_eq_true] at h;obtain⟨⟨⟨h1,h2⟩,h3⟩,h4⟩:=h;refine⟨Region.noSelect_spec h1,h2,h3,fun j hj=>?_,fun i hi j hj rV oi oj hoi OY hw=>?_⟩
 ·have:=h4 j hj
  cases ho:ops[j]? with
  | none=>rw[ho] at this;cases this
  | some o=>
   rw[ho] at this;simp only[Bool.and_eq_true,Option.isNone_iff_eq_none,Array.all_eq_true_iff_forall_mem,Bool.or_eq_true,Bool.not_eq_true',decide_eq_true_eq] at this;exact⟨o,rfl,this.1.1,fun e he hb=>(this.1.2 e he).resolve_left (by simp[hb])⟩
 ·have:=h4 j hj
  rw[OY] at this;simp only[Bool.and_eq_true,List.all_eq_true] at this;have h5:=this.2 i hi;rw[hoi] at h5;simp only[Bool.or_eq_true,Bool.not_eq_true',decide_eq_false_iff_not,hw,Bool.false_eq_true,false_or] at h5;exact h5.resolve_left fun h=>h rV
theorem aHi{S:World->Prop}{L:List Oper}{fuel:Nat}{listed:Array Bool}{a:Act}{w:Wo}(C:qT->World->Prop)(G:World->World->Prop)(rs:List (Nat×(Value->World->Prop)))(hl:rs.length=fuel)(hB:VA md L.toArray listed (rs.map (·.1))=true)(OW:∀p∈rs,∀v w w',p.2 v w->G w w'->p.2 v w')(hCS:∀s w,C s w->S w)(hC:C (fun _=>none) w)(h:xR P md L.toArray C G (Q .normal) rs a fun _ _ _=>True):wpAnyH P md L.toArray Q S fuel listed a w:=by
 obtain⟨h1,h2,h3,h4⟩:=LZ hB;refine LN hCS h1 fuel rs listed a w (fun _ _ _=>True) (fun _=>none) hl h2 ?_ h4 (fun j hj hu=>?_) (fun j hj=>?_) OW (fun _ _ _ _ _ _ _ _ _=>trivial) h hC (fun _=>trivial) fun _ _=>rfl
 ·rw[<-h3];exact List.Pairwise.filter _ List.pairwise_lt_range
 ·rw[<-h3,List.mem_filter,List.mem_range]
  exact⟨hj,by simp only[hu];rfl⟩
 ·rw[<-h3,List.mem_filter] at hj
  simpa using hj.2
theorem jV{i:Nat}{p:Value->World->Prop}{rs:List (Nat×(Value->World->Prop))}{L:List Oper}{a:Act}{K:sI}{o:Oper}(ho:L[i]?=some o)(h1:∀s w,C s w->s i=none->(∀k,jS md o k=true->K k s w)->jU P o a w fun v w'=>p v w'/\C (TJ s i v) w'/\G w w')(h2:∀v,xR P md L.toArray C G Fin rs (a.put o.dst v) (QE K i fun s w=>s i=some v/\p v w)):xR P md L.toArray C G Fin ((i,p)::rs) a K:=⟨o,by rw[List.getElem?_toArray];exact ho,h1,h2⟩
theorem QV{a:Act}{K:sI}(h:∀s w,C s w->(∀k,K k s w)->Fin a w):xR P md ops C G Fin [] a K:=h
def PT(i j:Nat)(s:qT)(w:Wo):Prop:=(∀v,s i=some v->∃g,v=.pointer (some ⟨g,0,none⟩)/\g<w.heap.size)/\(∀v,s j=some v->∃g,v=.pointer (some ⟨g,0,none⟩)/\g<w.heap.size)/\∀g h,s i=some (.pointer (some ⟨g,0,none⟩))->s j=some (.pointer (some ⟨h,0,none⟩))->g≠h
theorem QR(i j:Nat)(w:Wo):PT i j (fun _=>none) w:=⟨fun v h=>(by cases h),fun v h=>(by cases h),fun g h h1=>(by cases h1)⟩
theorem PT.other{s:qT}(h:PT i j s w)(hi:i≠k)(hj:j≠k)(hs:w.heap.size<=w'.heap.size)(v:Value):PT i j (TJ s k v) w':=by
 unfold PT;rw[q6 hi,q6 hj];refine⟨fun v hv=>?_,fun v hv=>?_,h.2.2⟩
 ·obtain⟨g,e,hl⟩:=h.1 v hv
  exact⟨g,e,by omega⟩
 ·obtain⟨g,e,hl⟩:=h.2.1 v hv
  exact⟨g,e,by omega⟩
theorem PT.left{s:qT}(h:PT i j s w)(rV:j≠i)(hs:w.heap.size<w'.heap.size):PT i j (TJ s i (.pointer (some ⟨w.heap.size,0,none⟩))) w':=by
 unfold PT;rw[z7,q6 rV];refine⟨fun v hv=>?_,fun v hv=>?_,fun g k h1 h2=>?_⟩
 ·injection hv with hv
  exact⟨_,hv.symm,hs⟩
 ·obtain⟨g,e,hl⟩:=h.2.1 v hv
  exact⟨g,e,by omega⟩
 ·injection h1 with h1
  injection h1 with h1;injection h1 with h1;injection h1 with h1;obtain⟨g',e,hl⟩:=h.2.1 _ h2;injection e with e;injection e with e;injection e with e;omega
theorem PT.right{s:qT}(h:PT i j s w)(rV:i≠j)(hs:w.heap.size<w'.heap.size):PT i j (TJ s j (.pointer (some ⟨w.heap.size,0,none⟩))) w':=by
 unfold PT;rw[z7,q6 rV];refine⟨fun v hv=>?_,fun v hv=>?_,fun g k h1 h2=>?_⟩
 ·obtain⟨g,e,hl⟩:=h.1 v hv
  exact⟨g,e,by omega⟩
 ·injection hv with hv
  exact⟨_,hv.symm,hs⟩
 ·injection h2 with h2
  injection h2 with h2;injection h2 with h2;injection h2 with h2;obtain⟨g',e,hl⟩:=h.1 _ h1;injection e with e;injection e with e;injection e with e;omega
theorem fX{S:World->Prop}{id:Nat}{a:Act}{w:Wo}{L:List Oper}(n:Nat)(oM oN:Oper)(hm:P.follows .mixedOrders=true)(hs:mX .any L (n+1)=true)(yI:mX .any (L.take (n+1)) n=true)(hM:L[n]?=some oM)(hN:L[n+1]?=some oN)(hS:S w.drew)(h:S w.drew->wpAnyH P .any (L.take n).toArray (hZ P (L.take (n+1)).toArray oM (hZ P L.toArray oN Q)) S n (Array.replicate n false) a w.drew):(Code.region id L.toArray true).wp P Q a w:=by
 obtain⟨h1,h2,h3⟩:=iT hs;have ht:(L.take (n+1)).take n=L.take n:=by rw[List.take_take,Nat.min_eq_left (by omega)]
 refine wp_region_any hm ?_;rw[show L.toArray.size=n+1+1 from by simpa using h1,Array.replicate_succ];have uV:∀(F:List Oper)(k:Nat),jF .any F (Array.replicate k false):=fun F k j o ho hj=>by
  rcases Nat.lt_or_ge j k with h' | h'<;>simp[h'] at hj
 refine gQ hs hN (n+1) _ a _ (by simp) (uV _ _) ?_;rw[Array.replicate_succ];refine gQ yI (by rw[List.getElem?_take_of_lt (by omega)];exact hM) n _ a _ (by simp) (uV _ _) ?_;rw[ht];exact wpAny_of_held _ _ _ _ (h hS)
end
def BL:Nat->Nat->List UInt8
 | 0,_=>[]
 | k+1,r=>BL k (r / 10)++[UInt8.ofNat (48+r % 10)]
theorem JP:∀(k r:Nat),(BL k r).length=k
 | 0,_=>rfl
 | k+1,r=>by rw[BL,jO,JP k];rfl
theorem dX{u:Nat}(h:u<10):Lib.decDigits u=[UInt8.ofNat (48+u)]:=by rw[Lib.decDigits,dif_pos h]
theorem o_{u:Nat}(h:¬u<10):Lib.decDigits u=Lib.decDigits (u / 10)++[UInt8.ofNat (48+u % 10)]:=by rw[Lib.decDigits,dif_neg h]
theorem EP:∀(k q r:Nat),0<q->r<10^k->Lib.decDigits (q*10^k+r)=Lib.decDigits q++BL k r
 | 0,q,r,_,hr=>by
  rw[Nat.pow_zero] at hr ⊢;rw[BL,List.append_nil,Nat.mul_one,show q+r=q from by omega]
 | k+1,q,r,hq,hr=>by
  have h1:1<=10^k:=Nat.one_le_pow _ _ (by decide);have h2:10^(k+1)=10^k*10:=Nat.pow_succ ..;have h3:q*10^(k+1)=q*10^k*10:=by rw[h2,Nat.mul_assoc]
  have h4:1*10^k<=q*10^k:=Nat.mul_le_mul_right _ hq;rw[o_ (by omega),BL,show(q*10^(k+1)+r) / 10=q*10^k+r / 10 from by omega,show(q*10^(k+1)+r) % 10=r % 10 from by omega,
   EP k q (r / 10) hq (by rw[h2] at hr;omega),List.append_assoc]
theorem EJ:∀k:Nat,BL k 0=List.replicate k 48
 | 0=>rfl
 | k+1=>by
  rw[BL,Nat.zero_div,EJ k,List.replicate_succ'];rfl
theorem kQ(u:Nat):1<=(Lib.decDigits u).length:=by
 by_cases h:u<10
 ·rw[dX h];exact lR
 ·rw[o_ h,jO];simp
theorem BK:∀(k r:Nat),1<=k->r<10^k->BL k r=List.replicate (k-(Lib.decDigits r).length) 48++Lib.decDigits r
 | 0,_,h,_=>absurd h (by decide)
 | k+1,r,_,hr=>by
  by_cases h:r<10
  ·rw[dX h,BL,Nat.div_eq_of_lt h,EJ,Nat.mod_eq_of_lt h]
   rfl
  ·have hk:1<=k:=by
    rcases Nat.eq_zero_or_pos k with rfl | h'
    ·simp at hr;omega
    ·exact h'
   rw[o_ h,BL,BK k (r / 10) hk (by rw[Nat.pow_succ] at hr;omega),List.append_assoc,jO,List.length_singleton,Nat.add_sub_add_right]
theorem J4(hk:1<=k)(hr:r<10^k):(Lib.decDigits r).length<=k:=by
 have h:=congrArg List.length (BK k r hk hr);rw[JP,jO] at h;omega
def SG(acc:Nat)(l:List UInt8):Nat:=l.foldl (fun a c=>a*10+(c.toNat-48)) acc
def dv(l:List UInt8):Nat:=SG 0 l
theorem uW:∀(l:List UInt8)(acc:Nat),SG acc l=acc*10^l.length+dv l
 | [],acc=>by simp[SG,dv]
 | c::r,acc=>by
  have h1:=uW r (acc*10+(c.toNat-48));have h2:=uW r (0*10+(c.toNat-48));unfold dv SG at *;rw[List.foldl_cons,List.foldl_cons,h1,h2,G4,Nat.pow_succ];grind
theorem rK(a b:List UInt8):dv (a++b)=dv a*10^b.length+dv b:=by
 have h:dv (a++b)=SG (dv a) b:=by unfold dv SG;rw[List.foldl_append]
 rw[h,uW]
theorem YZ(h:d<10):(UInt8.ofNat (48+d)).toNat-48=d:=by
 have:(UInt8.ofNat (48+d)).toNat=48+d:=by rw[UInt8.toNat_ofNat'];omega
 omega
theorem F4(h:d<10):dv [UInt8.ofNat (48+d)]=d:=by
 show 0*10+((UInt8.ofNat (48+d)).toNat-48)=d;rw[YZ h];omega
theorem sZ(u:Nat):dv (Lib.decDigits u)=u:=by
 induction u using Nat.strongRecOn with
 | _ u ih=>
  by_cases h:u<10
  ·rw[dX h,F4 h]
  ·rw[o_ h,rK,ih (u / 10) (by omega),F4 (by omega)]
   simp;omega
def GH(c:UInt8):Prop:=48<=c.toNat/\c.toNat<=57
theorem F9(u:Nat):∀c∈Lib.decDigits u,GH c:=by
 induction u using Nat.strongRecOn with
 | _ u ih=>
  intro c hc;have key:∀d,d<10->GH (UInt8.ofNat (48+d)):=fun d hd=>by
   have:(UInt8.ofNat (48+d)).toNat=48+d:=by rw[UInt8.toNat_ofNat'];omega
   exact⟨by omega,by omega⟩
  by_cases h:u<10
  ·rw[dX h,List.mem_singleton] at hc
   subst hc;exact key u h
  ·rw[o_ h,List.mem_append,List.mem_singleton] at hc
   rcases hc with hc | rfl
   ·exact ih (u / 10) (by omega) c hc
   ·exact key _ (by omega)
def yE(l:List UInt8):Prop:=l≠[]/\(∀c∈l,GH c)/\(1<l.length->l.head?≠some 48)
theorem Y2(u:Nat):0<u->(Lib.decDigits u).head?≠some 48:=by
 induction u using Nat.strongRecOn with
 | _ u ih=>
  intro hu;by_cases h:u<10
  ·rw[dX h]
   intro he;have he:UInt8.ofNat (48+u)=48:=Option.some.inj he;have:(UInt8.ofNat (48+u)).toNat=48+u:=by rw[UInt8.toNat_ofNat'];omega
   rw[he] at this;have h48:(48:UInt8).toNat=48:=rfl;omega
  ·rw[o_ h,List.head?_append]
   have h1:=ih (u / 10) (by omega) (by omega);have h2:=kQ (u / 10);cases hd:Lib.decDigits (u / 10) with
   | nil=>rw[hd] at h2;simp at h2
   | cons c t=>rw[hd] at h1;simpa using h1
theorem SQ(u:Nat):yE (Lib.decDigits u):=by
 refine⟨fun h=>?_,F9 u,fun h=>?_⟩
 ·have:=kQ u
  rw[h] at this;simp at this
 ·by_cases h0:u=0
  ·subst h0
   rw[dX (by decide)] at h;simp at h
  ·exact Y2 u (by omega)
theorem FU{c:UInt8}(h:GH c):∃d,d<10/\c=UInt8.ofNat (48+d):=by
 refine⟨c.toNat-48,by have:=h.2;omega,?_⟩;apply UInt8.toNat_inj.1;rw[UInt8.toNat_ofNat'];have:=h.1;have:=h.2;omega
theorem aEX:∀{l:List UInt8},l≠[]->(∀c∈l,GH c)->l.head?≠some 48->0<dv l
 | [],h,_,_=>absurd rfl h
 | c::r,_,hd,hh=>by
  obtain⟨d,O1,rfl⟩:=FU (hd c (by simp));have h1:=uW r (0*10+((UInt8.ofNat (48+d)).toNat-48));have h2:dv (UInt8.ofNat (48+d)::r)=SG (0*10+((UInt8.ofNat (48+d)).toNat-48)) r:=rfl;rw[h2,h1,YZ O1];have hd0:d≠0:=fun e=>by subst e;exact hh rfl
  have:1*10^r.length<=(0*10+d)*10^r.length:=Nat.mul_le_mul_right _ (by omega);have:1<=10^r.length:=Nat.one_le_pow _ _ (by decide);omega
theorem lS{l:List UInt8}(h:yE l):Lib.decDigits (dv l)=l:=by
 obtain⟨n,hn⟩:∃n,l.length=n:=⟨_,rfl⟩
 induction n generalizing l with
 | zero=>exact absurd (List.eq_nil_of_length_eq_zero hn) h.1
 | succ n ih=>
  obtain⟨a,c,rfl⟩:∃a c,l=a++[c]:=⟨l.dropLast,l.getLast h.1,(List.dropLast_concat_getLast h.1).symm⟩;obtain⟨d,hd,rfl⟩:=FU (h.2.1 c (by simp));rw[rK,F4 hd];by_cases ha:a=[]
  ·subst ha
   rw[List.nil_append,show dv []=0 from rfl];simp only[List.length_singleton,Nat.pow_one,Nat.zero_mul,Nat.zero_add];exact dX hd
  ·have DB:1<=a.length:=by cases a with | nil=>exact absurd rfl ha | cons _ _=>simp
   have hh:a.head?≠some 48:=by
    have:=h.2.2 (by simp;omega);cases a with
    | nil=>exact absurd rfl ha
    | cons x t=>simpa using this
   have hdg:∀c∈a,GH c:=fun c hc=>h.2.1 c (List.mem_append_left _ hc);have hp:=aEX ha hdg hh;have CO:yE a:=⟨ha,hdg,fun _=>hh⟩;have:=ih CO (by simp at hn;omega);simp only[List.length_singleton,Nat.pow_one];rw[o_ (by omega),show(dv a*10+d) / 10=dv a from by omega,show(dv a*10+d) % 10=d from by omega,this]
theorem F8(h:Lib.decDigits m=Lib.decDigits n):m=n:=by rw[<-sZ m,<-sZ n,h]
theorem JV:∀{l:List UInt8},(∀c∈l,GH c)->dv l<10^l.length:=by
 intro l;obtain⟨n,hn⟩:∃n,l.length=n:=⟨_,rfl⟩
 induction n generalizing l with
 | zero=>intro _;rw[List.eq_nil_of_length_eq_zero hn];decide
 | succ n ih=>
  intro h;have cK:l≠[]:=fun e=>by subst e;simp at hn
  obtain⟨a,c,rfl⟩:∃a c,l=a++[c]:=⟨l.dropLast,l.getLast cK,(List.dropLast_concat_getLast cK).symm⟩;obtain⟨d,hd,rfl⟩:=FU (h c (by simp));have:=ih (l:=a) (by simp at hn;omega) (fun c hc=>h c (List.mem_append_left _ hc));rw[rK,F4 hd,jO,List.length_singleton,Nat.pow_succ];omega
def sF(n:Nat):Nat:=(Lib.decDigits n).length
theorem MH(hk:1<=k)(h:n<10^k):sF n<=k:=J4 hk h
theorem WK(n:Nat):n<10^sF n:=by
 have:=JV (F9 n);rwa[sZ] at this
end
section
def pv:List Nat->Nat
 | []=>0
 | x::r=>x+1000000000*pv r
def ZU(ps:List Nat):Prop:=∀x∈ps,x<1000000000
theorem ON:∀(ps:List Nat)(r:Nat),pv (ps++[r])=pv ps+r*1000000000^ps.length
 | [],r=>by simp[pv]
 | x::t,r=>by
  rw[List.cons_append,pv,ON t r,pv,G4,Nat.pow_succ];grind
theorem Q3(h:ZU ps)(hr:r<1000000000):ZU (ps++[r]):=fun x hx=>(List.mem_append.1 hx).elim (h x) fun h=>by rw[List.mem_singleton.1 h];exact hr
theorem OO(h:ps[k]?=some x):pv (ps.drop k)=x+1000000000*pv (ps.drop (k+1)):=by
 obtain⟨hl,he⟩:=c_.1 h;rw[List.drop_eq_getElem_cons hl,he,pv]
def KR(ps:List Nat):Prop:=∀x,ps.getLast?=some x->0<x
theorem VH:∀{ps:List Nat},KR ps->ps≠[]->0<pv ps
 | [x],h,_=>by
  have:=h x rfl;simp only[pv];omega
 | x::y::r,h,_=>by
  have:=VH (ps:=y::r) (fun z hz=>h z (by rw[List.getLast?_cons_cons];exact hz)) (by simp);rw[pv];omega
theorem L_(h:KR ps)(hk:k<ps.length):0<pv (ps.drop k):=by
 refine VH (fun x hx=>h x ?_) (fun e=>by have:=congrArg List.length e;rw[G5] at this;simp at this;omega);rw[List.getLast?_drop,if_neg (by omega)] at hx;exact hx
def Dg(ps:List Nat)(k:Nat):List UInt8:=if k<ps.length then Lib.decDigits (pv (ps.drop k)) else[]
theorem Y0(ps:List Nat):Dg ps ps.length=[]:=by unfold Dg;rw[if_neg (Nat.lt_irrefl _)]
theorem aEY(h:ps[k]?=some x)(hk:k+1=ps.length):Dg ps k=Lib.decDigits x:=by
 unfold Dg;rw[if_pos (by omega),OO h,List.drop_eq_nil_of_le (by omega),pv,Nat.mul_zero,Nat.add_zero]
theorem aEZ(h:ps[k]?=some x)(hk:k+1<ps.length)(kU:ZU ps)(ht:KR ps):Dg ps k=Dg ps (k+1)++List.replicate (9-(Lib.decDigits x).length) 48++Lib.decDigits x:=by
 unfold Dg;have hx:=kU x (cS h);have hp:=L_ ht hk;rw[if_pos (by omega),if_pos hk,OO h,Nat.add_comm x,Nat.mul_comm,show 1000000000=10^9 from rfl,EP 9 _ x hp hx,BK 9 x (by decide) hx,List.append_assoc]
theorem aE1(h:ps≠[]):Dg ps 0=Lib.decDigits (pv ps):=by
 unfold Dg;rw[if_pos (List.length_pos_iff.2 h),List.drop_zero]
theorem aE0(h:ps[k]?=some x)(kU:ZU ps):1<=(Lib.decDigits x).length/\(Lib.decDigits x).length<=9:=
 ⟨kQ x,J4 (by decide) (kU x (cS h))⟩
theorem sO{a b:Nat}(h:a<=b):10^a<=10^b:=Nat.pow_le_pow_right (by decide) h
theorem aIU:10^2000<=BB 210:=by unfold BB;decide+kernel
theorem aIV:BB 210<=1000000000^225:=by unfold BB;decide+kernel
theorem MK(h:210<cE n):2000<sF n:=by
 have h0:n≠0:=fun e=>by rw[e,fK] at h;omega
 have h1:=aBC h0;have h2:BB 210<=n:=eN (K6 (by omega)) h1;refine Nat.lt_of_not_le fun FW=>?_;have h3:=WK n;have h4:=sO FW;have h5:=aIU;omega
theorem SE{v L:Nat}(hv:cE v<=210)(hg:0<g)(h:g*1000000000^L<=v):L<225:=by
 have h1:=kH v;have h2:v<1000000000^225:=jJ h1 (eN (K6 hv) aIV);have h3:1*1000000000^L<=g*1000000000^L:=Nat.mul_le_mul_right _ hg;exact(Nat.pow_lt_pow_iff_right (a:=1000000000) (by decide)).1 (by omega)
def gR(z:Int):List UInt8:=(if z<0 then[45] else[])++Lib.decDigits z.natAbs
def gW(l:List UInt8):Prop:=∀c∈l,GH c
theorem gW.take{l:List UInt8}(h:gW l)(n:Nat):gW (l.take n):=fun c hc=>h c (List.mem_of_mem_take hc)
theorem gW.drop{l:List UInt8}(h:gW l)(n:Nat):gW (l.drop n):=fun c hc=>h c (List.mem_of_mem_drop hc)
theorem puM:∀(l:List UInt8)(mx acc:Nat),gW l->mx<=4294967295->SG acc l<=mx->Lib.parseUintM mx acc l=.ok (SG acc l)
 | [],mx,acc,_,_,_=>rfl
 | c::r,mx,acc,h,h4,hm=>by
  have hc:=h c (List.mem_cons_self ..);have hr:gW r:=fun x hx=>h x (List.mem_cons_of_mem _ hx);have e:SG acc (c::r)=SG (acc*10+(c.toNat-48)) r:=rfl;rw[e] at hm ⊢;have FW:acc*10+(c.toNat-48)<=SG (acc*10+(c.toNat-48)) r:=by
   rw[uW];have:1<=10^r.length:=Nat.one_le_pow _ _ (by decide);have:=Nat.mul_le_mul_left (acc*10+(c.toNat-48)) this;omega
  have ih:=puM r mx _ hr h4 hm;unfold Lib.parseUintM;rw[if_pos (show 48<=c.toNat/\c.toNat<=57 from hc),if_neg (by omega),if_neg (by omega)];exact ih
theorem aLA{l:List UInt8}(h:gW l)(h0:l≠[])(h9:l.length<=9):Lib.parseUintB 32 l=.ok (dv l):=by
 unfold Lib.parseUintB;rw[if_neg h0];refine puM l _ 0 h (by decide) ?_;have h1:=JV h;have h2:10^l.length<=10^9:=Nat.pow_le_pow_right (by decide) h9;show dv l<=_;omega
theorem aB8(l m:List UInt8)(h:l=[]\/m.length=9):dv (l++m)=dv l*1000000000+dv m:=by
 rw[rK];rcases h with rfl | h
 ·simp[dv,SG]
 ·rw[h]
theorem F5{l:List UInt8}(h:gW l):cE (dv l)<=l.length:=by
 refine gI (jJ (JV h) ?_);exact Nat.pow_le_pow_left (by decide) _
end
