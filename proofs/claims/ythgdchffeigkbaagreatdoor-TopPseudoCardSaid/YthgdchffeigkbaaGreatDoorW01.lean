import Derived.Test.YthgdchffeigkbaaGreatDoorW00
import Derived.Lib.Hide
import Derived.OrdersHeld
import Derived.Deep.RegionHeld
import Derived.Shelf.Strings.Builder1
import Derived.Shelf.Small.Bits
import Derived.Shelf.Strings.BuilderF
import Derived.Shelf.Strings.BuilderK
import Derived.Shelf.Strconv.Itoa0
import Derived.Shelf.Strconv.Itoa1
import Derived.Shelf.LaysM
import Derived.Shelf.Strconv.Itoa2
import Derived.Ground.MpProg
import Derived.Shelf.Pu.ParseUintPublic10
import Derived.Shelf.Strings.Search1
import Derived.Shelf.Strings.Search2
import Derived.Shelf.Strings.Cut
import Derived.Shelf.Strings.Shaped
import Derived.Shelf.Strings.Prefix
import Derived.Shelf.Bits.Mul64
import Derived.Shelf.Strings.BuilderCap
import Derived.Shelf.Slices.Turned
import Derived.Test.YthgdchffeigkbaaGreatDoorProg
import Derived.Lib.ItoaNum
import Derived.Lib.ParseIntB
set_option linter.unusedVariables false
set_option linter.unusedSimpArgs false
namespace Go.Proofs.YthgdchffeigkbaaGreatDoor
variable {L : List Oper} {a b l out ps q u u0 v : List Nat} {bo : Int} {c ca d g i j k m n r s x : Nat} {o : Oper} {ops : Array Oper} {w w' : World}
section
def wv:List Nat->Nat
 | []=>0
 | x::r=>x+4294967296*wv r
def Wd(l:List Nat):Prop:=∀x∈l,x<4294967296
def BB(k:Nat):Nat:=4294967296^k
theorem w_:BB 0=1:=rfl
theorem eM(k:Nat):BB (k+1)=BB k*4294967296:=Nat.pow_succ ..
theorem zL(j k:Nat):BB (j+k)=BB j*BB k:=Nat.pow_add ..
theorem OQ(k:Nat):0<BB k:=Nat.pow_pos (by decide)
theorem S4(h:j<=k):BB j<=BB k:=Nat.pow_le_pow_right (by decide) h
theorem Wd.tail(h:Wd (x::l)):Wd l:=fun y hy=>h y (List.mem_cons_of_mem _ hy)
theorem Wd.head(h:Wd (x::l)):x<4294967296:=h x (List.mem_cons_self ..)
theorem Wd.take(h:Wd l)(k:Nat):Wd (l.take k):=fun y hy=>h y (List.mem_of_mem_take hy)
theorem Wd.drop(h:Wd l)(k:Nat):Wd (l.drop k):=fun y hy=>h y (List.mem_of_mem_drop hy)
theorem Wd.getD(h:Wd l)(k:Nat):l.getD k 0<4294967296:=by
 rw[dH];cases hk:l[k]? with
 | none=>simp
 | some x=>exact h x (bS hk)
theorem Wd.set(h:Wd l)(k:Nat)(hx:x<4294967296):Wd (l.set k x):=fun y hy=>by
 rcases List.mem_or_eq_of_mem_set hy with hy | rfl
 ·exact h y hy
 ·exact hx
theorem aCR:Wd []:=fun x h=>by cases h
theorem pW(n:Nat):Wd (List.replicate n 0):=fun x h=>by rw[List.eq_of_mem_replicate h];decide
theorem pU:∀n:Nat,wv (List.replicate n 0)=0
 | 0=>rfl
 | n+1=>by rw[List.replicate_succ,wv,pU n]
theorem B9:∀l m:List Nat,wv (l++m)=wv l+BB l.length*wv m
 | [],m=>by rw[List.nil_append,zW_,w_,wv,Nat.one_mul,Nat.zero_add]
 | x::r,m=>by
  rw[List.cons_append,wv,wv,B9 r m,EX,eM];grind
theorem DW:∀{l:List Nat},Wd l->wv l<BB l.length
 | [],_=>by simp[wv,w_]
 | x::r,h=>by
  have h1:=DW h.tail;have h2:=h.head;rw[wv,EX,eM];omega
theorem uT(l:List Nat)(k:Nat)(hk:k<=l.length):wv l=wv (l.take k)+BB k*wv (l.drop k):=by
 conv=>lhs;rw[<-List.take_append_drop k l]
 rw[B9,jN,Nat.min_eq_left hk]
theorem cV(l:List Nat)(k:Nat):wv (l.take (k+1))=wv (l.take k)+l.getD k 0*BB k:=by
 rw[List.take_add_one,B9,dH];cases hk:l[k]? with
 | none=>simp[wv]
 | some x=>
  have:=(cY.1 hk).1;simp only[Option.toList_some,Option.getD_some,wv,jN];rw[Nat.min_eq_left (by omega)];grind
theorem uU:∀(l:List Nat)(k x:Nat),k<l.length->wv (l.set k x)+l.getD k 0*BB k=wv l+x*BB k
 | [],_,_,h=>absurd h (by simp)
 | y::r,0,x,_=>by simp only[List.set_cons_zero,wv,List.getD_cons_zero,w_];omega
 | y::r,k+1,x,h=>by
  have:=uU r k x (by simpa using h);simp only[List.set_cons_succ,wv,List.getD_cons_succ,eM];grind
theorem yD(h:k≠j):(l.set k x).getD j 0=l.getD j 0:=by
 rw[dH,List.getElem?_set_ne h,dH]
theorem TP(n k:Nat):(List.replicate n 0).getD k 0=0:=by
 rw[dH,List.getElem?_replicate];split<;>rfl
theorem CC(h:l.length<=k):l.getD k 0=0:=by
 rw[dH,List.getElem?_eq_none h];rfl
def j_(n:Nat):List Nat:=if h:n=0 then[] else n % 4294967296::j_ (n / 4294967296)
termination_by n
decreasing_by exact Nat.div_lt_self (by omega) (by decide)
theorem mT:j_ 0=[]:=by unfold j_;simp
theorem nS(h:n≠0):j_ n=n % 4294967296::j_ (n / 4294967296):=by rw[j_,dif_neg h]
theorem dV(n:Nat):wv (j_ n)=n:=by
 induction n using Nat.strongRecOn with
 | _ n ih=>
  by_cases h:n=0
  ·subst h;rw[mT,wv]
  ·rw[nS h,wv,ih _ (Nat.div_lt_self (by omega) (by decide))]
   omega
theorem gU(n:Nat):Wd (j_ n):=by
 induction n using Nat.strongRecOn with
 | _ n ih=>
  by_cases h:n=0
  ·subst h;rw[mT];exact aCR
  ·rw[nS h]
   intro x hx;rcases List.mem_cons.1 hx with rfl | hx
   ·omega
   ·exact ih _ (Nat.div_lt_self (by omega) (by decide)) x hx
def Nrm(l:List Nat):Prop:=Wd l/\l.getLast?≠some 0
theorem aIi(n:Nat):Nrm (j_ n):=by
 refine⟨gU n,?_⟩
 induction n using Nat.strongRecOn with
 | _ n ih=>
  by_cases h:n=0
  ·subst h;rw[mT];simp
  ·rw[nS h]
   by_cases h2:n / 4294967296=0
   ·rw[h2,mT];simp;omega
   ·have:=ih _ (Nat.div_lt_self (by omega) (by decide):n / 4294967296<n)
    rw[nS h2] at this ⊢;simpa using this
theorem aFL:∀{l:List Nat},Nrm l->j_ (wv l)=l
 | [],_=>by rw[wv,mT]
 | x::r,h=>by
  have hx:=h.1.head;cases r with
  | nil=>
   have:x≠0:=fun e=>h.2 (by rw[e];rfl);rw[wv,wv,nS (by omega)];rw[show(x+4294967296*0) % 4294967296=x from by omega,show(x+4294967296*0) / 4294967296=0 from by omega,mT]
  | cons y t=>
   have hn:Nrm (y::t):=⟨h.1.tail,by have:=h.2;simpa using this⟩;have ih:=aFL hn;have cG:wv (y::t)≠0:=fun e=>by rw[e,mT] at ih;cases ih
   rw[wv,nS (by omega)];rw[show(x+4294967296*wv (y::t)) % 4294967296=x from by omega,show(x+4294967296*wv (y::t)) / 4294967296=wv (y::t) from by omega,ih]
def dA(n:Nat):Nat:=(j_ n).length
theorem iL:dA 0=0:=by unfold dA;rw[mT];rfl
theorem jX(h:n≠0):dA n=dA (n / 4294967296)+1:=by unfold dA;rw[nS h];rfl
theorem nP(n:Nat):n<BB (dA n):=by
 have:=DW (gU n);rwa[dV] at this
theorem kI(h:n<BB k):dA n<=k:=by
 induction k generalizing n with
 | zero=>rw[w_] at h;rw[show n=0 from by omega,iL];exact Nat.le_refl 0
 | succ k ih=>
  by_cases h0:n=0
  ·rw[h0,iL];omega
  ·rw[jX h0]
   have:n / 4294967296<BB k:=by rw[eM] at h;exact(Nat.div_lt_iff_lt_mul (by decide)).2 h
   have:=ih this;omega
theorem aIs(h:n≠0):BB (dA n-1)<=n:=by
 refine Nat.le_of_not_lt fun hn=>?_;have:=kI hn;have:dA n≠0:=by rw[jX h];omega
 omega
theorem kH(h:m<=n):dA m<=dA n:=kI (zT_ h (nP n))
theorem G8(h:dA m<dA n):m<n:=Nat.lt_of_not_le fun hn=>by have:=kH hn;omega
theorem aFF(m n:Nat):dA (m+n)<=max (dA m) (dA n)+1:=by
 refine kI ?_;have h1:=kA (nP m) (S4 (Nat.le_max_left (dA m) (dA n)));have h2:=kA (nP n) (S4 (Nat.le_max_right (dA m) (dA n)));rw[eM];omega
theorem BC(m n:Nat):dA (m*n)<=dA m+dA n:=by
 refine kI ?_;rw[zL];have h1:=nP m;have h2:=nP n;exact Nat.mul_lt_mul_of_lt_of_le h1 (oO h2) (OQ _)
theorem sP(h:n≠0)(h2:n<4294967296):dA n=1:=by rw[jX h,Nat.div_eq_of_lt h2,iL]
theorem tT(n:Nat):(j_ n).length=dA n:=rfl
theorem aAa(hk:0<k)(hl:k<=l.length)(h0:l.getD (k-1) 0=0):wv (l.take (k-1))=wv (l.take k):=by
 have:=cV l (k-1);rw[h0,Nat.zero_mul,Nat.add_zero,Nat.sub_add_cancel hk] at this;exact this.symm
theorem aCZ(hd:Wd l)(hl:k<=l.length)(hz:k=0\/l.getD (k-1) 0≠0):l.take k=j_ (wv (l.take k)):=by
 refine(aFL ⟨hd.take k,?_⟩).symm;rcases hz with rfl | hz
 ·simp
 ·intro h
  rw[List.getLast?_eq_getElem?,jN,Nat.min_eq_left hl] at h;by_cases hk:k=0
  ·subst hk;simp at h
  ·rw[List.getElem?_take_of_lt (by omega)] at h
   rw[dH,h] at hz;exact hz rfl
theorem aCP{m:List Nat}(hl:Wd l)(d8:l.length=m.length)(hi:i<l.length)(hd:l.drop (i+1)=m.drop (i+1))(h:l.getD i 0<m.getD i 0):wv l<wv m:=by
 rw[uT l (i+1) (by omega),uT m (i+1) (by omega),hd,cV,cV];have h1:wv (l.take i)<BB i:=by
  have:=DW (hl.take i);rwa[jN,Nat.min_eq_left (by omega)] at this
 have h2:(l.getD i 0+1)*BB i<=m.getD i 0*BB i:=Nat.mul_le_mul_right _ h;rw[Nat.add_mul,Nat.one_mul] at h2;omega
theorem N1{m:List Nat}(d8:l.length=m.length)(hi:i<l.length)(hd:l.drop (i+1)=m.drop (i+1))(h:l.getD i 0=m.getD i 0):l.drop i=m.drop i:=by
 rw[List.drop_eq_getElem_cons hi,List.drop_eq_getElem_cons (by omega:i<m.length),hd];congr 1
 rw[dH,dH,gS hi,gS (by omega)] at h;exact h
def Zf(l:List Nat)(i:Nat):Prop:=∀j,i<=j->l.getD j 0=0
theorem rZ(n i:Nat):Zf (List.replicate n 0) i:=fun j _=>TP n j
theorem Zf.set(h:Zf l i)(hk:k<i):Zf (l.set k x) i:=fun j hj=>by rw[yD (by omega)];exact h j hj
theorem Zf.put(h:Zf l i):Zf (l.set i x) (i+1):=fun j hj=>by rw[yD (by omega)];exact h j (by omega)
theorem Zf.mono(h:Zf l i)(hj:i<=j):Zf l j:=fun k hk=>h k (by omega)
theorem B8(h:Zf l i)(hi:i<l.length):wv (l.set i x)=wv l+x*BB i:=by
 have:=uU l i x hi;rw[h i lR,Nat.zero_mul,Nat.add_zero] at this;exact this
theorem aGe(ha:Wd a)(hb:Wd b)(hi:i<out.length)(hz:Zf out i)(hc:c<=1)(hI:wv out+c*BB i=wv (a.take i)+wv (b.take i)):(c+a.getD i 0+b.getD i 0) / 4294967296<=1/\wv (out.set i ((c+a.getD i 0+b.getD i 0) % 4294967296))+(c+a.getD i 0+b.getD i 0) / 4294967296*BB (i+1)=wv (a.take (i+1))+wv (b.take (i+1)):=by
 have h1:=ha.getD i;have h2:=hb.getD i;generalize hs:c+a.getD i 0+b.getD i 0=s;refine⟨by omega,?_⟩;rw[B8 hz hi,cV,cV,eM];have h3:=Nat.div_add_mod s 4294967296;have h4:s % 4294967296*BB i+s / 4294967296*(BB i*4294967296)=s*BB i:=by grind
 rw[<-hs] at h4 ⊢;generalize (c+a.getD i 0+b.getD i 0) / 4294967296=q at *;generalize (c+a.getD i 0+b.getD i 0) % 4294967296=r at *;rw[Nat.add_mul,Nat.add_mul] at h4;omega
theorem ZI{v:Nat}(hn:n<out.length)(hz:Zf out n)(hI:wv out+c*BB n=v):wv (out.set n c)=v:=by rw[B8 hz hn];exact hI
theorem aC7{c:Int}(ha:Wd a)(hb:Wd b)(hi:i<out.length)(hz:Zf out i)(hc:-1<=c)(VP:c<=0)(hI:(wv out:Int)+c*(BB i:Int)=(wv (a.take i):Int)-(wv (b.take i):Int)):-1<=(c+a.getD i 0-b.getD i 0) / 4294967296/\(c+a.getD i 0-b.getD i 0) / 4294967296<=0/\(wv (out.set i ((c+a.getD i 0-b.getD i 0) % 4294967296).toNat):Int)+(c+a.getD i 0-b.getD i 0) / 4294967296*(BB (i+1):Int)=(wv (a.take (i+1)):Int)-(wv (b.take (i+1)):Int):=by
 have h1:=ha.getD i;have h2:=hb.getD i;rw[B8 hz hi,cV,cV,eM];generalize a.getD i 0=x at *;generalize b.getD i 0=y at *;refine⟨by omega,by omega,?_⟩;have h3:(((c+x-y) % 4294967296).toNat:Int)=(c+x-y) % 4294967296:=by omega
 have h4:=Int.mul_ediv_add_emod (c+x-y) 4294967296;generalize (c+(x:Int)-y) / 4294967296=q at *;generalize ((c+(x:Int)-y) % 4294967296)=r at *;simp only[Int.natCast_add,Int.natCast_mul,h3];grind
theorem aHO{c:Int}(hc:-1<=c)(VP:c<=0)(ho:Wd out)(KA:wv b<=wv a)(hI:(wv out:Int)+c*(BB out.length:Int)=(wv a:Int)-(wv b:Int)):wv out=wv a-wv b:=by
 have h1:=DW ho;have h2:c=0:=by
  rcases(by omega:c=-1\/c=0) with rfl | rfl
  ·omega
  ·rfl
 subst h2;omega
theorem aD5{W:Nat}(hb:Wd b)(ho:Wd out)(hx:x<4294967296)(hc:c<4294967296)(hi:i+k<out.length)(hI:wv out+c*BB (i+k)=W+x*wv (b.take k)*BB i):(c+out.getD (i+k) 0+x*b.getD k 0)<18446744073709551616/\(c+out.getD (i+k) 0+x*b.getD k 0) / 4294967296<4294967296/\wv (out.set (i+k) ((c+out.getD (i+k) 0+x*b.getD k 0) % 4294967296))+(c+out.getD (i+k) 0+x*b.getD k 0) / 4294967296*BB (i+(k+1))=W+x*wv (b.take (k+1))*BB i:=by
 have h1:=hb.getD k;have h2:=ho.getD (i+k);have h3:x*b.getD k 0<=4294967295*4294967295:=Nat.mul_le_mul (by omega) (by omega);have h5:=uU out (i+k) ((c+out.getD (i+k) 0+x*b.getD k 0) % 4294967296) hi;generalize hs:c+out.getD (i+k) 0+x*b.getD k 0=s at *;refine⟨by omega,by omega,?_⟩;rw[cV,<-Nat.add_assoc i k 1,eM];have h4:=Nat.div_add_mod s 4294967296;have yZ:BB (i+k)=BB i*BB k:=zL i k;generalize s / 4294967296=q at *;generalize s % 4294967296=r at *;generalize b.getD k 0=y at *;generalize out.getD (i+k) 0=z at *;have h6:r*BB (i+k)+q*(BB (i+k)*4294967296)=s*BB (i+k):=by rw[<-h4];grind
 rw[<-hs] at h6;have h7:x*(wv (b.take k)+y*BB k)*BB i=x*wv (b.take k)*BB i+x*y*BB (i+k):=by rw[yZ];grind
 rw[h7];have h8:(c+z+x*y)*BB (i+k)=c*BB (i+k)+z*BB (i+k)+x*y*BB (i+k):=by grind
 rw[h8] at h6;omega
theorem aIm(hn:i+b.length<out.length)(hz:Zf out (i+b.length))(hI:wv out+c*BB (i+b.length)=wv (a.take i)*wv b+a.getD i 0*wv b*BB i):wv (out.set (i+b.length) c)=wv (a.take (i+1))*wv b:=by
 rw[B8 hz hn,hI,cV];grind
theorem aAq(ha:Wd a)(hl:a.length=out.length)(hd:0<d)(hd2:d<4294967296)(hr:r<d)(hi:i<a.length)(hI:wv (a.drop (i+1))=d*wv (out.drop (i+1))+r):(r*4294967296+a.getD i 0) / d<4294967296/\wv (a.drop i)=d*wv ((out.set i ((r*4294967296+a.getD i 0) / d)).drop i)+(r*4294967296+a.getD i 0) % d:=by
 have h1:=ha.getD i;have h2:(r*4294967296+a.getD i 0)<d*4294967296:=by
  have:(r+1)*4294967296<=d*4294967296:=Nat.mul_le_mul_right _ hr;omega
 refine⟨(Nat.div_lt_iff_lt_mul hd).2 (by omega),?_⟩;rw[List.drop_eq_getElem_cons hi,List.drop_eq_getElem_cons (by simpa using by omega:i<(out.set i _).length),wv,wv,hI];have h3:a[i]=a.getD i 0:=by rw[dH,gS hi];rfl
 have h5:(out.set i ((r*4294967296+a.getD i 0) / d)).drop (i+1)=out.drop (i+1):=by rw[List.drop_set_of_lt (by omega)]
 rw[h3,h5];have h6:(out.set i ((r*4294967296+a.getD i 0) / d))[i]'(by simp;omega)=(r*4294967296+a.getD i 0) / d:=by simp
 rw[h6];clear h5 h6 h3;have h4:=Nat.div_add_mod (r*4294967296+a.getD i 0) d;generalize (r*4294967296+a.getD i 0) / d=q at *;generalize (r*4294967296+a.getD i 0) % d=t at *;grind
end
section
theorem O0(h:wv l<BB k):Zf l k:=by
 intro j hj;refine Classical.byContradiction fun cG=>?_;have rS:j<l.length:=Classical.byContradiction fun hn=>cG (CC (by omega));have h1:wv (l.take (j+1))<=wv l:=by rw[uT l (j+1) (by omega)];omega
 rw[cV] at h1;have h2:1*BB j<=l.getD j 0*BB j:=Nat.mul_le_mul_right _ (by omega);have h3:=S4 hj;omega
theorem aHA(h:Zf l k):wv (l.drop k)=0:=by
 have e:l.drop k=List.replicate (l.length-k) 0:=by
  apply List.ext_getElem?;intro i;rw[List.getElem?_drop,List.getElem?_replicate];split
  ·rename_i hi
   have:=h (k+i) (by omega);rw[dH,gS (by omega)] at this;rw[gS (by omega)];simpa using this
  ·rw[List.getElem?_eq_none (by omega)]
 rw[e,pU]
theorem vU(h:Zf l k)(hk:k<=l.length):wv l=wv (l.take k):=by
 rw[uT l k hk,aHA h,Nat.mul_zero,Nat.add_zero]
theorem aJ3(hd:Wd l)(h:Zf l k)(hk:k<=l.length):wv l<BB k:=by
 rw[vU h hk];have:=DW (hd.take k);rwa[jN,Nat.min_eq_left hk] at this
theorem aHT(ha:Wd a)(hs:s<=31)(hi:i<out.length)(hz:Zf out i)(hc:c<2^s)(hI:wv out+c*BB i=wv (a.take i)*2^s):c+a.getD i 0*2^s<18446744073709551616/\(c+a.getD i 0*2^s) / 4294967296<2^s/\wv (out.set i ((c+a.getD i 0*2^s) % 4294967296))+(c+a.getD i 0*2^s) / 4294967296*BB (i+1)=wv (a.take (i+1))*2^s:=by
 have h1:=ha.getD i;rw[B8 hz hi,cV,eM];generalize a.getD i 0=x at *;have hp:0<2^s:=Nat.pow_pos (by decide);have JQ:2^s<=2147483648:=Nat.pow_le_pow_right (by decide) hs;generalize 2^s=p at *;have h2:x*p+p<=4294967296*p:=by
  have:(x+1)*p<=4294967296*p:=Nat.mul_le_mul_right _ h1;rwa[Nat.add_mul,Nat.one_mul] at this
 have h3:c+x*p<p*4294967296:=by omega
 refine⟨by omega,(Nat.div_lt_iff_lt_mul (by decide)).2 h3,?_⟩;have h4:=Nat.div_add_mod (c+x*p) 4294967296;generalize hq:(c+x*p) / 4294967296=q at *;generalize (c+x*p) % 4294967296=r at *;clear h3 h2 JQ;grind
theorem aHH(hn:2<=n)(hl:n<=l.length)(hz:Zf l n):wv l=wv (l.take (n-2))+l.getD (n-2) 0*BB (n-2)+l.getD (n-1) 0*BB (n-1):=by
 rw[vU hz hl];obtain⟨k,rfl⟩:∃k,n=k+2:=⟨n-2,by omega⟩;rw[show k+2-2=k from by omega,show k+2-1=k+1 from by omega,cV,cV]
theorem NF(hn:1<=n)(hl:n<=l.length)(hz:Zf l n):wv l=wv (l.take (n-1))+l.getD (n-1) 0*BB (n-1):=by
 rw[vU hz hl];obtain⟨k,rfl⟩:∃k,n=k+1:=⟨n-1,by omega⟩;rw[show k+1-1=k from by omega,cV]
theorem pX(h:Wd l)(hk:k<=l.length):wv (l.take k)<BB k:=by
 have:=DW (h.take k);rwa[jN,Nat.min_eq_left hk] at this
structure gR (u v:List Nat) (n j:Nat):Prop where
 n2:2<=n
 vl:v.length=n
 vd:Wd v
 v1:2147483648<=v.getD (n-1) 0
 ul:j+n<u.length
 ud:Wd u
 lt:wv u<wv v*BB (j+1)
namespace gR
variable {L : List Oper} {a b l out ps q u u0 v : List Nat} {bo : Int} {c ca d g i j k m n r s x : Nat} {o : Oper} {ops : Array Oper} {w w' : World}
variable {u v:List Nat} {n j:Nat}
theorem vz(H:gR u v n j):Zf v n:=fun k hk=>CC (by rw[H.vl];exact hk)
theorem vlt(H:gR u v n j):wv v<BB n:=by have:=DW H.vd;rwa[H.vl] at this
theorem uz(H:gR u v n j):Zf u (j+n+1):=by
 refine O0 (kA H.lt ?_);rw[show j+n+1=n+(j+1) from by omega,zL n (j+1)];exact Nat.mul_le_mul_right _ (oO H.vlt)
def tp(u:List Nat)(n j:Nat):Nat:=u.getD (j+n) 0*4294967296+u.getD (j+n-1) 0
theorem uval(H:gR u v n j):∃lo,lo<BB (j+n-2)/\wv u=lo+(tp u n j*4294967296+u.getD (j+n-2) 0)*BB (j+n-2):=by
 have h2:=H.n2;have hul:=H.ul;refine⟨wv (u.take (j+n-2)),pX H.ud (by omega),?_⟩;have h:=vU H.uz (by omega);obtain⟨k,hk⟩:∃k,j+n=k+2:=⟨j+n-2,by omega⟩;rw[hk] at h ⊢;rw[h,cV,cV,cV];unfold tp;rw[hk,show k+2-2=k from by omega,show k+2-1=k+1 from by omega,show BB (k+2)=BB k*4294967296*4294967296 from by rw[eM,eM],eM];clear h hul hk h2 H;generalize u.getD (k+2) 0=x;generalize u.getD (k+1) 0=y;generalize u.getD k 0=z;generalize BB k=P;grind
theorem vval(H:gR u v n j):∃lo,lo<BB (n-2)/\wv v=lo+(v.getD (n-1) 0*4294967296+v.getD (n-2) 0)*BB (n-2):=by
 have h2:=H.n2;refine⟨wv (v.take (n-2)),pX H.vd (by rw[H.vl];omega),?_⟩;have h:=aHH h2 (by rw[H.vl];exact lR) H.vz;rw[show BB (n-1)=BB (n-2)*4294967296 from by rw[<-eM];congr 1;omega] at h;rw[h];clear h h2 H;generalize v.getD (n-1) 0=x;generalize v.getD (n-2) 0=y;generalize BB (n-2)=P;grind
theorem bb(H:gR u v n j):BB (j+n-2)=BB j*BB (n-2):=by rw[<-zL];congr 1;have:=H.n2;omega
theorem top_lt(H:gR u v n j):tp u n j<(v.getD (n-1) 0+1)*4294967296:=by
 obtain⟨lo,h1,h2⟩:=H.uval;obtain⟨lv,g1,g2⟩:=H.vval;have aR:=H.lt;have kU:=H.vd.getD (n-2);rw[h2,g2,H.bb,eM] at aR;have hp:=OQ (n-2);have hq:=OQ j;generalize tp u n j=t at *;generalize v.getD (n-1) 0=x at *;generalize v.getD (n-2) 0=y at *;generalize u.getD (j+n-2) 0=z at *;generalize BB (n-2)=P at *;generalize BB j=Q at *;refine Nat.lt_of_not_le fun hn=>?_;have e1:(x+1)*4294967296*4294967296*(Q*P)<=t*4294967296*(Q*P):=Nat.mul_le_mul_right _ (Nat.mul_le_mul_right _ hn);have e2:(lv+(x*4294967296+y)*P)*(Q*4294967296)<=((x*4294967296+y)*P+P)*(Q*4294967296):=Nat.mul_le_mul_right _ (by omega);have e3:((x*4294967296+y+1)*P)*(Q*4294967296)<=((x+1)*4294967296)*P*(Q*4294967296):=Nat.mul_le_mul_right _ (Nat.mul_le_mul_right _ (by omega));have e4:((x*4294967296+y)*P+P)=(x*4294967296+y+1)*P:=by grind
 rw[e4] at e2;have e5:((x+1)*4294967296)*P*(Q*4294967296)=(x+1)*4294967296*4294967296*(Q*P):=by grind
 rw[e5] at e3;have e6:(t*4294967296+z)*(Q*P)=t*4294967296*(Q*P)+z*(Q*P):=by grind
 rw[e6] at aR;omega
end gR
structure S2 (u v:List Nat) (n j g rest:Nat):Prop where
 eq:g*v.getD (n-1) 0+rest=gR.tp u n j
 up:wv u<(g+1)*(wv v*BB j)
theorem RJ(H:gR u v n j):S2 u v n j (gR.tp u n j / v.getD (n-1) 0) (gR.tp u n j % v.getD (n-1) 0):=by
 have nA:=H.v1;refine⟨by rw[Nat.mul_comm];exact Nat.div_add_mod _ _,?_⟩;obtain⟨lo,h1,h2⟩:=H.uval;obtain⟨lv,g1,g2⟩:=H.vval;have hz:=H.ud.getD (j+n-2);have ht:=Nat.lt_mul_div_succ (gR.tp u n j) (show 0<v.getD (n-1) 0 from by omega);rw[h2,g2];rw[H.bb] at h1 ⊢;generalize gR.tp u n j / v.getD (n-1) 0=g at *;generalize gR.tp u n j=t at *;generalize v.getD (n-1) 0=x at *;generalize v.getD (n-2) 0=y at *;generalize u.getD (j+n-2) 0=z at *;generalize BB (n-2)=P at *;generalize BB j=Q at *;have e1:(t+1)*4294967296*(Q*P)<=(x*(g+1))*4294967296*(Q*P):=Nat.mul_le_mul_right _ (Nat.mul_le_mul_right _ ht);have e2:(z+1)*(Q*P)<=4294967296*(Q*P):=Nat.mul_le_mul_right _ hz;have e3:(g+1)*((x*4294967296)*P*Q)<=(g+1)*((lv+(x*4294967296+y)*P)*Q):=by
  refine Nat.mul_le_mul_left _ (Nat.mul_le_mul_right _ ?_);have:x*4294967296*P<=(x*4294967296+y)*P:=Nat.mul_le_mul_right _ (Nat.le_add_right _ _);exact b_ this (Nat.le_add_left _ _)
 have e4:(g+1)*((x*4294967296)*P*Q)=(x*(g+1))*4294967296*(Q*P):=by grind
 have e5:(t+1)*4294967296*(Q*P)=t*4294967296*(Q*P)+4294967296*(Q*P):=by grind
 have e6:(z+1)*(Q*P)=z*(Q*P)+Q*P:=by grind
 have e7:(t*4294967296+z)*(Q*P)=t*4294967296*(Q*P)+z*(Q*P):=by grind
 rw[e4] at e3;rw[e5] at e1;rw[e6] at e2;rw[e7];omega
theorem IN{rest:Nat}(H:gR u v n j)(G:S2 u v n j g rest)(ht:4294967296<=g\/rest*4294967296+u.getD (j+n-2) 0<g*v.getD (n-2) 0):1<=g/\S2 u v n j (g-1) (rest+v.getD (n-1) 0):=by
 have hg:1<=g:=by
  rcases ht with h | h
  ·omega
  ·refine Nat.one_le_iff_ne_zero.2 fun e=>?_
   rw[e,Nat.zero_mul] at h;omega
 obtain⟨k,rfl⟩:∃k,g=k+1:=⟨g-1,by omega⟩;refine⟨hg,?_,?_⟩
 ·have:=G.eq
  rw[show k+1-1=k from by omega,<-this];grind
 ·rw[show k+1-1=k from by omega]
  rcases ht with h | h
  ·refine kA H.lt ?_
   have e:wv v*BB (j+1)=4294967296*(wv v*BB j):=by rw[eM,<-Nat.mul_assoc,Nat.mul_comm]
   rw[e];generalize wv v*BB j=X;exact Nat.mul_le_mul_right X h
  ·obtain⟨lo,h1,h2⟩:=H.uval
   obtain⟨lv,g1,g2⟩:=H.vval;have LR:=G.eq;rw[h2,g2];rw[H.bb] at h1 ⊢;generalize gR.tp u n j=t at *;generalize v.getD (n-1) 0=x at *;generalize v.getD (n-2) 0=y at *;generalize u.getD (j+n-2) 0=z at *;generalize BB (n-2)=P at *;generalize BB j=Q at *;have e1:t*4294967296+z+1<=(k+1)*(x*4294967296+y):=by
    rw[<-LR];have:(k+1)*(x*4294967296+y)=(k+1)*x*4294967296+(k+1)*y:=by grind
    omega
   have e2:(t*4294967296+z+1)*(Q*P)<=(k+1)*(x*4294967296+y)*(Q*P):=Nat.mul_le_mul_right _ e1;have e3:(k+1)*((x*4294967296+y)*P*Q)<=(k+1)*((lv+(x*4294967296+y)*P)*Q):=Nat.mul_le_mul_left _ (Nat.mul_le_mul_right _ (Nat.le_add_left _ _));have e4:(k+1)*((x*4294967296+y)*P*Q)=(k+1)*(x*4294967296+y)*(Q*P):=by grind
   have e5:(t*4294967296+z+1)*(Q*P)=(t*4294967296+z)*(Q*P)+Q*P:=by grind
   rw[e4] at e3;rw[e5] at e2;omega
structure wZ (u v:List Nat) (j g:Nat):Prop where
 lt:g<4294967296
 up:wv u<(g+1)*(wv v*BB j)
 lo:g*(wv v*BB j)<=wv u+wv v*BB j
theorem DG{rest:Nat}(H:gR u v n j)(G:S2 u v n j g rest)(ht:(g<4294967296/\g*v.getD (n-2) 0<=rest*4294967296+u.getD (j+n-2) 0)\/4294967296<=rest):wZ u v j g:=by
 have nA:=H.v1;have aR:g<4294967296:=by
  rcases ht with h | h
  ·exact h.1
  ·have h1:=H.top_lt
   rw[<-G.eq] at h1;refine Nat.lt_of_not_le fun hn=>?_;have:4294967296*v.getD (n-1) 0<=g*v.getD (n-1) 0:=Nat.mul_le_mul_right _ hn;omega
 have kU:=H.vd.getD (n-2);have KA:g*v.getD (n-2) 0<=rest*4294967296+u.getD (j+n-2) 0:=by
  rcases ht with h | h
  ·exact h.2
  ·have:g*v.getD (n-2) 0<=4294967296*4294967296:=Nat.mul_le_mul (by omega) (by omega)
   omega
 refine⟨aR,G.up,?_⟩;obtain⟨lo,h1,h2⟩:=H.uval;obtain⟨lv,g1,g2⟩:=H.vval;have LR:=G.eq;rw[h2,g2];rw[H.bb] at h1 ⊢;generalize gR.tp u n j=t at *;generalize v.getD (n-1) 0=x at *;generalize v.getD (n-2) 0=y at *;generalize u.getD (j+n-2) 0=z at *;generalize BB (n-2)=P at *;generalize BB j=Q at *;have e1:g*(x*4294967296+y)<=t*4294967296+z:=by
  rw[<-LR];have:g*(x*4294967296+y)=g*x*4294967296+g*y:=by grind
  omega
 have e2:g*(x*4294967296+y)*(Q*P)<=(t*4294967296+z)*(Q*P):=Nat.mul_le_mul_right _ e1;have e3:g*(lv*Q)<=g*(P*Q):=Nat.mul_le_mul_left _ (Nat.mul_le_mul_right _ (by omega));have e4:g*(P*Q)<=4294967296*(P*Q):=Nat.mul_le_mul_right _ (by omega);have e5:4294967296*(P*Q)<=(x*4294967296+y)*(P*Q):=Nat.mul_le_mul_right _ (by omega);have e6:(lv+(x*4294967296+y)*P)*Q=lv*Q+(x*4294967296+y)*(P*Q):=by grind
 have e7:g*(lv*Q+(x*4294967296+y)*(P*Q))=g*(lv*Q)+g*(x*4294967296+y)*(Q*P):=by grind
 rw[e6,e7];omega
structure aBR (u0 u v:List Nat) (n j i g:Nat) (bo:Int) (ca:Nat):Prop where
 ud:Wd u
 ul:u.length=u0.length
 uz:Zf u (j+n+1)
 b1:-1<=bo
 b2:bo<=0
 c1:ca<4294967296
 eq:(wv u:Int)+(bo-ca)*(BB (j+i):Int)=(wv u0:Int)-(g:Int)*(wv (v.take i):Int)*(BB j:Int)
theorem UW(H:gR u v n j):aBR u u v n j 0 g 0 0:=
 ⟨H.ud,rfl,H.uz,by decide,by decide,by decide,by simp[wv]⟩
theorem aAN(hv:Wd v)(hvl:v.length=n)(hl:j+n<u.length)(hg:g<4294967296)(hi:i<n)(M:aBR u0 u v n j i g bo ca):ca+g*v.getD i 0<18446744073709551616/\aBR u0 (u.set (j+i) ((bo+u.getD (j+i) 0-((ca+g*v.getD i 0) % 4294967296:Nat)) % 4294967296).toNat) v n j (i+1) g ((bo+u.getD (j+i) 0-((ca+g*v.getD i 0) % 4294967296:Nat)) / 4294967296) ((ca+g*v.getD i 0) / 4294967296):=by
 have h1:=hv.getD i;have h2:=M.ud.getD (j+i);have h3:g*v.getD i 0<=4294967295*4294967295:=Nat.mul_le_mul (by omega) (by omega);have h4:=Nat.div_add_mod (ca+g*v.getD i 0) 4294967296;have h5:=Nat.mod_lt (ca+g*v.getD i 0) (show 0<4294967296 by decide);have b1:=M.b1;have b2:=M.b2;have c1:=M.c1;have LR:=M.eq;have VD:=uU u (j+i) ((bo+u.getD (j+i) 0-((ca+g*v.getD i 0) % 4294967296:Nat)) % 4294967296).toNat (by omega);refine⟨by omega,M.ud.set _ (by omega),by rw[kV];exact M.ul,M.uz.set (by omega),by omega,by omega,by omega,?_⟩;rw[<-Nat.add_assoc,eM,cV];have hx:(((bo+u.getD (j+i) 0-((ca+g*v.getD i 0) % 4294967296:Nat)) % 4294967296).toNat:Int)=(bo+u.getD (j+i) 0-((ca+g*v.getD i 0) % 4294967296:Nat)) % 4294967296:=by omega
 have hd:=Int.mul_ediv_add_emod (bo+u.getD (j+i) 0-((ca+g*v.getD i 0) % 4294967296:Nat)) 4294967296;have aPW:=congrArg (fun n:Nat=>(n:Int)) VD;simp only[Int.natCast_add,Int.natCast_mul,hx] at aPW;have h42:=congrArg (fun n:Nat=>(n:Int)) h4;simp only[Int.natCast_add,Int.natCast_mul] at h42;have yZ:(BB (j+i):Int)=(BB j:Int)*(BB i:Int):=by rw[zL];exact Int.natCast_mul ..
 simp only[Int.natCast_add,Int.natCast_mul];generalize (wv (u.set (j+i) ((bo+u.getD (j+i) 0-((ca+g*v.getD i 0) % 4294967296:Nat)) % 4294967296).toNat):Int)=W at *;generalize ((bo+u.getD (j+i) 0-((ca+g*v.getD i 0) % 4294967296:Nat)) / 4294967296)=q at *;generalize ((bo+u.getD (j+i) 0-((ca+g*v.getD i 0) % 4294967296:Nat)) % 4294967296)=r at *;generalize (ca+g*v.getD i 0) / 4294967296=t at *;generalize (ca+g*v.getD i 0) % 4294967296=s at *;clear h1 h2 h3 h4 h5 b1 b2 c1 VD hx M;generalize (v.getD i 0)=y at *;generalize (u.getD (j+i) 0)=x at *;generalize (BB (j+i):Int)=P at *;have k1:W=(wv u:Int)+(r-x)*P:=by grind
 have k2:(q:Int)*(P*4294967296)=(bo+x-s-r)*P:=by grind
 have k3:(t:Int)*(P*4294967296)=(ca+g*y-s)*P:=by grind
 have k4:(g:Int)*(wv (v.take i)+y*BB i)*BB j=g*wv (v.take i)*BB j+g*y*P:=by rw[yZ];grind
 rw[k4];grind
theorem aD7(H:gR u0 v n j)(G:wZ u0 v j g)(M:aBR u0 u v n j n g bo ca):(0<=bo+u.getD (j+n) 0-ca->bo+u.getD (j+n) 0-ca<4294967296/\wv (u.set (j+n) (bo+u.getD (j+n) 0-ca).toNat)+g*(wv v*BB j)=wv u0)/\
    (bo+u.getD (j+n) 0-ca<0->-4294967296<=bo+u.getD (j+n) 0-ca/\wv (u.set (j+n) (bo+u.getD (j+n) 0-ca+4294967296).toNat)+g*(wv v*BB j)=wv u0+BB (j+n+1)/\wv u0<g*(wv v*BB j)):=by
 have h2:=M.ud.getD (j+n);have b1:=M.b1;have b2:=M.b2;have c1:=M.c1;have LR:=M.eq;have hul:=H.ul;have huz:=M.uz;have hud:=M.ud;have d8:=M.ul;rw[nT (by rw[H.vl];exact lR)] at LR;have hgv:((g*(wv v*BB j):Nat):Int)=(g:Int)*(wv v:Int)*(BB j:Int):=by simp only[Int.natCast_mul];grind
 rw[<-hgv] at LR;have VD:=fun x=>uU u (j+n) x (by omega);have hP:(BB (j+n+1):Int)=(BB (j+n):Int)*4294967296:=by rw[eM];exact Int.natCast_mul ..
 refine⟨fun h0=>⟨by omega,?_⟩,fun h0=>⟨by omega,?_⟩⟩
 ·have hs:=congrArg (fun n:Nat=>(n:Int)) (VD (bo+u.getD (j+n) 0-ca).toNat)
  have hx:((bo+u.getD (j+n) 0-ca).toNat:Int)=bo+u.getD (j+n) 0-ca:=by omega
  simp only[Int.natCast_add,Int.natCast_mul,hx] at hs;have k:((wv (u.set (j+n) (bo+u.getD (j+n) 0-ca).toNat):Nat):Int)+((g*(wv v*BB j):Nat):Int)=(wv u0:Int):=by
   generalize (wv (u.set (j+n) (bo+u.getD (j+n) 0-ca).toNat):Int)=W at *;generalize ((g*(wv v*BB j):Nat):Int)=D at *;generalize u.getD (j+n) 0=x at *;generalize (BB (j+n):Int)=P at *;grind
  omega
 ·have hs:=congrArg (fun n:Nat=>(n:Int)) (VD (bo+u.getD (j+n) 0-ca+4294967296).toNat)
  have hx:((bo+u.getD (j+n) 0-ca+4294967296).toNat:Int)=bo+u.getD (j+n) 0-ca+4294967296:=by omega
  simp only[Int.natCast_add,Int.natCast_mul,hx] at hs;have k:((wv (u.set (j+n) (bo+u.getD (j+n) 0-ca+4294967296).toNat):Nat):Int)+((g*(wv v*BB j):Nat):Int)=(wv u0:Int)+(BB (j+n+1):Int):=by
   rw[hP];generalize (wv (u.set (j+n) (bo+u.getD (j+n) 0-ca+4294967296).toNat):Int)=W at *;generalize ((g*(wv v*BB j):Nat):Int)=D at *;generalize u.getD (j+n) 0=x at *;generalize (BB (j+n):Int)=P at *;grind
  have aR:wv (u.set (j+n) (bo+u.getD (j+n) 0-ca+4294967296).toNat)<BB (j+n+1):=
   aJ3 (hud.set _ (by omega)) (huz.set (by omega)) (by rw[kV];omega)
  exact⟨by omega,by omega⟩
structure aCe (u0 u v:List Nat) (n j i c:Nat):Prop where
 ud:Wd u
 ul:u.length=u0.length
 uz:Zf u (j+n+1)
 c1:c<=1
 eq:wv u+c*BB (j+i)=wv u0+wv (v.take i)*BB j
theorem WH{us ux:List Nat}(M:aBR us ux v n j i g bo ca)(hx:x<4294967296):aCe (ux.set (j+n) x) (ux.set (j+n) x) v n j 0 0:=
 ⟨M.ud.set _ hx,rfl,M.uz.set (by omega),by decide,by rw[List.take_zero,Nat.zero_mul,wv,Nat.zero_mul]⟩
theorem J7{a X:Nat}(h:a<g*X):1<=g:=by
 rcases Nat.eq_zero_or_pos g with rfl | h2
 ·rw[Nat.zero_mul] at h;omega
 ·exact h2
theorem aD2{bot:Int}(h1:-4294967296<=bot)(h2:bot<0):bot % 4294967296=((bot+4294967296).toNat:Int)/\(bot+4294967296).toNat<4294967296:=by omega
theorem aBM(hv:Wd v)(hl:j+n<u.length)(hi:i<n)(M:aCe u0 u v n j i c):aCe u0 (u.set (j+i) ((c+u.getD (j+i) 0+v.getD i 0) % 4294967296)) v n j (i+1) ((c+u.getD (j+i) 0+v.getD i 0) / 4294967296):=by
 have h1:=hv.getD i;have h2:=M.ud.getD (j+i);have c1:=M.c1;have LR:=M.eq;have VD:=uU u (j+i) ((c+u.getD (j+i) 0+v.getD i 0) % 4294967296) (by omega);refine⟨M.ud.set _ (by omega),by rw[kV];exact M.ul,M.uz.set (by omega),by omega,?_⟩;have h4:=Nat.div_add_mod (c+u.getD (j+i) 0+v.getD i 0) 4294967296;rw[<-Nat.add_assoc,eM,cV];have yZ:BB (j+i)=BB j*BB i:=zL ..;generalize wv (u.set (j+i) ((c+u.getD (j+i) 0+v.getD i 0) % 4294967296))=W at *;generalize (c+u.getD (j+i) 0+v.getD i 0) / 4294967296=q at *;generalize (c+u.getD (j+i) 0+v.getD i 0) % 4294967296=r at *;generalize u.getD (j+i) 0=x at *;generalize v.getD i 0=y at *;have k:(4294967296*q+r)*BB (j+i)=(c+x+y)*BB (j+i):=by rw[h4]
 have k2:(wv (v.take i)+y*BB i)*BB j=wv (v.take i)*BB j+y*BB (j+i):=by rw[yZ];grind
 rw[k2];generalize BB (j+i)=P at *;have k3:(4294967296*q+r)*P=q*(P*4294967296)+r*P:=by grind
 have k4:(c+x+y)*P=c*P+x*P+y*P:=by grind
 omega
theorem aF9{uu:List Nat}(H:gR uu v n j)(G:wZ uu v j g)(hl:u0.length=uu.length)(h0:wv u0+g*(wv v*BB j)=wv uu+BB (j+n+1))(vI:wv uu<g*(wv v*BB j))(M:aCe u0 u v n j n c):wv (u.set (j+n) ((u.getD (j+n) 0+c) % 4294967296))+(g-1)*(wv v*BB j)=wv uu/\1<=g:=by
 have hg:1<=g:=Nat.one_le_iff_ne_zero.2 fun e=>by rw[e,Nat.zero_mul] at vI;omega
 refine⟨?_,hg⟩;have h2:=M.ud.getD (j+n);have c1:=M.c1;have LR:=M.eq;have hul:=H.ul;have Q5:=M.ul;have hud:=M.ud;have huz:=M.uz;rw[nT (by rw[H.vl];exact lR)] at LR;have VD:=uU u (j+n) ((u.getD (j+n) 0+c) % 4294967296) (by omega);have aR:wv (u.set (j+n) ((u.getD (j+n) 0+c) % 4294967296))<BB (j+n+1):=aJ3 (hud.set _ (by omega)) (huz.set (by omega)) (by rw[kV];omega);have hlo:=G.lo;rw[eM] at h0 aR;obtain⟨k,rfl⟩:∃k,g=k+1:=⟨g-1,by omega⟩;rw[show k+1-1=k from by omega];rw[Nat.add_mul,Nat.one_mul] at *;have h4:=Nat.div_add_mod (u.getD (j+n) 0+c) 4294967296;have hq:(u.getD (j+n) 0+c) / 4294967296<=1:=by omega
 generalize wv (u.set (j+n) ((u.getD (j+n) 0+c) % 4294967296))=W at *;generalize (u.getD (j+n) 0+c) / 4294967296=q at *;generalize (u.getD (j+n) 0+c) % 4294967296=r at *;generalize u.getD (j+n) 0=x at *;generalize BB (j+n)=P at *;have k1:(4294967296*q+r)*P=(x+c)*P:=by rw[h4]
 have k3:(4294967296*q+r)*P=q*(P*4294967296)+r*P:=by grind
 have k4:(x+c)*P=x*P+c*P:=by grind
 generalize wv v*BB j=VB at *;generalize k*VB=KB at *;rcases(by omega:q=0\/q=1) with rfl | rfl<;>omega
structure I6 (a2:Nat) (u v q:List Nat) (n j:Nat):Prop where
 ud:Wd u
 qd:Wd q
 eq:wv u+wv v*wv q=a2
 lt:wv u<wv v*BB j
 qz:∀i,i<j->q.getD i 0=0
theorem aDa{a2:Nat}(S:I6 a2 u v q n (j+1))(n2:2<=n)(vl:v.length=n)(vd:Wd v)(v1:2147483648<=v.getD (n-1) 0)(ul:j+n<u.length):gR u v n j:=
 ⟨n2,vl,vd,v1,ul,S.ud,S.lt⟩
theorem TY{a2:Nat}{u':List Nat}(S:I6 a2 u v q n (j+1))(hq:j<q.length)(hd:Wd u')(hg:g<4294967296)(LR:wv u'+g*(wv v*BB j)=wv u)(aR:wv u<(g+1)*(wv v*BB j)):I6 a2 u' v (q.set j g) n j:=by
 refine⟨hd,S.qd.set _ hg,?_,?_,fun i hi=>by rw[yD (by omega)];exact S.qz i (by omega)⟩
 ·have h:=uU q j g hq
  rw[S.qz j (by omega),Nat.zero_mul,Nat.add_zero] at h;rw[h,<-S.eq,<-LR];grind
 ·rw[Nat.add_mul,Nat.one_mul] at aR
  omega
theorem aFK{n:Nat}(G:wZ u v j g)(h1:1<=g)(vI:wv u<g*(wv v*BB j)):wv u<(g-1+1)*(wv v*BB j):=by rw[Nat.sub_add_cancel h1];exact vI
theorem aF8{uu:List Nat}{L:Nat}(H:gR uu v n j)(G:wZ uu v j g)(hl:u0.length=uu.length)(h0:wv u0+g*(wv v*BB j)=wv uu+BB (j+n+1))(vI:wv uu<g*(wv v*BB j))(M:aCe u0 u v n j n c)(hx:u.getD (j+n) 0=x)(hL:u.length=L):((u.set (j+n) ((x+c) % 4294967296)).length=L/\Wd (u.set (j+n) ((x+c) % 4294967296)))/\wv (u.set (j+n) ((x+c) % 4294967296))+(g-1)*(wv v*BB j)=wv uu/\wv uu<(g-1+1)*(wv v*BB j):=by
 subst hx;have h:=aF9 H G hl h0 vI M;exact⟨⟨by rw[kV];exact hL,M.ud.set _ (Nat.mod_lt _ (by decide))⟩,h.1,aFK (n:=0) G h.2 vI⟩
theorem WI{r:List Nat}(hd:Wd u)(hs:s<=31)(hi:i<n)(hr:i<r.length)(hu:n<u.length)(hz:Zf r i)(hI:wv r=wv u / 2^s % BB i):u.getD (i+1) 0*4294967296+u.getD i 0<18446744073709551616/\wv (r.set i ((u.getD (i+1) 0*4294967296+u.getD i 0) / 2^s % 4294967296))=wv u / 2^s % BB (i+1):=by
 have h1:=hd.getD i;have h2:=hd.getD (i+1);refine⟨by omega,?_⟩;rw[B8 hz hr,hI,eM,Nat.mod_mul];congr 1
 rw[Nat.mul_comm (BB i)];congr 1
 have h3:wv u / 2^s / BB i=wv (u.drop i) / 2^s:=by
  rw[Nat.div_div_eq_div_mul,Nat.mul_comm,<-Nat.div_div_eq_div_mul];congr 1
  rw[uT u i (by omega),Nat.add_mul_div_left _ _ (OQ i),Nat.div_eq_of_lt (pX hd (by omega)),Nat.zero_add]
 rw[h3];have h4:wv (u.drop i)=u.getD (i+1) 0*4294967296+u.getD i 0+18446744073709551616*wv (u.drop (i+2)):=by
  have e1:i<u.length:=by omega
  have e2:i+1<u.length:=by omega
  rw[List.drop_eq_getElem_cons e1,List.drop_eq_getElem_cons e2,wv,wv];rw[dH,gS e2,dH,gS e1];simp only[Option.getD_some];rw[show i+1+1=i+2 from rfl];omega
 have h5:18446744073709551616=2^s*(4294967296*2^(32-s)):=by
  rw[show 4294967296=2^32 from rfl,Nat.mul_left_comm,<-Nat.pow_add,show s+(32-s)=32 from by omega]
 rw[h4,h5,Nat.mul_assoc (2^s),Nat.add_mul_div_left _ _ (Nat.pow_pos (by decide)),Nat.mul_assoc 4294967296,Nat.add_mul_mod_self_left]
theorem aFH{A B:Nat}(S:I6 (A*2^s) u v q n 0)(hv:wv v=B*2^s)(hB:0<B):wv q=A / B/\wv u / 2^s=A % B/\wv u / 2^s<B:=by
 have LR:=S.eq;have aR:=S.lt;rw[w_,Nat.mul_one] at aR;rw[hv] at LR aR;have hp:0<2^s:=Nat.pow_pos (by decide);generalize 2^s=p at *;have h1:p∣wv u:=by
  have h:p∣B*p*wv q:=⟨B*wv q,by grind⟩;have h2:p∣wv u+B*p*wv q:=by rw[LR];exact⟨A,Nat.mul_comm _ _⟩
  exact(Nat.dvd_add_iff_left h).2 h2
 obtain⟨r,hr⟩:=h1;rw[hr] at LR aR;have h2:r<B:=by
  rw[Nat.mul_comm] at aR;exact Nat.lt_of_mul_lt_mul_right aR
 have h3:r+B*wv q=A:=by
  have:p*(r+B*wv q)=p*A:=by rw[Nat.mul_comm p A,<-LR];grind
  exact Nat.eq_of_mul_eq_mul_left hp this
 rw[hr,Nat.mul_div_cancel_left _ hp];refine⟨?_,?_,h2⟩
 ·rw[<-h3,Nat.add_mul_div_left _ _ hB,Nat.div_eq_of_lt h2,Nat.zero_add]
 ·rw[<-h3,Nat.add_mul_mod_self_left,Nat.mod_eq_of_lt h2]
theorem aD1{w:List Nat}(hn:1<=n)(hb:Wd b)(hl:b.length=n)(hw:Wd w)(hwl:w.length=n+1)(hI:wv w=wv b*2^s)(h1:2147483648<=b.getD (n-1) 0*2^s)(h2:b.getD (n-1) 0*2^s<4294967296)(hs:s<=31):wv (w.take n)=wv b*2^s/\2147483648<=(w.take n).getD (n-1) 0:=by
 have e1:=NF hn (by omega) (fun k hk=>CC (by omega):Zf b n);have e2:=pX hb (show n-1<=b.length by omega);have aV5:(2:Nat)^s∣4294967296:=⟨2^(32-s),by rw[<-Nat.pow_add,show s+(32-s)=32 from by omega]⟩;have hp:0<2^s:=Nat.pow_pos (by decide);generalize 2^s=p at *;have e3:(b.getD (n-1) 0+1)*p<=4294967296:=by
  obtain⟨d,hd⟩:=aV5;rw[hd,Nat.mul_comm p d] at h2 ⊢;have:=Nat.lt_of_mul_lt_mul_right h2;exact Nat.mul_le_mul_right _ this
 have hBn:BB n=BB (n-1)*4294967296:=by rw[<-eM];congr 1;omega
 have e4:wv b*p<BB n:=by
  rw[e1,hBn];have:(wv (b.take (n-1))+b.getD (n-1) 0*BB (n-1))*p<(BB (n-1)+b.getD (n-1) 0*BB (n-1))*p:=Nat.mul_lt_mul_of_pos_right (by omega) hp;have e5:(BB (n-1)+b.getD (n-1) 0*BB (n-1))*p=BB (n-1)*((b.getD (n-1) 0+1)*p):=by grind
  have e6:BB (n-1)*((b.getD (n-1) 0+1)*p)<=BB (n-1)*4294967296:=Nat.mul_le_mul_left _ e3;omega
 have hz:Zf w n:=O0 (by rw[hI];exact e4);have hv:wv (w.take n)=wv b*p:=by rw[<-vU hz (by omega),hI]
 refine⟨hv,?_⟩;have hg:(w.take n).getD (n-1) 0=w.getD (n-1) 0:=by
  rw[dH,List.getElem?_take_of_lt (by omega),dH]
 rw[hg];have e7:=NF hn (by omega) hz;have e8:=pX hw (show n-1<=w.length by omega);rw[hI,e1] at e7;refine Nat.le_of_not_lt fun aR=>?_;have k1:(w.getD (n-1) 0+1)*BB (n-1)<=2147483648*BB (n-1):=Nat.mul_le_mul_right _ aR;have k2:2147483648*BB (n-1)<=b.getD (n-1) 0*p*BB (n-1):=Nat.mul_le_mul_right _ h1;have k3:(wv (b.take (n-1))+b.getD (n-1) 0*BB (n-1))*p=wv (b.take (n-1))*p+b.getD (n-1) 0*p*BB (n-1):=by grind
 rw[k3] at e7;rw[Nat.add_mul,Nat.one_mul] at k1;omega
theorem PI{A:Nat}(hA:wv a=A)(ha:Wd a)(uH:a.length=m+n)(hn:1<=n)(hud:Wd u)(hqd:Wd q)(hu:wv u=A*2^s)(hs:s<=31)(vl:v.length=n)(v1:2147483648<=v.getD (n-1) 0)(hq:Zf q 0):I6 (A*2^s) u v q n (m+1):=by
 have hq0:wv q=0:=by have:=vU hq (Nat.zero_le _);rw[this];rfl
 refine⟨hud,hqd,by rw[hq0,hu];omega,?_,fun i _=>hq i (Nat.zero_le _)⟩;rw[hu,<-hA];have h1:=DW ha;rw[uH] at h1;have h2:=NF hn (by omega) (fun k hk=>CC (by omega):Zf v n);have h3:2147483648*BB (n-1)<=wv v:=by
  have:2147483648*BB (n-1)<=v.getD (n-1) 0*BB (n-1):=Nat.mul_le_mul_right _ v1;omega
 have JQ:2^s<=2147483648:=Nat.pow_le_pow_right (by decide) hs;have h4:wv a*2^s<BB (m+n)*2147483648:=Nat.mul_lt_mul_of_lt_of_le h1 JQ (by decide);have h5:2147483648*BB (n-1)*BB (m+1)<=wv v*BB (m+1):=Nat.mul_le_mul_right _ h3;have h6:BB (m+n)=BB (n-1)*BB (m+1):=by rw[<-zL];congr 1;omega
 rw[h6] at h4;have h7:BB (n-1)*BB (m+1)*2147483648=2147483648*BB (n-1)*BB (m+1):=by grind
 omega
end
section
open Go
def rI(md:Region.Mode)(L:List Oper)(n:Nat):Bool:=
 decide (L.length=n+1) &&
 (List.range (n+1)).all (fun j=>match L[j]? with
  | some o=>o.after.all (fun e=>!Region.binds md e || decide (e.on<j)) && (match o.guard with | none=>true | some (g,_)=>decide (g<n))
  | none=>false) &&
 (List.range n).all (fun j=>(List.range (n+1)).any fun k=>decide (j<k) && match L[k]? with
  | some o=>o.after.any (fun e=>Region.binds md e && e.on == j)
  | none=>false)
def kN(P:Program)(ops:Array Oper)(o:Oper)(Q:Exit->Act->World->Prop):Exit->Act->World->Prop
 | .normal,a,w=>if Region.wanted o (yielded ops a.tmps)=true then Oper.wp P o a w (Q .normal) Q else Q .normal (a.put o.dst undef) w
 | e,a,w=>Q e a w
section
variable {P:Program} {Q:Exit->Act->World->Prop} {md:Region.Mode}
theorem aCQ{oN:Oper}{a:Act}{K K':Act->World->Prop}(h:∀a w,K a w->K' a w)(hh:o.wp P a w K (kN P ops oN Q)):o.wp P a w K' Q:=by
 unfold Oper.wp at *;generalize (execOp a.eval o).run P w=r at *;cases r with
 | ok n w'=>
  cases n<;>simp only[Oper.upon] at hh ⊢<;>
   first
    | exact h _ _ hh
    | exact Calls.mono hh (fun e w'' he=>by cases e<;>first | exact h _ _ he | exact he)
    | exact Rows.mono hh (fun _ _ he=>h _ _ he)
 | halt x w'=>cases x<;>simp only[Oper.upon] at hh ⊢<;>exact hh
theorem GA{L F:List Oper}{i:Nat}{oN:Oper}{a:Act}{w:Wo}{K K':Act->World->Prop}(hi:L[i]?=F[i]?)(hg:∀o,F[i]?=some o->∀g b,o.guard=some (g,b)->L[g]?=F[g]?)(h:∀a w,K a w->K' a w)(hh:wpOp P F.toArray (kN P L.toArray oN Q) i K a w):wpOp P L.toArray Q i K' a w:=by
 unfold wpOp at *;rw[List.getElem?_toArray] at *;rw[hi];cases ho:F[i]? with
 | none=>rw[ho] at hh;exact h _ _ hh
 | some o=>
  rw[ho] at hh;simp only at hh ⊢;have hw:Region.wanted o (yielded L.toArray a.tmps)=Region.wanted o (yielded F.toArray a.tmps):=by
   unfold Region.wanted;cases yW:o.guard with
   | none=>rfl
   | some gb=>
    obtain⟨g,b⟩:=gb;simp only;unfold yielded;rw[List.getElem?_toArray,List.getElem?_toArray,hg o ho g b yW]
  rw[hw];split
  ·rename_i h1
   rw[if_pos h1] at hh;exact hh.imp (aCQ h) id
  ·rename_i h1
   rw[if_neg h1] at hh;exact h _ _ hh
theorem lL(h:rI md L n=true):L.length=n+1/\
    (∀j o,L[j]?=some o->(∀e∈o.after,Region.binds md e=true->e.on<j)/\∀g b,o.guard=some (g,b)->g<n)/\
    (∀j,j<n->∃k o e,j<k/\L[k]?=some o/\e∈o.after/\Region.binds md e=true/\e.on=j):=by
 unfold rI at h;simp only[Bool.and_eq_true,decide_eq_true_eq,List.all_eq_true,List.mem_range,List.any_eq_true] at h;obtain⟨⟨h1,h2⟩,h3⟩:=h;refine⟨h1,fun j o ho=>?_,fun j hj=>?_⟩
 ·have hj:j<n+1:=by rw[<-h1];exact(cY.1 ho).1
  have:=h2 j hj;rw[ho] at this;simp only[Bool.and_eq_true,Array.all_eq_true_iff_forall_mem,Bool.or_eq_true,Bool.not_eq_true',decide_eq_true_eq] at this;refine⟨fun e he hb=>(this.1 e he).resolve_left (by simp[hb]),fun g b hg=>?_⟩;have h4:=this.2;rw[hg] at h4;simpa using h4
 ·obtain⟨k,hk,hjk,h4⟩:=h3 j hj
  cases ho:L[k]? with
  | none=>rw[ho] at h4;cases h4
  | some o=>
   rw[ho] at h4;simp only[Array.any_eq_true'] at h4;obtain⟨e,he,h5⟩:=h4;simp only[Bool.and_eq_true,beq_iff_eq] at h5;exact⟨k,o,e,hjk,ho,he,h5.1,h5.2⟩
def m7(md:Region.Mode)(F:List Oper)(listed:Array Bool):Prop:=∀(j:Nat)(o:Oper),F[j]?=some o->listed.getD j false=true->∀e∈o.after,Region.binds md e=true->listed.getD e.on false=true
theorem pI{l:Array Bool}(h:j<l.size):l.getD j true=l.getD j false:=by simp[h]
theorem WK{L:List Oper}{n:Nat}{oN:Oper}{listed:Array Bool}(hs:rI md L n=true)(hN:L[n]?=some oN)(hZ:listed.size=n)(hc:m7 md (L.take n) listed)(hr:∀e∈oN.after,Region.binds md e=true->(listed.push false).getD e.on false=true):∀d j,j+d=n->0<d->listed.getD j false=true:=by
 obtain⟨h1,h2,h3⟩:=lL hs;intro d
 induction d using Nat.strongRecOn with
 | _ d ih=>
  intro j hj hd;obtain⟨k,o,e,hjk,hk,he,hb,hej⟩:=h3 j (by omega);have hkl:k<n+1:=by rw[<-h1];exact(cY.1 hk).1
  by_cases rR:k=n
  ·subst rR
   rw[hN] at hk;injection hk with hk;subst hk;have:=hr e he hb;rw[hej] at this;rwa[Array.getD_eq_getD_getElem?,Array.getElem?_push_lt (by omega),<-Array.getElem?_eq_getElem (by omega),<-Array.getD_eq_getD_getElem?] at this
  ·have hl:=ih (n-k) (by omega) k (by omega) (by omega)
   have:=hc k o (by rw[List.getElem?_take_of_lt (by omega)];exact hk) hl e he hb;rwa[hej] at this
theorem mE{l:Array Bool}(hi:i<l.size):(l.push false).setIfInBounds i true=(l.setIfInBounds i true).push false:=by
 apply Array.ext
 ·simp
 ·intro j h1 h2
  simp only[Array.size_setIfInBounds,Array.size_push] at h1;rw[Array.getElem_setIfInBounds (by simpa using h1),Array.getElem_push];by_cases uA:i=j
  ·subst uA
   rw[if_pos rfl,Array.getElem_push];simp only[Array.size_setIfInBounds,hi,dif_pos,Array.getElem_setIfInBounds,if_true]
  ·simp only[uA,if_false]
   rw[Array.getElem_push];simp only[Array.size_setIfInBounds];split
   ·rename_i h3
    rw[Array.getElem_setIfInBounds (by simpa using h3),if_neg uA]
   ·rfl
theorem iI{l:Array Bool}(hj:j<l.size)(d:Bool):(l.push false).getD j d=l.getD j d:=by
 rw[Array.getD_eq_getD_getElem?,Array.getElem?_push_lt hj,<-Array.getElem?_eq_getElem hj,<-Array.getD_eq_getD_getElem?]
theorem aFn{l:Array Bool}(h:l.getD j false=true):j<l.size:=by
 rcases Nat.lt_or_ge j l.size with h' | h'
 ·exact h'
 ·simp[Array.getElem?_eq_none h'] at h
theorem D_{listed:Array Bool}(hs:rI md L n=true)(hZ:listed.size=n)(hi:i<n):i∈Region.ready md L.toArray (listed.push false)<->i∈Region.ready md (L.take n).toArray listed:=by
 obtain⟨h1,h2,h3⟩:=lL hs;rw[mem_ready,mem_ready,List.getElem?_toArray,List.getElem?_toArray,List.getElem?_take_of_lt hi,iI (by omega)];refine and_congr Iff.rfl ⟨?_,?_⟩
 ·rintro⟨o,ho,h⟩
  exact⟨o,ho,fun e he hb=>by rw[<-iI (by have:=(h2 i o ho).1 e he hb;omega)];exact h e he hb⟩
 ·rintro⟨o,ho,h⟩
  exact⟨o,ho,fun e he hb=>by rw[iI (by have:=(h2 i o ho).1 e he hb;omega)];exact h e he hb⟩
theorem IX{F:List Oper}{listed:Array Bool}(hc:m7 md F listed)(hr:i∈Region.ready md F.toArray listed):m7 md F (listed.setIfInBounds i true):=by
 intro j o ho hj e he hb;by_cases uA:i=j
 ·subst uA
  obtain⟨_,o',TB,xI⟩:=mem_ready.1 hr;rw[List.getElem?_toArray,ho] at TB;injection TB with TB;subst TB;exact getD_set_true (xI e he hb)
 ·rw[getD_set_ne false uA] at hj
  exact getD_set_true (hc j o ho hj e he hb)
theorem EM{listed:Array Bool}(h1:L.length=n+1)(hZ:listed.size=n)(xI:∀j,j<n->listed.getD j false=true):Region.ready md L.toArray ((listed.push false).setIfInBounds n true)=[]:=by
 rw[List.eq_nil_iff_forall_not_mem];intro j hj;obtain⟨h0,o,ho,_⟩:=mem_ready.1 hj;rw[List.getElem?_toArray] at ho;have rS:=(cY.1 ho).1;by_cases tA:n=j
 ·subst tA
  simp[hZ] at h0
 ·rw[getD_set_ne true tA,iI (by omega),pI (by omega),xI j (by omega)] at h0
  cases h0
theorem jQ{oN:Oper}(hs:rI md L n=true)(hN:L[n]?=some oN):∀(fuel:Nat)(listed:Array Bool)(a:Act)(w:Wo),listed.size=n->m7 md (L.take n) listed->
    wpAny P md (L.take n).toArray (kN P L.toArray oN Q) fuel listed a w->wpAny P md L.toArray Q (fuel+1) (listed.push false) a w:=by
 obtain⟨h1,h2,h3⟩:=lL hs;have key:∀(fuel:Nat)(listed:Array Bool)(a:Act)(w:Wo),listed.size=n->m7 md (L.take n) listed->Region.ready md (L.take n).toArray listed=[]->kN P L.toArray oN Q .normal a w->wpAny P md L.toArray Q (fuel+1) (listed.push false) a w:=by
  intro fuel listed a w hZ hc hr hq;have xI:∀m j,j<m->j<n->listed.getD j false=true:=by
   intro m
   induction m with
   | zero=>intro j hj;omega
   | succ m ih=>
    intro j hj tA;cases hl:listed.getD j false with
    | true=>rfl
    | false=>
     exfalso;have rS:j<L.length:=by omega
     have Q8:j∈Region.ready md (L.take n).toArray listed:=by
      rw[mem_ready,List.getElem?_toArray,List.getElem?_take_of_lt tA,pI (by omega),hl];refine⟨rfl,L[j],gS rS,fun e he hb=>ih _ ?_ ?_⟩
      ·have:=(h2 j _ (gS rS)).1 e he hb;omega
      ·have:=(h2 j _ (gS rS)).1 e he hb;omega
     rw[hr] at Q8;cases Q8
  have IM:=fun j hj=>xI n j hj hj;have hnr:n∈Region.ready md L.toArray (listed.push false):=by
   rw[mem_ready,List.getElem?_toArray];refine⟨by simp[<-hZ],oN,hN,fun e he hb=>?_⟩;have:=(h2 n oN hN).1 e he hb;rw[iI (by omega)];exact IM _ this
  refine⟨fun h0=>by rw[h0] at hnr;exact absurd hnr (by simp),fun j hj=>?_⟩;have tA:j=n:=by
   obtain⟨h0,o,ho,_⟩:=mem_ready.1 hj;rw[List.getElem?_toArray] at ho;have rS:=(cY.1 ho).1;refine Decidable.byContradiction fun cG=>?_;rw[iI (by omega),pI (by omega),IM j (by omega)] at h0;cases h0
  subst tA;unfold wpOp;rw[List.getElem?_toArray,hN];simp only;have hd:=EM (md:=md) h1 hZ IM;unfold kN at hq;dsimp only at hq;split
  ·rename_i hw
   rw[if_pos hw] at hq;exact .inl (Oper.wp_mono (fun a' w' h=>wpAny_done hd h fuel) hq)
  ·rename_i hw
   rw[if_neg hw] at hq;exact wpAny_done hd hq fuel
 intro fuel
 induction fuel with
 | zero=>intro listed a w hZ hc h;exact key 0 listed a w hZ hc h.1 h.2
 | succ fuel ih=>
  intro listed a w hZ hc h;by_cases hr:Region.ready md (L.take n).toArray listed=[]
  ·exact key (fuel+1) listed a w hZ hc hr (h.1 hr)
  ·have LO:n∉Region.ready md L.toArray (listed.push false):=by
    intro hn;obtain⟨_,o,ho,xI⟩:=mem_ready.1 hn;rw[List.getElem?_toArray,hN] at ho;injection ho with ho;subst ho;have hl:=WK hs hN hZ hc xI;apply hr;rw[List.eq_nil_iff_forall_not_mem];intro j hj;obtain⟨h0,o,ho,_⟩:=mem_ready.1 hj;rw[List.getElem?_toArray] at ho;have rS:=(cY.1 ho).1;have tA:j<n:=by simp at rS;omega
    have:=hl (n-j) j (by omega) (by omega);rw[pI (by omega),this] at h0;cases h0
   have aR:∀j,j∈Region.ready md L.toArray (listed.push false)->j<n:=fun j hj=>by
    obtain⟨_,o,ho,_⟩:=mem_ready.1 hj;rw[List.getElem?_toArray] at ho;have:=(cY.1 ho).1;have cG:j≠n:=fun e=>LO (e▸hj);omega
   refine⟨fun h0=>?_,fun j hj=>?_⟩
   ·exfalso
    obtain⟨j,hj⟩:=List.exists_mem_of_ne_nil _ hr;have tA:j<n:=by
     obtain⟨_,o,ho,_⟩:=mem_ready.1 hj;rw[List.getElem?_toArray] at ho;have:=(cY.1 ho).1;simp at this;omega
    have:=(D_ hs hZ tA).2 hj;rw[h0] at this;cases this
   ·have tA:=aR j hj
    have hjr:=(D_ hs hZ tA).1 hj;refine GA (L:=L) (F:=L.take n) (by rw[List.getElem?_take_of_lt tA]) (fun o ho g b hg=>?_) (fun a' w' hh=>?_) (h.2 j hjr)
    ·rw[List.getElem?_take_of_lt tA] at ho
     rw[List.getElem?_take_of_lt ((h2 j o ho).2 g b hg)]
    ·rw[mE (by omega)]
     exact ih _ a' w' (by simpa using hZ) (IX hc hjr) hh
theorem bT{S:World->Prop}{id:Nat}{a:Act}{w:Wo}{L:List Oper}(n:Nat)(oN:Oper)(hm:P.follows .mixedOrders=true)(hs:rI .any L n=true)(hN:L[n]?=some oN)(hS:S w.drew)(h:S w.drew->wpAnyH P .any (L.take n).toArray (kN P L.toArray oN Q) S n (Array.replicate n false) a w.drew):(Code.region id L.toArray true).wp P Q a w:=by
 obtain⟨h1,h2,h3⟩:=lL hs;refine wp_region_any hm ?_;rw[show L.toArray.size=n+1 from by simpa using h1,Array.replicate_succ];refine jQ hs hN n _ a _ (by simp) (fun j o ho hj=>?_) (wpAny_of_held _ _ _ _ (h hS));rcases Nat.lt_or_ge j n with h' | h'<;>simp[h'] at hj
def zP(md:Region.Mode)(ops:Array Oper)(listed:Array Bool)(i:Nat):Bool:=Region.noSelect ops && Region.free md ops listed i && (Region.ready md ops listed).contains i
theorem aJ6{L:List Oper}{S:World->Prop}(i:Nat){oi:Oper}{v:Value}{fuel:Nat}{listed:Array Bool}{a:Act}{w:Wo}(hi:L[i]?=some oi)(hB:zP md L.toArray listed i=true)(hQ:∀c a w,Q (.panic c) (a.put oi.dst v) w->Q (.panic c) a w)(hw:Region.wanted oi (yielded L.toArray a.tmps)=true)(hy:∀w,S w->(execOp a.eval oi).run P w=.ok (.value v) w)(hS:S w)(h:wpAnyH P md L.toArray Q S fuel (listed.setIfInBounds i true) (a.put oi.dst v) w):wpAnyH P md L.toArray Q S (fuel+1) listed a w:=by
 unfold zP at hB;rw[Bool.and_eq_true,Bool.and_eq_true] at hB;exact wpAnyH_take (by rw[List.getElem?_toArray];exact hi) hB.1.1 hB.1.2 hB.2 hQ (.inl ⟨hw,hy⟩) hS h
theorem aPp{L:List Oper}{S:World->Prop}(i:Nat){o:Oper}{fuel:Nat}{listed:Array Bool}{a:Act}{w:Wo}(hr:Region.ready md L.toArray listed=[i])(ho:L[i]?=some o)(h:∀K':Act->World->Prop,Shut (∀a w,S w->(S w->wpAnyH P md L.toArray Q S fuel (listed.setIfInBounds i true) a w)->K' a w)->if Region.wanted o (yielded L.toArray a.tmps)=true then Oper.wp P o a w K' Q else K' (a.put o.dst undef) w):wpAnyH P md L.toArray Q S (fuel+1) listed a w:=
 wpAnyH_ready hr (by simp) (AllReadyH.cons (by rw[List.getElem?_toArray];exact ho) h AllReadyH.nil)
theorem c_{a:Act}(hw:Region.wanted o (yielded ops a.tmps)=true)(h:Oper.wp P o a w (Q .normal) Q):kN P ops o Q .normal a w:=by
 unfold kN;dsimp only;rw[if_pos hw];exact h
end
end
section
theorem nH(n:Int)(hd:d≠0):(Rat.divInt n d).num=n / (n.natAbs.gcd d:Nat)/\(Rat.divInt n d).den=d / n.natAbs.gcd d:=by
 rw[Rat.divInt_ofNat,mkRat,dif_neg hd,Rat.normalize_eq];exact⟨rfl,rfl⟩
theorem CQ{n:Int}(hd:d≠0)(h:n.natAbs.gcd d=1):(Rat.divInt n d).num=n/\(Rat.divInt n d).den=d:=by
 obtain⟨h1,h2⟩:=nH n hd;rw[h] at h1 h2;exact⟨by rw[h1];simp,by rw[h2,Nat.div_one]⟩
theorem sE(n:Int)(hd:d≠0):(Rat.divInt n d).num.natAbs=n.natAbs / n.natAbs.gcd d/\(n<0<->(Rat.divInt n d).num<0):=by
 obtain⟨h1,_⟩:=nH n hd;have hg:(n.natAbs.gcd d:Int)∣n:=by
  exact Int.ofNat_dvd_left.2 (Nat.gcd_dvd_left ..)
 have hp:0<n.natAbs.gcd d:=Nat.gcd_pos_of_pos_right _ (Nat.pos_of_ne_zero hd);rw[h1];refine⟨?_,?_⟩
 ·rw[Int.natAbs_ediv,if_pos (.inr (.inr hg)),Nat.add_zero,Int.natAbs_natCast]
 ·generalize n.natAbs.gcd d=g at *
  obtain⟨k,hk⟩:=hg;rw[hk,Int.mul_ediv_cancel_left _ (by omega)];have JQ:(0:Int)<(g:Nat):=by omega
  constructor
  ·intro h
   refine Int.lt_of_not_ge fun h2=>?_;have:=Int.mul_nonneg (Int.le_of_lt JQ) h2;omega
  ·intro h
   have:=Int.mul_neg_of_pos_of_neg JQ h;omega
theorem K6(n:Int)(d:Nat):Rat.divInt n (-(d:Int))=Rat.divInt (-n) d:=by
 by_cases hd:d=0
 ·subst hd;simp
 ·rw[Rat.divInt_eq_divInt_iff (by omega) (by omega)]
  grind
theorem AB(q:Rat):Rat.divInt q.num q.den=q:=Rat.num_divInt_den q
theorem DJ(q:Rat):q.den≠0:=q.den_nz
theorem MH(a b:Rat):Rat.divInt (a.num*b.den+b.num*a.den) ((a.den*b.den:Nat):Int)=a+b:=by
 rw[Rat.add_def',Rat.divInt_ofNat]
theorem LC(a b:Rat):Rat.divInt (a.num*b.num) ((a.den*b.den:Nat):Int)=a*b:=by
 have:=Rat.divInt_mul_divInt a.num b.num (d₁:=a.den) (d₂:=b.den);rw[AB,AB] at this;rw[this,Int.natCast_mul]
theorem L0(a b:Rat):Rat.divInt (a.num*b.den) ((a.den:Int)*b.num)=a / b:=by
 rw[Rat.div_def,Rat.inv_def,<-Rat.divInt_mul_divInt,AB]
def bE(q:Rat):Nat:=max (dA q.num.natAbs) (dA q.den)
theorem aH9(q:Rat):dA q.num.natAbs<=bE q:=Nat.le_max_left ..
theorem XZ(q:Rat):dA q.den<=bE q:=Nat.le_max_right ..
theorem aH8(q:Rat):1<=bE q:=by
 have h:=XZ q;have:=jX (DJ q);omega
theorem RV(m n:Nat):dA (m / n)<=dA m:=kH (Nat.div_le_self ..)
theorem CP(n:Int)(hd:d≠0):bE (Rat.divInt n d)<=max (dA n.natAbs) (dA d):=by
 unfold bE;obtain⟨h1,h2⟩:=nH n hd;rw[(sE n hd).1,h2];have h3:=RV n.natAbs (n.natAbs.gcd d);have h4:=RV d (n.natAbs.gcd d);omega
theorem eU(a b:Int):dA (a*b).natAbs<=dA a.natAbs+dA b.natAbs:=by rw[Int.natAbs_mul];exact BC ..
theorem LZ(a b:Int):dA (a+b).natAbs<=max (dA a.natAbs) (dA b.natAbs)+1:=
 b_ (kH (Int.natAbs_add_le ..)) (aFF ..)
theorem kJ(a b:Rat):bE (a+b)<=bE a+bE b+1:=by
 rw[<-MH];refine b_ (CP _ (Nat.mul_ne_zero (DJ a) (DJ b))) ?_;have h1:=LZ (a.num*b.den) (b.num*a.den);have h2:=eU a.num b.den;have h3:=eU b.num a.den;have h4:=BC a.den b.den;unfold bE;rw[Int.natAbs_natCast] at h2 h3;omega
theorem eF(a b:Rat):bE (a*b)<=bE a+bE b:=by
 rw[<-LC];refine b_ (CP _ (Nat.mul_ne_zero (DJ a) (DJ b))) ?_;have h2:=eU a.num b.num;have h4:=BC a.den b.den;unfold bE;omega
theorem FY(a b:Rat):bE (a / b)<=bE a+bE b:=by
 by_cases hb:b=0
 ·subst hb
  rw[Rat.div_def,Rat.inv_zero,Rat.mul_zero];have h0:bE 0<=1:=by
   show max (dA 0) (dA 1)<=1;rw[iL,sP (by decide) (by decide)];decide
  have:=aH8 a;omega
 ·rw[<-L0]
  have IL:b.num≠0:=fun h=>hb (Rat.num_eq_zero.1 h);have key:∀(n:Int)(k:Nat),k≠0->n.natAbs=(a.num*b.den).natAbs->k=(a.den*b.num.natAbs)->bE (Rat.divInt n k)<=bE a+bE b:=fun n k hk hn he=>by
   refine b_ (CP _ hk) ?_;rw[hn,he];have h2:=eU a.num b.den;rw[Int.natAbs_natCast] at h2;have h4:=BC a.den b.num.natAbs;unfold bE;omega
  have hk:a.den*b.num.natAbs≠0:=Nat.mul_ne_zero (DJ a) (by omega);by_cases hs:b.num<0
  ·have e:(a.den:Int)*b.num=-((a.den*b.num.natAbs:Nat):Int):=by
    rw[Int.natCast_mul,Int.ofNat_natAbs_of_nonpos (by omega)];grind
   rw[e,K6];exact key _ _ hk (by rw[Int.natAbs_neg]) rfl
  ·have e:(a.den:Int)*b.num=((a.den*b.num.natAbs:Nat):Int):=by
    rw[Int.natCast_mul,Int.natAbs_of_nonneg (by omega)]
   rw[e];exact key _ _ hk rfl rfl
theorem mH(a:Rat):bE (-a)=bE a:=by
 unfold bE;rw[Rat.neg_num,Int.natAbs_neg,Rat.neg_den]
theorem rD(a b:Rat):bE (a-b)<=bE a+bE b+1:=by
 rw[Rat.sub_eq_add_neg];have:=kJ a (-b);rwa[mH] at this
end
end Go.Proofs.YthgdchffeigkbaaGreatDoor
namespace Go.Proofs
variable {L : List Oper} {a b l out ps q u u0 v : List Nat} {bo : Int} {c ca d g i j k m n r s x : Nat} {o : Oper} {ops : Array Oper} {w w' : World}
open Go.Shelf
def Tryz.lays169_ren:Go.Shelf.Ren:=⟨fun | 169=>153 | n=>n,fun | 70=>230 | 9=>9 | 0=>0 | 72=>233 | 37=>231 | 127=>252 | 3=>3 | 5=>5 | n=>n,fun | n=>n⟩
theorem Tryz.lays169:Go.Proofs.Lays.n169 Tryz.prog Tryz.lays169_ren:={
 mixed:=by kernel_rfl
 f169:=Tryz.func153.trans (congrArg some (by kernel_rfl))
 t0:=Tryz.underlying0
 a0:=Tryz.isAgg0
 z0:=Tryz.sizeOf0
 v0:=Tryz.zeroValue0
 t3:=Tryz.underlying3
 a3:=Tryz.isAgg3
 z3:=Tryz.sizeOf3
 v3:=Tryz.zeroValue3
 t9:=Tryz.underlying9
 a9:=Tryz.isAgg9
 z9:=Tryz.sizeOf9
 v9:=Tryz.zeroValue9
 t37:=Tryz.underlying231
 a37:=Tryz.isAgg231
 z37:=Tryz.sizeOf231
 v37:=Tryz.zeroValue231
 t70:=Tryz.underlying230
 a70:=Tryz.isAgg230
 z70:=Tryz.sizeOf230
 v70:=Tryz.zeroValue230
 t72:=Tryz.underlying233
 a72:=Tryz.isAgg233
 z72:=Tryz.sizeOf233
 v72:=Tryz.zeroValue233
 t127:=Tryz.underlying252
 a127:=Tryz.isAgg252
 z127:=Tryz.sizeOf252
 v127:=Tryz.zeroValue252 }
theorem Tryz.Builder_Extra_169:Builder.Extra Tryz.prog Tryz.lays169_ren:={
 sizeBuilder:=by kernel_rfl
 liesBuilder:=by kernel_rfl
 t5:=Tryz.underlying5
 a5:=Tryz.isAgg5
 z5:=Tryz.sizeOf5
 v5:=Tryz.zeroValue5
 infoByte:=by kernel_rfl
 cellsByte:=by kernel_rfl
 sizeByte:=by kernel_rfl
 neB5:=by decide }
open Go.RowKit in
theorem Tryz.Builder_String(B b:Nat)(l:List UInt8)(w:Wo)(h:Lib.IsBuilder 233 5 B b (Lib.byteCells l) w)(h0:l≠[]):Calls Tryz.prog 153 #[.pointer (some ⟨b,0,none⟩)] w fun e w'=>e=.returned (.string ⟨l.toArray⟩)/\Below B w w':=Any.Builder_String Tryz.lays169 Tryz.Builder_Extra_169 B b l w h h0
def Tryz.lays128_ren:Go.Shelf.Ren:=⟨fun | 128=>201 | n=>n,fun | 51=>216 | 3=>3 | 4=>4 | 46=>217 | 5=>5 | 9=>9 | n=>n,fun | n=>n⟩
def Tryz.lays133_ren:Go.Shelf.Ren:=⟨fun | 133=>189 | 128=>201 | n=>n,fun | 51=>216 | 3=>3 | 4=>4 | 46=>217 | 5=>5 | 9=>9 | n=>n,fun | n=>n⟩
theorem Tryz.lays133:Go.Proofs.Lays.n133 Tryz.prog Tryz.lays133_ren:={
 mixed:=by kernel_rfl
 f128:=Tryz.func201.trans (congrArg some (by kernel_rfl))
 f133:=Tryz.func189.trans (congrArg some (by kernel_rfl))
 t3:=Tryz.underlying3
 a3:=Tryz.isAgg3
 z3:=Tryz.sizeOf3
 v3:=Tryz.zeroValue3
 t4:=Tryz.underlying4
 a4:=Tryz.isAgg4
 z4:=Tryz.sizeOf4
 v4:=Tryz.zeroValue4
 t5:=Tryz.underlying5
 a5:=Tryz.isAgg5
 z5:=Tryz.sizeOf5
 v5:=Tryz.zeroValue5
 t9:=Tryz.underlying9
 a9:=Tryz.isAgg9
 z9:=Tryz.sizeOf9
 v9:=Tryz.zeroValue9
 t46:=Tryz.underlying217
 a46:=Tryz.isAgg217
 z46:=Tryz.sizeOf217
 v46:=Tryz.zeroValue217
 t51:=Tryz.underlying216
 a51:=Tryz.isAgg216
 z51:=Tryz.sizeOf216
 v51:=Tryz.zeroValue216 }
theorem Tryz.bits_LeadingZeros32(x:Int)(w:Wo)(h0:0<=x)(h1:x<=4294967295):Calls Tryz.prog 189 #[.int .u32 x] w fun e w'=>e=.returned (.int .i64 (32-(Lib.bitLen x.toNat:Int)))/\w'=w:=Any.bits_LeadingZeros32 Tryz.lays133 x w h0 h1
def Tryz.lays283_ren:Go.Shelf.Ren:=⟨fun | 283=>173 | n=>n,fun | 3=>3 | 9=>9 | 4=>4 | n=>n,fun | n=>n⟩
theorem Tryz.lays283:Go.Proofs.Lays.n283 Tryz.prog Tryz.lays283_ren:={
 mixed:=by kernel_rfl
 f283:=Tryz.func173.trans (congrArg some (by kernel_rfl))
 t3:=Tryz.underlying3
 a3:=Tryz.isAgg3
 z3:=Tryz.sizeOf3
 v3:=Tryz.zeroValue3
 t4:=Tryz.underlying4
 a4:=Tryz.isAgg4
 z4:=Tryz.sizeOf4
 v4:=Tryz.zeroValue4
 t9:=Tryz.underlying9
 a9:=Tryz.isAgg9
 z9:=Tryz.sizeOf9
 v9:=Tryz.zeroValue9 }
open Go.Lib in
theorem Tryz.internal_strconv_small(i:Nat)(h:i<100)(w:Wo):Calls Tryz.prog 173 #[.int .i64 i] w fun e w'=>e=.returned (.string ⟨(Lib.decDigits i).toArray⟩)/\w'=w:=Any.internal_strconv_small Tryz.lays283 i h w
def Tryz.laysM284_ren:Go.Shelf.Ren:=⟨fun | 284=>174 | 129=>193 | 317=>192 | 318=>194 | n=>n,fun | 53=>214 | 3=>3 | 212=>274 | 0=>0 | 4=>4 | 46=>217 | 5=>5 | 9=>9 | n=>n,fun | 17=>1 | n=>n⟩
theorem Tryz.laysM284:Go.Proofs.LaysM.n284 Tryz.prog Tryz.laysM284_ren:={
 mixed:=by kernel_rfl
 f129:=Tryz.func193.trans (congrArg some (by kernel_rfl))
 f284:=Tryz.func174.trans (congrArg some (by kernel_rfl))
 f317:=Tryz.func192.trans (congrArg some (by kernel_rfl))
 f318:=Tryz.func194.trans (congrArg some (by kernel_rfl))
 t0:=Tryz.underlying0
 a0:=Tryz.isAgg0
 z0:=Tryz.sizeOf0
 v0:=Tryz.zeroValue0
 t3:=Tryz.underlying3
 a3:=Tryz.isAgg3
 z3:=Tryz.sizeOf3
 v3:=Tryz.zeroValue3
 t4:=Tryz.underlying4
 a4:=Tryz.isAgg4
 z4:=Tryz.sizeOf4
 v4:=Tryz.zeroValue4
 t5:=Tryz.underlying5
 a5:=Tryz.isAgg5
 z5:=Tryz.sizeOf5
 v5:=Tryz.zeroValue5
 t9:=Tryz.underlying9
 a9:=Tryz.isAgg9
 z9:=Tryz.sizeOf9
 v9:=Tryz.zeroValue9
 t46:=Tryz.underlying217
 a46:=Tryz.isAgg217
 z46:=Tryz.sizeOf217
 v46:=Tryz.zeroValue217
 t53:=Tryz.underlying214
 a53:=Tryz.isAgg214
 z53:=Tryz.sizeOf214
 v53:=Tryz.zeroValue214
 t212:=Tryz.underlying274
 a212:=Tryz.isAgg274
 z212:=Tryz.sizeOf274
 v212:=Tryz.zeroValue274
 g17:=by kernel_rfl
 i0:=by kernel_rfl
 i3:=by kernel_rfl
 i4:=by kernel_rfl
 i5:=by kernel_rfl
 i9:=by kernel_rfl
 i46:=by kernel_rfl
 i53:=by kernel_rfl
 i212:=by kernel_rfl
 m17:=by kernel_rfl }
open Go.Lib in
theorem Tryz.internal_strconv_numDigits (u : Nat) (h1 : 1 <= u) (h2 : u < 18446744073709551616) (w : World) (aUP : Lib.TabIs Tryz.prog w "internal/strconv.uint64pow10" .u64 Lib.pow10Tab) :Calls Tryz.prog 174 #[.int .u64 u] w fun e w'=>e=.returned (.int .i64 (Lib.nDigits u))/\w'=w:=Any.internal_strconv_numDigits Tryz.laysM284 u h1 h2 w aUP
def Tryz.lays285_ren:Go.Shelf.Ren:=⟨fun | 285=>175 | n=>n,fun | 37=>231 | 53=>214 | 3=>3 | 4=>4 | 51=>216 | 9=>9 | 5=>5 | 0=>0 | n=>n,fun | n=>n⟩
theorem Tryz.lays285:Go.Proofs.Lays.n285 Tryz.prog Tryz.lays285_ren:={
 mixed:=by kernel_rfl
 f285:=Tryz.func175.trans (congrArg some (by kernel_rfl))
 t0:=Tryz.underlying0
 a0:=Tryz.isAgg0
 z0:=Tryz.sizeOf0
 v0:=Tryz.zeroValue0
 t3:=Tryz.underlying3
 a3:=Tryz.isAgg3
 z3:=Tryz.sizeOf3
 v3:=Tryz.zeroValue3
 t4:=Tryz.underlying4
 a4:=Tryz.isAgg4
 z4:=Tryz.sizeOf4
 v4:=Tryz.zeroValue4
 t5:=Tryz.underlying5
 a5:=Tryz.isAgg5
 z5:=Tryz.sizeOf5
 v5:=Tryz.zeroValue5
 t9:=Tryz.underlying9
 a9:=Tryz.isAgg9
 z9:=Tryz.sizeOf9
 v9:=Tryz.zeroValue9
 t37:=Tryz.underlying231
 a37:=Tryz.isAgg231
 z37:=Tryz.sizeOf231
 v37:=Tryz.zeroValue231
 t51:=Tryz.underlying216
 a51:=Tryz.isAgg216
 z51:=Tryz.sizeOf216
 v51:=Tryz.zeroValue216
 t53:=Tryz.underlying214
 a53:=Tryz.isAgg214
 z53:=Tryz.sizeOf214
 v53:=Tryz.zeroValue214 }
open Go.RowKit Go.Sort Go.Lib in
theorem Tryz.internal_strconv_formatBase10(blk off cap:Nat)(u:Nat)(d:Array UInt8)(w:Wo)(hH:Holds (fun(b:UInt8)=>Value.int .u8 (b.toNat:Int)) w blk off d)(hu:u<10^d.size)(VC:u<18446744073709551616)(hZ:d.size<4611686018427387904):Calls Tryz.prog 175 #[.slice (some ⟨blk,off,none⟩) d.size cap,.int .u64 u] w fun e w'=>
     e=.returned (.tuple #[])/\∃(n v':Nat)(dk:Array UInt8),w'=(putRow (fun(b:UInt8)=>Value.int .u8 (b.toNat:Int)) w blk off dk).drewN n/\FmtInv d.size u 0 v' dk:=Any.internal_strconv_formatBase10 Tryz.lays285 blk off cap u d w hH hu VC hZ
def Tryz.laysPu14_ren:Go.Shelf.Ren:=⟨fun | 14=>144 | 16=>166 | 17=>167 | 19=>183 | 20=>184 | 21=>185 | 22=>186 | 23=>187 | 24=>188 | 25=>199 | 27=>87 | 26=>200 | 28=>126 | 29=>157 | 30=>173 | 31=>174 | 32=>175 | 33=>176 | 35=>193 | 34=>192 | 36=>194 | 37=>195 | 38=>196 | 39=>202 | 40=>203 | n=>n,fun | 9=>9 | 3=>3 | 22=>214 | 24=>220 | 25=>221 | 4=>4 | 34=>264 | 5=>5 | 36=>217 | 37=>231 | 0=>0 | 39=>266 | 21=>21 | 44=>280 | 47=>252 | 50=>284 | 48=>282 | 2=>2 | 52=>253 | 55=>256 | 59=>274 | 60=>216 | 20=>20 | 61=>275 | 65=>285 | 66=>286 | 67=>237 | n=>n,fun | 0=>2 | 1=>3 | 2=>1 | 3=>4 | 4=>5 | n=>n⟩
theorem Tryz.laysPu14:Go.Proofs.LaysPu.n14 Tryz.prog Tryz.laysPu14_ren:={
 mixed:=by kernel_rfl
 f14:=Tryz.func144.trans (congrArg some (by kernel_rfl))
 f16:=Tryz.func166.trans (congrArg some (by kernel_rfl))
 f17:=Tryz.func167.trans (congrArg some (by kernel_rfl))
 f19:=Tryz.func183.trans (congrArg some (by kernel_rfl))
 f20:=Tryz.func184.trans (congrArg some (by kernel_rfl))
 f21:=Tryz.func185.trans (congrArg some (by kernel_rfl))
 f22:=Tryz.func186.trans (congrArg some (by kernel_rfl))
 f23:=Tryz.func187.trans (congrArg some (by kernel_rfl))
 f24:=Tryz.func188.trans (congrArg some (by kernel_rfl))
 f25:=Tryz.func199.trans (congrArg some (by kernel_rfl))
 f26:=Tryz.func200.trans (congrArg some (by kernel_rfl))
 f27:=Tryz.func87.trans (congrArg some (by kernel_rfl))
 f28:=Tryz.func126.trans (congrArg some (by kernel_rfl))
 f29:=Tryz.func157.trans (congrArg some (by kernel_rfl))
 f30:=Tryz.func173.trans (congrArg some (by kernel_rfl))
 f31:=Tryz.func174.trans (congrArg some (by kernel_rfl))
 f32:=Tryz.func175.trans (congrArg some (by kernel_rfl))
 f33:=Tryz.func176.trans (congrArg some (by kernel_rfl))
 f34:=Tryz.func192.trans (congrArg some (by kernel_rfl))
 f35:=Tryz.func193.trans (congrArg some (by kernel_rfl))
 f36:=Tryz.func194.trans (congrArg some (by kernel_rfl))
 f37:=Tryz.func195.trans (congrArg some (by kernel_rfl))
 f38:=Tryz.func196.trans (congrArg some (by kernel_rfl))
 f39:=Tryz.func202.trans (congrArg some (by kernel_rfl))
 f40:=Tryz.func203.trans (congrArg some (by kernel_rfl))
 t0:=Tryz.underlying0
 a0:=Tryz.isAgg0
 z0:=Tryz.sizeOf0
 v0:=Tryz.zeroValue0
 i0:=by kernel_rfl
 t2:=Tryz.underlying2
 a2:=Tryz.isAgg2
 z2:=Tryz.sizeOf2
 v2:=Tryz.zeroValue2
 i2:=by kernel_rfl
 t3:=Tryz.underlying3
 a3:=Tryz.isAgg3
 z3:=Tryz.sizeOf3
 v3:=Tryz.zeroValue3
 i3:=by kernel_rfl
 t4:=Tryz.underlying4
 a4:=Tryz.isAgg4
 z4:=Tryz.sizeOf4
 v4:=Tryz.zeroValue4
 i4:=by kernel_rfl
 t5:=Tryz.underlying5
 a5:=Tryz.isAgg5
 z5:=Tryz.sizeOf5
 v5:=Tryz.zeroValue5
 i5:=by kernel_rfl
 t9:=Tryz.underlying9
 a9:=Tryz.isAgg9
 z9:=Tryz.sizeOf9
 v9:=Tryz.zeroValue9
 i9:=by kernel_rfl
 t20:=Tryz.underlying20
 a20:=Tryz.isAgg20
 z20:=Tryz.sizeOf20
 v20:=Tryz.zeroValue20
 i20:=by kernel_rfl
 t21:=Tryz.underlying21
 a21:=Tryz.isAgg21
 z21:=Tryz.sizeOf21
 v21:=Tryz.zeroValue21
 i21:=by kernel_rfl
 t22:=Tryz.underlying214
 a22:=Tryz.isAgg214
 z22:=Tryz.sizeOf214
 v22:=Tryz.zeroValue214
 i22:=by kernel_rfl
 t24:=Tryz.underlying220
 a24:=Tryz.isAgg220
 z24:=Tryz.sizeOf220
 v24:=Tryz.zeroValue220
 i24:=by kernel_rfl
 t25:=Tryz.underlying221
 a25:=Tryz.isAgg221
 z25:=Tryz.sizeOf221
 v25:=Tryz.zeroValue221
 i25:=by kernel_rfl
 t34:=Tryz.underlying264
 a34:=Tryz.isAgg264
 z34:=Tryz.sizeOf264
 v34:=Tryz.zeroValue264
 i34:=by kernel_rfl
 c34:=by kernel_rfl
 t36:=Tryz.underlying217
 a36:=Tryz.isAgg217
 z36:=Tryz.sizeOf217
 v36:=Tryz.zeroValue217
 i36:=by kernel_rfl
 t37:=Tryz.underlying231
 a37:=Tryz.isAgg231
 z37:=Tryz.sizeOf231
 v37:=Tryz.zeroValue231
 i37:=by kernel_rfl
 t39:=Tryz.underlying266
 a39:=Tryz.isAgg266
 z39:=Tryz.sizeOf266
 v39:=Tryz.zeroValue266
 i39:=by kernel_rfl
 t44:=Tryz.underlying280
 a44:=Tryz.isAgg280
 z44:=Tryz.sizeOf280
 v44:=Tryz.zeroValue280
 i44:=by kernel_rfl
 t47:=Tryz.underlying252
 a47:=Tryz.isAgg252
 z47:=Tryz.sizeOf252
 v47:=Tryz.zeroValue252
 i47:=by kernel_rfl
 t48:=Tryz.underlying282
 a48:=Tryz.isAgg282
 z48:=Tryz.sizeOf282
 v48:=Tryz.zeroValue282
 i48:=by kernel_rfl
 t50:=Tryz.underlying284
 a50:=Tryz.isAgg284
 z50:=Tryz.sizeOf284
 v50:=Tryz.zeroValue284
 i50:=by kernel_rfl
 t52:=Tryz.underlying253
 a52:=Tryz.isAgg253
 z52:=Tryz.sizeOf253
 v52:=Tryz.zeroValue253
 i52:=by kernel_rfl
 t55:=Tryz.underlying256
 a55:=Tryz.isAgg256
 z55:=Tryz.sizeOf256
 v55:=Tryz.zeroValue256
 i55:=by kernel_rfl
 t59:=Tryz.underlying274
 a59:=Tryz.isAgg274
 z59:=Tryz.sizeOf274
 v59:=Tryz.zeroValue274
 i59:=by kernel_rfl
 t60:=Tryz.underlying216
 a60:=Tryz.isAgg216
 z60:=Tryz.sizeOf216
 v60:=Tryz.zeroValue216
 i60:=by kernel_rfl
 t61:=Tryz.underlying275
 a61:=Tryz.isAgg275
 z61:=Tryz.sizeOf275
 t65:=Tryz.underlying285
 a65:=Tryz.isAgg285
 z65:=Tryz.sizeOf285
 v65:=Tryz.zeroValue285
 i65:=by kernel_rfl
 t66:=Tryz.underlying286
 a66:=Tryz.isAgg286
 z66:=Tryz.sizeOf286
 v66:=Tryz.zeroValue286
 i66:=by kernel_rfl
 t67:=Tryz.underlying237
 a67:=Tryz.isAgg237
 z67:=Tryz.sizeOf237
 v67:=Tryz.zeroValue237
 i67:=by kernel_rfl
 g0:=by kernel_rfl
 m0:=by kernel_rfl
 g1:=by kernel_rfl
 m1:=by kernel_rfl
 g2:=by kernel_rfl
 m2:=by kernel_rfl
 g3:=by kernel_rfl
 m3:=by kernel_rfl
 g4:=by kernel_rfl
 m4:=by kernel_rfl }
open Go.RowKit in
theorem Tryz.strconv_ParseUint_10_at32_ok(s:ByteArray)(aVl:s.size<=9223372036854775806)(u:Nat)(h:Lib.parseUintB 32 s.data.toList=.ok u)(w:Wo):Calls Tryz.prog 144 #[.string s,.int .i64 10,.int .i64 32] w fun e w'=>e=.returned (.tuple #[.int .u64 u,.nilIface])/\(w'=w\/w'=Lib.bytesWorld w 5 s):=Any.strconv_ParseUint_10_at32_ok Tryz.laysPu14 s aVl u h w
def Tryz.lays219_ren:Go.Shelf.Ren:=⟨fun | 219=>164 | 217=>179 | 225=>180 | 224=>181 | 267=>182 | 266=>197 | 314=>198 | n=>n,fun | 9=>9 | 3=>3 | 4=>4 | 5=>5 | 46=>217 | 146=>259 | 51=>216 | n=>n,fun | 1=>0 | n=>n⟩
theorem Tryz.lays219:Go.Proofs.Lays.n219 Tryz.prog Tryz.lays219_ren:={
 mixed:=by kernel_rfl
 f217:=Tryz.func179.trans (congrArg some (by kernel_rfl))
 f219:=Tryz.func164.trans (congrArg some (by kernel_rfl))
 f224:=Tryz.func181.trans (congrArg some (by kernel_rfl))
 f225:=Tryz.func180.trans (congrArg some (by kernel_rfl))
 f266:=Tryz.func197.trans (congrArg some (by kernel_rfl))
 f267:=Tryz.func182.trans (congrArg some (by kernel_rfl))
 f314:=Tryz.func198.trans (congrArg some (by kernel_rfl))
 t3:=Tryz.underlying3
 a3:=Tryz.isAgg3
 z3:=Tryz.sizeOf3
 v3:=Tryz.zeroValue3
 t4:=Tryz.underlying4
 a4:=Tryz.isAgg4
 z4:=Tryz.sizeOf4
 v4:=Tryz.zeroValue4
 t5:=Tryz.underlying5
 a5:=Tryz.isAgg5
 z5:=Tryz.sizeOf5
 v5:=Tryz.zeroValue5
 t9:=Tryz.underlying9
 a9:=Tryz.isAgg9
 z9:=Tryz.sizeOf9
 v9:=Tryz.zeroValue9
 t46:=Tryz.underlying217
 a46:=Tryz.isAgg217
 z46:=Tryz.sizeOf217
 v46:=Tryz.zeroValue217
 t51:=Tryz.underlying216
 a51:=Tryz.isAgg216
 z51:=Tryz.sizeOf216
 v51:=Tryz.zeroValue216
 t146:=Tryz.underlying259
 a146:=Tryz.isAgg259
 z146:=Tryz.sizeOf259
 v146:=Tryz.zeroValue259
 g1:=by kernel_rfl }
open Go.RowKit Go.Lib in
theorem Tryz.stringslite_Index_one(s:ByteArray)(c:UInt8)(w:Wo):Calls Tryz.prog 164 #[.string s,.string ⟨#[c]⟩] w fun e w'=>e=.returned (.int .i64 (Lib.indexByte s.data.toList c))/\w'=w:=Any.stringslite_Index_one Tryz.lays219 s c w
def Tryz.lays206_ren:Go.Shelf.Ren:=⟨fun | 206=>165 | n=>n,fun | 9=>9 | 4=>4 | 3=>3 | n=>n,fun | n=>n⟩
def Tryz.lays99_ren:Go.Shelf.Ren:=⟨fun | 99=>143 | 206=>165 | n=>n,fun | 9=>9 | 4=>4 | 3=>3 | n=>n,fun | n=>n⟩
theorem Tryz.lays99:Go.Proofs.Lays.n99 Tryz.prog Tryz.lays99_ren:={
 mixed:=by kernel_rfl
 f99:=Tryz.func143.trans (congrArg some (by kernel_rfl))
 f206:=Tryz.func165.trans (congrArg some (by kernel_rfl))
 t3:=Tryz.underlying3
 a3:=Tryz.isAgg3
 z3:=Tryz.sizeOf3
 v3:=Tryz.zeroValue3
 t4:=Tryz.underlying4
 a4:=Tryz.isAgg4
 z4:=Tryz.sizeOf4
 v4:=Tryz.zeroValue4
 t9:=Tryz.underlying9
 a9:=Tryz.isAgg9
 z9:=Tryz.sizeOf9
 v9:=Tryz.zeroValue9 }
open Go.RowKit Go.Lib in
theorem Tryz.strings_HasPrefix(s p:ByteArray)(w:Wo):Calls Tryz.prog 143 #[.string s,.string p] w fun e w'=>e=.returned (.bool (Lib.hasPrefix s.data.toList p.data.toList))/\w'=w:=Any.strings_HasPrefix Tryz.lays99 s p w
def Tryz.lays101_ren:Go.Shelf.Ren:=⟨fun | 101=>136 | 208=>160 | 206=>165 | n=>n,fun | 9=>9 | 4=>4 | 3=>3 | n=>n,fun | n=>n⟩
theorem Tryz.lays101:Go.Proofs.Lays.n101 Tryz.prog Tryz.lays101_ren:={
 mixed:=by kernel_rfl
 f101:=Tryz.func136.trans (congrArg some (by kernel_rfl))
 f206:=Tryz.func165.trans (congrArg some (by kernel_rfl))
 f208:=Tryz.func160.trans (congrArg some (by kernel_rfl))
 t3:=Tryz.underlying3
 a3:=Tryz.isAgg3
 z3:=Tryz.sizeOf3
 v3:=Tryz.zeroValue3
 t4:=Tryz.underlying4
 a4:=Tryz.isAgg4
 z4:=Tryz.sizeOf4
 v4:=Tryz.zeroValue4
 t9:=Tryz.underlying9
 a9:=Tryz.isAgg9
 z9:=Tryz.sizeOf9
 v9:=Tryz.zeroValue9 }
open Go.RowKit Go.Lib in
theorem Tryz.strings_TrimPrefix(s p:ByteArray)(w:Wo):Calls Tryz.prog 136 #[.string s,.string p] w fun e w'=>e=.returned (.string ⟨(Lib.trimPrefix s.data.toList p.data.toList).toArray⟩)/\w'=w:=Any.strings_TrimPrefix Tryz.lays101 s p w
end Go.Proofs
namespace Go.Proofs.YthgdchffeigkbaaGreatDoor
variable {L : List Oper} {a b l out ps q u u0 v : List Nat} {bo : Int} {c ca d g i j k m n r s x : Nat} {o : Oper} {ops : Array Oper} {w w' : World}
section
open Go
section
variable {P:Program} {Q:Exit->Act->World->Prop} {md:Region.Mode}
def eN(P:Program)(K:Value->World->Prop):Result Next->Prop
 | .ok (.value v) w'=>K v w'
 | .ok .skip w'=>K undef w'
 | .ok (.enter f args) w'=>Calls P f args w' fun e w''=>∃v,e=.returned v/\K v w''
 | _=>False
def gV(P:Program)(o:Oper)(a:Act)(w:Wo)(K:Value->World->Prop):Prop:=eN P K ((execOp a.eval o).run P w)
theorem TN{a:Act}{K:Value->World->Prop}{N:Act->World->Prop}(h:gV P o a w K)(hN:∀v w',K v w'->N (a.put o.dst v) w'):o.wp P a w N Q:=by
 unfold gV at h;unfold Oper.wp;generalize (execOp a.eval o).run P w=r at *;cases r with
 | ok n w'=>
  cases n<;>simp only[eN] at h<;>simp only[Oper.upon]
  case value v=>exact hN _ _ h
  case skip=>exact hN _ _ h
  case enter f args=>exact h.mono fun e w'' ⟨v,he,hk⟩=>by subst he;exact hN _ _ hk
 | halt x w'=>simp only[eN] at h
def nB(md:Region.Mode)(o:Oper)(k:Nat):Bool:=o.after.any fun e=>Region.binds md e && e.on == k
theorem GD(h:nB md o k=true):∃e∈o.after,Region.binds md e=true/\e.on=k:=by
 unfold nB at h;obtain⟨e,he,hb⟩:=Array.any_eq_true'.1 h;simp only[Bool.and_eq_true,beq_iff_eq] at hb;exact⟨e,he,hb.1,hb.2⟩
abbrev vQ:=Nat->Option Value
def upv(s:vQ)(i:Nat)(v:Value):vQ:=fun k=>bif Nat.beq k i then some v else s k
theorem GF(s:vQ)(i:Nat)(v:Value):upv s i v i=some v:=by unfold upv;rw[Nat.beq_refl];rfl
theorem vW{s:vQ}{v:Value}(h:k≠i):upv s i v k=s k:=by
 unfold upv;have:Nat.beq k i=false:=by
  cases h':Nat.beq k i with
  | false=>rfl
  | true=>exact absurd (Nat.eq_of_beq_eq_true h') h
 rw[this];rfl
abbrev x_:=Nat->vQ->World->Prop
def Z_(K:x_)(i:Nat)(p:vQ->World->Prop):x_:=fun k=>bif Nat.beq k i then p else K k
theorem r_(K:x_)(i:Nat)(p:vQ->World->Prop):Z_ K i p i=p:=by unfold Z_;rw[Nat.beq_refl];rfl
theorem nO{K:x_}{p:vQ->World->Prop}(h:k≠i):Z_ K i p k=K k:=by
 unfold Z_;have:Nat.beq k i=false:=by
  cases h':Nat.beq k i with
  | false=>rfl
  | true=>exact absurd (Nat.eq_of_beq_eq_true h') h
 rw[this];rfl
theorem aCT{K:x_}{p q:vQ->World->Prop}(h:i≠j):Z_ (Z_ K i p) j q=Z_ (Z_ K j q) i p:=by
 funext k
 by_cases h1:k=i
 ·subst h1;rw[nO h,r_,r_]
 ·by_cases h2:k=j
  ·subst h2;rw[r_,nO h1,r_]
  ·rw[nO h2,nO h1,nO h1,nO h2]
def D8(P:Program)(md:Region.Mode)(ops:Array Oper)(C:vQ->World->Prop)(G:World->World->Prop)(Fin:Act->World->Prop):List (Nat×(Value->World->Prop))->Act->x_->Prop
 | [],a,K=>∀s w,C s w->(∀k,K k s w)->Fin a w
 | (i,p)::rs,a,K=>∃o,ops[i]?=some o/\(∀s w,C s w->s i=none->(∀k,nB md o k=true->K k s w)->gV P o a w fun v w'=>p v w'/\C (upv s i v) w'/\G w w')/\∀v,D8 P md ops C G Fin rs (a.put o.dst v) (Z_ K i fun s w=>s i=some v/\p v w)
def rK(j:Nat):List (Nat×(Value->World->Prop))->List (Nat×(Value->World->Prop))
 | []=>[]
 | p::r=>bif Nat.beq p.1 j then r else p::rK j r
theorem qQ{p:Nat×(Value->World->Prop)}{r:List (Nat×(Value->World->Prop))}:rK p.1 (p::r)=r:=by unfold rK;rw[Nat.beq_refl];rfl
theorem sQ{p:Nat×(Value->World->Prop)}{r:List (Nat×(Value->World->Prop))}(h:p.1≠j):rK j (p::r)=p::rK j r:=by
 have:Nat.beq p.1 j=false:=by
  cases h':Nat.beq p.1 j with
  | false=>rfl
  | true=>exact absurd (Nat.eq_of_beq_eq_true h') h
 conv=>lhs;unfold rK
 rw[this];rfl
theorem L5(j:Nat):∀r:List (Nat×(Value->World->Prop)),(rK j r).Sublist r
 | []=>List.Sublist.refl _
 | p::r=>by
  by_cases h:p.1=j
  ·subst h;rw[qQ];exact List.sublist_cons_self ..
  ·rw[sQ h];exact(L5 j r).cons_cons _
theorem L7:∀{r:List (Nat×(Value->World->Prop))},j∈r.map (·.1)->(rK j r).length+1=r.length
 | [],h=>by cases h
 | p::r,h=>by
  by_cases hp:p.1=j
  ·subst hp;rw[qQ];rfl
  ·rw[sQ hp,EX,EX,L7 ((List.mem_cons.1 h).resolve_left fun e=>hp e.symm)]
theorem L6(hk:k≠j):∀{r:List (Nat×(Value->World->Prop))},k∈r.map (·.1)->k∈(rK j r).map (·.1)
 | [],h=>by cases h
 | p::r,h=>by
  by_cases hp:p.1=j
  ·subst hp;rw[qQ];exact(List.mem_cons.1 h).resolve_left hk
  ·rw[sQ hp,List.map_cons]
   rcases List.mem_cons.1 h with e | h
   ·rw[e];exact List.mem_cons_self ..
   ·exact List.mem_cons_of_mem _ (L6 hk h)
theorem wT:∀{r:List (Nat×(Value->World->Prop))},(r.map (·.1)).Pairwise (·<·)->j∉(rK j r).map (·.1)
 | [],_=>by simp[rK]
 | p::r,h=>by
  rw[List.map_cons,List.pairwise_cons] at h;by_cases hp:p.1=j
  ·subst hp
   rw[qQ];intro hm;have:=h.1 _ hm;omega
  ·rw[sQ hp,List.map_cons]
   intro hm;rcases List.mem_cons.1 hm with e | hm
   ·exact hp e.symm
   ·exact wT h.2 hm
structure DQ (md:Region.Mode) (ops:Array Oper) (idx:List Nat):Prop where
 one:∀j∈idx,∃o,ops[j]?=some o/\o.guard=none/\∀e∈o.after,Region.binds md e=true->e.on<j
 two:∀i∈idx,∀j∈idx,i<j->∀oi oj,ops[i]?=some oi->ops[j]?=some oj->nB md oj i=false->oi.apart ops oj=true
theorem DQ.sub{m:List Nat}(h:DQ md ops l)(hs:∀x∈m,x∈l):DQ md ops m:=⟨fun j hj=>h.one j (hs j hj),fun i hi j hj=>h.two i (hs i hi) j (hs j hj)⟩
variable {ops:Array Oper} {C:vQ->World->Prop} {G:World->World->Prop} {Fin:Act->World->Prop}
theorem K2(aEB:∀(j:Nat)(o:Oper) cs b,ops[j]?=some o->o.op≠.select cs b){oj:Oper}{q:Value->World->Prop}(YI:ops[j]?=some oj):∀(rs:List (Nat×(Value->World->Prop))) (a:Act) (K:x_),
    (rs.map (·.1)).Pairwise (·<·)->DQ md ops (rs.map (·.1))->(j,q)∈rs->(∀i∈rs.map (·.1),i<j->nB md oj i=false)->D8 P md ops C G Fin rs a K->
    (∀s w,C s w->s j=none->(∀k,nB md oj k=true->K k s w)->gV P oj a w fun v w'=>q v w'/\C (upv s j v) w'/\G w w')/\∀v,D8 P md ops C G Fin (rK j rs) (a.put oj.dst v) (Z_ K j fun s w=>s j=some v/\q v w)
 | [],a,K,_,_,hm,_,_=>by cases hm
 | (i,p)::rs,a,K,hp,mD,hm,hw,h=>by
  rw[List.map_cons,List.pairwise_cons] at hp;obtain⟨oi,hoi,h1,h2⟩:=h;by_cases uA:i=j
  ·subst uA
   have hpq:p=q:=by
    rcases List.mem_cons.1 hm with e | hm
    ·injection e with _ e;exact e.symm
    ·have:=hp.1 _ (List.mem_map.2 ⟨_,hm,rfl⟩)
     dsimp only at this;omega
   subst hpq;rw[hoi] at YI;injection YI with YI;subst YI;rw[qQ (p:=(i,p))];exact⟨h1,h2⟩
  ·have hm':(j,q)∈rs:=(List.mem_cons.1 hm).resolve_left fun e=>uA (by injection e with e _;exact e.symm)
   have aR:i<j:=hp.1 _ (List.mem_map.2 ⟨_,hm',rfl⟩);have jZ:i∈((i,p)::rs).map (·.1):=List.mem_cons_self ..;have hmj:j∈((i,p)::rs).map (·.1):=List.mem_cons_of_mem _ (List.mem_map.2 ⟨_,hm',rfl⟩);have hwi:=hw i jZ aR;have hap:=Oper.apart_spec (mD.two i jZ j hmj aR oi oj hoi YI hwi);have aU8:=mD.sub (m:=rs.map (·.1)) fun x hx=>List.mem_cons_of_mem _ hx;have hw':∀k∈rs.map (·.1),k<j->nB md oj k=false:=fun k hk=>hw k (List.mem_cons_of_mem _ hk);have ih:=fun v=>K2 aEB YI rs (a.put oi.dst v) (Z_ K i fun s w=>s i=some v/\p v w) hp.2 aU8 hm' hw' (h2 v);refine⟨fun s w hC hn hK=>?_,fun v=>?_⟩
   ·have h3:=(ih undef).1 s w hC hn fun k hk=>by
     have hki:k≠i:=fun e=>by rw[e,hwi] at hk;cases hk
     rw[nO hki];exact hK k hk
    unfold gV at h3 ⊢;rwa[execOp_put oj (fun cs b=>aEB j oj cs b YI) a oi.dst undef hap.1] at h3
   ·rw[sQ (p:=(i,p)) uA]
    refine⟨oi,hoi,fun s w hC hn hK=>?_,fun v'=>?_⟩
    ·have hnj:nB md oi j=false:=by
      cases hb:nB md oi j with
      | false=>rfl
      | true=>
       obtain⟨e,he,bO,bH⟩:=GD hb;obtain⟨o',TB,_,hlt'⟩:=mD.one i jZ;rw[hoi] at TB;injection TB with TB;subst TB;have:=hlt' e he bO;omega
     have h3:=h1 s w hC hn fun k hk=>by
      have VK:k≠j:=fun e=>by rw[e,hnj] at hk;cases hk
      have:=hK k hk;rwa[nO VK] at this
     unfold gV at h3 ⊢;rwa[execOp_put oi (fun cs b=>aEB i oi cs b hoi) a oj.dst v hap.2.2]
    ·have h3:=(ih v').2 v
     rw[Act.put_comm a v' v hap.2.1,aCT uA] at h3;exact h3
theorem TO{S:World->Prop}(hCS:∀s w,C s w->S w)(aEB:∀(j:Nat)(o:Oper) cs b,ops[j]?=some o->o.op≠.select cs b):∀(fuel:Nat) (rs:List (Nat×(Value->World->Prop))) (listed:Array Bool) (a:Act) (w:Wo) (K:x_) (s:vQ),
    rs.length=fuel->listed.size=ops.size->(rs.map (·.1)).Pairwise (·<·)->DQ md ops (rs.map (·.1))->(∀j,j<ops.size->listed.getD j true=false->j∈rs.map (·.1))->(∀j∈rs.map (·.1),listed.getD j true=false)->
    (∀p∈rs,∀v w w',p.2 v w->G w w'->p.2 v w')->(∀k s w j v w',j∈rs.map (·.1)->K k s w->G w w'->K k (upv s j v) w')->D8 P md ops C G (Q .normal) rs a K->C s w->(∀k,K k s w)->(∀j∈rs.map (·.1),s j=none)->wpAnyH P md ops Q S fuel listed a w:=by
 intro fuel
 induction fuel with
 | zero=>
  intro rs listed a w K s hl hZ hp mD hcov hun JO hKs h hC hK LO;have:rs=[]:=List.eq_nil_of_length_eq_zero hl;subst this;refine⟨?_,h s w hC hK⟩;rw[List.eq_nil_iff_forall_not_mem];intro j hj;obtain⟨h0,o,ho,_⟩:=mem_ready.1 hj;have:=hcov j (Array.getElem?_eq_some_iff.1 ho).1 h0;cases this
 | succ fuel ih=>
  intro rs listed a w K s hl hZ hp mD hcov hun JO hKs h hC hK LO;refine⟨fun h0=>?_,fun j hj=>?_⟩
  ·exfalso
   cases rs with
   | nil=>simp at hl
   | cons p r=>
    have jZ:p.1∈(p::r).map (·.1):=List.mem_cons_self ..;obtain⟨o,ho,_,aR⟩:=mD.one p.1 jZ;have:p.1∈Region.ready md ops listed:=by
     refine mem_ready.2 ⟨hun _ jZ,o,ho,fun e he hb=>?_⟩;have hel:=aR e he hb;have DE:=(Array.getElem?_eq_some_iff.1 ho).1;cases hg:listed.getD e.on true with
     | true=>rw[<-pI (by omega)];exact hg
     | false=>
      have:=hcov e.on (by omega) hg;rw[List.map_cons] at this;rcases List.mem_cons.1 this with e1 | hm
      ·omega
      ·rw[List.map_cons,List.pairwise_cons] at hp
       have:=hp.1 _ hm;omega
    rw[h0] at this;cases this
  ·obtain⟨h0,oj,YI,xI⟩:=mem_ready.1 hj
   have hjs:=(Array.getElem?_eq_some_iff.1 YI).1;have hmj:=hcov j hjs h0;obtain⟨⟨j',q⟩,hq,rfl⟩:=List.mem_map.1 hmj;dsimp only at *;have hwn:∀i∈rs.map (·.1),i<j'->nB md oj i=false:=fun i hi _=>by
    cases hb:nB md oj i with
    | false=>rfl
    | true=>
     obtain⟨e,he,bO,bH⟩:=GD hb;have h3:=xI e he bO;have h4:=hun i hi;have yV:i<listed.size:=by
      rw[bH] at h3;exact aFn h3
     rw[bH,<-pI yV,h4] at h3;cases h3
   obtain⟨h1,h2⟩:=K2 aEB YI rs a K hp mD hq hwn h;obtain⟨o',TB,hg,_⟩:=mD.one j' hmj;rw[YI] at TB;injection TB with TB;subst TB;unfold wpOp;rw[YI];have aPI:Region.wanted oj (yielded ops a.tmps)=true:=by simp[Region.wanted,hg]
   simp only[aPI,if_true];have aIC:=L5 j' rs;have YF:∀x∈(rK j' rs).map (·.1),x∈rs.map (·.1):=fun x hx=>(aIC.map (·.1)).subset hx;refine .inl (TN (h1 s w hC (LO j' hmj) fun k _=>hK k) fun v w' ⟨g1,g2,g3⟩=>⟨hCS _ _ g2,?_⟩);refine ih (rK j' rs) _ _ w' (Z_ K j' fun s w=>s j'=some v/\q v w) (upv s j' v) (by have:=L7 hmj;omega) (by simp[hZ]) (hp.sublist (aIC.map (·.1))) (mD.sub YF) (fun k hk hu=>?_) (fun k hk=>?_) (fun p hp=>JO p (aIC.subset hp)) (fun k s1 w1 j1 v1 w2 hj1 hk hG=>?_) (h2 v) g2 (fun k=>?_) fun k hk=>?_
   ·by_cases VK:j'=k
    ·subst VK
     simp[hZ,hjs] at hu
    ·rw[getD_set_ne true VK] at hu
     exact L6 (fun e=>VK e.symm) (hcov k hk hu)
   ·have VK:j'≠k:=fun e=>by subst e;exact wT hp hk
    rw[getD_set_ne true VK];exact hun k (YF k hk)
   ·by_cases VK:k=j'
    ·subst VK
     rw[r_] at hk ⊢;exact⟨by rw[vW (fun e=>by subst e;exact wT hp hj1)];exact hk.1,JO _ hq v w1 w2 hk.2 hG⟩
    ·rw[nO VK] at hk ⊢;exact hKs k s1 w1 j1 v1 w2 (YF _ hj1) hk hG
   ·by_cases VK:k=j'
    ·subst VK;rw[r_];exact⟨GF ..,g1⟩
    ·rw[nO VK];exact hKs k s w j' v w' hmj (hK k) g3
   ·rw[vW (fun e=>by subst e;exact wT hp hk)]
    exact LO k (YF k hk)
def aDs(md:Region.Mode)(ops:Array Oper)(listed:Array Bool)(idx:List Nat):Bool:=
 Region.noSelect ops && (listed.size == ops.size) && ((List.range ops.size).filter (fun j=>!listed.getD j true) == idx) &&
 idx.all (fun j=>match ops[j]? with
  | some oj=>oj.guard.isNone && oj.after.all (fun e=>!Region.binds md e || decide (e.on<j)) && idx.all fun i=>!decide (i<j) || match ops[i]? with
   | some oi=>nB md oj i || oi.apart ops oj
   | none=>false
  | none=>false)
theorem T6{listed:Array Bool}{idx:List Nat}(h:aDs md ops listed idx=true):(∀(j:Nat)(o:Oper) cs b,ops[j]?=some o->o.op≠.select cs b)/\listed.size=ops.size/\(List.range ops.size).filter (fun j=>!listed.getD j true)=idx/\DQ md ops idx:=by
 unfold aDs at h;simp only[Bool.and_eq_true,beq_iff_eq,List.all_eq_true] at h;obtain⟨⟨⟨h1,h2⟩,h3⟩,h4⟩:=h;refine⟨Region.noSelect_spec h1,h2,h3,fun j hj=>?_,fun i hi j hj uA oi oj hoi YI hw=>?_⟩
 ·have:=h4 j hj
  cases ho:ops[j]? with
  | none=>rw[ho] at this;cases this
  | some o=>
   rw[ho] at this;simp only[Bool.and_eq_true,Option.isNone_iff_eq_none,Array.all_eq_true_iff_forall_mem,Bool.or_eq_true,Bool.not_eq_true',decide_eq_true_eq] at this;exact⟨o,rfl,this.1.1,fun e he hb=>(this.1.2 e he).resolve_left (by simp[hb])⟩
 ·have:=h4 j hj
  rw[YI] at this;simp only[Bool.and_eq_true,List.all_eq_true] at this;have h5:=this.2 i hi;rw[hoi] at h5;simp only[Bool.or_eq_true,Bool.not_eq_true',decide_eq_false_iff_not,hw,Bool.false_eq_true,false_or] at h5;exact h5.resolve_left fun h=>h uA
theorem aDr{S:World->Prop}{L:List Oper}{fuel:Nat}{listed:Array Bool}{a:Act}{w:Wo}(C:vQ->World->Prop)(G:World->World->Prop)(rs:List (Nat×(Value->World->Prop)))(hl:rs.length=fuel)(hB:aDs md L.toArray listed (rs.map (·.1))=true)(JO:∀p∈rs,∀v w w',p.2 v w->G w w'->p.2 v w')(hCS:∀s w,C s w->S w)(hC:C (fun _=>none) w)(h:D8 P md L.toArray C G (Q .normal) rs a fun _ _ _=>True):wpAnyH P md L.toArray Q S fuel listed a w:=by
 obtain⟨h1,h2,h3,h4⟩:=T6 hB;refine TO hCS h1 fuel rs listed a w (fun _ _ _=>True) (fun _=>none) hl h2 ?_ h4 (fun j hj hu=>?_) (fun j hj=>?_) JO (fun _ _ _ _ _ _ _ _ _=>trivial) h hC (fun _=>trivial) fun _ _=>rfl
 ·rw[<-h3];exact List.Pairwise.filter _ List.pairwise_lt_range
 ·rw[<-h3,List.mem_filter,List.mem_range]
  exact⟨hj,by simp only[hu];rfl⟩
 ·rw[<-h3,List.mem_filter] at hj
  simpa using hj.2
theorem dX{i:Nat}{p:Value->World->Prop}{rs:List (Nat×(Value->World->Prop))}{L:List Oper}{a:Act}{K:x_}{o:Oper}(ho:L[i]?=some o)(h1:∀s w,C s w->s i=none->(∀k,nB md o k=true->K k s w)->gV P o a w fun v w'=>p v w'/\C (upv s i v) w'/\G w w')(h2:∀v,D8 P md L.toArray C G Fin rs (a.put o.dst v) (Z_ K i fun s w=>s i=some v/\p v w)):D8 P md L.toArray C G Fin ((i,p)::rs) a K:=⟨o,by rw[List.getElem?_toArray];exact ho,h1,h2⟩
theorem CO{a:Act}{K:x_}(h:∀s w,C s w->(∀k,K k s w)->Fin a w):D8 P md ops C G Fin [] a K:=h
def ZL(i j:Nat)(s:vQ)(w:Wo):Prop:=(∀v,s i=some v->∃g,v=.pointer (some ⟨g,0,none⟩)/\g<w.heap.size)/\(∀v,s j=some v->∃g,v=.pointer (some ⟨g,0,none⟩)/\g<w.heap.size)/\∀g h,s i=some (.pointer (some ⟨g,0,none⟩))->s j=some (.pointer (some ⟨h,0,none⟩))->g≠h
theorem aAo(i j:Nat)(w:Wo):ZL i j (fun _=>none) w:=⟨fun v h=>(by cases h),fun v h=>(by cases h),fun g h h1=>(by cases h1)⟩
theorem ZL.other{s:vQ}(h:ZL i j s w)(hi:i≠k)(hj:j≠k)(hs:w.heap.size<=w'.heap.size)(v:Value):ZL i j (upv s k v) w':=by
 unfold ZL;rw[vW hi,vW hj];refine⟨fun v hv=>?_,fun v hv=>?_,h.2.2⟩
 ·obtain⟨g,e,hl⟩:=h.1 v hv
  exact⟨g,e,by omega⟩
 ·obtain⟨g,e,hl⟩:=h.2.1 v hv
  exact⟨g,e,by omega⟩
theorem ZL.left{s:vQ}(h:ZL i j s w)(uA:j≠i)(hs:w.heap.size<w'.heap.size):ZL i j (upv s i (.pointer (some ⟨w.heap.size,0,none⟩))) w':=by
 unfold ZL;rw[GF,vW uA];refine⟨fun v hv=>?_,fun v hv=>?_,fun g k h1 h2=>?_⟩
 ·injection hv with hv
  exact⟨_,hv.symm,hs⟩
 ·obtain⟨g,e,hl⟩:=h.2.1 v hv
  exact⟨g,e,by omega⟩
 ·injection h1 with h1
  injection h1 with h1;injection h1 with h1;injection h1 with h1;obtain⟨g',e,hl⟩:=h.2.1 _ h2;injection e with e;injection e with e;injection e with e;omega
theorem ZL.right{s:vQ}(h:ZL i j s w)(uA:i≠j)(hs:w.heap.size<w'.heap.size):ZL i j (upv s j (.pointer (some ⟨w.heap.size,0,none⟩))) w':=by
 unfold ZL;rw[GF,vW uA];refine⟨fun v hv=>?_,fun v hv=>?_,fun g k h1 h2=>?_⟩
 ·obtain⟨g,e,hl⟩:=h.1 v hv
  exact⟨g,e,by omega⟩
 ·injection hv with hv
  exact⟨_,hv.symm,hs⟩
 ·injection h2 with h2
  injection h2 with h2;injection h2 with h2;injection h2 with h2;obtain⟨g',e,hl⟩:=h.1 _ h1;injection e with e;injection e with e;injection e with e;omega
theorem lC{S:World->Prop}{id:Nat}{a:Act}{w:Wo}{L:List Oper}(n:Nat)(oM oN:Oper)(hm:P.follows .mixedOrders=true)(hs:rI .any L (n+1)=true)(yS:rI .any (L.take (n+1)) n=true)(hM:L[n]?=some oM)(hN:L[n+1]?=some oN)(hS:S w.drew)(h:S w.drew->wpAnyH P .any (L.take n).toArray (kN P (L.take (n+1)).toArray oM (kN P L.toArray oN Q)) S n (Array.replicate n false) a w.drew):(Code.region id L.toArray true).wp P Q a w:=by
 obtain⟨h1,h2,h3⟩:=lL hs;have ht:(L.take (n+1)).take n=L.take n:=by rw[List.take_take,Nat.min_eq_left (by omega)]
 refine wp_region_any hm ?_;rw[show L.toArray.size=n+1+1 from by simpa using h1,Array.replicate_succ];have wQ:∀(F:List Oper)(k:Nat),m7 .any F (Array.replicate k false):=fun F k j o ho hj=>by
  rcases Nat.lt_or_ge j k with h' | h'<;>simp[h'] at hj
 refine jQ hs hN (n+1) _ a _ (by simp) (wQ _ _) ?_;rw[Array.replicate_succ];refine jQ yS (by rw[List.getElem?_take_of_lt (by omega)];exact hM) n _ a _ (by simp) (wQ _ _) ?_;rw[ht];exact wpAny_of_held _ _ _ _ (h hS)
end
def IQ:Nat->Nat->List UInt8
 | 0,_=>[]
 | k+1,r=>IQ k (r / 10)++[UInt8.ofNat (48+r % 10)]
theorem RN:∀(k r:Nat),(IQ k r).length=k
 | 0,_=>rfl
 | k+1,r=>by rw[IQ,g_,RN k];rfl
theorem eV{u:Nat}(h:u<10):Lib.decDigits u=[UInt8.ofNat (48+u)]:=by rw[Lib.decDigits,dif_pos h]
theorem tU{u:Nat}(h:¬u<10):Lib.decDigits u=Lib.decDigits (u / 10)++[UInt8.ofNat (48+u % 10)]:=by rw[Lib.decDigits,dif_neg h]
theorem L4:∀(k q r:Nat),0<q->r<10^k->Lib.decDigits (q*10^k+r)=Lib.decDigits q++IQ k r
 | 0,q,r,_,hr=>by
  rw[Nat.pow_zero] at hr ⊢;rw[IQ,List.append_nil,Nat.mul_one,show q+r=q from by omega]
 | k+1,q,r,hq,hr=>by
  have h1:1<=10^k:=Nat.one_le_pow _ _ (by decide);have h2:10^(k+1)=10^k*10:=Nat.pow_succ ..;have h3:q*10^(k+1)=q*10^k*10:=by rw[h2,Nat.mul_assoc]
  have h4:1*10^k<=q*10^k:=Nat.mul_le_mul_right _ hq;rw[tU (by omega),IQ,show(q*10^(k+1)+r) / 10=q*10^k+r / 10 from by omega,show(q*10^(k+1)+r) % 10=r % 10 from by omega,
   L4 k q (r / 10) hq (by rw[h2] at hr;omega),List.append_assoc]
theorem LW:∀k:Nat,IQ k 0=List.replicate k 48
 | 0=>rfl
 | k+1=>by
  rw[IQ,Nat.zero_div,LW k,List.replicate_succ'];rfl
theorem oG(u:Nat):1<=(Lib.decDigits u).length:=by
 by_cases h:u<10
 ·rw[eV h];exact lR
 ·rw[tU h,g_];simp
theorem IP:∀(k r:Nat),1<=k->r<10^k->IQ k r=List.replicate (k-(Lib.decDigits r).length) 48++Lib.decDigits r
 | 0,_,h,_=>absurd h (by decide)
 | k+1,r,_,hr=>by
  by_cases h:r<10
  ·rw[eV h,IQ,Nat.div_eq_of_lt h,LW,Nat.mod_eq_of_lt h]
   rfl
  ·have hk:1<=k:=by
    rcases Nat.eq_zero_or_pos k with rfl | h'
    ·simp at hr;omega
    ·exact h'
   rw[tU h,IQ,IP k (r / 10) hk (by rw[Nat.pow_succ] at hr;omega),List.append_assoc,g_,List.length_singleton,Nat.add_sub_add_right]
theorem R3(hk:1<=k)(hr:r<10^k):(Lib.decDigits r).length<=k:=by
 have h:=congrArg List.length (IP k r hk hr);rw[RN,g_] at h;omega
def dvg(acc:Nat)(l:List UInt8):Nat:=l.foldl (fun a c=>a*10+(c.toNat-48)) acc
def dv(l:List UInt8):Nat:=dvg 0 l
theorem AZ:∀(l:List UInt8)(acc:Nat),dvg acc l=acc*10^l.length+dv l
 | [],acc=>by simp[dvg,dv]
 | c::r,acc=>by
  have h1:=AZ r (acc*10+(c.toNat-48));have h2:=AZ r (0*10+(c.toNat-48));unfold dv dvg at *;rw[List.foldl_cons,List.foldl_cons,h1,h2,EX,Nat.pow_succ];grind
theorem wS(a b:List UInt8):dv (a++b)=dv a*10^b.length+dv b:=by
 have h:dv (a++b)=dvg (dv a) b:=by unfold dv dvg;rw[List.foldl_append]
 rw[h,AZ]
theorem aFM(h:d<10):(UInt8.ofNat (48+d)).toNat-48=d:=by
 have:(UInt8.ofNat (48+d)).toNat=48+d:=by rw[UInt8.toNat_ofNat'];omega
 omega
theorem NZ(h:d<10):dv [UInt8.ofNat (48+d)]=d:=by
 show 0*10+((UInt8.ofNat (48+d)).toNat-48)=d;rw[aFM h];omega
theorem y9(u:Nat):dv (Lib.decDigits u)=u:=by
 induction u using Nat.strongRecOn with
 | _ u ih=>
  by_cases h:u<10
  ·rw[eV h,NZ h]
  ·rw[tU h,wS,ih (u / 10) (by omega),NZ (by omega)]
   simp;omega
def OF(c:UInt8):Prop:=48<=c.toNat/\c.toNat<=57
theorem N5(u:Nat):∀c∈Lib.decDigits u,OF c:=by
 induction u using Nat.strongRecOn with
 | _ u ih=>
  intro c hc;have key:∀d,d<10->OF (UInt8.ofNat (48+d)):=fun d hd=>by
   have:(UInt8.ofNat (48+d)).toNat=48+d:=by rw[UInt8.toNat_ofNat'];omega
   exact⟨by omega,by omega⟩
  by_cases h:u<10
  ·rw[eV h,List.mem_singleton] at hc
   subst hc;exact key u h
  ·rw[tU h,List.mem_append,List.mem_singleton] at hc
   rcases hc with hc | rfl
   ·exact ih (u / 10) (by omega) c hc
   ·exact key _ (by omega)
def EW(l:List UInt8):Prop:=l≠[]/\(∀c∈l,OF c)/\(1<l.length->l.head?≠some 48)
theorem aFS(u:Nat):0<u->(Lib.decDigits u).head?≠some 48:=by
 induction u using Nat.strongRecOn with
 | _ u ih=>
  intro hu;by_cases h:u<10
  ·rw[eV h]
   intro he;have he:UInt8.ofNat (48+u)=48:=Option.some.inj he;have:(UInt8.ofNat (48+u)).toNat=48+u:=by rw[UInt8.toNat_ofNat'];omega
   rw[he] at this;have h48:(48:UInt8).toNat=48:=rfl;omega
  ·rw[tU h,List.head?_append]
   have h1:=ih (u / 10) (by omega) (by omega);have h2:=oG (u / 10);cases hd:Lib.decDigits (u / 10) with
   | nil=>rw[hd] at h2;simp at h2
   | cons c t=>rw[hd] at h1;simpa using h1
theorem aBJ(u:Nat):EW (Lib.decDigits u):=by
 refine⟨fun h=>?_,N5 u,fun h=>?_⟩
 ·have:=oG u
  rw[h] at this;simp at this
 ·by_cases h0:u=0
  ·subst h0
   rw[eV (by decide)] at h;simp at h
  ·exact aFS u (by omega)
theorem NL{c:UInt8}(h:OF c):∃d,d<10/\c=UInt8.ofNat (48+d):=by
 refine⟨c.toNat-48,by have:=h.2;omega,?_⟩;apply UInt8.toNat_inj.1;rw[UInt8.toNat_ofNat'];have:=h.1;have:=h.2;omega
theorem aM5:∀{l:List UInt8},l≠[]->(∀c∈l,OF c)->l.head?≠some 48->0<dv l
 | [],h,_,_=>absurd rfl h
 | c::r,_,hd,hh=>by
  obtain⟨d,YM,rfl⟩:=NL (hd c (by simp));have h1:=AZ r (0*10+((UInt8.ofNat (48+d)).toNat-48));have h2:dv (UInt8.ofNat (48+d)::r)=dvg (0*10+((UInt8.ofNat (48+d)).toNat-48)) r:=rfl;rw[h2,h1,aFM YM];have hd0:d≠0:=fun e=>by subst e;exact hh rfl
  have:1*10^r.length<=(0*10+d)*10^r.length:=Nat.mul_le_mul_right _ (by omega);have:1<=10^r.length:=Nat.one_le_pow _ _ (by decide);omega
theorem pQ{l:List UInt8}(h:EW l):Lib.decDigits (dv l)=l:=by
 obtain⟨n,hn⟩:∃n,l.length=n:=⟨_,rfl⟩
 induction n generalizing l with
 | zero=>exact absurd (List.eq_nil_of_length_eq_zero hn) h.1
 | succ n ih=>
  obtain⟨a,c,rfl⟩:∃a c,l=a++[c]:=⟨l.dropLast,l.getLast h.1,(List.dropLast_concat_getLast h.1).symm⟩;obtain⟨d,hd,rfl⟩:=NL (h.2.1 c (by simp));rw[wS,NZ hd];by_cases ha:a=[]
  ·subst ha
   rw[List.nil_append,show dv []=0 from rfl];simp only[List.length_singleton,Nat.pow_one,Nat.zero_mul,Nat.zero_add];exact eV hd
  ·have uH:1<=a.length:=by cases a with | nil=>exact absurd rfl ha | cons _ _=>simp
   have hh:a.head?≠some 48:=by
    have:=h.2.2 (by simp;omega);cases a with
    | nil=>exact absurd rfl ha
    | cons x t=>simpa using this
   have hdg:∀c∈a,OF c:=fun c hc=>h.2.1 c (List.mem_append_left _ hc);have hp:=aM5 ha hdg hh;have YN:EW a:=⟨ha,hdg,fun _=>hh⟩;have:=ih YN (by simp at hn;omega);simp only[List.length_singleton,Nat.pow_one];rw[tU (by omega),show(dv a*10+d) / 10=dv a from by omega,show(dv a*10+d) % 10=d from by omega,this]
theorem N4(h:Lib.decDigits m=Lib.decDigits n):m=n:=by rw[<-y9 m,<-y9 n,h]
theorem RP:∀{l:List UInt8},(∀c∈l,OF c)->dv l<10^l.length:=by
 intro l;obtain⟨n,hn⟩:∃n,l.length=n:=⟨_,rfl⟩
 induction n generalizing l with
 | zero=>intro _;rw[List.eq_nil_of_length_eq_zero hn];decide
 | succ n ih=>
  intro h;have cG:l≠[]:=fun e=>by subst e;simp at hn
  obtain⟨a,c,rfl⟩:∃a c,l=a++[c]:=⟨l.dropLast,l.getLast cG,(List.dropLast_concat_getLast cG).symm⟩;obtain⟨d,hd,rfl⟩:=NL (h c (by simp));have:=ih (l:=a) (by simp at hn;omega) (fun c hc=>h c (List.mem_append_left _ hc));rw[wS,NZ hd,g_,List.length_singleton,Nat.pow_succ];omega
def xU(n:Nat):Nat:=(Lib.decDigits n).length
theorem US(hk:1<=k)(h:n<10^k):xU n<=k:=R3 hk h
theorem aEc(n:Nat):n<10^xU n:=by
 have:=RP (N5 n);rwa[y9] at this
end
section
def pv:List Nat->Nat
 | []=>0
 | x::r=>x+1000000000*pv r
def aGi(ps:List Nat):Prop:=∀x∈ps,x<1000000000
theorem X0:∀(ps:List Nat)(r:Nat),pv (ps++[r])=pv ps+r*1000000000^ps.length
 | [],r=>by simp[pv]
 | x::t,r=>by
  rw[List.cons_append,pv,X0 t r,pv,EX,Nat.pow_succ];grind
theorem aAC(h:aGi ps)(hr:r<1000000000):aGi (ps++[r]):=fun x hx=>(List.mem_append.1 hx).elim (h x) fun h=>by rw[List.mem_singleton.1 h];exact hr
theorem X1(h:ps[k]?=some x):pv (ps.drop k)=x+1000000000*pv (ps.drop (k+1)):=by
 obtain⟨hl,he⟩:=cY.1 h;rw[List.drop_eq_getElem_cons hl,he,pv]
def SO(ps:List Nat):Prop:=∀x,ps.getLast?=some x->0<x
theorem aDB:∀{ps:List Nat},SO ps->ps≠[]->0<pv ps
 | [x],h,_=>by
  have:=h x rfl;simp only[pv];omega
 | x::y::r,h,_=>by
  have:=aDB (ps:=y::r) (fun z hz=>h z (by rw[List.getLast?_cons_cons];exact hz)) (by simp);rw[pv];omega
theorem UD(h:SO ps)(hk:k<ps.length):0<pv (ps.drop k):=by
 refine aDB (fun x hx=>h x ?_) (fun e=>by have:=congrArg List.length e;rw[J2] at this;simp at this;omega);rw[List.getLast?_drop,if_neg (by omega)] at hx;exact hx
def Dg(ps:List Nat)(k:Nat):List UInt8:=if k<ps.length then Lib.decDigits (pv (ps.drop k)) else[]
theorem aFN(ps:List Nat):Dg ps ps.length=[]:=by unfold Dg;rw[if_neg (Nat.lt_irrefl _)]
theorem aM6(h:ps[k]?=some x)(hk:k+1=ps.length):Dg ps k=Lib.decDigits x:=by
 unfold Dg;rw[if_pos (by omega),X1 h,List.drop_eq_nil_of_le (by omega),pv,Nat.mul_zero,Nat.add_zero]
theorem aM7(h:ps[k]?=some x)(hk:k+1<ps.length)(mD:aGi ps)(ht:SO ps):Dg ps k=Dg ps (k+1)++List.replicate (9-(Lib.decDigits x).length) 48++Lib.decDigits x:=by
 unfold Dg;have hx:=mD x (bS h);have hp:=UD ht hk;rw[if_pos (by omega),if_pos hk,X1 h,Nat.add_comm x,Nat.mul_comm,show 1000000000=10^9 from rfl,L4 9 _ x hp hx,IP 9 x (by decide) hx,List.append_assoc]
theorem aM9(h:ps≠[]):Dg ps 0=Lib.decDigits (pv ps):=by
 unfold Dg;rw[if_pos (List.length_pos_iff.2 h),List.drop_zero]
theorem aM8(h:ps[k]?=some x)(mD:aGi ps):1<=(Lib.decDigits x).length/\(Lib.decDigits x).length<=9:=
 ⟨oG x,R3 (by decide) (mD x (bS h))⟩
theorem yH{a b:Nat}(h:a<=b):10^a<=10^b:=Nat.pow_le_pow_right (by decide) h
theorem aRo:10^2000<=BB 210:=by unfold BB;decide+kernel
theorem aRp:BB 210<=1000000000^225:=by unfold BB;decide+kernel
theorem UZ(h:210<dA n):2000<xU n:=by
 have h0:n≠0:=fun e=>by rw[e,iL] at h;omega
 have h1:=aIs h0;have h2:BB 210<=n:=b_ (S4 (by omega)) h1;refine Nat.lt_of_not_le fun KA=>?_;have h3:=aEc n;have h4:=yH KA;have h5:=aRo;omega
theorem aBm{v L:Nat}(hv:dA v<=210)(hg:0<g)(h:g*1000000000^L<=v):L<225:=by
 have h1:=nP v;have h2:v<1000000000^225:=kA h1 (b_ (S4 hv) aRp);have h3:1*1000000000^L<=g*1000000000^L:=Nat.mul_le_mul_right _ hg;exact(Nat.pow_lt_pow_iff_right (a:=1000000000) (by decide)).1 (by omega)
def jR(z:Int):List UInt8:=(if z<0 then[45] else[])++Lib.decDigits z.natAbs
def jY(l:List UInt8):Prop:=∀c∈l,OF c
theorem jY.take{l:List UInt8}(h:jY l)(n:Nat):jY (l.take n):=fun c hc=>h c (List.mem_of_mem_take hc)
theorem jY.drop{l:List UInt8}(h:jY l)(n:Nat):jY (l.drop n):=fun c hc=>h c (List.mem_of_mem_drop hc)
theorem puM:∀(l:List UInt8)(mx acc:Nat),jY l->mx<=4294967295->dvg acc l<=mx->Lib.parseUintM mx acc l=.ok (dvg acc l)
 | [],mx,acc,_,_,_=>rfl
 | c::r,mx,acc,h,h4,hm=>by
  have hc:=h c (List.mem_cons_self ..);have hr:jY r:=fun x hx=>h x (List.mem_cons_of_mem _ hx);have e:dvg acc (c::r)=dvg (acc*10+(c.toNat-48)) r:=rfl;rw[e] at hm ⊢;have KA:acc*10+(c.toNat-48)<=dvg (acc*10+(c.toNat-48)) r:=by
   rw[AZ];have:1<=10^r.length:=Nat.one_le_pow _ _ (by decide);have:=Nat.mul_le_mul_left (acc*10+(c.toNat-48)) this;omega
  have ih:=puM r mx _ hr h4 hm;unfold Lib.parseUintM;rw[if_pos (show 48<=c.toNat/\c.toNat<=57 from hc),if_neg (by omega),if_neg (by omega)];exact ih
theorem aUs{l:List UInt8}(h:jY l)(h0:l≠[])(h9:l.length<=9):Lib.parseUintB 32 l=.ok (dv l):=by
 unfold Lib.parseUintB;rw[if_neg h0];refine puM l _ 0 h (by decide) ?_;have h1:=RP h;have h2:10^l.length<=10^9:=Nat.pow_le_pow_right (by decide) h9;show dv l<=_;omega
theorem aJh(l m:List UInt8)(h:l=[]\/m.length=9):dv (l++m)=dv l*1000000000+dv m:=by
 rw[wS];rcases h with rfl | h
 ·simp[dv,dvg]
 ·rw[h]
theorem N0{l:List UInt8}(h:jY l):dA (dv l)<=l.length:=by
 refine kI (kA (RP h) ?_);exact Nat.pow_le_pow_left (by decide) _
end
