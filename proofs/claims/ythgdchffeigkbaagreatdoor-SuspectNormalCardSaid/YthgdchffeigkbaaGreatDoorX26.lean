import Derived.Test.YthgdchffeigkbaaGreatDoorX21
import Derived.Test.YthgdchffeigkbaaGreatDoorCards
import Derived.Test.YthgdchffeigkbaaGreatDoorTie
import Derived.JoinedOf
import Derived.RowKitTokens
set_option linter.unusedVariables false
set_option linter.unusedSimpArgs false
namespace Go.Proofs.YthgdchffeigkbaaGreatDoor
set_option maxHeartbeats 4000000
set_option maxRecDepth 100000
section
def GA {α:Type} (n E K:Nat) (f1 f2 f3 f4:Nat->α):Nat->α:=fun j=>if j<n then f1 j else if j<n+E then f2 (j-n) else if j<n+E+K then f3 (j-n-E) else f4 (j-n-E-K)
section
variable {n E K:Nat}
theorem KR {α:Type} {f1 f2 f3 f4:Nat->α} {j:Nat} (h:j<n):GA n E K f1 f2 f3 f4 j=f1 j:=by unfold GA;rw [if_pos h]
theorem PX {α:Type} {f1 f2 f3 f4:Nat->α} {j:Nat} (h:j<E):GA n E K f1 f2 f3 f4 (n+j)=f2 j:=by
 unfold GA;rw [if_neg (by omega),if_pos (by omega),Nat.add_sub_cancel_left]
theorem F_ {α:Type} {f1 f2 f3 f4:Nat->α} {j:Nat} (h:j<K):GA n E K f1 f2 f3 f4 (n+(E+j))=f3 j:=by
 unfold GA;rw [if_neg (by omega),if_neg (by omega),if_pos (by omega),show n+(E+j)-n-E=j by omega]
theorem PW {α:Type} {f1 f2 f3 f4:Nat->α} {j:Nat}:GA n E K f1 f2 f3 f4 (n+(E+(K+j)))=f4 j:=by
 unfold GA;rw [if_neg (by omega),if_neg (by omega),if_neg (by omega),show n+(E+(K+j))-n-E-K=j by omega]
theorem vY {α:Type} {f1 f2 f3 f4:Nat->α} {P:α->Prop} (h1:∀ j,j<n->P (f1 j)) (h2:∀ j,j<E->P (f2 j)) (h3:∀ j,j<K->P (f3 j)) (h4:∀ j,j<E->P (f4 j)):∀ j,j<n+(E+(K+E))->P (GA n E K f1 f2 f3 f4 j):=fun j hj=>by
 unfold GA
 split
 ·exact h1 j (by omega)
 ·split
  ·exact h2 _ (by omega)
  ·split
   ·exact h3 _ (by omega)
   ·exact h4 _ (by omega)
theorem aIH (f1 f2 f3 f4:Nat->Int) (g:Fn):aO (n+(E+(K+E))) (fun j=>((GA n E K f1 f2 f3 f4 j:Int):Rat)*g j)=aO n (fun j=>(f1 j:Rat)*g j)+(aO E (fun j=>(f2 j:Rat)*g (n+j))+(aO K (fun j=>(f3 j:Rat)*g (n+(E+j)))+aO E (fun j=>(f4 j:Rat)*g (n+(E+(K+j)))))):=by
 rw [kW,kW,kW];congr 1
 ·exact aN fun j hj=>by rw [KR hj]
 congr 1
 ·exact aN fun j hj=>by rw [PX hj]
 congr 1
 ·exact aN fun j hj=>by rw [F_ hj]
 ·exact aN fun j hj=>by rw [PW]
end
def fW (n:Nat):Nat:=10^n
theorem aT0 {a b:Nat} (h:a<=b):fW a<=fW b:=Nat.pow_le_pow_right (by decide) h
theorem CZ {a b c:Nat} (h:a+b<=c):fW a*fW b<=fW c:=by
 unfold fW;rw [<-Nat.pow_add];exact Nat.pow_le_pow_right (by decide) h
theorem aOL (a:Nat):1<=fW a:=Nat.pow_pos (by decide)
structure Aug where
 E:Nat
 X:Nat->Int
 tw:Nat->Nat->Int
 M:Nat->Nat->Int
 N:Nat->Nat->Int
 w:Nat->Int
structure Aug.Ok (U:Aug) (L:Ls):Prop where
 x:∀ e,e<U.E->1<=U.X e/\U.X e<=1000000000
 t:∀ e i,(U.tw e i).natAbs<=1
 m:∀ k e,(U.M k e).natAbs<=1
 n:∀ k i,(U.N k i).natAbs<=1
 w:∀ k,k<L.K->1<=U.w k/\U.w k<=1000/\L.w k=(U.w k:Rat)
 r:∀ k,k<L.K->∀ i,i<L.n->L.R k i=aO U.E (fun e=>(U.M k e:Rat)*((1000000 / (U.X e:Rat))*(U.tw e i:Rat)))+(U.N k i:Rat)
namespace Aug
variable (U:Aug) (L:Ls)
def row (i:Nat):Nat->Int:=
 GA L.n U.E L.K
  (fun i=>GA L.n U.E L.K (fun _=>0) (fun _=>0) (fun k=>U.N k i*U.w k) (fun e=>U.tw e i))
  (fun e=>GA L.n U.E L.K (fun i=>-(1000000*U.tw e i)) (fun e2=>if e2=e then U.X e else 0) (fun _=>0) (fun _=>0))
  (fun k=>GA L.n U.E L.K (fun i=>U.N k i) (fun e=>U.M k e) (fun k2=>if k2=k then 1 else 0) (fun _=>0))
  (fun e=>GA L.n U.E L.K (fun _=>0) (fun _=>0) (fun k=>-(1000000*(U.M k e*U.w k))) (fun e2=>if e2=e then U.X e else 0)) i
def sus (e:Nat):Rat:=1000000 / (U.X e:Rat)
def pp (a:Fn):Fn:=fun e=>U.sus e*aO L.n fun i=>(U.tw e i:Rat)*a i
def tt (r:Fn):Fn:=fun e=>U.sus e*aO L.K fun k=>(U.M k e:Rat)*(L.w k*r k)
def vec (a r:Fn):Fn:=GA L.n U.E L.K a (U.pp L a) r (U.tt L r)
variable {U L}
theorem Ok.sus_x (h:U.Ok L) {e:Nat} (he:e<U.E):(U.X e:Rat)*U.sus e=1000000:=by
 have h1:=(h.x e he).1;have h2:(U.X e:Rat)≠0:=fun e2=>by
  have:(U.X e:Rat)=((0:Int):Rat):=e2;rw [Rat.intCast_inj] at this;omega
 unfold sus;rw [Rat.div_def,Rat.mul_comm,Rat.mul_assoc,Rat.inv_mul_cancel _ h2,Rat.mul_one]
theorem T7 {m k:Nat} (hk:k<m) (c:Int) (g:Fn):aO m (fun j=>(((if j=k then c else 0):Int):Rat)*g j)=(c:Rat)*g k:=by
 rw [iN hk (fun j _ cP=>by rw [if_neg cP];exact Rat.zero_mul _),if_pos rfl]
theorem o0 (m:Nat) (g:Fn):aO m (fun j=>((0:Int):Rat)*g j)=0:=eV fun j _=>Rat.zero_mul _
theorem Ok.rdot (h:U.Ok L) {k:Nat} (hk:k<L.K) (a:Fn):bB L.n (L.R k) a=aO U.E (fun e=>(U.M k e:Rat)*U.pp L a e)+aO L.n (fun i=>(U.N k i:Rat)*a i):=by
 have e1:bB L.n (L.R k) a=aO L.n (fun i=>aO U.E (fun e=>(U.M k e:Rat)*(U.sus e*((U.tw e i:Rat)*a i)))+(U.N k i:Rat)*a i):=by
  unfold bB;refine aN fun i hi=>?_;rw [h.r k hk i hi,Rat.add_mul,FJ];congr 1
  exact aN fun e _=>by unfold sus;grind
 rw [e1,fX,pC];congr 1
 refine aN fun e _=>?_;rw [bY];unfold pp;rw [bY]
theorem Ok.cdot (h:U.Ok L) {i:Nat} (hi:i<L.n) (r:Fn):aO L.K (fun k=>L.w k*r k*L.R k i)=aO U.E (fun e=>(U.tw e i:Rat)*U.tt L r e)+aO L.K (fun k=>(U.N k i:Rat)*(L.w k*r k)):=by
 have e1:aO L.K (fun k=>L.w k*r k*L.R k i)=aO L.K (fun k=>aO U.E (fun e=>(U.tw e i:Rat)*(U.sus e*((U.M k e:Rat)*(L.w k*r k))))+(U.N k i:Rat)*(L.w k*r k)):=by
  refine aN fun k hk=>?_;rw [h.r k hk i hi,Rat.mul_add,<-bY];congr 1
  ·exact aN fun e _=>by unfold sus;grind
  ·grind
 rw [e1,fX,pC];congr 1
 refine aN fun e _=>?_;rw [bY];unfold tt;rw [bY]
theorem aJD {i:Nat} (hi:i<L.n) (g:Fn):aO (L.n+(U.E+(L.K+U.E))) (fun j=>((U.row L i j:Int):Rat)*g j)=aO L.K (fun k=>((U.N k i*U.w k:Int):Rat)*g (L.n+(U.E+k)))+aO U.E (fun e=>(U.tw e i:Rat)*g (L.n+(U.E+(L.K+e)))):=by
 have e:∀ j,U.row L i j=GA L.n U.E L.K (fun _=>0) (fun _=>0) (fun k=>U.N k i*U.w k) (fun e=>U.tw e i) j:=fun j=>by unfold row;rw [KR hi]
 simp only [e];rw [aIH,o0,o0,Rat.zero_add,Rat.zero_add]
theorem aJC {e:Nat} (he:e<U.E) (g:Fn):aO (L.n+(U.E+(L.K+U.E))) (fun j=>((U.row L (L.n+e) j:Int):Rat)*g j)=(U.X e:Rat)*g (L.n+e)-1000000*aO L.n (fun i=>(U.tw e i:Rat)*g i):=by
 have e1:∀ j,U.row L (L.n+e) j=GA L.n U.E L.K (fun i=>-(1000000*U.tw e i)) (fun e2=>if e2=e then U.X e else 0) (fun _=>0) (fun _=>0) j:=fun j=>by unfold row;rw [PX he]
 simp only [e1];rw [aIH,o0,o0,T7 he (U.X e) (fun j=>g (L.n+j))];have e2:aO L.n (fun j=>((-(1000000*U.tw e j):Int):Rat)*g j)=(-1000000)*aO L.n (fun i=>(U.tw e i:Rat)*g i):=by
  rw [<-bY];refine aN fun i _=>?_;rw [Rat.intCast_neg,Rat.intCast_mul];have:((1000000:Int):Rat)=1000000:=rfl;rw [this];grind
 rw [e2];grind
theorem aJB {k:Nat} (hk:k<L.K) (g:Fn):aO (L.n+(U.E+(L.K+U.E))) (fun j=>((U.row L (L.n+(U.E+k)) j:Int):Rat)*g j)=aO L.n (fun i=>(U.N k i:Rat)*g i)+aO U.E (fun e=>(U.M k e:Rat)*g (L.n+e))+g (L.n+(U.E+k)):=by
 have e1:∀ j,U.row L (L.n+(U.E+k)) j=GA L.n U.E L.K (fun i=>U.N k i) (fun e=>U.M k e) (fun k2=>if k2=k then 1 else 0) (fun _=>0) j:=fun j=>by unfold row;rw [F_ hk]
 simp only [e1];rw [aIH,o0,T7 hk 1 (fun j=>g (L.n+(U.E+j)))];have:((1:Int):Rat)=1:=rfl;rw [this];grind
theorem aJA {e:Nat} (he:e<U.E) (g:Fn):aO (L.n+(U.E+(L.K+U.E))) (fun j=>((U.row L (L.n+(U.E+(L.K+e))) j:Int):Rat)*g j)=(U.X e:Rat)*g (L.n+(U.E+(L.K+e)))-1000000*aO L.K (fun k=>((U.M k e*U.w k:Int):Rat)*g (L.n+(U.E+k))):=by
 have e1:∀ j,U.row L (L.n+(U.E+(L.K+e))) j=GA L.n U.E L.K (fun _=>0) (fun _=>0) (fun k=>-(1000000*(U.M k e*U.w k))) (fun e2=>if e2=e then U.X e else 0) j:=fun j=>by unfold row;rw [PW]
 simp only [e1];rw [aIH,o0,o0,T7 he (U.X e) (fun j=>g (L.n+(U.E+(L.K+j))))];have e2:aO L.K (fun j=>((-(1000000*(U.M j e*U.w j)):Int):Rat)*g (L.n+(U.E+j)))=(-1000000)*aO L.K (fun k=>((U.M k e*U.w k:Int):Rat)*g (L.n+(U.E+k))):=by
  rw [<-bY];refine aN fun i _=>?_;rw [Rat.intCast_neg,Rat.intCast_mul];have:((1000000:Int):Rat)=1000000:=rfl;rw [this];grind
 rw [e2];grind
theorem Ok.bnd (h:U.Ok L) {i j:Nat} (hi:i<L.n+(U.E+(L.K+U.E))) (hj:j<L.n+(U.E+(L.K+U.E))):(U.row L i j).natAbs<=1000000000:=by
 have wN:∀ k,k<L.K->(U.w k).natAbs<=1000:=fun k hk=>by have:=h.w k hk;omega
 have key:∀ (a b:Int) (m:Nat),a.natAbs<=1->b.natAbs<=m->(a*b).natAbs<=m:=fun a b m h1 h2=>by
  rw [Int.natAbs_mul];have:=Nat.mul_le_mul h1 h2;omega
 unfold row;refine vY (P:=fun f:Nat->Int=>(f j).natAbs<=1000000000) (fun i2 h2=>?_) (fun e he=>?_) (fun k hk=>?_) (fun e he=>?_) i hi
 ·exact vY (P:=fun z:Int=>z.natAbs<=1000000000) (fun _ _=>by decide) (fun _ _=>by decide) (fun k hk=>cV (key _ _ _ (h.n k i2) (wN k hk)) (by decide)) (fun e _=>cV (h.t e i2) (by decide)) j hj
 ·refine vY (P:=fun z:Int=>z.natAbs<=1000000000) (fun i2 _=>?_) (fun e2 _=>?_) (fun _ _=>by decide) (fun _ _=>by decide) j hj
  ·have:=h.t e i2;omega
  ·split
   ·have:=h.x e he;omega
   ·decide
 ·refine vY (P:=fun z:Int=>z.natAbs<=1000000000) (fun i2 _=>?_) (fun e2 _=>?_) (fun k2 _=>?_) (fun _ _=>by decide) j hj
  ·have:=h.n k i2;omega
  ·have:=h.m k e2;omega
  ·split<;>decide
 ·refine vY (P:=fun z:Int=>z.natAbs<=1000000000) (fun _ _=>by decide) (fun _ _=>by decide) (fun k hk=>?_) (fun e2 _=>?_) j hj
  ·have h1:=key _ _ _ (h.m k e) (wN k hk)
   show (-(1000000*(U.M k e*U.w k))).natAbs<=1000000000;omega
  ·split
   ·have:=h.x e he;omega
   ·decide
theorem Ok.x0 (h:U.Ok L) {e:Nat} (he:e<U.E):(U.X e:Rat)≠0:=fun e2=>by
 have h1:=(h.x e he).1;have:(U.X e:Rat)=((0:Int):Rat):=e2;rw [Rat.intCast_inj] at this;omega
theorem Ok.cancel (h:U.Ok L) {e:Nat} (he:e<U.E) {p s:Rat} (hp:(U.X e:Rat)*p-1000000*s=0):p=U.sus e*s:=by
 have h1:=h.sus_x he;have h2:=h.x0 he;have h3:(U.X e:Rat)*(p-U.sus e*s)=0:=by grind
 rcases Rat.mul_eq_zero.1 h3 with h4 | h4
 ·exact absurd h4 h2
 ·grind
theorem Ok.wcast (h:U.Ok L) {k:Nat} (hk:k<L.K) (z:Int) (r:Rat):((z*U.w k:Int):Rat)*r=(z:Rat)*(L.w k*r):=by
 rw [Rat.intCast_mul,(h.w k hk).2.2,Rat.mul_assoc]
theorem Ok.pos (h:U.Ok L):L.Pos:=fun k hk=>by
 rw [(h.w k hk).2.2];exact Rat.intCast_pos.2 (by have:=(h.w k hk).1;omega)
theorem Ok.reg (h:U.Ok L) (fN:∀ c:Fn,(∀ k,k<L.K->bB L.n (L.R k) c=0)->∀ j,j<L.n->c j=0) (c:Fn) (hc:∀ i,i<L.n+(U.E+(L.K+U.E))->aO (L.n+(U.E+(L.K+U.E))) (fun j=>((U.row L i j:Int):Rat)*c j)=0):∀ j,j<L.n+(U.E+(L.K+U.E))->c j=0:=by
 have hp:∀ e,e<U.E->c (L.n+e)=U.pp L c e:=fun e he=>by
  have h1:=hc (L.n+e) (by omega);rw [aJC he] at h1;exact h.cancel he h1
 have hr:∀ k,k<L.K->c (L.n+(U.E+k))=-(bB L.n (L.R k) c):=fun k hk=>by
  have h1:=hc (L.n+(U.E+k)) (by omega);rw [aJB hk] at h1;rw [h.rdot hk,aN (f:=fun e=>(U.M k e:Rat)*U.pp L c e) (g:=fun e=>(U.M k e:Rat)*c (L.n+e)) (fun e he=>by rw [hp e he])];grind
 have ht:∀ e,e<U.E->c (L.n+(U.E+(L.K+e)))=U.tt L (fun k=>c (L.n+(U.E+k))) e:=fun e he=>by
  have h1:=hc (L.n+(U.E+(L.K+e))) (by omega);rw [aJA he] at h1;rw [h.cancel he h1];unfold tt;rw [aN (fun k hk=>h.wcast hk (U.M k e) (c (L.n+(U.E+k))))]
 have hs:∀ i,i<L.n->aO L.K (fun k=>L.w k*c (L.n+(U.E+k))*L.R k i)=0:=fun i hi=>by
  have h1:=hc i (by omega);rw [aJD hi] at h1;rw [h.cdot hi (fun k=>c (L.n+(U.E+k)))];rw [aN (fun k hk=>h.wcast hk (U.N k i) (c (L.n+(U.E+k)))),aN (f:=fun e=>(U.tw e i:Rat)*c (L.n+(U.E+(L.K+e)))) (g:=fun e=>(U.tw e i:Rat)*U.tt L (fun k=>c (L.n+(U.E+k))) e) (fun e he=>by rw [ht e he])] at h1;grind
 have hG:∀ i,i<L.n->bB L.n (L.G i) c=0:=fun i hi=>by
  rw [L.gdot];have h1:=hs i hi;rw [aN (f:=fun k=>L.w k*c (L.n+(U.E+k))*L.R k i) (g:=fun k=>(-1)*(L.w k*L.R k i*bB L.n (L.R k) c)) (fun k hk=>by rw [hr k hk];grind),bY] at h1;grind
 have hR:=(h.pos.ker c).1 hG;have ha:=fN c hR;have gL:∀ k,k<L.K->c (L.n+(U.E+k))=0:=fun k hk=>by rw [hr k hk,hR k hk];rfl
 intro j hj
 by_cases h1:j<L.n
 ·exact ha j h1
 ·by_cases h2:j<L.n+U.E
  ·obtain ⟨e,rfl⟩:∃ e,j=L.n+e:=⟨j-L.n,by omega⟩
   rw [hp e (by omega)];unfold pp;rw [eV (fun i hi=>by rw [ha i hi,Rat.mul_zero]),Rat.mul_zero]
  ·by_cases h3:j<L.n+U.E+L.K
   ·obtain ⟨k,rfl⟩:∃ k,j=L.n+(U.E+k):=⟨j-L.n-U.E,by omega⟩
    exact gL k (by omega)
   ·obtain ⟨e,rfl⟩:∃ e,j=L.n+(U.E+(L.K+e)):=⟨j-L.n-U.E-L.K,by omega⟩
    rw [ht e (by omega)];unfold tt;rw [eV (fun k hk=>by show (U.M k e:Rat)*(L.w k*c (L.n+(U.E+k)))=0;rw [gL k hk,Rat.mul_zero,Rat.mul_zero]),Rat.mul_zero]
theorem Ok.sol (h:U.Ok L) {a:Fn} (ha:L.Sol a) {V:Rat} {Y:Nat->Int} (hY:∀ k,k<L.K->L.y k*V=(Y k:Rat)):∀ i,i<L.n+(U.E+(L.K+U.E))->aO (L.n+(U.E+(L.K+U.E))) (fun j=>((U.row L i j:Int):Rat)*(V*U.vec L a (L.res a) j))=((GA L.n U.E L.K (fun _=>(0:Int)) (fun _=>0) Y (fun _=>0) i:Int):Rat):=by
 intro j hj
 by_cases h1:j<L.n
 ·rw [aJD h1,KR h1]
  have e1:aO L.K (fun k=>((U.N k j*U.w k:Int):Rat)*(V*U.vec L a (L.res a) (L.n+(U.E+k))))=V*aO L.K (fun k=>(U.N k j:Rat)*(L.w k*L.res a k)):=by
   rw [<-bY];refine aN fun k hk=>?_;rw [h.wcast hk];unfold vec;rw [F_ hk];grind
  have e2:aO U.E (fun e=>(U.tw e j:Rat)*(V*U.vec L a (L.res a) (L.n+(U.E+(L.K+e)))))=V*aO U.E (fun e=>(U.tw e j:Rat)*U.tt L (L.res a) e):=by
   rw [<-bY];refine aN fun e he=>?_;unfold vec;rw [PW];grind
  have h3:=ha.normal j h1;rw [h.cdot h1] at h3;rw [e1,e2];have e0:(((0:Int)):Rat)=0:=rfl;rw [e0];grind
 ·by_cases h2:j<L.n+U.E
  ·obtain ⟨e,rfl⟩:∃ e,j=L.n+e:=⟨j-L.n,by omega⟩
   have he:e<U.E:=by omega
   rw [aJC he,PX he];have e1:aO L.n (fun i=>(U.tw e i:Rat)*(V*U.vec L a (L.res a) i))=V*aO L.n (fun i=>(U.tw e i:Rat)*a i):=by
    rw [<-bY];refine aN fun i hi=>?_;unfold vec;rw [KR hi];grind
   have h4:=h.sus_x he;unfold vec at e1 ⊢;rw [e1,PX he];unfold pp;have e0:(((0:Int)):Rat)=0:=rfl;rw [e0];grind
  ·by_cases h3:j<L.n+U.E+L.K
   ·obtain ⟨k,rfl⟩:∃ k,j=L.n+(U.E+k):=⟨j-L.n-U.E,by omega⟩
    have hk:k<L.K:=by omega
    rw [aJB hk,F_ hk,<-hY k hk];have e1:aO L.n (fun i=>(U.N k i:Rat)*(V*U.vec L a (L.res a) i))=V*aO L.n (fun i=>(U.N k i:Rat)*a i):=by
     rw [<-bY];refine aN fun i hi=>?_;unfold vec;rw [KR hi];grind
    have e2:aO U.E (fun e=>(U.M k e:Rat)*(V*U.vec L a (L.res a) (L.n+e)))=V*aO U.E (fun e=>(U.M k e:Rat)*U.pp L a e):=by
     rw [<-bY];refine aN fun e he=>?_;unfold vec;rw [PX he];grind
    have h5:=h.rdot hk a;rw [e1,e2];unfold vec;rw [F_ hk];unfold Ls.res;grind
   ·obtain ⟨e,rfl⟩:∃ e,j=L.n+(U.E+(L.K+e)):=⟨j-L.n-U.E-L.K,by omega⟩
    have he:e<U.E:=by omega
    rw [aJA he,PW];have e1:aO L.K (fun k=>((U.M k e*U.w k:Int):Rat)*(V*U.vec L a (L.res a) (L.n+(U.E+k))))=V*aO L.K (fun k=>(U.M k e:Rat)*(L.w k*L.res a k)):=by
     rw [<-bY];refine aN fun k hk=>?_;rw [h.wcast hk];unfold vec;rw [F_ hk];grind
    have h4:=h.sus_x he;rw [e1];unfold vec;rw [PW];unfold tt;have e0:(((0:Int)):Rat)=0:=rfl;rw [e0];grind
theorem Ok.short (h:U.Ok L) (hn:L.n<=8) (hE:U.E<=10) (hK:L.K<=8) (fN:∀ c:Fn,(∀ k,k<L.K->bB L.n (L.R k) c=0)->∀ j,j<L.n->c j=0) {a:Fn} (ha:L.Sol a) {V:Rat} {B:Nat} (hB:1<=B) {Y:Nat->Int} (hY:∀ k,k<L.K->L.y k*V=(Y k:Rat)) (hYB:∀ k,k<L.K->(Y k).natAbs<=B) :
    ∃ t:Int,t≠0/\t.natAbs<=fW 396/\(∀ i,i<L.n->∃ z:Int,z.natAbs<=B*fW 396/\V*a i*(t:Rat)=(z:Rat))/\∀ k,k<L.K->∃ z:Int,z.natAbs<=B*fW 396/\V*L.res a k*(t:Rat)=(z:Rat):=by
 have hN:L.n+(U.E+(L.K+U.E))<=36:=by omega
 have hQp:∀ N,N<=36->(10:Nat)^(11*N)<=fW 396:=fun N h=>aT0 (a:=11*N) (b:=396) (by omega);generalize fW 396=Q at hQp ⊢;obtain ⟨t,h0,h1,h2⟩:=ZS (n:=L.n+(U.E+(L.K+U.E))) (BA:=1000000000) (Bb:=B) (H1:=B*Q) (H2:=Q) (A:=U.row L) (b:=GA L.n U.E L.K (fun _=>(0:Int)) (fun _=>0) Y (fun _=>0)) (x:=U.vec L a (L.res a)) (V:=V) (fun i j hi hj=>h.bnd hi hj) (vY (P:=fun z:Int=>z.natAbs<=B) (fun _ _=>Nat.zero_le _) (fun _ _=>Nat.zero_le _) hYB (fun _ _=>Nat.zero_le _)) (h.reg fN) (h.sol ha hY) (by
  generalize L.n+(U.E+(L.K+U.E))=N at hN;have e1:2*(N*(1000000000*(B*Q))+B*Q)+1<=10^11*(B*Q+1):=by
   generalize B*Q=H;have:=Nat.mul_le_mul_right (1000000000*H) hN;omega
  have e2:=Nat.pow_le_pow_left e1 N;rw [Nat.mul_pow,<-Nat.pow_mul] at e2;have e3:=hQp N hN;have e4:0<(B*Q+1)^N:=Nat.pow_pos (Nat.succ_pos _);have e5:=Nat.mul_le_mul_right ((B*Q+1)^N) e3;rw [Nat.mul_succ,Nat.mul_comm ((B*Q+1)^N) Q];omega)
 refine ⟨t,h0,h1,fun i hi=>?_,fun k hk=>?_⟩
 ·obtain ⟨z,h3,h4⟩:=h2 i (by omega)
  unfold vec at h4;rw [KR hi] at h4;exact ⟨z,h3,h4⟩
 ·obtain ⟨z,h3,h4⟩:=h2 (L.n+(U.E+k)) (by omega)
  unfold vec at h4;rw [F_ hk] at h4;exact ⟨z,h3,h4⟩
end Aug
end
section
open Go.ChangeShapes Go.WideShapes Go.ChangeAt Go.RowKit
attribute [local go_sem ↓] aE
attribute [local go_sem] aK aH aM aY cE.cells
def uE (v:Vc):Bool:=v.ss.all fun s=>decide (s.size<=24)
def kN (x:bE) (ms:List Mi) (vs:List Vc):Bool:=decide (x.nodes.length<=8) && decide (x.brs.length<=10) && ms.all (fun m=>decide (m.txt.size<=24)) && vs.all uE
theorem IC {α:Type} {l:List α} {k:Nat} {x:α} (f:α->Bool) (h:l[k]?=some x):(l.drop k).all f=(f x && (l.drop (k+1)).all f):=by rw [cM h];rfl
theorem J_ (h:cE) (x:bE) (A:OA) (n c:Nat) (ms:List Mi) (B:OA) (m d:Nat) (vs:List Vc) (w:Wo) (r:cS w w.heap.size h x) (hm:eG w w.heap.size A n ms) (hv:wY w w.heap.size B m vs) (hn:n<=9223372036854775807) (pS:m<=9223372036854775807) :
    Calls Tryz.prog 16 #[.agg h.cells,.slice A n c,.slice B m d] w fun e w'=>e=.returned (.bool (kN x ms vs))/\Below w.heap.size w w':=by
 have K0:Below w.heap.size w (w.alloc (.cells h.cells 29)):=bA;have HK:=lH K0;have HM:=lH hm;have j_:=lH hm.1;have HV:=lH hv;have OI:=lH hv.1;have l0:=r.r0.1;have l2:=r.r2.1;have m0:=r.m0;have m2:=r.m2;obtain ⟨y0,y1,y2,y3,y4,y5,nf,nlt⟩:=a_ (aG.new w 29 h.cells);simp only [cE.cells] at HK y0 y1 y2 y3 y4 y5 nf nlt;clear K0 r hm hv;go_enter Tryz.func16,Tryz.ntmps16
 go_upto_region 1 with fail
 generalize w.alloc (.cells #[.slice h.A0 h.n0 h.c0,.slice h.A1 h.n1 h.c1,.slice h.A2 h.n2 h.c2,.slice h.A3 h.n3 h.c3,.slice h.A4 h.n4 h.c4,.slice h.A5 h.n5 h.c5] 29)=W at *
 by_cases g0:8<h.n0
 ·have g0I:(8:Int)<(h.n0:Int):=by omega
  have HE:Hid (kN x ms vs=false):=lH (by unfold kN;rw [decide_eq_false (by rw [l0];omega)];rfl)
  go_wp2_with fail
  go_ret;exact ⟨by rw [HE.o];rfl,HK.o⟩
 ·by_cases g2:10<h.n2
  ·have g0I:¬(8:Int)<(h.n0:Int):=by omega
   have g2I:(10:Int)<(h.n2:Int):=by omega
   have HE:Hid (kN x ms vs=false):=lH (by unfold kN;rw [decide_eq_false (p:=x.brs.length<=10) (by rw [l2];omega),Bool.and_false];rfl)
   go_wp2_with fail
   go_ret;exact ⟨by rw [HE.o];rfl,HK.o⟩
  ·have g0I:¬(8:Int)<(h.n0:Int):=by omega
   have g2I:¬(10:Int)<(h.n2:Int):=by omega
   have HS:Hid (kN x ms vs=(ms.all (fun m=>decide (m.txt.size<=24)) && vs.all uE)):=lH (by unfold kN;rw [decide_eq_true (by rw [l0];omega),decide_eq_true (by rw [l2];omega)];rfl);clear g0 g2 m0 m2
   go_wp2_with fail
   clear g0I g2I y0 y1 y2 y3 y4 y5 nf nlt l0 l2
   go_loopw [25] (fun v25 wr=>∃ k:Nat,k<=n/\v25=.int .i64 k/\ms.all (fun m=>decide (m.txt.size<=24))=(ms.drop k).all (fun m=>decide (m.txt.size<=24))/\Below w.heap.size w wr) (fun v25 _=>n-(intOf v25).toNat)
   case atStart=>exact ⟨0,by omega,rfl,rfl,HK.o⟩
   case round=>
    clear HK;obtain ⟨k,hk,rfl,nP,hb⟩:=hrel;have HG:=lH nP;have HB:=lH hb;clear nP hb
    by_cases aW:k<n
    ·obtain ⟨z,hz⟩:∃ z,ms[k]?=some z:=eO (by have:=j_.o;omega)
     obtain ⟨b,off,hA,hb⟩:=(HM.o.below HB.o lR).form (by omega);subst hA;obtain ⟨c0,c1,c2,c3⟩:=(HM.o.below HB.o lR).at_ hz;have qL:b<wr.heap.size:=jO hb HB.o.size;have HD:=lH (IC (fun m:Mi=>decide (m.txt.size<=24)) hz);have fT:(k:Int)<(n:Int):=by omega
     have eN:=lN k;have iL:Hid (n-(k+1)<n-k):=lH (by omega);clear hz hb
     go_upto_region 6 with fail
     clear c0 c1 c2 c3;generalize yP:wr.alloc (.cells #[.int .i64 z.kind,.string z.name,.string z.txt,.int .i64 z.wt] 57)=wa;have rY:Below wr.heap.size wr wa:=by rw [<-yP];exact bA
     have HZ:Hid (aG wa wr.heap.size 57 #[.int .i64 z.kind,.string z.name,.string z.txt,.int .i64 z.wt]):=lH (by rw [<-yP];exact aG.new wr _ _);have DP:=lH (HB.o.tm rY);clear yP rY qL HB;obtain ⟨c0,c1,c2,c3,cf,cl⟩:=Mi.box HZ.o;clear HZ
     by_cases hs:24<z.txt.size
     ·have hsI:(24:Int)<(z.txt.size:Int):=by omega
      have HE:Hid (kN x ms vs=false):=lH (by rw [HS.o,HG.o,HD.o,decide_eq_false (by omega)];rfl)
      go_wp2_with fail
      go_ret;exact ⟨by rw [HE.o];rfl,DP.o⟩
     ·have hsI:¬(24:Int)<(z.txt.size:Int):=by omega
      have HE:Hid (ms.all (fun m=>decide (m.txt.size<=24))=(ms.drop (k+1)).all (fun m=>decide (m.txt.size<=24))):=lH (by rw [HG.o,HD.o,decide_eq_true (by omega),Bool.true_and]);clear hs
      go_wp2_with fail
      go_roundw
      case rel=>exact ⟨k+1,aW,aQ eN.o,HE.o,DP.o⟩
      case measure=>exact iL.o
    ·have fT:¬(k:Int)<(n:Int):=by omega
     have nQ:Hid (kN x ms vs=vs.all uE):=lH (by rw [HS.o,HG.o,List.drop_eq_nil_of_le (by have:=j_.o;omega)];rfl);clear HS HG
     go_wp2_with fail
     clear fT hk aW;generalize wr=wz at *
     go_loopw [36] (fun v36 wr=>∃ k:Nat,k<=m/\v36=.int .i64 k/\vs.all uE=(vs.drop k).all uE/\Below w.heap.size w wr) (fun v36 _=>m-(intOf v36).toNat)
     case atStart=>exact ⟨0,by omega,rfl,rfl,HB.o⟩
     case round=>
      clear HB;obtain ⟨i,hi,rfl,nP,hb⟩:=hrel;have HG:=lH nP;have HB:=lH hb;clear nP hb
      by_cases aW:i<m
      ·obtain ⟨v,hv⟩:∃ v,vs[i]?=some v:=eO (by have:=OI.o;omega)
       obtain ⟨b,off,hA,hb⟩:=(HV.o.below HB.o lR).form (by omega);subst hA;have c0:=(HV.o.below HB.o lR).at_ hv;have qL:b<wr.heap.size:=jO hb HB.o.size;have HD:=lH (IC uE hv);have DK:=lH (HV.o.2.2 v (cO hv)).1;have hvn:=(HV.o.2.2 v (cO hv)).2;have QI:(i:Int)<(m:Int):=by omega
       have HM1:=lN i;have WF:Hid (m-(i+1)<m-i):=lH (by omega);clear hv hb
       go_wp2_with fail
       clear c0 qL;generalize wr=wy at *
       go_loopw [42] (fun v42 wr=>∃ k:Nat,k<=v.n/\v42=.int .i64 k/\uE v=(v.ss.drop k).all (fun s=>decide (s.size<=24))/\Below w.heap.size w wr) (fun v42 _=>v.n-(intOf v42).toNat)
       case atStart=>exact ⟨0,by omega,rfl,rfl,HB.o⟩
       case round=>
        clear HB;obtain ⟨k,hk,rfl,nP,hb⟩:=hrel;have fI:=lH nP;have HB:=lH hb;clear nP hb;have HVN:=lH DK.o.1
        by_cases U4:k<v.n
        ·obtain ⟨s,hs⟩:∃ s,v.ss[k]?=some s:=eO (by have:=HVN.o;omega)
         obtain ⟨b2,off2,LC,hb⟩:=(DK.o.below HB.o lR).form (by omega);have c0:=DK.o.below HB.o lR;rw [LC] at c0;replace c0:=c0.at_ hs;have qL:b2<wr.heap.size:=jO hb HB.o.size;have HD2:=lH (IC (fun s:ByteArray=>decide (s.size<=24)) hs);have fT:(k:Int)<(v.n:Int):=by omega
         have eN:=lN k;have iL:Hid (v.n-(k+1)<v.n-k):=lH (by omega);clear hs hb
         by_cases hz:24<s.size
         ·have hsI:(24:Int)<(s.size:Int):=by omega
          have HE:Hid (kN x ms vs=false):=lH (by rw [nQ.o,HG.o,HD.o,fI.o,HD2.o,decide_eq_false (by omega)];rfl)
          go_wp2_with fail
          go_ret;exact ⟨by rw [HE.o];rfl,HB.o⟩
         ·have hsI:¬(24:Int)<(s.size:Int):=by omega
          have HE:Hid (uE v=(v.ss.drop (k+1)).all (fun s=>decide (s.size<=24))):=lH (by rw [fI.o,HD2.o,decide_eq_true (by omega),Bool.true_and]);clear hz
          go_wp2_with fail
          go_roundw
          case rel=>exact ⟨k+1,U4,aQ eN.o,HE.o,HB.o⟩
          case measure=>exact iL.o
        ·have fT:¬(k:Int)<(v.n:Int):=by omega
         have HT:Hid (uE v=true):=lH (by rw [fI.o,List.drop_eq_nil_of_le (by have:=HVN.o;omega)];rfl);have HE:Hid (vs.all uE=(vs.drop (i+1)).all uE):=lH (by rw [HG.o,HD.o,HT.o,Bool.true_and])
         go_wp2_with fail
         go_roundw
         case rel=>exact ⟨i+1,aW,aQ HM1.o,HE.o,HB.o⟩
         case measure=>exact WF.o
      ·have QI:¬(i:Int)<(m:Int):=by omega
       have HE:Hid (kN x ms vs=true):=lH (by rw [nQ.o,HG.o,List.drop_eq_nil_of_le (by have:=OI.o;omega)];rfl)
       go_wp2_with fail
       go_ret;exact ⟨by rw [HE.o];rfl,HB.o⟩
end
section
open Go.ChangeShapes Go.WideShapes Go.ChangeAt Go.RowKit Go.Joins
theorem aS7:laidOutB Tryz.prog=true:=by kernel_rfl
theorem aS6:mapsRowed Tryz.prog=true:=by kernel_rfl
theorem aOX:(Tryz.prog.stops == [])=true:=by kernel_rfl
theorem aOZ:(Tryz.prog.stopKnobs == [])=true:=by kernel_rfl
theorem aS8:(Rows.topEstimatedRow.plainKeys == Tryz.prog.plainKeys)=true:=by kernel_rfl
theorem aO0:Tryz.prog.stopsHeard=true:=by kernel_rfl
theorem aO1:Tryz.prog.mayEnter=true:=by kernel_rfl
theorem aOY:(Rows.topEstimatedRow.lifted == Tryz.prog.liftsFinal)=true:=by kernel_rfl
end
