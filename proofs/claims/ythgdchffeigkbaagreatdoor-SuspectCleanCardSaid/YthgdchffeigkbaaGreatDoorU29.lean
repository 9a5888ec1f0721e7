import Derived.Test.YthgdchffeigkbaaGreatDoorU25
set_option linter.unusedVariables false
set_option linter.unusedSimpArgs false
namespace Go.Proofs.YthgdchffeigkbaaGreatDoor
set_option maxHeartbeats 4000000
set_option maxRecDepth 100000
section
def mk4 {α:Type} (n E K:Nat) (f1 f2 f3 f4:Nat→α):Nat→α:=fun j=>if j<n then f1 j else if j<n+E then f2 (j-n) else if j<n+E+K then f3 (j-n-E) else f4 (j-n-E-K)
section
variable {n E K:Nat}
theorem mk4_1 {α:Type} {f1 f2 f3 f4:Nat→α} {j:Nat} (h:j<n):mk4 n E K f1 f2 f3 f4 j=f1 j:=by unfold mk4;rw [if_pos h]
theorem mk4_2 {α:Type} {f1 f2 f3 f4:Nat→α} {j:Nat} (h:j<E):mk4 n E K f1 f2 f3 f4 (n+j)=f2 j:=by
 unfold mk4;rw [if_neg (by omega),if_pos (by omega),Nat.add_sub_cancel_left]
theorem mk4_3 {α:Type} {f1 f2 f3 f4:Nat→α} {j:Nat} (h:j<K):mk4 n E K f1 f2 f3 f4 (n+(E+j))=f3 j:=by
 unfold mk4;rw [if_neg (by omega),if_neg (by omega),if_pos (by omega),show n+(E+j)-n-E=j by omega]
theorem mk4_4 {α:Type} {f1 f2 f3 f4:Nat→α} {j:Nat}:mk4 n E K f1 f2 f3 f4 (n+(E+(K+j)))=f4 j:=by
 unfold mk4;rw [if_neg (by omega),if_neg (by omega),if_neg (by omega),show n+(E+(K+j))-n-E-K=j by omega]
theorem mk4_all {α:Type} {f1 f2 f3 f4:Nat→α} {P:α→Prop} (h1:∀ j,j<n→P (f1 j)) (h2:∀ j,j<E→P (f2 j)) (h3:∀ j,j<K→P (f3 j)) (h4:∀ j,j<E→P (f4 j)):∀ j,j<n+(E+(K+E))→P (mk4 n E K f1 f2 f3 f4 j):=fun j hj=>by
 unfold mk4
 split
 ·exact h1 j (by omega)
 ·split
  ·exact h2 _ (by omega)
  ·split
   ·exact h3 _ (by omega)
   ·exact h4 _ (by omega)
theorem dot4 (f1 f2 f3 f4:Nat→Int) (g:Fn):sumTo (n+(E+(K+E))) (fun j=>((mk4 n E K f1 f2 f3 f4 j:Int):Rat)*g j)=sumTo n (fun j=>(f1 j:Rat)*g j)+(sumTo E (fun j=>(f2 j:Rat)*g (n+j))+(sumTo K (fun j=>(f3 j:Rat)*g (n+(E+j)))+sumTo E (fun j=>(f4 j:Rat)*g (n+(E+(K+j)))))):=by
 rw [sumTo_split,sumTo_split,sumTo_split];congr 1
 ·exact sumTo_congr fun j hj=>by rw [mk4_1 hj]
 congr 1
 ·exact sumTo_congr fun j hj=>by rw [mk4_2 hj]
 congr 1
 ·exact sumTo_congr fun j hj=>by rw [mk4_3 hj]
 ·exact sumTo_congr fun j hj=>by rw [mk4_4]
end
def tenP (n:Nat):Nat:=10^n
theorem tnLe {a b:Nat} (h:a≤b):tenP a≤tenP b:=Nat.pow_le_pow_right (by decide) h
theorem tnAdd {a b c:Nat} (h:a+b≤c):tenP a*tenP b≤tenP c:=by
 unfold tenP;rw [←Nat.pow_add];exact Nat.pow_le_pow_right (by decide) h
theorem tnPos (a:Nat):1≤tenP a:=Nat.pow_pos (by decide)
structure Aug where
 E:Nat
 X:Nat→Int
 tw:Nat→Nat→Int
 M:Nat→Nat→Int
 N:Nat→Nat→Int
 w:Nat→Int
structure Aug.Ok (U:Aug) (L:Ls):Prop where
 x:∀ e,e<U.E→1≤U.X e∧U.X e≤1000000000
 t:∀ e i,(U.tw e i).natAbs≤1
 m:∀ k e,(U.M k e).natAbs≤1
 n:∀ k i,(U.N k i).natAbs≤1
 w:∀ k,k<L.K→1≤U.w k∧U.w k≤1000∧L.w k=(U.w k:Rat)
 r:∀ k,k<L.K→∀ i,i<L.n→L.R k i=sumTo U.E (fun e=>(U.M k e:Rat)*((1000000 / (U.X e:Rat))*(U.tw e i:Rat)))+(U.N k i:Rat)
namespace Aug
variable (U:Aug) (L:Ls)
def row (i:Nat):Nat→Int:=
 mk4 L.n U.E L.K
  (fun i=>mk4 L.n U.E L.K (fun _=>0) (fun _=>0) (fun k=>U.N k i*U.w k) (fun e=>U.tw e i))
  (fun e=>mk4 L.n U.E L.K (fun i=>-(1000000*U.tw e i)) (fun e2=>if e2=e then U.X e else 0) (fun _=>0) (fun _=>0))
  (fun k=>mk4 L.n U.E L.K (fun i=>U.N k i) (fun e=>U.M k e) (fun k2=>if k2=k then 1 else 0) (fun _=>0))
  (fun e=>mk4 L.n U.E L.K (fun _=>0) (fun _=>0) (fun k=>-(1000000*(U.M k e*U.w k))) (fun e2=>if e2=e then U.X e else 0)) i
def sus (e:Nat):Rat:=1000000 / (U.X e:Rat)
def pp (a:Fn):Fn:=fun e=>U.sus e*sumTo L.n fun i=>(U.tw e i:Rat)*a i
def tt (r:Fn):Fn:=fun e=>U.sus e*sumTo L.K fun k=>(U.M k e:Rat)*(L.w k*r k)
def vec (a r:Fn):Fn:=mk4 L.n U.E L.K a (U.pp L a) r (U.tt L r)
variable {U L}
theorem Ok.sus_x (h:U.Ok L) {e:Nat} (he:e<U.E):(U.X e:Rat)*U.sus e=1000000:=by
 have h1:=(h.x e he).1;have h2:(U.X e:Rat)≠0:=fun e2=>by
  have:(U.X e:Rat)=((0:Int):Rat):=e2;rw [Rat.intCast_inj] at this;omega
 unfold sus;rw [Rat.div_def,Rat.mul_comm,Rat.mul_assoc,Rat.inv_mul_cancel _ h2,Rat.mul_one]
theorem one_at {m k:Nat} (hk:k<m) (c:Int) (g:Fn):sumTo m (fun j=>(((if j=k then c else 0):Int):Rat)*g j)=(c:Rat)*g k:=by
 rw [sumTo_one hk (fun j _ hne=>by rw [if_neg hne];exact Rat.zero_mul _),if_pos rfl]
theorem zero_sum (m:Nat) (g:Fn):sumTo m (fun j=>((0:Int):Rat)*g j)=0:=sumTo_zero fun j _=>Rat.zero_mul _
theorem Ok.rdot (h:U.Ok L) {k:Nat} (hk:k<L.K) (a:Fn):dotn L.n (L.R k) a=sumTo U.E (fun e=>(U.M k e:Rat)*U.pp L a e)+sumTo L.n (fun i=>(U.N k i:Rat)*a i):=by
 have e1:dotn L.n (L.R k) a=sumTo L.n (fun i=>sumTo U.E (fun e=>(U.M k e:Rat)*(U.sus e*((U.tw e i:Rat)*a i)))+(U.N k i:Rat)*a i):=by
  unfold dotn;refine sumTo_congr fun i hi=>?_;rw [h.r k hk i hi,Rat.add_mul,sumTo_mulr];congr 1
  exact sumTo_congr fun e _=>by unfold sus;grind
 rw [e1,sumTo_add,sumTo_comm];congr 1
 refine sumTo_congr fun e _=>?_;rw [sumTo_mul];unfold pp;rw [sumTo_mul]
theorem Ok.cdot (h:U.Ok L) {i:Nat} (hi:i<L.n) (r:Fn):sumTo L.K (fun k=>L.w k*r k*L.R k i)=sumTo U.E (fun e=>(U.tw e i:Rat)*U.tt L r e)+sumTo L.K (fun k=>(U.N k i:Rat)*(L.w k*r k)):=by
 have e1:sumTo L.K (fun k=>L.w k*r k*L.R k i)=sumTo L.K (fun k=>sumTo U.E (fun e=>(U.tw e i:Rat)*(U.sus e*((U.M k e:Rat)*(L.w k*r k))))+(U.N k i:Rat)*(L.w k*r k)):=by
  refine sumTo_congr fun k hk=>?_;rw [h.r k hk i hi,Rat.mul_add,←sumTo_mul];congr 1
  ·exact sumTo_congr fun e _=>by unfold sus;grind
  ·grind
 rw [e1,sumTo_add,sumTo_comm];congr 1
 refine sumTo_congr fun e _=>?_;rw [sumTo_mul];unfold tt;rw [sumTo_mul]
theorem row_1 {i:Nat} (hi:i<L.n) (g:Fn):sumTo (L.n+(U.E+(L.K+U.E))) (fun j=>((U.row L i j:Int):Rat)*g j)=sumTo L.K (fun k=>((U.N k i*U.w k:Int):Rat)*g (L.n+(U.E+k)))+sumTo U.E (fun e=>(U.tw e i:Rat)*g (L.n+(U.E+(L.K+e)))):=by
 have e:∀ j,U.row L i j=mk4 L.n U.E L.K (fun _=>0) (fun _=>0) (fun k=>U.N k i*U.w k) (fun e=>U.tw e i) j:=fun j=>by unfold row;rw [mk4_1 hi]
 simp only [e];rw [dot4,zero_sum,zero_sum,Rat.zero_add,Rat.zero_add]
theorem row_2 {e:Nat} (he:e<U.E) (g:Fn):sumTo (L.n+(U.E+(L.K+U.E))) (fun j=>((U.row L (L.n+e) j:Int):Rat)*g j)=(U.X e:Rat)*g (L.n+e)-1000000*sumTo L.n (fun i=>(U.tw e i:Rat)*g i):=by
 have e1:∀ j,U.row L (L.n+e) j=mk4 L.n U.E L.K (fun i=>-(1000000*U.tw e i)) (fun e2=>if e2=e then U.X e else 0) (fun _=>0) (fun _=>0) j:=fun j=>by unfold row;rw [mk4_2 he]
 simp only [e1];rw [dot4,zero_sum,zero_sum,one_at he (U.X e) (fun j=>g (L.n+j))];have e2:sumTo L.n (fun j=>((-(1000000*U.tw e j):Int):Rat)*g j)=(-1000000)*sumTo L.n (fun i=>(U.tw e i:Rat)*g i):=by
  rw [←sumTo_mul];refine sumTo_congr fun i _=>?_;rw [Rat.intCast_neg,Rat.intCast_mul];have:((1000000:Int):Rat)=1000000:=rfl;rw [this];grind
 rw [e2];grind
theorem row_3 {k:Nat} (hk:k<L.K) (g:Fn):sumTo (L.n+(U.E+(L.K+U.E))) (fun j=>((U.row L (L.n+(U.E+k)) j:Int):Rat)*g j)=sumTo L.n (fun i=>(U.N k i:Rat)*g i)+sumTo U.E (fun e=>(U.M k e:Rat)*g (L.n+e))+g (L.n+(U.E+k)):=by
 have e1:∀ j,U.row L (L.n+(U.E+k)) j=mk4 L.n U.E L.K (fun i=>U.N k i) (fun e=>U.M k e) (fun k2=>if k2=k then 1 else 0) (fun _=>0) j:=fun j=>by unfold row;rw [mk4_3 hk]
 simp only [e1];rw [dot4,zero_sum,one_at hk 1 (fun j=>g (L.n+(U.E+j)))];have:((1:Int):Rat)=1:=rfl;rw [this];grind
theorem row_4 {e:Nat} (he:e<U.E) (g:Fn):sumTo (L.n+(U.E+(L.K+U.E))) (fun j=>((U.row L (L.n+(U.E+(L.K+e))) j:Int):Rat)*g j)=(U.X e:Rat)*g (L.n+(U.E+(L.K+e)))-1000000*sumTo L.K (fun k=>((U.M k e*U.w k:Int):Rat)*g (L.n+(U.E+k))):=by
 have e1:∀ j,U.row L (L.n+(U.E+(L.K+e))) j=mk4 L.n U.E L.K (fun _=>0) (fun _=>0) (fun k=>-(1000000*(U.M k e*U.w k))) (fun e2=>if e2=e then U.X e else 0) j:=fun j=>by unfold row;rw [mk4_4]
 simp only [e1];rw [dot4,zero_sum,zero_sum,one_at he (U.X e) (fun j=>g (L.n+(U.E+(L.K+j))))];have e2:sumTo L.K (fun j=>((-(1000000*(U.M j e*U.w j)):Int):Rat)*g (L.n+(U.E+j)))=(-1000000)*sumTo L.K (fun k=>((U.M k e*U.w k:Int):Rat)*g (L.n+(U.E+k))):=by
  rw [←sumTo_mul];refine sumTo_congr fun i _=>?_;rw [Rat.intCast_neg,Rat.intCast_mul];have:((1000000:Int):Rat)=1000000:=rfl;rw [this];grind
 rw [e2];grind
theorem Ok.bnd (h:U.Ok L) {i j:Nat} (hi:i<L.n+(U.E+(L.K+U.E))) (hj:j<L.n+(U.E+(L.K+U.E))):(U.row L i j).natAbs≤1000000000:=by
 have wN:∀ k,k<L.K→(U.w k).natAbs≤1000:=fun k hk=>by have:=h.w k hk;omega
 have key:∀ (a b:Int) (m:Nat),a.natAbs≤1→b.natAbs≤m→(a*b).natAbs≤m:=fun a b m h1 h2=>by
  rw [Int.natAbs_mul];have:=Nat.mul_le_mul h1 h2;omega
 unfold row;refine mk4_all (P:=fun f:Nat→Int=>(f j).natAbs≤1000000000) (fun i2 h2=>?_) (fun e he=>?_) (fun k hk=>?_) (fun e he=>?_) i hi
 ·exact mk4_all (P:=fun z:Int=>z.natAbs≤1000000000) (fun _ _=>by decide) (fun _ _=>by decide) (fun k hk=>zI_ (key _ _ _ (h.n k i2) (wN k hk)) (by decide)) (fun e _=>zI_ (h.t e i2) (by decide)) j hj
 ·refine mk4_all (P:=fun z:Int=>z.natAbs≤1000000000) (fun i2 _=>?_) (fun e2 _=>?_) (fun _ _=>by decide) (fun _ _=>by decide) j hj
  ·have:=h.t e i2;omega
  ·split
   ·have:=h.x e he;omega
   ·decide
 ·refine mk4_all (P:=fun z:Int=>z.natAbs≤1000000000) (fun i2 _=>?_) (fun e2 _=>?_) (fun k2 _=>?_) (fun _ _=>by decide) j hj
  ·have:=h.n k i2;omega
  ·have:=h.m k e2;omega
  ·split<;>decide
 ·refine mk4_all (P:=fun z:Int=>z.natAbs≤1000000000) (fun _ _=>by decide) (fun _ _=>by decide) (fun k hk=>?_) (fun e2 _=>?_) j hj
  ·have h1:=key _ _ _ (h.m k e) (wN k hk)
   show (-(1000000*(U.M k e*U.w k))).natAbs≤1000000000;omega
  ·split
   ·have:=h.x e he;omega
   ·decide
theorem Ok.x0 (h:U.Ok L) {e:Nat} (he:e<U.E):(U.X e:Rat)≠0:=fun e2=>by
 have h1:=(h.x e he).1;have:(U.X e:Rat)=((0:Int):Rat):=e2;rw [Rat.intCast_inj] at this;omega
theorem Ok.cancel (h:U.Ok L) {e:Nat} (he:e<U.E) {p s:Rat} (hp:(U.X e:Rat)*p-1000000*s=0):p=U.sus e*s:=by
 have h1:=h.sus_x he;have h2:=h.x0 he;have h3:(U.X e:Rat)*(p-U.sus e*s)=0:=by grind
 rcases Rat.mul_eq_zero.1 h3 with h4 | h4
 ·exact absurd h4 h2
 ·grind
theorem Ok.wcast (h:U.Ok L) {k:Nat} (hk:k<L.K) (z:Int) (r:Rat):((z*U.w k:Int):Rat)*r=(z:Rat)*(L.w k*r):=by
 rw [Rat.intCast_mul,(h.w k hk).2.2,Rat.mul_assoc]
theorem Ok.pos (h:U.Ok L):L.Pos:=fun k hk=>by
 rw [(h.w k hk).2.2];exact Rat.intCast_pos.2 (by have:=(h.w k hk).1;omega)
theorem Ok.reg (h:U.Ok L) (hreg:∀ c:Fn,(∀ k,k<L.K→dotn L.n (L.R k) c=0)→∀ j,j<L.n→c j=0) (c:Fn) (hc:∀ i,i<L.n+(U.E+(L.K+U.E))→sumTo (L.n+(U.E+(L.K+U.E))) (fun j=>((U.row L i j:Int):Rat)*c j)=0):∀ j,j<L.n+(U.E+(L.K+U.E))→c j=0:=by
 have hp:∀ e,e<U.E→c (L.n+e)=U.pp L c e:=fun e he=>by
  have h1:=hc (L.n+e) (by omega);rw [row_2 he] at h1;exact h.cancel he h1
 have hr:∀ k,k<L.K→c (L.n+(U.E+k))=-(dotn L.n (L.R k) c):=fun k hk=>by
  have h1:=hc (L.n+(U.E+k)) (by omega);rw [row_3 hk] at h1;rw [h.rdot hk,sumTo_congr (f:=fun e=>(U.M k e:Rat)*U.pp L c e) (g:=fun e=>(U.M k e:Rat)*c (L.n+e)) (fun e he=>by rw [hp e he])];grind
 have ht:∀ e,e<U.E→c (L.n+(U.E+(L.K+e)))=U.tt L (fun k=>c (L.n+(U.E+k))) e:=fun e he=>by
  have h1:=hc (L.n+(U.E+(L.K+e))) (by omega);rw [row_4 he] at h1;rw [h.cancel he h1];unfold tt;rw [sumTo_congr (fun k hk=>h.wcast hk (U.M k e) (c (L.n+(U.E+k))))]
 have hs:∀ i,i<L.n→sumTo L.K (fun k=>L.w k*c (L.n+(U.E+k))*L.R k i)=0:=fun i hi=>by
  have h1:=hc i (by omega);rw [row_1 hi] at h1;rw [h.cdot hi (fun k=>c (L.n+(U.E+k)))];rw [sumTo_congr (fun k hk=>h.wcast hk (U.N k i) (c (L.n+(U.E+k)))),sumTo_congr (f:=fun e=>(U.tw e i:Rat)*c (L.n+(U.E+(L.K+e)))) (g:=fun e=>(U.tw e i:Rat)*U.tt L (fun k=>c (L.n+(U.E+k))) e) (fun e he=>by rw [ht e he])] at h1;grind
 have hG:∀ i,i<L.n→dotn L.n (L.G i) c=0:=fun i hi=>by
  rw [L.gdot];have h1:=hs i hi;rw [sumTo_congr (f:=fun k=>L.w k*c (L.n+(U.E+k))*L.R k i) (g:=fun k=>(-1)*(L.w k*L.R k i*dotn L.n (L.R k) c)) (fun k hk=>by rw [hr k hk];grind),sumTo_mul] at h1;grind
 have hR:=(h.pos.ker c).1 hG;have ha:=hreg c hR;have hr0:∀ k,k<L.K→c (L.n+(U.E+k))=0:=fun k hk=>by rw [hr k hk,hR k hk];rfl
 intro j hj
 by_cases h1:j<L.n
 ·exact ha j h1
 ·by_cases h2:j<L.n+U.E
  ·obtain ⟨e,rfl⟩:∃ e,j=L.n+e:=⟨j-L.n,by omega⟩
   rw [hp e (by omega)];unfold pp;rw [sumTo_zero (fun i hi=>by rw [ha i hi,Rat.mul_zero]),Rat.mul_zero]
  ·by_cases h3:j<L.n+U.E+L.K
   ·obtain ⟨k,rfl⟩:∃ k,j=L.n+(U.E+k):=⟨j-L.n-U.E,by omega⟩
    exact hr0 k (by omega)
   ·obtain ⟨e,rfl⟩:∃ e,j=L.n+(U.E+(L.K+e)):=⟨j-L.n-U.E-L.K,by omega⟩
    rw [ht e (by omega)];unfold tt;rw [sumTo_zero (fun k hk=>by show (U.M k e:Rat)*(L.w k*c (L.n+(U.E+k)))=0;rw [hr0 k hk,Rat.mul_zero,Rat.mul_zero]),Rat.mul_zero]
theorem Ok.sol (h:U.Ok L) {a:Fn} (ha:L.Sol a) {V:Rat} {Y:Nat→Int} (hY:∀ k,k<L.K→L.y k*V=(Y k:Rat)):∀ i,i<L.n+(U.E+(L.K+U.E))→sumTo (L.n+(U.E+(L.K+U.E))) (fun j=>((U.row L i j:Int):Rat)*(V*U.vec L a (L.res a) j))=((mk4 L.n U.E L.K (fun _=>(0:Int)) (fun _=>0) Y (fun _=>0) i:Int):Rat):=by
 intro j hj
 by_cases h1:j<L.n
 ·rw [row_1 h1,mk4_1 h1]
  have e1:sumTo L.K (fun k=>((U.N k j*U.w k:Int):Rat)*(V*U.vec L a (L.res a) (L.n+(U.E+k))))=V*sumTo L.K (fun k=>(U.N k j:Rat)*(L.w k*L.res a k)):=by
   rw [←sumTo_mul];refine sumTo_congr fun k hk=>?_;rw [h.wcast hk];unfold vec;rw [mk4_3 hk];grind
  have e2:sumTo U.E (fun e=>(U.tw e j:Rat)*(V*U.vec L a (L.res a) (L.n+(U.E+(L.K+e)))))=V*sumTo U.E (fun e=>(U.tw e j:Rat)*U.tt L (L.res a) e):=by
   rw [←sumTo_mul];refine sumTo_congr fun e he=>?_;unfold vec;rw [mk4_4];grind
  have h3:=ha.normal j h1;rw [h.cdot h1] at h3;rw [e1,e2];have e0:(((0:Int)):Rat)=0:=rfl;rw [e0];grind
 ·by_cases h2:j<L.n+U.E
  ·obtain ⟨e,rfl⟩:∃ e,j=L.n+e:=⟨j-L.n,by omega⟩
   have he:e<U.E:=by omega
   rw [row_2 he,mk4_2 he];have e1:sumTo L.n (fun i=>(U.tw e i:Rat)*(V*U.vec L a (L.res a) i))=V*sumTo L.n (fun i=>(U.tw e i:Rat)*a i):=by
    rw [←sumTo_mul];refine sumTo_congr fun i hi=>?_;unfold vec;rw [mk4_1 hi];grind
   have h4:=h.sus_x he;unfold vec at e1 ⊢;rw [e1,mk4_2 he];unfold pp;have e0:(((0:Int)):Rat)=0:=rfl;rw [e0];grind
  ·by_cases h3:j<L.n+U.E+L.K
   ·obtain ⟨k,rfl⟩:∃ k,j=L.n+(U.E+k):=⟨j-L.n-U.E,by omega⟩
    have hk:k<L.K:=by omega
    rw [row_3 hk,mk4_3 hk,←hY k hk];have e1:sumTo L.n (fun i=>(U.N k i:Rat)*(V*U.vec L a (L.res a) i))=V*sumTo L.n (fun i=>(U.N k i:Rat)*a i):=by
     rw [←sumTo_mul];refine sumTo_congr fun i hi=>?_;unfold vec;rw [mk4_1 hi];grind
    have e2:sumTo U.E (fun e=>(U.M k e:Rat)*(V*U.vec L a (L.res a) (L.n+e)))=V*sumTo U.E (fun e=>(U.M k e:Rat)*U.pp L a e):=by
     rw [←sumTo_mul];refine sumTo_congr fun e he=>?_;unfold vec;rw [mk4_2 he];grind
    have h5:=h.rdot hk a;rw [e1,e2];unfold vec;rw [mk4_3 hk];unfold Ls.res;grind
   ·obtain ⟨e,rfl⟩:∃ e,j=L.n+(U.E+(L.K+e)):=⟨j-L.n-U.E-L.K,by omega⟩
    have he:e<U.E:=by omega
    rw [row_4 he,mk4_4];have e1:sumTo L.K (fun k=>((U.M k e*U.w k:Int):Rat)*(V*U.vec L a (L.res a) (L.n+(U.E+k))))=V*sumTo L.K (fun k=>(U.M k e:Rat)*(L.w k*L.res a k)):=by
     rw [←sumTo_mul];refine sumTo_congr fun k hk=>?_;rw [h.wcast hk];unfold vec;rw [mk4_3 hk];grind
    have h4:=h.sus_x he;rw [e1];unfold vec;rw [mk4_4];unfold tt;have e0:(((0:Int)):Rat)=0:=rfl;rw [e0];grind
theorem Ok.short (h:U.Ok L) (hn:L.n≤8) (hE:U.E≤10) (hK:L.K≤8) (hreg:∀ c:Fn,(∀ k,k<L.K→dotn L.n (L.R k) c=0)→∀ j,j<L.n→c j=0) {a:Fn} (ha:L.Sol a) {V:Rat} {B:Nat} (hB:1≤B) {Y:Nat→Int} (hY:∀ k,k<L.K→L.y k*V=(Y k:Rat)) (hYB:∀ k,k<L.K→(Y k).natAbs≤B) :
    ∃ t:Int,t≠0∧t.natAbs≤tenP 396∧(∀ i,i<L.n→∃ z:Int,z.natAbs≤B*tenP 396∧V*a i*(t:Rat)=(z:Rat))∧∀ k,k<L.K→∃ z:Int,z.natAbs≤B*tenP 396∧V*L.res a k*(t:Rat)=(z:Rat):=by
 have hN:L.n+(U.E+(L.K+U.E))≤36:=by omega
 have hQp:∀ N,N≤36→(10:Nat)^(11*N)≤tenP 396:=fun N h=>tnLe (a:=11*N) (b:=396) (by omega);generalize tenP 396=Q at hQp ⊢;obtain ⟨t,h0,h1,h2⟩:=sol_short (n:=L.n+(U.E+(L.K+U.E))) (BA:=1000000000) (Bb:=B) (H1:=B*Q) (H2:=Q) (A:=U.row L) (b:=mk4 L.n U.E L.K (fun _=>(0:Int)) (fun _=>0) Y (fun _=>0)) (x:=U.vec L a (L.res a)) (V:=V) (fun i j hi hj=>h.bnd hi hj) (mk4_all (P:=fun z:Int=>z.natAbs≤B) (fun _ _=>Nat.zero_le _) (fun _ _=>Nat.zero_le _) hYB (fun _ _=>Nat.zero_le _)) (h.reg hreg) (h.sol ha hY) (by
  generalize L.n+(U.E+(L.K+U.E))=N at hN;have e1:2*(N*(1000000000*(B*Q))+B*Q)+1≤10^11*(B*Q+1):=by
   generalize B*Q=H;have:=Nat.mul_le_mul_right (1000000000*H) hN;omega
  have e2:=Nat.pow_le_pow_left e1 N;rw [Nat.mul_pow,←Nat.pow_mul] at e2;have e3:=hQp N hN;have e4:0<(B*Q+1)^N:=Nat.pow_pos (Nat.succ_pos _);have e5:=Nat.mul_le_mul_right ((B*Q+1)^N) e3;rw [Nat.mul_succ,Nat.mul_comm ((B*Q+1)^N) Q];omega)
 refine ⟨t,h0,h1,fun i hi=>?_,fun k hk=>?_⟩
 ·obtain ⟨z,h3,h4⟩:=h2 i (by omega)
  unfold vec at h4;rw [mk4_1 hi] at h4;exact ⟨z,h3,h4⟩
 ·obtain ⟨z,h3,h4⟩:=h2 (L.n+(U.E+k)) (by omega)
  unfold vec at h4;rw [mk4_3 hk] at h4;exact ⟨z,h3,h4⟩
end Aug
end
section
open Go.ChangeShapes Go.WideShapes Go.ChangeAt Go.RowKit
attribute [local go_sem ↓] execOp_call_val
attribute [local go_sem] callVal_func setCell_drewN alloc_drewN
theorem hasInt_any (A:Option Addr) (n c:Nat) (zs:List Int) (z:Int) (w:World) (hr:RdI w w.heap.size A n zs) (hn:n≤9223372036854775807) :
    Calls Tryz.prog 30 #[.slice A n c,.int .i64 z] w fun e w'=>e=.returned (.bool (zs.any (· == z)))∧w=w':=by
 have hlen:=lH hr.len;go_enter Tryz.func30,Tryz.ntmps30
 go_wp2_with fail
 go_loop [6,9] (fun _ i=>∃ k:Nat,k≤n∧i=.int .i64 k∧zs.any (· == z)=(zs.drop k).any (· == z)) (fun _ i=>n-(intOf i).toNat)
 case atStart=>exact ⟨0,by omega,rfl,rfl⟩
 case round=>
  obtain ⟨k,hk,rfl,hidx⟩:=hrel;have HIDX:=lH hidx;clear hidx
  by_cases hlt:k<n
  ·obtain ⟨y,hy⟩:∃ y,zs[k]?=some y:=zX_ (by have:=hlen.out;omega)
   obtain ⟨b,off,rfl,hblt,_⟩:=hr.2 (by omega);have hcell:=hr.at_ hy;have HZ:=lH (drop_cons hy);clear hy;cases hp:(y == z) with
   | true=>
    have HP:=lH hp
    go_wp2_with fail
    go_ret;exact ⟨ret_bool (by rw [HIDX.o,HZ.o];simp [HP.o]),rfl⟩
   | false=>
    have HP:=lH hp
    go_wp2_with fail
    go_round
    case rel=>exact ⟨k+1,by omega,by go_num,by rw [HIDX.o,HZ.o];simp [HP.o]⟩
    case measure=>simp [intOf];omega
  ·have hd:zs.drop k=[]:=by rw [List.drop_eq_nil_iff];have:=hlen.out;omega
   have HD:=lH hd;clear hd
   go_wp2_with fail
   go_ret;exact ⟨ret_bool (by rw [HIDX.o,HD.o];rfl),rfl⟩
def sameI (a b:List Int):Bool:=decide (a=b)
theorem sameInts_any (A:Option Addr) (n c:Nat) (a:List Int) (B:Option Addr) (m d:Nat) (b:List Int) (w:World) (ha:RdI w w.heap.size A n a) (hb:RdI w w.heap.size B m b) (hn:n≤9223372036854775807) :
    Calls Tryz.prog 46 #[.slice A n c,.slice B m d] w fun e w'=>e=.returned (.bool (sameI a b))∧∃ nq,w'=w.drewN nq:=by
 have hla:=lH ha.len;have hlb:=lH hb.len
 by_cases hnm:n=m
 ·subst hnm
  go_enter Tryz.func46,Tryz.ntmps46
  go_wp2_with fail
  go_loopw [5,13] (fun _ i wr=>∃ k nq:Nat,k≤n∧i=.int .i64 k∧wr=w.drewN nq∧a.take k=b.take k) (fun _ i _=>n-(intOf i).toNat)
  case atStart=>exact ⟨0,0,by omega,rfl,rfl,by simp⟩
  case round=>
   obtain ⟨k,nq,hk,rfl,rfl,heq⟩:=hrel;have HEQ:=lH heq;clear heq
   by_cases hlt:k<n
   ·obtain ⟨x,hx⟩:∃ x,a[k]?=some x:=zX_ (by have:=hla.out;omega)
    obtain ⟨y,hy⟩:∃ y,b[k]?=some y:=zX_ (by have:=hlb.out;omega);obtain ⟨ba,oa,rfl,hablt,_⟩:=ha.2 (by omega);obtain ⟨bb,ob,rfl,hbblt,_⟩:=hb.2 (by omega);have hca:=ha.at_ hx;have hcb:=hb.at_ hy;have hltI:(k:Int)<(n:Int):=by omega
    have hkI:=lZ k
    have HX:=lH hx;have HY:=lH hy;clear hx hy;cases hp:(x != y) with
    | true=>
     have HP:=lH hp
     go_wp2_with fail
     go_quiet (fail)
     go_wp2_with fail
     go_ret;refine ⟨ret_bool ?_,_,World.drewN_drewN _ _ _⟩;unfold sameI;have hne:a≠b:=by
      intro he;subst he;have h1:=HX.o;rw [HY.o] at h1;injection h1 with h1;have h2:=HP.o;simp [h1] at h2
     simp [hne]
    | false=>
     have HP:=lH hp
     go_wp2_with fail
     go_quiet (fail)
     go_wp2_with fail
     go_roundw
     case rel=>
      refine ⟨k+1,_,by omega,by go_num,rfl,?_⟩;have h2:=HP.o;simp at h2;rw [List.take_add_one,List.take_add_one,HEQ.o,HX.o,HY.o,h2]
     case measure=>simp [intOf];omega
   ·have hkn:k=n:=by omega
    have HKN:=lH hkn;clear hkn
    go_wp2_with fail
    go_ret;refine ⟨ret_bool ?_,_,rfl⟩;have h1:=HEQ.o;rw [zH_ (by have:=hla.out;omega),zH_ (by have:=hlb.out;omega)] at h1;simp [sameI,h1]
 ·have hne:¬(n:Int)=(m:Int):=by omega
  go_enter Tryz.func46,Tryz.ntmps46
  go_wp2_with fail
  go_ret;refine ⟨ret_bool ?_,0,rfl⟩;have:a≠b:=by intro he;subst he;have:=hla.out;have:=hlb.out;omega
  simp [sameI,this]
end
section
open Go.ChangeShapes Go.WideShapes Go.ChangeAt Go.RowKit
attribute [local go_sem ↓] execOp_call_val
attribute [local go_sem] callVal_func setCell_drewN alloc_drewN sEq_walk NetH.cells
def tinyV (v:Vc):Bool:=v.ss.all fun s=>decide (s.size≤24)
def smallR (x:Net) (ms:List Mi) (vs:List Vc):Bool:=decide (x.nodes.length≤8) && decide (x.brs.length≤10) && ms.all (fun m=>decide (m.txt.size≤24)) && vs.all tinyV
theorem all_drop {α:Type} {l:List α} {k:Nat} {x:α} (f:α→Bool) (h:l[k]?=some x):(l.drop k).all f=(f x && (l.drop (k+1)).all f):=by rw [drop_cons h];rfl
theorem small_any (h:NetH) (x:Net) (A:Option Addr) (n c:Nat) (ms:List Mi) (B:Option Addr) (m d:Nat) (vs:List Vc) (w:World) (r:RdNet w w.heap.size h x) (hm:RdMi w w.heap.size A n ms) (hv:RdVc w w.heap.size B m vs) (hn:n≤9223372036854775807) (hmm:m≤9223372036854775807) :
    Calls Tryz.prog 16 #[.agg h.cells,.slice A n c,.slice B m d] w fun e w'=>e=.returned (.bool (smallR x ms vs))∧Below w.heap.size w w':=by
 have K0:Below w.heap.size w (w.alloc (.cells h.cells 29)):=bA;have HK:=lH K0;have HM:=lH hm;have HML:=lH hm.1;have HV:=lH hv;have HVL:=lH hv.1;have l0:=r.r0.1;have l2:=r.r2.1;have m0:=r.m0;have m2:=r.m2;obtain ⟨y0,y1,y2,y3,y4,y5,nf,nlt⟩:=net_box (Blk.new w 29 h.cells);simp only [NetH.cells] at HK y0 y1 y2 y3 y4 y5 nf nlt;clear K0 r hm hv;go_enter Tryz.func16,Tryz.ntmps16
 go_upto_region 1 with fail
 generalize w.alloc (.cells #[.slice h.A0 h.n0 h.c0,.slice h.A1 h.n1 h.c1,.slice h.A2 h.n2 h.c2,.slice h.A3 h.n3 h.c3,.slice h.A4 h.n4 h.c4,.slice h.A5 h.n5 h.c5] 29)=W at *
 by_cases g0:8<h.n0
 ·have g0I:(8:Int)<(h.n0:Int):=by omega
  have HE:Hid (smallR x ms vs=false):=lH (by unfold smallR;rw [decide_eq_false (by rw [l0];omega)];rfl)
  go_wp2_with fail
  go_ret;exact ⟨by rw [HE.o];rfl,HK.o⟩
 ·by_cases g2:10<h.n2
  ·have g0I:¬(8:Int)<(h.n0:Int):=by omega
   have g2I:(10:Int)<(h.n2:Int):=by omega
   have HE:Hid (smallR x ms vs=false):=lH (by unfold smallR;rw [decide_eq_false (p:=x.brs.length≤10) (by rw [l2];omega),Bool.and_false];rfl)
   go_wp2_with fail
   go_ret;exact ⟨by rw [HE.o];rfl,HK.o⟩
  ·have g0I:¬(8:Int)<(h.n0:Int):=by omega
   have g2I:¬(10:Int)<(h.n2:Int):=by omega
   have HS:Hid (smallR x ms vs=(ms.all (fun m=>decide (m.txt.size≤24)) && vs.all tinyV)):=lH (by unfold smallR;rw [decide_eq_true (by rw [l0];omega),decide_eq_true (by rw [l2];omega)];rfl);clear g0 g2 m0 m2
   go_wp2_with fail
   clear g0I g2I y0 y1 y2 y3 y4 y5 nf nlt l0 l2
   go_loopw [25] (fun v25 wr=>∃ k:Nat,k≤n∧v25=.int .i64 k∧ms.all (fun m=>decide (m.txt.size≤24))=(ms.drop k).all (fun m=>decide (m.txt.size≤24))∧Below w.heap.size w wr) (fun v25 _=>n-(intOf v25).toNat)
   case atStart=>exact ⟨0,by omega,rfl,rfl,HK.o⟩
   case round=>
    clear HK;obtain ⟨k,hk,rfl,hgo,hb⟩:=hrel;have HG:=lH hgo;have HB:=lH hb;clear hgo hb
    by_cases hlt:k<n
    ·obtain ⟨z,hz⟩:∃ z,ms[k]?=some z:=zX_ (by have:=HML.o;omega)
     obtain ⟨b,off,hA,hb⟩:=(HM.o.below HB.o lR).form (by omega);subst hA;obtain ⟨c0,c1,c2,c3⟩:=(HM.o.below HB.o lR).at_ hz;have hbl:b<wr.heap.size:=zJ_ hb HB.o.size;have HD:=lH (all_drop (fun m:Mi=>decide (m.txt.size≤24)) hz);have hkI:(k:Int)<(n:Int):=by omega
     have HN1:=lN k;have HN2:Hid (n-(k+1)<n-k):=lH (by omega);clear hz hb
     go_upto_region 6 with fail
     clear c0 c1 c2 c3;generalize hwa:wr.alloc (.cells #[.int .i64 z.kind,.string z.name,.string z.txt,.int .i64 z.wt] 57)=wa;have hba:Below wr.heap.size wr wa:=by rw [←hwa];exact bA
     have HZ:Hid (Blk wa wr.heap.size 57 #[.int .i64 z.kind,.string z.name,.string z.txt,.int .i64 z.wt]):=lH (by rw [←hwa];exact Blk.new wr _ _);have HBA:=lH (HB.o.tm hba);clear hwa hba hbl HB;obtain ⟨c0,c1,c2,c3,cf,cl⟩:=Mi.box HZ.o;clear HZ
     by_cases hs:24<z.txt.size
     ·have hsI:(24:Int)<(z.txt.size:Int):=by omega
      have HE:Hid (smallR x ms vs=false):=lH (by rw [HS.o,HG.o,HD.o,decide_eq_false (by omega)];rfl)
      go_wp2_with fail
      go_ret;exact ⟨by rw [HE.o];rfl,HBA.o⟩
     ·have hsI:¬(24:Int)<(z.txt.size:Int):=by omega
      have HE:Hid (ms.all (fun m=>decide (m.txt.size≤24))=(ms.drop (k+1)).all (fun m=>decide (m.txt.size≤24))):=lH (by rw [HG.o,HD.o,decide_eq_true (by omega),Bool.true_and]);clear hs
      go_wp2_with fail
      go_roundw
      case rel=>exact ⟨k+1,hlt,val_int HN1.o,HE.o,HBA.o⟩
      case measure=>exact HN2.o
    ·have hkI:¬(k:Int)<(n:Int):=by omega
     have HS2:Hid (smallR x ms vs=vs.all tinyV):=lH (by rw [HS.o,HG.o,List.drop_eq_nil_of_le (by have:=HML.o;omega)];rfl);clear HS HG
     go_wp2_with fail
     clear hkI hk hlt;generalize wr=wz at *
     go_loopw [36] (fun v36 wr=>∃ k:Nat,k≤m∧v36=.int .i64 k∧vs.all tinyV=(vs.drop k).all tinyV∧Below w.heap.size w wr) (fun v36 _=>m-(intOf v36).toNat)
     case atStart=>exact ⟨0,by omega,rfl,rfl,HB.o⟩
     case round=>
      clear HB;obtain ⟨i,hi,rfl,hgo,hb⟩:=hrel;have HG:=lH hgo;have HB:=lH hb;clear hgo hb
      by_cases hlt:i<m
      ·obtain ⟨v,hv⟩:∃ v,vs[i]?=some v:=zX_ (by have:=HVL.o;omega)
       obtain ⟨b,off,hA,hb⟩:=(HV.o.below HB.o lR).form (by omega);subst hA;have c0:=(HV.o.below HB.o lR).at_ hv;have hbl:b<wr.heap.size:=zJ_ hb HB.o.size;have HD:=lH (all_drop tinyV hv);have HVV:=lH (HV.o.2.2 v (zC_ hv)).1;have hvn:=(HV.o.2.2 v (zC_ hv)).2;have hiI:(i:Int)<(m:Int):=by omega
       have HM1:=lN i;have HM2:Hid (m-(i+1)<m-i):=lH (by omega);clear hv hb
       go_wp2_with fail
       clear c0 hbl;generalize wr=wy at *
       go_loopw [42] (fun v42 wr=>∃ k:Nat,k≤v.n∧v42=.int .i64 k∧tinyV v=(v.ss.drop k).all (fun s=>decide (s.size≤24))∧Below w.heap.size w wr) (fun v42 _=>v.n-(intOf v42).toNat)
       case atStart=>exact ⟨0,by omega,rfl,rfl,HB.o⟩
       case round=>
        clear HB;obtain ⟨k,hk,rfl,hgo,hb⟩:=hrel;have HG2:=lH hgo;have HB:=lH hb;clear hgo hb;have HVN:=lH HVV.o.1
        by_cases hlt2:k<v.n
        ·obtain ⟨s,hs⟩:∃ s,v.ss[k]?=some s:=zX_ (by have:=HVN.o;omega)
         obtain ⟨b2,off2,hA2,hb⟩:=(HVV.o.below HB.o lR).form (by omega);have c0:=HVV.o.below HB.o lR;rw [hA2] at c0;replace c0:=c0.at_ hs;have hbl:b2<wr.heap.size:=zJ_ hb HB.o.size;have HD2:=lH (all_drop (fun s:ByteArray=>decide (s.size≤24)) hs);have hkI:(k:Int)<(v.n:Int):=by omega
         have HN1:=lN k;have HN2:Hid (v.n-(k+1)<v.n-k):=lH (by omega);clear hs hb
         by_cases hz:24<s.size
         ·have hsI:(24:Int)<(s.size:Int):=by omega
          have HE:Hid (smallR x ms vs=false):=lH (by rw [HS2.o,HG.o,HD.o,HG2.o,HD2.o,decide_eq_false (by omega)];rfl)
          go_wp2_with fail
          go_ret;exact ⟨by rw [HE.o];rfl,HB.o⟩
         ·have hsI:¬(24:Int)<(s.size:Int):=by omega
          have HE:Hid (tinyV v=(v.ss.drop (k+1)).all (fun s=>decide (s.size≤24))):=lH (by rw [HG2.o,HD2.o,decide_eq_true (by omega),Bool.true_and]);clear hz
          go_wp2_with fail
          go_roundw
          case rel=>exact ⟨k+1,hlt2,val_int HN1.o,HE.o,HB.o⟩
          case measure=>exact HN2.o
        ·have hkI:¬(k:Int)<(v.n:Int):=by omega
         have HT:Hid (tinyV v=true):=lH (by rw [HG2.o,List.drop_eq_nil_of_le (by have:=HVN.o;omega)];rfl);have HE:Hid (vs.all tinyV=(vs.drop (i+1)).all tinyV):=lH (by rw [HG.o,HD.o,HT.o,Bool.true_and])
         go_wp2_with fail
         go_roundw
         case rel=>exact ⟨i+1,hlt,val_int HM1.o,HE.o,HB.o⟩
         case measure=>exact HM2.o
      ·have hiI:¬(i:Int)<(m:Int):=by omega
       have HE:Hid (smallR x ms vs=true):=lH (by rw [HS2.o,HG.o,List.drop_eq_nil_of_le (by have:=HVL.o;omega)];rfl)
       go_wp2_with fail
       go_ret;exact ⟨by rw [HE.o];rfl,HB.o⟩
end
end Go.Proofs.YthgdchffeigkbaaGreatDoor
