import Derived.Test.YthgdchffeigkbaaGreatDoorU19
set_option linter.unusedVariables false
set_option linter.unusedSimpArgs false
namespace Go.Proofs.YthgdchffeigkbaaGreatDoor
section
open Go
theorem stepTwo {P:Program} {md:Region.Mode} {Q:Exit→Act→World→Prop} {L:List Oper} {S:World→Prop} (i j:Nat) {o o':Oper} {fuel:Nat} {listed:Array Bool} {a:Act} {w:World} (hr:Region.ready md L.toArray listed=[i,j]) (ho:L[i]?=some o) (ho':L[j]?=some o')
    (h:∀ K':Act→World→Prop,Shut (∀ a w,S w→(S w→wpAnyH P md L.toArray Q S fuel (listed.setIfInBounds i true) a w)→K' a w)→if Region.wanted o (yielded L.toArray a.tmps)=true then Oper.wp P o a w K' Q else K' (a.put o.dst undef) w)
    (h':∀ K':Act→World→Prop,Shut (∀ a w,S w→(S w→wpAnyH P md L.toArray Q S fuel (listed.setIfInBounds j true) a w)→K' a w)→if Region.wanted o' (yielded L.toArray a.tmps)=true then Oper.wp P o' a w K' Q else K' (a.put o'.dst undef) w):wpAnyH P md L.toArray Q S (fuel+1) listed a w:=
 wpAnyH_ready hr (by simp) (AllReadyH.cons (by rw [List.getElem?_toArray];exact ho) h (AllReadyH.cons (by rw [List.getElem?_toArray];exact ho') h' AllReadyH.nil))
end
section
theorem sumTo_mulr (c:Rat) (f:Fn) (n:Nat):sumTo n f*c=sumTo n (fun i=>f i*c):=by
 rw [Rat.mul_comm,←sumTo_mul];exact sumTo_congr fun i _=>Rat.mul_comm _ _
theorem sumTo_sub (f g:Fn) (n:Nat):sumTo n (fun i=>f i-g i)=sumTo n f-sumTo n g:=by
 have h:=sumTo_add f (fun i=>(-1)*g i) n;rw [sumTo_mul] at h;have e:sumTo n (fun i=>f i-g i)=sumTo n (fun i=>f i+(-1)*g i):=sumTo_congr fun i _=>by grind
 rw [e,h];grind
theorem sq_nn (x:Rat):0≤x*x:=by
 rcases Rat.le_total (a:=0) (b:=x) with h | h
 ·exact Rat.mul_nonneg h h
 ·have h2:0≤-x:=by grind
  have:=Rat.mul_nonneg h2 h2;grind
theorem sumTo_nn:∀ {n:Nat} {f:Fn},(∀ i,i<n→0≤f i)→0≤sumTo n f
 | 0,_,_=>by simp [sumTo]
 | n+1,f,h=>by
  have h1:=sumTo_nn (n:=n) (f:=f) fun i hi=>h i (by omega);have h2:=h n (by omega);simp only [sumTo];grind
theorem sumTo_nn_zero:∀ {n:Nat} {f:Fn},(∀ i,i<n→0≤f i)→sumTo n f=0→∀ i,i<n→f i=0
 | 0,_,_,_,i,hi=>by omega
 | n+1,f,h,he,i,hi=>by
  have h1:=sumTo_nn (n:=n) (f:=f) fun i hi=>h i (by omega);have h2:=h n (by omega);simp only [sumTo] at he
  by_cases hin:i=n
  ·subst hin;grind
  ·exact sumTo_nn_zero (n:=n) (fun i hi=>h i (by omega)) (by grind) i (by omega)
structure Ls where
 n:Nat
 K:Nat
 R:Nat→Fn
 w:Fn
 y:Fn
namespace Ls
variable (L:Ls)
def Pos:Prop:=∀ k,k<L.K→0<L.w k
def G (i:Nat):Fn:=fun j=>sumTo L.K fun k=>L.w k*L.R k i*L.R k j
def rt:Fn:=fun i=>sumTo L.K fun k=>L.w k*L.y k*L.R k i
def res (a:Fn):Fn:=fun k=>L.y k-dotn L.n (L.R k) a
def cost (a:Fn):Rat:=sumTo L.K fun k=>L.w k*L.res a k*L.res a k
def Sol (a:Fn):Prop:=∀ i,i<L.n→dotn L.n (L.G i) a=L.rt i
theorem gdot (c:Fn) (i:Nat):dotn L.n (L.G i) c=sumTo L.K fun k=>L.w k*L.R k i*dotn L.n (L.R k) c:=by
 unfold dotn G;have e:sumTo L.n (fun j=>sumTo L.K (fun k=>L.w k*L.R k i*L.R k j)*c j)=sumTo L.n (fun j=>sumTo L.K (fun k=>L.w k*L.R k i*(L.R k j*c j))):=sumTo_congr fun j _=>by
  rw [sumTo_mulr];exact sumTo_congr fun k _=>by grind
 rw [e,sumTo_comm];exact sumTo_congr fun k _=>sumTo_mul _ _ _
theorem wdot (f c:Fn):sumTo L.n (fun i=>c i*sumTo L.K fun k=>f k*L.R k i)=sumTo L.K fun k=>f k*dotn L.n (L.R k) c:=by
 have e:sumTo L.n (fun i=>c i*sumTo L.K fun k=>f k*L.R k i)=sumTo L.n (fun i=>sumTo L.K fun k=>f k*(L.R k i*c i)):=sumTo_congr fun i _=>by
  rw [←sumTo_mul];exact sumTo_congr fun k _=>by grind
 rw [e,sumTo_comm];exact sumTo_congr fun k _=>sumTo_mul _ _ _
theorem bil (c d:Fn):sumTo L.n (fun i=>c i*dotn L.n (L.G i) d)=sumTo L.K fun k=>L.w k*dotn L.n (L.R k) d*dotn L.n (L.R k) c:=by
 have e:sumTo L.n (fun i=>c i*dotn L.n (L.G i) d)=sumTo L.n (fun i=>c i*sumTo L.K fun k=>(L.w k*dotn L.n (L.R k) d)*L.R k i):=sumTo_congr fun i _=>by
  rw [L.gdot];congr 1
  exact sumTo_congr fun k _=>by grind
 rw [e,L.wdot]
theorem quad (c:Fn):sumTo L.n (fun i=>c i*dotn L.n (L.G i) c)=sumTo L.K fun k=>L.w k*(dotn L.n (L.R k) c*dotn L.n (L.R k) c):=by
 rw [L.bil];exact sumTo_congr fun k _=>by grind
variable {L}
theorem Pos.nn (h:L.Pos) (f:Fn):∀ k,k<L.K→0≤L.w k*(f k*f k):=fun k hk=>Rat.mul_nonneg (Rat.le_of_lt (h k hk)) (sq_nn _)
theorem Pos.zero (h:L.Pos) {f:Fn} (h0:sumTo L.K (fun k=>L.w k*(f k*f k))=0):∀ k,k<L.K→f k=0:=fun k hk=>by
 have h1:=sumTo_nn_zero (h.nn f) h0 k hk;have h2:=h k hk;rcases Rat.mul_eq_zero.1 h1 with h3 | h3
 ·rw [h3] at h2;exact absurd h2 Rat.lt_irrefl
 ·rcases Rat.mul_eq_zero.1 h3 with h4 | h4<;>exact h4
theorem Pos.ker (h:L.Pos) (c:Fn):(∀ i,i<L.n→dotn L.n (L.G i) c=0)↔∀ k,k<L.K→dotn L.n (L.R k) c=0:=by
 constructor
 ·intro hc
  refine h.zero (f:=fun k=>dotn L.n (L.R k) c) ?_;rw [←L.quad];exact sumTo_zero fun i hi=>by rw [hc i hi,Rat.mul_zero]
 ·intro hc i hi
  rw [L.gdot];exact sumTo_zero fun k hk=>by rw [hc k hk,Rat.mul_zero]
theorem Sol.normal {a:Fn} (h:L.Sol a):∀ i,i<L.n→sumTo L.K (fun k=>L.w k*L.res a k*L.R k i)=0:=fun i hi=>by
 have h1:=h i hi;rw [L.gdot] at h1;unfold rt at h1;have e:sumTo L.K (fun k=>L.w k*L.res a k*L.R k i)=sumTo L.K (fun k=>L.w k*L.y k*L.R k i)-sumTo L.K (fun k=>L.w k*L.R k i*dotn L.n (L.R k) a):=by
  rw [←sumTo_sub];exact sumTo_congr fun k _=>by unfold res;grind
 rw [e,h1];grind
theorem Sol.orth {a:Fn} (h:L.Sol a) (c:Fn):sumTo L.K (fun k=>L.w k*L.res a k*dotn L.n (L.R k) c)=0:=by
 rw [←L.wdot];exact sumTo_zero fun i hi=>by rw [h.normal i hi,Rat.mul_zero]
theorem Sol.least {a:Fn} (h:L.Sol a) (o:Fn):L.cost o=L.cost a+sumTo L.K fun k=>L.w k*(dotn L.n (L.R k) (fun i=>o i+(-1)*a i)*dotn L.n (L.R k) (fun i=>o i+(-1)*a i)):=by
 have h1:=h.orth (fun i=>o i+(-1)*a i);have e:L.cost o=L.cost a+sumTo L.K (fun k=>L.w k*(dotn L.n (L.R k) (fun i=>o i+(-1)*a i)*dotn L.n (L.R k) (fun i=>o i+(-1)*a i)))+(-2)*sumTo L.K (fun k=>L.w k*L.res a k*dotn L.n (L.R k) (fun i=>o i+(-1)*a i)):=by
  unfold cost;rw [←sumTo_mul,←sumTo_add,←sumTo_add];refine sumTo_congr fun k _=>?_;rw [dotn_add,dotn_mul];unfold res;grind
 rw [e,h1];grind
def SolK (L:Ls) (k:Nat) (u:Fn):Prop:=∀ i,i<L.n→dotn L.n (L.G i) u=L.R k i
theorem SolK.dot {k:Nat} {u:Fn} (h:L.SolK k u) (c:Fn):dotn L.n (L.R k) c=sumTo L.K fun j=>L.w j*dotn L.n (L.R j) u*dotn L.n (L.R j) c:=by
 rw [←L.bil];unfold dotn;exact sumTo_congr fun i hi=>by
  have:=h i hi;unfold dotn at this;rw [←this];grind
theorem SolK.rest {k:Nat} {u:Fn} (h:L.SolK k u) (hk:k<L.K):dotn L.n (L.R k) u=L.w k*(dotn L.n (L.R k) u*dotn L.n (L.R k) u)+sumTo L.K (fun j=>if j=k then 0 else L.w j*(dotn L.n (L.R j) u*dotn L.n (L.R j) u)):=by
 have h1:=h.dot u;have e:sumTo L.K (fun j=>L.w j*dotn L.n (L.R j) u*dotn L.n (L.R j) u)=sumTo L.K (fun j=>if j=k then L.w j*(dotn L.n (L.R j) u*dotn L.n (L.R j) u) else 0)+sumTo L.K (fun j=>if j=k then 0 else L.w j*(dotn L.n (L.R j) u*dotn L.n (L.R j) u)):=by
  rw [←sumTo_add];exact sumTo_congr fun j _=>by
   by_cases ej:j=k
   ·rw [if_pos ej,if_pos ej];grind
   ·rw [if_neg ej,if_neg ej];grind
 have e2:sumTo L.K (fun j=>if j=k then L.w j*(dotn L.n (L.R j) u*dotn L.n (L.R j) u) else 0)=L.w k*(dotn L.n (L.R k) u*dotn L.n (L.R k) u):=by
  rw [sumTo_one hk (fun j _ hne=>by rw [if_neg hne]),if_pos rfl]
 rw [e,e2] at h1;exact h1
end Ls
end
section
open Go
def Ch (m:Int) (a b:List Int):Prop:=∀ j,b.getD j 0=a.getD j 0∨(a.getD j 0<0∧b.getD j 0=m)
theorem Ch.refl (m:Int) (a:List Int):Ch m a a:=fun j=>.inl rfl
theorem Ch.trans {m:Int} (hm:0≤m) {a b c:List Int} (h:Ch m a b) (h2:Ch m b c):Ch m a c:=fun j=>by
 rcases h j with h | ⟨h,h'⟩<;>rcases h2 j with g | ⟨g,g'⟩
 ·exact .inl (g.trans h)
 ·exact .inr ⟨by omega,g'⟩
 ·exact .inr ⟨h,g.trans h'⟩
 ·omega
end
section
namespace Ls
variable {L:Ls}
theorem SolK.symm {j k:Nat} {u v:Fn} (hu:L.SolK k u) (hv:L.SolK j v):dotn L.n (L.R j) u=dotn L.n (L.R k) v:=by
 rw [hu.dot v,hv.dot u];exact sumTo_congr fun i _=>by grind
end Ls
end
end Go.Proofs.YthgdchffeigkbaaGreatDoor
