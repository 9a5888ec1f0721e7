import Derived.Test.YthgdchffeigkbaaGreatDoorU18
set_option linter.unusedVariables false
set_option linter.unusedSimpArgs false
namespace Go.Proofs.YthgdchffeigkbaaGreatDoor
section
theorem sumTo_mulr (c:Rat) (f:Fn) (n:Nat):sumTo n f*c=sumTo n (fun i=>f i*c):=by
 rw [Rat.mul_comm,←sumTo_mul];exact sumTo_congr fun i _=>Rat.mul_comm _ _
theorem sumTo_sub (f g:Fn) (n:Nat):sumTo n (fun i=>f i-g i)=sumTo n f-sumTo n g:=by
 have h:=sumTo_add f (fun i=>(-1)*g i) n;rw [sumTo_mul] at h;have e:sumTo n (fun i=>f i-g i)=sumTo n (fun i=>f i+(-1)*g i):=sumTo_congr fun i _=>by grind
 rw [e,h];grind
theorem sq_nn (x:Rat):0≤x*x:=by
 rcases Rat.le_total (a:=0) (b:=x) with h | h
 ·exact Rat.mul_nonneg h h
 ·have h2:0≤-x:=by grind
  have:=Rat.mul_nonneg h2 h2;grind
theorem sumTo_nn:∀ {n:Nat} {f:Fn},(∀ i,i<n→0≤f i)→0≤sumTo n f
 | 0,_,_=>by simp [sumTo]
 | n+1,f,h=>by
  have h1:=sumTo_nn (n:=n) (f:=f) fun i hi=>h i (by omega);have h2:=h n (by omega);simp only [sumTo];grind
theorem sumTo_nn_zero:∀ {n:Nat} {f:Fn},(∀ i,i<n→0≤f i)→sumTo n f=0→∀ i,i<n→f i=0
 | 0,_,_,_,i,hi=>by omega
 | n+1,f,h,he,i,hi=>by
  have h1:=sumTo_nn (n:=n) (f:=f) fun i hi=>h i (by omega);have h2:=h n (by omega);simp only [sumTo] at he
  by_cases hin:i=n
  ·subst hin;grind
  ·exact sumTo_nn_zero (n:=n) (fun i hi=>h i (by omega)) (by grind) i (by omega)
structure Ls where
 n:Nat
 K:Nat
 R:Nat→Fn
 w:Fn
 y:Fn
namespace Ls
variable (L:Ls)
def Pos:Prop:=∀ k,k<L.K→0<L.w k
def G (i:Nat):Fn:=fun j=>sumTo L.K fun k=>L.w k*L.R k i*L.R k j
def rt:Fn:=fun i=>sumTo L.K fun k=>L.w k*L.y k*L.R k i
def res (a:Fn):Fn:=fun k=>L.y k-dotn L.n (L.R k) a
def cost (a:Fn):Rat:=sumTo L.K fun k=>L.w k*L.res a k*L.res a k
def Sol (a:Fn):Prop:=∀ i,i<L.n→dotn L.n (L.G i) a=L.rt i
theorem gdot (c:Fn) (i:Nat):dotn L.n (L.G i) c=sumTo L.K fun k=>L.w k*L.R k i*dotn L.n (L.R k) c:=by
 unfold dotn G;have e:sumTo L.n (fun j=>sumTo L.K (fun k=>L.w k*L.R k i*L.R k j)*c j)=sumTo L.n (fun j=>sumTo L.K (fun k=>L.w k*L.R k i*(L.R k j*c j))):=sumTo_congr fun j _=>by
  rw [sumTo_mulr];exact sumTo_congr fun k _=>by grind
 rw [e,sumTo_comm];exact sumTo_congr fun k _=>sumTo_mul _ _ _
theorem wdot (f c:Fn):sumTo L.n (fun i=>c i*sumTo L.K fun k=>f k*L.R k i)=sumTo L.K fun k=>f k*dotn L.n (L.R k) c:=by
 have e:sumTo L.n (fun i=>c i*sumTo L.K fun k=>f k*L.R k i)=sumTo L.n (fun i=>sumTo L.K fun k=>f k*(L.R k i*c i)):=sumTo_congr fun i _=>by
  rw [←sumTo_mul];exact sumTo_congr fun k _=>by grind
 rw [e,sumTo_comm];exact sumTo_congr fun k _=>sumTo_mul _ _ _
theorem bil (c d:Fn):sumTo L.n (fun i=>c i*dotn L.n (L.G i) d)=sumTo L.K fun k=>L.w k*dotn L.n (L.R k) d*dotn L.n (L.R k) c:=by
 have e:sumTo L.n (fun i=>c i*dotn L.n (L.G i) d)=sumTo L.n (fun i=>c i*sumTo L.K fun k=>(L.w k*dotn L.n (L.R k) d)*L.R k i):=sumTo_congr fun i _=>by
  rw [L.gdot];congr 1
  exact sumTo_congr fun k _=>by grind
 rw [e,L.wdot]
theorem quad (c:Fn):sumTo L.n (fun i=>c i*dotn L.n (L.G i) c)=sumTo L.K fun k=>L.w k*(dotn L.n (L.R k) c*dotn L.n (L.R k) c):=by
 rw [L.bil];exact sumTo_congr fun k _=>by grind
variable {L}
theorem Pos.nn (h:L.Pos) (f:Fn):∀ k,k<L.K→0≤L.w k*(f k*f k):=fun k hk=>Rat.mul_nonneg (Rat.le_of_lt (h k hk)) (sq_nn _)
theorem Pos.zero (h:L.Pos) {f:Fn} (h0:sumTo L.K (fun k=>L.w k*(f k*f k))=0):∀ k,k<L.K→f k=0:=fun k hk=>by
 have h1:=sumTo_nn_zero (h.nn f) h0 k hk;have h2:=h k hk;rcases Rat.mul_eq_zero.1 h1 with h3 | h3
 ·rw [h3] at h2;exact absurd h2 Rat.lt_irrefl
 ·rcases Rat.mul_eq_zero.1 h3 with h4 | h4<;>exact h4
theorem Pos.ker (h:L.Pos) (c:Fn):(∀ i,i<L.n→dotn L.n (L.G i) c=0)↔∀ k,k<L.K→dotn L.n (L.R k) c=0:=by
 constructor
 ·intro hc
  refine h.zero (f:=fun k=>dotn L.n (L.R k) c) ?_;rw [←L.quad];exact sumTo_zero fun i hi=>by rw [hc i hi,Rat.mul_zero]
 ·intro hc i hi
  rw [L.gdot];exact sumTo_zero fun k hk=>by rw [hc k hk,Rat.mul_zero]
theorem Sol.normal {a:Fn} (h:L.Sol a):∀ i,i<L.n→sumTo L.K (fun k=>L.w k*L.res a k*L.R k i)=0:=fun i hi=>by
 have h1:=h i hi;rw [L.gdot] at h1;unfold rt at h1;have e:sumTo L.K (fun k=>L.w k*L.res a k*L.R k i)=sumTo L.K (fun k=>L.w k*L.y k*L.R k i)-sumTo L.K (fun k=>L.w k*L.R k i*dotn L.n (L.R k) a):=by
  rw [←sumTo_sub];exact sumTo_congr fun k _=>by unfold res;grind
 rw [e,h1];grind
theorem Sol.orth {a:Fn} (h:L.Sol a) (c:Fn):sumTo L.K (fun k=>L.w k*L.res a k*dotn L.n (L.R k) c)=0:=by
 rw [←L.wdot];exact sumTo_zero fun i hi=>by rw [h.normal i hi,Rat.mul_zero]
theorem Sol.least {a:Fn} (h:L.Sol a) (o:Fn):L.cost o=L.cost a+sumTo L.K fun k=>L.w k*(dotn L.n (L.R k) (fun i=>o i+(-1)*a i)*dotn L.n (L.R k) (fun i=>o i+(-1)*a i)):=by
 have h1:=h.orth (fun i=>o i+(-1)*a i);have e:L.cost o=L.cost a+sumTo L.K (fun k=>L.w k*(dotn L.n (L.R k) (fun i=>o i+(-1)*a i)*dotn L.n (L.R k) (fun i=>o i+(-1)*a i)))+(-2)*sumTo L.K (fun k=>L.w k*L.res a k*dotn L.n (L.R k) (fun i=>o i+(-1)*a i)):=by
  unfold cost;rw [←sumTo_mul,←sumTo_add,←sumTo_add];refine sumTo_congr fun k _=>?_;rw [dotn_add,dotn_mul];unfold res;grind
 rw [e,h1];grind
def SolK (L:Ls) (k:Nat) (u:Fn):Prop:=∀ i,i<L.n→dotn L.n (L.G i) u=L.R k i
theorem SolK.dot {k:Nat} {u:Fn} (h:L.SolK k u) (c:Fn):dotn L.n (L.R k) c=sumTo L.K fun j=>L.w j*dotn L.n (L.R j) u*dotn L.n (L.R j) c:=by
 rw [←L.bil];unfold dotn;exact sumTo_congr fun i hi=>by
  have:=h i hi;unfold dotn at this;rw [←this];grind
theorem SolK.rest {k:Nat} {u:Fn} (h:L.SolK k u) (hk:k<L.K):dotn L.n (L.R k) u=L.w k*(dotn L.n (L.R k) u*dotn L.n (L.R k) u)+sumTo L.K (fun j=>if j=k then 0 else L.w j*(dotn L.n (L.R j) u*dotn L.n (L.R j) u)):=by
 have h1:=h.dot u;have e:sumTo L.K (fun j=>L.w j*dotn L.n (L.R j) u*dotn L.n (L.R j) u)=sumTo L.K (fun j=>if j=k then L.w j*(dotn L.n (L.R j) u*dotn L.n (L.R j) u) else 0)+sumTo L.K (fun j=>if j=k then 0 else L.w j*(dotn L.n (L.R j) u*dotn L.n (L.R j) u)):=by
  rw [←sumTo_add];exact sumTo_congr fun j _=>by
   by_cases ej:j=k
   ·rw [if_pos ej,if_pos ej];grind
   ·rw [if_neg ej,if_neg ej];grind
 have e2:sumTo L.K (fun j=>if j=k then L.w j*(dotn L.n (L.R j) u*dotn L.n (L.R j) u) else 0)=L.w k*(dotn L.n (L.R k) u*dotn L.n (L.R k) u):=by
  rw [sumTo_one hk (fun j _ hne=>by rw [if_neg hne]),if_pos rfl]
 rw [e,e2] at h1;exact h1
end Ls
end
section
open Go
def Ch (m:Int) (a b:List Int):Prop:=∀ j,b.getD j 0=a.getD j 0∨(a.getD j 0<0∧b.getD j 0=m)
theorem Ch.refl (m:Int) (a:List Int):Ch m a a:=fun j=>.inl rfl
theorem Ch.trans {m:Int} (hm:0≤m) {a b c:List Int} (h:Ch m a b) (h2:Ch m b c):Ch m a c:=fun j=>by
 rcases h j with h | ⟨h,h'⟩<;>rcases h2 j with g | ⟨g,g'⟩
 ·exact .inl (g.trans h)
 ·exact .inr ⟨by omega,g'⟩
 ·exact .inr ⟨h,g.trans h'⟩
 ·omega
end
section
namespace Ls
variable {L:Ls}
theorem SolK.symm {j k:Nat} {u v:Fn} (hu:L.SolK k u) (hv:L.SolK j v):dotn L.n (L.R j) u=dotn L.n (L.R k) v:=by
 rw [hu.dot v,hv.dot u];exact sumTo_congr fun i _=>by grind
end Ls
end
section
theorem nodup_lt:∀ (K:Nat) (l:List Nat),l.Nodup→(∀ x∈l,x<K)→l.length≤K
 | 0,l,_,h=>by
  cases l with
  | nil=>exact lR
  | cons a l=>exact absurd (h a (by simp)) (by omega)
 | K+1,l,hn,h=>by
  have h1:=nodup_lt K (l.erase K) (hn.erase K) fun x hx=>by
   have h2:=(List.Nodup.mem_erase_iff hn).1 hx;have:=h x h2.2;omega
  have h2:=List.length_erase (a:=K) (l:=l)
  split at h2<;>omega
theorem pigeon {N K:Nat} (f:Nat→Nat) (hf:∀ u,u<N→f u<K) (h:K<N):∃ u v,u<v∧v<N∧f u=f v:=by
 refine Classical.byContradiction fun hne=>?_;have hnd:((List.range N).map f).Nodup:=by
  rw [List.nodup_iff_pairwise_ne,List.pairwise_map];refine List.Pairwise.imp_of_mem ?_ List.pairwise_lt_range;intro a b ha hb hab he;exact hne ⟨a,b,hab,List.mem_range.1 hb,he⟩
 have:=nodup_lt K _ hnd fun x hx=>by
  obtain ⟨u,hu,rfl⟩:=List.mem_map.1 hx;exact hf u (List.mem_range.1 hu)
 rw [zG_,List.length_range] at this;omega
def codeN (B:Nat) (e:Nat→Nat):Nat→Nat
 | 0=>0
 | n+1=>codeN B e n*B+e n
theorem codeN_lt {B:Nat} {e:Nat→Nat}:∀ {n:Nat},(∀ i,i<n→e i<B)→codeN B e n<B^n
 | 0,_=>by simp [codeN]
 | n+1,h=>by
  have h1:=codeN_lt (n:=n) fun i hi=>h i (by omega);have h2:=h n (by omega);simp only [codeN,Nat.pow_succ];have h3:(codeN B e n+1)*B≤B^n*B:=Nat.mul_le_mul_right _ h1;rw [Nat.add_mul] at h3;omega
theorem codeN_inj {B:Nat} {e f:Nat→Nat}:∀ {n:Nat},(∀ i,i<n→e i<B)→(∀ i,i<n→f i<B)→codeN B e n=codeN B f n→∀ i,i<n→e i=f i
 | 0,_,_,_,i,hi=>by omega
 | n+1,h,k,he,i,hi=>by
  have h1:=h n (by omega);have h2:=k n (by omega);simp only [codeN] at he;have hm:e n=f n:=by
   have h3:=congrArg (· % B) he;simp only [Nat.mul_comm _ B,Nat.mul_add_mod] at h3;rwa [Nat.mod_eq_of_lt h1,Nat.mod_eq_of_lt h2] at h3
  rw [hm] at he;have hd:codeN B e n=codeN B f n:=Nat.eq_of_mul_eq_mul_right (by omega:0<B) (by omega)
  by_cases hin:i=n
  ·subst hin;exact hm
  ·exact codeN_inj (fun i hi=>h i (by omega)) (fun i hi=>k i (by omega)) hd i (by omega)
theorem digits_inj {B u v:Nat}:∀ {n:Nat},(∀ j,j<n→u / B^j % B=v / B^j % B)→u / B^n=v / B^n→u=v
 | 0,_,h=>by simpa using h
 | n+1,hd,h=>by
  refine digits_inj (n:=n) (fun j hj=>hd j (by omega)) ?_;rw [Nat.pow_succ,←Nat.div_div_eq_div_mul,←Nat.div_div_eq_div_mul] at h;have h1:=Nat.div_add_mod (u / B^n) B;have h2:=Nat.div_add_mod (v / B^n) B;rw [h,hd n (by omega)] at h1;omega
def sumI:Nat→(Nat→Int)→Int
 | 0,_=>0
 | n+1,f=>sumI n f+f n
theorem sumI_congr:∀ {n:Nat} {f g:Nat→Int},(∀ i,i<n→f i=g i)→sumI n f=sumI n g
 | 0,_,_,_=>rfl
 | n+1,f,g,h=>by simp only [sumI];rw [sumI_congr fun i hi=>h i (by omega),h n (by omega)]
theorem sumI_sub (f g:Nat→Int):∀ n:Nat,sumI n (fun i=>f i-g i)=sumI n f-sumI n g
 | 0=>rfl
 | n+1=>by simp only [sumI];rw [sumI_sub f g n];omega
theorem sumI_abs {B:Nat} {f:Nat→Int}:∀ {n:Nat},(∀ i,i<n→(f i).natAbs≤B)→(sumI n f).natAbs≤n*B
 | 0,_=>by simp [sumI]
 | n+1,h=>by
  have h1:=sumI_abs (n:=n) fun i hi=>h i (by omega);have h2:=h n (by omega);simp only [sumI];have h3:=Int.natAbs_add_le (sumI n f) (f n);rw [Nat.add_mul];omega
theorem small_sol {n BA Bb H1 H2:Nat} {A:Nat→Nat→Int} {b:Nat→Int} (hA:∀ i j,i<n→j<n→(A i j).natAbs≤BA) (hb:∀ i,i<n→(b i).natAbs≤Bb)
    (hreg:∀ z:Nat→Int,(∀ i,i<n→sumI n (fun j=>A i j*z j)=0)→∀ j,j<n→z j=0)
    (hc:(2*(n*(BA*H1)+Bb*H2)+1)^n<(H1+1)^n*(H2+1)) :
    ∃ (z:Nat→Int) (t:Int),t≠0∧t.natAbs≤H2∧(∀ j,j<n→(z j).natAbs≤H1)∧∀ i,i<n→sumI n (fun j=>A i j*z j)=b i*t:=by
 obtain ⟨S,hS⟩:∃ S,S=n*(BA*H1)+Bb*H2:=⟨_,rfl⟩;rw [←hS] at hc;obtain ⟨dg,hdg⟩:∃ dg:Nat→Nat→Nat,dg=fun u j=>u / (H1+1)^j % (H1+1):=⟨_,rfl⟩;obtain ⟨tp,htp⟩:∃ tp:Nat→Nat,tp=fun u=>u / (H1+1)^n:=⟨_,rfl⟩;have hd:∀ u j,dg u j≤H1:=fun u j=>by
  rw [hdg];have:=Nat.mod_lt (u / (H1+1)^j) (show 0<H1+1 by omega);simp only;omega
 have ht:∀ u,u<(H1+1)^n*(H2+1)→tp u≤H2:=fun u hu=>by
  rw [htp];have:=Nat.div_lt_of_lt_mul hu;simp only;omega
 obtain ⟨lin,hlin⟩:∃ lin:Nat→Nat→Int,lin=fun u i=>sumI n (fun j=>A i j*(dg u j:Int))-b i*(tp u:Int):=⟨_,rfl⟩;have hl:∀ u i,u<(H1+1)^n*(H2+1)→i<n→(lin u i).natAbs≤S:=fun u i hu hi=>by
  have h1:=sumI_abs (B:=BA*H1) (n:=n) (f:=fun j=>A i j*(dg u j:Int)) fun j hj=>by
   rw [Int.natAbs_mul,Int.natAbs_natCast];exact Nat.mul_le_mul (hA i j hi hj) (hd u j)
  have h2:(b i*(tp u:Int)).natAbs≤Bb*H2:=by
   rw [Int.natAbs_mul,Int.natAbs_natCast];exact Nat.mul_le_mul (hb i hi) (ht u hu)
  rw [hlin];simp only;omega
 obtain ⟨cd,hcd⟩:∃ cd:Nat→Nat→Nat,cd=fun u i=>(lin u i+(S:Int)).toNat:=⟨_,rfl⟩;have hcl:∀ u,u<(H1+1)^n*(H2+1)→∀ i,i<n→cd u i<2*S+1:=fun u hu i hi=>by
  have:=hl u i hu hi;rw [hcd];simp only;omega
 obtain ⟨u,v,huv,hvN,he⟩:=pigeon (N:=(H1+1)^n*(H2+1)) (K:=(2*S+1)^n) (fun u=>codeN (2*S+1) (cd u) n) (fun u hu=>codeN_lt (hcl u hu)) hc;have huN:u<(H1+1)^n*(H2+1):=by omega
 have hee:=codeN_inj (hcl u huN) (hcl v hvN) he;have hlin2:∀ i,i<n→sumI n (fun j=>A i j*((dg v j:Int)-(dg u j:Int)))=b i*((tp v:Int)-(tp u:Int)):=fun i hi=>by
  have h1:=hee i hi;have h2:=hl u i huN hi;have h3:=hl v i hvN hi;have h4:lin u i=lin v i:=by
   rw [hcd] at h1;simp only at h1;omega
  rw [hlin] at h4;simp only at h4;have h5:sumI n (fun j=>A i j*((dg v j:Int)-(dg u j:Int)))=sumI n (fun j=>A i j*(dg v j:Int))-sumI n (fun j=>A i j*(dg u j:Int)):=by
   rw [←sumI_sub];exact sumI_congr fun j hj=>Int.mul_sub _ _ _
  rw [h5,Int.mul_sub];omega
 refine ⟨fun j=>(dg v j:Int)-(dg u j:Int),(tp v:Int)-(tp u:Int),fun h0=>?_,?_,fun j hj=>?_,hlin2⟩
 ·have hz:=hreg (fun j=>(dg v j:Int)-(dg u j:Int)) fun i hi=>by
   rw [hlin2 i hi,h0,Int.mul_zero]
  have:u=v:=digits_inj (B:=H1+1) (n:=n) (fun j hj=>by
   have h5:(dg v j:Int)-(dg u j:Int)=0:=hz j hj;have h6:dg u j=dg v j:=by omega
   rw [hdg] at h6;exact h6) (by
   have h7:tp u=tp v:=by omega
   rw [htp] at h7;exact h7)
  omega
 ·have h1:=ht u huN
  have h2:=ht v hvN;omega
 ·have h1:=hd u j
  have h2:=hd v j;simp only;omega
theorem sumI_cast (f:Nat→Int):∀ n:Nat,((sumI n f:Int):Rat)=sumTo n fun i=>(f i:Rat)
 | 0=>rfl
 | n+1=>by
  simp only [sumI,sumTo];rw [Rat.intCast_add,sumI_cast f n]
theorem sol_short {n BA Bb H1 H2:Nat} {A:Nat→Nat→Int} {b:Nat→Int} {x:Fn} {V:Rat} (hA:∀ i j,i<n→j<n→(A i j).natAbs≤BA) (hb:∀ i,i<n→(b i).natAbs≤Bb)
    (hreg:∀ c:Fn,(∀ i,i<n→sumTo n (fun j=>(A i j:Rat)*c j)=0)→∀ j,j<n→c j=0)
    (hx:∀ i,i<n→sumTo n (fun j=>(A i j:Rat)*(V*x j))=(b i:Rat))
    (hc:(2*(n*(BA*H1)+Bb*H2)+1)^n<(H1+1)^n*(H2+1)) :
    ∃ t:Int,t≠0∧t.natAbs≤H2∧∀ j,j<n→∃ z:Int,z.natAbs≤H1∧V*x j*(t:Rat)=(z:Rat):=by
 obtain ⟨z,t,h0,h1,h2,h3⟩:=small_sol hA hb (fun z hz j hj=>by
  have:=hreg (fun j=>(z j:Rat)) (fun i hi=>by
   have h:((sumI n (fun j=>A i j*z j):Int):Rat)=((0:Int):Rat):=congrArg (fun q:Int=>(q:Rat)) (hz i hi);rw [sumI_cast] at h;rw [←show ((0:Int):Rat)=0 from rfl,←h];exact sumTo_congr fun j _=>(Rat.intCast_mul _ _).symm) j hj
  exact Rat.intCast_inj.1 (by rw [this];rfl)) hc
 refine ⟨t,h0,h1,fun j hj=>⟨z j,h2 j hj,?_⟩⟩;have hz:=hreg (fun j=>V*x j*(t:Rat)+(-1)*(z j:Rat)) (fun i hi=>by
  have e:sumTo n (fun j=>(A i j:Rat)*(V*x j*(t:Rat)+(-1)*(z j:Rat)))=(t:Rat)*sumTo n (fun j=>(A i j:Rat)*(V*x j))+(-1)*sumTo n (fun j=>(A i j:Rat)*(z j:Rat)):=by
   rw [←sumTo_mul,←sumTo_mul,←sumTo_add];exact sumTo_congr fun j _=>by grind
  have h:((sumI n (fun j=>A i j*z j):Int):Rat)=((b i*t:Int):Rat):=congrArg (fun q:Int=>(q:Rat)) (h3 i hi);rw [sumI_cast,Rat.intCast_mul] at h;have e2:sumTo n (fun j=>((A i j*z j:Int):Rat))=sumTo n (fun j=>(A i j:Rat)*(z j:Rat)):=sumTo_congr fun j _=>Rat.intCast_mul _ _;rw [e,hx i hi,←e2,h];grind) j hj
 have:V*x j*(t:Rat)+(-1)*(z j:Rat)=0:=hz;grind
end
section
def mk4 {α:Type} (n E K:Nat) (f1 f2 f3 f4:Nat→α):Nat→α:=fun j=>if j<n then f1 j else if j<n+E then f2 (j-n) else if j<n+E+K then f3 (j-n-E) else f4 (j-n-E-K)
section
variable {n E K:Nat}
theorem mk4_1 {α:Type} {f1 f2 f3 f4:Nat→α} {j:Nat} (h:j<n):mk4 n E K f1 f2 f3 f4 j=f1 j:=by unfold mk4;rw [if_pos h]
theorem mk4_2 {α:Type} {f1 f2 f3 f4:Nat→α} {j:Nat} (h:j<E):mk4 n E K f1 f2 f3 f4 (n+j)=f2 j:=by
 unfold mk4;rw [if_neg (by omega),if_pos (by omega),Nat.add_sub_cancel_left]
theorem mk4_3 {α:Type} {f1 f2 f3 f4:Nat→α} {j:Nat} (h:j<K):mk4 n E K f1 f2 f3 f4 (n+(E+j))=f3 j:=by
 unfold mk4;rw [if_neg (by omega),if_neg (by omega),if_pos (by omega),show n+(E+j)-n-E=j by omega]
theorem mk4_4 {α:Type} {f1 f2 f3 f4:Nat→α} {j:Nat}:mk4 n E K f1 f2 f3 f4 (n+(E+(K+j)))=f4 j:=by
 unfold mk4;rw [if_neg (by omega),if_neg (by omega),if_neg (by omega),show n+(E+(K+j))-n-E-K=j by omega]
theorem mk4_all {α:Type} {f1 f2 f3 f4:Nat→α} {P:α→Prop} (h1:∀ j,j<n→P (f1 j)) (h2:∀ j,j<E→P (f2 j)) (h3:∀ j,j<K→P (f3 j)) (h4:∀ j,j<E→P (f4 j)):∀ j,j<n+(E+(K+E))→P (mk4 n E K f1 f2 f3 f4 j):=fun j hj=>by
 unfold mk4
 split
 ·exact h1 j (by omega)
 ·split
  ·exact h2 _ (by omega)
  ·split
   ·exact h3 _ (by omega)
   ·exact h4 _ (by omega)
theorem dot4 (f1 f2 f3 f4:Nat→Int) (g:Fn):sumTo (n+(E+(K+E))) (fun j=>((mk4 n E K f1 f2 f3 f4 j:Int):Rat)*g j)=sumTo n (fun j=>(f1 j:Rat)*g j)+(sumTo E (fun j=>(f2 j:Rat)*g (n+j))+(sumTo K (fun j=>(f3 j:Rat)*g (n+(E+j)))+sumTo E (fun j=>(f4 j:Rat)*g (n+(E+(K+j)))))):=by
 rw [sumTo_split,sumTo_split,sumTo_split];congr 1
 ·exact sumTo_congr fun j hj=>by rw [mk4_1 hj]
 congr 1
 ·exact sumTo_congr fun j hj=>by rw [mk4_2 hj]
 congr 1
 ·exact sumTo_congr fun j hj=>by rw [mk4_3 hj]
 ·exact sumTo_congr fun j hj=>by rw [mk4_4]
end
def tenP (n:Nat):Nat:=10^n
theorem tnLe {a b:Nat} (h:a≤b):tenP a≤tenP b:=Nat.pow_le_pow_right (by decide) h
theorem tnAdd {a b c:Nat} (h:a+b≤c):tenP a*tenP b≤tenP c:=by
 unfold tenP;rw [←Nat.pow_add];exact Nat.pow_le_pow_right (by decide) h
theorem tnPos (a:Nat):1≤tenP a:=Nat.pow_pos (by decide)
structure Aug where
 E:Nat
 X:Nat→Int
 tw:Nat→Nat→Int
 M:Nat→Nat→Int
 N:Nat→Nat→Int
 w:Nat→Int
structure Aug.Ok (U:Aug) (L:Ls):Prop where
 x:∀ e,e<U.E→1≤U.X e∧U.X e≤1000000000
 t:∀ e i,(U.tw e i).natAbs≤1
 m:∀ k e,(U.M k e).natAbs≤1
 n:∀ k i,(U.N k i).natAbs≤1
 w:∀ k,k<L.K→1≤U.w k∧U.w k≤1000∧L.w k=(U.w k:Rat)
 r:∀ k,k<L.K→∀ i,i<L.n→L.R k i=sumTo U.E (fun e=>(U.M k e:Rat)*((1000000 / (U.X e:Rat))*(U.tw e i:Rat)))+(U.N k i:Rat)
namespace Aug
variable (U:Aug) (L:Ls)
def row (i:Nat):Nat→Int:=
 mk4 L.n U.E L.K
  (fun i=>mk4 L.n U.E L.K (fun _=>0) (fun _=>0) (fun k=>U.N k i*U.w k) (fun e=>U.tw e i))
  (fun e=>mk4 L.n U.E L.K (fun i=>-(1000000*U.tw e i)) (fun e2=>if e2=e then U.X e else 0) (fun _=>0) (fun _=>0))
  (fun k=>mk4 L.n U.E L.K (fun i=>U.N k i) (fun e=>U.M k e) (fun k2=>if k2=k then 1 else 0) (fun _=>0))
  (fun e=>mk4 L.n U.E L.K (fun _=>0) (fun _=>0) (fun k=>-(1000000*(U.M k e*U.w k))) (fun e2=>if e2=e then U.X e else 0)) i
def sus (e:Nat):Rat:=1000000 / (U.X e:Rat)
def pp (a:Fn):Fn:=fun e=>U.sus e*sumTo L.n fun i=>(U.tw e i:Rat)*a i
def tt (r:Fn):Fn:=fun e=>U.sus e*sumTo L.K fun k=>(U.M k e:Rat)*(L.w k*r k)
def vec (a r:Fn):Fn:=mk4 L.n U.E L.K a (U.pp L a) r (U.tt L r)
variable {U L}
theorem Ok.sus_x (h:U.Ok L) {e:Nat} (he:e<U.E):(U.X e:Rat)*U.sus e=1000000:=by
 have h1:=(h.x e he).1;have h2:(U.X e:Rat)≠0:=fun e2=>by
  have:(U.X e:Rat)=((0:Int):Rat):=e2;rw [Rat.intCast_inj] at this;omega
 unfold sus;rw [Rat.div_def,Rat.mul_comm,Rat.mul_assoc,Rat.inv_mul_cancel _ h2,Rat.mul_one]
theorem one_at {m k:Nat} (hk:k<m) (c:Int) (g:Fn):sumTo m (fun j=>(((if j=k then c else 0):Int):Rat)*g j)=(c:Rat)*g k:=by
 rw [sumTo_one hk (fun j _ hne=>by rw [if_neg hne];exact Rat.zero_mul _),if_pos rfl]
theorem zero_sum (m:Nat) (g:Fn):sumTo m (fun j=>((0:Int):Rat)*g j)=0:=sumTo_zero fun j _=>Rat.zero_mul _
theorem Ok.rdot (h:U.Ok L) {k:Nat} (hk:k<L.K) (a:Fn):dotn L.n (L.R k) a=sumTo U.E (fun e=>(U.M k e:Rat)*U.pp L a e)+sumTo L.n (fun i=>(U.N k i:Rat)*a i):=by
 have e1:dotn L.n (L.R k) a=sumTo L.n (fun i=>sumTo U.E (fun e=>(U.M k e:Rat)*(U.sus e*((U.tw e i:Rat)*a i)))+(U.N k i:Rat)*a i):=by
  unfold dotn;refine sumTo_congr fun i hi=>?_;rw [h.r k hk i hi,Rat.add_mul,sumTo_mulr];congr 1
  exact sumTo_congr fun e _=>by unfold sus;grind
 rw [e1,sumTo_add,sumTo_comm];congr 1
 refine sumTo_congr fun e _=>?_;rw [sumTo_mul];unfold pp;rw [sumTo_mul]
theorem Ok.cdot (h:U.Ok L) {i:Nat} (hi:i<L.n) (r:Fn):sumTo L.K (fun k=>L.w k*r k*L.R k i)=sumTo U.E (fun e=>(U.tw e i:Rat)*U.tt L r e)+sumTo L.K (fun k=>(U.N k i:Rat)*(L.w k*r k)):=by
 have e1:sumTo L.K (fun k=>L.w k*r k*L.R k i)=sumTo L.K (fun k=>sumTo U.E (fun e=>(U.tw e i:Rat)*(U.sus e*((U.M k e:Rat)*(L.w k*r k))))+(U.N k i:Rat)*(L.w k*r k)):=by
  refine sumTo_congr fun k hk=>?_;rw [h.r k hk i hi,Rat.mul_add,←sumTo_mul];congr 1
  ·exact sumTo_congr fun e _=>by unfold sus;grind
  ·grind
 rw [e1,sumTo_add,sumTo_comm];congr 1
 refine sumTo_congr fun e _=>?_;rw [sumTo_mul];unfold tt;rw [sumTo_mul]
theorem row_1 {i:Nat} (hi:i<L.n) (g:Fn):sumTo (L.n+(U.E+(L.K+U.E))) (fun j=>((U.row L i j:Int):Rat)*g j)=sumTo L.K (fun k=>((U.N k i*U.w k:Int):Rat)*g (L.n+(U.E+k)))+sumTo U.E (fun e=>(U.tw e i:Rat)*g (L.n+(U.E+(L.K+e)))):=by
 have e:∀ j,U.row L i j=mk4 L.n U.E L.K (fun _=>0) (fun _=>0) (fun k=>U.N k i*U.w k) (fun e=>U.tw e i) j:=fun j=>by unfold row;rw [mk4_1 hi]
 simp only [e];rw [dot4,zero_sum,zero_sum,Rat.zero_add,Rat.zero_add]
theorem row_2 {e:Nat} (he:e<U.E) (g:Fn):sumTo (L.n+(U.E+(L.K+U.E))) (fun j=>((U.row L (L.n+e) j:Int):Rat)*g j)=(U.X e:Rat)*g (L.n+e)-1000000*sumTo L.n (fun i=>(U.tw e i:Rat)*g i):=by
 have e1:∀ j,U.row L (L.n+e) j=mk4 L.n U.E L.K (fun i=>-(1000000*U.tw e i)) (fun e2=>if e2=e then U.X e else 0) (fun _=>0) (fun _=>0) j:=fun j=>by unfold row;rw [mk4_2 he]
 simp only [e1];rw [dot4,zero_sum,zero_sum,one_at he (U.X e) (fun j=>g (L.n+j))];have e2:sumTo L.n (fun j=>((-(1000000*U.tw e j):Int):Rat)*g j)=(-1000000)*sumTo L.n (fun i=>(U.tw e i:Rat)*g i):=by
  rw [←sumTo_mul];refine sumTo_congr fun i _=>?_;rw [Rat.intCast_neg,Rat.intCast_mul];have:((1000000:Int):Rat)=1000000:=rfl;rw [this];grind
 rw [e2];grind
theorem row_3 {k:Nat} (hk:k<L.K) (g:Fn):sumTo (L.n+(U.E+(L.K+U.E))) (fun j=>((U.row L (L.n+(U.E+k)) j:Int):Rat)*g j)=sumTo L.n (fun i=>(U.N k i:Rat)*g i)+sumTo U.E (fun e=>(U.M k e:Rat)*g (L.n+e))+g (L.n+(U.E+k)):=by
 have e1:∀ j,U.row L (L.n+(U.E+k)) j=mk4 L.n U.E L.K (fun i=>U.N k i) (fun e=>U.M k e) (fun k2=>if k2=k then 1 else 0) (fun _=>0) j:=fun j=>by unfold row;rw [mk4_3 hk]
 simp only [e1];rw [dot4,zero_sum,one_at hk 1 (fun j=>g (L.n+(U.E+j)))];have:((1:Int):Rat)=1:=rfl;rw [this];grind
theorem row_4 {e:Nat} (he:e<U.E) (g:Fn):sumTo (L.n+(U.E+(L.K+U.E))) (fun j=>((U.row L (L.n+(U.E+(L.K+e))) j:Int):Rat)*g j)=(U.X e:Rat)*g (L.n+(U.E+(L.K+e)))-1000000*sumTo L.K (fun k=>((U.M k e*U.w k:Int):Rat)*g (L.n+(U.E+k))):=by
 have e1:∀ j,U.row L (L.n+(U.E+(L.K+e))) j=mk4 L.n U.E L.K (fun _=>0) (fun _=>0) (fun k=>-(1000000*(U.M k e*U.w k))) (fun e2=>if e2=e then U.X e else 0) j:=fun j=>by unfold row;rw [mk4_4]
 simp only [e1];rw [dot4,zero_sum,zero_sum,one_at he (U.X e) (fun j=>g (L.n+(U.E+(L.K+j))))];have e2:sumTo L.K (fun j=>((-(1000000*(U.M j e*U.w j)):Int):Rat)*g (L.n+(U.E+j)))=(-1000000)*sumTo L.K (fun k=>((U.M k e*U.w k:Int):Rat)*g (L.n+(U.E+k))):=by
  rw [←sumTo_mul];refine sumTo_congr fun i _=>?_;rw [Rat.intCast_neg,Rat.intCast_mul];have:((1000000:Int):Rat)=1000000:=rfl;rw [this];grind
 rw [e2];grind
theorem Ok.bnd (h:U.Ok L) {i j:Nat} (hi:i<L.n+(U.E+(L.K+U.E))) (hj:j<L.n+(U.E+(L.K+U.E))):(U.row L i j).natAbs≤1000000000:=by
 have wN:∀ k,k<L.K→(U.w k).natAbs≤1000:=fun k hk=>by have:=h.w k hk;omega
 have key:∀ (a b:Int) (m:Nat),a.natAbs≤1→b.natAbs≤m→(a*b).natAbs≤m:=fun a b m h1 h2=>by
  rw [Int.natAbs_mul];have:=Nat.mul_le_mul h1 h2;omega
 unfold row;refine mk4_all (P:=fun f:Nat→Int=>(f j).natAbs≤1000000000) (fun i2 h2=>?_) (fun e he=>?_) (fun k hk=>?_) (fun e he=>?_) i hi
 ·exact mk4_all (P:=fun z:Int=>z.natAbs≤1000000000) (fun _ _=>by decide) (fun _ _=>by decide) (fun k hk=>zI_ (key _ _ _ (h.n k i2) (wN k hk)) (by decide)) (fun e _=>zI_ (h.t e i2) (by decide)) j hj
 ·refine mk4_all (P:=fun z:Int=>z.natAbs≤1000000000) (fun i2 _=>?_) (fun e2 _=>?_) (fun _ _=>by decide) (fun _ _=>by decide) j hj
  ·have:=h.t e i2;omega
  ·split
   ·have:=h.x e he;omega
   ·decide
 ·refine mk4_all (P:=fun z:Int=>z.natAbs≤1000000000) (fun i2 _=>?_) (fun e2 _=>?_) (fun k2 _=>?_) (fun _ _=>by decide) j hj
  ·have:=h.n k i2;omega
  ·have:=h.m k e2;omega
  ·split<;>decide
 ·refine mk4_all (P:=fun z:Int=>z.natAbs≤1000000000) (fun _ _=>by decide) (fun _ _=>by decide) (fun k hk=>?_) (fun e2 _=>?_) j hj
  ·have h1:=key _ _ _ (h.m k e) (wN k hk)
   show (-(1000000*(U.M k e*U.w k))).natAbs≤1000000000;omega
  ·split
   ·have:=h.x e he;omega
   ·decide
theorem Ok.x0 (h:U.Ok L) {e:Nat} (he:e<U.E):(U.X e:Rat)≠0:=fun e2=>by
 have h1:=(h.x e he).1;have:(U.X e:Rat)=((0:Int):Rat):=e2;rw [Rat.intCast_inj] at this;omega
theorem Ok.cancel (h:U.Ok L) {e:Nat} (he:e<U.E) {p s:Rat} (hp:(U.X e:Rat)*p-1000000*s=0):p=U.sus e*s:=by
 have h1:=h.sus_x he;have h2:=h.x0 he;have h3:(U.X e:Rat)*(p-U.sus e*s)=0:=by grind
 rcases Rat.mul_eq_zero.1 h3 with h4 | h4
 ·exact absurd h4 h2
 ·grind
theorem Ok.wcast (h:U.Ok L) {k:Nat} (hk:k<L.K) (z:Int) (r:Rat):((z*U.w k:Int):Rat)*r=(z:Rat)*(L.w k*r):=by
 rw [Rat.intCast_mul,(h.w k hk).2.2,Rat.mul_assoc]
theorem Ok.pos (h:U.Ok L):L.Pos:=fun k hk=>by
 rw [(h.w k hk).2.2];exact Rat.intCast_pos.2 (by have:=(h.w k hk).1;omega)
theorem Ok.reg (h:U.Ok L) (hreg:∀ c:Fn,(∀ k,k<L.K→dotn L.n (L.R k) c=0)→∀ j,j<L.n→c j=0) (c:Fn) (hc:∀ i,i<L.n+(U.E+(L.K+U.E))→sumTo (L.n+(U.E+(L.K+U.E))) (fun j=>((U.row L i j:Int):Rat)*c j)=0):∀ j,j<L.n+(U.E+(L.K+U.E))→c j=0:=by
 have hp:∀ e,e<U.E→c (L.n+e)=U.pp L c e:=fun e he=>by
  have h1:=hc (L.n+e) (by omega);rw [row_2 he] at h1;exact h.cancel he h1
 have hr:∀ k,k<L.K→c (L.n+(U.E+k))=-(dotn L.n (L.R k) c):=fun k hk=>by
  have h1:=hc (L.n+(U.E+k)) (by omega);rw [row_3 hk] at h1;rw [h.rdot hk,sumTo_congr (f:=fun e=>(U.M k e:Rat)*U.pp L c e) (g:=fun e=>(U.M k e:Rat)*c (L.n+e)) (fun e he=>by rw [hp e he])];grind
 have ht:∀ e,e<U.E→c (L.n+(U.E+(L.K+e)))=U.tt L (fun k=>c (L.n+(U.E+k))) e:=fun e he=>by
  have h1:=hc (L.n+(U.E+(L.K+e))) (by omega);rw [row_4 he] at h1;rw [h.cancel he h1];unfold tt;rw [sumTo_congr (fun k hk=>h.wcast hk (U.M k e) (c (L.n+(U.E+k))))]
 have hs:∀ i,i<L.n→sumTo L.K (fun k=>L.w k*c (L.n+(U.E+k))*L.R k i)=0:=fun i hi=>by
  have h1:=hc i (by omega);rw [row_1 hi] at h1;rw [h.cdot hi (fun k=>c (L.n+(U.E+k)))];rw [sumTo_congr (fun k hk=>h.wcast hk (U.N k i) (c (L.n+(U.E+k)))),sumTo_congr (f:=fun e=>(U.tw e i:Rat)*c (L.n+(U.E+(L.K+e)))) (g:=fun e=>(U.tw e i:Rat)*U.tt L (fun k=>c (L.n+(U.E+k))) e) (fun e he=>by rw [ht e he])] at h1;grind
 have hG:∀ i,i<L.n→dotn L.n (L.G i) c=0:=fun i hi=>by
  rw [L.gdot];have h1:=hs i hi;rw [sumTo_congr (f:=fun k=>L.w k*c (L.n+(U.E+k))*L.R k i) (g:=fun k=>(-1)*(L.w k*L.R k i*dotn L.n (L.R k) c)) (fun k hk=>by rw [hr k hk];grind),sumTo_mul] at h1;grind
 have hR:=(h.pos.ker c).1 hG;have ha:=hreg c hR;have hr0:∀ k,k<L.K→c (L.n+(U.E+k))=0:=fun k hk=>by rw [hr k hk,hR k hk];rfl
 intro j hj
 by_cases h1:j<L.n
 ·exact ha j h1
 ·by_cases h2:j<L.n+U.E
  ·obtain ⟨e,rfl⟩:∃ e,j=L.n+e:=⟨j-L.n,by omega⟩
   rw [hp e (by omega)];unfold pp;rw [sumTo_zero (fun i hi=>by rw [ha i hi,Rat.mul_zero]),Rat.mul_zero]
  ·by_cases h3:j<L.n+U.E+L.K
   ·obtain ⟨k,rfl⟩:∃ k,j=L.n+(U.E+k):=⟨j-L.n-U.E,by omega⟩
    exact hr0 k (by omega)
   ·obtain ⟨e,rfl⟩:∃ e,j=L.n+(U.E+(L.K+e)):=⟨j-L.n-U.E-L.K,by omega⟩
    rw [ht e (by omega)];unfold tt;rw [sumTo_zero (fun k hk=>by show (U.M k e:Rat)*(L.w k*c (L.n+(U.E+k)))=0;rw [hr0 k hk,Rat.mul_zero,Rat.mul_zero]),Rat.mul_zero]
theorem Ok.sol (h:U.Ok L) {a:Fn} (ha:L.Sol a) {V:Rat} {Y:Nat→Int} (hY:∀ k,k<L.K→L.y k*V=(Y k:Rat)):∀ i,i<L.n+(U.E+(L.K+U.E))→sumTo (L.n+(U.E+(L.K+U.E))) (fun j=>((U.row L i j:Int):Rat)*(V*U.vec L a (L.res a) j))=((mk4 L.n U.E L.K (fun _=>(0:Int)) (fun _=>0) Y (fun _=>0) i:Int):Rat):=by
 intro j hj
 by_cases h1:j<L.n
 ·rw [row_1 h1,mk4_1 h1]
  have e1:sumTo L.K (fun k=>((U.N k j*U.w k:Int):Rat)*(V*U.vec L a (L.res a) (L.n+(U.E+k))))=V*sumTo L.K (fun k=>(U.N k j:Rat)*(L.w k*L.res a k)):=by
   rw [←sumTo_mul];refine sumTo_congr fun k hk=>?_;rw [h.wcast hk];unfold vec;rw [mk4_3 hk];grind
  have e2:sumTo U.E (fun e=>(U.tw e j:Rat)*(V*U.vec L a (L.res a) (L.n+(U.E+(L.K+e)))))=V*sumTo U.E (fun e=>(U.tw e j:Rat)*U.tt L (L.res a) e):=by
   rw [←sumTo_mul];refine sumTo_congr fun e he=>?_;unfold vec;rw [mk4_4];grind
  have h3:=ha.normal j h1;rw [h.cdot h1] at h3;rw [e1,e2];have e0:(((0:Int)):Rat)=0:=rfl;rw [e0];grind
 ·by_cases h2:j<L.n+U.E
  ·obtain ⟨e,rfl⟩:∃ e,j=L.n+e:=⟨j-L.n,by omega⟩
   have he:e<U.E:=by omega
   rw [row_2 he,mk4_2 he];have e1:sumTo L.n (fun i=>(U.tw e i:Rat)*(V*U.vec L a (L.res a) i))=V*sumTo L.n (fun i=>(U.tw e i:Rat)*a i):=by
    rw [←sumTo_mul];refine sumTo_congr fun i hi=>?_;unfold vec;rw [mk4_1 hi];grind
   have h4:=h.sus_x he;unfold vec at e1 ⊢;rw [e1,mk4_2 he];unfold pp;have e0:(((0:Int)):Rat)=0:=rfl;rw [e0];grind
  ·by_cases h3:j<L.n+U.E+L.K
   ·obtain ⟨k,rfl⟩:∃ k,j=L.n+(U.E+k):=⟨j-L.n-U.E,by omega⟩
    have hk:k<L.K:=by omega
    rw [row_3 hk,mk4_3 hk,←hY k hk];have e1:sumTo L.n (fun i=>(U.N k i:Rat)*(V*U.vec L a (L.res a) i))=V*sumTo L.n (fun i=>(U.N k i:Rat)*a i):=by
     rw [←sumTo_mul];refine sumTo_congr fun i hi=>?_;unfold vec;rw [mk4_1 hi];grind
    have e2:sumTo U.E (fun e=>(U.M k e:Rat)*(V*U.vec L a (L.res a) (L.n+e)))=V*sumTo U.E (fun e=>(U.M k e:Rat)*U.pp L a e):=by
     rw [←sumTo_mul];refine sumTo_congr fun e he=>?_;unfold vec;rw [mk4_2 he];grind
    have h5:=h.rdot hk a;rw [e1,e2];unfold vec;rw [mk4_3 hk];unfold Ls.res;grind
   ·obtain ⟨e,rfl⟩:∃ e,j=L.n+(U.E+(L.K+e)):=⟨j-L.n-U.E-L.K,by omega⟩
    have he:e<U.E:=by omega
    rw [row_4 he,mk4_4];have e1:sumTo L.K (fun k=>((U.M k e*U.w k:Int):Rat)*(V*U.vec L a (L.res a) (L.n+(U.E+k))))=V*sumTo L.K (fun k=>(U.M k e:Rat)*(L.w k*L.res a k)):=by
     rw [←sumTo_mul];refine sumTo_congr fun k hk=>?_;rw [h.wcast hk];unfold vec;rw [mk4_3 hk];grind
    have h4:=h.sus_x he;rw [e1];unfold vec;rw [mk4_4];unfold tt;have e0:(((0:Int)):Rat)=0:=rfl;rw [e0];grind
theorem Ok.short (h:U.Ok L) (hn:L.n≤8) (hE:U.E≤10) (hK:L.K≤8) (hreg:∀ c:Fn,(∀ k,k<L.K→dotn L.n (L.R k) c=0)→∀ j,j<L.n→c j=0) {a:Fn} (ha:L.Sol a) {V:Rat} {B:Nat} (hB:1≤B) {Y:Nat→Int} (hY:∀ k,k<L.K→L.y k*V=(Y k:Rat)) (hYB:∀ k,k<L.K→(Y k).natAbs≤B) :
    ∃ t:Int,t≠0∧t.natAbs≤tenP 396∧(∀ i,i<L.n→∃ z:Int,z.natAbs≤B*tenP 396∧V*a i*(t:Rat)=(z:Rat))∧∀ k,k<L.K→∃ z:Int,z.natAbs≤B*tenP 396∧V*L.res a k*(t:Rat)=(z:Rat):=by
 have hN:L.n+(U.E+(L.K+U.E))≤36:=by omega
 have hQp:∀ N,N≤36→(10:Nat)^(11*N)≤tenP 396:=fun N h=>tnLe (a:=11*N) (b:=396) (by omega);generalize tenP 396=Q at hQp ⊢;obtain ⟨t,h0,h1,h2⟩:=sol_short (n:=L.n+(U.E+(L.K+U.E))) (BA:=1000000000) (Bb:=B) (H1:=B*Q) (H2:=Q) (A:=U.row L) (b:=mk4 L.n U.E L.K (fun _=>(0:Int)) (fun _=>0) Y (fun _=>0)) (x:=U.vec L a (L.res a)) (V:=V) (fun i j hi hj=>h.bnd hi hj) (mk4_all (P:=fun z:Int=>z.natAbs≤B) (fun _ _=>Nat.zero_le _) (fun _ _=>Nat.zero_le _) hYB (fun _ _=>Nat.zero_le _)) (h.reg hreg) (h.sol ha hY) (by
  generalize L.n+(U.E+(L.K+U.E))=N at hN;have e1:2*(N*(1000000000*(B*Q))+B*Q)+1≤10^11*(B*Q+1):=by
   generalize B*Q=H;have:=Nat.mul_le_mul_right (1000000000*H) hN;omega
  have e2:=Nat.pow_le_pow_left e1 N;rw [Nat.mul_pow,←Nat.pow_mul] at e2;have e3:=hQp N hN;have e4:0<(B*Q+1)^N:=Nat.pow_pos (Nat.succ_pos _);have e5:=Nat.mul_le_mul_right ((B*Q+1)^N) e3;rw [Nat.mul_succ,Nat.mul_comm ((B*Q+1)^N) Q];omega)
 refine ⟨t,h0,h1,fun i hi=>?_,fun k hk=>?_⟩
 ·obtain ⟨z,h3,h4⟩:=h2 i (by omega)
  unfold vec at h4;rw [mk4_1 hi] at h4;exact ⟨z,h3,h4⟩
 ·obtain ⟨z,h3,h4⟩:=h2 (L.n+(U.E+k)) (by omega)
  unfold vec at h4;rw [mk4_3 hk] at h4;exact ⟨z,h3,h4⟩
end Aug
end
end Go.Proofs.YthgdchffeigkbaaGreatDoor
