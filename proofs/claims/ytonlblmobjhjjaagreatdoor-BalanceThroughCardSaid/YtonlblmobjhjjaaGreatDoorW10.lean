import Derived.Test.YtonlblmobjhjjaaGreatDoorW07
import Derived.Test.YtonlblmobjhjjaaGreatDoorW08
import Derived.Lib.LaidTab
import Derived.LaidLaws
import Derived.LaidHandle
import Derived.RowKitTokens
import Derived.Stop.Joined
import Derived.Stop.LaidErr
import Derived.Lay
import Derived.Handed
import Derived.Test.YtonlblmobjhjjaaGreatDoorCards
import Derived.Test.YtonlblmobjhjjaaGreatDoorTie
import Derived.JoinedOf
set_option linter.unusedVariables false
set_option linter.unusedSimpArgs false
namespace Go.Proofs.YtonlblmobjhjjaaGreatDoor
variable {W : World} {a : Fn} {j k n u : Nat} {m : Int} {nodes : List ByteArray}
section
def KI(x:bP)(s:ByteArray):Int:=eP (fun b:Br=>k_ b.name s) x.brs 0
end
section
theorem LS(c:Rat)(f:Fn)(n:Nat):aP n f*c=aP n (fun i=>f i*c):=by
 rw[Rat.mul_comm,<-eC];exact aO fun i _=>Rat.mul_comm _ _
theorem wB(f g:Fn)(n:Nat):aP n (fun i=>f i-g i)=aP n f-aP n g:=by
 have h:=cM f (fun i=>(-1)*g i) n;rw[eC] at h;have e:aP n (fun i=>f i-g i)=aP n (fun i=>f i+(-1)*g i):=aO fun i _=>by grind
 rw[e,h];grind
theorem aCU(x:Rat):0<=x*x:=by
 rcases Rat.le_total (a:=0) (b:=x) with h | h
 ·exact Rat.mul_nonneg h h
 ·have h2:0<=-x:=by grind
  have:=Rat.mul_nonneg h2 h2;grind
theorem H_:∀{n:Nat}{f:Fn},(∀i,i<n->0<=f i)->0<=aP n f
 | 0,_,_=>by simp[aP]
 | n+1,f,h=>by
  have h1:=H_ (n:=n) (f:=f) fun i hi=>h i (by omega);have h2:=h n (by omega);simp only[aP];grind
theorem sC:∀{n:Nat}{f:Fn},(∀i,i<n->0<=f i)->aP n f=0->∀i,i<n->f i=0
 | 0,_,_,_,i,hi=>by omega
 | n+1,f,h,he,i,hi=>by
  have h1:=H_ (n:=n) (f:=f) fun i hi=>h i (by omega);have h2:=h n (by omega);simp only[aP] at he
  by_cases rH:i=n
  ·subst rH;grind
  ·exact sC (n:=n) (fun i hi=>h i (by omega)) (by grind) i (by omega)
structure Ls where
 n:Nat
 K:Nat
 R:Nat->Fn
 w:Fn
 y:Fn
namespace Ls
variable {W : World} {a : Fn} {j k n u : Nat} {m : Int} {nodes : List ByteArray}
variable (L:Ls)
def Pos:Prop:=∀k,k<L.K->0<L.w k
def G(i:Nat):Fn:=fun j=>aP L.K fun k=>L.w k*L.R k i*L.R k j
def rt:Fn:=fun i=>aP L.K fun k=>L.w k*L.y k*L.R k i
def res(a:Fn):Fn:=fun k=>L.y k-a_ L.n (L.R k) a
def cost(a:Fn):Rat:=aP L.K fun k=>L.w k*L.res a k*L.res a k
def Sol(a:Fn):Prop:=∀i,i<L.n->a_ L.n (L.G i) a=L.rt i
theorem gdot(c:Fn)(i:Nat):a_ L.n (L.G i) c=aP L.K fun k=>L.w k*L.R k i*a_ L.n (L.R k) c:=by
 unfold a_ G;have e:aP L.n (fun j=>aP L.K (fun k=>L.w k*L.R k i*L.R k j)*c j)=aP L.n (fun j=>aP L.K (fun k=>L.w k*L.R k i*(L.R k j*c j))):=aO fun j _=>by
  rw[LS];exact aO fun k _=>by grind
 rw[e,sM];exact aO fun k _=>eC _ _ _
theorem wdot(f c:Fn):aP L.n (fun i=>c i*aP L.K fun k=>f k*L.R k i)=aP L.K fun k=>f k*a_ L.n (L.R k) c:=by
 have e:aP L.n (fun i=>c i*aP L.K fun k=>f k*L.R k i)=aP L.n (fun i=>aP L.K fun k=>f k*(L.R k i*c i)):=aO fun i _=>by
  rw[<-eC];exact aO fun k _=>by grind
 rw[e,sM];exact aO fun k _=>eC _ _ _
theorem bil(c d:Fn):aP L.n (fun i=>c i*a_ L.n (L.G i) d)=aP L.K fun k=>L.w k*a_ L.n (L.R k) d*a_ L.n (L.R k) c:=by
 have e:aP L.n (fun i=>c i*a_ L.n (L.G i) d)=aP L.n (fun i=>c i*aP L.K fun k=>(L.w k*a_ L.n (L.R k) d)*L.R k i):=aO fun i _=>by
  rw[L.gdot];congr 1
  exact aO fun k _=>by grind
 rw[e,L.wdot]
theorem quad(c:Fn):aP L.n (fun i=>c i*a_ L.n (L.G i) c)=aP L.K fun k=>L.w k*(a_ L.n (L.R k) c*a_ L.n (L.R k) c):=by
 rw[L.bil];exact aO fun k _=>by grind
variable {L}
theorem Pos.nn(h:L.Pos)(f:Fn):∀k,k<L.K->0<=L.w k*(f k*f k):=fun k hk=>Rat.mul_nonneg (Rat.le_of_lt (h k hk)) (aCU _)
theorem Pos.zero(h:L.Pos){f:Fn}(h0:aP L.K (fun k=>L.w k*(f k*f k))=0):∀k,k<L.K->f k=0:=fun k hk=>by
 have h1:=sC (h.nn f) h0 k hk;have h2:=h k hk;rcases Rat.mul_eq_zero.1 h1 with h3 | h3
 ·rw[h3] at h2;exact absurd h2 Rat.lt_irrefl
 ·rcases Rat.mul_eq_zero.1 h3 with h4 | h4<;>exact h4
theorem Pos.ker(h:L.Pos)(c:Fn):(∀i,i<L.n->a_ L.n (L.G i) c=0)<->∀k,k<L.K->a_ L.n (L.R k) c=0:=by
 constructor
 ·intro hc
  refine h.zero (f:=fun k=>a_ L.n (L.R k) c) ?_;rw[<-L.quad];exact cD fun i hi=>by rw[hc i hi,Rat.mul_zero]
 ·intro hc i hi
  rw[L.gdot];exact cD fun k hk=>by rw[hc k hk,Rat.mul_zero]
theorem Sol.normal(h:L.Sol a):∀i,i<L.n->aP L.K (fun k=>L.w k*L.res a k*L.R k i)=0:=fun i hi=>by
 have h1:=h i hi;rw[L.gdot] at h1;unfold rt at h1;have e:aP L.K (fun k=>L.w k*L.res a k*L.R k i)=aP L.K (fun k=>L.w k*L.y k*L.R k i)-aP L.K (fun k=>L.w k*L.R k i*a_ L.n (L.R k) a):=by
  rw[<-wB];exact aO fun k _=>by unfold res;grind
 rw[e,h1];grind
theorem Sol.orth(h:L.Sol a)(c:Fn):aP L.K (fun k=>L.w k*L.res a k*a_ L.n (L.R k) c)=0:=by
 rw[<-L.wdot];exact cD fun i hi=>by rw[h.normal i hi,Rat.mul_zero]
theorem Sol.least(h:L.Sol a)(o:Fn):L.cost o=L.cost a+aP L.K fun k=>L.w k*(a_ L.n (L.R k) (fun i=>o i+(-1)*a i)*a_ L.n (L.R k) (fun i=>o i+(-1)*a i)):=by
 have h1:=h.orth (fun i=>o i+(-1)*a i);have e:L.cost o=L.cost a+aP L.K (fun k=>L.w k*(a_ L.n (L.R k) (fun i=>o i+(-1)*a i)*a_ L.n (L.R k) (fun i=>o i+(-1)*a i)))+(-2)*aP L.K (fun k=>L.w k*L.res a k*a_ L.n (L.R k) (fun i=>o i+(-1)*a i)):=by
  unfold cost;rw[<-eC,<-cM,<-cM];refine aO fun k _=>?_;rw[YP,YO];unfold res;grind
 rw[e,h1];grind
def SolK(L:Ls)(k:Nat)(u:Fn):Prop:=∀i,i<L.n->a_ L.n (L.G i) u=L.R k i
theorem SolK.dot{u:Fn}(h:L.SolK k u)(c:Fn):a_ L.n (L.R k) c=aP L.K fun j=>L.w j*a_ L.n (L.R j) u*a_ L.n (L.R j) c:=by
 rw[<-L.bil];unfold a_;exact aO fun i hi=>by
  have:=h i hi;unfold a_ at this;rw[<-this];grind
theorem SolK.rest{u:Fn}(h:L.SolK k u)(hk:k<L.K):a_ L.n (L.R k) u=L.w k*(a_ L.n (L.R k) u*a_ L.n (L.R k) u)+aP L.K (fun j=>if j=k then 0 else L.w j*(a_ L.n (L.R j) u*a_ L.n (L.R j) u)):=by
 have h1:=h.dot u;have e:aP L.K (fun j=>L.w j*a_ L.n (L.R j) u*a_ L.n (L.R j) u)=aP L.K (fun j=>if j=k then L.w j*(a_ L.n (L.R j) u*a_ L.n (L.R j) u) else 0)+aP L.K (fun j=>if j=k then 0 else L.w j*(a_ L.n (L.R j) u*a_ L.n (L.R j) u)):=by
  rw[<-cM];exact aO fun j _=>by
   by_cases ej:j=k
   ·rw[if_pos ej,if_pos ej];grind
   ·rw[if_neg ej,if_neg ej];grind
 have e2:aP L.K (fun j=>if j=k then L.w j*(a_ L.n (L.R j) u*a_ L.n (L.R j) u) else 0)=L.w k*(a_ L.n (L.R k) u*a_ L.n (L.R k) u):=by
  rw[dR hk (fun j _ cK=>by rw[if_neg cK]),if_pos rfl]
 rw[e,e2] at h1;exact h1
end Ls
end
section
open Go
theorem tT{l:List Int}{i:Nat}(hi:i<l.length):(l.set i m).getD j 0=if j=i then m else l.getD j 0:=by
 rw[dQ,List.getElem?_set];by_cases h:i=j
 ·subst h;rw[if_pos rfl,if_pos hi,if_pos rfl];rfl
 ·rw[if_neg h,if_neg (fun e=>h e.symm),dQ]
def N_(m:Int)(a b:List Int):Prop:=∀j,b.getD j 0=a.getD j 0\/(a.getD j 0<0/\b.getD j 0=m)
theorem N_.refl(m:Int)(a:List Int):N_ m a a:=fun j=>.inl rfl
theorem N_.trans(hm:0<=m){a b c:List Int}(h:N_ m a b)(h2:N_ m b c):N_ m a c:=fun j=>by
 rcases h j with h | ⟨h,h'⟩<;>rcases h2 j with g | ⟨g,g'⟩
 ·exact .inl (g.trans h)
 ·exact .inr ⟨by omega,g'⟩
 ·exact .inr ⟨h,g.trans h'⟩
 ·omega
theorem ZD{a:List Int}{i:Nat}(h:a.getD i 0<0):N_ m a (a.set i m):=fun j=>by
 have hi:i<a.length:=by
  refine Nat.lt_of_not_le fun hn=>?_;rw[dQ,List.getElem?_eq_none hn] at h;simp at h
 rw[tT hi];by_cases hj:j=i
 ·subst hj;rw[if_pos rfl];exact .inr ⟨h,rfl⟩
 ·rw[if_neg hj];exact .inl rfl
theorem aCf(s:List Int×List Nat)(x:Nat×Nat):N_ m s.1 (dU u m s x).1:=by
 unfold dU;split
 ·rename_i h;exact ZD h.2
 ·exact N_.refl _ _
theorem PI(hm:0<=m):∀(es:List (Nat×Nat)) (s:List Int×List Nat),N_ m s.1 (hY u m es s).1
 | [],s=>N_.refl _ _
 | x::r,s=>(aCf s x).trans hm (PI hm r (dU u m s x))
theorem NN(hm:0<=m)(es:List (Nat×Nat)):∀(f:Nat)(out:List Int)(q:List Nat),N_ m out (mO m es f out q)
 | 0,out,q=>N_.refl _ _
 | f+1,out,[]=>N_.refl _ _
 | f+1,out,u::q=>(PI hm es (out,q)).trans hm (NN hm es f _ _)
def aPd(x:Nat×Nat)(a b:Nat):Prop:=(a=x.1/\b=x.2)\/(a=x.2/\b=x.1)
def EI(es:List (Nat×Nat))(out:List Int)(q:List Nat)(ok:Nat->Nat×Nat->Prop):Prop:=∀x∈es,∀a b,aPd x a b->0<=out.getD a 0->a∉q->ok a x->out.getD b 0=out.getD a 0
theorem aB6{es:List (Nat×Nat)}(hm:0<=m)(GV:∀x∈es,x.1<n/\x.2<n){done:List (Nat×Nat)}{s:List Int×List Nat}{x:Nat×Nat}(hx:x∈es)(hl:s.1.length=n)(hu:s.1.getD u 0=m)(hq:∀v∈s.2,s.1.getD v 0=m)(h:EI es s.1 s.2 fun a y=>a≠u\/y∈done):(dU u m s x).1.getD u 0=m/\(∀v∈(dU u m s x).2,(dU u m s x).1.getD v 0=m)/\EI es (dU u m s x).1 (dU u m s x).2 fun a y=>a≠u\/y∈x::done:=by
 have D_:=GV x hx;by_cases hc:(x.1=u\/x.2=u)/\s.1.getD (x.1+x.2-u) 0<0
 ·have e:dU u m s x=(s.1.set (x.1+x.2-u) m,s.2++[x.1+x.2-u]):=by unfold dU;rw[if_pos hc]
  rw[e];have hto:x.1+x.2-u<s.1.length:=by rw[hl];omega
  have cK:x.1+x.2-u≠u:=fun e=>by rw[e,hu] at hc;omega
  obtain⟨hc1,hc2⟩:=hc;generalize aSy:x.1+x.2-u=tw at *;dsimp only;refine⟨by rw[tT hto,if_neg (fun e=>cK e.symm)];exact hu,fun v hv=>?_,fun y hy a b iI ha O2 kU=>?_⟩
  ·rw[tT hto]
   rcases List.mem_append.1 hv with hv | hv
   ·split
    ·rfl
    ·exact hq v hv
   ·rw[List.mem_singleton.1 hv,if_pos rfl]
  ·have qN:a≠tw:=fun e=>O2 (List.mem_append_right _ (by rw[e];simp))
   have aNc:a∉s.2:=fun hm=>O2 (List.mem_append_left _ hm);rw[tT hto,if_neg qN] at ha;rw[tT hto,tT (j:=a) hto,if_neg qN];have old:(a≠u\/y∈done)->(if b=tw then m else s.1.getD b 0)=s.1.getD a 0:=fun ho=>by
    have:=h y hy a b iI ha aNc ho;by_cases hb:b=tw
    ·subst hb;omega
    ·rw[if_neg hb];exact this
   rcases kU with ho | ho
   ·exact old (.inl ho)
   ·rcases List.mem_cons.1 ho with rfl | ho
    ·by_cases hau:a=u
     ·subst hau
      have hb:b=tw:=by rcases iI with⟨h1,h2⟩ | ⟨h1,h2⟩<;>omega
      rw[if_pos hb,hu]
     ·exact old (.inl hau)
    ·exact old (.inr ho)
 ·have e:dU u m s x=s:=by unfold dU;rw[if_neg hc]
  rw[e];refine⟨hu,hq,fun y hy a b iI ha O2 kU=>?_⟩;rcases kU with ho | ho
  ·exact h y hy a b iI ha O2 (.inl ho)
  ·rcases List.mem_cons.1 ho with rfl | ho
   ·by_cases hau:a=u
    ·subst hau
     have ht:y.1=a\/y.2=a:=by rcases iI with⟨h1,_⟩ | ⟨h1,_⟩<;>omega
     have hb:b=y.1+y.2-a:=by rcases iI with⟨h1,h2⟩ | ⟨h1,h2⟩<;>omega
     have h0:0<=s.1.getD b 0:=by rw[hb];exact Int.not_lt.1 fun hn=>hc ⟨ht,hn⟩
     by_cases fP:b=a
     ·rw[fP]
     ·by_cases hbq:b∈s.2
      ·rw[hq b hbq,hu]
      ·exact(h y hy b a (iI.elim (fun g=>.inr ⟨g.2,g.1⟩) fun g=>.inl ⟨g.2,g.1⟩) h0 hbq (.inl fP)).symm
    ·exact h y hy a b iI ha O2 (.inl hau)
   ·exact h y hy a b iI ha O2 (.inr ho)
theorem PB{es:List (Nat×Nat)}(hm:0<=m)(GV:∀x∈es,x.1<n/\x.2<n):∀(r done:List (Nat×Nat)) (s:List Int×List Nat),(∀x∈r,x∈es)->s.1.length=n->s.1.getD u 0=m->(∀v∈s.2,s.1.getD v 0=m)->(EI es s.1 s.2 fun a y=>a≠u\/y∈done)->(∀x∈es,x∈done\/x∈r)->
    (∀v∈(hY u m r s).2,(hY u m r s).1.getD v 0=m)/\EI es (hY u m r s).1 (hY u m r s).2 fun _ _=>True
 | [],done,s,_,hl,hu,hq,h,hd=>⟨hq,fun y hy a b iI ha O2 _=>h y hy a b iI ha O2 (.inr ((hd y hy).resolve_right (by simp)))⟩
 | x::r,done,s,hr,hl,hu,hq,h,hd=>by
  obtain⟨h1,h2,h3⟩:=aB6 hm GV (hr x (List.mem_cons_self ..)) hl hu hq h;exact PB hm GV r (x::done) (dU u m s x) (fun y hy=>hr y (List.mem_cons_of_mem _ hy)) ((Q2 u m s x).trans hl) h1 h2 h3 fun y hy=>by
   rcases hd y hy with g | g
   ·exact .inl (List.mem_cons_of_mem _ g)
   ·rcases List.mem_cons.1 g with rfl | g
    ·exact .inl (List.mem_cons_self ..)
    ·exact .inr g
theorem YN{es:List (Nat×Nat)}(hm:0<=m)(GV:∀x∈es,x.1<n/\x.2<n):∀(f:Nat)(out:List Int)(q:List Nat),Ps n m out q->q.length+uH out<=f->(∀v∈q,out.getD v 0=m)->(EI es out q fun _ _=>True)->EI es (mO m es f out q) [] fun _ _=>True
 | 0,out,q,_,hf,_,h=>by
  have:q=[]:=List.eq_nil_of_length_eq_zero (by omega);subst this;exact h
 | f+1,out,[],_,_,_,h=>h
 | f+1,out,u::q,hp,hf,hq,h=>by
  have h1:Ps n m out q:=⟨hp.len,fun v hv=>hp.lt v (List.mem_cons_of_mem _ hv),hp.bd⟩;have h2:=AJ (u:=u) (s:=(out,q)) hm GV h1;obtain⟨g1,g2⟩:=PB hm GV es [] (out,q) (fun _ h=>h) hp.len (hq u (List.mem_cons_self ..)) (fun v hv=>hq v (List.mem_cons_of_mem _ hv)) (fun y hy a b iI ha O2 kU=>by
   rcases kU with ho | ho
   ·exact h y hy a b iI ha (fun hm=>(List.mem_cons.1 hm).elim ho O2) trivial
   ·cases ho) fun x hx=>.inr hx
  refine YN hm GV f _ _ h2.1 ?_ g1 g2;have:=h2.2;simp only[G4] at hf;simp only at this;omega
def FoI(l:List Int):Prop:=∀b v,0<=v->v<l.getD b 0->∃a,a<b/\l.getD a 0=v
theorem AL{es:List (Nat×Nat)}(GV:∀x∈es,x.1<n/\x.2<n):∀(k i:Nat)(s:List Int×Int),s.1.length=n->i+k=n->(∀x∈s.1,-1<=x/\x<s.2)->0<=s.2->(∀j,j<i->0<=s.1.getD j 0)->(EI es s.1 [] fun _ _=>True)->FoI s.1->(∀v,0<=v->v<s.2->∃a,a<i/\s.1.getD a 0=v)->
    (EI es (FL n es k i s).1 [] fun _ _=>True)/\FoI (FL n es k i s).1
 | 0,i,s,hl,hi,hb,h0,hj,he,hf,hv=>⟨he,hf⟩
 | k+1,i,s,hl,hi,hb,h0,hj,he,hf,hv=>by
  unfold FL;split
  ·rename_i hz
   exact AL GV k (i+1) s hl (by omega) hb h0 (fun j h=>by
    by_cases O0:j=i
    ·subst O0;exact hz
    ·exact hj j (by omega)) he hf fun v g1 g2=>by
     obtain⟨a,ha,e⟩:=hv v g1 g2;exact⟨a,by omega,e⟩
  ·rename_i hz
   have rH:i<s.1.length:=by omega
   have vL:Ps n s.2 (s.1.set i s.2) [i]:=⟨by simp[hl],fun v hv=>(by rw[List.mem_singleton.1 hv];omega),fun x hx=>by
    rcases List.mem_or_eq_of_mem_set hx with hx | rfl
    ·have:=hb x hx;omega
    ·omega⟩
   have h2:=zG h0 GV (n+1) vL;have hch:N_ s.2 s.1 (mO s.2 es (n+1) (s.1.set i s.2) [i]):=(ZD (by omega)).trans h0 (NN h0 es _ _ _);have qN:(mO s.2 es (n+1) (s.1.set i s.2) [i]).getD i 0=s.2:=by
    rcases NN h0 es (n+1) (s.1.set i s.2) [i] i with h | ⟨h,_⟩
    ·rw[h,tT rH,if_pos rfl]
    ·rw[tT rH,if_pos rfl] at h;omega
   have pO:=uG s.1 i s.2 h0 rH (by omega);have hnl:=OR s.1;have hei:=YN h0 GV (n+1) (s.1.set i s.2) [i] vL (by simp only[List.length_singleton];omega) (fun v hv=>by rw[List.mem_singleton.1 hv,tT rH,if_pos rfl]) (fun y hy a b iI ha O2 _=>by
    have hai:a≠i:=fun e=>O2 (by rw[e];simp);rw[tT rH,if_neg hai] at ha;have:=he y hy a b iI ha (by simp) trivial;rw[tT rH,tT (j:=a) rH,if_neg hai]
    by_cases hbi:b=i
    ·subst hbi;omega
    ·rw[if_neg hbi];exact this)
   have pI:∀j,0<=s.1.getD j 0->(mO s.2 es (n+1) (s.1.set i s.2) [i]).getD j 0=s.1.getD j 0:=fun j h=>by
    rcases hch j with g | ⟨g,_⟩
    ·exact g
    ·omega
   refine AL GV k (i+1) _ h2.1 (by omega) (fun x hx=>(by have:=h2.2 x hx;show _/\_<s.2+1;omega)) (by show 0<=s.2+1;omega) (fun j h=>?_) hei (fun b v g1 g2=>?_) fun v g1 g2=>?_
   ·show 0<=(mO s.2 es (n+1) (s.1.set i s.2) [i]).getD j 0
    by_cases O0:j=i
    ·subst O0;rw[qN];exact h0
    ·have:=hj j (by omega)
     rw[pI j this];exact this
   ·show ∃a,a<b/\(mO s.2 es (n+1) (s.1.set i s.2) [i]).getD a 0=v
    have g2':v<(mO s.2 es (n+1) (s.1.set i s.2) [i]).getD b 0:=g2;rcases hch b with g | ⟨g,g'⟩
    ·rw[g] at g2'
     obtain⟨a,ha,e⟩:=hf b v g1 g2';exact⟨a,ha,by rw[pI a (by omega),e]⟩
    ·rw[g'] at g2'
     obtain⟨a,ha,e⟩:=hv v g1 g2';refine⟨a,?_,by rw[pI a (by omega),e]⟩;refine jJ ha (Nat.le_of_not_lt fun aR=>?_);have:=hj b aR;omega
   ·show ∃a,a<i+1/\(mO s.2 es (n+1) (s.1.set i s.2) [i]).getD a 0=v
    have g2':v<s.2+1:=g2;by_cases hvs:v=s.2
    ·exact⟨i,by omega,by rw[qN,hvs]⟩
    ·obtain⟨a,ha,e⟩:=hv v g1 (by omega)
     exact⟨a,by omega,by rw[pI a (by omega),e]⟩
theorem aBe(n j:Nat):(List.replicate n (-1:Int)).getD j 0<=0:=by
 rw[dQ,List.getElem?_replicate];split<;>simp
theorem U_(h:j<n):(List.replicate n (-1:Int)).getD j 0=-1:=by
 rw[dQ,List.getElem?_replicate,if_pos h];rfl
theorem MB{es:List (Nat×Nat)}(GV:∀x∈es,x.1<n/\x.2<n):(∀x∈es,(eQ n es).getD x.1 0=(eQ n es).getD x.2 0)/\FoI (eQ n es):=by
 obtain⟨h1,h2⟩:=AL GV n 0 (List.replicate n (-1),0) (by simp) (by omega) (fun x hx=>(by rw[List.eq_of_mem_replicate hx];exact⟨by omega,show(-1:Int)<0 by omega⟩)) (by show(0:Int)<=0;omega) (fun j h=>by omega) (fun x hx a b iI ha _ _=>by
  have D_:=GV x hx;have DB:a<n:=by rcases iI with⟨h1,_⟩ | ⟨h1,_⟩<;>omega
  have F1:0<=(List.replicate n (-1:Int)).getD a 0:=ha;rw[U_ DB] at F1;omega) (fun b v g1 g2=>by
  have g2':v<(List.replicate n (-1:Int)).getD b 0:=g2;have:=aBe n b;omega) (fun v g1 g2=>by
  have g2':v<(0:Int):=g2;omega)
 refine⟨fun x hx=>?_,h2⟩;have D_:=GV x hx;have hp:=l9 GV;refine(h1 x hx x.1 x.2 (.inl ⟨rfl,rfl⟩) ?_ (by simp) trivial).symm;have:x.1<(eQ n es).length:=by rw[hp.1];exact D_.1
 show 0<=(eQ n es).getD x.1 0;rw[dQ,jP this];exact(hp.2 _ (List.getElem_mem this)).1
end
section
namespace Ls
variable {W : World} {a : Fn} {j k n u : Nat} {m : Int} {nodes : List ByteArray}
variable {L:Ls}
theorem SolK.symm{u v:Fn}(hu:L.SolK k u)(hv:L.SolK j v):a_ L.n (L.R j) u=a_ L.n (L.R k) v:=by
 rw[hu.dot v,hv.dot u];exact aO fun i _=>by grind
end Ls
end
section
open Go.ChangeShapes Go.WideShapes Go.ChangeAt Go.RowKit
theorem AQ{seen:List ByteArray}{s:ByteArray}(h:¬(seen.any (fun x=>k_ s x)=true)):s∉seen:=fun hm=>h (List.any_eq_true.2 ⟨s,hm,iY.2 rfl⟩)
theorem lG{α:Type}{f:List ByteArray->α->Int}{nm:α->ByteArray}(hf:∀seen x,f seen x=0->nm x∉seen):∀(l:List α)(seen:List ByteArray),(aV f nm seen l).1=0->(aV f nm seen l).2=(l.map nm).reverse++seen/\(seen.Nodup->(aV f nm seen l).2.Nodup)
 | [],seen,_=>⟨rfl,fun h=>h⟩
 | x::l,seen,h=>by
  unfold aV at h ⊢;by_cases h0:f seen x=0
  ·rw[if_neg (by simp[h0])] at h ⊢
   obtain⟨h1,h2⟩:=lG hf l (nm x::seen) h;exact⟨by rw[h1];simp,fun hn=>h2 (List.nodup_cons.2 ⟨hf seen x h0,hn⟩)⟩
  ·rw[if_pos h0] at h;exact absurd h h0
theorem NF(seen:List ByteArray)(x:ByteArray)(h:mY nodes seen x=0):id x∉seen:=AQ (lF h).2.2.2
theorem YG(seen:List ByteArray)(x:Sw)(h:O8 nodes seen x=0):x.name∉seen:=by
 unfold O8 at h;split at h
 ·rename_i h0;exact absurd h h0
 ·rename_i h0;exact AQ (lF (Decidable.not_not.1 h0)).2.2.2
theorem YH(seen:List ByteArray)(x:Br)(h:JS nodes seen x=0):x.name∉seen:=by
 unfold JS at h;split at h
 ·rename_i h0;exact absurd h h0
 ·rename_i h0;exact AQ (lF (Decidable.not_not.1 h0)).2.2.2
theorem wQ{l:List ByteArray}(h:l.reverse.Nodup):l.Nodup:=(List.Perm.nodup_iff (List.reverse_perm l)).1 h
theorem I0{x:bP}(h:d8 x=0):((x.brs.map Br.name).reverse++((x.sws.map Sw.name).reverse++(x.nodes.reverse++[]))).Nodup:=by
 unfold d8 at h;split at h
 ·omega
 ·unfold ck0 at h
  split at h
  ·rename_i h0;exact absurd h h0
  ·rename_i h0
   obtain⟨a1,a2⟩:=lG (NF (nodes:=x.nodes)) x.nodes [] (Decidable.not_not.1 h0);unfold ck1 at h;split at h
   ·rename_i h0;exact absurd h h0
   ·rename_i h1
    obtain⟨b1,b2⟩:=lG (YG (nodes:=x.nodes)) x.sws _ (Decidable.not_not.1 h1);unfold ck2 at h;split at h
    ·rename_i h0;exact absurd h h0
    ·rename_i h2
     obtain⟨c1,c2⟩:=lG (YH (nodes:=x.nodes)) x.brs _ (Decidable.not_not.1 h2);have h3:=c2 (b2 (a2 .nil));rw[c1,b1,a1,List.map_id] at h3;exact h3
structure aI8 (x:bP):Prop where
 sws:(x.sws.map Sw.name).Nodup
 brs:(x.brs.map Br.name).Nodup
 sb:∀s∈x.sws,∀b∈x.brs,s.name≠b.name
 sn:∀s∈x.sws,s.name∉x.nodes
 nd:x.nodes.Nodup
theorem WC{x:bP}(h:d8 x=0):aI8 x:=by
 have h1:=I0 h;rw[List.nodup_append] at h1;obtain⟨h2,h3,h4⟩:=h1;rw[List.nodup_append] at h3;obtain⟨h5,h6,h7⟩:=h3;refine⟨wQ h5,wQ h2,fun s hs b hb e=>?_,fun s hs hn=>?_,wQ (by rw[List.append_nil] at h6;exact h6)⟩
 ·exact h4 b.name (by simp;exact⟨b,hb,rfl⟩) s.name (List.mem_append_left _ (by simp;exact⟨s,hs,rfl⟩)) e.symm
 ·exact h7 s.name (by simp;exact⟨s,hs,rfl⟩) s.name (by simpa using hn) rfl
theorem D7{P:Program}{x:String×DataW Unit}{rest:List (String×DataW Unit)}(h:laidMet P (x::rest) W):laidMet P rest W:=by
 obtain⟨ps,⟨g,t,cs,fuel,p,q,_,_,_,_,hr,vL⟩,hn,hz⟩:=h;subst vL;exact⟨q,hr,(List.nodup_append.1 hn).2.1,fun b off hp=>hz b off (List.mem_append_right _ hp)⟩
theorem aD1 {x y : String × DataW Unit} {rest : List (String × DataW Unit)} (h : laidMet Tryz.prog (x :: y :: ("internal/strconv.uint64pow10", Lib.tabData .u64 Lib.pow10Tab) :: rest) W) : eY W :=
 Lib.tabIs_of_head (t := 254) (n := 20) (show Tryz.prog.globalNamed "internal/strconv.uint64pow10" = some 0 by kernel_rfl) (by kernel_rfl) (by kernel_rfl) Tryz.underlying184 (by kernel_rfl) (by kernel_rfl) (D7 (D7 h))
noncomputable def AX (os:Os):World:=World.laidAll Tryz.prog os Rows.faultStrongerRow.laid
theorem yG(os:Os)(args:Array Value):laidMet Tryz.prog Rows.faultStrongerRow.laid ((AX os).forCall (fun _ _=>0) ⟨#[],args,[]⟩).memory:=
 laidMet_laidAll args (by kernel_rfl) (by kernel_rfl)
theorem WS(os:Os)(args:Array Value):laidMetH Tryz.prog Rows.faultStrongerRow.laid ((AX os).forCall (fun _ _=>0) ⟨#[],args,[]⟩).memory:=
 yG os args
theorem aAq(h:laidMetH Tryz.prog Rows.faultStrongerRow.laid W):eY W:=aD1 h
end
section
open Go.ChangeShapes Go.WideShapes Go.ChangeAt Go.RowKit Go.Joins Go.Deep
section
variable {H:Type} {enc:TypeId×Value->H} {w:Wo} {sp:Nat->Bool}
theorem ME{fuel:Nat}{cs:List Value}{x:DataW H×List MemPlace}(h:DataW.trod enc Tryz.prog w 0 sp true fuel 47 cs=some x):∃(A:OA)(n c:Nat)(zs:List Int),cs=[.slice A n c]/\n<=c/\c<=maxLen/\(∀z∈zs,(Lit.int .i64 z).wf=true)/\oA w w.heap.size A n zs:=by
 obtain⟨A,n,c,xs,h1,h2,h3,_,hq,h4⟩:=jX (fun z:Int=>[.int .i64 z]) 1 (fun z=>(Lit.int .i64 z).wf=true) Tryz.underlying47 (by kernel_rfl) (by omega) (fun _=>rfl) (fun fu cs' y hy=>dV Tryz.underlying3 hy) h;exact⟨A,n,c,xs,h1,h2,h3,hq,by unfold oA bK;rw[List.map_eq_flatMap];exact h4⟩
theorem aAp{v:Value}{d:DataW H}{p:List MemPlace}(hv:∃A n c,v=.slice A n c)(h:DataW.Trod enc Tryz.prog w 0 sp true 47 v d p):∃(A:OA)(n c:Nat)(zs:List Int),v=.slice A n c/\n<=c/\c<=maxLen/\(∀z∈zs,(Lit.int .i64 z).wf=true)/\oA w w.heap.size A n zs:=by
 obtain⟨A,n,c,rfl⟩:=hv;obtain⟨fuel,hf⟩:=h;obtain⟨A',n',c',zs,h1,h2,h3,h4,h5⟩:=ME hf;simp[Value.cells] at h1;obtain⟨rfl,rfl,rfl⟩:=h1;exact⟨_,_,_,zs,rfl,h2,h3,h4,h5⟩
end
end
section
open Go.ChangeShapes Go.WideShapes Go.ChangeAt Go.RowKit Go.Joins
theorem aKy:laidOutB Tryz.prog=true:=by kernel_rfl
theorem aKx:mapsRowed Tryz.prog=true:=by kernel_rfl
theorem aHo:(Tryz.prog.stops == [])=true:=by kernel_rfl
theorem aHq:(Tryz.prog.stopKnobs == [])=true:=by kernel_rfl
theorem aKz:(Rows.faultStrongerRow.plainKeys == Tryz.prog.plainKeys)=true:=by kernel_rfl
theorem aHr:Tryz.prog.stopsHeard=true:=by kernel_rfl
theorem aHs:Tryz.prog.mayEnter=true:=by kernel_rfl
theorem aHp:(Rows.faultStrongerRow.lifted == Tryz.prog.liftsFinal)=true:=by kernel_rfl
end
