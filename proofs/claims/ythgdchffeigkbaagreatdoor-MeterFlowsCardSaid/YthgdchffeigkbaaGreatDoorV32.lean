import Derived.Test.YthgdchffeigkbaaGreatDoorV26
set_option linter.unusedVariables false
set_option linter.unusedSimpArgs false
namespace Go.Proofs.YthgdchffeigkbaaGreatDoor
set_option maxHeartbeats 8000000
set_option maxRecDepth 100000
variable {A : List (List Rat)} {K Z f i j n r u v : Nat} {al l lf qs : List Rat} {b : Br} {free : List Nat} {m : Int} {ps : List Int} {w : World} {x : bO}
section
open Go.ChangeShapes Go.WideShapes Go.ChangeAt Go.RowKit Go.Joins Go.Deep
section
variable {H:Type} {enc:TypeId×Value->H} {w:Wo} {sp:Nat->Bool}
theorem WK{fuel:Nat}{cs:List Value}{x:DataW H×List MemPlace}(h:DataW.trod enc Tryz.prog w 0 sp true fuel 30 cs=some x):∃(A:OA)(n c:Nat)(zs:List Int),cs=[.slice A n c]/\n<=c/\c<=maxLen/\(∀z∈zs,(Lit.int .i64 z).wf=true)/\o_ w w.heap.size A n zs:=by
 obtain⟨A,n,c,xs,h1,h2,h3,_,hq,h4⟩:=kZ (fun z:Int=>[.int .i64 z]) 1 (fun z=>(Lit.int .i64 z).wf=true) Tryz.underlying30 (by kernel_rfl) (by omega) (fun _=>rfl) (fun fu cs' y hy=>eI Tryz.underlying3 hy) h;exact⟨A,n,c,xs,h1,h2,h3,hq,by unfold o_ ints;rw[List.map_eq_flatMap];exact h4⟩
theorem aH3{v:Value}{d:DataW H}{p:List MemPlace}(hv:∃A n c,v=.slice A n c)(h:DataW.Trod enc Tryz.prog w 0 sp true 30 v d p):∃(A:OA)(n c:Nat)(zs:List Int),v=.slice A n c/\n<=c/\c<=maxLen/\(∀z∈zs,(Lit.int .i64 z).wf=true)/\o_ w w.heap.size A n zs:=by
 obtain⟨A,n,c,rfl⟩:=hv;obtain⟨fuel,hf⟩:=h;obtain⟨A',n',c',zs,h1,h2,h3,h4,h5⟩:=WK hf;simp[Value.cells] at h1;obtain⟨rfl,rfl,rfl⟩:=h1;exact⟨_,_,_,zs,rfl,h2,h3,h4,h5⟩
end
end
section
open Go
theorem aBL(u:Nat)(m:Int)(s:List Int×List Nat)(x:Nat×Nat):(fG u m s x).1.length=s.1.length:=by
 unfold fG;split<;>simp
end
section
theorem ZI{a b:Nat}(ha:a<n)(hb:b<n)(X:Nat->Rat):aN n (fun k=>two a b k*X k)=X a-X b:=by
 have e:∀k,k<n->two a b k*X k=(if k=a then X a else 0)+(if k=b then -(X b) else 0):=fun k _=>by
  unfold two;by_cases h1:k=a<;>by_cases h2:k=b
  ·subst h1;subst h2;simp;grind
  ·subst h1;simp[h2];grind
  ·subst h2;simp[h1];grind
  ·simp[h1,h2];grind
 rw[aL e,cK,dQ (k:=a) ha (fun i _ h=>if_neg h),dQ (k:=b) hb (fun i _ h=>if_neg h),if_pos rfl,if_pos rfl];grind
end
section
open Go.ChangeShapes Go.WideShapes Go.ChangeAt Go.RowKit
attribute [local go_sem ↓] aE
attribute [local go_sem] aJ aI aM aR
theorem AP{b:Rat}(h:fM free.length K A)(hb:bI b<=1):fM free.length (K+8) (g_ free A b u v):=by
 unfold g_;split
 ·exact h.mono (by omega)
 ·cases h1:EC free u with
  | none=>
   cases h2:EC free v with
   | none=>exact h.mono (by omega)
   | some j=>exact(h.add (eP h2).1 (eP h2).1 hb).mono (by omega)
  | some i=>
   cases h2:EC free v with
   | none=>exact(h.add (eP h1).1 (eP h1).1 hb).mono (by omega)
   | some j=>
    have a1:=h.add (eP h1).1 (eP h1).1 hb;have a2:=a1.add (eP h2).1 (eP h2).1 hb;have a3:=a2.add (eP h1).1 (eP h2).1 (q:=-b) (by rw[m9];exact hb);exact(a3.add (eP h2).1 (eP h1).1 (q:=-b) (by rw[m9];exact hb)).mono (by omega)
end
section
open Go.ChangeShapes Go.WideShapes Go.ChangeAt Go.RowKit
theorem MV:∀{ms:List Mi},(∀m∈ms,CB x m=0)->u_ x ms=0
 | [],_=>rfl
 | a::r,h=>by
  unfold u_;rw[if_pos (h a List.mem_cons_self)];exact MV fun m hm=>h m (List.mem_cons_of_mem _ hm)
theorem SB{ms:List Mi}(hn:b_ x=0)(hl:ms.length<=64)(h:∀m∈ms,CB x m=0):dJ x ms=0:=by
 unfold dJ;rw[if_neg (by omega),if_neg (by omega)];exact MV h
end
section
open Go
theorem BK{l:List Int}(hi:i<l.length):(l.set i m).getD j 0=if j=i then m else l.getD j 0:=by
 rw[dN,List.getElem?_set];by_cases h:i=j
 ·subst h;rw[if_pos rfl,if_pos hi,if_pos rfl];rfl
 ·rw[if_neg h,if_neg (fun e=>h e.symm),dN]
theorem aG4{a:List Int}(h:a.getD i 0<0):Ch m a (a.set i m):=fun j=>by
 have hi:i<a.length:=by
  refine Nat.lt_of_not_le fun hn=>?_;rw[dN,List.getElem?_eq_none hn] at h;simp at h
 rw[BK hi];by_cases hj:j=i
 ·subst hj;rw[if_pos rfl];exact .inr ⟨h,rfl⟩
 ·rw[if_neg hj];exact .inl rfl
theorem aKl(s:List Int×List Nat)(x:Nat×Nat):Ch m s.1 (fG u m s x).1:=by
 unfold fG;split
 ·rename_i h;exact aG4 h.2
 ·exact Ch.refl _ _
theorem aAK(hm:0<=m):∀(es:List (Nat×Nat)) (s:List Int×List Nat),Ch m s.1 (lJ u m es s).1
 | [],s=>Ch.refl _ _
 | x::r,s=>(aKl s x).trans hm (aAK hm r (fG u m s x))
theorem X_(hm:0<=m)(es:List (Nat×Nat)):∀(f:Nat)(out:List Int)(q:List Nat),Ch m out (rH m es f out q)
 | 0,out,q=>Ch.refl _ _
 | f+1,out,[]=>Ch.refl _ _
 | f+1,out,u::q=>(aAK hm es (out,q)).trans hm (X_ hm es f _ _)
def a1d(x:Nat×Nat)(a b:Nat):Prop:=(a=x.1/\b=x.2)\/(a=x.2/\b=x.1)
def EI(es:List (Nat×Nat))(out:List Int)(q:List Nat)(ok:Nat->Nat×Nat->Prop):Prop:=∀x∈es,∀a b,a1d x a b->0<=out.getD a 0->a∉q->ok a x->out.getD b 0=out.getD a 0
theorem aKb{es:List (Nat×Nat)}(hm:0<=m)(QW:∀x∈es,x.1<n/\x.2<n){done:List (Nat×Nat)}{s:List Int×List Nat}{x:Nat×Nat}(hx:x∈es)(hl:s.1.length=n)(hu:s.1.getD u 0=m)(hq:∀v∈s.2,s.1.getD v 0=m)(h:EI es s.1 s.2 fun a y=>a≠u\/y∈done):(fG u m s x).1.getD u 0=m/\(∀v∈(fG u m s x).2,(fG u m s x).1.getD v 0=m)/\EI es (fG u m s x).1 (fG u m s x).2 fun a y=>a≠u\/y∈x::done:=by
 have M4:=QW x hx;by_cases hc:(x.1=u\/x.2=u)/\s.1.getD (x.1+x.2-u) 0<0
 ·have e:fG u m s x=(s.1.set (x.1+x.2-u) m,s.2++[x.1+x.2-u]):=by unfold fG;rw[if_pos hc]
  rw[e];have hto:x.1+x.2-u<s.1.length:=by rw[hl];omega
  have bX:x.1+x.2-u≠u:=fun e=>by rw[e,hu] at hc;omega
  obtain⟨hc1,hc2⟩:=hc;generalize a45:x.1+x.2-u=tw at *;dsimp only;refine⟨by rw[BK hto,if_neg (fun e=>bX e.symm)];exact hu,fun v hv=>?_,fun y hy a b jA ha haq pY=>?_⟩
  ·rw[BK hto]
   rcases List.mem_append.1 hv with hv | hv
   ·split
    ·rfl
    ·exact hq v hv
   ·rw[List.mem_singleton.1 hv,if_pos rfl]
  ·have xB:a≠tw:=fun e=>haq (List.mem_append_right _ (by rw[e];simp))
   have aYU:a∉s.2:=fun hm=>haq (List.mem_append_left _ hm);rw[BK hto,if_neg xB] at ha;rw[BK hto,BK (j:=a) hto,if_neg xB];have old:(a≠u\/y∈done)->(if b=tw then m else s.1.getD b 0)=s.1.getD a 0:=fun ho=>by
    have:=h y hy a b jA ha aYU ho;by_cases hb:b=tw
    ·subst hb;omega
    ·rw[if_neg hb];exact this
   rcases pY with ho | ho
   ·exact old (.inl ho)
   ·rcases List.mem_cons.1 ho with rfl | ho
    ·by_cases hau:a=u
     ·subst hau
      have hb:b=tw:=by rcases jA with⟨h1,h2⟩ | ⟨h1,h2⟩<;>omega
      rw[if_pos hb,hu]
     ·exact old (.inl hau)
    ·exact old (.inr ho)
 ·have e:fG u m s x=s:=by unfold fG;rw[if_neg hc]
  rw[e];refine⟨hu,hq,fun y hy a b jA ha haq pY=>?_⟩;rcases pY with ho | ho
  ·exact h y hy a b jA ha haq (.inl ho)
  ·rcases List.mem_cons.1 ho with rfl | ho
   ·by_cases hau:a=u
    ·subst hau
     have ht:y.1=a\/y.2=a:=by rcases jA with⟨h1,_⟩ | ⟨h1,_⟩<;>omega
     have hb:b=y.1+y.2-a:=by rcases jA with⟨h1,h2⟩ | ⟨h1,h2⟩<;>omega
     have h0:0<=s.1.getD b 0:=by rw[hb];exact Int.not_lt.1 fun hn=>hc ⟨ht,hn⟩
     by_cases pI:b=a
     ·rw[pI]
     ·by_cases UZ:b∈s.2
      ·rw[hq b UZ,hu]
      ·exact(h y hy b a (jA.elim (fun g=>.inr ⟨g.2,g.1⟩) fun g=>.inl ⟨g.2,g.1⟩) h0 UZ (.inl pI)).symm
    ·exact h y hy a b jA ha haq (.inl hau)
   ·exact h y hy a b jA ha haq (.inr ho)
theorem aAB{es:List (Nat×Nat)}(hm:0<=m)(QW:∀x∈es,x.1<n/\x.2<n):∀(r done:List (Nat×Nat)) (s:List Int×List Nat),(∀x∈r,x∈es)->s.1.length=n->s.1.getD u 0=m->(∀v∈s.2,s.1.getD v 0=m)->(EI es s.1 s.2 fun a y=>a≠u\/y∈done)->(∀x∈es,x∈done\/x∈r)->
    (∀v∈(lJ u m r s).2,(lJ u m r s).1.getD v 0=m)/\EI es (lJ u m r s).1 (lJ u m r s).2 fun _ _=>True
 | [],done,s,_,hl,hu,hq,h,hd=>⟨hq,fun y hy a b jA ha haq _=>h y hy a b jA ha haq (.inr ((hd y hy).resolve_right (by simp)))⟩
 | x::r,done,s,hr,hl,hu,hq,h,hd=>by
  obtain⟨h1,h2,h3⟩:=aKb hm QW (hr x (List.mem_cons_self ..)) hl hu hq h;exact aAB hm QW r (x::done) (fG u m s x) (fun y hy=>hr y (List.mem_cons_of_mem _ hy)) ((aBL u m s x).trans hl) h1 h2 h3 fun y hy=>by
   rcases hd y hy with g | g
   ·exact .inl (List.mem_cons_of_mem _ g)
   ·rcases List.mem_cons.1 g with rfl | g
    ·exact .inl (List.mem_cons_self ..)
    ·exact .inr g
theorem aGB{es:List (Nat×Nat)}(hm:0<=m)(QW:∀x∈es,x.1<n/\x.2<n):∀(f:Nat)(out:List Int)(q:List Nat),Ps n m out q->q.length+B8 out<=f->(∀v∈q,out.getD v 0=m)->(EI es out q fun _ _=>True)->EI es (rH m es f out q) [] fun _ _=>True
 | 0,out,q,_,hf,_,h=>by
  have:q=[]:=List.eq_nil_of_length_eq_zero (by omega);subst this;exact h
 | f+1,out,[],_,_,_,h=>h
 | f+1,out,u::q,hp,hf,hq,h=>by
  have h1:Ps n m out q:=⟨hp.len,fun v hv=>hp.lt v (List.mem_cons_of_mem _ hv),hp.bd⟩;have h2:=JD (u:=u) (s:=(out,q)) hm QW h1;obtain⟨g1,g2⟩:=aAB hm QW es [] (out,q) (fun _ h=>h) hp.len (hq u (List.mem_cons_self ..)) (fun v hv=>hq v (List.mem_cons_of_mem _ hv)) (fun y hy a b jA ha haq pY=>by
   rcases pY with ho | ho
   ·exact h y hy a b jA ha (fun hm=>(List.mem_cons.1 hm).elim ho haq) trivial
   ·cases ho) fun x hx=>.inr hx
  refine aGB hm QW f _ _ h2.1 ?_ g1 g2;have:=h2.2;simp only[GS] at hf;simp only at this;omega
def FoI(l:List Int):Prop:=∀b v,0<=v->v<l.getD b 0->∃a,a<b/\l.getD a 0=v
theorem JF{es:List (Nat×Nat)}(QW:∀x∈es,x.1<n/\x.2<n):∀(k i:Nat)(s:List Int×Int),s.1.length=n->i+k=n->(∀x∈s.1,-1<=x/\x<s.2)->0<=s.2->(∀j,j<i->0<=s.1.getD j 0)->(EI es s.1 [] fun _ _=>True)->FoI s.1->(∀v,0<=v->v<s.2->∃a,a<i/\s.1.getD a 0=v)->
    (EI es (OO n es k i s).1 [] fun _ _=>True)/\FoI (OO n es k i s).1
 | 0,i,s,hl,hi,hb,h0,hj,he,hf,hv=>⟨he,hf⟩
 | k+1,i,s,hl,hi,hb,h0,hj,he,hf,hv=>by
  unfold OO;split
  ·rename_i hz
   exact JF QW k (i+1) s hl (by omega) hb h0 (fun j h=>by
    by_cases hji:j=i
    ·subst hji;exact hz
    ·exact hj j (by omega)) he hf fun v g1 g2=>by
     obtain⟨a,ha,e⟩:=hv v g1 g2;exact⟨a,by omega,e⟩
  ·rename_i hz
   have kT:i<s.1.length:=by omega
   have DF:Ps n s.2 (s.1.set i s.2) [i]:=⟨by simp[hl],fun v hv=>(by rw[List.mem_singleton.1 hv];omega),fun x hx=>by
    rcases List.mem_or_eq_of_mem_set hx with hx | rfl
    ·have:=hb x hx;omega
    ·omega⟩
   have h2:=G7 h0 QW (n+1) DF;have hch:Ch s.2 s.1 (rH s.2 es (n+1) (s.1.set i s.2) [i]):=(aG4 (by omega)).trans h0 (X_ h0 es _ _ _);have xB:(rH s.2 es (n+1) (s.1.set i s.2) [i]).getD i 0=s.2:=by
    rcases X_ h0 es (n+1) (s.1.set i s.2) [i] i with h | ⟨h,_⟩
    ·rw[h,BK kT,if_pos rfl]
    ·rw[BK kT,if_pos rfl] at h;omega
   have vS:=B7 s.1 i s.2 h0 kT (by omega);have hnl:=Z4 s.1;have hei:=aGB h0 QW (n+1) (s.1.set i s.2) [i] DF (by simp only[List.length_singleton];omega) (fun v hv=>by rw[List.mem_singleton.1 hv,BK kT,if_pos rfl]) (fun y hy a b jA ha haq _=>by
    have hai:a≠i:=fun e=>haq (by rw[e];simp);rw[BK kT,if_neg hai] at ha;have:=he y hy a b jA ha (by simp) trivial;rw[BK kT,BK (j:=a) kT,if_neg hai]
    by_cases QY:b=i
    ·subst QY;omega
    ·rw[if_neg QY];exact this)
   have vJ:∀j,0<=s.1.getD j 0->(rH s.2 es (n+1) (s.1.set i s.2) [i]).getD j 0=s.1.getD j 0:=fun j h=>by
    rcases hch j with g | ⟨g,_⟩
    ·exact g
    ·omega
   refine JF QW k (i+1) _ h2.1 (by omega) (fun x hx=>(by have:=h2.2 x hx;show _/\_<s.2+1;omega)) (by show 0<=s.2+1;omega) (fun j h=>?_) hei (fun b v g1 g2=>?_) fun v g1 g2=>?_
   ·show 0<=(rH s.2 es (n+1) (s.1.set i s.2) [i]).getD j 0
    by_cases hji:j=i
    ·subst hji;rw[xB];exact h0
    ·have:=hj j (by omega)
     rw[vJ j this];exact this
   ·show ∃a,a<b/\(rH s.2 es (n+1) (s.1.set i s.2) [i]).getD a 0=v
    have g2':v<(rH s.2 es (n+1) (s.1.set i s.2) [i]).getD b 0:=g2;rcases hch b with g | ⟨g,g'⟩
    ·rw[g] at g2'
     obtain⟨a,ha,e⟩:=hf b v g1 g2';exact⟨a,ha,by rw[vJ a (by omega),e]⟩
    ·rw[g'] at g2'
     obtain⟨a,ha,e⟩:=hv v g1 g2';refine⟨a,?_,by rw[vJ a (by omega),e]⟩;refine jE ha (Nat.le_of_not_lt fun aU=>?_);have:=hj b aU;omega
   ·show ∃a,a<i+1/\(rH s.2 es (n+1) (s.1.set i s.2) [i]).getD a 0=v
    have g2':v<s.2+1:=g2;by_cases hvs:v=s.2
    ·exact⟨i,by omega,by rw[xB,hvs]⟩
    ·obtain⟨a,ha,e⟩:=hv v g1 (by omega)
     exact⟨a,by omega,by rw[vJ a (by omega),e]⟩
theorem aI1(n j:Nat):(List.replicate n (-1:Int)).getD j 0<=0:=by
 rw[dN,List.getElem?_replicate];split<;>simp
theorem aEu(h:j<n):(List.replicate n (-1:Int)).getD j 0=-1:=by
 rw[dN,List.getElem?_replicate,if_pos h];rfl
theorem V_{es:List (Nat×Nat)}(QW:∀x∈es,x.1<n/\x.2<n):(∀x∈es,(gR n es).getD x.1 0=(gR n es).getD x.2 0)/\FoI (gR n es):=by
 obtain⟨h1,h2⟩:=JF QW n 0 (List.replicate n (-1),0) (by simp) (by omega) (fun x hx=>(by rw[List.eq_of_mem_replicate hx];exact⟨by omega,show(-1:Int)<0 by omega⟩)) (by show(0:Int)<=0;omega) (fun j h=>by omega) (fun x hx a b jA ha _ _=>by
  have M4:=QW x hx;have A_:a<n:=by rcases jA with⟨h1,_⟩ | ⟨h1,_⟩<;>omega
  have PG:0<=(List.replicate n (-1:Int)).getD a 0:=ha;rw[aEu A_] at PG;omega) (fun b v g1 g2=>by
  have g2':v<(List.replicate n (-1:Int)).getD b 0:=g2;have:=aI1 n b;omega) (fun v g1 g2=>by
  have g2':v<(0:Int):=g2;omega)
 refine⟨fun x hx=>?_,h2⟩;have M4:=QW x hx;have hp:=qL QW;refine(h1 x hx x.1 x.2 (.inl ⟨rfl,rfl⟩) ?_ (by simp) trivial).symm;have:x.1<(gR n es).length:=by rw[hp.1];exact M4.1
 show 0<=(gR n es).getD x.1 0;rw[dN,iB this];exact(hp.2 _ (List.getElem_mem this)).1
end
section
open Go.ChangeShapes Go.WideShapes Go.ChangeAt Go.RowKit
theorem aNC(ok:bJ x)(a b:Nat):((qR x).getD a 0=(qR x).getD b 0)<->(eJ x).getD a 0=(eJ x).getD b 0:=by
 rw[<-(wU ok).1];have key:∀(l:List Nat)(i:Nat),(d9 l).getD i 0=((l.getD i 0:Nat):Int):=fun l i=>by
  unfold d9;rw[dN,dN,iY];cases l[i]?<;>rfl
 rw[key,key];omega
theorem T0{nodes:List ByteArray}:∀(l seen:List ByteArray),(bF (tI nodes) id seen l).1=0->l.Nodup/\∀a∈l,a∉seen
 | [],seen,_=>⟨List.nodup_nil,fun a h=>by cases h⟩
 | y::r,seen,h=>by
  unfold bF at h;split at h
  ·rename_i h0;exact absurd h h0
  ·rename_i h0
   have hd:=(uQ (Decidable.not_not.1 h0)).2.2.2;have hy:y∉seen:=fun hm=>hd (List.any_eq_true.2 ⟨y,hm,pM.2 rfl⟩);obtain⟨h1,h2⟩:=T0 r (y::seen) h;refine⟨List.nodup_cons.2 ⟨fun hm=>h2 y hm List.mem_cons_self,h1⟩,fun a ha=>?_⟩;rcases List.mem_cons.1 ha with e | e
   ·rw[e];exact hy
   ·exact fun hm=>h2 a e (List.mem_cons_of_mem _ hm)
theorem R9(h:b_ x=0):x.nodes.Nodup:=by
 unfold b_ at h;split at h
 ·omega
 ·unfold ck0 at h
  split at h
  ·rename_i h0;exact absurd h h0
  ·rename_i h0
   exact(T0 _ _ (Decidable.not_not.1 h0)).1
theorem aE5{nodes:List ByteArray}(hn:nodes.Nodup){s:ByteArray}(h:nodes[i]?=some s):dE nodes s=i:=by
 rcases uE (fun y=>pH s y) nodes 0 with⟨_,h2⟩ | ⟨j,y,h1,h2,h3,_⟩
 ·exact absurd rfl (t8.1 (h2 s (bV h)))
 ·have hy:y=s:=(pM.1 h3).symm
  subst hy;have e:=(List.getElem?_inj (dH.1 h2).1 hn).1 (h2.trans h.symm);unfold dE;rw[h1];simp;omega
def rX(x:bO)(al:List Rat)(b:Br):Rat:=cP b*(vf al (aD x b.fr)-vf al (aD x b.to))+eS b
def EQ(x:bO)(al:List Rat)(bus:Nat):List Br->Rat
 | []=>0
 | b::r=>((if aD x b.fr=bus then rX x al b else 0)+-(if aD x b.to=bus then rX x al b else 0))+EQ x al bus r
def yT(al:List Rat)(s:List Rat×Rat):Rat:=jJ s.1 al+s.2
theorem IT{q:List Rat}{z b c:Rat}(h1:q.length=n)(h2:al.length=n)(hu:u<n)(hv:v<n):yT al (lP b u v q,z+c)=yT al (q,z)+(b*(vf al u-vf al v)+c):=by
 unfold yT;simp only;rw[qX (n:=n) (by rw[gG];exact h1) h2,qX h1 h2,aL (g:=fun i=>vf q i*vf al i+b*(two u v i*vf al i)) (fun i _=>by rw[IJ (by omega) (by omega)];grind),cK,bL,ZI hu hv];grind
theorem SM(ok:bJ x)(h2:al.length=aH x)(hb:b∈x.brs){bus:Nat}{s:List Rat×Rat}(h1:s.1.length=aH x):(i_ bus (aD x b.fr) (aD x b.to) (cP b) (eS b) s).1.length=aH x/\yT al (i_ bus (aD x b.fr) (aD x b.to) (cP b) (eS b) s)=yT al s+((if aD x b.fr=bus then rX x al b else 0)+-(if aD x b.to=bus then rX x al b else 0)):=by
 have hu:=(bG ok (ok.br b hb).1).2.1;have hv:=(bG ok (ok.br b hb).2.1).2.1;have e1:yT al (lP (sg false (cP b)) (aD x b.fr) (aD x b.to) s.1,s.2+sg false (eS b))=yT al s+rX x al b:=IT h1 h2 hu hv;have step:∀{s:List Rat×Rat},s.1.length=aH x->yT al (lP (sg true (cP b)) (aD x b.fr) (aD x b.to) s.1,s.2+sg true (eS b))=yT al s+-(rX x al b):=fun{s} hs=>by
  have:=IT (z:=s.2) (b:=sg true (cP b)) (c:=sg true (eS b)) hs h2 hu hv;rw[this];unfold rX sg yT;simp only[if_true];grind
 unfold i_;dsimp only;by_cases c1:aD x b.fr=bus
 ·by_cases c2:aD x b.to=bus
  ·rw[if_pos c1,if_pos c1,if_pos c2,if_pos c2]
   refine⟨by rw[gG,gG];exact h1,?_⟩;rw[step (by rw[gG];exact h1),e1,Rat.add_assoc]
  ·rw[if_pos c1,if_pos c1,if_neg c2,if_neg c2]
   refine⟨by rw[gG];exact h1,?_⟩;rw[e1];grind
 ·by_cases c2:aD x b.to=bus
  ·rw[if_neg c1,if_neg c1,if_pos c2,if_pos c2]
   refine⟨by rw[gG];exact h1,?_⟩;rw[step h1];grind
  ·rw[if_neg c1,if_neg c1,if_neg c2,if_neg c2]
   exact⟨h1,by grind⟩
theorem MY(ok:bJ x)(h2:al.length=aH x){bus:Nat}:∀(bs:List Br)(s:List Rat×Rat),(∀b∈bs,b∈x.brs)->s.1.length=aH x->
    yT al (nM bus (bs.map cP) (bs.map eS) (bs.map fun b=>aD x b.fr) (bs.map fun b=>aD x b.to) s)=yT al s+EQ x al bus bs
 | [],s,_,_=>(Rat.add_zero _).symm
 | b::r,s,h,h1=>by
  obtain⟨k1,k2⟩:=SM ok h2 (bus:=bus) (h b List.mem_cons_self) h1;have:=MY ok h2 (bus:=bus) r _ (fun a ha=>h a (List.mem_cons_of_mem _ ha)) k1;show yT al (nM bus (r.map cP) (r.map eS) (r.map fun b=>aD x b.fr) (r.map fun b=>aD x b.to) (i_ bus (aD x b.fr) (aD x b.to) (cP b) (eS b) s))=_;rw[this,k2,Rat.add_assoc];rfl
theorem ZC(h:al.length=n):yT al (jN n,0)=0:=by
 unfold yT;rw[qX (n:=n) (by simp[jN]) h,cX fun i _=>by rw[show(jN n,(0:Rat)).1=jN n from rfl,DU,Rat.zero_mul]];exact Rat.add_zero 0
theorem aE_(ok:bJ x)(h2:al.length=aH x){m:Mi}(hm:m.kind=1):mU x al m=EQ x al (aD x m.name) x.brs:=by
 have e:aS x m=nM (aD x m.name) (mB x) (mC x) (gV x) (CC x) (jN (aH x),0):=by
  unfold aS;rw[if_neg (by omega),if_neg (by omega)]
 have h:=MY ok h2 (bus:=aD x m.name) x.brs (jN (aH x),0) (fun b hb=>hb) (by simp[jN]);rw[ZC h2,Rat.zero_add] at h;rw[<-(iM x).1,<-(iM x).2] at h;unfold mU;rw[e];exact h
def JP(s:ByteArray):Mi:=⟨1,s,⟨#[48]⟩,1⟩
theorem aKp(hk:b_ x=0){s:ByteArray}(h:x.nodes[i]?=some s):aD x s=fV x i:=by
 unfold aD fV;rw[aE5 (R9 hk) h]
theorem aKo(ok:bJ x)(hi:i<x.nodes.length)(hj:j<x.nodes.length):fV x i=fV x j<->(iX x).getD i 0=(iX x).getD j 0:=by
 obtain⟨h1,h2⟩:=lF ok;have key:∀k,k<x.nodes.length->0<=(iX x).getD k 0:=fun k hk=>by
  rw[dN,iB (by omega)];exact(h2 _ (List.getElem_mem (by omega))).1
 have a:=key i hi;have b:=key j hj;unfold fV;omega
end
section
def Cn(e:Nat->Rat)(n:Nat)(out:List Int):Prop:=∀a b,a<n->b<n->0<=out.getD a 0->out.getD a 0=out.getD b 0->e a=e b
def Cq(n:Nat)(m:Int)(s:List Int×List Nat):Prop:=∀v∈s.2,v<n/\s.1.getD v 0=m
theorem aKi{e:Nat->Rat}{s:List Int×List Nat}{x:Nat×Nat}(hm:0<=m)(hx:x.1<n/\x.2<n)(hl:s.1.length=n)(hu:u<n)(hum:s.1.getD u 0=m)(he:e x.1=e x.2)(h:Cn e n s.1)(hq:Cq n m s):Cn e n (fG u m s x).1/\Cq n m (fG u m s x)/\(fG u m s x).1.length=n/\(fG u m s x).1.getD u 0=m:=by
 unfold fG;split
 ·rename_i hc
  obtain⟨v,hv⟩:∃v,v=x.1+x.2-u:=⟨_,rfl⟩;have hvn:v<n:=by omega
  have hev:e v=e u:=by
   rcases hc.1 with e1 | e1
   ·have:v=x.2:=by omega
    rw[this,<-e1];exact he.symm
   ·have:v=x.1:=by omega
    rw[this,<-e1];exact he
  have vS:=hc.2;rw[<-hv] at vS ⊢;have hD:∀j,(s.1.set v m).getD j 0=if j=v then m else s.1.getD j 0:=fun j=>BK (by omega);have hvu:u≠v:=fun e1=>by rw[<-e1,hum] at vS;omega
  refine⟨fun a b ha hb h0 jA=>?_,fun w hw=>?_,by simp[hl],by rw[hD,if_neg hvu];exact hum⟩
  ·simp only[hD] at h0 jA
   by_cases e1:a=v
   ·by_cases e2:b=v
    ·rw[e1,e2]
    ·rw[if_pos e1,if_neg e2] at jA
     rw[e1,hev];exact h u b hu hb (by omega) (by rw[hum];exact jA)
   ·by_cases e2:b=v
    ·rw[if_neg e1,if_pos e2] at jA
     rw[e2,hev];exact(h u a hu ha (by omega) (by rw[hum];exact jA.symm)).symm
    ·rw[if_neg e1] at h0
     rw[if_neg e1,if_neg e2] at jA;exact h a b ha hb h0 jA
  ·rcases List.mem_append.1 hw with hw | hw
   ·have:=hq w hw
    refine⟨this.1,?_⟩;rw[hD];split
    ·rfl
    ·exact this.2
   ·rw[List.mem_singleton.1 hw]
    exact⟨hvn,by rw[hD,if_pos rfl]⟩
 ·exact⟨h,hq,hl,hum⟩
theorem aAI{e:Nat->Rat}(hm:0<=m)(hu:u<n):∀{es:List (Nat×Nat)} {s:List Int×List Nat},(∀x∈es,x.1<n/\x.2<n)->(∀x∈es,e x.1=e x.2)->s.1.length=n->s.1.getD u 0=m->Cn e n s.1->Cq n m s->
    Cn e n (lJ u m es s).1/\Cq n m (lJ u m es s)/\(lJ u m es s).1.length=n
 | [],s,_,_,hl,_,h,hq=>⟨h,hq,hl⟩
 | x::r,s,hx,he,hl,hum,h,hq=>by
  obtain⟨h1,h2,h3,h4⟩:=aKi hm (hx x (by simp)) hl hu hum (he x (by simp)) h hq;exact aAI (es:=r) (s:=fG u m s x) hm hu (fun y hy=>hx y (by simp[hy])) (fun y hy=>he y (by simp[hy])) h3 h4 h1 h2
theorem aGY{e:Nat->Rat}(hm:0<=m){es:List (Nat×Nat)}(hx:∀x∈es,x.1<n/\x.2<n)(he:∀x∈es,e x.1=e x.2):∀(f:Nat){out:List Int}{q:List Nat},out.length=n->Cn e n out->Cq n m (out,q)->Cn e n (rH m es f out q)
 | 0,out,q,_,h,_=>h
 | f+1,out,[],_,h,_=>h
 | f+1,out,u::q,hl,h,hq=>by
  have hu:=hq u (by simp);obtain⟨h1,h2,h3⟩:=aAI (s:=(out,q)) hm hu.1 hx he hl hu.2 h (fun v hv=>hq v (by simp only at hv ⊢;simp[hv]));exact aGY hm hx he f h3 h1 h2
theorem aGX{e:Nat->Rat}{es:List (Nat×Nat)}(hx:∀x∈es,x.1<n/\x.2<n)(he:∀x∈es,e x.1=e x.2):∀(k i:Nat)(s:List Int×Int),s.1.length=n->i+k=n->(∀y∈s.1,-1<=y/\y<s.2)->0<=s.2->Cn e n s.1->Cn e n (OO n es k i s).1
 | 0,i,s,_,_,_,_,h=>h
 | k+1,i,s,hl,hi,hb,h0,h=>by
  unfold OO;split
  ·exact aGX hx he k (i+1) s hl (by omega) hb h0 h
  ·rename_i hz
   have kT:i<s.1.length:=by omega
   have DF:Ps n s.2 (s.1.set i s.2) [i]:=⟨by simp[hl],fun v hv=>(by rw[List.mem_singleton.1 hv];omega),fun x hx=>by
    rcases List.mem_or_eq_of_mem_set hx with hx | rfl
    ·have:=hb x hx;omega
    ·omega⟩
   have h2:=G7 h0 hx (n+1) DF;have hD:∀j,(s.1.set i s.2).getD j 0=if j=i then s.2 else s.1.getD j 0:=fun j=>BK kT;have aU:∀j,j<n->s.1.getD j 0<s.2:=fun j hj=>by
    rw[dN,iB (by omega)];exact(hb _ (List.getElem_mem _)).2
   have hcn:Cn e n (s.1.set i s.2):=fun a b ha hb' g0 gab=>by
    simp only[hD] at g0 gab;by_cases e1:a=i
    ·by_cases e2:b=i
     ·rw[e1,e2]
     ·rw[if_pos e1,if_neg e2] at gab
      have:=aU b hb';omega
    ·by_cases e2:b=i
     ·rw[if_neg e1,if_pos e2] at gab
      have:=aU a ha;omega
     ·rw[if_neg e1] at g0
      rw[if_neg e1,if_neg e2] at gab;exact h a b ha hb' g0 gab
   refine aGX hx he k (i+1) _ h2.1 (by omega) (fun x hx=>(by have:=h2.2 x hx;show _/\_<s.2+1;omega)) (by show 0<=s.2+1;omega) ?_;exact aGY h0 hx he (n+1) (by simp[hl]) hcn (fun v hv=>by
    have:v=i:=by simpa using hv
    subst this;exact⟨by omega,by rw[hD,if_pos rfl]⟩)
theorem WA{e:Nat->Rat}{es:List (Nat×Nat)}(hx:∀x∈es,x.1<n/\x.2<n)(he:∀x∈es,e x.1=e x.2){a b:Nat}(ha:a<n)(hb:b<n)(jA:(gR n es).getD a 0=(gR n es).getD b 0):e a=e b:=by
 have h:=aGX (e:=e) hx he n 0 (List.replicate n (-1),0) (by simp) (by omega) (fun y hy=>(by rw[List.eq_of_mem_replicate hy];exact⟨by omega,show(-1:Int)<0 by omega⟩)) (by show(0:Int)<=0;omega) (fun a b ha hb g0 _=>by
  have g0':0<=(List.replicate n (-1:Int)).getD a 0:=g0;rw[aEu ha] at g0';omega)
 refine h a b ha hb ?_ jA;have hp:=qL hx;show 0<=(gR n es).getD a 0;rw[dN,iB (by rw[hp.1];exact ha)];exact(hp.2 _ (List.getElem_mem _)).1
theorem p_{q:Rat}(h:fM n K A)(hi:i<n)(hj:j<n)(c:Fn)(r:Nat):aP n (vf ((fK A i j q).getD r [])) c=aP n (vf (A.getD r [])) c+if r=i then q*c j else 0:=by
 obtain⟨a,ha⟩:∃a,A[i]?=some a:=eA (by rw[h.len];exact hi);rw[gT ha];by_cases e:r=i
 ·subst e
  rw[if_pos rfl,dN,List.getElem?_set,if_pos rfl,if_pos (by rw[h.len];exact hi),dN,ha];simp only[Option.getD_some];have A_:=h.wid a (bV ha);unfold aP;rw[aL (g:=fun t=>vf a t*c t+(if t=j then q*c j else 0)) (fun t _=>by
   rw[tZ (by rw[A_];exact hj)];by_cases e:t=j
   ·subst e;rw[if_pos rfl,if_pos rfl];grind
   ·rw[if_neg e,if_neg e];grind),cK]
  congr 1
  rw[dQ hj (fun t _ bX=>if_neg bX),if_pos rfl]
 ·rw[if_neg e,Rat.add_zero,dN,List.getElem?_set,if_neg (fun e2=>e e2.symm),dN]
def vV(free:List Nat)(c:Fn)(u:Nat):Rat:=match EC free u with | some i=>c i | none=>0
theorem BY(h:EC free u=none)(hr:free[r]?=some f):f≠u:=fun e=>by
 unfold EC at h;rw[List.findIdx?_eq_none_iff] at h;have:=h f (bV hr);simp[e] at this
theorem sZ(hn:free.Nodup)(h:EC free u=some i)(hr:free[r]?=some f):f=u<->r=i:=by
 have h1:=(eP h).2;obtain⟨a1,a2⟩:=dH.1 h1;obtain⟨b1,b2⟩:=dH.1 hr
 constructor
 ·intro e
  exact(List.getElem_inj hn).1 (by rw[b2,a2,e])
 ·intro e
  subst e;rw[hr] at h1;injection h1
theorem T9(hn:free.Nodup){b:Rat}(h:fM free.length K A)(hb:bI b<=1)(c:Fn)(hr:free[r]?=some f):aP free.length (vf ((g_ free A b u v).getD r [])) c=aP free.length (vf (A.getD r [])) c+b*(two u v f*(vV free c u-vV free c v)):=by
 have hb':bI (-b)<=1:=by rw[m9];exact hb
 unfold g_;by_cases huv:u=v
 ·subst huv
  rw[if_pos rfl];grind
 ·rw[if_neg huv]
  unfold two;cases h1:EC free u with
  | none=>
   have e1:vV free c u=0:=by unfold vV;rw[h1]
   have g1:=BY h1 hr;cases h2:EC free v with
   | none=>
    have e2:vV free c v=0:=by unfold vV;rw[h2]
    rw[e1,e2];grind
   | some j=>
    have e2:vV free c v=c j:=by unfold vV;rw[h2]
    have g2:=sZ hn h2 hr;simp only;rw[p_ h (eP h2).1 (eP h2).1,e1,e2,if_neg g1];by_cases e:r=j
    ·rw[if_pos e,if_pos (g2.2 e),e];grind
    ·rw[if_neg e,if_neg (fun e3=>e (g2.1 e3))];grind
  | some i=>
   have e1:vV free c u=c i:=by unfold vV;rw[h1]
   have g1:=sZ hn h1 hr;cases h2:EC free v with
   | none=>
    have e2:vV free c v=0:=by unfold vV;rw[h2]
    have g2:=BY h2 hr;simp only;rw[p_ h (eP h1).1 (eP h1).1,e1,e2,if_neg g2];by_cases e:r=i
    ·rw[if_pos e,if_pos (g1.2 e),e];grind
    ·rw[if_neg e,if_neg (fun e3=>e (g1.1 e3))];grind
   | some j=>
    have e2:vV free c v=c j:=by unfold vV;rw[h2]
    have g2:=sZ hn h2 hr;have li:=(eP h1).1;have lj:=(eP h2).1;have a1:=h.add li li hb;have a2:=a1.add lj lj hb;have a3:=a2.add li lj hb';simp only;rw[p_ a3 lj li,p_ a2 li lj,p_ a1 lj lj,p_ h li li,e1,e2];by_cases e:r=i
    ·have tE:r≠j:=fun e3=>huv (((g1.2 e).symm.trans (g2.2 e3)))
     rw[if_pos e,if_neg tE,if_pos e,if_neg tE,if_pos (g1.2 e),if_neg (fun e3=>tE (g2.1 e3))];grind
    ·rw[if_neg e,if_neg e,if_neg (fun e3=>e (g1.1 e3))]
     by_cases e3:r=j
     ·rw[if_pos e3,if_pos e3,if_pos (g2.2 e3)]
      grind
     ·rw[if_neg e3,if_neg e3,if_neg (fun e4=>e3 (g2.1 e4))]
      grind
def CW(x:bO)(E:Nat->Rat)(f:Nat):List Br->Rat
 | []=>0
 | b::r=>cP b*(two (aD x b.fr) (aD x b.to) f*(E (aD x b.fr)-E (aD x b.to)))+CW x E f r
theorem NU{x:bO}(hn:free.Nodup)(c:Fn)(hr:free[r]?=some f):∀(bs:List Br)(K:Nat) (A:List (List Rat)),(∀b∈bs,bI (cP b)<=1)->fM free.length K A->
    aP free.length (vf ((zX free (bs.map cP) (bs.map fun b=>aD x b.fr) (bs.map fun b=>aD x b.to) A).getD r [])) c=aP free.length (vf (A.getD r [])) c+CW x (vV free c) f bs/\∃K',fM free.length K' (zX free (bs.map cP) (bs.map fun b=>aD x b.fr) (bs.map fun b=>aD x b.to) A)
 | [],K,A,_,h=>⟨(Rat.add_zero _).symm,K,h⟩
 | b::bs,K,A,hq,h=>by
  have hb:=hq b (by simp);have ih:=NU (x:=x) hn c hr bs (K+8) (g_ free A (cP b) (aD x b.fr) (aD x b.to)) (fun a ha=>hq a (by simp[ha])) (AP h hb);simp only[List.map_cons];unfold zX CW;refine⟨?_,ih.2⟩;rw[ih.1,T9 hn h hb c hr];grind
theorem T_:∀(bs:List Br)(K:Nat) (A:List (List Rat)),(∀b∈bs,bI (cP b)<=1)->fM free.length K A->∃K',fM free.length K' (zX free (bs.map cP) (bs.map fun b=>aD x b.fr) (bs.map fun b=>aD x b.to) A)
 | [],K,A,_,h=>⟨K,h⟩
 | b::bs,K,A,hq,h=>T_ bs (K+8) _ (fun a ha=>hq a (by simp[ha])) (AP h (hq b (by simp)))
theorem aIF(h:b.bad=false):0<cP b:=by
 obtain⟨h1,-,h3⟩:=YB h;unfold cP;rw[h3];generalize (b.x*b.tap).toNat=d at *;have hd:(0:Rat)<(((d:Nat):Int):Rat):=Rat.intCast_pos.2 (by omega);have e:Rat.divInt 1000000 ((d:Nat):Int)*(((d:Nat):Int):Rat)=1000000:=by
  rw[Rat.divInt_eq_div];exact Rat.div_mul_cancel (fun e=>by rw[e] at hd;exact absurd hd (by decide))
 rcases Rat.le_total (a:=Rat.divInt 1000000 ((d:Nat):Int)) (b:=0) with FQ | FQ
 ·exfalso
  have h4:=Rat.mul_le_mul_of_nonneg_right FQ (Rat.le_of_lt hd);rw[e,Rat.zero_mul] at h4;exact absurd h4 (by decide)
 ·rcases Rat.le_iff_lt_or_eq.1 FQ with h4 | h4
  ·exact h4
  ·rw[<-h4,Rat.zero_mul] at e
   exact absurd e (by decide)
section
variable {x:bO}
theorem uO:(aA x).Nodup:=by
 unfold aA lM;exact List.nodup_range.filter _
theorem aG_(ok:bJ x):∃K,fM (aA x).length K (o5 x):=by
 unfold o5;rw[(iM x).1,(iM x).2];exact T_ x.brs 3 _ (fun b hb=>pK (ok.br b hb).2.2.2) (CX _)
theorem sA(ok:bJ x):(o5 x).length=(aA x).length:=by obtain⟨K,h⟩:=aG_ ok;exact h.len
theorem II(ok:bJ x):∀a∈o5 x,a.length=(o5 x).length:=by obtain⟨K,h⟩:=aG_ ok;rw[h.len];exact h.wid
theorem aAO(ok:bJ x)(c:Fn)(hr:(aA x)[r]?=some f):aP (aA x).length (vf ((o5 x).getD r [])) c=CW x (vV (aA x) c) f x.brs:=by
 have h:=(NU (x:=x) uO c hr x.brs 3 (o8 (aA x).length) (fun b hb=>pK (ok.br b hb).2.2.2) (CX _)).1;unfold o5;rw[(iM x).1,(iM x).2,show mB x=x.brs.map cP from rfl,h];have e:aP (aA x).length (vf ((o8 (aA x).length).getD r [])) c=0:=cX fun i _=>by
  unfold o8;rw[dN,List.getElem?_replicate,if_pos (dH.1 hr).1];simp only[Option.getD_some];rw[show vf (List.replicate (aA x).length 0) i=0 from DU _ i,Rat.zero_mul]
 rw[e,Rat.zero_add]
theorem aAM(c:Fn)(u:Nat):aN (aA x).length (fun i=>(if(aA x).getD i 0=u then 1 else 0)*c i)=vV (aA x) c u:=by
 have GF:∀i,i<(aA x).length->(aA x)[i]?=some ((aA x).getD i 0):=fun i hi=>by rw[dN,iB hi];rfl
 unfold vV;cases h:EC (aA x) u with
 | none=>exact cX fun i hi=>by rw[if_neg (BY h (GF i hi)),Rat.zero_mul]
 | some k=>
  have hk:=eP h;rw[dQ hk.1 (fun i hi bX=>by rw[if_neg (fun e=>bX ((sZ uO h (GF i hi)).1 e)),Rat.zero_mul]),if_pos ((sZ uO h (GF k hk.1)).2 rfl),Rat.one_mul]
theorem aKq(c:Fn)(u v:Nat):aN (aA x).length (fun i=>two u v ((aA x).getD i 0)*c i)=vV (aA x) c u-vV (aA x) c v:=by
 rw[<-aAM,<-aAM,<-DV];exact aL fun i _=>by unfold two;grind
def BW(x:bO)(E:Nat->Rat):List Br->Rat
 | []=>0
 | b::r=>cP b*((E (aD x b.fr)-E (aD x b.to))*(E (aD x b.fr)-E (aD x b.to)))+BW x E r
theorem NT(c:Fn):∀bs:List Br,aN (aA x).length (fun i=>c i*CW x (vV (aA x) c) ((aA x).getD i 0) bs)=BW x (vV (aA x) c) bs
 | []=>cX fun i _=>Rat.mul_zero _
 | b::r=>by
  unfold BW;rw[<-NT c r];have h1:=aKq (x:=x) c (aD x b.fr) (aD x b.to);generalize hd:vV (aA x) c (aD x b.fr)-vV (aA x) c (aD x b.to)=d at *;have h2:cP b*(d*d)=aN (aA x).length fun i=>(cP b*d)*(two (aD x b.fr) (aD x b.to) ((aA x).getD i 0)*c i):=by
   rw[bL,h1];grind
  rw[h2,<-cK];refine aL fun i _=>?_;rw[show CW x (vV (aA x) c) ((aA x).getD i 0) (b::r)=cP b*(two (aD x b.fr) (aD x b.to) ((aA x).getD i 0)*(vV (aA x) c (aD x b.fr)-vV (aA x) c (aD x b.to)))+CW x (vV (aA x) c) ((aA x).getD i 0) r from rfl,hd];clear h1 h2 hd;generalize CW x (vV (aA x) c) ((aA x).getD i 0) r=z;generalize two (aD x b.fr) (aD x b.to) ((aA x).getD i 0)=t;grind
theorem R1(E:Nat->Rat):∀bs:List Br,(∀b∈bs,0<cP b)->0<=BW x E bs/\(BW x E bs=0->∀b∈bs,E (aD x b.fr)=E (aD x b.to))
 | [],_=>⟨Rat.le_refl,fun _ b hb=>by simp at hb⟩
 | b::r,h=>by
  obtain⟨h1,h2⟩:=R1 E r fun a ha=>h a (by simp[ha]);have hb:=h b (by simp);unfold BW;generalize hd:E (aD x b.fr)-E (aD x b.to)=d;have h3:0<=cP b*(d*d):=Rat.mul_nonneg (Rat.le_of_lt hb) (aEe d);refine⟨Rat.add_nonneg h3 h1,fun h0=>?_⟩;have h4:cP b*(d*d)=0/\BW x E r=0:=by
   rcases Rat.le_iff_lt_or_eq.1 h3 with e | e
   ·exfalso
    have h5:0<cP b*(d*d)+BW x E r:=by grind
    rw[h0] at h5;exact absurd h5 (by decide)
   ·rw[<-e,Rat.zero_add] at h0
    exact⟨e.symm,h0⟩
  intro a ha;rcases List.mem_cons.1 ha with rfl | ha
  ·rcases Rat.mul_eq_zero.1 h4.1 with e | e
   ·rw[e] at hb;exact absurd hb (by decide)
   ·have:d=0:=by rcases Rat.mul_eq_zero.1 e with e | e<;>exact e
    rw[this] at hd;grind
  ·exact h2 h4.2 a ha
theorem R7(c:Fn)(h:dX (eJ x) u=false):vV (aA x) c u=0:=by
 unfold vV;cases hp:EC (aA x) u with
 | none=>rfl
 | some i=>
  have:=(xZ (p:=dX (eJ x)) (n:=aH x) (eP hp).2).1;rw[h] at this;cases this
theorem T7(c:Fn)(h:(aA x)[i]?=some f):vV (aA x) c f=c i:=by
 unfold vV;cases hp:EC (aA x) f with
 | none=>exact absurd rfl (BY hp h)
 | some k=>
  have:=(sZ uO hp h).1 rfl;rw[this]
theorem aEF(ok:bJ x){E:Nat->Rat}(he:∀b∈x.brs,E (aD x b.fr)=E (aD x b.to))(h0:∀u,dX (eJ x) u=false->E u=0):∀u,u<aH x->E u=0:=by
 have hx:=(AN ok).1;have hee:∀p∈LU x,E p.1=E p.2:=fun p hp=>by
  unfold LU at hp;obtain⟨b,hb,rfl⟩:=List.mem_map.1 hp;exact he b hb
 have K7:(eJ x).length=aH x:=(wU ok).2;have hD:∀u,u<aH x->(((eJ x).getD u 0:Nat):Int)=(qR x).getD u 0:=fun u hu=>by
  have h:=congrArg (fun l:List Int=>l[u]?) (wU ok).1;simp only[d9,iY] at h;rw[iB (by omega)] at h;rw[dN,iB (by omega),dN,<-h];rfl
 intro u
 induction u using Nat.strongRecOn with
 | _ u ih=>
  intro hu;cases hf:dX (eJ x) u with
  | false=>exact h0 u hf
  | true=>
   unfold dX aJg at hf;rw[Bool.not_not,List.any_eq_true] at hf;obtain⟨a,ha,hs⟩:=hf;have hau:a<u:=List.mem_range.1 ha;unfold OI at hs;have hs':(eJ x).getD a 0=(eJ x).getD u 0:=by simpa using hs
   rw[<-ih a hau (by omega)];refine(WA hx hee (by omega) hu ?_).symm;show(qR x).getD a 0=(qR x).getD u 0;rw[<-hD a (by omega),<-hD u hu,hs']
theorem aAN(ok:bJ x):Reg (o5 x):=by
 rw[ZQ (II ok),sA ok];intro c hc j hj;rw[rT] at hc;have GF:∀i,i<(aA x).length->(aA x)[i]?=some ((aA x).getD i 0):=fun i hi=>by rw[dN,iB hi];rfl
 have h1:∀i,i<(aA x).length->CW x (vV (aA x) c) ((aA x).getD i 0) x.brs=0:=fun i hi=>by
  rw[<-aAO ok c (GF i hi)];obtain⟨a,ha⟩:∃a,(o5 x)[i]?=some a:=eA (by rw[sA ok];exact hi);rw[dN,ha];exact hc i a ha
 have h2:BW x (vV (aA x) c) x.brs=0:=by
  rw[<-NT];exact cX fun i hi=>by rw[h1 i hi,Rat.mul_zero]
 have h3:=(R1 (vV (aA x) c) x.brs fun b hb=>aIF (ok.br b hb).2.2.2).2 h2;have hjf:=GF j hj;rw[<-T7 c hjf];exact aEF ok h3 (fun u hu=>R7 c hu) _ (xZ (p:=dX (eJ x)) (n:=aH x) hjf).2.1
theorem aJm(ok:bJ x):aB4 x:=by
 have:=aAN ok;unfold Reg at this;rw[sA ok] at this;exact this
theorem OW(ok:bJ x):yZ x=mV (o5 x):=by
 unfold yZ mV;rw[sA ok]
theorem wW(ok:bJ x):(yZ x).length=(aA x).length/\∀a∈yZ x,a.length=(aA x).length:=by
 have h:=qS (II ok);rw[OW ok,<-sA ok];exact h
end
end
section
open Go.ChangeShapes Go.WideShapes Go.ChangeAt Go.RowKit
attribute [local go_sem ↓] aE
attribute [local go_sem] aJ aI aM aR
def aQa(x:bO)(al:List Rat)(w:Wo)(e:Ending)(w':Wo):Prop:=Below w.heap.size w w'/\∃v us,e=.returned v/\dP w' w.heap.size v us (gS x al)
theorem aCv(g:Nat)(m:iU)(y:Value)(x:bO)(ok:bJ x)(A:OA)(n c:Nat)(al:List Rat)(w:Wo)(hg:aG w g 122 (m.cells y))(hr:fB w w.heap.size m x)(hq:iT w w.heap.size A n al)(hn:n=aH x)(hz:∀q∈al,bI q<=100000000000):Calls Tryz.prog 50 #[.pointer (some ⟨g,0,none⟩),.slice A n c] w (aQa x al w):=by
 obtain⟨HG,HR,HQ,bU,HAZ⟩:=kN hg hr hq ok hz;have IL:=lH hn;have l8:Hid (al.length=n):=lH hq.len;have mK:Hid (x.brs.length=m.n4):=lH (by rw[<-pF];exact hr.r4.len);have DB:Hid (x.brs.length=m.n5):=lH (by rw[<-OX];exact hr.r5.len);have iI:Hid (x.brs.length=m.n2):=lH (by rw[<-mQ,<-e_];exact hr.r2.len);have tS:Hid (x.brs.length=m.n3):=lH (by rw[<-rQ,<-e_];exact hr.r3.len);have aDj:Hid (x.brs.length<=1000):=lH (by have:=ok.l2;omega);obtain⟨A0,n0,c0,A1,n1,c1,A2,n2,c2,A3,n3,c3,A4,n4,c4,A5,n5,c5,A6,n6,c6⟩:=m;simp only[iU.cells] at HG mK DB iI tS;have e4:=mK.o;have e5:=DB.o;have e2:=iI.o;have e3:=tS.o;subst e4;subst e5;subst e2;subst e3;clear hg hr hq ok hz hn mK DB iI tS;have y5:=HG.o.cell 5;have yl:=HG.o.lt;go_enter Tryz.func50,Tryz.ntmps50
 go_wp2_with fail
 clear y5 yl
 go_loopw [5,13] (fun v5 v13 wr=>∃(k:Nat)(us:List Rv),k<=x.brs.length/\v13=.int .i64 k/\dP wr w.heap.size v5 us ((gS x al).take k)/\Below w.heap.size w wr) (fun _ v13 _=>x.brs.length-(intOf v13).toNat)
 case atStart=>exact⟨0,[],by omega,rfl,kY _ _,bR⟩
 case round=>
  obtain⟨k,us,hk,rfl,ho,hb⟩:=hrel;have HO:=lH ho;have HB:=lH hb;clear ho hb;by_cases aU:k<x.brs.length
  ·obtain⟨b,zW⟩:∃b,x.brs[k]?=some b:=⟨_,iB aU⟩
   obtain⟨a1,a2,a3,a4⟩:=kM zW;have IK:Hid ((gS x al).take (k+1)=(gS x al).take k++[cP b*(vf al (aD x b.fr)-vf al (aD x b.to))+eS b]):=lH (fE (by unfold gS;rw[iY,zW];rfl));have zD:=bV zW;have XP:aD x b.fr<n:=by rw[IL.o];exact(bG bU.o (bU.o.br b zD).1).2.1
   have hj2:aD x b.to<n:=by rw[IL.o];exact(bG bU.o (bU.o.br b zD).2.1).2.1
   have y_:=(HR.o.up HB.o).r5;simp only at y_;obtain⟨db,do',hA5,hdb⟩:=y_.form (by omega);subst hA5;obtain⟨xc,p0,p1,p2,p3,p4⟩:=y_.at_ a4;have fY:(k:Int)<(x.brs.length:Int):=by omega
   have lB:=lZ k;have rJ:=jF k;have l9:=lN k;have jV:Hid (x.brs.length-(k+1)<x.brs.length-k):=lH (by omega);have UC:=lH p4;clear p4 y_ zW;(go_upto_region 5 with fail);clear p0 p1 p2 p3 hdb;have hz:=jT wr (.cells #[.bool xc.b1,.slice xc.A xc.n xc.c,.bool xc.b2,.slice xc.A2 xc.m xc.d] 115);have HCB:=lH (aG.new wr 115 #[.bool xc.b1,.slice xc.A xc.n xc.c,.bool xc.b2,.slice xc.A2 xc.m xc.d]);replace HO:=lH (HO.o.keep hz);replace UC:=lH (UC.o.up hz);have N2:=bW HB hz;clear hz HB;generalize wr.alloc (.cells #[.bool xc.b1,.slice xc.A xc.n xc.c,.bool xc.b2,.slice xc.A2 xc.m xc.d] 115)=wa at *;generalize wr.heap.size=gq at *;have HQa:=lH (HQ.o.bm N2.o);have HGa:=lH (HG.o.bl N2.o);have vG:=HR.o.up N2.o;have DE:=vG.r4;have AY:=vG.r2;have vR:=vG.r3;simp only at DE AY vR;obtain⟨bb,bo,hA4,pE⟩:=DE.form (by omega);subst hA4;obtain⟨xb,b0,b1,b2,b3,b4⟩:=DE.at_ a3;obtain⟨fb,fo,LR,qU,-⟩:=AY.2 (by omega);subst LR;have f0:=AY.at_ (fS a1);obtain⟨tb,to',hA3,UW,-⟩:=vR.2 (by omega);subst hA3;have t0:=vR.at_ (fS a2);obtain⟨ab,ao,hA,jA⟩:=HQa.o.form (by omega);subst hA;obtain⟨x1,u0,u1,u2,u3,u4⟩:=HQa.o.at_ (a_ (i:=aD x b.fr) (by rw[l8.o];exact XP));obtain⟨x2,w0,w1,w2,w3,w4⟩:=HQa.o.at_ (a_ (i:=aD x b.to) (by rw[l8.o];exact hj2));obtain⟨HXB,eB,f_⟩:=d_ b4 u4 w4;have y2:=HGa.o.cell 2;have y3:=HGa.o.cell 3;have y4:=HGa.o.cell 4;have yl:=HGa.o.lt;obtain⟨z0,z1,z2,z3,zl⟩:=HCB.o.b4;have i1:((aD x b.fr:Nat):Int)<(n:Int):=by omega
   have i10:(0:Int)<=((aD x b.fr:Nat):Int):=by omega
   have i1n:((aD x b.fr:Nat):Int).toNat=aD x b.fr:=jF _;have i2:((aD x b.to:Nat):Int)<(n:Int):=by omega
   have i20:(0:Int)<=((aD x b.to:Nat):Int):=by omega
   have i2n:((aD x b.to:Nat):Int).toNat=aD x b.to:=jF _;have Q7:=lH (bU.o.br b zD).2.2.2;have E3:Hid (bI (vf al (aD x b.fr))+bI (vf al (aD x b.to))+1<=200000000001):=lH (by
    have h1:=HAZ.o _ (bV (a_ (l:=al) (i:=aD x b.fr) (by rw[l8.o];exact XP)));have h2:=HAZ.o _ (bV (a_ (l:=al) (i:=aD x b.to) (by rw[l8.o];exact hj2)));omega)
   have nO:Hid (bI (cP b)+bI (vf al (aD x b.fr)-vf al (aD x b.to))+1<=200000000010):=lH (by
    have h1:=E3.o;have h2:=rM (vf al (aD x b.fr)) (vf al (aD x b.to));have h3:=pK Q7.o;omega)
   have HS3:Hid (bI (cP b*(vf al (aD x b.fr)-vf al (aD x b.to)))+bI (eS b)+1<=200000000020):=lH (by
    have h1:=nO.o;have h2:=eL (cP b) (vf al (aD x b.fr)-vf al (aD x b.to));have h3:=uT Q7.o;omega)
   have bM:=lH (aK (Below.refl wa.heap.size wa));clear b4 u4 w4 vG DE AY vR XP hj2 zD a1 a2 a3 a4;refine l_ (S:=fun w'=>Below wa.heap.size wa w') 33 _ _ (by kernel_rfl) (by kernel_rfl) (by kernel_rfl) rfl rfl (aK bR) (fun hHeld=>?_);simp only[nI,List.take_zero];refine cW [0,1,2,3,4,5,6,7,8,9,10,11,12,13,14,15,16,17,18,19,20,21,22,23,24,25,26,27,30] ?_;clear y2 y3 y4 yl z0 z1 z2 z3 zl b0 b1 b2 b3 f0 t0 u0 u1 u2 u3 w0 w1 w2 w3 pE qU UW jA i1 i10 i1n i2 i20 i2n;refine bQ 28 (fun K hK=>?_);go_simp;refine(OC (eB.o.up bM.o) (f_.o.up bM.o) (cO E3.o (by decide))).mono ?_;rintro e w5 ⟨fD,r5,rfl,h5⟩;have eK:Hid (Below wa.heap.size wa w5):=lH (bM.o.tm fD);have H5:=lH h5;clear fD h5;go_simp;refine gZ hK eK.o (fun hHeld=>?_);clear hK K;refine bQ 29 (fun K hK=>?_);go_simp;refine(LL (HXB.o.up eK.o) H5.o (cO nO.o (by decide))).mono ?_;rintro e w6 ⟨fT,r6,rfl,h6⟩;have fL:Hid (Below wa.heap.size wa w6):=lH (eK.o.tm fT);have H6:=lH h6;clear fT h6;go_simp;refine gZ hK fL.o (fun hHeld=>?_);clear hK K;refine bQ 31 (fun K hK=>?_);go_simp;refine(EZ H6.o (UC.o.up fL.o) (cO HS3.o (by decide))).mono ?_;rintro e w7 ⟨iA,r7,rfl,h7⟩;have j_:Hid (Below wa.heap.size wa w7):=lH (fL.o.tm iA);have H7:=lH h7;clear iA h7 H5 H6 eK fL bM;go_simp;refine gZ hK j_.o (fun hHeld=>?_);clear hK K;refine bQ 32 (fun K hK=>?_);go_simp;have yQ:=lH (aG.new w7 115 #[.bool r7.b1,.slice r7.A r7.n r7.c,.bool r7.b2,.slice r7.A2 r7.m r7.d]);have kS:=jT w7 (.cells #[.bool r7.b1,.slice r7.A r7.n r7.c,.bool r7.b2,.slice r7.A2 r7.m r7.d] 115);have dR:Hid (Below wa.heap.size wa (w7.alloc (.cells #[.bool r7.b1,.slice r7.A r7.n r7.c,.bool r7.b2,.slice r7.A2 r7.m r7.d] 115))):=lH (j_.o.tm kS);replace H7:=lH (H7.o.up kS);clear kS j_;generalize w7.alloc (.cells #[.bool r7.b1,.slice r7.A r7.n r7.c,.bool r7.b2,.slice r7.A2 r7.m r7.d] 115)=w8 at *;generalize w7.heap.size=gb at *;refine gZ hK dR.o (fun hHeld=>?_);clear hK K;refine eM ?_;have U3:Hid (((gS x al).take k).length<=1000000):=lH (by rw[kR];have:=aDj.o;omega);refine Q9 (.tmp 18) (.tmp 50) _ rfl w.heap.size Tryz.underlying93 _ us _ rfl (HO.o.keep dR.o) r7 _ H7.o gb _ rfl yQ.o U3.o (cO N2.o.size dR.o.size) ?_;intro v' w9 bB GD hob;have E7:=lH bB;have eV:=lH ((N2.o.tm dR.o).trans GD.low);clear bB GD hob dR HO yQ H7 N2 HQa HGa hHeld;refine dK (by rfl) ?_;have aCq:=aDj.o;(go_wp2_with fail);go_roundw
   case rel=>exact⟨k+1,us++[r7],aU,aO l9.o,by rw[IK.o];exact E7.o,eV.o⟩
   case measure=>exact jV.o
  ·have nH:k=x.brs.length:=by omega
   have QE:Hid (dP wr w.heap.size u5 us (gS x al)):=lH (by
    have h:=HO.o;rw[nL (by unfold gS;rw[jO];omega)] at h;exact h)
   have fY:¬(k:Int)<(x.brs.length:Int):=by omega
   (go_wp2_with fail);go_ret;exact⟨HB.o,_,_,rfl,QE.o⟩
end
section
theorem tN:(vK x ps i).length=aH x:=by simp[vK]
theorem tO(h:j<aH x):(vK x ps i)[j]?=some (lY x ps i j):=by
 unfold vK;rw[iY,List.getElem?_range h];rfl
theorem YA:vK x ps 0=List.replicate (aH x) 0:=by
 refine List.eq_replicate_iff.2 ⟨tN,fun b hb=>?_⟩;obtain⟨j,-,rfl⟩:=List.mem_map.1 hb;rfl
theorem aCP{p:Int}(hp:ps[i]?=some p)(h:fV x i<aH x):(vK x ps i).set (fV x i) (lY x ps i (fV x i)+p)=vK x ps (i+1):=by
 apply List.ext_getElem?;intro j;rw[List.getElem?_set,tN];have hg:ps.getD i 0=p:=by rw[dN,hp];rfl
 by_cases e:fV x i=j
 ·subst e
  rw[if_pos rfl,if_pos h,tO h];unfold lY;rw[if_pos rfl,hg];cases i<;>rfl
 ·rw[if_neg e]
  by_cases hj:j<aH x
  ·rw[tO hj,tO hj]
   congr 1
   show _=lY x ps i j+_;rw[if_neg e,Int.add_zero]
  ·rw[List.getElem?_eq_none (by rw[tN];omega),List.getElem?_eq_none (by rw[tN];omega)]
theorem xJ{x:bO}(hz:∀p∈ps,-100000<=p/\p<=100000):∀i j:Nat,-(100000*(i:Int))<=lY x ps i j/\lY x ps i j<=100000*(i:Int)
 | 0,j=>by unfold lY;omega
 | i+1,j=>by
  have ih:=xJ (x:=x) hz i j;have hp:-100000<=ps.getD i 0/\ps.getD i 0<=100000:=by
   rw[dN];cases h:ps[i]? with
   | none=>exact⟨by decide,by decide⟩
   | some p=>exact hz p (bV h)
  unfold lY;split<;>omega
theorem wX:(vQ x ps).length=aH x:=by unfold vQ;rw[jO,tN]
theorem aJs(h:j<aH x):vf (vQ x ps) j=((lY x ps ps.length j:Int):Rat):=fW (by unfold vQ;rw[iY,tO h];rfl)
theorem aFr(hz:∀p∈ps,-100000<=p/\p<=100000)(hl:ps.length<=24):∀q∈vQ x ps,bI q<=2:=fun q hq=>by
 unfold vQ at hq;obtain⟨z,hz',rfl⟩:=List.mem_map.1 hq;unfold vK at hz';obtain⟨j,-,rfl⟩:=List.mem_map.1 hz';have:=xJ (x:=x) hz ps.length j;exact dV _ (by omega) (by omega)
theorem CG:(EK x l b).length=l.length:=by unfold EK;rw[lS]
theorem aFk:(W4 x l b).length=l.length:=by unfold W4;rw[lS]
theorem CD:mG x qs 0=qs:=by unfold mG;rw[List.take_zero];rfl
theorem CE{k:Nat}(h:x.brs[k]?=some b):mG x qs (k+1)=W4 x (EK x (mG x qs k) b) b:=by
 unfold mG;rw[fE h,List.foldl_append];rfl
theorem CF:∀k:Nat,k<=x.brs.length->(mG x qs k).length=qs.length
 | 0,_=>by rw[CD]
 | k+1,h=>by
  obtain⟨b,hb⟩:∃b,x.brs[k]?=some b:=eA (by omega);rw[CE hb,aFk,CG,CF k (by omega)]
theorem SH(h:∀q∈l,bI q<=Z)(hu:aD x b.fr<l.length)(hb:b.bad=false):∀q∈EK x l b,bI q<=Z+3:=fun q hq=>by
 unfold EK at hq;rcases List.mem_or_eq_of_mem_set hq with e | e
 ·have:=h q e;omega
 ·have h1:=rM (vf l (aD x b.fr)) (eS b)
  have h2:=h _ (bV (a_ hu));have h3:=uT hb;rw[e];omega
theorem aFj(h:∀q∈l,bI q<=Z)(hu:aD x b.to<l.length)(hb:b.bad=false):∀q∈W4 x l b,bI q<=Z+3:=fun q hq=>by
 unfold W4 at hq;rcases List.mem_or_eq_of_mem_set hq with e | e
 ·have:=h q e;omega
 ·have h1:=lG (vf l (aD x b.to)) (eS b)
  have h2:=h _ (bV (a_ hu));have h3:=uT hb;rw[e];omega
theorem OZ{x:bO}(ok:bJ x){qs:List Rat}(hl:qs.length=aH x)(h:∀q∈qs,bI q<=Z):∀k:Nat,k<=x.brs.length->∀q∈mG x qs k,bI q<=Z+6*k
 | 0,_=>by rw[CD];exact h
 | k+1,hk=>by
  obtain⟨b,hb⟩:∃b,x.brs[k]?=some b:=eA (by omega);have zD:=ok.br b (bV hb);have h1:=CF (x:=x) (qs:=qs) k (by omega);have h2:=SH (x:=x) (b:=b) (OZ ok hl h k (by omega)) (by rw[h1,hl];exact(bG ok zD.1).2.1) zD.2.2.2;have h3:=aFj (x:=x) (b:=b) h2 (by rw[CG,h1,hl];exact(bG ok zD.2.1).2.1) zD.2.2.2;rw[CE hb];intro q hq;have:=h3 q hq;omega
theorem wO:(OH x lf).length=aH x:=by unfold OH;rw[oX];exact rB
theorem aOW(ok:bJ x):∃K,K<=3+8*x.brs.length/\fM (aA x).length K (o5 x):=by
 have key:∀(bs:List Br)(K:Nat) (A:List (List Rat)),(∀b∈bs,bI (cP b)<=1)->fM (aA x).length K A->∃K',K'<=K+8*bs.length/\fM (aA x).length K' (zX (aA x) (bs.map cP) (bs.map fun b=>aD x b.fr) (bs.map fun b=>aD x b.to) A):=by
  intro bs
  induction bs with
  | nil=>exact fun K A _ h=>⟨K,by simp,h⟩
  | cons b bs ih=>
   intro K A hq h;obtain⟨K',h1,h2⟩:=ih (K+8) _ (fun a ha=>hq a (by simp[ha])) (AP h (hq b (by simp)));exact⟨K',by rw[GS];omega,h2⟩
 obtain⟨K',h1,h2⟩:=key x.brs 3 (o8 (aA x).length) (fun b hb=>pK (ok.br b hb).2.2.2) (CX _);refine⟨K',h1,?_⟩;unfold o5;rw[(iM x).1,(iM x).2];exact h2
theorem SG(ok:bJ x)(h8:x.nodes.length<=8):∀a∈yZ x,∀q∈a,bI q<=20000000:=fun a ha q hq=>by
 obtain⟨K,h1,h2⟩:=aOW ok;rw[OW ok] at ha;have h3:=W7 (M:=o5 x) (b:=K+3) (II ok) (h2.bd.mono (by omega)) (by omega) a ha q hq;rw[h2.len] at h3;have h4:4^(aA x).length<=4^8:=Nat.pow_le_pow_right (by decide) (fZ ok h8);have h5:K+3<=198:=by have:=ok.l2;omega
 have h6:4^(aA x).length*(K+3)<=4^8*198:=Nat.mul_le_mul h4 h5;omega
theorem aEf(ok:bJ x)(h8:x.nodes.length<=8)(hl:lf.length=aH x)(hq:∀q∈lf,bI q<=20000000)(hi:i<(aA x).length):bI (vO x lf i)<=400000000:=by
 have hn:=fZ ok h8;obtain⟨a,ha⟩:∃a,(yZ x)[i]?=some a:=eA (by rw[(wW ok).1];exact hi);have A_:=(wW ok).2 a (bV ha);have hr:∀q∈rG x lf,bI q<=20000000:=fun q h=>by
  unfold rG at h;obtain⟨f,hf,rfl⟩:=List.mem_map.1 h;exact hq _ (bV (a_ (by rw[hl];exact tH hf)))
 have h:=nC (ys:=rG x lf) A_ (SG ok h8 a (bV ha)) hr (aA x).length lR;rw[nL (by rw[List.length_zipWith];omega)] at h;unfold vO;rw[dN,ha];show bI (sS _)<=_;have:(aA x).length*(2*20000000+1)<=8*(2*20000000+1):=Nat.mul_le_mul_right _ hn;simp only[Option.getD_some];omega
theorem RP(ok:bJ x)(h8:x.nodes.length<=8)(hl:lf.length=aH x)(hq:∀q∈lf,bI q<=20000000):∀k:Nat,k<=(aA x).length->∀q∈qO (aA x) (vO x lf) (jN (aH x)) k,bI q<=400000000
 | 0,_=>fun q h=>by rw[List.eq_of_mem_replicate h];exact cO (dV 0 (by decide) (by decide)) (by decide)
 | k+1,hk=>fun q h=>by
  unfold qO at h;rcases List.mem_or_eq_of_mem_set h with e | e
  ·exact RP ok h8 hl hq k (by omega) q e
  ·rw[e];exact aEf ok h8 hl hq (by omega)
end
section
open Go.ChangeShapes Go.WideShapes Go.ChangeAt Go.RowKit
attribute [local go_sem ↓] aE
attribute [local go_sem] aJ aI aM aR
theorem IG(ok:bJ x)(hi:i<x.nodes.length):(iX x)[i]?=some (fV x i:Int)/\fV x i<aH x:=by
 obtain⟨h1,h2⟩:=lF ok;have hl:i<(iX x).length:=by rw[h1];exact hi
 have hm:=h2 _ (List.getElem_mem hl);have ht:=(GV (iX x)).2.1 _ (List.getElem_mem hl);have hb:=(eX ok).1;have e:(iX x).getD i 0=(iX x)[i]:=by rw[dN,iB hl];rfl
 unfold fV;rw[e,iB hl]
 constructor
 ·congr 1
  omega
 ·omega
theorem aB5(n:Nat):madeCells #[Value.int .i64 0] n=(ints (List.replicate n 0)).toArray:=by
 apply Array.ext';rw[toList_madeCells_one];unfold ints;simp
theorem dP.lower{base b2:Nat}{v:Value}{vs:List Rv}(h:dP w base v vs qs)(hb:b2<=base):dP w b2 v vs qs:=
 ⟨⟨h.own.1,h.own.2.imp id fun⟨g,cap,cur,h1,h2,h3⟩=>⟨g,cap,cur,h1,cO hb h2,h3⟩⟩,h.len,h.ok⟩
def aTJ(x:bO)(ps:List Int)(w:Wo)(e:Ending)(w':Wo):Prop:=Below w.heap.size w w'/\∃v us,e=.returned v/\dP w' w.heap.size v us (vQ x ps)
theorem aB3(g:Nat)(m:iU)(y:Value)(x:bO)(ok:bJ x)(A:OA)(n c:Nat)(ps:List Int)(w:Wo)(hg:aG w g 122 (m.cells y))(hr:fB w w.heap.size m x)(hp:o_ w w.heap.size A n ps)(hn:n=x.nodes.length)(hz:∀p∈ps,-100000<=p/\p<=100000):Calls Tryz.prog 57 #[.pointer (some ⟨g,0,none⟩),.slice A n c] w (aTJ x ps w):=by
 obtain⟨HG,HR,HP,bU⟩:=iK hg hr hp ok;have UG:Hid (ps.length=n):=lH hp.len;have aUP:Hid (n<=24):=lH (by rw[hn];exact ok.l0);have v_:=lH hn;have HAB:=lH (xJ (x:=x) hz);have HZ:=lH hz;have fC:Hid (m.n1=aH x):=lH (by rw[<-hr.r1.len];exact qQ ok);have IL:Hid (aH x<=24):=lH (cO (eX ok).2 ok.l0);have IM:=lH (nU g m y w hg);rw[fC.o] at IM;clear hg hr hp ok hn hz;have XJ:=IL.o;have vI:∀w:World,(Instr.makeSlice 30 (.int .i64 (aH x:Int)) (.int .i64 (aH x:Int))).run Tryz.prog w=.ok (.slice (some ⟨w.heap.size,0,none⟩) (aH x) (aH x)) (w.alloc (.cells (ints (List.replicate (aH x) 0)).toArray 3)):=fun w=>by
  rw[run_make_row' (P:=Tryz.prog) 30 3 (.int .i64 0) 8 Tryz.underlying30 SR rfl .i64 .i64 (aH x) (by omega) (by omega) w,aB5]
 go_enter Tryz.func57,Tryz.ntmps57
 go_wp2_with fail
 refine IM.o.mono ?_;rintro e w1 ⟨rfl,rfl⟩;have HG0:Hid (aG (w.alloc (.cells (ints (List.replicate (aH x) 0)).toArray 3)) w.heap.size 3 (ints (vK x ps 0)).toArray):=lH (by rw[YA];exact aG.new w _ _);have HZ0:=lH ((Below.refl w.heap.size w).alloc lR (.cells (ints (List.replicate (aH x) 0)).toArray 3))
 go_wp2_with fail
 clear vI;generalize w.alloc (.cells (ints (List.replicate (aH x) 0)).toArray 3)=w5 at *;obtain⟨gi,hgi⟩:∃gi,gi=w.heap.size:=⟨_,rfl⟩;rw[<-hgi] at HG0 HZ0 ⊢;have HGI:=lH hgi;clear hgi
 go_loopw [16] (fun v16 wr=>∃i:Nat,i<=n/\v16=.int .i64 i/\aG wr gi 3 (ints (vK x ps i)).toArray/\Below gi w wr) (fun v16 _=>n-(intOf v16).toNat)
 case atStart=>exact⟨0,by omega,rfl,HG0.o,HZ0.o⟩
 case round=>
  clear HG0 HZ0;obtain⟨i,hi,rfl,hb,hw⟩:=hrel;have yQ:=lH hb;have mE:Hid (Below w.heap.size w wr):=lH (by rw[<-HGI.o];exact hw);clear hb hw;by_cases aU:i<n
  ·obtain⟨p,hp⟩:∃p,ps[i]?=some p:=eA (by have:=UG.o;omega)
   obtain⟨GH,hbn⟩:=IG bU.o (i:=i) (by rw[<-v_.o];exact aU);have hpr:=HP.o.below mE.o lR;obtain⟨pb,po,hA,hpb,-⟩:=hpr.2 (by omega);subst hA;have cp:=hpr.at_ hp;have gN:=(HR.o.below mE.o lR).r0;obtain⟨bb,bo,hA0,pE,-⟩:=gN.2 (by have:=gN.len;have:=(lF bU.o).1;have:=v_.o;omega);have cb:=(show o_ wr w.heap.size (some ⟨bb,bo,none⟩) m.n0 (iX x) by rw[<-hA0];exact gN).at_ GH;have y0:=(HG.o.bl mE.o).cell 0;have yl:=(HG.o.bl mE.o).lt;replace y0:wr.cell? ⟨g,0,none⟩=some (.slice (some ⟨bb,bo,none⟩) m.n0 m.c0):=by rw[<-hA0];exact y0
   have cs:wr.cell? ⟨gi,fV x i,none⟩=some (.int .i64 (lY x ps i (fV x i))):=by
    rw[yQ.o.cell,List.getElem?_toArray];unfold ints;rw[iY,tO hbn];rfl
   have gl:=yQ.o.lt;have gf:=yQ.o.frozen;have jA:=HAB.o i (fV x i);have hpz:=HZ.o p (bV hp);have aN7:=aUP.o;have gQ:=lH (aCP hp hbn);have hwz:IntKind.i64.wrap (lY x ps i (fV x i)+p)=lY x ps i (fV x i)+p:=wJ (by omega) (by omega);have M9:(m.n0:Int)=(n:Int):=by have:=gN.len;have:=(lF bU.o).1;have:=v_.o;omega
   have DH:(i:Int)<(n:Int):=by omega
   have kA:=lZ i;have kT:=jF i;have hbI:(fV x i:Int)<(aH x:Int):=by omega
   have AZ:(0:Int)<=(fV x i:Int):=by omega
   have hbt:(fV x i:Int).toNat=fV x i:=jF _;have l9:=lN i;have jV:Hid (n-(i+1)<n-i):=lH (by omega);have yI:pb<wr.heap.size:=jE hpb mE.o.size;have sH:bb<wr.heap.size:=jE pE mE.o.size;clear hp GH hbn hpr hpb gN hA0 pE jA hpz;rw[M9.symm] at DH;(go_wp2_with fail);go_roundw
   case rel=>exact⟨i+1,aU,aO l9.o,yQ.o.set_at _ (by rw[<-gQ.o];unfold ints;rw[List.map_set];simp),(show Below gi w wr from by rw[HGI.o];exact mE.o).setCell lR _⟩
   case measure=>exact jV.o
  ·have DG:i=n:=by omega
   have HBE:Hid (aG wr gi 3 (ints (vK x ps ps.length)).toArray):=lH (by rw[UG.o,<-DG];exact yQ.o);have DH:¬(i:Int)<(n:Int):=by omega
   have XJ:=IL.o;clear DG;obtain⟨w6,sF⟩:∃w6,w6=wr:=⟨_,rfl⟩;rw[<-sF] at HBE mE ⊢;have fL:=lH mE.o;clear sF yQ mE;(go_wp2_with fail)
   go_loopw [8,38] (fun v8 v38 wr=>∃(k:Nat)(us:List Rv),k<=aH x/\v38=.int .i64 k/\dP wr w6.heap.size v8 us ((vQ x ps).take k)/\Below w6.heap.size w6 wr) (fun _ v38 _=>aH x-(intOf v38).toNat)
   case atStart=>exact⟨0,[],by omega,rfl,kY _ _,bR⟩
   case round=>
    obtain⟨k,us,hk,rfl,ho,hw⟩:=hrel;have HO:=lH ho;have DL:=lH hw;clear ho hw;by_cases hlk:k<aH x
    ·have hz:=tO (x:=x) (ps:=ps) (i:=ps.length) hlk
     have hb:=HBE.o.bl DL.o;obtain⟨z,nW⟩:∃z,lY x ps ps.length k=z:=⟨_,rfl⟩;rw[nW] at hz;have cz:wr.cell? ⟨gi,k,none⟩=some (.int .i64 z):=by
      rw[hb.cell,List.getElem?_toArray];unfold ints;rw[iY,hz];rfl
     have gl:=hb.lt;have jA:=HAB.o ps.length k;rw[nW] at jA;have yI:=UG.o;have aN7:=aUP.o;have HZB:Hid (-9223372036854775808<=z/\z<=9223372036854775807):=lH (by omega);have IK:Hid ((vQ x ps).take (k+1)=(vQ x ps).take k++[((z:Int):Rat)]):=lH (fE (by unfold vQ;rw[iY,hz];rfl));have fY:(k:Int)<(aH x:Int):=by omega
     have lB:=lZ k;have rJ:=jF k;have l9:=lN k;have jV:Hid (aH x-(k+1)<aH x-k):=lH (by omega);clear hz hb jA nW yI aN7;(go_upto_region 11 with fail);clear cz gl fY lB rJ;(go_wp2_with fail);refine(qD z wr HZB.o.1 HZB.o.2).mono ?_;rintro e v1 ⟨bC,r7,rfl,h7⟩;have lT:Hid (Below wr.heap.size wr v1):=lH bC;have H7:=lH h7;have U3:Hid (((vQ x ps).take k).length<=1000000):=lH (by rw[kR];omega);clear bC h7
     go_wp2_with (at_builtin;refine rL rfl (.tmp 42) (.tmp 45) _ rfl w6.heap.size Tryz.underlying93 _ us _ rfl (HO.o.keep lT.o) r7 _ H7.o rfl (by have:=U3.o;omega) (cO DL.o.size lT.o.size) ?_)
     intro v' w9 bB GD hob;have E7:=lH bB;have eV:=lH ((DL.o.tm lT.o).trans hob);clear bB GD hob lT HO H7 DL;(go_wp2_with fail);go_roundw
     case rel=>exact⟨k+1,us++[r7],hlk,aO l9.o,by rw[IK.o];exact E7.o,eV.o⟩
     case measure=>exact jV.o
    ·have nH:k=aH x:=by omega
     have QE:Hid (dP wr w6.heap.size u8 us (vQ x ps)):=lH (by
      have h:=HO.o;rw[nL (by rw[wX];omega)] at h;exact h)
     have fY:¬(k:Int)<(aH x:Int):=by omega
     (go_wp2_with fail);go_ret;exact⟨fL.o.tm DL.o,_,_,rfl,QE.o.lower fL.o.size⟩
end
section
open Go.ChangeShapes Go.WideShapes Go.ChangeAt Go.RowKit Go.Maps
attribute [local go_sem ↓] aE
attribute [local go_sem] aJ aI aM aR
theorem SI{x:bO}(n:Nat)(hz:∀i p,i<n->ps[i]?=some p->-100000<=p/\p<=100000)(hl:n<=ps.length):∀i:Nat,i<=n->∀k:Int,-(100000*(i:Int))<=qP x ps i k/\qP x ps i k<=100000*(i:Int)
 | 0,_,k=>by unfold qP;omega
 | i+1,hi,k=>by
  have ih:=SI (x:=x) n hz hl i (by omega) k;have hp:-100000<=ps.getD i 0/\ps.getD i 0<=100000:=by
   obtain⟨p,hp⟩:∃p,ps[i]?=some p:=eA (by omega);rw[dN,hp];exact hz i p (by omega) hp
  unfold qP;split<;>omega
def aOX(w:Wo)(b n:Nat)(x:bO)(ps:List Int)(i:Nat):Prop:=
 ∃D:DataW Unit,w.ownsMap Tryz.prog 3 (plainElem Tryz.prog 3) b n D/\IsMap D/\∀k:Int,D.atKey (.int .i64 k) (.lit (.int .i64 0))=.lit (.int .i64 (qP x ps i k))
theorem aRi(w:Wo):(zeroValue 3).run Tryz.prog w=.ok (.int .i64 0) w:=by kernel_rfl
theorem LK{w':Wo}{b:Nat}{D:DataW Unit}(h:w.ownsMap Tryz.prog 3 (plainElem Tryz.prog 3) b n D)(hb:Below w.heap.size w w'):w'.ownsMap Tryz.prog 3 (plainElem Tryz.prog 3) b n D:=h.kept (row:=none) ⟨hb.os,hb.tape,hb.output,hb.size,fun k hk _=>hb.block k hk⟩ (by simp)
theorem aIG{D:DataW Unit}(h2:IsMap D)(h3:∀k:Int,D.atKey (.int .i64 k) (.lit (.int .i64 0))=.lit (.int .i64 (qP x ps i k))){p:Int}(hp:ps[i]?=some p):IsMap (D.put (.int .i64 (sE x i)) (.lit (.int .i64 (qP x ps i (sE x i)+p))))/\∀k:Int,(D.put (.int .i64 (sE x i)) (.lit (.int .i64 (qP x ps i (sE x i)+p)))).atKey (.int .i64 k) (.lit (.int .i64 0))=.lit (.int .i64 (qP x ps (i+1) k)):=by
 refine⟨h2.put _ _,fun k=>?_⟩;have hg:ps.getD i 0=p:=by rw[dN,hp];rfl
 unfold qP;rw[hg];by_cases e:sE x i=k
 ·subst e
  rw[atKey_put_same h2 (k:=.int .i64 (sE x i)) trivial,if_pos rfl]
  try (cases i<;>rfl)
 ·rw[atKey_put_other (fun e2=>e (by injection e2 with _ e2;exact e2.symm)),h3,if_neg e,Int.add_zero]
  try (cases i<;>rfl)
theorem DR{P:Program}{o:Oper}{a:Act}{w:Wo}{K:Act->World->Prop}{Q:Exit->Act->World->Prop}(m x v:Operand)(t:TypeId)(hop:o.op=Op.mapUpdate t m x v)(k e:TypeId)(Kd:Keyed P k)(ht:P.underlying t=some (.map k e))(R:Value->Option (DataW Unit×List MemPlace))(b n:Nat)(D:DataW Unit)(hm:a.eval m=.map (some b))(bB:w.ownsMap P k R b n D)(hn:n<maxLen)(key val:Value)(kl:Lit)(hx:a.eval x=key)(hv:a.eval v=val)(aOg:keyOf P k key=some kl)(d:DataW Unit)(ps:List MemPlace)(aNI:R val=some (d,ps))(h:∀w',w'.ownsMap P k R b (n+1) (D.put kl d)->w.grownBy w' (some b)->K (a.put o.dst undef) w'):o.wp P a w K Q:=by
 obtain⟨w',O6,r1,r2⟩:=bB.update Kd ht hn aOg aNI;unfold Oper.wp;simp[execOp,hop,hm,hx,hv,O6,Result.andThen];exact h _ r1 r2
def a1b(x:bO)(ps:List Int)(w:Wo)(e:Ending)(w':Wo):Prop:=Below w.heap.size w w'/\∃c:Int,e=.returned (.int .i64 c)/\(c=0->b_ x=0/\ps.length=x.nodes.length/\(∀p∈ps,-100000<=p/\p<=100000)/\∀k,qP x ps ps.length k=0)
theorem aGw(h:bY)(x:bO)(A:OA)(n c:Nat)(ps:List Int)(w:Wo)(r:cQ w w.heap.size h x)(hp:o_ w w.heap.size A n ps)(hn:n<=9223372036854775807):Calls Tryz.prog 54 #[.agg h.cells,.slice A n c] w (a1b x ps w):=by
 have K0:=jT w (.cells h.cells 29);obtain⟨HK,P0,HX,HP⟩:=iK K0 (aG.new w 29 h.cells) (r.up K0) (hp.bm K0);have dZ:Hid (w.heap.size<=(w.alloc (.cells h.cells 29)).heap.size):=lH K0.size;have UG:Hid (ps.length=n):=lH hp.len;clear K0 r hp;obtain⟨D0,r0,s0,D1,r1,s1,D2,r2,s2,D3,r3,s3,D4,r4,s4,D5,r5,s5⟩:=h;obtain⟨y0,y1,y2,y3,y4,y5,nf,nlt⟩:=aW P0.o;dsimp only at y0 y1 y2 y3 y4 y5;go_enter Tryz.func54,Tryz.ntmps54
 go_wp2_with fail
 clear y0 y1 y2 y3 y4 y5 nf nlt;generalize w.alloc (.cells (bY.cells ⟨D0,r0,s0,D1,r1,s1,D2,r2,s2,D3,r3,s3,D4,r4,s4,D5,r5,s5⟩) 29)=W at *;refine(tM _ x W HX.o).mono ?_;rintro e w1 ⟨rfl,bC⟩;have bT:=lH (HK.o.trans (bC.mono dZ.o));replace HX:=lH (HX.o.up bC);replace HP:=lH (HP.o.bm bC);replace P0:=lH (P0.o.bl bC);clear bC HK dZ;by_cases mI:b_ x=0
 case neg=>
  have hB:(b_ x != 0)=true:=by simp[mI]
  have z7:=lH mI;generalize b_ x=ck at *;(go_wp2_with fail);go_ret;exact⟨bT.o,_,rfl,fun e=>absurd e z7.o⟩
 rw[mI];have z7:=lH mI;have bU:=lH (lW mI);have v_:Hid (x.nodes.length=r0):=lH HX.o.r0.1;clear mI;obtain⟨y0,y1,y2,y3,y4,y5,nf,nlt⟩:=aW P0.o;dsimp only at y0 y1 y2 y3 y4 y5;by_cases hnr:n=r0
 case neg=>
  have hB:((n:Int) != (r0:Int))=true:=by simp;omega
  (go_wp2_with fail);go_ret;exact⟨bT.o,_,rfl,fun e=>absurd e (by decide)⟩
 subst hnr
 go_wp2_with fail
 refine(PI ⟨D0,n,s0,D1,r1,s1,D2,r2,s2,D3,r3,s3,D4,r4,s4,D5,r5,s5⟩ x bU.o w1 HX.o).mono ?_;rintro e w2 ⟨bH,g1,g2,rfl,LP,lO,FR,rV⟩;have HNL:Hid (n<=24):=lH (by rw[<-v_.o];exact bU.o.l0);have hz:=jT w2 (.cells #[.slice (some ⟨g1,0,none⟩) n n,.slice (some ⟨g2,0,none⟩) (aH x) (aH x)] 50);obtain⟨P7,sM,iJ⟩:=d_ (aG.new w2 50 #[.slice (some ⟨g1,0,none⟩) n n,.slice (some ⟨g2,0,none⟩) (aH x) (aH x)]) (FR.bl hz) (rV.bl hz);have kS:=bH.tm hz;have dY:=bW bT kS;have Q2:=lH (HP.o.bm kS);clear bH LP lO FR rV hz kS bT HP HX P0 y0 y1 y2 y3 y4 y5 nf nlt
 go_upto_region 7 with fail
 generalize w2.alloc (.cells #[.slice (some ⟨g1,0,none⟩) n n,.slice (some ⟨g2,0,none⟩) (aH x) (aH x)] 50)=w3 at *;generalize w2.heap.size=p7 at *;have S2:=@run_makeMap Tryz.prog;have pI:=jT w3 (.map #[] 0);have HSM:Hid (∃m,aOX (w3.alloc (.map #[] 0)) w3.heap.size m x ps 0/\m<=0):=lH ⟨0,⟨.map [],World.ownsMap_made _ _ _ _,⟨[],rfl⟩,fun k=>rfl⟩,lR⟩;have HZ0:=lH pI;clear pI
 go_wp2_with fail
 clear S2;generalize w3.alloc (.map #[] 0)=wm at *;obtain⟨bm,zD⟩:∃bm,bm=w3.heap.size:=⟨_,rfl⟩;rw[<-zD] at HSM ⊢;have DL:=lH zD;clear zD
 go_loopw [28] (fun v28 wr=>∃i:Nat,i<=n/\v28=.int .i64 i/\(∃m,aOX wr bm m x ps i/\m<=i)/\(∀j p,j<i->ps[j]?=some p->-100000<=p/\p<=100000)/\Below w3.heap.size w3 wr) (fun v28 _=>n-(intOf v28).toNat)
 case atStart=>exact⟨0,by omega,rfl,HSM.o,fun j p hj=>by omega,HZ0.o⟩
 case round=>
  clear HSM HZ0;obtain⟨i,hi,rfl,⟨m,hs,mZ⟩,nW,hw⟩:=hrel;obtain⟨HSN,HZZ,mE⟩:=d_ hs nW hw;clear hs nW hw;by_cases aU:i<n
  ·obtain⟨p,hp⟩:∃p,ps[i]?=some p:=eA (by have:=UG.o;omega)
   have hpr:=Q2.o.below mE.o lR;obtain⟨pb,po,hA,hpb,-⟩:=hpr.2 (by omega);subst hA;have cp:=hpr.at_ hp;have yI:pb<wr.heap.size:=jE hpb mE.o.size;have DH:(i:Int)<(n:Int):=by omega
   have kA:=lZ i;have kT:=jF i;have HPI:=lH hp;have l9:=lN i;have jV:Hid (n-(i+1)<n-i):=lH (by omega);clear hp hpr hpb;by_cases hlo:p < -100000
   ·go_wp2_with fail
    go_ret;exact⟨dY.o.tm mE.o,_,rfl,fun e=>absurd e (by decide)⟩
   by_cases hhi:100000<p
   ·go_wp2_with fail
    go_ret;exact⟨dY.o.tm mE.o,_,rfl,fun e=>absurd e (by decide)⟩
   obtain⟨GH,hbn⟩:=IG bU.o (i:=i) (by rw[v_.o];exact aU);have K7:=qQ bU.o;have his:(qR x)[fV x i]?=some (sE x i):=by
    unfold sE;rw[dN,iB (by omega)];rfl
   have FR:=sM.o.bl mE.o;have rV:=iJ.o.bl mE.o;have h7:=P7.o.bl mE.o;have c1:=G9 FR GH;have c2:=G9 rV his;have l1:=FR.lt;have l2:=rV.lt;obtain⟨t0,t1,tl⟩:=h7.b2;obtain⟨D,bB,GC,xB⟩:=HSN.o;obtain⟨DJ,HMP,U7⟩:=d_ bB GC xB;have KR:Hid (keyOf Tryz.prog 3 (.int .i64 (sE x i))=some (.int .i64 (sE x i))):=lH (keyOf_int_mk Tryz.underlying3 (by
    have h1:=(qL (AN bU.o).1).2 _ (bV his);have h2:=(eX bU.o).2;have h3:=bU.o.l0;simp[Lit.wf,IntKind.min,IntKind.max,IntKind.signed,IntKind.bits];omega))
   have HLK:Hid (∀w',Below wr.heap.size wr w'->(Instr.lookup 154 (.map (some bm)) (.int .i64 (sE x i)) false).run Tryz.prog w'=.ok (.int .i64 (qP x ps i (sE x i))) w'):=lH fun w' hb=>by
    obtain⟨c,h1,h2,-⟩:=(LK DJ.o hb).lookup_int rR Tryz.underlying154 Tryz.underlying3 (aRi _) KR.o;rw[U7.o] at h2;injection h2 with h2;injection h2 with _ h2;rw[h2];exact h1
   have NZ:Hid (-2500000<=qP x ps i (sE x i)/\qP x ps i (sE x i)<=2500000):=lH (by
    have h1:=SI (x:=x) i HZZ.o (by have:=UG.o;omega) i lR (sE x i);have:=HNL.o;omega)
   have HPU:=lH (aIG HMP.o U7.o HPI.o);have hwz:IntKind.i64.wrap (qP x ps i (sE x i)+p)=qP x ps i (sE x i)+p:=wJ (by have:=NZ.o;omega) (by have:=NZ.o;omega);have hbI:(fV x i:Int)<(aH x:Int):=by omega
   have AZ:(0:Int)<=(fV x i:Int):=by omega
   have hbt:(fV x i:Int).toNat=fV x i:=jF _;clear GH K7 his FR rV h7 bB GC xB;(go_upto_region 13 with fail);refine kX 13 (fun hHeld=>?_);simp only[nI,List.take_zero];refine cW [0,1,2,3,4,5,6,7,8,9,11] ?_;refine gB 10 (v:=?_) ?_ hHeld ?_;rotate_left 1
   ·intro w' hSw;obtain⟨NC,-⟩:=aG6 hSw;have hlk:=HLK.o w' hSw;go_simp<;>with_reducible rfl
   (try simp only[Act.put,gL,gK,gJ]);refine cW [12] ?_;have HOD:Hid (wr.drew.ownsMap Tryz.prog 3 (plainElem Tryz.prog 3) bm m D):=lH DJ.o;have GP:=lH (mE.o.trans ((aK (Below.refl wr.heap.size wr)).mono mE.o.size));generalize wr.drew=v0 at *;refine eM ?_;refine DR (.tmp 39) (.tmp 48) (.tmp 51) 154 rfl 3 3 rR Tryz.underlying154 _ bm m D rfl HOD.o (by have:=HNL.o;unfold maxLen;omega) _ _ _ rfl rfl KR.o _ [] (plainElem_int Tryz.underlying3 (by have:=NZ.o;simp[Lit.wf,IntKind.min,IntKind.max,IntKind.signed,IntKind.bits];omega)) fun w5 FP hg5=>?_;have QA:Hid (aOX w5 bm (m+1) x ps (i+1)):=lH ⟨_,FP,HPU.o.1,HPU.o.2⟩;have eK:=lH (GP.o.grown hg5 GP.o.size (fun k hk=>by injection hk with hk;rw[<-hk,DL.o];exact lR));have HZ5:Hid (∀j q,j<i+1->ps[j]?=some q->-100000<=q/\q<=100000):=lH fun j q hj hq=>by
    by_cases e:j=i
    ·subst e
     rw[HPI.o] at hq;injection hq with hq;omega
    ·exact HZZ.o j q (by omega) hq
   have hnl:=HNL.o;clear FP hg5 hHeld cp yI c1 c2 l1 l2 t0 t1 tl hwz;(go_wp2_with fail);go_roundw
   case rel=>exact⟨i+1,aU,aO l9.o,⟨m+1,QA.o,by omega⟩,HZ5.o,eK.o⟩
   case measure=>exact jV.o
  ·have DG:n=i:=by omega
   subst DG;have DH:¬(n:Int)<(n:Int):=by omega
   have HZP:Hid (∀p∈ps,-100000<=p/\p<=100000):=lH fun p hp=>by
    obtain⟨j,hj⟩:=List.mem_iff_getElem?.1 hp;exact HZZ.o j p (by have:=(dH.1 hj).1;have:=UG.o;omega) hj
   obtain⟨D,bB,GC,xB⟩:=HSN.o;have U7:=lH xB;have DJ:=lH bB;clear GC xB bB;obtain⟨w6,sF⟩:∃w6,w6=wr:=⟨_,rfl⟩;rw[<-sF] at DJ mE ⊢;clear sF HSN
   go_wp2_with (first
    | (at_range;refine wpList_range_own _ rfl _ 154 rfl 3 3 rR Tryz.underlying154 _ bm m D rfl DJ.o ?_;intro w0 aR5 hg0 SW)
    | go_in)
   have hO:Hid (Below w3.heap.size w3 w0):=lH (mE.o.grown hg0 mE.o.size (fun k hk=>by cases hk));have HRS:Hid (∃left GJ,w0.ranges Tryz.prog 3 (plainElem Tryz.prog 3) bm w6.heap.size m D left GJ/\(∀k:Int,left (.int .i64 k)=false->qP x ps n k=0)/\Below w3.heap.size w3 w0):=lH ⟨_,_,aR5,fun k hk=>by
    have h1:=U7.o k;rw[atKey_of_not_has hk] at h1;injection h1 with h1;injection h1 with _ h1;exact h1.symm,hO.o⟩
   have HRB:Hid (w3.heap.size<=w6.heap.size):=lH mE.o.size;clear aR5 hg0 SW hO mE;generalize w6.heap.size=rb at *
   go_loopw [11] (fun _ wr=>∃(left:Lit->Bool)(GJ:Nat),wr.ranges Tryz.prog 3 (plainElem Tryz.prog 3) bm rb m D left GJ/\(∀k:Int,left (.int .i64 k)=false->qP x ps n k=0)/\Below w3.heap.size w3 wr) (fun _ wr=>wr.rangeLeft bm rb)
   case atStart=>exact HRS.o
   case round=>
    clear HRS;obtain⟨left,GJ,hrg,hzk,hb⟩:=hrel;obtain⟨HZK,HB,HRG⟩:=d_ hzk hb hrg;clear hzk hb hrg
    go_wp2_with (first
     | (at_next;refine wpList_next_ranges_ii _ rfl _ rfl 3 3 .i64 .i64 rR Tryz.underlying3 Tryz.underlying3 bm rb m _ _ _ rfl HRG.o ?_ ?_)
     | go_in)
    ·intro JV hl0
     have HL0:=lH hl0;clear JV hl0;(go_wp2_with fail);go_ret;exact⟨dY.o.tm HB.o,0,rfl,fun _=>⟨z7.o,UG.o.trans v_.o.symm,HZP.o,fun k=>by rw[UG.o];exact HZK.o k (HL0.o _)⟩⟩
    ·intro k c w4 cnt1 hwx K4 hlx xB hrg1 aU LP wZ hen
     have HC:Hid (c=qP x ps n k):=lH (by
      have h1:=U7.o k;rw[xB] at h1;injection h1 with h1;injection h1 with _ h1)
     have aU5:=lH hrg1;have sP:=lH aU;have bM:Hid (Below w3.heap.size w3 w4):=lH (HB.o.grown LP HB.o.size (fun j hj=>by injection hj with hj;rw[<-hj];exact HRB.o));clear xB hrg1 aU LP wZ hwx K4 hlx;by_cases hc:c=0
     ·subst hc
      (go_wp2_with fail);go_roundw
      case rel=>exact⟨_,cnt1,aU5.o,fun k2 rV=>by
       by_cases e:k2=k
       ·subst e;exact HC.o.symm
       ·refine HZK.o k2 ?_
        have h1:Lit.sameKey (.int .i64 k2) (.int .i64 k)=false:=sameKey_ne (fun e2=>e (by injection e2));simpa[h1] using rV,bM.o⟩
      case measure=>rw[aU5.o.left_eq,HRG.o.left_eq];exact sP.o
     ·have hB:(c != 0)=true:=by simp[hc]
      (go_wp2_with fail);go_ret;exact⟨dY.o.tm bM.o,_,rfl,fun e=>absurd e (by decide)⟩
end
section
open Go.ChangeShapes Go.WideShapes Go.ChangeAt Go.RowKit
attribute [local go_sem ↓] aE
attribute [local go_sem] aJ aI aM aR
def aTv(q:List Rat)(w:Wo)(e:Ending)(w':Wo):Prop:=Below w.heap.size w w'/\∃(g:Nat)(vs:List Rv),e=.returned (.slice (some ⟨g,0,none⟩) q.length q.length)/\w.heap.size<=g/\Vb w' g vs q
theorem aFf(g:Nat)(m:iU)(A7:OA)(c7:Nat)(x:bO)(ok:bJ x)(h8:x.nodes.length<=8)(A:OA)(n c:Nat)(lf:List Rat)(w:Wo)(hg:aG w g 122 (m.cells (.slice A7 (aA x).length c7)))(hr:fB w w.heap.size m x)(hi:lQ w w.heap.size A7 (aA x).length (yZ x))(hq:iT w w.heap.size A n lf)(hn:n=aH x)(hz:∀q∈lf,bI q<=20000000):Calls Tryz.prog 95 #[.pointer (some ⟨g,0,none⟩),.slice A n c] w (aTv (OH x lf) w):=by
 obtain⟨HG,HR,HI,HQ,bU⟩:=kN hg hr hi hq ok;have HZ:=lH hz;have v_:=lH hn;have E8:Hid (m.n6=(aA x).length):=lH (by rw[<-hr.r6.len,e_]);have uV:Hid ((aA x).length<=8):=lH (fZ ok h8);have IL:Hid (aH x<=8):=lH (cO (eX ok).2 h8);have fC:Hid (m.n1=aH x):=lH (by rw[<-hr.r1.len];exact qQ ok);have y6:=hg.cell 6;have yl:=hg.lt;obtain⟨A0,n0,c0,A1,n1,c1,A2,n2,c2,A3,n3,c3,A4,n4,c4,A5,n5,c5,A6,n6,c6⟩:=m;simp only[iU.cells] at HG E8 fC y6;have e6:=E8.o;subst e6;have hf8:=uV.o;have vI:∀w:World,(Instr.makeSlice 93 (.int .i64 ((aA x).length:Int)) (.int .i64 ((aA x).length:Int))).run Tryz.prog w=.ok (.slice (some ⟨w.heap.size,0,none⟩) (aA x).length (aA x).length) (w.alloc (.cells (fX (List.replicate (aA x).length DD)).toArray 115)):=fun w=>JK _ (by omega) w
 have U4:=lH ((Below.refl w.heap.size w).alloc lR (.cells (fX (List.replicate (aA x).length DD)).toArray 115));clear hg hr hi hq ok hn hz;go_enter Tryz.func95,Tryz.ntmps95
 have HG0:=lH (aG.new w 115 (fX (List.replicate (aA x).length DD)).toArray)
 go_wp2_with fail
 clear vI y6 yl;generalize w.alloc (.cells (fX (List.replicate (aA x).length DD)).toArray 115)=w5 at *;obtain⟨gr,hgr⟩:∃gr,gr=w.heap.size:=⟨_,rfl⟩;rw[<-hgr] at HG0 ⊢;have HGR:=lH hgr;clear hgr
 go_loopw [22] (fun v22 wr=>∃(i:Nat)(vs:List Rv),i<=(aA x).length/\v22=.int .i64 i/\vs.length=(aA x).length/\Below w.heap.size w wr/\aG wr gr 115 (fX vs).toArray/\lI wr vs ((rG x lf).take i)) (fun v22 _=>(aA x).length-(intOf v22).toNat)
 case atStart=>exact⟨0,_,by omega,rfl,rB,U4.o,HG0.o,fun i q v h=>by simp at h⟩
 case round=>
  clear HG0 U4;obtain⟨i,vs,hi,rfl,QR,hb,hg,hI⟩:=hrel;obtain⟨HB,HGq,HIq,F0⟩:=iK hb hg hI QR;clear hb hg hI QR;by_cases aU:i<(aA x).length
  ·obtain⟨f,hf⟩:∃f,(aA x)[i]?=some f:=⟨_,iB aU⟩
   have qU:=tH (bV hf);have rD:=(HR.o.below HB.o lR).r6;simp only at rD;obtain⟨fb,fo,hA6,aF7,-⟩:=rD.2 (by omega);subst hA6;have cf:=rD.at_ (fS hf);have hq:=(HQ.o.below HB.o lR).more HB.o.size;have hfn:f<n:=by rw[v_.o];exact qU
   obtain⟨qb,qo,hA,hqb⟩:=hq.form (by omega);subst hA;obtain⟨v,c0,c1,c2,c3,hV⟩:=hq.at_ (a_ (l:=lf) (i:=f) (by rw[hq.len];exact hfn));have HV:=lH hV;obtain⟨x0,O3⟩:∃x0,vs[i]?=some x0:=eA (by have:=F0.o;omega);obtain⟨e0,e1,e2,e3⟩:=OK HGq.o O3;have HX0:=lH O3;have gf:=HGq.o.frozen;have gl:=HGq.o.lt;have IK:Hid ((rG x lf).take (i+1)=(rG x lf).take i++[vf lf f]):=lH (fE (by unfold rG;rw[iY,hf];rfl));have DH:(i:Int)<((aA x).length:Int):=by omega
   have kA:=lZ i;have kT:=jF i;have hfI:(f:Int)<(n:Int):=by omega
   have NB:=lZ f;have aYp:=jF f;have l9:=lN i;have jV:Hid ((aA x).length-(i+1)<(aA x).length-i):=lH (by omega);have uK:fb<wr.heap.size:=jE aF7 HB.o.size;clear hf qU rD hq hV O3 aF7;(go_wp2_with fail);go_roundw
   case rel=>exact⟨i+1,vs.set i v,aU,aO l9.o,by rw[lS];exact F0.o,jC (v:=v) HB.o (Nat.le_of_eq HGR.o.symm),aG5 HGq.o (dH.1 HX0.o).1 v,by
    rw[IK.o];exact lI.put (v:=v) HIq.o HGq.o HX0.o HV.o (ZM (by rw[kR];unfold rG;rw[jO];omega))⟩
   case measure=>exact jV.o
  ·have DG:i=(aA x).length:=by omega
   have HRT:Hid (iT wr wr.heap.size (some ⟨gr,0,none⟩) (aA x).length (rG x lf)):=lH (by
    have h:=HIq.o;rw[nL (by unfold rG;rw[jO];omega)] at h;exact ZS HGq.o F0.o (by unfold rG;rw[jO]) h)
   have DH:¬(i:Int)<((aA x).length:Int):=by omega
   clear DG hi;obtain⟨w6,sF⟩:∃w6,w6=wr:=⟨_,rfl⟩;rw[<-sF] at HB HRT ⊢;clear sF HIq HGq F0;obtain⟨fL,Q5,LA,HI6⟩:=iK HB.o (HG.o.bl HB.o) (HR.o.up HB.o) (HI.o.bm HB.o);have sL:Hid (w.heap.size<=w6.heap.size):=lH HB.o.size;clear HB HG HR HI HQ;(go_wp2_with fail);refine(nU g ⟨A0,n0,c0,A1,n1,c1,A2,n2,c2,A3,n3,c3,A4,n4,c4,A5,n5,c5,A6,(aA x).length,c6⟩ (.slice A7 (aA x).length c7) w6 Q5.o).mono ?_;rintro e w6b ⟨rfl,rfl⟩;have e1:=fC.o;subst e1;(go_wp2_with fail);refine(mL (aH x) w6 (by have:=IL.o;omega)).mono ?_;rintro e w7 ⟨iA,ga,va,rfl,FS,pI,hva⟩;obtain⟨U1,E_,j_⟩:=d_ (N8 pI hva) FS iA;have y6:=(Q5.o.bl iA).cell 6;have yl:=(Q5.o.bl iA).lt;clear iA FS pI hva;(go_wp2_with fail);clear y6 yl
   go_loopw [43] (fun v43 wr=>∃(i:Nat)(us:List Rv),i<=(aA x).length/\v43=.int .i64 i/\Vb wr ga us (qO (aA x) (vO x lf) (jN (aH x)) i)/\Below w6.heap.size w6 wr) (fun v43 _=>(aA x).length-(intOf v43).toNat)
   case atStart=>exact⟨0,_,Nat.zero_le _,rfl,U1.o,j_.o⟩
   case round=>
    clear U1 j_;obtain⟨i,us,hi,rfl,hv,hb⟩:=hrel;have vM:=lH hv;have HB:=lH hb;clear hv hb;by_cases kT:i<(aA x).length
    ·obtain⟨f,hf⟩:∃f,(aA x)[i]?=some f:=⟨_,iB kT⟩
     have qU:=tH (bV hf);have rD:=(LA.o.below HB.o lR).r6;simp only at rD;obtain⟨fb,fo,hA6,aF7,-⟩:=rD.2 (by omega);subst hA6;have cf:=rD.at_ (fS hf);have hqi:=(HI6.o.below HB.o lR).more HB.o.size;obtain⟨row,gX⟩:∃row,(yZ x)[i]?=some row:=eA (by rw[(wW bU.o).1];exact kT);have w_:=(wW bU.o).2 row (bV gX);obtain⟨mb,mo,hA7,hmb⟩:=hqi.form (by omega);subst hA7;obtain⟨⟨qa,qn,qc⟩,q0,q1,q2,q3⟩:=hqi.at_ gX;dsimp only at q0 q1 q2 q3;have hqn:(aA x).length=qn:=by rw[<-q1.len];exact w_.symm
     subst hqn;have E4:=lH q1;have sC:=lH (SG bU.o h8 row (bV gX));have HRQ:Hid (∀q∈rG x lf,bI q<=20000000):=lH fun q h=>by
      unfold rG at h;obtain⟨f,hf,rfl⟩:=List.mem_map.1 h;by_cases uK:f<lf.length
      ·exact HZ.o _ (bV (a_ uK))
      ·unfold vf
       rw[dN,List.getElem?_eq_none (by omega)];exact cO (dV 0 (by decide) (by decide)) (by decide)
     have HED:Hid (jJ row (rG x lf)=vO x lf i):=lH (by
      unfold vO;rw[dN,gX];rfl)
     have aZ3:=lH (HRT.o.bm HB.o);have y6:=(Q5.o.bl HB.o).cell 7;have yl:=(Q5.o.bl HB.o).lt;have DH:(i:Int)<((aA x).length:Int):=by omega
     have kA:=lZ i;have aJK:=jF i;have hfI:(f:Int)<(aH x:Int):=by omega
     have NB:=lZ f;have aYp:=jF f;have l9:=lN i;have jV:Hid ((aA x).length-(i+1)<(aA x).length-i):=lH (by omega);have uK:fb<wr.heap.size:=jE aF7 HB.o.size;have LN:mb<wr.heap.size:=jE hmb lR;have HF:=lH hf;have tX:=lH qU;clear hf qU rD hqi gX w_ aF7 hmb q1 q2 q3;(go_wp2_with fail);refine(CS qa (aA x).length qc (some ⟨gr,0,none⟩) (aA x).length (aA x).length row (rG x lf) 20000000 wr E4.o aZ3.o lR (by omega) sC.o HRQ.o (by omega)).mono ?_;rintro e w8 ⟨gP,v8,rfl,h8⟩;rw[HED.o] at h8;obtain⟨dR,H8,HVq⟩:=d_ gP h8 (vM.o.up gP);have oP:f<(qO (aA x) (vO x lf) (jN (aH x)) i).length:=by rw[oX];unfold jN;rw[rB];exact tX.o
     obtain⟨xe',hx',c0,c1',c2',c3',l1,f1⟩:=HVq.o.elem (j:=f) oP;have HJL:=lH oP;clear gP h8 hx' oP q0 cf y6 yl uK LN;(go_wp2_with fail);go_roundw
     case rel=>exact⟨i+1,_,kT,aO l9.o,by
      have h:=HVq.o.put (j:=f) (x:=v8) HJL.o H8.o;have e:qO (aA x) (vO x lf) (jN (aH x)) (i+1)=(qO (aA x) (vO x lf) (jN (aH x)) i).set f (vO x lf i):=by
       show(qO (aA x) (vO x lf) (jN (aH x)) i).set ((aA x).getD i 0) (vO x lf i)=_;rw[dN,HF.o];rfl
      rw[e];exact h,jC (v:=v8) (HB.o.tm dR.o) E_.o⟩
     case measure=>exact jV.o
    ·have DG:i=(aA x).length:=by omega
     have HVE:Hid (Vb wr ga us (OH x lf)):=lH (by have h:=vM.o;rw[DG] at h;exact h);have DH:¬(i:Int)<((aA x).length:Int):=by omega
     (go_wp2_with fail);go_ret;exact⟨fL.o.tm HB.o,ga,us,by rw[wO];rfl,cO sL.o E_.o,HVE.o⟩
theorem N7{ops:Array Oper}{rest:List Oper}{o:Oper}{a:Act}{Q:Exit->Act->World->Prop}{w:Wo}(AK:o.guard=none)(s x:Operand)(t:TypeId)(ho:o.op=.call { callee:=.builtin .append,args:=#[s,x],argTypes:=#[t,t] })(base:Nat)(ht:Tryz.prog.underlying t=some (.slice 115))(v:Value)(hs:a.eval s=v)(bB:bK rF w base 115 4 v 0 [])(A:OA)(m c:Nat)(qs:List Rat)(hx:a.eval x=.slice A m c)(hr:iT w w.heap.size A m qs)(xC:m<=1000000)(cS:base<=w.heap.size)(h:∀A' c' us w',dP w' base (.slice A' m c') us qs->Below base w w'->wpList Tryz.prog ops Q rest (a.put o.dst (.slice A' m c')) w'):wpList Tryz.prog ops Q (o::rest) a w:=by
 obtain⟨i0,kA,rU,jR,kS⟩:=pW;obtain⟨vs,h1,h2,h3,h4⟩:=hr;refine oS (S:=rF) AK s x t ho base 115 i0 _ 4 64 ht kA rU jR kS rfl (by omega) wF v 0 [] hs bB A m c (fX vs) hx h3 (fun u hu=>?_) (by simp only[maxLen];omega) (by omega) cS fun v' w' g1 g2 _ _=>?_
 ·unfold fX at hu
  obtain⟨y,-,hy⟩:=List.mem_flatMap.1 hu;exact DZ y u hy
 ·rw[Nat.zero_add,List.nil_append] at g1
  obtain⟨A',c',e,-⟩:=bK.shape g1;subst e;exact h A' c' vs w' ⟨by rw[h1];exact g1,by rw[h1,h2],fun i q y hq hy=>(h4 i q y hq hy).keeps g2⟩ g2.low
theorem aBR:bK rF (w.alloc (.cells #[] 115)) w.heap.size 115 4 (.slice (some ⟨w.heap.size,0,none⟩) 0 0) 0 []:=
 ⟨rfl,.inr ⟨w.heap.size,0,#[],rfl,lR,aG.new w _ _,lR,by simp[maxLen],rfl,rfl,fun u hu=>by simp at hu⟩⟩
theorem X9(A:OA)(n c:Nat)(qs:List Rat)(w:Wo)(hr:iT w w.heap.size A n qs)(hn:n<=1000000):Calls Tryz.prog 94 #[.slice A n c] w fun e w'=>Below w.heap.size w w'/\∃A' c' us,e=.returned (.slice A' n c')/\dP w' w.heap.size (.slice A' n c') us qs:=by
 have q22:∀(w:Wo)(a:OA)(n c n' c':Nat),(binOp .eql 93 (.slice a n c) (.slice none n' c')).run Tryz.prog w=.ok (.bool a.isNone) w:=fun w a n c n' c'=>Lib.run_eql_slice_nil w _ _ a n c n' c' Tryz.underlying93;have HR:=lH hr;cases A with
 | none=>
  have h0:n=0:=by
   rcases Nat.eq_zero_or_pos n with h | h
   ·exact h
   ·obtain⟨b,off,e,_⟩:=hr.form h;cases e
  subst h0;have aCh:qs=[]:=List.eq_nil_of_length_eq_zero hr.len;subst aCh;clear hr HR;go_enter Tryz.func94,Tryz.ntmps94
  (go_wp2_with fail);go_ret;exact⟨bR,none,0,[],rfl,kY _ _⟩
 | some ad=>
  clear hr;have hz:=jT w (.cells #[] 115);have HZ:=lH hz;clear hz;go_enter Tryz.func94,Tryz.ntmps94
  go_wp2_with (at_builtin;refine N7 rfl _ _ 93 rfl w.heap.size Tryz.underlying93 _ rfl aBR (some ad) n c qs rfl ?qc1 ?qc2 ?qc3 ?_)
  case qc1=>exact(HR.o.below HZ.o lR).more HZ.o.size
  case qc2=>exact hn
  case qc3=>exact HZ.o.size
  intro A' c' us w' ho hb;have HO:=lH ho;have HB:=lH (HZ.o.trans hb);clear ho hb;(go_wp2_with fail);go_ret;exact⟨HB.o,A',c',us,rfl,HO.o⟩
end
