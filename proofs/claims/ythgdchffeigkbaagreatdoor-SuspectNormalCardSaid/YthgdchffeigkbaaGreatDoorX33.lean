import Derived.Test.YthgdchffeigkbaaGreatDoorX28
import Derived.Test.YthgdchffeigkbaaGreatDoorX32
set_option linter.unusedVariables false
set_option linter.unusedSimpArgs false
namespace Go.Proofs.YthgdchffeigkbaaGreatDoor
section
def yF (x:bE) (ms:List Mi):Fn:=fun k=>match ms[k]? with | some m=>kB m.txt-(aS x m).2 | none=>0
def fM (x:bE) (ms:List Mi):Ls:=⟨(aA x).length,ms.length,fun k=>vf ((aR x ms).getD k []),S2 ms,yF x ms⟩
section
variable {x:bE} {ms:List Mi}
theorem pH {k:Nat} {m:Mi} (h:ms[k]?=some m):(fM x ms).R k=vf (f_ x (aS x m).1):=by
 show vf ((aR x ms).getD k [])=_;unfold aR;rw [eY,kI,h];rfl
theorem aLD {k:Nat} {m:Mi} (h:ms[k]?=some m):(fM x ms).w k=(m.wt:Rat):=BC h
theorem aOV {k:Nat} {m:Mi} (h:ms[k]?=some m):(fM x ms).y k=kB m.txt-(aS x m).2:=by
 show yF x ms k=_;unfold yF;rw [h]
theorem aDI {k:Nat} (h:k<(fM x ms).K):∃ m,ms[k]?=some m:=⟨_,jA h⟩
theorem GC (tQ:∀ m∈ms,1<=m.wt):(fM x ms).Pos:=fun k hk=>by
 obtain ⟨m,hm⟩:=aDI hk;rw [aLD hm];have:=tQ m (cO hm);exact Rat.intCast_pos.2 (by omega)
theorem uR {n i:Nat} {M:List (List Rat)} (hi:i<n):∃ r,(dS n M ms)[i]?=some r/\r.length=n/\∀ j,j<n->vf r j=CJ M ms M.length i j:=
 ⟨_,by unfold dS;rw [kI,List.getElem?_range hi];rfl,by simp,fun j hj=>iA (by rw [kI,List.getElem?_range hj];rfl)⟩
theorem lU {n:Nat} {M:List (List Rat)}:∀ a∈dS n M ms,a.length=(dS n M ms).length:=by
 rw [cL];intro a ha;unfold dS at ha;obtain ⟨i,hi,rfl⟩:=List.mem_map.1 ha;simp
theorem lI:(aR x ms).length=ms.length:=by unfold aR;rw [lB]
theorem aT5 (i j:Nat):CJ (aR x ms) ms (aR x ms).length i j=(fM x ms).G i j:=by
 rw [lI];rfl
theorem AF {i:Nat} {r:List Rat} (hr:(dS (aA x).length (aR x ms) ms)[i]?=some r) (c:Fn):bB (aA x).length (vf r) c=bB (fM x ms).n ((fM x ms).G i) c:=by
 have hi:i<(aA x).length:=by have:=(dP.1 hr).1;rwa [cL] at this
 obtain ⟨r',GM,-,hv⟩:=uR (M:=aR x ms) (ms:=ms) hi;rw [hr] at GM;injection GM with GM;subst GM;exact kQ (fun j hj=>by rw [hv j hj,aT5]) fun _ _=>rfl
theorem uV (tQ:∀ m∈ms,1<=m.wt):mI x ms<->∀ c:Fn,(∀ k,k<ms.length->bB (aA x).length ((fM x ms).R k) c=0)->∀ j,j<(aA x).length->c j=0:=by
 unfold mI;rw [aHt lU,cL];have key:∀ c:Fn,NQ (aA x).length (yS (dS (aA x).length (aR x ms) ms)) c<->∀ k,k<ms.length->bB (aA x).length ((fM x ms).R k) c=0:=fun c=>by
  rw [qI];refine Iff.trans ?_ ((GC (x:=x) tQ).ker c)
  constructor
  ·intro h i hi
   obtain ⟨r,hr,-,-⟩:=uR (M:=aR x ms) (ms:=ms) (n:=(aA x).length) hi;rw [<-AF hr];exact h i r hr
  ·intro h i r hr
   rw [AF hr];exact h i (by have:=(dP.1 hr).1;rwa [cL] at this)
 exact ⟨fun h c hc=>h c ((key c).2 hc),fun h c hc=>h c ((key c).1 hc)⟩
theorem XW {i:Nat} (hi:i<(aA x).length):((mE (dS (aA x).length (aR x ms) ms)).getD i []).length=(aA x).length:=by
 have h:=rW (M:=dS (aA x).length (aR x ms) ms) lU;rw [cL] at h;obtain ⟨r,hr⟩:∃ r,(mE (dS (aA x).length (aR x ms) ms))[i]?=some r:=eO (by rw [h.1];exact hi);rw [eY,hr];exact h.2 r (cO hr)
theorem aID {i:Nat} (hi:i<(aA x).length):lW x ms i=pI (dS (aA x).length (aR x ms) ms) (vf (lC (aA x).length x ms ms.length)) i:=by
 unfold lW pI;rw [cL];exact G4 (XW hi) eZ
theorem aLk {i:Nat} (hi:i<(aA x).length):vf (lC (aA x).length x ms ms.length) i=(fM x ms).rt i:=by
 rw [zE hi];unfold Ls.rt;refine aN fun t ht=>?_;obtain ⟨m,hm⟩:=aDI (x:=x) ht;rw [aLD hm,aOV hm,AL hm];rfl
theorem YH (hr:mI x ms):(fM x ms).Sol (lW x ms):=fun i hi=>by
 obtain ⟨r,GM,hl,hv⟩:=uR (M:=aR x ms) (ms:=ms) (n:=(aA x).length) hi;have h1:=XX lU hr (vf (lC (aA x).length x ms ms.length)) GM;rw [cL] at h1;rw [<-AF GM,kQ (fun _ _=>rfl) (fun j hj=>aID hj),h1];exact aLk hi
end
theorem ML {p:Nat->Bool}:∀ {n i j:Nat},(kE p n)[i]?=some j->p j=true/\j<n/\I5 p j=i
 | 0,i,j,h=>by simp [kE] at h
 | n+1,i,j,h=>by
  rw [BV] at h
  by_cases hi:i<(kE p n).length
  ·rw [xQ hi] at h
   obtain ⟨h1,h2,h3⟩:=ML h;exact ⟨h1,by omega,h3⟩
  ·rw [AZ (by omega)] at h
   cases hp:p n with
   | false=>rw [hp] at h;simp at h
   | true=>
    rw [hp,if_pos rfl] at h;have hl:=(dP.1 h).1;simp only [List.length_singleton] at hl;have h0:i-(kE p n).length=0:=by omega
    rw [h0] at h;simp at h;subst h;rw [rP] at hi h0;exact ⟨hp,Nat.lt_succ_self _,by omega⟩
theorem vS {p:Nat->Bool} {j:Nat} (hp:p j=true):∀ {n:Nat},j<n->(kE p n)[I5 p j]?=some j
 | 0,h=>by omega
 | n+1,h=>by
  rw [BV]
  by_cases hj:j<n
  ·have:=vS hp hj
   rw [xQ (dP.1 this).1];exact this
  ·have:j=n:=by omega
   subst this;rw [AZ (by rw [rP];exact lR),rP,Nat.sub_self,if_pos hp];rfl
theorem aDL {p:Nat->Bool} {n:Nat} {d:Fn}:∀ {k:Nat},k<=I5 p n->∀ j,j<n->vf (xX (kE p n) d (jX n) k) j=if p j=true/\I5 p j<k then d (I5 p j) else 0
 | 0,_,j,_=>by rw [if_neg (by omega)];exact L7 n j
 | k+1,hk,j,hj=>by
  have ih:=aDL (d:=d) (p:=p) (n:=n) (k:=k) (by omega) j hj;unfold xX;obtain ⟨j0,h0⟩:∃ j0,(kE p n)[k]?=some j0:=eO (by rw [rP];omega);obtain ⟨h1,h2,h3⟩:=ML h0;have e:(kE p n).getD k 0=j0:=by rw [eY,h0];rfl
  rw [e,FE (by rw [rT];unfold jX;rw [o3];exact h2),ih]
  by_cases hjj:j=j0
  ·subst hjj
   rw [if_pos rfl,if_pos ⟨h1,by omega⟩,h3]
  ·rw [if_neg hjj]
   by_cases hp:p j=true
   ·have cP:I5 p j≠k:=fun e=>by
     have h4:=vS hp hj;rw [e,h0] at h4;injection h4 with h4;exact hjj h4.symm
    by_cases aW:I5 p j<k
    ·rw [if_pos ⟨hp,aW⟩,if_pos ⟨hp,by omega⟩]
    ·rw [if_neg (fun h=>aW h.2),if_neg (fun h=>by omega)]
   ·rw [if_neg (fun h=>hp h.1),if_neg (fun h=>hp h.1)]
section
variable {x:bE} {ms:List Mi}
theorem YI:(bX x ms).length=aI x:=by unfold bX;rw [rT];exact o3
theorem aHW {d:Fn} {j:Nat} (hj:j<aI x):vf (xX (aA x) d (jX (aI x)) (aA x).length) j=ext (iB (jH x)) d j:=by
 have h:=aDL (p:=iB (jH x)) (d:=d) (n:=aI x) (k:=(aA x).length) (Nat.le_of_eq (rP _ _)) j hj;unfold aA at h ⊢;rw [h];unfold ext
 by_cases hp:iB (jH x) j=true
 ·have h2:=(dP.1 (vS hp hj)).1
  rw [if_pos ⟨hp,h2⟩,if_pos hp]
 ·rw [if_neg (fun h=>hp h.1),if_neg hp]
theorem VJ {j:Nat} (hj:j<aI x):vf (bX x ms) j=ext (iB (jH x)) (lW x ms) j:=aHW hj
def frF (x:bE) (al:List Rat):Fn:=fun i=>vf al ((aA x).getD i 0)
def Grd (x:bE) (al:List Rat):Prop:=al.length=aI x/\∀ j,j<aI x->iB (jH x) j=false->vf al j=0
theorem Grd.ext {al:List Rat} (h:Grd x al) {j:Nat} (hj:j<aI x):vf al j=ext (iB (jH x)) (frF x al) j:=by
 unfold Go.Proofs.YthgdchffeigkbaaGreatDoor.ext
 by_cases hp:iB (jH x) j=true
 ·rw [if_pos hp]
  unfold frF aA;rw [eY,vS hp hj];rfl
 ·rw [if_neg hp]
  exact h.2 j hj (by simpa using hp)
theorem M7 {i:Nat} (hi:i<(aA x).length):∃ j,(aA x)[i]?=some j/\iB (jH x) j=true/\j<aI x/\I5 (iB (jH x)) j=i:=by
 obtain ⟨j,hj⟩:∃ j,(aA x)[i]?=some j:=⟨_,jA hi⟩;exact ⟨j,hj,ML hj⟩
theorem YJ:Grd x (bX x ms):=⟨YI,fun j hj hf=>by rw [VJ hj];unfold ext;rw [hf];rfl⟩
theorem aEV {i:Nat} (hi:i<(aA x).length):frF x (bX x ms) i=lW x ms i:=by
 obtain ⟨j,h1,h2,h3,h4⟩:=M7 hi;unfold frF;rw [eY,h1];show vf (bX x ms) j=_;rw [VJ h3];unfold ext;rw [if_pos h2,h4]
theorem Grd.dot {al q:List Rat} (h:Grd x al) (hq:q.length=aI x):jJ q al=bB (aA x).length (vf (f_ x q)) (frF x al):=by
 rw [G4 hq h.1,aCO];exact aN fun j hj=>by rw [h.ext hj]
theorem Grd.eq {al be:List Rat} (h1:Grd x al) (h2:Grd x be) (he:∀ i,i<(aA x).length->frF x al i=frF x be i):al=be:=by
 apply List.ext_getElem?;intro j
 by_cases hj:j<aI x
 ·have e:vf al j=vf be j:=by
   rw [h1.ext hj,h2.ext hj];unfold Go.Proofs.YthgdchffeigkbaaGreatDoor.ext
   by_cases hp:iB (jH x) j=true
   ·rw [if_pos hp,if_pos hp]
    exact he _ (dP.1 (vS hp hj)).1
   ·rw [if_neg hp,if_neg hp]
  rw [bI (l:=al) (i:=j) (by rw [h1.1];exact hj),bI (l:=be) (i:=j) (by rw [h2.1];exact hj),e]
 ·rw [List.getElem?_eq_none (by rw [h1.1];omega),List.getElem?_eq_none (by rw [h2.1];omega)]
theorem ZT {a b:Fn} (h:(fM x ms).Sol a) (he:∀ i,i<(aA x).length->a i=b i):(fM x ms).Sol b:=fun i hi=>by
 rw [<-h i hi];exact kQ (fun _ _=>rfl) fun j hj=>(he j hj).symm
theorem QY (hr:mI x ms):(fM x ms).Sol (frF x (bX x ms)):=ZT (YH hr) fun i hi=>(aEV hi).symm
theorem aCT (ok:cN x) (hm:∀ m∈ms,nV x m) {al:List Rat} (h:Grd x al) {k:Nat} {m:Mi} (hk:ms[k]?=some m):kB m.txt-(jJ (aS x m).1 al+(aS x m).2)=(fM x ms).res (frF x al) k:=by
 unfold Ls.res;rw [aOV hk,pH hk];rw [h.dot (lV ok (hm m (cO hk))).len];show _=_-bB (aA x).length _ _;grind
theorem KC (ok:cN x) (hm:∀ m∈ms,nV x m) {al:List Rat} (h:Grd x al) {k:Nat} (hk:k<ms.length):(bD x ms al)[k]?=some ((fM x ms).res (frF x al) k):=by
 obtain ⟨m,h0⟩:∃ m,ms[k]?=some m:=⟨_,jA hk⟩;unfold bD;rw [kI,h0];exact congrArg some (aCT ok hm h h0)
theorem iD {al:List Rat}:(bD x ms al).length=ms.length:=by unfold bD;rw [lB]
theorem TC {qs:List Rat} {n:Nat} (h:qs.length=n):sI qs=aO n (vf qs):=by
 have key:∀ k,k<=n->sI (qs.take k)=aO k (vf qs):=fun k=>by
  induction k with
  | zero=>intro _;rfl
  | succ k ih=>
   intro hk;have h1:qs[k]?=some (vf qs k):=bI (by omega);rw [kJ h1,BH,ih (by omega)];rfl
 have:=key n lR;rwa [nW (by omega)] at this
end
section
variable {x:bE} {ms:List Mi} {by_:Int}
end
section
variable {x:bE} {ms:List Mi}
end
def mM (x:bE) (m:Mi) (e:Nat) (b:Br):Int:=if m.kind=0 then (if e=(lY x m.name).toNat then 1 else 0) else if m.kind=2 then 0 else (if aV x b.fr=aV x m.name then 1 else 0)-(if aV x b.to=aV x m.name then 1 else 0)
def mN (x:bE) (m:Mi) (j:Nat):Int:=if m.kind=0 then 0 else if m.kind=2 then (if j=aV x m.name then 1 else 0) else 0
def twI (u v j:Nat):Int:=(if j=u then 1 else 0)-(if j=v then 1 else 0)
theorem GF (c:Prop) [Decidable c]:(((if c then 1 else 0:Int)):Rat)=if c then 1 else 0:=by split<;>rfl
theorem aCr (u v j:Nat):((twI u v j:Int):Rat)=two u v j:=by
 unfold twI two;rw [Rat.intCast_sub,GF,GF]
theorem aLB (x:bE) (m:Mi) (e:Nat) (b:Br):(mM x m e b).natAbs<=1:=by
 unfold mM
 split
 ·split<;>decide
 ·split
  ·decide
  ·split<;>split<;>decide
theorem aLA (x:bE) (m:Mi) (j:Nat):(mN x m j).natAbs<=1:=by
 unfold mN
 split
 ·decide
 ·split
  ·split<;>decide
  ·decide
theorem aG4 (u v j:Nat):(twI u v j).natAbs<=1:=by unfold twI;split<;>split<;>decide
section
variable {x:bE}
theorem UO (ok:cN x) {b:Br} (hb:b∈x.brs) {bus:Nat} {s:List Rat×Rat} (h1:s.1.length=aI x) (j:Nat) :
    (lP bus (aV x b.fr) (aV x b.to) (gQ b) (nI b) s).1.length=aI x/\vf (lP bus (aV x b.fr) (aV x b.to) (gQ b) (nI b) s).1 j=vf s.1 j+(((if aV x b.fr=bus then 1 else 0)-(if aV x b.to=bus then 1 else 0):Int):Rat)*(gQ b*two (aV x b.fr) (aV x b.to) j):=by
 have hu:=(dD ok (ok.br b hb).1).2.1;have hv:=(dD ok (ok.br b hb).2.1).2.1;have e1:vf (l9 (sg false (gQ b)) (aV x b.fr) (aV x b.to) s.1) j=vf s.1 j+gQ b*two (aV x b.fr) (aV x b.to) j:=NN (by omega) (by omega) j;have step:∀ {q:List Rat},q.length=aI x->vf (l9 (sg true (gQ b)) (aV x b.fr) (aV x b.to) q) j=vf q j-gQ b*two (aV x b.fr) (aV x b.to) j:=fun {q} hq=>by
  rw [NN (by omega) (by omega)];unfold sg;simp only [if_true];grind
 have i1:((1:Int):Rat)=1:=rfl;have i0:((0:Int):Rat)=0:=rfl;rw [Rat.intCast_sub];unfold lP;dsimp only
 by_cases c1:aV x b.fr=bus
 ·by_cases c2:aV x b.to=bus
  ·rw [if_pos c1,if_pos c2,if_pos c1,if_pos c2]
   refine ⟨by rw [l8,l8];exact h1,?_⟩;rw [step (by rw [l8];exact h1),e1,i1];grind
  ·rw [if_pos c1,if_neg c2,if_pos c1,if_neg c2]
   refine ⟨by rw [l8];exact h1,?_⟩;rw [e1,i1,i0];grind
 ·by_cases c2:aV x b.to=bus
  ·rw [if_neg c1,if_pos c2,if_neg c1,if_pos c2]
   refine ⟨by rw [l8];exact h1,?_⟩;rw [step h1,i1,i0];grind
  ·rw [if_neg c1,if_neg c2,if_neg c1,if_neg c2]
   refine ⟨h1,?_⟩;rw [i0];grind
theorem P7 (ok:cN x) {bus:Nat} (j:Nat):∀ (bs:List Br) (s:List Rat×Rat),(∀ b∈bs,b∈x.brs)->s.1.length=aI x->
    vf (pJ bus (bs.map gQ) (bs.map nI) (bs.map fun b=>aV x b.fr) (bs.map fun b=>aV x b.to) s).1 j=vf s.1 j+MS (bs.map fun b=>(((if aV x b.fr=bus then 1 else 0)-(if aV x b.to=bus then 1 else 0):Int):Rat)*(gQ b*two (aV x b.fr) (aV x b.to) j))
 | [],s,_,_=>by
  show vf s.1 j=vf s.1 j+MS [];unfold MS;rw [Rat.add_zero]
 | b::bs,s,h,h1=>by
  obtain ⟨h2,h3⟩:=UO ok (h b (by simp)) (bus:=bus) h1 j;have ih:=P7 ok (bus:=bus) j bs _ (fun a ha=>h a (by simp [ha])) h2;simp only [List.map_cons];unfold pJ;rw [ih,h3];show _=vf s.1 j+(_+MS _);rw [Rat.add_assoc]
theorem aIx (ok:cN x) {m:Mi} (hm:nV x m) {j:Nat} (hj:j<aI x) :
    vf (aS x m).1 j=aO x.brs.length (fun e=>match x.brs[e]? with | some b=>((mM x m e b:Int):Rat)*(gQ b*two (aV x b.fr) (aV x b.to) j) | none=>0)+((mN x m j:Int):Rat):=by
 have i1:((1:Int):Rat)=1:=rfl;have i0:((0:Int):Rat)=0:=rfl;have hzl:(jX (aI x)).length=aI x:=o3;unfold aS mN
 by_cases h0:m.kind=0
 ·rw [if_pos h0,if_pos h0]
  have h1:=hm.1 h0;rcases pP x m.name with ⟨e,_⟩ | ⟨i,b,e,hb,_⟩
  ·omega
  ·obtain ⟨a1,a2,a3,a4⟩:=lO hb
   have CD:=(dP.1 hb).1;have hbm:=cO hb;have hu:=(dD ok (ok.br b hbm).1).2.1;have hv:=(dD ok (ok.br b hbm).2.1).2.1;have e1:(lY x m.name).toNat=i:=by omega
   simp only [e1,eY,iA a3,iA a4,a1,a2,Option.getD_some];rw [NN (by omega) (by omega),L7];rw [iN CD (fun e2 he2 cP=>by
    obtain ⟨b2,bL⟩:∃ b2,x.brs[e2]?=some b2:=⟨_,jA he2⟩;rw [bL];show ((mM x m e2 b2:Int):Rat)*_=0;unfold mM;rw [if_pos h0,e1,if_neg cP,i0,Rat.zero_mul])]
   rw [hb];show _=((mM x m i b:Int):Rat)*_+_;unfold mM;rw [if_pos h0,e1,if_pos rfl,i1,i0];unfold sg;grind
 ·rw [if_neg h0,if_neg h0]
  by_cases h2:m.kind=2
  ·rw [if_pos h2,if_pos h2]
   rw [eV (fun e he=>by
    obtain ⟨b2,bL⟩:∃ b2,x.brs[e]?=some b2:=⟨_,jA he⟩;rw [bL];show ((mM x m e b2:Int):Rat)*_=0;unfold mM;rw [if_neg h0,if_pos h2,i0,Rat.zero_mul])]
   have aVK:=(dD ok (hm.2 h0)).2.1;rw [FE (by rw [hzl];exact aVK),L7,GF,Rat.zero_add]
  ·rw [if_neg h2,if_neg h2]
   have e1:=GH x;rw [e1.1,e1.2];have h3:=P7 ok (bus:=aV x m.name) j x.brs (jX (aI x),0) (fun b hb=>hb) hzl;show vf (pJ (aV x m.name) (x.brs.map gQ) (x.brs.map nI) _ _ (jX (aI x),0)).1 j=_;rw [h3,<-ZN,TC (n:=x.brs.length) (by rw [lB])];show vf (jX (aI x)) j+_=_;rw [L7,Rat.zero_add,i0,Rat.add_zero];refine aN fun e he=>?_;obtain ⟨b2,bL⟩:∃ b2,x.brs[e]?=some b2:=⟨_,jA he⟩;rw [iA (by rw [kI,bL];rfl),bL];show _=((mM x m e b2:Int):Rat)*_;unfold mM;rw [if_neg h0,if_neg h2]
def aKn (x:bE) (ms:List Mi):Aug where
 E:=x.brs.length
 X:=fun e=>match x.brs[e]? with | some b=>b.x*b.tap | none=>1
 tw:=fun e i=>match x.brs[e]? with | some b=>twI (aV x b.fr) (aV x b.to) ((aA x).getD i 0) | none=>0
 M:=fun k e=>match ms[k]?,x.brs[e]? with | some m,some b=>mM x m e b | _,_=>0
 N:=fun k i=>match ms[k]? with | some m=>mN x m ((aA x).getD i 0) | none=>0
 w:=fun k=>match ms[k]? with | some m=>m.wt | none=>1
def lsY (x:bE) (ms:List Mi) (y:Fn):Ls:=⟨(aA x).length,ms.length,fun k=>vf ((aR x ms).getD k []),S2 ms,y⟩
theorem aMF (ok:cN x) {ms:List Mi} (hm:∀ m∈ms,nV x m) (hw:∀ m∈ms,1<=m.wt/\m.wt<=1000) (y:Fn):(aKn x ms).Ok (lsY x ms y) where
 x:=fun e he=>by
  obtain ⟨b,hb⟩:∃ b,x.brs[e]?=some b:=⟨_,jA he⟩;have hX:(aKn x ms).X e=b.x*b.tap:=by
   show (match x.brs[e]? with | some b=>b.x*b.tap | none=>1)=_;rw [hb]
  rw [hX];obtain ⟨h1,h2,h3,h4,-⟩:=IA (ok.br b (cO hb)).2.2.2;have h5:=Int.mul_le_mul h2 h4 (by omega) (by decide);have h6:=Int.mul_pos (show 0<b.x by omega) (show 0<b.tap by omega);omega
 t:=fun e i=>by
  show (match x.brs[e]? with | some b=>twI _ _ _ | none=>0).natAbs<=1
  split
  ·exact aG4 _ _ _
  ·decide
 m:=fun k e=>by
  show (match ms[k]?,x.brs[e]? with | some m,some b=>mM x m e b | _,_=>0).natAbs<=1
  split
  ·exact aLB _ _ _ _
  ·decide
 n:=fun k i=>by
  show (match ms[k]? with | some m=>mN x m _ | none=>0).natAbs<=1
  split
  ·exact aLA _ _ _
  ·decide
 w:=fun k AW=>by
  obtain ⟨m,sP⟩:∃ m,ms[k]?=some m:=⟨_,jA AW⟩;have h1:=hw m (cO sP);show 1<=(match ms[k]? with | some m=>m.wt | none=>1)/\_<=_/\S2 ms k=_;rw [BC sP];show 1<=(match ms[k]? with | some m=>m.wt | none=>1)/\(match ms[k]? with | some m=>m.wt | none=>1)<=1000/\(m.wt:Rat)=((match ms[k]? with | some m=>m.wt | none=>1:Int):Rat);rw [sP];exact ⟨h1.1,h1.2,rfl⟩
 r:=fun k AW i hi=>by
  obtain ⟨m,sP⟩:∃ m,ms[k]?=some m:=⟨_,jA AW⟩;obtain ⟨j,hj,-,hjb,-⟩:=M7 (x:=x) hi;have h1:=pH (x:=x) sP;show (fM x ms).R k i=_;rw [h1];have e1:vf (f_ x (aS x m).1) i=vf (aS x m).1 j:=iA (by unfold f_;rw [kI,hj];rfl);rw [e1,aIx ok (hm m (cO sP)) hjb];have e2:(aA x).getD i 0=j:=by rw [eY,hj];rfl
  congr 1
  ·refine aN fun e he=>?_
   obtain ⟨b,hb⟩:∃ b,x.brs[e]?=some b:=⟨_,jA he⟩;show _=((match ms[k]?,x.brs[e]? with | some m,some b=>mM x m e b | _,_=>0:Int):Rat)*((1000000 / ((match x.brs[e]? with | some b=>b.x*b.tap | none=>1:Int):Rat))*((match x.brs[e]? with | some b=>twI (aV x b.fr) (aV x b.to) ((aA x).getD i 0) | none=>0:Int):Rat));rw [sP,hb,e2];show ((mM x m e b:Int):Rat)*(gQ b*two _ _ j)=((mM x m e b:Int):Rat)*((1000000 / ((b.x*b.tap:Int):Rat))*((twI _ _ j:Int):Rat));rw [aCr];unfold gQ;rw [Rat.divInt_eq_div];rfl
  ·show _=((match ms[k]? with | some m=>mN x m ((aA x).getD i 0) | none=>0:Int):Rat)
   rw [sP,e2]
end
end
section
open Go.ChangeShapes Go.WideShapes Go.ChangeAt Go.RowKit
def aX7 (_:Value):Prop:=True
def jL (w:Wo) (base:Nat) (v:Value) (ss:List ByteArray):Prop:=bJ aX7 w base 55 1 v ss.length (fE ss)
theorem jL.keep {w w':Wo} {base:Nat} {v:Value} {ss:List ByteArray} (h:jL w base v ss) (hb:Below w.heap.size w w'):jL w' base v ss:=bJ.keep h hb
theorem jL.rd {w:Wo} {base n c:Nat} {A:OA} {ss:List ByteArray} (h:jL w base (.slice A n c) ss):bG w w.heap.size A n ss:=by
 obtain ⟨A',c',hv,hr,-⟩:=sL h.own;injection hv with e1 e2 e3;subst e1;subst e2;exact ⟨rfl,hr⟩
theorem jL.at_ {w:Wo} {base n c i:Nat} {A:OA} {ss:List ByteArray} {s:ByteArray} (h:jL w base (.slice A n c) ss) (hm:ss[i]?=some s):∃ g,A=some ⟨g,0,none⟩/\base<=g/\g<w.heap.size/\w.cell? ⟨g,i,none⟩=some (.string s)/\(∀ o,w.frozen? ⟨g,o,none⟩=false)/\
    ∀ (s':ByteArray),jL (w.setCell ⟨g,i,none⟩ (.string s')) base (.slice A n c) (ss.set i s'):=by
 have hi:=(dP.1 hm).1;unfold jL at h;rcases h.2 with ⟨h1,h2⟩ | ⟨g,cap,cur,h1,h2,hb,h4,h5,h6,h7,h8⟩
 ·omega
 ·have hc:w.cell? ⟨g,i,none⟩=some (.string s):=by
   rw [hb.cell];have:(fE ss)[i]?=some (.string s):=by unfold fE;rw [kI,hm];rfl
   rw [<-h7,List.getElem?_take] at this
   split at this
   ·rwa [Array.getElem?_toList] at this
   ·cases this
  injection h1 with e1 e2 e3;refine ⟨g,e1,h2,hb.lt,hc,fun o=>hb.frozen o,fun s'=>?_⟩;unfold jL;have e:fE (ss.set i s')=(fE ss).set i (.string s'):=List.map_set;rw [lF,e];refine ⟨by rw [lF];exact h.1,.inr ⟨g,cap,cur.setIfInBounds i (.string s'),by rw [e1,e2,e3],h2,hb.set_ _ _,h4,h5,by rw [Array.size_setIfInBounds];exact h6,?_,fun _ _=>trivial⟩⟩;rw [Array.toList_setIfInBounds,rJ _ _ _ _ (by omega),h7]
end
section
def Zt (D:Int) (H:Nat) (q:Rat):Prop:=∃ z:Int,q*(D:Rat)=(z:Rat)/\z.natAbs<=H
theorem Zt.more {D:Int} {H H':Nat} {q:Rat} (h:Zt D H q) (hh:H<=H'):Zt D H' q:=by
 obtain ⟨z,h1,h2⟩:=h;exact ⟨z,h1,cV h2 hh⟩
theorem Zt.add {D:Int} {H H':Nat} {p q:Rat} (hp:Zt D H p) (hq:Zt D H' q):Zt D (H+H') (p+q):=by
 obtain ⟨a,h1,h2⟩:=hp;obtain ⟨b,h3,h4⟩:=hq;refine ⟨a+b,by rw [Rat.add_mul,h1,h3,Rat.intCast_add],?_⟩;have:=Int.natAbs_add_le a b;omega
theorem Zt.int (z:Int):Zt 1 z.natAbs (z:Rat):=⟨z,by rw [show ((1:Int):Rat)=1 from rfl,Rat.mul_one],lR⟩
theorem Zt.zero (D:Int):Zt D 0 0:=⟨0,by rw [Rat.zero_mul];rfl,lR⟩
theorem Zt.fits {D:Int} {H a b:Nat} {q:Rat} (h:Zt D H q) (h0:D≠0) (h1:H<=fW a) (h2:D.natAbs<=fW b) (ha:a<2000) (hb:b<2000):bZ q:=by
 obtain ⟨z,h3,h4⟩:=h;have key:∀ (D:Nat) (z:Int),q*(((D:Nat):Int):Rat)=(z:Rat)->D≠0->z.natAbs<=H->D<=fW b->bZ q:=fun D z h3 h0 h4 h2=>by
  have cP:((D:Int):Rat)≠0:=by
   intro e;have:((D:Int):Rat)=((0:Int):Rat):=e;rw [Rat.intCast_inj] at this;omega
  have e:q=Rat.divInt z D:=by
   rw [Rat.divInt_eq_div,<-h3,Rat.mul_div_cancel cP]
  have hp:∀ {c k:Nat},c<k->fW c<10^k:=fun hc=>Nat.pow_lt_pow_right (by decide) hc;have ht:Tn 2000 q:=by
   rw [e];exact J7 h0 (WT (cV h4 h1) (hp (k:=2000) ha)) (WT h2 (hp (k:=2000) hb))
  exact ht.fits lR
 by_cases hd:0<=D
 ·refine key D.natAbs z ?_ (by omega) h4 h2
  rw [Int.natAbs_of_nonneg hd];exact h3
 ·refine key D.natAbs (-z) ?_ (by omega) (by rw [Int.natAbs_neg];exact h4) h2
  have e:((D.natAbs:Nat):Int)=-D:=by omega
  rw [e,Rat.intCast_neg,Rat.intCast_neg,<-h3];grind
section
variable {x:bE} {ms:List Mi}
structure Sml (x:bE) (ms:List Mi):Prop where
 ok:cN x
 h8:x.nodes.length<=8
 h10:x.brs.length<=10
 k8:ms.length<=8
 mi:∀ m∈ms,nV x m
 tn:∀ m∈ms,Tn 25 (kB m.txt)
 wt:∀ m∈ms,1<=m.wt/\m.wt<=1000
theorem aFa {q:Rat} {l:List Rat} (h:q∈l):q.den∣Q8 x l:=by
 unfold Q8;exact Nat.dvd_trans (Q7 h) (Nat.dvd_trans (Nat.dvd_mul_left _ _) (Nat.dvd_mul_right _ _))
theorem aAS {l:List Rat}:kR x.brs*1000∣Q8 x l:=by
 unfold Q8;exact ⟨ND l,by rw [Nat.mul_right_comm]⟩
def S7 (x:bE) (ms:List Mi):Nat:=Q8 x (ms.map fun m=>kB m.txt)
theorem Sml.vD (h:Sml x ms):S7 x ms≠0/\S7 x ms<=fW 283:=by
 have h1:=VM (al:=ms.map fun m=>kB m.txt) h.ok h.h10 (fun q hq=>by obtain ⟨m,hm,rfl⟩:=List.mem_map.1 hq;exact h.tn m hm) (by rw [lB];exact h.k8);unfold S7 fW;exact h1
theorem Sml.val (h:Sml x ms) {k:Nat} (hk:k<ms.length):Ot (S7 x ms) (10^25+80000) (yF x ms k):=by
 obtain ⟨m,hm⟩:∃ m,ms[k]?=some m:=⟨_,jA hk⟩;have pS:=cO hm;unfold yF;rw [hm];have h1:=T2 (aOP (h.tn m pS)) (aFa (x:=x) (List.mem_map.2 ⟨m,pS,rfl⟩:kB m.txt∈ms.map fun m=>kB m.txt));have h2:=T2 (T1 (GU h.ok h.h10 (h.mi m pS)).fr) (aAS (x:=x) (l:=ms.map fun m=>kB m.txt));have h3:=MO h1 h2;show Ot _ _ (kB m.txt-(aS x m).2);rw [Rat.sub_eq_add_neg];exact h3
theorem Sml.short (h:Sml x ms) (hr:mI x ms) {y a:Fn} (ha:(lsY x ms y).Sol a) {V:Rat} {B:Nat} (hB:1<=B) {Y:Nat->Int} (hY:∀ k,k<ms.length->y k*V=(Y k:Rat)) (hYB:∀ k,k<ms.length->(Y k).natAbs<=B) :
    ∃ t:Int,t≠0/\t.natAbs<=fW 396/\(∀ i,i<(aA x).length->∃ z:Int,z.natAbs<=B*fW 396/\V*a i*(t:Rat)=(z:Rat))/\∀ k,k<ms.length->∃ z:Int,z.natAbs<=B*fW 396/\V*(lsY x ms y).res a k*(t:Rat)=(z:Rat):=
 (aMF h.ok h.mi h.wt y).short (fY h.ok h.h8) h.h10 h.k8 ((uV fun m hm=>(h.wt m hm).1).1 hr) ha hB hY hYB
theorem Sml.own (h:Sml x ms) (hr:mI x ms):∃ D:Int,D≠0/\D.natAbs<=fW 679/\(∀ i,i<(aA x).length->Zt D (fW 706) (lW x ms i))/\∀ k,k<ms.length->Zt D (fW 706) ((fM x ms).res (lW x ms) k):=by
 obtain ⟨h1,h2⟩:=h.vD;have hv:∀ k,∃ z:Int,k<ms.length->yF x ms k*((S7 x ms:Int):Rat)=(z:Rat)/\z.natAbs<=fW 310:=fun k=>by
  by_cases hk:k<ms.length
  ·obtain ⟨z,h3,h4⟩:=h.val hk
   refine ⟨z,fun _=>⟨h3,cV h4 ?_⟩⟩;have h5:10^25+80000<=fW 26:=by decide
   exact cV (Nat.mul_le_mul h5 h2) (CZ (by decide))
  ·exact ⟨0,fun e=>absurd e hk⟩
 have hB:1<=fW 310:=aOL _;obtain ⟨t,h3,h4,h5,h6⟩:=h.short hr (y:=yF x ms) (a:=lW x ms) (YH hr) (V:=((S7 x ms:Int):Rat)) (B:=fW 310) hB (Y:=fun k=>(hv k).choose) (fun k hk=>((hv k).choose_spec hk).1) (fun k hk=>((hv k).choose_spec hk).2);have h7:fW 310*fW 396<=fW 706:=CZ (by decide);refine ⟨(S7 x ms:Int)*t,?_,?_,fun i hi=>?_,fun k hk=>?_⟩
 ·intro e
  rcases Int.mul_eq_zero.1 e with e | e
  ·omega
  ·exact h3 e
 ·rw [Int.natAbs_mul,Int.natAbs_natCast]
  exact cV (Nat.mul_le_mul h2 h4) (CZ (by decide))
 ·obtain ⟨z,e1,e2⟩:=h5 i hi
  exact ⟨z,by rw [Rat.intCast_mul,<-e2];grind,cV e1 h7⟩
 ·obtain ⟨z,e1,e2⟩:=h6 k hk
  refine ⟨z,?_,cV e1 h7⟩;have e3:(lsY x ms (yF x ms)).res (lW x ms) k=(fM x ms).res (lW x ms) k:=rfl;rw [e3] at e2;rw [Rat.intCast_mul,<-e2];grind
theorem W8 (hr:mI x ms) {k:Nat} (hk:k<ms.length):(fM x ms).res (frF x (bX x ms)) k=(fM x ms).res (lW x ms) k:=by
 unfold Ls.res;congr 1
 exact kQ (fun _ _=>rfl) fun i hi=>aEV hi
theorem zG (h:Sml x ms) (hr:mI x ms):∀ q∈bD x ms (bX x ms),bZ q:=fun q hq=>by
 obtain ⟨D,h0,h1,-,h2⟩:=h.own hr;obtain ⟨k,hk⟩:=List.mem_iff_getElem?.1 hq;have U5:k<ms.length:=by have:=(dP.1 hk).1;rwa [iD] at this
 rw [KC h.ok h.mi YJ U5] at hk;injection hk with hk;rw [<-hk,W8 hr U5];exact (h2 k U5).fits h0 lR h1 (by decide) (by decide)
end
end
section
open Go.ChangeShapes Go.WideShapes Go.ChangeAt Go.RowKit
attribute [local go_sem ↓] aE
attribute [local go_sem] aK aH aM aY
theorem div_one (k:Int):Rat.divInt k 1=(k:Rat):=by rw [Rat.divInt_eq_div];show (k:Rat) / 1=_;grind
theorem jL.box {w:Wo} {base g n c i:Nat} {ss:List ByteArray} {s:ByteArray} (h:jL w base (.slice (some ⟨g,0,none⟩) n c) ss) (hm:ss[i]?=some s):base<=g/\g<w.heap.size/\w.cell? ⟨g,i,none⟩=some (.string s)/\(∀ o,w.frozen? ⟨g,o,none⟩=false)/\∀ (s':ByteArray),jL (w.setCell ⟨g,i,none⟩ (.string s')) base (.slice (some ⟨g,0,none⟩) n c) (ss.set i s'):=by
 obtain ⟨g',e,r⟩:=h.at_ hm;injection e with e;injection e with e1;subst e1;exact r
end
