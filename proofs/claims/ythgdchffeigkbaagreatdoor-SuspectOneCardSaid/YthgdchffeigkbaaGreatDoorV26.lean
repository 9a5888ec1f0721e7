import Derived.Test.YthgdchffeigkbaaGreatDoorV23
import Derived.Test.YthgdchffeigkbaaGreatDoorV24
import Derived.Maps.RangeWalk
set_option linter.unusedVariables false
set_option linter.unusedSimpArgs false
namespace Go.Proofs.YthgdchffeigkbaaGreatDoor
variable {al : List Rat} {i j k n : Nat} {m : Mi} {w : World}
section
def yF(x:bO)(ms:List Mi):Fn:=fun k=>match ms[k]? with | some m=>gC m.txt-(aS x m).2 | none=>0
def cU(x:bO)(ms:List Mi):Ls:=⟨(aA x).length,ms.length,fun k=>vf ((aV x ms).getD k []),LD ms,yF x ms⟩
section
variable {x:bO} {ms:List Mi}
theorem EJ(h:ms[k]?=some m):(cU x ms).R k=vf (kH x (aS x m).1):=by
 show vf ((aV x ms).getD k [])=_;unfold aV;rw[dN,iY,h];rfl
theorem aNA(h:ms[k]?=some m):(cU x ms).w k=(m.wt:Rat):=N4 h
theorem aNz(h:ms[k]?=some m):(cU x ms).y k=gC m.txt-(aS x m).2:=by
 show yF x ms k=_;unfold yF;rw[h]
theorem WZ(h:k<(cU x ms).K):∃m,ms[k]?=some m:=⟨_,iB h⟩
theorem AH(zR:∀m∈ms,1<=m.wt):(cU x ms).Pos:=fun k hk=>by
 obtain⟨m,hm⟩:=WZ hk;rw[aNA hm];have:=zR m (bV hm);exact Rat.intCast_pos.2 (by omega)
theorem xD{M:List (List Rat)}(hi:i<n):∃r,(dU n M ms)[i]?=some r/\r.length=n/\∀j,j<n->vf r j=ER M ms M.length i j:=
 ⟨_,by unfold dU;rw[iY,List.getElem?_range hi];rfl,by simp,fun j hj=>fW (by rw[iY,List.getElem?_range hj];rfl)⟩
theorem m_{M:List (List Rat)}:∀a∈dU n M ms,a.length=(dU n M ms).length:=by
 rw[cL];intro a ha;unfold dU at ha;obtain⟨i,hi,rfl⟩:=List.mem_map.1 ha;simp
theorem wR:(aV x ms).length=ms.length:=by unfold aV;rw[jO]
theorem aW1(i j:Nat):ER (aV x ms) ms (aV x ms).length i j=(cU x ms).G i j:=by
 rw[wR];rfl
theorem CO{r:List Rat}(hr:(dU (aA x).length (aV x ms) ms)[i]?=some r)(c:Fn):aP (aA x).length (vf r) c=aP (cU x ms).n ((cU x ms).G i) c:=by
 have hi:i<(aA x).length:=by have:=(dH.1 hr).1;rwa[cL] at this
 obtain⟨r',JS,-,hv⟩:=xD (M:=aV x ms) (ms:=ms) hi;rw[hr] at JS;injection JS with JS;subst JS;exact nZ (fun j hj=>by rw[hv j hj,aW1]) fun _ _=>rfl
theorem xH(zR:∀m∈ms,1<=m.wt):mX x ms<->∀c:Fn,(∀k,k<ms.length->aP (aA x).length ((cU x ms).R k) c=0)->∀j,j<(aA x).length->c j=0:=by
 unfold mX;rw[ZQ m_,cL];have key:∀c:Fn,Ker (aA x).length (F6 (dU (aA x).length (aV x ms) ms)) c<->∀k,k<ms.length->aP (aA x).length ((cU x ms).R k) c=0:=fun c=>by
  rw[rT];refine Iff.trans ?_ ((AH (x:=x) zR).ker c)
  constructor
  ·intro h i hi
   obtain⟨r,hr,-,-⟩:=xD (M:=aV x ms) (ms:=ms) (n:=(aA x).length) hi;rw[<-CO hr];exact h i r hr
  ·intro h i r hr
   rw[CO hr];exact h i (by have:=(dH.1 hr).1;rwa[cL] at this)
 exact⟨fun h c hc=>h c ((key c).2 hc),fun h c hc=>h c ((key c).1 hc)⟩
theorem Z8(hi:i<(aA x).length):((mV (dU (aA x).length (aV x ms) ms)).getD i []).length=(aA x).length:=by
 have h:=qS (M:=dU (aA x).length (aV x ms) ms) m_;rw[cL] at h;obtain⟨r,hr⟩:∃r,(mV (dU (aA x).length (aV x ms) ms))[i]?=some r:=eA (by rw[h.1];exact hi);rw[dN,hr];exact h.2 r (bV hr)
theorem aJ9(hi:i<(aA x).length):nY x ms i=nV (dU (aA x).length (aV x ms) ms) (vf (mT (aA x).length x ms ms.length)) i:=by
 unfold nY nV;rw[cL];exact qX (Z8 hi) fO
theorem aNh(hi:i<(aA x).length):vf (mT (aA x).length x ms ms.length) i=(cU x ms).rt i:=by
 rw[BR hi];unfold Ls.rt;refine aL fun t ht=>?_;obtain⟨m,hm⟩:=WZ (x:=x) ht;rw[aNA hm,aNz hm,CU hm];rfl
theorem aAy(hr:mX x ms):(cU x ms).Sol (nY x ms):=fun i hi=>by
 obtain⟨r,JS,hl,hv⟩:=xD (M:=aV x ms) (ms:=ms) (n:=(aA x).length) hi;have h1:=O2 m_ hr (vf (mT (aA x).length x ms ms.length)) JS;rw[cL] at h1;rw[<-CO JS,nZ (fun _ _=>rfl) (fun j hj=>aJ9 hj),h1];exact aNh hi
end
theorem xZ{p:Nat->Bool}:∀{n i j:Nat},(lM p n)[i]?=some j->p j=true/\j<n/\GJ p j=i
 | 0,i,j,h=>by simp[lM] at h
 | n+1,i,j,h=>by
  rw[ED] at h;by_cases hi:i<(lM p n).length
  ·rw[BD hi] at h
   obtain⟨h1,h2,h3⟩:=xZ h;exact⟨h1,by omega,h3⟩
  ·rw[DN (by omega)] at h
   cases hp:p n with
   | false=>rw[hp] at h;simp at h
   | true=>
    rw[hp,if_pos rfl] at h;have hl:=(dH.1 h).1;simp only[List.length_singleton] at hl;have h0:i-(lM p n).length=0:=by omega
    rw[h0] at h;simp at h;subst h;rw[s_] at hi h0;exact⟨hp,Nat.lt_succ_self _,by omega⟩
theorem rO{p:Nat->Bool}(hp:p j=true):∀{n:Nat},j<n->(lM p n)[GJ p j]?=some j
 | 0,h=>by omega
 | n+1,h=>by
  rw[ED];by_cases hj:j<n
  ·have:=rO hp hj
   rw[BD (dH.1 this).1];exact this
  ·have:j=n:=by omega
   subst this;rw[DN (by rw[s_];exact lR),s_,Nat.sub_self,if_pos hp];rfl
theorem aFm{p:Nat->Bool}{n:Nat}{d:Fn}:∀{k:Nat},k<=GJ p n->∀j,j<n->vf (qO (lM p n) d (jN n) k) j=if p j=true/\GJ p j<k then d (GJ p j) else 0
 | 0,_,j,_=>by rw[if_neg (by omega)];exact DU n j
 | k+1,hk,j,hj=>by
  have ih:=aFm (d:=d) (p:=p) (n:=n) (k:=k) (by omega) j hj;unfold qO;obtain⟨j0,h0⟩:∃j0,(lM p n)[k]?=some j0:=eA (by rw[s_];omega);obtain⟨h1,h2,h3⟩:=xZ h0;have e:(lM p n).getD k 0=j0:=by rw[dN,h0];rfl
  rw[e,tZ (by rw[oX];unfold jN;rw[rB];exact h2),ih];by_cases hjj:j=j0
  ·subst hjj
   rw[if_pos rfl,if_pos ⟨h1,by omega⟩,h3]
  ·rw[if_neg hjj]
   by_cases hp:p j=true
   ·have bX:GJ p j≠k:=fun e=>by
     have h4:=rO hp hj;rw[e,h0] at h4;injection h4 with h4;exact hjj h4.symm
    by_cases aU:GJ p j<k
    ·rw[if_pos ⟨hp,aU⟩,if_pos ⟨hp,by omega⟩]
    ·rw[if_neg (fun h=>aU h.2),if_neg (fun h=>by omega)]
   ·rw[if_neg (fun h=>hp h.1),if_neg (fun h=>hp h.1)]
section
variable {x:bO} {ms:List Mi}
theorem aAz:(bE x ms).length=aH x:=by unfold bE;rw[oX];exact rB
theorem Z7{d:Fn}(hj:j<aH x):vf (qO (aA x) d (jN (aH x)) (aA x).length) j=ext (dX (eJ x)) d j:=by
 have h:=aFm (p:=dX (eJ x)) (d:=d) (n:=aH x) (k:=(aA x).length) (Nat.le_of_eq (s_ _ _)) j hj;unfold aA at h ⊢;rw[h];unfold ext;by_cases hp:dX (eJ x) j=true
 ·have h2:=(dH.1 (rO hp hj)).1
  rw[if_pos ⟨hp,h2⟩,if_pos hp]
 ·rw[if_neg (fun h=>hp h.1),if_neg hp]
theorem X0(hj:j<aH x):vf (bE x ms) j=ext (dX (eJ x)) (nY x ms) j:=Z7 hj
def LS(x:bO)(al:List Rat):Fn:=fun i=>vf al ((aA x).getD i 0)
def ZB(x:bO)(al:List Rat):Prop:=al.length=aH x/\∀j,j<aH x->dX (eJ x) j=false->vf al j=0
theorem ZB.ext(h:ZB x al)(hj:j<aH x):vf al j=ext (dX (eJ x)) (LS x al) j:=by
 unfold Go.Proofs.YthgdchffeigkbaaGreatDoor.ext;by_cases hp:dX (eJ x) j=true
 ·rw[if_pos hp]
  unfold LS aA;rw[dN,rO hp hj];rfl
 ·rw[if_neg hp]
  exact h.2 j hj (by simpa using hp)
theorem aAs(hi:i<(aA x).length):∃j,(aA x)[i]?=some j/\dX (eJ x) j=true/\j<aH x/\GJ (dX (eJ x)) j=i:=by
 obtain⟨j,hj⟩:∃j,(aA x)[i]?=some j:=⟨_,iB hi⟩;exact⟨j,hj,xZ hj⟩
theorem ZB.dot{q:List Rat}(h:ZB x al)(hq:q.length=aH x):jJ q al=aP (aA x).length (vf (kH x q)) (LS x al):=by
 rw[qX hq h.1,aEn];exact aL fun j hj=>by rw[h.ext hj]
theorem ZB.eq{be:List Rat}(h1:ZB x al)(h2:ZB x be)(he:∀i,i<(aA x).length->LS x al i=LS x be i):al=be:=by
 apply List.ext_getElem?;intro j;by_cases hj:j<aH x
 ·have e:vf al j=vf be j:=by
   rw[h1.ext hj,h2.ext hj];unfold Go.Proofs.YthgdchffeigkbaaGreatDoor.ext;by_cases hp:dX (eJ x) j=true
   ·rw[if_pos hp,if_pos hp]
    exact he _ (dH.1 (rO hp hj)).1
   ·rw[if_neg hp,if_neg hp]
  rw[a_ (l:=al) (i:=j) (by rw[h1.1];exact hj),a_ (l:=be) (i:=j) (by rw[h2.1];exact hj),e]
 ·rw[List.getElem?_eq_none (by rw[h1.1];omega),List.getElem?_eq_none (by rw[h2.1];omega)]
theorem VJ{qs:List Rat}(h:qs.length=n):sS qs=aN n (vf qs):=by
 have key:∀k,k<=n->sS (qs.take k)=aN k (vf qs):=fun k=>by
  induction k with
  | zero=>intro _;rfl
  | succ k ih=>
   intro hk;have h1:qs[k]?=some (vf qs k):=a_ (by omega);rw[fE h1,DW,ih (by omega)];rfl
 have:=key n lR;rwa[nL (by omega)] at this
end
section
variable {x:bO} {ms:List Mi} {by_:Int}
end
section
variable {x:bO} {ms:List Mi}
end
def mM(x:bO)(m:Mi)(e:Nat)(b:Br):Int:=if m.kind=0 then(if e=(lL x m.name).toNat then 1 else 0) else if m.kind=2 then 0 else(if aD x b.fr=aD x m.name then 1 else 0)-(if aD x b.to=aD x m.name then 1 else 0)
def mN(x:bO)(m:Mi)(j:Nat):Int:=if m.kind=0 then 0 else if m.kind=2 then(if j=aD x m.name then 1 else 0) else 0
def twI(u v j:Nat):Int:=(if j=u then 1 else 0)-(if j=v then 1 else 0)
theorem JO(c:Prop)[Decidable c]:(((if c then 1 else 0:Int)):Rat)=if c then 1 else 0:=by split<;>rfl
theorem aD0(u v j:Nat):((twI u v j:Int):Rat)=two u v j:=by
 unfold twI two;rw[Rat.intCast_sub,JO,JO]
theorem aNx(x:bO)(m:Mi)(e:Nat)(b:Br):(mM x m e b).natAbs<=1:=by
 unfold mM;split
 ·split<;>decide
 ·split
  ·decide
  ·split<;>split<;>decide
theorem aNw(x:bO)(m:Mi)(j:Nat):(mN x m j).natAbs<=1:=by
 unfold mN;split
 ·decide
 ·split
  ·split<;>decide
  ·decide
theorem aIC(u v j:Nat):(twI u v j).natAbs<=1:=by unfold twI;split<;>split<;>decide
section
variable {x:bO}
theorem XA(ok:bJ x){b:Br}(hb:b∈x.brs){bus:Nat}{s:List Rat×Rat}(h1:s.1.length=aH x)(j:Nat):(i_ bus (aD x b.fr) (aD x b.to) (cP b) (eS b) s).1.length=aH x/\vf (i_ bus (aD x b.fr) (aD x b.to) (cP b) (eS b) s).1 j=vf s.1 j+(((if aD x b.fr=bus then 1 else 0)-(if aD x b.to=bus then 1 else 0):Int):Rat)*(cP b*two (aD x b.fr) (aD x b.to) j):=by
 have hu:=(bG ok (ok.br b hb).1).2.1;have hv:=(bG ok (ok.br b hb).2.1).2.1;have e1:vf (lP (sg false (cP b)) (aD x b.fr) (aD x b.to) s.1) j=vf s.1 j+cP b*two (aD x b.fr) (aD x b.to) j:=IJ (by omega) (by omega) j;have step:∀{q:List Rat},q.length=aH x->vf (lP (sg true (cP b)) (aD x b.fr) (aD x b.to) q) j=vf q j-cP b*two (aD x b.fr) (aD x b.to) j:=fun{q} hq=>by
  rw[IJ (by omega) (by omega)];unfold sg;simp only[if_true];grind
 have i1:((1:Int):Rat)=1:=rfl;have i0:((0:Int):Rat)=0:=rfl;rw[Rat.intCast_sub];unfold i_;dsimp only;by_cases c1:aD x b.fr=bus
 ·by_cases c2:aD x b.to=bus
  ·rw[if_pos c1,if_pos c2,if_pos c1,if_pos c2]
   refine⟨by rw[gG,gG];exact h1,?_⟩;rw[step (by rw[gG];exact h1),e1,i1];grind
  ·rw[if_pos c1,if_neg c2,if_pos c1,if_neg c2]
   refine⟨by rw[gG];exact h1,?_⟩;rw[e1,i1,i0];grind
 ·by_cases c2:aD x b.to=bus
  ·rw[if_neg c1,if_pos c2,if_neg c1,if_pos c2]
   refine⟨by rw[gG];exact h1,?_⟩;rw[step h1,i1,i0];grind
  ·rw[if_neg c1,if_neg c2,if_neg c1,if_neg c2]
   refine⟨h1,?_⟩;rw[i0];grind
theorem SP(ok:bJ x){bus:Nat}(j:Nat):∀(bs:List Br)(s:List Rat×Rat),(∀b∈bs,b∈x.brs)->s.1.length=aH x->
    vf (nM bus (bs.map cP) (bs.map eS) (bs.map fun b=>aD x b.fr) (bs.map fun b=>aD x b.to) s).1 j=vf s.1 j+OY (bs.map fun b=>(((if aD x b.fr=bus then 1 else 0)-(if aD x b.to=bus then 1 else 0):Int):Rat)*(cP b*two (aD x b.fr) (aD x b.to) j))
 | [],s,_,_=>by
  show vf s.1 j=vf s.1 j+OY [];unfold OY;rw[Rat.add_zero]
 | b::bs,s,h,h1=>by
  obtain⟨h2,h3⟩:=XA ok (h b (by simp)) (bus:=bus) h1 j;have ih:=SP ok (bus:=bus) j bs _ (fun a ha=>h a (by simp[ha])) h2;simp only[List.map_cons];unfold nM;rw[ih,h3];show _=vf s.1 j+(_+OY _);rw[Rat.add_assoc]
theorem aJ3(ok:bJ x)(hm:vW x m)(hj:j<aH x):vf (aS x m).1 j=aN x.brs.length (fun e=>match x.brs[e]? with | some b=>((mM x m e b:Int):Rat)*(cP b*two (aD x b.fr) (aD x b.to) j) | none=>0)+((mN x m j:Int):Rat):=by
 have i1:((1:Int):Rat)=1:=rfl;have i0:((0:Int):Rat)=0:=rfl;have hzl:(jN (aH x)).length=aH x:=rB;unfold aS mN;by_cases h0:m.kind=0
 ·rw[if_pos h0,if_pos h0]
  have h1:=hm.1 h0;rcases oE x m.name with⟨e,_⟩ | ⟨i,b,e,hb,_⟩
  ·omega
  ·obtain⟨a1,a2,a3,a4⟩:=kM hb
   have K7:=(dH.1 hb).1;have zD:=bV hb;have hu:=(bG ok (ok.br b zD).1).2.1;have hv:=(bG ok (ok.br b zD).2.1).2.1;have e1:(lL x m.name).toNat=i:=by omega
   simp only[e1,dN,fW a3,fW a4,a1,a2,Option.getD_some];rw[IJ (by omega) (by omega),DU];rw[dQ K7 (fun e2 he2 bX=>by
    obtain⟨b2,bH⟩:∃b2,x.brs[e2]?=some b2:=⟨_,iB he2⟩;rw[bH];show((mM x m e2 b2:Int):Rat)*_=0;unfold mM;rw[if_pos h0,e1,if_neg bX,i0,Rat.zero_mul])]
   rw[hb];show _=((mM x m i b:Int):Rat)*_+_;unfold mM;rw[if_pos h0,e1,if_pos rfl,i1,i0];unfold sg;grind
 ·rw[if_neg h0,if_neg h0]
  by_cases h2:m.kind=2
  ·rw[if_pos h2,if_pos h2]
   rw[cX (fun e he=>by
    obtain⟨b2,bH⟩:∃b2,x.brs[e]?=some b2:=⟨_,iB he⟩;rw[bH];show((mM x m e b2:Int):Rat)*_=0;unfold mM;rw[if_neg h0,if_pos h2,i0,Rat.zero_mul])]
   have aYM:=(bG ok (hm.2 h0)).2.1;rw[tZ (by rw[hzl];exact aYM),DU,JO,Rat.zero_add]
  ·rw[if_neg h2,if_neg h2]
   have e1:=iM x;rw[e1.1,e1.2];have h3:=SP ok (bus:=aD x m.name) j x.brs (jN (aH x),0) (fun b hb=>hb) hzl;show vf (nM (aD x m.name) (x.brs.map cP) (x.brs.map eS) _ _ (jN (aH x),0)).1 j=_;rw[h3,<-aBm,VJ (n:=x.brs.length) (by rw[jO])];show vf (jN (aH x)) j+_=_;rw[DU,Rat.zero_add,i0,Rat.add_zero];refine aL fun e he=>?_;obtain⟨b2,bH⟩:∃b2,x.brs[e]?=some b2:=⟨_,iB he⟩;rw[fW (by rw[iY,bH];rfl),bH];show _=((mM x m e b2:Int):Rat)*_;unfold mM;rw[if_neg h0,if_neg h2]
def aMf(x:bO)(ms:List Mi):Aug where
 E:=x.brs.length
 X:=fun e=>match x.brs[e]? with | some b=>b.x*b.tap | none=>1
 tw:=fun e i=>match x.brs[e]? with | some b=>twI (aD x b.fr) (aD x b.to) ((aA x).getD i 0) | none=>0
 M:=fun k e=>match ms[k]?,x.brs[e]? with | some m,some b=>mM x m e b | _,_=>0
 N:=fun k i=>match ms[k]? with | some m=>mN x m ((aA x).getD i 0) | none=>0
 w:=fun k=>match ms[k]? with | some m=>m.wt | none=>1
def lsY(x:bO)(ms:List Mi)(y:Fn):Ls:=⟨(aA x).length,ms.length,fun k=>vf ((aV x ms).getD k []),LD ms,y⟩
theorem aOU(ok:bJ x){ms:List Mi}(hm:∀m∈ms,vW x m)(hw:∀m∈ms,1<=m.wt/\m.wt<=1000)(y:Fn):(aMf x ms).Ok (lsY x ms y) where
 x:=fun e he=>by
  obtain⟨b,hb⟩:∃b,x.brs[e]?=some b:=⟨_,iB he⟩;have hX:(aMf x ms).X e=b.x*b.tap:=by
   show(match x.brs[e]? with | some b=>b.x*b.tap | none=>1)=_;rw[hb]
  rw[hX];obtain⟨h1,h2,h3,h4,-⟩:=KC (ok.br b (bV hb)).2.2.2;have h5:=Int.mul_le_mul h2 h4 (by omega) (by decide);have h6:=Int.mul_pos (show 0<b.x by omega) (show 0<b.tap by omega);omega
 t:=fun e i=>by
  show(match x.brs[e]? with | some b=>twI _ _ _ | none=>0).natAbs<=1;split
  ·exact aIC _ _ _
  ·decide
 m:=fun k e=>by
  show(match ms[k]?,x.brs[e]? with | some m,some b=>mM x m e b | _,_=>0).natAbs<=1;split
  ·exact aNx _ _ _ _
  ·decide
 n:=fun k i=>by
  show(match ms[k]? with | some m=>mN x m _ | none=>0).natAbs<=1;split
  ·exact aNw _ _ _
  ·decide
 w:=fun k rV=>by
  obtain⟨m,zS⟩:∃m,ms[k]?=some m:=⟨_,iB rV⟩;have h1:=hw m (bV zS);show 1<=(match ms[k]? with | some m=>m.wt | none=>1)/\_<=_/\LD ms k=_;rw[N4 zS];show 1<=(match ms[k]? with | some m=>m.wt | none=>1)/\(match ms[k]? with | some m=>m.wt | none=>1)<=1000/\(m.wt:Rat)=((match ms[k]? with | some m=>m.wt | none=>1:Int):Rat);rw[zS];exact⟨h1.1,h1.2,rfl⟩
 r:=fun k rV i hi=>by
  obtain⟨m,zS⟩:∃m,ms[k]?=some m:=⟨_,iB rV⟩;obtain⟨j,hj,-,hjb,-⟩:=aAs (x:=x) hi;have h1:=EJ (x:=x) zS;show(cU x ms).R k i=_;rw[h1];have e1:vf (kH x (aS x m).1) i=vf (aS x m).1 j:=fW (by unfold kH;rw[iY,hj];rfl);rw[e1,aJ3 ok (hm m (bV zS)) hjb];have e2:(aA x).getD i 0=j:=by rw[dN,hj];rfl
  congr 1
  ·refine aL fun e he=>?_
   obtain⟨b,hb⟩:∃b,x.brs[e]?=some b:=⟨_,iB he⟩;show _=((match ms[k]?,x.brs[e]? with | some m,some b=>mM x m e b | _,_=>0:Int):Rat)*((1000000 / ((match x.brs[e]? with | some b=>b.x*b.tap | none=>1:Int):Rat))*((match x.brs[e]? with | some b=>twI (aD x b.fr) (aD x b.to) ((aA x).getD i 0) | none=>0:Int):Rat));rw[zS,hb,e2];show((mM x m e b:Int):Rat)*(cP b*two _ _ j)=((mM x m e b:Int):Rat)*((1000000 / ((b.x*b.tap:Int):Rat))*((twI _ _ j:Int):Rat));rw[aD0];unfold cP;rw[Rat.divInt_eq_div];rfl
  ·show _=((match ms[k]? with | some m=>mN x m ((aA x).getD i 0) | none=>0:Int):Rat)
   rw[zS,e2]
end
end
section
open Go.ChangeShapes Go.WideShapes Go.ChangeAt Go.RowKit
attribute [local go_sem ↓] aE
attribute [local go_sem] aJ aI aM aR
def aHZ(n:Nat)(p:List Rat×Rat):Value->World->Prop:=fun v w=>∃(gc:Nat)(u:Rv),v=.agg #[.slice (some ⟨gc,0,none⟩) n n,.bool u.b1,.slice u.A u.n u.c,.bool u.b2,.slice u.A2 u.m u.d]/\iT w w.heap.size (some ⟨gc,0,none⟩) n p.1/\dD w w.heap.size p.2 u
theorem aHZ.up{p:List Rat×Rat}{v:Value}{w':Wo}(h:aHZ n p v w)(hb:Below w.heap.size w w'):aHZ n p v w':=by
 obtain⟨gc,u,e,h1,h2⟩:=h;exact⟨gc,u,e,(h1.below hb lR).more hb.size,h2.up hb⟩
end
section
def lY(x:bO)(ps:List Int):Nat->Nat->Int
 | 0,_=>0
 | i+1,j=>lY x ps i j+if fV x i=j then ps.getD i 0 else 0
def vK(x:bO)(ps:List Int)(i:Nat):List Int:=(List.range (aH x)).map (lY x ps i)
def vQ(x:bO)(ps:List Int):List Rat:=(vK x ps ps.length).map fun z:Int=>((z:Int):Rat)
def EK(x:bO)(l:List Rat)(b:Br):List Rat:=l.set (aD x b.fr) (vf l (aD x b.fr)-eS b)
def W4(x:bO)(l:List Rat)(b:Br):List Rat:=l.set (aD x b.to) (vf l (aD x b.to)+eS b)
def mG(x:bO)(qs:List Rat)(k:Nat):List Rat:=(x.brs.take k).foldl (fun l b=>W4 x (EK x l b) b) qs
def rG(x:bO)(lf:List Rat):List Rat:=(aA x).map (vf lf)
def vO(x:bO)(lf:List Rat):Fn:=fun i=>jJ ((yZ x).getD i []) (rG x lf)
def OH(x:bO)(lf:List Rat):List Rat:=qO (aA x) (vO x lf) (jN (aH x)) (aA x).length
end
section
open Go.ChangeShapes Go.WideShapes Go.ChangeAt Go.RowKit Go.Maps
attribute [local go_sem ↓] aE
attribute [local go_sem] aJ aI aM aR
def sE(x:bO)(i:Nat):Int:=(qR x).getD (fV x i) 0
def qP(x:bO)(ps:List Int):Nat->Int->Int
 | 0,_=>0
 | i+1,k=>qP x ps i k+if sE x i=k then ps.getD i 0 else 0
end
section
open Go.ChangeShapes Go.WideShapes Go.ChangeAt Go.RowKit
attribute [local go_sem ↓] aE
attribute [local go_sem] aJ aI aM aR
theorem aFo{g:Nat}{x v y:Rv}{r:Rat}(h0:w.cell? ⟨g,j*4,none⟩=some (.bool x.b1))(h1:w.cell? ⟨g,j*4+1,none⟩=some (.slice x.A x.n x.c))(h2:w.cell? ⟨g,j*4+2,none⟩=some (.bool x.b2))(h3:w.cell? ⟨g,j*4+3,none⟩=some (.slice x.A2 x.m x.d))(hy:dD w w.heap.size r y):dD (eO w g j v) (eO w g j v).heap.size r y:=by
 have k0:=c_.keep hy h0 (fun k x e=>by cases e) (.bool v.b1);have c1:(w.setCell ⟨g,j*4,none⟩ (.bool v.b1)).cell? ⟨g,j*4+1,none⟩=some (.slice x.A x.n x.c):=by
  rw[World.cell?_setCell_other _ _ _ _ (fun e=>by injection e with e1 e2;omega)];exact h1
 have k1:=c_.keep k0 c1 (fun k x e=>by cases e) (.slice v.A v.n v.c);have c2:((w.setCell ⟨g,j*4,none⟩ (.bool v.b1)).setCell ⟨g,j*4+1,none⟩ (.slice v.A v.n v.c)).cell? ⟨g,j*4+2,none⟩=some (.bool x.b2):=by
  rw[World.cell?_setCell_other _ _ _ _ (fun e=>by injection e with e1 e2;omega),World.cell?_setCell_other _ _ _ _ (fun e=>by injection e with e1 e2;omega)];exact h2
 have k2:=c_.keep k1 c2 (fun k x e=>by cases e) (.bool v.b2);have c3:(((w.setCell ⟨g,j*4,none⟩ (.bool v.b1)).setCell ⟨g,j*4+1,none⟩ (.slice v.A v.n v.c)).setCell ⟨g,j*4+2,none⟩ (.bool v.b2)).cell? ⟨g,j*4+3,none⟩=some (.slice x.A2 x.m x.d):=by
  rw[World.cell?_setCell_other _ _ _ _ (fun e=>by injection e with e1 e2;omega),World.cell?_setCell_other _ _ _ _ (fun e=>by injection e with e1 e2;omega),World.cell?_setCell_other _ _ _ _ (fun e=>by injection e with e1 e2;omega)];exact h3
 exact c_.keep k2 c3 (fun k x e=>by cases e) (.slice v.A2 v.m v.d)
theorem dP.elem{base c:Nat}{A:OA}{us:List Rv}{qs:List Rat}(h:dP w base (.slice A n c) us qs)(hj:j<qs.length):∃g x,A=some ⟨g,0,none⟩/\n=qs.length/\base<=g/\g<w.heap.size/\(∀o,w.frozen? ⟨g,o,none⟩=false)/\
    w.cell? ⟨g,j*4,none⟩=some (.bool x.b1)/\w.cell? ⟨g,j*4+1,none⟩=some (.slice x.A x.n x.c)/\w.cell? ⟨g,j*4+2,none⟩=some (.bool x.b2)/\w.cell? ⟨g,j*4+3,none⟩=some (.slice x.A2 x.m x.d)/\dD w w.heap.size (vf qs j) x/\
    ∀(v:Rv)(p:Rat),dD w w.heap.size p v->dP (eO w g j v) base (.slice A n c) (us.set j v) (qs.set j p):=by
 obtain⟨h1,h2,h3⟩:=h;have hju:j<us.length:=by rw[h2];exact hj
 obtain⟨x,hx⟩:∃x,us[j]?=some x:=⟨_,iB hju⟩;rcases h1.2 with⟨e1,e2⟩ | ⟨g,cap,cur,e1,e2,hb,e4,e5,e6,e7,e8⟩
 ·omega
 injection e1 with f1 f2 f3;have hc:∀i u,i<4->x.cells[i]?=some u->cur.toList[j*4+i]?=some u:=fun i u hi hu=>by
  have:=t_ hx i hi;rw[<-e7,List.getElem?_take,hu] at this;split at this
  ·exact this
  ·cases this
 have jI:∀i u,i<4->x.cells[i]?=some u->w.cell? ⟨g,j*4+i,none⟩=some u:=fun i u hi hu=>by
  rw[hb.cell,<-Array.getElem?_toList];exact hc i u hi hu
 refine⟨g,x,f1,by rw[f2,h2],e2,hb.lt,fun o=>hb.frozen o,jI 0 _ (by decide) rfl,jI 1 _ (by decide) rfl,jI 2 _ (by decide) rfl,jI 3 _ (by decide) rfl,h3 j _ x (a_ hj) hx,fun v p hv=>?_⟩;have B0:=hb;have B1:=B0.set_ (j*4) (.bool v.b1);have B2:=B1.set_ (j*4+1) (.slice v.A v.n v.c);have B3:=B2.set_ (j*4+2) (.bool v.b2);have B4:=B3.set_ (j*4+3) (.slice v.A2 v.m v.d);have keep:∀(y:Rv)(r:Rat),dD w w.heap.size r y->dD (eO w g j v) (eO w g j v).heap.size r y:=fun y r hy=>aFo (jI 0 _ (by decide) rfl) (jI 1 _ (by decide) rfl) (jI 2 _ (by decide) rfl) (jI 3 _ (by decide) rfl) hy;refine⟨⟨by rw[eD],.inr ⟨g,cap,_,by rw[f1,f2,f3,lS],e2,B4,by rw[lS];exact e4,e5,by simp only[Array.size_setIfInBounds];exact e6,?_,fun u hu=>?_⟩⟩,by rw[lS,lS,h2],fun i q y hq hy=>?_⟩
 ·simp only[Array.toList_setIfInBounds]
  rw[lS,lU _ _ _ _ (by omega),lU _ _ _ _ (by omega),lU _ _ _ _ (by omega),lU _ _ _ _ (by omega),e7];exact G0 us j v hju
 ·simp only[Array.toList_setIfInBounds] at hu
  rcases List.mem_or_eq_of_mem_set hu with hu | rfl
  ·rcases List.mem_or_eq_of_mem_set hu with hu | rfl
   ·rcases List.mem_or_eq_of_mem_set hu with hu | rfl
    ·rcases List.mem_or_eq_of_mem_set hu with hu | rfl
     ·exact e8 u hu
     ·exact fun k x e=>by cases e
    ·exact fun k x e=>by cases e
   ·exact fun k x e=>by cases e
  ·exact fun k x e=>by cases e
 ·by_cases e:j=i
  ·subst e
   rw[List.getElem?_set,if_pos rfl,if_pos hj] at hq;rw[List.getElem?_set,if_pos rfl,if_pos hju] at hy;injection hq with hq;injection hy with hy;subst hq;subst hy;exact keep _ _ hv
  ·rw[List.getElem?_set,if_neg e] at hq hy
   exact keep _ _ (h3 i q y hq hy)
def jB(x:bO)(ps:List Int):List Rat:=OH x (mG x (vQ x ps) x.brs.length)
structure N3 (x:bO) (ps:List Int):Prop where
 ck:b_ x=0
 len:ps.length=x.nodes.length
 rng:∀p∈ps,-100000<=p/\p<=100000
 bal:∀k,qP x ps ps.length k=0
 fa:∀q∈jB x ps,bP q
 ff:∀q∈gS x (jB x ps),bP q
end
