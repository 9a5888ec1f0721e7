import Derived.Test.YthgdchffeigkbaaGreatDoorV29
import Derived.Test.YthgdchffeigkbaaGreatDoorV30
import Derived.Lib.SliceRun
import Derived.Lib.Walk
set_option linter.unusedVariables false
set_option linter.unusedSimpArgs false
namespace Go.Proofs.YthgdchffeigkbaaGreatDoor
set_option maxRecDepth 100000
variable {i j k : Nat} {m : Mi} {ms ms' : List Mi} {x : bO}
section
section
variable {x:bO} {ms:List Mi}
theorem aRj{l:List Rat}{b:Nat}(h:∀q∈l,bI q<=b)(hb:2<=b)(i:Nat):bI (vf l i)<=b:=by
 by_cases hi:i<l.length
 ·exact h _ (bV (a_ hi))
 ·have e:vf l i=0:=by
   unfold vf;rw[dN,List.getElem?_eq_none (by omega)];rfl
  rw[e];exact cO (dV 0 (by decide) (by decide)) hb
theorem aM2(zR:∀m∈ms,1<=m.wt/\m.wt<=1000)(t:Nat):bI (LD ms t)<=2:=by
 by_cases ht:t<ms.length
 ·obtain⟨m,hm⟩:∃m,ms[t]?=some m:=⟨_,iB ht⟩
  rw[N4 hm];have:=zR m (bV hm);exact dV _ (by omega) (by omega)
 ·have e:LD ms t=LD [] 0:=by
   unfold LD;rw[List.getElem?_eq_none (by omega)];rfl
  rw[e];exact dV 0 (by decide) (by decide)
theorem OM{M:List (List Rat)}(hq:∀a∈M,∀q∈a,bI q<=300)(t i:Nat):bI (vf (M.getD t []) i)<=300:=by
 refine aRj ?_ (by decide) i;rw[dN];cases h:M[t]? with
 | none=>intro q hq;cases hq
 | some a=>exact hq a (bV h)
theorem aGm{M:List (List Rat)}(hq:∀a∈M,∀q∈a,bI q<=300)(zR:∀m∈ms,1<=m.wt/\m.wt<=1000)(a b:Nat):∀k,bI (ER M ms k a b)<=606*k+2
 | 0=>dV 0 (by decide) (by decide)
 | k+1=>by
  have ih:=aGm hq zR a b k;unfold ER at ih ⊢;simp only[aN];have h1:=lG (aN k fun t=>LD ms t*vf (M.getD t []) a*vf (M.getD t []) b) (LD ms k*vf (M.getD k []) a*vf (M.getD k []) b);have h2:=eL (LD ms k*vf (M.getD k []) a) (vf (M.getD k []) b);have h3:=eL (LD ms k) (vf (M.getD k []) a);have h4:=aM2 zR k;have h5:=OM hq k a;have h6:=OM hq k b;omega
theorem W6(ok:bJ x)(h8:x.nodes.length<=8)(hm:∀m∈ms,vW x m)(zR:∀m∈ms,1<=m.wt/\m.wt<=1000)(hl:ms.length<=64):∀a∈mV (dU (aA x).length (aV x ms) ms),∀q∈a,bI q<=2600000000:=fun a ha q hq=>by
 have hr:=(lV ok hm).2;have hB:Bd (3+606*ms.length) (dU (aA x).length (aV x ms) ms):=fun r JS q hq'=>by
  obtain⟨i,hi⟩:=List.mem_iff_getElem?.1 JS;have K7:i<(aA x).length:=by
   have:=(dH.1 hi).1;rwa[cL] at this
  obtain⟨r0,h1,h2,h3⟩:=xD (ms:=ms) (M:=aV x ms) K7;rw[h1] at hi;injection hi with hi;subst hi;obtain⟨j,hj⟩:=List.mem_iff_getElem?.1 hq';have oP:j<(aA x).length:=by have:=(dH.1 hj).1;omega
  rw[<-fW hj,h3 j oP];have:=aGm (ms:=ms) hr zR i j (aV x ms).length;rw[wR] at this ⊢;omega
 have h:=W7 m_ hB (by omega) a ha q hq;rw[cL] at h;have h1:4^(aA x).length<=4^8:=Nat.pow_le_pow_right (by decide) (fZ ok h8);have h2:=Nat.mul_le_mul h1 (show 3+606*ms.length<=38787 by omega);omega
theorem aK_{z:Int}(h:1<=z/\z<=1000):bI ((z:Int):Rat)<=1:=by
 unfold bI;rw[Rat.num_intCast,Rat.den_intCast];have h1:dL 1=1:=tK (by decide) (by decide);rw[tK (by omega) (by omega),h1];decide
def BI(row:List Rat)(inv:List (List Rat))(s:Rat):Nat->Rat
 | 0=>s
 | i+1=>BI row inv s i-vf row i*jJ (inv.getD i []) row
def yW(x:bO)(ms:List Mi)(k:Nat)(m:Mi)(i:Nat):Rat:=BI ((aV x ms).getD k []) (mV (dU (aA x).length (aV x ms) ms)) (Rat.divInt 1 m.wt) i
def cR(x:bO)(ms:List Mi):List Rat:=ms.mapIdx fun k m=>yW x ms k m (aA x).length
theorem jH:(cR x ms).length=ms.length:=by unfold cR;rw[List.length_mapIdx]
theorem I2(h:ms[k]?=some m):(cR x ms)[k]?=some (yW x ms k m (aA x).length):=by
 unfold cR;rw[List.getElem?_mapIdx,h];rfl
theorem TJ(ok:bJ x)(h8:x.nodes.length<=8)(hm:∀m∈ms,vW x m)(zR:∀m∈ms,1<=m.wt/\m.wt<=1000)(hl:ms.length<=64){a row:List Rat}(ha:(mV (dU (aA x).length (aV x ms) ms))[i]?=some a)(hr:row∈aV x ms):a.length=(aA x).length/\bI (jJ a row)<=41600000010:=by
 have h1:a.length=(aA x).length:=by
  have h:=(qS (M:=dU (aA x).length (aV x ms) ms) m_).2 a (bV ha);rwa[cL] at h
 have h2:=W6 ok h8 hm zR hl a (bV ha);have h3:=(lV ok hm).2 row hr;have h4:=nC (ys:=row) h1 h2 (fun q hq=>cO (h3 q hq) (by decide)) (aA x).length lR;rw[nL (by rw[List.length_zipWith];omega)] at h4;have h5:=fZ ok h8;refine⟨h1,?_⟩;unfold jJ;refine cO h4 ?_;exact Nat.succ_le_succ (cO (Nat.mul_le_mul_right _ h5) (by decide))
theorem I3(ok:bJ x)(h8:x.nodes.length<=8)(hm:∀m∈ms,vW x m)(zR:∀m∈ms,1<=m.wt/\m.wt<=1000)(hl:ms.length<=64)(hk:ms[k]?=some m):∀i,i<=(aA x).length->bI (yW x ms k m i)<=2+i*41600000400
 | 0,_=>by
  have h:=zR m (bV hk);unfold yW BI;rw[Rat.divInt_eq_div];have h1:=IE ((1:Int):Rat) ((m.wt:Int):Rat);have h2:bI ((1:Int):Rat)<=1:=by decide+kernel
  have h3:bI ((m.wt:Int):Rat)<=1:=aK_ h;omega
 | i+1,hi=>by
  have ih:=I3 ok h8 hm zR hl hk i (by omega);unfold yW at ih ⊢;unfold BI;obtain⟨a,ha⟩:∃a,(mV (dU (aA x).length (aV x ms) ms))[i]?=some a:=eA (by rw[(qS m_).1,cL];omega);have w_:k<(aV x ms).length:=by rw[wR];exact(dH.1 hk).1
  have gX:(aV x ms).getD k []∈aV x ms:=by
   rw[dN,iB w_];exact List.getElem_mem w_
  have h1:=(TJ ok h8 hm zR hl ha gX).2;have e:(mV (dU (aA x).length (aV x ms) ms)).getD i []=a:=by rw[dN,ha];rfl
  rw[e];have h2:=rM (BI ((aV x ms).getD k []) (mV (dU (aA x).length (aV x ms) ms)) (Rat.divInt 1 m.wt) i) (vf ((aV x ms).getD k []) i*jJ a ((aV x ms).getD k []));have h3:=eL (vf ((aV x ms).getD k []) i) (jJ a ((aV x ms).getD k []));have h4:=OM (lV ok hm).2 k i;omega
def RO(x:bO)(ms:List Mi)(k:Nat):Fn:=nV (dU (aA x).length (aV x ms) ms) ((cU x ms).R k)
theorem sU(hr:mX x ms)(k:Nat):(cU x ms).SolK k (RO x ms k):=fun i hi=>by
 obtain⟨r,JS,hl,hv⟩:=xD (M:=aV x ms) (ms:=ms) (n:=(aA x).length) hi;have h1:=O2 m_ hr ((cU x ms).R k) JS;rw[cL] at h1;rw[<-CO JS];exact h1
theorem MA(row:List Rat)(inv:List (List Rat))(s:Rat):∀i,BI row inv s i=s-aN i fun t=>vf row t*jJ (inv.getD t []) row
 | 0=>by simp only[BI,aN];grind
 | i+1=>by
  unfold BI;rw[MA row inv s i];simp only[aN];grind
theorem aNe(ok:bJ x)(hm:∀m∈ms,vW x m)(hk:ms[k]?=some m):yW x ms k m (aA x).length=(cU x ms).spr k (RO x ms k):=by
 unfold yW Ls.spr;rw[MA,Rat.divInt_eq_div,aNA hk];have w_:k<(aV x ms).length:=by rw[wR];exact(dH.1 hk).1
 have gX:((aV x ms).getD k []).length=(aA x).length:=by
  rw[dN,iB w_];exact(lV ok hm).1 _ (List.getElem_mem w_)
 congr 1
 refine aL fun i hi=>?_;show _=vf ((aV x ms).getD k []) i*RO x ms k i;congr 1
 unfold RO nV;rw[cL];exact qX (Z8 hi) gX
theorem t6(ok:bJ x)(hm:∀m∈ms,vW x m)(hk:k<ms.length):(cR x ms)[k]?=some ((cU x ms).spr k (RO x ms k)):=by
 obtain⟨m,xA⟩:∃m,ms[k]?=some m:=⟨_,iB hk⟩;rw[I2 xA,aNe ok hm xA]
end
structure CZ (x:bO) (ms:List Mi):Prop where
 ok:bJ x
 h8:x.nodes.length<=8
 k64:ms.length<=64
 mi:∀m∈ms,vW x m
 tx:∀m∈ms,cI m.txt.data.toList=0
 wt:∀m∈ms,1<=m.wt/\m.wt<=1000
theorem CZ.sub{l:List Mi}(h:CZ x ms)(hs:l.Sublist ms):CZ x l:=⟨h.ok,h.h8,cO hs.length_le h.k64,fun m hm=>h.mi m (hs.subset hm),fun m hm=>h.tx m (hs.subset hm),fun m hm=>h.wt m (hs.subset hm)⟩
section
variable {x:bO} {ms:List Mi}
theorem CZ.mdv(h:CZ x ms)(hm:m∈ms):bI (yY x m)<=2600:=by
 have h0:=nA h.ok (h.mi m hm);have h1:=o0 (iD (h.tx m hm));have h2:=rM (gC m.txt) (aS x m).2;have h3:=eL (m.wt:Rat) (gC m.txt-(aS x m).2);have h4:=aK_ (h.wt m hm);have h5:=h0.fr;unfold yY;omega
theorem CZ.rgt(h:CZ x ms):∀q∈mT (aA x).length x ms ms.length,bI q<=2600000000:=fun q hq=>by
 obtain⟨t,ht⟩:=List.mem_iff_getElem?.1 hq;have LM:t<(aA x).length:=by have:=(dH.1 ht).1;rwa[fO] at this
 have h0:∀u,u<ms.length->bI (EG x ms u*vf ((aV x ms).getD u []) t)<=3000:=fun u hu=>by
  obtain⟨m2,zS⟩:∃m2,ms[u]?=some m2:=⟨_,iB hu⟩;have h1:=h.mdv (bV zS);have h3:=OM (lV h.ok h.mi).2 u t;have h4:=eL (EG x ms u) (vf ((aV x ms).getD u []) t);rw[CU zS] at h4 ⊢;omega
 have h5:=G3 LM (k:=ms.length) h0;rw[fW ht] at h5;have:=h.k64;omega
theorem CZ.ang(h:CZ x ms)(hi:i<(aA x).length):bI (nY x ms i)<=41600000010:=by
 obtain⟨a,ha⟩:∃a,(mV (dU (aA x).length (aV x ms) ms))[i]?=some a:=eA (by rw[(qS m_).1,cL];exact hi);have h1:a.length=(aA x).length:=by
  have h:=(qS (M:=dU (aA x).length (aV x ms) ms) m_).2 a (bV ha);rwa[cL] at h
 have h2:=W6 h.ok h.h8 h.mi h.wt h.k64 a (bV ha);have h4:=nC (ys:=mT (aA x).length x ms ms.length) h1 h2 h.rgt (aA x).length lR;rw[nL (by rw[List.length_zipWith];omega)] at h4;have h5:=fZ h.ok h.h8;unfold nY;rw[dN,ha];show bI (jJ a _)<=_;unfold jJ;refine cO h4 ?_;exact Nat.succ_le_succ (cO (Nat.mul_le_mul_right _ h5) (by decide))
theorem CZ.est(h:CZ x ms):∀q∈bE x ms,bI q<=41600000010:=fun q hq=>by
 obtain⟨j,hj⟩:=List.mem_iff_getElem?.1 hq;have oP:j<aH x:=by have:=(dH.1 hj).1;rwa[aAz] at this
 have e:=X0 (x:=x) (ms:=ms) oP;rw[fW hj] at e;rw[e];unfold ext;by_cases hp:dX (eJ x) j=true
 ·rw[if_pos hp]
  exact h.ang (dH.1 (rO hp oP)).1
 ·rw[if_neg hp]
  exact cO (dV 0 (by decide) (by decide)) (by decide)
theorem CZ.res(h:CZ x ms):∀q∈aQ x ms (bE x ms),bI q<=700000000000:=fun q hq=>by
 unfold aQ at hq;obtain⟨m,hm,rfl⟩:=List.mem_map.1 hq;have h0:=nA h.ok (h.mi m hm);have h1:=o0 (iD (h.tx m hm));have h2:=nC (ys:=bE x ms) (Z:=41600000010) h0.len (fun q hq=>cO (h0.cf q hq) (by decide)) h.est (aH x) lR;rw[nL (by rw[List.length_zipWith,h0.len];omega)] at h2;have h3:=lG (jJ (aS x m).1 (bE x ms)) (aS x m).2;have h4:=rM (gC m.txt) (jJ (aS x m).1 (bE x ms)+(aS x m).2);have h5:=h0.fr;have h6:aH x<=8:=cO (eX h.ok).2 h.h8;have h7:bI (jJ (aS x m).1 (bE x ms))<=665600000169:=by
  unfold jJ;refine cO h2 ?_;exact Nat.succ_le_succ (cO (Nat.mul_le_mul_right _ h6) (by decide))
 omega
theorem CZ.spr(h:CZ x ms):∀q∈cR x ms,bI q<=400000000000:=fun q hq=>by
 obtain⟨k,hk⟩:=List.mem_iff_getElem?.1 hq;have hkl:k<ms.length:=by have:=(dH.1 hk).1;rwa[jH] at this
 obtain⟨m,hm⟩:∃m,ms[k]?=some m:=⟨_,iB hkl⟩;rw[I2 hm] at hk;injection hk with hk;rw[<-hk];have h1:=I3 h.ok h.h8 h.mi h.wt h.k64 hm (aA x).length lR;have h2:=fZ h.ok h.h8;omega
end
def WOk(rs ss:List Rat)(k:Nat):Prop:=vf rs k≠0/\vf ss k≠0
def QO(rs ss:List Rat)(k:Nat):Rat:=vf rs k*vf rs k / vf ss k
def gH(rs ss:List Rat)(n:Nat)(b:Int):Prop:=(b=-1/\∀k,k<n->¬WOk rs ss k)\/∃j:Nat,b=(j:Int)/\j<n/\WOk rs ss j/\(∀i,i<n->WOk rs ss i->QO rs ss i<=QO rs ss j)/\∀i,i<j->WOk rs ss i->QO rs ss i<QO rs ss j
section
variable {rs ss:List Rat} {n:Nat} {b:Int}
theorem gH.zero:gH rs ss 0 (-1):=.inl ⟨rfl,fun k hk=>absurd hk (by omega)⟩
theorem gH.skip(h:gH rs ss n b)(hn:¬WOk rs ss n):gH rs ss (n+1) b:=by
 rcases h with⟨h1,h2⟩ | ⟨j,h1,h2,h3,h4,h5⟩
 ·exact .inl ⟨h1,fun k hk=>by
   by_cases e:k=n
   ·rw[e];exact hn
   ·exact h2 k (by omega)⟩
 ·exact .inr ⟨j,h1,by omega,h3,fun i hi hw=>by
   by_cases e:i=n
   ·rw[e] at hw;exact absurd hw hn
   ·exact h4 i (by omega) hw,h5⟩
theorem gH.first(h:gH rs ss n (-1))(hn:WOk rs ss n):gH rs ss (n+1) (n:Int):=by
 rcases h with⟨-,h2⟩ | ⟨j,h1,-⟩
 ·exact .inr ⟨n,rfl,by omega,hn,fun i hi hw=>by
   by_cases e:i=n
   ·rw[e];exact Rat.le_refl
   ·exact absurd hw (h2 i (by omega)),fun i hi hw=>absurd hw (h2 i (by omega))⟩
 ·omega
theorem gH.take(h:gH rs ss n (j:Int))(hn:WOk rs ss n)(hq:QO rs ss j<QO rs ss n):gH rs ss (n+1) (n:Int):=by
 rcases h with⟨h1,-⟩ | ⟨j',h1,h2,h3,h4,h5⟩
 ·omega
 ·have e:j'=j:=by omega
  subst e;exact .inr ⟨n,rfl,by omega,hn,fun i hi hw=>by
   by_cases e:i=n
   ·rw[e];exact Rat.le_refl
   ·have:=h4 i (by omega) hw;grind,fun i hi hw=>by
   have:=h4 i (by omega) hw;grind⟩
theorem gH.one{c:Int}(h:gH rs ss n b)(g:gH rs ss n c):b=c:=by
 rcases h with⟨h1,h2⟩ | ⟨j,h1,h2,h3,h4,h5⟩<;>rcases g with⟨g1,g2⟩ | ⟨i,g1,g2,g3,g4,g5⟩
 ·omega
 ·exact absurd g3 (h2 i g2)
 ·exact absurd h3 (g2 j h2)
 ·rcases Nat.lt_trichotomy i j with e | e | e
  ·have:=h5 i e g3
   have:=g4 j h2 h3;grind
  ·omega
  ·have:=g5 j e h3
   have:=h4 i g2 g3;grind
end
section
variable {x:bO} {ms:List Mi}
theorem spr_nn(h:CZ x ms)(hr:mX x ms)(hk:k<ms.length):0<=vf (cR x ms) k:=by
 rw[fW (t6 h.ok h.mi hk)];exact(sU hr k).spr_nn (AH fun m hm=>(h.wt m hm).1) hk
end
inductive ClG (x:bO):List Nat->List Mi->List Nat->List Nat->Prop
 | done {nums:List Nat} {rest:List Mi} {out:List Nat} {b:Int}:gH (aQ x rest (bE x rest)) (cR x rest) rest.length b->b<0->ClG x nums rest out out
 | step {nums:List Nat} {rest:List Mi} {out r:List Nat} {k i:Nat}:gH (aQ x rest (bE x rest)) (cR x rest) rest.length (k:Int)->nums[k]?=some i->ClG x (nums.eraseIdx k) (rest.eraseIdx k) (out++[i]) r->ClG x nums rest out r
structure ClI (ms:List Mi) (nums:List Nat) (rest:List Mi) (out:List Nat):Prop where
 len:nums.length=rest.length
 at_:∀(i j:Nat),nums[i]?=some j->rest[i]?=ms[j]?/\j<ms.length
 inc:nums.Pairwise (·<·)
 off:∀j,j<ms.length->(j∈nums<->¬j∈out)
 tot:out.length+nums.length=ms.length
theorem ClI.zero(ms:List Mi):ClI ms (List.range ms.length) ms []:=⟨List.length_range,fun i j h=>by
 obtain⟨h1,h2⟩:=dH.1 h;rw[List.getElem_range] at h2;rw[List.length_range] at h1;exact⟨by rw[h2],by omega⟩,List.pairwise_lt_range,fun j hj=>by simp[hj],by simp⟩
theorem aEA{l:List Nat}(h:l.Pairwise (·<·)):l.Nodup:=h.imp fun jA e=>by omega
theorem mem_erase_iff{l:List Nat}(h:l.Nodup)(hk:l[k]?=some i)(j:Nat):j∈l.eraseIdx k<->j∈l/\j≠i:=by
 obtain⟨hkl,hki⟩:=dH.1 hk;rw[List.mem_eraseIdx_iff_getElem?]
 constructor
 ·rintro⟨t,ht,hj⟩
  refine⟨bV hj,fun e=>ht ?_⟩;subst e;obtain⟨a1,a2⟩:=dH.1 hj;exact(List.getElem_inj h).1 (a2.trans hki.symm)
 ·rintro⟨hj,bX⟩
  obtain⟨t,ht⟩:=List.mem_iff_getElem?.1 hj;refine⟨t,fun e=>bX ?_,ht⟩;subst e;rw[hk] at ht;injection ht with ht;exact ht.symm
theorem ClI.step{ms rest:List Mi}{nums out:List Nat}(h:ClI ms nums rest out){k i:Nat}(hk:nums[k]?=some i):ClI ms (nums.eraseIdx k) (rest.eraseIdx k) (out++[i]):=by
 have hkl:k<nums.length:=(dH.1 hk).1;refine⟨by rw[List.length_eraseIdx_of_lt hkl,List.length_eraseIdx_of_lt (by rw[<-h.len];exact hkl),h.len],fun t j ht=>?_,h.inc.sublist (List.eraseIdx_sublist _ _),fun j hj=>?_,?_⟩
 ·rw[List.getElem?_eraseIdx] at ht ⊢
  split at ht
  ·rename_i h1;rw[if_pos h1];exact h.at_ _ _ ht
  ·rename_i h1;rw[if_neg h1];exact h.at_ _ _ ht
 ·rw[mem_erase_iff (aEA h.inc) hk,h.off j hj,List.mem_append,List.mem_singleton,not_or]
 ·rw[jW,List.length_eraseIdx_of_lt hkl,List.length_singleton]
  have:=h.tot;omega
end
section
open Go.ChangeShapes Go.WideShapes Go.ChangeAt Go.RowKit
def aVK(_:Value):Prop:=True
section
variable {S:Value->Prop} {w:Wo} {base T size n k:Nat} {v:Value} {xs:List Value}
end
end
section
open Go.ChangeShapes Go.WideShapes Go.ChangeAt Go.RowKit
attribute [local go_sem ↓] aE
attribute [local go_sem] aJ aI aM aR
section
variable {S:Value->Prop} {w w':Wo} {base e size n:Nat} {v:Value} {xs:List Value}
theorem bK.put5{gp:Nat}{a0 a1 a2 a3 a4 v0 v1 v2 v3 v4:Value}(o:bK S w base e size v n xs)(h:aG w gp 95 #[a0,a1,a2,a3,a4])(ht:e≠95):bK S (((((w.setCell ⟨gp,0,none⟩ v0).setCell ⟨gp,1,none⟩ v1).setCell ⟨gp,2,none⟩ v2).setCell ⟨gp,3,none⟩ v3).setCell ⟨gp,4,none⟩ v4) base e size v n xs:=by
 have h1:=h.set_ 0 v0;have h2:=h1.set_ 1 v1;have h3:=h2.set_ 2 v2;have h4:=h3.set_ 3 v3;exact((((o.far h ht).far h1 ht).far h2 ht).far h3 ht).far h4 ht
end
structure ClM (x:bO) (g6:Nat) (w0 wr:Wo) (v8 v9 v10:Value) (nums:List Nat) (rest:List Mi) (out:List Nat) (fc:Array Value):Prop where
 fit:tU x rest w0.heap.size wr (.agg fc)
 box:aG wr g6 95 fc
 low:w0.heap.size<=g6
 num:bK vL wr w0.heap.size 3 1 v9 nums.length (gM nums)
 rst:bK aVK wr w0.heap.size 57 4 v8 rest.length (rest.flatMap Mi.cells)
 out:bK vL wr w0.heap.size 3 1 v10 out.length (gM out)
 ne:∀b,v9.ownBlock=some b->v10.ownBlock≠some b
 bel:Below w0.heap.size w0 wr
end
section
def aCR(m:Mi):Mi:={ m with txt:=⟨#[]⟩ }
def nN(ms ms':List Mi):Prop:=ms.map aCR=ms'.map aCR
theorem nN.symm(h:nN ms ms'):nN ms' ms:=Eq.symm h
theorem nN.len(h:nN ms ms'):ms.length=ms'.length:=by
 have:=congrArg List.length h;rwa[jO,jO] at this
theorem nN.at_(h:nN ms ms')(hm:ms'[k]?=some m):∃m0,ms[k]?=some m0/\aCR m0=aCR m:=by
 have:=congrArg (fun l=>l[k]?) h;simp only[iY,hm] at this;cases h0:ms[k]? with
 | none=>rw[h0] at this;cases this
 | some m0=>rw[h0] at this;exact⟨m0,rfl,by simpa using this⟩
theorem nN.rows(h:nN ms ms'):aV x ms'=aV x ms:=by
 have e:∀l:List Mi,aV x l=(l.map aCR).map fun m=>kH x (aS x m).1:=fun l=>by
  unfold aV;rw[List.map_map];rfl
 rw[e,e,h]
theorem nN.wt(h:nN ms ms')(k:Nat):LD ms' k=LD ms k:=by
 have e:∀l:List Mi,LD l k=LD (l.map aCR) k:=fun l=>by
  unfold LD;rw[iY];cases l[k]?<;>rfl
 rw[e ms',e ms,h]
theorem nN.reg(h:nN ms ms')(h1:∀m∈ms,1<=m.wt)(h2:∀m∈ms',1<=m.wt):mX x ms'<->mX x ms:=by
 rw[xH h1,xH h2];have e:∀k,(cU x ms').R k=(cU x ms).R k:=fun k=>by
  show vf ((aV x _).getD k [])=vf ((aV x _).getD k []);rw[h.rows]
 simp only[e,h.len]
structure PZ (x:bO) (ms:List Mi) (k:Nat) (b:Rat):Prop where
 own:vf (aQ x ms (bE x ms)) k=b*(cU x ms).w k*vf (cR x ms) k
 oth:∀j,j<ms.length->j≠k->vf (aQ x ms (bE x ms)) j=-(b*(cU x ms).w k*aP (cU x ms).n ((cU x ms).R j) (RO x ms k))
section
variable {x:bO} {ms:List Mi} {k:Nat} {b:Rat}
theorem OG(hm:CZ x ms)(hr:mX x ms)(hj:j<ms.length)(h0:vf (cR x ms) j≠0):0<vf (cR x ms) j:=by
 rcases Rat.le_iff_lt_or_eq.1 (spr_nn hm hr hj) with h | h
 ·exact h
 ·exact absurd h.symm h0
theorem PZ.none(h:PZ x ms k b)(hm:CZ x ms)(hr:mX x ms)(hk:k<ms.length)(h0:vf (cR x ms) k=0){c:Int}(hw:gH (aQ x ms (bE x ms)) (cR x ms) ms.length c):c=-1:=by
 rcases hw with⟨h1,-⟩ | ⟨j,-,h2,h3,-⟩
 ·exact h1
 ·exfalso
  refine h3.1 ?_;by_cases e:j=k
  ·rw[e,h.own,h0,Rat.mul_zero]
  ·rw[h.oth j h2 e]
   have e1:(cU x ms).spr k (RO x ms k)=0:=by rw[<-h0];exact(fW (t6 hm.ok hm.mi hk)).symm
   rw[((sU hr k).spr_zero (AH fun m h=>(hm.wt m h).1) hk e1).1 j h2 e];grind
theorem PZ.le(h:PZ x ms k b)(hm:CZ x ms)(hr:mX x ms)(hk:k<ms.length)(h0:vf (cR x ms) k≠0)(hj:j<ms.length)(bX:j≠k):vf (aQ x ms (bE x ms)) j*vf (aQ x ms (bE x ms)) j*vf (cR x ms) k<=vf (aQ x ms (bE x ms)) k*vf (aQ x ms (bE x ms)) k*vf (cR x ms) j:=by
 have hp:(cU x ms).Pos:=AH fun m h=>(hm.wt m h).1;have hsk:=OG hm hr hk h0;have hc:=Ls.cross hp (show j<(cU x ms).K from hj) (show k<(cU x ms).K from hk) bX (sU hr k) (sU hr j) (by rw[<-fW (t6 hm.ok hm.mi hk)];exact hsk);rw[<-fW (t6 hm.ok hm.mi hk),<-fW (t6 hm.ok hm.mi hj)] at hc;rw[h.own,h.oth j hj bX];generalize aP (cU x ms).n ((cU x ms).R j) (RO x ms k)=d at *;generalize b*(cU x ms).w k=c at *;generalize vf (cR x ms) k=s at *;generalize vf (cR x ms) j=t at *;have h1:=Rat.mul_le_mul_of_nonneg_left hc (Rat.mul_nonneg (aEe c) (Rat.le_of_lt hsk));have e1:-(c*d)*-(c*d)*s=c*c*s*(d*d):=by grind
 have e2:c*s*(c*s)*t=c*c*s*(t*s):=by grind
 rw[e1,e2];exact h1
end
end
