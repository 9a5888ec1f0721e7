import Derived.Test.YthgdchffeigkbaaGreatDoorW17
import Derived.Test.YthgdchffeigkbaaGreatDoorW18
set_option linter.unusedVariables false
set_option linter.unusedSimpArgs false
namespace Go.Proofs.YthgdchffeigkbaaGreatDoor
set_option maxHeartbeats 8000000
set_option maxRecDepth 100000
variable {M : List (List Rat)} {a al : List Rat} {i k : Nat} {l ms p : List Mi} {m : Mi} {out : List Nat} {v : Value} {w : World} {x : bK}
section
open Go.ChangeShapes Go.WideShapes Go.ChangeAt Go.RowKit
attribute [local go_sem ↓] aE
attribute [local go_sem] aL aK aO a_
def aGS(n:Nat)(p:List Rat×Rat):Value->World->Prop:=fun v w=>∃(gc:Nat)(u:Rv),v=.agg #[.slice (some ⟨gc,0,none⟩) n n,.bool u.b1,.slice u.A u.n u.c,.bool u.b2,.slice u.A2 u.m u.d]/\iE w w.heap.size (some ⟨gc,0,none⟩) n p.1/\cU w w.heap.size p.2 u
theorem aGS.up{n:Nat}{p:List Rat×Rat}{w':Wo}(h:aGS n p v w)(hb:Below w.heap.size w w'):aGS n p v w':=by
 obtain⟨gc,u,e,h1,h2⟩:=h;exact⟨gc,u,e,(h1.below hb lR).more hb.size,h2.up hb⟩
end
section
theorem aFx{q:Rat}(h:q.num.natAbs<10^5/\q.den<10^5):cH q:=Tn.fits (k:=5) h (by decide)
end
section
open Go.ChangeShapes Go.WideShapes Go.ChangeAt Go.RowKit
attribute [local go_sem ↓] aE
attribute [local go_sem] aL aK aO a_
theorem aKW:∀{ms:List Mi},(∀m∈ms,cH (yM x al m))->qB x ms=0->qB x (ms.map (dQ x al))=0
 | [],_,_=>rfl
 | m::r,h,h0=>by
  have h1:=vE h0 m (by simp);rw[List.map_cons];unfold qB at h0 ⊢;rw[if_pos h1] at h0;have h2:=(CF (h m (by simp))).1;have h3:AM x (dQ x al m)=0:=by
   unfold AM at h1 ⊢;unfold dQ;dsimp only;split at h1
   ·omega
   ·rename_i a1
    split at h1
    ·omega
    ·rename_i a2
     split at h1
     ·exact absurd h1 (by assumption)
     ·split at h1
      ·omega
      ·rename_i a4
       rw[if_neg a1,if_neg a2,if_neg (fun e=>e h2),if_neg a4]
  rw[if_pos h3];exact aKW (fun a ha=>h a (by simp[ha])) h0
theorem aKX(hf:∀m∈ms,cH (yM x al m))(h:cN x ms=0):cN x (ms.map (dQ x al))=0:=by
 unfold cN at h ⊢;split at h
 ·exact absurd h (by assumption)
 ·rename_i h1
  split at h
  ·omega
  ·rename_i h2
   rw[if_neg h1,iT,if_neg h2];exact aKW hf h
theorem aFB(hf:∀m∈ms,cH (yM x al m))(hc:cN x ms=0)(hg:XF x al)(hr:o5 x (ms.map (dQ x al))):cE x (ms.map (dQ x al))=al/\Y9 x (ms.map (dQ x al)) al=0:=by
 obtain⟨ok,-,hm⟩:=mI (aKX hf hc);exact aBn ok hm hr hg fun m hm=>by
  obtain⟨m0,h0,rfl⟩:=List.mem_map.1 hm;exact(CF (hf m0 h0)).2
end
section
section
variable {x:bK} {ms:List Mi}
theorem aPl{l:List Rat}{b:Nat}(h:∀q∈l,bE q<=b)(hb:2<=b)(i:Nat):bE (vf l i)<=b:=by
 by_cases hi:i<l.length
 ·exact h _ (bS (bC hi))
 ·have e:vf l i=0:=by
   unfold vf;rw[dH,List.getElem?_eq_none (by omega)];rfl
  rw[e];exact b_ (dP 0 (by decide) (by decide)) hb
theorem aLv(wL:∀m∈ms,1<=m.wt/\m.wt<=1000)(t:Nat):bE (XI ms t)<=2:=by
 by_cases ht:t<ms.length
 ·obtain⟨m,hm⟩:∃m,ms[t]?=some m:=⟨_,gS ht⟩
  rw[MQ hm];have:=wL m (bS hm);exact dP _ (by omega) (by omega)
 ·have e:XI ms t=XI [] 0:=by
   unfold XI;rw[List.getElem?_eq_none (by omega)];rfl
  rw[e];exact dP 0 (by decide) (by decide)
theorem M4(hq:∀a∈M,∀q∈a,bE q<=300)(t i:Nat):bE (vf (M.getD t []) i)<=300:=by
 refine aPl ?_ (by decide) i;rw[dH];cases h:M[t]? with
 | none=>intro q hq;cases hq
 | some a=>exact hq a (bS h)
theorem aFm(hq:∀a∈M,∀q∈a,bE q<=300)(wL:∀m∈ms,1<=m.wt/\m.wt<=1000)(a b:Nat):∀k,bE (DH M ms k a b)<=606*k+2
 | 0=>dP 0 (by decide) (by decide)
 | k+1=>by
  have ih:=aFm hq wL a b k;unfold DH at ih ⊢;simp only[aM];have h1:=kJ (aM k fun t=>XI ms t*vf (M.getD t []) a*vf (M.getD t []) b) (XI ms k*vf (M.getD k []) a*vf (M.getD k []) b);have h2:=eF (XI ms k*vf (M.getD k []) a) (vf (M.getD k []) b);have h3:=eF (XI ms k) (vf (M.getD k []) a);have h4:=aLv wL k;have h5:=M4 hq k a;have h6:=M4 hq k b;omega
theorem U4(ok:bJ x)(h8:x.nodes.length<=8)(hm:∀m∈ms,qU x m)(wL:∀m∈ms,1<=m.wt/\m.wt<=1000)(hl:ms.length<=64):∀a∈l9 (dL (aA x).length (aP x ms) ms),∀q∈a,bE q<=2600000000:=fun a ha q hq=>by
 have hr:=(fQ ok hm).2;have hB:Bd (3+606*ms.length) (dL (aA x).length (aP x ms) ms):=fun r DD q hq'=>by
  obtain⟨i,hi⟩:=List.mem_iff_getElem?.1 DD;have yV:i<(aA x).length:=by
   have:=(cY.1 hi).1;rwa[bQ] at this
  obtain⟨r0,h1,h2,h3⟩:=vK (ms:=ms) (M:=aP x ms) yV;rw[h1] at hi;injection hi with hi;subst hi;obtain⟨j,hj⟩:=List.mem_iff_getElem?.1 hq';have rS:j<(aA x).length:=by have:=(cY.1 hj).1;omega
  rw[<-kW hj,h3 j rS];have:=aFm (ms:=ms) hr wL i j (aP x ms).length;rw[p_] at this ⊢;omega
 have h:=U5 k_ hB (by omega) a ha q hq;rw[bQ] at h;have h1:4^(aA x).length<=4^8:=Nat.pow_le_pow_right (by decide) (fN ok h8);have h2:=Nat.mul_le_mul h1 (show 3+606*ms.length<=38787 by omega);omega
theorem aJ4{z:Int}(h:1<=z/\z<=1000):bE ((z:Int):Rat)<=1:=by
 unfold bE;rw[Rat.num_intCast,Rat.den_intCast];have h1:dA 1=1:=sP (by decide) (by decide);rw[sP (by omega) (by omega),h1];decide
def zR(row:List Rat)(inv:List (List Rat))(s:Rat):Nat->Rat
 | 0=>s
 | i+1=>zR row inv s i-vf row i*iM (inv.getD i []) row
def xB(x:bK)(ms:List Mi)(k:Nat)(m:Mi)(i:Nat):Rat:=zR ((aP x ms).getD k []) (l9 (dL (aA x).length (aP x ms) ms)) (Rat.divInt 1 m.wt) i
def kP(x:bK)(ms:List Mi):List Rat:=ms.mapIdx fun k m=>xB x ms k m (aA x).length
theorem nY:(kP x ms).length=ms.length:=by unfold kP;rw[List.length_mapIdx]
theorem GM(h:ms[k]?=some m):(kP x ms)[k]?=some (xB x ms k m (aA x).length):=by
 unfold kP;rw[List.getElem?_mapIdx,h];rfl
theorem RT(ok:bJ x)(h8:x.nodes.length<=8)(hm:∀m∈ms,qU x m)(wL:∀m∈ms,1<=m.wt/\m.wt<=1000)(hl:ms.length<=64){row:List Rat}(ha:(l9 (dL (aA x).length (aP x ms) ms))[i]?=some a)(hr:row∈aP x ms):a.length=(aA x).length/\bE (iM a row)<=41600000010:=by
 have h1:a.length=(aA x).length:=by
  have h:=(qG (M:=dL (aA x).length (aP x ms) ms) k_).2 a (bS ha);rwa[bQ] at h
 have h2:=U4 ok h8 hm wL hl a (bS ha);have h3:=(fQ ok hm).2 row hr;have h4:=mS (ys:=row) h1 h2 (fun q hq=>b_ (h3 q hq) (by decide)) (aA x).length lR;rw[nT (by rw[List.length_zipWith];omega)] at h4;have h5:=fN ok h8;refine⟨h1,?_⟩;unfold iM;refine b_ h4 ?_;exact Nat.succ_le_succ (b_ (Nat.mul_le_mul_right _ h5) (by decide))
theorem GN(ok:bJ x)(h8:x.nodes.length<=8)(hm:∀m∈ms,qU x m)(wL:∀m∈ms,1<=m.wt/\m.wt<=1000)(hl:ms.length<=64)(hk:ms[k]?=some m):∀i,i<=(aA x).length->bE (xB x ms k m i)<=2+i*41600000400
 | 0,_=>by
  have h:=wL m (bS hk);unfold xB zR;rw[Rat.divInt_eq_div];have h1:=FY ((1:Int):Rat) ((m.wt:Int):Rat);have h2:bE ((1:Int):Rat)<=1:=by decide+kernel
  have h3:bE ((m.wt:Int):Rat)<=1:=aJ4 h;omega
 | i+1,hi=>by
  have ih:=GN ok h8 hm wL hl hk i (by omega);unfold xB at ih ⊢;unfold zR;obtain⟨a,ha⟩:∃a,(l9 (dL (aA x).length (aP x ms) ms))[i]?=some a:=eE (by rw[(qG k_).1,bQ];omega);have sM:k<(aP x ms).length:=by rw[p_];exact(cY.1 hk).1
  have gN:(aP x ms).getD k []∈aP x ms:=by
   rw[dH,gS sM];exact List.getElem_mem sM
  have h1:=(RT ok h8 hm wL hl ha gN).2;have e:(l9 (dL (aA x).length (aP x ms) ms)).getD i []=a:=by rw[dH,ha];rfl
  rw[e];have h2:=rD (zR ((aP x ms).getD k []) (l9 (dL (aA x).length (aP x ms) ms)) (Rat.divInt 1 m.wt) i) (vf ((aP x ms).getD k []) i*iM a ((aP x ms).getD k []));have h3:=eF (vf ((aP x ms).getD k []) i) (iM a ((aP x ms).getD k []));have h4:=M4 (fQ ok hm).2 k i;omega
def aDc(x:bK)(ms:List Mi)(k:Nat):Fn:=qF (dL (aA x).length (aP x ms) ms) ((jC x ms).R k)
theorem aDb(hr:o5 x ms)(k:Nat):(jC x ms).SolK k (aDc x ms k):=fun i hi=>by
 obtain⟨r,DD,hl,hv⟩:=vK (M:=aP x ms) (ms:=ms) (n:=(aA x).length) hi;have h1:=YA k_ hr ((jC x ms).R k) DD;rw[bQ] at h1;rw[<-sN DD];exact h1
theorem KV(row:List Rat)(inv:List (List Rat))(s:Rat):∀i,zR row inv s i=s-aM i fun t=>vf row t*iM (inv.getD t []) row
 | 0=>by simp only[zR,aM];grind
 | i+1=>by
  unfold zR;rw[KV row inv s i];simp only[aM];grind
theorem aLC(ok:bJ x)(hm:∀m∈ms,qU x m)(hk:ms[k]?=some m):xB x ms k m (aA x).length=(jC x ms).spr k (aDc x ms k):=by
 unfold xB Ls.spr;rw[KV,Rat.divInt_eq_div,aIp hk];have sM:k<(aP x ms).length:=by rw[p_];exact(cY.1 hk).1
 have gN:((aP x ms).getD k []).length=(aA x).length:=by
  rw[dH,gS sM];exact(fQ ok hm).1 _ (List.getElem_mem sM)
 congr 1
 refine aJ fun i hi=>?_;show _=vf ((aP x ms).getD k []) i*aDc x ms k i;congr 1
 unfold aDc qF;rw[bQ];exact IT (X_ hi) gN
theorem aHS(ok:bJ x)(hm:∀m∈ms,qU x m)(hk:k<ms.length):(kP x ms)[k]?=some ((jC x ms).spr k (aDc x ms k)):=by
 obtain⟨m,qJ⟩:∃m,ms[k]?=some m:=⟨_,gS hk⟩;rw[GM qJ,aLC ok hm qJ]
end
structure OE (x:bK) (ms:List Mi):Prop where
 ok:bJ x
 h8:x.nodes.length<=8
 k64:ms.length<=64
 mi:∀m∈ms,qU x m
 tx:∀m∈ms,dJ m.txt.data.toList=0
 wt:∀m∈ms,1<=m.wt/\m.wt<=1000
theorem aLM(h8:x.nodes.length<=8)(hc:cN x ms=0):OE x ms:=by
 obtain⟨h1,h2,h3⟩:=mI hc;obtain⟨h4,h5⟩:=AL hc;exact⟨h1,h8,h2,h3,h4,h5⟩
theorem OE.sub(h:OE x ms)(hs:l.Sublist ms):OE x l:=⟨h.ok,h.h8,b_ hs.length_le h.k64,fun m hm=>h.mi m (hs.subset hm),fun m hm=>h.tx m (hs.subset hm),fun m hm=>h.wt m (hs.subset hm)⟩
section
variable {x:bK} {ms:List Mi}
theorem OE.mdv(h:OE x ms)(hm:m∈ms):bE (xE x m)<=2600:=by
 have h0:=mQ h.ok (h.mi m hm);have h1:=qO (nC (h.tx m hm));have h2:=rD (kY m.txt) (aS x m).2;have h3:=eF (m.wt:Rat) (kY m.txt-(aS x m).2);have h4:=aJ4 (h.wt m hm);have h5:=h0.fr;unfold xE;omega
theorem OE.rgt(h:OE x ms):∀q∈l7 (aA x).length x ms ms.length,bE q<=2600000000:=fun q hq=>by
 obtain⟨t,ht⟩:=List.mem_iff_getElem?.1 hq;have QX:t<(aA x).length:=by have:=(cY.1 ht).1;rwa[fD] at this
 have h0:∀u,u<ms.length->bE (CY x ms u*vf ((aP x ms).getD u []) t)<=3000:=fun u hu=>by
  obtain⟨m2,wM⟩:∃m2,ms[u]?=some m2:=⟨_,gS hu⟩;have h1:=h.mdv (bS wM);have h3:=M4 (fQ h.ok h.mi).2 u t;have h4:=eF (CY x ms u) (vf ((aP x ms).getD u []) t);rw[BE wM] at h4 ⊢;omega
 have h5:=FQ QX (k:=ms.length) h0;rw[kW ht] at h5;have:=h.k64;omega
theorem OE.ang(h:OE x ms)(hi:i<(aA x).length):bE (mR x ms i)<=41600000010:=by
 obtain⟨a,ha⟩:∃a,(l9 (dL (aA x).length (aP x ms) ms))[i]?=some a:=eE (by rw[(qG k_).1,bQ];exact hi);have h1:a.length=(aA x).length:=by
  have h:=(qG (M:=dL (aA x).length (aP x ms) ms) k_).2 a (bS ha);rwa[bQ] at h
 have h2:=U4 h.ok h.h8 h.mi h.wt h.k64 a (bS ha);have h4:=mS (ys:=l7 (aA x).length x ms ms.length) h1 h2 h.rgt (aA x).length lR;rw[nT (by rw[List.length_zipWith];omega)] at h4;have h5:=fN h.ok h.h8;unfold mR;rw[dH,ha];show bE (iM a _)<=_;unfold iM;refine b_ h4 ?_;exact Nat.succ_le_succ (b_ (Nat.mul_le_mul_right _ h5) (by decide))
theorem OE.est(h:OE x ms):∀q∈cE x ms,bE q<=41600000010:=fun q hq=>by
 obtain⟨j,hj⟩:=List.mem_iff_getElem?.1 hq;have rS:j<aH x:=by have:=(cY.1 hj).1;rwa[Y2] at this
 have e:=VX (x:=x) (ms:=ms) rS;rw[kW hj] at e;rw[e];unfold ext;by_cases hp:fK (gL x) j=true
 ·rw[if_pos hp]
  exact h.ang (cY.1 (wD hp rS)).1
 ·rw[if_neg hp]
  exact b_ (dP 0 (by decide) (by decide)) (by decide)
theorem OE.res(h:OE x ms):∀q∈cW x ms (cE x ms),bE q<=700000000000:=fun q hq=>by
 unfold cW at hq;obtain⟨m,hm,rfl⟩:=List.mem_map.1 hq;have h0:=mQ h.ok (h.mi m hm);have h1:=qO (nC (h.tx m hm));have h2:=mS (ys:=cE x ms) (Z:=41600000010) h0.len (fun q hq=>b_ (h0.cf q hq) (by decide)) h.est (aH x) lR;rw[nT (by rw[List.length_zipWith,h0.len];omega)] at h2;have h3:=kJ (iM (aS x m).1 (cE x ms)) (aS x m).2;have h4:=rD (kY m.txt) (iM (aS x m).1 (cE x ms)+(aS x m).2);have h5:=h0.fr;have h6:aH x<=8:=b_ (eW h.ok).2 h.h8;have h7:bE (iM (aS x m).1 (cE x ms))<=665600000169:=by
  unfold iM;refine b_ h2 ?_;exact Nat.succ_le_succ (b_ (Nat.mul_le_mul_right _ h6) (by decide))
 omega
theorem OE.spr(h:OE x ms):∀q∈kP x ms,bE q<=400000000000:=fun q hq=>by
 obtain⟨k,hk⟩:=List.mem_iff_getElem?.1 hq;have hkl:k<ms.length:=by have:=(cY.1 hk).1;rwa[nY] at this
 obtain⟨m,hm⟩:∃m,ms[k]?=some m:=⟨_,gS hkl⟩;rw[GM hm] at hk;injection hk with hk;rw[<-hk];have h1:=GN h.ok h.h8 h.mi h.wt h.k64 hm (aA x).length lR;have h2:=fN h.ok h.h8;omega
end
def WOk(rs ss:List Rat)(k:Nat):Prop:=vf rs k≠0/\vf ss k≠0
def S5(rs ss:List Rat)(k:Nat):Rat:=vf rs k*vf rs k / vf ss k
def iO(rs ss:List Rat)(n:Nat)(b:Int):Prop:=(b=-1/\∀k,k<n->¬WOk rs ss k)\/∃j:Nat,b=(j:Int)/\j<n/\WOk rs ss j/\(∀i,i<n->WOk rs ss i->S5 rs ss i<=S5 rs ss j)/\∀i,i<j->WOk rs ss i->S5 rs ss i<S5 rs ss j
section
variable {rs ss:List Rat} {n:Nat} {b:Int}
theorem iO.zero:iO rs ss 0 (-1):=.inl ⟨rfl,fun k hk=>absurd hk (by omega)⟩
theorem iO.skip(h:iO rs ss n b)(hn:¬WOk rs ss n):iO rs ss (n+1) b:=by
 rcases h with⟨h1,h2⟩ | ⟨j,h1,h2,h3,h4,h5⟩
 ·exact .inl ⟨h1,fun k hk=>by
   by_cases e:k=n
   ·rw[e];exact hn
   ·exact h2 k (by omega)⟩
 ·exact .inr ⟨j,h1,by omega,h3,fun i hi hw=>by
   by_cases e:i=n
   ·rw[e] at hw;exact absurd hw hn
   ·exact h4 i (by omega) hw,h5⟩
theorem iO.first(h:iO rs ss n (-1))(hn:WOk rs ss n):iO rs ss (n+1) (n:Int):=by
 rcases h with⟨-,h2⟩ | ⟨j,h1,-⟩
 ·exact .inr ⟨n,rfl,by omega,hn,fun i hi hw=>by
   by_cases e:i=n
   ·rw[e];exact Rat.le_refl
   ·exact absurd hw (h2 i (by omega)),fun i hi hw=>absurd hw (h2 i (by omega))⟩
 ·omega
theorem iO.take{j:Nat}(h:iO rs ss n (j:Int))(hn:WOk rs ss n)(hq:S5 rs ss j<S5 rs ss n):iO rs ss (n+1) (n:Int):=by
 rcases h with⟨h1,-⟩ | ⟨j',h1,h2,h3,h4,h5⟩
 ·omega
 ·have e:j'=j:=by omega
  subst e;exact .inr ⟨n,rfl,by omega,hn,fun i hi hw=>by
   by_cases e:i=n
   ·rw[e];exact Rat.le_refl
   ·have:=h4 i (by omega) hw;grind,fun i hi hw=>by
   have:=h4 i (by omega) hw;grind⟩
theorem iO.stay{j:Nat}(h:iO rs ss n (j:Int))(hq:¬S5 rs ss j<S5 rs ss n):iO rs ss (n+1) (j:Int):=by
 rcases h with⟨h1,-⟩ | ⟨j',h1,h2,h3,h4,h5⟩
 ·omega
 ·have e:j'=j:=by omega
  subst e;exact .inr ⟨j',rfl,by omega,h3,fun i hi hw=>by
   by_cases e:i=n
   ·rw[e];grind
   ·exact h4 i (by omega) hw,h5⟩
theorem iO.one{c:Int}(h:iO rs ss n b)(g:iO rs ss n c):b=c:=by
 rcases h with⟨h1,h2⟩ | ⟨j,h1,h2,h3,h4,h5⟩<;>rcases g with⟨g1,g2⟩ | ⟨i,g1,g2,g3,g4,g5⟩
 ·omega
 ·exact absurd g3 (h2 i g2)
 ·exact absurd h3 (g2 j h2)
 ·rcases Nat.lt_trichotomy i j with e | e | e
  ·have:=h5 i e g3
   have:=g4 j h2 h3;grind
  ·omega
  ·have:=g5 j e h3
   have:=h4 i g2 g3;grind
theorem ZB{p q:Rat}:0<aBy p q<->q<p:=by
 unfold aBy;rw[<-Rat.not_le];have h5:=Rat.le_iff p q;rw[h5]
 constructor
 ·intro h KA
  rcases Int.lt_trichotomy (p.num*(q.den:Int)-q.num*(p.den:Int)) 0 with c | c | c
  ·rw[Int.sign_eq_neg_one_of_neg c] at h;omega
  ·rw[c] at h;exact absurd h (by decide)
  ·omega
 ·intro h
  have c:0<p.num*(q.den:Int)-q.num*(p.den:Int):=by omega
  rw[Int.sign_eq_one_of_pos c];decide
theorem XQ{p:Rat}:(p.num.sign == 0)=decide (p=0):=by
 have h1:p.num.sign=0<->p=0:=by
  rw[Int.sign_eq_zero_iff_zero];exact Rat.num_eq_zero
 by_cases h:p=0
 ·rw[h1.2 h,decide_eq_true h];rfl
 ·rw[decide_eq_false h]
  exact beq_eq_false_iff_ne.2 (fun e=>h (h1.1 e))
end
end
section
open Go.ChangeShapes Go.WideShapes Go.ChangeAt Go.RowKit
attribute [local go_sem ↓] aE
attribute [local go_sem] aL aK aO a_
theorem T0(x:bK)(ok:bJ x)(h8:x.nodes.length<=8)(ms:List Mi)(jZ:∀m∈ms,qU x m)(wL:∀m∈ms,1<=m.wt/\m.wt<=1000)(hl:ms.length<=64)(fv:Value)(B0:Nat)(A:OA)(c:Nat)(w:Wo)(hf:uL x ms B0 w fv)(hm:eB w w.heap.size A ms.length ms):Calls Tryz.prog 85 #[fv,.slice A ms.length c] w fun e w'=>Below w.heap.size w w'/\∃v us,e=.returned v/\dD w' w.heap.size v us (kP x ms):=by
 obtain⟨g,m,y,A1,c1,gi,ga,B1,d1,rfl,YL,BT,wP,hf3,hf4,JR,RD⟩:=hf;have hz:=jO w (.cells #[.pointer (some ⟨g,0,none⟩),.slice A1 ms.length c1,.slice (some ⟨gi,0,none⟩) (aA x).length (aA x).length,.slice (some ⟨ga,0,none⟩) (aH x) (aH x),.slice B1 ms.length d1] 95);obtain⟨TK,wY,FE,HIM,HM⟩:=iS hz (aD.new w 95 #[.pointer (some ⟨g,0,none⟩),.slice A1 ms.length c1,.slice (some ⟨gi,0,none⟩) (aA x).length (aA x).length,.slice (some ⟨ga,0,none⟩) (aH x) (aH x),.slice B1 ms.length d1]) (hf3.bm hz) (hf4.bm hz) (hm.bm hz);obtain⟨bM,BM,WS,uR⟩:=h_ ok jZ wL (fN ok h8);clear YL BT wP hf3 hf4 JR RD hz hm ok jZ wL;go_enter Tryz.func85,Tryz.ntmps85
 go_upto_region 1 with fail
 generalize w.alloc (.cells #[.pointer (some ⟨g,0,none⟩),.slice A1 ms.length c1,.slice (some ⟨gi,0,none⟩) (aA x).length (aA x).length,.slice (some ⟨ga,0,none⟩) (aH x) (aH x),.slice B1 ms.length d1] 95)=wz at *;generalize FW:w.heap.size=gf at *;have lF:=lH FW;clear FW;have f1:=wY.o.cell 1;have fl:=wY.o.lt
 go_wp2_with fail
 clear f1 fl
 go_loopw [5,13] (fun v5 v13 wr=>∃(k:Nat)(us:List Rv),k<=ms.length/\v13=.int .i64 k/\dD wr wz.heap.size v5 us ((kP x ms).take k)/\Below wz.heap.size wz wr) (fun _ v13 _=>ms.length-(intOf v13).toNat)
 case atStart=>exact⟨0,[],by omega,rfl,kC _ _,bR⟩
 case round=>
  obtain⟨k,us,hk,rfl,ho,hb⟩:=hrel;have HO:=lH ho;have HB:=lH hb;clear ho hb;by_cases aR:k<ms.length
  ·obtain⟨mi,s_⟩:∃mi,ms[k]?=some mi:=⟨_,gS aR⟩
   have ZS:=lH s_;have EQ:Hid ((kP x ms).take (k+1)=(kP x ms).take k++[xB x ms k mi (aA x).length]):=lH (gJ (GM s_));have sM:k<(aP x ms).length:=by rw[p_];exact aR
   obtain⟨row,gN⟩:∃row,(aP x ms)[k]?=some row:=⟨_,gS sM⟩;have FD:=lH gN;have VF:=(FE.o.below HB.o lR).more HB.o.size;obtain⟨pb,po,aMP,hpb⟩:=VF.form (by omega);subst aMP;obtain⟨⟨qa,qn,qc⟩,q0,q1,q2,q3⟩:=VF.at_ gN;dsimp only at q0 q1 q2 q3;have aA9:row.length=(aA x).length:=(fQ bM.o BM.o).1 row (bS gN);have hqn:(aA x).length=qn:=by rw[<-q1.len];exact aA9.symm
   subst hqn;have BW:=lH q1;have qJ:=(HM.o.below HB.o lR).more HB.o.size;obtain⟨ab,ao,hA,lO,-⟩:=qJ.2.2 (by omega);subst hA;obtain⟨a0,a1,a2,a3⟩:=qJ.at_ s_;have hw3:=WS.o mi (bS s_);have f_:(k:Int)<(ms.length:Int):=by omega
   have kO:=lZ k;have rR:=jM k;have kL:=lN k;have iR:Hid (ms.length-(k+1)<ms.length-k):=lH (by omega);clear VF qJ gN s_ q1 q2 q3 sM aA9;(go_wp2_with fail);refine(aFt 1 mi.wt wr (by decide) (by decide) (by omega) (by omega) (by omega)).mono ?_;rintro e w1 ⟨bO,r0,rfl,h0⟩;clear a0 a1 a2 a3 q0 hpb lO;have kF:=jO w1 (.cells #[.bool r0.b1,.slice r0.A r0.n r0.c,.bool r0.b2,.slice r0.A2 r0.m r0.d] 115);obtain⟨KQ,F4,HBB⟩:=dZ (aD.new w1 115 #[.bool r0.b1,.slice r0.A r0.n r0.c,.bool r0.b2,.slice r0.A2 r0.m r0.d]) (h0.up kF) (bO.tm kF);have HGV:Hid (wr.heap.size<=w1.heap.size):=lH bO.size;clear kF bO h0;(go_upto_region 6 with fail);generalize w1.alloc (.cells #[.bool r0.b1,.slice r0.A r0.n r0.c,.bool r0.b2,.slice r0.A2 r0.m r0.d] 115)=wb at *;generalize w1.heap.size=gs at *;obtain⟨wl,hwl⟩:∃wl,wl=wr:=⟨_,rfl⟩;subst hwl;(go_wp2_with fail)
   go_loopw [26] (fun v26 wr=>∃(i:Nat)(r:Rv),i<=(aA x).length/\v26=.int .i64 i/\aD wr gs 115 #[.bool r.b1,.slice r.A r.n r.c,.bool r.b2,.slice r.A2 r.m r.d]/\cU wr wr.heap.size (xB x ms k mi i) r/\Below wl.heap.size wl wr) (fun v26 _=>(aA x).length-(intOf v26).toNat)
   case atStart=>exact⟨0,r0,by omega,rfl,KQ.o,F4.o,HBB.o⟩
   case round=>
    obtain⟨i,r,hi,rfl,IK,hrx,hb⟩:=hrel;obtain⟨fO,HRX,dN⟩:=dZ IK hrx hb;clear IK hrx hb;by_cases lE:i<(aA x).length
    ·have BS:(i:Int)<((aA x).length:Int):=by omega
     have iW:=lZ i;have aIT:=jM i;have W3:=lN i;have W4:Hid ((aA x).length-(i+1)<(aA x).length-i):=lH (by omega);(go_upto_region 9 with fail);have fV:=lH (HB.o.tm dN.o);have HFr:=lH (wY.o.bl fV.o);have f2:=HFr.o.cell 2;have fl:=HFr.o.lt;have hqi:=(HIM.o.below fV.o lR).more fV.o.size;obtain⟨irow,yU⟩:∃irow,(l9 (dL (aA x).length (aP x ms) ms))[i]?=some irow:=eE (by rw[hqi.len];exact lE);obtain⟨⟨ia,inn,ic⟩,i0,i1,i2,i3⟩:=hqi.at_ yU;dsimp only at i0 i1 i2 i3;rw[Nat.zero_add] at i0;have hgi:gi<wr.heap.size:=World.block_lt_of_cell? wr ⟨gi,i,none⟩ i0;have hdq:=RT bM.o h8 BM.o WS.o hl yU (bS FD.o);have sM:irow.length=(aA x).length:=hdq.1;have aMA:(aA x).length=inn:=by rw[<-i1.len];exact sM.symm
     subst aMA;have HIR:=lH i1;have HIQ:=lH (U4 bM.o h8 BM.o WS.o hl irow (bS yU));have HRQ:Hid (∀q∈row,bE q<=2600000000):=lH fun q hq=>b_ ((fQ bM.o BM.o).2 row (bS FD.o) q hq) (by decide);have BK:=lH (BW.o.bm dN.o);have aA9:row.length=(aA x).length:=(fQ bM.o BM.o).1 row (bS FD.o);obtain⟨rb,ro,hqa,EE⟩:=BK.o.form (by omega);subst hqa;obtain⟨xe,e0,e1,e2,e3,e4⟩:=BK.o.at_ (bC (i:=i) (by rw[aA9];exact lE));have HXE:=lH e4;obtain⟨z0,z1,z2,z3,zl⟩:=fO.o.b4;have HDQ:=lH hdq.2;have HVQ:Hid (bE (vf row i)<=300):=lH ((fQ bM.o BM.o).2 row (bS FD.o) _ (bS (bC (i:=i) (by rw[aA9];exact lE))));have HSQ:Hid (bE (xB x ms k mi i)<=400000000000):=lH (by
      have h1:=GN bM.o h8 BM.o WS.o hl ZS.o i hi;have h2:=uR.o;omega)
     have HSE:Hid (xB x ms k mi (i+1)=xB x ms k mi i-vf row i*iM irow row):=lH (by
      have a1:(aP x ms).getD k []=row:=by rw[dH,FD.o];rfl
      have a2:(l9 (dL (aA x).length (aP x ms) ms)).getD i []=irow:=by rw[dH,yU];rfl
      unfold xB;rw[a1];show zR _ _ _ i-vf row i*iM ((l9 (dL (aA x).length (aP x ms) ms)).getD i []) row=_;rw[a2])
     have bP:=lH (aI (Below.refl wr.heap.size wr));have hn8:(aA x).length<=8:=uR.o;clear hqi yU i1 i2 i3 hdq sM aA9 e4;refine kQ 14 (fun hHeld=>?_);simp only[m_,List.take_zero];refine cR [0,1,2,3,4,5,6,7,8,9,10] ?_;refine bI 11 (fun K hK=>?_);go_simp;refine(A_ ia (aA x).length ic (some ⟨rb,ro,none⟩) (aA x).length qc irow row 2600000000 _ (HIR.o.up bP.o) (BK.o.up bP.o) lR (by omega) HIQ.o HRQ.o (by omega)).mono ?_;rintro e w8 ⟨fJ,v8,rfl,h8'⟩;have dS:Hid (Below wr.heap.size wr w8):=lH (bP.o.tm fJ);have H8:=lH h8';clear fJ h8';go_simp;refine iB hK dS.o (fun hHeld=>?_);clear hK K;refine bI 12 (fun K hK=>?_);go_simp;refine(J9 (HXE.o.up dS.o) H8.o (by have:=HVQ.o;have:=HDQ.o;omega)).mono ?_;rintro e w9 ⟨gD,v9,rfl,h9⟩;have fH:Hid (Below wr.heap.size wr w9):=lH (dS.o.tm gD);have H9:=lH h9;clear gD h9;go_simp;refine iB hK fH.o (fun hHeld=>?_);clear hK K;refine bI 13 (fun K hK=>?_);go_simp;refine(MW (HRX.o.up fH.o) H9.o (by have:=HVQ.o;have:=HDQ.o;have:=HSQ.o;have:=eF (vf row i) (iM irow row);omega)).mono ?_;rintro e wq ⟨hbq,vq,rfl,hq⟩;have XD:Hid (Below wr.heap.size wr wq):=lH (fH.o.tm hbq);have aW6:Hid (cU wq wq.heap.size (xB x ms k mi (i+1)) vq):=lH (by rw[HSE.o];exact hq);clear hbq hq;go_simp;refine iB hK XD.o (fun hHeld=>?_);clear hK K;refine eP ?_;clear hHeld;have aGO:=lH (fO.o.bl XD.o);have aY4:=lH (dN.o.tm XD.o);clear f2 fl i0 hgi e0 e1 e2 e3 z0 z1 z2 z3 zl EE fH fO fV;obtain⟨z0,z1,z2,z3,zf,zl⟩:=aGO.o.e4;(go_wp2_with fail);go_roundw
     case rel=>exact⟨i+1,vq,lE,aQ W3.o,T_ aGO.o,aW6.o.keepq aGO.o,dC aY4.o HGV.o⟩
     case measure=>exact W4.o
    ·have EH:i=(aA x).length:=by omega
     have BS:¬(i:Int)<((aA x).length:Int):=by omega
     have HSK:Hid (cU wr wr.heap.size (xB x ms k mi (aA x).length) r):=lH (by rw[<-EH];exact HRX.o);have F6:=lH (HO.o.keep dN.o);have fV:=lH (HB.o.tm dN.o);obtain⟨z0,z1,z2,z3,zl⟩:=fO.o.b4;have JE:Hid (((kP x ms).take k).length<=1000000000000):=lH (by rw[jN];omega);have aXg:Hid (wz.heap.size<=wr.heap.size):=lH fV.o.size
     go_wp2_with (at_builtin;refine rC rfl (.tmp 44) (.tmp 46) _ rfl wz.heap.size Tryz.underlying93 _ us _ rfl F6.o r (xB x ms k mi (aA x).length) HSK.o rfl JE.o aXg.o ?_)
     intro v' w9 aW E7 hob;have BY:=lH aW;have fH:=lH (fV.o.trans hob);clear aW E7 hob z0 z1 z2 z3 zl;(go_wp2_with fail);go_roundw
     case rel=>exact⟨k+1,us++[r],aR,aQ kL.o,by rw[EQ.o];exact BY.o,fH.o⟩
     case measure=>exact iR.o
  ·have mL:k=ms.length:=by omega
   subst mL;have f_:¬((ms.length:Nat):Int)<(ms.length:Int):=by omega
   have hoe:dD wr wz.heap.size u5 us (kP x ms):=by
    have h:=HO.o;rw[nT (by rw[nY];exact lR)] at h;exact h
   have ML:=lH hoe;clear hoe;(go_wp2_with fail);go_ret;exact⟨by rw[lF.o];exact TK.o.trans (HB.o.mono (oO wY.o.lt)),_,rfl,us,⟨bB.mono ML.o.own (by rw[lF.o];exact oO wY.o.lt),ML.o.len,ML.o.ok⟩⟩
end
section
section
variable {x:bK} {ms:List Mi}
theorem VZ(h:OE x ms)(hr:o5 x ms)(hk:k<ms.length)(hs:vf (kP x ms) k≠0):o5 x (ms.eraseIdx k):=by
 have hp:(jC x ms).Pos:=aEd fun m hm=>(h.wt m hm).1;rw[kW (aHS h.ok h.mi hk)] at hs;refine(AY fun m hm=>(h.wt m (List.mem_of_mem_eraseIdx hm)).1).2 fun c hc=>?_;have KA:(ms.eraseIdx k).length=ms.length-1:=List.length_eraseIdx_of_lt hk;have aKt:∀j,j<ms.length->j≠k->aV (jC x ms).n ((jC x ms).R j) c=0:=fun j hj cG=>by
  obtain⟨m,hm⟩:∃m,ms[j]?=some m:=⟨_,gS hj⟩;rw[C4 hm];by_cases hjk:j<k
  ·have e:(ms.eraseIdx k)[j]?=some m:=by rw[List.getElem?_eraseIdx_of_lt hjk];exact hm
   have:=hc j (by omega);rw[C4 e] at this;exact this
  ·have e:(ms.eraseIdx k)[j-1]?=some m:=by
    rw[List.getElem?_eraseIdx_of_ge (by omega),show j-1+1=j by omega];exact hm
   have:=hc (j-1) (by omega);rw[C4 e] at this;exact this
 have hkk:aV (jC x ms).n ((jC x ms).R k) c=0:=by
  by_cases e:aV (jC x ms).n ((jC x ms).R k) c=0
  ·exact e
  ·exact absurd ((aDb hr k).spr_of hp hk aKt e) hs
 exact(AY fun m hm=>(h.wt m hm).1).1 hr c fun j hj=>by
  by_cases e:j=k
  ·rw[e];exact hkk
  ·exact aKt j hj e
end
inductive ClG (x:bK):List Nat->List Mi->List Nat->List Nat->Prop
 | done {nums:List Nat} {rest:List Mi} {out:List Nat} {b:Int}:iO (cW x rest (cE x rest)) (kP x rest) rest.length b->b<0->ClG x nums rest out out
 | step {nums:List Nat} {rest:List Mi} {out r:List Nat} {k i:Nat}:iO (cW x rest (cE x rest)) (kP x rest) rest.length (k:Int)->nums[k]?=some i->ClG x (nums.eraseIdx k) (rest.eraseIdx k) (out++[i]) r->ClG x nums rest out r
structure ClI (ms:List Mi) (nums:List Nat) (rest:List Mi) (out:List Nat):Prop where
 len:nums.length=rest.length
 at_:∀(i j:Nat),nums[i]?=some j->rest[i]?=ms[j]?/\j<ms.length
 inc:nums.Pairwise (·<·)
 off:∀j,j<ms.length->(j∈nums<->¬j∈out)
 tot:out.length+nums.length=ms.length
theorem ClI.zero(ms:List Mi):ClI ms (List.range ms.length) ms []:=⟨List.length_range,fun i j h=>by
 obtain⟨h1,h2⟩:=cY.1 h;rw[List.getElem_range] at h2;rw[List.length_range] at h1;exact⟨by rw[h2],by omega⟩,List.pairwise_lt_range,fun j hj=>by simp[hj],by simp⟩
theorem aDA{l:List Nat}(h:l.Pairwise (·<·)):l.Nodup:=h.imp fun lO e=>by omega
theorem mem_erase_iff{l:List Nat}(h:l.Nodup)(hk:l[k]?=some i)(j:Nat):j∈l.eraseIdx k<->j∈l/\j≠i:=by
 obtain⟨hkl,hki⟩:=cY.1 hk;rw[List.mem_eraseIdx_iff_getElem?]
 constructor
 ·rintro⟨t,ht,hj⟩
  refine⟨bS hj,fun e=>ht ?_⟩;subst e;obtain⟨a1,a2⟩:=cY.1 hj;exact(List.getElem_inj h).1 (a2.trans hki.symm)
 ·rintro⟨hj,cG⟩
  obtain⟨t,ht⟩:=List.mem_iff_getElem?.1 hj;refine⟨t,fun e=>cG ?_,ht⟩;subst e;rw[hk] at ht;injection ht with ht;exact ht.symm
theorem ClI.step{rest:List Mi}{nums:List Nat}(h:ClI ms nums rest out)(hk:nums[k]?=some i):ClI ms (nums.eraseIdx k) (rest.eraseIdx k) (out++[i]):=by
 have hkl:k<nums.length:=(cY.1 hk).1;refine⟨by rw[List.length_eraseIdx_of_lt hkl,List.length_eraseIdx_of_lt (by rw[<-h.len];exact hkl),h.len],fun t j ht=>?_,h.inc.sublist (List.eraseIdx_sublist _ _),fun j hj=>?_,?_⟩
 ·rw[List.getElem?_eraseIdx] at ht ⊢
  split at ht
  ·rename_i h1;rw[if_pos h1];exact h.at_ _ _ ht
  ·rename_i h1;rw[if_neg h1];exact h.at_ _ _ ht
 ·rw[mem_erase_iff (aDA h.inc) hk,h.off j hj,List.mem_append,List.mem_singleton,not_or]
 ·rw[g_,List.length_eraseIdx_of_lt hkl,List.length_singleton]
  have:=h.tot;omega
end
section
open Go.ChangeShapes Go.WideShapes Go.ChangeAt Go.RowKit
def aTm(_:Value):Prop:=True
theorem aJs{base e size n:Nat}{xs:List Value}(h:w.ownsRow base e size v n xs):bB aTm w base e size v n xs:=by
 refine⟨h.1,?_⟩;rcases h.2 with h1 | ⟨g,cap,cur,h1,h2,h3,h4,h5,h6,h7⟩
 ·exact .inl h1
 ·exact .inr ⟨g,cap,cur,h1,h2,h3,h4,h5,h6,h7,fun _ _=>trivial⟩
section
variable {S:Value->Prop} {w:Wo} {base T size n k:Nat} {v:Value} {xs:List Value}
theorem bB.strike(h:bB S w base T size v n xs)(hk:k<n):∃g cap cur,v=.slice (some ⟨g,0,none⟩) n cap/\base<=g/\aD w g T cur/\cur.size=cap*size/\n<=cap/\cap<=maxLen/\cur.toList.take (n*size)=xs/\
    ∀(zc:List Value)(e:Ending)(w':Wo),aOh g T size n cap k cur zc w e w'->(∀u∈zc,S u)->e=.returned (.slice (some ⟨g,0,none⟩) (n-1) cap)/\bB S w' base T size (.slice (some ⟨g,0,none⟩) (n-1) cap) (n-1) (xs.take (k*size)++xs.drop ((k+1)*size))/\(∀b,b<w.heap.size->b≠g->w'.heap[b]?=w.heap[b]?)/\Below base w w':=by
 rcases h.2 with⟨-,h2⟩ | ⟨g,cap,cur,h1,h2,h3,h4,h5,h6,h7,h8⟩
 ·omega
 ·refine⟨g,cap,cur,h1,h2,h3,h6,h4,h5,h7,fun zc e w' hd hz=>?_⟩
  obtain⟨d1,cur',d2,d3,d4,d5,d6,d7⟩:=hd;have a2:(k+1)*size<=n*size:=Nat.mul_le_mul_right _ (by omega);have a4:(k+1)*size=k*size+size:=by rw[Nat.add_mul,Nat.one_mul]
  have a5:(n-1)*size+size=n*size:=by rw[<-Nat.succ_mul];congr 1;omega
  have hx:=h.1;have e1:cur.toList.take (k*size)=xs.take (k*size):=by
   rw[<-h7,List.take_take,Nat.min_eq_left (by omega)]
  refine⟨d1,⟨?_,.inr ⟨g,cap,cur',rfl,h2,d2,by omega,h5,by rw[d3,h6],by rw[d4,e1,h7],fun u hu=>?_⟩⟩,d6,d7.mono h2⟩
  ·rw[g_,jN,J2,hx]
   omega
  ·rcases d5 u hu with h | h
   ·exact h8 u h
   ·exact hz u h
end
theorem RO{α:Type}(l:List α)(k:Nat):l.eraseIdx k=l.take k++l.drop (k+1):=List.eraseIdx_eq_take_drop_succ l k
theorem YW{α:Type}{f:α->List Value}{sz:Nat}(hl:∀a,(f a).length=sz):∀(l:List α)(k:Nat),(l.flatMap f).take (k*sz)=(l.take k).flatMap f
 | [],k=>by simp
 | a::l,0=>by simp
 | a::l,k+1=>by
  rw[List.flatMap_cons,m_,List.flatMap_cons,<-YW hl l k,Nat.add_mul,Nat.one_mul,Nat.add_comm,<-hl a,List.take_length_add_append]
theorem YX{α:Type}{f:α->List Value}{sz:Nat}(hl:∀a,(f a).length=sz):∀(l:List α)(k:Nat),(l.flatMap f).drop (k*sz)=(l.drop k).flatMap f
 | [],k=>by simp
 | a::l,0=>by simp
 | a::l,k+1=>by
  rw[List.flatMap_cons,List.drop_succ_cons,<-YX hl l k,Nat.add_mul,Nat.one_mul,Nat.add_comm,<-hl a,List.drop_length_add_append]
theorem aD9(l:List Mi)(k:Nat):(l.flatMap Mi.cells).take (k*4)++(l.flatMap Mi.cells).drop ((k+1)*4)=(l.eraseIdx k).flatMap Mi.cells:=by
 rw[YW Mi.len,YX Mi.len,RO,List.flatMap_append]
theorem UT(l:List Nat)(k:Nat):(fA l).take (k*1)++(fA l).drop ((k+1)*1)=fA (l.eraseIdx k):=by
 unfold fA;rw[RO,List.map_append,List.map_take,List.map_drop,Nat.mul_one,Nat.mul_one]
theorem aD3(l:List Nat):∀u∈fA l,u.oneCell'=true:=fun u hu=>by
 unfold fA at hu;obtain⟨x,-,rfl⟩:=List.mem_map.1 hu;rfl
theorem aLN(l:List Mi):∀u∈l.flatMap Mi.cells,u.oneCell'=true:=fun u hu=>by
 obtain⟨m,-,h⟩:=List.mem_flatMap.1 hu;simp[Mi.cells] at h;rcases h with rfl | rfl | rfl | rfl<;>rfl
theorem aD4{l:List Nat}(h:l[k]?=some i):(fA l)[k]?=some (.int .i64 (i:Int)):=by
 unfold fA;rw[lT,h];rfl
theorem aDN{base:Nat}{l:List Nat}(h:bB rX w base 3 1 v l.length (fA l)):∃A c,v=.slice A l.length c/\pK w w.heap.size A l.length (e_ l)/\l.length<=c/\c<=maxLen:=by
 obtain⟨A,c,h1,h2,h3,h4,-⟩:=oV h.own;refine⟨A,c,h1,?_,h3,h4⟩;have e:fA l=ints (e_ l):=by unfold fA e_ ints;rw[List.map_map];rfl
 unfold pK;rw[<-e];exact h2
theorem DX{ops:Array Oper}{rest:List Oper}{o:Oper}{a:Act}{Q:Exit->Act->World->Prop}{w:Wo}{T:TypeId}(yW:o.guard=none)(s x:Operand)(t:TypeId)(ho:o.op=.call { callee:=.builtin .append,args:=#[s,x],argTypes:=#[t,t] })(base:Nat)(ht:Tryz.prog.underlying t=some (.slice 3))(v:Value)(l:List Nat)(k:Nat)(hs:a.eval s=v)(aW:bB rX w base 3 1 v l.length (fA l))(hx:a.eval x=.slice (some ⟨w.heap.size,0,none⟩) 1 1)(uO:l.length<=1000000)(cD:base<=w.heap.size)(h:∀v' w',bB rX w' base 3 1 v' (l++[k]).length (fA (l++[k]))->Below base w w'->(v'.ownBlock=v.ownBlock\/∃b,v'.ownBlock=some b/\w.heap.size<=b)->(∀b,b<w.heap.size->v.ownBlock≠some b->w'.heap[b]?=w.heap[b]?)->(∀b t cs,aD w b t cs->t≠3->aD w' b t cs)->w.heap.size<=w'.heap.size->wpList Tryz.prog ops Q rest (a.put o.dst v') w'):wpList Tryz.prog ops Q (o::rest) a (w.alloc (.cells #[.int .i64 (k:Int)] T)):=by
 obtain⟨i0,iW,qY,kF,kE⟩:=info_parts NM;have uH:=jO w (.cells #[.int .i64 (k:Int)] T);refine wpList_plain yW fun K hK=>?_;refine tE (S:=rX) s x t ho base 3 i0 _ 1 8 ht iW qY kF kE rfl (by omega) Z2 v l.length (fA l) hs (aW.keep uH) w.heap.size T #[.int .i64 (k:Int)] hx (aD.new w T _) rfl ?k1 ?k2 ?k3 ?k4 ?k5
 case k1=>simp[Value.oneCell',rX]
 case k2=>simp only[maxLen];omega
 case k3=>omega
 case k4=>exact b_ cD uH.size
 case k5=>
  intro v' w' g1 g2 g3 g4;refine hK _ _ (h v' w' ?_ ((uH.mono cD).trans g2.low) ?_ ?_ ?_ (b_ uH.size g2.size))
  ·rw[g_,List.length_singleton]
   unfold fA at *;rw[List.map_append];exact g1
  ·rcases g3 with h | h
   ·exact .inl h
   ·exact .inr ⟨_,h,uH.size⟩
  ·intro b hb cG
   rw[g4 b (kA hb uH.size) cG];exact uH.block b hb
  ·intro b t' cs hb cG
   exact g2.blk b t' cs (hb.bl uH) cG
end
section
open Go.ChangeShapes Go.WideShapes Go.ChangeAt Go.RowKit
attribute [local go_sem ↓] aE
attribute [local go_sem] aL aK aO a_
theorem Z5(x:bK)(ms:List Mi)(hk:OE x ms)(fv:Value)(B0:Nat)(A:OA)(c:Nat)(w:Wo)(hf:uL x ms B0 w fv)(hm:eB w w.heap.size A ms.length ms):Calls Tryz.prog 74 #[fv,.slice A ms.length c] w fun e w'=>Below w.heap.size w w'/\∃b:Int,e=.returned (.int .i64 b)/\iO (cW x ms (cE x ms)) (kP x ms) ms.length b:=by
 have OS:=hf;obtain⟨g,m,y,A1,c1,gi,ga,B1,d1,rfl,YL,BT,wP,hf3,hf4,JR,RD⟩:=hf;have hz:=jO w (.cells #[.pointer (some ⟨g,0,none⟩),.slice A1 ms.length c1,.slice (some ⟨gi,0,none⟩) (aA x).length (aA x).length,.slice (some ⟨ga,0,none⟩) (aH x) (aH x),.slice B1 ms.length d1] 95);obtain⟨TK,wY,HFF,HQ,HM⟩:=iS hz (aD.new w 95 #[.pointer (some ⟨g,0,none⟩),.slice A1 ms.length c1,.slice (some ⟨gi,0,none⟩) (aA x).length (aA x).length,.slice (some ⟨ga,0,none⟩) (aH x) (aH x),.slice B1 ms.length d1]) (OS.up hz) (RD.bm hz) (hm.bm hz);have HK:=lH hk;have HL:Hid (ms.length<=64):=lH hk.k64;clear YL BT wP hf3 hf4 JR RD hz hm hk OS;go_enter Tryz.func74,Tryz.ntmps74
 go_upto_region 1 with fail
 generalize w.alloc (.cells #[.pointer (some ⟨g,0,none⟩),.slice A1 ms.length c1,.slice (some ⟨gi,0,none⟩) (aA x).length (aA x).length,.slice (some ⟨ga,0,none⟩) (aH x) (aH x),.slice B1 ms.length d1] 95)=wz at *;generalize FW:w.heap.size=gf at *;have lF:=lH FW;clear FW;obtain⟨f0,f1,f2,f3,f4,fl⟩:=wY.o.b5
 go_wp2_with fail
 refine(T0 x HK.o.ok HK.o.h8 ms HK.o.mi HK.o.wt HK.o.k64 _ B0 A c wz HFF.o HM.o).mono ?_;rintro e w1 ⟨bO,v,us,rfl,ho⟩;obtain⟨As,cs,rfl,oP,-,-,-⟩:=ho.rd;rw[nY] at oP;rw[nY];have HS:=lH oP;have cI:=lH bO;clear f0 f1 f2 f3 f4 fl ho oP bO HFF HM;replace HQ:=lH (HQ.o.bm cI.o)
 go_wp2_with fail
 refine(pV 0 w1 (by decide) (by decide)).mono ?_;rintro e w2 ⟨bH,r0,rfl,h0⟩;have kF:=jO w2 (.cells #[.bool r0.b1,.slice r0.A r0.n r0.c,.bool r0.b2,.slice r0.A2 r0.m r0.d] 115);have KQ:=lH (aD.new w2 115 #[.bool r0.b1,.slice r0.A r0.n r0.c,.bool r0.b2,.slice r0.A2 r0.m r0.d]);have HBB:=lH (bH.tm kF);have HGV:Hid (w1.heap.size<=w2.heap.size):=lH bH.size;clear kF bH h0;have HFr:=lH (wY.o.below (cI.o.tm HBB.o) wY.o.lt)
 go_upto_region 4 with fail
 generalize w2.alloc (.cells #[.bool r0.b1,.slice r0.A r0.n r0.c,.bool r0.b2,.slice r0.A2 r0.m r0.d] 115)=wb at *;generalize w2.heap.size=g7 at *;have f4:=HFr.o.cell 4;have fl:=HFr.o.lt
 go_wp2_with fail
 clear f4 fl
 go_loopw [6,18] (fun v6 v18 wr=>∃(k:Nat)(b:Int)(r:Rv),k<=ms.length/\v18=.int .i64 k/\v6=.int .i64 b/\iO (cW x ms (cE x ms)) (kP x ms) k b/\aD wr g7 115 #[.bool r.b1,.slice r.A r.n r.c,.bool r.b2,.slice r.A2 r.m r.d]/\(∀j:Nat,b=(j:Int)->cU wr wr.heap.size (S5 (cW x ms (cE x ms)) (kP x ms) j) r)/\Below w1.heap.size w1 wr) (fun _ v18 _=>ms.length-(intOf v18).toNat)
 case atStart=>exact⟨0,-1,r0,by omega,rfl,rfl,iO.zero,KQ.o,fun j h=>absurd h (by omega),HBB.o⟩
 case round=>
  clear KQ HBB HFr;obtain⟨k,b,r,hk,rfl,rfl,NP,IK,hrx,hb⟩:=hrel;obtain⟨F1,fO,HRX,HB⟩:=h_ NP IK hrx hb;clear NP IK hrx hb;by_cases aR:k<ms.length
  ·have f_:(k:Int)<(ms.length:Int):=by omega
   have kO:=lZ k;have rR:=jM k;have aVs:=HL.o;have kL:=lN k;have iR:Hid (ms.length-(k+1)<ms.length-k):=lH (by omega);have nR:=(HQ.o.below HB.o lR).more HB.o.size;obtain⟨rb,ro,hqa,EE⟩:=nR.form (by omega);subst hqa;obtain⟨xe,e0,e1,e2,e3,e4⟩:=nR.at_ (bC (i:=k) (by rw[yG];exact aR));have HXE:=lH e4;generalize hpe:vf (cW x ms (cE x ms)) k=p at *;have HPE:=lH hpe;clear nR e4 hpe;(go_upto_region 7 with fail);have kF:=jO wr (.cells #[.bool xe.b1,.slice xe.A xe.n xe.c,.bool xe.b2,.slice xe.A2 xe.m xe.d] 115);have HBY:=lH (aD.new wr 115 #[.bool xe.b1,.slice xe.A xe.n xe.c,.bool xe.b2,.slice xe.A2 xe.m xe.d]);have aYW:=lH (fO.o.bl kF);have OY:=cJ HB kF;have aRJ:=lH (HXE.o.up kF);have aXt:=lH fun j h=>(HRX.o j h).up kF;clear kF e0 e1 e2 e3 EE fO HB HXE HRX;generalize wr.alloc (.cells #[.bool xe.b1,.slice xe.A xe.n xe.c,.bool xe.b2,.slice xe.A2 xe.m xe.d] 115)=wa at *;generalize wr.heap.size=g9 at *;obtain⟨y0,y1,y2,y3,yl⟩:=HBY.o.b4
   (go_wp2_with fail);refine(t7 aRJ.o).mono ?_;rintro e w3 ⟨rfl,dK⟩;have aYV:=lH (HBY.o.bl dK);have aS2:=lH (aYW.o.bl dK);have HBb:=cJ OY dK;have aWV:=lH (aRJ.o.up dK);have aR6:=lH fun j h=>(aXt.o j h).up dK;clear dK y0 y1 y2 y3 yl HBY aYW OY aRJ aXt
   by_cases hp:p=0
   ·have hsg:(p.num.sign == 0)=true:=by rw[XQ,decide_eq_true hp]
    have HWS:=lH (F1.o.skip (fun h=>h.1 (by rw[HPE.o];exact hp)));generalize p.num.sign=sg at *;(go_wp2_with fail);go_roundw
    case rel=>exact⟨k+1,b,r,aR,aQ kL.o,rfl,HWS.o,aS2.o,aR6.o,HBb.o⟩
    case measure=>exact iR.o
   ·have hsg:(p.num.sign == 0)=false:=by rw[XQ,decide_eq_false hp]
    have HP0:=lH hp;generalize p.num.sign=sg at *;clear hp;have yS:=(HS.o.below HBb.o lR).more HBb.o.size;obtain⟨sb,so,hqa,JP⟩:=yS.form (by omega);subst hqa;obtain⟨se,e0,e1,e2,e3,e4⟩:=yS.at_ (bC (i:=k) (by rw[nY];exact aR));have HSE:=lH e4;have HQK:Hid (vf (kP x ms) k∈kP x ms):=lH (bS (bC (i:=k) (by rw[nY];exact aR)));generalize hqe:vf (kP x ms) k=q at *;have HQE:=lH hqe;clear yS e4 hqe;(go_wp2_with fail);refine(t7 HSE.o).mono ?_;rintro e w4 ⟨rfl,gE⟩;have aYU:=lH (aYV.o.bl gE);have aS1:=lH (aS2.o.bl gE);have HBc:=cJ HBb gE;have aRI:=lH (aWV.o.up gE);have aR5:=lH fun j h=>(aR6.o j h).up gE;have a4N:=lH (HSE.o.up gE);clear e0 e1 e2 e3 gE aYV aS2 HBb aWV aR6 HSE JP
    by_cases hq:q=0
    ·have aPV:(q.num.sign == 0)=true:=by rw[XQ,decide_eq_true hq]
     have HWS:=lH (F1.o.skip (fun h=>h.2 (by rw[HQE.o];exact hq)));generalize q.num.sign=sg2 at *;(go_wp2_with fail);go_roundw
     case rel=>exact⟨k+1,b,r,aR,aQ kL.o,rfl,HWS.o,aS1.o,aR5.o,HBc.o⟩
     case measure=>exact iR.o
    ·have aPV:(q.num.sign == 0)=false:=by rw[XQ,decide_eq_false hq]
     have HQ0:=lH hq;have HWK:Hid (WOk (cW x ms (cE x ms)) (kP x ms) k):=lH ⟨by rw[HPE.o];exact HP0.o,by rw[HQE.o];exact hq⟩;generalize q.num.sign=sg2 at *;clear hq;have HPZ:Hid (bE p<=700000000000):=lH (by
      rw[<-HPE.o];exact HK.o.res _ (bS (bC (i:=k) (by rw[yG];exact aR))))
     have WX:=lH (HK.o.spr q HQK.o);have HWQ:Hid (S5 (cW x ms (cE x ms)) (kP x ms) k=p*p / q):=lH (by unfold S5;rw[HPE.o,HQE.o]);obtain⟨y0,y1,y2,y3,yl⟩:=aYU.o.b4;(go_upto_region 8 with fail);have yS:=(HS.o.below HBc.o lR).more HBc.o.size;obtain⟨se2,e0,e1,e2,e3,e4⟩:=yS.at_ (bC (i:=k) (by rw[nY];exact aR));rw[HQE.o] at e4;have aXo:=lH e4;have JP:sb<w4.heap.size:=World.block_lt_of_cell? w4 _ e0;have bP:=lH (aI (Below.refl w4.heap.size w4));clear yS e4;refine kQ 9 (fun hHeld=>?_);simp only[m_,List.take_zero];refine cR [0,1,3,4,5,6] ?_;refine aDr (C:=fun s w'=>Below w4.heap.size w4 w') (G:=fun w' w''=>Below w'.heap.size w' w'') [(2,WQ (p*p)),(7,WQ (p*p / q)),(8,I7 w4.heap.size 115 #[.bool false,.slice none 0 0,.bool false,.slice none 0 0])] rfl (by kernel_rfl) (List.forall_mem_cons.2 ⟨fun _ _ _ h g=>h.up g,List.forall_mem_cons.2 ⟨fun _ _ _ h g=>h.up g,List.forall_mem_cons.2 ⟨fun _ _ _ h g=>h.up g,List.forall_mem_nil _⟩⟩⟩) (fun _ _ h=>h) hHeld ?_;refine dX (i:=2) rfl (fun s w3 hC hn hK=>?_) (fun v2=>?_)
     ·unfold gV;go_simp;simp only[eN]
      refine(J9 (aRI.o.up hC) (aRI.o.up hC) (by have:=HPZ.o;omega)).mono ?_;rintro e w6 ⟨gA,r6,rfl,pG⟩;exact⟨_,rfl,⟨r6,rfl,pG⟩,hC.tm gA,gA⟩
     (try simp only[Act.put,fZ,fY,fX]);refine dX (i:=7) rfl (fun s w3 hC hn hK=>?_) (fun v7=>?_)
     ·have k2:s 2=some v2/\WQ (p*p) v2 w3:=hK 2 (by kernel_rfl)
      obtain⟨-,r2',rfl,h2⟩:=k2;unfold gV;go_simp;simp only[eN];refine(aRl h2 (aXo.o.up hC) HQ0.o (by have:=HPZ.o;have:=WX.o;have:=eF p p;omega)).mono ?_;rintro e w6 ⟨gA,r6,rfl,pG⟩;exact⟨_,rfl,⟨r6,rfl,pG⟩,hC.tm gA,gA⟩
     (try simp only[Act.put,fZ,fY,fX]);refine dX (i:=8) rfl (fun s w3 hC hn hK=>?_) (fun v8=>?_)
     ·unfold gV;go_simp;simp only[eN]
      exact⟨⟨_,rfl,hC.size,aD.new _ _ _⟩,hC.alloc hC.size _,bA⟩
     (try simp only[Act.put,fZ,fY,fX]);refine CO (fun s wc hC hK=>?_);have k7:s 7=some v7/\WQ (p*p / q) v7 wc:=hK 7;have k8:s 8=some v8/\I7 w4.heap.size 115 #[.bool false,.slice none 0 0,.bool false,.slice none 0 0] v8 wc:=hK 8;obtain⟨-,r7,rfl,h7⟩:=k7;obtain⟨-,gv,rfl,hgv,RG⟩:=k8;obtain⟨HBC,HR7,JZ,gT⟩:=h_ hC h7 hgv RG;clear hC hK h7 hgv RG hHeld;obtain⟨z0,z1,z2,z3,zf,zl⟩:=gT.o.e4;refine c_ (by rfl) ?_;(go_upto_region 9 with fail);clear z0 z1 z2 z3 zl zf e0 e1 e2 e3 y0 y1 y2 y3 yl JP;have aJX:=lH (T_ (v:=r7) (x:=BQ) gT.o);have KR:=lH (dC (v:=r7) HBC.o JZ.o);have WW:=lH (HR7.o.keepq (v:=r7) (x:=BQ) gT.o);unfold E1 at KR WW;generalize (((wc.setCell ⟨gv,0,none⟩ _).setCell ⟨gv,1,none⟩ _).setCell ⟨gv,2,none⟩ _).setCell ⟨gv,3,none⟩ _=wd at *;have aN_:=lH (aS1.o.bl KR.o);have HBd:=lH (HBc.o.tm KR.o);have aR4:=lH fun j h=>(aR5.o j h).up KR.o;clear HBC HR7 gT bP aS1 HBc aR5 aRI a4N aXo aYU;obtain⟨x0,x1,x2,x3,xf,xl⟩:=aN_.o.e4;obtain⟨z0,z1,z2,z3,zl⟩:=aJX.o.b4
     by_cases hb:b<0
     ·have FA:decide (b<0)=true:=decide_eq_true hb
      have HWS:Hid (iO (cW x ms (cE x ms)) (kP x ms) (k+1) (k:Int)):=lH (by
       have h:=F1.o;have e:b=-1:=by
        rcases h with⟨h1,-⟩ | ⟨j,h1,-⟩<;>omega
       rw[e] at h;exact h.first HWK.o)
      (go_wp2_with fail);refine kQ 3 (fun hHeld=>?_);simp only[m_,List.take_zero];refine cR [0,1,2] ?_;refine eP ?_;have JS:=aI (Below.refl wd.heap.size wd);have XC:=lH (aN_.o.bl JS);have HBf:=cJ HBd JS;have aNB:=lH (WW.o.up JS);clear JS x0 x1 x2 x3 xl xf z0 z1 z2 z3 zl aN_ aJX HBd WW hHeld;generalize wd.drew=wf at *;obtain⟨x0,x1,x2,x3,xf,xl⟩:=XC.o.e4;(go_wp2_with fail);go_roundw
      case rel=>exact⟨k+1,k,r7,aR,aQ kL.o,rfl,HWS.o,T_ XC.o,fun j hj=>by
       have e:j=k:=by omega
       subst e;rw[HWQ.o];exact aNB.o.keepq XC.o,dC HBf.o HGV.o⟩
      case measure=>exact iR.o
     ·have FA:decide (b<0)=false:=decide_eq_false hb
      obtain⟨j,hj⟩:∃j:Nat,b=(j:Int):=⟨b.toNat,by omega⟩;subst hj;have HJK:=lH (aR4.o j rfl);have HJQ:Hid (bE (S5 (cW x ms (cE x ms)) (kP x ms) j)<=1800000000000):=lH (by
       have rS:j<ms.length:=by
        rcases F1.o with⟨h1,-⟩ | ⟨i,h1,h2,-⟩<;>omega
       have h1:=HK.o.res _ (bS (bC (i:=j) (by rw[yG];exact rS)));have h2:=HK.o.spr _ (bS (bC (i:=j) (by rw[nY];exact rS)));unfold S5;have h3:=eF (vf (cW x ms (cE x ms)) j) (vf (cW x ms (cE x ms)) j);have h4:=FY (vf (cW x ms (cE x ms)) j*vf (cW x ms (cE x ms)) j) (vf (kP x ms) j);omega)
      have HKQ:Hid (bE (p*p / q)<=1800000000000):=lH (by
       have h1:=HPZ.o;have h2:=WX.o;have h3:=eF p p;have h4:=FY (p*p) q;omega)
      (go_wp2_with fail);refine(aWG WW.o HJK.o (by have:=HJQ.o;have:=HKQ.o;omega)).mono ?_;rintro e w9 ⟨rfl,gD⟩;have aJW:=lH (aN_.o.bl gD);have aYY:=lH (aJX.o.bl gD);have HBe:=cJ HBd gD;have aXs:=lH fun j h=>(aR4.o j h).up gD;have aXu:=lH (WW.o.up gD);clear gD x0 x1 x2 x3 xl xf z0 z1 z2 z3 zl aN_ HBd aR4 aJX WW HJK HJQ HKQ;obtain⟨x0,x1,x2,x3,xf,xl⟩:=aJW.o.e4;obtain⟨z0,z1,z2,z3,zl⟩:=aYY.o.b4
      by_cases hcq:0<aBy (p*p / q) (S5 (cW x ms (cE x ms)) (kP x ms) j)
      ·have HWS:Hid (iO (cW x ms (cE x ms)) (kP x ms) (k+1) (k:Int)):=lH (F1.o.take HWK.o (by rw[HWQ.o];exact ZB.1 hcq))
       generalize aBy (p*p / q) (S5 (cW x ms (cE x ms)) (kP x ms) j)=cq at *;have hcd:decide (0<cq)=true:=decide_eq_true hcq;have aWb:decide (cq>0)=true:=decide_eq_true hcq;(go_wp2_with fail);refine kQ 3 (fun hHeld=>?_);simp only[m_,List.take_zero];refine cR [0,1,2] ?_;refine eP ?_;have JS:=aI (Below.refl w9.heap.size w9);have XC:=lH (aJW.o.bl JS);have HBf:=cJ HBe JS;have aNB:=lH (aXu.o.up JS);clear JS x0 x1 x2 x3 xl xf z0 z1 z2 z3 zl aJW aYY HBe aXu hHeld;generalize w9.drew=wf at *;obtain⟨x0,x1,x2,x3,xf,xl⟩:=XC.o.e4;(go_wp2_with fail);go_roundw
       case rel=>exact⟨k+1,k,r7,aR,aQ kL.o,rfl,HWS.o,T_ XC.o,fun j hj=>by
        have e:j=k:=by omega
        subst e;rw[HWQ.o];exact aNB.o.keepq XC.o,dC HBf.o HGV.o⟩
       case measure=>exact iR.o
      ·have HWS:Hid (iO (cW x ms (cE x ms)) (kP x ms) (k+1) (j:Int)):=lH (F1.o.stay (by rw[HWQ.o];exact fun h=>hcq (ZB.2 h)))
       generalize aBy (p*p / q) (S5 (cW x ms (cE x ms)) (kP x ms) j)=cq at *;have hcd:decide (0<cq)=false:=decide_eq_false hcq;have aWb:decide (cq>0)=false:=decide_eq_false hcq;(go_wp2_with fail);go_roundw
       case rel=>exact⟨k+1,j,r,aR,aQ kL.o,rfl,HWS.o,aJW.o,aXs.o,HBe.o⟩
       case measure=>exact iR.o
  ·have mL:k=ms.length:=by omega
   subst mL;have f_:¬((ms.length:Nat):Int)<(ms.length:Int):=by omega
   (go_wp2_with fail);go_ret;exact⟨by rw[lF.o];exact TK.o.trans ((cI.o.tm HB.o).mono (oO wY.o.lt)),_,rfl,F1.o⟩
def EP(x:bK)(l p:List Mi):List (List Rat)×List Nat:=sU (aP x l) (aP x p) 0
def TD(x:bK)(l p:List Mi):Int:=if cN x l≠0 then cN x l else if cN x p≠0 then cN x p else if cK (EP x l p).1<(aA x).length then 8 else 0
def aLt(x:bK)(l p:List Mi)(w:Wo)(e:Ending)(w':Wo):Prop:=Below w.heap.size w w'/\((TD x l p≠0/\e=.returned (.tuple #[.slice none 0 0,.int .i64 (TD x l p)]))\/(TD x l p=0/\∃A c,e=.returned (.tuple #[.slice A (EP x l p).2.length c,.int .i64 0])/\pK w' w'.heap.size A (EP x l p).2.length (e_ (EP x l p).2)))
theorem SM{rows:List (List Rat)}{r:List (List Rat)}(h:cK rows<cK (rows++[a])):sU rows (a::r) i=((sU (rows++[a]) r (i+1)).1,i::(sU (rows++[a]) r (i+1)).2):=by
 show(if _ then _ else _)=_;rw[if_pos h]
theorem ZJ{rows:List (List Rat)}{r:List (List Rat)}(h:¬cK rows<cK (rows++[a])):sU rows (a::r) i=sU rows r (i+1):=by
 show(if _ then _ else _)=_;rw[if_neg h]
structure AdS (x:bK) (l p:List Mi) (k:Nat) (M:List (List Rat)) (out:List Nat):Prop where
 fst:(sU M ((aP x p).drop k) k).1=(EP x l p).1
 snd:out++(sU M ((aP x p).drop k) k).2=(EP x l p).2
 ok:aBQ M (aA x).length 301
 len:M.length<=l.length+k
 cnt:out.length<=k
theorem AdS.yes(h:AdS x l p k M out)(ok:bJ x)(hm:p[k]?=some m)(jZ:qU x m)(hl:l.length+k<1000000)(hr:cK M<cK (M++[fM x (aS x m).1])):AdS x l p (k+1) (M++[fM x (aS x m).1]) (out++[k]):=by
 have hd:(aP x p).drop k=fM x (aS x m).1::(aP x p).drop (k+1):=bX (CM hm);have h1:=h.fst;have h2:=h.snd;rw[hd,SM hr] at h1 h2;have hz:=fQ ok (ms:=[m]) (fun a ha=>by rw[List.mem_singleton.1 ha];exact jZ);refine⟨h1,by rw[List.append_assoc];exact h2,h.ok.snoc jT (fun q hq=>Nat.succ_le_succ (hz.2 _ (by unfold aP;exact List.mem_singleton.2 rfl) q hq)) (by have:=h.len;omega),by rw[g_,List.length_singleton];have:=h.len;omega,by rw[g_,List.length_singleton];have:=h.cnt;omega⟩
theorem AdS.no(h:AdS x l p k M out)(hm:p[k]?=some m)(hr:¬cK M<cK (M++[fM x (aS x m).1])):AdS x l p (k+1) M out:=by
 have hd:(aP x p).drop k=fM x (aS x m).1::(aP x p).drop (k+1):=bX (CM hm);have h1:=h.fst;have h2:=h.snd;rw[hd,ZJ hr] at h1 h2;exact⟨h1,h2,h.ok,by have:=h.len;omega,by have:=h.cnt;omega⟩
theorem AdS.done(h:AdS x l p k M out)(hk:p.length<=k):M=(EP x l p).1/\out=(EP x l p).2:=by
 have hd:(aP x p).drop k=[]:=List.drop_eq_nil_of_le (by rw[sB];exact hk);have h1:=h.fst;have h2:=h.snd;rw[hd] at h1 h2;refine⟨h1,?_⟩;rw[<-h2];show out=out++[];rw[List.append_nil]
theorem aGc(h:bZ)(x:bK)(h8:x.nodes.length<=8)(A:OA)(n c:Nat)(ms:List Mi)(A':OA)(n' c':Nat)(ps:List Mi)(w:Wo)(r:cL w w.heap.size h x)(hm:eB w w.heap.size A n ms)(hp:eB w w.heap.size A' n' ps)(hz:∀m∈ms,m.txt.size<=maxLen)(hz':∀m∈ps,m.txt.size<=maxLen)(hn:n<=9223372036854775807)(hn':n'<=9223372036854775807)(ht:fL w):Calls Tryz.prog 51 #[.agg h.cells,.slice A n c,.slice A' n' c'] w (aLt x ms ps w):=by
 have kF:=jO w (.cells h.cells 29);have K0:Below w.heap.size w ((w.alloc (.cells h.cells 29)).alloc (.cells #[.slice A n c,.slice A' n' c'] 31)):=kF.alloc (by simp) _;have HK:=lH K0;have P0:=lH ((aD.new w 29 h.cells).alloc (.cells #[.slice A n c,.slice A' n' c'] 31));have P1:Hid (aD ((w.alloc (.cells h.cells 29)).alloc (.cells #[.slice A n c,.slice A' n' c'] 31)) (w.heap.size+1) 31 #[.slice A n c,.slice A' n' c']):=lH (aD.new_ (by simp));obtain⟨HX,HM,HP,HT,HZ⟩:=iS (r.up K0) (hm.bm K0) (hp.bm K0) (ht.up K0) hz;have HZ':=lH hz';have lB:Hid (ms.length=n):=lH hm.1;have BL:Hid (ps.length=n'):=lH hp.1;have HE:Hid (∀e w',aLt x ms ps w e w'<->(Below w.heap.size w w'/\((TD x ms ps≠0/\e=.returned (.tuple #[.slice none 0 0,.int .i64 (TD x ms ps)]))\/(TD x ms ps=0/\∃A c,e=.returned (.tuple #[.slice A (EP x ms ps).2.length c,.int .i64 0])/\pK w' w'.heap.size A (EP x ms ps).2.length (e_ (EP x ms ps).2))))):=lH fun e w'=>Iff.rfl;have XE:Hid (TD x ms ps=if cN x ms≠0 then cN x ms else if cN x ps≠0 then cN x ps else if cK (EP x ms ps).1<(aA x).length then 8 else 0):=lH rfl;have eC:Hid (w.heap.size<=((w.alloc (.cells h.cells 29)).alloc (.cells #[.slice A n c,.slice A' n' c'] 31)).heap.size):=lH K0.size;clear K0 kF hm hp r ht hz hz';obtain⟨D0,r0,s0,D1,r1,s1,D2,r2,s2,D3,r3,s3,D4,r4,s4,D5,r5,s5⟩:=h;go_enter Tryz.func51,Tryz.ntmps51
 go_wp2_with fail
 generalize (w.alloc (.cells (bZ.cells ⟨D0,r0,s0,D1,r1,s1,D2,r2,s2,D3,r3,s3,D4,r4,s4,D5,r5,s5⟩) 29)).alloc (.cells #[.slice A n c,.slice A' n' c'] 31)=W at *;generalize w.heap.size+1=p1 at *;generalize TD x ms ps=ae at *
 go_loopw [22] (fun v22 wr=>∃k:Nat,k<=2/\v22=.int .i64 k/\Below W.heap.size W wr/\(1<=k->cN x ms=0)/\(2<=k->cN x ps=0)) (fun v22 _=>2-(intOf v22).toNat)
 case atStart=>exact⟨0,by omega,rfl,bR,fun h=>by omega,fun h=>by omega⟩
 case round=>
  obtain⟨k,hk,rfl,hb,h1,h2⟩:=hrel;obtain⟨HB,H1,H2⟩:=dZ hb h1 h2;clear hb h1 h2;have HXr:=lH (HX.o.up HB.o);have HTr:=lH (HT.o.up HB.o);have PNX:=P0.o.bl HB.o;obtain⟨y0,y1,y2,y3,y4,y5,nf,nlt⟩:=aX PNX;dsimp only at y0 y1 y2 y3 y4 y5;clear PNX;have P1r:=P1.o.bl HB.o;obtain⟨z0,z1,zl⟩:=P1r.b2;clear P1r
  match k,hk with
  | 0,_=>
   have HMr:=lH (HM.o.bm HB.o);(go_wp2_with fail);refine(tK _ x A n c ms wr HXr.o HMr.o HZ.o hn HTr.o).mono ?_;rintro e w1 ⟨rfl,bO⟩;have cI:=cJ HB bO;clear bO z0 z1 zl y0 y1 y2 y3 y4 y5 nf nlt;by_cases mP:cN x ms=0
   ·have MO:=lH mP
    rw[mP];clear mP;(go_wp2_with fail);go_roundw
    case rel=>exact⟨1,by omega,rfl,cI.o,fun _=>MO.o,fun h=>by omega⟩
    case measure=>decide
   ·have aMJ:(cN x ms != 0)=true:=by simp[mP]
    rw[if_pos mP] at XE;(go_wp2_with fail);go_ret2;rw[HE.o];exact⟨HK.o.trans (cI.o.mono eC.o),.inl ⟨by rw[XE.o];exact mP,by rw[XE.o];rfl⟩⟩
  | 1,_=>
   have HPr:=lH (HP.o.bm HB.o);(go_wp2_with fail);refine(tK _ x A' n' c' ps wr HXr.o HPr.o HZ'.o hn' HTr.o).mono ?_;rintro e w1 ⟨rfl,bO⟩;have cI:=cJ HB bO;have XB:=lH (H1.o (by omega));clear bO z0 z1 zl y0 y1 y2 y3 y4 y5 nf nlt;by_cases mP:cN x ps=0
   ·have MO:=lH mP
    rw[mP];clear mP;(go_wp2_with fail);go_roundw
    case rel=>exact⟨2,by omega,rfl,cI.o,fun _=>XB.o,fun _=>MO.o⟩
    case measure=>decide
   ·have aMJ:(cN x ps != 0)=true:=by simp[mP]
    rw[if_neg (fun h=>h XB.o),if_pos mP] at XE;(go_wp2_with fail);go_ret2;rw[HE.o];exact⟨HK.o.trans (cI.o.mono eC.o),.inl ⟨by rw[XE.o];exact mP,by rw[XE.o];rfl⟩⟩
  | 2,_=>
   have XB:=lH (H1.o (by omega));have TJ:=lH (H2.o (by omega));clear z0 z1 zl P1;obtain⟨ok,hl,jZ⟩:=mI XB.o;obtain⟨_,YK,hmi'⟩:=mI TJ.o;obtain⟨bM,HL,BM,HL',HMI'⟩:=iS ok hl jZ YK hmi';rw[if_neg (fun h=>h XB.o),if_neg (fun h=>h TJ.o)] at XE;clear ok hl jZ YK hmi' H1 H2;(go_wp2_with fail);refine(tS _ x bM.o h8 wr HXr.o).mono ?_;rintro e w2 ⟨bH,g,m,A7,n7,c7,rfl,hg,dO,oP,-⟩;have dN:=cJ HB bH;have HG:=lH dO;have HR:=lH oP;have FG:Hid ((aA x).length=m.n6):=lH (by rw[<-eO];exact oP.r6.len);clear bH hg dO oP HXr HTr HB y0 y1 y2 y3 y4 y5 nf nlt;have PNX:=P0.o.bl dN.o;obtain⟨y0,y1,y2,y3,y4,y5,nf,nlt⟩:=aX PNX;dsimp only at y0 y1 y2 y3 y4 y5;clear PNX;(go_wp2_with fail);refine(aAJ _ x bM.o h8 g m _ A n c ms w2 (HX.o.up dN.o) HG.o HR.o (HM.o.bm dN.o) (by have:=HL.o;have:=lB.o;omega) BM.o).mono ?_;rintro e w3 ⟨dK,A8,c8,rfl,NS,hc1,VP⟩;have fV:=cJ dN dK;have FE:=lH NS;replace HG:=lH (HG.o.bl dK);replace HR:=lH (HR.o.up dK);clear dK NS hc1 VP dN y0 y1 y2 y3 y4 y5 nf nlt;have gZ:Hid (AdS x ms ps 0 (aP x ms) []):=lH ⟨rfl,rfl,aPr bM.o h8 HL.o BM.o,by rw[sB];omega,lR⟩;(go_wp2_with fail);refine(aDy A8 ms.length c8 _ _ _ w3 FE.o gZ.o.ok).mono ?_;rintro e w4 ⟨rfl,gE⟩;have bP:=cJ fV gE;replace FE:=lH (FE.o.up gE);replace HG:=lH (HG.o.bl gE);replace HR:=lH (HR.o.up gE);clear gE fV;have ES:=lH (info_parts NM);obtain⟨i0,iW,qY,kF,kE⟩:=ES.o;clear ES;obtain⟨ES,wX,KN,KM⟩:=h_ iW qY kF kE;clear iW qY kF kE;(go_wp2_with fail)
   go_loopw [12,13,14,43] (fun v12 v13 v14 v43 wr=>∃(k q c9:Nat)(A9:OA) (M:List (List Rat)) (out:List Nat),k<=n'/\v43=.int .i64 k/\v12=.slice A9 q c9/\v13=.int .i64 (cK M)/\AdS x ms ps k M out/\jP wr wr.heap.size A9 q M/\bB rX wr w4.heap.size 3 1 v14 out.length (fA out)/\Below w4.heap.size w4 wr) (fun _ _ _ v43 _=>n'-(intOf v43).toNat)
   case atStart=>exact⟨0,_,_,_,_,[],by omega,rfl,rfl,rfl,gZ.o,FE.o,dI _ _ _ _ _,bR⟩
   case round=>
    obtain⟨k,q,c9,A9,M,out,hk,rfl,rfl,rfl,JO,NS,ho,hb⟩:=hrel;obtain⟨HS,FE,HO,HB⟩:=h_ JO NS ho hb;clear JO NS ho hb gZ;by_cases aR:k<n'
    ·obtain⟨mi,jZ⟩:∃mi,ps[k]?=some mi:=eE (by have:=BL.o;omega)
     obtain⟨ZS,wW,gT⟩:=dZ jZ (HMI'.o mi (bS jZ)) (bP.o.tm HB.o);have qJ:=(HP.o.below gT.o lR).more gT.o.size;obtain⟨ab,ao,hA,lO,-⟩:=qJ.2.2 (by omega);subst hA;obtain⟨a0,a1,a2,a3⟩:=qJ.at_ jZ;have f_:(k:Int)<(n':Int):=by omega
     have kO:=lZ k;have rR:=jM k;have kL:=lN k;have iR:Hid (n'-(k+1)<n'-k):=lH (by omega);have HKN:=lH aR;have aVd:n'<=64:=by have:=BL.o;have:=HL'.o;omega
     clear jZ qJ;(go_upto_region 15 with fail);clear a0 a1 a2 a3 lO f_ kO rR;have hz:=jO wr (.cells #[.int .i64 mi.kind,.string mi.name,.string mi.txt,.int .i64 mi.wt] 57);have BZ:=lH (aD.new wr 57 #[.int .i64 mi.kind,.string mi.name,.string mi.txt,.int .i64 mi.wt]);replace HO:=lH (HO.o.keep hz);replace FE:=lH (FE.o.up hz);have HWA:Hid (Below W.heap.size W (wr.alloc (.cells #[.int .i64 mi.kind,.string mi.name,.string mi.txt,.int .i64 mi.wt] 57))):=lH (gT.o.tm hz);have d_:Hid (Below w4.heap.size w4 (wr.alloc (.cells #[.int .i64 mi.kind,.string mi.name,.string mi.txt,.int .i64 mi.wt] 57))):=lH (HB.o.tm hz);clear hz HB gT;generalize wr.heap.size=gm at *;generalize wr.alloc (.cells #[.int .i64 mi.kind,.string mi.name,.string mi.txt,.int .i64 mi.wt] 57)=wa at *;have HXa:=lH (HX.o.up HWA.o);have HGa:=lH (HG.o.bl d_.o);have HRa:=lH (HR.o.up d_.o);obtain⟨hs,hsl,oP,hds⟩:=FE.o.hds;obtain⟨WU,DS,HDS⟩:=dZ hsl oP hds;clear hsl oP hds;have HQK:Hid (q<=200):=lH (by have:=HS.o.len;have:=FE.o.len;have:=HL.o;have:=HL'.o;have:=BL.o;omega);have PNX:=P0.o.bl HWA.o;obtain⟨y0,y1,y2,y3,y4,y5,nf,nlt⟩:=aX PNX;dsimp only at y0 y1 y2 y3 y4 y5;clear PNX;obtain⟨x0,x1,x2,x3,xl⟩:=BZ.o.b4;refine kQ 10 (fun hHeld=>?_);simp only[m_,List.take_zero];refine cR [0,2,3,4,5] ?_;clear y0 y1 y2 y3 y4 y5 nf nlt x0 x1 x2 x3 xl;have BU:=lH (aI (Below.refl wa.heap.size wa));generalize wa.drew=v0 at *;refine bI 1 (fun K hK=>?_);go_simp;refine(WE A9 q c9 hs v0 WU.o (DS.o.bm BU.o) (by have:=HQK.o;omega)).mono ?_;rintro e v1 ⟨bO,Ap,cp,rfl,ho1⟩;have pL:Hid (Below wa.heap.size wa v1):=lH (BU.o.tm bO);have rU:Hid (bB o9 v1 wa.heap.size 93 1 (.slice Ap q cp) hs.length (hs.map Hd.val)):=lH (ho1.mono BU.o.size);clear bO ho1 BU;go_simp;refine iB hK pL.o (fun hHeld=>?_);clear hK K;refine bI 6 (fun K hK=>?_);go_simp;refine(tR _ x bM.o h8 g m _ mi v1 (HXa.o.up pL.o) (HGa.o.bl pL.o) (HRa.o.up pL.o) wW.o.1 wW.o.2).mono ?_;rintro e v2 ⟨bH,gc,u,rfl,hq,hv⟩;have yA:Hid (Below wa.heap.size wa v2):=lH (pL.o.tm bH);replace rU:=lH (rU.o.keep bH);have HQ:=lH hq;clear bH hq hv pL;go_simp;refine iB hK yA.o (fun hHeld=>?_);clear hK K;refine bI 7 (fun K hK=>?_);go_simp;refine(G0 g m _ x bM.o h8 u (some ⟨gc,0,none⟩) (aH x) (aH x) (aS x mi).1 v2 (HGa.o.bl yA.o) (HRa.o.up yA.o) HQ.o rfl).mono ?_;rintro e v3 ⟨dK,B3,v,us,hB3,rfl,aW⟩;obtain⟨Ar,cr,hv,-⟩:=aW.rd;subst hv;have sM:(fM x (aS x mi).1).length=(aA x).length:=jT;rw[sM] at aW ⊢;have DR:Hid (Below wa.heap.size wa v3):=lH (yA.o.tm dK);replace rU:=lH (rU.o.keep dK);have xM:=lH aW;clear dK hB3 aW sM yA HQ;go_simp;refine iB hK DR.o (fun hHeld=>?_);clear hK K;refine bI 8 (fun K hK=>?_);go_simp;have hz9:=jO v3 (.cells #[.slice Ar (aA x).length cr] 93);have BY:=lH (rU.o.keep hz9);have HW9:=lH (xM.o.keep hz9);have HV9:=cJ DR hz9;have HL9:=lH (aD.new v3 93 #[.slice Ar (aA x).length cr]);clear hz9 rU xM DR;generalize v3.heap.size=gl9 at *;generalize v3.alloc (.cells #[.slice Ar (aA x).length cr] 93)=v9 at *;refine iB hK HV9.o (fun hHeld=>?_);clear hK K;refine bI 9 (fun K hK=>?_);refine U2 (by rfl) ?_;refine F9 (.tmp 49) (.tmp 56) 92 rfl wa.heap.size Tryz.underlying92 (.slice Ap q cp) hs rfl BY.o (some ⟨gl9,0,none⟩) 1 1 [⟨Ar,(aA x).length,cr⟩] rfl rfl ?k2 ?k3 ?k5 (q+1) ?k4 ?_
     case k2=>exact⟨rfl,fun _=>⟨gl9,0,rfl,HL9.o.lt,fun j u hu=>by rw[Nat.zero_add,HL9.o.cell j];simpa[Hd.val] using hu⟩⟩
     case k3=>have:=WU.o;have:=HQK.o;omega
     case k5=>exact HV9.o.size
     case k4=>rw[g_,WU.o];rfl
     intro Ax cx v10 ho10 NV aIR;have vS:Hid (Below wa.heap.size wa v10):=lH (HV9.o.trans NV);have aPJ:=HW9.o.blkS aIR;obtain⟨Ay,cy,hv,hq,hc1,VP,-⟩:=aPJ.rd;injection hv with e1 e2 e3;subst e1;subst e3;rw[<-e2] at hq hc1;have hd:=(HDS.o.up vS.o).snoc (z:=⟨Ar,(aA x).length,cr⟩) ⟨hq,hc1,VP⟩;have JD:=lH (hd.rdM2 bR ho10).1;clear ho10 NV aIR aPJ hq hc1 VP e2 hd HW9 BY HL9 HV9;refine iB hK vS.o (fun hHeld=>?_);clear hK K;refine eP ?_;clear hHeld;have hz:=fQ bM.o (ms:=[mi]) (fun a ha=>by rw[List.mem_singleton.1 ha];exact wW.o);have aXD:=lH (HS.o.ok.snoc (q:=fM x (aS x mi).1) jT (fun t ht=>Nat.succ_le_succ (hz.2 _ (by unfold aP;exact List.mem_singleton.2 rfl) t ht)) (by have:=HS.o.len;have:=HL.o;omega));clear hz;(go_wp2_with fail);refine(aDy Ax (q+1) cx _ _ _ v10 JD.o aXD.o).mono ?_;rintro e v11 ⟨rfl,kZ⟩;have zK:Hid (Below w4.heap.size w4 v11):=lH (d_.o.trans ((vS.o.tm kZ).mono d_.o.size));replace HO:=lH ((HO.o.keep vS.o).keep kZ);replace JD:=lH (JD.o.up kZ);replace FE:=lH ((FE.o.up vS.o).up kZ);clear kZ vS d_ HXa HGa HRa WU DS HDS BZ HWA aXD;have aKz:=XU (n:=(aA x).length) (fun a ha=>HS.o.ok.wid a ha) (jT (x:=x) (q:=(aS x mi).1));by_cases hr:cK M<cK (M++[fM x (aS x mi).1])
     ·have mZ:=lH (HS.o.yes bM.o ZS.o wW.o (by have:=HL.o;have:=HKN.o;omega) hr)
      have QY:cK (M++[fM x (aS x mi).1])=cK M+1:=by omega
      have HRE:=lH QY;rw[QY];have sM:cK M<=1000:=by have:=XT (n:=(aA x).length) (M:=M) (fun a ha=>HS.o.ok.wid a ha);have:=FE.o.len;have:=HQK.o;omega
      obtain⟨rm,NS⟩:∃rm,cK M=rm:=⟨_,rfl⟩;rw[NS] at sM HRE ⊢;have hgt:(rm:Int)<((rm+1:Nat):Int):=by omega
      have YH:IntKind.i64.wrap ((rm:Int)+1)=(rm:Int)+1:=F8 (by omega) (by omega);have HRX:=lN rm;have sX:Hid (w4.heap.size<=v11.heap.size):=lH zK.o.size;have SW:=lH HS.o.cnt;clear hr QY aKz NS;(go_upto_region 19 with fail);clear hgt YH sM
      go_wp2_with (at_builtin;refine rB (S:=rX) rfl (.tmp 65) (.tmp 67) _ rfl w4.heap.size 3 i0 _ 1 8 Tryz.underlying30 ES.o wX.o KN.o KM.o rfl (by omega) Z2 u14 _ (fA out) rfl HO.o rfl rfl ?k1 ?k2 ?k3 sX.o ?_)
      case k1=>simp[Value.oneCell',rX]
      case k2=>simp only[maxLen];have:=SW.o;have:=HKN.o;omega
      case k3=>have:=SW.o;have:=HKN.o;omega
      intro v' w7 aW hk7 _;have HO7:Hid (bB rX w7 w4.heap.size 3 1 v' (out++[k]).length (fA (out++[k]))):=lH (by rw[g_,List.length_singleton];unfold fA at *;rw[List.map_append];exact aW);have hz7:=jO v11 (.cells #[.int .i64 (k:Int)] 3);have lG:Hid (Below w4.heap.size w4 w7):=lH ((zK.o.trans (hz7.mono sX.o)).trans hk7.low);have HM7:=lH (jP.keepsI (JD.o.up hz7) hk7);clear aW hk7 hz7 HO zK JD FE;(go_wp2_with fail);go_roundw
      case rel=>exact⟨k+1,q+1,cx,Ax,_,out++[k],HKN.o,aQ kL.o,rfl,by rw[HRE.o];exact aQ HRX.o,mZ.o,HM7.o,HO7.o,lG.o⟩
      case measure=>exact iR.o
     ·have mZ:=lH (HS.o.no ZS.o hr)
      have hgt:¬(cK M:Int)<(cK (M++[fM x (aS x mi).1]):Int):=by omega
      generalize cK (M++[fM x (aS x mi).1])=r2 at *;clear aKz hr;(go_wp2_with fail);go_roundw
      case rel=>exact⟨k+1,q,c9,A9,M,out,HKN.o,aQ kL.o,rfl,rfl,mZ.o,FE.o,HO.o,zK.o⟩
      case measure=>exact iR.o
    ·have mL:k=n':=by omega
     subst mL;have f_:¬(k:Int)<(k:Int):=by omega
     obtain⟨he1,he2⟩:=HS.o.done (by have:=BL.o;omega);rw[<-he1] at XE;have TI:=lH he2;clear he1 he2;have HGw:=HG.o.bl HB.o;have y6:wr.cell? ⟨g,6,none⟩=some (.slice m.A6 m.n6 m.c6):=HGw.cell 6;have gl:=HGw.lt;clear HGw;obtain⟨A5,c5,hv,oP,h1,h2,h3⟩:=oV HO.o.own;subst hv;have DS:=lH oP;clear oP;have o3:=lH (HK.o.trans ((bP.o.tm HB.o).mono eC.o));rw[FG.o] at XE;obtain⟨rm,NS⟩:∃rm,cK M=rm:=⟨_,rfl⟩;rw[NS] at XE ⊢;clear NS;by_cases hr:rm<m.n6
     ·rw[if_pos hr] at XE
      have rQ:(rm:Int)<(m.n6:Int):=by omega
      (go_wp2_with fail);go_ret2;rw[HE.o];exact⟨o3.o,.inl ⟨by rw[XE.o];decide,by rw[XE.o];rfl⟩⟩
     ·rw[if_neg hr] at XE
      have rQ:¬(rm:Int)<(m.n6:Int):=by omega
      (go_wp2_with fail);go_ret2;rw[HE.o];refine⟨o3.o,.inr ⟨XE.o,A5,c5,by rw[<-TI.o];rfl,?_⟩⟩;rw[<-TI.o];have h:=DS.o;unfold pK ints e_;unfold fA at h;rw[List.map_map];exact h
def mi0:Mi:=⟨0,⟨#[]⟩,⟨#[]⟩,0⟩
def nX(p:List Mi)(l:List Nat):List Mi:=l.map fun t=>p.getD t mi0
def JU(x:bK)(l p:List Mi):List Mi:=l++nX p (EP x l p).2
def cmE(x:bK)(l p:List Mi):Int:=if TD x l p≠0 then TD x l p else if 64<(JU x l p).length then 2 else 0
def aGW(x:bK)(l p:List Mi)(w:Wo)(e:Ending)(w':Wo):Prop:=Below w.heap.size w w'/\((cmE x l p≠0/\e=.returned (.tuple #[.slice none 0 0,.int .i64 (cmE x l p)]))\/(cmE x l p=0/\∃A c,e=.returned (.tuple #[.slice A (JU x l p).length c,.int .i64 0])/\eB w' w'.heap.size A (JU x l p).length (JU x l p)))
theorem WN{t:Nat}(h:t∈(EP x l p).2):t<p.length:=by
 have:=(wV (aP x p) (aP x l) 0 t h).2;rw[sB] at this;omega
theorem aJv:(EP x l p).2.length<=p.length:=by
 have key:∀(r rows:List (List Rat)) (i:Nat),(sU rows r i).2.length<=r.length:=fun r=>by
  induction r with
  | nil=>intro rows i;exact lR
  | cons a r ih=>
   intro rows i;by_cases h:cK rows<cK (rows++[a])
   ·rw[SM h,EX,EX];have:=ih (rows++[a]) (i+1);omega
   ·rw[ZJ h,EX];have:=ih rows (i+1);omega
 have:=key (aP x p) (aP x l) 0;rwa[sB] at this
theorem TV{l:List Nat}{t:Nat}(h:l[k]?=some t)(hm:p[t]?=some m):nX p (l.take (k+1))=nX p (l.take k)++[m]:=by
 unfold nX;rw[List.take_add_one,h,List.map_append];simp[dH,hm]
theorem L8(h:bZ)(x:bK)(h8:x.nodes.length<=8)(A:OA)(n c:Nat)(ms:List Mi)(A':OA)(n' c':Nat)(ps:List Mi)(w:Wo)(r:cL w w.heap.size h x)(hm:eB w w.heap.size A n ms)(hp:eB w w.heap.size A' n' ps)(hz:∀m∈ms,m.txt.size<=maxLen)(hz':∀m∈ps,m.txt.size<=maxLen)(hn:n<=1000)(hn':n'<=1000)(ht:fL w):Calls Tryz.prog 20 #[.agg h.cells,.slice A n c,.slice A' n' c'] w (aGW x ms ps w):=by
 have K0:=jO w (.cells h.cells 29);obtain⟨HK,P0,HM,HP⟩:=h_ K0 (aD.new w 29 h.cells) (hm.bm K0) (hp.bm K0);have lB:Hid (ms.length=n):=lH hm.1;have BL:Hid (ps.length=n'):=lH hp.1;have eC:Hid (w.heap.size<=(w.alloc (.cells h.cells 29)).heap.size):=lH K0.size;have OO:=lH (aGc h x h8 A n c ms A' n' c' ps (w.alloc (.cells h.cells 29)) (r.up K0) HM.o HP.o hz hz' (by omega) (by omega) (ht.up K0));have HCE:Hid (∀e w',aGW x ms ps w e w'<->(Below w.heap.size w w'/\((cmE x ms ps≠0/\e=.returned (.tuple #[.slice none 0 0,.int .i64 (cmE x ms ps)]))\/(cmE x ms ps=0/\∃A c,e=.returned (.tuple #[.slice A (JU x ms ps).length c,.int .i64 0])/\eB w' w'.heap.size A (JU x ms ps).length (JU x ms ps))))):=lH fun e w'=>Iff.rfl
 have HE:Hid (cmE x ms ps=if TD x ms ps≠0 then TD x ms ps else if 64<(JU x ms ps).length then 2 else 0):=lH rfl;have HC:Hid (JU x ms ps=ms++nX ps (EP x ms ps).2):=lH rfl;have uK:Hid (∀t∈(EP x ms ps).2,t<n'):=lH fun t ht=>by rw[<-BL.o];exact WN ht
 have HIL:Hid ((EP x ms ps).2.length<=n'):=lH (by rw[<-BL.o];exact aJv);generalize cmE x ms ps=ce at *;generalize JU x ms ps=cr at *;clear K0 hm hp r ht hz hz';obtain⟨D0,r0,s0,D1,r1,s1,D2,r2,s2,D3,r3,s3,D4,r4,s4,D5,r5,s5⟩:=h;obtain⟨y0,y1,y2,y3,y4,y5,nf,nlt⟩:=aX P0.o;dsimp only at y0 y1 y2 y3 y4 y5;go_enter Tryz.func20,Tryz.ntmps20
 go_wp2_with fail
 generalize w.alloc (.cells (bZ.cells ⟨D0,r0,s0,D1,r1,s1,D2,r2,s2,D3,r3,s3,D4,r4,s4,D5,r5,s5⟩) 29)=W at *;refine OO.o.mono ?_;rintro e w1 ⟨bO,hh⟩;have cI:=lH bO;clear bO y0 y1 y2 y3 y4 y5 nf nlt OO;rcases hh with⟨hae,rfl⟩ | ⟨hae,A1,c1,rfl,aP8⟩
 ·have haB:(TD x ms ps != 0)=true:=by simp[hae]
  rw[if_pos hae] at HE;(go_wp2_with fail);go_ret2;rw[HCE.o];exact⟨HK.o.trans (cI.o.mono eC.o),.inl ⟨by rw[HE.o];exact hae,by rw[HE.o];rfl⟩⟩
 ·rw[hae,if_neg (fun h=>h rfl)] at HE
  have wX:=lH aP8;clear aP8 hae;generalize (EP x ms ps).2=idx at *;obtain⟨q,hq⟩:∃q,idx.length=q:=⟨_,rfl⟩;rw[hq] at wX HIL ⊢;have HQ:=lH hq;clear hq;have HM1:=lH (HM.o.bm cI.o);(go_wp2_with fail);refine(vO A n c ms w1 HM1.o (by omega)).mono ?_;rintro e w2 ⟨bH,A2,c2,rfl,ho2⟩;have dN:=cJ cI bH;have F6:=lH ho2;replace wX:=lH ((wX.o.below bH lR));have mA:Hid (w1.heap.size<=w2.heap.size/\W.heap.size<=w1.heap.size):=lH ⟨bH.size,cI.o.size⟩;have uJ:=lH (HP.o.below (cI.o.tm bH) lR);clear bH ho2 HM1 cI HM HP;(go_wp2_with fail)
  go_loopw [10,27] (fun v10 v27 wr=>∃(t c9 N:Nat)(A9:OA),t<=q/\v27=.int .i64 t/\v10=.slice A9 N c9/\N=n+t/\dG wr w1.heap.size (.slice A9 N c9) (ms++nX ps (idx.take t))/\Below w1.heap.size w2 wr) (fun _ v27 _=>q-(intOf v27).toNat)
  case atStart=>exact⟨0,c2,n,A2,by omega,rfl,rfl,by omega,by rw[List.take_zero];unfold nX;rw[List.map_nil,List.append_nil];exact F6.o,bR⟩
  case round=>
   obtain⟨t,c9,N,A9,ht,rfl,rfl,hN,ho,hb⟩:=hrel;obtain⟨HO,HB,HN⟩:=dZ ho hb hN;clear ho hb hN;by_cases aR:t<q
   ·obtain⟨i,hi⟩:∃i,idx[t]?=some i:=eE (by rw[HQ.o];exact aR)
    have lE:=uK.o i (bS hi);obtain⟨m,hm⟩:∃m,ps[i]?=some m:=eE (by rw[BL.o];exact lE);have HTS:=lH (TV hi hm);have hI:=wX.o.below HB.o lR;obtain⟨ib,io,hA,hib,-⟩:=hI.2 (by omega);subst hA;have ci:=hI.at_ (eT hi);have hP:=uJ.o.below HB.o mA.o.2;obtain⟨pb,po,hA,hpb,-⟩:=hP.2.2 (by omega);subst hA;obtain⟨a0,a1,a2,a3⟩:=hP.at_ hm;have a3g:ib<wr.heap.size:=by have:=HB.o.size;have:=mA.o;omega
    have a2J:pb<wr.heap.size:=by have:=HB.o.size;have:=mA.o;omega
    have htI:(t:Int)<(q:Int):=by omega
    have IF:=lZ t;have htn:=jM t;have BS:(i:Int)<(n':Int):=by omega
    have iW:=lZ i;have hii:=jM i;have kL:=lN t;have iR:Hid (q-(t+1)<q-t):=lH (by omega);have HTQ:=lH aR;have hz:=jO wr (.cells #[.int .i64 m.kind,.string m.name,.string m.txt,.int .i64 m.wt] 57);obtain⟨HZW,HOZ,HLZ⟩:=dZ hz (HO.o.keep hz) (aDw (aD.new wr 57 #[.int .i64 m.kind,.string m.name,.string m.txt,.int .i64 m.wt]));clear hi hm hI hP hz HO;have aU4:q<=1000:=by have:=HIL.o;omega
    go_wp2_with (at_builtin;refine zN rfl (.tmp 31) (.tmp 36) _ rfl w1.heap.size Tryz.underlying31 (.slice A9 N c9) _ rfl HOZ.o (some ⟨wr.heap.size,0,none⟩) 1 1 [m] rfl HLZ.o ?k1 ?k2 (N+1) ?k3 ?_)
    case k1=>rw[g_];unfold nX;rw[iT,jN,lB.o];omega
    case k2=>have:=HB.o.size;have:=mA.o;simp;omega
    case k3=>rw[g_,g_];unfold nX;rw[iT,jN,lB.o,HQ.o,HN.o];simp;omega
    intro Ax cx w5 ho5 eJ _;have HO5:Hid (dG w5 w1.heap.size (.slice Ax (N+1) cx) (ms++nX ps (idx.take (t+1)))):=lH (by rw[HTS.o];exact ho5);have d_:=lH ((HB.o.trans (HZW.o.mono (by have:=HB.o.size;have:=mA.o;omega))).trans eJ);clear ho5 eJ HOZ HLZ HZW HB;(go_wp2_with fail);go_roundw
    case rel=>exact⟨t+1,cx,N+1,Ax,HTQ.o,aQ kL.o,rfl,by rw[HN.o];omega,HO5.o,d_.o⟩
    case measure=>exact iR.o
   ·have hte:t=q:=by omega
    subst hte;have htI:¬(t:Int)<(t:Int):=by omega
    have ML:Hid (dG wr w1.heap.size (.slice A9 N c9) cr):=lH (by
     have h:=HO.o;rw[nT (by rw[HQ.o];exact lR),<-HC.o] at h;exact h)
    have DS:=lH ML.o.rd2.1;have MN:Hid (cr.length=N):=lH DS.o.1;have o3:=lH (HK.o.trans ((dN.o.trans (HB.o.mono mA.o.2 |> fun h=>h.mono lR)).mono eC.o));by_cases h64:64<N
    ·rw[MN.o,if_pos h64] at HE
     have aMS:(64:Int)<(N:Int):=by omega
     (go_wp2_with fail);go_ret2;rw[HCE.o];exact⟨o3.o,.inl ⟨by rw[HE.o];decide,by rw[HE.o];rfl⟩⟩
    ·rw[MN.o,if_neg h64] at HE
     have aMS:¬(64:Int)<(N:Int):=by omega
     (go_wp2_with fail);go_ret2;rw[HCE.o];exact⟨o3.o,.inr ⟨HE.o,A9,c9,by rw[MN.o];rfl,by rw[MN.o];exact DS.o⟩⟩
section
variable {S:Value->Prop} {w w':Wo} {base e size n:Nat} {v:Value} {xs:List Value}
theorem bB.byB(h:bB S w base e size v n xs)(hk:∀b cs,v.ownBlock=some b->aD w b e cs->aD w' b e cs):bB S w' base e size v n xs:=by
 refine⟨h.1,?_⟩;rcases h.2 with h1 | ⟨g,cap,cur,h1,h2,h3,h4⟩
 ·exact .inl h1
 ·exact .inr ⟨g,cap,cur,h1,h2,hk g cur (by rw[h1];rfl) h3,h4⟩
theorem bB.put5{gp:Nat}{a0 a1 a2 a3 a4 v0 v1 v2 v3 v4:Value}(o:bB S w base e size v n xs)(h:aD w gp 95 #[a0,a1,a2,a3,a4])(ht:e≠95):bB S (((((w.setCell ⟨gp,0,none⟩ v0).setCell ⟨gp,1,none⟩ v1).setCell ⟨gp,2,none⟩ v2).setCell ⟨gp,3,none⟩ v3).setCell ⟨gp,4,none⟩ v4) base e size v n xs:=by
 have h1:=h.set_ 0 v0;have h2:=h1.set_ 1 v1;have h3:=h2.set_ 2 v2;have h4:=h3.set_ 3 v3;exact((((o.far h ht).far h1 ht).far h2 ht).far h3 ht).far h4 ht
end
theorem aPj:∀u∈([.int .i64 0]:List Value),rX u:=fun u hu=>by rw[List.mem_singleton.1 hu];exact⟨0,rfl⟩
def slN:Value->Nat
 | .slice _ n _=>n
 | _=>0
def aTk(x:bK)(ms:List Mi)(w:Wo)(e:Ending)(w':Wo):Prop:=Below w.heap.size w w'/\((∃c:Int,c≠0/\rV x ms c/\e=.returned (.tuple #[.slice none 0 0,.int .i64 c]))\/
 (rV x ms 0/\∃r A c,ClG x (List.range ms.length) ms [] r/\e=.returned (.tuple #[.slice A r.length c,.int .i64 0])/\pK w' w'.heap.size A r.length (e_ r)/\r.length<=c/\c<=maxLen))
structure ClM (x:bK) (g6:Nat) (w0 wr:Wo) (v8 v9 v10:Value) (nums:List Nat) (rest:List Mi) (out:List Nat) (fc:Array Value):Prop where
 fit:uL x rest w0.heap.size wr (.agg fc)
 box:aD wr g6 95 fc
 low:w0.heap.size<=g6
 num:bB rX wr w0.heap.size 3 1 v9 nums.length (fA nums)
 rst:bB aTm wr w0.heap.size 57 4 v8 rest.length (rest.flatMap Mi.cells)
 out:bB rX wr w0.heap.size 3 1 v10 out.length (fA out)
 ne:∀b,v9.ownBlock=some b->v10.ownBlock≠some b
 bel:Below w0.heap.size w0 wr
theorem aBA(h:bZ)(x:bK)(h8:x.nodes.length<=8)(A:OA)(n c:Nat)(ms:List Mi)(w:Wo)(r:cL w w.heap.size h x)(hm:eB w w.heap.size A n ms)(hz:∀m∈ms,m.txt.size<=maxLen)(hn:n<=9223372036854775807)(ht:fL w):Calls Tryz.prog 34 #[.agg h.cells,.slice A n c] w (aTk x ms w):=by
 have K0:=jO w (.cells h.cells 29);obtain⟨HK,P0,HF,HT,HX⟩:=iS K0 (aD.new w 29 h.cells) (aDh h x h8 A n c ms (w.alloc (.cells h.cells 29)) (r.up K0) (hm.bm K0) hz hn (ht.up K0)) (ht.up K0) (r.up K0);have eC:Hid (w.heap.size<=(w.alloc (.cells h.cells 29)).heap.size):=lH K0.size;have lB:Hid (ms.length=n):=lH hm.1;have HM:=lH (hm.bm K0);clear K0 hm r ht hz;obtain⟨D0,r0,s0,D1,r1,s1,D2,r2,s2,D3,r3,s3,D4,r4,s4,D5,r5,s5⟩:=h;obtain⟨y0,y1,y2,y3,y4,y5,nf,nlt⟩:=aX P0.o;dsimp only at y0 y1 y2 y3 y4 y5;go_enter Tryz.func34,Tryz.ntmps34
 go_wp2_with fail
 generalize w.alloc (.cells (bZ.cells ⟨D0,r0,s0,D1,r1,s1,D2,r2,s2,D3,r3,s3,D4,r4,s4,D5,r5,s5⟩) 29)=W at *;have HKW:=HK;have HWS:Hid (w.heap.size<=W.heap.size):=lH HK.o.size;refine HF.o.mono ?_;rintro e w1 ⟨bO,iH⟩;obtain⟨cI,OV,aS5⟩:=dZ (HK.o.trans (bO.mono eC.o)) (HT.o.up bO) bO;replace HM:=lH (HM.o.bm bO);clear bO y0 y1 y2 y3 y4 y5 nf nlt HF;rcases iH with⟨d,hd,AS,rfl⟩ | ⟨AS,fv,rfl,⟨g,m,y,A1,c1,gi,ga,B1,d1,rfl,YL,BT,wP,hf3,hf4,JR,RD⟩⟩
 ·have HE:=lH AS
  have HD:=lH hd;have hdb:(d != 0)=true:=by simp[hd]
  clear AS hd;(go_wp2_with fail);go_ret2;exact⟨cI.o.alloc cI.o.size _,.inl ⟨d,HD.o,HE.o,rfl⟩⟩
 ·obtain⟨mP,iP,EK⟩:=AS.zero rfl
  obtain⟨ok,hl,jZ⟩:=mI mP;have HE:=lH AS;have hz:=jO w1 (.cells #[.pointer (some ⟨g,0,none⟩),.slice A1 ms.length c1,.slice (some ⟨gi,0,none⟩) (aA x).length (aA x).length,.slice (some ⟨ga,0,none⟩) (aH x) (aH x),.slice B1 ms.length d1] 95);have OS:=uL.up (B0:=W.heap.size) (x:=x) (ms:=ms) ⟨g,m,y,A1,c1,gi,ga,B1,d1,rfl,YL,BT,wP,hf3,hf4,JR,RD⟩ hz;obtain⟨HFF,HK,HM2,wY⟩:=h_ OS (aLM h8 mP) (HM.o.bm hz) (aD.new w1 95 #[.pointer (some ⟨g,0,none⟩),.slice A1 ms.length c1,.slice (some ⟨gi,0,none⟩) (aA x).length (aA x).length,.slice (some ⟨ga,0,none⟩) (aH x) (aH x),.slice B1 ms.length d1]);have TK:=cJ cI hz;have aS4:=cJ aS5 hz;have aND:=lH iP;have F2:=lH (OV.o.up hz);have HL:Hid (ms.length<=64):=lH hl;clear AS YL BT wP hf3 hf4 JR RD OS mP iP EK ok hl jZ hz;(go_upto_region 4 with fail);generalize w1.alloc (.cells #[.pointer (some ⟨g,0,none⟩),.slice A1 ms.length c1,.slice (some ⟨gi,0,none⟩) (aA x).length (aA x).length,.slice (some ⟨ga,0,none⟩) (aH x) (aH x),.slice B1 ms.length d1] 95)=wz at *;generalize hgt:w1.heap.size=gt at *;have HGT:Hid (W.heap.size<=gt):=lH (by rw[<-hgt];exact aS5.o.size);clear hgt;have Q5:=lB.o;subst Q5;have aVs:=HL.o;(go_wp2_with fail);refine(vO A ms.length c ms wz HM2.o (by omega)).mono ?_;rintro e w2 ⟨bH,A8,c8,rfl,ho8⟩;have tD:=lH (bB.mono (aJs ho8) aS4.o.size);have dN:=cJ aS4 bH;have HF2:=lH (HFF.o.up bH);have aYG:=lH (wY.o.bl bH);clear bH ho8 HFF wY HM2;(go_wp2_with fail)
  go_loopw [9,26] (fun v9 v26 wr=>∃k:Nat,k<=ms.length/\v26=.int .i64 k/\bB rX wr w2.heap.size 3 1 v9 (List.range k).length (fA (List.range k))/\Below w2.heap.size w2 wr) (fun _ v26 _=>ms.length-(intOf v26).toNat)
  case atStart=>exact⟨0,by omega,rfl,dI _ _ _ _ _,bR⟩
  case round=>
   obtain⟨k,hk,rfl,ho,hb⟩:=hrel;have HO:=lH ho;have HB:=lH hb;clear ho hb;by_cases aR:k<ms.length
   ·have f_:(k:Int)<(ms.length:Int):=by omega
    have kL:=lN k;have iR:Hid (ms.length-(k+1)<ms.length-k):=lH (by omega);have ON:Hid (w2.heap.size<=wr.heap.size):=lH HB.o.size
    go_wp2_with (at_builtin;refine DX rfl (.tmp 29) (.tmp 31) _ rfl w2.heap.size Tryz.underlying30 u9 (List.range k) k rfl HO.o rfl ?k1 ON.o ?_)
    case k1=>rw[List.length_range];omega
    intro v' w7 aW AQ o8 Q2 dO hZ;have HO7:Hid (bB rX w7 w2.heap.size 3 1 v' (List.range (k+1)).length (fA (List.range (k+1)))):=lH (by rw[List.range_succ,g_,List.length_singleton,List.length_range];exact aW);have lG:Hid (Below w2.heap.size w2 w7):=lH (HB.o.trans AQ);clear aW AQ o8 Q2 dO hZ HO HB;(go_wp2_with fail);go_roundw
    case rel=>exact⟨k+1,aR,aQ kL.o,HO7.o,lG.o⟩
    case measure=>exact iR.o
   ·have mL:k=ms.length:=by omega
    subst mL;have f_:¬((ms.length:Nat):Int)<(ms.length:Int):=by omega
    have hM:ClM x gt W wr (.slice A8 ms.length c8) u9 (.slice none 0 0) (List.range ms.length) ms [] #[.pointer (some ⟨g,0,none⟩),.slice A1 ms.length c1,.slice (some ⟨gi,0,none⟩) (aA x).length (aA x).length,.slice (some ⟨ga,0,none⟩) (aH x) (aH x),.slice B1 ms.length d1]:=⟨HF2.o.up HB.o,aYG.o.bl HB.o,HGT.o,bB.mono HO.o dN.o.size,tD.o.keep HB.o,dI _ _ _ _ _,fun b _ h=>(by cases h),dN.o.tm HB.o⟩;have HMM:=lH hM;have wW:=lH HK.o;clear hM HO HB HF2 aYG tD;(go_wp2_with fail)
    go_loopw [8,9,10] (fun v8 v9 v10 wr=>∃(nums:List Nat)(rest:List Mi)(out:List Nat)(fc:Array Value),ClM x gt W wr v8 v9 v10 nums rest out fc/\nums.length=rest.length/\OE x rest/\o5 x rest/\out.length<=64-rest.length/\∀r,ClG x nums rest out r->ClG x (List.range ms.length) ms [] r) (fun v8 _ _ _=>slN v8)
    case atStart=>exact⟨_,_,_,_,HMM.o,List.length_range,wW.o,aND.o,Nat.zero_le _,fun r h=>h⟩
    case round=>
     clear HMM wW;obtain⟨nums,rest,out,fc,hm,d8,hmo,iP,hol,aKP⟩:=hrel;obtain⟨g',m',y',A1',c1',gi',ga',B1',d1',hfe,-⟩:=hm.fit;injection hfe with hfe;subst hfe;obtain⟨A8,c8,LM,-,-⟩:=hm.rst.shape;obtain⟨A9,c9,LL,-,-⟩:=hm.num.shape;obtain⟨A10,c10,aLX,-,-⟩:=hm.out.shape;subst LM;subst LL;subst aLX;obtain⟨SV,W7,wW,HRG,HOL⟩:=iS hm d8 hmo iP hol;have HCT:=lH aKP;clear hm d8 hmo iP hol aKP;obtain⟨f0,f1,f2,f3,f4,fl⟩:=SV.o.box.b5;(go_wp2_with fail);refine(Z5 x rest wW.o _ W.heap.size A8 c8 wr SV.o.fit (dG.rd2 SV.o.rst.own).1).mono ?_;rintro e w3 ⟨dK,b,rfl,NP⟩;obtain⟨F1,aSB,aXx,aSx,aY1⟩:=iS NP (SV.o.num.keep dK) (SV.o.rst.keep dK) (SV.o.out.keep dK) (SV.o.box.below dK fl);obtain⟨aOd,HNE,aJQ⟩:=dZ (SV.o.bel.tm dK) SV.o.ne SV.o.low;clear dK NP f0 f1 f2 f3 f4 fl SV;by_cases hb:b<0
     ·have FA:decide (b<0)=true:=decide_eq_true hb
      have HCG:=lH (HCT.o out (ClG.done F1.o hb));(go_wp2_with fail);go_ret2;obtain⟨Ao,co,hvo,aUZ,aVb,aV_⟩:=aDN aSx.o;injection hvo with nA kU qI;subst nA;subst qI;exact⟨HKW.o.trans (aOd.o.mono HWS.o),.inr ⟨HE.o,out,_,_,HCG.o,rfl,aUZ,aVb,aV_⟩⟩
     ·obtain⟨k,rfl⟩:∃k:Nat,b=(k:Int):=⟨b.toNat,by omega⟩
      have FA:decide ((k:Int)<0)=false:=decide_eq_false hb;have hkr:k<rest.length:=by
       rcases F1.o with⟨h1,-⟩ | ⟨j,h1,h2,-⟩<;>omega
      have HKR:=lH hkr;have HSP:Hid (vf (kP x rest) k≠0):=lH (by
       rcases F1.o with⟨h1,-⟩ | ⟨j,h1,h2,h3,-⟩
       ·omega
       ·have e:j=k:=by omega
        rw[<-e];exact h3.2)
      obtain⟨i,hi⟩:∃i,nums[k]?=some i:=eE (by have:=W7.o;omega);have HI:=lH hi;obtain⟨g9,cap9,cur9,LL,hg9,gD,aE6,aEK,aE9,aA6,aEz⟩:=aSB.o.strike (k:=k) (by have:=W7.o;omega);injection LL with LL hv9b hv9c;subst LL;subst hv9c;have hc9:w3.cell? ⟨g9,0+k,none⟩=some (.int .i64 (i:Int)):=by
       rw[gD.cell,Nat.zero_add];have h:=aD4 hi;rw[<-aA6,List.getElem?_take] at h;split at h
       ·rwa[Array.getElem?_toList] at h
       ·cases h
      rw[Nat.zero_add] at hc9;have aVP:=gD.lt;have fH:=lH gD;have hkN:(k:Int)<(nums.length:Int):=by have:=W7.o;omega
      have kO:=lZ k;have rR:=jM k;have aU1:=wW.o.k64;have ON:Hid (W.heap.size<=w3.heap.size):=lH aOd.o.size;have WV:=lH (And.intro hg9 (And.intro aE6 (And.intro aEK (And.intro aE9 (And.intro aA6 aEz)))));clear hi hb hg9 aE6 aEK aE9 aA6 aEz gD
      go_wp2_with (at_builtin;refine DX rfl (.tmp 40) (.tmp 45) _ rfl W.heap.size Tryz.underlying30 (.slice A10 out.length c10) out i rfl aSx.o rfl ?k1 ON.o ?_)
      case k1=>have:=HOL.o;omega
      intro v' w4 aW AQ o8 Q2 dO hZ;have aSA:=lH (aSB.o.apart (v:=.slice A10 out.length c10) Q2 (fun b hb=>HNE.o b hb));have aSu:Hid (bB rX w4 W.heap.size 3 1 v' (out++[i]).length (fA (out++[i]))):=lH (by rw[g_,List.length_singleton];exact aW);have aSC:Hid (v'.ownBlock≠some g9):=lH (by
       rcases o8 with h | ⟨b,h,h2⟩
       ·rw[h];exact HNE.o g9 rfl
       ·rw[h]
        intro e;injection e with e;have:=fH.o.lt;omega)
      have aK7:=lH (aXx.o.byB (w':=w4) fun b cs _ h=>dO b _ cs h (by decide));have ZZ:=lH (dO _ _ _ aY1.o (by decide));have aS7:=lH (aOd.o.trans AQ);clear aW AQ o8 Q2 dO hZ hc9 aVP aSB aXx aSx aY1 aOd HNE ON WV fH;clear cur9;obtain⟨g9',cap9,cur9,LL,hg9,gD,aE6,aEK,aE9,aA6,aEz⟩:=aSA.o.strike (k:=k) (by have:=W7.o;omega);injection LL with LL hv9b hv9c;injection LL with LL;injection LL with LL;subst LL;subst hv9c;obtain⟨g8,cap8,cur8,LM,hg8,fJ,aE7,aEL,aE_,aEv,aID⟩:=aK7.o.strike (k:=k) HKR.o;injection LM with LM hv8b hv8c;subst LM;subst hv8c;have H98:Hid (g8≠g9):=lH (fJ.apart gD (by decide));have H69:Hid (gt≠g9):=lH (ZZ.o.apart gD (by decide));have H68:Hid (gt≠g8):=lH (ZZ.o.apart fJ (by decide));have HC9:=lH (aFR g9 nums.length c9 k cur9 w4 gD (by rw[aE6]) aEK (by have:=W7.o;omega) aE9 (by rw[aA6];exact aD3 nums));obtain⟨aXk,dS,HS8⟩:=dZ aEz fJ (And.intro aE7 (And.intro aEL (And.intro aE_ aEv)));clear hg9 gD aE6 aEK aE9 aA6 aEz hg8 fJ aE7 aEL aE_ aEv aID;have aMr:(k:Int)+1<=(nums.length:Int):=by omega
      have aVt:(k:Int)<(rest.length:Int):=by omega
      (go_wp2_with fail);refine HC9.o.mono ?_;intro e w5 hd9;obtain⟨rfl,hn5,ho5,hl5⟩:=aXk.o _ e w5 hd9 aPj;rw[UT] at hn5;have oS:=lH hn5;have aSw:=lH (aSu.o.byB (w':=w5) fun b cs h hb=>(ho5 b hb.lt (fun e=>aSC.o (by rw[h,e]))).trans hb);have aR8:=lH (aK7.o.byB (w':=w5) fun b cs h hb=>(ho5 b hb.lt (fun e=>H98.o (by injection h with h;rw[<-e];exact h))).trans hb);have aLp:=lH (show aD w5 gt 95 _ from(ho5 gt ZZ.o.lt H69.o).trans ZZ.o);have aS8:=lH (aS7.o.trans hl5);clear hn5 ho5 hl5 hd9 HC9 aXk aSu aK7 ZZ aS7 aSA dS HS8;clear cur8;obtain⟨g8',cap8,cur8,LM,hg8,fJ,aE7,aEL,aE_,aEv,aID⟩:=aR8.o.strike (k:=k) HKR.o;injection LM with LM hv8b hv8c;injection LM with LM;injection LM with LM;subst LM;subst hv8c;have HC8:=lH (aFQ g8 rest.length c8 k cur8 w5 fJ aE7 aEL HKR.o aE_ (by rw[aEv];exact aLN rest));have aXl:=lH aID;have dS:=lH fJ;clear hg8 fJ aE7 aEL aE_ aEv aID;(go_wp2_with fail);refine HC8.o.mono ?_;intro e w6 hd8;obtain⟨rfl,pG,ho6,hl6⟩:=aXl.o _ e w6 hd8 (fun _ _=>trivial);rw[aD9] at pG;have e1:rest.length-1=(rest.eraseIdx k).length:=(List.length_eraseIdx_of_lt HKR.o).symm;have e2:nums.length-1=(nums.eraseIdx k).length:=(List.length_eraseIdx_of_lt (by have:=W7.o;have:=HKR.o;omega)).symm;have JX:=lH (by rw[e1] at pG;exact pG);have FG:=lH ((by have h:=oS.o;rw[e2] at h;exact h:bB rX w5 W.heap.size 3 1 (.slice (some ⟨g9,0,none⟩) (nums.eraseIdx k).length c9) (nums.eraseIdx k).length (fA (nums.eraseIdx k))).byB (w':=w6) fun b cs _ hb=>(ho6 b hb.lt (hb.apart dS.o (by decide))).trans hb);have aSv:=lH (aSw.o.byB (w':=w6) fun b cs _ hb=>(ho6 b hb.lt (hb.apart dS.o (by decide))).trans hb);have aLo:=lH (show aD w6 gt 95 _ from(ho6 gt aLp.o.lt H68.o).trans aLp.o);have Z0:=lH (aS8.o.trans hl6);have aSb:=lH (VZ wW.o HRG.o HKR.o HSP.o);have aB6:=lH (wW.o.sub (List.eraseIdx_sublist rest k));have aYP:Hid (∀r,ClG x (nums.eraseIdx k) (rest.eraseIdx k) (out++[i]) r->ClG x (List.range ms.length) ms [] r):=lH fun r h=>HCT.o r (ClG.step F1.o HI.o h);have aYd:Hid ((out++[i]).length<=64-(rest.eraseIdx k).length):=lH (by rw[g_,List.length_singleton,<-e1];have:=HOL.o;have:=HKR.o;have:=wW.o.k64;omega);have aYn:Hid ((nums.eraseIdx k).length=(rest.eraseIdx k).length):=lH (by rw[<-e1,<-e2,W7.o]);have HME:Hid ((rest.eraseIdx k).length<rest.length):=lH (by rw[<-e1];have:=HKR.o;omega);rw[e1,e2];clear pG ho6 hl6 hd8 HC8 aXl dS oS aSw aR8 aLp aS8 H98 H69 H68 HKR HSP F1 HI HCT HOL W7 e1 e2 aU1 hkr aVt aMr hkN kO rR HRG wW;generalize hrs:rest.eraseIdx k=rest' at *;generalize hns:nums.eraseIdx k=nums' at *;generalize hos:out++[i]=out' at *
      have PNX:=P0.o.bl Z0.o;obtain⟨y0,y1,y2,y3,y4,y5,nf,nlt⟩:=aX PNX;dsimp only at y0 y1 y2 y3 y4 y5;clear PNX;(go_wp2_with fail);refine(NY _ x aB6.o.ok h8 (some ⟨g8,0,none⟩) _ c8 rest' w6 (HX.o.up Z0.o) (dG.rd2 JX.o.own).1 aB6.o.k64 aB6.o.mi aB6.o.tx aB6.o.wt).mono ?_;rintro e w7 ⟨iA,iH⟩;rcases iH with⟨h,-⟩ | ⟨-,fv,rfl,OS⟩
      ·exact absurd aSb.o h
      have aQS:=OS;obtain⟨g2,m2,yy2,A2,c2,gi2,ga2,B2,d2,hfe,-⟩:=OS;subst hfe;have aYF:=lH aQS;have P6:=lH (aLo.o.bl iA);have TH:Hid (gt<w6.heap.size):=lH aLo.o.lt;obtain⟨HN7,HR7,HO7⟩:=dZ (FG.o.keep iA) (JX.o.keep iA) (aSv.o.keep iA);have lG:=cJ Z0 iA;have aYZ:Hid (W.heap.size<=w6.heap.size):=lH Z0.o.size;clear aQS iA y0 y1 y2 y3 y4 y5 nf nlt aLo FG JX aSv Z0;obtain⟨z0,z1,z2,z3,z4,zf,zl⟩:=P6.o.e5;have HU:=lH (FJ (p':=some ⟨g2,0,none⟩) (B1:=A2) (k1:=rest'.length) (d1:=c2) (B2:=some ⟨gi2,0,none⟩) (k2:=(aA x).length) (d2:=(aA x).length) (B3:=some ⟨ga2,0,none⟩) (k3:=aH x) (d3:=aH x) (B4:=B2) (k4:=rest'.length) (d4:=d2) P6.o);(go_wp2_with fail);go_roundw
      case rel=>exact⟨nums',rest',out',_,⟨(aYF.o.unP HU.o TH.o).low aYZ.o,rJ P6.o,aJQ.o,HN7.o.put5 P6.o (by decide),HR7.o.put5 P6.o (by decide),HO7.o.put5 P6.o (by decide),fun b hb=>by injection hb with hb;rw[<-hb];exact aSC.o,lY lG.o aJQ.o⟩,aYn.o,aB6.o,aSb.o,aYd.o,aYP.o⟩
      case measure=>exact HME.o
end
section
def aKf(l:List Nat)(ms:List Mi)(k:Nat):List Mi:=((List.range k).filter fun j=>!decide (j∈l)).filterMap fun j=>ms[j]?
theorem D6:∀{a b:List Nat},a.Pairwise (·<·)->b.Pairwise (·<·)->(∀j,j∈a<->j∈b)->a=b
 | [],[],_,_,_=>rfl
 | [],y::b,_,_,h=>absurd ((h y).2 (by simp)) (by simp)
 | x::a,[],_,_,h=>absurd ((h x).1 (by simp)) (by simp)
 | x::a,y::b,ha,hb,h=>by
  obtain⟨h1,h2⟩:=List.pairwise_cons.1 ha;obtain⟨h3,h4⟩:=List.pairwise_cons.1 hb;have e:x=y:=by
   have g1:=(h x).1 (by simp);have g2:=(h y).2 (by simp);rcases List.mem_cons.1 g1 with g1 | g1
   ·exact g1
   ·rcases List.mem_cons.1 g2 with g2 | g2
    ·exact g2.symm
    ·have:=h1 _ g2
     have:=h3 _ g1;omega
  subst e;congr 1
  refine D6 h2 h4 fun j=>?_
  constructor
  ·intro hj
   have:=h1 _ hj;rcases List.mem_cons.1 ((h j).1 (by simp[hj])) with g | g
   ·omega
   ·exact g
  ·intro hj
   have:=h3 _ hj;rcases List.mem_cons.1 ((h j).2 (by simp[hj])) with g | g
   ·omega
   ·exact g
theorem xX:∀{nums:List Nat}{rest:List Mi},nums.length=rest.length->(∀(i j:Nat),nums[i]?=some j->rest[i]?=ms[j]?/\j<ms.length)->nums.filterMap (fun j=>ms[j]?)=rest
 | [],[],_,_=>rfl
 | [],y::b,h,_=>by simp at h
 | x::a,[],h,_=>by simp at h
 | x::a,y::b,hl,h=>by
  have h0:=(h 0 x rfl).1;have e:ms[x]?=some y:=h0.symm;rw[List.filterMap_cons,e];show y::_=_;rw[xX (nums:=a) (rest:=b) (by simpa using hl) fun i j uA=>h (i+1) j uA]
theorem ClI.left{rest:List Mi}{nums:List Nat}(h:ClI ms nums rest out):aKf out ms ms.length=rest:=by
 have e:((List.range ms.length).filter fun j=>!decide (j∈out))=nums:=by
  refine D6 (List.pairwise_lt_range.filter _) h.inc fun j=>?_;rw[List.mem_filter,List.mem_range]
  constructor
  ·rintro⟨h1,h2⟩
   exact(h.off j h1).2 (by simpa using h2)
  ·intro hj
   obtain⟨i,hi⟩:=List.mem_iff_getElem?.1 hj;have h1:=(h.at_ i j hi).2;exact⟨h1,by simpa using(h.off j h1).1 hj⟩
 unfold aKf;rw[e];exact xX h.len h.at_
end
