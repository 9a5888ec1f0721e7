import Derived.Test.YthgdchffeigkbaaGreatDoorX33
import Derived.Test.YthgdchffeigkbaaGreatDoorX34
set_option linter.unusedVariables false
set_option linter.unusedSimpArgs false
namespace Go.Proofs.YthgdchffeigkbaaGreatDoor
set_option maxHeartbeats 8000000
set_option maxRecDepth 100000
section
open Go.ChangeShapes Go.WideShapes Go.ChangeAt Go.RowKit
attribute [local go_sem ↓] aE
attribute [local go_sem] aK aH aM aY
def aGg (n:Nat) (p:List Rat×Rat):Value->World->Prop:=fun v w=>∃ (gc:Nat) (u:Rv),v=.agg #[.slice (some ⟨gc,0,none⟩) n n,.bool u.b1,.slice u.A u.n u.c,.bool u.b2,.slice u.A2 u.m u.d]/\iF w w.heap.size (some ⟨gc,0,none⟩) n p.1/\dL w w.heap.size p.2 u
theorem aGg.up {n:Nat} {p:List Rat×Rat} {v:Value} {w w':Wo} (h:aGg n p v w) (hb:Below w.heap.size w w'):aGg n p v w':=by
 obtain ⟨gc,u,e,h1,h2⟩:=h;exact ⟨gc,u,e,(h1.below hb lR).more hb.size,h2.up hb⟩
end
section
theorem VK:bV 0=⟨#[48]⟩/\bV (-5)=⟨#[45,53]⟩/\bV (-6)=⟨#[45,54]⟩/\bV 5=⟨#[53]⟩/\bV 2=⟨#[50]⟩/\bV 1=⟨#[49]⟩:=by decide+kernel
theorem CK {q:Rat} (h:q.num.natAbs<10^5/\q.den<10^5):bZ q:=Tn.fits (k:=5) h (by decide)
theorem ME {x:bE} {ms:List Mi} (h8:x.nodes.length<=8) (h10:x.brs.length<=10) (k8:ms.length<=8) (hz:∀ m∈ms,m.txt.size<=24) (hc:b6 x ms=0):Sml x ms:=by
 obtain ⟨h1,-,h2⟩:=iU hc;obtain ⟨h3,h4⟩:=zS hc;exact ⟨h1,h8,h10,k8,h2,fun m hm=>aG6 (h3 m hm) (hz m hm),h4⟩
theorem FQ {x:bE} {ms:List Mi} {v:List Vc} (h:kN x ms v=true):x.nodes.length<=8/\x.brs.length<=10/\(∀ m∈ms,m.txt.size<=24):=by
 unfold kN at h;simp only [Bool.and_eq_true,decide_eq_true_eq,List.all_eq_true] at h;exact ⟨h.1.1.1,h.1.1.2,h.1.2⟩
section
variable {x:bE} {ms:List Mi}
theorem aOI {l:List Rat} {b:Nat} (h:∀ q∈l,bU q<=b) (hb:2<=b) (i:Nat):bU (vf l i)<=b:=by
 by_cases hi:i<l.length
 ·exact h _ (cO (bI hi))
 ·have e:vf l i=0:=by
   unfold vf;rw [eY,List.getElem?_eq_none (by omega)];rfl
  rw [e];exact cV (dV 0 (by decide) (by decide)) hb
theorem aK6 (tQ:∀ m∈ms,1<=m.wt/\m.wt<=1000) (t:Nat):bU (S2 ms t)<=2:=by
 by_cases ht:t<ms.length
 ·obtain ⟨m,hm⟩:∃ m,ms[t]?=some m:=⟨_,jA ht⟩
  rw [BC hm];have:=tQ m (cO hm);exact dV _ (by omega) (by omega)
 ·have e:S2 ms t=S2 [] 0:=by
   unfold S2;rw [List.getElem?_eq_none (by omega)];rfl
  rw [e];exact dV 0 (by decide) (by decide)
theorem MI {M:List (List Rat)} (hq:∀ a∈M,∀ q∈a,bU q<=300) (t i:Nat):bU (vf (M.getD t []) i)<=300:=by
 refine aOI ?_ (by decide) i;rw [eY];cases h:M[t]? with
 | none=>intro q hq;cases hq
 | some a=>exact hq a (cO h)
theorem aEM {M:List (List Rat)} (hq:∀ a∈M,∀ q∈a,bU q<=300) (tQ:∀ m∈ms,1<=m.wt/\m.wt<=1000) (a b:Nat):∀ k,bU (CJ M ms k a b)<=606*k+2
 | 0=>dV 0 (by decide) (by decide)
 | k+1=>by
  have ih:=aEM hq tQ a b k;unfold CJ at ih ⊢;simp only [aO];have h1:=kM (aO k fun t=>S2 ms t*vf (M.getD t []) a*vf (M.getD t []) b) (S2 ms k*vf (M.getD k []) a*vf (M.getD k []) b);have h2:=eH (S2 ms k*vf (M.getD k []) a) (vf (M.getD k []) b);have h3:=eH (S2 ms k) (vf (M.getD k []) a);have h4:=aK6 tQ k;have h5:=MI hq k a;have h6:=MI hq k b;omega
theorem UL (ok:cN x) (h8:x.nodes.length<=8) (hm:∀ m∈ms,nV x m) (tQ:∀ m∈ms,1<=m.wt/\m.wt<=1000) (hl:ms.length<=64):∀ a∈mE (dS (aA x).length (aR x ms) ms),∀ q∈a,bU q<=2600000000:=fun a ha q hq=>by
 have hr:=(gT ok hm).2;have hB:Bd (3+606*ms.length) (dS (aA x).length (aR x ms) ms):=fun r GM q hq'=>by
  obtain ⟨i,hi⟩:=List.mem_iff_getElem?.1 GM;have CD:i<(aA x).length:=by
   have:=(dP.1 hi).1;rwa [cL] at this
  obtain ⟨r0,h1,h2,h3⟩:=uR (ms:=ms) (M:=aR x ms) CD;rw [h1] at hi;injection hi with hi;subst hi;obtain ⟨j,hj⟩:=List.mem_iff_getElem?.1 hq';have sQ:j<(aA x).length:=by have:=(dP.1 hj).1;omega
  rw [<-iA hj,h3 j sQ];have:=aEM (ms:=ms) hr tQ i j (aR x ms).length;rw [lI] at this ⊢;omega
 have h:=aDO lU hB (by omega) a ha q hq;rw [cL] at h;have h1:4^(aA x).length<=4^8:=Nat.pow_le_pow_right (by decide) (fY ok h8);have h2:=Nat.mul_le_mul h1 (show 3+606*ms.length<=38787 by omega);omega
theorem aJu {z:Int} (h:1<=z/\z<=1000):bU ((z:Int):Rat)<=1:=by
 unfold bU;rw [Rat.num_intCast,Rat.den_intCast];have h1:dK 1=1:=rZ (by decide) (by decide);rw [rZ (by omega) (by omega),h1];decide
def yY (row:List Rat) (inv:List (List Rat)) (s:Rat):Nat->Rat
 | 0=>s
 | i+1=>yY row inv s i-vf row i*jJ (inv.getD i []) row
def wP (x:bE) (ms:List Mi) (k:Nat) (m:Mi) (i:Nat):Rat:=yY ((aR x ms).getD k []) (mE (dS (aA x).length (aR x ms) ms)) (Rat.divInt 1 m.wt) i
def eQ (x:bE) (ms:List Mi):List Rat:=ms.mapIdx fun k m=>wP x ms k m (aA x).length
theorem iG:(eQ x ms).length=ms.length:=by unfold eQ;rw [List.length_mapIdx]
theorem FO {k:Nat} {m:Mi} (h:ms[k]?=some m):(eQ x ms)[k]?=some (wP x ms k m (aA x).length):=by
 unfold eQ;rw [List.getElem?_mapIdx,h];rfl
theorem Q1 (ok:cN x) (h8:x.nodes.length<=8) (hm:∀ m∈ms,nV x m) (tQ:∀ m∈ms,1<=m.wt/\m.wt<=1000) (hl:ms.length<=64) {i:Nat} {a row:List Rat} (ha:(mE (dS (aA x).length (aR x ms) ms))[i]?=some a) (hr:row∈aR x ms):a.length=(aA x).length/\bU (jJ a row)<=41600000010:=by
 have h1:a.length=(aA x).length:=by
  have h:=(rW (M:=dS (aA x).length (aR x ms) ms) lU).2 a (cO ha);rwa [cL] at h
 have h2:=UL ok h8 hm tQ hl a (cO ha);have h3:=(gT ok hm).2 row hr;have h4:=nG (ys:=row) h1 h2 (fun q hq=>cV (h3 q hq) (by decide)) (aA x).length lR;rw [nW (by rw [List.length_zipWith];omega)] at h4;have h5:=fY ok h8;refine ⟨h1,?_⟩;unfold jJ;refine cV h4 ?_;exact Nat.succ_le_succ (cV (Nat.mul_le_mul_right _ h5) (by decide))
theorem FP (ok:cN x) (h8:x.nodes.length<=8) (hm:∀ m∈ms,nV x m) (tQ:∀ m∈ms,1<=m.wt/\m.wt<=1000) (hl:ms.length<=64) {k:Nat} {m:Mi} (hk:ms[k]?=some m):∀ i,i<=(aA x).length->bU (wP x ms k m i)<=2+i*41600000400
 | 0,_=>by
  have h:=tQ m (cO hk);unfold wP yY;rw [Rat.divInt_eq_div];have h1:=E4 ((1:Int):Rat) ((m.wt:Int):Rat);have h2:bU ((1:Int):Rat)<=1:=by decide+kernel
  have h3:bU ((m.wt:Int):Rat)<=1:=aJu h;omega
 | i+1,hi=>by
  have ih:=FP ok h8 hm tQ hl hk i (by omega);unfold wP at ih ⊢;unfold yY;obtain ⟨a,ha⟩:∃ a,(mE (dS (aA x).length (aR x ms) ms))[i]?=some a:=eO (by rw [(rW lU).1,cL];omega);have rX:k<(aR x ms).length:=by rw [lI];exact (dP.1 hk).1
  have iH:(aR x ms).getD k []∈aR x ms:=by
   rw [eY,jA rX];exact List.getElem_mem rX
  have h1:=(Q1 ok h8 hm tQ hl ha iH).2;have e:(mE (dS (aA x).length (aR x ms) ms)).getD i []=a:=by rw [eY,ha];rfl
  rw [e];have h2:=vM (yY ((aR x ms).getD k []) (mE (dS (aA x).length (aR x ms) ms)) (Rat.divInt 1 m.wt) i) (vf ((aR x ms).getD k []) i*jJ a ((aR x ms).getD k []));have h3:=eH (vf ((aR x ms).getD k []) i) (jJ a ((aR x ms).getD k []));have h4:=MI (gT ok hm).2 k i;omega
def ZU (x:bE) (ms:List Mi) (k:Nat):Fn:=pI (dS (aA x).length (aR x ms) ms) ((fM x ms).R k)
theorem yZ (hr:mI x ms) (k:Nat):(fM x ms).SolK k (ZU x ms k):=fun i hi=>by
 obtain ⟨r,GM,hl,hv⟩:=uR (M:=aR x ms) (ms:=ms) (n:=(aA x).length) hi;have h1:=XX lU hr ((fM x ms).R k) GM;rw [cL] at h1;rw [<-AF GM];exact h1
theorem J9 (row:List Rat) (inv:List (List Rat)) (s:Rat):∀ i,yY row inv s i=s-aO i fun t=>vf row t*jJ (inv.getD t []) row
 | 0=>by simp only [yY,aO];grind
 | i+1=>by
  unfold yY;rw [J9 row inv s i];simp only [aO];grind
theorem aLh (ok:cN x) (hm:∀ m∈ms,nV x m) {k:Nat} {m:Mi} (hk:ms[k]?=some m):wP x ms k m (aA x).length=(fM x ms).spr k (ZU x ms k):=by
 unfold wP Ls.spr;rw [J9,Rat.divInt_eq_div,aLD hk];have rX:k<(aR x ms).length:=by rw [lI];exact (dP.1 hk).1
 have iH:((aR x ms).getD k []).length=(aA x).length:=by
  rw [eY,jA rX];exact (gT ok hm).1 _ (List.getElem_mem rX)
 congr 1
 refine aN fun i hi=>?_;show _=vf ((aR x ms).getD k []) i*ZU x ms k i;congr 1
 unfold ZU pI;rw [cL];exact G4 (XW hi) iH
theorem EM (ok:cN x) (hm:∀ m∈ms,nV x m) {k:Nat} (hk:k<ms.length):(eQ x ms)[k]?=some ((fM x ms).spr k (ZU x ms k)):=by
 obtain ⟨m,pS⟩:∃ m,ms[k]?=some m:=⟨_,jA hk⟩;rw [FO pS,aLh ok hm pS]
end
structure D7 (x:bE) (ms:List Mi):Prop where
 ok:cN x
 h8:x.nodes.length<=8
 k64:ms.length<=64
 mi:∀ m∈ms,nV x m
 tx:∀ m∈ms,cX m.txt.data.toList=0
 wt:∀ m∈ms,1<=m.wt/\m.wt<=1000
theorem F9 {x:bE} {ms:List Mi} (h8:x.nodes.length<=8) (hc:b6 x ms=0):D7 x ms:=by
 obtain ⟨h1,h2,h3⟩:=iU hc;obtain ⟨h4,h5⟩:=zS hc;exact ⟨h1,h8,h2,h3,h4,h5⟩
theorem D7.sub {x:bE} {ms l:List Mi} (h:D7 x ms) (hs:l.Sublist ms):D7 x l:=⟨h.ok,h.h8,cV hs.length_le h.k64,fun m hm=>h.mi m (hs.subset hm),fun m hm=>h.tx m (hs.subset hm),fun m hm=>h.wt m (hs.subset hm)⟩
section
variable {x:bE} {ms:List Mi}
theorem D7.mdv (h:D7 x ms) {m:Mi} (hm:m∈ms):bU (wR x m)<=2600:=by
 have h0:=lV h.ok (h.mi m hm);have h1:=nF (gI (h.tx m hm));have h2:=vM (kB m.txt) (aS x m).2;have h3:=eH (m.wt:Rat) (kB m.txt-(aS x m).2);have h4:=aJu (h.wt m hm);have h5:=h0.fr;unfold wR;omega
theorem D7.rgt (h:D7 x ms):∀ q∈lC (aA x).length x ms ms.length,bU q<=2600000000:=fun q hq=>by
 obtain ⟨t,ht⟩:=List.mem_iff_getElem?.1 hq;have QB:t<(aA x).length:=by have:=(dP.1 ht).1;rwa [eZ] at this
 have h0:∀ u,u<ms.length->bU (B5 x ms u*vf ((aR x ms).getD u []) t)<=3000:=fun u hu=>by
  obtain ⟨m2,sP⟩:∃ m2,ms[u]?=some m2:=⟨_,jA hu⟩;have h1:=h.mdv (cO sP);have h3:=MI (gT h.ok h.mi).2 u t;have h4:=eH (B5 x ms u) (vf ((aR x ms).getD u []) t);rw [AL sP] at h4 ⊢;omega
 have h5:=ER QB (k:=ms.length) h0;rw [iA ht] at h5;have:=h.k64;omega
theorem D7.ang (h:D7 x ms) {i:Nat} (hi:i<(aA x).length):bU (lW x ms i)<=41600000010:=by
 obtain ⟨a,ha⟩:∃ a,(mE (dS (aA x).length (aR x ms) ms))[i]?=some a:=eO (by rw [(rW lU).1,cL];exact hi);have h1:a.length=(aA x).length:=by
  have h:=(rW (M:=dS (aA x).length (aR x ms) ms) lU).2 a (cO ha);rwa [cL] at h
 have h2:=UL h.ok h.h8 h.mi h.wt h.k64 a (cO ha);have h4:=nG (ys:=lC (aA x).length x ms ms.length) h1 h2 h.rgt (aA x).length lR;rw [nW (by rw [List.length_zipWith];omega)] at h4;have h5:=fY h.ok h.h8;unfold lW;rw [eY,ha];show bU (jJ a _)<=_;unfold jJ;refine cV h4 ?_;exact Nat.succ_le_succ (cV (Nat.mul_le_mul_right _ h5) (by decide))
theorem D7.est (h:D7 x ms):∀ q∈bX x ms,bU q<=41600000010:=fun q hq=>by
 obtain ⟨j,hj⟩:=List.mem_iff_getElem?.1 hq;have sQ:j<aI x:=by have:=(dP.1 hj).1;rwa [YI] at this
 have e:=VJ (x:=x) (ms:=ms) sQ;rw [iA hj] at e;rw [e];unfold ext
 by_cases hp:iB (jH x) j=true
 ·rw [if_pos hp]
  exact h.ang (dP.1 (vS hp sQ)).1
 ·rw [if_neg hp]
  exact cV (dV 0 (by decide) (by decide)) (by decide)
theorem D7.res (h:D7 x ms):∀ q∈bD x ms (bX x ms),bU q<=700000000000:=fun q hq=>by
 unfold bD at hq;obtain ⟨m,hm,rfl⟩:=List.mem_map.1 hq;have h0:=lV h.ok (h.mi m hm);have h1:=nF (gI (h.tx m hm));have h2:=nG (ys:=bX x ms) (Z:=41600000010) h0.len (fun q hq=>cV (h0.cf q hq) (by decide)) h.est (aI x) lR;rw [nW (by rw [List.length_zipWith,h0.len];omega)] at h2;have h3:=kM (jJ (aS x m).1 (bX x ms)) (aS x m).2;have h4:=vM (kB m.txt) (jJ (aS x m).1 (bX x ms)+(aS x m).2);have h5:=h0.fr;have h6:aI x<=8:=cV (fR h.ok).2 h.h8;have h7:bU (jJ (aS x m).1 (bX x ms))<=665600000169:=by
  unfold jJ;refine cV h2 ?_;exact Nat.succ_le_succ (cV (Nat.mul_le_mul_right _ h6) (by decide))
 omega
theorem D7.spr (h:D7 x ms):∀ q∈eQ x ms,bU q<=400000000000:=fun q hq=>by
 obtain ⟨k,hk⟩:=List.mem_iff_getElem?.1 hq;have U5:k<ms.length:=by have:=(dP.1 hk).1;rwa [iG] at this
 obtain ⟨m,hm⟩:∃ m,ms[k]?=some m:=⟨_,jA U5⟩;rw [FO hm] at hk;injection hk with hk;rw [<-hk];have h1:=FP h.ok h.h8 h.mi h.wt h.k64 hm (aA x).length lR;have h2:=fY h.ok h.h8;omega
end
def WOk (rs ss:List Rat) (k:Nat):Prop:=vf rs k≠0/\vf ss k≠0
def OD (rs ss:List Rat) (k:Nat):Rat:=vf rs k*vf rs k / vf ss k
def gO (rs ss:List Rat) (n:Nat) (b:Int):Prop:=(b=-1/\∀ k,k<n->¬WOk rs ss k)\/∃ j:Nat,b=(j:Int)/\j<n/\WOk rs ss j/\(∀ i,i<n->WOk rs ss i->OD rs ss i<=OD rs ss j)/\∀ i,i<j->WOk rs ss i->OD rs ss i<OD rs ss j
section
variable {rs ss:List Rat} {n:Nat} {b:Int}
theorem gO.zero:gO rs ss 0 (-1):=.inl ⟨rfl,fun k hk=>absurd hk (by omega)⟩
theorem gO.skip (h:gO rs ss n b) (hn:¬WOk rs ss n):gO rs ss (n+1) b:=by
 rcases h with ⟨h1,h2⟩ | ⟨j,h1,h2,h3,h4,h5⟩
 ·exact .inl ⟨h1,fun k hk=>by
   by_cases e:k=n
   ·rw [e];exact hn
   ·exact h2 k (by omega)⟩
 ·exact .inr ⟨j,h1,by omega,h3,fun i hi hw=>by
   by_cases e:i=n
   ·rw [e] at hw;exact absurd hw hn
   ·exact h4 i (by omega) hw,h5⟩
theorem gO.first (h:gO rs ss n (-1)) (hn:WOk rs ss n):gO rs ss (n+1) (n:Int):=by
 rcases h with ⟨-,h2⟩ | ⟨j,h1,-⟩
 ·exact .inr ⟨n,rfl,by omega,hn,fun i hi hw=>by
   by_cases e:i=n
   ·rw [e];exact Rat.le_refl
   ·exact absurd hw (h2 i (by omega)),fun i hi hw=>absurd hw (h2 i (by omega))⟩
 ·omega
theorem gO.take {j:Nat} (h:gO rs ss n (j:Int)) (hn:WOk rs ss n) (hq:OD rs ss j<OD rs ss n):gO rs ss (n+1) (n:Int):=by
 rcases h with ⟨h1,-⟩ | ⟨j',h1,h2,h3,h4,h5⟩
 ·omega
 ·have e:j'=j:=by omega
  subst e;exact .inr ⟨n,rfl,by omega,hn,fun i hi hw=>by
   by_cases e:i=n
   ·rw [e];exact Rat.le_refl
   ·have:=h4 i (by omega) hw;grind,fun i hi hw=>by
   have:=h4 i (by omega) hw;grind⟩
theorem gO.stay {j:Nat} (h:gO rs ss n (j:Int)) (hq:¬OD rs ss j<OD rs ss n):gO rs ss (n+1) (j:Int):=by
 rcases h with ⟨h1,-⟩ | ⟨j',h1,h2,h3,h4,h5⟩
 ·omega
 ·have e:j'=j:=by omega
  subst e;exact .inr ⟨j',rfl,by omega,h3,fun i hi hw=>by
   by_cases e:i=n
   ·rw [e];grind
   ·exact h4 i (by omega) hw,h5⟩
theorem gO.one {c:Int} (h:gO rs ss n b) (g:gO rs ss n c):b=c:=by
 rcases h with ⟨h1,h2⟩ | ⟨j,h1,h2,h3,h4,h5⟩<;>rcases g with ⟨g1,g2⟩ | ⟨i,g1,g2,g3,g4,g5⟩
 ·omega
 ·exact absurd g3 (h2 i g2)
 ·exact absurd h3 (g2 j h2)
 ·rcases Nat.lt_trichotomy i j with e | e | e
  ·have:=h5 i e g3
   have:=g4 j h2 h3;grind
  ·omega
  ·have:=g5 j e h3
   have:=h4 i g2 g3;grind
theorem YR {p q:Rat}:0<RI p q<->q<p:=by
 unfold RI;rw [<-Rat.not_le];have h5:=Rat.le_iff p q;rw [h5]
 constructor
 ·intro h K5
  rcases Int.lt_trichotomy (p.num*(q.den:Int)-q.num*(p.den:Int)) 0 with c | c | c
  ·rw [Int.sign_eq_neg_one_of_neg c] at h;omega
  ·rw [c] at h;exact absurd h (by decide)
  ·omega
 ·intro h
  have c:0<p.num*(q.den:Int)-q.num*(p.den:Int):=by omega
  rw [Int.sign_eq_one_of_pos c];decide
theorem W4 {p:Rat}:(p.num.sign == 0)=decide (p=0):=by
 have h1:p.num.sign=0<->p=0:=by
  rw [Int.sign_eq_zero_iff_zero];exact Rat.num_eq_zero
 by_cases h:p=0
 ·rw [h1.2 h,decide_eq_true h];rfl
 ·rw [decide_eq_false h]
  exact beq_eq_false_iff_ne.2 (fun e=>h (h1.1 e))
end
end
section
open Go.ChangeShapes Go.WideShapes Go.ChangeAt Go.RowKit
attribute [local go_sem ↓] aE
attribute [local go_sem] aK aH aM aY
theorem FN (x:bE) (ok:cN x) (h8:x.nodes.length<=8) (ms:List Mi) (jS:∀ m∈ms,nV x m) (tQ:∀ m∈ms,1<=m.wt/\m.wt<=1000) (hl:ms.length<=64) (fv:Value) (B0:Nat) (A:OA) (c:Nat) (w:Wo) (hf:sD x ms B0 w fv) (hm:eG w w.heap.size A ms.length ms) :
    Calls Tryz.prog 85 #[fv,.slice A ms.length c] w fun e w'=>Below w.heap.size w w'/\∃ v us,e=.returned v/\fH w' w.heap.size v us (eQ x ms):=by
 obtain ⟨g,m,y,A1,c1,gi,ga,B1,d1,rfl,K_,AB,uP,M3,M1,MZ,K9⟩:=hf;have hz:Below w.heap.size w (w.alloc (.cells #[.pointer (some ⟨g,0,none⟩),.slice A1 ms.length c1,.slice (some ⟨gi,0,none⟩) (aA x).length (aA x).length,.slice (some ⟨ga,0,none⟩) (aI x) (aI x),.slice B1 ms.length d1] 95)):=bA;have HBZ:=lH hz;have mA:=lH (aG.new w 95 #[.pointer (some ⟨g,0,none⟩),.slice A1 ms.length c1,.slice (some ⟨gi,0,none⟩) (aA x).length (aA x).length,.slice (some ⟨ga,0,none⟩) (aI x) (aI x),.slice B1 ms.length d1]);have D_:=lH (M3.bm hz);have HIM:=lH (M1.bm hz);have HM:=lH (hm.bm hz);have cH:=lH ok;have q_:=lH jS;have RW:=lH tQ;have tX:=lH (fY ok h8);clear K_ AB uP M3 M1 MZ K9 hz hm ok jS tQ;go_enter Tryz.func85,Tryz.ntmps85
 go_upto_region 1 with fail
 generalize w.alloc (.cells #[.pointer (some ⟨g,0,none⟩),.slice A1 ms.length c1,.slice (some ⟨gi,0,none⟩) (aA x).length (aA x).length,.slice (some ⟨ga,0,none⟩) (aI x) (aI x),.slice B1 ms.length d1] 95)=wz at *;generalize EZ:w.heap.size=gf at *;have eP:=lH EZ;clear EZ;have f1:=mA.o.cell 1;have fl:=mA.o.lt
 go_wp2_with fail
 clear f1 fl
 go_loopw [5,13] (fun v5 v13 wr=>∃ (k:Nat) (us:List Rv),k<=ms.length/\v13=.int .i64 k/\fH wr wz.heap.size v5 us ((eQ x ms).take k)/\Below wz.heap.size wz wr) (fun _ v13 _=>ms.length-(intOf v13).toNat)
 case atStart=>exact ⟨0,[],by omega,rfl,oQ _ _,bR⟩
 case round=>
  obtain ⟨k,us,hk,rfl,ho,hb⟩:=hrel;have HO:=lH ho;have HB:=lH hb;clear ho hb
  by_cases aW:k<ms.length
  ·obtain ⟨mi,tK⟩:∃ mi,ms[k]?=some mi:=⟨_,jA aW⟩
   have HMK:=lH tK;have OJ:Hid ((eQ x ms).take (k+1)=(eQ x ms).take k++[wP x ms k mi (aA x).length]):=lH (kJ (FO tK));have rX:k<(aR x ms).length:=by rw [lI];exact aW
   obtain ⟨row,iH⟩:∃ row,(aR x ms)[k]?=some row:=⟨_,jA rX⟩;have IJ:=lH iH;have UY:=(D_.o.below HB.o lR).more HB.o.size;obtain ⟨pb,po,aMt,hpb⟩:=UY.form (by omega);subst aMt;obtain ⟨⟨qa,qn,qc⟩,q0,q1,q2,q3⟩:=UY.at_ iH;dsimp only at q0 q1 q2 q3;have aAu:row.length=(aA x).length:=(gT cH.o q_.o).1 row (cO iH);have hqn:(aA x).length=qn:=by rw [<-q1.len];exact aAu.symm
   subst hqn;have yK:=lH q1;have pS:=(HM.o.below HB.o lR).more HB.o.size;obtain ⟨ab,ao,hA,oS,-⟩:=pS.2.2 (by omega);subst hA;obtain ⟨a0,a1,a2,a3⟩:=pS.at_ tK;have hw3:=RW.o mi (cO tK);have fT:(k:Int)<(ms.length:Int):=by omega
   have kF:=lZ k
   have qW:=kU k;have l_:=lN k;have jW:Hid (ms.length-(k+1)<ms.length-k):=lH (by omega);clear UY pS iH tK q1 q2 q3 rX aAu
   go_wp2_with fail
   refine (YC 1 mi.wt wr (by decide) (by decide) (by omega) (by omega) (by omega)).mono ?_;rintro e w1 ⟨bH,r0,rfl,h0⟩;clear a0 a1 a2 a3 q0 hpb oS;have kK:Below w1.heap.size w1 (w1.alloc (.cells #[.bool r0.b1,.slice r0.A r0.n r0.c,.bool r0.b2,.slice r0.A2 r0.m r0.d] 115)):=bA;have AT:=lH (aG.new w1 115 #[.bool r0.b1,.slice r0.A r0.n r0.c,.bool r0.b2,.slice r0.A2 r0.m r0.d]);have CS:=lH (h0.up kK);have HBB:=lH (bH.tm kK);have HGV:Hid (wr.heap.size<=w1.heap.size):=lH bH.size;clear kK bH h0
   go_upto_region 6 with fail
   generalize w1.alloc (.cells #[.bool r0.b1,.slice r0.A r0.n r0.c,.bool r0.b2,.slice r0.A2 r0.m r0.d] 115)=wb at *;generalize w1.heap.size=gs at *;obtain ⟨wl,hwl⟩:∃ wl,wl=wr:=⟨_,rfl⟩;subst hwl
   go_wp2_with fail
   go_loopw [26] (fun v26 wr=>∃ (i:Nat) (r:Rv),i<=(aA x).length/\v26=.int .i64 i/\aG wr gs 115 #[.bool r.b1,.slice r.A r.n r.c,.bool r.b2,.slice r.A2 r.m r.d]/\dL wr wr.heap.size (wP x ms k mi i) r/\Below wl.heap.size wl wr) (fun v26 _=>(aA x).length-(intOf v26).toNat)
   case atStart=>exact ⟨0,r0,by omega,rfl,AT.o,CS.o,HBB.o⟩
   case round=>
    clear AT CS HBB;obtain ⟨i,r,hi,rfl,GQ,hrx,hb⟩:=hrel;have cU:=lH GQ;have HRX:=lH hrx;have bW:=lH hb;clear GQ hrx hb
    by_cases lG:i<(aA x).length
    ·have QI:(i:Int)<((aA x).length:Int):=by omega
     have kC:=lZ i
     have aMf:=kU i;have WC:=lN i;have WD:Hid ((aA x).length-(i+1)<(aA x).length-i):=lH (by omega)
     go_upto_region 9 with fail
     have dR:=lH (HB.o.tm bW.o);have SA:=lH (mA.o.bl dR.o);have f2:=SA.o.cell 2;have fl:=SA.o.lt;have hqi:=(HIM.o.below dR.o lR).more dR.o.size;obtain ⟨irow,yD⟩:∃ irow,(mE (dS (aA x).length (aR x ms) ms))[i]?=some irow:=eO (by rw [hqi.len];exact lG);obtain ⟨⟨ia,inn,ic⟩,i0,i1,i2,i3⟩:=hqi.at_ yD;dsimp only at i0 i1 i2 i3;rw [Nat.zero_add] at i0;have hgi:gi<wr.heap.size:=World.block_lt_of_cell? wr ⟨gi,i,none⟩ i0;have hdq:=Q1 cH.o h8 q_.o RW.o hl yD (cO IJ.o);have rX:irow.length=(aA x).length:=hdq.1;have aMi:(aA x).length=inn:=by rw [<-i1.len];exact rX.symm
     subst aMi;have HIR:=lH i1;have HIQ:=lH (UL cH.o h8 q_.o RW.o hl irow (cO yD));have HRQ:Hid (∀ q∈row,bU q<=2600000000):=lH fun q hq=>cV ((gT cH.o q_.o).2 row (cO IJ.o) q hq) (by decide);have tV:=lH (yK.o.bm bW.o);have aAu:row.length=(aA x).length:=(gT cH.o q_.o).1 row (cO IJ.o);obtain ⟨rb,ro,hqa,zW⟩:=tV.o.form (by omega);subst hqa;obtain ⟨xe,e0,e1,e2,e3,e4⟩:=tV.o.at_ (bI (i:=i) (by rw [aAu];exact lG));have SR:=lH e4;have z0:=cU.o.cell 0;have z1:=cU.o.cell 1;have z2:=cU.o.cell 2;have z3:=cU.o.cell 3;have zl:=cU.o.lt;have HDQ:=lH hdq.2;have HVQ:Hid (bU (vf row i)<=300):=lH ((gT cH.o q_.o).2 row (cO IJ.o) _ (cO (bI (i:=i) (by rw [aAu];exact lG))));have HSQ:Hid (bU (wP x ms k mi i)<=400000000000):=lH (by
      have h1:=FP cH.o h8 q_.o RW.o hl HMK.o i hi;have h2:=tX.o;omega)
     have HSE:Hid (wP x ms k mi (i+1)=wP x ms k mi i-vf row i*jJ irow row):=lH (by
      have a1:(aR x ms).getD k []=row:=by rw [eY,IJ.o];rfl
      have a2:(mE (dS (aA x).length (aR x ms) ms)).getD i []=irow:=by rw [eY,yD];rfl
      unfold wP;rw [a1];show yY _ _ _ i-vf row i*jJ ((mE (dS (aA x).length (aR x ms) ms)).getD i []) row=_;rw [a2])
     have bK:=lH (aD (Below.refl wr.heap.size wr));have hn8:(aA x).length<=8:=tX.o;clear hqi yD i1 i2 i3 hdq rX aAu e4;refine aJ (S:=fun w'=>Below wr.heap.size wr w') 14 _ (by kernel_rfl) (by kernel_rfl) rfl (aD bR) (fun hHeld=>?_);simp only [lA,List.take_zero];refine aL 0 rfl ?_;refine aL 1 rfl ?_;refine aL 2 rfl ?_;refine aL 3 rfl ?_;refine aL 4 rfl ?_;refine aL 5 rfl ?_;refine aL 6 rfl ?_;refine aL 7 rfl ?_;refine aL 8 rfl ?_;refine aL 9 rfl ?_;refine aL 10 rfl ?_;refine aU 11 (by kernel_rfl) rfl (fun K hK=>?_);go_simp;refine (E3 ia (aA x).length ic (some ⟨rb,ro,none⟩) (aA x).length qc irow row 2600000000 _ (HIR.o.up bK.o) (tV.o.up bK.o) lR (by omega) HIQ.o HRQ.o (by omega)).mono ?_;rintro e w8 ⟨e_,v8,rfl,h8'⟩;have dF:Hid (Below wr.heap.size wr w8):=lH (bK.o.tm e_)
     have H8:=lH h8';clear e_ h8';go_simp;refine hK.out _ _ ?_ (fun hHeld=>?_)
     ·exact dF.o
     clear hK K
     try simp only [Act.put,bP,bO,bN]
     refine aU 12 (by kernel_rfl) rfl (fun K hK=>?_);go_simp;refine (MR (SR.o.up dF.o) H8.o (by have:=HVQ.o;have:=HDQ.o;omega)).mono ?_;rintro e w9 ⟨gE,v9,rfl,h9⟩;have cQ:Hid (Below wr.heap.size wr w9):=lH (dF.o.tm gE);have H9:=lH h9;clear gE h9;go_simp;refine hK.out _ _ ?_ (fun hHeld=>?_)
     ·exact cQ.o
     clear hK K
     try simp only [Act.put,bP,bO,bN]
     refine aU 13 (by kernel_rfl) rfl (fun K hK=>?_);go_simp;refine (TD (HRX.o.up cQ.o) H9.o (by have:=HVQ.o;have:=HDQ.o;have:=HSQ.o;have:=eH (vf row i) (jJ irow row);omega)).mono ?_;rintro e wq ⟨hbq,vq,rfl,hq⟩;have WN:Hid (Below wr.heap.size wr wq):=lH (cQ.o.tm hbq);have aWE:Hid (dL wq wq.heap.size (wP x ms k mi (i+1)) vq):=lH (by rw [HSE.o];exact hq);clear hbq hq;go_simp;refine hK.out _ _ ?_ (fun hHeld=>?_)
     ·exact WN.o
     clear hK K
     try simp only [Act.put,bP,bO,bN]
     refine wpAnyH_done (by kernel_rfl) ?_ _;refine aP (by rfl) ?_;clear hHeld;have J3:=lH (cU.o.bl WN.o);have aXX:=lH (bW.o.tm WN.o);clear f2 fl i0 hgi e0 e1 e2 e3 z0 z1 z2 z3 zl zW SR bK dF H8 cQ H9 cU HRX bW dR SA HIR tV;have z0:=J3.o.cell 0;have z1:=J3.o.cell 1;have z2:=J3.o.cell 2;have z3:=J3.o.cell 3;have zl:=J3.o.lt;have zf:=J3.o.frozen
     go_wp2_with fail
     go_roundw
     case rel=>exact ⟨i+1,vq,lG,aQ WC.o,TP J3.o,aWE.o.keepq J3.o,dM aXX.o HGV.o⟩
     case measure=>exact WD.o
    ·have SQ:i=(aA x).length:=by omega
     have QI:¬(i:Int)<((aA x).length:Int):=by omega
     have HSK:Hid (dL wr wr.heap.size (wP x ms k mi (aA x).length) r):=lH (by rw [<-SQ];exact HRX.o);have HO2:=lH (HO.o.keep bW.o);have dR:=lH (HB.o.tm bW.o);have z0:=cU.o.cell 0;have z1:=cU.o.cell 1;have z2:=cU.o.cell 2;have z3:=cU.o.cell 3;have zl:=cU.o.lt;have JX:Hid (((eQ x ms).take k).length<=1000000000000):=lH (by rw [jP];omega);have aWO:Hid (wz.heap.size<=wr.heap.size):=lH dR.o.size
     go_wp2_with (at_builtin;refine t_ rfl (.tmp 44) (.tmp 46) _ rfl wz.heap.size Tryz.underlying93 _ us _ rfl HO2.o r (wP x ms k mi (aA x).length) HSK.o rfl JX.o aWO.o ?_)
     intro v' w9 bF K6 hob;have DL:=lH bF;have cQ:=lH (dR.o.trans hob);clear bF K6 hob z0 z1 z2 z3 zl
     go_wp2_with fail
     go_roundw
     case rel=>exact ⟨k+1,us++[r],aW,aQ l_.o,by rw [OJ.o];exact DL.o,cQ.o⟩
     case measure=>exact jW.o
  ·have lS:k=ms.length:=by omega
   subst lS;have fT:¬((ms.length:Nat):Int)<(ms.length:Int):=by omega
   have hoe:fH wr wz.heap.size u5 us (eQ x ms):=by
    have h:=HO.o;rw [nW (by rw [iG];exact lR)] at h;exact h
   have Y2:=lH hoe;clear hoe
   go_wp2_with fail
   go_ret;exact ⟨by rw [eP.o];exact HBZ.o.trans (HB.o.mono (rC mA.o.lt)),_,rfl,us,⟨bJ.mono Y2.o.own (by rw [eP.o];exact rC mA.o.lt),Y2.o.len,Y2.o.ok⟩⟩
theorem J5 (x:bE) (ms:List Mi) (hk:D7 x ms) (fv:Value) (B0:Nat) (A:OA) (c:Nat) (w:Wo) (hf:sD x ms B0 w fv) (hm:eG w w.heap.size A ms.length ms) :
    Calls Tryz.prog 74 #[fv,.slice A ms.length c] w fun e w'=>Below w.heap.size w w'/\∃ b:Int,e=.returned (.int .i64 b)/\gO (bD x ms (bX x ms)) (eQ x ms) ms.length b:=by
 have K8:=hf;obtain ⟨g,m,y,A1,c1,gi,ga,B1,d1,rfl,K_,AB,uP,M3,M1,MZ,K9⟩:=hf;have hz:Below w.heap.size w (w.alloc (.cells #[.pointer (some ⟨g,0,none⟩),.slice A1 ms.length c1,.slice (some ⟨gi,0,none⟩) (aA x).length (aA x).length,.slice (some ⟨ga,0,none⟩) (aI x) (aI x),.slice B1 ms.length d1] 95)):=bA;have HBZ:=lH hz;have mA:=lH (aG.new w 95 #[.pointer (some ⟨g,0,none⟩),.slice A1 ms.length c1,.slice (some ⟨gi,0,none⟩) (aA x).length (aA x).length,.slice (some ⟨ga,0,none⟩) (aI x) (aI x),.slice B1 ms.length d1]);have N1:=lH (K8.up hz);have HQ:=lH (K9.bm hz);have HM:=lH (hm.bm hz);have HK:=lH hk;have HL:Hid (ms.length<=64):=lH hk.k64;clear K_ AB uP M3 M1 MZ K9 hz hm hk K8;go_enter Tryz.func74,Tryz.ntmps74
 go_upto_region 1 with fail
 generalize w.alloc (.cells #[.pointer (some ⟨g,0,none⟩),.slice A1 ms.length c1,.slice (some ⟨gi,0,none⟩) (aA x).length (aA x).length,.slice (some ⟨ga,0,none⟩) (aI x) (aI x),.slice B1 ms.length d1] 95)=wz at *;generalize EZ:w.heap.size=gf at *;have eP:=lH EZ;clear EZ;have f0:=mA.o.cell 0;have f1:=mA.o.cell 1;have f2:=mA.o.cell 2;have f3:=mA.o.cell 3;have f4:=mA.o.cell 4;have fl:=mA.o.lt
 go_wp2_with fail
 refine (FN x HK.o.ok HK.o.h8 ms HK.o.mi HK.o.wt HK.o.k64 _ B0 A c wz N1.o HM.o).mono ?_;rintro e w1 ⟨bH,v,us,rfl,ho⟩;obtain ⟨As,cs,rfl,jY,-,-,-⟩:=ho.rd;rw [iG] at jY;rw [iG];have HS:=lH jY;have bS:=lH bH;clear f0 f1 f2 f3 f4 fl ho jY bH N1 HM;replace HQ:=lH (HQ.o.bm bS.o)
 go_wp2_with fail
 refine (nT 0 w1 (by decide) (by decide)).mono ?_;rintro e w2 ⟨bL,r0,rfl,h0⟩;have kK:Below w2.heap.size w2 (w2.alloc (.cells #[.bool r0.b1,.slice r0.A r0.n r0.c,.bool r0.b2,.slice r0.A2 r0.m r0.d] 115)):=bA;have AT:=lH (aG.new w2 115 #[.bool r0.b1,.slice r0.A r0.n r0.c,.bool r0.b2,.slice r0.A2 r0.m r0.d]);have HBB:=lH (bL.tm kK);have HGV:Hid (w1.heap.size<=w2.heap.size):=lH bL.size;clear kK bL h0;have SA:=lH (mA.o.below (bS.o.tm HBB.o) mA.o.lt)
 go_upto_region 4 with fail
 generalize w2.alloc (.cells #[.bool r0.b1,.slice r0.A r0.n r0.c,.bool r0.b2,.slice r0.A2 r0.m r0.d] 115)=wb at *;generalize w2.heap.size=g7 at *;have f4:=SA.o.cell 4;have fl:=SA.o.lt
 go_wp2_with fail
 clear f4 fl
 go_loopw [6,18] (fun v6 v18 wr=>∃ (k:Nat) (b:Int) (r:Rv),k<=ms.length/\v18=.int .i64 k/\v6=.int .i64 b/\gO (bD x ms (bX x ms)) (eQ x ms) k b/\aG wr g7 115 #[.bool r.b1,.slice r.A r.n r.c,.bool r.b2,.slice r.A2 r.m r.d]/\(∀ j:Nat,b=(j:Int)->dL wr wr.heap.size (OD (bD x ms (bX x ms)) (eQ x ms) j) r)/\Below w1.heap.size w1 wr) (fun _ v18 _=>ms.length-(intOf v18).toNat)
 case atStart=>exact ⟨0,-1,r0,by omega,rfl,rfl,gO.zero,AT.o,fun j h=>absurd h (by omega),HBB.o⟩
 case round=>
  clear AT HBB SA;obtain ⟨k,b,r,hk,rfl,rfl,SL,GQ,hrx,hb⟩:=hrel;have yR:=lH SL;have cU:=lH GQ;have HRX:=lH hrx;have HB:=lH hb;clear SL GQ hrx hb
  by_cases aW:k<ms.length
  ·have fT:(k:Int)<(ms.length:Int):=by omega
   have kF:=lZ k
   have qW:=kU k;have aUZ:=HL.o;have l_:=lN k;have jW:Hid (ms.length-(k+1)<ms.length-k):=lH (by omega);have mV:=(HQ.o.below HB.o lR).more HB.o.size;obtain ⟨rb,ro,hqa,zW⟩:=mV.form (by omega);subst hqa;obtain ⟨xe,e0,e1,e2,e3,e4⟩:=mV.at_ (bI (i:=k) (by rw [iD];exact aW));have SR:=lH e4;generalize hpe:vf (bD x ms (bX x ms)) k=p at *;have HPE:=lH hpe;clear mV e4 hpe
   go_upto_region 7 with fail
   have kK:Below wr.heap.size wr (wr.alloc (.cells #[.bool xe.b1,.slice xe.A xe.n xe.c,.bool xe.b2,.slice xe.A2 xe.m xe.d] 115)):=bA;have HBY:=lH (aG.new wr 115 #[.bool xe.b1,.slice xe.A xe.n xe.c,.bool xe.b2,.slice xe.A2 xe.m xe.d]);have aSD:=lH (cU.o.bl kK);have HBa:=lH (HB.o.tm kK);have aMM:=lH (SR.o.up kK);have aRz:=lH fun j h=>(HRX.o j h).up kK;clear kK e0 e1 e2 e3 zW cU HB SR HRX;generalize wr.alloc (.cells #[.bool xe.b1,.slice xe.A xe.n xe.c,.bool xe.b2,.slice xe.A2 xe.m xe.d] 115)=wa at *;generalize wr.heap.size=g9 at *;have y0:=HBY.o.cell 0;have y1:=HBY.o.cell 1;have y2:=HBY.o.cell 2;have y3:=HBY.o.cell 3;have yl:=HBY.o.lt
   go_wp2_with fail
   refine (tF aMM.o).mono ?_;rintro e w3 ⟨rfl,cR⟩;have aSC:=lH (HBY.o.bl cR);have aNF:=lH (aSD.o.bl cR);have N7:=lH (HBa.o.tm cR);have aQ5:=lH (aMM.o.up cR);have aM4:=lH fun j h=>(aRz.o j h).up cR;clear cR y0 y1 y2 y3 yl HBY aSD HBa aMM aRz
   by_cases hp:p=0
   ·have hsg:(p.num.sign == 0)=true:=by rw [W4,decide_eq_true hp]
    have HWS:=lH (yR.o.skip (fun h=>h.1 (by rw [HPE.o];exact hp)));generalize p.num.sign=sg at *
    go_wp2_with fail
    go_roundw
    case rel=>exact ⟨k+1,b,r,aW,aQ l_.o,rfl,HWS.o,aNF.o,aM4.o,N7.o⟩
    case measure=>exact jW.o
   ·have hsg:(p.num.sign == 0)=false:=by rw [W4,decide_eq_false hp]
    have HP0:=lH hp;generalize p.num.sign=sg at *;clear hp;have yB:=(HS.o.below N7.o lR).more N7.o.size;obtain ⟨sb,so,hqa,mU⟩:=yB.form (by omega);subst hqa;obtain ⟨se,e0,e1,e2,e3,e4⟩:=yB.at_ (bI (i:=k) (by rw [iG];exact aW));have HSE:=lH e4;have HQK:Hid (vf (eQ x ms) k∈eQ x ms):=lH (cO (bI (i:=k) (by rw [iG];exact aW)));generalize hqe:vf (eQ x ms) k=q at *;have HQE:=lH hqe;clear yB e4 hqe
    go_wp2_with fail
    refine (tF HSE.o).mono ?_;rintro e w4 ⟨rfl,dU⟩;have aBz:=lH (aSC.o.bl dU);have aNE:=lH (aNF.o.bl dU);have HBc:=lH (N7.o.tm dU);have aML:=lH (aQ5.o.up dU);have aM3:=lH fun j h=>(aM4.o j h).up dU;have aWS:=lH (HSE.o.up dU);clear e0 e1 e2 e3 dU aSC aNF N7 aQ5 aM4 HSE mU
    by_cases hq:q=0
    ·have aPj:(q.num.sign == 0)=true:=by rw [W4,decide_eq_true hq]
     have HWS:=lH (yR.o.skip (fun h=>h.2 (by rw [HQE.o];exact hq)));generalize q.num.sign=sg2 at *
     go_wp2_with fail
     go_roundw
     case rel=>exact ⟨k+1,b,r,aW,aQ l_.o,rfl,HWS.o,aNE.o,aM3.o,HBc.o⟩
     case measure=>exact jW.o
    ·have aPj:(q.num.sign == 0)=false:=by rw [W4,decide_eq_false hq]
     have HQ0:=lH hq;have HWK:Hid (WOk (bD x ms (bX x ms)) (eQ x ms) k):=lH ⟨by rw [HPE.o];exact HP0.o,by rw [HQE.o];exact hq⟩;generalize q.num.sign=sg2 at *;clear hq;have HPZ:Hid (bU p<=700000000000):=lH (by
      rw [<-HPE.o];exact HK.o.res _ (cO (bI (i:=k) (by rw [iD];exact aW))))
     have WA:=lH (HK.o.spr q HQK.o);have HWQ:Hid (OD (bD x ms (bX x ms)) (eQ x ms) k=p*p / q):=lH (by unfold OD;rw [HPE.o,HQE.o]);have y0:=aBz.o.cell 0;have y1:=aBz.o.cell 1;have y2:=aBz.o.cell 2;have y3:=aBz.o.cell 3;have yl:=aBz.o.lt
     go_upto_region 8 with fail
     have yB:=(HS.o.below HBc.o lR).more HBc.o.size;obtain ⟨se2,e0,e1,e2,e3,e4⟩:=yB.at_ (bI (i:=k) (by rw [iG];exact aW));rw [HQE.o] at e4;have aRy:=lH e4;have mU:sb<w4.heap.size:=World.block_lt_of_cell? w4 _ e0;have bK:=lH (aD (Below.refl w4.heap.size w4));clear yB e4;refine aJ (S:=fun w'=>Below w4.heap.size w4 w') 9 _ (by kernel_rfl) (by kernel_rfl) rfl (aD bR) (fun hHeld=>?_);simp only [lA,List.take_zero];refine aL 0 rfl ?_;refine aL 1 rfl ?_;refine aL 3 rfl ?_;refine aL 4 rfl ?_;refine aL 5 rfl ?_;refine aL 6 rfl ?_
     refine aCW (C:=fun s w'=>Below w4.heap.size w4 w') (G:=fun w' w''=>Below w'.heap.size w' w'') [(2,VX (p*p)),(7,VX (p*p / q)),(8,IG w4.heap.size 115 #[.bool false,.slice none 0 0,.bool false,.slice none 0 0])] rfl (by kernel_rfl) (List.forall_mem_cons.2 ⟨fun _ _ _ h g=>h.up g,List.forall_mem_cons.2 ⟨fun _ _ _ h g=>h.up g,List.forall_mem_cons.2 ⟨fun _ _ _ h g=>h.up g,List.forall_mem_nil _⟩⟩⟩) (fun _ _ h=>h) hHeld ?_;refine d_ (i:=2) rfl (fun s w3 hC hn hK=>?_) (fun v2=>?_)
     ·unfold gJ;go_simp;simp only [eK]
      refine (MR (aML.o.up hC) (aML.o.up hC) (by have:=HPZ.o;omega)).mono ?_;rintro e w6 ⟨fQ,r6,rfl,xK⟩;exact ⟨_,rfl,⟨r6,rfl,xK⟩,hC.tm fQ,fQ⟩
     try simp only [Act.put,bP,bO,bN]
     refine d_ (i:=7) rfl (fun s w3 hC hn hK=>?_) (fun v7=>?_)
     ·have k2:s 2=some v2/\VX (p*p) v2 w3:=hK 2 (by kernel_rfl)
      obtain ⟨-,r2',rfl,h2⟩:=k2;unfold gJ;go_simp;simp only [eK];refine (aQH h2 (aRy.o.up hC) HQ0.o (by have:=HPZ.o;have:=WA.o;have:=eH p p;omega)).mono ?_;rintro e w6 ⟨fQ,r6,rfl,xK⟩;exact ⟨_,rfl,⟨r6,rfl,xK⟩,hC.tm fQ,fQ⟩
     try simp only [Act.put,bP,bO,bN]
     refine d_ (i:=8) rfl (fun s w3 hC hn hK=>?_) (fun v8=>?_)
     ·unfold gJ;go_simp;simp only [eK]
      exact ⟨⟨_,rfl,hC.size,aG.new _ _ _⟩,hC.alloc hC.size _,bA⟩
     try simp only [Act.put,bP,bO,bN]
     refine BQ (fun s wc hC hK=>?_);have k7:s 7=some v7/\VX (p*p / q) v7 wc:=hK 7;have k8:s 8=some v8/\IG w4.heap.size 115 #[.bool false,.slice none 0 0,.bool false,.slice none 0 0] v8 wc:=hK 8;obtain ⟨-,r7,rfl,h7⟩:=k7;obtain ⟨-,gv,rfl,hgv,QN⟩:=k8;have HBC:=lH hC;have NV:=lH h7;have J1:=lH hgv;have fZ:=lH QN;clear hC hK h7 hgv QN hHeld;have z0:=fZ.o.cell 0;have z1:=fZ.o.cell 1;have z2:=fZ.o.cell 2;have z3:=fZ.o.cell 3;have zl:=fZ.o.lt;have zf:=fZ.o.frozen;refine aP (by rfl) ?_
     go_upto_region 9 with fail
     clear z0 z1 z2 z3 zl zf e0 e1 e2 e3 y0 y1 y2 y3 yl mU;have IU:=lH (TP (v:=r7) (x:=EQ) fZ.o);have IW:=lH (dM (v:=r7) HBC.o J1.o);have JT:=lH (NV.o.keepq (v:=r7) (x:=EQ) fZ.o);unfold DU at IW JT;generalize (((wc.setCell ⟨gv,0,none⟩ _).setCell ⟨gv,1,none⟩ _).setCell ⟨gv,2,none⟩ _).setCell ⟨gv,3,none⟩ _=wd at *;have J4:=lH (aNE.o.bl IW.o);have HBd:=lH (HBc.o.tm IW.o);have aM2:=lH fun j h=>(aM3.o j h).up IW.o;clear HBC NV fZ bK aNE HBc aM3 aML aWS aRy aBz;have x0:=J4.o.cell 0;have x1:=J4.o.cell 1;have x2:=J4.o.cell 2;have x3:=J4.o.cell 3;have xl:=J4.o.lt;have z0:=IU.o.cell 0;have z1:=IU.o.cell 1;have z2:=IU.o.cell 2;have z3:=IU.o.cell 3;have zl:=IU.o.lt;have xf:=J4.o.frozen
     by_cases hb:b<0
     ·have CG:decide (b<0)=true:=decide_eq_true hb
      have HWS:Hid (gO (bD x ms (bX x ms)) (eQ x ms) (k+1) (k:Int)):=lH (by
       have h:=yR.o;have e:b=-1:=by
        rcases h with ⟨h1,-⟩ | ⟨j,h1,-⟩<;>omega
       rw [e] at h;exact h.first HWK.o)
      go_wp2_with fail
      refine aJ (S:=fun w'=>Below wd.heap.size wd w') 3 _ (by kernel_rfl) (by kernel_rfl) rfl (aD bR) (fun hHeld=>?_);simp only [lA,List.take_zero];refine aL 0 rfl ?_;refine aL 1 rfl ?_;refine aL 2 rfl ?_;refine wpAnyH_done (by kernel_rfl) ?_ _;refine aP (by rfl) ?_;have I3:=aD (Below.refl wd.heap.size wd);have vH:=lH (J4.o.bl I3);have HBf:=lH (HBd.o.tm I3);have aM1:=lH (JT.o.up I3);clear I3 x0 x1 x2 x3 xl xf z0 z1 z2 z3 zl J4 IU HBd JT hHeld;generalize wd.drew=wf at *;have x0:=vH.o.cell 0;have x1:=vH.o.cell 1;have x2:=vH.o.cell 2;have x3:=vH.o.cell 3;have xl:=vH.o.lt;have xf:=vH.o.frozen
      go_wp2_with fail
      go_roundw
      case rel=>exact ⟨k+1,k,r7,aW,aQ l_.o,rfl,HWS.o,TP vH.o,fun j hj=>by
       have e:j=k:=by omega
       subst e;rw [HWQ.o];exact aM1.o.keepq vH.o,dM HBf.o HGV.o⟩
      case measure=>exact jW.o
     ·have CG:decide (b<0)=false:=decide_eq_false hb
      obtain ⟨j,hj⟩:∃ j:Nat,b=(j:Int):=⟨b.toNat,by omega⟩;subst hj;have HJK:=lH (aM2.o j rfl);have HJQ:Hid (bU (OD (bD x ms (bX x ms)) (eQ x ms) j)<=1800000000000):=lH (by
       have sQ:j<ms.length:=by
        rcases yR.o with ⟨h1,-⟩ | ⟨i,h1,h2,-⟩<;>omega
       have h1:=HK.o.res _ (cO (bI (i:=j) (by rw [iD];exact sQ)));have h2:=HK.o.spr _ (cO (bI (i:=j) (by rw [iG];exact sQ)));unfold OD;have h3:=eH (vf (bD x ms (bX x ms)) j) (vf (bD x ms (bX x ms)) j);have h4:=E4 (vf (bD x ms (bX x ms)) j*vf (bD x ms (bX x ms)) j) (vf (eQ x ms) j);omega)
      have HKQ:Hid (bU (p*p / q)<=1800000000000):=lH (by
       have h1:=HPZ.o;have h2:=WA.o;have h3:=eH p p;have h4:=E4 (p*p) q;omega)
      go_wp2_with fail
      refine (aWi JT.o HJK.o (by have:=HJQ.o;have:=HKQ.o;omega)).mono ?_;rintro e w9 ⟨rfl,gE⟩;have N8:=lH (J4.o.bl gE);have aBA:=lH (IU.o.bl gE);have HBe:=lH (HBd.o.tm gE);have aWY:=lH fun j h=>(aM2.o j h).up gE;have aRA:=lH (JT.o.up gE);clear gE x0 x1 x2 x3 xl xf z0 z1 z2 z3 zl J4 HBd aM2 IU JT HJK HJQ HKQ;have x0:=N8.o.cell 0;have x1:=N8.o.cell 1;have x2:=N8.o.cell 2;have x3:=N8.o.cell 3;have xl:=N8.o.lt;have xf:=N8.o.frozen;have z0:=aBA.o.cell 0;have z1:=aBA.o.cell 1;have z2:=aBA.o.cell 2;have z3:=aBA.o.cell 3;have zl:=aBA.o.lt
      by_cases hcq:0<RI (p*p / q) (OD (bD x ms (bX x ms)) (eQ x ms) j)
      ·have HWS:Hid (gO (bD x ms (bX x ms)) (eQ x ms) (k+1) (k:Int)):=lH (yR.o.take HWK.o (by rw [HWQ.o];exact YR.1 hcq))
       generalize RI (p*p / q) (OD (bD x ms (bX x ms)) (eQ x ms) j)=cq at *;have hcd:decide (0<cq)=true:=decide_eq_true hcq;have aVF:decide (cq>0)=true:=decide_eq_true hcq
       go_wp2_with fail
       refine aJ (S:=fun w'=>Below w9.heap.size w9 w') 3 _ (by kernel_rfl) (by kernel_rfl) rfl (aD bR) (fun hHeld=>?_);simp only [lA,List.take_zero];refine aL 0 rfl ?_;refine aL 1 rfl ?_;refine aL 2 rfl ?_;refine wpAnyH_done (by kernel_rfl) ?_ _;refine aP (by rfl) ?_;have I3:=aD (Below.refl w9.heap.size w9);have vH:=lH (N8.o.bl I3);have HBf:=lH (HBe.o.tm I3);have aM1:=lH (aRA.o.up I3);clear I3 x0 x1 x2 x3 xl xf z0 z1 z2 z3 zl N8 aBA HBe aRA hHeld;generalize w9.drew=wf at *;have x0:=vH.o.cell 0;have x1:=vH.o.cell 1;have x2:=vH.o.cell 2;have x3:=vH.o.cell 3;have xl:=vH.o.lt;have xf:=vH.o.frozen
       go_wp2_with fail
       go_roundw
       case rel=>exact ⟨k+1,k,r7,aW,aQ l_.o,rfl,HWS.o,TP vH.o,fun j hj=>by
        have e:j=k:=by omega
        subst e;rw [HWQ.o];exact aM1.o.keepq vH.o,dM HBf.o HGV.o⟩
       case measure=>exact jW.o
      ·have HWS:Hid (gO (bD x ms (bX x ms)) (eQ x ms) (k+1) (j:Int)):=lH (yR.o.stay (by rw [HWQ.o];exact fun h=>hcq (YR.2 h)))
       generalize RI (p*p / q) (OD (bD x ms (bX x ms)) (eQ x ms) j)=cq at *;have hcd:decide (0<cq)=false:=decide_eq_false hcq;have aVF:decide (cq>0)=false:=decide_eq_false hcq
       go_wp2_with fail
       go_roundw
       case rel=>exact ⟨k+1,j,r,aW,aQ l_.o,rfl,HWS.o,N8.o,aWY.o,HBe.o⟩
       case measure=>exact jW.o
  ·have lS:k=ms.length:=by omega
   subst lS;have fT:¬((ms.length:Nat):Int)<(ms.length:Int):=by omega
   go_wp2_with fail
   go_ret;exact ⟨by rw [eP.o];exact HBZ.o.trans ((bS.o.tm HB.o).mono (rC mA.o.lt)),_,rfl,yR.o⟩
end
section
section
variable {x:bE} {ms:List Mi}
theorem G0 (h:D7 x ms) (hr:mI x ms) {k:Nat} (hk:k<ms.length) (hs:vf (eQ x ms) k≠0):mI x (ms.eraseIdx k):=by
 have hp:(fM x ms).Pos:=GC fun m hm=>(h.wt m hm).1;rw [iA (EM h.ok h.mi hk)] at hs;refine (uV fun m hm=>(h.wt m (List.mem_of_mem_eraseIdx hm)).1).2 fun c hc=>?_;have K5:(ms.eraseIdx k).length=ms.length-1:=List.length_eraseIdx_of_lt hk;have aJY:∀ j,j<ms.length->j≠k->bB (fM x ms).n ((fM x ms).R j) c=0:=fun j hj cP=>by
  obtain ⟨m,hm⟩:∃ m,ms[j]?=some m:=⟨_,jA hj⟩;rw [pH hm]
  by_cases hjk:j<k
  ·have e:(ms.eraseIdx k)[j]?=some m:=by rw [List.getElem?_eraseIdx_of_lt hjk];exact hm
   have:=hc j (by omega);rw [pH e] at this;exact this
  ·have e:(ms.eraseIdx k)[j-1]?=some m:=by
    rw [List.getElem?_eraseIdx_of_ge (by omega),show j-1+1=j by omega];exact hm
   have:=hc (j-1) (by omega);rw [pH e] at this;exact this
 have hkk:bB (fM x ms).n ((fM x ms).R k) c=0:=by
  by_cases e:bB (fM x ms).n ((fM x ms).R k) c=0
  ·exact e
  ·exact absurd ((yZ hr k).spr_of hp hk aJY e) hs
 exact (uV fun m hm=>(h.wt m hm).1).1 hr c fun j hj=>by
  by_cases e:j=k
  ·rw [e];exact hkk
  ·exact aJY j hj e
theorem BO (h:D7 x ms) {k:Nat} (hk:k<ms.length):vf (bD x ms (bX x ms)) k=(fM x ms).res (frF x (bX x ms)) k:=iA (KC h.ok h.mi YJ hk)
end
inductive ClG (x:bE):List Nat->List Mi->List Nat->List Nat->Prop
 | done {nums:List Nat} {rest:List Mi} {out:List Nat} {b:Int}:gO (bD x rest (bX x rest)) (eQ x rest) rest.length b->b<0->ClG x nums rest out out
 | step {nums:List Nat} {rest:List Mi} {out r:List Nat} {k i:Nat}:gO (bD x rest (bX x rest)) (eQ x rest) rest.length (k:Int)->nums[k]?=some i->ClG x (nums.eraseIdx k) (rest.eraseIdx k) (out++[i]) r->ClG x nums rest out r
structure ClI (ms:List Mi) (nums:List Nat) (rest:List Mi) (out:List Nat):Prop where
 len:nums.length=rest.length
 at_:∀ (i j:Nat),nums[i]?=some j->rest[i]?=ms[j]?/\j<ms.length
 inc:nums.Pairwise (·<·)
 off:∀ j,j<ms.length->(j∈nums<->¬j∈out)
 tot:out.length+nums.length=ms.length
theorem ClI.zero (ms:List Mi):ClI ms (List.range ms.length) ms []:=⟨List.length_range,fun i j h=>by
 obtain ⟨h1,h2⟩:=dP.1 h;rw [List.getElem_range] at h2;rw [List.length_range] at h1;exact ⟨by rw [h2],by omega⟩,List.pairwise_lt_range,fun j hj=>by simp [hj],by simp⟩
theorem aC3 {l:List Nat} (h:l.Pairwise (·<·)):l.Nodup:=h.imp fun oS e=>by omega
theorem mem_erase_iff {l:List Nat} (h:l.Nodup) {k i:Nat} (hk:l[k]?=some i) (j:Nat):j∈l.eraseIdx k<->j∈l/\j≠i:=by
 obtain ⟨U5,hki⟩:=dP.1 hk;rw [List.mem_eraseIdx_iff_getElem?]
 constructor
 ·rintro ⟨t,ht,hj⟩
  refine ⟨cO hj,fun e=>ht ?_⟩;subst e;obtain ⟨a1,a2⟩:=dP.1 hj;exact (List.getElem_inj h).1 (a2.trans hki.symm)
 ·rintro ⟨hj,cP⟩
  obtain ⟨t,ht⟩:=List.mem_iff_getElem?.1 hj;refine ⟨t,fun e=>cP ?_,ht⟩;subst e;rw [hk] at ht;injection ht with ht;exact ht.symm
theorem ClI.step {ms rest:List Mi} {nums out:List Nat} (h:ClI ms nums rest out) {k i:Nat} (hk:nums[k]?=some i):ClI ms (nums.eraseIdx k) (rest.eraseIdx k) (out++[i]):=by
 have U5:k<nums.length:=(dP.1 hk).1;refine ⟨by rw [List.length_eraseIdx_of_lt U5,List.length_eraseIdx_of_lt (by rw [<-h.len];exact U5),h.len],fun t j ht=>?_,h.inc.sublist (List.eraseIdx_sublist _ _),fun j hj=>?_,?_⟩
 ·rw [List.getElem?_eraseIdx] at ht ⊢
  split at ht
  ·rename_i h1;rw [if_pos h1];exact h.at_ _ _ ht
  ·rename_i h1;rw [if_neg h1];exact h.at_ _ _ ht
 ·rw [mem_erase_iff (aC3 h.inc) hk,h.off j hj,List.mem_append,List.mem_singleton,not_or]
 ·rw [iC,List.length_eraseIdx_of_lt U5,List.length_singleton]
  have:=h.tot;omega
end
section
open Go.ChangeShapes Go.WideShapes Go.ChangeAt Go.RowKit
attribute [local go_sem ↓] aE
attribute [local go_sem] aK aH aM aY
def aQQ (x:bE) (ms:List Mi) (w:Wo) (e:Ending) (w':Wo):Prop:=Below w.heap.size w w'/\((∃ c:Int,c≠0/\pQ x ms c/\e=.returned (.tuple #[.slice none 0 0,.int .i64 c]))\/
 (pQ x ms 0/\((∀ q∈eQ x ms,bZ q)->∃ A n c,e=.returned (.tuple #[.slice A n c,.int .i64 0])/\bG w' w'.heap.size A n ((eQ x ms).map bV)/\n<=c/\c<=maxLen)/\(¬(∀ q∈eQ x ms,bZ q)->e=.returned (.tuple #[.slice none 0 0,.int .i64 2]))))
theorem O3 (h:cE) (x:bE) (h8:x.nodes.length<=8) (A:OA) (n c:Nat) (ms:List Mi) (w:Wo) (r:cS w w.heap.size h x) (hm:eG w w.heap.size A n ms) (hz:∀ m∈ms,m.txt.size<=maxLen) (hn:n<=9223372036854775807) (ht:dA w) :
    Calls Tryz.prog 43 #[.agg h.cells,.slice A n c] w (aQQ x ms w):=by
 have K0:Below w.heap.size w (w.alloc (.cells h.cells 29)):=bA;have HK:=lH K0;have P0:=lH (aG.new w 29 h.cells);have HF:=lH (y9 h x h8 A n c ms (w.alloc (.cells h.cells 29)) (r.up K0) (hm.bm K0) hz hn (ht.up K0));have HT:=lH (ht.up K0);have dW:Hid (w.heap.size<=(w.alloc (.cells h.cells 29)).heap.size):=lH K0.size;have j_:Hid (ms.length=n):=lH hm.1;have HM:=lH (hm.bm K0);clear K0 hm r ht hz;obtain ⟨D0,r0,s0,D1,r1,s1,D2,r2,s2,D3,r3,s3,D4,r4,s4,D5,r5,s5⟩:=h;obtain ⟨y0,y1,y2,y3,y4,y5,nf,nlt⟩:=a_ P0.o;dsimp only at y0 y1 y2 y3 y4 y5;go_enter Tryz.func43,Tryz.ntmps43
 go_wp2_with fail
 generalize w.alloc (.cells (cE.cells ⟨D0,r0,s0,D1,r1,s1,D2,r2,s2,D3,r3,s3,D4,r4,s4,D5,r5,s5⟩) 29)=W at *;refine HF.o.mono ?_;rintro e w1 ⟨bH,lT⟩;have bS:=lH (HK.o.trans (bH.mono dW.o));have xD:=lH (HT.o.up bH);replace HM:=lH (HM.o.bm bH);clear bH y0 y1 y2 y3 y4 y5 nf nlt HF;rcases lT with ⟨d,hd,sF,rfl⟩ | ⟨sF,fv,rfl,⟨g,m,y,A1,c1,gi,ga,B1,d1,rfl,K_,AB,uP,M3,M1,MZ,K9⟩⟩
 ·have HE:=lH sF
  have HD:=lH hd;have hdb:(d != 0)=true:=by simp [hd]
  clear sF hd
  go_wp2_with fail
  go_ret2;exact ⟨bS.o.alloc bS.o.size _,.inl ⟨d,HD.o,HE.o,rfl⟩⟩
 ·obtain ⟨iX,fN,AA⟩:=sF.zero rfl
  obtain ⟨ok,hl,jS⟩:=iU iX;have HE:=lH sF;have hz:Below w1.heap.size w1 (w1.alloc (.cells #[.pointer (some ⟨g,0,none⟩),.slice A1 ms.length c1,.slice (some ⟨gi,0,none⟩) (aA x).length (aA x).length,.slice (some ⟨ga,0,none⟩) (aI x) (aI x),.slice B1 ms.length d1] 95)):=bA;have K8:=sD.up (B0:=W.heap.size) (x:=x) (ms:=ms) ⟨g,m,y,A1,c1,gi,ga,B1,d1,rfl,K_,AB,uP,M3,M1,MZ,K9⟩ hz;have N1:=lH K8;have HK:=lH (F9 h8 iX);have WF:=lH (HM.o.bm hz);have mA:=lH (aG.new w1 95 #[.pointer (some ⟨g,0,none⟩),.slice A1 ms.length c1,.slice (some ⟨gi,0,none⟩) (aA x).length (aA x).length,.slice (some ⟨ga,0,none⟩) (aI x) (aI x),.slice B1 ms.length d1]);have HBZ:=lH (bS.o.tm hz);have tT:=lH (xD.o.up hz);have HL:Hid (ms.length<=64):=lH hl
  clear sF K_ AB uP M3 M1 MZ K9 K8 iX fN AA ok hl jS hz
  go_upto_region 4 with fail
  generalize w1.alloc (.cells #[.pointer (some ⟨g,0,none⟩),.slice A1 ms.length c1,.slice (some ⟨gi,0,none⟩) (aA x).length (aA x).length,.slice (some ⟨ga,0,none⟩) (aI x) (aI x),.slice B1 ms.length d1] 95)=wz at *;generalize w1.heap.size=gt at *;have x0:=mA.o.cell 0;have x1:=mA.o.cell 1;have x2:=mA.o.cell 2;have x3:=mA.o.cell 3;have x4:=mA.o.cell 4;have xl:=mA.o.lt;have K3:=j_.o;subst K3
  go_wp2_with fail
  refine (FN x HK.o.ok h8 ms HK.o.mi HK.o.wt HK.o.k64 _ _ A c wz N1.o WF.o).mono ?_;rintro e w2 ⟨bL,v2,us2,rfl,ho2⟩;obtain ⟨A2,c2,kD,aLT,-,-,-⟩:=ho2.rd;subst kD;rw [iG] at aLT;rw [iG];have HQ:=lH aLT;have bW:=lH (HBZ.o.tm bL);have HT3:=lH (tT.o.up bL);clear bL ho2 aLT x0 x1 x2 x3 x4 xl
  go_wp2_with fail
  refine (qB A2 _ c2 (eQ x ms) w2 HQ.o (by have:=HL.o;omega) HT3.o).mono ?_;rintro e w3 ⟨cR,pW,uN⟩;have dR:=lH (bW.o.tm cR);have Y1:=lH pW;have HTB:=lH uN;clear cR pW uN
  by_cases hf:∀ q∈eQ x ms,bZ q
  ·obtain ⟨A7,n7,c7,rfl,hr7,h71,h72⟩:=Y1.o hf
   have NV:=lH hr7;have EF:=lH hf;clear hr7 Y1 HTB hf
   go_wp2_with fail
   go_ret2;exact ⟨dR.o,.inr ⟨HE.o,fun _=>⟨_,_,_,rfl,NV.o,h71,h72⟩,fun h=>absurd EF.o h⟩⟩
  ·obtain rfl:=HTB.o hf
   have EF:=lH hf;clear Y1 HTB hf
   go_wp2_with fail
   go_ret2;exact ⟨dR.o,.inr ⟨HE.o,fun h=>absurd h EF.o,fun _=>rfl⟩⟩
def aQN (x:bE) (ms:List Mi) (w:Wo) (e:Ending) (w':Wo):Prop:=Below w.heap.size w w'/\((∃ c:Int,c≠0/\pQ x ms c/\e=.returned (.tuple #[.int .i64 0,.int .i64 c]))\/
 (pQ x ms 0/\∃ b:Int,gO (bD x ms (bX x ms)) (eQ x ms) ms.length b/\((b<0/\e=.returned (.tuple #[.int .i64 0,.int .i64 8]))\/(0<=b/\e=.returned (.tuple #[.int .i64 b,.int .i64 0])))))
theorem S5 (h:cE) (x:bE) (h8:x.nodes.length<=8) (A:OA) (n c:Nat) (ms:List Mi) (w:Wo) (r:cS w w.heap.size h x) (hm:eG w w.heap.size A n ms) (hz:∀ m∈ms,m.txt.size<=maxLen) (hn:n<=9223372036854775807) (ht:dA w) :
    Calls Tryz.prog 45 #[.agg h.cells,.slice A n c] w (aQN x ms w):=by
 have K0:Below w.heap.size w (w.alloc (.cells h.cells 29)):=bA;have HK:=lH K0;have P0:=lH (aG.new w 29 h.cells);have HF:=lH (y9 h x h8 A n c ms (w.alloc (.cells h.cells 29)) (r.up K0) (hm.bm K0) hz hn (ht.up K0));have HT:=lH (ht.up K0);have dW:Hid (w.heap.size<=(w.alloc (.cells h.cells 29)).heap.size):=lH K0.size;have j_:Hid (ms.length=n):=lH hm.1;have HM:=lH (hm.bm K0);clear K0 hm r ht hz;obtain ⟨D0,r0,s0,D1,r1,s1,D2,r2,s2,D3,r3,s3,D4,r4,s4,D5,r5,s5⟩:=h;obtain ⟨y0,y1,y2,y3,y4,y5,nf,nlt⟩:=a_ P0.o;dsimp only at y0 y1 y2 y3 y4 y5;go_enter Tryz.func45,Tryz.ntmps45
 go_wp2_with fail
 generalize w.alloc (.cells (cE.cells ⟨D0,r0,s0,D1,r1,s1,D2,r2,s2,D3,r3,s3,D4,r4,s4,D5,r5,s5⟩) 29)=W at *;refine HF.o.mono ?_;rintro e w1 ⟨bH,lT⟩;have bS:=lH (HK.o.trans (bH.mono dW.o));have xD:=lH (HT.o.up bH);replace HM:=lH (HM.o.bm bH);clear bH y0 y1 y2 y3 y4 y5 nf nlt HF;rcases lT with ⟨d,hd,sF,rfl⟩ | ⟨sF,fv,rfl,⟨g,m,y,A1,c1,gi,ga,B1,d1,rfl,K_,AB,uP,M3,M1,MZ,K9⟩⟩
 ·have HE:=lH sF
  have HD:=lH hd;have hdb:(d != 0)=true:=by simp [hd]
  clear sF hd
  go_wp2_with fail
  go_ret2;exact ⟨bS.o.alloc bS.o.size _,.inl ⟨d,HD.o,HE.o,rfl⟩⟩
 ·obtain ⟨iX,fN,AA⟩:=sF.zero rfl
  obtain ⟨ok,hl,jS⟩:=iU iX;have HE:=lH sF;have hz:Below w1.heap.size w1 (w1.alloc (.cells #[.pointer (some ⟨g,0,none⟩),.slice A1 ms.length c1,.slice (some ⟨gi,0,none⟩) (aA x).length (aA x).length,.slice (some ⟨ga,0,none⟩) (aI x) (aI x),.slice B1 ms.length d1] 95)):=bA;have K8:=sD.up (B0:=W.heap.size) (x:=x) (ms:=ms) ⟨g,m,y,A1,c1,gi,ga,B1,d1,rfl,K_,AB,uP,M3,M1,MZ,K9⟩ hz;have N1:=lH K8;have HK:=lH (F9 h8 iX);have WF:=lH (HM.o.bm hz);have mA:=lH (aG.new w1 95 #[.pointer (some ⟨g,0,none⟩),.slice A1 ms.length c1,.slice (some ⟨gi,0,none⟩) (aA x).length (aA x).length,.slice (some ⟨ga,0,none⟩) (aI x) (aI x),.slice B1 ms.length d1]);have HBZ:=lH (bS.o.tm hz);have tT:=lH (xD.o.up hz);have HL:Hid (ms.length<=64):=lH hl
  clear sF K_ AB uP M3 M1 MZ K9 K8 iX fN AA ok hl jS hz
  go_upto_region 4 with fail
  generalize w1.alloc (.cells #[.pointer (some ⟨g,0,none⟩),.slice A1 ms.length c1,.slice (some ⟨gi,0,none⟩) (aA x).length (aA x).length,.slice (some ⟨ga,0,none⟩) (aI x) (aI x),.slice B1 ms.length d1] 95)=wz at *;generalize w1.heap.size=gt at *;have x0:=mA.o.cell 0;have x1:=mA.o.cell 1;have x2:=mA.o.cell 2;have x3:=mA.o.cell 3;have x4:=mA.o.cell 4;have xl:=mA.o.lt;have K3:=j_.o;subst K3
  go_wp2_with fail
  refine (J5 x ms HK.o _ _ A c wz N1.o WF.o).mono ?_;rintro e w2 ⟨bL,b,rfl,SL⟩;have yR:=lH SL;have bW:=lH (HBZ.o.tm bL);clear bL SL x0 x1 x2 x3 x4 xl
  by_cases hb:b<0
  ·have OO:=lH hb
   have CG:decide (b<0)=true:=decide_eq_true hb
   go_wp2_with fail
   go_ret2;exact ⟨bW.o,.inr ⟨HE.o,b,yR.o,.inl ⟨OO.o,rfl⟩⟩⟩
  ·have OO:Hid (0<=b):=lH (by omega)
   have CG:decide (b<0)=false:=decide_eq_false hb
   go_wp2_with fail
   go_ret2;exact ⟨bW.o,.inr ⟨HE.o,b,yR.o,.inr ⟨OO.o,rfl⟩⟩⟩
end
