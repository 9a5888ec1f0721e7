import Derived.Test.YthgdchffeigkbaaGreatDoorX23
import Derived.Test.YthgdchffeigkbaaGreatDoorX24
import Derived.Test.YthgdchffeigkbaaGreatDoorX26
import Derived.Test.YthgdchffeigkbaaGreatDoorX27
set_option linter.unusedVariables false
set_option linter.unusedSimpArgs false
namespace Go.Proofs.YthgdchffeigkbaaGreatDoor
set_option maxHeartbeats 1000000
section
open Go.ChangeShapes Go.WideShapes Go.ChangeAt Go.RowKit
def eX {α:Type} (l:List α) (k:Nat):List α:=l.take k++l.drop (k+1)
theorem VO {α:Type} {l:List α} {k i:Nat}:(eX l k)[i]?=if i<k then l[i]? else if k<l.length then l[i+1]? else none:=by
 unfold eX
 by_cases h:i<k
 ·rw [if_pos h]
  by_cases hi:i<l.length
  ·rw [xQ (by rw [jP];omega),List.getElem?_take_of_lt h]
  ·rw [List.getElem?_eq_none (by rw [iC,jP,EI];omega),List.getElem?_eq_none (by omega)]
 ·rw [if_neg h]
  split
  ·rename_i hk
   rw [AZ (by rw [jP];omega),jP,List.getElem?_drop];congr 1
   omega
  ·rename_i hk
   exact List.getElem?_eq_none (by rw [iC,jP,EI];omega)
theorem sN {x:bE} {ms:List Mi} (h:b6 x ms=0):fK x=0/\ms.length<=64/\∀ m∈ms,DW x m=0:=by
 unfold b6 at h
 split at h
 ·exact absurd h (by assumption)
 ·rename_i hn
  split at h
  ·omega
  ·exact ⟨by omega,by omega,zU h⟩
theorem L7 (n i:Nat):vf (jX n) i=0:=by
 unfold vf jX;rw [eY,List.getElem?_replicate]
 split<;>rfl
theorem FE {l:List Rat} {i:Nat} {y:Rat} (h:i<l.length) (j:Nat):vf (l.set i y) j=if j=i then y else vf l j:=by
 unfold vf;rw [eY,eY,List.getElem?_set]
 by_cases hj:i=j
 ·subst hj;simp [h]
 ·rw [if_neg hj,if_neg (fun e=>hj e.symm)]
theorem aCO {x:bE} (q:List Rat) (X:Fn):bB (aA x).length (vf (f_ x q)) X=aO (aI x) fun k=>vf q k*ext (iB (jH x)) X k:=by
 unfold f_ aA;exact PN (iB (jH x)) (vf q) X (aI x)
def kR (l:List Br):Nat:=l.foldr (fun b d=>(b.x*b.tap).toNat*d) 1
theorem Q9:∀ {l:List Br} {b:Br},b∈l->(b.x*b.tap).toNat∣kR l
 | a::r,b,h=>by
  rcases List.mem_cons.1 h with h | h
  ·subst h;exact Nat.dvd_mul_right _ _
  ·exact Nat.dvd_trans (Q9 h) (Nat.dvd_mul_left _ _)
theorem aFp {b:Br} (h:b.bad=false):500<=(b.x*b.tap).toNat/\(b.x*b.tap).toNat<10^8/\b.x*b.tap=((b.x*b.tap).toNat:Int):=by
 have h1:=IA h;have X7:b.x*b.tap<=10000*1500:=Int.mul_le_mul h1.2.1 h1.2.2.2.1 (by omega) (by omega);have AW:1*500<=b.x*b.tap:=Int.mul_le_mul h1.1 h1.2.2.1 (by omega) (by omega);omega
theorem E6:∀ {l:List Br},(∀ b∈l,b.bad=false)->kR l≠0/\kR l<=(10^8)^l.length
 | [],_=>by simp [kR]
 | a::r,h=>by
  obtain ⟨h1,h2⟩:=E6 fun b hb=>h b (List.mem_cons_of_mem _ hb);have h3:=aFp (h a List.mem_cons_self);have e:kR (a::r)=(a.x*a.tap).toNat*kR r:=rfl;rw [e,E_,Nat.pow_succ,Nat.mul_comm ((10^8)^r.length)];exact ⟨Nat.mul_ne_zero (by omega) h1,Nat.mul_le_mul (by omega) h2⟩
theorem aDi {l:List Br} {b:Br} (hb:b∈l) (h:b.bad=false):Ot (kR l) 2000 (gQ b):=by
 obtain ⟨h1,h2,h3⟩:=aFp h;unfold gQ;rw [h3];exact T2 (T3 (by omega) (by show (1000000:Int).natAbs<=_;simp;omega)) (Q9 hb)
theorem aLr {l:List Br} {b:Br} (hb:b∈l) (h:b.bad=false):Ot (kR l*1000) 2000 (nI b):=by
 have h1:=IA h;unfold nI;exact aLq (C:=1) (aDi hb h) (T3 (d:=1000) (by decide) (by rw [Int.natAbs_neg];omega))
structure S1 (n D B:Nat) (s:List Rat×Rat):Prop where
 len:s.1.length=n
 cf:∀ p∈s.1,Ot D B p
 fr:Ot (D*1000) B s.2
theorem S1.mono {n D B C:Nat} {s:List Rat×Rat} (h:S1 n D B s) (hb:B<=C):S1 n D C s:=⟨h.len,fun p hp=>oD (h.cf p hp) hb,oD h.fr hb⟩
theorem aK5 (n D:Nat):S1 n D 0 (jX n,0):=by
 refine ⟨by simp [jX],fun p hp=>?_,XO _⟩;rw [List.eq_of_mem_replicate hp];exact XO _
theorem aJH {D B:Nat} {q:Rat} (mi:Bool) (h:Ot D B q):Ot D B (sg mi q):=by
 unfold sg;cases mi
 ·exact h
 ·exact T1 h
theorem S1.add {n D B u v:Nat} {s:List Rat×Rat} {b c:Rat} (mi:Bool) (h:S1 n D B s) (hu:u<n) (hv:v<n) (hb:Ot D 2000 b) (hc:Ot (D*1000) 2000 c):S1 n D (B+4000) (l9 (sg mi b) u v s.1,s.2+sg mi c):=by
 have hb':=aJH mi hb;have h1:Ot D (B+2000) (vf s.1 u+sg mi b):=MO (h.cf _ (cO (bI (i:=u) (by rw [h.len];exact hu)))) hb';have h2:∀ p∈s.1.set u (vf s.1 u+sg mi b),Ot D (B+2000) p:=fun p hp=>by
  rcases List.mem_or_eq_of_mem_set hp with e | e
  ·exact oD (h.cf p e) (by omega)
  ·rw [e];exact h1
 refine ⟨by rw [l8];exact h.len,fun p hp=>?_,oD (MO h.fr (aJH mi hc)) (by omega)⟩;unfold l9 at hp;rcases List.mem_or_eq_of_mem_set hp with e | e
 ·exact oD (h2 p e) (by omega)
 ·rw [e,Rat.sub_eq_add_neg]
  exact oD (MO (h2 _ (cO (bI (i:=v) (by rw [lF,h.len];exact hv)))) (T1 hb')) (by omega)
theorem NL {x:bE} (ok:cN x) {n B:Nat} {s:List Rat×Rat} (hs:S1 n (kR x.brs) B s) (hn:n=aI x) {b:Br} (hb:b∈x.brs) (mi:Bool):S1 n (kR x.brs) (B+4000) (l9 (sg mi (gQ b)) (aV x b.fr) (aV x b.to) s.1,s.2+sg mi (nI b)):=by
 have hm:=ok.br b hb;exact hs.add mi (by rw [hn];exact (dD ok hm.1).2.1) (by rw [hn];exact (dD ok hm.2.1).2.1) (aDi hb hm.2.2.2) (aLr hb hm.2.2.2)
theorem UM {x:bE} (ok:cN x) {n B bus:Nat} {s:List Rat×Rat} (hs:S1 n (kR x.brs) B s) (hn:n=aI x) {b:Br} (hb:b∈x.brs):S1 n (kR x.brs) (B+8000) (lP bus (aV x b.fr) (aV x b.to) (gQ b) (nI b) s):=by
 unfold lP;dsimp only;have h1:S1 n (kR x.brs) (B+4000) (if aV x b.fr=bus then (l9 (sg false (gQ b)) (aV x b.fr) (aV x b.to) s.1,s.2+sg false (nI b)) else s):=by
  split
  ·exact NL ok hs hn hb false
  ·exact hs.mono (by omega)
 split
 ·exact NL ok h1 hn hb true
 ·exact h1.mono (by omega)
theorem PZ {x:bE} (ok:cN x) {n bus:Nat} (hn:n=aI x):∀ (bs:List Br) (B:Nat) (s:List Rat×Rat),(∀ b∈bs,b∈x.brs)->S1 n (kR x.brs) B s->S1 n (kR x.brs) (B+8000*bs.length) (pJ bus (bs.map gQ) (bs.map nI) (bs.map fun b=>aV x b.fr) (bs.map fun b=>aV x b.to) s)
 | [],B,s,_,hs=>hs
 | b::bs,B,s,h,hs=>by
  have h1:=PZ ok (bus:=bus) hn bs (B+8000) _ (fun a ha=>h a (List.mem_cons_of_mem _ ha)) (UM ok (bus:=bus) hs hn (h b List.mem_cons_self));refine S1.mono (B:=B+8000+8000*bs.length) h1 ?_;rw [E_];omega
theorem GH (x:bE):gV x=(x.brs.map fun b=>aV x b.fr)/\B7 x=x.brs.map fun b=>aV x b.to:=by
 refine ⟨?_,?_⟩
 ·unfold gV NJ;rw [List.map_map];rfl
 ·unfold B7 NJ;rw [List.map_map];rfl
theorem GU {x:bE} (ok:cN x) (hl:x.brs.length<=10) {m:Mi} (hm:nV x m):S1 (aI x) (kR x.brs) 80000 (aS x m):=by
 have hz:=aK5 (aI x) (kR x.brs);unfold aS
 split
 ·rename_i h0
  have h1:=hm.1 h0;rcases pP x m.name with ⟨e,_⟩ | ⟨i,b,e,hb,_⟩
  ·omega
  ·obtain ⟨a1,a2,a3,a4⟩:=lO hb
   have h2:=NL ok hz rfl (cO hb) false;simp only [e,kU,eY,vf,a1,a2,a3,a4];exact h2.mono (by omega)
 ·split
  ·rename_i h0 h2
   refine ⟨by rw [lF];exact hz.len,fun p hp=>?_,oD hz.fr (by omega)⟩;rcases List.mem_or_eq_of_mem_set hp with e | e
   ·exact oD (hz.cf p e) (by omega)
   ·rw [e];exact oD aLp (by omega)
  ·have h:=PZ ok (bus:=aV x m.name) rfl x.brs 0 _ (fun b hb=>hb) hz
   rw [(GH x).1,(GH x).2];exact h.mono (by omega)
theorem LL {x:bE} (ok:cN x) (hl:x.brs.length<=10):kR x.brs≠0/\kR x.brs<=10^80:=by
 obtain ⟨h1,h2⟩:=E6 (l:=x.brs) fun b hb=>(ok.br b hb).2.2.2;refine ⟨h1,cV h2 ?_⟩;rw [<-Nat.pow_mul];exact Nat.pow_le_pow_right (by decide) (by omega)
theorem aCw {a b:Nat} (h:a<=b):10^a<=10^b:=Nat.pow_le_pow_right (by decide) h
theorem WZ {a b c:Nat} (h:a+b<=c):10^a*10^b<=10^c:=by rw [<-Nat.pow_add];exact aCw h
def ND (l:List Rat):Nat:=l.foldr (fun q d=>q.den*d) 1
theorem Q7:∀ {l:List Rat} {q:Rat},q∈l->q.den∣ND l
 | a::r,b,h=>by
  rcases List.mem_cons.1 h with h | h
  ·subst h;exact Nat.dvd_mul_right _ _
  ·exact Nat.dvd_trans (Q7 h) (Nat.dvd_mul_left _ _)
theorem YM {k:Nat}:∀ {l:List Rat},(∀ q∈l,Tn k q)->ND l≠0/\ND l<=(10^k)^l.length
 | [],_=>by simp [ND]
 | a::r,h=>by
  obtain ⟨h1,h2⟩:=YM fun b hb=>h b (List.mem_cons_of_mem _ hb);have e:ND (a::r)=a.den*ND r:=rfl;rw [e,E_,Nat.pow_succ,Nat.mul_comm ((10^k)^r.length)];exact ⟨Nat.mul_ne_zero a.den_nz h1,Nat.mul_le_mul (rC (h a List.mem_cons_self).2) h2⟩
def Q8 (x:bE) (al:List Rat):Nat:=kR x.brs*ND al*1000
theorem VM {x:bE} (ok:cN x) (hl:x.brs.length<=10) {al:List Rat} (ha:∀ q∈al,Tn 25 q) (hn:al.length<=8):Q8 x al≠0/\Q8 x al<=10^283:=by
 obtain ⟨h1,h2⟩:=LL ok hl;obtain ⟨h3,h4⟩:=YM ha;have h5:ND al<=10^200:=by
  refine cV h4 ?_;rw [<-Nat.pow_mul];exact aCw (by omega)
 unfold Q8;refine ⟨Nat.mul_ne_zero (Nat.mul_ne_zero h1 h3) (by decide),?_⟩;have h6:=WZ (a:=80) (b:=200) (c:=280) (by decide);have h7:=WZ (a:=280) (b:=3) (c:=283) (by decide);have h8:=Nat.mul_le_mul_right (10^3) (cV (Nat.mul_le_mul h2 h5) h6);exact cV h8 h7
def MS:List Rat->Rat
 | []=>0
 | a::r=>a+MS r
theorem GV:∀ (l:List Rat) (a:Rat),l.foldl (·+·) a=a+MS l
 | [],a=>(Rat.add_zero a).symm
 | b::r,a=>by
  rw [List.foldl_cons,GV r (a+b)];show a+b+MS r=a+(b+MS r);rw [Rat.add_assoc]
theorem ZN (l:List Rat):sI l=MS l:=by
 unfold sI;rw [GV,Rat.zero_add]
theorem G4 {q al:List Rat} {n:Nat} (h1:q.length=n) (h2:al.length=n):jJ q al=aO n fun i=>vf q i*vf al i:=by
 have key:∀ k,k<=n->sI ((List.zipWith (·*·) q al).take k)=aO k fun i=>vf q i*vf al i:=fun k=>by
  induction k with
  | zero=>intro _;rfl
  | succ k ih=>
   intro hk;rw [LI (bI (i:=k) (by omega)) (bI (l:=al) (i:=k) (by omega)),ih (by omega)];rfl
 have:=key n lR;rw [nW (by rw [List.length_zipWith];omega)] at this;exact this
theorem NN {q:List Rat} {b:Rat} {u v:Nat} (hu:u<q.length) (hv:v<q.length) (j:Nat):vf (l9 b u v q) j=vf q j+b*two u v j:=by
 unfold l9 two;rw [FE (by rw [lF];exact hv),FE hu,FE hu]
 by_cases h1:j=v
 ·subst h1
  by_cases h2:j=u
  ·subst h2
   simp only [if_true];grind
  ·simp only [if_true,if_neg h2];grind
 ·by_cases h2:j=u
  ·subst h2
   simp only [if_neg h1,if_true];grind
  ·simp only [if_neg h1,if_neg h2];grind
theorem aEy (hs:List Hd):∀ u∈hs.map Hd.val,u.oneCell'=true/\oX u:=fun u hu=>by
 obtain ⟨h,_,rfl⟩:=List.mem_map.1 hu;exact ⟨rfl,fun k x e=>by cases e⟩
theorem o8 {o:Oper} {a:Act} {w:Wo} {K:Act->World->Prop} {Q:Exit->Act->World->Prop} (s x:Operand) (t:TypeId)
    (ho:o.op=.call { callee:=.builtin .append,args:=#[s,x],argTypes:=#[t,t] }) (base:Nat) (ht:Tryz.prog.underlying t=some (.slice 93))
    (v:Value) (hs:List Hd) (hsv:a.eval s=v) (bF:bJ oX w base 93 1 v hs.length (hs.map Hd.val))
    (A:OA) (m c:Nat) (h2:List Hd) (hm:h2.length=m) (hx:a.eval x=.slice A m c) (hr:Rd w w.heap.size 1 A m (h2.map Hd.val)) (wX:hs.length+m<=1000000000) (c_:base<=w.heap.size) (N:Nat) (hN:(hs++h2).length=N)
    (h:∀ A' c' w',bJ oX w' base 93 1 (.slice A' N c') (hs++h2).length ((hs++h2).map Hd.val)->Below base w w'->dY oX base 93 w w'->K (a.put o.dst (.slice A' N c')) w'):o.wp Tryz.prog a w K Q:=by
 obtain ⟨i0,kC,oE,kK,lQ⟩:=info_parts XZ;subst hm;refine WU (S:=oX) s x t ho base 93 i0 _ 1 24 ht kC oE kK lQ rfl (by omega) (fun u hu=>?_) v hs.length (hs.map Hd.val) hsv bF A h2.length c (h2.map Hd.val) hx hr (aEy h2) (by simp only [maxLen];omega) (by omega) c_ fun v' w' k1 k2 _ _=>?_
 ·have QA:u∈[Value.slice none 0 0]:=hu
  rw [List.mem_singleton.1 QA];exact fun k x h=>by cases h
 ·rw [<-List.map_append,<-iC] at k1
  obtain ⟨A',c',e,_⟩:=k1.shape;subst e;subst hN;exact h A' c' w' k1 k2.low k2
theorem Rd.heads {w:Wo} {B:Nat} {b off n:Nat} {hs:List Hd} (h:Rd w B 1 (some ⟨b,off,none⟩) n (hs.map Hd.val)) (i m:Nat) (him:i+m<=n):Rd w B 1 (some ⟨b,off+i,none⟩) m (((hs.drop i).take m).map Hd.val):=by
 have hl:=h.1;rw [lB] at hl;refine ⟨by rw [lB,jP,EI];omega,fun h0=>?_⟩;obtain ⟨b',off',e,aW,hc⟩:=h.2 (by omega);injection e with e;injection e with e1 e2;subst e1;subst e2;refine ⟨b,off+i,rfl,aW,fun j u hu=>?_⟩;rw [List.map_take,List.map_drop] at hu;have hj:=(dP.1 hu).1;rw [jP] at hj;rw [List.getElem?_take_of_lt (by omega),List.getElem?_drop] at hu;have:=hc (i+j) u hu;rwa [<-Nat.add_assoc] at this
theorem Rd.tail {w:Wo} {B:Nat} {b off n c:Nat} {hs:List Hd} (h:Rd w B 1 (some ⟨b,off,none⟩) n (hs.map Hd.val)) (hc:n<=c) {i:Nat} (hi:i<=n):Rd w B 1 (if c=i then some ⟨b,off,none⟩ else some ⟨b,off+i,none⟩) (n-i) ((hs.drop i).map Hd.val):=by
 have hl:=h.1;rw [lB] at hl;have h2:=h.heads i (n-i) (by omega);rw [nW (by rw [EI];omega)] at h2
 by_cases hci:c=i
 ·refine ⟨h2.1,fun h0=>by omega⟩
 ·rw [if_neg hci];exact h2
def Y0 (w:Wo) (hs:List Hd) (M:List (List Rat)):Prop:=hs.length=M.length/\∀ (i:Nat) (h:Hd) (q:List Rat),hs[i]?=some h->M[i]?=some q->iF w w.heap.size h.A h.n q/\h.n<=h.c/\h.c<=maxLen
theorem Y0.up {w w':Wo} {hs:List Hd} {M:List (List Rat)} (h:Y0 w hs M) (hb:Below w.heap.size w w'):Y0 w' hs M:=⟨h.1,fun i a q hh hq=>⟨((h.2 i a q hh hq).1.below hb lR).more hb.size,(h.2 i a q hh hq).2⟩⟩
theorem Y0.cut {w:Wo} {hs:List Hd} {M:List (List Rat)} (h:Y0 w hs M) (k:Nat):Y0 w (eX hs k) (eX M k):=by
 refine ⟨by unfold eX;simp [h.1],fun i a q hh hq=>?_⟩;rw [VO] at hh hq;rw [h.1] at hh
 split at hh
 ·rw [if_pos ‹_›] at hq;exact h.2 _ _ _ hh hq
 ·rw [if_neg ‹_›] at hq
  split at hh
  ·rw [if_pos ‹_›] at hq;exact h.2 _ _ _ hh hq
  ·cases hh
theorem jZ.hds {w:Wo} {A:OA} {n:Nat} {M:List (List Rat)} (h:jZ w w.heap.size A n M):∃ hs:List Hd,hs.length=n/\Rd w w.heap.size 1 A n (hs.map Hd.val)/\Y0 w hs M:=by
 obtain ⟨hs,h1,h2,h3,h4⟩:=h;exact ⟨hs,h1,h3,h1.trans h2.symm,h4⟩
end
section
open Go.ChangeShapes Go.WideShapes Go.ChangeAt Go.RowKit
attribute [local go_sem ↓] aE
attribute [local go_sem] aK aH aM aY
structure Cf (w:Wo) (gc:Nat) (vs:List Rv) (q:List Rat):Prop where
 row:∃ cs,aG w gc 115 cs/\cs.toList.take (q.length*4)=fS vs
 len:vs.length=q.length
 ok:kH w vs q
section
variable {w w':Wo} {gc:Nat} {vs:List Rv} {q:List Rat}
theorem Cf.up (f:Cf w gc vs q) (hb:Below w.heap.size w w'):Cf w' gc vs q:=by
 obtain ⟨cs,h1,h2⟩:=f.row;exact ⟨⟨cs,h1.bl hb,h2⟩,f.len,f.ok.up hb⟩
theorem Cf.elem (f:Cf w gc vs q) {j:Nat} (hj:j<q.length):∃ x,vs[j]?=some x/\w.cell? ⟨gc,j*4,none⟩=some (.bool x.b1)/\w.cell? ⟨gc,j*4+1,none⟩=some (.slice x.A x.n x.c)/\w.cell? ⟨gc,j*4+2,none⟩=some (.bool x.b2)/\w.cell? ⟨gc,j*4+3,none⟩=some (.slice x.A2 x.m x.d)/\gc<w.heap.size/\(∀ o,w.frozen? ⟨gc,o,none⟩=false):=by
 obtain ⟨cs,h1,h2⟩:=f.row;obtain ⟨x,hx⟩:∃ x,vs[j]?=some x:=eO (by rw [f.len];exact hj);obtain ⟨c0,c1,c2,c3⟩:=h1.row_cell h2 hx;exact ⟨x,hx,c0,c1,c2,c3,h1.lt,h1.frozen⟩
theorem Cf.keep (f:Cf w gc vs q) {j:Nat} (hj:j<q.length) {x y:Rv} {p:Rat} (hy:dL w w.heap.size p y):dL (gB w gc j x) (gB w gc j x).heap.size p y:=by
 obtain ⟨cs,h1,h2⟩:=f.row;obtain ⟨x0,hx⟩:∃ x,vs[j]?=some x:=eO (by rw [f.len];exact hj);exact dL.keep4 hy x h1 h2 hx
theorem Cf.put (f:Cf w gc vs q) {j:Nat} (hj:j<q.length) {x:Rv} {p:Rat} (hx:dL w w.heap.size p x):Cf (gB w gc j x) gc (vs.set j x) (q.set j p):=by
 obtain ⟨cs,h1,h2⟩:=f.row;obtain ⟨cs',k1,k2⟩:=h1.row_put x h2 f.len hj;refine ⟨⟨cs',k1,by rw [lF];exact k2⟩,by simp [f.len],fun i p' y hp hy=>?_⟩;rw [List.getElem?_set] at hp hy
 by_cases xM:j=i
 ·subst xM
  rw [if_pos rfl,if_pos hj] at hp;rw [if_pos rfl,if_pos (by rw [f.len];exact hj)] at hy;injection hp with hp;injection hy with hy;subst hp;subst hy;exact f.keep hj hx
 ·rw [if_neg xM] at hp hy
  exact f.keep hj (f.ok i p' y hp hy)
theorem Cf.rdq (f:Cf w gc vs q):iF w w.heap.size (some ⟨gc,0,none⟩) q.length q:=by
 obtain ⟨cs,h1,h2⟩:=f.row;refine ⟨vs,f.len,rfl,⟨by rw [d9,f.len],fun hn=>⟨gc,0,rfl,h1.lt,fun i v hv=>?_⟩⟩,f.ok⟩;rw [Nat.zero_add,h1.cell];rw [<-h2] at hv;rw [List.getElem?_take] at hv
 split at hv
 ·rwa [Array.getElem?_toList] at hv
 ·cases hv
end
structure aFw (w:Wo) (p7 p8 p9 g:Nat) (m:iZ) (y:Value) (x:bE) (A:OA) (n c:Nat) (M:List (List Rat)):Prop where
 b7:aG w p7 90 #[.pointer (some ⟨g,0,none⟩)]
 b8:aG w p8 92 #[.slice A n c]
 b9:aG w p9 3 #[.int .i64 (cY M:Int)]
 md:aG w g 122 (m.cells y)
 rd:fG w w.heap.size m x
 rm:jZ w w.heap.size A n M
theorem aFw.up {w w':Wo} {p7 p8 p9 g n c:Nat} {m:iZ} {y:Value} {x:bE} {A:OA} {M:List (List Rat)} (h:aFw w p7 p8 p9 g m y x A n c M) (hb:Below w.heap.size w w'):aFw w' p7 p8 p9 g m y x A n c M:=
 ⟨h.b7.bl hb,h.b8.bl hb,h.b9.bl hb,h.md.bl hb,h.rd.up hb,h.rm.up hb⟩
structure ArS (S:Nat->Nat->Bool) (nb b:Nat) (L:List Int):Prop where
 len:L.length=nb
 at_:∀ k,k<b->L.getD k 0=((tS S b).1.getD k 0:Nat)
theorem ArS.start (S:Nat->Nat->Bool) (nb:Nat):ArS S nb 0 (List.replicate nb 0):=⟨o3,fun k h=>by omega⟩
theorem ArS.old {S:Nat->Nat->Bool} {nb b a:Nat} {L:List Int} (h:ArS S nb b L) (hb:b<nb) (hf:(List.range b).find? (fun a=>S a b)=some a):ArS S nb (b+1) (L.set b (L.getD a 0)):=by
 have ha:a<b:=by simpa using List.mem_of_find?_eq_some hf
 refine ⟨by rw [lF];exact h.len,fun k hk=>?_⟩;have e:(tS S (b+1)).1=(tS S b).1++[(tS S b).1.getD a 0]:=by rw [uX,hf]
 have hl:=E7 S b;rw [e,eY,eY (l:=(tS S b).1++_),List.getElem?_set]
 by_cases hkb:k=b
 ·subst hkb
  rw [if_pos rfl,if_pos (by rw [h.len];exact hb),AZ (by omega),hl,Nat.sub_self,h.at_ a ha];rfl
 ·rw [if_neg (fun e=>hkb e.symm),xQ (by omega),<-eY,<-eY]
  exact h.at_ k (by omega)
theorem ArS.new {S:Nat->Nat->Bool} {nb b:Nat} {L:List Int} (h:ArS S nb b L) (hb:b<nb) (hf:(List.range b).find? (fun a=>S a b)=none):ArS S nb (b+1) (L.set b ((tS S b).2:Nat))/\(tS S (b+1)).2=(tS S b).2+1:=by
 have e:tS S (b+1)=((tS S b).1++[(tS S b).2],(tS S b).2+1):=by rw [uX,hf]
 refine ⟨⟨by rw [lF];exact h.len,fun k hk=>?_⟩,by rw [e]⟩;have hl:=E7 S b;rw [e,eY,eY (l:=(tS S b).1++_),List.getElem?_set]
 by_cases hkb:k=b
 ·subst hkb
  rw [if_pos rfl,if_pos (by rw [h.len];exact hb),AZ (by omega),hl,Nat.sub_self];rfl
 ·rw [if_neg (fun e=>hkb e.symm),xQ (by omega),<-eY,<-eY]
  exact h.at_ k (by omega)
theorem ArS.fin {S:Nat->Nat->Bool} {nb:Nat} {L:List Int} (h:ArS S nb nb L):L=dZ (tS S nb).1:=by
 have hl:=E7 S nb;apply List.ext_getElem?;intro k;unfold dZ;rw [kI]
 by_cases hk:k<nb
 ·have:=h.at_ k hk
  rw [eY,eY,jA (by rw [h.len];exact hk),jA (l:=(tS S nb).1) (by omega)] at this;rw [jA (by rw [h.len];exact hk),jA (by omega)];simpa using this
 ·rw [List.getElem?_eq_none (by rw [h.len];omega),List.getElem?_eq_none (by omega)];rfl
end
section
open Go.ChangeShapes Go.WideShapes Go.ChangeAt Go.RowKit Go.Joins Go.Deep
attribute [local go_sem ↓] aE
attribute [local go_sem] aK aH aM aY cE.cells
def bT:bE where
 nodes:=[⟨#[65]⟩,⟨#[66]⟩,⟨#[67]⟩]
 sws:=[]
 brs:=[⟨⟨#[76]⟩,⟨#[65]⟩,⟨#[66]⟩,1000,1000,0,0,0,0⟩,⟨⟨#[77]⟩,⟨#[66]⟩,⟨#[67]⟩,500,1000,0,0,0,0⟩]
 gns:=[]
 lds:=[]
 sts:=[]
theorem eL (w:Wo) :
    Calls Tryz.prog 53 #[] w fun e w'=>∃ h:cE,e=.returned (.agg h.cells)/\cS w' w'.heap.size h bT/\Below w.heap.size w w':=by
 go_enter Tryz.func53,Tryz.ntmps53
 go_wp2_with fail
 refine bodyPost_ret (v:=.agg (cE.cells ⟨some ⟨w.heap.size+1,0,none⟩,3,3,none,0,0,some ⟨w.heap.size+1+1,0,none⟩,2,2,none,0,0,none,0,0,none,0,0⟩)) (by simp [results,Tryz.results53,go_sem]) rfl ⟨_,rfl,?_,?_⟩
 ·have f1:∀ (W:Wo),wZ W W.heap.size none 0 []:=fun W=>⟨rfl,rfl,fun h=>absurd h (by decide)⟩
  have f3:∀ (W:Wo),xB W W.heap.size none 0 []:=fun W=>⟨rfl,rfl,fun h=>absurd h (by decide)⟩;have f4:∀ (W:Wo),xA W W.heap.size none 0 []:=fun W=>⟨rfl,rfl,fun h=>absurd h (by decide)⟩;have f5:∀ (W:Wo),w_ W W.heap.size none 0 []:=fun W=>⟨rfl,rfl,fun h=>absurd h (by decide)⟩;have oE:∀ s∈bT.nodes,s.size<=maxLen:=by decide+kernel
  have kK:∀ s∈bT.sws,s.name.size<=maxLen:=by decide+kernel
  have lQ:∀ s∈bT.brs,s.name.size<=maxLen:=by decide+kernel
  have hz3:∀ s∈bT.gns,s.name.size<=maxLen:=by decide+kernel
  have hz4:∀ s∈bT.lds,s.name.size<=maxLen:=by decide+kernel
  have hz5:∀ s∈bT.sts,s.name.size<=maxLen:=by decide+kernel
  refine ⟨eR (zs:=bT.nodes) (T:=9) ?_ (by simp),f1 _,⟨rfl,uJ (vs:=bT.brs.flatMap Br.cells) (T:=54) ?_ rfl (by simp)⟩,f3 _,f4 _,f5 _,
   by simp,by simp,by simp,by simp,by simp,by simp,oE,kK,lQ,hz3,hz4,hz5⟩
  ·exact (aG.new_ (by simp)).alloc _
  ·exact aG.new_ (by simp)
 ·exact ((bA).alloc (by simp) _).alloc (by simp;omega) _
theorem fF (a b:ByteArray) (w:Wo) :
    Calls Tryz.prog 24 #[.string a,.string b] w fun e w'=>e=.returned (.agg #[.int .i64 0,.string a,.string b,.int .i64 1])/\Below w.heap.size w w':=by
 go_enter Tryz.func24,Tryz.ntmps24
 go_wp2_with fail
 refine bodyPost_ret (v:=.agg #[.int .i64 0,.string a,.string b,.int .i64 1]) (by simp [results,Tryz.results24,go_sem]) rfl ⟨rfl,?_⟩
 first | exact bR | exact bA
end
section
open Go.ChangeShapes Go.WideShapes Go.ChangeAt Go.RowKit Go.Joins
attribute [local go_sem ↓] aE
attribute [local go_sem] aK aH aM aY
theorem aHY:(Tryz.prog.info? 57).map (fun i=>(i.zero,i.size,i.bytes))=some (some (.agg #[.int .i64 0,.string ⟨#[]⟩,.string ⟨#[]⟩,.int .i64 0]),4,48):=by kernel_rfl
def gP (w:Wo) (base:Nat) (v:Value) (ms:List Mi):Prop:=w.ownsRow base 57 4 v ms.length (ms.flatMap Mi.cells)
theorem gP.keep {w w':Wo} {base:Nat} {v:Value} {ms:List Mi} (h:gP w base v ms) (hb:Below w.heap.size w w'):gP w' base v ms:=aDf h hb
theorem gP.mono {w:Wo} {base base':Nat} {v:Value} {ms:List Mi} (h:gP w base v ms) (hb:base'<=base):gP w base' v ms:=
 ⟨h.1,h.2.imp id fun ⟨g,cap,cur,h1,h2,h3⟩=>⟨g,cap,cur,h1,cV hb h2,h3⟩⟩
theorem TZ (w:Wo) (base:Nat):gP w base (.slice none 0 0) []:=aDe _ _ _ _
theorem gP.rd {w:Wo} {base:Nat} {v:Value} {ms:List Mi} (h:gP w base v ms):∃ A c,v=.slice A ms.length c/\eG w w.heap.size A ms.length ms/\ms.length<=c/\c<=maxLen:=by
 obtain ⟨A,c,hv,hr,h1,h2,_⟩:=sL h;exact ⟨A,c,hv,⟨rfl,hr⟩,h1,h2⟩
theorem gP.rd2 {w:Wo} {base:Nat} {A:OA} {n c:Nat} {ms:List Mi} (h:gP w base (.slice A n c) ms):eG w w.heap.size A n ms/\n<=c/\c<=maxLen:=by
 obtain ⟨A',c',e,h1,h2,h3⟩:=h.rd;injection e with e1 e2 e3;subst e1;subst e2;subst e3;exact ⟨h1,h2,h3⟩
theorem aAi (ms:List Mi):∀ u∈ms.flatMap Mi.cells,u.oneCell'=true:=fun u hu=>by
 obtain ⟨m,_,hm⟩:=List.mem_flatMap.1 hu;simp [Mi.cells] at hm;rcases hm with rfl | rfl | rfl | rfl<;>rfl
theorem T0 {w:Wo}:gP (w.alloc (.cells #[] 57)) w.heap.size (.slice (some ⟨w.heap.size,0,none⟩) 0 0) []:=XN w _ _
section
variable {o:Oper} {a:Act} {w:Wo} {Q:Exit->Act->World->Prop}
theorem aCj {K:Act->World->Prop} (s x:Operand) (t:TypeId)
    (ho:o.op=.call { callee:=.builtin .append,args:=#[s,x],argTypes:=#[t,t] }) (base:Nat) (ht:Tryz.prog.underlying t=some (.slice 57))
    (v:Value) (xs:List Mi) (hsv:a.eval s=v) (bF:gP w base v xs)
    (A:OA) (m c:Nat) (ys:List Mi) (hx:a.eval x=.slice A m c) (hr:eG w w.heap.size A m ys) (wX:xs.length+m<=1000000000) (c_:base<=w.heap.size) (N:Nat) (hN:(xs++ys).length=N)
    (h:∀ A' c' w',gP w' base (.slice A' N c') (xs++ys)->Below base w w'->w.grownBy w' v.ownBlock->K (a.put o.dst (.slice A' N c')) w'):o.wp Tryz.prog a w K Q:=by
 obtain ⟨i0,kC,oE,kK,lQ⟩:=info_parts aHY;obtain ⟨hm,hr⟩:=hr;have zY:∀ w',w.grownBy w' v.ownBlock->Below base w w':=fun w' hg=>bR.grown hg c_ fun k hk=>by
  rcases bF.2 with ⟨e1,_⟩ | ⟨g,cap,cur,e1,e2,_⟩
  ·rw [e1] at hk;simp [Value.ownBlock] at hk
  ·rw [e1] at hk
   simp [Value.ownBlock] at hk;omega
 have fin:∀ v' w',w'.ownsRow base 57 4 v' (xs.length+m) (xs.flatMap Mi.cells++ys.flatMap Mi.cells)->w.grownBy w' v.ownBlock->K (a.put o.dst v') w':=fun v' w' k1 k2=>by
  have k3:gP w' base v' (xs++ys):=by
   unfold gP;rw [List.flatMap_append,iC,hm];exact k1
  obtain ⟨A',c',e,_⟩:=k3.rd;subst e;subst hN;exact h A' c' w' k3 (zY _ k2) k2
 rcases Nat.eq_zero_or_pos m with rfl | h0
 ·have hys:ys=[]:=List.eq_nil_of_length_eq_zero hm
  subst hys;obtain ⟨A1,c1,hv,_,VD,_⟩:=bF.rd;have pX:Src Tryz.prog i0.size t (.slice A 0 c) 0 [] w:=by
   cases A with
   | none=>exact Src.ofNil w ht c
   | some ad=>exact Src.ofSlice w ht ad 0 c [] (by simp) (fun j u hu=>by simp at hu) (fun u hu=>by cases hu)
  have UX:=run_append_nothing (P:=Tryz.prog) w t t o.type 57 i0 ht kC A1 xs.length c1 VD (.slice A 0 c) pX;unfold Oper.wp execOp;simp only [ho,resolve,invoke,builtin,Sem.run_bind,Sem.run_pure,Result.andThen_ok,List.map_toArray,List.map_cons,List.map_nil,hsv,hx,hv,UX];have:=fin v w (by have h:=bF;unfold gP at h;simpa using h) (World.grownBy.refl _ _);rw [hv] at this;exact this
 ·obtain ⟨b,off,rfl,hb,hc⟩:=hr.2 h0
  exact wp_append_own w s x t ho base 57 i0 _ 4 48 ht kC oE kK lQ rfl (by omega) v _ _ hsv bF ⟨b,off,none⟩ m c (ys.flatMap Mi.cells) hx (by rw [pL Mi.len,hm]) (fun j u hu=>by rw [Addr.add_lit];exact hc j u hu) (aAi ys) (by simp only [maxLen];omega) (by omega) c_ fun v' w' k1 k2 _=>fin v' w' k1 k2
theorem L6 {ops:Array Oper} {rest:List Oper} (CE:o.guard=none) (s x:Operand) (t:TypeId)
    (ho:o.op=.call { callee:=.builtin .append,args:=#[s,x],argTypes:=#[t,t] }) (base:Nat) (ht:Tryz.prog.underlying t=some (.slice 57))
    (v:Value) (xs:List Mi) (hsv:a.eval s=v) (bF:gP w base v xs)
    (A:OA) (m c:Nat) (ys:List Mi) (hx:a.eval x=.slice A m c) (hr:eG w w.heap.size A m ys) (wX:xs.length+m<=1000000000) (c_:base<=w.heap.size) (N:Nat) (hN:(xs++ys).length=N)
    (h:∀ A' c' w',gP w' base (.slice A' N c') (xs++ys)->Below base w w'->w.grownBy w' v.ownBlock->wpList Tryz.prog ops Q rest (a.put o.dst (.slice A' N c')) w'):wpList Tryz.prog ops Q (o::rest) a w:=by
 refine wpList_plain CE fun K hK=>?_;exact aCj s x t ho base ht v xs hsv bF A m c ys hx hr wX c_ N hN fun A' c' w' a1 a2 a3=>hK _ _ (h A' c' w' a1 a2 a3)
end
theorem eG.take {w:Wo} {B n m:Nat} {A:OA} {xs:List Mi} (h:eG w B A n xs) (hm:m<=n):eG w B A m (xs.take m):=by
 obtain ⟨h1,h2,h3⟩:=h;refine ⟨by rw [jP,h1];omega,⟨?_,fun h0=>?_⟩⟩
 ·rw [pL Mi.len,jP,h1,Nat.min_eq_left hm]
 ·obtain ⟨b,off,e,aW,hc⟩:=h3 (by omega)
  refine ⟨b,off,e,aW,fun j u hu=>hc j u ?_⟩;have e2:xs.flatMap Mi.cells=(xs.take m).flatMap Mi.cells++(xs.drop m).flatMap Mi.cells:=by rw [<-List.flatMap_append,List.take_append_drop]
  rw [e2,xQ (dP.1 hu).1];exact hu
theorem eG.drop {w:Wo} {B n i:Nat} {b off:Nat} {xs:List Mi} (h:eG w B (some ⟨b,off,none⟩) n xs) (hi:i<=n):eG w B (some ⟨b,off+i*4,none⟩) (n-i) (xs.drop i):=by
 obtain ⟨h1,h2,h3⟩:=h;refine ⟨by rw [EI,h1],⟨?_,fun h0=>?_⟩⟩
 ·rw [pL Mi.len,EI,h1]
 ·obtain ⟨b',off',e,aW,hc⟩:=h3 (by omega)
  injection e with e;injection e with e1 e2;subst e1;subst e2;refine ⟨b,off+i*4,rfl,aW,fun j u hu=>?_⟩;have e2:xs.flatMap Mi.cells=(xs.take i).flatMap Mi.cells++(xs.drop i).flatMap Mi.cells:=by rw [<-List.flatMap_append,List.take_append_drop]
  have hl:((xs.take i).flatMap Mi.cells).length=i*4:=by rw [pL Mi.len,jP,h1,Nat.min_eq_left hi]
  have:=hc (i*4+j) u (by rw [e2,AZ (by omega),hl,Nat.add_sub_cancel_left];exact hu);rwa [<-Nat.add_assoc] at this
theorem eG.tail {w:Wo} {B n c:Nat} {b off:Nat} {xs:List Mi} (h:eG w B (some ⟨b,off,none⟩) n xs) (hc:n<=c) {i:Nat} (hi:i<=n):eG w B (if c=i then some ⟨b,off,none⟩ else some ⟨b,off+i*4,none⟩) (n-i) (xs.drop i):=by
 have h2:=h.drop hi
 by_cases hci:c=i
 ·refine ⟨h2.1,h2.2.1,fun h0=>by omega⟩
 ·rw [if_neg hci];exact h2
end
section
open Go.ChangeShapes Go.WideShapes Go.ChangeAt Go.RowKit
attribute [local go_sem ↓] aE
attribute [local go_sem] aK aH aM aY
theorem aC0 (w:Wo) (B:Nat):wY w B none 0 []:=⟨rfl,⟨rfl,fun h=>absurd h (by decide)⟩,fun v hv=>by cases hv⟩
theorem iF.keep5 {w:Wo} {p gc gd n n' T:Nat} {u:Rv} {qs:List Rat} (h:iF w w.heap.size (some ⟨gc,0,none⟩) n qs) (hb:aG w p T #[.slice none 0 0,.bool false,.slice none 0 0,.bool false,.slice none 0 0]):iF (put5 w p gd n' u) (put5 w p gd n' u).heap.size (some ⟨gc,0,none⟩) n qs:=by
 obtain ⟨vs,h1,h2,h3,h4⟩:=h;refine ⟨vs,h1,h2,⟨h3.1,fun hn=>?_⟩,fun i q v hq hv=>(h4 i q v hq hv).keep5 hb⟩;obtain ⟨b,off,e,aW,hc⟩:=h3.2 hn;injection e with e;injection e with e1 e2;subst e1;subst e2;obtain ⟨v0,tI⟩:∃ v0,vs[0]?=some v0:=eO (by omega);have cP:gc≠p:=by
  rintro rfl;have h5:=hc 0 (.bool v0.b1) (by
   have:=uH tI 0 (by decide);rw [Nat.zero_mul,Nat.zero_add] at this;rw [this];rfl)
  rw [Nat.zero_add,hb.cell 0] at h5;cases h5
 refine ⟨gc,0,rfl,by rw [Z8];exact aW,fun j y hy=>?_⟩;have off:∀ (w:Wo) (i:Nat) (u v:Value),w.cell? ⟨gc,0+j,none⟩=some v->(w.setCell ⟨p,i,none⟩ u).cell? ⟨gc,0+j,none⟩=some v:=fun w i u v hv=>by
  rw [World.cell?_setCell_other _ _ _ _ (fun e=>cP (by injection e with e;exact e.symm))];exact hv
 exact off _ _ _ _ (off _ _ _ _ (off _ _ _ _ (off _ _ _ _ (off _ _ _ _ (hc j y hy)))))
theorem xS {q:Rat} (h:bZ q):(bV q).size<=maxLen:=by have:=aCq h;unfold maxLen;omega
theorem QV {α:Type} {el:α->List Value} {sz:Nat} (eC:∀ a,(el a).length=sz):∀ (xs:List α) (i:Nat) (x y:α) (j:Nat) (u:Value),xs[i]?=some x->j<sz->el y=(el x).set j u->(xs.set i y).flatMap el=(xs.flatMap el).set (i*sz+j) u
 | [],i,x,y,j,u,h,_,_=>by simp at h
 | a::r,0,x,y,j,u,h,hj,he=>by
  simp at h;subst h;simp only [List.set_cons_zero,List.flatMap_cons,he,Nat.zero_mul,Nat.zero_add];rw [List.set_append_left _ _ (by rw [eC];exact hj)]
 | a::r,i+1,x,y,j,u,h,hj,he=>by
  simp only [List.set_cons_succ,List.flatMap_cons];rw [QV eC r i x y j u (by simpa using h) hj he,List.set_append_right _ _ (by rw [eC,Nat.succ_mul];omega),eC];congr 2
  rw [Nat.succ_mul];omega
section
variable {w:Wo} {base n c i:Nat} {A:OA} {ms:List Mi} {m:Mi}
theorem gP.at_ (h:gP w base (.slice A n c) ms) (hm:ms[i]?=some m):∃ g,A=some ⟨g,0,none⟩/\base<=g/\g<w.heap.size/\w.cell? ⟨g,i*4,none⟩=some (.int .i64 m.kind)/\w.cell? ⟨g,i*4+1,none⟩=some (.string m.name)/\w.cell? ⟨g,i*4+2,none⟩=some (.string m.txt)/\w.cell? ⟨g,i*4+3,none⟩=some (.int .i64 m.wt)/\(∀ o,w.frozen? ⟨g,o,none⟩=false)/\
    ∀ (j:Nat) (u:Value) (m':Mi),j<4->Mi.cells m'=(Mi.cells m).set j u->gP (w.setCell ⟨g,i*4+j,none⟩ u) base (.slice A n c) (ms.set i m'):=by
 have hi:=(dP.1 hm).1;unfold gP at h;rcases h.2 with ⟨h1,h2⟩ | ⟨g,cap,cur,h1,h2,h3,h4,h5,h6,h7⟩
 ·omega
 ·have hb:aG w g 57 cur:=h3
  have key:∀ j y,j<4->(Mi.cells m)[j]?=some y->w.cell? ⟨g,i*4+j,none⟩=some y:=fun j y hj hy=>by
   rw [hb.cell];have:=jT Mi.len ms i m hm j hj;rw [hy,<-h7,List.getElem?_take] at this
   split at this
   ·rwa [Array.getElem?_toList] at this
   ·cases this
  injection h1 with e1 e2 e3;refine ⟨g,e1,h2,hb.lt,key 0 _ (by decide) rfl,key 1 _ (by decide) rfl,key 2 _ (by decide) rfl,key 3 _ (by decide) rfl,fun o=>hb.frozen o,fun j u m' hj he=>?_⟩;unfold gP;rw [lF,QV Mi.len ms i m m' j u hm hj he];refine ⟨by rw [lF];exact h.1,.inr ⟨g,cap,cur.setIfInBounds (i*4+j) u,by rw [e1,e2,e3],h2,hb.set_ _ u,h4,h5,by rw [Array.size_setIfInBounds];exact h6,?_⟩⟩;rw [Array.toList_setIfInBounds,rJ _ _ _ _ (by omega),h7]
end
theorem TY {w:Wo}:bJ oX (w.alloc (.cells #[] 93)) w.heap.size 93 1 (.slice (some ⟨w.heap.size,0,none⟩) 0 0) 0 []:=
 ⟨rfl,.inr ⟨w.heap.size,0,#[],rfl,lR,aG.new w _ _,lR,by simp [maxLen],rfl,rfl,fun u hu=>by simp at hu⟩⟩
theorem bJ.mono {S:Value->Prop} {w:Wo} {base base' e size n:Nat} {v:Value} {xs:List Value} (h:bJ S w base e size v n xs) (hb:base'<=base):bJ S w base' e size v n xs:=
 ⟨h.1,h.2.imp id fun ⟨g,cap,cur,h1,h2,h3⟩=>⟨g,cap,cur,h1,cV hb h2,h3⟩⟩
theorem FB {ops:Array Oper} {rest:List Oper} {o:Oper} {a:Act} {w:Wo} {Q:Exit->Act->World->Prop} (CE:o.guard=none) (s x:Operand) (t:TypeId)
    (ho:o.op=.call { callee:=.builtin .append,args:=#[s,x],argTypes:=#[t,t] }) (base:Nat) (ht:Tryz.prog.underlying t=some (.slice 93))
    (v:Value) (hs:List Hd) (hsv:a.eval s=v) (bF:bJ oX w base 93 1 v hs.length (hs.map Hd.val))
    (A:OA) (m c:Nat) (h2:List Hd) (hm:h2.length=m) (hx:a.eval x=.slice A m c) (hr:Rd w w.heap.size 1 A m (h2.map Hd.val)) (wX:hs.length+m<=1000000000) (c_:base<=w.heap.size) (N:Nat) (hN:(hs++h2).length=N)
    (h:∀ A' c' w',bJ oX w' base 93 1 (.slice A' N c') (hs++h2).length ((hs++h2).map Hd.val)->Below base w w'->dY oX base 93 w w'->wpList Tryz.prog ops Q rest (a.put o.dst (.slice A' N c')) w'):wpList Tryz.prog ops Q (o::rest) a w:=by
 refine wpList_plain CE fun K hK=>?_;exact o8 s x t ho base ht v hs hsv bF A m c h2 hm hx hr wX c_ N hN fun A' c' w' a1 a2 a3=>hK _ _ (h A' c' w' a1 a2 a3)
theorem aMB (A:OA) (n c:Nat) (hs:List Hd) (w:Wo) (hl:hs.length=n) (hr:Rd w w.heap.size 1 A n (hs.map Hd.val)) (hn:n<=1000000) :
    Calls Tryz.prog 89 #[.slice A n c] w fun e w'=>Below w.heap.size w w'/\∃ A' c',e=.returned (.slice A' n c')/\bJ oX w' w.heap.size 93 1 (.slice A' n c') hs.length (hs.map Hd.val):=by
 have q22:∀ (w:Wo) (a:OA) (n c n' c':Nat),(binOp .eql 92 (.slice a n c) (.slice none n' c')).run Tryz.prog w=.ok (.bool a.isNone) w:=fun w a n c n' c'=>Lib.run_eql_slice_nil w _ _ a n c n' c' Tryz.underlying92;have HL:=lH hl;have HR:=lH hr;cases A with
 | none=>
  have h0:n=0:=by
   rcases Nat.eq_zero_or_pos n with h | h
   ·exact h
   ·obtain ⟨b,off,e,_⟩:=hr.2 h;cases e
  subst h0;have aIc:hs=[]:=List.eq_nil_of_length_eq_zero hl;subst aIc;clear hl hr HL HR;go_enter Tryz.func89,Tryz.ntmps89
  go_wp2_with fail
  go_ret;exact ⟨bR,none,0,rfl,dO _ _ _ _ _⟩
 | some ad=>
  clear hl hr;have hz:Below w.heap.size w (w.alloc (.cells #[] 93)):=bA;have HZ:=lH hz;clear hz;go_enter Tryz.func89,Tryz.ntmps89
  go_wp2_with (at_builtin;refine FB rfl _ _ 92 rfl w.heap.size Tryz.underlying92 _ [] rfl TY (some ad) n c hs HL.o rfl ?qc1 ?qc2 ?qc3 n ?qc4 ?_)
  case qc1=>exact (HR.o.below HZ.o lR).more HZ.o.size
  case qc2=>simp only [zW_];omega
  case qc3=>exact HZ.o.size
  case qc4=>rw [List.nil_append];exact HL.o
  intro A' c' w' ho hb _;have HO:Hid (bJ oX w' w.heap.size 93 1 (.slice A' n c') hs.length (hs.map Hd.val)):=lH ho;have HB:=lH (HZ.o.trans hb);clear ho hb
  go_wp2_with fail
  go_ret;exact ⟨HB.o,A',c',rfl,HO.o⟩
theorem RJ (A:OA) (n c:Nat) (ms:List Mi) (w:Wo) (hr:eG w w.heap.size A n ms) (hn:n<=1000000) :
    Calls Tryz.prog 52 #[.slice A n c] w fun e w'=>Below w.heap.size w w'/\∃ A' c',e=.returned (.slice A' n c')/\gP w' w.heap.size (.slice A' n c') ms:=by
 have q22:∀ (w:Wo) (a:OA) (n c n' c':Nat),(binOp .eql 31 (.slice a n c) (.slice none n' c')).run Tryz.prog w=.ok (.bool a.isNone) w:=fun w a n c n' c'=>Lib.run_eql_slice_nil w _ _ a n c n' c' Tryz.underlying31;have HR:=lH hr;cases A with
 | none=>
  have h0:n=0:=by
   rcases Nat.eq_zero_or_pos n with h | h
   ·exact h
   ·obtain ⟨b,off,e,_⟩:=hr.2.2 h;cases e
  subst h0;have aIc:ms=[]:=List.eq_nil_of_length_eq_zero hr.1;subst aIc;clear hr HR;go_enter Tryz.func52,Tryz.ntmps52
  go_wp2_with fail
  go_ret;exact ⟨bR,none,0,rfl,TZ _ _⟩
 | some ad=>
  clear hr;have hz:Below w.heap.size w (w.alloc (.cells #[] 57)):=bA;have HZ:=lH hz;clear hz;go_enter Tryz.func52,Tryz.ntmps52
  go_wp2_with (at_builtin;refine L6 rfl _ _ 31 rfl w.heap.size Tryz.underlying31 _ [] rfl T0 (some ad) n c ms rfl ?qc1 ?qc2 ?qc3 n ?qc4 ?_)
  case qc1=>exact (HR.o.below HZ.o lR).more HZ.o.size
  case qc2=>simp only [zW_];omega
  case qc3=>exact HZ.o.size
  case qc4=>rw [List.nil_append];exact HR.o.1
  intro A' c' w' ho hb _;have HO:Hid (gP w' w.heap.size (.slice A' n c') ms):=lH ho;have HB:=lH (HZ.o.trans hb);clear ho hb
  go_wp2_with fail
  go_ret;exact ⟨HB.o,A',c',rfl,HO.o⟩
theorem iF.keepsI {w w':Wo} {A:OA} {n base e:Nat} {qs:List Rat} (h:iF w w.heap.size A n qs) (k:dY rD base e w w'):iF w' w'.heap.size A n qs:=by
 obtain ⟨vs,h1,h2,h3,h4⟩:=h;refine ⟨vs,h1,h2,⟨h3.1,fun hn=>?_⟩,fun i q v hq hv=>(h4 i q v hq hv).keepsI k⟩;obtain ⟨b,off,e,aW,hc⟩:=h3.2 hn;refine ⟨b,off,e,jO aW k.size,fun j u hu=>k.cell _ _ (hc j u hu) ?_⟩;rintro ⟨y,hy⟩;exact (y_ vs u (cO hu)).2 _ _ hy
theorem jZ.keepsI {w w':Wo} {A:OA} {n base e:Nat} {M:List (List Rat)} (h:jZ w w.heap.size A n M) (k:dY rD base e w w'):jZ w' w'.heap.size A n M:=by
 obtain ⟨hs,h1,h2,h3,h4⟩:=h;refine ⟨hs,h1,h2,⟨h3.1,fun hn=>?_⟩,fun i a q hh hq=>⟨(h4 i a q hh hq).1.keepsI k,(h4 i a q hh hq).2⟩⟩;obtain ⟨b,off,e,aW,hc⟩:=h3.2 hn;refine ⟨b,off,e,jO aW k.size,fun j u hu=>k.cell _ _ (hc j u hu) ?_⟩;rintro ⟨y,hy⟩;exact (aEy hs u (cO hu)).2 _ _ hy
end
