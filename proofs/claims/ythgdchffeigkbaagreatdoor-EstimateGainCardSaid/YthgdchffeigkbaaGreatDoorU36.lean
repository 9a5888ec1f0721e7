import Derived.Test.YthgdchffeigkbaaGreatDoorU31
set_option linter.unusedVariables false
set_option linter.unusedSimpArgs false
namespace Go.Proofs.YthgdchffeigkbaaGreatDoor
section
open Go.ChangeShapes Go.WideShapes Go.ChangeAt Go.RowKit
def cutAtK {α:Type} (l:List α) (k:Nat):List α:=l.take k++l.drop (k+1)
theorem cutAtK_get {α:Type} {l:List α} {k i:Nat}:(cutAtK l k)[i]?=if i<k then l[i]? else if k<l.length then l[i+1]? else none:=by
 unfold cutAtK
 by_cases h:i<k
 ·rw [if_pos h]
  by_cases hi:i<l.length
  ·rw [zR_ (by rw [zF_];omega),List.getElem?_take_of_lt h]
  ·rw [List.getElem?_eq_none (by rw [zE_,zF_,zS_];omega),List.getElem?_eq_none (by omega)]
 ·rw [if_neg h]
  split
  ·rename_i hk
   rw [zN_ (by rw [zF_];omega),zF_,List.getElem?_drop];congr 1
   omega
  ·rename_i hk
   exact List.getElem?_eq_none (by rw [zE_,zF_,zS_];omega)
theorem mtCk_parts {x:Net} {ms:List Mi} (h:mtCk x ms=0):netCk x=0∧ms.length≤64∧∀ m∈ms,miCk x m=0:=by
 unfold mtCk at h
 split at h
 ·exact absurd h (by assumption)
 ·rename_i hn
  split at h
  ·omega
  ·exact ⟨by omega,by omega,misGo_ok h⟩
theorem vf_zrs (n i:Nat):vf (zrs n) i=0:=by
 unfold vf zrs;rw [zD_,List.getElem?_replicate]
 split<;>rfl
theorem vf_set {l:List Rat} {i:Nat} {y:Rat} (h:i<l.length) (j:Nat):vf (l.set i y) j=if j=i then y else vf l j:=by
 unfold vf;rw [zD_,zD_,List.getElem?_set]
 by_cases hj:i=j
 ·subst hj;simp [h]
 ·rw [if_neg hj,if_neg (fun e=>hj e.symm)]
theorem rowR_dot {x:Net} (q:List Rat) (X:Fn):dotn (freeL x).length (vf (rowR x q)) X=sumTo (busN x) fun k=>vf q k*ext (freeB (islN x)) X k:=by
 unfold rowR freeL;exact pick_dot (freeB (islN x)) (vf q) X (busN x)
theorem hd_noI (hs:List Hd):∀ u∈hs.map Hd.val,u.oneCell'=true∧NoI u:=fun u hu=>by
 obtain ⟨h,_,rfl⟩:=List.mem_map.1 hu;exact ⟨rfl,fun k x e=>by cases e⟩
theorem Rd.heads {w:World} {B:Nat} {b off n:Nat} {hs:List Hd} (h:Rd w B 1 (some ⟨b,off,none⟩) n (hs.map Hd.val)) (i m:Nat) (him:i+m≤n):Rd w B 1 (some ⟨b,off+i,none⟩) m (((hs.drop i).take m).map Hd.val):=by
 have hl:=h.1;rw [zG_] at hl;refine ⟨by rw [zG_,zF_,zS_];omega,fun h0=>?_⟩;obtain ⟨b',off',e,hlt,hc⟩:=h.2 (by omega);injection e with e;injection e with e1 e2;subst e1;subst e2;refine ⟨b,off+i,rfl,hlt,fun j u hu=>?_⟩;rw [List.map_take,List.map_drop] at hu;have hj:=(zB_.1 hu).1;rw [zF_] at hj;rw [List.getElem?_take_of_lt (by omega),List.getElem?_drop] at hu;have:=hc (i+j) u hu;rwa [←Nat.add_assoc] at this
theorem Rd.tail {w:World} {B:Nat} {b off n c:Nat} {hs:List Hd} (h:Rd w B 1 (some ⟨b,off,none⟩) n (hs.map Hd.val)) (hc:n≤c) {i:Nat} (hi:i≤n):Rd w B 1 (if c=i then some ⟨b,off,none⟩ else some ⟨b,off+i,none⟩) (n-i) ((hs.drop i).map Hd.val):=by
 have hl:=h.1;rw [zG_] at hl;have h2:=h.heads i (n-i) (by omega);rw [zH_ (by rw [zS_];omega)] at h2
 by_cases hci:c=i
 ·refine ⟨h2.1,fun h0=>by omega⟩
 ·rw [if_neg hci];exact h2
def Hds (w:World) (hs:List Hd) (M:List (List Rat)):Prop:=hs.length=M.length∧∀ (i:Nat) (h:Hd) (q:List Rat),hs[i]?=some h→M[i]?=some q→RdQ w w.heap.size h.A h.n q∧h.n≤h.c∧h.c≤maxLen
theorem Hds.up {w w':World} {hs:List Hd} {M:List (List Rat)} (h:Hds w hs M) (hb:Below w.heap.size w w'):Hds w' hs M:=⟨h.1,fun i a q hh hq=>⟨((h.2 i a q hh hq).1.below hb lR).more hb.size,(h.2 i a q hh hq).2⟩⟩
theorem Hds.cut {w:World} {hs:List Hd} {M:List (List Rat)} (h:Hds w hs M) (k:Nat):Hds w (cutAtK hs k) (cutAtK M k):=by
 refine ⟨by unfold cutAtK;simp [h.1],fun i a q hh hq=>?_⟩;rw [cutAtK_get] at hh hq;rw [h.1] at hh
 split at hh
 ·rw [if_pos ‹_›] at hq;exact h.2 _ _ _ hh hq
 ·rw [if_neg ‹_›] at hq
  split at hh
  ·rw [if_pos ‹_›] at hq;exact h.2 _ _ _ hh hq
  ·cases hh
theorem RdM.hds {w:World} {A:Option Addr} {n:Nat} {M:List (List Rat)} (h:RdM w w.heap.size A n M):∃ hs:List Hd,hs.length=n∧Rd w w.heap.size 1 A n (hs.map Hd.val)∧Hds w hs M:=by
 obtain ⟨hs,h1,h2,h3,h4⟩:=h;exact ⟨hs,h1,h3,h1.trans h2.symm,h4⟩
end
end Go.Proofs.YthgdchffeigkbaaGreatDoor
