import Derived.Test.YthgdchffeigkbaaGreatDoorU41
set_option linter.unusedVariables false
set_option linter.unusedSimpArgs false
namespace Go.Proofs.YthgdchffeigkbaaGreatDoor
section
def leftR (l:List Nat) (ms:List Mi) (k:Nat):List Mi:=((List.range k).filter fun j=>!decide (j∈l)).filterMap fun j=>ms[j]?
theorem leftR_in {l:List Nat} {ms:List Mi} {k:Nat} (h:k∈l):leftR l ms (k+1)=leftR l ms k:=by
 unfold leftR;rw [List.range_succ,List.filter_append];simp [h]
theorem leftR_out {l:List Nat} {ms:List Mi} {k:Nat} {m:Mi} (h:¬k∈l) (hm:ms[k]?=some m):leftR l ms (k+1)=leftR l ms k++[m]:=by
 unfold leftR;rw [List.range_succ,List.filter_append,List.filterMap_append];simp [h,hm]
theorem leftR_len {l:List Nat} {ms:List Mi} {k:Nat}:(leftR l ms k).length≤k:=by
 unfold leftR;refine zI_ (List.length_filterMap_le _ _) (zI_ (List.length_filter_le _ _) ?_);rw [List.length_range];exact lR
theorem leftR_mem {l:List Nat} {ms:List Mi} {k:Nat} {m:Mi} (h:m∈leftR l ms k):m∈ms:=by
 unfold leftR at h;obtain ⟨j,-,hj⟩:=List.mem_filterMap.1 h;exact zC_ hj
theorem sorted_same:∀ {a b:List Nat},a.Pairwise (·<·)→b.Pairwise (·<·)→(∀ j,j∈a↔j∈b)→a=b
 | [],[],_,_,_=>rfl
 | [],y::b,_,_,h=>absurd ((h y).2 (by simp)) (by simp)
 | x::a,[],_,_,h=>absurd ((h x).1 (by simp)) (by simp)
 | x::a,y::b,ha,hb,h=>by
  obtain ⟨h1,h2⟩:=List.pairwise_cons.1 ha;obtain ⟨h3,h4⟩:=List.pairwise_cons.1 hb;have e:x=y:=by
   have g1:=(h x).1 (by simp);have g2:=(h y).2 (by simp);rcases List.mem_cons.1 g1 with g1 | g1
   ·exact g1
   ·rcases List.mem_cons.1 g2 with g2 | g2
    ·exact g2.symm
    ·have:=h1 _ g2
     have:=h3 _ g1;omega
  subst e;congr 1
  refine sorted_same h2 h4 fun j=>?_
  constructor
  ·intro hj
   have:=h1 _ hj;rcases List.mem_cons.1 ((h j).1 (by simp [hj])) with g | g
   ·omega
   ·exact g
  ·intro hj
   have:=h3 _ hj;rcases List.mem_cons.1 ((h j).2 (by simp [hj])) with g | g
   ·omega
   ·exact g
theorem filterMap_get {ms:List Mi}:∀ {nums:List Nat} {rest:List Mi},nums.length=rest.length→(∀ (i j:Nat),nums[i]?=some j→rest[i]?=ms[j]?∧j<ms.length)→nums.filterMap (fun j=>ms[j]?)=rest
 | [],[],_,_=>rfl
 | [],y::b,h,_=>by simp at h
 | x::a,[],h,_=>by simp at h
 | x::a,y::b,hl,h=>by
  have h0:=(h 0 x rfl).1;have e:ms[x]?=some y:=h0.symm;rw [List.filterMap_cons,e];show y::_=_;rw [filterMap_get (nums:=a) (rest:=b) (by simpa using hl) fun i j hij=>h (i+1) j hij]
theorem ClI.left {ms rest:List Mi} {nums out:List Nat} (h:ClI ms nums rest out):leftR out ms ms.length=rest:=by
 have e:((List.range ms.length).filter fun j=>!decide (j∈out))=nums:=by
  refine sorted_same (List.pairwise_lt_range.filter _) h.inc fun j=>?_;rw [List.mem_filter,List.mem_range]
  constructor
  ·rintro ⟨h1,h2⟩
   exact (h.off j h1).2 (by simpa using h2)
  ·intro hj
   obtain ⟨i,hi⟩:=List.mem_iff_getElem?.1 hj;have h1:=(h.at_ i j hi).2;exact ⟨h1,by simpa using (h.off j h1).1 hj⟩
 unfold leftR;rw [e];exact filterMap_get h.len h.at_
theorem left_law {x:Net} {ms:List Mi} {out:List Nat} (h8:x.nodes.length≤8) (h10:x.brs.length≤10) (k8:ms.length≤8) (hz:∀ m∈ms,m.txt.size≤24) (hc:mtCk x ms=0) (hr:EReg x ms) (hg:ClG x (List.range ms.length) ms [] out) :
    EstC x (leftR out ms ms.length) 0∧(∀ q∈residR x (leftR out ms ms.length) (estR x (leftR out ms ms.length)),q=0)∧(leftR out ms ms.length).length+out.length=ms.length:=by
 obtain ⟨nums,ms',hi,hm,hr',hq⟩:=clG_end hg (mok_of h8 hc) hr (ClI.zero ms);rw [hi.left];have hsub:∀ m∈ms',m∈ms:=fun m h=>by rw [←hi.left] at h;exact leftR_mem h
 have hlen:ms'.length+out.length=ms.length:=by rw [←hi.len,Nat.add_comm];exact hi.tot
 have hc':=mtCk_sub hc hsub (by omega);have hs:=sml_of h8 h10 (by omega) (fun m h=>hz m (hsub m h)) hc';exact ⟨.inr (.inr (.inr ⟨hc',hr',est_fits hs hr',rfl⟩)),hq,hlen⟩
end
end Go.Proofs.YthgdchffeigkbaaGreatDoor
