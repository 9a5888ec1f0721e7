import Derived.Test.YthgdchffeigkbaaGreatDoorX10
set_option linter.unusedVariables false
set_option linter.unusedSimpArgs false
namespace Go.Proofs.YthgdchffeigkbaaGreatDoor
section
open Go.ChangeShapes Go.WideShapes Go.ChangeAt Go.RowKit
theorem mY {α:Type} {f:List ByteArray->α->Int} {nm:α->ByteArray}:∀ (l:List α) (seen:List ByteArray),(bM f nm seen l).1=0->∀ x∈l,∃ s,f s x=0
 | [],_,_,x,hx=>by simp at hx
 | y::r,seen,h,x,hx=>by
  unfold bM at h
  split at h
  ·rename_i h0;exact absurd h h0
  ·rename_i h0
   have h0':f seen y=0:=Decidable.not_not.1 h0;rcases List.mem_cons.1 hx with rfl | hx
   ·exact ⟨seen,h0'⟩
   ·exact mY r _ h x hx
theorem AK {nodes seen ends:List ByteArray} {name:ByteArray} (h:mG nodes seen name ends=0):zR name=true/\(∀ s∈ends,s∈nodes)/\¬(ends.length=2/\ends[0]?=ends[1]?)/\¬(seen.any (fun x=>pR name x)=true):=by
 unfold mG at h
 split at h
 ·omega
 ·rename_i h1
  split at h
  ·omega
  ·rename_i h2
   split at h
   ·omega
   ·rename_i h3
    split at h
    ·omega
    ·rename_i h4
     refine ⟨by cases hn:zR name<;>simp_all,fun s hs=>?_,h4,h2⟩;apply Classical.byContradiction;intro hns;apply h3;rw [List.any_eq_true];refine ⟨s,hs,?_⟩;have:nodes.any (fun x=>pR s x)=false:=by
      rw [List.any_eq_false];intro y hy hsy;exact hns (by rw [sK.1 hsy];exact hy)
     rw [this];rfl
structure cN (x:bE):Prop where
 l0:x.nodes.length<=24
 l1:x.sws.length<=32
 l2:x.brs.length<=24
 l3:x.gns.length<=10
 l4:x.lds.length<=12
 l5:x.sts.length<=4
 sw:∀ s∈x.sws,s.a∈x.nodes/\s.b∈x.nodes/\s.a≠s.b
 br:∀ b∈x.brs,b.fr∈x.nodes/\b.to∈x.nodes/\b.fr≠b.to/\b.bad=false
 gn:∀ g∈x.gns,g.node∈x.nodes/\g.bad=false
 ld:∀ g∈x.lds,g.node∈x.nodes/\g.bad=false
 st:∀ g∈x.sts,g.node∈x.nodes/\g.bad=false
theorem zQ {x:bE} (h:fK x=0):cN x:=by
 unfold fK at h
 split at h
 ·omega
 ·rename_i hl
  unfold lM at hl;unfold ck0 at h
  split at h
  ·rename_i h0;exact absurd h h0
  ·unfold ck1 at h
   split at h
   ·rename_i h0;exact absurd h h0
   ·rename_i h1
    unfold ck2 at h
    split at h
    ·rename_i h0;exact absurd h h0
    ·rename_i h2
     unfold ck3 at h
     split at h
     ·rename_i h0;exact absurd h h0
     ·rename_i h3
      unfold ck4 at h
      split at h
      ·rename_i h0;exact absurd h h0
      ·rename_i h4
       unfold ck5 at h;have a1:=mY _ _ (Decidable.not_not.1 h1);have a2:=mY _ _ (Decidable.not_not.1 h2);have a3:=mY _ _ (Decidable.not_not.1 h3);have a4:=mY _ _ (Decidable.not_not.1 h4);have a5:=mY _ _ h;refine ⟨by omega,by omega,by omega,by omega,by omega,by omega,fun s hs=>?_,fun s hs=>?_,fun s hs=>?_,fun s hs=>?_,fun s hs=>?_⟩
       ·obtain ⟨sn,hf⟩:=a1 s hs
        unfold fSw at hf
        split at hf
        ·rename_i h0;exact absurd hf h0
        ·rename_i h0
         obtain ⟨_,q2,q3,_⟩:=AK (Decidable.not_not.1 h0);exact ⟨q2 _ (by simp),q2 _ (by simp),fun e=>q3 ⟨rfl,by simp [e]⟩⟩
       ·obtain ⟨sn,hf⟩:=a2 s hs
        unfold VI at hf
        split at hf
        ·rename_i h0;exact absurd hf h0
        ·rename_i h0
         obtain ⟨_,q2,q3,_⟩:=AK (Decidable.not_not.1 h0);refine ⟨q2 _ (by simp),q2 _ (by simp),fun e=>q3 ⟨rfl,by simp [e]⟩,?_⟩;unfold Br.ck at hf;cases hb:s.bad<;>simp_all
       ·obtain ⟨sn,hf⟩:=a3 s hs
        unfold JL at hf
        split at hf
        ·rename_i h0;exact absurd hf h0
        ·rename_i h0
         obtain ⟨_,q2,q3,_⟩:=AK (Decidable.not_not.1 h0);refine ⟨q2 _ (by simp),?_⟩;cases hb:s.bad<;>simp_all
       ·obtain ⟨sn,hf⟩:=a4 s hs
        unfold VH at hf
        split at hf
        ·rename_i h0;exact absurd hf h0
        ·rename_i h0
         obtain ⟨_,q2,q3,_⟩:=AK (Decidable.not_not.1 h0);refine ⟨q2 _ (by simp),?_⟩;cases hb:s.bad<;>simp_all
       ·obtain ⟨sn,hf⟩:=a5 s hs
        unfold M9 at hf
        split at hf
        ·rename_i h0;exact absurd hf h0
        ·rename_i h0
         obtain ⟨_,q2,q3,_⟩:=AK (Decidable.not_not.1 h0);refine ⟨q2 _ (by simp),?_⟩;cases hb:s.bad<;>simp_all
def dN (nodes:List ByteArray) (s:ByteArray):Nat:=(gD (fun x=>pR s x) nodes 0).toNat
theorem rR {nodes:List ByteArray} {s:ByteArray} (h:s∈nodes):gD (fun x=>pR s x) nodes 0=(dN nodes s:Int)/\dN nodes s<nodes.length:=by
 rcases x_ (fun x=>pR s x) nodes 0 with ⟨h1,h2⟩ | ⟨i,y,h1,h2,h3,_⟩
 ·exact absurd rfl (BK.1 (h2 s h))
 ·unfold dN
  rw [h1];have:=(dP.1 h2).1;exact ⟨by simp,by simpa using this⟩
end
