import Derived.Test.YthgdchffeigkbaaGreatDoorU28
import Derived.Test.YthgdchffeigkbaaGreatDoorU31
set_option linter.unusedVariables false
set_option linter.unusedSimpArgs false
namespace Go.Proofs.YthgdchffeigkbaaGreatDoor
section
open Go.ChangeShapes Go.WideShapes Go.ChangeAt Go.RowKit
attribute [local go_sem ↓] execOp_call_val
attribute [local go_sem] callVal_func setCell_drewN alloc_drewN sEq_walk
def readE (x:Net) (ms:List Mi) (ss:List ByteArray):Int:=if mtCk x ms≠0 then mtCk x ms else angE ss.length (busN x) ss
theorem readE_parts {x:Net} {ms:List Mi} {ss:List ByteArray} (h:readE x ms ss=0):mtCk x ms=0∧ss.length=busN x∧∀ s∈ss,ratCk s.data.toList=0:=by
 unfold readE at h
 split at h
 ·exact absurd h (by assumption)
 ·rename_i h1
  unfold angE at h
  split at h
  ·omega
  ·rename_i h2
   exact ⟨by omega,by omega,ckAllR_ok.1 h⟩
end
section
open Go.ChangeShapes Go.WideShapes Go.ChangeAt Go.RowKit
structure FOt (n D B:Nat) (s:List Rat×Rat):Prop where
 len:s.1.length=n
 cf:∀ p∈s.1,Ot D B p
 fr:Ot (D*1000) B s.2
theorem FOt.mono {n D B C:Nat} {s:List Rat×Rat} (h:FOt n D B s) (hb:B≤C):FOt n D C s:=⟨h.len,fun p hp=>ot_more (h.cf p hp) hb,ot_more h.fr hb⟩
theorem ot_sg {D B:Nat} {q:Rat} (mi:Bool) (h:Ot D B q):Ot D B (sg mi q):=by
 unfold sg;cases mi
 ·exact h
 ·exact ot_neg h
theorem FOt.add {n D B u v:Nat} {s:List Rat×Rat} {b c:Rat} (mi:Bool) (h:FOt n D B s) (hu:u<n) (hv:v<n) (hb:Ot D 2000 b) (hc:Ot (D*1000) 2000 c):FOt n D (B+4000) (addF (sg mi b) u v s.1,s.2+sg mi c):=by
 have hb':=ot_sg mi hb;have h1:Ot D (B+2000) (vf s.1 u+sg mi b):=ot_add (h.cf _ (zC_ (vf_get (i:=u) (by rw [h.len];exact hu)))) hb';have h2:∀ p∈s.1.set u (vf s.1 u+sg mi b),Ot D (B+2000) p:=fun p hp=>by
  rcases List.mem_or_eq_of_mem_set hp with e | e
  ·exact ot_more (h.cf p e) (by omega)
  ·rw [e];exact h1
 refine ⟨by rw [addF_len];exact h.len,fun p hp=>?_,ot_more (ot_add h.fr (ot_sg mi hc)) (by omega)⟩;unfold addF at hp;rcases List.mem_or_eq_of_mem_set hp with e | e
 ·exact ot_more (h2 p e) (by omega)
 ·rw [e,Rat.sub_eq_add_neg]
  exact ot_more (ot_add (h2 _ (zC_ (vf_get (i:=v) (by rw [List.length_set,h.len];exact hv)))) (ot_neg hb')) (by omega)
end
end Go.Proofs.YthgdchffeigkbaaGreatDoor
