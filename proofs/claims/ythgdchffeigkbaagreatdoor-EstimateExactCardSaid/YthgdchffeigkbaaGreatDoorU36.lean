import Derived.Test.YthgdchffeigkbaaGreatDoorU31
set_option linter.unusedVariables false
set_option linter.unusedSimpArgs false
namespace Go.Proofs.YthgdchffeigkbaaGreatDoor
section
open Go.ChangeShapes Go.WideShapes Go.ChangeAt Go.RowKit
def cutAtK {α:Type} (l:List α) (k:Nat):List α:=l.take k++l.drop (k+1)
theorem cutAtK_get {α:Type} {l:List α} {k i:Nat}:(cutAtK l k)[i]?=if i<k then l[i]? else if k<l.length then l[i+1]? else none:=by
 unfold cutAtK
 by_cases h:i<k
 ·rw [if_pos h]
  by_cases hi:i<l.length
  ·rw [List.getElem?_append_left (by rw [List.length_take];omega),List.getElem?_take_of_lt h]
  ·rw [List.getElem?_eq_none (by rw [List.length_append,List.length_take,List.length_drop];omega),List.getElem?_eq_none (by omega)]
 ·rw [if_neg h]
  split
  ·rename_i hk
   rw [List.getElem?_append_right (by rw [List.length_take];omega),List.length_take,List.getElem?_drop];congr 1
   omega
  ·rename_i hk
   exact List.getElem?_eq_none (by rw [List.length_append,List.length_take,List.length_drop];omega)
end
section
open Go.ChangeShapes Go.WideShapes Go.ChangeAt Go.RowKit
theorem vf_zrs (n i:Nat):vf (zrs n) i=0:=by
 unfold vf zrs;rw [zD_,List.getElem?_replicate]
 split<;>rfl
theorem vf_set {l:List Rat} {i:Nat} {y:Rat} (h:i<l.length) (j:Nat):vf (l.set i y) j=if j=i then y else vf l j:=by
 unfold vf;rw [zD_,zD_,List.getElem?_set]
 by_cases hj:i=j
 ·subst hj;simp [h]
 ·rw [if_neg hj,if_neg (fun e=>hj e.symm)]
theorem rowR_dot {x:Net} (q:List Rat) (X:Fn):dotn (freeL x).length (vf (rowR x q)) X=sumTo (busN x) fun k=>vf q k*ext (freeB (islN x)) X k:=by
 unfold rowR freeL;exact pick_dot (freeB (islN x)) (vf q) X (busN x)
end
end Go.Proofs.YthgdchffeigkbaaGreatDoor
