import Derived.Test.YthgdchffeigkbaaGreatDoorU35
import Derived.Test.YthgdchffeigkbaaGreatDoorU38
set_option linter.unusedVariables false
set_option linter.unusedSimpArgs false
namespace Go.Proofs.YthgdchffeigkbaaGreatDoor
section
open Go.ChangeShapes Go.WideShapes Go.ChangeAt Go.RowKit
attribute [local go_sem ↓] execOp_call_val
attribute [local go_sem] callVal_func setCell_drewN alloc_drewN sEq_walk
theorem RdQ.keep5 {w:World} {p gc gd n n' T:Nat} {u:Rv} {qs:List Rat} (h:RdQ w w.heap.size (some ⟨gc,0,none⟩) n qs) (hb:Blk w p T #[.slice none 0 0,.bool false,.slice none 0 0,.bool false,.slice none 0 0]):RdQ (put5 w p gd n' u) (put5 w p gd n' u).heap.size (some ⟨gc,0,none⟩) n qs:=by
 obtain ⟨vs,h1,h2,h3,h4⟩:=h;refine ⟨vs,h1,h2,⟨h3.1,fun hn=>?_⟩,fun i q v hq hv=>(h4 i q v hq hv).keep5 hb⟩;obtain ⟨b,off,e,hlt,hc⟩:=h3.2 hn;injection e with e;injection e with e1 e2;subst e1;subst e2;obtain ⟨v0,hv0⟩:∃ v0,vs[0]?=some v0:=zX_ (by omega);have hne:gc≠p:=by
  rintro rfl;have h5:=hc 0 (.bool v0.b1) (by
   have:=rvs_at hv0 0 (by decide);rw [Nat.zero_mul,Nat.zero_add] at this;rw [this];rfl)
  rw [Nat.zero_add,hb.cell 0] at h5;cases h5
 refine ⟨gc,0,rfl,by rw [put5_size];exact hlt,fun j y hy=>?_⟩;have off:∀ (w:World) (i:Nat) (u v:Value),w.cell? ⟨gc,0+j,none⟩=some v→(w.setCell ⟨p,i,none⟩ u).cell? ⟨gc,0+j,none⟩=some v:=fun w i u v hv=>by
  rw [World.cell?_setCell_other _ _ _ _ (fun e=>hne (by injection e with e;exact e.symm))];exact hv
 exact off _ _ _ _ (off _ _ _ _ (off _ _ _ _ (off _ _ _ _ (off _ _ _ _ (hc j y hy)))))
end
end Go.Proofs.YthgdchffeigkbaaGreatDoor
