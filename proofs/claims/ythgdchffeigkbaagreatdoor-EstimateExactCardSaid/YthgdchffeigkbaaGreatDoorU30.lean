import Derived.Test.YthgdchffeigkbaaGreatDoorU24
import Derived.Test.YthgdchffeigkbaaGreatDoorU26
set_option linter.unusedVariables false
set_option linter.unusedSimpArgs false
namespace Go.Proofs.YthgdchffeigkbaaGreatDoor
section
open Go.ChangeShapes Go.WideShapes Go.ChangeAt Go.RowKit Go.Joins Go.Deep
section
variable {H:Type} {enc:TypeId×Value→H} {w:World} {sp:Nat→Bool}
set_option maxRecDepth 100000 in
theorem open_Mi {fuel:Nat} {cs:List Value} {y:DataW H×List MemPlace} (h:DataW.trod enc Tryz.prog w 0 sp true fuel 57 cs=some y):∃ x:Mi,cs=x.cells∧x.txt.size≤maxLen:=by
 obtain ⟨hl,hf⟩:=open_flat Tryz.underlying57 (by kernel_rfl) (by kernel_rfl) h;obtain ⟨v0,n0,y0,hv0,ht0⟩:=hf 0 _ rfl;obtain ⟨v1,n1,y1,hv1,ht1⟩:=hf 1 _ rfl;obtain ⟨v2,n2,y2,hv2,ht2⟩:=hf 2 _ rfl;obtain ⟨v3,n3,y3,hv3,ht3⟩:=hf 3 _ rfl;obtain ⟨x0,e0,_⟩:=open_int1 Tryz.underlying3 ht0;obtain ⟨s,e1,_⟩:=open_str1 Tryz.underlying9 ht1;obtain ⟨t,e2,k2⟩:=open_str1 Tryz.underlying55 ht2;obtain ⟨x3,e3,_⟩:=open_int1 Tryz.underlying3 ht3;injection e0 with e0;injection e1 with e1;injection e2 with e2;injection e3 with e3;subst e0;subst e1;subst e2;subst e3;refine ⟨⟨x0,s,t,x3⟩,?_,k2⟩;have hl':cs.length=4:=hl
 match cs,hl',hv0,hv1,hv2,hv3 with
 | [c0,c1,c2,c3],_,hv0,hv1,hv2,hv3=>
  simp at hv0 hv1 hv2 hv3;subst hv0 hv1 hv2 hv3;rfl
set_option maxRecDepth 100000 in
theorem open_mis {r:Reach} {b0:Nat} {v:Value} {d:DataW H} {p:List MemPlace} (hv:Value.okWide Tryz.prog w r b0 31 v) (h:DataW.Trod enc Tryz.prog w 0 sp true 31 v d p) :
    ∃ (A:Option Addr) (n c:Nat) (l:List Mi),v=.slice A n c∧n≤c∧c≤maxLen∧(∀ m∈l,m.txt.size≤maxLen)∧RdMi w w.heap.size A n l:=by
 obtain ⟨A,n,c,rfl⟩:=okWide_slice Tryz.underlying31 hv;obtain ⟨fuel,hf⟩:=h;obtain ⟨A',n',c',xs,h1,h2,h3,hl,hq,h4⟩:=open_list Mi.cells 4 (fun x:Mi=>x.txt.size≤maxLen) Tryz.underlying31 (by kernel_rfl) (by omega) Mi.len (fun fu cs' y hy=>open_Mi hy) hf;simp [Value.cells] at h1;obtain ⟨rfl,rfl,rfl⟩:=h1;exact ⟨_,_,_,xs,rfl,h2,h3,hq,⟨hl,h4⟩⟩
end
end
end Go.Proofs.YthgdchffeigkbaaGreatDoor
