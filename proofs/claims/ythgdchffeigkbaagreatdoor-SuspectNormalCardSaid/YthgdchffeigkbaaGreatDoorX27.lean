import Derived.Test.YthgdchffeigkbaaGreatDoorX21
import Derived.Test.YthgdchffeigkbaaGreatDoorX25
import Derived.Lib.LaidTab
import Derived.LaidLaws
import Derived.LaidHandle
import Derived.RowKitTokens
import Derived.Stop.Joined
import Derived.Stop.LaidErr
import Derived.Lay
import Derived.Handed
set_option linter.unusedVariables false
set_option linter.unusedSimpArgs false
namespace Go.Proofs.YthgdchffeigkbaaGreatDoor
set_option maxRecDepth 100000
section
open Go.ChangeShapes Go.WideShapes Go.ChangeAt Go.RowKit Go.Joins Go.Deep
section
variable {H:Type} {enc:TypeId×Value->H} {w:Wo} {sp:Nat->Bool}
theorem aHE {fuel:Nat} {cs:List Value} {y:DataW H×List MemPlace} (h:DataW.trod enc Tryz.prog w 0 sp true fuel 57 cs=some y):∃ x:Mi,cs=x.cells/\x.txt.size<=maxLen:=by
 obtain ⟨hl,hf⟩:=mR Tryz.underlying57 (by kernel_rfl) (by kernel_rfl) h;obtain ⟨v0,n0,y0,tI,EX⟩:=hf 0 _ rfl;obtain ⟨v1,n1,y1,mJ,pW⟩:=hf 1 _ rfl;obtain ⟨v2,n2,y2,kD,uN⟩:=hf 2 _ rfl;obtain ⟨v3,n3,y3,pV,ht3⟩:=hf 3 _ rfl;obtain ⟨x0,e0,_⟩:=eF Tryz.underlying3 EX;obtain ⟨s,e1,_⟩:=eE Tryz.underlying9 pW;obtain ⟨t,e2,k2⟩:=eE Tryz.underlying55 uN;obtain ⟨x3,e3,_⟩:=eF Tryz.underlying3 ht3;injection e0 with e0;injection e1 with e1;injection e2 with e2;injection e3 with e3;subst e0;subst e1;subst e2;subst e3;refine ⟨⟨x0,s,t,x3⟩,?_,k2⟩;have hl':cs.length=4:=hl
 match cs,hl',tI,mJ,kD,pV with
 | [c0,c1,c2,c3],_,tI,mJ,kD,pV=>
  simp at tI mJ kD pV;subst tI mJ kD pV;rfl
theorem aOR {r:Reach} {b0:Nat} {v:Value} {d:DataW H} {p:List MemPlace} (hv:Value.okWide Tryz.prog w r b0 31 v) (h:DataW.Trod enc Tryz.prog w 0 sp true 31 v d p) :
    ∃ (A:OA) (n c:Nat) (l:List Mi),v=.slice A n c/\n<=c/\c<=maxLen/\(∀ m∈l,m.txt.size<=maxLen)/\eG w w.heap.size A n l:=by
 obtain ⟨A,n,c,rfl⟩:=okWide_slice Tryz.underlying31 hv;obtain ⟨fuel,hf⟩:=h;obtain ⟨A',n',c',xs,h1,h2,h3,hl,hq,h4⟩:=mQ Mi.cells 4 (fun x:Mi=>x.txt.size<=maxLen) Tryz.underlying31 (by kernel_rfl) (by omega) Mi.len (fun fu cs' y hy=>aHE hy) hf;simp [Value.cells] at h1;obtain ⟨rfl,rfl,rfl⟩:=h1;exact ⟨_,_,_,xs,rfl,h2,h3,hq,⟨hl,h4⟩⟩
end
end
section
open Go.ChangeShapes Go.WideShapes Go.ChangeAt Go.RowKit
theorem KT {P:Program} {W:Wo} {x:String×DataW Unit} {rest:List (String×DataW Unit)} (h:laidMet P (x::rest) W):laidMet P rest W:=by
 obtain ⟨ps,⟨g,t,cs,fuel,p,q,_,_,_,_,hr,GN⟩,hn,hz⟩:=h;subst GN;exact ⟨q,hr,(List.nodup_append.1 hn).2.1,fun b off hp=>hz b off (List.mem_append_right _ hp)⟩
theorem aK_ {W : World} {x y : String × DataW Unit} {rest : List (String × DataW Unit)} (h : laidMet Tryz.prog (x :: y :: ("internal/strconv.uint64pow10", Lib.tabData .u64 Lib.pow10Tab) :: rest) W) : dA W :=
 Lib.tabIs_of_head (t := 274) (n := 20) (show Tryz.prog.globalNamed "internal/strconv.uint64pow10" = some 1 by kernel_rfl) (by kernel_rfl) (by kernel_rfl) Tryz.underlying214 (by kernel_rfl) (by kernel_rfl) (KT (KT h))
noncomputable def GE (os:Os):World:=World.laidAll Tryz.prog os Rows.topEstimatedRow.laid
theorem DX (os:Os) (args:Array Value):laidMet Tryz.prog Rows.topEstimatedRow.laid ((GE os).forCall (fun _ _=>0) ⟨#[],args,[]⟩).memory:=
 laidMet_laidAll args (by kernel_rfl) (by kernel_rfl)
theorem aDM (os:Os) (args:Array Value):laidMetH Tryz.prog Rows.topEstimatedRow.laid ((GE os).forCall (fun _ _=>0) ⟨#[],args,[]⟩).memory:=
 DX os args
theorem aGk {W:Wo} (h:laidMetH Tryz.prog Rows.topEstimatedRow.laid W):dA W:=aK_ h
end
