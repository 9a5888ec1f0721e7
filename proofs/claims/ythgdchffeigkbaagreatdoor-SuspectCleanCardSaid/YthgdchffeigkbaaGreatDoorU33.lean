import Derived.Test.YthgdchffeigkbaaGreatDoorU27
import Derived.Test.YthgdchffeigkbaaGreatDoorU28
set_option linter.unusedVariables false
set_option linter.unusedSimpArgs false
namespace Go.Proofs.YthgdchffeigkbaaGreatDoor
set_option maxHeartbeats 1000000
section
open Go.ChangeShapes Go.WideShapes Go.ChangeAt Go.RowKit Go.Joins Go.Deep
attribute [local go_sem ↓] execOp_call_val
attribute [local go_sem] callVal_func setCell_drewN alloc_drewN sEq_walk NetH.cells
def pnNet:Net where
 nodes:=[⟨#[65]⟩,⟨#[66]⟩,⟨#[67]⟩]
 sws:=[]
 brs:=[⟨⟨#[76]⟩,⟨#[65]⟩,⟨#[66]⟩,1000,1000,0,0,0,0⟩,⟨⟨#[77]⟩,⟨#[66]⟩,⟨#[67]⟩,500,1000,0,0,0,0⟩]
 gns:=[]
 lds:=[]
 sts:=[]
theorem pairNet_any (w:World) :
    Calls Tryz.prog 53 #[] w fun e w'=>∃ h:NetH,e=.returned (.agg h.cells)∧RdNet w' w'.heap.size h pnNet∧Below w.heap.size w w':=by
 go_enter Tryz.func53,Tryz.ntmps53
 go_wp2_with fail
 refine bodyPost_ret (v:=.agg (NetH.cells ⟨some ⟨w.heap.size+1,0,none⟩,3,3,none,0,0,some ⟨w.heap.size+1+1,0,none⟩,2,2,none,0,0,none,0,0,none,0,0⟩)) (by simp [results,Tryz.results53,go_sem]) rfl ⟨_,rfl,?_,?_⟩
 ·have f1:∀ (W:World),RdSw W W.heap.size none 0 []:=fun W=>⟨rfl,rfl,fun h=>absurd h (by decide)⟩
  have f3:∀ (W:World),RdGn W W.heap.size none 0 []:=fun W=>⟨rfl,rfl,fun h=>absurd h (by decide)⟩;have f4:∀ (W:World),RdLd W W.heap.size none 0 []:=fun W=>⟨rfl,rfl,fun h=>absurd h (by decide)⟩;have f5:∀ (W:World),RdSt W W.heap.size none 0 []:=fun W=>⟨rfl,rfl,fun h=>absurd h (by decide)⟩;have hz0:∀ s∈pnNet.nodes,s.size≤maxLen:=by decide+kernel
  have hz1:∀ s∈pnNet.sws,s.name.size≤maxLen:=by decide+kernel
  have hz2:∀ s∈pnNet.brs,s.name.size≤maxLen:=by decide+kernel
  have hz3:∀ s∈pnNet.gns,s.name.size≤maxLen:=by decide+kernel
  have hz4:∀ s∈pnNet.lds,s.name.size≤maxLen:=by decide+kernel
  have hz5:∀ s∈pnNet.sts,s.name.size≤maxLen:=by decide+kernel
  refine ⟨rdStr_lit (zs:=pnNet.nodes) (T:=9) ?_ (by simp),f1 _,⟨rfl,rd_lit (vs:=pnNet.brs.flatMap Br.cells) (T:=54) ?_ rfl (by simp)⟩,f3 _,f4 _,f5 _,
   by simp,by simp,by simp,by simp,by simp,by simp,hz0,hz1,hz2,hz3,hz4,hz5⟩
  ·exact (Blk.new_ (by simp)).alloc _
  ·exact Blk.new_ (by simp)
 ·exact ((bA).alloc (by simp) _).alloc (by simp;omega) _
theorem flowMeter_any (a b:ByteArray) (w:World) :
    Calls Tryz.prog 24 #[.string a,.string b] w fun e w'=>e=.returned (.agg #[.int .i64 0,.string a,.string b,.int .i64 1])∧Below w.heap.size w w':=by
 go_enter Tryz.func24,Tryz.ntmps24
 go_wp2_with fail
 refine bodyPost_ret (v:=.agg #[.int .i64 0,.string a,.string b,.int .i64 1]) (by simp [results,Tryz.results24,go_sem]) rfl ⟨rfl,?_⟩
 first | exact bR | exact bA
end
end Go.Proofs.YthgdchffeigkbaaGreatDoor
