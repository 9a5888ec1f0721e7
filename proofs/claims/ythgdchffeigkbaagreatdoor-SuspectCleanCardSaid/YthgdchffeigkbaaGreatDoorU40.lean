import Derived.Test.YthgdchffeigkbaaGreatDoorU37
import Derived.Test.YthgdchffeigkbaaGreatDoorU38
set_option linter.unusedVariables false
set_option linter.unusedSimpArgs false
namespace Go.Proofs.YthgdchffeigkbaaGreatDoor
section
open Go.ChangeShapes Go.WideShapes Go.ChangeAt Go.RowKit
def AnyU (_:Value):Prop:=True
def OwnSt (w:World) (base:Nat) (v:Value) (ss:List ByteArray):Prop:=OwnS AnyU w base 55 1 v ss.length (strsV ss)
theorem OwnSt.keep {w w':World} {base:Nat} {v:Value} {ss:List ByteArray} (h:OwnSt w base v ss) (hb:Below w.heap.size w w'):OwnSt w' base v ss:=OwnS.keep h hb
theorem OwnSt.rd {w:World} {base n c:Nat} {A:Option Addr} {ss:List ByteArray} (h:OwnSt w base (.slice A n c) ss):RdStr w w.heap.size A n ss:=by
 obtain ⟨A',c',hv,hr,-⟩:=own_rd h.own;injection hv with e1 e2 e3;subst e1;subst e2;exact ⟨rfl,hr⟩
theorem OwnSt.at_ {w:World} {base n c i:Nat} {A:Option Addr} {ss:List ByteArray} {s:ByteArray} (h:OwnSt w base (.slice A n c) ss) (hm:ss[i]?=some s):∃ g,A=some ⟨g,0,none⟩∧base≤g∧g<w.heap.size∧w.cell? ⟨g,i,none⟩=some (.string s)∧(∀ o,w.frozen? ⟨g,o,none⟩=false)∧
    ∀ (s':ByteArray),OwnSt (w.setCell ⟨g,i,none⟩ (.string s')) base (.slice A n c) (ss.set i s'):=by
 have hi:=(zB_.1 hm).1;unfold OwnSt at h;rcases h.2 with ⟨h1,h2⟩ | ⟨g,cap,cur,h1,h2,hb,h4,h5,h6,h7,h8⟩
 ·omega
 ·have hc:w.cell? ⟨g,i,none⟩=some (.string s):=by
   rw [hb.cell];have:(strsV ss)[i]?=some (.string s):=by unfold strsV;rw [zM_,hm];rfl
   rw [←h7,List.getElem?_take] at this
   split at this
   ·rwa [Array.getElem?_toList] at this
   ·cases this
  injection h1 with e1 e2 e3;refine ⟨g,e1,h2,hb.lt,hc,fun o=>hb.frozen o,fun s'=>?_⟩;unfold OwnSt;have e:strsV (ss.set i s')=(strsV ss).set i (.string s'):=List.map_set;rw [zU_,e];refine ⟨by rw [zU_];exact h.1,.inr ⟨g,cap,cur.setIfInBounds i (.string s'),by rw [e1,e2,e3],h2,hb.set_ _ _,h4,h5,by rw [Array.size_setIfInBounds];exact h6,?_,fun _ _=>trivial⟩⟩;rw [Array.toList_setIfInBounds,take_set _ _ _ _ (by omega),h7]
theorem natJ_any {F:List Nat} {i:Nat}:(natJ F).any (· == (i:Int))=true↔i∈F:=by
 unfold natJ;rw [List.any_eq_true]
 constructor
 ·rintro ⟨z,hz,e⟩
  obtain ⟨j,hj,rfl⟩:=List.mem_map.1 hz;have:(j:Int)=(i:Int):=by simpa using e
  rwa [show i=j by omega]
 ·intro h
  exact ⟨(i:Int),List.mem_map.2 ⟨i,h,rfl⟩,by simp⟩
end
end Go.Proofs.YthgdchffeigkbaaGreatDoor
