import Derived.Test.YthgdchffeigkbaaGreatDoorV26
import Derived.Test.YthgdchffeigkbaaGreatDoorV27
set_option linter.unusedVariables false
set_option linter.unusedSimpArgs false
namespace Go.Proofs.YthgdchffeigkbaaGreatDoor
variable {base c n : Nat} {ss : List ByteArray} {w : World}
section
open Go.ChangeShapes Go.WideShapes Go.ChangeAt Go.RowKit
def aVJ(_:Value):Prop:=True
def l7(w:Wo)(base:Nat)(v:Value)(ss:List ByteArray):Prop:=bK aVJ w base 55 1 v ss.length (fN ss)
theorem l7.keep{w':Wo}{v:Value}(h:l7 w base v ss)(hb:Below w.heap.size w w'):l7 w' base v ss:=bK.keep h hb
theorem l7.rd{A:OA}(h:l7 w base (.slice A n c) ss):aY w w.heap.size A n ss:=by
 obtain⟨A',c',hv,hr,-⟩:=AD h.own;injection hv with e1 e2 e3;subst e1;subst e2;exact⟨rfl,hr⟩
theorem l7.at_{i:Nat}{A:OA}{s:ByteArray}(h:l7 w base (.slice A n c) ss)(hm:ss[i]?=some s):∃g,A=some ⟨g,0,none⟩/\base<=g/\g<w.heap.size/\w.cell? ⟨g,i,none⟩=some (.string s)/\(∀o,w.frozen? ⟨g,o,none⟩=false)/\
    ∀(s':ByteArray),l7 (w.setCell ⟨g,i,none⟩ (.string s')) base (.slice A n c) (ss.set i s'):=by
 have hi:=(dH.1 hm).1;unfold l7 at h;rcases h.2 with⟨h1,h2⟩ | ⟨g,cap,cur,h1,h2,hb,h4,h5,h6,h7,h8⟩
 ·omega
 ·have hc:w.cell? ⟨g,i,none⟩=some (.string s):=by
   rw[hb.cell];have:(fN ss)[i]?=some (.string s):=by unfold fN;rw[iY,hm];rfl
   rw[<-h7,List.getElem?_take] at this;split at this
   ·rwa[Array.getElem?_toList] at this
   ·cases this
  injection h1 with e1 e2 e3;refine⟨g,e1,h2,hb.lt,hc,fun o=>hb.frozen o,fun s'=>?_⟩;unfold l7;have e:fN (ss.set i s')=(fN ss).set i (.string s'):=List.map_set;rw[lS,e];refine⟨by rw[lS];exact h.1,.inr ⟨g,cap,cur.setIfInBounds i (.string s'),by rw[e1,e2,e3],h2,hb.set_ _ _,h4,h5,by rw[Array.size_setIfInBounds];exact h6,?_,fun _ _=>trivial⟩⟩;rw[Array.toList_setIfInBounds,lU _ _ _ _ (by omega),h7]
end
section
open Go.ChangeShapes Go.WideShapes Go.ChangeAt Go.RowKit
attribute [local go_sem ↓] aE
attribute [local go_sem] aJ aI aM aR
theorem div_one(k:Int):Rat.divInt k 1=(k:Rat):=by rw[Rat.divInt_eq_div];show(k:Rat) / 1=_;grind
theorem l7.box{g i:Nat}{s:ByteArray}(h:l7 w base (.slice (some ⟨g,0,none⟩) n c) ss)(hm:ss[i]?=some s):base<=g/\g<w.heap.size/\w.cell? ⟨g,i,none⟩=some (.string s)/\(∀o,w.frozen? ⟨g,o,none⟩=false)/\∀(s':ByteArray),l7 (w.setCell ⟨g,i,none⟩ (.string s')) base (.slice (some ⟨g,0,none⟩) n c) (ss.set i s'):=by
 obtain⟨g',e,r⟩:=h.at_ hm;injection e with e;injection e with e1;subst e1;exact r
end
