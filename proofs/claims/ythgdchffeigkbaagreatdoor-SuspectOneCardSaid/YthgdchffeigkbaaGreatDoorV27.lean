import Derived.Test.YthgdchffeigkbaaGreatDoorV24
import Derived.Test.YthgdchffeigkbaaGreatDoorV25
set_option linter.unusedVariables false
set_option linter.unusedSimpArgs false
namespace Go.Proofs.YthgdchffeigkbaaGreatDoor
variable {base e n : Nat} {w : World}
section
open Go.ChangeShapes Go.WideShapes Go.ChangeAt Go.RowKit
attribute [local go_sem ↓] aE
attribute [local go_sem] aJ aI aM aR
theorem bK.mono{S:Value->Prop}{base' size:Nat}{v:Value}{xs:List Value}(h:bK S w base e size v n xs)(hb:base'<=base):bK S w base' e size v n xs:=
 ⟨h.1,h.2.imp id fun⟨g,cap,cur,h1,h2,h3⟩=>⟨g,cap,cur,h1,cO hb h2,h3⟩⟩
theorem iT.keepsI{w':Wo}{A:OA}{qs:List Rat}(h:iT w w.heap.size A n qs)(k:d8 vL base e w w'):iT w' w'.heap.size A n qs:=by
 obtain⟨vs,h1,h2,h3,h4⟩:=h;refine⟨vs,h1,h2,⟨h3.1,fun hn=>?_⟩,fun i q v hq hv=>(h4 i q v hq hv).keepsI k⟩;obtain⟨b,off,e,aU,hc⟩:=h3.2 hn;refine⟨b,off,e,jE aU k.size,fun j u hu=>k.cell _ _ (hc j u hu) ?_⟩;rintro⟨y,hy⟩;exact(BM vs u (bV hu)).2 _ _ hy
theorem lQ.keepsI{w':Wo}{A:OA}{M:List (List Rat)}(h:lQ w w.heap.size A n M)(k:d8 vL base e w w'):lQ w' w'.heap.size A n M:=by
 obtain⟨hs,h1,h2,h3,h4⟩:=h;refine⟨hs,h1,h2,⟨h3.1,fun hn=>?_⟩,fun i a q hh hq=>⟨(h4 i a q hh hq).1.keepsI k,(h4 i a q hh hq).2⟩⟩;obtain⟨b,off,e,aU,hc⟩:=h3.2 hn;refine⟨b,off,e,jE aU k.size,fun j u hu=>k.cell _ _ (hc j u hu) ?_⟩;rintro⟨y,hy⟩;exact(aF9 hs u (bV hu)).2 _ _ hy
end
