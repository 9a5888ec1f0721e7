import Derived.Test.YthgdchffeigkbaaGreatDoorU41
import Derived.Test.YthgdchffeigkbaaGreatDoorU42
import Derived.Test.YthgdchffeigkbaaGreatDoorU45
set_option linter.unusedVariables false
set_option linter.unusedSimpArgs false
namespace Go.Proofs.YthgdchffeigkbaaGreatDoor
section
theorem sml_of {x:Net} {ms:List Mi} (h8:x.nodes.length≤8) (h10:x.brs.length≤10) (k8:ms.length≤8) (hz:∀ m∈ms,m.txt.size≤24) (hc:mtCk x ms=0):Sml x ms:=by
 obtain ⟨h1,-,h2⟩:=mtCk_ok hc;obtain ⟨h3,h4⟩:=mtCk_val hc;exact ⟨h1,h8,h10,k8,h2,fun m hm=>tn_tiny (h3 m hm) (hz m hm),h4⟩
theorem small_allv {x:Net} {ms:List Mi} {v:List Vc} (h:smallR x ms v=true):x.nodes.length≤8∧x.brs.length≤10∧(∀ m∈ms,m.txt.size≤24):=by
 unfold smallR at h;simp only [Bool.and_eq_true,decide_eq_true_eq,List.all_eq_true] at h;exact ⟨h.1.1.1,h.1.1.2,h.1.2⟩
end
end Go.Proofs.YthgdchffeigkbaaGreatDoor
