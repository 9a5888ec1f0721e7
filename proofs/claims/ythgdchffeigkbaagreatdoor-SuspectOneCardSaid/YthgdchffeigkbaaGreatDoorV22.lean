import Derived.Test.YthgdchffeigkbaaGreatDoorV19
import Derived.Test.YthgdchffeigkbaaGreatDoorV20
set_option linter.unusedVariables false
set_option linter.unusedSimpArgs false
namespace Go.Proofs.YthgdchffeigkbaaGreatDoor
variable {base : Nat} {v : Value} {w w' : World}
section
open Go.ChangeShapes Go.WideShapes Go.ChangeAt Go.RowKit
attribute [local go_sem ↓] aE
attribute [local go_sem] aJ aI aM aR
def aKu(u:Value):Prop:=∃A n c,u=.slice A n c
structure KG (w:Wo) (base:Nat) (v:Value) (hs:List Hd) (vss:List (List ByteArray)):Prop where
 own:bK aKu w base 35 1 v hs.length (hs.map Hd.val)
 len:hs.length=vss.length
 rows:∀(i:Nat)(h:Hd)(ss:List ByteArray),hs[i]?=some h->vss[i]?=some ss->aY w w.heap.size h.A h.n ss/\h.n<=9223372036854775807
theorem aY.keepsSl{e n:Nat}{A:OA}{ss:List ByteArray}(h:aY w w.heap.size A n ss)(k:d8 aKu base e w w'):aY w' w'.heap.size A n ss:=by
 refine⟨h.1,h.2.1,fun hn=>?_⟩;obtain⟨b,off,e1,aU,hc⟩:=h.2.2 hn;refine⟨b,off,e1,jE aU k.size,fun j u hu=>k.cell _ _ (hc j u hu) ?_⟩;rintro⟨A',n',c',rfl⟩;have:=bV hu;unfold fN at this;obtain⟨s,-,e2⟩:=List.mem_map.1 this;cases e2
theorem KG.keep{hs:List Hd}{vss:List (List ByteArray)}(m:KG w base v hs vss)(hb:Below w.heap.size w w'):KG w' base v hs vss:=⟨m.own.keep hb,m.len,fun i h q hh hq=>by
 obtain⟨h1,h2⟩:=m.rows i h q hh hq;exact⟨(h1.below hb lR).more hb.size,h2⟩⟩
theorem KG.app{v':Value}{hs:List Hd}{vss:List (List ByteArray)}{z:Hd}{ss:List ByteArray}(m:KG w base v hs vss)(hp:aY w w.heap.size z.A z.n ss/\z.n<=9223372036854775807)(h1:bK aKu w' base 35 1 v' (hs.length+1) (hs.map Hd.val++[z.val]))(k:d8 aKu base 35 w w'):KG w' base v' (hs++[z]) (vss++[ss]):=by
 refine⟨by rw[jW,List.length_singleton,List.map_append];exact h1,by rw[jW,jW,m.len];rfl,fun i h q hh hq=>?_⟩;by_cases hi:i<vss.length
 ·rw[BD hi] at hq
  rw[BD (by rw[m.len];exact hi)] at hh;obtain⟨r1,r2⟩:=m.rows i h q hh hq;exact⟨r1.keepsSl k,r2⟩
 ·rw[DN (by omega)] at hq
  rw[DN (by rw[m.len];omega),m.len] at hh;have IA:=(dH.1 hq).1;rw[List.length_singleton] at IA;have:i-vss.length=0:=by omega
  rw[this] at hq hh;simp at hq hh;subst hq;subst hh;exact⟨hp.1.keepsSl k,hp.2⟩
theorem Q_:∀(hs:List Hd) (vss:List (List ByteArray)),hs.length=vss.length->(List.zipWith (fun(h:Hd) ss=>(⟨h.A,h.n,h.c,ss⟩:Vc)) hs vss).flatMap Vc.cells=hs.map Hd.val
 | [],_,_=>rfl
 | h::hs,[],e=>by simp at e
 | h::hs,ss::vss,e=>by
  rw[List.zipWith_cons_cons,List.flatMap_cons,Q_ hs vss (by simpa using e)];rfl
theorem KG.rd{hs:List Hd}{vss:List (List ByteArray)}(m:KG w base v hs vss):∃A c vs,v=.slice A vss.length c/\xL w w.heap.size A vss.length vs/\vs.map Vc.ss=vss/\vss.length<=c/\c<=maxLen:=by
 obtain⟨A,c,hv,hr,h1,h2,h3⟩:=AD m.own.own;rw[m.len] at hv hr h1;have hl:=m.len;refine⟨A,c,List.zipWith (fun(h:Hd) ss=>(⟨h.A,h.n,h.c,ss⟩:Vc)) hs vss,hv,⟨by rw[List.length_zipWith];omega,by rw[Q_ hs vss hl];exact hr,fun u hu=>?_⟩,?_,h1,h2⟩
 ·obtain⟨i,hi⟩:=List.mem_iff_getElem?.1 hu
  rw[List.getElem?_zipWith] at hi;cases hh:hs[i]? with
  | none=>rw[hh] at hi;simp at hi
  | some h=>
   cases hq:vss[i]? with
   | none=>rw[hh,hq] at hi;simp at hi
   | some q=>
    rw[hh,hq] at hi;simp at hi;subst hi;exact m.rows i h q hh hq
 ·apply List.ext_getElem?
  intro i;rw[iY,List.getElem?_zipWith];cases hq:vss[i]? with
  | none=>
   cases hh:hs[i]? with
   | none=>rfl
   | some h=>rfl
  | some q=>
   have hi:=(dH.1 hq).1;obtain⟨h,hh⟩:∃h,hs[i]?=some h:=eA (by omega);rw[hh];rfl
end
