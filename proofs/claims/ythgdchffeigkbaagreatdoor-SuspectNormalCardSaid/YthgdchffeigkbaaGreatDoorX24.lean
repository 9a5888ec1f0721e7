import Derived.Test.YthgdchffeigkbaaGreatDoorX16
set_option linter.unusedVariables false
set_option linter.unusedSimpArgs false
namespace Go.Proofs.YthgdchffeigkbaaGreatDoor
set_option maxHeartbeats 1000000
section
open Go
def Ch (m:Int) (a b:List Int):Prop:=∀ j,b.getD j 0=a.getD j 0\/(a.getD j 0<0/\b.getD j 0=m)
theorem Ch.refl (m:Int) (a:List Int):Ch m a a:=fun j=>.inl rfl
theorem Ch.trans {m:Int} (hm:0<=m) {a b c:List Int} (h:Ch m a b) (h2:Ch m b c):Ch m a c:=fun j=>by
 rcases h j with h | ⟨h,h'⟩<;>rcases h2 j with g | ⟨g,g'⟩
 ·exact .inl (g.trans h)
 ·exact .inr ⟨by omega,g'⟩
 ·exact .inr ⟨h,g.trans h'⟩
 ·omega
end
section
open Go.ChangeShapes Go.WideShapes Go.ChangeAt Go.RowKit
attribute [local go_sem ↓] aE
attribute [local go_sem] aK aH aM
def C_ (a b:List Int):Bool:=decide (a=b)
theorem nZ (A:OA) (n c:Nat) (a:List Int) (B:OA) (m d:Nat) (b:List Int) (w:Wo) (ha:nL w w.heap.size A n a) (hb:nL w w.heap.size B m b) (hn:n<=9223372036854775807) :
    Calls Tryz.prog 46 #[.slice A n c,.slice B m d] w fun e w'=>e=.returned (.bool (C_ a b))/\∃ nq,w'=w.drewN nq:=by
 have hla:=lH ha.len;have hlb:=lH hb.len
 by_cases I1:n=m
 ·subst I1
  go_enter Tryz.func46,Tryz.ntmps46
  go_wp2_with fail
  go_loopw [5,13] (fun _ i wr=>∃ k nq:Nat,k<=n/\i=.int .i64 k/\wr=w.drewN nq/\a.take k=b.take k) (fun _ i _=>n-(intOf i).toNat)
  case atStart=>exact ⟨0,0,by omega,rfl,rfl,by simp⟩
  case round=>
   obtain ⟨k,nq,hk,rfl,rfl,GO⟩:=hrel;have HEQ:=lH GO;clear GO
   by_cases aW:k<n
   ·obtain ⟨x,hx⟩:∃ x,a[k]?=some x:=eO (by have:=hla.out;omega)
    obtain ⟨y,hy⟩:∃ y,b[k]?=some y:=eO (by have:=hlb.out;omega);obtain ⟨ba,oa,rfl,YA,_⟩:=ha.2 (by omega);obtain ⟨bb,ob,rfl,X9,_⟩:=hb.2 (by omega);have VC:=ha.at_ hx;have hcb:=hb.at_ hy;have aUX:(k:Int)<(n:Int):=by omega
    have fT:=lZ k
    have HX:=lH hx;have HY:=lH hy;clear hx hy;cases hp:(x != y) with
    | true=>
     have HP:=lH hp
     go_wp2_with fail
     go_quiet (fail)
     go_wp2_with fail
     go_ret;refine ⟨gA ?_,_,World.drewN_drewN _ _ _⟩;unfold C_;have cP:a≠b:=by
      intro he;subst he;have h1:=HX.o;rw [HY.o] at h1;injection h1 with h1;have h2:=HP.o;simp [h1] at h2
     simp [cP]
    | false=>
     have HP:=lH hp
     go_wp2_with fail
     go_quiet (fail)
     go_wp2_with fail
     go_roundw
     case rel=>
      refine ⟨k+1,_,by omega,by go_num,rfl,?_⟩;have h2:=HP.o;simp at h2;rw [List.take_add_one,List.take_add_one,HEQ.o,HX.o,HY.o,h2]
     case measure=>simp [intOf];omega
   ·have qW:k=n:=by omega
    have HKN:=lH qW;clear qW
    go_wp2_with fail
    go_ret;refine ⟨gA ?_,_,rfl⟩;have h1:=HEQ.o;rw [nW (by have:=hla.out;omega),nW (by have:=hlb.out;omega)] at h1;simp [C_,h1]
 ·have cP:¬(n:Int)=(m:Int):=by omega
  go_enter Tryz.func46,Tryz.ntmps46
  go_wp2_with fail
  go_ret;refine ⟨gA ?_,0,rfl⟩;have:a≠b:=by intro he;subst he;have:=hla.out;have:=hlb.out;omega
  simp [C_,this]
end
