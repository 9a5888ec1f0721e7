import Derived.Test.YthgdchffeigkbaaGreatDoorU00
import Derived.Test.YthgdchffeigkbaaGreatDoorRows
import Derived.WalkKit
import Derived.ProofKit
import Derived.OpenShut
import Derived.Outline
import Derived.Below
import Derived.Deep.Draws
import Derived.Deep.QuietTactic
import Derived.BigQuiet
import Derived.Laws.OwnMore
import Derived.Laws.Rows
import Derived.Lib.Hide
import Derived.RegionTactic
import Derived.BigRegion
import Derived.Maps.AppendAt
import Derived.Lib.LazyBuf
import Derived.OwnWalk
import Derived.Deep.AppendLies
import Derived.WalkSpells
import Derived.WalkLawsBesides
set_option linter.unusedVariables false
set_option linter.unusedSimpArgs false
namespace Go.Proofs.YthgdchffeigkbaaGreatDoor
section
open Go.ChangeShapes Go.WideShapes Go.ChangeAt Go.RowKit
theorem ret_bool {a b:Bool} (h:a=b):Ending.returned (.bool a)=.returned (.bool b):=by rw [h]
theorem ret_int {k:IntKind} {a b:Int} (h:a=b):Ending.returned (.int k a)=.returned (.int k b):=by rw [h]
def callVal (v:Value) (args:Array Value):Sem Next:=do let d ←Deferred.ofValue v args;invoke d.target d.args
theorem execOp_call_val (a:Act) (dst:Option Tmp) (t:Nat) (xs:Array Operand) (ats:Array TypeId) (ty:TypeId) (pos:String) (after:Array Edge) (guard:Option (Nat×Bool)) :
    execOp a.eval { dst,op:=.call { callee:=.value (.tmp t),args:=xs,argTypes:=ats },type:=ty,pos,after,guard }=callVal (a.eval (.tmp t)) (xs.map a.eval):=rfl
theorem callVal_func (f:FuncId) (first cap args:Array Value):callVal (.func (.func f) first cap) args=callFunc f (first++args++cap):=by
 rfl
theorem setCell_drewN (w:World) (n:Nat) (a:Addr) (v:Value):(w.drewN n).setCell a v=(w.setCell a v).drewN n:=rfl
theorem alloc_drewN (w:World) (n:Nat) (o:Obj):(w.drewN n).alloc o=(w.alloc o).drewN n:=rfl
def Blk (w:World) (g:Nat) (t:TypeId) (cs:Array Value):Prop:=w.heap[g]?=some (.cells cs t (0,0))
section
variable {w w':World} {g:Nat} {t:TypeId} {cs:Array Value}
theorem Blk.lt (h:Blk w g t cs):g<w.heap.size:=by
 rcases Nat.lt_or_ge g w.heap.size with hlt | hge
 ·exact hlt
 ·unfold Blk at h;rw [Array.getElem?_eq_none hge] at h;cases h
theorem Blk.cell (h:Blk w g t cs) (i:Nat):w.cell? ⟨g,i,none⟩=cs[i]?:=cell_of_row w g i cs t (0,0) h
theorem Blk.frozen (h:Blk w g t cs) (i:Nat):w.frozen? ⟨g,i,none⟩=false:=by
 unfold Blk at h;simp [World.frozen?,h]
theorem Blk.new (w:World) (t:TypeId) (cs:Array Value):Blk (w.alloc (.cells cs t)) w.heap.size t cs:=heap_alloc_new w _
theorem Blk.drew (h:Blk w g t cs):Blk w.drew g t cs:=h
theorem Blk.drewN (h:Blk w g t cs) (n:Nat):Blk (w.drewN n) g t cs:=h
theorem Blk.alloc (h:Blk w g t cs) (o:Obj):Blk (w.alloc o) g t cs:=(Below.heap_alloc w o g h.lt).trans h
theorem Blk.set_ (h:Blk w g t cs) (i:Nat) (u:Value):Blk (w.setCell ⟨g,i,none⟩ u) g t (cs.setIfInBounds i u):=by
 unfold Blk at h ⊢;simp [World.setCell,Array.getElem?_modify,h]
theorem Blk.far (h:Blk w g t cs) {p:Addr} (hp:g≠p.block) (u:Value):Blk (w.setCell p u) g t cs:=(Below.heap_setCell w p u g hp).trans h
theorem Blk.below {B:Nat} (h:Blk w g t cs) (hb:Below B w w') (hg:g<B):Blk w' g t cs:=(hb.block g hg).trans h
theorem Blk.grown {row:Option Nat} (h:Blk w g t cs) (hb:w.grownBy w' row) (hg:some g≠row):Blk w' g t cs:=(hb.block g h.lt hg).trans h
end
theorem below_drewN {B:Nat} {a w:World} (h:Below B a w) (n:Nat):Below B a (w.drewN n):=⟨h.os,h.tape,h.output,h.size,h.block⟩
theorem Blk.new_ {w:World} {t:TypeId} {cs:Array Value} {g:Nat} (h:g=w.heap.size):Blk (w.alloc (.cells cs t)) g t cs:=by subst h;exact Blk.new w t cs
theorem only_drewN {a w:World} {row:Option Nat} (h:a.grownBy w row) (n:Nat):a.grownBy (w.drewN n) row:=⟨h.os,h.tape,h.output,h.size,h.block⟩
theorem only_setCell {a w:World} {g:Nat} (h:a.grownBy w (some g)) {p:Addr} (hp:p.block=g∨a.heap.size≤p.block) (u:Value):a.grownBy (w.setCell p u) (some g):=
 ⟨h.os,h.tape,h.output,by simpa [World.setCell] using h.size,fun i hi hne=>(Below.heap_setCell w p u i (by
  rintro rfl;rcases hp with hp | hp
  ·exact hne (by rw [hp])
  ·omega)).trans (h.block i hi hne)⟩
theorem only_set {a w:World} {p:Nat} (i:Nat) (u:Value) (h:a.grownBy w (some p)):a.grownBy (w.setCell ⟨p,i,none⟩ u) (some p):=only_setCell h (.inl rfl) u
theorem Blk.set_at {w:World} {p t i:Nat} {cs cs':Array Value} (u:Value) (hc:cs.setIfInBounds i u=cs') (h:Blk w p t cs):Blk (w.setCell ⟨p,i,none⟩ u) p t cs':=by
 subst hc;exact h.set_ i u
theorem only_alloc {a w:World} {row:Option Nat} (h:a.grownBy w row) (o:Obj):a.grownBy (w.alloc o) row:=
 ⟨h.os,h.tape,h.output,zI_ h.size (by simp),fun i hi hne=>(Below.heap_alloc w o i (zJ_ hi h.size)).trans (h.block i hi hne)⟩
theorem only_of_below {a w:World} (h:Below a.heap.size a w) (row:Option Nat):a.grownBy w row:=⟨h.os,h.tape,h.output,h.size,fun i hi _=>h.block i hi⟩
theorem only_trans {a b c:World} {g:Nat} (h:a.grownBy b (some g)) (k:b.grownBy c (some g)):a.grownBy c (some g):=
 ⟨k.os.trans h.os,k.tape.trans h.tape,k.output.trans h.output,zI_ h.size k.size,fun i hi hne=>(k.block i (zJ_ hi h.size) hne).trans (h.block i hi hne)⟩
theorem below_only {a b c:World} {B g:Nat} (h:Below B a b) (k:b.grownBy c (some g)) (hg:B≤g) (hB:B≤a.heap.size):Below B a c:=
 ⟨k.os.trans h.os,k.tape.trans h.tape,k.output.trans h.output,zI_ h.size k.size,fun i hi=>(k.block i (zJ_ (zJ_ hi hB) h.size) (fun e=>by injection e;omega)).trans (h.block i hi)⟩
def Rd (w:World) (B size:Nat) (A:Option Addr) (n:Nat) (xs:List Value):Prop:=
 xs.length=n*size∧(0<n→∃ b off,A=some ⟨b,off,none⟩∧b<B∧∀ j u,xs[j]?=some u→w.cell? ⟨b,off+j,none⟩=some u)
theorem Rd.below {w w':World} {B B' size n:Nat} {A:Option Addr} {xs:List Value} (h:Rd w B size A n xs) (hb:Below B' w w') (hB:B≤B'):Rd w' B size A n xs:=
 ⟨h.1,fun hn=>by
  obtain ⟨b,off,e,hlt,hc⟩:=h.2 hn;exact ⟨b,off,e,hlt,fun j u hu=>(hb.cell (p:=⟨b,off+j,none⟩) (zJ_ hlt hB)).trans (hc j u hu)⟩⟩
theorem Rd.more {w:World} {B B' size n:Nat} {A:Option Addr} {xs:List Value} (h:Rd w B size A n xs) (hB:B≤B'):Rd w B' size A n xs:=
 ⟨h.1,fun hn=>by
  obtain ⟨b,off,e,hlt,hc⟩:=h.2 hn;exact ⟨b,off,e,zJ_ hlt hB,hc⟩⟩
theorem below_drew {B:Nat} {a w:World} (h:Below B a w):Below B a w.drew:=⟨h.os,h.tape,h.output,h.size,h.block⟩
theorem callFunc_enter {P : Program} {F : FuncId} {fn : Func} {c : Code} (hf : P.funcs[F]? = some fn) (h1 : (fn.name == "runtime.NumGoroutine") = false) (hb : fn.body = some c) (args : Array Value) (w : World) :
    (callFunc F args).run P w=.ok (.enter F args) w:=by
 simp only [callFunc,Sem.run_bind,run_program,Result.andThen_ok,hf];simp [h1,hb,Option.isNone]
theorem own_nil (w:World) (t:TypeId) (size:Nat):(w.alloc (.cells #[] t)).ownsRow w.heap.size t size (.slice (some ⟨w.heap.size,0,none⟩) 0 0) 0 []:=
 ⟨by simp,.inr ⟨w.heap.size,0,#[],rfl,lR,heap_alloc_new w _,lR,by simp [maxLen],by simp,by simp⟩⟩
theorem Blk.bl {w w':World} {p:Nat} {T:TypeId} {c:Array Value} (h:Blk w p T c) (g:Below w.heap.size w w'):Blk w' p T c:=Blk.below h g (Blk.lt h)
theorem Rd.bm {w w':World} {s n:Nat} {A:Option Addr} {l:List Value} (h:Rd w w.heap.size s A n l) (g:Below w.heap.size w w'):Rd w' w'.heap.size s A n l:=(h.below g lR).more g.size
end
section
open Go.ChangeShapes Go.WideShapes Go.ChangeAt Go.RowKit
attribute [local go_sem ↓] execOp_call_val
attribute [local go_sem] callVal_func setCell_drewN alloc_drewN
def ints (zs:List Int):List Value:=zs.map (Value.int .i64)
def RdI (w:World) (B:Nat) (A:Option Addr) (n:Nat) (zs:List Int):Prop:=Rd w B 1 A n (ints zs)
theorem RdI.len {w:World} {B n:Nat} {A:Option Addr} {zs:List Int} (h:RdI w B A n zs):zs.length=n:=by have:=h.1;simp [ints] at this;omega
theorem RdI.below {w w':World} {B B' n:Nat} {A:Option Addr} {zs:List Int} (h:RdI w B A n zs) (hb:Below B' w w') (hB:B≤B'):RdI w' B A n zs:=Rd.below h hb hB
theorem RdI.more {w:World} {B B' n:Nat} {A:Option Addr} {zs:List Int} (h:RdI w B A n zs) (hB:B≤B'):RdI w B' A n zs:=Rd.more h hB
theorem RdI.at_ {w:World} {B n:Nat} {b off:Nat} {zs:List Int} (h:RdI w B (some ⟨b,off,none⟩) n zs) {i:Nat} {z:Int} (hz:zs[i]?=some z):w.cell? ⟨b,off+i,none⟩=some (.int .i64 z):=by
 have hl:i<zs.length:=(zB_.1 hz).1;have:=h.len;obtain ⟨b',off',e,_,hc⟩:=h.2 (by omega);injection e with e;injection e with e1 e2;subst e1;subst e2;exact hc i _ (by simp [ints,hz])
theorem RdI.blk {w:World} {B n:Nat} {b off:Nat} {zs:List Int} (h:RdI w B (some ⟨b,off,none⟩) n zs) (h0:0<n):b<B:=by
 obtain ⟨b',off',e,hlt,_⟩:=h.2 h0;injection e with e;injection e with e1 e2;omega
theorem drop_cons {α:Type} {l:List α} {k:Nat} {x:α} (h:l[k]?=some x):l.drop k=x::l.drop (k+1):=by
 obtain ⟨hl,he⟩:=zB_.1 h;rw [List.drop_eq_getElem_cons hl,he]
def idxGo {α:Type} (p:α→Bool):List α→Nat→Int
 | [],_=>-1
 | z::r,k=>if p z then k else idxGo p r (k+1)
theorem idxGo_any {α:Type} (p:α→Bool):∀ (l:List α) (k:Nat),decide (0≤idxGo p l k)=l.any p
 | [],k=>by simp [idxGo]
 | z::r,k=>by
  unfold idxGo;cases h:p z with
  | true=>simp [h]
  | false=>simp [h,idxGo_any p r (k+1)]
theorem idxGo_spec {α:Type} (p:α→Bool):∀ (l:List α) (k:Nat),(idxGo p l k=-1∧∀ x∈l,p x=false)∨(∃ (i:Nat) (x:α),idxGo p l k=((k+i:Nat):Int)∧l[i]?=some x∧p x=true∧∀ (j:Nat) (y:α),j<i→l[j]?=some y→p y=false)
 | [],k=>.inl ⟨rfl,by simp⟩
 | z::r,k=>by
  unfold idxGo;cases h:p z with
  | true=>exact .inr ⟨0,z,by simp,by simp,h,fun j y hj=>by omega⟩
  | false=>
   rcases idxGo_spec p r (k+1) with ⟨h1,h2⟩ | ⟨i,x,h1,h2,h3,h4⟩
   ·left
    simp only [Bool.false_eq_true,if_false];exact ⟨h1,fun x hx=>by rcases List.mem_cons.1 hx with rfl | hx;exact h;exact h2 x hx⟩
   ·right
    simp only [Bool.false_eq_true,if_false];refine ⟨i+1,x,by rw [h1];congr 1;omega,by simpa using h2,h3,fun j y hj hy=>?_⟩;cases j with
    | zero=>simp at hy;subst hy;exact h
    | succ j=>exact h4 j y (by omega) (by simpa using hy)
theorem RdI.bm {w w':World} {n:Nat} {A:Option Addr} {l:List Int} (h:RdI w w.heap.size A n l) (g:Below w.heap.size w w'):RdI w' w'.heap.size A n l:=(h.below g lR).more g.size
end
end Go.Proofs.YthgdchffeigkbaaGreatDoor
