import Derived.Test.YthgdchffeigkbaaGreatDoorV00
import Derived.Test.YthgdchffeigkbaaGreatDoorRows
import Derived.WalkKit
import Derived.ProofKit
import Derived.OpenShut
import Derived.Outline
import Derived.Below
import Derived.Deep.Draws
import Derived.Deep.QuietTactic
import Derived.BigQuiet
import Derived.Laws.OwnMore
import Derived.Laws.Rows
import Derived.Lib.Hide
import Derived.RegionTactic
import Derived.BigRegion
import Derived.Maps.AppendAt
import Derived.Lib.LazyBuf
import Derived.OwnWalk
import Derived.Deep.AppendLies
import Derived.WalkSpells
import Derived.WalkLawsBesides
set_option linter.unusedVariables false
set_option linter.unusedSimpArgs false
namespace Go.Proofs.YthgdchffeigkbaaGreatDoor
variable {A : OA} {B B' g n : Nat} {a w w' : World} {cs : Array Value} {zs : List Int}
section
open Go.ChangeShapes Go.WideShapes Go.ChangeAt Go.RowKit
theorem kI{a b:Bool}(h:a=b):Ending.returned (.bool a)=.returned (.bool b):=by rw[h]
theorem aX{k:IntKind}{a b:Int}(h:a=b):Ending.returned (.int k a)=.returned (.int k b):=by rw[h]
def aAL(v:Value)(args:Array Value):Sem Next:=do let d <-Deferred.ofValue v args;invoke d.target d.args
theorem aE(a:Act)(dst:Option Tmp)(t:Nat)(xs:Array Operand)(ats:Array TypeId)(ty:TypeId)(pos:String)(after:Array Edge)(guard:Option (Nat×Bool)):execOp a.eval { dst,op:=.call { callee:=.value (.tmp t),args:=xs,argTypes:=ats },type:=ty,pos,after,guard }=aAL (a.eval (.tmp t)) (xs.map a.eval):=rfl
theorem aJ(f:FuncId)(first cap args:Array Value):aAL (.func (.func f) first cap) args=callFunc f (first++args++cap):=by
 rfl
theorem aI(w:Wo)(n:Nat)(a:Addr)(v:Value):(w.drewN n).setCell a v=(w.setCell a v).drewN n:=rfl
theorem aM(w:Wo)(n:Nat)(o:Obj):(w.drewN n).alloc o=(w.alloc o).drewN n:=rfl
def aG(w:Wo)(g:Nat)(t:TypeId)(cs:Array Value):Prop:=w.heap[g]?=some (.cells cs t (0,0))
section
variable {w w':Wo} {g:Nat} {t:TypeId} {cs:Array Value}
theorem aG.lt(h:aG w g t cs):g<w.heap.size:=by
 rcases Nat.lt_or_ge g w.heap.size with aU | QU
 ·exact aU
 ·unfold aG at h;rw[Array.getElem?_eq_none QU] at h;cases h
theorem aG.cell(h:aG w g t cs)(i:Nat):w.cell? ⟨g,i,none⟩=cs[i]?:=cell_of_row w g i cs t (0,0) h
theorem aG.frozen(h:aG w g t cs)(i:Nat):w.frozen? ⟨g,i,none⟩=false:=by
 unfold aG at h;simp[World.frozen?,h]
theorem aG.new(w:Wo)(t:TypeId)(cs:Array Value):aG (w.alloc (.cells cs t)) w.heap.size t cs:=heap_alloc_new w _
theorem aG.drew(h:aG w g t cs):aG w.drew g t cs:=h
theorem aG.drewN(h:aG w g t cs)(n:Nat):aG (w.drewN n) g t cs:=h
theorem aG.alloc(h:aG w g t cs)(o:Obj):aG (w.alloc o) g t cs:=(Below.heap_alloc w o g h.lt).trans h
theorem aG.set_(h:aG w g t cs)(i:Nat)(u:Value):aG (w.setCell ⟨g,i,none⟩ u) g t (cs.setIfInBounds i u):=by
 unfold aG at h ⊢;simp[World.setCell,Array.getElem?_modify,h]
theorem aG.far(h:aG w g t cs){p:Addr}(hp:g≠p.block)(u:Value):aG (w.setCell p u) g t cs:=(Below.heap_setCell w p u g hp).trans h
theorem aG.below(h:aG w g t cs)(hb:Below B w w')(hg:g<B):aG w' g t cs:=(hb.block g hg).trans h
theorem aG.grown{row:Option Nat}(h:aG w g t cs)(hb:w.grownBy w' row)(hg:some g≠row):aG w' g t cs:=(hb.block g h.lt hg).trans h
end
theorem bD(h:Below B a w)(n:Nat):Below B a (w.drewN n):=⟨h.os,h.tape,h.output,h.size,h.block⟩
theorem aG.new_{t:TypeId}(h:g=w.heap.size):aG (w.alloc (.cells cs t)) g t cs:=by subst h;exact aG.new w t cs
theorem uA{row:Option Nat}(h:a.grownBy w row)(n:Nat):a.grownBy (w.drewN n) row:=⟨h.os,h.tape,h.output,h.size,h.block⟩
theorem gU(h:a.grownBy w (some g)){p:Addr}(hp:p.block=g\/a.heap.size<=p.block)(u:Value):a.grownBy (w.setCell p u) (some g):=
 ⟨h.os,h.tape,h.output,by simpa[World.setCell] using h.size,fun i hi bX=>(Below.heap_setCell w p u i (by
  rintro rfl;rcases hp with hp | hp
  ·exact bX (by rw[hp])
  ·omega)).trans (h.block i hi bX)⟩
theorem aG.set_at{p t i:Nat}{cs':Array Value}(u:Value)(hc:cs.setIfInBounds i u=cs')(h:aG w p t cs):aG (w.setCell ⟨p,i,none⟩ u) p t cs':=by
 subst hc;exact h.set_ i u
theorem WL{row:Option Nat}(h:a.grownBy w row)(o:Obj):a.grownBy (w.alloc o) row:=
 ⟨h.os,h.tape,h.output,cO h.size (by simp),fun i hi bX=>(Below.heap_alloc w o i (jE hi h.size)).trans (h.block i hi bX)⟩
theorem iF(h:Below a.heap.size a w)(row:Option Nat):a.grownBy w row:=⟨h.os,h.tape,h.output,h.size,fun i hi _=>h.block i hi⟩
theorem gD{b c:Wo}(h:a.grownBy b (some g))(k:b.grownBy c (some g)):a.grownBy c (some g):=
 ⟨k.os.trans h.os,k.tape.trans h.tape,k.output.trans h.output,cO h.size k.size,fun i hi bX=>(k.block i (jE hi h.size) bX).trans (h.block i hi bX)⟩
theorem AO{b c:Wo}(h:Below B a b)(k:b.grownBy c (some g))(hg:B<=g)(hB:B<=a.heap.size):Below B a c:=
 ⟨k.os.trans h.os,k.tape.trans h.tape,k.output.trans h.output,cO h.size k.size,fun i hi=>(k.block i (jE (jE hi hB) h.size) (fun e=>by injection e;omega)).trans (h.block i hi)⟩
def Rd(w:Wo)(B size:Nat)(A:OA)(n:Nat)(xs:List Value):Prop:=
 xs.length=n*size/\(0<n->∃b off,A=some ⟨b,off,none⟩/\b<B/\∀j u,xs[j]?=some u->w.cell? ⟨b,off+j,none⟩=some u)
theorem Rd.below{size:Nat}{xs:List Value}(h:Rd w B size A n xs)(hb:Below B' w w')(hB:B<=B'):Rd w' B size A n xs:=
 ⟨h.1,fun hn=>by
  obtain⟨b,off,e,aU,hc⟩:=h.2 hn;exact⟨b,off,e,aU,fun j u hu=>(hb.cell (p:=⟨b,off+j,none⟩) (jE aU hB)).trans (hc j u hu)⟩⟩
theorem Rd.more{size:Nat}{xs:List Value}(h:Rd w B size A n xs)(hB:B<=B'):Rd w B' size A n xs:=
 ⟨h.1,fun hn=>by
  obtain⟨b,off,e,aU,hc⟩:=h.2 hn;exact⟨b,off,e,jE aU hB,hc⟩⟩
theorem aK(h:Below B a w):Below B a w.drew:=⟨h.os,h.tape,h.output,h.size,h.block⟩
theorem qZ {P : Program} {F : FuncId} {fn : Func} {c : Code} (hf : P.funcs[F]? = some fn) (h1 : (fn.name == "runtime.NumGoroutine") = false) (hb : fn.body = some c) (args : Array Value) (w : World) :(callFunc F args).run P w=.ok (.enter F args) w:=by
 simp only[callFunc,Sem.run_bind,run_program,Result.andThen_ok,hf];simp[h1,hb,Option.isNone]
theorem Z1(w:Wo)(t:TypeId)(size:Nat):(w.alloc (.cells #[] t)).ownsRow w.heap.size t size (.slice (some ⟨w.heap.size,0,none⟩) 0 0) 0 []:=
 ⟨by simp,.inr ⟨w.heap.size,0,#[],rfl,lR,heap_alloc_new w _,lR,by simp[maxLen],by simp,by simp⟩⟩
theorem aG.bl{p:Nat}{T:TypeId}{c:Array Value}(h:aG w p T c)(g:Below w.heap.size w w'):aG w' p T c:=aG.below h g (aG.lt h)
theorem Rd.bm{s:Nat}{l:List Value}(h:Rd w w.heap.size s A n l)(g:Below w.heap.size w w'):Rd w' w'.heap.size s A n l:=(h.below g lR).more g.size
theorem aG.a2{t:Nat}(h:aG w g t cs):w.cell? ⟨g,0,none⟩=cs[0]?/\w.cell? ⟨g,1,none⟩=cs[1]?:=⟨h.cell 0,h.cell 1⟩
theorem aG.a3{t:Nat}(h:aG w g t cs):w.cell? ⟨g,0,none⟩=cs[0]?/\w.cell? ⟨g,1,none⟩=cs[1]?/\w.cell? ⟨g,2,none⟩=cs[2]?:=⟨h.cell 0,h.cell 1,h.cell 2⟩
theorem aG.a4{t:Nat}(h:aG w g t cs):w.cell? ⟨g,0,none⟩=cs[0]?/\w.cell? ⟨g,1,none⟩=cs[1]?/\w.cell? ⟨g,2,none⟩=cs[2]?/\w.cell? ⟨g,3,none⟩=cs[3]?:=⟨h.cell 0,h.cell 1,h.cell 2,h.cell 3⟩
theorem aG.a5{t:Nat}(h:aG w g t cs):w.cell? ⟨g,0,none⟩=cs[0]?/\w.cell? ⟨g,1,none⟩=cs[1]?/\w.cell? ⟨g,2,none⟩=cs[2]?/\w.cell? ⟨g,3,none⟩=cs[3]?/\w.cell? ⟨g,4,none⟩=cs[4]?:=⟨h.cell 0,h.cell 1,h.cell 2,h.cell 3,h.cell 4⟩
theorem aG.b1{t:Nat}(h:aG w g t cs):w.cell? ⟨g,0,none⟩=cs[0]?/\g<w.heap.size:=⟨h.cell 0,h.lt⟩
theorem aG.b2{t:Nat}(h:aG w g t cs):w.cell? ⟨g,0,none⟩=cs[0]?/\w.cell? ⟨g,1,none⟩=cs[1]?/\g<w.heap.size:=⟨h.cell 0,h.cell 1,h.lt⟩
theorem aG.b4{t:Nat}(h:aG w g t cs):w.cell? ⟨g,0,none⟩=cs[0]?/\w.cell? ⟨g,1,none⟩=cs[1]?/\w.cell? ⟨g,2,none⟩=cs[2]?/\w.cell? ⟨g,3,none⟩=cs[3]?/\g<w.heap.size:=⟨h.cell 0,h.cell 1,h.cell 2,h.cell 3,h.lt⟩
theorem aG.b5{t:Nat}(h:aG w g t cs):w.cell? ⟨g,0,none⟩=cs[0]?/\w.cell? ⟨g,1,none⟩=cs[1]?/\w.cell? ⟨g,2,none⟩=cs[2]?/\w.cell? ⟨g,3,none⟩=cs[3]?/\w.cell? ⟨g,4,none⟩=cs[4]?/\g<w.heap.size:=⟨h.cell 0,h.cell 1,h.cell 2,h.cell 3,h.cell 4,h.lt⟩
theorem aG.b6{t:Nat}(h:aG w g t cs):w.cell? ⟨g,0,none⟩=cs[0]?/\w.cell? ⟨g,1,none⟩=cs[1]?/\w.cell? ⟨g,2,none⟩=cs[2]?/\w.cell? ⟨g,3,none⟩=cs[3]?/\w.cell? ⟨g,4,none⟩=cs[4]?/\w.cell? ⟨g,5,none⟩=cs[5]?/\g<w.heap.size:=⟨h.cell 0,h.cell 1,h.cell 2,h.cell 3,h.cell 4,h.cell 5,h.lt⟩
theorem aG.e2{t:Nat}(h:aG w g t cs):w.cell? ⟨g,0,none⟩=cs[0]?/\w.cell? ⟨g,1,none⟩=cs[1]?/\(∀i,w.frozen? ⟨g,i,none⟩=false)/\g<w.heap.size:=⟨h.cell 0,h.cell 1,h.frozen,h.lt⟩
theorem aG.e4{t:Nat}(h:aG w g t cs):w.cell? ⟨g,0,none⟩=cs[0]?/\w.cell? ⟨g,1,none⟩=cs[1]?/\w.cell? ⟨g,2,none⟩=cs[2]?/\w.cell? ⟨g,3,none⟩=cs[3]?/\(∀i,w.frozen? ⟨g,i,none⟩=false)/\g<w.heap.size:=⟨h.cell 0,h.cell 1,h.cell 2,h.cell 3,h.frozen,h.lt⟩
theorem aG.e5{t:Nat}(h:aG w g t cs):w.cell? ⟨g,0,none⟩=cs[0]?/\w.cell? ⟨g,1,none⟩=cs[1]?/\w.cell? ⟨g,2,none⟩=cs[2]?/\w.cell? ⟨g,3,none⟩=cs[3]?/\w.cell? ⟨g,4,none⟩=cs[4]?/\(∀i,w.frozen? ⟨g,i,none⟩=false)/\g<w.heap.size:=⟨h.cell 0,h.cell 1,h.cell 2,h.cell 3,h.cell 4,h.frozen,h.lt⟩
end
section
open Go.ChangeShapes Go.WideShapes Go.ChangeAt Go.RowKit
attribute [local go_sem ↓] aE
attribute [local go_sem] aJ aI aM
def ints(zs:List Int):List Value:=zs.map (Value.int .i64)
def o_(w:Wo)(B:Nat)(A:OA)(n:Nat)(zs:List Int):Prop:=Rd w B 1 A n (ints zs)
theorem o_.len(h:o_ w B A n zs):zs.length=n:=by have:=h.1;simp[ints] at this;omega
theorem o_.below(h:o_ w B A n zs)(hb:Below B' w w')(hB:B<=B'):o_ w' B A n zs:=Rd.below h hb hB
theorem o_.more(h:o_ w B A n zs)(hB:B<=B'):o_ w B' A n zs:=Rd.more h hB
theorem o_.at_{b off:Nat}(h:o_ w B (some ⟨b,off,none⟩) n zs){i:Nat}{z:Int}(hz:zs[i]?=some z):w.cell? ⟨b,off+i,none⟩=some (.int .i64 z):=by
 have hl:i<zs.length:=(dH.1 hz).1;have:=h.len;obtain⟨b',off',e,_,hc⟩:=h.2 (by omega);injection e with e;injection e with e1 e2;subst e1;subst e2;exact hc i _ (by simp[ints,hz])
theorem o_.blk{b off:Nat}(h:o_ w B (some ⟨b,off,none⟩) n zs)(h0:0<n):b<B:=by
 obtain⟨b',off',e,aU,_⟩:=h.2 h0;injection e with e;injection e with e1 e2;omega
theorem cM{α:Type}{l:List α}{k:Nat}{x:α}(h:l[k]?=some x):l.drop k=x::l.drop (k+1):=by
 obtain⟨hl,he⟩:=dH.1 h;rw[List.drop_eq_getElem_cons hl,he]
def gW{α:Type}(p:α->Bool):List α->Nat->Int
 | [],_=>-1
 | z::r,k=>if p z then k else gW p r (k+1)
theorem M1{α:Type}(p:α->Bool):∀(l:List α)(k:Nat),decide (0<=gW p l k)=l.any p
 | [],k=>by simp[gW]
 | z::r,k=>by
  unfold gW;cases h:p z with
  | true=>simp[h]
  | false=>simp[h,M1 p r (k+1)]
theorem uE{α:Type}(p:α->Bool):∀(l:List α)(k:Nat),(gW p l k=-1/\∀x∈l,p x=false)\/(∃(i:Nat)(x:α),gW p l k=((k+i:Nat):Int)/\l[i]?=some x/\p x=true/\∀(j:Nat)(y:α),j<i->l[j]?=some y->p y=false)
 | [],k=>.inl ⟨rfl,by simp⟩
 | z::r,k=>by
  unfold gW;cases h:p z with
  | true=>exact .inr ⟨0,z,by simp,by simp,h,fun j y hj=>by omega⟩
  | false=>
   rcases uE p r (k+1) with⟨h1,h2⟩ | ⟨i,x,h1,h2,h3,h4⟩
   ·left
    simp only[Bool.false_eq_true,if_false];exact⟨h1,fun x hx=>by rcases List.mem_cons.1 hx with rfl | hx;exact h;exact h2 x hx⟩
   ·right
    simp only[Bool.false_eq_true,if_false];refine⟨i+1,x,by rw[h1];congr 1;omega,by simpa using h2,h3,fun j y hj hy=>?_⟩;cases j with
    | zero=>simp at hy;subst hy;exact h
    | succ j=>exact h4 j y (by omega) (by simpa using hy)
theorem o_.bm{l:List Int}(h:o_ w w.heap.size A n l)(g:Below w.heap.size w w'):o_ w' w'.heap.size A n l:=(h.below g lR).more g.size
end
