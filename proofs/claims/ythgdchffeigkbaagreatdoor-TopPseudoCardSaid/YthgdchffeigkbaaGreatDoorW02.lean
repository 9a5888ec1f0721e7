import Derived.Test.YthgdchffeigkbaaGreatDoorW00
import Derived.Test.YthgdchffeigkbaaGreatDoorRows
import Derived.WalkKit
import Derived.ProofKit
import Derived.OpenShut
import Derived.Outline
import Derived.Below
import Derived.Deep.Draws
import Derived.Deep.QuietTactic
import Derived.BigQuiet
import Derived.Laws.OwnMore
import Derived.Laws.Rows
import Derived.Lib.Hide
import Derived.RegionTactic
import Derived.BigRegion
import Derived.Maps.AppendAt
import Derived.Lib.LazyBuf
import Derived.OwnWalk
import Derived.Deep.AppendLies
import Derived.WalkSpells
import Derived.WalkLawsBesides
import Derived.ChangeSame
import Derived.Carry
import Derived.Lib.SmallJoins
import Derived.Deep.Slices
import Derived.Deep.Fields
import Derived.Laws.Strings
import Derived.Laws.IdiomStrings
import Derived.Maps.OwnOps
import Derived.Maps.Views
set_option linter.unusedVariables false
set_option linter.unusedSimpArgs false
namespace Go.Proofs.YthgdchffeigkbaaGreatDoor
set_option maxHeartbeats 4000000
set_option maxRecDepth 100000
variable {A : OA} {B B' b g i m n off p size : Nat} {a w w' : World} {cs : Array Value} {l xs : List ByteArray} {t : TypeId} {v : Value} {zs : List Int}
section
open Go.ChangeShapes Go.WideShapes Go.ChangeAt Go.RowKit
theorem sD{a b:Bool}(h:a=b):Ending.returned (.bool a)=.returned (.bool b):=by rw[h]
theorem aU{k:IntKind}{a b:Int}(h:a=b):Ending.returned (.int k a)=.returned (.int k b):=by rw[h]
def ZF(v:Value)(args:Array Value):Sem Next:=do let d <-Deferred.ofValue v args;invoke d.target d.args
theorem aE(a:Act)(dst:Option Tmp)(t:Nat)(xs:Array Operand)(ats:Array TypeId)(ty:TypeId)(pos:String)(after:Array Edge)(guard:Option (Nat×Bool)):execOp a.eval { dst,op:=.call { callee:=.value (.tmp t),args:=xs,argTypes:=ats },type:=ty,pos,after,guard }=ZF (a.eval (.tmp t)) (xs.map a.eval):=rfl
theorem aL(f:FuncId)(first cap args:Array Value):ZF (.func (.func f) first cap) args=callFunc f (first++args++cap):=by
 rfl
theorem aK(w:Wo)(n:Nat)(a:Addr)(v:Value):(w.drewN n).setCell a v=(w.setCell a v).drewN n:=rfl
theorem aO(w:Wo)(n:Nat)(o:Obj):(w.drewN n).alloc o=(w.alloc o).drewN n:=rfl
def aD(w:Wo)(g:Nat)(t:TypeId)(cs:Array Value):Prop:=w.heap[g]?=some (.cells cs t (0,0))
section
variable {w w':Wo} {g:Nat} {t:TypeId} {cs:Array Value}
theorem aD.lt(h:aD w g t cs):g<w.heap.size:=by
 rcases Nat.lt_or_ge g w.heap.size with aR | TC
 ·exact aR
 ·unfold aD at h;rw[Array.getElem?_eq_none TC] at h;cases h
theorem aD.cell(h:aD w g t cs)(i:Nat):w.cell? ⟨g,i,none⟩=cs[i]?:=cell_of_row w g i cs t (0,0) h
theorem aD.frozen(h:aD w g t cs)(i:Nat):w.frozen? ⟨g,i,none⟩=false:=by
 unfold aD at h;simp[World.frozen?,h]
theorem aD.new(w:Wo)(t:TypeId)(cs:Array Value):aD (w.alloc (.cells cs t)) w.heap.size t cs:=heap_alloc_new w _
theorem aD.drew(h:aD w g t cs):aD w.drew g t cs:=h
theorem aD.drewN(h:aD w g t cs)(n:Nat):aD (w.drewN n) g t cs:=h
theorem aD.alloc(h:aD w g t cs)(o:Obj):aD (w.alloc o) g t cs:=(Below.heap_alloc w o g h.lt).trans h
theorem aD.set_(h:aD w g t cs)(i:Nat)(u:Value):aD (w.setCell ⟨g,i,none⟩ u) g t (cs.setIfInBounds i u):=by
 unfold aD at h ⊢;simp[World.setCell,Array.getElem?_modify,h]
theorem aD.far(h:aD w g t cs){p:Addr}(hp:g≠p.block)(u:Value):aD (w.setCell p u) g t cs:=(Below.heap_setCell w p u g hp).trans h
theorem aD.below(h:aD w g t cs)(hb:Below B w w')(hg:g<B):aD w' g t cs:=(hb.block g hg).trans h
theorem aD.grown{row:Option Nat}(h:aD w g t cs)(hb:w.grownBy w' row)(hg:some g≠row):aD w' g t cs:=(hb.block g h.lt hg).trans h
end
theorem bF(h:Below B a w)(n:Nat):Below B a (w.drewN n):=⟨h.os,h.tape,h.output,h.size,h.block⟩
theorem aD.new_(h:g=w.heap.size):aD (w.alloc (.cells cs t)) g t cs:=by subst h;exact aD.new w t cs
theorem tJ{row:Option Nat}(h:a.grownBy w row)(n:Nat):a.grownBy (w.drewN n) row:=⟨h.os,h.tape,h.output,h.size,h.block⟩
theorem gK(h:a.grownBy w (some g)){p:Addr}(hp:p.block=g\/a.heap.size<=p.block)(u:Value):a.grownBy (w.setCell p u) (some g):=
 ⟨h.os,h.tape,h.output,by simpa[World.setCell] using h.size,fun i hi cG=>(Below.heap_setCell w p u i (by
  rintro rfl;rcases hp with hp | hp
  ·exact cG (by rw[hp])
  ·omega)).trans (h.block i hi cG)⟩
theorem QD(i:Nat)(u:Value)(h:a.grownBy w (some p)):a.grownBy (w.setCell ⟨p,i,none⟩ u) (some p):=gK h (.inl rfl) u
theorem aD.set_at{t:Nat}{cs':Array Value}(u:Value)(hc:cs.setIfInBounds i u=cs')(h:aD w p t cs):aD (w.setCell ⟨p,i,none⟩ u) p t cs':=by
 subst hc;exact h.set_ i u
theorem UP{row:Option Nat}(h:a.grownBy w row)(o:Obj):a.grownBy (w.alloc o) row:=
 ⟨h.os,h.tape,h.output,b_ h.size (by simp),fun i hi cG=>(Below.heap_alloc w o i (kA hi h.size)).trans (h.block i hi cG)⟩
theorem gW(h:Below a.heap.size a w)(row:Option Nat):a.grownBy w row:=⟨h.os,h.tape,h.output,h.size,fun i hi _=>h.block i hi⟩
theorem fR{b c:Wo}(h:a.grownBy b (some g))(k:b.grownBy c (some g)):a.grownBy c (some g):=
 ⟨k.os.trans h.os,k.tape.trans h.tape,k.output.trans h.output,b_ h.size k.size,fun i hi cG=>(k.block i (kA hi h.size) cG).trans (h.block i hi cG)⟩
theorem y_{b c:Wo}(h:Below B a b)(k:b.grownBy c (some g))(hg:B<=g)(hB:B<=a.heap.size):Below B a c:=
 ⟨k.os.trans h.os,k.tape.trans h.tape,k.output.trans h.output,b_ h.size k.size,fun i hi=>(k.block i (kA (kA hi hB) h.size) (fun e=>by injection e;omega)).trans (h.block i hi)⟩
def Rd(w:Wo)(B size:Nat)(A:OA)(n:Nat)(xs:List Value):Prop:=
 xs.length=n*size/\(0<n->∃b off,A=some ⟨b,off,none⟩/\b<B/\∀j u,xs[j]?=some u->w.cell? ⟨b,off+j,none⟩=some u)
theorem Rd.below{xs:List Value}(h:Rd w B size A n xs)(hb:Below B' w w')(hB:B<=B'):Rd w' B size A n xs:=
 ⟨h.1,fun hn=>by
  obtain⟨b,off,e,aR,hc⟩:=h.2 hn;exact⟨b,off,e,aR,fun j u hu=>(hb.cell (p:=⟨b,off+j,none⟩) (kA aR hB)).trans (hc j u hu)⟩⟩
theorem Rd.more{xs:List Value}(h:Rd w B size A n xs)(hB:B<=B'):Rd w B' size A n xs:=
 ⟨h.1,fun hn=>by
  obtain⟨b,off,e,aR,hc⟩:=h.2 hn;exact⟨b,off,e,kA aR hB,hc⟩⟩
theorem aI(h:Below B a w):Below B a w.drew:=⟨h.os,h.tape,h.output,h.size,h.block⟩
theorem IZ {P : Program} {F : FuncId} {fn : Func} {c : Code} (hf : P.funcs[F]? = some fn) (h1 : (fn.name == "runtime.NumGoroutine") = false) (hb : fn.body = some c) (args : Array Value) (w : World) :(callFunc F args).run P w=.ok (.enter F args) w:=by
 simp only[callFunc,Sem.run_bind,run_program,Result.andThen_ok,hf];simp[h1,hb,Option.isNone]
theorem X3(w:Wo)(t:TypeId)(size:Nat):(w.alloc (.cells #[] t)).ownsRow w.heap.size t size (.slice (some ⟨w.heap.size,0,none⟩) 0 0) 0 []:=
 ⟨by simp,.inr ⟨w.heap.size,0,#[],rfl,lR,heap_alloc_new w _,lR,by simp[maxLen],by simp,by simp⟩⟩
theorem aD.bl{T:TypeId}{c:Array Value}(h:aD w p T c)(g:Below w.heap.size w w'):aD w' p T c:=aD.below h g (aD.lt h)
theorem Rd.bm{s:Nat}{l:List Value}(h:Rd w w.heap.size s A n l)(g:Below w.heap.size w w'):Rd w' w'.heap.size s A n l:=(h.below g lR).more g.size
theorem aD.a2{t:Nat}(h:aD w g t cs):w.cell? ⟨g,0,none⟩=cs[0]?/\w.cell? ⟨g,1,none⟩=cs[1]?:=⟨h.cell 0,h.cell 1⟩
theorem aD.a3{t:Nat}(h:aD w g t cs):w.cell? ⟨g,0,none⟩=cs[0]?/\w.cell? ⟨g,1,none⟩=cs[1]?/\w.cell? ⟨g,2,none⟩=cs[2]?:=⟨h.cell 0,h.cell 1,h.cell 2⟩
theorem aD.a4{t:Nat}(h:aD w g t cs):w.cell? ⟨g,0,none⟩=cs[0]?/\w.cell? ⟨g,1,none⟩=cs[1]?/\w.cell? ⟨g,2,none⟩=cs[2]?/\w.cell? ⟨g,3,none⟩=cs[3]?:=⟨h.cell 0,h.cell 1,h.cell 2,h.cell 3⟩
theorem aD.a5{t:Nat}(h:aD w g t cs):w.cell? ⟨g,0,none⟩=cs[0]?/\w.cell? ⟨g,1,none⟩=cs[1]?/\w.cell? ⟨g,2,none⟩=cs[2]?/\w.cell? ⟨g,3,none⟩=cs[3]?/\w.cell? ⟨g,4,none⟩=cs[4]?:=⟨h.cell 0,h.cell 1,h.cell 2,h.cell 3,h.cell 4⟩
theorem aD.a6{t:Nat}(h:aD w g t cs):w.cell? ⟨g,0,none⟩=cs[0]?/\w.cell? ⟨g,1,none⟩=cs[1]?/\w.cell? ⟨g,2,none⟩=cs[2]?/\w.cell? ⟨g,3,none⟩=cs[3]?/\w.cell? ⟨g,4,none⟩=cs[4]?/\w.cell? ⟨g,5,none⟩=cs[5]?:=⟨h.cell 0,h.cell 1,h.cell 2,h.cell 3,h.cell 4,h.cell 5⟩
theorem aD.b1{t:Nat}(h:aD w g t cs):w.cell? ⟨g,0,none⟩=cs[0]?/\g<w.heap.size:=⟨h.cell 0,h.lt⟩
theorem aD.b2{t:Nat}(h:aD w g t cs):w.cell? ⟨g,0,none⟩=cs[0]?/\w.cell? ⟨g,1,none⟩=cs[1]?/\g<w.heap.size:=⟨h.cell 0,h.cell 1,h.lt⟩
theorem aD.b4{t:Nat}(h:aD w g t cs):w.cell? ⟨g,0,none⟩=cs[0]?/\w.cell? ⟨g,1,none⟩=cs[1]?/\w.cell? ⟨g,2,none⟩=cs[2]?/\w.cell? ⟨g,3,none⟩=cs[3]?/\g<w.heap.size:=⟨h.cell 0,h.cell 1,h.cell 2,h.cell 3,h.lt⟩
theorem aD.b5{t:Nat}(h:aD w g t cs):w.cell? ⟨g,0,none⟩=cs[0]?/\w.cell? ⟨g,1,none⟩=cs[1]?/\w.cell? ⟨g,2,none⟩=cs[2]?/\w.cell? ⟨g,3,none⟩=cs[3]?/\w.cell? ⟨g,4,none⟩=cs[4]?/\g<w.heap.size:=⟨h.cell 0,h.cell 1,h.cell 2,h.cell 3,h.cell 4,h.lt⟩
theorem aD.b6{t:Nat}(h:aD w g t cs):w.cell? ⟨g,0,none⟩=cs[0]?/\w.cell? ⟨g,1,none⟩=cs[1]?/\w.cell? ⟨g,2,none⟩=cs[2]?/\w.cell? ⟨g,3,none⟩=cs[3]?/\w.cell? ⟨g,4,none⟩=cs[4]?/\w.cell? ⟨g,5,none⟩=cs[5]?/\g<w.heap.size:=⟨h.cell 0,h.cell 1,h.cell 2,h.cell 3,h.cell 4,h.cell 5,h.lt⟩
theorem aD.e1{t:Nat}(h:aD w g t cs):w.cell? ⟨g,0,none⟩=cs[0]?/\(∀i,w.frozen? ⟨g,i,none⟩=false)/\g<w.heap.size:=⟨h.cell 0,h.frozen,h.lt⟩
theorem aD.e2{t:Nat}(h:aD w g t cs):w.cell? ⟨g,0,none⟩=cs[0]?/\w.cell? ⟨g,1,none⟩=cs[1]?/\(∀i,w.frozen? ⟨g,i,none⟩=false)/\g<w.heap.size:=⟨h.cell 0,h.cell 1,h.frozen,h.lt⟩
theorem aD.e4{t:Nat}(h:aD w g t cs):w.cell? ⟨g,0,none⟩=cs[0]?/\w.cell? ⟨g,1,none⟩=cs[1]?/\w.cell? ⟨g,2,none⟩=cs[2]?/\w.cell? ⟨g,3,none⟩=cs[3]?/\(∀i,w.frozen? ⟨g,i,none⟩=false)/\g<w.heap.size:=⟨h.cell 0,h.cell 1,h.cell 2,h.cell 3,h.frozen,h.lt⟩
theorem aD.e5{t:Nat}(h:aD w g t cs):w.cell? ⟨g,0,none⟩=cs[0]?/\w.cell? ⟨g,1,none⟩=cs[1]?/\w.cell? ⟨g,2,none⟩=cs[2]?/\w.cell? ⟨g,3,none⟩=cs[3]?/\w.cell? ⟨g,4,none⟩=cs[4]?/\(∀i,w.frozen? ⟨g,i,none⟩=false)/\g<w.heap.size:=⟨h.cell 0,h.cell 1,h.cell 2,h.cell 3,h.cell 4,h.frozen,h.lt⟩
theorem aD.e6{t:Nat}(h:aD w g t cs):w.cell? ⟨g,0,none⟩=cs[0]?/\w.cell? ⟨g,1,none⟩=cs[1]?/\w.cell? ⟨g,2,none⟩=cs[2]?/\w.cell? ⟨g,3,none⟩=cs[3]?/\w.cell? ⟨g,4,none⟩=cs[4]?/\w.cell? ⟨g,5,none⟩=cs[5]?/\(∀i,w.frozen? ⟨g,i,none⟩=false)/\g<w.heap.size:=⟨h.cell 0,h.cell 1,h.cell 2,h.cell 3,h.cell 4,h.cell 5,h.frozen,h.lt⟩
end
section
open Go.ChangeShapes Go.WideShapes Go.ChangeAt Go.RowKit
attribute [local go_sem ↓] aE
attribute [local go_sem] aL aK aO
def ints(zs:List Int):List Value:=zs.map (Value.int .i64)
def pK(w:Wo)(B:Nat)(A:OA)(n:Nat)(zs:List Int):Prop:=Rd w B 1 A n (ints zs)
theorem pK.len(h:pK w B A n zs):zs.length=n:=by have:=h.1;simp[ints] at this;omega
theorem pK.below(h:pK w B A n zs)(hb:Below B' w w')(hB:B<=B'):pK w' B A n zs:=Rd.below h hb hB
theorem pK.more(h:pK w B A n zs)(hB:B<=B'):pK w B' A n zs:=Rd.more h hB
theorem pK.at_(h:pK w B (some ⟨b,off,none⟩) n zs){z:Int}(hz:zs[i]?=some z):w.cell? ⟨b,off+i,none⟩=some (.int .i64 z):=by
 have hl:i<zs.length:=(cY.1 hz).1;have:=h.len;obtain⟨b',off',e,_,hc⟩:=h.2 (by omega);injection e with e;injection e with e1 e2;subst e1;subst e2;exact hc i _ (by simp[ints,hz])
theorem pK.blk(h:pK w B (some ⟨b,off,none⟩) n zs)(h0:0<n):b<B:=by
 obtain⟨b',off',e,aR,_⟩:=h.2 h0;injection e with e;injection e with e1 e2;omega
theorem bX{α:Type}{l:List α}{k:Nat}{x:α}(h:l[k]?=some x):l.drop k=x::l.drop (k+1):=by
 obtain⟨hl,he⟩:=cY.1 h;rw[List.drop_eq_getElem_cons hl,he]
def gM{α:Type}(p:α->Bool):List α->Nat->Int
 | [],_=>-1
 | z::r,k=>if p z then k else gM p r (k+1)
theorem LK{α:Type}(p:α->Bool):∀(l:List α)(k:Nat),decide (0<=gM p l k)=l.any p
 | [],k=>by simp[gM]
 | z::r,k=>by
  unfold gM;cases h:p z with
  | true=>simp[h]
  | false=>simp[h,LK p r (k+1)]
theorem yR{α:Type}(p:α->Bool):∀(l:List α)(k:Nat),(gM p l k=-1/\∀x∈l,p x=false)\/(∃(i:Nat)(x:α),gM p l k=((k+i:Nat):Int)/\l[i]?=some x/\p x=true/\∀(j:Nat)(y:α),j<i->l[j]?=some y->p y=false)
 | [],k=>.inl ⟨rfl,by simp⟩
 | z::r,k=>by
  unfold gM;cases h:p z with
  | true=>exact .inr ⟨0,z,by simp,by simp,h,fun j y hj=>by omega⟩
  | false=>
   rcases yR p r (k+1) with⟨h1,h2⟩ | ⟨i,x,h1,h2,h3,h4⟩
   ·left
    simp only[Bool.false_eq_true,if_false];exact⟨h1,fun x hx=>by rcases List.mem_cons.1 hx with rfl | hx;exact h;exact h2 x hx⟩
   ·right
    simp only[Bool.false_eq_true,if_false];refine⟨i+1,x,by rw[h1];congr 1;omega,by simpa using h2,h3,fun j y hj hy=>?_⟩;cases j with
    | zero=>simp at hy;subst hy;exact h
    | succ j=>exact h4 j y (by omega) (by simpa using hy)
theorem pK.bm{l:List Int}(h:pK w w.heap.size A n l)(g:Below w.heap.size w w'):pK w' w'.heap.size A n l:=(h.below g lR).more g.size
end
section
open Go.ChangeShapes Go.WideShapes Go.ChangeAt Go.RowKit Go.Joins
section
variable {H:Type} {enc:TypeId×Value->H} {P:Program}
theorem J6{f:Func}{s:ChangeSpec}{apart fresh handsOn again:Bool}{W W':Wo}{args:Array Value}{v:Value}{ds gs:List (DataW H)}{before pa pv:List MemPlace}(hW:DataW.Whole enc P f.params.toList s.vars apart W args.toList ds gs before)(aP3:∀(b:Nat)(sp:Nat->Bool)(hd:Bool),DataW.TrodAll enc P W' b sp hd f.resultTypes.toList (v.resultList f.resultTypes.size) (s.fn H (ds++gs)).results [])(aKS:∀sp:Nat->Bool,(∀p∈before,sp p.block=true)->DataW.TrodAll enc P W' 0 sp true f.params.toList args.toList (s.fn H (ds++gs)).args pa)(QV:∀sp:Nat->Bool,(∀p∈before,sp p.block=true)->DataW.TrodVars enc P W' sp s.vars (s.fn H (ds++gs)).vars pv)(DE:before=pa++pv)(hb:Below W.heap.size W W')(mD:∀(j:Nat)(t:TypeId)(r:Value),f.resultTypes[j]?=some t->(v.resultList f.resultTypes.size)[j]?=some r->Value.okWide P W' .any 0 t r):s.post enc P f apart fresh handsOn again W args v W':=by
 have aR:∀p∈before,p.block<W.heap.size:=fun p hp=>hW.lt p hp;have hold:∀p∈before,(fun b=>decide (b<W.heap.size)) p.block=true:=fun p hp=>by simpa using aR p hp
 refine⟨ds,gs,before,[],pa,pv,hW,aP3 _ _ _,aKS _ hold,QV _ hold,World.keptBut_mono (fun p hp=>⟨hp,?_⟩) (hb.frame (·∈before)),fun _=>?_⟩
 ·rw[DE,List.mem_append] at hp
  exact Or.inr hp
 ·obtain⟨_,_,_,_,_,hz,hn⟩:=hW
  refine⟨mD,_,_,([]++pa)++pv,⟨[]++pa,pv,trodAll_append (aKS _ (fun _ _=>rfl)) (aP3 _ _ _),QV _ (fun _ _=>rfl),rfl,?_,?_⟩,?_⟩
  ·intro b off hp
   have lE:MemPlace.cell b off∈before:=by rw[DE];simpa using hp
   rw[hb.frozen (aR _ lE)];exact hz b off lE
  ·intro ha
   have:=hn ha;rw[DE] at this;simpa using this
  ·intro p hp _
   rw[DE];simpa using hp
theorem xQ(hl:laidOutB P=true){W W':Wo}(hb:Below W.heap.size W W')(sp:Nat->Bool):∀{ts:List TypeId}{vs:List Value} {ds:List (DataW H)} {p:List MemPlace},(∀t∈ts,P.readableRec t=true/\t<P.types.size)->DataW.TrodAll enc P W 0 (fun _=>true) true ts vs ds p->
     (∀x∈p,x.block<W.heap.size)->(∀x∈p,sp x.block=true)->DataW.TrodAll enc P W' 0 sp true ts vs ds p
 | [],[],[],_,_,h,_,_=>h
 | [],[],_::_,_,_,h,_,_=>h.elim
 | [],_::_,_,_,_,h,_,_=>h.elim
 | _::_,[],_,_,_,h,_,_=>h.elim
 | _::_,_::_,[],_,_,h,_,_=>h.elim
 | t::ts,v::vs,d::ds,ps,hr,h,aR,hsp=>by
  obtain⟨p,q,h1,h2,rfl⟩:=h;refine⟨p,q,?_,xQ hl hb sp (fun t ht=>hr t (List.mem_cons_of_mem _ ht)) h2 (fun x hx=>aR x (List.mem_append_right _ hx)) (fun x hx=>hsp x (List.mem_append_right _ hx)),rfl⟩;exact WideElems.Trod_stays hl (hr t (List.mem_cons_self ..)).1 (hr t (List.mem_cons_self ..)).2 h1 (fun x hx=>hb.same (aR x (List.mem_append_left _ hx))) (fun x hx=>hsp x (List.mem_append_left _ hx))
theorem aPy(hl:laidOutB P=true){f:Func}{s:ChangeSpec}{apart fresh handsOn again:Bool}{W W':Wo}{args:Array Value}{ds:List (DataW H)}{before:List MemPlace}{tb:TypeId}(QV:s.vars=[])(hfn:s.fn H ds={ results:=[.lit (.bool true)],args:=ds })(aP4:∀t∈f.params.toList,P.readableRec t=true/\t<P.types.size)(TA:f.resultTypes=#[tb])(S_:P.underlying tb=some .bool)(hW:DataW.Whole enc P f.params.toList s.vars apart W args.toList ds [] before)(hb:Below W.heap.size W W'):s.post enc P f apart fresh handsOn again W args (.bool true) W':=by
 have hW0:=hW;obtain⟨p,q,hA,hV,hpq,_,_⟩:=hW;rw[QV] at hV;have hq:q=[]:=hV;subst hq;refine J6 (pa:=p) (pv:=[]) hW0 ?_ ?_ ?_ hpq hb ?_
 ·intro b sp hd
  rw[List.append_nil,hfn,TA];exact⟨[],[],shut_bool S_ true,rfl,rfl⟩
 ·intro sp hsp
  rw[List.append_nil,hfn];exact xQ hl hb sp aP4 hA (fun x hx=>hW0.lt x (by rw[hpq];simpa using hx)) (fun x hx=>hsp x (by rw[hpq];simpa using hx))
 ·intro sp hsp
  rw[List.append_nil,hfn,QV];rfl
 ·intro j t r h1 h2
  rw[TA] at h1 h2
  match j with
  | 0=>
   simp[Value.resultList] at h1 h2;subst h1;subst h2;exact okWide_bool_mk S_ true
  | j+1=>simp at h1
end
end
section
open Go.ChangeShapes Go.WideShapes Go.ChangeAt Go.RowKit Go.Joins Go.Deep
theorem qN{α β:Type}{el:α->List β}{sz:Nat}(d8:∀a,(el a).length=sz)(xs:List α):(xs.flatMap el).length=xs.length*sz:=by
 induction xs with
 | nil=>simp
 | cons x r ih=>simp[ih,d8,Nat.succ_mul,Nat.add_comm]
theorem kG{α β:Type}{el:α->List β}{sz:Nat}(d8:∀a,(el a).length=sz):∀(xs:List α)(i:Nat)(x:α),xs[i]?=some x->∀k,k<sz->(xs.flatMap el)[i*sz+k]?=(el x)[k]?
 | [],i,x,h,k,hk=>by simp at h
 | y::r,0,x,h,k,hk=>by
  simp at h;subst h;rw[List.flatMap_cons,yC (by rw[d8];omega)];simp
 | y::r,i+1,x,h,k,hk=>by
  rw[List.flatMap_cons,BP (by rw[d8,Nat.succ_mul];omega),d8];rw[show(i+1)*sz+k-sz=i*sz+k from by rw[Nat.succ_mul];omega];exact kG d8 r i x (by simpa using h) k hk
theorem aJp{a:Addr}(h:w.cell? a=some v):a.block<w.heap.size/\a.spot=none:=by
 unfold World.cell? at h;cases hb:w.heap[a.block]? with
 | none=>rw[hb] at h;cases h
 | some o=>
  rw[hb] at h;refine⟨(Array.getElem?_eq_some_iff.1 hb).1,?_⟩;cases o with
  | cells c t f=>
   simp only at h;split at h
   ·cases h
   ·rename_i hs;simpa using hs
  | _=>cases h
theorem SC{α:Type}(n:Nat){Q:Nat->α->Prop}(h:∀i,i<n->∃a,Q i a):∃xs:List α,xs.length=n/\∀(i:Nat)(a:α),xs[i]?=some a->Q i a:=by
 induction n with
 | zero=>exact⟨[],rfl,by simp⟩
 | succ n ih=>
  obtain⟨xs,hl,hx⟩:=ih fun i hi=>h i (by omega);obtain⟨a,ha⟩:=h n (by omega);refine⟨xs++[a],by simp[hl],fun i b hb=>?_⟩
  by_cases hi:i<n
  ·rw[yC (by omega)] at hb;exact hx i b hb
  ·rw[BP (by omega)] at hb
   have lE:i=n:=by
    have:=(cY.1 hb).1;simp at this;omega
   subst lE;simp[hl] at hb;subst hb;exact ha
section
variable {H:Type} {enc:TypeId×Value->H} {P:Program} {w:Wo} {spare:Nat->Bool} {RE:Bool}
theorem lV{α:Type}(el:α->List Value)(sz:Nat)(Q:α->Prop){t e:TypeId}{fuel:Nat}{cs:List Value}{x:DataW H×List MemPlace}(ht:P.underlying t=some (.slice e))(hC:P.cellsOf e=sz)(VG:0<sz)(d8:∀a,(el a).length=sz)(hel:∀(fu:Nat)(cs':List Value)(y:DataW H×List MemPlace),DataW.trod enc P w 0 spare RE fu e cs'=some y->∃a,cs'=el a/\Q a)(h:DataW.trod enc P w 0 spare RE fuel t cs=some x):∃(A:OA)(n c:Nat)(xs:List α),cs=[.slice A n c]/\n<=c/\c<=maxLen/\xs.length=n/\(∀a∈xs,Q a)/\Rd w w.heap.size sz A n (xs.flatMap el):=by
 rcases open_slice ht h with⟨rfl,_⟩ | ⟨a,len,cap,m,fu,D,Pl,rfl,hb,hl,hm,qJ,_,hi⟩
 ·exact⟨none,0,0,[],rfl,lR,by simp[maxLen],rfl,by simp,by simp,fun h=>by omega⟩
 ·have hlm:len<=m:=by rw[qJ];split<;>omega
  have key:∀i,i<len->∃y:α,w.cells? 0 (a.add (i*sz)) sz=some (el y)/\Q y:=by
   intro i lE;obtain⟨cs',hc,ht'⟩:=hi i (by omega);obtain⟨y,rfl,hq⟩:=hel _ _ _ ht';exact⟨y,by rw[hC] at hc;exact hc,hq⟩
  obtain⟨xs,hxl,hx⟩:=SC len key;refine⟨some a,len,cap,xs,rfl,hl,hm,hxl,fun y hy=>?_,by rw[qN d8,hxl],fun h0=>?_⟩
  ·obtain⟨i,hi⟩:=List.getElem?_of_mem hy
   exact(hx i y hi).2
  ·obtain⟨y0,wK⟩:∃y,xs[0]?=some y:=eE (by omega)
   obtain⟨_,_,aWm⟩:=World.cells?_some (hx 0 y0 wK).1;have IJ:=aWm 0 VG;have uN:(el y0)[0]?=some ((el y0)[0]'(by rw[d8];omega)):=gS (by rw[d8];omega);rw[uN] at IJ;obtain⟨aR,hsp⟩:=aJp IJ;have hs:a.spot=none:=by simpa[Addr.add] using hsp
   have aI1:∀j,(a.add j)=⟨a.block,a.off+j,none⟩:=by
    intro j;unfold Addr.add;split
    ·rename_i hj;subst hj;cases a;simp at hs;subst hs;rfl
    ·rfl
   refine⟨a.block,a.off,by cases a;simp at hs;subst hs;rfl,by simpa[Addr.add] using aR,fun j u hu=>?_⟩;have rS:j<len*sz:=by have:=(cY.1 hu).1;rw[qN d8,hxl] at this;exact this
   have hq:j / sz<len:=Nat.div_lt_of_lt_mul (by rw[Nat.mul_comm];exact rS);obtain⟨y,hy⟩:∃y,xs[j / sz]?=some y:=eE (by omega);have hm':j % sz<sz:=Nat.mod_lt _ VG;have hdm:j / sz*sz+j % sz=j:=by have:=Nat.div_add_mod j sz;rw[Nat.mul_comm] at this;exact this
   have h1:=kG d8 xs _ y hy _ hm';rw[hdm,hu] at h1;obtain⟨_,_,AU⟩:=World.cells?_some (hx _ y hy).1;have h2:=AU _ hm';rw[Go.Deep.add_add,hdm] at h2;rw[<-aI1,h2,<-h1]
theorem nI{t:TypeId}{fs:Array Field}{fuel:Nat}{cs:List Value}{x:DataW H×List MemPlace}(ht:P.underlying t=some (.struct fs))(J_:oneCellFields P fs=true)(hC:P.cellsOf t=fs.size)(h:DataW.trod enc P w 0 spare RE fuel t cs=some x):cs.length=fs.size/\∀(j:Nat)(f:Field),fs[j]?=some f->∃(v:Value)(n:Nat)(y:DataW H×List MemPlace),cs[j]?=some v/\DataW.trod enc P w 0 spare RE n f.type [v]=some y:=by
 obtain⟨ys,n',hn',hy,d8,hyl,hf⟩:=DataW.trod_struct ht h;rw[hC] at d8;refine⟨d8,fun j f hj=>?_⟩;obtain⟨ho,hk⟩:=hone_of J_ j f hj;have rS:j<fs.size:=(Array.getElem?_eq_some_iff.1 hj).1;have h1:=hf j f hj;rw[ho,hk] at h1;have aQi:(cs.drop j).take 1=[cs[j]'(by omega)]:=by
  rw[List.drop_eq_getElem_cons (by omega)];rfl
 rw[aQi] at h1;exact⟨_,n',_,gS (by omega),h1.trans (gS (by omega))⟩
theorem eA{k:IntKind}{fuel:Nat}{cs:List Value}{x:DataW H×List MemPlace}(ht:P.underlying t=some (.int k))(h:DataW.trod enc P w 0 spare RE fuel t cs=some x):∃n:Int,cs=[.int k n]/\(Lit.int k n).wf=true:=by
 obtain⟨n,h1,_,h2⟩:=DataW.trod_int ht h;exact⟨n,h1,h2⟩
theorem eI{fuel:Nat}{cs:List Value}{x:DataW H×List MemPlace}(ht:P.underlying t=some .string)(h:DataW.trod enc P w 0 spare RE fuel t cs=some x):∃s:ByteArray,cs=[.string s]/\s.size<=maxLen:=by
 obtain⟨n,h1,_,h2⟩:=DataW.trod_string ht h;exact⟨n,h1,h2⟩
end
end
section
open Go.ChangeShapes Go.WideShapes Go.ChangeAt Go.RowKit Go.Joins Go.Deep
attribute [local go_sem ↓] aE
attribute [local go_sem] aL aK aO
def qX(z y:ByteArray):Bool:=decide (z=y)
theorem a_(z y:ByteArray):(z.toList == y.toList)=qX z y:=by
 unfold qX;rw[ByteArray.toList_eq,ByteArray.toList_eq,Bool.eq_iff_iff,beq_iff_eq,decide_eq_true_eq]
 constructor
 ·intro h
  cases z;cases y
  simp at h;rw[h]
 ·rintro rfl;rfl
theorem zS{z y:ByteArray}:qX z y=true<->z=y:=by unfold qX;exact decide_eq_true_iff
theorem GQ{z y:ByteArray}:qX z y=false<->z≠y:=by unfold qX;exact decide_eq_false_iff_not
def fC(ss:List ByteArray):List Value:=ss.map Value.string
def bD(w:Wo)(B:Nat)(A:OA)(n:Nat)(ss:List ByteArray):Prop:=ss.length=n/\Rd w B 1 A n (fC ss)
theorem bD.below(h:bD w B A n xs)(hb:Below B' w w')(hB:B<=B'):bD w' B A n xs:=⟨h.1,h.2.below hb hB⟩
theorem bD.more(h:bD w B A n xs)(hB:B<=B'):bD w B' A n xs:=⟨h.1,h.2.more hB⟩
theorem bD.form(h:bD w B A n xs)(h0:0<n):∃b off,A=some ⟨b,off,none⟩/\b<B:=by
 obtain⟨b,off,e,aR,_⟩:=h.2.2 h0;exact⟨b,off,e,aR⟩
theorem bD.at_(h:bD w B (some ⟨b,off,none⟩) n xs){x:ByteArray}(hx:xs[i]?=some x):w.cell? ⟨b,off+i,none⟩=some (.string x):=by
 have hl:i<xs.length:=(cY.1 hx).1;have h1:=h.1;obtain⟨b',off',e,_,hc⟩:=h.2.2 (by omega);injection e with e;injection e with e1 e2;subst e1;subst e2;exact hc i _ (by simp[fC,hx])
theorem K4(w:Wo)(B:Nat)(A:OA):bD w B A 0 []:=⟨rfl,rfl,fun h=>by omega⟩
theorem nG{T:TypeId}{zs:List ByteArray}(h:aD w g T (fC zs).toArray)(hg:g<B):bD w B (some ⟨g,0,none⟩) zs.length zs:=
 ⟨rfl,by simp[fC],fun _=>⟨g,0,rfl,hg,fun j u hu=>by
  rw[show(⟨g,0+j,none⟩:Addr)=⟨g,j,none⟩ from by simp];rw[h.cell j];simpa using hu⟩⟩
theorem bD.take{zs:List ByteArray}(h:bD w B A n zs)(hm:m<=n):bD w B A m (zs.take m):=by
 have hl:=h.1;refine⟨by simp;omega,by simp[fC];omega,fun h0=>?_⟩;obtain⟨b,off,e,aR,hc⟩:=h.2.2 (by omega);refine⟨b,off,e,aR,fun j u hu=>hc j u ?_⟩;simp only[fC,List.map_take] at hu ⊢;rw[List.getElem?_take] at hu;split at hu
 ·exact hu
 ·cases hu
structure Sw where
 name:ByteArray
 a:ByteArray
 b:ByteArray
 breaker:Bool
 opn:Bool
def Sw.cells(x:Sw):List Value:=[.string x.name,.string x.a,.string x.b,.bool x.breaker,.bool x.opn]
def Sw.val(x:Sw):Value:=.agg #[.string x.name,.string x.a,.string x.b,.bool x.breaker,.bool x.opn]
theorem Sw.len(x:Sw):x.cells.length=5:=rfl
def zB(w:Wo)(B:Nat)(A:OA)(n:Nat)(xs:List Sw):Prop:=xs.length=n/\Rd w B 5 A n (xs.flatMap Sw.cells)
theorem zB.below{xs:List Sw}(h:zB w B A n xs)(hb:Below B' w w')(hB:B<=B'):zB w' B A n xs:=⟨h.1,h.2.below hb hB⟩
theorem zB.more{xs:List Sw}(h:zB w B A n xs)(hB:B<=B'):zB w B' A n xs:=⟨h.1,h.2.more hB⟩
theorem zB.at_{xs:List Sw}(h:zB w B (some ⟨b,off,none⟩) n xs){x:Sw}(hx:xs[i]?=some x):w.cell? ⟨b,off+i*5,none⟩=some (.string x.name)/\w.cell? ⟨b,off+i*5+1,none⟩=some (.string x.a)/\w.cell? ⟨b,off+i*5+2,none⟩=some (.string x.b)/\w.cell? ⟨b,off+i*5+3,none⟩=some (.bool x.breaker)/\w.cell? ⟨b,off+i*5+4,none⟩=some (.bool x.opn):=by
 have hl:i<xs.length:=(cY.1 hx).1;have h1:=h.1;obtain⟨b',off',e,_,hc⟩:=h.2.2 (by omega);injection e with e;injection e with e1 e2;subst e1;subst e2;have key:∀k,k<5->∀u,x.cells[k]?=some u->w.cell? ⟨b,off+i*5+k,none⟩=some u:=fun k hk u hu=>by
  have:=hc (i*5+k) u (by rw[kG Sw.len xs i x hx k hk];exact hu);rwa[<-Nat.add_assoc] at this
 exact⟨key 0 (by omega) _ rfl,key 1 (by omega) _ rfl,key 2 (by omega) _ rfl,key 3 (by omega) _ rfl,key 4 (by omega) _ rfl⟩
theorem zB.form{xs:List Sw}(h:zB w B A n xs)(h0:0<n):∃b off,A=some ⟨b,off,none⟩/\b<B:=by
 obtain⟨b,off,e,aR,_⟩:=h.2.2 h0;exact⟨b,off,e,aR⟩
theorem Sw.box{x:Sw}(h:aD w p t #[.string x.name,.string x.a,.string x.b,.bool x.breaker,.bool x.opn]):w.cell? ⟨p,0,none⟩=some (.string x.name)/\w.cell? ⟨p,1,none⟩=some (.string x.a)/\w.cell? ⟨p,2,none⟩=some (.string x.b)/\w.cell? ⟨p,3,none⟩=some (.bool x.breaker)/\w.cell? ⟨p,4,none⟩=some (.bool x.opn)/\(∀i,w.frozen? ⟨p,i,none⟩=false)/\p<w.heap.size:=
 ⟨h.cell 0,h.cell 1,h.cell 2,h.cell 3,h.cell 4,h.frozen,h.lt⟩
structure Br where
 name:ByteArray
 fr:ByteArray
 to:ByteArray
 x:Int
 tap:Int
 shift:Int
 limit:Int
 short:Int
 hold:Int
def Br.cells(x:Br):List Value:=[.string x.name,.string x.fr,.string x.to,.int .i64 x.x,.int .i64 x.tap,.int .i64 x.shift,.int .i64 x.limit,.int .i64 x.short,.int .i64 x.hold]
def Br.val(x:Br):Value:=.agg #[.string x.name,.string x.fr,.string x.to,.int .i64 x.x,.int .i64 x.tap,.int .i64 x.shift,.int .i64 x.limit,.int .i64 x.short,.int .i64 x.hold]
theorem Br.len(x:Br):x.cells.length=9:=rfl
def xL(w:Wo)(B:Nat)(A:OA)(n:Nat)(xs:List Br):Prop:=xs.length=n/\Rd w B 9 A n (xs.flatMap Br.cells)
theorem xL.below{xs:List Br}(h:xL w B A n xs)(hb:Below B' w w')(hB:B<=B'):xL w' B A n xs:=⟨h.1,h.2.below hb hB⟩
theorem xL.more{xs:List Br}(h:xL w B A n xs)(hB:B<=B'):xL w B' A n xs:=⟨h.1,h.2.more hB⟩
theorem xL.at_{xs:List Br}(h:xL w B (some ⟨b,off,none⟩) n xs){x:Br}(hx:xs[i]?=some x):w.cell? ⟨b,off+i*9,none⟩=some (.string x.name)/\w.cell? ⟨b,off+i*9+1,none⟩=some (.string x.fr)/\w.cell? ⟨b,off+i*9+2,none⟩=some (.string x.to)/\w.cell? ⟨b,off+i*9+3,none⟩=some (.int .i64 x.x)/\w.cell? ⟨b,off+i*9+4,none⟩=some (.int .i64 x.tap)/\w.cell? ⟨b,off+i*9+5,none⟩=some (.int .i64 x.shift)/\w.cell? ⟨b,off+i*9+6,none⟩=some (.int .i64 x.limit)/\w.cell? ⟨b,off+i*9+7,none⟩=some (.int .i64 x.short)/\w.cell? ⟨b,off+i*9+8,none⟩=some (.int .i64 x.hold):=by
 have hl:i<xs.length:=(cY.1 hx).1;have h1:=h.1;obtain⟨b',off',e,_,hc⟩:=h.2.2 (by omega);injection e with e;injection e with e1 e2;subst e1;subst e2;have key:∀k,k<9->∀u,x.cells[k]?=some u->w.cell? ⟨b,off+i*9+k,none⟩=some u:=fun k hk u hu=>by
  have:=hc (i*9+k) u (by rw[kG Br.len xs i x hx k hk];exact hu);rwa[<-Nat.add_assoc] at this
 exact⟨key 0 (by omega) _ rfl,key 1 (by omega) _ rfl,key 2 (by omega) _ rfl,key 3 (by omega) _ rfl,key 4 (by omega) _ rfl,key 5 (by omega) _ rfl,key 6 (by omega) _ rfl,key 7 (by omega) _ rfl,key 8 (by omega) _ rfl⟩
theorem xL.form{xs:List Br}(h:xL w B A n xs)(h0:0<n):∃b off,A=some ⟨b,off,none⟩/\b<B:=by
 obtain⟨b,off,e,aR,_⟩:=h.2.2 h0;exact⟨b,off,e,aR⟩
theorem Br.box{x:Br}(h:aD w p t #[.string x.name,.string x.fr,.string x.to,.int .i64 x.x,.int .i64 x.tap,.int .i64 x.shift,.int .i64 x.limit,.int .i64 x.short,.int .i64 x.hold]):w.cell? ⟨p,0,none⟩=some (.string x.name)/\w.cell? ⟨p,1,none⟩=some (.string x.fr)/\w.cell? ⟨p,2,none⟩=some (.string x.to)/\w.cell? ⟨p,3,none⟩=some (.int .i64 x.x)/\w.cell? ⟨p,4,none⟩=some (.int .i64 x.tap)/\w.cell? ⟨p,5,none⟩=some (.int .i64 x.shift)/\w.cell? ⟨p,6,none⟩=some (.int .i64 x.limit)/\w.cell? ⟨p,7,none⟩=some (.int .i64 x.short)/\w.cell? ⟨p,8,none⟩=some (.int .i64 x.hold)/\(∀i,w.frozen? ⟨p,i,none⟩=false)/\p<w.heap.size:=
 ⟨h.cell 0,h.cell 1,h.cell 2,h.cell 3,h.cell 4,h.cell 5,h.cell 6,h.cell 7,h.cell 8,h.frozen,h.lt⟩
structure Gn where
 name:ByteArray
 node:ByteArray
 least:Int
 most:Int
 ramp:Int
def Gn.cells(x:Gn):List Value:=[.string x.name,.string x.node,.int .i64 x.least,.int .i64 x.most,.int .i64 x.ramp]
def Gn.val(x:Gn):Value:=.agg #[.string x.name,.string x.node,.int .i64 x.least,.int .i64 x.most,.int .i64 x.ramp]
theorem Gn.len(x:Gn):x.cells.length=5:=rfl
def zE(w:Wo)(B:Nat)(A:OA)(n:Nat)(xs:List Gn):Prop:=xs.length=n/\Rd w B 5 A n (xs.flatMap Gn.cells)
theorem zE.below{xs:List Gn}(h:zE w B A n xs)(hb:Below B' w w')(hB:B<=B'):zE w' B A n xs:=⟨h.1,h.2.below hb hB⟩
theorem zE.more{xs:List Gn}(h:zE w B A n xs)(hB:B<=B'):zE w B' A n xs:=⟨h.1,h.2.more hB⟩
theorem zE.at_{xs:List Gn}(h:zE w B (some ⟨b,off,none⟩) n xs){x:Gn}(hx:xs[i]?=some x):w.cell? ⟨b,off+i*5,none⟩=some (.string x.name)/\w.cell? ⟨b,off+i*5+1,none⟩=some (.string x.node)/\w.cell? ⟨b,off+i*5+2,none⟩=some (.int .i64 x.least)/\w.cell? ⟨b,off+i*5+3,none⟩=some (.int .i64 x.most)/\w.cell? ⟨b,off+i*5+4,none⟩=some (.int .i64 x.ramp):=by
 have hl:i<xs.length:=(cY.1 hx).1;have h1:=h.1;obtain⟨b',off',e,_,hc⟩:=h.2.2 (by omega);injection e with e;injection e with e1 e2;subst e1;subst e2;have key:∀k,k<5->∀u,x.cells[k]?=some u->w.cell? ⟨b,off+i*5+k,none⟩=some u:=fun k hk u hu=>by
  have:=hc (i*5+k) u (by rw[kG Gn.len xs i x hx k hk];exact hu);rwa[<-Nat.add_assoc] at this
 exact⟨key 0 (by omega) _ rfl,key 1 (by omega) _ rfl,key 2 (by omega) _ rfl,key 3 (by omega) _ rfl,key 4 (by omega) _ rfl⟩
theorem zE.form{xs:List Gn}(h:zE w B A n xs)(h0:0<n):∃b off,A=some ⟨b,off,none⟩/\b<B:=by
 obtain⟨b,off,e,aR,_⟩:=h.2.2 h0;exact⟨b,off,e,aR⟩
theorem Gn.box{x:Gn}(h:aD w p t #[.string x.name,.string x.node,.int .i64 x.least,.int .i64 x.most,.int .i64 x.ramp]):w.cell? ⟨p,0,none⟩=some (.string x.name)/\w.cell? ⟨p,1,none⟩=some (.string x.node)/\w.cell? ⟨p,2,none⟩=some (.int .i64 x.least)/\w.cell? ⟨p,3,none⟩=some (.int .i64 x.most)/\w.cell? ⟨p,4,none⟩=some (.int .i64 x.ramp)/\(∀i,w.frozen? ⟨p,i,none⟩=false)/\p<w.heap.size:=
 ⟨h.cell 0,h.cell 1,h.cell 2,h.cell 3,h.cell 4,h.frozen,h.lt⟩
structure Ld where
 name:ByteArray
 node:ByteArray
 demand:Int
def Ld.cells(x:Ld):List Value:=[.string x.name,.string x.node,.int .i64 x.demand]
def Ld.val(x:Ld):Value:=.agg #[.string x.name,.string x.node,.int .i64 x.demand]
theorem Ld.len(x:Ld):x.cells.length=3:=rfl
def zD(w:Wo)(B:Nat)(A:OA)(n:Nat)(xs:List Ld):Prop:=xs.length=n/\Rd w B 3 A n (xs.flatMap Ld.cells)
theorem zD.below{xs:List Ld}(h:zD w B A n xs)(hb:Below B' w w')(hB:B<=B'):zD w' B A n xs:=⟨h.1,h.2.below hb hB⟩
theorem zD.more{xs:List Ld}(h:zD w B A n xs)(hB:B<=B'):zD w B' A n xs:=⟨h.1,h.2.more hB⟩
theorem zD.at_{xs:List Ld}(h:zD w B (some ⟨b,off,none⟩) n xs){x:Ld}(hx:xs[i]?=some x):w.cell? ⟨b,off+i*3,none⟩=some (.string x.name)/\w.cell? ⟨b,off+i*3+1,none⟩=some (.string x.node)/\w.cell? ⟨b,off+i*3+2,none⟩=some (.int .i64 x.demand):=by
 have hl:i<xs.length:=(cY.1 hx).1;have h1:=h.1;obtain⟨b',off',e,_,hc⟩:=h.2.2 (by omega);injection e with e;injection e with e1 e2;subst e1;subst e2;have key:∀k,k<3->∀u,x.cells[k]?=some u->w.cell? ⟨b,off+i*3+k,none⟩=some u:=fun k hk u hu=>by
  have:=hc (i*3+k) u (by rw[kG Ld.len xs i x hx k hk];exact hu);rwa[<-Nat.add_assoc] at this
 exact⟨key 0 (by omega) _ rfl,key 1 (by omega) _ rfl,key 2 (by omega) _ rfl⟩
theorem zD.form{xs:List Ld}(h:zD w B A n xs)(h0:0<n):∃b off,A=some ⟨b,off,none⟩/\b<B:=by
 obtain⟨b,off,e,aR,_⟩:=h.2.2 h0;exact⟨b,off,e,aR⟩
theorem Ld.box{x:Ld}(h:aD w p t #[.string x.name,.string x.node,.int .i64 x.demand]):w.cell? ⟨p,0,none⟩=some (.string x.name)/\w.cell? ⟨p,1,none⟩=some (.string x.node)/\w.cell? ⟨p,2,none⟩=some (.int .i64 x.demand)/\(∀i,w.frozen? ⟨p,i,none⟩=false)/\p<w.heap.size:=
 ⟨h.cell 0,h.cell 1,h.cell 2,h.frozen,h.lt⟩
structure St where
 name:ByteArray
 node:ByteArray
 charge:Int
 discharge:Int
 capacity:Int
def St.cells(x:St):List Value:=[.string x.name,.string x.node,.int .i64 x.charge,.int .i64 x.discharge,.int .i64 x.capacity]
def St.val(x:St):Value:=.agg #[.string x.name,.string x.node,.int .i64 x.charge,.int .i64 x.discharge,.int .i64 x.capacity]
theorem St.len(x:St):x.cells.length=5:=rfl
def zC(w:Wo)(B:Nat)(A:OA)(n:Nat)(xs:List St):Prop:=xs.length=n/\Rd w B 5 A n (xs.flatMap St.cells)
theorem zC.below{xs:List St}(h:zC w B A n xs)(hb:Below B' w w')(hB:B<=B'):zC w' B A n xs:=⟨h.1,h.2.below hb hB⟩
theorem zC.more{xs:List St}(h:zC w B A n xs)(hB:B<=B'):zC w B' A n xs:=⟨h.1,h.2.more hB⟩
theorem zC.at_{xs:List St}(h:zC w B (some ⟨b,off,none⟩) n xs){x:St}(hx:xs[i]?=some x):w.cell? ⟨b,off+i*5,none⟩=some (.string x.name)/\w.cell? ⟨b,off+i*5+1,none⟩=some (.string x.node)/\w.cell? ⟨b,off+i*5+2,none⟩=some (.int .i64 x.charge)/\w.cell? ⟨b,off+i*5+3,none⟩=some (.int .i64 x.discharge)/\w.cell? ⟨b,off+i*5+4,none⟩=some (.int .i64 x.capacity):=by
 have hl:i<xs.length:=(cY.1 hx).1;have h1:=h.1;obtain⟨b',off',e,_,hc⟩:=h.2.2 (by omega);injection e with e;injection e with e1 e2;subst e1;subst e2;have key:∀k,k<5->∀u,x.cells[k]?=some u->w.cell? ⟨b,off+i*5+k,none⟩=some u:=fun k hk u hu=>by
  have:=hc (i*5+k) u (by rw[kG St.len xs i x hx k hk];exact hu);rwa[<-Nat.add_assoc] at this
 exact⟨key 0 (by omega) _ rfl,key 1 (by omega) _ rfl,key 2 (by omega) _ rfl,key 3 (by omega) _ rfl,key 4 (by omega) _ rfl⟩
theorem zC.form{xs:List St}(h:zC w B A n xs)(h0:0<n):∃b off,A=some ⟨b,off,none⟩/\b<B:=by
 obtain⟨b,off,e,aR,_⟩:=h.2.2 h0;exact⟨b,off,e,aR⟩
theorem St.box{x:St}(h:aD w p t #[.string x.name,.string x.node,.int .i64 x.charge,.int .i64 x.discharge,.int .i64 x.capacity]):w.cell? ⟨p,0,none⟩=some (.string x.name)/\w.cell? ⟨p,1,none⟩=some (.string x.node)/\w.cell? ⟨p,2,none⟩=some (.int .i64 x.charge)/\w.cell? ⟨p,3,none⟩=some (.int .i64 x.discharge)/\w.cell? ⟨p,4,none⟩=some (.int .i64 x.capacity)/\(∀i,w.frozen? ⟨p,i,none⟩=false)/\p<w.heap.size:=
 ⟨h.cell 0,h.cell 1,h.cell 2,h.cell 3,h.cell 4,h.frozen,h.lt⟩
structure bK where
 nodes:List ByteArray
 sws:List Sw
 brs:List Br
 gns:List Gn
 lds:List Ld
 sts:List St
structure bZ where
 A0:OA
 n0:Nat
 c0:Nat
 A1:OA
 n1:Nat
 c1:Nat
 A2:OA
 n2:Nat
 c2:Nat
 A3:OA
 n3:Nat
 c3:Nat
 A4:OA
 n4:Nat
 c4:Nat
 A5:OA
 n5:Nat
 c5:Nat
def bZ.cells(h:bZ):Array Value:=#[.slice h.A0 h.n0 h.c0,.slice h.A1 h.n1 h.c1,.slice h.A2 h.n2 h.c2,.slice h.A3 h.n3 h.c3,.slice h.A4 h.n4 h.c4,.slice h.A5 h.n5 h.c5]
structure cL (w:Wo) (B:Nat) (h:bZ) (x:bK):Prop where
 r0:bD w B h.A0 h.n0 x.nodes
 r1:zB w B h.A1 h.n1 x.sws
 r2:xL w B h.A2 h.n2 x.brs
 r3:zE w B h.A3 h.n3 x.gns
 r4:zD w B h.A4 h.n4 x.lds
 r5:zC w B h.A5 h.n5 x.sts
 m0:h.n0<=9223372036854775807
 m1:h.n1<=9223372036854775807
 m2:h.n2<=9223372036854775807
 m3:h.n3<=9223372036854775807
 m4:h.n4<=9223372036854775807
 m5:h.n5<=9223372036854775807
 /-- every string is as long as a string can be -/
 z0:∀s∈x.nodes,s.size<=maxLen
 z1:∀s∈x.sws,s.name.size<=maxLen
 z2:∀s∈x.brs,s.name.size<=maxLen
 z3:∀s∈x.gns,s.name.size<=maxLen
 z4:∀s∈x.lds,s.name.size<=maxLen
 z5:∀s∈x.sts,s.name.size<=maxLen
theorem cL.below{h:bZ}{x:bK}(r:cL w B h x)(hb:Below B' w w')(hB:B<=B'):cL w' B h x:=
 ⟨r.r0.below hb hB,r.r1.below hb hB,r.r2.below hb hB,r.r3.below hb hB,r.r4.below hb hB,r.r5.below hb hB,r.m0,r.m1,r.m2,r.m3,r.m4,r.m5,r.z0,r.z1,r.z2,r.z3,r.z4,r.z5⟩
theorem cL.more{h:bZ}{x:bK}(r:cL w B h x)(hB:B<=B'):cL w B' h x:=
 ⟨r.r0.more hB,r.r1.more hB,r.r2.more hB,r.r3.more hB,r.r4.more hB,r.r5.more hB,r.m0,r.m1,r.m2,r.m3,r.m4,r.m5,r.z0,r.z1,r.z2,r.z3,r.z4,r.z5⟩
theorem cL.up{h:bZ}{x:bK}(r:cL w w.heap.size h x)(hb:Below w.heap.size w w'):cL w' w'.heap.size h x:=(r.below hb lR).more hb.size
theorem aX{h:bZ}(q:aD w p t h.cells):w.cell? ⟨p,0,none⟩=some (.slice h.A0 h.n0 h.c0)/\w.cell? ⟨p,1,none⟩=some (.slice h.A1 h.n1 h.c1)/\w.cell? ⟨p,2,none⟩=some (.slice h.A2 h.n2 h.c2)/\
    w.cell? ⟨p,3,none⟩=some (.slice h.A3 h.n3 h.c3)/\w.cell? ⟨p,4,none⟩=some (.slice h.A4 h.n4 h.c4)/\w.cell? ⟨p,5,none⟩=some (.slice h.A5 h.n5 h.c5)/\(∀i,w.frozen? ⟨p,i,none⟩=false)/\p<w.heap.size:=
 ⟨q.cell 0,q.cell 1,q.cell 2,q.cell 3,q.cell 4,q.cell 5,q.frozen,q.lt⟩
theorem bD.bm(h:bD w w.heap.size A n l)(g:Below w.heap.size w w'):bD w' w'.heap.size A n l:=(h.below g lR).more g.size
theorem zB.bm{l:List Sw}(h:zB w w.heap.size A n l)(g:Below w.heap.size w w'):zB w' w'.heap.size A n l:=(h.below g lR).more g.size
theorem xL.bm{l:List Br}(h:xL w w.heap.size A n l)(g:Below w.heap.size w w'):xL w' w'.heap.size A n l:=(h.below g lR).more g.size
theorem zE.bm{l:List Gn}(h:zE w w.heap.size A n l)(g:Below w.heap.size w w'):zE w' w'.heap.size A n l:=(h.below g lR).more g.size
theorem zD.bm{l:List Ld}(h:zD w w.heap.size A n l)(g:Below w.heap.size w w'):zD w' w'.heap.size A n l:=(h.below g lR).more g.size
theorem zC.bm{l:List St}(h:zC w w.heap.size A n l)(g:Below w.heap.size w w'):zC w' w'.heap.size A n l:=(h.below g lR).more g.size
theorem cL.bm{h:bZ}{x:bK}(r:cL w w.heap.size h x)(g:Below w.heap.size w w'):cL w' w'.heap.size h x:=(r.below g lR).more g.size
end
section
open Go.ChangeShapes Go.WideShapes Go.ChangeAt Go.RowKit
attribute [local go_sem ↓] aE
attribute [local go_sem] aL aK aO a_
def aAL(i c:Nat):Bool:=decide ((65<=c/\c<=90)\/(0<i/\48<=c/\c<=57))
def UR:Nat->List UInt8->Bool
 | _,[]=>true
 | i,c::r=>aAL i c.toNat && UR (i+1) r
def AK(s:ByteArray):Bool:=UR 0 s.data.toList && decide (1<=s.size/\s.size<=8)
theorem QG(s:ByteArray)(w:Wo)(hs:s.size<=maxLen):Calls Tryz.prog 128 #[.string s] w fun e w'=>e=.returned (.bool (AK s))/\Below w.heap.size w w':=by
 have VM:=fun w=>run_bytes_of_string (P:=Tryz.prog) w 9 231 5 s Tryz.underlying9 Tryz.underlying231 Tryz.underlying5;unfold maxLen at hs;go_enter Tryz.func128,Tryz.ntmps128
 go_wp2_with fail
 clear VM;generalize grownCap w s.size 0 5=cap;have jI:∀k (h:k<s.data.size),(w.alloc (.cells (bytesRow s cap) 5 ((bytesRow s cap).size,(bytesRow s cap).size+1))).cell? ⟨w.heap.size,k,none⟩=some (.int .u8 (s.data[k].toNat:Int)):=fun k h=>by
  rw[World.cell?_alloc_mark,bytesRow_at s cap k h]
 have HC:=lH jI;have K0:Below w.heap.size w (w.alloc (.cells (bytesRow s cap) 5 ((bytesRow s cap).size,(bytesRow s cap).size+1))).drew:=aI (bA);have HK:=lH K0;have aMp:w.heap.size<(w.alloc (.cells (bytesRow s cap) 5 ((bytesRow s cap).size,(bytesRow s cap).size+1))).heap.size:=by simp
 clear jI K0;generalize (w.alloc (.cells (bytesRow s cap) 5 ((bytesRow s cap).size,(bytesRow s cap).size+1)))=w1 at *
 go_loop [3,4,8] (fun _ _ i=>∃k:Nat,k<=s.size/\i=.int .i64 k/\UR 0 s.data.toList=UR k (s.data.toList.drop k)) (fun _ _ i=>s.size-(intOf i).toNat)
 case atStart=>exact⟨0,by omega,rfl,rfl⟩
 case round=>
  obtain⟨k,hk,rfl,oR⟩:=hrel;have HG:=lH oR;clear oR;by_cases aR:k<s.size
  ·obtain⟨n,hn,Q4⟩:∃n:Nat,n<256/\n=(s.data[k]'aR).toNat:=⟨_,UInt8.toNat_lt _,rfl⟩
   have hc:=HC.o k aR;rw[<-Q4] at hc;have hd:s.data.toList.drop k=s.data[k]'aR::s.data.toList.drop (k+1):=bX (by simp[aR]);have HD:=lH (show UR k (s.data.toList.drop k)=(aAL k n && UR (k+1) (s.data.toList.drop (k+1))) by rw[hd,Q4];rfl);clear hd Q4;(go_wp2_with fail)
   all_goals
    first
     | (have hx : aAL k n = true := by
          clear HD HK aMp;simp at *;unfold aAL;rw[decide_eq_true_eq];omega
        have HX:=lH hx;clear hx
        go_round
        case rel=>exact⟨k+1,by omega,by go_num,by rw[HG.o,HD.o,HX.o];rfl⟩
        case measure=>simp[intOf];omega)
     | (have hx : aAL k n = false := by
          clear HD HK aMp;simp at *;unfold aAL;rw[decide_eq_false_iff_not];omega
        go_ret;exact⟨sD (by unfold AK;rw[HG.o,HD.o,hx];rfl),HK.o⟩)
  ·have hd:s.data.toList.drop k=[]:=by rw[List.drop_eq_nil_iff];simp;exact Nat.le_of_not_lt aR
   have HD:=lH (show UR k (s.data.toList.drop k)=true by rw[hd];rfl);have hs8:Hid (AK s=decide (1<=s.size/\s.size<=8)):=lH (by unfold AK;rw[HG.o,HD.o];rfl);clear hd;by_cases h1:1<=s.size
   ·by_cases h8:s.size<=8
    ·go_wp2_with fail
     go_ret;exact⟨sD (by rw[hs8.out];first | (rw[decide_eq_decide];omega) | (rw[eq_comm,decide_eq_false_iff_not];omega) | (rw[eq_comm,decide_eq_true_eq];omega)),HK.o⟩
    ·go_wp2_with fail
     go_ret;exact⟨sD (by rw[hs8.out];first | (rw[decide_eq_decide];omega) | (rw[eq_comm,decide_eq_false_iff_not];omega) | (rw[eq_comm,decide_eq_true_eq];omega)),HK.o⟩
   ·go_wp2_with fail
    go_ret;exact⟨sD (by rw[hs8.out];first | (rw[decide_eq_decide];omega) | (rw[eq_comm,decide_eq_false_iff_not];omega) | (rw[eq_comm,decide_eq_true_eq];omega)),HK.o⟩
def lK(n low high:Int):Bool:=decide (n<low\/high<n)
theorem dY(n low high:Int)(w:Wo):Calls Tryz.prog 129 #[.int .i64 n,.int .i64 low,.int .i64 high] w fun e w'=>e=.returned (.bool (lK n low high))/\w=w':=by
 go_enter Tryz.func129,Tryz.ntmps129
 go_wp2
 all_goals
  go_ret;exact⟨sD (by simp[lK]<;>omega),rfl⟩
theorem cS(n:Int)(w:Wo):Calls Tryz.prog 130 #[.int .i64 n] w fun e w'=>e=.returned (.bool (!lK n 0 100000))/\w=w':=by
 go_enter Tryz.func130,Tryz.ntmps130
 go_wp2_with fail
 refine(dY _ _ _ _).mono ?_;rintro e w1 ⟨rfl,rfl⟩
 go_wp2_with fail
 go_ret;exact⟨rfl,rfl⟩
def Br.bad(x:Br):Bool:=lK x.x 1 10000 || lK x.tap 500 1500 || lK x.shift (-1000) 1000 || lK x.limit 0 100000 || lK x.short x.limit 100000 || lK x.hold 0 200000
def Br.ck(x:Br):Int:=if x.bad then 4 else 0
theorem QF(x:Br)(w:Wo):Calls Tryz.prog 98 #[.agg #[.string x.name,.string x.fr,.string x.to,.int .i64 x.x,.int .i64 x.tap,.int .i64 x.shift,.int .i64 x.limit,.int .i64 x.short,.int .i64 x.hold]] w fun e w'=>e=.returned (.int .i64 x.ck)/\Below w.heap.size w w':=by
 have K0:∀cs t,Below w.heap.size w (w.alloc (.cells cs t)):=fun cs t=>bA;have HK:=lH K0;clear K0;have MO:=lH (show x.ck=if x.bad then 4 else 0 from rfl);cases h0:lK x.x 1 10000 with
 | true=>
  have HB:Hid (x.ck=4):=lH (by rw[MO.o];unfold Br.bad;rw[h0];rfl);go_enter Tryz.func98,Tryz.ntmps98
  go_wp2_with (go_at_call 129;refine(dY _ _ _ _).mono ?_;rintro e w' ⟨rfl,rfl⟩)
  go_ret;exact⟨aU (by rw[HB.o]),HK.o _ _⟩
 | false=>
  cases h1:lK x.tap 500 1500 with
  | true=>
   have HB:Hid (x.ck=4):=lH (by rw[MO.o];unfold Br.bad;rw[h0,h1];rfl);go_enter Tryz.func98,Tryz.ntmps98
   go_wp2_with (go_at_call 129;refine(dY _ _ _ _).mono ?_;rintro e w' ⟨rfl,rfl⟩)
   go_ret;exact⟨aU (by rw[HB.o]),HK.o _ _⟩
  | false=>
   cases h2:lK x.shift (-1000) 1000 with
   | true=>
    have HB:Hid (x.ck=4):=lH (by rw[MO.o];unfold Br.bad;rw[h0,h1,h2];rfl);go_enter Tryz.func98,Tryz.ntmps98
    go_wp2_with (go_at_call 129;refine(dY _ _ _ _).mono ?_;rintro e w' ⟨rfl,rfl⟩)
    go_ret;exact⟨aU (by rw[HB.o]),HK.o _ _⟩
   | false=>
    cases h3:lK x.limit 0 100000 with
    | true=>
     have HB:Hid (x.ck=4):=lH (by rw[MO.o];unfold Br.bad;rw[h0,h1,h2,h3];rfl);go_enter Tryz.func98,Tryz.ntmps98
     go_wp2_with (go_at_call 129;refine(dY _ _ _ _).mono ?_;rintro e w' ⟨rfl,rfl⟩)
     go_ret;exact⟨aU (by rw[HB.o]),HK.o _ _⟩
    | false=>
     cases h4:lK x.short x.limit 100000 with
     | true=>
      have HB:Hid (x.ck=4):=lH (by rw[MO.o];unfold Br.bad;rw[h0,h1,h2,h3,h4];rfl);go_enter Tryz.func98,Tryz.ntmps98
      go_wp2_with (go_at_call 129;refine(dY _ _ _ _).mono ?_;rintro e w' ⟨rfl,rfl⟩)
      go_ret;exact⟨aU (by rw[HB.o]),HK.o _ _⟩
     | false=>
      cases h5:lK x.hold 0 200000 with
      | true=>
       have HB:Hid (x.ck=4):=lH (by rw[MO.o];unfold Br.bad;rw[h0,h1,h2,h3,h4,h5];rfl);go_enter Tryz.func98,Tryz.ntmps98
       go_wp2_with (go_at_call 129;refine(dY _ _ _ _).mono ?_;rintro e w' ⟨rfl,rfl⟩)
       go_ret;exact⟨aU (by rw[HB.o]),HK.o _ _⟩
      | false=>
       have HB:Hid (x.ck=0):=lH (by rw[MO.o];unfold Br.bad;rw[h0,h1,h2,h3,h4,h5];rfl);go_enter Tryz.func98,Tryz.ntmps98
       go_wp2_with (go_at_call 129;refine(dY _ _ _ _).mono ?_;rintro e w' ⟨rfl,rfl⟩)
       go_ret;exact⟨aU (by rw[HB.o]),HK.o _ _⟩
theorem kD(A:OA)(n c:Nat)(zs:List ByteArray)(z:ByteArray)(w:Wo)(hr:bD w w.heap.size A n zs)(hn:n<=9223372036854775807):Calls Tryz.prog 91 #[.slice A n c,.string z] w fun e w'=>e=.returned (.int .i64 (gM (fun x=>qX z x) zs 0))/\w=w':=by
 have d8:=lH hr.1;go_enter Tryz.func91,Tryz.ntmps91
 go_wp2_with fail
 go_loop [5,8] (fun _ i=>∃k:Nat,k<=n/\i=.int .i64 k/\gM (fun x=>qX z x) zs 0=gM (fun x=>qX z x) (zs.drop k) k) (fun _ i=>n-(intOf i).toNat)
 case atStart=>exact⟨0,by omega,rfl,rfl⟩
 case round=>
  obtain⟨k,hk,rfl,IH⟩:=hrel;have zI:=lH IH;clear IH;by_cases aR:k<n
  ·obtain⟨y,hy⟩:∃y,zs[k]?=some y:=eE (by have:=d8.out;omega)
   obtain⟨b,off,rfl,VR⟩:=hr.form (by omega);have jI:=hr.at_ hy;have HZ:=lH (bX hy);clear hy;cases hp:qX z y with
   | true=>
    have HP:=lH hp;(go_wp2_with fail);go_ret;exact⟨aU (by rw[zI.o,HZ.o];simp[gM,HP.o]),rfl⟩
   | false=>
    have HP:=lH hp;(go_wp2_with fail)
    go_round
    case rel=>exact⟨k+1,by omega,by go_num,by rw[zI.o,HZ.o];simp[gM,HP.o]⟩
    case measure=>simp[intOf];omega
  ·have hd:zs.drop k=[]:=by rw[List.drop_eq_nil_iff];have:=d8.out;omega
   have HD:=lH hd;clear hd;(go_wp2_with fail);go_ret;exact⟨aU (by rw[zI.o,HD.o];rfl),rfl⟩
theorem tV(A:OA)(n c:Nat)(ss:List ByteArray)(z:ByteArray)(w:Wo)(hr:bD w w.heap.size A n ss)(hn:n<=9223372036854775807):Calls Tryz.prog 103 #[.slice A n c,.string z] w fun e w'=>e=.returned (.bool (ss.any (fun x=>qX z x)))/\w=w':=by
 have HA:=lH (LK (fun x=>qX z x) ss 0);go_enter Tryz.func103,Tryz.ntmps103
 go_wp2_with fail
 refine(kD A n c ss z w hr hn).mono ?_;rintro e w1 ⟨rfl,rfl⟩
 go_wp2_with fail
 go_ret;exact⟨sD HA.o,rfl⟩
end
section
open Go.ChangeShapes Go.WideShapes Go.ChangeAt Go.RowKit Go.Maps
attribute [local go_sem ↓] aE
attribute [local go_sem] aL aK aO a_
theorem yI{H:Type}{P:Program}{e:TypeId}(he:P.underlying e=some .bool){z:DataW H×List MemPlace}(h:plainElem P e v=some z):∃x,v=.bool x/\z=(.lit (.bool x),[]):=by
 unfold plainElem at h;rw[he] at h;cases v<;>simp at h;exact⟨_,rfl,h.symm⟩
theorem fE{H:Type}{P:Program}(w:Wo){ops:Array Oper}{rest:List Oper}{o:Oper}{a:Act}{Q:Exit->Act->World->Prop}(hg:o.guard=none)(m x:Operand)(t:TypeId)(hop:o.op=Op.lookup t m x false)(k e:TypeId)(K:Keyed P k)(ht:P.underlying t=some (.map k e))(he:P.underlying e=some .bool)(hz:(zeroValue e).run P w=.ok (.bool false) w)(b n:Nat)(D:DataW H)(hm:a.eval m=.map (some b))(aW:w.ownsMap P k (plainElem P e) b n D)(key:Value)(kl:Lit)(hx:a.eval x=key)(aMt:keyOf P k key=some kl)(c:Bool)(hc:D.atKey kl (.lit (.bool false))=.lit (.bool c))(hK:wpList P ops Q rest (a.put o.dst (.bool c)) w):wpList P ops Q (o::rest) a w:=by
 refine wpList_plain hg fun K' hK'=>?_;obtain⟨v,ps,NR,hv⟩:=aW.lookup K ht hz (plainElem_bool he false) aMt;obtain⟨c',rfl,hc'⟩:=yI he hv;simp only[Prod.mk.injEq] at hc';have LS:c'=c:=by
  have h1:=hc'.1;rw[hc] at h1;injection h1 with h1;injection h1 with h1;exact h1.symm
 subst LS;unfold Oper.wp;simp[execOp,hop,hm,hx,NR,Result.andThen];exact hK' _ _ hK
def jJ(w:Wo)(b n:Nat)(l:List ByteArray):Prop:=
 ∃D:DataW Unit,w.ownsMap Tryz.prog 9 (plainElem Tryz.prog 4) b n D/\IsMap D/\∀s:ByteArray,D.atKey (.string s.data.toList) (.lit (.bool false))=.lit (.bool (l.any fun x=>qX s x))
theorem jJ.lt(h:jJ w b n l):b<w.heap.size:=by obtain⟨D,h1,_⟩:=h;exact h1.lt
theorem jJ.kept{row:Option Nat}(h:jJ w b n l)(hg:w.grownBy w' row)(cG:some b≠row):jJ w' b n l:=by
 obtain⟨D,h1,h2⟩:=h;exact⟨D,h1.kept hg cG,h2⟩
theorem jJ.below(h:jJ w b n l)(hb:Below w.heap.size w w'):jJ w' b n l:=h.kept (row:=none) ⟨hb.os,hb.tape,hb.output,hb.size,fun k hk _=>hb.block k hk⟩ (by simp)
theorem jJ.made(w:Wo):jJ (w.alloc (.map #[] 0)) w.heap.size 0 []:=
 ⟨.map [],World.ownsMap_made _ _ _ _,⟨[],rfl⟩,fun s=>rfl⟩
theorem NK:Keyed Tryz.prog 9:=string_keyed Tryz.underlying9
theorem vV(w:Wo):(zeroValue 4).run Tryz.prog w=.ok (.bool false) w:=by kernel_rfl
theorem jJ.put{w:Wo}{b n:Nat}{l:List ByteArray}{D:DataW Unit}(s:ByteArray)(h1:w.ownsMap Tryz.prog 9 (plainElem Tryz.prog 4) b (n+1) (D.put (.string s.data.toList) (.lit (.bool true))))(h2:IsMap D)(h3:∀s:ByteArray,D.atKey (.string s.data.toList) (.lit (.bool false))=.lit (.bool (l.any fun x=>qX s x))):jJ w b (n+1) (s::l):=by
 refine⟨_,h1,?_,fun t=>?_⟩
 ·obtain⟨es,rfl⟩:=h2
  exact⟨_,rfl⟩
 ·by_cases hts:t=s
  ·subst hts
   rw[atKey_put_same h2 (k:=.string t.data.toList) trivial];simp[qX]
  ·rw[atKey_put_other (fun e=>hts (by injection e with e;cases t;cases s;simp at e;rw[e])),h3]
   have:qX t s=false:=GQ.2 hts;simp[this]
theorem Rd.mapped{xs:List Value}(h:Rd w B size A n xs)(hs:0<size)(hS:jJ w b m l)(hg:w.grownBy w' (some b))(hB:B<=w.heap.size)(hB':B<=B'):Rd w' B' size A n xs:=
 ⟨h.1,fun hn=>by
  obtain⟨b',off,e,aR,hc⟩:=h.2 hn;have hx:0<xs.length:=by rw[h.1];exact Nat.mul_pos hn hs
  have cG:b'≠b:=by
   rintro rfl;have h0:=hc 0 _ (gS hx);obtain⟨D,⟨es,clock,hb,_⟩,_⟩:=hS;unfold World.cell? at h0;rw[hb] at h0;cases h0
  exact⟨b',off,e,by omega,fun j u hu=>(World.cell?_of_block (a:=⟨b',off+j,none⟩) (hg.block b' (by omega) (fun e=>by injection e;omega))).trans (hc j u hu)⟩⟩
theorem bD.mapped(h:bD w B A n xs)(hS:jJ w b m l)(hg:w.grownBy w' (some b))(hB:B<=w.heap.size)(hB':B<=B'):bD w' B' A n xs:=⟨h.1,h.2.mapped (by omega) hS hg hB hB'⟩
def m9(nodes seen:List ByteArray)(name:ByteArray)(ends:List ByteArray):Int:=
 if AK name=false then 5 else if seen.any (fun x=>qX name x) then 7
 else if ends.any (fun s=>!(nodes.any fun x=>qX s x)) then 6
 else if ends.length=2/\ends[0]?=ends[1]? then 3 else 0
def aJy(w:Wo)(b n:Nat)(seen:List ByteArray)(name:ByteArray)(r:Int)(e:Ending)(w':Wo):Prop:=
 e=.returned (.int .i64 r)/\w.grownBy w' (some b)/\(r=0->jJ w' b (n+1) (name::seen))
theorem lX{u:Value}(h:aD w p t #[u,v]):w.cell? ⟨p,0,none⟩=some u/\w.cell? ⟨p,1,none⟩=some v/\(∀i,w.frozen? ⟨p,i,none⟩=false)/\p<w.heap.size:=⟨h.cell 0,h.cell 1,h.frozen,h.lt⟩
theorem nK(b n:Nat)(A:OA)(nn nc:Nat)(nodes:List ByteArray)(seen:List ByteArray)(name:ByteArray)(V:OA)(m mc:Nat)(ends:List ByteArray)(w:Wo)(hN:bD w w.heap.size A nn nodes)(LO:nn<=9223372036854775807)(hS:jJ w b n seen)(hn:n<=65536)(aEN:name.size<=maxLen)(hE:bD w w.heap.size V m ends)(hm:m<=2):Calls Tryz.prog 97 #[.agg #[.map (some b),.slice A nn nc],.string name,.slice V m mc] w (aJy w b n seen name (m9 nodes seen name ends)):=by
 have VR:=hS.lt;obtain⟨D,aW,E6,AU⟩:=hS;have K0:=jO w (.cells #[.map (some b),.slice A nn nc] 161);obtain⟨HK0,HN,HE,HO,Z1⟩:=iS K0 (hN.bm K0) (hE.bm K0) (aW.alloc (.cells #[.map (some b),.slice A nn nc] 161)) AU;have HD:Hid (∀(nodes seen ends:List ByteArray),m9 nodes seen name ends=if AK name=false then 5 else if seen.any (fun x=>qX name x) then 7
  else if ends.any (fun s=>!(nodes.any fun x=>qX s x)) then 6 else if ends.length=2/\ends[0]?=ends[1]? then 3 else 0):=lH fun _ _ _=>rfl
 clear hN hE AU aW K0;cases LP:AK name with
 | false=>
  have iR:=lH LP;clear LP;go_enter Tryz.func97,Tryz.ntmps97
  (go_wp2_with fail);refine(QG name _ aEN).mono ?_;rw[iR.o];rintro e w1 ⟨rfl,k1⟩;have OW:=cJ HK0 k1;clear k1;(go_wp2_with fail);go_ret;have hr:m9 nodes seen name ends=5:=by rw[HD.o,if_pos iR.o]
  exact⟨aU hr.symm,gW OW.o _,fun h=>by omega⟩
 | true=>
  have iR:=lH LP;clear LP;go_enter Tryz.func97,Tryz.ntmps97
  (go_wp2_with fail);refine(QG name _ aEN).mono ?_;rw[iR.o];rintro e w1 ⟨rfl,k1⟩;have OW:=cJ HK0 k1;have hQ:aD w1 w.heap.size 161 #[.map (some b),.slice A nn nc]:=(aD.new_ rfl).below k1 (by simp);have rU:=lH (HO.o.kept (row:=none) ⟨k1.os,k1.tape,k1.output,k1.size,fun k hk _=>k1.block k hk⟩ (by simp));have eY:=lH (HN.o.bm k1);have ZY:=lH (HE.o.bm k1);obtain⟨c0,c1,cf,aQw⟩:=lX hQ;have HQ:=lH hQ;clear k1 hQ;have hk:=WideMaps.keyOf_string_mk (P:=Tryz.prog) Tryz.underlying9 aEN;have JF:=lH hk;clear hk;cases hsn:seen.any (fun x=>qX name x) with
  | true=>
   have HSN:=lH hsn;have ER:Hid (D.atKey (.string name.data.toList) (.lit (.bool false))=.lit (.bool true)):=lH (by rw[Z1.o,hsn]);clear hsn
   go_wp2_with (at_lookup;refine fE _ rfl _ _ 159 rfl 9 4 NK Tryz.underlying159 Tryz.underlying4 (vV _) b n D rfl rU.o _ _ rfl JF.o _ ER.o ?_)
   go_ret;have hr:m9 nodes seen name ends=7:=by rw[HD.o,iR.o,HSN.o];rfl
   exact⟨aU hr.symm,gW OW.o _,fun h=>by omega⟩
  | false=>
   have HSN:=lH hsn;have ER:Hid (D.atKey (.string name.data.toList) (.lit (.bool false))=.lit (.bool false)):=lH (by rw[Z1.o,hsn]);clear hsn
   go_wp2_with (first | (at_lookup;refine fE _ rfl _ _ 159 rfl 9 4 NK Tryz.underlying159 Tryz.underlying4 (vV _) b n D rfl rU.o _ _ rfl JF.o _ ER.o ?_) | (at_mapUpdate;refine wpList_mapUpdate_own _ rfl _ _ _ 159 rfl 9 4 NK Tryz.underlying159 _ b n D rfl rU.o (by unfold maxLen;omega) _ _ _ rfl rfl JF.o _ [] (plainElem_bool Tryz.underlying4 true) ?_))
   intro w2 o8 lM;have hS1:jJ w1 b n seen:=⟨D,rU.o,E6,Z1.o⟩;obtain⟨mZ,iD,TI⟩:=dZ (jJ.put name o8 E6 Z1.o) (eY.o.mapped hS1 lM lR lM.size) (ZY.o.mapped hS1 lM lR lM.size);have hQ2:aD w2 w.heap.size 161 #[.map (some b),.slice A nn nc]:=HQ.o.grown lM (fun e=>by injection e;omega);have jA:=lH (fR (gW OW.o (some b)) lM);obtain⟨d0,d1,df,aMo⟩:=lX hQ2;have hEl:=lH TI.o.1;clear o8 lM hS1 hQ2 c0 c1 cf;(go_wp2_with fail)
   go_loop [8,23] (fun _ i=>∃k:Nat,k<=m/\i=.int .i64 k/\ends.any (fun s=>!(nodes.any fun x=>qX s x))=(ends.drop k).any (fun s=>!(nodes.any fun x=>qX s x))) (fun _ i=>m-(intOf i).toNat)
   case atStart=>exact⟨0,by omega,rfl,rfl⟩
   case round=>
    obtain⟨k,hk,rfl,IH⟩:=hrel;have zI:=lH IH;clear IH;by_cases aR:k<m
    ·obtain⟨y,hy⟩:∃y,ends[k]?=some y:=eE (by have:=hEl.out;omega)
     obtain⟨bv,ov,rfl,RG⟩:=TI.o.form (by omega);have jI:=TI.o.at_ hy;have HZ:=lH (bX hy);clear hy;cases hp:nodes.any (fun x=>qX y x) with
     | true=>
      have HP:=lH hp;clear hp;(go_wp2_with fail);refine(tV A nn nc nodes y _ iD.o LO).mono ?_;rw[HP.o];rintro e w3 ⟨rfl,rfl⟩;(go_wp2_with fail)
      go_round
      case rel=>exact⟨k+1,by omega,by go_num,by rw[zI.o,HZ.o];simp[HP.o]⟩
      case measure=>simp[intOf];omega
     | false=>
      have HP:=lH hp;clear hp;(go_wp2_with fail);refine(tV A nn nc nodes y _ iD.o LO).mono ?_;rw[HP.o];rintro e w3 ⟨rfl,rfl⟩;(go_wp2_with fail);go_ret;have hr:m9 nodes seen name ends=6:=by
       rw[HD.o,iR.o,HSN.o,zI.o,HZ.o];simp[HP.o]
      exact⟨aU hr.symm,jA.o,fun h=>by omega⟩
    ·have hd:ends.drop k=[]:=by rw[List.drop_eq_nil_iff];have:=hEl.out;omega
     have hr:m9 nodes seen name ends=if ends.length=2/\ends[0]?=ends[1]? then 3 else 0:=by
      rw[HD.o,iR.o,HSN.o,zI.o,hd];simp
     have HR:=lH hr;clear hd hr;by_cases wM:m=2
     ·subst wM
      obtain⟨y0,wK⟩:∃y,ends[0]?=some y:=eE (by have:=hEl.out;omega);obtain⟨y1,hy1⟩:∃y,ends[1]?=some y:=eE (by have:=hEl.out;omega);obtain⟨bv,ov,rfl,RG⟩:=TI.o.form (by omega);have aMK:=TI.o.at_ wK;have aWa:=TI.o.at_ hy1;rw[Nat.add_zero] at aMK;have hw0:(0:Int)<((2:Nat):Int):=by omega
      cases hq:qX y0 y1 with
      | true=>
       have hr:m9 nodes seen name ends=3:=by rw[HR.o,wK,hy1,if_pos ⟨hEl.out,by rw[zS.1 hq]⟩]
       have BV:=lH hr;clear wK hy1 hr;(go_wp2_with fail)
       go_quiet (fail)
       (go_wp2_with fail);go_ret;exact⟨aU BV.o.symm,tJ jA.o _,fun h=>by rw[BV.o] at h;omega⟩
      | false=>
       have hr:m9 nodes seen name ends=0:=by rw[HR.o,wK,hy1,if_neg (fun h=>GQ.1 hq (by injection h.2))]
       have BV:=lH hr;clear wK hy1 hr;(go_wp2_with fail)
       go_quiet (fail)
       (go_wp2_with fail);go_ret;exact⟨aU BV.o.symm,tJ jA.o _,fun _=>mZ.o.below (bF bR _)⟩
     ·have hr:m9 nodes seen name ends=0:=by rw[HR.o,if_neg (fun h=>wM (by have:=hEl.out;omega))]
      have BV:=lH hr;have hmf:((m:Int) == 2)=false:=by rw[beq_eq_false_iff_ne];omega
      clear hr wM;(go_wp2_with fail)
      go_quiet (fail)
      (go_wp2_with fail);go_ret;exact⟨aU BV.o.symm,tJ jA.o _,fun _=>mZ.o.below (bF bR _)⟩
end
