import Derived.Test.YtonlblmobjhjjaaGreatDoorW00
import Derived.Test.YtonlblmobjhjjaaGreatDoorRows
import Derived.WalkKit
import Derived.ProofKit
import Derived.OpenShut
import Derived.Outline
import Derived.Below
import Derived.Deep.Draws
import Derived.Deep.QuietTactic
import Derived.BigQuiet
import Derived.Laws.OwnMore
import Derived.Laws.Rows
import Derived.Lib.Hide
import Derived.RegionTactic
import Derived.BigRegion
import Derived.Maps.AppendAt
import Derived.Lib.LazyBuf
import Derived.OwnWalk
import Derived.Deep.AppendLies
import Derived.WalkSpells
import Derived.WalkLawsBesides
import Derived.ChangeSame
import Derived.Carry
import Derived.Lib.SmallJoins
import Derived.Deep.Slices
import Derived.Deep.Fields
import Derived.Laws.Strings
import Derived.Laws.IdiomStrings
import Derived.Maps.OwnOps
import Derived.Maps.Views
set_option linter.unusedVariables false
set_option linter.unusedSimpArgs false
namespace Go.Proofs.YtonlblmobjhjjaaGreatDoor
set_option maxHeartbeats 4000000
set_option maxRecDepth 100000
variable {A : OA} {B B' b g i m n off p size : Nat} {a w w' : World} {cs : Array Value} {l xs : List ByteArray} {t : TypeId} {v : Value} {zs : List Int}
section
open Go.ChangeShapes Go.WideShapes Go.ChangeAt Go.RowKit
theorem nM{a b:Bool}(h:a=b):Ending.returned (.bool a)=.returned (.bool b):=by rw[h]
theorem aQ{k:IntKind}{a b:Int}(h:a=b):Ending.returned (.int k a)=.returned (.int k b):=by rw[h]
def PJ(v:Value)(args:Array Value):Sem Next:=do let d <-Deferred.ofValue v args;invoke d.target d.args
theorem aE(a:Act)(dst:Option Tmp)(t:Nat)(xs:Array Operand)(ats:Array TypeId)(ty:TypeId)(pos:String)(after:Array Edge)(guard:Option (Nat×Bool)):execOp a.eval { dst,op:=.call { callee:=.value (.tmp t),args:=xs,argTypes:=ats },type:=ty,pos,after,guard }=PJ (a.eval (.tmp t)) (xs.map a.eval):=rfl
theorem aJ(f:FuncId)(first cap args:Array Value):PJ (.func (.func f) first cap) args=callFunc f (first++args++cap):=by
 rfl
theorem aI(w:Wo)(n:Nat)(a:Addr)(v:Value):(w.drewN n).setCell a v=(w.setCell a v).drewN n:=rfl
theorem aL(w:Wo)(n:Nat)(o:Obj):(w.drewN n).alloc o=(w.alloc o).drewN n:=rfl
def aD(w:Wo)(g:Nat)(t:TypeId)(cs:Array Value):Prop:=w.heap[g]?=some (.cells cs t (0,0))
section
variable {w w':Wo} {g:Nat} {t:TypeId} {cs:Array Value}
theorem aD.lt(h:aD w g t cs):g<w.heap.size:=by
 rcases Nat.lt_or_ge g w.heap.size with aR | LB
 ·exact aR
 ·unfold aD at h;rw[Array.getElem?_eq_none LB] at h;cases h
theorem aD.cell(h:aD w g t cs)(i:Nat):w.cell? ⟨g,i,none⟩=cs[i]?:=cell_of_row w g i cs t (0,0) h
theorem aD.frozen(h:aD w g t cs)(i:Nat):w.frozen? ⟨g,i,none⟩=false:=by
 unfold aD at h;simp[World.frozen?,h]
theorem aD.new(w:Wo)(t:TypeId)(cs:Array Value):aD (w.alloc (.cells cs t)) w.heap.size t cs:=heap_alloc_new w _
theorem aD.drew(h:aD w g t cs):aD w.drew g t cs:=h
theorem aD.drewN(h:aD w g t cs)(n:Nat):aD (w.drewN n) g t cs:=h
theorem aD.alloc(h:aD w g t cs)(o:Obj):aD (w.alloc o) g t cs:=(Below.heap_alloc w o g h.lt).trans h
theorem aD.set_(h:aD w g t cs)(i:Nat)(u:Value):aD (w.setCell ⟨g,i,none⟩ u) g t (cs.setIfInBounds i u):=by
 unfold aD at h ⊢;simp[World.setCell,Array.getElem?_modify,h]
theorem aD.far(h:aD w g t cs){p:Addr}(hp:g≠p.block)(u:Value):aD (w.setCell p u) g t cs:=(Below.heap_setCell w p u g hp).trans h
theorem aD.below(h:aD w g t cs)(hb:Below B w w')(hg:g<B):aD w' g t cs:=(hb.block g hg).trans h
theorem aD.grown{row:Option Nat}(h:aD w g t cs)(hb:w.grownBy w' row)(hg:some g≠row):aD w' g t cs:=(hb.block g h.lt hg).trans h
end
theorem aS(h:Below B a w)(n:Nat):Below B a (w.drewN n):=⟨h.os,h.tape,h.output,h.size,h.block⟩
theorem aD.new_(h:g=w.heap.size):aD (w.alloc (.cells cs t)) g t cs:=by subst h;exact aD.new w t cs
theorem oX{row:Option Nat}(h:a.grownBy w row)(n:Nat):a.grownBy (w.drewN n) row:=⟨h.os,h.tape,h.output,h.size,h.block⟩
theorem oW(h:a.grownBy w (some g)){p:Addr}(hp:p.block=g\/a.heap.size<=p.block)(u:Value):a.grownBy (w.setCell p u) (some g):=
 ⟨h.os,h.tape,h.output,by simpa[World.setCell] using h.size,fun i hi cK=>(Below.heap_setCell w p u i (by
  rintro rfl;rcases hp with hp | hp
  ·exact cK (by rw[hp])
  ·omega)).trans (h.block i hi cK)⟩
theorem aD.set_at{t:Nat}{cs':Array Value}(u:Value)(hc:cs.setIfInBounds i u=cs')(h:aD w p t cs):aD (w.setCell ⟨p,i,none⟩ u) p t cs':=by
 subst hc;exact h.set_ i u
theorem MF{row:Option Nat}(h:a.grownBy w row)(o:Obj):a.grownBy (w.alloc o) row:=
 ⟨h.os,h.tape,h.output,eN h.size (by simp),fun i hi cK=>(Below.heap_alloc w o i (jJ hi h.size)).trans (h.block i hi cK)⟩
theorem fC(h:Below a.heap.size a w)(row:Option Nat):a.grownBy w row:=⟨h.os,h.tape,h.output,h.size,fun i hi _=>h.block i hi⟩
theorem eI{b c:Wo}(h:a.grownBy b (some g))(k:b.grownBy c (some g)):a.grownBy c (some g):=
 ⟨k.os.trans h.os,k.tape.trans h.tape,k.output.trans h.output,eN h.size k.size,fun i hi cK=>(k.block i (jJ hi h.size) cK).trans (h.block i hi cK)⟩
theorem tB{b c:Wo}(h:Below B a b)(k:b.grownBy c (some g))(hg:B<=g)(hB:B<=a.heap.size):Below B a c:=
 ⟨k.os.trans h.os,k.tape.trans h.tape,k.output.trans h.output,eN h.size k.size,fun i hi=>(k.block i (jJ (jJ hi hB) h.size) (fun e=>by injection e;omega)).trans (h.block i hi)⟩
def Rd(w:Wo)(B size:Nat)(A:OA)(n:Nat)(xs:List Value):Prop:=
 xs.length=n*size/\(0<n->∃b off,A=some ⟨b,off,none⟩/\b<B/\∀j u,xs[j]?=some u->w.cell? ⟨b,off+j,none⟩=some u)
theorem Rd.below{xs:List Value}(h:Rd w B size A n xs)(hb:Below B' w w')(hB:B<=B'):Rd w' B size A n xs:=
 ⟨h.1,fun hn=>by
  obtain⟨b,off,e,aR,hc⟩:=h.2 hn;exact⟨b,off,e,aR,fun j u hu=>(hb.cell (p:=⟨b,off+j,none⟩) (jJ aR hB)).trans (hc j u hu)⟩⟩
theorem Rd.more{xs:List Value}(h:Rd w B size A n xs)(hB:B<=B'):Rd w B' size A n xs:=
 ⟨h.1,fun hn=>by
  obtain⟨b,off,e,aR,hc⟩:=h.2 hn;exact⟨b,off,e,jJ aR hB,hc⟩⟩
theorem aH(h:Below B a w):Below B a w.drew:=⟨h.os,h.tape,h.output,h.size,h.block⟩
theorem aBn(w:Wo)(t:TypeId)(size:Nat):(w.alloc (.cells #[] t)).ownsRow w.heap.size t size (.slice (some ⟨w.heap.size,0,none⟩) 0 0) 0 []:=
 ⟨by simp,.inr ⟨w.heap.size,0,#[],rfl,lR,heap_alloc_new w _,lR,by simp[maxLen],by simp,by simp⟩⟩
theorem aD.bl{T:TypeId}{c:Array Value}(h:aD w p T c)(g:Below w.heap.size w w'):aD w' p T c:=aD.below h g (aD.lt h)
theorem Rd.bm{s:Nat}{l:List Value}(h:Rd w w.heap.size s A n l)(g:Below w.heap.size w w'):Rd w' w'.heap.size s A n l:=(h.below g lR).more g.size
theorem aD.a2{t:Nat}(h:aD w g t cs):w.cell? ⟨g,0,none⟩=cs[0]?/\w.cell? ⟨g,1,none⟩=cs[1]?:=⟨h.cell 0,h.cell 1⟩
theorem aD.a4{t:Nat}(h:aD w g t cs):w.cell? ⟨g,0,none⟩=cs[0]?/\w.cell? ⟨g,1,none⟩=cs[1]?/\w.cell? ⟨g,2,none⟩=cs[2]?/\w.cell? ⟨g,3,none⟩=cs[3]?:=⟨h.cell 0,h.cell 1,h.cell 2,h.cell 3⟩
theorem aD.a6{t:Nat}(h:aD w g t cs):w.cell? ⟨g,0,none⟩=cs[0]?/\w.cell? ⟨g,1,none⟩=cs[1]?/\w.cell? ⟨g,2,none⟩=cs[2]?/\w.cell? ⟨g,3,none⟩=cs[3]?/\w.cell? ⟨g,4,none⟩=cs[4]?/\w.cell? ⟨g,5,none⟩=cs[5]?:=⟨h.cell 0,h.cell 1,h.cell 2,h.cell 3,h.cell 4,h.cell 5⟩
theorem aD.b1{t:Nat}(h:aD w g t cs):w.cell? ⟨g,0,none⟩=cs[0]?/\g<w.heap.size:=⟨h.cell 0,h.lt⟩
theorem aD.b2{t:Nat}(h:aD w g t cs):w.cell? ⟨g,0,none⟩=cs[0]?/\w.cell? ⟨g,1,none⟩=cs[1]?/\g<w.heap.size:=⟨h.cell 0,h.cell 1,h.lt⟩
theorem aD.b3{t:Nat}(h:aD w g t cs):w.cell? ⟨g,0,none⟩=cs[0]?/\w.cell? ⟨g,1,none⟩=cs[1]?/\w.cell? ⟨g,2,none⟩=cs[2]?/\g<w.heap.size:=⟨h.cell 0,h.cell 1,h.cell 2,h.lt⟩
theorem aD.b4{t:Nat}(h:aD w g t cs):w.cell? ⟨g,0,none⟩=cs[0]?/\w.cell? ⟨g,1,none⟩=cs[1]?/\w.cell? ⟨g,2,none⟩=cs[2]?/\w.cell? ⟨g,3,none⟩=cs[3]?/\g<w.heap.size:=⟨h.cell 0,h.cell 1,h.cell 2,h.cell 3,h.lt⟩
theorem aD.b6{t:Nat}(h:aD w g t cs):w.cell? ⟨g,0,none⟩=cs[0]?/\w.cell? ⟨g,1,none⟩=cs[1]?/\w.cell? ⟨g,2,none⟩=cs[2]?/\w.cell? ⟨g,3,none⟩=cs[3]?/\w.cell? ⟨g,4,none⟩=cs[4]?/\w.cell? ⟨g,5,none⟩=cs[5]?/\g<w.heap.size:=⟨h.cell 0,h.cell 1,h.cell 2,h.cell 3,h.cell 4,h.cell 5,h.lt⟩
theorem aD.e2{t:Nat}(h:aD w g t cs):w.cell? ⟨g,0,none⟩=cs[0]?/\w.cell? ⟨g,1,none⟩=cs[1]?/\(∀i,w.frozen? ⟨g,i,none⟩=false)/\g<w.heap.size:=⟨h.cell 0,h.cell 1,h.frozen,h.lt⟩
theorem aD.e4{t:Nat}(h:aD w g t cs):w.cell? ⟨g,0,none⟩=cs[0]?/\w.cell? ⟨g,1,none⟩=cs[1]?/\w.cell? ⟨g,2,none⟩=cs[2]?/\w.cell? ⟨g,3,none⟩=cs[3]?/\(∀i,w.frozen? ⟨g,i,none⟩=false)/\g<w.heap.size:=⟨h.cell 0,h.cell 1,h.cell 2,h.cell 3,h.frozen,h.lt⟩
end
section
open Go.ChangeShapes Go.WideShapes Go.ChangeAt Go.RowKit
attribute [local go_sem ↓] aE
attribute [local go_sem] aJ aI aL
def bK(zs:List Int):List Value:=zs.map (Value.int .i64)
def oA(w:Wo)(B:Nat)(A:OA)(n:Nat)(zs:List Int):Prop:=Rd w B 1 A n (bK zs)
theorem oA.len(h:oA w B A n zs):zs.length=n:=by have:=h.1;simp[bK] at this;omega
theorem oA.below(h:oA w B A n zs)(hb:Below B' w w')(hB:B<=B'):oA w' B A n zs:=Rd.below h hb hB
theorem oA.more(h:oA w B A n zs)(hB:B<=B'):oA w B' A n zs:=Rd.more h hB
theorem oA.at_(h:oA w B (some ⟨b,off,none⟩) n zs){z:Int}(hz:zs[i]?=some z):w.cell? ⟨b,off+i,none⟩=some (.int .i64 z):=by
 have hl:i<zs.length:=(c_.1 hz).1;have:=h.len;obtain⟨b',off',e,_,hc⟩:=h.2 (by omega);injection e with e;injection e with e1 e2;subst e1;subst e2;exact hc i _ (by simp[bK,hz])
theorem oA.blk(h:oA w B (some ⟨b,off,none⟩) n zs)(h0:0<n):b<B:=by
 obtain⟨b',off',e,aR,_⟩:=h.2 h0;injection e with e;injection e with e1 e2;omega
theorem aBh(w:Wo)(B:Nat)(A:OA):oA w B A 0 []:=⟨rfl,fun h=>by omega⟩
theorem bW{α:Type}{l:List α}{k:Nat}{x:α}(h:l[k]?=some x):l.drop k=x::l.drop (k+1):=by
 obtain⟨hl,he⟩:=c_.1 h;rw[List.drop_eq_getElem_cons hl,he]
def eP{α:Type}(p:α->Bool):List α->Nat->Int
 | [],_=>-1
 | z::r,k=>if p z then k else eP p r (k+1)
theorem D9{α:Type}(p:α->Bool):∀(l:List α)(k:Nat),decide (0<=eP p l k)=l.any p
 | [],k=>by simp[eP]
 | z::r,k=>by
  unfold eP;cases h:p z with
  | true=>simp[h]
  | false=>simp[h,D9 p r (k+1)]
theorem o3{α:Type}(p:α->Bool):∀(l:List α)(k:Nat),(eP p l k=-1/\∀x∈l,p x=false)\/(∃(i:Nat)(x:α),eP p l k=((k+i:Nat):Int)/\l[i]?=some x/\p x=true/\∀(j:Nat)(y:α),j<i->l[j]?=some y->p y=false)
 | [],k=>.inl ⟨rfl,by simp⟩
 | z::r,k=>by
  unfold eP;cases h:p z with
  | true=>exact .inr ⟨0,z,by simp,by simp,h,fun j y hj=>by omega⟩
  | false=>
   rcases o3 p r (k+1) with⟨h1,h2⟩ | ⟨i,x,h1,h2,h3,h4⟩
   ·left
    simp only[Bool.false_eq_true,if_false];exact⟨h1,fun x hx=>by rcases List.mem_cons.1 hx with rfl | hx;exact h;exact h2 x hx⟩
   ·right
    simp only[Bool.false_eq_true,if_false];refine⟨i+1,x,by rw[h1];congr 1;omega,by simpa using h2,h3,fun j y hj hy=>?_⟩;cases j with
    | zero=>simp at hy;subst hy;exact h
    | succ j=>exact h4 j y (by omega) (by simpa using hy)
theorem oA.bm{l:List Int}(h:oA w w.heap.size A n l)(g:Below w.heap.size w w'):oA w' w'.heap.size A n l:=(h.below g lR).more g.size
end
section
open Go.ChangeShapes Go.WideShapes Go.ChangeAt Go.RowKit Go.Joins
section
variable {H:Type} {enc:TypeId×Value->H} {P:Program}
theorem CV{f:Func}{s:ChangeSpec}{apart fresh handsOn again:Bool}{W W':Wo}{args:Array Value}{v:Value}{ds gs:List (DataW H)}{before pa pv:List MemPlace}(hW:DataW.Whole enc P f.params.toList s.vars apart W args.toList ds gs before)(aHN:∀(b:Nat)(sp:Nat->Bool)(hd:Bool),DataW.TrodAll enc P W' b sp hd f.resultTypes.toList (v.resultList f.resultTypes.size) (s.fn H (ds++gs)).results [])(aDt:∀sp:Nat->Bool,(∀p∈before,sp p.block=true)->DataW.TrodAll enc P W' 0 sp true f.params.toList args.toList (s.fn H (ds++gs)).args pa)(JB:∀sp:Nat->Bool,(∀p∈before,sp p.block=true)->DataW.TrodVars enc P W' sp s.vars (s.fn H (ds++gs)).vars pv)(vL:before=pa++pv)(hb:Below W.heap.size W W')(kU:∀(j:Nat)(t:TypeId)(r:Value),f.resultTypes[j]?=some t->(v.resultList f.resultTypes.size)[j]?=some r->Value.okWide P W' .any 0 t r):s.post enc P f apart fresh handsOn again W args v W':=by
 have aR:∀p∈before,p.block<W.heap.size:=fun p hp=>hW.lt p hp;have hold:∀p∈before,(fun b=>decide (b<W.heap.size)) p.block=true:=fun p hp=>by simpa using aR p hp
 refine⟨ds,gs,before,[],pa,pv,hW,aHN _ _ _,aDt _ hold,JB _ hold,World.keptBut_mono (fun p hp=>⟨hp,?_⟩) (hb.frame (·∈before)),fun _=>?_⟩
 ·rw[vL,List.mem_append] at hp
  exact Or.inr hp
 ·obtain⟨_,_,_,_,_,hz,hn⟩:=hW
  refine⟨kU,_,_,([]++pa)++pv,⟨[]++pa,pv,trodAll_append (aDt _ (fun _ _=>rfl)) (aHN _ _ _),JB _ (fun _ _=>rfl),rfl,?_,?_⟩,?_⟩
  ·intro b off hp
   have rH:MemPlace.cell b off∈before:=by rw[vL];simpa using hp
   rw[hb.frozen (aR _ rH)];exact hz b off rH
  ·intro ha
   have:=hn ha;rw[vL] at this;simpa using this
  ·intro p hp _
   rw[vL];simpa using hp
theorem sB(hl:laidOutB P=true){W W':Wo}(hb:Below W.heap.size W W')(sp:Nat->Bool):∀{ts:List TypeId}{vs:List Value} {ds:List (DataW H)} {p:List MemPlace},(∀t∈ts,P.readableRec t=true/\t<P.types.size)->DataW.TrodAll enc P W 0 (fun _=>true) true ts vs ds p->
     (∀x∈p,x.block<W.heap.size)->(∀x∈p,sp x.block=true)->DataW.TrodAll enc P W' 0 sp true ts vs ds p
 | [],[],[],_,_,h,_,_=>h
 | [],[],_::_,_,_,h,_,_=>h.elim
 | [],_::_,_,_,_,h,_,_=>h.elim
 | _::_,[],_,_,_,h,_,_=>h.elim
 | _::_,_::_,[],_,_,h,_,_=>h.elim
 | t::ts,v::vs,d::ds,ps,hr,h,aR,hsp=>by
  obtain⟨p,q,h1,h2,rfl⟩:=h;refine⟨p,q,?_,sB hl hb sp (fun t ht=>hr t (List.mem_cons_of_mem _ ht)) h2 (fun x hx=>aR x (List.mem_append_right _ hx)) (fun x hx=>hsp x (List.mem_append_right _ hx)),rfl⟩;exact WideElems.Trod_stays hl (hr t (List.mem_cons_self ..)).1 (hr t (List.mem_cons_self ..)).2 h1 (fun x hx=>hb.same (aR x (List.mem_append_left _ hx))) (fun x hx=>hsp x (List.mem_append_left _ hx))
theorem aHn(hl:laidOutB P=true){f:Func}{s:ChangeSpec}{apart fresh handsOn again:Bool}{W W':Wo}{args:Array Value}{ds:List (DataW H)}{before:List MemPlace}{tb:TypeId}(JB:s.vars=[])(XX:s.fn H ds={ results:=[.lit (.bool true)],args:=ds })(aHO:∀t∈f.params.toList,P.readableRec t=true/\t<P.types.size)(K9:f.resultTypes=#[tb])(htb:P.underlying tb=some .bool)(hW:DataW.Whole enc P f.params.toList s.vars apart W args.toList ds [] before)(hb:Below W.heap.size W W'):s.post enc P f apart fresh handsOn again W args (.bool true) W':=by
 have hW0:=hW;obtain⟨p,q,hA,hV,hpq,_,_⟩:=hW;rw[JB] at hV;have hq:q=[]:=hV;subst hq;refine CV (pa:=p) (pv:=[]) hW0 ?_ ?_ ?_ hpq hb ?_
 ·intro b sp hd
  rw[List.append_nil,XX,K9];exact⟨[],[],shut_bool htb true,rfl,rfl⟩
 ·intro sp hsp
  rw[List.append_nil,XX];exact sB hl hb sp aHO hA (fun x hx=>hW0.lt x (by rw[hpq];simpa using hx)) (fun x hx=>hsp x (by rw[hpq];simpa using hx))
 ·intro sp hsp
  rw[List.append_nil,XX,JB];rfl
 ·intro j t r h1 h2
  rw[K9] at h1 h2
  match j with
  | 0=>
   simp[Value.resultList] at h1 h2;subst h1;subst h2;exact okWide_bool_mk htb true
  | j+1=>simp at h1
end
end
section
open Go.ChangeShapes Go.WideShapes Go.ChangeAt Go.RowKit Go.Joins Go.Deep
theorem nU{α β:Type}{el:α->List β}{sz:Nat}(d5:∀a,(el a).length=sz)(xs:List α):(xs.flatMap el).length=xs.length*sz:=by
 induction xs with
 | nil=>simp
 | cons x r ih=>simp[ih,d5,Nat.succ_mul,Nat.add_comm]
theorem iN{α β:Type}{el:α->List β}{sz:Nat}(d5:∀a,(el a).length=sz):∀(xs:List α)(i:Nat)(x:α),xs[i]?=some x->∀k,k<sz->(xs.flatMap el)[i*sz+k]?=(el x)[k]?
 | [],i,x,h,k,hk=>by simp at h
 | y::r,0,x,h,k,hk=>by
  simp at h;subst h;rw[List.flatMap_cons,yV (by rw[d5];omega)];simp
 | y::r,i+1,x,h,k,hk=>by
  rw[List.flatMap_cons,DK (by rw[d5,Nat.succ_mul];omega),d5];rw[show(i+1)*sz+k-sz=i*sz+k from by rw[Nat.succ_mul];omega];exact iN d5 r i x (by simpa using h) k hk
theorem aCg{a:Addr}(h:w.cell? a=some v):a.block<w.heap.size/\a.spot=none:=by
 unfold World.cell? at h;cases hb:w.heap[a.block]? with
 | none=>rw[hb] at h;cases h
 | some o=>
  rw[hb] at h;refine⟨(Array.getElem?_eq_some_iff.1 hb).1,?_⟩;cases o with
  | cells c t f=>
   simp only at h;split at h
   ·cases h
   ·rename_i hs;simpa using hs
  | _=>cases h
theorem KD{α:Type}(n:Nat){Q:Nat->α->Prop}(h:∀i,i<n->∃a,Q i a):∃xs:List α,xs.length=n/\∀(i:Nat)(a:α),xs[i]?=some a->Q i a:=by
 induction n with
 | zero=>exact⟨[],rfl,by simp⟩
 | succ n ih=>
  obtain⟨xs,hl,hx⟩:=ih fun i hi=>h i (by omega);obtain⟨a,ha⟩:=h n (by omega);refine⟨xs++[a],by simp[hl],fun i b hb=>?_⟩
  by_cases hi:i<n
  ·rw[yV (by omega)] at hb;exact hx i b hb
  ·rw[DK (by omega)] at hb
   have rH:i=n:=by
    have:=(c_.1 hb).1;simp at this;omega
   subst rH;simp[hl] at hb;subst hb;exact ha
section
variable {H:Type} {enc:TypeId×Value->H} {P:Program} {w:Wo} {spare:Nat->Bool} {JH:Bool}
theorem jX{α:Type}(el:α->List Value)(sz:Nat)(Q:α->Prop){t e:TypeId}{fuel:Nat}{cs:List Value}{x:DataW H×List MemPlace}(ht:P.underlying t=some (.slice e))(hC:P.cellsOf e=sz)(MX:0<sz)(d5:∀a,(el a).length=sz)(hel:∀(fu:Nat)(cs':List Value)(y:DataW H×List MemPlace),DataW.trod enc P w 0 spare JH fu e cs'=some y->∃a,cs'=el a/\Q a)(h:DataW.trod enc P w 0 spare JH fuel t cs=some x):∃(A:OA)(n c:Nat)(xs:List α),cs=[.slice A n c]/\n<=c/\c<=maxLen/\xs.length=n/\(∀a∈xs,Q a)/\Rd w w.heap.size sz A n (xs.flatMap el):=by
 rcases open_slice ht h with⟨rfl,_⟩ | ⟨a,len,cap,m,fu,D,Pl,rfl,hb,hl,hm,hmm,_,hi⟩
 ·exact⟨none,0,0,[],rfl,lR,by simp[maxLen],rfl,by simp,by simp,fun h=>by omega⟩
 ·have hlm:len<=m:=by rw[hmm];split<;>omega
  have key:∀i,i<len->∃y:α,w.cells? 0 (a.add (i*sz)) sz=some (el y)/\Q y:=by
   intro i rH;obtain⟨cs',hc,ht'⟩:=hi i (by omega);obtain⟨y,rfl,hq⟩:=hel _ _ _ ht';exact⟨y,by rw[hC] at hc;exact hc,hq⟩
  obtain⟨xs,hxl,hx⟩:=KD len key;refine⟨some a,len,cap,xs,rfl,hl,hm,hxl,fun y hy=>?_,by rw[nU d5,hxl],fun h0=>?_⟩
  ·obtain⟨i,hi⟩:=List.getElem?_of_mem hy
   exact(hx i y hi).2
  ·obtain⟨y0,uP⟩:∃y,xs[0]?=some y:=eG (by omega)
   obtain⟨_,_,aNb⟩:=World.cells?_some (hx 0 y0 uP).1;have EH:=aNb 0 MX;have uQ:(el y0)[0]?=some ((el y0)[0]'(by rw[d5];omega)):=jP (by rw[d5];omega);rw[uQ] at EH;obtain⟨aR,hsp⟩:=aCg EH;have hs:a.spot=none:=by simpa[Addr.add] using hsp
   have aB1:∀j,(a.add j)=⟨a.block,a.off+j,none⟩:=by
    intro j;unfold Addr.add;split
    ·rename_i hj;subst hj;cases a;simp at hs;subst hs;rfl
    ·rfl
   refine⟨a.block,a.off,by cases a;simp at hs;subst hs;rfl,by simpa[Addr.add] using aR,fun j u hu=>?_⟩;have pQ:j<len*sz:=by have:=(c_.1 hu).1;rw[nU d5,hxl] at this;exact this
   have hq:j / sz<len:=Nat.div_lt_of_lt_mul (by rw[Nat.mul_comm];exact pQ);obtain⟨y,hy⟩:∃y,xs[j / sz]?=some y:=eG (by omega);have hm':j % sz<sz:=Nat.mod_lt _ MX;have hdm:j / sz*sz+j % sz=j:=by have:=Nat.div_add_mod j sz;rw[Nat.mul_comm] at this;exact this
   have h1:=iN d5 xs _ y hy _ hm';rw[hdm,hu] at h1;obtain⟨_,_,qN⟩:=World.cells?_some (hx _ y hy).1;have h2:=qN _ hm';rw[Go.Deep.add_add,hdm] at h2;rw[<-aB1,h2,<-h1]
theorem lP{t:TypeId}{fs:Array Field}{fuel:Nat}{cs:List Value}{x:DataW H×List MemPlace}(ht:P.underlying t=some (.struct fs))(CY:oneCellFields P fs=true)(hC:P.cellsOf t=fs.size)(h:DataW.trod enc P w 0 spare JH fuel t cs=some x):cs.length=fs.size/\∀(j:Nat)(f:Field),fs[j]?=some f->∃(v:Value)(n:Nat)(y:DataW H×List MemPlace),cs[j]?=some v/\DataW.trod enc P w 0 spare JH n f.type [v]=some y:=by
 obtain⟨ys,n',hn',hy,d5,hyl,hf⟩:=DataW.trod_struct ht h;rw[hC] at d5;refine⟨d5,fun j f hj=>?_⟩;obtain⟨ho,hk⟩:=hone_of CY j f hj;have pQ:j<fs.size:=(Array.getElem?_eq_some_iff.1 hj).1;have h1:=hf j f hj;rw[ho,hk] at h1;have aH2:(cs.drop j).take 1=[cs[j]'(by omega)]:=by
  rw[List.drop_eq_getElem_cons (by omega)];rfl
 rw[aH2] at h1;exact⟨_,n',_,jP (by omega),h1.trans (jP (by omega))⟩
theorem dV{k:IntKind}{fuel:Nat}{cs:List Value}{x:DataW H×List MemPlace}(ht:P.underlying t=some (.int k))(h:DataW.trod enc P w 0 spare JH fuel t cs=some x):∃n:Int,cs=[.int k n]/\(Lit.int k n).wf=true:=by
 obtain⟨n,h1,_,h2⟩:=DataW.trod_int ht h;exact⟨n,h1,h2⟩
theorem eD{fuel:Nat}{cs:List Value}{x:DataW H×List MemPlace}(ht:P.underlying t=some .string)(h:DataW.trod enc P w 0 spare JH fuel t cs=some x):∃s:ByteArray,cs=[.string s]/\s.size<=maxLen:=by
 obtain⟨n,h1,_,h2⟩:=DataW.trod_string ht h;exact⟨n,h1,h2⟩
end
end
section
open Go.ChangeShapes Go.WideShapes Go.ChangeAt Go.RowKit Go.Joins Go.Deep
attribute [local go_sem ↓] aE
attribute [local go_sem] aJ aI aL
def k_(z y:ByteArray):Bool:=decide (z=y)
theorem aX(z y:ByteArray):(z.toList == y.toList)=k_ z y:=by
 unfold k_;rw[ByteArray.toList_eq,ByteArray.toList_eq,Bool.eq_iff_iff,beq_iff_eq,decide_eq_true_eq]
 constructor
 ·intro h
  cases z;cases y
  simp at h;rw[h]
 ·rintro rfl;rfl
theorem iY{z y:ByteArray}:k_ z y=true<->z=y:=by unfold k_;exact decide_eq_true_iff
theorem wD{z y:ByteArray}:k_ z y=false<->z≠y:=by unfold k_;exact decide_eq_false_iff_not
def gT(ss:List ByteArray):List Value:=ss.map Value.string
def aW(w:Wo)(B:Nat)(A:OA)(n:Nat)(ss:List ByteArray):Prop:=ss.length=n/\Rd w B 1 A n (gT ss)
theorem aW.below(h:aW w B A n xs)(hb:Below B' w w')(hB:B<=B'):aW w' B A n xs:=⟨h.1,h.2.below hb hB⟩
theorem aW.more(h:aW w B A n xs)(hB:B<=B'):aW w B' A n xs:=⟨h.1,h.2.more hB⟩
theorem aW.form(h:aW w B A n xs)(h0:0<n):∃b off,A=some ⟨b,off,none⟩/\b<B:=by
 obtain⟨b,off,e,aR,_⟩:=h.2.2 h0;exact⟨b,off,e,aR⟩
theorem aW.at_(h:aW w B (some ⟨b,off,none⟩) n xs){x:ByteArray}(hx:xs[i]?=some x):w.cell? ⟨b,off+i,none⟩=some (.string x):=by
 have hl:i<xs.length:=(c_.1 hx).1;have h1:=h.1;obtain⟨b',off',e,_,hc⟩:=h.2.2 (by omega);injection e with e;injection e with e1 e2;subst e1;subst e2;exact hc i _ (by simp[gT,hx])
theorem QX(w:Wo)(B:Nat)(A:OA):aW w B A 0 []:=⟨rfl,rfl,fun h=>by omega⟩
theorem dS{T:TypeId}{zs:List ByteArray}(h:aD w g T (gT zs).toArray)(hg:g<B):aW w B (some ⟨g,0,none⟩) zs.length zs:=
 ⟨rfl,by simp[gT],fun _=>⟨g,0,rfl,hg,fun j u hu=>by
  rw[show(⟨g,0+j,none⟩:Addr)=⟨g,j,none⟩ from by simp];rw[h.cell j];simpa using hu⟩⟩
theorem aW.take{zs:List ByteArray}(h:aW w B A n zs)(hm:m<=n):aW w B A m (zs.take m):=by
 have hl:=h.1;refine⟨by simp;omega,by simp[gT];omega,fun h0=>?_⟩;obtain⟨b,off,e,aR,hc⟩:=h.2.2 (by omega);refine⟨b,off,e,aR,fun j u hu=>hc j u ?_⟩;simp only[gT,List.map_take] at hu ⊢;rw[List.getElem?_take] at hu;split at hu
 ·exact hu
 ·cases hu
structure Sw where
 name:ByteArray
 a:ByteArray
 b:ByteArray
 breaker:Bool
 opn:Bool
def Sw.cells(x:Sw):List Value:=[.string x.name,.string x.a,.string x.b,.bool x.breaker,.bool x.opn]
def Sw.val(x:Sw):Value:=.agg #[.string x.name,.string x.a,.string x.b,.bool x.breaker,.bool x.opn]
theorem Sw.len(x:Sw):x.cells.length=5:=rfl
def tE(w:Wo)(B:Nat)(A:OA)(n:Nat)(xs:List Sw):Prop:=xs.length=n/\Rd w B 5 A n (xs.flatMap Sw.cells)
theorem tE.below{xs:List Sw}(h:tE w B A n xs)(hb:Below B' w w')(hB:B<=B'):tE w' B A n xs:=⟨h.1,h.2.below hb hB⟩
theorem tE.more{xs:List Sw}(h:tE w B A n xs)(hB:B<=B'):tE w B' A n xs:=⟨h.1,h.2.more hB⟩
theorem tE.at_{xs:List Sw}(h:tE w B (some ⟨b,off,none⟩) n xs){x:Sw}(hx:xs[i]?=some x):w.cell? ⟨b,off+i*5,none⟩=some (.string x.name)/\w.cell? ⟨b,off+i*5+1,none⟩=some (.string x.a)/\w.cell? ⟨b,off+i*5+2,none⟩=some (.string x.b)/\w.cell? ⟨b,off+i*5+3,none⟩=some (.bool x.breaker)/\w.cell? ⟨b,off+i*5+4,none⟩=some (.bool x.opn):=by
 have hl:i<xs.length:=(c_.1 hx).1;have h1:=h.1;obtain⟨b',off',e,_,hc⟩:=h.2.2 (by omega);injection e with e;injection e with e1 e2;subst e1;subst e2;have key:∀k,k<5->∀u,x.cells[k]?=some u->w.cell? ⟨b,off+i*5+k,none⟩=some u:=fun k hk u hu=>by
  have:=hc (i*5+k) u (by rw[iN Sw.len xs i x hx k hk];exact hu);rwa[<-Nat.add_assoc] at this
 exact⟨key 0 (by omega) _ rfl,key 1 (by omega) _ rfl,key 2 (by omega) _ rfl,key 3 (by omega) _ rfl,key 4 (by omega) _ rfl⟩
theorem tE.form{xs:List Sw}(h:tE w B A n xs)(h0:0<n):∃b off,A=some ⟨b,off,none⟩/\b<B:=by
 obtain⟨b,off,e,aR,_⟩:=h.2.2 h0;exact⟨b,off,e,aR⟩
theorem Sw.box{x:Sw}(h:aD w p t #[.string x.name,.string x.a,.string x.b,.bool x.breaker,.bool x.opn]):w.cell? ⟨p,0,none⟩=some (.string x.name)/\w.cell? ⟨p,1,none⟩=some (.string x.a)/\w.cell? ⟨p,2,none⟩=some (.string x.b)/\w.cell? ⟨p,3,none⟩=some (.bool x.breaker)/\w.cell? ⟨p,4,none⟩=some (.bool x.opn)/\(∀i,w.frozen? ⟨p,i,none⟩=false)/\p<w.heap.size:=
 ⟨h.cell 0,h.cell 1,h.cell 2,h.cell 3,h.cell 4,h.frozen,h.lt⟩
structure Br where
 name:ByteArray
 fr:ByteArray
 to:ByteArray
 x:Int
 tap:Int
 shift:Int
 limit:Int
 short:Int
 hold:Int
def Br.cells(x:Br):List Value:=[.string x.name,.string x.fr,.string x.to,.int .i64 x.x,.int .i64 x.tap,.int .i64 x.shift,.int .i64 x.limit,.int .i64 x.short,.int .i64 x.hold]
def Br.val(x:Br):Value:=.agg #[.string x.name,.string x.fr,.string x.to,.int .i64 x.x,.int .i64 x.tap,.int .i64 x.shift,.int .i64 x.limit,.int .i64 x.short,.int .i64 x.hold]
theorem Br.len(x:Br):x.cells.length=9:=rfl
def tG(w:Wo)(B:Nat)(A:OA)(n:Nat)(xs:List Br):Prop:=xs.length=n/\Rd w B 9 A n (xs.flatMap Br.cells)
theorem tG.below{xs:List Br}(h:tG w B A n xs)(hb:Below B' w w')(hB:B<=B'):tG w' B A n xs:=⟨h.1,h.2.below hb hB⟩
theorem tG.more{xs:List Br}(h:tG w B A n xs)(hB:B<=B'):tG w B' A n xs:=⟨h.1,h.2.more hB⟩
theorem tG.at_{xs:List Br}(h:tG w B (some ⟨b,off,none⟩) n xs){x:Br}(hx:xs[i]?=some x):w.cell? ⟨b,off+i*9,none⟩=some (.string x.name)/\w.cell? ⟨b,off+i*9+1,none⟩=some (.string x.fr)/\w.cell? ⟨b,off+i*9+2,none⟩=some (.string x.to)/\w.cell? ⟨b,off+i*9+3,none⟩=some (.int .i64 x.x)/\w.cell? ⟨b,off+i*9+4,none⟩=some (.int .i64 x.tap)/\w.cell? ⟨b,off+i*9+5,none⟩=some (.int .i64 x.shift)/\w.cell? ⟨b,off+i*9+6,none⟩=some (.int .i64 x.limit)/\w.cell? ⟨b,off+i*9+7,none⟩=some (.int .i64 x.short)/\w.cell? ⟨b,off+i*9+8,none⟩=some (.int .i64 x.hold):=by
 have hl:i<xs.length:=(c_.1 hx).1;have h1:=h.1;obtain⟨b',off',e,_,hc⟩:=h.2.2 (by omega);injection e with e;injection e with e1 e2;subst e1;subst e2;have key:∀k,k<9->∀u,x.cells[k]?=some u->w.cell? ⟨b,off+i*9+k,none⟩=some u:=fun k hk u hu=>by
  have:=hc (i*9+k) u (by rw[iN Br.len xs i x hx k hk];exact hu);rwa[<-Nat.add_assoc] at this
 exact⟨key 0 (by omega) _ rfl,key 1 (by omega) _ rfl,key 2 (by omega) _ rfl,key 3 (by omega) _ rfl,key 4 (by omega) _ rfl,key 5 (by omega) _ rfl,key 6 (by omega) _ rfl,key 7 (by omega) _ rfl,key 8 (by omega) _ rfl⟩
theorem tG.form{xs:List Br}(h:tG w B A n xs)(h0:0<n):∃b off,A=some ⟨b,off,none⟩/\b<B:=by
 obtain⟨b,off,e,aR,_⟩:=h.2.2 h0;exact⟨b,off,e,aR⟩
theorem Br.box{x:Br}(h:aD w p t #[.string x.name,.string x.fr,.string x.to,.int .i64 x.x,.int .i64 x.tap,.int .i64 x.shift,.int .i64 x.limit,.int .i64 x.short,.int .i64 x.hold]):w.cell? ⟨p,0,none⟩=some (.string x.name)/\w.cell? ⟨p,1,none⟩=some (.string x.fr)/\w.cell? ⟨p,2,none⟩=some (.string x.to)/\w.cell? ⟨p,3,none⟩=some (.int .i64 x.x)/\w.cell? ⟨p,4,none⟩=some (.int .i64 x.tap)/\w.cell? ⟨p,5,none⟩=some (.int .i64 x.shift)/\w.cell? ⟨p,6,none⟩=some (.int .i64 x.limit)/\w.cell? ⟨p,7,none⟩=some (.int .i64 x.short)/\w.cell? ⟨p,8,none⟩=some (.int .i64 x.hold)/\(∀i,w.frozen? ⟨p,i,none⟩=false)/\p<w.heap.size:=
 ⟨h.cell 0,h.cell 1,h.cell 2,h.cell 3,h.cell 4,h.cell 5,h.cell 6,h.cell 7,h.cell 8,h.frozen,h.lt⟩
structure Gn where
 name:ByteArray
 node:ByteArray
 least:Int
 most:Int
 ramp:Int
def Gn.cells(x:Gn):List Value:=[.string x.name,.string x.node,.int .i64 x.least,.int .i64 x.most,.int .i64 x.ramp]
def Gn.val(x:Gn):Value:=.agg #[.string x.name,.string x.node,.int .i64 x.least,.int .i64 x.most,.int .i64 x.ramp]
theorem Gn.len(x:Gn):x.cells.length=5:=rfl
def tF(w:Wo)(B:Nat)(A:OA)(n:Nat)(xs:List Gn):Prop:=xs.length=n/\Rd w B 5 A n (xs.flatMap Gn.cells)
theorem tF.below{xs:List Gn}(h:tF w B A n xs)(hb:Below B' w w')(hB:B<=B'):tF w' B A n xs:=⟨h.1,h.2.below hb hB⟩
theorem tF.more{xs:List Gn}(h:tF w B A n xs)(hB:B<=B'):tF w B' A n xs:=⟨h.1,h.2.more hB⟩
theorem tF.at_{xs:List Gn}(h:tF w B (some ⟨b,off,none⟩) n xs){x:Gn}(hx:xs[i]?=some x):w.cell? ⟨b,off+i*5,none⟩=some (.string x.name)/\w.cell? ⟨b,off+i*5+1,none⟩=some (.string x.node)/\w.cell? ⟨b,off+i*5+2,none⟩=some (.int .i64 x.least)/\w.cell? ⟨b,off+i*5+3,none⟩=some (.int .i64 x.most)/\w.cell? ⟨b,off+i*5+4,none⟩=some (.int .i64 x.ramp):=by
 have hl:i<xs.length:=(c_.1 hx).1;have h1:=h.1;obtain⟨b',off',e,_,hc⟩:=h.2.2 (by omega);injection e with e;injection e with e1 e2;subst e1;subst e2;have key:∀k,k<5->∀u,x.cells[k]?=some u->w.cell? ⟨b,off+i*5+k,none⟩=some u:=fun k hk u hu=>by
  have:=hc (i*5+k) u (by rw[iN Gn.len xs i x hx k hk];exact hu);rwa[<-Nat.add_assoc] at this
 exact⟨key 0 (by omega) _ rfl,key 1 (by omega) _ rfl,key 2 (by omega) _ rfl,key 3 (by omega) _ rfl,key 4 (by omega) _ rfl⟩
theorem tF.form{xs:List Gn}(h:tF w B A n xs)(h0:0<n):∃b off,A=some ⟨b,off,none⟩/\b<B:=by
 obtain⟨b,off,e,aR,_⟩:=h.2.2 h0;exact⟨b,off,e,aR⟩
theorem Gn.box{x:Gn}(h:aD w p t #[.string x.name,.string x.node,.int .i64 x.least,.int .i64 x.most,.int .i64 x.ramp]):w.cell? ⟨p,0,none⟩=some (.string x.name)/\w.cell? ⟨p,1,none⟩=some (.string x.node)/\w.cell? ⟨p,2,none⟩=some (.int .i64 x.least)/\w.cell? ⟨p,3,none⟩=some (.int .i64 x.most)/\w.cell? ⟨p,4,none⟩=some (.int .i64 x.ramp)/\(∀i,w.frozen? ⟨p,i,none⟩=false)/\p<w.heap.size:=
 ⟨h.cell 0,h.cell 1,h.cell 2,h.cell 3,h.cell 4,h.frozen,h.lt⟩
structure Ld where
 name:ByteArray
 node:ByteArray
 demand:Int
def Ld.cells(x:Ld):List Value:=[.string x.name,.string x.node,.int .i64 x.demand]
def Ld.val(x:Ld):Value:=.agg #[.string x.name,.string x.node,.int .i64 x.demand]
theorem Ld.len(x:Ld):x.cells.length=3:=rfl
def r8(w:Wo)(B:Nat)(A:OA)(n:Nat)(xs:List Ld):Prop:=xs.length=n/\Rd w B 3 A n (xs.flatMap Ld.cells)
theorem r8.below{xs:List Ld}(h:r8 w B A n xs)(hb:Below B' w w')(hB:B<=B'):r8 w' B A n xs:=⟨h.1,h.2.below hb hB⟩
theorem r8.more{xs:List Ld}(h:r8 w B A n xs)(hB:B<=B'):r8 w B' A n xs:=⟨h.1,h.2.more hB⟩
theorem r8.at_{xs:List Ld}(h:r8 w B (some ⟨b,off,none⟩) n xs){x:Ld}(hx:xs[i]?=some x):w.cell? ⟨b,off+i*3,none⟩=some (.string x.name)/\w.cell? ⟨b,off+i*3+1,none⟩=some (.string x.node)/\w.cell? ⟨b,off+i*3+2,none⟩=some (.int .i64 x.demand):=by
 have hl:i<xs.length:=(c_.1 hx).1;have h1:=h.1;obtain⟨b',off',e,_,hc⟩:=h.2.2 (by omega);injection e with e;injection e with e1 e2;subst e1;subst e2;have key:∀k,k<3->∀u,x.cells[k]?=some u->w.cell? ⟨b,off+i*3+k,none⟩=some u:=fun k hk u hu=>by
  have:=hc (i*3+k) u (by rw[iN Ld.len xs i x hx k hk];exact hu);rwa[<-Nat.add_assoc] at this
 exact⟨key 0 (by omega) _ rfl,key 1 (by omega) _ rfl,key 2 (by omega) _ rfl⟩
theorem r8.form{xs:List Ld}(h:r8 w B A n xs)(h0:0<n):∃b off,A=some ⟨b,off,none⟩/\b<B:=by
 obtain⟨b,off,e,aR,_⟩:=h.2.2 h0;exact⟨b,off,e,aR⟩
theorem Ld.box{x:Ld}(h:aD w p t #[.string x.name,.string x.node,.int .i64 x.demand]):w.cell? ⟨p,0,none⟩=some (.string x.name)/\w.cell? ⟨p,1,none⟩=some (.string x.node)/\w.cell? ⟨p,2,none⟩=some (.int .i64 x.demand)/\(∀i,w.frozen? ⟨p,i,none⟩=false)/\p<w.heap.size:=
 ⟨h.cell 0,h.cell 1,h.cell 2,h.frozen,h.lt⟩
structure St where
 name:ByteArray
 node:ByteArray
 charge:Int
 discharge:Int
 capacity:Int
def St.cells(x:St):List Value:=[.string x.name,.string x.node,.int .i64 x.charge,.int .i64 x.discharge,.int .i64 x.capacity]
def St.val(x:St):Value:=.agg #[.string x.name,.string x.node,.int .i64 x.charge,.int .i64 x.discharge,.int .i64 x.capacity]
theorem St.len(x:St):x.cells.length=5:=rfl
def rZ(w:Wo)(B:Nat)(A:OA)(n:Nat)(xs:List St):Prop:=xs.length=n/\Rd w B 5 A n (xs.flatMap St.cells)
theorem rZ.below{xs:List St}(h:rZ w B A n xs)(hb:Below B' w w')(hB:B<=B'):rZ w' B A n xs:=⟨h.1,h.2.below hb hB⟩
theorem rZ.more{xs:List St}(h:rZ w B A n xs)(hB:B<=B'):rZ w B' A n xs:=⟨h.1,h.2.more hB⟩
theorem rZ.at_{xs:List St}(h:rZ w B (some ⟨b,off,none⟩) n xs){x:St}(hx:xs[i]?=some x):w.cell? ⟨b,off+i*5,none⟩=some (.string x.name)/\w.cell? ⟨b,off+i*5+1,none⟩=some (.string x.node)/\w.cell? ⟨b,off+i*5+2,none⟩=some (.int .i64 x.charge)/\w.cell? ⟨b,off+i*5+3,none⟩=some (.int .i64 x.discharge)/\w.cell? ⟨b,off+i*5+4,none⟩=some (.int .i64 x.capacity):=by
 have hl:i<xs.length:=(c_.1 hx).1;have h1:=h.1;obtain⟨b',off',e,_,hc⟩:=h.2.2 (by omega);injection e with e;injection e with e1 e2;subst e1;subst e2;have key:∀k,k<5->∀u,x.cells[k]?=some u->w.cell? ⟨b,off+i*5+k,none⟩=some u:=fun k hk u hu=>by
  have:=hc (i*5+k) u (by rw[iN St.len xs i x hx k hk];exact hu);rwa[<-Nat.add_assoc] at this
 exact⟨key 0 (by omega) _ rfl,key 1 (by omega) _ rfl,key 2 (by omega) _ rfl,key 3 (by omega) _ rfl,key 4 (by omega) _ rfl⟩
theorem rZ.form{xs:List St}(h:rZ w B A n xs)(h0:0<n):∃b off,A=some ⟨b,off,none⟩/\b<B:=by
 obtain⟨b,off,e,aR,_⟩:=h.2.2 h0;exact⟨b,off,e,aR⟩
theorem St.box{x:St}(h:aD w p t #[.string x.name,.string x.node,.int .i64 x.charge,.int .i64 x.discharge,.int .i64 x.capacity]):w.cell? ⟨p,0,none⟩=some (.string x.name)/\w.cell? ⟨p,1,none⟩=some (.string x.node)/\w.cell? ⟨p,2,none⟩=some (.int .i64 x.charge)/\w.cell? ⟨p,3,none⟩=some (.int .i64 x.discharge)/\w.cell? ⟨p,4,none⟩=some (.int .i64 x.capacity)/\(∀i,w.frozen? ⟨p,i,none⟩=false)/\p<w.heap.size:=
 ⟨h.cell 0,h.cell 1,h.cell 2,h.cell 3,h.cell 4,h.frozen,h.lt⟩
structure bP where
 nodes:List ByteArray
 sws:List Sw
 brs:List Br
 gns:List Gn
 lds:List Ld
 sts:List St
structure cQ where
 A0:OA
 n0:Nat
 c0:Nat
 A1:OA
 n1:Nat
 c1:Nat
 A2:OA
 n2:Nat
 c2:Nat
 A3:OA
 n3:Nat
 c3:Nat
 A4:OA
 n4:Nat
 c4:Nat
 A5:OA
 n5:Nat
 c5:Nat
def cQ.cells(h:cQ):Array Value:=#[.slice h.A0 h.n0 h.c0,.slice h.A1 h.n1 h.c1,.slice h.A2 h.n2 h.c2,.slice h.A3 h.n3 h.c3,.slice h.A4 h.n4 h.c4,.slice h.A5 h.n5 h.c5]
structure cX (w:Wo) (B:Nat) (h:cQ) (x:bP):Prop where
 r0:aW w B h.A0 h.n0 x.nodes
 r1:tE w B h.A1 h.n1 x.sws
 r2:tG w B h.A2 h.n2 x.brs
 r3:tF w B h.A3 h.n3 x.gns
 r4:r8 w B h.A4 h.n4 x.lds
 r5:rZ w B h.A5 h.n5 x.sts
 m0:h.n0<=9223372036854775807
 m1:h.n1<=9223372036854775807
 m2:h.n2<=9223372036854775807
 m3:h.n3<=9223372036854775807
 m4:h.n4<=9223372036854775807
 m5:h.n5<=9223372036854775807
 /-- every string is as long as a string can be -/
 z0:∀s∈x.nodes,s.size<=maxLen
 z1:∀s∈x.sws,s.name.size<=maxLen
 z2:∀s∈x.brs,s.name.size<=maxLen
 z3:∀s∈x.gns,s.name.size<=maxLen
 z4:∀s∈x.lds,s.name.size<=maxLen
 z5:∀s∈x.sts,s.name.size<=maxLen
theorem cX.below{h:cQ}{x:bP}(r:cX w B h x)(hb:Below B' w w')(hB:B<=B'):cX w' B h x:=
 ⟨r.r0.below hb hB,r.r1.below hb hB,r.r2.below hb hB,r.r3.below hb hB,r.r4.below hb hB,r.r5.below hb hB,r.m0,r.m1,r.m2,r.m3,r.m4,r.m5,r.z0,r.z1,r.z2,r.z3,r.z4,r.z5⟩
theorem cX.more{h:cQ}{x:bP}(r:cX w B h x)(hB:B<=B'):cX w B' h x:=
 ⟨r.r0.more hB,r.r1.more hB,r.r2.more hB,r.r3.more hB,r.r4.more hB,r.r5.more hB,r.m0,r.m1,r.m2,r.m3,r.m4,r.m5,r.z0,r.z1,r.z2,r.z3,r.z4,r.z5⟩
theorem cX.up{h:cQ}{x:bP}(r:cX w w.heap.size h x)(hb:Below w.heap.size w w'):cX w' w'.heap.size h x:=(r.below hb lR).more hb.size
theorem cG{h:cQ}(q:aD w p t h.cells):w.cell? ⟨p,0,none⟩=some (.slice h.A0 h.n0 h.c0)/\w.cell? ⟨p,1,none⟩=some (.slice h.A1 h.n1 h.c1)/\w.cell? ⟨p,2,none⟩=some (.slice h.A2 h.n2 h.c2)/\
    w.cell? ⟨p,3,none⟩=some (.slice h.A3 h.n3 h.c3)/\w.cell? ⟨p,4,none⟩=some (.slice h.A4 h.n4 h.c4)/\w.cell? ⟨p,5,none⟩=some (.slice h.A5 h.n5 h.c5)/\(∀i,w.frozen? ⟨p,i,none⟩=false)/\p<w.heap.size:=
 ⟨q.cell 0,q.cell 1,q.cell 2,q.cell 3,q.cell 4,q.cell 5,q.frozen,q.lt⟩
theorem aW.bm(h:aW w w.heap.size A n l)(g:Below w.heap.size w w'):aW w' w'.heap.size A n l:=(h.below g lR).more g.size
theorem tE.bm{l:List Sw}(h:tE w w.heap.size A n l)(g:Below w.heap.size w w'):tE w' w'.heap.size A n l:=(h.below g lR).more g.size
theorem tG.bm{l:List Br}(h:tG w w.heap.size A n l)(g:Below w.heap.size w w'):tG w' w'.heap.size A n l:=(h.below g lR).more g.size
theorem tF.bm{l:List Gn}(h:tF w w.heap.size A n l)(g:Below w.heap.size w w'):tF w' w'.heap.size A n l:=(h.below g lR).more g.size
theorem r8.bm{l:List Ld}(h:r8 w w.heap.size A n l)(g:Below w.heap.size w w'):r8 w' w'.heap.size A n l:=(h.below g lR).more g.size
theorem rZ.bm{l:List St}(h:rZ w w.heap.size A n l)(g:Below w.heap.size w w'):rZ w' w'.heap.size A n l:=(h.below g lR).more g.size
theorem cX.bm{h:cQ}{x:bP}(r:cX w w.heap.size h x)(g:Below w.heap.size w w'):cX w' w'.heap.size h x:=(r.below g lR).more g.size
end
section
open Go.ChangeShapes Go.WideShapes Go.ChangeAt Go.RowKit
attribute [local go_sem ↓] aE
attribute [local go_sem] aJ aI aL aX
def RB(i c:Nat):Bool:=decide ((65<=c/\c<=90)\/(0<i/\48<=c/\c<=57))
def MG:Nat->List UInt8->Bool
 | _,[]=>true
 | i,c::r=>RB i c.toNat && MG (i+1) r
def uI(s:ByteArray):Bool:=MG 0 s.data.toList && decide (1<=s.size/\s.size<=8)
theorem I2(s:ByteArray)(w:Wo)(hs:s.size<=maxLen):Calls Tryz.prog 113 #[.string s] w fun e w'=>e=.returned (.bool (uI s))/\Below w.heap.size w w':=by
 have M7:=fun w=>run_bytes_of_string (P:=Tryz.prog) w 9 180 5 s Tryz.underlying9 Tryz.underlying180 Tryz.underlying5;unfold maxLen at hs;go_enter Tryz.func113,Tryz.ntmps113
 go_wp2_with fail
 clear M7;generalize grownCap w s.size 0 5=cap;have gH:∀k (h:k<s.data.size),(w.alloc (.cells (bytesRow s cap) 5 ((bytesRow s cap).size,(bytesRow s cap).size+1))).cell? ⟨w.heap.size,k,none⟩=some (.int .u8 (s.data[k].toNat:Int)):=fun k h=>by
  rw[World.cell?_alloc_mark,bytesRow_at s cap k h]
 have HC:=lH gH;have K0:Below w.heap.size w (w.alloc (.cells (bytesRow s cap) 5 ((bytesRow s cap).size,(bytesRow s cap).size+1))).drew:=aH (bA);have HK:=lH K0;have aEB:w.heap.size<(w.alloc (.cells (bytesRow s cap) 5 ((bytesRow s cap).size,(bytesRow s cap).size+1))).heap.size:=by simp
 clear gH K0;generalize (w.alloc (.cells (bytesRow s cap) 5 ((bytesRow s cap).size,(bytesRow s cap).size+1)))=w1 at *
 go_loop [3,4,8] (fun _ _ i=>∃k:Nat,k<=s.size/\i=.int .i64 k/\MG 0 s.data.toList=MG k (s.data.toList.drop k)) (fun _ _ i=>s.size-(intOf i).toNat)
 case atStart=>exact⟨0,by omega,rfl,rfl⟩
 case round=>
  obtain⟨k,hk,rfl,mG⟩:=hrel;have HG:=lH mG;clear mG;by_cases aR:k<s.size
  ·obtain⟨n,hn,LA⟩:∃n:Nat,n<256/\n=(s.data[k]'aR).toNat:=⟨_,UInt8.toNat_lt _,rfl⟩
   have hc:=HC.o k aR;rw[<-LA] at hc;have hd:s.data.toList.drop k=s.data[k]'aR::s.data.toList.drop (k+1):=bW (by simp[aR]);have HD:=lH (show MG k (s.data.toList.drop k)=(RB k n && MG (k+1) (s.data.toList.drop (k+1))) by rw[hd,LA];rfl);clear hd LA;(go_wp2_with fail)
   all_goals
    first
     | (have hx : RB k n = true := by
          clear HD HK aEB;simp at *;unfold RB;rw[decide_eq_true_eq];omega
        have HX:=lH hx;clear hx
        go_round
        case rel=>exact⟨k+1,by omega,by go_num,by rw[HG.o,HD.o,HX.o];rfl⟩
        case measure=>simp[intOf];omega)
     | (have hx : RB k n = false := by
          clear HD HK aEB;simp at *;unfold RB;rw[decide_eq_false_iff_not];omega
        go_ret;exact⟨nM (by unfold uI;rw[HG.o,HD.o,hx];rfl),HK.o⟩)
  ·have hd:s.data.toList.drop k=[]:=by rw[List.drop_eq_nil_iff];simp;exact Nat.le_of_not_lt aR
   have HD:=lH (show MG k (s.data.toList.drop k)=true by rw[hd];rfl);have hs8:Hid (uI s=decide (1<=s.size/\s.size<=8)):=lH (by unfold uI;rw[HG.o,HD.o];rfl);clear hd;by_cases h1:1<=s.size
   ·by_cases h8:s.size<=8
    ·go_wp2_with fail
     go_ret;exact⟨nM (by rw[hs8.out];first | (rw[decide_eq_decide];omega) | (rw[eq_comm,decide_eq_false_iff_not];omega) | (rw[eq_comm,decide_eq_true_eq];omega)),HK.o⟩
    ·go_wp2_with fail
     go_ret;exact⟨nM (by rw[hs8.out];first | (rw[decide_eq_decide];omega) | (rw[eq_comm,decide_eq_false_iff_not];omega) | (rw[eq_comm,decide_eq_true_eq];omega)),HK.o⟩
   ·go_wp2_with fail
    go_ret;exact⟨nM (by rw[hs8.out];first | (rw[decide_eq_decide];omega) | (rw[eq_comm,decide_eq_false_iff_not];omega) | (rw[eq_comm,decide_eq_true_eq];omega)),HK.o⟩
def iR(n low high:Int):Bool:=decide (n<low\/high<n)
theorem cV(n low high:Int)(w:Wo):Calls Tryz.prog 114 #[.int .i64 n,.int .i64 low,.int .i64 high] w fun e w'=>e=.returned (.bool (iR n low high))/\w=w':=by
 go_enter Tryz.func114,Tryz.ntmps114
 go_wp2
 all_goals
  go_ret;exact⟨nM (by simp[iR]<;>omega),rfl⟩
theorem bY(n:Int)(w:Wo):Calls Tryz.prog 115 #[.int .i64 n] w fun e w'=>e=.returned (.bool (!iR n 0 100000))/\w=w':=by
 go_enter Tryz.func115,Tryz.ntmps115
 go_wp2_with fail
 refine(cV _ _ _ _).mono ?_;rintro e w1 ⟨rfl,rfl⟩
 go_wp2_with fail
 go_ret;exact⟨rfl,rfl⟩
def Br.bad(x:Br):Bool:=iR x.x 1 10000 || iR x.tap 500 1500 || iR x.shift (-1000) 1000 || iR x.limit 0 100000 || iR x.short x.limit 100000 || iR x.hold 0 200000
def Br.ck(x:Br):Int:=if x.bad then 4 else 0
theorem I1(x:Br)(w:Wo):Calls Tryz.prog 75 #[.agg #[.string x.name,.string x.fr,.string x.to,.int .i64 x.x,.int .i64 x.tap,.int .i64 x.shift,.int .i64 x.limit,.int .i64 x.short,.int .i64 x.hold]] w fun e w'=>e=.returned (.int .i64 x.ck)/\Below w.heap.size w w':=by
 have K0:∀cs t,Below w.heap.size w (w.alloc (.cells cs t)):=fun cs t=>bA;have HK:=lH K0;clear K0;have LJ:=lH (show x.ck=if x.bad then 4 else 0 from rfl);cases h0:iR x.x 1 10000 with
 | true=>
  have HB:Hid (x.ck=4):=lH (by rw[LJ.o];unfold Br.bad;rw[h0];rfl);go_enter Tryz.func75,Tryz.ntmps75
  go_wp2_with (go_at_call 114;refine(cV _ _ _ _).mono ?_;rintro e w' ⟨rfl,rfl⟩)
  go_ret;exact⟨aQ (by rw[HB.o]),HK.o _ _⟩
 | false=>
  cases h1:iR x.tap 500 1500 with
  | true=>
   have HB:Hid (x.ck=4):=lH (by rw[LJ.o];unfold Br.bad;rw[h0,h1];rfl);go_enter Tryz.func75,Tryz.ntmps75
   go_wp2_with (go_at_call 114;refine(cV _ _ _ _).mono ?_;rintro e w' ⟨rfl,rfl⟩)
   go_ret;exact⟨aQ (by rw[HB.o]),HK.o _ _⟩
  | false=>
   cases h2:iR x.shift (-1000) 1000 with
   | true=>
    have HB:Hid (x.ck=4):=lH (by rw[LJ.o];unfold Br.bad;rw[h0,h1,h2];rfl);go_enter Tryz.func75,Tryz.ntmps75
    go_wp2_with (go_at_call 114;refine(cV _ _ _ _).mono ?_;rintro e w' ⟨rfl,rfl⟩)
    go_ret;exact⟨aQ (by rw[HB.o]),HK.o _ _⟩
   | false=>
    cases h3:iR x.limit 0 100000 with
    | true=>
     have HB:Hid (x.ck=4):=lH (by rw[LJ.o];unfold Br.bad;rw[h0,h1,h2,h3];rfl);go_enter Tryz.func75,Tryz.ntmps75
     go_wp2_with (go_at_call 114;refine(cV _ _ _ _).mono ?_;rintro e w' ⟨rfl,rfl⟩)
     go_ret;exact⟨aQ (by rw[HB.o]),HK.o _ _⟩
    | false=>
     cases h4:iR x.short x.limit 100000 with
     | true=>
      have HB:Hid (x.ck=4):=lH (by rw[LJ.o];unfold Br.bad;rw[h0,h1,h2,h3,h4];rfl);go_enter Tryz.func75,Tryz.ntmps75
      go_wp2_with (go_at_call 114;refine(cV _ _ _ _).mono ?_;rintro e w' ⟨rfl,rfl⟩)
      go_ret;exact⟨aQ (by rw[HB.o]),HK.o _ _⟩
     | false=>
      cases h5:iR x.hold 0 200000 with
      | true=>
       have HB:Hid (x.ck=4):=lH (by rw[LJ.o];unfold Br.bad;rw[h0,h1,h2,h3,h4,h5];rfl);go_enter Tryz.func75,Tryz.ntmps75
       go_wp2_with (go_at_call 114;refine(cV _ _ _ _).mono ?_;rintro e w' ⟨rfl,rfl⟩)
       go_ret;exact⟨aQ (by rw[HB.o]),HK.o _ _⟩
      | false=>
       have HB:Hid (x.ck=0):=lH (by rw[LJ.o];unfold Br.bad;rw[h0,h1,h2,h3,h4,h5];rfl);go_enter Tryz.func75,Tryz.ntmps75
       go_wp2_with (go_at_call 114;refine(cV _ _ _ _).mono ?_;rintro e w' ⟨rfl,rfl⟩)
       go_ret;exact⟨aQ (by rw[HB.o]),HK.o _ _⟩
theorem jY(A:OA)(n c:Nat)(zs:List ByteArray)(z:ByteArray)(w:Wo)(hr:aW w w.heap.size A n zs)(hn:n<=9223372036854775807):Calls Tryz.prog 60 #[.slice A n c,.string z] w fun e w'=>e=.returned (.int .i64 (eP (fun x=>k_ z x) zs 0))/\w=w':=by
 have d5:=lH hr.1;go_enter Tryz.func60,Tryz.ntmps60
 go_wp2_with fail
 go_loop [5,8] (fun _ i=>∃k:Nat,k<=n/\i=.int .i64 k/\eP (fun x=>k_ z x) zs 0=eP (fun x=>k_ z x) (zs.drop k) k) (fun _ i=>n-(intOf i).toNat)
 case atStart=>exact⟨0,by omega,rfl,rfl⟩
 case round=>
  obtain⟨k,hk,rfl,BE⟩:=hrel;have CC:=lH BE;clear BE;by_cases aR:k<n
  ·obtain⟨y,hy⟩:∃y,zs[k]?=some y:=eG (by have:=d5.out;omega)
   obtain⟨b,off,rfl,NB⟩:=hr.form (by omega);have gH:=hr.at_ hy;have HZ:=lH (bW hy);clear hy;cases hp:k_ z y with
   | true=>
    have HP:=lH hp;(go_wp2_with fail);go_ret;exact⟨aQ (by rw[CC.o,HZ.o];simp[eP,HP.o]),rfl⟩
   | false=>
    have HP:=lH hp;(go_wp2_with fail)
    go_round
    case rel=>exact⟨k+1,by omega,by go_num,by rw[CC.o,HZ.o];simp[eP,HP.o]⟩
    case measure=>simp[intOf];omega
  ·have hd:zs.drop k=[]:=by rw[List.drop_eq_nil_iff];have:=d5.out;omega
   have HD:=lH hd;clear hd;(go_wp2_with fail);go_ret;exact⟨aQ (by rw[CC.o,HD.o];rfl),rfl⟩
theorem eB(A:OA)(n c:Nat)(ss:List ByteArray)(z:ByteArray)(w:Wo)(hr:aW w w.heap.size A n ss)(hn:n<=9223372036854775807):Calls Tryz.prog 47 #[.slice A n c,.string z] w fun e w'=>e=.returned (.bool (ss.any (fun x=>k_ z x)))/\w=w':=by
 have HA:=lH (D9 (fun x=>k_ z x) ss 0);go_enter Tryz.func47,Tryz.ntmps47
 go_wp2_with fail
 refine(jY A n c ss z w hr hn).mono ?_;rintro e w1 ⟨rfl,rfl⟩
 go_wp2_with fail
 go_ret;exact⟨nM HA.o,rfl⟩
end
section
open Go.ChangeShapes Go.WideShapes Go.ChangeAt Go.RowKit Go.Maps
attribute [local go_sem ↓] aE
attribute [local go_sem] aJ aI aL aX
theorem sP{H:Type}{P:Program}{e:TypeId}(he:P.underlying e=some .bool){z:DataW H×List MemPlace}(h:plainElem P e v=some z):∃x,v=.bool x/\z=(.lit (.bool x),[]):=by
 unfold plainElem at h;rw[he] at h;cases v<;>simp at h;exact⟨_,rfl,h.symm⟩
theorem d_{H:Type}{P:Program}(w:Wo){ops:Array Oper}{rest:List Oper}{o:Oper}{a:Act}{Q:Exit->Act->World->Prop}(hg:o.guard=none)(m x:Operand)(t:TypeId)(XG:o.op=Op.lookup t m x false)(k e:TypeId)(K:Keyed P k)(ht:P.underlying t=some (.map k e))(he:P.underlying e=some .bool)(hz:(zeroValue e).run P w=.ok (.bool false) w)(b n:Nat)(D:DataW H)(hm:a.eval m=.map (some b))(bB:w.ownsMap P k (plainElem P e) b n D)(key:Value)(kl:Lit)(hx:a.eval x=key)(aEE:keyOf P k key=some kl)(c:Bool)(hc:D.atKey kl (.lit (.bool false))=.lit (.bool c))(hK:wpList P ops Q rest (a.put o.dst (.bool c)) w):wpList P ops Q (o::rest) a w:=by
 refine wpList_plain hg fun K' hK'=>?_;obtain⟨v,ps,MV,hv⟩:=bB.lookup K ht hz (plainElem_bool he false) aEE;obtain⟨c',rfl,hc'⟩:=sP he hv;simp only[Prod.mk.injEq] at hc';have M_:c'=c:=by
  have h1:=hc'.1;rw[hc] at h1;injection h1 with h1;injection h1 with h1;exact h1.symm
 subst M_;unfold Oper.wp;simp[execOp,XG,hm,hx,MV,Result.andThen];exact hK' _ _ hK
def gJ(w:Wo)(b n:Nat)(l:List ByteArray):Prop:=
 ∃D:DataW Unit,w.ownsMap Tryz.prog 9 (plainElem Tryz.prog 4) b n D/\IsMap D/\∀s:ByteArray,D.atKey (.string s.data.toList) (.lit (.bool false))=.lit (.bool (l.any fun x=>k_ s x))
theorem gJ.lt(h:gJ w b n l):b<w.heap.size:=by obtain⟨D,h1,_⟩:=h;exact h1.lt
theorem gJ.kept{row:Option Nat}(h:gJ w b n l)(hg:w.grownBy w' row)(cK:some b≠row):gJ w' b n l:=by
 obtain⟨D,h1,h2⟩:=h;exact⟨D,h1.kept hg cK,h2⟩
theorem gJ.below(h:gJ w b n l)(hb:Below w.heap.size w w'):gJ w' b n l:=h.kept (row:=none) ⟨hb.os,hb.tape,hb.output,hb.size,fun k hk _=>hb.block k hk⟩ (by simp)
theorem gJ.made(w:Wo):gJ (w.alloc (.map #[] 0)) w.heap.size 0 []:=
 ⟨.map [],World.ownsMap_made _ _ _ _,⟨[],rfl⟩,fun s=>rfl⟩
theorem FT:Keyed Tryz.prog 9:=string_keyed Tryz.underlying9
theorem qX(w:Wo):(zeroValue 4).run Tryz.prog w=.ok (.bool false) w:=by kernel_rfl
theorem gJ.put{w:Wo}{b n:Nat}{l:List ByteArray}{D:DataW Unit}(s:ByteArray)(h1:w.ownsMap Tryz.prog 9 (plainElem Tryz.prog 4) b (n+1) (D.put (.string s.data.toList) (.lit (.bool true))))(h2:IsMap D)(h3:∀s:ByteArray,D.atKey (.string s.data.toList) (.lit (.bool false))=.lit (.bool (l.any fun x=>k_ s x))):gJ w b (n+1) (s::l):=by
 refine⟨_,h1,?_,fun t=>?_⟩
 ·obtain⟨es,rfl⟩:=h2
  exact⟨_,rfl⟩
 ·by_cases hts:t=s
  ·subst hts
   rw[atKey_put_same h2 (k:=.string t.data.toList) trivial];simp[k_]
  ·rw[atKey_put_other (fun e=>hts (by injection e with e;cases t;cases s;simp at e;rw[e])),h3]
   have:k_ t s=false:=wD.2 hts;simp[this]
theorem Rd.mapped{xs:List Value}(h:Rd w B size A n xs)(hs:0<size)(hS:gJ w b m l)(hg:w.grownBy w' (some b))(hB:B<=w.heap.size)(hB':B<=B'):Rd w' B' size A n xs:=
 ⟨h.1,fun hn=>by
  obtain⟨b',off,e,aR,hc⟩:=h.2 hn;have hx:0<xs.length:=by rw[h.1];exact Nat.mul_pos hn hs
  have cK:b'≠b:=by
   rintro rfl;have h0:=hc 0 _ (jP hx);obtain⟨D,⟨es,clock,hb,_⟩,_⟩:=hS;unfold World.cell? at h0;rw[hb] at h0;cases h0
  exact⟨b',off,e,by omega,fun j u hu=>(World.cell?_of_block (a:=⟨b',off+j,none⟩) (hg.block b' (by omega) (fun e=>by injection e;omega))).trans (hc j u hu)⟩⟩
theorem aW.mapped(h:aW w B A n xs)(hS:gJ w b m l)(hg:w.grownBy w' (some b))(hB:B<=w.heap.size)(hB':B<=B'):aW w' B' A n xs:=⟨h.1,h.2.mapped (by omega) hS hg hB hB'⟩
def jM(nodes seen:List ByteArray)(name:ByteArray)(ends:List ByteArray):Int:=
 if uI name=false then 5 else if seen.any (fun x=>k_ name x) then 7
 else if ends.any (fun s=>!(nodes.any fun x=>k_ s x)) then 6
 else if ends.length=2/\ends[0]?=ends[1]? then 3 else 0
def aCo(w:Wo)(b n:Nat)(seen:List ByteArray)(name:ByteArray)(r:Int)(e:Ending)(w':Wo):Prop:=
 e=.returned (.int .i64 r)/\w.grownBy w' (some b)/\(r=0->gJ w' b (n+1) (name::seen))
theorem iV{u:Value}(h:aD w p t #[u,v]):w.cell? ⟨p,0,none⟩=some u/\w.cell? ⟨p,1,none⟩=some v/\(∀i,w.frozen? ⟨p,i,none⟩=false)/\p<w.heap.size:=⟨h.cell 0,h.cell 1,h.frozen,h.lt⟩
theorem jZ(b n:Nat)(A:OA)(nn nc:Nat)(nodes:List ByteArray)(seen:List ByteArray)(name:ByteArray)(V:OA)(m mc:Nat)(ends:List ByteArray)(w:Wo)(hN:aW w w.heap.size A nn nodes)(GS:nn<=9223372036854775807)(hS:gJ w b n seen)(hn:n<=65536)(XK:name.size<=maxLen)(hE:aW w w.heap.size V m ends)(hm:m<=2):Calls Tryz.prog 74 #[.agg #[.map (some b),.slice A nn nc],.string name,.slice V m mc] w (aCo w b n seen name (jM nodes seen name ends)):=by
 have NB:=hS.lt;obtain⟨D,bB,yJ,qN⟩:=hS;have K0:=vM w (.cells #[.map (some b),.slice A nn nc] 147);obtain⟨TA,HN,HE,HO,LL⟩:=mP K0 (hN.bm K0) (hE.bm K0) (bB.alloc (.cells #[.map (some b),.slice A nn nc] 147)) qN;have HD:Hid (∀(nodes seen ends:List ByteArray),jM nodes seen name ends=if uI name=false then 5 else if seen.any (fun x=>k_ name x) then 7
  else if ends.any (fun s=>!(nodes.any fun x=>k_ s x)) then 6 else if ends.length=2/\ends[0]?=ends[1]? then 3 else 0):=lH fun _ _ _=>rfl
 clear hN hE qN bB K0;cases GT:uI name with
 | false=>
  have p5:=lH GT;clear GT;go_enter Tryz.func74,Tryz.ntmps74
  (go_wp2_with fail);refine(I2 name _ XK).mono ?_;rw[p5.o];rintro e w1 ⟨rfl,k1⟩;have G1:=bX TA k1;clear k1;(go_wp2_with fail);go_ret;have hr:jM nodes seen name ends=5:=by rw[HD.o,if_pos p5.o]
  exact⟨aQ hr.symm,fC G1.o _,fun h=>by omega⟩
 | true=>
  have p5:=lH GT;clear GT;go_enter Tryz.func74,Tryz.ntmps74
  (go_wp2_with fail);refine(I2 name _ XK).mono ?_;rw[p5.o];rintro e w1 ⟨rfl,k1⟩;have G1:=bX TA k1;have hQ:aD w1 w.heap.size 147 #[.map (some b),.slice A nn nc]:=(aD.new_ rfl).below k1 (by simp);have zR:=lH (HO.o.kept (row:=none) ⟨k1.os,k1.tape,k1.output,k1.size,fun k hk _=>k1.block k hk⟩ (by simp));have gB:=lH (HN.o.bm k1);have tL:=lH (HE.o.bm k1);obtain⟨c0,c1,cf,aIc⟩:=iV hQ;have HQ:=lH hQ;clear k1 hQ;have hk:=WideMaps.keyOf_string_mk (P:=Tryz.prog) Tryz.underlying9 XK;have CB:=lH hk;clear hk;cases RU:seen.any (fun x=>k_ name x) with
  | true=>
   have PW:=lH RU;have vG:Hid (D.atKey (.string name.data.toList) (.lit (.bool false))=.lit (.bool true)):=lH (by rw[LL.o,RU]);clear RU
   go_wp2_with (at_lookup;refine d_ _ rfl _ _ 145 rfl 9 4 FT Tryz.underlying145 Tryz.underlying4 (qX _) b n D rfl zR.o _ _ rfl CB.o _ vG.o ?_)
   go_ret;have hr:jM nodes seen name ends=7:=by rw[HD.o,p5.o,PW.o];rfl
   exact⟨aQ hr.symm,fC G1.o _,fun h=>by omega⟩
  | false=>
   have PW:=lH RU;have vG:Hid (D.atKey (.string name.data.toList) (.lit (.bool false))=.lit (.bool false)):=lH (by rw[LL.o,RU]);clear RU
   go_wp2_with (first | (at_lookup;refine d_ _ rfl _ _ 145 rfl 9 4 FT Tryz.underlying145 Tryz.underlying4 (qX _) b n D rfl zR.o _ _ rfl CB.o _ vG.o ?_) | (at_mapUpdate;refine wpList_mapUpdate_own _ rfl _ _ _ 145 rfl 9 4 FT Tryz.underlying145 _ b n D rfl zR.o (by unfold maxLen;omega) _ _ _ rfl rfl CB.o _ [] (plainElem_bool Tryz.underlying4 true) ?_))
   intro w2 A_ iH;have hS1:gJ w1 b n seen:=⟨D,zR.o,yJ,LL.o⟩;obtain⟨jR,e_,N9⟩:=eR (gJ.put name A_ yJ LL.o) (gB.o.mapped hS1 iH lR iH.size) (tL.o.mapped hS1 iH lR iH.size);have hQ2:aD w2 w.heap.size 147 #[.map (some b),.slice A nn nc]:=HQ.o.grown iH (fun e=>by injection e;omega);have fW:=lH (eI (fC G1.o (some b)) iH);obtain⟨d0,d1,df,aEA⟩:=iV hQ2;have hEl:=lH N9.o.1;clear A_ iH hS1 hQ2 c0 c1 cf;(go_wp2_with fail)
   go_loop [8,23] (fun _ i=>∃k:Nat,k<=m/\i=.int .i64 k/\ends.any (fun s=>!(nodes.any fun x=>k_ s x))=(ends.drop k).any (fun s=>!(nodes.any fun x=>k_ s x))) (fun _ i=>m-(intOf i).toNat)
   case atStart=>exact⟨0,by omega,rfl,rfl⟩
   case round=>
    obtain⟨k,hk,rfl,BE⟩:=hrel;have CC:=lH BE;clear BE;by_cases aR:k<m
    ·obtain⟨y,hy⟩:∃y,ends[k]?=some y:=eG (by have:=hEl.out;omega)
     obtain⟨bv,ov,rfl,hbv⟩:=N9.o.form (by omega);have gH:=N9.o.at_ hy;have HZ:=lH (bW hy);clear hy;cases hp:nodes.any (fun x=>k_ y x) with
     | true=>
      have HP:=lH hp;clear hp;(go_wp2_with fail);refine(eB A nn nc nodes y _ e_.o GS).mono ?_;rw[HP.o];rintro e w3 ⟨rfl,rfl⟩;(go_wp2_with fail)
      go_round
      case rel=>exact⟨k+1,by omega,by go_num,by rw[CC.o,HZ.o];simp[HP.o]⟩
      case measure=>simp[intOf];omega
     | false=>
      have HP:=lH hp;clear hp;(go_wp2_with fail);refine(eB A nn nc nodes y _ e_.o GS).mono ?_;rw[HP.o];rintro e w3 ⟨rfl,rfl⟩;(go_wp2_with fail);go_ret;have hr:jM nodes seen name ends=6:=by
       rw[HD.o,p5.o,PW.o,CC.o,HZ.o];simp[HP.o]
      exact⟨aQ hr.symm,fW.o,fun h=>by omega⟩
    ·have hd:ends.drop k=[]:=by rw[List.drop_eq_nil_iff];have:=hEl.out;omega
     have hr:jM nodes seen name ends=if ends.length=2/\ends[0]?=ends[1]? then 3 else 0:=by
      rw[HD.o,p5.o,PW.o,CC.o,hd];simp
     have HR:=lH hr;clear hd hr;by_cases TP:m=2
     ·subst TP
      obtain⟨y0,uP⟩:∃y,ends[0]?=some y:=eG (by have:=hEl.out;omega);obtain⟨y1,hy1⟩:∃y,ends[1]?=some y:=eG (by have:=hEl.out;omega);obtain⟨bv,ov,rfl,hbv⟩:=N9.o.form (by omega);have aEP:=N9.o.at_ uP;have aM1:=N9.o.at_ hy1;rw[Nat.add_zero] at aEP;have hw0:(0:Int)<((2:Nat):Int):=by omega
      cases hq:k_ y0 y1 with
      | true=>
       have hr:jM nodes seen name ends=3:=by rw[HR.o,uP,hy1,if_pos ⟨hEl.out,by rw[iY.1 hq]⟩]
       have qU:=lH hr;clear uP hy1 hr;(go_wp2_with fail)
       go_quiet (fail)
       (go_wp2_with fail);go_ret;exact⟨aQ qU.o.symm,oX fW.o _,fun h=>by rw[qU.o] at h;omega⟩
      | false=>
       have hr:jM nodes seen name ends=0:=by rw[HR.o,uP,hy1,if_neg (fun h=>wD.1 hq (by injection h.2))]
       have qU:=lH hr;clear uP hy1 hr;(go_wp2_with fail)
       go_quiet (fail)
       (go_wp2_with fail);go_ret;exact⟨aQ qU.o.symm,oX fW.o _,fun _=>jR.o.below (aS bR _)⟩
     ·have hr:jM nodes seen name ends=0:=by rw[HR.o,if_neg (fun h=>TP (by have:=hEl.out;omega))]
      have qU:=lH hr;have hmf:((m:Int) == 2)=false:=by rw[beq_eq_false_iff_ne];omega
      clear hr TP;(go_wp2_with fail)
      go_quiet (fail)
      (go_wp2_with fail);go_ret;exact⟨aQ qU.o.symm,oX fW.o _,fun _=>jR.o.below (aS bR _)⟩
end
