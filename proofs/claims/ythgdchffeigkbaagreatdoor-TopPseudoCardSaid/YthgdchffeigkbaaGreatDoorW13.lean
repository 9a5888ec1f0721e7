import Derived.Test.YthgdchffeigkbaaGreatDoorW10
import Derived.Test.YthgdchffeigkbaaGreatDoorW11
import Derived.Test.YthgdchffeigkbaaGreatDoorW12
set_option linter.unusedVariables false
set_option linter.unusedSimpArgs false
namespace Go.Proofs.YthgdchffeigkbaaGreatDoor
set_option maxHeartbeats 8000000
set_option maxRecDepth 100000
variable {K a b b' base e g gc gf i j k m n size t : Nat} {cs : Array Value} {l : List Nat} {p : Rat} {q qs : List Rat} {u : Rv} {v y : Value} {vs : List Rv} {w w' : World} {x : bK} {xs : List Value}
section
open Go.ChangeShapes Go.WideShapes Go.ChangeAt Go.RowKit
def vR(y:Value):Prop:=∀k x,y≠.int k x
theorem iF{A:OA}{c:Nat}:vR (.slice A n c):=fun k x h=>by cases h
theorem cU.keep1{T:Nat}{q:Rat}{x:Rv}(h:cU w w.heap.size q x)(hb:aD w g T cs)(hy:cs[i]?=some y)(hn:vR y)(u:Value):cU (w.setCell ⟨g,i,none⟩ u) (w.setCell ⟨g,i,none⟩ u).heap.size q x:=by
 have h0:cQ w w.heap.size q x.b1 x.A x.n x.c x.b2 x.A2 x.m x.d:=h;exact cQ.keep h0 (v:=y) (by rw[hb.cell];exact hy) hn u
section
variable {S:Value->Prop} {w w':Wo} {base e size n:Nat} {v:Value} {xs:List Value}
theorem bB.blk(h:bB S w base e size v n xs){S':Value->Prop}{e':TypeId}(k:dU S' b' e' w w')(cG:e≠e'):bB S w' base e size v n xs:=by
 refine⟨h.1,?_⟩;rcases h.2 with h1 | ⟨g,cap,cur,h1,h2,h3,h4⟩
 ·exact .inl h1
 ·exact .inr ⟨g,cap,cur,h1,h2,k.blk _ _ _ h3 cG,h4⟩
theorem bB.ni(h:bB S w base e size v n xs):vR v:=by
 obtain⟨A,c,rfl,_⟩:=h.shape;exact iF
end
structure JV (g:Nat) (w0 wr:Wo) (b0 b1 vF vT vB vC:Value) (F T:List Nat) (uB uC:List Rv) (B C:List Rat):Prop where
 blk:aD wr g 122 #[b0,b1,vF,vT,vB,vC,.slice none 0 0,.slice none 0 0]
 oF:bB rX wr (g+1) 3 1 vF F.length (fA F)
 oT:bB rX wr (g+1) 3 1 vT T.length (fA T)
 oB:dD wr (g+1) vB uB B
 oC:dD wr (g+1) vC uC C
 ap:∀k,vF.ownBlock=some k->vT.ownBlock≠some k
 aq:∀k,vB.ownBlock=some k->vC.ownBlock≠some k
 low:Below g w0 wr
section
variable {g:Nat} {w0 wr w':Wo} {b0 b1 vF vT vB vC v':Value} {F T:List Nat} {uB uC:List Rv} {B C:List Rat}
theorem JV.up(m:JV g w0 wr b0 b1 vF vT vB vC F T uB uC B C)(hb:Below wr.heap.size wr w'):JV g w0 w' b0 b1 vF vT vB vC F T uB uC B C:=
 ⟨m.blk.bl hb,m.oF.keep hb,m.oT.keep hb,m.oB.keep hb,m.oC.keep hb,m.ap,m.aq,m.low.trans (hb.mono (oO m.blk.lt))⟩
theorem dD.keepsI(h:dD wr base v vs qs)(k:dU rX b' 3 wr w'):dD w' base v vs qs:=
 ⟨h.own.blk k (by decide),h.len,fun i q x hq hx=>(h.ok i q x hq hx).keepsI k⟩
theorem dD.far{u:Value}{T:Nat}(h:dD wr base v vs qs)(hb:aD wr g T cs)(ht:115≠T)(hy:cs[i]?=some y)(hn:vR y):dD (wr.setCell ⟨g,i,none⟩ u) base v vs qs:=
 ⟨h.own.far hb ht,h.len,fun i q x hq hx=>(h.ok i q x hq hx).keep1 hb hy hn u⟩
theorem dD.apart{u:Value}(h:dD wr base u vs qs)(k:dU o9 b' 115 wr w')(ho:∀k,k<wr.heap.size->v.ownBlock≠some k->w'.heap[k]?=wr.heap[k]?)(cG:∀k,u.ownBlock=some k->v.ownBlock≠some k):dD w' base u vs qs:=
 ⟨h.own.apart ho cG,h.len,fun i q x hq hx=>(h.ok i q x hq hx).keeps k⟩
theorem DN{S:Value->Prop}{v' u:Value}(h:∀k,v.ownBlock=some k->u.ownBlock≠some k)(hu:bB S wr base e size u n xs)(hv:v'.ownBlock=v.ownBlock\/v'.ownBlock=some wr.heap.size):∀k,v'.ownBlock=some k->u.ownBlock≠some k:=fun k hk hc=>by
 rcases hv with hv | hv
 ·rw[hv] at hk;exact h k hk hc
 ·rw[hv] at hk
  injection hk with hk;subst hk;exact absurd (hu.lt hc).2 (Nat.lt_irrefl _)
theorem JV.appF(m:JV g w0 wr b0 b1 vF vT vB vC F T uB uC B C){u:Nat}(h1:bB rX w' (g+1) 3 1 v' (F.length+1) (fA F++[.int .i64 (u:Int)]))(h2:dU rX (g+1) 3 wr w')(h3:v'.ownBlock=vF.ownBlock\/v'.ownBlock=some wr.heap.size)(h4:∀k,k<wr.heap.size->vF.ownBlock≠some k->w'.heap[k]?=wr.heap[k]?):JV g w0 (w'.setCell ⟨g,2,none⟩ v') b0 b1 v' vT vB vC (F++[u]) T uB uC B C:=by
 have hb:=h2.blk _ _ _ m.blk (by decide);have hT:=m.oT.apart h4 fun k hk hc=>m.ap k hc hk;have hB:=m.oB.keepsI h2;have hC:=m.oC.keepsI h2;have d8:F.length+1=(F++[u]).length:=by simp
 have aEM:fA F++[.int .i64 (u:Int)]=fA (F++[u]):=by unfold fA;rw[List.map_append];rfl
 rw[d8,aEM] at h1;exact⟨by have:=hb.set_ 2 v';simpa using this,h1.far hb (by decide),hT.far hb (by decide),hB.far hb (by decide) (y:=vF) rfl m.oF.ni,hC.far hb (by decide) (y:=vF) rfl m.oF.ni,DN m.ap m.oT h3,m.aq,(m.low.trans (h2.low.mono (Nat.le_succ g))).setCell lR _⟩
theorem JV.appT(m:JV g w0 wr b0 b1 vF vT vB vC F T uB uC B C){u:Nat}(h1:bB rX w' (g+1) 3 1 v' (T.length+1) (fA T++[.int .i64 (u:Int)]))(h2:dU rX (g+1) 3 wr w')(h3:v'.ownBlock=vT.ownBlock\/v'.ownBlock=some wr.heap.size)(h4:∀k,k<wr.heap.size->vT.ownBlock≠some k->w'.heap[k]?=wr.heap[k]?):JV g w0 (w'.setCell ⟨g,3,none⟩ v') b0 b1 vF v' vB vC F (T++[u]) uB uC B C:=by
 have hb:=h2.blk _ _ _ m.blk (by decide);have hF:=m.oF.apart h4 fun k hk hc=>m.ap k hk hc;have hB:=m.oB.keepsI h2;have hC:=m.oC.keepsI h2;have d8:T.length+1=(T++[u]).length:=by simp
 have aEM:fA T++[.int .i64 (u:Int)]=fA (T++[u]):=by unfold fA;rw[List.map_append];rfl
 rw[d8,aEM] at h1;have hap:∀k,vF.ownBlock=some k->v'.ownBlock≠some k:=fun k hk hc=>DN (v:=vT) (fun k h1 h2=>m.ap k h2 h1) m.oF h3 k hc hk;exact⟨by have:=hb.set_ 3 v';simpa using this,hF.far hb (by decide),h1.far hb (by decide),hB.far hb (by decide) (y:=vT) rfl m.oT.ni,hC.far hb (by decide) (y:=vT) rfl m.oT.ni,hap,m.aq,(m.low.trans (h2.low.mono (Nat.le_succ g))).setCell lR _⟩
theorem JV.appB(m:JV g w0 wr b0 b1 vF vT vB vC F T uB uC B C){q:Rat}(hq:cU wr wr.heap.size q u)(h1:bB o9 w' (g+1) 115 4 v' (uB.length+1) (fI uB++u.cells))(h2:dU o9 (g+1) 115 wr w')(h3:v'.ownBlock=vB.ownBlock\/v'.ownBlock=some wr.heap.size)(h4:∀k,k<wr.heap.size->vB.ownBlock≠some k->w'.heap[k]?=wr.heap[k]?):JV g w0 (w'.setCell ⟨g,4,none⟩ v') b0 b1 vF vT v' vC F T (uB++[u]) uC (B++[q]) C:=by
 have hb:=h2.blk _ _ _ m.blk (by decide);have hB:=m.oB.app hq h1 h2;have hC:=m.oC.apart h2 h4 fun k hk hc=>m.aq k hc hk;exact⟨by have:=hb.set_ 4 v';simpa using this,(m.oF.blk h2 (by decide)).far hb (by decide),(m.oT.blk h2 (by decide)).far hb (by decide),hB.far hb (by decide) (y:=vB) rfl m.oB.own.ni,hC.far hb (by decide) (y:=vB) rfl m.oB.own.ni,m.ap,DN m.aq m.oC.own h3,(m.low.trans (h2.low.mono (Nat.le_succ g))).setCell lR _⟩
theorem JV.appC(m:JV g w0 wr b0 b1 vF vT vB vC F T uB uC B C){q:Rat}(hq:cU wr wr.heap.size q u)(h1:bB o9 w' (g+1) 115 4 v' (uC.length+1) (fI uC++u.cells))(h2:dU o9 (g+1) 115 wr w')(h3:v'.ownBlock=vC.ownBlock\/v'.ownBlock=some wr.heap.size)(h4:∀k,k<wr.heap.size->vC.ownBlock≠some k->w'.heap[k]?=wr.heap[k]?):JV g w0 (w'.setCell ⟨g,5,none⟩ v') b0 b1 vF vT vB v' F T uB (uC++[u]) B (C++[q]):=by
 have hb:=h2.blk _ _ _ m.blk (by decide);have hC:=m.oC.app hq h1 h2;have hB:=m.oB.apart h2 h4 fun k hk hc=>m.aq k hk hc;have haq:∀k,vB.ownBlock=some k->v'.ownBlock≠some k:=fun k hk hc=>DN (v:=vC) (fun k h1 h2=>m.aq k h2 h1) m.oB.own h3 k hc hk;exact⟨by have:=hb.set_ 5 v';simpa using this,(m.oF.blk h2 (by decide)).far hb (by decide),(m.oT.blk h2 (by decide)).far hb (by decide),hB.far hb (by decide) (y:=vC) rfl m.oC.own.ni,hC.far hb (by decide) (y:=vC) rfl m.oC.own.ni,m.ap,haq,(m.low.trans (h2.low.mono (Nat.le_succ g))).setCell lR _⟩
theorem aAQ(b0 b1:Value):JV w.heap.size w (w.alloc (.cells #[b0,b1,.slice none 0 0,.slice none 0 0,.slice none 0 0,.slice none 0 0,.slice none 0 0,.slice none 0 0] 122)) b0 b1 (.slice none 0 0) (.slice none 0 0) (.slice none 0 0) (.slice none 0 0) [] [] [] [] [] []:=
 ⟨aD.new _ _ _,dI _ _ _ _ _,dI _ _ _ _ _,kC _ _,kC _ _,fun k h=>(by cases h),fun k h=>(by cases h),bA⟩
end
end
section
open Go.ChangeShapes Go.WideShapes Go.ChangeAt Go.RowKit Go.Maps
def iY(w:Wo)(b n:Nat)(l:List Nat):Prop:=
 ∃D:DataW Unit,w.ownsMap Tryz.prog 3 (plainElem Tryz.prog 4) b n D/\IsMap D/\∀s:Nat,D.atKey (.int .i64 (s:Int)) (.lit (.bool false))=.lit (.bool (l.any fun x=>x == s))
theorem iY.lt(h:iY w b n l):b<w.heap.size:=by obtain⟨D,h1,_⟩:=h;exact h1.lt
theorem iY.kept{row:Option Nat}(h:iY w b n l)(hg:w.grownBy w' row)(cG:some b≠row):iY w' b n l:=by
 obtain⟨D,h1,h2⟩:=h;exact⟨D,h1.kept hg cG,h2⟩
theorem iY.below(h:iY w b n l)(hb:Below w.heap.size w w'):iY w' b n l:=h.kept (row:=none) ⟨hb.os,hb.tape,hb.output,hb.size,fun k hk _=>hb.block k hk⟩ (by simp)
theorem iY.made(w:Wo):iY (w.alloc (.map #[] 0)) w.heap.size 0 []:=⟨.map [],World.ownsMap_made _ _ _ _,⟨[],rfl⟩,fun s=>rfl⟩
theorem rH:Keyed Tryz.prog 3:=int_keyed Tryz.underlying3
theorem iY.put{w:Wo}{b n:Nat}{l:List Nat}{D:DataW Unit}(s:Nat)(h1:w.ownsMap Tryz.prog 3 (plainElem Tryz.prog 4) b (n+1) (D.put (.int .i64 (s:Int)) (.lit (.bool true))))(h2:IsMap D)(h3:∀s:Nat,D.atKey (.int .i64 (s:Int)) (.lit (.bool false))=.lit (.bool (l.any fun x=>x == s))):iY w b (n+1) (l++[s]):=by
 refine⟨_,h1,?_,fun t=>?_⟩
 ·obtain⟨es,rfl⟩:=h2
  exact⟨_,rfl⟩
 ·by_cases hts:t=s
  ·subst hts
   rw[atKey_put_same h2 (k:=.int .i64 (t:Int)) trivial];simp
  ·rw[atKey_put_other (fun e=>hts (by injection e with _ e;omega)),h3,List.any_append]
   have:(s == t)=false:=by simp;omega
   simp[this]
theorem aAp(hk:k<l.length):((l.take k).any fun x=>x == l.getD k 0)=fK l k:=by
 unfold fK aLL T2;rw[Bool.not_not,Bool.eq_iff_iff,List.any_eq_true,List.any_eq_true]
 constructor
 ·rintro⟨y,hy,he⟩
  obtain⟨i,hi⟩:=List.mem_iff_getElem?.1 hy;have AR:i<k:=by have:=(cY.1 hi).1;rw[jN] at this;omega
  rw[List.getElem?_take_of_lt AR] at hi;refine⟨i,List.mem_range.2 AR,?_⟩;rw[dH,hi];exact he
 ·rintro⟨a,ha,he⟩
  have hak:=List.mem_range.1 ha;obtain⟨y,hy⟩:∃y,l[a]?=some y:=eE (by omega);refine⟨y,bS (i:=a) (by rw[List.getElem?_take_of_lt hak];exact hy),?_⟩;rw[dH,hy] at he;exact he
theorem CT(p:Nat->Bool)(n:Nat):kR p (n+1)=kR p n++if p n then[n] else[]:=by
 unfold kR;rw[List.range_succ,List.filter_append];cases h:p n<;>simp[h]
theorem AJ(ok:bJ x):e_ (gL x)=DA x/\(gL x).length=aH x:=by
 have h:=sJ (DL ok).1;refine⟨?_,by unfold gL;rw[iT];exact h.1⟩;unfold e_ gL;rw[List.map_map];have:∀l:List Int,(∀z∈l,0<=z)->l.map ((fun(v:Nat)=>(v:Int)) ∘ Int.toNat)=l:=fun l=>by
  induction l with
  | nil=>intro _;rfl
  | cons a r ih=>
   intro hl;rw[List.map_cons,ih fun z hz=>hl z (List.mem_cons_of_mem _ hz)];have:=hl a (List.mem_cons_self ..);simp[Int.toNat_of_nonneg this]
 exact this _ fun z hz=>(h.2 z hz).1
section
variable {P:Program}
theorem EY{S:Value->Prop}{ops:Array Oper}{rest:List Oper}{o:Oper}{a:Act}{Q:Exit->Act->World->Prop}{w:Wo}(yW:o.guard=none)(s x:Operand)(t:TypeId)(ho:o.op=.call { callee:=.builtin .append,args:=#[s,x],argTypes:=#[t,t] })(base:Nat)(e:TypeId)(i:TypeInfo)(z:Value)(size bytes:Nat)(ht:P.underlying t=some (.slice e))(hi:P.info? e=some i)(hz:i.zero=some z)(iG:i.size=size)(yY:i.bytes=bytes)(JL:z.cells.size=size)(hZ:0<size)(S7:∀u∈z.cells.toList,S u)(v:Value)(n:Nat)(xs:List Value)(hs:a.eval s=v)(aW:bB S w base e size v n xs)(g T:Nat)(lit:Array Value)(hx:a.eval x=.slice (some ⟨g,0,none⟩) 1 1)(hg:aD w g T lit)(hl:lit.size=size)(h1:∀u∈lit.toList,u.oneCell'=true/\S u)(uO:n+1<=maxLen)(gX:(n+1)*bytes<=140737488355328)(cD:base<=w.heap.size)(h:∀A m c w',bB S w' base e size (.slice A m c) (n+1) (xs++lit.toList)->dU S base e w w'->((Value.slice A m c).ownBlock=v.ownBlock\/(Value.slice A m c).ownBlock=some w.heap.size)->(∀k,k<w.heap.size->v.ownBlock≠some k->w'.heap[k]?=w.heap[k]?)->wpList P ops Q rest (a.put o.dst (.slice A m c)) w'):wpList P ops Q (o::rest) a w:=by
 refine wpList_plain yW fun K hK=>?_;exact nU s x t ho base e i z size bytes ht hi hz iG yY JL hZ S7 v n xs hs aW g T lit hx hg hl h1 uO gX cD fun A m c w' q1 q2 q3 q4=>hK _ _ (h A m c w' q1 q2 q3 q4)
end
structure MdZ (g:Nat) (w0 wr:Wo) (b0 b1 vF vT vB vC vZ:Value) (F T:List Nat) (uB uC:List Rv) (B C:List Rat) (Z:List Nat):Prop where
 blk:aD wr g 122 #[b0,b1,vF,vT,vB,vC,vZ,.slice none 0 0]
 oF:bB rX wr (g+1) 3 1 vF F.length (fA F)
 oT:bB rX wr (g+1) 3 1 vT T.length (fA T)
 oB:dD wr (g+1) vB uB B
 oC:dD wr (g+1) vC uC C
 oZ:bB rX wr (g+1) 3 1 vZ Z.length (fA Z)
 zF:∀k,vF.ownBlock=some k->vZ.ownBlock≠some k
 zT:∀k,vT.ownBlock=some k->vZ.ownBlock≠some k
 low:Below g w0 wr
section
variable {g:Nat} {w0 wr w':Wo} {b0 b1 vF vT vB vC vZ v':Value} {F T Z:List Nat} {uB uC:List Rv} {B C:List Rat}
theorem JV.z(m:JV g w0 wr b0 b1 vF vT vB vC F T uB uC B C):MdZ g w0 wr b0 b1 vF vT vB vC (.slice none 0 0) F T uB uC B C []:=
 ⟨m.blk,m.oF,m.oT,m.oB,m.oC,dI _ _ _ _ _,fun k _ h=>(by cases h),fun k _ h=>(by cases h),m.low⟩
theorem MdZ.up(m:MdZ g w0 wr b0 b1 vF vT vB vC vZ F T uB uC B C Z)(hb:Below wr.heap.size wr w'):MdZ g w0 w' b0 b1 vF vT vB vC vZ F T uB uC B C Z:=
 ⟨m.blk.bl hb,m.oF.keep hb,m.oT.keep hb,m.oB.keep hb,m.oC.keep hb,m.oZ.keep hb,m.zF,m.zT,m.low.trans (hb.mono (oO m.blk.lt))⟩
theorem MdZ.app(m:MdZ g w0 wr b0 b1 vF vT vB vC vZ F T uB uC B C Z){u:Nat}(h1:bB rX w' (g+1) 3 1 v' (Z.length+1) (fA Z++[.int .i64 (u:Int)]))(h2:dU rX (g+1) 3 wr w')(h3:v'.ownBlock=vZ.ownBlock\/v'.ownBlock=some wr.heap.size)(h4:∀k,k<wr.heap.size->vZ.ownBlock≠some k->w'.heap[k]?=wr.heap[k]?):MdZ g w0 (w'.setCell ⟨g,6,none⟩ v') b0 b1 vF vT vB vC v' F T uB uC B C (Z++[u]):=by
 have hb:=h2.blk _ _ _ m.blk (by decide);have hF:=m.oF.apart h4 m.zF;have hT:=m.oT.apart h4 m.zT;have hB:=m.oB.keepsI h2;have hC:=m.oC.keepsI h2;have d8:Z.length+1=(Z++[u]).length:=by simp
 have aEM:fA Z++[.int .i64 (u:Int)]=fA (Z++[u]):=by unfold fA;rw[List.map_append];rfl
 rw[d8,aEM] at h1;have hzF:∀k,vF.ownBlock=some k->v'.ownBlock≠some k:=fun k hk hc=>DN (v:=vZ) (fun k h1 h2=>m.zF k h2 h1) m.oF h3 k hc hk;have hzT:∀k,vT.ownBlock=some k->v'.ownBlock≠some k:=fun k hk hc=>DN (v:=vZ) (fun k h1 h2=>m.zT k h2 h1) m.oT h3 k hc hk;exact⟨by have:=hb.set_ 6 v';simpa using this,hF.far hb (by decide),hT.far hb (by decide),hB.far hb (by decide) (y:=vZ) rfl m.oZ.ni,hC.far hb (by decide) (y:=vZ) rfl m.oZ.ni,h1.far hb (by decide),hzF,hzT,(m.low.trans (h2.low.mono (Nat.le_succ g))).setCell lR _⟩
theorem bB.mapped{S:Value->Prop}(h:bB S w base e size v n xs)(hs:iY w b m l)(hg:w.grownBy w' (some b)):bB S w' base e size v n xs:=by
 refine⟨h.1,?_⟩;rcases h.2 with h1 | ⟨g,cap,cur,h1,h2,h3,h4⟩
 ·exact .inl h1
 ·refine .inr ⟨g,cap,cur,h1,h2,h3.grown hg (fun e=>?_),h4⟩
  injection e with e;subst e;obtain⟨D,⟨es,clock,hb,_⟩,_⟩:=hs;have h5:some (Obj.cells cur _ (0,0))=some (Obj.map es clock):=h3.symm.trans hb;cases h5
theorem iY.apart{S:Value->Prop}(hs:iY w b n l)(h:bB S w base e size v m xs):some b≠v.ownBlock:=by
 intro hb;rcases h.2 with⟨h1,_⟩ | ⟨g,cap,cur,h1,h2,h3,h4⟩
 ·rw[h1] at hb;cases hb
 ·rw[h1] at hb
  injection hb with hb;subst hb;obtain⟨D,⟨es,clock,hq,_⟩,_⟩:=hs;have h5:some (Obj.cells cur _ (0,0))=some (Obj.map es clock):=h3.symm.trans hq;cases h5
theorem XX{zs:List Int}(h:aD w g t (ints zs).toArray)(hn:zs.length=n):pK w w.heap.size (some ⟨g,0,none⟩) n zs:=
 ⟨by unfold ints;rw[iT,Nat.mul_one];exact hn,fun _=>⟨g,0,rfl,h.lt,fun j u hu=>by rw[Nat.zero_add,h.cell j];simpa using hu⟩⟩
theorem aD.mapped(h:aD w g t cs)(hs:iY w b m l)(hg:w.grownBy w' (some b)):aD w' g t cs:=by
 refine h.grown hg (fun e=>?_);injection e with e;subst e;obtain⟨D,⟨es,clock,hb,_⟩,_⟩:=hs;have h5:some (Obj.cells cs t (0,0))=some (Obj.map es clock):=h.symm.trans hb;cases h5
theorem cU.mappedI{q:Rat}{x:Rv}(h:cU w w.heap.size q x)(hs:iY w b m l)(hg:w.grownBy w' (some b)):cU w' w'.heap.size q x:=by
 have key:∀{A:OA}{n:Nat}{l:List Nat},jF w w.heap.size A n l->jF w' w'.heap.size A n l:=fun{A n l'} h=>⟨h.1,fun hn=>by
  obtain⟨b',off,e,aR,hc⟩:=h.2 hn;have cG:b'≠b:=by
   rintro rfl;have hx:0<(bN l').length:=by have:=h.1;omega
   have h0:=hc 0 _ (gS hx);obtain⟨D,⟨es,clock,hb,_⟩,_⟩:=hs;unfold World.cell? at h0;rw[hb] at h0;cases h0
  exact⟨b',off,e,kA aR hg.size,fun j u hu=>(World.cell?_of_block (a:=⟨b',off+j,none⟩) (hg.block b' aR (fun e=>by injection e;omega))).trans (hc j u hu)⟩⟩
 exact⟨⟨h.num.eb,h.num.en,key h.num.rd,h.num.nc,h.num.cm⟩,⟨h.den.eb,h.den.en,key h.den.rd,h.den.nc,h.den.cm⟩⟩
theorem MdZ.mapped(m:MdZ g w0 wr b0 b1 vF vT vB vC vZ F T uB uC B C Z)(hs:iY wr b n l)(hg:wr.grownBy w' (some b))(hb:g<b)(h0:g<=w0.heap.size):MdZ g w0 w' b0 b1 vF vT vB vC vZ F T uB uC B C Z:=
 ⟨m.blk.mapped hs hg,m.oF.mapped hs hg,m.oT.mapped hs hg,⟨m.oB.own.mapped hs hg,m.oB.len,fun i q x hq hx=>(m.oB.ok i q x hq hx).mappedI hs hg⟩,⟨m.oC.own.mapped hs hg,m.oC.len,fun i q x hq hx=>(m.oC.ok i q x hq hx).mappedI hs hg⟩,m.oZ.mapped hs hg,m.zF,m.zT,y_ m.low hg (oO hb) h0⟩
theorem GX(h:bB rX w base 3 1 v l.length (fA l)):∃A c,v=.slice A l.length c/\pK w w.heap.size A l.length (e_ l):=by
 obtain⟨A,c,hv,hr,_⟩:=oV h.own;refine⟨A,c,hv,?_⟩;have:ints (e_ l)=fA l:=by unfold ints e_ fA;rw[List.map_map];rfl
 unfold pK;rw[this];exact hr
end
end
section
open Go.ChangeShapes Go.WideShapes Go.ChangeAt Go.RowKit Go.Maps
attribute [local go_sem ↓] aE
attribute [local go_sem] aL aK aO a_ bZ.cells
def OfP(x:bK)(w:Wo)(e:Ending)(w':Wo):Prop:=Below w.heap.size w w'/\∃(g:Nat)(m:iC)(A:OA)(n c:Nat),e=.returned (.pointer (some ⟨g,0,none⟩))/\w.heap.size<=g/\aD w' g 122 (m.cells (.slice A n c))/\eK w' w'.heap.size m x/\(aAU x->n=(aA x).length/\jP w' w'.heap.size A n (yP x))
theorem gJ{α:Type}{l:List α}{x:α}(h:l[k]?=some x):l.take (k+1)=l.take k++[x]:=pN h
theorem jW{b:Br}(h:x.brs[k]?=some b):(hO x)[k]?=some (aG x b.fr)/\(BR x)[k]?=some (aG x b.to)/\(mB x)[k]?=some (dB b)/\(mC x)[k]?=some (jD b):=by
 unfold hO BR mB mC KH;simp[h]
theorem I1{b:Br}(h:b.bad=false):1<=b.x/\b.x<=10000/\500<=b.tap/\b.tap<=1500/\-1000<=b.shift/\b.shift<=1000:=by
 unfold Br.bad at h;simp only[Bool.or_eq_false_iff] at h;obtain⟨⟨⟨⟨⟨a1,a2⟩,a3⟩,_⟩,_⟩,_⟩:=h;unfold lK at a1 a2 a3;have:=of_decide_eq_false a1;have:=of_decide_eq_false a2;have:=of_decide_eq_false a3;omega
theorem KX{b:Br}(h:b.bad=false):bE (Rat.divInt (-b.shift) 1000)<=1:=by
 have h1:=I1 h;unfold bE;rw[show(1000:Int)=((1000:Nat):Int) from rfl,(nH (-b.shift) (by decide)).2,(sE (-b.shift) (by decide)).1];refine Nat.max_le.2 ⟨kI ?_,kI ?_⟩
 ·refine zT_ (Nat.div_le_self ..) ?_
  show _<4294967296^1;omega
 ·refine zT_ (Nat.div_le_self ..) ?_
  show _<4294967296^1;decide
theorem tS(h:bZ)(x:bK)(ok:bJ x)(h8:x.nodes.length<=8)(w:Wo)(r:cL w w.heap.size h x):Calls Tryz.prog 55 #[.agg h.cells] w (OfP x w):=by
 have K0:=jO w (.cells h.cells 29);obtain⟨HK,HX,HRN,bM,H8⟩:=iS K0 (aD.new w 29 h.cells) r ok h8;have HGT:=lH (YT h x ok _ (r.up K0));have HL2:Hid (x.brs.length=h.n2):=lH r.r2.1;have HL0:Hid (x.nodes.length=h.n0):=lH r.r0.1;have wM:h.n2<=24:=by rw[<-HL2.o];exact ok.l2
 have VJ:h.n0<=24:=by rw[<-HL0.o];exact ok.l0
 obtain⟨i0,iW,qY,kF,kE⟩:=info_parts LJ;obtain⟨ES,wX,KN,KM⟩:=h_ iW qY kF kE;obtain⟨i1,ri0,rz0,rz1,rz2⟩:=pP;obtain⟨RI0,RI1,RI2,RI3⟩:=h_ ri0 rz0 rz1 rz2;clear K0 r ok h8 iW qY kF kE ri0 rz0 rz1 rz2;obtain⟨A0,m0,c0,A1,m1,c1,A2,m2,c2,A3,m3,c3,A4,m4,c4,A5,m5,c5⟩:=h;simp only[bZ.cells] at HK HX HGT HL2 HL0 wM VJ ⊢;go_enter Tryz.func55,Tryz.ntmps55
 go_upto_region 1 with fail
 generalize w.alloc (.cells #[.slice A0 m0 c0,.slice A1 m1 c1,.slice A2 m2 c2,.slice A3 m3 c3,.slice A4 m4 c4,.slice A5 m5 c5] 29)=W at *;obtain⟨y0,y1,y2,y3,y4,y5,E8⟩:=HX.o.b6
 go_wp2_with fail
 refine HGT.o.mono ?_;clear y0 y1 y2 y3 y4 y5 E8 HGT;rintro e w1 ⟨bO,g1,g2,rfl,RC,lM,aQ6,aFe⟩;have cI:=cJ HK bO;obtain⟨fB,OW,yB⟩:=dZ (HX.o.bl bO) aQ6 aFe;have HGG:Hid (W.heap.size<=g1/\W.heap.size<=g2/\w.heap.size<W.heap.size):=lH ⟨RC,lM,HX.o.lt⟩;clear bO HK HX aQ6 aFe RC lM
 go_upto_region 2 with fail
 have SV:=lH (aAQ (w:=w1) (.slice (some ⟨g1,0,none⟩) m0 m0) (.slice (some ⟨g2,0,none⟩) (aH x) (aH x)));have gT:=lH ((Below.refl w1.heap.size w1).alloc lR (.cells #[.slice (some ⟨g1,0,none⟩) m0 m0,.slice (some ⟨g2,0,none⟩) (aH x) (aH x),.slice none 0 0,.slice none 0 0,.slice none 0 0,.slice none 0 0,.slice none 0 0,.slice none 0 0] 122));have gG:=lH (fB.o.bl gT.o);generalize w1.alloc (.cells #[.slice (some ⟨g1,0,none⟩) m0 m0,.slice (some ⟨g2,0,none⟩) (aH x) (aH x),.slice none 0 0,.slice none 0 0,.slice none 0 0,.slice none 0 0,.slice none 0 0,.slice none 0 0] 122)=w2 at *;generalize hgq:w1.heap.size=g at *;have HG:=lH hgq;clear hgq;have JZ:Hid (w.heap.size<g/\w.heap.size<=g):=lH (by have:=HGG.o.2.2;have:=fB.o.lt;have:=HG.o;omega);have y2:=gG.o.cell 2;have yl:=gG.o.lt
 go_wp2_with fail
 clear y2 yl gT gG
 go_loopw [17] (fun v17 wr=>∃(k:Nat)(vF vT vB vC:Value)(uB uC:List Rv),k<=m2/\v17=.int .i64 k/\JV g w1 wr (.slice (some ⟨g1,0,none⟩) m0 m0) (.slice (some ⟨g2,0,none⟩) (aH x) (aH x)) vF vT vB vC ((hO x).take k) ((BR x).take k) uB uC ((mB x).take k) ((mC x).take k)) (fun v17 _=>m2-(intOf v17).toNat)
 case atStart=>exact⟨0,_,_,_,_,_,_,by omega,rfl,SV.o⟩
 case round=>
  clear SV;obtain⟨k,vF,vT,vB,vC,uB,uC,hk,rfl,hm⟩:=hrel;have HM:=lH hm;have HW:Hid (Below w.heap.size w wr):=lH (cI.o.trans (hm.low.mono JZ.o.2));have tC:=lH (HRN.o.up HW.o);have HXR:=lH (fB.o.below hm.low (by have:=JZ.o.1;omega));clear hm;by_cases aR:k<m2
  ·obtain⟨s,hs⟩:∃s,x.brs[k]?=some s:=eE (by have:=HL2.o;omega)
   obtain⟨b,off,hA,hb⟩:=tC.o.r2.form (show 0<m2 by omega);simp only at hA;subst hA;obtain⟨a0,a1,a2,a3,a4,a5,a6,a7,a8⟩:=tC.o.r2.at_ hs;obtain⟨t1,t2,t3,t4⟩:=jW hs;obtain⟨OV,F2,HT3,HT4,qW⟩:=iS (gJ t1) (gJ t2) (gJ t3) (gJ t4) (bM.o.br s (bS hs));have f_:(k:Int)<(m2:Int):=by omega
   have eY:=lN k;have iD:Hid (m2-(k+1)<m2-k):=lH (by omega);have J0:Hid (((hO x).take k).length<=24/\((BR x).take k).length<=24/\((mB x).take k).length<=24/\((mC x).take k).length<=24):=lH (by simp only[jN];omega);clear hs t1 t2 t3 t4;(go_upto_region 5 with fail);clear a0 a1 a2 a3 a4 a5 a6 a7 a8 hb;generalize EC:wr.alloc (.cells #[.string s.name,.string s.fr,.string s.to,.int .i64 s.x,.int .i64 s.tap,.int .i64 s.shift,.int .i64 s.limit,.int .i64 s.short,.int .i64 s.hold] 54)=wa;have qM:Below wr.heap.size wr wa:=by rw[<-EC];exact bA
   have HS:Hid (aD wa wr.heap.size 54 #[.string s.name,.string s.fr,.string s.to,.int .i64 s.x,.int .i64 s.tap,.int .i64 s.shift,.int .i64 s.limit,.int .i64 s.short,.int .i64 s.hold]):=lH (by rw[<-EC];exact aD.new wr _ _);have HGX:Hid (g<wr.heap.size):=lH HM.o.blk.lt;replace HM:=lH (HM.o.up qM);clear EC qM tC HXR HW;generalize wr.heap.size=gx at *;have HW:Hid (Below w.heap.size w wa):=lH (cI.o.trans (HM.o.low.mono JZ.o.2));have HXR:=lH (fB.o.below HM.o.low (by have:=JZ.o.1;omega));have tC:=lH ((HRN.o.up HW.o).r0);have hbo:=bU bM.o qW.o.1;have JT:=tH (OW.o.below HM.o.low (by have:=OW.o.lt;have:=HG.o;omega)) hbo.2.2;rw[hbo.1] at JT;have HIX:Hid (dF x.nodes s.fr<m0):=lH (by have:=hbo.2.2;rw[(mU bM.o).1] at this;have:=HL0.o;omega);have DU:=lH (CW qW.o.1);generalize dF x.nodes s.fr=ix at *;clear hbo;have hix:=HIX.o;have tO:(ix:Int)<(m0:Int):=by omega
   have tP:=lZ ix;have tN:=jM ix;have z0:=HM.o.blk.cell 0;have z2:=HM.o.blk.cell 2;have zl:=HM.o.blk.lt;obtain⟨x0,xl⟩:=HXR.o.b1;have s1:=HS.o.cell 1;have sl:=HS.o.lt;have gl1:g1<wa.heap.size:=by have:=OW.o.lt;have:=HG.o;omega
   have bP:=lH (aI (Below.refl wa.heap.size wa));refine kB (S:=fun w'=>Below wa.heap.size wa w') 17 0 _ _ _ _ _ (.pointer (some ⟨g,0,none⟩)) (by kernel_rfl) (by kernel_rfl) (by kernel_rfl) (by kernel_rfl) (by kernel_rfl) rfl (by decide) (by kernel_rfl) rfl rfl rfl rfl (by kernel_rfl) (fun _ _ _ h=>h) (by rfl) (fun w'=>by go_simp<;>with_reducible rfl) (aI bR) (fun hHeld=>?_);simp only[m_,List.take_zero];(try simp only[Act.put,fZ,fY,fX]);refine cR [1,2,3,4,5,6,7,8,9,10,11,12,13] ?_;refine bI 14 (fun K hK=>?_);go_simp;refine(kD A0 m0 c0 x.nodes s.fr wa.drew (tC.o.bm bP.o) (by omega)).mono ?_;rintro e w8 ⟨rfl,rfl⟩;rw[DU.o];go_simp;refine iB hK bP.o (fun hHeld=>?_);clear hK K;refine cR [15,16] ?_;refine bI 17 (fun K hK=>?_);go_simp;refine hK.out _ _ ?_ (fun hHeld=>?_)
   ·exact bP.o.alloc lR _
   clear hK K;(try simp only[Act.put,fZ,fY,fX]);refine eP ?_;clear hHeld;generalize E_:aG x s.fr=bu at *;have qL:Below wa.heap.size wa (wa.alloc (.cells #[.int .i64 (bu:Int)] 3)).drew:=aI (bA);have uK:Hid (aD (wa.alloc (.cells #[.int .i64 (bu:Int)] 3)).drew wa.heap.size 3 #[.int .i64 (bu:Int)]):=lH (aD.new wa _ _).drew;replace HM:=lH (HM.o.up qL);replace HS:=lH (HS.o.bl qL);have TL:=lH E_;clear z0 z2 zl x0 xl s1 sl gl1 JT hix tO tP tN HIX DU tC HXR HW bP qL E_;generalize (wa.alloc (.cells #[.int .i64 (bu:Int)] 3)).drew=wl at *;generalize wa.heap.size=gq at *;refine nU (S:=rX) (.tmp 25) (.tmp 38) 30 rfl (g+1) 3 i0 _ 1 8 Tryz.underlying30 ES.o wX.o KN.o KM.o rfl (by omega) Z2 vF _ _ (by rfl) HM.o.oF gq 3 #[.int .i64 (bu:Int)] (by rfl) uK.o rfl ?k1 ?k2 ?k3 ?k4 ?_
   case k1=>intro u hu;rw[show u=.int .i64 (bu:Int) from by simpa using hu];exact⟨rfl,_,rfl⟩
   case k2=>have:=J0.o.1;simp only[maxLen];omega
   case k3=>have:=J0.o.1;omega
   case k4=>exact HM.o.blk.lt
   intro pA pn pc w9 q1 q2 q3 q4;have hm9:=HM.o.appF q1 q2 q3 q4;have gD:=q2.blk _ _ _ HM.o.blk (by decide);have VE:=q2.blk _ _ _ HS.o (by decide);have HMN:=lH hm9;have WV:=lH (VE.far (p:=⟨g,2,none⟩) (by have:=HGX.o;show gx≠g;omega) (.slice pA pn pc));have p2:=gD.cell 2;have pl:=gD.lt;have pf:=gD.frozen;clear q1 q2 q3 q4 hm9 gD VE HM HS uK;refine c_ (by rfl) ?_;go_simp;refine c_ (by rfl) ?_;go_simp;refine c_ (by rfl) ?_;(go_upto_region 6 with fail);clear p2 pl pf;generalize w9.setCell ⟨g,2,none⟩ (.slice pA pn pc)=wb at *;have HM:Hid (JV g w1 wb _ _ _ _ _ _ _ _ _ _ _ _):=HMN;have HS:=WV;rw[<-OV.o] at HM;clear HMN WV TL;generalize Value.slice pA pn pc=vF2 at *;have HW:Hid (Below w.heap.size w wb):=lH (cI.o.trans (HM.o.low.mono JZ.o.2));have HXR:=lH (fB.o.below HM.o.low (by have:=JZ.o.1;omega));have tC:=lH ((HRN.o.up HW.o).r0);have hbo:=bU bM.o qW.o.2.1;have JT:=tH (OW.o.below HM.o.low (by have:=OW.o.lt;have:=HG.o;omega)) hbo.2.2;rw[hbo.1] at JT;have HIX:Hid (dF x.nodes s.to<m0):=lH (by have:=hbo.2.2;rw[(mU bM.o).1] at this;have:=HL0.o;omega);have DU:=lH (CW qW.o.2.1);generalize dF x.nodes s.to=ix at *;clear hbo;have hix:=HIX.o;have tO:(ix:Int)<(m0:Int):=by omega
   have tP:=lZ ix;have tN:=jM ix;have z0:=HM.o.blk.cell 0;have z2:=HM.o.blk.cell 3;have zl:=HM.o.blk.lt;obtain⟨x0,xl⟩:=HXR.o.b1;have s1:=HS.o.cell 2;have sl:=HS.o.lt;have gl1:g1<wb.heap.size:=by have:=OW.o.lt;have:=HG.o;omega
   have bP:=lH (aI (Below.refl wb.heap.size wb));refine kB (S:=fun w'=>Below wb.heap.size wb w') 17 0 _ _ _ _ _ (.pointer (some ⟨g,0,none⟩)) (by kernel_rfl) (by kernel_rfl) (by kernel_rfl) (by kernel_rfl) (by kernel_rfl) rfl (by decide) (by kernel_rfl) rfl rfl rfl rfl (by kernel_rfl) (fun _ _ _ h=>h) (by rfl) (fun w'=>by go_simp<;>with_reducible rfl) (aI bR) (fun hHeld=>?_);simp only[m_,List.take_zero];(try simp only[Act.put,fZ,fY,fX]);refine cR [1,2,3,4,5,6,7,8,9,10,11,12,13] ?_;refine bI 14 (fun K hK=>?_);go_simp;refine(kD A0 m0 c0 x.nodes s.to wb.drew (tC.o.bm bP.o) (by omega)).mono ?_;rintro e w8 ⟨rfl,rfl⟩;rw[DU.o];go_simp;refine iB hK bP.o (fun hHeld=>?_);clear hK K;refine cR [15,16] ?_;refine bI 17 (fun K hK=>?_);go_simp;refine hK.out _ _ ?_ (fun hHeld=>?_)
   ·exact bP.o.alloc lR _
   clear hK K;(try simp only[Act.put,fZ,fY,fX]);refine eP ?_;clear hHeld;generalize E_:aG x s.to=bu at *;have qL:Below wb.heap.size wb (wb.alloc (.cells #[.int .i64 (bu:Int)] 3)).drew:=aI (bA);have uK:Hid (aD (wb.alloc (.cells #[.int .i64 (bu:Int)] 3)).drew wb.heap.size 3 #[.int .i64 (bu:Int)]):=lH (aD.new wb _ _).drew;replace HM:=lH (HM.o.up qL);replace HS:=lH (HS.o.bl qL);have TL:=lH E_;clear z0 z2 zl x0 xl s1 sl gl1 JT hix tO tP tN HIX DU tC HXR HW bP qL E_;generalize (wb.alloc (.cells #[.int .i64 (bu:Int)] 3)).drew=wl at *;generalize wb.heap.size=gq at *;refine nU (S:=rX) (.tmp 46) (.tmp 59) 30 rfl (g+1) 3 i0 _ 1 8 Tryz.underlying30 ES.o wX.o KN.o KM.o rfl (by omega) Z2 vT _ _ (by rfl) HM.o.oT gq 3 #[.int .i64 (bu:Int)] (by rfl) uK.o rfl ?k1 ?k2 ?k3 ?k4 ?_
   case k1=>intro u hu;rw[show u=.int .i64 (bu:Int) from by simpa using hu];exact⟨rfl,_,rfl⟩
   case k2=>have:=J0.o.2.1;simp only[maxLen];omega
   case k3=>have:=J0.o.2.1;omega
   case k4=>exact HM.o.blk.lt
   intro pA pn pc w9 q1 q2 q3 q4;have hm9:=HM.o.appT q1 q2 q3 q4;have gD:=q2.blk _ _ _ HM.o.blk (by decide);have VE:=q2.blk _ _ _ HS.o (by decide);have HMN:=lH hm9;have WV:=lH (VE.far (p:=⟨g,3,none⟩) (by have:=HGX.o;show gx≠g;omega) (.slice pA pn pc));have p2:=gD.cell 3;have pl:=gD.lt;have pf:=gD.frozen;clear q1 q2 q3 q4 hm9 gD VE HM HS uK;refine c_ (by rfl) ?_;go_simp;refine c_ (by rfl) ?_;go_simp;refine c_ (by rfl) ?_;(go_upto_region 7 with fail);clear p2 pl pf;generalize w9.setCell ⟨g,3,none⟩ (.slice pA pn pc)=wc at *;have HM:Hid (JV g w1 wc _ _ _ _ _ _ _ _ _ _ _ _):=HMN;have HS:=WV;rw[<-F2.o] at HM;clear HMN WV TL;generalize Value.slice pA pn pc=vT2 at *;have FA:=I1 qW.o.2.2.2;have aEP:s.x*s.tap<=10000*1500:=Int.mul_le_mul FA.2.1 FA.2.2.2.1 (by omega) (by omega);have aQr:1*500<=s.x*s.tap:=Int.mul_le_mul FA.1 FA.2.2.1 (by omega) (by omega);have HXT:=lH (aFt 1000000 (s.x*s.tap) wc (by decide) (by decide) (by omega) (by omega) (by omega));have hw1:IntKind.i64.wrap (s.x*s.tap)=s.x*s.tap:=IntWalk.i64_in _ (by omega);have hsh:IntKind.i64.wrap (-s.shift)=-s.shift:=IntWalk.i64_in _ (by omega);have HSH:=lH hsh;have HSF:=lH (fun w'=>aFt (-s.shift) 1000 w' (by omega) (by omega) (by decide) (by decide) (by decide));have s3:=HS.o.cell 3;have s4:=HS.o.cell 4;have sl:=HS.o.lt;generalize hxt:s.x*s.tap=xt at *;have HXE:=lH hxt;(go_wp2_with fail);refine HXT.o.mono ?_;rintro e w10 ⟨NV,v10,rfl,h10⟩;clear s3 s4 sl HXT aEP aQr hw1 FA hsh hxt;have vS:Hid (cU w10 w10.heap.size (dB s) v10):=lH (by unfold dB;rw[HXE.o];exact h10);replace HM:=lH (HM.o.up NV);replace HS:=lH (HS.o.bl NV);clear NV h10;(go_upto_region 8 with fail);have kZ:=jO w10 (.cells #[.bool v10.b1,.slice v10.A v10.n v10.c,.bool v10.b2,.slice v10.A2 v10.m v10.d] 115);have fO:=lH (aD.new w10 115 #[.bool v10.b1,.slice v10.A v10.n v10.c,.bool v10.b2,.slice v10.A2 v10.m v10.d]);have HNE:Hid (∀k,vB.ownBlock=some k->k<w10.heap.size):=lH fun k hk=>(HM.o.oB.own.lt hk).2;have HGY:Hid (g<w10.heap.size):=lH HM.o.blk.lt;replace HM:=lH (HM.o.up kZ);replace HS:=lH (HS.o.bl kZ);replace vS:=lH (vS.o.up kZ);clear kZ HXE;generalize w10.alloc (.cells #[.bool v10.b1,.slice v10.A v10.n v10.c,.bool v10.b2,.slice v10.A2 v10.m v10.d] 115)=wd at *;generalize w10.heap.size=gy at *;have z4:=HM.o.blk.cell 4;have zl:=HM.o.blk.lt;obtain⟨b0,b1,b2,b3,bl⟩:=fO.o.b4
   have bP:=lH (aI (Below.refl wd.heap.size wd));refine kB (S:=fun w'=>Below wd.heap.size wd w') 6 0 _ _ _ _ _ (.pointer (some ⟨g,0,none⟩)) (by kernel_rfl) (by kernel_rfl) (by kernel_rfl) (by kernel_rfl) (by kernel_rfl) rfl (by decide) (by kernel_rfl) rfl rfl rfl rfl (by kernel_rfl) (fun _ _ _ h=>h) (by rfl) (fun w'=>by go_simp<;>with_reducible rfl) (aI bR) (fun hHeld=>?_);simp only[m_,List.take_zero];(try simp only[Act.put,fZ,fY,fX]);refine cR [1,2,3,4,5] ?_;refine bI 6 (fun K hK=>?_);go_simp;refine hK.out _ _ ?_ (fun hHeld=>?_)
   ·exact bP.o.alloc bP.o.size _
   clear hK K;(try simp only[Act.put,fZ,fY,fX]);refine eP ?_;clear hHeld;have qL:Below wd.heap.size wd ((wd.alloc (.cells #[.bool v10.b1,.slice v10.A v10.n v10.c,.bool v10.b2,.slice v10.A2 v10.m v10.d] 115)).drew):=aI (bA);have uK:Hid (aD ((wd.alloc (.cells #[.bool v10.b1,.slice v10.A v10.n v10.c,.bool v10.b2,.slice v10.A2 v10.m v10.d] 115)).drew) wd.heap.size 115 #[.bool v10.b1,.slice v10.A v10.n v10.c,.bool v10.b2,.slice v10.A2 v10.m v10.d]):=lH (aD.new wd _ _).drew;replace HM:=lH (HM.o.up qL);replace HS:=lH (HS.o.bl qL);replace fO:=lH (fO.o.bl qL);replace vS:=lH (vS.o.up qL);have HVU:=vS;clear z4 zl b0 b1 b2 b3 bl bP qL;generalize (wd.alloc (.cells #[.bool v10.b1,.slice v10.A v10.n v10.c,.bool v10.b2,.slice v10.A2 v10.m v10.d] 115)).drew=wl at *;generalize wd.heap.size=gq at *;refine nU (S:=o9) (.tmp 73) (.tmp 75) 93 rfl (g+1) 115 i1 _ 4 64 Tryz.underlying93 RI0.out RI1.out RI2.out RI3.out rfl (by omega) uS vB _ _ (by rfl) HM.o.oB.own gq 115 #[.bool v10.b1,.slice v10.A v10.n v10.c,.bool v10.b2,.slice v10.A2 v10.m v10.d] (by rfl) uK.o rfl ?k1 ?k2 ?k3 ?k4 ?_
   case k1=>exact CL v10
   case k2=>have:=HM.o.oB.len;have:=J0.o.2.2.1;simp only[maxLen];omega
   case k3=>have:=HM.o.oB.len;have:=J0.o.2.2.1;omega
   case k4=>exact HM.o.blk.lt
   intro pA pn pc w9 q1 q2 q3 q4;have hm9:=HM.o.appB HVU.o q1 q2 q3 q4;have gD:=q2.blk _ _ _ HM.o.blk (by decide);have VE:=q2.blk _ _ _ HS.o (by decide);have HMN:=lH hm9;have WV:=lH (VE.far (p:=⟨g,4,none⟩) (by have:=HGX.o;show gx≠g;omega) (.slice pA pn pc));have IK:aD w9 gy 115 #[.bool v10.b1,.slice v10.A v10.n v10.c,.bool v10.b2,.slice v10.A2 v10.m v10.d]:=(q4 gy fO.o.lt (fun hc=>absurd (HNE.o gy hc) (Nat.lt_irrefl _))).trans fO.o;have aYX:=lH (IK.far (p:=⟨g,4,none⟩) (by have:=HGY.o;show gy≠g;omega) (.slice pA pn pc));have HV9:=lH ((cU.keeps vS.o q2).keep1 (i:=4) gD (y:=vB) rfl HM.o.oB.own.ni (.slice pA pn pc));have p2:=gD.cell 4;have pl:=gD.lt;have pf:=gD.frozen;clear q1 q2 q3 q4 hm9 gD VE HM HS uK HVU fO vS IK;refine c_ (by rfl) ?_;go_simp;refine c_ (by rfl) ?_;go_simp;refine c_ (by rfl) ?_;(go_upto_region 9 with fail);clear p2 pl pf;generalize w9.setCell ⟨g,4,none⟩ (.slice pA pn pc)=we at *;have HM:Hid (JV g w1 we _ _ _ _ _ _ _ _ _ _ _ _):=HMN;have HS:=WV;have fO:=aYX;have vS:=HV9;rw[<-HT3.o] at HM;clear HMN WV aYX HV9;generalize Value.slice pA pn pc=vB2 at *;have HQM:Hid (bE (dB s)+bE (Rat.divInt (-s.shift) 1000)+1<=35184372088832):=lH (by have:=o_ qW.o.2.2.2;have:=KX qW.o.2.2.2;omega);have z4:=HM.o.blk.cell 5;have zl:=HM.o.blk.lt;obtain⟨b0,b1,b2,b3,bl⟩:=fO.o.b4;have s5:=HS.o.cell 5;have sl:=HS.o.lt;have bP:=lH (aI (Below.refl we.heap.size we));refine kB (S:=fun w'=>Below we.heap.size we w') 11 0 _ _ _ _ _ (.pointer (some ⟨g,0,none⟩)) (by kernel_rfl) (by kernel_rfl) (by kernel_rfl) (by kernel_rfl) (by kernel_rfl) rfl (by decide) (by kernel_rfl) rfl rfl rfl rfl (by kernel_rfl) (fun _ _ _ h=>h) (by rfl) (fun w'=>by go_simp<;>with_reducible rfl) (aI bR) (fun hHeld=>?_);simp only[m_,List.take_zero];(try simp only[Act.put,fZ,fY,fX]);refine cR [1,2,3,4,5,6,7,8] ?_;refine bI 9 (fun K hK=>?_);go_simp;rw[HSH.o];refine(HSF.o _).mono ?_;rintro e w11 ⟨kZ,v11,rfl,h11⟩;have zK:Hid (Below we.heap.size we w11):=lH (bP.o.tm kZ);have H11:=lH h11;clear kZ h11;go_simp;refine iB hK zK.o (fun hHeld=>?_);clear hK K;refine bI 10 (fun K hK=>?_);go_simp;refine(J9 (vS.o.up zK.o) H11.o HQM.o).mono ?_;rintro e w12 ⟨RH,v12,rfl,h12⟩;have JK:Hid (Below we.heap.size we w12):=lH (zK.o.tm RH);have H12:=lH h12;clear RH h12 zK H11;go_simp;refine iB hK JK.o (fun hHeld=>?_);clear hK K;refine bI 11 (fun K hK=>?_);go_simp;refine hK.out _ _ ?_ (fun hHeld=>?_)
   ·exact JK.o.alloc JK.o.size _
   clear hK K;(try simp only[Act.put,fZ,fY,fX]);refine eP ?_;clear hHeld;have qL:Below we.heap.size we (w12.alloc (.cells #[.bool v12.b1,.slice v12.A v12.n v12.c,.bool v12.b2,.slice v12.A2 v12.m v12.d] 115)):=JK.o.alloc JK.o.size _;have uK:Hid (aD (w12.alloc (.cells #[.bool v12.b1,.slice v12.A v12.n v12.c,.bool v12.b2,.slice v12.A2 v12.m v12.d] 115)) w12.heap.size 115 #[.bool v12.b1,.slice v12.A v12.n v12.c,.bool v12.b2,.slice v12.A2 v12.m v12.d]):=lH (aD.new w12 _ _);replace HM:=lH (HM.o.up qL);replace HS:=lH (HS.o.bl qL);replace fO:=lH (fO.o.bl qL);replace vS:=lH (vS.o.up qL);have HVU:=lH (H12.o.up ((Below.refl w12.heap.size w12).alloc lR (.cells #[.bool v12.b1,.slice v12.A v12.n v12.c,.bool v12.b2,.slice v12.A2 v12.m v12.d] 115)));clear z4 zl b0 b1 b2 b3 bl bP qL s5 sl;generalize w12.alloc (.cells #[.bool v12.b1,.slice v12.A v12.n v12.c,.bool v12.b2,.slice v12.A2 v12.m v12.d] 115)=wl at *;generalize w12.heap.size=gq at *;refine nU (S:=o9) (.tmp 83) (.tmp 90) 93 rfl (g+1) 115 i1 _ 4 64 Tryz.underlying93 RI0.out RI1.out RI2.out RI3.out rfl (by omega) uS vC _ _ (by rfl) HM.o.oC.own gq 115 #[.bool v12.b1,.slice v12.A v12.n v12.c,.bool v12.b2,.slice v12.A2 v12.m v12.d] (by rfl) uK.o rfl ?k1 ?k2 ?k3 ?k4 ?_
   case k1=>exact CL v12
   case k2=>have:=HM.o.oC.len;have:=J0.o.2.2.2;simp only[maxLen];omega
   case k3=>have:=HM.o.oC.len;have:=J0.o.2.2.2;omega
   case k4=>exact HM.o.blk.lt
   intro pA pn pc w9 q1 q2 q3 q4;have hm9:=HM.o.appC HVU.o q1 q2 q3 q4;have gD:=q2.blk _ _ _ HM.o.blk (by decide);have VE:=q2.blk _ _ _ HS.o (by decide);have HMN:=lH hm9;have WV:=lH (VE.far (p:=⟨g,5,none⟩) (by have:=HGX.o;show gx≠g;omega) (.slice pA pn pc));have p2:=gD.cell 5;have pl:=gD.lt;have pf:=gD.frozen;clear q1 q2 q3 q4 hm9 gD VE HM HS uK HVU fO vS H12 JK;refine c_ (by rfl) ?_;go_simp;refine c_ (by rfl) ?_;go_simp;refine c_ (by rfl) ?_;(go_wp2_with fail);clear p2 pl pf;go_roundw
   case rel=>
    have hm:=HMN.o;rw[show dB s*Rat.divInt (-s.shift) 1000=jD s from rfl,<-HT4.o] at hm;exact⟨k+1,_,_,_,_,_,_,aR,aQ eY.o,hm⟩
   case measure=>exact iD.o
  ·have mL:k=m2:=by omega
   have HZ:Hid (MdZ g w1 wr (.slice (some ⟨g1,0,none⟩) m0 m0) (.slice (some ⟨g2,0,none⟩) (aH x) (aH x)) vF vT vB vC (.slice none 0 0) (hO x) (BR x) uB uC (mB x) (mC x) []):=lH (by
    have h:=HM.o.z;rw[nT (by rw[lW];have:=HL2.o;omega),nT (by rw[rG];have:=HL2.o;omega),nT (by rw[oW];have:=HL2.o;omega),nT (by rw[NH];have:=HL2.o;omega)] at h;exact h)
   have f_:¬(k:Int)<(m2:Int):=by omega
   have HGR:Hid (g<wr.heap.size):=lH HM.o.blk.lt;have qM:=jO wr (.map #[] 0);have HSM:Hid (∃n,iY (wr.alloc (.map #[] 0)) wr.heap.size n ((gL x).take 0)/\n<=0):=lH ⟨0,iY.made wr,lR⟩;replace HZ:=lH (HZ.o.up qM);have HBN:Hid (aH x<=24):=lH (b_ (eW bM.o).2 (by have:=HL0.o;omega));have HIS:=lH (AJ bM.o);have Q9:=@run_makeMap Tryz.prog;have z1:=HZ.o.blk.cell 1;have zl:=HZ.o.blk.lt;clear mL HM tC HXR HW qM hk aR;(go_wp2_with fail);clear Q9 z1 zl;generalize wr.alloc (.map #[] 0)=wm at *;generalize wr.heap.size=bm at *
   go_loopw [102] (fun v102 wr=>∃(k:Nat)(vZ:Value),k<=aH x/\v102=.int .i64 k/\MdZ g w1 wr (.slice (some ⟨g1,0,none⟩) m0 m0) (.slice (some ⟨g2,0,none⟩) (aH x) (aH x)) vF vT vB vC vZ (hO x) (BR x) uB uC (mB x) (mC x) (kR (fK (gL x)) k)/\∃n,iY wr bm n ((gL x).take k)/\n<=k) (fun v102 _=>aH x-(intOf v102).toNat)
   case atStart=>exact⟨0,_,Nat.zero_le _,rfl,HZ.o,HSM.o⟩
   case round=>
    clear HZ HSM;obtain⟨k,vZ,hk,rfl,hz,n,hsn,hn⟩:=hrel;have HZ:=lH hz;have HSN:=lH hsn;have kF:=hz.low;clear hz hsn;by_cases aR:k<aH x
    ·obtain⟨s,hs⟩:∃s,(gL x)[k]?=some s:=eE (by rw[HIS.o.2];exact aR)
     have iW:(DA x)[k]?=some (s:Int):=by rw[<-HIS.o.1];exact eT hs
     have hic:=FU (yB.o.below kF (by have:=yB.o.lt;have:=HG.o;omega)) iW;have EQ:=lH (gJ hs);have hsd:(gL x).getD k 0=s:=by rw[dH,hs];rfl
     have ZW:Hid ((((gL x).take k).any fun y=>y == s)=fK (gL x) k):=lH (by rw[<-aAp (by rw[HIS.o.2];exact aR),hsd]);have HPK:=lH (CT (fK (gL x)) k);have a2w:s<=24:=by
      have h1:=(sJ (DL bM.o).1).2 (s:Int) (bS iW);have:=HBN.o;omega
     have JF:Hid (keyOf Tryz.prog 3 (.int .i64 (s:Int))=some (.int .i64 (s:Int))):=lH (keyOf_int_mk Tryz.underlying3 (by simp[Lit.wf,IntKind.min,IntKind.max,IntKind.signed,IntKind.bits];omega));have aQN:g2<wr.heap.size:=by have:=yB.o.lt;have:=HG.o;have:=kF.size;omega
     have f_:(k:Int)<(aH x:Int):=by omega
     have eY:=lN k;have iD:Hid (aH x-(k+1)<aH x-k):=lH (by omega);have aQ8:=HBN.o;have aSR:Hid (g<=w1.heap.size):=lH (by rw[HG.o];exact lR);have BL:Hid ((kR (fK (gL x)) k).length<=24):=lH (by unfold kR;refine b_ (List.length_filter_le _ _) ?_;rw[List.length_range];omega);clear hs iW hsd kF;have aUT:=HSN.o;obtain⟨D,aW,E6,AU⟩:=aUT;have rU:=lH aW;have Z1:=lH AU;have aMl:n<=24:=by omega
     cases qK:fK (gL x) k with
     | false=>
      have ER:Hid (D.atKey (.int .i64 (s:Int)) (.lit (.bool false))=.lit (.bool false)):=lH (by rw[Z1.o,ZW.o,qK]);have aNK:Hid (kR (fK (gL x)) (k+1)=kR (fK (gL x)) k):=lH (by rw[HPK.o,qK];simp);clear qK aW AU
      go_wp2_with (first | (at_lookup;refine fE _ rfl _ _ 157 rfl 3 4 rH Tryz.underlying157 Tryz.underlying4 (vV _) bm n D rfl rU.o _ _ rfl JF.o _ ER.o ?_) | (at_mapUpdate;refine wpList_mapUpdate_own _ rfl _ _ _ 157 rfl 3 4 rH Tryz.underlying157 _ bm n D rfl rU.o (by unfold maxLen;omega) _ _ _ rfl rfl JF.o _ [] (plainElem_bool Tryz.underlying4 true) ?_))
      intro w5 EG hg5;have HS5:=lH (iY.put s EG E6 Z1.o);have HZ5:=lH (HZ.o.mapped HSN.o hg5 HGR.o aSR.o);clear EG hg5 rU Z1 ER hic aQN;(go_wp2_with fail);go_roundw
      case rel=>exact⟨k+1,vZ,aR,aQ eY.o,by rw[aNK.o];exact HZ5.o,n+1,by rw[EQ.o];exact HS5.o,by omega⟩
      case measure=>exact iD.o
     | true=>
      have ER:Hid (D.atKey (.int .i64 (s:Int)) (.lit (.bool false))=.lit (.bool true)):=lH (by rw[Z1.o,ZW.o,qK]);have aNK:Hid (kR (fK (gL x)) (k+1)=kR (fK (gL x)) k++[k]):=lH (by rw[HPK.o,qK];simp);have qM:=jO wr (.cells #[.int .i64 (k:Int)] 3);have HZA:=lH (HZ.o.up qM);have OH:=lH (HSN.o.below qM);have uK:=lH (aD.new wr 3 #[.int .i64 (k:Int)]);have z6:=HZ.o.blk.cell 6;have zl:=HZ.o.blk.lt;clear qK aW AU qM
      go_wp2_with (first | (at_lookup;refine fE _ rfl _ _ 157 rfl 3 4 rH Tryz.underlying157 Tryz.underlying4 (vV _) bm n D rfl rU.o _ _ rfl JF.o _ ER.o ?_) | (at_builtin;refine EY (S:=rX) rfl (.tmp 114) (.tmp 116) 30 rfl (g+1) 3 i0 _ 1 8 Tryz.underlying30 ES.o wX.o KN.o KM.o rfl (by omega) Z2 vZ _ _ rfl HZA.o.oZ wr.heap.size 3 #[.int .i64 (k:Int)] rfl uK.o rfl ?k1 ?k2 ?k3 ?k4 ?_))
      case k1=>first | (intro u hu;rw[show u=.int .i64 (k:Int) from by simpa using hu];exact⟨rfl,_,rfl⟩) | exact⟨rfl,_,rfl⟩
      case k2=>have:=BL.o;simp only[maxLen];omega
      case k3=>have:=BL.o;omega
      case k4=>exact HZA.o.blk.lt
      intro pA pn pc w9 q1 q2 q3 q4;have hz9:=HZA.o.app q1 q2 (by simpa using q3) (fun i hi=>q4 i (by simpa using hi));have aQM:(wr.alloc (.cells #[.int .i64 (k:Int)] 3)).grownBy w9 vZ.ownBlock:=⟨q2.low.os,q2.low.tape,q2.low.output,q2.size,fun i hi cG=>q4 i (by simpa using hi) (fun e=>cG e.symm)⟩;have VE:=OH.o.kept aQM (iY.apart OH.o HZA.o.oZ);have gD:=q2.blk _ _ _ HZA.o.blk (by decide);have WV:Hid (iY (w9.setCell ⟨g,6,none⟩ (.slice pA pn pc)) bm n ((gL x).take k)):=lH (VE.kept (gK (gW bR (some g)) (.inl rfl) _) (by intro e;injection e with e;have:=HGR.o;omega));have HZ9:=lH hz9;have p6:=gD.cell 6;have pl:=gD.lt;have pf:=gD.frozen;clear q1 q2 q3 q4 hz9 aQM VE gD HZA OH uK rU Z1 ER hic aQN z6 zl HSN HZ E6;(go_upto_region 17 with fail);clear p6 pl pf;generalize w9.setCell ⟨g,6,none⟩ (.slice pA pn pc)=wq at *;generalize Value.slice pA pn pc=vZ2 at *;have hsq:=WV.o;obtain⟨D2,aW,E6,AU⟩:=hsq;have F6:=lH aW;have aY6:=lH AU;clear aW AU
      go_wp2_with (at_mapUpdate;refine wpList_mapUpdate_own _ rfl _ _ _ 157 rfl 3 4 rH Tryz.underlying157 _ bm n D2 rfl F6.o (by unfold maxLen;omega) _ _ _ rfl rfl JF.o _ [] (plainElem_bool Tryz.underlying4 true) ?_)
      intro w5 EG hg5;have HS5:=lH (iY.put s EG E6 aY6.o);have HZ5:=lH (HZ9.o.mapped WV.o hg5 HGR.o aSR.o);clear EG hg5 F6 aY6;(go_wp2_with fail);go_roundw
      case rel=>exact⟨k+1,vZ2,aR,aQ eY.o,by rw[aNK.o];exact HZ5.o,n+1,by rw[EQ.o];exact HS5.o,by omega⟩
      case measure=>exact iD.o
    ·have f_:¬(k:Int)<(aH x:Int):=by omega
     have mL:k=aH x:=by omega
     have hFL:kR (fK (gL x)) k=aA x:=by rw[mL];rfl
     have l_:=HZ.o;rw[hFL] at l_;obtain⟨aF,cF,hvF,hrF⟩:=GX l_.oF;obtain⟨aT,cT,hvT,hrT⟩:=GX l_.oT;obtain⟨aZ,cZ,hvZ,hrZ⟩:=GX l_.oZ;obtain⟨aB,cB,hvB,hrB,-⟩:=l_.oB.rd;obtain⟨aC,cC,hvC,hrC,-⟩:=l_.oC.rd;have NT:=OW.o.below l_.low (by have:=OW.o.lt;have:=HG.o;omega);have vJ:=yB.o.below l_.low (by have:=yB.o.lt;have:=HG.o;omega);have qL:=(mU bM.o).1;have aQJ:=(sJ (DL bM.o).1).1;have wW:Hid (eK wr wr.heap.size ⟨some ⟨g1,0,none⟩,m0,m0,some ⟨g2,0,none⟩,aH x,aH x,aF,(hO x).length,cF,aT,(BR x).length,cT,aB,(mB x).length,cB,aC,(mC x).length,cC,aZ,(aA x).length,cZ⟩ x):=lH ⟨XX NT (by rw[qL];exact HL0.o),XX vJ aQJ,hrF,hrT,hrB,hrC,hrZ⟩;have zJ:=lH l_.blk;rw[hvF,hvT,hvZ,hvB,hvC] at zJ;have aJQ:=lH l_.low;have HIV:=lH (U3 g ⟨some ⟨g1,0,none⟩,m0,m0,some ⟨g2,0,none⟩,aH x,aH x,aF,(hO x).length,cF,aT,(BR x).length,cT,aB,(mB x).length,cB,aC,(mC x).length,cC,aZ,(aA x).length,cZ⟩ x bM.o H8.o wr zJ.o wW.o);have zl:=zJ.o.lt;clear mL hFL l_ hvF hrF hvT hrT hvZ hrZ hvB hrB hvC hrC NT vJ qL aQJ HZ HSN wW zJ;(go_wp2_with fail);refine HIV.o.mono ?_;rintro e w5 ⟨rfl,hgr,hmo,A,n9,c9,AT,Q_⟩;have d_:Hid (Below w.heap.size w w5):=lH (cI.o.trans (y_ aJQ.o hgr lR (by rw[HG.o];exact lR) |>.mono JZ.o.2));obtain⟨wW,zJ,SY⟩:=dZ hmo AT Q_;clear hgr hmo AT Q_ HIV;(go_wp2_with fail);go_ret;exact⟨d_.o,g,_,A,n9,c9,rfl,JZ.o.2,zJ.o,wW.o,SY.o⟩
end
section
open Go.ChangeShapes Go.WideShapes Go.ChangeAt Go.RowKit
attribute [local go_sem ↓] aE
attribute [local go_sem] aL aK aO a_ bZ.cells
theorem QU(F:FuncId)(cap:Array Value)(A:OA)(n c:Nat)(zs:List Br)(p:Br->Bool)(I:World->Prop)(hF:∀(args:Array Value)(w:Wo),(callFunc F args).run Tryz.prog w=.ok (.enter F args) w)(hI:∀w',I w'->xL w' w'.heap.size A n zs)(hf:∀(z:Br)(w':Wo),z∈zs->I w'->Calls Tryz.prog F (#[.agg #[.string z.name,.string z.fr,.string z.to,.int .i64 z.x,.int .i64 z.tap,.int .i64 z.shift,.int .i64 z.limit,.int .i64 z.short,.int .i64 z.hold]]++cap) w' fun e w''=>e=.returned (.bool (p z))/\I w'')(hn:n<=9223372036854775807)(w:Wo)(hw:I w):Calls Tryz.prog 134 #[.slice A n c,.func (.func F) #[] cap] w fun e w'=>e=.returned (.int .i64 (gM p zs 0))/\I w':=by
 obtain⟨HF,HII,HI⟩:=dZ hf hI hw;have d8:=lH (hI w hw).1;clear hf hw hI;go_enter Tryz.func134,Tryz.ntmps134
 go_wp2_with fail
 go_loopw [5,8] (fun _ i wr=>∃k:Nat,k<=n/\i=.int .i64 k/\I wr/\gM p zs 0=gM p (zs.drop k) k) (fun _ i _=>n-(intOf i).toNat)
 case atStart=>exact⟨0,by omega,rfl,HI.o,rfl⟩
 case round=>
  obtain⟨k,hk,rfl,hIw,IH⟩:=hrel;have oP:=HII.o wr hIw;have HIW:=lH hIw;have zI:=lH IH;clear hIw IH;by_cases aR:k<n
  ·obtain⟨z,hz⟩:∃z,zs[k]?=some z:=eE (by have:=d8.out;omega)
   have HM:=lH (bS hz);obtain⟨b,off,rfl,VR⟩:=oP.form (by omega);obtain⟨c0,c1,c2,c3,c4,c5,c6,c7,c8⟩:=oP.at_ hz;have HZ:=lH (bX hz);clear hz;(go_wp2_with fail);refine(HF.o z wr HM.o HIW.o).mono ?_;cases hp:p z with
   | true=>
    rintro e w1 ⟨rfl,hI1⟩;have wX:=lH hI1;have HP:=lH hp;clear hI1 hp;(go_wp2_with fail);go_ret;exact⟨aU (by rw[zI.o,HZ.o];simp[gM,HP.o]),wX.o⟩
   | false=>
    rintro e w1 ⟨rfl,hI1⟩;have wX:=lH hI1;have HP:=lH hp;clear hI1 hp;(go_wp2_with fail);go_roundw
    case rel=>exact⟨k+1,by omega,by go_num,wX.o,by rw[zI.o,HZ.o];simp[gM,HP.o]⟩
    case measure=>simp[intOf];omega
  ·have hd:zs.drop k=[]:=by rw[List.drop_eq_nil_iff];have:=d8.out;omega
   have HD:=lH hd;clear hd oP;(go_wp2_with fail);go_ret;exact⟨aU (by rw[zI.o,HD.o];rfl),HIW.o⟩
theorem aEa(x:Br)(s:ByteArray)(g:Nat)(w:Wo)(hg:w.cell? ⟨g,0,none⟩=some (.string s)):Calls Tryz.prog 135 (#[.agg #[.string x.name,.string x.fr,.string x.to,.int .i64 x.x,.int .i64 x.tap,.int .i64 x.shift,.int .i64 x.limit,.int .i64 x.short,.int .i64 x.hold]]++#[.pointer (some ⟨g,0,none⟩)]) w fun e w'=>e=.returned (.bool (qX x.name s))/\Below w.heap.size w w':=by
 have aR:=World.block_lt_of_cell? w ⟨g,0,none⟩ hg;show Calls Tryz.prog 135 #[.agg #[.string x.name,.string x.fr,.string x.to,.int .i64 x.x,.int .i64 x.tap,.int .i64 x.shift,.int .i64 x.limit,.int .i64 x.short,.int .i64 x.hold],.pointer (some ⟨g,0,none⟩)] w _;go_enter Tryz.func135,Tryz.ntmps135
 go_wp2_with fail
 go_ret;exact⟨rfl,bA⟩
theorem IS(args:Array Value)(w:Wo):(callFunc 135 args).run Tryz.prog w=.ok (.enter 135 args) w:=
 IZ Tryz.func135 (by kernel_rfl) rfl args w
def mV(x:bK)(s:ByteArray):Int:=gM (fun b:Br=>qX b.name s) x.brs 0
theorem qS(x:bK)(s:ByteArray):(mV x s=-1/\∀b∈x.brs,b.name≠s)\/∃(i:Nat)(b:Br),mV x s=(i:Int)/\x.brs[i]?=some b/\b.name=s:=by
 rcases yR (fun b:Br=>qX b.name s) x.brs 0 with⟨h1,h2⟩ | ⟨i,b,h1,h2,h3,_⟩
 ·exact .inl ⟨h1,fun b hb=>GQ.1 (h2 b hb)⟩
 ·exact .inr ⟨i,b,by unfold mV;rw[h1];simp,h2,zS.1 h3⟩
theorem vG(h:bZ)(x:bK)(s:ByteArray)(w:Wo)(r:cL w w.heap.size h x):Calls Tryz.prog 102 #[.agg h.cells,.string s] w fun e w'=>e=.returned (.int .i64 (mV x s))/\Below w.heap.size w w':=by
 have K0:Below w.heap.size w ((w.alloc (.cells h.cells 29)).alloc (.cells #[.string s] 9)):=(bA).alloc (by simp) _;have HK:=lH K0;have HR:=lH (r.up K0);have hm:=r.m2;have hs:((w.alloc (.cells h.cells 29)).alloc (.cells #[.string s] 9)).cell? ⟨w.heap.size+1,0,none⟩=some (.string s):=(aD.new_ (t:=9) (cs:=#[.string s]) (w:=w.alloc (.cells h.cells 29)) (by simp)).cell 0;have HS:=lH hs;clear K0 r hs;go_enter Tryz.func102,Tryz.ntmps102
 go_wp2_with fail
 refine(QU _ _ h.A2 h.n2 h.c2 x.brs (fun b=>qX b.name s) (fun w'=>Below ((w.alloc (.cells h.cells 29)).alloc (.cells #[.string s] 9)).heap.size ((w.alloc (.cells h.cells 29)).alloc (.cells #[.string s] 9)) w') IS
  (fun w' hb=>(HR.o.up hb).r2) (fun z w' _ hb=>(aEa z s (w.heap.size+1) w' ((hb.cell (p:=⟨w.heap.size+1,0,none⟩) (by simp)).trans HS.o)).mono fun e w'' ⟨he,bH⟩=>⟨he,hb.tm bH⟩) hm _ bR).mono ?_
 rintro e w1 ⟨rfl,hb⟩;have HB:=cJ HK hb;clear hb
 go_wp2_with fail
 go_ret;exact⟨rfl,HB.o⟩
def AM(x:bK)(m:Mi):Int:=
 if m.kind<0\/2<m.kind then 1 else if(m.kind=0/\mV x m.name<0)\/(m.kind≠0/\(x.nodes.any fun y=>qX m.name y)=false) then 6 else
 if dJ m.txt.data.toList≠0 then dJ m.txt.data.toList else if m.wt<1\/1000<m.wt then 4 else 0
def qB(x:bK):List Mi->Int
 | []=>0
 | m::r=>if AM x m=0 then qB x r else AM x m
def cN(x:bK)(ms:List Mi):Int:=if iV x≠0 then iV x else if 64<ms.length then 2 else qB x ms
theorem vE:∀{ms:List Mi},qB x ms=0->∀m∈ms,AM x m=0
 | [],_,m,h=>by cases h
 | a::r,h,m,hm=>by
  unfold qB at h;split at h
  ·rename_i ha
   rcases List.mem_cons.1 hm with h1 | h1
   ·rw[h1];exact ha
   ·exact vE h m h1
  ·exact absurd h (by assumption)
theorem UX{ms:List Mi}{m:Mi}(h:ms[k]?=some m):qB x (ms.drop k)=if AM x m=0 then qB x (ms.drop (k+1)) else AM x m:=by
 rw[bX h];rfl
theorem tK(h:bZ)(x:bK)(A:OA)(n c:Nat)(ms:List Mi)(w:Wo)(r:cL w w.heap.size h x)(hm:eB w w.heap.size A n ms)(hz:∀m∈ms,m.txt.size<=maxLen)(hn:n<=9223372036854775807)(ht:fL w):Calls Tryz.prog 60 #[.agg h.cells,.slice A n c] w fun e w'=>e=.returned (.int .i64 (cN x ms))/\Below w.heap.size w w':=by
 have K0:=jO w (.cells h.cells 29);obtain⟨HK,F4,HM,lB,HZ⟩:=iS K0 r hm hm.1 hz;have HT:=lH ht;have HX:=lH (aD.new w 29 h.cells);have HC:=lH (ME h x _ (r.up K0));have SV:Hid (h.n0<=9223372036854775807):=lH r.m0;have d8:ms.length=n:=hm.1;clear K0 r hm hz ht;obtain⟨A0,m0,c0,A1,m1,c1,A2,m2,c2,A3,m3,c3,A4,m4,c4,A5,m5,c5⟩:=h;simp only[bZ.cells] at HK HX HC SV ⊢;have hlI:(64:Int)<(n:Int)<->64<ms.length:=by omega
 have HLI:=lH hlI;clear hlI d8;go_enter Tryz.func60,Tryz.ntmps60
 go_upto_region 1 with fail
 generalize w.alloc (.cells #[.slice A0 m0 c0,.slice A1 m1 c1,.slice A2 m2 c2,.slice A3 m3 c3,.slice A4 m4 c4,.slice A5 m5 c5] 29)=W at *;obtain⟨y0,y1,y2,y3,y4,y5,E8⟩:=HX.o.b6
 go_wp2_with fail
 refine HC.o.mono ?_;clear y0 y1 y2 y3 y4 y5 E8 HC;rintro e w1 ⟨he,bO⟩;have cI:=cJ HK bO;have fB:=lH (HX.o.bl bO);clear bO HK HX;by_cases h0:iV x=0
 ·rw[h0] at he
  subst he;have HE0:Hid (cN x ms=if 64<ms.length then 2 else qB x ms):=lH (by unfold cN;rw[if_neg (by simp[h0])]);clear h0;by_cases h64:64<ms.length
  ·have aMS:(64:Int)<(n:Int):=HLI.o.2 h64
   have ZY:Hid (cN x ms=2):=lH (by rw[HE0.o,if_pos h64]);clear h64;(go_wp2_with fail);go_ret;exact⟨by rw[ZY.o];rfl,cI.o⟩
  ·have aMS:¬(64:Int)<(n:Int):=fun h=>h64 (HLI.o.1 h)
   have ZY:Hid (cN x ms=qB x ms):=lH (by rw[HE0.o,if_neg h64]);clear h64;(go_wp2_with fail)
   go_loopw [19] (fun v19 wr=>∃k:Nat,k<=n/\v19=.int .i64 k/\Below w.heap.size w wr/\aD wr w.heap.size 29 #[.slice A0 m0 c0,.slice A1 m1 c1,.slice A2 m2 c2,.slice A3 m3 c3,.slice A4 m4 c4,.slice A5 m5 c5]/\qB x ms=qB x (ms.drop k)) (fun v19 _=>n-(intOf v19).toNat)
   case atStart=>exact⟨0,by omega,rfl,cI.o,fB.o,rfl⟩
   case round=>
    clear cI fB;obtain⟨k,hk,rfl,hb,hx,oR⟩:=hrel;obtain⟨HB,HX,lQ⟩:=dZ hb hx oR;clear hb hx oR;by_cases aR:k<n
    ·obtain⟨m,hm⟩:∃m,ms[k]?=some m:=eE (by have:=lB.o;omega)
     obtain⟨b,off,hA,hb⟩:=(HM.o.below HB.o lR).form (by omega);subst hA;obtain⟨a0,a1,a2,a3⟩:=(HM.o.below HB.o lR).at_ hm;have qL:b<wr.heap.size:=kA hb HB.o.size;have HD:=lH (UX (x:=x) hm);rw[<-lQ.o] at HD;have HTZ:=lH (HZ.o m (bS hm));have f_:(k:Int)<(n:Int):=by omega
     have eY:=lN k;have iD:Hid (n-(k+1)<n-k):=lH (by omega);clear hm hb;(go_upto_region 9 with fail);clear a0 a1 a2 a3 qL;generalize EC:wr.alloc (.cells #[.int .i64 m.kind,.string m.name,.string m.txt,.int .i64 m.wt] 57)=wa;have qM:Below wr.heap.size wr wa:=by rw[<-EC];exact bA
     have HS:Hid (aD wa wr.heap.size 57 #[.int .i64 m.kind,.string m.name,.string m.txt,.int .i64 m.wt]):=lH (by rw[<-EC];exact aD.new wr _ _);replace HB:=lH (HB.o.tm qM);replace HX:=lH (HX.o.bl qM);have HRN:=lH (F4.o.up HB.o);clear EC qM;generalize wr.heap.size=gx at *;obtain⟨s0,s1,s2,s3,sl⟩:=HS.o.b4;have MO:Hid (Calls Tryz.prog 104 #[.string m.txt] wa fun e w'=>e=.returned (.int .i64 (dJ m.txt.data.toList))/\Below wa.heap.size wa w'):=lH (by
      have h:=wB m.txt.data.toList (by rw[Array.length_toList];exact HTZ.o) wa (HT.o.up HB.o);rwa[show(⟨m.txt.data.toList.toArray⟩:ByteArray)=m.txt from by cases m.txt;simp] at h)
     have JC:Hid (AM x m=if m.kind<0\/2<m.kind then 1 else if(m.kind=0/\mV x m.name<0)\/(m.kind≠0/\(x.nodes.any fun y=>qX m.name y)=false) then 6 else
      if dJ m.txt.data.toList≠0 then dJ m.txt.data.toList else if m.wt<1\/1000<m.wt then 4 else 0):=lH rfl
     have HNZ:Hid (∀z,AM x m=z->z≠0->cN x ms=z):=lH fun z h hz=>by rw[ZY.o,HD.o,if_neg (by rw[h];exact hz),h]
     by_cases NT:m.kind<0
     ·have HE:Hid (cN x ms=1):=lH (HNZ.o 1 (by rw[JC.o,if_pos (.inl NT)]) (by decide))
      (go_wp2_with fail);go_ret;exact⟨by rw[HE.o];rfl,HB.o⟩
     by_cases vJ:2<m.kind
     ·have HE:Hid (cN x ms=1):=lH (HNZ.o 1 (by rw[JC.o,if_pos (.inr vJ)]) (by decide))
      (go_wp2_with fail);go_ret;exact⟨by rw[HE.o];rfl,HB.o⟩
     rw[if_neg (by omega)] at JC;have a1o:Hid (∀w2,Below wa.heap.size wa w2->(¬((m.kind=0/\mV x m.name<0)\/(m.kind≠0/\(x.nodes.any fun y=>qX m.name y)=false)))->True):=lH fun _ _ _=>trivial
     by_cases kO:m.kind=0
     ·have aVz:(m.kind == 0)=true:=by simp[kO]
      obtain⟨y0,y1,y2,y3,y4,y5,yl⟩:=HX.o.b6;have HBC:=lH (vG ⟨A0,m0,c0,A1,m1,c1,A2,m2,c2,A3,m3,c3,A4,m4,c4,A5,m5,c5⟩ x m.name wa HRN.o);obtain⟨bi,hbi⟩:∃bi,mV x m.name=bi:=⟨_,rfl⟩;rw[hbi] at HBC JC;(go_wp2_with fail);refine HBC.o.mono ?_;rintro e w2 ⟨rfl,bH⟩;have dN:=cJ HB bH;have gG:=lH (HX.o.bl bH);have mZ:=lH (HS.o.bl bH);clear bH HBC y0 y1 y2 y3 y4 y5 yl s0 s1 s2 s3 sl MO a1o;have s0:=mZ.o.cell 0;have s2:=mZ.o.cell 2;have s3:=mZ.o.cell 3;have sl:=mZ.o.lt;by_cases IL:bi<0
      ·have HE:Hid (cN x ms=6):=lH (HNZ.o 6 (by rw[JC.o,if_pos (.inl ⟨kO,IL⟩)]) (by decide))
       (go_wp2_with fail);go_ret;exact⟨by rw[HE.o];rfl,dN.o⟩
      ·rw[if_neg (by rintro(⟨_,h⟩ | ⟨h,_⟩)<;>contradiction)] at JC
       have aCc:Hid (Calls Tryz.prog 104 #[.string m.txt] w2 fun e w'=>e=.returned (.int .i64 (dJ m.txt.data.toList))/\Below w2.heap.size w2 w'):=lH (by
        have h:=wB m.txt.data.toList (by rw[Array.length_toList];exact HTZ.o) w2 (HT.o.up dN.o);rwa[show(⟨m.txt.data.toList.toArray⟩:ByteArray)=m.txt from by cases m.txt;simp] at h)
       obtain⟨rc,hrc⟩:∃rc,dJ m.txt.data.toList=rc:=⟨_,rfl⟩;rw[hrc] at aCc JC;(go_wp2_with fail);refine aCc.o.mono ?_;rintro e w3 ⟨rfl,dK⟩;have fV:=cJ dN dK;have ZO:=lH (gG.o.bl dK);have HS3:=lH (mZ.o.bl dK);clear dK aCc hrc;have t3:=HS3.o.cell 3;have tl:=HS3.o.lt;by_cases gC:rc=0
       ·subst gC
        rw[if_neg (by simp)] at JC;by_cases hw1:m.wt<1
        ·have HE:Hid (cN x ms=4):=lH (HNZ.o 4 (by rw[JC.o,if_pos (.inl hw1)]) (by decide))
         (go_wp2_with fail);go_ret;exact⟨by rw[HE.o];rfl,fV.o⟩
        by_cases hw2:1000<m.wt
        ·have HE:Hid (cN x ms=4):=lH (HNZ.o 4 (by rw[JC.o,if_pos (.inr hw2)]) (by decide))
         (go_wp2_with fail);go_ret;exact⟨by rw[HE.o];rfl,fV.o⟩
        rw[if_neg (by omega)] at JC;rw[if_pos JC.o] at HD;(go_wp2_with fail);go_roundw
        case rel=>exact⟨k+1,aR,aQ eY.o,fV.o,ZO.o,lQ.o.trans (lQ.o.symm.trans HD.o)⟩
        case measure=>exact iD.o
       ·have HE:Hid (cN x ms=rc):=lH (HNZ.o rc (by rw[JC.o,if_pos gC]) gC)
        have aU2:(rc != 0)=true:=by simp[gC]
        clear gC;(go_wp2_with fail);go_ret;exact⟨by rw[HE.o];rfl,fV.o⟩
     ·have aVz:(m.kind == 0)=false:=by simp[kO]
      have a29:(m.kind != 0)=true:=by simp[kO]
      obtain⟨y0,yl⟩:=HX.o.b1;have HBC:=lH (tV A0 m0 c0 x.nodes m.name wa HRN.o.r0 SV.o);obtain⟨bi,hbi⟩:∃bi,(x.nodes.any fun y=>qX m.name y)=bi:=⟨_,rfl⟩;rw[hbi] at HBC JC;(go_wp2_with fail);refine HBC.o.mono ?_;rintro e w2 ⟨rfl,rfl⟩;have dN:=HB;have gG:=HX;have mZ:=HS;clear HBC y0 yl a1o;cases bi with
      | false=>
       have HE:Hid (cN x ms=6):=lH (HNZ.o 6 (by rw[JC.o,if_pos (.inr ⟨kO,rfl⟩)]) (by decide));(go_wp2_with fail);go_ret;exact⟨by rw[HE.o];rfl,dN.o⟩
      | true=>
       rw[if_neg (by rintro(⟨h,_⟩ | ⟨_,h⟩);exact kO h;cases h)] at JC;have w2eq:True:=trivial;have aCc:Hid (Calls Tryz.prog 104 #[.string m.txt] wa fun e w'=>e=.returned (.int .i64 (dJ m.txt.data.toList))/\Below wa.heap.size wa w'):=lH (by
        have h:=wB m.txt.data.toList (by rw[Array.length_toList];exact HTZ.o) wa (HT.o.up dN.o);rwa[show(⟨m.txt.data.toList.toArray⟩:ByteArray)=m.txt from by cases m.txt;simp] at h)
       obtain⟨rc,hrc⟩:∃rc,dJ m.txt.data.toList=rc:=⟨_,rfl⟩;rw[hrc] at aCc JC;(go_wp2_with fail);refine aCc.o.mono ?_;rintro e w3 ⟨rfl,dK⟩;have fV:=cJ dN dK;have ZO:=lH (gG.o.bl dK);have HS3:=lH (mZ.o.bl dK);clear dK aCc hrc;have t3:=HS3.o.cell 3;have tl:=HS3.o.lt;by_cases gC:rc=0
       ·subst gC
        rw[if_neg (by simp)] at JC;by_cases hw1:m.wt<1
        ·have HE:Hid (cN x ms=4):=lH (HNZ.o 4 (by rw[JC.o,if_pos (.inl hw1)]) (by decide))
         (go_wp2_with fail);go_ret;exact⟨by rw[HE.o];rfl,fV.o⟩
        by_cases hw2:1000<m.wt
        ·have HE:Hid (cN x ms=4):=lH (HNZ.o 4 (by rw[JC.o,if_pos (.inr hw2)]) (by decide))
         (go_wp2_with fail);go_ret;exact⟨by rw[HE.o];rfl,fV.o⟩
        rw[if_neg (by omega)] at JC;rw[if_pos JC.o] at HD;(go_wp2_with fail);go_roundw
        case rel=>exact⟨k+1,aR,aQ eY.o,fV.o,ZO.o,lQ.o.trans (lQ.o.symm.trans HD.o)⟩
        case measure=>exact iD.o
       ·have HE:Hid (cN x ms=rc):=lH (HNZ.o rc (by rw[JC.o,if_pos gC]) gC)
        have aU2:(rc != 0)=true:=by simp[gC]
        clear gC;(go_wp2_with fail);go_ret;exact⟨by rw[HE.o];rfl,fV.o⟩
    ·have mL:k=n:=by omega
     have HE:Hid (cN x ms=0):=lH (by rw[ZY.o,lQ.o,List.drop_eq_nil_of_le (by have:=lB.o;omega)];rfl);have f_:¬(k:Int)<(n:Int):=by omega
     (go_wp2_with fail);go_ret;exact⟨by rw[HE.o];rfl,HB.o⟩
 ·have HE:Hid (cN x ms=iV x):=lH (by unfold cN;rw[if_pos h0])
  generalize iV x=z at *;subst he;have h0b:(z != 0)=true:=by simp[h0]
  clear h0;(go_wp2_with fail);go_ret;exact⟨by rw[HE.o];rfl,cI.o⟩
end
section
open Go.ChangeShapes Go.WideShapes Go.ChangeAt Go.RowKit
attribute [local go_sem ↓] aE
attribute [local go_sem] aL aK aO a_
def mY(b:Rat)(u v:Nat)(q:List Rat):List Rat:=(q.set u (vf q u+b)).set v (vf (q.set u (vf q u+b)) v-b)
theorem mX{b:Rat}{u v:Nat}:(mY b u v q).length=q.length:=by unfold mY;rw[kV,kV]
def sg(minus:Bool)(b:Rat):Rat:=if minus then -b else b
structure BJ (a b:Nat) (w w':Wo):Prop where
 os:w'.os=w.os
 tape:w'.tape=w.tape
 output:w'.output=w.output
 size:w.heap.size<=w'.heap.size
 block:∀i,i<w.heap.size->i≠a->i≠b->w'.heap[i]?=w.heap[i]?
theorem BJ.trans{w1 w2:Wo}(h:BJ a b w w1)(k:BJ a b w1 w2):BJ a b w w2:=
 ⟨k.os.trans h.os,k.tape.trans h.tape,k.output.trans h.output,b_ h.size k.size,fun i hi h1 h2=>(k.block i (kA hi h.size) h1 h2).trans (h.block i hi h1 h2)⟩
theorem eS(h:Below w.heap.size w w'):BJ a b w w':=⟨h.os,h.tape,h.output,h.size,fun i hi _ _=>h.block i hi⟩
theorem BJ.below{B:Nat}(h:BJ a b w w')(ha:B<=a)(hb:B<=b)(hB:B<=w.heap.size):Below B w w':=⟨h.os,h.tape,h.output,h.size,fun i hi=>h.block i (by omega) (by omega) (by omega)⟩
theorem BJ.blk(h:BJ a b w w')(hb:aD w g t cs)(h1:g≠a)(h2:g≠b):aD w' g t cs:=(h.block g hb.lt h1 h2).trans hb
theorem rF{u:Value}:BJ a b w (w.setCell ⟨b,i,none⟩ u):=⟨rfl,rfl,rfl,by simp[World.setCell],fun k hk h1 h2=>Below.heap_setCell w ⟨b,i,none⟩ u k (fun e=>h2 e)⟩
theorem pD{u:Value}:BJ a b w (w.setCell ⟨a,i,none⟩ u):=⟨rfl,rfl,rfl,by simp[World.setCell],fun k hk h1 h2=>Below.heap_setCell w ⟨a,i,none⟩ u k (fun e=>h1 e)⟩
structure DV (w:Wo) (gf gc:Nat) (vs:List Rv) (u:Rv) (q:List Rat) (z:Rat):Prop where
 blk:aD w gf 117 #[.slice (some ⟨gc,0,none⟩) q.length q.length,.bool u.b1,.slice u.A u.n u.c,.bool u.b2,.slice u.A2 u.m u.d]
 row:∃cs,aD w gc 115 cs/\cs.toList.take (q.length*4)=fI vs
 len:vs.length=q.length
 ok:kK w vs q
 val:cU w w.heap.size z u
section
variable {w w':Wo} {gf gc:Nat} {vs:List Rv} {u:Rv} {q:List Rat} {z:Rat}
theorem DV.up(f:DV w gf gc vs u q z)(hb:Below w.heap.size w w'):DV w' gf gc vs u q z:=by
 obtain⟨cs,h1,h2⟩:=f.row;exact⟨f.blk.bl hb,⟨cs,h1.bl hb,h2⟩,f.len,f.ok.up hb,f.val.up hb⟩
theorem DV.ne(f:DV w gf gc vs u q z):gf≠gc:=by
 obtain⟨cs,h1,h2⟩:=f.row;exact f.blk.apart h1 (by decide)
theorem DV.elem(f:DV w gf gc vs u q z)(hj:j<q.length):∃x,vs[j]?=some x/\w.cell? ⟨gc,j*4,none⟩=some (.bool x.b1)/\w.cell? ⟨gc,j*4+1,none⟩=some (.slice x.A x.n x.c)/\w.cell? ⟨gc,j*4+2,none⟩=some (.bool x.b2)/\w.cell? ⟨gc,j*4+3,none⟩=some (.slice x.A2 x.m x.d)/\cU w w.heap.size (vf q j) x/\gc<w.heap.size/\(∀o,w.frozen? ⟨gc,o,none⟩=false):=by
 obtain⟨cs,h1,h2⟩:=f.row;obtain⟨x,hx⟩:∃x,vs[j]?=some x:=eE (by rw[f.len];exact hj);obtain⟨c0,c1,c2,c3⟩:=h1.row_cell h2 hx;exact⟨x,hx,c0,c1,c2,c3,f.ok j _ x (bC hj) hx,h1.lt,h1.frozen⟩
theorem DV.elem2(f:DV w gf gc vs u q z){x:Rv}(hx:vs[j]?=some x):w.cell? ⟨gc,j*4,none⟩=some (.bool x.b1)/\w.cell? ⟨gc,j*4+1,none⟩=some (.slice x.A x.n x.c)/\w.cell? ⟨gc,j*4+2,none⟩=some (.bool x.b2)/\w.cell? ⟨gc,j*4+3,none⟩=some (.slice x.A2 x.m x.d)/\gc<w.heap.size/\(∀o,w.frozen? ⟨gc,o,none⟩=false):=by
 obtain⟨cs,h1,h2⟩:=f.row;obtain⟨c0,c1,c2,c3⟩:=h1.row_cell h2 hx;exact⟨c0,c1,c2,c3,h1.lt,h1.frozen⟩
theorem DV.keep(f:DV w gf gc vs u q z)(hj:j<q.length){x y:Rv}(hy:cU w w.heap.size p y):cU (eG w gc j x) (eG w gc j x).heap.size p y:=by
 obtain⟨cs,h1,h2⟩:=f.row;obtain⟨x0,hx⟩:∃x,vs[j]?=some x:=eE (by rw[f.len];exact hj);exact cU.keep4 hy x h1 h2 hx
theorem DV.put(f:DV w gf gc vs u q z)(hj:j<q.length){x:Rv}(hx:cU w w.heap.size p x):DV (eG w gc j x) gf gc (vs.set j x) u (q.set j p) z:=by
 obtain⟨cs,h1,h2⟩:=f.row;obtain⟨cs',k1,k2⟩:=h1.row_put x h2 f.len hj;refine⟨?_,⟨cs',k1,by rw[kV];exact k2⟩,by simp[f.len],fun i p' y hp hy=>?_,f.keep hj f.val⟩
 ·rw[kV];exact f.blk.far4 x f.ne
 ·rw[List.getElem?_set] at hp hy
  by_cases uA:j=i
  ·subst uA
   rw[if_pos rfl,if_pos hj] at hp;rw[if_pos rfl,if_pos (by rw[f.len];exact hj)] at hy;injection hp with hp;injection hy with hy;subst hp;subst hy;exact f.keep hj hx
  ·rw[if_neg uA] at hp hy
   exact f.keep hj (f.ok i p' y hp hy)
theorem AG{x:Rv}:BJ gf gc w (eG w gc j x):=((rF.trans rF).trans rF).trans rF
def aDC(w:Wo)(gf:Nat)(x:Rv):World:=(((w.setCell ⟨gf,1,none⟩ (.bool x.b1)).setCell ⟨gf,2,none⟩ (.slice x.A x.n x.c)).setCell ⟨gf,3,none⟩ (.bool x.b2)).setCell ⟨gf,4,none⟩ (.slice x.A2 x.m x.d)
theorem aDP{x:Rv}:BJ gf gc w (aDC w gf x):=((pD.trans pD).trans pD).trans pD
theorem DV.free(f:DV w gf gc vs u q z){x:Rv}(hx:cU w w.heap.size p x):DV (aDC w gf x) gf gc vs x q p:=by
 obtain⟨cs,h1,h2⟩:=f.row;have hb:=f.blk;have keep:∀{y:Rv}{t:Rat},cU w w.heap.size t y->cU (aDC w gf x) (aDC w gf x).heap.size t y:=fun{y t} hy=>by
  have b1:=hb.set_at (i:=1) (cs':=#[.slice (some ⟨gc,0,none⟩) q.length q.length,.bool x.b1,.slice u.A u.n u.c,.bool u.b2,.slice u.A2 u.m u.d]) (.bool x.b1) (by simp);have b2:=b1.set_at (i:=2) (cs':=#[.slice (some ⟨gc,0,none⟩) q.length q.length,.bool x.b1,.slice x.A x.n x.c,.bool u.b2,.slice u.A2 u.m u.d]) (.slice x.A x.n x.c) (by simp);have b3:=b2.set_at (i:=3) (cs':=#[.slice (some ⟨gc,0,none⟩) q.length q.length,.bool x.b1,.slice x.A x.n x.c,.bool x.b2,.slice u.A2 u.m u.d]) (.bool x.b2) (by simp);exact(((hy.keep1 hb (i:=1) (y:=.bool u.b1) rfl (fun k x h=>by cases h) _).keep1 b1 (i:=2) (y:=.slice u.A u.n u.c) rfl iF _).keep1 b2 (i:=3) (y:=.bool u.b2) rfl (fun k x h=>by cases h) _).keep1 b3 (i:=4) (y:=.slice u.A2 u.m u.d) rfl iF _
 refine⟨?_,⟨cs,(((h1.far (p:=⟨gf,1,none⟩) f.ne.symm _).far (p:=⟨gf,2,none⟩) f.ne.symm _).far (p:=⟨gf,3,none⟩) f.ne.symm _).far (p:=⟨gf,4,none⟩) f.ne.symm _,h2⟩,f.len,fun i p' y hp hy=>keep (f.ok i p' y hp hy),keep hx⟩;have:=(((hb.set_ 1 (.bool x.b1)).set_ 2 (.slice x.A x.n x.c)).set_ 3 (.bool x.b2)).set_ 4 (.slice x.A2 x.m x.d);unfold aDC;simpa using this
end
theorem aHW{u:Nat}(h:∀t∈q,bE t<=a)(hp:bE p<=a)(hj:j<(q.set u p).length):bE (vf (q.set u p) j)<=a:=by
 rcases List.mem_or_eq_of_mem_set (bS (bC hj)) with h1 | h1
 ·exact h _ h1
 ·rw[h1];exact hp
theorem KS(w:Wo):aD ((w.alloc dR).alloc dR).drew w.heap.size 115 #[.bool false,.slice none 0 0,.bool false,.slice none 0 0]/\aD ((w.alloc dR).alloc dR).drew (w.heap.size+1) 115 #[.bool false,.slice none 0 0,.bool false,.slice none 0 0]/\Below w.heap.size w ((w.alloc dR).alloc dR).drew:=
 ⟨((aD.new w _ _).alloc _).drew,(aD.new_ (by simp)).drew,aI (((Below.refl _ w).alloc lR _).alloc (by simp) _)⟩
theorem rL{T:Nat}{x0 x1 x2 x3:Value}{v:Rv}(h:aD w g T #[x0,x1,x2,x3]):aD (E1 w g v) g T #[.bool v.b1,.slice v.A v.n v.c,.bool v.b2,.slice v.A2 v.m v.d]:=fU h
theorem wU{g' T:Nat}{v:Rv}(h:aD w g' T cs)(hg:g'≠g):aD (E1 w g v) g' T cs:=(((h.far hg _).far hg _).far hg _).far hg _
def aTn(gf gc:Nat)(b c:Rat)(minus:Bool)(u v:Nat)(q:List Rat)(z:Rat)(w:Wo)(e:Ending)(w':Wo):Prop:=e=.returned (.tuple #[])/\BJ gf gc w w'/\∃vs r,DV w' gf gc vs r (mY (sg minus b) u v q) (z+sg minus c)
theorem aGd(gb g:Nat)(m:iC)(y:Value)(x:bK)(gf gc:Nat)(vs:List Rv)(u:Rv)(q:List Rat)(z:Rat)(k:Nat)(minus:Bool)(ui vi:Nat)(b c:Rat)(w:Wo)(B:Nat)(LT:B<=gf)(hB2:B<=gc)(wO:gb<B)(hgg:g<B)(aFc:aD w gb 90 #[.pointer (some ⟨g,0,none⟩)])(hg:aD w g 122 (m.cells y))(gC:eK w B m x)(hf:DV w gf gc vs u q z)(hb:(mB x)[k]?=some b)(hc:(mC x)[k]?=some c)(hu:(hO x)[k]?=some ui)(hv:(BR x)[k]?=some vi)(hui:ui<q.length)(hvi:vi<q.length)(hl:x.brs.length<=1000)(hq:q.length<=1000)(h1:∀p∈q,bE p<=1000000)(h2:bE b<=1000000)(h3:bE c<=1000000)(h4:bE z<=1000000):Calls Tryz.prog 107 #[.int .i64 (k:Int),.bool minus,.pointer (some ⟨gb,0,none⟩),.pointer (some ⟨gf,0,none⟩)] w (aTn gf gc b c minus ui vi q z w):=by
 have J0:Hid (gf<w.heap.size):=lH hf.blk.lt;have MN:Hid (gc<w.heap.size):=lH (by obtain⟨cs,k1,_⟩:=hf.row;exact k1.lt);obtain⟨cI,dN,OX,HGG,F4⟩:=iS LT hB2 wO hgg gC;have hr:=gC.more (show B<=w.heap.size by have:=J0.o;omega);obtain⟨HG,HR,HF,HBO⟩:=h_ hg hr hf aFc;have m8:Hid (x.brs.length=m.n4):=lH (by rw[<-oW];exact hr.r4.len);have oS:Hid (x.brs.length=m.n5):=lH (by rw[<-NH];exact hr.r5.len);have iD:Hid (x.brs.length=m.n2):=lH (by rw[<-lW,<-eO];exact hr.r2.len);have tY:Hid (x.brs.length=m.n3):=lH (by rw[<-rG,<-eO];exact hr.r3.len);have JE:Hid (k<x.brs.length):=lH (by rw[<-oW];exact(cY.1 hb).1);obtain⟨SQ,HSC,HSQ,eC,HU⟩:=iS h2 h3 h1 h4 hu;obtain⟨HV,KK,JW,lP,uF⟩:=iS hv hui hvi hq hl;obtain⟨A0,n0,c0,A1,n1,c1,A2,n2,c2,A3,n3,c3,A4,n4,c4,A5,n5,c5,A6,n6,c6⟩:=m;simp only[iC.cells] at HG m8 oS iD tY;have E5:=HR.o.r4;have xG:=HR.o.r5;simp only at E5 xG;obtain⟨bb,bo,hA4,yZ⟩:=E5.form (by have:=JE.o;have:=m8.o;omega);subst hA4;obtain⟨xb,p0,p1,p2,p3,p4⟩:=E5.at_ hb;obtain⟨db,do',hA5,hdb⟩:=xG.form (by have:=JE.o;have:=oS.o;omega);subst hA5;obtain⟨xc,e0,e1,e2,e3,e4⟩:=xG.at_ hc;have HXB:=lH p4;have TE:=lH e4;have hk4:(k:Int)<(n4:Int):=by have:=JE.o;have:=m8.o;omega
 have hk5:(k:Int)<(n5:Int):=by have:=JE.o;have:=oS.o;omega
 have kO:=lZ k;have rR:=jM k;obtain⟨b0,bl⟩:=HBO.o.b1;have y4:=HG.o.cell 4;have y5:=HG.o.cell 5;have yl:=HG.o.lt;clear LT hB2 wO hgg gC aFc hg hr hf hb hc hu hv hui hvi hl hq h1 h2 h3 h4 p4 e4 E5 xG;go_enter Tryz.func107,Tryz.ntmps107
 go_upto_region 0 with fail
 go_cut [6,7] (fun v6 v7 wc=>∃g6 g7,v6=.pointer (some ⟨g6,0,none⟩)/\v7=.pointer (some ⟨g7,0,none⟩)/\g6≠g7/\aD wc g6 115 #[.bool xb.b1,.slice xb.A xb.n xb.c,.bool xb.b2,.slice xb.A2 xb.m xb.d]/\aD wc g7 115 #[.bool xc.b1,.slice xc.A xc.n xc.c,.bool xc.b2,.slice xc.A2 xc.m xc.d]/\w.heap.size<=g6/\w.heap.size<=g7/\Below w.heap.size w wc)
 case first=>
  refine kQ 17 (fun hHeld=>?_);simp only[m_,List.take_zero];refine cR [0,1,2,3,4,5,6,7,8,9,10,11,12,13] ?_;refine aHR 14 15 (by kernel_rfl) rfl rfl (fun K hK=>?_) (fun K hK=>?_)
  ·go_simp
   have HA:=lH ((aI (Below.refl w.heap.size w)).alloc lR (.cells #[.bool false,.slice none 0 0,.bool false,.slice none 0 0] 115));refine hK.out _ _ HA.o (fun hHeld=>?_);clear hK K HA;(try simp only[Act.put,fZ,fY,fX]);refine bI 15 (fun K hK=>?_);go_simp;obtain⟨ha,hb,hc⟩:=KS w;generalize ((w.alloc dR).alloc dR).drew=W at ha hb hc ⊢;obtain⟨TH,HG7,HW⟩:=dZ ha hb hc;clear ha hb hc;refine iB hK HW.o (fun hHeld=>?_);clear hK K;refine bI 16 (fun K hK=>?_);obtain⟨z0,z1,z2,z3,zf,zl⟩:=TH.o.e4;go_simp;clear z0 z1 z2 z3 zl zf;have HW2:=lH (dC (v:=xb) HW.o (g:=w.heap.size) (by omega));have XA:=lH (rL (v:=xb) TH.o);have OL:=lH (wU (v:=xb) HG7.o (show(w.heap.size+1)≠w.heap.size by omega));unfold E1 at HW2 XA OL;generalize (((W.setCell ⟨w.heap.size,0,none⟩ _).setCell ⟨w.heap.size,1,none⟩ _).setCell ⟨w.heap.size,2,none⟩ _).setCell ⟨w.heap.size,3,none⟩ _=W2 at HW2 XA OL ⊢;refine hK.out _ _ HW2.o (fun hHeld=>?_);clear hK K TH HG7 HW;(try simp only[Act.put,fZ,fY,fX]);refine eP ?_;obtain⟨z0,z1,z2,z3,zf,zl⟩:=OL.o.e4;(go_wp2_with fail);go_meet
   case rel=>exact⟨_,_,rfl,rfl,by omega,wU (v:=xc) XA.o (show w.heap.size≠(w.heap.size+1) by omega),rL (v:=xc) OL.o,by omega,by omega,dC (v:=xc) HW2.o (by omega)⟩
  ·go_simp
   have HA:=lH ((aI (Below.refl w.heap.size w)).alloc lR (.cells #[.bool false,.slice none 0 0,.bool false,.slice none 0 0] 115));refine hK.out _ _ HA.o (fun hHeld=>?_);clear hK K HA;(try simp only[Act.put,fZ,fY,fX]);refine bI 14 (fun K hK=>?_);go_simp;obtain⟨ha,hb,hc⟩:=KS w;generalize ((w.alloc dR).alloc dR).drew=W at ha hb hc ⊢;obtain⟨TH,HG7,HW⟩:=dZ hb ha hc;clear ha hb hc;refine iB hK HW.o (fun hHeld=>?_);clear hK K;refine bI 16 (fun K hK=>?_);obtain⟨z0,z1,z2,z3,zf,zl⟩:=TH.o.e4;go_simp;clear z0 z1 z2 z3 zl zf;have HW2:=lH (dC (v:=xb) HW.o (g:=(w.heap.size+1)) (by omega));have XA:=lH (rL (v:=xb) TH.o);have OL:=lH (wU (v:=xb) HG7.o (show w.heap.size≠(w.heap.size+1) by omega));unfold E1 at HW2 XA OL;generalize (((W.setCell ⟨(w.heap.size+1),0,none⟩ _).setCell ⟨(w.heap.size+1),1,none⟩ _).setCell ⟨(w.heap.size+1),2,none⟩ _).setCell ⟨(w.heap.size+1),3,none⟩ _=W2 at HW2 XA OL ⊢;refine hK.out _ _ HW2.o (fun hHeld=>?_);clear hK K TH HG7 HW;(try simp only[Act.put,fZ,fY,fX]);refine eP ?_;obtain⟨z0,z1,z2,z3,zf,zl⟩:=OL.o.e4;(go_wp2_with fail);go_meet
   case rel=>exact⟨_,_,rfl,rfl,by omega,wU (v:=xc) XA.o (show(w.heap.size+1)≠w.heap.size by omega),rL (v:=xc) OL.o,by omega,by omega,dC (v:=xc) HW2.o (by omega)⟩
 case rest=>
  obtain⟨g6,g7,rfl,rfl,cG,gA,iA,hl6,hl7,VQ⟩:=hcut;obtain⟨HW,H6,H7,HNE,HL6⟩:=iS VQ gA iA cG hl6;have HL7:=lH hl7;replace HXB:=lH (HXB.o.up HW.o);replace TE:=lH (TE.o.up HW.o);clear cG gA iA hl6 hl7 VQ p0 p1 p2 p3 e0 e1 e2 e3 b0 bl y4 y5 yl yZ hdb hk4 hk5
  go_upto_if 22 with fail
  go_cut [] (fun wd=>∃sb sc,aD wd g6 115 #[.bool sb.b1,.slice sb.A sb.n sb.c,.bool sb.b2,.slice sb.A2 sb.m sb.d]/\aD wd g7 115 #[.bool sc.b1,.slice sc.A sc.n sc.c,.bool sc.b2,.slice sc.A2 sc.m sc.d]/\cU wd wd.heap.size (sg minus b) sb/\cU wd wd.heap.size (sg minus c) sc/\Below w.heap.size w wd)
  case first=>
   cases minus with
   | false=>
    (go_wp2_with fail);go_meet
    case rel=>exact⟨xb,xc,H6.o,H7.o,HXB.o,TE.o,HW.o⟩
   | true=>
    (go_upto_region 2 with fail);generalize wc=W at *;obtain⟨s0,s1,s2,s3,sl⟩:=H6.o.b4;obtain⟨t0,t1,t2,t3,tl⟩:=H7.o.b4;refine lC (S:=fun w'=>Below W.heap.size W w') 4 _ _ (by kernel_rfl) (by kernel_rfl) (by kernel_rfl) rfl rfl (aI bR) (fun hHeld=>?_);simp only[m_,List.take_zero];refine cR [0,2] ?_;refine bI 1 (fun K hK=>?_);go_simp;refine(aPv (HXB.o.up (aI bR))).mono ?_;rintro e w3 ⟨dK,v3,rfl,h3⟩;have fV:=lH ((aI (Below.refl W.heap.size W)).trans dK);have H3:=lH h3;clear dK h3;go_simp;refine iB hK fV.o (fun hHeld=>?_);clear hK K;refine bI 3 (fun K hK=>?_);go_simp;refine(aPv (TE.o.up fV.o)).mono ?_;rintro e w4 ⟨gE,v4,rfl,h4⟩;have bP:=cJ fV gE;have H4:=lH h4;replace H3:=lH (H3.o.up gE);clear gE h4;go_simp;refine iB hK bP.o (fun hHeld=>?_);clear hK K;refine eP ?_;obtain⟨H6b,H7b,HWb⟩:=dZ (H6.o.bl bP.o) (H7.o.bl bP.o) (HW.o.tm bP.o);clear s0 s1 s2 s3 t0 t1 t2 t3 sl tl;obtain⟨z0,z1,z2,z3,zf,zl⟩:=H6b.o.e4;go_simp;clear z0 z1 z2 z3 zl zf;have HWc:=lH (dC (v:=v3) HWb.o (g:=g6) HL6.o);have H6c:=lH (rL (v:=v3) H6b.o);have H7c:=lH (wU (v:=v3) H7b.o (fun e=>HNE.o e.symm));have H3c:=lH (H3.o.keepq H6b.o (v:=v3));have H4c:=lH (H4.o.keepq H6b.o (v:=v3));unfold E1 at HWc H6c H7c;generalize (((w4.setCell ⟨g6,0,none⟩ _).setCell ⟨g6,1,none⟩ _).setCell ⟨g6,2,none⟩ _).setCell ⟨g6,3,none⟩ _=w5 at HWc H6c H7c H3c H4c ⊢;refine c_ (by rfl) ?_;obtain⟨z0,z1,z2⟩:=H7c.o.a3;have z3:=H7c.o.cell 3;have zl:=H7c.o.lt;have zf:=H7c.o.frozen;(go_wp2_with fail);go_meet
    case rel=>exact⟨v3,v4,wU (v:=v4) H6c.o HNE.o,rL (v:=v4) H7c.o,H3c.o.keepq H7c.o (v:=v4),H4c.o.keepq H7c.o (v:=v4),dC (v:=v4) HWc.o HL7.o⟩
  case rest=>
   generalize wc=wd at *;obtain⟨sb,sc,gA,iA,hvb,hvc,VQ⟩:=hcut;clear H6 H7;obtain⟨H6,H7,FC,HVC⟩:=h_ gA iA hvb hvc;replace HF:=lH (HF.o.up VQ);have HO:Hid (BJ gf gc w wd):=lH (eS VQ);replace SQ:Hid (bE (sg minus b)<=1000000):=lH (by unfold sg;cases minus;exact SQ.o;rw[if_pos rfl,mH];exact SQ.o);replace HSC:Hid (bE (sg minus c)<=1000000):=lH (by unfold sg;cases minus;exact HSC.o;rw[if_pos rfl,mH];exact HSC.o);clear gA iA hvb hvc VQ;generalize JP:sg minus b=sgb at *;generalize hsc:sg minus c=sgc at *;have F3:=lH JP;have OI:=lH hsc;clear JP hsc;(go_upto_region 3 with fail);have gT:=lH (HO.o.below cI.o dN.o (by have:=J0.o;have:=cI.o;omega));have HGw:=lH (HG.o.below gT.o HGG.o);have aJY:=lH (HBO.o.below gT.o OX.o);have rQ:=(F4.o.below gT.o lR).r2;simp only at rQ;have yT:=rQ.2 (by have:=JE.o;have:=iD.o;omega);obtain⟨fb2,fo2,hA,qK,-⟩:=yT;subst hA;have f0:=rQ.at_ (eT HU.o);have tB:fb2<wd.heap.size:=by have:=HO.o.size;have:=cI.o;have:=J0.o;omega
   obtain⟨xe,hx,c0,c1,c2',c3',hv,l1,f1⟩:=HF.o.elem KK.o;have KJ:=lH hx;have I_:=lH hv;have F5:Hid (bE (vf q ui)+bE sgb+1<=35184372088832):=lH (by have h5:=HSQ.o _ (bS (bC KK.o));have h6:=SQ.o;omega);obtain⟨z0,z1,z2,z3,zl⟩:=H6.o.b4;obtain⟨b0,bl⟩:=aJY.o.b1;have y2:=HGw.o.cell 2;have yl:=HGw.o.lt;obtain⟨q0,ql⟩:=HF.o.blk.b1;have f_:(k:Int)<(n2:Int):=by have:=JE.o;have:=iD.o;omega
   have tO:(ui:Int)<(q.length:Int):=by have:=KK.o;omega
   have tP:=lZ ui;have tN:=jM ui;have bP:=lH (aI (Below.refl wd.heap.size wd));clear rQ qK hx hv gT HGw aJY;refine kQ 23 (fun hHeld=>?_);simp only[m_,List.take_zero];refine cR [0,1,2,3,4,5,6,7,8,9,10,11,12,13,14,15,16,17,18,19,20] ?_;refine bI 21 (fun K hK=>?_);go_simp;refine(DO (I_.o.up bP.o) (FC.o.up bP.o) F5.o).mono ?_;rintro e w8 ⟨fJ,v8,rfl,h8⟩;have dS:Hid (Below wd.heap.size wd w8):=lH (bP.o.tm fJ);have H8:=lH h8;clear fJ h8;go_simp;refine iB hK dS.o (fun hHeld=>?_);clear hK K;refine cR [22] ?_;refine eP ?_;clear hHeld;obtain⟨uR,H68,H78,aJD,aJB⟩:=iS (HF.o.up dS.o) (H6.o.bl dS.o) (H7.o.bl dS.o) (FC.o.up dS.o) (HVC.o.up dS.o);have tD:Hid (BJ gf gc w w8):=lH (HO.o.trans (eS dS.o));clear c0 c1 c2' c3' l1 f1 z0 z1 z2 z3 zl b0 bl y2 yl q0 ql f0 tB HF H6 H7 FC HVC HO I_ F5 bP dS;obtain⟨c0,c1,c2',c3',l1,f1⟩:=uR.o.elem2 KJ.o;(go_upto_region 4 with fail);clear c0 c1 c2' c3' l1 f1;have HF:=lH (uR.o.put KK.o H8.o);have H6:=lH (H68.o.far4 (i:=ui) v8 (show g6≠gc by have:=HL6.o;have:=MN.o;omega));have H7:=lH (H78.o.far4 (i:=ui) v8 (show g7≠gc by have:=HL7.o;have:=MN.o;omega));have FC:=lH (uR.o.keep KK.o (x:=v8) aJD.o);have HVC:=lH (uR.o.keep KK.o (x:=v8) aJB.o);have HO:Hid (BJ gf gc w (eG w8 gc ui v8)):=lH (tD.o.trans AG);clear uR H68 H78 aJD aJB tD H8 KJ tO tP tN f_;simp only[eG] at HF H6 H7 FC HVC HO;generalize (((w8.setCell ⟨gc,ui*4,none⟩ _).setCell ⟨gc,ui*4+1,none⟩ _).setCell ⟨gc,ui*4+2,none⟩ _).setCell ⟨gc,ui*4+3,none⟩ _=we at *;have WT:Hid (vi<(q.set ui (vf q ui+sgb)).length):=lH (by rw[kV];exact JW.o);generalize vs.set ui _=vs1 at *;obtain⟨q1,pH⟩:∃q1,q.set ui (vf q ui+sgb)=q1:=⟨_,rfl⟩;have HQE:=lH pH;have mZ:Hid (bE (vf (q.set ui (vf q ui+sgb)) vi)+bE sgb+1<=35184372088832):=lH (by have h5:=aHW (a:=2000001) (u:=ui) (p:=vf q ui+sgb) (fun p hp=>b_ (HSQ.o p hp) (by decide)) (by have:=kJ (vf q ui) sgb;have:=HSQ.o _ (bS (bC KK.o));have:=SQ.o;omega) WT.o;have h6:=SQ.o;omega);rw[pH] at HF WT mZ;clear pH;have gT:=lH (HO.o.below cI.o dN.o (by have:=J0.o;have:=cI.o;omega));have HGw:=lH (HG.o.below gT.o HGG.o);have aJY:=lH (HBO.o.below gT.o OX.o);have rQ:=(F4.o.below gT.o lR).r3;simp only at rQ;have yT:=rQ.2 (by have:=JE.o;have:=tY.o;omega);obtain⟨fb3,fo3,hA,qK,-⟩:=yT;subst hA;have f0:=rQ.at_ (eT HV.o);have tB:fb3<we.heap.size:=by have:=HO.o.size;have:=cI.o;have:=J0.o;omega
   obtain⟨xe,hx,c0,c1,c2',c3',hv,l1,f1⟩:=HF.o.elem WT.o;have KJ:=lH hx;have I_:=lH hv;have F5:Hid (bE (vf q1 vi)+bE sgb+1<=35184372088832):=lH (by exact mZ.o);obtain⟨z0,z1,z2,z3,zl⟩:=H6.o.b4;obtain⟨b0,bl⟩:=aJY.o.b1;have y2:=HGw.o.cell 3;have yl:=HGw.o.lt;obtain⟨q0,ql⟩:=HF.o.blk.b1;have f_:(k:Int)<(n3:Int):=by have:=JE.o;have:=tY.o;omega
   have tO:(vi:Int)<(q1.length:Int):=by have:=WT.o;omega
   have tP:=lZ vi;have tN:=jM vi;have bP:=lH (aI (Below.refl we.heap.size we));clear rQ qK hx hv;refine kQ 23 (fun hHeld=>?_);simp only[m_,List.take_zero];refine cR [0,1,2,3,4,5,6,7,8,9,10,11,12,13,14,15,16,17,18,19,20] ?_;refine bI 21 (fun K hK=>?_);go_simp;refine(MW (I_.o.up bP.o) (FC.o.up bP.o) F5.o).mono ?_;rintro e w8 ⟨fJ,v8,rfl,h8⟩;have dS:Hid (Below we.heap.size we w8):=lH (bP.o.tm fJ);have H8:=lH h8;clear fJ h8;go_simp;refine iB hK dS.o (fun hHeld=>?_);clear hK K;refine cR [22] ?_;refine eP ?_;clear hHeld;obtain⟨uR,H68,H78,aJD,aJB⟩:=iS (HF.o.up dS.o) (H6.o.bl dS.o) (H7.o.bl dS.o) (FC.o.up dS.o) (HVC.o.up dS.o);have tD:Hid (BJ gf gc w w8):=lH (HO.o.trans (eS dS.o));clear c0 c1 c2' c3' l1 f1 z0 z1 z2 z3 zl b0 bl y2 yl q0 ql f0 tB HF H6 H7 FC HVC HO F5;obtain⟨c0,c1,c2',c3',l1,f1⟩:=uR.o.elem2 KJ.o;(go_upto_region 5 with fail);clear c0 c1 c2' c3' l1 f1;have HF:=lH (uR.o.put WT.o H8.o);have H6:=lH (H68.o.far4 (i:=vi) v8 (show g6≠gc by have:=HL6.o;have:=MN.o;omega));have H7:=lH (H78.o.far4 (i:=vi) v8 (show g7≠gc by have:=HL7.o;have:=MN.o;omega));have FC:=lH (uR.o.keep WT.o (x:=v8) aJD.o);have HVC:=lH (uR.o.keep WT.o (x:=v8) aJB.o);have HO:Hid (BJ gf gc w (eG w8 gc vi v8)):=lH (tD.o.trans AG);clear tO tP tN f_;simp only[eG] at HF H6 H7 FC HVC HO;generalize (((w8.setCell ⟨gc,vi*4,none⟩ _).setCell ⟨gc,vi*4+1,none⟩ _).setCell ⟨gc,vi*4+2,none⟩ _).setCell ⟨gc,vi*4+3,none⟩ _=wf at *;have HE:Hid (q1.set vi (vf q1 vi-sgb)=mY sgb ui vi q):=lH (by unfold mY;rw[HQE.o]);rw[HE.o] at HF;generalize nR:mY sgb ui vi q=q2 at *;have sW:=lH nR;clear nR;generalize vs1.set vi _=vs2 at *;have F5:Hid (bE z+bE sgc+1<=35184372088832):=lH (by have:=eC.o;have:=HSC.o;omega);obtain⟨z0,z1,z2,z3,zl⟩:=H7.o.b4;obtain⟨q4,q5,q6,q7,q8,ql⟩:=HF.o.blk.b5;(go_wp2_with fail);refine(DO HF.o.val HVC.o F5.o).mono ?_;rintro e w9 ⟨gD,v9,rfl,h9⟩;have ZX:=lH (HF.o.up gD);have H9:=lH h9;have BY:Hid (BJ gf gc w w9):=lH (HO.o.trans (eS gD));clear gD h9 q4 q5 q6 q7 q8 ql z0 z1 z2 z3 zl;obtain⟨q4,q5,q6,q7,q8,qf,ql⟩:=ZX.o.blk.e5;(go_wp2_with fail)
   go_end0
   exact⟨rfl,BY.o.trans aDP,vs2,v9,by rw[F3.o,OI.o,sW.o];exact ZX.o.free H9.o⟩
def mK(bus u v:Nat)(b c:Rat)(s:List Rat×Rat):List Rat×Rat:=
 let s1:=if u=bus then(mY (sg false b) u v s.1,s.2+sg false c) else s
 if v=bus then(mY (sg true b) u v s1.1,s1.2+sg true c) else s1
def qH(bus:Nat):List Rat->List Rat->List Nat->List Nat->List Rat×Rat->List Rat×Rat
 | b::bs,c::cs,u::us,v::vs,s=>qH bus bs cs us vs (mK bus u v b c s)
 | _,_,_,_,s=>s
def kT(n:Nat):List Rat:=List.replicate n 0
def aS(x:bK)(m:Mi):List Rat×Rat:=
 if m.kind=0 then(mY (sg false (vf (mB x) (mV x m.name).toNat)) ((hO x).getD (mV x m.name).toNat 0) ((BR x).getD (mV x m.name).toNat 0) (kT (aH x)),0+sg false (vf (mC x) (mV x m.name).toNat))
 else if m.kind=2 then((kT (aH x)).set (aG x m.name) 1,0)
 else qH (aG x m.name) (mB x) (mC x) (hO x) (BR x) (kT (aH x),0)
def aTe(x:bK)(m:Mi)(w:Wo)(e:Ending)(w':Wo):Prop:=Below w.heap.size w w'/\∃(gc:Nat)(u:Rv),e=.returned (.agg #[.slice (some ⟨gc,0,none⟩) (aH x) (aH x),.bool u.b1,.slice u.A u.n u.c,.bool u.b2,.slice u.A2 u.m u.d])/\iE w' w'.heap.size (some ⟨gc,0,none⟩) (aH x) (aS x m).1/\cU w' w'.heap.size (aS x m).2 u
theorem qE(ok:bJ x):(DA x).length=aH x:=by
 have h:=(AJ ok).2;unfold gL at h;rwa[iT] at h
theorem nJ(g:Nat)(m:iC)(y:Value)(w:Wo)(hg:aD w g 122 (m.cells y)):Calls Tryz.prog 96 #[.pointer (some ⟨g,0,none⟩)] w fun e w'=>e=.returned (.int .i64 (m.n1:Int))/\w=w':=by
 have y1:=hg.cell 1;have yl:=hg.lt;obtain⟨A0,n0,c0,A1,n1,c1,A2,n2,c2,A3,n3,c3,A4,n4,c4,A5,n5,c5,A6,n6,c6⟩:=m;simp only[iC.cells] at y1;clear hg;go_enter Tryz.func96,Tryz.ntmps96
 go_wp2_with fail
 go_ret;exact⟨rfl,rfl⟩
def mkF(w:Wo)(gc n:Nat)(u:Rv):World:=w.alloc (.cells #[.slice (some ⟨gc,0,none⟩) n n,.bool u.b1,.slice u.A u.n u.c,.bool u.b2,.slice u.A2 u.m u.d] 117)
theorem sS:Below w.heap.size w (mkF w gc n u):=(Below.refl _ w).alloc lR _
theorem LU{v:Rv}(hc:aD w gc 115 (fI (List.replicate n v)).toArray)(hv:cU w w.heap.size 0 v)(hu:cU w w.heap.size 0 u):DV (mkF w gc n u) w.heap.size gc (List.replicate n v) u (kT n) 0:=by
 refine⟨?_,⟨_,hc.bl sS,?_⟩,by simp[kT],fun i p x hp hx=>?_,hu.up sS⟩
 ·unfold mkF kT
  rw[qV];exact aD.new w _ _
 ·have hl:(fI (List.replicate n v)).length=n*4:=(dW _).trans (by rw[qV])
  rw[kT,qV];exact nT (Nat.le_of_eq hl)
 ·unfold kT at hp
  rw[List.getElem?_replicate] at hp hx;split at hp
  ·rename_i h
   rw[if_pos h] at hx;rw[<-Option.some.inj hp,<-Option.some.inj hx];exact hv.up sS
  ·cases hp
def put5(w:Wo)(p gc n:Nat)(u:Rv):World:=((((w.setCell ⟨p,0,none⟩ (.slice (some ⟨gc,0,none⟩) n n)).setCell ⟨p,1,none⟩ (.bool u.b1)).setCell ⟨p,2,none⟩ (.slice u.A u.n u.c)).setCell ⟨p,3,none⟩ (.bool u.b2)).setCell ⟨p,4,none⟩ (.slice u.A2 u.m u.d)
theorem aAB(w:Wo)(p gc n:Nat)(u:Rv):(put5 w p gc n u).heap.size=w.heap.size:=by simp[put5]
theorem nM{a:Wo}{B p:Nat}(h:Below B a w)(hp:B<=p):Below B a (put5 w p gc n u):=((((h.setCell hp _).setCell hp _).setCell hp _).setCell hp _).setCell hp _
theorem cU.keep5{p T:Nat}{y:Rv}{t:Rat}(h:cU w w.heap.size t y)(hb:aD w p T #[.slice none 0 0,.bool false,.slice none 0 0,.bool false,.slice none 0 0]):cU (put5 w p gc n u) (put5 w p gc n u).heap.size t y:=by
 have B0:=hb.set_at (i:=0) (cs':=#[.slice (some ⟨gc,0,none⟩) n n,.bool false,.slice none 0 0,.bool false,.slice none 0 0]) (.slice (some ⟨gc,0,none⟩) n n) (by simp);have B1:=B0.set_at (i:=1) (cs':=#[.slice (some ⟨gc,0,none⟩) n n,.bool u.b1,.slice none 0 0,.bool false,.slice none 0 0]) (.bool u.b1) (by simp);have B2:=B1.set_at (i:=2) (cs':=#[.slice (some ⟨gc,0,none⟩) n n,.bool u.b1,.slice u.A u.n u.c,.bool false,.slice none 0 0]) (.slice u.A u.n u.c) (by simp);have B3:=B2.set_at (i:=3) (cs':=#[.slice (some ⟨gc,0,none⟩) n n,.bool u.b1,.slice u.A u.n u.c,.bool u.b2,.slice none 0 0]) (.bool u.b2) (by simp);exact(((((h.keep1 hb (i:=0) (y:=.slice none 0 0) rfl iF _).keep1 B0 (i:=1) (y:=.bool false) rfl (fun k x h=>by cases h) _).keep1 B1 (i:=2) (y:=.slice none 0 0) rfl iF _).keep1 B2 (i:=3) (y:=.bool false) rfl (fun k x h=>by cases h) _).keep1 B3 (i:=4) (y:=.slice none 0 0) rfl iF _)
theorem sF{p T:Nat}(hb:aD w p T #[.slice none 0 0,.bool false,.slice none 0 0,.bool false,.slice none 0 0]):aD (put5 w p gc n u) p T #[.slice (some ⟨gc,0,none⟩) n n,.bool u.b1,.slice u.A u.n u.c,.bool u.b2,.slice u.A2 u.m u.d]:=by
 have B0:=hb.set_at (i:=0) (cs':=#[.slice (some ⟨gc,0,none⟩) n n,.bool false,.slice none 0 0,.bool false,.slice none 0 0]) (.slice (some ⟨gc,0,none⟩) n n) (by simp);have B1:=B0.set_at (i:=1) (cs':=#[.slice (some ⟨gc,0,none⟩) n n,.bool u.b1,.slice none 0 0,.bool false,.slice none 0 0]) (.bool u.b1) (by simp);have B2:=B1.set_at (i:=2) (cs':=#[.slice (some ⟨gc,0,none⟩) n n,.bool u.b1,.slice u.A u.n u.c,.bool false,.slice none 0 0]) (.slice u.A u.n u.c) (by simp);have B3:=B2.set_at (i:=3) (cs':=#[.slice (some ⟨gc,0,none⟩) n n,.bool u.b1,.slice u.A u.n u.c,.bool u.b2,.slice none 0 0]) (.bool u.b2) (by simp);exact B3.set_at (i:=4) (.slice u.A2 u.m u.d) (by simp)
theorem DV.rdq{z:Rat}(f:DV w gf gc vs u q z){p T:Nat}{y:Rv}(hb:aD w p T #[.slice none 0 0,.bool false,.slice none 0 0,.bool false,.slice none 0 0])(hp:gc≠p):iE (put5 w p gc n y) (put5 w p gc n y).heap.size (some ⟨gc,0,none⟩) q.length q:=by
 obtain⟨cs,h1,h2⟩:=f.row;have hf:aD (put5 w p gc n y) gc 115 cs:=((((h1.far hp _).far hp _).far hp _).far hp _).far hp _;refine⟨vs,f.len,rfl,⟨by rw[dW,f.len],fun hn=>⟨gc,0,rfl,hf.lt,fun i v hv=>?_⟩⟩,fun i t v ht hv=>(f.ok i t v ht hv).keep5 hb⟩;rw[Nat.zero_add,hf.cell];rw[<-h2] at hv;rw[List.getElem?_take] at hv;split at hv
 ·rwa[Array.getElem?_toList] at hv
 ·cases hv
theorem aDg{m:Bool}{b:Rat}:bE (sg m b)=bE b:=by
 unfold sg;cases m
 ·rfl
 ·rw[if_pos rfl,mH]
structure OP (n K:Nat) (s:List Rat×Rat):Prop where
 len:s.1.length=n
 cf:∀p∈s.1,bE p<=K
 fr:bE s.2<=K
theorem F7(n:Nat):OP n 2 (kT n,0):=by
 have h:bE (0:Rat)<=2:=dP 0 (by decide) (by decide);refine⟨by simp[kT],fun p hp=>?_,h⟩;rw[List.eq_of_mem_replicate hp];exact h
theorem OP.mono{K':Nat}{s:List Rat×Rat}(h:OP n K s)(hk:K<=K'):OP n K' s:=⟨h.len,fun p hp=>b_ (h.cf p hp) hk,b_ h.fr hk⟩
theorem OP.add{u v:Nat}{s:List Rat×Rat}{b c:Rat}(mi:Bool)(h:OP n K s)(hu:u<n)(hv:v<n)(hb:bE b<=1)(hc:bE c<=2):OP n (K+6) (mY (sg mi b) u v s.1,s.2+sg mi c):=by
 have hb':bE (sg mi b)<=1:=by rw[aDg];exact hb
 have h1:bE (vf s.1 u+sg mi b)<=K+2:=by
  have a:=kJ (vf s.1 u) (sg mi b);have c:=h.cf _ (bS (bC (i:=u) (by rw[h.len];exact hu)));omega
 have h2:∀p∈s.1.set u (vf s.1 u+sg mi b),bE p<=K+2:=fun p hp=>by
  rcases List.mem_or_eq_of_mem_set hp with e | e
  ·exact b_ (h.cf p e) (by omega)
  ·rw[e];exact h1
 refine⟨by rw[mX];exact h.len,fun p hp=>?_,?_⟩
 ·unfold mY at hp
  rcases List.mem_or_eq_of_mem_set hp with e | e
  ·exact b_ (h2 p e) (by omega)
  ·have a:=kJ (vf (s.1.set u (vf s.1 u+sg mi b)) v) (-(sg mi b))
   have c:=h2 _ (bS (bC (i:=v) (by rw[kV,h.len];exact hv)));rw[mH] at a;rw[e,Rat.sub_eq_add_neg];omega
 ·have a:=kJ s.2 (sg mi c)
  rw[aDg (b:=c)] at a;have:=h.fr;show bE (s.2+sg mi c)<=_;omega
theorem ID{bus:Nat}{B C:List Rat}{F G:List Nat}{s:List Rat×Rat}{u v:Nat}{b c:Rat}(h1:B[k]?=some b)(h0:C[k]?=some c)(h2:F[k]?=some u)(h3:G[k]?=some v):qH bus (B.drop k) (C.drop k) (F.drop k) (G.drop k) s=qH bus (B.drop (k+1)) (C.drop (k+1)) (F.drop (k+1)) (G.drop (k+1)) (mK bus u v b c s):=by
 rw[bX h1,bX h0,bX h2,bX h3];rfl
theorem tW{b:Br}(h:b.bad=false):bE (jD b)<=2:=by
 have a:=eF (dB b) (Rat.divInt (-b.shift) 1000);have c:=o_ h;have d:=KX h;unfold jD;omega
structure aCd (w:Wo) (B gb g:Nat) (m:iC) (y:Value) (x:bK) (gf gc:Nat):Prop where
 b1:B<=gf
 b2:B<=gc
 lb:gb<B
 lg:g<B
 hs:B<=w.heap.size
 box:aD w gb 90 #[.pointer (some ⟨g,0,none⟩)]
 md:aD w g 122 (m.cells y)
 rd:eK w B m x
theorem aCd.oth{B gb:Nat}{m:iC}(h:aCd w B gb g m y x gf gc)(o:BJ gf gc w w'):aCd w' B gb g m y x gf gc:=by
 have hb:=o.below h.b1 h.b2 h.hs;exact⟨h.b1,h.b2,h.lb,h.lg,b_ h.hs o.size,h.box.below hb h.lb,h.md.below hb h.lg,h.rd.below hb lR⟩
theorem oI{B gb:Nat}{m:iC}(E:aCd w B gb g m y x gf gc){s:List Rat×Rat}(f:DV w gf gc vs u s.1 s.2)(hs:OP n K s)(hK:K<=1000000)(hn:n=aH x)(h8:x.nodes.length<=8)(ok:bJ x){b:Br}(hb:x.brs[k]?=some b)(minus:Bool):Calls Tryz.prog 107 #[.int .i64 (k:Int),.bool minus,.pointer (some ⟨gb,0,none⟩),.pointer (some ⟨gf,0,none⟩)] w (aTn gf gc (dB b) (jD b) minus (aG x b.fr) (aG x b.to) s.1 s.2 w):=by
 obtain⟨a1,a2,a3,a4⟩:=jW hb;have hm:=ok.br b (bS hb);have hB:=(eW ok).2;have l1:=(bU ok hm.1).2.1;have l2:=(bU ok hm.2.1).2.1;have hl:=hs.len;exact aGd gb g m y x gf gc vs u s.1 s.2 k minus _ _ _ _ w B E.b1 E.b2 E.lb E.lg E.box E.md E.rd f a3 a4 a1 a2 (by omega) (by omega) (by have:=ok.l2;omega) (by omega) (fun p hp=>b_ (hs.cf p hp) hK) (b_ (o_ hm.2.2.2) (by decide)) (b_ (tW hm.2.2.2) (by decide)) (b_ hs.fr hK)
theorem pJ(ok:bJ x){s:List Rat×Rat}(hs:OP n K s)(hn:n=aH x){b:Br}(hb:x.brs[k]?=some b)(minus:Bool):OP n (K+6) (mY (sg minus (dB b)) (aG x b.fr) (aG x b.to) s.1,s.2+sg minus (jD b)):=by
 have hm:=ok.br b (bS hb);exact hs.add minus (by rw[hn];exact(bU ok hm.1).2.1) (by rw[hn];exact(bU ok hm.2.1).2.1) (o_ hm.2.2.2) (tW hm.2.2.2)
def fM(x:bK)(q:List Rat):List Rat:=(aA x).map (vf q)
theorem sO(h:j∈aA x):j<aH x:=by
 unfold aA kR at h;have h2:=(List.mem_filter.1 h).1;exact List.mem_range.1 h2
theorem aH0(h:(aA x)[k]?=some j):(fM x q).take (k+1)=(fM x q).take k++[vf q j]:=by
 have h2:(fM x q)[k]?=some (vf q j):=by unfold fM;rw[lT,h];rfl
 exact gJ h2
def aWJ(x:bK)(q:List Rat)(w:Wo)(e:Ending)(w':Wo):Prop:=Below w.heap.size w w'/\∃B v us,w.heap.size<=B/\e=.returned v/\dD w' B v us (fM x q)
theorem G0(g:Nat)(m:iC)(y:Value)(x:bK)(ok:bJ x)(h8:x.nodes.length<=8)(u:Rv)(A:OA)(n c:Nat)(q:List Rat)(w:Wo)(hg:aD w g 122 (m.cells y))(hr:eK w w.heap.size m x)(hq:iE w w.heap.size A n q)(hn:n=aH x):Calls Tryz.prog 90 #[.pointer (some ⟨g,0,none⟩),.agg #[.slice A n c,.bool u.b1,.slice u.A u.n u.c,.bool u.b2,.slice u.A2 u.m u.d]] w (aWJ x q w):=by
 have K0:=jO w (.cells #[.slice A n c,.bool u.b1,.slice u.A u.n u.c,.bool u.b2,.slice u.A2 u.m u.d] 117);obtain⟨HK,wY,HG,HR,HQ⟩:=iS K0 (aD.new w 117 #[.slice A n c,.bool u.b1,.slice u.A u.n u.c,.bool u.b2,.slice u.A2 u.m u.d]) (hg.bl K0) (hr.up K0) (hq.up K0);have JY:=lH hn;have FG:Hid ((aA x).length=m.n6):=lH (by rw[<-eO];exact hr.r6.len);have h6:m.n6<=8:=by rw[<-FG.o];exact fN ok h8
 have lP:Hid (q.length=n):=lH (by obtain⟨vs,_,h,_⟩:=hq;exact h);have hnb:n<=8:=by rw[hn];exact b_ (eW ok).2 h8
 have eC:Hid (w.heap.size<=(w.alloc (.cells #[.slice A n c,.bool u.b1,.slice u.A u.n u.c,.bool u.b2,.slice u.A2 u.m u.d] 117)).heap.size):=lH K0.size;have HFW:Hid (w.heap.size<(w.alloc (.cells #[.slice A n c,.bool u.b1,.slice u.A u.n u.c,.bool u.b2,.slice u.A2 u.m u.d] 117)).heap.size):=lH wY.o.lt;clear K0 hg hr hq hn ok;obtain⟨A0,n0,c0,A1,n1,c1,A2,n2,c2,A3,n3,c3,A4,n4,c4,A5,n5,c5,A6,n6,c6⟩:=m;simp only[iC.cells] at HG FG h6;have y6:=HG.o.cell 6;have yl:=HG.o.lt;go_enter Tryz.func90,Tryz.ntmps90
 go_wp2_with fail
 clear y6 yl;generalize w.alloc (.cells #[.slice A n c,.bool u.b1,.slice u.A u.n u.c,.bool u.b2,.slice u.A2 u.m u.d] 117)=W at *
 go_loopw [5,13] (fun v5 v13 wr=>∃(k:Nat)(us:List Rv),k<=n6/\v13=.int .i64 k/\dD wr W.heap.size v5 us ((fM x q).take k)/\Below W.heap.size W wr) (fun _ v13 _=>n6-(intOf v13).toNat)
 case atStart=>exact⟨0,[],by omega,rfl,kC _ _,bR⟩
 case round=>
  obtain⟨k,us,hk,rfl,ho,hb⟩:=hrel;have HO:=lH ho;have HB:=lH hb;clear ho hb;by_cases aR:k<n6
  ·obtain⟨j,hj⟩:∃j,(aA x)[k]?=some j:=eE (by have:=FG.o;omega)
   have EQ:=lH (aH0 (q:=q) hj);have hjb:j<n:=by rw[JY.o];exact sO (bS hj)
   have pG:=(HR.o.up HB.o).r6;simp only at pG;obtain⟨fb,fo,hA,qK,-⟩:=pG.2 (by have:=pG.len;omega);subst hA;have f0:=pG.at_ (eT hj);have HQW:=HQ.o.up HB.o;obtain⟨ab,ao,AV,lO⟩:=HQW.form (by omega);subst AV;obtain⟨xe,a0,a1,a2,a3,a4⟩:=HQW.at_ (bC (i:=j) (by rw[lP.o];exact hjb));have HX:=lH a4;have aSW:=wY.o.bl HB.o;obtain⟨z0,zl⟩:=aSW.b1;have f_:(k:Int)<(n6:Int):=by omega
   have kO:=lZ k;have rR:=jM k;have hjI:(j:Int)<(n:Int):=by omega
   have NU:=lZ j;have tA:=jM j;have kL:=lN k;have iR:Hid (n6-(k+1)<n6-k):=lH (by omega);have JZ:Hid (W.heap.size<=wr.heap.size):=lH HB.o.size;clear hj a4 pG HQW aSW
   go_wp2_with (at_builtin;refine rC rfl (.tmp 17) (.tmp 23) _ rfl W.heap.size Tryz.underlying93 u5 us _ rfl HO.o xe _ HX.o rfl ?k1 JZ.o ?_)
   case k1=>rw[jN];omega
   intro v' w8 aW hkeep fJ;have tD:=lH aW;have dS:=lH (HB.o.trans fJ);clear aW hkeep fJ f0 a0 a1 a2 a3 z0 zl;(go_wp2_with fail);go_roundw
   case rel=>exact⟨k+1,us++[xe],aR,aQ kL.o,by rw[EQ.o];exact tD.o,dS.o⟩
   case measure=>exact iR.o
  ·have mL:k=n6:=by omega
   have ML:Hid (dD wr W.heap.size u5 us (fM x q)):=lH (by
    have h:=HO.o;rw[nT (by unfold fM;rw[iT];have:=FG.o;omega)] at h;exact h)
   have f_:¬(k:Int)<(n6:Int):=by omega
   (go_wp2_with fail);go_ret;exact⟨HK.o.trans (HB.o.mono eC.o),_,_,_,eC.o,rfl,ML.o⟩
end
section
open Go.ChangeShapes Go.WideShapes Go.ChangeAt Go.RowKit
attribute [local go_sem ↓] aE
attribute [local go_sem] aL aK aO a_ bZ.cells
def uX(v:Vc):Bool:=v.ss.all fun s=>decide (s.size<=24)
def jB(x:bK)(ms:List Mi)(vs:List Vc):Bool:=decide (x.nodes.length<=8) && decide (x.brs.length<=10) && ms.all (fun m=>decide (m.txt.size<=24)) && vs.all uX
theorem I4{α:Type}{l:List α}{x:α}(f:α->Bool)(h:l[k]?=some x):(l.drop k).all f=(f x && (l.drop (k+1)).all f):=by rw[bX h];rfl
theorem KW(h:bZ)(x:bK)(A:OA)(n c:Nat)(ms:List Mi)(B:OA)(m d:Nat)(vs:List Vc)(w:Wo)(r:cL w w.heap.size h x)(hm:eB w w.heap.size A n ms)(hv:xK w w.heap.size B m vs)(hn:n<=9223372036854775807)(qJ:m<=9223372036854775807):Calls Tryz.prog 16 #[.agg h.cells,.slice A n c,.slice B m d] w fun e w'=>e=.returned (.bool (jB x ms vs))/\Below w.heap.size w w':=by
 have K0:=jO w (.cells h.cells 29);obtain⟨HK,HM,lB,HV,JW⟩:=iS K0 hm hm.1 hv hv.1;have l0:=r.r0.1;have l2:=r.r2.1;have m0:=r.m0;have m2:=r.m2;obtain⟨y0,y1,y2,y3,y4,y5,nf,nlt⟩:=aX (aD.new w 29 h.cells);simp only[bZ.cells] at HK y0 y1 y2 y3 y4 y5 nf nlt;clear K0 r hm hv;go_enter Tryz.func16,Tryz.ntmps16
 go_upto_region 1 with fail
 generalize w.alloc (.cells #[.slice h.A0 h.n0 h.c0,.slice h.A1 h.n1 h.c1,.slice h.A2 h.n2 h.c2,.slice h.A3 h.n3 h.c3,.slice h.A4 h.n4 h.c4,.slice h.A5 h.n5 h.c5] 29)=W at *;by_cases g0:8<h.n0
 ·have g0I:(8:Int)<(h.n0:Int):=by omega
  have HE:Hid (jB x ms vs=false):=lH (by unfold jB;rw[decide_eq_false (by rw[l0];omega)];rfl);(go_wp2_with fail);go_ret;exact⟨by rw[HE.o];rfl,HK.o⟩
 ·by_cases g2:10<h.n2
  ·have g0I:¬(8:Int)<(h.n0:Int):=by omega
   have g2I:(10:Int)<(h.n2:Int):=by omega
   have HE:Hid (jB x ms vs=false):=lH (by unfold jB;rw[decide_eq_false (p:=x.brs.length<=10) (by rw[l2];omega),Bool.and_false];rfl);(go_wp2_with fail);go_ret;exact⟨by rw[HE.o];rfl,HK.o⟩
  ·have g0I:¬(8:Int)<(h.n0:Int):=by omega
   have g2I:¬(10:Int)<(h.n2:Int):=by omega
   have HS:Hid (jB x ms vs=(ms.all (fun m=>decide (m.txt.size<=24)) && vs.all uX)):=lH (by unfold jB;rw[decide_eq_true (by rw[l0];omega),decide_eq_true (by rw[l2];omega)];rfl);clear g0 g2 m0 m2;(go_wp2_with fail);clear g0I g2I y0 y1 y2 y3 y4 y5 nf nlt l0 l2
   go_loopw [25] (fun v25 wr=>∃k:Nat,k<=n/\v25=.int .i64 k/\ms.all (fun m=>decide (m.txt.size<=24))=(ms.drop k).all (fun m=>decide (m.txt.size<=24))/\Below w.heap.size w wr) (fun v25 _=>n-(intOf v25).toNat)
   case atStart=>exact⟨0,by omega,rfl,rfl,HK.o⟩
   case round=>
    clear HK;obtain⟨k,hk,rfl,oR,hb⟩:=hrel;have HG:=lH oR;have HB:=lH hb;clear oR hb;by_cases aR:k<n
    ·obtain⟨z,hz⟩:∃z,ms[k]?=some z:=eE (by have:=lB.o;omega)
     obtain⟨b,off,hA,hb⟩:=(HM.o.below HB.o lR).form (by omega);subst hA;obtain⟨c0,c1,c2,c3⟩:=(HM.o.below HB.o lR).at_ hz;have qL:b<wr.heap.size:=kA hb HB.o.size;have HD:=lH (I4 (fun m:Mi=>decide (m.txt.size<=24)) hz);have f_:(k:Int)<(n:Int):=by omega
     have eY:=lN k;have iD:Hid (n-(k+1)<n-k):=lH (by omega);clear hz hb;(go_upto_region 6 with fail);clear c0 c1 c2 c3;generalize EC:wr.alloc (.cells #[.int .i64 z.kind,.string z.name,.string z.txt,.int .i64 z.wt] 57)=wa;have qM:Below wr.heap.size wr wa:=by rw[<-EC];exact bA
     have HZ:Hid (aD wa wr.heap.size 57 #[.int .i64 z.kind,.string z.name,.string z.txt,.int .i64 z.wt]):=lH (by rw[<-EC];exact aD.new wr _ _);have OZ:=cJ HB qM;clear EC qM qL HB;obtain⟨c0,c1,c2,c3,cf,cl⟩:=Mi.box HZ.o;clear HZ;by_cases hs:24<z.txt.size
     ·have hsI:(24:Int)<(z.txt.size:Int):=by omega
      have HE:Hid (jB x ms vs=false):=lH (by rw[HS.o,HG.o,HD.o,decide_eq_false (by omega)];rfl);(go_wp2_with fail);go_ret;exact⟨by rw[HE.o];rfl,OZ.o⟩
     ·have hsI:¬(24:Int)<(z.txt.size:Int):=by omega
      have HE:Hid (ms.all (fun m=>decide (m.txt.size<=24))=(ms.drop (k+1)).all (fun m=>decide (m.txt.size<=24))):=lH (by rw[HG.o,HD.o,decide_eq_true (by omega),Bool.true_and]);clear hs;(go_wp2_with fail);go_roundw
      case rel=>exact⟨k+1,aR,aQ eY.o,HE.o,OZ.o⟩
      case measure=>exact iD.o
    ·have f_:¬(k:Int)<(n:Int):=by omega
     have mZ:Hid (jB x ms vs=vs.all uX):=lH (by rw[HS.o,HG.o,List.drop_eq_nil_of_le (by have:=lB.o;omega)];rfl);clear HS HG;(go_wp2_with fail);clear f_ hk aR;generalize wr=wz at *
     go_loopw [36] (fun v36 wr=>∃k:Nat,k<=m/\v36=.int .i64 k/\vs.all uX=(vs.drop k).all uX/\Below w.heap.size w wr) (fun v36 _=>m-(intOf v36).toNat)
     case atStart=>exact⟨0,by omega,rfl,rfl,HB.o⟩
     case round=>
      clear HB;obtain⟨i,hi,rfl,oR,hb⟩:=hrel;have HG:=lH oR;have HB:=lH hb;clear oR hb;by_cases aR:i<m
      ·obtain⟨v,hv⟩:∃v,vs[i]?=some v:=eE (by have:=JW.o;omega)
       obtain⟨b,off,hA,hb⟩:=(HV.o.below HB.o lR).form (by omega);subst hA;have c0:=(HV.o.below HB.o lR).at_ hv;have qL:b<wr.heap.size:=kA hb HB.o.size;have HD:=lH (I4 uX hv);have I_:=lH (HV.o.2.2 v (bS hv)).1;have hvn:=(HV.o.2.2 v (bS hv)).2;have BS:(i:Int)<(m:Int):=by omega
       have HM1:=lN i;have HM2:Hid (m-(i+1)<m-i):=lH (by omega);clear hv hb;(go_wp2_with fail);clear c0 qL;generalize wr=wy at *
       go_loopw [42] (fun v42 wr=>∃k:Nat,k<=v.n/\v42=.int .i64 k/\uX v=(v.ss.drop k).all (fun s=>decide (s.size<=24))/\Below w.heap.size w wr) (fun v42 _=>v.n-(intOf v42).toNat)
       case atStart=>exact⟨0,by omega,rfl,rfl,HB.o⟩
       case round=>
        clear HB;obtain⟨k,hk,rfl,oR,hb⟩:=hrel;have jA:=lH oR;have HB:=lH hb;clear oR hb;have HVN:=lH I_.o.1;by_cases aMo:k<v.n
        ·obtain⟨s,hs⟩:∃s,v.ss[k]?=some s:=eE (by have:=HVN.o;omega)
         obtain⟨b2,off2,KF,hb⟩:=(I_.o.below HB.o lR).form (by omega);have c0:=I_.o.below HB.o lR;rw[KF] at c0;replace c0:=c0.at_ hs;have qL:b2<wr.heap.size:=kA hb HB.o.size;have HD2:=lH (I4 (fun s:ByteArray=>decide (s.size<=24)) hs);have f_:(k:Int)<(v.n:Int):=by omega
         have eY:=lN k;have iD:Hid (v.n-(k+1)<v.n-k):=lH (by omega);clear hs hb;by_cases hz:24<s.size
         ·have hsI:(24:Int)<(s.size:Int):=by omega
          have HE:Hid (jB x ms vs=false):=lH (by rw[mZ.o,HG.o,HD.o,jA.o,HD2.o,decide_eq_false (by omega)];rfl);(go_wp2_with fail);go_ret;exact⟨by rw[HE.o];rfl,HB.o⟩
         ·have hsI:¬(24:Int)<(s.size:Int):=by omega
          have HE:Hid (uX v=(v.ss.drop (k+1)).all (fun s=>decide (s.size<=24))):=lH (by rw[jA.o,HD2.o,decide_eq_true (by omega),Bool.true_and]);clear hz;(go_wp2_with fail);go_roundw
          case rel=>exact⟨k+1,aMo,aQ eY.o,HE.o,HB.o⟩
          case measure=>exact iD.o
        ·have f_:¬(k:Int)<(v.n:Int):=by omega
         have HT:Hid (uX v=true):=lH (by rw[jA.o,List.drop_eq_nil_of_le (by have:=HVN.o;omega)];rfl);have HE:Hid (vs.all uX=(vs.drop (i+1)).all uX):=lH (by rw[HG.o,HD.o,HT.o,Bool.true_and]);(go_wp2_with fail);go_roundw
         case rel=>exact⟨i+1,aR,aQ HM1.o,HE.o,HB.o⟩
         case measure=>exact HM2.o
      ·have BS:¬(i:Int)<(m:Int):=by omega
       have HE:Hid (jB x ms vs=true):=lH (by rw[mZ.o,HG.o,List.drop_eq_nil_of_le (by have:=JW.o;omega)];rfl);(go_wp2_with fail);go_ret;exact⟨by rw[HE.o];rfl,HB.o⟩
end
section
open Go.ChangeShapes Go.WideShapes Go.ChangeAt Go.RowKit
attribute [local go_sem ↓] aE
attribute [local go_sem] aL aK aO a_
def aJz(u:Value):Prop:=∃A n c,u=.slice A n c
structure I5 (w:Wo) (base:Nat) (v:Value) (hs:List Hd) (vss:List (List ByteArray)):Prop where
 own:bB aJz w base 35 1 v hs.length (hs.map Hd.val)
 len:hs.length=vss.length
 rows:∀(i:Nat)(h:Hd)(ss:List ByteArray),hs[i]?=some h->vss[i]?=some ss->bD w w.heap.size h.A h.n ss/\h.n<=9223372036854775807
theorem bD.keepsSl{A:OA}{ss:List ByteArray}(h:bD w w.heap.size A n ss)(k:dU aJz base e w w'):bD w' w'.heap.size A n ss:=by
 refine⟨h.1,h.2.1,fun hn=>?_⟩;obtain⟨b,off,e1,aR,hc⟩:=h.2.2 hn;refine⟨b,off,e1,kA aR k.size,fun j u hu=>k.cell _ _ (hc j u hu) ?_⟩;rintro⟨A',n',c',rfl⟩;have:=bS hu;unfold fC at this;obtain⟨s,-,e2⟩:=List.mem_map.1 this;cases e2
theorem I5.keep{hs:List Hd}{vss:List (List ByteArray)}(m:I5 w base v hs vss)(hb:Below w.heap.size w w'):I5 w' base v hs vss:=⟨m.own.keep hb,m.len,fun i h q hh hq=>by
 obtain⟨h1,h2⟩:=m.rows i h q hh hq;exact⟨(h1.below hb lR).more hb.size,h2⟩⟩
theorem I5.app{v':Value}{hs:List Hd}{vss:List (List ByteArray)}{z:Hd}{ss:List ByteArray}(m:I5 w base v hs vss)(hp:bD w w.heap.size z.A z.n ss/\z.n<=9223372036854775807)(h1:bB aJz w' base 35 1 v' (hs.length+1) (hs.map Hd.val++[z.val]))(k:dU aJz base 35 w w'):I5 w' base v' (hs++[z]) (vss++[ss]):=by
 refine⟨by rw[g_,List.length_singleton,List.map_append];exact h1,by rw[g_,g_,m.len];rfl,fun i h q hh hq=>?_⟩;by_cases hi:i<vss.length
 ·rw[yC hi] at hq
  rw[yC (by rw[m.len];exact hi)] at hh;obtain⟨r1,r2⟩:=m.rows i h q hh hq;exact⟨r1.keepsSl k,r2⟩
 ·rw[BP (by omega)] at hq
  rw[BP (by rw[m.len];omega),m.len] at hh;have EI:=(cY.1 hq).1;rw[List.length_singleton] at EI;have:i-vss.length=0:=by omega
  rw[this] at hq hh;simp at hq hh;subst hq;subst hh;exact⟨hp.1.keepsSl k,hp.2⟩
theorem O2:∀(hs:List Hd) (vss:List (List ByteArray)),hs.length=vss.length->(List.zipWith (fun(h:Hd) ss=>(⟨h.A,h.n,h.c,ss⟩:Vc)) hs vss).flatMap Vc.cells=hs.map Hd.val
 | [],_,_=>rfl
 | h::hs,[],e=>by simp at e
 | h::hs,ss::vss,e=>by
  rw[List.zipWith_cons_cons,List.flatMap_cons,O2 hs vss (by simpa using e)];rfl
theorem I5.rd{hs:List Hd}{vss:List (List ByteArray)}(m:I5 w base v hs vss):∃A c vs,v=.slice A vss.length c/\xK w w.heap.size A vss.length vs/\vs.map Vc.ss=vss/\vss.length<=c/\c<=maxLen:=by
 obtain⟨A,c,hv,hr,h1,h2,h3⟩:=oV m.own.own;rw[m.len] at hv hr h1;have hl:=m.len;refine⟨A,c,List.zipWith (fun(h:Hd) ss=>(⟨h.A,h.n,h.c,ss⟩:Vc)) hs vss,hv,⟨by rw[List.length_zipWith];omega,by rw[O2 hs vss hl];exact hr,fun u hu=>?_⟩,?_,h1,h2⟩
 ·obtain⟨i,hi⟩:=List.mem_iff_getElem?.1 hu
  rw[List.getElem?_zipWith] at hi;cases hh:hs[i]? with
  | none=>rw[hh] at hi;simp at hi
  | some h=>
   cases hq:vss[i]? with
   | none=>rw[hh,hq] at hi;simp at hi
   | some q=>
    rw[hh,hq] at hi;simp at hi;subst hi;exact m.rows i h q hh hq
 ·apply List.ext_getElem?
  intro i;rw[lT,List.getElem?_zipWith];cases hq:vss[i]? with
  | none=>
   cases hh:hs[i]? with
   | none=>rfl
   | some h=>rfl
  | some q=>
   have hi:=(cY.1 hq).1;obtain⟨h,hh⟩:∃h,hs[i]?=some h:=eE (by omega);rw[hh];rfl
end
