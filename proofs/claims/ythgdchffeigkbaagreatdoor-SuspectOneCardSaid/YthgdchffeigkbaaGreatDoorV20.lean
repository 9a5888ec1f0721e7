import Derived.Test.YthgdchffeigkbaaGreatDoorV11
import Derived.Test.YthgdchffeigkbaaGreatDoorV16
import Derived.Test.YthgdchffeigkbaaGreatDoorV17
set_option linter.unusedVariables false
set_option linter.unusedSimpArgs false
namespace Go.Proofs.YthgdchffeigkbaaGreatDoor
set_option maxHeartbeats 8000000
set_option maxRecDepth 100000
variable {b b' base e g k m n size : Nat} {cs : Array Value} {l : List Nat} {q : Rat} {qs : List Rat} {u v : Value} {vs : List Rv} {w w' : World} {xs : List Value}
section
open Go.ChangeShapes Go.WideShapes Go.ChangeAt Go.RowKit
def xM(y:Value):Prop:=∀k x,y≠.int k x
theorem iL{A:OA}{c:Nat}:xM (.slice A n c):=fun k x h=>by cases h
theorem dD.keep1{T i:Nat}{x:Rv}{y:Value}(h:dD w w.heap.size q x)(hb:aG w g T cs)(hy:cs[i]?=some y)(hn:xM y)(u:Value):dD (w.setCell ⟨g,i,none⟩ u) (w.setCell ⟨g,i,none⟩ u).heap.size q x:=by
 have h0:c_ w w.heap.size q x.b1 x.A x.n x.c x.b2 x.A2 x.m x.d:=h;exact c_.keep h0 (v:=y) (by rw[hb.cell];exact hy) hn u
section
variable {S:Value->Prop} {w w':Wo} {base e size n:Nat} {v:Value} {xs:List Value}
theorem bK.blk(h:bK S w base e size v n xs){S':Value->Prop}{e':TypeId}(k:d8 S' b' e' w w')(bX:e≠e'):bK S w' base e size v n xs:=by
 refine⟨h.1,?_⟩;rcases h.2 with h1 | ⟨g,cap,cur,h1,h2,h3,h4⟩
 ·exact .inl h1
 ·exact .inr ⟨g,cap,cur,h1,h2,k.blk _ _ _ h3 bX,h4⟩
theorem bK.ni(h:bK S w base e size v n xs):xM v:=by
 obtain⟨A,c,rfl,_⟩:=h.shape;exact iL
end
structure K_ (g:Nat) (w0 wr:Wo) (b0 b1 vF vT vB vC:Value) (F T:List Nat) (uB uC:List Rv) (B C:List Rat):Prop where
 blk:aG wr g 122 #[b0,b1,vF,vT,vB,vC,.slice none 0 0,.slice none 0 0]
 oF:bK vL wr (g+1) 3 1 vF F.length (gM F)
 oT:bK vL wr (g+1) 3 1 vT T.length (gM T)
 oB:dP wr (g+1) vB uB B
 oC:dP wr (g+1) vC uC C
 ap:∀k,vF.ownBlock=some k->vT.ownBlock≠some k
 aq:∀k,vB.ownBlock=some k->vC.ownBlock≠some k
 low:Below g w0 wr
section
variable {g:Nat} {w0 wr w':Wo} {b0 b1 vF vT vB vC v':Value} {F T:List Nat} {uB uC:List Rv} {B C:List Rat}
theorem K_.up(m:K_ g w0 wr b0 b1 vF vT vB vC F T uB uC B C)(hb:Below wr.heap.size wr w'):K_ g w0 w' b0 b1 vF vT vB vC F T uB uC B C:=
 ⟨m.blk.bl hb,m.oF.keep hb,m.oT.keep hb,m.oB.keep hb,m.oC.keep hb,m.ap,m.aq,m.low.trans (hb.mono (pJ m.blk.lt))⟩
theorem dP.keepsI(h:dP wr base v vs qs)(k:d8 vL b' 3 wr w'):dP w' base v vs qs:=
 ⟨h.own.blk k (by decide),h.len,fun i q x hq hx=>(h.ok i q x hq hx).keepsI k⟩
theorem dP.far{y:Value}{T i:Nat}(h:dP wr base v vs qs)(hb:aG wr g T cs)(ht:115≠T)(hy:cs[i]?=some y)(hn:xM y):dP (wr.setCell ⟨g,i,none⟩ u) base v vs qs:=
 ⟨h.own.far hb ht,h.len,fun i q x hq hx=>(h.ok i q x hq hx).keep1 hb hy hn u⟩
theorem dP.apart(h:dP wr base u vs qs)(k:d8 rF b' 115 wr w')(ho:∀k,k<wr.heap.size->v.ownBlock≠some k->w'.heap[k]?=wr.heap[k]?)(bX:∀k,u.ownBlock=some k->v.ownBlock≠some k):dP w' base u vs qs:=
 ⟨h.own.apart ho bX,h.len,fun i q x hq hx=>(h.ok i q x hq hx).keeps k⟩
theorem EY{S:Value->Prop}{v':Value}(h:∀k,v.ownBlock=some k->u.ownBlock≠some k)(hu:bK S wr base e size u n xs)(hv:v'.ownBlock=v.ownBlock\/v'.ownBlock=some wr.heap.size):∀k,v'.ownBlock=some k->u.ownBlock≠some k:=fun k hk hc=>by
 rcases hv with hv | hv
 ·rw[hv] at hk;exact h k hk hc
 ·rw[hv] at hk
  injection hk with hk;subst hk;exact absurd (hu.lt hc).2 (Nat.lt_irrefl _)
theorem K_.appF(m:K_ g w0 wr b0 b1 vF vT vB vC F T uB uC B C){u:Nat}(h1:bK vL w' (g+1) 3 1 v' (F.length+1) (gM F++[.int .i64 (u:Int)]))(h2:d8 vL (g+1) 3 wr w')(h3:v'.ownBlock=vF.ownBlock\/v'.ownBlock=some wr.heap.size)(h4:∀k,k<wr.heap.size->vF.ownBlock≠some k->w'.heap[k]?=wr.heap[k]?):K_ g w0 (w'.setCell ⟨g,2,none⟩ v') b0 b1 v' vT vB vC (F++[u]) T uB uC B C:=by
 have hb:=h2.blk _ _ _ m.blk (by decide);have hT:=m.oT.apart h4 fun k hk hc=>m.ap k hc hk;have hB:=m.oB.keepsI h2;have hC:=m.oC.keepsI h2;have dW:F.length+1=(F++[u]).length:=by simp
 have aFU:gM F++[.int .i64 (u:Int)]=gM (F++[u]):=by unfold gM;rw[List.map_append];rfl
 rw[dW,aFU] at h1;exact⟨by have:=hb.set_ 2 v';simpa using this,h1.far hb (by decide),hT.far hb (by decide),hB.far hb (by decide) (y:=vF) rfl m.oF.ni,hC.far hb (by decide) (y:=vF) rfl m.oF.ni,EY m.ap m.oT h3,m.aq,(m.low.trans (h2.low.mono (Nat.le_succ g))).setCell lR _⟩
theorem K_.appT(m:K_ g w0 wr b0 b1 vF vT vB vC F T uB uC B C){u:Nat}(h1:bK vL w' (g+1) 3 1 v' (T.length+1) (gM T++[.int .i64 (u:Int)]))(h2:d8 vL (g+1) 3 wr w')(h3:v'.ownBlock=vT.ownBlock\/v'.ownBlock=some wr.heap.size)(h4:∀k,k<wr.heap.size->vT.ownBlock≠some k->w'.heap[k]?=wr.heap[k]?):K_ g w0 (w'.setCell ⟨g,3,none⟩ v') b0 b1 vF v' vB vC F (T++[u]) uB uC B C:=by
 have hb:=h2.blk _ _ _ m.blk (by decide);have hF:=m.oF.apart h4 fun k hk hc=>m.ap k hk hc;have hB:=m.oB.keepsI h2;have hC:=m.oC.keepsI h2;have dW:T.length+1=(T++[u]).length:=by simp
 have aFU:gM T++[.int .i64 (u:Int)]=gM (T++[u]):=by unfold gM;rw[List.map_append];rfl
 rw[dW,aFU] at h1;have hap:∀k,vF.ownBlock=some k->v'.ownBlock≠some k:=fun k hk hc=>EY (v:=vT) (fun k h1 h2=>m.ap k h2 h1) m.oF h3 k hc hk;exact⟨by have:=hb.set_ 3 v';simpa using this,hF.far hb (by decide),h1.far hb (by decide),hB.far hb (by decide) (y:=vT) rfl m.oT.ni,hC.far hb (by decide) (y:=vT) rfl m.oT.ni,hap,m.aq,(m.low.trans (h2.low.mono (Nat.le_succ g))).setCell lR _⟩
theorem K_.appB(m:K_ g w0 wr b0 b1 vF vT vB vC F T uB uC B C){u:Rv}(hq:dD wr wr.heap.size q u)(h1:bK rF w' (g+1) 115 4 v' (uB.length+1) (fX uB++u.cells))(h2:d8 rF (g+1) 115 wr w')(h3:v'.ownBlock=vB.ownBlock\/v'.ownBlock=some wr.heap.size)(h4:∀k,k<wr.heap.size->vB.ownBlock≠some k->w'.heap[k]?=wr.heap[k]?):K_ g w0 (w'.setCell ⟨g,4,none⟩ v') b0 b1 vF vT v' vC F T (uB++[u]) uC (B++[q]) C:=by
 have hb:=h2.blk _ _ _ m.blk (by decide);have hB:=m.oB.app hq h1 h2;have hC:=m.oC.apart h2 h4 fun k hk hc=>m.aq k hc hk;exact⟨by have:=hb.set_ 4 v';simpa using this,(m.oF.blk h2 (by decide)).far hb (by decide),(m.oT.blk h2 (by decide)).far hb (by decide),hB.far hb (by decide) (y:=vB) rfl m.oB.own.ni,hC.far hb (by decide) (y:=vB) rfl m.oB.own.ni,m.ap,EY m.aq m.oC.own h3,(m.low.trans (h2.low.mono (Nat.le_succ g))).setCell lR _⟩
theorem K_.appC(m:K_ g w0 wr b0 b1 vF vT vB vC F T uB uC B C){u:Rv}(hq:dD wr wr.heap.size q u)(h1:bK rF w' (g+1) 115 4 v' (uC.length+1) (fX uC++u.cells))(h2:d8 rF (g+1) 115 wr w')(h3:v'.ownBlock=vC.ownBlock\/v'.ownBlock=some wr.heap.size)(h4:∀k,k<wr.heap.size->vC.ownBlock≠some k->w'.heap[k]?=wr.heap[k]?):K_ g w0 (w'.setCell ⟨g,5,none⟩ v') b0 b1 vF vT vB v' F T uB (uC++[u]) B (C++[q]):=by
 have hb:=h2.blk _ _ _ m.blk (by decide);have hC:=m.oC.app hq h1 h2;have hB:=m.oB.apart h2 h4 fun k hk hc=>m.aq k hk hc;have haq:∀k,vB.ownBlock=some k->v'.ownBlock≠some k:=fun k hk hc=>EY (v:=vC) (fun k h1 h2=>m.aq k h2 h1) m.oB.own h3 k hc hk;exact⟨by have:=hb.set_ 5 v';simpa using this,(m.oF.blk h2 (by decide)).far hb (by decide),(m.oT.blk h2 (by decide)).far hb (by decide),hB.far hb (by decide) (y:=vC) rfl m.oC.own.ni,hC.far hb (by decide) (y:=vC) rfl m.oC.own.ni,m.ap,haq,(m.low.trans (h2.low.mono (Nat.le_succ g))).setCell lR _⟩
theorem aB0(b0 b1:Value):K_ w.heap.size w (w.alloc (.cells #[b0,b1,.slice none 0 0,.slice none 0 0,.slice none 0 0,.slice none 0 0,.slice none 0 0,.slice none 0 0] 122)) b0 b1 (.slice none 0 0) (.slice none 0 0) (.slice none 0 0) (.slice none 0 0) [] [] [] [] [] []:=
 ⟨aG.new _ _ _,eQ _ _ _ _ _,eQ _ _ _ _ _,kY _ _,kY _ _,fun k h=>(by cases h),fun k h=>(by cases h),bA⟩
end
end
section
open Go.ChangeShapes Go.WideShapes Go.ChangeAt Go.RowKit Go.Maps
def jL(w:Wo)(b n:Nat)(l:List Nat):Prop:=
 ∃D:DataW Unit,w.ownsMap Tryz.prog 3 (plainElem Tryz.prog 4) b n D/\IsMap D/\∀s:Nat,D.atKey (.int .i64 (s:Int)) (.lit (.bool false))=.lit (.bool (l.any fun x=>x == s))
theorem jL.lt(h:jL w b n l):b<w.heap.size:=by obtain⟨D,h1,_⟩:=h;exact h1.lt
theorem jL.kept{row:Option Nat}(h:jL w b n l)(hg:w.grownBy w' row)(bX:some b≠row):jL w' b n l:=by
 obtain⟨D,h1,h2⟩:=h;exact⟨D,h1.kept hg bX,h2⟩
theorem jL.below(h:jL w b n l)(hb:Below w.heap.size w w'):jL w' b n l:=h.kept (row:=none) ⟨hb.os,hb.tape,hb.output,hb.size,fun k hk _=>hb.block k hk⟩ (by simp)
theorem jL.made(w:Wo):jL (w.alloc (.map #[] 0)) w.heap.size 0 []:=⟨.map [],World.ownsMap_made _ _ _ _,⟨[],rfl⟩,fun s=>rfl⟩
theorem rR:Keyed Tryz.prog 3:=int_keyed Tryz.underlying3
theorem jL.put{w:Wo}{b n:Nat}{l:List Nat}{D:DataW Unit}(s:Nat)(h1:w.ownsMap Tryz.prog 3 (plainElem Tryz.prog 4) b (n+1) (D.put (.int .i64 (s:Int)) (.lit (.bool true))))(h2:IsMap D)(h3:∀s:Nat,D.atKey (.int .i64 (s:Int)) (.lit (.bool false))=.lit (.bool (l.any fun x=>x == s))):jL w b (n+1) (l++[s]):=by
 refine⟨_,h1,?_,fun t=>?_⟩
 ·obtain⟨es,rfl⟩:=h2
  exact⟨_,rfl⟩
 ·by_cases hts:t=s
  ·subst hts
   rw[atKey_put_same h2 (k:=.int .i64 (t:Int)) trivial];simp
  ·rw[atKey_put_other (fun e=>hts (by injection e with _ e;omega)),h3,List.any_append]
   have:(s == t)=false:=by simp;omega
   simp[this]
theorem aBy(hk:k<l.length):((l.take k).any fun x=>x == l.getD k 0)=dX l k:=by
 unfold dX aJg OI;rw[Bool.not_not,Bool.eq_iff_iff,List.any_eq_true,List.any_eq_true]
 constructor
 ·rintro⟨y,hy,he⟩
  obtain⟨i,hi⟩:=List.mem_iff_getElem?.1 hy;have zB:i<k:=by have:=(dH.1 hi).1;rw[kR] at this;omega
  rw[List.getElem?_take_of_lt zB] at hi;refine⟨i,List.mem_range.2 zB,?_⟩;rw[dN,hi];exact he
 ·rintro⟨a,ha,he⟩
  have hak:=List.mem_range.1 ha;obtain⟨y,hy⟩:∃y,l[a]?=some y:=eA (by omega);refine⟨y,bV (i:=a) (by rw[List.getElem?_take_of_lt hak];exact hy),?_⟩;rw[dN,hy] at he;exact he
theorem ED(p:Nat->Bool)(n:Nat):lM p (n+1)=lM p n++if p n then[n] else[]:=by
 unfold lM;rw[List.range_succ,List.filter_append];cases h:p n<;>simp[h]
theorem wU{x:bO}(ok:bJ x):d9 (eJ x)=qR x/\(eJ x).length=aH x:=by
 have h:=qL (AN ok).1;refine⟨?_,by unfold eJ;rw[jO];exact h.1⟩;unfold d9 eJ;rw[List.map_map];have:∀l:List Int,(∀z∈l,0<=z)->l.map ((fun(v:Nat)=>(v:Int)) ∘ Int.toNat)=l:=fun l=>by
  induction l with
  | nil=>intro _;rfl
  | cons a r ih=>
   intro hl;rw[List.map_cons,ih fun z hz=>hl z (List.mem_cons_of_mem _ hz)];have:=hl a (List.mem_cons_self ..);simp[Int.toNat_of_nonneg this]
 exact this _ fun z hz=>(h.2 z hz).1
section
variable {P:Program}
theorem F5{S:Value->Prop}{ops:Array Oper}{rest:List Oper}{o:Oper}{a:Act}{Q:Exit->Act->World->Prop}{w:Wo}(AK:o.guard=none)(s x:Operand)(t:TypeId)(ho:o.op=.call { callee:=.builtin .append,args:=#[s,x],argTypes:=#[t,t] })(base:Nat)(e:TypeId)(i:TypeInfo)(z:Value)(size bytes:Nat)(ht:P.underlying t=some (.slice e))(hi:P.info? e=some i)(hz:i.zero=some z)(iN:i.size=size)(CM:i.bytes=bytes)(M3:z.cells.size=size)(iV:0<size)(UV:∀u∈z.cells.toList,S u)(v:Value)(n:Nat)(xs:List Value)(hs:a.eval s=v)(bB:bK S w base e size v n xs)(g T:Nat)(lit:Array Value)(hx:a.eval x=.slice (some ⟨g,0,none⟩) 1 1)(hg:aG w g T lit)(hl:lit.size=size)(h1:∀u∈lit.toList,u.oneCell'=true/\S u)(xC:n+1<=maxLen)(iG:(n+1)*bytes<=140737488355328)(cS:base<=w.heap.size)(h:∀A m c w',bK S w' base e size (.slice A m c) (n+1) (xs++lit.toList)->d8 S base e w w'->((Value.slice A m c).ownBlock=v.ownBlock\/(Value.slice A m c).ownBlock=some w.heap.size)->(∀k,k<w.heap.size->v.ownBlock≠some k->w'.heap[k]?=w.heap[k]?)->wpList P ops Q rest (a.put o.dst (.slice A m c)) w'):wpList P ops Q (o::rest) a w:=by
 refine wpList_plain AK fun K hK=>?_;exact oR s x t ho base e i z size bytes ht hi hz iN CM M3 iV UV v n xs hs bB g T lit hx hg hl h1 xC iG cS fun A m c w' q1 q2 q3 q4=>hK _ _ (h A m c w' q1 q2 q3 q4)
end
structure MdZ (g:Nat) (w0 wr:Wo) (b0 b1 vF vT vB vC vZ:Value) (F T:List Nat) (uB uC:List Rv) (B C:List Rat) (Z:List Nat):Prop where
 blk:aG wr g 122 #[b0,b1,vF,vT,vB,vC,vZ,.slice none 0 0]
 oF:bK vL wr (g+1) 3 1 vF F.length (gM F)
 oT:bK vL wr (g+1) 3 1 vT T.length (gM T)
 oB:dP wr (g+1) vB uB B
 oC:dP wr (g+1) vC uC C
 oZ:bK vL wr (g+1) 3 1 vZ Z.length (gM Z)
 zF:∀k,vF.ownBlock=some k->vZ.ownBlock≠some k
 zT:∀k,vT.ownBlock=some k->vZ.ownBlock≠some k
 low:Below g w0 wr
section
variable {g:Nat} {w0 wr w':Wo} {b0 b1 vF vT vB vC vZ v':Value} {F T Z:List Nat} {uB uC:List Rv} {B C:List Rat}
theorem K_.z(m:K_ g w0 wr b0 b1 vF vT vB vC F T uB uC B C):MdZ g w0 wr b0 b1 vF vT vB vC (.slice none 0 0) F T uB uC B C []:=
 ⟨m.blk,m.oF,m.oT,m.oB,m.oC,eQ _ _ _ _ _,fun k _ h=>(by cases h),fun k _ h=>(by cases h),m.low⟩
theorem MdZ.up(m:MdZ g w0 wr b0 b1 vF vT vB vC vZ F T uB uC B C Z)(hb:Below wr.heap.size wr w'):MdZ g w0 w' b0 b1 vF vT vB vC vZ F T uB uC B C Z:=
 ⟨m.blk.bl hb,m.oF.keep hb,m.oT.keep hb,m.oB.keep hb,m.oC.keep hb,m.oZ.keep hb,m.zF,m.zT,m.low.trans (hb.mono (pJ m.blk.lt))⟩
theorem MdZ.app(m:MdZ g w0 wr b0 b1 vF vT vB vC vZ F T uB uC B C Z){u:Nat}(h1:bK vL w' (g+1) 3 1 v' (Z.length+1) (gM Z++[.int .i64 (u:Int)]))(h2:d8 vL (g+1) 3 wr w')(h3:v'.ownBlock=vZ.ownBlock\/v'.ownBlock=some wr.heap.size)(h4:∀k,k<wr.heap.size->vZ.ownBlock≠some k->w'.heap[k]?=wr.heap[k]?):MdZ g w0 (w'.setCell ⟨g,6,none⟩ v') b0 b1 vF vT vB vC v' F T uB uC B C (Z++[u]):=by
 have hb:=h2.blk _ _ _ m.blk (by decide);have hF:=m.oF.apart h4 m.zF;have hT:=m.oT.apart h4 m.zT;have hB:=m.oB.keepsI h2;have hC:=m.oC.keepsI h2;have dW:Z.length+1=(Z++[u]).length:=by simp
 have aFU:gM Z++[.int .i64 (u:Int)]=gM (Z++[u]):=by unfold gM;rw[List.map_append];rfl
 rw[dW,aFU] at h1;have hzF:∀k,vF.ownBlock=some k->v'.ownBlock≠some k:=fun k hk hc=>EY (v:=vZ) (fun k h1 h2=>m.zF k h2 h1) m.oF h3 k hc hk;have hzT:∀k,vT.ownBlock=some k->v'.ownBlock≠some k:=fun k hk hc=>EY (v:=vZ) (fun k h1 h2=>m.zT k h2 h1) m.oT h3 k hc hk;exact⟨by have:=hb.set_ 6 v';simpa using this,hF.far hb (by decide),hT.far hb (by decide),hB.far hb (by decide) (y:=vZ) rfl m.oZ.ni,hC.far hb (by decide) (y:=vZ) rfl m.oZ.ni,h1.far hb (by decide),hzF,hzT,(m.low.trans (h2.low.mono (Nat.le_succ g))).setCell lR _⟩
theorem bK.mapped{S:Value->Prop}(h:bK S w base e size v n xs)(hs:jL w b m l)(hg:w.grownBy w' (some b)):bK S w' base e size v n xs:=by
 refine⟨h.1,?_⟩;rcases h.2 with h1 | ⟨g,cap,cur,h1,h2,h3,h4⟩
 ·exact .inl h1
 ·refine .inr ⟨g,cap,cur,h1,h2,h3.grown hg (fun e=>?_),h4⟩
  injection e with e;subst e;obtain⟨D,⟨es,clock,hb,_⟩,_⟩:=hs;have h5:some (Obj.cells cur _ (0,0))=some (Obj.map es clock):=h3.symm.trans hb;cases h5
theorem jL.apart{S:Value->Prop}(hs:jL w b n l)(h:bK S w base e size v m xs):some b≠v.ownBlock:=by
 intro hb;rcases h.2 with⟨h1,_⟩ | ⟨g,cap,cur,h1,h2,h3,h4⟩
 ·rw[h1] at hb;cases hb
 ·rw[h1] at hb
  injection hb with hb;subst hb;obtain⟨D,⟨es,clock,hq,_⟩,_⟩:=hs;have h5:some (Obj.cells cur _ (0,0))=some (Obj.map es clock):=h3.symm.trans hq;cases h5
theorem ZT{t:Nat}{zs:List Int}(h:aG w g t (ints zs).toArray)(hn:zs.length=n):o_ w w.heap.size (some ⟨g,0,none⟩) n zs:=
 ⟨by unfold ints;rw[jO,Nat.mul_one];exact hn,fun _=>⟨g,0,rfl,h.lt,fun j u hu=>by rw[Nat.zero_add,h.cell j];simpa using hu⟩⟩
theorem aG.mapped{t:Nat}(h:aG w g t cs)(hs:jL w b m l)(hg:w.grownBy w' (some b)):aG w' g t cs:=by
 refine h.grown hg (fun e=>?_);injection e with e;subst e;obtain⟨D,⟨es,clock,hb,_⟩,_⟩:=hs;have h5:some (Obj.cells cs t (0,0))=some (Obj.map es clock):=h.symm.trans hb;cases h5
theorem dD.mappedI{x:Rv}(h:dD w w.heap.size q x)(hs:jL w b m l)(hg:w.grownBy w' (some b)):dD w' w'.heap.size q x:=by
 have key:∀{A:OA}{n:Nat}{l:List Nat},jU w w.heap.size A n l->jU w' w'.heap.size A n l:=fun{A n l'} h=>⟨h.1,fun hn=>by
  obtain⟨b',off,e,aU,hc⟩:=h.2 hn;have bX:b'≠b:=by
   rintro rfl;have hx:0<(bS l').length:=by have:=h.1;omega
   have h0:=hc 0 _ (iB hx);obtain⟨D,⟨es,clock,hb,_⟩,_⟩:=hs;unfold World.cell? at h0;rw[hb] at h0;cases h0
  exact⟨b',off,e,jE aU hg.size,fun j u hu=>(World.cell?_of_block (a:=⟨b',off+j,none⟩) (hg.block b' aU (fun e=>by injection e;omega))).trans (hc j u hu)⟩⟩
 exact⟨⟨h.num.eb,h.num.en,key h.num.rd,h.num.nc,h.num.cm⟩,⟨h.den.eb,h.den.en,key h.den.rd,h.den.nc,h.den.cm⟩⟩
theorem MdZ.mapped(m:MdZ g w0 wr b0 b1 vF vT vB vC vZ F T uB uC B C Z)(hs:jL wr b n l)(hg:wr.grownBy w' (some b))(hb:g<b)(h0:g<=w0.heap.size):MdZ g w0 w' b0 b1 vF vT vB vC vZ F T uB uC B C Z:=
 ⟨m.blk.mapped hs hg,m.oF.mapped hs hg,m.oT.mapped hs hg,⟨m.oB.own.mapped hs hg,m.oB.len,fun i q x hq hx=>(m.oB.ok i q x hq hx).mappedI hs hg⟩,⟨m.oC.own.mapped hs hg,m.oC.len,fun i q x hq hx=>(m.oC.ok i q x hq hx).mappedI hs hg⟩,m.oZ.mapped hs hg,m.zF,m.zT,AO m.low hg (pJ hb) h0⟩
theorem JB(h:bK vL w base 3 1 v l.length (gM l)):∃A c,v=.slice A l.length c/\o_ w w.heap.size A l.length (d9 l):=by
 obtain⟨A,c,hv,hr,_⟩:=AD h.own;refine⟨A,c,hv,?_⟩;have:ints (d9 l)=gM l:=by unfold ints d9 gM;rw[List.map_map];rfl
 unfold o_;rw[this];exact hr
end
end
section
open Go.ChangeShapes Go.WideShapes Go.ChangeAt Go.RowKit Go.Maps
attribute [local go_sem ↓] aE
attribute [local go_sem] aJ aI aM aR bY.cells
def OfP(x:bO)(w:Wo)(e:Ending)(w':Wo):Prop:=Below w.heap.size w w'/\∃(g:Nat)(m:iU)(A:OA)(n c:Nat),e=.returned (.pointer (some ⟨g,0,none⟩))/\w.heap.size<=g/\aG w' g 122 (m.cells (.slice A n c))/\fB w' w'.heap.size m x/\(aB4 x->n=(aA x).length/\lQ w' w'.heap.size A n (yZ x))
theorem fE{α:Type}{l:List α}{x:α}(h:l[k]?=some x):l.take (k+1)=l.take k++[x]:=pU h
theorem kM{x:bO}{b:Br}(h:x.brs[k]?=some b):(gV x)[k]?=some (aD x b.fr)/\(CC x)[k]?=some (aD x b.to)/\(mB x)[k]?=some (cP b)/\(mC x)[k]?=some (eS b):=by
 unfold gV CC mB mC LU;simp[h]
theorem KC{b:Br}(h:b.bad=false):1<=b.x/\b.x<=10000/\500<=b.tap/\b.tap<=1500/\-1000<=b.shift/\b.shift<=1000:=by
 unfold Br.bad at h;simp only[Bool.or_eq_false_iff] at h;obtain⟨⟨⟨⟨⟨a1,a2⟩,a3⟩,_⟩,_⟩,_⟩:=h;unfold mF at a1 a2 a3;have:=of_decide_eq_false a1;have:=of_decide_eq_false a2;have:=of_decide_eq_false a3;omega
theorem MC{b:Br}(h:b.bad=false):bI (Rat.divInt (-b.shift) 1000)<=1:=by
 have h1:=KC h;unfold bI;rw[show(1000:Int)=((1000:Nat):Int) from rfl,(nS (-b.shift) (by decide)).2,(sY (-b.shift) (by decide)).1];refine Nat.max_le.2 ⟨lE ?_,lE ?_⟩
 ·refine zT_ (Nat.div_le_self ..) ?_
  show _<4294967296^1;omega
 ·refine zT_ (Nat.div_le_self ..) ?_
  show _<4294967296^1;decide
theorem nX(h:bY)(x:bO)(ok:bJ x)(h8:x.nodes.length<=8)(w:Wo)(r:cQ w w.heap.size h x):Calls Tryz.prog 55 #[.agg h.cells] w (OfP x w):=by
 have K0:=jT w (.cells h.cells 29);obtain⟨HK,HX,HRN,bU,H8⟩:=kN K0 (aG.new w 29 h.cells) r ok h8;have HGT:=lH (PI h x ok _ (r.up K0));have U2:Hid (x.brs.length=h.n2):=lH r.r2.1;have HL0:Hid (x.nodes.length=h.n0):=lH r.r0.1;have zS:h.n2<=24:=by rw[<-U2.o];exact ok.l2
 have M9:h.n0<=24:=by rw[<-HL0.o];exact ok.l0
 obtain⟨i0,kA,rU,jR,kS⟩:=info_parts MZ;obtain⟨L4,E9,QF,LB⟩:=iK kA rU jR kS;obtain⟨i1,ri0,rz0,rz1,rz2⟩:=pW;obtain⟨RI0,RI1,RI2,RI3⟩:=iK ri0 rz0 rz1 rz2;clear K0 r ok h8 kA rU jR kS ri0 rz0 rz1 rz2;obtain⟨A0,m0,c0,A1,m1,c1,A2,m2,c2,A3,m3,c3,A4,m4,c4,A5,m5,c5⟩:=h;simp only[bY.cells] at HK HX HGT U2 HL0 zS M9 ⊢;go_enter Tryz.func55,Tryz.ntmps55
 go_upto_region 1 with fail
 generalize w.alloc (.cells #[.slice A0 m0 c0,.slice A1 m1 c1,.slice A2 m2 c2,.slice A3 m3 c3,.slice A4 m4 c4,.slice A5 m5 c5] 29)=W at *;obtain⟨y0,y1,y2,y3,y4,y5,zV⟩:=HX.o.b6
 go_wp2_with fail
 refine HGT.o.mono ?_;clear y0 y1 y2 y3 y4 y5 zV HGT;rintro e w1 ⟨bC,g1,g2,rfl,LP,lO,aTb,aGi⟩;have bT:=bW HK bC;obtain⟨eB,Q4,xO⟩:=d_ (HX.o.bl bC) aTb aGi;have HGG:Hid (W.heap.size<=g1/\W.heap.size<=g2/\w.heap.size<W.heap.size):=lH ⟨LP,lO,HX.o.lt⟩;clear bC HK HX aTb aGi LP lO
 go_upto_region 2 with fail
 have KP:=lH (aB0 (w:=w1) (.slice (some ⟨g1,0,none⟩) m0 m0) (.slice (some ⟨g2,0,none⟩) (aH x) (aH x)));have hO:=lH ((Below.refl w1.heap.size w1).alloc lR (.cells #[.slice (some ⟨g1,0,none⟩) m0 m0,.slice (some ⟨g2,0,none⟩) (aH x) (aH x),.slice none 0 0,.slice none 0 0,.slice none 0 0,.slice none 0 0,.slice none 0 0,.slice none 0 0] 122));have f_:=lH (eB.o.bl hO.o);generalize w1.alloc (.cells #[.slice (some ⟨g1,0,none⟩) m0 m0,.slice (some ⟨g2,0,none⟩) (aH x) (aH x),.slice none 0 0,.slice none 0 0,.slice none 0 0,.slice none 0 0,.slice none 0 0,.slice none 0 0] 122)=w2 at *;generalize hgq:w1.heap.size=g at *;have HG:=lH hgq;clear hgq;have L5:Hid (w.heap.size<g/\w.heap.size<=g):=lH (by have:=HGG.o.2.2;have:=eB.o.lt;have:=HG.o;omega);have y2:=f_.o.cell 2;have yl:=f_.o.lt
 go_wp2_with fail
 clear y2 yl hO f_
 go_loopw [17] (fun v17 wr=>∃(k:Nat)(vF vT vB vC:Value)(uB uC:List Rv),k<=m2/\v17=.int .i64 k/\K_ g w1 wr (.slice (some ⟨g1,0,none⟩) m0 m0) (.slice (some ⟨g2,0,none⟩) (aH x) (aH x)) vF vT vB vC ((gV x).take k) ((CC x).take k) uB uC ((mB x).take k) ((mC x).take k)) (fun v17 _=>m2-(intOf v17).toNat)
 case atStart=>exact⟨0,_,_,_,_,_,_,by omega,rfl,KP.o⟩
 case round=>
  clear KP;obtain⟨k,vF,vT,vB,vC,uB,uC,hk,rfl,hm⟩:=hrel;have HM:=lH hm;have HW:Hid (Below w.heap.size w wr):=lH (bT.o.trans (hm.low.mono L5.o.2));have sC:=lH (HRN.o.up HW.o);have HXR:=lH (eB.o.below hm.low (by have:=L5.o.1;omega));clear hm;by_cases aU:k<m2
  ·obtain⟨s,hs⟩:∃s,x.brs[k]?=some s:=eA (by have:=U2.o;omega)
   obtain⟨b,off,hA,hb⟩:=sC.o.r2.form (show 0<m2 by omega);simp only at hA;subst hA;obtain⟨a0,a1,a2,a3,a4,a5,a6,a7,a8⟩:=sC.o.r2.at_ hs;obtain⟨t1,t2,t3,t4⟩:=kM hs;obtain⟨zM,vX,HT3,HT4,qA⟩:=kN (fE t1) (fE t2) (fE t3) (fE t4) (bU.o.br s (bV hs));have fY:(k:Int)<(m2:Int):=by omega
   have fC:=lN k;have iI:Hid (m2-(k+1)<m2-k):=lH (by omega);have yP:Hid (((gV x).take k).length<=24/\((CC x).take k).length<=24/\((mB x).take k).length<=24/\((mC x).take k).length<=24):=lH (by simp only[kR];omega);clear hs t1 t2 t3 t4;(go_upto_region 5 with fail);clear a0 a1 a2 a3 a4 a5 a6 a7 a8 hb;generalize AW:wr.alloc (.cells #[.string s.name,.string s.fr,.string s.to,.int .i64 s.x,.int .i64 s.tap,.int .i64 s.shift,.int .i64 s.limit,.int .i64 s.short,.int .i64 s.hold] 54)=wa;have pI:Below wr.heap.size wr wa:=by rw[<-AW];exact bA
   have HS:Hid (aG wa wr.heap.size 54 #[.string s.name,.string s.fr,.string s.to,.int .i64 s.x,.int .i64 s.tap,.int .i64 s.shift,.int .i64 s.limit,.int .i64 s.short,.int .i64 s.hold]):=lH (by rw[<-AW];exact aG.new wr _ _);have HGX:Hid (g<wr.heap.size):=lH HM.o.blk.lt;replace HM:=lH (HM.o.up pI);clear AW pI sC HXR HW;generalize wr.heap.size=gx at *;have HW:Hid (Below w.heap.size w wa):=lH (bT.o.trans (HM.o.low.mono L5.o.2));have HXR:=lH (eB.o.below HM.o.low (by have:=L5.o.1;omega));have sC:=lH ((HRN.o.up HW.o).r0);have hbo:=bG bU.o qA.o.1;have hbc:=t7 (Q4.o.below HM.o.low (by have:=Q4.o.lt;have:=HG.o;omega)) hbo.2.2;rw[hbo.1] at hbc;have HIX:Hid (dE x.nodes s.fr<m0):=lH (by have:=hbo.2.2;rw[(lF bU.o).1] at this;have:=HL0.o;omega);have DK:=lH (EF qA.o.1);generalize dE x.nodes s.fr=ix at *;clear hbo;have hix:=HIX.o;have uI:(ix:Int)<(m0:Int):=by omega
   have uJ:=lZ ix;have uH:=jF ix;have z0:=HM.o.blk.cell 0;have z2:=HM.o.blk.cell 2;have zl:=HM.o.blk.lt;obtain⟨x0,xl⟩:=HXR.o.b1;have s1:=HS.o.cell 1;have sl:=HS.o.lt;have gl1:g1<wa.heap.size:=by have:=Q4.o.lt;have:=HG.o;omega
   have bM:=lH (aK (Below.refl wa.heap.size wa));refine kW (S:=fun w'=>Below wa.heap.size wa w') 17 0 _ _ _ _ _ (.pointer (some ⟨g,0,none⟩)) (by kernel_rfl) (by kernel_rfl) (by kernel_rfl) (by kernel_rfl) (by kernel_rfl) rfl (by decide) (by kernel_rfl) rfl rfl rfl rfl (by kernel_rfl) (fun _ _ _ h=>h) (by rfl) (fun w'=>by go_simp<;>with_reducible rfl) (aK bR) (fun hHeld=>?_);simp only[nI,List.take_zero];(try simp only[Act.put,gL,gK,gJ]);refine cW [1,2,3,4,5,6,7,8,9,10,11,12,13] ?_;refine bQ 14 (fun K hK=>?_);go_simp;refine(k_ A0 m0 c0 x.nodes s.fr wa.drew (sC.o.bm bM.o) (by omega)).mono ?_;rintro e w8 ⟨rfl,rfl⟩;rw[DK.o];go_simp;refine gZ hK bM.o (fun hHeld=>?_);clear hK K;refine cW [15,16] ?_;refine bQ 17 (fun K hK=>?_);go_simp;refine hK.out _ _ ?_ (fun hHeld=>?_)
   ·exact bM.o.alloc lR _
   clear hK K;(try simp only[Act.put,gL,gK,gJ]);refine eM ?_;clear hHeld;generalize GH:aD x s.fr=bu at *;have sH:Below wa.heap.size wa (wa.alloc (.cells #[.int .i64 (bu:Int)] 3)).drew:=aK (bA);have sP:Hid (aG (wa.alloc (.cells #[.int .i64 (bu:Int)] 3)).drew wa.heap.size 3 #[.int .i64 (bu:Int)]):=lH (aG.new wa _ _).drew;replace HM:=lH (HM.o.up sH);replace HS:=lH (HS.o.bl sH);have UN:=lH GH;clear z0 z2 zl x0 xl s1 sl gl1 hbc hix uI uJ uH HIX DK sC HXR HW bM sH GH;generalize (wa.alloc (.cells #[.int .i64 (bu:Int)] 3)).drew=wl at *;generalize wa.heap.size=gq at *;refine oR (S:=vL) (.tmp 25) (.tmp 38) 30 rfl (g+1) 3 i0 _ 1 8 Tryz.underlying30 L4.o E9.o QF.o LB.o rfl (by omega) aDK vF _ _ (by rfl) HM.o.oF gq 3 #[.int .i64 (bu:Int)] (by rfl) sP.o rfl ?k1 ?k2 ?k3 ?k4 ?_
   case k1=>intro u hu;rw[show u=.int .i64 (bu:Int) from by simpa using hu];exact⟨rfl,_,rfl⟩
   case k2=>have:=yP.o.1;simp only[maxLen];omega
   case k3=>have:=yP.o.1;omega
   case k4=>exact HM.o.blk.lt
   intro pA pn pc w9 q1 q2 q3 q4;have hm9:=HM.o.appF q1 q2 q3 q4;have gA:=q2.blk _ _ _ HM.o.blk (by decide);have XG:=q2.blk _ _ _ HS.o (by decide);have HMN:=lH hm9;have UF:=lH (XG.far (p:=⟨g,2,none⟩) (by have:=HGX.o;show gx≠g;omega) (.slice pA pn pc));have p2:=gA.cell 2;have pl:=gA.lt;have pf:=gA.frozen;clear q1 q2 q3 q4 hm9 gA XG HM HS sP;refine dK (by rfl) ?_;go_simp;refine dK (by rfl) ?_;go_simp;refine dK (by rfl) ?_;(go_upto_region 6 with fail);clear p2 pl pf;generalize w9.setCell ⟨g,2,none⟩ (.slice pA pn pc)=wb at *;have HM:Hid (K_ g w1 wb _ _ _ _ _ _ _ _ _ _ _ _):=HMN;have HS:=UF;rw[<-zM.o] at HM;clear HMN UF UN;generalize Value.slice pA pn pc=vF2 at *;have HW:Hid (Below w.heap.size w wb):=lH (bT.o.trans (HM.o.low.mono L5.o.2));have HXR:=lH (eB.o.below HM.o.low (by have:=L5.o.1;omega));have sC:=lH ((HRN.o.up HW.o).r0);have hbo:=bG bU.o qA.o.2.1;have hbc:=t7 (Q4.o.below HM.o.low (by have:=Q4.o.lt;have:=HG.o;omega)) hbo.2.2;rw[hbo.1] at hbc;have HIX:Hid (dE x.nodes s.to<m0):=lH (by have:=hbo.2.2;rw[(lF bU.o).1] at this;have:=HL0.o;omega);have DK:=lH (EF qA.o.2.1);generalize dE x.nodes s.to=ix at *;clear hbo;have hix:=HIX.o;have uI:(ix:Int)<(m0:Int):=by omega
   have uJ:=lZ ix;have uH:=jF ix;have z0:=HM.o.blk.cell 0;have z2:=HM.o.blk.cell 3;have zl:=HM.o.blk.lt;obtain⟨x0,xl⟩:=HXR.o.b1;have s1:=HS.o.cell 2;have sl:=HS.o.lt;have gl1:g1<wb.heap.size:=by have:=Q4.o.lt;have:=HG.o;omega
   have bM:=lH (aK (Below.refl wb.heap.size wb));refine kW (S:=fun w'=>Below wb.heap.size wb w') 17 0 _ _ _ _ _ (.pointer (some ⟨g,0,none⟩)) (by kernel_rfl) (by kernel_rfl) (by kernel_rfl) (by kernel_rfl) (by kernel_rfl) rfl (by decide) (by kernel_rfl) rfl rfl rfl rfl (by kernel_rfl) (fun _ _ _ h=>h) (by rfl) (fun w'=>by go_simp<;>with_reducible rfl) (aK bR) (fun hHeld=>?_);simp only[nI,List.take_zero];(try simp only[Act.put,gL,gK,gJ]);refine cW [1,2,3,4,5,6,7,8,9,10,11,12,13] ?_;refine bQ 14 (fun K hK=>?_);go_simp;refine(k_ A0 m0 c0 x.nodes s.to wb.drew (sC.o.bm bM.o) (by omega)).mono ?_;rintro e w8 ⟨rfl,rfl⟩;rw[DK.o];go_simp;refine gZ hK bM.o (fun hHeld=>?_);clear hK K;refine cW [15,16] ?_;refine bQ 17 (fun K hK=>?_);go_simp;refine hK.out _ _ ?_ (fun hHeld=>?_)
   ·exact bM.o.alloc lR _
   clear hK K;(try simp only[Act.put,gL,gK,gJ]);refine eM ?_;clear hHeld;generalize GH:aD x s.to=bu at *;have sH:Below wb.heap.size wb (wb.alloc (.cells #[.int .i64 (bu:Int)] 3)).drew:=aK (bA);have sP:Hid (aG (wb.alloc (.cells #[.int .i64 (bu:Int)] 3)).drew wb.heap.size 3 #[.int .i64 (bu:Int)]):=lH (aG.new wb _ _).drew;replace HM:=lH (HM.o.up sH);replace HS:=lH (HS.o.bl sH);have UN:=lH GH;clear z0 z2 zl x0 xl s1 sl gl1 hbc hix uI uJ uH HIX DK sC HXR HW bM sH GH;generalize (wb.alloc (.cells #[.int .i64 (bu:Int)] 3)).drew=wl at *;generalize wb.heap.size=gq at *;refine oR (S:=vL) (.tmp 46) (.tmp 59) 30 rfl (g+1) 3 i0 _ 1 8 Tryz.underlying30 L4.o E9.o QF.o LB.o rfl (by omega) aDK vT _ _ (by rfl) HM.o.oT gq 3 #[.int .i64 (bu:Int)] (by rfl) sP.o rfl ?k1 ?k2 ?k3 ?k4 ?_
   case k1=>intro u hu;rw[show u=.int .i64 (bu:Int) from by simpa using hu];exact⟨rfl,_,rfl⟩
   case k2=>have:=yP.o.2.1;simp only[maxLen];omega
   case k3=>have:=yP.o.2.1;omega
   case k4=>exact HM.o.blk.lt
   intro pA pn pc w9 q1 q2 q3 q4;have hm9:=HM.o.appT q1 q2 q3 q4;have gA:=q2.blk _ _ _ HM.o.blk (by decide);have XG:=q2.blk _ _ _ HS.o (by decide);have HMN:=lH hm9;have UF:=lH (XG.far (p:=⟨g,3,none⟩) (by have:=HGX.o;show gx≠g;omega) (.slice pA pn pc));have p2:=gA.cell 3;have pl:=gA.lt;have pf:=gA.frozen;clear q1 q2 q3 q4 hm9 gA XG HM HS sP;refine dK (by rfl) ?_;go_simp;refine dK (by rfl) ?_;go_simp;refine dK (by rfl) ?_;(go_upto_region 7 with fail);clear p2 pl pf;generalize w9.setCell ⟨g,3,none⟩ (.slice pA pn pc)=wc at *;have HM:Hid (K_ g w1 wc _ _ _ _ _ _ _ _ _ _ _ _):=HMN;have HS:=UF;rw[<-vX.o] at HM;clear HMN UF UN;generalize Value.slice pA pn pc=vT2 at *;have EN:=KC qA.o.2.2.2;have aFX:s.x*s.tap<=10000*1500:=Int.mul_le_mul EN.2.1 EN.2.2.2.1 (by omega) (by omega);have aSx:1*500<=s.x*s.tap:=Int.mul_le_mul EN.1 EN.2.2.1 (by omega) (by omega);have HXT:=lH (aAt 1000000 (s.x*s.tap) wc (by decide) (by decide) (by omega) (by omega) (by omega));have hw1:IntKind.i64.wrap (s.x*s.tap)=s.x*s.tap:=IntWalk.i64_in _ (by omega);have hsh:IntKind.i64.wrap (-s.shift)=-s.shift:=IntWalk.i64_in _ (by omega);have HSH:=lH hsh;have HSF:=lH (fun w'=>aAt (-s.shift) 1000 w' (by omega) (by omega) (by decide) (by decide) (by decide));have s3:=HS.o.cell 3;have s4:=HS.o.cell 4;have sl:=HS.o.lt;generalize hxt:s.x*s.tap=xt at *;have U0:=lH hxt;(go_wp2_with fail);refine HXT.o.mono ?_;rintro e w10 ⟨mW,v10,rfl,h10⟩;clear s3 s4 sl HXT aFX aSx hw1 EN hsh hxt;have GM:Hid (dD w10 w10.heap.size (cP s) v10):=lH (by unfold cP;rw[U0.o];exact h10);replace HM:=lH (HM.o.up mW);replace HS:=lH (HS.o.bl mW);clear mW h10;(go_upto_region 8 with fail);have mJ:=jT w10 (.cells #[.bool v10.b1,.slice v10.A v10.n v10.c,.bool v10.b2,.slice v10.A2 v10.m v10.d] 115);have eU:=lH (aG.new w10 115 #[.bool v10.b1,.slice v10.A v10.n v10.c,.bool v10.b2,.slice v10.A2 v10.m v10.d]);have HNE:Hid (∀k,vB.ownBlock=some k->k<w10.heap.size):=lH fun k hk=>(HM.o.oB.own.lt hk).2;have HGY:Hid (g<w10.heap.size):=lH HM.o.blk.lt;replace HM:=lH (HM.o.up mJ);replace HS:=lH (HS.o.bl mJ);replace GM:=lH (GM.o.up mJ);clear mJ U0;generalize w10.alloc (.cells #[.bool v10.b1,.slice v10.A v10.n v10.c,.bool v10.b2,.slice v10.A2 v10.m v10.d] 115)=wd at *;generalize w10.heap.size=gy at *;have z4:=HM.o.blk.cell 4;have zl:=HM.o.blk.lt;obtain⟨b0,b1,b2,b3,bl⟩:=eU.o.b4
   have bM:=lH (aK (Below.refl wd.heap.size wd));refine kW (S:=fun w'=>Below wd.heap.size wd w') 6 0 _ _ _ _ _ (.pointer (some ⟨g,0,none⟩)) (by kernel_rfl) (by kernel_rfl) (by kernel_rfl) (by kernel_rfl) (by kernel_rfl) rfl (by decide) (by kernel_rfl) rfl rfl rfl rfl (by kernel_rfl) (fun _ _ _ h=>h) (by rfl) (fun w'=>by go_simp<;>with_reducible rfl) (aK bR) (fun hHeld=>?_);simp only[nI,List.take_zero];(try simp only[Act.put,gL,gK,gJ]);refine cW [1,2,3,4,5] ?_;refine bQ 6 (fun K hK=>?_);go_simp;refine hK.out _ _ ?_ (fun hHeld=>?_)
   ·exact bM.o.alloc bM.o.size _
   clear hK K;(try simp only[Act.put,gL,gK,gJ]);refine eM ?_;clear hHeld;have sH:Below wd.heap.size wd ((wd.alloc (.cells #[.bool v10.b1,.slice v10.A v10.n v10.c,.bool v10.b2,.slice v10.A2 v10.m v10.d] 115)).drew):=aK (bA);have sP:Hid (aG ((wd.alloc (.cells #[.bool v10.b1,.slice v10.A v10.n v10.c,.bool v10.b2,.slice v10.A2 v10.m v10.d] 115)).drew) wd.heap.size 115 #[.bool v10.b1,.slice v10.A v10.n v10.c,.bool v10.b2,.slice v10.A2 v10.m v10.d]):=lH (aG.new wd _ _).drew;replace HM:=lH (HM.o.up sH);replace HS:=lH (HS.o.bl sH);replace eU:=lH (eU.o.bl sH);replace GM:=lH (GM.o.up sH);have HVU:=GM;clear z4 zl b0 b1 b2 b3 bl bM sH;generalize (wd.alloc (.cells #[.bool v10.b1,.slice v10.A v10.n v10.c,.bool v10.b2,.slice v10.A2 v10.m v10.d] 115)).drew=wl at *;generalize wd.heap.size=gq at *;refine oR (S:=rF) (.tmp 73) (.tmp 75) 93 rfl (g+1) 115 i1 _ 4 64 Tryz.underlying93 RI0.out RI1.out RI2.out RI3.out rfl (by omega) wF vB _ _ (by rfl) HM.o.oB.own gq 115 #[.bool v10.b1,.slice v10.A v10.n v10.c,.bool v10.b2,.slice v10.A2 v10.m v10.d] (by rfl) sP.o rfl ?k1 ?k2 ?k3 ?k4 ?_
   case k1=>exact DZ v10
   case k2=>have:=HM.o.oB.len;have:=yP.o.2.2.1;simp only[maxLen];omega
   case k3=>have:=HM.o.oB.len;have:=yP.o.2.2.1;omega
   case k4=>exact HM.o.blk.lt
   intro pA pn pc w9 q1 q2 q3 q4;have hm9:=HM.o.appB HVU.o q1 q2 q3 q4;have gA:=q2.blk _ _ _ HM.o.blk (by decide);have XG:=q2.blk _ _ _ HS.o (by decide);have HMN:=lH hm9;have UF:=lH (XG.far (p:=⟨g,4,none⟩) (by have:=HGX.o;show gx≠g;omega) (.slice pA pn pc));have FU:aG w9 gy 115 #[.bool v10.b1,.slice v10.A v10.n v10.c,.bool v10.b2,.slice v10.A2 v10.m v10.d]:=(q4 gy eU.o.lt (fun hc=>absurd (HNE.o gy hc) (Nat.lt_irrefl _))).trans eU.o;have aVm:=lH (FU.far (p:=⟨g,4,none⟩) (by have:=HGY.o;show gy≠g;omega) (.slice pA pn pc));have HV9:=lH ((dD.keeps GM.o q2).keep1 (i:=4) gA (y:=vB) rfl HM.o.oB.own.ni (.slice pA pn pc));have p2:=gA.cell 4;have pl:=gA.lt;have pf:=gA.frozen;clear q1 q2 q3 q4 hm9 gA XG HM HS sP HVU eU GM FU;refine dK (by rfl) ?_;go_simp;refine dK (by rfl) ?_;go_simp;refine dK (by rfl) ?_;(go_upto_region 9 with fail);clear p2 pl pf;generalize w9.setCell ⟨g,4,none⟩ (.slice pA pn pc)=we at *;have HM:Hid (K_ g w1 we _ _ _ _ _ _ _ _ _ _ _ _):=HMN;have HS:=UF;have eU:=aVm;have GM:=HV9;rw[<-HT3.o] at HM;clear HMN UF aVm HV9;generalize Value.slice pA pn pc=vB2 at *;have HQM:Hid (bI (cP s)+bI (Rat.divInt (-s.shift) 1000)+1<=35184372088832):=lH (by have:=pK qA.o.2.2.2;have:=MC qA.o.2.2.2;omega);have z4:=HM.o.blk.cell 5;have zl:=HM.o.blk.lt;obtain⟨b0,b1,b2,b3,bl⟩:=eU.o.b4;have s5:=HS.o.cell 5;have sl:=HS.o.lt;have bM:=lH (aK (Below.refl we.heap.size we));refine kW (S:=fun w'=>Below we.heap.size we w') 11 0 _ _ _ _ _ (.pointer (some ⟨g,0,none⟩)) (by kernel_rfl) (by kernel_rfl) (by kernel_rfl) (by kernel_rfl) (by kernel_rfl) rfl (by decide) (by kernel_rfl) rfl rfl rfl rfl (by kernel_rfl) (fun _ _ _ h=>h) (by rfl) (fun w'=>by go_simp<;>with_reducible rfl) (aK bR) (fun hHeld=>?_);simp only[nI,List.take_zero];(try simp only[Act.put,gL,gK,gJ]);refine cW [1,2,3,4,5,6,7,8] ?_;refine bQ 9 (fun K hK=>?_);go_simp;rw[HSH.o];refine(HSF.o _).mono ?_;rintro e w11 ⟨mJ,v11,rfl,h11⟩;have q_:Hid (Below we.heap.size we w11):=lH (bM.o.tm mJ);have H11:=lH h11;clear mJ h11;go_simp;refine gZ hK q_.o (fun hHeld=>?_);clear hK K;refine bQ 10 (fun K hK=>?_);go_simp;refine(LL (GM.o.up q_.o) H11.o HQM.o).mono ?_;rintro e w12 ⟨GI,v12,rfl,h12⟩;have uW:Hid (Below we.heap.size we w12):=lH (q_.o.tm GI);have H12:=lH h12;clear GI h12 q_ H11;go_simp;refine gZ hK uW.o (fun hHeld=>?_);clear hK K;refine bQ 11 (fun K hK=>?_);go_simp;refine hK.out _ _ ?_ (fun hHeld=>?_)
   ·exact uW.o.alloc uW.o.size _
   clear hK K;(try simp only[Act.put,gL,gK,gJ]);refine eM ?_;clear hHeld;have sH:Below we.heap.size we (w12.alloc (.cells #[.bool v12.b1,.slice v12.A v12.n v12.c,.bool v12.b2,.slice v12.A2 v12.m v12.d] 115)):=uW.o.alloc uW.o.size _;have sP:Hid (aG (w12.alloc (.cells #[.bool v12.b1,.slice v12.A v12.n v12.c,.bool v12.b2,.slice v12.A2 v12.m v12.d] 115)) w12.heap.size 115 #[.bool v12.b1,.slice v12.A v12.n v12.c,.bool v12.b2,.slice v12.A2 v12.m v12.d]):=lH (aG.new w12 _ _);replace HM:=lH (HM.o.up sH);replace HS:=lH (HS.o.bl sH);replace eU:=lH (eU.o.bl sH);replace GM:=lH (GM.o.up sH);have HVU:=lH (H12.o.up ((Below.refl w12.heap.size w12).alloc lR (.cells #[.bool v12.b1,.slice v12.A v12.n v12.c,.bool v12.b2,.slice v12.A2 v12.m v12.d] 115)));clear z4 zl b0 b1 b2 b3 bl bM sH s5 sl;generalize w12.alloc (.cells #[.bool v12.b1,.slice v12.A v12.n v12.c,.bool v12.b2,.slice v12.A2 v12.m v12.d] 115)=wl at *;generalize w12.heap.size=gq at *;refine oR (S:=rF) (.tmp 83) (.tmp 90) 93 rfl (g+1) 115 i1 _ 4 64 Tryz.underlying93 RI0.out RI1.out RI2.out RI3.out rfl (by omega) wF vC _ _ (by rfl) HM.o.oC.own gq 115 #[.bool v12.b1,.slice v12.A v12.n v12.c,.bool v12.b2,.slice v12.A2 v12.m v12.d] (by rfl) sP.o rfl ?k1 ?k2 ?k3 ?k4 ?_
   case k1=>exact DZ v12
   case k2=>have:=HM.o.oC.len;have:=yP.o.2.2.2;simp only[maxLen];omega
   case k3=>have:=HM.o.oC.len;have:=yP.o.2.2.2;omega
   case k4=>exact HM.o.blk.lt
   intro pA pn pc w9 q1 q2 q3 q4;have hm9:=HM.o.appC HVU.o q1 q2 q3 q4;have gA:=q2.blk _ _ _ HM.o.blk (by decide);have XG:=q2.blk _ _ _ HS.o (by decide);have HMN:=lH hm9;have UF:=lH (XG.far (p:=⟨g,5,none⟩) (by have:=HGX.o;show gx≠g;omega) (.slice pA pn pc));have p2:=gA.cell 5;have pl:=gA.lt;have pf:=gA.frozen;clear q1 q2 q3 q4 hm9 gA XG HM HS sP HVU eU GM H12 uW;refine dK (by rfl) ?_;go_simp;refine dK (by rfl) ?_;go_simp;refine dK (by rfl) ?_;(go_wp2_with fail);clear p2 pl pf;go_roundw
   case rel=>
    have hm:=HMN.o;rw[show cP s*Rat.divInt (-s.shift) 1000=eS s from rfl,<-HT4.o] at hm;exact⟨k+1,_,_,_,_,_,_,aU,aO fC.o,hm⟩
   case measure=>exact iI.o
  ·have nH:k=m2:=by omega
   have HZ:Hid (MdZ g w1 wr (.slice (some ⟨g1,0,none⟩) m0 m0) (.slice (some ⟨g2,0,none⟩) (aH x) (aH x)) vF vT vB vC (.slice none 0 0) (gV x) (CC x) uB uC (mB x) (mC x) []):=lH (by
    have h:=HM.o.z;rw[nL (by rw[mQ];have:=U2.o;omega),nL (by rw[rQ];have:=U2.o;omega),nL (by rw[pF];have:=U2.o;omega),nL (by rw[OX];have:=U2.o;omega)] at h;exact h)
   have fY:¬(k:Int)<(m2:Int):=by omega
   have HGR:Hid (g<wr.heap.size):=lH HM.o.blk.lt;have pI:=jT wr (.map #[] 0);have HSM:Hid (∃n,jL (wr.alloc (.map #[] 0)) wr.heap.size n ((eJ x).take 0)/\n<=0):=lH ⟨0,jL.made wr,lR⟩;replace HZ:=lH (HZ.o.up pI);have HBN:Hid (aH x<=24):=lH (cO (eX bU.o).2 (by have:=HL0.o;omega));have HIS:=lH (wU bU.o);have S2:=@run_makeMap Tryz.prog;have z1:=HZ.o.blk.cell 1;have zl:=HZ.o.blk.lt;clear nH HM sC HXR HW pI hk aU;(go_wp2_with fail);clear S2 z1 zl;generalize wr.alloc (.map #[] 0)=wm at *;generalize wr.heap.size=bm at *
   go_loopw [102] (fun v102 wr=>∃(k:Nat)(vZ:Value),k<=aH x/\v102=.int .i64 k/\MdZ g w1 wr (.slice (some ⟨g1,0,none⟩) m0 m0) (.slice (some ⟨g2,0,none⟩) (aH x) (aH x)) vF vT vB vC vZ (gV x) (CC x) uB uC (mB x) (mC x) (lM (dX (eJ x)) k)/\∃n,jL wr bm n ((eJ x).take k)/\n<=k) (fun v102 _=>aH x-(intOf v102).toNat)
   case atStart=>exact⟨0,_,Nat.zero_le _,rfl,HZ.o,HSM.o⟩
   case round=>
    clear HZ HSM;obtain⟨k,vZ,hk,rfl,hz,n,hsn,hn⟩:=hrel;have HZ:=lH hz;have HSN:=lH hsn;have jR:=hz.low;clear hz hsn;by_cases aU:k<aH x
    ·obtain⟨s,hs⟩:∃s,(eJ x)[k]?=some s:=eA (by rw[HIS.o.2];exact aU)
     have kA:(qR x)[k]?=some (s:Int):=by rw[<-HIS.o.1];exact fS hs
     have hic:=G9 (xO.o.below jR (by have:=xO.o.lt;have:=HG.o;omega)) kA;have IK:=lH (fE hs);have hsd:(eJ x).getD k 0=s:=by rw[dN,hs];rfl
     have Y4:Hid ((((eJ x).take k).any fun y=>y == s)=dX (eJ x) k):=lH (by rw[<-aBy (by rw[HIS.o.2];exact aU),hsd]);have HPK:=lH (ED (dX (eJ x)) k);have aNS:s<=24:=by
      have h1:=(qL (AN bU.o).1).2 (s:Int) (bV kA);have:=HBN.o;omega
     have KR:Hid (keyOf Tryz.prog 3 (.int .i64 (s:Int))=some (.int .i64 (s:Int))):=lH (keyOf_int_mk Tryz.underlying3 (by simp[Lit.wf,IntKind.min,IntKind.max,IntKind.signed,IntKind.bits];omega));have aSU:g2<wr.heap.size:=by have:=xO.o.lt;have:=HG.o;have:=jR.size;omega
     have fY:(k:Int)<(aH x:Int):=by omega
     have fC:=lN k;have iI:Hid (aH x-(k+1)<aH x-k):=lH (by omega);have aCq:=HBN.o;have aU4:Hid (g<=w1.heap.size):=lH (by rw[HG.o];exact lR);have UG:Hid ((lM (dX (eJ x)) k).length<=24):=lH (by unfold lM;refine cO (List.length_filter_le _ _) ?_;rw[List.length_range];omega);clear hs kA hsd jR;have aXo:=HSN.o;obtain⟨D,bB,GC,xB⟩:=aXo;have DJ:=lH bB;have U7:=lH xB;have aN7:n<=24:=by omega
     cases qU:dX (eJ x) k with
     | false=>
      have C4:Hid (D.atKey (.int .i64 (s:Int)) (.lit (.bool false))=.lit (.bool false)):=lH (by rw[U7.o,Y4.o,qU]);have aPx:Hid (lM (dX (eJ x)) (k+1)=lM (dX (eJ x)) k):=lH (by rw[HPK.o,qU];simp);clear qU bB xB
      go_wp2_with (first | (at_lookup;refine fQ _ rfl _ _ 157 rfl 3 4 rR Tryz.underlying157 Tryz.underlying4 (xQ _) bm n D rfl DJ.o _ _ rfl KR.o _ C4.o ?_) | (at_mapUpdate;refine wpList_mapUpdate_own _ rfl _ _ _ 157 rfl 3 4 rR Tryz.underlying157 _ bm n D rfl DJ.o (by unfold maxLen;omega) _ _ _ rfl rfl KR.o _ [] (plainElem_bool Tryz.underlying4 true) ?_))
      intro w5 FP hg5;have QA:=lH (jL.put s FP GC U7.o);have HZ5:=lH (HZ.o.mapped HSN.o hg5 HGR.o aU4.o);clear FP hg5 DJ U7 C4 hic aSU;(go_wp2_with fail);go_roundw
      case rel=>exact⟨k+1,vZ,aU,aO fC.o,by rw[aPx.o];exact HZ5.o,n+1,by rw[IK.o];exact QA.o,by omega⟩
      case measure=>exact iI.o
     | true=>
      have C4:Hid (D.atKey (.int .i64 (s:Int)) (.lit (.bool false))=.lit (.bool true)):=lH (by rw[U7.o,Y4.o,qU]);have aPx:Hid (lM (dX (eJ x)) (k+1)=lM (dX (eJ x)) k++[k]):=lH (by rw[HPK.o,qU];simp);have pI:=jT wr (.cells #[.int .i64 (k:Int)] 3);have YK:=lH (HZ.o.up pI);have LX:=lH (HSN.o.below pI);have sP:=lH (aG.new wr 3 #[.int .i64 (k:Int)]);have z6:=HZ.o.blk.cell 6;have zl:=HZ.o.blk.lt;clear qU bB xB pI
      go_wp2_with (first | (at_lookup;refine fQ _ rfl _ _ 157 rfl 3 4 rR Tryz.underlying157 Tryz.underlying4 (xQ _) bm n D rfl DJ.o _ _ rfl KR.o _ C4.o ?_) | (at_builtin;refine F5 (S:=vL) rfl (.tmp 114) (.tmp 116) 30 rfl (g+1) 3 i0 _ 1 8 Tryz.underlying30 L4.o E9.o QF.o LB.o rfl (by omega) aDK vZ _ _ rfl YK.o.oZ wr.heap.size 3 #[.int .i64 (k:Int)] rfl sP.o rfl ?k1 ?k2 ?k3 ?k4 ?_))
      case k1=>first | (intro u hu;rw[show u=.int .i64 (k:Int) from by simpa using hu];exact⟨rfl,_,rfl⟩) | exact⟨rfl,_,rfl⟩
      case k2=>have:=UG.o;simp only[maxLen];omega
      case k3=>have:=UG.o;omega
      case k4=>exact YK.o.blk.lt
      intro pA pn pc w9 q1 q2 q3 q4;have hz9:=YK.o.app q1 q2 (by simpa using q3) (fun i hi=>q4 i (by simpa using hi));have aSS:(wr.alloc (.cells #[.int .i64 (k:Int)] 3)).grownBy w9 vZ.ownBlock:=⟨q2.low.os,q2.low.tape,q2.low.output,q2.size,fun i hi bX=>q4 i (by simpa using hi) (fun e=>bX e.symm)⟩;have XG:=LX.o.kept aSS (jL.apart LX.o YK.o.oZ);have gA:=q2.blk _ _ _ YK.o.blk (by decide);have UF:Hid (jL (w9.setCell ⟨g,6,none⟩ (.slice pA pn pc)) bm n ((eJ x).take k)):=lH (XG.kept (gU (iF bR (some g)) (.inl rfl) _) (by intro e;injection e with e;have:=HGR.o;omega));have HZ9:=lH hz9;have p6:=gA.cell 6;have pl:=gA.lt;have pf:=gA.frozen;clear q1 q2 q3 q4 hz9 aSS XG gA YK LX sP DJ U7 C4 hic aSU z6 zl HSN HZ GC;(go_upto_region 17 with fail);clear p6 pl pf;generalize w9.setCell ⟨g,6,none⟩ (.slice pA pn pc)=wq at *;generalize Value.slice pA pn pc=vZ2 at *;have hsq:=UF.o;obtain⟨D2,bB,GC,xB⟩:=hsq;have HO2:=lH bB;have aVt:=lH xB;clear bB xB
      go_wp2_with (at_mapUpdate;refine wpList_mapUpdate_own _ rfl _ _ _ 157 rfl 3 4 rR Tryz.underlying157 _ bm n D2 rfl HO2.o (by unfold maxLen;omega) _ _ _ rfl rfl KR.o _ [] (plainElem_bool Tryz.underlying4 true) ?_)
      intro w5 FP hg5;have QA:=lH (jL.put s FP GC aVt.o);have HZ5:=lH (HZ9.o.mapped UF.o hg5 HGR.o aU4.o);clear FP hg5 HO2 aVt;(go_wp2_with fail);go_roundw
      case rel=>exact⟨k+1,vZ2,aU,aO fC.o,by rw[aPx.o];exact HZ5.o,n+1,by rw[IK.o];exact QA.o,by omega⟩
      case measure=>exact iI.o
    ·have fY:¬(k:Int)<(aH x:Int):=by omega
     have nH:k=aH x:=by omega
     have hFL:lM (dX (eJ x)) k=aA x:=by rw[nH];rfl
     have nW:=HZ.o;rw[hFL] at nW;obtain⟨aF,cF,hvF,hrF⟩:=JB nW.oF;obtain⟨aT,cT,hvT,hrT⟩:=JB nW.oT;obtain⟨aZ,cZ,hvZ,hrZ⟩:=JB nW.oZ;obtain⟨aB,cB,hvB,hrB,-⟩:=nW.oB.rd;obtain⟨aC,cC,hvC,hrC,-⟩:=nW.oC.rd;have FR:=Q4.o.below nW.low (by have:=Q4.o.lt;have:=HG.o;omega);have rV:=xO.o.below nW.low (by have:=xO.o.lt;have:=HG.o;omega);have sH:=(lF bU.o).1;have aSP:=(qL (AN bU.o).1).1;have wB:Hid (fB wr wr.heap.size ⟨some ⟨g1,0,none⟩,m0,m0,some ⟨g2,0,none⟩,aH x,aH x,aF,(gV x).length,cF,aT,(CC x).length,cT,aB,(mB x).length,cB,aC,(mC x).length,cC,aZ,(aA x).length,cZ⟩ x):=lH ⟨ZT FR (by rw[sH];exact HL0.o),ZT rV aSP,hrF,hrT,hrB,hrC,hrZ⟩;have yQ:=lH nW.blk;rw[hvF,hvT,hvZ,hvB,hvC] at yQ;have aKW:=lH nW.low;have HIV:=lH (W5 g ⟨some ⟨g1,0,none⟩,m0,m0,some ⟨g2,0,none⟩,aH x,aH x,aF,(gV x).length,cF,aT,(CC x).length,cT,aB,(mB x).length,cB,aC,(mC x).length,cC,aZ,(aA x).length,cZ⟩ x bU.o H8.o wr yQ.o wB.o);have zl:=yQ.o.lt;clear nH hFL nW hvF hrF hvT hrT hvZ hrZ hvB hrB hvC hrC FR rV sH aSP HZ HSN wB yQ;(go_wp2_with fail);refine HIV.o.mono ?_;rintro e w5 ⟨rfl,hgr,hmo,A,n9,c9,zW,S4⟩;have eK:Hid (Below w.heap.size w w5):=lH (bT.o.trans (AO aKW.o hgr lR (by rw[HG.o];exact lR) |>.mono L5.o.2));obtain⟨wB,yQ,KS⟩:=d_ hmo zW S4;clear hgr hmo zW S4 HIV;(go_wp2_with fail);go_ret;exact⟨eK.o,g,_,A,n9,c9,rfl,L5.o.2,yQ.o,wB.o,KS.o⟩
end
