import Derived.Test.YtonlblmobjhjjaaGreatDoorW11
import Derived.Test.YtonlblmobjhjjaaGreatDoorW12
set_option linter.unusedVariables false
set_option linter.unusedSimpArgs false
namespace Go.Proofs.YtonlblmobjhjjaaGreatDoor
set_option maxHeartbeats 8000000
set_option maxRecDepth 100000
variable {A : OA} {D K a b b' c e f g i j k m n r size t : Nat} {M : List (List Rat)} {al lf q qs : List Rat} {cs : Array Value} {free l : List Nat} {ps : List Int} {v y : Value} {vs : List Rv} {w w' : World} {x : bP} {xs : List Value}
section
open Go.ChangeShapes Go.WideShapes Go.ChangeAt Go.RowKit
def B7(y:Value):Prop:=∀k x,y≠.int k x
theorem U0:B7 (.slice A n c):=fun k x h=>by cases h
theorem cY.keep1{T:Nat}{q:Rat}{x:Rv}(h:cY w w.heap.size q x)(hb:aD w g T cs)(hy:cs[i]?=some y)(hn:B7 y)(u:Value):cY (w.setCell ⟨g,i,none⟩ u) (w.setCell ⟨g,i,none⟩ u).heap.size q x:=by
 have h0:bS w w.heap.size q x.b1 x.A x.n x.c x.b2 x.A2 x.m x.d:=h;exact bS.keep h0 (v:=y) (by rw[hb.cell];exact hy) hn u
section
variable {S:Value->Prop} {w w':Wo} {base e size n:Nat} {v:Value} {xs:List Value}
theorem bO.blk(h:bO S w base e size v n xs){S':Value->Prop}{e':TypeId}(k:dZ S' b' e' w w')(cK:e≠e'):bO S w' base e size v n xs:=by
 refine⟨h.1,?_⟩;rcases h.2 with h1 | ⟨g,cap,cur,h1,h2,h3,h4⟩
 ·exact .inl h1
 ·exact .inr ⟨g,cap,cur,h1,h2,k.blk _ _ _ h3 cK,h4⟩
theorem bO.ni(h:bO S w base e size v n xs):B7 v:=by
 obtain⟨A,c,rfl,_⟩:=h.shape;exact U0
end
structure CP (g:Nat) (w0 wr:Wo) (b0 b1 vF vT vB vC:Value) (F T:List Nat) (uB uC:List Rv) (B C:List Rat):Prop where
 blk:aD wr g 131 #[b0,b1,vF,vT,vB,vC,.slice none 0 0,.slice none 0 0]
 oF:bO yB wr (g+1) 3 1 vF F.length (kW F)
 oT:bO yB wr (g+1) 3 1 vT T.length (kW T)
 oB:dD wr (g+1) vB uB B
 oC:dD wr (g+1) vC uC C
 ap:∀k,vF.ownBlock=some k->vT.ownBlock≠some k
 aq:∀k,vB.ownBlock=some k->vC.ownBlock≠some k
 low:Below g w0 wr
section
variable {g:Nat} {w0 wr w':Wo} {b0 b1 vF vT vB vC v':Value} {F T:List Nat} {uB uC:List Rv} {B C:List Rat}
theorem CP.up(m:CP g w0 wr b0 b1 vF vT vB vC F T uB uC B C)(hb:Below wr.heap.size wr w'):CP g w0 w' b0 b1 vF vT vB vC F T uB uC B C:=
 ⟨m.blk.bl hb,m.oF.keep hb,m.oT.keep hb,m.oB.keep hb,m.oC.keep hb,m.ap,m.aq,m.low.trans (hb.mono (qY m.blk.lt))⟩
theorem dD.keepsI{base:Nat}(h:dD wr base v vs qs)(k:dZ yB b' 3 wr w'):dD w' base v vs qs:=
 ⟨h.own.blk k (by decide),h.len,fun i q x hq hx=>(h.ok i q x hq hx).keepsI k⟩
theorem dD.far{u:Value}{base T:Nat}(h:dD wr base v vs qs)(hb:aD wr g T cs)(ht:87≠T)(hy:cs[i]?=some y)(hn:B7 y):dD (wr.setCell ⟨g,i,none⟩ u) base v vs qs:=
 ⟨h.own.far hb ht,h.len,fun i q x hq hx=>(h.ok i q x hq hx).keep1 hb hy hn u⟩
theorem dD.apart{u:Value}{base:Nat}(h:dD wr base u vs qs)(k:dZ tQ b' 87 wr w')(ho:∀k,k<wr.heap.size->v.ownBlock≠some k->w'.heap[k]?=wr.heap[k]?)(cK:∀k,u.ownBlock=some k->v.ownBlock≠some k):dD w' base u vs qs:=
 ⟨h.own.apart ho cK,h.len,fun i q x hq hx=>(h.ok i q x hq hx).keeps k⟩
theorem xH{S:Value->Prop}{v' u:Value}{base:Nat}(h:∀k,v.ownBlock=some k->u.ownBlock≠some k)(hu:bO S wr base e size u n xs)(hv:v'.ownBlock=v.ownBlock\/v'.ownBlock=some wr.heap.size):∀k,v'.ownBlock=some k->u.ownBlock≠some k:=fun k hk hc=>by
 rcases hv with hv | hv
 ·rw[hv] at hk;exact h k hk hc
 ·rw[hv] at hk
  injection hk with hk;subst hk;exact absurd (hu.lt hc).2 (Nat.lt_irrefl _)
theorem CP.appF(m:CP g w0 wr b0 b1 vF vT vB vC F T uB uC B C){u:Nat}(h1:bO yB w' (g+1) 3 1 v' (F.length+1) (kW F++[.int .i64 (u:Int)]))(h2:dZ yB (g+1) 3 wr w')(h3:v'.ownBlock=vF.ownBlock\/v'.ownBlock=some wr.heap.size)(h4:∀k,k<wr.heap.size->vF.ownBlock≠some k->w'.heap[k]?=wr.heap[k]?):CP g w0 (w'.setCell ⟨g,2,none⟩ v') b0 b1 v' vT vB vC (F++[u]) T uB uC B C:=by
 have hb:=h2.blk _ _ _ m.blk (by decide);have hT:=m.oT.apart h4 fun k hk hc=>m.ap k hc hk;have hB:=m.oB.keepsI h2;have hC:=m.oC.keepsI h2;have d5:F.length+1=(F++[u]).length:=by simp
 have XJ:kW F++[.int .i64 (u:Int)]=kW (F++[u]):=by unfold kW;rw[List.map_append];rfl
 rw[d5,XJ] at h1;exact⟨by have:=hb.set_ 2 v';simpa using this,h1.far hb (by decide),hT.far hb (by decide),hB.far hb (by decide) (y:=vF) rfl m.oF.ni,hC.far hb (by decide) (y:=vF) rfl m.oF.ni,xH m.ap m.oT h3,m.aq,(m.low.trans (h2.low.mono (Nat.le_succ g))).setCell lR _⟩
theorem CP.appT(m:CP g w0 wr b0 b1 vF vT vB vC F T uB uC B C){u:Nat}(h1:bO yB w' (g+1) 3 1 v' (T.length+1) (kW T++[.int .i64 (u:Int)]))(h2:dZ yB (g+1) 3 wr w')(h3:v'.ownBlock=vT.ownBlock\/v'.ownBlock=some wr.heap.size)(h4:∀k,k<wr.heap.size->vT.ownBlock≠some k->w'.heap[k]?=wr.heap[k]?):CP g w0 (w'.setCell ⟨g,3,none⟩ v') b0 b1 vF v' vB vC F (T++[u]) uB uC B C:=by
 have hb:=h2.blk _ _ _ m.blk (by decide);have hF:=m.oF.apart h4 fun k hk hc=>m.ap k hk hc;have hB:=m.oB.keepsI h2;have hC:=m.oC.keepsI h2;have d5:T.length+1=(T++[u]).length:=by simp
 have XJ:kW T++[.int .i64 (u:Int)]=kW (T++[u]):=by unfold kW;rw[List.map_append];rfl
 rw[d5,XJ] at h1;have hap:∀k,vF.ownBlock=some k->v'.ownBlock≠some k:=fun k hk hc=>xH (v:=vT) (fun k h1 h2=>m.ap k h2 h1) m.oF h3 k hc hk;exact⟨by have:=hb.set_ 3 v';simpa using this,hF.far hb (by decide),h1.far hb (by decide),hB.far hb (by decide) (y:=vT) rfl m.oT.ni,hC.far hb (by decide) (y:=vT) rfl m.oT.ni,hap,m.aq,(m.low.trans (h2.low.mono (Nat.le_succ g))).setCell lR _⟩
theorem CP.appB(m:CP g w0 wr b0 b1 vF vT vB vC F T uB uC B C){u:Rv}{q:Rat}(hq:cY wr wr.heap.size q u)(h1:bO tQ w' (g+1) 87 4 v' (uB.length+1) (eM uB++u.cells))(h2:dZ tQ (g+1) 87 wr w')(h3:v'.ownBlock=vB.ownBlock\/v'.ownBlock=some wr.heap.size)(h4:∀k,k<wr.heap.size->vB.ownBlock≠some k->w'.heap[k]?=wr.heap[k]?):CP g w0 (w'.setCell ⟨g,4,none⟩ v') b0 b1 vF vT v' vC F T (uB++[u]) uC (B++[q]) C:=by
 have hb:=h2.blk _ _ _ m.blk (by decide);have hB:=m.oB.app hq h1 h2;have hC:=m.oC.apart h2 h4 fun k hk hc=>m.aq k hc hk;exact⟨by have:=hb.set_ 4 v';simpa using this,(m.oF.blk h2 (by decide)).far hb (by decide),(m.oT.blk h2 (by decide)).far hb (by decide),hB.far hb (by decide) (y:=vB) rfl m.oB.own.ni,hC.far hb (by decide) (y:=vB) rfl m.oB.own.ni,m.ap,xH m.aq m.oC.own h3,(m.low.trans (h2.low.mono (Nat.le_succ g))).setCell lR _⟩
theorem CP.appC(m:CP g w0 wr b0 b1 vF vT vB vC F T uB uC B C){u:Rv}{q:Rat}(hq:cY wr wr.heap.size q u)(h1:bO tQ w' (g+1) 87 4 v' (uC.length+1) (eM uC++u.cells))(h2:dZ tQ (g+1) 87 wr w')(h3:v'.ownBlock=vC.ownBlock\/v'.ownBlock=some wr.heap.size)(h4:∀k,k<wr.heap.size->vC.ownBlock≠some k->w'.heap[k]?=wr.heap[k]?):CP g w0 (w'.setCell ⟨g,5,none⟩ v') b0 b1 vF vT vB v' F T uB (uC++[u]) B (C++[q]):=by
 have hb:=h2.blk _ _ _ m.blk (by decide);have hC:=m.oC.app hq h1 h2;have hB:=m.oB.apart h2 h4 fun k hk hc=>m.aq k hk hc;have O2:∀k,vB.ownBlock=some k->v'.ownBlock≠some k:=fun k hk hc=>xH (v:=vC) (fun k h1 h2=>m.aq k h2 h1) m.oB.own h3 k hc hk;exact⟨by have:=hb.set_ 5 v';simpa using this,(m.oF.blk h2 (by decide)).far hb (by decide),(m.oT.blk h2 (by decide)).far hb (by decide),hB.far hb (by decide) (y:=vC) rfl m.oC.own.ni,hC.far hb (by decide) (y:=vC) rfl m.oC.own.ni,m.ap,O2,(m.low.trans (h2.low.mono (Nat.le_succ g))).setCell lR _⟩
theorem RF(b0 b1:Value):CP w.heap.size w (w.alloc (.cells #[b0,b1,.slice none 0 0,.slice none 0 0,.slice none 0 0,.slice none 0 0,.slice none 0 0,.slice none 0 0] 131)) b0 b1 (.slice none 0 0) (.slice none 0 0) (.slice none 0 0) (.slice none 0 0) [] [] [] [] [] []:=
 ⟨aD.new _ _ _,g9 _ _ _ _ _,g9 _ _ _ _ _,lO _ _,lO _ _,fun k h=>(by cases h),fun k h=>(by cases h),bA⟩
end
end
section
open Go.ChangeShapes Go.WideShapes Go.ChangeAt Go.RowKit Go.Maps
def gA(w:Wo)(b n:Nat)(l:List Nat):Prop:=
 ∃D:DataW Unit,w.ownsMap Tryz.prog 3 (plainElem Tryz.prog 4) b n D/\IsMap D/\∀s:Nat,D.atKey (.int .i64 (s:Int)) (.lit (.bool false))=.lit (.bool (l.any fun x=>x == s))
theorem gA.lt(h:gA w b n l):b<w.heap.size:=by obtain⟨D,h1,_⟩:=h;exact h1.lt
theorem gA.kept{row:Option Nat}(h:gA w b n l)(hg:w.grownBy w' row)(cK:some b≠row):gA w' b n l:=by
 obtain⟨D,h1,h2⟩:=h;exact⟨D,h1.kept hg cK,h2⟩
theorem gA.below(h:gA w b n l)(hb:Below w.heap.size w w'):gA w' b n l:=h.kept (row:=none) ⟨hb.os,hb.tape,hb.output,hb.size,fun k hk _=>hb.block k hk⟩ (by simp)
theorem gA.made(w:Wo):gA (w.alloc (.map #[] 0)) w.heap.size 0 []:=⟨.map [],World.ownsMap_made _ _ _ _,⟨[],rfl⟩,fun s=>rfl⟩
theorem mW:Keyed Tryz.prog 3:=int_keyed Tryz.underlying3
theorem gA.put{w:Wo}{b n:Nat}{l:List Nat}{D:DataW Unit}(s:Nat)(h1:w.ownsMap Tryz.prog 3 (plainElem Tryz.prog 4) b (n+1) (D.put (.int .i64 (s:Int)) (.lit (.bool true))))(h2:IsMap D)(h3:∀s:Nat,D.atKey (.int .i64 (s:Int)) (.lit (.bool false))=.lit (.bool (l.any fun x=>x == s))):gA w b (n+1) (l++[s]):=by
 refine⟨_,h1,?_,fun t=>?_⟩
 ·obtain⟨es,rfl⟩:=h2
  exact⟨_,rfl⟩
 ·by_cases hts:t=s
  ·subst hts
   rw[atKey_put_same h2 (k:=.int .i64 (t:Int)) trivial];simp
  ·rw[atKey_put_other (fun e=>hts (by injection e with _ e;omega)),h3,List.any_append]
   have:(s == t)=false:=by simp;omega
   simp[this]
theorem QS(hk:k<l.length):((l.take k).any fun x=>x == l.getD k 0)=dG l k:=by
 unfold dG aBw FE;rw[Bool.not_not,Bool.eq_iff_iff,List.any_eq_true,List.any_eq_true]
 constructor
 ·rintro⟨y,hy,he⟩
  obtain⟨i,hi⟩:=List.mem_iff_getElem?.1 hy;have uU:i<k:=by have:=(c_.1 hi).1;rw[kC] at this;omega
  rw[List.getElem?_take_of_lt uU] at hi;refine⟨i,List.mem_range.2 uU,?_⟩;rw[dQ,hi];exact he
 ·rintro⟨a,ha,he⟩
  have hak:=List.mem_range.1 ha;obtain⟨y,hy⟩:∃y,l[a]?=some y:=eG (by omega);refine⟨y,cS (i:=a) (by rw[List.getElem?_take_of_lt hak];exact hy),?_⟩;rw[dQ,hy] at he;exact he
theorem wL(p:Nat->Bool)(n:Nat):iB p (n+1)=iB p n++if p n then[n] else[]:=by
 unfold iB;rw[List.range_succ,List.filter_append];cases h:p n<;>simp[h]
theorem qK(ok:cH x):eV (dN x)=mQ x/\(dN x).length=aN x:=by
 have h:=l9 (tA ok).1;refine⟨?_,by unfold dN;rw[kJ];exact h.1⟩;unfold eV dN;rw[List.map_map];have:∀l:List Int,(∀z∈l,0<=z)->l.map ((fun(v:Nat)=>(v:Int)) ∘ Int.toNat)=l:=fun l=>by
  induction l with
  | nil=>intro _;rfl
  | cons a r ih=>
   intro hl;rw[List.map_cons,ih fun z hz=>hl z (List.mem_cons_of_mem _ hz)];have:=hl a (List.mem_cons_self ..);simp[Int.toNat_of_nonneg this]
 exact this _ fun z hz=>(h.2 z hz).1
section
variable {P:Program}
theorem yF{S:Value->Prop}{ops:Array Oper}{rest:List Oper}{o:Oper}{a:Act}{Q:Exit->Act->World->Prop}{w:Wo}(C4:o.guard=none)(s x:Operand)(t:TypeId)(ho:o.op=.call { callee:=.builtin .append,args:=#[s,x],argTypes:=#[t,t] })(base:Nat)(e:TypeId)(i:TypeInfo)(z:Value)(size bytes:Nat)(ht:P.underlying t=some (.slice e))(hi:P.info? e=some i)(hz:i.zero=some z)(eW:i.size=size)(sV:i.bytes=bytes)(zJ:z.cells.size=size)(gP:0<size)(K7:∀u∈z.cells.toList,S u)(v:Value)(n:Nat)(xs:List Value)(hs:a.eval s=v)(bB:bO S w base e size v n xs)(g T:Nat)(lit:Array Value)(hx:a.eval x=.slice (some ⟨g,0,none⟩) 1 1)(hg:aD w g T lit)(hl:lit.size=size)(h1:∀u∈lit.toList,u.oneCell'=true/\S u)(yO:n+1<=maxLen)(eK:(n+1)*bytes<=140737488355328)(cP:base<=w.heap.size)(h:∀A m c w',bO S w' base e size (.slice A m c) (n+1) (xs++lit.toList)->dZ S base e w w'->((Value.slice A m c).ownBlock=v.ownBlock\/(Value.slice A m c).ownBlock=some w.heap.size)->(∀k,k<w.heap.size->v.ownBlock≠some k->w'.heap[k]?=w.heap[k]?)->wpList P ops Q rest (a.put o.dst (.slice A m c)) w'):wpList P ops Q (o::rest) a w:=by
 refine wpList_plain C4 fun K hK=>?_;exact kK s x t ho base e i z size bytes ht hi hz eW sV zJ gP K7 v n xs hs bB g T lit hx hg hl h1 yO eK cP fun A m c w' q1 q2 q3 q4=>hK _ _ (h A m c w' q1 q2 q3 q4)
end
structure TV (g:Nat) (w0 wr:Wo) (b0 b1 vF vT vB vC vZ:Value) (F T:List Nat) (uB uC:List Rv) (B C:List Rat) (Z:List Nat):Prop where
 blk:aD wr g 131 #[b0,b1,vF,vT,vB,vC,vZ,.slice none 0 0]
 oF:bO yB wr (g+1) 3 1 vF F.length (kW F)
 oT:bO yB wr (g+1) 3 1 vT T.length (kW T)
 oB:dD wr (g+1) vB uB B
 oC:dD wr (g+1) vC uC C
 oZ:bO yB wr (g+1) 3 1 vZ Z.length (kW Z)
 zF:∀k,vF.ownBlock=some k->vZ.ownBlock≠some k
 zT:∀k,vT.ownBlock=some k->vZ.ownBlock≠some k
 low:Below g w0 wr
section
variable {g:Nat} {w0 wr w':Wo} {b0 b1 vF vT vB vC vZ v':Value} {F T Z:List Nat} {uB uC:List Rv} {B C:List Rat}
theorem CP.z(m:CP g w0 wr b0 b1 vF vT vB vC F T uB uC B C):TV g w0 wr b0 b1 vF vT vB vC (.slice none 0 0) F T uB uC B C []:=
 ⟨m.blk,m.oF,m.oT,m.oB,m.oC,g9 _ _ _ _ _,fun k _ h=>(by cases h),fun k _ h=>(by cases h),m.low⟩
theorem TV.up(m:TV g w0 wr b0 b1 vF vT vB vC vZ F T uB uC B C Z)(hb:Below wr.heap.size wr w'):TV g w0 w' b0 b1 vF vT vB vC vZ F T uB uC B C Z:=
 ⟨m.blk.bl hb,m.oF.keep hb,m.oT.keep hb,m.oB.keep hb,m.oC.keep hb,m.oZ.keep hb,m.zF,m.zT,m.low.trans (hb.mono (qY m.blk.lt))⟩
theorem TV.app(m:TV g w0 wr b0 b1 vF vT vB vC vZ F T uB uC B C Z){u:Nat}(h1:bO yB w' (g+1) 3 1 v' (Z.length+1) (kW Z++[.int .i64 (u:Int)]))(h2:dZ yB (g+1) 3 wr w')(h3:v'.ownBlock=vZ.ownBlock\/v'.ownBlock=some wr.heap.size)(h4:∀k,k<wr.heap.size->vZ.ownBlock≠some k->w'.heap[k]?=wr.heap[k]?):TV g w0 (w'.setCell ⟨g,6,none⟩ v') b0 b1 vF vT vB vC v' F T uB uC B C (Z++[u]):=by
 have hb:=h2.blk _ _ _ m.blk (by decide);have hF:=m.oF.apart h4 m.zF;have hT:=m.oT.apart h4 m.zT;have hB:=m.oB.keepsI h2;have hC:=m.oC.keepsI h2;have d5:Z.length+1=(Z++[u]).length:=by simp
 have XJ:kW Z++[.int .i64 (u:Int)]=kW (Z++[u]):=by unfold kW;rw[List.map_append];rfl
 rw[d5,XJ] at h1;have hzF:∀k,vF.ownBlock=some k->v'.ownBlock≠some k:=fun k hk hc=>xH (v:=vZ) (fun k h1 h2=>m.zF k h2 h1) m.oF h3 k hc hk;have hzT:∀k,vT.ownBlock=some k->v'.ownBlock≠some k:=fun k hk hc=>xH (v:=vZ) (fun k h1 h2=>m.zT k h2 h1) m.oT h3 k hc hk;exact⟨by have:=hb.set_ 6 v';simpa using this,hF.far hb (by decide),hT.far hb (by decide),hB.far hb (by decide) (y:=vZ) rfl m.oZ.ni,hC.far hb (by decide) (y:=vZ) rfl m.oZ.ni,h1.far hb (by decide),hzF,hzT,(m.low.trans (h2.low.mono (Nat.le_succ g))).setCell lR _⟩
theorem bO.mapped{S:Value->Prop}{base:Nat}(h:bO S w base e size v n xs)(hs:gA w b m l)(hg:w.grownBy w' (some b)):bO S w' base e size v n xs:=by
 refine⟨h.1,?_⟩;rcases h.2 with h1 | ⟨g,cap,cur,h1,h2,h3,h4⟩
 ·exact .inl h1
 ·refine .inr ⟨g,cap,cur,h1,h2,h3.grown hg (fun e=>?_),h4⟩
  injection e with e;subst e;obtain⟨D,⟨es,clock,hb,_⟩,_⟩:=hs;have h5:some (Obj.cells cur _ (0,0))=some (Obj.map es clock):=h3.symm.trans hb;cases h5
theorem gA.apart{S:Value->Prop}{base:Nat}(hs:gA w b n l)(h:bO S w base e size v m xs):some b≠v.ownBlock:=by
 intro hb;rcases h.2 with⟨h1,_⟩ | ⟨g,cap,cur,h1,h2,h3,h4⟩
 ·rw[h1] at hb;cases hb
 ·rw[h1] at hb
  injection hb with hb;subst hb;obtain⟨D,⟨es,clock,hq,_⟩,_⟩:=hs;have h5:some (Obj.cells cur _ (0,0))=some (Obj.map es clock):=h3.symm.trans hq;cases h5
theorem OK{zs:List Int}(h:aD w g t (bK zs).toArray)(hn:zs.length=n):oA w w.heap.size (some ⟨g,0,none⟩) n zs:=
 ⟨by unfold bK;rw[kJ,Nat.mul_one];exact hn,fun _=>⟨g,0,rfl,h.lt,fun j u hu=>by rw[Nat.zero_add,h.cell j];simpa using hu⟩⟩
theorem aD.mapped(h:aD w g t cs)(hs:gA w b m l)(hg:w.grownBy w' (some b)):aD w' g t cs:=by
 refine h.grown hg (fun e=>?_);injection e with e;subst e;obtain⟨D,⟨es,clock,hb,_⟩,_⟩:=hs;have h5:some (Obj.cells cs t (0,0))=some (Obj.map es clock):=h.symm.trans hb;cases h5
theorem cY.mappedI{q:Rat}{x:Rv}(h:cY w w.heap.size q x)(hs:gA w b m l)(hg:w.grownBy w' (some b)):cY w' w'.heap.size q x:=by
 have key:∀{A:OA}{n:Nat}{l:List Nat},gF w w.heap.size A n l->gF w' w'.heap.size A n l:=fun{A n l'} h=>⟨h.1,fun hn=>by
  obtain⟨b',off,e,aR,hc⟩:=h.2 hn;have cK:b'≠b:=by
   rintro rfl;have hx:0<(aY l').length:=by have:=h.1;omega
   have h0:=hc 0 _ (jP hx);obtain⟨D,⟨es,clock,hb,_⟩,_⟩:=hs;unfold World.cell? at h0;rw[hb] at h0;cases h0
  exact⟨b',off,e,jJ aR hg.size,fun j u hu=>(World.cell?_of_block (a:=⟨b',off+j,none⟩) (hg.block b' aR (fun e=>by injection e;omega))).trans (hc j u hu)⟩⟩
 exact⟨⟨h.num.eb,h.num.en,key h.num.rd,h.num.nc,h.num.cm⟩,⟨h.den.eb,h.den.en,key h.den.rd,h.den.nc,h.den.cm⟩⟩
theorem TV.mapped(m:TV g w0 wr b0 b1 vF vT vB vC vZ F T uB uC B C Z)(hs:gA wr b n l)(hg:wr.grownBy w' (some b))(hb:g<b)(h0:g<=w0.heap.size):TV g w0 w' b0 b1 vF vT vB vC vZ F T uB uC B C Z:=
 ⟨m.blk.mapped hs hg,m.oF.mapped hs hg,m.oT.mapped hs hg,⟨m.oB.own.mapped hs hg,m.oB.len,fun i q x hq hx=>(m.oB.ok i q x hq hx).mappedI hs hg⟩,⟨m.oC.own.mapped hs hg,m.oC.len,fun i q x hq hx=>(m.oC.ok i q x hq hx).mappedI hs hg⟩,m.oZ.mapped hs hg,m.zF,m.zT,tB m.low hg (qY hb) h0⟩
theorem AH{base:Nat}(h:bO yB w base 3 1 v l.length (kW l)):∃A c,v=.slice A l.length c/\oA w w.heap.size A l.length (eV l):=by
 obtain⟨A,c,hv,hr,_⟩:=wM h.own;refine⟨A,c,hv,?_⟩;have:bK (eV l)=kW l:=by unfold bK eV kW;rw[List.map_map];rfl
 unfold oA;rw[this];exact hr
end
end
section
open Go.ChangeShapes Go.WideShapes Go.ChangeAt Go.RowKit Go.Maps
attribute [local go_sem ↓] aE
attribute [local go_sem] aJ aI aL aX cQ.cells
def OfP(x:bP)(w:Wo)(e:Ending)(w':Wo):Prop:=Below w.heap.size w w'/\∃(g:Nat)(m:jN)(A:OA)(n c:Nat),e=.returned (.pointer (some ⟨g,0,none⟩))/\w.heap.size<=g/\aD w' g 131 (m.cells (.slice A n c))/\fN w' w'.heap.size m x/\(RJ x->n=(aG x).length/\lV w' w'.heap.size A n (rT x))
theorem kF{α:Type}{l:List α}{x:α}(h:l[k]?=some x):l.take (k+1)=l.take k++[x]:=fG h
theorem AU{b:Br}(h:x.brs[k]?=some b):(jB x)[k]?=some (aA x b.fr)/\(FQ x)[k]?=some (aA x b.to)/\(mB x)[k]?=some (gD b)/\(mC x)[k]?=some (mS b):=by
 unfold jB FQ mB mC GA;simp[h]
theorem NQ{b:Br}(h:b.bad=false):1<=b.x/\b.x<=10000/\500<=b.tap/\b.tap<=1500/\-1000<=b.shift/\b.shift<=1000:=by
 unfold Br.bad at h;simp only[Bool.or_eq_false_iff] at h;obtain⟨⟨⟨⟨⟨a1,a2⟩,a3⟩,_⟩,_⟩,_⟩:=h;unfold iR at a1 a2 a3;have:=of_decide_eq_false a1;have:=of_decide_eq_false a2;have:=of_decide_eq_false a3;omega
theorem DN{b:Br}(h:b.bad=false):bM (Rat.divInt (-b.shift) 1000)<=1:=by
 have h1:=NQ h;unfold bM;rw[show(1000:Int)=((1000:Nat):Int) from rfl,(lL (-b.shift) (by decide)).2,(q_ (-b.shift) (by decide)).1];refine Nat.max_le.2 ⟨gI ?_,gI ?_⟩
 ·refine zT_ (Nat.div_le_self ..) ?_
  show _<4294967296^1;omega
 ·refine zT_ (Nat.div_le_self ..) ?_
  show _<4294967296^1;decide
theorem NE(h:cQ)(x:bP)(ok:cH x)(h8:x.nodes.length<=8)(w:Wo)(r:cX w w.heap.size h x):Calls Tryz.prog 41 #[.agg h.cells] w (OfP x w):=by
 have K0:=vM w (.cells h.cells 29);obtain⟨HK,HX,HRN,cL,H8⟩:=mP K0 (aD.new w 29 h.cells) r ok h8;have HGT:=lH (O4 h x ok _ (r.up K0));have N6:Hid (x.brs.length=h.n2):=lH r.r2.1;have P5:Hid (x.nodes.length=h.n0):=lH r.r0.1;have TP:h.n2<=24:=by rw[<-N6.o];exact ok.l2
 have MZ:h.n0<=24:=by rw[<-P5.o];exact ok.l0
 obtain⟨i0,jL,pF,kT,kS⟩:=info_parts D8;obtain⟨yT,xK,CE,CD⟩:=gO jL pF kT kS;obtain⟨i1,ri0,rz0,rz1,rz2⟩:=jW;obtain⟨RI0,RI1,RI2,RI3⟩:=gO ri0 rz0 rz1 rz2;clear K0 r ok h8 jL pF kT kS ri0 rz0 rz1 rz2;obtain⟨A0,m0,c0,A1,m1,c1,A2,m2,c2,A3,m3,c3,A4,m4,c4,A5,m5,c5⟩:=h;simp only[cQ.cells] at HK HX HGT N6 P5 TP MZ ⊢;go_enter Tryz.func41,Tryz.ntmps41
 go_upto_region 1 with fail
 generalize w.alloc (.cells #[.slice A0 m0 c0,.slice A1 m1 c1,.slice A2 m2 c2,.slice A3 m3 c3,.slice A4 m4 c4,.slice A5 m5 c5] 29)=W at *;obtain⟨y0,y1,y2,y3,y4,y5,xY⟩:=HX.o.b6
 go_wp2_with fail
 refine HGT.o.mono ?_;clear y0 y1 y2 y3 y4 y5 xY HGT;rintro e w1 ⟨bG,g1,g2,rfl,EF,iH,aIG,aIF⟩;have cR:=bX HK bG;obtain⟨dE,G1,rN⟩:=eR (HX.o.bl bG) aIG aIF;have HGG:Hid (W.heap.size<=g1/\W.heap.size<=g2/\w.heap.size<W.heap.size):=lH ⟨EF,iH,HX.o.lt⟩;clear bG HK HX aIG aIF EF iH
 go_upto_region 2 with fail
 have HM0:=lH (RF (w:=w1) (.slice (some ⟨g1,0,none⟩) m0 m0) (.slice (some ⟨g2,0,none⟩) (aN x) (aN x)));have vQ:=lH ((Below.refl w1.heap.size w1).alloc lR (.cells #[.slice (some ⟨g1,0,none⟩) m0 m0,.slice (some ⟨g2,0,none⟩) (aN x) (aN x),.slice none 0 0,.slice none 0 0,.slice none 0 0,.slice none 0 0,.slice none 0 0,.slice none 0 0] 131));have eT:=lH (dE.o.bl vQ.o);generalize w1.alloc (.cells #[.slice (some ⟨g1,0,none⟩) m0 m0,.slice (some ⟨g2,0,none⟩) (aN x) (aN x),.slice none 0 0,.slice none 0 0,.slice none 0 0,.slice none 0 0,.slice none 0 0,.slice none 0 0] 131)=w2 at *;generalize hgq:w1.heap.size=g at *;have HG:=lH hgq;clear hgq;have N7:Hid (w.heap.size<g/\w.heap.size<=g):=lH (by have:=HGG.o.2.2;have:=dE.o.lt;have:=HG.o;omega);have y2:=eT.o.cell 2;have yl:=eT.o.lt
 go_wp2_with fail
 clear y2 yl vQ eT
 go_loopw [17] (fun v17 wr=>∃(k:Nat)(vF vT vB vC:Value)(uB uC:List Rv),k<=m2/\v17=.int .i64 k/\CP g w1 wr (.slice (some ⟨g1,0,none⟩) m0 m0) (.slice (some ⟨g2,0,none⟩) (aN x) (aN x)) vF vT vB vC ((jB x).take k) ((FQ x).take k) uB uC ((mB x).take k) ((mC x).take k)) (fun v17 _=>m2-(intOf v17).toNat)
 case atStart=>exact⟨0,_,_,_,_,_,_,by omega,rfl,HM0.o⟩
 case round=>
  clear HM0;obtain⟨k,vF,vT,vB,vC,uB,uC,hk,rfl,hm⟩:=hrel;have HM:=lH hm;have HW:Hid (Below w.heap.size w wr):=lH (cR.o.trans (hm.low.mono N7.o.2));have m9:=lH (HRN.o.up HW.o);have HXR:=lH (dE.o.below hm.low (by have:=N7.o.1;omega));clear hm;by_cases aR:k<m2
  ·obtain⟨s,hs⟩:∃s,x.brs[k]?=some s:=eG (by have:=N6.o;omega)
   obtain⟨b,off,hA,hb⟩:=m9.o.r2.form (show 0<m2 by omega);simp only at hA;subst hA;obtain⟨a0,a1,a2,a3,a4,a5,a6,a7,a8⟩:=m9.o.r2.at_ hs;obtain⟨t1,t2,t3,t4⟩:=AU hs;obtain⟨Z6,HT2,HT3,HT4,zS⟩:=mP (kF t1) (kF t2) (kF t3) (kF t4) (cL.o.br s (cS hs));have iM:(k:Int)<(m2:Int):=by omega
   have gB:=lN k;have e_:Hid (m2-(k+1)<m2-k):=lH (by omega);have DH:Hid (((jB x).take k).length<=24/\((FQ x).take k).length<=24/\((mB x).take k).length<=24/\((mC x).take k).length<=24):=lH (by simp only[kC];omega);clear hs t1 t2 t3 t4;(go_upto_region 5 with fail);clear a0 a1 a2 a3 a4 a5 a6 a7 a8 hb;generalize lQ:wr.alloc (.cells #[.string s.name,.string s.fr,.string s.to,.int .i64 s.x,.int .i64 s.tap,.int .i64 s.shift,.int .i64 s.limit,.int .i64 s.short,.int .i64 s.hold] 53)=wa;have fP:Below wr.heap.size wr wa:=by rw[<-lQ];exact bA
   have HS:Hid (aD wa wr.heap.size 53 #[.string s.name,.string s.fr,.string s.to,.int .i64 s.x,.int .i64 s.tap,.int .i64 s.shift,.int .i64 s.limit,.int .i64 s.short,.int .i64 s.hold]):=lH (by rw[<-lQ];exact aD.new wr _ _);have HGX:Hid (g<wr.heap.size):=lH HM.o.blk.lt;replace HM:=lH (HM.o.up fP);clear lQ fP m9 HXR HW;generalize wr.heap.size=gx at *;have HW:Hid (Below w.heap.size w wa):=lH (cR.o.trans (HM.o.low.mono N7.o.2));have HXR:=lH (dE.o.below HM.o.low (by have:=N7.o.1;omega));have m9:=lH ((HRN.o.up HW.o).r0);have NA:=bT cL.o zS.o.1;have hbc:=oS (G1.o.below HM.o.low (by have:=G1.o.lt;have:=HG.o;omega)) NA.2.2;rw[NA.1] at hbc;have HIX:Hid (bL x.nodes s.fr<m0):=lH (by have:=NA.2.2;rw[(iO cL.o).1] at this;have:=P5.o;omega);have tR:=lH (wR zS.o.1);generalize bL x.nodes s.fr=ix at *;clear NA;have hix:=HIX.o;have BC:(ix:Int)<(m0:Int):=by omega
   have BD:=lZ ix;have BA:=oL ix;have z0:=HM.o.blk.cell 0;have z2:=HM.o.blk.cell 2;have zl:=HM.o.blk.lt;obtain⟨x0,xl⟩:=HXR.o.b1;have s1:=HS.o.cell 1;have sl:=HS.o.lt;have gl1:g1<wa.heap.size:=by have:=G1.o.lt;have:=HG.o;omega
   have bH:=lH (aH (Below.refl wa.heap.size wa));refine gZ (S:=fun w'=>Below wa.heap.size wa w') 17 0 _ _ _ _ _ (.pointer (some ⟨g,0,none⟩)) (by kernel_rfl) (by kernel_rfl) (by kernel_rfl) (by kernel_rfl) (by kernel_rfl) rfl (by decide) (by kernel_rfl) rfl rfl rfl rfl (by kernel_rfl) (fun _ _ _ h=>h) (by rfl) (fun w'=>by go_simp<;>with_reducible rfl) (aH bR) (fun hHeld=>?_);simp only[oO,List.take_zero];(try simp only[Act.put,iG,iF,iE]);refine d7 [1,2,3,4,5,6,7,8,9,10,11,12,13] ?_;refine bI 14 (fun K hK=>?_);go_simp;refine(jY A0 m0 c0 x.nodes s.fr wa.drew (m9.o.bm bH.o) (by omega)).mono ?_;rintro e w8 ⟨rfl,rfl⟩;rw[tR.o];go_simp;refine iJ hK bH.o (fun hHeld=>?_);clear hK K;refine d7 [15,16] ?_;refine bI 17 (fun K hK=>?_);go_simp;refine hK.out _ _ ?_ (fun hHeld=>?_)
   ·exact bH.o.alloc lR _
   clear hK K;(try simp only[Act.put,iG,iF,iE]);refine fZ ?_;clear hHeld;generalize FZ:aA x s.fr=bu at *;have nG:Below wa.heap.size wa (wa.alloc (.cells #[.int .i64 (bu:Int)] 3)).drew:=aH (bA);have rM:Hid (aD (wa.alloc (.cells #[.int .i64 (bu:Int)] 3)).drew wa.heap.size 3 #[.int .i64 (bu:Int)]):=lH (aD.new wa _ _).drew;replace HM:=lH (HM.o.up nG);replace HS:=lH (HS.o.bl nG);have HBU:=lH FZ;clear z0 z2 zl x0 xl s1 sl gl1 hbc hix BC BD BA HIX tR m9 HXR HW bH nG FZ;generalize (wa.alloc (.cells #[.int .i64 (bu:Int)] 3)).drew=wl at *;generalize wa.heap.size=gq at *;refine kK (S:=yB) (.tmp 25) (.tmp 38) 47 rfl (g+1) 3 i0 _ 1 8 Tryz.underlying47 yT.o xK.o CE.o CD.o rfl (by omega) aAO vF _ _ (by rfl) HM.o.oF gq 3 #[.int .i64 (bu:Int)] (by rfl) rM.o rfl ?k1 ?k2 ?k3 ?k4 ?_
   case k1=>intro u hu;rw[show u=.int .i64 (bu:Int) from by simpa using hu];exact⟨rfl,_,rfl⟩
   case k2=>have:=DH.o.1;simp only[maxLen];omega
   case k3=>have:=DH.o.1;omega
   case k4=>exact HM.o.blk.lt
   intro pA pn pc w9 q1 q2 q3 q4;have XQ:=HM.o.appF q1 q2 q3 q4;have jQ:=q2.blk _ _ _ HM.o.blk (by decide);have MU:=q2.blk _ _ _ HS.o (by decide);have T3:=lH XQ;have TZ:=lH (MU.far (p:=⟨g,2,none⟩) (by have:=HGX.o;show gx≠g;omega) (.slice pA pn pc));have p2:=jQ.cell 2;have pl:=jQ.lt;have pf:=jQ.frozen;clear q1 q2 q3 q4 XQ jQ MU HM HS rM;refine cJ (by rfl) ?_;go_simp;refine cJ (by rfl) ?_;go_simp;refine cJ (by rfl) ?_;(go_upto_region 6 with fail);clear p2 pl pf;generalize w9.setCell ⟨g,2,none⟩ (.slice pA pn pc)=wb at *;have HM:Hid (CP g w1 wb _ _ _ _ _ _ _ _ _ _ _ _):=T3;have HS:=TZ;rw[<-Z6.o] at HM;clear T3 TZ HBU;generalize Value.slice pA pn pc=vF2 at *;have HW:Hid (Below w.heap.size w wb):=lH (cR.o.trans (HM.o.low.mono N7.o.2));have HXR:=lH (dE.o.below HM.o.low (by have:=N7.o.1;omega));have m9:=lH ((HRN.o.up HW.o).r0);have NA:=bT cL.o zS.o.2.1;have hbc:=oS (G1.o.below HM.o.low (by have:=G1.o.lt;have:=HG.o;omega)) NA.2.2;rw[NA.1] at hbc;have HIX:Hid (bL x.nodes s.to<m0):=lH (by have:=NA.2.2;rw[(iO cL.o).1] at this;have:=P5.o;omega);have tR:=lH (wR zS.o.2.1);generalize bL x.nodes s.to=ix at *;clear NA;have hix:=HIX.o;have BC:(ix:Int)<(m0:Int):=by omega
   have BD:=lZ ix;have BA:=oL ix;have z0:=HM.o.blk.cell 0;have z2:=HM.o.blk.cell 3;have zl:=HM.o.blk.lt;obtain⟨x0,xl⟩:=HXR.o.b1;have s1:=HS.o.cell 2;have sl:=HS.o.lt;have gl1:g1<wb.heap.size:=by have:=G1.o.lt;have:=HG.o;omega
   have bH:=lH (aH (Below.refl wb.heap.size wb));refine gZ (S:=fun w'=>Below wb.heap.size wb w') 17 0 _ _ _ _ _ (.pointer (some ⟨g,0,none⟩)) (by kernel_rfl) (by kernel_rfl) (by kernel_rfl) (by kernel_rfl) (by kernel_rfl) rfl (by decide) (by kernel_rfl) rfl rfl rfl rfl (by kernel_rfl) (fun _ _ _ h=>h) (by rfl) (fun w'=>by go_simp<;>with_reducible rfl) (aH bR) (fun hHeld=>?_);simp only[oO,List.take_zero];(try simp only[Act.put,iG,iF,iE]);refine d7 [1,2,3,4,5,6,7,8,9,10,11,12,13] ?_;refine bI 14 (fun K hK=>?_);go_simp;refine(jY A0 m0 c0 x.nodes s.to wb.drew (m9.o.bm bH.o) (by omega)).mono ?_;rintro e w8 ⟨rfl,rfl⟩;rw[tR.o];go_simp;refine iJ hK bH.o (fun hHeld=>?_);clear hK K;refine d7 [15,16] ?_;refine bI 17 (fun K hK=>?_);go_simp;refine hK.out _ _ ?_ (fun hHeld=>?_)
   ·exact bH.o.alloc lR _
   clear hK K;(try simp only[Act.put,iG,iF,iE]);refine fZ ?_;clear hHeld;generalize FZ:aA x s.to=bu at *;have nG:Below wb.heap.size wb (wb.alloc (.cells #[.int .i64 (bu:Int)] 3)).drew:=aH (bA);have rM:Hid (aD (wb.alloc (.cells #[.int .i64 (bu:Int)] 3)).drew wb.heap.size 3 #[.int .i64 (bu:Int)]):=lH (aD.new wb _ _).drew;replace HM:=lH (HM.o.up nG);replace HS:=lH (HS.o.bl nG);have HBU:=lH FZ;clear z0 z2 zl x0 xl s1 sl gl1 hbc hix BC BD BA HIX tR m9 HXR HW bH nG FZ;generalize (wb.alloc (.cells #[.int .i64 (bu:Int)] 3)).drew=wl at *;generalize wb.heap.size=gq at *;refine kK (S:=yB) (.tmp 46) (.tmp 59) 47 rfl (g+1) 3 i0 _ 1 8 Tryz.underlying47 yT.o xK.o CE.o CD.o rfl (by omega) aAO vT _ _ (by rfl) HM.o.oT gq 3 #[.int .i64 (bu:Int)] (by rfl) rM.o rfl ?k1 ?k2 ?k3 ?k4 ?_
   case k1=>intro u hu;rw[show u=.int .i64 (bu:Int) from by simpa using hu];exact⟨rfl,_,rfl⟩
   case k2=>have:=DH.o.2.1;simp only[maxLen];omega
   case k3=>have:=DH.o.2.1;omega
   case k4=>exact HM.o.blk.lt
   intro pA pn pc w9 q1 q2 q3 q4;have XQ:=HM.o.appT q1 q2 q3 q4;have jQ:=q2.blk _ _ _ HM.o.blk (by decide);have MU:=q2.blk _ _ _ HS.o (by decide);have T3:=lH XQ;have TZ:=lH (MU.far (p:=⟨g,3,none⟩) (by have:=HGX.o;show gx≠g;omega) (.slice pA pn pc));have p2:=jQ.cell 3;have pl:=jQ.lt;have pf:=jQ.frozen;clear q1 q2 q3 q4 XQ jQ MU HM HS rM;refine cJ (by rfl) ?_;go_simp;refine cJ (by rfl) ?_;go_simp;refine cJ (by rfl) ?_;(go_upto_region 7 with fail);clear p2 pl pf;generalize w9.setCell ⟨g,3,none⟩ (.slice pA pn pc)=wc at *;have HM:Hid (CP g w1 wc _ _ _ _ _ _ _ _ _ _ _ _):=T3;have HS:=TZ;rw[<-HT2.o] at HM;clear T3 TZ HBU;generalize Value.slice pA pn pc=vT2 at *;have DA:=NQ zS.o.2.2.2;have XM:s.x*s.tap<=10000*1500:=Int.mul_le_mul DA.2.1 DA.2.2.2.1 (by omega) (by omega);have aH9:1*500<=s.x*s.tap:=Int.mul_le_mul DA.1 DA.2.2.1 (by omega) (by omega);have HXT:=lH (O6 1000000 (s.x*s.tap) wc (by decide) (by decide) (by omega) (by omega) (by omega));have hw1:IntKind.i64.wrap (s.x*s.tap)=s.x*s.tap:=IntWalk.i64_in _ (by omega);have hsh:IntKind.i64.wrap (-s.shift)=-s.shift:=IntWalk.i64_in _ (by omega);have HSH:=lH hsh;have HSF:=lH (fun w'=>O6 (-s.shift) 1000 w' (by omega) (by omega) (by decide) (by decide) (by decide));have s3:=HS.o.cell 3;have s4:=HS.o.cell 4;have sl:=HS.o.lt;generalize hxt:s.x*s.tap=xt at *;have HXE:=lH hxt;(go_wp2_with fail);refine HXT.o.mono ?_;rintro e w10 ⟨F0,v10,rfl,h10⟩;clear s3 s4 sl HXT XM aH9 hw1 DA hsh hxt;have yR:Hid (cY w10 w10.heap.size (gD s) v10):=lH (by unfold gD;rw[HXE.o];exact h10);replace HM:=lH (HM.o.up F0);replace HS:=lH (HS.o.bl F0);clear F0 h10;(go_upto_region 8 with fail);have sW:=vM w10 (.cells #[.bool v10.b1,.slice v10.A v10.n v10.c,.bool v10.b2,.slice v10.A2 v10.m v10.d] 87);have fV:=lH (aD.new w10 87 #[.bool v10.b1,.slice v10.A v10.n v10.c,.bool v10.b2,.slice v10.A2 v10.m v10.d]);have HNE:Hid (∀k,vB.ownBlock=some k->k<w10.heap.size):=lH fun k hk=>(HM.o.oB.own.lt hk).2;have HGY:Hid (g<w10.heap.size):=lH HM.o.blk.lt;replace HM:=lH (HM.o.up sW);replace HS:=lH (HS.o.bl sW);replace yR:=lH (yR.o.up sW);clear sW HXE;generalize w10.alloc (.cells #[.bool v10.b1,.slice v10.A v10.n v10.c,.bool v10.b2,.slice v10.A2 v10.m v10.d] 87)=wd at *;generalize w10.heap.size=gy at *;have z4:=HM.o.blk.cell 4;have zl:=HM.o.blk.lt;obtain⟨b0,b1,b2,b3,bl⟩:=fV.o.b4;have bH:=lH (aH (Below.refl wd.heap.size wd))
   refine gZ (S:=fun w'=>Below wd.heap.size wd w') 6 0 _ _ _ _ _ (.pointer (some ⟨g,0,none⟩)) (by kernel_rfl) (by kernel_rfl) (by kernel_rfl) (by kernel_rfl) (by kernel_rfl) rfl (by decide) (by kernel_rfl) rfl rfl rfl rfl (by kernel_rfl) (fun _ _ _ h=>h) (by rfl) (fun w'=>by go_simp<;>with_reducible rfl) (aH bR) (fun hHeld=>?_);simp only[oO,List.take_zero];(try simp only[Act.put,iG,iF,iE]);refine d7 [1,2,3,4,5] ?_;refine bI 6 (fun K hK=>?_);go_simp;refine hK.out _ _ ?_ (fun hHeld=>?_)
   ·exact bH.o.alloc bH.o.size _
   clear hK K;(try simp only[Act.put,iG,iF,iE]);refine fZ ?_;clear hHeld;have nG:Below wd.heap.size wd ((wd.alloc (.cells #[.bool v10.b1,.slice v10.A v10.n v10.c,.bool v10.b2,.slice v10.A2 v10.m v10.d] 87)).drew):=aH (bA);have rM:Hid (aD ((wd.alloc (.cells #[.bool v10.b1,.slice v10.A v10.n v10.c,.bool v10.b2,.slice v10.A2 v10.m v10.d] 87)).drew) wd.heap.size 87 #[.bool v10.b1,.slice v10.A v10.n v10.c,.bool v10.b2,.slice v10.A2 v10.m v10.d]):=lH (aD.new wd _ _).drew;replace HM:=lH (HM.o.up nG);replace HS:=lH (HS.o.bl nG);replace fV:=lH (fV.o.bl nG);replace yR:=lH (yR.o.up nG);have HVU:=yR;clear z4 zl b0 b1 b2 b3 bl bH nG;generalize (wd.alloc (.cells #[.bool v10.b1,.slice v10.A v10.n v10.c,.bool v10.b2,.slice v10.A2 v10.m v10.d] 87)).drew=wl at *;generalize wd.heap.size=gq at *;refine kK (S:=tQ) (.tmp 73) (.tmp 75) 96 rfl (g+1) 87 i1 _ 4 64 Tryz.underlying96 RI0.out RI1.out RI2.out RI3.out rfl (by omega) qA vB _ _ (by rfl) HM.o.oB.own gq 87 #[.bool v10.b1,.slice v10.A v10.n v10.c,.bool v10.b2,.slice v10.A2 v10.m v10.d] (by rfl) rM.o rfl ?k1 ?k2 ?k3 ?k4 ?_
   case k1=>exact wE v10
   case k2=>have:=HM.o.oB.len;have:=DH.o.2.2.1;simp only[maxLen];omega
   case k3=>have:=HM.o.oB.len;have:=DH.o.2.2.1;omega
   case k4=>exact HM.o.blk.lt
   intro pA pn pc w9 q1 q2 q3 q4;have XQ:=HM.o.appB HVU.o q1 q2 q3 q4;have jQ:=q2.blk _ _ _ HM.o.blk (by decide);have MU:=q2.blk _ _ _ HS.o (by decide);have T3:=lH XQ;have TZ:=lH (MU.far (p:=⟨g,4,none⟩) (by have:=HGX.o;show gx≠g;omega) (.slice pA pn pc));have X1:aD w9 gy 87 #[.bool v10.b1,.slice v10.A v10.n v10.c,.bool v10.b2,.slice v10.A2 v10.m v10.d]:=(q4 gy fV.o.lt (fun hc=>absurd (HNE.o gy hc) (Nat.lt_irrefl _))).trans fV.o;have aKi:=lH (X1.far (p:=⟨g,4,none⟩) (by have:=HGY.o;show gy≠g;omega) (.slice pA pn pc));have HV9:=lH ((cY.keeps yR.o q2).keep1 (i:=4) jQ (y:=vB) rfl HM.o.oB.own.ni (.slice pA pn pc));have p2:=jQ.cell 4;have pl:=jQ.lt;have pf:=jQ.frozen;clear q1 q2 q3 q4 XQ jQ MU HM HS rM HVU fV yR X1;refine cJ (by rfl) ?_;go_simp;refine cJ (by rfl) ?_;go_simp;refine cJ (by rfl) ?_;(go_upto_region 9 with fail);clear p2 pl pf;generalize w9.setCell ⟨g,4,none⟩ (.slice pA pn pc)=we at *;have HM:Hid (CP g w1 we _ _ _ _ _ _ _ _ _ _ _ _):=T3;have HS:=TZ;have fV:=aKi;have yR:=HV9;rw[<-HT3.o] at HM;clear T3 TZ aKi HV9;generalize Value.slice pA pn pc=vB2 at *;have HQM:Hid (bM (gD s)+bM (Rat.divInt (-s.shift) 1000)+1<=35184372088832):=lH (by have:=oR zS.o.2.2.2;have:=DN zS.o.2.2.2;omega);have z4:=HM.o.blk.cell 5;have zl:=HM.o.blk.lt;obtain⟨b0,b1,b2,b3,bl⟩:=fV.o.b4;have s5:=HS.o.cell 5;have sl:=HS.o.lt;have bH:=lH (aH (Below.refl we.heap.size we));refine gZ (S:=fun w'=>Below we.heap.size we w') 11 0 _ _ _ _ _ (.pointer (some ⟨g,0,none⟩)) (by kernel_rfl) (by kernel_rfl) (by kernel_rfl) (by kernel_rfl) (by kernel_rfl) rfl (by decide) (by kernel_rfl) rfl rfl rfl rfl (by kernel_rfl) (fun _ _ _ h=>h) (by rfl) (fun w'=>by go_simp<;>with_reducible rfl) (aH bR) (fun hHeld=>?_);simp only[oO,List.take_zero];(try simp only[Act.put,iG,iF,iE]);refine d7 [1,2,3,4,5,6,7,8] ?_;refine bI 9 (fun K hK=>?_);go_simp;rw[HSH.o];refine(HSF.o _).mono ?_;rintro e w11 ⟨sW,v11,rfl,h11⟩;have TF:Hid (Below we.heap.size we w11):=lH (bH.o.tm sW);have H11:=lH h11;clear sW h11;go_simp;refine iJ hK TF.o (fun hHeld=>?_);clear hK K;refine bI 10 (fun K hK=>?_);go_simp;refine(WG (yR.o.up TF.o) H11.o HQM.o).mono ?_;rintro e w12 ⟨X7,v12,rfl,h12⟩;have CG:Hid (Below we.heap.size we w12):=lH (TF.o.tm X7);have H12:=lH h12;clear X7 h12 TF H11;go_simp;refine iJ hK CG.o (fun hHeld=>?_);clear hK K;refine bI 11 (fun K hK=>?_);go_simp;refine hK.out _ _ ?_ (fun hHeld=>?_)
   ·exact CG.o.alloc CG.o.size _
   clear hK K;(try simp only[Act.put,iG,iF,iE]);refine fZ ?_;clear hHeld;have nG:Below we.heap.size we (w12.alloc (.cells #[.bool v12.b1,.slice v12.A v12.n v12.c,.bool v12.b2,.slice v12.A2 v12.m v12.d] 87)):=CG.o.alloc CG.o.size _;have rM:Hid (aD (w12.alloc (.cells #[.bool v12.b1,.slice v12.A v12.n v12.c,.bool v12.b2,.slice v12.A2 v12.m v12.d] 87)) w12.heap.size 87 #[.bool v12.b1,.slice v12.A v12.n v12.c,.bool v12.b2,.slice v12.A2 v12.m v12.d]):=lH (aD.new w12 _ _);replace HM:=lH (HM.o.up nG);replace HS:=lH (HS.o.bl nG);replace fV:=lH (fV.o.bl nG);replace yR:=lH (yR.o.up nG);have HVU:=lH (H12.o.up ((Below.refl w12.heap.size w12).alloc lR (.cells #[.bool v12.b1,.slice v12.A v12.n v12.c,.bool v12.b2,.slice v12.A2 v12.m v12.d] 87)));clear z4 zl b0 b1 b2 b3 bl bH nG s5 sl;generalize w12.alloc (.cells #[.bool v12.b1,.slice v12.A v12.n v12.c,.bool v12.b2,.slice v12.A2 v12.m v12.d] 87)=wl at *;generalize w12.heap.size=gq at *;refine kK (S:=tQ) (.tmp 83) (.tmp 90) 96 rfl (g+1) 87 i1 _ 4 64 Tryz.underlying96 RI0.out RI1.out RI2.out RI3.out rfl (by omega) qA vC _ _ (by rfl) HM.o.oC.own gq 87 #[.bool v12.b1,.slice v12.A v12.n v12.c,.bool v12.b2,.slice v12.A2 v12.m v12.d] (by rfl) rM.o rfl ?k1 ?k2 ?k3 ?k4 ?_
   case k1=>exact wE v12
   case k2=>have:=HM.o.oC.len;have:=DH.o.2.2.2;simp only[maxLen];omega
   case k3=>have:=HM.o.oC.len;have:=DH.o.2.2.2;omega
   case k4=>exact HM.o.blk.lt
   intro pA pn pc w9 q1 q2 q3 q4;have XQ:=HM.o.appC HVU.o q1 q2 q3 q4;have jQ:=q2.blk _ _ _ HM.o.blk (by decide);have MU:=q2.blk _ _ _ HS.o (by decide);have T3:=lH XQ;have TZ:=lH (MU.far (p:=⟨g,5,none⟩) (by have:=HGX.o;show gx≠g;omega) (.slice pA pn pc));have p2:=jQ.cell 5;have pl:=jQ.lt;have pf:=jQ.frozen;clear q1 q2 q3 q4 XQ jQ MU HM HS rM HVU fV yR H12 CG;refine cJ (by rfl) ?_;go_simp;refine cJ (by rfl) ?_;go_simp;refine cJ (by rfl) ?_;(go_wp2_with fail);clear p2 pl pf;go_roundw
   case rel=>
    have hm:=T3.o;rw[show gD s*Rat.divInt (-s.shift) 1000=mS s from rfl,<-HT4.o] at hm;exact⟨k+1,_,_,_,_,_,_,aR,aM gB.o,hm⟩
   case measure=>exact e_.o
  ·have pP:k=m2:=by omega
   have HZ:Hid (TV g w1 wr (.slice (some ⟨g1,0,none⟩) m0 m0) (.slice (some ⟨g2,0,none⟩) (aN x) (aN x)) vF vT vB vC (.slice none 0 0) (jB x) (FQ x) uB uC (mB x) (mC x) []):=lH (by
    have h:=HM.o.z;rw[oP (by rw[nS];have:=N6.o;omega),oP (by rw[uJ];have:=N6.o;omega),oP (by rw[wT];have:=N6.o;omega),oP (by rw[ML];have:=N6.o;omega)] at h;exact h)
   have iM:¬(k:Int)<(m2:Int):=by omega
   have HGR:Hid (g<wr.heap.size):=lH HM.o.blk.lt;have fP:=vM wr (.map #[] 0);have HSM:Hid (∃n,gA (wr.alloc (.map #[] 0)) wr.heap.size n ((dN x).take 0)/\n<=0):=lH ⟨0,gA.made wr,lR⟩;replace HZ:=lH (HZ.o.up fP);have HBN:Hid (aN x<=24):=lH (eN (jD cL.o).2 (by have:=P5.o;omega));have HIS:=lH (qK cL.o);have JE:=@run_makeMap Tryz.prog;have z1:=HZ.o.blk.cell 1;have zl:=HZ.o.blk.lt;clear pP HM m9 HXR HW fP hk aR;(go_wp2_with fail);clear JE z1 zl;generalize wr.alloc (.map #[] 0)=wm at *;generalize wr.heap.size=bm at *
   go_loopw [102] (fun v102 wr=>∃(k:Nat)(vZ:Value),k<=aN x/\v102=.int .i64 k/\TV g w1 wr (.slice (some ⟨g1,0,none⟩) m0 m0) (.slice (some ⟨g2,0,none⟩) (aN x) (aN x)) vF vT vB vC vZ (jB x) (FQ x) uB uC (mB x) (mC x) (iB (dG (dN x)) k)/\∃n,gA wr bm n ((dN x).take k)/\n<=k) (fun v102 _=>aN x-(intOf v102).toNat)
   case atStart=>exact⟨0,_,Nat.zero_le _,rfl,HZ.o,HSM.o⟩
   case round=>
    clear HZ HSM;obtain⟨k,vZ,hk,rfl,hz,n,RU,hn⟩:=hrel;have HZ:=lH hz;have PW:=lH RU;have kT:=hz.low;clear hz RU;by_cases aR:k<aN x
    ·obtain⟨s,hs⟩:∃s,(dN x)[k]?=some s:=eG (by rw[HIS.o.2];exact aR)
     have jL:(mQ x)[k]?=some (s:Int):=by rw[<-HIS.o.1];exact lC hs
     have hic:=zI (rN.o.below kT (by have:=rN.o.lt;have:=HG.o;omega)) jL;have KT:=lH (kF hs);have hsd:(dN x).getD k 0=s:=by rw[dQ,hs];rfl
     have TD:Hid ((((dN x).take k).any fun y=>y == s)=dG (dN x) k):=lH (by rw[<-QS (by rw[HIS.o.2];exact aR),hsd]);have HPK:=lH (wL (dG (dN x)) k);have aSH:s<=24:=by
      have h1:=(l9 (tA cL.o).1).2 (s:Int) (cS jL);have:=HBN.o;omega
     have CB:Hid (keyOf Tryz.prog 3 (.int .i64 (s:Int))=some (.int .i64 (s:Int))):=lH (keyOf_int_mk Tryz.underlying3 (by simp[Lit.wf,IntKind.min,IntKind.max,IntKind.signed,IntKind.bits];omega));have aIq:g2<wr.heap.size:=by have:=rN.o.lt;have:=HG.o;have:=kT.size;omega
     have iM:(k:Int)<(aN x:Int):=by omega
     have gB:=lN k;have e_:Hid (aN x-(k+1)<aN x-k):=lH (by omega);have X6:=HBN.o;have aJ9:Hid (g<=w1.heap.size):=lH (by rw[HG.o];exact lR);have zQ:Hid ((iB (dG (dN x)) k).length<=24):=lH (by unfold iB;refine eN (List.length_filter_le _ _) ?_;rw[List.length_range];omega);clear hs jL hsd kT;have aLZ:=PW.o;obtain⟨D,bB,yJ,qN⟩:=aLZ;have zR:=lH bB;have LL:=lH qN;have aEu:n<=24:=by omega
     cases yN:dG (dN x) k with
     | false=>
      have vG:Hid (D.atKey (.int .i64 (s:Int)) (.lit (.bool false))=.lit (.bool false)):=lH (by rw[LL.o,TD.o,yN]);have aFC:Hid (iB (dG (dN x)) (k+1)=iB (dG (dN x)) k):=lH (by rw[HPK.o,yN];simp);clear yN bB qN
      go_wp2_with (first | (at_lookup;refine d_ _ rfl _ _ 157 rfl 3 4 mW Tryz.underlying157 Tryz.underlying4 (qX _) bm n D rfl zR.o _ _ rfl CB.o _ vG.o ?_) | (at_mapUpdate;refine wpList_mapUpdate_own _ rfl _ _ _ 157 rfl 3 4 mW Tryz.underlying157 _ bm n D rfl zR.o (by unfold maxLen;omega) _ _ _ rfl rfl CB.o _ [] (plainElem_bool Tryz.underlying4 true) ?_))
      intro w5 xX hg5;have T0:=lH (gA.put s xX yJ LL.o);have HZ5:=lH (HZ.o.mapped PW.o hg5 HGR.o aJ9.o);clear xX hg5 zR LL vG hic aIq;(go_wp2_with fail);go_roundw
      case rel=>exact⟨k+1,vZ,aR,aM gB.o,by rw[aFC.o];exact HZ5.o,n+1,by rw[KT.o];exact T0.o,by omega⟩
      case measure=>exact e_.o
     | true=>
      have vG:Hid (D.atKey (.int .i64 (s:Int)) (.lit (.bool false))=.lit (.bool true)):=lH (by rw[LL.o,TD.o,yN]);have aFC:Hid (iB (dG (dN x)) (k+1)=iB (dG (dN x)) k++[k]):=lH (by rw[HPK.o,yN];simp);have fP:=vM wr (.cells #[.int .i64 (k:Int)] 3);have HZA:=lH (HZ.o.up fP);have LG:=lH (PW.o.below fP);have rM:=lH (aD.new wr 3 #[.int .i64 (k:Int)]);have z6:=HZ.o.blk.cell 6;have zl:=HZ.o.blk.lt;clear yN bB qN fP
      go_wp2_with (first | (at_lookup;refine d_ _ rfl _ _ 157 rfl 3 4 mW Tryz.underlying157 Tryz.underlying4 (qX _) bm n D rfl zR.o _ _ rfl CB.o _ vG.o ?_) | (at_builtin;refine yF (S:=yB) rfl (.tmp 114) (.tmp 116) 47 rfl (g+1) 3 i0 _ 1 8 Tryz.underlying47 yT.o xK.o CE.o CD.o rfl (by omega) aAO vZ _ _ rfl HZA.o.oZ wr.heap.size 3 #[.int .i64 (k:Int)] rfl rM.o rfl ?k1 ?k2 ?k3 ?k4 ?_))
      case k1=>first | (intro u hu;rw[show u=.int .i64 (k:Int) from by simpa using hu];exact⟨rfl,_,rfl⟩) | exact⟨rfl,_,rfl⟩
      case k2=>have:=zQ.o;simp only[maxLen];omega
      case k3=>have:=zQ.o;omega
      case k4=>exact HZA.o.blk.lt
      intro pA pn pc w9 q1 q2 q3 q4;have hz9:=HZA.o.app q1 q2 (by simpa using q3) (fun i hi=>q4 i (by simpa using hi));have aIp:(wr.alloc (.cells #[.int .i64 (k:Int)] 3)).grownBy w9 vZ.ownBlock:=⟨q2.low.os,q2.low.tape,q2.low.output,q2.size,fun i hi cK=>q4 i (by simpa using hi) (fun e=>cK e.symm)⟩;have MU:=LG.o.kept aIp (gA.apart LG.o HZA.o.oZ);have jQ:=q2.blk _ _ _ HZA.o.blk (by decide);have TZ:Hid (gA (w9.setCell ⟨g,6,none⟩ (.slice pA pn pc)) bm n ((dN x).take k)):=lH (MU.kept (oW (fC bR (some g)) (.inl rfl) _) (by intro e;injection e with e;have:=HGR.o;omega));have HZ9:=lH hz9;have p6:=jQ.cell 6;have pl:=jQ.lt;have pf:=jQ.frozen;clear q1 q2 q3 q4 hz9 aIp MU jQ HZA LG rM zR LL vG hic aIq z6 zl PW HZ yJ;(go_upto_region 17 with fail);clear p6 pl pf;generalize w9.setCell ⟨g,6,none⟩ (.slice pA pn pc)=wq at *;generalize Value.slice pA pn pc=vZ2 at *;have hsq:=TZ.o;obtain⟨D2,bB,yJ,qN⟩:=hsq;have HO2:=lH bB;have aKo:=lH qN;clear bB qN
      go_wp2_with (at_mapUpdate;refine wpList_mapUpdate_own _ rfl _ _ _ 157 rfl 3 4 mW Tryz.underlying157 _ bm n D2 rfl HO2.o (by unfold maxLen;omega) _ _ _ rfl rfl CB.o _ [] (plainElem_bool Tryz.underlying4 true) ?_)
      intro w5 xX hg5;have T0:=lH (gA.put s xX yJ aKo.o);have HZ5:=lH (HZ9.o.mapped TZ.o hg5 HGR.o aJ9.o);clear xX hg5 HO2 aKo;(go_wp2_with fail);go_roundw
      case rel=>exact⟨k+1,vZ2,aR,aM gB.o,by rw[aFC.o];exact HZ5.o,n+1,by rw[KT.o];exact T0.o,by omega⟩
      case measure=>exact e_.o
    ·have iM:¬(k:Int)<(aN x:Int):=by omega
     have pP:k=aN x:=by omega
     have hFL:iB (dG (dN x)) k=aG x:=by rw[pP];rfl
     have mK:=HZ.o;rw[hFL] at mK;obtain⟨aF,cF,hvF,hrF⟩:=AH mK.oF;obtain⟨aT,cT,hvT,hrT⟩:=AH mK.oT;obtain⟨aZ,cZ,hvZ,hrZ⟩:=AH mK.oZ;obtain⟨aB,cB,hvB,hrB,-⟩:=mK.oB.rd;obtain⟨aC,cC,hvC,hrC,-⟩:=mK.oC.rd;have M4:=G1.o.below mK.low (by have:=G1.o.lt;have:=HG.o;omega);have yK:=rN.o.below mK.low (by have:=rN.o.lt;have:=HG.o;omega);have nG:=(iO cL.o).1;have aIm:=(l9 (tA cL.o).1).1;have HMO:Hid (fN wr wr.heap.size ⟨some ⟨g1,0,none⟩,m0,m0,some ⟨g2,0,none⟩,aN x,aN x,aF,(jB x).length,cF,aT,(FQ x).length,cT,aB,(mB x).length,cB,aC,(mC x).length,cC,aZ,(aG x).length,cZ⟩ x):=lH ⟨OK M4 (by rw[nG];exact P5.o),OK yK aIm,hrF,hrT,hrB,hrC,hrZ⟩;have vJ:=lH mK.blk;rw[hvF,hvT,hvZ,hvB,hvC] at vJ;have aOO:=lH mK.low;have HIV:=lH (MO g ⟨some ⟨g1,0,none⟩,m0,m0,some ⟨g2,0,none⟩,aN x,aN x,aF,(jB x).length,cF,aT,(FQ x).length,cT,aB,(mB x).length,cB,aC,(mC x).length,cC,aZ,(aG x).length,cZ⟩ x cL.o H8.o wr vJ.o HMO.o);have zl:=vJ.o.lt;clear pP hFL mK hvF hrF hvT hrT hvZ hrZ hvB hrB hvC hrC M4 yK nG aIm HZ PW HMO vJ;(go_wp2_with fail);refine HIV.o.mono ?_;rintro e w5 ⟨rfl,hgr,hmo,A,n9,c9,xA,XT⟩;have dK:Hid (Below w.heap.size w w5):=lH (cR.o.trans (tB aOO.o hgr lR (by rw[HG.o];exact lR) |>.mono N7.o.2));obtain⟨HMO,vJ,KY⟩:=eR hmo xA XT;clear hgr hmo xA XT HIV;(go_wp2_with fail);go_ret;exact⟨dK.o,g,_,A,n9,c9,rfl,N7.o.2,vJ.o,HMO.o,KY.o⟩
end
section
open Go.ChangeShapes Go.WideShapes Go.ChangeAt Go.RowKit
attribute [local go_sem ↓] aE
attribute [local go_sem] aJ aI aL aX cQ.cells
def aHl(x:bP)(m:Mi):Int:=
 if m.kind<0\/2<m.kind then 1 else if(m.kind=0/\KI x m.name<0)\/(m.kind≠0/\(x.nodes.any fun y=>k_ m.name y)=false) then 6 else
 if dM m.txt.data.toList≠0 then dM m.txt.data.toList else if m.wt<1\/1000<m.wt then 4 else 0
def aCY(x:bP):List Mi->Int
 | []=>0
 | m::r=>if aHl x m=0 then aCY x r else aHl x m
def RD(x:bP)(ms:List Mi):Int:=if d8 x≠0 then d8 x else if 64<ms.length then 2 else aCY x ms
end
section
open Go.ChangeShapes Go.WideShapes Go.ChangeAt Go.RowKit
attribute [local go_sem ↓] aE
attribute [local go_sem] aJ aI aL aX
def GD(b:Rat)(u v:Nat)(q:List Rat):List Rat:=(q.set u (vf q u+b)).set v (vf (q.set u (vf q u+b)) v-b)
theorem KP{b:Rat}{u v:Nat}:(GD b u v q).length=q.length:=by unfold GD;rw[jI,jI]
def sg(minus:Bool)(b:Rat):Rat:=if minus then -b else b
structure Oth (a b:Nat) (w w':Wo):Prop where
 os:w'.os=w.os
 tape:w'.tape=w.tape
 output:w'.output=w.output
 size:w.heap.size<=w'.heap.size
 block:∀i,i<w.heap.size->i≠a->i≠b->w'.heap[i]?=w.heap[i]?
theorem Oth.trans{w1 w2:Wo}(h:Oth a b w w1)(k:Oth a b w1 w2):Oth a b w w2:=
 ⟨k.os.trans h.os,k.tape.trans h.tape,k.output.trans h.output,eN h.size k.size,fun i hi h1 h2=>(k.block i (jJ hi h.size) h1 h2).trans (h.block i hi h1 h2)⟩
theorem Oth.below{B:Nat}(h:Oth a b w w')(ha:B<=a)(hb:B<=b)(hB:B<=w.heap.size):Below B w w':=⟨h.os,h.tape,h.output,h.size,fun i hi=>h.block i (by omega) (by omega) (by omega)⟩
theorem Oth.blk(h:Oth a b w w')(hb:aD w g t cs)(h1:g≠a)(h2:g≠b):aD w' g t cs:=(h.block g hb.lt h1 h2).trans hb
section
variable {w w':Wo} {gf gc:Nat} {vs:List Rv} {u:Rv} {q:List Rat} {z:Rat}
end
def aBF(bus u v:Nat)(b c:Rat)(s:List Rat×Rat):List Rat×Rat:=
 let s1:=if u=bus then(GD (sg false b) u v s.1,s.2+sg false c) else s
 if v=bus then(GD (sg true b) u v s1.1,s1.2+sg true c) else s1
def aCZ(bus:Nat):List Rat->List Rat->List Nat->List Nat->List Rat×Rat->List Rat×Rat
 | b::bs,c::cs,u::us,v::vs,s=>aCZ bus bs cs us vs (aBF bus u v b c s)
 | _,_,_,_,s=>s
def CQ(n:Nat):List Rat:=List.replicate n 0
def O7(x:bP)(m:Mi):List Rat×Rat:=
 if m.kind=0 then(GD (sg false (vf (mB x) (KI x m.name).toNat)) ((jB x).getD (KI x m.name).toNat 0) ((FQ x).getD (KI x m.name).toNat 0) (CQ (aN x)),0+sg false (vf (mC x) (KI x m.name).toNat))
 else if m.kind=2 then((CQ (aN x)).set (aA x m.name) 1,0)
 else aCZ (aA x m.name) (mB x) (mC x) (jB x) (FQ x) (CQ (aN x),0)
theorem AY(ok:cH x):(mQ x).length=aN x:=by
 have h:=(qK ok).2;unfold dN at h;rwa[kJ] at h
theorem AS(g:Nat)(m:jN)(y:Value)(w:Wo)(hg:aD w g 131 (m.cells y)):Calls Tryz.prog 55 #[.pointer (some ⟨g,0,none⟩)] w fun e w'=>e=.returned (.int .i64 (m.n1:Int))/\w=w':=by
 have y1:=hg.cell 1;have yl:=hg.lt;obtain⟨A0,n0,c0,A1,n1,c1,A2,n2,c2,A3,n3,c3,A4,n4,c4,A5,n5,c5,A6,n6,c6⟩:=m;simp only[jN.cells] at y1;clear hg;go_enter Tryz.func55,Tryz.ntmps55
 go_wp2_with fail
 go_ret;exact⟨rfl,rfl⟩
theorem U3{m:Bool}{b:Rat}:bM (sg m b)=bM b:=by
 unfold sg;cases m
 ·rfl
 ·rw[if_pos rfl,kG]
structure FOk (n K:Nat) (s:List Rat×Rat):Prop where
 len:s.1.length=n
 cf:∀p∈s.1,bM p<=K
 fr:bM s.2<=K
theorem FOk.mono{K':Nat}{s:List Rat×Rat}(h:FOk n K s)(hk:K<=K'):FOk n K' s:=⟨h.len,fun p hp=>eN (h.cf p hp) hk,eN h.fr hk⟩
theorem FOk.add{u v:Nat}{s:List Rat×Rat}{b c:Rat}(mi:Bool)(h:FOk n K s)(hu:u<n)(hv:v<n)(hb:bM b<=1)(hc:bM c<=2):FOk n (K+6) (GD (sg mi b) u v s.1,s.2+sg mi c):=by
 have X8:bM (sg mi b)<=1:=by rw[U3];exact hb
 have h1:bM (vf s.1 u+sg mi b)<=K+2:=by
  have a:=lI (vf s.1 u) (sg mi b);have c:=h.cf _ (cS (bZ (i:=u) (by rw[h.len];exact hu)));omega
 have h2:∀p∈s.1.set u (vf s.1 u+sg mi b),bM p<=K+2:=fun p hp=>by
  rcases List.mem_or_eq_of_mem_set hp with e | e
  ·exact eN (h.cf p e) (by omega)
  ·rw[e];exact h1
 refine⟨by rw[KP];exact h.len,fun p hp=>?_,?_⟩
 ·unfold GD at hp
  rcases List.mem_or_eq_of_mem_set hp with e | e
  ·exact eN (h2 p e) (by omega)
  ·have a:=lI (vf (s.1.set u (vf s.1 u+sg mi b)) v) (-(sg mi b))
   have c:=h2 _ (cS (bZ (i:=v) (by rw[jI,h.len];exact hv)));rw[kG] at a;rw[e,Rat.sub_eq_add_neg];omega
 ·have a:=lI s.2 (sg mi c)
  rw[U3 (b:=c)] at a;have:=h.fr;show bM (s.2+sg mi c)<=_;omega
theorem u_{b:Br}(h:b.bad=false):bM (mS b)<=2:=by
 have a:=mV (gD b) (Rat.divInt (-b.shift) 1000);have c:=oR h;have d:=DN h;unfold mS;omega
structure aVC (w:Wo) (B gb g:Nat) (m:jN) (y:Value) (x:bP) (gf gc:Nat):Prop where
 b1:B<=gf
 b2:B<=gc
 lb:gb<B
 lg:g<B
 hs:B<=w.heap.size
 box:aD w gb 95 #[.pointer (some ⟨g,0,none⟩)]
 md:aD w g 131 (m.cells y)
 rd:fN w B m x
def aBd(x:bP)(q:List Rat):List Rat:=(aG x).map (vf q)
theorem BI(h:j∈aG x):j<aN x:=by
 unfold aG iB at h;have h2:=(List.mem_filter.1 h).1;exact List.mem_range.1 h2
structure mJ (w:Wo) (base:Nat) (v:Value) (hs:List Hd) (M:List (List Rat)):Prop where
 own:bO tQ w base 96 1 v hs.length (hs.map Hd.val)
 len:hs.length=M.length
 rows:∀(i:Nat)(h:Hd)(q:List Rat),hs[i]?=some h->M[i]?=some q->∃B us,dD w B h.val us q
theorem dD.blkS{B:Nat}{us:List Rv}(h:dD w B v us q)(k:dZ tQ b 96 w w'):dD w' B v us q:=⟨h.own.blk k (by decide),h.len,fun i p x hp hx=>(h.ok i p x hp hx).keeps k⟩
theorem mJ.keep{base:Nat}{hs:List Hd}(m:mJ w base v hs M)(hb:Below w.heap.size w w'):mJ w' base v hs M:=⟨m.own.keep hb,m.len,fun i h q hh hq=>by
 obtain⟨B,us,k⟩:=m.rows i h q hh hq;exact⟨B,us,k.keep hb⟩⟩
theorem mJ.app{base B:Nat}{v':Value}{hs:List Hd}{z:Hd}{us:List Rv}{p:List Rat}(m:mJ w base v hs M)(hp:dD w B z.val us p)(h1:bO tQ w' base 96 1 v' (hs.length+1) (hs.map Hd.val++[z.val]))(k:dZ tQ base 96 w w'):mJ w' base v' (hs++[z]) (M++[p]):=by
 refine⟨by rw[jO,List.length_singleton,List.map_append];exact h1,by rw[jO,jO,m.len];rfl,fun i h q hh hq=>?_⟩;by_cases hi:i<M.length
 ·rw[yV hi] at hq
  rw[yV (by rw[m.len];exact hi)] at hh;obtain⟨B,us,r⟩:=m.rows i h q hh hq;exact⟨B,us,r.blkS k⟩
 ·rw[DK (by omega)] at hq
  rw[DK (by rw[m.len];omega),m.len] at hh;have TQ:=(c_.1 hq).1;rw[List.length_singleton] at TQ;have:i-M.length=0:=by omega
  rw[this] at hq hh;simp at hq hh;subst hq;subst hh;exact⟨B,us,hp.blkS k⟩
theorem mJ.rd{base:Nat}{hs:List Hd}(m:mJ w base v hs M):∃A c,v=.slice A M.length c/\lV w w.heap.size A M.length M/\M.length<=c/\c<=maxLen:=by
 obtain⟨A,c,hv,hr,h1,h2,h3⟩:=wM m.own.own;rw[m.len] at hv hr h1;refine⟨A,c,hv,⟨hs,m.len,rfl,hr,fun i h q hh hq=>?_⟩,h1,h2⟩;obtain⟨B,us,k⟩:=m.rows i h q hh hq;obtain⟨A',c',e,r,k1,k2,_⟩:=k.rd;unfold Hd.val at e;injection e with e1 e2 e3;rw[e1,e2,e3];exact⟨r,k1,k2⟩
def IN(x:bP)(ms:List Mi):List (List Rat):=ms.map fun m=>aBd x (O7 x m).1
end
section
open Go.ChangeShapes Go.WideShapes Go.ChangeAt Go.RowKit
def BQ{α:Type}(l:List α)(k:Nat):List α:=l.take k++l.drop (k+1)
theorem NJ{α:Type}{l:List α}:(BQ l k)[i]?=if i<k then l[i]? else if k<l.length then l[i+1]? else none:=by
 unfold BQ;by_cases h:i<k
 ·rw[if_pos h]
  by_cases hi:i<l.length
  ·rw[yV (by rw[kC];omega),List.getElem?_take_of_lt h]
  ·rw[List.getElem?_eq_none (by rw[jO,kC,G5];omega),List.getElem?_eq_none (by omega)]
 ·rw[if_neg h]
  split
  ·rename_i hk
   rw[DK (by rw[kC];omega),kC,List.getElem?_drop];congr 1
   omega
  ·rename_i hk
   exact List.getElem?_eq_none (by rw[jO,kC,G5];omega)
theorem UD(n i:Nat):vf (CQ n) i=0:=by
 unfold vf CQ;rw[dQ,List.getElem?_replicate];split<;>rfl
theorem zX{l:List Rat}{y:Rat}(h:i<l.length)(j:Nat):vf (l.set i y) j=if j=i then y else vf l j:=by
 unfold vf;rw[dQ,dQ,List.getElem?_set];by_cases hj:i=j
 ·subst hj;simp[h]
 ·rw[if_neg hj,if_neg (fun e=>hj e.symm)]
theorem U5(q:List Rat)(X:Fn):a_ (aG x).length (vf (aBd x q)) X=aP (aN x) fun k=>vf q k*ext (dG (dN x)) X k:=by
 unfold aBd aG;exact IX (dG (dN x)) (vf q) X (aN x)
theorem aEa(ok:cH x)(a b:Nat):((mQ x).getD a 0=(mQ x).getD b 0)<->(dN x).getD a 0=(dN x).getD b 0:=by
 rw[<-(qK ok).1];have key:∀(l:List Nat)(i:Nat),(eV l).getD i 0=((l.getD i 0:Nat):Int):=fun l i=>by
  unfold eV;rw[dQ,dQ,pL];cases l[i]?<;>rfl
 rw[key,key];omega
theorem aE7{b:Br}(h:b.bad=false):500<=(b.x*b.tap).toNat/\(b.x*b.tap).toNat<10^8/\b.x*b.tap=((b.x*b.tap).toNat:Int):=by
 have h1:=NQ h;have M4:b.x*b.tap<=10000*1500:=Int.mul_le_mul h1.2.1 h1.2.2.2.1 (by omega) (by omega);have yK:1*500<=b.x*b.tap:=Int.mul_le_mul h1.1 h1.2.2.1 (by omega) (by omega);omega
structure FOt (n D B:Nat) (s:List Rat×Rat):Prop where
 len:s.1.length=n
 cf:∀p∈s.1,Ot D B p
 fr:Ot (D*1000) B s.2
theorem FOt.mono{B C:Nat}{s:List Rat×Rat}(h:FOt n D B s)(hb:B<=C):FOt n D C s:=⟨h.len,fun p hp=>rD (h.cf p hp) hb,rD h.fr hb⟩
theorem aCX{B:Nat}{q:Rat}(mi:Bool)(h:Ot D B q):Ot D B (sg mi q):=by
 unfold sg;cases mi
 ·exact h
 ·exact VS h
theorem FOt.add{B u v:Nat}{s:List Rat×Rat}{b c:Rat}(mi:Bool)(h:FOt n D B s)(hu:u<n)(hv:v<n)(hb:Ot D 2000 b)(hc:Ot (D*1000) 2000 c):FOt n D (B+4000) (GD (sg mi b) u v s.1,s.2+sg mi c):=by
 have X8:=aCX mi hb;have h1:Ot D (B+2000) (vf s.1 u+sg mi b):=MD (h.cf _ (cS (bZ (i:=u) (by rw[h.len];exact hu)))) X8;have h2:∀p∈s.1.set u (vf s.1 u+sg mi b),Ot D (B+2000) p:=fun p hp=>by
  rcases List.mem_or_eq_of_mem_set hp with e | e
  ·exact rD (h.cf p e) (by omega)
  ·rw[e];exact h1
 refine⟨by rw[KP];exact h.len,fun p hp=>?_,rD (MD h.fr (aCX mi hc)) (by omega)⟩;unfold GD at hp;rcases List.mem_or_eq_of_mem_set hp with e | e
 ·exact rD (h2 p e) (by omega)
 ·rw[e,Rat.sub_eq_add_neg]
  exact rD (MD (h2 _ (cS (bZ (i:=v) (by rw[jI,h.len];exact hv)))) (VS X8)) (by omega)
theorem nT(x:bP):jB x=(x.brs.map fun b=>aA x b.fr)/\FQ x=x.brs.map fun b=>aA x b.to:=by
 refine⟨?_,?_⟩
 ·unfold jB GA;rw[List.map_map];rfl
 ·unfold FQ GA;rw[List.map_map];rfl
end
section
open Go.ChangeShapes Go.WideShapes Go.ChangeAt Go.RowKit
attribute [local go_sem ↓] aE
attribute [local go_sem] aJ aI aL aX
def ent(A:List (List Rat))(a b:Nat):Rat:=vf (A.getD a []) b
theorem PA{A:List (List Rat)}{r:List Rat}(h:A[a]?=some r):ent A a b=vf r b:=by
 unfold ent;rw[dQ,h];rfl
theorem aAT{l:List Rat}{q:Rat}(hj:j<l.length):vf (l.set j q) b=if b=j then q else vf l b:=by
 unfold vf;rw[dQ,dQ,List.getElem?_set];by_cases h:j=b
 ·subst h;rw[if_pos rfl,if_pos hj,if_pos rfl];rfl
 ·rw[if_neg h,if_neg (fun e=>h e.symm)]
theorem aB5{A:List (List Rat)}{q:Rat}(hl:A.length=n)(hw:∀a∈A,a.length=n)(hi:i<n)(hj:j<n)(a b:Nat):ent (dY A i j q) a b=if a=i/\b=j then ent A a b+q else ent A a b:=by
 obtain⟨r,hr⟩:∃r,A[i]?=some r:=eG (by omega);have RV:=hw r (cS hr);rw[fM hr];unfold ent;rw[dQ,dQ,List.getElem?_set];by_cases h:i=a
 ·subst h
  rw[if_pos rfl,if_pos (by omega),hr];show vf (r.set j (vf r j+q)) b=_;rw[aAT (by omega)];by_cases h2:b=j
  ·subst h2;rw[if_pos rfl,if_pos ⟨rfl,rfl⟩];rfl
  ·rw[if_neg h2,if_neg (fun e=>h2 e.2)];rfl
 ·rw[if_neg h,if_neg (fun e=>h e.1.symm)]
structure oH (n K:Nat) (wt:Rat) (q:List Rat) (A0 A:List (List Rat)) (i j:Nat):Prop where
 old:fE n K A0
 len:A.length=n
 wid:∀a∈A,a.length=n
 val:∀a b,a<n->b<n->ent A a b=ent A0 a b+(if a<i\/(a=i/\b<j) then wt*vf q a*vf q b else 0)
section
variable {n K i j:Nat} {wt:Rat} {q:List Rat} {A0 A:List (List Rat)}
theorem oH.start(h:fE n K A0):oH n K wt q A0 A0 0 0:=⟨h,h.len,h.wid,fun a b _ _=>by rw[if_neg (by omega),Rat.add_zero]⟩
theorem oH.row(h:oH n K wt q A0 A i n):oH n K wt q A0 A (i+1) 0:=⟨h.old,h.len,h.wid,fun a b ha hb=>by
 rw[h.val a b ha hb];by_cases h1:a<i\/(a=i/\b<n)
 ·rw[if_pos h1,if_pos (by omega)]
 ·rw[if_neg h1,if_neg (by omega)]⟩
theorem oH.add(h:oH n K wt q A0 A i j)(hi:i<n)(hj:j<n):oH n K wt q A0 (dY A i j (wt*vf q i*vf q j)) i (j+1):=
 ⟨h.old,E3.trans h.len,E2 h.wid (by rw[h.len];exact hi),fun a b ha hb=>by
  rw[aB5 h.len h.wid hi hj,h.val a b ha hb];by_cases h1:a=i/\b=j
  ·rw[if_pos h1,if_neg (by omega),if_pos (by omega),h1.1,h1.2,Rat.add_zero]
  ·rw[if_neg h1]
   by_cases h2:a<i\/(a=i/\b<j)
   ·rw[if_pos h2,if_pos (by omega)]
   ·rw[if_neg h2,if_neg (by omega)]⟩
theorem oH.skip(h:oH n K wt q A0 A i j)(h0:vf q i=0\/vf q j=0):oH n K wt q A0 A i (j+1):=
 ⟨h.old,h.len,h.wid,fun a b ha hb=>by
  rw[h.val a b ha hb];by_cases h1:a=i/\b=j
  ·rw[if_neg (by omega),if_pos (by omega),h1.1,h1.2]
   rcases h0 with h0 | h0<;>rw[h0]<;>grind
  ·by_cases h2:a<i\/(a=i/\b<j)
   ·rw[if_pos h2,if_pos (by omega)]
   ·rw[if_neg h2,if_neg (by omega)]⟩
theorem oH.bd(h:oH n K wt q A0 A i j)(he:∀a b,a<n->b<n->bM (wt*vf q a*vf q b)<=e):fE n (K+e+1) A:=⟨h.len,h.wid,fun a ha x hx=>by
 obtain⟨i1,h1⟩:=List.mem_iff_getElem?.1 ha;obtain⟨j1,h2⟩:=List.mem_iff_getElem?.1 hx;have l1:=(c_.1 h1).1;have l2:=(c_.1 h2).1;rw[h.len] at l1;rw[h.wid a ha] at l2;have hv:=h.val i1 j1 l1 l2;rw[PA h1,sA h2] at hv;obtain⟨r,hr⟩:∃r,A0[i1]?=some r:=eG (by rw[h.old.len];exact l1);have h3:=h.old.bd.vf hr (j:=j1) (by rw[h.old.wid r (cS hr)];exact l2);rw[PA hr] at hv;rw[hv];by_cases h4:i1<i\/(i1=i/\j1<j)
 ·rw[if_pos h4]
  have h5:=lI (vf r j1) (wt*vf q i1*vf q j1);have h6:=he i1 j1 l1 l2;omega
 ·rw[if_neg h4,Rat.add_zero]
  omega⟩
end
def wtF(ms:List Mi):Fn:=fun k=>match ms[k]? with | some m=>(m.wt:Rat) | none=>0
def aNv(M:List (List Rat))(ms:List Mi)(k a b:Nat):Rat:=aP k fun t=>wtF ms t*vf (M.getD t []) a*vf (M.getD t []) b
end
section
theorem AG:∀(s:Nat) {M:List (List Rat)} {N k b:Nat} {piv:List Nat},(∀a∈M,a.length=N)->k+s<=N->Bd b M->Bd (4^s*b) (kM s M piv k).1
 | 0,M,N,k,b,piv,hw,hk,h=>by rw[Nat.pow_zero,Nat.one_mul];exact h
 | s+1,M,N,k,b,piv,hw,hk,h=>by
  unfold kM;have MX:0<4^(s+1):=Nat.pow_pos (by decide);have FW:b<=4^(s+1)*b:=Nat.le_mul_of_pos_left _ MX;by_cases hl:piv.length<M.length
  ·rw[if_pos hl]
   by_cases hp:kN M piv.length k=M.length
   ·rw[if_pos hp]
    exact(AG s hw (by omega) h).mono (Nat.mul_le_mul_right _ (Nat.pow_le_pow_right (by decide) (Nat.le_succ _)))
   ·rw[if_neg hp]
    obtain⟨Rp,hRp,hd⟩:=rB (qY hl) hp;obtain⟨Rr,hRr⟩:∃Rr,M[piv.length]?=some Rr:=⟨_,jP hl⟩;have h1:=Y7 h hw hRr hRp (k:=k) (by omega);have h2:=AG s (piv:=piv++[k]) (k:=k+1) (EU hw hRr hRp) (by omega) h1;rw[<-Nat.mul_assoc,<-Nat.pow_succ] at h2;exact h2
  ·rw[if_neg hl]
   exact h.mono FW
theorem aEb(hw:∀a∈M,a.length=M.length)(h:Bd b M)(hb:3<=b):Bd (4^M.length*b) (wY M):=fun a ha x hx=>by
 unfold wY at ha;obtain⟨r,hr,rfl⟩:=List.mem_map.1 ha;exact AG M.length (qO hw) (by omega) (O_ h hb) r hr x (List.mem_of_mem_drop hx)
def YB(n:Nat)(M:List (List Rat))(ms:List Mi):List (List Rat):=(List.range n).map fun a=>(List.range n).map fun b=>aNv M ms M.length a b
def aLC(x:bP)(m:Mi):Rat:=(m.wt:Rat)*(fB m.txt-(O7 x m).2)
def aLD(x:bP)(ms:List Mi):Fn:=fun k=>match ms[k]? with | some m=>aLC x m | none=>0
def aLz(n:Nat)(x:bP)(ms:List Mi)(k:Nat):List Rat:=(List.range n).map fun i=>aP k fun t=>aLD x ms t*vf ((IN x ms).getD t []) i
def sS(F:List Nat)(d:Fn)(z:List Rat):Nat->List Rat
 | 0=>z
 | k+1=>(sS F d z k).set (F.getD k 0) (d k)
theorem uO{F:List Nat}{d:Fn}{z:List Rat}:∀k,(sS F d z k).length=z.length
 | 0=>rfl
 | k+1=>by unfold sS;rw[jI,uO k]
def aNx(x:bP)(ms:List Mi):Fn:=fun i=>JY ((wY (YB (aG x).length (IN x ms) ms)).getD i []) (aLz (aG x).length x ms ms.length)
def YK(x:bP)(ms:List Mi):List Rat:=sS (aG x) (aNx x ms) (CQ (aN x)) (aG x).length
def aD5(x:bP)(ms:List Mi)(al:List Rat):List Rat:=ms.map fun m=>fB m.txt-(JY (O7 x m).1 al+(O7 x m).2)
def aCP(x:bP)(ms:List Mi):Prop:=Reg (YB (aG x).length (IN x ms) ms)
end
section
open Go.ChangeShapes Go.WideShapes Go.ChangeAt Go.RowKit
theorem KA{nodes:List ByteArray}:∀(l seen:List ByteArray),(aV (mY nodes) id seen l).1=0->l.Nodup/\∀a∈l,a∉seen
 | [],seen,_=>⟨List.nodup_nil,fun a h=>by cases h⟩
 | y::r,seen,h=>by
  unfold aV at h;split at h
  ·rename_i h0;exact absurd h h0
  ·rename_i h0
   have hd:=(lF (Decidable.not_not.1 h0)).2.2.2;have hy:y∉seen:=fun hm=>hd (List.any_eq_true.2 ⟨y,hm,iY.2 rfl⟩);obtain⟨h1,h2⟩:=KA r (y::seen) h;refine⟨List.nodup_cons.2 ⟨fun hm=>h2 y hm List.mem_cons_self,h1⟩,fun a ha=>?_⟩;rcases List.mem_cons.1 ha with e | e
   ·rw[e];exact hy
   ·exact fun hm=>h2 a e (List.mem_cons_of_mem _ hm)
theorem xU(h:d8 x=0):x.nodes.Nodup:=by
 unfold d8 at h;split at h
 ·omega
 ·unfold ck0 at h
  split at h
  ·rename_i h0;exact absurd h h0
  ·rename_i h0
   exact(KA _ _ (Decidable.not_not.1 h0)).1
theorem WE{nodes:List ByteArray}(hn:nodes.Nodup){s:ByteArray}(h:nodes[i]?=some s):bL nodes s=i:=by
 rcases o3 (fun y=>k_ s y) nodes 0 with⟨_,h2⟩ | ⟨j,y,h1,h2,h3,_⟩
 ·exact absurd rfl (wD.1 (h2 s (cS h)))
 ·have hy:y=s:=(iY.1 h3).symm
  subst hy;have e:=(List.getElem?_inj (c_.1 h2).1 hn).1 (h2.trans h.symm);unfold bL;rw[h1];simp;omega
def wU:List Rat->Rat
 | []=>0
 | a::r=>a+wU r
theorem BJ:∀(l:List Rat)(a:Rat),l.foldl (·+·) a=a+wU l
 | [],a=>(Rat.add_zero a).symm
 | b::r,a=>by
  rw[List.foldl_cons,BJ r (a+b)];show a+b+wU r=a+(b+wU r);rw[Rat.add_assoc]
theorem QJ(l:List Rat):cO l=wU l:=by
 unfold cO;rw[BJ,Rat.zero_add]
def fS(x:bP)(al:List Rat)(b:Br):Rat:=gD b*(vf al (aA x b.fr)-vf al (aA x b.to))+mS b
def sY(x:bP)(al:List Rat)(bus:Nat):List Br->Rat
 | []=>0
 | b::r=>((if aA x b.fr=bus then fS x al b else 0)+-(if aA x b.to=bus then fS x al b else 0))+sY x al bus r
theorem JW(h1:q.length=n)(h2:al.length=n):JY q al=aP n fun i=>vf q i*vf al i:=by
 have key:∀k,k<=n->cO ((List.zipWith (·*·) q al).take k)=aP k fun i=>vf q i*vf al i:=fun k=>by
  induction k with
  | zero=>intro _;rfl
  | succ k ih=>
   intro hk;rw[EM (bZ (i:=k) (by omega)) (bZ (l:=al) (i:=k) (by omega)),ih (by omega)];rfl
 have:=key n lR;rw[oP (by rw[List.length_zipWith];omega)] at this;exact this
def fL(x:bP)(i:Nat):Nat:=((gM x).getD i 0).toNat
theorem aCj(hk:d8 x=0){s:ByteArray}(h:x.nodes[i]?=some s):aA x s=fL x i:=by
 unfold aA fL;rw[WE (xU hk) h]
theorem aCi(ok:cH x)(hi:i<x.nodes.length)(hj:j<x.nodes.length):fL x i=fL x j<->(gM x).getD i 0=(gM x).getD j 0:=by
 obtain⟨h1,h2⟩:=iO ok;have key:∀k,k<x.nodes.length->0<=(gM x).getD k 0:=fun k hk=>by
  rw[dQ,jP (by omega)];exact(h2 _ (List.getElem_mem (by omega))).1
 have a:=key i hi;have b:=key j hj;unfold fL;omega
end
section
section
variable {x:bP} {ms:List Mi}
end
theorem zE{p:Nat->Bool}:∀{n i j:Nat},(iB p n)[i]?=some j->p j=true/\j<n/\zM p j=i
 | 0,i,j,h=>by simp[iB] at h
 | n+1,i,j,h=>by
  rw[wL] at h;by_cases hi:i<(iB p n).length
  ·rw[yV hi] at h
   obtain⟨h1,h2,h3⟩:=zE h;exact⟨h1,by omega,h3⟩
  ·rw[DK (by omega)] at h
   cases hp:p n with
   | false=>rw[hp] at h;simp at h
   | true=>
    rw[hp,if_pos rfl] at h;have hl:=(c_.1 h).1;simp only[List.length_singleton] at hl;have h0:i-(iB p n).length=0:=by omega
    rw[h0] at h;simp at h;subst h;rw[nP] at hi h0;exact⟨hp,Nat.lt_succ_self _,by omega⟩
theorem oV{p:Nat->Bool}(hp:p j=true):∀{n:Nat},j<n->(iB p n)[zM p j]?=some j
 | 0,h=>by omega
 | n+1,h=>by
  rw[wL];by_cases hj:j<n
  ·have:=oV hp hj
   rw[yV (c_.1 this).1];exact this
  ·have:j=n:=by omega
   subst this;rw[DK (by rw[nP];exact lR),nP,Nat.sub_self,if_pos hp];rfl
theorem WQ{p:Nat->Bool}{n:Nat}{d:Fn}:∀{k:Nat},k<=zM p n->∀j,j<n->vf (sS (iB p n) d (CQ n) k) j=if p j=true/\zM p j<k then d (zM p j) else 0
 | 0,_,j,_=>by rw[if_neg (by omega)];exact UD n j
 | k+1,hk,j,hj=>by
  have ih:=WQ (d:=d) (p:=p) (n:=n) (k:=k) (by omega) j hj;unfold sS;obtain⟨j0,h0⟩:∃j0,(iB p n)[k]?=some j0:=eG (by rw[nP];omega);obtain⟨h1,h2,h3⟩:=zE h0;have e:(iB p n).getD k 0=j0:=by rw[dQ,h0];rfl
  rw[e,zX (by rw[uO];unfold CQ;rw[pV];exact h2),ih];by_cases hjj:j=j0
  ·subst hjj
   rw[if_pos rfl,if_pos ⟨h1,by omega⟩,h3]
  ·rw[if_neg hjj]
   by_cases hp:p j=true
   ·have cK:zM p j≠k:=fun e=>by
     have h4:=oV hp hj;rw[e,h0] at h4;injection h4 with h4;exact hjj h4.symm
    by_cases aR:zM p j<k
    ·rw[if_pos ⟨hp,aR⟩,if_pos ⟨hp,by omega⟩]
    ·rw[if_neg (fun h=>aR h.2),if_neg (fun h=>by omega)]
   ·rw[if_neg (fun h=>hp h.1),if_neg (fun h=>hp h.1)]
section
variable {x:bP} {ms:List Mi}
theorem aBD{d:Fn}(hj:j<aN x):vf (sS (aG x) d (CQ (aN x)) (aG x).length) j=ext (dG (dN x)) d j:=by
 have h:=WQ (p:=dG (dN x)) (d:=d) (n:=aN x) (k:=(aG x).length) (Nat.le_of_eq (nP _ _)) j hj;unfold aG at h ⊢;rw[h];unfold ext;by_cases hp:dG (dN x) j=true
 ·have h2:=(c_.1 (oV hp hj)).1
  rw[if_pos ⟨hp,h2⟩,if_pos hp]
 ·rw[if_neg (fun h=>hp h.1),if_neg hp]
def frF(x:bP)(al:List Rat):Fn:=fun i=>vf al ((aG x).getD i 0)
def Grd(x:bP)(al:List Rat):Prop:=al.length=aN x/\∀j,j<aN x->dG (dN x) j=false->vf al j=0
theorem Grd.ext(h:Grd x al)(hj:j<aN x):vf al j=ext (dG (dN x)) (frF x al) j:=by
 unfold Go.Proofs.YtonlblmobjhjjaaGreatDoor.ext;by_cases hp:dG (dN x) j=true
 ·rw[if_pos hp]
  unfold frF aG;rw[dQ,oV hp hj];rfl
 ·rw[if_neg hp]
  exact h.2 j hj (by simpa using hp)
theorem Grd.dot(h:Grd x al)(hq:q.length=aN x):JY q al=a_ (aG x).length (vf (aBd x q)) (frF x al):=by
 rw[JW hq h.1,U5];exact aO fun j hj=>by rw[h.ext hj]
theorem Grd.eq{be:List Rat}(h1:Grd x al)(h2:Grd x be)(he:∀i,i<(aG x).length->frF x al i=frF x be i):al=be:=by
 apply List.ext_getElem?;intro j;by_cases hj:j<aN x
 ·have e:vf al j=vf be j:=by
   rw[h1.ext hj,h2.ext hj];unfold Go.Proofs.YtonlblmobjhjjaaGreatDoor.ext;by_cases hp:dG (dN x) j=true
   ·rw[if_pos hp,if_pos hp]
    exact he _ (c_.1 (oV hp hj)).1
   ·rw[if_neg hp,if_neg hp]
  rw[bZ (l:=al) (i:=j) (by rw[h1.1];exact hj),bZ (l:=be) (i:=j) (by rw[h2.1];exact hj),e]
 ·rw[List.getElem?_eq_none (by rw[h1.1];omega),List.getElem?_eq_none (by rw[h2.1];omega)]
end
section
variable {x:bP} {ms:List Mi} {by_:Int}
end
section
variable {x:bP} {ms:List Mi}
end
end
section
open Go.ChangeShapes Go.WideShapes Go.ChangeAt Go.RowKit
attribute [local go_sem ↓] aE
attribute [local go_sem] aJ aI aL aX
theorem mJ.far{base T:Nat}{u:Value}{hs:List Hd}(m:mJ w base v hs M)(hb:aD w g T cs)(h1:87≠T)(h2:96≠T)(hy:cs[i]?=some y)(hn:B7 y):mJ (w.setCell ⟨g,i,none⟩ u) base v hs M:=
 ⟨m.own.far hb h2,m.len,fun j h q hh hq=>by
  obtain⟨B,us,k⟩:=m.rows j h q hh hq;exact⟨B,us,k.far hb h1 hy hn⟩⟩
structure Vb (w:Wo) (gc:Nat) (vs:List Rv) (q:List Rat):Prop where
 row:∃cs,aD w gc 87 cs/\cs.toList.take (q.length*4)=eM vs
 len:vs.length=q.length
 ok:iW w vs q
section
variable {w w':Wo} {gc:Nat} {vs:List Rv} {q:List Rat}
theorem Vb.lt(f:Vb w gc vs q):gc<w.heap.size:=by obtain⟨cs,h1,h2⟩:=f.row;exact h1.lt
theorem Vb.up(f:Vb w gc vs q)(hb:Below w.heap.size w w'):Vb w' gc vs q:=by
 obtain⟨cs,h1,h2⟩:=f.row;exact⟨⟨cs,h1.bl hb,h2⟩,f.len,f.ok.up hb⟩
theorem Vb.elem(f:Vb w gc vs q)(hj:j<q.length):∃x,vs[j]?=some x/\w.cell? ⟨gc,j*4,none⟩=some (.bool x.b1)/\w.cell? ⟨gc,j*4+1,none⟩=some (.slice x.A x.n x.c)/\w.cell? ⟨gc,j*4+2,none⟩=some (.bool x.b2)/\w.cell? ⟨gc,j*4+3,none⟩=some (.slice x.A2 x.m x.d)/\gc<w.heap.size/\(∀o,w.frozen? ⟨gc,o,none⟩=false):=by
 obtain⟨cs,h1,h2⟩:=f.row;obtain⟨x,hx⟩:∃x,vs[j]?=some x:=eG (by rw[f.len];exact hj);obtain⟨c0,c1,c2,c3⟩:=h1.row_cell h2 hx;exact⟨x,hx,c0,c1,c2,c3,h1.lt,h1.frozen⟩
theorem Vb.val(f:Vb w gc vs q)(hj:j<q.length){x:Rv}(hx:vs[j]?=some x):cY w w.heap.size (vf q j) x:=f.ok j _ x (bZ hj) hx
theorem Vb.keep(f:Vb w gc vs q)(hj:j<q.length){x y:Rv}{p:Rat}(hy:cY w w.heap.size p y):cY (fY w gc j x) (fY w gc j x).heap.size p y:=by
 obtain⟨cs,h1,h2⟩:=f.row;obtain⟨x0,hx⟩:∃x,vs[j]?=some x:=eG (by rw[f.len];exact hj);exact cY.keep4 hy x h1 h2 hx
theorem Vb.put(f:Vb w gc vs q)(hj:j<q.length){x:Rv}{p:Rat}(hx:cY w w.heap.size p x):Vb (fY w gc j x) gc (vs.set j x) (q.set j p):=by
 obtain⟨cs,h1,h2⟩:=f.row;obtain⟨cs',k1,k2⟩:=h1.row_put x h2 f.len hj;refine⟨⟨cs',k1,by rw[jI];exact k2⟩,by simp[f.len],fun i p' y hp hy=>?_⟩;rw[List.getElem?_set] at hp hy;by_cases rV:j=i
 ·subst rV
  rw[if_pos rfl,if_pos hj] at hp;rw[if_pos rfl,if_pos (by rw[f.len];exact hj)] at hy;injection hp with hp;injection hy with hy;subst hp;subst hy;exact f.keep hj hx
 ·rw[if_neg rV] at hp hy
  exact f.keep hj (f.ok i p' y hp hy)
theorem Vb.rdq(f:Vb w gc vs q):hO w w.heap.size (some ⟨gc,0,none⟩) q.length q:=by
 obtain⟨cs,h1,h2⟩:=f.row;refine⟨vs,f.len,rfl,⟨by rw[dI,f.len],fun hn=>⟨gc,0,rfl,h1.lt,fun i v hv=>?_⟩⟩,f.ok⟩;rw[Nat.zero_add,h1.cell];rw[<-h2] at hv;rw[List.getElem?_take] at hv;split at hv
 ·rwa[Array.getElem?_toList] at hv
 ·cases hv
end
theorem aAV{gc:Nat}{v:Rv}(hc:aD w gc 87 (eM (List.replicate n v)).toArray)(hv:cY w w.heap.size 0 v):Vb w gc (List.replicate n v) (CQ n):=by
 refine⟨⟨_,hc,?_⟩,by simp[CQ],fun i p x hp hx=>?_⟩
 ·have hl:(eM (List.replicate n v)).length=n*4:=(dI _).trans (by rw[pV])
  rw[CQ,pV];exact oP (Nat.le_of_eq hl)
 ·unfold CQ at hp
  rw[List.getElem?_replicate] at hp hx;split at hp
  ·rename_i h
   rw[if_pos h] at hx;rw[<-Option.some.inj hp,<-Option.some.inj hx];exact hv
  ·cases hp
section
variable {w:Wo} {g T:Nat} {cs:Array Value} {i:Nat} {u y:Value}
end
section
variable {w w':Wo} {gc gz:Nat} {vs us:List Rv} {q p:List Rat}
theorem Vb.far(f:Vb w gc vs q)(g:Vb w gz us p){x:Rv}(hj:j<p.length)(cK:gc≠gz):Vb (fY w gz j x) gc vs q:=by
 obtain⟨cs,h1,h2⟩:=f.row;exact⟨⟨cs,h1.far4 x cK,h2⟩,f.len,fun i t v ht hv=>g.keep hj (f.ok i t v ht hv)⟩
theorem Vb.keeps{base:Nat}(f:Vb w gc vs q)(k:dZ tQ base e w w')(he:87≠e):Vb w' gc vs q:=by
 obtain⟨cs,h1,h2⟩:=f.row;exact⟨⟨cs,k.blk _ _ _ h1 he,h2⟩,f.len,fun i t v ht hv=>(f.ok i t v ht hv).keeps k⟩
end
structure Fh where
 gc:Nat
 u:Rv
def Fh.cells(n:Nat)(f:Fh):List Value:=[.slice (some ⟨f.gc,0,none⟩) n n,.bool f.u.b1,.slice f.u.A f.u.n f.u.c,.bool f.u.b2,.slice f.u.A2 f.u.m f.u.d]
end
section
open Go.ChangeShapes Go.WideShapes Go.ChangeAt Go.RowKit
section
variable {w:Wo} {gc g T i n base:Nat} {vs:List Rv} {q:List Rat} {cs:Array Value} {y u v:Value} {fs:List Fh} {ps:List (List Rat×Rat)}
end
def NoS(cs:Array Value):Prop:=∀(i:Nat)(u:Value),cs[i]?=some u->∀s,u≠.string s
theorem mJ.apart{base T:Nat}{hs:List Hd}(m:mJ w base (.slice A n c) hs M)(hb:aD w g T cs)(ht:96≠T):∀b off,A=some ⟨b,off,none⟩->b≠g:=fun b off e=>by
 rcases m.own.2 with⟨h0,-⟩ | ⟨g',cap,cur,h1,h2,h3,-⟩
 ·rw[e] at h0
  cases h0
 ·rw[e] at h1
  injection h1 with h1;injection h1 with h1;injection h1 with h1 h4;rw[h1];exact h3.apart hb ht
theorem mJ.base{base:Nat}{hs:List Hd}(m:mJ w base (.slice A n c) hs M):∀b off,A=some ⟨b,off,none⟩->base<=b:=fun b off e=>by
 rcases m.own.2 with⟨h0,-⟩ | ⟨g',cap,cur,h1,h2,h3,-⟩
 ·rw[e] at h0
  cases h0
 ·rw[e] at h1
  injection h1 with h1;injection h1 with h1;injection h1 with h1 h4;rw[h1];exact h2
theorem T_{o:Oper}{a:Act}{w:Wo}{K:Act->World->Prop}{Q:Exit->Act->World->Prop}(s x:Operand)(t:TypeId)(ho:o.op=.call { callee:=.builtin .append,args:=#[s,x],argTypes:=#[t,t] })(base:Nat)(ht:Tryz.prog.underlying t=some (.slice 87))(v:Value)(vs:List Rv)(qs:List Rat)(hs:a.eval s=v)(bB:dD w base v vs qs)(u:Rv)(q:Rat)(hq:cY w w.heap.size q u)(g T:Nat)(hx:a.eval x=.slice (some ⟨g,0,none⟩) 1 1)(hg:aD w g T #[.bool u.b1,.slice u.A u.n u.c,.bool u.b2,.slice u.A2 u.m u.d])(yO:qs.length<=1000000)(cP:base<=w.heap.size)(h:∀v' w',dD w' base v' (vs++[u]) (qs++[q])->dZ tQ base 87 w w'->(∀g t cs,v.ownBlock≠some g->aD w g t cs->aD w' g t cs)->K (a.put o.dst v') w'):o.wp Tryz.prog a w K Q:=by
 obtain⟨i0,jL,pF,kT,kS⟩:=jW;have hl:=bB.len;exact zU (S:=tQ) s x t ho base 87 i0 _ 4 64 ht jL pF kT kS rfl (by omega) qA v vs.length (eM vs) hs bB.own g T #[.bool u.b1,.slice u.A u.n u.c,.bool u.b2,.slice u.A2 u.m u.d] hx hg rfl (wE u) (by simp only[maxLen];omega) (by omega) cP fun v' w' h1 h2 h3 h4=>h v' w' (dD.app bB hq h1 h2) h2 fun g2 t2 cs cK bV=>(h4 g2 bV.lt cK).trans bV
end
section
def Cn(e:Nat->Rat)(n:Nat)(out:List Int):Prop:=∀a b,a<n->b<n->0<=out.getD a 0->out.getD a 0=out.getD b 0->e a=e b
def Cq(n:Nat)(m:Int)(s:List Int×List Nat):Prop:=∀v∈s.2,v<n/\s.1.getD v 0=m
theorem aCc{e:Nat->Rat}{u:Nat}{m:Int}{s:List Int×List Nat}{x:Nat×Nat}(hm:0<=m)(hx:x.1<n/\x.2<n)(hl:s.1.length=n)(hu:u<n)(hum:s.1.getD u 0=m)(he:e x.1=e x.2)(h:Cn e n s.1)(hq:Cq n m s):Cn e n (dU u m s x).1/\Cq n m (dU u m s x)/\(dU u m s x).1.length=n/\(dU u m s x).1.getD u 0=m:=by
 unfold dU;split
 ·rename_i hc
  obtain⟨v,hv⟩:∃v,v=x.1+x.2-u:=⟨_,rfl⟩;have hvn:v<n:=by omega
  have hev:e v=e u:=by
   rcases hc.1 with e1 | e1
   ·have:v=x.2:=by omega
    rw[this,<-e1];exact he.symm
   ·have:v=x.1:=by omega
    rw[this,<-e1];exact he
  have pO:=hc.2;rw[<-hv] at pO ⊢;have hD:∀j,(s.1.set v m).getD j 0=if j=v then m else s.1.getD j 0:=fun j=>tT (by omega);have hvu:u≠v:=fun e1=>by rw[<-e1,hum] at pO;omega
  refine⟨fun a b ha hb h0 iI=>?_,fun w hw=>?_,by simp[hl],by rw[hD,if_neg hvu];exact hum⟩
  ·simp only[hD] at h0 iI
   by_cases e1:a=v
   ·by_cases e2:b=v
    ·rw[e1,e2]
    ·rw[if_pos e1,if_neg e2] at iI
     rw[e1,hev];exact h u b hu hb (by omega) (by rw[hum];exact iI)
   ·by_cases e2:b=v
    ·rw[if_neg e1,if_pos e2] at iI
     rw[e2,hev];exact(h u a hu ha (by omega) (by rw[hum];exact iI.symm)).symm
    ·rw[if_neg e1] at h0
     rw[if_neg e1,if_neg e2] at iI;exact h a b ha hb h0 iI
  ·rcases List.mem_append.1 hw with hw | hw
   ·have:=hq w hw
    refine⟨this.1,?_⟩;rw[hD];split
    ·rfl
    ·exact this.2
   ·rw[List.mem_singleton.1 hw]
    exact⟨hvn,by rw[hD,if_pos rfl]⟩
 ·exact⟨h,hq,hl,hum⟩
theorem PH{e:Nat->Rat}{u:Nat}{m:Int}(hm:0<=m)(hu:u<n):∀{es:List (Nat×Nat)} {s:List Int×List Nat},(∀x∈es,x.1<n/\x.2<n)->(∀x∈es,e x.1=e x.2)->s.1.length=n->s.1.getD u 0=m->Cn e n s.1->Cq n m s->
    Cn e n (hY u m es s).1/\Cq n m (hY u m es s)/\(hY u m es s).1.length=n
 | [],s,_,_,hl,_,h,hq=>⟨h,hq,hl⟩
 | x::r,s,hx,he,hl,hum,h,hq=>by
  obtain⟨h1,h2,h3,h4⟩:=aCc hm (hx x (by simp)) hl hu hum (he x (by simp)) h hq;exact PH (es:=r) (s:=dU u m s x) hm hu (fun y hy=>hx y (by simp[hy])) (fun y hy=>he y (by simp[hy])) h3 h4 h1 h2
theorem Y9{e:Nat->Rat}{m:Int}(hm:0<=m){es:List (Nat×Nat)}(hx:∀x∈es,x.1<n/\x.2<n)(he:∀x∈es,e x.1=e x.2):∀(f:Nat){out:List Int}{q:List Nat},out.length=n->Cn e n out->Cq n m (out,q)->Cn e n (mO m es f out q)
 | 0,out,q,_,h,_=>h
 | f+1,out,[],_,h,_=>h
 | f+1,out,u::q,hl,h,hq=>by
  have hu:=hq u (by simp);obtain⟨h1,h2,h3⟩:=PH (s:=(out,q)) hm hu.1 hx he hl hu.2 h (fun v hv=>hq v (by simp only at hv ⊢;simp[hv]));exact Y9 hm hx he f h3 h1 h2
theorem Y8{e:Nat->Rat}{es:List (Nat×Nat)}(hx:∀x∈es,x.1<n/\x.2<n)(he:∀x∈es,e x.1=e x.2):∀(k i:Nat)(s:List Int×Int),s.1.length=n->i+k=n->(∀y∈s.1,-1<=y/\y<s.2)->0<=s.2->Cn e n s.1->Cn e n (FL n es k i s).1
 | 0,i,s,_,_,_,_,h=>h
 | k+1,i,s,hl,hi,hb,h0,h=>by
  unfold FL;split
  ·exact Y8 hx he k (i+1) s hl (by omega) hb h0 h
  ·rename_i hz
   have rH:i<s.1.length:=by omega
   have vL:Ps n s.2 (s.1.set i s.2) [i]:=⟨by simp[hl],fun v hv=>(by rw[List.mem_singleton.1 hv];omega),fun x hx=>by
    rcases List.mem_or_eq_of_mem_set hx with hx | rfl
    ·have:=hb x hx;omega
    ·omega⟩
   have h2:=zG h0 hx (n+1) vL;have hD:∀j,(s.1.set i s.2).getD j 0=if j=i then s.2 else s.1.getD j 0:=fun j=>tT rH;have aR:∀j,j<n->s.1.getD j 0<s.2:=fun j hj=>by
    rw[dQ,jP (by omega)];exact(hb _ (List.getElem_mem _)).2
   have hcn:Cn e n (s.1.set i s.2):=fun a b ha X8 g0 gab=>by
    simp only[hD] at g0 gab;by_cases e1:a=i
    ·by_cases e2:b=i
     ·rw[e1,e2]
     ·rw[if_pos e1,if_neg e2] at gab
      have:=aR b X8;omega
    ·by_cases e2:b=i
     ·rw[if_neg e1,if_pos e2] at gab
      have:=aR a ha;omega
     ·rw[if_neg e1] at g0
      rw[if_neg e1,if_neg e2] at gab;exact h a b ha X8 g0 gab
   refine Y8 hx he k (i+1) _ h2.1 (by omega) (fun x hx=>(by have:=h2.2 x hx;show _/\_<s.2+1;omega)) (by show 0<=s.2+1;omega) ?_;exact Y9 h0 hx he (n+1) (by simp[hl]) hcn (fun v hv=>by
    have:v=i:=by simpa using hv
    subst this;exact⟨by omega,by rw[hD,if_pos rfl]⟩)
theorem AM{e:Nat->Rat}{es:List (Nat×Nat)}(hx:∀x∈es,x.1<n/\x.2<n)(he:∀x∈es,e x.1=e x.2)(ha:a<n)(hb:b<n)(iI:(eQ n es).getD a 0=(eQ n es).getD b 0):e a=e b:=by
 have h:=Y8 (e:=e) hx he n 0 (List.replicate n (-1),0) (by simp) (by omega) (fun y hy=>(by rw[List.eq_of_mem_replicate hy];exact⟨by omega,show(-1:Int)<0 by omega⟩)) (by show(0:Int)<=0;omega) (fun a b ha hb g0 _=>by
  have g0':0<=(List.replicate n (-1:Int)).getD a 0:=g0;rw[U_ ha] at g0';omega)
 refine h a b ha hb ?_ iI;have hp:=l9 hx;show 0<=(eQ n es).getD a 0;rw[dQ,jP (by rw[hp.1];exact ha)];exact(hp.2 _ (List.getElem_mem _)).1
theorem lU{A:List (List Rat)}{q:Rat}(h:fE n K A)(hi:i<n)(hj:j<n)(c:Fn)(r:Nat):a_ n (vf ((dY A i j q).getD r [])) c=a_ n (vf (A.getD r [])) c+if r=i then q*c j else 0:=by
 obtain⟨a,ha⟩:∃a,A[i]?=some a:=eG (by rw[h.len];exact hi);rw[fM ha];by_cases e:r=i
 ·subst e
  rw[if_pos rfl,dQ,List.getElem?_set,if_pos rfl,if_pos (by rw[h.len];exact hi),dQ,ha];simp only[Option.getD_some];have DB:=h.wid a (cS ha);unfold a_;rw[aO (g:=fun t=>vf a t*c t+(if t=j then q*c j else 0)) (fun t _=>by
   rw[zX (by rw[DB];exact hj)];by_cases e:t=j
   ·subst e;rw[if_pos rfl,if_pos rfl];grind
   ·rw[if_neg e,if_neg e];grind),cM]
  congr 1
  rw[dR hj (fun t _ cK=>if_neg cK),if_pos rfl]
 ·rw[if_neg e,Rat.add_zero,dQ,List.getElem?_set,if_neg (fun e2=>e e2.symm),dQ]
def pS(free:List Nat)(c:Fn)(u:Nat):Rat:=match wK free u with | some i=>c i | none=>0
theorem uD{u:Nat}(h:wK free u=none)(hr:free[r]?=some f):f≠u:=fun e=>by
 unfold wK at h;rw[List.findIdx?_eq_none_iff] at h;have:=h f (cS hr);simp[e] at this
theorem nO(hn:free.Nodup){u:Nat}(h:wK free u=some i)(hr:free[r]?=some f):f=u<->r=i:=by
 have h1:=(dF h).2;obtain⟨a1,a2⟩:=c_.1 h1;obtain⟨b1,b2⟩:=c_.1 hr
 constructor
 ·intro e
  exact(List.getElem_inj hn).1 (by rw[b2,a2,e])
 ·intro e
  subst e;rw[hr] at h1;injection h1
theorem KN(hn:free.Nodup){u v:Nat}{A:List (List Rat)}{b:Rat}(h:fE free.length K A)(hb:bM b<=1)(c:Fn)(hr:free[r]?=some f):a_ free.length (vf ((eX free A b u v).getD r [])) c=a_ free.length (vf (A.getD r [])) c+b*(two u v f*(pS free c u-pS free c v)):=by
 have X8:bM (-b)<=1:=by rw[kG];exact hb
 unfold eX;by_cases RT:u=v
 ·subst RT
  rw[if_pos rfl];grind
 ·rw[if_neg RT]
  unfold two;cases h1:wK free u with
  | none=>
   have e1:pS free c u=0:=by unfold pS;rw[h1]
   have g1:=uD h1 hr;cases h2:wK free v with
   | none=>
    have e2:pS free c v=0:=by unfold pS;rw[h2]
    rw[e1,e2];grind
   | some j=>
    have e2:pS free c v=c j:=by unfold pS;rw[h2]
    have g2:=nO hn h2 hr;simp only;rw[lU h (dF h2).1 (dF h2).1,e1,e2,if_neg g1];by_cases e:r=j
    ·rw[if_pos e,if_pos (g2.2 e),e];grind
    ·rw[if_neg e,if_neg (fun e3=>e (g2.1 e3))];grind
  | some i=>
   have e1:pS free c u=c i:=by unfold pS;rw[h1]
   have g1:=nO hn h1 hr;cases h2:wK free v with
   | none=>
    have e2:pS free c v=0:=by unfold pS;rw[h2]
    have g2:=uD h2 hr;simp only;rw[lU h (dF h1).1 (dF h1).1,e1,e2,if_neg g2];by_cases e:r=i
    ·rw[if_pos e,if_pos (g1.2 e),e];grind
    ·rw[if_neg e,if_neg (fun e3=>e (g1.1 e3))];grind
   | some j=>
    have e2:pS free c v=c j:=by unfold pS;rw[h2]
    have g2:=nO hn h2 hr;have li:=(dF h1).1;have lj:=(dF h2).1;have a1:=h.add li li hb;have a2:=a1.add lj lj hb;have a3:=a2.add li lj X8;simp only;rw[lU a3 lj li,lU a2 li lj,lU a1 lj lj,lU h li li,e1,e2];by_cases e:r=i
    ·have rV:r≠j:=fun e3=>RT (((g1.2 e).symm.trans (g2.2 e3)))
     rw[if_pos e,if_neg rV,if_pos e,if_neg rV,if_pos (g1.2 e),if_neg (fun e3=>rV (g2.1 e3))];grind
    ·rw[if_neg e,if_neg e,if_neg (fun e3=>e (g1.1 e3))]
     by_cases e3:r=j
     ·rw[if_pos e3,if_pos e3,if_pos (g2.2 e3)]
      grind
     ·rw[if_neg e3,if_neg e3,if_neg (fun e4=>e3 (g2.1 e4))]
      grind
def vE(x:bP)(E:Nat->Rat)(f:Nat):List Br->Rat
 | []=>0
 | b::r=>gD b*(two (aA x b.fr) (aA x b.to) f*(E (aA x b.fr)-E (aA x b.to)))+vE x E f r
theorem EZ{x:bP}(hn:free.Nodup)(c:Fn)(hr:free[r]?=some f):∀(bs:List Br)(K:Nat) (A:List (List Rat)),(∀b∈bs,bM (gD b)<=1)->fE free.length K A->
    a_ free.length (vf ((sH free (bs.map gD) (bs.map fun b=>aA x b.fr) (bs.map fun b=>aA x b.to) A).getD r [])) c=a_ free.length (vf (A.getD r [])) c+vE x (pS free c) f bs/\∃K',fE free.length K' (sH free (bs.map gD) (bs.map fun b=>aA x b.fr) (bs.map fun b=>aA x b.to) A)
 | [],K,A,_,h=>⟨(Rat.add_zero _).symm,K,h⟩
 | b::bs,K,A,hq,h=>by
  have hb:=hq b (by simp);have ih:=EZ (x:=x) hn c hr bs (K+8) (eX free A (gD b) (aA x b.fr) (aA x b.to)) (fun a ha=>hq a (by simp[ha])) (tC h hb);simp only[List.map_cons];unfold sH vE;refine⟨?_,ih.2⟩;rw[ih.1,KN hn h hb c hr];grind
theorem KO:∀(bs:List Br)(K:Nat) (A:List (List Rat)),(∀b∈bs,bM (gD b)<=1)->fE free.length K A->∃K',fE free.length K' (sH free (bs.map gD) (bs.map fun b=>aA x b.fr) (bs.map fun b=>aA x b.to) A)
 | [],K,A,_,h=>⟨K,h⟩
 | b::bs,K,A,hq,h=>KO bs (K+8) _ (fun a ha=>hq a (by simp[ha])) (tC h (hq b (by simp)))
theorem aA2{b:Br}(h:b.bad=false):0<gD b:=by
 obtain⟨h1,-,h3⟩:=aE7 h;unfold gD;rw[h3];generalize (b.x*b.tap).toNat=d at *;have hd:(0:Rat)<(((d:Nat):Int):Rat):=Rat.intCast_pos.2 (by omega);have e:Rat.divInt 1000000 ((d:Nat):Int)*(((d:Nat):Int):Rat)=1000000:=by
  rw[Rat.divInt_eq_div];exact Rat.div_mul_cancel (fun e=>by rw[e] at hd;exact absurd hd (by decide))
 rcases Rat.le_total (a:=Rat.divInt 1000000 ((d:Nat):Int)) (b:=0) with FW | FW
 ·exfalso
  have h4:=Rat.mul_le_mul_of_nonneg_right FW (Rat.le_of_lt hd);rw[e,Rat.zero_mul] at h4;exact absurd h4 (by decide)
 ·rcases Rat.le_iff_lt_or_eq.1 FW with h4 | h4
  ·exact h4
  ·rw[<-h4,Rat.zero_mul] at e
   exact absurd e (by decide)
section
variable {x:bP}
theorem o8:(aG x).Nodup:=by
 unfold aG iB;exact List.nodup_range.filter _
theorem ZR(ok:cH x):∃K,fE (aG x).length K (kR x):=by
 unfold kR;rw[(nT x).1,(nT x).2];exact KO x.brs 3 _ (fun b hb=>oR (ok.br b hb).2.2.2) (zP _)
theorem m7(ok:cH x):(kR x).length=(aG x).length:=by obtain⟨K,h⟩:=ZR ok;exact h.len
theorem zO(ok:cH x):∀a∈kR x,a.length=(kR x).length:=by obtain⟨K,h⟩:=ZR ok;rw[h.len];exact h.wid
theorem PP(ok:cH x)(c:Fn)(hr:(aG x)[r]?=some f):a_ (aG x).length (vf ((kR x).getD r [])) c=vE x (pS (aG x) c) f x.brs:=by
 have h:=(EZ (x:=x) o8 c hr x.brs 3 (qS (aG x).length) (fun b hb=>oR (ok.br b hb).2.2.2) (zP _)).1;unfold kR;rw[(nT x).1,(nT x).2,show mB x=x.brs.map gD from rfl,h];have e:a_ (aG x).length (vf ((qS (aG x).length).getD r [])) c=0:=cD fun i _=>by
  unfold qS;rw[dQ,List.getElem?_replicate,if_pos (c_.1 hr).1];simp only[Option.getD_some];rw[show vf (List.replicate (aG x).length 0) i=0 from UD _ i,Rat.zero_mul]
 rw[e,Rat.zero_add]
theorem PN(c:Fn)(u:Nat):aP (aG x).length (fun i=>(if(aG x).getD i 0=u then 1 else 0)*c i)=pS (aG x) c u:=by
 have R4:∀i,i<(aG x).length->(aG x)[i]?=some ((aG x).getD i 0):=fun i hi=>by rw[dQ,jP hi];rfl
 unfold pS;cases h:wK (aG x) u with
 | none=>exact cD fun i hi=>by rw[if_neg (uD h (R4 i hi)),Rat.zero_mul]
 | some k=>
  have hk:=dF h;rw[dR hk.1 (fun i hi cK=>by rw[if_neg (fun e=>cK ((nO o8 h (R4 i hi)).1 e)),Rat.zero_mul]),if_pos ((nO o8 h (R4 k hk.1)).2 rfl),Rat.one_mul]
theorem aCm(c:Fn)(u v:Nat):aP (aG x).length (fun i=>two u v ((aG x).getD i 0)*c i)=pS (aG x) c u-pS (aG x) c v:=by
 rw[<-PN,<-PN,<-wB];exact aO fun i _=>by unfold two;grind
def t_(x:bP)(E:Nat->Rat):List Br->Rat
 | []=>0
 | b::r=>gD b*((E (aA x b.fr)-E (aA x b.to))*(E (aA x b.fr)-E (aA x b.to)))+t_ x E r
theorem EY(c:Fn):∀bs:List Br,aP (aG x).length (fun i=>c i*vE x (pS (aG x) c) ((aG x).getD i 0) bs)=t_ x (pS (aG x) c) bs
 | []=>cD fun i _=>Rat.mul_zero _
 | b::r=>by
  unfold t_;rw[<-EY c r];have h1:=aCm (x:=x) c (aA x b.fr) (aA x b.to);generalize hd:pS (aG x) c (aA x b.fr)-pS (aG x) c (aA x b.to)=d at *;have h2:gD b*(d*d)=aP (aG x).length fun i=>(gD b*d)*(two (aA x b.fr) (aA x b.to) ((aG x).getD i 0)*c i):=by
   rw[eC,h1];grind
  rw[h2,<-cM];refine aO fun i _=>?_;rw[show vE x (pS (aG x) c) ((aG x).getD i 0) (b::r)=gD b*(two (aA x b.fr) (aA x b.to) ((aG x).getD i 0)*(pS (aG x) c (aA x b.fr)-pS (aG x) c (aA x b.to)))+vE x (pS (aG x) c) ((aG x).getD i 0) r from rfl,hd];clear h1 h2 hd;generalize vE x (pS (aG x) c) ((aG x).getD i 0) r=z;generalize two (aA x b.fr) (aA x b.to) ((aG x).getD i 0)=t;grind
theorem IT(E:Nat->Rat):∀bs:List Br,(∀b∈bs,0<gD b)->0<=t_ x E bs/\(t_ x E bs=0->∀b∈bs,E (aA x b.fr)=E (aA x b.to))
 | [],_=>⟨Rat.le_refl,fun _ b hb=>by simp at hb⟩
 | b::r,h=>by
  obtain⟨h1,h2⟩:=IT E r fun a ha=>h a (by simp[ha]);have hb:=h b (by simp);unfold t_;generalize hd:E (aA x b.fr)-E (aA x b.to)=d;have h3:0<=gD b*(d*d):=Rat.mul_nonneg (Rat.le_of_lt hb) (aCU d);refine⟨Rat.add_nonneg h3 h1,fun h0=>?_⟩;have h4:gD b*(d*d)=0/\t_ x E r=0:=by
   rcases Rat.le_iff_lt_or_eq.1 h3 with e | e
   ·exfalso
    have h5:0<gD b*(d*d)+t_ x E r:=by grind
    rw[h0] at h5;exact absurd h5 (by decide)
   ·rw[<-e,Rat.zero_add] at h0
    exact⟨e.symm,h0⟩
  intro a ha;rcases List.mem_cons.1 ha with rfl | ha
  ·rcases Rat.mul_eq_zero.1 h4.1 with e | e
   ·rw[e] at hb;exact absurd hb (by decide)
   ·have:d=0:=by rcases Rat.mul_eq_zero.1 e with e | e<;>exact e
    rw[this] at hd;grind
  ·exact h2 h4.2 a ha
theorem IZ{u:Nat}(c:Fn)(h:dG (dN x) u=false):pS (aG x) c u=0:=by
 unfold pS;cases hp:wK (aG x) u with
 | none=>rfl
 | some i=>
  have:=(zE (p:=dG (dN x)) (n:=aN x) (dF hp).2).1;rw[h] at this;cases this
theorem KL(c:Fn)(h:(aG x)[i]?=some f):pS (aG x) c f=c i:=by
 unfold pS;cases hp:wK (aG x) f with
 | none=>exact absurd rfl (uD hp h)
 | some k=>
  have:=(nO o8 hp h).1 rfl;rw[this]
theorem VL(ok:cH x){E:Nat->Rat}(he:∀b∈x.brs,E (aA x b.fr)=E (aA x b.to))(h0:∀u,dG (dN x) u=false->E u=0):∀u,u<aN x->E u=0:=by
 have hx:=(tA ok).1;have hee:∀p∈GA x,E p.1=E p.2:=fun p hp=>by
  unfold GA at hp;obtain⟨b,hb,rfl⟩:=List.mem_map.1 hp;exact he b hb
 have FY:(dN x).length=aN x:=(qK ok).2;have hD:∀u,u<aN x->(((dN x).getD u 0:Nat):Int)=(mQ x).getD u 0:=fun u hu=>by
  have h:=congrArg (fun l:List Int=>l[u]?) (qK ok).1;simp only[eV,pL] at h;rw[jP (by omega)] at h;rw[dQ,jP (by omega),dQ,<-h];rfl
 intro u
 induction u using Nat.strongRecOn with
 | _ u ih=>
  intro hu;cases hf:dG (dN x) u with
  | false=>exact h0 u hf
  | true=>
   unfold dG aBw at hf;rw[Bool.not_not,List.any_eq_true] at hf;obtain⟨a,ha,hs⟩:=hf;have hau:a<u:=List.mem_range.1 ha;unfold FE at hs;have hs':(dN x).getD a 0=(dN x).getD u 0:=by simpa using hs
   rw[<-ih a hau (by omega)];refine(AM hx hee (by omega) hu ?_).symm;show(mQ x).getD a 0=(mQ x).getD u 0;rw[<-hD a (by omega),<-hD u hu,hs']
theorem PO(ok:cH x):Reg (kR x):=by
 rw[aBf (zO ok),m7 ok];intro c hc j hj;rw[oY] at hc;have R4:∀i,i<(aG x).length->(aG x)[i]?=some ((aG x).getD i 0):=fun i hi=>by rw[dQ,jP hi];rfl
 have h1:∀i,i<(aG x).length->vE x (pS (aG x) c) ((aG x).getD i 0) x.brs=0:=fun i hi=>by
  rw[<-PP ok c (R4 i hi)];obtain⟨a,ha⟩:∃a,(kR x)[i]?=some a:=eG (by rw[m7 ok];exact hi);rw[dQ,ha];exact hc i a ha
 have h2:t_ x (pS (aG x) c) x.brs=0:=by
  rw[<-EY];exact cD fun i hi=>by rw[h1 i hi,Rat.mul_zero]
 have h3:=(IT (pS (aG x) c) x.brs fun b hb=>aA2 (ok.br b hb).2.2.2).2 h2;have hjf:=R4 j hj;rw[<-KL c hjf];exact VL ok h3 (fun u hu=>IZ c hu) _ (zE (p:=dG (dN x)) (n:=aN x) hjf).2.1
theorem aBz(ok:cH x):RJ x:=by
 have:=PO ok;unfold Reg at this;rw[m7 ok] at this;exact this
theorem FR(ok:cH x):rT x=wY (kR x):=by
 unfold rT wY;rw[m7 ok]
theorem qL(ok:cH x):(rT x).length=(aG x).length/\∀a∈rT x,a.length=(aG x).length:=by
 have h:=WV (zO ok);rw[FR ok,<-m7 ok];exact h
end
end
section
open Go.ChangeShapes Go.WideShapes Go.ChangeAt Go.RowKit
attribute [local go_sem ↓] aE
attribute [local go_sem] aJ aI aL aX
def bN(x:bP)(al:List Rat):List Rat:=x.brs.map fun b=>gD b*(vf al (aA x b.fr)-vf al (aA x b.to))+mS b
def aF2(x:bP)(al:List Rat)(w:Wo)(e:Ending)(w':Wo):Prop:=Below w.heap.size w w'/\∃v us,e=.returned v/\dD w' w.heap.size v us (bN x al)
theorem SC(g:Nat)(m:jN)(y:Value)(x:bP)(ok:cH x)(A:OA)(n c:Nat)(al:List Rat)(w:Wo)(hg:aD w g 131 (m.cells y))(hr:fN w w.heap.size m x)(hq:hO w w.heap.size A n al)(hn:n=aN x)(hz:∀q∈al,bM q<=100000000000):Calls Tryz.prog 44 #[.pointer (some ⟨g,0,none⟩),.slice A n c] w (aF2 x al w):=by
 obtain⟨HG,HR,HQ,cL,HAZ⟩:=mP hg hr hq ok hz;have PZ:=lH hn;have pT:Hid (al.length=n):=lH hq.len;have pK:Hid (x.brs.length=m.n4):=lH (by rw[<-wT];exact hr.r4.len);have LH:Hid (x.brs.length=m.n5):=lH (by rw[<-ML];exact hr.r5.len);have e_:Hid (x.brs.length=m.n2):=lH (by rw[<-nS,<-kO];exact hr.r2.len);have xJ:Hid (x.brs.length=m.n3):=lH (by rw[<-uJ,<-kO];exact hr.r3.len);have aCN:Hid (x.brs.length<=1000):=lH (by have:=ok.l2;omega);obtain⟨A0,n0,c0,A1,n1,c1,A2,n2,c2,A3,n3,c3,A4,n4,c4,A5,n5,c5,A6,n6,c6⟩:=m;simp only[jN.cells] at HG pK LH e_ xJ;have e4:=pK.o;have e5:=LH.o;have e2:=e_.o;have e3:=xJ.o;subst e4;subst e5;subst e2;subst e3;clear hg hr hq ok hz hn;have y5:=HG.o.cell 5;have yl:=HG.o.lt;go_enter Tryz.func44,Tryz.ntmps44
 go_wp2_with fail
 clear y5 yl
 go_loopw [5,13] (fun v5 v13 wr=>∃(k:Nat)(us:List Rv),k<=x.brs.length/\v13=.int .i64 k/\dD wr w.heap.size v5 us ((bN x al).take k)/\Below w.heap.size w wr) (fun _ v13 _=>x.brs.length-(intOf v13).toNat)
 case atStart=>exact⟨0,[],by omega,rfl,lO _ _,bR⟩
 case round=>
  obtain⟨k,us,hk,rfl,ho,hb⟩:=hrel;have HO:=lH ho;have HB:=lH hb;clear ho hb;by_cases aR:k<x.brs.length
  ·obtain⟨b,xA⟩:∃b,x.brs[k]?=some b:=⟨_,jP aR⟩
   obtain⟨a1,a2,a3,a4⟩:=AU xA;have KT:Hid ((bN x al).take (k+1)=(bN x al).take k++[gD b*(vf al (aA x b.fr)-vf al (aA x b.to))+mS b]):=lH (kF (by unfold bN;rw[pL,xA];rfl));have rX:=cS xA;have hj1:aA x b.fr<n:=by rw[PZ.o];exact(bT cL.o (cL.o.br b rX).1).2.1
   have hj2:aA x b.to<n:=by rw[PZ.o];exact(bT cL.o (cL.o.br b rX).2.1).2.1
   have vK:=(HR.o.up HB.o).r5;simp only at vK;obtain⟨db,do',hA5,hdb⟩:=vK.form (by omega);subst hA5;obtain⟨xc,p0,p1,p2,p3,p4⟩:=vK.at_ a4;have iM:(k:Int)<(x.brs.length:Int):=by omega
   have pX:=lZ k;have FX:=oL k;have yC:=lN k;have p5:Hid (x.brs.length-(k+1)<x.brs.length-k):=lH (by omega);have Z2:=lH p4;clear p4 vK xA;(go_upto_region 5 with fail);clear p0 p1 p2 p3 hdb;have hz:=vM wr (.cells #[.bool xc.b1,.slice xc.A xc.n xc.c,.bool xc.b2,.slice xc.A2 xc.m xc.d] 87);have TE:=lH (aD.new wr 87 #[.bool xc.b1,.slice xc.A xc.n xc.c,.bool xc.b2,.slice xc.A2 xc.m xc.d]);replace HO:=lH (HO.o.keep hz);replace Z2:=lH (Z2.o.up hz);have LK:=bX HB hz;clear hz HB;generalize wr.alloc (.cells #[.bool xc.b1,.slice xc.A xc.n xc.c,.bool xc.b2,.slice xc.A2 xc.m xc.d] 87)=wa at *;generalize wr.heap.size=gq at *;have HQa:=lH (HQ.o.bm LK.o);have HGa:=lH (HG.o.bl LK.o);have pH:=HR.o.up LK.o;have EB:=pH.r4;have uS:=pH.r2;have w_:=pH.r3;simp only at EB uS w_;obtain⟨bb,bo,hA4,pY⟩:=EB.form (by omega);subst hA4;obtain⟨xb,b0,b1,b2,b3,b4⟩:=EB.at_ a3;obtain⟨fb,fo,R_,yN,-⟩:=uS.2 (by omega);subst R_;have f0:=uS.at_ (lC a1);obtain⟨tb,to',hA3,htb,-⟩:=w_.2 (by omega);subst hA3;have t0:=w_.at_ (lC a2);obtain⟨ab,ao,hA,iI⟩:=HQa.o.form (by omega);subst hA;obtain⟨x1,u0,u1,u2,u3,u4⟩:=HQa.o.at_ (bZ (i:=aA x b.fr) (by rw[pT.o];exact hj1));obtain⟨x2,w0,w1,w2,w3,w4⟩:=HQa.o.at_ (bZ (i:=aA x b.to) (by rw[pT.o];exact hj2));obtain⟨HXB,dE,eT⟩:=eR b4 u4 w4;have y2:=HGa.o.cell 2;have y3:=HGa.o.cell 3;have y4:=HGa.o.cell 4;have yl:=HGa.o.lt;obtain⟨z0,z1,z2,z3,zl⟩:=TE.o.b4;have i1:((aA x b.fr:Nat):Int)<(n:Int):=by omega
   have i10:(0:Int)<=((aA x b.fr:Nat):Int):=by omega
   have i1n:((aA x b.fr:Nat):Int).toNat=aA x b.fr:=oL _;have i2:((aA x b.to:Nat):Int)<(n:Int):=by omega
   have i20:(0:Int)<=((aA x b.to:Nat):Int):=by omega
   have i2n:((aA x b.to:Nat):Int).toNat=aA x b.to:=oL _;have HBB:=lH (cL.o.br b rX).2.2.2;have nC:Hid (bM (vf al (aA x b.fr))+bM (vf al (aA x b.to))+1<=200000000001):=lH (by
    have h1:=HAZ.o _ (cS (bZ (l:=al) (i:=aA x b.fr) (by rw[pT.o];exact hj1)));have h2:=HAZ.o _ (cS (bZ (l:=al) (i:=aA x b.to) (by rw[pT.o];exact hj2)));omega)
   have jR:Hid (bM (gD b)+bM (vf al (aA x b.fr)-vf al (aA x b.to))+1<=200000000010):=lH (by
    have h1:=nC.o;have h2:=FB (vf al (aA x b.fr)) (vf al (aA x b.to));have h3:=oR HBB.o;omega)
   have HS3:Hid (bM (gD b*(vf al (aA x b.fr)-vf al (aA x b.to)))+bM (mS b)+1<=200000000020):=lH (by
    have h1:=jR.o;have h2:=mV (gD b) (vf al (aA x b.fr)-vf al (aA x b.to));have h3:=u_ HBB.o;omega)
   have bH:=lH (aH (Below.refl wa.heap.size wa));clear b4 u4 w4 pH EB uS w_ hj1 hj2 rX a1 a2 a3 a4;refine fX (S:=fun w'=>Below wa.heap.size wa w') 33 _ _ (by kernel_rfl) (by kernel_rfl) (by kernel_rfl) rfl rfl (aH bR) (fun hHeld=>?_);simp only[oO,List.take_zero];refine d7 [0,1,2,3,4,5,6,7,8,9,10,11,12,13,14,15,16,17,18,19,20,21,22,23,24,25,26,27,30] ?_;clear y2 y3 y4 yl z0 z1 z2 z3 zl b0 b1 b2 b3 f0 t0 u0 u1 u2 u3 w0 w1 w2 w3 pY yN htb iI i1 i10 i1n i2 i20 i2n;refine bI 28 (fun K hK=>?_);go_simp;refine(UT (dE.o.up bH.o) (eT.o.up bH.o) (eN nC.o (by decide))).mono ?_;rintro e w5 ⟨eS,r5,rfl,h5⟩;have dK:Hid (Below wa.heap.size wa w5):=lH (bH.o.tm eS);have H5:=lH h5;clear eS h5;go_simp;refine iJ hK dK.o (fun hHeld=>?_);clear hK K;refine bI 29 (fun K hK=>?_);go_simp;refine(WG (HXB.o.up dK.o) H5.o (eN jR.o (by decide))).mono ?_;rintro e w6 ⟨eE,r6,rfl,h6⟩;have d6:Hid (Below wa.heap.size wa w6):=lH (dK.o.tm eE);have H6:=lH h6;clear eE h6;go_simp;refine iJ hK d6.o (fun hHeld=>?_);clear hK K;refine bI 31 (fun K hK=>?_);go_simp;refine(B5 H6.o (Z2.o.up d6.o) (eN HS3.o (by decide))).mono ?_;rintro e w7 ⟨fR,r7,rfl,h7⟩;have gN:Hid (Below wa.heap.size wa w7):=lH (d6.o.tm fR);have H7:=lH h7;clear fR h7;go_simp;refine iJ hK gN.o (fun hHeld=>?_);clear hK K;refine bI 32 (fun K hK=>?_);go_simp;have vJ:=lH (aD.new w7 87 #[.bool r7.b1,.slice r7.A r7.n r7.c,.bool r7.b2,.slice r7.A2 r7.m r7.d]);have kS:=vM w7 (.cells #[.bool r7.b1,.slice r7.A r7.n r7.c,.bool r7.b2,.slice r7.A2 r7.m r7.d] 87);have hX:Hid (Below wa.heap.size wa (w7.alloc (.cells #[.bool r7.b1,.slice r7.A r7.n r7.c,.bool r7.b2,.slice r7.A2 r7.m r7.d] 87))):=lH (gN.o.tm kS);replace H7:=lH (H7.o.up kS);clear kS;generalize w7.alloc (.cells #[.bool r7.b1,.slice r7.A r7.n r7.c,.bool r7.b2,.slice r7.A2 r7.m r7.d] 87)=w8 at *;generalize w7.heap.size=gb at *;refine iJ hK hX.o (fun hHeld=>?_);clear hK K;refine fZ ?_;have HK6:Hid (((bN x al).take k).length<=1000000):=lH (by rw[kC];have:=aCN.o;omega);refine T_ (.tmp 18) (.tmp 50) _ rfl w.heap.size Tryz.underlying96 _ us _ rfl (HO.o.keep hX.o) r7 _ H7.o gb _ rfl vJ.o HK6.o (eN LK.o.size hX.o.size) ?_;intro v' w9 bB hkp hob;have T2:=lH bB;have eU:=lH ((LK.o.tm hX.o).trans hkp.low);clear bB hkp hob hHeld;refine cJ (by rfl) ?_;have X6:=aCN.o;(go_wp2_with fail);go_roundw
   case rel=>exact⟨k+1,us++[r7],aR,aM yC.o,by rw[KT.o];exact T2.o,eU.o⟩
   case measure=>exact p5.o
  ·have pP:k=x.brs.length:=by omega
   have HOE:Hid (dD wr w.heap.size u5 us (bN x al)):=lH (by
    have h:=HO.o;rw[oP (by unfold bN;rw[kJ];omega)] at h;exact h)
   have iM:¬(k:Int)<(x.brs.length:Int):=by omega
   (go_wp2_with fail);go_ret;exact⟨HB.o,_,_,rfl,HOE.o⟩
end
section
open Go.ChangeShapes Go.WideShapes Go.ChangeAt Go.RowKit
theorem G6{x:Int}(h1:-9223372036854775808<=x)(h2:x<=9223372036854775807):IntKind.i64.wrap x=x:=Go.IntWalk.i64_in _ (by omega)
theorem aEM(hs:List Hd):∀u∈hs.map Hd.val,u.oneCell'=true/\tQ u:=fun u hu=>by
 obtain⟨h,_,rfl⟩:=List.mem_map.1 hu;exact⟨rfl,fun k x e=>by cases e⟩
theorem Rd.heads{B:Nat}{off:Nat}{hs:List Hd}(h:Rd w B 1 (some ⟨b,off,none⟩) n (hs.map Hd.val))(i m:Nat)(him:i+m<=n):Rd w B 1 (some ⟨b,off+i,none⟩) m (((hs.drop i).take m).map Hd.val):=by
 have hl:=h.1;rw[kJ] at hl;refine⟨by rw[kJ,kC,G5];omega,fun h0=>?_⟩;obtain⟨b',off',e,aR,hc⟩:=h.2 (by omega);injection e with e;injection e with e1 e2;subst e1;subst e2;refine⟨b,off+i,rfl,aR,fun j u hu=>?_⟩;rw[List.map_take,List.map_drop] at hu;have hj:=(c_.1 hu).1;rw[kC] at hj;rw[List.getElem?_take_of_lt (by omega),List.getElem?_drop] at hu;have:=hc (i+j) u hu;rwa[<-Nat.add_assoc] at this
theorem Rd.tail{B:Nat}{off:Nat}{hs:List Hd}(h:Rd w B 1 (some ⟨b,off,none⟩) n (hs.map Hd.val))(hc:n<=c)(hi:i<=n):Rd w B 1 (if c=i then some ⟨b,off,none⟩ else some ⟨b,off+i,none⟩) (n-i) ((hs.drop i).map Hd.val):=by
 have hl:=h.1;rw[kJ] at hl;have h2:=h.heads i (n-i) (by omega);rw[oP (by rw[G5];omega)] at h2;by_cases X0:c=i
 ·refine⟨h2.1,fun h0=>by omega⟩
 ·rw[if_neg X0];exact h2
def Hds(w:Wo)(hs:List Hd)(M:List (List Rat)):Prop:=hs.length=M.length/\∀(i:Nat)(h:Hd)(q:List Rat),hs[i]?=some h->M[i]?=some q->hO w w.heap.size h.A h.n q/\h.n<=h.c/\h.c<=maxLen
theorem Hds.up{hs:List Hd}(h:Hds w hs M)(hb:Below w.heap.size w w'):Hds w' hs M:=⟨h.1,fun i a q hh hq=>⟨((h.2 i a q hh hq).1.below hb lR).more hb.size,(h.2 i a q hh hq).2⟩⟩
theorem Hds.cut{hs:List Hd}(h:Hds w hs M)(k:Nat):Hds w (BQ hs k) (BQ M k):=by
 refine⟨by unfold BQ;simp[h.1],fun i a q hh hq=>?_⟩;rw[NJ] at hh hq;rw[h.1] at hh;split at hh
 ·rw[if_pos ‹_›] at hq;exact h.2 _ _ _ hh hq
 ·rw[if_neg ‹_›] at hq
  split at hh
  ·rw[if_pos ‹_›] at hq;exact h.2 _ _ _ hh hq
  ·cases hh
theorem lV.hds(h:lV w w.heap.size A n M):∃hs:List Hd,hs.length=n/\Rd w w.heap.size 1 A n (hs.map Hd.val)/\Hds w hs M:=by
 obtain⟨hs,h1,h2,h3,h4⟩:=h;exact⟨hs,h1,h3,h1.trans h2.symm,h4⟩
end
section
def kA(x:bP)(ps:List Int):Nat->Nat->Int
 | 0,_=>0
 | i+1,j=>kA x ps i j+if fL x i=j then ps.getD i 0 else 0
def pJ(x:bP)(ps:List Int)(i:Nat):List Int:=(List.range (aN x)).map (kA x ps i)
theorem nY:(pJ x ps i).length=aN x:=by simp[pJ]
theorem nZ(h:j<aN x):(pJ x ps i)[j]?=some (kA x ps i j):=by
 unfold pJ;rw[pL,List.getElem?_range h];rfl
theorem NP:pJ x ps 0=List.replicate (aN x) 0:=by
 refine List.eq_replicate_iff.2 ⟨nY,fun b hb=>?_⟩;obtain⟨j,-,rfl⟩:=List.mem_map.1 hb;rfl
theorem SS{p:Int}(hp:ps[i]?=some p)(h:fL x i<aN x):(pJ x ps i).set (fL x i) (kA x ps i (fL x i)+p)=pJ x ps (i+1):=by
 apply List.ext_getElem?;intro j;rw[List.getElem?_set,nY];have hg:ps.getD i 0=p:=by rw[dQ,hp];rfl
 by_cases e:fL x i=j
 ·subst e
  rw[if_pos rfl,if_pos h,nZ h];unfold kA;rw[if_pos rfl,hg];cases i<;>rfl
 ·rw[if_neg e]
  by_cases hj:j<aN x
  ·rw[nZ hj,nZ hj]
   congr 1
   show _=kA x ps i j+_;rw[if_neg e,Int.add_zero]
  ·rw[List.getElem?_eq_none (by rw[nY];omega),List.getElem?_eq_none (by rw[nY];omega)]
theorem BV{x:bP}(hz:∀p∈ps,-100000<=p/\p<=100000):∀i j:Nat,-(100000*(i:Int))<=kA x ps i j/\kA x ps i j<=100000*(i:Int)
 | 0,j=>by unfold kA;omega
 | i+1,j=>by
  have ih:=BV (x:=x) hz i j;have hp:-100000<=ps.getD i 0/\ps.getD i 0<=100000:=by
   rw[dQ];cases h:ps[i]? with
   | none=>exact⟨by decide,by decide⟩
   | some p=>exact hz p (cS h)
  unfold kA;split<;>omega
def pN(x:bP)(ps:List Int):List Rat:=(pJ x ps ps.length).map fun z:Int=>((z:Int):Rat)
theorem qM:(pN x ps).length=aN x:=by unfold pN;rw[kJ,nY]
theorem aBG(h:j<aN x):vf (pN x ps) j=((kA x ps ps.length j:Int):Rat):=sA (by unfold pN;rw[pL,nZ h];rfl)
theorem WW(hz:∀p∈ps,-100000<=p/\p<=100000)(hl:ps.length<=24):∀q∈pN x ps,bM q<=2:=fun q hq=>by
 unfold pN at hq;obtain⟨z,hz',rfl⟩:=List.mem_map.1 hq;unfold pJ at hz';obtain⟨j,-,rfl⟩:=List.mem_map.1 hz';have:=BV (x:=x) hz ps.length j;exact lM _ (by omega) (by omega)
def wW(x:bP)(l:List Rat)(b:Br):List Rat:=l.set (aA x b.fr) (vf l (aA x b.fr)-mS b)
def MN(x:bP)(l:List Rat)(b:Br):List Rat:=l.set (aA x b.to) (vf l (aA x b.to)+mS b)
def iS(x:bP)(qs:List Rat)(k:Nat):List Rat:=(x.brs.take k).foldl (fun l b=>MN x (wW x l b) b) qs
theorem uN{l:List Rat}{b:Br}:(wW x l b).length=l.length:=by unfold wW;rw[jI]
theorem WO{l:List Rat}{b:Br}:(MN x l b).length=l.length:=by unfold MN;rw[jI]
theorem uK:iS x qs 0=qs:=by unfold iS;rw[List.take_zero];rfl
theorem uL{b:Br}(h:x.brs[k]?=some b):iS x qs (k+1)=MN x (wW x (iS x qs k) b) b:=by
 unfold iS;rw[kF h,List.foldl_append];rfl
theorem uM:∀k:Nat,k<=x.brs.length->(iS x qs k).length=qs.length
 | 0,_=>by rw[uK]
 | k+1,h=>by
  obtain⟨b,hb⟩:∃b,x.brs[k]?=some b:=eG (by omega);rw[uL hb,WO,uN,uM k (by omega)]
theorem I6{l:List Rat}{b:Br}{Z:Nat}(h:∀q∈l,bM q<=Z)(hu:aA x b.fr<l.length)(hb:b.bad=false):∀q∈wW x l b,bM q<=Z+3:=fun q hq=>by
 unfold wW at hq;rcases List.mem_or_eq_of_mem_set hq with e | e
 ·have:=h q e;omega
 ·have h1:=FB (vf l (aA x b.fr)) (mS b)
  have h2:=h _ (cS (bZ hu));have h3:=u_ hb;rw[e];omega
theorem WN{l:List Rat}{b:Br}{Z:Nat}(h:∀q∈l,bM q<=Z)(hu:aA x b.to<l.length)(hb:b.bad=false):∀q∈MN x l b,bM q<=Z+3:=fun q hq=>by
 unfold MN at hq;rcases List.mem_or_eq_of_mem_set hq with e | e
 ·have:=h q e;omega
 ·have h1:=lI (vf l (aA x b.to)) (mS b)
  have h2:=h _ (cS (bZ hu));have h3:=u_ hb;rw[e];omega
theorem FS{x:bP}(ok:cH x){qs:List Rat}(hl:qs.length=aN x){Z:Nat}(h:∀q∈qs,bM q<=Z):∀k:Nat,k<=x.brs.length->∀q∈iS x qs k,bM q<=Z+6*k
 | 0,_=>by rw[uK];exact h
 | k+1,hk=>by
  obtain⟨b,hb⟩:∃b,x.brs[k]?=some b:=eG (by omega);have rX:=ok.br b (cS hb);have h1:=uM (x:=x) (qs:=qs) k (by omega);have h2:=I6 (x:=x) (b:=b) (FS ok hl h k (by omega)) (by rw[h1,hl];exact(bT ok rX.1).2.1) rX.2.2.2;have h3:=WN (x:=x) (b:=b) h2 (by rw[uN,h1,hl];exact(bT ok rX.2.1).2.1) rX.2.2.2;rw[uL hb];intro q hq;have:=h3 q hq;omega
def mN(x:bP)(lf:List Rat):List Rat:=(aG x).map (vf lf)
def pM(x:bP)(lf:List Rat):Fn:=fun i=>JY ((rT x).getD i []) (mN x lf)
def FD(x:bP)(lf:List Rat):List Rat:=sS (aG x) (pM x lf) (CQ (aN x)) (aG x).length
theorem IH:(FD x lf).length=aN x:=by unfold FD;rw[uO];exact pV
theorem aFa(ok:cH x):∃K,K<=3+8*x.brs.length/\fE (aG x).length K (kR x):=by
 have key:∀(bs:List Br)(K:Nat) (A:List (List Rat)),(∀b∈bs,bM (gD b)<=1)->fE (aG x).length K A->∃K',K'<=K+8*bs.length/\fE (aG x).length K' (sH (aG x) (bs.map gD) (bs.map fun b=>aA x b.fr) (bs.map fun b=>aA x b.to) A):=by
  intro bs
  induction bs with
  | nil=>exact fun K A _ h=>⟨K,by simp,h⟩
  | cons b bs ih=>
   intro K A hq h;obtain⟨K',h1,h2⟩:=ih (K+8) _ (fun a ha=>hq a (by simp[ha])) (tC h (hq b (by simp)));exact⟨K',by rw[G4];omega,h2⟩
 obtain⟨K',h1,h2⟩:=key x.brs 3 (qS (aG x).length) (fun b hb=>oR (ok.br b hb).2.2.2) (zP _);refine⟨K',h1,?_⟩;unfold kR;rw[(nT x).1,(nT x).2];exact h2
theorem I5(ok:cH x)(h8:x.nodes.length<=8):∀a∈rT x,∀q∈a,bM q<=20000000:=fun a ha q hq=>by
 obtain⟨K,h1,h2⟩:=aFa ok;rw[FR ok] at ha;have h3:=aEb (M:=kR x) (b:=K+3) (zO ok) (h2.bd.mono (by omega)) (by omega) a ha q hq;rw[h2.len] at h3;have h4:4^(aG x).length<=4^8:=Nat.pow_le_pow_right (by decide) (rI ok h8);have h5:K+3<=198:=by have:=ok.l2;omega
 have h6:4^(aG x).length*(K+3)<=4^8*198:=Nat.mul_le_mul h4 h5;omega
theorem UY(ok:cH x)(h8:x.nodes.length<=8)(hl:lf.length=aN x)(hq:∀q∈lf,bM q<=20000000)(hi:i<(aG x).length):bM (pM x lf i)<=400000000:=by
 have hn:=rI ok h8;obtain⟨a,ha⟩:∃a,(rT x)[i]?=some a:=eG (by rw[(qL ok).1];exact hi);have DB:=(qL ok).2 a (cS ha);have hr:∀q∈mN x lf,bM q<=20000000:=fun q h=>by
  unfold mN at h;obtain⟨f,hf,rfl⟩:=List.mem_map.1 h;exact hq _ (cS (bZ (by rw[hl];exact BI hf)))
 have h:=JX (ys:=mN x lf) DB (I5 ok h8 a (cS ha)) hr (aG x).length lR;rw[oP (by rw[List.length_zipWith];omega)] at h;unfold pM;rw[dQ,ha];show bM (cO _)<=_;have:(aG x).length*(2*20000000+1)<=8*(2*20000000+1):=Nat.mul_le_mul_right _ hn;simp only[Option.getD_some];omega
theorem IG(ok:cH x)(h8:x.nodes.length<=8)(hl:lf.length=aN x)(hq:∀q∈lf,bM q<=20000000):∀k:Nat,k<=(aG x).length->∀q∈sS (aG x) (pM x lf) (CQ (aN x)) k,bM q<=400000000
 | 0,_=>fun q h=>by rw[List.eq_of_mem_replicate h];exact eN (lM 0 (by decide) (by decide)) (by decide)
 | k+1,hk=>fun q h=>by
  unfold sS at h;rcases List.mem_or_eq_of_mem_set h with e | e
  ·exact IG ok h8 hl hq k (by omega) q e
  ·rw[e];exact UY ok h8 hl hq (by omega)
end
