import Derived.Test.YthgdchffeigkbaaGreatDoorX19
import Derived.Test.YthgdchffeigkbaaGreatDoorX20
set_option linter.unusedVariables false
set_option linter.unusedSimpArgs false
namespace Go.Proofs.YthgdchffeigkbaaGreatDoor
set_option maxHeartbeats 8000000
set_option maxRecDepth 100000
section
open Go.ChangeShapes Go.WideShapes Go.ChangeAt Go.RowKit
def uZ (y:Value):Prop:=∀ k x,y≠.int k x
theorem gS {A:OA} {n c:Nat}:uZ (.slice A n c):=fun k x h=>by cases h
theorem dL.keep1 {w:Wo} {g T i:Nat} {cs:Array Value} {q:Rat} {x:Rv} {y:Value} (h:dL w w.heap.size q x) (hb:aG w g T cs) (hy:cs[i]?=some y) (hn:uZ y) (u:Value):dL (w.setCell ⟨g,i,none⟩ u) (w.setCell ⟨g,i,none⟩ u).heap.size q x:=by
 have h0:dE w w.heap.size q x.b1 x.A x.n x.c x.b2 x.A2 x.m x.d:=h;exact dE.keep h0 (v:=y) (by rw [hb.cell];exact hy) hn u
section
variable {S:Value->Prop} {w w':Wo} {base e size n:Nat} {v:Value} {xs:List Value}
theorem bJ.blk (h:bJ S w base e size v n xs) {S':Value->Prop} {e':TypeId} {b':Nat} (k:dY S' b' e' w w') (cP:e≠e'):bJ S w' base e size v n xs:=by
 refine ⟨h.1,?_⟩;rcases h.2 with h1 | ⟨g,cap,cur,h1,h2,h3,h4⟩
 ·exact .inl h1
 ·exact .inr ⟨g,cap,cur,h1,h2,k.blk _ _ _ h3 cP,h4⟩
theorem bJ.ni (h:bJ S w base e size v n xs):uZ v:=by
 obtain ⟨A,c,rfl,_⟩:=h.shape;exact gS
end
structure I6 (g:Nat) (w0 wr:Wo) (b0 b1 vF vT vB vC:Value) (F T:List Nat) (uB uC:List Rv) (B C:List Rat):Prop where
 blk:aG wr g 122 #[b0,b1,vF,vT,vB,vC,.slice none 0 0,.slice none 0 0]
 oF:bJ rD wr (g+1) 3 1 vF F.length (eW F)
 oT:bJ rD wr (g+1) 3 1 vT T.length (eW T)
 oB:fH wr (g+1) vB uB B
 oC:fH wr (g+1) vC uC C
 ap:∀ k,vF.ownBlock=some k->vT.ownBlock≠some k
 aq:∀ k,vB.ownBlock=some k->vC.ownBlock≠some k
 low:Below g w0 wr
section
variable {g:Nat} {w0 wr w':Wo} {b0 b1 vF vT vB vC v':Value} {F T:List Nat} {uB uC:List Rv} {B C:List Rat}
theorem I6.up (m:I6 g w0 wr b0 b1 vF vT vB vC F T uB uC B C) (hb:Below wr.heap.size wr w'):I6 g w0 w' b0 b1 vF vT vB vC F T uB uC B C:=
 ⟨m.blk.bl hb,m.oF.keep hb,m.oT.keep hb,m.oB.keep hb,m.oC.keep hb,m.ap,m.aq,m.low.trans (hb.mono (rC m.blk.lt))⟩
theorem fH.keepsI {vs:List Rv} {qs:List Rat} {v:Value} {base b':Nat} (h:fH wr base v vs qs) (k:dY rD b' 3 wr w'):fH w' base v vs qs:=
 ⟨h.own.blk k (by decide),h.len,fun i q x hq hx=>(h.ok i q x hq hx).keepsI k⟩
theorem fH.far {vs:List Rv} {qs:List Rat} {v y u:Value} {base g T i:Nat} {cs:Array Value} (h:fH wr base v vs qs) (hb:aG wr g T cs) (ht:115≠T) (hy:cs[i]?=some y) (hn:uZ y):fH (wr.setCell ⟨g,i,none⟩ u) base v vs qs:=
 ⟨h.own.far hb ht,h.len,fun i q x hq hx=>(h.ok i q x hq hx).keep1 hb hy hn u⟩
theorem fH.apart {vs:List Rv} {qs:List Rat} {v u:Value} {base b':Nat} (h:fH wr base u vs qs) (k:dY oX b' 115 wr w') (ho:∀ k,k<wr.heap.size->v.ownBlock≠some k->w'.heap[k]?=wr.heap[k]?) (cP:∀ k,u.ownBlock=some k->v.ownBlock≠some k):fH w' base u vs qs:=
 ⟨h.own.apart ho cP,h.len,fun i q x hq hx=>(h.ok i q x hq hx).keeps k⟩
theorem CQ {S:Value->Prop} {v v' u:Value} {base e size n:Nat} {xs:List Value} (h:∀ k,v.ownBlock=some k->u.ownBlock≠some k) (hu:bJ S wr base e size u n xs) (hv:v'.ownBlock=v.ownBlock\/v'.ownBlock=some wr.heap.size):∀ k,v'.ownBlock=some k->u.ownBlock≠some k:=fun k hk hc=>by
 rcases hv with hv | hv
 ·rw [hv] at hk;exact h k hk hc
 ·rw [hv] at hk
  injection hk with hk;subst hk;exact absurd (hu.lt hc).2 (Nat.lt_irrefl _)
theorem I6.appF (m:I6 g w0 wr b0 b1 vF vT vB vC F T uB uC B C) {u:Nat} (h1:bJ rD w' (g+1) 3 1 v' (F.length+1) (eW F++[.int .i64 (u:Int)])) (h2:dY rD (g+1) 3 wr w') (h3:v'.ownBlock=vF.ownBlock\/v'.ownBlock=some wr.heap.size) (h4:∀ k,k<wr.heap.size->vF.ownBlock≠some k->w'.heap[k]?=wr.heap[k]?) :
    I6 g w0 (w'.setCell ⟨g,2,none⟩ v') b0 b1 v' vT vB vC (F++[u]) T uB uC B C:=by
 have hb:=h2.blk _ _ _ m.blk (by decide);have hT:=m.oT.apart h4 fun k hk hc=>m.ap k hc hk;have hB:=m.oB.keepsI h2;have hC:=m.oC.keepsI h2;have eC:F.length+1=(F++[u]).length:=by simp
 have aEe:eW F++[.int .i64 (u:Int)]=eW (F++[u]):=by unfold eW;rw [List.map_append];rfl
 rw [eC,aEe] at h1;exact ⟨by have:=hb.set_ 2 v';simpa using this,h1.far hb (by decide),hT.far hb (by decide),hB.far hb (by decide) (y:=vF) rfl m.oF.ni,hC.far hb (by decide) (y:=vF) rfl m.oF.ni,CQ m.ap m.oT h3,m.aq,(m.low.trans (h2.low.mono (Nat.le_succ g))).setCell lR _⟩
theorem I6.appT (m:I6 g w0 wr b0 b1 vF vT vB vC F T uB uC B C) {u:Nat} (h1:bJ rD w' (g+1) 3 1 v' (T.length+1) (eW T++[.int .i64 (u:Int)])) (h2:dY rD (g+1) 3 wr w') (h3:v'.ownBlock=vT.ownBlock\/v'.ownBlock=some wr.heap.size) (h4:∀ k,k<wr.heap.size->vT.ownBlock≠some k->w'.heap[k]?=wr.heap[k]?) :
    I6 g w0 (w'.setCell ⟨g,3,none⟩ v') b0 b1 vF v' vB vC F (T++[u]) uB uC B C:=by
 have hb:=h2.blk _ _ _ m.blk (by decide);have hF:=m.oF.apart h4 fun k hk hc=>m.ap k hk hc;have hB:=m.oB.keepsI h2;have hC:=m.oC.keepsI h2;have eC:T.length+1=(T++[u]).length:=by simp
 have aEe:eW T++[.int .i64 (u:Int)]=eW (T++[u]):=by unfold eW;rw [List.map_append];rfl
 rw [eC,aEe] at h1;have hap:∀ k,vF.ownBlock=some k->v'.ownBlock≠some k:=fun k hk hc=>CQ (v:=vT) (fun k h1 h2=>m.ap k h2 h1) m.oF h3 k hc hk;exact ⟨by have:=hb.set_ 3 v';simpa using this,hF.far hb (by decide),h1.far hb (by decide),hB.far hb (by decide) (y:=vT) rfl m.oT.ni,hC.far hb (by decide) (y:=vT) rfl m.oT.ni,hap,m.aq,(m.low.trans (h2.low.mono (Nat.le_succ g))).setCell lR _⟩
theorem I6.appB (m:I6 g w0 wr b0 b1 vF vT vB vC F T uB uC B C) {u:Rv} {q:Rat} (hq:dL wr wr.heap.size q u) (h1:bJ oX w' (g+1) 115 4 v' (uB.length+1) (fS uB++u.cells)) (h2:dY oX (g+1) 115 wr w') (h3:v'.ownBlock=vB.ownBlock\/v'.ownBlock=some wr.heap.size) (h4:∀ k,k<wr.heap.size->vB.ownBlock≠some k->w'.heap[k]?=wr.heap[k]?) :
    I6 g w0 (w'.setCell ⟨g,4,none⟩ v') b0 b1 vF vT v' vC F T (uB++[u]) uC (B++[q]) C:=by
 have hb:=h2.blk _ _ _ m.blk (by decide);have hB:=m.oB.app hq h1 h2;have hC:=m.oC.apart h2 h4 fun k hk hc=>m.aq k hc hk;exact ⟨by have:=hb.set_ 4 v';simpa using this,(m.oF.blk h2 (by decide)).far hb (by decide),(m.oT.blk h2 (by decide)).far hb (by decide),hB.far hb (by decide) (y:=vB) rfl m.oB.own.ni,hC.far hb (by decide) (y:=vB) rfl m.oB.own.ni,m.ap,CQ m.aq m.oC.own h3,(m.low.trans (h2.low.mono (Nat.le_succ g))).setCell lR _⟩
theorem I6.appC (m:I6 g w0 wr b0 b1 vF vT vB vC F T uB uC B C) {u:Rv} {q:Rat} (hq:dL wr wr.heap.size q u) (h1:bJ oX w' (g+1) 115 4 v' (uC.length+1) (fS uC++u.cells)) (h2:dY oX (g+1) 115 wr w') (h3:v'.ownBlock=vC.ownBlock\/v'.ownBlock=some wr.heap.size) (h4:∀ k,k<wr.heap.size->vC.ownBlock≠some k->w'.heap[k]?=wr.heap[k]?) :
    I6 g w0 (w'.setCell ⟨g,5,none⟩ v') b0 b1 vF vT vB v' F T uB (uC++[u]) B (C++[q]):=by
 have hb:=h2.blk _ _ _ m.blk (by decide);have hC:=m.oC.app hq h1 h2;have hB:=m.oB.apart h2 h4 fun k hk hc=>m.aq k hk hc;have haq:∀ k,vB.ownBlock=some k->v'.ownBlock≠some k:=fun k hk hc=>CQ (v:=vC) (fun k h1 h2=>m.aq k h2 h1) m.oB.own h3 k hc hk;exact ⟨by have:=hb.set_ 5 v';simpa using this,(m.oF.blk h2 (by decide)).far hb (by decide),(m.oT.blk h2 (by decide)).far hb (by decide),hB.far hb (by decide) (y:=vC) rfl m.oC.own.ni,hC.far hb (by decide) (y:=vC) rfl m.oC.own.ni,m.ap,haq,(m.low.trans (h2.low.mono (Nat.le_succ g))).setCell lR _⟩
theorem aAj {w:Wo} (b0 b1:Value):I6 w.heap.size w (w.alloc (.cells #[b0,b1,.slice none 0 0,.slice none 0 0,.slice none 0 0,.slice none 0 0,.slice none 0 0,.slice none 0 0] 122)) b0 b1 (.slice none 0 0) (.slice none 0 0) (.slice none 0 0) (.slice none 0 0) [] [] [] [] [] []:=
 ⟨aG.new _ _ _,dO _ _ _ _ _,dO _ _ _ _ _,oQ _ _,oQ _ _,fun k h=>(by cases h),fun k h=>(by cases h),bA⟩
end
end
section
open Go.ChangeShapes Go.WideShapes Go.ChangeAt Go.RowKit Go.Maps
def iJ (w:Wo) (b n:Nat) (l:List Nat):Prop:=
 ∃ D:DataW Unit,w.ownsMap Tryz.prog 3 (plainElem Tryz.prog 4) b n D/\IsMap D/\∀ s:Nat,D.atKey (.int .i64 (s:Int)) (.lit (.bool false))=.lit (.bool (l.any fun x=>x == s))
theorem iJ.lt {w:Wo} {b n:Nat} {l:List Nat} (h:iJ w b n l):b<w.heap.size:=by obtain ⟨D,h1,_⟩:=h;exact h1.lt
theorem iJ.kept {w w':Wo} {row:Option Nat} {b n:Nat} {l:List Nat} (h:iJ w b n l) (hg:w.grownBy w' row) (cP:some b≠row):iJ w' b n l:=by
 obtain ⟨D,h1,h2⟩:=h;exact ⟨D,h1.kept hg cP,h2⟩
theorem iJ.below {w w':Wo} {b n:Nat} {l:List Nat} (h:iJ w b n l) (hb:Below w.heap.size w w'):iJ w' b n l:=h.kept (row:=none) ⟨hb.os,hb.tape,hb.output,hb.size,fun k hk _=>hb.block k hk⟩ (by simp)
theorem iJ.made (w:Wo):iJ (w.alloc (.map #[] 0)) w.heap.size 0 []:=⟨.map [],World.ownsMap_made _ _ _ _,⟨[],rfl⟩,fun s=>rfl⟩
theorem EW:Keyed Tryz.prog 3:=int_keyed Tryz.underlying3
theorem iJ.put {w:Wo} {b n:Nat} {l:List Nat} {D:DataW Unit} (s:Nat) (h1:w.ownsMap Tryz.prog 3 (plainElem Tryz.prog 4) b (n+1) (D.put (.int .i64 (s:Int)) (.lit (.bool true)))) (h2:IsMap D)
    (h3:∀ s:Nat,D.atKey (.int .i64 (s:Int)) (.lit (.bool false))=.lit (.bool (l.any fun x=>x == s))):iJ w b (n+1) (l++[s]):=by
 refine ⟨_,h1,?_,fun t=>?_⟩
 ·obtain ⟨es,rfl⟩:=h2
  exact ⟨_,rfl⟩
 ·by_cases hts:t=s
  ·subst hts
   rw [atKey_put_same h2 (k:=.int .i64 (t:Int)) trivial];simp
  ·rw [atKey_put_other (fun e=>hts (by injection e with _ e;omega)),h3,List.any_append]
   have:(s == t)=false:=by simp;omega
   simp [this]
theorem ZY {l:List Nat} {k:Nat} (hk:k<l.length):((l.take k).any fun x=>x == l.getD k 0)=iB l k:=by
 unfold iB T9 aCM;rw [Bool.not_not,Bool.eq_iff_iff,List.any_eq_true,List.any_eq_true]
 constructor
 ·rintro ⟨y,hy,he⟩
  obtain ⟨i,hi⟩:=List.mem_iff_getElem?.1 hy;have zZ:i<k:=by have:=(dP.1 hi).1;rw [jP] at this;omega
  rw [List.getElem?_take_of_lt zZ] at hi;refine ⟨i,List.mem_range.2 zZ,?_⟩;rw [eY,hi];exact he
 ·rintro ⟨a,ha,he⟩
  have hak:=List.mem_range.1 ha;obtain ⟨y,hy⟩:∃ y,l[a]?=some y:=eO (by omega);refine ⟨y,cO (i:=a) (by rw [List.getElem?_take_of_lt hak];exact hy),?_⟩;rw [eY,hy] at he;exact he
theorem BV (p:Nat->Bool) (n:Nat):kE p (n+1)=kE p n++if p n then [n] else []:=by
 unfold kE;rw [List.range_succ,List.filter_append];cases h:p n<;>simp [h]
theorem PR {x:bE} (ok:cN x):dZ (jH x)=xZ x/\(jH x).length=aI x:=by
 have h:=zN (NI ok).1;refine ⟨?_,by unfold jH;rw [lB];exact h.1⟩;unfold dZ jH;rw [List.map_map];have:∀ l:List Int,(∀ z∈l,0<=z)->l.map ((fun (v:Nat)=>(v:Int)) ∘ Int.toNat)=l:=fun l=>by
  induction l with
  | nil=>intro _;rfl
  | cons a r ih=>
   intro hl;rw [List.map_cons,ih fun z hz=>hl z (List.mem_cons_of_mem _ hz)];have:=hl a (List.mem_cons_self ..);simp [Int.toNat_of_nonneg this]
 exact this _ fun z hz=>(h.2 z hz).1
section
variable {P:Program}
theorem DR {S:Value->Prop} {ops:Array Oper} {rest:List Oper} {o:Oper} {a:Act} {Q:Exit->Act->World->Prop} {w:Wo} (CE:o.guard=none) (s x:Operand) (t:TypeId)
    (ho:o.op=.call { callee:=.builtin .append,args:=#[s,x],argTypes:=#[t,t] })
    (base:Nat) (e:TypeId) (i:TypeInfo) (z:Value) (size bytes:Nat) (ht:P.underlying t=some (.slice e)) (hi:P.info? e=some i) (hz:i.zero=some z)
    (gX:i.size=size) (AC:i.bytes=bytes) (IY:z.cells.size=size) (gW:0<size) (SJ:∀ u∈z.cells.toList,S u)
    (v:Value) (n:Nat) (xs:List Value) (hs:a.eval s=v) (bF:bJ S w base e size v n xs)
    (g T:Nat) (lit:Array Value) (hx:a.eval x=.slice (some ⟨g,0,none⟩) 1 1) (hg:aG w g T lit) (hl:lit.size=size) (h1:∀ u∈lit.toList,u.oneCell'=true/\S u)
    (wX:n+1<=maxLen) (gM:(n+1)*bytes<=140737488355328) (c_:base<=w.heap.size)
    (h:∀ A m c w',bJ S w' base e size (.slice A m c) (n+1) (xs++lit.toList)->dY S base e w w'->((Value.slice A m c).ownBlock=v.ownBlock\/(Value.slice A m c).ownBlock=some w.heap.size)->(∀ k,k<w.heap.size->v.ownBlock≠some k->w'.heap[k]?=w.heap[k]?)->wpList P ops Q rest (a.put o.dst (.slice A m c)) w') :
    wpList P ops Q (o::rest) a w:=by
 refine wpList_plain CE fun K hK=>?_;exact nB s x t ho base e i z size bytes ht hi hz gX AC IY gW SJ v n xs hs bF g T lit hx hg hl h1 wX gM c_ fun A m c w' q1 q2 q3 q4=>hK _ _ (h A m c w' q1 q2 q3 q4)
end
structure MdZ (g:Nat) (w0 wr:Wo) (b0 b1 vF vT vB vC vZ:Value) (F T:List Nat) (uB uC:List Rv) (B C:List Rat) (Z:List Nat):Prop where
 blk:aG wr g 122 #[b0,b1,vF,vT,vB,vC,vZ,.slice none 0 0]
 oF:bJ rD wr (g+1) 3 1 vF F.length (eW F)
 oT:bJ rD wr (g+1) 3 1 vT T.length (eW T)
 oB:fH wr (g+1) vB uB B
 oC:fH wr (g+1) vC uC C
 oZ:bJ rD wr (g+1) 3 1 vZ Z.length (eW Z)
 zF:∀ k,vF.ownBlock=some k->vZ.ownBlock≠some k
 zT:∀ k,vT.ownBlock=some k->vZ.ownBlock≠some k
 low:Below g w0 wr
section
variable {g:Nat} {w0 wr w':Wo} {b0 b1 vF vT vB vC vZ v':Value} {F T Z:List Nat} {uB uC:List Rv} {B C:List Rat}
theorem I6.z (m:I6 g w0 wr b0 b1 vF vT vB vC F T uB uC B C):MdZ g w0 wr b0 b1 vF vT vB vC (.slice none 0 0) F T uB uC B C []:=
 ⟨m.blk,m.oF,m.oT,m.oB,m.oC,dO _ _ _ _ _,fun k _ h=>(by cases h),fun k _ h=>(by cases h),m.low⟩
theorem MdZ.up (m:MdZ g w0 wr b0 b1 vF vT vB vC vZ F T uB uC B C Z) (hb:Below wr.heap.size wr w'):MdZ g w0 w' b0 b1 vF vT vB vC vZ F T uB uC B C Z:=
 ⟨m.blk.bl hb,m.oF.keep hb,m.oT.keep hb,m.oB.keep hb,m.oC.keep hb,m.oZ.keep hb,m.zF,m.zT,m.low.trans (hb.mono (rC m.blk.lt))⟩
theorem MdZ.app (m:MdZ g w0 wr b0 b1 vF vT vB vC vZ F T uB uC B C Z) {u:Nat} (h1:bJ rD w' (g+1) 3 1 v' (Z.length+1) (eW Z++[.int .i64 (u:Int)])) (h2:dY rD (g+1) 3 wr w') (h3:v'.ownBlock=vZ.ownBlock\/v'.ownBlock=some wr.heap.size) (h4:∀ k,k<wr.heap.size->vZ.ownBlock≠some k->w'.heap[k]?=wr.heap[k]?) :
    MdZ g w0 (w'.setCell ⟨g,6,none⟩ v') b0 b1 vF vT vB vC v' F T uB uC B C (Z++[u]):=by
 have hb:=h2.blk _ _ _ m.blk (by decide);have hF:=m.oF.apart h4 m.zF;have hT:=m.oT.apart h4 m.zT;have hB:=m.oB.keepsI h2;have hC:=m.oC.keepsI h2;have eC:Z.length+1=(Z++[u]).length:=by simp
 have aEe:eW Z++[.int .i64 (u:Int)]=eW (Z++[u]):=by unfold eW;rw [List.map_append];rfl
 rw [eC,aEe] at h1;have hzF:∀ k,vF.ownBlock=some k->v'.ownBlock≠some k:=fun k hk hc=>CQ (v:=vZ) (fun k h1 h2=>m.zF k h2 h1) m.oF h3 k hc hk;have hzT:∀ k,vT.ownBlock=some k->v'.ownBlock≠some k:=fun k hk hc=>CQ (v:=vZ) (fun k h1 h2=>m.zT k h2 h1) m.oT h3 k hc hk;exact ⟨by have:=hb.set_ 6 v';simpa using this,hF.far hb (by decide),hT.far hb (by decide),hB.far hb (by decide) (y:=vZ) rfl m.oZ.ni,hC.far hb (by decide) (y:=vZ) rfl m.oZ.ni,h1.far hb (by decide),hzF,hzT,(m.low.trans (h2.low.mono (Nat.le_succ g))).setCell lR _⟩
theorem bJ.mapped {S:Value->Prop} {w w':Wo} {base e size n b m:Nat} {v:Value} {xs:List Value} {l:List Nat} (h:bJ S w base e size v n xs) (hs:iJ w b m l) (hg:w.grownBy w' (some b)):bJ S w' base e size v n xs:=by
 refine ⟨h.1,?_⟩;rcases h.2 with h1 | ⟨g,cap,cur,h1,h2,h3,h4⟩
 ·exact .inl h1
 ·refine .inr ⟨g,cap,cur,h1,h2,h3.grown hg (fun e=>?_),h4⟩
  injection e with e;subst e;obtain ⟨D,⟨es,clock,hb,_⟩,_⟩:=hs;have h5:some (Obj.cells cur _ (0,0))=some (Obj.map es clock):=h3.symm.trans hb;cases h5
theorem iJ.apart {S:Value->Prop} {w:Wo} {b n base e size m:Nat} {l:List Nat} {v:Value} {xs:List Value} (hs:iJ w b n l) (h:bJ S w base e size v m xs):some b≠v.ownBlock:=by
 intro hb;rcases h.2 with ⟨h1,_⟩ | ⟨g,cap,cur,h1,h2,h3,h4⟩
 ·rw [h1] at hb;cases hb
 ·rw [h1] at hb
  injection hb with hb;subst hb;obtain ⟨D,⟨es,clock,hq,_⟩,_⟩:=hs;have h5:some (Obj.cells cur _ (0,0))=some (Obj.map es clock):=h3.symm.trans hq;cases h5
theorem XA {w:Wo} {g t n:Nat} {zs:List Int} (h:aG w g t (ints zs).toArray) (hn:zs.length=n):nL w w.heap.size (some ⟨g,0,none⟩) n zs:=
 ⟨by unfold ints;rw [lB,Nat.mul_one];exact hn,fun _=>⟨g,0,rfl,h.lt,fun j u hu=>by rw [Nat.zero_add,h.cell j];simpa using hu⟩⟩
theorem aG.mapped {w w':Wo} {g t b m:Nat} {cs:Array Value} {l:List Nat} (h:aG w g t cs) (hs:iJ w b m l) (hg:w.grownBy w' (some b)):aG w' g t cs:=by
 refine h.grown hg (fun e=>?_);injection e with e;subst e;obtain ⟨D,⟨es,clock,hb,_⟩,_⟩:=hs;have h5:some (Obj.cells cs t (0,0))=some (Obj.map es clock):=h.symm.trans hb;cases h5
theorem dL.mappedI {w w':Wo} {b m:Nat} {l:List Nat} {q:Rat} {x:Rv} (h:dL w w.heap.size q x) (hs:iJ w b m l) (hg:w.grownBy w' (some b)):dL w' w'.heap.size q x:=by
 have key:∀ {A:OA} {n:Nat} {l:List Nat},iR w w.heap.size A n l->iR w' w'.heap.size A n l:=fun {A n l'} h=>⟨h.1,fun hn=>by
  obtain ⟨b',off,e,aW,hc⟩:=h.2 hn;have cP:b'≠b:=by
   rintro rfl;have hx:0<(bQ l').length:=by have:=h.1;omega
   have h0:=hc 0 _ (jA hx);obtain ⟨D,⟨es,clock,hb,_⟩,_⟩:=hs;unfold World.cell? at h0;rw [hb] at h0;cases h0
  exact ⟨b',off,e,jO aW hg.size,fun j u hu=>(World.cell?_of_block (a:=⟨b',off+j,none⟩) (hg.block b' aW (fun e=>by injection e;omega))).trans (hc j u hu)⟩⟩
 exact ⟨⟨h.num.eb,h.num.en,key h.num.rd,h.num.nc,h.num.cm⟩,⟨h.den.eb,h.den.en,key h.den.rd,h.den.nc,h.den.cm⟩⟩
theorem MdZ.mapped {b n:Nat} {l:List Nat} (m:MdZ g w0 wr b0 b1 vF vT vB vC vZ F T uB uC B C Z) (hs:iJ wr b n l) (hg:wr.grownBy w' (some b)) (hb:g<b) (h0:g<=w0.heap.size):MdZ g w0 w' b0 b1 vF vT vB vC vZ F T uB uC B C Z:=
 ⟨m.blk.mapped hs hg,m.oF.mapped hs hg,m.oT.mapped hs hg,⟨m.oB.own.mapped hs hg,m.oB.len,fun i q x hq hx=>(m.oB.ok i q x hq hx).mappedI hs hg⟩,⟨m.oC.own.mapped hs hg,m.oC.len,fun i q x hq hx=>(m.oC.ok i q x hq hx).mappedI hs hg⟩,m.oZ.mapped hs hg,m.zF,m.zT,yG m.low hg (rC hb) h0⟩
theorem F1 {w:Wo} {base:Nat} {v:Value} {l:List Nat} (h:bJ rD w base 3 1 v l.length (eW l)):∃ A c,v=.slice A l.length c/\nL w w.heap.size A l.length (dZ l):=by
 obtain ⟨A,c,hv,hr,_⟩:=sL h.own;refine ⟨A,c,hv,?_⟩;have:ints (dZ l)=eW l:=by unfold ints dZ eW;rw [List.map_map];rfl
 unfold nL;rw [this];exact hr
end
end
section
open Go.ChangeShapes Go.WideShapes Go.ChangeAt Go.RowKit Go.Maps
attribute [local go_sem ↓] aE
attribute [local go_sem] aK aH aM aY cE.cells
def OfP (x:bE) (w:Wo) (e:Ending) (w':Wo):Prop:=Below w.heap.size w w'/\∃ (g:Nat) (m:iZ) (A:OA) (n c:Nat),e=.returned (.pointer (some ⟨g,0,none⟩))/\w.heap.size<=g/\aG w' g 122 (m.cells (.slice A n c))/\fG w' w'.heap.size m x/\(aDE x->n=(aA x).length/\jZ w' w'.heap.size A n (aDF x))
theorem kJ {α:Type} {l:List α} {k:Nat} {x:α} (h:l[k]?=some x):l.take (k+1)=l.take k++[x]:=oL h
theorem lO {x:bE} {k:Nat} {b:Br} (h:x.brs[k]?=some b):(gV x)[k]?=some (aV x b.fr)/\(B7 x)[k]?=some (aV x b.to)/\(mB x)[k]?=some (gQ b)/\(mC x)[k]?=some (nI b):=by
 unfold gV B7 mB mC NJ;simp [h]
theorem IA {b:Br} (h:b.bad=false):1<=b.x/\b.x<=10000/\500<=b.tap/\b.tap<=1500/\-1000<=b.shift/\b.shift<=1000:=by
 unfold Br.bad at h;simp only [Bool.or_eq_false_iff] at h;obtain ⟨⟨⟨⟨⟨a1,a2⟩,a3⟩,_⟩,_⟩,_⟩:=h;unfold kO at a1 a2 a3;have:=of_decide_eq_false a1;have:=of_decide_eq_false a2;have:=of_decide_eq_false a3;omega
theorem KA {b:Br} (h:b.bad=false):bU (Rat.divInt (-b.shift) 1000)<=1:=by
 have h1:=IA h;unfold bU;rw [show (1000:Int)=((1000:Nat):Int) from rfl,(mP (-b.shift) (by decide)).2,(rM (-b.shift) (by decide)).1];refine Nat.max_le.2 ⟨jV ?_,jV ?_⟩
 ·refine WT (Nat.div_le_self ..) ?_
  show _<4294967296^1;omega
 ·refine WT (Nat.div_le_self ..) ?_
  show _<4294967296^1;decide
theorem jI (h:cE) (x:bE) (ok:cN x) (h8:x.nodes.length<=8) (w:Wo) (r:cS w w.heap.size h x):Calls Tryz.prog 55 #[.agg h.cells] w (OfP x w):=by
 have K0:Below w.heap.size w (w.alloc (.cells h.cells 29)):=bA;have HK:=lH K0;have HX:=lH (aG.new w 29 h.cells);have HRN:=lH r;have cH:=lH ok;have H8:=lH h8;have HGT:=lH (aIv h x ok _ (r.up K0));have NZ:Hid (x.brs.length=h.n2):=lH r.r2.1;have HL0:Hid (x.nodes.length=h.n0):=lH r.r0.1;have sP:h.n2<=24:=by rw [<-NZ.o];exact ok.l2
 have hm0:h.n0<=24:=by rw [<-HL0.o];exact ok.l0
 obtain ⟨i0,kC,oE,kK,lQ⟩:=info_parts KW;have DN:=lH kC;have AR:=lH oE;have J0:=lH kK;have JZ:=lH lQ;obtain ⟨i1,ri0,rz0,rz1,rz2⟩:=rN;have RI0:=lH ri0;have RI1:=lH rz0;have RI2:=lH rz1;have RI3:=lH rz2;clear K0 r ok h8 kC oE kK lQ ri0 rz0 rz1 rz2;obtain ⟨A0,m0,c0,A1,m1,c1,A2,m2,c2,A3,m3,c3,A4,m4,c4,A5,m5,c5⟩:=h;simp only [cE.cells] at HK HX HGT NZ HL0 sP hm0 ⊢;go_enter Tryz.func55,Tryz.ntmps55
 go_upto_region 1 with fail
 generalize w.alloc (.cells #[.slice A0 m0 c0,.slice A1 m1 c1,.slice A2 m2 c2,.slice A3 m3 c3,.slice A4 m4 c4,.slice A5 m5 c5] 29)=W at *;have EY:=HX.o.lt;have y0:=HX.o.cell 0;have y1:=HX.o.cell 1;have y2:=HX.o.cell 2;have y3:=HX.o.cell 3;have y4:=HX.o.cell 4;have y5:=HX.o.cell 5
 go_wp2_with fail
 refine HGT.o.mono ?_;clear y0 y1 y2 y3 y4 y5 EY HGT;rintro e w1 ⟨bH,g1,g2,rfl,hg1,lE,aQs,aEJ⟩;have bS:=lH (HK.o.tm bH);have cJ:=lH (HX.o.bl bH);have OM:=lH aQs;have vG:=lH aEJ;have HGG:Hid (W.heap.size<=g1/\W.heap.size<=g2/\w.heap.size<W.heap.size):=lH ⟨hg1,lE,HX.o.lt⟩;clear bH HK HX aQs aEJ hg1 lE
 go_upto_region 2 with fail
 have EC:=lH (aAj (w:=w1) (.slice (some ⟨g1,0,none⟩) m0 m0) (.slice (some ⟨g2,0,none⟩) (aI x) (aI x)));have fZ:=lH ((Below.refl w1.heap.size w1).alloc lR (.cells #[.slice (some ⟨g1,0,none⟩) m0 m0,.slice (some ⟨g2,0,none⟩) (aI x) (aI x),.slice none 0 0,.slice none 0 0,.slice none 0 0,.slice none 0 0,.slice none 0 0,.slice none 0 0] 122));have dI:=lH (cJ.o.bl fZ.o);generalize w1.alloc (.cells #[.slice (some ⟨g1,0,none⟩) m0 m0,.slice (some ⟨g2,0,none⟩) (aI x) (aI x),.slice none 0 0,.slice none 0 0,.slice none 0 0,.slice none 0 0,.slice none 0 0,.slice none 0 0] 122)=w2 at *;generalize hgq:w1.heap.size=g at *;have HG:=lH hgq;clear hgq;have J1:Hid (w.heap.size<g/\w.heap.size<=g):=lH (by have:=HGG.o.2.2;have:=cJ.o.lt;have:=HG.o;omega);have y2:=dI.o.cell 2;have yl:=dI.o.lt
 go_wp2_with fail
 clear y2 yl fZ dI
 go_loopw [17] (fun v17 wr=>∃ (k:Nat) (vF vT vB vC:Value) (uB uC:List Rv),k<=m2/\v17=.int .i64 k/\I6 g w1 wr (.slice (some ⟨g1,0,none⟩) m0 m0) (.slice (some ⟨g2,0,none⟩) (aI x) (aI x)) vF vT vB vC ((gV x).take k) ((B7 x).take k) uB uC ((mB x).take k) ((mC x).take k)) (fun v17 _=>m2-(intOf v17).toNat)
 case atStart=>exact ⟨0,_,_,_,_,_,_,by omega,rfl,EC.o⟩
 case round=>
  clear EC;obtain ⟨k,vF,vT,vB,vC,uB,uC,hk,rfl,hm⟩:=hrel;have HM:=lH hm;have HW:Hid (Below w.heap.size w wr):=lH (bS.o.trans (hm.low.mono J1.o.2));have rE:=lH (HRN.o.up HW.o);have HXR:=lH (cJ.o.below hm.low (by have:=J1.o.1;omega));clear hm
  by_cases aW:k<m2
  ·obtain ⟨s,hs⟩:∃ s,x.brs[k]?=some s:=eO (by have:=NZ.o;omega)
   obtain ⟨b,off,hA,hb⟩:=rE.o.r2.form (show 0<m2 by omega);simp only at hA;subst hA;obtain ⟨a0,a1,a2,a3,a4,a5,a6,a7,a8⟩:=rE.o.r2.at_ hs;obtain ⟨t1,t2,t3,t4⟩:=lO hs;have xD:=lH (kJ t1);have tT:=lH (kJ t2);have HT3:=lH (kJ t3);have HT4:=lH (kJ t4);have qS:=lH (cH.o.br s (cO hs));have fT:(k:Int)<(m2:Int):=by omega
   have eN:=lN k;have iL:Hid (m2-(k+1)<m2-k):=lH (by omega);have ON:Hid (((gV x).take k).length<=24/\((B7 x).take k).length<=24/\((mB x).take k).length<=24/\((mC x).take k).length<=24):=lH (by simp only [jP];omega);clear hs t1 t2 t3 t4
   go_upto_region 5 with fail
   clear a0 a1 a2 a3 a4 a5 a6 a7 a8 hb;generalize yP:wr.alloc (.cells #[.string s.name,.string s.fr,.string s.to,.int .i64 s.x,.int .i64 s.tap,.int .i64 s.shift,.int .i64 s.limit,.int .i64 s.short,.int .i64 s.hold] 54)=wa;have rY:Below wr.heap.size wr wa:=by rw [<-yP];exact bA
   have HS:Hid (aG wa wr.heap.size 54 #[.string s.name,.string s.fr,.string s.to,.int .i64 s.x,.int .i64 s.tap,.int .i64 s.shift,.int .i64 s.limit,.int .i64 s.short,.int .i64 s.hold]):=lH (by rw [<-yP];exact aG.new wr _ _);have HGX:Hid (g<wr.heap.size):=lH HM.o.blk.lt;replace HM:=lH (HM.o.up rY);clear yP rY rE HXR HW;generalize wr.heap.size=gx at *;have HW:Hid (Below w.heap.size w wa):=lH (bS.o.trans (HM.o.low.mono J1.o.2));have HXR:=lH (cJ.o.below HM.o.low (by have:=J1.o.1;omega));have rE:=lH ((HRN.o.up HW.o).r0);have hbo:=dD cH.o qS.o.1;have QQ:=sJ (OM.o.below HM.o.low (by have:=OM.o.lt;have:=HG.o;omega)) hbo.2.2;rw [hbo.1] at QQ;have HIX:Hid (dN x.nodes s.fr<m0):=lH (by have:=hbo.2.2;rw [(qP cH.o).1] at this;have:=HL0.o;omega);have AX:=lH (BY qS.o.1);generalize dN x.nodes s.fr=ix at *;clear hbo;have hix:=HIX.o
   have sS:(ix:Int)<(m0:Int):=by omega
   have sU:=lZ ix
   have sR:=kU ix;have z0:=HM.o.blk.cell 0;have z2:=HM.o.blk.cell 2;have zl:=HM.o.blk.lt;have x0:=HXR.o.cell 0;have xl:=HXR.o.lt;have s1:=HS.o.cell 1;have sl:=HS.o.lt;have gl1:g1<wa.heap.size:=by have:=OM.o.lt;have:=HG.o;omega
   have bK:=lH (aD (Below.refl wa.heap.size wa));refine jQ (S:=fun w'=>Below wa.heap.size wa w') 17 0 _ _ _ _ _ (.pointer (some ⟨g,0,none⟩)) (by kernel_rfl) (by kernel_rfl) (by kernel_rfl) (by kernel_rfl) (by kernel_rfl) rfl (by decide) (by kernel_rfl) rfl rfl rfl rfl (by kernel_rfl) (fun _ _ _ h=>h) (by rfl) (fun w'=>by go_simp<;>with_reducible rfl) (aD bR) (fun hHeld=>?_);simp only [lA,List.take_zero]
   try simp only [Act.put,bP,bO,bN]
   refine aL 1 rfl ?_;refine aL 2 rfl ?_;refine aL 3 rfl ?_;refine aL 4 rfl ?_;refine aL 5 rfl ?_;refine aL 6 rfl ?_;refine aL 7 rfl ?_;refine aL 8 rfl ?_;refine aL 9 rfl ?_;refine aL 10 rfl ?_;refine aL 11 rfl ?_;refine aL 12 rfl ?_;refine aL 13 rfl ?_;refine aU 14 (by kernel_rfl) rfl (fun K hK=>?_);go_simp;refine (jR A0 m0 c0 x.nodes s.fr wa.drew (rE.o.bm bK.o) (by omega)).mono ?_;rintro e w8 ⟨rfl,rfl⟩;rw [AX.o];go_simp;refine hK.out _ _ ?_ (fun hHeld=>?_)
   ·exact bK.o
   clear hK K
   try simp only [Act.put,bP,bO,bN]
   refine aL 15 rfl ?_;refine aL 16 rfl ?_;refine aU 17 (by kernel_rfl) rfl (fun K hK=>?_);go_simp;refine hK.out _ _ ?_ (fun hHeld=>?_)
   ·exact bK.o.alloc lR _
   clear hK K
   try simp only [Act.put,bP,bO,bN]
   refine wpAnyH_done (by kernel_rfl) ?_ _;refine aP (by rfl) ?_;clear hHeld;generalize M6:aV x s.fr=bu at *;have qL:Below wa.heap.size wa (wa.alloc (.cells #[.int .i64 (bu:Int)] 3)).drew:=aD (bA);have tB:Hid (aG (wa.alloc (.cells #[.int .i64 (bu:Int)] 3)).drew wa.heap.size 3 #[.int .i64 (bu:Int)]):=lH (aG.new wa _ _).drew;replace HM:=lH (HM.o.up qL);replace HS:=lH (HS.o.bl qL);have SC:=lH M6;clear z0 z2 zl x0 xl s1 sl gl1 QQ hix sS sU sR HIX AX rE HXR HW bK qL M6;generalize (wa.alloc (.cells #[.int .i64 (bu:Int)] 3)).drew=wl at *;generalize wa.heap.size=gq at *;refine nB (S:=rD) (.tmp 25) (.tmp 38) 30 rfl (g+1) 3 i0 _ 1 8 Tryz.underlying30 DN.o AR.o J0.o JZ.o rfl (by omega) Y_ vF _ _ (by rfl) HM.o.oF gq 3 #[.int .i64 (bu:Int)] (by rfl) tB.o rfl ?k1 ?k2 ?k3 ?k4 ?_
   case k1=>intro u hu;rw [show u=.int .i64 (bu:Int) from by simpa using hu];exact ⟨rfl,_,rfl⟩
   case k2=>have:=ON.o.1;simp only [maxLen];omega
   case k3=>have:=ON.o.1;omega
   case k4=>exact HM.o.blk.lt
   intro pA pn pc w9 q1 q2 q3 q4;have hm9:=HM.o.appF q1 q2 q3 q4;have gE:=q2.blk _ _ _ HM.o.blk (by decide);have UV:=q2.blk _ _ _ HS.o (by decide);have HMN:=lH hm9;have R1:=lH (UV.far (p:=⟨g,2,none⟩) (by have:=HGX.o;show gx≠g;omega) (.slice pA pn pc));have p2:=gE.cell 2;have pl:=gE.lt;have pf:=gE.frozen;clear q1 q2 q3 q4 hm9 gE UV HM HS tB;refine aP (by rfl) ?_;go_simp;refine aP (by rfl) ?_;go_simp;refine aP (by rfl) ?_
   go_upto_region 6 with fail
   clear p2 pl pf;generalize w9.setCell ⟨g,2,none⟩ (.slice pA pn pc)=wb at *;have HM:Hid (I6 g w1 wb _ _ _ _ _ _ _ _ _ _ _ _):=HMN;have HS:=R1;rw [<-xD.o] at HM;clear HMN R1 SC;generalize Value.slice pA pn pc=vF2 at *;have HW:Hid (Below w.heap.size w wb):=lH (bS.o.trans (HM.o.low.mono J1.o.2));have HXR:=lH (cJ.o.below HM.o.low (by have:=J1.o.1;omega));have rE:=lH ((HRN.o.up HW.o).r0);have hbo:=dD cH.o qS.o.2.1;have QQ:=sJ (OM.o.below HM.o.low (by have:=OM.o.lt;have:=HG.o;omega)) hbo.2.2;rw [hbo.1] at QQ;have HIX:Hid (dN x.nodes s.to<m0):=lH (by have:=hbo.2.2;rw [(qP cH.o).1] at this;have:=HL0.o;omega);have AX:=lH (BY qS.o.2.1);generalize dN x.nodes s.to=ix at *;clear hbo;have hix:=HIX.o;have sS:(ix:Int)<(m0:Int):=by omega
   have sU:=lZ ix
   have sR:=kU ix;have z0:=HM.o.blk.cell 0;have z2:=HM.o.blk.cell 3;have zl:=HM.o.blk.lt;have x0:=HXR.o.cell 0;have xl:=HXR.o.lt;have s1:=HS.o.cell 2;have sl:=HS.o.lt;have gl1:g1<wb.heap.size:=by have:=OM.o.lt;have:=HG.o;omega
   have bK:=lH (aD (Below.refl wb.heap.size wb));refine jQ (S:=fun w'=>Below wb.heap.size wb w') 17 0 _ _ _ _ _ (.pointer (some ⟨g,0,none⟩)) (by kernel_rfl) (by kernel_rfl) (by kernel_rfl) (by kernel_rfl) (by kernel_rfl) rfl (by decide) (by kernel_rfl) rfl rfl rfl rfl (by kernel_rfl) (fun _ _ _ h=>h) (by rfl) (fun w'=>by go_simp<;>with_reducible rfl) (aD bR) (fun hHeld=>?_);simp only [lA,List.take_zero]
   try simp only [Act.put,bP,bO,bN]
   refine aL 1 rfl ?_;refine aL 2 rfl ?_;refine aL 3 rfl ?_;refine aL 4 rfl ?_;refine aL 5 rfl ?_;refine aL 6 rfl ?_;refine aL 7 rfl ?_;refine aL 8 rfl ?_;refine aL 9 rfl ?_;refine aL 10 rfl ?_;refine aL 11 rfl ?_;refine aL 12 rfl ?_;refine aL 13 rfl ?_;refine aU 14 (by kernel_rfl) rfl (fun K hK=>?_);go_simp;refine (jR A0 m0 c0 x.nodes s.to wb.drew (rE.o.bm bK.o) (by omega)).mono ?_;rintro e w8 ⟨rfl,rfl⟩;rw [AX.o];go_simp;refine hK.out _ _ ?_ (fun hHeld=>?_)
   ·exact bK.o
   clear hK K
   try simp only [Act.put,bP,bO,bN]
   refine aL 15 rfl ?_;refine aL 16 rfl ?_;refine aU 17 (by kernel_rfl) rfl (fun K hK=>?_);go_simp;refine hK.out _ _ ?_ (fun hHeld=>?_)
   ·exact bK.o.alloc lR _
   clear hK K
   try simp only [Act.put,bP,bO,bN]
   refine wpAnyH_done (by kernel_rfl) ?_ _;refine aP (by rfl) ?_;clear hHeld;generalize M6:aV x s.to=bu at *;have qL:Below wb.heap.size wb (wb.alloc (.cells #[.int .i64 (bu:Int)] 3)).drew:=aD (bA);have tB:Hid (aG (wb.alloc (.cells #[.int .i64 (bu:Int)] 3)).drew wb.heap.size 3 #[.int .i64 (bu:Int)]):=lH (aG.new wb _ _).drew;replace HM:=lH (HM.o.up qL);replace HS:=lH (HS.o.bl qL);have SC:=lH M6;clear z0 z2 zl x0 xl s1 sl gl1 QQ hix sS sU sR HIX AX rE HXR HW bK qL M6;generalize (wb.alloc (.cells #[.int .i64 (bu:Int)] 3)).drew=wl at *;generalize wb.heap.size=gq at *;refine nB (S:=rD) (.tmp 46) (.tmp 59) 30 rfl (g+1) 3 i0 _ 1 8 Tryz.underlying30 DN.o AR.o J0.o JZ.o rfl (by omega) Y_ vT _ _ (by rfl) HM.o.oT gq 3 #[.int .i64 (bu:Int)] (by rfl) tB.o rfl ?k1 ?k2 ?k3 ?k4 ?_
   case k1=>intro u hu;rw [show u=.int .i64 (bu:Int) from by simpa using hu];exact ⟨rfl,_,rfl⟩
   case k2=>have:=ON.o.2.1;simp only [maxLen];omega
   case k3=>have:=ON.o.2.1;omega
   case k4=>exact HM.o.blk.lt
   intro pA pn pc w9 q1 q2 q3 q4;have hm9:=HM.o.appT q1 q2 q3 q4;have gE:=q2.blk _ _ _ HM.o.blk (by decide);have UV:=q2.blk _ _ _ HS.o (by decide);have HMN:=lH hm9;have R1:=lH (UV.far (p:=⟨g,3,none⟩) (by have:=HGX.o;show gx≠g;omega) (.slice pA pn pc));have p2:=gE.cell 3;have pl:=gE.lt;have pf:=gE.frozen;clear q1 q2 q3 q4 hm9 gE UV HM HS tB;refine aP (by rfl) ?_;go_simp;refine aP (by rfl) ?_;go_simp;refine aP (by rfl) ?_
   go_upto_region 7 with fail
   clear p2 pl pf;generalize w9.setCell ⟨g,3,none⟩ (.slice pA pn pc)=wc at *;have HM:Hid (I6 g w1 wc _ _ _ _ _ _ _ _ _ _ _ _):=HMN;have HS:=R1;rw [<-tT.o] at HM;clear HMN R1 SC;generalize Value.slice pA pn pc=vT2 at *;have CG:=IA qS.o.2.2.2;have aEh:s.x*s.tap<=10000*1500:=Int.mul_le_mul CG.2.1 CG.2.2.2.1 (by omega) (by omega);have aPN:1*500<=s.x*s.tap:=Int.mul_le_mul CG.1 CG.2.2.1 (by omega) (by omega);have HXT:=lH (YC 1000000 (s.x*s.tap) wc (by decide) (by decide) (by omega) (by omega) (by omega));have hw1:IntKind.i64.wrap (s.x*s.tap)=s.x*s.tap:=IntWalk.i64_in _ (by omega);have hsh:IntKind.i64.wrap (-s.shift)=-s.shift:=IntWalk.i64_in _ (by omega);have HSH:=lH hsh;have HSF:=lH (fun w'=>YC (-s.shift) 1000 w' (by omega) (by omega) (by decide) (by decide) (by decide));have s3:=HS.o.cell 3;have s4:=HS.o.cell 4;have sl:=HS.o.lt;generalize hxt:s.x*s.tap=xt at *
   have SR:=lH hxt
   go_wp2_with fail
   refine HXT.o.mono ?_;rintro e w10 ⟨qX,v10,rfl,h10⟩;clear s3 s4 sl HXT aEh aPN hw1 CG hsh hxt;have D9:Hid (dL w10 w10.heap.size (gQ s) v10):=lH (by unfold gQ;rw [SR.o];exact h10);replace HM:=lH (HM.o.up qX);replace HS:=lH (HS.o.bl qX);clear qX h10
   go_upto_region 8 with fail
   have mF:Below w10.heap.size w10 (w10.alloc (.cells #[.bool v10.b1,.slice v10.A v10.n v10.c,.bool v10.b2,.slice v10.A2 v10.m v10.d] 115)):=bA;have cU:=lH (aG.new w10 115 #[.bool v10.b1,.slice v10.A v10.n v10.c,.bool v10.b2,.slice v10.A2 v10.m v10.d]);have HNE:Hid (∀ k,vB.ownBlock=some k->k<w10.heap.size):=lH fun k hk=>(HM.o.oB.own.lt hk).2;have HGY:Hid (g<w10.heap.size):=lH HM.o.blk.lt;replace HM:=lH (HM.o.up mF);replace HS:=lH (HS.o.bl mF);replace D9:=lH (D9.o.up mF);clear mF SR;generalize w10.alloc (.cells #[.bool v10.b1,.slice v10.A v10.n v10.c,.bool v10.b2,.slice v10.A2 v10.m v10.d] 115)=wd at *;generalize w10.heap.size=gy at *;have z4:=HM.o.blk.cell 4;have zl:=HM.o.blk.lt;have b0:=cU.o.cell 0;have b1:=cU.o.cell 1;have b2:=cU.o.cell 2;have b3:=cU.o.cell 3;have bl:=cU.o.lt
   have bK:=lH (aD (Below.refl wd.heap.size wd));refine jQ (S:=fun w'=>Below wd.heap.size wd w') 6 0 _ _ _ _ _ (.pointer (some ⟨g,0,none⟩)) (by kernel_rfl) (by kernel_rfl) (by kernel_rfl) (by kernel_rfl) (by kernel_rfl) rfl (by decide) (by kernel_rfl) rfl rfl rfl rfl (by kernel_rfl) (fun _ _ _ h=>h) (by rfl) (fun w'=>by go_simp<;>with_reducible rfl) (aD bR) (fun hHeld=>?_);simp only [lA,List.take_zero]
   try simp only [Act.put,bP,bO,bN]
   refine aL 1 rfl ?_;refine aL 2 rfl ?_;refine aL 3 rfl ?_;refine aL 4 rfl ?_;refine aL 5 rfl ?_;refine aU 6 (by kernel_rfl) rfl (fun K hK=>?_);go_simp;refine hK.out _ _ ?_ (fun hHeld=>?_)
   ·exact bK.o.alloc bK.o.size _
   clear hK K
   try simp only [Act.put,bP,bO,bN]
   refine wpAnyH_done (by kernel_rfl) ?_ _;refine aP (by rfl) ?_;clear hHeld;have qL:Below wd.heap.size wd ((wd.alloc (.cells #[.bool v10.b1,.slice v10.A v10.n v10.c,.bool v10.b2,.slice v10.A2 v10.m v10.d] 115)).drew):=aD (bA);have tB:Hid (aG ((wd.alloc (.cells #[.bool v10.b1,.slice v10.A v10.n v10.c,.bool v10.b2,.slice v10.A2 v10.m v10.d] 115)).drew) wd.heap.size 115 #[.bool v10.b1,.slice v10.A v10.n v10.c,.bool v10.b2,.slice v10.A2 v10.m v10.d]):=lH (aG.new wd _ _).drew;replace HM:=lH (HM.o.up qL);replace HS:=lH (HS.o.bl qL);replace cU:=lH (cU.o.bl qL);replace D9:=lH (D9.o.up qL);have HVU:=D9;clear z4 zl b0 b1 b2 b3 bl bK qL;generalize (wd.alloc (.cells #[.bool v10.b1,.slice v10.A v10.n v10.c,.bool v10.b2,.slice v10.A2 v10.m v10.d] 115)).drew=wl at *;generalize wd.heap.size=gq at *
   refine nB (S:=oX) (.tmp 73) (.tmp 75) 93 rfl (g+1) 115 i1 _ 4 64 Tryz.underlying93 RI0.out RI1.out RI2.out RI3.out rfl (by omega) xP vB _ _ (by rfl) HM.o.oB.own gq 115 #[.bool v10.b1,.slice v10.A v10.n v10.c,.bool v10.b2,.slice v10.A2 v10.m v10.d] (by rfl) tB.o rfl ?k1 ?k2 ?k3 ?k4 ?_
   case k1=>exact FT v10
   case k2=>have:=HM.o.oB.len;have:=ON.o.2.2.1;simp only [maxLen];omega
   case k3=>have:=HM.o.oB.len;have:=ON.o.2.2.1;omega
   case k4=>exact HM.o.blk.lt
   intro pA pn pc w9 q1 q2 q3 q4;have hm9:=HM.o.appB HVU.o q1 q2 q3 q4;have gE:=q2.blk _ _ _ HM.o.blk (by decide);have UV:=q2.blk _ _ _ HS.o (by decide);have HMN:=lH hm9;have R1:=lH (UV.far (p:=⟨g,4,none⟩) (by have:=HGX.o;show gx≠g;omega) (.slice pA pn pc));have GQ:aG w9 gy 115 #[.bool v10.b1,.slice v10.A v10.n v10.c,.bool v10.b2,.slice v10.A2 v10.m v10.d]:=(q4 gy cU.o.lt (fun hc=>absurd (HNE.o gy hc) (Nat.lt_irrefl _))).trans cU.o;have aSE:=lH (GQ.far (p:=⟨g,4,none⟩) (by have:=HGY.o;show gy≠g;omega) (.slice pA pn pc));have HV9:=lH ((dL.keeps D9.o q2).keep1 (i:=4) gE (y:=vB) rfl HM.o.oB.own.ni (.slice pA pn pc));have p2:=gE.cell 4;have pl:=gE.lt;have pf:=gE.frozen;clear q1 q2 q3 q4 hm9 gE UV HM HS tB HVU cU D9 GQ;refine aP (by rfl) ?_;go_simp;refine aP (by rfl) ?_;go_simp;refine aP (by rfl) ?_
   go_upto_region 9 with fail
   clear p2 pl pf;generalize w9.setCell ⟨g,4,none⟩ (.slice pA pn pc)=we at *;have HM:Hid (I6 g w1 we _ _ _ _ _ _ _ _ _ _ _ _):=HMN;have HS:=R1;have cU:=aSE;have D9:=HV9;rw [<-HT3.o] at HM;clear HMN R1 aSE HV9;generalize Value.slice pA pn pc=vB2 at *;have HQM:Hid (bU (gQ s)+bU (Rat.divInt (-s.shift) 1000)+1<=35184372088832):=lH (by have:=yW qS.o.2.2.2;have:=KA qS.o.2.2.2;omega);have z4:=HM.o.blk.cell 5;have zl:=HM.o.blk.lt;have b0:=cU.o.cell 0;have b1:=cU.o.cell 1;have b2:=cU.o.cell 2;have b3:=cU.o.cell 3;have bl:=cU.o.lt;have s5:=HS.o.cell 5;have sl:=HS.o.lt;have bK:=lH (aD (Below.refl we.heap.size we))
   refine jQ (S:=fun w'=>Below we.heap.size we w') 11 0 _ _ _ _ _ (.pointer (some ⟨g,0,none⟩)) (by kernel_rfl) (by kernel_rfl) (by kernel_rfl) (by kernel_rfl) (by kernel_rfl) rfl (by decide) (by kernel_rfl) rfl rfl rfl rfl (by kernel_rfl) (fun _ _ _ h=>h) (by rfl) (fun w'=>by go_simp<;>with_reducible rfl) (aD bR) (fun hHeld=>?_);simp only [lA,List.take_zero]
   try simp only [Act.put,bP,bO,bN]
   refine aL 1 rfl ?_;refine aL 2 rfl ?_;refine aL 3 rfl ?_;refine aL 4 rfl ?_;refine aL 5 rfl ?_;refine aL 6 rfl ?_;refine aL 7 rfl ?_;refine aL 8 rfl ?_;refine aU 9 (by kernel_rfl) rfl (fun K hK=>?_);go_simp;rw [HSH.o];refine (HSF.o _).mono ?_;rintro e w11 ⟨mF,v11,rfl,h11⟩;have rB:Hid (Below we.heap.size we w11):=lH (bK.o.tm mF);have H11:=lH h11;clear mF h11;go_simp;refine hK.out _ _ ?_ (fun hHeld=>?_)
   ·exact rB.o
   clear hK K
   try simp only [Act.put,bP,bO,bN]
   refine aU 10 (by kernel_rfl) rfl (fun K hK=>?_);go_simp;refine (MR (D9.o.up rB.o) H11.o HQM.o).mono ?_;rintro e w12 ⟨uQ,v12,rfl,h12⟩;have vI:Hid (Below we.heap.size we w12):=lH (rB.o.tm uQ);have H12:=lH h12;clear uQ h12 rB H11;go_simp;refine hK.out _ _ ?_ (fun hHeld=>?_)
   ·exact vI.o
   clear hK K
   try simp only [Act.put,bP,bO,bN]
   refine aU 11 (by kernel_rfl) rfl (fun K hK=>?_);go_simp;refine hK.out _ _ ?_ (fun hHeld=>?_)
   ·exact vI.o.alloc vI.o.size _
   clear hK K
   try simp only [Act.put,bP,bO,bN]
   refine wpAnyH_done (by kernel_rfl) ?_ _;refine aP (by rfl) ?_;clear hHeld;have qL:Below we.heap.size we (w12.alloc (.cells #[.bool v12.b1,.slice v12.A v12.n v12.c,.bool v12.b2,.slice v12.A2 v12.m v12.d] 115)):=vI.o.alloc vI.o.size _;have tB:Hid (aG (w12.alloc (.cells #[.bool v12.b1,.slice v12.A v12.n v12.c,.bool v12.b2,.slice v12.A2 v12.m v12.d] 115)) w12.heap.size 115 #[.bool v12.b1,.slice v12.A v12.n v12.c,.bool v12.b2,.slice v12.A2 v12.m v12.d]):=lH (aG.new w12 _ _);replace HM:=lH (HM.o.up qL);replace HS:=lH (HS.o.bl qL);replace cU:=lH (cU.o.bl qL);replace D9:=lH (D9.o.up qL);have HVU:=lH (H12.o.up ((Below.refl w12.heap.size w12).alloc lR (.cells #[.bool v12.b1,.slice v12.A v12.n v12.c,.bool v12.b2,.slice v12.A2 v12.m v12.d] 115)));clear z4 zl b0 b1 b2 b3 bl bK qL s5 sl
   generalize w12.alloc (.cells #[.bool v12.b1,.slice v12.A v12.n v12.c,.bool v12.b2,.slice v12.A2 v12.m v12.d] 115)=wl at *;generalize w12.heap.size=gq at *;refine nB (S:=oX) (.tmp 83) (.tmp 90) 93 rfl (g+1) 115 i1 _ 4 64 Tryz.underlying93 RI0.out RI1.out RI2.out RI3.out rfl (by omega) xP vC _ _ (by rfl) HM.o.oC.own gq 115 #[.bool v12.b1,.slice v12.A v12.n v12.c,.bool v12.b2,.slice v12.A2 v12.m v12.d] (by rfl) tB.o rfl ?k1 ?k2 ?k3 ?k4 ?_
   case k1=>exact FT v12
   case k2=>have:=HM.o.oC.len;have:=ON.o.2.2.2;simp only [maxLen];omega
   case k3=>have:=HM.o.oC.len;have:=ON.o.2.2.2;omega
   case k4=>exact HM.o.blk.lt
   intro pA pn pc w9 q1 q2 q3 q4;have hm9:=HM.o.appC HVU.o q1 q2 q3 q4;have gE:=q2.blk _ _ _ HM.o.blk (by decide);have UV:=q2.blk _ _ _ HS.o (by decide);have HMN:=lH hm9;have R1:=lH (UV.far (p:=⟨g,5,none⟩) (by have:=HGX.o;show gx≠g;omega) (.slice pA pn pc));have p2:=gE.cell 5;have pl:=gE.lt;have pf:=gE.frozen;clear q1 q2 q3 q4 hm9 gE UV HM HS tB HVU cU D9 H12 vI;refine aP (by rfl) ?_;go_simp;refine aP (by rfl) ?_;go_simp;refine aP (by rfl) ?_
   go_wp2_with fail
   clear p2 pl pf;go_roundw
   case rel=>
    have hm:=HMN.o;rw [show gQ s*Rat.divInt (-s.shift) 1000=nI s from rfl,<-HT4.o] at hm;exact ⟨k+1,_,_,_,_,_,_,aW,aQ eN.o,hm⟩
   case measure=>exact iL.o
  ·have lS:k=m2:=by omega
   have HZ:Hid (MdZ g w1 wr (.slice (some ⟨g1,0,none⟩) m0 m0) (.slice (some ⟨g2,0,none⟩) (aI x) (aI x)) vF vT vB vC (.slice none 0 0) (gV x) (B7 x) uB uC (mB x) (mC x) []):=lH (by
    have h:=HM.o.z;rw [nW (by rw [oR];have:=NZ.o;omega),nW (by rw [wB];have:=NZ.o;omega),nW (by rw [qV];have:=NZ.o;omega),nW (by rw [aDG];have:=NZ.o;omega)] at h;exact h)
   have fT:¬(k:Int)<(m2:Int):=by omega
   have HGR:Hid (g<wr.heap.size):=lH HM.o.blk.lt;have rY:Below wr.heap.size wr (wr.alloc (.map #[] 0)):=bA;have HSM:Hid (∃ n,iJ (wr.alloc (.map #[] 0)) wr.heap.size n ((jH x).take 0)/\n<=0):=lH ⟨0,iJ.made wr,lR⟩;replace HZ:=lH (HZ.o.up rY);have HBN:Hid (aI x<=24):=lH (cV (fR cH.o).2 (by have:=HL0.o;omega));have HIS:=lH (PR cH.o);have aEl:=@run_makeMap Tryz.prog;have z1:=HZ.o.blk.cell 1;have zl:=HZ.o.blk.lt;clear lS HM rE HXR HW rY hk aW
   go_wp2_with fail
   clear aEl z1 zl;generalize wr.alloc (.map #[] 0)=wm at *;generalize wr.heap.size=bm at *
   go_loopw [102] (fun v102 wr=>∃ (k:Nat) (vZ:Value),k<=aI x/\v102=.int .i64 k/\MdZ g w1 wr (.slice (some ⟨g1,0,none⟩) m0 m0) (.slice (some ⟨g2,0,none⟩) (aI x) (aI x)) vF vT vB vC vZ (gV x) (B7 x) uB uC (mB x) (mC x) (kE (iB (jH x)) k)/\∃ n,iJ wr bm n ((jH x).take k)/\n<=k) (fun v102 _=>aI x-(intOf v102).toNat)
   case atStart=>exact ⟨0,_,Nat.zero_le _,rfl,HZ.o,HSM.o⟩
   case round=>
    clear HZ HSM;obtain ⟨k,vZ,hk,rfl,hz,n,hsn,hn⟩:=hrel;have HZ:=lH hz;have HSN:=lH hsn;have kK:=hz.low;clear hz hsn
    by_cases aW:k<aI x
    ·obtain ⟨s,hs⟩:∃ s,(jH x)[k]?=some s:=eO (by rw [HIS.o.2];exact aW)
     have kC:(xZ x)[k]?=some (s:Int):=by rw [<-HIS.o.1];exact iT hs
     have hic:=XY (vG.o.below kK (by have:=vG.o.lt;have:=HG.o;omega)) kC;have OJ:=lH (kJ hs);have hsd:(jH x).getD k 0=s:=by rw [eY,hs];rfl
     have SZ:Hid ((((jH x).take k).any fun y=>y == s)=iB (jH x) k):=lH (by rw [<-ZY (by rw [HIS.o.2];exact aW),hsd]);have HPK:=lH (BV (iB (jH x)) k);have a1P:s<=24:=by
      have h1:=(zN (NI cH.o).1).2 (s:Int) (cO kC);have:=HBN.o;omega
     have R8:Hid (keyOf Tryz.prog 3 (.int .i64 (s:Int))=some (.int .i64 (s:Int))):=lH (keyOf_int_mk Tryz.underlying3 (by simp [Lit.wf,IntKind.min,IntKind.max,IntKind.signed,IntKind.bits];omega));have aP_:g2<wr.heap.size:=by have:=vG.o.lt;have:=HG.o;have:=kK.size;omega
     have fT:(k:Int)<(aI x:Int):=by omega
     have eN:=lN k;have iL:Hid (aI x-(k+1)<aI x-k):=lH (by omega);have a2W:=HBN.o;have aSo:Hid (g<=w1.heap.size):=lH (by rw [HG.o];exact lR);have HPL:Hid ((kE (iB (jH x)) k).length<=24):=lH (by unfold kE;refine cV (List.length_filter_le _ _) ?_;rw [List.length_range];omega);clear hs kC hsd kK;have aUs:=HSN.o;obtain ⟨D,bF,U2,LA⟩:=aUs;have IN:=lH bF;have HAT:=lH LA;have a2c:n<=24:=by omega
     cases uO:iB (jH x) k with
     | false=>
      have AN:Hid (D.atKey (.int .i64 (s:Int)) (.lit (.bool false))=.lit (.bool false)):=lH (by rw [HAT.o,SZ.o,uO]);have aNc:Hid (kE (iB (jH x)) (k+1)=kE (iB (jH x)) k):=lH (by rw [HPK.o,uO];simp);clear uO bF LA
      go_wp2_with (first | (at_lookup;refine fB _ rfl _ _ 157 rfl 3 4 EW Tryz.underlying157 Tryz.underlying4 (vK _) bm n D rfl IN.o _ _ rfl R8.o _ AN.o ?_) | (at_mapUpdate;refine wpList_mapUpdate_own _ rfl _ _ _ 157 rfl 3 4 EW Tryz.underlying157 _ bm n D rfl IN.o (by unfold maxLen;omega) _ _ _ rfl rfl R8.o _ [] (plainElem_bool Tryz.underlying4 true) ?_))
      intro w5 hown5 hg5;have HS5:=lH (iJ.put s hown5 U2 HAT.o);have HZ5:=lH (HZ.o.mapped HSN.o hg5 HGR.o aSo.o);clear hown5 hg5 IN HAT AN hic aP_
      go_wp2_with fail
      go_roundw
      case rel=>exact ⟨k+1,vZ,aW,aQ eN.o,by rw [aNc.o];exact HZ5.o,n+1,by rw [OJ.o];exact HS5.o,by omega⟩
      case measure=>exact iL.o
     | true=>
      have AN:Hid (D.atKey (.int .i64 (s:Int)) (.lit (.bool false))=.lit (.bool true)):=lH (by rw [HAT.o,SZ.o,uO]);have aNc:Hid (kE (iB (jH x)) (k+1)=kE (iB (jH x)) k++[k]):=lH (by rw [HPK.o,uO];simp);have rY:Below wr.heap.size wr (wr.alloc (.cells #[.int .i64 (k:Int)] 3)):=bA;have VY:=lH (HZ.o.up rY);have NT:=lH (HSN.o.below rY);have tB:=lH (aG.new wr 3 #[.int .i64 (k:Int)]);have z6:=HZ.o.blk.cell 6;have zl:=HZ.o.blk.lt;clear uO bF LA rY
      go_wp2_with (first | (at_lookup;refine fB _ rfl _ _ 157 rfl 3 4 EW Tryz.underlying157 Tryz.underlying4 (vK _) bm n D rfl IN.o _ _ rfl R8.o _ AN.o ?_) | (at_builtin;refine DR (S:=rD) rfl (.tmp 114) (.tmp 116) 30 rfl (g+1) 3 i0 _ 1 8 Tryz.underlying30 DN.o AR.o J0.o JZ.o rfl (by omega) Y_ vZ _ _ rfl VY.o.oZ wr.heap.size 3 #[.int .i64 (k:Int)] rfl tB.o rfl ?k1 ?k2 ?k3 ?k4 ?_))
      case k1=>first | (intro u hu;rw [show u=.int .i64 (k:Int) from by simpa using hu];exact ⟨rfl,_,rfl⟩) | exact ⟨rfl,_,rfl⟩
      case k2=>have:=HPL.o;simp only [maxLen];omega
      case k3=>have:=HPL.o;omega
      case k4=>exact VY.o.blk.lt
      intro pA pn pc w9 q1 q2 q3 q4;have hz9:=VY.o.app q1 q2 (by simpa using q3) (fun i hi=>q4 i (by simpa using hi));have aP8:(wr.alloc (.cells #[.int .i64 (k:Int)] 3)).grownBy w9 vZ.ownBlock:=⟨q2.low.os,q2.low.tape,q2.low.output,q2.size,fun i hi cP=>q4 i (by simpa using hi) (fun e=>cP e.symm)⟩;have UV:=NT.o.kept aP8 (iJ.apart NT.o VY.o.oZ);have gE:=q2.blk _ _ _ VY.o.blk (by decide);have R1:Hid (iJ (w9.setCell ⟨g,6,none⟩ (.slice pA pn pc)) bm n ((jH x).take k)):=lH (UV.kept (gC (gK bR (some g)) (.inl rfl) _) (by intro e;injection e with e;have:=HGR.o;omega));have HZ9:=lH hz9;have p6:=gE.cell 6;have pl:=gE.lt;have pf:=gE.frozen;clear q1 q2 q3 q4 hz9 aP8 UV gE VY NT tB IN HAT AN hic aP_ z6 zl HSN HZ U2
      go_upto_region 17 with fail
      clear p6 pl pf;generalize w9.setCell ⟨g,6,none⟩ (.slice pA pn pc)=wq at *;generalize Value.slice pA pn pc=vZ2 at *;have hsq:=R1.o;obtain ⟨D2,bF,U2,LA⟩:=hsq;have HO2:=lH bF;have aSL:=lH LA;clear bF LA
      go_wp2_with (at_mapUpdate;refine wpList_mapUpdate_own _ rfl _ _ _ 157 rfl 3 4 EW Tryz.underlying157 _ bm n D2 rfl HO2.o (by unfold maxLen;omega) _ _ _ rfl rfl R8.o _ [] (plainElem_bool Tryz.underlying4 true) ?_)
      intro w5 hown5 hg5;have HS5:=lH (iJ.put s hown5 U2 aSL.o);have HZ5:=lH (HZ9.o.mapped R1.o hg5 HGR.o aSo.o);clear hown5 hg5 HO2 aSL
      go_wp2_with fail
      go_roundw
      case rel=>exact ⟨k+1,vZ2,aW,aQ eN.o,by rw [aNc.o];exact HZ5.o,n+1,by rw [OJ.o];exact HS5.o,by omega⟩
      case measure=>exact iL.o
    ·have fT:¬(k:Int)<(aI x:Int):=by omega
     have lS:k=aI x:=by omega
     have hFL:kE (iB (jH x)) k=aA x:=by rw [lS];rfl
     have pU:=HZ.o;rw [hFL] at pU;obtain ⟨aF,cF,hvF,hrF⟩:=F1 pU.oF;obtain ⟨aT,cT,hvT,hrT⟩:=F1 pU.oT;obtain ⟨aZ,cZ,hvZ,hrZ⟩:=F1 pU.oZ;obtain ⟨aB,cB,hvB,hrB,-⟩:=pU.oB.rd;obtain ⟨aC,cC,hvC,hrC,-⟩:=pU.oC.rd;have X7:=OM.o.below pU.low (by have:=OM.o.lt;have:=HG.o;omega);have AW:=vG.o.below pU.low (by have:=vG.o.lt;have:=HG.o;omega);have qL:=(qP cH.o).1;have aP5:=(zN (NI cH.o).1).1;have tA:Hid (fG wr wr.heap.size ⟨some ⟨g1,0,none⟩,m0,m0,some ⟨g2,0,none⟩,aI x,aI x,aF,(gV x).length,cF,aT,(B7 x).length,cT,aB,(mB x).length,cB,aC,(mC x).length,cC,aZ,(aA x).length,cZ⟩ x):=lH ⟨XA X7 (by rw [qL];exact HL0.o),XA AW aP5,hrF,hrT,hrB,hrC,hrZ⟩;have E8:=lH pU.blk;rw [hvF,hvT,hvZ,hvB,hvC] at E8;have aJh:=lH pU.low
     have HIV:=lH (UK g ⟨some ⟨g1,0,none⟩,m0,m0,some ⟨g2,0,none⟩,aI x,aI x,aF,(gV x).length,cF,aT,(B7 x).length,cT,aB,(mB x).length,cB,aC,(mC x).length,cC,aZ,(aA x).length,cZ⟩ x cH.o H8.o wr E8.o tA.o);have zl:=E8.o.lt;clear lS hFL pU hvF hrF hvT hrT hvZ hrZ hvB hrB hvC hrC X7 AW qL aP5 HZ HSN tA E8
     go_wp2_with fail
     refine HIV.o.mono ?_;rintro e w5 ⟨rfl,hgr,QG,A,n9,c9,I4,aEt⟩;have dX:Hid (Below w.heap.size w w5):=lH (bS.o.trans (yG aJh.o hgr lR (by rw [HG.o];exact lR) |>.mono J1.o.2));have tA:=lH QG;have E8:=lH I4;have IP:=lH aEt;clear hgr QG I4 aEt HIV
     go_wp2_with fail
     go_ret;exact ⟨dX.o,g,_,A,n9,c9,rfl,J1.o.2,E8.o,tA.o,IP.o⟩
end
