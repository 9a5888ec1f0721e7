import Derived.Test.YthgdchffeigkbaaGreatDoorX02
import Derived.ChangeSame
import Derived.Carry
import Derived.Lib.SmallJoins
import Derived.Deep.Slices
import Derived.Deep.Fields
import Derived.Laws.Strings
import Derived.Laws.IdiomStrings
import Derived.Maps.OwnOps
import Derived.Maps.Views
set_option linter.unusedVariables false
set_option linter.unusedSimpArgs false
namespace Go.Proofs.YthgdchffeigkbaaGreatDoor
set_option maxHeartbeats 8000000
set_option maxRecDepth 100000
section
open Go.ChangeShapes Go.WideShapes Go.ChangeAt Go.RowKit Go.Joins
section
variable {H:Type} {enc:TypeId×Value->H} {P:Program}
theorem JD {f:Func} {s:ChangeSpec} {apart fresh handsOn again:Bool} {W W':Wo} {args:Array Value} {v:Value} {ds gs:List (DataW H)} {before pa pv:List MemPlace}
    (hW:DataW.Whole enc P f.params.toList s.vars apart W args.toList ds gs before)
    (aAv:∀ (b:Nat) (sp:Nat->Bool) (hd:Bool),DataW.TrodAll enc P W' b sp hd f.resultTypes.toList (v.resultList f.resultTypes.size) (s.fn H (ds++gs)).results [])
    (aKi:∀ sp:Nat->Bool,(∀ p∈before,sp p.block=true)->DataW.TrodAll enc P W' 0 sp true f.params.toList args.toList (s.fn H (ds++gs)).args pa)
    (P_:∀ sp:Nat->Bool,(∀ p∈before,sp p.block=true)->DataW.TrodVars enc P W' sp s.vars (s.fn H (ds++gs)).vars pv)
    (GN:before=pa++pv) (hb:Below W.heap.size W W')
    (pY:∀ (j:Nat) (t:TypeId) (r:Value),f.resultTypes[j]?=some t->(v.resultList f.resultTypes.size)[j]?=some r->Value.okWide P W' .any 0 t r) :
    s.post enc P f apart fresh handsOn again W args v W':=by
 have aW:∀ p∈before,p.block<W.heap.size:=fun p hp=>hW.lt p hp;have hold:∀ p∈before,(fun b=>decide (b<W.heap.size)) p.block=true:=fun p hp=>by simpa using aW p hp
 refine ⟨ds,gs,before,[],pa,pv,hW,aAv _ _ _,aKi _ hold,P_ _ hold,World.keptBut_mono (fun p hp=>⟨hp,?_⟩) (hb.frame (·∈before)),fun _=>?_⟩
 ·rw [GN,List.mem_append] at hp
  exact Or.inr hp
 ·obtain ⟨_,_,_,_,_,hz,hn⟩:=hW
  refine ⟨pY,_,_,([]++pa)++pv,⟨[]++pa,pv,trodAll_append (aKi _ (fun _ _=>rfl)) (aAv _ _ _),P_ _ (fun _ _=>rfl),rfl,?_,?_⟩,?_⟩
  ·intro b off hp
   have lG:MemPlace.cell b off∈before:=by rw [GN];simpa using hp
   rw [hb.frozen (aW _ lG)];exact hz b off lG
  ·intro ha
   have:=hn ha;rw [GN] at this;simpa using this
  ·intro p hp _
   rw [GN];simpa using hp
theorem xF (hl:laidOutB P=true) {W W':Wo} (hb:Below W.heap.size W W') (sp:Nat->Bool) :
    ∀ {ts:List TypeId} {vs:List Value} {ds:List (DataW H)} {p:List MemPlace},(∀ t∈ts,P.readableRec t=true/\t<P.types.size)->DataW.TrodAll enc P W 0 (fun _=>true) true ts vs ds p->
     (∀ x∈p,x.block<W.heap.size)->(∀ x∈p,sp x.block=true)->DataW.TrodAll enc P W' 0 sp true ts vs ds p
 | [],[],[],_,_,h,_,_=>h
 | [],[],_::_,_,_,h,_,_=>h.elim
 | [],_::_,_,_,_,h,_,_=>h.elim
 | _::_,[],_,_,_,h,_,_=>h.elim
 | _::_,_::_,[],_,_,h,_,_=>h.elim
 | t::ts,v::vs,d::ds,ps,hr,h,aW,hsp=>by
  obtain ⟨p,q,h1,h2,rfl⟩:=h;refine ⟨p,q,?_,xF hl hb sp (fun t ht=>hr t (List.mem_cons_of_mem _ ht)) h2 (fun x hx=>aW x (List.mem_append_right _ hx)) (fun x hx=>hsp x (List.mem_append_right _ hx)),rfl⟩;exact WideElems.Trod_stays hl (hr t (List.mem_cons_self ..)).1 (hr t (List.mem_cons_self ..)).2 h1 (fun x hx=>hb.same (aW x (List.mem_append_left _ hx))) (fun x hx=>hsp x (List.mem_append_left _ hx))
theorem aOW (hl:laidOutB P=true) {f:Func} {s:ChangeSpec} {apart fresh handsOn again:Bool} {W W':Wo} {args:Array Value} {ds:List (DataW H)} {before:List MemPlace} {tb:TypeId}
    (P_:s.vars=[]) (hfn:s.fn H ds={ results:=[.lit (.bool true)],args:=ds })
    (aPp:∀ t∈f.params.toList,P.readableRec t=true/\t<P.types.size) (SM:f.resultTypes=#[tb]) (UT:P.underlying tb=some .bool)
    (hW:DataW.Whole enc P f.params.toList s.vars apart W args.toList ds [] before) (hb:Below W.heap.size W W') :
    s.post enc P f apart fresh handsOn again W args (.bool true) W':=by
 have hW0:=hW;obtain ⟨p,q,hA,hV,hpq,_,_⟩:=hW;rw [P_] at hV;have hq:q=[]:=hV;subst hq;refine JD (pa:=p) (pv:=[]) hW0 ?_ ?_ ?_ hpq hb ?_
 ·intro b sp hd
  rw [List.append_nil,hfn,SM];exact ⟨[],[],shut_bool UT true,rfl,rfl⟩
 ·intro sp hsp
  rw [List.append_nil,hfn];exact xF hl hb sp aPp hA (fun x hx=>hW0.lt x (by rw [hpq];simpa using hx)) (fun x hx=>hsp x (by rw [hpq];simpa using hx))
 ·intro sp hsp
  rw [List.append_nil,hfn,P_];rfl
 ·intro j t r h1 h2
  rw [SM] at h1 h2
  match j with
  | 0=>
   simp [Value.resultList] at h1 h2;subst h1;subst h2;exact okWide_bool_mk UT true
  | j+1=>simp at h1
end
end
section
open Go.ChangeShapes Go.WideShapes Go.ChangeAt Go.RowKit Go.Joins Go.Deep
theorem pL {α β:Type} {el:α->List β} {sz:Nat} (eC:∀ a,(el a).length=sz) (xs:List α):(xs.flatMap el).length=xs.length*sz:=by
 induction xs with
 | nil=>simp
 | cons x r ih=>simp [ih,eC,Nat.succ_mul,Nat.add_comm]
theorem jT {α β:Type} {el:α->List β} {sz:Nat} (eC:∀ a,(el a).length=sz):∀ (xs:List α) (i:Nat) (x:α),xs[i]?=some x->∀ k,k<sz->(xs.flatMap el)[i*sz+k]?=(el x)[k]?
 | [],i,x,h,k,hk=>by simp at h
 | y::r,0,x,h,k,hk=>by
  simp at h;subst h;rw [List.flatMap_cons,xQ (by rw [eC];omega)];simp
 | y::r,i+1,x,h,k,hk=>by
  rw [List.flatMap_cons,AZ (by rw [eC,Nat.succ_mul];omega),eC];rw [show (i+1)*sz+k-sz=i*sz+k from by rw [Nat.succ_mul];omega];exact jT eC r i x (by simpa using h) k hk
theorem aIP {w:Wo} {a:Addr} {v:Value} (h:w.cell? a=some v):a.block<w.heap.size/\a.spot=none:=by
 unfold World.cell? at h;cases hb:w.heap[a.block]? with
 | none=>rw [hb] at h;cases h
 | some o=>
  rw [hb] at h;refine ⟨(Array.getElem?_eq_some_iff.1 hb).1,?_⟩;cases o with
  | cells c t f=>
   simp only at h
   split at h
   ·cases h
   ·rename_i hs;simpa using hs
  | _=>cases h
theorem RL {α:Type} (n:Nat) {Q:Nat->α->Prop} (h:∀ i,i<n->∃ a,Q i a):∃ xs:List α,xs.length=n/\∀ (i:Nat) (a:α),xs[i]?=some a->Q i a:=by
 induction n with
 | zero=>exact ⟨[],rfl,by simp⟩
 | succ n ih=>
  obtain ⟨xs,hl,hx⟩:=ih fun i hi=>h i (by omega);obtain ⟨a,ha⟩:=h n (by omega);refine ⟨xs++[a],by simp [hl],fun i b hb=>?_⟩
  by_cases hi:i<n
  ·rw [xQ (by omega)] at hb;exact hx i b hb
  ·rw [AZ (by omega)] at hb
   have lG:i=n:=by
    have:=(dP.1 hb).1;simp at this;omega
   subst lG;simp [hl] at hb;subst hb;exact ha
section
variable {H:Type} {enc:TypeId×Value->H} {P:Program} {w:Wo} {spare:Nat->Bool} {QL:Bool}
theorem mQ {α:Type} (el:α->List Value) (sz:Nat) (Q:α->Prop) {t e:TypeId} {fuel:Nat} {cs:List Value} {x:DataW H×List MemPlace} (ht:P.underlying t=some (.slice e)) (hC:P.cellsOf e=sz) (UZ:0<sz)
    (eC:∀ a,(el a).length=sz) (hel:∀ (fu:Nat) (cs':List Value) (y:DataW H×List MemPlace),DataW.trod enc P w 0 spare QL fu e cs'=some y->∃ a,cs'=el a/\Q a)
    (h:DataW.trod enc P w 0 spare QL fuel t cs=some x) :
    ∃ (A:OA) (n c:Nat) (xs:List α),cs=[.slice A n c]/\n<=c/\c<=maxLen/\xs.length=n/\(∀ a∈xs,Q a)/\Rd w w.heap.size sz A n (xs.flatMap el):=by
 rcases open_slice ht h with ⟨rfl,_⟩ | ⟨a,len,cap,m,fu,D,Pl,rfl,hb,hl,hm,pS,_,hi⟩
 ·exact ⟨none,0,0,[],rfl,lR,by simp [maxLen],rfl,by simp,by simp,fun h=>by omega⟩
 ·have hlm:len<=m:=by rw [pS];split<;>omega
  have key:∀ i,i<len->∃ y:α,w.cells? 0 (a.add (i*sz)) sz=some (el y)/\Q y:=by
   intro i lG;obtain ⟨cs',hc,ht'⟩:=hi i (by omega);obtain ⟨y,rfl,hq⟩:=hel _ _ _ ht';exact ⟨y,by rw [hC] at hc;exact hc,hq⟩
  obtain ⟨xs,hxl,hx⟩:=RL len key;refine ⟨some a,len,cap,xs,rfl,hl,hm,hxl,fun y hy=>?_,by rw [pL eC,hxl],fun h0=>?_⟩
  ·obtain ⟨i,hi⟩:=List.getElem?_of_mem hy
   exact (hx i y hi).2
  ·obtain ⟨y0,wC⟩:∃ y,xs[0]?=some y:=eO (by omega)
   obtain ⟨_,_,aVS⟩:=World.cells?_some (hx 0 y0 wC).1;have JK:=aVS 0 UZ;have tI:(el y0)[0]?=some ((el y0)[0]'(by rw [eC];omega)):=jA (by rw [eC];omega);rw [tI] at JK;obtain ⟨aW,hsp⟩:=aIP JK;have hs:a.spot=none:=by simpa [Addr.add] using hsp
   have aIq:∀ j,(a.add j)=⟨a.block,a.off+j,none⟩:=by
    intro j;unfold Addr.add
    split
    ·rename_i hj;subst hj;cases a;simp at hs;subst hs;rfl
    ·rfl
   refine ⟨a.block,a.off,by cases a;simp at hs;subst hs;rfl,by simpa [Addr.add] using aW,fun j u hu=>?_⟩;have sQ:j<len*sz:=by have:=(dP.1 hu).1;rw [pL eC,hxl] at this;exact this
   have hq:j / sz<len:=Nat.div_lt_of_lt_mul (by rw [Nat.mul_comm];exact sQ);obtain ⟨y,hy⟩:∃ y,xs[j / sz]?=some y:=eO (by omega);have hm':j % sz<sz:=Nat.mod_lt _ UZ;have hdm:j / sz*sz+j % sz=j:=by have:=Nat.div_add_mod j sz;rw [Nat.mul_comm] at this;exact this
   have h1:=jT eC xs _ y hy _ hm';rw [hdm,hu] at h1;obtain ⟨_,_,LA⟩:=World.cells?_some (hx _ y hy).1;have h2:=LA _ hm';rw [Go.Deep.add_add,hdm] at h2;rw [<-aIq,h2,<-h1]
theorem mR {t:TypeId} {fs:Array Field} {fuel:Nat} {cs:List Value} {x:DataW H×List MemPlace} (ht:P.underlying t=some (.struct fs)) (JF:oneCellFields P fs=true) (hC:P.cellsOf t=fs.size)
    (h:DataW.trod enc P w 0 spare QL fuel t cs=some x):cs.length=fs.size/\∀ (j:Nat) (f:Field),fs[j]?=some f->∃ (v:Value) (n:Nat) (y:DataW H×List MemPlace),cs[j]?=some v/\DataW.trod enc P w 0 spare QL n f.type [v]=some y:=by
 obtain ⟨ys,n',hn',hy,eC,hyl,hf⟩:=DataW.trod_struct ht h;rw [hC] at eC;refine ⟨eC,fun j f hj=>?_⟩;obtain ⟨ho,hk⟩:=hone_of JF j f hj;have sQ:j<fs.size:=(Array.getElem?_eq_some_iff.1 hj).1;have h1:=hf j f hj;rw [ho,hk] at h1;have aPE:(cs.drop j).take 1=[cs[j]'(by omega)]:=by
  rw [List.drop_eq_getElem_cons (by omega)];rfl
 rw [aPE] at h1;exact ⟨_,n',_,jA (by omega),h1.trans (jA (by omega))⟩
theorem eF {t:TypeId} {k:IntKind} {fuel:Nat} {cs:List Value} {x:DataW H×List MemPlace} (ht:P.underlying t=some (.int k)) (h:DataW.trod enc P w 0 spare QL fuel t cs=some x):∃ n:Int,cs=[.int k n]/\(Lit.int k n).wf=true:=by
 obtain ⟨n,h1,_,h2⟩:=DataW.trod_int ht h;exact ⟨n,h1,h2⟩
theorem eE {t:TypeId} {fuel:Nat} {cs:List Value} {x:DataW H×List MemPlace} (ht:P.underlying t=some .string) (h:DataW.trod enc P w 0 spare QL fuel t cs=some x):∃ s:ByteArray,cs=[.string s]/\s.size<=maxLen:=by
 obtain ⟨n,h1,_,h2⟩:=DataW.trod_string ht h;exact ⟨n,h1,h2⟩
end
end
section
open Go.ChangeShapes Go.WideShapes Go.ChangeAt Go.RowKit Go.Joins Go.Deep
attribute [local go_sem ↓] aE
attribute [local go_sem] aK aH aM
def pR (z y:ByteArray):Bool:=decide (z=y)
theorem aY (z y:ByteArray):(z.toList == y.toList)=pR z y:=by
 unfold pR;rw [ByteArray.toList_eq,ByteArray.toList_eq,Bool.eq_iff_iff,beq_iff_eq,decide_eq_true_eq]
 constructor
 ·intro h
  cases z;cases y
  simp at h;rw [h]
 ·rintro rfl;rfl
theorem sK {z y:ByteArray}:pR z y=true<->z=y:=by unfold pR;exact decide_eq_true_iff
theorem BK {z y:ByteArray}:pR z y=false<->z≠y:=by unfold pR;exact decide_eq_false_iff_not
def fE (ss:List ByteArray):List Value:=ss.map Value.string
def bG (w:Wo) (B:Nat) (A:OA) (n:Nat) (ss:List ByteArray):Prop:=ss.length=n/\Rd w B 1 A n (fE ss)
theorem bG.below {w w':Wo} {B B' n:Nat} {A:OA} {xs:List ByteArray} (h:bG w B A n xs) (hb:Below B' w w') (hB:B<=B'):bG w' B A n xs:=⟨h.1,h.2.below hb hB⟩
theorem bG.more {w:Wo} {B B' n:Nat} {A:OA} {xs:List ByteArray} (h:bG w B A n xs) (hB:B<=B'):bG w B' A n xs:=⟨h.1,h.2.more hB⟩
theorem bG.form {w:Wo} {B n:Nat} {A:OA} {xs:List ByteArray} (h:bG w B A n xs) (h0:0<n):∃ b off,A=some ⟨b,off,none⟩/\b<B:=by
 obtain ⟨b,off,e,aW,_⟩:=h.2.2 h0;exact ⟨b,off,e,aW⟩
theorem bG.at_ {w:Wo} {B n:Nat} {b off:Nat} {xs:List ByteArray} (h:bG w B (some ⟨b,off,none⟩) n xs) {i:Nat} {x:ByteArray} (hx:xs[i]?=some x):w.cell? ⟨b,off+i,none⟩=some (.string x):=by
 have hl:i<xs.length:=(dP.1 hx).1;have h1:=h.1;obtain ⟨b',off',e,_,hc⟩:=h.2.2 (by omega);injection e with e;injection e with e1 e2;subst e1;subst e2;exact hc i _ (by simp [fE,hx])
theorem Z5 (w:Wo) (B:Nat) (A:OA):bG w B A 0 []:=⟨rfl,rfl,fun h=>by omega⟩
theorem eR {w:Wo} {B g:Nat} {T:TypeId} {zs:List ByteArray} (h:aG w g T (fE zs).toArray) (hg:g<B):bG w B (some ⟨g,0,none⟩) zs.length zs:=
 ⟨rfl,by simp [fE],fun _=>⟨g,0,rfl,hg,fun j u hu=>by
  rw [show (⟨g,0+j,none⟩:Addr)=⟨g,j,none⟩ from by simp];rw [h.cell j];simpa using hu⟩⟩
theorem bG.take {w:Wo} {B n m:Nat} {A:OA} {zs:List ByteArray} (h:bG w B A n zs) (hm:m<=n):bG w B A m (zs.take m):=by
 have hl:=h.1;refine ⟨by simp;omega,by simp [fE];omega,fun h0=>?_⟩;obtain ⟨b,off,e,aW,hc⟩:=h.2.2 (by omega);refine ⟨b,off,e,aW,fun j u hu=>hc j u ?_⟩;simp only [fE,List.map_take] at hu ⊢;rw [List.getElem?_take] at hu
 split at hu
 ·exact hu
 ·cases hu
structure Sw where
 name:ByteArray
 a:ByteArray
 b:ByteArray
 breaker:Bool
 opn:Bool
def Sw.cells (x:Sw):List Value:=[.string x.name,.string x.a,.string x.b,.bool x.breaker,.bool x.opn]
def Sw.val (x:Sw):Value:=.agg #[.string x.name,.string x.a,.string x.b,.bool x.breaker,.bool x.opn]
theorem Sw.len (x:Sw):x.cells.length=5:=rfl
def wZ (w:Wo) (B:Nat) (A:OA) (n:Nat) (xs:List Sw):Prop:=xs.length=n/\Rd w B 5 A n (xs.flatMap Sw.cells)
theorem wZ.below {w w':Wo} {B B' n:Nat} {A:OA} {xs:List Sw} (h:wZ w B A n xs) (hb:Below B' w w') (hB:B<=B'):wZ w' B A n xs:=⟨h.1,h.2.below hb hB⟩
theorem wZ.more {w:Wo} {B B' n:Nat} {A:OA} {xs:List Sw} (h:wZ w B A n xs) (hB:B<=B'):wZ w B' A n xs:=⟨h.1,h.2.more hB⟩
theorem wZ.at_ {w:Wo} {B n:Nat} {b off:Nat} {xs:List Sw} (h:wZ w B (some ⟨b,off,none⟩) n xs) {i:Nat} {x:Sw} (hx:xs[i]?=some x) :
    w.cell? ⟨b,off+i*5,none⟩=some (.string x.name)/\w.cell? ⟨b,off+i*5+1,none⟩=some (.string x.a)/\w.cell? ⟨b,off+i*5+2,none⟩=some (.string x.b)/\w.cell? ⟨b,off+i*5+3,none⟩=some (.bool x.breaker)/\w.cell? ⟨b,off+i*5+4,none⟩=some (.bool x.opn):=by
 have hl:i<xs.length:=(dP.1 hx).1;have h1:=h.1;obtain ⟨b',off',e,_,hc⟩:=h.2.2 (by omega);injection e with e;injection e with e1 e2;subst e1;subst e2;have key:∀ k,k<5->∀ u,x.cells[k]?=some u->w.cell? ⟨b,off+i*5+k,none⟩=some u:=fun k hk u hu=>by
  have:=hc (i*5+k) u (by rw [jT Sw.len xs i x hx k hk];exact hu);rwa [<-Nat.add_assoc] at this
 exact ⟨key 0 (by omega) _ rfl,key 1 (by omega) _ rfl,key 2 (by omega) _ rfl,key 3 (by omega) _ rfl,key 4 (by omega) _ rfl⟩
theorem wZ.form {w:Wo} {B n:Nat} {A:OA} {xs:List Sw} (h:wZ w B A n xs) (h0:0<n):∃ b off,A=some ⟨b,off,none⟩/\b<B:=by
 obtain ⟨b,off,e,aW,_⟩:=h.2.2 h0;exact ⟨b,off,e,aW⟩
theorem Sw.box {w:Wo} {p:Nat} {t:TypeId} {x:Sw} (h:aG w p t #[.string x.name,.string x.a,.string x.b,.bool x.breaker,.bool x.opn]):w.cell? ⟨p,0,none⟩=some (.string x.name)/\w.cell? ⟨p,1,none⟩=some (.string x.a)/\w.cell? ⟨p,2,none⟩=some (.string x.b)/\w.cell? ⟨p,3,none⟩=some (.bool x.breaker)/\w.cell? ⟨p,4,none⟩=some (.bool x.opn)/\(∀ i,w.frozen? ⟨p,i,none⟩=false)/\p<w.heap.size:=
 ⟨h.cell 0,h.cell 1,h.cell 2,h.cell 3,h.cell 4,h.frozen,h.lt⟩
structure Br where
 name:ByteArray
 fr:ByteArray
 to:ByteArray
 x:Int
 tap:Int
 shift:Int
 limit:Int
 short:Int
 hold:Int
def Br.cells (x:Br):List Value:=[.string x.name,.string x.fr,.string x.to,.int .i64 x.x,.int .i64 x.tap,.int .i64 x.shift,.int .i64 x.limit,.int .i64 x.short,.int .i64 x.hold]
def Br.val (x:Br):Value:=.agg #[.string x.name,.string x.fr,.string x.to,.int .i64 x.x,.int .i64 x.tap,.int .i64 x.shift,.int .i64 x.limit,.int .i64 x.short,.int .i64 x.hold]
theorem Br.len (x:Br):x.cells.length=9:=rfl
def xC (w:Wo) (B:Nat) (A:OA) (n:Nat) (xs:List Br):Prop:=xs.length=n/\Rd w B 9 A n (xs.flatMap Br.cells)
theorem xC.below {w w':Wo} {B B' n:Nat} {A:OA} {xs:List Br} (h:xC w B A n xs) (hb:Below B' w w') (hB:B<=B'):xC w' B A n xs:=⟨h.1,h.2.below hb hB⟩
theorem xC.more {w:Wo} {B B' n:Nat} {A:OA} {xs:List Br} (h:xC w B A n xs) (hB:B<=B'):xC w B' A n xs:=⟨h.1,h.2.more hB⟩
theorem xC.at_ {w:Wo} {B n:Nat} {b off:Nat} {xs:List Br} (h:xC w B (some ⟨b,off,none⟩) n xs) {i:Nat} {x:Br} (hx:xs[i]?=some x) :
    w.cell? ⟨b,off+i*9,none⟩=some (.string x.name)/\w.cell? ⟨b,off+i*9+1,none⟩=some (.string x.fr)/\w.cell? ⟨b,off+i*9+2,none⟩=some (.string x.to)/\w.cell? ⟨b,off+i*9+3,none⟩=some (.int .i64 x.x)/\w.cell? ⟨b,off+i*9+4,none⟩=some (.int .i64 x.tap)/\w.cell? ⟨b,off+i*9+5,none⟩=some (.int .i64 x.shift)/\w.cell? ⟨b,off+i*9+6,none⟩=some (.int .i64 x.limit)/\w.cell? ⟨b,off+i*9+7,none⟩=some (.int .i64 x.short)/\w.cell? ⟨b,off+i*9+8,none⟩=some (.int .i64 x.hold):=by
 have hl:i<xs.length:=(dP.1 hx).1;have h1:=h.1;obtain ⟨b',off',e,_,hc⟩:=h.2.2 (by omega);injection e with e;injection e with e1 e2;subst e1;subst e2;have key:∀ k,k<9->∀ u,x.cells[k]?=some u->w.cell? ⟨b,off+i*9+k,none⟩=some u:=fun k hk u hu=>by
  have:=hc (i*9+k) u (by rw [jT Br.len xs i x hx k hk];exact hu);rwa [<-Nat.add_assoc] at this
 exact ⟨key 0 (by omega) _ rfl,key 1 (by omega) _ rfl,key 2 (by omega) _ rfl,key 3 (by omega) _ rfl,key 4 (by omega) _ rfl,key 5 (by omega) _ rfl,key 6 (by omega) _ rfl,key 7 (by omega) _ rfl,key 8 (by omega) _ rfl⟩
theorem xC.form {w:Wo} {B n:Nat} {A:OA} {xs:List Br} (h:xC w B A n xs) (h0:0<n):∃ b off,A=some ⟨b,off,none⟩/\b<B:=by
 obtain ⟨b,off,e,aW,_⟩:=h.2.2 h0;exact ⟨b,off,e,aW⟩
theorem Br.box {w:Wo} {p:Nat} {t:TypeId} {x:Br} (h:aG w p t #[.string x.name,.string x.fr,.string x.to,.int .i64 x.x,.int .i64 x.tap,.int .i64 x.shift,.int .i64 x.limit,.int .i64 x.short,.int .i64 x.hold]):w.cell? ⟨p,0,none⟩=some (.string x.name)/\w.cell? ⟨p,1,none⟩=some (.string x.fr)/\w.cell? ⟨p,2,none⟩=some (.string x.to)/\w.cell? ⟨p,3,none⟩=some (.int .i64 x.x)/\w.cell? ⟨p,4,none⟩=some (.int .i64 x.tap)/\w.cell? ⟨p,5,none⟩=some (.int .i64 x.shift)/\w.cell? ⟨p,6,none⟩=some (.int .i64 x.limit)/\w.cell? ⟨p,7,none⟩=some (.int .i64 x.short)/\w.cell? ⟨p,8,none⟩=some (.int .i64 x.hold)/\(∀ i,w.frozen? ⟨p,i,none⟩=false)/\p<w.heap.size:=
 ⟨h.cell 0,h.cell 1,h.cell 2,h.cell 3,h.cell 4,h.cell 5,h.cell 6,h.cell 7,h.cell 8,h.frozen,h.lt⟩
structure Gn where
 name:ByteArray
 node:ByteArray
 least:Int
 most:Int
 ramp:Int
def Gn.cells (x:Gn):List Value:=[.string x.name,.string x.node,.int .i64 x.least,.int .i64 x.most,.int .i64 x.ramp]
def Gn.val (x:Gn):Value:=.agg #[.string x.name,.string x.node,.int .i64 x.least,.int .i64 x.most,.int .i64 x.ramp]
theorem Gn.len (x:Gn):x.cells.length=5:=rfl
def xB (w:Wo) (B:Nat) (A:OA) (n:Nat) (xs:List Gn):Prop:=xs.length=n/\Rd w B 5 A n (xs.flatMap Gn.cells)
theorem xB.below {w w':Wo} {B B' n:Nat} {A:OA} {xs:List Gn} (h:xB w B A n xs) (hb:Below B' w w') (hB:B<=B'):xB w' B A n xs:=⟨h.1,h.2.below hb hB⟩
theorem xB.more {w:Wo} {B B' n:Nat} {A:OA} {xs:List Gn} (h:xB w B A n xs) (hB:B<=B'):xB w B' A n xs:=⟨h.1,h.2.more hB⟩
theorem xB.at_ {w:Wo} {B n:Nat} {b off:Nat} {xs:List Gn} (h:xB w B (some ⟨b,off,none⟩) n xs) {i:Nat} {x:Gn} (hx:xs[i]?=some x) :
    w.cell? ⟨b,off+i*5,none⟩=some (.string x.name)/\w.cell? ⟨b,off+i*5+1,none⟩=some (.string x.node)/\w.cell? ⟨b,off+i*5+2,none⟩=some (.int .i64 x.least)/\w.cell? ⟨b,off+i*5+3,none⟩=some (.int .i64 x.most)/\w.cell? ⟨b,off+i*5+4,none⟩=some (.int .i64 x.ramp):=by
 have hl:i<xs.length:=(dP.1 hx).1;have h1:=h.1;obtain ⟨b',off',e,_,hc⟩:=h.2.2 (by omega);injection e with e;injection e with e1 e2;subst e1;subst e2;have key:∀ k,k<5->∀ u,x.cells[k]?=some u->w.cell? ⟨b,off+i*5+k,none⟩=some u:=fun k hk u hu=>by
  have:=hc (i*5+k) u (by rw [jT Gn.len xs i x hx k hk];exact hu);rwa [<-Nat.add_assoc] at this
 exact ⟨key 0 (by omega) _ rfl,key 1 (by omega) _ rfl,key 2 (by omega) _ rfl,key 3 (by omega) _ rfl,key 4 (by omega) _ rfl⟩
theorem xB.form {w:Wo} {B n:Nat} {A:OA} {xs:List Gn} (h:xB w B A n xs) (h0:0<n):∃ b off,A=some ⟨b,off,none⟩/\b<B:=by
 obtain ⟨b,off,e,aW,_⟩:=h.2.2 h0;exact ⟨b,off,e,aW⟩
theorem Gn.box {w:Wo} {p:Nat} {t:TypeId} {x:Gn} (h:aG w p t #[.string x.name,.string x.node,.int .i64 x.least,.int .i64 x.most,.int .i64 x.ramp]):w.cell? ⟨p,0,none⟩=some (.string x.name)/\w.cell? ⟨p,1,none⟩=some (.string x.node)/\w.cell? ⟨p,2,none⟩=some (.int .i64 x.least)/\w.cell? ⟨p,3,none⟩=some (.int .i64 x.most)/\w.cell? ⟨p,4,none⟩=some (.int .i64 x.ramp)/\(∀ i,w.frozen? ⟨p,i,none⟩=false)/\p<w.heap.size:=
 ⟨h.cell 0,h.cell 1,h.cell 2,h.cell 3,h.cell 4,h.frozen,h.lt⟩
structure Ld where
 name:ByteArray
 node:ByteArray
 demand:Int
def Ld.cells (x:Ld):List Value:=[.string x.name,.string x.node,.int .i64 x.demand]
def Ld.val (x:Ld):Value:=.agg #[.string x.name,.string x.node,.int .i64 x.demand]
theorem Ld.len (x:Ld):x.cells.length=3:=rfl
def xA (w:Wo) (B:Nat) (A:OA) (n:Nat) (xs:List Ld):Prop:=xs.length=n/\Rd w B 3 A n (xs.flatMap Ld.cells)
theorem xA.below {w w':Wo} {B B' n:Nat} {A:OA} {xs:List Ld} (h:xA w B A n xs) (hb:Below B' w w') (hB:B<=B'):xA w' B A n xs:=⟨h.1,h.2.below hb hB⟩
theorem xA.more {w:Wo} {B B' n:Nat} {A:OA} {xs:List Ld} (h:xA w B A n xs) (hB:B<=B'):xA w B' A n xs:=⟨h.1,h.2.more hB⟩
theorem xA.at_ {w:Wo} {B n:Nat} {b off:Nat} {xs:List Ld} (h:xA w B (some ⟨b,off,none⟩) n xs) {i:Nat} {x:Ld} (hx:xs[i]?=some x) :
    w.cell? ⟨b,off+i*3,none⟩=some (.string x.name)/\w.cell? ⟨b,off+i*3+1,none⟩=some (.string x.node)/\w.cell? ⟨b,off+i*3+2,none⟩=some (.int .i64 x.demand):=by
 have hl:i<xs.length:=(dP.1 hx).1;have h1:=h.1;obtain ⟨b',off',e,_,hc⟩:=h.2.2 (by omega);injection e with e;injection e with e1 e2;subst e1;subst e2;have key:∀ k,k<3->∀ u,x.cells[k]?=some u->w.cell? ⟨b,off+i*3+k,none⟩=some u:=fun k hk u hu=>by
  have:=hc (i*3+k) u (by rw [jT Ld.len xs i x hx k hk];exact hu);rwa [<-Nat.add_assoc] at this
 exact ⟨key 0 (by omega) _ rfl,key 1 (by omega) _ rfl,key 2 (by omega) _ rfl⟩
theorem xA.form {w:Wo} {B n:Nat} {A:OA} {xs:List Ld} (h:xA w B A n xs) (h0:0<n):∃ b off,A=some ⟨b,off,none⟩/\b<B:=by
 obtain ⟨b,off,e,aW,_⟩:=h.2.2 h0;exact ⟨b,off,e,aW⟩
theorem Ld.box {w:Wo} {p:Nat} {t:TypeId} {x:Ld} (h:aG w p t #[.string x.name,.string x.node,.int .i64 x.demand]):w.cell? ⟨p,0,none⟩=some (.string x.name)/\w.cell? ⟨p,1,none⟩=some (.string x.node)/\w.cell? ⟨p,2,none⟩=some (.int .i64 x.demand)/\(∀ i,w.frozen? ⟨p,i,none⟩=false)/\p<w.heap.size:=
 ⟨h.cell 0,h.cell 1,h.cell 2,h.frozen,h.lt⟩
structure St where
 name:ByteArray
 node:ByteArray
 charge:Int
 discharge:Int
 capacity:Int
def St.cells (x:St):List Value:=[.string x.name,.string x.node,.int .i64 x.charge,.int .i64 x.discharge,.int .i64 x.capacity]
def St.val (x:St):Value:=.agg #[.string x.name,.string x.node,.int .i64 x.charge,.int .i64 x.discharge,.int .i64 x.capacity]
theorem St.len (x:St):x.cells.length=5:=rfl
def w_ (w:Wo) (B:Nat) (A:OA) (n:Nat) (xs:List St):Prop:=xs.length=n/\Rd w B 5 A n (xs.flatMap St.cells)
theorem w_.below {w w':Wo} {B B' n:Nat} {A:OA} {xs:List St} (h:w_ w B A n xs) (hb:Below B' w w') (hB:B<=B'):w_ w' B A n xs:=⟨h.1,h.2.below hb hB⟩
theorem w_.more {w:Wo} {B B' n:Nat} {A:OA} {xs:List St} (h:w_ w B A n xs) (hB:B<=B'):w_ w B' A n xs:=⟨h.1,h.2.more hB⟩
theorem w_.at_ {w:Wo} {B n:Nat} {b off:Nat} {xs:List St} (h:w_ w B (some ⟨b,off,none⟩) n xs) {i:Nat} {x:St} (hx:xs[i]?=some x) :
    w.cell? ⟨b,off+i*5,none⟩=some (.string x.name)/\w.cell? ⟨b,off+i*5+1,none⟩=some (.string x.node)/\w.cell? ⟨b,off+i*5+2,none⟩=some (.int .i64 x.charge)/\w.cell? ⟨b,off+i*5+3,none⟩=some (.int .i64 x.discharge)/\w.cell? ⟨b,off+i*5+4,none⟩=some (.int .i64 x.capacity):=by
 have hl:i<xs.length:=(dP.1 hx).1;have h1:=h.1;obtain ⟨b',off',e,_,hc⟩:=h.2.2 (by omega);injection e with e;injection e with e1 e2;subst e1;subst e2;have key:∀ k,k<5->∀ u,x.cells[k]?=some u->w.cell? ⟨b,off+i*5+k,none⟩=some u:=fun k hk u hu=>by
  have:=hc (i*5+k) u (by rw [jT St.len xs i x hx k hk];exact hu);rwa [<-Nat.add_assoc] at this
 exact ⟨key 0 (by omega) _ rfl,key 1 (by omega) _ rfl,key 2 (by omega) _ rfl,key 3 (by omega) _ rfl,key 4 (by omega) _ rfl⟩
theorem w_.form {w:Wo} {B n:Nat} {A:OA} {xs:List St} (h:w_ w B A n xs) (h0:0<n):∃ b off,A=some ⟨b,off,none⟩/\b<B:=by
 obtain ⟨b,off,e,aW,_⟩:=h.2.2 h0;exact ⟨b,off,e,aW⟩
theorem St.box {w:Wo} {p:Nat} {t:TypeId} {x:St} (h:aG w p t #[.string x.name,.string x.node,.int .i64 x.charge,.int .i64 x.discharge,.int .i64 x.capacity]):w.cell? ⟨p,0,none⟩=some (.string x.name)/\w.cell? ⟨p,1,none⟩=some (.string x.node)/\w.cell? ⟨p,2,none⟩=some (.int .i64 x.charge)/\w.cell? ⟨p,3,none⟩=some (.int .i64 x.discharge)/\w.cell? ⟨p,4,none⟩=some (.int .i64 x.capacity)/\(∀ i,w.frozen? ⟨p,i,none⟩=false)/\p<w.heap.size:=
 ⟨h.cell 0,h.cell 1,h.cell 2,h.cell 3,h.cell 4,h.frozen,h.lt⟩
structure bE where
 nodes:List ByteArray
 sws:List Sw
 brs:List Br
 gns:List Gn
 lds:List Ld
 sts:List St
structure cE where
 A0:OA
 n0:Nat
 c0:Nat
 A1:OA
 n1:Nat
 c1:Nat
 A2:OA
 n2:Nat
 c2:Nat
 A3:OA
 n3:Nat
 c3:Nat
 A4:OA
 n4:Nat
 c4:Nat
 A5:OA
 n5:Nat
 c5:Nat
def cE.cells (h:cE):Array Value:=#[.slice h.A0 h.n0 h.c0,.slice h.A1 h.n1 h.c1,.slice h.A2 h.n2 h.c2,.slice h.A3 h.n3 h.c3,.slice h.A4 h.n4 h.c4,.slice h.A5 h.n5 h.c5]
structure cS (w:Wo) (B:Nat) (h:cE) (x:bE):Prop where
 r0:bG w B h.A0 h.n0 x.nodes
 r1:wZ w B h.A1 h.n1 x.sws
 r2:xC w B h.A2 h.n2 x.brs
 r3:xB w B h.A3 h.n3 x.gns
 r4:xA w B h.A4 h.n4 x.lds
 r5:w_ w B h.A5 h.n5 x.sts
 m0:h.n0<=9223372036854775807
 m1:h.n1<=9223372036854775807
 m2:h.n2<=9223372036854775807
 m3:h.n3<=9223372036854775807
 m4:h.n4<=9223372036854775807
 m5:h.n5<=9223372036854775807
 /-- every string is as long as a string can be -/
 z0:∀ s∈x.nodes,s.size<=maxLen
 z1:∀ s∈x.sws,s.name.size<=maxLen
 z2:∀ s∈x.brs,s.name.size<=maxLen
 z3:∀ s∈x.gns,s.name.size<=maxLen
 z4:∀ s∈x.lds,s.name.size<=maxLen
 z5:∀ s∈x.sts,s.name.size<=maxLen
theorem cS.below {w w':Wo} {B B':Nat} {h:cE} {x:bE} (r:cS w B h x) (hb:Below B' w w') (hB:B<=B'):cS w' B h x:=
 ⟨r.r0.below hb hB,r.r1.below hb hB,r.r2.below hb hB,r.r3.below hb hB,r.r4.below hb hB,r.r5.below hb hB,r.m0,r.m1,r.m2,r.m3,r.m4,r.m5,r.z0,r.z1,r.z2,r.z3,r.z4,r.z5⟩
theorem cS.more {w:Wo} {B B':Nat} {h:cE} {x:bE} (r:cS w B h x) (hB:B<=B'):cS w B' h x:=
 ⟨r.r0.more hB,r.r1.more hB,r.r2.more hB,r.r3.more hB,r.r4.more hB,r.r5.more hB,r.m0,r.m1,r.m2,r.m3,r.m4,r.m5,r.z0,r.z1,r.z2,r.z3,r.z4,r.z5⟩
theorem cS.up {w w':Wo} {h:cE} {x:bE} (r:cS w w.heap.size h x) (hb:Below w.heap.size w w'):cS w' w'.heap.size h x:=(r.below hb lR).more hb.size
theorem a_ {w:Wo} {p:Nat} {t:TypeId} {h:cE} (q:aG w p t h.cells):w.cell? ⟨p,0,none⟩=some (.slice h.A0 h.n0 h.c0)/\w.cell? ⟨p,1,none⟩=some (.slice h.A1 h.n1 h.c1)/\w.cell? ⟨p,2,none⟩=some (.slice h.A2 h.n2 h.c2)/\
    w.cell? ⟨p,3,none⟩=some (.slice h.A3 h.n3 h.c3)/\w.cell? ⟨p,4,none⟩=some (.slice h.A4 h.n4 h.c4)/\w.cell? ⟨p,5,none⟩=some (.slice h.A5 h.n5 h.c5)/\(∀ i,w.frozen? ⟨p,i,none⟩=false)/\p<w.heap.size:=
 ⟨q.cell 0,q.cell 1,q.cell 2,q.cell 3,q.cell 4,q.cell 5,q.frozen,q.lt⟩
theorem bG.bm {w w':Wo} {n:Nat} {A:OA} {l:List ByteArray} (h:bG w w.heap.size A n l) (g:Below w.heap.size w w'):bG w' w'.heap.size A n l:=(h.below g lR).more g.size
theorem wZ.bm {w w':Wo} {n:Nat} {A:OA} {l:List Sw} (h:wZ w w.heap.size A n l) (g:Below w.heap.size w w'):wZ w' w'.heap.size A n l:=(h.below g lR).more g.size
theorem xC.bm {w w':Wo} {n:Nat} {A:OA} {l:List Br} (h:xC w w.heap.size A n l) (g:Below w.heap.size w w'):xC w' w'.heap.size A n l:=(h.below g lR).more g.size
theorem xB.bm {w w':Wo} {n:Nat} {A:OA} {l:List Gn} (h:xB w w.heap.size A n l) (g:Below w.heap.size w w'):xB w' w'.heap.size A n l:=(h.below g lR).more g.size
theorem xA.bm {w w':Wo} {n:Nat} {A:OA} {l:List Ld} (h:xA w w.heap.size A n l) (g:Below w.heap.size w w'):xA w' w'.heap.size A n l:=(h.below g lR).more g.size
theorem w_.bm {w w':Wo} {n:Nat} {A:OA} {l:List St} (h:w_ w w.heap.size A n l) (g:Below w.heap.size w w'):w_ w' w'.heap.size A n l:=(h.below g lR).more g.size
theorem cS.bm {w w':Wo} {h:cE} {x:bE} (r:cS w w.heap.size h x) (g:Below w.heap.size w w'):cS w' w'.heap.size h x:=(r.below g lR).more g.size
end
section
open Go.ChangeShapes Go.WideShapes Go.ChangeAt Go.RowKit
attribute [local go_sem ↓] aE
attribute [local go_sem] aK aH aM aY
def aAe (i c:Nat):Bool:=decide ((65<=c/\c<=90)\/(0<i/\48<=c/\c<=57))
def T8:Nat->List UInt8->Bool
 | _,[]=>true
 | i,c::r=>aAe i c.toNat && T8 (i+1) r
def zR (s:ByteArray):Bool:=T8 0 s.data.toList && decide (1<=s.size/\s.size<=8)
theorem PT (s:ByteArray) (w:Wo) (hs:s.size<=maxLen) :
    Calls Tryz.prog 128 #[.string s] w fun e w'=>e=.returned (.bool (zR s))/\Below w.heap.size w w':=by
 have U9:=fun w=>run_bytes_of_string (P:=Tryz.prog) w 9 231 5 s Tryz.underlying9 Tryz.underlying231 Tryz.underlying5;unfold maxLen at hs;go_enter Tryz.func128,Tryz.ntmps128
 go_wp2_with fail
 clear U9;generalize grownCap w s.size 0 5=cap;have nX:∀ k (h:k<s.data.size),(w.alloc (.cells (bytesRow s cap) 5 ((bytesRow s cap).size,(bytesRow s cap).size+1))).cell? ⟨w.heap.size,k,none⟩=some (.int .u8 (s.data[k].toNat:Int)):=fun k h=>by
  rw [World.cell?_alloc_mark,bytesRow_at s cap k h]
 have HC:=lH nX;have K0:Below w.heap.size w (w.alloc (.cells (bytesRow s cap) 5 ((bytesRow s cap).size,(bytesRow s cap).size+1))).drew:=aD (bA);have HK:=lH K0;have aIe:w.heap.size<(w.alloc (.cells (bytesRow s cap) 5 ((bytesRow s cap).size,(bytesRow s cap).size+1))).heap.size:=by simp
 clear nX K0;generalize (w.alloc (.cells (bytesRow s cap) 5 ((bytesRow s cap).size,(bytesRow s cap).size+1)))=w1 at *
 go_loop [3,4,8] (fun _ _ i=>∃ k:Nat,k<=s.size/\i=.int .i64 k/\T8 0 s.data.toList=T8 k (s.data.toList.drop k)) (fun _ _ i=>s.size-(intOf i).toNat)
 case atStart=>exact ⟨0,by omega,rfl,rfl⟩
 case round=>
  obtain ⟨k,hk,rfl,nP⟩:=hrel;have HG:=lH nP;clear nP
  by_cases aW:k<s.size
  ·obtain ⟨n,hn,hn2⟩:∃ n:Nat,n<256/\n=(s.data[k]'aW).toNat:=⟨_,UInt8.toNat_lt _,rfl⟩
   have hc:=HC.o k aW;rw [<-hn2] at hc;have hd:s.data.toList.drop k=s.data[k]'aW::s.data.toList.drop (k+1):=cM (by simp [aW]);have HD:=lH (show T8 k (s.data.toList.drop k)=(aAe k n && T8 (k+1) (s.data.toList.drop (k+1))) by rw [hd,hn2];rfl);clear hd hn2
   go_wp2_with fail
   all_goals
    first
     | (have hx : aAe k n = true := by
          clear HC HG HD HK aIe;simp at *;unfold aAe;rw [decide_eq_true_eq];omega
        have HX:=lH hx;clear hx
        go_round
        case rel=>exact ⟨k+1,by omega,by go_num,by rw [HG.o,HD.o,HX.o];rfl⟩
        case measure=>simp [intOf];omega)
     | (have hx : aAe k n = false := by
          clear HC HG HD HK aIe;simp at *;unfold aAe;rw [decide_eq_false_iff_not];omega
        go_ret;exact ⟨gA (by unfold zR;rw [HG.o,HD.o,hx];rfl),HK.o⟩)
  ·have hd:s.data.toList.drop k=[]:=by rw [List.drop_eq_nil_iff];simp;exact Nat.le_of_not_lt aW
   have HD:=lH (show T8 k (s.data.toList.drop k)=true by rw [hd];rfl);have hs8:Hid (zR s=decide (1<=s.size/\s.size<=8)):=lH (by unfold zR;rw [HG.o,HD.o];rfl);clear hd
   by_cases h1:1<=s.size
   ·by_cases h8:s.size<=8
    ·go_wp2_with fail
     go_ret;exact ⟨gA (by rw [hs8.out];first | (rw [decide_eq_decide];omega) | (rw [eq_comm,decide_eq_false_iff_not];omega) | (rw [eq_comm,decide_eq_true_eq];omega)),HK.o⟩
    ·go_wp2_with fail
     go_ret;exact ⟨gA (by rw [hs8.out];first | (rw [decide_eq_decide];omega) | (rw [eq_comm,decide_eq_false_iff_not];omega) | (rw [eq_comm,decide_eq_true_eq];omega)),HK.o⟩
   ·go_wp2_with fail
    go_ret;exact ⟨gA (by rw [hs8.out];first | (rw [decide_eq_decide];omega) | (rw [eq_comm,decide_eq_false_iff_not];omega) | (rw [eq_comm,decide_eq_true_eq];omega)),HK.o⟩
def kO (n low high:Int):Bool:=decide (n<low\/high<n)
theorem eA (n low high:Int) (w:Wo) :
    Calls Tryz.prog 129 #[.int .i64 n,.int .i64 low,.int .i64 high] w fun e w'=>e=.returned (.bool (kO n low high))/\w=w':=by
 go_enter Tryz.func129,Tryz.ntmps129
 go_wp2
 all_goals
  go_ret;exact ⟨gA (by simp [kO]<;>omega),rfl⟩
theorem dC (n:Int) (w:Wo) :
    Calls Tryz.prog 130 #[.int .i64 n] w fun e w'=>e=.returned (.bool (!kO n 0 100000))/\w=w':=by
 go_enter Tryz.func130,Tryz.ntmps130
 go_wp2_with fail
 refine (eA _ _ _ _).mono ?_;rintro e w1 ⟨rfl,rfl⟩
 go_wp2_with fail
 go_ret;exact ⟨rfl,rfl⟩
def Br.bad (x:Br):Bool:=kO x.x 1 10000 || kO x.tap 500 1500 || kO x.shift (-1000) 1000 || kO x.limit 0 100000 || kO x.short x.limit 100000 || kO x.hold 0 200000
def Br.ck (x:Br):Int:=if x.bad then 4 else 0
theorem PQ (x:Br) (w:Wo) :
    Calls Tryz.prog 98 #[.agg #[.string x.name,.string x.fr,.string x.to,.int .i64 x.x,.int .i64 x.tap,.int .i64 x.shift,.int .i64 x.limit,.int .i64 x.short,.int .i64 x.hold]] w fun e w'=>e=.returned (.int .i64 x.ck)/\Below w.heap.size w w':=by
 have K0:∀ cs t,Below w.heap.size w (w.alloc (.cells cs t)):=fun cs t=>bA;have HK:=lH K0;clear K0;have DO:=lH (show x.ck=if x.bad then 4 else 0 from rfl);cases h0:kO x.x 1 10000 with
 | true=>
  have HB:Hid (x.ck=4):=lH (by rw [DO.o];unfold Br.bad;rw [h0];rfl);go_enter Tryz.func98,Tryz.ntmps98
  go_wp2_with (go_at_call 129;refine (eA _ _ _ _).mono ?_;rintro e w' ⟨rfl,rfl⟩)
  go_ret;exact ⟨aX (by rw [HB.o]),HK.o _ _⟩
 | false=>
  cases h1:kO x.tap 500 1500 with
  | true=>
   have HB:Hid (x.ck=4):=lH (by rw [DO.o];unfold Br.bad;rw [h0,h1];rfl);go_enter Tryz.func98,Tryz.ntmps98
   go_wp2_with (go_at_call 129;refine (eA _ _ _ _).mono ?_;rintro e w' ⟨rfl,rfl⟩)
   go_ret;exact ⟨aX (by rw [HB.o]),HK.o _ _⟩
  | false=>
   cases h2:kO x.shift (-1000) 1000 with
   | true=>
    have HB:Hid (x.ck=4):=lH (by rw [DO.o];unfold Br.bad;rw [h0,h1,h2];rfl);go_enter Tryz.func98,Tryz.ntmps98
    go_wp2_with (go_at_call 129;refine (eA _ _ _ _).mono ?_;rintro e w' ⟨rfl,rfl⟩)
    go_ret;exact ⟨aX (by rw [HB.o]),HK.o _ _⟩
   | false=>
    cases h3:kO x.limit 0 100000 with
    | true=>
     have HB:Hid (x.ck=4):=lH (by rw [DO.o];unfold Br.bad;rw [h0,h1,h2,h3];rfl);go_enter Tryz.func98,Tryz.ntmps98
     go_wp2_with (go_at_call 129;refine (eA _ _ _ _).mono ?_;rintro e w' ⟨rfl,rfl⟩)
     go_ret;exact ⟨aX (by rw [HB.o]),HK.o _ _⟩
    | false=>
     cases h4:kO x.short x.limit 100000 with
     | true=>
      have HB:Hid (x.ck=4):=lH (by rw [DO.o];unfold Br.bad;rw [h0,h1,h2,h3,h4];rfl);go_enter Tryz.func98,Tryz.ntmps98
      go_wp2_with (go_at_call 129;refine (eA _ _ _ _).mono ?_;rintro e w' ⟨rfl,rfl⟩)
      go_ret;exact ⟨aX (by rw [HB.o]),HK.o _ _⟩
     | false=>
      cases h5:kO x.hold 0 200000 with
      | true=>
       have HB:Hid (x.ck=4):=lH (by rw [DO.o];unfold Br.bad;rw [h0,h1,h2,h3,h4,h5];rfl);go_enter Tryz.func98,Tryz.ntmps98
       go_wp2_with (go_at_call 129;refine (eA _ _ _ _).mono ?_;rintro e w' ⟨rfl,rfl⟩)
       go_ret;exact ⟨aX (by rw [HB.o]),HK.o _ _⟩
      | false=>
       have HB:Hid (x.ck=0):=lH (by rw [DO.o];unfold Br.bad;rw [h0,h1,h2,h3,h4,h5];rfl);go_enter Tryz.func98,Tryz.ntmps98
       go_wp2_with (go_at_call 129;refine (eA _ _ _ _).mono ?_;rintro e w' ⟨rfl,rfl⟩)
       go_ret;exact ⟨aX (by rw [HB.o]),HK.o _ _⟩
theorem jR (A:OA) (n c:Nat) (zs:List ByteArray) (z:ByteArray) (w:Wo) (hr:bG w w.heap.size A n zs) (hn:n<=9223372036854775807) :
    Calls Tryz.prog 91 #[.slice A n c,.string z] w fun e w'=>e=.returned (.int .i64 (gD (fun x=>pR z x) zs 0))/\w=w':=by
 have eC:=lH hr.1;go_enter Tryz.func91,Tryz.ntmps91
 go_wp2_with fail
 go_loop [5,8] (fun _ i=>∃ k:Nat,k<=n/\i=.int .i64 k/\gD (fun x=>pR z x) zs 0=gD (fun x=>pR z x) (zs.drop k) k) (fun _ i=>n-(intOf i).toNat)
 case atStart=>exact ⟨0,by omega,rfl,rfl⟩
 case round=>
  obtain ⟨k,hk,rfl,z_⟩:=hrel;have tC:=lH z_;clear z_
  by_cases aW:k<n
  ·obtain ⟨y,hy⟩:∃ y,zs[k]?=some y:=eO (by have:=eC.out;omega)
   obtain ⟨b,off,rfl,QO⟩:=hr.form (by omega);have nX:=hr.at_ hy;have HZ:=lH (cM hy);clear hy;cases hp:pR z y with
   | true=>
    have HP:=lH hp
    go_wp2_with fail
    go_ret;exact ⟨aX (by rw [tC.o,HZ.o];simp [gD,HP.o]),rfl⟩
   | false=>
    have HP:=lH hp
    go_wp2_with fail
    go_round
    case rel=>exact ⟨k+1,by omega,by go_num,by rw [tC.o,HZ.o];simp [gD,HP.o]⟩
    case measure=>simp [intOf];omega
  ·have hd:zs.drop k=[]:=by rw [List.drop_eq_nil_iff];have:=eC.out;omega
   have HD:=lH hd;clear hd
   go_wp2_with fail
   go_ret;exact ⟨aX (by rw [tC.o,HD.o];rfl),rfl⟩
theorem sX (A:OA) (n c:Nat) (ss:List ByteArray) (z:ByteArray) (w:Wo) (hr:bG w w.heap.size A n ss) (hn:n<=9223372036854775807) :
    Calls Tryz.prog 103 #[.slice A n c,.string z] w fun e w'=>e=.returned (.bool (ss.any (fun x=>pR z x)))/\w=w':=by
 have HA:=lH (KX (fun x=>pR z x) ss 0);go_enter Tryz.func103,Tryz.ntmps103
 go_wp2_with fail
 refine (jR A n c ss z w hr hn).mono ?_;rintro e w1 ⟨rfl,rfl⟩
 go_wp2_with fail
 go_ret;exact ⟨gA HA.o,rfl⟩
end
section
open Go.ChangeShapes Go.WideShapes Go.ChangeAt Go.RowKit Go.Maps
attribute [local go_sem ↓] aE
attribute [local go_sem] aK aH aM aY
theorem xU {H:Type} {P:Program} {e:TypeId} (he:P.underlying e=some .bool) {v:Value} {z:DataW H×List MemPlace} (h:plainElem P e v=some z):∃ x,v=.bool x/\z=(.lit (.bool x),[]):=by
 unfold plainElem at h;rw [he] at h;cases v<;>simp at h
 exact ⟨_,rfl,h.symm⟩
theorem fB {H:Type} {P:Program} (w:Wo) {ops:Array Oper} {rest:List Oper} {o:Oper} {a:Act} {Q:Exit->Act->World->Prop}
    (hg:o.guard=none) (m x:Operand) (t:TypeId) (hop:o.op=Op.lookup t m x false)
    (k e:TypeId) (K:Keyed P k) (ht:P.underlying t=some (.map k e)) (he:P.underlying e=some .bool) (hz:(zeroValue e).run P w=.ok (.bool false) w) (b n:Nat) (D:DataW H)
    (hm:a.eval m=.map (some b)) (bF:w.ownsMap P k (plainElem P e) b n D) (key:Value) (kl:Lit) (hx:a.eval x=key) (aU2:keyOf P k key=some kl)
    (c:Bool) (hc:D.atKey kl (.lit (.bool false))=.lit (.bool c)) (hK:wpList P ops Q rest (a.put o.dst (.bool c)) w) :
    wpList P ops Q (o::rest) a w:=by
 refine wpList_plain hg fun K' hK'=>?_;obtain ⟨v,ps,UX,hv⟩:=bF.lookup K ht hz (plainElem_bool he false) aU2;obtain ⟨c',rfl,hc'⟩:=xU he hv;simp only [Prod.mk.injEq] at hc';have OG:c'=c:=by
  have h1:=hc'.1;rw [hc] at h1;injection h1 with h1;injection h1 with h1;exact h1.symm
 subst OG;unfold Oper.wp;simp [execOp,hop,hm,hx,UX,Result.andThen];exact hK' _ _ hK
def iW (w:Wo) (b n:Nat) (l:List ByteArray):Prop:=
 ∃ D:DataW Unit,w.ownsMap Tryz.prog 9 (plainElem Tryz.prog 4) b n D/\IsMap D/\∀ s:ByteArray,D.atKey (.string s.data.toList) (.lit (.bool false))=.lit (.bool (l.any fun x=>pR s x))
theorem iW.lt {w:Wo} {b n:Nat} {l:List ByteArray} (h:iW w b n l):b<w.heap.size:=by obtain ⟨D,h1,_⟩:=h;exact h1.lt
theorem iW.kept {w w':Wo} {row:Option Nat} {b n:Nat} {l:List ByteArray} (h:iW w b n l) (hg:w.grownBy w' row) (cP:some b≠row):iW w' b n l:=by
 obtain ⟨D,h1,h2⟩:=h;exact ⟨D,h1.kept hg cP,h2⟩
theorem iW.below {w w':Wo} {b n:Nat} {l:List ByteArray} (h:iW w b n l) (hb:Below w.heap.size w w'):iW w' b n l:=h.kept (row:=none) ⟨hb.os,hb.tape,hb.output,hb.size,fun k hk _=>hb.block k hk⟩ (by simp)
theorem iW.made (w:Wo):iW (w.alloc (.map #[] 0)) w.heap.size 0 []:=
 ⟨.map [],World.ownsMap_made _ _ _ _,⟨[],rfl⟩,fun s=>rfl⟩
theorem MT:Keyed Tryz.prog 9:=string_keyed Tryz.underlying9
theorem vK (w:Wo):(zeroValue 4).run Tryz.prog w=.ok (.bool false) w:=by kernel_rfl
theorem iW.put {w:Wo} {b n:Nat} {l:List ByteArray} {D:DataW Unit} (s:ByteArray) (h1:w.ownsMap Tryz.prog 9 (plainElem Tryz.prog 4) b (n+1) (D.put (.string s.data.toList) (.lit (.bool true)))) (h2:IsMap D)
    (h3:∀ s:ByteArray,D.atKey (.string s.data.toList) (.lit (.bool false))=.lit (.bool (l.any fun x=>pR s x))):iW w b (n+1) (s::l):=by
 refine ⟨_,h1,?_,fun t=>?_⟩
 ·obtain ⟨es,rfl⟩:=h2
  exact ⟨_,rfl⟩
 ·by_cases hts:t=s
  ·subst hts
   rw [atKey_put_same h2 (k:=.string t.data.toList) trivial];simp [pR]
  ·rw [atKey_put_other (fun e=>hts (by injection e with e;cases t;cases s;simp at e;rw [e])),h3]
   have:pR t s=false:=BK.2 hts;simp [this]
theorem Rd.mapped {w w':Wo} {B B' size n b m:Nat} {A:OA} {xs:List Value} {l:List ByteArray} (h:Rd w B size A n xs) (hs:0<size) (hS:iW w b m l) (hg:w.grownBy w' (some b)) (hB:B<=w.heap.size) (hB':B<=B'):Rd w' B' size A n xs:=
 ⟨h.1,fun hn=>by
  obtain ⟨b',off,e,aW,hc⟩:=h.2 hn;have hx:0<xs.length:=by rw [h.1];exact Nat.mul_pos hn hs
  have cP:b'≠b:=by
   rintro rfl;have h0:=hc 0 _ (jA hx);obtain ⟨D,⟨es,clock,hb,_⟩,_⟩:=hS;unfold World.cell? at h0;rw [hb] at h0;cases h0
  exact ⟨b',off,e,by omega,fun j u hu=>(World.cell?_of_block (a:=⟨b',off+j,none⟩) (hg.block b' (by omega) (fun e=>by injection e;omega))).trans (hc j u hu)⟩⟩
theorem bG.mapped {w w':Wo} {B B' n b m:Nat} {A:OA} {xs:List ByteArray} {l:List ByteArray} (h:bG w B A n xs) (hS:iW w b m l) (hg:w.grownBy w' (some b)) (hB:B<=w.heap.size) (hB':B<=B'):bG w' B' A n xs:=⟨h.1,h.2.mapped (by omega) hS hg hB hB'⟩
def mG (nodes seen:List ByteArray) (name:ByteArray) (ends:List ByteArray):Int:=
 if zR name=false then 5 else if seen.any (fun x=>pR name x) then 7
 else if ends.any (fun s=>!(nodes.any fun x=>pR s x)) then 6
 else if ends.length=2/\ends[0]?=ends[1]? then 3 else 0
def aIT (w:Wo) (b n:Nat) (seen:List ByteArray) (name:ByteArray) (r:Int) (e:Ending) (w':Wo):Prop:=
 e=.returned (.int .i64 r)/\w.grownBy w' (some b)/\(r=0->iW w' b (n+1) (name::seen))
theorem kZ {w:Wo} {p:Nat} {t:TypeId} {u v:Value} (h:aG w p t #[u,v]):w.cell? ⟨p,0,none⟩=some u/\w.cell? ⟨p,1,none⟩=some v/\(∀ i,w.frozen? ⟨p,i,none⟩=false)/\p<w.heap.size:=⟨h.cell 0,h.cell 1,h.frozen,h.lt⟩
theorem mX (b n:Nat) (A:OA) (nn nc:Nat) (nodes:List ByteArray) (seen:List ByteArray) (name:ByteArray) (V:OA) (m mc:Nat) (ends:List ByteArray) (w:Wo)
    (hN:bG w w.heap.size A nn nodes) (SP:nn<=9223372036854775807) (hS:iW w b n seen) (hn:n<=65536) (aEf:name.size<=maxLen) (hE:bG w w.heap.size V m ends) (hm:m<=2) :
    Calls Tryz.prog 97 #[.agg #[.map (some b),.slice A nn nc],.string name,.slice V m mc] w (aIT w b n seen name (mG nodes seen name ends)):=by
 have QO:=hS.lt;obtain ⟨D,bF,U2,LA⟩:=hS;have K0:Below w.heap.size w (w.alloc (.cells #[.map (some b),.slice A nn nc] 161)):=bA;have HK0:=lH K0;have HN:=lH (hN.bm K0);have HE:=lH (hE.bm K0);have HO:=lH (bF.alloc (.cells #[.map (some b),.slice A nn nc] 161));have HAT:=lH LA;have HD:Hid (∀ (nodes seen ends:List ByteArray),mG nodes seen name ends=if zR name=false then 5 else if seen.any (fun x=>pR name x) then 7
  else if ends.any (fun s=>!(nodes.any fun x=>pR s x)) then 6 else if ends.length=2/\ends[0]?=ends[1]? then 3 else 0):=lH fun _ _ _=>rfl
 clear hN hE LA bF K0;cases I1:zR name with
 | false=>
  have jW:=lH I1;clear I1;go_enter Tryz.func97,Tryz.ntmps97
  go_wp2_with fail
  refine (PT name _ aEf).mono ?_;rw [jW.o];rintro e w1 ⟨rfl,k1⟩;have OM:=lH (HK0.o.tm k1);clear k1
  go_wp2_with fail
  go_ret;have hr:mG nodes seen name ends=5:=by rw [HD.o,if_pos jW.o]
  exact ⟨aX hr.symm,gK OM.o _,fun h=>by omega⟩
 | true=>
  have jW:=lH I1;clear I1;go_enter Tryz.func97,Tryz.ntmps97
  go_wp2_with fail
  refine (PT name _ aEf).mono ?_;rw [jW.o];rintro e w1 ⟨rfl,k1⟩;have OM:=lH (HK0.o.tm k1);have hQ:aG w1 w.heap.size 161 #[.map (some b),.slice A nn nc]:=(aG.new_ rfl).below k1 (by simp);have IN:=lH (HO.o.kept (row:=none) ⟨k1.os,k1.tape,k1.output,k1.size,fun k hk _=>k1.block k hk⟩ (by simp));have eN:=lH (HN.o.bm k1);have Y9:=lH (HE.o.bm k1);obtain ⟨c0,c1,cf,aPP⟩:=kZ hQ;have HQ:=lH hQ;clear k1 hQ;have hk:=WideMaps.keyOf_string_mk (P:=Tryz.prog) Tryz.underlying9 aEf;have R8:=lH hk;clear hk;cases hsn:seen.any (fun x=>pR name x) with
  | true=>
   have HSN:=lH hsn;have AN:Hid (D.atKey (.string name.data.toList) (.lit (.bool false))=.lit (.bool true)):=lH (by rw [HAT.o,hsn]);clear hsn
   go_wp2_with (at_lookup;refine fB _ rfl _ _ 159 rfl 9 4 MT Tryz.underlying159 Tryz.underlying4 (vK _) b n D rfl IN.o _ _ rfl R8.o _ AN.o ?_)
   go_ret;have hr:mG nodes seen name ends=7:=by rw [HD.o,jW.o,HSN.o];rfl
   exact ⟨aX hr.symm,gK OM.o _,fun h=>by omega⟩
  | false=>
   have HSN:=lH hsn;have AN:Hid (D.atKey (.string name.data.toList) (.lit (.bool false))=.lit (.bool false)):=lH (by rw [HAT.o,hsn]);clear hsn
   go_wp2_with (first | (at_lookup;refine fB _ rfl _ _ 159 rfl 9 4 MT Tryz.underlying159 Tryz.underlying4 (vK _) b n D rfl IN.o _ _ rfl R8.o _ AN.o ?_) | (at_mapUpdate;refine wpList_mapUpdate_own _ rfl _ _ _ 159 rfl 9 4 MT Tryz.underlying159 _ b n D rfl IN.o (by unfold maxLen;omega) _ _ _ rfl rfl R8.o _ [] (plainElem_bool Tryz.underlying4 true) ?_))
   intro w2 tJ lE;have hS1:iW w1 b n seen:=⟨D,IN.o,U2,HAT.o⟩;have nQ:=lH (iW.put name tJ U2 HAT.o);have iL:=lH (eN.o.mapped hS1 lE lR lE.size);have HE2:=lH (Y9.o.mapped hS1 lE lR lE.size);have hQ2:aG w2 w.heap.size 161 #[.map (some b),.slice A nn nc]:=HQ.o.grown lE (fun e=>by injection e;omega);have fI:=lH (fJ (gK OM.o (some b)) lE);obtain ⟨d0,d1,df,U4⟩:=kZ hQ2;have hEl:=lH HE2.o.1;clear tJ lE hS1 hQ2 c0 c1 cf
   go_wp2_with fail
   go_loop [8,23] (fun _ i=>∃ k:Nat,k<=m/\i=.int .i64 k/\ends.any (fun s=>!(nodes.any fun x=>pR s x))=(ends.drop k).any (fun s=>!(nodes.any fun x=>pR s x))) (fun _ i=>m-(intOf i).toNat)
   case atStart=>exact ⟨0,by omega,rfl,rfl⟩
   case round=>
    obtain ⟨k,hk,rfl,z_⟩:=hrel;have tC:=lH z_;clear z_
    by_cases aW:k<m
    ·obtain ⟨y,hy⟩:∃ y,ends[k]?=some y:=eO (by have:=hEl.out;omega)
     obtain ⟨bv,ov,rfl,QN⟩:=HE2.o.form (by omega);have nX:=HE2.o.at_ hy;have HZ:=lH (cM hy);clear hy;cases hp:nodes.any (fun x=>pR y x) with
     | true=>
      have HP:=lH hp;clear hp
      go_wp2_with fail
      refine (sX A nn nc nodes y _ iL.o SP).mono ?_;rw [HP.o];rintro e w3 ⟨rfl,rfl⟩
      go_wp2_with fail
      go_round
      case rel=>exact ⟨k+1,by omega,by go_num,by rw [tC.o,HZ.o];simp [HP.o]⟩
      case measure=>simp [intOf];omega
     | false=>
      have HP:=lH hp;clear hp
      go_wp2_with fail
      refine (sX A nn nc nodes y _ iL.o SP).mono ?_;rw [HP.o];rintro e w3 ⟨rfl,rfl⟩
      go_wp2_with fail
      go_ret;have hr:mG nodes seen name ends=6:=by
       rw [HD.o,jW.o,HSN.o,tC.o,HZ.o];simp [HP.o]
      exact ⟨aX hr.symm,fI.o,fun h=>by omega⟩
    ·have hd:ends.drop k=[]:=by rw [List.drop_eq_nil_iff];have:=hEl.out;omega
     have hr:mG nodes seen name ends=if ends.length=2/\ends[0]?=ends[1]? then 3 else 0:=by
      rw [HD.o,jW.o,HSN.o,tC.o,hd];simp
     have HR:=lH hr;clear hd hr
     by_cases sP:m=2
     ·subst sP
      obtain ⟨y0,wC⟩:∃ y,ends[0]?=some y:=eO (by have:=hEl.out;omega);obtain ⟨y1,hy1⟩:∃ y,ends[1]?=some y:=eO (by have:=hEl.out;omega);obtain ⟨bv,ov,rfl,QN⟩:=HE2.o.form (by omega);have aMp:=HE2.o.at_ wC;have aVE:=HE2.o.at_ hy1;rw [Nat.add_zero] at aMp;have hw0:(0:Int)<((2:Nat):Int):=by omega
      cases hq:pR y0 y1 with
      | true=>
       have hr:mG nodes seen name ends=3:=by rw [HR.o,wC,hy1,if_pos ⟨hEl.out,by rw [sK.1 hq]⟩]
       have sC:=lH hr;clear wC hy1 hr
       go_wp2_with fail
       go_quiet (fail)
       go_wp2_with fail
       go_ret;exact ⟨aX sC.o.symm,sM fI.o _,fun h=>by rw [sC.o] at h;omega⟩
      | false=>
       have hr:mG nodes seen name ends=0:=by rw [HR.o,wC,hy1,if_neg (fun h=>BK.1 hq (by injection h.2))]
       have sC:=lH hr;clear wC hy1 hr
       go_wp2_with fail
       go_quiet (fail)
       go_wp2_with fail
       go_ret;exact ⟨aX sC.o.symm,sM fI.o _,fun _=>nQ.o.below (bC bR _)⟩
     ·have hr:mG nodes seen name ends=0:=by rw [HR.o,if_neg (fun h=>sP (by have:=hEl.out;omega))]
      have sC:=lH hr;have hmf:((m:Int) == 2)=false:=by rw [beq_eq_false_iff_ne];omega
      clear hr sP
      go_wp2_with fail
      go_quiet (fail)
      go_wp2_with fail
      go_ret;exact ⟨aX sC.o.symm,sM fI.o _,fun _=>nQ.o.below (bC bR _)⟩
end
section
open Go.ChangeShapes Go.WideShapes Go.ChangeAt Go.RowKit Go.Joins Go.Deep Go.Maps
attribute [local go_sem ↓] aE
attribute [local go_sem] aK aH aM aY
def Gn.bad (x:Gn):Bool:=kO x.least 0 100000 || kO x.most x.least 100000 || kO x.ramp 0 100000
def Sw.bad (x:Sw):Bool:=false
def Ld.bad (x:Ld):Bool:=kO x.demand 0 100000
def St.bad (x:St):Bool:=kO x.charge 0 100000 || kO x.discharge 0 100000 || kO x.capacity 0 100000
def bM {α:Type} (f:List ByteArray->α->Int) (nm:α->ByteArray):List ByteArray->List α->Int×List ByteArray
 | seen,[]=>(0,seen)
 | seen,x::r=>if f seen x≠0 then (f seen x,seen) else bM f nm (nm x::seen) r
def tM (nodes:List ByteArray) (seen:List ByteArray) (x:ByteArray):Int:=mG nodes seen x []
def fSw (nodes:List ByteArray) (seen:List ByteArray) (x:Sw):Int:=if mG nodes seen x.name [x.a,x.b]≠0 then mG nodes seen x.name [x.a,x.b] else if x.bad then 4 else 0
def VI (nodes:List ByteArray) (seen:List ByteArray) (x:Br):Int:=if mG nodes seen x.name [x.fr,x.to]≠0 then mG nodes seen x.name [x.fr,x.to] else x.ck
def JL (nodes:List ByteArray) (seen:List ByteArray) (x:Gn):Int:=if mG nodes seen x.name [x.node]≠0 then mG nodes seen x.name [x.node] else if x.bad then 4 else 0
def VH (nodes:List ByteArray) (seen:List ByteArray) (x:Ld):Int:=if mG nodes seen x.name [x.node]≠0 then mG nodes seen x.name [x.node] else if x.bad then 4 else 0
def M9 (nodes:List ByteArray) (seen:List ByteArray) (x:St):Int:=if mG nodes seen x.name [x.node]≠0 then mG nodes seen x.name [x.node] else if x.bad then 4 else 0
def ck5 (x:bE) (seen:List ByteArray):Int:=(bM (M9 x.nodes) St.name seen x.sts).1
def ck4 (x:bE) (seen:List ByteArray):Int:=if (bM (VH x.nodes) Ld.name seen x.lds).1≠0 then (bM (VH x.nodes) Ld.name seen x.lds).1 else ck5 x (bM (VH x.nodes) Ld.name seen x.lds).2
def ck3 (x:bE) (seen:List ByteArray):Int:=if (bM (JL x.nodes) Gn.name seen x.gns).1≠0 then (bM (JL x.nodes) Gn.name seen x.gns).1 else ck4 x (bM (JL x.nodes) Gn.name seen x.gns).2
def ck2 (x:bE) (seen:List ByteArray):Int:=if (bM (VI x.nodes) Br.name seen x.brs).1≠0 then (bM (VI x.nodes) Br.name seen x.brs).1 else ck3 x (bM (VI x.nodes) Br.name seen x.brs).2
def ck1 (x:bE) (seen:List ByteArray):Int:=if (bM (fSw x.nodes) Sw.name seen x.sws).1≠0 then (bM (fSw x.nodes) Sw.name seen x.sws).1 else ck2 x (bM (fSw x.nodes) Sw.name seen x.sws).2
def ck0 (x:bE):Int:=if (bM (tM x.nodes) id [] x.nodes).1≠0 then (bM (tM x.nodes) id [] x.nodes).1 else ck1 x (bM (tM x.nodes) id [] x.nodes).2
def lM (x:bE):Prop:=24<x.nodes.length\/32<x.sws.length\/24<x.brs.length\/10<x.gns.length\/12<x.lds.length\/4<x.sts.length
instance (x:bE):Decidable (lM x):=by unfold lM;infer_instance
def fK (x:bE):Int:=if lM x then 2 else ck0 x
theorem eB {α:Type} {f:List ByteArray->α->Int} {nm:α->ByteArray} {seen:List ByteArray} {x:α} {r l:List α} {v:Int} (hl:l=x::r) (hf:f seen x=v) (h0:v≠0):(bM f nm seen l).1=v:=by
 subst hl;unfold bM;rw [if_pos (by rw [hf];exact h0),hf]
theorem oV {α:Type} {f:List ByteArray->α->Int} {nm:α->ByteArray} {seen:List ByteArray} {x:α} {r l:List α} (hl:l=x::r) (h0:f seen x=0):bM f nm seen l=bM f nm (nm x::seen) r:=by
 subst hl;show (if f seen x≠0 then _ else _)=_;rw [if_neg (by rw [h0];simp)]
structure Ck (w0 wr:Wo) (b:Nat) (A:OA) (nn:Nat) (nodes:List ByteArray) (h:cE) (x:bE) (seen:List ByteArray):Prop where
 gr:w0.grownBy wr (some b)
 sn:iW wr b seen.length seen
 rn:bG wr wr.heap.size A nn nodes
 net:cS wr wr.heap.size h x
theorem cS.mapped {w w':Wo} {b m:Nat} {h:cE} {x:bE} {l:List ByteArray} (r:cS w w.heap.size h x) (hS:iW w b m l) (hg:w.grownBy w' (some b)):cS w' w'.heap.size h x:=
 ⟨r.r0.mapped hS hg lR hg.size,⟨r.r1.1,r.r1.2.mapped (by omega) hS hg lR hg.size⟩,⟨r.r2.1,r.r2.2.mapped (by omega) hS hg lR hg.size⟩,⟨r.r3.1,r.r3.2.mapped (by omega) hS hg lR hg.size⟩,
  ⟨r.r4.1,r.r4.2.mapped (by omega) hS hg lR hg.size⟩,⟨r.r5.1,r.r5.2.mapped (by omega) hS hg lR hg.size⟩,r.m0,r.m1,r.m2,r.m3,r.m4,r.m5,r.z0,r.z1,r.z2,r.z3,r.z4,r.z5⟩
theorem Ck.below {w0 w w':Wo} {b:Nat} {A:OA} {nn:Nat} {nodes:List ByteArray} {h:cE} {x:bE} {seen:List ByteArray} (c:Ck w0 w b A nn nodes h x seen) (hb:Below w.heap.size w w'):Ck w0 w' b A nn nodes h x seen:=
 ⟨fJ c.gr (gK hb _),c.sn.below hb,(c.rn.below hb lR).more hb.size,c.net.up hb⟩
theorem Ck.put {w0 w w':Wo} {b:Nat} {A:OA} {nn:Nat} {nodes:List ByteArray} {h:cE} {x:bE} {seen:List ByteArray} {s:ByteArray} (c:Ck w0 w b A nn nodes h x seen) (hg:w.grownBy w' (some b)) (hS:iW w' b (seen.length+1) (s::seen)):Ck w0 w' b A nn nodes h x (s::seen):=
 ⟨fJ c.gr hg,hS,c.rn.mapped c.sn hg lR hg.size,c.net.mapped c.sn hg⟩
theorem CP (w:Wo) (o1 o2:Obj):Below w.heap.size w ((w.alloc o1).alloc o2):=(bA).alloc (by simp) _
theorem aEW (b:Nat) (A:OA) (nn nc:Nat) (nodes:List ByteArray) (h:cE) (x:bE) (seen0:List ByteArray) (w:Wo)
    (hC:Ck w w b A nn nodes h x seen0) (SP:nn<=9223372036854775807) (UW:seen0.length<=1000) (h3:h.n3<=10) (h4:h.n4<=12) (h5:h.n5<=4) (aEa:x.nodes=nodes) :
    Calls Tryz.prog 99 #[.agg #[.map (some b),.slice A nn nc],.agg h.cells] w fun e w'=>e=.returned (.int .i64 (ck3 x seen0))/\w.grownBy w' (some b):=by
 obtain ⟨A0,m0,c0,A1,m1,c1,A2,m2,c2,A3,m3,c3,A4,m4,c4,A5,m5,c5⟩:=h;dsimp only [cE.cells] at *;have qL:=hC.sn.lt;have wW:=hC.below (CP w (.cells #[.map (some b),.slice A nn nc] 161) (.cells #[.slice A0 m0 c0,.slice A1 m1 c1,.slice A2 m2 c2,.slice A3 m3 c3,.slice A4 m4 c4,.slice A5 m5 c5] 29));have HC:=lH wW;have yK:Hid (aG ((w.alloc (.cells #[.map (some b),.slice A nn nc] 161)).alloc (.cells #[.slice A0 m0 c0,.slice A1 m1 c1,.slice A2 m2 c2,.slice A3 m3 c3,.slice A4 m4 c4,.slice A5 m5 c5] 29)) w.heap.size 161 #[.map (some b),.slice A nn nc]):=lH ((aG.new w _ _).alloc _)
 have rG:Hid (aG ((w.alloc (.cells #[.map (some b),.slice A nn nc] 161)).alloc (.cells #[.slice A0 m0 c0,.slice A1 m1 c1,.slice A2 m2 c2,.slice A3 m3 c3,.slice A4 m4 c4,.slice A5 m5 c5] 29)) (w.heap.size+1) 29 #[.slice A0 m0 c0,.slice A1 m1 c1,.slice A2 m2 c2,.slice A3 m3 c3,.slice A4 m4 c4,.slice A5 m5 c5]):=lH (aG.new_ (by simp));have oI:=lH wW.net;obtain ⟨y0,y1,y2,y3,y4,y5,nf,nlt⟩:=a_ (h:=⟨A0,m0,c0,A1,m1,c1,A2,m2,c2,A3,m3,c3,A4,m4,c4,A5,m5,c5⟩) rG.o;have AX:=lH aEa;clear hC wW aEa;go_enter Tryz.func99,Tryz.ntmps99
 go_wp2_with fail
 have K4:Hid (x.gns.length=m3):=lH oI.o.r3.1
 go_loopw [17] (fun i wr=>∃ (k:Nat) (seen3:List ByteArray),k<=m3/\i=.int .i64 k/\Ck w wr b A nn nodes ⟨A0,m0,c0,A1,m1,c1,A2,m2,c2,A3,m3,c3,A4,m4,c4,A5,m5,c5⟩ x seen3/\aG wr w.heap.size 161 #[.map (some b),.slice A nn nc]/\aG wr (w.heap.size+1) 29 #[.slice A0 m0 c0,.slice A1 m1 c1,.slice A2 m2 c2,.slice A3 m3 c3,.slice A4 m4 c4,.slice A5 m5 c5]/\seen3.length<=seen0.length+k/\bM (JL nodes) Gn.name seen0 x.gns=bM (JL nodes) Gn.name seen3 (x.gns.drop k)) (fun i _=>m3-(intOf i).toNat)
 case atStart=>exact ⟨0,seen0,by omega,rfl,HC.o,yK.o,rG.o,by omega,rfl⟩
 case round=>
  clear HC yK rG oI;obtain ⟨k,seen3,hk,rfl,hC,m_,mV,GP,nP⟩:=hrel;have HC:=lH hC;have yK:=lH m_;have rG:=lH mV;have jB:=lH nP;obtain ⟨g0,g1,gf,glt⟩:=kZ m_;obtain ⟨y0,y1,y2,y3,y4,y5,nf,nlt⟩:=a_ (h:=⟨A0,m0,c0,A1,m1,c1,A2,m2,c2,A3,m3,c3,A4,m4,c4,A5,m5,c5⟩) mV;have CF:=hC.sn.lt;have oI:=lH hC.net;clear hC m_ mV nP
  by_cases aW:k<m3
  ·obtain ⟨z,hz⟩:∃ z,x.gns[k]?=some z:=eO (by have:=K4.out;omega)
   obtain ⟨bz,oz,hA,M5⟩:=HC.o.net.r3.form (by dsimp only;omega);dsimp only at hA;subst hA;obtain ⟨e0,e1,e2,e3,e4⟩:=HC.o.net.r3.at_ hz;have hzn:=HC.o.net.z3 z (cO hz);have HZ:=lH (cM hz);clear hz
   go_wp2_with fail
   have hB:=CP wr (.cells #[.string z.name,.string z.node,.int .i64 z.least,.int .i64 z.most,.int .i64 z.ramp] 145) (.cells #[.string z.node] 9);have hE:bG ((wr.alloc (.cells #[.string z.name,.string z.node,.int .i64 z.least,.int .i64 z.most,.int .i64 z.ramp] 145)).alloc (.cells #[.string z.node] 9)) ((wr.alloc (.cells #[.string z.name,.string z.node,.int .i64 z.least,.int .i64 z.most,.int .i64 z.ramp] 145)).alloc (.cells #[.string z.node] 9)).heap.size (some ⟨wr.heap.size+1,0,none⟩) 1 [z.node]:=eR (zs:=[z.node]) (aG.new_ (by simp)) (by simp);have wW:=HC.o.below hB;refine (mX b _ A nn nc nodes seen3 z.name _ 1 1 [z.node] _ wW.rn SP wW.sn (by omega) hzn hE (by omega)).mono ?_;generalize hR:mG nodes seen3 z.name [z.node]=r;rintro e w2 ⟨rfl,lE,QR⟩
   have K2:aG w2 wr.heap.size 145 #[.string z.name,.string z.node,.int .i64 z.least,.int .i64 z.most,.int .i64 z.ramp]:=aG.grown ((aG.new wr _ _).alloc _) lE (fun e=>by injection e;omega);have m_:aG w2 w.heap.size 161 #[.map (some b),.slice A nn nc]:=aG.grown (yK.o.bl hB) lE (fun e=>by injection e;omega);have mV:=aG.grown (rG.o.bl hB) lE (fun e=>by injection e;omega);have fI:=lH (fJ wW.gr lE);have nQ:=lH QR;have N4:=lH wW;have Hg2:=lH lE;obtain ⟨f0,f1,f2,f3,f4,ff,flt⟩:=Gn.box K2;have IL:=lH m_;have AO:=lH mV;have tU:=lH hR;clear hB hE wW lE QR K2 m_ mV hR e0 e1 e2 e3 e4
   by_cases gL:r=0
   ·subst gL
    have SB:=lH (N4.o.put Hg2.o (nQ.o rfl));cases t0:kO z.least 0 100000 with
    | true=>
     have hf:JL nodes seen3 z=4:=by unfold JL Gn.bad;rw [tU.o];simp [t0]
     have hr:(bM (JL nodes) Gn.name seen0 x.gns).1=4:=by rw [jB.o];exact eB HZ.o hf (by omega)
     have rF:=lH hr;clear hf hr
     go_wp2_with (first | (go_at_call 130;refine (dC _ _).mono ?_;rintro e w' ⟨rfl,rfl⟩) | (go_at_call 129;refine (eA _ _ _ _).mono ?_;rintro e w' ⟨rfl,rfl⟩))
     go_ret;exact ⟨aX (by unfold ck3;rw [AX.o,if_pos (by rw [rF.o];omega),rF.o]),fI.o⟩
    | false=>
     cases t1:kO z.most z.least 100000 with
     | true=>
      have hf:JL nodes seen3 z=4:=by unfold JL Gn.bad;rw [tU.o];simp [t0,t1]
      have hr:(bM (JL nodes) Gn.name seen0 x.gns).1=4:=by rw [jB.o];exact eB HZ.o hf (by omega)
      have rF:=lH hr;clear hf hr
      go_wp2_with (first | (go_at_call 130;refine (dC _ _).mono ?_;rintro e w' ⟨rfl,rfl⟩) | (go_at_call 129;refine (eA _ _ _ _).mono ?_;rintro e w' ⟨rfl,rfl⟩))
      go_ret;exact ⟨aX (by unfold ck3;rw [AX.o,if_pos (by rw [rF.o];omega),rF.o]),fI.o⟩
     | false=>
      cases t2:kO z.ramp 0 100000 with
      | true=>
       have hf:JL nodes seen3 z=4:=by unfold JL Gn.bad;rw [tU.o];simp [t0,t1,t2]
       have hr:(bM (JL nodes) Gn.name seen0 x.gns).1=4:=by rw [jB.o];exact eB HZ.o hf (by omega)
       have rF:=lH hr;clear hf hr
       go_wp2_with (first | (go_at_call 130;refine (dC _ _).mono ?_;rintro e w' ⟨rfl,rfl⟩) | (go_at_call 129;refine (eA _ _ _ _).mono ?_;rintro e w' ⟨rfl,rfl⟩))
       go_ret;exact ⟨aX (by unfold ck3;rw [AX.o,if_pos (by rw [rF.o];omega),rF.o]),fI.o⟩
      | false=>
       have hf:JL nodes seen3 z=0:=by unfold JL Gn.bad;rw [tU.o];simp [t0,t1,t2]
       have HF:=lH hf;clear hf
       go_wp2_with (first | (go_at_call 130;refine (dC _ _).mono ?_;rintro e w' ⟨rfl,rfl⟩) | (go_at_call 129;refine (eA _ _ _ _).mono ?_;rintro e w' ⟨rfl,rfl⟩))
       go_roundw
       case rel=>exact ⟨k+1,z.name::seen3,by omega,by go_num,SB.o,IL.o,AO.o,by simp;omega,by rw [jB.o];exact oV HZ.o HF.o⟩
       case measure=>simp [intOf];omega
   ·have zW:(r != 0)=true:=by simpa using gL
    have hf:JL nodes seen3 z=r:=by unfold JL;rw [tU.o,if_pos gL]
    have hr:(bM (JL nodes) Gn.name seen0 x.gns).1=r:=by rw [jB.o];exact eB HZ.o hf gL
    have rF:=lH hr;have CS:=lH gL;clear hf hr gL
    go_wp2_with fail
    go_ret;exact ⟨aX (by unfold ck3;rw [AX.o,if_pos (by rw [rF.o];exact CS.o),rF.o]),fI.o⟩
  ·have hd:x.gns.drop k=[]:=by rw [List.drop_eq_nil_iff];have:=K4.out;omega
   have hr:bM (JL nodes) Gn.name seen0 x.gns=(0,seen3):=by rw [jB.o,hd];rfl
   have pT:=lH hr;have aZp:seen3.length<=seen0.length+m3:=by omega
   clear hd hr GP;have X6:=oI;have HW4:Hid (ck3 x seen0=ck4 x seen3):=lH (by unfold ck3;rw [AX.o,pT.o];rfl)
   go_wp2_with fail
   have aJ7:Hid (x.lds.length=m4):=lH oI.o.r4.1
   go_loopw [52] (fun i wr=>∃ (k:Nat) (seen4:List ByteArray),k<=m4/\i=.int .i64 k/\Ck w wr b A nn nodes ⟨A0,m0,c0,A1,m1,c1,A2,m2,c2,A3,m3,c3,A4,m4,c4,A5,m5,c5⟩ x seen4/\aG wr w.heap.size 161 #[.map (some b),.slice A nn nc]/\aG wr (w.heap.size+1) 29 #[.slice A0 m0 c0,.slice A1 m1 c1,.slice A2 m2 c2,.slice A3 m3 c3,.slice A4 m4 c4,.slice A5 m5 c5]/\seen4.length<=seen3.length+k/\bM (VH nodes) Ld.name seen3 x.lds=bM (VH nodes) Ld.name seen4 (x.lds.drop k)) (fun i _=>m4-(intOf i).toNat)
   case atStart=>exact ⟨0,seen3,by omega,rfl,HC.o,yK.o,rG.o,by omega,rfl⟩
   case round=>
    clear HC yK rG oI;obtain ⟨k,seen4,hk,rfl,hC,m_,mV,GP,nP⟩:=hrel;have HC:=lH hC;have yK:=lH m_;have rG:=lH mV;have jB:=lH nP;obtain ⟨g0,g1,gf,glt⟩:=kZ m_;obtain ⟨y0,y1,y2,y3,y4,y5,nf,nlt⟩:=a_ (h:=⟨A0,m0,c0,A1,m1,c1,A2,m2,c2,A3,m3,c3,A4,m4,c4,A5,m5,c5⟩) mV;have CF:=hC.sn.lt;have oI:=lH hC.net;clear hC m_ mV nP
    by_cases aW:k<m4
    ·obtain ⟨z,hz⟩:∃ z,x.lds[k]?=some z:=eO (by have:=aJ7.out;omega)
     obtain ⟨bz,oz,hA,M5⟩:=HC.o.net.r4.form (by dsimp only;omega);dsimp only at hA;subst hA;obtain ⟨e0,e1,e2⟩:=HC.o.net.r4.at_ hz;have hzn:=HC.o.net.z4 z (cO hz);have HZ:=lH (cM hz);clear hz
     go_wp2_with fail
     have hB:=CP wr (.cells #[.string z.name,.string z.node,.int .i64 z.demand] 199) (.cells #[.string z.node] 9);have hE:bG ((wr.alloc (.cells #[.string z.name,.string z.node,.int .i64 z.demand] 199)).alloc (.cells #[.string z.node] 9)) ((wr.alloc (.cells #[.string z.name,.string z.node,.int .i64 z.demand] 199)).alloc (.cells #[.string z.node] 9)).heap.size (some ⟨wr.heap.size+1,0,none⟩) 1 [z.node]:=eR (zs:=[z.node]) (aG.new_ (by simp)) (by simp);have wW:=HC.o.below hB;refine (mX b _ A nn nc nodes seen4 z.name _ 1 1 [z.node] _ wW.rn SP wW.sn (by omega) hzn hE (by omega)).mono ?_;generalize hR:mG nodes seen4 z.name [z.node]=r;rintro e w2 ⟨rfl,lE,QR⟩;have K2:aG w2 wr.heap.size 199 #[.string z.name,.string z.node,.int .i64 z.demand]:=aG.grown ((aG.new wr _ _).alloc _) lE (fun e=>by injection e;omega)
     have m_:aG w2 w.heap.size 161 #[.map (some b),.slice A nn nc]:=aG.grown (yK.o.bl hB) lE (fun e=>by injection e;omega);have mV:=aG.grown (rG.o.bl hB) lE (fun e=>by injection e;omega);have fI:=lH (fJ wW.gr lE);have nQ:=lH QR;have N4:=lH wW;have Hg2:=lH lE;obtain ⟨f0,f1,f2,ff,flt⟩:=Ld.box K2;have IL:=lH m_;have AO:=lH mV;have tU:=lH hR;clear hB hE wW lE QR K2 m_ mV hR e0 e1 e2
     by_cases gL:r=0
     ·subst gL
      have SB:=lH (N4.o.put Hg2.o (nQ.o rfl));cases t0:kO z.demand 0 100000 with
      | true=>
       have hf:VH nodes seen4 z=4:=by unfold VH Ld.bad;rw [tU.o];simp [t0]
       have hr:(bM (VH nodes) Ld.name seen3 x.lds).1=4:=by rw [jB.o];exact eB HZ.o hf (by omega)
       have rF:=lH hr;clear hf hr
       go_wp2_with (first | (go_at_call 130;refine (dC _ _).mono ?_;rintro e w' ⟨rfl,rfl⟩) | (go_at_call 129;refine (eA _ _ _ _).mono ?_;rintro e w' ⟨rfl,rfl⟩))
       go_ret;exact ⟨aX (by rw [HW4.o];unfold ck4;rw [AX.o,if_pos (by rw [rF.o];omega),rF.o]),fI.o⟩
      | false=>
       have hf:VH nodes seen4 z=0:=by unfold VH Ld.bad;rw [tU.o];simp [t0]
       have HF:=lH hf;clear hf
       go_wp2_with (first | (go_at_call 130;refine (dC _ _).mono ?_;rintro e w' ⟨rfl,rfl⟩) | (go_at_call 129;refine (eA _ _ _ _).mono ?_;rintro e w' ⟨rfl,rfl⟩))
       go_roundw
       case rel=>exact ⟨k+1,z.name::seen4,by omega,by go_num,SB.o,IL.o,AO.o,by simp;omega,by rw [jB.o];exact oV HZ.o HF.o⟩
       case measure=>simp [intOf];omega
     ·have zW:(r != 0)=true:=by simpa using gL
      have hf:VH nodes seen4 z=r:=by unfold VH;rw [tU.o,if_pos gL]
      have hr:(bM (VH nodes) Ld.name seen3 x.lds).1=r:=by rw [jB.o];exact eB HZ.o hf gL
      have rF:=lH hr;have CS:=lH gL;clear hf hr gL
      go_wp2_with fail
      go_ret;exact ⟨aX (by rw [HW4.o];unfold ck4;rw [AX.o,if_pos (by rw [rF.o];exact CS.o),rF.o]),fI.o⟩
    ·have hd:x.lds.drop k=[]:=by rw [List.drop_eq_nil_iff];have:=aJ7.out;omega
     have hr:bM (VH nodes) Ld.name seen3 x.lds=(0,seen4):=by rw [jB.o,hd];rfl
     have WG:=lH hr;have aZo:seen4.length<=seen3.length+m4:=by omega
     clear hd hr GP;have X6:=oI;have HW5:Hid (ck3 x seen0=ck5 x seen4):=lH (by rw [HW4.o];unfold ck4;rw [AX.o,WG.o];rfl)
     go_wp2_with fail
     have aJ6:Hid (x.sts.length=m5):=lH oI.o.r5.1
     go_loopw [74] (fun i wr=>∃ (k:Nat) (seen5:List ByteArray),k<=m5/\i=.int .i64 k/\Ck w wr b A nn nodes ⟨A0,m0,c0,A1,m1,c1,A2,m2,c2,A3,m3,c3,A4,m4,c4,A5,m5,c5⟩ x seen5/\aG wr w.heap.size 161 #[.map (some b),.slice A nn nc]/\aG wr (w.heap.size+1) 29 #[.slice A0 m0 c0,.slice A1 m1 c1,.slice A2 m2 c2,.slice A3 m3 c3,.slice A4 m4 c4,.slice A5 m5 c5]/\seen5.length<=seen4.length+k/\bM (M9 nodes) St.name seen4 x.sts=bM (M9 nodes) St.name seen5 (x.sts.drop k)) (fun i _=>m5-(intOf i).toNat)
     case atStart=>exact ⟨0,seen4,by omega,rfl,HC.o,yK.o,rG.o,by omega,rfl⟩
     case round=>
      clear HC yK rG oI;obtain ⟨k,seen5,hk,rfl,hC,m_,mV,GP,nP⟩:=hrel;have HC:=lH hC;have yK:=lH m_;have rG:=lH mV;have jB:=lH nP;obtain ⟨g0,g1,gf,glt⟩:=kZ m_;obtain ⟨y0,y1,y2,y3,y4,y5,nf,nlt⟩:=a_ (h:=⟨A0,m0,c0,A1,m1,c1,A2,m2,c2,A3,m3,c3,A4,m4,c4,A5,m5,c5⟩) mV;have CF:=hC.sn.lt;have oI:=lH hC.net;clear hC m_ mV nP
      by_cases aW:k<m5
      ·obtain ⟨z,hz⟩:∃ z,x.sts[k]?=some z:=eO (by have:=aJ6.out;omega)
       obtain ⟨bz,oz,hA,M5⟩:=HC.o.net.r5.form (by dsimp only;omega);dsimp only at hA;subst hA;obtain ⟨e0,e1,e2,e3,e4⟩:=HC.o.net.r5.at_ hz;have hzn:=HC.o.net.z5 z (cO hz);have HZ:=lH (cM hz);clear hz
       go_wp2_with fail
       have hB:=CP wr (.cells #[.string z.name,.string z.node,.int .i64 z.charge,.int .i64 z.discharge,.int .i64 z.capacity] 201) (.cells #[.string z.node] 9);have hE:bG ((wr.alloc (.cells #[.string z.name,.string z.node,.int .i64 z.charge,.int .i64 z.discharge,.int .i64 z.capacity] 201)).alloc (.cells #[.string z.node] 9)) ((wr.alloc (.cells #[.string z.name,.string z.node,.int .i64 z.charge,.int .i64 z.discharge,.int .i64 z.capacity] 201)).alloc (.cells #[.string z.node] 9)).heap.size (some ⟨wr.heap.size+1,0,none⟩) 1 [z.node]:=eR (zs:=[z.node]) (aG.new_ (by simp)) (by simp);have wW:=HC.o.below hB;refine (mX b _ A nn nc nodes seen5 z.name _ 1 1 [z.node] _ wW.rn SP wW.sn (by omega) hzn hE (by omega)).mono ?_;generalize hR:mG nodes seen5 z.name [z.node]=r;rintro e w2 ⟨rfl,lE,QR⟩
       have K2:aG w2 wr.heap.size 201 #[.string z.name,.string z.node,.int .i64 z.charge,.int .i64 z.discharge,.int .i64 z.capacity]:=aG.grown ((aG.new wr _ _).alloc _) lE (fun e=>by injection e;omega);have m_:aG w2 w.heap.size 161 #[.map (some b),.slice A nn nc]:=aG.grown (yK.o.bl hB) lE (fun e=>by injection e;omega);have mV:=aG.grown (rG.o.bl hB) lE (fun e=>by injection e;omega);have fI:=lH (fJ wW.gr lE);have nQ:=lH QR;have N4:=lH wW;have Hg2:=lH lE;obtain ⟨f0,f1,f2,f3,f4,ff,flt⟩:=St.box K2;have IL:=lH m_;have AO:=lH mV;have tU:=lH hR;clear hB hE wW lE QR K2 m_ mV hR e0 e1 e2 e3 e4
       by_cases gL:r=0
       ·subst gL
        have SB:=lH (N4.o.put Hg2.o (nQ.o rfl));cases t0:kO z.charge 0 100000 with
        | true=>
         have hf:M9 nodes seen5 z=4:=by unfold M9 St.bad;rw [tU.o];simp [t0]
         have hr:(bM (M9 nodes) St.name seen4 x.sts).1=4:=by rw [jB.o];exact eB HZ.o hf (by omega)
         have rF:=lH hr;clear hf hr
         go_wp2_with (first | (go_at_call 130;refine (dC _ _).mono ?_;rintro e w' ⟨rfl,rfl⟩) | (go_at_call 129;refine (eA _ _ _ _).mono ?_;rintro e w' ⟨rfl,rfl⟩))
         go_ret;exact ⟨aX (by rw [HW5.o];unfold ck5;rw [AX.o,rF.o]),fI.o⟩
        | false=>
         cases t1:kO z.discharge 0 100000 with
         | true=>
          have hf:M9 nodes seen5 z=4:=by unfold M9 St.bad;rw [tU.o];simp [t0,t1]
          have hr:(bM (M9 nodes) St.name seen4 x.sts).1=4:=by rw [jB.o];exact eB HZ.o hf (by omega)
          have rF:=lH hr;clear hf hr
          go_wp2_with (first | (go_at_call 130;refine (dC _ _).mono ?_;rintro e w' ⟨rfl,rfl⟩) | (go_at_call 129;refine (eA _ _ _ _).mono ?_;rintro e w' ⟨rfl,rfl⟩))
          go_ret;exact ⟨aX (by rw [HW5.o];unfold ck5;rw [AX.o,rF.o]),fI.o⟩
         | false=>
          cases t2:kO z.capacity 0 100000 with
          | true=>
           have hf:M9 nodes seen5 z=4:=by unfold M9 St.bad;rw [tU.o];simp [t0,t1,t2]
           have hr:(bM (M9 nodes) St.name seen4 x.sts).1=4:=by rw [jB.o];exact eB HZ.o hf (by omega)
           have rF:=lH hr;clear hf hr
           go_wp2_with (first | (go_at_call 130;refine (dC _ _).mono ?_;rintro e w' ⟨rfl,rfl⟩) | (go_at_call 129;refine (eA _ _ _ _).mono ?_;rintro e w' ⟨rfl,rfl⟩))
           go_ret;exact ⟨aX (by rw [HW5.o];unfold ck5;rw [AX.o,rF.o]),fI.o⟩
          | false=>
           have hf:M9 nodes seen5 z=0:=by unfold M9 St.bad;rw [tU.o];simp [t0,t1,t2]
           have HF:=lH hf;clear hf
           go_wp2_with (first | (go_at_call 130;refine (dC _ _).mono ?_;rintro e w' ⟨rfl,rfl⟩) | (go_at_call 129;refine (eA _ _ _ _).mono ?_;rintro e w' ⟨rfl,rfl⟩))
           go_roundw
           case rel=>exact ⟨k+1,z.name::seen5,by omega,by go_num,SB.o,IL.o,AO.o,by simp;omega,by rw [jB.o];exact oV HZ.o HF.o⟩
           case measure=>simp [intOf];omega
       ·have zW:(r != 0)=true:=by simpa using gL
        have hf:M9 nodes seen5 z=r:=by unfold M9;rw [tU.o,if_pos gL]
        have hr:(bM (M9 nodes) St.name seen4 x.sts).1=r:=by rw [jB.o];exact eB HZ.o hf gL
        have rF:=lH hr;have CS:=lH gL;clear hf hr gL
        go_wp2_with fail
        go_ret;exact ⟨aX (by rw [HW5.o];unfold ck5;rw [AX.o,rF.o]),fI.o⟩
      ·have hd:x.sts.drop k=[]:=by rw [List.drop_eq_nil_iff];have:=aJ6.out;omega
       have hr:bM (M9 nodes) St.name seen4 x.sts=(0,seen5):=by rw [jB.o,hd];rfl
       have HL5:=lH hr;have aZn:seen5.length<=seen4.length+m5:=by omega
       clear hd hr GP;have X6:=oI
       go_wp2_with fail
       go_ret;exact ⟨aX (by rw [HW5.o];unfold ck5;rw [AX.o,HL5.o]),HC.o.gr⟩
end
