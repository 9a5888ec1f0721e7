import Derived.Test.YthgdchffeigkbaaGreatDoorU02
import Derived.ChangeSame
import Derived.Carry
import Derived.Lib.SmallJoins
import Derived.Deep.Slices
import Derived.Deep.Fields
import Derived.Laws.Strings
import Derived.Laws.IdiomStrings
import Derived.Maps.OwnOps
import Derived.Maps.Views
set_option linter.unusedVariables false
set_option linter.unusedSimpArgs false
namespace Go.Proofs.YthgdchffeigkbaaGreatDoor
set_option maxHeartbeats 8000000
set_option maxRecDepth 100000
section
open Go.ChangeShapes Go.WideShapes Go.ChangeAt Go.RowKit Go.Joins
section
variable {H:Type} {enc:TypeId×Value→H} {P:Program}
theorem post_of_below {f:Func} {s:ChangeSpec} {apart fresh handsOn again:Bool} {W W':World} {args:Array Value} {v:Value} {ds gs:List (DataW H)} {before pa pv:List MemPlace}
    (hW:DataW.Whole enc P f.params.toList s.vars apart W args.toList ds gs before)
    (hres:∀ (b:Nat) (sp:Nat→Bool) (hd:Bool),DataW.TrodAll enc P W' b sp hd f.resultTypes.toList (v.resultList f.resultTypes.size) (s.fn H (ds++gs)).results [])
    (hargs:∀ sp:Nat→Bool,(∀ p∈before,sp p.block=true)→DataW.TrodAll enc P W' 0 sp true f.params.toList args.toList (s.fn H (ds++gs)).args pa)
    (hvars:∀ sp:Nat→Bool,(∀ p∈before,sp p.block=true)→DataW.TrodVars enc P W' sp s.vars (s.fn H (ds++gs)).vars pv)
    (hps:before=pa++pv) (hb:Below W.heap.size W W')
    (hok:∀ (j:Nat) (t:TypeId) (r:Value),f.resultTypes[j]?=some t→(v.resultList f.resultTypes.size)[j]?=some r→Value.okWide P W' .any 0 t r) :
    s.post enc P f apart fresh handsOn again W args v W':=by
 have hlt:∀ p∈before,p.block<W.heap.size:=fun p hp=>hW.lt p hp;have hold:∀ p∈before,(fun b=>decide (b<W.heap.size)) p.block=true:=fun p hp=>by simpa using hlt p hp
 refine ⟨ds,gs,before,[],pa,pv,hW,hres _ _ _,hargs _ hold,hvars _ hold,World.keptBut_mono (fun p hp=>⟨hp,?_⟩) (hb.frame (·∈before)),fun _=>?_⟩
 ·rw [hps,List.mem_append] at hp
  exact Or.inr hp
 ·obtain ⟨_,_,_,_,_,hz,hn⟩:=hW
  refine ⟨hok,_,_,([]++pa)++pv,⟨[]++pa,pv,trodAll_append (hargs _ (fun _ _=>rfl)) (hres _ _ _),hvars _ (fun _ _=>rfl),rfl,?_,?_⟩,?_⟩
  ·intro b off hp
   have hin:MemPlace.cell b off∈before:=by rw [hps];simpa using hp
   rw [hb.frozen (hlt _ hin)];exact hz b off hin
  ·intro ha
   have:=hn ha;rw [hps] at this;simpa using this
  ·intro p hp _
   rw [hps];simpa using hp
theorem trodAll_below (hl:laidOutB P=true) {W W':World} (hb:Below W.heap.size W W') (sp:Nat→Bool) :
    ∀ {ts:List TypeId} {vs:List Value} {ds:List (DataW H)} {p:List MemPlace},(∀ t∈ts,P.readableRec t=true∧t<P.types.size)→DataW.TrodAll enc P W 0 (fun _=>true) true ts vs ds p→
     (∀ x∈p,x.block<W.heap.size)→(∀ x∈p,sp x.block=true)→DataW.TrodAll enc P W' 0 sp true ts vs ds p
 | [],[],[],_,_,h,_,_=>h
 | [],[],_::_,_,_,h,_,_=>h.elim
 | [],_::_,_,_,_,h,_,_=>h.elim
 | _::_,[],_,_,_,h,_,_=>h.elim
 | _::_,_::_,[],_,_,h,_,_=>h.elim
 | t::ts,v::vs,d::ds,ps,hr,h,hlt,hsp=>by
  obtain ⟨p,q,h1,h2,rfl⟩:=h;refine ⟨p,q,?_,trodAll_below hl hb sp (fun t ht=>hr t (List.mem_cons_of_mem _ ht)) h2 (fun x hx=>hlt x (List.mem_append_right _ hx)) (fun x hx=>hsp x (List.mem_append_right _ hx)),rfl⟩;exact WideElems.Trod_stays hl (hr t (List.mem_cons_self ..)).1 (hr t (List.mem_cons_self ..)).2 h1 (fun x hx=>hb.same (hlt x (List.mem_append_left _ hx))) (fun x hx=>hsp x (List.mem_append_left _ hx))
theorem law_post (hl:laidOutB P=true) {f:Func} {s:ChangeSpec} {apart fresh handsOn again:Bool} {W W':World} {args:Array Value} {ds:List (DataW H)} {before:List MemPlace} {tb:TypeId}
    (hvars:s.vars=[]) (hfn:s.fn H ds={ results:=[.lit (.bool true)],args:=ds })
    (hread:∀ t∈f.params.toList,P.readableRec t=true∧t<P.types.size) (hrt:f.resultTypes=#[tb]) (htb:P.underlying tb=some .bool)
    (hW:DataW.Whole enc P f.params.toList s.vars apart W args.toList ds [] before) (hb:Below W.heap.size W W') :
    s.post enc P f apart fresh handsOn again W args (.bool true) W':=by
 have hW0:=hW;obtain ⟨p,q,hA,hV,hpq,_,_⟩:=hW;rw [hvars] at hV;have hq:q=[]:=hV;subst hq;refine post_of_below (pa:=p) (pv:=[]) hW0 ?_ ?_ ?_ hpq hb ?_
 ·intro b sp hd
  rw [List.append_nil,hfn,hrt];exact ⟨[],[],shut_bool htb true,rfl,rfl⟩
 ·intro sp hsp
  rw [List.append_nil,hfn];exact trodAll_below hl hb sp hread hA (fun x hx=>hW0.lt x (by rw [hpq];simpa using hx)) (fun x hx=>hsp x (by rw [hpq];simpa using hx))
 ·intro sp hsp
  rw [List.append_nil,hfn,hvars];rfl
 ·intro j t r h1 h2
  rw [hrt] at h1 h2
  match j with
  | 0=>
   simp [Value.resultList] at h1 h2;subst h1;subst h2;exact okWide_bool_mk htb true
  | j+1=>simp at h1
end
end
section
open Go.ChangeShapes Go.WideShapes Go.ChangeAt Go.RowKit Go.Joins Go.Deep
theorem flat_len {α β:Type} {el:α→List β} {sz:Nat} (hlen:∀ a,(el a).length=sz) (xs:List α):(xs.flatMap el).length=xs.length*sz:=by
 induction xs with
 | nil=>simp
 | cons x r ih=>simp [ih,hlen,Nat.succ_mul,Nat.add_comm]
theorem flat_at {α β:Type} {el:α→List β} {sz:Nat} (hlen:∀ a,(el a).length=sz):∀ (xs:List α) (i:Nat) (x:α),xs[i]?=some x→∀ k,k<sz→(xs.flatMap el)[i*sz+k]?=(el x)[k]?
 | [],i,x,h,k,hk=>by simp at h
 | y::r,0,x,h,k,hk=>by
  simp at h;subst h;rw [List.flatMap_cons,zR_ (by rw [hlen];omega)];simp
 | y::r,i+1,x,h,k,hk=>by
  rw [List.flatMap_cons,zN_ (by rw [hlen,Nat.succ_mul];omega),hlen];rw [show (i+1)*sz+k-sz=i*sz+k from by rw [Nat.succ_mul];omega];exact flat_at hlen r i x (by simpa using h) k hk
theorem cell_lt {w:World} {a:Addr} {v:Value} (h:w.cell? a=some v):a.block<w.heap.size∧a.spot=none:=by
 unfold World.cell? at h;cases hb:w.heap[a.block]? with
 | none=>rw [hb] at h;cases h
 | some o=>
  rw [hb] at h;refine ⟨(Array.getElem?_eq_some_iff.1 hb).1,?_⟩;cases o with
  | cells c t f=>
   simp only at h
   split at h
   ·cases h
   ·rename_i hs;simpa using hs
  | _=>cases h
theorem choose_list {α:Type} (n:Nat) {Q:Nat→α→Prop} (h:∀ i,i<n→∃ a,Q i a):∃ xs:List α,xs.length=n∧∀ (i:Nat) (a:α),xs[i]?=some a→Q i a:=by
 induction n with
 | zero=>exact ⟨[],rfl,by simp⟩
 | succ n ih=>
  obtain ⟨xs,hl,hx⟩:=ih fun i hi=>h i (by omega);obtain ⟨a,ha⟩:=h n (by omega);refine ⟨xs++[a],by simp [hl],fun i b hb=>?_⟩
  by_cases hi:i<n
  ·rw [zR_ (by omega)] at hb;exact hx i b hb
  ·rw [zN_ (by omega)] at hb
   have hin:i=n:=by
    have:=(zB_.1 hb).1;simp at this;omega
   subst hin;simp [hl] at hb;subst hb;exact ha
section
variable {H:Type} {enc:TypeId×Value→H} {P:Program} {w:World} {spare:Nat→Bool} {held:Bool}
theorem open_list {α:Type} (el:α→List Value) (sz:Nat) (Q:α→Prop) {t e:TypeId} {fuel:Nat} {cs:List Value} {x:DataW H×List MemPlace} (ht:P.underlying t=some (.slice e)) (hC:P.cellsOf e=sz) (hpos:0<sz)
    (hlen:∀ a,(el a).length=sz) (hel:∀ (fu:Nat) (cs':List Value) (y:DataW H×List MemPlace),DataW.trod enc P w 0 spare held fu e cs'=some y→∃ a,cs'=el a∧Q a)
    (h:DataW.trod enc P w 0 spare held fuel t cs=some x) :
    ∃ (A:Option Addr) (n c:Nat) (xs:List α),cs=[.slice A n c]∧n≤c∧c≤maxLen∧xs.length=n∧(∀ a∈xs,Q a)∧Rd w w.heap.size sz A n (xs.flatMap el):=by
 rcases open_slice ht h with ⟨rfl,_⟩ | ⟨a,len,cap,m,fu,D,Pl,rfl,hb,hl,hm,hmm,_,hi⟩
 ·exact ⟨none,0,0,[],rfl,lR,by simp [maxLen],rfl,by simp,by simp,fun h=>by omega⟩
 ·have hlm:len≤m:=by rw [hmm];split<;>omega
  have key:∀ i,i<len→∃ y:α,w.cells? 0 (a.add (i*sz)) sz=some (el y)∧Q y:=by
   intro i hin;obtain ⟨cs',hc,ht'⟩:=hi i (by omega);obtain ⟨y,rfl,hq⟩:=hel _ _ _ ht';exact ⟨y,by rw [hC] at hc;exact hc,hq⟩
  obtain ⟨xs,hxl,hx⟩:=choose_list len key;refine ⟨some a,len,cap,xs,rfl,hl,hm,hxl,fun y hy=>?_,by rw [flat_len hlen,hxl],fun h0=>?_⟩
  ·obtain ⟨i,hi⟩:=List.getElem?_of_mem hy
   exact (hx i y hi).2
  ·obtain ⟨y0,hy0⟩:∃ y,xs[0]?=some y:=zX_ (by omega)
   obtain ⟨_,_,hat0⟩:=World.cells?_some (hx 0 y0 hy0).1;have hc0:=hat0 0 hpos;have hv0:(el y0)[0]?=some ((el y0)[0]'(by rw [hlen];omega)):=zA_ (by rw [hlen];omega);rw [hv0] at hc0;obtain ⟨hlt,hsp⟩:=cell_lt hc0;have hs:a.spot=none:=by simpa [Addr.add] using hsp
   have hadd:∀ j,(a.add j)=⟨a.block,a.off+j,none⟩:=by
    intro j;unfold Addr.add
    split
    ·rename_i hj;subst hj;cases a;simp at hs;subst hs;rfl
    ·rfl
   refine ⟨a.block,a.off,by cases a;simp at hs;subst hs;rfl,by simpa [Addr.add] using hlt,fun j u hu=>?_⟩;have hjl:j<len*sz:=by have:=(zB_.1 hu).1;rw [flat_len hlen,hxl] at this;exact this
   have hq:j / sz<len:=Nat.div_lt_of_lt_mul (by rw [Nat.mul_comm];exact hjl);obtain ⟨y,hy⟩:∃ y,xs[j / sz]?=some y:=zX_ (by omega);have hm':j % sz<sz:=Nat.mod_lt _ hpos;have hdm:j / sz*sz+j % sz=j:=by have:=Nat.div_add_mod j sz;rw [Nat.mul_comm] at this;exact this
   have h1:=flat_at hlen xs _ y hy _ hm';rw [hdm,hu] at h1;obtain ⟨_,_,hat⟩:=World.cells?_some (hx _ y hy).1;have h2:=hat _ hm';rw [Go.Deep.add_add,hdm] at h2;rw [←hadd,h2,←h1]
theorem open_flat {t:TypeId} {fs:Array Field} {fuel:Nat} {cs:List Value} {x:DataW H×List MemPlace} (ht:P.underlying t=some (.struct fs)) (hone:oneCellFields P fs=true) (hC:P.cellsOf t=fs.size)
    (h:DataW.trod enc P w 0 spare held fuel t cs=some x):cs.length=fs.size∧∀ (j:Nat) (f:Field),fs[j]?=some f→∃ (v:Value) (n:Nat) (y:DataW H×List MemPlace),cs[j]?=some v∧DataW.trod enc P w 0 spare held n f.type [v]=some y:=by
 obtain ⟨ys,n',hn',hy,hlen,hyl,hf⟩:=DataW.trod_struct ht h;rw [hC] at hlen;refine ⟨hlen,fun j f hj=>?_⟩;obtain ⟨ho,hk⟩:=hone_of hone j f hj;have hjl:j<fs.size:=(Array.getElem?_eq_some_iff.1 hj).1;have h1:=hf j f hj;rw [ho,hk] at h1;have hone':(cs.drop j).take 1=[cs[j]'(by omega)]:=by
  rw [List.drop_eq_getElem_cons (by omega)];rfl
 rw [hone'] at h1;exact ⟨_,n',_,zA_ (by omega),h1.trans (zA_ (by omega))⟩
theorem open_int1 {t:TypeId} {k:IntKind} {fuel:Nat} {cs:List Value} {x:DataW H×List MemPlace} (ht:P.underlying t=some (.int k)) (h:DataW.trod enc P w 0 spare held fuel t cs=some x):∃ n:Int,cs=[.int k n]∧(Lit.int k n).wf=true:=by
 obtain ⟨n,h1,_,h2⟩:=DataW.trod_int ht h;exact ⟨n,h1,h2⟩
theorem open_str1 {t:TypeId} {fuel:Nat} {cs:List Value} {x:DataW H×List MemPlace} (ht:P.underlying t=some .string) (h:DataW.trod enc P w 0 spare held fuel t cs=some x):∃ s:ByteArray,cs=[.string s]∧s.size≤maxLen:=by
 obtain ⟨n,h1,_,h2⟩:=DataW.trod_string ht h;exact ⟨n,h1,h2⟩
end
end
section
open Go.ChangeShapes Go.WideShapes Go.ChangeAt Go.RowKit Go.Joins Go.Deep
attribute [local go_sem ↓] execOp_call_val
attribute [local go_sem] callVal_func setCell_drewN alloc_drewN
def sEq (z y:ByteArray):Bool:=decide (z=y)
theorem sEq_walk (z y:ByteArray):(z.toList == y.toList)=sEq z y:=by
 unfold sEq;rw [ByteArray.toList_eq,ByteArray.toList_eq,Bool.eq_iff_iff,beq_iff_eq,decide_eq_true_eq]
 constructor
 ·intro h
  cases z;cases y
  simp at h;rw [h]
 ·rintro rfl;rfl
theorem sEq_iff {z y:ByteArray}:sEq z y=true↔z=y:=by unfold sEq;exact decide_eq_true_iff
theorem sEq_ff {z y:ByteArray}:sEq z y=false↔z≠y:=by unfold sEq;exact decide_eq_false_iff_not
def strsV (ss:List ByteArray):List Value:=ss.map Value.string
def RdStr (w:World) (B:Nat) (A:Option Addr) (n:Nat) (ss:List ByteArray):Prop:=ss.length=n∧Rd w B 1 A n (strsV ss)
theorem RdStr.below {w w':World} {B B' n:Nat} {A:Option Addr} {xs:List ByteArray} (h:RdStr w B A n xs) (hb:Below B' w w') (hB:B≤B'):RdStr w' B A n xs:=⟨h.1,h.2.below hb hB⟩
theorem RdStr.more {w:World} {B B' n:Nat} {A:Option Addr} {xs:List ByteArray} (h:RdStr w B A n xs) (hB:B≤B'):RdStr w B' A n xs:=⟨h.1,h.2.more hB⟩
theorem RdStr.form {w:World} {B n:Nat} {A:Option Addr} {xs:List ByteArray} (h:RdStr w B A n xs) (h0:0<n):∃ b off,A=some ⟨b,off,none⟩∧b<B:=by
 obtain ⟨b,off,e,hlt,_⟩:=h.2.2 h0;exact ⟨b,off,e,hlt⟩
theorem RdStr.at_ {w:World} {B n:Nat} {b off:Nat} {xs:List ByteArray} (h:RdStr w B (some ⟨b,off,none⟩) n xs) {i:Nat} {x:ByteArray} (hx:xs[i]?=some x):w.cell? ⟨b,off+i,none⟩=some (.string x):=by
 have hl:i<xs.length:=(zB_.1 hx).1;have h1:=h.1;obtain ⟨b',off',e,_,hc⟩:=h.2.2 (by omega);injection e with e;injection e with e1 e2;subst e1;subst e2;exact hc i _ (by simp [strsV,hx])
theorem rdStr_nil (w:World) (B:Nat) (A:Option Addr):RdStr w B A 0 []:=⟨rfl,rfl,fun h=>by omega⟩
theorem rdStr_lit {w:World} {B g:Nat} {T:TypeId} {zs:List ByteArray} (h:Blk w g T (strsV zs).toArray) (hg:g<B):RdStr w B (some ⟨g,0,none⟩) zs.length zs:=
 ⟨rfl,by simp [strsV],fun _=>⟨g,0,rfl,hg,fun j u hu=>by
  rw [show (⟨g,0+j,none⟩:Addr)=⟨g,j,none⟩ from by simp];rw [h.cell j];simpa using hu⟩⟩
theorem RdStr.take {w:World} {B n m:Nat} {A:Option Addr} {zs:List ByteArray} (h:RdStr w B A n zs) (hm:m≤n):RdStr w B A m (zs.take m):=by
 have hl:=h.1;refine ⟨by simp;omega,by simp [strsV];omega,fun h0=>?_⟩;obtain ⟨b,off,e,hlt,hc⟩:=h.2.2 (by omega);refine ⟨b,off,e,hlt,fun j u hu=>hc j u ?_⟩;simp only [strsV,List.map_take] at hu ⊢;rw [List.getElem?_take] at hu
 split at hu
 ·exact hu
 ·cases hu
structure Sw where
 name:ByteArray
 a:ByteArray
 b:ByteArray
 breaker:Bool
 opn:Bool
def Sw.cells (x:Sw):List Value:=[.string x.name,.string x.a,.string x.b,.bool x.breaker,.bool x.opn]
def Sw.val (x:Sw):Value:=.agg #[.string x.name,.string x.a,.string x.b,.bool x.breaker,.bool x.opn]
theorem Sw.len (x:Sw):x.cells.length=5:=rfl
def RdSw (w:World) (B:Nat) (A:Option Addr) (n:Nat) (xs:List Sw):Prop:=xs.length=n∧Rd w B 5 A n (xs.flatMap Sw.cells)
theorem RdSw.below {w w':World} {B B' n:Nat} {A:Option Addr} {xs:List Sw} (h:RdSw w B A n xs) (hb:Below B' w w') (hB:B≤B'):RdSw w' B A n xs:=⟨h.1,h.2.below hb hB⟩
theorem RdSw.more {w:World} {B B' n:Nat} {A:Option Addr} {xs:List Sw} (h:RdSw w B A n xs) (hB:B≤B'):RdSw w B' A n xs:=⟨h.1,h.2.more hB⟩
theorem RdSw.at_ {w:World} {B n:Nat} {b off:Nat} {xs:List Sw} (h:RdSw w B (some ⟨b,off,none⟩) n xs) {i:Nat} {x:Sw} (hx:xs[i]?=some x) :
    w.cell? ⟨b,off+i*5,none⟩=some (.string x.name)∧w.cell? ⟨b,off+i*5+1,none⟩=some (.string x.a)∧w.cell? ⟨b,off+i*5+2,none⟩=some (.string x.b)∧w.cell? ⟨b,off+i*5+3,none⟩=some (.bool x.breaker)∧w.cell? ⟨b,off+i*5+4,none⟩=some (.bool x.opn):=by
 have hl:i<xs.length:=(zB_.1 hx).1;have h1:=h.1;obtain ⟨b',off',e,_,hc⟩:=h.2.2 (by omega);injection e with e;injection e with e1 e2;subst e1;subst e2;have key:∀ k,k<5→∀ u,x.cells[k]?=some u→w.cell? ⟨b,off+i*5+k,none⟩=some u:=fun k hk u hu=>by
  have:=hc (i*5+k) u (by rw [flat_at Sw.len xs i x hx k hk];exact hu);rwa [←Nat.add_assoc] at this
 exact ⟨key 0 (by omega) _ rfl,key 1 (by omega) _ rfl,key 2 (by omega) _ rfl,key 3 (by omega) _ rfl,key 4 (by omega) _ rfl⟩
theorem RdSw.form {w:World} {B n:Nat} {A:Option Addr} {xs:List Sw} (h:RdSw w B A n xs) (h0:0<n):∃ b off,A=some ⟨b,off,none⟩∧b<B:=by
 obtain ⟨b,off,e,hlt,_⟩:=h.2.2 h0;exact ⟨b,off,e,hlt⟩
theorem Sw.box {w:World} {p:Nat} {t:TypeId} {x:Sw} (h:Blk w p t #[.string x.name,.string x.a,.string x.b,.bool x.breaker,.bool x.opn]):w.cell? ⟨p,0,none⟩=some (.string x.name)∧w.cell? ⟨p,1,none⟩=some (.string x.a)∧w.cell? ⟨p,2,none⟩=some (.string x.b)∧w.cell? ⟨p,3,none⟩=some (.bool x.breaker)∧w.cell? ⟨p,4,none⟩=some (.bool x.opn)∧(∀ i,w.frozen? ⟨p,i,none⟩=false)∧p<w.heap.size:=
 ⟨h.cell 0,h.cell 1,h.cell 2,h.cell 3,h.cell 4,h.frozen,h.lt⟩
structure Br where
 name:ByteArray
 fr:ByteArray
 to:ByteArray
 x:Int
 tap:Int
 shift:Int
 limit:Int
 short:Int
 hold:Int
def Br.cells (x:Br):List Value:=[.string x.name,.string x.fr,.string x.to,.int .i64 x.x,.int .i64 x.tap,.int .i64 x.shift,.int .i64 x.limit,.int .i64 x.short,.int .i64 x.hold]
def Br.val (x:Br):Value:=.agg #[.string x.name,.string x.fr,.string x.to,.int .i64 x.x,.int .i64 x.tap,.int .i64 x.shift,.int .i64 x.limit,.int .i64 x.short,.int .i64 x.hold]
theorem Br.len (x:Br):x.cells.length=9:=rfl
def RdBr (w:World) (B:Nat) (A:Option Addr) (n:Nat) (xs:List Br):Prop:=xs.length=n∧Rd w B 9 A n (xs.flatMap Br.cells)
theorem RdBr.below {w w':World} {B B' n:Nat} {A:Option Addr} {xs:List Br} (h:RdBr w B A n xs) (hb:Below B' w w') (hB:B≤B'):RdBr w' B A n xs:=⟨h.1,h.2.below hb hB⟩
theorem RdBr.more {w:World} {B B' n:Nat} {A:Option Addr} {xs:List Br} (h:RdBr w B A n xs) (hB:B≤B'):RdBr w B' A n xs:=⟨h.1,h.2.more hB⟩
theorem RdBr.at_ {w:World} {B n:Nat} {b off:Nat} {xs:List Br} (h:RdBr w B (some ⟨b,off,none⟩) n xs) {i:Nat} {x:Br} (hx:xs[i]?=some x) :
    w.cell? ⟨b,off+i*9,none⟩=some (.string x.name)∧w.cell? ⟨b,off+i*9+1,none⟩=some (.string x.fr)∧w.cell? ⟨b,off+i*9+2,none⟩=some (.string x.to)∧w.cell? ⟨b,off+i*9+3,none⟩=some (.int .i64 x.x)∧w.cell? ⟨b,off+i*9+4,none⟩=some (.int .i64 x.tap)∧w.cell? ⟨b,off+i*9+5,none⟩=some (.int .i64 x.shift)∧w.cell? ⟨b,off+i*9+6,none⟩=some (.int .i64 x.limit)∧w.cell? ⟨b,off+i*9+7,none⟩=some (.int .i64 x.short)∧w.cell? ⟨b,off+i*9+8,none⟩=some (.int .i64 x.hold):=by
 have hl:i<xs.length:=(zB_.1 hx).1;have h1:=h.1;obtain ⟨b',off',e,_,hc⟩:=h.2.2 (by omega);injection e with e;injection e with e1 e2;subst e1;subst e2;have key:∀ k,k<9→∀ u,x.cells[k]?=some u→w.cell? ⟨b,off+i*9+k,none⟩=some u:=fun k hk u hu=>by
  have:=hc (i*9+k) u (by rw [flat_at Br.len xs i x hx k hk];exact hu);rwa [←Nat.add_assoc] at this
 exact ⟨key 0 (by omega) _ rfl,key 1 (by omega) _ rfl,key 2 (by omega) _ rfl,key 3 (by omega) _ rfl,key 4 (by omega) _ rfl,key 5 (by omega) _ rfl,key 6 (by omega) _ rfl,key 7 (by omega) _ rfl,key 8 (by omega) _ rfl⟩
theorem RdBr.form {w:World} {B n:Nat} {A:Option Addr} {xs:List Br} (h:RdBr w B A n xs) (h0:0<n):∃ b off,A=some ⟨b,off,none⟩∧b<B:=by
 obtain ⟨b,off,e,hlt,_⟩:=h.2.2 h0;exact ⟨b,off,e,hlt⟩
theorem Br.box {w:World} {p:Nat} {t:TypeId} {x:Br} (h:Blk w p t #[.string x.name,.string x.fr,.string x.to,.int .i64 x.x,.int .i64 x.tap,.int .i64 x.shift,.int .i64 x.limit,.int .i64 x.short,.int .i64 x.hold]):w.cell? ⟨p,0,none⟩=some (.string x.name)∧w.cell? ⟨p,1,none⟩=some (.string x.fr)∧w.cell? ⟨p,2,none⟩=some (.string x.to)∧w.cell? ⟨p,3,none⟩=some (.int .i64 x.x)∧w.cell? ⟨p,4,none⟩=some (.int .i64 x.tap)∧w.cell? ⟨p,5,none⟩=some (.int .i64 x.shift)∧w.cell? ⟨p,6,none⟩=some (.int .i64 x.limit)∧w.cell? ⟨p,7,none⟩=some (.int .i64 x.short)∧w.cell? ⟨p,8,none⟩=some (.int .i64 x.hold)∧(∀ i,w.frozen? ⟨p,i,none⟩=false)∧p<w.heap.size:=
 ⟨h.cell 0,h.cell 1,h.cell 2,h.cell 3,h.cell 4,h.cell 5,h.cell 6,h.cell 7,h.cell 8,h.frozen,h.lt⟩
structure Gn where
 name:ByteArray
 node:ByteArray
 least:Int
 most:Int
 ramp:Int
def Gn.cells (x:Gn):List Value:=[.string x.name,.string x.node,.int .i64 x.least,.int .i64 x.most,.int .i64 x.ramp]
def Gn.val (x:Gn):Value:=.agg #[.string x.name,.string x.node,.int .i64 x.least,.int .i64 x.most,.int .i64 x.ramp]
theorem Gn.len (x:Gn):x.cells.length=5:=rfl
def RdGn (w:World) (B:Nat) (A:Option Addr) (n:Nat) (xs:List Gn):Prop:=xs.length=n∧Rd w B 5 A n (xs.flatMap Gn.cells)
theorem RdGn.below {w w':World} {B B' n:Nat} {A:Option Addr} {xs:List Gn} (h:RdGn w B A n xs) (hb:Below B' w w') (hB:B≤B'):RdGn w' B A n xs:=⟨h.1,h.2.below hb hB⟩
theorem RdGn.more {w:World} {B B' n:Nat} {A:Option Addr} {xs:List Gn} (h:RdGn w B A n xs) (hB:B≤B'):RdGn w B' A n xs:=⟨h.1,h.2.more hB⟩
theorem RdGn.at_ {w:World} {B n:Nat} {b off:Nat} {xs:List Gn} (h:RdGn w B (some ⟨b,off,none⟩) n xs) {i:Nat} {x:Gn} (hx:xs[i]?=some x) :
    w.cell? ⟨b,off+i*5,none⟩=some (.string x.name)∧w.cell? ⟨b,off+i*5+1,none⟩=some (.string x.node)∧w.cell? ⟨b,off+i*5+2,none⟩=some (.int .i64 x.least)∧w.cell? ⟨b,off+i*5+3,none⟩=some (.int .i64 x.most)∧w.cell? ⟨b,off+i*5+4,none⟩=some (.int .i64 x.ramp):=by
 have hl:i<xs.length:=(zB_.1 hx).1;have h1:=h.1;obtain ⟨b',off',e,_,hc⟩:=h.2.2 (by omega);injection e with e;injection e with e1 e2;subst e1;subst e2;have key:∀ k,k<5→∀ u,x.cells[k]?=some u→w.cell? ⟨b,off+i*5+k,none⟩=some u:=fun k hk u hu=>by
  have:=hc (i*5+k) u (by rw [flat_at Gn.len xs i x hx k hk];exact hu);rwa [←Nat.add_assoc] at this
 exact ⟨key 0 (by omega) _ rfl,key 1 (by omega) _ rfl,key 2 (by omega) _ rfl,key 3 (by omega) _ rfl,key 4 (by omega) _ rfl⟩
theorem RdGn.form {w:World} {B n:Nat} {A:Option Addr} {xs:List Gn} (h:RdGn w B A n xs) (h0:0<n):∃ b off,A=some ⟨b,off,none⟩∧b<B:=by
 obtain ⟨b,off,e,hlt,_⟩:=h.2.2 h0;exact ⟨b,off,e,hlt⟩
theorem Gn.box {w:World} {p:Nat} {t:TypeId} {x:Gn} (h:Blk w p t #[.string x.name,.string x.node,.int .i64 x.least,.int .i64 x.most,.int .i64 x.ramp]):w.cell? ⟨p,0,none⟩=some (.string x.name)∧w.cell? ⟨p,1,none⟩=some (.string x.node)∧w.cell? ⟨p,2,none⟩=some (.int .i64 x.least)∧w.cell? ⟨p,3,none⟩=some (.int .i64 x.most)∧w.cell? ⟨p,4,none⟩=some (.int .i64 x.ramp)∧(∀ i,w.frozen? ⟨p,i,none⟩=false)∧p<w.heap.size:=
 ⟨h.cell 0,h.cell 1,h.cell 2,h.cell 3,h.cell 4,h.frozen,h.lt⟩
structure Ld where
 name:ByteArray
 node:ByteArray
 demand:Int
def Ld.cells (x:Ld):List Value:=[.string x.name,.string x.node,.int .i64 x.demand]
def Ld.val (x:Ld):Value:=.agg #[.string x.name,.string x.node,.int .i64 x.demand]
theorem Ld.len (x:Ld):x.cells.length=3:=rfl
def RdLd (w:World) (B:Nat) (A:Option Addr) (n:Nat) (xs:List Ld):Prop:=xs.length=n∧Rd w B 3 A n (xs.flatMap Ld.cells)
theorem RdLd.below {w w':World} {B B' n:Nat} {A:Option Addr} {xs:List Ld} (h:RdLd w B A n xs) (hb:Below B' w w') (hB:B≤B'):RdLd w' B A n xs:=⟨h.1,h.2.below hb hB⟩
theorem RdLd.more {w:World} {B B' n:Nat} {A:Option Addr} {xs:List Ld} (h:RdLd w B A n xs) (hB:B≤B'):RdLd w B' A n xs:=⟨h.1,h.2.more hB⟩
theorem RdLd.at_ {w:World} {B n:Nat} {b off:Nat} {xs:List Ld} (h:RdLd w B (some ⟨b,off,none⟩) n xs) {i:Nat} {x:Ld} (hx:xs[i]?=some x) :
    w.cell? ⟨b,off+i*3,none⟩=some (.string x.name)∧w.cell? ⟨b,off+i*3+1,none⟩=some (.string x.node)∧w.cell? ⟨b,off+i*3+2,none⟩=some (.int .i64 x.demand):=by
 have hl:i<xs.length:=(zB_.1 hx).1;have h1:=h.1;obtain ⟨b',off',e,_,hc⟩:=h.2.2 (by omega);injection e with e;injection e with e1 e2;subst e1;subst e2;have key:∀ k,k<3→∀ u,x.cells[k]?=some u→w.cell? ⟨b,off+i*3+k,none⟩=some u:=fun k hk u hu=>by
  have:=hc (i*3+k) u (by rw [flat_at Ld.len xs i x hx k hk];exact hu);rwa [←Nat.add_assoc] at this
 exact ⟨key 0 (by omega) _ rfl,key 1 (by omega) _ rfl,key 2 (by omega) _ rfl⟩
theorem RdLd.form {w:World} {B n:Nat} {A:Option Addr} {xs:List Ld} (h:RdLd w B A n xs) (h0:0<n):∃ b off,A=some ⟨b,off,none⟩∧b<B:=by
 obtain ⟨b,off,e,hlt,_⟩:=h.2.2 h0;exact ⟨b,off,e,hlt⟩
theorem Ld.box {w:World} {p:Nat} {t:TypeId} {x:Ld} (h:Blk w p t #[.string x.name,.string x.node,.int .i64 x.demand]):w.cell? ⟨p,0,none⟩=some (.string x.name)∧w.cell? ⟨p,1,none⟩=some (.string x.node)∧w.cell? ⟨p,2,none⟩=some (.int .i64 x.demand)∧(∀ i,w.frozen? ⟨p,i,none⟩=false)∧p<w.heap.size:=
 ⟨h.cell 0,h.cell 1,h.cell 2,h.frozen,h.lt⟩
structure St where
 name:ByteArray
 node:ByteArray
 charge:Int
 discharge:Int
 capacity:Int
def St.cells (x:St):List Value:=[.string x.name,.string x.node,.int .i64 x.charge,.int .i64 x.discharge,.int .i64 x.capacity]
def St.val (x:St):Value:=.agg #[.string x.name,.string x.node,.int .i64 x.charge,.int .i64 x.discharge,.int .i64 x.capacity]
theorem St.len (x:St):x.cells.length=5:=rfl
def RdSt (w:World) (B:Nat) (A:Option Addr) (n:Nat) (xs:List St):Prop:=xs.length=n∧Rd w B 5 A n (xs.flatMap St.cells)
theorem RdSt.below {w w':World} {B B' n:Nat} {A:Option Addr} {xs:List St} (h:RdSt w B A n xs) (hb:Below B' w w') (hB:B≤B'):RdSt w' B A n xs:=⟨h.1,h.2.below hb hB⟩
theorem RdSt.more {w:World} {B B' n:Nat} {A:Option Addr} {xs:List St} (h:RdSt w B A n xs) (hB:B≤B'):RdSt w B' A n xs:=⟨h.1,h.2.more hB⟩
theorem RdSt.at_ {w:World} {B n:Nat} {b off:Nat} {xs:List St} (h:RdSt w B (some ⟨b,off,none⟩) n xs) {i:Nat} {x:St} (hx:xs[i]?=some x) :
    w.cell? ⟨b,off+i*5,none⟩=some (.string x.name)∧w.cell? ⟨b,off+i*5+1,none⟩=some (.string x.node)∧w.cell? ⟨b,off+i*5+2,none⟩=some (.int .i64 x.charge)∧w.cell? ⟨b,off+i*5+3,none⟩=some (.int .i64 x.discharge)∧w.cell? ⟨b,off+i*5+4,none⟩=some (.int .i64 x.capacity):=by
 have hl:i<xs.length:=(zB_.1 hx).1;have h1:=h.1;obtain ⟨b',off',e,_,hc⟩:=h.2.2 (by omega);injection e with e;injection e with e1 e2;subst e1;subst e2;have key:∀ k,k<5→∀ u,x.cells[k]?=some u→w.cell? ⟨b,off+i*5+k,none⟩=some u:=fun k hk u hu=>by
  have:=hc (i*5+k) u (by rw [flat_at St.len xs i x hx k hk];exact hu);rwa [←Nat.add_assoc] at this
 exact ⟨key 0 (by omega) _ rfl,key 1 (by omega) _ rfl,key 2 (by omega) _ rfl,key 3 (by omega) _ rfl,key 4 (by omega) _ rfl⟩
theorem RdSt.form {w:World} {B n:Nat} {A:Option Addr} {xs:List St} (h:RdSt w B A n xs) (h0:0<n):∃ b off,A=some ⟨b,off,none⟩∧b<B:=by
 obtain ⟨b,off,e,hlt,_⟩:=h.2.2 h0;exact ⟨b,off,e,hlt⟩
theorem St.box {w:World} {p:Nat} {t:TypeId} {x:St} (h:Blk w p t #[.string x.name,.string x.node,.int .i64 x.charge,.int .i64 x.discharge,.int .i64 x.capacity]):w.cell? ⟨p,0,none⟩=some (.string x.name)∧w.cell? ⟨p,1,none⟩=some (.string x.node)∧w.cell? ⟨p,2,none⟩=some (.int .i64 x.charge)∧w.cell? ⟨p,3,none⟩=some (.int .i64 x.discharge)∧w.cell? ⟨p,4,none⟩=some (.int .i64 x.capacity)∧(∀ i,w.frozen? ⟨p,i,none⟩=false)∧p<w.heap.size:=
 ⟨h.cell 0,h.cell 1,h.cell 2,h.cell 3,h.cell 4,h.frozen,h.lt⟩
structure Net where
 nodes:List ByteArray
 sws:List Sw
 brs:List Br
 gns:List Gn
 lds:List Ld
 sts:List St
structure NetH where
 A0:Option Addr
 n0:Nat
 c0:Nat
 A1:Option Addr
 n1:Nat
 c1:Nat
 A2:Option Addr
 n2:Nat
 c2:Nat
 A3:Option Addr
 n3:Nat
 c3:Nat
 A4:Option Addr
 n4:Nat
 c4:Nat
 A5:Option Addr
 n5:Nat
 c5:Nat
def NetH.cells (h:NetH):Array Value:=#[.slice h.A0 h.n0 h.c0,.slice h.A1 h.n1 h.c1,.slice h.A2 h.n2 h.c2,.slice h.A3 h.n3 h.c3,.slice h.A4 h.n4 h.c4,.slice h.A5 h.n5 h.c5]
structure RdNet (w:World) (B:Nat) (h:NetH) (x:Net):Prop where
 r0:RdStr w B h.A0 h.n0 x.nodes
 r1:RdSw w B h.A1 h.n1 x.sws
 r2:RdBr w B h.A2 h.n2 x.brs
 r3:RdGn w B h.A3 h.n3 x.gns
 r4:RdLd w B h.A4 h.n4 x.lds
 r5:RdSt w B h.A5 h.n5 x.sts
 m0:h.n0≤9223372036854775807
 m1:h.n1≤9223372036854775807
 m2:h.n2≤9223372036854775807
 m3:h.n3≤9223372036854775807
 m4:h.n4≤9223372036854775807
 m5:h.n5≤9223372036854775807
 /-- every string is as long as a string can be -/
 z0:∀ s∈x.nodes,s.size≤maxLen
 z1:∀ s∈x.sws,s.name.size≤maxLen
 z2:∀ s∈x.brs,s.name.size≤maxLen
 z3:∀ s∈x.gns,s.name.size≤maxLen
 z4:∀ s∈x.lds,s.name.size≤maxLen
 z5:∀ s∈x.sts,s.name.size≤maxLen
theorem RdNet.below {w w':World} {B B':Nat} {h:NetH} {x:Net} (r:RdNet w B h x) (hb:Below B' w w') (hB:B≤B'):RdNet w' B h x:=
 ⟨r.r0.below hb hB,r.r1.below hb hB,r.r2.below hb hB,r.r3.below hb hB,r.r4.below hb hB,r.r5.below hb hB,r.m0,r.m1,r.m2,r.m3,r.m4,r.m5,r.z0,r.z1,r.z2,r.z3,r.z4,r.z5⟩
theorem RdNet.more {w:World} {B B':Nat} {h:NetH} {x:Net} (r:RdNet w B h x) (hB:B≤B'):RdNet w B' h x:=
 ⟨r.r0.more hB,r.r1.more hB,r.r2.more hB,r.r3.more hB,r.r4.more hB,r.r5.more hB,r.m0,r.m1,r.m2,r.m3,r.m4,r.m5,r.z0,r.z1,r.z2,r.z3,r.z4,r.z5⟩
theorem RdNet.up {w w':World} {h:NetH} {x:Net} (r:RdNet w w.heap.size h x) (hb:Below w.heap.size w w'):RdNet w' w'.heap.size h x:=(r.below hb lR).more hb.size
theorem net_box {w:World} {p:Nat} {t:TypeId} {h:NetH} (q:Blk w p t h.cells):w.cell? ⟨p,0,none⟩=some (.slice h.A0 h.n0 h.c0)∧w.cell? ⟨p,1,none⟩=some (.slice h.A1 h.n1 h.c1)∧w.cell? ⟨p,2,none⟩=some (.slice h.A2 h.n2 h.c2)∧
    w.cell? ⟨p,3,none⟩=some (.slice h.A3 h.n3 h.c3)∧w.cell? ⟨p,4,none⟩=some (.slice h.A4 h.n4 h.c4)∧w.cell? ⟨p,5,none⟩=some (.slice h.A5 h.n5 h.c5)∧(∀ i,w.frozen? ⟨p,i,none⟩=false)∧p<w.heap.size:=
 ⟨q.cell 0,q.cell 1,q.cell 2,q.cell 3,q.cell 4,q.cell 5,q.frozen,q.lt⟩
theorem RdStr.bm {w w':World} {n:Nat} {A:Option Addr} {l:List ByteArray} (h:RdStr w w.heap.size A n l) (g:Below w.heap.size w w'):RdStr w' w'.heap.size A n l:=(h.below g lR).more g.size
theorem RdSw.bm {w w':World} {n:Nat} {A:Option Addr} {l:List Sw} (h:RdSw w w.heap.size A n l) (g:Below w.heap.size w w'):RdSw w' w'.heap.size A n l:=(h.below g lR).more g.size
theorem RdBr.bm {w w':World} {n:Nat} {A:Option Addr} {l:List Br} (h:RdBr w w.heap.size A n l) (g:Below w.heap.size w w'):RdBr w' w'.heap.size A n l:=(h.below g lR).more g.size
theorem RdGn.bm {w w':World} {n:Nat} {A:Option Addr} {l:List Gn} (h:RdGn w w.heap.size A n l) (g:Below w.heap.size w w'):RdGn w' w'.heap.size A n l:=(h.below g lR).more g.size
theorem RdLd.bm {w w':World} {n:Nat} {A:Option Addr} {l:List Ld} (h:RdLd w w.heap.size A n l) (g:Below w.heap.size w w'):RdLd w' w'.heap.size A n l:=(h.below g lR).more g.size
theorem RdSt.bm {w w':World} {n:Nat} {A:Option Addr} {l:List St} (h:RdSt w w.heap.size A n l) (g:Below w.heap.size w w'):RdSt w' w'.heap.size A n l:=(h.below g lR).more g.size
theorem RdNet.bm {w w':World} {h:NetH} {x:Net} (r:RdNet w w.heap.size h x) (g:Below w.heap.size w w'):RdNet w' w'.heap.size h x:=(r.below g lR).more g.size
end
section
open Go.ChangeShapes Go.WideShapes Go.ChangeAt Go.RowKit
attribute [local go_sem ↓] execOp_call_val
attribute [local go_sem] callVal_func setCell_drewN alloc_drewN sEq_walk
def nmCh (i c:Nat):Bool:=decide ((65≤c∧c≤90)∨(0<i∧48≤c∧c≤57))
def nmGo:Nat→List UInt8→Bool
 | _,[]=>true
 | i,c::r=>nmCh i c.toNat && nmGo (i+1) r
def nameB (s:ByteArray):Bool:=nmGo 0 s.data.toList && decide (1≤s.size∧s.size≤8)
theorem name_any (s:ByteArray) (w:World) (hs:s.size≤maxLen) :
    Calls Tryz.prog 128 #[.string s] w fun e w'=>e=.returned (.bool (nameB s))∧Below w.heap.size w w':=by
 have hcv:=fun w=>run_bytes_of_string (P:=Tryz.prog) w 9 231 5 s Tryz.underlying9 Tryz.underlying231 Tryz.underlying5;unfold maxLen at hs;go_enter Tryz.func128,Tryz.ntmps128
 go_wp2_with fail
 clear hcv;generalize grownCap w s.size 0 5=cap;have hcell:∀ k (h:k<s.data.size),(w.alloc (.cells (bytesRow s cap) 5 ((bytesRow s cap).size,(bytesRow s cap).size+1))).cell? ⟨w.heap.size,k,none⟩=some (.int .u8 (s.data[k].toNat:Int)):=fun k h=>by
  rw [World.cell?_alloc_mark,bytesRow_at s cap k h]
 have HC:=lH hcell;have K0:Below w.heap.size w (w.alloc (.cells (bytesRow s cap) 5 ((bytesRow s cap).size,(bytesRow s cap).size+1))).drew:=below_drew (bA);have HK:=lH K0;have hlt0:w.heap.size<(w.alloc (.cells (bytesRow s cap) 5 ((bytesRow s cap).size,(bytesRow s cap).size+1))).heap.size:=by simp
 clear hcell K0;generalize (w.alloc (.cells (bytesRow s cap) 5 ((bytesRow s cap).size,(bytesRow s cap).size+1)))=w1 at *
 go_loop [3,4,8] (fun _ _ i=>∃ k:Nat,k≤s.size∧i=.int .i64 k∧nmGo 0 s.data.toList=nmGo k (s.data.toList.drop k)) (fun _ _ i=>s.size-(intOf i).toNat)
 case atStart=>exact ⟨0,by omega,rfl,rfl⟩
 case round=>
  obtain ⟨k,hk,rfl,hgo⟩:=hrel;have HG:=lH hgo;clear hgo
  by_cases hlt:k<s.size
  ·obtain ⟨n,hn,hn2⟩:∃ n:Nat,n<256∧n=(s.data[k]'hlt).toNat:=⟨_,UInt8.toNat_lt _,rfl⟩
   have hc:=HC.o k hlt;rw [←hn2] at hc;have hd:s.data.toList.drop k=s.data[k]'hlt::s.data.toList.drop (k+1):=drop_cons (by simp [hlt]);have HD:=lH (show nmGo k (s.data.toList.drop k)=(nmCh k n && nmGo (k+1) (s.data.toList.drop (k+1))) by rw [hd,hn2];rfl);clear hd hn2
   go_wp2_with fail
   all_goals
    first
     | (have hx : nmCh k n = true := by
          clear HC HG HD HK hlt0;simp at *;unfold nmCh;rw [decide_eq_true_eq];omega
        have HX:=lH hx;clear hx
        go_round
        case rel=>exact ⟨k+1,by omega,by go_num,by rw [HG.o,HD.o,HX.o];rfl⟩
        case measure=>simp [intOf];omega)
     | (have hx : nmCh k n = false := by
          clear HC HG HD HK hlt0;simp at *;unfold nmCh;rw [decide_eq_false_iff_not];omega
        go_ret;exact ⟨ret_bool (by unfold nameB;rw [HG.o,HD.o,hx];rfl),HK.o⟩)
  ·have hd:s.data.toList.drop k=[]:=by rw [List.drop_eq_nil_iff];simp;exact Nat.le_of_not_lt hlt
   have HD:=lH (show nmGo k (s.data.toList.drop k)=true by rw [hd];rfl);have hs8:Hid (nameB s=decide (1≤s.size∧s.size≤8)):=lH (by unfold nameB;rw [HG.o,HD.o];rfl);clear hd
   by_cases h1:1≤s.size
   ·by_cases h8:s.size≤8
    ·go_wp2_with fail
     go_ret;exact ⟨ret_bool (by rw [hs8.out];first | (rw [decide_eq_decide];omega) | (rw [eq_comm,decide_eq_false_iff_not];omega) | (rw [eq_comm,decide_eq_true_eq];omega)),HK.o⟩
    ·go_wp2_with fail
     go_ret;exact ⟨ret_bool (by rw [hs8.out];first | (rw [decide_eq_decide];omega) | (rw [eq_comm,decide_eq_false_iff_not];omega) | (rw [eq_comm,decide_eq_true_eq];omega)),HK.o⟩
   ·go_wp2_with fail
    go_ret;exact ⟨ret_bool (by rw [hs8.out];first | (rw [decide_eq_decide];omega) | (rw [eq_comm,decide_eq_false_iff_not];omega) | (rw [eq_comm,decide_eq_true_eq];omega)),HK.o⟩
def outB (n low high:Int):Bool:=decide (n<low∨high<n)
theorem nout_any (n low high:Int) (w:World) :
    Calls Tryz.prog 129 #[.int .i64 n,.int .i64 low,.int .i64 high] w fun e w'=>e=.returned (.bool (outB n low high))∧w=w':=by
 go_enter Tryz.func129,Tryz.ntmps129
 go_wp2
 all_goals
  go_ret;exact ⟨ret_bool (by simp [outB]<;>omega),rfl⟩
theorem npermitted_any (n:Int) (w:World) :
    Calls Tryz.prog 130 #[.int .i64 n] w fun e w'=>e=.returned (.bool (!outB n 0 100000))∧w=w':=by
 go_enter Tryz.func130,Tryz.ntmps130
 go_wp2_with fail
 refine (nout_any _ _ _ _).mono ?_;rintro e w1 ⟨rfl,rfl⟩
 go_wp2_with fail
 go_ret;exact ⟨rfl,rfl⟩
def Br.bad (x:Br):Bool:=outB x.x 1 10000 || outB x.tap 500 1500 || outB x.shift (-1000) 1000 || outB x.limit 0 100000 || outB x.short x.limit 100000 || outB x.hold 0 200000
def Br.ck (x:Br):Int:=if x.bad then 4 else 0
theorem nbranch_any (x:Br) (w:World) :
    Calls Tryz.prog 98 #[.agg #[.string x.name,.string x.fr,.string x.to,.int .i64 x.x,.int .i64 x.tap,.int .i64 x.shift,.int .i64 x.limit,.int .i64 x.short,.int .i64 x.hold]] w fun e w'=>e=.returned (.int .i64 x.ck)∧Below w.heap.size w w':=by
 have K0:∀ cs t,Below w.heap.size w (w.alloc (.cells cs t)):=fun cs t=>bA;have HK:=lH K0;clear K0;have HCK:=lH (show x.ck=if x.bad then 4 else 0 from rfl);cases h0:outB x.x 1 10000 with
 | true=>
  have HB:Hid (x.ck=4):=lH (by rw [HCK.o];unfold Br.bad;rw [h0];rfl);go_enter Tryz.func98,Tryz.ntmps98
  go_wp2_with (go_at_call 129;refine (nout_any _ _ _ _).mono ?_;rintro e w' ⟨rfl,rfl⟩)
  go_ret;exact ⟨ret_int (by rw [HB.o]),HK.o _ _⟩
 | false=>
  cases h1:outB x.tap 500 1500 with
  | true=>
   have HB:Hid (x.ck=4):=lH (by rw [HCK.o];unfold Br.bad;rw [h0,h1];rfl);go_enter Tryz.func98,Tryz.ntmps98
   go_wp2_with (go_at_call 129;refine (nout_any _ _ _ _).mono ?_;rintro e w' ⟨rfl,rfl⟩)
   go_ret;exact ⟨ret_int (by rw [HB.o]),HK.o _ _⟩
  | false=>
   cases h2:outB x.shift (-1000) 1000 with
   | true=>
    have HB:Hid (x.ck=4):=lH (by rw [HCK.o];unfold Br.bad;rw [h0,h1,h2];rfl);go_enter Tryz.func98,Tryz.ntmps98
    go_wp2_with (go_at_call 129;refine (nout_any _ _ _ _).mono ?_;rintro e w' ⟨rfl,rfl⟩)
    go_ret;exact ⟨ret_int (by rw [HB.o]),HK.o _ _⟩
   | false=>
    cases h3:outB x.limit 0 100000 with
    | true=>
     have HB:Hid (x.ck=4):=lH (by rw [HCK.o];unfold Br.bad;rw [h0,h1,h2,h3];rfl);go_enter Tryz.func98,Tryz.ntmps98
     go_wp2_with (go_at_call 129;refine (nout_any _ _ _ _).mono ?_;rintro e w' ⟨rfl,rfl⟩)
     go_ret;exact ⟨ret_int (by rw [HB.o]),HK.o _ _⟩
    | false=>
     cases h4:outB x.short x.limit 100000 with
     | true=>
      have HB:Hid (x.ck=4):=lH (by rw [HCK.o];unfold Br.bad;rw [h0,h1,h2,h3,h4];rfl);go_enter Tryz.func98,Tryz.ntmps98
      go_wp2_with (go_at_call 129;refine (nout_any _ _ _ _).mono ?_;rintro e w' ⟨rfl,rfl⟩)
      go_ret;exact ⟨ret_int (by rw [HB.o]),HK.o _ _⟩
     | false=>
      cases h5:outB x.hold 0 200000 with
      | true=>
       have HB:Hid (x.ck=4):=lH (by rw [HCK.o];unfold Br.bad;rw [h0,h1,h2,h3,h4,h5];rfl);go_enter Tryz.func98,Tryz.ntmps98
       go_wp2_with (go_at_call 129;refine (nout_any _ _ _ _).mono ?_;rintro e w' ⟨rfl,rfl⟩)
       go_ret;exact ⟨ret_int (by rw [HB.o]),HK.o _ _⟩
      | false=>
       have HB:Hid (x.ck=0):=lH (by rw [HCK.o];unfold Br.bad;rw [h0,h1,h2,h3,h4,h5];rfl);go_enter Tryz.func98,Tryz.ntmps98
       go_wp2_with (go_at_call 129;refine (nout_any _ _ _ _).mono ?_;rintro e w' ⟨rfl,rfl⟩)
       go_ret;exact ⟨ret_int (by rw [HB.o]),HK.o _ _⟩
theorem index_str (A:Option Addr) (n c:Nat) (zs:List ByteArray) (z:ByteArray) (w:World) (hr:RdStr w w.heap.size A n zs) (hn:n≤9223372036854775807) :
    Calls Tryz.prog 91 #[.slice A n c,.string z] w fun e w'=>e=.returned (.int .i64 (idxGo (fun x=>sEq z x) zs 0))∧w=w':=by
 have hlen:=lH hr.1;go_enter Tryz.func91,Tryz.ntmps91
 go_wp2_with fail
 go_loop [5,8] (fun _ i=>∃ k:Nat,k≤n∧i=.int .i64 k∧idxGo (fun x=>sEq z x) zs 0=idxGo (fun x=>sEq z x) (zs.drop k) k) (fun _ i=>n-(intOf i).toNat)
 case atStart=>exact ⟨0,by omega,rfl,rfl⟩
 case round=>
  obtain ⟨k,hk,rfl,hidx⟩:=hrel;have HIDX:=lH hidx;clear hidx
  by_cases hlt:k<n
  ·obtain ⟨y,hy⟩:∃ y,zs[k]?=some y:=zX_ (by have:=hlen.out;omega)
   obtain ⟨b,off,rfl,hblt⟩:=hr.form (by omega);have hcell:=hr.at_ hy;have HZ:=lH (drop_cons hy);clear hy;cases hp:sEq z y with
   | true=>
    have HP:=lH hp
    go_wp2_with fail
    go_ret;exact ⟨ret_int (by rw [HIDX.o,HZ.o];simp [idxGo,HP.o]),rfl⟩
   | false=>
    have HP:=lH hp
    go_wp2_with fail
    go_round
    case rel=>exact ⟨k+1,by omega,by go_num,by rw [HIDX.o,HZ.o];simp [idxGo,HP.o]⟩
    case measure=>simp [intOf];omega
  ·have hd:zs.drop k=[]:=by rw [List.drop_eq_nil_iff];have:=hlen.out;omega
   have HD:=lH hd;clear hd
   go_wp2_with fail
   go_ret;exact ⟨ret_int (by rw [HIDX.o,HD.o];rfl),rfl⟩
theorem contains_str (A:Option Addr) (n c:Nat) (ss:List ByteArray) (z:ByteArray) (w:World) (hr:RdStr w w.heap.size A n ss) (hn:n≤9223372036854775807) :
    Calls Tryz.prog 103 #[.slice A n c,.string z] w fun e w'=>e=.returned (.bool (ss.any (fun x=>sEq z x)))∧w=w':=by
 have HA:=lH (idxGo_any (fun x=>sEq z x) ss 0);go_enter Tryz.func103,Tryz.ntmps103
 go_wp2_with fail
 refine (index_str A n c ss z w hr hn).mono ?_;rintro e w1 ⟨rfl,rfl⟩
 go_wp2_with fail
 go_ret;exact ⟨ret_bool HA.o,rfl⟩
end
section
open Go.ChangeShapes Go.WideShapes Go.ChangeAt Go.RowKit Go.Maps
attribute [local go_sem ↓] execOp_call_val
attribute [local go_sem] callVal_func setCell_drewN alloc_drewN sEq_walk
theorem plainElem_bool_inv {H:Type} {P:Program} {e:TypeId} (he:P.underlying e=some .bool) {v:Value} {z:DataW H×List MemPlace} (h:plainElem P e v=some z):∃ x,v=.bool x∧z=(.lit (.bool x),[]):=by
 unfold plainElem at h;rw [he] at h;cases v<;>simp at h
 exact ⟨_,rfl,h.symm⟩
theorem wpList_lookup_own_bool {H:Type} {P:Program} (w:World) {ops:Array Oper} {rest:List Oper} {o:Oper} {a:Act} {Q:Exit→Act→World→Prop}
    (hg:o.guard=none) (m x:Operand) (t:TypeId) (hop:o.op=Op.lookup t m x false)
    (k e:TypeId) (K:Keyed P k) (ht:P.underlying t=some (.map k e)) (he:P.underlying e=some .bool) (hz:(zeroValue e).run P w=.ok (.bool false) w) (b n:Nat) (D:DataW H)
    (hm:a.eval m=.map (some b)) (hown:w.ownsMap P k (plainElem P e) b n D) (key:Value) (kl:Lit) (hx:a.eval x=key) (hkey:keyOf P k key=some kl)
    (c:Bool) (hc:D.atKey kl (.lit (.bool false))=.lit (.bool c)) (hK:wpList P ops Q rest (a.put o.dst (.bool c)) w) :
    wpList P ops Q (o::rest) a w:=by
 refine wpList_plain hg fun K' hK'=>?_;obtain ⟨v,ps,hrun,hv⟩:=hown.lookup K ht hz (plainElem_bool he false) hkey;obtain ⟨c',rfl,hc'⟩:=plainElem_bool_inv he hv;simp only [Prod.mk.injEq] at hc';have hcc:c'=c:=by
  have h1:=hc'.1;rw [hc] at h1;injection h1 with h1;injection h1 with h1;exact h1.symm
 subst hcc;unfold Oper.wp;simp [execOp,hop,hm,hx,hrun,Result.andThen];exact hK' _ _ hK
def SeenM (w:World) (b n:Nat) (l:List ByteArray):Prop:=
 ∃ D:DataW Unit,w.ownsMap Tryz.prog 9 (plainElem Tryz.prog 4) b n D∧IsMap D∧∀ s:ByteArray,D.atKey (.string s.data.toList) (.lit (.bool false))=.lit (.bool (l.any fun x=>sEq s x))
theorem SeenM.lt {w:World} {b n:Nat} {l:List ByteArray} (h:SeenM w b n l):b<w.heap.size:=by obtain ⟨D,h1,_⟩:=h;exact h1.lt
theorem SeenM.kept {w w':World} {row:Option Nat} {b n:Nat} {l:List ByteArray} (h:SeenM w b n l) (hg:w.grownBy w' row) (hne:some b≠row):SeenM w' b n l:=by
 obtain ⟨D,h1,h2⟩:=h;exact ⟨D,h1.kept hg hne,h2⟩
theorem SeenM.below {w w':World} {b n:Nat} {l:List ByteArray} (h:SeenM w b n l) (hb:Below w.heap.size w w'):SeenM w' b n l:=h.kept (row:=none) ⟨hb.os,hb.tape,hb.output,hb.size,fun k hk _=>hb.block k hk⟩ (by simp)
theorem SeenM.made (w:World):SeenM (w.alloc (.map #[] 0)) w.heap.size 0 []:=
 ⟨.map [],World.ownsMap_made _ _ _ _,⟨[],rfl⟩,fun s=>rfl⟩
theorem law_str:Keyed Tryz.prog 9:=string_keyed Tryz.underlying9
theorem zero_bool (w:World):(zeroValue 4).run Tryz.prog w=.ok (.bool false) w:=by kernel_rfl
theorem SeenM.put {w:World} {b n:Nat} {l:List ByteArray} {D:DataW Unit} (s:ByteArray) (h1:w.ownsMap Tryz.prog 9 (plainElem Tryz.prog 4) b (n+1) (D.put (.string s.data.toList) (.lit (.bool true)))) (h2:IsMap D)
    (h3:∀ s:ByteArray,D.atKey (.string s.data.toList) (.lit (.bool false))=.lit (.bool (l.any fun x=>sEq s x))):SeenM w b (n+1) (s::l):=by
 refine ⟨_,h1,?_,fun t=>?_⟩
 ·obtain ⟨es,rfl⟩:=h2
  exact ⟨_,rfl⟩
 ·by_cases hts:t=s
  ·subst hts
   rw [atKey_put_same h2 (k:=.string t.data.toList) trivial];simp [sEq]
  ·rw [atKey_put_other (fun e=>hts (by injection e with e;cases t;cases s;simp at e;rw [e])),h3]
   have:sEq t s=false:=sEq_ff.2 hts;simp [this]
theorem Rd.mapped {w w':World} {B B' size n b m:Nat} {A:Option Addr} {xs:List Value} {l:List ByteArray} (h:Rd w B size A n xs) (hs:0<size) (hS:SeenM w b m l) (hg:w.grownBy w' (some b)) (hB:B≤w.heap.size) (hB':B≤B'):Rd w' B' size A n xs:=
 ⟨h.1,fun hn=>by
  obtain ⟨b',off,e,hlt,hc⟩:=h.2 hn;have hx:0<xs.length:=by rw [h.1];exact Nat.mul_pos hn hs
  have hne:b'≠b:=by
   rintro rfl;have h0:=hc 0 _ (zA_ hx);obtain ⟨D,⟨es,clock,hb,_⟩,_⟩:=hS;unfold World.cell? at h0;rw [hb] at h0;cases h0
  exact ⟨b',off,e,by omega,fun j u hu=>(World.cell?_of_block (a:=⟨b',off+j,none⟩) (hg.block b' (by omega) (fun e=>by injection e;omega))).trans (hc j u hu)⟩⟩
theorem RdStr.mapped {w w':World} {B B' n b m:Nat} {A:Option Addr} {xs:List ByteArray} {l:List ByteArray} (h:RdStr w B A n xs) (hS:SeenM w b m l) (hg:w.grownBy w' (some b)) (hB:B≤w.heap.size) (hB':B≤B'):RdStr w' B' A n xs:=⟨h.1,h.2.mapped (by omega) hS hg hB hB'⟩
def devR (nodes seen:List ByteArray) (name:ByteArray) (ends:List ByteArray):Int:=
 if nameB name=false then 5 else if seen.any (fun x=>sEq name x) then 7
 else if ends.any (fun s=>!(nodes.any fun x=>sEq s x)) then 6
 else if ends.length=2∧ends[0]?=ends[1]? then 3 else 0
def PostDev (w:World) (b n:Nat) (seen:List ByteArray) (name:ByteArray) (r:Int) (e:Ending) (w':World):Prop:=
 e=.returned (.int .i64 r)∧w.grownBy w' (some b)∧(r=0→SeenM w' b (n+1) (name::seen))
theorem check_box {w:World} {p:Nat} {t:TypeId} {u v:Value} (h:Blk w p t #[u,v]):w.cell? ⟨p,0,none⟩=some u∧w.cell? ⟨p,1,none⟩=some v∧(∀ i,w.frozen? ⟨p,i,none⟩=false)∧p<w.heap.size:=⟨h.cell 0,h.cell 1,h.frozen,h.lt⟩
theorem device_any (b n:Nat) (A:Option Addr) (nn nc:Nat) (nodes:List ByteArray) (seen:List ByteArray) (name:ByteArray) (V:Option Addr) (m mc:Nat) (ends:List ByteArray) (w:World)
    (hN:RdStr w w.heap.size A nn nodes) (hnn:nn≤9223372036854775807) (hS:SeenM w b n seen) (hn:n≤65536) (hname:name.size≤maxLen) (hE:RdStr w w.heap.size V m ends) (hm:m≤2) :
    Calls Tryz.prog 97 #[.agg #[.map (some b),.slice A nn nc],.string name,.slice V m mc] w (PostDev w b n seen name (devR nodes seen name ends)):=by
 have hblt:=hS.lt;obtain ⟨D,hown,hmap,hat⟩:=hS;have K0:Below w.heap.size w (w.alloc (.cells #[.map (some b),.slice A nn nc] 161)):=bA;have HK0:=lH K0;have HN:=lH (hN.bm K0);have HE:=lH (hE.bm K0);have HO:=lH (hown.alloc (.cells #[.map (some b),.slice A nn nc] 161));have HAT:=lH hat;have HD:Hid (∀ (nodes seen ends:List ByteArray),devR nodes seen name ends=if nameB name=false then 5 else if seen.any (fun x=>sEq name x) then 7
  else if ends.any (fun s=>!(nodes.any fun x=>sEq s x)) then 6 else if ends.length=2∧ends[0]?=ends[1]? then 3 else 0):=lH fun _ _ _=>rfl
 clear hN hE hat hown K0;cases hnm:nameB name with
 | false=>
  have HNM:=lH hnm;clear hnm;go_enter Tryz.func97,Tryz.ntmps97
  go_wp2_with fail
  refine (name_any name _ hname).mono ?_;rw [HNM.o];rintro e w1 ⟨rfl,k1⟩;have HK1:=lH (HK0.o.tm k1);clear k1
  go_wp2_with fail
  go_ret;have hr:devR nodes seen name ends=5:=by rw [HD.o,if_pos HNM.o]
  exact ⟨ret_int hr.symm,only_of_below HK1.o _,fun h=>by omega⟩
 | true=>
  have HNM:=lH hnm;clear hnm;go_enter Tryz.func97,Tryz.ntmps97
  go_wp2_with fail
  refine (name_any name _ hname).mono ?_;rw [HNM.o];rintro e w1 ⟨rfl,k1⟩;have HK1:=lH (HK0.o.tm k1);have hQ:Blk w1 w.heap.size 161 #[.map (some b),.slice A nn nc]:=(Blk.new_ rfl).below k1 (by simp);have HO1:=lH (HO.o.kept (row:=none) ⟨k1.os,k1.tape,k1.output,k1.size,fun k hk _=>k1.block k hk⟩ (by simp));have HN1:=lH (HN.o.bm k1);have HE1:=lH (HE.o.bm k1);obtain ⟨c0,c1,cf,hlt1⟩:=check_box hQ;have HQ:=lH hQ;clear k1 hQ;have hk:=WideMaps.keyOf_string_mk (P:=Tryz.prog) Tryz.underlying9 hname;have HKEY:=lH hk;clear hk;cases hsn:seen.any (fun x=>sEq name x) with
  | true=>
   have HSN:=lH hsn;have HSEEN:Hid (D.atKey (.string name.data.toList) (.lit (.bool false))=.lit (.bool true)):=lH (by rw [HAT.o,hsn]);clear hsn
   go_wp2_with (at_lookup;refine wpList_lookup_own_bool _ rfl _ _ 159 rfl 9 4 law_str Tryz.underlying159 Tryz.underlying4 (zero_bool _) b n D rfl HO1.o _ _ rfl HKEY.o _ HSEEN.o ?_)
   go_ret;have hr:devR nodes seen name ends=7:=by rw [HD.o,HNM.o,HSN.o];rfl
   exact ⟨ret_int hr.symm,only_of_below HK1.o _,fun h=>by omega⟩
  | false=>
   have HSN:=lH hsn;have HSEEN:Hid (D.atKey (.string name.data.toList) (.lit (.bool false))=.lit (.bool false)):=lH (by rw [HAT.o,hsn]);clear hsn
   go_wp2_with (first | (at_lookup;refine wpList_lookup_own_bool _ rfl _ _ 159 rfl 9 4 law_str Tryz.underlying159 Tryz.underlying4 (zero_bool _) b n D rfl HO1.o _ _ rfl HKEY.o _ HSEEN.o ?_) | (at_mapUpdate;refine wpList_mapUpdate_own _ rfl _ _ _ 159 rfl 9 4 law_str Tryz.underlying159 _ b n D rfl HO1.o (by unfold maxLen;omega) _ _ _ rfl rfl HKEY.o _ [] (plainElem_bool Tryz.underlying4 true) ?_))
   intro w2 hown2 hg2;have hS1:SeenM w1 b n seen:=⟨D,HO1.o,hmap,HAT.o⟩;have HS2:=lH (SeenM.put name hown2 hmap HAT.o);have HN2:=lH (HN1.o.mapped hS1 hg2 lR hg2.size);have HE2:=lH (HE1.o.mapped hS1 hg2 lR hg2.size);have hQ2:Blk w2 w.heap.size 161 #[.map (some b),.slice A nn nc]:=HQ.o.grown hg2 (fun e=>by injection e;omega);have HG2:=lH (only_trans (only_of_below HK1.o (some b)) hg2);obtain ⟨d0,d1,df,hlt2⟩:=check_box hQ2;have hEl:=lH HE2.o.1;clear hown2 hg2 hS1 hQ2 c0 c1 cf
   go_wp2_with fail
   go_loop [8,23] (fun _ i=>∃ k:Nat,k≤m∧i=.int .i64 k∧ends.any (fun s=>!(nodes.any fun x=>sEq s x))=(ends.drop k).any (fun s=>!(nodes.any fun x=>sEq s x))) (fun _ i=>m-(intOf i).toNat)
   case atStart=>exact ⟨0,by omega,rfl,rfl⟩
   case round=>
    obtain ⟨k,hk,rfl,hidx⟩:=hrel;have HIDX:=lH hidx;clear hidx
    by_cases hlt:k<m
    ·obtain ⟨y,hy⟩:∃ y,ends[k]?=some y:=zX_ (by have:=hEl.out;omega)
     obtain ⟨bv,ov,rfl,hbv⟩:=HE2.o.form (by omega);have hcell:=HE2.o.at_ hy;have HZ:=lH (drop_cons hy);clear hy;cases hp:nodes.any (fun x=>sEq y x) with
     | true=>
      have HP:=lH hp;clear hp
      go_wp2_with fail
      refine (contains_str A nn nc nodes y _ HN2.o hnn).mono ?_;rw [HP.o];rintro e w3 ⟨rfl,rfl⟩
      go_wp2_with fail
      go_round
      case rel=>exact ⟨k+1,by omega,by go_num,by rw [HIDX.o,HZ.o];simp [HP.o]⟩
      case measure=>simp [intOf];omega
     | false=>
      have HP:=lH hp;clear hp
      go_wp2_with fail
      refine (contains_str A nn nc nodes y _ HN2.o hnn).mono ?_;rw [HP.o];rintro e w3 ⟨rfl,rfl⟩
      go_wp2_with fail
      go_ret;have hr:devR nodes seen name ends=6:=by
       rw [HD.o,HNM.o,HSN.o,HIDX.o,HZ.o];simp [HP.o]
      exact ⟨ret_int hr.symm,HG2.o,fun h=>by omega⟩
    ·have hd:ends.drop k=[]:=by rw [List.drop_eq_nil_iff];have:=hEl.out;omega
     have hr:devR nodes seen name ends=if ends.length=2∧ends[0]?=ends[1]? then 3 else 0:=by
      rw [HD.o,HNM.o,HSN.o,HIDX.o,hd];simp
     have HR:=lH hr;clear hd hr
     by_cases hm2:m=2
     ·subst hm2
      obtain ⟨y0,hy0⟩:∃ y,ends[0]?=some y:=zX_ (by have:=hEl.out;omega);obtain ⟨y1,hy1⟩:∃ y,ends[1]?=some y:=zX_ (by have:=hEl.out;omega);obtain ⟨bv,ov,rfl,hbv⟩:=HE2.o.form (by omega);have hcell0:=HE2.o.at_ hy0;have hcell1:=HE2.o.at_ hy1;rw [Nat.add_zero] at hcell0;have hw0:(0:Int)<((2:Nat):Int):=by omega
      cases hq:sEq y0 y1 with
      | true=>
       have hr:devR nodes seen name ends=3:=by rw [HR.o,hy0,hy1,if_pos ⟨hEl.out,by rw [sEq_iff.1 hq]⟩]
       have HR2:=lH hr;clear hy0 hy1 hr
       go_wp2_with fail
       go_quiet (fail)
       go_wp2_with fail
       go_ret;exact ⟨ret_int HR2.o.symm,only_drewN HG2.o _,fun h=>by rw [HR2.o] at h;omega⟩
      | false=>
       have hr:devR nodes seen name ends=0:=by rw [HR.o,hy0,hy1,if_neg (fun h=>sEq_ff.1 hq (by injection h.2))]
       have HR2:=lH hr;clear hy0 hy1 hr
       go_wp2_with fail
       go_quiet (fail)
       go_wp2_with fail
       go_ret;exact ⟨ret_int HR2.o.symm,only_drewN HG2.o _,fun _=>HS2.o.below (below_drewN bR _)⟩
     ·have hr:devR nodes seen name ends=0:=by rw [HR.o,if_neg (fun h=>hm2 (by have:=hEl.out;omega))]
      have HR2:=lH hr;have hmf:((m:Int) == 2)=false:=by rw [beq_eq_false_iff_ne];omega
      clear hr hm2
      go_wp2_with fail
      go_quiet (fail)
      go_wp2_with fail
      go_ret;exact ⟨ret_int HR2.o.symm,only_drewN HG2.o _,fun _=>HS2.o.below (below_drewN bR _)⟩
end
section
open Go.ChangeShapes Go.WideShapes Go.ChangeAt Go.RowKit Go.Joins Go.Deep Go.Maps
attribute [local go_sem ↓] execOp_call_val
attribute [local go_sem] callVal_func setCell_drewN alloc_drewN sEq_walk
def Gn.bad (x:Gn):Bool:=outB x.least 0 100000 || outB x.most x.least 100000 || outB x.ramp 0 100000
def Sw.bad (x:Sw):Bool:=false
def Ld.bad (x:Ld):Bool:=outB x.demand 0 100000
def St.bad (x:St):Bool:=outB x.charge 0 100000 || outB x.discharge 0 100000 || outB x.capacity 0 100000
def ckList {α:Type} (f:List ByteArray→α→Int) (nm:α→ByteArray):List ByteArray→List α→Int×List ByteArray
 | seen,[]=>(0,seen)
 | seen,x::r=>if f seen x≠0 then (f seen x,seen) else ckList f nm (nm x::seen) r
def fNode (nodes:List ByteArray) (seen:List ByteArray) (x:ByteArray):Int:=devR nodes seen x []
def fSw (nodes:List ByteArray) (seen:List ByteArray) (x:Sw):Int:=if devR nodes seen x.name [x.a,x.b]≠0 then devR nodes seen x.name [x.a,x.b] else if x.bad then 4 else 0
def fBr (nodes:List ByteArray) (seen:List ByteArray) (x:Br):Int:=if devR nodes seen x.name [x.fr,x.to]≠0 then devR nodes seen x.name [x.fr,x.to] else x.ck
def fGn (nodes:List ByteArray) (seen:List ByteArray) (x:Gn):Int:=if devR nodes seen x.name [x.node]≠0 then devR nodes seen x.name [x.node] else if x.bad then 4 else 0
def fLd (nodes:List ByteArray) (seen:List ByteArray) (x:Ld):Int:=if devR nodes seen x.name [x.node]≠0 then devR nodes seen x.name [x.node] else if x.bad then 4 else 0
def fSt (nodes:List ByteArray) (seen:List ByteArray) (x:St):Int:=if devR nodes seen x.name [x.node]≠0 then devR nodes seen x.name [x.node] else if x.bad then 4 else 0
def ck5 (x:Net) (seen:List ByteArray):Int:=(ckList (fSt x.nodes) St.name seen x.sts).1
def ck4 (x:Net) (seen:List ByteArray):Int:=if (ckList (fLd x.nodes) Ld.name seen x.lds).1≠0 then (ckList (fLd x.nodes) Ld.name seen x.lds).1 else ck5 x (ckList (fLd x.nodes) Ld.name seen x.lds).2
def ck3 (x:Net) (seen:List ByteArray):Int:=if (ckList (fGn x.nodes) Gn.name seen x.gns).1≠0 then (ckList (fGn x.nodes) Gn.name seen x.gns).1 else ck4 x (ckList (fGn x.nodes) Gn.name seen x.gns).2
def ck2 (x:Net) (seen:List ByteArray):Int:=if (ckList (fBr x.nodes) Br.name seen x.brs).1≠0 then (ckList (fBr x.nodes) Br.name seen x.brs).1 else ck3 x (ckList (fBr x.nodes) Br.name seen x.brs).2
def ck1 (x:Net) (seen:List ByteArray):Int:=if (ckList (fSw x.nodes) Sw.name seen x.sws).1≠0 then (ckList (fSw x.nodes) Sw.name seen x.sws).1 else ck2 x (ckList (fSw x.nodes) Sw.name seen x.sws).2
def ck0 (x:Net):Int:=if (ckList (fNode x.nodes) id [] x.nodes).1≠0 then (ckList (fNode x.nodes) id [] x.nodes).1 else ck1 x (ckList (fNode x.nodes) id [] x.nodes).2
def netLarge (x:Net):Prop:=24<x.nodes.length∨32<x.sws.length∨24<x.brs.length∨10<x.gns.length∨12<x.lds.length∨4<x.sts.length
instance (x:Net):Decidable (netLarge x):=by unfold netLarge;infer_instance
def netCk (x:Net):Int:=if netLarge x then 2 else ck0 x
theorem ckList_bad {α:Type} {f:List ByteArray→α→Int} {nm:α→ByteArray} {seen:List ByteArray} {x:α} {r l:List α} {v:Int} (hl:l=x::r) (hf:f seen x=v) (h0:v≠0):(ckList f nm seen l).1=v:=by
 subst hl;unfold ckList;rw [if_pos (by rw [hf];exact h0),hf]
theorem ckList_ok {α:Type} {f:List ByteArray→α→Int} {nm:α→ByteArray} {seen:List ByteArray} {x:α} {r l:List α} (hl:l=x::r) (h0:f seen x=0):ckList f nm seen l=ckList f nm (nm x::seen) r:=by
 subst hl;show (if f seen x≠0 then _ else _)=_;rw [if_neg (by rw [h0];simp)]
structure Ck (w0 wr:World) (b:Nat) (A:Option Addr) (nn:Nat) (nodes:List ByteArray) (h:NetH) (x:Net) (seen:List ByteArray):Prop where
 gr:w0.grownBy wr (some b)
 sn:SeenM wr b seen.length seen
 rn:RdStr wr wr.heap.size A nn nodes
 net:RdNet wr wr.heap.size h x
theorem RdNet.mapped {w w':World} {b m:Nat} {h:NetH} {x:Net} {l:List ByteArray} (r:RdNet w w.heap.size h x) (hS:SeenM w b m l) (hg:w.grownBy w' (some b)):RdNet w' w'.heap.size h x:=
 ⟨r.r0.mapped hS hg lR hg.size,⟨r.r1.1,r.r1.2.mapped (by omega) hS hg lR hg.size⟩,⟨r.r2.1,r.r2.2.mapped (by omega) hS hg lR hg.size⟩,⟨r.r3.1,r.r3.2.mapped (by omega) hS hg lR hg.size⟩,
  ⟨r.r4.1,r.r4.2.mapped (by omega) hS hg lR hg.size⟩,⟨r.r5.1,r.r5.2.mapped (by omega) hS hg lR hg.size⟩,r.m0,r.m1,r.m2,r.m3,r.m4,r.m5,r.z0,r.z1,r.z2,r.z3,r.z4,r.z5⟩
theorem Ck.below {w0 w w':World} {b:Nat} {A:Option Addr} {nn:Nat} {nodes:List ByteArray} {h:NetH} {x:Net} {seen:List ByteArray} (c:Ck w0 w b A nn nodes h x seen) (hb:Below w.heap.size w w'):Ck w0 w' b A nn nodes h x seen:=
 ⟨only_trans c.gr (only_of_below hb _),c.sn.below hb,(c.rn.below hb lR).more hb.size,c.net.up hb⟩
theorem Ck.put {w0 w w':World} {b:Nat} {A:Option Addr} {nn:Nat} {nodes:List ByteArray} {h:NetH} {x:Net} {seen:List ByteArray} {s:ByteArray} (c:Ck w0 w b A nn nodes h x seen) (hg:w.grownBy w' (some b)) (hS:SeenM w' b (seen.length+1) (s::seen)):Ck w0 w' b A nn nodes h x (s::seen):=
 ⟨only_trans c.gr hg,hS,c.rn.mapped c.sn hg lR hg.size,c.net.mapped c.sn hg⟩
theorem below2 (w:World) (o1 o2:Obj):Below w.heap.size w ((w.alloc o1).alloc o2):=(bA).alloc (by simp) _
theorem ends_any (b:Nat) (A:Option Addr) (nn nc:Nat) (nodes:List ByteArray) (h:NetH) (x:Net) (seen0:List ByteArray) (w:World)
    (hC:Ck w w b A nn nodes h x seen0) (hnn:nn≤9223372036854775807) (hs0:seen0.length≤1000) (h3:h.n3≤10) (h4:h.n4≤12) (h5:h.n5≤4) (hnodes:x.nodes=nodes) :
    Calls Tryz.prog 99 #[.agg #[.map (some b),.slice A nn nc],.agg h.cells] w fun e w'=>e=.returned (.int .i64 (ck3 x seen0))∧w.grownBy w' (some b):=by
 obtain ⟨A0,m0,c0,A1,m1,c1,A2,m2,c2,A3,m3,c3,A4,m4,c4,A5,m5,c5⟩:=h;dsimp only [NetH.cells] at *;have hbl:=hC.sn.lt;have hC2:=hC.below (below2 w (.cells #[.map (some b),.slice A nn nc] 161) (.cells #[.slice A0 m0 c0,.slice A1 m1 c1,.slice A2 m2 c2,.slice A3 m3 c3,.slice A4 m4 c4,.slice A5 m5 c5] 29));have HC:=lH hC2;have HQ1:Hid (Blk ((w.alloc (.cells #[.map (some b),.slice A nn nc] 161)).alloc (.cells #[.slice A0 m0 c0,.slice A1 m1 c1,.slice A2 m2 c2,.slice A3 m3 c3,.slice A4 m4 c4,.slice A5 m5 c5] 29)) w.heap.size 161 #[.map (some b),.slice A nn nc]):=lH ((Blk.new w _ _).alloc _)
 have HQ2:Hid (Blk ((w.alloc (.cells #[.map (some b),.slice A nn nc] 161)).alloc (.cells #[.slice A0 m0 c0,.slice A1 m1 c1,.slice A2 m2 c2,.slice A3 m3 c3,.slice A4 m4 c4,.slice A5 m5 c5] 29)) (w.heap.size+1) 29 #[.slice A0 m0 c0,.slice A1 m1 c1,.slice A2 m2 c2,.slice A3 m3 c3,.slice A4 m4 c4,.slice A5 m5 c5]):=lH (Blk.new_ (by simp));have HNET:=lH hC2.net;obtain ⟨y0,y1,y2,y3,y4,y5,nf,nlt⟩:=net_box (h:=⟨A0,m0,c0,A1,m1,c1,A2,m2,c2,A3,m3,c3,A4,m4,c4,A5,m5,c5⟩) HQ2.o;have HND:=lH hnodes;clear hC hC2 hnodes;go_enter Tryz.func99,Tryz.ntmps99
 go_wp2_with fail
 have hlen3:Hid (x.gns.length=m3):=lH HNET.o.r3.1
 go_loopw [17] (fun i wr=>∃ (k:Nat) (seen3:List ByteArray),k≤m3∧i=.int .i64 k∧Ck w wr b A nn nodes ⟨A0,m0,c0,A1,m1,c1,A2,m2,c2,A3,m3,c3,A4,m4,c4,A5,m5,c5⟩ x seen3∧Blk wr w.heap.size 161 #[.map (some b),.slice A nn nc]∧Blk wr (w.heap.size+1) 29 #[.slice A0 m0 c0,.slice A1 m1 c1,.slice A2 m2 c2,.slice A3 m3 c3,.slice A4 m4 c4,.slice A5 m5 c5]∧seen3.length≤seen0.length+k∧ckList (fGn nodes) Gn.name seen0 x.gns=ckList (fGn nodes) Gn.name seen3 (x.gns.drop k)) (fun i _=>m3-(intOf i).toNat)
 case atStart=>exact ⟨0,seen0,by omega,rfl,HC.o,HQ1.o,HQ2.o,by omega,rfl⟩
 case round=>
  clear HC HQ1 HQ2 HNET;obtain ⟨k,seen3,hk,rfl,hC,hq1,hq2,hcnt,hgo⟩:=hrel;have HC:=lH hC;have HQ1:=lH hq1;have HQ2:=lH hq2;have HGO:=lH hgo;obtain ⟨g0,g1,gf,glt⟩:=check_box hq1;obtain ⟨y0,y1,y2,y3,y4,y5,nf,nlt⟩:=net_box (h:=⟨A0,m0,c0,A1,m1,c1,A2,m2,c2,A3,m3,c3,A4,m4,c4,A5,m5,c5⟩) hq2;have hbw:=hC.sn.lt;have HNET:=lH hC.net;clear hC hq1 hq2 hgo
  by_cases hlt:k<m3
  ·obtain ⟨z,hz⟩:∃ z,x.gns[k]?=some z:=zX_ (by have:=hlen3.out;omega)
   obtain ⟨bz,oz,hA,hbz⟩:=HC.o.net.r3.form (by dsimp only;omega);dsimp only at hA;subst hA;obtain ⟨e0,e1,e2,e3,e4⟩:=HC.o.net.r3.at_ hz;have hzn:=HC.o.net.z3 z (zC_ hz);have HZ:=lH (drop_cons hz);clear hz
   go_wp2_with fail
   have hB:=below2 wr (.cells #[.string z.name,.string z.node,.int .i64 z.least,.int .i64 z.most,.int .i64 z.ramp] 145) (.cells #[.string z.node] 9);have hE:RdStr ((wr.alloc (.cells #[.string z.name,.string z.node,.int .i64 z.least,.int .i64 z.most,.int .i64 z.ramp] 145)).alloc (.cells #[.string z.node] 9)) ((wr.alloc (.cells #[.string z.name,.string z.node,.int .i64 z.least,.int .i64 z.most,.int .i64 z.ramp] 145)).alloc (.cells #[.string z.node] 9)).heap.size (some ⟨wr.heap.size+1,0,none⟩) 1 [z.node]:=rdStr_lit (zs:=[z.node]) (Blk.new_ (by simp)) (by simp);have hC2:=HC.o.below hB;refine (device_any b _ A nn nc nodes seen3 z.name _ 1 1 [z.node] _ hC2.rn hnn hC2.sn (by omega) hzn hE (by omega)).mono ?_;generalize hR:devR nodes seen3 z.name [z.node]=r;rintro e w2 ⟨rfl,hg2,hS2⟩
   have hq3:Blk w2 wr.heap.size 145 #[.string z.name,.string z.node,.int .i64 z.least,.int .i64 z.most,.int .i64 z.ramp]:=Blk.grown ((Blk.new wr _ _).alloc _) hg2 (fun e=>by injection e;omega);have hq1:Blk w2 w.heap.size 161 #[.map (some b),.slice A nn nc]:=Blk.grown (HQ1.o.bl hB) hg2 (fun e=>by injection e;omega);have hq2:=Blk.grown (HQ2.o.bl hB) hg2 (fun e=>by injection e;omega);have HG2:=lH (only_trans hC2.gr hg2);have HS2:=lH hS2;have HC2:=lH hC2;have Hg2:=lH hg2;obtain ⟨f0,f1,f2,f3,f4,ff,flt⟩:=Gn.box hq3;have HQ1':=lH hq1;have HQ2':=lH hq2;have HRR:=lH hR;clear hB hE hC2 hg2 hS2 hq3 hq1 hq2 hR e0 e1 e2 e3 e4
   by_cases hr0:r=0
   ·subst hr0
    have HC3:=lH (HC2.o.put Hg2.o (HS2.o rfl));cases t0:outB z.least 0 100000 with
    | true=>
     have hf:fGn nodes seen3 z=4:=by unfold fGn Gn.bad;rw [HRR.o];simp [t0]
     have hr:(ckList (fGn nodes) Gn.name seen0 x.gns).1=4:=by rw [HGO.o];exact ckList_bad HZ.o hf (by omega)
     have HR4:=lH hr;clear hf hr
     go_wp2_with (first | (go_at_call 130;refine (npermitted_any _ _).mono ?_;rintro e w' ⟨rfl,rfl⟩) | (go_at_call 129;refine (nout_any _ _ _ _).mono ?_;rintro e w' ⟨rfl,rfl⟩))
     go_ret;exact ⟨ret_int (by unfold ck3;rw [HND.o,if_pos (by rw [HR4.o];omega),HR4.o]),HG2.o⟩
    | false=>
     cases t1:outB z.most z.least 100000 with
     | true=>
      have hf:fGn nodes seen3 z=4:=by unfold fGn Gn.bad;rw [HRR.o];simp [t0,t1]
      have hr:(ckList (fGn nodes) Gn.name seen0 x.gns).1=4:=by rw [HGO.o];exact ckList_bad HZ.o hf (by omega)
      have HR4:=lH hr;clear hf hr
      go_wp2_with (first | (go_at_call 130;refine (npermitted_any _ _).mono ?_;rintro e w' ⟨rfl,rfl⟩) | (go_at_call 129;refine (nout_any _ _ _ _).mono ?_;rintro e w' ⟨rfl,rfl⟩))
      go_ret;exact ⟨ret_int (by unfold ck3;rw [HND.o,if_pos (by rw [HR4.o];omega),HR4.o]),HG2.o⟩
     | false=>
      cases t2:outB z.ramp 0 100000 with
      | true=>
       have hf:fGn nodes seen3 z=4:=by unfold fGn Gn.bad;rw [HRR.o];simp [t0,t1,t2]
       have hr:(ckList (fGn nodes) Gn.name seen0 x.gns).1=4:=by rw [HGO.o];exact ckList_bad HZ.o hf (by omega)
       have HR4:=lH hr;clear hf hr
       go_wp2_with (first | (go_at_call 130;refine (npermitted_any _ _).mono ?_;rintro e w' ⟨rfl,rfl⟩) | (go_at_call 129;refine (nout_any _ _ _ _).mono ?_;rintro e w' ⟨rfl,rfl⟩))
       go_ret;exact ⟨ret_int (by unfold ck3;rw [HND.o,if_pos (by rw [HR4.o];omega),HR4.o]),HG2.o⟩
      | false=>
       have hf:fGn nodes seen3 z=0:=by unfold fGn Gn.bad;rw [HRR.o];simp [t0,t1,t2]
       have HF:=lH hf;clear hf
       go_wp2_with (first | (go_at_call 130;refine (npermitted_any _ _).mono ?_;rintro e w' ⟨rfl,rfl⟩) | (go_at_call 129;refine (nout_any _ _ _ _).mono ?_;rintro e w' ⟨rfl,rfl⟩))
       go_roundw
       case rel=>exact ⟨k+1,z.name::seen3,by omega,by go_num,HC3.o,HQ1'.o,HQ2'.o,by simp;omega,by rw [HGO.o];exact ckList_ok HZ.o HF.o⟩
       case measure=>simp [intOf];omega
   ·have hrb:(r != 0)=true:=by simpa using hr0
    have hf:fGn nodes seen3 z=r:=by unfold fGn;rw [HRR.o,if_pos hr0]
    have hr:(ckList (fGn nodes) Gn.name seen0 x.gns).1=r:=by rw [HGO.o];exact ckList_bad HZ.o hf hr0
    have HR4:=lH hr;have HR0:=lH hr0;clear hf hr hr0
    go_wp2_with fail
    go_ret;exact ⟨ret_int (by unfold ck3;rw [HND.o,if_pos (by rw [HR4.o];exact HR0.o),HR4.o]),HG2.o⟩
  ·have hd:x.gns.drop k=[]:=by rw [List.drop_eq_nil_iff];have:=hlen3.out;omega
   have hr:ckList (fGn nodes) Gn.name seen0 x.gns=(0,seen3):=by rw [HGO.o,hd];rfl
   have HL3:=lH hr;have hcnt3:seen3.length≤seen0.length+m3:=by omega
   clear hd hr hcnt;have hlenx:=HNET;have HW4:Hid (ck3 x seen0=ck4 x seen3):=lH (by unfold ck3;rw [HND.o,HL3.o];rfl)
   go_wp2_with fail
   have hlen4:Hid (x.lds.length=m4):=lH HNET.o.r4.1
   go_loopw [52] (fun i wr=>∃ (k:Nat) (seen4:List ByteArray),k≤m4∧i=.int .i64 k∧Ck w wr b A nn nodes ⟨A0,m0,c0,A1,m1,c1,A2,m2,c2,A3,m3,c3,A4,m4,c4,A5,m5,c5⟩ x seen4∧Blk wr w.heap.size 161 #[.map (some b),.slice A nn nc]∧Blk wr (w.heap.size+1) 29 #[.slice A0 m0 c0,.slice A1 m1 c1,.slice A2 m2 c2,.slice A3 m3 c3,.slice A4 m4 c4,.slice A5 m5 c5]∧seen4.length≤seen3.length+k∧ckList (fLd nodes) Ld.name seen3 x.lds=ckList (fLd nodes) Ld.name seen4 (x.lds.drop k)) (fun i _=>m4-(intOf i).toNat)
   case atStart=>exact ⟨0,seen3,by omega,rfl,HC.o,HQ1.o,HQ2.o,by omega,rfl⟩
   case round=>
    clear HC HQ1 HQ2 HNET;obtain ⟨k,seen4,hk,rfl,hC,hq1,hq2,hcnt,hgo⟩:=hrel;have HC:=lH hC;have HQ1:=lH hq1;have HQ2:=lH hq2;have HGO:=lH hgo;obtain ⟨g0,g1,gf,glt⟩:=check_box hq1;obtain ⟨y0,y1,y2,y3,y4,y5,nf,nlt⟩:=net_box (h:=⟨A0,m0,c0,A1,m1,c1,A2,m2,c2,A3,m3,c3,A4,m4,c4,A5,m5,c5⟩) hq2;have hbw:=hC.sn.lt;have HNET:=lH hC.net;clear hC hq1 hq2 hgo
    by_cases hlt:k<m4
    ·obtain ⟨z,hz⟩:∃ z,x.lds[k]?=some z:=zX_ (by have:=hlen4.out;omega)
     obtain ⟨bz,oz,hA,hbz⟩:=HC.o.net.r4.form (by dsimp only;omega);dsimp only at hA;subst hA;obtain ⟨e0,e1,e2⟩:=HC.o.net.r4.at_ hz;have hzn:=HC.o.net.z4 z (zC_ hz);have HZ:=lH (drop_cons hz);clear hz
     go_wp2_with fail
     have hB:=below2 wr (.cells #[.string z.name,.string z.node,.int .i64 z.demand] 199) (.cells #[.string z.node] 9);have hE:RdStr ((wr.alloc (.cells #[.string z.name,.string z.node,.int .i64 z.demand] 199)).alloc (.cells #[.string z.node] 9)) ((wr.alloc (.cells #[.string z.name,.string z.node,.int .i64 z.demand] 199)).alloc (.cells #[.string z.node] 9)).heap.size (some ⟨wr.heap.size+1,0,none⟩) 1 [z.node]:=rdStr_lit (zs:=[z.node]) (Blk.new_ (by simp)) (by simp);have hC2:=HC.o.below hB;refine (device_any b _ A nn nc nodes seen4 z.name _ 1 1 [z.node] _ hC2.rn hnn hC2.sn (by omega) hzn hE (by omega)).mono ?_;generalize hR:devR nodes seen4 z.name [z.node]=r;rintro e w2 ⟨rfl,hg2,hS2⟩;have hq3:Blk w2 wr.heap.size 199 #[.string z.name,.string z.node,.int .i64 z.demand]:=Blk.grown ((Blk.new wr _ _).alloc _) hg2 (fun e=>by injection e;omega)
     have hq1:Blk w2 w.heap.size 161 #[.map (some b),.slice A nn nc]:=Blk.grown (HQ1.o.bl hB) hg2 (fun e=>by injection e;omega);have hq2:=Blk.grown (HQ2.o.bl hB) hg2 (fun e=>by injection e;omega);have HG2:=lH (only_trans hC2.gr hg2);have HS2:=lH hS2;have HC2:=lH hC2;have Hg2:=lH hg2;obtain ⟨f0,f1,f2,ff,flt⟩:=Ld.box hq3;have HQ1':=lH hq1;have HQ2':=lH hq2;have HRR:=lH hR;clear hB hE hC2 hg2 hS2 hq3 hq1 hq2 hR e0 e1 e2
     by_cases hr0:r=0
     ·subst hr0
      have HC3:=lH (HC2.o.put Hg2.o (HS2.o rfl));cases t0:outB z.demand 0 100000 with
      | true=>
       have hf:fLd nodes seen4 z=4:=by unfold fLd Ld.bad;rw [HRR.o];simp [t0]
       have hr:(ckList (fLd nodes) Ld.name seen3 x.lds).1=4:=by rw [HGO.o];exact ckList_bad HZ.o hf (by omega)
       have HR4:=lH hr;clear hf hr
       go_wp2_with (first | (go_at_call 130;refine (npermitted_any _ _).mono ?_;rintro e w' ⟨rfl,rfl⟩) | (go_at_call 129;refine (nout_any _ _ _ _).mono ?_;rintro e w' ⟨rfl,rfl⟩))
       go_ret;exact ⟨ret_int (by rw [HW4.o];unfold ck4;rw [HND.o,if_pos (by rw [HR4.o];omega),HR4.o]),HG2.o⟩
      | false=>
       have hf:fLd nodes seen4 z=0:=by unfold fLd Ld.bad;rw [HRR.o];simp [t0]
       have HF:=lH hf;clear hf
       go_wp2_with (first | (go_at_call 130;refine (npermitted_any _ _).mono ?_;rintro e w' ⟨rfl,rfl⟩) | (go_at_call 129;refine (nout_any _ _ _ _).mono ?_;rintro e w' ⟨rfl,rfl⟩))
       go_roundw
       case rel=>exact ⟨k+1,z.name::seen4,by omega,by go_num,HC3.o,HQ1'.o,HQ2'.o,by simp;omega,by rw [HGO.o];exact ckList_ok HZ.o HF.o⟩
       case measure=>simp [intOf];omega
     ·have hrb:(r != 0)=true:=by simpa using hr0
      have hf:fLd nodes seen4 z=r:=by unfold fLd;rw [HRR.o,if_pos hr0]
      have hr:(ckList (fLd nodes) Ld.name seen3 x.lds).1=r:=by rw [HGO.o];exact ckList_bad HZ.o hf hr0
      have HR4:=lH hr;have HR0:=lH hr0;clear hf hr hr0
      go_wp2_with fail
      go_ret;exact ⟨ret_int (by rw [HW4.o];unfold ck4;rw [HND.o,if_pos (by rw [HR4.o];exact HR0.o),HR4.o]),HG2.o⟩
    ·have hd:x.lds.drop k=[]:=by rw [List.drop_eq_nil_iff];have:=hlen4.out;omega
     have hr:ckList (fLd nodes) Ld.name seen3 x.lds=(0,seen4):=by rw [HGO.o,hd];rfl
     have HL4:=lH hr;have hcnt4:seen4.length≤seen3.length+m4:=by omega
     clear hd hr hcnt;have hlenx:=HNET;have HW5:Hid (ck3 x seen0=ck5 x seen4):=lH (by rw [HW4.o];unfold ck4;rw [HND.o,HL4.o];rfl)
     go_wp2_with fail
     have hlen5:Hid (x.sts.length=m5):=lH HNET.o.r5.1
     go_loopw [74] (fun i wr=>∃ (k:Nat) (seen5:List ByteArray),k≤m5∧i=.int .i64 k∧Ck w wr b A nn nodes ⟨A0,m0,c0,A1,m1,c1,A2,m2,c2,A3,m3,c3,A4,m4,c4,A5,m5,c5⟩ x seen5∧Blk wr w.heap.size 161 #[.map (some b),.slice A nn nc]∧Blk wr (w.heap.size+1) 29 #[.slice A0 m0 c0,.slice A1 m1 c1,.slice A2 m2 c2,.slice A3 m3 c3,.slice A4 m4 c4,.slice A5 m5 c5]∧seen5.length≤seen4.length+k∧ckList (fSt nodes) St.name seen4 x.sts=ckList (fSt nodes) St.name seen5 (x.sts.drop k)) (fun i _=>m5-(intOf i).toNat)
     case atStart=>exact ⟨0,seen4,by omega,rfl,HC.o,HQ1.o,HQ2.o,by omega,rfl⟩
     case round=>
      clear HC HQ1 HQ2 HNET;obtain ⟨k,seen5,hk,rfl,hC,hq1,hq2,hcnt,hgo⟩:=hrel;have HC:=lH hC;have HQ1:=lH hq1;have HQ2:=lH hq2;have HGO:=lH hgo;obtain ⟨g0,g1,gf,glt⟩:=check_box hq1;obtain ⟨y0,y1,y2,y3,y4,y5,nf,nlt⟩:=net_box (h:=⟨A0,m0,c0,A1,m1,c1,A2,m2,c2,A3,m3,c3,A4,m4,c4,A5,m5,c5⟩) hq2;have hbw:=hC.sn.lt;have HNET:=lH hC.net;clear hC hq1 hq2 hgo
      by_cases hlt:k<m5
      ·obtain ⟨z,hz⟩:∃ z,x.sts[k]?=some z:=zX_ (by have:=hlen5.out;omega)
       obtain ⟨bz,oz,hA,hbz⟩:=HC.o.net.r5.form (by dsimp only;omega);dsimp only at hA;subst hA;obtain ⟨e0,e1,e2,e3,e4⟩:=HC.o.net.r5.at_ hz;have hzn:=HC.o.net.z5 z (zC_ hz);have HZ:=lH (drop_cons hz);clear hz
       go_wp2_with fail
       have hB:=below2 wr (.cells #[.string z.name,.string z.node,.int .i64 z.charge,.int .i64 z.discharge,.int .i64 z.capacity] 201) (.cells #[.string z.node] 9);have hE:RdStr ((wr.alloc (.cells #[.string z.name,.string z.node,.int .i64 z.charge,.int .i64 z.discharge,.int .i64 z.capacity] 201)).alloc (.cells #[.string z.node] 9)) ((wr.alloc (.cells #[.string z.name,.string z.node,.int .i64 z.charge,.int .i64 z.discharge,.int .i64 z.capacity] 201)).alloc (.cells #[.string z.node] 9)).heap.size (some ⟨wr.heap.size+1,0,none⟩) 1 [z.node]:=rdStr_lit (zs:=[z.node]) (Blk.new_ (by simp)) (by simp);have hC2:=HC.o.below hB;refine (device_any b _ A nn nc nodes seen5 z.name _ 1 1 [z.node] _ hC2.rn hnn hC2.sn (by omega) hzn hE (by omega)).mono ?_;generalize hR:devR nodes seen5 z.name [z.node]=r;rintro e w2 ⟨rfl,hg2,hS2⟩
       have hq3:Blk w2 wr.heap.size 201 #[.string z.name,.string z.node,.int .i64 z.charge,.int .i64 z.discharge,.int .i64 z.capacity]:=Blk.grown ((Blk.new wr _ _).alloc _) hg2 (fun e=>by injection e;omega);have hq1:Blk w2 w.heap.size 161 #[.map (some b),.slice A nn nc]:=Blk.grown (HQ1.o.bl hB) hg2 (fun e=>by injection e;omega);have hq2:=Blk.grown (HQ2.o.bl hB) hg2 (fun e=>by injection e;omega);have HG2:=lH (only_trans hC2.gr hg2);have HS2:=lH hS2;have HC2:=lH hC2;have Hg2:=lH hg2;obtain ⟨f0,f1,f2,f3,f4,ff,flt⟩:=St.box hq3;have HQ1':=lH hq1;have HQ2':=lH hq2;have HRR:=lH hR;clear hB hE hC2 hg2 hS2 hq3 hq1 hq2 hR e0 e1 e2 e3 e4
       by_cases hr0:r=0
       ·subst hr0
        have HC3:=lH (HC2.o.put Hg2.o (HS2.o rfl));cases t0:outB z.charge 0 100000 with
        | true=>
         have hf:fSt nodes seen5 z=4:=by unfold fSt St.bad;rw [HRR.o];simp [t0]
         have hr:(ckList (fSt nodes) St.name seen4 x.sts).1=4:=by rw [HGO.o];exact ckList_bad HZ.o hf (by omega)
         have HR4:=lH hr;clear hf hr
         go_wp2_with (first | (go_at_call 130;refine (npermitted_any _ _).mono ?_;rintro e w' ⟨rfl,rfl⟩) | (go_at_call 129;refine (nout_any _ _ _ _).mono ?_;rintro e w' ⟨rfl,rfl⟩))
         go_ret;exact ⟨ret_int (by rw [HW5.o];unfold ck5;rw [HND.o,HR4.o]),HG2.o⟩
        | false=>
         cases t1:outB z.discharge 0 100000 with
         | true=>
          have hf:fSt nodes seen5 z=4:=by unfold fSt St.bad;rw [HRR.o];simp [t0,t1]
          have hr:(ckList (fSt nodes) St.name seen4 x.sts).1=4:=by rw [HGO.o];exact ckList_bad HZ.o hf (by omega)
          have HR4:=lH hr;clear hf hr
          go_wp2_with (first | (go_at_call 130;refine (npermitted_any _ _).mono ?_;rintro e w' ⟨rfl,rfl⟩) | (go_at_call 129;refine (nout_any _ _ _ _).mono ?_;rintro e w' ⟨rfl,rfl⟩))
          go_ret;exact ⟨ret_int (by rw [HW5.o];unfold ck5;rw [HND.o,HR4.o]),HG2.o⟩
         | false=>
          cases t2:outB z.capacity 0 100000 with
          | true=>
           have hf:fSt nodes seen5 z=4:=by unfold fSt St.bad;rw [HRR.o];simp [t0,t1,t2]
           have hr:(ckList (fSt nodes) St.name seen4 x.sts).1=4:=by rw [HGO.o];exact ckList_bad HZ.o hf (by omega)
           have HR4:=lH hr;clear hf hr
           go_wp2_with (first | (go_at_call 130;refine (npermitted_any _ _).mono ?_;rintro e w' ⟨rfl,rfl⟩) | (go_at_call 129;refine (nout_any _ _ _ _).mono ?_;rintro e w' ⟨rfl,rfl⟩))
           go_ret;exact ⟨ret_int (by rw [HW5.o];unfold ck5;rw [HND.o,HR4.o]),HG2.o⟩
          | false=>
           have hf:fSt nodes seen5 z=0:=by unfold fSt St.bad;rw [HRR.o];simp [t0,t1,t2]
           have HF:=lH hf;clear hf
           go_wp2_with (first | (go_at_call 130;refine (npermitted_any _ _).mono ?_;rintro e w' ⟨rfl,rfl⟩) | (go_at_call 129;refine (nout_any _ _ _ _).mono ?_;rintro e w' ⟨rfl,rfl⟩))
           go_roundw
           case rel=>exact ⟨k+1,z.name::seen5,by omega,by go_num,HC3.o,HQ1'.o,HQ2'.o,by simp;omega,by rw [HGO.o];exact ckList_ok HZ.o HF.o⟩
           case measure=>simp [intOf];omega
       ·have hrb:(r != 0)=true:=by simpa using hr0
        have hf:fSt nodes seen5 z=r:=by unfold fSt;rw [HRR.o,if_pos hr0]
        have hr:(ckList (fSt nodes) St.name seen4 x.sts).1=r:=by rw [HGO.o];exact ckList_bad HZ.o hf hr0
        have HR4:=lH hr;have HR0:=lH hr0;clear hf hr hr0
        go_wp2_with fail
        go_ret;exact ⟨ret_int (by rw [HW5.o];unfold ck5;rw [HND.o,HR4.o]),HG2.o⟩
      ·have hd:x.sts.drop k=[]:=by rw [List.drop_eq_nil_iff];have:=hlen5.out;omega
       have hr:ckList (fSt nodes) St.name seen4 x.sts=(0,seen5):=by rw [HGO.o,hd];rfl
       have HL5:=lH hr;have hcnt5:seen5.length≤seen4.length+m5:=by omega
       clear hd hr hcnt;have hlenx:=HNET
       go_wp2_with fail
       go_ret;exact ⟨ret_int (by rw [HW5.o];unfold ck5;rw [HND.o,HL5.o]),HC.o.gr⟩
end
end Go.Proofs.YthgdchffeigkbaaGreatDoor
