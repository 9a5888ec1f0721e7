import Derived.Test.YthgdchffeigkbaaGreatDoorV02
import Derived.ChangeSame
import Derived.Carry
import Derived.Lib.SmallJoins
import Derived.Deep.Slices
import Derived.Deep.Fields
import Derived.Laws.Strings
import Derived.Laws.IdiomStrings
import Derived.Maps.OwnOps
import Derived.Maps.Views
set_option linter.unusedVariables false
set_option linter.unusedSimpArgs false
namespace Go.Proofs.YthgdchffeigkbaaGreatDoor
set_option maxHeartbeats 8000000
set_option maxRecDepth 100000
variable {A : OA} {B B' b i m n off p : Nat} {l nodes seen xs : List ByteArray} {t : TypeId} {v : Value} {w w' : World}
section
open Go.ChangeShapes Go.WideShapes Go.ChangeAt Go.RowKit Go.Joins
section
variable {H:Type} {enc:TypeId×Value->H} {P:Program}
theorem LI{f:Func}{s:ChangeSpec}{apart fresh handsOn again:Bool}{W W':Wo}{args:Array Value}{v:Value}{ds gs:List (DataW H)}{before pa pv:List MemPlace}(hW:DataW.Whole enc P f.params.toList s.vars apart W args.toList ds gs before)(aFG:∀(b:Nat)(sp:Nat->Bool)(hd:Bool),DataW.TrodAll enc P W' b sp hd f.resultTypes.toList (v.resultList f.resultTypes.size) (s.fn H (ds++gs)).results [])(aL7:∀sp:Nat->Bool,(∀p∈before,sp p.block=true)->DataW.TrodAll enc P W' 0 sp true f.params.toList args.toList (s.fn H (ds++gs)).args pa)(ST:∀sp:Nat->Bool,(∀p∈before,sp p.block=true)->DataW.TrodVars enc P W' sp s.vars (s.fn H (ds++gs)).vars pv)(DF:before=pa++pv)(hb:Below W.heap.size W W')(pY:∀(j:Nat)(t:TypeId)(r:Value),f.resultTypes[j]?=some t->(v.resultList f.resultTypes.size)[j]?=some r->Value.okWide P W' .any 0 t r):s.post enc P f apart fresh handsOn again W args v W':=by
 have aU:∀p∈before,p.block<W.heap.size:=fun p hp=>hW.lt p hp;have hold:∀p∈before,(fun b=>decide (b<W.heap.size)) p.block=true:=fun p hp=>by simpa using aU p hp
 refine⟨ds,gs,before,[],pa,pv,hW,aFG _ _ _,aL7 _ hold,ST _ hold,World.keptBut_mono (fun p hp=>⟨hp,?_⟩) (hb.frame (·∈before)),fun _=>?_⟩
 ·rw[DF,List.mem_append] at hp
  exact Or.inr hp
 ·obtain⟨_,_,_,_,_,hz,hn⟩:=hW
  refine⟨pY,_,_,([]++pa)++pv,⟨[]++pa,pv,trodAll_append (aL7 _ (fun _ _=>rfl)) (aFG _ _ _),ST _ (fun _ _=>rfl),rfl,?_,?_⟩,?_⟩
  ·intro b off hp
   have kT:MemPlace.cell b off∈before:=by rw[DF];simpa using hp
   rw[hb.frozen (aU _ kT)];exact hz b off kT
  ·intro ha
   have:=hn ha;rw[DF] at this;simpa using this
  ·intro p hp _
   rw[DF];simpa using hp
theorem zN(hl:laidOutB P=true){W W':Wo}(hb:Below W.heap.size W W')(sp:Nat->Bool):∀{ts:List TypeId}{vs:List Value} {ds:List (DataW H)} {p:List MemPlace},(∀t∈ts,P.readableRec t=true/\t<P.types.size)->DataW.TrodAll enc P W 0 (fun _=>true) true ts vs ds p->
     (∀x∈p,x.block<W.heap.size)->(∀x∈p,sp x.block=true)->DataW.TrodAll enc P W' 0 sp true ts vs ds p
 | [],[],[],_,_,h,_,_=>h
 | [],[],_::_,_,_,h,_,_=>h.elim
 | [],_::_,_,_,_,h,_,_=>h.elim
 | _::_,[],_,_,_,h,_,_=>h.elim
 | _::_,_::_,[],_,_,h,_,_=>h.elim
 | t::ts,v::vs,d::ds,ps,hr,h,aU,hsp=>by
  obtain⟨p,q,h1,h2,rfl⟩:=h;refine⟨p,q,?_,zN hl hb sp (fun t ht=>hr t (List.mem_cons_of_mem _ ht)) h2 (fun x hx=>aU x (List.mem_append_right _ hx)) (fun x hx=>hsp x (List.mem_append_right _ hx)),rfl⟩;exact WideElems.Trod_stays hl (hr t (List.mem_cons_self ..)).1 (hr t (List.mem_cons_self ..)).2 h1 (fun x hx=>hb.same (aU x (List.mem_append_left _ hx))) (fun x hx=>hsp x (List.mem_append_left _ hx))
theorem aRx(hl:laidOutB P=true){f:Func}{s:ChangeSpec}{apart fresh handsOn again:Bool}{W W':Wo}{args:Array Value}{ds:List (DataW H)}{before:List MemPlace}{tb:TypeId}(ST:s.vars=[])(hfn:s.fn H ds={ results:=[.lit (.bool true)],args:=ds })(aR6:∀t∈f.params.toList,P.readableRec t=true/\t<P.types.size)(QS:f.resultTypes=#[tb])(UW:P.underlying tb=some .bool)(hW:DataW.Whole enc P f.params.toList s.vars apart W args.toList ds [] before)(hb:Below W.heap.size W W'):s.post enc P f apart fresh handsOn again W args (.bool true) W':=by
 have hW0:=hW;obtain⟨p,q,hA,hV,hpq,_,_⟩:=hW;rw[ST] at hV;have hq:q=[]:=hV;subst hq;refine LI (pa:=p) (pv:=[]) hW0 ?_ ?_ ?_ hpq hb ?_
 ·intro b sp hd
  rw[List.append_nil,hfn,QS];exact⟨[],[],shut_bool UW true,rfl,rfl⟩
 ·intro sp hsp
  rw[List.append_nil,hfn];exact zN hl hb sp aR6 hA (fun x hx=>hW0.lt x (by rw[hpq];simpa using hx)) (fun x hx=>hsp x (by rw[hpq];simpa using hx))
 ·intro sp hsp
  rw[List.append_nil,hfn,ST];rfl
 ·intro j t r h1 h2
  rw[QS] at h1 h2
  match j with
  | 0=>
   simp[Value.resultList] at h1 h2;subst h1;subst h2;exact okWide_bool_mk UW true
  | j+1=>simp at h1
end
end
section
open Go.ChangeShapes Go.WideShapes Go.ChangeAt Go.RowKit Go.Joins Go.Deep
theorem qW{α β:Type}{el:α->List β}{sz:Nat}(dW:∀a,(el a).length=sz)(xs:List α):(xs.flatMap el).length=xs.length*sz:=by
 induction xs with
 | nil=>simp
 | cons x r ih=>simp[ih,dW,Nat.succ_mul,Nat.add_comm]
theorem lC{α β:Type}{el:α->List β}{sz:Nat}(dW:∀a,(el a).length=sz):∀(xs:List α)(i:Nat)(x:α),xs[i]?=some x->∀k,k<sz->(xs.flatMap el)[i*sz+k]?=(el x)[k]?
 | [],i,x,h,k,hk=>by simp at h
 | y::r,0,x,h,k,hk=>by
  simp at h;subst h;rw[List.flatMap_cons,BD (by rw[dW];omega)];simp
 | y::r,i+1,x,h,k,hk=>by
  rw[List.flatMap_cons,DN (by rw[dW,Nat.succ_mul];omega),dW];rw[show(i+1)*sz+k-sz=i*sz+k from by rw[Nat.succ_mul];omega];exact lC dW r i x (by simpa using h) k hk
theorem aKm{a:Addr}(h:w.cell? a=some v):a.block<w.heap.size/\a.spot=none:=by
 unfold World.cell? at h;cases hb:w.heap[a.block]? with
 | none=>rw[hb] at h;cases h
 | some o=>
  rw[hb] at h;refine⟨(Array.getElem?_eq_some_iff.1 hb).1,?_⟩;cases o with
  | cells c t f=>
   simp only at h;split at h
   ·cases h
   ·rename_i hs;simpa using hs
  | _=>cases h
theorem T2{α:Type}(n:Nat){Q:Nat->α->Prop}(h:∀i,i<n->∃a,Q i a):∃xs:List α,xs.length=n/\∀(i:Nat)(a:α),xs[i]?=some a->Q i a:=by
 induction n with
 | zero=>exact⟨[],rfl,by simp⟩
 | succ n ih=>
  obtain⟨xs,hl,hx⟩:=ih fun i hi=>h i (by omega);obtain⟨a,ha⟩:=h n (by omega);refine⟨xs++[a],by simp[hl],fun i b hb=>?_⟩
  by_cases hi:i<n
  ·rw[BD (by omega)] at hb;exact hx i b hb
  ·rw[DN (by omega)] at hb
   have kT:i=n:=by
    have:=(dH.1 hb).1;simp at this;omega
   subst kT;simp[hl] at hb;subst hb;exact ha
section
variable {H:Type} {enc:TypeId×Value->H} {P:Program} {w:Wo} {spare:Nat->Bool} {S6:Bool}
theorem kZ{α:Type}(el:α->List Value)(sz:Nat)(Q:α->Prop){t e:TypeId}{fuel:Nat}{cs:List Value}{x:DataW H×List MemPlace}(ht:P.underlying t=some (.slice e))(hC:P.cellsOf e=sz)(XI:0<sz)(dW:∀a,(el a).length=sz)(hel:∀(fu:Nat)(cs':List Value)(y:DataW H×List MemPlace),DataW.trod enc P w 0 spare S6 fu e cs'=some y->∃a,cs'=el a/\Q a)(h:DataW.trod enc P w 0 spare S6 fuel t cs=some x):∃(A:OA)(n c:Nat)(xs:List α),cs=[.slice A n c]/\n<=c/\c<=maxLen/\xs.length=n/\(∀a∈xs,Q a)/\Rd w w.heap.size sz A n (xs.flatMap el):=by
 rcases open_slice ht h with⟨rfl,_⟩ | ⟨a,len,cap,m,fu,D,Pl,rfl,hb,hl,hm,xA,_,hi⟩
 ·exact⟨none,0,0,[],rfl,lR,by simp[maxLen],rfl,by simp,by simp,fun h=>by omega⟩
 ·have hlm:len<=m:=by rw[xA];split<;>omega
  have key:∀i,i<len->∃y:α,w.cells? 0 (a.add (i*sz)) sz=some (el y)/\Q y:=by
   intro i kT;obtain⟨cs',hc,ht'⟩:=hi i (by omega);obtain⟨y,rfl,hq⟩:=hel _ _ _ ht';exact⟨y,by rw[hC] at hc;exact hc,hq⟩
  obtain⟨xs,hxl,hx⟩:=T2 len key;refine⟨some a,len,cap,xs,rfl,hl,hm,hxl,fun y hy=>?_,by rw[qW dW,hxl],fun h0=>?_⟩
  ·obtain⟨i,hi⟩:=List.getElem?_of_mem hy
   exact(hx i y hi).2
  ·obtain⟨y0,yH⟩:∃y,xs[0]?=some y:=eA (by omega)
   obtain⟨_,_,aYT⟩:=World.cells?_some (hx 0 y0 yH).1;have JV:=aYT 0 XI;have vE:(el y0)[0]?=some ((el y0)[0]'(by rw[dW];omega)):=iB (by rw[dW];omega);rw[vE] at JV;obtain⟨aU,hsp⟩:=aKm JV;have hs:a.spot=none:=by simpa[Addr.add] using hsp
   have aJX:∀j,(a.add j)=⟨a.block,a.off+j,none⟩:=by
    intro j;unfold Addr.add;split
    ·rename_i hj;subst hj;cases a;simp at hs;subst hs;rfl
    ·rfl
   refine⟨a.block,a.off,by cases a;simp at hs;subst hs;rfl,by simpa[Addr.add] using aU,fun j u hu=>?_⟩;have oP:j<len*sz:=by have:=(dH.1 hu).1;rw[qW dW,hxl] at this;exact this
   have hq:j / sz<len:=Nat.div_lt_of_lt_mul (by rw[Nat.mul_comm];exact oP);obtain⟨y,hy⟩:∃y,xs[j / sz]?=some y:=eA (by omega);have hm':j % sz<sz:=Nat.mod_lt _ XI;have hdm:j / sz*sz+j % sz=j:=by have:=Nat.div_add_mod j sz;rw[Nat.mul_comm] at this;exact this
   have h1:=lC dW xs _ y hy _ hm';rw[hdm,hu] at h1;obtain⟨_,_,xB⟩:=World.cells?_some (hx _ y hy).1;have h2:=xB _ hm';rw[Go.Deep.add_add,hdm] at h2;rw[<-aJX,h2,<-h1]
theorem nT{t:TypeId}{fs:Array Field}{fuel:Nat}{cs:List Value}{x:DataW H×List MemPlace}(ht:P.underlying t=some (.struct fs))(zA:oneCellFields P fs=true)(hC:P.cellsOf t=fs.size)(h:DataW.trod enc P w 0 spare S6 fuel t cs=some x):cs.length=fs.size/\∀(j:Nat)(f:Field),fs[j]?=some f->∃(v:Value)(n:Nat)(y:DataW H×List MemPlace),cs[j]?=some v/\DataW.trod enc P w 0 spare S6 n f.type [v]=some y:=by
 obtain⟨ys,n',hn',hy,dW,hyl,hf⟩:=DataW.trod_struct ht h;rw[hC] at dW;refine⟨dW,fun j f hj=>?_⟩;obtain⟨ho,hk⟩:=hone_of zA j f hj;have oP:j<fs.size:=(Array.getElem?_eq_some_iff.1 hj).1;have h1:=hf j f hj;rw[ho,hk] at h1;have aSm:(cs.drop j).take 1=[cs[j]'(by omega)]:=by
  rw[List.drop_eq_getElem_cons (by omega)];rfl
 rw[aSm] at h1;exact⟨_,n',_,iB (by omega),h1.trans (iB (by omega))⟩
theorem eI{k:IntKind}{fuel:Nat}{cs:List Value}{x:DataW H×List MemPlace}(ht:P.underlying t=some (.int k))(h:DataW.trod enc P w 0 spare S6 fuel t cs=some x):∃n:Int,cs=[.int k n]/\(Lit.int k n).wf=true:=by
 obtain⟨n,h1,_,h2⟩:=DataW.trod_int ht h;exact⟨n,h1,h2⟩
theorem eH{fuel:Nat}{cs:List Value}{x:DataW H×List MemPlace}(ht:P.underlying t=some .string)(h:DataW.trod enc P w 0 spare S6 fuel t cs=some x):∃s:ByteArray,cs=[.string s]/\s.size<=maxLen:=by
 obtain⟨n,h1,_,h2⟩:=DataW.trod_string ht h;exact⟨n,h1,h2⟩
end
end
section
open Go.ChangeShapes Go.WideShapes Go.ChangeAt Go.RowKit Go.Joins Go.Deep
attribute [local go_sem ↓] aE
attribute [local go_sem] aJ aI aM
def pH(z y:ByteArray):Bool:=decide (z=y)
theorem aR(z y:ByteArray):(z.toList == y.toList)=pH z y:=by
 unfold pH;rw[ByteArray.toList_eq,ByteArray.toList_eq,Bool.eq_iff_iff,beq_iff_eq,decide_eq_true_eq]
 constructor
 ·intro h
  cases z;cases y
  simp at h;rw[h]
 ·rintro rfl;rfl
theorem pM{z y:ByteArray}:pH z y=true<->z=y:=by unfold pH;exact decide_eq_true_iff
theorem t8{z y:ByteArray}:pH z y=false<->z≠y:=by unfold pH;exact decide_eq_false_iff_not
def fN(ss:List ByteArray):List Value:=ss.map Value.string
def aY(w:Wo)(B:Nat)(A:OA)(n:Nat)(ss:List ByteArray):Prop:=ss.length=n/\Rd w B 1 A n (fN ss)
theorem aY.below(h:aY w B A n xs)(hb:Below B' w w')(hB:B<=B'):aY w' B A n xs:=⟨h.1,h.2.below hb hB⟩
theorem aY.more(h:aY w B A n xs)(hB:B<=B'):aY w B' A n xs:=⟨h.1,h.2.more hB⟩
theorem aY.form(h:aY w B A n xs)(h0:0<n):∃b off,A=some ⟨b,off,none⟩/\b<B:=by
 obtain⟨b,off,e,aU,_⟩:=h.2.2 h0;exact⟨b,off,e,aU⟩
theorem aY.at_(h:aY w B (some ⟨b,off,none⟩) n xs){x:ByteArray}(hx:xs[i]?=some x):w.cell? ⟨b,off+i,none⟩=some (.string x):=by
 have hl:i<xs.length:=(dH.1 hx).1;have h1:=h.1;obtain⟨b',off',e,_,hc⟩:=h.2.2 (by omega);injection e with e;injection e with e1 e2;subst e1;subst e2;exact hc i _ (by simp[fN,hx])
theorem aBH(w:Wo)(B:Nat)(A:OA):aY w B A 0 []:=⟨rfl,rfl,fun h=>by omega⟩
theorem fF{g:Nat}{T:TypeId}{zs:List ByteArray}(h:aG w g T (fN zs).toArray)(hg:g<B):aY w B (some ⟨g,0,none⟩) zs.length zs:=
 ⟨rfl,by simp[fN],fun _=>⟨g,0,rfl,hg,fun j u hu=>by
  rw[show(⟨g,0+j,none⟩:Addr)=⟨g,j,none⟩ from by simp];rw[h.cell j];simpa using hu⟩⟩
theorem aY.take{zs:List ByteArray}(h:aY w B A n zs)(hm:m<=n):aY w B A m (zs.take m):=by
 have hl:=h.1;refine⟨by simp;omega,by simp[fN];omega,fun h0=>?_⟩;obtain⟨b,off,e,aU,hc⟩:=h.2.2 (by omega);refine⟨b,off,e,aU,fun j u hu=>hc j u ?_⟩;simp only[fN,List.map_take] at hu ⊢;rw[List.getElem?_take] at hu;split at hu
 ·exact hu
 ·cases hu
structure Sw where
 name:ByteArray
 a:ByteArray
 b:ByteArray
 breaker:Bool
 opn:Bool
def Sw.cells(x:Sw):List Value:=[.string x.name,.string x.a,.string x.b,.bool x.breaker,.bool x.opn]
def Sw.val(x:Sw):Value:=.agg #[.string x.name,.string x.a,.string x.b,.bool x.breaker,.bool x.opn]
theorem Sw.len(x:Sw):x.cells.length=5:=rfl
def zG(w:Wo)(B:Nat)(A:OA)(n:Nat)(xs:List Sw):Prop:=xs.length=n/\Rd w B 5 A n (xs.flatMap Sw.cells)
theorem zG.below{xs:List Sw}(h:zG w B A n xs)(hb:Below B' w w')(hB:B<=B'):zG w' B A n xs:=⟨h.1,h.2.below hb hB⟩
theorem zG.more{xs:List Sw}(h:zG w B A n xs)(hB:B<=B'):zG w B' A n xs:=⟨h.1,h.2.more hB⟩
theorem zG.at_{xs:List Sw}(h:zG w B (some ⟨b,off,none⟩) n xs){x:Sw}(hx:xs[i]?=some x):w.cell? ⟨b,off+i*5,none⟩=some (.string x.name)/\w.cell? ⟨b,off+i*5+1,none⟩=some (.string x.a)/\w.cell? ⟨b,off+i*5+2,none⟩=some (.string x.b)/\w.cell? ⟨b,off+i*5+3,none⟩=some (.bool x.breaker)/\w.cell? ⟨b,off+i*5+4,none⟩=some (.bool x.opn):=by
 have hl:i<xs.length:=(dH.1 hx).1;have h1:=h.1;obtain⟨b',off',e,_,hc⟩:=h.2.2 (by omega);injection e with e;injection e with e1 e2;subst e1;subst e2;have key:∀k,k<5->∀u,x.cells[k]?=some u->w.cell? ⟨b,off+i*5+k,none⟩=some u:=fun k hk u hu=>by
  have:=hc (i*5+k) u (by rw[lC Sw.len xs i x hx k hk];exact hu);rwa[<-Nat.add_assoc] at this
 exact⟨key 0 (by omega) _ rfl,key 1 (by omega) _ rfl,key 2 (by omega) _ rfl,key 3 (by omega) _ rfl,key 4 (by omega) _ rfl⟩
theorem zG.form{xs:List Sw}(h:zG w B A n xs)(h0:0<n):∃b off,A=some ⟨b,off,none⟩/\b<B:=by
 obtain⟨b,off,e,aU,_⟩:=h.2.2 h0;exact⟨b,off,e,aU⟩
theorem Sw.box{x:Sw}(h:aG w p t #[.string x.name,.string x.a,.string x.b,.bool x.breaker,.bool x.opn]):w.cell? ⟨p,0,none⟩=some (.string x.name)/\w.cell? ⟨p,1,none⟩=some (.string x.a)/\w.cell? ⟨p,2,none⟩=some (.string x.b)/\w.cell? ⟨p,3,none⟩=some (.bool x.breaker)/\w.cell? ⟨p,4,none⟩=some (.bool x.opn)/\(∀i,w.frozen? ⟨p,i,none⟩=false)/\p<w.heap.size:=
 ⟨h.cell 0,h.cell 1,h.cell 2,h.cell 3,h.cell 4,h.frozen,h.lt⟩
structure Br where
 name:ByteArray
 fr:ByteArray
 to:ByteArray
 x:Int
 tap:Int
 shift:Int
 limit:Int
 short:Int
 hold:Int
def Br.cells(x:Br):List Value:=[.string x.name,.string x.fr,.string x.to,.int .i64 x.x,.int .i64 x.tap,.int .i64 x.shift,.int .i64 x.limit,.int .i64 x.short,.int .i64 x.hold]
def Br.val(x:Br):Value:=.agg #[.string x.name,.string x.fr,.string x.to,.int .i64 x.x,.int .i64 x.tap,.int .i64 x.shift,.int .i64 x.limit,.int .i64 x.short,.int .i64 x.hold]
theorem Br.len(x:Br):x.cells.length=9:=rfl
def zK(w:Wo)(B:Nat)(A:OA)(n:Nat)(xs:List Br):Prop:=xs.length=n/\Rd w B 9 A n (xs.flatMap Br.cells)
theorem zK.below{xs:List Br}(h:zK w B A n xs)(hb:Below B' w w')(hB:B<=B'):zK w' B A n xs:=⟨h.1,h.2.below hb hB⟩
theorem zK.more{xs:List Br}(h:zK w B A n xs)(hB:B<=B'):zK w B' A n xs:=⟨h.1,h.2.more hB⟩
theorem zK.at_{xs:List Br}(h:zK w B (some ⟨b,off,none⟩) n xs){x:Br}(hx:xs[i]?=some x):w.cell? ⟨b,off+i*9,none⟩=some (.string x.name)/\w.cell? ⟨b,off+i*9+1,none⟩=some (.string x.fr)/\w.cell? ⟨b,off+i*9+2,none⟩=some (.string x.to)/\w.cell? ⟨b,off+i*9+3,none⟩=some (.int .i64 x.x)/\w.cell? ⟨b,off+i*9+4,none⟩=some (.int .i64 x.tap)/\w.cell? ⟨b,off+i*9+5,none⟩=some (.int .i64 x.shift)/\w.cell? ⟨b,off+i*9+6,none⟩=some (.int .i64 x.limit)/\w.cell? ⟨b,off+i*9+7,none⟩=some (.int .i64 x.short)/\w.cell? ⟨b,off+i*9+8,none⟩=some (.int .i64 x.hold):=by
 have hl:i<xs.length:=(dH.1 hx).1;have h1:=h.1;obtain⟨b',off',e,_,hc⟩:=h.2.2 (by omega);injection e with e;injection e with e1 e2;subst e1;subst e2;have key:∀k,k<9->∀u,x.cells[k]?=some u->w.cell? ⟨b,off+i*9+k,none⟩=some u:=fun k hk u hu=>by
  have:=hc (i*9+k) u (by rw[lC Br.len xs i x hx k hk];exact hu);rwa[<-Nat.add_assoc] at this
 exact⟨key 0 (by omega) _ rfl,key 1 (by omega) _ rfl,key 2 (by omega) _ rfl,key 3 (by omega) _ rfl,key 4 (by omega) _ rfl,key 5 (by omega) _ rfl,key 6 (by omega) _ rfl,key 7 (by omega) _ rfl,key 8 (by omega) _ rfl⟩
theorem zK.form{xs:List Br}(h:zK w B A n xs)(h0:0<n):∃b off,A=some ⟨b,off,none⟩/\b<B:=by
 obtain⟨b,off,e,aU,_⟩:=h.2.2 h0;exact⟨b,off,e,aU⟩
theorem Br.box{x:Br}(h:aG w p t #[.string x.name,.string x.fr,.string x.to,.int .i64 x.x,.int .i64 x.tap,.int .i64 x.shift,.int .i64 x.limit,.int .i64 x.short,.int .i64 x.hold]):w.cell? ⟨p,0,none⟩=some (.string x.name)/\w.cell? ⟨p,1,none⟩=some (.string x.fr)/\w.cell? ⟨p,2,none⟩=some (.string x.to)/\w.cell? ⟨p,3,none⟩=some (.int .i64 x.x)/\w.cell? ⟨p,4,none⟩=some (.int .i64 x.tap)/\w.cell? ⟨p,5,none⟩=some (.int .i64 x.shift)/\w.cell? ⟨p,6,none⟩=some (.int .i64 x.limit)/\w.cell? ⟨p,7,none⟩=some (.int .i64 x.short)/\w.cell? ⟨p,8,none⟩=some (.int .i64 x.hold)/\(∀i,w.frozen? ⟨p,i,none⟩=false)/\p<w.heap.size:=
 ⟨h.cell 0,h.cell 1,h.cell 2,h.cell 3,h.cell 4,h.cell 5,h.cell 6,h.cell 7,h.cell 8,h.frozen,h.lt⟩
structure Gn where
 name:ByteArray
 node:ByteArray
 least:Int
 most:Int
 ramp:Int
def Gn.cells(x:Gn):List Value:=[.string x.name,.string x.node,.int .i64 x.least,.int .i64 x.most,.int .i64 x.ramp]
def Gn.val(x:Gn):Value:=.agg #[.string x.name,.string x.node,.int .i64 x.least,.int .i64 x.most,.int .i64 x.ramp]
theorem Gn.len(x:Gn):x.cells.length=5:=rfl
def zJ(w:Wo)(B:Nat)(A:OA)(n:Nat)(xs:List Gn):Prop:=xs.length=n/\Rd w B 5 A n (xs.flatMap Gn.cells)
theorem zJ.below{xs:List Gn}(h:zJ w B A n xs)(hb:Below B' w w')(hB:B<=B'):zJ w' B A n xs:=⟨h.1,h.2.below hb hB⟩
theorem zJ.more{xs:List Gn}(h:zJ w B A n xs)(hB:B<=B'):zJ w B' A n xs:=⟨h.1,h.2.more hB⟩
theorem zJ.at_{xs:List Gn}(h:zJ w B (some ⟨b,off,none⟩) n xs){x:Gn}(hx:xs[i]?=some x):w.cell? ⟨b,off+i*5,none⟩=some (.string x.name)/\w.cell? ⟨b,off+i*5+1,none⟩=some (.string x.node)/\w.cell? ⟨b,off+i*5+2,none⟩=some (.int .i64 x.least)/\w.cell? ⟨b,off+i*5+3,none⟩=some (.int .i64 x.most)/\w.cell? ⟨b,off+i*5+4,none⟩=some (.int .i64 x.ramp):=by
 have hl:i<xs.length:=(dH.1 hx).1;have h1:=h.1;obtain⟨b',off',e,_,hc⟩:=h.2.2 (by omega);injection e with e;injection e with e1 e2;subst e1;subst e2;have key:∀k,k<5->∀u,x.cells[k]?=some u->w.cell? ⟨b,off+i*5+k,none⟩=some u:=fun k hk u hu=>by
  have:=hc (i*5+k) u (by rw[lC Gn.len xs i x hx k hk];exact hu);rwa[<-Nat.add_assoc] at this
 exact⟨key 0 (by omega) _ rfl,key 1 (by omega) _ rfl,key 2 (by omega) _ rfl,key 3 (by omega) _ rfl,key 4 (by omega) _ rfl⟩
theorem zJ.form{xs:List Gn}(h:zJ w B A n xs)(h0:0<n):∃b off,A=some ⟨b,off,none⟩/\b<B:=by
 obtain⟨b,off,e,aU,_⟩:=h.2.2 h0;exact⟨b,off,e,aU⟩
theorem Gn.box{x:Gn}(h:aG w p t #[.string x.name,.string x.node,.int .i64 x.least,.int .i64 x.most,.int .i64 x.ramp]):w.cell? ⟨p,0,none⟩=some (.string x.name)/\w.cell? ⟨p,1,none⟩=some (.string x.node)/\w.cell? ⟨p,2,none⟩=some (.int .i64 x.least)/\w.cell? ⟨p,3,none⟩=some (.int .i64 x.most)/\w.cell? ⟨p,4,none⟩=some (.int .i64 x.ramp)/\(∀i,w.frozen? ⟨p,i,none⟩=false)/\p<w.heap.size:=
 ⟨h.cell 0,h.cell 1,h.cell 2,h.cell 3,h.cell 4,h.frozen,h.lt⟩
structure Ld where
 name:ByteArray
 node:ByteArray
 demand:Int
def Ld.cells(x:Ld):List Value:=[.string x.name,.string x.node,.int .i64 x.demand]
def Ld.val(x:Ld):Value:=.agg #[.string x.name,.string x.node,.int .i64 x.demand]
theorem Ld.len(x:Ld):x.cells.length=3:=rfl
def zI(w:Wo)(B:Nat)(A:OA)(n:Nat)(xs:List Ld):Prop:=xs.length=n/\Rd w B 3 A n (xs.flatMap Ld.cells)
theorem zI.below{xs:List Ld}(h:zI w B A n xs)(hb:Below B' w w')(hB:B<=B'):zI w' B A n xs:=⟨h.1,h.2.below hb hB⟩
theorem zI.more{xs:List Ld}(h:zI w B A n xs)(hB:B<=B'):zI w B' A n xs:=⟨h.1,h.2.more hB⟩
theorem zI.at_{xs:List Ld}(h:zI w B (some ⟨b,off,none⟩) n xs){x:Ld}(hx:xs[i]?=some x):w.cell? ⟨b,off+i*3,none⟩=some (.string x.name)/\w.cell? ⟨b,off+i*3+1,none⟩=some (.string x.node)/\w.cell? ⟨b,off+i*3+2,none⟩=some (.int .i64 x.demand):=by
 have hl:i<xs.length:=(dH.1 hx).1;have h1:=h.1;obtain⟨b',off',e,_,hc⟩:=h.2.2 (by omega);injection e with e;injection e with e1 e2;subst e1;subst e2;have key:∀k,k<3->∀u,x.cells[k]?=some u->w.cell? ⟨b,off+i*3+k,none⟩=some u:=fun k hk u hu=>by
  have:=hc (i*3+k) u (by rw[lC Ld.len xs i x hx k hk];exact hu);rwa[<-Nat.add_assoc] at this
 exact⟨key 0 (by omega) _ rfl,key 1 (by omega) _ rfl,key 2 (by omega) _ rfl⟩
theorem zI.form{xs:List Ld}(h:zI w B A n xs)(h0:0<n):∃b off,A=some ⟨b,off,none⟩/\b<B:=by
 obtain⟨b,off,e,aU,_⟩:=h.2.2 h0;exact⟨b,off,e,aU⟩
theorem Ld.box{x:Ld}(h:aG w p t #[.string x.name,.string x.node,.int .i64 x.demand]):w.cell? ⟨p,0,none⟩=some (.string x.name)/\w.cell? ⟨p,1,none⟩=some (.string x.node)/\w.cell? ⟨p,2,none⟩=some (.int .i64 x.demand)/\(∀i,w.frozen? ⟨p,i,none⟩=false)/\p<w.heap.size:=
 ⟨h.cell 0,h.cell 1,h.cell 2,h.frozen,h.lt⟩
structure St where
 name:ByteArray
 node:ByteArray
 charge:Int
 discharge:Int
 capacity:Int
def St.cells(x:St):List Value:=[.string x.name,.string x.node,.int .i64 x.charge,.int .i64 x.discharge,.int .i64 x.capacity]
def St.val(x:St):Value:=.agg #[.string x.name,.string x.node,.int .i64 x.charge,.int .i64 x.discharge,.int .i64 x.capacity]
theorem St.len(x:St):x.cells.length=5:=rfl
def zH(w:Wo)(B:Nat)(A:OA)(n:Nat)(xs:List St):Prop:=xs.length=n/\Rd w B 5 A n (xs.flatMap St.cells)
theorem zH.below{xs:List St}(h:zH w B A n xs)(hb:Below B' w w')(hB:B<=B'):zH w' B A n xs:=⟨h.1,h.2.below hb hB⟩
theorem zH.more{xs:List St}(h:zH w B A n xs)(hB:B<=B'):zH w B' A n xs:=⟨h.1,h.2.more hB⟩
theorem zH.at_{xs:List St}(h:zH w B (some ⟨b,off,none⟩) n xs){x:St}(hx:xs[i]?=some x):w.cell? ⟨b,off+i*5,none⟩=some (.string x.name)/\w.cell? ⟨b,off+i*5+1,none⟩=some (.string x.node)/\w.cell? ⟨b,off+i*5+2,none⟩=some (.int .i64 x.charge)/\w.cell? ⟨b,off+i*5+3,none⟩=some (.int .i64 x.discharge)/\w.cell? ⟨b,off+i*5+4,none⟩=some (.int .i64 x.capacity):=by
 have hl:i<xs.length:=(dH.1 hx).1;have h1:=h.1;obtain⟨b',off',e,_,hc⟩:=h.2.2 (by omega);injection e with e;injection e with e1 e2;subst e1;subst e2;have key:∀k,k<5->∀u,x.cells[k]?=some u->w.cell? ⟨b,off+i*5+k,none⟩=some u:=fun k hk u hu=>by
  have:=hc (i*5+k) u (by rw[lC St.len xs i x hx k hk];exact hu);rwa[<-Nat.add_assoc] at this
 exact⟨key 0 (by omega) _ rfl,key 1 (by omega) _ rfl,key 2 (by omega) _ rfl,key 3 (by omega) _ rfl,key 4 (by omega) _ rfl⟩
theorem zH.form{xs:List St}(h:zH w B A n xs)(h0:0<n):∃b off,A=some ⟨b,off,none⟩/\b<B:=by
 obtain⟨b,off,e,aU,_⟩:=h.2.2 h0;exact⟨b,off,e,aU⟩
theorem St.box{x:St}(h:aG w p t #[.string x.name,.string x.node,.int .i64 x.charge,.int .i64 x.discharge,.int .i64 x.capacity]):w.cell? ⟨p,0,none⟩=some (.string x.name)/\w.cell? ⟨p,1,none⟩=some (.string x.node)/\w.cell? ⟨p,2,none⟩=some (.int .i64 x.charge)/\w.cell? ⟨p,3,none⟩=some (.int .i64 x.discharge)/\w.cell? ⟨p,4,none⟩=some (.int .i64 x.capacity)/\(∀i,w.frozen? ⟨p,i,none⟩=false)/\p<w.heap.size:=
 ⟨h.cell 0,h.cell 1,h.cell 2,h.cell 3,h.cell 4,h.frozen,h.lt⟩
structure bO where
 nodes:List ByteArray
 sws:List Sw
 brs:List Br
 gns:List Gn
 lds:List Ld
 sts:List St
structure bY where
 A0:OA
 n0:Nat
 c0:Nat
 A1:OA
 n1:Nat
 c1:Nat
 A2:OA
 n2:Nat
 c2:Nat
 A3:OA
 n3:Nat
 c3:Nat
 A4:OA
 n4:Nat
 c4:Nat
 A5:OA
 n5:Nat
 c5:Nat
def bY.cells(h:bY):Array Value:=#[.slice h.A0 h.n0 h.c0,.slice h.A1 h.n1 h.c1,.slice h.A2 h.n2 h.c2,.slice h.A3 h.n3 h.c3,.slice h.A4 h.n4 h.c4,.slice h.A5 h.n5 h.c5]
structure cQ (w:Wo) (B:Nat) (h:bY) (x:bO):Prop where
 r0:aY w B h.A0 h.n0 x.nodes
 r1:zG w B h.A1 h.n1 x.sws
 r2:zK w B h.A2 h.n2 x.brs
 r3:zJ w B h.A3 h.n3 x.gns
 r4:zI w B h.A4 h.n4 x.lds
 r5:zH w B h.A5 h.n5 x.sts
 m0:h.n0<=9223372036854775807
 m1:h.n1<=9223372036854775807
 m2:h.n2<=9223372036854775807
 m3:h.n3<=9223372036854775807
 m4:h.n4<=9223372036854775807
 m5:h.n5<=9223372036854775807
 /-- every string is as long as a string can be -/
 z0:∀s∈x.nodes,s.size<=maxLen
 z1:∀s∈x.sws,s.name.size<=maxLen
 z2:∀s∈x.brs,s.name.size<=maxLen
 z3:∀s∈x.gns,s.name.size<=maxLen
 z4:∀s∈x.lds,s.name.size<=maxLen
 z5:∀s∈x.sts,s.name.size<=maxLen
theorem cQ.below{h:bY}{x:bO}(r:cQ w B h x)(hb:Below B' w w')(hB:B<=B'):cQ w' B h x:=
 ⟨r.r0.below hb hB,r.r1.below hb hB,r.r2.below hb hB,r.r3.below hb hB,r.r4.below hb hB,r.r5.below hb hB,r.m0,r.m1,r.m2,r.m3,r.m4,r.m5,r.z0,r.z1,r.z2,r.z3,r.z4,r.z5⟩
theorem cQ.more{h:bY}{x:bO}(r:cQ w B h x)(hB:B<=B'):cQ w B' h x:=
 ⟨r.r0.more hB,r.r1.more hB,r.r2.more hB,r.r3.more hB,r.r4.more hB,r.r5.more hB,r.m0,r.m1,r.m2,r.m3,r.m4,r.m5,r.z0,r.z1,r.z2,r.z3,r.z4,r.z5⟩
theorem cQ.up{h:bY}{x:bO}(r:cQ w w.heap.size h x)(hb:Below w.heap.size w w'):cQ w' w'.heap.size h x:=(r.below hb lR).more hb.size
theorem aW{h:bY}(q:aG w p t h.cells):w.cell? ⟨p,0,none⟩=some (.slice h.A0 h.n0 h.c0)/\w.cell? ⟨p,1,none⟩=some (.slice h.A1 h.n1 h.c1)/\w.cell? ⟨p,2,none⟩=some (.slice h.A2 h.n2 h.c2)/\
    w.cell? ⟨p,3,none⟩=some (.slice h.A3 h.n3 h.c3)/\w.cell? ⟨p,4,none⟩=some (.slice h.A4 h.n4 h.c4)/\w.cell? ⟨p,5,none⟩=some (.slice h.A5 h.n5 h.c5)/\(∀i,w.frozen? ⟨p,i,none⟩=false)/\p<w.heap.size:=
 ⟨q.cell 0,q.cell 1,q.cell 2,q.cell 3,q.cell 4,q.cell 5,q.frozen,q.lt⟩
theorem aY.bm(h:aY w w.heap.size A n l)(g:Below w.heap.size w w'):aY w' w'.heap.size A n l:=(h.below g lR).more g.size
theorem zG.bm{l:List Sw}(h:zG w w.heap.size A n l)(g:Below w.heap.size w w'):zG w' w'.heap.size A n l:=(h.below g lR).more g.size
theorem zK.bm{l:List Br}(h:zK w w.heap.size A n l)(g:Below w.heap.size w w'):zK w' w'.heap.size A n l:=(h.below g lR).more g.size
theorem zJ.bm{l:List Gn}(h:zJ w w.heap.size A n l)(g:Below w.heap.size w w'):zJ w' w'.heap.size A n l:=(h.below g lR).more g.size
theorem zI.bm{l:List Ld}(h:zI w w.heap.size A n l)(g:Below w.heap.size w w'):zI w' w'.heap.size A n l:=(h.below g lR).more g.size
theorem zH.bm{l:List St}(h:zH w w.heap.size A n l)(g:Below w.heap.size w w'):zH w' w'.heap.size A n l:=(h.below g lR).more g.size
theorem cQ.bm{h:bY}{x:bO}(r:cQ w w.heap.size h x)(g:Below w.heap.size w w'):cQ w' w'.heap.size h x:=(r.below g lR).more g.size
end
section
open Go.ChangeShapes Go.WideShapes Go.ChangeAt Go.RowKit
attribute [local go_sem ↓] aE
attribute [local go_sem] aJ aI aM aR
def aBU(i c:Nat):Bool:=decide ((65<=c/\c<=90)\/(0<i/\48<=c/\c<=57))
def WN:Nat->List UInt8->Bool
 | _,[]=>true
 | i,c::r=>aBU i c.toNat && WN (i+1) r
def B9(s:ByteArray):Bool:=WN 0 s.data.toList && decide (1<=s.size/\s.size<=8)
theorem SA(s:ByteArray)(w:Wo)(hs:s.size<=maxLen):Calls Tryz.prog 128 #[.string s] w fun e w'=>e=.returned (.bool (B9 s))/\Below w.heap.size w w':=by
 have XS:=fun w=>run_bytes_of_string (P:=Tryz.prog) w 9 231 5 s Tryz.underlying9 Tryz.underlying231 Tryz.underlying5;unfold maxLen at hs;go_enter Tryz.func128,Tryz.ntmps128
 go_wp2_with fail
 clear XS;generalize grownCap w s.size 0 5=cap;have jI:∀k (h:k<s.data.size),(w.alloc (.cells (bytesRow s cap) 5 ((bytesRow s cap).size,(bytesRow s cap).size+1))).cell? ⟨w.heap.size,k,none⟩=some (.int .u8 (s.data[k].toNat:Int)):=fun k h=>by
  rw[World.cell?_alloc_mark,bytesRow_at s cap k h]
 have HC:=lH jI;have K0:Below w.heap.size w (w.alloc (.cells (bytesRow s cap) 5 ((bytesRow s cap).size,(bytesRow s cap).size+1))).drew:=aK (bA);have HK:=lH K0;have aOa:w.heap.size<(w.alloc (.cells (bytesRow s cap) 5 ((bytesRow s cap).size,(bytesRow s cap).size+1))).heap.size:=by simp
 clear jI K0;generalize (w.alloc (.cells (bytesRow s cap) 5 ((bytesRow s cap).size,(bytesRow s cap).size+1)))=w1 at *
 go_loop [3,4,8] (fun _ _ i=>∃k:Nat,k<=s.size/\i=.int .i64 k/\WN 0 s.data.toList=WN k (s.data.toList.drop k)) (fun _ _ i=>s.size-(intOf i).toNat)
 case atStart=>exact⟨0,by omega,rfl,rfl⟩
 case round=>
  obtain⟨k,hk,rfl,pD⟩:=hrel;have HG:=lH pD;clear pD;by_cases aU:k<s.size
  ·obtain⟨n,hn,UY⟩:∃n:Nat,n<256/\n=(s.data[k]'aU).toNat:=⟨_,UInt8.toNat_lt _,rfl⟩
   have hc:=HC.o k aU;rw[<-UY] at hc;have hd:s.data.toList.drop k=s.data[k]'aU::s.data.toList.drop (k+1):=cM (by simp[aU]);have HD:=lH (show WN k (s.data.toList.drop k)=(aBU k n && WN (k+1) (s.data.toList.drop (k+1))) by rw[hd,UY];rfl);clear hd UY;(go_wp2_with fail)
   all_goals
    first
     | (have hx : aBU k n = true := by
          clear HC HG HD HK aOa;simp at *;unfold aBU;rw[decide_eq_true_eq];omega
        have HX:=lH hx;clear hx
        go_round
        case rel=>exact⟨k+1,by omega,by go_num,by rw[HG.o,HD.o,HX.o];rfl⟩
        case measure=>simp[intOf];omega)
     | (have hx : aBU k n = false := by
          clear HC HG HD HK aOa;simp at *;unfold aBU;rw[decide_eq_false_iff_not];omega
        go_ret;exact⟨kI (by unfold B9;rw[HG.o,HD.o,hx];rfl),HK.o⟩)
  ·have hd:s.data.toList.drop k=[]:=by rw[List.drop_eq_nil_iff];simp;exact Nat.le_of_not_lt aU
   have HD:=lH (show WN k (s.data.toList.drop k)=true by rw[hd];rfl);have hs8:Hid (B9 s=decide (1<=s.size/\s.size<=8)):=lH (by unfold B9;rw[HG.o,HD.o];rfl);clear hd;by_cases h1:1<=s.size
   ·by_cases h8:s.size<=8
    ·go_wp2_with fail
     go_ret;exact⟨kI (by rw[hs8.out];first | (rw[decide_eq_decide];omega) | (rw[eq_comm,decide_eq_false_iff_not];omega) | (rw[eq_comm,decide_eq_true_eq];omega)),HK.o⟩
    ·go_wp2_with fail
     go_ret;exact⟨kI (by rw[hs8.out];first | (rw[decide_eq_decide];omega) | (rw[eq_comm,decide_eq_false_iff_not];omega) | (rw[eq_comm,decide_eq_true_eq];omega)),HK.o⟩
   ·go_wp2_with fail
    go_ret;exact⟨kI (by rw[hs8.out];first | (rw[decide_eq_decide];omega) | (rw[eq_comm,decide_eq_false_iff_not];omega) | (rw[eq_comm,decide_eq_true_eq];omega)),HK.o⟩
def mF(n low high:Int):Bool:=decide (n<low\/high<n)
theorem eF(n low high:Int)(w:Wo):Calls Tryz.prog 129 #[.int .i64 n,.int .i64 low,.int .i64 high] w fun e w'=>e=.returned (.bool (mF n low high))/\w=w':=by
 go_enter Tryz.func129,Tryz.ntmps129
 go_wp2
 all_goals
  go_ret;exact⟨kI (by simp[mF]<;>omega),rfl⟩
theorem dB(n:Int)(w:Wo):Calls Tryz.prog 130 #[.int .i64 n] w fun e w'=>e=.returned (.bool (!mF n 0 100000))/\w=w':=by
 go_enter Tryz.func130,Tryz.ntmps130
 go_wp2_with fail
 refine(eF _ _ _ _).mono ?_;rintro e w1 ⟨rfl,rfl⟩
 go_wp2_with fail
 go_ret;exact⟨rfl,rfl⟩
def Br.bad(x:Br):Bool:=mF x.x 1 10000 || mF x.tap 500 1500 || mF x.shift (-1000) 1000 || mF x.limit 0 100000 || mF x.short x.limit 100000 || mF x.hold 0 200000
def Br.ck(x:Br):Int:=if x.bad then 4 else 0
theorem R_(x:Br)(w:Wo):Calls Tryz.prog 98 #[.agg #[.string x.name,.string x.fr,.string x.to,.int .i64 x.x,.int .i64 x.tap,.int .i64 x.shift,.int .i64 x.limit,.int .i64 x.short,.int .i64 x.hold]] w fun e w'=>e=.returned (.int .i64 x.ck)/\Below w.heap.size w w':=by
 have K0:∀cs t,Below w.heap.size w (w.alloc (.cells cs t)):=fun cs t=>bA;have HK:=lH K0;clear K0;have z7:=lH (show x.ck=if x.bad then 4 else 0 from rfl);cases h0:mF x.x 1 10000 with
 | true=>
  have HB:Hid (x.ck=4):=lH (by rw[z7.o];unfold Br.bad;rw[h0];rfl);go_enter Tryz.func98,Tryz.ntmps98
  go_wp2_with (go_at_call 129;refine(eF _ _ _ _).mono ?_;rintro e w' ⟨rfl,rfl⟩)
  go_ret;exact⟨aX (by rw[HB.o]),HK.o _ _⟩
 | false=>
  cases h1:mF x.tap 500 1500 with
  | true=>
   have HB:Hid (x.ck=4):=lH (by rw[z7.o];unfold Br.bad;rw[h0,h1];rfl);go_enter Tryz.func98,Tryz.ntmps98
   go_wp2_with (go_at_call 129;refine(eF _ _ _ _).mono ?_;rintro e w' ⟨rfl,rfl⟩)
   go_ret;exact⟨aX (by rw[HB.o]),HK.o _ _⟩
  | false=>
   cases h2:mF x.shift (-1000) 1000 with
   | true=>
    have HB:Hid (x.ck=4):=lH (by rw[z7.o];unfold Br.bad;rw[h0,h1,h2];rfl);go_enter Tryz.func98,Tryz.ntmps98
    go_wp2_with (go_at_call 129;refine(eF _ _ _ _).mono ?_;rintro e w' ⟨rfl,rfl⟩)
    go_ret;exact⟨aX (by rw[HB.o]),HK.o _ _⟩
   | false=>
    cases h3:mF x.limit 0 100000 with
    | true=>
     have HB:Hid (x.ck=4):=lH (by rw[z7.o];unfold Br.bad;rw[h0,h1,h2,h3];rfl);go_enter Tryz.func98,Tryz.ntmps98
     go_wp2_with (go_at_call 129;refine(eF _ _ _ _).mono ?_;rintro e w' ⟨rfl,rfl⟩)
     go_ret;exact⟨aX (by rw[HB.o]),HK.o _ _⟩
    | false=>
     cases h4:mF x.short x.limit 100000 with
     | true=>
      have HB:Hid (x.ck=4):=lH (by rw[z7.o];unfold Br.bad;rw[h0,h1,h2,h3,h4];rfl);go_enter Tryz.func98,Tryz.ntmps98
      go_wp2_with (go_at_call 129;refine(eF _ _ _ _).mono ?_;rintro e w' ⟨rfl,rfl⟩)
      go_ret;exact⟨aX (by rw[HB.o]),HK.o _ _⟩
     | false=>
      cases h5:mF x.hold 0 200000 with
      | true=>
       have HB:Hid (x.ck=4):=lH (by rw[z7.o];unfold Br.bad;rw[h0,h1,h2,h3,h4,h5];rfl);go_enter Tryz.func98,Tryz.ntmps98
       go_wp2_with (go_at_call 129;refine(eF _ _ _ _).mono ?_;rintro e w' ⟨rfl,rfl⟩)
       go_ret;exact⟨aX (by rw[HB.o]),HK.o _ _⟩
      | false=>
       have HB:Hid (x.ck=0):=lH (by rw[z7.o];unfold Br.bad;rw[h0,h1,h2,h3,h4,h5];rfl);go_enter Tryz.func98,Tryz.ntmps98
       go_wp2_with (go_at_call 129;refine(eF _ _ _ _).mono ?_;rintro e w' ⟨rfl,rfl⟩)
       go_ret;exact⟨aX (by rw[HB.o]),HK.o _ _⟩
theorem k_(A:OA)(n c:Nat)(zs:List ByteArray)(z:ByteArray)(w:Wo)(hr:aY w w.heap.size A n zs)(hn:n<=9223372036854775807):Calls Tryz.prog 91 #[.slice A n c,.string z] w fun e w'=>e=.returned (.int .i64 (gW (fun x=>pH z x) zs 0))/\w=w':=by
 have dW:=lH hr.1;go_enter Tryz.func91,Tryz.ntmps91
 go_wp2_with fail
 go_loop [5,8] (fun _ i=>∃k:Nat,k<=n/\i=.int .i64 k/\gW (fun x=>pH z x) zs 0=gW (fun x=>pH z x) (zs.drop k) k) (fun _ i=>n-(intOf i).toNat)
 case atStart=>exact⟨0,by omega,rfl,rfl⟩
 case round=>
  obtain⟨k,hk,rfl,CK⟩:=hrel;have uU:=lH CK;clear CK;by_cases aU:k<n
  ·obtain⟨y,hy⟩:∃y,zs[k]?=some y:=eA (by have:=dW.out;omega)
   obtain⟨b,off,rfl,S8⟩:=hr.form (by omega);have jI:=hr.at_ hy;have HZ:=lH (cM hy);clear hy;cases hp:pH z y with
   | true=>
    have HP:=lH hp;(go_wp2_with fail);go_ret;exact⟨aX (by rw[uU.o,HZ.o];simp[gW,HP.o]),rfl⟩
   | false=>
    have HP:=lH hp;(go_wp2_with fail)
    go_round
    case rel=>exact⟨k+1,by omega,by go_num,by rw[uU.o,HZ.o];simp[gW,HP.o]⟩
    case measure=>simp[intOf];omega
  ·have hd:zs.drop k=[]:=by rw[List.drop_eq_nil_iff];have:=dW.out;omega
   have HD:=lH hd;clear hd;(go_wp2_with fail);go_ret;exact⟨aX (by rw[uU.o,HD.o];rfl),rfl⟩
theorem uS(A:OA)(n c:Nat)(ss:List ByteArray)(z:ByteArray)(w:Wo)(hr:aY w w.heap.size A n ss)(hn:n<=9223372036854775807):Calls Tryz.prog 103 #[.slice A n c,.string z] w fun e w'=>e=.returned (.bool (ss.any (fun x=>pH z x)))/\w=w':=by
 have HA:=lH (M1 (fun x=>pH z x) ss 0);go_enter Tryz.func103,Tryz.ntmps103
 go_wp2_with fail
 refine(k_ A n c ss z w hr hn).mono ?_;rintro e w1 ⟨rfl,rfl⟩
 go_wp2_with fail
 go_ret;exact⟨kI HA.o,rfl⟩
end
section
open Go.ChangeShapes Go.WideShapes Go.ChangeAt Go.RowKit Go.Maps
attribute [local go_sem ↓] aE
attribute [local go_sem] aJ aI aM aR
theorem AC{H:Type}{P:Program}{e:TypeId}(he:P.underlying e=some .bool){z:DataW H×List MemPlace}(h:plainElem P e v=some z):∃x,v=.bool x/\z=(.lit (.bool x),[]):=by
 unfold plainElem at h;rw[he] at h;cases v<;>simp at h;exact⟨_,rfl,h.symm⟩
theorem fQ{H:Type}{P:Program}(w:Wo){ops:Array Oper}{rest:List Oper}{o:Oper}{a:Act}{Q:Exit->Act->World->Prop}(hg:o.guard=none)(m x:Operand)(t:TypeId)(hop:o.op=Op.lookup t m x false)(k e:TypeId)(K:Keyed P k)(ht:P.underlying t=some (.map k e))(he:P.underlying e=some .bool)(hz:(zeroValue e).run P w=.ok (.bool false) w)(b n:Nat)(D:DataW H)(hm:a.eval m=.map (some b))(bB:w.ownsMap P k (plainElem P e) b n D)(key:Value)(kl:Lit)(hx:a.eval x=key)(aOg:keyOf P k key=some kl)(c:Bool)(hc:D.atKey kl (.lit (.bool false))=.lit (.bool c))(hK:wpList P ops Q rest (a.put o.dst (.bool c)) w):wpList P ops Q (o::rest) a w:=by
 refine wpList_plain hg fun K' hK'=>?_;obtain⟨v,ps,O6,hv⟩:=bB.lookup K ht hz (plainElem_bool he false) aOg;obtain⟨c',rfl,hc'⟩:=AC he hv;simp only[Prod.mk.injEq] at hc';have NC:c'=c:=by
  have h1:=hc'.1;rw[hc] at h1;injection h1 with h1;injection h1 with h1;exact h1.symm
 subst NC;unfold Oper.wp;simp[execOp,hop,hm,hx,O6,Result.andThen];exact hK' _ _ hK
def jZ(w:Wo)(b n:Nat)(l:List ByteArray):Prop:=
 ∃D:DataW Unit,w.ownsMap Tryz.prog 9 (plainElem Tryz.prog 4) b n D/\IsMap D/\∀s:ByteArray,D.atKey (.string s.data.toList) (.lit (.bool false))=.lit (.bool (l.any fun x=>pH s x))
theorem jZ.lt(h:jZ w b n l):b<w.heap.size:=by obtain⟨D,h1,_⟩:=h;exact h1.lt
theorem jZ.kept{row:Option Nat}(h:jZ w b n l)(hg:w.grownBy w' row)(bX:some b≠row):jZ w' b n l:=by
 obtain⟨D,h1,h2⟩:=h;exact⟨D,h1.kept hg bX,h2⟩
theorem jZ.below(h:jZ w b n l)(hb:Below w.heap.size w w'):jZ w' b n l:=h.kept (row:=none) ⟨hb.os,hb.tape,hb.output,hb.size,fun k hk _=>hb.block k hk⟩ (by simp)
theorem jZ.made(w:Wo):jZ (w.alloc (.map #[] 0)) w.heap.size 0 []:=
 ⟨.map [],World.ownsMap_made _ _ _ _,⟨[],rfl⟩,fun s=>rfl⟩
theorem O0:Keyed Tryz.prog 9:=string_keyed Tryz.underlying9
theorem xQ(w:Wo):(zeroValue 4).run Tryz.prog w=.ok (.bool false) w:=by kernel_rfl
theorem jZ.put{w:Wo}{b n:Nat}{l:List ByteArray}{D:DataW Unit}(s:ByteArray)(h1:w.ownsMap Tryz.prog 9 (plainElem Tryz.prog 4) b (n+1) (D.put (.string s.data.toList) (.lit (.bool true))))(h2:IsMap D)(h3:∀s:ByteArray,D.atKey (.string s.data.toList) (.lit (.bool false))=.lit (.bool (l.any fun x=>pH s x))):jZ w b (n+1) (s::l):=by
 refine⟨_,h1,?_,fun t=>?_⟩
 ·obtain⟨es,rfl⟩:=h2
  exact⟨_,rfl⟩
 ·by_cases hts:t=s
  ·subst hts
   rw[atKey_put_same h2 (k:=.string t.data.toList) trivial];simp[pH]
  ·rw[atKey_put_other (fun e=>hts (by injection e with e;cases t;cases s;simp at e;rw[e])),h3]
   have:pH t s=false:=t8.2 hts;simp[this]
theorem Rd.mapped{size:Nat}{xs:List Value}(h:Rd w B size A n xs)(hs:0<size)(hS:jZ w b m l)(hg:w.grownBy w' (some b))(hB:B<=w.heap.size)(hB':B<=B'):Rd w' B' size A n xs:=
 ⟨h.1,fun hn=>by
  obtain⟨b',off,e,aU,hc⟩:=h.2 hn;have hx:0<xs.length:=by rw[h.1];exact Nat.mul_pos hn hs
  have bX:b'≠b:=by
   rintro rfl;have h0:=hc 0 _ (iB hx);obtain⟨D,⟨es,clock,hb,_⟩,_⟩:=hS;unfold World.cell? at h0;rw[hb] at h0;cases h0
  exact⟨b',off,e,by omega,fun j u hu=>(World.cell?_of_block (a:=⟨b',off+j,none⟩) (hg.block b' (by omega) (fun e=>by injection e;omega))).trans (hc j u hu)⟩⟩
theorem aY.mapped(h:aY w B A n xs)(hS:jZ w b m l)(hg:w.grownBy w' (some b))(hB:B<=w.heap.size)(hB':B<=B'):aY w' B' A n xs:=⟨h.1,h.2.mapped (by omega) hS hg hB hB'⟩
def nK(nodes seen:List ByteArray)(name:ByteArray)(ends:List ByteArray):Int:=
 if B9 name=false then 5 else if seen.any (fun x=>pH name x) then 7
 else if ends.any (fun s=>!(nodes.any fun x=>pH s x)) then 6
 else if ends.length=2/\ends[0]?=ends[1]? then 3 else 0
def aKt(w:Wo)(b n:Nat)(seen:List ByteArray)(name:ByteArray)(r:Int)(e:Ending)(w':Wo):Prop:=
 e=.returned (.int .i64 r)/\w.grownBy w' (some b)/\(r=0->jZ w' b (n+1) (name::seen))
theorem mR{u:Value}(h:aG w p t #[u,v]):w.cell? ⟨p,0,none⟩=some u/\w.cell? ⟨p,1,none⟩=some v/\(∀i,w.frozen? ⟨p,i,none⟩=false)/\p<w.heap.size:=⟨h.cell 0,h.cell 1,h.frozen,h.lt⟩
theorem n_(b n:Nat)(A:OA)(nn nc:Nat)(nodes:List ByteArray)(seen:List ByteArray)(name:ByteArray)(V:OA)(m mc:Nat)(ends:List ByteArray)(w:Wo)(hN:aY w w.heap.size A nn nodes)(G_:nn<=9223372036854775807)(hS:jZ w b n seen)(hn:n<=65536)(aFV:name.size<=maxLen)(hE:aY w w.heap.size V m ends)(hm:m<=2):Calls Tryz.prog 97 #[.agg #[.map (some b),.slice A nn nc],.string name,.slice V m mc] w (aKt w b n seen name (nK nodes seen name ends)):=by
 have S8:=hS.lt;obtain⟨D,bB,GC,xB⟩:=hS;have K0:=jT w (.cells #[.map (some b),.slice A nn nc] 161);obtain⟨U4,HN,HE,HO,U7⟩:=kN K0 (hN.bm K0) (hE.bm K0) (bB.alloc (.cells #[.map (some b),.slice A nn nc] 161)) xB;have HD:Hid (∀(nodes seen ends:List ByteArray),nK nodes seen name ends=if B9 name=false then 5 else if seen.any (fun x=>pH name x) then 7
  else if ends.any (fun s=>!(nodes.any fun x=>pH s x)) then 6 else if ends.length=2/\ends[0]?=ends[1]? then 3 else 0):=lH fun _ _ _=>rfl
 clear hN hE xB bB K0;cases H_:B9 name with
 | false=>
  have jV:=lH H_;clear H_;go_enter Tryz.func97,Tryz.ntmps97
  (go_wp2_with fail);refine(SA name _ aFV).mono ?_;rw[jV.o];rintro e w1 ⟨rfl,k1⟩;have Q4:=bW U4 k1;clear k1;(go_wp2_with fail);go_ret;have hr:nK nodes seen name ends=5:=by rw[HD.o,if_pos jV.o]
  exact⟨aX hr.symm,iF Q4.o _,fun h=>by omega⟩
 | true=>
  have jV:=lH H_;clear H_;go_enter Tryz.func97,Tryz.ntmps97
  (go_wp2_with fail);refine(SA name _ aFV).mono ?_;rw[jV.o];rintro e w1 ⟨rfl,k1⟩;have Q4:=bW U4 k1;have hQ:aG w1 w.heap.size 161 #[.map (some b),.slice A nn nc]:=(aG.new_ rfl).below k1 (by simp);have DJ:=lH (HO.o.kept (row:=none) ⟨k1.os,k1.tape,k1.output,k1.size,fun k hk _=>k1.block k hk⟩ (by simp));have fC:=lH (HN.o.bm k1);have HE1:=lH (HE.o.bm k1);obtain⟨c0,c1,cf,aSB⟩:=mR hQ;have HQ:=lH hQ;clear k1 hQ;have hk:=WideMaps.keyOf_string_mk (P:=Tryz.prog) Tryz.underlying9 aFV;have KR:=lH hk;clear hk;cases hsn:seen.any (fun x=>pH name x) with
  | true=>
   have HSN:=lH hsn;have C4:Hid (D.atKey (.string name.data.toList) (.lit (.bool false))=.lit (.bool true)):=lH (by rw[U7.o,hsn]);clear hsn
   go_wp2_with (at_lookup;refine fQ _ rfl _ _ 159 rfl 9 4 O0 Tryz.underlying159 Tryz.underlying4 (xQ _) b n D rfl DJ.o _ _ rfl KR.o _ C4.o ?_)
   go_ret;have hr:nK nodes seen name ends=7:=by rw[HD.o,jV.o,HSN.o];rfl
   exact⟨aX hr.symm,iF Q4.o _,fun h=>by omega⟩
  | false=>
   have HSN:=lH hsn;have C4:Hid (D.atKey (.string name.data.toList) (.lit (.bool false))=.lit (.bool false)):=lH (by rw[U7.o,hsn]);clear hsn
   go_wp2_with (first | (at_lookup;refine fQ _ rfl _ _ 159 rfl 9 4 O0 Tryz.underlying159 Tryz.underlying4 (xQ _) b n D rfl DJ.o _ _ rfl KR.o _ C4.o ?_) | (at_mapUpdate;refine wpList_mapUpdate_own _ rfl _ _ _ 159 rfl 9 4 O0 Tryz.underlying159 _ b n D rfl DJ.o (by unfold maxLen;omega) _ _ _ rfl rfl KR.o _ [] (plainElem_bool Tryz.underlying4 true) ?_))
   intro w2 vH lO;have hS1:jZ w1 b n seen:=⟨D,DJ.o,GC,U7.o⟩;obtain⟨nO,iI,HE2⟩:=d_ (jZ.put name vH GC U7.o) (fC.o.mapped hS1 lO lR lO.size) (HE1.o.mapped hS1 lO lR lO.size);have hQ2:aG w2 w.heap.size 161 #[.map (some b),.slice A nn nc]:=HQ.o.grown lO (fun e=>by injection e;omega);have iJ:=lH (gD (iF Q4.o (some b)) lO);obtain⟨d0,d1,df,aCi⟩:=mR hQ2;have hEl:=lH HE2.o.1;clear vH lO hS1 hQ2 c0 c1 cf;(go_wp2_with fail)
   go_loop [8,23] (fun _ i=>∃k:Nat,k<=m/\i=.int .i64 k/\ends.any (fun s=>!(nodes.any fun x=>pH s x))=(ends.drop k).any (fun s=>!(nodes.any fun x=>pH s x))) (fun _ i=>m-(intOf i).toNat)
   case atStart=>exact⟨0,by omega,rfl,rfl⟩
   case round=>
    obtain⟨k,hk,rfl,CK⟩:=hrel;have uU:=lH CK;clear CK;by_cases aU:k<m
    ·obtain⟨y,hy⟩:∃y,ends[k]?=some y:=eA (by have:=hEl.out;omega)
     obtain⟨bv,ov,rfl,K9⟩:=HE2.o.form (by omega);have jI:=HE2.o.at_ hy;have HZ:=lH (cM hy);clear hy;cases hp:nodes.any (fun x=>pH y x) with
     | true=>
      have HP:=lH hp;clear hp;(go_wp2_with fail);refine(uS A nn nc nodes y _ iI.o G_).mono ?_;rw[HP.o];rintro e w3 ⟨rfl,rfl⟩;(go_wp2_with fail)
      go_round
      case rel=>exact⟨k+1,by omega,by go_num,by rw[uU.o,HZ.o];simp[HP.o]⟩
      case measure=>simp[intOf];omega
     | false=>
      have HP:=lH hp;clear hp;(go_wp2_with fail);refine(uS A nn nc nodes y _ iI.o G_).mono ?_;rw[HP.o];rintro e w3 ⟨rfl,rfl⟩;(go_wp2_with fail);go_ret;have hr:nK nodes seen name ends=6:=by
       rw[HD.o,jV.o,HSN.o,uU.o,HZ.o];simp[HP.o]
      exact⟨aX hr.symm,iJ.o,fun h=>by omega⟩
    ·have hd:ends.drop k=[]:=by rw[List.drop_eq_nil_iff];have:=hEl.out;omega
     have hr:nK nodes seen name ends=if ends.length=2/\ends[0]?=ends[1]? then 3 else 0:=by
      rw[HD.o,jV.o,HSN.o,uU.o,hd];simp
     have HR:=lH hr;clear hd hr;by_cases zS:m=2
     ·subst zS
      obtain⟨y0,yH⟩:∃y,ends[0]?=some y:=eA (by have:=hEl.out;omega);obtain⟨y1,hy1⟩:∃y,ends[1]?=some y:=eA (by have:=hEl.out;omega);obtain⟨bv,ov,rfl,K9⟩:=HE2.o.form (by omega);have aOz:=HE2.o.at_ yH;have aYG:=HE2.o.at_ hy1;rw[Nat.add_zero] at aOz;have hw0:(0:Int)<((2:Nat):Int):=by omega
      cases hq:pH y0 y1 with
      | true=>
       have hr:nK nodes seen name ends=3:=by rw[HR.o,yH,hy1,if_pos ⟨hEl.out,by rw[pM.1 hq]⟩]
       have wD:=lH hr;clear yH hy1 hr;(go_wp2_with fail)
       go_quiet (fail)
       (go_wp2_with fail);go_ret;exact⟨aX wD.o.symm,uA iJ.o _,fun h=>by rw[wD.o] at h;omega⟩
      | false=>
       have hr:nK nodes seen name ends=0:=by rw[HR.o,yH,hy1,if_neg (fun h=>t8.1 hq (by injection h.2))]
       have wD:=lH hr;clear yH hy1 hr;(go_wp2_with fail)
       go_quiet (fail)
       (go_wp2_with fail);go_ret;exact⟨aX wD.o.symm,uA iJ.o _,fun _=>nO.o.below (bD bR _)⟩
     ·have hr:nK nodes seen name ends=0:=by rw[HR.o,if_neg (fun h=>zS (by have:=hEl.out;omega))]
      have wD:=lH hr;have hmf:((m:Int) == 2)=false:=by rw[beq_eq_false_iff_ne];omega
      clear hr zS;(go_wp2_with fail)
      go_quiet (fail)
      (go_wp2_with fail);go_ret;exact⟨aX wD.o.symm,uA iJ.o _,fun _=>nO.o.below (bD bR _)⟩
end
section
open Go.ChangeShapes Go.WideShapes Go.ChangeAt Go.RowKit Go.Joins Go.Deep Go.Maps
attribute [local go_sem ↓] aE
attribute [local go_sem] aJ aI aM aR
def Gn.bad(x:Gn):Bool:=mF x.least 0 100000 || mF x.most x.least 100000 || mF x.ramp 0 100000
def Sw.bad(x:Sw):Bool:=false
def Ld.bad(x:Ld):Bool:=mF x.demand 0 100000
def St.bad(x:St):Bool:=mF x.charge 0 100000 || mF x.discharge 0 100000 || mF x.capacity 0 100000
def bF{α:Type}(f:List ByteArray->α->Int)(nm:α->ByteArray):List ByteArray->List α->Int×List ByteArray
 | seen,[]=>(0,seen)
 | seen,x::r=>if f seen x≠0 then(f seen x,seen) else bF f nm (nm x::seen) r
def tI(nodes:List ByteArray)(seen:List ByteArray)(x:ByteArray):Int:=nK nodes seen x []
def fSw(nodes:List ByteArray)(seen:List ByteArray)(x:Sw):Int:=if nK nodes seen x.name [x.a,x.b]≠0 then nK nodes seen x.name [x.a,x.b] else if x.bad then 4 else 0
def TG(nodes:List ByteArray)(seen:List ByteArray)(x:Br):Int:=if nK nodes seen x.name [x.fr,x.to]≠0 then nK nodes seen x.name [x.fr,x.to] else x.ck
def LT(nodes:List ByteArray)(seen:List ByteArray)(x:Gn):Int:=if nK nodes seen x.name [x.node]≠0 then nK nodes seen x.name [x.node] else if x.bad then 4 else 0
def XZ(nodes:List ByteArray)(seen:List ByteArray)(x:Ld):Int:=if nK nodes seen x.name [x.node]≠0 then nK nodes seen x.name [x.node] else if x.bad then 4 else 0
def PK(nodes:List ByteArray)(seen:List ByteArray)(x:St):Int:=if nK nodes seen x.name [x.node]≠0 then nK nodes seen x.name [x.node] else if x.bad then 4 else 0
def ck5(x:bO)(seen:List ByteArray):Int:=(bF (PK x.nodes) St.name seen x.sts).1
def ck4(x:bO)(seen:List ByteArray):Int:=if(bF (XZ x.nodes) Ld.name seen x.lds).1≠0 then(bF (XZ x.nodes) Ld.name seen x.lds).1 else ck5 x (bF (XZ x.nodes) Ld.name seen x.lds).2
def ck3(x:bO)(seen:List ByteArray):Int:=if(bF (LT x.nodes) Gn.name seen x.gns).1≠0 then(bF (LT x.nodes) Gn.name seen x.gns).1 else ck4 x (bF (LT x.nodes) Gn.name seen x.gns).2
def ck2(x:bO)(seen:List ByteArray):Int:=if(bF (TG x.nodes) Br.name seen x.brs).1≠0 then(bF (TG x.nodes) Br.name seen x.brs).1 else ck3 x (bF (TG x.nodes) Br.name seen x.brs).2
def ck1(x:bO)(seen:List ByteArray):Int:=if(bF (fSw x.nodes) Sw.name seen x.sws).1≠0 then(bF (fSw x.nodes) Sw.name seen x.sws).1 else ck2 x (bF (fSw x.nodes) Sw.name seen x.sws).2
def ck0(x:bO):Int:=if(bF (tI x.nodes) id [] x.nodes).1≠0 then(bF (tI x.nodes) id [] x.nodes).1 else ck1 x (bF (tI x.nodes) id [] x.nodes).2
def m8(x:bO):Prop:=24<x.nodes.length\/32<x.sws.length\/24<x.brs.length\/10<x.gns.length\/12<x.lds.length\/4<x.sts.length
instance (x:bO):Decidable (m8 x):=by unfold m8;infer_instance
def b_(x:bO):Int:=if m8 x then 2 else ck0 x
theorem eG{α:Type}{f:List ByteArray->α->Int}{nm:α->ByteArray}{x:α}{r l:List α}{v:Int}(hl:l=x::r)(hf:f seen x=v)(h0:v≠0):(bF f nm seen l).1=v:=by
 subst hl;unfold bF;rw[if_pos (by rw[hf];exact h0),hf]
theorem p5{α:Type}{f:List ByteArray->α->Int}{nm:α->ByteArray}{x:α}{r l:List α}(hl:l=x::r)(h0:f seen x=0):bF f nm seen l=bF f nm (nm x::seen) r:=by
 subst hl;show(if f seen x≠0 then _ else _)=_;rw[if_neg (by rw[h0];simp)]
structure Ck (w0 wr:Wo) (b:Nat) (A:OA) (nn:Nat) (nodes:List ByteArray) (h:bY) (x:bO) (seen:List ByteArray):Prop where
 gr:w0.grownBy wr (some b)
 sn:jZ wr b seen.length seen
 rn:aY wr wr.heap.size A nn nodes
 net:cQ wr wr.heap.size h x
theorem cQ.mapped{h:bY}{x:bO}(r:cQ w w.heap.size h x)(hS:jZ w b m l)(hg:w.grownBy w' (some b)):cQ w' w'.heap.size h x:=
 ⟨r.r0.mapped hS hg lR hg.size,⟨r.r1.1,r.r1.2.mapped (by omega) hS hg lR hg.size⟩,⟨r.r2.1,r.r2.2.mapped (by omega) hS hg lR hg.size⟩,⟨r.r3.1,r.r3.2.mapped (by omega) hS hg lR hg.size⟩,
  ⟨r.r4.1,r.r4.2.mapped (by omega) hS hg lR hg.size⟩,⟨r.r5.1,r.r5.2.mapped (by omega) hS hg lR hg.size⟩,r.m0,r.m1,r.m2,r.m3,r.m4,r.m5,r.z0,r.z1,r.z2,r.z3,r.z4,r.z5⟩
theorem Ck.below{w0:Wo}{nn:Nat}{h:bY}{x:bO}(c:Ck w0 w b A nn nodes h x seen)(hb:Below w.heap.size w w'):Ck w0 w' b A nn nodes h x seen:=
 ⟨gD c.gr (iF hb _),c.sn.below hb,(c.rn.below hb lR).more hb.size,c.net.up hb⟩
theorem Ck.put{w0:Wo}{nn:Nat}{h:bY}{x:bO}{s:ByteArray}(c:Ck w0 w b A nn nodes h x seen)(hg:w.grownBy w' (some b))(hS:jZ w' b (seen.length+1) (s::seen)):Ck w0 w' b A nn nodes h x (s::seen):=
 ⟨gD c.gr hg,hS,c.rn.mapped c.sn hg lR hg.size,c.net.mapped c.sn hg⟩
theorem EX(w:Wo)(o1 o2:Obj):Below w.heap.size w ((w.alloc o1).alloc o2):=(bA).alloc (by simp) _
theorem aGA(b:Nat)(A:OA)(nn nc:Nat)(nodes:List ByteArray)(h:bY)(x:bO)(seen0:List ByteArray)(w:Wo)(hC:Ck w w b A nn nodes h x seen0)(G_:nn<=9223372036854775807)(SW:seen0.length<=1000)(h3:h.n3<=10)(h4:h.n4<=12)(h5:h.n5<=4)(aFO:x.nodes=nodes):Calls Tryz.prog 99 #[.agg #[.map (some b),.slice A nn nc],.agg h.cells] w fun e w'=>e=.returned (.int .i64 (ck3 x seen0))/\w.grownBy w' (some b):=by
 obtain⟨A0,m0,c0,A1,m1,c1,A2,m2,c2,A3,m3,c3,A4,m4,c4,A5,m5,c5⟩:=h;dsimp only[bY.cells] at *;have sH:=hC.sn.lt;have zE:=hC.below (EX w (.cells #[.map (some b),.slice A nn nc] 161) (.cells #[.slice A0 m0 c0,.slice A1 m1 c1,.slice A2 m2 c2,.slice A3 m3 c3,.slice A4 m4 c4,.slice A5 m5 c5] 29));have HC:=lH zE;have DI:Hid (aG ((w.alloc (.cells #[.map (some b),.slice A nn nc] 161)).alloc (.cells #[.slice A0 m0 c0,.slice A1 m1 c1,.slice A2 m2 c2,.slice A3 m3 c3,.slice A4 m4 c4,.slice A5 m5 c5] 29)) w.heap.size 161 #[.map (some b),.slice A nn nc]):=lH ((aG.new w _ _).alloc _);have sO:Hid (aG ((w.alloc (.cells #[.map (some b),.slice A nn nc] 161)).alloc (.cells #[.slice A0 m0 c0,.slice A1 m1 c1,.slice A2 m2 c2,.slice A3 m3 c3,.slice A4 m4 c4,.slice A5 m5 c5] 29)) (w.heap.size+1) 29 #[.slice A0 m0 c0,.slice A1 m1 c1,.slice A2 m2 c2,.slice A3 m3 c3,.slice A4 m4 c4,.slice A5 m5 c5]):=lH (aG.new_ (by simp));have pT:=lH zE.net;obtain⟨y0,y1,y2,y3,y4,y5,nf,nlt⟩:=aW (h:=⟨A0,m0,c0,A1,m1,c1,A2,m2,c2,A3,m3,c3,A4,m4,c4,A5,m5,c5⟩) sO.o;have DK:=lH aFO;clear hC zE aFO;go_enter Tryz.func99,Tryz.ntmps99
 go_wp2_with fail
 have M_:Hid (x.gns.length=m3):=lH pT.o.r3.1
 go_loopw [17] (fun i wr=>∃(k:Nat)(seen3:List ByteArray),k<=m3/\i=.int .i64 k/\Ck w wr b A nn nodes ⟨A0,m0,c0,A1,m1,c1,A2,m2,c2,A3,m3,c3,A4,m4,c4,A5,m5,c5⟩ x seen3/\aG wr w.heap.size 161 #[.map (some b),.slice A nn nc]/\aG wr (w.heap.size+1) 29 #[.slice A0 m0 c0,.slice A1 m1 c1,.slice A2 m2 c2,.slice A3 m3 c3,.slice A4 m4 c4,.slice A5 m5 c5]/\seen3.length<=seen0.length+k/\bF (LT nodes) Gn.name seen0 x.gns=bF (LT nodes) Gn.name seen3 (x.gns.drop k)) (fun i _=>m3-(intOf i).toNat)
 case atStart=>exact⟨0,seen0,by omega,rfl,HC.o,DI.o,sO.o,by omega,rfl⟩
 case round=>
  clear HC DI sO pT;obtain⟨k,seen3,hk,rfl,hC,pQ,oO,JU,pD⟩:=hrel;obtain⟨HC,DI,sO,kV⟩:=iK hC pQ oO pD;obtain⟨g0,g1,gf,glt⟩:=mR pQ;obtain⟨y0,y1,y2,y3,y4,y5,nf,nlt⟩:=aW (h:=⟨A0,m0,c0,A1,m1,c1,A2,m2,c2,A3,m3,c3,A4,m4,c4,A5,m5,c5⟩) oO;have QX:=hC.sn.lt;have pT:=lH hC.net;clear hC pQ oO pD;by_cases aU:k<m3
  ·obtain⟨z,hz⟩:∃z,x.gns[k]?=some z:=eA (by have:=M_.out;omega)
   obtain⟨bz,oz,hA,PE⟩:=HC.o.net.r3.form (by dsimp only;omega);dsimp only at hA;subst hA;obtain⟨e0,e1,e2,e3,e4⟩:=HC.o.net.r3.at_ hz;have hzn:=HC.o.net.z3 z (bV hz);have HZ:=lH (cM hz);clear hz;(go_wp2_with fail);have hB:=EX wr (.cells #[.string z.name,.string z.node,.int .i64 z.least,.int .i64 z.most,.int .i64 z.ramp] 145) (.cells #[.string z.node] 9);have hE:aY ((wr.alloc (.cells #[.string z.name,.string z.node,.int .i64 z.least,.int .i64 z.most,.int .i64 z.ramp] 145)).alloc (.cells #[.string z.node] 9)) ((wr.alloc (.cells #[.string z.name,.string z.node,.int .i64 z.least,.int .i64 z.most,.int .i64 z.ramp] 145)).alloc (.cells #[.string z.node] 9)).heap.size (some ⟨wr.heap.size+1,0,none⟩) 1 [z.node]:=fF (zs:=[z.node]) (aG.new_ (by simp)) (by simp);have zE:=HC.o.below hB;refine(n_ b _ A nn nc nodes seen3 z.name _ 1 1 [z.node] _ zE.rn G_ zE.sn (by omega) hzn hE (by omega)).mono ?_;generalize hR:nK nodes seen3 z.name [z.node]=r;rintro e w2 ⟨rfl,lO,S9⟩;have M8:aG w2 wr.heap.size 145 #[.string z.name,.string z.node,.int .i64 z.least,.int .i64 z.most,.int .i64 z.ramp]:=aG.grown ((aG.new wr _ _).alloc _) lO (fun e=>by injection e;omega);have pQ:aG w2 w.heap.size 161 #[.map (some b),.slice A nn nc]:=aG.grown (DI.o.bl hB) lO (fun e=>by injection e;omega);have oO:=aG.grown (sO.o.bl hB) lO (fun e=>by injection e;omega);obtain⟨iJ,nO,HC2,Hg2⟩:=iK (gD zE.gr lO) S9 zE lO;obtain⟨f0,f1,f2,f3,f4,ff,flt⟩:=Gn.box M8;obtain⟨KM,C_,xN⟩:=d_ pQ oO hR;clear hB hE zE lO S9 M8 pQ oO hR e0 e1 e2 e3 e4;by_cases gN:r=0
   ·subst gN
    have HC3:=lH (HC2.o.put Hg2.o (nO.o rfl));cases t0:mF z.least 0 100000 with
    | true=>
     have hf:LT nodes seen3 z=4:=by unfold LT Gn.bad;rw[xN.o];simp[t0]
     have hr:(bF (LT nodes) Gn.name seen0 x.gns).1=4:=by rw[kV.o];exact eG HZ.o hf (by omega)
     have sN:=lH hr;clear hf hr
     go_wp2_with (first | (go_at_call 130;refine(dB _ _).mono ?_;rintro e w' ⟨rfl,rfl⟩) | (go_at_call 129;refine(eF _ _ _ _).mono ?_;rintro e w' ⟨rfl,rfl⟩))
     go_ret;exact⟨aX (by unfold ck3;rw[DK.o,if_pos (by rw[sN.o];omega),sN.o]),iJ.o⟩
    | false=>
     cases t1:mF z.most z.least 100000 with
     | true=>
      have hf:LT nodes seen3 z=4:=by unfold LT Gn.bad;rw[xN.o];simp[t0,t1]
      have hr:(bF (LT nodes) Gn.name seen0 x.gns).1=4:=by rw[kV.o];exact eG HZ.o hf (by omega)
      have sN:=lH hr;clear hf hr
      go_wp2_with (first | (go_at_call 130;refine(dB _ _).mono ?_;rintro e w' ⟨rfl,rfl⟩) | (go_at_call 129;refine(eF _ _ _ _).mono ?_;rintro e w' ⟨rfl,rfl⟩))
      go_ret;exact⟨aX (by unfold ck3;rw[DK.o,if_pos (by rw[sN.o];omega),sN.o]),iJ.o⟩
     | false=>
      cases t2:mF z.ramp 0 100000 with
      | true=>
       have hf:LT nodes seen3 z=4:=by unfold LT Gn.bad;rw[xN.o];simp[t0,t1,t2]
       have hr:(bF (LT nodes) Gn.name seen0 x.gns).1=4:=by rw[kV.o];exact eG HZ.o hf (by omega)
       have sN:=lH hr;clear hf hr
       go_wp2_with (first | (go_at_call 130;refine(dB _ _).mono ?_;rintro e w' ⟨rfl,rfl⟩) | (go_at_call 129;refine(eF _ _ _ _).mono ?_;rintro e w' ⟨rfl,rfl⟩))
       go_ret;exact⟨aX (by unfold ck3;rw[DK.o,if_pos (by rw[sN.o];omega),sN.o]),iJ.o⟩
      | false=>
       have hf:LT nodes seen3 z=0:=by unfold LT Gn.bad;rw[xN.o];simp[t0,t1,t2]
       have HF:=lH hf;clear hf
       go_wp2_with (first | (go_at_call 130;refine(dB _ _).mono ?_;rintro e w' ⟨rfl,rfl⟩) | (go_at_call 129;refine(eF _ _ _ _).mono ?_;rintro e w' ⟨rfl,rfl⟩))
       go_roundw
       case rel=>exact⟨k+1,z.name::seen3,by omega,by go_num,HC3.o,KM.o,C_.o,by simp;omega,by rw[kV.o];exact p5 HZ.o HF.o⟩
       case measure=>simp[intOf];omega
   ·have AX:(r != 0)=true:=by simpa using gN
    have hf:LT nodes seen3 z=r:=by unfold LT;rw[xN.o,if_pos gN]
    have hr:(bF (LT nodes) Gn.name seen0 x.gns).1=r:=by rw[kV.o];exact eG HZ.o hf gN
    have sN:=lH hr;have E6:=lH gN;clear hf hr gN;(go_wp2_with fail);go_ret;exact⟨aX (by unfold ck3;rw[DK.o,if_pos (by rw[sN.o];exact E6.o),sN.o]),iJ.o⟩
  ·have hd:x.gns.drop k=[]:=by rw[List.drop_eq_nil_iff];have:=M_.out;omega
   have hr:bF (LT nodes) Gn.name seen0 x.gns=(0,seen3):=by rw[kV.o,hd];rfl
   have F1:=lH hr;have a2E:seen3.length<=seen0.length+m3:=by omega
   clear hd hr JU;have aAi:=pT;have HW4:Hid (ck3 x seen0=ck4 x seen3):=lH (by unfold ck3;rw[DK.o,F1.o];rfl);(go_wp2_with fail);have aLO:Hid (x.lds.length=m4):=lH pT.o.r4.1
   go_loopw [52] (fun i wr=>∃(k:Nat)(seen4:List ByteArray),k<=m4/\i=.int .i64 k/\Ck w wr b A nn nodes ⟨A0,m0,c0,A1,m1,c1,A2,m2,c2,A3,m3,c3,A4,m4,c4,A5,m5,c5⟩ x seen4/\aG wr w.heap.size 161 #[.map (some b),.slice A nn nc]/\aG wr (w.heap.size+1) 29 #[.slice A0 m0 c0,.slice A1 m1 c1,.slice A2 m2 c2,.slice A3 m3 c3,.slice A4 m4 c4,.slice A5 m5 c5]/\seen4.length<=seen3.length+k/\bF (XZ nodes) Ld.name seen3 x.lds=bF (XZ nodes) Ld.name seen4 (x.lds.drop k)) (fun i _=>m4-(intOf i).toNat)
   case atStart=>exact⟨0,seen3,by omega,rfl,HC.o,DI.o,sO.o,by omega,rfl⟩
   case round=>
    clear HC DI sO pT;obtain⟨k,seen4,hk,rfl,hC,pQ,oO,JU,pD⟩:=hrel;obtain⟨HC,DI,sO,kV⟩:=iK hC pQ oO pD;obtain⟨g0,g1,gf,glt⟩:=mR pQ;obtain⟨y0,y1,y2,y3,y4,y5,nf,nlt⟩:=aW (h:=⟨A0,m0,c0,A1,m1,c1,A2,m2,c2,A3,m3,c3,A4,m4,c4,A5,m5,c5⟩) oO;have QX:=hC.sn.lt;have pT:=lH hC.net;clear hC pQ oO pD;by_cases aU:k<m4
    ·obtain⟨z,hz⟩:∃z,x.lds[k]?=some z:=eA (by have:=aLO.out;omega)
     obtain⟨bz,oz,hA,PE⟩:=HC.o.net.r4.form (by dsimp only;omega);dsimp only at hA;subst hA;obtain⟨e0,e1,e2⟩:=HC.o.net.r4.at_ hz;have hzn:=HC.o.net.z4 z (bV hz);have HZ:=lH (cM hz);clear hz;(go_wp2_with fail);have hB:=EX wr (.cells #[.string z.name,.string z.node,.int .i64 z.demand] 199) (.cells #[.string z.node] 9);have hE:aY ((wr.alloc (.cells #[.string z.name,.string z.node,.int .i64 z.demand] 199)).alloc (.cells #[.string z.node] 9)) ((wr.alloc (.cells #[.string z.name,.string z.node,.int .i64 z.demand] 199)).alloc (.cells #[.string z.node] 9)).heap.size (some ⟨wr.heap.size+1,0,none⟩) 1 [z.node]:=fF (zs:=[z.node]) (aG.new_ (by simp)) (by simp);have zE:=HC.o.below hB;refine(n_ b _ A nn nc nodes seen4 z.name _ 1 1 [z.node] _ zE.rn G_ zE.sn (by omega) hzn hE (by omega)).mono ?_;generalize hR:nK nodes seen4 z.name [z.node]=r;rintro e w2 ⟨rfl,lO,S9⟩;have M8:aG w2 wr.heap.size 199 #[.string z.name,.string z.node,.int .i64 z.demand]:=aG.grown ((aG.new wr _ _).alloc _) lO (fun e=>by injection e;omega);have pQ:aG w2 w.heap.size 161 #[.map (some b),.slice A nn nc]:=aG.grown (DI.o.bl hB) lO (fun e=>by injection e;omega);have oO:=aG.grown (sO.o.bl hB) lO (fun e=>by injection e;omega);obtain⟨iJ,nO,HC2,Hg2⟩:=iK (gD zE.gr lO) S9 zE lO;obtain⟨f0,f1,f2,ff,flt⟩:=Ld.box M8;obtain⟨KM,C_,xN⟩:=d_ pQ oO hR;clear hB hE zE lO S9 M8 pQ oO hR e0 e1 e2;by_cases gN:r=0
     ·subst gN
      have HC3:=lH (HC2.o.put Hg2.o (nO.o rfl));cases t0:mF z.demand 0 100000 with
      | true=>
       have hf:XZ nodes seen4 z=4:=by unfold XZ Ld.bad;rw[xN.o];simp[t0]
       have hr:(bF (XZ nodes) Ld.name seen3 x.lds).1=4:=by rw[kV.o];exact eG HZ.o hf (by omega)
       have sN:=lH hr;clear hf hr
       go_wp2_with (first | (go_at_call 130;refine(dB _ _).mono ?_;rintro e w' ⟨rfl,rfl⟩) | (go_at_call 129;refine(eF _ _ _ _).mono ?_;rintro e w' ⟨rfl,rfl⟩))
       go_ret;exact⟨aX (by rw[HW4.o];unfold ck4;rw[DK.o,if_pos (by rw[sN.o];omega),sN.o]),iJ.o⟩
      | false=>
       have hf:XZ nodes seen4 z=0:=by unfold XZ Ld.bad;rw[xN.o];simp[t0]
       have HF:=lH hf;clear hf
       go_wp2_with (first | (go_at_call 130;refine(dB _ _).mono ?_;rintro e w' ⟨rfl,rfl⟩) | (go_at_call 129;refine(eF _ _ _ _).mono ?_;rintro e w' ⟨rfl,rfl⟩))
       go_roundw
       case rel=>exact⟨k+1,z.name::seen4,by omega,by go_num,HC3.o,KM.o,C_.o,by simp;omega,by rw[kV.o];exact p5 HZ.o HF.o⟩
       case measure=>simp[intOf];omega
     ·have AX:(r != 0)=true:=by simpa using gN
      have hf:XZ nodes seen4 z=r:=by unfold XZ;rw[xN.o,if_pos gN]
      have hr:(bF (XZ nodes) Ld.name seen3 x.lds).1=r:=by rw[kV.o];exact eG HZ.o hf gN
      have sN:=lH hr;have E6:=lH gN;clear hf hr gN;(go_wp2_with fail);go_ret;exact⟨aX (by rw[HW4.o];unfold ck4;rw[DK.o,if_pos (by rw[sN.o];exact E6.o),sN.o]),iJ.o⟩
    ·have hd:x.lds.drop k=[]:=by rw[List.drop_eq_nil_iff];have:=aLO.out;omega
     have hr:bF (XZ nodes) Ld.name seen3 x.lds=(0,seen4):=by rw[kV.o,hd];rfl
     have YZ:=lH hr;have a2D:seen4.length<=seen3.length+m4:=by omega
     clear hd hr JU;have aAi:=pT;have HW5:Hid (ck3 x seen0=ck5 x seen4):=lH (by rw[HW4.o];unfold ck4;rw[DK.o,YZ.o];rfl);(go_wp2_with fail);have aLN:Hid (x.sts.length=m5):=lH pT.o.r5.1
     go_loopw [74] (fun i wr=>∃(k:Nat)(seen5:List ByteArray),k<=m5/\i=.int .i64 k/\Ck w wr b A nn nodes ⟨A0,m0,c0,A1,m1,c1,A2,m2,c2,A3,m3,c3,A4,m4,c4,A5,m5,c5⟩ x seen5/\aG wr w.heap.size 161 #[.map (some b),.slice A nn nc]/\aG wr (w.heap.size+1) 29 #[.slice A0 m0 c0,.slice A1 m1 c1,.slice A2 m2 c2,.slice A3 m3 c3,.slice A4 m4 c4,.slice A5 m5 c5]/\seen5.length<=seen4.length+k/\bF (PK nodes) St.name seen4 x.sts=bF (PK nodes) St.name seen5 (x.sts.drop k)) (fun i _=>m5-(intOf i).toNat)
     case atStart=>exact⟨0,seen4,by omega,rfl,HC.o,DI.o,sO.o,by omega,rfl⟩
     case round=>
      clear HC DI sO pT;obtain⟨k,seen5,hk,rfl,hC,pQ,oO,JU,pD⟩:=hrel;obtain⟨HC,DI,sO,kV⟩:=iK hC pQ oO pD;obtain⟨g0,g1,gf,glt⟩:=mR pQ;obtain⟨y0,y1,y2,y3,y4,y5,nf,nlt⟩:=aW (h:=⟨A0,m0,c0,A1,m1,c1,A2,m2,c2,A3,m3,c3,A4,m4,c4,A5,m5,c5⟩) oO;have QX:=hC.sn.lt;have pT:=lH hC.net;clear hC pQ oO pD;by_cases aU:k<m5
      ·obtain⟨z,hz⟩:∃z,x.sts[k]?=some z:=eA (by have:=aLN.out;omega)
       obtain⟨bz,oz,hA,PE⟩:=HC.o.net.r5.form (by dsimp only;omega);dsimp only at hA;subst hA;obtain⟨e0,e1,e2,e3,e4⟩:=HC.o.net.r5.at_ hz;have hzn:=HC.o.net.z5 z (bV hz);have HZ:=lH (cM hz);clear hz;(go_wp2_with fail);have hB:=EX wr (.cells #[.string z.name,.string z.node,.int .i64 z.charge,.int .i64 z.discharge,.int .i64 z.capacity] 201) (.cells #[.string z.node] 9);have hE:aY ((wr.alloc (.cells #[.string z.name,.string z.node,.int .i64 z.charge,.int .i64 z.discharge,.int .i64 z.capacity] 201)).alloc (.cells #[.string z.node] 9)) ((wr.alloc (.cells #[.string z.name,.string z.node,.int .i64 z.charge,.int .i64 z.discharge,.int .i64 z.capacity] 201)).alloc (.cells #[.string z.node] 9)).heap.size (some ⟨wr.heap.size+1,0,none⟩) 1 [z.node]:=fF (zs:=[z.node]) (aG.new_ (by simp)) (by simp);have zE:=HC.o.below hB;refine(n_ b _ A nn nc nodes seen5 z.name _ 1 1 [z.node] _ zE.rn G_ zE.sn (by omega) hzn hE (by omega)).mono ?_;generalize hR:nK nodes seen5 z.name [z.node]=r;rintro e w2 ⟨rfl,lO,S9⟩;have M8:aG w2 wr.heap.size 201 #[.string z.name,.string z.node,.int .i64 z.charge,.int .i64 z.discharge,.int .i64 z.capacity]:=aG.grown ((aG.new wr _ _).alloc _) lO (fun e=>by injection e;omega);have pQ:aG w2 w.heap.size 161 #[.map (some b),.slice A nn nc]:=aG.grown (DI.o.bl hB) lO (fun e=>by injection e;omega);have oO:=aG.grown (sO.o.bl hB) lO (fun e=>by injection e;omega);obtain⟨iJ,nO,HC2,Hg2⟩:=iK (gD zE.gr lO) S9 zE lO;obtain⟨f0,f1,f2,f3,f4,ff,flt⟩:=St.box M8;obtain⟨KM,C_,xN⟩:=d_ pQ oO hR;clear hB hE zE lO S9 M8 pQ oO hR e0 e1 e2 e3 e4;by_cases gN:r=0
       ·subst gN
        have HC3:=lH (HC2.o.put Hg2.o (nO.o rfl));cases t0:mF z.charge 0 100000 with
        | true=>
         have hf:PK nodes seen5 z=4:=by unfold PK St.bad;rw[xN.o];simp[t0]
         have hr:(bF (PK nodes) St.name seen4 x.sts).1=4:=by rw[kV.o];exact eG HZ.o hf (by omega)
         have sN:=lH hr;clear hf hr
         go_wp2_with (first | (go_at_call 130;refine(dB _ _).mono ?_;rintro e w' ⟨rfl,rfl⟩) | (go_at_call 129;refine(eF _ _ _ _).mono ?_;rintro e w' ⟨rfl,rfl⟩))
         go_ret;exact⟨aX (by rw[HW5.o];unfold ck5;rw[DK.o,sN.o]),iJ.o⟩
        | false=>
         cases t1:mF z.discharge 0 100000 with
         | true=>
          have hf:PK nodes seen5 z=4:=by unfold PK St.bad;rw[xN.o];simp[t0,t1]
          have hr:(bF (PK nodes) St.name seen4 x.sts).1=4:=by rw[kV.o];exact eG HZ.o hf (by omega)
          have sN:=lH hr;clear hf hr
          go_wp2_with (first | (go_at_call 130;refine(dB _ _).mono ?_;rintro e w' ⟨rfl,rfl⟩) | (go_at_call 129;refine(eF _ _ _ _).mono ?_;rintro e w' ⟨rfl,rfl⟩))
          go_ret;exact⟨aX (by rw[HW5.o];unfold ck5;rw[DK.o,sN.o]),iJ.o⟩
         | false=>
          cases t2:mF z.capacity 0 100000 with
          | true=>
           have hf:PK nodes seen5 z=4:=by unfold PK St.bad;rw[xN.o];simp[t0,t1,t2]
           have hr:(bF (PK nodes) St.name seen4 x.sts).1=4:=by rw[kV.o];exact eG HZ.o hf (by omega)
           have sN:=lH hr;clear hf hr
           go_wp2_with (first | (go_at_call 130;refine(dB _ _).mono ?_;rintro e w' ⟨rfl,rfl⟩) | (go_at_call 129;refine(eF _ _ _ _).mono ?_;rintro e w' ⟨rfl,rfl⟩))
           go_ret;exact⟨aX (by rw[HW5.o];unfold ck5;rw[DK.o,sN.o]),iJ.o⟩
          | false=>
           have hf:PK nodes seen5 z=0:=by unfold PK St.bad;rw[xN.o];simp[t0,t1,t2]
           have HF:=lH hf;clear hf
           go_wp2_with (first | (go_at_call 130;refine(dB _ _).mono ?_;rintro e w' ⟨rfl,rfl⟩) | (go_at_call 129;refine(eF _ _ _ _).mono ?_;rintro e w' ⟨rfl,rfl⟩))
           go_roundw
           case rel=>exact⟨k+1,z.name::seen5,by omega,by go_num,HC3.o,KM.o,C_.o,by simp;omega,by rw[kV.o];exact p5 HZ.o HF.o⟩
           case measure=>simp[intOf];omega
       ·have AX:(r != 0)=true:=by simpa using gN
        have hf:PK nodes seen5 z=r:=by unfold PK;rw[xN.o,if_pos gN]
        have hr:(bF (PK nodes) St.name seen4 x.sts).1=r:=by rw[kV.o];exact eG HZ.o hf gN
        have sN:=lH hr;have E6:=lH gN;clear hf hr gN;(go_wp2_with fail);go_ret;exact⟨aX (by rw[HW5.o];unfold ck5;rw[DK.o,sN.o]),iJ.o⟩
      ·have hd:x.sts.drop k=[]:=by rw[List.drop_eq_nil_iff];have:=aLN.out;omega
       have hr:bF (PK nodes) St.name seen4 x.sts=(0,seen5):=by rw[kV.o,hd];rfl
       have HL5:=lH hr;have a2C:seen5.length<=seen4.length+m5:=by omega
       clear hd hr JU;have aAi:=pT;(go_wp2_with fail);go_ret;exact⟨aX (by rw[HW5.o];unfold ck5;rw[DK.o,HL5.o]),HC.o.gr⟩
end
section
open Go.ChangeShapes Go.WideShapes Go.ChangeAt Go.RowKit
theorem oA{α:Type}{f:List ByteArray->α->Int}{nm:α->ByteArray}:∀(l:List α)(seen:List ByteArray),(bF f nm seen l).1=0->∀x∈l,∃s,f s x=0
 | [],_,_,x,hx=>by simp at hx
 | y::r,seen,h,x,hx=>by
  unfold bF at h;split at h
  ·rename_i h0;exact absurd h h0
  ·rename_i h0
   have h0':f seen y=0:=Decidable.not_not.1 h0;rcases List.mem_cons.1 hx with rfl | hx
   ·exact⟨seen,h0'⟩
   ·exact oA r _ h x hx
theorem uQ{ends:List ByteArray}{name:ByteArray}(h:nK nodes seen name ends=0):B9 name=true/\(∀s∈ends,s∈nodes)/\¬(ends.length=2/\ends[0]?=ends[1]?)/\¬(seen.any (fun x=>pH name x)=true):=by
 unfold nK at h;split at h
 ·omega
 ·rename_i h1
  split at h
  ·omega
  ·rename_i h2
   split at h
   ·omega
   ·rename_i h3
    split at h
    ·omega
    ·rename_i h4
     refine⟨by cases hn:B9 name<;>simp_all,fun s hs=>?_,h4,h2⟩;apply Classical.byContradiction;intro hns;apply h3;rw[List.any_eq_true];refine⟨s,hs,?_⟩;have:nodes.any (fun x=>pH s x)=false:=by
      rw[List.any_eq_false];intro y hy hsy;exact hns (by rw[pM.1 hsy];exact hy)
     rw[this];rfl
structure bJ (x:bO):Prop where
 l0:x.nodes.length<=24
 l1:x.sws.length<=32
 l2:x.brs.length<=24
 l3:x.gns.length<=10
 l4:x.lds.length<=12
 l5:x.sts.length<=4
 sw:∀s∈x.sws,s.a∈x.nodes/\s.b∈x.nodes/\s.a≠s.b
 br:∀b∈x.brs,b.fr∈x.nodes/\b.to∈x.nodes/\b.fr≠b.to/\b.bad=false
 gn:∀g∈x.gns,g.node∈x.nodes/\g.bad=false
 ld:∀g∈x.lds,g.node∈x.nodes/\g.bad=false
 st:∀g∈x.sts,g.node∈x.nodes/\g.bad=false
theorem lW{x:bO}(h:b_ x=0):bJ x:=by
 unfold b_ at h;split at h
 ·omega
 ·rename_i hl
  unfold m8 at hl;unfold ck0 at h;split at h
  ·rename_i h0;exact absurd h h0
  ·unfold ck1 at h
   split at h
   ·rename_i h0;exact absurd h h0
   ·rename_i h1
    unfold ck2 at h;split at h
    ·rename_i h0;exact absurd h h0
    ·rename_i h2
     unfold ck3 at h;split at h
     ·rename_i h0;exact absurd h h0
     ·rename_i h3
      unfold ck4 at h;split at h
      ·rename_i h0;exact absurd h h0
      ·rename_i h4
       unfold ck5 at h;have a1:=oA _ _ (Decidable.not_not.1 h1);have a2:=oA _ _ (Decidable.not_not.1 h2);have a3:=oA _ _ (Decidable.not_not.1 h3);have a4:=oA _ _ (Decidable.not_not.1 h4);have a5:=oA _ _ h;refine⟨by omega,by omega,by omega,by omega,by omega,by omega,fun s hs=>?_,fun s hs=>?_,fun s hs=>?_,fun s hs=>?_,fun s hs=>?_⟩
       ·obtain⟨sn,hf⟩:=a1 s hs
        unfold fSw at hf;split at hf
        ·rename_i h0;exact absurd hf h0
        ·rename_i h0
         obtain⟨_,q2,q3,_⟩:=uQ (Decidable.not_not.1 h0);exact⟨q2 _ (by simp),q2 _ (by simp),fun e=>q3 ⟨rfl,by simp[e]⟩⟩
       ·obtain⟨sn,hf⟩:=a2 s hs
        unfold TG at hf;split at hf
        ·rename_i h0;exact absurd hf h0
        ·rename_i h0
         obtain⟨_,q2,q3,_⟩:=uQ (Decidable.not_not.1 h0);refine⟨q2 _ (by simp),q2 _ (by simp),fun e=>q3 ⟨rfl,by simp[e]⟩,?_⟩;unfold Br.ck at hf;cases hb:s.bad<;>simp_all
       ·obtain⟨sn,hf⟩:=a3 s hs
        unfold LT at hf;split at hf
        ·rename_i h0;exact absurd hf h0
        ·rename_i h0
         obtain⟨_,q2,q3,_⟩:=uQ (Decidable.not_not.1 h0);refine⟨q2 _ (by simp),?_⟩;cases hb:s.bad<;>simp_all
       ·obtain⟨sn,hf⟩:=a4 s hs
        unfold XZ at hf;split at hf
        ·rename_i h0;exact absurd hf h0
        ·rename_i h0
         obtain⟨_,q2,q3,_⟩:=uQ (Decidable.not_not.1 h0);refine⟨q2 _ (by simp),?_⟩;cases hb:s.bad<;>simp_all
       ·obtain⟨sn,hf⟩:=a5 s hs
        unfold PK at hf;split at hf
        ·rename_i h0;exact absurd hf h0
        ·rename_i h0
         obtain⟨_,q2,q3,_⟩:=uQ (Decidable.not_not.1 h0);refine⟨q2 _ (by simp),?_⟩;cases hb:s.bad<;>simp_all
def dE(nodes:List ByteArray)(s:ByteArray):Nat:=(gW (fun x=>pH s x) nodes 0).toNat
theorem tB{s:ByteArray}(h:s∈nodes):gW (fun x=>pH s x) nodes 0=(dE nodes s:Int)/\dE nodes s<nodes.length:=by
 rcases uE (fun x=>pH s x) nodes 0 with⟨h1,h2⟩ | ⟨i,y,h1,h2,h3,_⟩
 ·exact absurd rfl (t8.1 (h2 s h))
 ·unfold dE
  rw[h1];have:=(dH.1 h2).1;exact⟨by simp,by simpa using this⟩
end
