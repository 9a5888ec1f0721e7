import Derived.Test.YthgdchffeigkbaaGreatDoorV00
import Derived.OrdersHeld
import Derived.Deep.RegionHeld
import Derived.Shelf.Strings.Builder1
import Derived.Shelf.Small.Bits
import Derived.Shelf.Strings.BuilderF
import Derived.Shelf.Strings.BuilderK
import Derived.Shelf.Strconv.Itoa0
import Derived.Shelf.Strconv.Itoa1
import Derived.Shelf.LaysM
import Derived.Shelf.Strconv.Itoa2
import Derived.Ground.MpProg
import Derived.Shelf.Pu.ParseUintPublic10
import Derived.Shelf.Strings.Search1
import Derived.Shelf.Strings.Search2
import Derived.Shelf.Strings.Cut
import Derived.Shelf.Strings.Shaped
import Derived.Shelf.Strings.Prefix
import Derived.Shelf.Bits.Mul64
import Derived.Shelf.Strings.BuilderCap
import Derived.Shelf.Slices.Turned
import Derived.Test.YthgdchffeigkbaaGreatDoorProg
import Derived.Lib.Hide
import Derived.Lib.ItoaNum
set_option linter.unusedVariables false
set_option linter.unusedSimpArgs false
namespace Go.Proofs.YthgdchffeigkbaaGreatDoor
variable {L : List Oper} {a : Act} {i j k n : Nat} {o : Oper} {ops : Array Oper} {w w' : World}
section
open Go
def rS(md:Region.Mode)(L:List Oper)(n:Nat):Bool:=
 decide (L.length=n+1) &&
 (List.range (n+1)).all (fun j=>match L[j]? with
  | some o=>o.after.all (fun e=>!Region.binds md e || decide (e.on<j)) && (match o.guard with | none=>true | some (g,_)=>decide (g<n))
  | none=>false) &&
 (List.range n).all (fun j=>(List.range (n+1)).any fun k=>decide (j<k) && match L[k]? with
  | some o=>o.after.any (fun e=>Region.binds md e && e.on == j)
  | none=>false)
def lK(P:Program)(ops:Array Oper)(o:Oper)(Q:Exit->Act->World->Prop):Exit->Act->World->Prop
 | .normal,a,w=>if Region.wanted o (yielded ops a.tmps)=true then Oper.wp P o a w (Q .normal) Q else Q .normal (a.put o.dst undef) w
 | e,a,w=>Q e a w
section
variable {P:Program} {Q:Exit->Act->World->Prop} {md:Region.Mode}
theorem aDR{oN:Oper}{K K':Act->World->Prop}(h:∀a w,K a w->K' a w)(hh:o.wp P a w K (lK P ops oN Q)):o.wp P a w K' Q:=by
 unfold Oper.wp at *;generalize (execOp a.eval o).run P w=r at *;cases r with
 | ok n w'=>
  cases n<;>simp only[Oper.upon] at hh ⊢<;>
   first
    | exact h _ _ hh
    | exact Calls.mono hh (fun e w'' he=>by cases e<;>first | exact h _ _ he | exact he)
    | exact Rows.mono hh (fun _ _ he=>h _ _ he)
 | halt x w'=>cases x<;>simp only[Oper.upon] at hh ⊢<;>exact hh
theorem IO{L F:List Oper}{i:Nat}{oN:Oper}{a:Act}{w:Wo}{K K':Act->World->Prop}(hi:L[i]?=F[i]?)(hg:∀o,F[i]?=some o->∀g b,o.guard=some (g,b)->L[g]?=F[g]?)(h:∀a w,K a w->K' a w)(hh:wpOp P F.toArray (lK P L.toArray oN Q) i K a w):wpOp P L.toArray Q i K' a w:=by
 unfold wpOp at *;rw[List.getElem?_toArray] at *;rw[hi];cases ho:F[i]? with
 | none=>rw[ho] at hh;exact h _ _ hh
 | some o=>
  rw[ho] at hh;simp only at hh ⊢;have hw:Region.wanted o (yielded L.toArray a.tmps)=Region.wanted o (yielded F.toArray a.tmps):=by
   unfold Region.wanted;cases AK:o.guard with
   | none=>rfl
   | some gb=>
    obtain⟨g,b⟩:=gb;simp only;unfold yielded;rw[List.getElem?_toArray,List.getElem?_toArray,hg o ho g b AK]
  rw[hw];split
  ·rename_i h1
   rw[if_pos h1] at hh;exact hh.imp (aDR h) id
  ·rename_i h1
   rw[if_neg h1] at hh;exact h _ _ hh
theorem mH(h:rS md L n=true):L.length=n+1/\
    (∀j o,L[j]?=some o->(∀e∈o.after,Region.binds md e=true->e.on<j)/\∀g b,o.guard=some (g,b)->g<n)/\
    (∀j,j<n->∃k o e,j<k/\L[k]?=some o/\e∈o.after/\Region.binds md e=true/\e.on=j):=by
 unfold rS at h;simp only[Bool.and_eq_true,decide_eq_true_eq,List.all_eq_true,List.mem_range,List.any_eq_true] at h;obtain⟨⟨h1,h2⟩,h3⟩:=h;refine⟨h1,fun j o ho=>?_,fun j hj=>?_⟩
 ·have hj:j<n+1:=by rw[<-h1];exact(dH.1 ho).1
  have:=h2 j hj;rw[ho] at this;simp only[Bool.and_eq_true,Array.all_eq_true_iff_forall_mem,Bool.or_eq_true,Bool.not_eq_true',decide_eq_true_eq] at this;refine⟨fun e he hb=>(this.1 e he).resolve_left (by simp[hb]),fun g b hg=>?_⟩;have h4:=this.2;rw[hg] at h4;simpa using h4
 ·obtain⟨k,hk,hjk,h4⟩:=h3 j hj
  cases ho:L[k]? with
  | none=>rw[ho] at h4;cases h4
  | some o=>
   rw[ho] at h4;simp only[Array.any_eq_true'] at h4;obtain⟨e,he,h5⟩:=h4;simp only[Bool.and_eq_true,beq_iff_eq] at h5;exact⟨k,o,e,hjk,ho,he,h5.1,h5.2⟩
def nF(md:Region.Mode)(F:List Oper)(listed:Array Bool):Prop:=∀(j:Nat)(o:Oper),F[j]?=some o->listed.getD j false=true->∀e∈o.after,Region.binds md e=true->listed.getD e.on false=true
theorem pR{l:Array Bool}(h:j<l.size):l.getD j true=l.getD j false:=by simp[h]
theorem YG{L:List Oper}{n:Nat}{oN:Oper}{listed:Array Bool}(hs:rS md L n=true)(hN:L[n]?=some oN)(iV:listed.size=n)(hc:nF md (L.take n) listed)(hr:∀e∈oN.after,Region.binds md e=true->(listed.push false).getD e.on false=true):∀d j,j+d=n->0<d->listed.getD j false=true:=by
 obtain⟨h1,h2,h3⟩:=mH hs;intro d
 induction d using Nat.strongRecOn with
 | _ d ih=>
  intro j hj hd;obtain⟨k,o,e,hjk,hk,he,hb,hej⟩:=h3 j (by omega);have hkl:k<n+1:=by rw[<-h1];exact(dH.1 hk).1
  by_cases rJ:k=n
  ·subst rJ
   rw[hN] at hk;injection hk with hk;subst hk;have:=hr e he hb;rw[hej] at this;rwa[Array.getD_eq_getD_getElem?,Array.getElem?_push_lt (by omega),<-Array.getElem?_eq_getElem (by omega),<-Array.getD_eq_getD_getElem?] at this
  ·have hl:=ih (n-k) (by omega) k (by omega) (by omega)
   have:=hc k o (by rw[List.getElem?_take_of_lt (by omega)];exact hk) hl e he hb;rwa[hej] at this
theorem m7{l:Array Bool}(hi:i<l.size):(l.push false).setIfInBounds i true=(l.setIfInBounds i true).push false:=by
 apply Array.ext
 ·simp
 ·intro j h1 h2
  simp only[Array.size_setIfInBounds,Array.size_push] at h1;rw[Array.getElem_setIfInBounds (by simpa using h1),Array.getElem_push];by_cases tE:i=j
  ·subst tE
   rw[if_pos rfl,Array.getElem_push];simp only[Array.size_setIfInBounds,hi,dif_pos,Array.getElem_setIfInBounds,if_true]
  ·simp only[tE,if_false]
   rw[Array.getElem_push];simp only[Array.size_setIfInBounds];split
   ·rename_i h3
    rw[Array.getElem_setIfInBounds (by simpa using h3),if_neg tE]
   ·rfl
theorem iP{l:Array Bool}(hj:j<l.size)(d:Bool):(l.push false).getD j d=l.getD j d:=by
 rw[Array.getD_eq_getD_getElem?,Array.getElem?_push_lt hj,<-Array.getElem?_eq_getElem hj,<-Array.getD_eq_getD_getElem?]
theorem aGo{l:Array Bool}(h:l.getD j false=true):j<l.size:=by
 rcases Nat.lt_or_ge j l.size with h' | h'
 ·exact h'
 ·simp[Array.getElem?_eq_none h'] at h
theorem FL{listed:Array Bool}(hs:rS md L n=true)(iV:listed.size=n)(hi:i<n):i∈Region.ready md L.toArray (listed.push false)<->i∈Region.ready md (L.take n).toArray listed:=by
 obtain⟨h1,h2,h3⟩:=mH hs;rw[mem_ready,mem_ready,List.getElem?_toArray,List.getElem?_toArray,List.getElem?_take_of_lt hi,iP (by omega)];refine and_congr Iff.rfl ⟨?_,?_⟩
 ·rintro⟨o,ho,h⟩
  exact⟨o,ho,fun e he hb=>by rw[<-iP (by have:=(h2 i o ho).1 e he hb;omega)];exact h e he hb⟩
 ·rintro⟨o,ho,h⟩
  exact⟨o,ho,fun e he hb=>by rw[iP (by have:=(h2 i o ho).1 e he hb;omega)];exact h e he hb⟩
theorem J_{F:List Oper}{listed:Array Bool}(hc:nF md F listed)(hr:i∈Region.ready md F.toArray listed):nF md F (listed.setIfInBounds i true):=by
 intro j o ho hj e he hb;by_cases tE:i=j
 ·subst tE
  obtain⟨_,o',UX,EO⟩:=mem_ready.1 hr;rw[List.getElem?_toArray,ho] at UX;injection UX with UX;subst UX;exact getD_set_true (EO e he hb)
 ·rw[getD_set_ne false tE] at hj
  exact getD_set_true (hc j o ho hj e he hb)
theorem FV{listed:Array Bool}(h1:L.length=n+1)(iV:listed.size=n)(EO:∀j,j<n->listed.getD j false=true):Region.ready md L.toArray ((listed.push false).setIfInBounds n true)=[]:=by
 rw[List.eq_nil_iff_forall_not_mem];intro j hj;obtain⟨h0,o,ho,_⟩:=mem_ready.1 hj;rw[List.getElem?_toArray] at ho;have oP:=(dH.1 ho).1;by_cases rE:n=j
 ·subst rE
  simp[iV] at h0
 ·rw[getD_set_ne true rE,iP (by omega),pR (by omega),EO j (by omega)] at h0
  cases h0
theorem kD{oN:Oper}(hs:rS md L n=true)(hN:L[n]?=some oN):∀(fuel:Nat)(listed:Array Bool)(a:Act)(w:Wo),listed.size=n->nF md (L.take n) listed->
    wpAny P md (L.take n).toArray (lK P L.toArray oN Q) fuel listed a w->wpAny P md L.toArray Q (fuel+1) (listed.push false) a w:=by
 obtain⟨h1,h2,h3⟩:=mH hs;have key:∀(fuel:Nat)(listed:Array Bool)(a:Act)(w:Wo),listed.size=n->nF md (L.take n) listed->Region.ready md (L.take n).toArray listed=[]->lK P L.toArray oN Q .normal a w->wpAny P md L.toArray Q (fuel+1) (listed.push false) a w:=by
  intro fuel listed a w iV hc hr hq;have EO:∀m j,j<m->j<n->listed.getD j false=true:=by
   intro m
   induction m with
   | zero=>intro j hj;omega
   | succ m ih=>
    intro j hj rE;cases hl:listed.getD j false with
    | true=>rfl
    | false=>
     exfalso;have oP:j<L.length:=by omega
     have XK:j∈Region.ready md (L.take n).toArray listed:=by
      rw[mem_ready,List.getElem?_toArray,List.getElem?_take_of_lt rE,pR (by omega),hl];refine⟨rfl,L[j],iB oP,fun e he hb=>ih _ ?_ ?_⟩
      ·have:=(h2 j _ (iB oP)).1 e he hb;omega
      ·have:=(h2 j _ (iB oP)).1 e he hb;omega
     rw[hr] at XK;cases XK
  have JW:=fun j hj=>EO n j hj hj;have hnr:n∈Region.ready md L.toArray (listed.push false):=by
   rw[mem_ready,List.getElem?_toArray];refine⟨by simp[<-iV],oN,hN,fun e he hb=>?_⟩;have:=(h2 n oN hN).1 e he hb;rw[iP (by omega)];exact JW _ this
  refine⟨fun h0=>by rw[h0] at hnr;exact absurd hnr (by simp),fun j hj=>?_⟩;have rE:j=n:=by
   obtain⟨h0,o,ho,_⟩:=mem_ready.1 hj;rw[List.getElem?_toArray] at ho;have oP:=(dH.1 ho).1;refine Decidable.byContradiction fun bX=>?_;rw[iP (by omega),pR (by omega),JW j (by omega)] at h0;cases h0
  subst rE;unfold wpOp;rw[List.getElem?_toArray,hN];simp only;have hd:=FV (md:=md) h1 iV JW;unfold lK at hq;dsimp only at hq;split
  ·rename_i hw
   rw[if_pos hw] at hq;exact .inl (Oper.wp_mono (fun a' w' h=>wpAny_done hd h fuel) hq)
  ·rename_i hw
   rw[if_neg hw] at hq;exact wpAny_done hd hq fuel
 intro fuel
 induction fuel with
 | zero=>intro listed a w iV hc h;exact key 0 listed a w iV hc h.1 h.2
 | succ fuel ih=>
  intro listed a w iV hc h;by_cases hr:Region.ready md (L.take n).toArray listed=[]
  ·exact key (fuel+1) listed a w iV hc hr (h.1 hr)
  ·have G_:n∉Region.ready md L.toArray (listed.push false):=by
    intro hn;obtain⟨_,o,ho,EO⟩:=mem_ready.1 hn;rw[List.getElem?_toArray,hN] at ho;injection ho with ho;subst ho;have hl:=YG hs hN iV hc EO;apply hr;rw[List.eq_nil_iff_forall_not_mem];intro j hj;obtain⟨h0,o,ho,_⟩:=mem_ready.1 hj;rw[List.getElem?_toArray] at ho;have oP:=(dH.1 ho).1;have rE:j<n:=by simp at oP;omega
    have:=hl (n-j) j (by omega) (by omega);rw[pR (by omega),this] at h0;cases h0
   have aU:∀j,j∈Region.ready md L.toArray (listed.push false)->j<n:=fun j hj=>by
    obtain⟨_,o,ho,_⟩:=mem_ready.1 hj;rw[List.getElem?_toArray] at ho;have:=(dH.1 ho).1;have bX:j≠n:=fun e=>G_ (e▸hj);omega
   refine⟨fun h0=>?_,fun j hj=>?_⟩
   ·exfalso
    obtain⟨j,hj⟩:=List.exists_mem_of_ne_nil _ hr;have rE:j<n:=by
     obtain⟨_,o,ho,_⟩:=mem_ready.1 hj;rw[List.getElem?_toArray] at ho;have:=(dH.1 ho).1;simp at this;omega
    have:=(FL hs iV rE).2 hj;rw[h0] at this;cases this
   ·have rE:=aU j hj
    have hjr:=(FL hs iV rE).1 hj;refine IO (L:=L) (F:=L.take n) (by rw[List.getElem?_take_of_lt rE]) (fun o ho g b hg=>?_) (fun a' w' hh=>?_) (h.2 j hjr)
    ·rw[List.getElem?_take_of_lt rE] at ho
     rw[List.getElem?_take_of_lt ((h2 j o ho).2 g b hg)]
    ·rw[m7 (by omega)]
     exact ih _ a' w' (by simpa using iV) (J_ hc hjr) hh
theorem bZ{S:World->Prop}{id:Nat}{a:Act}{w:Wo}{L:List Oper}(n:Nat)(oN:Oper)(hm:P.follows .mixedOrders=true)(hs:rS .any L n=true)(hN:L[n]?=some oN)(hS:S w.drew)(h:S w.drew->wpAnyH P .any (L.take n).toArray (lK P L.toArray oN Q) S n (Array.replicate n false) a w.drew):(Code.region id L.toArray true).wp P Q a w:=by
 obtain⟨h1,h2,h3⟩:=mH hs;refine wp_region_any hm ?_;rw[show L.toArray.size=n+1 from by simpa using h1,Array.replicate_succ];refine kD hs hN n _ a _ (by simp) (fun j o ho hj=>?_) (wpAny_of_held _ _ _ _ (h hS));rcases Nat.lt_or_ge j n with h' | h'<;>simp[h'] at hj
def BG(md:Region.Mode)(ops:Array Oper)(listed:Array Bool)(i:Nat):Bool:=Region.noSelect ops && Region.free md ops listed i && (Region.ready md ops listed).contains i
theorem aLe{L:List Oper}{S:World->Prop}(i:Nat){oi:Oper}{v:Value}{fuel:Nat}{listed:Array Bool}{a:Act}{w:Wo}(hi:L[i]?=some oi)(hB:BG md L.toArray listed i=true)(hQ:∀c a w,Q (.panic c) (a.put oi.dst v) w->Q (.panic c) a w)(hw:Region.wanted oi (yielded L.toArray a.tmps)=true)(hy:∀w,S w->(execOp a.eval oi).run P w=.ok (.value v) w)(hS:S w)(h:wpAnyH P md L.toArray Q S fuel (listed.setIfInBounds i true) (a.put oi.dst v) w):wpAnyH P md L.toArray Q S (fuel+1) listed a w:=by
 unfold BG at hB;rw[Bool.and_eq_true,Bool.and_eq_true] at hB;exact wpAnyH_take (by rw[List.getElem?_toArray];exact hi) hB.1.1 hB.1.2 hB.2 hQ (.inl ⟨hw,hy⟩) hS h
theorem aRn{L:List Oper}{S:World->Prop}(i:Nat){o:Oper}{fuel:Nat}{listed:Array Bool}{a:Act}{w:Wo}(hr:Region.ready md L.toArray listed=[i])(ho:L[i]?=some o)(h:∀K':Act->World->Prop,Shut (∀a w,S w->(S w->wpAnyH P md L.toArray Q S fuel (listed.setIfInBounds i true) a w)->K' a w)->if Region.wanted o (yielded L.toArray a.tmps)=true then Oper.wp P o a w K' Q else K' (a.put o.dst undef) w):wpAnyH P md L.toArray Q S (fuel+1) listed a w:=
 wpAnyH_ready hr (by simp) (AllReadyH.cons (by rw[List.getElem?_toArray];exact ho) h AllReadyH.nil)
theorem dK(hw:Region.wanted o (yielded ops a.tmps)=true)(h:Oper.wp P o a w (Q .normal) Q):lK P ops o Q .normal a w:=by
 unfold lK;dsimp only;rw[if_pos hw];exact h
end
end
end Go.Proofs.YthgdchffeigkbaaGreatDoor
namespace Go.Proofs
variable {L : List Oper} {a : Act} {i j k n : Nat} {o : Oper} {ops : Array Oper} {w w' : World}
open Go.Shelf
def Tryz.lays169_ren:Go.Shelf.Ren:=⟨fun | 169=>153 | n=>n,fun | 70=>230 | 9=>9 | 0=>0 | 72=>233 | 37=>231 | 127=>252 | 3=>3 | 5=>5 | n=>n,fun | n=>n⟩
theorem Tryz.lays169:Go.Proofs.Lays.n169 Tryz.prog Tryz.lays169_ren:={
 mixed:=by kernel_rfl
 f169:=Tryz.func153.trans (congrArg some (by kernel_rfl))
 t0:=Tryz.underlying0
 a0:=Tryz.isAgg0
 z0:=Tryz.sizeOf0
 v0:=Tryz.zeroValue0
 t3:=Tryz.underlying3
 a3:=Tryz.isAgg3
 z3:=Tryz.sizeOf3
 v3:=Tryz.zeroValue3
 t9:=Tryz.underlying9
 a9:=Tryz.isAgg9
 z9:=Tryz.sizeOf9
 v9:=Tryz.zeroValue9
 t37:=Tryz.underlying231
 a37:=Tryz.isAgg231
 z37:=Tryz.sizeOf231
 v37:=Tryz.zeroValue231
 t70:=Tryz.underlying230
 a70:=Tryz.isAgg230
 z70:=Tryz.sizeOf230
 v70:=Tryz.zeroValue230
 t72:=Tryz.underlying233
 a72:=Tryz.isAgg233
 z72:=Tryz.sizeOf233
 v72:=Tryz.zeroValue233
 t127:=Tryz.underlying252
 a127:=Tryz.isAgg252
 z127:=Tryz.sizeOf252
 v127:=Tryz.zeroValue252 }
theorem Tryz.Builder_Extra_169:Builder.Extra Tryz.prog Tryz.lays169_ren:={
 sizeBuilder:=by kernel_rfl
 liesBuilder:=by kernel_rfl
 t5:=Tryz.underlying5
 a5:=Tryz.isAgg5
 z5:=Tryz.sizeOf5
 v5:=Tryz.zeroValue5
 infoByte:=by kernel_rfl
 cellsByte:=by kernel_rfl
 sizeByte:=by kernel_rfl
 neB5:=by decide }
open Go.RowKit in
theorem Tryz.Builder_String(B b:Nat)(l:List UInt8)(w:Wo)(h:Lib.IsBuilder 233 5 B b (Lib.byteCells l) w)(h0:l≠[]):Calls Tryz.prog 153 #[.pointer (some ⟨b,0,none⟩)] w fun e w'=>e=.returned (.string ⟨l.toArray⟩)/\Below B w w':=Any.Builder_String Tryz.lays169 Tryz.Builder_Extra_169 B b l w h h0
def Tryz.lays128_ren:Go.Shelf.Ren:=⟨fun | 128=>201 | n=>n,fun | 51=>216 | 3=>3 | 4=>4 | 46=>217 | 5=>5 | 9=>9 | n=>n,fun | n=>n⟩
def Tryz.lays133_ren:Go.Shelf.Ren:=⟨fun | 133=>189 | 128=>201 | n=>n,fun | 51=>216 | 3=>3 | 4=>4 | 46=>217 | 5=>5 | 9=>9 | n=>n,fun | n=>n⟩
theorem Tryz.lays133:Go.Proofs.Lays.n133 Tryz.prog Tryz.lays133_ren:={
 mixed:=by kernel_rfl
 f128:=Tryz.func201.trans (congrArg some (by kernel_rfl))
 f133:=Tryz.func189.trans (congrArg some (by kernel_rfl))
 t3:=Tryz.underlying3
 a3:=Tryz.isAgg3
 z3:=Tryz.sizeOf3
 v3:=Tryz.zeroValue3
 t4:=Tryz.underlying4
 a4:=Tryz.isAgg4
 z4:=Tryz.sizeOf4
 v4:=Tryz.zeroValue4
 t5:=Tryz.underlying5
 a5:=Tryz.isAgg5
 z5:=Tryz.sizeOf5
 v5:=Tryz.zeroValue5
 t9:=Tryz.underlying9
 a9:=Tryz.isAgg9
 z9:=Tryz.sizeOf9
 v9:=Tryz.zeroValue9
 t46:=Tryz.underlying217
 a46:=Tryz.isAgg217
 z46:=Tryz.sizeOf217
 v46:=Tryz.zeroValue217
 t51:=Tryz.underlying216
 a51:=Tryz.isAgg216
 z51:=Tryz.sizeOf216
 v51:=Tryz.zeroValue216 }
theorem Tryz.bits_LeadingZeros32(x:Int)(w:Wo)(h0:0<=x)(h1:x<=4294967295):Calls Tryz.prog 189 #[.int .u32 x] w fun e w'=>e=.returned (.int .i64 (32-(Lib.bitLen x.toNat:Int)))/\w'=w:=Any.bits_LeadingZeros32 Tryz.lays133 x w h0 h1
def Tryz.lays283_ren:Go.Shelf.Ren:=⟨fun | 283=>173 | n=>n,fun | 3=>3 | 9=>9 | 4=>4 | n=>n,fun | n=>n⟩
theorem Tryz.lays283:Go.Proofs.Lays.n283 Tryz.prog Tryz.lays283_ren:={
 mixed:=by kernel_rfl
 f283:=Tryz.func173.trans (congrArg some (by kernel_rfl))
 t3:=Tryz.underlying3
 a3:=Tryz.isAgg3
 z3:=Tryz.sizeOf3
 v3:=Tryz.zeroValue3
 t4:=Tryz.underlying4
 a4:=Tryz.isAgg4
 z4:=Tryz.sizeOf4
 v4:=Tryz.zeroValue4
 t9:=Tryz.underlying9
 a9:=Tryz.isAgg9
 z9:=Tryz.sizeOf9
 v9:=Tryz.zeroValue9 }
open Go.Lib in
theorem Tryz.internal_strconv_small(i:Nat)(h:i<100)(w:Wo):Calls Tryz.prog 173 #[.int .i64 i] w fun e w'=>e=.returned (.string ⟨(Lib.decDigits i).toArray⟩)/\w'=w:=Any.internal_strconv_small Tryz.lays283 i h w
def Tryz.laysM284_ren:Go.Shelf.Ren:=⟨fun | 284=>174 | 129=>193 | 317=>192 | 318=>194 | n=>n,fun | 53=>214 | 3=>3 | 212=>274 | 0=>0 | 4=>4 | 46=>217 | 5=>5 | 9=>9 | n=>n,fun | 17=>1 | n=>n⟩
theorem Tryz.laysM284:Go.Proofs.LaysM.n284 Tryz.prog Tryz.laysM284_ren:={
 mixed:=by kernel_rfl
 f129:=Tryz.func193.trans (congrArg some (by kernel_rfl))
 f284:=Tryz.func174.trans (congrArg some (by kernel_rfl))
 f317:=Tryz.func192.trans (congrArg some (by kernel_rfl))
 f318:=Tryz.func194.trans (congrArg some (by kernel_rfl))
 t0:=Tryz.underlying0
 a0:=Tryz.isAgg0
 z0:=Tryz.sizeOf0
 v0:=Tryz.zeroValue0
 t3:=Tryz.underlying3
 a3:=Tryz.isAgg3
 z3:=Tryz.sizeOf3
 v3:=Tryz.zeroValue3
 t4:=Tryz.underlying4
 a4:=Tryz.isAgg4
 z4:=Tryz.sizeOf4
 v4:=Tryz.zeroValue4
 t5:=Tryz.underlying5
 a5:=Tryz.isAgg5
 z5:=Tryz.sizeOf5
 v5:=Tryz.zeroValue5
 t9:=Tryz.underlying9
 a9:=Tryz.isAgg9
 z9:=Tryz.sizeOf9
 v9:=Tryz.zeroValue9
 t46:=Tryz.underlying217
 a46:=Tryz.isAgg217
 z46:=Tryz.sizeOf217
 v46:=Tryz.zeroValue217
 t53:=Tryz.underlying214
 a53:=Tryz.isAgg214
 z53:=Tryz.sizeOf214
 v53:=Tryz.zeroValue214
 t212:=Tryz.underlying274
 a212:=Tryz.isAgg274
 z212:=Tryz.sizeOf274
 v212:=Tryz.zeroValue274
 g17:=by kernel_rfl
 i0:=by kernel_rfl
 i3:=by kernel_rfl
 i4:=by kernel_rfl
 i5:=by kernel_rfl
 i9:=by kernel_rfl
 i46:=by kernel_rfl
 i53:=by kernel_rfl
 i212:=by kernel_rfl
 m17:=by kernel_rfl }
open Go.Lib in
theorem Tryz.internal_strconv_numDigits (u : Nat) (h1 : 1 <= u) (h2 : u < 18446744073709551616) (w : World) (aXl : Lib.TabIs Tryz.prog w "internal/strconv.uint64pow10" .u64 Lib.pow10Tab) :Calls Tryz.prog 174 #[.int .u64 u] w fun e w'=>e=.returned (.int .i64 (Lib.nDigits u))/\w'=w:=Any.internal_strconv_numDigits Tryz.laysM284 u h1 h2 w aXl
def Tryz.lays285_ren:Go.Shelf.Ren:=⟨fun | 285=>175 | n=>n,fun | 37=>231 | 53=>214 | 3=>3 | 4=>4 | 51=>216 | 9=>9 | 5=>5 | 0=>0 | n=>n,fun | n=>n⟩
theorem Tryz.lays285:Go.Proofs.Lays.n285 Tryz.prog Tryz.lays285_ren:={
 mixed:=by kernel_rfl
 f285:=Tryz.func175.trans (congrArg some (by kernel_rfl))
 t0:=Tryz.underlying0
 a0:=Tryz.isAgg0
 z0:=Tryz.sizeOf0
 v0:=Tryz.zeroValue0
 t3:=Tryz.underlying3
 a3:=Tryz.isAgg3
 z3:=Tryz.sizeOf3
 v3:=Tryz.zeroValue3
 t4:=Tryz.underlying4
 a4:=Tryz.isAgg4
 z4:=Tryz.sizeOf4
 v4:=Tryz.zeroValue4
 t5:=Tryz.underlying5
 a5:=Tryz.isAgg5
 z5:=Tryz.sizeOf5
 v5:=Tryz.zeroValue5
 t9:=Tryz.underlying9
 a9:=Tryz.isAgg9
 z9:=Tryz.sizeOf9
 v9:=Tryz.zeroValue9
 t37:=Tryz.underlying231
 a37:=Tryz.isAgg231
 z37:=Tryz.sizeOf231
 v37:=Tryz.zeroValue231
 t51:=Tryz.underlying216
 a51:=Tryz.isAgg216
 z51:=Tryz.sizeOf216
 v51:=Tryz.zeroValue216
 t53:=Tryz.underlying214
 a53:=Tryz.isAgg214
 z53:=Tryz.sizeOf214
 v53:=Tryz.zeroValue214 }
open Go.RowKit Go.Sort Go.Lib in
theorem Tryz.internal_strconv_formatBase10(blk off cap:Nat)(u:Nat)(d:Array UInt8)(w:Wo)(hH:Holds (fun(b:UInt8)=>Value.int .u8 (b.toNat:Int)) w blk off d)(hu:u<10^d.size)(XE:u<18446744073709551616)(iV:d.size<4611686018427387904):Calls Tryz.prog 175 #[.slice (some ⟨blk,off,none⟩) d.size cap,.int .u64 u] w fun e w'=>
     e=.returned (.tuple #[])/\∃(n v':Nat)(dk:Array UInt8),w'=(putRow (fun(b:UInt8)=>Value.int .u8 (b.toNat:Int)) w blk off dk).drewN n/\FmtInv d.size u 0 v' dk:=Any.internal_strconv_formatBase10 Tryz.lays285 blk off cap u d w hH hu XE iV
def Tryz.laysPu14_ren:Go.Shelf.Ren:=⟨fun | 14=>144 | 16=>166 | 17=>167 | 19=>183 | 20=>184 | 21=>185 | 22=>186 | 23=>187 | 24=>188 | 25=>199 | 27=>87 | 26=>200 | 28=>126 | 29=>157 | 30=>173 | 31=>174 | 32=>175 | 33=>176 | 35=>193 | 34=>192 | 36=>194 | 37=>195 | 38=>196 | 39=>202 | 40=>203 | n=>n,fun | 9=>9 | 3=>3 | 22=>214 | 24=>220 | 25=>221 | 4=>4 | 34=>264 | 5=>5 | 36=>217 | 37=>231 | 0=>0 | 39=>266 | 21=>21 | 44=>280 | 47=>252 | 50=>284 | 48=>282 | 2=>2 | 52=>253 | 55=>256 | 59=>274 | 60=>216 | 20=>20 | 61=>275 | 65=>285 | 66=>286 | 67=>237 | n=>n,fun | 0=>2 | 1=>3 | 2=>1 | 3=>4 | 4=>5 | n=>n⟩
theorem Tryz.laysPu14:Go.Proofs.LaysPu.n14 Tryz.prog Tryz.laysPu14_ren:={
 mixed:=by kernel_rfl
 f14:=Tryz.func144.trans (congrArg some (by kernel_rfl))
 f16:=Tryz.func166.trans (congrArg some (by kernel_rfl))
 f17:=Tryz.func167.trans (congrArg some (by kernel_rfl))
 f19:=Tryz.func183.trans (congrArg some (by kernel_rfl))
 f20:=Tryz.func184.trans (congrArg some (by kernel_rfl))
 f21:=Tryz.func185.trans (congrArg some (by kernel_rfl))
 f22:=Tryz.func186.trans (congrArg some (by kernel_rfl))
 f23:=Tryz.func187.trans (congrArg some (by kernel_rfl))
 f24:=Tryz.func188.trans (congrArg some (by kernel_rfl))
 f25:=Tryz.func199.trans (congrArg some (by kernel_rfl))
 f26:=Tryz.func200.trans (congrArg some (by kernel_rfl))
 f27:=Tryz.func87.trans (congrArg some (by kernel_rfl))
 f28:=Tryz.func126.trans (congrArg some (by kernel_rfl))
 f29:=Tryz.func157.trans (congrArg some (by kernel_rfl))
 f30:=Tryz.func173.trans (congrArg some (by kernel_rfl))
 f31:=Tryz.func174.trans (congrArg some (by kernel_rfl))
 f32:=Tryz.func175.trans (congrArg some (by kernel_rfl))
 f33:=Tryz.func176.trans (congrArg some (by kernel_rfl))
 f34:=Tryz.func192.trans (congrArg some (by kernel_rfl))
 f35:=Tryz.func193.trans (congrArg some (by kernel_rfl))
 f36:=Tryz.func194.trans (congrArg some (by kernel_rfl))
 f37:=Tryz.func195.trans (congrArg some (by kernel_rfl))
 f38:=Tryz.func196.trans (congrArg some (by kernel_rfl))
 f39:=Tryz.func202.trans (congrArg some (by kernel_rfl))
 f40:=Tryz.func203.trans (congrArg some (by kernel_rfl))
 t0:=Tryz.underlying0
 a0:=Tryz.isAgg0
 z0:=Tryz.sizeOf0
 v0:=Tryz.zeroValue0
 i0:=by kernel_rfl
 t2:=Tryz.underlying2
 a2:=Tryz.isAgg2
 z2:=Tryz.sizeOf2
 v2:=Tryz.zeroValue2
 i2:=by kernel_rfl
 t3:=Tryz.underlying3
 a3:=Tryz.isAgg3
 z3:=Tryz.sizeOf3
 v3:=Tryz.zeroValue3
 i3:=by kernel_rfl
 t4:=Tryz.underlying4
 a4:=Tryz.isAgg4
 z4:=Tryz.sizeOf4
 v4:=Tryz.zeroValue4
 i4:=by kernel_rfl
 t5:=Tryz.underlying5
 a5:=Tryz.isAgg5
 z5:=Tryz.sizeOf5
 v5:=Tryz.zeroValue5
 i5:=by kernel_rfl
 t9:=Tryz.underlying9
 a9:=Tryz.isAgg9
 z9:=Tryz.sizeOf9
 v9:=Tryz.zeroValue9
 i9:=by kernel_rfl
 t20:=Tryz.underlying20
 a20:=Tryz.isAgg20
 z20:=Tryz.sizeOf20
 v20:=Tryz.zeroValue20
 i20:=by kernel_rfl
 t21:=Tryz.underlying21
 a21:=Tryz.isAgg21
 z21:=Tryz.sizeOf21
 v21:=Tryz.zeroValue21
 i21:=by kernel_rfl
 t22:=Tryz.underlying214
 a22:=Tryz.isAgg214
 z22:=Tryz.sizeOf214
 v22:=Tryz.zeroValue214
 i22:=by kernel_rfl
 t24:=Tryz.underlying220
 a24:=Tryz.isAgg220
 z24:=Tryz.sizeOf220
 v24:=Tryz.zeroValue220
 i24:=by kernel_rfl
 t25:=Tryz.underlying221
 a25:=Tryz.isAgg221
 z25:=Tryz.sizeOf221
 v25:=Tryz.zeroValue221
 i25:=by kernel_rfl
 t34:=Tryz.underlying264
 a34:=Tryz.isAgg264
 z34:=Tryz.sizeOf264
 v34:=Tryz.zeroValue264
 i34:=by kernel_rfl
 c34:=by kernel_rfl
 t36:=Tryz.underlying217
 a36:=Tryz.isAgg217
 z36:=Tryz.sizeOf217
 v36:=Tryz.zeroValue217
 i36:=by kernel_rfl
 t37:=Tryz.underlying231
 a37:=Tryz.isAgg231
 z37:=Tryz.sizeOf231
 v37:=Tryz.zeroValue231
 i37:=by kernel_rfl
 t39:=Tryz.underlying266
 a39:=Tryz.isAgg266
 z39:=Tryz.sizeOf266
 v39:=Tryz.zeroValue266
 i39:=by kernel_rfl
 t44:=Tryz.underlying280
 a44:=Tryz.isAgg280
 z44:=Tryz.sizeOf280
 v44:=Tryz.zeroValue280
 i44:=by kernel_rfl
 t47:=Tryz.underlying252
 a47:=Tryz.isAgg252
 z47:=Tryz.sizeOf252
 v47:=Tryz.zeroValue252
 i47:=by kernel_rfl
 t48:=Tryz.underlying282
 a48:=Tryz.isAgg282
 z48:=Tryz.sizeOf282
 v48:=Tryz.zeroValue282
 i48:=by kernel_rfl
 t50:=Tryz.underlying284
 a50:=Tryz.isAgg284
 z50:=Tryz.sizeOf284
 v50:=Tryz.zeroValue284
 i50:=by kernel_rfl
 t52:=Tryz.underlying253
 a52:=Tryz.isAgg253
 z52:=Tryz.sizeOf253
 v52:=Tryz.zeroValue253
 i52:=by kernel_rfl
 t55:=Tryz.underlying256
 a55:=Tryz.isAgg256
 z55:=Tryz.sizeOf256
 v55:=Tryz.zeroValue256
 i55:=by kernel_rfl
 t59:=Tryz.underlying274
 a59:=Tryz.isAgg274
 z59:=Tryz.sizeOf274
 v59:=Tryz.zeroValue274
 i59:=by kernel_rfl
 t60:=Tryz.underlying216
 a60:=Tryz.isAgg216
 z60:=Tryz.sizeOf216
 v60:=Tryz.zeroValue216
 i60:=by kernel_rfl
 t61:=Tryz.underlying275
 a61:=Tryz.isAgg275
 z61:=Tryz.sizeOf275
 t65:=Tryz.underlying285
 a65:=Tryz.isAgg285
 z65:=Tryz.sizeOf285
 v65:=Tryz.zeroValue285
 i65:=by kernel_rfl
 t66:=Tryz.underlying286
 a66:=Tryz.isAgg286
 z66:=Tryz.sizeOf286
 v66:=Tryz.zeroValue286
 i66:=by kernel_rfl
 t67:=Tryz.underlying237
 a67:=Tryz.isAgg237
 z67:=Tryz.sizeOf237
 v67:=Tryz.zeroValue237
 i67:=by kernel_rfl
 g0:=by kernel_rfl
 m0:=by kernel_rfl
 g1:=by kernel_rfl
 m1:=by kernel_rfl
 g2:=by kernel_rfl
 m2:=by kernel_rfl
 g3:=by kernel_rfl
 m3:=by kernel_rfl
 g4:=by kernel_rfl
 m4:=by kernel_rfl }
open Go.RowKit in
theorem Tryz.strconv_ParseUint_10_at32_ok(s:ByteArray)(aXR:s.size<=9223372036854775806)(u:Nat)(h:Lib.parseUintB 32 s.data.toList=.ok u)(w:Wo):Calls Tryz.prog 144 #[.string s,.int .i64 10,.int .i64 32] w fun e w'=>e=.returned (.tuple #[.int .u64 u,.nilIface])/\(w'=w\/w'=Lib.bytesWorld w 5 s):=Any.strconv_ParseUint_10_at32_ok Tryz.laysPu14 s aXR u h w
def Tryz.lays219_ren:Go.Shelf.Ren:=⟨fun | 219=>164 | 217=>179 | 225=>180 | 224=>181 | 267=>182 | 266=>197 | 314=>198 | n=>n,fun | 9=>9 | 3=>3 | 4=>4 | 5=>5 | 46=>217 | 146=>259 | 51=>216 | n=>n,fun | 1=>0 | n=>n⟩
theorem Tryz.lays219:Go.Proofs.Lays.n219 Tryz.prog Tryz.lays219_ren:={
 mixed:=by kernel_rfl
 f217:=Tryz.func179.trans (congrArg some (by kernel_rfl))
 f219:=Tryz.func164.trans (congrArg some (by kernel_rfl))
 f224:=Tryz.func181.trans (congrArg some (by kernel_rfl))
 f225:=Tryz.func180.trans (congrArg some (by kernel_rfl))
 f266:=Tryz.func197.trans (congrArg some (by kernel_rfl))
 f267:=Tryz.func182.trans (congrArg some (by kernel_rfl))
 f314:=Tryz.func198.trans (congrArg some (by kernel_rfl))
 t3:=Tryz.underlying3
 a3:=Tryz.isAgg3
 z3:=Tryz.sizeOf3
 v3:=Tryz.zeroValue3
 t4:=Tryz.underlying4
 a4:=Tryz.isAgg4
 z4:=Tryz.sizeOf4
 v4:=Tryz.zeroValue4
 t5:=Tryz.underlying5
 a5:=Tryz.isAgg5
 z5:=Tryz.sizeOf5
 v5:=Tryz.zeroValue5
 t9:=Tryz.underlying9
 a9:=Tryz.isAgg9
 z9:=Tryz.sizeOf9
 v9:=Tryz.zeroValue9
 t46:=Tryz.underlying217
 a46:=Tryz.isAgg217
 z46:=Tryz.sizeOf217
 v46:=Tryz.zeroValue217
 t51:=Tryz.underlying216
 a51:=Tryz.isAgg216
 z51:=Tryz.sizeOf216
 v51:=Tryz.zeroValue216
 t146:=Tryz.underlying259
 a146:=Tryz.isAgg259
 z146:=Tryz.sizeOf259
 v146:=Tryz.zeroValue259
 g1:=by kernel_rfl }
open Go.RowKit Go.Lib in
theorem Tryz.stringslite_Index_one(s:ByteArray)(c:UInt8)(w:Wo):Calls Tryz.prog 164 #[.string s,.string ⟨#[c]⟩] w fun e w'=>e=.returned (.int .i64 (Lib.indexByte s.data.toList c))/\w'=w:=Any.stringslite_Index_one Tryz.lays219 s c w
def Tryz.lays206_ren:Go.Shelf.Ren:=⟨fun | 206=>165 | n=>n,fun | 9=>9 | 4=>4 | 3=>3 | n=>n,fun | n=>n⟩
def Tryz.lays99_ren:Go.Shelf.Ren:=⟨fun | 99=>143 | 206=>165 | n=>n,fun | 9=>9 | 4=>4 | 3=>3 | n=>n,fun | n=>n⟩
theorem Tryz.lays99:Go.Proofs.Lays.n99 Tryz.prog Tryz.lays99_ren:={
 mixed:=by kernel_rfl
 f99:=Tryz.func143.trans (congrArg some (by kernel_rfl))
 f206:=Tryz.func165.trans (congrArg some (by kernel_rfl))
 t3:=Tryz.underlying3
 a3:=Tryz.isAgg3
 z3:=Tryz.sizeOf3
 v3:=Tryz.zeroValue3
 t4:=Tryz.underlying4
 a4:=Tryz.isAgg4
 z4:=Tryz.sizeOf4
 v4:=Tryz.zeroValue4
 t9:=Tryz.underlying9
 a9:=Tryz.isAgg9
 z9:=Tryz.sizeOf9
 v9:=Tryz.zeroValue9 }
open Go.RowKit Go.Lib in
theorem Tryz.strings_HasPrefix(s p:ByteArray)(w:Wo):Calls Tryz.prog 143 #[.string s,.string p] w fun e w'=>e=.returned (.bool (Lib.hasPrefix s.data.toList p.data.toList))/\w'=w:=Any.strings_HasPrefix Tryz.lays99 s p w
def Tryz.lays101_ren:Go.Shelf.Ren:=⟨fun | 101=>136 | 208=>160 | 206=>165 | n=>n,fun | 9=>9 | 4=>4 | 3=>3 | n=>n,fun | n=>n⟩
theorem Tryz.lays101:Go.Proofs.Lays.n101 Tryz.prog Tryz.lays101_ren:={
 mixed:=by kernel_rfl
 f101:=Tryz.func136.trans (congrArg some (by kernel_rfl))
 f206:=Tryz.func165.trans (congrArg some (by kernel_rfl))
 f208:=Tryz.func160.trans (congrArg some (by kernel_rfl))
 t3:=Tryz.underlying3
 a3:=Tryz.isAgg3
 z3:=Tryz.sizeOf3
 v3:=Tryz.zeroValue3
 t4:=Tryz.underlying4
 a4:=Tryz.isAgg4
 z4:=Tryz.sizeOf4
 v4:=Tryz.zeroValue4
 t9:=Tryz.underlying9
 a9:=Tryz.isAgg9
 z9:=Tryz.sizeOf9
 v9:=Tryz.zeroValue9 }
open Go.RowKit Go.Lib in
theorem Tryz.strings_TrimPrefix(s p:ByteArray)(w:Wo):Calls Tryz.prog 136 #[.string s,.string p] w fun e w'=>e=.returned (.string ⟨(Lib.trimPrefix s.data.toList p.data.toList).toArray⟩)/\w'=w:=Any.strings_TrimPrefix Tryz.lays101 s p w
end Go.Proofs
namespace Go.Proofs.YthgdchffeigkbaaGreatDoor
variable {L : List Oper} {a : Act} {i j k n : Nat} {o : Oper} {ops : Array Oper} {w w' : World}
section
open Go
section
variable {P:Program} {Q:Exit->Act->World->Prop} {md:Region.Mode}
def eZ(P:Program)(K:Value->World->Prop):Result Next->Prop
 | .ok (.value v) w'=>K v w'
 | .ok .skip w'=>K undef w'
 | .ok (.enter f args) w'=>Calls P f args w' fun e w''=>∃v,e=.returned v/\K v w''
 | _=>False
def iE(P:Program)(o:Oper)(a:Act)(w:Wo)(K:Value->World->Prop):Prop:=eZ P K ((execOp a.eval o).run P w)
theorem U9{K:Value->World->Prop}{N:Act->World->Prop}(h:iE P o a w K)(hN:∀v w',K v w'->N (a.put o.dst v) w'):o.wp P a w N Q:=by
 unfold iE at h;unfold Oper.wp;generalize (execOp a.eval o).run P w=r at *;cases r with
 | ok n w'=>
  cases n<;>simp only[eZ] at h<;>simp only[Oper.upon]
  case value v=>exact hN _ _ h
  case skip=>exact hN _ _ h
  case enter f args=>exact h.mono fun e w'' ⟨v,he,hk⟩=>by subst he;exact hN _ _ hk
 | halt x w'=>simp only[eZ] at h
def nP(md:Region.Mode)(o:Oper)(k:Nat):Bool:=o.after.any fun e=>Region.binds md e && e.on == k
theorem IS(h:nP md o k=true):∃e∈o.after,Region.binds md e=true/\e.on=k:=by
 unfold nP at h;obtain⟨e,he,hb⟩:=Array.any_eq_true'.1 h;simp only[Bool.and_eq_true,beq_iff_eq] at hb;exact⟨e,he,hb.1,hb.2⟩
abbrev xK:=Nat->Option Value
def upv(s:xK)(i:Nat)(v:Value):xK:=fun k=>bif Nat.beq k i then some v else s k
theorem IU(s:xK)(i:Nat)(v:Value):upv s i v i=some v:=by unfold upv;rw[Nat.beq_refl];rfl
theorem xS{s:xK}{v:Value}(h:k≠i):upv s i v k=s k:=by
 unfold upv;have:Nat.beq k i=false:=by
  cases h':Nat.beq k i with
  | false=>rfl
  | true=>exact absurd (Nat.eq_of_beq_eq_true h') h
 rw[this];rfl
abbrev zY:=Nat->xK->World->Prop
def upd(K:zY)(i:Nat)(p:xK->World->Prop):zY:=fun k=>bif Nat.beq k i then p else K k
theorem sR(K:zY)(i:Nat)(p:xK->World->Prop):upd K i p i=p:=by unfold upd;rw[Nat.beq_refl];rfl
theorem oH{K:zY}{p:xK->World->Prop}(h:k≠i):upd K i p k=K k:=by
 unfold upd;have:Nat.beq k i=false:=by
  cases h':Nat.beq k i with
  | false=>rfl
  | true=>exact absurd (Nat.eq_of_beq_eq_true h') h
 rw[this];rfl
theorem aDV{K:zY}{p q:xK->World->Prop}(h:i≠j):upd (upd K i p) j q=upd (upd K j q) i p:=by
 funext k
 by_cases h1:k=i
 ·subst h1;rw[oH h,sR,sR]
 ·by_cases h2:k=j
  ·subst h2;rw[sR,oH h1,sR]
  ·rw[oH h2,oH h1,oH h1,oH h2]
def FJ(P:Program)(md:Region.Mode)(ops:Array Oper)(C:xK->World->Prop)(G:World->World->Prop)(Fin:Act->World->Prop):List (Nat×(Value->World->Prop))->Act->zY->Prop
 | [],a,K=>∀s w,C s w->(∀k,K k s w)->Fin a w
 | (i,p)::rs,a,K=>∃o,ops[i]?=some o/\(∀s w,C s w->s i=none->(∀k,nP md o k=true->K k s w)->iE P o a w fun v w'=>p v w'/\C (upv s i v) w'/\G w w')/\∀v,FJ P md ops C G Fin rs (a.put o.dst v) (upd K i fun s w=>s i=some v/\p v w)
def rZ(j:Nat):List (Nat×(Value->World->Prop))->List (Nat×(Value->World->Prop))
 | []=>[]
 | p::r=>bif Nat.beq p.1 j then r else p::rZ j r
theorem qY{p:Nat×(Value->World->Prop)}{r:List (Nat×(Value->World->Prop))}:rZ p.1 (p::r)=r:=by unfold rZ;rw[Nat.beq_refl];rfl
theorem tL{p:Nat×(Value->World->Prop)}{r:List (Nat×(Value->World->Prop))}(h:p.1≠j):rZ j (p::r)=p::rZ j r:=by
 have:Nat.beq p.1 j=false:=by
  cases h':Nat.beq p.1 j with
  | false=>rfl
  | true=>exact absurd (Nat.eq_of_beq_eq_true h') h
 conv=>lhs;unfold rZ
 rw[this];rfl
theorem NM(j:Nat):∀r:List (Nat×(Value->World->Prop)),(rZ j r).Sublist r
 | []=>List.Sublist.refl _
 | p::r=>by
  by_cases h:p.1=j
  ·subst h;rw[qY];exact List.sublist_cons_self ..
  ·rw[tL h];exact(NM j r).cons_cons _
theorem NO:∀{r:List (Nat×(Value->World->Prop))},j∈r.map (·.1)->(rZ j r).length+1=r.length
 | [],h=>by cases h
 | p::r,h=>by
  by_cases hp:p.1=j
  ·subst hp;rw[qY];rfl
  ·rw[tL hp,GS,GS,NO ((List.mem_cons.1 h).resolve_left fun e=>hp e.symm)]
theorem NN(hk:k≠j):∀{r:List (Nat×(Value->World->Prop))},k∈r.map (·.1)->k∈(rZ j r).map (·.1)
 | [],h=>by cases h
 | p::r,h=>by
  by_cases hp:p.1=j
  ·subst hp;rw[qY];exact(List.mem_cons.1 h).resolve_left hk
  ·rw[tL hp,List.map_cons]
   rcases List.mem_cons.1 h with e | h
   ·rw[e];exact List.mem_cons_self ..
   ·exact List.mem_cons_of_mem _ (NN hk h)
theorem yM:∀{r:List (Nat×(Value->World->Prop))},(r.map (·.1)).Pairwise (·<·)->j∉(rZ j r).map (·.1)
 | [],_=>by simp[rZ]
 | p::r,h=>by
  rw[List.map_cons,List.pairwise_cons] at h;by_cases hp:p.1=j
  ·subst hp
   rw[qY];intro hm;have:=h.1 _ hm;omega
  ·rw[tL hp,List.map_cons]
   intro hm;rcases List.mem_cons.1 hm with e | hm
   ·exact hp e.symm
   ·exact yM h.2 hm
structure E1 (md:Region.Mode) (ops:Array Oper) (idx:List Nat):Prop where
 one:∀j∈idx,∃o,ops[j]?=some o/\o.guard=none/\∀e∈o.after,Region.binds md e=true->e.on<j
 two:∀i∈idx,∀j∈idx,i<j->∀oi oj,ops[i]?=some oi->ops[j]?=some oj->nP md oj i=false->oi.apart ops oj=true
theorem E1.sub{l m:List Nat}(h:E1 md ops l)(hs:∀x∈m,x∈l):E1 md ops m:=⟨fun j hj=>h.one j (hs j hj),fun i hi j hj=>h.two i (hs i hi) j (hs j hj)⟩
variable {ops:Array Oper} {C:xK->World->Prop} {G:World->World->Prop} {Fin:Act->World->Prop}
theorem MF(aFF:∀(j:Nat)(o:Oper) cs b,ops[j]?=some o->o.op≠.select cs b){oj:Oper}{q:Value->World->Prop}(hoj:ops[j]?=some oj):∀(rs:List (Nat×(Value->World->Prop))) (a:Act) (K:zY),
    (rs.map (·.1)).Pairwise (·<·)->E1 md ops (rs.map (·.1))->(j,q)∈rs->(∀i∈rs.map (·.1),i<j->nP md oj i=false)->FJ P md ops C G Fin rs a K->
    (∀s w,C s w->s j=none->(∀k,nP md oj k=true->K k s w)->iE P oj a w fun v w'=>q v w'/\C (upv s j v) w'/\G w w')/\∀v,FJ P md ops C G Fin (rZ j rs) (a.put oj.dst v) (upd K j fun s w=>s j=some v/\q v w)
 | [],a,K,_,_,hm,_,_=>by cases hm
 | (i,p)::rs,a,K,hp,pY,hm,hw,h=>by
  rw[List.map_cons,List.pairwise_cons] at hp;obtain⟨oi,hoi,h1,h2⟩:=h;by_cases tE:i=j
  ·subst tE
   have hpq:p=q:=by
    rcases List.mem_cons.1 hm with e | hm
    ·injection e with _ e;exact e.symm
    ·have:=hp.1 _ (List.mem_map.2 ⟨_,hm,rfl⟩)
     dsimp only at this;omega
   subst hpq;rw[hoi] at hoj;injection hoj with hoj;subst hoj;rw[qY (p:=(i,p))];exact⟨h1,h2⟩
  ·have hm':(j,q)∈rs:=(List.mem_cons.1 hm).resolve_left fun e=>tE (by injection e with e _;exact e.symm)
   have aU:i<j:=hp.1 _ (List.mem_map.2 ⟨_,hm',rfl⟩);have mZ:i∈((i,p)::rs).map (·.1):=List.mem_cons_self ..;have hmj:j∈((i,p)::rs).map (·.1):=List.mem_cons_of_mem _ (List.mem_map.2 ⟨_,hm',rfl⟩);have hwi:=hw i mZ aU;have hap:=Oper.apart_spec (pY.two i mZ j hmj aU oi oj hoi hoj hwi);have aXC:=pY.sub (m:=rs.map (·.1)) fun x hx=>List.mem_cons_of_mem _ hx;have hw':∀k∈rs.map (·.1),k<j->nP md oj k=false:=fun k hk=>hw k (List.mem_cons_of_mem _ hk);have ih:=fun v=>MF aFF hoj rs (a.put oi.dst v) (upd K i fun s w=>s i=some v/\p v w) hp.2 aXC hm' hw' (h2 v);refine⟨fun s w hC hn hK=>?_,fun v=>?_⟩
   ·have h3:=(ih undef).1 s w hC hn fun k hk=>by
     have hki:k≠i:=fun e=>by rw[e,hwi] at hk;cases hk
     rw[oH hki];exact hK k hk
    unfold iE at h3 ⊢;rwa[execOp_put oj (fun cs b=>aFF j oj cs b hoj) a oi.dst undef hap.1] at h3
   ·rw[tL (p:=(i,p)) tE]
    refine⟨oi,hoi,fun s w hC hn hK=>?_,fun v'=>?_⟩
    ·have hnj:nP md oi j=false:=by
      cases hb:nP md oi j with
      | false=>rfl
      | true=>
       obtain⟨e,he,bC,bH⟩:=IS hb;obtain⟨o',UX,_,hlt'⟩:=pY.one i mZ;rw[hoi] at UX;injection UX with UX;subst UX;have:=hlt' e he bC;omega
     have h3:=h1 s w hC hn fun k hk=>by
      have XN:k≠j:=fun e=>by rw[e,hnj] at hk;cases hk
      have:=hK k hk;rwa[oH XN] at this
     unfold iE at h3 ⊢;rwa[execOp_put oi (fun cs b=>aFF i oi cs b hoi) a oj.dst v hap.2.2]
    ·have h3:=(ih v').2 v
     rw[Act.put_comm a v' v hap.2.1,aDV tE] at h3;exact h3
theorem VA{S:World->Prop}(hCS:∀s w,C s w->S w)(aFF:∀(j:Nat)(o:Oper) cs b,ops[j]?=some o->o.op≠.select cs b):∀(fuel:Nat) (rs:List (Nat×(Value->World->Prop))) (listed:Array Bool) (a:Act) (w:Wo) (K:zY) (s:xK),
    rs.length=fuel->listed.size=ops.size->(rs.map (·.1)).Pairwise (·<·)->E1 md ops (rs.map (·.1))->(∀j,j<ops.size->listed.getD j true=false->j∈rs.map (·.1))->(∀j∈rs.map (·.1),listed.getD j true=false)->
    (∀p∈rs,∀v w w',p.2 v w->G w w'->p.2 v w')->(∀k s w j v w',j∈rs.map (·.1)->K k s w->G w w'->K k (upv s j v) w')->FJ P md ops C G (Q .normal) rs a K->C s w->(∀k,K k s w)->(∀j∈rs.map (·.1),s j=none)->wpAnyH P md ops Q S fuel listed a w:=by
 intro fuel
 induction fuel with
 | zero=>
  intro rs listed a w K s hl iV hp pY hcov hun M7 hKs h hC hK G_;have:rs=[]:=List.eq_nil_of_length_eq_zero hl;subst this;refine⟨?_,h s w hC hK⟩;rw[List.eq_nil_iff_forall_not_mem];intro j hj;obtain⟨h0,o,ho,_⟩:=mem_ready.1 hj;have:=hcov j (Array.getElem?_eq_some_iff.1 ho).1 h0;cases this
 | succ fuel ih=>
  intro rs listed a w K s hl iV hp pY hcov hun M7 hKs h hC hK G_;refine⟨fun h0=>?_,fun j hj=>?_⟩
  ·exfalso
   cases rs with
   | nil=>simp at hl
   | cons p r=>
    have mZ:p.1∈(p::r).map (·.1):=List.mem_cons_self ..;obtain⟨o,ho,_,aU⟩:=pY.one p.1 mZ;have:p.1∈Region.ready md ops listed:=by
     refine mem_ready.2 ⟨hun _ mZ,o,ho,fun e he hb=>?_⟩;have hel:=aU e he hb;have DF:=(Array.getElem?_eq_some_iff.1 ho).1;cases hg:listed.getD e.on true with
     | true=>rw[<-pR (by omega)];exact hg
     | false=>
      have:=hcov e.on (by omega) hg;rw[List.map_cons] at this;rcases List.mem_cons.1 this with e1 | hm
      ·omega
      ·rw[List.map_cons,List.pairwise_cons] at hp
       have:=hp.1 _ hm;omega
    rw[h0] at this;cases this
  ·obtain⟨h0,oj,hoj,EO⟩:=mem_ready.1 hj
   have hjs:=(Array.getElem?_eq_some_iff.1 hoj).1;have hmj:=hcov j hjs h0;obtain⟨⟨j',q⟩,hq,rfl⟩:=List.mem_map.1 hmj;dsimp only at *;have hwn:∀i∈rs.map (·.1),i<j'->nP md oj i=false:=fun i hi _=>by
    cases hb:nP md oj i with
    | false=>rfl
    | true=>
     obtain⟨e,he,bC,bH⟩:=IS hb;have h3:=EO e he bC;have h4:=hun i hi;have K7:i<listed.size:=by
      rw[bH] at h3;exact aGo h3
     rw[bH,<-pR K7,h4] at h3;cases h3
   obtain⟨h1,h2⟩:=MF aFF hoj rs a K hp pY hq hwn h;obtain⟨o',UX,hg,_⟩:=pY.one j' hmj;rw[hoj] at UX;injection UX with UX;subst UX;unfold wpOp;rw[hoj];have aRJ:Region.wanted oj (yielded ops a.tmps)=true:=by simp[Region.wanted,hg]
   simp only[aRJ,if_true];have aJy:=NM j' rs;have aAc:∀x∈(rZ j' rs).map (·.1),x∈rs.map (·.1):=fun x hx=>(aJy.map (·.1)).subset hx;refine .inl (U9 (h1 s w hC (G_ j' hmj) fun k _=>hK k) fun v w' ⟨g1,g2,g3⟩=>⟨hCS _ _ g2,?_⟩);refine ih (rZ j' rs) _ _ w' (upd K j' fun s w=>s j'=some v/\q v w) (upv s j' v) (by have:=NO hmj;omega) (by simp[iV]) (hp.sublist (aJy.map (·.1))) (pY.sub aAc) (fun k hk hu=>?_) (fun k hk=>?_) (fun p hp=>M7 p (aJy.subset hp)) (fun k s1 w1 j1 v1 w2 XP hk hG=>?_) (h2 v) g2 (fun k=>?_) fun k hk=>?_
   ·by_cases XN:j'=k
    ·subst XN
     simp[iV,hjs] at hu
    ·rw[getD_set_ne true XN] at hu
     exact NN (fun e=>XN e.symm) (hcov k hk hu)
   ·have XN:j'≠k:=fun e=>by subst e;exact yM hp hk
    rw[getD_set_ne true XN];exact hun k (aAc k hk)
   ·by_cases XN:k=j'
    ·subst XN
     rw[sR] at hk ⊢;exact⟨by rw[xS (fun e=>by subst e;exact yM hp XP)];exact hk.1,M7 _ hq v w1 w2 hk.2 hG⟩
    ·rw[oH XN] at hk ⊢;exact hKs k s1 w1 j1 v1 w2 (aAc _ XP) hk hG
   ·by_cases XN:k=j'
    ·subst XN;rw[sR];exact⟨IU ..,g1⟩
    ·rw[oH XN];exact hKs k s w j' v w' hmj (hK k) g3
   ·rw[xS (fun e=>by subst e;exact yM hp hk)]
    exact G_ k (aAc k hk)
def aEw(md:Region.Mode)(ops:Array Oper)(listed:Array Bool)(idx:List Nat):Bool:=
 Region.noSelect ops && (listed.size == ops.size) && ((List.range ops.size).filter (fun j=>!listed.getD j true) == idx) &&
 idx.all (fun j=>match ops[j]? with
  | some oj=>oj.guard.isNone && oj.after.all (fun e=>!Region.binds md e || decide (e.on<j)) && idx.all fun i=>!decide (i<j) || match ops[i]? with
   | some oi=>nP md oj i || oi.apart ops oj
   | none=>false
  | none=>false)
theorem VR{listed:Array Bool}{idx:List Nat}(h:aEw md ops listed idx=true):(∀(j:Nat)(o:Oper) cs b,ops[j]?=some o->o.op≠.select cs b)/\listed.size=ops.size/\(List.range ops.size).filter (fun j=>!listed.getD j true)=idx/\E1 md ops idx:=by
 unfold aEw at h;simp only[Bool.and_eq_true,beq_iff_eq,List.all_eq_true] at h;obtain⟨⟨⟨h1,h2⟩,h3⟩,h4⟩:=h;refine⟨Region.noSelect_spec h1,h2,h3,fun j hj=>?_,fun i hi j hj tE oi oj hoi hoj hw=>?_⟩
 ·have:=h4 j hj
  cases ho:ops[j]? with
  | none=>rw[ho] at this;cases this
  | some o=>
   rw[ho] at this;simp only[Bool.and_eq_true,Option.isNone_iff_eq_none,Array.all_eq_true_iff_forall_mem,Bool.or_eq_true,Bool.not_eq_true',decide_eq_true_eq] at this;exact⟨o,rfl,this.1.1,fun e he hb=>(this.1.2 e he).resolve_left (by simp[hb])⟩
 ·have:=h4 j hj
  rw[hoj] at this;simp only[Bool.and_eq_true,List.all_eq_true] at this;have h5:=this.2 i hi;rw[hoi] at h5;simp only[Bool.or_eq_true,Bool.not_eq_true',decide_eq_false_iff_not,hw,Bool.false_eq_true,false_or] at h5;exact h5.resolve_left fun h=>h tE
theorem aEv{S:World->Prop}{L:List Oper}{fuel:Nat}{listed:Array Bool}{a:Act}{w:Wo}(C:xK->World->Prop)(G:World->World->Prop)(rs:List (Nat×(Value->World->Prop)))(hl:rs.length=fuel)(hB:aEw md L.toArray listed (rs.map (·.1))=true)(M7:∀p∈rs,∀v w w',p.2 v w->G w w'->p.2 v w')(hCS:∀s w,C s w->S w)(hC:C (fun _=>none) w)(h:FJ P md L.toArray C G (Q .normal) rs a fun _ _ _=>True):wpAnyH P md L.toArray Q S fuel listed a w:=by
 obtain⟨h1,h2,h3,h4⟩:=VR hB;refine VA hCS h1 fuel rs listed a w (fun _ _ _=>True) (fun _=>none) hl h2 ?_ h4 (fun j hj hu=>?_) (fun j hj=>?_) M7 (fun _ _ _ _ _ _ _ _ _=>trivial) h hC (fun _=>trivial) fun _ _=>rfl
 ·rw[<-h3];exact List.Pairwise.filter _ List.pairwise_lt_range
 ·rw[<-h3,List.mem_filter,List.mem_range]
  exact⟨hj,by simp only[hu];rfl⟩
 ·rw[<-h3,List.mem_filter] at hj
  simpa using hj.2
theorem eE{i:Nat}{p:Value->World->Prop}{rs:List (Nat×(Value->World->Prop))}{L:List Oper}{a:Act}{K:zY}{o:Oper}(ho:L[i]?=some o)(h1:∀s w,C s w->s i=none->(∀k,nP md o k=true->K k s w)->iE P o a w fun v w'=>p v w'/\C (upv s i v) w'/\G w w')(h2:∀v,FJ P md L.toArray C G Fin rs (a.put o.dst v) (upd K i fun s w=>s i=some v/\p v w)):FJ P md L.toArray C G Fin ((i,p)::rs) a K:=⟨o,by rw[List.getElem?_toArray];exact ho,h1,h2⟩
theorem D_{K:zY}(h:∀s w,C s w->(∀k,K k s w)->Fin a w):FJ P md ops C G Fin [] a K:=h
def Sep(i j:Nat)(s:xK)(w:Wo):Prop:=(∀v,s i=some v->∃g,v=.pointer (some ⟨g,0,none⟩)/\g<w.heap.size)/\(∀v,s j=some v->∃g,v=.pointer (some ⟨g,0,none⟩)/\g<w.heap.size)/\∀g h,s i=some (.pointer (some ⟨g,0,none⟩))->s j=some (.pointer (some ⟨h,0,none⟩))->g≠h
theorem aBx(i j:Nat)(w:Wo):Sep i j (fun _=>none) w:=⟨fun v h=>(by cases h),fun v h=>(by cases h),fun g h h1=>(by cases h1)⟩
theorem Sep.other{s:xK}(h:Sep i j s w)(hi:i≠k)(hj:j≠k)(hs:w.heap.size<=w'.heap.size)(v:Value):Sep i j (upv s k v) w':=by
 unfold Sep;rw[xS hi,xS hj];refine⟨fun v hv=>?_,fun v hv=>?_,h.2.2⟩
 ·obtain⟨g,e,hl⟩:=h.1 v hv
  exact⟨g,e,by omega⟩
 ·obtain⟨g,e,hl⟩:=h.2.1 v hv
  exact⟨g,e,by omega⟩
theorem Sep.left{s:xK}(h:Sep i j s w)(tE:j≠i)(hs:w.heap.size<w'.heap.size):Sep i j (upv s i (.pointer (some ⟨w.heap.size,0,none⟩))) w':=by
 unfold Sep;rw[IU,xS tE];refine⟨fun v hv=>?_,fun v hv=>?_,fun g k h1 h2=>?_⟩
 ·injection hv with hv
  exact⟨_,hv.symm,hs⟩
 ·obtain⟨g,e,hl⟩:=h.2.1 v hv
  exact⟨g,e,by omega⟩
 ·injection h1 with h1
  injection h1 with h1;injection h1 with h1;injection h1 with h1;obtain⟨g',e,hl⟩:=h.2.1 _ h2;injection e with e;injection e with e;injection e with e;omega
theorem Sep.right{s:xK}(h:Sep i j s w)(tE:i≠j)(hs:w.heap.size<w'.heap.size):Sep i j (upv s j (.pointer (some ⟨w.heap.size,0,none⟩))) w':=by
 unfold Sep;rw[IU,xS tE];refine⟨fun v hv=>?_,fun v hv=>?_,fun g k h1 h2=>?_⟩
 ·obtain⟨g,e,hl⟩:=h.1 v hv
  exact⟨g,e,by omega⟩
 ·injection hv with hv
  exact⟨_,hv.symm,hs⟩
 ·injection h2 with h2
  injection h2 with h2;injection h2 with h2;injection h2 with h2;obtain⟨g',e,hl⟩:=h.1 _ h1;injection e with e;injection e with e;injection e with e;omega
theorem l_{S:World->Prop}{id:Nat}{a:Act}{w:Wo}{L:List Oper}(n:Nat)(oM oN:Oper)(hm:P.follows .mixedOrders=true)(hs:rS .any L (n+1)=true)(wY:rS .any (L.take (n+1)) n=true)(hM:L[n]?=some oM)(hN:L[n+1]?=some oN)(hS:S w.drew)(h:S w.drew->wpAnyH P .any (L.take n).toArray (lK P (L.take (n+1)).toArray oM (lK P L.toArray oN Q)) S n (Array.replicate n false) a w.drew):(Code.region id L.toArray true).wp P Q a w:=by
 obtain⟨h1,h2,h3⟩:=mH hs;have ht:(L.take (n+1)).take n=L.take n:=by rw[List.take_take,Nat.min_eq_left (by omega)]
 refine wp_region_any hm ?_;rw[show L.toArray.size=n+1+1 from by simpa using h1,Array.replicate_succ];have zC:∀(F:List Oper)(k:Nat),nF .any F (Array.replicate k false):=fun F k j o ho hj=>by
  rcases Nat.lt_or_ge j k with h' | h'<;>simp[h'] at hj
 refine kD hs hN (n+1) _ a _ (by simp) (zC _ _) ?_;rw[Array.replicate_succ];refine kD wY (by rw[List.getElem?_take_of_lt (by omega)];exact hM) n _ a _ (by simp) (zC _ _) ?_;rw[ht];exact wpAny_of_held _ _ _ _ (h hS)
end
def J0:Nat->Nat->List UInt8
 | 0,_=>[]
 | k+1,r=>J0 k (r / 10)++[UInt8.ofNat (48+r % 10)]
theorem TF:∀(k r:Nat),(J0 k r).length=k
 | 0,_=>rfl
 | k+1,r=>by rw[J0,jW,TF k];rfl
theorem fJ{u:Nat}(h:u<10):Lib.decDigits u=[UInt8.ofNat (48+u)]:=by rw[Lib.decDigits,dif_pos h]
theorem uR{u:Nat}(h:¬u<10):Lib.decDigits u=Lib.decDigits (u / 10)++[UInt8.ofNat (48+u % 10)]:=by rw[Lib.decDigits,dif_neg h]
theorem NL:∀(k q r:Nat),0<q->r<10^k->Lib.decDigits (q*10^k+r)=Lib.decDigits q++J0 k r
 | 0,q,r,_,hr=>by
  rw[Nat.pow_zero] at hr ⊢;rw[J0,List.append_nil,Nat.mul_one,show q+r=q from by omega]
 | k+1,q,r,hq,hr=>by
  have h1:1<=10^k:=Nat.one_le_pow _ _ (by decide);have h2:10^(k+1)=10^k*10:=Nat.pow_succ ..;have h3:q*10^(k+1)=q*10^k*10:=by rw[h2,Nat.mul_assoc]
  have h4:1*10^k<=q*10^k:=Nat.mul_le_mul_right _ hq;rw[uR (by omega),J0,show(q*10^(k+1)+r) / 10=q*10^k+r / 10 from by omega,show(q*10^(k+1)+r) % 10=r % 10 from by omega,
   NL k q (r / 10) hq (by rw[h2] at hr;omega),List.append_assoc]
theorem NF:∀k:Nat,J0 k 0=List.replicate k 48
 | 0=>rfl
 | k+1=>by
  rw[J0,Nat.zero_div,NF k,List.replicate_succ'];rfl
theorem o3(u:Nat):1<=(Lib.decDigits u).length:=by
 by_cases h:u<10
 ·rw[fJ h];exact lR
 ·rw[uR h,jW];simp
theorem JZ:∀(k r:Nat),1<=k->r<10^k->J0 k r=List.replicate (k-(Lib.decDigits r).length) 48++Lib.decDigits r
 | 0,_,h,_=>absurd h (by decide)
 | k+1,r,_,hr=>by
  by_cases h:r<10
  ·rw[fJ h,J0,Nat.div_eq_of_lt h,NF,Nat.mod_eq_of_lt h]
   rfl
  ·have hk:1<=k:=by
    rcases Nat.eq_zero_or_pos k with rfl | h'
    ·simp at hr;omega
    ·exact h'
   rw[uR h,J0,JZ k (r / 10) hk (by rw[Nat.pow_succ] at hr;omega),List.append_assoc,jW,List.length_singleton,Nat.add_sub_add_right]
theorem TS{r:Nat}(hk:1<=k)(hr:r<10^k):(Lib.decDigits r).length<=k:=by
 have h:=congrArg List.length (JZ k r hk hr);rw[TF,jW] at h;omega
def dvg(acc:Nat)(l:List UInt8):Nat:=l.foldl (fun a c=>a*10+(c.toNat-48)) acc
def dv(l:List UInt8):Nat:=dvg 0 l
theorem CR:∀(l:List UInt8)(acc:Nat),dvg acc l=acc*10^l.length+dv l
 | [],acc=>by simp[dvg,dv]
 | c::r,acc=>by
  have h1:=CR r (acc*10+(c.toNat-48));have h2:=CR r (0*10+(c.toNat-48));unfold dv dvg at *;rw[List.foldl_cons,List.foldl_cons,h1,h2,GS,Nat.pow_succ];grind
theorem yL(a b:List UInt8):dv (a++b)=dv a*10^b.length+dv b:=by
 have h:dv (a++b)=dvg (dv a) b:=by unfold dv dvg;rw[List.foldl_append]
 rw[h,CR]
theorem aGL{d:Nat}(h:d<10):(UInt8.ofNat (48+d)).toNat-48=d:=by
 have:(UInt8.ofNat (48+d)).toNat=48+d:=by rw[UInt8.toNat_ofNat'];omega
 omega
theorem PM{d:Nat}(h:d<10):dv [UInt8.ofNat (48+d)]=d:=by
 show 0*10+((UInt8.ofNat (48+d)).toNat-48)=d;rw[aGL h];omega
theorem AM(u:Nat):dv (Lib.decDigits u)=u:=by
 induction u using Nat.strongRecOn with
 | _ u ih=>
  by_cases h:u<10
  ·rw[fJ h,PM h]
  ·rw[uR h,yL,ih (u / 10) (by omega),PM (by omega)]
   simp;omega
def P5(c:UInt8):Prop:=48<=c.toNat/\c.toNat<=57
theorem PT(u:Nat):∀c∈Lib.decDigits u,P5 c:=by
 induction u using Nat.strongRecOn with
 | _ u ih=>
  intro c hc;have key:∀d,d<10->P5 (UInt8.ofNat (48+d)):=fun d hd=>by
   have:(UInt8.ofNat (48+d)).toNat=48+d:=by rw[UInt8.toNat_ofNat'];omega
   exact⟨by omega,by omega⟩
  by_cases h:u<10
  ·rw[fJ h,List.mem_singleton] at hc
   subst hc;exact key u h
  ·rw[uR h,List.mem_append,List.mem_singleton] at hc
   rcases hc with hc | rfl
   ·exact ih (u / 10) (by omega) c hc
   ·exact key _ (by omega)
def F4(l:List UInt8):Prop:=l≠[]/\(∀c∈l,P5 c)/\(1<l.length->l.head?≠some 48)
theorem aGR(u:Nat):0<u->(Lib.decDigits u).head?≠some 48:=by
 induction u using Nat.strongRecOn with
 | _ u ih=>
  intro hu;by_cases h:u<10
  ·rw[fJ h]
   intro he;have he:UInt8.ofNat (48+u)=48:=Option.some.inj he;have:(UInt8.ofNat (48+u)).toNat=48+u:=by rw[UInt8.toNat_ofNat'];omega
   rw[he] at this;have h48:(48:UInt8).toNat=48:=rfl;omega
  ·rw[uR h,List.head?_append]
   have h1:=ih (u / 10) (by omega) (by omega);have h2:=o3 (u / 10);cases hd:Lib.decDigits (u / 10) with
   | nil=>rw[hd] at h2;simp at h2
   | cons c t=>rw[hd] at h1;simpa using h1
theorem aCM(u:Nat):F4 (Lib.decDigits u):=by
 refine⟨fun h=>?_,PT u,fun h=>?_⟩
 ·have:=o3 u
  rw[h] at this;simp at this
 ·by_cases h0:u=0
  ·subst h0
   rw[fJ (by decide)] at h;simp at h
  ·exact aGR u (by omega)
theorem O1{c:UInt8}(h:P5 c):∃d,d<10/\c=UInt8.ofNat (48+d):=by
 refine⟨c.toNat-48,by have:=h.2;omega,?_⟩;apply UInt8.toNat_inj.1;rw[UInt8.toNat_ofNat'];have:=h.1;have:=h.2;omega
theorem aOK:∀{l:List UInt8},l≠[]->(∀c∈l,P5 c)->l.head?≠some 48->0<dv l
 | [],h,_,_=>absurd rfl h
 | c::r,_,hd,hh=>by
  obtain⟨d,hd1,rfl⟩:=O1 (hd c (by simp));have h1:=CR r (0*10+((UInt8.ofNat (48+d)).toNat-48));have h2:dv (UInt8.ofNat (48+d)::r)=dvg (0*10+((UInt8.ofNat (48+d)).toNat-48)) r:=rfl;rw[h2,h1,aGL hd1];have hd0:d≠0:=fun e=>by subst e;exact hh rfl
  have:1*10^r.length<=(0*10+d)*10^r.length:=Nat.mul_le_mul_right _ (by omega);have:1<=10^r.length:=Nat.one_le_pow _ _ (by decide);omega
theorem pZ{l:List UInt8}(h:F4 l):Lib.decDigits (dv l)=l:=by
 obtain⟨n,hn⟩:∃n,l.length=n:=⟨_,rfl⟩
 induction n generalizing l with
 | zero=>exact absurd (List.eq_nil_of_length_eq_zero hn) h.1
 | succ n ih=>
  obtain⟨a,c,rfl⟩:∃a c,l=a++[c]:=⟨l.dropLast,l.getLast h.1,(List.dropLast_concat_getLast h.1).symm⟩;obtain⟨d,hd,rfl⟩:=O1 (h.2.1 c (by simp));rw[yL,PM hd];by_cases ha:a=[]
  ·subst ha
   rw[List.nil_append,show dv []=0 from rfl];simp only[List.length_singleton,Nat.pow_one,Nat.zero_mul,Nat.zero_add];exact fJ hd
  ·have A_:1<=a.length:=by cases a with | nil=>exact absurd rfl ha | cons _ _=>simp
   have hh:a.head?≠some 48:=by
    have:=h.2.2 (by simp;omega);cases a with
    | nil=>exact absurd rfl ha
    | cons x t=>simpa using this
   have hdg:∀c∈a,P5 c:=fun c hc=>h.2.1 c (List.mem_append_left _ hc);have hp:=aOK ha hdg hh;have XU:F4 a:=⟨ha,hdg,fun _=>hh⟩;have:=ih XU (by simp at hn;omega);simp only[List.length_singleton,Nat.pow_one];rw[uR (by omega),show(dv a*10+d) / 10=dv a from by omega,show(dv a*10+d) % 10=d from by omega,this]
theorem PR{m:Nat}(h:Lib.decDigits m=Lib.decDigits n):m=n:=by rw[<-AM m,<-AM n,h]
theorem J5:∀{l:List UInt8},(∀c∈l,P5 c)->dv l<10^l.length:=by
 intro l;obtain⟨n,hn⟩:∃n,l.length=n:=⟨_,rfl⟩
 induction n generalizing l with
 | zero=>intro _;rw[List.eq_nil_of_length_eq_zero hn];decide
 | succ n ih=>
  intro h;have bX:l≠[]:=fun e=>by subst e;simp at hn
  obtain⟨a,c,rfl⟩:∃a c,l=a++[c]:=⟨l.dropLast,l.getLast bX,(List.dropLast_concat_getLast bX).symm⟩;obtain⟨d,hd,rfl⟩:=O1 (h c (by simp));have:=ih (l:=a) (by simp at hn;omega) (fun c hc=>h c (List.mem_append_left _ hc));rw[yL,PM hd,jW,List.length_singleton,Nat.pow_succ];omega
def zQ(n:Nat):Nat:=(Lib.decDigits n).length
theorem WO(hk:1<=k)(h:n<10^k):zQ n<=k:=TS hk h
theorem aFg(n:Nat):n<10^zQ n:=by
 have:=J5 (PT n);rwa[AM] at this
end
