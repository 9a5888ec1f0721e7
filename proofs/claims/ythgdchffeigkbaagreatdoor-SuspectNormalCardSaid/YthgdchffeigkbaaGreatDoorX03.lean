import Derived.Test.YthgdchffeigkbaaGreatDoorX00
import Derived.OrdersHeld
import Derived.Deep.RegionHeld
import Derived.Shelf.Strings.Builder1
import Derived.Shelf.Small.Bits
import Derived.Shelf.Strings.BuilderF
import Derived.Shelf.Strings.BuilderK
import Derived.Shelf.Strconv.Itoa0
import Derived.Shelf.Strconv.Itoa1
import Derived.Shelf.LaysM
import Derived.Shelf.Strconv.Itoa2
import Derived.Ground.MpProg
import Derived.Shelf.Pu.ParseUintPublic10
import Derived.Shelf.Strings.Search1
import Derived.Shelf.Strings.Search2
import Derived.Shelf.Strings.Cut
import Derived.Shelf.Strings.Shaped
import Derived.Shelf.Strings.Prefix
import Derived.Shelf.Bits.Mul64
import Derived.Shelf.Strings.BuilderCap
import Derived.Shelf.Slices.Turned
import Derived.Test.YthgdchffeigkbaaGreatDoorProg
set_option linter.unusedVariables false
set_option linter.unusedSimpArgs false
namespace Go.Proofs.YthgdchffeigkbaaGreatDoor
section
open Go
def rU (md:Region.Mode) (L:List Oper) (n:Nat):Bool:=
 decide (L.length=n+1) &&
 (List.range (n+1)).all (fun j=>match L[j]? with
  | some o=>o.after.all (fun e=>!Region.binds md e || decide (e.on<j)) && (match o.guard with | none=>true | some (g,_)=>decide (g<n))
  | none=>false) &&
 (List.range n).all (fun j=>(List.range (n+1)).any fun k=>decide (j<k) && match L[k]? with
  | some o=>o.after.any (fun e=>Region.binds md e && e.on == j)
  | none=>false)
def kY (P:Program) (ops:Array Oper) (o:Oper) (Q:Exit->Act->World->Prop):Exit->Act->World->Prop
 | .normal,a,w=>if Region.wanted o (yielded ops a.tmps)=true then Oper.wp P o a w (Q .normal) Q else Q .normal (a.put o.dst undef) w
 | e,a,w=>Q e a w
section
variable {P:Program} {Q:Exit->Act->World->Prop} {md:Region.Mode}
theorem aCh {ops:Array Oper} {oN o:Oper} {a:Act} {w:Wo} {K K':Act->World->Prop} (h:∀ a w,K a w->K' a w) (hh:o.wp P a w K (kY P ops oN Q)):o.wp P a w K' Q:=by
 unfold Oper.wp at *;generalize (execOp a.eval o).run P w=r at *;cases r with
 | ok n w'=>
  cases n<;>simp only [Oper.upon] at hh ⊢<;>
   first
    | exact h _ _ hh
    | exact Calls.mono hh (fun e w'' he=>by cases e<;>first | exact h _ _ he | exact he)
    | exact Rows.mono hh (fun _ _ he=>h _ _ he)
 | halt x w'=>cases x<;>simp only [Oper.upon] at hh ⊢<;>exact hh
theorem FA {L F:List Oper} {i:Nat} {oN:Oper} {a:Act} {w:Wo} {K K':Act->World->Prop} (hi:L[i]?=F[i]?) (hg:∀ o,F[i]?=some o->∀ g b,o.guard=some (g,b)->L[g]?=F[g]?) (h:∀ a w,K a w->K' a w)
    (hh:wpOp P F.toArray (kY P L.toArray oN Q) i K a w):wpOp P L.toArray Q i K' a w:=by
 unfold wpOp at *;rw [List.getElem?_toArray] at *;rw [hi];cases ho:F[i]? with
 | none=>rw [ho] at hh;exact h _ _ hh
 | some o=>
  rw [ho] at hh;simp only at hh ⊢;have hw:Region.wanted o (yielded L.toArray a.tmps)=Region.wanted o (yielded F.toArray a.tmps):=by
   unfold Region.wanted;cases CE:o.guard with
   | none=>rfl
   | some gb=>
    obtain ⟨g,b⟩:=gb;simp only;unfold yielded;rw [List.getElem?_toArray,List.getElem?_toArray,hg o ho g b CE]
  rw [hw]
  split
  ·rename_i h1
   rw [if_pos h1] at hh;exact hh.imp (aCh h) id
  ·rename_i h1
   rw [if_neg h1] at hh;exact h _ _ hh
theorem kP {L:List Oper} {n:Nat} (h:rU md L n=true):L.length=n+1/\
    (∀ j o,L[j]?=some o->(∀ e∈o.after,Region.binds md e=true->e.on<j)/\∀ g b,o.guard=some (g,b)->g<n)/\
    (∀ j,j<n->∃ k o e,j<k/\L[k]?=some o/\e∈o.after/\Region.binds md e=true/\e.on=j):=by
 unfold rU at h;simp only [Bool.and_eq_true,decide_eq_true_eq,List.all_eq_true,List.mem_range,List.any_eq_true] at h;obtain ⟨⟨h1,h2⟩,h3⟩:=h;refine ⟨h1,fun j o ho=>?_,fun j hj=>?_⟩
 ·have hj:j<n+1:=by rw [<-h1];exact (dP.1 ho).1
  have:=h2 j hj;rw [ho] at this;simp only [Bool.and_eq_true,Array.all_eq_true_iff_forall_mem,Bool.or_eq_true,Bool.not_eq_true',decide_eq_true_eq] at this;refine ⟨fun e he hb=>(this.1 e he).resolve_left (by simp [hb]),fun g b hg=>?_⟩;have h4:=this.2;rw [hg] at h4;simpa using h4
 ·obtain ⟨k,hk,hjk,h4⟩:=h3 j hj
  cases ho:L[k]? with
  | none=>rw [ho] at h4;cases h4
  | some o=>
   rw [ho] at h4;simp only [Array.any_eq_true'] at h4;obtain ⟨e,he,h5⟩:=h4;simp only [Bool.and_eq_true,beq_iff_eq] at h5;exact ⟨k,o,e,hjk,ho,he,h5.1,h5.2⟩
def mD (md:Region.Mode) (F:List Oper) (listed:Array Bool):Prop:=∀ (j:Nat) (o:Oper),F[j]?=some o->listed.getD j false=true->∀ e∈o.after,Region.binds md e=true->listed.getD e.on false=true
theorem oG {l:Array Bool} {j:Nat} (h:j<l.size):l.getD j true=l.getD j false:=by simp [h]
theorem VU {L:List Oper} {n:Nat} {oN:Oper} {listed:Array Bool} (hs:rU md L n=true) (hN:L[n]?=some oN) (gW:listed.size=n) (hc:mD md (L.take n) listed)
    (hr:∀ e∈oN.after,Region.binds md e=true->(listed.push false).getD e.on false=true):∀ d j,j+d=n->0<d->listed.getD j false=true:=by
 obtain ⟨h1,h2,h3⟩:=kP hs;intro d
 induction d using Nat.strongRecOn with
 | _ d ih=>
  intro j hj hd;obtain ⟨k,o,e,hjk,hk,he,hb,hej⟩:=h3 j (by omega);have U5:k<n+1:=by rw [<-h1];exact (dP.1 hk).1
  by_cases qW:k=n
  ·subst qW
   rw [hN] at hk;injection hk with hk;subst hk;have:=hr e he hb;rw [hej] at this;rwa [Array.getD_eq_getD_getElem?,Array.getElem?_push_lt (by omega),<-Array.getElem?_eq_getElem (by omega),<-Array.getD_eq_getD_getElem?] at this
  ·have hl:=ih (n-k) (by omega) k (by omega) (by omega)
   have:=hc k o (by rw [List.getElem?_take_of_lt (by omega)];exact hk) hl e he hb;rwa [hej] at this
theorem lK {l:Array Bool} {i:Nat} (hi:i<l.size):(l.push false).setIfInBounds i true=(l.setIfInBounds i true).push false:=by
 apply Array.ext
 ·simp
 ·intro j h1 h2
  simp only [Array.size_setIfInBounds,Array.size_push] at h1;rw [Array.getElem_setIfInBounds (by simpa using h1),Array.getElem_push]
  by_cases xM:i=j
  ·subst xM
   rw [if_pos rfl,Array.getElem_push];simp only [Array.size_setIfInBounds,hi,dif_pos,Array.getElem_setIfInBounds,if_true]
  ·simp only [xM,if_false]
   rw [Array.getElem_push];simp only [Array.size_setIfInBounds]
   split
   ·rename_i h3
    rw [Array.getElem_setIfInBounds (by simpa using h3),if_neg xM]
   ·rfl
theorem gZ {l:Array Bool} {j:Nat} (hj:j<l.size) (d:Bool):(l.push false).getD j d=l.getD j d:=by
 rw [Array.getD_eq_getD_getElem?,Array.getElem?_push_lt hj,<-Array.getElem?_eq_getElem hj,<-Array.getD_eq_getD_getElem?]
theorem aEN {l:Array Bool} {j:Nat} (h:l.getD j false=true):j<l.size:=by
 rcases Nat.lt_or_ge j l.size with h' | h'
 ·exact h'
 ·simp [Array.getElem?_eq_none h'] at h
theorem DD {L:List Oper} {n:Nat} {listed:Array Bool} (hs:rU md L n=true) (gW:listed.size=n) {i:Nat} (hi:i<n):i∈Region.ready md L.toArray (listed.push false)<->i∈Region.ready md (L.take n).toArray listed:=by
 obtain ⟨h1,h2,h3⟩:=kP hs;rw [mem_ready,mem_ready,List.getElem?_toArray,List.getElem?_toArray,List.getElem?_take_of_lt hi,gZ (by omega)];refine and_congr Iff.rfl ⟨?_,?_⟩
 ·rintro ⟨o,ho,h⟩
  exact ⟨o,ho,fun e he hb=>by rw [<-gZ (by have:=(h2 i o ho).1 e he hb;omega)];exact h e he hb⟩
 ·rintro ⟨o,ho,h⟩
  exact ⟨o,ho,fun e he hb=>by rw [gZ (by have:=(h2 i o ho).1 e he hb;omega)];exact h e he hb⟩
theorem G_ {F:List Oper} {listed:Array Bool} {i:Nat} (hc:mD md F listed) (hr:i∈Region.ready md F.toArray listed):mD md F (listed.setIfInBounds i true):=by
 intro j o ho hj e he hb
 by_cases xM:i=j
 ·subst xM
  obtain ⟨_,o',SO,CH⟩:=mem_ready.1 hr;rw [List.getElem?_toArray,ho] at SO;injection SO with SO;subst SO;exact getD_set_true (CH e he hb)
 ·rw [getD_set_ne false xM] at hj
  exact getD_set_true (hc j o ho hj e he hb)
theorem DH {L:List Oper} {n:Nat} {listed:Array Bool} (h1:L.length=n+1) (gW:listed.size=n) (CH:∀ j,j<n->listed.getD j false=true):Region.ready md L.toArray ((listed.push false).setIfInBounds n true)=[]:=by
 rw [List.eq_nil_iff_forall_not_mem];intro j hj;obtain ⟨h0,o,ho,_⟩:=mem_ready.1 hj;rw [List.getElem?_toArray] at ho;have sQ:=(dP.1 ho).1
 by_cases tL:n=j
 ·subst tL
  simp [gW] at h0
 ·rw [getD_set_ne true tL,gZ (by omega),oG (by omega),CH j (by omega)] at h0
  cases h0
theorem jC {L:List Oper} {n:Nat} {oN:Oper} (hs:rU md L n=true) (hN:L[n]?=some oN):∀ (fuel:Nat) (listed:Array Bool) (a:Act) (w:Wo),listed.size=n->mD md (L.take n) listed->
    wpAny P md (L.take n).toArray (kY P L.toArray oN Q) fuel listed a w->wpAny P md L.toArray Q (fuel+1) (listed.push false) a w:=by
 obtain ⟨h1,h2,h3⟩:=kP hs;have key:∀ (fuel:Nat) (listed:Array Bool) (a:Act) (w:Wo),listed.size=n->mD md (L.take n) listed->Region.ready md (L.take n).toArray listed=[]->kY P L.toArray oN Q .normal a w->wpAny P md L.toArray Q (fuel+1) (listed.push false) a w:=by
  intro fuel listed a w gW hc hr hq;have CH:∀ m j,j<m->j<n->listed.getD j false=true:=by
   intro m
   induction m with
   | zero=>intro j hj;omega
   | succ m ih=>
    intro j hj tL;cases hl:listed.getD j false with
    | true=>rfl
    | false=>
     exfalso;have sQ:j<L.length:=by omega
     have aEk:j∈Region.ready md (L.take n).toArray listed:=by
      rw [mem_ready,List.getElem?_toArray,List.getElem?_take_of_lt tL,oG (by omega),hl];refine ⟨rfl,L[j],jA sQ,fun e he hb=>ih _ ?_ ?_⟩
      ·have:=(h2 j _ (jA sQ)).1 e he hb;omega
      ·have:=(h2 j _ (jA sQ)).1 e he hb;omega
     rw [hr] at aEk;cases aEk
  have GS:=fun j hj=>CH n j hj hj;have hnr:n∈Region.ready md L.toArray (listed.push false):=by
   rw [mem_ready,List.getElem?_toArray];refine ⟨by simp [<-gW],oN,hN,fun e he hb=>?_⟩;have:=(h2 n oN hN).1 e he hb;rw [gZ (by omega)];exact GS _ this
  refine ⟨fun h0=>by rw [h0] at hnr;exact absurd hnr (by simp),fun j hj=>?_⟩;have tL:j=n:=by
   obtain ⟨h0,o,ho,_⟩:=mem_ready.1 hj;rw [List.getElem?_toArray] at ho;have sQ:=(dP.1 ho).1;refine Decidable.byContradiction fun cP=>?_;rw [gZ (by omega),oG (by omega),GS j (by omega)] at h0;cases h0
  subst tL;unfold wpOp;rw [List.getElem?_toArray,hN];simp only;have hd:=DH (md:=md) h1 gW GS;unfold kY at hq;dsimp only at hq
  split
  ·rename_i hw
   rw [if_pos hw] at hq;exact .inl (Oper.wp_mono (fun a' w' h=>wpAny_done hd h fuel) hq)
  ·rename_i hw
   rw [if_neg hw] at hq;exact wpAny_done hd hq fuel
 intro fuel
 induction fuel with
 | zero=>intro listed a w gW hc h;exact key 0 listed a w gW hc h.1 h.2
 | succ fuel ih=>
  intro listed a w gW hc h
  by_cases hr:Region.ready md (L.take n).toArray listed=[]
  ·exact key (fuel+1) listed a w gW hc hr (h.1 hr)
  ·have SP:n∉Region.ready md L.toArray (listed.push false):=by
    intro hn;obtain ⟨_,o,ho,CH⟩:=mem_ready.1 hn;rw [List.getElem?_toArray,hN] at ho;injection ho with ho;subst ho;have hl:=VU hs hN gW hc CH;apply hr;rw [List.eq_nil_iff_forall_not_mem];intro j hj;obtain ⟨h0,o,ho,_⟩:=mem_ready.1 hj;rw [List.getElem?_toArray] at ho;have sQ:=(dP.1 ho).1;have tL:j<n:=by simp at sQ;omega
    have:=hl (n-j) j (by omega) (by omega);rw [oG (by omega),this] at h0;cases h0
   have aW:∀ j,j∈Region.ready md L.toArray (listed.push false)->j<n:=fun j hj=>by
    obtain ⟨_,o,ho,_⟩:=mem_ready.1 hj;rw [List.getElem?_toArray] at ho;have:=(dP.1 ho).1;have cP:j≠n:=fun e=>SP (e▸hj);omega
   refine ⟨fun h0=>?_,fun j hj=>?_⟩
   ·exfalso
    obtain ⟨j,hj⟩:=List.exists_mem_of_ne_nil _ hr;have tL:j<n:=by
     obtain ⟨_,o,ho,_⟩:=mem_ready.1 hj;rw [List.getElem?_toArray] at ho;have:=(dP.1 ho).1;simp at this;omega
    have:=(DD hs gW tL).2 hj;rw [h0] at this;cases this
   ·have tL:=aW j hj
    have hjr:=(DD hs gW tL).1 hj;refine FA (L:=L) (F:=L.take n) (by rw [List.getElem?_take_of_lt tL]) (fun o ho g b hg=>?_) (fun a' w' hh=>?_) (h.2 j hjr)
    ·rw [List.getElem?_take_of_lt tL] at ho
     rw [List.getElem?_take_of_lt ((h2 j o ho).2 g b hg)]
    ·rw [lK (by omega)]
     exact ih _ a' w' (by simpa using gW) (G_ hc hjr) hh
theorem aJ {S:World->Prop} {id:Nat} {a:Act} {w:Wo} {L:List Oper} (n:Nat) (oN:Oper) (hm:P.follows .mixedOrders=true) (hs:rU .any L n=true) (hN:L[n]?=some oN) (hS:S w.drew)
    (h:S w.drew->wpAnyH P .any (L.take n).toArray (kY P L.toArray oN Q) S n (Array.replicate n false) a w.drew):(Code.region id L.toArray true).wp P Q a w:=by
 obtain ⟨h1,h2,h3⟩:=kP hs;refine wp_region_any hm ?_;rw [show L.toArray.size=n+1 from by simpa using h1,Array.replicate_succ];refine jC hs hN n _ a _ (by simp) (fun j o ho hj=>?_) (wpAny_of_held _ _ _ _ (h hS));rcases Nat.lt_or_ge j n with h' | h'<;>simp [h'] at hj
def yU (md:Region.Mode) (ops:Array Oper) (listed:Array Bool) (i:Nat):Bool:=Region.noSelect ops && Region.free md ops listed i && (Region.ready md ops listed).contains i
theorem cK {L:List Oper} {S:World->Prop} (i:Nat) {oi:Oper} {v:Value} {fuel:Nat} {listed:Array Bool} {a:Act} {w:Wo} (hi:L[i]?=some oi) (hB:yU md L.toArray listed i=true)
    (hQ:∀ c a w,Q (.panic c) (a.put oi.dst v) w->Q (.panic c) a w) (hw:Region.wanted oi (yielded L.toArray a.tmps)=true) (hy:∀ w,S w->(execOp a.eval oi).run P w=.ok (.value v) w) (hS:S w)
    (h:wpAnyH P md L.toArray Q S fuel (listed.setIfInBounds i true) (a.put oi.dst v) w):wpAnyH P md L.toArray Q S (fuel+1) listed a w:=by
 unfold yU at hB;rw [Bool.and_eq_true,Bool.and_eq_true] at hB;exact wpAnyH_take (by rw [List.getElem?_toArray];exact hi) hB.1.1 hB.1.2 hB.2 hQ (.inl ⟨hw,hy⟩) hS h
theorem aU {L:List Oper} {S:World->Prop} (i:Nat) {o:Oper} {fuel:Nat} {listed:Array Bool} {a:Act} {w:Wo} (hr:Region.ready md L.toArray listed=[i]) (ho:L[i]?=some o)
    (h:∀ K':Act->World->Prop,Shut (∀ a w,S w->(S w->wpAnyH P md L.toArray Q S fuel (listed.setIfInBounds i true) a w)->K' a w)->if Region.wanted o (yielded L.toArray a.tmps)=true then Oper.wp P o a w K' Q else K' (a.put o.dst undef) w):wpAnyH P md L.toArray Q S (fuel+1) listed a w:=
 wpAnyH_ready hr (by simp) (AllReadyH.cons (by rw [List.getElem?_toArray];exact ho) h AllReadyH.nil)
theorem aP {ops:Array Oper} {o:Oper} {a:Act} {w:Wo} (hw:Region.wanted o (yielded ops a.tmps)=true) (h:Oper.wp P o a w (Q .normal) Q):kY P ops o Q .normal a w:=by
 unfold kY;dsimp only;rw [if_pos hw];exact h
end
end
end Go.Proofs.YthgdchffeigkbaaGreatDoor
namespace Go.Proofs
open Go.Shelf
def Tryz.lays169_ren:Go.Shelf.Ren:=⟨fun | 169=>153 | n=>n,fun | 70=>230 | 9=>9 | 0=>0 | 72=>233 | 37=>231 | 127=>252 | 3=>3 | 5=>5 | n=>n,fun | n=>n⟩
theorem Tryz.lays169:Go.Proofs.Lays.n169 Tryz.prog Tryz.lays169_ren:={
 mixed:=by kernel_rfl
 f169:=Tryz.func153.trans (congrArg some (by kernel_rfl))
 t0:=Tryz.underlying0
 a0:=Tryz.isAgg0
 z0:=Tryz.sizeOf0
 v0:=Tryz.zeroValue0
 t3:=Tryz.underlying3
 a3:=Tryz.isAgg3
 z3:=Tryz.sizeOf3
 v3:=Tryz.zeroValue3
 t9:=Tryz.underlying9
 a9:=Tryz.isAgg9
 z9:=Tryz.sizeOf9
 v9:=Tryz.zeroValue9
 t37:=Tryz.underlying231
 a37:=Tryz.isAgg231
 z37:=Tryz.sizeOf231
 v37:=Tryz.zeroValue231
 t70:=Tryz.underlying230
 a70:=Tryz.isAgg230
 z70:=Tryz.sizeOf230
 v70:=Tryz.zeroValue230
 t72:=Tryz.underlying233
 a72:=Tryz.isAgg233
 z72:=Tryz.sizeOf233
 v72:=Tryz.zeroValue233
 t127:=Tryz.underlying252
 a127:=Tryz.isAgg252
 z127:=Tryz.sizeOf252
 v127:=Tryz.zeroValue252 }
theorem Tryz.Builder_Extra_169:Builder.Extra Tryz.prog Tryz.lays169_ren:={
 sizeBuilder:=by kernel_rfl
 liesBuilder:=by kernel_rfl
 t5:=Tryz.underlying5
 a5:=Tryz.isAgg5
 z5:=Tryz.sizeOf5
 v5:=Tryz.zeroValue5
 infoByte:=by kernel_rfl
 cellsByte:=by kernel_rfl
 sizeByte:=by kernel_rfl
 neB5:=by decide }
open Go.RowKit in
theorem Tryz.Builder_String (B b:Nat) (l:List UInt8) (w:Wo) (h:Lib.IsBuilder 233 5 B b (Lib.byteCells l) w) (h0:l≠[]) :
    Calls Tryz.prog 153 #[.pointer (some ⟨b,0,none⟩)] w fun e w'=>e=.returned (.string ⟨l.toArray⟩)/\Below B w w':=Any.Builder_String Tryz.lays169 Tryz.Builder_Extra_169 B b l w h h0
def Tryz.lays128_ren:Go.Shelf.Ren:=⟨fun | 128=>201 | n=>n,fun | 51=>216 | 3=>3 | 4=>4 | 46=>217 | 5=>5 | 9=>9 | n=>n,fun | n=>n⟩
def Tryz.lays133_ren:Go.Shelf.Ren:=⟨fun | 133=>189 | 128=>201 | n=>n,fun | 51=>216 | 3=>3 | 4=>4 | 46=>217 | 5=>5 | 9=>9 | n=>n,fun | n=>n⟩
theorem Tryz.lays133:Go.Proofs.Lays.n133 Tryz.prog Tryz.lays133_ren:={
 mixed:=by kernel_rfl
 f128:=Tryz.func201.trans (congrArg some (by kernel_rfl))
 f133:=Tryz.func189.trans (congrArg some (by kernel_rfl))
 t3:=Tryz.underlying3
 a3:=Tryz.isAgg3
 z3:=Tryz.sizeOf3
 v3:=Tryz.zeroValue3
 t4:=Tryz.underlying4
 a4:=Tryz.isAgg4
 z4:=Tryz.sizeOf4
 v4:=Tryz.zeroValue4
 t5:=Tryz.underlying5
 a5:=Tryz.isAgg5
 z5:=Tryz.sizeOf5
 v5:=Tryz.zeroValue5
 t9:=Tryz.underlying9
 a9:=Tryz.isAgg9
 z9:=Tryz.sizeOf9
 v9:=Tryz.zeroValue9
 t46:=Tryz.underlying217
 a46:=Tryz.isAgg217
 z46:=Tryz.sizeOf217
 v46:=Tryz.zeroValue217
 t51:=Tryz.underlying216
 a51:=Tryz.isAgg216
 z51:=Tryz.sizeOf216
 v51:=Tryz.zeroValue216 }
theorem Tryz.bits_LeadingZeros32 (x:Int) (w:Wo) (h0:0<=x) (h1:x<=4294967295) :
    Calls Tryz.prog 189 #[.int .u32 x] w fun e w'=>e=.returned (.int .i64 (32-(Lib.bitLen x.toNat:Int)))/\w'=w:=Any.bits_LeadingZeros32 Tryz.lays133 x w h0 h1
def Tryz.lays283_ren:Go.Shelf.Ren:=⟨fun | 283=>173 | n=>n,fun | 3=>3 | 9=>9 | 4=>4 | n=>n,fun | n=>n⟩
theorem Tryz.lays283:Go.Proofs.Lays.n283 Tryz.prog Tryz.lays283_ren:={
 mixed:=by kernel_rfl
 f283:=Tryz.func173.trans (congrArg some (by kernel_rfl))
 t3:=Tryz.underlying3
 a3:=Tryz.isAgg3
 z3:=Tryz.sizeOf3
 v3:=Tryz.zeroValue3
 t4:=Tryz.underlying4
 a4:=Tryz.isAgg4
 z4:=Tryz.sizeOf4
 v4:=Tryz.zeroValue4
 t9:=Tryz.underlying9
 a9:=Tryz.isAgg9
 z9:=Tryz.sizeOf9
 v9:=Tryz.zeroValue9 }
open Go.Lib in
theorem Tryz.internal_strconv_small (i:Nat) (h:i<100) (w:Wo) :
    Calls Tryz.prog 173 #[.int .i64 i] w fun e w'=>e=.returned (.string ⟨(Lib.decDigits i).toArray⟩)/\w'=w:=Any.internal_strconv_small Tryz.lays283 i h w
def Tryz.laysM284_ren:Go.Shelf.Ren:=⟨fun | 284=>174 | 129=>193 | 317=>192 | 318=>194 | n=>n,fun | 53=>214 | 3=>3 | 212=>274 | 0=>0 | 4=>4 | 46=>217 | 5=>5 | 9=>9 | n=>n,fun | 17=>1 | n=>n⟩
theorem Tryz.laysM284:Go.Proofs.LaysM.n284 Tryz.prog Tryz.laysM284_ren:={
 mixed:=by kernel_rfl
 f129:=Tryz.func193.trans (congrArg some (by kernel_rfl))
 f284:=Tryz.func174.trans (congrArg some (by kernel_rfl))
 f317:=Tryz.func192.trans (congrArg some (by kernel_rfl))
 f318:=Tryz.func194.trans (congrArg some (by kernel_rfl))
 t0:=Tryz.underlying0
 a0:=Tryz.isAgg0
 z0:=Tryz.sizeOf0
 v0:=Tryz.zeroValue0
 t3:=Tryz.underlying3
 a3:=Tryz.isAgg3
 z3:=Tryz.sizeOf3
 v3:=Tryz.zeroValue3
 t4:=Tryz.underlying4
 a4:=Tryz.isAgg4
 z4:=Tryz.sizeOf4
 v4:=Tryz.zeroValue4
 t5:=Tryz.underlying5
 a5:=Tryz.isAgg5
 z5:=Tryz.sizeOf5
 v5:=Tryz.zeroValue5
 t9:=Tryz.underlying9
 a9:=Tryz.isAgg9
 z9:=Tryz.sizeOf9
 v9:=Tryz.zeroValue9
 t46:=Tryz.underlying217
 a46:=Tryz.isAgg217
 z46:=Tryz.sizeOf217
 v46:=Tryz.zeroValue217
 t53:=Tryz.underlying214
 a53:=Tryz.isAgg214
 z53:=Tryz.sizeOf214
 v53:=Tryz.zeroValue214
 t212:=Tryz.underlying274
 a212:=Tryz.isAgg274
 z212:=Tryz.sizeOf274
 v212:=Tryz.zeroValue274
 g17:=by kernel_rfl
 i0:=by kernel_rfl
 i3:=by kernel_rfl
 i4:=by kernel_rfl
 i5:=by kernel_rfl
 i9:=by kernel_rfl
 i46:=by kernel_rfl
 i53:=by kernel_rfl
 i212:=by kernel_rfl
 m17:=by kernel_rfl }
open Go.Lib in
theorem Tryz.internal_strconv_numDigits (u : Nat) (h1 : 1 <= u) (h2 : u < 18446744073709551616) (w : World) (aUp : Lib.TabIs Tryz.prog w "internal/strconv.uint64pow10" .u64 Lib.pow10Tab) :
    Calls Tryz.prog 174 #[.int .u64 u] w fun e w'=>e=.returned (.int .i64 (Lib.nDigits u))/\w'=w:=Any.internal_strconv_numDigits Tryz.laysM284 u h1 h2 w aUp
def Tryz.lays285_ren:Go.Shelf.Ren:=⟨fun | 285=>175 | n=>n,fun | 37=>231 | 53=>214 | 3=>3 | 4=>4 | 51=>216 | 9=>9 | 5=>5 | 0=>0 | n=>n,fun | n=>n⟩
theorem Tryz.lays285:Go.Proofs.Lays.n285 Tryz.prog Tryz.lays285_ren:={
 mixed:=by kernel_rfl
 f285:=Tryz.func175.trans (congrArg some (by kernel_rfl))
 t0:=Tryz.underlying0
 a0:=Tryz.isAgg0
 z0:=Tryz.sizeOf0
 v0:=Tryz.zeroValue0
 t3:=Tryz.underlying3
 a3:=Tryz.isAgg3
 z3:=Tryz.sizeOf3
 v3:=Tryz.zeroValue3
 t4:=Tryz.underlying4
 a4:=Tryz.isAgg4
 z4:=Tryz.sizeOf4
 v4:=Tryz.zeroValue4
 t5:=Tryz.underlying5
 a5:=Tryz.isAgg5
 z5:=Tryz.sizeOf5
 v5:=Tryz.zeroValue5
 t9:=Tryz.underlying9
 a9:=Tryz.isAgg9
 z9:=Tryz.sizeOf9
 v9:=Tryz.zeroValue9
 t37:=Tryz.underlying231
 a37:=Tryz.isAgg231
 z37:=Tryz.sizeOf231
 v37:=Tryz.zeroValue231
 t51:=Tryz.underlying216
 a51:=Tryz.isAgg216
 z51:=Tryz.sizeOf216
 v51:=Tryz.zeroValue216
 t53:=Tryz.underlying214
 a53:=Tryz.isAgg214
 z53:=Tryz.sizeOf214
 v53:=Tryz.zeroValue214 }
open Go.RowKit Go.Sort Go.Lib in
theorem Tryz.internal_strconv_formatBase10 (blk off cap:Nat) (u:Nat) (d:Array UInt8) (w:Wo) (hH:Holds (fun (b:UInt8)=>Value.int .u8 (b.toNat:Int)) w blk off d) (hu:u<10^d.size) (US:u<18446744073709551616) (gW:d.size<4611686018427387904) :
    Calls Tryz.prog 175 #[.slice (some ⟨blk,off,none⟩) d.size cap,.int .u64 u] w fun e w'=>
     e=.returned (.tuple #[])/\∃ (n v':Nat) (dk:Array UInt8),w'=(putRow (fun (b:UInt8)=>Value.int .u8 (b.toNat:Int)) w blk off dk).drewN n/\FmtInv d.size u 0 v' dk:=Any.internal_strconv_formatBase10 Tryz.lays285 blk off cap u d w hH hu US gW
def Tryz.laysPu14_ren:Go.Shelf.Ren:=⟨fun | 14=>144 | 16=>166 | 17=>167 | 19=>183 | 20=>184 | 21=>185 | 22=>186 | 23=>187 | 24=>188 | 25=>199 | 27=>87 | 26=>200 | 28=>126 | 29=>157 | 30=>173 | 31=>174 | 32=>175 | 33=>176 | 35=>193 | 34=>192 | 36=>194 | 37=>195 | 38=>196 | 39=>202 | 40=>203 | n=>n,fun | 9=>9 | 3=>3 | 22=>214 | 24=>220 | 25=>221 | 4=>4 | 34=>264 | 5=>5 | 36=>217 | 37=>231 | 0=>0 | 39=>266 | 21=>21 | 44=>280 | 47=>252 | 50=>284 | 48=>282 | 2=>2 | 52=>253 | 55=>256 | 59=>274 | 60=>216 | 20=>20 | 61=>275 | 65=>285 | 66=>286 | 67=>237 | n=>n,fun | 0=>2 | 1=>3 | 2=>1 | 3=>4 | 4=>5 | n=>n⟩
theorem Tryz.laysPu14:Go.Proofs.LaysPu.n14 Tryz.prog Tryz.laysPu14_ren:={
 mixed:=by kernel_rfl
 f14:=Tryz.func144.trans (congrArg some (by kernel_rfl))
 f16:=Tryz.func166.trans (congrArg some (by kernel_rfl))
 f17:=Tryz.func167.trans (congrArg some (by kernel_rfl))
 f19:=Tryz.func183.trans (congrArg some (by kernel_rfl))
 f20:=Tryz.func184.trans (congrArg some (by kernel_rfl))
 f21:=Tryz.func185.trans (congrArg some (by kernel_rfl))
 f22:=Tryz.func186.trans (congrArg some (by kernel_rfl))
 f23:=Tryz.func187.trans (congrArg some (by kernel_rfl))
 f24:=Tryz.func188.trans (congrArg some (by kernel_rfl))
 f25:=Tryz.func199.trans (congrArg some (by kernel_rfl))
 f26:=Tryz.func200.trans (congrArg some (by kernel_rfl))
 f27:=Tryz.func87.trans (congrArg some (by kernel_rfl))
 f28:=Tryz.func126.trans (congrArg some (by kernel_rfl))
 f29:=Tryz.func157.trans (congrArg some (by kernel_rfl))
 f30:=Tryz.func173.trans (congrArg some (by kernel_rfl))
 f31:=Tryz.func174.trans (congrArg some (by kernel_rfl))
 f32:=Tryz.func175.trans (congrArg some (by kernel_rfl))
 f33:=Tryz.func176.trans (congrArg some (by kernel_rfl))
 f34:=Tryz.func192.trans (congrArg some (by kernel_rfl))
 f35:=Tryz.func193.trans (congrArg some (by kernel_rfl))
 f36:=Tryz.func194.trans (congrArg some (by kernel_rfl))
 f37:=Tryz.func195.trans (congrArg some (by kernel_rfl))
 f38:=Tryz.func196.trans (congrArg some (by kernel_rfl))
 f39:=Tryz.func202.trans (congrArg some (by kernel_rfl))
 f40:=Tryz.func203.trans (congrArg some (by kernel_rfl))
 t0:=Tryz.underlying0
 a0:=Tryz.isAgg0
 z0:=Tryz.sizeOf0
 v0:=Tryz.zeroValue0
 i0:=by kernel_rfl
 t2:=Tryz.underlying2
 a2:=Tryz.isAgg2
 z2:=Tryz.sizeOf2
 v2:=Tryz.zeroValue2
 i2:=by kernel_rfl
 t3:=Tryz.underlying3
 a3:=Tryz.isAgg3
 z3:=Tryz.sizeOf3
 v3:=Tryz.zeroValue3
 i3:=by kernel_rfl
 t4:=Tryz.underlying4
 a4:=Tryz.isAgg4
 z4:=Tryz.sizeOf4
 v4:=Tryz.zeroValue4
 i4:=by kernel_rfl
 t5:=Tryz.underlying5
 a5:=Tryz.isAgg5
 z5:=Tryz.sizeOf5
 v5:=Tryz.zeroValue5
 i5:=by kernel_rfl
 t9:=Tryz.underlying9
 a9:=Tryz.isAgg9
 z9:=Tryz.sizeOf9
 v9:=Tryz.zeroValue9
 i9:=by kernel_rfl
 t20:=Tryz.underlying20
 a20:=Tryz.isAgg20
 z20:=Tryz.sizeOf20
 v20:=Tryz.zeroValue20
 i20:=by kernel_rfl
 t21:=Tryz.underlying21
 a21:=Tryz.isAgg21
 z21:=Tryz.sizeOf21
 v21:=Tryz.zeroValue21
 i21:=by kernel_rfl
 t22:=Tryz.underlying214
 a22:=Tryz.isAgg214
 z22:=Tryz.sizeOf214
 v22:=Tryz.zeroValue214
 i22:=by kernel_rfl
 t24:=Tryz.underlying220
 a24:=Tryz.isAgg220
 z24:=Tryz.sizeOf220
 v24:=Tryz.zeroValue220
 i24:=by kernel_rfl
 t25:=Tryz.underlying221
 a25:=Tryz.isAgg221
 z25:=Tryz.sizeOf221
 v25:=Tryz.zeroValue221
 i25:=by kernel_rfl
 t34:=Tryz.underlying264
 a34:=Tryz.isAgg264
 z34:=Tryz.sizeOf264
 v34:=Tryz.zeroValue264
 i34:=by kernel_rfl
 c34:=by kernel_rfl
 t36:=Tryz.underlying217
 a36:=Tryz.isAgg217
 z36:=Tryz.sizeOf217
 v36:=Tryz.zeroValue217
 i36:=by kernel_rfl
 t37:=Tryz.underlying231
 a37:=Tryz.isAgg231
 z37:=Tryz.sizeOf231
 v37:=Tryz.zeroValue231
 i37:=by kernel_rfl
 t39:=Tryz.underlying266
 a39:=Tryz.isAgg266
 z39:=Tryz.sizeOf266
 v39:=Tryz.zeroValue266
 i39:=by kernel_rfl
 t44:=Tryz.underlying280
 a44:=Tryz.isAgg280
 z44:=Tryz.sizeOf280
 v44:=Tryz.zeroValue280
 i44:=by kernel_rfl
 t47:=Tryz.underlying252
 a47:=Tryz.isAgg252
 z47:=Tryz.sizeOf252
 v47:=Tryz.zeroValue252
 i47:=by kernel_rfl
 t48:=Tryz.underlying282
 a48:=Tryz.isAgg282
 z48:=Tryz.sizeOf282
 v48:=Tryz.zeroValue282
 i48:=by kernel_rfl
 t50:=Tryz.underlying284
 a50:=Tryz.isAgg284
 z50:=Tryz.sizeOf284
 v50:=Tryz.zeroValue284
 i50:=by kernel_rfl
 t52:=Tryz.underlying253
 a52:=Tryz.isAgg253
 z52:=Tryz.sizeOf253
 v52:=Tryz.zeroValue253
 i52:=by kernel_rfl
 t55:=Tryz.underlying256
 a55:=Tryz.isAgg256
 z55:=Tryz.sizeOf256
 v55:=Tryz.zeroValue256
 i55:=by kernel_rfl
 t59:=Tryz.underlying274
 a59:=Tryz.isAgg274
 z59:=Tryz.sizeOf274
 v59:=Tryz.zeroValue274
 i59:=by kernel_rfl
 t60:=Tryz.underlying216
 a60:=Tryz.isAgg216
 z60:=Tryz.sizeOf216
 v60:=Tryz.zeroValue216
 i60:=by kernel_rfl
 t61:=Tryz.underlying275
 a61:=Tryz.isAgg275
 z61:=Tryz.sizeOf275
 t65:=Tryz.underlying285
 a65:=Tryz.isAgg285
 z65:=Tryz.sizeOf285
 v65:=Tryz.zeroValue285
 i65:=by kernel_rfl
 t66:=Tryz.underlying286
 a66:=Tryz.isAgg286
 z66:=Tryz.sizeOf286
 v66:=Tryz.zeroValue286
 i66:=by kernel_rfl
 t67:=Tryz.underlying237
 a67:=Tryz.isAgg237
 z67:=Tryz.sizeOf237
 v67:=Tryz.zeroValue237
 i67:=by kernel_rfl
 g0:=by kernel_rfl
 m0:=by kernel_rfl
 g1:=by kernel_rfl
 m1:=by kernel_rfl
 g2:=by kernel_rfl
 m2:=by kernel_rfl
 g3:=by kernel_rfl
 m3:=by kernel_rfl
 g4:=by kernel_rfl
 m4:=by kernel_rfl }
open Go.RowKit in
theorem Tryz.strconv_ParseUint_10_at32_ok (s:ByteArray) (aUS:s.size<=9223372036854775806) (u:Nat) (h:Lib.parseUintB 32 s.data.toList=.ok u) (w:Wo) :
    Calls Tryz.prog 144 #[.string s,.int .i64 10,.int .i64 32] w fun e w'=>e=.returned (.tuple #[.int .u64 u,.nilIface])/\(w'=w\/w'=Lib.bytesWorld w 5 s):=Any.strconv_ParseUint_10_at32_ok Tryz.laysPu14 s aUS u h w
def Tryz.lays219_ren:Go.Shelf.Ren:=⟨fun | 219=>164 | 217=>179 | 225=>180 | 224=>181 | 267=>182 | 266=>197 | 314=>198 | n=>n,fun | 9=>9 | 3=>3 | 4=>4 | 5=>5 | 46=>217 | 146=>259 | 51=>216 | n=>n,fun | 1=>0 | n=>n⟩
theorem Tryz.lays219:Go.Proofs.Lays.n219 Tryz.prog Tryz.lays219_ren:={
 mixed:=by kernel_rfl
 f217:=Tryz.func179.trans (congrArg some (by kernel_rfl))
 f219:=Tryz.func164.trans (congrArg some (by kernel_rfl))
 f224:=Tryz.func181.trans (congrArg some (by kernel_rfl))
 f225:=Tryz.func180.trans (congrArg some (by kernel_rfl))
 f266:=Tryz.func197.trans (congrArg some (by kernel_rfl))
 f267:=Tryz.func182.trans (congrArg some (by kernel_rfl))
 f314:=Tryz.func198.trans (congrArg some (by kernel_rfl))
 t3:=Tryz.underlying3
 a3:=Tryz.isAgg3
 z3:=Tryz.sizeOf3
 v3:=Tryz.zeroValue3
 t4:=Tryz.underlying4
 a4:=Tryz.isAgg4
 z4:=Tryz.sizeOf4
 v4:=Tryz.zeroValue4
 t5:=Tryz.underlying5
 a5:=Tryz.isAgg5
 z5:=Tryz.sizeOf5
 v5:=Tryz.zeroValue5
 t9:=Tryz.underlying9
 a9:=Tryz.isAgg9
 z9:=Tryz.sizeOf9
 v9:=Tryz.zeroValue9
 t46:=Tryz.underlying217
 a46:=Tryz.isAgg217
 z46:=Tryz.sizeOf217
 v46:=Tryz.zeroValue217
 t51:=Tryz.underlying216
 a51:=Tryz.isAgg216
 z51:=Tryz.sizeOf216
 v51:=Tryz.zeroValue216
 t146:=Tryz.underlying259
 a146:=Tryz.isAgg259
 z146:=Tryz.sizeOf259
 v146:=Tryz.zeroValue259
 g1:=by kernel_rfl }
open Go.RowKit Go.Lib in
theorem Tryz.stringslite_Index_one (s:ByteArray) (c:UInt8) (w:Wo) :
    Calls Tryz.prog 164 #[.string s,.string ⟨#[c]⟩] w fun e w'=>e=.returned (.int .i64 (Lib.indexByte s.data.toList c))/\w'=w:=Any.stringslite_Index_one Tryz.lays219 s c w
def Tryz.lays206_ren:Go.Shelf.Ren:=⟨fun | 206=>165 | n=>n,fun | 9=>9 | 4=>4 | 3=>3 | n=>n,fun | n=>n⟩
def Tryz.lays99_ren:Go.Shelf.Ren:=⟨fun | 99=>143 | 206=>165 | n=>n,fun | 9=>9 | 4=>4 | 3=>3 | n=>n,fun | n=>n⟩
theorem Tryz.lays99:Go.Proofs.Lays.n99 Tryz.prog Tryz.lays99_ren:={
 mixed:=by kernel_rfl
 f99:=Tryz.func143.trans (congrArg some (by kernel_rfl))
 f206:=Tryz.func165.trans (congrArg some (by kernel_rfl))
 t3:=Tryz.underlying3
 a3:=Tryz.isAgg3
 z3:=Tryz.sizeOf3
 v3:=Tryz.zeroValue3
 t4:=Tryz.underlying4
 a4:=Tryz.isAgg4
 z4:=Tryz.sizeOf4
 v4:=Tryz.zeroValue4
 t9:=Tryz.underlying9
 a9:=Tryz.isAgg9
 z9:=Tryz.sizeOf9
 v9:=Tryz.zeroValue9 }
open Go.RowKit Go.Lib in
theorem Tryz.strings_HasPrefix (s p:ByteArray) (w:Wo) :
    Calls Tryz.prog 143 #[.string s,.string p] w fun e w'=>e=.returned (.bool (Lib.hasPrefix s.data.toList p.data.toList))/\w'=w:=Any.strings_HasPrefix Tryz.lays99 s p w
def Tryz.lays101_ren:Go.Shelf.Ren:=⟨fun | 101=>136 | 208=>160 | 206=>165 | n=>n,fun | 9=>9 | 4=>4 | 3=>3 | n=>n,fun | n=>n⟩
theorem Tryz.lays101:Go.Proofs.Lays.n101 Tryz.prog Tryz.lays101_ren:={
 mixed:=by kernel_rfl
 f101:=Tryz.func136.trans (congrArg some (by kernel_rfl))
 f206:=Tryz.func165.trans (congrArg some (by kernel_rfl))
 f208:=Tryz.func160.trans (congrArg some (by kernel_rfl))
 t3:=Tryz.underlying3
 a3:=Tryz.isAgg3
 z3:=Tryz.sizeOf3
 v3:=Tryz.zeroValue3
 t4:=Tryz.underlying4
 a4:=Tryz.isAgg4
 z4:=Tryz.sizeOf4
 v4:=Tryz.zeroValue4
 t9:=Tryz.underlying9
 a9:=Tryz.isAgg9
 z9:=Tryz.sizeOf9
 v9:=Tryz.zeroValue9 }
open Go.RowKit Go.Lib in
theorem Tryz.strings_TrimPrefix (s p:ByteArray) (w:Wo) :
    Calls Tryz.prog 136 #[.string s,.string p] w fun e w'=>e=.returned (.string ⟨(Lib.trimPrefix s.data.toList p.data.toList).toArray⟩)/\w'=w:=Any.strings_TrimPrefix Tryz.lays101 s p w
end Go.Proofs
namespace Go.Proofs.YthgdchffeigkbaaGreatDoor
