import Derived.Test.YthgdchffeigkbaaGreatDoorU05
import Derived.Test.YthgdchffeigkbaaGreatDoorU06
set_option linter.unusedVariables false
set_option linter.unusedSimpArgs false
namespace Go.Proofs.YthgdchffeigkbaaGreatDoor
section
open Go.ChangeShapes Go.WideShapes Go.ChangeAt Go.RowKit
structure RtIs (w:World) (B:Nat) (q:Rat) (b1:Bool) (A:Option Addr) (n c:Nat) (b2:Bool) (A2:Option Addr) (m d:Nat):Prop where
 num:LgIs w B q.num b1 A n c
 den:LgIs w B (q.den:Int) b2 A2 m d
section
variable {w w':World} {B B':Nat} {q:Rat} {b1:Bool} {A:Option Addr} {n c:Nat} {b2:Bool} {A2:Option Addr} {m d:Nat}
theorem RtIs.below (h:RtIs w B q b1 A n c b2 A2 m d) (hb:Below B' w w') (hB:B≤B'):RtIs w' B q b1 A n c b2 A2 m d:=⟨h.num.below hb hB,h.den.below hb hB⟩
theorem RtIs.more (h:RtIs w B q b1 A n c b2 A2 m d) (hB:B≤B'):RtIs w B' q b1 A n c b2 A2 m d:=⟨h.num.more hB,h.den.more hB⟩
theorem RtIs.up (h:RtIs w w.heap.size q b1 A n c b2 A2 m d) (hb:Below w.heap.size w w'):RtIs w' w'.heap.size q b1 A n c b2 A2 m d:=⟨h.num.up hb,h.den.up hb⟩
theorem RtIs.keep (h:RtIs w w.heap.size q b1 A n c b2 A2 m d) {p:Addr} {v:Value} (hp:w.cell? p=some v) (hv:∀ k x,v≠.int k x) (u:Value):RtIs (w.setCell p u) (w.setCell p u).heap.size q b1 A n c b2 A2 m d:=⟨h.num.keep hp hv u,h.den.keep hp hv u⟩
theorem RtIs.n_le (h:RtIs w B q b1 A n c b2 A2 m d):n≤qsz q:=by rw [h.num.en];exact qsz_num q
theorem RtIs.m_le (h:RtIs w B q b1 A n c b2 A2 m d):m≤qsz q:=by rw [h.den.en,Int.natAbs_natCast];exact qsz_den q
theorem RtIs.pos (h:RtIs w B q b1 A n c b2 A2 m d):b2=false:=by rw [h.den.eb];simp
end
def RtP (q:Rat) (w:World) (e:Ending) (w':World):Prop:=Below w.heap.size w w'∧∃ b1 A n c b2 A2 m d,e=.returned (.agg #[.bool b1,.slice A n c,.bool b2,.slice A2 m d])∧RtIs w' w'.heap.size q b1 A n c b2 A2 m d
theorem blk_set4 {w:World} {p t:Nat} {v0 v1 v2 v3 x0 x1 x2 x3:Value} (h:Blk w p t #[x0,x1,x2,x3]):Blk ((((w.setCell ⟨p,0,none⟩ v0).setCell ⟨p,1,none⟩ v1).setCell ⟨p,2,none⟩ v2).setCell ⟨p,3,none⟩ v3) p t #[v0,v1,v2,v3]:=
 (((h.set_at (i:=0) (cs':=#[v0,x1,x2,x3]) v0 (by simp)).set_at (i:=1) (cs':=#[v0,v1,x2,x3]) v1 (by simp)).set_at (i:=2) (cs':=#[v0,v1,v2,x3]) v2 (by simp)).set_at (i:=3) v3 (by simp)
theorem below_set4 {a w:World} {B p:Nat} {v0 v1 v2 v3:Value} (h:Below B a w) (hp:B≤p):Below B a ((((w.setCell ⟨p,0,none⟩ v0).setCell ⟨p,1,none⟩ v1).setCell ⟨p,2,none⟩ v2).setCell ⟨p,3,none⟩ v3):=(((h.setCell hp _).setCell hp _).setCell hp _).setCell hp _
theorem rt_put {w w2:World} {g T:Nat} {v0 v1 v2 v3:Value} {q:Rat} {b1:Bool} {A:Option Addr} {n c:Nat} {b2:Bool} {A2:Option Addr} {m d:Nat} {e:Ending} (hb:Below w.heap.size w w2) (hg:w.heap.size≤g) (hB:Blk w2 g T #[v0,v1,v2,v3]) (h0:∀ k x,v0≠.int k x) (h1:∀ k x,v1≠.int k x) (h2:∀ k x,v2≠.int k x) (h3:∀ k x,v3≠.int k x) (h:RtIs w2 w2.heap.size q b1 A n c b2 A2 m d) (he:e=.returned (.agg #[.bool b1,.slice A n c,.bool b2,.slice A2 m d])) :
    RtP q w e ((((w2.setCell ⟨g,0,none⟩ (.bool b1)).setCell ⟨g,1,none⟩ (.slice A n c)).setCell ⟨g,2,none⟩ (.bool b2)).setCell ⟨g,3,none⟩ (.slice A2 m d)):=by
 refine ⟨below_set4 hb hg,b1,A,n,c,b2,A2,m,d,he,?_⟩;have B1:=hB.set_at (i:=0) (cs':=#[.bool b1,v1,v2,v3]) (.bool b1) (by simp);have B2:=B1.set_at (i:=1) (cs':=#[.bool b1,.slice A n c,v2,v3]) (.slice A n c) (by simp);have B3:=B2.set_at (i:=2) (cs':=#[.bool b1,.slice A n c,.bool b2,v3]) (.bool b2) (by simp);exact (((h.keep (hB.cell 0) h0 _).keep (B1.cell 1) h1 _).keep (B2.cell 2) h2 _).keep (B3.cell 3) h3 _
end
section
abbrev Fn:=Nat→Rat
def sumTo:Nat→Fn→Rat
 | 0,_=>0
 | n+1,f=>sumTo n f+f n
theorem sumTo_congr:∀ {n:Nat} {f g:Fn},(∀ i,i<n→f i=g i)→sumTo n f=sumTo n g
 | 0,_,_,_=>rfl
 | n+1,f,g,h=>by rw [sumTo,sumTo,sumTo_congr fun i hi=>h i (by omega),h n (by omega)]
theorem sumTo_zero:∀ {n:Nat} {f:Fn},(∀ i,i<n→f i=0)→sumTo n f=0
 | 0,_,_=>rfl
 | n+1,f,h=>by rw [sumTo,sumTo_zero fun i hi=>h i (by omega),h n (by omega)];exact Rat.add_zero 0
theorem sumTo_add (f g:Fn):∀ n:Nat,sumTo n (fun i=>f i+g i)=sumTo n f+sumTo n g
 | 0=>(Rat.add_zero 0).symm
 | n+1=>by rw [sumTo,sumTo,sumTo,sumTo_add f g n];grind
theorem sumTo_mul (c:Rat) (f:Fn):∀ n:Nat,sumTo n (fun i=>c*f i)=c*sumTo n f
 | 0=>(Rat.mul_zero c).symm
 | n+1=>by rw [sumTo,sumTo,sumTo_mul c f n];grind
theorem sumTo_one {n k:Nat} {f:Fn} (hk:k<n) (h:∀ i,i<n→i≠k→f i=0):sumTo n f=f k:=by
 induction n with
 | zero=>omega
 | succ n ih=>
  rw [sumTo]
  by_cases hn:k=n
  ·subst hn
   rw [sumTo_zero fun i hi=>h i (by omega) (by omega),Rat.zero_add]
  ·rw [ih (by omega) (fun i hi hik=>h i (by omega) hik),h n (by omega) (fun e=>hn e.symm),Rat.add_zero]
theorem sumTo_comm (f:Nat→Nat→Rat) (m:Nat):∀ n:Nat,sumTo n (fun i=>sumTo m fun j=>f i j)=sumTo m (fun j=>sumTo n fun i=>f i j)
 | 0=>by
  rw [sumTo,sumTo_zero];intro i _;rfl
 | n+1=>by
  rw [sumTo,sumTo_comm f m n,←sumTo_add];rfl
def dotn (n:Nat) (a x:Fn):Rat:=sumTo n fun i=>a i*x i
theorem dotn_add (n:Nat) (a x y:Fn):dotn n a (fun i=>x i+y i)=dotn n a x+dotn n a y:=by
 unfold dotn;rw [←sumTo_add];exact sumTo_congr fun i _=>by grind
theorem dotn_mul (n:Nat) (a x:Fn) (c:Rat):dotn n a (fun i=>c*x i)=c*dotn n a x:=by
 unfold dotn;rw [←sumTo_mul];exact sumTo_congr fun i _=>by grind
theorem dotn_addl (n:Nat) (a b x:Fn):dotn n (fun i=>a i+b i) x=dotn n a x+dotn n b x:=by
 unfold dotn;rw [←sumTo_add];exact sumTo_congr fun i _=>by grind
theorem dotn_mull (n:Nat) (a x:Fn) (c:Rat):dotn n (fun i=>c*a i) x=c*dotn n a x:=by
 unfold dotn;rw [←sumTo_mul];exact sumTo_congr fun i _=>by grind
theorem dotn_congr {n:Nat} {a b x y:Fn} (h:∀ i,i<n→a i=b i) (h2:∀ i,i<n→x i=y i):dotn n a x=dotn n b y:=
 sumTo_congr fun i hi=>by rw [h i hi,h2 i hi]
def Ker (n:Nat) (A:List Fn) (x:Fn):Prop:=∀ a∈A,dotn n a x=0
structure Ech (M:List Fn) (piv:List Nat) (k:Nat):Prop where
 le:piv.length≤M.length
 inc:piv.Pairwise (·<·)
 lt:∀ p∈piv,p<k
 one:∀ (t p:Nat) (a:Fn),piv[t]?=some p→M[t]?=some a→a p=1
 zer:∀ (t p i:Nat) (a:Fn),piv[t]?=some p→M[i]?=some a→i≠t→a p=0
 low:∀ (t p:Nat) (a:Fn),piv[t]?=some p→M[t]?=some a→∀ j,j<p→a j=0
 rest:∀ (i:Nat) (a:Fn),M[i]?=some a→piv.length≤i→∀ j,j<k→a j=0
namespace Ech
variable {M:List Fn} {piv:List Nat} {n:Nat}
def free (piv:List Nat) (n:Nat):List Nat:=(List.range n).filter fun j=>!piv.contains j
theorem nodup (E:Ech M piv n):piv.Nodup:=E.inc.imp fun h=>Nat.ne_of_lt h
theorem free_len (E:Ech M piv n):(free piv n).length+piv.length=n:=by
 have h1:((List.range n).filter fun j=>piv.contains j).length=piv.length:=by
  refine List.Perm.length_eq ((List.perm_ext_iff_of_nodup (List.Pairwise.filter _ List.nodup_range) E.nodup).2 fun a=>?_);rw [List.mem_filter,List.mem_range]
  constructor
  ·intro h;simpa using h.2
  ·intro h;exact ⟨E.lt a h,by simpa using h⟩
 have h2:=List.length_eq_countP_add_countP (fun j=>piv.contains j) (l:=List.range n);rw [List.length_range,List.countP_eq_length_filter,List.countP_eq_length_filter,h1] at h2;unfold free;have h3:((List.range n).filter fun j=>!piv.contains j)=((List.range n).filter fun a=>decide ¬piv.contains a=true):=by
  congr 1
  funext j
  cases piv.contains j<;>rfl
 rw [h3];omega
theorem mem_free {j:Nat}:j∈free piv n↔j<n∧j∉piv:=by
 unfold free;rw [List.mem_filter,List.mem_range];simp
theorem ker_zero (E:Ech M piv n) {z:Fn} (hz:Ker n M z) (hf:∀ j,j<n→j∉piv→z j=0):∀ j,j<n→z j=0:=by
 intro j hj
 by_cases hp:j∈piv
 ·obtain ⟨t,ht⟩:=List.mem_iff_getElem?.1 hp
  have htl:=(zB_.1 ht).1;obtain ⟨a,ha⟩:∃ a,M[t]?=some a:=⟨_,zA_ (zJ_ htl E.le)⟩;have h:=hz a (zC_ ha);unfold dotn at h;rw [sumTo_one hj,E.one t j a ht ha,Rat.one_mul] at h
  ·exact h
  ·intro i hi hij
   by_cases hip:i∈piv
   ·obtain ⟨s,hs⟩:=List.mem_iff_getElem?.1 hip
    rw [E.zer s i t a hs ha (fun e=>by subst e;rw [ht] at hs;injection hs with hs;exact hij hs.symm),Rat.zero_mul]
   ·rw [hf i hi hip,Rat.mul_zero]
 ·exact hf j hj hp
def bas (M:List Fn) (piv:List Nat) (c:Nat):Fn:=fun j=>if j=c then 1 else match piv.findIdx? (· == j) with
 | some t=>-((M.getD t (fun _=>0)) c)
 | none=>0
theorem bas_free {c j:Nat} (hj:j∉piv):bas M piv c j=if j=c then 1 else 0:=by
 unfold bas
 by_cases h:j=c
 ·rw [if_pos h,if_pos h]
 ·rw [if_neg h,if_neg h]
  have:piv.findIdx? (· == j)=none:=List.findIdx?_eq_none_iff.2 fun x hx=>by
   have:x≠j:=fun e=>hj (e▸hx);simpa using this
  rw [this]
theorem bas_piv (E:Ech M piv n) {c t p:Nat} {a:Fn} (hc:c∉piv) (ht:piv[t]?=some p) (ha:M[t]?=some a):bas M piv c p=-(a c):=by
 unfold bas;have hp:=zC_ ht;rw [if_neg (fun e:p=c=>hc (by rw [←e];exact hp))];have:piv.findIdx? (· == p)=some t:=by
  rw [List.findIdx?_eq_some_iff_getElem];obtain ⟨hl,he⟩:=zB_.1 ht;refine ⟨hl,by simp [he],fun j hj=>?_⟩;have h1:=(List.pairwise_iff_getElem.1 E.inc) j t (by omega) hl hj;rw [he] at h1;simp;omega
 rw [this];simp only;rw [zD_,ha];rfl
theorem bas_ker (E:Ech M piv n) {c:Nat} (hc:c<n) (hcp:c∉piv):Ker n M (bas M piv c):=by
 intro a ha;obtain ⟨i,hi⟩:=List.mem_iff_getElem?.1 ha
 by_cases hr:piv.length≤i
 ·unfold dotn
  exact sumTo_zero fun j hj=>by rw [E.rest i a hi hr j hj,Rat.zero_mul]
 ·obtain ⟨p,hp⟩:∃ p,piv[i]?=some p:=zX_ (by omega)
  have hpn:=E.lt p (zC_ hp);have hpc:p≠c:=fun e=>hcp (e▸zC_ hp);have key:∀ j,j<n→a j*bas M piv c j=(if j=c then a c else 0)+(if j=p then -(a c) else 0):=fun j hj=>by
   by_cases hjp:j∈piv
   ·obtain ⟨s,hs⟩:=List.mem_iff_getElem?.1 hjp
    have hjc:j≠c:=fun e=>hcp (e▸hjp);rw [if_neg hjc]
    by_cases hji:j=p
    ·subst hji
     rw [if_pos rfl,E.one i j a hp hi,E.bas_piv hcp hp hi,Rat.one_mul,Rat.zero_add]
    ·rw [if_neg hji,E.zer s j i a hs hi (fun e=>by subst e;rw [hp] at hs;injection hs with hs;exact hji hs.symm),Rat.zero_mul,Rat.add_zero]
   ·rw [bas_free hjp]
    have hji:j≠p:=fun e=>hjp (e▸zC_ hp);rw [if_neg hji,Rat.add_zero]
    by_cases h:j=c
    ·subst h;rw [if_pos rfl,if_pos rfl,Rat.mul_one]
    ·rw [if_neg h,if_neg h,Rat.mul_zero]
  unfold dotn;rw [sumTo_congr key,sumTo_add,sumTo_one (k:=c) hc (fun i _ h=>if_neg h),sumTo_one (k:=p) hpn (fun i _ h=>if_neg h),if_pos rfl,if_pos rfl];exact Rat.add_neg_cancel _
end Ech
theorem rank_full {n:Nat} {M:List Fn} {piv:List Nat} (E:Ech M piv n):piv.length=n↔∀ x,Ker n M x→∀ j,j<n→x j=0:=by
 have hl:=E.free_len
 constructor
 ·intro h x hx
  refine E.ker_zero hx fun j hj hjp=>?_;have:j∈Ech.free piv n:=Ech.mem_free.2 ⟨hj,hjp⟩;rw [List.eq_nil_of_length_eq_zero (by omega:(Ech.free piv n).length=0)] at this;cases this
 ·intro h
  refine Classical.byContradiction fun hne=>?_;obtain ⟨c,hc⟩:∃ c,c∈Ech.free piv n:=List.exists_mem_of_length_pos (by omega);obtain ⟨h1,h2⟩:=Ech.mem_free.1 hc;have:=h _ (E.bas_ker h1 h2) c h1;rw [Ech.bas_free h2,if_pos rfl] at this;exact absurd this (by decide)
end
end Go.Proofs.YthgdchffeigkbaaGreatDoor
