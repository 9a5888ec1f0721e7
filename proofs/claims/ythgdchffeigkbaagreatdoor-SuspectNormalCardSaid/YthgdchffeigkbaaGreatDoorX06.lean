import Derived.Test.YthgdchffeigkbaaGreatDoorX01
import Derived.Test.YthgdchffeigkbaaGreatDoorX02
import Derived.Test.YthgdchffeigkbaaGreatDoorX03
import Derived.Lib.AppendStr
import Derived.Lib.ItoaMem
import Derived.Lib.AppendIntMem
import Derived.Lib.SmallJoins
set_option linter.unusedVariables false
set_option linter.unusedSimpArgs false
namespace Go.Proofs.YthgdchffeigkbaaGreatDoor
set_option maxHeartbeats 6400000
set_option maxRecDepth 100000
section
theorem mP (n:Int) {d:Nat} (hd:d≠0):(Rat.divInt n d).num=n / (n.natAbs.gcd d:Nat)/\(Rat.divInt n d).den=d / n.natAbs.gcd d:=by
 rw [Rat.divInt_ofNat,mkRat,dif_neg hd,Rat.normalize_eq];exact ⟨rfl,rfl⟩
theorem BS {n:Int} {d:Nat} (hd:d≠0) (h:n.natAbs.gcd d=1):(Rat.divInt n d).num=n/\(Rat.divInt n d).den=d:=by
 obtain ⟨h1,h2⟩:=mP n hd;rw [h] at h1 h2;exact ⟨by rw [h1];simp,by rw [h2,Nat.div_one]⟩
theorem rM (n:Int) {d:Nat} (hd:d≠0):(Rat.divInt n d).num.natAbs=n.natAbs / n.natAbs.gcd d/\(n<0<->(Rat.divInt n d).num<0):=by
 obtain ⟨h1,_⟩:=mP n hd;have hg:(n.natAbs.gcd d:Int)∣n:=by
  exact Int.ofNat_dvd_left.2 (Nat.gcd_dvd_left ..)
 have hp:0<n.natAbs.gcd d:=Nat.gcd_pos_of_pos_right _ (Nat.pos_of_ne_zero hd);rw [h1];refine ⟨?_,?_⟩
 ·rw [Int.natAbs_ediv,if_pos (.inr (.inr hg)),Nat.add_zero,Int.natAbs_natCast]
 ·generalize n.natAbs.gcd d=g at *
  obtain ⟨k,hk⟩:=hg;rw [hk,Int.mul_ediv_cancel_left _ (by omega)];have I0:(0:Int)<(g:Nat):=by omega
  constructor
  ·intro h
   refine Int.lt_of_not_ge fun h2=>?_;have:=Int.mul_nonneg (Int.le_of_lt I0) h2;omega
  ·intro h
   have:=Int.mul_neg_of_pos_of_neg I0 h;omega
theorem KH (n:Int) (d:Nat):Rat.divInt n (-(d:Int))=Rat.divInt (-n) d:=by
 by_cases hd:d=0
 ·subst hd;simp
 ·rw [Rat.divInt_eq_divInt_iff (by omega) (by omega)]
  grind
theorem zL (q:Rat):Rat.divInt q.num q.den=q:=Rat.num_divInt_den q
theorem CL (q:Rat):q.den≠0:=q.den_nz
theorem LU (a b:Rat):Rat.divInt (a.num*b.den+b.num*a.den) ((a.den*b.den:Nat):Int)=a+b:=by
 rw [Rat.add_def',Rat.divInt_ofNat]
theorem KQ (a b:Rat):Rat.divInt (a.num*b.num) ((a.den*b.den:Nat):Int)=a*b:=by
 have:=Rat.divInt_mul_divInt a.num b.num (d₁:=a.den) (d₂:=b.den);rw [zL,zL] at this;rw [this,Int.natCast_mul]
theorem LK (a b:Rat):Rat.divInt (a.num*b.den) ((a.den:Int)*b.num)=a / b:=by
 rw [Rat.div_def,Rat.inv_def,<-Rat.divInt_mul_divInt,zL]
def bU (q:Rat):Nat:=max (dK q.num.natAbs) (dK q.den)
theorem aHx (q:Rat):dK q.num.natAbs<=bU q:=Nat.le_max_left ..
theorem XC (q:Rat):dK q.den<=bU q:=Nat.le_max_right ..
theorem aHw (q:Rat):1<=bU q:=by
 have h:=XC q;have:=jK (CL q);omega
theorem Q3 (m n:Nat):dK (m / n)<=dK m:=jU (Nat.div_le_self ..)
theorem BR (n:Int) {d:Nat} (hd:d≠0):bU (Rat.divInt n d)<=max (dK n.natAbs) (dK d):=by
 unfold bU;obtain ⟨h1,h2⟩:=mP n hd;rw [(rM n hd).1,h2];have h3:=Q3 n.natAbs (n.natAbs.gcd d);have h4:=Q3 d (n.natAbs.gcd d);omega
theorem eT (a b:Int):dK (a*b).natAbs<=dK a.natAbs+dK b.natAbs:=by rw [Int.natAbs_mul];exact AJ ..
theorem LJ (a b:Int):dK (a+b).natAbs<=max (dK a.natAbs) (dK b.natAbs)+1:=
 cV (jU (Int.natAbs_add_le ..)) (aE1 ..)
theorem kM (a b:Rat):bU (a+b)<=bU a+bU b+1:=by
 rw [<-LU];refine cV (BR _ (Nat.mul_ne_zero (CL a) (CL b))) ?_;have h1:=LJ (a.num*b.den) (b.num*a.den);have h2:=eT a.num b.den;have h3:=eT b.num a.den;have h4:=AJ a.den b.den;unfold bU;rw [Int.natAbs_natCast] at h2 h3;omega
theorem eH (a b:Rat):bU (a*b)<=bU a+bU b:=by
 rw [<-KQ];refine cV (BR _ (Nat.mul_ne_zero (CL a) (CL b))) ?_;have h2:=eT a.num b.num;have h4:=AJ a.den b.den;unfold bU;omega
theorem E4 (a b:Rat):bU (a / b)<=bU a+bU b:=by
 by_cases hb:b=0
 ·subst hb
  rw [Rat.div_def,Rat.inv_zero,Rat.mul_zero];have h0:bU 0<=1:=by
   show max (dK 0) (dK 1)<=1;rw [hO,rZ (by decide) (by decide)];decide
  have:=aHw a;omega
 ·rw [<-LK]
  have AD:b.num≠0:=fun h=>hb (Rat.num_eq_zero.1 h);have key:∀ (n:Int) (k:Nat),k≠0->n.natAbs=(a.num*b.den).natAbs->k=(a.den*b.num.natAbs)->bU (Rat.divInt n k)<=bU a+bU b:=fun n k hk hn he=>by
   refine cV (BR _ hk) ?_;rw [hn,he];have h2:=eT a.num b.den;rw [Int.natAbs_natCast] at h2;have h4:=AJ a.den b.num.natAbs;unfold bU;omega
  have hk:a.den*b.num.natAbs≠0:=Nat.mul_ne_zero (CL a) (by omega)
  by_cases hs:b.num<0
  ·have e:(a.den:Int)*b.num=-((a.den*b.num.natAbs:Nat):Int):=by
    rw [Int.natCast_mul,Int.ofNat_natAbs_of_nonpos (by omega)];grind
   rw [e,KH];exact key _ _ hk (by rw [Int.natAbs_neg]) rfl
  ·have e:(a.den:Int)*b.num=((a.den*b.num.natAbs:Nat):Int):=by
    rw [Int.natCast_mul,Int.natAbs_of_nonneg (by omega)]
   rw [e];exact key _ _ hk rfl rfl
theorem qH (a:Rat):bU (-a)=bU a:=by
 unfold bU;rw [Rat.neg_num,Int.natAbs_neg,Rat.neg_den]
theorem vM (a b:Rat):bU (a-b)<=bU a+bU b+1:=by
 rw [Rat.sub_eq_add_neg];have:=kM a (-b);rwa [qH] at this
end
section
open Go.ChangeShapes Go.WideShapes Go.ChangeAt Go.RowKit
attribute [local go_sem ↓] aE
attribute [local go_sem] aK aH aM
theorem O6:(Tryz.prog.info? 233).map (·.size)=some 2:=by kernel_rfl
theorem aDJ:liesAt Tryz.prog Tryz.prog.depth 233 (2 / Tryz.prog.cellsOf 233) 0 233 1=true:=by kernel_rfl
theorem aAo:(Tryz.prog.info? 5).map (fun i=>(i.zero,i.size,i.bytes))=some (some (.int .u8 0),1,1):=by kernel_rfl
theorem aAY (b:Nat) (w:Wo) (h0:w.cell? ⟨b,0,none⟩=some (.pointer (some ⟨b,0,none⟩))) :
    Calls Tryz.prog 172 #[.pointer (some ⟨b,0,none⟩)] w fun e w'=>e=.returned (.tuple #[])/\w'=w:=by
 obtain ⟨j,hj,_⟩:=Option.map_eq_some_iff.1 O6;go_enter Tryz.func172,Tryz.ntmps172
 go_wp2
 rw [Lib.run_neq_ptr_same w _ Tryz.underlying230 hj]
 go_wp2
 go_end0
 exact ⟨rfl,rfl⟩
theorem VP (b:Nat) (w:Wo) (h0:w.cell? ⟨b,0,none⟩=some (.pointer none)) (hsh:w.shape? b=some (233,2)) (hfz:w.frozen? ⟨b,0,none⟩=false) :
    Calls Tryz.prog 172 #[.pointer (some ⟨b,0,none⟩)] w fun e w'=>e=.returned (.tuple #[])/\w'=w.setCell ⟨b,0,none⟩ (.pointer (some ⟨b,0,none⟩)):=by
 obtain ⟨j,hj,hjs⟩:=Option.map_eq_some_iff.1 O6;go_enter Tryz.func172,Tryz.ntmps172
 go_wp2
 rw [Lib.run_to_unsafe w ⟨b,0,none⟩ Tryz.underlying230 Tryz.underlying271 hj (by rw [hjs];decide) hsh (Nat.zero_lt_succ 1)];simp only [Result.andThen];rw [Oper.upon_value]
 go_wp2
 rw [run_callFunc_extern Tryz.func191 (by kernel_rfl) (by kernel_rfl) (by kernel_rfl) (e:=Extern.AbiNoEscape.same) (by kernel_rfl)];rw [Lib.run_noEscape];simp only [Result.andThen];rw [Oper.upon_value]
 go_wp2
 rw [Lib.run_from_unsafe w ⟨b,0,none⟩ Tryz.underlying271 Tryz.underlying230 hj hsh aDJ];simp only [Result.andThen];rw [Oper.upon_value]
 go_wp2
 go_end0
 exact ⟨rfl,rfl⟩
theorem aFi (B b:Nat) (bs:List Value) (w:Wo) (h:Lib.IsBuilder 233 5 B b bs w) :
    Calls Tryz.prog 172 #[.pointer (some ⟨b,0,none⟩)] w fun e w'=>e=.returned (.tuple #[])/\(Lib.BuilderAt 233 5 B b (.pointer (some ⟨b,0,none⟩)) bs w'/\Below B w w'):=by
 rcases h with h | h
 ·refine (VP b w h.cell0 h.shape h.frozen0).mono ?_
  rintro e w' ⟨rfl,rfl⟩;exact ⟨rfl,h.used _,(Below.refl B w).setCell (p:=⟨b,0,none⟩) h.1 _⟩
 ·refine (aAY b w h.cell0).mono ?_
  rintro e w' ⟨rfl,rfl⟩;exact ⟨rfl,h,Below.refl B _⟩
theorem BD (B b:Nat) (bs:List Value) (s:ByteArray) (w:Wo) (h:Lib.IsBuilder 233 5 B b bs w) (eC:bs.length+s.size<=140737488355328) (hBw:B<=w.heap.size) :
    Calls Tryz.prog 152 #[.pointer (some ⟨b,0,none⟩),.string s] w fun e w'=>(∃ v,e=.returned v)/\Lib.BuilderAt 233 5 B b (.pointer (some ⟨b,0,none⟩)) (bs++Lib.strCells s) w'/\Below B w w':=by
 obtain ⟨i0,hi,oE,kK,lQ⟩:=info_parts aAo;have H:=lH h;clear h;go_enter Tryz.func152,Tryz.ntmps152
 go_wp2_with fail
 refine (aFi B b bs w H.o).mono ?_;rintro e w1 ⟨rfl,h1,bH⟩;obtain ⟨hB,v,I4,bF,cP⟩:=h1;have c0:w1.cell? ⟨b,0,none⟩=some (.pointer (some ⟨b,0,none⟩)):=by rw [Lib.cell_of_heap I4];rfl
 have c1:w1.cell? ⟨b,1,none⟩=some v:=by rw [Lib.cell_of_heap I4];rfl
 go_wp2_with (at_builtin;refine Lib.wpList_append_own_string _ rfl _ _ 231 9 rfl B 5 i0 Tryz.underlying231 Tryz.underlying9 hi oE kK lQ _ _ _ rfl bF s rfl ?c3 ?c4 ?c5 ?_)
 case c3=>unfold maxLen;omega
 case c4=>omega
 case c5=>have:=bH.size;omega
 intro v' w2 hown' hgrow _;have aW:b<w1.heap.size:=by
  rcases Nat.lt_or_ge b w1.heap.size with h' | h'
  ·exact h'
  ·simp [Array.getElem?_eq_none h'] at I4
 have bL:w2.heap[b]?=some (.cells #[.pointer (some ⟨b,0,none⟩),v] 233 (0,0)):=by
  rw [hgrow.block b aW (fun e=>cP e.symm)];exact I4
 have d0:w2.cell? ⟨b,0,none⟩=some (.pointer (some ⟨b,0,none⟩)):=by rw [Lib.cell_of_heap bL];rfl
 have d1:w2.cell? ⟨b,1,none⟩=some v:=by rw [Lib.cell_of_heap bL];rfl
 have f1:w2.frozen? ⟨b,1,none⟩=false:=Lib.frozen_of_heap bL 1;obtain ⟨ao,n',cap,rfl⟩:∃ ao n' cap,v'=.slice ao n' cap:=by
  rcases hown'.2 with ⟨hv,_⟩ | ⟨g,cap,cur,hv,_⟩
  ·exact ⟨_,_,_,hv⟩
  ·exact ⟨_,_,_,hv⟩
 go_wp2
 go_ret2;refine ⟨⟨_,rfl⟩,?_,?_⟩
 ·exact Lib.BuilderAt.put (T:=233) (e:=5) hB bL (bs':=bs++Lib.strCells s) (by simpa [Lib.strCells_length] using hown') (by decide)
 ·exact (bH.grown hgrow (by have:=bH.size;omega) (fun k hk=>(bF.lt k hk).1)).setCell (p:=⟨b,1,none⟩) hB _
end
section
open Go.ChangeShapes Go.WideShapes Go.ChangeAt Go.RowKit Go.Sort Go.Lib Go.Joins
attribute [local go_sem ↓] aE
attribute [local go_sem] aK aH aM
def dA (w : World) : Prop := Lib.TabIs Tryz.prog w "internal/strconv.uint64pow10" .u64 Lib.pow10Tab
theorem dA.up {w w' : World} (h : dA w) (hb : Below w.heap.size w w') : dA w' := tab_stays (show Tryz.prog.globalNamed "internal/strconv.uint64pow10" = some 1 by kernel_rfl) h hb lR
theorem aWh (w:Wo) (o:Obj) (dk:Array UInt8) (k:Nat):∃ os,(putRow (fun (b:UInt8)=>Value.int .u8 (b.toNat:Int)) (w.alloc o) w.heap.size 0 dk).drewN k=grow (w.drewN k) os:=by
 rw [alloc_eq_grow];obtain ⟨os',_,e⟩:=putRow_grow_new (fun (b:UInt8)=>Value.int .u8 (b.toNat:Int)) w #[o] w.heap.size 0 dk lR;exact ⟨os',by rw [e];rfl⟩
theorem aL0 (w:Wo) (T:TypeId) (nd:Nat) (hs:nd<=24):Holds (fun (b:UInt8)=>Value.int .u8 (b.toNat:Int)) (w.alloc (.cells Lib.zeros24 T)) w.heap.size 0 (Array.replicate nd (0:UInt8)):=fun j hj=>by
 have hj':j<nd:=by simpa using hj
 refine ⟨?_,World.frozen?_alloc_new _ _ _ _⟩;rw [World.cell?_alloc_new,Lib.zeros24_at _ (by omega),getElem!_pos _ j hj];simp
theorem aDT (u:Nat) (US:u<18446744073709551616) (w:Wo) (ht:dA w) :
    Calls Tryz.prog 171 #[.int .u64 u,.int .i64 10] w fun e w'=>e=.returned (.string ⟨(Lib.decDigits u).toArray⟩)/\Below w.heap.size w w':=by
 have HT:=lH ht;clear ht
 by_cases hs:u<100
 ·go_enter Tryz.func171,Tryz.ntmps171
  go_wp2_with fail
  refine (Tryz.internal_strconv_small u hs w).mono ?_;rintro e w' ⟨rfl,rfl⟩
  go_wp2_with fail
  go_ret;exact ⟨rfl,bR⟩
 ·have hu1:1<=u:=by omega
  have aYR:Lib.nDigits u<=20:=by have:=Lib.numDigits_eq u hu1 US;split at this<;>omega
  have E1:Tryz.prog.arrayLen 253=24:=by simp [Program.arrayLen,Tryz.underlying253]
  have aH7:∀ W,(Instr.sliceAt 253 (.pointer (some ⟨w.heap.size,0,none⟩)) none (some (.int .i64 (Lib.nDigits u:Int))) none).run Tryz.prog W=.ok (.slice (some ⟨w.heap.size,0,none⟩) (Lib.nDigits u) 24) W:=fun W=>by
   rw [run_sliceAt_array_h W 253 ⟨w.heap.size,0,none⟩ (by simp [Program.arrayLen,Program.elem,Tryz.underlying253]) .i64 (Lib.nDigits u:Int) (by omega) (by rw [E1];omega)];go_simp
  have hH0:=aL0 w 253 (Lib.nDigits u) (by omega);have aMl:=Tryz.internal_strconv_formatBase10 w.heap.size 0 24 u (Array.replicate (Lib.nDigits u) 0) (w.alloc (.cells Lib.zeros24 253)) hH0 (by rw [Array.size_replicate];exact Lib.lt_pow_nDigits u) US (by rw [Array.size_replicate];omega);rw [Array.size_replicate] at aMl;have HH0:=lH hH0;have HF:=lH aMl;clear hH0 E1 aMl;go_enter Tryz.func171,Tryz.ntmps171
  go_wp2_with fail
  refine (Tryz.internal_strconv_numDigits u hu1 US _ (Lib.tabIs_alloc HT.o (.cells Lib.zeros24 253))).mono ?_;rintro e w1 ⟨rfl,rfl⟩
  go_wp2_with fail
  refine HF.o.mono ?_;rintro e w' ⟨rfl,k,v',dk,rfl,hF⟩;have U9:(convert 231 9 (.slice (some ⟨w.heap.size,0,none⟩) (Lib.nDigits u) 24)).run Tryz.prog ((putRow (fun (b:UInt8)=>Value.int .u8 (b.toNat:Int)) (w.alloc (.cells Lib.zeros24 253)) w.heap.size 0 dk).drewN k)=.ok (.string ⟨(Lib.decDigits u).toArray⟩) ((putRow (fun (b:UInt8)=>Value.int .u8 (b.toNat:Int)) (w.alloc (.cells Lib.zeros24 253)) w.heap.size 0 dk).drewN k):=by
   have h:=run_convert_bytes_back (P:=Tryz.prog) ((putRow (fun (b:UInt8)=>Value.int .u8 (b.toNat:Int)) (w.alloc (.cells Lib.zeros24 253)) w.heap.size 0 dk).drewN k) 231 9 5 ⟨w.heap.size,0,none⟩ 24 (Lib.decDigits u) Tryz.underlying231 Tryz.underlying5 Tryz.underlying9 (fun j hj=>by
    rw [Lib.row_is_numeral hF j hj,Lib.add_plain,World.cell?_drewN];exact cell?_putRow (fun (b:UInt8)=>Value.int .u8 (b.toNat:Int)) _ w.heap.size 0 _ dk HH0.o (by rw [hF.size,Array.size_replicate]) j (by rw [hF.size];rw [Lib.decDigits_length] at hj;exact hj))
   rw [Lib.decDigits_length] at h;exact h
  have aMn:(convert 231 9 (.slice (some ⟨w.heap.size,0,none⟩) (Lib.nDigits u) 24)).run Tryz.prog (putRow (fun (b:UInt8)=>Value.int .u8 (b.toNat:Int)) (w.alloc (.cells Lib.zeros24 253)) w.heap.size 0 dk)=.ok (.string ⟨(Lib.decDigits u).toArray⟩) (putRow (fun (b:UInt8)=>Value.int .u8 (b.toNat:Int)) (w.alloc (.cells Lib.zeros24 253)) w.heap.size 0 dk):=by
   have h:=run_convert_bytes_back (P:=Tryz.prog) (putRow (fun (b:UInt8)=>Value.int .u8 (b.toNat:Int)) (w.alloc (.cells Lib.zeros24 253)) w.heap.size 0 dk) 231 9 5 ⟨w.heap.size,0,none⟩ 24 (Lib.decDigits u) Tryz.underlying231 Tryz.underlying5 Tryz.underlying9 (fun j hj=>by
    rw [Lib.row_is_numeral hF j hj,Lib.add_plain];exact cell?_putRow (fun (b:UInt8)=>Value.int .u8 (b.toNat:Int)) _ w.heap.size 0 _ dk HH0.o (by rw [hF.size,Array.size_replicate]) j (by rw [hF.size];rw [Lib.decDigits_length] at hj;exact hj))
   rw [Lib.decDigits_length] at h;exact h
  obtain ⟨os,eo⟩:=aWh w (.cells Lib.zeros24 253) dk k;have HEO:=lH eo;clear eo
  go_wp2_with fail
  go_ret;exact ⟨rfl,by rw [HEO.o];exact Lib.below_grow w.heap.size w lR k os⟩
theorem aIy (u:Nat) (US:u<18446744073709551616) (w:Wo) (ht:dA w) :
    Calls Tryz.prog 151 #[.int .u64 u,.int .i64 10] w fun e w'=>e=.returned (.string ⟨(Lib.decDigits u).toArray⟩)/\Below w.heap.size w w':=by
 have HT:=lH ht;clear ht;go_enter Tryz.func151,Tryz.ntmps151
 go_wp2_with fail
 refine (aDT u US w HT.o).mono ?_;rintro e w' ⟨rfl,hb⟩;have HB:=lH hb;clear hb
 go_wp2_with fail
 go_ret;exact ⟨rfl,HB.o⟩
end
