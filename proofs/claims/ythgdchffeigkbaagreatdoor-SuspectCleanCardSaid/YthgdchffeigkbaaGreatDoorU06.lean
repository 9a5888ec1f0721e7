import Derived.Test.YthgdchffeigkbaaGreatDoorU01
import Derived.Test.YthgdchffeigkbaaGreatDoorU02
import Derived.Test.YthgdchffeigkbaaGreatDoorU03
import Derived.Lib.AppendStr
import Derived.Lib.ItoaMem
import Derived.Lib.AppendIntMem
import Derived.Lib.SmallJoins
set_option linter.unusedVariables false
set_option linter.unusedSimpArgs false
namespace Go.Proofs.YthgdchffeigkbaaGreatDoor
set_option maxHeartbeats 6400000
set_option maxRecDepth 100000
section
theorem ratio_num (n:Int) {d:Nat} (hd:d≠0):(Rat.divInt n d).num=n / (n.natAbs.gcd d:Nat)∧(Rat.divInt n d).den=d / n.natAbs.gcd d:=by
 rw [Rat.divInt_ofNat,mkRat,dif_neg hd,Rat.normalize_eq];exact ⟨rfl,rfl⟩
theorem ratio_one {n:Int} {d:Nat} (hd:d≠0) (h:n.natAbs.gcd d=1):(Rat.divInt n d).num=n∧(Rat.divInt n d).den=d:=by
 obtain ⟨h1,h2⟩:=ratio_num n hd;rw [h] at h1 h2;exact ⟨by rw [h1];simp,by rw [h2,Nat.div_one]⟩
theorem ratio_abs (n:Int) {d:Nat} (hd:d≠0):(Rat.divInt n d).num.natAbs=n.natAbs / n.natAbs.gcd d∧(n<0↔(Rat.divInt n d).num<0):=by
 obtain ⟨h1,_⟩:=ratio_num n hd;have hg:(n.natAbs.gcd d:Int)∣n:=by
  exact Int.ofNat_dvd_left.2 (Nat.gcd_dvd_left ..)
 have hp:0<n.natAbs.gcd d:=Nat.gcd_pos_of_pos_right _ (Nat.pos_of_ne_zero hd);rw [h1];refine ⟨?_,?_⟩
 ·rw [Int.natAbs_ediv,if_pos (.inr (.inr hg)),Nat.add_zero,Int.natAbs_natCast]
 ·generalize n.natAbs.gcd d=g at *
  obtain ⟨k,hk⟩:=hg;rw [hk,Int.mul_ediv_cancel_left _ (by omega)];have hp2:(0:Int)<(g:Nat):=by omega
  constructor
  ·intro h
   refine Int.lt_of_not_ge fun h2=>?_;have:=Int.mul_nonneg (Int.le_of_lt hp2) h2;omega
  ·intro h
   have:=Int.mul_neg_of_pos_of_neg hp2 h;omega
theorem ratio_neg (n:Int) (d:Nat):Rat.divInt n (-(d:Int))=Rat.divInt (-n) d:=by
 by_cases hd:d=0
 ·subst hd;simp
 ·rw [Rat.divInt_eq_divInt_iff (by omega) (by omega)]
  grind
theorem rat_eta (q:Rat):Rat.divInt q.num q.den=q:=Rat.num_divInt_den q
theorem den_ne (q:Rat):q.den≠0:=q.den_nz
theorem add_ratio (a b:Rat):Rat.divInt (a.num*b.den+b.num*a.den) ((a.den*b.den:Nat):Int)=a+b:=by
 rw [Rat.add_def',Rat.divInt_ofNat]
theorem mul_ratio (a b:Rat):Rat.divInt (a.num*b.num) ((a.den*b.den:Nat):Int)=a*b:=by
 have:=Rat.divInt_mul_divInt a.num b.num (d₁:=a.den) (d₂:=b.den);rw [rat_eta,rat_eta] at this;rw [this,Int.natCast_mul]
theorem div_ratio (a b:Rat):Rat.divInt (a.num*b.den) ((a.den:Int)*b.num)=a / b:=by
 rw [Rat.div_def,Rat.inv_def,←Rat.divInt_mul_divInt,rat_eta]
def qsz (q:Rat):Nat:=max (dlen q.num.natAbs) (dlen q.den)
theorem qsz_num (q:Rat):dlen q.num.natAbs≤qsz q:=Nat.le_max_left ..
theorem qsz_den (q:Rat):dlen q.den≤qsz q:=Nat.le_max_right ..
theorem qsz_pos (q:Rat):1≤qsz q:=by
 have h:=qsz_den q;have:=dlen_pos (den_ne q);omega
theorem div_dlen (m n:Nat):dlen (m / n)≤dlen m:=dlen_mono (Nat.div_le_self ..)
theorem ratio_qsz (n:Int) {d:Nat} (hd:d≠0):qsz (Rat.divInt n d)≤max (dlen n.natAbs) (dlen d):=by
 unfold qsz;obtain ⟨h1,h2⟩:=ratio_num n hd;rw [(ratio_abs n hd).1,h2];have h3:=div_dlen n.natAbs (n.natAbs.gcd d);have h4:=div_dlen d (n.natAbs.gcd d);omega
theorem dlen_mulZ (a b:Int):dlen (a*b).natAbs≤dlen a.natAbs+dlen b.natAbs:=by rw [Int.natAbs_mul];exact dlen_mul ..
theorem dlen_addZ (a b:Int):dlen (a+b).natAbs≤max (dlen a.natAbs) (dlen b.natAbs)+1:=
 zI_ (dlen_mono (Int.natAbs_add_le ..)) (dlen_add ..)
theorem add_qsz (a b:Rat):qsz (a+b)≤qsz a+qsz b+1:=by
 rw [←add_ratio];refine zI_ (ratio_qsz _ (Nat.mul_ne_zero (den_ne a) (den_ne b))) ?_;have h1:=dlen_addZ (a.num*b.den) (b.num*a.den);have h2:=dlen_mulZ a.num b.den;have h3:=dlen_mulZ b.num a.den;have h4:=dlen_mul a.den b.den;unfold qsz;rw [Int.natAbs_natCast] at h2 h3;omega
theorem mul_qsz (a b:Rat):qsz (a*b)≤qsz a+qsz b:=by
 rw [←mul_ratio];refine zI_ (ratio_qsz _ (Nat.mul_ne_zero (den_ne a) (den_ne b))) ?_;have h2:=dlen_mulZ a.num b.num;have h4:=dlen_mul a.den b.den;unfold qsz;omega
theorem div_qsz (a b:Rat):qsz (a / b)≤qsz a+qsz b:=by
 by_cases hb:b=0
 ·subst hb
  rw [Rat.div_def,Rat.inv_zero,Rat.mul_zero];have h0:qsz 0≤1:=by
   show max (dlen 0) (dlen 1)≤1;rw [dlen_zero,dlen_one (by decide) (by decide)];decide
  have:=qsz_pos a;omega
 ·rw [←div_ratio]
  have hb0:b.num≠0:=fun h=>hb (Rat.num_eq_zero.1 h);have key:∀ (n:Int) (k:Nat),k≠0→n.natAbs=(a.num*b.den).natAbs→k=(a.den*b.num.natAbs)→qsz (Rat.divInt n k)≤qsz a+qsz b:=fun n k hk hn he=>by
   refine zI_ (ratio_qsz _ hk) ?_;rw [hn,he];have h2:=dlen_mulZ a.num b.den;rw [Int.natAbs_natCast] at h2;have h4:=dlen_mul a.den b.num.natAbs;unfold qsz;omega
  have hk:a.den*b.num.natAbs≠0:=Nat.mul_ne_zero (den_ne a) (by omega)
  by_cases hs:b.num<0
  ·have e:(a.den:Int)*b.num=-((a.den*b.num.natAbs:Nat):Int):=by
    rw [Int.natCast_mul,Int.ofNat_natAbs_of_nonpos (by omega)];grind
   rw [e,ratio_neg];exact key _ _ hk (by rw [Int.natAbs_neg]) rfl
  ·have e:(a.den:Int)*b.num=((a.den*b.num.natAbs:Nat):Int):=by
    rw [Int.natCast_mul,Int.natAbs_of_nonneg (by omega)]
   rw [e];exact key _ _ hk rfl rfl
theorem neg_qsz (a:Rat):qsz (-a)=qsz a:=by
 unfold qsz;rw [Rat.neg_num,Int.natAbs_neg,Rat.neg_den]
theorem sub_qsz (a b:Rat):qsz (a-b)≤qsz a+qsz b+1:=by
 rw [Rat.sub_eq_add_neg];have:=add_qsz a (-b);rwa [neg_qsz] at this
end
section
open Go.ChangeShapes Go.WideShapes Go.ChangeAt Go.RowKit
attribute [local go_sem ↓] execOp_call_val
attribute [local go_sem] callVal_func setCell_drewN alloc_drewN
theorem size_bld:(Tryz.prog.info? 233).map (·.size)=some 2:=by kernel_rfl
theorem lies_bld:liesAt Tryz.prog Tryz.prog.depth 233 (2 / Tryz.prog.cellsOf 233) 0 233 1=true:=by kernel_rfl
theorem info_byte:(Tryz.prog.info? 5).map (fun i=>(i.zero,i.size,i.bytes))=some (some (.int .u8 0),1,1):=by kernel_rfl
theorem copy_used (b:Nat) (w:World) (h0:w.cell? ⟨b,0,none⟩=some (.pointer (some ⟨b,0,none⟩))) :
    Calls Tryz.prog 172 #[.pointer (some ⟨b,0,none⟩)] w fun e w'=>e=.returned (.tuple #[])∧w'=w:=by
 obtain ⟨j,hj,_⟩:=Option.map_eq_some_iff.1 size_bld;go_enter Tryz.func172,Tryz.ntmps172
 go_wp2
 rw [Lib.run_neq_ptr_same w _ Tryz.underlying230 hj]
 go_wp2
 go_end0
 exact ⟨rfl,rfl⟩
theorem copy_fresh (b:Nat) (w:World) (h0:w.cell? ⟨b,0,none⟩=some (.pointer none)) (hsh:w.shape? b=some (233,2)) (hfz:w.frozen? ⟨b,0,none⟩=false) :
    Calls Tryz.prog 172 #[.pointer (some ⟨b,0,none⟩)] w fun e w'=>e=.returned (.tuple #[])∧w'=w.setCell ⟨b,0,none⟩ (.pointer (some ⟨b,0,none⟩)):=by
 obtain ⟨j,hj,hjs⟩:=Option.map_eq_some_iff.1 size_bld;go_enter Tryz.func172,Tryz.ntmps172
 go_wp2
 rw [Lib.run_to_unsafe w ⟨b,0,none⟩ Tryz.underlying230 Tryz.underlying271 hj (by rw [hjs];decide) hsh (Nat.zero_lt_succ 1)];simp only [Result.andThen];rw [Oper.upon_value]
 go_wp2
 rw [run_callFunc_extern Tryz.func191 (by kernel_rfl) (by kernel_rfl) (by kernel_rfl) (e:=Extern.AbiNoEscape.same) (by kernel_rfl)];rw [Lib.run_noEscape];simp only [Result.andThen];rw [Oper.upon_value]
 go_wp2
 rw [Lib.run_from_unsafe w ⟨b,0,none⟩ Tryz.underlying271 Tryz.underlying230 hj hsh lies_bld];simp only [Result.andThen];rw [Oper.upon_value]
 go_wp2
 go_end0
 exact ⟨rfl,rfl⟩
theorem copy_any (B b:Nat) (bs:List Value) (w:World) (h:Lib.IsBuilder 233 5 B b bs w) :
    Calls Tryz.prog 172 #[.pointer (some ⟨b,0,none⟩)] w fun e w'=>e=.returned (.tuple #[])∧(Lib.BuilderAt 233 5 B b (.pointer (some ⟨b,0,none⟩)) bs w'∧Below B w w'):=by
 rcases h with h | h
 ·refine (copy_fresh b w h.cell0 h.shape h.frozen0).mono ?_
  rintro e w' ⟨rfl,rfl⟩;exact ⟨rfl,h.used _,(Below.refl B w).setCell (p:=⟨b,0,none⟩) h.1 _⟩
 ·refine (copy_used b w h.cell0).mono ?_
  rintro e w' ⟨rfl,rfl⟩;exact ⟨rfl,h,Below.refl B _⟩
theorem wrStr_any (B b:Nat) (bs:List Value) (s:ByteArray) (w:World) (h:Lib.IsBuilder 233 5 B b bs w) (hlen:bs.length+s.size≤140737488355328) (hBw:B≤w.heap.size) :
    Calls Tryz.prog 152 #[.pointer (some ⟨b,0,none⟩),.string s] w fun e w'=>(∃ v,e=.returned v)∧Lib.BuilderAt 233 5 B b (.pointer (some ⟨b,0,none⟩)) (bs++Lib.strCells s) w'∧Below B w w':=by
 obtain ⟨i0,hi,hz0,hz1,hz2⟩:=info_parts info_byte;have H:=lH h;clear h;go_enter Tryz.func152,Tryz.ntmps152
 go_wp2_with fail
 refine (copy_any B b bs w H.o).mono ?_;rintro e w1 ⟨rfl,h1,hb1⟩;obtain ⟨hB,v,hbk,hown,hne⟩:=h1;have c0:w1.cell? ⟨b,0,none⟩=some (.pointer (some ⟨b,0,none⟩)):=by rw [Lib.cell_of_heap hbk];rfl
 have c1:w1.cell? ⟨b,1,none⟩=some v:=by rw [Lib.cell_of_heap hbk];rfl
 go_wp2_with (at_builtin;refine Lib.wpList_append_own_string _ rfl _ _ 231 9 rfl B 5 i0 Tryz.underlying231 Tryz.underlying9 hi hz0 hz1 hz2 _ _ _ rfl hown s rfl ?c3 ?c4 ?c5 ?_)
 case c3=>unfold maxLen;omega
 case c4=>omega
 case c5=>have:=hb1.size;omega
 intro v' w2 hown' hgrow _;have hlt:b<w1.heap.size:=by
  rcases Nat.lt_or_ge b w1.heap.size with h' | h'
  ·exact h'
  ·simp [Array.getElem?_eq_none h'] at hbk
 have hb2:w2.heap[b]?=some (.cells #[.pointer (some ⟨b,0,none⟩),v] 233 (0,0)):=by
  rw [hgrow.block b hlt (fun e=>hne e.symm)];exact hbk
 have d0:w2.cell? ⟨b,0,none⟩=some (.pointer (some ⟨b,0,none⟩)):=by rw [Lib.cell_of_heap hb2];rfl
 have d1:w2.cell? ⟨b,1,none⟩=some v:=by rw [Lib.cell_of_heap hb2];rfl
 have f1:w2.frozen? ⟨b,1,none⟩=false:=Lib.frozen_of_heap hb2 1;obtain ⟨ao,n',cap,rfl⟩:∃ ao n' cap,v'=.slice ao n' cap:=by
  rcases hown'.2 with ⟨hv,_⟩ | ⟨g,cap,cur,hv,_⟩
  ·exact ⟨_,_,_,hv⟩
  ·exact ⟨_,_,_,hv⟩
 go_wp2
 go_ret2;refine ⟨⟨_,rfl⟩,?_,?_⟩
 ·exact Lib.BuilderAt.put (T:=233) (e:=5) hB hb2 (bs':=bs++Lib.strCells s) (by simpa [Lib.strCells_length] using hown') (by decide)
 ·exact (hb1.grown hgrow (by have:=hb1.size;omega) (fun k hk=>(hown.lt k hk).1)).setCell (p:=⟨b,1,none⟩) hB _
end
section
open Go.ChangeShapes Go.WideShapes Go.ChangeAt Go.RowKit Go.Sort Go.Lib Go.Joins
attribute [local go_sem ↓] execOp_call_val
attribute [local go_sem] callVal_func setCell_drewN alloc_drewN
def TabOk (w : World) : Prop := Lib.TabIs Tryz.prog w "internal/strconv.uint64pow10" .u64 Lib.pow10Tab
theorem TabOk.up {w w' : World} (h : TabOk w) (hb : Below w.heap.size w w') : TabOk w' := tab_stays (show Tryz.prog.globalNamed "internal/strconv.uint64pow10" = some 1 by kernel_rfl) h hb lR
theorem fin0 (w:World) (o:Obj) (dk:Array UInt8) (k:Nat):∃ os,(putRow (fun (b:UInt8)=>Value.int .u8 (b.toNat:Int)) (w.alloc o) w.heap.size 0 dk).drewN k=grow (w.drewN k) os:=by
 rw [alloc_eq_grow];obtain ⟨os',_,e⟩:=putRow_grow_new (fun (b:UInt8)=>Value.int .u8 (b.toNat:Int)) w #[o] w.heap.size 0 dk lR;exact ⟨os',by rw [e];rfl⟩
theorem holds0 (w:World) (T:TypeId) (nd:Nat) (hs:nd≤24):Holds (fun (b:UInt8)=>Value.int .u8 (b.toNat:Int)) (w.alloc (.cells Lib.zeros24 T)) w.heap.size 0 (Array.replicate nd (0:UInt8)):=fun j hj=>by
 have hj':j<nd:=by simpa using hj
 refine ⟨?_,World.frozen?_alloc_new _ _ _ _⟩;rw [World.cell?_alloc_new,Lib.zeros24_at _ (by omega),getElem!_pos _ j hj];simp
theorem ifmt_any (u:Nat) (hu64:u<18446744073709551616) (w:World) (ht:TabOk w) :
    Calls Tryz.prog 171 #[.int .u64 u,.int .i64 10] w fun e w'=>e=.returned (.string ⟨(Lib.decDigits u).toArray⟩)∧Below w.heap.size w w':=by
 have HT:=lH ht;clear ht
 by_cases hs:u<100
 ·go_enter Tryz.func171,Tryz.ntmps171
  go_wp2_with fail
  refine (Tryz.internal_strconv_small u hs w).mono ?_;rintro e w' ⟨rfl,rfl⟩
  go_wp2_with fail
  go_ret;exact ⟨rfl,bR⟩
 ·have hu1:1≤u:=by omega
  have hnd20:Lib.nDigits u≤20:=by have:=Lib.numDigits_eq u hu1 hu64;split at this<;>omega
  have hal:Tryz.prog.arrayLen 253=24:=by simp [Program.arrayLen,Tryz.underlying253]
  have hsl1:∀ W,(Instr.sliceAt 253 (.pointer (some ⟨w.heap.size,0,none⟩)) none (some (.int .i64 (Lib.nDigits u:Int))) none).run Tryz.prog W=.ok (.slice (some ⟨w.heap.size,0,none⟩) (Lib.nDigits u) 24) W:=fun W=>by
   rw [run_sliceAt_array_h W 253 ⟨w.heap.size,0,none⟩ (by simp [Program.arrayLen,Program.elem,Tryz.underlying253]) .i64 (Lib.nDigits u:Int) (by omega) (by rw [hal];omega)];go_simp
  have hH0:=holds0 w 253 (Lib.nDigits u) (by omega);have hfmt:=Tryz.internal_strconv_formatBase10 w.heap.size 0 24 u (Array.replicate (Lib.nDigits u) 0) (w.alloc (.cells Lib.zeros24 253)) hH0 (by rw [Array.size_replicate];exact Lib.lt_pow_nDigits u) hu64 (by rw [Array.size_replicate];omega);rw [Array.size_replicate] at hfmt;have HH0:=lH hH0;have HF:=lH hfmt;clear hH0 hal hfmt;go_enter Tryz.func171,Tryz.ntmps171
  go_wp2_with fail
  refine (Tryz.internal_strconv_numDigits u hu1 hu64 _ (Lib.tabIs_alloc HT.o (.cells Lib.zeros24 253))).mono ?_;rintro e w1 ⟨rfl,rfl⟩
  go_wp2_with fail
  refine HF.o.mono ?_;rintro e w' ⟨rfl,k,v',dk,rfl,hF⟩;have hcv:(convert 231 9 (.slice (some ⟨w.heap.size,0,none⟩) (Lib.nDigits u) 24)).run Tryz.prog ((putRow (fun (b:UInt8)=>Value.int .u8 (b.toNat:Int)) (w.alloc (.cells Lib.zeros24 253)) w.heap.size 0 dk).drewN k)=.ok (.string ⟨(Lib.decDigits u).toArray⟩) ((putRow (fun (b:UInt8)=>Value.int .u8 (b.toNat:Int)) (w.alloc (.cells Lib.zeros24 253)) w.heap.size 0 dk).drewN k):=by
   have h:=run_convert_bytes_back (P:=Tryz.prog) ((putRow (fun (b:UInt8)=>Value.int .u8 (b.toNat:Int)) (w.alloc (.cells Lib.zeros24 253)) w.heap.size 0 dk).drewN k) 231 9 5 ⟨w.heap.size,0,none⟩ 24 (Lib.decDigits u) Tryz.underlying231 Tryz.underlying5 Tryz.underlying9 (fun j hj=>by
    rw [Lib.row_is_numeral hF j hj,Lib.add_plain,World.cell?_drewN];exact cell?_putRow (fun (b:UInt8)=>Value.int .u8 (b.toNat:Int)) _ w.heap.size 0 _ dk HH0.o (by rw [hF.size,Array.size_replicate]) j (by rw [hF.size];rw [Lib.decDigits_length] at hj;exact hj))
   rw [Lib.decDigits_length] at h;exact h
  have hcv2:(convert 231 9 (.slice (some ⟨w.heap.size,0,none⟩) (Lib.nDigits u) 24)).run Tryz.prog (putRow (fun (b:UInt8)=>Value.int .u8 (b.toNat:Int)) (w.alloc (.cells Lib.zeros24 253)) w.heap.size 0 dk)=.ok (.string ⟨(Lib.decDigits u).toArray⟩) (putRow (fun (b:UInt8)=>Value.int .u8 (b.toNat:Int)) (w.alloc (.cells Lib.zeros24 253)) w.heap.size 0 dk):=by
   have h:=run_convert_bytes_back (P:=Tryz.prog) (putRow (fun (b:UInt8)=>Value.int .u8 (b.toNat:Int)) (w.alloc (.cells Lib.zeros24 253)) w.heap.size 0 dk) 231 9 5 ⟨w.heap.size,0,none⟩ 24 (Lib.decDigits u) Tryz.underlying231 Tryz.underlying5 Tryz.underlying9 (fun j hj=>by
    rw [Lib.row_is_numeral hF j hj,Lib.add_plain];exact cell?_putRow (fun (b:UInt8)=>Value.int .u8 (b.toNat:Int)) _ w.heap.size 0 _ dk HH0.o (by rw [hF.size,Array.size_replicate]) j (by rw [hF.size];rw [Lib.decDigits_length] at hj;exact hj))
   rw [Lib.decDigits_length] at h;exact h
  obtain ⟨os,eo⟩:=fin0 w (.cells Lib.zeros24 253) dk k;have HEO:=lH eo;clear eo
  go_wp2_with fail
  go_ret;exact ⟨rfl,by rw [HEO.o];exact Lib.below_grow w.heap.size w lR k os⟩
theorem fmt_any (u:Nat) (hu64:u<18446744073709551616) (w:World) (ht:TabOk w) :
    Calls Tryz.prog 151 #[.int .u64 u,.int .i64 10] w fun e w'=>e=.returned (.string ⟨(Lib.decDigits u).toArray⟩)∧Below w.heap.size w w':=by
 have HT:=lH ht;clear ht;go_enter Tryz.func151,Tryz.ntmps151
 go_wp2_with fail
 refine (ifmt_any u hu64 w HT.o).mono ?_;rintro e w' ⟨rfl,hb⟩;have HB:=lH hb;clear hb
 go_wp2_with fail
 go_ret;exact ⟨rfl,HB.o⟩
end
end Go.Proofs.YthgdchffeigkbaaGreatDoor
