import Derived.Test.YthgdchffeigkbaaGreatDoorU08
import Derived.Test.YthgdchffeigkbaaGreatDoorU10
import Derived.Lib.Mul64
import Derived.Laws.Bits64b
import Derived.Laws.CopyOwn
import Derived.Deep.OwnRows
import Derived.Deep.RegionLaw
import Derived.StillTailTactics
import Derived.Deep.LoopGhost
set_option linter.unusedVariables false
set_option linter.unusedSimpArgs false
namespace Go.Proofs.YthgdchffeigkbaaGreatDoor
set_option maxHeartbeats 8000000
set_option maxRecDepth 100000
section
open Go.ChangeShapes Go.WideShapes Go.ChangeAt Go.RowKit Go.Joins Go.Deep
attribute [local go_sem ↓] execOp_call_val
attribute [local go_sem] callVal_func setCell_drewN alloc_drewN sEq_walk
open Go.RowKit in
theorem step_copy_at {P:Program} {ops:Array Oper} {o:Oper} {a:Act} {w:World} {K:Act→World→Prop} {Q:Exit→Act→World→Prop} {E:Prop} (q:Nat) (hq:o.dst=some q) (hgd:o.guard=none) (d s:Operand) (dT sT:TypeId)
    (ho:o.op=.call { callee:=.builtin .copy,args:=#[d,s],argTypes:=#[dT,sT] }) (elem:TypeId) (hu:P.underlying dT=some (.slice elem)) (hsz:(P.info? elem).map (·.size)=some 1)
    (dp sp:Option Addr) (dLen dCap sLen sCap:Nat) (hd:a.eval d=.slice dp dLen dCap) (hs:a.eval s=.slice sp sLen sCap)
    (g off:Nat) (cur:List Value) (t:TypeId) (hg:w.heap[g]?=some (.cells cur.toArray t (0,0))) (cs:List Value) (hn:cs.length=Nat.min sLen dLen)
    (hpos:0<cs.length→dp=some ⟨g,off,none⟩∧∃ ad,sp=some ad∧∀ j v,cs[j]?=some v→w.cell? (ad.add j)=some v)
    (hfit:off+cs.length≤cur.length) (h1:∀ v∈cs,v.oneCell'=true) (B:Nat) (w0:World) (hb:Below B w0 w) (hBg:B≤g)
    (h:∀ w',Hid (w'.heap[g]?=some (.cells (splice cur off cs).toArray t (0,0)))→Below B w0 w'→K (a.put (some q) (goInt cs.length)) w') :
    if Region.wanted o (yielded ops a.tmps)=true then Oper.wp P o a w K Q else E:=
 step_copy_splice hgd d s dT sT ho elem hu hsz dp sp dLen dCap sLen sCap hd hs g off cur t hg cs hn hpos hfit h1 B w0 hb hBg (by rw [hq];exact h)
namespace M64
theorem maskN (a:Nat) (ha:a<18446744073709551616):bits .and .u64 (a:Int) 4294967295=((a % 4294967296:Nat):Int):=by
 have h:=Go.bits_and_u64_nat a 4294967295 ha (by omega);have e:a &&& 4294967295=a % 4294967296:=Nat.and_two_pow_sub_one_eq_mod a 32;rw [e] at h;exact h
theorem divN (a:Nat):(a:Int) / 4294967296=((a / 4294967296:Nat):Int):=by omega
theorem mulN (a b:Nat):(a:Int)*(b:Int)=((a*b:Nat):Int):=(Int.natCast_mul a b).symm
theorem addN (a b:Nat):(a:Int)+(b:Int)=((a+b:Nat):Int):=(Int.natCast_add a b).symm
theorem wrapN (a:Nat) (ha:a<18446744073709551616):IntKind.u64.wrap (a:Int)=(a:Int):=by rw [IntKind.wrap_u64];omega
theorem wrapM (a:Nat):IntKind.u64.wrap (a:Int)=((a % 18446744073709551616:Nat):Int):=by rw [IntKind.wrap_u64];omega
end M64
theorem mul64_any (x y:Nat) (hx:x<18446744073709551616) (hy:y<18446744073709551616) (w:World) :
    Calls Tryz.prog 178 #[.int .u64 x,.int .u64 y] w fun e w'=>e=.returned (.tuple #[.int .u64 ((x*y / 18446744073709551616:Nat):Int),.int .u64 ((x*y % 18446744073709551616:Nat):Int)])∧w=w':=by
 obtain ⟨bd,bt,bw,hhi⟩:=Lib.mul64_hi x y hx hy;have ba:=Lib.half_mul_le (a:=x / 4294967296) (b:=y / 4294967296) (by omega) (by omega);have bb:=Lib.half_mul_le (a:=x / 4294967296) (b:=y % 4294967296) (by omega) (by omega);have bc:=Lib.half_mul_le (a:=x % 4294967296) (b:=y / 4294967296) (by omega) (by omega);have ba':x / 4294967296*(y / 4294967296)<18446744073709551616:=by omega
 have bb':x / 4294967296*(y % 4294967296)<18446744073709551616:=by omega
 have bc':x % 4294967296*(y / 4294967296)<18446744073709551616:=by omega
 have bh1:x / 4294967296*(y / 4294967296)+(x / 4294967296*(y % 4294967296)+x % 4294967296*(y % 4294967296) / 4294967296) / 4294967296<18446744073709551616:=by omega
 have bh:x / 4294967296*(y / 4294967296)+(x / 4294967296*(y % 4294967296)+x % 4294967296*(y % 4294967296) / 4294967296) / 4294967296+((x / 4294967296*(y % 4294967296)+x % 4294967296*(y % 4294967296) / 4294967296) % 4294967296+x % 4294967296*(y / 4294967296)) / 4294967296<18446744073709551616:=by omega
 go_enter Tryz.func178,Tryz.ntmps178
 go_wp2
 simp only [M64.maskN x hx,M64.maskN y hy,M64.divN,M64.mulN,M64.addN,M64.wrapN _ bd,M64.wrapN _ bb',M64.wrapN _ bt,M64.maskN _ bt,M64.wrapN _ bc',M64.wrapN _ bw,M64.wrapN _ ba',M64.wrapN _ bh1,M64.wrapN _ bh,M64.wrapM (x*y)];rw [hhi];go_ret2;exact ⟨rfl,rfl⟩
theorem mul_any (x y:Nat) (hx:x<18446744073709551616) (hy:y<18446744073709551616) (w:World) :
    Calls Tryz.prog 163 #[.int .u64 x,.int .u64 y] w fun e w'=>e=.returned (.tuple #[.int .u64 ((x*y / 18446744073709551616:Nat):Int),.int .u64 ((x*y % 18446744073709551616:Nat):Int)])∧w=w':=by
 go_enter Tryz.func163,Tryz.ntmps163
 go_wp2_with fail
 refine (mul64_any x y hx hy w).mono ?_;rintro e w' ⟨rfl,rfl⟩
 go_wp2_with fail
 go_ret2;exact ⟨rfl,rfl⟩
theorem info_int:(Tryz.prog.info? 3).map (fun i=>(i.zero,i.size,i.bytes))=some (some (.int .i64 0),1,8):=by kernel_rfl
theorem size_int:(Tryz.prog.info? 3).map (·.size)=some 1:=by kernel_rfl
theorem repeat_int (v:Int) (b:Nat) (n:Nat) (w:World) (hv:w.cell? ⟨b,0,none⟩=some (.int .i64 v)) (hn:n≤1000) :
    Calls Tryz.prog 159 #[.slice (some ⟨b,0,none⟩) 1 1,.int .i64 n] w fun e w'=>∃ g,e=.returned (.slice (some ⟨g,0,none⟩) n n)∧w.heap.size≤g∧Blk w' g 3 (List.replicate n (.int .i64 v)).toArray∧Below w.heap.size w w':=by
 have hblt:=World.block_lt_of_cell? w ⟨b,0,none⟩ hv;have hmk:∀ w:World,(Instr.makeSlice 30 (.int .i64 (n:Int)) (.int .i64 (n:Int))).run Tryz.prog w=.ok (.slice (some ⟨w.heap.size,0,none⟩) n n) (w.alloc (.cells (madeCells #[.int .i64 0] n) 3)):=
  fun w=>run_make_row' (P:=Tryz.prog) 30 3 (.int .i64 0) 8 Tryz.underlying30 info_int rfl .i64 .i64 n (by omega) (by omega) w
 have hHV:=lH hv;clear hv;go_enter Tryz.func159,Tryz.ntmps159
 go_wp2_with fail
 refine (mul_any 1 n (by omega) (by omega) _).mono ?_;rw [show (1*n / 18446744073709551616:Nat)=0 from by omega,show (1*n % 18446744073709551616:Nat)=n from by omega];rintro e w' ⟨rfl,rfl⟩;have hmadeL:(madeCells #[.int .i64 0] n).toList.length=n:=by simp [size_madeCells]
 have HML:=lH hmadeL;clear hmadeL;have hB0:Below w.heap.size w (w.alloc (.cells (madeCells #[.int .i64 0] n) 3)):=bA;have hblk:(w.alloc (.cells (madeCells #[.int .i64 0] n) 3)).heap[w.heap.size]?=some (.cells (madeCells #[.int .i64 0] n).toList.toArray 3 (0,0)):=by simpa using heap_alloc_new w _
 have hsrc:(w.alloc (.cells (madeCells #[.int .i64 0] n) 3)).cell? ⟨b,0,none⟩=some (.int .i64 v):=(World.cell?_alloc_lt _ _ _ hblt).trans hHV.out;have HB0:=lH hB0;have HBLK:=lH hblk;have HSRC:=lH hsrc;have hsrc2:∀ j u,(List.replicate (min 1 n) (.int .i64 v))[j]?=some u→(w.alloc (.cells (madeCells #[.int .i64 0] n) 3)).cell? ((⟨b,0,none⟩:Addr).add j)=some u:=fun j u hu=>by
  have hj:=(zB_.1 hu).1;simp at hj;have:j=0:=by omega
  subst this;rw [List.getElem?_replicate,if_pos (by omega)] at hu;injection hu with hu;subst hu;exact HSRC.o
 have HSRC2:=lH hsrc2;clear hB0 hblk hsrc hsrc2
 go_wp2_with (refine wpList_copy_splice rfl (.tmp 31) (.tmp 32) 30 30 rfl 3 Tryz.underlying30 size_int (some ⟨w.heap.size,0,none⟩) (some ⟨b,0,none⟩) n n 1 1 rfl rfl w.heap.size 0 (madeCells #[.int .i64 0] n).toList 3 HBLK.o (List.replicate (min 1 n) (.int .i64 v)) (by simp) (fun _=>⟨rfl,_,rfl,HSRC2.o⟩) (by simp;have:=HML.o;simp at this;omega) (fun u hu=>by rw [(List.mem_replicate.1 hu).2];rfl) w.heap.size w HB0.o lR ?_)
 intro w2 hb2 k2;have hk0:(splice (madeCells #[.int .i64 0] n).toList 0 (List.replicate (min 1 n) (.int .i64 v))).length=n∧∀ i,i<min 1 n→(splice (madeCells #[.int .i64 0] n).toList 0 (List.replicate (min 1 n) (.int .i64 v)))[i]?=some (.int .i64 v):=by
  refine ⟨by unfold splice;have:=HML.o;simp at this ⊢;omega,fun i hi=>?_⟩;unfold splice;rw [List.take_zero,List.nil_append,zR_ (by simpa using hi),List.getElem?_replicate,if_pos hi]
 generalize splice (madeCells #[.int .i64 0] n).toList 0 (List.replicate (min 1 n) (.int .i64 v))=cur0 at hb2 hk0;have HB2:=lH hb2.out;have HK2:=lH k2;have HK0:=lH hk0;have hmin:min 1 n≤n:=Nat.min_le_right _ _;have hmin2:0<n→0<min 1 n:=fun h=>by omega
 clear hb2 k2 hk0 hmk;generalize min 1 n=k0 at *
 go_wp2_with fail
 go_loopw [8] (fun i wr=>∃ k:Nat,k≤n∧i=.int .i64 k∧(0<n→0<k)∧Below w.heap.size w wr∧∃ cur:List Value,cur.length=n∧(∀ i,i<k→cur[i]?=some (.int .i64 v))∧Hid (wr.heap[w.heap.size]?=some (.cells cur.toArray 3 (0,0)))) (fun i _=>n-(intOf i).toNat)
 case atStart=>exact ⟨k0,hmin,rfl,hmin2,HK2.o,cur0,HK0.o.1,HK0.o.2,HB2⟩
 case round=>
  obtain ⟨k,hk,rfl,hkp,hbel,cur,hcl,hci,hblk⟩:=hrel;have HCI:=lH hci;have HBL:=lH hbel;have HCL:=lH hcl;clear hci hbel hcl HK2 HB2 HK0
  by_cases hlt:k<n
  ·have hkp':0<k:=hkp (by omega)
   clear hkp;have hsrc:∀ j u,(List.replicate (min k (n-k)) (.int .i64 v))[j]?=some u→wr.drew.cell? ((⟨w.heap.size,0,none⟩:Addr).add j)=some u:=fun j u hu=>by
    have hj:=(zB_.1 hu).1;simp at hj;rw [List.getElem?_replicate,if_pos hj] at hu;injection hu with hu;subst hu;have h1:=HCI.o j (by omega);have h2:=cell_of_row wr w.heap.size j cur.toArray 3 (0,0) hblk.out;rw [show ((⟨w.heap.size,0,none⟩:Addr).add j)=⟨w.heap.size,j,none⟩ from by unfold Addr.add;split<;>simp_all];show wr.cell? _=_;rw [h2];simpa using h1
   have HSRC3:=lH hsrc;clear hsrc;have hI1:(k:Int)≤(n:Int):=by omega
   have hI2:=lZ k
   have hmk1:min k (n-k)≤n-k:=Nat.min_le_right _ _;have hmk2:0<min k (n-k):=by omega
   have hw1:IntKind.i64.wrap ((k:Int)+((min k (n-k):Nat):Int))=(k:Int)+((min k (n-k):Nat):Int):=IntWalk.i64_in _ (by omega)
   go_wp2_with fail
   go_region_law (refine step_copy_at 45 rfl rfl (.tmp 41) (.tmp 44) 30 30 rfl 3 Tryz.underlying30 size_int (some ⟨w.heap.size,k,none⟩) (some ⟨w.heap.size,0,none⟩) (n-k) (n-k) k n (by simp [Act.eval,Act.put];omega) (by simp [Act.eval,Act.put]) w.heap.size k cur 3 hblk.out (List.replicate (min k (n-k)) (.int .i64 v)) (by simp) (fun _=>⟨rfl,_,rfl,HSRC3.o⟩) (by rw [zO_,HCL.o];omega) (fun u hu=>by rw [(List.mem_replicate.1 hu).2];rfl) w.heap.size w (below_drew HBL.o) lR ?_;intro w3 hb3 k3)
   have hk3:(splice cur k (List.replicate (min k (n-k)) (.int .i64 v))).length=n∧∀ i,i<k+min k (n-k)→(splice cur k (List.replicate (min k (n-k)) (.int .i64 v)))[i]?=some (.int .i64 v):=by
    have hcl:=HCL.o;refine ⟨by unfold splice;simp;omega,fun i hi=>?_⟩;unfold splice
    by_cases hik:i<k
    ·rw [zR_ (by simp;omega),List.getElem?_take,if_pos hik]
     exact HCI.o i hik
    ·rw [zN_ (by simp;omega),zR_ (by simp;omega),List.getElem?_replicate,if_pos (by simp;omega)]
   have HK3:=lH hk3;have HKK3:=lH k3;have HBB3:=lH hb3.out;have hmk4:k+min k (n-k)≤n:=by omega
   clear hk3 k3 hb3 HSRC3;generalize splice cur k (List.replicate (min k (n-k)) (.int .i64 v))=cur3 at *;generalize min k (n-k)=q at *
   go_wp2_with fail
   go_roundw
   case rel=>exact ⟨k+q,hmk4,by go_num,fun _=>by omega,HKK3.o,cur3,HK3.o.1,HK3.o.2,HBB3⟩
   case measure=>simp [intOf];omega
  ·have hkn:k=n:=by omega
   subst hkn
   go_wp2_with fail
   go_ret;refine ⟨w.heap.size,rfl,lR,?_,HBL.o⟩;have hc:cur=List.replicate k (.int .i64 v):=by
    apply List.ext_getElem?;intro i
    by_cases hi:i<k
    ·rw [HCI.o i hi,List.getElem?_replicate,if_pos hi]
    ·rw [List.getElem?_eq_none (by have:=HCL.o;omega),List.getElem?_eq_none (by simp;omega)]
   have:=hblk.out;rw [hc] at this;exact this
end
section
def Bd (B:Nat) (M:List (List Rat)):Prop:=∀ a∈M,∀ x∈a,qsz x+1≤B
theorem Bd.mono {B C:Nat} {M:List (List Rat)} (h:Bd B M) (hc:B≤C):Bd C M:=fun a ha x hx=>zI_ (h a ha x hx) hc
theorem Bd.at_ {B:Nat} {M:List (List Rat)} (h:Bd B M) {i j:Nat} {a:List Rat} {x:Rat} (ha:M[i]?=some a) (hx:a[j]?=some x):qsz x+1≤B:=h a (zC_ ha) x (zC_ hx)
theorem Bd.vf {B:Nat} {M:List (List Rat)} (h:Bd B M) {i j:Nat} {a:List Rat} (ha:M[i]?=some a) (hj:j<a.length):qsz (vf a j)+1≤B:=h.at_ ha (vf_get hj)
section
variable {d f x:Rat} {R row:List Rat} {k i j:Nat}
def divP (d:Rat) (k j:Nat) (row:List Rat):List Rat:=row.mapIdx fun i x=>if k≤i∧i<j then x / d else x
def subP (f:Rat) (R:List Rat) (k j:Nat) (row:List Rat):List Rat:=row.mapIdx fun i x=>if k≤i∧i<j then x-f*vf R i else x
theorem divP_len:(divP d k j row).length=row.length:=by unfold divP;rw [List.length_mapIdx]
theorem subP_len:(subP f R k j row).length=row.length:=by unfold subP;rw [List.length_mapIdx]
theorem divP_start:divP d k k row=row:=by
 apply List.ext_getElem?;intro i;unfold divP;rw [List.getElem?_mapIdx];cases row[i]? with
 | none=>rfl
 | some x=>simp only [Option.map_some];rw [if_neg (by omega)]
theorem subP_start:subP f R k k row=row:=by
 apply List.ext_getElem?;intro i;unfold subP;rw [List.getElem?_mapIdx];cases row[i]? with
 | none=>rfl
 | some x=>simp only [Option.map_some];rw [if_neg (by omega)]
theorem divP_at (h:row[j]?=some x):(divP d k j row)[j]?=some x:=by
 unfold divP;rw [List.getElem?_mapIdx,h];simp only [Option.map_some];rw [if_neg (by omega)]
theorem subP_at (h:row[j]?=some x):(subP f R k j row)[j]?=some x:=by
 unfold subP;rw [List.getElem?_mapIdx,h];simp only [Option.map_some];rw [if_neg (by omega)]
theorem divP_step (hk:k≤j) (h:row[j]?=some x):(divP d k j row).set j (x / d)=divP d k (j+1) row:=by
 have hj:=(zB_.1 h).1;apply List.ext_getElem?;intro i;rw [List.getElem?_set,divP_len];unfold divP;rw [List.getElem?_mapIdx,List.getElem?_mapIdx]
 by_cases hi:j=i
 ·subst hi
  rw [if_pos rfl,if_pos hj,h];simp only [Option.map_some];rw [if_pos ⟨hk,by omega⟩]
 ·rw [if_neg hi]
  cases row[i]? with
  | none=>rfl
  | some y=>
   simp only [Option.map_some]
   by_cases h2:k≤i∧i<j
   ·rw [if_pos h2,if_pos ⟨h2.1,by omega⟩]
   ·rw [if_neg h2,if_neg (by omega)]
theorem subP_step (hk:k≤j) (h:row[j]?=some x):(subP f R k j row).set j (x-f*vf R j)=subP f R k (j+1) row:=by
 have hj:=(zB_.1 h).1;apply List.ext_getElem?;intro i;rw [List.getElem?_set,subP_len];unfold subP;rw [List.getElem?_mapIdx,List.getElem?_mapIdx]
 by_cases hi:j=i
 ·subst hi
  rw [if_pos rfl,if_pos hj,h];simp only [Option.map_some];rw [if_pos ⟨hk,by omega⟩]
 ·rw [if_neg hi]
  cases row[i]? with
  | none=>rfl
  | some y=>
   simp only [Option.map_some]
   by_cases h2:k≤i∧i<j
   ·rw [if_pos h2,if_pos ⟨h2.1,by omega⟩]
   ·rw [if_neg h2,if_neg (by omega)]
theorem subP_skip (h:vf R j=0):subP f R k (j+1) row=subP f R k j row:=by
 apply List.ext_getElem?;intro i;unfold subP;rw [List.getElem?_mapIdx,List.getElem?_mapIdx];cases row[i]? with
 | none=>rfl
 | some y=>
  simp only [Option.map_some]
  by_cases h2:k≤i∧i<j
  ·rw [if_pos h2,if_pos ⟨h2.1,by omega⟩]
  ·rw [if_neg h2]
   by_cases h3:i=j
   ·subst h3
    by_cases h4:k≤i∧i<i+1
    ·rw [if_pos h4,h,Rat.mul_zero,Rat.sub_eq_add_neg,Rat.neg_zero,Rat.add_zero]
    ·rw [if_neg h4]
   ·rw [if_neg (by omega)]
theorem divP_end (h:∀ i,i<k→vf row i=0):divP d k row.length row=divR d row:=by
 apply List.ext_getElem?;intro i;unfold divP divR;rw [List.getElem?_mapIdx,zM_];cases hx:row[i]? with
 | none=>rfl
 | some x=>
  have hi:=(zB_.1 hx).1;simp only [Option.map_some]
  by_cases hk:k≤i
  ·rw [if_pos ⟨hk,hi⟩]
  ·rw [if_neg (by omega)]
   have:=h i (by omega);rw [vf_at hx] at this;rw [this,Rat.div_def,Rat.zero_mul]
theorem subP_end (hl:R.length=row.length) (h:∀ i,i<k→vf R i=0):subP f R k row.length row=subR f R row:=by
 apply List.ext_getElem?;intro i;unfold subP subR;rw [List.getElem?_mapIdx,List.getElem?_zipWith];cases hx:row[i]? with
 | none=>rfl
 | some x=>
  have hi:=(zB_.1 hx).1;rw [vf_get (l:=R) (by omega)];simp only [Option.map_some]
  by_cases hk:k≤i
  ·rw [if_pos ⟨hk,hi⟩]
  ·rw [if_neg (by omega),h i (by omega),Rat.mul_zero,Rat.sub_eq_add_neg,Rat.neg_zero,Rat.add_zero]
theorem subR_zero (hl:R.length=row.length):subR 0 R row=row:=by
 apply List.ext_getElem?;intro i;unfold subR;rw [List.getElem?_zipWith];cases hx:row[i]? with
 | none=>rfl
 | some x=>
  have hi:=(zB_.1 hx).1;rw [vf_get (l:=R) (by omega)];simp only;rw [Rat.zero_mul,Rat.sub_eq_add_neg,Rat.neg_zero,Rat.add_zero]
end
def rowsP (M:List (List Rat)) (R:List Rat) (r k i:Nat):List (List Rat):=M.mapIdx fun t row=>if t<i∧t≠r then subR (vf row k) R row else row
section
variable {M:List (List Rat)} {R row:List Rat} {r p k i:Nat}
theorem rowsP_len:(rowsP M R r k i).length=M.length:=by unfold rowsP;rw [List.length_mapIdx]
theorem rowsP_start:rowsP M R r k 0=M:=by
 apply List.ext_getElem?;intro t;unfold rowsP;rw [List.getElem?_mapIdx];cases M[t]? with
 | none=>rfl
 | some x=>simp only [Option.map_some];rw [if_neg (by omega)]
theorem rowsP_at (h:M[i]?=some row):(rowsP M R r k i)[i]?=some row:=by
 unfold rowsP;rw [List.getElem?_mapIdx,h];simp only [Option.map_some];rw [if_neg (by omega)]
theorem rowsP_r (h:M[r]?=some row):(rowsP M R r k i)[r]?=some row:=by
 unfold rowsP;rw [List.getElem?_mapIdx,h];simp only [Option.map_some];rw [if_neg (by omega)]
theorem rowsP_self:rowsP M R r k (r+1)=rowsP M R r k r:=by
 apply List.ext_getElem?;intro t;unfold rowsP;rw [List.getElem?_mapIdx,List.getElem?_mapIdx];cases M[t]? with
 | none=>rfl
 | some x=>
  simp only [Option.map_some]
  by_cases h:t<r
  ·rw [if_pos ⟨by omega,by omega⟩,if_pos ⟨h,by omega⟩]
  ·rw [if_neg (by omega),if_neg (by omega)]
theorem rowsP_step (hi:i≠r) (h:M[i]?=some row):(rowsP M R r k i).set i (subR (vf row k) R row)=rowsP M R r k (i+1):=by
 have hl:=(zB_.1 h).1;apply List.ext_getElem?;intro t;rw [List.getElem?_set,rowsP_len];unfold rowsP;rw [List.getElem?_mapIdx,List.getElem?_mapIdx]
 by_cases ht:i=t
 ·subst ht
  rw [if_pos rfl,if_pos hl,h];simp only [Option.map_some];rw [if_pos ⟨by omega,hi⟩]
 ·rw [if_neg ht]
  cases M[t]? with
  | none=>rfl
  | some x=>
   simp only [Option.map_some]
   by_cases h2:t<i∧t≠r
   ·rw [if_pos h2,if_pos ⟨by omega,h2.2⟩]
   ·rw [if_neg h2,if_neg (by omega)]
theorem rowsP_skip (hl:R.length=row.length) (h:M[i]?=some row) (hz:vf row k=0):rowsP M R r k (i+1)=rowsP M R r k i:=by
 by_cases hi:i=r
 ·subst hi;exact rowsP_self
 ·rw [←rowsP_step hi h,hz,subR_zero hl]
  apply List.ext_getElem?;intro t;rw [List.getElem?_set]
  by_cases ht:i=t
  ·subst ht
   rw [if_pos rfl,if_pos (by rw [rowsP_len];exact (zB_.1 h).1),rowsP_at h]
  ·rw [if_neg ht]
theorem rowsP_end (hp:M[p]?=some row):rowsP (preStep M r p k) (divR (vf row k) row) r k M.length=colStep M r p k:=by
 unfold rowsP colStep;have e:M.getD p []=row:=by rw [zD_,hp];rfl
 rw [e];apply List.ext_getElem?;intro t;rw [List.getElem?_mapIdx,List.getElem?_mapIdx];cases hx:(preStep M r p k)[t]? with
 | none=>rfl
 | some x=>
  have ht:=(zB_.1 hx).1;rw [preStep_len] at ht;simp only [Option.map_some]
  by_cases h:t=r
  ·rw [if_neg (by omega),if_pos h]
  ·rw [if_pos ⟨ht,h⟩,if_neg h]
theorem swap_pre {a:List Rat} (hr:M[r]?=some a) (hp:M[p]?=some row):((M.set r row).set p a).set r (divR (vf row k) row)=preStep M r p k:=by
 unfold preStep;have e:M.getD p []=row:=by rw [zD_,hp];rfl
 have e2:M.getD r []=a:=by rw [zD_,hr];rfl
 rw [e,e2]
 by_cases h:r=p
 ·subst h;simp
 ·rw [List.set_comm _ _ (fun e=>h e.symm),List.set_set,List.set_comm _ _ h]
theorem swap_r {a:List Rat} (hr:M[r]?=some a) (hp:M[p]?=some row):((M.set r row).set p a)[r]?=some row:=by
 have h1:=(zB_.1 hr).1;rw [List.getElem?_set]
 by_cases h:p=r
 ·subst h
  rw [if_pos rfl,if_pos (by rw [zU_];exact h1)];rw [hr] at hp;exact hp
 ·rw [if_neg h,List.getElem?_set,if_pos rfl,if_pos h1]
theorem set_same {α:Type} {l:List α} {i:Nat} {x:α} (h:l[i]?=some x):l.set i x=l:=by
 apply List.ext_getElem?;intro t;rw [List.getElem?_set]
 by_cases ht:i=t
 ·subst ht
  rw [if_pos rfl,if_pos (zB_.1 h).1,h]
 ·rw [if_neg ht]
theorem mem_divR {d x:Rat} (h:x∈divR d row):∃ y∈row,x=y / d:=by
 unfold divR at h;obtain ⟨y,hy,e⟩:=List.mem_map.1 h;exact ⟨y,hy,e.symm⟩
theorem pre_mem {a:List Rat} (hr:M[r]?=some a) (hp:M[p]?=some row) {b:List Rat} (hb:b∈preStep M r p k):b∈M∨b=divR (vf row k) row:=by
 obtain ⟨t,ht⟩:=List.mem_iff_getElem?.1 hb
 by_cases h1:t=r
 ·subst h1
  rw [pre_r hr hp] at ht;injection ht with ht;exact .inr ht.symm
 ·by_cases h2:t=p
  ·subst h2
   rw [pre_p hr hp (fun e=>h1 e.symm)] at ht;injection ht with ht;exact .inl (ht▸zC_ hr)
  ·rw [pre_off h1 h2] at ht
   exact .inl (zC_ ht)
theorem div_bd {B:Nat} (h:Bd B M) (hp:M[p]?=some row) (hk:k<row.length):∀ x∈divR (vf row k) row,qsz x+2≤2*B:=fun x hx=>by
 obtain ⟨y,hy,rfl⟩:=mem_divR hx;have h1:=h row (zC_ hp) y hy;have h2:=h.vf hp hk;have:=div_qsz y (vf row k);omega
theorem col_bd {N B:Nat} {a:List Rat} (h:Bd B M) (hw:∀ a∈M,a.length=N) (hr:M[r]?=some a) (hp:M[p]?=some row) (hk:k<N):Bd (4*B) (colStep M r p k):=by
 have hpl:=hw row (zC_ hp);have hd:=div_bd h hp (by rw [hpl];exact hk);intro b hb x hx;obtain ⟨t,ht⟩:=List.mem_iff_getElem?.1 hb;obtain ⟨c,hc,rfl⟩:=col_at hp ht;have hcm:=pre_mem hr hp (zC_ hc)
 by_cases h1:t=r
 ·rw [if_pos h1] at hx
  rcases hcm with h2 | rfl
  ·have:=h c h2 x hx;omega
  ·have:=hd x hx;omega
 ·rw [if_neg h1] at hx
  have hcM:c∈M:=by
   obtain ⟨s,hs,_⟩:=pre_src hr hp h1 hc;exact zC_ hs
  have hcl:=hw c hcM;obtain ⟨j,hj⟩:=List.mem_iff_getElem?.1 hx;have hjl:j<c.length:=by
   have:=(zB_.1 hj).1;rwa [subR_len (by rw [divR_len,hpl,hcl])] at this
  have hv:=subR_vf (f:=vf c k) (R:=divR (vf row k) row) (row:=c) hjl (by rw [divR_len,hpl,hcl]);rw [vf_at hj] at hv;rw [hv];obtain ⟨s,hs⟩:=List.mem_iff_getElem?.1 hcM;have b1:=h.vf hs hjl;have b2:=h.vf hs (show k<c.length by omega);have b3:=hd _ (zC_ (vf_get (l:=divR (vf row k) row) (show j<_ by rw [divR_len,hpl];omega)));have b4:=mul_qsz (vf c k) (vf (divR (vf row k) row) j);have b5:=sub_qsz (vf c j) (vf c k*vf (divR (vf row k) row) j);omega
theorem piv_zero {piv:List Nat} (E:Ech (vfs M) piv k) (hp:M[p]?=some row) (hl:piv.length≤p):∀ j,j<k→vf row j=0:=fun j hj=>E.rest p _ (vfs_get hp) hl j hj
theorem div_zero {d:Rat} {j:Nat} (h:vf row j=0) (hj:j<row.length):vf (divR d row) j=0:=by
 rw [divR_vf hj,h,Rat.div_def,Rat.zero_mul]
theorem redGo_none {s:Nat} {piv:List Nat} (h:piv.length<M.length) (hp:pivR M piv.length k=M.length):redGo (s+1) M piv k=redGo s M piv (k+1):=by
 rw [redGo,if_pos h,if_pos hp]
theorem redGo_some {s:Nat} {piv:List Nat} (h:piv.length<M.length) (hp:pivR M piv.length k=p) (hne:p≠M.length):redGo (s+1) M piv k=redGo s (colStep M piv.length p k) (piv++[k]) (k+1):=by
 subst hp;rw [redGo,if_pos h,if_neg hne]
theorem redGo_full {s:Nat} {piv:List Nat} (h:¬piv.length<M.length):redGo s M piv k=(M,piv):=by
 cases s with
 | zero=>rfl
 | succ s=>rw [redGo,if_neg h]
end
theorem pow4_le {k cols:Nat} (h:k≤cols) (c:Nat):4^k*c≤4^cols*c:=Nat.mul_le_mul_right _ (Nat.pow_le_pow_right (by decide) h)
end
section
open Go.ChangeShapes Go.WideShapes Go.ChangeAt Go.RowKit
attribute [local go_sem ↓] execOp_call_val
attribute [local go_sem] callVal_func setCell_drewN alloc_drewN
theorem Qu.away {w:World} {base:Nat} {v:Value} {xs:List Value} (h:Qu w base v xs) {q:Addr} (hq:q.block<base) (u:Value):Qu (w.setCell q u) base v xs:=by
 obtain ⟨g,off,cap,h1,h2,h3,h4,h5,h6,h7⟩:=h.ex;have hb:Below q.block w (w.setCell q u):=(Below.refl _ w).setCell lR u;have hc:∀ j,(w.setCell q u).cell? ⟨g,off+j,none⟩=w.cell? ⟨g,off+j,none⟩:=fun j=>World.cell?_setCell_other _ _ _ _ (fun e=>by subst e;simp at hq;omega);have hfz:∀ j,(w.setCell q u).frozen? ⟨g,off+j,none⟩=w.frozen? ⟨g,off+j,none⟩:=fun j=>by
  obtain ⟨qb,qo,qs⟩:=q;cases qs with
  | none=>exact World.frozen?_setCells qb [u] qo w _
  | some s=>simp
 exact ⟨g,off,cap,h1,h2,zJ_ h3 hb.size,h4,h5,fun j hj=>by rw [hc,hfz];exact h6 j hj,fun j x hx=>by rw [hc];exact h7 j x hx⟩
def natJ (l:List Nat):List Int:=l.map fun (v:Nat)=>(v:Int)
theorem infoIn:(Tryz.prog.info? 3).map (fun i=>(i.zero,i.size,i.bytes))=some (some (.int .i64 0),1,8):=by kernel_rfl
def edC (p:Nat×Nat):List Value:=[.int .i64 p.1,.int .i64 p.2]
def RdE (w:World) (B:Nat) (A:Option Addr) (n:Nat) (es:List (Nat×Nat)):Prop:=es.length=n∧Rd w B 2 A n (es.flatMap edC)
theorem RdE.below {w w':World} {B B' n:Nat} {A:Option Addr} {xs:List (Nat×Nat)} (h:RdE w B A n xs) (hb:Below B' w w') (hB:B≤B'):RdE w' B A n xs:=⟨h.1,h.2.below hb hB⟩
theorem RdE.more {w:World} {B B' n:Nat} {A:Option Addr} {xs:List (Nat×Nat)} (h:RdE w B A n xs) (hB:B≤B'):RdE w B' A n xs:=⟨h.1,h.2.more hB⟩
theorem RdE.form {w:World} {B n:Nat} {A:Option Addr} {xs:List (Nat×Nat)} (h:RdE w B A n xs) (h0:0<n):∃ b off,A=some ⟨b,off,none⟩∧b<B:=by
 obtain ⟨b,off,e,hlt,_⟩:=h.2.2 h0;exact ⟨b,off,e,hlt⟩
theorem RdE.at_ {w:World} {B n:Nat} {b off:Nat} {xs:List (Nat×Nat)} (h:RdE w B (some ⟨b,off,none⟩) n xs) {i:Nat} {x:Nat×Nat} (hx:xs[i]?=some x) :
    w.cell? ⟨b,off+i*2,none⟩=some (.int .i64 x.1)∧w.cell? ⟨b,off+i*2+1,none⟩=some (.int .i64 x.2):=by
 have hl:i<xs.length:=(zB_.1 hx).1;have h1:=h.1;obtain ⟨b',off',e,_,hc⟩:=h.2.2 (by omega);injection e with e;injection e with e1 e2;subst e1;subst e2;have hf:=fun k hk=>flat_at (el:=edC) (sz:=2) (fun _=>rfl) xs i x hx k hk;exact ⟨hc _ _ (hf 0 (by omega)),by rw [Nat.add_assoc];exact hc _ _ (hf 1 (by omega))⟩
theorem pgo_skip {n i:Nat} {es:List (Nat×Nat)} {out:List Int} {m:Int} (hi:i<n) (h:0≤out.getD i 0):pgo n es (n-i) i (out,m)=pgo n es (n-(i+1)) (i+1) (out,m):=by
 obtain ⟨k,hk⟩:∃ k,n-i=k+1:=⟨n-i-1,by omega⟩;rw [hk,show n-(i+1)=k from by omega];show (if 0≤out.getD i 0 then _ else _)=_;rw [if_pos h]
theorem pgo_take {n i:Nat} {es:List (Nat×Nat)} {out:List Int} {m:Int} (hi:i<n) (h:¬0≤out.getD i 0):pgo n es (n-i) i (out,m)=pgo n es (n-(i+1)) (i+1) (pbfs m es (n+1) (out.set i m) [i],m+1):=by
 obtain ⟨k,hk⟩:∃ k,n-i=k+1:=⟨n-i-1,by omega⟩;rw [hk,show n-(i+1)=k from by omega];show (if 0≤out.getD i 0 then _ else _)=_;rw [if_neg h]
theorem pbfs_nil {m:Int} {es:List (Nat×Nat)} {f:Nat} {out:List Int}:pbfs m es f out []=out:=by cases f<;>rfl
theorem pbfs_on {m:Int} {es:List (Nat×Nat)} {f u:Nat} {out:List Int} {q:List Nat} (hf:0<f):pbfs m es f out (u::q)=pbfs m es (f-1) (pscan u m es (out,q)).1 (pscan u m es (out,q)).2:=by
 obtain ⟨k,rfl⟩:∃ k,f=k+1:=⟨f-1,by omega⟩;rfl
theorem pscan_cons {u:Nat} {m:Int} {es:List (Nat×Nat)} {k:Nat} {x:Nat×Nat} {s:List Int×List Nat} (h:es[k]?=some x):pscan u m (es.drop k) s=pscan u m (es.drop (k+1)) (pstep u m s x):=by
 rw [drop_cons h];rfl
theorem set_get {l:List Int} {g i:Nat} {w:World} (h:Blk w g 3 (ints l).toArray) (hi:i<l.length):w.cell? ⟨g,i,none⟩=some (.int .i64 (l.getD i 0)):=by
 rw [h.cell,List.getElem?_toArray];unfold ints;rw [zM_,zD_,zA_ hi];rfl
theorem set_ints {l:List Int} {g i:Nat} {w:World} (h:Blk w g 3 (ints l).toArray) (v:Int):Blk (w.setCell ⟨g,i,none⟩ (.int .i64 v)) g 3 (ints (l.set i v)).toArray:=by
 have h:=h.set_ i (.int .i64 v);rw [show (ints l).toArray.setIfInBounds i (.int .i64 v)=(ints (l.set i v)).toArray from by unfold ints;rw [List.setIfInBounds_toArray,List.map_set]] at h;exact h
theorem natJ_snoc (q:List Nat) (a:Nat):ints (natJ q)++[Value.int .i64 (a:Int)]=ints (natJ (q++[a])):=by
 unfold ints natJ;rw [List.map_append,List.map_append];rfl
def PartsP (n:Nat) (es:List (Nat×Nat)) (w:World) (e:Ending) (w':World):Prop:=
 Below w.heap.size w w'∧∃ g:Nat,e=.returned (.slice (some ⟨g,0,none⟩) n n)∧w.heap.size≤g∧Blk w' g 3 (ints (partsR n es)).toArray
theorem partsP_eq (n:Nat) (es:List (Nat×Nat)) (w:World) (e:Ending) (w':World) (h:Below w.heap.size w w'∧∃ g:Nat,e=.returned (.slice (some ⟨g,0,none⟩) n n)∧w.heap.size≤g∧Blk w' g 3 (ints (partsR n es)).toArray):PartsP n es w e w':=h
theorem parts_any (A:Option Addr) (c n:Nat) (es:List (Nat×Nat)) (w:World) (hE:RdE w w.heap.size A es.length es) (ok:∀ x∈es,x.1<n∧x.2<n) (hn:n≤1000) (he:es.length≤1000) :
    Calls Tryz.prog 133 #[.int .i64 n,.slice A es.length c,.int .i64 (-1)] w (PartsP n es w):=by
 have HE:=lH hE;have HOK:=lH ok;have HP:=lH (partsP_eq n es w);clear hE ok;obtain ⟨i0,hi0,hi1,hi2,hi3⟩:=info_parts infoIn;have HI0:=lH hi0;have HI1:=lH hi1;have HI2:=lH hi2;have HI3:Hid (i0.bytes≤16):=lH (by rw [hi3];decide);clear hi0 hi1 hi2 hi3;have HB1:Hid (Below w.heap.size w (w.alloc (.cells #[.int .i64 (-1)] 3))):=lH (bA);have hm1:(w.alloc (.cells #[.int .i64 (-1)] 3)).cell? ⟨w.heap.size,0,none⟩=some (.int .i64 (-1)):=(Blk.new w 3 #[.int .i64 (-1)]).cell 0;go_enter Tryz.func133,Tryz.ntmps133
 generalize hW1:w.alloc (.cells #[.int .i64 (-1)] 3)=w1 at *
 go_wp2_with fail
 refine (repeat_int (-1) w.heap.size n w1 hm1 hn).mono ?_;rintro e w2 ⟨g,rfl,hg,hblk,k2⟩;have HB2:=lH (HB1.o.tm k2);have HG2:Hid (Blk w2 g 3 (ints (List.replicate n (-1))).toArray):=lH (by unfold ints;rw [List.map_replicate];exact hblk);have hwg:w.heap.size≤g:=zI_ HB1.o.size hg;clear hblk k2 hm1 hW1 hg HB1
 go_wp2_with fail
 go_loopw [8,19] (fun v8 v19 wr=>∃ (i:Nat) (out:List Int) (m:Int),i≤n∧v19=.int .i64 i∧v8=.int .i64 m∧pgo n es (n-i) i (out,m)=pgo n es n 0 (List.replicate n (-1),0)∧Ps n m out []∧0≤m∧m≤i∧Below w.heap.size w wr∧Blk wr g 3 (ints out).toArray) (fun _ v19 _=>n-(intOf v19).toNat)
 case atStart=>exact ⟨0,List.replicate n (-1),0,by omega,rfl,rfl,rfl,⟨by simp,fun _ h=>(by cases h),fun x hx=>(by rw [List.eq_of_mem_replicate hx];omega)⟩,by omega,by omega,HB2.o,HG2.o⟩
 case round=>
  clear HB2 HG2;obtain ⟨i,out,m,hi,rfl,rfl,hf,hps,hm0,hmi,hb,hblk⟩:=hrel;have HF:=lH hf;have HPS:=lH hps;have HB:=lH hb;have HG:=lH hblk;have hol:=hps.len;have hgl:=hblk.lt;clear hf hps hb hblk
  by_cases hlt:i<n
  ·have hcell:=set_get HG.o (by rw [hol];exact hlt)
   have hfz:=HG.o.frozen i;have hiI:(i:Int)<(n:Int):=by omega
   by_cases hz:0≤out.getD i 0
   ·have HZ:=lH hz
    have HGE:decide (out.getD i 0<0)=false:=decide_eq_false (by omega);generalize out.getD i 0=z at hcell hz HGE;have HOL:=lH hol;clear hol HGE
    go_wp2_with fail
    go_roundw
    case rel=>exact ⟨i+1,out,m,by omega,by go_num,rfl,by rw [←HF.o,pgo_skip hlt HZ.o],HPS.o,hm0,by omega,HB.o,HG.o⟩
    case measure=>simp [intOf];omega
   ·have HZ:=lH hz
    have HSETL:Hid (i<out.length):=lH (by rw [hol];exact hlt);have HOL:=lH hol;have HNEG:Hid (out.getD i 0<0):=lH (by omega);generalize out.getD i 0=z at hcell hz;have hz':z<0:=by omega
    have HB3:=lH (HB.o.setCell (p:=⟨g,i,none⟩) (by simp;omega) (.int .i64 m));have HG3:=lH (set_ints (i:=i) HG.o m);clear hz hol
    go_wp2_with fail
    have HB4:=lH (HB3.o.alloc HB3.o.size (.cells #[.int .i64 i] 3));have HG4:=lH (HG3.o.alloc (.cells #[.int .i64 i] 3));have HQ4:Hid (Qu ((wr.setCell ⟨g,i,none⟩ (.int .i64 m)).alloc (.cells #[.int .i64 i] 3)) (g+1) (.slice (some ⟨wr.heap.size,0,none⟩) 1 1) (ints (natJ [i]))):=lH (by
     have hb:=Blk.new (wr.setCell ⟨g,i,none⟩ (.int .i64 m)) 3 #[.int .i64 i];have hsz:(wr.setCell ⟨g,i,none⟩ (.int .i64 m)).heap.size=wr.heap.size:=by simp
     rw [hsz] at hb;refine ⟨wr.heap.size,0,1,rfl,by omega,hb.lt,lR,by simp only [maxLen];omega,fun j hj=>?_,fun j u hu=>?_⟩
     ·have hj0:j=0:=by omega
      subst hj0;exact ⟨by rw [hb.cell 0];rfl,hb.frozen 0⟩
     ·have hj0:j=0:=by have:=(zB_.1 hu).1;simpa [ints,natJ] using this
      subst hj0;rw [Nat.add_zero,hb.cell 0];simpa [ints,natJ] using hu)
    have hs4:g+1≤((wr.setCell ⟨g,i,none⟩ (.int .i64 m)).alloc (.cells #[.int .i64 i] 3)).heap.size:=by simp;omega
    have HPS4:Hid (Ps n m (out.set i m) [i]):=lH ⟨by simp [HOL.o],fun v hv=>by rw [List.mem_singleton.1 hv];exact hlt,fun x hx=>by
     rcases List.mem_or_eq_of_mem_set hx with hx | rfl
     ·exact HPS.o.bd x hx
     ·omega⟩
    have HM4:Hid (([i]:List Nat).length+negs (out.set i m)≤n+1):=lH (by
     have h1:=negs_set out i m hm0 HSETL.o HNEG.o;have h2:=negs_le out;have h3:=HOL.o;simp;omega)
    generalize hW4:(wr.setCell ⟨g,i,none⟩ (.int .i64 m)).alloc (.cells #[.int .i64 i] 3)=w4 at *;obtain ⟨R0,hR0⟩:∃ R0,R0=pbfs m es (n+1) (out.set i m) [i]:=⟨_,rfl⟩;have HR0:=lH hR0;clear hW4 hcell hfz HB3 HG3 HSETL HNEG hR0
    go_loopg [10] (n+1) (fun f v10 wr=>∃ (out:List Int) (q:List Nat),Ps n m out q∧pbfs m es f out q=R0∧q.length+negs out≤f∧f≤n+1∧Below w.heap.size w wr∧Blk wr g 3 (ints out).toArray∧Qu wr (g+1) v10 (ints (natJ q))∧g+1≤wr.heap.size)
    case atStart=>exact ⟨out.set i m,[i],HPS4.o,HR0.o.symm,HM4.o,by omega,HB4.o,HG4.o,HQ4.o,hs4⟩
    case round=>
     clear HB4 HG4 HQ4 HPS4 HM4 hs4 hgl HPS HG HB HOL;obtain ⟨out2,q2,hps,hfun,hmm,hgn,hb,hblk,hq,hs⟩:=hrel;have HPS:=lH hps;have HFUN:=lH hfun;have HB:=lH hb;have HG:=lH hblk;have HMM:=lH hmm;obtain ⟨qb,qo,qc,rfl,hqg,hqlt,hqc,hqm,hqh,hqx⟩:=hq.ex;have hql:(ints (natJ q2)).length=q2.length:=by simp [ints,natJ]
     rw [hql] at hqc hq ⊢;have HQ:=lH hq;clear hps hb hblk hq hfun hmm hql;cases q2 with
     | nil=>
      clear hqx hqh;simp only [zW_] at *
      go_wp2_with fail
      go_roundw
      case rel=>exact ⟨i+1,out2,m+1,by omega,by go_num,by go_num,by rw [←HF.o,pgo_take hlt (by have:=HZ.o;omega),←HR0.o,←HFUN.o,pbfs_nil],⟨HPS.o.len,HPS.o.lt,fun x hx=>by have:=HPS.o.bd x hx;omega⟩,by omega,by omega,HB.o,HG.o⟩
      case measure=>simp [intOf];omega
     | cons u q=>
      have hul:=HPS.o.lt u (List.mem_cons_self ..);have hq0:=hqx 0 (.int .i64 u) rfl;rw [Nat.add_zero] at hq0;have hqt:=HQ.o;rw [show ints (natJ (u::q))=.int .i64 u::ints (natJ q) from rfl] at hqt;have hqt:=hqt.tail;rw [zV_,Nat.add_sub_cancel] at hqt;have hqlI:(0:Int)<((q.length+1:Nat):Int):=by omega
      have hq1:1≤q.length+1:=by omega
      have hqd:decide (0<q.length+1)=true:=by simp
      have hsub:q.length+1-1=q.length:=by omega
      have hqc1:1≤qc:=by rw [zV_] at hqc;omega
      have hqc2:q.length+1≤qc:=by rw [zV_] at hqc;exact hqc
      generalize hqa:(if qc=1 then some (⟨qb,qo,none⟩:Addr) else some ⟨qb,qo+1,none⟩)=qa at hqt;have HQT:=lH hqt;have hln:(u::q).length=q.length+1:=rfl;rw [hln] at hqc ⊢;have HLQ:=lH hln;clear hqt hqx hqh hln;generalize hql:q.length+1=ql at *;have HQL:=lH hql;clear hql
      go_wp2_with fail
      have hwo:=HB.o.size;obtain ⟨S0,hS0⟩:∃ S0,S0=pscan u m es (out2,q):=⟨_,rfl⟩;have HS0:=lH hS0;obtain ⟨C0,hC0⟩:∃ C0,C0=q.length+negs out2:=⟨_,rfl⟩;have HC0:=lH hC0;have HPSq:Hid (Ps n m out2 q):=lH ⟨HPS.o.len,fun v hv=>HPS.o.lt v (List.mem_cons_of_mem _ hv),HPS.o.bd⟩;have HFUN2:Hid (0<gk→pbfs m es (gk-1) S0.1 S0.2=R0):=lH (fun h=>by rw [←HFUN.o,pbfs_on h,←HS0.o]);have HMM2:Hid (1+C0≤gk):=lH (by have:=HMM.o;rw [zV_] at this;omega);clear HFUN HMM hS0 hC0 HPS
      go_loopw [10,43] (fun v10 v43 wr=>∃ (k:Nat) (out:List Int) (q:List Nat),k≤es.length∧v43=.int .i64 k∧Ps n m out q∧pscan u m (es.drop k) (out,q)=S0∧q.length+negs out=C0∧Below w.heap.size w wr∧Blk wr g 3 (ints out).toArray∧Qu wr (g+1) v10 (ints (natJ q))∧g+1≤wr.heap.size) (fun _ v43 _=>es.length-(intOf v43).toNat)
      case atStart=>exact ⟨0,out2,q,by omega,rfl,HPSq.o,HS0.o.symm,HC0.o.symm,HB.o,HG.o,by have h:=HQT.o;rw [←hqa] at h;first | exact h | (rw [hqa] at h;exact h),hs⟩
      case round=>
       clear HPSq HB HG HQT HQ;obtain ⟨k,out3,q3,hk,rfl,hps,hsc,hcc,hb,hblk,hq3,hs3⟩:=hrel;have HPS:=lH hps;have HSC:=lH hsc;have HCC:=lH hcc;have HB:=lH hb;have HG:=lH hblk;have HQ:=lH hq3;have hol3:=lH hps.len;clear hps hsc hcc hb hblk hq3
       by_cases hlt3:k<es.length
       ·obtain ⟨⟨xa,xb⟩,hx⟩:∃ x,es[k]?=some x:=⟨_,zA_ hlt3⟩
        have hE:=(HE.o.below HB.o lR).more HB.o.size;obtain ⟨eb,eo,heA,heb⟩:=hE.form (by omega);subst heA;obtain ⟨e0,e1⟩:=hE.at_ hx;dsimp only at e0 e1;obtain ⟨hxa,hxb⟩:=HOK.o _ (zC_ hx);dsimp only at hxa hxb;have hkI:(k:Int)<(es.length:Int):=by omega
        have hkm:((k:Int) == -1)=false:=by simp
        have HST:=lH (pstep_ok (u:=u) (s:=(out3,q3)) hm0 (HOK.o _ (zC_ hx)) HPS.o);have HSC2:Hid (pscan u m (es.drop (k+1)) (pstep u m (out3,q3) (xa,xb))=S0):=lH (by rw [←HSC.o,pscan_cons hx]);have HBA:=lH (HB.o.alloc HB.o.size (.cells #[.int .i64 xa,.int .i64 xb] 166));have HGA:=lH (HG.o.alloc (.cells #[.int .i64 xa,.int .i64 xb] 166));have HQA:=lH (HQ.o.up (bR.alloc lR (.cells #[.int .i64 xa,.int .i64 xb] 166)));have hbox:=Blk.new wr 166 #[.int .i64 xa,.int .i64 xb];have b0:=hbox.cell 0;have b1:=hbox.cell 1;have hgl3:g<wr.heap.size:=by omega
        clear hE hx hbox;unfold pstep at HST HSC2
        by_cases hh:xa=u∨xb=u
        ·by_cases ha:xa=u
         ·subst ha
          have hna:((xa:Int) != (xa:Int))=false:=by simp
          have ho:xa+xb-xa=xb:=by omega
          dsimp only at HST HSC2;rw [ho] at HST HSC2;have hby:(wr.alloc (.cells #[.int .i64 xa,.int .i64 xb] 166)).cell? ⟨g,xb,none⟩=some (.int .i64 (out3.getD xb 0)):=set_get HGA.o (by rw [hol3.out];omega);have hoI:(xb:Int)<(n:Int):=by omega
          have hfz:=HGA.o.frozen xb
          by_cases hz:out3.getD xb 0<0
          ·have HZ:=lH hz
           rw [if_pos ⟨hh,hz⟩] at HST HSC2;generalize out3.getD xb 0=z at hby hz;have hlen3:(ints (natJ q3)).length≤1000000:=by
            have h1:=HCC.o;have h2:=HMM2.o;simp only [ints,natJ,zG_];omega
           have HB7:=lH ((HB.o.setCell (p:=⟨g,xb,none⟩) (by simp;omega) (.int .i64 m)).alloc (by simp;omega) (.cells #[.int .i64 xa,.int .i64 xb] 166));have HG7:=lH ((set_ints (i:=xb) HG.o m).alloc (.cells #[.int .i64 xa,.int .i64 xb] 166));have HQ7:=lH ((HQ.o.away (q:=⟨g,xb,none⟩) (by simp) (.int .i64 m)).up (bR.alloc lR (.cells #[.int .i64 xa,.int .i64 xb] 166)));generalize hw7:(wr.setCell ⟨g,xb,none⟩ (.int .i64 m)).alloc (.cells #[.int .i64 xa,.int .i64 xb] 166)=w7 at HB7 HG7 HQ7;have hs7:wr.heap.size+1=w7.heap.size:=by rw [←hw7];simp
           have HB8:Hid (Below w.heap.size w (((wr.setCell ⟨g,xb,none⟩ (.int .i64 m)).alloc (.cells #[.int .i64 xa,.int .i64 xb] 166)).alloc (.cells #[.int .i64 ((xa:Int)+xb-xa)] 3))):=lH (by rw [hw7];exact HB7.o.alloc HB7.o.size (.cells #[.int .i64 ((xa:Int)+xb-xa)] 3));have HG8:Hid (Blk (((wr.setCell ⟨g,xb,none⟩ (.int .i64 m)).alloc (.cells #[.int .i64 xa,.int .i64 xb] 166)).alloc (.cells #[.int .i64 ((xa:Int)+xb-xa)] 3)) g 3 (ints (out3.set xb m)).toArray):=lH (by rw [hw7];exact HG7.o.alloc (.cells #[.int .i64 ((xa:Int)+xb-xa)] 3));have HQ8:Hid (Qu (((wr.setCell ⟨g,xb,none⟩ (.int .i64 m)).alloc (.cells #[.int .i64 xa,.int .i64 xb] 166)).alloc (.cells #[.int .i64 ((xa:Int)+xb-xa)] 3)) (g+1) u10 (ints (natJ q3))):=lH (by rw [hw7];exact HQ7.o.up (bR.alloc lR (.cells #[.int .i64 ((xa:Int)+xb-xa)] 3)))
           have HC8:Hid ((((wr.setCell ⟨g,xb,none⟩ (.int .i64 m)).alloc (.cells #[.int .i64 xa,.int .i64 xb] 166)).alloc (.cells #[.int .i64 ((xa:Int)+xb-xa)] 3)).cell? ⟨wr.heap.size+1,0,none⟩=some (.int .i64 ((xa:Int)+xb-xa))):=lH (by
            rw [hw7];have h:=(Blk.new w7 3 #[.int .i64 ((xa:Int)+xb-xa)]).cell 0;rw [←hs7] at h;simpa using h)
           have hs8:g+1≤(((wr.setCell ⟨g,xb,none⟩ (.int .i64 m)).alloc (.cells #[.int .i64 xa,.int .i64 xb] 166)).alloc (.cells #[.int .i64 ((xa:Int)+xb-xa)] 3)).heap.size:=by simp;omega
           clear hs7 hw7 HB7 HG7 HQ7
           go_wp2_with (at_builtin;refine wpList_append_q _ rfl (.tmp 79) (.tmp 81) 30 rfl (g+1) 3 i0 (.int .i64 0) Tryz.underlying30 HI0.o HI1.o HI2.o HI3.o rfl u10 _ rfl HQ8.o ⟨wr.heap.size+1,0,none⟩ 1 _ rfl HC8.o rfl rfl hlen3 hs8 ?_;intro v' w9 hq9 hb9)
           go_roundw
           case rel=>
            have hq:ints (natJ q3)++[Value.int .i64 ((xa:Int)+xb-xa)]=ints (natJ (q3++[xb])):=by
             first | exact natJ_snoc _ _ | (rw [←natJ_snoc];congr 1<;>first | rfl | (congr 2;omega))
            rw [hq] at hq9;have h1:=HST.o;exact ⟨k+1,_,_,by omega,by go_num,h1.1,HSC2.o,h1.2.1.trans HCC.o,HB8.o.trans (hb9.mono (by omega)),HG8.o.below hb9 (by omega),hq9,zI_ hs8 hb9.size⟩
           case measure=>simp [intOf];omega
          ·rw [if_neg (fun h=>hz h.2)] at HST HSC2
           have hzz:decide (out3.getD xb 0<0)=false:=decide_eq_false hz;generalize out3.getD xb 0=z at hby hz hzz
           go_wp2_with fail
           go_roundw
           case rel=>exact ⟨k+1,out3,q3,by omega,by go_num,HPS.o,HSC2.o,HCC.o,HBA.o,HGA.o,HQA.o,by simp;omega⟩
           case measure=>simp [intOf];omega
         ·have hb:xb=u:=hh.resolve_left ha
          subst hb;have hna:((xa:Int) != (xb:Int))=true:=by simp;omega
          have hnb0:((xb:Int) != (xb:Int))=false:=by simp
          have ho:xa+xb-xb=xa:=by omega
          dsimp only at HST HSC2;rw [ho] at HST HSC2;have hby:(wr.alloc (.cells #[.int .i64 xa,.int .i64 xb] 166)).cell? ⟨g,xa,none⟩=some (.int .i64 (out3.getD xa 0)):=set_get HGA.o (by rw [hol3.out];omega);have hoI:(xa:Int)<(n:Int):=by omega
          have hfz:=HGA.o.frozen xa
          by_cases hz:out3.getD xa 0<0
          ·have HZ:=lH hz
           rw [if_pos ⟨hh,hz⟩] at HST HSC2;generalize out3.getD xa 0=z at hby hz;have hlen3:(ints (natJ q3)).length≤1000000:=by
            have h1:=HCC.o;have h2:=HMM2.o;simp only [ints,natJ,zG_];omega
           have HB7:=lH ((HB.o.setCell (p:=⟨g,xa,none⟩) (by simp;omega) (.int .i64 m)).alloc (by simp;omega) (.cells #[.int .i64 xa,.int .i64 xb] 166));have HG7:=lH ((set_ints (i:=xa) HG.o m).alloc (.cells #[.int .i64 xa,.int .i64 xb] 166));have HQ7:=lH ((HQ.o.away (q:=⟨g,xa,none⟩) (by simp) (.int .i64 m)).up (bR.alloc lR (.cells #[.int .i64 xa,.int .i64 xb] 166)));generalize hw7:(wr.setCell ⟨g,xa,none⟩ (.int .i64 m)).alloc (.cells #[.int .i64 xa,.int .i64 xb] 166)=w7 at HB7 HG7 HQ7;have hs7:wr.heap.size+1=w7.heap.size:=by rw [←hw7];simp
           have HB8:Hid (Below w.heap.size w (((wr.setCell ⟨g,xa,none⟩ (.int .i64 m)).alloc (.cells #[.int .i64 xa,.int .i64 xb] 166)).alloc (.cells #[.int .i64 (xa:Int)] 3))):=lH (by rw [hw7];exact HB7.o.alloc HB7.o.size (.cells #[.int .i64 (xa:Int)] 3));have HG8:Hid (Blk (((wr.setCell ⟨g,xa,none⟩ (.int .i64 m)).alloc (.cells #[.int .i64 xa,.int .i64 xb] 166)).alloc (.cells #[.int .i64 (xa:Int)] 3)) g 3 (ints (out3.set xa m)).toArray):=lH (by rw [hw7];exact HG7.o.alloc (.cells #[.int .i64 (xa:Int)] 3));have HQ8:Hid (Qu (((wr.setCell ⟨g,xa,none⟩ (.int .i64 m)).alloc (.cells #[.int .i64 xa,.int .i64 xb] 166)).alloc (.cells #[.int .i64 (xa:Int)] 3)) (g+1) u10 (ints (natJ q3))):=lH (by rw [hw7];exact HQ7.o.up (bR.alloc lR (.cells #[.int .i64 (xa:Int)] 3)))
           have HC8:Hid ((((wr.setCell ⟨g,xa,none⟩ (.int .i64 m)).alloc (.cells #[.int .i64 xa,.int .i64 xb] 166)).alloc (.cells #[.int .i64 (xa:Int)] 3)).cell? ⟨wr.heap.size+1,0,none⟩=some (.int .i64 (xa:Int))):=lH (by
            rw [hw7];have h:=(Blk.new w7 3 #[.int .i64 (xa:Int)]).cell 0;rw [←hs7] at h;simpa using h)
           have hs8:g+1≤(((wr.setCell ⟨g,xa,none⟩ (.int .i64 m)).alloc (.cells #[.int .i64 xa,.int .i64 xb] 166)).alloc (.cells #[.int .i64 (xa:Int)] 3)).heap.size:=by simp;omega
           clear hs7 hw7 HB7 HG7 HQ7
           go_wp2_with (at_builtin;refine wpList_append_q _ rfl (.tmp 79) (.tmp 81) 30 rfl (g+1) 3 i0 (.int .i64 0) Tryz.underlying30 HI0.o HI1.o HI2.o HI3.o rfl u10 _ rfl HQ8.o ⟨wr.heap.size+1,0,none⟩ 1 _ rfl HC8.o rfl rfl hlen3 hs8 ?_;intro v' w9 hq9 hb9)
           go_roundw
           case rel=>
            have hq:ints (natJ q3)++[Value.int .i64 (xa:Int)]=ints (natJ (q3++[xa])):=by
             first | exact natJ_snoc _ _ | (rw [←natJ_snoc];congr 1<;>first | rfl | (congr 2;omega))
            rw [hq] at hq9;have h1:=HST.o;exact ⟨k+1,_,_,by omega,by go_num,h1.1,HSC2.o,h1.2.1.trans HCC.o,HB8.o.trans (hb9.mono (by omega)),HG8.o.below hb9 (by omega),hq9,zI_ hs8 hb9.size⟩
           case measure=>simp [intOf];omega
          ·rw [if_neg (fun h=>hz h.2)] at HST HSC2
           have hzz:decide (out3.getD xa 0<0)=false:=decide_eq_false hz;generalize out3.getD xa 0=z at hby hz hzz
           go_wp2_with fail
           go_roundw
           case rel=>exact ⟨k+1,out3,q3,by omega,by go_num,HPS.o,HSC2.o,HCC.o,HBA.o,HGA.o,HQA.o,by simp;omega⟩
           case measure=>simp [intOf];omega
        ·have hna : ((xa : Int) != (u : Int)) = true := by have : xa ≠ u := fun h => hh (.inl h)
                                                           simp;omega
         have hnb : ((xb : Int) != (u : Int)) = true := by have : xb ≠ u := fun h => hh (.inr h)
                                                           simp;omega
         rw [if_neg (fun h=>hh h.1)] at HST HSC2
         go_wp2_with fail
         go_roundw
         case rel=>exact ⟨k+1,out3,q3,by omega,by go_num,HPS.o,HSC2.o,HCC.o,HBA.o,HGA.o,HQA.o,by simp;omega⟩
         case measure=>simp [intOf];omega
       ·have hkk:k=es.length:=by omega
        subst hkk
        go_wp2_with fail
        go_roundg (gk-1)
        case rel=>
         have hS:(out3,q3)=S0:=by rw [←HSC.o,List.drop_length];rfl
         exact ⟨out3,q3,HPS.o,by rw [←HFUN2.o (by have:=HMM2.o;omega),←hS],by have:=HMM2.o;have:=HCC.o;omega,by omega,HB.o,HG.o,HQ.o,hs3⟩
        case measure=>have:=HMM2.o;omega
  ·have hin:i=n:=by omega
   subst hin
   go_wp2_with fail
   go_ret;exact HP.o _ _ ⟨HB.o,g,rfl,hwg,by
    have h:=HG.o;have e:out=partsR i es:=by unfold partsR;rw [←HF.o,Nat.sub_self];rfl
    rw [e] at h;exact h⟩
theorem RdE.bm {w w':World} {n:Nat} {A:Option Addr} {l:List (Nat×Nat)} (h:RdE w w.heap.size A n l) (g:Below w.heap.size w w'):RdE w' w'.heap.size A n l:=(h.below g lR).more g.size
end
end Go.Proofs.YthgdchffeigkbaaGreatDoor
