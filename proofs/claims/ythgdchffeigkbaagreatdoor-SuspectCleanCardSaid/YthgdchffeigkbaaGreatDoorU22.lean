import Derived.Test.YthgdchffeigkbaaGreatDoorU13
import Derived.Test.YthgdchffeigkbaaGreatDoorU18
import Derived.Test.YthgdchffeigkbaaGreatDoorU19
import Derived.Laws.CopyRow
set_option linter.unusedVariables false
set_option linter.unusedSimpArgs false
namespace Go.Proofs.YthgdchffeigkbaaGreatDoor
set_option maxHeartbeats 4000000
set_option maxRecDepth 100000
section
open Go.ChangeShapes Go.WideShapes Go.ChangeAt Go.RowKit
attribute [local go_sem ↓] execOp_call_val
attribute [local go_sem] callVal_func setCell_drewN alloc_drewN sEq_walk
section
variable (P:Program)
theorem run_copy_rowN (w:World) (dT sT ty elem:TypeId) (g o dLen dCap:Nat) (a:Addr) (sLen sCap sz:Nat) (cur:Array Value) (t:TypeId) (cs:List Value)
    (hu:P.underlying dT=some (.slice elem)) (hs:(P.info? elem).map (·.size)=some sz)
    (hg:w.heap[g]?=some (.cells cur t (0,0))) (hn:cs.length=Nat.min sLen dLen*sz)
    (hsrc:∀ j v,cs[j]?=some v→w.cell? (a.add j)=some v) (hfit:o+cs.length≤cur.size) (h1:∀ v∈cs,v.oneCell'=true) :
    (Builtin.copy_ #[dT,sT] ty #[.slice (some ⟨g,o,none⟩) dLen dCap,.slice (some a) sLen sCap]).run P w =
     .ok (goInt (Nat.min sLen dLen)) (w.setRow g (cur.toList.take o++cs++cur.toList.drop (o+cs.length)).toArray):=by
 have hl:=run_loadCells_list (P:=P) w a cs hsrc;have hst:=run_storeCells_at P g o t cs 0 cur w hg (by simpa using hfit) h1;cases hq:P.info? elem with
 | none=>simp [hq] at hs
 | some i=>
  have hi:i.size=sz:=by simpa [hq] using hs
  simp [Builtin.copy_,run_underlying hu,Builtin.lenOf,Builtin.firstCells,sizeOf,typeInfo,hq,hi,←hn,hl,hst]
end
theorem step_copyN {P:Program} {ops:Array Oper} {o:Oper} {a:Act} {w:World} {K:Act→World→Prop} {Q:Exit→Act→World→Prop} {E:Prop} (q:Nat) (hq:o.dst=some q) (hgd:o.guard=none) (d s:Operand) (dT sT:TypeId)
    (ho:o.op=.call { callee:=.builtin .copy,args:=#[d,s],argTypes:=#[dT,sT] }) (elem:TypeId) (sz:Nat) (hu:P.underlying dT=some (.slice elem)) (hsz:(P.info? elem).map (·.size)=some sz)
    (ad:Addr) (dLen dCap sLen sCap g off:Nat) (hd:a.eval d=.slice (some ⟨g,off,none⟩) dLen dCap) (hs:a.eval s=.slice (some ad) sLen sCap)
    (cur:List Value) (t:TypeId) (hg:w.heap[g]?=some (.cells cur.toArray t (0,0))) (cs:List Value) (hn:cs.length=Nat.min sLen dLen*sz)
    (hsrc:∀ j v,cs[j]?=some v→w.cell? (ad.add j)=some v)
    (hfit:off+cs.length≤cur.length) (h1:∀ v∈cs,v.oneCell'=true) (B:Nat) (w0:World) (hb:Below B w0 w) (hBg:B≤g)
    (h:∀ w',Hid (w'.heap[g]?=some (.cells (splice cur off cs).toArray t (0,0)))→Below B w0 w'→K (a.put (some q) (goInt (Nat.min sLen dLen))) w') :
    if Region.wanted o (yielded ops a.tmps)=true then Oper.wp P o a w K Q else E:=by
 have hw:Region.wanted o (yielded ops a.tmps)=true:=by simp [Region.wanted,hgd]
 rw [if_pos hw];have hrun:=run_copy_rowN P w dT sT o.type elem g off dLen dCap ad sLen sCap sz cur.toArray t cs hu hsz hg hn hsrc (by simpa using hfit) h1;unfold Oper.wp;simp only [execOp,ho,resolve,invoke,builtin,Sem.run_bind,Sem.run_pure,Result.andThen_ok,List.map_toArray,List.map_cons,List.map_nil,hd,hs,hrun];have h2:=h (w.setRow g (cur.take off++cs++cur.drop (off+cs.length)).toArray) (show _=_ by simpa [splice] using setRow_heap w g _ _ t _ hg) (below_setRow hb hBg _);rw [←hq] at h2;exact h2
theorem wpList_copyN {P:Program} {w:World} {ops:Array Oper} {rest:List Oper} {o:Oper} {a:Act} {Q:Exit→Act→World→Prop} (hgd:o.guard=none) (d s:Operand) (dT sT:TypeId)
    (ho:o.op=.call { callee:=.builtin .copy,args:=#[d,s],argTypes:=#[dT,sT] }) (elem:TypeId) (sz:Nat) (hu:P.underlying dT=some (.slice elem)) (hsz:(P.info? elem).map (·.size)=some sz)
    (ad:Addr) (dLen dCap sLen sCap g off:Nat) (hd:a.eval d=.slice (some ⟨g,off,none⟩) dLen dCap) (hs:a.eval s=.slice (some ad) sLen sCap)
    (cur:List Value) (t:TypeId) (hg:w.heap[g]?=some (.cells cur.toArray t (0,0))) (cs:List Value) (hn:cs.length=Nat.min sLen dLen*sz)
    (hsrc:∀ j v,cs[j]?=some v→w.cell? (ad.add j)=some v)
    (hfit:off+cs.length≤cur.length) (h1:∀ v∈cs,v.oneCell'=true) (B:Nat) (w0:World) (hb:Below B w0 w) (hBg:B≤g)
    (h:∀ w',Hid (w'.heap[g]?=some (.cells (splice cur off cs).toArray t (0,0)))→Below B w0 w'→wpList P ops Q rest (a.put o.dst (goInt (Nat.min sLen dLen))) w') :
    wpList P ops Q (o::rest) a w:=by
 refine wpList_plain hgd fun K hK=>?_;have hrun:=run_copy_rowN P w dT sT o.type elem g off dLen dCap ad sLen sCap sz cur.toArray t cs hu hsz hg hn hsrc (by simpa using hfit) h1;unfold Oper.wp execOp;simp only [ho,resolve,invoke,builtin,Sem.run_bind,Sem.run_pure,Result.andThen_ok,List.map_toArray,List.map_cons,List.map_nil,hd,hs,hrun];exact hK _ _ (h _ (show _=_ by simpa [splice] using setRow_heap w g _ _ t _ hg) (below_setRow hb hBg _))
theorem size_rat:(Tryz.prog.info? 115).map (·.size)=some 4:=by kernel_rfl
def Head (v:Rv) (k:Nat) (cur:List Value):Prop:=∀ i,i<k*4→cur[i]?=(rvs (List.replicate k v))[i]?
theorem rvs_rep_at (v:Rv) (k i:Nat) (h:i<k*4):(rvs (List.replicate k v))[i]?=v.cells[i % 4]?:=by
 have h1:i / 4<k:=by omega
 have:=rvs_at (vs:=List.replicate k v) (i:=i / 4) (v:=v) (by rw [List.getElem?_replicate,if_pos h1]) (i % 4) (Nat.mod_lt _ (by decide));rwa [show i / 4*4+i % 4=i from by omega] at this
theorem rvs_oneCell (vs:List Rv):∀ u∈rvs vs,u.oneCell'=true:=fun u hu=>(rvs_noI vs u hu).1
theorem rep_splice {v:Rv} {k q n:Nat} {cur:List Value} (hl:cur.length=n*4) (hc:Head v k cur) (hq:k+q≤n):(splice cur (k*4) (rvs (List.replicate q v))).length=n*4∧Head v (k+q) (splice cur (k*4) (rvs (List.replicate q v))):=by
 have hlr:(rvs (List.replicate q v)).length=q*4:=by rw [rvs_len,zO_]
 refine ⟨by unfold splice;simp only [zE_,zF_,zS_,hlr];omega,fun i hi=>?_⟩;unfold splice;rw [rvs_rep_at v _ _ hi]
 by_cases hik:i<k*4
 ·rw [zR_ (by rw [zF_];omega),List.getElem?_take,if_pos hik,hc i hik,rvs_rep_at v _ _ hik]
 ·rw [zN_ (by rw [zF_];omega),zF_,Nat.min_eq_left (by omega),zR_ (by rw [hlr];omega),rvs_rep_at v _ _ (by omega)]
  rw [show (i-k*4) % 4=i % 4 from by omega]
theorem Head.all {v:Rv} {n:Nat} {cur:List Value} (hl:cur.length=n*4) (h:Head v n cur):cur=rvs (List.replicate n v):=by
 apply List.ext_getElem?;intro i
 by_cases hi:i<n*4
 ·exact h i hi
 ·rw [List.getElem?_eq_none (by omega),List.getElem?_eq_none (by rw [rvs_len,zO_];omega)]
theorem repeat_q (v:Rv) (b:Nat) (n:Nat) (w:World) (hv:Blk w b 115 #[.bool v.b1,.slice v.A v.n v.c,.bool v.b2,.slice v.A2 v.m v.d]) (hn:n≤1000) :
    Calls Tryz.prog 139 #[.slice (some ⟨b,0,none⟩) 1 1,.int .i64 n] w fun e w'=>∃ g,e=.returned (.slice (some ⟨g,0,none⟩) n n)∧w.heap.size≤g∧Blk w' g 115 (rvs (List.replicate n v)).toArray∧Below w.heap.size w w':=by
 have hblt:=hv.lt;have hmk:∀ w:World,(Instr.makeSlice 93 (.int .i64 (n:Int)) (.int .i64 (n:Int))).run Tryz.prog w=.ok (.slice (some ⟨w.heap.size,0,none⟩) n n) (w.alloc (.cells (rvs (List.replicate n rv0)).toArray 115)):=fun w=>make_rat n (by omega) w;have HHV:=lH hv;clear hv;go_enter Tryz.func139,Tryz.ntmps139
 go_wp2_with fail
 refine (mul_any 1 n (by omega) (by omega) _).mono ?_;rw [show (1*n / 18446744073709551616:Nat)=0 from by omega,show (1*n % 18446744073709551616:Nat)=n from by omega];rintro e w' ⟨rfl,rfl⟩;have hB0:Below w.heap.size w (w.alloc (.cells (rvs (List.replicate n rv0)).toArray 115)):=bA;have hblk:(w.alloc (.cells (rvs (List.replicate n rv0)).toArray 115)).heap[w.heap.size]?=some (.cells (rvs (List.replicate n rv0)).toArray 115 (0,0)):=heap_alloc_new w _;have HB0:=lH hB0;have HBLK:=lH hblk;have HHV2:=lH (HHV.o.below hB0 hblt);have HSRC:Hid (∀ j u,(rvs (List.replicate (Nat.min 1 n) v))[j]?=some u→(w.alloc (.cells (rvs (List.replicate n rv0)).toArray 115)).cell? ((⟨b,0,none⟩:Addr).add j)=some u):=lH fun j u hu=>by
  have hj:=(zB_.1 hu).1;rw [rvs_len,zO_] at hj;have hm:Nat.min 1 n≤1:=Nat.min_le_left _ _;rw [rvs_rep_at v _ _ (by omega)] at hu;rw [Addr.add_lit,Nat.zero_add,HHV2.o.cell j];have hj4:j % 4=j:=by omega
  rw [hj4] at hu;simpa [Rv.cells] using hu
 have hml:(rvs (List.replicate n rv0)).length=n*4:=by rw [rvs_len,zO_]
 have HML:=lH hml;have hmin:Nat.min 1 n≤n:=Nat.min_le_right _ _;have hmin2:0<n→0<Nat.min 1 n:=fun h=>Nat.lt_min.2 ⟨by decide,h⟩;clear hB0 hblk hml
 go_wp2_with (refine wpList_copyN rfl (.tmp 31) (.tmp 32) 93 93 rfl 115 4 Tryz.underlying93 size_rat ⟨b,0,none⟩ n n 1 1 w.heap.size 0 rfl rfl (rvs (List.replicate n rv0)) 115 HBLK.o (rvs (List.replicate (Nat.min 1 n) v)) (by rw [rvs_len,zO_]) HSRC.o (by rw [rvs_len,zO_,HML.o];omega) (rvs_oneCell _) w.heap.size w HB0.o lR ?_)
 intro w2 hb2 k2;have hk0:=rep_splice (v:=v) (k:=0) (q:=Nat.min 1 n) (n:=n) HML.o (fun i hi=>by omega) (by omega);rw [Nat.zero_mul,Nat.zero_add] at hk0;generalize splice (rvs (List.replicate n rv0)) 0 (rvs (List.replicate (Nat.min 1 n) v))=cur0 at hb2 hk0;have HB2:=lH hb2.out;have HK2:=lH k2;have HK0:=lH hk0;clear hb2 k2 hk0 hmk HSRC;generalize Nat.min 1 n=k0 at *
 go_wp2_with fail
 go_loopw [8] (fun i wr=>∃ k:Nat,k≤n∧i=.int .i64 k∧(0<n→0<k)∧Below w.heap.size w wr∧∃ cur:List Value,cur.length=n*4∧Head v k cur∧Hid (wr.heap[w.heap.size]?=some (.cells cur.toArray 115 (0,0)))) (fun i _=>n-(intOf i).toNat)
 case atStart=>exact ⟨k0,hmin,rfl,hmin2,HK2.o,cur0,HK0.o.1,HK0.o.2,HB2⟩
 case round=>
  obtain ⟨k,hk,rfl,hkp,hbel,cur,hcl,hci,hblk⟩:=hrel;have HCI:=lH hci;have HBL:=lH hbel;have HCL:=lH hcl;clear hci hbel hcl HK2 HB2 HK0
  by_cases hlt:k<n
  ·have hkp':0<k:=hkp (by omega)
   clear hkp;have HSRC3:Hid (∀ j u,(rvs (List.replicate (Nat.min k (n-k)) v))[j]?=some u→wr.drew.cell? ((⟨w.heap.size,0,none⟩:Addr).add j)=some u):=lH fun j u hu=>by
    have hj:=(zB_.1 hu).1;rw [rvs_len,zO_] at hj;have hm:Nat.min k (n-k)≤k:=Nat.min_le_left _ _;rw [rvs_rep_at v _ _ hj,←rvs_rep_at v k _ (by omega),←HCI.o j (by omega)] at hu;have h2:=cell_of_row wr w.heap.size j cur.toArray 115 (0,0) hblk.out;rw [Addr.add_lit,Nat.zero_add];show wr.cell? _=_;rw [h2];simpa using hu
   have hI1:(k:Int)≤(n:Int):=by omega
   have hI2:=lZ k
   have hmk1:Nat.min k (n-k)≤n-k:=Nat.min_le_right _ _;have hmk2:0<Nat.min k (n-k):=Nat.lt_min.2 ⟨hkp',by omega⟩;have hw1:IntKind.i64.wrap ((k:Int)+((Nat.min k (n-k):Nat):Int))=(k:Int)+((Nat.min k (n-k):Nat):Int):=IntWalk.i64_in _ (by omega)
   go_wp2_with fail
   go_region_law (refine step_copyN 45 rfl rfl (.tmp 41) (.tmp 44) 93 93 rfl 115 4 Tryz.underlying93 size_rat ⟨w.heap.size,0,none⟩ (n-k) (n-k) k n w.heap.size (k*4) (by simp [Act.eval,Act.put];omega) (by simp [Act.eval,Act.put]) cur 115 hblk.out (rvs (List.replicate (Nat.min k (n-k)) v)) (by rw [rvs_len,zO_]) HSRC3.o (by rw [rvs_len,zO_,HCL.o];omega) (rvs_oneCell _) w.heap.size w (below_drew HBL.o) lR ?_;intro w3 hb3 k3)
   have hk3:=rep_splice (v:=v) (k:=k) (q:=Nat.min k (n-k)) (n:=n) HCL.o HCI.o (by omega);have HK3:=lH hk3;have HKK3:=lH k3;have HBB3:=lH hb3.out;have hmk4:k+Nat.min k (n-k)≤n:=by omega
   clear hk3 k3 hb3 HSRC3;generalize splice cur (k*4) (rvs (List.replicate (Nat.min k (n-k)) v))=cur3 at *;generalize Nat.min k (n-k)=q at *
   go_wp2_with fail
   go_roundw
   case rel=>exact ⟨k+q,hmk4,by go_num,fun _=>by omega,HKK3.o,cur3,HK3.o.1,HK3.o.2,HBB3⟩
   case measure=>simp [intOf];omega
  ·have hkn:k=n:=by omega
   subst hkn
   go_wp2_with fail
   go_ret;refine ⟨w.heap.size,rfl,lR,?_,HBL.o⟩;have:=hblk.out;rw [HCI.o.all HCL.o] at this;exact this
def ZerP (n:Nat) (w:World) (e:Ending) (w':World):Prop:=Below w.heap.size w w'∧∃ (g:Nat) (v:Rv),e=.returned (.slice (some ⟨g,0,none⟩) n n)∧w.heap.size≤g∧Blk w' g 115 (rvs (List.replicate n v)).toArray∧RtV w' w'.heap.size 0 v
theorem zeros_any (n:Nat) (w:World) (hn:n≤1000):Calls Tryz.prog 106 #[.int .i64 n] w (ZerP n w):=by
 go_enter Tryz.func106,Tryz.ntmps106
 go_wp2_with fail
 refine (wholeV 0 w (by decide) (by decide)).mono ?_;rintro e w1 ⟨hb1,v1,rfl,h1⟩;have HB1:=lH hb1;have H1:Hid (RtV w1 w1.heap.size 0 v1):=lH (by have:=h1;rwa [show (((0:Int)):Rat)=0 from rfl] at this);clear hb1 h1
 go_wp2_with fail
 have hba:Below w1.heap.size w1 (w1.alloc (.cells #[.bool v1.b1,.slice v1.A v1.n v1.c,.bool v1.b2,.slice v1.A2 v1.m v1.d] 115)):=bA;have HBA:=lH (HB1.o.tm hba);replace H1:=lH (H1.o.up hba);have HX:=lH (Blk.new w1 115 #[.bool v1.b1,.slice v1.A v1.n v1.c,.bool v1.b2,.slice v1.A2 v1.m v1.d]);have HG:Hid (w.heap.size≤(w1.alloc (.cells #[.bool v1.b1,.slice v1.A v1.n v1.c,.bool v1.b2,.slice v1.A2 v1.m v1.d] 115)).heap.size):=lH HBA.o.size;clear hba;refine (repeat_q v1 w1.heap.size n _ HX.o hn).mono ?_;rintro e w2 ⟨g,rfl,hg,hbk,hb2⟩;have HB2:=lH (HBA.o.trans (hb2.mono HG.o));have H2:=lH (H1.o.up hb2);have HK:=lH hbk;have hgw:w.heap.size≤g:=zI_ HG.o hg;clear hb2 hbk hg
 go_wp2_with fail
 go_ret;exact ⟨HB2.o,g,v1,rfl,hgw,HK.o,H2.o⟩
end
end Go.Proofs.YthgdchffeigkbaaGreatDoor
