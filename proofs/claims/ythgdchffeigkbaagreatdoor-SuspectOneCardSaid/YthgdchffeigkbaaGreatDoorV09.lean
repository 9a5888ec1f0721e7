import Derived.Test.YthgdchffeigkbaaGreatDoorV06
import Derived.Lib.Mul64
import Derived.Laws.Bits64b
import Derived.Laws.CopyOwn
import Derived.Deep.OwnRows
import Derived.Deep.RegionLaw
set_option linter.unusedVariables false
set_option linter.unusedSimpArgs false
namespace Go.Proofs.YthgdchffeigkbaaGreatDoor
set_option maxHeartbeats 2000000
set_option maxRecDepth 100000
section
open Go.ChangeShapes Go.WideShapes Go.ChangeAt Go.RowKit Go.Joins Go.Deep
attribute [local go_sem ↓] aE
attribute [local go_sem] aJ aI aM aR
open Go.RowKit in
theorem OE{P:Program}{ops:Array Oper}{o:Oper}{a:Act}{w:Wo}{K:Act->World->Prop}{Q:Exit->Act->World->Prop}{E:Prop}(q:Nat)(hq:o.dst=some q)(AK:o.guard=none)(d s:Operand)(dT sT:TypeId)(ho:o.op=.call { callee:=.builtin .copy,args:=#[d,s],argTypes:=#[dT,sT] })(elem:TypeId)(hu:P.underlying dT=some (.slice elem))(iV:(P.info? elem).map (·.size)=some 1)(dp sp:OA)(dLen dCap sLen sCap:Nat)(hd:a.eval d=.slice dp dLen dCap)(hs:a.eval s=.slice sp sLen sCap)(g off:Nat)(cur:List Value)(t:TypeId)(hg:w.heap[g]?=some (.cells cur.toArray t (0,0)))(cs:List Value)(hn:cs.length=Nat.min sLen dLen)(XI:0<cs.length->dp=some ⟨g,off,none⟩/\∃ad,sp=some ad/\∀j v,cs[j]?=some v->w.cell? (ad.add j)=some v)(uL:off+cs.length<=cur.length)(h1:∀v∈cs,v.oneCell'=true)(B:Nat)(w0:Wo)(hb:Below B w0 w)(hBg:B<=g)(h:∀w',Hid (w'.heap[g]?=some (.cells (splice cur off cs).toArray t (0,0)))->Below B w0 w'->K (a.put (some q) (goInt cs.length)) w'):if Region.wanted o (yielded ops a.tmps)=true then Oper.wp P o a w K Q else E:=
 step_copy_splice AK d s dT sT ho elem hu iV dp sp dLen dCap sLen sCap hd hs g off cur t hg cs hn XI uL h1 B w0 hb hBg (by rw[hq];exact h)
namespace M64
theorem maskN(a:Nat)(ha:a<18446744073709551616):bits .and .u64 (a:Int) 4294967295=((a % 4294967296:Nat):Int):=by
 have h:=Go.bits_and_u64_nat a 4294967295 ha (by omega);have e:a &&& 4294967295=a % 4294967296:=Nat.and_two_pow_sub_one_eq_mod a 32;rw[e] at h;exact h
theorem divN(a:Nat):(a:Int) / 4294967296=((a / 4294967296:Nat):Int):=by omega
theorem mulN(a b:Nat):(a:Int)*(b:Int)=((a*b:Nat):Int):=(Int.natCast_mul a b).symm
theorem addN(a b:Nat):(a:Int)+(b:Int)=((a+b:Nat):Int):=(Int.natCast_add a b).symm
theorem wrapN(a:Nat)(ha:a<18446744073709551616):IntKind.u64.wrap (a:Int)=(a:Int):=by rw[IntKind.wrap_u64];omega
theorem wrapM(a:Nat):IntKind.u64.wrap (a:Int)=((a % 18446744073709551616:Nat):Int):=by rw[IntKind.wrap_u64];omega
end M64
theorem aBX(x y:Nat)(hx:x<18446744073709551616)(hy:y<18446744073709551616)(w:Wo):Calls Tryz.prog 178 #[.int .u64 x,.int .u64 y] w fun e w'=>e=.returned (.tuple #[.int .u64 ((x*y / 18446744073709551616:Nat):Int),.int .u64 ((x*y % 18446744073709551616:Nat):Int)])/\w=w':=by
 obtain⟨bd,bt,bw,hhi⟩:=Lib.mul64_hi x y hx hy;have ba:=Lib.half_mul_le (a:=x / 4294967296) (b:=y / 4294967296) (by omega) (by omega);have bb:=Lib.half_mul_le (a:=x / 4294967296) (b:=y % 4294967296) (by omega) (by omega);have bc:=Lib.half_mul_le (a:=x % 4294967296) (b:=y / 4294967296) (by omega) (by omega);have ba':x / 4294967296*(y / 4294967296)<18446744073709551616:=by omega
 have bb':x / 4294967296*(y % 4294967296)<18446744073709551616:=by omega
 have bc':x % 4294967296*(y / 4294967296)<18446744073709551616:=by omega
 have bh1:x / 4294967296*(y / 4294967296)+(x / 4294967296*(y % 4294967296)+x % 4294967296*(y % 4294967296) / 4294967296) / 4294967296<18446744073709551616:=by omega
 have bh:x / 4294967296*(y / 4294967296)+(x / 4294967296*(y % 4294967296)+x % 4294967296*(y % 4294967296) / 4294967296) / 4294967296+((x / 4294967296*(y % 4294967296)+x % 4294967296*(y % 4294967296) / 4294967296) % 4294967296+x % 4294967296*(y / 4294967296)) / 4294967296<18446744073709551616:=by omega
 go_enter Tryz.func178,Tryz.ntmps178
 go_wp2
 simp only[M64.maskN x hx,M64.maskN y hy,M64.divN,M64.mulN,M64.addN,M64.wrapN _ bd,M64.wrapN _ bb',M64.wrapN _ bt,M64.maskN _ bt,M64.wrapN _ bc',M64.wrapN _ bw,M64.wrapN _ ba',M64.wrapN _ bh1,M64.wrapN _ bh,M64.wrapM (x*y)];rw[hhi];go_ret2;exact⟨rfl,rfl⟩
theorem Z6(x y:Nat)(hx:x<18446744073709551616)(hy:y<18446744073709551616)(w:Wo):Calls Tryz.prog 163 #[.int .u64 x,.int .u64 y] w fun e w'=>e=.returned (.tuple #[.int .u64 ((x*y / 18446744073709551616:Nat):Int),.int .u64 ((x*y % 18446744073709551616:Nat):Int)])/\w=w':=by
 go_enter Tryz.func163,Tryz.ntmps163
 go_wp2_with fail
 refine(aBX x y hx hy w).mono ?_;rintro e w' ⟨rfl,rfl⟩
 go_wp2_with fail
 go_ret2;exact⟨rfl,rfl⟩
theorem SR:(Tryz.prog.info? 3).map (fun i=>(i.zero,i.size,i.bytes))=some (some (.int .i64 0),1,8):=by kernel_rfl
theorem RS:(Tryz.prog.info? 3).map (·.size)=some 1:=by kernel_rfl
theorem VQ(v:Int)(b:Nat)(n:Nat)(w:Wo)(hv:w.cell? ⟨b,0,none⟩=some (.int .i64 v))(hn:n<=1000):Calls Tryz.prog 159 #[.slice (some ⟨b,0,none⟩) 1 1,.int .i64 n] w fun e w'=>∃g,e=.returned (.slice (some ⟨g,0,none⟩) n n)/\w.heap.size<=g/\aG w' g 3 (List.replicate n (.int .i64 v)).toArray/\Below w.heap.size w w':=by
 have S8:=World.block_lt_of_cell? w ⟨b,0,none⟩ hv;have vI:∀w:World,(Instr.makeSlice 30 (.int .i64 (n:Int)) (.int .i64 (n:Int))).run Tryz.prog w=.ok (.slice (some ⟨w.heap.size,0,none⟩) n n) (w.alloc (.cells (madeCells #[.int .i64 0] n) 3)):=
  fun w=>run_make_row' (P:=Tryz.prog) 30 3 (.int .i64 0) 8 Tryz.underlying30 SR rfl .i64 .i64 n (by omega) (by omega) w
 have hHV:=lH hv;clear hv;go_enter Tryz.func159,Tryz.ntmps159
 go_wp2_with fail
 refine(Z6 1 n (by omega) (by omega) _).mono ?_;rw[show(1*n / 18446744073709551616:Nat)=0 from by omega,show(1*n % 18446744073709551616:Nat)=n from by omega];rintro e w' ⟨rfl,rfl⟩;have aF0:(madeCells #[.int .i64 0] n).toList.length=n:=by simp[size_madeCells]
 have mA:=lH aF0;clear aF0;have hB0:=jT w (.cells (madeCells #[.int .i64 0] n) 3);have dC:(w.alloc (.cells (madeCells #[.int .i64 0] n) 3)).heap[w.heap.size]?=some (.cells (madeCells #[.int .i64 0] n).toList.toArray 3 (0,0)):=by simpa using heap_alloc_new w _
 have rI:(w.alloc (.cells (madeCells #[.int .i64 0] n) 3)).cell? ⟨b,0,none⟩=some (.int .i64 v):=(World.cell?_alloc_lt _ _ _ S8).trans hHV.out;obtain⟨dA,aP8,aKF⟩:=d_ hB0 dC rI;have aLA:∀j u,(List.replicate (min 1 n) (.int .i64 v))[j]?=some u->(w.alloc (.cells (madeCells #[.int .i64 0] n) 3)).cell? ((⟨b,0,none⟩:Addr).add j)=some u:=fun j u hu=>by
  have hj:=(dH.1 hu).1;simp at hj;have:j=0:=by omega
  subst this;rw[List.getElem?_replicate,if_pos (by omega)] at hu;injection hu with hu;subst hu;exact aKF.o
 have aUd:=lH aLA;clear hB0 dC rI aLA
 go_wp2_with (refine wpList_copy_splice rfl (.tmp 31) (.tmp 32) 30 30 rfl 3 Tryz.underlying30 RS (some ⟨w.heap.size,0,none⟩) (some ⟨b,0,none⟩) n n 1 1 rfl rfl w.heap.size 0 (madeCells #[.int .i64 0] n).toList 3 aP8.o (List.replicate (min 1 n) (.int .i64 v)) (by simp) (fun _=>⟨rfl,_,rfl,aUd.o⟩) (by simp;have:=mA.o;simp at this;omega) (fun u hu=>by rw[(List.mem_replicate.1 hu).2];rfl) w.heap.size w dA.o lR ?_)
 intro w2 bH k2;have lB:(splice (madeCells #[.int .i64 0] n).toList 0 (List.replicate (min 1 n) (.int .i64 v))).length=n/\∀i,i<min 1 n->(splice (madeCells #[.int .i64 0] n).toList 0 (List.replicate (min 1 n) (.int .i64 v)))[i]?=some (.int .i64 v):=by
  refine⟨by unfold splice;have:=mA.o;simp at this ⊢;omega,fun i hi=>?_⟩;unfold splice;rw[List.take_zero,List.nil_append,BD (by simpa using hi),List.getElem?_replicate,if_pos hi]
 generalize splice (madeCells #[.int .i64 0] n).toList 0 (List.replicate (min 1 n) (.int .i64 v))=cur0 at bH lB;obtain⟨cH,xO,U4⟩:=d_ bH.out k2 lB;have aJH:min 1 n<=n:=Nat.min_le_right _ _;have aFZ:0<n->0<min 1 n:=fun h=>by omega
 clear bH k2 lB vI;generalize min 1 n=k0 at *
 go_wp2_with fail
 go_loopw [8] (fun i wr=>∃k:Nat,k<=n/\i=.int .i64 k/\(0<n->0<k)/\Below w.heap.size w wr/\∃cur:List Value,cur.length=n/\(∀i,i<k->cur[i]?=some (.int .i64 v))/\Hid (wr.heap[w.heap.size]?=some (.cells cur.toArray 3 (0,0)))) (fun i _=>n-(intOf i).toNat)
 case atStart=>exact⟨k0,aJH,rfl,aFZ,xO.o,cur0,U4.o.1,U4.o.2,cH⟩
 case round=>
  obtain⟨k,hk,rfl,GD,aGj,cur,zC,hci,dC⟩:=hrel;obtain⟨HCI,mE,Y8⟩:=d_ hci aGj zC;clear hci aGj zC xO cH U4;by_cases aU:k<n
  ·have aSG:0<k:=GD (by omega)
   clear GD;have rI:∀j u,(List.replicate (min k (n-k)) (.int .i64 v))[j]?=some u->wr.drew.cell? ((⟨w.heap.size,0,none⟩:Addr).add j)=some u:=fun j u hu=>by
    have hj:=(dH.1 hu).1;simp at hj;rw[List.getElem?_replicate,if_pos hj] at hu;injection hu with hu;subst hu;have h1:=HCI.o j (by omega);have h2:=cell_of_row wr w.heap.size j cur.toArray 3 (0,0) dC.out;rw[show((⟨w.heap.size,0,none⟩:Addr).add j)=⟨w.heap.size,j,none⟩ from by unfold Addr.add;split<;>simp_all];show wr.cell? _=_;rw[h2];simpa using h1
   have UE:=lH rI;clear rI;have hI1:(k:Int)<=(n:Int):=by omega
   have hI2:=lZ k;have aXQ:min k (n-k)<=n-k:=Nat.min_le_right _ _;have S1:0<min k (n-k):=by omega
   have hw1:IntKind.i64.wrap ((k:Int)+((min k (n-k):Nat):Int))=(k:Int)+((min k (n-k):Nat):Int):=IntWalk.i64_in _ (by omega);(go_wp2_with fail)
   go_region_law (refine OE 45 rfl rfl (.tmp 41) (.tmp 44) 30 30 rfl 3 Tryz.underlying30 RS (some ⟨w.heap.size,k,none⟩) (some ⟨w.heap.size,0,none⟩) (n-k) (n-k) k n (by simp[Act.eval,Act.put];omega) (by simp[Act.eval,Act.put]) w.heap.size k cur 3 dC.out (List.replicate (min k (n-k)) (.int .i64 v)) (by simp) (fun _=>⟨rfl,_,rfl,UE.o⟩) (by rw[rB,Y8.o];omega) (fun u hu=>by rw[(List.mem_replicate.1 hu).2];rfl) w.heap.size w (aK mE.o) lR ?_;intro w3 cN k3)
   have hk3:(splice cur k (List.replicate (min k (n-k)) (.int .i64 v))).length=n/\∀i,i<k+min k (n-k)->(splice cur k (List.replicate (min k (n-k)) (.int .i64 v)))[i]?=some (.int .i64 v):=by
    have zC:=Y8.o;refine⟨by unfold splice;simp;omega,fun i hi=>?_⟩;unfold splice;by_cases zB:i<k
    ·rw[BD (by simp;omega),List.getElem?_take,if_pos zB]
     exact HCI.o i zB
    ·rw[DN (by simp;omega),BD (by simp;omega),List.getElem?_replicate,if_pos (by simp;omega)]
   obtain⟨Q3,aPU,aP9⟩:=d_ hk3 k3 cN.out;have aN9:k+min k (n-k)<=n:=by omega
   clear hk3 k3 cN UE;generalize splice cur k (List.replicate (min k (n-k)) (.int .i64 v))=cur3 at *;generalize min k (n-k)=q at *;(go_wp2_with fail);go_roundw
   case rel=>exact⟨k+q,aN9,by go_num,fun _=>by omega,aPU.o,cur3,Q3.o.1,Q3.o.2,aP9⟩
   case measure=>simp[intOf];omega
  ·have rJ:k=n:=by omega
   subst rJ;(go_wp2_with fail);go_ret;refine⟨w.heap.size,rfl,lR,?_,mE.o⟩;have hc:cur=List.replicate k (.int .i64 v):=by
    apply List.ext_getElem?;intro i;by_cases hi:i<k
    ·rw[HCI.o i hi,List.getElem?_replicate,if_pos hi]
    ·rw[List.getElem?_eq_none (by have:=Y8.o;omega),List.getElem?_eq_none (by simp;omega)]
   have:=dC.out;rw[hc] at this;exact this
end
