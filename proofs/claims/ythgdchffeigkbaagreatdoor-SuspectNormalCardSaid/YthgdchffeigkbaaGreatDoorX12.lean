import Derived.Test.YthgdchffeigkbaaGreatDoorX08
import Derived.Test.YthgdchffeigkbaaGreatDoorX10
import Derived.Lib.Mul64
import Derived.Laws.Bits64b
import Derived.Laws.CopyOwn
import Derived.Deep.OwnRows
import Derived.Deep.RegionLaw
import Derived.StillTailTactics
import Derived.Deep.LoopGhost
set_option linter.unusedVariables false
set_option linter.unusedSimpArgs false
namespace Go.Proofs.YthgdchffeigkbaaGreatDoor
set_option maxHeartbeats 8000000
set_option maxRecDepth 100000
section
open Go.ChangeShapes Go.WideShapes Go.ChangeAt Go.RowKit Go.Joins Go.Deep
attribute [local go_sem ↓] aE
attribute [local go_sem] aK aH aM aY
open Go.RowKit in
theorem MC {P:Program} {ops:Array Oper} {o:Oper} {a:Act} {w:Wo} {K:Act->World->Prop} {Q:Exit->Act->World->Prop} {E:Prop} (q:Nat) (hq:o.dst=some q) (CE:o.guard=none) (d s:Operand) (dT sT:TypeId)
    (ho:o.op=.call { callee:=.builtin .copy,args:=#[d,s],argTypes:=#[dT,sT] }) (elem:TypeId) (hu:P.underlying dT=some (.slice elem)) (gW:(P.info? elem).map (·.size)=some 1)
    (dp sp:OA) (dLen dCap sLen sCap:Nat) (hd:a.eval d=.slice dp dLen dCap) (hs:a.eval s=.slice sp sLen sCap)
    (g off:Nat) (cur:List Value) (t:TypeId) (hg:w.heap[g]?=some (.cells cur.toArray t (0,0))) (cs:List Value) (hn:cs.length=Nat.min sLen dLen)
    (UZ:0<cs.length->dp=some ⟨g,off,none⟩/\∃ ad,sp=some ad/\∀ j v,cs[j]?=some v->w.cell? (ad.add j)=some v)
    (wU:off+cs.length<=cur.length) (h1:∀ v∈cs,v.oneCell'=true) (B:Nat) (w0:Wo) (hb:Below B w0 w) (hBg:B<=g)
    (h:∀ w',Hid (w'.heap[g]?=some (.cells (splice cur off cs).toArray t (0,0)))->Below B w0 w'->K (a.put (some q) (goInt cs.length)) w') :
    if Region.wanted o (yielded ops a.tmps)=true then Oper.wp P o a w K Q else E:=
 step_copy_splice CE d s dT sT ho elem hu gW dp sp dLen dCap sLen sCap hd hs g off cur t hg cs hn UZ wU h1 B w0 hb hBg (by rw [hq];exact h)
namespace M64
theorem maskN (a:Nat) (ha:a<18446744073709551616):bits .and .u64 (a:Int) 4294967295=((a % 4294967296:Nat):Int):=by
 have h:=Go.bits_and_u64_nat a 4294967295 ha (by omega);have e:a &&& 4294967295=a % 4294967296:=Nat.and_two_pow_sub_one_eq_mod a 32;rw [e] at h;exact h
theorem divN (a:Nat):(a:Int) / 4294967296=((a / 4294967296:Nat):Int):=by omega
theorem mulN (a b:Nat):(a:Int)*(b:Int)=((a*b:Nat):Int):=(Int.natCast_mul a b).symm
theorem addN (a b:Nat):(a:Int)+(b:Int)=((a+b:Nat):Int):=(Int.natCast_add a b).symm
theorem wrapN (a:Nat) (ha:a<18446744073709551616):IntKind.u64.wrap (a:Int)=(a:Int):=by rw [IntKind.wrap_u64];omega
theorem wrapM (a:Nat):IntKind.u64.wrap (a:Int)=((a % 18446744073709551616:Nat):Int):=by rw [IntKind.wrap_u64];omega
end M64
theorem aAf (x y:Nat) (hx:x<18446744073709551616) (hy:y<18446744073709551616) (w:Wo) :
    Calls Tryz.prog 178 #[.int .u64 x,.int .u64 y] w fun e w'=>e=.returned (.tuple #[.int .u64 ((x*y / 18446744073709551616:Nat):Int),.int .u64 ((x*y % 18446744073709551616:Nat):Int)])/\w=w':=by
 obtain ⟨bd,bt,bw,hhi⟩:=Lib.mul64_hi x y hx hy;have ba:=Lib.half_mul_le (a:=x / 4294967296) (b:=y / 4294967296) (by omega) (by omega);have bb:=Lib.half_mul_le (a:=x / 4294967296) (b:=y % 4294967296) (by omega) (by omega);have bc:=Lib.half_mul_le (a:=x % 4294967296) (b:=y / 4294967296) (by omega) (by omega);have ba':x / 4294967296*(y / 4294967296)<18446744073709551616:=by omega
 have bb':x / 4294967296*(y % 4294967296)<18446744073709551616:=by omega
 have bc':x % 4294967296*(y / 4294967296)<18446744073709551616:=by omega
 have bh1:x / 4294967296*(y / 4294967296)+(x / 4294967296*(y % 4294967296)+x % 4294967296*(y % 4294967296) / 4294967296) / 4294967296<18446744073709551616:=by omega
 have bh:x / 4294967296*(y / 4294967296)+(x / 4294967296*(y % 4294967296)+x % 4294967296*(y % 4294967296) / 4294967296) / 4294967296+((x / 4294967296*(y % 4294967296)+x % 4294967296*(y % 4294967296) / 4294967296) % 4294967296+x % 4294967296*(y / 4294967296)) / 4294967296<18446744073709551616:=by omega
 go_enter Tryz.func178,Tryz.ntmps178
 go_wp2
 simp only [M64.maskN x hx,M64.maskN y hy,M64.divN,M64.mulN,M64.addN,M64.wrapN _ bd,M64.wrapN _ bb',M64.wrapN _ bt,M64.maskN _ bt,M64.wrapN _ bc',M64.wrapN _ bw,M64.wrapN _ ba',M64.wrapN _ bh1,M64.wrapN _ bh,M64.wrapM (x*y)];rw [hhi];go_ret2;exact ⟨rfl,rfl⟩
theorem XS (x y:Nat) (hx:x<18446744073709551616) (hy:y<18446744073709551616) (w:Wo) :
    Calls Tryz.prog 163 #[.int .u64 x,.int .u64 y] w fun e w'=>e=.returned (.tuple #[.int .u64 ((x*y / 18446744073709551616:Nat):Int),.int .u64 ((x*y % 18446744073709551616:Nat):Int)])/\w=w':=by
 go_enter Tryz.func163,Tryz.ntmps163
 go_wp2_with fail
 refine (aAf x y hx hy w).mono ?_;rintro e w' ⟨rfl,rfl⟩
 go_wp2_with fail
 go_ret2;exact ⟨rfl,rfl⟩
theorem aDQ:(Tryz.prog.info? 3).map (fun i=>(i.zero,i.size,i.bytes))=some (some (.int .i64 0),1,8):=by kernel_rfl
theorem O5:(Tryz.prog.info? 3).map (·.size)=some 1:=by kernel_rfl
theorem TI (v:Int) (b:Nat) (n:Nat) (w:Wo) (hv:w.cell? ⟨b,0,none⟩=some (.int .i64 v)) (hn:n<=1000) :
    Calls Tryz.prog 159 #[.slice (some ⟨b,0,none⟩) 1 1,.int .i64 n] w fun e w'=>∃ g,e=.returned (.slice (some ⟨g,0,none⟩) n n)/\w.heap.size<=g/\aG w' g 3 (List.replicate n (.int .i64 v)).toArray/\Below w.heap.size w w':=by
 have QO:=World.block_lt_of_cell? w ⟨b,0,none⟩ hv;have tK:∀ w:World,(Instr.makeSlice 30 (.int .i64 (n:Int)) (.int .i64 (n:Int))).run Tryz.prog w=.ok (.slice (some ⟨w.heap.size,0,none⟩) n n) (w.alloc (.cells (madeCells #[.int .i64 0] n) 3)):=
  fun w=>run_make_row' (P:=Tryz.prog) 30 3 (.int .i64 0) 8 Tryz.underlying30 aDQ rfl .i64 .i64 n (by omega) (by omega) w
 have hHV:=lH hv;clear hv;go_enter Tryz.func159,Tryz.ntmps159
 go_wp2_with fail
 refine (XS 1 n (by omega) (by omega) _).mono ?_;rw [show (1*n / 18446744073709551616:Nat)=0 from by omega,show (1*n % 18446744073709551616:Nat)=n from by omega];rintro e w' ⟨rfl,rfl⟩;have aEm:(madeCells #[.int .i64 0] n).toList.length=n:=by simp [size_madeCells]
 have j_:=lH aEm;clear aEm;have hB0:Below w.heap.size w (w.alloc (.cells (madeCells #[.int .i64 0] n) 3)):=bA;have b_:(w.alloc (.cells (madeCells #[.int .i64 0] n) 3)).heap[w.heap.size]?=some (.cells (madeCells #[.int .i64 0] n).toList.toArray 3 (0,0)):=by simpa using heap_alloc_new w _
 have pX:(w.alloc (.cells (madeCells #[.int .i64 0] n) 3)).cell? ⟨b,0,none⟩=some (.int .i64 v):=(World.cell?_alloc_lt _ _ _ QO).trans hHV.out;have dB:=lH hB0;have aNI:=lH b_;have aI2:=lH pX;have aJS:∀ j u,(List.replicate (min 1 n) (.int .i64 v))[j]?=some u->(w.alloc (.cells (madeCells #[.int .i64 0] n) 3)).cell? ((⟨b,0,none⟩:Addr).add j)=some u:=fun j u hu=>by
  have hj:=(dP.1 hu).1;simp at hj;have:j=0:=by omega
  subst this;rw [List.getElem?_replicate,if_pos (by omega)] at hu;injection hu with hu;subst hu;exact aI2.o
 have aRu:=lH aJS;clear hB0 b_ pX aJS
 go_wp2_with (refine wpList_copy_splice rfl (.tmp 31) (.tmp 32) 30 30 rfl 3 Tryz.underlying30 O5 (some ⟨w.heap.size,0,none⟩) (some ⟨b,0,none⟩) n n 1 1 rfl rfl w.heap.size 0 (madeCells #[.int .i64 0] n).toList 3 aNI.o (List.replicate (min 1 n) (.int .i64 v)) (by simp) (fun _=>⟨rfl,_,rfl,aRu.o⟩) (by simp;have:=j_.o;simp at this;omega) (fun u hu=>by rw [(List.mem_replicate.1 hu).2];rfl) w.heap.size w dB.o lR ?_)
 intro w2 bL k2;have kF:(splice (madeCells #[.int .i64 0] n).toList 0 (List.replicate (min 1 n) (.int .i64 v))).length=n/\∀ i,i<min 1 n->(splice (madeCells #[.int .i64 0] n).toList 0 (List.replicate (min 1 n) (.int .i64 v)))[i]?=some (.int .i64 v):=by
  refine ⟨by unfold splice;have:=j_.o;simp at this ⊢;omega,fun i hi=>?_⟩;unfold splice;rw [List.take_zero,List.nil_append,xQ (by simpa using hi),List.getElem?_replicate,if_pos hi]
 generalize splice (madeCells #[.int .i64 0] n).toList 0 (List.replicate (min 1 n) (.int .i64 v))=cur0 at bL kF;have bW:=lH bL.out;have vG:=lH k2;have HK0:=lH kF;have aEj:min 1 n<=n:=Nat.min_le_right _ _;have aEi:0<n->0<min 1 n:=fun h=>by omega
 clear bL k2 kF tK;generalize min 1 n=k0 at *
 go_wp2_with fail
 go_loopw [8] (fun i wr=>∃ k:Nat,k<=n/\i=.int .i64 k/\(0<n->0<k)/\Below w.heap.size w wr/\∃ cur:List Value,cur.length=n/\(∀ i,i<k->cur[i]?=some (.int .i64 v))/\Hid (wr.heap[w.heap.size]?=some (.cells cur.toArray 3 (0,0)))) (fun i _=>n-(intOf i).toNat)
 case atStart=>exact ⟨k0,aEj,rfl,aEi,vG.o,cur0,HK0.o.1,HK0.o.2,bW⟩
 case round=>
  obtain ⟨k,hk,rfl,K6,aEK,cur,wV,hci,b_⟩:=hrel;have HCI:=lH hci;have iP:=lH aEK;have WL:=lH wV;clear hci aEK wV vG bW HK0
  by_cases aW:k<n
  ·have aPW:0<k:=K6 (by omega)
   clear K6;have pX:∀ j u,(List.replicate (min k (n-k)) (.int .i64 v))[j]?=some u->wr.drew.cell? ((⟨w.heap.size,0,none⟩:Addr).add j)=some u:=fun j u hu=>by
    have hj:=(dP.1 hu).1;simp at hj;rw [List.getElem?_replicate,if_pos hj] at hu;injection hu with hu;subst hu;have h1:=HCI.o j (by omega);have h2:=cell_of_row wr w.heap.size j cur.toArray 3 (0,0) b_.out;rw [show ((⟨w.heap.size,0,none⟩:Addr).add j)=⟨w.heap.size,j,none⟩ from by unfold Addr.add;split<;>simp_all];show wr.cell? _=_;rw [h2];simpa using h1
   have RZ:=lH pX;clear pX;have hI1:(k:Int)<=(n:Int):=by omega
   have hI2:=lZ k
   have aUR:min k (n-k)<=n-k:=Nat.min_le_right _ _;have QH:0<min k (n-k):=by omega
   have hw1:IntKind.i64.wrap ((k:Int)+((min k (n-k):Nat):Int))=(k:Int)+((min k (n-k):Nat):Int):=IntWalk.i64_in _ (by omega)
   go_wp2_with fail
   go_region_law (refine MC 45 rfl rfl (.tmp 41) (.tmp 44) 30 30 rfl 3 Tryz.underlying30 O5 (some ⟨w.heap.size,k,none⟩) (some ⟨w.heap.size,0,none⟩) (n-k) (n-k) k n (by simp [Act.eval,Act.put];omega) (by simp [Act.eval,Act.put]) w.heap.size k cur 3 b_.out (List.replicate (min k (n-k)) (.int .i64 v)) (by simp) (fun _=>⟨rfl,_,rfl,RZ.o⟩) (by rw [o3,WL.o];omega) (fun u hu=>by rw [(List.mem_replicate.1 hu).2];rfl) w.heap.size w (aD iP.o) lR ?_;intro w3 cR k3)
   have hk3:(splice cur k (List.replicate (min k (n-k)) (.int .i64 v))).length=n/\∀ i,i<k+min k (n-k)->(splice cur k (List.replicate (min k (n-k)) (.int .i64 v)))[i]?=some (.int .i64 v):=by
    have wV:=WL.o;refine ⟨by unfold splice;simp;omega,fun i hi=>?_⟩;unfold splice
    by_cases zZ:i<k
    ·rw [xQ (by simp;omega),List.getElem?_take,if_pos zZ]
     exact HCI.o i zZ
    ·rw [AZ (by simp;omega),xQ (by simp;omega),List.getElem?_replicate,if_pos (by simp;omega)]
   have JY:=lH hk3;have aNs:=lH k3;have aNJ:=lH cR.out;have aL4:k+min k (n-k)<=n:=by omega
   clear hk3 k3 cR RZ;generalize splice cur k (List.replicate (min k (n-k)) (.int .i64 v))=cur3 at *;generalize min k (n-k)=q at *
   go_wp2_with fail
   go_roundw
   case rel=>exact ⟨k+q,aL4,by go_num,fun _=>by omega,aNs.o,cur3,JY.o.1,JY.o.2,aNJ⟩
   case measure=>simp [intOf];omega
  ·have qW:k=n:=by omega
   subst qW
   go_wp2_with fail
   go_ret;refine ⟨w.heap.size,rfl,lR,?_,iP.o⟩;have hc:cur=List.replicate k (.int .i64 v):=by
    apply List.ext_getElem?;intro i
    by_cases hi:i<k
    ·rw [HCI.o i hi,List.getElem?_replicate,if_pos hi]
    ·rw [List.getElem?_eq_none (by have:=WL.o;omega),List.getElem?_eq_none (by simp;omega)]
   have:=b_.out;rw [hc] at this;exact this
end
section
open Go.ChangeShapes Go.WideShapes Go.ChangeAt Go.RowKit
attribute [local go_sem ↓] aE
attribute [local go_sem] aK aH aM
theorem Qu.away {w:Wo} {base:Nat} {v:Value} {xs:List Value} (h:Qu w base v xs) {q:Addr} (hq:q.block<base) (u:Value):Qu (w.setCell q u) base v xs:=by
 obtain ⟨g,off,cap,h1,h2,h3,h4,h5,h6,h7⟩:=h.ex;have hb:Below q.block w (w.setCell q u):=(Below.refl _ w).setCell lR u;have hc:∀ j,(w.setCell q u).cell? ⟨g,off+j,none⟩=w.cell? ⟨g,off+j,none⟩:=fun j=>World.cell?_setCell_other _ _ _ _ (fun e=>by subst e;simp at hq;omega);have hfz:∀ j,(w.setCell q u).frozen? ⟨g,off+j,none⟩=w.frozen? ⟨g,off+j,none⟩:=fun j=>by
  obtain ⟨qb,qo,qs⟩:=q;cases qs with
  | none=>exact World.frozen?_setCells qb [u] qo w _
  | some s=>simp
 exact ⟨g,off,cap,h1,h2,jO h3 hb.size,h4,h5,fun j hj=>by rw [hc,hfz];exact h6 j hj,fun j x hx=>by rw [hc];exact h7 j x hx⟩
def dZ (l:List Nat):List Int:=l.map fun (v:Nat)=>(v:Int)
theorem GK:(Tryz.prog.info? 3).map (fun i=>(i.zero,i.size,i.bytes))=some (some (.int .i64 0),1,8):=by kernel_rfl
def OH (p:Nat×Nat):List Value:=[.int .i64 p.1,.int .i64 p.2]
def RU (w:Wo) (B:Nat) (A:OA) (n:Nat) (es:List (Nat×Nat)):Prop:=es.length=n/\Rd w B 2 A n (es.flatMap OH)
theorem RU.below {w w':Wo} {B B' n:Nat} {A:OA} {xs:List (Nat×Nat)} (h:RU w B A n xs) (hb:Below B' w w') (hB:B<=B'):RU w' B A n xs:=⟨h.1,h.2.below hb hB⟩
theorem RU.more {w:Wo} {B B' n:Nat} {A:OA} {xs:List (Nat×Nat)} (h:RU w B A n xs) (hB:B<=B'):RU w B' A n xs:=⟨h.1,h.2.more hB⟩
theorem RU.form {w:Wo} {B n:Nat} {A:OA} {xs:List (Nat×Nat)} (h:RU w B A n xs) (h0:0<n):∃ b off,A=some ⟨b,off,none⟩/\b<B:=by
 obtain ⟨b,off,e,aW,_⟩:=h.2.2 h0;exact ⟨b,off,e,aW⟩
theorem RU.at_ {w:Wo} {B n:Nat} {b off:Nat} {xs:List (Nat×Nat)} (h:RU w B (some ⟨b,off,none⟩) n xs) {i:Nat} {x:Nat×Nat} (hx:xs[i]?=some x) :
    w.cell? ⟨b,off+i*2,none⟩=some (.int .i64 x.1)/\w.cell? ⟨b,off+i*2+1,none⟩=some (.int .i64 x.2):=by
 have hl:i<xs.length:=(dP.1 hx).1;have h1:=h.1;obtain ⟨b',off',e,_,hc⟩:=h.2.2 (by omega);injection e with e;injection e with e1 e2;subst e1;subst e2;have hf:=fun k hk=>jT (el:=OH) (sz:=2) (fun _=>rfl) xs i x hx k hk;exact ⟨hc _ _ (hf 0 (by omega)),by rw [Nat.add_assoc];exact hc _ _ (hf 1 (by omega))⟩
theorem aDa {n i:Nat} {es:List (Nat×Nat)} {out:List Int} {m:Int} (hi:i<n) (h:0<=out.getD i 0):XK n es (n-i) i (out,m)=XK n es (n-(i+1)) (i+1) (out,m):=by
 obtain ⟨k,hk⟩:∃ k,n-i=k+1:=⟨n-i-1,by omega⟩;rw [hk,show n-(i+1)=k from by omega];show (if 0<=out.getD i 0 then _ else _)=_;rw [if_pos h]
theorem aC_ {n i:Nat} {es:List (Nat×Nat)} {out:List Int} {m:Int} (hi:i<n) (h:¬0<=out.getD i 0):XK n es (n-i) i (out,m)=XK n es (n-(i+1)) (i+1) (DV m es (n+1) (out.set i m) [i],m+1):=by
 obtain ⟨k,hk⟩:∃ k,n-i=k+1:=⟨n-i-1,by omega⟩;rw [hk,show n-(i+1)=k from by omega];show (if 0<=out.getD i 0 then _ else _)=_;rw [if_neg h]
theorem aDb {m:Int} {es:List (Nat×Nat)} {f:Nat} {out:List Int}:DV m es f out []=out:=by cases f<;>rfl
theorem aHB {m:Int} {es:List (Nat×Nat)} {f u:Nat} {out:List Int} {q:List Nat} (hf:0<f):DV m es f out (u::q)=DV m es (f-1) (qF u m es (out,q)).1 (qF u m es (out,q)).2:=by
 obtain ⟨k,rfl⟩:∃ k,f=k+1:=⟨f-1,by omega⟩;rfl
theorem TR {u:Nat} {m:Int} {es:List (Nat×Nat)} {k:Nat} {x:Nat×Nat} {s:List Int×List Nat} (h:es[k]?=some x):qF u m (es.drop k) s=qF u m (es.drop (k+1)) (rO u m s x):=by
 rw [cM h];rfl
theorem sJ {l:List Int} {g i:Nat} {w:Wo} (h:aG w g 3 (ints l).toArray) (hi:i<l.length):w.cell? ⟨g,i,none⟩=some (.int .i64 (l.getD i 0)):=by
 rw [h.cell,List.getElem?_toArray];unfold ints;rw [kI,eY,jA hi];rfl
theorem FR {l:List Int} {g i:Nat} {w:Wo} (h:aG w g 3 (ints l).toArray) (v:Int):aG (w.setCell ⟨g,i,none⟩ (.int .i64 v)) g 3 (ints (l.set i v)).toArray:=by
 have h:=h.set_ i (.int .i64 v);rw [show (ints l).toArray.setIfInBounds i (.int .i64 v)=(ints (l.set i v)).toArray from by unfold ints;rw [List.setIfInBounds_toArray,List.map_set]] at h;exact h
theorem vX (q:List Nat) (a:Nat):ints (dZ q)++[Value.int .i64 (a:Int)]=ints (dZ (q++[a])):=by
 unfold ints dZ;rw [List.map_append,List.map_append];rfl
def aFy (n:Nat) (es:List (Nat×Nat)) (w:Wo) (e:Ending) (w':Wo):Prop:=
 Below w.heap.size w w'/\∃ g:Nat,e=.returned (.slice (some ⟨g,0,none⟩) n n)/\w.heap.size<=g/\aG w' g 3 (ints (lL n es)).toArray
theorem aAc (n:Nat) (es:List (Nat×Nat)) (w:Wo) (e:Ending) (w':Wo) (h:Below w.heap.size w w'/\∃ g:Nat,e=.returned (.slice (some ⟨g,0,none⟩) n n)/\w.heap.size<=g/\aG w' g 3 (ints (lL n es)).toArray):aFy n es w e w':=h
theorem aAb (A:OA) (c n:Nat) (es:List (Nat×Nat)) (w:Wo) (hE:RU w w.heap.size A es.length es) (ok:∀ x∈es,x.1<n/\x.2<n) (hn:n<=1000) (he:es.length<=1000) :
    Calls Tryz.prog 133 #[.int .i64 n,.slice A es.length c,.int .i64 (-1)] w (aFy n es w):=by
 have HE:=lH hE;have cH:=lH ok;have HP:=lH (aAc n es w);clear hE ok;obtain ⟨i0,kC,JI,DG,hi3⟩:=info_parts GK;have DN:=lH kC;have AR:=lH JI;have J0:=lH DG;have JZ:Hid (i0.bytes<=16):=lH (by rw [hi3];decide);clear kC JI DG hi3;have bS:Hid (Below w.heap.size w (w.alloc (.cells #[.int .i64 (-1)] 3))):=lH (bA);have JG:(w.alloc (.cells #[.int .i64 (-1)] 3)).cell? ⟨w.heap.size,0,none⟩=some (.int .i64 (-1)):=(aG.new w 3 #[.int .i64 (-1)]).cell 0;go_enter Tryz.func133,Tryz.ntmps133
 generalize hW1:w.alloc (.cells #[.int .i64 (-1)] 3)=w1 at *
 go_wp2_with fail
 refine (TI (-1) w.heap.size n w1 JG hn).mono ?_;rintro e w2 ⟨g,rfl,hg,b_,k2⟩;have bW:=lH (bS.o.tm k2);have fI:Hid (aG w2 g 3 (ints (List.replicate n (-1))).toArray):=lH (by unfold ints;rw [List.map_replicate];exact b_);have hwg:w.heap.size<=g:=cV bS.o.size hg;clear b_ k2 JG hW1 hg bS
 go_wp2_with fail
 go_loopw [8,19] (fun v8 v19 wr=>∃ (i:Nat) (out:List Int) (m:Int),i<=n/\v19=.int .i64 i/\v8=.int .i64 m/\XK n es (n-i) i (out,m)=XK n es n 0 (List.replicate n (-1),0)/\Ps n m out []/\0<=m/\m<=i/\Below w.heap.size w wr/\aG wr g 3 (ints out).toArray) (fun _ v19 _=>n-(intOf v19).toNat)
 case atStart=>exact ⟨0,List.replicate n (-1),0,by omega,rfl,rfl,rfl,⟨by simp,fun _ h=>(by cases h),fun x hx=>(by rw [List.eq_of_mem_replicate hx];omega)⟩,by omega,by omega,bW.o,fI.o⟩
 case round=>
  clear bW fI;obtain ⟨i,out,m,hi,rfl,rfl,hf,GN,hm0,jS,hb,b_⟩:=hrel;have HF:=lH hf;have IM:=lH GN;have HB:=lH hb;have HG:=lH b_;have hol:=GN.len;have EY:=b_.lt;clear hf GN hb b_
  by_cases aW:i<n
  ·have nX:=sJ HG.o (by rw [hol];exact aW)
   have hfz:=HG.o.frozen i;have QI:(i:Int)<(n:Int):=by omega
   by_cases hz:0<=out.getD i 0
   ·have HZ:=lH hz
    have HGE:decide (out.getD i 0<0)=false:=decide_eq_false (by omega);generalize out.getD i 0=z at nX hz HGE;have HOL:=lH hol;clear hol HGE
    go_wp2_with fail
    go_roundw
    case rel=>exact ⟨i+1,out,m,by omega,by go_num,rfl,by rw [<-HF.o,aDa aW HZ.o],IM.o,hm0,by omega,HB.o,HG.o⟩
    case measure=>simp [intOf];omega
   ·have HZ:=lH hz
    have aKs:Hid (i<out.length):=lH (by rw [hol];exact aW);have HOL:=lH hol;have aSb:Hid (out.getD i 0<0):=lH (by omega);generalize out.getD i 0=z at nX hz;have hz':z<0:=by omega
    have dR:=lH (HB.o.setCell (p:=⟨g,i,none⟩) (by simp;omega) (.int .i64 m));have L3:=lH (FR (i:=i) HG.o m);clear hz hol
    go_wp2_with fail
    have bK:=lH (dR.o.alloc dR.o.size (.cells #[.int .i64 i] 3));have HG4:=lH (L3.o.alloc (.cells #[.int .i64 i] 3));have HQ4:Hid (Qu ((wr.setCell ⟨g,i,none⟩ (.int .i64 m)).alloc (.cells #[.int .i64 i] 3)) (g+1) (.slice (some ⟨wr.heap.size,0,none⟩) 1 1) (ints (dZ [i]))):=lH (by
     have hb:=aG.new (wr.setCell ⟨g,i,none⟩ (.int .i64 m)) 3 #[.int .i64 i];have gW:(wr.setCell ⟨g,i,none⟩ (.int .i64 m)).heap.size=wr.heap.size:=by simp
     rw [gW] at hb;refine ⟨wr.heap.size,0,1,rfl,by omega,hb.lt,lR,by simp only [maxLen];omega,fun j hj=>?_,fun j u hu=>?_⟩
     ·have JH:j=0:=by omega
      subst JH;exact ⟨by rw [hb.cell 0];rfl,hb.frozen 0⟩
     ·have JH:j=0:=by have:=(dP.1 hu).1;simpa [ints,dZ] using this
      subst JH;rw [Nat.add_zero,hb.cell 0];simpa [ints,dZ] using hu)
    have hs4:g+1<=((wr.setCell ⟨g,i,none⟩ (.int .i64 m)).alloc (.cells #[.int .i64 i] 3)).heap.size:=by simp;omega
    have aRW:Hid (Ps n m (out.set i m) [i]):=lH ⟨by simp [HOL.o],fun v hv=>by rw [List.mem_singleton.1 hv];exact aW,fun x hx=>by
     rcases List.mem_or_eq_of_mem_set hx with hx | rfl
     ·exact IM.o.bd x hx
     ·omega⟩
    have WE:Hid (([i]:List Nat).length+BZ (out.set i m)<=n+1):=lH (by
     have h1:=F8 out i m hm0 aKs.o aSb.o;have h2:=aHN out;have h3:=HOL.o;simp;omega)
    generalize hW4:(wr.setCell ⟨g,i,none⟩ (.int .i64 m)).alloc (.cells #[.int .i64 i] 3)=w4 at *;obtain ⟨R0,hR0⟩:∃ R0,R0=DV m es (n+1) (out.set i m) [i]:=⟨_,rfl⟩;have CS:=lH hR0;clear hW4 nX hfz dR L3 aKs aSb hR0
    go_loopg [10] (n+1) (fun f v10 wr=>∃ (out:List Int) (q:List Nat),Ps n m out q/\DV m es f out q=R0/\q.length+BZ out<=f/\f<=n+1/\Below w.heap.size w wr/\aG wr g 3 (ints out).toArray/\Qu wr (g+1) v10 (ints (dZ q))/\g+1<=wr.heap.size)
    case atStart=>exact ⟨out.set i m,[i],aRW.o,CS.o.symm,WE.o,by omega,bK.o,HG4.o,HQ4.o,hs4⟩
    case round=>
     clear bK HG4 HQ4 aRW WE hs4 EY IM HG HB HOL;obtain ⟨out2,q2,GN,aQc,pS,hgn,hb,b_,hq,hs⟩:=hrel;have IM:=lH GN;have aNx:=lH aQc;have HB:=lH hb;have HG:=lH b_;have Y4:=lH pS;obtain ⟨qb,qo,qc,rfl,hqg,a1U,hqc,hqm,hqh,hqx⟩:=hq.ex;have hql:(ints (dZ q2)).length=q2.length:=by simp [ints,dZ]
     rw [hql] at hqc hq ⊢;have HQ:=lH hq;clear GN hb b_ hq aQc pS hql;cases q2 with
     | nil=>
      clear hqx hqh;simp only [zW_] at *
      go_wp2_with fail
      go_roundw
      case rel=>exact ⟨i+1,out2,m+1,by omega,by go_num,by go_num,by rw [<-HF.o,aC_ aW (by have:=HZ.o;omega),<-CS.o,<-aNx.o,aDb],⟨IM.o.len,IM.o.lt,fun x hx=>by have:=IM.o.bd x hx;omega⟩,by omega,by omega,HB.o,HG.o⟩
      case measure=>simp [intOf];omega
     | cons u q=>
      have hul:=IM.o.lt u (List.mem_cons_self ..);have hq0:=hqx 0 (.int .i64 u) rfl;rw [Nat.add_zero] at hq0;have hqt:=HQ.o;rw [show ints (dZ (u::q))=.int .i64 u::ints (dZ q) from rfl] at hqt;have hqt:=hqt.tail;rw [E_,Nat.add_sub_cancel] at hqt;have a1V:(0:Int)<((q.length+1:Nat):Int):=by omega
      have m_:1<=q.length+1:=by omega
      have hqd:decide (0<q.length+1)=true:=by simp
      have aH3:q.length+1-1=q.length:=by omega
      have a1X:1<=qc:=by rw [E_] at hqc;omega
      have a1W:q.length+1<=qc:=by rw [E_] at hqc;exact hqc
      generalize hqa:(if qc=1 then some (⟨qb,qo,none⟩:Addr) else some ⟨qb,qo+1,none⟩)=qa at hqt;have HQT:=lH hqt;have hln:(u::q).length=q.length+1:=rfl;rw [hln] at hqc ⊢;have HLQ:=lH hln;clear hqt hqx hqh hln;generalize hql:q.length+1=ql at *;have mH:=lH hql;clear hql
      go_wp2_with fail
      have hwo:=HB.o.size;obtain ⟨S0,hS0⟩:∃ S0,S0=qF u m es (out2,q):=⟨_,rfl⟩;have JS:=lH hS0;obtain ⟨C0,hC0⟩:∃ C0,C0=q.length+BZ out2:=⟨_,rfl⟩;have HC0:=lH hC0;have aRV:Hid (Ps n m out2 q):=lH ⟨IM.o.len,fun v hv=>IM.o.lt v (List.mem_cons_of_mem _ hv),IM.o.bd⟩;have aSq:Hid (0<gk->DV m es (gk-1) S0.1 S0.2=R0):=lH (fun h=>by rw [<-aNx.o,aHB h,<-JS.o]);have aFY:Hid (1+C0<=gk):=lH (by have:=Y4.o;rw [E_] at this;omega);clear aNx Y4 hS0 hC0 IM
      go_loopw [10,43] (fun v10 v43 wr=>∃ (k:Nat) (out:List Int) (q:List Nat),k<=es.length/\v43=.int .i64 k/\Ps n m out q/\qF u m (es.drop k) (out,q)=S0/\q.length+BZ out=C0/\Below w.heap.size w wr/\aG wr g 3 (ints out).toArray/\Qu wr (g+1) v10 (ints (dZ q))/\g+1<=wr.heap.size) (fun _ v43 _=>es.length-(intOf v43).toNat)
      case atStart=>exact ⟨0,out2,q,by omega,rfl,aRV.o,JS.o.symm,HC0.o.symm,HB.o,HG.o,by have h:=HQT.o;rw [<-hqa] at h;first | exact h | (rw [hqa] at h;exact h),hs⟩
      case round=>
       clear aRV HB HG HQT HQ;obtain ⟨k,out3,q3,hk,rfl,GN,hsc,OG,hb,b_,K2,hs3⟩:=hrel;have IM:=lH GN;have HSC:=lH hsc;have HCC:=lH OG;have HB:=lH hb;have HG:=lH b_;have HQ:=lH K2;have aPF:=lH GN.len;clear GN hsc OG hb b_ K2
       by_cases aUY:k<es.length
       ·obtain ⟨⟨xa,xb⟩,hx⟩:∃ x,es[k]?=some x:=⟨_,jA aUY⟩
        have hE:=(HE.o.below HB.o lR).more HB.o.size;obtain ⟨eb,eo,heA,heb⟩:=hE.form (by omega);subst heA;obtain ⟨e0,e1⟩:=hE.at_ hx;dsimp only at e0 e1;obtain ⟨hxa,hxb⟩:=cH.o _ (cO hx);dsimp only at hxa hxb;have fT:(k:Int)<(es.length:Int):=by omega
        have hkm:((k:Int) == -1)=false:=by simp
        have gR:=lH (PJ (u:=u) (s:=(out3,q3)) hm0 (cH.o _ (cO hx)) IM.o);have yJ:Hid (qF u m (es.drop (k+1)) (rO u m (out3,q3) (xa,xb))=S0):=lH (by rw [<-HSC.o,TR hx]);have DP:=lH (HB.o.alloc HB.o.size (.cells #[.int .i64 xa,.int .i64 xb] 166));have I8:=lH (HG.o.alloc (.cells #[.int .i64 xa,.int .i64 xb] 166));have HQA:=lH (HQ.o.up (bR.alloc lR (.cells #[.int .i64 xa,.int .i64 xb] 166)));have aAH:=aG.new wr 166 #[.int .i64 xa,.int .i64 xb];have b0:=aAH.cell 0;have b1:=aAH.cell 1;have a2F:g<wr.heap.size:=by omega
        clear hE hx aAH;unfold rO at gR yJ
        by_cases hh:xa=u\/xb=u
        ·by_cases ha:xa=u
         ·subst ha
          have hna:((xa:Int) != (xa:Int))=false:=by simp
          have ho:xa+xb-xa=xb:=by omega
          dsimp only at gR yJ;rw [ho] at gR yJ;have AC:(wr.alloc (.cells #[.int .i64 xa,.int .i64 xb] 166)).cell? ⟨g,xb,none⟩=some (.int .i64 (out3.getD xb 0)):=sJ I8.o (by rw [aPF.out];omega);have hoI:(xb:Int)<(n:Int):=by omega
          have hfz:=I8.o.frozen xb
          by_cases hz:out3.getD xb 0<0
          ·have HZ:=lH hz
           rw [if_pos ⟨hh,hz⟩] at gR yJ;generalize out3.getD xb 0=z at AC hz;have K4:(ints (dZ q3)).length<=1000000:=by
            have h1:=HCC.o;have h2:=aFY.o;simp only [ints,dZ,lB];omega
           have iM:=lH ((HB.o.setCell (p:=⟨g,xb,none⟩) (by simp;omega) (.int .i64 m)).alloc (by simp;omega) (.cells #[.int .i64 xa,.int .i64 xb] 166));have HG7:=lH ((FR (i:=xb) HG.o m).alloc (.cells #[.int .i64 xa,.int .i64 xb] 166));have HQ7:=lH ((HQ.o.away (q:=⟨g,xb,none⟩) (by simp) (.int .i64 m)).up (bR.alloc lR (.cells #[.int .i64 xa,.int .i64 xb] 166)));generalize IZ:(wr.setCell ⟨g,xb,none⟩ (.int .i64 m)).alloc (.cells #[.int .i64 xa,.int .i64 xb] 166)=w7 at iM HG7 HQ7;have hs7:wr.heap.size+1=w7.heap.size:=by rw [<-IZ];simp
           have dF:Hid (Below w.heap.size w (((wr.setCell ⟨g,xb,none⟩ (.int .i64 m)).alloc (.cells #[.int .i64 xa,.int .i64 xb] 166)).alloc (.cells #[.int .i64 ((xa:Int)+xb-xa)] 3))):=lH (by rw [IZ];exact iM.o.alloc iM.o.size (.cells #[.int .i64 ((xa:Int)+xb-xa)] 3));have HG8:Hid (aG (((wr.setCell ⟨g,xb,none⟩ (.int .i64 m)).alloc (.cells #[.int .i64 xa,.int .i64 xb] 166)).alloc (.cells #[.int .i64 ((xa:Int)+xb-xa)] 3)) g 3 (ints (out3.set xb m)).toArray):=lH (by rw [IZ];exact HG7.o.alloc (.cells #[.int .i64 ((xa:Int)+xb-xa)] 3));have HQ8:Hid (Qu (((wr.setCell ⟨g,xb,none⟩ (.int .i64 m)).alloc (.cells #[.int .i64 xa,.int .i64 xb] 166)).alloc (.cells #[.int .i64 ((xa:Int)+xb-xa)] 3)) (g+1) u10 (ints (dZ q3))):=lH (by rw [IZ];exact HQ7.o.up (bR.alloc lR (.cells #[.int .i64 ((xa:Int)+xb-xa)] 3)))
           have HC8:Hid ((((wr.setCell ⟨g,xb,none⟩ (.int .i64 m)).alloc (.cells #[.int .i64 xa,.int .i64 xb] 166)).alloc (.cells #[.int .i64 ((xa:Int)+xb-xa)] 3)).cell? ⟨wr.heap.size+1,0,none⟩=some (.int .i64 ((xa:Int)+xb-xa))):=lH (by
            rw [IZ];have h:=(aG.new w7 3 #[.int .i64 ((xa:Int)+xb-xa)]).cell 0;rw [<-hs7] at h;simpa using h)
           have hs8:g+1<=(((wr.setCell ⟨g,xb,none⟩ (.int .i64 m)).alloc (.cells #[.int .i64 xa,.int .i64 xb] 166)).alloc (.cells #[.int .i64 ((xa:Int)+xb-xa)] 3)).heap.size:=by simp;omega
           clear hs7 IZ iM HG7 HQ7
           go_wp2_with (at_builtin;refine tE _ rfl (.tmp 79) (.tmp 81) 30 rfl (g+1) 3 i0 (.int .i64 0) Tryz.underlying30 DN.o AR.o J0.o JZ.o rfl u10 _ rfl HQ8.o ⟨wr.heap.size+1,0,none⟩ 1 _ rfl HC8.o rfl rfl K4 hs8 ?_;intro v' w9 hq9 gE)
           go_roundw
           case rel=>
            have hq:ints (dZ q3)++[Value.int .i64 ((xa:Int)+xb-xa)]=ints (dZ (q3++[xb])):=by
             first | exact vX _ _ | (rw [<-vX];congr 1<;>first | rfl | (congr 2;omega))
            rw [hq] at hq9;have h1:=gR.o;exact ⟨k+1,_,_,by omega,by go_num,h1.1,yJ.o,h1.2.1.trans HCC.o,dF.o.trans (gE.mono (by omega)),HG8.o.below gE (by omega),hq9,cV hs8 gE.size⟩
           case measure=>simp [intOf];omega
          ·rw [if_neg (fun h=>hz h.2)] at gR yJ
           have pU:decide (out3.getD xb 0<0)=false:=decide_eq_false hz;generalize out3.getD xb 0=z at AC hz pU
           go_wp2_with fail
           go_roundw
           case rel=>exact ⟨k+1,out3,q3,by omega,by go_num,IM.o,yJ.o,HCC.o,DP.o,I8.o,HQA.o,by simp;omega⟩
           case measure=>simp [intOf];omega
         ·have hb:xb=u:=hh.resolve_left ha
          subst hb;have hna:((xa:Int) != (xb:Int))=true:=by simp;omega
          have a1_:((xb:Int) != (xb:Int))=false:=by simp
          have ho:xa+xb-xb=xa:=by omega
          dsimp only at gR yJ;rw [ho] at gR yJ;have AC:(wr.alloc (.cells #[.int .i64 xa,.int .i64 xb] 166)).cell? ⟨g,xa,none⟩=some (.int .i64 (out3.getD xa 0)):=sJ I8.o (by rw [aPF.out];omega);have hoI:(xa:Int)<(n:Int):=by omega
          have hfz:=I8.o.frozen xa
          by_cases hz:out3.getD xa 0<0
          ·have HZ:=lH hz
           rw [if_pos ⟨hh,hz⟩] at gR yJ;generalize out3.getD xa 0=z at AC hz;have K4:(ints (dZ q3)).length<=1000000:=by
            have h1:=HCC.o;have h2:=aFY.o;simp only [ints,dZ,lB];omega
           have iM:=lH ((HB.o.setCell (p:=⟨g,xa,none⟩) (by simp;omega) (.int .i64 m)).alloc (by simp;omega) (.cells #[.int .i64 xa,.int .i64 xb] 166));have HG7:=lH ((FR (i:=xa) HG.o m).alloc (.cells #[.int .i64 xa,.int .i64 xb] 166));have HQ7:=lH ((HQ.o.away (q:=⟨g,xa,none⟩) (by simp) (.int .i64 m)).up (bR.alloc lR (.cells #[.int .i64 xa,.int .i64 xb] 166)));generalize IZ:(wr.setCell ⟨g,xa,none⟩ (.int .i64 m)).alloc (.cells #[.int .i64 xa,.int .i64 xb] 166)=w7 at iM HG7 HQ7;have hs7:wr.heap.size+1=w7.heap.size:=by rw [<-IZ];simp
           have dF:Hid (Below w.heap.size w (((wr.setCell ⟨g,xa,none⟩ (.int .i64 m)).alloc (.cells #[.int .i64 xa,.int .i64 xb] 166)).alloc (.cells #[.int .i64 (xa:Int)] 3))):=lH (by rw [IZ];exact iM.o.alloc iM.o.size (.cells #[.int .i64 (xa:Int)] 3));have HG8:Hid (aG (((wr.setCell ⟨g,xa,none⟩ (.int .i64 m)).alloc (.cells #[.int .i64 xa,.int .i64 xb] 166)).alloc (.cells #[.int .i64 (xa:Int)] 3)) g 3 (ints (out3.set xa m)).toArray):=lH (by rw [IZ];exact HG7.o.alloc (.cells #[.int .i64 (xa:Int)] 3));have HQ8:Hid (Qu (((wr.setCell ⟨g,xa,none⟩ (.int .i64 m)).alloc (.cells #[.int .i64 xa,.int .i64 xb] 166)).alloc (.cells #[.int .i64 (xa:Int)] 3)) (g+1) u10 (ints (dZ q3))):=lH (by rw [IZ];exact HQ7.o.up (bR.alloc lR (.cells #[.int .i64 (xa:Int)] 3)))
           have HC8:Hid ((((wr.setCell ⟨g,xa,none⟩ (.int .i64 m)).alloc (.cells #[.int .i64 xa,.int .i64 xb] 166)).alloc (.cells #[.int .i64 (xa:Int)] 3)).cell? ⟨wr.heap.size+1,0,none⟩=some (.int .i64 (xa:Int))):=lH (by
            rw [IZ];have h:=(aG.new w7 3 #[.int .i64 (xa:Int)]).cell 0;rw [<-hs7] at h;simpa using h)
           have hs8:g+1<=(((wr.setCell ⟨g,xa,none⟩ (.int .i64 m)).alloc (.cells #[.int .i64 xa,.int .i64 xb] 166)).alloc (.cells #[.int .i64 (xa:Int)] 3)).heap.size:=by simp;omega
           clear hs7 IZ iM HG7 HQ7
           go_wp2_with (at_builtin;refine tE _ rfl (.tmp 79) (.tmp 81) 30 rfl (g+1) 3 i0 (.int .i64 0) Tryz.underlying30 DN.o AR.o J0.o JZ.o rfl u10 _ rfl HQ8.o ⟨wr.heap.size+1,0,none⟩ 1 _ rfl HC8.o rfl rfl K4 hs8 ?_;intro v' w9 hq9 gE)
           go_roundw
           case rel=>
            have hq:ints (dZ q3)++[Value.int .i64 (xa:Int)]=ints (dZ (q3++[xa])):=by
             first | exact vX _ _ | (rw [<-vX];congr 1<;>first | rfl | (congr 2;omega))
            rw [hq] at hq9;have h1:=gR.o;exact ⟨k+1,_,_,by omega,by go_num,h1.1,yJ.o,h1.2.1.trans HCC.o,dF.o.trans (gE.mono (by omega)),HG8.o.below gE (by omega),hq9,cV hs8 gE.size⟩
           case measure=>simp [intOf];omega
          ·rw [if_neg (fun h=>hz h.2)] at gR yJ
           have pU:decide (out3.getD xa 0<0)=false:=decide_eq_false hz;generalize out3.getD xa 0=z at AC hz pU
           go_wp2_with fail
           go_roundw
           case rel=>exact ⟨k+1,out3,q3,by omega,by go_num,IM.o,yJ.o,HCC.o,DP.o,I8.o,HQA.o,by simp;omega⟩
           case measure=>simp [intOf];omega
        ·have hna : ((xa : Int) != (u : Int)) = true := by
          have : xa ≠ u := fun h => hh (.inl h)
          simp;omega
         have hnb : ((xb : Int) != (u : Int)) = true := by
          have : xb ≠ u := fun h => hh (.inr h)
          simp;omega
         rw [if_neg (fun h=>hh h.1)] at gR yJ
         go_wp2_with fail
         go_roundw
         case rel=>exact ⟨k+1,out3,q3,by omega,by go_num,IM.o,yJ.o,HCC.o,DP.o,I8.o,HQA.o,by simp;omega⟩
         case measure=>simp [intOf];omega
       ·have hkk:k=es.length:=by omega
        subst hkk
        go_wp2_with fail
        go_roundg (gk-1)
        case rel=>
         have hS:(out3,q3)=S0:=by rw [<-HSC.o,List.drop_length];rfl
         exact ⟨out3,q3,IM.o,by rw [<-aSq.o (by have:=aFY.o;omega),<-hS],by have:=aFY.o;have:=HCC.o;omega,by omega,HB.o,HG.o,HQ.o,hs3⟩
        case measure=>have:=aFY.o;omega
  ·have lG:i=n:=by omega
   subst lG
   go_wp2_with fail
   go_ret;exact HP.o _ _ ⟨HB.o,g,rfl,hwg,by
    have h:=HG.o;have e:out=lL i es:=by unfold lL;rw [<-HF.o,Nat.sub_self];rfl
    rw [e] at h;exact h⟩
theorem RU.bm {w w':Wo} {n:Nat} {A:OA} {l:List (Nat×Nat)} (h:RU w w.heap.size A n l) (g:Below w.heap.size w w'):RU w' w'.heap.size A n l:=(h.below g lR).more g.size
end
