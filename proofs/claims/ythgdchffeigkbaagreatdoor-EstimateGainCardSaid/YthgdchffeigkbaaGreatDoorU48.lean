import Derived.Test.YthgdchffeigkbaaGreatDoorU42
set_option linter.unusedVariables false
set_option linter.unusedSimpArgs false
namespace Go.Proofs.YthgdchffeigkbaaGreatDoor
set_option maxHeartbeats 4000000
set_option maxRecDepth 100000
section
open Go
section
variable {P:Program} {Q:Exit→Act→World→Prop} {md:Region.Mode}
theorem skipH {L:List Oper} {S:World→Prop} (i:Nat) {oi:Oper} {fuel:Nat} {listed:Array Bool} {a:Act} {w:World} (hi:L[i]?=some oi) (hB:takeB md L.toArray listed i=true)
    (hQ:∀ c a w,Q (.panic c) (a.put oi.dst undef) w→Q (.panic c) a w) (hw:Region.wanted oi (yielded L.toArray a.tmps)=false) (hS:S w)
    (h:wpAnyH P md L.toArray Q S fuel (listed.setIfInBounds i true) (a.put oi.dst undef) w):wpAnyH P md L.toArray Q S (fuel+1) listed a w:=by
 unfold takeB at hB;rw [Bool.and_eq_true,Bool.and_eq_true] at hB;exact wpAnyH_take (by rw [List.getElem?_toArray];exact hi) hB.1.1 hB.1.2 hB.2 hQ (.inr ⟨hw,rfl⟩) hS h
end
end
section
theorem rankR_ok {M:List (List Rat)} {n:Nat} (h:∀ a∈M,a.length=n) (h0:M=[]→n=0):∃ (E:List Fn) (piv:List Nat),Ech E piv n∧piv.length=rankR M∧(∀ x,Ker n E x↔Ker n (vfs M) x)∧E.length=M.length:=by
 have hw:widthR M=n:=by
  cases M with
  | nil=>exact (h0 rfl).symm
  | cons a r=>exact h a (List.mem_cons_self ..)
 have:=redR_ok h (Nat.le_refl n);refine ⟨_,_,this.ech,by unfold rankR;rw [hw],fun x=>this.ker n lR x,by rw [vfs_len,this.len]⟩
def Wid (n:Nat) (M:List (List Rat)):Prop:=∀ a∈M,a.length=n
theorem rk_ech {n:Nat} {M:List (List Rat)} (h:Wid n M):∃ (E:List Fn) (piv:List Nat),Ech E piv n∧piv.length=rankR M∧(∀ x,Ker n E x↔Ker n (vfs M) x)∧E.length=M.length:=by
 by_cases h0:M=[]
 ·subst h0
  refine ⟨[],[],⟨lR,List.Pairwise.nil,fun p hp=>(by cases hp),fun t p a h=>by simp at h,fun t p i a h=>by simp at h,fun t p a h=>by simp at h,fun i a h hi j hj=>by simp at h⟩,rfl,fun x=>Iff.rfl,rfl⟩
 ·exact rankR_ok h fun e=>absurd e h0
theorem rk_full {n:Nat} {M:List (List Rat)} (h:Wid n M):rankR M=n↔∀ x,Ker n (vfs M) x→∀ j,j<n→x j=0:=by
 obtain ⟨E,piv,h1,h2,h3,_⟩:=rk_ech h;rw [←h2,rank_full h1];exact ⟨fun g x hx=>g x ((h3 x).2 hx),fun g x hx=>g x ((h3 x).1 hx)⟩
end
section
namespace Ls
variable (L:Ls)
theorem sym (i j:Nat):L.G i j=L.G j i:=sumTo_congr fun k _=>by grind
variable {L}
end Ls
end
section
open Go.ChangeShapes Go.WideShapes Go.ChangeAt Go.RowKit
attribute [local go_sem ↓] execOp_call_val
attribute [local go_sem] callVal_func setCell_drewN alloc_drewN sEq_walk
theorem width_m (A:Option Addr) (n c:Nat) (M:List (List Rat)) (w:World) (hR:RdM w w.heap.size A n M) (hn:n≤1000000) :
    Calls Tryz.prog 125 #[.slice A n c] w fun e w'=>e=.returned (.int .i64 (widthR M:Int))∧w=w':=by
 cases M with
 | nil=>
  have h0:n=0:=hR.len.symm;subst h0;clear hR;go_enter Tryz.func125,Tryz.ntmps125
  go_wp2_with fail
  go_ret;exact ⟨rfl,rfl⟩
 | cons a r=>
  have hl:n=r.length+1:=hR.len.symm;have h0:0<n:=by omega
  obtain ⟨b,off,hA,hb⟩:=hR.form h0;subst hA;obtain ⟨h,hc,hq,-,-⟩:=hR.at_ (i:=0) (q:=a) rfl;have hw:widthR (a::r)=h.n:=hq.len;rw [hw];obtain ⟨hA,hn2,hc2⟩:=h;simp only at hc ⊢;rw [Nat.add_zero] at hc;have hbl:=World.block_lt_of_cell? w _ hc;simp only at hbl;have hnz:((n:Int) == 0)=false:=by simp;omega
  have hni:(0:Int)<(n:Int):=by omega
  have HW:=lH hw;clear hl hR hq hw;go_enter Tryz.func125,Tryz.ntmps125
  go_wp2_with fail
  go_ret;exact ⟨rfl,rfl⟩
theorem widthR_le {M:List (List Rat)} {N:Nat} (h:∀ a∈M,a.length=N):widthR M≤N:=by
 cases M with
 | nil=>exact Nat.zero_le _
 | cons a r=>exact Nat.le_of_eq (h a (List.mem_cons_self ..))
theorem rank_m (A:Option Addr) (n c N b:Nat) (M:List (List Rat)) (w:World) (hR:RdM w w.heap.size A n M) (ok:RkOk M N b) :
    Calls Tryz.prog 86 #[.slice A n c] w fun e w'=>e=.returned (.int .i64 (rankR M:Int))∧Below w.heap.size w w':=by
 have hn:n≤1000000:=by rw [←hR.len];exact ok.len
 have HL:=lH hR.len;have H1:=lH (width_m A n c M w hR hn);have hwl:=widthR_le ok.wid;have H2:=lH (reduce_m A n c (widthR M) N b M w hR hn ok.wid ok.n hwl ok.bd (zI_ (pow4_le hwl b) ok.sz));clear hR ok hwl;go_enter Tryz.func86,Tryz.ntmps86
 go_wp2_with fail
 refine H1.o.mono ?_;rintro e w' ⟨rfl,rfl⟩
 go_wp2_with fail
 refine H2.o.mono ?_;rintro e w1 ⟨hb1,g,hs,v,rfl,-,hp⟩;obtain ⟨pA,pc,hv,-,-⟩:=hp.shape;subst hv;have HB1:=lH hb1;have HRK:Hid ((redR M (widthR M)).2.length=rankR M):=lH rfl;clear hp hb1;generalize (redR M (widthR M)).2.length=rk at *
 go_wp2_with fail
 go_ret;exact ⟨by rw [←HRK.o];rfl,HB1.o⟩
end
section
theorem find_new {S:Nat→Nat→Bool} {b:Nat}:(List.range b).find? (fun a=>S a b)=none↔newS S b=true:=by
 unfold newS;rw [List.find?_eq_none];simp
theorem arR_cnt (S:Nat→Nat→Bool):∀ n:Nat,(arR S n).2=cnt (newS S) n
 | 0=>rfl
 | n+1=>by
  rw [cnt_succ,←arR_cnt S n];rw [arR_succ];cases h:(List.range n).find? (fun a=>S a n) with
  | none=>simp [find_new.1 h]
  | some a=>
   have:newS S n=false:=by
    cases hn:newS S n with
    | false=>rfl
    | true=>rw [find_new.2 hn] at h;cases h
   simp [this]
end
section
open Go.ChangeShapes Go.WideShapes Go.ChangeAt Go.RowKit
attribute [local go_sem ↓] execOp_call_val
attribute [local go_sem] callVal_func setCell_drewN alloc_drewN sEq_walk
theorem rk_ok {x:Net} (ok:NetOk x) (h8:x.nodes.length≤8) {ms:List Mi} (hl:ms.length≤64) (hm:∀ m∈ms,MiOk x m):RkOk (rowsR x ms) (freeL x).length 301:=by
 obtain ⟨h1,h2⟩:=rowsR_ok ok hm;have hf:=freeL_len ok h8;refine ⟨h1,fun a ha q hq=>Nat.succ_le_succ (h2 a ha q hq),?_,by unfold rowsR;rw [zG_];omega,by omega⟩;exact zI_ (Nat.mul_le_mul (Nat.pow_le_pow_right (by decide) hf) lR) (by decide)
def rankA (x:Net) (ms:List Mi):Int×Int×Int:=if mtCk x ms=0 then ((rankR (rowsR x ms):Int),((freeL x).length:Int),0) else (0,0,mtCk x ms)
theorem orank_any (h:NetH) (x:Net) (h8:x.nodes.length≤8) (A:Option Addr) (n c:Nat) (ms:List Mi) (w:World) (r:RdNet w w.heap.size h x) (hm:RdMi w w.heap.size A n ms) (hz:∀ m∈ms,m.txt.size≤maxLen) (hn:n≤9223372036854775807) (ht:TabOk w) :
    Calls Tryz.prog 78 #[.agg h.cells,.slice A n c] w fun e w'=>e=.returned (.tuple #[.int .i64 (rankA x ms).1,.int .i64 (rankA x ms).2.1,.int .i64 (rankA x ms).2.2])∧Below w.heap.size w w':=by
 have K0:Below w.heap.size w (w.alloc (.cells h.cells 29)):=bA;have HK:=lH K0;have P0:=lH (Blk.new w 29 h.cells);have HX:=lH (r.up K0);have HM:=lH (hm.bm K0);have HML:Hid (ms.length=n):=lH hm.1;have HSZ:Hid (w.heap.size≤(w.alloc (.cells h.cells 29)).heap.size):=lH K0.size;have HCK:=lH (mcheck_any h x A n c ms (w.alloc (.cells h.cells 29)) HX.o HM.o hz hn (ht.up K0));have HRA:Hid (rankA x ms=if mtCk x ms=0 then ((rankR (rowsR x ms):Int),((freeL x).length:Int),0) else (0,0,mtCk x ms)):=lH rfl;have HMO:Hid (mtCk x ms=0→NetOk x∧ms.length≤64∧∀ m∈ms,MiOk x m):=lH mtCk_ok;generalize rankA x ms=ra at *;generalize mtCk x ms=ck at *;clear K0 hm r hz ht;obtain ⟨D0,r0,s0,D1,r1,s1,D2,r2,s2,D3,r3,s3,D4,r4,s4,D5,r5,s5⟩:=h;obtain ⟨y0,y1,y2,y3,y4,y5,nf,nlt⟩:=net_box P0.o;dsimp only at y0 y1 y2 y3 y4 y5;go_enter Tryz.func78,Tryz.ntmps78
 go_wp2_with fail
 generalize w.alloc (.cells (NetH.cells ⟨D0,r0,s0,D1,r1,s1,D2,r2,s2,D3,r3,s3,D4,r4,s4,D5,r5,s5⟩) 29)=W at *;refine HCK.o.mono ?_;rintro e w1 ⟨rfl,hb1⟩;have HB1:=lH hb1;clear hb1 y0 y1 y2 y3 y4 y5 nf nlt HCK
 by_cases hck:ck=0
 ·subst hck
  obtain ⟨ok,hl,hmi⟩:=HMO.o rfl;have HOK:=lH ok;have HL:=lH hl;have HMI:=lH hmi;have HRE:Hid (ra=((rankR (rowsR x ms):Int),((freeL x).length:Int),0)):=lH (by rw [HRA.o,if_pos rfl]);clear ok hl hmi HMO HRA;have P1:=P0.o.bl HB1.o;obtain ⟨y0,y1,y2,y3,y4,y5,nf,nlt⟩:=net_box P1;dsimp only at y0 y1 y2 y3 y4 y5;clear P1
  go_wp2_with fail
  refine (flowOf_any _ x HOK.o h8 w1 (HX.o.up HB1.o)).mono ?_;rintro e w2 ⟨hb2,g,m,A7,n7,c7,rfl,hg,hblk,hrd,-⟩;have HB2:=lH (HB1.o.tm hb2);have HG:=lH hblk;have HR:=lH hrd;have HN6:Hid ((freeL x).length=m.n6):=lH (by rw [←natJ_len];exact hrd.r6.len);clear hb2 hg hblk hrd y0 y1 y2 y3 y4 y5 nf nlt;have P2:=P0.o.bl HB2.o;obtain ⟨y0,y1,y2,y3,y4,y5,nf,nlt⟩:=net_box P2;dsimp only at y0 y1 y2 y3 y4 y5;have g6:w2.cell? ⟨g,6,none⟩=some (.slice m.A6 m.n6 m.c6):=HG.o.cell 6;have gl:=HG.o.lt;have HB4:=lH (below_drew (Below.refl w2.heap.size w2));have HM2:=lH (HM.o.bm HB2.o);have HX2:=lH (HX.o.up HB2.o);clear P2
  go_upto_region 5 with fail
  refine wp_region_last (S:=fun w'=>Below w2.heap.size w2 w') 12 _ (by kernel_rfl) (by kernel_rfl) rfl (below_drew bR) (fun hHeld=>?_);simp only [zK_,List.take_zero];refine tkH 0 rfl ?_;refine tkH 1 rfl ?_;refine tkH 2 rfl ?_;refine tkH 5 rfl ?_;refine tkH 6 rfl ?_;refine tkH 7 rfl ?_;refine tkH 8 rfl ?_;refine tkH 9 rfl ?_;refine stepH 3 (by kernel_rfl) rfl (fun K hK=>?_);go_simp;refine (orows_any _ x HOK.o h8 g m _ A n c ms w2.drew (HX2.o.up HB4.o) (HG.o.bl HB4.o) (HR.o.up HB4.o) (HM2.o.bm HB4.o) (by have:=HL.o;have:=HML.o;omega) HMI.o).mono ?_;rintro e w8 ⟨hb8,A8,c8,rfl,hrm,-⟩;have HB8:Hid (Below w2.heap.size w2 w8):=lH (HB4.o.tm hb8);have HRM:=lH hrm;clear hb8 hrm;go_simp;refine hK.out _ _ ?_ (fun hHeld=>?_)
  ·exact HB8.o
  clear hK K
  try simp only [Act.put,sA_,sB_,sC_]
  refine stepH 4 (by kernel_rfl) rfl (fun K hK=>?_);go_simp;refine (rank_m A8 ms.length c8 _ _ _ w8 HRM.o (rk_ok HOK.o h8 HL.o HMI.o)).mono ?_;rintro e w9 ⟨rfl,hb9⟩;have HB9:Hid (Below w2.heap.size w2 w9):=lH (HB8.o.tm hb9);clear hb9;go_simp;refine hK.out _ _ ?_ (fun hHeld=>?_)
  ·exact HB9.o
  clear hK K
  try simp only [Act.put,sA_,sB_,sC_]
  refine tkH 10 rfl ?_;refine tkH 11 rfl ?_;refine wpAnyH_done (by kernel_rfl) ?_ _;refine lastQ_go (by rfl) ?_;clear hHeld;clear y0 y1 y2 y3 y4 y5 nf nlt g6 gl
  go_wp2_with fail
  refine bodyPost_ret (v:=.tuple #[.int .i64 (rankR (rowsR x ms):Int),.int .i64 (m.n6:Int),.int .i64 0]) (by simp [results,Tryz.results78,go_sem]) rfl ⟨by rw [HRE.o,HN6.o],HK.o.trans ((HB2.o.tm HB9.o).mono HSZ.o)⟩
 ·have hckB:(ck != 0)=true:=by simp [hck]
  have HRE:Hid (ra=(0,0,ck)):=lH (by rw [HRA.o,if_neg hck])
  go_wp2_with fail
  refine bodyPost_ret (v:=.tuple #[.int .i64 0,.int .i64 0,.int .i64 ck]) (by simp [results,Tryz.results78,go_sem]) rfl ⟨by rw [HRE.o],HK.o.trans (HB1.o.mono HSZ.o)⟩
end
section
open Go.ChangeShapes Go.WideShapes Go.ChangeAt Go.RowKit
theorem rdM_own {w0 w':World} {base:Nat} {v:Value} {hs:List Hd} {M:List (List Rat)} (hb:Below w0.heap.size w0 w') (hl:hs.length=M.length)
    (hr:∀ (i:Nat) (h:Hd) (q:List Rat),hs[i]?=some h→M[i]?=some q→RdQ w0 w0.heap.size h.A h.n q∧h.n≤h.c∧h.c≤maxLen)
    (own:OwnS NoI w' base 93 1 v hs.length (hs.map Hd.val)):∃ A c,v=.slice A M.length c∧RdM w' w'.heap.size A M.length M∧M.length≤c∧c≤maxLen:=by
 obtain ⟨A,c,hv,hrd,h1,h2,h3⟩:=own_rd own.own;rw [hl] at hv hrd h1;exact ⟨A,c,hv,⟨hs,hl,rfl,hrd,fun i h q hh hq=>⟨((hr i h q hh hq).1.below hb lR).more hb.size,(hr i h q hh hq).2⟩⟩,h1,h2⟩
theorem cutAtK_mem {α:Type} {l:List α} {k:Nat} {x:α} (h:x∈cutAtK l k):x∈l:=by
 unfold cutAtK at h;rcases List.mem_append.1 h with h | h
 ·exact List.mem_of_mem_take h
 ·exact List.mem_of_mem_drop h
end
section
open Go.ChangeShapes Go.WideShapes Go.ChangeAt Go.RowKit
attribute [local go_sem ↓] execOp_call_val
attribute [local go_sem] callVal_func setCell_drewN alloc_drewN sEq_walk
def critR (M:List (List Rat)):List Nat:=(List.range M.length).filter fun k=>decide (rankR (cutAtK M k)<rankR M)
theorem critR_snoc {M:List (List Rat)} {k:Nat}:((List.range (k+1)).filter fun k=>decide (rankR (cutAtK M k)<rankR M))=((List.range k).filter fun k=>decide (rankR (cutAtK M k)<rankR M))++(if rankR (cutAtK M k)<rankR M then [k] else []):=by
 rw [List.range_succ,List.filter_append];congr 1
 by_cases h:rankR (cutAtK M k)<rankR M
 ·simp [h]
 ·simp [h]
theorem cut_ok {M:List (List Rat)} {N b:Nat} (h:RkOk M N b) (k:Nat):RkOk (cutAtK M k) N b:=by
 refine ⟨fun a ha=>h.wid a (cutAtK_mem ha),fun a ha=>h.bd a (cutAtK_mem ha),h.sz,?_,h.n⟩;refine zI_ ?_ h.len;unfold cutAtK;rw [zE_,zF_,zS_];have:=h.len;omega
end
section
open Go.ChangeShapes Go.WideShapes Go.ChangeAt Go.RowKit
def twoF (n a b:Nat):List Rat:=((zrs n).set a 1).set b (-1)
def sameQ (x:Net) (M:List (List Rat)) (a b:Nat):Bool:=decide ((islR x).getD a 0=(islR x).getD b 0) && decide (rankR (M++[rowR x (twoF (busN x) a b)])=rankR M)
def areaR (x:Net) (M:List (List Rat)):List Nat:=(arR (sameQ x M) (busN x)).1
end
section
section
variable {x:Net} {ms:List Mi}
end
section
variable {x:Net} {ms:List Mi}
end
section
variable {x:Net} {ms:List Mi} {by_:Int}
end
section
variable {x:Net} {ms:List Mi}
end
theorem ereg_rank {x:Net} {ms:List Mi} (ok:NetOk x) (hm:∀ m∈ms,MiOk x m) (hwt:∀ m∈ms,1≤m.wt):EReg x ms↔rankR (rowsR x ms)=(freeL x).length:=by
 rw [ereg_iff hwt];have hw:Wid (freeL x).length (rowsR x ms):=(rowsR_ok ok hm).1;rw [rk_full hw];refine forall_congr' fun c=>?_;have:Ker (freeL x).length (vfs (rowsR x ms)) c↔∀ k,k<ms.length→dotn (freeL x).length ((lsOf x ms).R k) c=0:=by
  rw [ker_iff]
  constructor
  ·intro h k hk
   obtain ⟨r,hr⟩:∃ r,(rowsR x ms)[k]?=some r:=zX_ (by rw [rows_len];exact hk);have:=h k r hr;show dotn _ (vf ((rowsR x ms).getD k [])) c=0;rw [zD_,hr];exact this
  ·intro h k r hr
   have:=h k (by have:=(zB_.1 hr).1;rwa [rows_len] at this);rw [show (lsOf x ms).R k=vf ((rowsR x ms).getD k []) from rfl,zD_,hr] at this;exact this
 rw [this]
end
section
open Go.ChangeShapes Go.WideShapes Go.ChangeAt Go.RowKit
theorem wrap_i64 {x:Int} (h1:-9223372036854775808≤x) (h2:x≤9223372036854775807):IntKind.i64.wrap x=x:=Go.IntWalk.i64_in _ (by omega)
theorem ite_go {c:Bool} {p q:Prop} (h:c=true) (hp:p):if c=true then p else q:=by rw [if_pos h];exact hp
theorem wp_appRows {o:Oper} {a:Act} {w:World} {K:Act→World→Prop} {Q:Exit→Act→World→Prop} (s x:Operand) (t:TypeId)
    (ho:o.op=.call { callee:=.builtin .append,args:=#[s,x],argTypes:=#[t,t] }) (base:Nat) (ht:Tryz.prog.underlying t=some (.slice 93))
    (v:Value) (hs:List Hd) (hsv:a.eval s=v) (hown:OwnS NoI w base 93 1 v hs.length (hs.map Hd.val))
    (A:Option Addr) (m c:Nat) (h2:List Hd) (hm:h2.length=m) (hx:a.eval x=.slice A m c) (hr:Rd w w.heap.size 1 A m (h2.map Hd.val)) (h63:hs.length+m≤1000000000) (hbase:base≤w.heap.size) (N:Nat) (hN:(hs++h2).length=N)
    (h:∀ A' c' w',OwnS NoI w' base 93 1 (.slice A' N c') (hs++h2).length ((hs++h2).map Hd.val)→Below base w w'→Keeps NoI base 93 w w'→K (a.put o.dst (.slice A' N c')) w'):o.wp Tryz.prog a w K Q:=by
 obtain ⟨i0,hi0,hz0,hz1,hz2⟩:=info_parts info_rw;subst hm;refine wp_appR (S:=NoI) s x t ho base 93 i0 _ 1 24 ht hi0 hz0 hz1 hz2 rfl (by omega) (fun u hu=>?_) v hs.length (hs.map Hd.val) hsv hown A h2.length c (h2.map Hd.val) hx hr (hd_noI h2) (by simp only [maxLen];omega) (by omega) hbase fun v' w' k1 k2 _ _=>?_
 ·have hu':u∈[Value.slice none 0 0]:=hu
  rw [List.mem_singleton.1 hu'];exact fun k x h=>by cases h
 ·rw [←List.map_append,←zE_] at k1
  obtain ⟨A',c',e,_⟩:=k1.shape;subst e;subst hN;exact h A' c' w' k1 k2.low k2
theorem Hds.snoc {w:World} {hs:List Hd} {M:List (List Rat)} (h:Hds w hs M) {z:Hd} {q:List Rat} (hz:RdQ w w.heap.size z.A z.n q∧z.n≤z.c∧z.c≤maxLen):Hds w (hs++[z]) (M++[q]):=by
 refine ⟨by rw [zE_,zE_,h.1];rfl,fun i a p hh hq=>?_⟩
 by_cases hi:i<M.length
 ·rw [zR_ hi] at hq
  rw [zR_ (by rw [h.1];exact hi)] at hh;exact h.2 _ _ _ hh hq
 ·rw [zN_ (by omega)] at hq
  rw [zN_ (by rw [h.1];omega),h.1] at hh;have hi2:=(zB_.1 hq).1;rw [List.length_singleton] at hi2;have:i-M.length=0:=by omega
  rw [this] at hq hh;simp at hq hh;subst hq;subst hh;exact hz
theorem Hds.rdM {w0 w':World} {base:Nat} {v:Value} {hs:List Hd} {M:List (List Rat)} (h:Hds w0 hs M) (hb:Below w0.heap.size w0 w') (own:OwnS NoI w' base 93 1 v hs.length (hs.map Hd.val)):∃ A c,v=.slice A M.length c∧RdM w' w'.heap.size A M.length M∧M.length≤c∧c≤maxLen:=rdM_own hb h.1 h.2 own
theorem Hds.rdM2 {w0 w':World} {base:Nat} {A:Option Addr} {n c:Nat} {hs:List Hd} {M:List (List Rat)} (h:Hds w0 hs M) (hb:Below w0.heap.size w0 w') (own:OwnS NoI w' base 93 1 (.slice A n c) hs.length (hs.map Hd.val)):RdM w' w'.heap.size A n M∧n≤c∧c≤maxLen:=by
 obtain ⟨A',c',e,h1,h2,h3⟩:=h.rdM hb own;injection e with e1 e2 e3;subst e1;subst e2;subst e3;exact ⟨h1,h2,h3⟩
end
section
open Go.ChangeShapes Go.WideShapes Go.ChangeAt Go.RowKit
attribute [local go_sem ↓] execOp_call_val
attribute [local go_sem] callVal_func setCell_drewN alloc_drewN sEq_walk
def obsA (x:Net) (ms:List Mi):Bool:=decide ((rankA x ms).2.2=0) && decide ((rankA x ms).1=(rankA x ms).2.1)
theorem obs_any (h:NetH) (x:Net) (h8:x.nodes.length≤8) (A:Option Addr) (n c:Nat) (ms:List Mi) (w:World) (r:RdNet w w.heap.size h x) (hm:RdMi w w.heap.size A n ms) (hz:∀ m∈ms,m.txt.size≤maxLen) (hn:n≤9223372036854775807) (ht:TabOk w) :
    Calls Tryz.prog 39 #[.agg h.cells,.slice A n c] w fun e w'=>e=.returned (.tuple #[.bool (obsA x ms),.int .i64 (rankA x ms).2.2])∧Below w.heap.size w w':=by
 have K0:Below w.heap.size w (w.alloc (.cells h.cells 29)):=bA;have HK:=lH K0;have P0:=lH (Blk.new w 29 h.cells);have HSZ:Hid (w.heap.size≤(w.alloc (.cells h.cells 29)).heap.size):=lH K0.size;have HRK:=lH (orank_any h x h8 A n c ms (w.alloc (.cells h.cells 29)) (r.up K0) (hm.bm K0) hz hn (ht.up K0));have HOB:Hid (obsA x ms=(decide ((rankA x ms).2.2=0) && decide ((rankA x ms).1=(rankA x ms).2.1))):=lH rfl;generalize obsA x ms=ob at *;generalize rankA x ms=ra at *;obtain ⟨ra1,ra2,ra3⟩:=ra;dsimp only at HRK HOB ⊢;clear K0 hm r hz ht;obtain ⟨D0,r0,s0,D1,r1,s1,D2,r2,s2,D3,r3,s3,D4,r4,s4,D5,r5,s5⟩:=h;obtain ⟨y0,y1,y2,y3,y4,y5,nf,nlt⟩:=net_box P0.o;dsimp only at y0 y1 y2 y3 y4 y5;go_enter Tryz.func39,Tryz.ntmps39
 go_wp2_with fail
 generalize w.alloc (.cells (NetH.cells ⟨D0,r0,s0,D1,r1,s1,D2,r2,s2,D3,r3,s3,D4,r4,s4,D5,r5,s5⟩) 29)=W at *;refine HRK.o.mono ?_;rintro e w1 ⟨rfl,hb1⟩;have HB1:=lH (HK.o.trans (hb1.mono HSZ.o));clear hb1 y0 y1 y2 y3 y4 y5 nf nlt HRK
 by_cases h3:ra3=0
 ·subst h3
  by_cases h1:ra1=ra2
  ·subst h1
   go_wp2_with fail
   refine bodyPost_ret (v:=.tuple #[.bool true,.int .i64 0]) (by simp [results,Tryz.results39,go_sem]) rfl ⟨by rw [HOB.o];simp,HB1.o⟩
  ·have hb:(ra1 == ra2)=false:=by simpa using h1
   go_wp2_with fail
   refine bodyPost_ret (v:=.tuple #[.bool false,.int .i64 0]) (by simp [results,Tryz.results39,go_sem]) rfl ⟨by rw [HOB.o,decide_eq_false h1];simp,HB1.o⟩
 ·have hb:(ra3 == 0)=false:=by simpa using h3
  go_wp2_with fail
  refine bodyPost_ret (v:=.tuple #[.bool false,.int .i64 ra3]) (by simp [results,Tryz.results39,go_sem]) rfl ⟨by rw [HOB.o,decide_eq_false h3];simp,HB1.o⟩
end
section
open Go.ChangeShapes Go.WideShapes Go.ChangeAt Go.RowKit
attribute [local go_sem ↓] execOp_call_val
attribute [local go_sem] callVal_func setCell_drewN alloc_drewN
def sameI (a b:List Int):Bool:=decide (a=b)
theorem sameInts_any (A:Option Addr) (n c:Nat) (a:List Int) (B:Option Addr) (m d:Nat) (b:List Int) (w:World) (ha:RdI w w.heap.size A n a) (hb:RdI w w.heap.size B m b) (hn:n≤9223372036854775807) :
    Calls Tryz.prog 46 #[.slice A n c,.slice B m d] w fun e w'=>e=.returned (.bool (sameI a b))∧∃ nq,w'=w.drewN nq:=by
 have hla:=lH ha.len;have hlb:=lH hb.len
 by_cases hnm:n=m
 ·subst hnm
  go_enter Tryz.func46,Tryz.ntmps46
  go_wp2_with fail
  go_loopw [5,13] (fun _ i wr=>∃ k nq:Nat,k≤n∧i=.int .i64 k∧wr=w.drewN nq∧a.take k=b.take k) (fun _ i _=>n-(intOf i).toNat)
  case atStart=>exact ⟨0,0,by omega,rfl,rfl,by simp⟩
  case round=>
   obtain ⟨k,nq,hk,rfl,rfl,heq⟩:=hrel;have HEQ:=lH heq;clear heq
   by_cases hlt:k<n
   ·obtain ⟨x,hx⟩:∃ x,a[k]?=some x:=zX_ (by have:=hla.out;omega)
    obtain ⟨y,hy⟩:∃ y,b[k]?=some y:=zX_ (by have:=hlb.out;omega);obtain ⟨ba,oa,rfl,hablt,_⟩:=ha.2 (by omega);obtain ⟨bb,ob,rfl,hbblt,_⟩:=hb.2 (by omega);have hca:=ha.at_ hx;have hcb:=hb.at_ hy;have hltI:(k:Int)<(n:Int):=by omega
    have hkI:=lZ k
    have HX:=lH hx;have HY:=lH hy;clear hx hy;cases hp:(x != y) with
    | true=>
     have HP:=lH hp
     go_wp2_with fail
     go_quiet (fail)
     go_wp2_with fail
     go_ret;refine ⟨ret_bool ?_,_,World.drewN_drewN _ _ _⟩;unfold sameI;have hne:a≠b:=by
      intro he;subst he;have h1:=HX.o;rw [HY.o] at h1;injection h1 with h1;have h2:=HP.o;simp [h1] at h2
     simp [hne]
    | false=>
     have HP:=lH hp
     go_wp2_with fail
     go_quiet (fail)
     go_wp2_with fail
     go_roundw
     case rel=>
      refine ⟨k+1,_,by omega,by go_num,rfl,?_⟩;have h2:=HP.o;simp at h2;rw [List.take_add_one,List.take_add_one,HEQ.o,HX.o,HY.o,h2]
     case measure=>simp [intOf];omega
   ·have hkn:k=n:=by omega
    have HKN:=lH hkn;clear hkn
    go_wp2_with fail
    go_ret;refine ⟨ret_bool ?_,_,rfl⟩;have h1:=HEQ.o;rw [zH_ (by have:=hla.out;omega),zH_ (by have:=hlb.out;omega)] at h1;simp [sameI,h1]
 ·have hne:¬(n:Int)=(m:Int):=by omega
  go_enter Tryz.func46,Tryz.ntmps46
  go_wp2_with fail
  go_ret;refine ⟨ret_bool ?_,0,rfl⟩;have:a≠b:=by intro he;subst he;have:=hla.out;have:=hlb.out;omega
  simp [sameI,this]
end
section
open Go.ChangeShapes Go.WideShapes Go.ChangeAt Go.RowKit
attribute [local go_sem ↓] execOp_call_val
attribute [local go_sem] callVal_func setCell_drewN alloc_drewN sEq_walk
def CritP (x:Net) (ms:List Mi) (w:World) (e:Ending) (w':World):Prop:=Below w.heap.size w w'∧((mtCk x ms≠0∧e=.returned (.tuple #[.slice none 0 0,.int .i64 (mtCk x ms)]))∨(mtCk x ms=0∧∃ A c,e=.returned (.tuple #[.slice A (critR (rowsR x ms)).length c,.int .i64 0])∧RdI w' w'.heap.size A (critR (rowsR x ms)).length (natJ (critR (rowsR x ms)))))
def critK (M:List (List Rat)) (k:Nat):List Nat:=(List.range k).filter fun k=>decide (rankR (cutAtK M k)<rankR M)
theorem critK_len (M:List (List Rat)) (k:Nat):(critK M k).length≤k:=by
 unfold critK;exact zI_ (List.length_filter_le _ _) (by rw [List.length_range];exact lR)
theorem critK_yes {M:List (List Rat)} {k:Nat} (h:rankR (cutAtK M k)<rankR M):critK M (k+1)=critK M k++[k]:=by
 unfold critK;rw [critR_snoc,if_pos h]
theorem critK_no {M:List (List Rat)} {k:Nat} (h:¬rankR (cutAtK M k)<rankR M):critK M (k+1)=critK M k:=by
 unfold critK;rw [critR_snoc,if_neg h,List.append_nil]
theorem crit_any (h:NetH) (x:Net) (h8:x.nodes.length≤8) (A:Option Addr) (n c:Nat) (ms:List Mi) (w:World) (r:RdNet w w.heap.size h x) (hm:RdMi w w.heap.size A n ms) (hz:∀ m∈ms,m.txt.size≤maxLen) (hn:n≤9223372036854775807) (ht:TabOk w) :
    Calls Tryz.prog 44 #[.agg h.cells,.slice A n c] w (CritP x ms w):=by
 have K0:Below w.heap.size w (w.alloc (.cells h.cells 29)):=bA;have HK:=lH K0;have P0:=lH (Blk.new w 29 h.cells);have HX:=lH (r.up K0);have HM:=lH (hm.bm K0);have HML:Hid (ms.length=n):=lH hm.1;have HSZ:Hid (w.heap.size≤(w.alloc (.cells h.cells 29)).heap.size):=lH K0.size;have HCK:=lH (mcheck_any h x A n c ms (w.alloc (.cells h.cells 29)) HX.o HM.o hz hn (ht.up K0));have HCP:Hid (∀ e w',CritP x ms w e w'↔(Below w.heap.size w w'∧((mtCk x ms≠0∧e=.returned (.tuple #[.slice none 0 0,.int .i64 (mtCk x ms)]))∨(mtCk x ms=0∧∃ A c,e=.returned (.tuple #[.slice A (critR (rowsR x ms)).length c,.int .i64 0])∧RdI w' w'.heap.size A (critR (rowsR x ms)).length (natJ (critR (rowsR x ms))))))):=lH fun e w'=>Iff.rfl;have HMO:Hid (mtCk x ms=0→NetOk x∧ms.length≤64∧∀ m∈ms,MiOk x m):=lH mtCk_ok;generalize mtCk x ms=ck at *;clear K0 hm r hz ht
 obtain ⟨D0,r0,s0,D1,r1,s1,D2,r2,s2,D3,r3,s3,D4,r4,s4,D5,r5,s5⟩:=h;obtain ⟨y0,y1,y2,y3,y4,y5,nf,nlt⟩:=net_box P0.o;dsimp only at y0 y1 y2 y3 y4 y5;go_enter Tryz.func44,Tryz.ntmps44
 go_wp2_with fail
 generalize w.alloc (.cells (NetH.cells ⟨D0,r0,s0,D1,r1,s1,D2,r2,s2,D3,r3,s3,D4,r4,s4,D5,r5,s5⟩) 29)=W at *;refine HCK.o.mono ?_;rintro e w1 ⟨rfl,hb1⟩;have HB1:=lH hb1;clear hb1 y0 y1 y2 y3 y4 y5 nf nlt HCK
 by_cases hck:ck=0
 ·subst hck
  obtain ⟨ok,hl,hmi⟩:=HMO.o rfl;have HOK:=lH ok;have HL:=lH hl;have HMI:=lH hmi;clear ok hl hmi HMO;have P1:=P0.o.bl HB1.o;obtain ⟨y0,y1,y2,y3,y4,y5,nf,nlt⟩:=net_box P1;dsimp only at y0 y1 y2 y3 y4 y5;clear P1
  go_upto_region 4 with fail
  have HB4:=lH (below_drew (Below.refl w1.heap.size w1));have HM1:=lH (HM.o.bm HB1.o);have HX1:=lH (HX.o.up HB1.o);refine wp_region_last (S:=fun w'=>Below w1.heap.size w1 w') 5 _ (by kernel_rfl) (by kernel_rfl) rfl (below_drew bR) (fun hHeld=>?_);simp only [zK_,List.take_zero];refine tkH 0 rfl ?_;refine tkH 1 rfl ?_;refine tkH 3 rfl ?_;refine stepH 2 (by kernel_rfl) rfl (fun K hK=>?_);go_simp;refine (flowOf_any _ x HOK.o h8 w1.drew (HX1.o.up HB4.o)).mono ?_;rintro e w2 ⟨hb2,g,m,A7,n7,c7,rfl,hg,hblk,hrd,-⟩;have HB2:Hid (Below w1.heap.size w1 w2):=lH (HB4.o.tm hb2);have HG:=lH hblk;have HR:=lH hrd;clear hb2 hg hblk hrd;go_simp;refine hK.out _ _ ?_ (fun hHeld=>?_)
  ·exact HB2.o
  clear hK K
  try simp only [Act.put,sA_,sB_,sC_]
  refine stepH 4 (by kernel_rfl) rfl (fun K hK=>?_);go_simp;refine (orows_any _ x HOK.o h8 g m _ A n c ms w2 (HX1.o.up HB2.o) HG.o HR.o (HM1.o.bm HB2.o) (by have:=HL.o;have:=HML.o;omega) HMI.o).mono ?_;rintro e w8 ⟨hb8,A8,c8,rfl,hrm,hc1,hc2⟩;have HB8:Hid (Below w1.heap.size w1 w8):=lH (HB2.o.tm hb8);have HRM:=lH hrm;have HC1:=lH hc1;have HC2:=lH hc2;clear hb8 hrm hc1 hc2;go_simp;refine hK.out _ _ ?_ (fun hHeld=>?_)
  ·exact HB8.o
  clear hK K
  try simp only [Act.put,sA_,sB_,sC_]
  refine wpAnyH_done (by kernel_rfl) ?_ _;refine lastQ_go (by rfl) ?_;clear hHeld;clear y0 y1 y2 y3 y4 y5 nf nlt HG HR HB4 HM1 HX1 HM HX;have HRK:=lH (rk_ok HOK.o h8 HL.o HMI.o);have HCR:Hid (critR (rowsR x ms)=critK (rowsR x ms) ms.length):=lH (by unfold critR critK rowsR;rw [zG_]);have HRL:Hid ((rowsR x ms).length=ms.length):=lH (by unfold rowsR;rw [zG_]);generalize rowsR x ms=M at *;generalize ms.length=q at *
  go_wp2_with fail
  refine (rank_m A8 q c8 _ _ _ w8 HRM.o HRK.o).mono ?_;rintro e w9 ⟨rfl,hb9⟩;have HB9:Hid (Below w1.heap.size w1 w9):=lH (HB8.o.tm hb9);replace HRM:=lH (HRM.o.up hb9);clear hb9 HB8;have HI0:=lH (info_parts infoIn);obtain ⟨i0,hi0,hz0,hz1,hz2⟩:=HI0.o;clear HI0;have HI0:=lH hi0;have HI1:=lH hz0;have HI2:=lH hz1;have HI3:=lH hz2;clear hi0 hz0 hz1 hz2;obtain ⟨rk0,hrk0⟩:∃ rk0,rankR M=rk0:=⟨_,rfl⟩;have HRK0:=lH hrk0;rw [hrk0];clear hrk0
  go_wp2_with fail
  go_loopw [9,27] (fun v9 v27 wr=>∃ k:Nat,k≤q∧v27=.int .i64 k∧OwnS IsI wr w9.heap.size 3 1 v9 (critK M k).length (natI (critK M k))∧Below w9.heap.size w9 wr) (fun _ v27 _=>q-(intOf v27).toNat)
  case atStart=>exact ⟨0,by omega,rfl,ownS_none _ _ _ _ _,bR⟩
  case round=>
   obtain ⟨k,hk,rfl,ho,hb⟩:=hrel;have HO:=lH ho;have HB:=lH hb;clear ho hb
   by_cases hlt:k<q
   ·have hRM:=HRM.o.below HB.o lR
    obtain ⟨ab,ao,hA8,-⟩:=hRM.form (by omega);subst hA8;have hRM2:=hRM.more HB.o.size;obtain ⟨hs,hsl,hrd,hds⟩:=hRM2.hds;have HSL:=lH hsl;have HRD:=lH hrd;have HDS:=lH hds;clear hRM hRM2 hsl hrd hds;obtain ⟨q1,hq1⟩:∃ q1,k+1+q1=q:=⟨q-(k+1),by omega⟩;have HQ1:=lH hq1;have hkI:(k:Int)<(q:Int):=by omega
    have hk0:=lZ k
    have hkc:(k:Int)≤(c8:Int):=by have:=HC1.o;omega
    have hk1:(k:Int)+1≤(q:Int):=by omega
    have hk2:(0:Int)≤(k:Int)+1:=by omega
    have hkw:IntKind.i64.wrap ((k:Int)+1)=(k:Int)+1:=wrap_i64 (by omega) (by have:=HL.o;omega);have hkn1:((k:Int)+1).toNat=k+1:=by omega
    have hkn:=zL_ k;have hqc:(q:Int)≤(c8:Int):=by have:=HC1.o;omega
    have HQC:Hid (q≤c8):=lH HC1.o;have HB10:=lH (below_drew (Below.refl wr.heap.size wr));clear hq1
    go_upto_region 10 with fail
    refine wp_region_last (S:=fun w'=>Below wr.heap.size wr w') 9 _ (by kernel_rfl) (by kernel_rfl) rfl (below_drew bR) (fun hHeld=>?_);simp only [zK_,List.take_zero];refine tkH 0 rfl ?_;refine tkH 1 rfl ?_;refine tkH 2 rfl ?_;refine tkH 4 rfl ?_;refine tkH 5 rfl ?_;refine tkH 6 rfl ?_;refine tkH 7 rfl ?_;have HTL:=lH (HRD.o.tail HQC.o (i:=k+1) (by omega));generalize (if c8=k+1 then (some ⟨ab,ao,none⟩:Option Addr) else some ⟨ab,ao+(k+1),none⟩)=A37 at *;refine stepH 3 (by kernel_rfl) rfl (fun K hK=>?_);refine ite_go (by rfl) ?_;refine wp_appRows (.const (.slice none 0 0)) (.tmp 32) 92 rfl wr.heap.size Tryz.underlying92 (.slice none 0 0) [] rfl (ownS_none _ _ _ _ _) (some ⟨ab,ao,none⟩) k c8 (hs.take k) ?k1 rfl ?k2 ?k3 lR k ?k4 ?_
    case k1=>rw [zF_];have:=HSL.o;omega
    case k2=>exact (HRD.o.below HB10.o lR).heads 0 k (by omega)
    case k3=>have:=HL.o;simp only [zW_];omega
    case k4=>rw [List.nil_append,zF_];have:=HSL.o;omega
    intro A1 c1 w3 ho3 hb3 _;have HO3:Hid (OwnS NoI w3 wr.heap.size 93 1 (.slice A1 k c1) (hs.take k).length ((hs.take k).map Hd.val)):=lH ho3;have HB3:Hid (Below wr.heap.size wr w3):=lH (HB10.o.trans hb3);clear ho3 hb3;refine hK.out _ _ ?_ (fun hHeld=>?_)
    ·exact HB3.o
    clear hK K
    try simp only [Act.put,sA_,sB_,sC_]
    refine stepH 8 (by kernel_rfl) rfl (fun K hK=>?_);refine ite_go (by rfl) ?_;refine wp_appRows (.tmp 33) (.tmp 37) 92 rfl wr.heap.size Tryz.underlying92 (.slice A1 k c1) (hs.take k) rfl HO3.o A37 (q-(k+1)) (c8-(k+1)) (hs.drop (k+1)) ?k1 rfl ?k2 ?k3 HB3.o.size (k+q1) ?k4 ?_
    case k1=>rw [zS_];have:=HSL.o;omega
    case k2=>exact (HTL.o.below HB3.o lR).more HB3.o.size
    case k3=>rw [zF_];have:=HSL.o;have:=HL.o;omega
    case k4=>rw [zE_,zF_,zS_];have:=HSL.o;have:=HQ1.o;omega
    intro A2 c2 w4 ho4 hb4 _;have HB4b:Hid (Below wr.heap.size wr w4):=lH (HB3.o.trans hb4);have HM4:=lH (((HDS.o.up HB4b.o).cut k).rdM2 bR ho4).1;clear ho4 hb4 HO3;refine hK.out _ _ ?_ (fun hHeld=>?_)
    ·exact HB4b.o
    clear hK K
    try simp only [Act.put,sA_,sB_,sC_]
    refine wpAnyH_done (by kernel_rfl) ?_ _;refine lastQ_go (by rfl) ?_;have hq64:q≤64:=HL.o;clear hHeld HTL HSL HRD HDS HQC HQ1 HB3 hqc hkI hk0 hkc hk1 hk2 hkw hkn1 hkn;have HNX:=lN k;have HNM:Hid (q-(k+1)<q-k):=lH (by omega);have HBX:=lH (HB.o.tm HB4b.o);have HOX:=lH (HO.o.keep HB4b.o)
    go_wp2_with fail
    refine (rank_m A2 (k+q1) c2 _ _ _ w4 HM4.o (cut_ok HRK.o k)).mono ?_;rintro e w5 ⟨rfl,hb5⟩;replace HBX:=lH (HBX.o.tm hb5);replace HOX:=lH (HOX.o.keep hb5);clear hb5 HM4 HB4b HO HB HB10
    by_cases hr:rankR (cutAtK M k)<rankR M
    ·have HC:=lH (critK_yes hr)
     rw [HRK0.o] at hr;generalize rankR (cutAtK M k)=r5 at *;have hrI:(r5:Int)<(rk0:Int):=by omega
     have HGL:Hid (w9.heap.size≤w5.heap.size):=lH HBX.o.size;have HLN:=lH (critK_len M k);have HKQ:=lH hlt
     go_upto_region 12 with fail
     clear hrI hr
     go_wp2_with (at_builtin;refine wpList_appS (S:=IsI) rfl (.tmp 43) (.tmp 45) _ rfl w9.heap.size 3 i0 _ 1 8 Tryz.underlying30 HI0.o HI1.o HI2.o HI3.o rfl (by omega) zi_I u9 _ (natI (critK M k)) rfl HOX.o rfl rfl ?k1 ?k2 ?k3 HGL.o ?_)
     case k1=>simp [Value.oneCell',IsI]
     case k2=>simp only [maxLen];have:=HLN.o;have:=HL.o;have:=HKQ.o;omega
     case k3=>have:=HLN.o;have:=HL.o;have:=HKQ.o;omega
     intro v' w7 hown hk7 _;have HO7:Hid (OwnS IsI w7 w9.heap.size 3 1 v' (critK M (k+1)).length (natI (critK M (k+1)))):=lH (by rw [HC.o,zE_,List.length_singleton];unfold natI at *;rw [List.map_append];exact hown);have HB7:Hid (Below w9.heap.size w9 w7):=lH ((HBX.o.trans (((Below.refl _ w5).alloc lR _).mono HBX.o.size)).trans hk7.low);clear hown hk7 HOX HBX HC HGL HLN
     go_wp2_with fail
     go_roundw
     case rel=>exact ⟨k+1,hlt,val_int HNX.o,HO7.o,HB7.o⟩
     case measure=>exact HNM.o
    ·have HC:=lH (critK_no hr)
     rw [HRK0.o] at hr;generalize rankR (cutAtK M k)=r5 at *;have hrI:¬(r5:Int)<(rk0:Int):=by omega
     go_wp2_with fail
     go_roundw
     case rel=>exact ⟨k+1,hlt,val_int HNX.o,by rw [HC.o];exact HOX.o,HBX.o⟩
     case measure=>exact HNM.o
   ·have hke:k=q:=by omega
    subst hke;have hkI:¬(k:Int)<(k:Int):=by omega
    obtain ⟨A9,c9,hv,hrd,h1,h2,h3⟩:=own_rd HO.o.own;subst hv;have HRD:=lH hrd;clear hrd
    go_wp2_with fail
    go_ret2;rw [HCP.o];refine ⟨HK.o.trans ((HB1.o.trans ((HB9.o.tm HB.o).mono HB1.o.size)).mono HSZ.o),.inr ⟨by trivial,A9,c9,by rw [HCR.o];rfl,?_⟩⟩;rw [HCR.o];have h:=HRD.o;unfold RdI ints natJ;unfold natI at h;rw [List.map_map];exact h
 ·have hckB:(ck != 0)=true:=by simp [hck]
  go_wp2_with fail
  go_ret2;rw [HCP.o];exact ⟨HK.o.trans (HB1.o.mono HSZ.o),.inl ⟨hck,rfl⟩⟩
section
variable {w w':World} {gc:Nat} {vs:List Rv} {q:List Rat}
end
theorem cf_made {w:World} {gc n:Nat} {v:Rv} (hc:Blk w gc 115 (rvs (List.replicate n v)).toArray) (hv:RtV w w.heap.size 0 v):Cf w gc (List.replicate n v) (zrs n):=by
 refine ⟨⟨_,hc,?_⟩,by simp [zrs],fun i p x hp hx=>?_⟩
 ·have hl:(rvs (List.replicate n v)).length=n*4:=(rvs_len _).trans (by rw [zO_])
  rw [zrs,zO_];exact zH_ (Nat.le_of_eq hl)
 ·unfold zrs at hp
  rw [List.getElem?_replicate] at hp hx
  split at hp
  ·rename_i h
   rw [if_pos h] at hx;rw [←Option.some.inj hp,←Option.some.inj hx];exact hv
  ·cases hp
theorem RkOk.snoc {M:List (List Rat)} {N b:Nat} (h:RkOk M N b) {q:List Rat} (hl:q.length=N) (hq:∀ p∈q,qsz p+1≤b) (hm:M.length<1000000):RkOk (M++[q]) N b:=by
 refine ⟨fun a ha=>?_,fun a ha=>?_,h.sz,by rw [zE_,List.length_singleton];omega,h.n⟩
 ·rcases List.mem_append.1 ha with h1 | h1
  ·exact h.wid a h1
  ·rw [List.mem_singleton.1 h1];exact hl
 ·rcases List.mem_append.1 ha with h1 | h1
  ·exact h.bd a h1
  ·rw [List.mem_singleton.1 h1];exact hq
theorem twoF_sz {x:Net} {a b:Nat}:∀ p∈rowR x (twoF (busN x) a b),qsz p+1≤301:=fun p hp=>by
 unfold rowR at hp;obtain ⟨j,hj,rfl⟩:=List.mem_map.1 hp;have hl:(twoF (busN x) a b).length=busN x:=by unfold twoF zrs;simp
 have hm:=zC_ (vf_get (l:=twoF (busN x) a b) (by rw [hl];exact freeL_lt hj));have h0:qsz (0:Rat)≤2:=qsz_whole 0 (by decide) (by decide);have h1:qsz (1:Rat)≤2:=qsz_whole 1 (by decide) (by decide);have h2:qsz (-1:Rat)≤2:=qsz_whole (-1) (by decide) (by decide);have key:∀ t∈twoF (busN x) a b,t=0∨t=1∨t=-1:=fun t ht=>by
  unfold twoF at ht;rcases List.mem_or_eq_of_mem_set ht with e | e
  ·rcases List.mem_or_eq_of_mem_set e with e | e
   ·unfold zrs at e
    exact .inl (List.eq_of_mem_replicate e)
   ·exact .inr (.inl e)
  ·exact .inr (.inr e)
 rcases key _ hm with e | e | e<;>(rw [e];omega)
theorem same_any {w:World} {p7 p8 p9 g n c:Nat} {m:ModH} {y:Value} {x:Net} {A:Option Addr} {M:List (List Rat)} (E:SEnv w p7 p8 p9 g m y x A n c M) (ok:NetOk x) (h8:x.nodes.length≤8) (hk:RkOk M (freeL x).length 301) (hn:n≤64) (a b:Nat) (ha:a<busN x) (hb:b<busN x) :
    Calls Tryz.prog 122 #[.int .i64 (a:Int),.int .i64 (b:Int),.pointer (some ⟨p7,0,none⟩),.pointer (some ⟨p8,0,none⟩),.pointer (some ⟨p9,0,none⟩)] w fun e w'=>e=.returned (.bool (sameQ x M a b))∧Below w.heap.size w w':=by
 have HN1:Hid (busN x=m.n1):=lH (by rw [←islR_len ok];exact E.rd.r1.len);have HE:=lH E;have HOK:=lH ok;have HRK:=lH hk;have hnb:m.n1≤8:=by rw [←HN1.o];exact zI_ (busN_ok ok).2 h8
 have HNB:=lH hnb;rw [HN1.o] at ha hb;have HA:=lH ha;have HB:=lH hb;have HS:Hid (sameQ x M a b=(decide ((islR x).getD a 0=(islR x).getD b 0) && decide (rankR (M++[rowR x (twoF (busN x) a b)])=rankR M))):=lH rfl;generalize sameQ x M a b=sm at *;have z7:=E.b7.cell 0;have z7l:=E.b7.lt;clear E ok hk hnb ha hb;obtain ⟨A0,n0,c0,A1,n1,c1,A2,n2,c2,A3,n3,c3,A4,n4,c4,A5,n5,c5,A6,n6,c6⟩:=m;simp only at HN1 HNB HA HB;go_enter Tryz.func122,Tryz.ntmps122
 go_wp2_with fail
 refine (mbuses_any g ⟨A0,n0,c0,A1,n1,c1,A2,n2,c2,A3,n3,c3,A4,n4,c4,A5,n5,c5,A6,n6,c6⟩ y w HE.o.md).mono ?_;rintro e w1 ⟨rfl,rfl⟩
 go_wp2_with fail
 refine (zeros_any n1 w (by have:=HNB.o;omega)).mono ?_;rintro e w1 ⟨hb1,gc,v,rfl,hgc,hbc,hv⟩;have HC1:=lH (cf_made (n:=n1) hbc hv);have HB1:=lH hb1;have HGC:Hid (w.heap.size≤gc∧gc<w1.heap.size):=lH ⟨hgc,hbc.lt⟩;clear hb1 hgc hbc hv z7 z7l
 go_upto_region 2 with fail
 have hz:Below w1.heap.size w1 (w1.alloc (.cells #[.slice (some ⟨gc,0,none⟩) n1 n1,.bool false,.slice none 0 0,.bool false,.slice none 0 0] 117)):=bA;have HC2:=lH (HC1.o.up hz);have HF2:=lH (Blk.new w1 117 #[.slice (some ⟨gc,0,none⟩) n1 n1,.bool false,.slice none 0 0,.bool false,.slice none 0 0]);have HB2:=lH (HB1.o.tm hz);have HG2:Hid (gc≠w1.heap.size∧w.heap.size≤w1.heap.size):=lH ⟨by have:=HGC.o;omega,HB1.o.size⟩;clear hz HC1 HB1;generalize hw2:w1.alloc (.cells #[.slice (some ⟨gc,0,none⟩) n1 n1,.bool false,.slice none 0 0,.bool false,.slice none 0 0] 117)=w2 at *;clear hw2;generalize w1.heap.size=gf at *;have HZL:Hid ((zrs n1).length=n1):=lH (by simp [zrs]);have haI:(a:Int)<(n1:Int):=by have:=HA.o;omega
 have ha0:=lZ a
 have han:=zL_ a;have hbI:(b:Int)<(n1:Int):=by have:=HB.o;omega
 have hb0:=lZ b
 have hbn:=zL_ b;refine wp_region_last (S:=fun w'=>Below w.heap.size w w'∧Blk w' gf 117 #[.slice (some ⟨gc,0,none⟩) n1 n1,.bool false,.slice none 0 0,.bool false,.slice none 0 0]) 11 _ (by kernel_rfl) (by kernel_rfl) rfl ⟨below_drew HB2.o,HF2.o.drew⟩ (fun hHeld=>?_);simp only [zK_,List.take_zero];refine takeH 0 (v:=?_) rfl (by kernel_rfl) (fun _ _ _ h=>h) (by rfl) ?_ hHeld ?_;rotate_left 1
 ·intro w' hSw;obtain ⟨-,hsb⟩:=hSw;have hs0:=hsb.cell 0;have hsl:=hsb.lt;clear hsb;go_simp<;>with_reducible rfl
 try simp only [Act.put,sA_,sB_,sC_]
 refine takeH 1 (v:=?_) rfl (by kernel_rfl) (fun _ _ _ h=>h) (by rfl) ?_ hHeld ?_;rotate_left 1
 ·intro w' hSw;obtain ⟨-,hsb⟩:=hSw;have hs0:=hsb.cell 0;have hsl:=hsb.lt;clear hsb;go_simp<;>with_reducible rfl
 try simp only [Act.put,sA_,sB_,sC_]
 refine takeH 2 (v:=?_) rfl (by kernel_rfl) (fun _ _ _ h=>h) (by rfl) ?_ hHeld ?_;rotate_left 1
 ·intro w' hSw;obtain ⟨-,hsb⟩:=hSw;have hs0:=hsb.cell 0;have hsl:=hsb.lt;clear hsb;go_simp<;>with_reducible rfl
 try simp only [Act.put,sA_,sB_,sC_]
 refine takeH 3 (v:=?_) rfl (by kernel_rfl) (fun _ _ _ h=>h) (by rfl) ?_ hHeld ?_;rotate_left 1
 ·intro w' hSw;obtain ⟨-,hsb⟩:=hSw;have hs0:=hsb.cell 0;have hsl:=hsb.lt;clear hsb;go_simp<;>with_reducible rfl
 try simp only [Act.put,sA_,sB_,sC_]
 refine takeH 4 (v:=?_) rfl (by kernel_rfl) (fun _ _ _ h=>h) (by rfl) ?_ hHeld ?_;rotate_left 1
 ·intro w' hSw;obtain ⟨-,hsb⟩:=hSw;have hs0:=hsb.cell 0;have hsl:=hsb.lt;clear hsb;go_simp<;>with_reducible rfl
 try simp only [Act.put,sA_,sB_,sC_]
 refine takeH 5 (v:=?_) rfl (by kernel_rfl) (fun _ _ _ h=>h) (by rfl) ?_ hHeld ?_;rotate_left 1
 ·intro w' hSw;obtain ⟨-,hsb⟩:=hSw;have hs0:=hsb.cell 0;have hsl:=hsb.lt;clear hsb;go_simp<;>with_reducible rfl
 try simp only [Act.put,sA_,sB_,sC_]
 refine stepH 6 (by kernel_rfl) rfl (fun K hK=>?_);go_simp;refine (wholeV 1 w2.drew (by decide) (by decide)).mono ?_;rintro e w3 ⟨hb3,v3,rfl,h3⟩;have hz3:Below w2.heap.size w2 w3:=(below_drew bR).trans hb3;have HC3:=lH (HC2.o.up hz3);have HF3:=lH (HF2.o.bl hz3);have HB3:=lH (HB2.o.tm hz3);have H3:Hid (RtV w3 w3.heap.size 1 v3):=lH h3;clear hb3 h3 hz3 HC2 HF2 HB2;go_simp;refine hK.out _ _ ?_ (fun hHeld=>?_)
 ·exact ⟨HB3.o,HF3.o⟩
 clear hK K
 try simp only [Act.put,sA_,sB_,sC_]
 refine stepH 7 (by kernel_rfl) rfl (fun K hK=>?_);go_simp;refine (wholeV (-1) w3 (by decide) (by decide)).mono ?_;rintro e w4 ⟨hb4,v4,rfl,h4⟩;have HC4:=lH (HC3.o.up hb4);have HF4:=lH (HF3.o.bl hb4);have HB4:=lH (HB3.o.tm hb4);have H4:Hid (RtV w4 w4.heap.size (-1) v4):=lH h4;replace H3:=lH (H3.o.up hb4);clear hb4 h4 HC3 HF3 HB3;go_simp;refine hK.out _ _ ?_ (fun hHeld=>?_)
 ·exact ⟨HB4.o,HF4.o⟩
 clear hK K
 try simp only [Act.put,sA_,sB_,sC_]
 refine takeH 8 (v:=?_) rfl (by kernel_rfl) (fun _ _ _ h=>h) (by rfl) ?_ hHeld ?_;rotate_left 1
 ·intro w' hSw;obtain ⟨-,hsb⟩:=hSw;have hs0:=hsb.cell 0;have hsl:=hsb.lt;clear hsb;go_simp<;>with_reducible rfl
 try simp only [Act.put,sA_,sB_,sC_]
 refine stepH 9 (by kernel_rfl) rfl (fun K hK=>?_);obtain ⟨xe,-,e0,e1,e2,e3,el,ef⟩:=HC4.o.elem (j:=a) (by rw [HZL.o];exact HA.o);go_simp;clear e0 e1 e2 e3 el ef;have HC5:=lH (HC4.o.put (j:=a) (by rw [HZL.o];exact HA.o) H3.o);have H5:=lH (HC4.o.keep (j:=a) (x:=v3) (by rw [HZL.o];exact HA.o) H4.o);have HF5:=lH (HF4.o.far4 (i:=a) v3 (show gf≠gc by have:=HG2.o;omega));have HB5:=lH (below_putV (i:=a) (v:=v3) HB4.o HGC.o.1);simp only [putV] at HC5 H5 HF5 HB5;generalize (((w4.setCell ⟨gc,a*4,none⟩ _).setCell ⟨gc,a*4+1,none⟩ _).setCell ⟨gc,a*4+2,none⟩ _).setCell ⟨gc,a*4+3,none⟩ _=w5 at *;clear HC4 HF4 HB4 H3 H4;refine hK.out _ _ ?_ (fun hHeld=>?_)
 ·exact ⟨HB5.o,HF5.o⟩
 clear hK K
 try simp only [Act.put,sA_,sB_,sC_]
 refine takeH 10 (v:=?_) rfl (by kernel_rfl) (fun _ _ _ h=>h) (by rfl) ?_ hHeld ?_;rotate_left 1
 ·intro w' hSw;obtain ⟨-,hsb⟩:=hSw;have hs0:=hsb.cell 0;have hsl:=hsb.lt;clear hsb;go_simp<;>with_reducible rfl
 try simp only [Act.put,sA_,sB_,sC_]
 refine wpAnyH_done (by kernel_rfl) ?_ _;refine lastQ_go (by rfl) ?_;clear hHeld;have HL5:Hid (b<((zrs n1).set a 1).length):=lH (by rw [zU_,HZL.o];exact HB.o);obtain ⟨xe,-,e0,e1,e2,e3,el,ef⟩:=HC5.o.elem (j:=b) (HL5.o)
 go_upto_region 3 with fail
 clear e0 e1 e2 e3 el ef;have HC6:=lH (HC5.o.put (j:=b) HL5.o H5.o);have HF6:=lH (HF5.o.far4 (i:=b) v4 (show gf≠gc by have:=HG2.o;omega));have HB6:=lH (below_putV (i:=b) (v:=v4) HB5.o HGC.o.1);simp only [putV] at HC6 HF6 HB6;generalize (((w5.setCell ⟨gc,b*4,none⟩ _).setCell ⟨gc,b*4+1,none⟩ _).setCell ⟨gc,b*4+2,none⟩ _).setCell ⟨gc,b*4+3,none⟩ _=w6 at *;clear HC5 HF5 HB5 H5 HL5;have HQ6:Hid (RdQ w6 w6.heap.size (some ⟨gc,0,none⟩) n1 (twoF (busN x) a b)):=lH (by have h:=HC6.o.rdq;rw [zU_,zU_,HZL.o] at h;rw [HN1.o];exact h);clear HC6;replace HE:=lH (HE.o.up HB6.o);obtain ⟨zs,hzs⟩:∃ zs,islR x=zs:=⟨_,rfl⟩;have hr1:=HE.o.rd.r1;simp only at hr1;obtain ⟨tb,to2,hA,htb,-⟩:=hr1.2 (by have:=HA.o;omega);subst hA;obtain ⟨ia,hia⟩:∃ ia,(islR x).getD a 0=ia:=⟨_,rfl⟩;obtain ⟨ib,hib⟩:∃ ib,(islR x).getD b 0=ib:=⟨_,rfl⟩
 have fa:=hr1.at_ (i:=a) (z:=ia) (by rw [←hia,zD_,zA_ (by rw [hr1.len];exact HA.o)];rfl);have fb:=hr1.at_ (i:=b) (z:=ib) (by rw [←hib,zD_,zA_ (by rw [hr1.len];exact HB.o)];rfl);rw [hia,hib] at HS;have z7:=HE.o.b7.cell 0;have z7l:=HE.o.b7.lt;have z8:=HE.o.b8.cell 0;have z8l:=HE.o.b8.lt;have z9:=HE.o.b9.cell 0;have z9l:=HE.o.b9.lt;have g1:w6.cell? ⟨g,1,none⟩=some (.slice (some ⟨tb,to2,none⟩) n1 c1):=HE.o.md.cell 1;have gl:=HE.o.md.lt;have k0:=HF6.o.cell 0;have k1:=HF6.o.cell 1;have k2:=HF6.o.cell 2;have k3:=HF6.o.cell 3;have k4:=HF6.o.cell 4;have kl:=HF6.o.lt;clear hzs hr1 hia hib;have HB7:=lH (below_drew (Below.refl w6.heap.size w6));obtain ⟨hs,hsl,hrd,hds⟩:=HE.o.rm.hds;have HSL:=lH hsl;have HRD:=lH hrd;have HDS:=lH hds;clear hsl hrd hds
 by_cases hne:ia=ib
 ·subst hne
  refine wp_region_last (S:=fun w'=>Below w6.heap.size w6 w') 29 _ (by kernel_rfl) (by kernel_rfl) rfl (below_drew bR) (fun hHeld=>?_);simp only [zK_,List.take_zero];refine tkH 0 rfl ?_;refine tkH 1 rfl ?_;refine tkH 2 rfl ?_;refine tkH 3 rfl ?_;refine tkH 4 rfl ?_;refine tkH 5 rfl ?_;refine tkH 6 rfl ?_;refine tkH 7 rfl ?_;refine tkH 8 rfl ?_;refine tkH 9 rfl ?_;refine tkH 10 rfl ?_;refine tkH 11 rfl ?_;refine tkH 12 rfl ?_;refine tkH 13 rfl ?_;refine tkH 14 rfl ?_;refine tkH 15 rfl ?_;refine tkH 16 rfl ?_;refine tkH 17 rfl ?_;refine tkH 18 rfl ?_;refine tkH 20 rfl ?_;refine tkH 21 rfl ?_;refine tkH 26 rfl ?_;refine stepH 19 (by kernel_rfl) rfl (fun K hK=>?_);refine ite_go (by rfl) ?_
  refine wp_appRows (.const (.slice none 0 0)) (.tmp 41) 92 rfl w6.heap.size Tryz.underlying92 (.slice none 0 0) [] rfl (ownS_none _ _ _ _ _) A n c hs HSL.o rfl (HRD.o.below HB7.o lR) ?k3 lR n ?k4 ?_
  case k3=>simp only [zW_];omega
  case k4=>exact HSL.o
  intro Ap cp w7 ho7 hb7 _;have HO7:Hid (OwnS NoI w7 w6.heap.size 93 1 (.slice Ap n cp) hs.length (hs.map Hd.val)):=lH ho7;have HB7b:Hid (Below w6.heap.size w6 w7):=lH (HB7.o.trans hb7);clear ho7 hb7;refine hK.out _ _ ?_ (fun hHeld=>?_)
  ·exact HB7b.o
  clear hK K
  try simp only [Act.put,sA_,sB_,sC_]
  refine stepH 22 (by kernel_rfl) rfl (fun K hK=>?_);go_simp;have HE7:=HE.o.up HB7b.o;refine (orow_any g ⟨A0,n0,c0,some ⟨tb,to2,none⟩,n1,c1,A2,n2,c2,A3,n3,c3,A4,n4,c4,A5,n5,c5,A6,n6,c6⟩ y x HOK.o h8 ⟨false,none,0,0,false,none,0,0⟩ (some ⟨gc,0,none⟩) n1 n1 (twoF (busN x) a b) w7 HE7.md HE7.rd (HQ6.o.up HB7b.o) HN1.o.symm).mono ?_;rintro e w8 ⟨hb8,B8,v8,us,hB8,rfl,hown⟩;obtain ⟨Ar,cr,hv,-⟩:=hown.rd;subst hv;have hrl:(rowR x (twoF (busN x) a b)).length=(freeL x).length:=rowR_len;rw [hrl] at hown ⊢;have HO8:=lH (HO7.o.keep hb8);have HB8:Hid (Below w6.heap.size w6 w8):=lH (HB7b.o.tm hb8);have HW8:=lH hown;clear hb8 hB8 hown HE7 hrl HO7;go_simp;refine hK.out _ _ ?_ (fun hHeld=>?_)
  ·exact HB8.o
  clear hK K
  try simp only [Act.put,sA_,sB_,sC_]
  refine stepH 23 (by kernel_rfl) rfl (fun K hK=>?_);go_simp;have hz9:Below w8.heap.size w8 (w8.alloc (.cells #[.slice Ar (freeL x).length cr] 93)):=bA;have HO9:=lH (HO8.o.keep hz9);have HW9:=lH (HW8.o.keep hz9);have HB9:=lH (HB8.o.tm hz9);have HL9:=lH (Blk.new w8 93 #[.slice Ar (freeL x).length cr]);clear hz9 HO8 HW8 HB8;generalize w8.heap.size=gl9 at *;generalize w8.alloc (.cells #[.slice Ar (freeL x).length cr] 93)=w9 at *;refine hK.out _ _ ?_ (fun hHeld=>?_)
  ·exact HB9.o
  clear hK K
  try simp only [Act.put,sA_,sB_,sC_]
  refine stepH 24 (by kernel_rfl) rfl (fun K hK=>?_);refine ite_go (by rfl) ?_;refine wp_appRows (.tmp 42) (.tmp 46) 92 rfl w6.heap.size Tryz.underlying92 (.slice Ap n cp) hs rfl HO9.o (some ⟨gl9,0,none⟩) 1 1 [⟨Ar,(freeL x).length,cr⟩] rfl rfl ?k2 ?k3 ?k5 (n+1) ?k4 ?_
  case k2=>exact ⟨rfl,fun _=>⟨gl9,0,rfl,HL9.o.lt,fun j u hu=>by rw [Nat.zero_add,HL9.o.cell j];simpa [Hd.val] using hu⟩⟩
  case k3=>have:=HSL.o;omega
  case k5=>exact HB9.o.size
  case k4=>rw [zE_,HSL.o];rfl
  intro Ax cx w10 ho10 hb10 hk10;have HB10:Hid (Below w6.heap.size w6 w10):=lH (HB9.o.trans hb10);have hw10:=HW9.o.blkS hk10;obtain ⟨Ay,cy,hv,hq,hc1,hc2,-⟩:=hw10.rd;injection hv with e1 e2 e3;subst e1;subst e3;rw [←e2] at hq hc1;have hd:=(HDS.o.up HB10.o).snoc (z:=⟨Ar,(freeL x).length,cr⟩) ⟨hq,hc1,hc2⟩;have HM10:=lH (hd.rdM2 bR ho10).1;clear ho10 hb10 hk10 hw10 hq hc1 hc2 e2 hd HW9 HO9 HL9 HB9;refine hK.out _ _ ?_ (fun hHeld=>?_)
  ·exact HB10.o
  clear hK K
  try simp only [Act.put,sA_,sB_,sC_]
  refine stepH 25 (by kernel_rfl) rfl (fun K hK=>?_);go_simp;refine (rank_m Ax (n+1) cx _ _ _ w10 HM10.o (HRK.o.snoc rowR_len twoF_sz (by have:=HE.o.rm.len;omega))).mono ?_;rintro e w11 ⟨rfl,hb11⟩;have HB11:Hid (Below w6.heap.size w6 w11):=lH (HB10.o.tm hb11);clear hb11;obtain ⟨r1,hr1⟩:∃ r1,rankR (M++[rowR x (twoF (busN x) a b)])=r1:=⟨_,rfl⟩;rw [hr1] at HS ⊢;go_simp;refine hK.out _ _ ?_ (fun hHeld=>?_)
  ·exact HB11.o
  clear hK K
  try simp only [Act.put,sA_,sB_,sC_]
  refine tkH 27 rfl ?_;refine tkH 28 rfl ?_;refine wpAnyH_done (by kernel_rfl) ?_ _;refine lastQ_go (by rfl) ?_;clear hHeld;generalize hr0:rankR M=r0 at HS ⊢;clear hr0 hr1
  by_cases hq:r1=r0
  ·subst hq
   go_wp2_with fail
   go_ret;exact ⟨ret_bool (by rw [HS.o];simp),HB6.o.tm HB11.o⟩
  ·have hqB:((r1:Int) == (r0:Int))=false:=by simp;omega
   go_wp2_with fail
   go_ret;exact ⟨ret_bool (by rw [HS.o,decide_eq_false hq];simp),HB6.o.tm HB11.o⟩
 ·have hneB:(ia == ib)=false:=by simpa using hne
  refine wp_region_last (S:=fun w'=>Below w6.heap.size w6 w') 29 _ (by kernel_rfl) (by kernel_rfl) rfl (below_drew bR) (fun hHeld=>?_);simp only [zK_,List.take_zero];refine tkH 0 rfl ?_;refine tkH 1 rfl ?_;refine tkH 2 rfl ?_;refine tkH 3 rfl ?_;refine tkH 4 rfl ?_;refine tkH 5 rfl ?_;refine tkH 6 rfl ?_;refine tkH 7 rfl ?_;refine tkH 8 rfl ?_;refine tkH 9 rfl ?_;refine tkH 10 rfl ?_;refine tkH 11 rfl ?_;refine tkH 12 rfl ?_;refine tkH 13 rfl ?_;refine tkH 14 rfl ?_;refine tkH 15 rfl ?_;refine tkH 16 rfl ?_;refine tkH 17 rfl ?_;refine skipH 18 rfl (by kernel_rfl) (fun _ _ _ h=>h) (by rfl) hHeld ?_
  try simp only [Act.put,sA_,sB_,sC_]
  refine skipH 19 rfl (by kernel_rfl) (fun _ _ _ h=>h) (by rfl) hHeld ?_
  try simp only [Act.put,sA_,sB_,sC_]
  refine skipH 20 rfl (by kernel_rfl) (fun _ _ _ h=>h) (by rfl) hHeld ?_
  try simp only [Act.put,sA_,sB_,sC_]
  refine skipH 21 rfl (by kernel_rfl) (fun _ _ _ h=>h) (by rfl) hHeld ?_
  try simp only [Act.put,sA_,sB_,sC_]
  refine skipH 22 rfl (by kernel_rfl) (fun _ _ _ h=>h) (by rfl) hHeld ?_
  try simp only [Act.put,sA_,sB_,sC_]
  refine skipH 23 rfl (by kernel_rfl) (fun _ _ _ h=>h) (by rfl) hHeld ?_
  try simp only [Act.put,sA_,sB_,sC_]
  refine skipH 24 rfl (by kernel_rfl) (fun _ _ _ h=>h) (by rfl) hHeld ?_
  try simp only [Act.put,sA_,sB_,sC_]
  refine skipH 25 rfl (by kernel_rfl) (fun _ _ _ h=>h) (by rfl) hHeld ?_
  try simp only [Act.put,sA_,sB_,sC_]
  refine skipH 26 rfl (by kernel_rfl) (fun _ _ _ h=>h) (by rfl) hHeld ?_
  try simp only [Act.put,sA_,sB_,sC_]
  refine skipH 27 rfl (by kernel_rfl) (fun _ _ _ h=>h) (by rfl) hHeld ?_
  try simp only [Act.put,sA_,sB_,sC_]
  refine tkH 28 rfl ?_;refine wpAnyH_done (by kernel_rfl) ?_ _;refine lastQ_go (by rfl) ?_;clear hHeld
  go_wp2_with fail
  go_ret;exact ⟨ret_bool (by rw [HS.o,decide_eq_false hne];rfl),below_drew HB6.o⟩
def AreaP (x:Net) (ms:List Mi) (w:World) (e:Ending) (w':World):Prop:=Below w.heap.size w w'∧((mtCk x ms≠0∧e=.returned (.tuple #[.slice none 0 0,.int .i64 (mtCk x ms)]))∨(mtCk x ms=0∧∃ A c,e=.returned (.tuple #[.slice A (busN x) c,.int .i64 0])∧RdI w' w'.heap.size A (busN x) (natJ (areaR x (rowsR x ms)))))
theorem arR_many_old {S:Nat→Nat→Bool} {b a:Nat} (hf:(List.range b).find? (fun a=>S a b)=some a):(arR S (b+1)).2=(arR S b).2:=by rw [arR_succ,hf]
theorem arR_many_le (S:Nat→Nat→Bool) (b:Nat):(arR S b).2≤b:=by
 rw [arR_cnt];unfold cnt;exact zI_ (List.length_filter_le _ _) (by rw [List.length_range];exact lR)
theorem ArS.fin {S:Nat→Nat→Bool} {nb:Nat} {L:List Int} (h:ArS S nb nb L):L=natJ (arR S nb).1:=by
 have hl:=arR_len S nb;apply List.ext_getElem?;intro k;unfold natJ;rw [zM_]
 by_cases hk:k<nb
 ·have:=h.at_ k hk
  rw [zD_,zD_,zA_ (by rw [h.len];exact hk),zA_ (l:=(arR S nb).1) (by omega)] at this;rw [zA_ (by rw [h.len];exact hk),zA_ (by omega)];simpa using this
 ·rw [List.getElem?_eq_none (by rw [h.len];omega),List.getElem?_eq_none (by omega)];rfl
theorem find_first {S:Nat→Bool} {b a:Nat} (ha:a<b) (h:∀ k,k<a→S k=false) (hs:S a=true):(List.range b).find? S=some a:=by
 induction b with
 | zero=>omega
 | succ b ih=>
  rw [List.range_succ,List.find?_append]
  by_cases hab:a<b
  ·rw [ih hab];rfl
  ·have e:a=b:=by omega
   subst e;rw [List.find?_eq_none.2 fun k hk=>by rw [h k (List.mem_range.1 hk)];simp];simp [hs]
theorem find_no {S:Nat→Bool} {b:Nat} (h:∀ k,k<b→S k=false):(List.range b).find? S=none:=by
 rw [List.find?_eq_none];intro k hk;rw [h k (List.mem_range.1 hk)];simp
theorem areas_any (h:NetH) (x:Net) (h8:x.nodes.length≤8) (A:Option Addr) (n c:Nat) (ms:List Mi) (w:World) (r:RdNet w w.heap.size h x) (hm:RdMi w w.heap.size A n ms) (hz:∀ m∈ms,m.txt.size≤maxLen) (hn:n≤9223372036854775807) (ht:TabOk w) :
    Calls Tryz.prog 79 #[.agg h.cells,.slice A n c] w (AreaP x ms w):=by
 have K0:Below w.heap.size w (w.alloc (.cells h.cells 29)):=bA;have HK:=lH K0;have P0:=lH (Blk.new w 29 h.cells);have HX:=lH (r.up K0);have HM:=lH (hm.bm K0);have HML:Hid (ms.length=n):=lH hm.1;have HSZ:Hid (w.heap.size≤(w.alloc (.cells h.cells 29)).heap.size):=lH K0.size;have HCK:=lH (mcheck_any h x A n c ms (w.alloc (.cells h.cells 29)) HX.o HM.o hz hn (ht.up K0));have HCP:Hid (∀ e w',AreaP x ms w e w'↔(Below w.heap.size w w'∧((mtCk x ms≠0∧e=.returned (.tuple #[.slice none 0 0,.int .i64 (mtCk x ms)]))∨(mtCk x ms=0∧∃ A c,e=.returned (.tuple #[.slice A (busN x) c,.int .i64 0])∧RdI w' w'.heap.size A (busN x) (natJ (areaR x (rowsR x ms))))))):=lH fun e w'=>Iff.rfl;have HMO:Hid (mtCk x ms=0→NetOk x∧ms.length≤64∧∀ m∈ms,MiOk x m):=lH mtCk_ok;generalize mtCk x ms=ck at *;clear K0 hm r hz ht
 obtain ⟨D0,r0,s0,D1,r1,s1,D2,r2,s2,D3,r3,s3,D4,r4,s4,D5,r5,s5⟩:=h;obtain ⟨y0,y1,y2,y3,y4,y5,nf,nlt⟩:=net_box P0.o;dsimp only at y0 y1 y2 y3 y4 y5;go_enter Tryz.func79,Tryz.ntmps79
 go_wp2_with fail
 generalize w.alloc (.cells (NetH.cells ⟨D0,r0,s0,D1,r1,s1,D2,r2,s2,D3,r3,s3,D4,r4,s4,D5,r5,s5⟩) 29)=W at *;refine HCK.o.mono ?_;rintro e w1 ⟨rfl,hb1⟩;have HB1:=lH hb1;clear hb1 y0 y1 y2 y3 y4 y5 nf nlt HCK
 by_cases hck:ck=0
 ·subst hck
  obtain ⟨ok,hl,hmi⟩:=HMO.o rfl;have HOK:=lH ok;have HL:=lH hl;have HMI:=lH hmi;clear ok hl hmi HMO;have P1:=P0.o.bl HB1.o;obtain ⟨y0,y1,y2,y3,y4,y5,nf,nlt⟩:=net_box P1;dsimp only at y0 y1 y2 y3 y4 y5;clear P1
  go_wp2_with fail
  refine (flowOf_any _ x HOK.o h8 w1 (HX.o.up HB1.o)).mono ?_;rintro e w2 ⟨hb2,g,m,A7,n7,c7,rfl,hg,hblk,hrd,-⟩;have HB2:=lH (HB1.o.tm hb2);have HG:=lH hblk;have HR:=lH hrd;clear hb2 hg hblk hrd y0 y1 y2 y3 y4 y5 nf nlt;have hz3:Below w2.heap.size w2 (w2.alloc (.cells #[.pointer (some ⟨g,0,none⟩)] 90)):=bA;have H7:=lH (Blk.new w2 90 #[.pointer (some ⟨g,0,none⟩)]);have HB3:=lH (HB2.o.tm hz3);replace HG:=lH (HG.o.bl hz3);replace HR:=lH (HR.o.up hz3);clear hz3 HB2
  go_upto_region 5 with fail
  generalize w2.heap.size=p7 at *;generalize w2.alloc (.cells #[.pointer (some ⟨g,0,none⟩)] 90)=w3 at *;have P1:=P0.o.bl HB3.o;obtain ⟨y0,y1,y2,y3,y4,y5,nf,nlt⟩:=net_box P1;dsimp only at y0 y1 y2 y3 y4 y5;have z7:=H7.o.cell 0;have z7l:=H7.o.lt;clear P1
  go_wp2_with fail
  refine (orows_any _ x HOK.o h8 g m _ A n c ms w3 (HX.o.up HB3.o) HG.o HR.o (HM.o.bm HB3.o) (by have:=HL.o;have:=HML.o;omega) HMI.o).mono ?_;rintro e w4 ⟨hb4,A8,c8,rfl,hrm,hc1,hc2⟩;have HRM:=lH hrm;have HC1:=lH hc1;have HC2:=lH hc2;have HRK:=lH (rk_ok HOK.o h8 HL.o HMI.o);clear hrm hc1 hc2 y0 y1 y2 y3 y4 y5 nf nlt z7 z7l HM HX P0;generalize rowsR x ms=M at *;generalize ms.length=q at *;have hz5:Below w4.heap.size w4 (w4.alloc (.cells #[.slice A8 q c8] 92)):=bA;have H8:=lH (Blk.new w4 92 #[.slice A8 q c8]);have hz6:=hb4.tm hz5;have HB5:=lH (HB3.o.tm hz6);replace HG:=lH (HG.o.bl hz6);replace HR:=lH (HR.o.up hz6);replace H7:=lH (H7.o.bl hz6);replace HRM:=lH (HRM.o.up hz5);clear hz5 hz6 HB3 hb4
  go_upto_region 6 with fail
  generalize w4.heap.size=p8 at *;generalize w4.alloc (.cells #[.slice A8 q c8] 92)=w5 at *;have z8:=H8.o.cell 0;have z8l:=H8.o.lt
  go_wp2_with fail
  refine (rank_m A8 q c8 _ _ _ w5 HRM.o HRK.o).mono ?_;rintro e w6 ⟨rfl,hb6⟩;clear z8 z8l;have hz7:Below w6.heap.size w6 (w6.alloc (.cells #[.int .i64 (rankR M:Int)] 3)):=bA;have H9:=lH (Blk.new w6 3 #[.int .i64 (rankR M:Int)]);have hz8:=hb6.tm hz7;have HB7:=lH (HB5.o.tm hz8);replace HG:=lH (HG.o.bl hz8);replace HR:=lH (HR.o.up hz8);replace H7:=lH (H7.o.bl hz8);replace H8:=lH (H8.o.bl hz8);replace HRM:=lH (HRM.o.up hz8);clear hz7 hz8 HB5 hb6
  go_upto_region 8 with fail
  generalize w6.heap.size=p9 at *;generalize w6.alloc (.cells #[.int .i64 (rankR M:Int)] 3)=w7 at *;have HE:Hid (SEnv w7 p7 p8 p9 g m _ x A8 q c8 M):=lH ⟨H7.o,H8.o,H9.o,HG.o,HR.o,HRM.o⟩;have HN1:Hid (busN x=m.n1):=lH (by rw [←islR_len HOK.o];exact HR.o.r1.len);have HNB:Hid (busN x≤8):=lH (zI_ (busN_ok HOK.o).2 h8);clear H8 H9 HR HRM;have z7:=H7.o.cell 0;have z7l:=H7.o.lt
  go_wp2_with fail
  refine (mbuses_any g m _ w7 HG.o).mono ?_;rintro e w8 ⟨rfl,rfl⟩;clear z7 z7l H7 HG;rw [←HN1.o];have HAR:Hid (areaR x M=(arR (sameQ x M) (busN x)).1):=lH rfl;have HSM:Hid (∀ (wr:World) (a b:Nat),Below w7.heap.size w7 wr→a<busN x→b<busN x→Calls Tryz.prog 122 #[.int .i64 (a:Int),.int .i64 (b:Int),.pointer (some ⟨p7,0,none⟩),.pointer (some ⟨p8,0,none⟩),.pointer (some ⟨p9,0,none⟩)] wr fun e w'=>e=.returned (.bool (sameQ x M a b))∧Below wr.heap.size wr w'):=lH fun wr a b hb ha hb'=>same_any (HE.o.up hb) HOK.o h8 HRK.o (by have:=HL.o;omega) a b ha hb';generalize sameQ x M=S at *;generalize busN x=nb at *;have hnb8:nb≤8:=HNB.o;have hmk:∀ w:World,(Instr.makeSlice 30 (.int .i64 (nb:Int)) (.int .i64 (nb:Int))).run Tryz.prog w=.ok (.slice (some ⟨w.heap.size,0,none⟩) nb nb) (w.alloc (.cells (madeCells #[.int .i64 0] nb) 3)):=
   fun w=>run_make_row' (P:=Tryz.prog) 30 3 (.int .i64 0) 8 Tryz.underlying30 infoIn rfl .i64 .i64 nb (by omega) (by omega) w
  have hz9:Below w7.heap.size w7 (w7.alloc (.cells (madeCells #[.int .i64 0] nb) 3)):=bA;have HB9:=lH hz9;have HG9:Hid (Blk (w7.alloc (.cells (madeCells #[.int .i64 0] nb) 3)) w7.heap.size 3 (ints (List.replicate nb 0)).toArray):=lH (by
   have h:=Blk.new w7 3 (madeCells #[.int .i64 0] nb);have e:madeCells #[.int .i64 0] nb=(ints (List.replicate nb 0)).toArray:=by
    apply Array.ext';rw [toList_madeCells_one];unfold ints;simp
   rw [e] at h ⊢;exact h)
  clear hz9
  go_wp2_with fail
  clear hmk;have HGO:Hid (w.heap.size≤w7.heap.size∧W.heap.size≤w7.heap.size):=lH ⟨zI_ HSZ.o HB7.o.size,HB7.o.size⟩;generalize w7.alloc (.cells (madeCells #[.int .i64 0] nb) 3)=w9 at *;generalize w7.heap.size=go at *
  go_loopw [12,35] (fun v12 v35 wr=>∃ (b:Nat) (L:List Int),b≤nb∧v35=.int .i64 b∧v12=.int .i64 ((arR S b).2:Nat)∧ArS S nb b L∧Blk wr go 3 (ints L).toArray∧Below go w7 wr) (fun _ v35 _=>nb-(intOf v35).toNat)
  case atStart=>exact ⟨0,_,by omega,rfl,rfl,ArS.start _ _,HG9.o,HB9.o⟩
  case round=>
   obtain ⟨b,L,hb,rfl,rfl,hars,hblk,hbw⟩:=hrel;have HAS:=lH hars;have HBL:=lH hblk;have HBW:=lH hbw;have HMB:=lH (arR_many_le S b);clear hars hblk hbw
   by_cases hlt:b<nb
   ·have HNX:=lN b
    have HNM:Hid (nb-(b+1)<nb-b):=lH (by omega);have HLT:=lH hlt;have hbI:(b:Int)<(nb:Int):=by omega
    have hb0:=lZ b
    have hbn:=zL_ b;obtain ⟨x0,hx0⟩:∃ x0,L[b]?=some x0:=zX_ (by rw [HAS.o.len];exact hlt);have zc:wr.cell? ⟨go,b,none⟩=some (.int .i64 x0):=by rw [HBL.o.cell,List.getElem?_toArray];unfold ints;rw [zM_,hx0];rfl
    have zl:=HBL.o.lt;have zf:=HBL.o.frozen;have HSET:Hid (∀ (W2:World) (z1 z2:Int),Blk W2 go 3 (ints (L.set b z1)).toArray→Blk (W2.setCell ⟨go,b,none⟩ (.int .i64 z2)) go 3 (ints (L.set b z2)).toArray):=lH fun W2 z1 z2 h=>by
     have h2:=h.set_ b (.int .i64 z2);have e:(ints (L.set b z1)).toArray.setIfInBounds b (.int .i64 z2)=(ints (L.set b z2)).toArray:=by
      unfold ints;rw [List.setIfInBounds_toArray,List.map_set,List.map_set,List.set_set]
     rw [e] at h2;exact h2
    have HB1:Hid (Blk (wr.setCell ⟨go,b,none⟩ (.int .i64 (-1))) go 3 (ints (L.set b (-1))).toArray):=lH (by
     have h2:=HBL.o.set_ b (.int .i64 (-1));have e:(ints L).toArray.setIfInBounds b (.int .i64 (-1))=(ints (L.set b (-1))).toArray:=by
      unfold ints;rw [List.setIfInBounds_toArray,List.map_set]
     rw [e] at h2;exact h2)
    have HW1:Hid (Below go w7 (wr.setCell ⟨go,b,none⟩ (.int .i64 (-1)))):=lH (HBW.o.setCell lR _);clear hx0
    go_upto_block 2 with fail
    clear zc zl zf HBL HBW hbI;generalize wr.setCell ⟨go,b,none⟩ (.int .i64 (-1))=wa at *
    go_cut [] (fun wc=>∃ z:Int,Blk wc go 3 (ints (L.set b z)).toArray∧Below go w7 wc∧((∃ a,(List.range b).find? (fun a=>S a b)=some a∧z=L.getD a 0)∨((List.range b).find? (fun a=>S a b)=none∧z=-1)))
    case first=>
     go_wp2_with fail
     go_loopw [42] (fun v42 wr=>∃ a:Nat,a≤b∧v42=.int .i64 a∧(∀ k,k<a→S k b=false)∧Blk wr go 3 (ints (L.set b (-1))).toArray∧Below go w7 wr) (fun v42 _=>b-(intOf v42).toNat)
     case atStart=>exact ⟨0,by omega,rfl,fun k h=>by omega,HB1.o,HW1.o⟩
     case round=>
      clear HB1 HW1;obtain ⟨a,ha,rfl,hs,hblk,hbw⟩:=hrel;have HS:=lH hs;have HB1:=lH hblk;have HW1:=lH hbw;clear hs hblk hbw
      by_cases hlt2:a<b
      ·have haI:(a:Int)<(b:Int):=by omega
       have HNY:=lN a;have HNZ:Hid (b-(a+1)<b-a):=lH (by omega);have HLA:=lH hlt2
       go_wp2_with fail
       refine (HSM.o wr a b HW1.o (by omega) (by omega)).mono ?_;rintro e w10 ⟨rfl,hb10⟩;have HB2:=lH (HB1.o.bl hb10);have HW2:Hid (Below go w7 w10):=lH (HW1.o.trans (hb10.mono (zQ_ HB1.o.lt)));clear hb10 HB1 HW1;cases hsab:S a b with
       | true=>
        obtain ⟨x1,hx1⟩:∃ x1,L.getD a 0=x1:=⟨_,rfl⟩;have HX1:=lH hx1;have HFD:=lH (find_first (S:=fun a=>S a b) hlt2 HS.o hsab);have zb:w10.cell? ⟨go,b,none⟩=some (.int .i64 (-1)):=by rw [HB2.o.cell,List.getElem?_toArray];unfold ints;rw [zM_,List.getElem?_set,if_pos rfl,if_pos (by rw [HAS.o.len];omega)];rfl
        have za:w10.cell? ⟨go,a,none⟩=some (.int .i64 x1):=by
         rw [HB2.o.cell,List.getElem?_toArray];unfold ints;rw [zM_,List.getElem?_set,if_neg (by omega),←hx1,zD_,zA_ (by rw [HAS.o.len];omega)];rfl
        have zl:=HB2.o.lt;have zf:=HB2.o.frozen;have hbI:(b:Int)<(nb:Int):=by omega
        have haJ:(a:Int)<(nb:Int):=by omega
        have ha0:=lZ a
        have han:=zL_ a;clear hx1 hsab
        go_wp2_with fail
        clear zb za zl zf;go_meet
        case rel=>exact ⟨x1,HSET.o _ _ _ HB2.o,HW2.o.setCell lR _,.inl ⟨a,HFD.o,HX1.o.symm⟩⟩
       | false=>
        have HSN:Hid (∀ k,k<a+1→S k b=false):=lH fun k hk=>by
         by_cases h:k<a
         ·exact HS.o k h
         ·have:k=a:=by omega
          rw [this];exact hsab
        clear hsab
        go_wp2_with fail
        go_roundw
        case rel=>exact ⟨a+1,hlt2,val_int HNY.o,HSN.o,HB2.o,HW2.o⟩
        case measure=>exact HNZ.o
      ·have hab:a=b:=by omega
       subst hab;have haI:¬(a:Int)<(a:Int):=by omega
       have HFD:=lH (find_no (S:=fun k=>S k a) HS.o)
       go_wp2_with fail
       go_meet
       case rel=>exact ⟨-1,HB1.o,HW1.o,.inr ⟨HFD.o,rfl⟩⟩
    case rest=>
     obtain ⟨z,hblk,hbw,hor⟩:=hcut;clear HB1 HW1;have HB2:=lH hblk;have HW2:=lH hbw;have zb:wc.cell? ⟨go,b,none⟩=some (.int .i64 z):=by rw [HB2.o.cell,List.getElem?_toArray];unfold ints;rw [zM_,List.getElem?_set,if_pos rfl,if_pos (by rw [HAS.o.len];exact HLT.o)];rfl
     have zl:=HB2.o.lt;have zf:=HB2.o.frozen;have hbI:(b:Int)<(nb:Int):=by have:=HLT.o;omega
     clear hblk hbw;rcases hor with ⟨a,hfd,hz⟩ | ⟨hfd,hz⟩
     ·have ha:a<b:=by simpa using List.mem_of_find?_eq_some hfd
      have hge:¬z<0:=by have:=HAS.o.at_ a ha;omega
      have HA2:Hid (ArS S nb (b+1) (L.set b z)):=lH (by rw [hz];exact HAS.o.old HLT.o hfd);have HM2:=lH (arR_many_old hfd);clear hfd hz ha
      go_wp2_with fail
      clear zb zl zf;go_roundw
      case rel=>exact ⟨b+1,_,HLT.o,val_int HNX.o,by rw [HM2.o],HA2.o,HB2.o,HW2.o⟩
      case measure=>exact HNM.o
     ·have hlt0:z<0:=by omega
      obtain ⟨hA2,hM2⟩:=HAS.o.new HLT.o hfd;have HA2:=lH hA2;have HM2:=lH hM2;clear hfd hA2 hM2;obtain ⟨mm,hmm⟩:∃ mm,(arR S b).2=mm:=⟨_,rfl⟩;rw [hmm] at HA2 HM2 HMB ⊢;have hmb:mm≤8:=by have:=HMB.o;omega
      have HMX:=lN mm;clear hmm
      go_wp2_with fail
      clear zb zl zf;go_roundw
      case rel=>exact ⟨b+1,_,HLT.o,val_int HNX.o,by rw [HM2.o];exact val_int HMX.o,HA2.o,HSET.o _ _ _ HB2.o,HW2.o.setCell lR _⟩
      case measure=>exact HNM.o
   ·have hke:b=nb:=by omega
    subst hke;have hkI:¬(b:Int)<(b:Int):=by omega
    have HFI:=lH HAS.o.fin
    go_wp2_with fail
    go_ret2;rw [HCP.o];refine ⟨HK.o.trans ((HB7.o.trans (HBW.o.mono HGO.o.2)).mono HSZ.o),.inr ⟨by trivial,some ⟨go,0,none⟩,b,rfl,?_⟩⟩;rw [HAR.o,←HFI.o];have hl:=HAS.o.len;exact ⟨by unfold ints;rw [zG_,hl,Nat.mul_one],fun _=>⟨go,0,rfl,HBL.o.lt,fun j u hu=>by rw [Nat.zero_add,HBL.o.cell j];simpa using hu⟩⟩
 ·have hckB:(ck != 0)=true:=by simp [hck]
  go_wp2_with fail
  go_ret2;rw [HCP.o];exact ⟨HK.o.trans (HB1.o.mono HSZ.o),.inl ⟨hck,rfl⟩⟩
def pnL:List Mi:=[⟨0,⟨#[76]⟩,⟨#[48]⟩,1⟩,⟨0,⟨#[77]⟩,⟨#[48]⟩,1⟩,⟨0,⟨#[76]⟩,⟨#[49]⟩,1⟩]
theorem pn_rank:rankA pnNet pnL=(2,2,0):=by decide+kernel
theorem pn_ck:mtCk pnNet pnL=0∧mtCk pnNet (pnL.take 1)=0:=by decide+kernel
theorem pn_crit:critR (rowsR pnNet pnL)=[1]:=by decide+kernel
theorem pn_area:areaR pnNet (rowsR pnNet (pnL.take 1))=[0,0,1]∧busN pnNet=3:=by decide+kernel
theorem pn_obs:obsA pnNet pnL=true:=by decide+kernel
theorem pn_sz:∀ m∈pnL,m.txt.size≤maxLen:=by decide+kernel
theorem pn_sz1:∀ m∈pnL.take 1,m.txt.size≤maxLen:=fun m hm=>pn_sz m (List.mem_of_mem_take hm)
theorem oworks_any (w:World) (ht:TabOk w):Calls Tryz.prog 37 #[] w fun e w'=>e=.returned (.bool true)∧Below w.heap.size w w':=by
 have HT:=lH ht;clear ht;go_enter Tryz.func37,Tryz.ntmps37
 go_wp2_with fail
 refine (flowMeter_any ⟨#[76]⟩ ⟨#[48]⟩ w).mono ?_;rintro e w1 ⟨rfl,hb1⟩
 go_wp2_with fail
 refine (flowMeter_any ⟨#[77]⟩ ⟨#[48]⟩ w1).mono ?_;rintro e w2 ⟨rfl,hb2⟩
 go_wp2_with fail
 refine (flowMeter_any ⟨#[76]⟩ ⟨#[49]⟩ w2).mono ?_;rintro e w3 ⟨rfl,hb3⟩;have HB3:=lH (hb1.trans ((hb2.tm hb3).mono hb1.size));clear hb1 hb2 hb3
 go_upto_region 2 with fail
 have hz:Below w3.heap.size w3 (w3.alloc (.cells #[.int .i64 0,.string ⟨#[76]⟩,.string ⟨#[48]⟩,.int .i64 1,.int .i64 0,.string ⟨#[77]⟩,.string ⟨#[48]⟩,.int .i64 1,.int .i64 0,.string ⟨#[76]⟩,.string ⟨#[49]⟩,.int .i64 1] 57)):=bA;have HB4:=lH (HB3.o.tm hz);have HM4:Hid (RdMi (w3.alloc (.cells #[.int .i64 0,.string ⟨#[76]⟩,.string ⟨#[48]⟩,.int .i64 1,.int .i64 0,.string ⟨#[77]⟩,.string ⟨#[48]⟩,.int .i64 1,.int .i64 0,.string ⟨#[76]⟩,.string ⟨#[49]⟩,.int .i64 1] 57)) (w3.alloc (.cells #[.int .i64 0,.string ⟨#[76]⟩,.string ⟨#[48]⟩,.int .i64 1,.int .i64 0,.string ⟨#[77]⟩,.string ⟨#[48]⟩,.int .i64 1,.int .i64 0,.string ⟨#[76]⟩,.string ⟨#[49]⟩,.int .i64 1] 57)).heap.size (some ⟨w3.heap.size,0,none⟩) 3 pnL):=lH ⟨rfl,rd_lit (vs:=pnL.flatMap Mi.cells) (T:=57) (Blk.new w3 _ _) rfl (by simp)⟩;clear hz HB3
 generalize w3.alloc (.cells #[.int .i64 0,.string ⟨#[76]⟩,.string ⟨#[48]⟩,.int .i64 1,.int .i64 0,.string ⟨#[77]⟩,.string ⟨#[48]⟩,.int .i64 1,.int .i64 0,.string ⟨#[76]⟩,.string ⟨#[49]⟩,.int .i64 1] 57)=w4 at *;generalize w3.heap.size=gl at *;have HT4:=lH (HT.o.up HB4.o)
 go_wp2_with fail
 refine (pairNet_any w4).mono ?_;rintro e w5 ⟨h5,rfl,hr5,hb5⟩;have HB5:=lH (HB4.o.tm hb5);have HM5:=lH (HM4.o.bm hb5);have HR5:=lH hr5;have HT5:=lH (HT.o.up HB5.o);clear hb5 hr5 HB4 HM4 HT4
 go_wp2_with fail
 refine (orank_any h5 pnNet (by decide) _ 3 3 pnL w5 HR5.o HM5.o pn_sz (by decide) HT5.o).mono ?_;rintro e w6 ⟨rfl,hb6⟩;have HB6:=lH (HB5.o.tm hb6);have HM6:=lH (HM5.o.bm hb6);rw [pn_rank];clear hb6 HB5 HM5 HR5 HT5
 go_wp2_with fail
 refine (pairNet_any w6).mono ?_;rintro e w7 ⟨h7,rfl,hr7,hb7⟩;have HB7:=lH (HB6.o.tm hb7);have HM7:=lH (HM6.o.bm hb7);have HR7:=lH hr7;have HT7:=lH (HT.o.up HB7.o);clear hb7 hr7 HB6 HM6
 go_wp2_with fail
 refine (crit_any h7 pnNet (by decide) _ 3 3 pnL w7 HR7.o HM7.o pn_sz (by decide) HT7.o).mono ?_;rintro e w8 ⟨hb8,hh⟩;rw [pn_ck.1,pn_crit] at hh;rcases hh with ⟨h0,_⟩ | ⟨_,A8,c8,rfl,hrd8⟩
 ·exact absurd rfl h0
 have HB8:=lH (HB7.o.tm hb8);have HM8:=lH (HM7.o.bm hb8);have HI8:Hid (RdI w8 w8.heap.size A8 1 [1]):=lH hrd8;clear hb8 hrd8 HB7 HM7 HR7 HT7;simp only [zV_,zW_,Nat.zero_add]
 go_upto_region 4 with fail
 have HM9:Hid (RdMi w8 w8.heap.size (some ⟨gl,0,none⟩) 1 (pnL.take 1)):=lH (HM8.o.take (m:=1) (by decide));have HB9:=lH (below_drew (Below.refl w8.heap.size w8));refine wp_region_last (S:=fun w'=>Below w8.heap.size w8 w') 8 _ (by kernel_rfl) (by kernel_rfl) rfl (below_drew bR) (fun hHeld=>?_);simp only [zK_,List.take_zero];refine tkH 1 rfl ?_;refine tkH 2 rfl ?_;refine stepH 0 (by kernel_rfl) rfl (fun K hK=>?_);go_simp;refine (pairNet_any w8.drew).mono ?_;rintro e w9 ⟨h9,rfl,hr9,hb9⟩;have HBa:Hid (Below w8.heap.size w8 w9):=lH (HB9.o.tm hb9);have HR9:=lH hr9;clear hb9 hr9;go_simp;refine hK.out _ _ ?_ (fun hHeld=>?_)
 ·exact HBa.o
 clear hK K
 try simp only [Act.put,sA_,sB_,sC_]
 refine stepH 3 (by kernel_rfl) rfl (fun K hK=>?_);go_simp;refine (areas_any h9 pnNet (by decide) _ 1 3 (pnL.take 1) w9 HR9.o (HM9.o.bm HBa.o) pn_sz1 (by decide) (HT.o.up (HB8.o.tm HBa.o))).mono ?_;rintro e w10 ⟨hb10,hh⟩;rw [pn_ck.2,pn_area.1,pn_area.2] at hh;rcases hh with ⟨h0,_⟩ | ⟨_,A10,c10,rfl,hrd10⟩
 ·exact absurd rfl h0
 have HBb:Hid (Below w8.heap.size w8 w10):=lH (HBa.o.tm hb10);have HI10:Hid (RdI w10 w10.heap.size A10 3 [0,0,1]):=lH hrd10;clear hb10 hrd10;go_simp;refine hK.out _ _ ?_ (fun hHeld=>?_)
 ·exact HBb.o
 clear hK K
 try simp only [Act.put,sA_,sB_,sC_]
 refine tkH 4 rfl ?_;refine tkH 5 rfl ?_;refine tkH 6 rfl ?_;refine tkH 7 rfl ?_;refine wpAnyH_done (by kernel_rfl) ?_ _;refine lastQ_go (by rfl) ?_;clear hHeld;have HBc:=lH (HB8.o.tm HBb.o);have HMc:=lH (HM8.o.bm HBb.o);have HIc:=lH (HI8.o.bm HBb.o);clear HB8 HM8 HI8 HM9 HB9 HBa HBb HR9
 go_wp2_with fail
 refine (pairNet_any w10).mono ?_;rintro e w11 ⟨h11,rfl,hr11,hb11⟩;have HB11:=lH (HBc.o.tm hb11);have HM11:=lH (HMc.o.bm hb11);have HR11:=lH hr11;have HT11:=lH (HT.o.up HB11.o);replace HIc:=lH (HIc.o.bm hb11);replace HI10:=lH (HI10.o.bm hb11);clear hb11 hr11 HBc HMc
 go_wp2_with fail
 refine (obs_any h11 pnNet (by decide) _ 3 3 pnL w11 HR11.o HM11.o pn_sz (by decide) HT11.o).mono ?_;rintro e w12 ⟨rfl,hb12⟩;rw [pn_rank,pn_obs];have HB12:=lH (HB11.o.tm hb12);replace HIc:=lH (HIc.o.bm hb12);replace HI10:=lH (HI10.o.bm hb12);clear hb12 HB11 HM11 HR11 HT11
 go_wp2_with fail
 have hz13:Below w12.heap.size w12 (w12.alloc (.cells #[.int .i64 1] 3)):=bA;have HJ13:Hid (RdI (w12.alloc (.cells #[.int .i64 1] 3)) (w12.alloc (.cells #[.int .i64 1] 3)).heap.size (some ⟨w12.heap.size,0,none⟩) 1 [1]):=lH (rd_lit (vs:=ints [1]) (T:=3) (Blk.new w12 _ _) rfl (by simp));have HB13:=lH (HB12.o.tm hz13);replace HIc:=lH (HIc.o.bm hz13);replace HI10:=lH (HI10.o.bm hz13);clear hz13 HB12;generalize w12.alloc (.cells #[.int .i64 1] 3)=w13 at *;refine (sameInts_any A8 1 c8 [1] _ 1 1 [1] w13 HIc.o HJ13.o (by decide)).mono ?_;rintro e w14 ⟨rfl,nq,rfl⟩;have hz14:=below_drewN (Below.refl w13.heap.size w13) nq;have HB14:=lH (below_drewN HB13.o nq);replace HI10:=lH (HI10.o.bm hz14);clear hz14 HB13 HJ13 HIc;generalize w13.drewN nq=w14 at *
 rw [show sameI [1] [1]=true from by decide]
 go_wp2_with fail
 have hz15:Below w14.heap.size w14 (w14.alloc (.cells #[.int .i64 0,.int .i64 0,.int .i64 1] 3)):=bA;have HJ15:Hid (RdI (w14.alloc (.cells #[.int .i64 0,.int .i64 0,.int .i64 1] 3)) (w14.alloc (.cells #[.int .i64 0,.int .i64 0,.int .i64 1] 3)).heap.size (some ⟨w14.heap.size,0,none⟩) 3 [0,0,1]):=lH (rd_lit (vs:=ints [0,0,1]) (T:=3) (Blk.new w14 _ _) rfl (by simp));have HB15:=lH (HB14.o.tm hz15);replace HI10:=lH (HI10.o.bm hz15);clear hz15 HB14;generalize w14.alloc (.cells #[.int .i64 0,.int .i64 0,.int .i64 1] 3)=w15 at *;refine (sameInts_any A10 3 c10 [0,0,1] _ 3 3 [0,0,1] w15 HI10.o HJ15.o (by decide)).mono ?_;rintro e w16 ⟨rfl,nq,rfl⟩;have HB16:=lH (below_drewN HB15.o nq);clear HB15 HJ15 HI10;generalize w15.drewN nq=w16 at *;rw [show sameI [0,0,1] [0,0,1]=true from by decide]
 go_wp2_with fail
 go_ret;exact ⟨rfl,HB16.o⟩
theorem rdVc_0 (w:World) (B:Nat):RdVc w B none 0 []:=⟨rfl,⟨rfl,fun h=>absurd h (by decide)⟩,fun v hv=>by cases hv⟩
theorem rankA_eq {x:Net} {ms:List Mi} (h:mtCk x ms=0):rankA x ms=((rankR (rowsR x ms):Int),((freeL x).length:Int),0):=by unfold rankA;rw [if_pos h]
theorem rankA_bad {x:Net} {ms:List Mi} (h:mtCk x ms≠0):rankA x ms=(0,0,mtCk x ms):=by unfold rankA;rw [if_neg h]
end
section
theorem Zt.of_ot {D B:Nat} {q:Rat} (h:Ot D B q):Zt (D:Int) (B*D) q:=h
section
variable {x:Net} {ms:List Mi}
theorem est_fits (h:Sml x ms) (hr:EReg x ms):∀ q∈estR x ms,Fits q:=fun q hq=>by
 obtain ⟨D,h0,h1,h2,-⟩:=h.own hr;obtain ⟨j,hj⟩:=List.mem_iff_getElem?.1 hq;have hjl:j<busN x:=by have:=(zB_.1 hj).1;rwa [est_len] at this
 have e:=est_vf (x:=x) (ms:=ms) hjl;rw [vf_at hj] at e;rw [e];unfold ext
 by_cases hp:freeB (islN x) j=true
 ·rw [if_pos hp]
  exact (h2 _ (zB_.1 (pick_of hp hjl)).1).fits h0 lR h1 (by decide) (by decide)
 ·rw [if_neg hp]
  exact (Zt.zero 1).fits (a:=0) (b:=0) (by decide) (by decide) (by decide) (by decide) (by decide)
end
end
end Go.Proofs.YthgdchffeigkbaaGreatDoor
