import Derived.Test.YthgdchffeigkbaaGreatDoorU40
import Derived.Test.YthgdchffeigkbaaGreatDoorU41
import Derived.SizedLaws
set_option linter.unusedVariables false
set_option linter.unusedSimpArgs false
namespace Go.Proofs.YthgdchffeigkbaaGreatDoor
section
open Go.ChangeShapes Go.WideShapes Go.ChangeAt Go.RowKit Go.Joins Go.Deep
section
variable {H:Type} {enc:TypeId×Value→H} {w:World} {sp:Nat→Bool}
set_option maxRecDepth 100000 in
theorem open_vec1 {fuel:Nat} {cs:List Value} {x:DataW H×List MemPlace} (h:DataW.trod enc Tryz.prog w 0 sp true fuel 35 cs=some x) :
    ∃ (A:Option Addr) (n c:Nat) (ss:List ByteArray),cs=[.slice A n c]∧n≤c∧c≤maxLen∧(∀ s∈ss,s.size≤maxLen)∧RdStr w w.heap.size A n ss:=by
 obtain ⟨A,n,c,xs,h1,h2,h3,hl,hq,h4⟩:=open_list (fun s:ByteArray=>[.string s]) 1 (fun s=>s.size≤maxLen) Tryz.underlying35 (by kernel_rfl) (by omega) (fun _=>rfl) (fun fu cs' y hy=>open_str1 Tryz.underlying55 hy) h;exact ⟨A,n,c,xs,h1,h2,h3,hq,hl,by unfold strsV;rw [List.map_eq_flatMap];exact h4⟩
set_option maxRecDepth 100000 in
theorem open_vec {r:Reach} {b0:Nat} {v:Value} {d:DataW H} {p:List MemPlace} (hv:Value.okWide Tryz.prog w r b0 35 v) (h:DataW.Trod enc Tryz.prog w 0 sp true 35 v d p) :
    ∃ (A:Option Addr) (n c:Nat) (ss:List ByteArray),v=.slice A n c∧n≤c∧c≤maxLen∧(∀ s∈ss,s.size≤maxLen)∧RdStr w w.heap.size A n ss:=by
 obtain ⟨A,n,c,rfl⟩:=okWide_slice Tryz.underlying35 hv;obtain ⟨fuel,hf⟩:=h;obtain ⟨A',n',c',ss,he,h1,h2,h3,h4⟩:=open_vec1 hf;simp [Value.cells] at he;obtain ⟨rfl,rfl,rfl⟩:=he;exact ⟨_,_,_,ss,rfl,h1,h2,h3,h4⟩
end
theorem vec_sized {H:Type} {enc:TypeId×Value→H} {w:World} {sp:Nat→Bool} {ts:List TypeId} {ds:List (DataW H)} {j n c:Nat} {A:Option Addr} {d:DataW H} {p:List MemPlace} (hsz:(DataW.weightsEach Tryz.prog ts ds).all (·≤reachBytes)=true) (ht:ts[j]?=some 35) (hd:ds[j]?=some d) (h:DataW.Trod enc Tryz.prog w 0 sp true 35 (.slice A n c) d p):n*16≤140737488355328:=by
 obtain ⟨fuel,hf⟩:=h;rcases open_slice Tryz.underlying35 hf with ⟨he,hx⟩ | ⟨a,len,cap,m,n',D,Pl,he,_,hl,hm,hmm,hx,_⟩
 ·simp [Value.cells] at he
  omega
 ·simp [Value.cells] at he
  injection hx with hx1 hx2;subst hx1;have:=sized_slice hsz ht hd Tryz.underlying35;rw [show Tryz.prog.bytesOf 55=16 by kernel_rfl] at this;simp only [List.length_map,List.length_range,reachBytes] at this;have h2:=Nat.mul_le_mul_right 16 (show len≤len+(m-len) by omega);omega
end
section
open Go
theorem dec_head (u:Nat):0<u→(Lib.decDigits u).head?≠some 48:=by
 induction u using Nat.strongRecOn with
 | _ u ih=>
  intro hu
  by_cases h:u<10
  ·rw [dec_small h]
   intro he;have he:UInt8.ofNat (48+u)=48:=Option.some.inj he;have:(UInt8.ofNat (48+u)).toNat=48+u:=by rw [UInt8.toNat_ofNat'];omega
   rw [he] at this;have h48:(48:UInt8).toNat=48:=rfl;omega
  ·rw [dec_big h,List.head?_append]
   have h1:=ih (u / 10) (by omega) (by omega);have h2:=dec_len_pos (u / 10);cases hd:Lib.decDigits (u / 10) with
   | nil=>rw [hd] at h2;simp at h2
   | cons c t=>rw [hd] at h1;simpa using h1
theorem canon_dec (u:Nat):Canon (Lib.decDigits u):=by
 refine ⟨fun h=>?_,dec_dg u,fun h=>?_⟩
 ·have:=dec_len_pos u
  rw [h] at this;simp at this
 ·by_cases h0:u=0
  ·subst h0
   rw [dec_small (by decide)] at h;simp at h
  ·exact dec_head u (by omega)
end
section
open Go.ChangeShapes Go.WideShapes Go.ChangeAt Go.RowKit
attribute [local go_sem ↓] execOp_call_val
attribute [local go_sem] callVal_func setCell_drewN alloc_drewN
theorem cutR_app {c:UInt8}:∀ {a b:List UInt8},c∉a→cutR c (a++c::b)=(a,b,true)
 | [],b,_=>by simp [cutR]
 | x::r,b,h=>by
  have h1:x≠c:=fun e=>h (by rw [e];exact List.mem_cons_self ..);rw [List.cons_append,cutR,if_neg h1,cutR_app fun hm=>h (List.mem_cons_of_mem _ hm)]
end
section
theorem text_parts (q:Rat):negL (textQ q)=decide (q.num<0)∧rtN (textQ q)=Lib.decDigits q.num.natAbs∧rtI (textQ q)=decide (q.den≠1)∧rtD (textQ q)=if q.den=1 then [] else Lib.decDigits q.den:=by
 have hS:negL (textQ q)=decide (q.num<0)∧rtS (textQ q)=Lib.decDigits q.num.natAbs++(if q.den=1 then [] else 47::Lib.decDigits q.den):=by
  unfold negL rtS textQ textL Lib.trimPrefix
  by_cases h:q.num<0
  ·have hp:Lib.hasPrefix ((if q.num<0 then [45] else [])++Lib.decDigits q.num.natAbs++(if q.den=1 then [] else 47::Lib.decDigits q.den)) [45]=true:=by rw [if_pos h];simp [Lib.hasPrefix]
   rw [hp,decide_eq_true h,if_pos h];simp
  ·have hp:Lib.hasPrefix ((if q.num<0 then [45] else [])++Lib.decDigits q.num.natAbs++(if q.den=1 then [] else 47::Lib.decDigits q.den)) [45]=false:=by
    rw [if_neg h,List.nil_append];cases hl:Lib.decDigits q.num.natAbs with
    | nil=>have:=dec_len_pos q.num.natAbs;rw [hl] at this;simp at this
    | cons c r=>
     have hc:=dec_dg q.num.natAbs c (by rw [hl];exact List.mem_cons_self ..);have:((45:UInt8) == c)=false:=by
      cases hb:((45:UInt8) == c) with
      | false=>rfl
      | true=>have:=eq_of_beq hb;subst this;exact absurd hc.1 (by decide)
     simp [Lib.hasPrefix,List.isPrefixOf,this]
   rw [hp,decide_eq_false h,if_neg h];simp
 have hno:(47:UInt8)∉Lib.decDigits q.num.natAbs:=fun h=>by
  have:=(dec_dg _ _ h).1;exact absurd this (by decide)
 unfold rtN rtI rtD;rw [hS.2];refine ⟨hS.1,?_⟩
 by_cases h1:q.den=1
 ·rw [if_pos h1,List.append_nil,cutR_no hno,if_pos h1,decide_eq_false (by simpa using h1)]
  exact ⟨rfl,rfl,rfl⟩
 ·rw [if_neg h1,cutR_app hno,if_neg h1,decide_eq_true h1]
  exact ⟨rfl,rfl,rfl⟩
theorem dec_ck {n:Nat} (h:ndg n≤2000):natCk (Lib.decDigits n)=0:=natCk_ok.2 ⟨canon_dec n,h⟩
theorem text_valid {q:Rat} (h:Fits q):ratCk (textQ q)=0∧parseQ (textQ q)=q:=by
 obtain ⟨h1,h2,h3,h4⟩:=text_parts q;have hn:=dec_ck h.1;have hd:=dec_ck h.2;have hB:rtB (textQ q)=0:=by
  unfold rtB;rw [h3,h4]
  by_cases g:q.den=1
  ·rw [decide_eq_false (by simpa using g)];rfl
  ·rw [decide_eq_true g,if_neg g];exact hd
 have h5:¬rtP5 (textQ q):=by
  unfold rtP5;rw [h2,hB,hn];rintro (g | g | ⟨g1,g2⟩)
  ·cases g
  ·cases g
  ·have:q.num.natAbs=0:=dec_inj (g1.trans (show [48]=Lib.decDigits 0 by rw [dec_small (by decide)];rfl))
   have hn0:¬q.num<0:=by omega
   have h6:=congrArg List.length (pre_split (textQ q));rw [h1,decide_eq_false hn0,List.length_append] at h6;simp at h6;omega
 have hp2:¬rtP2 (textQ q):=by
  unfold rtP2;rw [h2,hB,hn];simp
 have hp3:¬(rtI (textQ q)=true∧rtP3 (textQ q)):=by
  rintro ⟨g,g3⟩;rw [h3,decide_eq_true_eq] at g;unfold rtP3 at g3;rw [h2,h4,if_neg g,dv_dec,dv_dec] at g3;rcases g3 with g3 | g3 | g3
  ·have:=dec_inj (g3.trans (show [48]=Lib.decDigits 0 by rw [dec_small (by decide)];rfl))
   exact q.den_nz this
  ·exact g (dec_one.1 g3)
  ·exact g3 q.reduced
 refine ⟨by unfold ratCk;rw [if_neg h5,if_neg hp2,if_neg hp3],?_⟩;unfold parseQ denL;rw [h1,h2,h3,h4];have e1:rdZ (decide (q.num<0)) (Lib.decDigits q.num.natAbs)=q.num:=by
  unfold rdZ;rw [dv_dec]
  by_cases g:q.num<0
  ·rw [decide_eq_true g];simp only [if_true];omega
  ·rw [decide_eq_false g];simp only [Bool.false_eq_true,if_false];omega
 rw [e1]
 by_cases g:q.den=1
 ·rw [decide_eq_false (by simpa using g)]
  have:=rat_eta q;rw [g] at this;exact this
 ·rw [decide_eq_true g,if_neg g,dv_dec]
  exact rat_eta q
end
section
open Go.ChangeShapes Go.WideShapes Go.ChangeAt Go.RowKit
attribute [local go_sem ↓] execOp_call_val
attribute [local go_sem] callVal_func setCell_drewN alloc_drewN sEq_walk
theorem txt_valid {q:Rat} (h:Fits q):ratCk (txtQ q).data.toList=0∧qOf (txtQ q)=q:=by
 have:=text_valid h;unfold txtQ qOf;simpa using this
theorem textL_le (z:Int):(textL z).length≤ndg z.natAbs+1:=by
 unfold textL ndg;rw [List.length_append]
 split<;>simp<;>omega
theorem txt_size {q:Rat} (h:Fits q):(txtQ q).size≤4002:=by
 rw [Lib.size_eq];unfold txtQ textQ;have h1:=textL_le q.num;obtain ⟨h2,h3⟩:=h;unfold ndg at h3;simp only [List.length_append]
 split<;>simp<;>omega
end
section
open Go.ChangeShapes Go.WideShapes Go.ChangeAt Go.RowKit
section
variable {P:Program}
end
theorem own_none (w:World) (base e size:Nat):w.ownsRow base e size (.slice none 0 0) 0 []:=⟨by simp,.inl ⟨rfl,rfl⟩⟩
end
section
open Go.ChangeShapes Go.WideShapes Go.ChangeAt Go.RowKit
theorem wp_appRows {o:Oper} {a:Act} {w:World} {K:Act→World→Prop} {Q:Exit→Act→World→Prop} (s x:Operand) (t:TypeId)
    (ho:o.op=.call { callee:=.builtin .append,args:=#[s,x],argTypes:=#[t,t] }) (base:Nat) (ht:Tryz.prog.underlying t=some (.slice 93))
    (v:Value) (hs:List Hd) (hsv:a.eval s=v) (hown:OwnS NoI w base 93 1 v hs.length (hs.map Hd.val))
    (A:Option Addr) (m c:Nat) (h2:List Hd) (hm:h2.length=m) (hx:a.eval x=.slice A m c) (hr:Rd w w.heap.size 1 A m (h2.map Hd.val)) (h63:hs.length+m≤1000000000) (hbase:base≤w.heap.size) (N:Nat) (hN:(hs++h2).length=N)
    (h:∀ A' c' w',OwnS NoI w' base 93 1 (.slice A' N c') (hs++h2).length ((hs++h2).map Hd.val)→Below base w w'→Keeps NoI base 93 w w'→K (a.put o.dst (.slice A' N c')) w'):o.wp Tryz.prog a w K Q:=by
 obtain ⟨i0,hi0,hz0,hz1,hz2⟩:=info_parts info_rw;subst hm;refine wp_appR (S:=NoI) s x t ho base 93 i0 _ 1 24 ht hi0 hz0 hz1 hz2 rfl (by omega) (fun u hu=>?_) v hs.length (hs.map Hd.val) hsv hown A h2.length c (h2.map Hd.val) hx hr (hd_noI h2) (by simp only [maxLen];omega) (by omega) hbase fun v' w' k1 k2 _ _=>?_
 ·have hu':u∈[Value.slice none 0 0]:=hu
  rw [List.mem_singleton.1 hu'];exact fun k x h=>by cases h
 ·rw [←List.map_append,←List.length_append] at k1
  obtain ⟨A',c',e,_⟩:=k1.shape;subst e;subst hN;exact h A' c' w' k1 k2.low k2
end
section
open Go.ChangeShapes Go.WideShapes Go.ChangeAt Go.RowKit Go.Joins
attribute [local go_sem ↓] execOp_call_val
attribute [local go_sem] callVal_func setCell_drewN alloc_drewN sEq_walk
theorem ownMi_none (w:World) (base:Nat):OwnMi w base (.slice none 0 0) []:=own_none _ _ _ _
section
variable {o:Oper} {a:Act} {w:World} {Q:Exit→Act→World→Prop}
end
theorem rdMi_blk {w:World} {g:Nat} {T:TypeId} {m:Mi} (h:Blk w g T #[.int .i64 m.kind,.string m.name,.string m.txt,.int .i64 m.wt]):RdMi w w.heap.size (some ⟨g,0,none⟩) 1 [m]:=by
 refine ⟨rfl,⟨rfl,fun _=>⟨g,0,rfl,h.lt,fun j u hu=>?_⟩⟩⟩;rw [Nat.zero_add,h.cell j];simpa [Mi.cells] using hu
end
section
namespace Ls
variable (L:Ls)
variable {L}
theorem exact_sol {o:Fn} (hy:∀ k,k<L.K→L.y k=dotn L.n (L.R k) o):L.Sol o:=fun i hi=>by
 rw [L.gdot];exact sumTo_congr fun k hk=>by rw [hy k hk];grind
theorem exact_cost {o:Fn} (hy:∀ k,k<L.K→L.y k=dotn L.n (L.R k) o):L.cost o=0:=
 sumTo_zero fun k hk=>by unfold res;rw [hy k hk];grind
end Ls
end
section
open Go.ChangeShapes Go.WideShapes Go.ChangeAt Go.RowKit
attribute [local go_sem ↓] execOp_call_val
attribute [local go_sem] callVal_func setCell_drewN alloc_drewN sEq_walk
set_option maxRecDepth 100000 in
set_option maxHeartbeats 4000000 in
theorem fat_any (A:Option Addr) (n c:Nat) (u:Rv) (q:List Rat) (z:Rat) (B:Option Addr) (m d:Nat) (al:List Rat) (w:World) (hq:RdQ w w.heap.size A n q) (hz:RtV w w.heap.size z u) (ha:RdQ w w.heap.size B m al) (hnm:n≤m) (hn:n≤1000) (h1:∀ p∈q,qsz p≤2000) (h2:∀ p∈al,qsz p≤2000) (h3:qsz z≤2000) :
    Calls Tryz.prog 64 #[.agg #[.slice A n c,.bool u.b1,.slice u.A u.n u.c,.bool u.b2,.slice u.A2 u.m u.d],.slice B m d] w (QP (dotR q al+z) w):=by
 have K0:Below w.heap.size w ((w.alloc (.cells #[.slice A n c,.bool u.b1,.slice u.A u.n u.c,.bool u.b2,.slice u.A2 u.m u.d] 117)).alloc (.cells #[.bool false,.slice none 0 0,.bool false,.slice none 0 0] 115)):=((Below.refl _ _).alloc lR _).alloc (by simp) _;have HK:=lH K0;have PF:=lH ((Blk.new w 117 #[.slice A n c,.bool u.b1,.slice u.A u.n u.c,.bool u.b2,.slice u.A2 u.m u.d]).alloc (.cells #[.bool false,.slice none 0 0,.bool false,.slice none 0 0] 115));have PB:Hid (Blk ((w.alloc (.cells #[.slice A n c,.bool u.b1,.slice u.A u.n u.c,.bool u.b2,.slice u.A2 u.m u.d] 117)).alloc (.cells #[.bool false,.slice none 0 0,.bool false,.slice none 0 0] 115)) (w.heap.size+1) 115 #[.bool false,.slice none 0 0,.bool false,.slice none 0 0]):=lH (Blk.new_ (by simp));have HQ:=lH (hq.up K0);have HZ:=lH (hz.up K0);have HA:=lH (ha.up K0);have H1:=lH h1;have H2:=lH h2;have H3:=lH h3
 have HSZ:Hid (w.heap.size+1<((w.alloc (.cells #[.slice A n c,.bool u.b1,.slice u.A u.n u.c,.bool u.b2,.slice u.A2 u.m u.d] 117)).alloc (.cells #[.bool false,.slice none 0 0,.bool false,.slice none 0 0] 115)).heap.size):=lH (by simp);have HQL:Hid (q.length=n):=lH hq.len;have HDS:Hid (qsz (dotR q al)+qsz z+1≤35184372088832):=lH (by
  have h:=dotR_qsz (n:=n) (Z:=2000) hq.len h1 h2 n lR;rw [List.take_of_length_le (by rw [List.length_zipWith,hq.len];exact Nat.min_le_left _ _)] at h;have h':qsz (dotR q al)≤n*(2*2000+1)+1:=h;have:n*(2*2000+1)≤1000*(2*2000+1):=Nat.mul_le_mul_right _ hn;omega)
 clear K0 hq hz ha h1 h2 h3;go_enter Tryz.func64,Tryz.ntmps64
 go_upto_region 1 with fail
 generalize (w.alloc (.cells #[.slice A n c,.bool u.b1,.slice u.A u.n u.c,.bool u.b2,.slice u.A2 u.m u.d] 117)).alloc (.cells #[.bool false,.slice none 0 0,.bool false,.slice none 0 0] 115)=W at *;have y0:=PF.out.cell 0;have y1:=PF.out.cell 1;have y2:=PF.out.cell 2;have y3:=PF.out.cell 3;have y4:=PF.out.cell 4;have yl:=PF.out.lt;refine wp_region_last (S:=fun w'=>Below W.heap.size W w') 7 _ (by kernel_rfl) (by kernel_rfl) rfl (below_drew (Below.refl _ _)) (fun hHeld=>?_);simp only [List.take_succ_cons,List.take_zero];refine tkH 0 rfl ?_;refine tkH 1 rfl ?_;refine tkH 2 rfl ?_;refine tkH 4 rfl ?_;refine tkH 5 rfl ?_;clear y0 y1 y2 y3 y4 yl;have HV0:=lH (below_drew (Below.refl W.heap.size W));generalize W.drew=v0 at *;refine stepH 3 (by kernel_rfl) rfl (fun K hK=>?_);go_simp
 refine (dot_any A n c B m d q al 2000 v0 (HQ.o.up HV0.o) (HA.o.up HV0.o) hnm (by omega) H1.o H2.o (by have:n*(2*2000+1)≤1000*(2*2000+1):=Nat.mul_le_mul_right _ hn;omega)).mono ?_;rintro e v1 ⟨hb1,x1,rfl,hx1⟩;have HV1:Hid (Below W.heap.size W v1):=lH (HV0.o.trans (hb1.mono HV0.o.size));have HX1:=lH hx1;clear hb1 hx1 HV0;go_simp;refine hK.out _ _ ?_ (fun hHeld=>?_)
 ·exact HV1.o
 clear hK K
 try simp only [Act.put,sA_,sB_,sC_]
 refine stepH 6 (by kernel_rfl) rfl (fun K hK=>?_);go_simp;refine (addV HX1.o (HZ.o.up HV1.o) HDS.o).mono ?_;rintro e v2 ⟨hb2,x2,rfl,hx2⟩;have HV2:Hid (Below W.heap.size W v2):=lH (HV1.o.trans (hb2.mono HV1.o.size));have HX2:=lH hx2;clear hb2 hx2 HV1 HX1;go_simp;refine hK.out _ _ ?_ (fun hHeld=>?_)
 ·exact HV2.o
 clear hK K
 try simp only [Act.put,sA_,sB_,sC_]
 refine wpAnyH_done (by kernel_rfl) ?_ _;refine lastQ_go (by rfl) ?_;clear hHeld;have PC:=lH (PB.out.below HV2.o PB.out.lt);have z0:=PC.out.cell 0;have z1:=PC.out.cell 1;have z2:=PC.out.cell 2;have z3:=PC.out.cell 3;have zl:=PC.out.lt;have zf:=PC.out.frozen
 go_wp2_with fail
 clear z0 z1 z2 z3 zl zf;have PD:=lH (box_put (v:=x2) PC.out);have p0:=PD.out.cell 0;have p1:=PD.out.cell 1;have p2:=PD.out.cell 2;have p3:=PD.out.cell 3;unfold putQ at p0 p1 p2 p3;refine bodyPost_ret (v:=.agg #[.bool x2.b1,.slice x2.A x2.n x2.c,.bool x2.b2,.slice x2.A2 x2.m x2.d]) (by simp [results,Tryz.results64,go_sem,p0,p1,p2,p3]) rfl ?_;exact ⟨below_putQ (v:=x2) (HK.o.trans (HV2.o.mono (by have:=HSZ.o;omega))) (Nat.le_succ _),x2,rfl,HX2.o.keepq PC.out (x:=⟨false,none,0,0,false,none,0,0⟩)⟩
end
section
open Go.ChangeShapes Go.WideShapes Go.ChangeAt Go.RowKit
attribute [local go_sem ↓] execOp_call_val
attribute [local go_sem] callVal_func setCell_drewN alloc_drewN sEq_walk
def mval (x:Net) (al:List Rat) (m:Mi):Rat:=dotR (formR x m).1 al+(formR x m).2
def mvals (x:Net) (ms:List Mi) (ss:List ByteArray):List Rat:=ms.map (mval x (ss.map qOf))
def ReadP (x:Net) (ms:List Mi) (ss:List ByteArray) (w:World) (e:Ending) (w':World):Prop:=Below w.heap.size w w'∧((readE x ms ss≠0∧e=.returned (.tuple #[.slice none 0 0,.int .i64 (readE x ms ss)]))∨
 (readE x ms ss=0∧((∀ q∈mvals x ms ss,Fits q)→∃ A n c,e=.returned (.tuple #[.slice A n c,.int .i64 0])∧RdStr w' w'.heap.size A n ((mvals x ms ss).map txtQ)∧n≤c∧c≤maxLen)∧(¬(∀ q∈mvals x ms ss,Fits q)→e=.returned (.tuple #[.slice none 0 0,.int .i64 2]))))
theorem mvals_take {x:Net} {ms:List Mi} {ss:List ByteArray} {k:Nat} {m:Mi} (h:ms[k]?=some m):(mvals x ms ss).take (k+1)=(mvals x ms ss).take k++[mval x (ss.map qOf) m]:=by
 have h2:(mvals x ms ss)[k]?=some (mval x (ss.map qOf) m):=by unfold mvals;rw [List.getElem?_map,h];rfl
 exact take_at h2
set_option maxRecDepth 100000 in
set_option maxHeartbeats 4000000 in
theorem mread_any (h:NetH) (x:Net) (h8:x.nodes.length≤8) (A:Option Addr) (n c:Nat) (ms:List Mi) (B:Option Addr) (mm d:Nat) (ss:List ByteArray) (w:World) (r:RdNet w w.heap.size h x) (hm:RdMi w w.heap.size A n ms) (hR:RdStr w w.heap.size B mm ss) (hz:∀ m∈ms,m.txt.size≤maxLen) (hs:∀ s∈ss,s.size≤maxLen) (hn:n≤9223372036854775807) (hmm:mm≤9223372036854775807) (ht:TabOk w) :
    Calls Tryz.prog 25 #[.agg h.cells,.slice A n c,.slice B mm d] w (ReadP x ms ss w):=by
 have K0:Below w.heap.size w (w.alloc (.cells h.cells 29)):=(Below.refl _ _).alloc lR _;have HK:=lH K0;have P0:=lH (Blk.new w 29 h.cells);have HX:=lH (r.up K0);have HM:=lH ((hm.below K0 lR).more K0.size);have HS:=lH ((hR.below K0 lR).more K0.size);have HT:=lH (ht.up K0);have HML:Hid (ms.length=n):=lH hm.1;have HSL:Hid (ss.length=mm):=lH hR.1;have HSS:=lH hs;have HSZ:Hid (w.heap.size≤(w.alloc (.cells h.cells 29)).heap.size):=lH K0.size;have HRP:Hid (∀ e w',ReadP x ms ss w e w'↔(Below w.heap.size w w'∧((readE x ms ss≠0∧e=.returned (.tuple #[.slice none 0 0,.int .i64 (readE x ms ss)]))∨
 (readE x ms ss=0∧((∀ q∈mvals x ms ss,Fits q)→∃ A n c,e=.returned (.tuple #[.slice A n c,.int .i64 0])∧RdStr w' w'.heap.size A n ((mvals x ms ss).map txtQ)∧n≤c∧c≤maxLen)∧(¬(∀ q∈mvals x ms ss,Fits q)→e=.returned (.tuple #[.slice none 0 0,.int .i64 2])))))):=lH fun e w'=>Iff.rfl
 have HRE:Hid (readE x ms ss=if mtCk x ms≠0 then mtCk x ms else angE ss.length (busN x) ss):=lH rfl;have HCK:=lH (mcheck_any h x A n c ms (w.alloc (.cells h.cells 29)) HX.o HM.o hz hn HT.o);have HPA:=lH (readE_parts (x:=x) (ms:=ms) (ss:=ss));generalize readE x ms ss=re at *;clear K0 hm hR r ht hs hz;obtain ⟨D0,r0,s0,D1,r1,s1,D2,r2,s2,D3,r3,s3,D4,r4,s4,D5,r5,s5⟩:=h;obtain ⟨y0,y1,y2,y3,y4,y5,nf,nlt⟩:=net_box P0.o;dsimp only at y0 y1 y2 y3 y4 y5;go_enter Tryz.func25,Tryz.ntmps25
 go_wp2_with fail
 generalize w.alloc (.cells (NetH.cells ⟨D0,r0,s0,D1,r1,s1,D2,r2,s2,D3,r3,s3,D4,r4,s4,D5,r5,s5⟩) 29)=W at *;refine HCK.o.mono ?_;rintro e w1 ⟨rfl,hb1⟩;have HB1:=lH hb1;clear hb1 y0 y1 y2 y3 y4 y5 nf nlt HCK
 by_cases hck:mtCk x ms=0
 ·have HC:=lH hck
  rw [if_neg (fun h=>h hck)] at HRE;rw [hck];clear hck;have PNX:=P0.o.below HB1.o P0.o.lt;obtain ⟨y0,y1,y2,y3,y4,y5,nf,nlt⟩:=net_box PNX;dsimp only at y0 y1 y2 y3 y4 y5;clear PNX;obtain ⟨ok,hl,hmi⟩:=mtCk_ok HC.o;have HOK:=lH ok;have HL:=lH hl;have HMI:=lH hmi;clear ok hl hmi
  go_wp2_with fail
  refine (flowOf_any _ x HOK.o h8 w1 (HX.o.up HB1.o)).mono ?_;rintro e w2 ⟨hb2,g,m,A7,n7,c7,rfl,hg,hblk,hrd,-⟩;have HB2:=lH (HB1.o.trans (hb2.mono HB1.o.size));have HG:=lH hblk;have HR:=lH hrd;have HN1:Hid (busN x=m.n1):=lH (by rw [←islR_len HOK.o];exact hrd.r1.len);clear hb2 hg hblk hrd HB1 y0 y1 y2 y3 y4 y5 nf nlt
  go_wp2_with fail
  refine (ckang_any g m _ B mm d ss w2 HG.o ((HS.o.below HB2.o lR).more HB2.o.size) HSS.o hmm (HT.o.up HB2.o) re (by rw [HRE.o,HSL.o,HN1.o])).mono ?_;rintro e w3 ⟨rfl,hb3⟩;have HB3:=lH (HB2.o.trans (hb3.mono HB2.o.size));replace HG:=lH (HG.o.below hb3 HG.o.lt);replace HR:=lH (HR.o.up hb3);clear hb3 HB2
  by_cases hre:re=0
  ·subst hre
   obtain ⟨-,hsl,hsv⟩:=HPA.o rfl;have HSV:=lH hsv;have HMB:Hid (mm=busN x):=lH (by rw [←HSL.o];exact hsl);have hmm8:mm≤8:=by rw [HMB.o];exact Nat.le_trans (busN_ok HOK.o).2 h8
   clear hsl hsv HPA HRE
   go_wp2_with fail
   refine (parseall_any B mm d ss w3 ((HS.o.below HB3.o lR).more HB3.o.size) HSV.o (by omega)).mono ?_;rintro e w4 ⟨hb4,A4,n4,c4,rfl,hq4,-,-,-⟩;have HB4:=lH (HB3.o.trans (hb4.mono HB3.o.size));replace HG:=lH (HG.o.below hb4 HG.o.lt);replace HR:=lH (HR.o.up hb4);have HQ:=lH hq4;have HN4:Hid (n4=mm):=lH (by rw [←hq4.len,List.length_map,HSL.o]);have HQS:Hid (∀ p∈ss.map qOf,qsz p≤2000):=lH fun p hp=>by
    obtain ⟨s,hs,rfl⟩:=List.mem_map.1 hp;exact fits_qsz (valid_fits (HSV.o s hs))
   clear hb4 hq4 HB3 HS;have HGW4:Hid (W.heap.size≤w4.heap.size):=lH HB4.o.size;have hn64:n≤64:=by have:=HL.o;have:=HML.o;omega
   go_wp2_with fail
   go_loopw [12,33] (fun v12 v33 wr=>∃ (k:Nat) (us:List Rv),k≤n∧v33=.int .i64 k∧OwnQ wr w4.heap.size v12 us ((mvals x ms ss).take k)∧Below w4.heap.size w4 wr) (fun _ v33 _=>n-(intOf v33).toNat)
   case atStart=>exact ⟨0,[],by omega,rfl,ownQ_none _ _,Below.refl _ _⟩
   case round=>
    obtain ⟨k,us,hk,rfl,ho,hb⟩:=hrel;have HO:=lH ho;have HB:=lH hb;clear ho hb
    by_cases hlt:k<n
    ·obtain ⟨mi,hmi⟩:∃ mi,ms[k]?=some mi:=⟨_,zA_ (by have:=HML.o;omega)⟩
     have HTK:=lH (mvals_take (x:=x) (ss:=ss) hmi);have HMO:=lH (HMI.o mi (zC_ hmi));have HBW:=lH (HB4.o.trans (HB.o.mono HB4.o.size));have hmx:=(HM.o.below HBW.o lR).more HBW.o.size;obtain ⟨ab,ao,hA,hab,-⟩:=hmx.2.2 (by omega);subst hA;obtain ⟨a0,a1,a2,a3⟩:=hmx.at_ hmi;have hkI:(k:Int)<(n:Int):=by omega
     have hk0:(0:Int)≤(k:Int):=by omega
     have hkn:(k:Int).toNat=k:=Int.toNat_natCast k;have HNX:Hid ((k:Int)+1=((k+1:Nat):Int)):=lH (by omega);have HNM:Hid (n-(k+1)<n-k):=lH (by omega);have HLT:=lH hlt;clear hmi hmx
     go_upto_region 13 with fail
     clear a0 a1 a2 a3 hab hkI hk0 hkn;have hz:Below wr.heap.size wr (wr.alloc (.cells #[.int .i64 mi.kind,.string mi.name,.string mi.txt,.int .i64 mi.wt] 57)):=(Below.refl _ _).alloc lR _;have HMB2:=lH (Blk.new wr 57 #[.int .i64 mi.kind,.string mi.name,.string mi.txt,.int .i64 mi.wt]);replace HO:=lH (HO.o.keep hz);have HBA:Hid (Below w4.heap.size w4 (wr.alloc (.cells #[.int .i64 mi.kind,.string mi.name,.string mi.txt,.int .i64 mi.wt] 57))):=lH (HB.o.trans (hz.mono HB.o.size));have HWA:Hid (Below W.heap.size W (wr.alloc (.cells #[.int .i64 mi.kind,.string mi.name,.string mi.txt,.int .i64 mi.wt] 57))):=lH (HB4.o.trans (HBA.o.mono HB4.o.size));clear hz HB HBW;generalize wr.heap.size=gm at *;generalize wr.alloc (.cells #[.int .i64 mi.kind,.string mi.name,.string mi.txt,.int .i64 mi.wt] 57)=wa at *;have PNX:=P0.o.below HWA.o P0.o.lt;obtain ⟨y0,y1,y2,y3,y4,y5,nf,nlt⟩:=net_box PNX
     dsimp only at y0 y1 y2 y3 y4 y5;clear PNX;have x0:=HMB2.o.cell 0;have x1:=HMB2.o.cell 1;have x2:=HMB2.o.cell 2;have x3:=HMB2.o.cell 3;have xl:=HMB2.o.lt
     go_wp2_with fail
     refine (formOf_any _ x HOK.o h8 g m _ mi wa (HX.o.up HWA.o) (HG.o.below HBA.o HG.o.lt) (HR.o.up HBA.o) HMO.o.1 HMO.o.2).mono ?_;rintro e w5 ⟨hb5,gc,u,rfl,hq,hv⟩;clear y0 y1 y2 y3 y4 y5 nf nlt x0 x1 x2 x3 xl;have HB5:=lH (HBA.o.trans (hb5.mono HBA.o.size));replace HO:=lH (HO.o.keep hb5);have HQF:=lH hq;have HVF:=lH hv;have HFO:=lH (formR_ok HOK.o HMO.o);clear hb5 hq hv HWA HBA
     go_wp2_with fail
     refine (fat_any (some ⟨gc,0,none⟩) (busN x) (busN x) u (formR x mi).1 (formR x mi).2 A4 n4 c4 (ss.map qOf) w5 HQF.o HVF.o ((HQ.o.below HB5.o lR).more HB5.o.size) (by rw [HN4.o,HMB.o];exact lR) (by have:=HMB.o;omega) (fun p hp=>Nat.le_trans (HFO.o.cf p hp) (by decide)) HQS.o (Nat.le_trans HFO.o.fr (by decide))).mono ?_;rintro e w6 ⟨hb6,xe,rfl,hxe⟩;have HB6:=lH (HB5.o.trans (hb6.mono HB5.o.size));replace HO:=lH (HO.o.keep hb6);have HXE:=lH hxe;have HGL:Hid (w4.heap.size≤w6.heap.size):=lH HB6.o.size;clear hb6 hxe HB5 HQF HVF HFO
     go_wp2_with (at_builtin;refine wpList_appQ rfl (.tmp 37) (.tmp 44) _ rfl w4.heap.size Tryz.underlying93 u12 us _ rfl HO.o xe _ HXE.o rfl ?k1 HGL.o ?_)
     case k1=>rw [List.length_take];omega
     intro v' w8 hown hkeep hb8;have HO8:Hid (OwnQ w8 w4.heap.size v' (us++[xe]) ((mvals x ms ss).take (k+1))):=lH (by rw [HTK.o];exact hown);have HB8:=lH (HB6.o.trans hb8);clear hown hkeep hb8 HO HB6 HXE HMB2
     go_wp2_with fail
     go_roundw
     case rel=>exact ⟨k+1,us++[xe],HLT.o,val_int HNX.o,HO8.o,HB8.o⟩
     case measure=>exact HNM.o
    ·have hke:k=n:=by omega
     subst hke;have hkI:¬(k:Int)<(k:Int):=by omega
     have hml:(mvals x ms ss).length=k:=by unfold mvals;rw [List.length_map];exact HML.o
     have HOE:Hid (OwnQ wr w4.heap.size u12 us (mvals x ms ss)):=lH (by
      have h:=HO.o;rw [List.take_of_length_le (by rw [hml];exact lR)] at h;exact h)
     obtain ⟨A9,c9,hv,hrd,-,-,-⟩:=HOE.o.rd;subst hv;rw [hml] at hrd ⊢;have HRD:=lH hrd;have HBF:=lH (HB4.o.trans (HB.o.mono HB4.o.size));clear hrd hml HO
     go_wp2_with fail
     refine (textvec_any A9 k c9 (mvals x ms ss) wr HRD.o (by omega) (HT.o.up HBF.o)).mono ?_;rintro e w9 ⟨hb9,ht1,ht2⟩;have HB9:=lH (HK.o.trans ((HBF.o.trans (hb9.mono HBF.o.size)).mono HSZ.o));have HT1:=lH ht1;have HT2:=lH ht2;clear hb9 ht1 ht2
     by_cases hf:∀ q∈mvals x ms ss,Fits q
     ·obtain ⟨A6,n6,c6,rfl,hr6,h61,h62⟩:=HT1.o hf
      have HR6:=lH hr6;clear hr6
      go_wp2_with fail
      go_ret2;rw [HRP.o];exact ⟨HB9.o,.inr ⟨by trivial,fun _=>⟨A6,n6,c6,rfl,HR6.o,h61,h62⟩,fun h=>absurd hf h⟩⟩
     ·obtain rfl:=HT2.o hf
      go_wp2_with fail
      go_ret2;rw [HRP.o];exact ⟨HB9.o,.inr ⟨by trivial,fun h=>absurd h hf,fun _=>rfl⟩⟩
  ·have hB:(re != 0)=true:=by simp [hre]
   go_wp2_with fail
   go_ret2;rw [HRP.o];exact ⟨HK.o.trans (HB3.o.mono HSZ.o),.inl ⟨hre,rfl⟩⟩
 ·have hckB:(mtCk x ms != 0)=true:=by simp [hck]
  rw [if_pos hck] at HRE
  go_wp2_with fail
  go_ret2;rw [HRP.o];exact ⟨HK.o.trans (HB1.o.mono HSZ.o),.inl ⟨by rw [HRE.o];exact hck,by rw [HRE.o];rfl⟩⟩
end
section
open Go.ChangeShapes Go.WideShapes Go.ChangeAt Go.RowKit
theorem mtCk_parts {x:Net} {ms:List Mi} (h:mtCk x ms=0):netCk x=0∧ms.length≤64∧∀ m∈ms,miCk x m=0:=by
 unfold mtCk at h
 split at h
 ·exact absurd h (by assumption)
 ·rename_i hn
  split at h
  ·omega
  ·exact ⟨by omega,by omega,misGo_ok h⟩
end
section
section
variable {x:Net} {ms:List Mi}
theorem ls_row {k:Nat} {m:Mi} (h:ms[k]?=some m):(lsOf x ms).R k=vf (rowR x (formR x m).1):=by
 show vf ((rowsR x ms).getD k [])=_;unfold rowsR;rw [zD_,List.getElem?_map,h];rfl
end
section
variable {x:Net} {ms:List Mi}
theorem resid_at (ok:NetOk x) (hm:∀ m∈ms,MiOk x m) {al:List Rat} (h:Grd x al) {k:Nat} {m:Mi} (hk:ms[k]?=some m):qOf m.txt-(dotR (formR x m).1 al+(formR x m).2)=(lsOf x ms).res (frF x al) k:=by
 unfold Ls.res;rw [ls_y hk,ls_row hk];rw [h.dot (formR_ok ok (hm m (zC_ hk))).len];show _=_-dotn (freeL x).length _ _;grind
theorem sumR_sumTo {qs:List Rat} {n:Nat} (h:qs.length=n):sumR qs=sumTo n (vf qs):=by
 have key:∀ k,k≤n→sumR (qs.take k)=sumTo k (vf qs):=fun k=>by
  induction k with
  | zero=>intro _;rfl
  | succ k ih=>
   intro hk;have h1:qs[k]?=some (vf qs k):=vf_get (by omega);rw [take_at h1,sumR_snoc,ih (by omega)];rfl
 have:=key n lR;rwa [List.take_of_length_le (by omega)] at this
theorem costR_eq (ok:NetOk x) (hm:∀ m∈ms,MiOk x m) {al:List Rat} (h:Grd x al):costR x ms al=(lsOf x ms).cost (frF x al):=by
 unfold costR;rw [sumR_sumTo (n:=ms.length) (by rw [List.length_map])];unfold Ls.cost;refine sumTo_congr fun k hk=>?_;obtain ⟨m,h0⟩:∃ m,ms[k]?=some m:=⟨_,zA_ hk⟩;rw [ls_w h0,←resid_at ok hm h h0];exact vf_at (by rw [List.getElem?_map,h0];rfl)
end
section
variable {x:Net} {ms:List Mi} {by_:Int}
end
section
variable {x:Net} {ms:List Mi}
theorem exact_est (ok:NetOk x) (hm:∀ m∈ms,MiOk x m) (hr:EReg x ms) {al:List Rat} (h:Grd x al) (hv:∀ m∈ms,qOf m.txt=dotR (formR x m).1 al+(formR x m).2):estR x ms=al∧costR x ms al=0:=by
 have hy:∀ k,k<(lsOf x ms).K→(lsOf x ms).y k=dotn (lsOf x ms).n ((lsOf x ms).R k) (frF x al):=fun k hk=>by
  obtain ⟨m,h0⟩:=ls_get hk;rw [ls_y h0,ls_row h0,hv m (zC_ h0)];have:=h.dot (formR_ok ok (hm m (zC_ h0))).len;rw [this];show _=dotn (freeL x).length _ _;grind
 exact ⟨(est_unique hr h (Ls.exact_sol hy)).symm,by rw [costR_eq ok hm h];exact Ls.exact_cost hy⟩
end
end
section
open Go.ChangeShapes Go.WideShapes Go.ChangeAt Go.RowKit
attribute [local go_sem ↓] execOp_call_val
attribute [local go_sem] callVal_func setCell_drewN alloc_drewN sEq_walk
def MofP (x:Net) (m:Mi) (w:World) (e:Ending) (w':World):Prop:=Below w.heap.size w w'∧((mtCk x [m]≠0∧e=.returned (.tuple #[.slice none 0 0,.string ⟨#[]⟩,.int .i64 (mtCk x [m])]))∨
 (mtCk x [m]=0∧∃ A c,e=.returned (.tuple #[.slice A (busN x) c,.string (txtQ (formR x m).2),.int .i64 0])∧RdStr w' w'.heap.size A (busN x) ((formR x m).1.map txtQ)))
set_option maxRecDepth 100000 in
set_option maxHeartbeats 4000000 in
theorem mof_any (h:NetH) (x:Net) (h8:x.nodes.length≤8) (m:Mi) (w:World) (r:RdNet w w.heap.size h x) (hz:m.txt.size≤maxLen) (ht:TabOk w) (hfc:mtCk x [m]=0→(∀ q∈(formR x m).1,Fits q)∧Fits (formR x m).2) :
    Calls Tryz.prog 40 #[.agg h.cells,.agg #[.int .i64 m.kind,.string m.name,.string m.txt,.int .i64 m.wt]] w (MofP x m w):=by
 have K0:Below w.heap.size w ((w.alloc (.cells h.cells 29)).alloc (.cells #[.int .i64 m.kind,.string m.name,.string m.txt,.int .i64 m.wt] 57)):=((Below.refl _ _).alloc lR _).alloc (by simp) _;have HK:=lH K0;have P0:=lH ((Blk.new w 29 h.cells).alloc (.cells #[.int .i64 m.kind,.string m.name,.string m.txt,.int .i64 m.wt] 57));have P1:Hid (Blk ((w.alloc (.cells h.cells 29)).alloc (.cells #[.int .i64 m.kind,.string m.name,.string m.txt,.int .i64 m.wt] 57)) (w.heap.size+1) 57 #[.int .i64 m.kind,.string m.name,.string m.txt,.int .i64 m.wt]):=lH (Blk.new_ (by simp));have HX:=lH (r.up K0);have HT:=lH (ht.up K0);have HFC:=lH hfc;have HMZ:Hid (∀ a∈[m],a.txt.size≤maxLen):=lH fun a ha=>by rw [List.mem_singleton.1 ha];exact hz
 have HSZ:Hid (w.heap.size≤((w.alloc (.cells h.cells 29)).alloc (.cells #[.int .i64 m.kind,.string m.name,.string m.txt,.int .i64 m.wt] 57)).heap.size):=lH K0.size;have HOP:Hid (∀ e w',MofP x m w e w'↔(Below w.heap.size w w'∧((mtCk x [m]≠0∧e=.returned (.tuple #[.slice none 0 0,.string ⟨#[]⟩,.int .i64 (mtCk x [m])]))∨
 (mtCk x [m]=0∧∃ A c,e=.returned (.tuple #[.slice A (busN x) c,.string (txtQ (formR x m).2),.int .i64 0])∧RdStr w' w'.heap.size A (busN x) ((formR x m).1.map txtQ))))):=lH fun e w'=>Iff.rfl
 clear K0 r ht hfc;obtain ⟨D0,r0,s0,D1,r1,s1,D2,r2,s2,D3,r3,s3,D4,r4,s4,D5,r5,s5⟩:=h;obtain ⟨y0,y1,y2,y3,y4,y5,nf,nlt⟩:=net_box P0.o;dsimp only at y0 y1 y2 y3 y4 y5;have x0:=P1.o.cell 0;have x1:=P1.o.cell 1;have x2:=P1.o.cell 2;have x3:=P1.o.cell 3;have xl:=P1.o.lt;go_enter Tryz.func40,Tryz.ntmps40
 go_upto_region 1 with fail
 generalize (w.alloc (.cells (NetH.cells ⟨D0,r0,s0,D1,r1,s1,D2,r2,s2,D3,r3,s3,D4,r4,s4,D5,r5,s5⟩) 29)).alloc (.cells #[.int .i64 m.kind,.string m.name,.string m.txt,.int .i64 m.wt] 57)=W at *;generalize w.heap.size+1=p1 at *
 go_wp2_with fail
 have hzl:Below W.heap.size W (W.alloc (.cells #[.int .i64 m.kind,.string m.name,.string m.txt,.int .i64 m.wt] 57)):=(Below.refl _ _).alloc lR _;have HLT:=lH (rdMi_blk (Blk.new W 57 #[.int .i64 m.kind,.string m.name,.string m.txt,.int .i64 m.wt]));have HBL:=lH hzl;clear y0 y1 y2 y3 y4 y5 nf nlt x0 x1 x2 x3 xl hzl;generalize W.alloc (.cells #[.int .i64 m.kind,.string m.name,.string m.txt,.int .i64 m.wt] 57)=wl at *;refine (mcheck_any _ x _ 1 1 [m] wl (HX.o.up HBL.o) HLT.o HMZ.o (by decide) (HT.o.up HBL.o)).mono ?_;rintro e w1 ⟨rfl,hb1⟩;have HB1:=lH (HBL.o.trans (hb1.mono HBL.o.size));clear hb1 HBL HLT
 by_cases hck:mtCk x [m]=0
 ·have HC:=lH hck
  obtain ⟨ok,hl,hmi⟩:=mtCk_ok hck;have HOK:=lH ok;have HMI:=lH (hmi m (List.mem_singleton.2 rfl));have HFT:=lH (HFC.o hck);rw [hck];clear ok hl hmi hck HFC;have PNX:=P0.o.below HB1.o P0.o.lt;obtain ⟨y0,y1,y2,y3,y4,y5,nf,nlt⟩:=net_box PNX;dsimp only at y0 y1 y2 y3 y4 y5;have P1b:=P1.o.below HB1.o P1.o.lt;have x0:=P1b.cell 0;have x1:=P1b.cell 1;have x2:=P1b.cell 2;have x3:=P1b.cell 3;have xl:=P1b.lt;clear PNX P1b
  go_upto_region 4 with fail
  go_cut [8] (fun v8 wc=>∃ (p8 gc:Nat) (u:Rv),v8=.pointer (some ⟨p8,0,none⟩)∧Blk wc p8 117 #[.slice (some ⟨gc,0,none⟩) (busN x) (busN x),.bool u.b1,.slice u.A u.n u.c,.bool u.b2,.slice u.A2 u.m u.d]∧RdQ wc wc.heap.size (some ⟨gc,0,none⟩) (busN x) (formR x m).1∧RtV wc wc.heap.size (formR x m).2 u∧Below w1.heap.size w1 wc)
  case first=>
   refine wp_region_last (S:=fun w'=>Below w1.heap.size w1 w') 6 _ (by kernel_rfl) (by kernel_rfl) rfl (below_drew (Below.refl _ _)) (fun hHeld=>?_);simp only [List.take_succ_cons,List.take_zero];refine tkH 0 rfl ?_;refine tkH 1 rfl ?_;refine tkH 3 rfl ?_;clear y0 y1 y2 y3 y4 y5 nf nlt x0 x1 x2 x3 xl;have HV0:=lH (below_drew (Below.refl w1.heap.size w1));generalize w1.drew=v0 at *;refine stepTwo 2 5 (by kernel_rfl) rfl rfl (fun K hK=>?_) (fun K hK=>?_)
   ·go_simp
    refine (flowOf_any _ x HOK.o h8 v0 (HX.o.up (HB1.o.trans (HV0.o.mono HB1.o.size)))).mono ?_;rintro e v1 ⟨hb,g,md,A7,n7,c7,rfl,hg,hblk,hrd,-⟩;have HV1:Hid (Below w1.heap.size w1 v1):=lH (HV0.o.trans (hb.mono HV0.o.size));have HG1:=lH hblk;have HR1:=lH hrd;clear hb hg hblk hrd;go_simp;refine hK.out _ _ ?_ (fun hHeld=>?_)
    ·exact HV1.o
    clear hK K
    try simp only [Act.put,sA_,sB_,sC_]
    refine stepTwo 4 5 (by kernel_rfl) rfl rfl (fun K hK=>?_) (fun K hK=>?_)
    ·go_simp
     refine (formOf_any _ x HOK.o h8 g md _ m v1 (HX.o.up (HB1.o.trans (HV1.o.mono HB1.o.size))) HG1.o HR1.o HMI.o.1 HMI.o.2).mono ?_;rintro e v2 ⟨hb,gc,u,rfl,hq,hv⟩;have HV2:Hid (Below w1.heap.size w1 v2):=lH (HV1.o.trans (hb.mono HV1.o.size));have HQ2:=lH hq;have HU2:=lH hv;have HGC:Hid (v1.heap.size≤v1.heap.size):=lH lR;clear hb hq hv HGC;go_simp;refine hK.out _ _ ?_ (fun hHeld=>?_)
     ·exact HV2.o
     clear hK K
     try simp only [Act.put,sA_,sB_,sC_]
     refine stepH 5 (by kernel_rfl) rfl (fun K hK=>?_);go_simp;have hz:Below v2.heap.size v2 (v2.alloc (.cells #[.slice none 0 0,.bool false,.slice none 0 0,.bool false,.slice none 0 0] 117)):=(Below.refl _ _).alloc lR _;have HL3:=lH (Blk.new v2 117 #[.slice none 0 0,.bool false,.slice none 0 0,.bool false,.slice none 0 0]);have HV3:Hid (Below w1.heap.size w1 (v2.alloc (.cells #[.slice none 0 0,.bool false,.slice none 0 0,.bool false,.slice none 0 0] 117))):=lH (HV2.o.trans (hz.mono HV2.o.size));have HPG:Hid (w1.heap.size≤v2.heap.size):=lH HV2.o.size;have HQ3:=lH (HQ2.o.up hz);have HU3:=lH (HU2.o.up hz);generalize v2.alloc (.cells #[.slice none 0 0,.bool false,.slice none 0 0,.bool false,.slice none 0 0] 117)=v3 at *;generalize v2.heap.size=p8 at *;clear hz;refine hK.out _ _ ?_ (fun hHeld=>?_)
     ·exact HV3.o
     clear hK K
     try simp only [Act.put,sA_,sB_,sC_]
     refine wpAnyH_done (by kernel_rfl) ?_ _;refine lastQ_go (by rfl) ?_;clear hHeld;have s0:=HL3.o.cell 0;have s1:=HL3.o.cell 1;have s2:=HL3.o.cell 2;have s3:=HL3.o.cell 3;have s4:=HL3.o.cell 4;have sl:=HL3.o.lt;have sf:=HL3.o.frozen
     go_wp2_with fail
     go_meet
     case rel=>exact ⟨p8,gc,u,rfl,put5_blk HL3.o,HQ3.o.keep5 HL3.o,HU3.o.keep5 HL3.o,below_put5 HV3.o HPG.o⟩
    ·go_simp
     have hz:Below v1.heap.size v1 (v1.alloc (.cells #[.slice none 0 0,.bool false,.slice none 0 0,.bool false,.slice none 0 0] 117)):=(Below.refl _ _).alloc lR _;have HL2:=lH (Blk.new v1 117 #[.slice none 0 0,.bool false,.slice none 0 0,.bool false,.slice none 0 0]);have HV2:Hid (Below w1.heap.size w1 (v1.alloc (.cells #[.slice none 0 0,.bool false,.slice none 0 0,.bool false,.slice none 0 0] 117))):=lH (HV1.o.trans (hz.mono HV1.o.size));have HPG:Hid (w1.heap.size≤v1.heap.size):=lH HV1.o.size;have HG2:=lH (HG1.o.below hz HG1.o.lt);have HR2:=lH (HR1.o.up hz);generalize v1.alloc (.cells #[.slice none 0 0,.bool false,.slice none 0 0,.bool false,.slice none 0 0] 117)=v2 at *;generalize v1.heap.size=p8 at *;clear hz;refine hK.out _ _ ?_ (fun hHeld=>?_)
     ·exact HV2.o
     clear hK K
     try simp only [Act.put,sA_,sB_,sC_]
     refine stepH 4 (by kernel_rfl) rfl (fun K hK=>?_);go_simp;refine (formOf_any _ x HOK.o h8 g md _ m v2 (HX.o.up (HB1.o.trans (HV2.o.mono HB1.o.size))) HG2.o HR2.o HMI.o.1 HMI.o.2).mono ?_;rintro e v3 ⟨hb,gc,u,rfl,hq,hv⟩;have HV3:Hid (Below w1.heap.size w1 v3):=lH (HV2.o.trans (hb.mono HV2.o.size));have HQ3:=lH hq;have HU3:=lH hv;have HGC:Hid (v2.heap.size≤v2.heap.size):=lH lR;have HL3:=lH (HL2.o.below hb HL2.o.lt);clear hb hq hv HGC;go_simp;refine hK.out _ _ ?_ (fun hHeld=>?_)
     ·exact HV3.o
     clear hK K
     try simp only [Act.put,sA_,sB_,sC_]
     refine wpAnyH_done (by kernel_rfl) ?_ _;refine lastQ_go (by rfl) ?_;clear hHeld;have s0:=HL3.o.cell 0;have s1:=HL3.o.cell 1;have s2:=HL3.o.cell 2;have s3:=HL3.o.cell 3;have s4:=HL3.o.cell 4;have sl:=HL3.o.lt;have sf:=HL3.o.frozen
     go_wp2_with fail
     go_meet
     case rel=>exact ⟨p8,gc,u,rfl,put5_blk HL3.o,HQ3.o.keep5 HL3.o,HU3.o.keep5 HL3.o,below_put5 HV3.o HPG.o⟩
   ·go_simp
    have hz:Below v0.heap.size v0 (v0.alloc (.cells #[.slice none 0 0,.bool false,.slice none 0 0,.bool false,.slice none 0 0] 117)):=(Below.refl _ _).alloc lR _;have HL1:=lH (Blk.new v0 117 #[.slice none 0 0,.bool false,.slice none 0 0,.bool false,.slice none 0 0]);have HV1:Hid (Below w1.heap.size w1 (v0.alloc (.cells #[.slice none 0 0,.bool false,.slice none 0 0,.bool false,.slice none 0 0] 117))):=lH (HV0.o.trans (hz.mono HV0.o.size));have HPG:Hid (w1.heap.size≤v0.heap.size):=lH HV0.o.size;generalize v0.alloc (.cells #[.slice none 0 0,.bool false,.slice none 0 0,.bool false,.slice none 0 0] 117)=v1 at *;generalize v0.heap.size=p8 at *;clear hz;refine hK.out _ _ ?_ (fun hHeld=>?_)
    ·exact HV1.o
    clear hK K
    try simp only [Act.put,sA_,sB_,sC_]
    refine stepH 2 (by kernel_rfl) rfl (fun K hK=>?_);go_simp;refine (flowOf_any _ x HOK.o h8 v1 (HX.o.up (HB1.o.trans (HV1.o.mono HB1.o.size)))).mono ?_;rintro e v2 ⟨hb,g,md,A7,n7,c7,rfl,hg,hblk,hrd,-⟩;have HV2:Hid (Below w1.heap.size w1 v2):=lH (HV1.o.trans (hb.mono HV1.o.size));have HG2:=lH hblk;have HR2:=lH hrd;have HL2:=lH (HL1.o.below hb HL1.o.lt);clear hb hg hblk hrd;go_simp;refine hK.out _ _ ?_ (fun hHeld=>?_)
    ·exact HV2.o
    clear hK K
    try simp only [Act.put,sA_,sB_,sC_]
    refine stepH 4 (by kernel_rfl) rfl (fun K hK=>?_);go_simp;refine (formOf_any _ x HOK.o h8 g md _ m v2 (HX.o.up (HB1.o.trans (HV2.o.mono HB1.o.size))) HG2.o HR2.o HMI.o.1 HMI.o.2).mono ?_;rintro e v3 ⟨hb,gc,u,rfl,hq,hv⟩;have HV3:Hid (Below w1.heap.size w1 v3):=lH (HV2.o.trans (hb.mono HV2.o.size));have HQ3:=lH hq;have HU3:=lH hv;have HGC:Hid (v2.heap.size≤v2.heap.size):=lH lR;have HL3:=lH (HL2.o.below hb HL2.o.lt);clear hb hq hv HGC;go_simp;refine hK.out _ _ ?_ (fun hHeld=>?_)
    ·exact HV3.o
    clear hK K
    try simp only [Act.put,sA_,sB_,sC_]
    refine wpAnyH_done (by kernel_rfl) ?_ _;refine lastQ_go (by rfl) ?_;clear hHeld;have s0:=HL3.o.cell 0;have s1:=HL3.o.cell 1;have s2:=HL3.o.cell 2;have s3:=HL3.o.cell 3;have s4:=HL3.o.cell 4;have sl:=HL3.o.lt;have sf:=HL3.o.frozen
    go_wp2_with fail
    go_meet
    case rel=>exact ⟨p8,gc,u,rfl,put5_blk HL3.o,HQ3.o.keep5 HL3.o,HU3.o.keep5 HL3.o,below_put5 HV3.o HPG.o⟩
  case rest=>
   obtain ⟨p8,gc,u,rfl,hbk,hq,hv,hbw⟩:=hcut;have HF:=lH hbk;have HQ:=lH hq;have HU:=lH hv;have HB2:=lH (HB1.o.trans (hbw.mono HB1.o.size));clear hbk hq hv hbw HB1 y0 y1 y2 y3 y4 y5 nf nlt x0 x1 x2 x3 xl;generalize wc=w2 at *;have HNB:Hid (busN x≤8):=lH (Nat.le_trans (busN_ok HOK.o).2 h8);have HQL:Hid ((formR x m).1.length=busN x):=lH HQ.o.len;have s0:=HF.o.cell 0;have s1:=HF.o.cell 1;have s2:=HF.o.cell 2;have s3:=HF.o.cell 3;have s4:=HF.o.cell 4;have sl:=HF.o.lt
   go_wp2_with fail
   clear s0 s1 s2 s3 s4 sl;refine (textvec_any _ (busN x) (busN x) (formR x m).1 w2 HQ.o (by have:=HNB.o;omega) (HT.o.up HB2.o)).mono ?_;rintro e w3 ⟨hb3,ht1,-⟩;obtain ⟨A3,n3,c3,rfl,hr3,-,-⟩:=ht1 HFT.o.1;have HB3:=lH (HB2.o.trans (hb3.mono HB2.o.size));have HS3:=lH hr3;have hn3:n3=busN x:=by rw [←hr3.1,List.length_map];exact HQL.o
   subst hn3;replace HU:=lH (HU.o.up hb3);replace HF:=lH (HF.o.below hb3 HF.o.lt);clear hb3 ht1 hr3 HB2 HQ;have s0:=HF.o.cell 0;have s1:=HF.o.cell 1;have s2:=HF.o.cell 2;have s3:=HF.o.cell 3;have s4:=HF.o.cell 4;have sl:=HF.o.lt
   go_wp2_with fail
   clear s0 s1 s2 s3 s4 sl;refine (textV HU.o (HT.o.up HB3.o)).mono ?_;rintro e w4 ⟨hb4,s,rfl,hs⟩;rw [decide_eq_true HFT.o.2];have HTX:Hid (s=txtQ (formR x m).2):=lH (hs HFT.o.2);have HB4:=lH (HK.o.trans ((HB3.o.trans (hb4.mono HB3.o.size)).mono HSZ.o));replace HS3:=lH ((HS3.o.below hb4 lR).more hb4.size);clear hb4 hs HB3
   go_wp2_with fail
   refine bodyPost_ret (v:=.tuple #[.slice A3 (busN x) c3,.string s,.int .i64 0]) (by simp [results,Tryz.results40,go_sem]) rfl ?_;rw [HOP.o];exact ⟨HB4.o,.inr ⟨HC.o,A3,c3,by rw [HTX.o],HS3.o⟩⟩
 ·have hckB:(mtCk x [m] != 0)=true:=by simp [hck]
  go_wp2_with fail
  refine bodyPost_ret (v:=.tuple #[.slice none 0 0,.string ⟨#[]⟩,.int .i64 (mtCk x [m])]) (by simp [results,Tryz.results40,go_sem]) rfl ?_;rw [HOP.o];exact ⟨HK.o.trans (HB1.o.mono HSZ.o),.inl ⟨hck,rfl⟩⟩
end
section
open Go.ChangeShapes Go.WideShapes Go.ChangeAt Go.RowKit
attribute [local go_sem ↓] execOp_call_val
attribute [local go_sem] callVal_func setCell_drewN alloc_drewN sEq_walk
def FreeP (x:Net) (w:World) (e:Ending) (w':World):Prop:=Below w.heap.size w w'∧((netCk x≠0∧e=.returned (.tuple #[.slice none 0 0,.int .i64 (netCk x)]))∨(netCk x=0∧∃ A c,e=.returned (.tuple #[.slice A (freeL x).length c,.int .i64 0])∧RdI w' w'.heap.size A (freeL x).length (natJ (freeL x))))
set_option maxRecDepth 100000 in
set_option maxHeartbeats 4000000 in
theorem free_any (h:NetH) (x:Net) (h8:x.nodes.length≤8) (w:World) (r:RdNet w w.heap.size h x):Calls Tryz.prog 29 #[.agg h.cells] w (FreeP x w):=by
 have K0:Below w.heap.size w (w.alloc (.cells h.cells 29)):=(Below.refl _ _).alloc lR _;have HK:=lH K0;have P0:=lH (Blk.new w 29 h.cells);have HX:=lH (r.up K0);have HSZ:Hid (w.heap.size≤(w.alloc (.cells h.cells 29)).heap.size):=lH K0.size;have HOK:Hid (netCk x=0→NetOk x):=lH netCk_ok;have HFP:Hid (∀ e w',FreeP x w e w'↔(Below w.heap.size w w'∧((netCk x≠0∧e=.returned (.tuple #[.slice none 0 0,.int .i64 (netCk x)]))∨(netCk x=0∧∃ A c,e=.returned (.tuple #[.slice A (freeL x).length c,.int .i64 0])∧RdI w' w'.heap.size A (freeL x).length (natJ (freeL x)))))):=lH fun e w'=>Iff.rfl;have HCK:=lH (check_any h x (w.alloc (.cells h.cells 29)) HX.o);generalize netCk x=ck at *;clear K0 r;obtain ⟨D0,r0,s0,D1,r1,s1,D2,r2,s2,D3,r3,s3,D4,r4,s4,D5,r5,s5⟩:=h;obtain ⟨y0,y1,y2,y3,y4,y5,nf,nlt⟩:=net_box P0.o;dsimp only at y0 y1 y2 y3 y4 y5;go_enter Tryz.func29,Tryz.ntmps29
 go_wp2_with fail
 generalize w.alloc (.cells (NetH.cells ⟨D0,r0,s0,D1,r1,s1,D2,r2,s2,D3,r3,s3,D4,r4,s4,D5,r5,s5⟩) 29)=W at *;refine HCK.o.mono ?_;rintro e w1 ⟨rfl,hb1⟩;have HB1:=lH hb1;clear hb1 y0 y1 y2 y3 y4 y5 nf nlt HCK
 by_cases h0:ck=0
 ·subst h0
  have P1:=P0.o.below HB1.o P0.o.lt;obtain ⟨y0,y1,y2,y3,y4,y5,nf,nlt⟩:=net_box P1;dsimp only at y0 y1 y2 y3 y4 y5;clear P1
  go_wp2_with fail
  refine (flowOf_any _ x (HOK.o (by simp)) h8 w1 (HX.o.up HB1.o)).mono ?_;rintro e w2 ⟨hb2,g,m,A7,n7,c7,rfl,hg,hblk,hrd,-⟩;have HB2:=lH (HK.o.trans ((HB1.o.trans (hb2.mono HB1.o.size)).mono HSZ.o));have HN6:Hid ((freeL x).length=m.n6):=lH (by rw [←natJ_len];exact hrd.r6.len);have H6:=lH hrd.r6;have g6:w2.cell? ⟨g,6,none⟩=some (.slice m.A6 m.n6 m.c6):=hblk.cell 6;have gl:=hblk.lt;clear hb2 hg hblk hrd y0 y1 y2 y3 y4 y5 nf nlt
  go_wp2_with fail
  refine bodyPost_ret (v:=.tuple #[.slice m.A6 m.n6 m.c6,.int .i64 0]) (by simp [results,Tryz.results29,go_sem]) rfl ?_;rw [HFP.o];exact ⟨HB2.o,.inr ⟨by simp,m.A6,m.c6,by rw [HN6.o],by rw [HN6.o];exact H6.o⟩⟩
 ·have hb:(ck != 0)=true:=by simp [h0]
  go_wp2_with fail
  refine bodyPost_ret (v:=.tuple #[.slice none 0 0,.int .i64 ck]) (by simp [results,Tryz.results29,go_sem]) rfl ?_;rw [HFP.o];exact ⟨HK.o.trans (HB1.o.mono HSZ.o),.inl ⟨h0,rfl⟩⟩
end
section
open Go.ChangeShapes Go.WideShapes Go.ChangeAt Go.RowKit
attribute [local go_sem ↓] execOp_call_val
attribute [local go_sem] callVal_func setCell_drewN alloc_drewN
def sameI (a b:List Int):Bool:=decide (a=b)
set_option maxHeartbeats 1000000 in
theorem sameInts_any (A:Option Addr) (n c:Nat) (a:List Int) (B:Option Addr) (m d:Nat) (b:List Int) (w:World) (ha:RdI w w.heap.size A n a) (hb:RdI w w.heap.size B m b) (hn:n≤9223372036854775807) :
    Calls Tryz.prog 46 #[.slice A n c,.slice B m d] w fun e w'=>e=.returned (.bool (sameI a b))∧∃ nq,w'=w.drewN nq:=by
 have hla:=lH ha.len;have hlb:=lH hb.len
 by_cases hnm:n=m
 ·subst hnm
  go_enter Tryz.func46,Tryz.ntmps46
  go_wp2_with fail
  go_loopw [5,13] (fun _ i wr=>∃ k nq:Nat,k≤n∧i=.int .i64 k∧wr=w.drewN nq∧a.take k=b.take k) (fun _ i _=>n-(intOf i).toNat)
  case atStart=>exact ⟨0,0,by omega,rfl,rfl,by simp⟩
  case round=>
   obtain ⟨k,nq,hk,rfl,rfl,heq⟩:=hrel;have HEQ:=lH heq;clear heq
   by_cases hlt:k<n
   ·obtain ⟨x,hx⟩:∃ x,a[k]?=some x:=⟨_,zA_ (by have:=hla.out;omega)⟩
    obtain ⟨y,hy⟩:∃ y,b[k]?=some y:=⟨_,zA_ (by have:=hlb.out;omega)⟩;obtain ⟨ba,oa,rfl,hablt,_⟩:=ha.2 (by omega);obtain ⟨bb,ob,rfl,hbblt,_⟩:=hb.2 (by omega);have hca:=ha.at_ hx;have hcb:=hb.at_ hy;have hltI:(k:Int)<(n:Int):=by omega
    have hkI:(0:Int)≤(k:Int):=by omega
    have HX:=lH hx;have HY:=lH hy;clear hx hy;cases hp:(x != y) with
    | true=>
     have HP:=lH hp
     go_wp2_with fail
     go_quiet (fail)
     go_wp2_with fail
     go_ret;refine ⟨ret_bool ?_,_,World.drewN_drewN _ _ _⟩;unfold sameI;have hne:a≠b:=by
      intro he;subst he;have h1:=HX.o;rw [HY.o] at h1;injection h1 with h1;have h2:=HP.o;simp [h1] at h2
     simp [hne]
    | false=>
     have HP:=lH hp
     go_wp2_with fail
     go_quiet (fail)
     go_wp2_with fail
     go_roundw
     case rel=>
      refine ⟨k+1,_,by omega,by go_num,rfl,?_⟩;have h2:=HP.o;simp at h2;rw [List.take_add_one,List.take_add_one,HEQ.o,HX.o,HY.o,h2]
     case measure=>simp [intOf];omega
   ·have hkn:k=n:=by omega
    have HKN:=lH hkn;clear hkn
    go_wp2_with fail
    go_ret;refine ⟨ret_bool ?_,_,rfl⟩;have h1:=HEQ.o;rw [List.take_of_length_le (by have:=hla.out;omega),List.take_of_length_le (by have:=hlb.out;omega)] at h1;simp [sameI,h1]
 ·have hne:¬(n:Int)=(m:Int):=by omega
  go_enter Tryz.func46,Tryz.ntmps46
  go_wp2_with fail
  go_ret;refine ⟨ret_bool ?_,0,rfl⟩;have:a≠b:=by intro he;subst he;have:=hla.out;have:=hlb.out;omega
  simp [sameI,this]
end
section
open Go.ChangeShapes Go.WideShapes Go.ChangeAt Go.RowKit
attribute [local go_sem ↓] execOp_call_val
attribute [local go_sem] callVal_func setCell_drewN alloc_drewN
set_option maxHeartbeats 1000000 in
theorem hasInt_any (A:Option Addr) (n c:Nat) (zs:List Int) (z:Int) (w:World) (hr:RdI w w.heap.size A n zs) (hn:n≤9223372036854775807) :
    Calls Tryz.prog 30 #[.slice A n c,.int .i64 z] w fun e w'=>e=.returned (.bool (zs.any (· == z)))∧w=w':=by
 have hlen:=lH hr.len;go_enter Tryz.func30,Tryz.ntmps30
 go_wp2_with fail
 go_loop [6,9] (fun _ i=>∃ k:Nat,k≤n∧i=.int .i64 k∧zs.any (· == z)=(zs.drop k).any (· == z)) (fun _ i=>n-(intOf i).toNat)
 case atStart=>exact ⟨0,by omega,rfl,rfl⟩
 case round=>
  obtain ⟨k,hk,rfl,hidx⟩:=hrel;have HIDX:=lH hidx;clear hidx
  by_cases hlt:k<n
  ·obtain ⟨y,hy⟩:∃ y,zs[k]?=some y:=⟨_,zA_ (by have:=hlen.out;omega)⟩
   obtain ⟨b,off,rfl,hblt,_⟩:=hr.2 (by omega);have hcell:=hr.at_ hy;have HZ:=lH (drop_cons hy);clear hy;cases hp:(y == z) with
   | true=>
    have HP:=lH hp
    go_wp2_with fail
    go_ret;exact ⟨ret_bool (by rw [HIDX.o,HZ.o];simp [HP.o]),rfl⟩
   | false=>
    have HP:=lH hp
    go_wp2_with fail
    go_round
    case rel=>exact ⟨k+1,by omega,by go_num,by rw [HIDX.o,HZ.o];simp [HP.o]⟩
    case measure=>simp [intOf];omega
  ·have hd:zs.drop k=[]:=by rw [List.drop_eq_nil_iff];have:=hlen.out;omega
   have HD:=lH hd;clear hd
   go_wp2_with fail
   go_ret;exact ⟨ret_bool (by rw [HIDX.o,HD.o];rfl),rfl⟩
end
section
open Go.ChangeShapes Go.WideShapes Go.ChangeAt Go.RowKit
attribute [local go_sem ↓] execOp_call_val
attribute [local go_sem] callVal_func setCell_drewN alloc_drewN sEq_walk
theorem fits_sm {q:Rat} (h:q.num.natAbs<10^5∧q.den<10^5):Fits q:=Tn.fits (k:=5) h (by decide)
def mwB:Mi:=⟨1,⟨#[66]⟩,⟨#[48]⟩,1⟩
def mwL:List Mi:=[⟨0,⟨#[76]⟩,⟨#[48]⟩,1⟩]
def mwA:List ByteArray:=[⟨#[48]⟩,⟨#[45,53]⟩,⟨#[45,55]⟩]
theorem mw_form:formR pnNet mwB=([-1,3,-2],0):=by decide+kernel
theorem mw_ck:mtCk pnNet [mwB]=0∧readE pnNet mwL mwA=0∧busN pnNet=3∧freeL pnNet=[1,2]∧netCk pnNet=0:=by decide+kernel
theorem mw_val:mvals pnNet mwL mwA=[5]:=by decide+kernel
theorem mw_txt:txtQ (-1)=⟨#[45,49]⟩∧txtQ 3=⟨#[51]⟩∧txtQ (-2)=⟨#[45,50]⟩∧txtQ 0=⟨#[48]⟩∧txtQ 5=⟨#[53]⟩:=by decide+kernel
theorem mw_fit:(∀ q∈(formR pnNet mwB).1,Fits q)∧Fits (formR pnNet mwB).2:=by
 rw [mw_form];refine ⟨fun q hq=>?_,fits_sm (by decide+kernel)⟩;simp only [List.mem_cons,List.not_mem_nil,or_false] at hq;rcases hq with rfl | rfl | rfl<;>exact fits_sm (by decide+kernel)
theorem mw_vfit:∀ q∈mvals pnNet mwL mwA,Fits q:=by
 rw [mw_val];intro q hq;rw [List.mem_singleton.1 hq];exact fits_sm (by decide+kernel)
theorem mw_vec:(formR pnNet mwB).1.map txtQ=[⟨#[45,49]⟩,⟨#[51]⟩,⟨#[45,50]⟩]∧txtQ (formR pnNet mwB).2=⟨#[48]⟩∧(mvals pnNet mwL mwA).map txtQ=[⟨#[53]⟩]:=by
 rw [mw_form,mw_val];obtain ⟨h1,h2,h3,h4,h5⟩:=mw_txt;simp only [List.map_cons,List.map_nil,h1,h2,h3,h4,h5,and_self]
theorem mw_sz:(∀ m∈mwL,m.txt.size≤maxLen)∧∀ s∈mwA,s.size≤maxLen:=by decide+kernel
set_option maxRecDepth 100000 in
set_option maxHeartbeats 4000000 in
theorem mworks_any (w:World) (ht:TabOk w):Calls Tryz.prog 21 #[] w fun e w'=>e=.returned (.bool true)∧Below w.heap.size w w':=by
 have HT:=lH ht;clear ht;go_enter Tryz.func21,Tryz.ntmps21
 go_wp2_with fail
 refine (pairNet_any w).mono ?_;rintro e w1 ⟨h1,rfl,hr1,hb1⟩;have HB1:=lH hb1;have HR1:=lH hr1;have HT1:=lH (HT.o.up hb1);clear hb1 hr1
 go_wp2_with fail
 refine (mof_any h1 pnNet (by decide) mwB w1 HR1.o (by decide) HT1.o (fun _=>mw_fit)).mono ?_;rintro e w2 ⟨hb2,hh⟩;rcases hh with ⟨h0,_⟩ | ⟨_,A2,c2,rfl,hs2⟩
 ·exact absurd mw_ck.1 h0
 rw [mw_vec.1,mw_ck.2.2.1] at hs2;rw [mw_vec.2.1,mw_ck.2.2.1];have HB2:=lH (HB1.o.trans (hb2.mono HB1.o.size));have HV:=lH hs2;clear hb2 hs2 HR1 HT1 HB1
 go_wp2_with fail
 refine (pairNet_any w2).mono ?_;rintro e w3 ⟨h3,rfl,hr3,hb3⟩;have HB3:=lH (HB2.o.trans (hb3.mono HB2.o.size));have HR3:=lH hr3;replace HV:=lH ((HV.o.below hb3 lR).more hb3.size);clear hb3 hr3 HB2
 go_wp2_with fail
 refine (flowMeter_any ⟨#[76]⟩ ⟨#[48]⟩ w3).mono ?_;rintro e w4 ⟨rfl,hb4⟩;have HB4:=lH (HB3.o.trans (hb4.mono HB3.o.size));replace HR3:=lH (HR3.o.up hb4);replace HV:=lH ((HV.o.below hb4 lR).more hb4.size);clear hb4 HB3
 go_wp2_with fail
 have hz:Below w4.heap.size w4 ((w4.alloc (.cells #[.int .i64 0,.string ⟨#[76]⟩,.string ⟨#[48]⟩,.int .i64 1] 57)).alloc (.cells #[.string ⟨#[48]⟩,.string ⟨#[45,53]⟩,.string ⟨#[45,55]⟩] 55)):=((Below.refl _ _).alloc lR _).alloc (by simp) _;have HM:Hid (RdMi ((w4.alloc (.cells #[.int .i64 0,.string ⟨#[76]⟩,.string ⟨#[48]⟩,.int .i64 1] 57)).alloc (.cells #[.string ⟨#[48]⟩,.string ⟨#[45,53]⟩,.string ⟨#[45,55]⟩] 55)) ((w4.alloc (.cells #[.int .i64 0,.string ⟨#[76]⟩,.string ⟨#[48]⟩,.int .i64 1] 57)).alloc (.cells #[.string ⟨#[48]⟩,.string ⟨#[45,53]⟩,.string ⟨#[45,55]⟩] 55)).heap.size (some ⟨w4.heap.size,0,none⟩) 1 mwL):=lH ⟨rfl,rd_lit (vs:=mwL.flatMap Mi.cells) (T:=57) ((Blk.new w4 _ _).alloc _) rfl (by simp;omega)⟩
 have HA:Hid (RdStr ((w4.alloc (.cells #[.int .i64 0,.string ⟨#[76]⟩,.string ⟨#[48]⟩,.int .i64 1] 57)).alloc (.cells #[.string ⟨#[48]⟩,.string ⟨#[45,53]⟩,.string ⟨#[45,55]⟩] 55)) ((w4.alloc (.cells #[.int .i64 0,.string ⟨#[76]⟩,.string ⟨#[48]⟩,.int .i64 1] 57)).alloc (.cells #[.string ⟨#[48]⟩,.string ⟨#[45,53]⟩,.string ⟨#[45,55]⟩] 55)).heap.size (some ⟨w4.heap.size+1,0,none⟩) 3 mwA):=lH (rdStr_lit (zs:=mwA) (T:=55) (Blk.new_ (w:=(w4.alloc (.cells #[.int .i64 0,.string ⟨#[76]⟩,.string ⟨#[48]⟩,.int .i64 1] 57))) (by simp)) (by simp));have HB5:=lH (HB4.o.trans (hz.mono HB4.o.size));replace HR3:=lH (HR3.o.up hz);replace HV:=lH ((HV.o.below hz lR).more hz.size);have HT5:=lH (HT.o.up HB5.o);clear hz HB4;generalize (w4.alloc (.cells #[.int .i64 0,.string ⟨#[76]⟩,.string ⟨#[48]⟩,.int .i64 1] 57)).alloc (.cells #[.string ⟨#[48]⟩,.string ⟨#[45,53]⟩,.string ⟨#[45,55]⟩] 55)=w5 at *
 refine (mread_any h3 pnNet (by decide) _ 1 1 mwL _ 3 3 mwA w5 HR3.o HM.o HA.o mw_sz.1 mw_sz.2 (by decide) (by decide) HT5.o).mono ?_;rintro e w6 ⟨hb6,hh⟩;rcases hh with ⟨h0,_⟩ | ⟨_,hh,-⟩
 ·exact absurd mw_ck.2.1 h0
 obtain ⟨A6,n6,c6,rfl,hs6,-,-⟩:=hh mw_vfit;rw [mw_vec.2.2] at hs6;have hn6:n6=1:=hs6.1.symm;subst hn6;have HB6:=lH (HB5.o.trans (hb6.mono HB5.o.size));have HW:=lH hs6;replace HV:=lH ((HV.o.below hb6 lR).more hb6.size);clear hb6 hs6 HB5 HR3 HM HA HT5 hh
 go_wp2_with fail
 refine (pairNet_any w6).mono ?_;rintro e w7 ⟨h7,rfl,hr7,hb7⟩;have HB7:=lH (HB6.o.trans (hb7.mono HB6.o.size));have HR7:=lH hr7;replace HV:=lH ((HV.o.below hb7 lR).more hb7.size);replace HW:=lH ((HW.o.below hb7 lR).more hb7.size);clear hb7 hr7 HB6
 go_wp2_with fail
 refine (free_any h7 pnNet (by decide) w7 HR7.o).mono ?_;rintro e w8 ⟨hb8,hh⟩;rcases hh with ⟨h0,_⟩ | ⟨_,A8,c8,rfl,hi8⟩
 ·exact absurd mw_ck.2.2.2.2 h0
 rw [mw_ck.2.2.2.1] at hi8 ⊢;have HB8:=lH (HB7.o.trans (hb8.mono HB7.o.size));have HI:Hid (RdI w8 w8.heap.size A8 2 [1,2]):=lH hi8;replace HV:=lH ((HV.o.below hb8 lR).more hb8.size);replace HW:=lH ((HW.o.below hb8 lR).more hb8.size);clear hb8 hi8 HB7 HR7;simp only [List.length_cons,List.length_nil,Nat.zero_add]
 go_wp2_with fail
 have hz:Below w8.heap.size w8 (w8.alloc (.cells #[.string ⟨#[45,49]⟩,.string ⟨#[51]⟩,.string ⟨#[45,50]⟩] 55)):=(Below.refl _ _).alloc lR _;have HLa:Hid (RdStr (w8.alloc (.cells #[.string ⟨#[45,49]⟩,.string ⟨#[51]⟩,.string ⟨#[45,50]⟩] 55)) (w8.alloc (.cells #[.string ⟨#[45,49]⟩,.string ⟨#[51]⟩,.string ⟨#[45,50]⟩] 55)).heap.size (some ⟨w8.heap.size,0,none⟩) 3 [⟨#[45,49]⟩,⟨#[51]⟩,⟨#[45,50]⟩]):=lH (rdStr_lit (zs:=[⟨#[45,49]⟩,⟨#[51]⟩,⟨#[45,50]⟩]) (T:=55) (Blk.new_ (w:=w8) (by simp)) (by simp));have HB9:=lH (HB8.o.trans (hz.mono HB8.o.size));replace HV:=lH ((HV.o.below hz lR).more hz.size);replace HW:=lH ((HW.o.below hz lR).more hz.size);replace HI:=lH ((HI.o.below hz lR).more hz.size);clear hz HB8;generalize w8.alloc (.cells #[.string ⟨#[45,49]⟩,.string ⟨#[51]⟩,.string ⟨#[45,50]⟩] 55)=w9 at *;refine (samevec_any A2 3 c2 _ _ 3 3 _ w9 HV.o HLa.o (by decide) (by decide)).mono ?_
 rintro e w10 ⟨rfl,hb10⟩;rw [decide_eq_true rfl];have HB10:=lH (HB9.o.trans (hb10.mono HB9.o.size));replace HW:=lH ((HW.o.below hb10 lR).more hb10.size);replace HI:=lH ((HI.o.below hb10 lR).more hb10.size);clear hb10 HB9 HV HLa
 go_wp2_with fail
 have hz:Below w10.heap.size w10 (w10.alloc (.cells #[.string ⟨#[53]⟩] 55)):=(Below.refl _ _).alloc lR _;have HLb:Hid (RdStr (w10.alloc (.cells #[.string ⟨#[53]⟩] 55)) (w10.alloc (.cells #[.string ⟨#[53]⟩] 55)).heap.size (some ⟨w10.heap.size,0,none⟩) 1 [⟨#[53]⟩]):=lH (rdStr_lit (zs:=[⟨#[53]⟩]) (T:=55) (Blk.new_ (w:=w10) (by simp)) (by simp));have HB11:=lH (HB10.o.trans (hz.mono HB10.o.size));replace HW:=lH ((HW.o.below hz lR).more hz.size);replace HI:=lH ((HI.o.below hz lR).more hz.size);clear hz HB10;generalize w10.alloc (.cells #[.string ⟨#[53]⟩] 55)=w11 at *;refine (samevec_any A6 1 c6 _ _ 1 1 _ w11 HW.o HLb.o (by decide) (by decide)).mono ?_;rintro e w12 ⟨rfl,hb12⟩;rw [decide_eq_true rfl];have HB12:=lH (HB11.o.trans (hb12.mono HB11.o.size));replace HI:=lH ((HI.o.below hb12 lR).more hb12.size);clear hb12 HB11 HW HLb
 go_wp2_with fail
 have hz:Below w12.heap.size w12 (w12.alloc (.cells #[.int .i64 1,.int .i64 2] 3)):=(Below.refl _ _).alloc lR _;have HJ:Hid (RdI (w12.alloc (.cells #[.int .i64 1,.int .i64 2] 3)) (w12.alloc (.cells #[.int .i64 1,.int .i64 2] 3)).heap.size (some ⟨w12.heap.size,0,none⟩) 2 [1,2]):=lH (rd_lit (vs:=ints [1,2]) (T:=3) (Blk.new w12 _ _) rfl (by simp));have HB13:=lH (HB12.o.trans (hz.mono HB12.o.size));replace HI:=lH ((HI.o.below hz lR).more hz.size);clear hz HB12;generalize w12.alloc (.cells #[.int .i64 1,.int .i64 2] 3)=w13 at *;refine (sameInts_any A8 2 c8 [1,2] _ 2 2 [1,2] w13 HI.o HJ.o (by decide)).mono ?_;rintro e w14 ⟨rfl,nq,rfl⟩;have HB14:=lH (below_drewN HB13.o nq);rw [show sameI [1,2] [1,2]=true from by decide];generalize w13.drewN nq=w14 at *
 go_wp2_with fail
 go_ret;exact ⟨rfl,HB14.o⟩
end
section
open Go.ChangeShapes Go.WideShapes Go.ChangeAt Go.RowKit
attribute [local go_sem ↓] execOp_call_val
attribute [local go_sem] callVal_func setCell_drewN alloc_drewN sEq_walk
theorem ownNo_lit0 {w:World}:OwnS NoI (w.alloc (.cells #[] 93)) w.heap.size 93 1 (.slice (some ⟨w.heap.size,0,none⟩) 0 0) 0 []:=
 ⟨rfl,.inr ⟨w.heap.size,0,#[],rfl,lR,Blk.new w _ _,lR,by simp [maxLen],rfl,rfl,fun u hu=>by simp at hu⟩⟩
theorem wpList_appRows {ops:Array Oper} {rest:List Oper} {o:Oper} {a:Act} {w:World} {Q:Exit→Act→World→Prop} (hgd:o.guard=none) (s x:Operand) (t:TypeId)
    (ho:o.op=.call { callee:=.builtin .append,args:=#[s,x],argTypes:=#[t,t] }) (base:Nat) (ht:Tryz.prog.underlying t=some (.slice 93))
    (v:Value) (hs:List Hd) (hsv:a.eval s=v) (hown:OwnS NoI w base 93 1 v hs.length (hs.map Hd.val))
    (A:Option Addr) (m c:Nat) (h2:List Hd) (hm:h2.length=m) (hx:a.eval x=.slice A m c) (hr:Rd w w.heap.size 1 A m (h2.map Hd.val)) (h63:hs.length+m≤1000000000) (hbase:base≤w.heap.size) (N:Nat) (hN:(hs++h2).length=N)
    (h:∀ A' c' w',OwnS NoI w' base 93 1 (.slice A' N c') (hs++h2).length ((hs++h2).map Hd.val)→Below base w w'→Keeps NoI base 93 w w'→wpList Tryz.prog ops Q rest (a.put o.dst (.slice A' N c')) w'):wpList Tryz.prog ops Q (o::rest) a w:=by
 refine wpList_plain hgd fun K hK=>?_;exact wp_appRows s x t ho base ht v hs hsv hown A m c h2 hm hx hr h63 hbase N hN fun A' c' w' a1 a2 a3=>hK _ _ (h A' c' w' a1 a2 a3)
set_option maxHeartbeats 1000000 in
theorem cloneM_any (A:Option Addr) (n c:Nat) (hs:List Hd) (w:World) (hl:hs.length=n) (hr:Rd w w.heap.size 1 A n (hs.map Hd.val)) (hn:n≤1000000) :
    Calls Tryz.prog 89 #[.slice A n c] w fun e w'=>Below w.heap.size w w'∧∃ A' c',e=.returned (.slice A' n c')∧OwnS NoI w' w.heap.size 93 1 (.slice A' n c') hs.length (hs.map Hd.val):=by
 have q22:∀ (w:World) (a:Option Addr) (n c n' c':Nat),(binOp .eql 92 (.slice a n c) (.slice none n' c')).run Tryz.prog w=.ok (.bool a.isNone) w:=fun w a n c n' c'=>Lib.run_eql_slice_nil w _ _ a n c n' c' Tryz.underlying92;have HL:=lH hl;have HR:=lH hr;cases A with
 | none=>
  have h0:n=0:=by
   rcases Nat.eq_zero_or_pos n with h | h
   ·exact h
   ·obtain ⟨b,off,e,_⟩:=hr.2 h;cases e
  subst h0;have hnil:hs=[]:=List.eq_nil_of_length_eq_zero hl;subst hnil;clear hl hr HL HR;go_enter Tryz.func89,Tryz.ntmps89
  go_wp2_with fail
  go_ret;exact ⟨Below.refl _ _,none,0,rfl,ownS_none _ _ _ _ _⟩
 | some ad=>
  clear hl hr;have hz:Below w.heap.size w (w.alloc (.cells #[] 93)):=(Below.refl _ _).alloc lR _;have HZ:=lH hz;clear hz;go_enter Tryz.func89,Tryz.ntmps89
  go_wp2_with (at_builtin;refine wpList_appRows rfl _ _ 92 rfl w.heap.size Tryz.underlying92 _ [] rfl ownNo_lit0 (some ad) n c hs HL.o rfl ?qc1 ?qc2 ?qc3 n ?qc4 ?_)
  case qc1=>exact (HR.o.below HZ.o lR).more HZ.o.size
  case qc2=>simp only [List.length_nil];omega
  case qc3=>exact HZ.o.size
  case qc4=>rw [List.nil_append];exact HL.o
  intro A' c' w' ho hb _;have HO:Hid (OwnS NoI w' w.heap.size 93 1 (.slice A' n c') hs.length (hs.map Hd.val)):=lH ho;have HB:=lH (HZ.o.trans hb);clear ho hb
  go_wp2_with fail
  go_ret;exact ⟨HB.o,A',c',rfl,HO.o⟩
set_option maxHeartbeats 1000000 in
theorem cloneMi_any (A:Option Addr) (n c:Nat) (ms:List Mi) (w:World) (hr:RdMi w w.heap.size A n ms) (hn:n≤1000000) :
    Calls Tryz.prog 52 #[.slice A n c] w fun e w'=>Below w.heap.size w w'∧∃ A' c',e=.returned (.slice A' n c')∧OwnMi w' w.heap.size (.slice A' n c') ms:=by
 have q22:∀ (w:World) (a:Option Addr) (n c n' c':Nat),(binOp .eql 31 (.slice a n c) (.slice none n' c')).run Tryz.prog w=.ok (.bool a.isNone) w:=fun w a n c n' c'=>Lib.run_eql_slice_nil w _ _ a n c n' c' Tryz.underlying31;have HR:=lH hr;cases A with
 | none=>
  have h0:n=0:=by
   rcases Nat.eq_zero_or_pos n with h | h
   ·exact h
   ·obtain ⟨b,off,e,_⟩:=hr.2.2 h;cases e
  subst h0;have hnil:ms=[]:=List.eq_nil_of_length_eq_zero hr.1;subst hnil;clear hr HR;go_enter Tryz.func52,Tryz.ntmps52
  go_wp2_with fail
  go_ret;exact ⟨Below.refl _ _,none,0,rfl,ownMi_none _ _⟩
 | some ad=>
  clear hr;have hz:Below w.heap.size w (w.alloc (.cells #[] 57)):=(Below.refl _ _).alloc lR _;have HZ:=lH hz;clear hz;go_enter Tryz.func52,Tryz.ntmps52
  go_wp2_with (at_builtin;refine wpList_appMi rfl _ _ 31 rfl w.heap.size Tryz.underlying31 _ [] rfl ownMi_lit0 (some ad) n c ms rfl ?qc1 ?qc2 ?qc3 n ?qc4 ?_)
  case qc1=>exact (HR.o.below HZ.o lR).more HZ.o.size
  case qc2=>simp only [List.length_nil];omega
  case qc3=>exact HZ.o.size
  case qc4=>rw [List.nil_append];exact HR.o.1
  intro A' c' w' ho hb _;have HO:Hid (OwnMi w' w.heap.size (.slice A' n c') ms):=lH ho;have HB:=lH (HZ.o.trans hb);clear ho hb
  go_wp2_with fail
  go_ret;exact ⟨HB.o,A',c',rfl,HO.o⟩
end
section
open Go.ChangeShapes Go.WideShapes Go.ChangeAt Go.RowKit
attribute [local go_sem ↓] execOp_call_val
attribute [local go_sem] callVal_func setCell_drewN alloc_drewN sEq_walk
def exMi (x:Net) (al:List Rat) (m:Mi):Mi:={ m with txt:=txtQ (mval x al m) }
def ExP (x:Net) (ms:List Mi) (ss:List ByteArray) (w:World) (e:Ending) (w':World):Prop:=Below w.heap.size w w'∧((readE x ms ss≠0∧e=.returned (.tuple #[.slice none 0 0,.int .i64 (readE x ms ss)]))∨
 (readE x ms ss=0∧((∀ q∈mvals x ms ss,Fits q)→∃ A c,e=.returned (.tuple #[.slice A ms.length c,.int .i64 0])∧OwnMi w' w.heap.size (.slice A ms.length c) (ms.map (exMi x (ss.map qOf))))∧(¬(∀ q∈mvals x ms ss,Fits q)→e=.returned (.tuple #[.slice none 0 0,.int .i64 2]))))
set_option maxRecDepth 100000 in
set_option maxHeartbeats 4000000 in
theorem mexact_any (h:NetH) (x:Net) (h8:x.nodes.length≤8) (A:Option Addr) (n c:Nat) (ms:List Mi) (B:Option Addr) (mm d:Nat) (ss:List ByteArray) (w:World) (r:RdNet w w.heap.size h x) (hm:RdMi w w.heap.size A n ms) (hR:RdStr w w.heap.size B mm ss) (hz:∀ m∈ms,m.txt.size≤maxLen) (hs:∀ s∈ss,s.size≤maxLen) (hn:n≤1000000) (hmm:mm≤9223372036854775807) (ht:TabOk w) :
    Calls Tryz.prog 36 #[.agg h.cells,.slice A n c,.slice B mm d] w (ExP x ms ss w):=by
 have K0:Below w.heap.size w (w.alloc (.cells h.cells 29)):=(Below.refl _ _).alloc lR _;have HK:=lH K0;have P0:=lH (Blk.new w 29 h.cells);have HM:=lH ((hm.below K0 lR).more K0.size);have HML:Hid (ms.length=n):=lH hm.1;have HRD:=lH (mread_any h x h8 A n c ms B mm d ss (w.alloc (.cells h.cells 29)) (r.up K0) HM.o ((hR.below K0 lR).more K0.size) hz hs (by omega) hmm (ht.up K0));have HSZ:Hid (w.heap.size≤(w.alloc (.cells h.cells 29)).heap.size):=lH K0.size;have HEP:Hid (∀ e w',ExP x ms ss w e w'↔(Below w.heap.size w w'∧((readE x ms ss≠0∧e=.returned (.tuple #[.slice none 0 0,.int .i64 (readE x ms ss)]))∨
 (readE x ms ss=0∧((∀ q∈mvals x ms ss,Fits q)→∃ A c,e=.returned (.tuple #[.slice A ms.length c,.int .i64 0])∧OwnMi w' w.heap.size (.slice A ms.length c) (ms.map (exMi x (ss.map qOf))))∧(¬(∀ q∈mvals x ms ss,Fits q)→e=.returned (.tuple #[.slice none 0 0,.int .i64 2])))))):=lH fun e w'=>Iff.rfl
 have HRP:Hid (∀ e w',ReadP x ms ss (w.alloc (.cells h.cells 29)) e w'→(Below (w.alloc (.cells h.cells 29)).heap.size (w.alloc (.cells h.cells 29)) w'∧((readE x ms ss≠0∧e=.returned (.tuple #[.slice none 0 0,.int .i64 (readE x ms ss)]))∨
 (readE x ms ss=0∧((∀ q∈mvals x ms ss,Fits q)→∃ A n c,e=.returned (.tuple #[.slice A n c,.int .i64 0])∧RdStr w' w'.heap.size A n ((mvals x ms ss).map txtQ)∧n≤c∧c≤maxLen)∧(¬(∀ q∈mvals x ms ss,Fits q)→e=.returned (.tuple #[.slice none 0 0,.int .i64 2])))))):=lH fun e w' h=>h
 generalize readE x ms ss=re at *;clear K0 hm hR r ht hs hz;obtain ⟨D0,r0,s0,D1,r1,s1,D2,r2,s2,D3,r3,s3,D4,r4,s4,D5,r5,s5⟩:=h;obtain ⟨y0,y1,y2,y3,y4,y5,nf,nlt⟩:=net_box P0.o;dsimp only at y0 y1 y2 y3 y4 y5;go_enter Tryz.func36,Tryz.ntmps36
 go_wp2_with fail
 generalize w.alloc (.cells (NetH.cells ⟨D0,r0,s0,D1,r1,s1,D2,r2,s2,D3,r3,s3,D4,r4,s4,D5,r5,s5⟩) 29)=W at *;refine HRD.o.mono ?_;intro e w1 hh;obtain ⟨hb1,hcase⟩:=HRP.o e w1 hh;have HB1:=lH hb1;clear hh hb1 y0 y1 y2 y3 y4 y5 nf nlt HRD HRP;rcases hcase with ⟨hre,rfl⟩ | ⟨hre,hf1,hf2⟩
 ·have hB:(re != 0)=true:=by simp [hre]
  have HRE:=lH hre;clear hre
  go_wp2_with fail
  go_ret2;rw [HEP.o];exact ⟨HK.o.trans (HB1.o.mono HSZ.o),.inl ⟨HRE.o,rfl⟩⟩
 ·subst hre
  by_cases hf:∀ q∈mvals x ms ss,Fits q
  ·obtain ⟨A2,n2,c2,rfl,hs2,h21,h22⟩:=hf1 hf
   have HF:=lH hf;have HS:=lH hs2;have HN2:Hid (n2=n):=lH (by rw [←hs2.1,List.length_map];unfold mvals;rw [List.length_map];exact HML.o);have hn2:=HN2.o;subst hn2;clear hf hf1 hf2 hs2
   go_wp2_with fail
   refine (cloneMi_any A n2 c ms w1 ((HM.o.below HB1.o lR).more HB1.o.size) hn).mono ?_;rintro e w2 ⟨hb2,A3,c3,rfl,ho⟩;have HB2:=lH (HB1.o.trans (hb2.mono HB1.o.size));have HO:Hid (OwnMi w2 w1.heap.size (.slice A3 n2 c3) ms):=lH ho;have HS2:=lH ((HS.o.below hb2 lR).more hb2.size);have HSA:Hid (RdStr w2 w1.heap.size A2 n2 ((mvals x ms ss).map txtQ)):=lH (HS.o.below hb2 lR);have HGW:Hid (w.heap.size≤w1.heap.size):=lH (by have h1:=HSZ.o;have h2:=HB1.o.size;omega);have HZ2:Hid (w1.heap.size≤w2.heap.size):=lH hb2.size;clear hb2 ho HS HM
   go_wp2_with fail
   go_loopw [26] (fun v26 wr=>∃ i:Nat,i≤n2∧v26=.int .i64 i∧OwnMi wr w1.heap.size (.slice A3 n2 c3) ((ms.take i).map (exMi x (ss.map qOf))++ms.drop i)∧Below w1.heap.size w2 wr) (fun v26 _=>n2-(intOf v26).toNat)
   case atStart=>exact ⟨0,by omega,rfl,HO.o,Below.refl _ _⟩
   case round=>
    obtain ⟨i,hi,rfl,ho,hb⟩:=hrel;have HO:=lH ho;have HB:=lH hb;clear ho hb
    by_cases hlt:i<n2
    ·obtain ⟨mi,hmi⟩:∃ mi,ms[i]?=some mi:=⟨_,zA_ (by have:=HML.o;omega)⟩
     have hmi2:((ms.take i).map (exMi x (ss.map qOf))++ms.drop i)[i]?=some mi:=by
      rw [List.getElem?_append_right (by rw [List.length_map,List.length_take];omega),List.length_map,List.length_take,List.getElem?_drop,show i+(i-min i ms.length)=i from by have:=HML.o;omega];exact hmi
     have HTK:Hid (ms.take (i+1)=ms.take i++[mi]):=lH (take_at hmi);obtain ⟨g,hA,hgb,hgl,c0,c1,c2',c3',cf,hput⟩:=HO.o.at_ hmi2;subst hA;have HPUT:=lH hput;have HGB:=lH hgb;have HMI:=lH hmi;have hsr:=HSA.o.below HB.o lR;have hsr2:=hsr.more (Nat.le_trans HZ2.o HB.o.size);obtain ⟨sb,so,hA2,hsb⟩:=hsr2.form (by omega);subst hA2;have s0':=hsr2.at_ (i:=i) (x:=txtQ (mval x (ss.map qOf) mi)) (by rw [List.getElem?_map];unfold mvals;rw [List.getElem?_map,hmi];rfl);have hkI:(i:Int)<(n2:Int):=by omega
     have hk0:(0:Int)≤(i:Int):=by omega
     have hkn:(i:Int).toNat=i:=Int.toNat_natCast i;have HNX:Hid ((i:Int)+1=((i+1:Nat):Int)):=lH (by omega);have HNM:Hid (n2-(i+1)<n2-i):=lH (by omega);clear c0 c1 c3' hput hmi2 hgb hsr hsr2 hmi
     go_wp2_with fail
     go_roundw
     case rel=>exact ⟨i+1,hlt,val_int HNX.o,by
      have h:=HPUT.o 2 (.string (txtQ (mval x (ss.map qOf) mi))) (exMi x (ss.map qOf) mi) (by decide) rfl;have e:((ms.take i).map (exMi x (ss.map qOf))++ms.drop i).set i (exMi x (ss.map qOf) mi)=(ms.take (i+1)).map (exMi x (ss.map qOf))++ms.drop (i+1):=by
       have hl:((ms.take i).map (exMi x (ss.map qOf))).length=i:=by rw [List.length_map,List.length_take];have:=HML.o;omega
       rw [List.set_append_right _ _ (by omega),hl,Nat.sub_self,HTK.o,List.map_append,List.map_singleton,List.append_assoc];congr 1
       rw [List.drop_eq_getElem_cons (by have:=HML.o;omega)];rfl
      rw [←e];exact h,HB.o.setCell HGB.o _⟩
     case measure=>exact HNM.o
    ·have hie:i=n2:=by omega
     have HOE:Hid (OwnMi wr w.heap.size (.slice A3 n2 c3) (ms.map (exMi x (ss.map qOf)))):=lH (by
      have h:=HO.o;rw [List.take_of_length_le (by have:=HML.o;omega),List.drop_eq_nil_iff.2 (by have:=HML.o;omega),List.append_nil] at h;exact h.mono HGW.o)
     have hkI:¬(i:Int)<(n2:Int):=by omega
     have HBE:=lH (HK.o.trans ((HB2.o.trans (HB.o.mono HB1.o.size)).mono HSZ.o))
     go_wp2_with fail
     go_ret2;rw [HEP.o];exact ⟨HBE.o,.inr ⟨by trivial,fun _=>⟨A3,c3,by rw [HML.o];rfl,by rw [HML.o];exact HOE.o⟩,fun h=>absurd HF.o h⟩⟩
  ·obtain rfl:=hf2 hf
   have HF:=lH hf;clear hf hf1 hf2
   go_wp2_with fail
   go_ret2;rw [HEP.o];exact ⟨HK.o.trans (HB1.o.mono HSZ.o),.inr ⟨by trivial,fun h=>absurd h HF.o,fun _=>rfl⟩⟩
end
section
open Go.ChangeShapes Go.WideShapes Go.ChangeAt Go.RowKit
theorem ownSt_lit0 {w:World}:OwnSt (w.alloc (.cells #[] 55)) w.heap.size (.slice (some ⟨w.heap.size,0,none⟩) 0 0) []:=
 ⟨rfl,.inr ⟨w.heap.size,0,#[],rfl,lR,Blk.new w _ _,lR,by simp [maxLen],rfl,rfl,fun u hu=>by simp at hu⟩⟩
theorem info_st:(Tryz.prog.info? 55).map (fun i=>(i.zero,i.size,i.bytes))=some (some (.string ⟨#[]⟩),1,16):=by kernel_rfl
theorem wpList_appSt {ops:Array Oper} {rest:List Oper} {o:Oper} {a:Act} {Q:Exit→Act→World→Prop} {w:World} (hgd:o.guard=none) (s x:Operand) (t:TypeId)
    (ho:o.op=.call { callee:=.builtin .append,args:=#[s,x],argTypes:=#[t,t] }) (base:Nat) (ht:Tryz.prog.underlying t=some (.slice 55))
    (v:Value) (xs:List ByteArray) (hsv:a.eval s=v) (hown:OwnSt w base v xs)
    (A:Option Addr) (m c:Nat) (ys:List ByteArray) (hx:a.eval x=.slice A m c) (hr:RdStr w w.heap.size A m ys) (h63:(xs.length+m)*16≤140737488355328) (hbase:base≤w.heap.size) (N:Nat) (hN:(xs++ys).length=N)
    (h:∀ A' c' w',OwnSt w' base (.slice A' N c') (xs++ys)→Below base w w'→wpList Tryz.prog ops Q rest (a.put o.dst (.slice A' N c')) w'):wpList Tryz.prog ops Q (o::rest) a w:=by
 obtain ⟨i0,hi0,hz0,hz1,hz2⟩:=info_parts info_st;have hm:=hr.1;refine wpList_appR (S:=AnyU) hgd s x t ho base 55 i0 _ 1 16 ht hi0 hz0 hz1 hz2 rfl (by omega) (fun _ _=>trivial) v xs.length (strsV xs) hsv hown A m c (strsV ys) hx hr.2 (fun u hu=>?_) (by simp only [maxLen];omega) (by omega) hbase fun v' w' h1 h2 _ _=>?_
 ·unfold strsV at hu
  obtain ⟨b,-,rfl⟩:=List.mem_map.1 hu;exact ⟨rfl,trivial⟩
 ·have h3:OwnSt w' base v' (xs++ys):=by
   unfold OwnSt;have e:strsV (xs++ys)=strsV xs++strsV ys:=List.map_append;rw [e,List.length_append,hm];exact h1
  obtain ⟨A',c',e,-⟩:=OwnS.shape h3;subst e;subst hN;exact h A' c' w' h3 h2.low
def gndL (F:List Nat) (ss:List ByteArray):List ByteArray:=ss.mapIdx fun i s=>if (natJ F).any (· == (i:Int)) then s else ⟨#[48]⟩
theorem gndL_len {F:List Nat} {ss:List ByteArray}:(gndL F ss).length=ss.length:=by unfold gndL;rw [List.length_mapIdx]
theorem gndL_at {F:List Nat} {ss:List ByteArray} {i:Nat} {s:ByteArray} (h:ss[i]?=some s):(gndL F ss)[i]?=some (if (natJ F).any (· == (i:Int)) then s else ⟨#[48]⟩):=by
 unfold gndL;rw [List.getElem?_mapIdx,h];rfl
theorem gnd_step {F:List Nat} {ss:List ByteArray} {i:Nat} {s:ByteArray} (h:ss[i]?=some s):(gndL F ss).take (i+1)=(gndL F ss).take i++[if (natJ F).any (· == (i:Int)) then s else ⟨#[48]⟩]:=take_at (gndL_at h)
theorem natJ_any {F:List Nat} {i:Nat}:(natJ F).any (· == (i:Int))=true↔i∈F:=by
 unfold natJ;rw [List.any_eq_true]
 constructor
 ·rintro ⟨z,hz,e⟩
  obtain ⟨j,hj,rfl⟩:=List.mem_map.1 hz;have:(j:Int)=(i:Int):=by simpa using e
  rwa [show i=j by omega]
 ·intro h
  exact ⟨(i:Int),List.mem_map.2 ⟨i,h,rfl⟩,by simp⟩
theorem zero_txt:ratCk (⟨#[48]⟩:ByteArray).data.toList=0∧qOf ⟨#[48]⟩=0:=by decide+kernel
theorem gnd_grd {x:Net} {ss:List ByteArray} (hl:ss.length=busN x):Grd x ((gndL (freeL x) ss).map qOf):=⟨by rw [List.length_map,gndL_len,hl],fun j hj hf=>by
 obtain ⟨t,ht⟩:∃ t,ss[j]?=some t:=⟨_,zA_ (by omega)⟩;refine vf_at ?_;rw [List.getElem?_map,gndL_at ht,if_neg,Option.map_some,zero_txt.2];rw [natJ_any];intro hm;obtain ⟨i,hi⟩:=List.mem_iff_getElem?.1 hm;have:=(pick_at (p:=freeB (islN x)) (n:=busN x) hi).1;rw [hf] at this;cases this⟩
theorem txt_back {s:ByteArray} (h:ratCk s.data.toList=0):txtQ (qOf s)=s:=by
 unfold txtQ qOf;rw [(valid_parse h).2.2.1]
end
section
open Go.ChangeShapes Go.WideShapes Go.ChangeAt Go.RowKit
attribute [local go_sem ↓] execOp_call_val
attribute [local go_sem] callVal_func setCell_drewN alloc_drewN sEq_walk
theorem txt_mx {q:Rat} (h:Fits q):(txtQ q).size≤maxLen:=by have:=txt_size h;unfold maxLen;omega
theorem small_all {x:Net} {ms:List Mi} {v:Vc} (h:smallR x ms [v]=true):x.nodes.length≤8∧x.brs.length≤10∧(∀ m∈ms,m.txt.size≤maxLen)∧∀ s∈v.ss,s.size≤24:=by
 unfold smallR tinyV at h;simp only [Bool.and_eq_true,decide_eq_true_eq,List.all_eq_true,List.mem_singleton,forall_eq] at h;exact ⟨h.1.1.1,h.1.1.2,fun m hm=>Nat.le_trans (h.1.2 m hm) (by decide),h.2⟩
theorem rdVc_v {w:World} {T:Nat} {A:Option Addr} {n c:Nat} {ss:List ByteArray} (h:RdStr w w.heap.size A n ss) (hn:n≤9223372036854775807):RdVc (w.alloc (.cells #[.slice A n c] T)) (w.alloc (.cells #[.slice A n c] T)).heap.size (some ⟨w.heap.size,0,none⟩) 1 [⟨A,n,c,ss⟩]:=by
 have hb:Below w.heap.size w (w.alloc (.cells #[.slice A n c] T)):=(Below.refl _ _).alloc lR _;refine ⟨rfl,⟨rfl,fun _=>⟨w.heap.size,0,rfl,(Blk.new w T _).lt,fun j u hu=>?_⟩⟩,fun v hv=>?_⟩
 ·rw [Nat.zero_add,(Blk.new w T #[.slice A n c]).cell j]
  simpa [Vc.cells] using hu
 ·rw [List.mem_singleton.1 hv]
  exact ⟨(h.below hb lR).more hb.size,hn⟩
end
end Go.Proofs.YthgdchffeigkbaaGreatDoor
