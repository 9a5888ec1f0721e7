import Derived.Test.YthgdchffeigkbaaGreatDoorU46
import Derived.SizedLaws
set_option linter.unusedVariables false
set_option linter.unusedSimpArgs false
namespace Go.Proofs.YthgdchffeigkbaaGreatDoor
set_option maxHeartbeats 8000000
set_option maxRecDepth 100000
section
open Go.ChangeShapes Go.WideShapes Go.ChangeAt Go.RowKit Go.Joins Go.Deep
section
variable {H:Type} {enc:TypeId×Value→H} {w:World} {sp:Nat→Bool}
theorem open_vec1 {fuel:Nat} {cs:List Value} {x:DataW H×List MemPlace} (h:DataW.trod enc Tryz.prog w 0 sp true fuel 35 cs=some x) :
    ∃ (A:Option Addr) (n c:Nat) (ss:List ByteArray),cs=[.slice A n c]∧n≤c∧c≤maxLen∧(∀ s∈ss,s.size≤maxLen)∧RdStr w w.heap.size A n ss:=by
 obtain ⟨A,n,c,xs,h1,h2,h3,hl,hq,h4⟩:=open_list (fun s:ByteArray=>[.string s]) 1 (fun s=>s.size≤maxLen) Tryz.underlying35 (by kernel_rfl) (by omega) (fun _=>rfl) (fun fu cs' y hy=>open_str1 Tryz.underlying55 hy) h;exact ⟨A,n,c,xs,h1,h2,h3,hq,hl,by unfold strsV;rw [List.map_eq_flatMap];exact h4⟩
theorem open_vec {r:Reach} {b0:Nat} {v:Value} {d:DataW H} {p:List MemPlace} (hv:Value.okWide Tryz.prog w r b0 35 v) (h:DataW.Trod enc Tryz.prog w 0 sp true 35 v d p) :
    ∃ (A:Option Addr) (n c:Nat) (ss:List ByteArray),v=.slice A n c∧n≤c∧c≤maxLen∧(∀ s∈ss,s.size≤maxLen)∧RdStr w w.heap.size A n ss:=by
 obtain ⟨A,n,c,rfl⟩:=okWide_slice Tryz.underlying35 hv;obtain ⟨fuel,hf⟩:=h;obtain ⟨A',n',c',ss,he,h1,h2,h3,h4⟩:=open_vec1 hf;simp [Value.cells] at he;obtain ⟨rfl,rfl,rfl⟩:=he;exact ⟨_,_,_,ss,rfl,h1,h2,h3,h4⟩
end
theorem vec_sized {H:Type} {enc:TypeId×Value→H} {w:World} {sp:Nat→Bool} {ts:List TypeId} {ds:List (DataW H)} {j n c:Nat} {A:Option Addr} {d:DataW H} {p:List MemPlace} (hsz:(DataW.weightsEach Tryz.prog ts ds).all (·≤reachBytes)=true) (ht:ts[j]?=some 35) (hd:ds[j]?=some d) (h:DataW.Trod enc Tryz.prog w 0 sp true 35 (.slice A n c) d p):n*16≤140737488355328:=by
 obtain ⟨fuel,hf⟩:=h;rcases open_slice Tryz.underlying35 hf with ⟨he,hx⟩ | ⟨a,len,cap,m,n',D,Pl,he,_,hl,hm,hmm,hx,_⟩
 ·simp [Value.cells] at he
  omega
 ·simp [Value.cells] at he
  injection hx with hx1 hx2;subst hx1;have:=sized_slice hsz ht hd Tryz.underlying35;rw [show Tryz.prog.bytesOf 55=16 by kernel_rfl] at this;simp only [zG_,List.length_range,reachBytes] at this;have h2:=Nat.mul_le_mul_right 16 (show len≤len+(m-len) by omega);omega
end
section
open Go.ChangeShapes Go.WideShapes Go.ChangeAt Go.RowKit
attribute [local go_sem ↓] execOp_call_val
attribute [local go_sem] callVal_func setCell_drewN alloc_drewN
theorem sub_any (y z:Int) (b1:Bool) (A:Option Addr) (n c:Nat) (b2:Bool) (B:Option Addr) (m d:Nat) (w:World) (h1:LgIs w w.heap.size y b1 A n c) (h2:LgIs w w.heap.size z b2 B m d) (hn:n≤35184372088832) (hm:m≤35184372088832) :
    Calls Tryz.prog 170 #[.agg #[.bool b1,.slice A n c],.agg #[.bool b2,.slice B m d]] w (LgP (y-z) w):=by
 have HMZ:=lH h2.en;have HB0:Hid (Below w.heap.size w (((w.alloc (.cells #[.bool b1,.slice A n c] 113)).alloc (.cells #[.bool b2,.slice B m d] 113)).alloc (.cells #[.bool false,.slice none 0 0] 113))):=lH (((bA).alloc (by simp) _).alloc (by simp;omega) _);have HX1:Hid (Blk (((w.alloc (.cells #[.bool b1,.slice A n c] 113)).alloc (.cells #[.bool b2,.slice B m d] 113)).alloc (.cells #[.bool false,.slice none 0 0] 113)) w.heap.size 113 #[.bool b1,.slice A n c]):=lH (((Blk.new w _ _).alloc _).alloc _);have HX2:Hid (Blk (((w.alloc (.cells #[.bool b1,.slice A n c] 113)).alloc (.cells #[.bool b2,.slice B m d] 113)).alloc (.cells #[.bool false,.slice none 0 0] 113)) (w.heap.size+1) 113 #[.bool b2,.slice B m d]):=lH ((Blk.new_ (by simp)).alloc _)
 have HR:Hid (Blk (((w.alloc (.cells #[.bool b1,.slice A n c] 113)).alloc (.cells #[.bool b2,.slice B m d] 113)).alloc (.cells #[.bool false,.slice none 0 0] 113)) (w.heap.size+1+1) 113 #[.bool false,.slice none 0 0]):=lH (Blk.new_ (by simp));have H1:=lH (h1.up HB0.o);have H2:=lH (h2.up HB0.o);clear h1 h2;go_enter Tryz.func170,Tryz.ntmps170
 have hgs:w.heap.size≤w.heap.size+1+1:=by omega
 go_wp2_with fail
 generalize (((w.alloc (.cells #[.bool b1,.slice A n c] 113)).alloc (.cells #[.bool b2,.slice B m d] 113)).alloc (.cells #[.bool false,.slice none 0 0] 113))=W at *;have p0:=HX1.o.cell 0;have p1:=HX1.o.cell 1;have q0:=HX2.o.cell 0;have q1:=HX2.o.cell 1;have pl:=HX1.o.lt;have ql:=HX2.o.lt;have HH1:Hid (LgIs W.drew W.drew.heap.size y b1 A n c):=lH (H1.o.up (below_drew bR));have HH2:Hid (LgIs W.drew W.drew.heap.size z b2 B m d):=lH (H2.o.up (below_drew bR));refine wp_region_last (S:=fun w'=>Below W.heap.size W w') 4 _ (by kernel_rfl) (by kernel_rfl) rfl (below_drew bR) (fun hHeld=>?_);simp only [zK_,List.take_zero];refine tkH 0 rfl ?_;refine tkH 1 rfl ?_;refine stepH 2 (by kernel_rfl) rfl (fun K hK=>?_);go_simp;refine (neg_any z b2 B m d W.drew HH2.o).mono ?_;rintro e w5 ⟨hb5,b5,A5,n5,c5,rfl,h5⟩
 have HB5:=lH ((below_drew (Below.refl W.heap.size W)).trans hb5);have H5:=lH h5;have HN5:Hid (n5=m):=lH (by rw [h5.en,Int.natAbs_neg,←HMZ.o]);have HH1b:=lH (HH1.o.up hb5);clear hb5 h5;go_simp;refine hK.out _ _ ?_ (fun hHeld=>?_)
 ·exact HB5.o
 clear hK K
 try simp only [Act.put,sA_,sB_,sC_]
 refine stepH 3 (by kernel_rfl) rfl (fun K hK=>?_);go_simp;refine (add_any y (-z) b1 A n c b5 A5 n5 c5 w5 HH1b.o H5.o hn (by have:=HN5.o;omega)).mono ?_;rw [show y+-z=y-z from by omega];rintro e w6 ⟨hb6,b9,A9,n9,c9,rfl,h9⟩;have HB6:=lH (HB5.o.tm hb6);have H9:=lH h9;clear hb6 h9;go_simp;refine hK.out _ _ ?_ (fun hHeld=>?_)
 ·exact HB6.o
 clear hK K
 try simp only [Act.put,sA_,sB_,sC_]
 refine wpAnyH_done (by kernel_rfl) ?_ _;refine lastQ_go (by rfl) ?_;have HBF:=lH (HB0.o.tm HB6.o);have HGF:=lH (HR.o.bl HB6.o);clear p0 p1 q0 q1 pl ql;have z0:=HGF.o.cell 0;have z1:=HGF.o.cell 1;have zf:=HGF.o.frozen;have zl:=HGF.o.lt
 go_wp2_with fail
 generalize hW9:(w6.setCell ⟨_,0,none⟩ _).setCell ⟨_,1,none⟩ _=W9;have HP9:=lH (lg_put (e:=.returned (.agg #[.bool b9,.slice A9 n9 c9])) HBF.o hgs HGF.o (by simp) (by simp) H9.o rfl);rw [hW9] at HP9;have HB9:Hid (Blk W9 _ 113 #[.bool b9,.slice A9 n9 c9]):=lH (by rw [←hW9];exact blk_set2 HGF.o);clear hW9 z0 z1 zf zl;have q0:=HB9.o.cell 0;have q1:=HB9.o.cell 1;exact bodyPost_ret (v:=.agg #[.bool b9,.slice A9 n9 c9]) (by simp [results,Tryz.results170,go_sem,q0,q1]) rfl HP9.o
theorem cmp_any (y z:Int) (b1:Bool) (A:Option Addr) (n c:Nat) (b2:Bool) (B:Option Addr) (m d:Nat) (w:World) (h1:LgIs w w.heap.size y b1 A n c) (h2:LgIs w w.heap.size z b2 B m d) (hn:n≤35184372088832) (hm:m≤35184372088832) :
    Calls Tryz.prog 154 #[.agg #[.bool b1,.slice A n c],.agg #[.bool b2,.slice B m d]] w fun e w'=>e=.returned (.int .i64 (y-z).sign)∧Below w.heap.size w w':=by
 have HB0:Hid (Below w.heap.size w ((w.alloc (.cells #[.bool b1,.slice A n c] 113)).alloc (.cells #[.bool b2,.slice B m d] 113))):=lH ((bA).alloc (by simp) _);have HX1:Hid (Blk ((w.alloc (.cells #[.bool b1,.slice A n c] 113)).alloc (.cells #[.bool b2,.slice B m d] 113)) w.heap.size 113 #[.bool b1,.slice A n c]):=lH ((Blk.new w _ _).alloc _);have HX2:Hid (Blk ((w.alloc (.cells #[.bool b1,.slice A n c] 113)).alloc (.cells #[.bool b2,.slice B m d] 113)) (w.heap.size+1) 113 #[.bool b2,.slice B m d]):=lH (Blk.new_ (by simp));have H1:=lH (h1.up HB0.o);have H2:=lH (h2.up HB0.o);clear h1 h2;go_enter Tryz.func154,Tryz.ntmps154
 go_wp2_with fail
 generalize ((w.alloc (.cells #[.bool b1,.slice A n c] 113)).alloc (.cells #[.bool b2,.slice B m d] 113))=W at *;clear HX1 HX2;refine (sub_any y z b1 A n c b2 B m d W H1.o H2.o hn hm).mono ?_;rintro e w5 ⟨hb5,b5,A5,n5,c5,rfl,h5⟩;have HB5:=lH (HB0.o.tm hb5);have H5:=lH h5;clear hb5 h5
 go_wp2_with fail
 refine (lsign_any (y-z) b5 A5 n5 c5 w5 H5.o).mono ?_;rintro e w6 ⟨rfl,hb6⟩;have HB6:=lH (HB5.o.tm hb6);clear hb6
 go_wp2_with fail
 go_ret;exact ⟨rfl,HB6.o⟩
end
section
open Go
theorem dec_head (u:Nat):0<u→(Lib.decDigits u).head?≠some 48:=by
 induction u using Nat.strongRecOn with
 | _ u ih=>
  intro hu
  by_cases h:u<10
  ·rw [dec_small h]
   intro he;have he:UInt8.ofNat (48+u)=48:=Option.some.inj he;have:(UInt8.ofNat (48+u)).toNat=48+u:=by rw [UInt8.toNat_ofNat'];omega
   rw [he] at this;have h48:(48:UInt8).toNat=48:=rfl;omega
  ·rw [dec_big h,List.head?_append]
   have h1:=ih (u / 10) (by omega) (by omega);have h2:=dec_len_pos (u / 10);cases hd:Lib.decDigits (u / 10) with
   | nil=>rw [hd] at h2;simp at h2
   | cons c t=>rw [hd] at h1;simpa using h1
theorem canon_dec (u:Nat):Canon (Lib.decDigits u):=by
 refine ⟨fun h=>?_,dec_dg u,fun h=>?_⟩
 ·have:=dec_len_pos u
  rw [h] at this;simp at this
 ·by_cases h0:u=0
  ·subst h0
   rw [dec_small (by decide)] at h;simp at h
  ·exact dec_head u (by omega)
end
section
open Go.ChangeShapes Go.WideShapes Go.ChangeAt Go.RowKit
attribute [local go_sem ↓] execOp_call_val
attribute [local go_sem] callVal_func setCell_drewN alloc_drewN
theorem cutR_app {c:UInt8}:∀ {a b:List UInt8},c∉a→cutR c (a++c::b)=(a,b,true)
 | [],b,_=>by simp [cutR]
 | x::r,b,h=>by
  have h1:x≠c:=fun e=>h (by rw [e];exact List.mem_cons_self ..);rw [List.cons_append,cutR,if_neg h1,cutR_app fun hm=>h (List.mem_cons_of_mem _ hm)]
theorem rcmp_any (p q:Rat) (b1:Bool) (A:Option Addr) (n c:Nat) (b2:Bool) (A2:Option Addr) (n2 c2:Nat) (b3:Bool) (B:Option Addr) (m d:Nat) (b4:Bool) (B2:Option Addr) (m2 d2:Nat) (w:World) (h1:RtIs w w.heap.size p b1 A n c b2 A2 n2 c2) (h2:RtIs w w.heap.size q b3 B m d b4 B2 m2 d2) (hs:qsz p+qsz q+1≤35184372088832) :
    Calls Tryz.prog 118 #[.agg #[.bool b1,.slice A n c,.bool b2,.slice A2 n2 c2],.agg #[.bool b3,.slice B m d,.bool b4,.slice B2 m2 d2]] w (fun e w'=>e=.returned (.int .i64 (p.num*(q.den:Int)-q.num*(p.den:Int)).sign)∧Below w.heap.size w w'):=by
 have l1:=h1.n_le;have l2:=h1.m_le;have l3:=h2.n_le;have l4:=h2.m_le;have HB0:Hid (Below w.heap.size w ((w.alloc (.cells #[.bool b1,.slice A n c,.bool b2,.slice A2 n2 c2] 115)).alloc (.cells #[.bool b3,.slice B m d,.bool b4,.slice B2 m2 d2] 115))):=lH ((bA).alloc (by simp) _);have HX1:Hid (Blk ((w.alloc (.cells #[.bool b1,.slice A n c,.bool b2,.slice A2 n2 c2] 115)).alloc (.cells #[.bool b3,.slice B m d,.bool b4,.slice B2 m2 d2] 115)) w.heap.size 115 #[.bool b1,.slice A n c,.bool b2,.slice A2 n2 c2]):=lH ((Blk.new w _ _).alloc _);have HX2:Hid (Blk ((w.alloc (.cells #[.bool b1,.slice A n c,.bool b2,.slice A2 n2 c2] 115)).alloc (.cells #[.bool b3,.slice B m d,.bool b4,.slice B2 m2 d2] 115)) (w.heap.size+1) 115 #[.bool b3,.slice B m d,.bool b4,.slice B2 m2 d2]):=lH (Blk.new_ (by simp));have H1:=lH (h1.up HB0.o);have H2:=lH (h2.up HB0.o);clear h1 h2
 go_enter Tryz.func118,Tryz.ntmps118
 go_upto_region 1 with fail
 generalize ((w.alloc (.cells #[.bool b1,.slice A n c,.bool b2,.slice A2 n2 c2] 115)).alloc (.cells #[.bool b3,.slice B m d,.bool b4,.slice B2 m2 d2] 115))=W at *;have p0:=HX1.o.cell 0;have p1:=HX1.o.cell 1;have p2:=HX1.o.cell 2;have p3:=HX1.o.cell 3;have pl:=HX1.o.lt;have q0:=HX2.o.cell 0;have q1:=HX2.o.cell 1;have q2:=HX2.o.cell 2;have q3:=HX2.o.cell 3;have ql:=HX2.o.lt;have HB4:=lH (below_drew (Below.refl W.heap.size W));refine wp_region_last (S:=fun w'=>Below W.heap.size W w') 11 _ (by kernel_rfl) (by kernel_rfl) rfl HB4.o (fun hHeld=>?_);simp only [zK_,List.take_zero];refine tkH 0 rfl ?_;refine tkH 1 rfl ?_;refine tkH 2 rfl ?_;refine tkH 3 rfl ?_;refine tkH 5 rfl ?_;refine tkH 6 rfl ?_;refine tkH 7 rfl ?_;refine tkH 8 rfl ?_;refine stepH 4 (by kernel_rfl) rfl (fun K hK=>?_);go_simp
 refine (lgmul_any (p.num) ((q.den:Int)) b1 A n c b4 B2 m2 d2 _ (H1.o.up HB4.o).num (H2.o.up HB4.o).den (by omega)).mono ?_;rintro e w5 ⟨hb5,f5,C5,i5,j5,rfl,h5⟩;have HB5:=lH (HB4.o.tm hb5);have H5:=lH h5;have s5:i5≤m2+n:=by rw [h5.en,((H1.o.up HB4.o).num).en,((H2.o.up HB4.o).den).en,Nat.add_comm];exact dlen_mulZ _ _
 clear hb5 h5;go_simp;refine hK.out _ _ ?_ (fun hHeld=>?_)
 ·exact HB5.o
 clear hK K
 try simp only [Act.put,sA_,sB_,sC_]
 refine stepH 9 (by kernel_rfl) rfl (fun K hK=>?_);go_simp;refine (lgmul_any (q.num) ((p.den:Int)) b3 B m d b2 A2 n2 c2 _ (H2.o.up HB5.o).num (H1.o.up HB5.o).den (by omega)).mono ?_;rintro e w6 ⟨hb6,f6,C6,i6,j6,rfl,h6⟩;have HB6:=lH (HB5.o.tm hb6);have H6:=lH h6;have s6:i6≤n2+m:=by rw [h6.en,((H2.o.up HB5.o).num).en,((H1.o.up HB5.o).den).en,Nat.add_comm];exact dlen_mulZ _ _
 have H5_6:=lH (H5.o.up hb6);clear hb6 h6;go_simp;refine hK.out _ _ ?_ (fun hHeld=>?_)
 ·exact HB6.o
 clear hK K
 try simp only [Act.put,sA_,sB_,sC_]
 refine stepH 10 (by kernel_rfl) rfl (fun K hK=>?_);go_simp;refine (cmp_any (p.num*(q.den:Int)) (q.num*(p.den:Int)) f5 C5 i5 j5 f6 C6 i6 j6 _ H5_6.o H6.o (by omega) (by omega)).mono ?_;rintro e w7 ⟨rfl,hb7⟩;have HB7:=lH (HB6.o.tm hb7);clear hb7;go_simp;refine hK.out _ _ ?_ (fun hHeld=>?_)
 ·exact HB7.o
 clear hK K
 try simp only [Act.put,sA_,sB_,sC_]
 refine wpAnyH_done (by kernel_rfl) ?_ _;refine lastQ_go (by rfl) ?_
 go_wp2_with fail
 go_ret;exact ⟨rfl,HB0.o.tm HB7.o⟩
end
section
theorem text_parts (q:Rat):negL (textQ q)=decide (q.num<0)∧rtN (textQ q)=Lib.decDigits q.num.natAbs∧rtI (textQ q)=decide (q.den≠1)∧rtD (textQ q)=if q.den=1 then [] else Lib.decDigits q.den:=by
 have hS:negL (textQ q)=decide (q.num<0)∧rtS (textQ q)=Lib.decDigits q.num.natAbs++(if q.den=1 then [] else 47::Lib.decDigits q.den):=by
  unfold negL rtS textQ textL Lib.trimPrefix
  by_cases h:q.num<0
  ·have hp:Lib.hasPrefix ((if q.num<0 then [45] else [])++Lib.decDigits q.num.natAbs++(if q.den=1 then [] else 47::Lib.decDigits q.den)) [45]=true:=by rw [if_pos h];simp [Lib.hasPrefix]
   rw [hp,decide_eq_true h,if_pos h];simp
  ·have hp:Lib.hasPrefix ((if q.num<0 then [45] else [])++Lib.decDigits q.num.natAbs++(if q.den=1 then [] else 47::Lib.decDigits q.den)) [45]=false:=by
    rw [if_neg h,List.nil_append];cases hl:Lib.decDigits q.num.natAbs with
    | nil=>have:=dec_len_pos q.num.natAbs;rw [hl] at this;simp at this
    | cons c r=>
     have hc:=dec_dg q.num.natAbs c (by rw [hl];exact List.mem_cons_self ..);have:((45:UInt8) == c)=false:=by
      cases hb:((45:UInt8) == c) with
      | false=>rfl
      | true=>have:=eq_of_beq hb;subst this;exact absurd hc.1 (by decide)
     simp [Lib.hasPrefix,List.isPrefixOf,this]
   rw [hp,decide_eq_false h,if_neg h];simp
 have hno:(47:UInt8)∉Lib.decDigits q.num.natAbs:=fun h=>by
  have:=(dec_dg _ _ h).1;exact absurd this (by decide)
 unfold rtN rtI rtD;rw [hS.2];refine ⟨hS.1,?_⟩
 by_cases h1:q.den=1
 ·rw [if_pos h1,List.append_nil,cutR_no hno,if_pos h1,decide_eq_false (by simpa using h1)]
  exact ⟨rfl,rfl,rfl⟩
 ·rw [if_neg h1,cutR_app hno,if_neg h1,decide_eq_true h1]
  exact ⟨rfl,rfl,rfl⟩
theorem dec_ck {n:Nat} (h:ndg n≤2000):natCk (Lib.decDigits n)=0:=natCk_ok.2 ⟨canon_dec n,h⟩
theorem text_valid {q:Rat} (h:Fits q):ratCk (textQ q)=0∧parseQ (textQ q)=q:=by
 obtain ⟨h1,h2,h3,h4⟩:=text_parts q;have hn:=dec_ck h.1;have hd:=dec_ck h.2;have hB:rtB (textQ q)=0:=by
  unfold rtB;rw [h3,h4]
  by_cases g:q.den=1
  ·rw [decide_eq_false (by simpa using g)];rfl
  ·rw [decide_eq_true g,if_neg g];exact hd
 have h5:¬rtP5 (textQ q):=by
  unfold rtP5;rw [h2,hB,hn];rintro (g | g | ⟨g1,g2⟩)
  ·cases g
  ·cases g
  ·have:q.num.natAbs=0:=dec_inj (g1.trans (show [48]=Lib.decDigits 0 by rw [dec_small (by decide)];rfl))
   have hn0:¬q.num<0:=by omega
   have h6:=congrArg List.length (pre_split (textQ q));rw [h1,decide_eq_false hn0,zE_] at h6;simp at h6;omega
 have hp2:¬rtP2 (textQ q):=by
  unfold rtP2;rw [h2,hB,hn];simp
 have hp3:¬(rtI (textQ q)=true∧rtP3 (textQ q)):=by
  rintro ⟨g,g3⟩;rw [h3,decide_eq_true_eq] at g;unfold rtP3 at g3;rw [h2,h4,if_neg g,dv_dec,dv_dec] at g3;rcases g3 with g3 | g3 | g3
  ·have:=dec_inj (g3.trans (show [48]=Lib.decDigits 0 by rw [dec_small (by decide)];rfl))
   exact q.den_nz this
  ·exact g (dec_one.1 g3)
  ·exact g3 q.reduced
 refine ⟨by unfold ratCk;rw [if_neg h5,if_neg hp2,if_neg hp3],?_⟩;unfold parseQ denL;rw [h1,h2,h3,h4];have e1:rdZ (decide (q.num<0)) (Lib.decDigits q.num.natAbs)=q.num:=by
  unfold rdZ;rw [dv_dec]
  by_cases g:q.num<0
  ·rw [decide_eq_true g];simp only [if_true];omega
  ·rw [decide_eq_false g];simp only [Bool.false_eq_true,if_false];omega
 rw [e1]
 by_cases g:q.den=1
 ·rw [decide_eq_false (by simpa using g)]
  have:=rat_eta q;rw [g] at this;exact this
 ·rw [decide_eq_true g,if_neg g,dv_dec]
  exact rat_eta q
end
section
open Go.ChangeShapes Go.WideShapes Go.ChangeAt Go.RowKit
attribute [local go_sem ↓] execOp_call_val
attribute [local go_sem] callVal_func setCell_drewN alloc_drewN sEq_walk
theorem fits_two {p q:Rat} (hp:Fits p) (hq:Fits q):qsz p+qsz q+1≤35184372088832:=by
 have:=fits_qsz hp;have:=fits_qsz hq;omega
theorem txt_valid {q:Rat} (h:Fits q):ratCk (txtQ q).data.toList=0∧qOf (txtQ q)=q:=by
 have:=text_valid h;unfold txtQ qOf;simpa using this
theorem txt_inj {p q:Rat} (hp:Fits p) (hq:Fits q) (h:txtQ p=txtQ q):p=q:=by
 rw [←(txt_valid hp).2,h,(txt_valid hq).2]
theorem textL_le (z:Int):(textL z).length≤ndg z.natAbs+1:=by
 unfold textL ndg;rw [zE_]
 split<;>simp<;>omega
theorem txt_size {q:Rat} (h:Fits q):(txtQ q).size≤4002:=by
 rw [Lib.size_eq];unfold txtQ textQ;have h1:=textL_le q.num;obtain ⟨h2,h3⟩:=h;unfold ndg at h3;simp only [zE_]
 split<;>simp<;>omega
def cmpQ (p q:Rat):Int:=(p.num*(q.den:Int)-q.num*(p.den:Int)).sign
def cmpS (a b:ByteArray):Int:=if ckAllR [a,b]=0 then cmpQ (qOf a) (qOf b) else 0
theorem compare_any (a b:ByteArray) (ha:a.size≤maxLen) (hb:b.size≤maxLen) (w:World) (ht:TabOk w) :
    Calls Tryz.prog 72 #[.string a,.string b] w (fun e w'=>e=.returned (.tuple #[.int .i64 (cmpS a b),.int .i64 (ckAllR [a,b])])∧Below w.heap.size w w'):=by
 have HB0:Hid (Below w.heap.size w (w.alloc (.cells #[.string a,.string b] 55))):=lH (bA);have HX1:=lH (Blk.new w 55 #[.string a,.string b]);have HA:=lH (show ∀ s∈[a,b],s.size≤maxLen from fun s hs=>by simp at hs;rcases hs with rfl | rfl<;>assumption);have HT:=lH ht;clear ha hb ht;go_enter Tryz.func72,Tryz.ntmps72
 go_wp2_with fail
 generalize hwa:w.alloc (.cells #[.string a,.string b] 55)=wa at *;have HTA:=lH (HT.o.up HB0.o);have hrd:RdStr wa wa.heap.size (some ⟨w.heap.size,0,none⟩) 2 [a,b]:=rdStr_lit HX1.o HX1.o.lt;clear hwa;refine (ckall_any (some ⟨w.heap.size,0,none⟩) 2 2 [a,b] wa hrd HA.o (by decide) HTA.o).mono ?_;clear hrd;rintro e w1 ⟨he,hb1⟩;have HB1:=lH (HB0.o.tm hb1);clear hb1 HB0 HTA HX1
 by_cases h0:ckAllR [a,b]=0
 ·have hv:=ckAllR_ok.1 h0
  have HVA:=lH (hv a (by simp));have HVB:=lH (hv b (by simp));have H0:=lH h0;rw [h0] at he;subst he;clear hv h0
  go_wp2_with fail
  refine (parse_str HVA.o w1).mono ?_;rintro e w2 ⟨hb2,f1,C1,i1,j1,g1,D1,k1,l1,rfl,h1⟩;have HB2:=lH (HB1.o.tm hb2);have H1:=lH h1;clear hb2 h1 HB1
  go_wp2_with fail
  refine (parse_str HVB.o w2).mono ?_;rintro e w3 ⟨hb3,f2,C2,i2,j2,g2,D2,k2,l2,rfl,h2⟩;have HB3:=lH (HB2.o.tm hb3);have H1:=lH (H1.o.up hb3);have H2:=lH h2;clear hb3 h2 HB2
  go_wp2_with fail
  refine (rcmp_any _ _ f1 C1 i1 j1 g1 D1 k1 l1 f2 C2 i2 j2 g2 D2 k2 l2 w3 H1.o H2.o (fits_two (valid_fits HVA.o) (valid_fits HVB.o))).mono ?_;rintro e w4 ⟨rfl,hb4⟩;have HB4:=lH (HB3.o.tm hb4);have HE:Hid (cmpS a b=((qOf a).num*((qOf b).den:Int)-(qOf b).num*((qOf a).den:Int)).sign):=lH (by unfold cmpS;rw [if_pos H0.o];rfl);clear hb4 HB3 H1 H2;generalize ((qOf a).num*((qOf b).den:Int)-(qOf b).num*((qOf a).den:Int)).sign=z at *
  go_wp2_with fail
  go_ret2;exact ⟨by rw [HE.o,H0.o];rfl,HB4.o⟩
 ·have HE:Hid (cmpS a b=0):=lH (by unfold cmpS;rw [if_neg h0])
  obtain ⟨z,hz⟩:∃ z,ckAllR [a,b]=z:=⟨_,rfl⟩;have HZ:=lH hz;rw [hz] at he h0;subst he;have h0b:(z != 0)=true:=by simp [h0]
  clear hz h0
  go_wp2_with fail
  go_ret2;exact ⟨by rw [HE.o,HZ.o];rfl,HB1.o⟩
theorem cmp_any2 (a b:ByteArray) (ha:a.size≤maxLen) (hb:b.size≤maxLen) (w:World) (ht:TabOk w) :
    Calls Tryz.prog 32 #[.string a,.string b] w (fun e w'=>e=.returned (.int .i64 (cmpS a b))∧Below w.heap.size w w'):=by
 have HC:=lH (compare_any a b ha hb w ht);clear ha hb ht;go_enter Tryz.func32,Tryz.ntmps32
 go_wp2_with fail
 refine HC.o.mono ?_;rintro e w1 ⟨rfl,hb⟩;clear HC;have HB:=lH hb;clear hb;generalize hs:cmpS a b=s;have HS:=lH hs;clear hs;generalize ckAllR [a,b]=z
 go_wp2_with fail
 go_ret;exact ⟨by rw [HS.o];rfl,HB.o⟩
end
section
section
variable {x:Net} {ms:List Mi}
end
section
variable {x:Net} {ms:List Mi}
theorem est_grd:Grd x (estR x ms):=⟨est_len,fun j hj hf=>by rw [est_vf hj];unfold ext;rw [hf];rfl⟩
theorem est_fr {i:Nat} (hi:i<(freeL x).length):frF x (estR x ms) i=estD x ms i:=by
 obtain ⟨j,h1,h2,h3,h4⟩:=free_at hi;unfold frF;rw [zD_,h1];show vf (estR x ms) j=_;rw [est_vf h3];unfold ext;rw [if_pos h2,h4]
theorem sol_congr {a b:Fn} (h:(lsOf x ms).Sol a) (he:∀ i,i<(freeL x).length→a i=b i):(lsOf x ms).Sol b:=fun i hi=>by
 rw [←h i hi];exact dotn_congr (fun _ _=>rfl) fun j hj=>(he j hj).symm
theorem est_solF (hr:EReg x ms):(lsOf x ms).Sol (frF x (estR x ms)):=sol_congr (est_sol hr) fun i hi=>(est_fr hi).symm
theorem resid_at (ok:NetOk x) (hm:∀ m∈ms,MiOk x m) {al:List Rat} (h:Grd x al) {k:Nat} {m:Mi} (hk:ms[k]?=some m):qOf m.txt-(dotR (formR x m).1 al+(formR x m).2)=(lsOf x ms).res (frF x al) k:=by
 unfold Ls.res;rw [ls_y hk,ls_row hk];rw [h.dot (formR_ok ok (hm m (zC_ hk))).len];show _=_-dotn (freeL x).length _ _;grind
theorem costR_eq (ok:NetOk x) (hm:∀ m∈ms,MiOk x m) {al:List Rat} (h:Grd x al):costR x ms al=(lsOf x ms).cost (frF x al):=by
 unfold costR;rw [sumR_sumTo (n:=ms.length) (by rw [zG_])];unfold Ls.cost;refine sumTo_congr fun k hk=>?_;obtain ⟨m,h0⟩:∃ m,ms[k]?=some m:=⟨_,zA_ hk⟩;rw [ls_w h0,←resid_at ok hm h h0];exact vf_at (by rw [zM_,h0];rfl)
end
section
variable {x:Net} {ms:List Mi} {by_:Int}
end
section
variable {x:Net} {ms:List Mi}
end
end
section
open Go.ChangeShapes Go.WideShapes Go.ChangeAt Go.RowKit
attribute [local go_sem ↓] execOp_call_val
attribute [local go_sem] callVal_func setCell_drewN alloc_drewN
theorem hasInt_any (A:Option Addr) (n c:Nat) (zs:List Int) (z:Int) (w:World) (hr:RdI w w.heap.size A n zs) (hn:n≤9223372036854775807) :
    Calls Tryz.prog 30 #[.slice A n c,.int .i64 z] w fun e w'=>e=.returned (.bool (zs.any (· == z)))∧w=w':=by
 have hlen:=lH hr.len;go_enter Tryz.func30,Tryz.ntmps30
 go_wp2_with fail
 go_loop [6,9] (fun _ i=>∃ k:Nat,k≤n∧i=.int .i64 k∧zs.any (· == z)=(zs.drop k).any (· == z)) (fun _ i=>n-(intOf i).toNat)
 case atStart=>exact ⟨0,by omega,rfl,rfl⟩
 case round=>
  obtain ⟨k,hk,rfl,hidx⟩:=hrel;have HIDX:=lH hidx;clear hidx
  by_cases hlt:k<n
  ·obtain ⟨y,hy⟩:∃ y,zs[k]?=some y:=zX_ (by have:=hlen.out;omega)
   obtain ⟨b,off,rfl,hblt,_⟩:=hr.2 (by omega);have hcell:=hr.at_ hy;have HZ:=lH (drop_cons hy);clear hy;cases hp:(y == z) with
   | true=>
    have HP:=lH hp
    go_wp2_with fail
    go_ret;exact ⟨ret_bool (by rw [HIDX.o,HZ.o];simp [HP.o]),rfl⟩
   | false=>
    have HP:=lH hp
    go_wp2_with fail
    go_round
    case rel=>exact ⟨k+1,by omega,by go_num,by rw [HIDX.o,HZ.o];simp [HP.o]⟩
    case measure=>simp [intOf];omega
  ·have hd:zs.drop k=[]:=by rw [List.drop_eq_nil_iff];have:=hlen.out;omega
   have HD:=lH hd;clear hd
   go_wp2_with fail
   go_ret;exact ⟨ret_bool (by rw [HIDX.o,HD.o];rfl),rfl⟩
end
section
open Go.ChangeShapes Go.WideShapes Go.ChangeAt Go.RowKit
attribute [local go_sem ↓] execOp_call_val
attribute [local go_sem] callVal_func setCell_drewN alloc_drewN sEq_walk
theorem txt_mx {q:Rat} (h:Fits q):(txtQ q).size≤maxLen:=by have:=txt_size h;unfold maxLen;omega
theorem small_all {x:Net} {ms:List Mi} {v:Vc} (h:smallR x ms [v]=true):x.nodes.length≤8∧x.brs.length≤10∧(∀ m∈ms,m.txt.size≤maxLen)∧∀ s∈v.ss,s.size≤24:=by
 unfold smallR tinyV at h;simp only [Bool.and_eq_true,decide_eq_true_eq,List.all_eq_true,List.mem_singleton,forall_eq] at h;exact ⟨h.1.1.1,h.1.1.2,fun m hm=>zI_ (h.1.2 m hm) (by decide),h.2⟩
theorem rdVc_v {w:World} {T:Nat} {A:Option Addr} {n c:Nat} {ss:List ByteArray} (h:RdStr w w.heap.size A n ss) (hn:n≤9223372036854775807):RdVc (w.alloc (.cells #[.slice A n c] T)) (w.alloc (.cells #[.slice A n c] T)).heap.size (some ⟨w.heap.size,0,none⟩) 1 [⟨A,n,c,ss⟩]:=by
 have hb:Below w.heap.size w (w.alloc (.cells #[.slice A n c] T)):=bA;refine ⟨rfl,⟨rfl,fun _=>⟨w.heap.size,0,rfl,(Blk.new w T _).lt,fun j u hu=>?_⟩⟩,fun v hv=>?_⟩
 ·rw [Nat.zero_add,(Blk.new w T #[.slice A n c]).cell j]
  simpa [Vc.cells] using hu
 ·rw [List.mem_singleton.1 hv]
  exact ⟨(h.below hb lR).more hb.size,hn⟩
end
section
section
variable {x:Net} {ms:List Mi}
theorem res_own (hr:EReg x ms) {k:Nat} (hk:k<ms.length):(lsOf x ms).res (frF x (estR x ms)) k=(lsOf x ms).res (estD x ms) k:=by
 unfold Ls.res;congr 1
 exact dotn_congr (fun _ _=>rfl) fun i hi=>est_fr hi
theorem cost_fits (h:Sml x ms) (hr:EReg x ms):Fits (costR x ms (estR x ms)):=by
 obtain ⟨D,h0,h1,-,h2⟩:=h.own hr;rw [costR_eq h.ok h.mi est_grd];unfold Ls.cost;obtain ⟨Q,hQ⟩:∃ Q,Q=tenP 706:=⟨_,rfl⟩;rw [←hQ] at h2;have h3:∀ k,k<ms.length→Zt (1*D*D) (1000*Q*Q) ((lsOf x ms).w k*(lsOf x ms).res (frF x (estR x ms)) k*(lsOf x ms).res (frF x (estR x ms)) k):=fun k hk=>by
  rw [res_own hr hk];obtain ⟨m,hm⟩:∃ m,ms[k]?=some m:=⟨_,zA_ hk⟩;rw [ls_w hm];exact (((Zt.int m.wt).more (by have:=h.wt m (zC_ hm);omega)).mul (h2 k hk)).mul (h2 k hk)
 have h4:=Zt.sum (n:=ms.length) h3;refine h4.fits (a:=1416) (b:=1358) ?_ ?_ ?_ (by decide) (by decide)
 ·rw [Int.one_mul]
  intro e;rcases Int.mul_eq_zero.1 e with e | e<;>exact h0 e
 ·have e0:1000≤tenP 3:=by decide
  have e2:Q≤tenP 706:=Nat.le_of_eq hQ;have e1:1000*Q*Q≤tenP 1415:=zI_ (Nat.mul_le_mul (zI_ (Nat.mul_le_mul e0 e2) (tnAdd (c:=709) (by decide))) e2) (tnAdd (by decide));exact zI_ (Nat.mul_le_mul (show ms.length≤tenP 1 from zI_ h.k8 (by decide)) e1) (tnAdd (by decide))
 ·rw [Int.one_mul,Int.natAbs_mul]
  exact zI_ (Nat.mul_le_mul h1 h1) (tnAdd (by decide))
end
end
section
open Go.ChangeShapes Go.WideShapes Go.ChangeAt Go.RowKit
theorem ownSt_lit0 {w:World}:OwnSt (w.alloc (.cells #[] 55)) w.heap.size (.slice (some ⟨w.heap.size,0,none⟩) 0 0) []:=
 ⟨rfl,.inr ⟨w.heap.size,0,#[],rfl,lR,Blk.new w _ _,lR,by simp [maxLen],rfl,rfl,fun u hu=>by simp at hu⟩⟩
theorem info_st:(Tryz.prog.info? 55).map (fun i=>(i.zero,i.size,i.bytes))=some (some (.string ⟨#[]⟩),1,16):=by kernel_rfl
theorem wpList_appSt {ops:Array Oper} {rest:List Oper} {o:Oper} {a:Act} {Q:Exit→Act→World→Prop} {w:World} (hgd:o.guard=none) (s x:Operand) (t:TypeId)
    (ho:o.op=.call { callee:=.builtin .append,args:=#[s,x],argTypes:=#[t,t] }) (base:Nat) (ht:Tryz.prog.underlying t=some (.slice 55))
    (v:Value) (xs:List ByteArray) (hsv:a.eval s=v) (hown:OwnSt w base v xs)
    (A:Option Addr) (m c:Nat) (ys:List ByteArray) (hx:a.eval x=.slice A m c) (hr:RdStr w w.heap.size A m ys) (h63:(xs.length+m)*16≤140737488355328) (hbase:base≤w.heap.size) (N:Nat) (hN:(xs++ys).length=N)
    (h:∀ A' c' w',OwnSt w' base (.slice A' N c') (xs++ys)→Below base w w'→wpList Tryz.prog ops Q rest (a.put o.dst (.slice A' N c')) w'):wpList Tryz.prog ops Q (o::rest) a w:=by
 obtain ⟨i0,hi0,hz0,hz1,hz2⟩:=info_parts info_st;have hm:=hr.1;refine wpList_appR (S:=AnyU) hgd s x t ho base 55 i0 _ 1 16 ht hi0 hz0 hz1 hz2 rfl (by omega) (fun _ _=>trivial) v xs.length (strsV xs) hsv hown A m c (strsV ys) hx hr.2 (fun u hu=>?_) (by simp only [maxLen];omega) (by omega) hbase fun v' w' h1 h2 _ _=>?_
 ·unfold strsV at hu
  obtain ⟨b,-,rfl⟩:=List.mem_map.1 hu;exact ⟨rfl,trivial⟩
 ·have h3:OwnSt w' base v' (xs++ys):=by
   unfold OwnSt;have e:strsV (xs++ys)=strsV xs++strsV ys:=List.map_append;rw [e,zE_,hm];exact h1
  obtain ⟨A',c',e,-⟩:=OwnS.shape h3;subst e;subst hN;exact h A' c' w' h3 h2.low
def gndL (F:List Nat) (ss:List ByteArray):List ByteArray:=ss.mapIdx fun i s=>if (natJ F).any (· == (i:Int)) then s else ⟨#[48]⟩
theorem gndL_len {F:List Nat} {ss:List ByteArray}:(gndL F ss).length=ss.length:=by unfold gndL;rw [List.length_mapIdx]
theorem gndL_at {F:List Nat} {ss:List ByteArray} {i:Nat} {s:ByteArray} (h:ss[i]?=some s):(gndL F ss)[i]?=some (if (natJ F).any (· == (i:Int)) then s else ⟨#[48]⟩):=by
 unfold gndL;rw [List.getElem?_mapIdx,h];rfl
theorem gnd_step {F:List Nat} {ss:List ByteArray} {i:Nat} {s:ByteArray} (h:ss[i]?=some s):(gndL F ss).take (i+1)=(gndL F ss).take i++[if (natJ F).any (· == (i:Int)) then s else ⟨#[48]⟩]:=take_at (gndL_at h)
theorem natJ_any {F:List Nat} {i:Nat}:(natJ F).any (· == (i:Int))=true↔i∈F:=by
 unfold natJ;rw [List.any_eq_true]
 constructor
 ·rintro ⟨z,hz,e⟩
  obtain ⟨j,hj,rfl⟩:=List.mem_map.1 hz;have:(j:Int)=(i:Int):=by simpa using e
  rwa [show i=j by omega]
 ·intro h
  exact ⟨(i:Int),List.mem_map.2 ⟨i,h,rfl⟩,by simp⟩
theorem zero_txt:ratCk (⟨#[48]⟩:ByteArray).data.toList=0∧qOf ⟨#[48]⟩=0:=by decide+kernel
theorem gnd_grd {x:Net} {ss:List ByteArray} (hl:ss.length=busN x):Grd x ((gndL (freeL x) ss).map qOf):=⟨by rw [zG_,gndL_len,hl],fun j hj hf=>by
 obtain ⟨t,ht⟩:∃ t,ss[j]?=some t:=zX_ (by omega);refine vf_at ?_;rw [zM_,gndL_at ht,if_neg,Option.map_some,zero_txt.2];rw [natJ_any];intro hm;obtain ⟨i,hi⟩:=List.mem_iff_getElem?.1 hm;have:=(pick_at (p:=freeB (islN x)) (n:=busN x) hi).1;rw [hf] at this;cases this⟩
theorem txt_back {s:ByteArray} (h:ratCk s.data.toList=0):txtQ (qOf s)=s:=by
 unfold txtQ qOf;rw [(valid_parse h).2.2.1]
end
section
open Go.ChangeShapes Go.WideShapes Go.ChangeAt Go.RowKit
attribute [local go_sem ↓] execOp_call_val
attribute [local go_sem] callVal_func setCell_drewN alloc_drewN sEq_walk
theorem back_all {ss:List ByteArray} (h:∀ s∈ss,ratCk s.data.toList=0):(ss.map qOf).map txtQ=ss:=by
 rw [List.map_map]
 conv=>rhs;rw [←List.map_id ss]
 exact List.map_congr_left fun s hs=>txt_back (h s hs)
end
section
theorem cmpS_le {p q:Rat} (hp:Fits p) (hq:Fits q) (h:p≤q):cmpS (txtQ p) (txtQ q)≤0:=by
 obtain ⟨h1,h2⟩:=txt_valid hp;obtain ⟨h3,h4⟩:=txt_valid hq;unfold cmpS;rw [if_pos (ckAllR_ok.2 fun s hs=>by
  rcases List.mem_cons.1 hs with rfl | hs
  ·exact h1
  ·rw [List.mem_singleton.1 hs];exact h3),h2,h4]
 unfold cmpQ;have h5:=(Rat.le_iff p q).1 h;rcases Int.lt_trichotomy (p.num*(q.den:Int)-q.num*(p.den:Int)) 0 with c | c | c
 ·rw [Int.sign_eq_neg_one_of_neg c];decide
 ·rw [c];decide
 ·omega
theorem least_law {x:Net} {ms:List Mi} (h:Sml x ms) (hr:EReg x ms) {ob:List Rat} (hg:Grd x ob):costR x ms (estR x ms)≤costR x ms ob∧(costR x ms (estR x ms)=costR x ms ob→estR x ms=ob):=by
 have hp:(lsOf x ms).Pos:=ls_pos fun m hm=>(h.wt m hm).1;rw [costR_eq h.ok h.mi est_grd,costR_eq h.ok h.mi hg,(est_solF hr).least (frF x ob)];have hn:=hp.nn fun k=>dotn (lsOf x ms).n ((lsOf x ms).R k) (fun i=>frF x ob i+(-1)*frF x (estR x ms) i);have h1:=sumTo_nn (n:=(lsOf x ms).K) hn;generalize hs:sumTo (lsOf x ms).K (fun k=>(lsOf x ms).w k*(dotn (lsOf x ms).n ((lsOf x ms).R k) (fun i=>frF x ob i+(-1)*frF x (estR x ms) i)*dotn (lsOf x ms).n ((lsOf x ms).R k) (fun i=>frF x ob i+(-1)*frF x (estR x ms) i)))=t at *;refine ⟨by grind,fun e=>?_⟩;have e0:t=0:=by grind
 rw [e0] at hs;have h2:=hp.zero hs;refine est_grd.eq hg fun i hi=>?_;have h3:=(ereg_iff fun m hm=>(h.wt m hm).1).1 hr _ h2 i hi;grind
end
section
open Go.ChangeShapes Go.WideShapes Go.ChangeAt Go.RowKit
attribute [local go_sem ↓] execOp_call_val
attribute [local go_sem] callVal_func setCell_drewN alloc_drewN sEq_walk
theorem eleast_any (h:NetH) (x:Net) (A:Option Addr) (n c:Nat) (ms0:List Mi) (B:Option Addr) (q d:Nat) (ss:List ByteArray) (w:World) (r:RdNet w w.heap.size h x) (hm:RdMi w w.heap.size A n ms0) (hR:RdStr w w.heap.size B q ss) (hnc:n≤c) (hc:c≤9223372036854775807) (hq:q*16≤140737488355328) (ht:TabOk w) :
    Calls Tryz.prog 7 #[.agg h.cells,.slice A n c,.slice B q d] w fun e w'=>e=.returned (.bool true)∧Below w.heap.size w w':=by
 obtain ⟨k,hk8,hkn,hmin⟩:∃ k:Nat,k≤8∧k≤n∧min (n:Int) 8=(k:Int):=by
  by_cases h:(8:Int)<(n:Int)
  ·exact ⟨8,by omega,by omega,by omega⟩
  ·exact ⟨n,by omega,by omega,by omega⟩
 have hkc:(k:Int)≤(c:Int):=by omega
 have hm1:=hm.take hkn;generalize hms:ms0.take k=ms at *;clear hms hm;have K0:Below w.heap.size w (w.alloc (.cells h.cells 29)):=bA;have HK:=lH K0;have P0:=lH (Blk.new w 29 h.cells);have HX:=lH (r.up K0);have HM:=lH (hm1.bm K0);have HS:=lH (hR.bm K0);have HT:=lH (ht.up K0);have HML:Hid (ms.length=k):=lH hm1.1;have HSL:Hid (ss.length=q):=lH hR.1;have HSZ:Hid (w.heap.size≤(w.alloc (.cells h.cells 29)).heap.size):=lH K0.size;clear K0 hm1 r ht hR;obtain ⟨D0,r0,s0,D1,r1,s1,D2,r2,s2,D3,r3,s3,D4,r4,s4,D5,r5,s5⟩:=h;go_enter Tryz.func7,Tryz.ntmps7
 go_wp2_with fail
 generalize w.alloc (.cells (NetH.cells ⟨D0,r0,s0,D1,r1,s1,D2,r2,s2,D3,r3,s3,D4,r4,s4,D5,r5,s5⟩) 29)=W at *;refine (eworks_any W HT.o).mono ?_;rintro e w1 ⟨rfl,hb1⟩;have HB1:=lH (HK.o.trans (hb1.mono HSZ.o));replace P0:=lH (P0.o.bl hb1);replace HM:=lH (HM.o.bm hb1);replace HS:=lH (HS.o.bm hb1);replace HX:=lH (HX.o.up hb1);replace HT:=lH (HT.o.up hb1);clear hb1;clear HK HSZ;have PNX:=P0.o;obtain ⟨y0,y1,y2,y3,y4,y5,nf,nlt⟩:=net_box PNX;dsimp only at y0 y1 y2 y3 y4 y5;clear PNX
 go_wp2_with fail
 clear y0 y1 y2 y3 y4 y5 nf nlt;have hz:Below w1.heap.size w1 (w1.alloc (.cells #[.slice B q d] 35)):=bA;have HVC:=lH (rdVc_v (T:=35) (c:=d) HS.o (by omega));have HB1b:=lH (HB1.o.tm hz);replace P0:=lH (P0.o.bl hz);replace HM:=lH (HM.o.bm hz);replace HS:=lH (HS.o.bm hz);replace HX:=lH (HX.o.up hz);replace HT:=lH (HT.o.up hz);clear hz;generalize w1.alloc (.cells #[.slice B q d] 35)=w1b at *;refine (small_any _ x A k c ms _ 1 1 [⟨B,q,d,ss⟩] w1b HX.o HM.o HVC.o (by omega) (by decide)).mono ?_;rintro e w2 ⟨rfl,hb2⟩;have HB2:=lH (HB1b.o.tm hb2);replace P0:=lH (P0.o.bl hb2);replace HM:=lH (HM.o.bm hb2);replace HS:=lH (HS.o.bm hb2);replace HX:=lH (HX.o.up hb2);replace HT:=lH (HT.o.up hb2);clear hb2;clear HVC
 cases hsm:smallR x ms [⟨B,q,d,ss⟩] with
 | false=>
  go_wp2_with fail
  go_ret;exact ⟨rfl,HB2.o⟩
 | true=>
  obtain ⟨h8,h10,hz,hs24⟩:=small_all hsm;have HZ:=lH hz;have HSM:Hid (∀ s∈ss,s.size≤maxLen):=lH fun s hs=>zI_ (hs24 s hs) (by decide);have HZ24:=lH (small_allv hsm).2.2;have H10:=lH h10;clear hsm hz hs24 h10;have PNX:=P0.o;obtain ⟨y0,y1,y2,y3,y4,y5,nf,nlt⟩:=net_box PNX;dsimp only at y0 y1 y2 y3 y4 y5;clear PNX
  go_wp2_with fail
  clear y0 y1 y2 y3 y4 y5 nf nlt;refine (angles_any _ x h8 A k c ms w2 HX.o HM.o HZ.o (by omega) HT.o).mono ?_;rintro e w7 ⟨hb7,hc7⟩;have HB7:=lH (HB2.o.tm hb7);replace P0:=lH (P0.o.bl hb7);replace HM:=lH (HM.o.bm hb7);replace HS:=lH (HS.o.bm hb7);replace HX:=lH (HX.o.up hb7);replace HT:=lH (HT.o.up hb7);clear hb7;rcases hc7 with ⟨d7,hd7,hec7,rfl⟩ | ⟨hec7,A7,n7,c7,rfl,hrd7,hnc7,hc7⟩
  ·have hB:(d7 != 0)=true:=by simp [hd7]
   go_wp2_with fail
   go_ret;exact ⟨rfl,HB7.o⟩
  have HEC:=lH hec7;have HRD7:=lH hrd7;have HN7:Hid (n7≤9223372036854775807):=lH (by unfold maxLen at hc7;omega);clear hec7 hrd7 hnc7 hc7;have PNX:=P0.o;obtain ⟨y0,y1,y2,y3,y4,y5,nf,nlt⟩:=net_box PNX;dsimp only at y0 y1 y2 y3 y4 y5;clear PNX
  go_wp2_with fail
  clear y0 y1 y2 y3 y4 y5 nf nlt;refine (free_any _ x h8 w7 HX.o).mono ?_;rintro e w3 ⟨hb3,hfr⟩;have HB3:=lH (HB7.o.tm hb3);replace P0:=lH (P0.o.bl hb3);replace HM:=lH (HM.o.bm hb3);replace HS:=lH (HS.o.bm hb3);replace HRD7:=lH (HRD7.o.bm hb3);replace HX:=lH (HX.o.up hb3);replace HT:=lH (HT.o.up hb3);clear hb3;obtain ⟨hck,hreg,hfe⟩:=HEC.o.zero rfl;have HCK:=lH hck;have HREG:=lH hreg;have HFE:=lH hfe;obtain ⟨hnet,-,-⟩:=mtCk_parts hck;obtain ⟨A3,c3,e3,hrd3⟩:∃ (A3:Option Addr) (c3:Nat),e=.returned (.tuple #[.slice A3 (freeL x).length c3,.int .i64 0])∧RdI w3 w3.heap.size A3 (freeL x).length (natJ (freeL x)):=by
   rcases hfr with ⟨h1,rfl⟩ | ⟨h1,A3,c3,rfl,h3⟩
   ·exact absurd hnet h1
   ·exact ⟨A3,c3,rfl,h3⟩
  subst e3;have HF8:Hid ((freeL x).length≤8):=lH (freeL_len (netCk_ok hnet) h8);have HI3:=lH hrd3;clear hfr hrd3 hck hreg hfe hnet HEC HB7 HB2
  by_cases hqn:q=n7
  case neg=>
   have hB:((q:Int) != (n7:Int))=true:=by simp;omega
   go_wp2_with fail
   go_ret;exact ⟨rfl,HB3.o⟩
  subst hqn;generalize hF3:freeL x=F3 at *;have HFX:=lH hF3;clear hF3;have hz:Below w3.heap.size w3 (w3.alloc (.cells #[] 55)):=bA;have HZW:=lH hz;clear hz;have HQ9:=lH hq
  go_wp2_with (at_builtin;refine wpList_appSt rfl (.tmp 57) (.tmp 58) _ rfl w3.heap.size Tryz.underlying35 (.slice (some ⟨w3.heap.size,0,none⟩) 0 0) [] rfl ownSt_lit0 B q d ss rfl ?k1 ?k2 ?k3 q ?k4 ?_)
  case k1=>exact (HS.o.below HZW.o lR).more HZW.o.size
  case k2=>simp only [zW_];omega
  case k3=>exact HZW.o.size
  case k4=>rw [List.nil_append];exact HSL.o
  intro Ay cy w5 ho hb;have HO5:Hid (OwnSt w5 w3.heap.size (.slice Ay q cy) ss):=lH ho;have HZ5:=lH (HZW.o.trans hb);clear ho hb HZW
  go_wp2_with fail
  go_loopw [62] (fun v44 wr=>∃ i:Nat,i≤q∧v44=.int .i64 i∧OwnSt wr w3.heap.size (.slice Ay q cy) ((gndL F3 ss).take i++ss.drop i)∧Below w3.heap.size w3 wr) (fun v44 _=>q-(intOf v44).toNat)
  case atStart=>exact ⟨0,by omega,rfl,HO5.o,HZ5.o⟩
  case round=>
   clear HO5 HZ5;obtain ⟨i,hi,rfl,ho,hb⟩:=hrel;have HO:=lH ho;have HB:=lH hb;clear ho hb
   by_cases hlt:i<q
   ·obtain ⟨si,hsi⟩:∃ si,ss[i]?=some si:=zX_ (by have:=HSL.o;omega)
    have hgl:((gndL F3 ss).take i).length=i:=by rw [zF_,gndL_len];have:=HSL.o;omega
    have hsi2:((gndL F3 ss).take i++ss.drop i)[i]?=some si:=by
     rw [zN_ (by omega),hgl,Nat.sub_self,List.getElem?_drop];exact hsi
    have HST:=lH (gnd_step (F:=F3) hsi);have HSI:=lH hsi;have HGL:=lH hgl;have hqq:=HQ9.o;have hkI:(i:Int)<(q:Int):=by omega
    have hk0:=lZ i
    have hkn:=zL_ i;have HNX:=lN i;have HNM:Hid (q-(i+1)<q-i):=lH (by omega);have HIr:=lH (HI3.o.bm HB.o);have HSET:Hid (ss.drop i=si::ss.drop (i+1)):=lH (by
     rw [List.drop_eq_getElem_cons (by have:=HSL.o;omega)];rw [zA_ (by have:=HSL.o;omega)] at hsi;injection hsi with hsi;rw [hsi])
    have HO2:=lH (HO.o.at_ hsi2);clear hsi hsi2 hgl hkI hk0 hkn
    go_upto_region 16 with fail
    go_wp2_with fail
    refine (hasInt_any A3 F3.length c3 (natJ F3) (i:Int) wr HIr.o (by have:=HF8.o;omega)).mono ?_;rintro e w6 ⟨rfl,rfl⟩;cases hany:(natJ F3).any (· == (i:Int)) with
    | true=>
     have HE:Hid ((gndL F3 ss).take (i+1)++ss.drop (i+1)=(gndL F3 ss).take i++ss.drop i):=lH (by rw [HST.o,hany,if_pos rfl,HSET.o,List.append_assoc];rfl);have hkI:(i:Int)<(q:Int):=by omega
     go_wp2_with fail
     go_roundw
     case rel=>exact ⟨i+1,hlt,val_int HNX.o,by rw [HE.o];exact HO.o,HB.o⟩
     case measure=>exact HNM.o
    | false=>
     obtain ⟨g,hA,hgb,hgl,c0,cf,hput⟩:=HO2.o;subst hA;have HPUT:=lH (hput ⟨#[48]⟩);have HGB:=lH hgb;have HE:Hid ((gndL F3 ss).take (i+1)++ss.drop (i+1)=((gndL F3 ss).take i++ss.drop i).set i ⟨#[48]⟩):=lH (by
      rw [HST.o,hany,if_neg (by decide),HSET.o,List.set_append_right _ _ (by rw [HGL.o];exact lR),HGL.o,Nat.sub_self,List.append_assoc];rfl)
     have hkI:(i:Int)<(q:Int):=by omega
     have hk0:=lZ i
     have hkn:=zL_ i;clear hput hgb HO2
     go_wp2_with fail
     go_roundw
     case rel=>exact ⟨i+1,hlt,val_int HNX.o,by rw [HE.o];exact HPUT.o,HB.o.setCell HGB.o _⟩
     case measure=>exact HNM.o
   ·have hie:i=q:=by omega
    have HOE:Hid (OwnSt wr w3.heap.size (.slice Ay q cy) (gndL F3 ss)):=lH (by
     have h:=HO.o;rw [zH_ (by rw [gndL_len];have:=HSL.o;omega),List.drop_eq_nil_iff.2 (by have:=HSL.o;omega),List.append_nil] at h;exact h)
    have hkI:¬(i:Int)<(q:Int):=by omega
    have hb:=HB.o;have HBr:=lH (HB3.o.tm hb);replace P0:=lH (P0.o.bl hb);replace HM:=lH (HM.o.bm hb);replace HRD7:=lH (HRD7.o.bm hb);replace HX:=lH (HX.o.up hb);replace HT:=lH (HT.o.up hb);clear hb;have HG:=lH HOE.o.rd;have HGL:Hid ((gndL F3 ss).length=q):=lH (by rw [gndL_len];exact HSL.o);have HGZ:Hid (∀ s∈gndL F3 ss,s.size≤maxLen):=lH fun s hs=>by
     obtain ⟨j,hj⟩:=List.mem_iff_getElem?.1 hs;obtain ⟨t,ht⟩:∃ t,ss[j]?=some t:=zX_ (by have:=(zB_.1 hj).1;rwa [gndL_len] at this);rw [gndL_at ht] at hj;injection hj with hj;rw [←hj]
     split
     ·exact HSM.o t (zC_ ht)
     ·show (⟨#[48]⟩:ByteArray).size≤maxLen;unfold maxLen;decide+kernel
    have HGR:Hid (ss.length=busN x→Grd x ((gndL F3 ss).map qOf)):=lH fun h=>by rw [←HFX.o];exact gnd_grd h
    have hSm:Sml x ms:=sml_of h8 H10.o (by have:=HML.o;omega) HZ24.o HCK.o;have HSml:=lH hSm;have HR0:Hid (readE x ms ((estR x ms).map txtQ)=0):=lH (by
     unfold readE angE;rw [if_neg (fun h=>h HCK.o),if_neg (by rw [zG_,est_len];omega)];exact ckAllR_ok.2 fun s hs=>by
      obtain ⟨p,hp,rfl⟩:=List.mem_map.1 hs;exact (txt_valid (HFE.o p hp)).1)
    have HBK:Hid (((estR x ms).map txtQ).map qOf=estR x ms):=lH (by
     rw [List.map_map]
     conv=>rhs;rw [←List.map_id (estR x ms)]
     exact List.map_congr_left fun p hp=>(txt_valid (HFE.o p hp)).2)
    have HEZ:Hid (∀ s∈(estR x ms).map txtQ,s.size≤maxLen):=lH fun s hs=>by
     obtain ⟨p,hp,rfl⟩:=List.mem_map.1 hs;exact txt_mx (HFE.o p hp)
    have HCF:=lH (cost_fits hSm HREG.o);clear HO HB HOE hie HI3 HB3 hSm HS;have PNX:=P0.o;obtain ⟨y0,y1,y2,y3,y4,y5,nf,nlt⟩:=net_box PNX;dsimp only at y0 y1 y2 y3 y4 y5;clear PNX
    go_wp2_with fail
    clear y0 y1 y2 y3 y4 y5 nf nlt;refine (ecost_any _ x h8 A k c ms A7 q c7 _ wr HX.o HM.o HRD7.o HZ.o HEZ.o (by omega) HN7.o HT.o).mono ?_;rintro e w8 ⟨hb8,hc8⟩;have he8:e=.returned (.tuple #[.string (txtQ (costR x ms (estR x ms))),.int .i64 0]):=by
     rcases hc8 with ⟨h1,-⟩ | ⟨-,h1,-⟩
     ·exact absurd HR0.o h1
     ·rw [HBK.o] at h1
      exact h1 HCF.o
    subst he8;have HB8:=lH (HBr.o.tm hb8);replace P0:=lH (P0.o.bl hb8);replace HM:=lH (HM.o.bm hb8);replace HG:=lH (HG.o.bm hb8);replace HRD7:=lH (HRD7.o.bm hb8);replace HX:=lH (HX.o.up hb8);replace HT:=lH (HT.o.up hb8);clear hb8 hc8;have PNX:=P0.o;obtain ⟨y0,y1,y2,y3,y4,y5,nf,nlt⟩:=net_box PNX;dsimp only at y0 y1 y2 y3 y4 y5;clear PNX;generalize hog:gndL F3 ss=og at *;generalize hct:txtQ (costR x ms (estR x ms))=ct
    go_wp2_with fail
    clear y0 y1 y2 y3 y4 y5 nf nlt;refine (ecost_any _ x h8 A k c ms Ay q cy og w8 HX.o HM.o HG.o HZ.o HGZ.o (by omega) (by have:=HQ9.o;omega) HT.o).mono ?_;rintro e w9 ⟨hb9,hc9⟩;have HB9:=lH (HB8.o.tm hb9);replace HG:=lH (HG.o.bm hb9);replace HRD7:=lH (HRD7.o.bm hb9);replace HT:=lH (HT.o.up hb9);clear hb9;obtain ⟨dt,dc,he9,hd9⟩:∃ (dt:ByteArray) (dc:Int),e=.returned (.tuple #[.string dt,.int .i64 dc])∧(dc=0→readE x ms og=0∧Fits (costR x ms (og.map qOf))∧dt=txtQ (costR x ms (og.map qOf))):=by
     rcases hc9 with ⟨h1,h2⟩ | ⟨h1,h2,h3⟩
     ·exact ⟨_,_,h2,fun h=>absurd h h1⟩
     ·by_cases hf:Fits (costR x ms (og.map qOf))
      ·exact ⟨_,_,h2 hf,fun _=>⟨h1,hf,rfl⟩⟩
      ·exact ⟨_,_,h3 hf,fun h=>absurd h (by decide)⟩
    subst he9;clear hc9
    by_cases hdc:dc=0
    case neg=>
     have hB:(dc != 0)=true:=by simp [hdc]
     have hB2:(dc == 0)=false:=by simp [hdc]
     go_wp2_with fail
     go_ret;exact ⟨rfl,HB9.o⟩
    obtain ⟨hre,hfd,rfl⟩:=hd9 hdc;subst hdc;obtain ⟨-,hol,hov⟩:=readE_parts hre;have hgr:=HGR.o (by rw [←gndL_len (F:=F3) (ss:=ss),hog];exact hol);obtain ⟨hle,heq⟩:=least_law HSml.o HREG.o hgr;have HLE:=lH (cmpS_le HCF.o hfd hle);have HCTZ:Hid (ct.size≤maxLen):=lH (by rw [←hct];exact txt_mx HCF.o);have HDTZ:=lH (txt_mx hfd);have HEQ:Hid (ct=txtQ (costR x ms (og.map qOf))→(estR x ms).map txtQ=og):=lH fun h=>by
     rw [←hct] at h;rw [heq (txt_inj HCF.o hfd h)];exact back_all hov
    rw [hct] at HLE;generalize txtQ (costR x ms (og.map qOf))=dt at *;clear hre hfd hol hov hgr hle heq hct hd9
    go_wp2_with fail
    refine (cmp_any2 ct dt HCTZ.o HDTZ.o w9 HT.o).mono ?_;rintro e w10 ⟨rfl,hb10⟩;have HB10:=lH (HB9.o.tm hb10);replace HG:=lH (HG.o.bm hb10);replace HRD7:=lH (HRD7.o.bm hb10);clear hb10;have hz:=HLE.o;generalize cmpS ct dt=z at *;clear HLE;have hzd:decide (z≤0)=true:=decide_eq_true hz
    by_cases hcd:ct=dt
    case neg=>
     have hB2:sEq ct dt=false:=sEq_ff.2 hcd
     go_wp2_with fail
     go_ret;exact ⟨rfl,HB10.o⟩
    have hs7:=HEQ.o hcd;subst hcd;have hB2:sEq ct ct=true:=sEq_iff.2 rfl;rw [hs7] at HRD7
    go_wp2_with fail
    refine (samevec_any A7 q c7 og Ay q cy og w10 HRD7.o HG.o HN7.o (by have:=HQ9.o;omega)).mono ?_;rintro e w11 ⟨rfl,hb11⟩;rw [decide_eq_true rfl];have HB11:=lH (HB10.o.tm hb11);clear hb11
    go_wp2_with fail
    go_ret;exact ⟨rfl,HB11.o⟩
end
end Go.Proofs.YthgdchffeigkbaaGreatDoor
