import Derived.Test.YthgdchffeigkbaaGreatDoorU10
import Derived.Test.YthgdchffeigkbaaGreatDoorU11
import Derived.Test.YthgdchffeigkbaaGreatDoorU12
import Derived.Laws.MakeOwn
set_option linter.unusedVariables false
set_option linter.unusedSimpArgs false
namespace Go.Proofs.YthgdchffeigkbaaGreatDoor
set_option maxHeartbeats 4000000
set_option maxRecDepth 100000
section
open Go.ChangeShapes Go.WideShapes Go.ChangeAt Go.RowKit
attribute [local go_sem ↓] execOp_call_val
attribute [local go_sem] callVal_func setCell_drewN alloc_drewN
theorem rdT_false (s:ByteArray):rdT false s.data.toList=s:=by
 apply ByteArray.ext;simp [rdT]
def TwP (y z:Int) (w:World) (e:Ending) (w':World):Prop:=Below w.heap.size w w'∧∃ b A n c b2 B m d,e=.returned (.tuple #[.agg #[.bool b,.slice A n c],.agg #[.bool b2,.slice B m d],.int .i64 0])∧LgIs w' w'.heap.size y b A n c∧LgIs w' w'.heap.size z b2 B m d
theorem two_ok (s t:ByteArray) (w:World) (h1:natCk s.data.toList=0) (h2:natCk t.data.toList=0) :
    Calls Tryz.prog 161 #[.string s,.string t] w (TwP (dv s.data.toList) (dv t.data.toList) w):=by
 obtain ⟨⟨_,k1,_⟩,k2⟩:=natCk_ok.1 h1;obtain ⟨⟨_,k3,_⟩,k4⟩:=natCk_ok.1 h2;have HD1:Hid (AllDg s.data.toList):=lH k1;have HD2:Hid (AllDg t.data.toList):=lH k3;have HL1:Hid (s.size≤2000):=lH (by rw [Lib.size_eq];exact k2);have HL2:Hid (t.size≤2000):=lH (by rw [Lib.size_eq];exact k4);have HN1:=lH h1;have HN2:=lH h2;have hi0:∀ w,(Instr.index 258 (.agg #[.string s,.string t]) (.int .i64 0)).run Tryz.prog w=.ok (.string s) w:=fun _=>by kernel_rfl
 have hi1:∀ w,(Instr.index 258 (.agg #[.string s,.string t]) (.int .i64 1)).run Tryz.prog w=.ok (.string t) w:=fun _=>by kernel_rfl
 have HI0:=lH hi0;have HI1:=lH hi1;have HB0:Hid (Below w.heap.size w ((w.alloc (.cells #[.bool false,.slice none 0 0] 113)).alloc (.cells #[.bool false,.slice none 0 0] 113))):=lH ((bA).alloc (by simp) _);have HX1:Hid (Blk ((w.alloc (.cells #[.bool false,.slice none 0 0] 113)).alloc (.cells #[.bool false,.slice none 0 0] 113)) w.heap.size 113 #[.bool false,.slice none 0 0]):=lH ((Blk.new w _ _).alloc _);have HX2:Hid (Blk ((w.alloc (.cells #[.bool false,.slice none 0 0] 113)).alloc (.cells #[.bool false,.slice none 0 0] 113)) (w.heap.size+1) 113 #[.bool false,.slice none 0 0]):=lH (Blk.new_ (by simp));clear h1 h2 k1 k2 k3 k4 hi0 hi1;go_enter Tryz.func161,Tryz.ntmps161
 go_wp2_with fail
 generalize ((w.alloc (.cells #[.bool false,.slice none 0 0] 113)).alloc (.cells #[.bool false,.slice none 0 0] 113))=W at *
 go_loopw [8,9,13] (fun v8 v9 i wr=>∃ k:Nat,k≤2∧i=.int .i64 k∧Below w.heap.size w wr∧Blk wr w.heap.size 113 #[.bool false,.slice none 0 0]∧Blk wr (w.heap.size+1) 113 #[.bool false,.slice none 0 0]) (fun _ _ i _=>2-(intOf i).toNat)
 case atStart=>exact ⟨0,by omega,rfl,HB0.o,HX1.o,HX2.o⟩
 case round=>
  clear HB0 HX1 HX2;obtain ⟨k,hk,rfl,hb,hx1,hx2⟩:=hrel;have HB:=lH hb;have HX1:=lH hx1;have HX2:=lH hx2;clear hb hx1 hx2;have hc:k=0∨k=1∨k=2:=by omega
  rcases hc with rfl | rfl | rfl
  ·have e:(((0:Nat):Int))=0:=rfl
   rw [e];clear e;have hi0:=HI0.o
   go_wp2_with fail
   refine (natck_any s wr (by have:=HL1.o;unfold maxLen;omega)).mono ?_;rw [HN1.o];rintro e w1 ⟨rfl,hb1⟩;have HB1:=lH (HB.o.tm hb1);have HX11:=lH (HX1.o.bl hb1);have HX21:=lH (HX2.o.bl hb1);clear hb1 HB HX1 HX2 hi0
   go_wp2_with fail
   go_roundw
   case rel=>exact ⟨1,by omega,rfl,HB1.o,HX11.o,HX21.o⟩
   case measure=>simp [intOf]
  ·have e:(((1:Nat):Int))=1:=rfl
   rw [e];clear e;have hi1:=HI1.o
   go_wp2_with fail
   refine (natck_any t wr (by have:=HL2.o;unfold maxLen;omega)).mono ?_;rw [HN2.o];rintro e w1 ⟨rfl,hb1⟩;have HB1:=lH (HB.o.tm hb1);have HX11:=lH (HX1.o.bl hb1);have HX21:=lH (HX2.o.bl hb1);clear hb1 HB HX1 HX2 hi1
   go_wp2_with fail
   go_roundw
   case rel=>exact ⟨2,by omega,rfl,HB1.o,HX11.o,HX21.o⟩
   case measure=>simp [intOf]
  ·have e:(((2:Nat):Int))=2:=rfl
   rw [e];clear e
   go_wp2_with fail
   have c1:=read_any false s.data.toList HD1.o (by have:=HL1.o;rw [Lib.size_eq] at this;omega) wr;rw [rdT_false] at c1;refine c1.mono ?_;clear c1;rintro e w1 ⟨hb1,f1,C1,i1,j1,rfl,h1⟩;have HB1:=lH (HB.o.tm hb1);have HX11:=lH (HX1.o.bl hb1);have HX21:=lH (HX2.o.bl hb1);have H1:=lH h1;clear hb1 HB HX1 HX2 h1
   go_wp2_with fail
   have c2:=read_any false t.data.toList HD2.o (by have:=HL2.o;rw [Lib.size_eq] at this;omega) w1;rw [rdT_false] at c2;refine c2.mono ?_;clear c2;rintro e w2 ⟨hb2,f2,C2,i2,j2,rfl,h2⟩;have HB2:=lH (HB1.o.tm hb2);have HX12:=lH (HX11.o.bl hb2);have HX22:=lH (HX21.o.bl hb2);have H12:=lH (H1.o.up hb2);have H22:=lH h2;have e10:w.heap.size+1≠w.heap.size:=by omega
   have e01:w.heap.size≠w.heap.size+1:=by omega
   clear hb2 HB1 HX11 HX21 h2 H1;have y0:=HX12.o.cell 0;have y1:=HX12.o.cell 1;have yf:=HX12.o.frozen;have yl:=HX12.o.lt;have z0:=HX22.o.cell 0;have z1:=HX22.o.cell 1;have zf:=HX22.o.frozen;have zl:=HX22.o.lt
   go_wp2_with fail
   clear y0 y1 yf yl z0 z1 zf zl;generalize hw3:(w2.setCell ⟨w.heap.size,0,none⟩ (.bool f1)).setCell ⟨w.heap.size,1,none⟩ (.slice C1 i1 j1)=w3;have HX13:Hid (Blk w3 w.heap.size 113 #[.bool f1,.slice C1 i1 j1]):=lH (by rw [←hw3];exact blk_set2 HX12.o);have HX23:Hid (Blk w3 (w.heap.size+1) 113 #[.bool false,.slice none 0 0]):=lH (by rw [←hw3];exact (HX22.o.far e10 _).far e10 _);have HB3:Hid (Below w.heap.size w w3):=lH (by rw [←hw3];exact below_set2 HB2.o lR);have H13:Hid (LgIs w3 w3.heap.size (rdZ false s.data.toList) f1 C1 i1 j1):=lH (by rw [←hw3];exact (H12.o.keep (HX12.o.cell 0) (by simp) _).keep ((HX12.o.set_ 0 (.bool f1)).cell 1) (by simp) _);have H23:Hid (LgIs w3 w3.heap.size (rdZ false t.data.toList) f2 C2 i2 j2):=lH (by rw [←hw3];exact (H22.o.keep (HX12.o.cell 0) (by simp) _).keep ((HX12.o.set_ 0 (.bool f1)).cell 1) (by simp) _);clear hw3 HX12 HX22 HB2 H12 H22
   generalize hw4:(w3.setCell ⟨w.heap.size+1,0,none⟩ (.bool f2)).setCell ⟨w.heap.size+1,1,none⟩ (.slice C2 i2 j2)=w4;have HX14:Hid (Blk w4 w.heap.size 113 #[.bool f1,.slice C1 i1 j1]):=lH (by rw [←hw4];exact (HX13.o.far e01 _).far e01 _);have HX24:Hid (Blk w4 (w.heap.size+1) 113 #[.bool f2,.slice C2 i2 j2]):=lH (by rw [←hw4];exact blk_set2 HX23.o);have HB4:Hid (Below w.heap.size w w4):=lH (by rw [←hw4];exact below_set2 HB3.o (Nat.le_succ _));have H14:Hid (LgIs w4 w4.heap.size (rdZ false s.data.toList) f1 C1 i1 j1):=lH (by rw [←hw4];exact (H13.o.keep (HX23.o.cell 0) (by simp) _).keep ((HX23.o.set_ 0 (.bool f2)).cell 1) (by simp) _);have H24:Hid (LgIs w4 w4.heap.size (rdZ false t.data.toList) f2 C2 i2 j2):=lH (by rw [←hw4];exact (H23.o.keep (HX23.o.cell 0) (by simp) _).keep ((HX23.o.set_ 0 (.bool f2)).cell 1) (by simp) _);clear hw4;have q0:=HX14.o.cell 0;have q1:=HX14.o.cell 1
   have q2:=HX24.o.cell 0;have q3:=HX24.o.cell 1;exact bodyPost_ret (v:=.tuple #[.agg #[.bool f1,.slice C1 i1 j1],.agg #[.bool f2,.slice C2 i2 j2],.int .i64 0]) (by simp [results,Tryz.results161,go_sem,q0,q1,q2,q3]) rfl ⟨HB4.o,f1,C1,i1,j1,f2,C2,i2,j2,rfl,H14.o,H24.o⟩
theorem ntext_ok (v:Nat) (b:Bool) (A:Option Addr) (n c:Nat) (w:World) (h:LgIs w w.heap.size (v:Int) b A n c) (ht:TabOk w) (hv:ndg v≤2000) :
    Calls Tryz.prog 162 #[.agg #[.bool b,.slice A n c]] w fun e w'=>e=.returned (.tuple #[.string ⟨(Lib.decDigits v).toArray⟩,.int .i64 0])∧Below w.heap.size w w':=by
 have HB0:Hid (Below w.heap.size w (w.alloc (.cells #[.bool b,.slice A n c] 113))):=lH (bA);have HX1:=lH (Blk.new w 113 #[.bool b,.slice A n c]);have H1:=lH (h.up HB0.o);have HT:=lH (ht.up HB0.o);have hf:ndg (v:Int).natAbs≤2000:=by rw [Int.natAbs_natCast];exact hv
 have HF:=lH hf;have HTL:Hid (textL (v:Int)=Lib.decDigits v):=lH (by unfold textL;rw [if_neg (Int.not_lt.2 (Int.natCast_nonneg v)),Int.natAbs_natCast,List.nil_append]);clear h ht hf;go_enter Tryz.func162,Tryz.ntmps162
 go_upto_region 1 with fail
 generalize w.alloc (.cells #[.bool b,.slice A n c] 113)=W at *;have p0:=HX1.o.cell 0;have p1:=HX1.o.cell 1;have pl:=HX1.o.lt
 go_wp2_with fail
 refine (itext_any (v:Int) b A n c W H1.o HT.o).mono ?_;rintro e w1 ⟨hb1,s,he,hs,-⟩;rw [decide_eq_true HF.o] at he;have hs2:=hs HF.o;rw [HTL.o] at hs2;subst hs2;subst he;have HB1:=lH (HB0.o.tm hb1);clear hb1 hs p0 p1 pl
 go_wp2_with fail
 go_ret2;exact ⟨rfl,HB1.o⟩
theorem gcd_fits {a b:Nat} (ha:a<10^2000) (hb:b<10^2000):ndg (a.gcd b)≤2000:=by
 refine ndg_le (by decide) ?_;rcases Nat.eq_zero_or_pos a with h | h
 ·subst h;rw [Nat.gcd_zero_left];exact hb
 ·exact zT_ (Nat.gcd_le_left _ h) ha
theorem ngcd_ok (s t:ByteArray) (w:World) (h1:natCk s.data.toList=0) (h2:natCk t.data.toList=0) (ht:TabOk w) :
    Calls Tryz.prog 138 #[.string s,.string t] w fun e w'=>e=.returned (.tuple #[.string ⟨(Lib.decDigits ((dv s.data.toList).gcd (dv t.data.toList))).toArray⟩,.int .i64 0])∧Below w.heap.size w w':=by
 have HT:=lH ht;have HN1:=lH h1;have HN2:=lH h2;have hlt:∀ l:List UInt8,natCk l=0→dv l<10^2000∧dlen (dv l)≤2000:=fun l h=>by
  obtain ⟨⟨_,k1,_⟩,k2⟩:=natCk_ok.1 h;have h3:=pow_mono10 k2;have h4:=zJ_ (dv_lt k1) h3;exact ⟨h4,zI_ (dv_dlen k1) k2⟩
 have HA:=lH (hlt _ h1);have HC:=lH (hlt _ h2);clear ht h1 h2 hlt;go_enter Tryz.func138,Tryz.ntmps138
 go_wp2_with fail
 refine (two_ok s t w HN1.o HN2.o).mono ?_;rintro e w1 ⟨hb1,f1,C1,i1,j1,f2,C2,i2,j2,rfl,g1,g2⟩;have HK:Hid (Below w1.heap.size w1 ((w1.alloc (.cells #[.bool f1,.slice C1 i1 j1] 113)).alloc (.cells #[.bool f2,.slice C2 i2 j2] 113))):=lH ((bA).alloc (by simp) _);have HB1:=lH (hb1.tm HK.o);have HX1:Hid (Blk ((w1.alloc (.cells #[.bool f1,.slice C1 i1 j1] 113)).alloc (.cells #[.bool f2,.slice C2 i2 j2] 113)) w1.heap.size 113 #[.bool f1,.slice C1 i1 j1]):=lH ((Blk.new w1 _ _).alloc _);have HX2:Hid (Blk ((w1.alloc (.cells #[.bool f1,.slice C1 i1 j1] 113)).alloc (.cells #[.bool f2,.slice C2 i2 j2] 113)) (w1.heap.size+1) 113 #[.bool f2,.slice C2 i2 j2]):=lH (Blk.new_ (by simp));have H1:=lH (g1.up HK.o);have H2:=lH (g2.up HK.o);have hn1:i1≤2000:=by rw [g1.en,Int.natAbs_natCast];exact HA.o.2
 have hn2:i2≤2000:=by rw [g2.en,Int.natAbs_natCast];exact HC.o.2
 clear hb1 HK g1 g2
 go_upto_region 2 with fail
 generalize ((w1.alloc (.cells #[.bool f1,.slice C1 i1 j1] 113)).alloc (.cells #[.bool f2,.slice C2 i2 j2] 113))=W at *;have p0:=HX1.o.cell 0;have p1:=HX1.o.cell 1;have pl:=HX1.o.lt;have q0:=HX2.o.cell 0;have q1:=HX2.o.cell 1;have ql:=HX2.o.lt
 go_wp2_with fail
 refine (gcd_any (dv s.data.toList:Int) (dv t.data.toList:Int) f1 C1 i1 j1 f2 C2 i2 j2 W H1.o H2.o (zI_ hn1 (by decide)) (zI_ hn2 (by decide))).mono ?_;rw [Int.natAbs_natCast,Int.natAbs_natCast];rintro e w3 ⟨hb3,f3,C3,i3,j3,rfl,g3⟩;have HB3:=lH (HB1.o.tm hb3);have H3:=lH g3;clear hb3 g3 p0 p1 pl q0 q1 ql
 go_wp2_with fail
 refine (ntext_ok _ f3 C3 i3 j3 w3 H3.o (HT.o.up HB3.o) (gcd_fits HA.o.1 HC.o.1)).mono ?_;rintro e w4 ⟨rfl,hb4⟩;have HB4:=lH (HB3.o.tm hb4);clear hb4
 go_wp2_with fail
 go_ret2;exact ⟨rfl,HB4.o⟩
def cutR (c:UInt8):List UInt8→List UInt8×List UInt8×Bool
 | []=>([],[],false)
 | x::r=>if x=c then ([],r,true) else (x::(cutR c r).1,(cutR c r).2.1,(cutR c r).2.2)
theorem cutR_no {c:UInt8}:∀ {l:List UInt8},c∉l→cutR c l=(l,[],false)
 | [],_=>rfl
 | x::r,h=>by
  have h1:x≠c:=fun e=>h (by rw [e];exact List.mem_cons_self ..);unfold cutR;rw [if_neg h1,cutR_no fun hm=>h (List.mem_cons_of_mem _ hm)]
theorem cut_ix (c:UInt8):∀ l:List UInt8,(Lib.indexByte l c=-1∧cutR c l=(l,[],false))∨(∃ i:Nat,Lib.indexByte l c=(i:Int)∧i+1≤l.length∧cutR c l=(l.take i,l.drop (i+1),true))
 | []=>.inl ⟨rfl,rfl⟩
 | x::r=>by
  unfold Lib.indexByte cutR
  by_cases h:x=c
  ·right
   exact ⟨0,by simp [h],by simp,by simp [h]⟩
  ·have hb:(x == c)=false:=by simpa using h
   rw [hb,if_neg h];rcases cut_ix c r with ⟨h1,h2⟩ | ⟨i,h1,h2,h3⟩
   ·left
    rw [h1,h2];simp
   ·right
    refine ⟨i+1,?_,by simp;omega,by rw [h3];simp⟩;rw [h1];have:((i:Int) == -1)=false:=by simp
    simp [this]
theorem cutR_eq {c:UInt8}:∀ {l:List UInt8},(cutR c l).2.2=true→l=(cutR c l).1++c::(cutR c l).2.1∧c∉(cutR c l).1
 | [],h=>by cases h
 | x::r,h=>by
  unfold cutR at h ⊢
  by_cases hx:x=c
  ·subst hx;simp
  ·rw [if_neg hx] at h ⊢
   obtain ⟨h1,h2⟩:=cutR_eq (l:=r) h;refine ⟨by simp only [List.cons_append];rw [←h1],fun hm=>?_⟩;rcases List.mem_cons.1 hm with e | hm
   ·exact hx e.symm
   ·exact h2 hm
theorem cutR_none {c:UInt8}:∀ {l:List UInt8},(cutR c l).2.2=false→c∉l∧cutR c l=(l,[],false)
 | [],_=>⟨by simp,rfl⟩
 | x::r,h=>by
  by_cases hx:x=c
  ·unfold cutR at h;rw [if_pos hx] at h;cases h
  ·have h':(cutR c r).2.2=false:=by unfold cutR at h;rw [if_neg hx] at h;exact h
   obtain ⟨h1,h2⟩:=cutR_none h';have h3:c∉x::r:=fun hm=>(List.mem_cons.1 hm).elim (fun e=>hx e.symm) h1;exact ⟨h3,cutR_no h3⟩
def CutP (c:UInt8) (l:List UInt8) (w:World) (e:Ending) (w':World):Prop:=e=.returned (.tuple #[.string ⟨(cutR c l).1.toArray⟩,.string ⟨(cutR c l).2.1.toArray⟩,.bool (cutR c l).2.2])∧Below w.heap.size w w'
theorem icut_any (c:UInt8) (l:List UInt8) (hl:l.length≤9223372036854775807) (w:World) :
    Calls Tryz.prog 142 #[.string ⟨l.toArray⟩,.string ⟨#[c]⟩] w (CutP c l w):=by
 have hix:=cut_ix c l;have HIX:=lH hix;clear hix;go_enter Tryz.func142,Tryz.ntmps142
 go_wp2_with fail
 refine (Tryz.stringslite_Index_one ⟨l.toArray⟩ c w).mono ?_;rintro e w1 ⟨he,hw⟩;subst hw;rw [show (⟨l.toArray⟩:ByteArray).data.toList=l from by simp] at he;rcases HIX.o with ⟨h1,h2⟩ | ⟨i,h1,h2,h3⟩
 ·rw [h1] at he
  subst he;have HQ:=lH h2;clear h1 h2
  go_wp2_with fail
  go_ret3
  exact ⟨by rw [HQ.o];rfl,bR⟩
 ·rw [h1] at he
  subst he;have HQ:=lH h3;have hsl1:∀ W,(Instr.sliceAt 9 (.string ⟨l.toArray⟩) none (some (.int .i64 (i:Int))) none).run Tryz.prog W=.ok (.string ⟨(l.take i).toArray⟩) W:=fun W=>str_to l i (by omega) W;have hsl2:∀ W,(Instr.sliceAt 9 (.string ⟨l.toArray⟩) (some (.int .i64 ((i:Int)+1))) none none).run Tryz.prog W=.ok (.string ⟨(l.drop (i+1)).toArray⟩) W:=fun W=>str_from l (i+1) h2 W;have hwr:IntKind.i64.wrap ((i:Int)+1)=(i:Int)+1:=Go.IntWalk.i64_in _ (by omega);obtain ⟨A,hA⟩:∃ A,l.take i=A:=⟨_,rfl⟩;obtain ⟨B,hB⟩:∃ B,l.drop (i+1)=B:=⟨_,rfl⟩;rw [hA] at hsl1;rw [hB] at hsl2;rw [hA,hB] at HQ;clear h1 h3 hA hB
  go_wp2_with fail
  go_quiet (fail)
  go_wp2_with fail
  go_ret3
  exact ⟨by rw [HQ.o];rfl,below_drewN bR _⟩
theorem cut_any (c:UInt8) (l:List UInt8) (hl:l.length≤9223372036854775807) (w:World) :
    Calls Tryz.prog 112 #[.string ⟨l.toArray⟩,.string ⟨#[c]⟩] w (CutP c l w):=by
 go_enter Tryz.func112,Tryz.ntmps112
 go_wp2_with fail
 refine (icut_any c l hl w).mono ?_;rintro e w1 ⟨rfl,hb⟩;have HB:=lH hb;clear hb
 go_wp2_with fail
 go_ret3
 exact ⟨rfl,HB.o⟩
end
section
open Go.ChangeShapes Go.WideShapes Go.ChangeAt Go.RowKit
attribute [local go_sem ↓] execOp_call_val
attribute [local go_sem] callVal_func setCell_drewN alloc_drewN sEq_walk
def rtS (l:List UInt8):List UInt8:=Lib.trimPrefix l [45]
def rtN (l:List UInt8):List UInt8:=(cutR 47 (rtS l)).1
def rtD (l:List UInt8):List UInt8:=(cutR 47 (rtS l)).2.1
def rtI (l:List UInt8):Bool:=(cutR 47 (rtS l)).2.2
def rtB (l:List UInt8):Int:=if rtI l then natCk (rtD l) else 0
def rtP5 (l:List UInt8):Prop:=natCk (rtN l)=5∨rtB l=5∨(rtN l=[48]∧(rtS l).length<l.length)
def rtP2 (l:List UInt8):Prop:=natCk (rtN l)≠0∨rtB l≠0
def rtP3 (l:List UInt8):Prop:=rtD l=[48]∨rtD l=[49]∨(dv (rtN l)).gcd (dv (rtD l))≠1
instance (l:List UInt8):Decidable (rtP5 l):=by unfold rtP5;infer_instance
instance (l:List UInt8):Decidable (rtP2 l):=by unfold rtP2;infer_instance
instance (l:List UInt8):Decidable (rtP3 l):=by unfold rtP3;infer_instance
def ratCk (l:List UInt8):Int:=if rtP5 l then 5 else if rtP2 l then 2 else if rtI l=true∧rtP3 l then 3 else 0
theorem sEq_one (l:List UInt8) (c:UInt8):sEq ⟨l.toArray⟩ ⟨#[c]⟩=decide (l=[c]):=by
 unfold sEq;refine decide_eq_decide.2 ⟨fun h=>?_,fun h=>by rw [h]⟩;have:=congrArg (fun (x:ByteArray)=>x.data.toList) h;simpa using this
theorem dec_one {n:Nat}:Lib.decDigits n=[49]↔n=1:=
 ⟨fun h=>dec_inj (h.trans (show [49]=Lib.decDigits 1 by rw [dec_small (by decide)];rfl)),fun h=>by rw [h,dec_small (by decide)];rfl⟩
theorem ratck_any (l:List UInt8) (hl:l.length≤maxLen) (w:World) (ht:TabOk w) :
    Calls Tryz.prog 104 #[.string ⟨l.toArray⟩] w fun e w'=>e=.returned (.int .i64 (ratCk l))∧Below w.heap.size w w':=by
 have HT:=lH ht;have hsl:(rtS l).length≤l.length:=by unfold rtS Lib.trimPrefix;split<;>simp
 have HS:Hid (Lib.trimPrefix l [45]=rtS l):=lH rfl;have hcl:(rtN l).length≤(rtS l).length∧(rtD l).length≤(rtS l).length:=by
  unfold rtN rtD;rcases cut_ix 47 (rtS l) with ⟨_,h⟩ | ⟨i,_,_,h⟩<;>rw [h]<;>simp<;>omega
 have HCL:=lH hcl;have hm:(rtS l).length≤9223372036854775807:=zI_ hsl (by unfold maxLen at hl;omega);have HLE:=lH hl;have HSZ:Hid ((⟨(rtS l).toArray⟩:ByteArray).size=(rtS l).length):=lH (sz_arr _);have HSZ2:Hid ((⟨l.toArray⟩:ByteArray).size=l.length):=lH (sz_arr _);have HSL:=lH hsl;clear ht hcl hl hsl;go_enter Tryz.func104,Tryz.ntmps104
 go_wp2_with fail
 refine (Tryz.strings_TrimPrefix ⟨l.toArray⟩ ⟨#[45]⟩ w).mono ?_;rintro e w1 ⟨he,hw⟩;subst hw;rw [show (⟨l.toArray⟩:ByteArray).data.toList=l from by simp,show (⟨#[45]⟩:ByteArray).data.toList=[45] from rfl,HS.o] at he;subst he
 go_wp2_with fail
 refine (cut_any 47 (rtS l) hm w1).mono ?_;rintro e w2 ⟨he,hb2⟩;rw [show (cutR 47 (rtS l)).1=rtN l from rfl,show (cutR 47 (rtS l)).2.1=rtD l from rfl,show (cutR 47 (rtS l)).2.2=rtI l from rfl] at he;subst he;have HB2:=lH hb2;clear hb2 hm;have hq0:=sEq_one (rtN l) 48;have hd0:=sEq_one (rtD l) 48;have hd1:=sEq_one (rtD l) 49;obtain ⟨tn,htn⟩:∃ t:ByteArray,⟨(rtN l).toArray⟩=t:=⟨_,rfl⟩;obtain ⟨td,htd⟩:∃ t:ByteArray,⟨(rtD l).toArray⟩=t:=⟨_,rfl⟩;have HTN:Hid (tn.data.toList=rtN l):=lH (by rw [←htn]);have HTD:Hid (td.data.toList=rtD l):=lH (by rw [←htd]);have HTNS:Hid (tn.size=(rtN l).length):=lH (by rw [←htn];exact sz_arr _);have HTDS:Hid (td.size=(rtD l).length):=lH (by rw [←htd];exact sz_arr _);rw [htn] at hq0 ⊢;rw [htd] at hd0 hd1 ⊢;have HQ0:=lH hq0;have HQ1:=lH hd0;have HQ2:=lH hd1;clear htn htd hq0 hd0 hd1
 go_wp2_with fail
 refine (natck_any tn w2 (by rw [HTNS.o];exact zI_ HCL.o.1 (zI_ HSL.o HLE.o))).mono ?_;rw [HTN.o];rintro e w3 ⟨rfl,hb3⟩;have HB3:=lH (HB2.o.tm hb3);clear hb3 HB2;obtain ⟨a,ha⟩:∃ a,natCk (rtN l)=a:=⟨_,rfl⟩;obtain ⟨b,hb⟩:∃ b,rtB l=b:=⟨_,rfl⟩;obtain ⟨is,his⟩:∃ i,rtI l=i:=⟨_,rfl⟩;have HA:=lH ha;have HBb:=lH hb;have HI:=lH his;rw [ha,his];clear ha hb his
 go_upto_if 21 with fail
 go_cut [8] (fun v wc=>v=.int .i64 b∧Below w1.heap.size w1 wc)
 case first=>
  cases is with
  | true=>
   go_wp2_with fail
   refine (natck_any td w3 (by rw [HTDS.o];exact zI_ HCL.o.2 (zI_ HSL.o HLE.o))).mono ?_;rw [HTD.o];rintro e w4 ⟨he,hb4⟩;have hbe:natCk (rtD l)=b:=by rw [←HBb.o];unfold rtB;rw [HI.o];rfl
   rw [hbe] at he;subst he;have HB4:=lH (HB3.o.tm hb4);clear hb4 hbe
   go_wp2_with fail
   go_meet
   case rel=>exact ⟨rfl,HB4.o⟩
  | false=>
   have hb0:b=0:=by rw [←HBb.o];unfold rtB;rw [HI.o];rfl
   subst hb0
   go_wp2_with fail
   go_meet
   case rel=>exact ⟨rfl,HB3.o⟩
 obtain ⟨hv,hb4⟩:=hcut;subst hv;have HB4:=lH hb4;clear hb4 HB3;generalize wc=V at *
 go_upto_region 6 with fail
 go_cut [24] (fun v wd=>wd=V∧v=.bool (decide (rtP5 l)))
 case first=>
  have HP5:Hid (rtP5 l↔(a=5∨b=5∨(rtN l=[48]∧(rtS l).length<l.length))):=lH (by unfold rtP5;rw [HA.o,HBb.o])
  by_cases ha:a=5
  ·have hd:decide (rtP5 l)=true:=decide_eq_true (HP5.o.2 (.inl ha))
   have hab:(a == 5)=true:=by simp [ha]
   clear ha
   go_wp2_with fail
   go_meet
   case rel=>exact ⟨rfl,by rw [hd]⟩
  ·have hab:(a == 5)=false:=by simp [ha]
   by_cases hb:b=5
   ·have hd:decide (rtP5 l)=true:=decide_eq_true (HP5.o.2 (.inr (.inl hb)))
    have hbb:(b == 5)=true:=by simp [hb]
    clear ha hb
    go_wp2_with fail
    go_meet
    case rel=>exact ⟨rfl,by rw [hd]⟩
   ·have hbb:(b == 5)=false:=by simp [hb]
    have hs1:=HSZ.o;have hs2:=HSZ2.o
    by_cases hn:rtN l=[48]
    ·have hx:tn.toList=[48]:=by rw [ByteArray.toList_eq,HTN.o];exact hn
     by_cases hlt:(rtS l).length<l.length
     ·have hd:decide (rtP5 l)=true:=decide_eq_true (HP5.o.2 (.inr (.inr ⟨hn,hlt⟩)))
      have hlI:((rtS l).length:Int)<(l.length:Int):=by omega
      clear ha hb hn hlt
      go_wp2_with fail
      go_meet
      case rel=>exact ⟨rfl,by rw [hd]⟩
     ·have hd:decide (rtP5 l)=false:=decide_eq_false fun h=>(HP5.o.1 h).elim ha fun h=>h.elim hb fun h=>hlt h.2
      have hlI:¬((rtS l).length:Int)<(l.length:Int):=by omega
      clear ha hb hn hlt
      go_wp2_with fail
      go_meet
      case rel=>exact ⟨rfl,by rw [hd]⟩
    ·have hx:¬tn.toList=[48]:=by rw [ByteArray.toList_eq,HTN.o];exact hn
     have hd:decide (rtP5 l)=false:=decide_eq_false fun h=>(HP5.o.1 h).elim ha fun h=>h.elim hb fun h=>hn h.1;clear ha hb hn
     go_wp2_with fail
     go_meet
     case rel=>exact ⟨rfl,by rw [hd]⟩
 obtain ⟨hwc,rfl⟩:=hcut;subst hwc;generalize wc=V at *
 by_cases hP5:rtP5 l
 ·have hR:Hid (ratCk l=5):=lH (by unfold ratCk;rw [if_pos hP5])
  rw [decide_eq_true hP5];clear hP5
  go_wp2_with fail
  go_ret;exact ⟨ret_int hR.out.symm,HB4.o⟩
 ·have HP5:=lH hP5
  rw [decide_eq_false hP5];clear hP5
  go_upto_region 8 with fail
  go_cut [42] (fun v wd=>wd=V∧v=.bool (decide (rtP2 l)))
  case first=>
   have HP2:Hid (rtP2 l↔(a≠0∨b≠0)):=lH (by unfold rtP2;rw [HA.o,HBb.o])
   by_cases ha:a=0
   ·subst ha
    by_cases hb:b=0
    ·subst hb
     have hd:decide (rtP2 l)=false:=decide_eq_false fun h=>(HP2.o.1 h).elim (fun e=>e rfl) fun e=>e rfl
     go_wp2_with fail
     go_meet
     case rel=>exact ⟨rfl,by rw [hd]⟩
    ·have hd:decide (rtP2 l)=true:=decide_eq_true (HP2.o.2 (.inr hb))
     have hbb:(b != 0)=true:=by simp [hb]
     clear hb
     go_wp2_with fail
     go_meet
     case rel=>exact ⟨rfl,by rw [hd]⟩
   ·have hd:decide (rtP2 l)=true:=decide_eq_true (HP2.o.2 (.inl ha))
    have hab:(a != 0)=true:=by simp [ha]
    clear ha
    go_wp2_with fail
    go_meet
    case rel=>exact ⟨rfl,by rw [hd]⟩
  obtain ⟨hwc,rfl⟩:=hcut;subst hwc;generalize wc=V at *
  by_cases hP2:rtP2 l
  ·have hR:Hid (ratCk l=2):=lH (by unfold ratCk;rw [if_neg HP5.o,if_pos hP2])
   rw [decide_eq_true hP2];clear hP2
   go_wp2_with fail
   go_ret;exact ⟨ret_int hR.out.symm,HB4.o⟩
  ·have HP2:=lH hP2
   rw [decide_eq_false hP2];clear hP2;cases is with
   | false=>
    have hR:Hid (ratCk l=0):=lH (by unfold ratCk;rw [if_neg HP5.o,if_neg HP2.o,if_neg (by rw [HI.o];simp)])
    go_wp2_with fail
    go_ret;exact ⟨ret_int hR.out.symm,HB4.o⟩
   | true=>
    have hn0:natCk tn.data.toList=0:=by rw [HTN.o];exact Classical.byContradiction fun h=>HP2.o (.inl h)
    have hd0:natCk td.data.toList=0:=by
     rw [HTD.o];refine Classical.byContradiction fun h=>HP2.o (.inr ?_);unfold rtB;rw [HI.o];exact h
    go_wp2_with fail
    refine (ngcd_ok tn td V hn0 hd0 (HT.o.up HB4.o)).mono ?_;rw [HTN.o,HTD.o];rintro e w6 ⟨rfl,hb6⟩;have HB6:=lH (HB4.o.tm hb6);clear hb6 hn0 hd0;obtain ⟨tg,htg⟩:∃ t:ByteArray,⟨(Lib.decDigits ((dv (rtN l)).gcd (dv (rtD l)))).toArray⟩=t:=⟨_,rfl⟩;have HTG:Hid (tg.toList=[49]↔(dv (rtN l)).gcd (dv (rtD l))=1):=lH (by
     rw [ByteArray.toList_eq,←htg];exact dec_one)
    have HTL:Hid (td.toList=rtD l):=lH (by rw [ByteArray.toList_eq];exact HTD.o);rw [htg];clear htg
    go_upto_region 12 with fail
    go_cut [65] (fun v wd=>wd=w6∧v=.bool (decide (rtP3 l)))
    case first=>
     by_cases h0:td.toList=[48]
     ·have hd:decide (rtP3 l)=true:=decide_eq_true (.inl (by rw [←HTL.o];exact h0))
      go_wp2_with fail
      go_meet
      case rel=>exact ⟨rfl,by rw [hd]⟩
     ·by_cases h1:td.toList=[49]
      ·have hd:decide (rtP3 l)=true:=decide_eq_true (.inr (.inl (by rw [←HTL.o];exact h1)))
       go_wp2_with fail
       go_meet
       case rel=>exact ⟨rfl,by rw [hd]⟩
      ·by_cases h2:tg.toList=[49]
       ·have hd:decide (rtP3 l)=false:=decide_eq_false fun h=>h.elim (fun h=>h0 (HTL.o.trans h)) fun h=>h.elim (fun h=>h1 (HTL.o.trans h)) fun h=>h (HTG.o.1 h2)
        go_wp2_with fail
        go_meet
        case rel=>exact ⟨rfl,by rw [hd];simp [h0,h1,h2]⟩
       ·have hd:decide (rtP3 l)=true:=decide_eq_true (.inr (.inr fun h=>h2 (HTG.o.2 h)))
        go_wp2_with fail
        go_meet
        case rel=>exact ⟨rfl,by rw [hd];simp [h0,h1,h2]⟩
    obtain ⟨hwc,rfl⟩:=hcut;subst hwc
    by_cases hP3:rtP3 l
    ·have hR:Hid (ratCk l=3):=lH (by unfold ratCk;rw [if_neg HP5.o,if_neg HP2.o,if_pos ⟨HI.o,hP3⟩])
     rw [decide_eq_true hP3];clear hP3
     go_wp2_with fail
     go_ret;exact ⟨ret_int hR.out.symm,HB6.o⟩
    ·have hR:Hid (ratCk l=0):=lH (by unfold ratCk;rw [if_neg HP5.o,if_neg HP2.o,if_neg (fun h=>hP3 h.2)])
     rw [decide_eq_false hP3];clear hP3
     go_wp2_with fail
     go_ret;exact ⟨ret_int hR.out.symm,HB6.o⟩
def textQ (q:Rat):List UInt8:=textL q.num++(if q.den=1 then [] else 47::Lib.decDigits q.den)
def Fits (q:Rat):Prop:=ndg q.num.natAbs≤2000∧ndg q.den≤2000
instance (q:Rat):Decidable (Fits q):=by unfold Fits;infer_instance
def RtxP (q:Rat) (w:World) (e:Ending) (w':World):Prop:=Below w.heap.size w w'∧∃ s,e=.returned (.tuple #[.string s,.bool (decide (Fits q))])∧(Fits q→s=⟨(textQ q).toArray⟩)
theorem textL_nat (n:Nat):textL (n:Int)=Lib.decDigits n:=by unfold textL;rw [if_neg (Int.not_lt.2 (Int.natCast_nonneg n)),Int.natAbs_natCast,List.nil_append]
theorem sz_text {z:Int} (h:ndg z.natAbs≤2000):(textL z).length≤2001:=by
 unfold textL;unfold ndg at h;rw [zE_]
 split<;>simp<;>omega
theorem rtext_any (q:Rat) (b1:Bool) (A:Option Addr) (n c:Nat) (b2:Bool) (A2:Option Addr) (n2 c2:Nat) (w:World) (h1:RtIs w w.heap.size q b1 A n c b2 A2 n2 c2) (ht:TabOk w) :
    Calls Tryz.prog 71 #[.agg #[.bool b1,.slice A n c,.bool b2,.slice A2 n2 c2]] w (RtxP q w):=by
 have HB0:Hid (Below w.heap.size w (w.alloc (.cells #[.bool b1,.slice A n c,.bool b2,.slice A2 n2 c2] 115))):=lH (bA);have HX1:=lH (Blk.new w 115 #[.bool b1,.slice A n c,.bool b2,.slice A2 n2 c2]);have H1:=lH (h1.up HB0.o);have HT:=lH (ht.up HB0.o);clear h1 ht;go_enter Tryz.func71,Tryz.ntmps71
 go_upto_region 1 with fail
 generalize w.alloc (.cells #[.bool b1,.slice A n c,.bool b2,.slice A2 n2 c2] 115)=W at *;have p0:=HX1.o.cell 0;have p1:=HX1.o.cell 1;have pl:=HX1.o.lt
 go_wp2_with fail
 refine (itext_any q.num b1 A n c W H1.o.num HT.o).mono ?_;rintro e w1 ⟨hb1,s1,rfl,hs1,hz1⟩;have HB1:=lH (HB0.o.tm hb1);have HX2:=lH (HX1.o.bl hb1);have H2:=lH (H1.o.up hb1);have HT2:=lH (HT.o.up hb1);have HS1:=lH hs1;clear hb1 p0 p1 pl hs1 HB0 HX1 H1 HT
 by_cases hf1:ndg q.num.natAbs≤2000
 ·have hd1:decide (ndg q.num.natAbs≤2000)=true:=decide_eq_true hf1
  have he1:=HS1.o hf1;subst he1;rw [hd1];have HF1:=lH hf1;clear hd1 hf1;have p2:=HX2.o.cell 2;have p3:=HX2.o.cell 3;have pl:=HX2.o.lt
  go_wp2_with fail
  refine (itext_any (q.den:Int) b2 A2 n2 c2 w1 H2.o.den HT2.o).mono ?_;rintro e w2 ⟨hb2,s2,he,hs2,hz2⟩;rw [Int.natAbs_natCast] at he hs2;rw [textL_nat] at hs2;subst he;have HB2:=lH (HB1.o.tm hb2);clear hb2 p2 p3 pl
  by_cases hf2:ndg q.den≤2000
  ·have hd2:decide (ndg q.den≤2000)=true:=decide_eq_true hf2
   have he2:=hs2 hf2;subst he2;have hF:Fits q:=⟨HF1.o,hf2⟩;have hFd:decide (Fits q)=true:=decide_eq_true hF;have HFD:=lH hFd;have hq:((⟨(Lib.decDigits q.den).toArray⟩:ByteArray).toList == [49])=decide (q.den=1):=by
    rw [ByteArray.toList_eq,Bool.eq_iff_iff,beq_iff_eq,decide_eq_true_eq];exact dec_one
   rw [hd2];have hl1:(⟨(textL q.num).toArray⟩:ByteArray).size≤2001:=by rw [sz_arr];exact sz_text HF1.o
   have hl2:(⟨(Lib.decDigits q.den).toArray⟩:ByteArray).size≤2000:=by rw [sz_arr];exact hf2
   obtain ⟨t1,ht1⟩:∃ t:ByteArray,⟨(textL q.num).toArray⟩=t:=⟨_,rfl⟩;obtain ⟨t2,ht2⟩:∃ t:ByteArray,⟨(Lib.decDigits q.den).toArray⟩=t:=⟨_,rfl⟩;have HT1:=lH ht1;have HT2':=lH ht2;rw [ht1] at hl1 ⊢;rw [ht2] at hl2 hq ⊢;clear hd2 hF hFd hf2 hs2 ht1 ht2
   by_cases hone:q.den=1
   ·have hd:decide (q.den=1)=true:=decide_eq_true hone
    rw [hd] at hq;have HTX:Hid (t1=⟨(textQ q).toArray⟩):=lH (by unfold textQ;rw [if_pos hone,List.append_nil];exact HT1.o.symm);clear hd hone
    go_wp2_with fail
    go_ret2;exact ⟨HB2.o,_,by rw [HFD.o];rfl,fun _=>HTX.o⟩
   ·have hd:decide (q.den=1)=false:=decide_eq_false hone
    rw [hd] at hq;have HTX:Hid (t1++⟨#[47]⟩++t2=⟨(textQ q).toArray⟩):=lH (by
     unfold textQ;rw [if_neg hone,←HT1.o,←HT2'.o];apply ByteArray.ext;simp)
    have hz1:¬9223372036854775807<t1.size+1:=by omega
    have hz3:(t1++⟨#[47]⟩:ByteArray).size=t1.size+1:=by rw [ByteArray.size_append];rfl
    have hz2:¬9223372036854775807<t1.size+1+t2.size:=by omega
    clear hd hone hl1 hl2
    go_wp2_with fail
    go_ret2;exact ⟨HB2.o,_,by rw [HFD.o];rfl,fun _=>HTX.o⟩
  ·have hd2:decide (ndg q.den≤2000)=false:=decide_eq_false hf2
   have hFd:decide (Fits q)=false:=decide_eq_false fun h=>hf2 h.2;have HFD:=lH hFd;have HNF:Hid (¬Fits q):=lH fun h=>hf2 h.2;rw [hd2];obtain ⟨t1,ht1⟩:∃ t:ByteArray,⟨(textL q.num).toArray⟩=t:=⟨_,rfl⟩;have hl1:t1.size≤3000:=by rw [←ht1];exact hz1
   rw [ht1];clear hd2 hFd hf2 hs2 ht1 hz1;have hzz1:¬9223372036854775807<t1.size+1:=by omega
   have hzz3:(t1++⟨#[47]⟩:ByteArray).size=t1.size+1:=by rw [ByteArray.size_append];rfl
   have hzz2:¬9223372036854775807<t1.size+1+s2.size:=by omega
   cases hq:(s2.toList == [49]) with
   | true=>
    go_wp2_with fail
    go_ret2;exact ⟨HB2.o,_,by rw [HFD.o];rfl,fun h=>absurd h HNF.o⟩
   | false=>
    go_wp2_with fail
    go_ret2;exact ⟨HB2.o,_,by rw [HFD.o];rfl,fun h=>absurd h HNF.o⟩
 ·have hd1:decide (ndg q.num.natAbs≤2000)=false:=decide_eq_false hf1
  have hFd:decide (Fits q)=false:=decide_eq_false fun h=>hf1 h.1;have HFD:=lH hFd;have HNF:Hid (¬Fits q):=lH fun h=>hf1 h.1;rw [hd1];clear hd1 hFd hf1
  go_wp2_with fail
  go_ret2;exact ⟨HB1.o,_,by rw [HFD.o];rfl,fun h=>absurd h HNF.o⟩
end
section
def negL (l:List UInt8):Bool:=Lib.hasPrefix l [45]
def denL (l:List UInt8):Nat:=if rtI l then dv (rtD l) else 1
def parseQ (l:List UInt8):Rat:=Rat.divInt (rdZ (negL l) (rtN l)) (denL l:Int)
theorem ratCk_split {l:List UInt8} (h:ratCk l=0):¬rtP5 l∧¬rtP2 l∧¬(rtI l=true∧rtP3 l):=by
 unfold ratCk at h
 by_cases h5:rtP5 l
 ·rw [if_pos h5] at h;cases h
 ·rw [if_neg h5] at h
  by_cases h2:rtP2 l
  ·rw [if_pos h2] at h;cases h
  ·rw [if_neg h2] at h
   by_cases h3:rtI l=true∧rtP3 l
   ·rw [if_pos h3] at h;cases h
   ·exact ⟨h5,h2,h3⟩
theorem pre_split (l:List UInt8):l=(if negL l then [45] else [])++rtS l:=by
 unfold negL rtS Lib.trimPrefix;cases hp:Lib.hasPrefix l [45] with
 | false=>simp
 | true=>
  unfold Lib.hasPrefix at hp;cases l with
  | nil=>cases hp
  | cons c r=>
   have:c=45:=by
    simp [List.isPrefixOf] at hp;exact hp.symm
   subst this;simp
theorem cut_split (l:List UInt8):l=(cutR 47 l).1++(if (cutR 47 l).2.2 then 47::(cutR 47 l).2.1 else []):=by
 cases h:(cutR 47 l).2.2 with
 | true=>
  have:=(cutR_eq h).1;simpa using this
 | false=>
  obtain ⟨_,h2⟩:=cutR_none h;rw [h2];simp
theorem rtS_split (l:List UInt8):rtS l=rtN l++(if rtI l then 47::rtD l else []):=cut_split (rtS l)
theorem canon_zero {l:List UInt8} (h:Canon l) (h0:dv l=0):l=[48]:=by
 have:=dec_canon h;rw [h0,dec_small (by decide)] at this;exact this.symm
theorem canon_one {l:List UInt8} (h:Canon l) (h0:dv l=1):l=[49]:=by
 have:=dec_canon h;rw [h0,dec_small (by decide)] at this;exact this.symm
theorem rdZ_abs (b:Bool) (l:List UInt8):(rdZ b l).natAbs=dv l:=by unfold rdZ;cases b<;>simp
theorem valid_parse {l:List UInt8} (h:ratCk l=0):(parseQ l).num=rdZ (negL l) (rtN l)∧(parseQ l).den=denL l∧textQ (parseQ l)=l∧Fits (parseQ l)∧AllDg (rtN l)∧AllDg (rtD l)∧(rtN l).length≤2000∧(rtD l).length≤2000:=by
 obtain ⟨h5,h2,h3⟩:=ratCk_split h;have hn:natCk (rtN l)=0:=Classical.byContradiction fun e=>h2 (.inl e);have hb:rtB l=0:=Classical.byContradiction fun e=>h2 (.inr e);obtain ⟨hcn,hln⟩:=natCk_ok.1 hn;have hnz:rtN l=[48]→negL l=false:=fun e=>by
  cases hg:negL l with
  | false=>rfl
  | true=>
   refine absurd (.inr (.inr ⟨e,?_⟩)) h5;have:=congrArg List.length (pre_split l);rw [hg,zE_] at this;simp at this;omega
 have hneg:rdZ (negL l) (rtN l)<0↔negL l=true:=by
  cases hg:negL l with
  | false=>simp [rdZ]
  | true=>
   have:dv (rtN l)≠0:=fun e=>by
    have:=hnz (canon_zero hcn e);rw [hg] at this;cases this
   simp [rdZ];omega
 have hD:(rtI l=true→Canon (rtD l)∧(rtD l).length≤2000∧dv (rtD l)≠0∧dv (rtD l)≠1∧(dv (rtN l)).gcd (dv (rtD l))=1)∧(rtI l=false→rtD l=[]):=by
  refine ⟨fun hi=>?_,fun hi=>?_⟩
  ·have hd:natCk (rtD l)=0:=by unfold rtB at hb;rw [hi] at hb;exact hb
   obtain ⟨hcd,hld⟩:=natCk_ok.1 hd;have h33:¬rtP3 l:=fun g=>h3 ⟨hi,g⟩;exact ⟨hcd,hld,fun e=>h33 (.inl (canon_zero hcd e)),fun e=>h33 (.inr (.inl (canon_one hcd e))),Classical.byContradiction fun g=>h33 (.inr (.inr g))⟩
  ·have:=(cutR_none (l:=rtS l) hi).2
   unfold rtD;rw [this]
 have hg:(rdZ (negL l) (rtN l)).natAbs.gcd (denL l)=1:=by
  rw [rdZ_abs];unfold denL;cases hi:rtI l with
  | true=>exact (hD.1 hi).2.2.2.2
  | false=>exact Nat.gcd_one_right _
 have hd0:denL l≠0:=by
  unfold denL;cases hi:rtI l with
  | true=>exact (hD.1 hi).2.2.1
  | false=>exact Nat.one_ne_zero
 obtain ⟨e1,e2⟩:=ratio_one hd0 hg;have e1':(parseQ l).num=rdZ (negL l) (rtN l):=e1;have e2':(parseQ l).den=denL l:=e2;have hdd:AllDg (rtD l)∧(rtD l).length≤2000:=by
  cases hi:rtI l with
  | true=>exact ⟨(hD.1 hi).1.2.1,(hD.1 hi).2.1⟩
  | false=>rw [hD.2 hi];exact ⟨fun c hc=>(by cases hc),by simp⟩
 refine ⟨e1',e2',?_,⟨?_,?_⟩,hcn.2.1,hdd.1,hln,hdd.2⟩
 ·unfold textQ textL
  rw [e1',e2',rdZ_abs,dec_canon hcn]
  conv=>rhs;rw [pre_split l,rtS_split l]
  have hif:(if rdZ (negL l) (rtN l)<0 then [45] else ([]:List UInt8))=if negL l=true then [45] else []:=by
   cases hg2:negL l with
   | true=>rw [hg2] at hneg;rw [if_pos (hneg.2 rfl)];rfl
   | false=>rw [hg2] at hneg;rw [if_neg (fun g=>by have:=hneg.1 g;cases this)];rfl
  rw [hif,List.append_assoc];congr 2
  unfold denL;cases hi:rtI l with
  | true=>
   obtain ⟨g1,_,_,g4,_⟩:=hD.1 hi;simp only [if_true];rw [if_neg g4,dec_canon g1]
  | false=>simp
 ·rw [e1',rdZ_abs];unfold ndg;rw [dec_canon hcn];exact hln
 ·rw [e2']
  unfold denL;cases hi:rtI l with
  | true=>unfold ndg;simp only [if_true];rw [dec_canon (hD.1 hi).1];exact (hD.1 hi).2.1
  | false=>show ndg 1≤2000;decide+kernel
end
section
open Go.ChangeShapes Go.WideShapes Go.ChangeAt Go.RowKit
attribute [local go_sem ↓] execOp_call_val
attribute [local go_sem] callVal_func setCell_drewN alloc_drewN
theorem cutR_pre (b:Bool) (s:List UInt8):cutR 47 ((if b then [45] else [])++s)=((if b then [45] else [])++(cutR 47 s).1,(cutR 47 s).2.1,(cutR 47 s).2.2):=by
 cases b with
 | false=>simp
 | true=>simp [cutR]
theorem cut_whole (l:List UInt8):cutR 47 l=((if negL l then [45] else [])++rtN l,rtD l,rtI l):=by
 have:=cutR_pre (negL l) (rtS l);rwa [←pre_split l] at this
theorem parse_any (l:List UInt8) (h:ratCk l=0) (w:World) :
    Calls Tryz.prog 67 #[.string ⟨l.toArray⟩] w (RtP (parseQ l) w):=by
 obtain ⟨v1,v2,_,_,v3,v4,v5,v6⟩:=valid_parse h;have HV1:=lH v1;have HV2:=lH v2;have HV3:=lH v3;have HV4:=lH v4;have HV5:Hid ((rtN l).length≤1000000):=lH (by omega);have HV6:Hid ((rtD l).length≤1000000):=lH (by omega);have hll:l.length≤9223372036854775807:=by
  have h1:=congrArg List.length (pre_split l);have h2:=congrArg List.length (rtS_split l);rw [zE_] at h1 h2;have h3:(if negL l then [45] else ([]:List UInt8)).length≤1:=by split<;>simp
  have h4:(if rtI l then 47::rtD l else []).length≤(rtD l).length+1:=by split<;>simp
  omega
 have HB0:Hid (Below w.heap.size w (w.alloc (.cells #[.bool false,.slice none 0 0,.bool false,.slice none 0 0] 115))):=lH (bA);have HR:Hid (Blk (w.alloc (.cells #[.bool false,.slice none 0 0,.bool false,.slice none 0 0] 115)) w.heap.size 115 #[.bool false,.slice none 0 0,.bool false,.slice none 0 0]):=lH (Blk.new w _ _);have hgs:w.heap.size≤w.heap.size:=lR;clear v1 v2 v3 v4 v5 v6 h;go_enter Tryz.func67,Tryz.ntmps67
 go_upto_region 1 with fail
 generalize (w.alloc (.cells #[.bool false,.slice none 0 0,.bool false,.slice none 0 0] 115))=W at *
 go_wp2_with fail
 refine (cut_any 47 l hll W).mono ?_;rintro e w1 ⟨he,hb1⟩;rw [cut_whole l] at he;have HB1:=lH (HB0.o.tm hb1);have HR1:=lH (HR.o.bl hb1);obtain ⟨is,his⟩:∃ i,rtI l=i:=⟨_,rfl⟩;have HI:=lH his;simp only [his] at he;subst he;clear hb1 HB0 HR his hll;obtain ⟨tn,htn⟩:∃ t:ByteArray,rdT (negL l) (rtN l)=t:=⟨_,rfl⟩;obtain ⟨td,htd⟩:∃ t:ByteArray,rdT false (rtD l)=t:=⟨_,rfl⟩;have c1:∀ w,Calls Tryz.prog 113 #[.string tn] w (LgP (rdZ (negL l) (rtN l)) w):=fun w=>by rw [←htn];exact read_any _ _ HV3.o HV5.o w
 have c2:∀ w,Calls Tryz.prog 113 #[.string td] w (LgP (rdZ false (rtD l)) w):=fun w=>by rw [←htd];exact read_any _ _ HV4.o HV6.o w
 have e1:(⟨((if negL l=true then [45] else [])++rtN l).toArray⟩:ByteArray)=tn:=htn;have e2:(⟨(rtD l).toArray⟩:ByteArray)=td:=htd;rw [e1,e2];clear e1 e2;have C1:=lH c1;have C2:=lH c2;clear htn htd c1 c2;cases is with
 | false=>
  have HD:Hid ((parseQ l).den=1):=lH (by rw [HV2.o];unfold denL;rw [HI.o];rfl)
  go_wp2_with fail
  refine (C1.out w1).mono ?_;rintro e w2 ⟨hb2,f5,C5,i5,j5,rfl,h5⟩;have HB2:=lH (HB1.o.tm hb2);have HR2:=lH (HR1.o.bl hb2);have H5:=lH h5;clear hb2 h5 HB1 HR1
  go_wp2_with fail
  refine (of_any 1 w2 (by decide) (by decide)).mono ?_;rintro e w3 ⟨hb3,f6,C6,i6,j6,rfl,h6⟩;have HB3:=lH (HB2.o.tm hb3);have HR3:=lH (HR2.o.bl hb3);have HQ:Hid (RtIs w3 w3.heap.size (parseQ l) f5 C5 i5 j5 f6 C6 i6 j6):=lH ⟨by rw [HV1.o];exact H5.o.up hb3,by rw [HD.o];exact h6⟩;clear hb3 h6 HB2 HR2 H5;have z0:=HR3.o.cell 0;have z1:=HR3.o.cell 1;have z2:=HR3.o.cell 2;have z3:=HR3.o.cell 3;have zf:=HR3.o.frozen;have zl:=HR3.o.lt
  go_wp2_with fail
  generalize hW9:(((w3.setCell ⟨_,0,none⟩ _).setCell ⟨_,1,none⟩ _).setCell ⟨_,2,none⟩ _).setCell ⟨_,3,none⟩ _=W9;have HP9:=lH (rt_put (e:=.returned (.agg #[.bool f5,.slice C5 i5 j5,.bool f6,.slice C6 i6 j6])) HB3.o hgs HR3.o (by simp) (by simp) (by simp) (by simp) HQ.o rfl);rw [hW9] at HP9;have HB9:Hid (Blk W9 _ 115 #[.bool f5,.slice C5 i5 j5,.bool f6,.slice C6 i6 j6]):=lH (by rw [←hW9];exact blk_set4 HR3.o);clear hW9 z0 z1 z2 z3 zf zl;have q0:=HB9.o.cell 0;have q1:=HB9.o.cell 1;have q2:=HB9.o.cell 2;have q3:=HB9.o.cell 3;exact bodyPost_ret (v:=.agg #[.bool f5,.slice C5 i5 j5,.bool f6,.slice C6 i6 j6]) (by simp [results,Tryz.results67,go_sem,q0,q1,q2,q3]) rfl HP9.o
 | true=>
  have HD:Hid (((parseQ l).den:Int)=rdZ false (rtD l)):=lH (by rw [HV2.o];unfold denL;rw [HI.o];rfl)
  go_wp2_with fail
  refine (C1.out w1).mono ?_;rintro e w2 ⟨hb2,f5,C5,i5,j5,rfl,h5⟩;have HB2:=lH (HB1.o.tm hb2);have HR2:=lH (HR1.o.bl hb2);have H5:=lH h5;clear hb2 h5 HB1 HR1
  go_wp2_with fail
  refine (C2.out w2).mono ?_;rintro e w3 ⟨hb3,f6,C6,i6,j6,rfl,h6⟩;have HB3:=lH (HB2.o.tm hb3);have HR3:=lH (HR2.o.bl hb3);have HQ:Hid (RtIs w3 w3.heap.size (parseQ l) f5 C5 i5 j5 f6 C6 i6 j6):=lH ⟨by rw [HV1.o];exact H5.o.up hb3,by rw [HD.o];exact h6⟩;clear hb3 h6 HB2 HR2 H5;have z0:=HR3.o.cell 0;have z1:=HR3.o.cell 1;have z2:=HR3.o.cell 2;have z3:=HR3.o.cell 3;have zf:=HR3.o.frozen;have zl:=HR3.o.lt
  go_wp2_with fail
  generalize hW9:(((w3.setCell ⟨_,0,none⟩ _).setCell ⟨_,1,none⟩ _).setCell ⟨_,2,none⟩ _).setCell ⟨_,3,none⟩ _=W9;have HP9:=lH (rt_put (e:=.returned (.agg #[.bool f5,.slice C5 i5 j5,.bool f6,.slice C6 i6 j6])) HB3.o hgs HR3.o (by simp) (by simp) (by simp) (by simp) HQ.o rfl);rw [hW9] at HP9;have HB9:Hid (Blk W9 _ 115 #[.bool f5,.slice C5 i5 j5,.bool f6,.slice C6 i6 j6]):=lH (by rw [←hW9];exact blk_set4 HR3.o);clear hW9 z0 z1 z2 z3 zf zl;have q0:=HB9.o.cell 0;have q1:=HB9.o.cell 1;have q2:=HB9.o.cell 2;have q3:=HB9.o.cell 3;exact bodyPost_ret (v:=.agg #[.bool f5,.slice C5 i5 j5,.bool f6,.slice C6 i6 j6]) (by simp [results,Tryz.results67,go_sem,q0,q1,q2,q3]) rfl HP9.o
end
section
open Go.ChangeShapes Go.WideShapes Go.ChangeAt Go.RowKit
attribute [local go_sem ↓] execOp_call_val
attribute [local go_sem] callVal_func setCell_drewN alloc_drewN sEq_walk
structure Rv where
 b1:Bool
 A:Option Addr
 n:Nat
 c:Nat
 b2:Bool
 A2:Option Addr
 m:Nat
 d:Nat
def Rv.cells (v:Rv):List Value:=[.bool v.b1,.slice v.A v.n v.c,.bool v.b2,.slice v.A2 v.m v.d]
def rv0:Rv:=⟨false,none,0,0,false,none,0,0⟩
def RtV (w:World) (B:Nat) (q:Rat) (v:Rv):Prop:=RtIs w B q v.b1 v.A v.n v.c v.b2 v.A2 v.m v.d
theorem Rv.len (v:Rv):v.cells.length=4:=rfl
def rvs (vs:List Rv):List Value:=vs.flatMap Rv.cells
theorem rvs_len (vs:List Rv):(rvs vs).length=vs.length*4:=flat_len Rv.len vs
theorem rvs_at {vs:List Rv} {i:Nat} {v:Rv} (h:vs[i]?=some v) (k:Nat) (hk:k<4):(rvs vs)[i*4+k]?=v.cells[k]?:=flat_at Rv.len vs i v h k hk
theorem rvs_set:∀ (vs:List Rv) (i:Nat) (v:Rv),i<vs.length→((((rvs vs).set (i*4) (.bool v.b1)).set (i*4+1) (.slice v.A v.n v.c)).set (i*4+2) (.bool v.b2)).set (i*4+3) (.slice v.A2 v.m v.d)=rvs (vs.set i v)
 | [],i,v,h=>by simp at h
 | x::r,0,v,_=>by simp [rvs,Rv.cells]
 | x::r,i+1,v,h=>by
  have ih:=rvs_set r i v (by simpa using h);have e:rvs (x::r)=x.cells++rvs r:=by simp [rvs]
  have e2:rvs ((x::r).set (i+1) v)=x.cells++rvs (r.set i v):=by simp [rvs]
  have st:∀ (l:List Value) (k:Nat) (u:Value),(x.cells++l).set (k+4) u=x.cells++l.set k u:=fun l k u=>by
   rw [List.set_append_right _ _ (by rw [Rv.len];omega),Rv.len,Nat.add_sub_cancel]
  rw [e,e2,←ih,show (i+1)*4=i*4+4 from by omega,show i*4+4+1=i*4+1+4 from by omega,show i*4+4+2=i*4+2+4 from by omega,show i*4+4+3=i*4+3+4 from by omega,st,st,st,st]
theorem rvs_rep:∀ n:Nat,rvs (List.replicate n rv0)=(List.replicate n rv0.cells).flatten
 | 0=>rfl
 | n+1=>by
  rw [List.replicate_succ,List.replicate_succ,List.flatten_cons,←rvs_rep n];simp [rvs]
theorem blk_rv {w:World} {g t i:Nat} {vs:List Rv} (h:Blk w g t (rvs vs).toArray) (hi:i<vs.length) (v:Rv):Blk ((((w.setCell ⟨g,i*4,none⟩ (.bool v.b1)).setCell ⟨g,i*4+1,none⟩ (.slice v.A v.n v.c)).setCell ⟨g,i*4+2,none⟩ (.bool v.b2)).setCell ⟨g,i*4+3,none⟩ (.slice v.A2 v.m v.d)) g t (rvs (vs.set i v)).toArray:=by
 have key:∀ (w:World) (l:List Value) (k:Nat) (u:Value),Blk w g t l.toArray→Blk (w.setCell ⟨g,k,none⟩ u) g t (l.set k u).toArray:=fun w l k u hb=>hb.set_at u (by simp);rw [←rvs_set vs i v hi];exact key _ _ _ _ (key _ _ _ _ (key _ _ _ _ (key _ _ _ _ h)))
theorem rv_cell {w:World} {g t i:Nat} {vs:List Rv} {v:Rv} (h:Blk w g t (rvs vs).toArray) (hv:vs[i]?=some v):w.cell? ⟨g,i*4,none⟩=some (.bool v.b1)∧w.cell? ⟨g,i*4+1,none⟩=some (.slice v.A v.n v.c)∧w.cell? ⟨g,i*4+2,none⟩=some (.bool v.b2)∧w.cell? ⟨g,i*4+3,none⟩=some (.slice v.A2 v.m v.d):=by
 have k:=fun j hj=>rvs_at hv j hj;refine ⟨?_,?_,?_,?_⟩<;>rw [h.cell]
 ·have:=k 0 (by decide);simpa [Rv.cells] using this
 ·have:=k 1 (by decide);simpa [Rv.cells] using this
 ·have:=k 2 (by decide);simpa [Rv.cells] using this
 ·have:=k 3 (by decide);simpa [Rv.cells] using this
theorem RtIs.keep4 {w:World} {q:Rat} {b1:Bool} {A:Option Addr} {n c:Nat} {b2:Bool} {A2:Option Addr} {m d:Nat} (h:RtIs w w.heap.size q b1 A n c b2 A2 m d) {g t i:Nat} {vs:List Rv} {x v:Rv} (hb:Blk w g t (rvs vs).toArray) (hx:vs[i]?=some x) :
    RtIs ((((w.setCell ⟨g,i*4,none⟩ (.bool v.b1)).setCell ⟨g,i*4+1,none⟩ (.slice v.A v.n v.c)).setCell ⟨g,i*4+2,none⟩ (.bool v.b2)).setCell ⟨g,i*4+3,none⟩ (.slice v.A2 v.m v.d)) ((((w.setCell ⟨g,i*4,none⟩ (.bool v.b1)).setCell ⟨g,i*4+1,none⟩ (.slice v.A v.n v.c)).setCell ⟨g,i*4+2,none⟩ (.bool v.b2)).setCell ⟨g,i*4+3,none⟩ (.slice v.A2 v.m v.d)).heap.size q b1 A n c b2 A2 m d:=by
 obtain ⟨c0,c1,c2,c3⟩:=rv_cell hb hx;have ne:∀ (a b:Nat),a≠b→(⟨g,a,none⟩:Addr)≠⟨g,b,none⟩:=fun a b h e=>h (by injection e);have off:∀ (w:World) (a b:Nat) (u v:Value),a≠b→w.cell? ⟨g,b,none⟩=some v→(w.setCell ⟨g,a,none⟩ u).cell? ⟨g,b,none⟩=some v:=fun w a b u v hab hv=>by
  rw [World.cell?_setCell_other _ _ _ _ (ne a b hab)];exact hv
 refine (((h.keep c0 (by simp) _).keep (off _ _ _ _ _ (by omega) c1) (by simp) _).keep (off _ _ _ _ _ (by omega) (off _ _ _ _ _ (by omega) c2)) (by simp) _).keep (off _ _ _ _ _ (by omega) (off _ _ _ _ _ (by omega) (off _ _ _ _ _ (by omega) c3))) (by simp) _
def RdQ (w:World) (B:Nat) (A:Option Addr) (n:Nat) (qs:List Rat):Prop:=∃ vs:List Rv,vs.length=n∧qs.length=n∧Rd w B 4 A n (rvs vs)∧∀ (i:Nat) (q:Rat) (v:Rv),qs[i]?=some q→vs[i]?=some v→RtV w B q v
section
variable {w w':World} {B B' n:Nat} {A:Option Addr} {qs:List Rat}
theorem RdQ.below (h:RdQ w B A n qs) (hb:Below B' w w') (hB:B≤B'):RdQ w' B A n qs:=by
 obtain ⟨vs,h1,h2,h3,h4⟩:=h;exact ⟨vs,h1,h2,h3.below hb hB,fun i q v hq hv=>RtIs.below (h4 i q v hq hv) hb hB⟩
theorem RdQ.more (h:RdQ w B A n qs) (hB:B≤B'):RdQ w B' A n qs:=by
 obtain ⟨vs,h1,h2,h3,h4⟩:=h;exact ⟨vs,h1,h2,h3.more hB,fun i q v hq hv=>RtIs.more (h4 i q v hq hv) hB⟩
theorem RdQ.up (h:RdQ w w.heap.size A n qs) (hb:Below w.heap.size w w'):RdQ w' w'.heap.size A n qs:=(h.below hb lR).more hb.size
theorem RdQ.len (h:RdQ w B A n qs):qs.length=n:=by obtain ⟨_,_,h,_⟩:=h;exact h
theorem RdQ.form (h:RdQ w B A n qs) (h0:0<n):∃ b off,A=some ⟨b,off,none⟩∧b<B:=by
 obtain ⟨vs,_,_,h3,_⟩:=h;obtain ⟨b,off,e,hlt,_⟩:=h3.2 h0;exact ⟨b,off,e,hlt⟩
theorem RdQ.at_ {b off i:Nat} {q:Rat} (h:RdQ w B (some ⟨b,off,none⟩) n qs) (hq:qs[i]?=some q):∃ v:Rv,w.cell? ⟨b,off+i*4,none⟩=some (.bool v.b1)∧w.cell? ⟨b,off+i*4+1,none⟩=some (.slice v.A v.n v.c)∧w.cell? ⟨b,off+i*4+2,none⟩=some (.bool v.b2)∧w.cell? ⟨b,off+i*4+3,none⟩=some (.slice v.A2 v.m v.d)∧RtV w B q v:=by
 obtain ⟨vs,h1,h2,h3,h4⟩:=h;have hi:=(zB_.1 hq).1;obtain ⟨v,hv⟩:∃ v,vs[i]?=some v:=zX_ (by omega);obtain ⟨b',off',e,_,hc⟩:=h3.2 (by omega);injection e with e;injection e with e1 e2;subst e1;subst e2;have k:=fun j hj=>rvs_at hv j hj;refine ⟨v,?_,?_,?_,?_,h4 i q v hq hv⟩
 ·have:=hc (i*4) (.bool v.b1) (by have:=k 0 (by decide);simpa [Rv.cells] using this);exact this
 ·have:=hc (i*4+1) (.slice v.A v.n v.c) (by have:=k 1 (by decide);simpa [Rv.cells] using this);exact this
 ·have:=hc (i*4+2) (.bool v.b2) (by have:=k 2 (by decide);simpa [Rv.cells] using this);exact this
 ·have:=hc (i*4+3) (.slice v.A2 v.m v.d) (by have:=k 3 (by decide);simpa [Rv.cells] using this);exact this
theorem rdQ_blk {g t:Nat} {vs:List Rv} (h:Blk w g t (rvs vs).toArray) (hn:vs.length=n) (hq:qs.length=n) (hv:∀ (i:Nat) (q:Rat) (v:Rv),qs[i]?=some q→vs[i]?=some v→RtV w w.heap.size q v):RdQ w w.heap.size (some ⟨g,0,none⟩) n qs:=
 ⟨vs,hn,hq,⟨by rw [rvs_len,hn],fun _=>⟨g,0,rfl,h.lt,fun j u hu=>by
  rw [show (⟨g,0+j,none⟩:Addr)=⟨g,j,none⟩ from by simp,h.cell j];simpa using hu⟩⟩,hv⟩
end
theorem info_rat:(Tryz.prog.info? 115).map (fun i=>(i.zero,i.size,i.bytes))=some (some (.agg #[.bool false,.slice none 0 0,.bool false,.slice none 0 0]),4,64):=by kernel_rfl
theorem made4 (n:Nat):madeCells #[Value.bool false,.slice none 0 0,.bool false,.slice none 0 0] (n*4)=(rvs (List.replicate n rv0)).toArray:=by
 apply Array.ext';rw [List.toList_toArray,rvs_rep];apply List.ext_getElem?;intro j
 by_cases hj:j<n*4
 ·have h1:(madeCells #[Value.bool false,.slice none 0 0,.bool false,.slice none 0 0] (n*4)).toList[j]?=some (#[Value.bool false,.slice none 0 0,.bool false,.slice none 0 0][j % 4]!):=by
   simp [madeCells,hj]
  have h2:(rvs (List.replicate n rv0))[j / 4*4+j % 4]?=rv0.cells[j % 4]?:=rvs_at (by rw [List.getElem?_replicate,if_pos (by omega)]) _ (by omega);rw [Nat.div_add_mod' j 4,rvs_rep] at h2;rw [h1,h2];have:j % 4=0∨j % 4=1∨j % 4=2∨j % 4=3:=by omega
  rcases this with e | e | e | e<;>rw [e]<;>rfl
 ·rw [List.getElem?_eq_none (by simp [madeCells];omega),List.getElem?_eq_none (by rw [←rvs_rep,rvs_len,zO_];omega)]
theorem make_rat (n:Nat) (hn:n≤1000000) (w:World):(Instr.makeSlice 93 (.int .i64 (n:Int)) (.int .i64 (n:Int))).run Tryz.prog w=.ok (.slice (some ⟨w.heap.size,0,none⟩) n n) (w.alloc (.cells (rvs (List.replicate n rv0)).toArray 115)):=by
 obtain ⟨i0,hi0,hz0,hz1,hz2⟩:=info_parts info_rat;rw [run_make w 93 115 i0 _ Tryz.underlying93 hi0 hz0 .i64 .i64 (n:Int) (n:Int) (by omega) (Int.le_refl _) (by rw [hz2];omega) (by omega),zL_,hz1];rw [show (Value.agg #[Value.bool false,.slice none 0 0,.bool false,.slice none 0 0]).cells=#[Value.bool false,.slice none 0 0,.bool false,.slice none 0 0] from rfl,made4]
def ckAllR:List ByteArray→Int
 | []=>0
 | s::r=>if ratCk s.data.toList=0 then ckAllR r else ratCk s.data.toList
theorem RdQ.bm {w w':World} {n:Nat} {A:Option Addr} {l:List Rat} (h:RdQ w w.heap.size A n l) (g:Below w.heap.size w w'):RdQ w' w'.heap.size A n l:=(h.below g lR).more g.size
def RvOk (w:World) (vs:List Rv) (qs:List Rat):Prop:=∀ (i:Nat) (q:Rat) (v:Rv),qs[i]?=some q→vs[i]?=some v→RtV w w.heap.size q v
theorem RvOk.up {w w':World} {vs:List Rv} {qs:List Rat} (h:RvOk w vs qs) (hb:Below w.heap.size w w'):RvOk w' vs qs:=fun i q v hq hv=>RtIs.up (h i q v hq hv) hb
def putV (w:World) (g i:Nat) (v:Rv):World:=(((w.setCell ⟨g,i*4,none⟩ (.bool v.b1)).setCell ⟨g,i*4+1,none⟩ (.slice v.A v.n v.c)).setCell ⟨g,i*4+2,none⟩ (.bool v.b2)).setCell ⟨g,i*4+3,none⟩ (.slice v.A2 v.m v.d)
theorem RvOk.put {w:World} {g t i:Nat} {vs us:List Rv} {qs qs':List Rat} {q:Rat} {v x:Rv} (h:RvOk w us qs) (hb:Blk w g t (rvs vs).toArray) (hx:vs[i]?=some x) (hv:RtV w w.heap.size q v) (hq:∀ (j:Nat) (q':Rat),qs'[j]?=some q'→(j=i∧q'=q)∨(j≠i∧qs[j]?=some q')):RvOk (putV w g i v) (us.set i v) qs':=by
 intro j q' v' hq' hv';rcases hq j q' hq' with ⟨rfl,rfl⟩ | ⟨hne,hq0⟩
 ·rw [List.getElem?_set_self'] at hv'
  obtain ⟨_,_,e⟩:=Option.map_eq_some_iff.1 hv';subst e;exact RtIs.keep4 hv hb hx
 ·rw [List.getElem?_set_ne (by omega)] at hv'
  exact RtIs.keep4 (h j q' v' hq0 hv') hb hx
theorem RvOk.stay {w:World} {g t i:Nat} {vs us:List Rv} {qs:List Rat} {v x:Rv} (h:RvOk w us qs) (hb:Blk w g t (rvs vs).toArray) (hx:vs[i]?=some x):RvOk (putV w g i v) us qs:=fun j q' v' hq' hv'=>RtIs.keep4 (h j q' v' hq' hv') hb hx
theorem below_putV {a w:World} {B g i:Nat} {v:Rv} (h:Below B a w) (hg:B≤g):Below B a (putV w g i v):=(((h.setCell hg _).setCell hg _).setCell hg _).setCell hg _
theorem snoc_at {qs:List Rat} {k:Nat} {q:Rat} (hk:qs.length=k):∀ (j:Nat) (q':Rat),(qs++[q])[j]?=some q'→(j=k∧q'=q)∨(j≠k∧qs[j]?=some q'):=by
 intro j q' h
 by_cases hj:j<k
 ·right
  rw [zR_ (by omega)] at h;exact ⟨by omega,h⟩
 ·left
  rw [zN_ (by omega)] at h;have h1:=(zB_.1 h).1;simp at h1;have:j=k:=by omega
  subst this;rw [hk] at h;simp at h;exact ⟨rfl,h.symm⟩
def qOf (s:ByteArray):Rat:=parseQ s.data.toList
def OutQ (qs:List Rat) (w:World) (e:Ending) (w':World):Prop:=Below w.heap.size w w'∧∃ A n c,e=.returned (.slice A n c)∧RdQ w' w'.heap.size A n qs∧n≤c∧c≤maxLen∧(0<n→∃ b off,A=some ⟨b,off,none⟩∧w.heap.size≤b)
theorem take_snoc {α:Type} {l:List α} {k:Nat} {x:α} (h:l[k]?=some x):l.take (k+1)=l.take k++[x]:=by
 rw [List.take_add_one,h];rfl
theorem parseall_any (A:Option Addr) (n c:Nat) (ss:List ByteArray) (w:World) (hR:RdStr w w.heap.size A n ss) (hs:∀ s∈ss,ratCk s.data.toList=0) (hn:n≤1000000) :
    Calls Tryz.prog 62 #[.slice A n c] w (OutQ (ss.map qOf) w):=by
 have HR:=lH hR;have HS:=lH hs;have HL:=lH hR.1;have HNN:=lH hn;clear hR hs;have hmk:∀ w:World,(Instr.makeSlice 93 (.int .i64 (n:Int)) (.int .i64 (n:Int))).run Tryz.prog w=.ok (.slice (some ⟨w.heap.size,0,none⟩) n n) (w.alloc (.cells (rvs (List.replicate n rv0)).toArray 115)):=fun w=>make_rat n hn w;have HK:=lH ((Below.refl w.heap.size w).alloc lR (.cells (rvs (List.replicate n rv0)).toArray 115));have HG:=lH (Blk.new w 115 (rvs (List.replicate n rv0)).toArray);go_enter Tryz.func62,Tryz.ntmps62
 go_wp2_with fail
 clear hmk;generalize w.alloc (.cells (rvs (List.replicate n rv0)).toArray 115)=W at *;generalize hg:w.heap.size=g at *;have HGS:=lH hg;clear hg
 go_loopw [11] (fun v11 wr=>∃ (k:Nat) (vs:List Rv),k≤n∧v11=.int .i64 k∧vs.length=n∧Below g w wr∧Blk wr g 115 (rvs vs).toArray∧RvOk wr vs ((ss.map qOf).take k)) (fun v11 _=>n-(intOf v11).toNat)
 case atStart=>exact ⟨0,_,by omega,rfl,zO_,HK.o,HG.o,fun i q v h=>by simp at h⟩
 case round=>
  clear HK HG;obtain ⟨k,vs,hk,rfl,hvl,hb,hg,hI⟩:=hrel;have HK:=lH hb;have HG:=lH hg;have HI:=lH hI;have HVL:=lH hvl;clear hb hg hI hvl
  by_cases hlt:k<n
  ·obtain ⟨s,hs⟩:∃ s,ss[k]?=some s:=zX_ (by have:=HL.o;omega)
   obtain ⟨b,o,hA,hb⟩:=(HR.o.below HK.o (by have:=HGS.o;omega)).form (by omega);subst hA;have hc:=(HR.o.below HK.o (by have:=HGS.o;omega)).at_ hs;have hkI:(k:Int)<(n:Int):=by omega
   have HN1:=lN k;have HN2:Hid (n-(k+1)<n-k):=lH (by omega);have HSE:(⟨s.data.toList.toArray⟩:ByteArray)=s:=by cases s;simp
   have HC1:=fun w=>parse_any s.data.toList (HS.o s (zC_ hs)) w;rw [HSE] at HC1;replace HC1:=lH HC1;have HQ:Hid ((ss.map qOf).take (k+1)=(ss.map qOf).take k++[parseQ s.data.toList]):=lH (take_snoc (by rw [zM_,hs];rfl));clear HSE hs;have hbl:b<wr.heap.size:=by have:=HK.o.size;have:=HGS.o;omega
   go_wp2_with fail
   refine (HC1.o wr).mono ?_;clear hc HC1;rintro e w1 ⟨hb1,f,C,i,j,f2,C2,i2,j2,rfl,h1⟩;have HK1:=lH (HK.o.trans (hb1.mono (zQ_ HG.o.lt)));have HG1:=lH (HG.o.bl hb1);have HI1:=lH (HI.o.up hb1);have HV:=lH h1;clear hb1 h1 HK HG HI;obtain ⟨x,hx⟩:∃ x,vs[k]?=some x:=zX_ (by have:=HVL.o;omega);obtain ⟨c0,c1,c2,c3⟩:=rv_cell HG1.o hx;have hgf:=HG1.o.frozen;have hgl:=HG1.o.lt;have HX:=lH hx;clear hx
   go_wp2_with fail
   go_roundw
   case rel=>exact ⟨k+1,vs.set k ⟨f,C,i,j,f2,C2,i2,j2⟩,hlt,val_int HN1.o,by rw [zU_];exact HVL.o,below_putV (v:=⟨f,C,i,j,f2,C2,i2,j2⟩) HK1.o lR,blk_rv HG1.o (zB_.1 HX.o).1 ⟨f,C,i,j,f2,C2,i2,j2⟩,by
    rw [HQ.o];exact RvOk.put (v:=⟨f,C,i,j,f2,C2,i2,j2⟩) HI1.o HG1.o HX.o HV.o (snoc_at (by rw [zF_,zG_,HL.o];omega))⟩
   case measure=>exact HN2.o
  ·have hke:k=n:=by omega
   subst hke;have hkI:¬(k:Int)<(k:Int):=by omega
   go_wp2_with fail
   go_ret;exact ⟨by rw [HGS.o];exact HK.o,_,_,_,rfl,by
    have h:=HI.o;rw [zH_ (by rw [zG_,HL.o];exact lR)] at h;exact rdQ_blk HG.o HVL.o (by rw [zG_,HL.o]) h,lR,by have:=HNN.o;unfold maxLen;omega,fun _=>⟨_,_,rfl,by rw [HGS.o];exact lR⟩⟩
theorem info_ratt:(Tryz.prog.info? 55).map (fun i=>(i.zero,i.size,i.bytes))=some (some (.string ⟨#[]⟩),1,16):=by kernel_rfl
theorem str_made (n:Nat):madeCells #[Value.string ⟨#[]⟩] n=(strsV (List.replicate n ⟨#[]⟩)).toArray:=by
 apply Array.ext';rw [toList_madeCells_one];unfold strsV;simp
theorem make_ratt (n:Nat) (hn:n≤1000000) (w:World):(Instr.makeSlice 34 (.int .i64 (n:Int)) (.int .i64 (n:Int))).run Tryz.prog w=.ok (.slice (some ⟨w.heap.size,0,none⟩) n n) (w.alloc (.cells (strsV (List.replicate n ⟨#[]⟩)).toArray 55)):=by
 rw [run_make_row' (P:=Tryz.prog) 34 55 (.string ⟨#[]⟩) 16 Tryz.underlying34 info_ratt rfl .i64 .i64 n (by omega) (by omega) w,str_made]
def txtQ (q:Rat):ByteArray:=⟨(textQ q).toArray⟩
abbrev NewA (B:Nat) (A:Option Addr):Prop:=∃ g,A=some ⟨g,0,none⟩∧B≤g
def TxtsN (qs:List Rat) (w:World) (e:Ending) (w':World):Prop:=Below w.heap.size w w'∧((∀ q∈qs,Fits q)→∃ A n c,e=.returned (.tuple #[.slice A n c,.bool true])∧RdStr w' w'.heap.size A n (qs.map txtQ)∧n≤c∧c≤maxLen∧NewA w.heap.size A)∧(¬(∀ q∈qs,Fits q)→e=.returned (.tuple #[.slice none 0 0,.bool false]))
theorem texts_new (A:Option Addr) (n c:Nat) (qs:List Rat) (w:World) (hR:RdQ w w.heap.size A n qs) (hn:n≤1000000) (ht:TabOk w) :
    Calls Tryz.prog 88 #[.slice A n c] w (TxtsN qs w):=by
 have HR:=lH hR;have HL:=lH hR.len;have HNN:=lH hn;have HT:=lH ht;clear hR ht;have hmk:∀ w:World,(Instr.makeSlice 34 (.int .i64 (n:Int)) (.int .i64 (n:Int))).run Tryz.prog w=.ok (.slice (some ⟨w.heap.size,0,none⟩) n n) (w.alloc (.cells (strsV (List.replicate n ⟨#[]⟩)).toArray 55)):=fun w=>make_ratt n hn w;have HK:=lH ((Below.refl w.heap.size w).alloc lR (.cells (strsV (List.replicate n ⟨#[]⟩)).toArray 55));have HG:=lH (Blk.new w 55 (strsV (List.replicate n ⟨#[]⟩)).toArray);go_enter Tryz.func88,Tryz.ntmps88
 go_wp2_with fail
 clear hmk;generalize w.alloc (.cells (strsV (List.replicate n ⟨#[]⟩)).toArray 55)=W at *;generalize hg:w.heap.size=g at *;have HGS:=lH hg;clear hg
 go_loopw [14] (fun v14 wr=>∃ (k:Nat) (ts:List ByteArray),k≤n∧v14=.int .i64 k∧ts.length=n∧Below g w wr∧Blk wr g 55 (strsV ts).toArray∧(∀ (i:Nat) (q:Rat),i<k→qs[i]?=some q→Fits q∧ts[i]?=some (txtQ q))) (fun v14 _=>n-(intOf v14).toNat)
 case atStart=>exact ⟨0,_,by omega,rfl,zO_,HK.o,HG.o,fun i q h=>by omega⟩
 case round=>
  clear HK HG;obtain ⟨k,ts,hk,rfl,hvl,hb,hg,hI⟩:=hrel;have HK:=lH hb;have HG:=lH hg;have HI:=lH hI;have HVL:=lH hvl;clear hb hg hI hvl
  by_cases hlt:k<n
  ·obtain ⟨q,hq⟩:∃ q,qs[k]?=some q:=zX_ (by have:=HL.o;omega)
   obtain ⟨b,o,hA,hb⟩:=(HR.o.below HK.o (by have:=HGS.o;omega)).form (by omega);subst hA;obtain ⟨v,c0,c1,c2,c3,hV⟩:=(HR.o.below HK.o (by have:=HGS.o;omega)).at_ hq;have HQ:=lH hq;have HV:=lH hV;have hkI:(k:Int)<(n:Int):=by omega
   have HN1:=lN k;have HN2:Hid (n-(k+1)<n-k):=lH (by omega);have hbl:b<wr.heap.size:=by have:=HK.o.size;have:=HGS.o;omega
   clear hq hV
   go_wp2_with fail
   generalize hwa:wr.alloc (.cells #[.bool v.b1,.slice v.A v.n v.c,.bool v.b2,.slice v.A2 v.m v.d] 115)=wa at *;have hb0:Below wr.heap.size wr wa:=by rw [←hwa];exact bA
   clear hwa;refine (rtext_any q v.b1 v.A v.n v.c v.b2 v.A2 v.m v.d wa ((RtIs.below HV.o hb0 (by have:=HGS.o;have:=HG.o.lt;omega)).more (by have:=hb0.size;have:=HGS.o;have:=HG.o.lt;omega)) (HT.o.up (by rw [HGS.o];exact HK.o.trans (hb0.mono (zQ_ HG.o.lt))))).mono ?_;clear c0 c1 c2 c3;rintro e w1 ⟨hb1,s,rfl,hs⟩;have hb2:=hb0.tm hb1;have HK1:=lH (HK.o.trans (hb2.mono (zQ_ HG.o.lt)));have HG1:=lH (HG.o.bl hb2);have HS:=lH hs;clear hb0 hb1 hb2 hs HK HG;have hgf:=HG1.o.frozen;have hgl:=HG1.o.lt;obtain ⟨y,hy⟩:∃ y,ts[k]?=some y:=zX_ (by have:=HVL.o;omega);have hgc:w1.cell? ⟨g,k,none⟩=some (.string y):=by rw [HG1.o.cell k];unfold strsV;simp [hy]
   clear hy
   by_cases hf:Fits q
   ·have HF:=lH hf
    rw [decide_eq_true hf];clear hf
    go_wp2_with fail
    go_roundw
    case rel=>exact ⟨k+1,ts.set k s,hlt,val_int HN1.o,by rw [zU_];exact HVL.o,HK1.o.setCell lR _,HG1.o.set_at _ (by unfold strsV;rw [List.map_set];simp),fun i q' hi hq'=>by
     by_cases hik:i=k
     ·subst hik
      rw [HQ.o] at hq';injection hq' with hq';subst hq';refine ⟨HF.o,?_⟩;rw [List.getElem?_set_self (by have:=HVL.o;omega),HS.o HF.o];rfl
     ·rw [List.getElem?_set_ne (by omega)]
      exact HI.o i q' (by omega) hq'⟩
    case measure=>exact HN2.o
   ·have HF:=lH hf
    rw [decide_eq_false hf];clear hf
    go_wp2_with fail
    go_ret2;exact ⟨by rw [HGS.o];exact HK1.o,fun h=>absurd (h q (zC_ HQ.o)) HF.o,fun _=>rfl⟩
  ·have hke:k=n:=by omega
   subst hke;have hkI:¬(k:Int)<(k:Int):=by omega
   go_wp2_with fail
   go_ret2;have hts:ts=qs.map txtQ:=by
    apply List.ext_getElem?;intro i
    by_cases hi:i<k
    ·obtain ⟨q,hq⟩:∃ q,qs[i]?=some q:=zX_ (by have:=HL.o;omega)
     rw [(HI.o i q hi hq).2,zM_,hq];rfl
    ·rw [List.getElem?_eq_none (by have:=HVL.o;omega),List.getElem?_eq_none (by rw [zG_,HL.o];omega)]
   have hfit:∀ q∈qs,Fits q:=fun q hq=>by
    obtain ⟨i,hi⟩:=List.getElem?_of_mem hq;exact (HI.o i q (by have:=(zB_.1 hi).1;have:=HL.o;omega) hi).1
   exact ⟨by rw [HGS.o];exact HK.o,fun _=>⟨_,_,_,rfl,by rw [←hts];have h:=rdStr_lit HG.o HG.o.lt;rw [HVL.o] at h;exact h,lR,by have:=HNN.o;unfold maxLen;omega,⟨_,rfl,Nat.le_of_eq HGS.o⟩⟩,fun h=>absurd hfit h⟩
end
section
open Go.ChangeShapes Go.WideShapes Go.ChangeAt Go.RowKit Go.Joins
def NoI (u:Value):Prop:=∀ k x,u≠.int k x
theorem RtV.keeps {w w':World} {base e:Nat} {q:Rat} {v:Rv} (h:RtV w w.heap.size q v) (k:Keeps NoI base e w w'):RtV w' w'.heap.size q v:=by
 have key:∀ {A:Option Addr} {n:Nat} {l:List Nat},RdW w w.heap.size A n l→RdW w' w'.heap.size A n l:=fun h=>⟨h.1,fun hn=>by
  obtain ⟨b,off,e,hlt,hc⟩:=h.2 hn;refine ⟨b,off,e,zJ_ hlt k.size,fun j u hu=>k.cell _ _ (hc j u hu) ?_⟩;obtain ⟨x,rfl⟩:=u32_int hu;exact fun hno=>hno _ _ rfl⟩
 exact ⟨⟨h.num.eb,h.num.en,key h.num.rd,h.num.nc,h.num.cm⟩,⟨h.den.eb,h.den.en,key h.den.rd,h.den.nc,h.den.cm⟩⟩
structure OwnQ (w:World) (base:Nat) (v:Value) (vs:List Rv) (qs:List Rat):Prop where
 own:OwnS NoI w base 115 4 v vs.length (rvs vs)
 len:vs.length=qs.length
 ok:RvOk w vs qs
theorem OwnQ.keep {w w':World} {base:Nat} {v:Value} {vs:List Rv} {qs:List Rat} (h:OwnQ w base v vs qs) (hb:Below w.heap.size w w'):OwnQ w' base v vs qs:=⟨h.own.keep hb,h.len,h.ok.up hb⟩
theorem ownQ_none (w:World) (base:Nat):OwnQ w base (.slice none 0 0) [] []:=⟨ownS_none _ _ _ _ _,rfl,fun i q v h=>by simp at h⟩
theorem rv_noI (v:Rv):∀ u∈v.cells,u.oneCell'=true∧NoI u:=fun u hu=>by
 simp [Rv.cells] at hu;rcases hu with rfl | rfl | rfl | rfl<;>exact ⟨rfl,fun k x h=>by cases h⟩
theorem OwnQ.app {w w':World} {base:Nat} {v v':Value} {vs:List Rv} {qs:List Rat} {u:Rv} {q:Rat} (h:OwnQ w base v vs qs) (hq:RtV w w.heap.size q u) (h2:OwnS NoI w' base 115 4 v' (vs.length+1) (rvs vs++u.cells)) (hk:Keeps NoI base 115 w w'):OwnQ w' base v' (vs++[u]) (qs++[q]):=by
 refine ⟨by rw [zE_,List.length_singleton];simpa [rvs] using h2,by rw [zE_,zE_,h.len];rfl,fun i p x hp hx=>?_⟩
 by_cases hi:i<qs.length
 ·rw [zR_ hi] at hp
  rw [zR_ (by rw [h.len];exact hi)] at hx;exact (h.ok i p x hp hx).keeps hk
 ·rw [zN_ (by omega)] at hp
  rw [zN_ (by rw [h.len];omega),h.len] at hx;have hi2:=(zB_.1 hp).1;rw [List.length_singleton] at hi2;have:i-qs.length=0:=by omega
  rw [this] at hp hx;simp at hp hx;subst hp;subst hx;exact RtV.keeps hq hk
theorem OwnQ.rd {w:World} {base:Nat} {v:Value} {vs:List Rv} {qs:List Rat} (h:OwnQ w base v vs qs):∃ A c,v=.slice A qs.length c∧RdQ w w.heap.size A qs.length qs∧qs.length≤c∧c≤maxLen∧(0<qs.length→∃ b off,A=some ⟨b,off,none⟩∧base≤b):=by
 obtain ⟨A,c,hv,hr,h1,h2,h3⟩:=own_rd h.own.own;rw [h.len] at hv hr h1 h3;exact ⟨A,c,hv,⟨vs,h.len,rfl,hr,h.ok⟩,h1,h2,h3⟩
theorem rat_parts:∃ i,Tryz.prog.info? 115=some i∧i.zero=some (.agg #[.bool false,.slice none 0 0,.bool false,.slice none 0 0])∧i.size=4∧i.bytes=64:=info_parts info_rat
theorem zr_noI:∀ u∈(Value.agg #[.bool false,.slice none 0 0,.bool false,.slice none 0 0]).cells.toList,NoI u:=fun u hu=>by
 have hu':u∈[Value.bool false,.slice none 0 0,.bool false,.slice none 0 0]:=hu;simp only [List.mem_cons,List.not_mem_nil,or_false] at hu';rcases hu' with rfl | rfl | rfl | rfl<;>exact fun k x h=>by cases h
end
section
open Go.ChangeShapes Go.WideShapes Go.ChangeAt Go.RowKit
attribute [local go_sem ↓] execOp_call_val
attribute [local go_sem] callVal_func setCell_drewN alloc_drewN sEq_walk
def TvP (qs:List Rat) (w:World) (e:Ending) (w':World):Prop:=Below w.heap.size w w'∧((∀ q∈qs,Fits q)→∃ A n c,e=.returned (.tuple #[.slice A n c,.int .i64 0])∧RdStr w' w'.heap.size A n (qs.map txtQ)∧n≤c∧c≤maxLen)∧(¬(∀ q∈qs,Fits q)→e=.returned (.tuple #[.slice none 0 0,.int .i64 2]))
def TvN (qs:List Rat) (w:World) (e:Ending) (w':World):Prop:=Below w.heap.size w w'∧((∀ q∈qs,Fits q)→∃ A n c,e=.returned (.tuple #[.slice A n c,.int .i64 0])∧RdStr w' w'.heap.size A n (qs.map txtQ)∧n≤c∧c≤maxLen∧NewA w.heap.size A)∧(¬(∀ q∈qs,Fits q)→e=.returned (.tuple #[.slice none 0 0,.int .i64 2]))
theorem textvec_new (A:Option Addr) (n c:Nat) (qs:List Rat) (w:World) (hR:RdQ w w.heap.size A n qs) (hn:n≤1000000) (ht:TabOk w) :
    Calls Tryz.prog 49 #[.slice A n c] w (TvN qs w):=by
 have HC:=lH (texts_new A n c qs w hR hn ht);clear hR ht;go_enter Tryz.func49,Tryz.ntmps49
 go_wp2_with fail
 refine HC.o.mono ?_;rintro e w1 ⟨hb,h1,h2⟩;have HB:=lH hb
 by_cases hf:∀ q∈qs,Fits q
 ·obtain ⟨C,m,d,rfl,h3,h4,h5,h6⟩:=h1 hf
  have H3:=lH h3;have H6:=lH h6;have HF:=lH hf;clear hf h1 h2 h3 h6 hb HC
  go_wp2_with fail
  go_ret2;exact ⟨HB.o,fun _=>⟨_,_,_,rfl,H3.o,h4,h5,H6.o⟩,fun h=>absurd HF.o h⟩
 ·have he:=h2 hf
  subst he;have HF:=lH hf;clear hf h1 h2 hb HC
  go_wp2_with fail
  go_ret2;exact ⟨HB.o,fun h=>absurd h HF.o,fun _=>rfl⟩
theorem textvec_any (A:Option Addr) (n c:Nat) (qs:List Rat) (w:World) (hR:RdQ w w.heap.size A n qs) (hn:n≤1000000) (ht:TabOk w) :
    Calls Tryz.prog 49 #[.slice A n c] w (TvP qs w):=(textvec_new A n c qs w hR hn ht).mono fun e w' h=>by
 obtain ⟨h1,h2,h3⟩:=h;refine ⟨h1,fun hf=>?_,h3⟩;obtain ⟨A,n,c,a1,a2,a3,a4,-⟩:=h2 hf;exact ⟨A,n,c,a1,a2,a3,a4⟩
def RnP (q:Rat) (w:World) (e:Ending) (w':World):Prop:=Below w.heap.size w w'∧(Fits q→e=.returned (.tuple #[.string (txtQ q),.int .i64 0]))∧(¬Fits q→e=.returned (.tuple #[.string ⟨#[]⟩,.int .i64 2]))
theorem dlen_ndg {n K:Nat} (h:ndg n≤K):dlen n≤K:=by
 refine dlen_le (zJ_ (lt_ndg n) ?_);refine zI_ (pow_mono10 h) ?_;unfold BB;exact Nat.pow_le_pow_left (by decide) _
theorem dlen_dec {n:Nat} (h:ndg n≤2000):dlen n≤2000:=dlen_ndg h
theorem fits_qsz {q:Rat} (h:Fits q):qsz q≤2000:=Nat.max_le.2 ⟨dlen_dec h.1,dlen_dec h.2⟩
theorem valid_fits {s:ByteArray} (h:ratCk s.data.toList=0):Fits (qOf s):=(valid_parse h).2.2.2.1
def OpP (f:Rat→Rat→Rat) (a b:ByteArray) (w:World) (e:Ending) (w':World):Prop:=Below w.heap.size w w'∧(ckAllR [a,b]≠0→e=.returned (.tuple #[.string ⟨#[]⟩,.int .i64 (ckAllR [a,b])]))∧(ckAllR [a,b]=0→RnP (f (qOf a) (qOf b)) w e w')
theorem data_list (s:ByteArray):(⟨s.data.toList.toArray⟩:ByteArray)=s:=by cases s;simp
theorem parse_str {s:ByteArray} (h:ratCk s.data.toList=0) (w:World):Calls Tryz.prog 67 #[.string s] w (RtP (qOf s) w):=by
 have:=parse_any s.data.toList h w;rwa [data_list] at this
def rnS (q:Rat):ByteArray:=if Fits q then txtQ q else ⟨#[]⟩
def rnE (q:Rat):Int:=if Fits q then 0 else 2
theorem RnP.out {q:Rat} {w w':World} {e:Ending} (h:RnP q w e w'):e=.returned (.tuple #[.string (rnS q),.int .i64 (rnE q)])∧Below w.heap.size w w':=by
 obtain ⟨hb,h1,h2⟩:=h;unfold rnS rnE
 by_cases hf:Fits q
 ·rw [if_pos hf,if_pos hf];exact ⟨h1 hf,hb⟩
 ·rw [if_neg hf,if_neg hf];exact ⟨h2 hf,hb⟩
def opS (f:Rat→Rat→Rat) (a b:ByteArray):ByteArray:=if ckAllR [a,b]=0 then rnS (f (qOf a) (qOf b)) else ⟨#[]⟩
def opE (f:Rat→Rat→Rat) (a b:ByteArray):Int:=if ckAllR [a,b]=0 then rnE (f (qOf a) (qOf b)) else ckAllR [a,b]
theorem OpP.out {f:Rat→Rat→Rat} {a b:ByteArray} {w w':World} {e:Ending} (h:OpP f a b w e w'):e=.returned (.tuple #[.string (opS f a b),.int .i64 (opE f a b)])∧Below w.heap.size w w':=by
 obtain ⟨hb,h1,h2⟩:=h;unfold opS opE
 by_cases hf:ckAllR [a,b]=0
 ·rw [if_pos hf,if_pos hf];exact (h2 hf).out
 ·rw [if_neg hf,if_neg hf];exact ⟨h1 hf,hb⟩
def cmpQ (p q:Rat):Int:=(p.num*(q.den:Int)-q.num*(p.den:Int)).sign
end
end Go.Proofs.YthgdchffeigkbaaGreatDoor
