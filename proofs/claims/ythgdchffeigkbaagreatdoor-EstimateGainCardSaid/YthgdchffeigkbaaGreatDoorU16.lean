import Derived.Test.YthgdchffeigkbaaGreatDoorU12
import Derived.Test.YthgdchffeigkbaaGreatDoorU13
import Derived.Test.YthgdchffeigkbaaGreatDoorU14
import Derived.Laws.MakeOwn
set_option linter.unusedVariables false
set_option linter.unusedSimpArgs false
namespace Go.Proofs.YthgdchffeigkbaaGreatDoor
set_option maxHeartbeats 4000000
set_option maxRecDepth 100000
section
open Go.ChangeShapes Go.WideShapes Go.ChangeAt Go.RowKit
attribute [local go_sem ↓] execOp_call_val
attribute [local go_sem] callVal_func setCell_drewN alloc_drewN sEq_walk
def textQ (q:Rat):List UInt8:=textL q.num++(if q.den=1 then [] else 47::Lib.decDigits q.den)
def Fits (q:Rat):Prop:=ndg q.num.natAbs≤2000∧ndg q.den≤2000
instance (q:Rat):Decidable (Fits q):=by unfold Fits;infer_instance
def RtxP (q:Rat) (w:World) (e:Ending) (w':World):Prop:=Below w.heap.size w w'∧∃ s,e=.returned (.tuple #[.string s,.bool (decide (Fits q))])∧(Fits q→s=⟨(textQ q).toArray⟩)
theorem textL_nat (n:Nat):textL (n:Int)=Lib.decDigits n:=by unfold textL;rw [if_neg (Int.not_lt.2 (Int.natCast_nonneg n)),Int.natAbs_natCast,List.nil_append]
theorem sz_text {z:Int} (h:ndg z.natAbs≤2000):(textL z).length≤2001:=by
 unfold textL;unfold ndg at h;rw [zE_]
 split<;>simp<;>omega
theorem rtext_any (q:Rat) (b1:Bool) (A:Option Addr) (n c:Nat) (b2:Bool) (A2:Option Addr) (n2 c2:Nat) (w:World) (h1:RtIs w w.heap.size q b1 A n c b2 A2 n2 c2) (ht:TabOk w) :
    Calls Tryz.prog 71 #[.agg #[.bool b1,.slice A n c,.bool b2,.slice A2 n2 c2]] w (RtxP q w):=by
 have HB0:Hid (Below w.heap.size w (w.alloc (.cells #[.bool b1,.slice A n c,.bool b2,.slice A2 n2 c2] 115))):=lH (bA);have HX1:=lH (Blk.new w 115 #[.bool b1,.slice A n c,.bool b2,.slice A2 n2 c2]);have H1:=lH (h1.up HB0.o);have HT:=lH (ht.up HB0.o);clear h1 ht;go_enter Tryz.func71,Tryz.ntmps71
 go_upto_region 1 with fail
 generalize w.alloc (.cells #[.bool b1,.slice A n c,.bool b2,.slice A2 n2 c2] 115)=W at *;have p0:=HX1.o.cell 0;have p1:=HX1.o.cell 1;have pl:=HX1.o.lt
 go_wp2_with fail
 refine (itext_any q.num b1 A n c W H1.o.num HT.o).mono ?_;rintro e w1 ⟨hb1,s1,rfl,hs1,hz1⟩;have HB1:=lH (HB0.o.tm hb1);have HX2:=lH (HX1.o.bl hb1);have H2:=lH (H1.o.up hb1);have HT2:=lH (HT.o.up hb1);have HS1:=lH hs1;clear hb1 p0 p1 pl hs1 HB0 HX1 H1 HT
 by_cases hf1:ndg q.num.natAbs≤2000
 ·have hd1:decide (ndg q.num.natAbs≤2000)=true:=decide_eq_true hf1
  have he1:=HS1.o hf1;subst he1;rw [hd1];have HF1:=lH hf1;clear hd1 hf1;have p2:=HX2.o.cell 2;have p3:=HX2.o.cell 3;have pl:=HX2.o.lt
  go_wp2_with fail
  refine (itext_any (q.den:Int) b2 A2 n2 c2 w1 H2.o.den HT2.o).mono ?_;rintro e w2 ⟨hb2,s2,he,hs2,hz2⟩;rw [Int.natAbs_natCast] at he hs2;rw [textL_nat] at hs2;subst he;have HB2:=lH (HB1.o.tm hb2);clear hb2 p2 p3 pl
  by_cases hf2:ndg q.den≤2000
  ·have hd2:decide (ndg q.den≤2000)=true:=decide_eq_true hf2
   have he2:=hs2 hf2;subst he2;have hF:Fits q:=⟨HF1.o,hf2⟩;have hFd:decide (Fits q)=true:=decide_eq_true hF;have HFD:=lH hFd;have hq:((⟨(Lib.decDigits q.den).toArray⟩:ByteArray).toList == [49])=decide (q.den=1):=by
    rw [ByteArray.toList_eq,Bool.eq_iff_iff,beq_iff_eq,decide_eq_true_eq];exact dec_one
   rw [hd2];have hl1:(⟨(textL q.num).toArray⟩:ByteArray).size≤2001:=by rw [sz_arr];exact sz_text HF1.o
   have hl2:(⟨(Lib.decDigits q.den).toArray⟩:ByteArray).size≤2000:=by rw [sz_arr];exact hf2
   obtain ⟨t1,ht1⟩:∃ t:ByteArray,⟨(textL q.num).toArray⟩=t:=⟨_,rfl⟩;obtain ⟨t2,ht2⟩:∃ t:ByteArray,⟨(Lib.decDigits q.den).toArray⟩=t:=⟨_,rfl⟩;have HT1:=lH ht1;have HT2':=lH ht2;rw [ht1] at hl1 ⊢;rw [ht2] at hl2 hq ⊢;clear hd2 hF hFd hf2 hs2 ht1 ht2
   by_cases hone:q.den=1
   ·have hd:decide (q.den=1)=true:=decide_eq_true hone
    rw [hd] at hq;have HTX:Hid (t1=⟨(textQ q).toArray⟩):=lH (by unfold textQ;rw [if_pos hone,List.append_nil];exact HT1.o.symm);clear hd hone
    go_wp2_with fail
    go_ret2;exact ⟨HB2.o,_,by rw [HFD.o];rfl,fun _=>HTX.o⟩
   ·have hd:decide (q.den=1)=false:=decide_eq_false hone
    rw [hd] at hq;have HTX:Hid (t1++⟨#[47]⟩++t2=⟨(textQ q).toArray⟩):=lH (by
     unfold textQ;rw [if_neg hone,←HT1.o,←HT2'.o];apply ByteArray.ext;simp)
    have hz1:¬9223372036854775807<t1.size+1:=by omega
    have hz3:(t1++⟨#[47]⟩:ByteArray).size=t1.size+1:=by rw [ByteArray.size_append];rfl
    have hz2:¬9223372036854775807<t1.size+1+t2.size:=by omega
    clear hd hone hl1 hl2
    go_wp2_with fail
    go_ret2;exact ⟨HB2.o,_,by rw [HFD.o];rfl,fun _=>HTX.o⟩
  ·have hd2:decide (ndg q.den≤2000)=false:=decide_eq_false hf2
   have hFd:decide (Fits q)=false:=decide_eq_false fun h=>hf2 h.2;have HFD:=lH hFd;have HNF:Hid (¬Fits q):=lH fun h=>hf2 h.2;rw [hd2];obtain ⟨t1,ht1⟩:∃ t:ByteArray,⟨(textL q.num).toArray⟩=t:=⟨_,rfl⟩;have hl1:t1.size≤3000:=by rw [←ht1];exact hz1
   rw [ht1];clear hd2 hFd hf2 hs2 ht1 hz1;have hzz1:¬9223372036854775807<t1.size+1:=by omega
   have hzz3:(t1++⟨#[47]⟩:ByteArray).size=t1.size+1:=by rw [ByteArray.size_append];rfl
   have hzz2:¬9223372036854775807<t1.size+1+s2.size:=by omega
   cases hq:(s2.toList == [49]) with
   | true=>
    go_wp2_with fail
    go_ret2;exact ⟨HB2.o,_,by rw [HFD.o];rfl,fun h=>absurd h HNF.o⟩
   | false=>
    go_wp2_with fail
    go_ret2;exact ⟨HB2.o,_,by rw [HFD.o];rfl,fun h=>absurd h HNF.o⟩
 ·have hd1:decide (ndg q.num.natAbs≤2000)=false:=decide_eq_false hf1
  have hFd:decide (Fits q)=false:=decide_eq_false fun h=>hf1 h.1;have HFD:=lH hFd;have HNF:Hid (¬Fits q):=lH fun h=>hf1 h.1;rw [hd1];clear hd1 hFd hf1
  go_wp2_with fail
  go_ret2;exact ⟨HB1.o,_,by rw [HFD.o];rfl,fun h=>absurd h HNF.o⟩
end
section
def negL (l:List UInt8):Bool:=Lib.hasPrefix l [45]
def denL (l:List UInt8):Nat:=if rtI l then dv (rtD l) else 1
def parseQ (l:List UInt8):Rat:=Rat.divInt (rdZ (negL l) (rtN l)) (denL l:Int)
theorem ratCk_split {l:List UInt8} (h:ratCk l=0):¬rtP5 l∧¬rtP2 l∧¬(rtI l=true∧rtP3 l):=by
 unfold ratCk at h
 by_cases h5:rtP5 l
 ·rw [if_pos h5] at h;cases h
 ·rw [if_neg h5] at h
  by_cases h2:rtP2 l
  ·rw [if_pos h2] at h;cases h
  ·rw [if_neg h2] at h
   by_cases h3:rtI l=true∧rtP3 l
   ·rw [if_pos h3] at h;cases h
   ·exact ⟨h5,h2,h3⟩
theorem pre_split (l:List UInt8):l=(if negL l then [45] else [])++rtS l:=by
 unfold negL rtS Lib.trimPrefix;cases hp:Lib.hasPrefix l [45] with
 | false=>simp
 | true=>
  unfold Lib.hasPrefix at hp;cases l with
  | nil=>cases hp
  | cons c r=>
   have:c=45:=by
    simp [List.isPrefixOf] at hp;exact hp.symm
   subst this;simp
theorem cut_split (l:List UInt8):l=(cutR 47 l).1++(if (cutR 47 l).2.2 then 47::(cutR 47 l).2.1 else []):=by
 cases h:(cutR 47 l).2.2 with
 | true=>
  have:=(cutR_eq h).1;simpa using this
 | false=>
  obtain ⟨_,h2⟩:=cutR_none h;rw [h2];simp
theorem rtS_split (l:List UInt8):rtS l=rtN l++(if rtI l then 47::rtD l else []):=cut_split (rtS l)
theorem canon_zero {l:List UInt8} (h:Canon l) (h0:dv l=0):l=[48]:=by
 have:=dec_canon h;rw [h0,dec_small (by decide)] at this;exact this.symm
theorem canon_one {l:List UInt8} (h:Canon l) (h0:dv l=1):l=[49]:=by
 have:=dec_canon h;rw [h0,dec_small (by decide)] at this;exact this.symm
theorem rdZ_abs (b:Bool) (l:List UInt8):(rdZ b l).natAbs=dv l:=by unfold rdZ;cases b<;>simp
theorem valid_parse {l:List UInt8} (h:ratCk l=0):(parseQ l).num=rdZ (negL l) (rtN l)∧(parseQ l).den=denL l∧textQ (parseQ l)=l∧Fits (parseQ l)∧AllDg (rtN l)∧AllDg (rtD l)∧(rtN l).length≤2000∧(rtD l).length≤2000:=by
 obtain ⟨h5,h2,h3⟩:=ratCk_split h;have hn:natCk (rtN l)=0:=Classical.byContradiction fun e=>h2 (.inl e);have hb:rtB l=0:=Classical.byContradiction fun e=>h2 (.inr e);obtain ⟨hcn,hln⟩:=natCk_ok.1 hn;have hnz:rtN l=[48]→negL l=false:=fun e=>by
  cases hg:negL l with
  | false=>rfl
  | true=>
   refine absurd (.inr (.inr ⟨e,?_⟩)) h5;have:=congrArg List.length (pre_split l);rw [hg,zE_] at this;simp at this;omega
 have hneg:rdZ (negL l) (rtN l)<0↔negL l=true:=by
  cases hg:negL l with
  | false=>simp [rdZ]
  | true=>
   have:dv (rtN l)≠0:=fun e=>by
    have:=hnz (canon_zero hcn e);rw [hg] at this;cases this
   simp [rdZ];omega
 have hD:(rtI l=true→Canon (rtD l)∧(rtD l).length≤2000∧dv (rtD l)≠0∧dv (rtD l)≠1∧(dv (rtN l)).gcd (dv (rtD l))=1)∧(rtI l=false→rtD l=[]):=by
  refine ⟨fun hi=>?_,fun hi=>?_⟩
  ·have hd:natCk (rtD l)=0:=by unfold rtB at hb;rw [hi] at hb;exact hb
   obtain ⟨hcd,hld⟩:=natCk_ok.1 hd;have h33:¬rtP3 l:=fun g=>h3 ⟨hi,g⟩;exact ⟨hcd,hld,fun e=>h33 (.inl (canon_zero hcd e)),fun e=>h33 (.inr (.inl (canon_one hcd e))),Classical.byContradiction fun g=>h33 (.inr (.inr g))⟩
  ·have:=(cutR_none (l:=rtS l) hi).2
   unfold rtD;rw [this]
 have hg:(rdZ (negL l) (rtN l)).natAbs.gcd (denL l)=1:=by
  rw [rdZ_abs];unfold denL;cases hi:rtI l with
  | true=>exact (hD.1 hi).2.2.2.2
  | false=>exact Nat.gcd_one_right _
 have hd0:denL l≠0:=by
  unfold denL;cases hi:rtI l with
  | true=>exact (hD.1 hi).2.2.1
  | false=>exact Nat.one_ne_zero
 obtain ⟨e1,e2⟩:=ratio_one hd0 hg;have e1':(parseQ l).num=rdZ (negL l) (rtN l):=e1;have e2':(parseQ l).den=denL l:=e2;have hdd:AllDg (rtD l)∧(rtD l).length≤2000:=by
  cases hi:rtI l with
  | true=>exact ⟨(hD.1 hi).1.2.1,(hD.1 hi).2.1⟩
  | false=>rw [hD.2 hi];exact ⟨fun c hc=>(by cases hc),by simp⟩
 refine ⟨e1',e2',?_,⟨?_,?_⟩,hcn.2.1,hdd.1,hln,hdd.2⟩
 ·unfold textQ textL
  rw [e1',e2',rdZ_abs,dec_canon hcn]
  conv=>rhs;rw [pre_split l,rtS_split l]
  have hif:(if rdZ (negL l) (rtN l)<0 then [45] else ([]:List UInt8))=if negL l=true then [45] else []:=by
   cases hg2:negL l with
   | true=>rw [hg2] at hneg;rw [if_pos (hneg.2 rfl)];rfl
   | false=>rw [hg2] at hneg;rw [if_neg (fun g=>by have:=hneg.1 g;cases this)];rfl
  rw [hif,List.append_assoc];congr 2
  unfold denL;cases hi:rtI l with
  | true=>
   obtain ⟨g1,_,_,g4,_⟩:=hD.1 hi;simp only [if_true];rw [if_neg g4,dec_canon g1]
  | false=>simp
 ·rw [e1',rdZ_abs];unfold ndg;rw [dec_canon hcn];exact hln
 ·rw [e2']
  unfold denL;cases hi:rtI l with
  | true=>unfold ndg;simp only [if_true];rw [dec_canon (hD.1 hi).1];exact (hD.1 hi).2.1
  | false=>show ndg 1≤2000;decide+kernel
end
section
open Go.ChangeShapes Go.WideShapes Go.ChangeAt Go.RowKit
attribute [local go_sem ↓] execOp_call_val
attribute [local go_sem] callVal_func setCell_drewN alloc_drewN
theorem cutR_pre (b:Bool) (s:List UInt8):cutR 47 ((if b then [45] else [])++s)=((if b then [45] else [])++(cutR 47 s).1,(cutR 47 s).2.1,(cutR 47 s).2.2):=by
 cases b with
 | false=>simp
 | true=>simp [cutR]
theorem cut_whole (l:List UInt8):cutR 47 l=((if negL l then [45] else [])++rtN l,rtD l,rtI l):=by
 have:=cutR_pre (negL l) (rtS l);rwa [←pre_split l] at this
theorem parse_any (l:List UInt8) (h:ratCk l=0) (w:World) :
    Calls Tryz.prog 67 #[.string ⟨l.toArray⟩] w (RtP (parseQ l) w):=by
 obtain ⟨v1,v2,_,_,v3,v4,v5,v6⟩:=valid_parse h;have HV1:=lH v1;have HV2:=lH v2;have HV3:=lH v3;have HV4:=lH v4;have HV5:Hid ((rtN l).length≤1000000):=lH (by omega);have HV6:Hid ((rtD l).length≤1000000):=lH (by omega);have hll:l.length≤9223372036854775807:=by
  have h1:=congrArg List.length (pre_split l);have h2:=congrArg List.length (rtS_split l);rw [zE_] at h1 h2;have h3:(if negL l then [45] else ([]:List UInt8)).length≤1:=by split<;>simp
  have h4:(if rtI l then 47::rtD l else []).length≤(rtD l).length+1:=by split<;>simp
  omega
 have HB0:Hid (Below w.heap.size w (w.alloc (.cells #[.bool false,.slice none 0 0,.bool false,.slice none 0 0] 115))):=lH (bA);have HR:Hid (Blk (w.alloc (.cells #[.bool false,.slice none 0 0,.bool false,.slice none 0 0] 115)) w.heap.size 115 #[.bool false,.slice none 0 0,.bool false,.slice none 0 0]):=lH (Blk.new w _ _);have hgs:w.heap.size≤w.heap.size:=lR;clear v1 v2 v3 v4 v5 v6 h;go_enter Tryz.func67,Tryz.ntmps67
 go_upto_region 1 with fail
 generalize (w.alloc (.cells #[.bool false,.slice none 0 0,.bool false,.slice none 0 0] 115))=W at *
 go_wp2_with fail
 refine (cut_any 47 l hll W).mono ?_;rintro e w1 ⟨he,hb1⟩;rw [cut_whole l] at he;have HB1:=lH (HB0.o.tm hb1);have HR1:=lH (HR.o.bl hb1);obtain ⟨is,his⟩:∃ i,rtI l=i:=⟨_,rfl⟩;have HI:=lH his;simp only [his] at he;subst he;clear hb1 HB0 HR his hll;obtain ⟨tn,htn⟩:∃ t:ByteArray,rdT (negL l) (rtN l)=t:=⟨_,rfl⟩;obtain ⟨td,htd⟩:∃ t:ByteArray,rdT false (rtD l)=t:=⟨_,rfl⟩;have c1:∀ w,Calls Tryz.prog 113 #[.string tn] w (LgP (rdZ (negL l) (rtN l)) w):=fun w=>by rw [←htn];exact read_any _ _ HV3.o HV5.o w
 have c2:∀ w,Calls Tryz.prog 113 #[.string td] w (LgP (rdZ false (rtD l)) w):=fun w=>by rw [←htd];exact read_any _ _ HV4.o HV6.o w
 have e1:(⟨((if negL l=true then [45] else [])++rtN l).toArray⟩:ByteArray)=tn:=htn;have e2:(⟨(rtD l).toArray⟩:ByteArray)=td:=htd;rw [e1,e2];clear e1 e2;have C1:=lH c1;have C2:=lH c2;clear htn htd c1 c2;cases is with
 | false=>
  have HD:Hid ((parseQ l).den=1):=lH (by rw [HV2.o];unfold denL;rw [HI.o];rfl)
  go_wp2_with fail
  refine (C1.out w1).mono ?_;rintro e w2 ⟨hb2,f5,C5,i5,j5,rfl,h5⟩;have HB2:=lH (HB1.o.tm hb2);have HR2:=lH (HR1.o.bl hb2);have H5:=lH h5;clear hb2 h5 HB1 HR1
  go_wp2_with fail
  refine (of_any 1 w2 (by decide) (by decide)).mono ?_;rintro e w3 ⟨hb3,f6,C6,i6,j6,rfl,h6⟩;have HB3:=lH (HB2.o.tm hb3);have HR3:=lH (HR2.o.bl hb3);have HQ:Hid (RtIs w3 w3.heap.size (parseQ l) f5 C5 i5 j5 f6 C6 i6 j6):=lH ⟨by rw [HV1.o];exact H5.o.up hb3,by rw [HD.o];exact h6⟩;clear hb3 h6 HB2 HR2 H5;have z0:=HR3.o.cell 0;have z1:=HR3.o.cell 1;have z2:=HR3.o.cell 2;have z3:=HR3.o.cell 3;have zf:=HR3.o.frozen;have zl:=HR3.o.lt
  go_wp2_with fail
  generalize hW9:(((w3.setCell ⟨_,0,none⟩ _).setCell ⟨_,1,none⟩ _).setCell ⟨_,2,none⟩ _).setCell ⟨_,3,none⟩ _=W9;have HP9:=lH (rt_put (e:=.returned (.agg #[.bool f5,.slice C5 i5 j5,.bool f6,.slice C6 i6 j6])) HB3.o hgs HR3.o (by simp) (by simp) (by simp) (by simp) HQ.o rfl);rw [hW9] at HP9;have HB9:Hid (Blk W9 _ 115 #[.bool f5,.slice C5 i5 j5,.bool f6,.slice C6 i6 j6]):=lH (by rw [←hW9];exact blk_set4 HR3.o);clear hW9 z0 z1 z2 z3 zf zl;have q0:=HB9.o.cell 0;have q1:=HB9.o.cell 1;have q2:=HB9.o.cell 2;have q3:=HB9.o.cell 3;exact bodyPost_ret (v:=.agg #[.bool f5,.slice C5 i5 j5,.bool f6,.slice C6 i6 j6]) (by simp [results,Tryz.results67,go_sem,q0,q1,q2,q3]) rfl HP9.o
 | true=>
  have HD:Hid (((parseQ l).den:Int)=rdZ false (rtD l)):=lH (by rw [HV2.o];unfold denL;rw [HI.o];rfl)
  go_wp2_with fail
  refine (C1.out w1).mono ?_;rintro e w2 ⟨hb2,f5,C5,i5,j5,rfl,h5⟩;have HB2:=lH (HB1.o.tm hb2);have HR2:=lH (HR1.o.bl hb2);have H5:=lH h5;clear hb2 h5 HB1 HR1
  go_wp2_with fail
  refine (C2.out w2).mono ?_;rintro e w3 ⟨hb3,f6,C6,i6,j6,rfl,h6⟩;have HB3:=lH (HB2.o.tm hb3);have HR3:=lH (HR2.o.bl hb3);have HQ:Hid (RtIs w3 w3.heap.size (parseQ l) f5 C5 i5 j5 f6 C6 i6 j6):=lH ⟨by rw [HV1.o];exact H5.o.up hb3,by rw [HD.o];exact h6⟩;clear hb3 h6 HB2 HR2 H5;have z0:=HR3.o.cell 0;have z1:=HR3.o.cell 1;have z2:=HR3.o.cell 2;have z3:=HR3.o.cell 3;have zf:=HR3.o.frozen;have zl:=HR3.o.lt
  go_wp2_with fail
  generalize hW9:(((w3.setCell ⟨_,0,none⟩ _).setCell ⟨_,1,none⟩ _).setCell ⟨_,2,none⟩ _).setCell ⟨_,3,none⟩ _=W9;have HP9:=lH (rt_put (e:=.returned (.agg #[.bool f5,.slice C5 i5 j5,.bool f6,.slice C6 i6 j6])) HB3.o hgs HR3.o (by simp) (by simp) (by simp) (by simp) HQ.o rfl);rw [hW9] at HP9;have HB9:Hid (Blk W9 _ 115 #[.bool f5,.slice C5 i5 j5,.bool f6,.slice C6 i6 j6]):=lH (by rw [←hW9];exact blk_set4 HR3.o);clear hW9 z0 z1 z2 z3 zf zl;have q0:=HB9.o.cell 0;have q1:=HB9.o.cell 1;have q2:=HB9.o.cell 2;have q3:=HB9.o.cell 3;exact bodyPost_ret (v:=.agg #[.bool f5,.slice C5 i5 j5,.bool f6,.slice C6 i6 j6]) (by simp [results,Tryz.results67,go_sem,q0,q1,q2,q3]) rfl HP9.o
end
section
open Go.ChangeShapes Go.WideShapes Go.ChangeAt Go.RowKit
attribute [local go_sem ↓] execOp_call_val
attribute [local go_sem] callVal_func setCell_drewN alloc_drewN sEq_walk
structure Rv where
 b1:Bool
 A:Option Addr
 n:Nat
 c:Nat
 b2:Bool
 A2:Option Addr
 m:Nat
 d:Nat
def Rv.cells (v:Rv):List Value:=[.bool v.b1,.slice v.A v.n v.c,.bool v.b2,.slice v.A2 v.m v.d]
def rv0:Rv:=⟨false,none,0,0,false,none,0,0⟩
def RtV (w:World) (B:Nat) (q:Rat) (v:Rv):Prop:=RtIs w B q v.b1 v.A v.n v.c v.b2 v.A2 v.m v.d
theorem Rv.len (v:Rv):v.cells.length=4:=rfl
def rvs (vs:List Rv):List Value:=vs.flatMap Rv.cells
theorem rvs_len (vs:List Rv):(rvs vs).length=vs.length*4:=flat_len Rv.len vs
theorem rvs_at {vs:List Rv} {i:Nat} {v:Rv} (h:vs[i]?=some v) (k:Nat) (hk:k<4):(rvs vs)[i*4+k]?=v.cells[k]?:=flat_at Rv.len vs i v h k hk
theorem rvs_set:∀ (vs:List Rv) (i:Nat) (v:Rv),i<vs.length→((((rvs vs).set (i*4) (.bool v.b1)).set (i*4+1) (.slice v.A v.n v.c)).set (i*4+2) (.bool v.b2)).set (i*4+3) (.slice v.A2 v.m v.d)=rvs (vs.set i v)
 | [],i,v,h=>by simp at h
 | x::r,0,v,_=>by simp [rvs,Rv.cells]
 | x::r,i+1,v,h=>by
  have ih:=rvs_set r i v (by simpa using h);have e:rvs (x::r)=x.cells++rvs r:=by simp [rvs]
  have e2:rvs ((x::r).set (i+1) v)=x.cells++rvs (r.set i v):=by simp [rvs]
  have st:∀ (l:List Value) (k:Nat) (u:Value),(x.cells++l).set (k+4) u=x.cells++l.set k u:=fun l k u=>by
   rw [List.set_append_right _ _ (by rw [Rv.len];omega),Rv.len,Nat.add_sub_cancel]
  rw [e,e2,←ih,show (i+1)*4=i*4+4 from by omega,show i*4+4+1=i*4+1+4 from by omega,show i*4+4+2=i*4+2+4 from by omega,show i*4+4+3=i*4+3+4 from by omega,st,st,st,st]
theorem rvs_rep:∀ n:Nat,rvs (List.replicate n rv0)=(List.replicate n rv0.cells).flatten
 | 0=>rfl
 | n+1=>by
  rw [List.replicate_succ,List.replicate_succ,List.flatten_cons,←rvs_rep n];simp [rvs]
theorem blk_rv {w:World} {g t i:Nat} {vs:List Rv} (h:Blk w g t (rvs vs).toArray) (hi:i<vs.length) (v:Rv):Blk ((((w.setCell ⟨g,i*4,none⟩ (.bool v.b1)).setCell ⟨g,i*4+1,none⟩ (.slice v.A v.n v.c)).setCell ⟨g,i*4+2,none⟩ (.bool v.b2)).setCell ⟨g,i*4+3,none⟩ (.slice v.A2 v.m v.d)) g t (rvs (vs.set i v)).toArray:=by
 have key:∀ (w:World) (l:List Value) (k:Nat) (u:Value),Blk w g t l.toArray→Blk (w.setCell ⟨g,k,none⟩ u) g t (l.set k u).toArray:=fun w l k u hb=>hb.set_at u (by simp);rw [←rvs_set vs i v hi];exact key _ _ _ _ (key _ _ _ _ (key _ _ _ _ (key _ _ _ _ h)))
theorem rv_cell {w:World} {g t i:Nat} {vs:List Rv} {v:Rv} (h:Blk w g t (rvs vs).toArray) (hv:vs[i]?=some v):w.cell? ⟨g,i*4,none⟩=some (.bool v.b1)∧w.cell? ⟨g,i*4+1,none⟩=some (.slice v.A v.n v.c)∧w.cell? ⟨g,i*4+2,none⟩=some (.bool v.b2)∧w.cell? ⟨g,i*4+3,none⟩=some (.slice v.A2 v.m v.d):=by
 have k:=fun j hj=>rvs_at hv j hj;refine ⟨?_,?_,?_,?_⟩<;>rw [h.cell]
 ·have:=k 0 (by decide);simpa [Rv.cells] using this
 ·have:=k 1 (by decide);simpa [Rv.cells] using this
 ·have:=k 2 (by decide);simpa [Rv.cells] using this
 ·have:=k 3 (by decide);simpa [Rv.cells] using this
theorem RtIs.keep4 {w:World} {q:Rat} {b1:Bool} {A:Option Addr} {n c:Nat} {b2:Bool} {A2:Option Addr} {m d:Nat} (h:RtIs w w.heap.size q b1 A n c b2 A2 m d) {g t i:Nat} {vs:List Rv} {x v:Rv} (hb:Blk w g t (rvs vs).toArray) (hx:vs[i]?=some x) :
    RtIs ((((w.setCell ⟨g,i*4,none⟩ (.bool v.b1)).setCell ⟨g,i*4+1,none⟩ (.slice v.A v.n v.c)).setCell ⟨g,i*4+2,none⟩ (.bool v.b2)).setCell ⟨g,i*4+3,none⟩ (.slice v.A2 v.m v.d)) ((((w.setCell ⟨g,i*4,none⟩ (.bool v.b1)).setCell ⟨g,i*4+1,none⟩ (.slice v.A v.n v.c)).setCell ⟨g,i*4+2,none⟩ (.bool v.b2)).setCell ⟨g,i*4+3,none⟩ (.slice v.A2 v.m v.d)).heap.size q b1 A n c b2 A2 m d:=by
 obtain ⟨c0,c1,c2,c3⟩:=rv_cell hb hx;have ne:∀ (a b:Nat),a≠b→(⟨g,a,none⟩:Addr)≠⟨g,b,none⟩:=fun a b h e=>h (by injection e);have off:∀ (w:World) (a b:Nat) (u v:Value),a≠b→w.cell? ⟨g,b,none⟩=some v→(w.setCell ⟨g,a,none⟩ u).cell? ⟨g,b,none⟩=some v:=fun w a b u v hab hv=>by
  rw [World.cell?_setCell_other _ _ _ _ (ne a b hab)];exact hv
 refine (((h.keep c0 (by simp) _).keep (off _ _ _ _ _ (by omega) c1) (by simp) _).keep (off _ _ _ _ _ (by omega) (off _ _ _ _ _ (by omega) c2)) (by simp) _).keep (off _ _ _ _ _ (by omega) (off _ _ _ _ _ (by omega) (off _ _ _ _ _ (by omega) c3))) (by simp) _
def RdQ (w:World) (B:Nat) (A:Option Addr) (n:Nat) (qs:List Rat):Prop:=∃ vs:List Rv,vs.length=n∧qs.length=n∧Rd w B 4 A n (rvs vs)∧∀ (i:Nat) (q:Rat) (v:Rv),qs[i]?=some q→vs[i]?=some v→RtV w B q v
section
variable {w w':World} {B B' n:Nat} {A:Option Addr} {qs:List Rat}
theorem RdQ.below (h:RdQ w B A n qs) (hb:Below B' w w') (hB:B≤B'):RdQ w' B A n qs:=by
 obtain ⟨vs,h1,h2,h3,h4⟩:=h;exact ⟨vs,h1,h2,h3.below hb hB,fun i q v hq hv=>RtIs.below (h4 i q v hq hv) hb hB⟩
theorem RdQ.more (h:RdQ w B A n qs) (hB:B≤B'):RdQ w B' A n qs:=by
 obtain ⟨vs,h1,h2,h3,h4⟩:=h;exact ⟨vs,h1,h2,h3.more hB,fun i q v hq hv=>RtIs.more (h4 i q v hq hv) hB⟩
theorem RdQ.up (h:RdQ w w.heap.size A n qs) (hb:Below w.heap.size w w'):RdQ w' w'.heap.size A n qs:=(h.below hb lR).more hb.size
theorem RdQ.len (h:RdQ w B A n qs):qs.length=n:=by obtain ⟨_,_,h,_⟩:=h;exact h
theorem RdQ.form (h:RdQ w B A n qs) (h0:0<n):∃ b off,A=some ⟨b,off,none⟩∧b<B:=by
 obtain ⟨vs,_,_,h3,_⟩:=h;obtain ⟨b,off,e,hlt,_⟩:=h3.2 h0;exact ⟨b,off,e,hlt⟩
theorem RdQ.at_ {b off i:Nat} {q:Rat} (h:RdQ w B (some ⟨b,off,none⟩) n qs) (hq:qs[i]?=some q):∃ v:Rv,w.cell? ⟨b,off+i*4,none⟩=some (.bool v.b1)∧w.cell? ⟨b,off+i*4+1,none⟩=some (.slice v.A v.n v.c)∧w.cell? ⟨b,off+i*4+2,none⟩=some (.bool v.b2)∧w.cell? ⟨b,off+i*4+3,none⟩=some (.slice v.A2 v.m v.d)∧RtV w B q v:=by
 obtain ⟨vs,h1,h2,h3,h4⟩:=h;have hi:=(zB_.1 hq).1;obtain ⟨v,hv⟩:∃ v,vs[i]?=some v:=zX_ (by omega);obtain ⟨b',off',e,_,hc⟩:=h3.2 (by omega);injection e with e;injection e with e1 e2;subst e1;subst e2;have k:=fun j hj=>rvs_at hv j hj;refine ⟨v,?_,?_,?_,?_,h4 i q v hq hv⟩
 ·have:=hc (i*4) (.bool v.b1) (by have:=k 0 (by decide);simpa [Rv.cells] using this);exact this
 ·have:=hc (i*4+1) (.slice v.A v.n v.c) (by have:=k 1 (by decide);simpa [Rv.cells] using this);exact this
 ·have:=hc (i*4+2) (.bool v.b2) (by have:=k 2 (by decide);simpa [Rv.cells] using this);exact this
 ·have:=hc (i*4+3) (.slice v.A2 v.m v.d) (by have:=k 3 (by decide);simpa [Rv.cells] using this);exact this
theorem rdQ_blk {g t:Nat} {vs:List Rv} (h:Blk w g t (rvs vs).toArray) (hn:vs.length=n) (hq:qs.length=n) (hv:∀ (i:Nat) (q:Rat) (v:Rv),qs[i]?=some q→vs[i]?=some v→RtV w w.heap.size q v):RdQ w w.heap.size (some ⟨g,0,none⟩) n qs:=
 ⟨vs,hn,hq,⟨by rw [rvs_len,hn],fun _=>⟨g,0,rfl,h.lt,fun j u hu=>by
  rw [show (⟨g,0+j,none⟩:Addr)=⟨g,j,none⟩ from by simp,h.cell j];simpa using hu⟩⟩,hv⟩
end
theorem info_rat:(Tryz.prog.info? 115).map (fun i=>(i.zero,i.size,i.bytes))=some (some (.agg #[.bool false,.slice none 0 0,.bool false,.slice none 0 0]),4,64):=by kernel_rfl
theorem made4 (n:Nat):madeCells #[Value.bool false,.slice none 0 0,.bool false,.slice none 0 0] (n*4)=(rvs (List.replicate n rv0)).toArray:=by
 apply Array.ext';rw [List.toList_toArray,rvs_rep];apply List.ext_getElem?;intro j
 by_cases hj:j<n*4
 ·have h1:(madeCells #[Value.bool false,.slice none 0 0,.bool false,.slice none 0 0] (n*4)).toList[j]?=some (#[Value.bool false,.slice none 0 0,.bool false,.slice none 0 0][j % 4]!):=by
   simp [madeCells,hj]
  have h2:(rvs (List.replicate n rv0))[j / 4*4+j % 4]?=rv0.cells[j % 4]?:=rvs_at (by rw [List.getElem?_replicate,if_pos (by omega)]) _ (by omega);rw [Nat.div_add_mod' j 4,rvs_rep] at h2;rw [h1,h2];have:j % 4=0∨j % 4=1∨j % 4=2∨j % 4=3:=by omega
  rcases this with e | e | e | e<;>rw [e]<;>rfl
 ·rw [List.getElem?_eq_none (by simp [madeCells];omega),List.getElem?_eq_none (by rw [←rvs_rep,rvs_len,zO_];omega)]
theorem make_rat (n:Nat) (hn:n≤1000000) (w:World):(Instr.makeSlice 93 (.int .i64 (n:Int)) (.int .i64 (n:Int))).run Tryz.prog w=.ok (.slice (some ⟨w.heap.size,0,none⟩) n n) (w.alloc (.cells (rvs (List.replicate n rv0)).toArray 115)):=by
 obtain ⟨i0,hi0,hz0,hz1,hz2⟩:=info_parts info_rat;rw [run_make w 93 115 i0 _ Tryz.underlying93 hi0 hz0 .i64 .i64 (n:Int) (n:Int) (by omega) (Int.le_refl _) (by rw [hz2];omega) (by omega),zL_,hz1];rw [show (Value.agg #[Value.bool false,.slice none 0 0,.bool false,.slice none 0 0]).cells=#[Value.bool false,.slice none 0 0,.bool false,.slice none 0 0] from rfl,made4]
def ckAllR:List ByteArray→Int
 | []=>0
 | s::r=>if ratCk s.data.toList=0 then ckAllR r else ratCk s.data.toList
theorem ckAllR_ok:∀ {l:List ByteArray},ckAllR l=0↔∀ s∈l,ratCk s.data.toList=0
 | []=>by simp [ckAllR]
 | s::r=>by
  unfold ckAllR
  by_cases h:ratCk s.data.toList=0
  ·rw [if_pos h,ckAllR_ok]
   simp [h]
  ·rw [if_neg h]
   simp [h]
theorem ckAllR_drop {l:List ByteArray} {k:Nat} {s:ByteArray} (h:l[k]?=some s):ckAllR (l.drop k)=if ratCk s.data.toList=0 then ckAllR (l.drop (k+1)) else ratCk s.data.toList:=by
 rw [drop_cons h];rfl
theorem ckall_any (A:Option Addr) (n c:Nat) (ss:List ByteArray) (w:World) (hR:RdStr w w.heap.size A n ss) (hs:∀ s∈ss,s.size≤maxLen) (hn:n≤9223372036854775807) (ht:TabOk w) :
    Calls Tryz.prog 105 #[.slice A n c] w fun e w'=>e=.returned (.int .i64 (ckAllR ss))∧Below w.heap.size w w':=by
 have HR:=lH hR;have HS:=lH hs;have HT:=lH ht;have HL:=lH hR.1;clear hR hs ht;go_enter Tryz.func105,Tryz.ntmps105
 go_wp2_with fail
 go_loopw [4,5,8] (fun _ _ i wr=>∃ k:Nat,k≤n∧i=.int .i64 k∧ckAllR ss=ckAllR (ss.drop k)∧Below w.heap.size w wr) (fun _ _ i _=>n-(intOf i).toNat)
 case atStart=>exact ⟨0,by omega,rfl,rfl,bR⟩
 case round=>
  obtain ⟨k,hk,rfl,hgo,hb⟩:=hrel;have HG:=lH hgo;have HB:=lH hb;clear hgo hb
  by_cases hlt:k<n
  ·obtain ⟨s,hs⟩:∃ s,ss[k]?=some s:=zX_ (by have:=HL.o;omega)
   obtain ⟨b,o,hA,hb⟩:=(HR.o.below HB.o lR).form (by omega);subst hA;have hc:=(HR.o.below HB.o lR).at_ hs;have HD:=lH (ckAllR_drop hs);have HSZ:=lH (HS.o s (zC_ hs));have hkI:(k:Int)<(n:Int):=by omega
   have HN1:=lN k;have HN2:Hid (n-(k+1)<n-k):=lH (by omega);have HSE:(⟨s.data.toList.toArray⟩:ByteArray)=s:=by cases s;simp
   have HC1:=ratck_any s.data.toList (by have:=HSZ.o;rw [Lib.size_eq] at this;exact this) wr (HT.o.up HB.o);rw [HSE] at HC1;replace HC1:=lH HC1;clear HSE;clear hs
   go_wp2_with fail
   refine HC1.o.mono ?_;clear hc HC1;rintro e w1 ⟨rfl,hb1⟩;have HB1:=lH (HB.o.tm hb1);clear hb1 HB;obtain ⟨r,hr⟩:∃ r,ratCk s.data.toList=r:=⟨_,rfl⟩;rw [hr] at HD ⊢;clear hr
   by_cases h0:r=0
   ·subst h0
    have HE:Hid (ckAllR ss=ckAllR (ss.drop (k+1))):=lH (by rw [HG.o,HD.o,if_pos rfl])
    go_wp2_with fail
    go_roundw
    case rel=>exact ⟨k+1,hlt,val_int HN1.o,HE.o,HB1.o⟩
    case measure=>exact HN2.o
   ·have HE:Hid (ckAllR ss=r):=lH (by rw [HG.o,HD.o,if_neg h0])
    have h0b:(r != 0)=true:=by simp [h0]
    clear h0
    go_wp2_with fail
    go_ret;exact ⟨ret_int HE.o.symm,HB1.o⟩
  ·have HE:Hid (ckAllR ss=0):=lH (by rw [HG.o,List.drop_eq_nil_of_le (by have:=HL.o;omega)];rfl)
   have hkI:¬(k:Int)<(n:Int):=by omega
   go_wp2_with fail
   go_ret;exact ⟨ret_int HE.o.symm,HB.o⟩
theorem RdQ.bm {w w':World} {n:Nat} {A:Option Addr} {l:List Rat} (h:RdQ w w.heap.size A n l) (g:Below w.heap.size w w'):RdQ w' w'.heap.size A n l:=(h.below g lR).more g.size
def RvOk (w:World) (vs:List Rv) (qs:List Rat):Prop:=∀ (i:Nat) (q:Rat) (v:Rv),qs[i]?=some q→vs[i]?=some v→RtV w w.heap.size q v
theorem RvOk.up {w w':World} {vs:List Rv} {qs:List Rat} (h:RvOk w vs qs) (hb:Below w.heap.size w w'):RvOk w' vs qs:=fun i q v hq hv=>RtIs.up (h i q v hq hv) hb
def putV (w:World) (g i:Nat) (v:Rv):World:=(((w.setCell ⟨g,i*4,none⟩ (.bool v.b1)).setCell ⟨g,i*4+1,none⟩ (.slice v.A v.n v.c)).setCell ⟨g,i*4+2,none⟩ (.bool v.b2)).setCell ⟨g,i*4+3,none⟩ (.slice v.A2 v.m v.d)
theorem RvOk.put {w:World} {g t i:Nat} {vs us:List Rv} {qs qs':List Rat} {q:Rat} {v x:Rv} (h:RvOk w us qs) (hb:Blk w g t (rvs vs).toArray) (hx:vs[i]?=some x) (hv:RtV w w.heap.size q v) (hq:∀ (j:Nat) (q':Rat),qs'[j]?=some q'→(j=i∧q'=q)∨(j≠i∧qs[j]?=some q')):RvOk (putV w g i v) (us.set i v) qs':=by
 intro j q' v' hq' hv';rcases hq j q' hq' with ⟨rfl,rfl⟩ | ⟨hne,hq0⟩
 ·rw [List.getElem?_set_self'] at hv'
  obtain ⟨_,_,e⟩:=Option.map_eq_some_iff.1 hv';subst e;exact RtIs.keep4 hv hb hx
 ·rw [List.getElem?_set_ne (by omega)] at hv'
  exact RtIs.keep4 (h j q' v' hq0 hv') hb hx
theorem below_putV {a w:World} {B g i:Nat} {v:Rv} (h:Below B a w) (hg:B≤g):Below B a (putV w g i v):=(((h.setCell hg _).setCell hg _).setCell hg _).setCell hg _
theorem snoc_at {qs:List Rat} {k:Nat} {q:Rat} (hk:qs.length=k):∀ (j:Nat) (q':Rat),(qs++[q])[j]?=some q'→(j=k∧q'=q)∨(j≠k∧qs[j]?=some q'):=by
 intro j q' h
 by_cases hj:j<k
 ·right
  rw [zR_ (by omega)] at h;exact ⟨by omega,h⟩
 ·left
  rw [zN_ (by omega)] at h;have h1:=(zB_.1 h).1;simp at h1;have:j=k:=by omega
  subst this;rw [hk] at h;simp at h;exact ⟨rfl,h.symm⟩
def qOf (s:ByteArray):Rat:=parseQ s.data.toList
def OutQ (qs:List Rat) (w:World) (e:Ending) (w':World):Prop:=Below w.heap.size w w'∧∃ A n c,e=.returned (.slice A n c)∧RdQ w' w'.heap.size A n qs∧n≤c∧c≤maxLen∧(0<n→∃ b off,A=some ⟨b,off,none⟩∧w.heap.size≤b)
theorem take_snoc {α:Type} {l:List α} {k:Nat} {x:α} (h:l[k]?=some x):l.take (k+1)=l.take k++[x]:=by
 rw [List.take_add_one,h];rfl
theorem parseall_any (A:Option Addr) (n c:Nat) (ss:List ByteArray) (w:World) (hR:RdStr w w.heap.size A n ss) (hs:∀ s∈ss,ratCk s.data.toList=0) (hn:n≤1000000) :
    Calls Tryz.prog 62 #[.slice A n c] w (OutQ (ss.map qOf) w):=by
 have HR:=lH hR;have HS:=lH hs;have HL:=lH hR.1;have HNN:=lH hn;clear hR hs;have hmk:∀ w:World,(Instr.makeSlice 93 (.int .i64 (n:Int)) (.int .i64 (n:Int))).run Tryz.prog w=.ok (.slice (some ⟨w.heap.size,0,none⟩) n n) (w.alloc (.cells (rvs (List.replicate n rv0)).toArray 115)):=fun w=>make_rat n hn w;have HK:=lH ((Below.refl w.heap.size w).alloc lR (.cells (rvs (List.replicate n rv0)).toArray 115));have HG:=lH (Blk.new w 115 (rvs (List.replicate n rv0)).toArray);go_enter Tryz.func62,Tryz.ntmps62
 go_wp2_with fail
 clear hmk;generalize w.alloc (.cells (rvs (List.replicate n rv0)).toArray 115)=W at *;generalize hg:w.heap.size=g at *;have HGS:=lH hg;clear hg
 go_loopw [11] (fun v11 wr=>∃ (k:Nat) (vs:List Rv),k≤n∧v11=.int .i64 k∧vs.length=n∧Below g w wr∧Blk wr g 115 (rvs vs).toArray∧RvOk wr vs ((ss.map qOf).take k)) (fun v11 _=>n-(intOf v11).toNat)
 case atStart=>exact ⟨0,_,by omega,rfl,zO_,HK.o,HG.o,fun i q v h=>by simp at h⟩
 case round=>
  clear HK HG;obtain ⟨k,vs,hk,rfl,hvl,hb,hg,hI⟩:=hrel;have HK:=lH hb;have HG:=lH hg;have HI:=lH hI;have HVL:=lH hvl;clear hb hg hI hvl
  by_cases hlt:k<n
  ·obtain ⟨s,hs⟩:∃ s,ss[k]?=some s:=zX_ (by have:=HL.o;omega)
   obtain ⟨b,o,hA,hb⟩:=(HR.o.below HK.o (by have:=HGS.o;omega)).form (by omega);subst hA;have hc:=(HR.o.below HK.o (by have:=HGS.o;omega)).at_ hs;have hkI:(k:Int)<(n:Int):=by omega
   have HN1:=lN k;have HN2:Hid (n-(k+1)<n-k):=lH (by omega);have HSE:(⟨s.data.toList.toArray⟩:ByteArray)=s:=by cases s;simp
   have HC1:=fun w=>parse_any s.data.toList (HS.o s (zC_ hs)) w;rw [HSE] at HC1;replace HC1:=lH HC1;have HQ:Hid ((ss.map qOf).take (k+1)=(ss.map qOf).take k++[parseQ s.data.toList]):=lH (take_snoc (by rw [zM_,hs];rfl));clear HSE hs;have hbl:b<wr.heap.size:=by have:=HK.o.size;have:=HGS.o;omega
   go_wp2_with fail
   refine (HC1.o wr).mono ?_;clear hc HC1;rintro e w1 ⟨hb1,f,C,i,j,f2,C2,i2,j2,rfl,h1⟩;have HK1:=lH (HK.o.trans (hb1.mono (zQ_ HG.o.lt)));have HG1:=lH (HG.o.bl hb1);have HI1:=lH (HI.o.up hb1);have HV:=lH h1;clear hb1 h1 HK HG HI;obtain ⟨x,hx⟩:∃ x,vs[k]?=some x:=zX_ (by have:=HVL.o;omega);obtain ⟨c0,c1,c2,c3⟩:=rv_cell HG1.o hx;have hgf:=HG1.o.frozen;have hgl:=HG1.o.lt;have HX:=lH hx;clear hx
   go_wp2_with fail
   go_roundw
   case rel=>exact ⟨k+1,vs.set k ⟨f,C,i,j,f2,C2,i2,j2⟩,hlt,val_int HN1.o,by rw [zU_];exact HVL.o,below_putV (v:=⟨f,C,i,j,f2,C2,i2,j2⟩) HK1.o lR,blk_rv HG1.o (zB_.1 HX.o).1 ⟨f,C,i,j,f2,C2,i2,j2⟩,by
    rw [HQ.o];exact RvOk.put (v:=⟨f,C,i,j,f2,C2,i2,j2⟩) HI1.o HG1.o HX.o HV.o (snoc_at (by rw [zF_,zG_,HL.o];omega))⟩
   case measure=>exact HN2.o
  ·have hke:k=n:=by omega
   subst hke;have hkI:¬(k:Int)<(k:Int):=by omega
   go_wp2_with fail
   go_ret;exact ⟨by rw [HGS.o];exact HK.o,_,_,_,rfl,by
    have h:=HI.o;rw [zH_ (by rw [zG_,HL.o];exact lR)] at h;exact rdQ_blk HG.o HVL.o (by rw [zG_,HL.o]) h,lR,by have:=HNN.o;unfold maxLen;omega,fun _=>⟨_,_,rfl,by rw [HGS.o];exact lR⟩⟩
theorem info_ratt:(Tryz.prog.info? 55).map (fun i=>(i.zero,i.size,i.bytes))=some (some (.string ⟨#[]⟩),1,16):=by kernel_rfl
theorem str_made (n:Nat):madeCells #[Value.string ⟨#[]⟩] n=(strsV (List.replicate n ⟨#[]⟩)).toArray:=by
 apply Array.ext';rw [toList_madeCells_one];unfold strsV;simp
theorem make_ratt (n:Nat) (hn:n≤1000000) (w:World):(Instr.makeSlice 34 (.int .i64 (n:Int)) (.int .i64 (n:Int))).run Tryz.prog w=.ok (.slice (some ⟨w.heap.size,0,none⟩) n n) (w.alloc (.cells (strsV (List.replicate n ⟨#[]⟩)).toArray 55)):=by
 rw [run_make_row' (P:=Tryz.prog) 34 55 (.string ⟨#[]⟩) 16 Tryz.underlying34 info_ratt rfl .i64 .i64 n (by omega) (by omega) w,str_made]
def txtQ (q:Rat):ByteArray:=⟨(textQ q).toArray⟩
def TxtsP (qs:List Rat) (w:World) (e:Ending) (w':World):Prop:=Below w.heap.size w w'∧((∀ q∈qs,Fits q)→∃ A n c,e=.returned (.tuple #[.slice A n c,.bool true])∧RdStr w' w'.heap.size A n (qs.map txtQ)∧n≤c∧c≤maxLen)∧(¬(∀ q∈qs,Fits q)→e=.returned (.tuple #[.slice none 0 0,.bool false]))
theorem texts_any (A:Option Addr) (n c:Nat) (qs:List Rat) (w:World) (hR:RdQ w w.heap.size A n qs) (hn:n≤1000000) (ht:TabOk w) :
    Calls Tryz.prog 88 #[.slice A n c] w (TxtsP qs w):=by
 have HR:=lH hR;have HL:=lH hR.len;have HNN:=lH hn;have HT:=lH ht;clear hR ht;have hmk:∀ w:World,(Instr.makeSlice 34 (.int .i64 (n:Int)) (.int .i64 (n:Int))).run Tryz.prog w=.ok (.slice (some ⟨w.heap.size,0,none⟩) n n) (w.alloc (.cells (strsV (List.replicate n ⟨#[]⟩)).toArray 55)):=fun w=>make_ratt n hn w;have HK:=lH ((Below.refl w.heap.size w).alloc lR (.cells (strsV (List.replicate n ⟨#[]⟩)).toArray 55));have HG:=lH (Blk.new w 55 (strsV (List.replicate n ⟨#[]⟩)).toArray);go_enter Tryz.func88,Tryz.ntmps88
 go_wp2_with fail
 clear hmk;generalize w.alloc (.cells (strsV (List.replicate n ⟨#[]⟩)).toArray 55)=W at *;generalize hg:w.heap.size=g at *;have HGS:=lH hg;clear hg
 go_loopw [14] (fun v14 wr=>∃ (k:Nat) (ts:List ByteArray),k≤n∧v14=.int .i64 k∧ts.length=n∧Below g w wr∧Blk wr g 55 (strsV ts).toArray∧(∀ (i:Nat) (q:Rat),i<k→qs[i]?=some q→Fits q∧ts[i]?=some (txtQ q))) (fun v14 _=>n-(intOf v14).toNat)
 case atStart=>exact ⟨0,_,by omega,rfl,zO_,HK.o,HG.o,fun i q h=>by omega⟩
 case round=>
  clear HK HG;obtain ⟨k,ts,hk,rfl,hvl,hb,hg,hI⟩:=hrel;have HK:=lH hb;have HG:=lH hg;have HI:=lH hI;have HVL:=lH hvl;clear hb hg hI hvl
  by_cases hlt:k<n
  ·obtain ⟨q,hq⟩:∃ q,qs[k]?=some q:=zX_ (by have:=HL.o;omega)
   obtain ⟨b,o,hA,hb⟩:=(HR.o.below HK.o (by have:=HGS.o;omega)).form (by omega);subst hA;obtain ⟨v,c0,c1,c2,c3,hV⟩:=(HR.o.below HK.o (by have:=HGS.o;omega)).at_ hq;have HQ:=lH hq;have HV:=lH hV;have hkI:(k:Int)<(n:Int):=by omega
   have HN1:=lN k;have HN2:Hid (n-(k+1)<n-k):=lH (by omega);have hbl:b<wr.heap.size:=by have:=HK.o.size;have:=HGS.o;omega
   clear hq hV
   go_wp2_with fail
   generalize hwa:wr.alloc (.cells #[.bool v.b1,.slice v.A v.n v.c,.bool v.b2,.slice v.A2 v.m v.d] 115)=wa at *;have hb0:Below wr.heap.size wr wa:=by rw [←hwa];exact bA
   clear hwa;refine (rtext_any q v.b1 v.A v.n v.c v.b2 v.A2 v.m v.d wa ((RtIs.below HV.o hb0 (by have:=HGS.o;have:=HG.o.lt;omega)).more (by have:=hb0.size;have:=HGS.o;have:=HG.o.lt;omega)) (HT.o.up (by rw [HGS.o];exact HK.o.trans (hb0.mono (zQ_ HG.o.lt))))).mono ?_;clear c0 c1 c2 c3;rintro e w1 ⟨hb1,s,rfl,hs⟩;have hb2:=hb0.tm hb1;have HK1:=lH (HK.o.trans (hb2.mono (zQ_ HG.o.lt)));have HG1:=lH (HG.o.bl hb2);have HS:=lH hs;clear hb0 hb1 hb2 hs HK HG;have hgf:=HG1.o.frozen;have hgl:=HG1.o.lt;obtain ⟨y,hy⟩:∃ y,ts[k]?=some y:=zX_ (by have:=HVL.o;omega);have hgc:w1.cell? ⟨g,k,none⟩=some (.string y):=by rw [HG1.o.cell k];unfold strsV;simp [hy]
   clear hy
   by_cases hf:Fits q
   ·have HF:=lH hf
    rw [decide_eq_true hf];clear hf
    go_wp2_with fail
    go_roundw
    case rel=>exact ⟨k+1,ts.set k s,hlt,val_int HN1.o,by rw [zU_];exact HVL.o,HK1.o.setCell lR _,HG1.o.set_at _ (by unfold strsV;rw [List.map_set];simp),fun i q' hi hq'=>by
     by_cases hik:i=k
     ·subst hik
      rw [HQ.o] at hq';injection hq' with hq';subst hq';refine ⟨HF.o,?_⟩;rw [List.getElem?_set_self (by have:=HVL.o;omega),HS.o HF.o];rfl
     ·rw [List.getElem?_set_ne (by omega)]
      exact HI.o i q' (by omega) hq'⟩
    case measure=>exact HN2.o
   ·have HF:=lH hf
    rw [decide_eq_false hf];clear hf
    go_wp2_with fail
    go_ret2;exact ⟨by rw [HGS.o];exact HK1.o,fun h=>absurd (h q (zC_ HQ.o)) HF.o,fun _=>rfl⟩
  ·have hke:k=n:=by omega
   subst hke;have hkI:¬(k:Int)<(k:Int):=by omega
   go_wp2_with fail
   go_ret2;have hts:ts=qs.map txtQ:=by
    apply List.ext_getElem?;intro i
    by_cases hi:i<k
    ·obtain ⟨q,hq⟩:∃ q,qs[i]?=some q:=zX_ (by have:=HL.o;omega)
     rw [(HI.o i q hi hq).2,zM_,hq];rfl
    ·rw [List.getElem?_eq_none (by have:=HVL.o;omega),List.getElem?_eq_none (by rw [zG_,HL.o];omega)]
   have hfit:∀ q∈qs,Fits q:=fun q hq=>by
    obtain ⟨i,hi⟩:=List.getElem?_of_mem hq;exact (HI.o i q (by have:=(zB_.1 hi).1;have:=HL.o;omega) hi).1
   exact ⟨by rw [HGS.o];exact HK.o,fun _=>⟨_,_,_,rfl,by rw [←hts];have h:=rdStr_lit HG.o HG.o.lt;rw [HVL.o] at h;exact h,lR,by have:=HNN.o;unfold maxLen;omega⟩,fun h=>absurd hfit h⟩
end
section
open Go.ChangeShapes Go.WideShapes Go.ChangeAt Go.RowKit Go.Joins
def NoI (u:Value):Prop:=∀ k x,u≠.int k x
theorem RtV.keeps {w w':World} {base e:Nat} {q:Rat} {v:Rv} (h:RtV w w.heap.size q v) (k:Keeps NoI base e w w'):RtV w' w'.heap.size q v:=by
 have key:∀ {A:Option Addr} {n:Nat} {l:List Nat},RdW w w.heap.size A n l→RdW w' w'.heap.size A n l:=fun h=>⟨h.1,fun hn=>by
  obtain ⟨b,off,e,hlt,hc⟩:=h.2 hn;refine ⟨b,off,e,zJ_ hlt k.size,fun j u hu=>k.cell _ _ (hc j u hu) ?_⟩;obtain ⟨x,rfl⟩:=u32_int hu;exact fun hno=>hno _ _ rfl⟩
 exact ⟨⟨h.num.eb,h.num.en,key h.num.rd,h.num.nc,h.num.cm⟩,⟨h.den.eb,h.den.en,key h.den.rd,h.den.nc,h.den.cm⟩⟩
structure OwnQ (w:World) (base:Nat) (v:Value) (vs:List Rv) (qs:List Rat):Prop where
 own:OwnS NoI w base 115 4 v vs.length (rvs vs)
 len:vs.length=qs.length
 ok:RvOk w vs qs
theorem OwnQ.keep {w w':World} {base:Nat} {v:Value} {vs:List Rv} {qs:List Rat} (h:OwnQ w base v vs qs) (hb:Below w.heap.size w w'):OwnQ w' base v vs qs:=⟨h.own.keep hb,h.len,h.ok.up hb⟩
theorem ownQ_none (w:World) (base:Nat):OwnQ w base (.slice none 0 0) [] []:=⟨ownS_none _ _ _ _ _,rfl,fun i q v h=>by simp at h⟩
theorem rv_noI (v:Rv):∀ u∈v.cells,u.oneCell'=true∧NoI u:=fun u hu=>by
 simp [Rv.cells] at hu;rcases hu with rfl | rfl | rfl | rfl<;>exact ⟨rfl,fun k x h=>by cases h⟩
theorem OwnQ.app {w w':World} {base:Nat} {v v':Value} {vs:List Rv} {qs:List Rat} {u:Rv} {q:Rat} (h:OwnQ w base v vs qs) (hq:RtV w w.heap.size q u) (h2:OwnS NoI w' base 115 4 v' (vs.length+1) (rvs vs++u.cells)) (hk:Keeps NoI base 115 w w'):OwnQ w' base v' (vs++[u]) (qs++[q]):=by
 refine ⟨by rw [zE_,List.length_singleton];simpa [rvs] using h2,by rw [zE_,zE_,h.len];rfl,fun i p x hp hx=>?_⟩
 by_cases hi:i<qs.length
 ·rw [zR_ hi] at hp
  rw [zR_ (by rw [h.len];exact hi)] at hx;exact (h.ok i p x hp hx).keeps hk
 ·rw [zN_ (by omega)] at hp
  rw [zN_ (by rw [h.len];omega),h.len] at hx;have hi2:=(zB_.1 hp).1;rw [List.length_singleton] at hi2;have:i-qs.length=0:=by omega
  rw [this] at hp hx;simp at hp hx;subst hp;subst hx;exact RtV.keeps hq hk
theorem OwnQ.rd {w:World} {base:Nat} {v:Value} {vs:List Rv} {qs:List Rat} (h:OwnQ w base v vs qs):∃ A c,v=.slice A qs.length c∧RdQ w w.heap.size A qs.length qs∧qs.length≤c∧c≤maxLen∧(0<qs.length→∃ b off,A=some ⟨b,off,none⟩∧base≤b):=by
 obtain ⟨A,c,hv,hr,h1,h2,h3⟩:=own_rd h.own.own;rw [h.len] at hv hr h1 h3;exact ⟨A,c,hv,⟨vs,h.len,rfl,hr,h.ok⟩,h1,h2,h3⟩
theorem rat_parts:∃ i,Tryz.prog.info? 115=some i∧i.zero=some (.agg #[.bool false,.slice none 0 0,.bool false,.slice none 0 0])∧i.size=4∧i.bytes=64:=info_parts info_rat
theorem zr_noI:∀ u∈(Value.agg #[.bool false,.slice none 0 0,.bool false,.slice none 0 0]).cells.toList,NoI u:=fun u hu=>by
 have hu':u∈[Value.bool false,.slice none 0 0,.bool false,.slice none 0 0]:=hu;simp only [List.mem_cons,List.not_mem_nil,or_false] at hu';rcases hu' with rfl | rfl | rfl | rfl<;>exact fun k x h=>by cases h
end
section
open Go.ChangeShapes Go.WideShapes Go.ChangeAt Go.RowKit
attribute [local go_sem ↓] execOp_call_val
attribute [local go_sem] callVal_func setCell_drewN alloc_drewN sEq_walk
def TvP (qs:List Rat) (w:World) (e:Ending) (w':World):Prop:=Below w.heap.size w w'∧((∀ q∈qs,Fits q)→∃ A n c,e=.returned (.tuple #[.slice A n c,.int .i64 0])∧RdStr w' w'.heap.size A n (qs.map txtQ)∧n≤c∧c≤maxLen)∧(¬(∀ q∈qs,Fits q)→e=.returned (.tuple #[.slice none 0 0,.int .i64 2]))
theorem textvec_any (A:Option Addr) (n c:Nat) (qs:List Rat) (w:World) (hR:RdQ w w.heap.size A n qs) (hn:n≤1000000) (ht:TabOk w) :
    Calls Tryz.prog 49 #[.slice A n c] w (TvP qs w):=by
 have HC:=lH (texts_any A n c qs w hR hn ht);clear hR ht;go_enter Tryz.func49,Tryz.ntmps49
 go_wp2_with fail
 refine HC.o.mono ?_;rintro e w1 ⟨hb,h1,h2⟩;have HB:=lH hb
 by_cases hf:∀ q∈qs,Fits q
 ·obtain ⟨C,m,d,rfl,h3,h4,h5⟩:=h1 hf
  have H3:=lH h3;have HF:=lH hf;clear hf h1 h2 h3 hb HC
  go_wp2_with fail
  go_ret2;exact ⟨HB.o,fun _=>⟨_,_,_,rfl,H3.o,h4,h5⟩,fun h=>absurd HF.o h⟩
 ·have he:=h2 hf
  subst he;have HF:=lH hf;clear hf h1 h2 hb HC
  go_wp2_with fail
  go_ret2;exact ⟨HB.o,fun h=>absurd h HF.o,fun _=>rfl⟩
def RnP (q:Rat) (w:World) (e:Ending) (w':World):Prop:=Below w.heap.size w w'∧(Fits q→e=.returned (.tuple #[.string (txtQ q),.int .i64 0]))∧(¬Fits q→e=.returned (.tuple #[.string ⟨#[]⟩,.int .i64 2]))
theorem dlen_ndg {n K:Nat} (h:ndg n≤K):dlen n≤K:=by
 refine dlen_le (zJ_ (lt_ndg n) ?_);refine zI_ (pow_mono10 h) ?_;unfold BB;exact Nat.pow_le_pow_left (by decide) _
theorem dlen_dec {n:Nat} (h:ndg n≤2000):dlen n≤2000:=dlen_ndg h
theorem fits_qsz {q:Rat} (h:Fits q):qsz q≤2000:=Nat.max_le.2 ⟨dlen_dec h.1,dlen_dec h.2⟩
theorem valid_fits {s:ByteArray} (h:ratCk s.data.toList=0):Fits (qOf s):=(valid_parse h).2.2.2.1
def OpP (f:Rat→Rat→Rat) (a b:ByteArray) (w:World) (e:Ending) (w':World):Prop:=Below w.heap.size w w'∧(ckAllR [a,b]≠0→e=.returned (.tuple #[.string ⟨#[]⟩,.int .i64 (ckAllR [a,b])]))∧(ckAllR [a,b]=0→RnP (f (qOf a) (qOf b)) w e w')
theorem data_list (s:ByteArray):(⟨s.data.toList.toArray⟩:ByteArray)=s:=by cases s;simp
theorem parse_str {s:ByteArray} (h:ratCk s.data.toList=0) (w:World):Calls Tryz.prog 67 #[.string s] w (RtP (qOf s) w):=by
 have:=parse_any s.data.toList h w;rwa [data_list] at this
def rnS (q:Rat):ByteArray:=if Fits q then txtQ q else ⟨#[]⟩
def rnE (q:Rat):Int:=if Fits q then 0 else 2
theorem RnP.out {q:Rat} {w w':World} {e:Ending} (h:RnP q w e w'):e=.returned (.tuple #[.string (rnS q),.int .i64 (rnE q)])∧Below w.heap.size w w':=by
 obtain ⟨hb,h1,h2⟩:=h;unfold rnS rnE
 by_cases hf:Fits q
 ·rw [if_pos hf,if_pos hf];exact ⟨h1 hf,hb⟩
 ·rw [if_neg hf,if_neg hf];exact ⟨h2 hf,hb⟩
def opS (f:Rat→Rat→Rat) (a b:ByteArray):ByteArray:=if ckAllR [a,b]=0 then rnS (f (qOf a) (qOf b)) else ⟨#[]⟩
def opE (f:Rat→Rat→Rat) (a b:ByteArray):Int:=if ckAllR [a,b]=0 then rnE (f (qOf a) (qOf b)) else ckAllR [a,b]
theorem OpP.out {f:Rat→Rat→Rat} {a b:ByteArray} {w w':World} {e:Ending} (h:OpP f a b w e w'):e=.returned (.tuple #[.string (opS f a b),.int .i64 (opE f a b)])∧Below w.heap.size w w':=by
 obtain ⟨hb,h1,h2⟩:=h;unfold opS opE
 by_cases hf:ckAllR [a,b]=0
 ·rw [if_pos hf,if_pos hf];exact (h2 hf).out
 ·rw [if_neg hf,if_neg hf];exact ⟨h1 hf,hb⟩
end
section
open Go.ChangeShapes Go.WideShapes Go.ChangeAt Go.RowKit
structure Hd where
 A:Option Addr
 n:Nat
 c:Nat
def Hd.val (h:Hd):Value:=.slice h.A h.n h.c
def Hd.cells (h:Hd):List Value:=[h.val]
theorem Hd.len (h:Hd):h.cells.length=1:=rfl
def RdM (w:World) (B:Nat) (A:Option Addr) (n:Nat) (M:List (List Rat)):Prop:=∃ hs:List Hd,hs.length=n∧M.length=n∧Rd w B 1 A n (hs.map Hd.val)∧∀ (i:Nat) (h:Hd) (q:List Rat),hs[i]?=some h→M[i]?=some q→RdQ w B h.A h.n q∧h.n≤h.c∧h.c≤maxLen
section
variable {w w':World} {B B' n:Nat} {A:Option Addr} {M:List (List Rat)}
theorem RdM.below (h:RdM w B A n M) (hb:Below B' w w') (hB:B≤B'):RdM w' B A n M:=by
 obtain ⟨hs,h1,h2,h3,h4⟩:=h;exact ⟨hs,h1,h2,h3.below hb hB,fun i h q hq hv=>⟨(h4 i h q hq hv).1.below hb hB,(h4 i h q hq hv).2⟩⟩
theorem RdM.more (h:RdM w B A n M) (hB:B≤B'):RdM w B' A n M:=by
 obtain ⟨hs,h1,h2,h3,h4⟩:=h;exact ⟨hs,h1,h2,h3.more hB,fun i h q hq hv=>⟨(h4 i h q hq hv).1.more hB,(h4 i h q hq hv).2⟩⟩
theorem RdM.up (h:RdM w w.heap.size A n M) (hb:Below w.heap.size w w'):RdM w' w'.heap.size A n M:=(h.below hb lR).more hb.size
theorem RdM.len (h:RdM w B A n M):M.length=n:=by obtain ⟨_,_,h,_⟩:=h;exact h
theorem RdM.form (h:RdM w B A n M) (h0:0<n):∃ b off,A=some ⟨b,off,none⟩∧b<B:=by
 obtain ⟨hs,_,_,h3,_⟩:=h;obtain ⟨b,off,e,hlt,_⟩:=h3.2 h0;exact ⟨b,off,e,hlt⟩
theorem RdM.at_ {b off i:Nat} {q:List Rat} (h:RdM w B (some ⟨b,off,none⟩) n M) (hq:M[i]?=some q):∃ h:Hd,w.cell? ⟨b,off+i,none⟩=some (.slice h.A h.n h.c)∧RdQ w B h.A h.n q∧h.n≤h.c∧h.c≤maxLen:=by
 obtain ⟨hs,h1,h2,h3,h4⟩:=h;have hi:=(zB_.1 hq).1;obtain ⟨v,hv⟩:∃ v,hs[i]?=some v:=zX_ (by omega);obtain ⟨b',off',e,_,hc⟩:=h3.2 (by omega);injection e with e;injection e with e1 e2;subst e1;subst e2;exact ⟨v,hc i _ (by rw [zM_,hv];rfl),h4 i v q hv hq⟩
theorem RdM.take {m:Nat} (h:RdM w B A n M) (hm:m≤n):RdM w B A m (M.take m):=by
 obtain ⟨hs,h1,h2,h3,h4⟩:=h;refine ⟨hs.take m,by rw [zF_,h1];omega,by rw [zF_,h2];omega,⟨by simp;omega,fun h0=>?_⟩,fun j h q hh hq=>?_⟩
 ·obtain ⟨b',off',e,hlt,hc⟩:=h3.2 (by omega)
  refine ⟨b',off',e,hlt,fun j u hu=>hc j u ?_⟩;rw [List.map_take] at hu;have hj:=(zB_.1 hu).1;rw [zF_] at hj;rwa [List.getElem?_take_of_lt (by omega)] at hu
 ·have hj:=(zB_.1 hh).1
  rw [zF_] at hj;rw [List.getElem?_take_of_lt (by omega)] at hh hq;exact h4 _ _ _ hh hq
end
structure Mh where
 A:Option Addr
 g:Nat
 c:Nat
 vs:List Rv
def Mh.hd (h:Mh):Value:=.slice h.A h.vs.length h.c
structure MRow (w:World) (base g:Nat) (h:Mh) (q:List Rat):Prop where
 len:h.vs.length=q.length
 cap:h.vs.length≤h.c
 cm:h.c≤maxLen
 ok:RvOk w h.vs q
 lies:0<q.length→h.A=some ⟨h.g,0,none⟩∧base≤h.g∧h.g≠g∧∃ cs,Blk w h.g 115 cs∧cs.toList.take (q.length*4)=rvs h.vs
theorem Blk.row_cell {w:World} {g t i m:Nat} {cs:Array Value} {vs:List Rv} {v:Rv} (h:Blk w g t cs) (ht:cs.toList.take m=rvs vs) (hv:vs[i]?=some v):w.cell? ⟨g,i*4,none⟩=some (.bool v.b1)∧w.cell? ⟨g,i*4+1,none⟩=some (.slice v.A v.n v.c)∧w.cell? ⟨g,i*4+2,none⟩=some (.bool v.b2)∧w.cell? ⟨g,i*4+3,none⟩=some (.slice v.A2 v.m v.d):=by
 have hk:=fun k (hk:k<4)=>rvs_at hv k hk;have key:∀ k,k<4→∀ u,v.cells[k]?=some u→w.cell? ⟨g,i*4+k,none⟩=some u:=fun k h4 u hu=>by
  rw [h.cell];have h1:=hk k h4;rw [hu,←ht] at h1;have h2:=(zB_.1 h1).1;rw [zF_] at h2;rw [List.getElem?_take_of_lt (by omega)] at h1;simpa using h1
 exact ⟨key 0 (by decide) _ rfl,key 1 (by decide) _ rfl,key 2 (by decide) _ rfl,key 3 (by decide) _ rfl⟩
theorem RtV.keep4 {w:World} {q:Rat} {u:Rv} (h:RtV w w.heap.size q u) {g t i m:Nat} {cs:Array Value} {vs:List Rv} {x:Rv} (v:Rv) (hb:Blk w g t cs) (ht:cs.toList.take m=rvs vs) (hx:vs[i]?=some x):RtV (putV w g i v) (putV w g i v).heap.size q u:=by
 obtain ⟨c0,c1,c2,c3⟩:=hb.row_cell ht hx;have ne:∀ (a b:Nat),a≠b→(⟨g,a,none⟩:Addr)≠⟨g,b,none⟩:=fun a b h e=>h (by injection e);have off:∀ (w:World) (a b:Nat) (u v:Value),a≠b→w.cell? ⟨g,b,none⟩=some v→(w.setCell ⟨g,a,none⟩ u).cell? ⟨g,b,none⟩=some v:=fun w a b u v hab hv=>by
  rw [World.cell?_setCell_other _ _ _ _ (ne a b hab)];exact hv
 have h':RtIs w w.heap.size q u.b1 u.A u.n u.c u.b2 u.A2 u.m u.d:=h;exact (((h'.keep c0 (by simp) _).keep (off _ _ _ _ _ (by omega) c1) (by simp) _).keep (off _ _ _ _ _ (by omega) (off _ _ _ _ _ (by omega) c2)) (by simp) _).keep (off _ _ _ _ _ (by omega) (off _ _ _ _ _ (by omega) (off _ _ _ _ _ (by omega) c3))) (by simp) _
theorem Blk.far4 {w:World} {g g' t i:Nat} {cs:Array Value} (v:Rv) (h:Blk w g' t cs) (hg:g'≠g):Blk (putV w g i v) g' t cs:=(((h.far hg _).far hg _).far hg _).far hg _
theorem putV_size (w:World) (g i:Nat) (v:Rv):(putV w g i v).heap.size=w.heap.size:=by simp [putV]
theorem take_set {α:Type} (l:List α) (m k:Nat) (u:α) (hk:k<m):(l.set k u).take m=(l.take m).set k u:=by
 apply List.ext_getElem?;intro j
 by_cases hj:j<m
 ·rw [List.getElem?_take_of_lt hj,List.getElem?_set,List.getElem?_set,List.getElem?_take_of_lt hj,zF_]
  by_cases h1:k=j
  ·subst h1
   rw [if_pos rfl,if_pos rfl]
   split<;>split<;>first | rfl | omega
  ·simp [h1]
 ·rw [List.getElem?_eq_none (by simp;omega),List.getElem?_eq_none (by simp;omega)]
theorem Blk.row_put {w:World} {g t i n:Nat} {cs:Array Value} {vs:List Rv} (v:Rv) (h:Blk w g t cs) (ht:cs.toList.take (n*4)=rvs vs) (hn:vs.length=n) (hi:i<n):∃ cs',Blk (putV w g i v) g t cs'∧cs'.toList.take (n*4)=rvs (vs.set i v):=by
 refine ⟨_,(((h.set_ (i*4) (.bool v.b1)).set_ (i*4+1) (.slice v.A v.n v.c)).set_ (i*4+2) (.bool v.b2)).set_ (i*4+3) (.slice v.A2 v.m v.d),?_⟩;rw [←rvs_set vs i v (by omega),←ht];simp only [Array.toList_setIfInBounds];rw [take_set _ _ _ _ (by omega),take_set _ _ _ _ (by omega),take_set _ _ _ _ (by omega),take_set _ _ _ _ (by omega)]
section
variable {w w':World} {base g:Nat} {h:Mh} {q:List Rat}
theorem MRow.up (r:MRow w base g h q) (hb:Below w.heap.size w w'):MRow w' base g h q:=
 ⟨r.len,r.cap,r.cm,r.ok.up hb,fun h0=>by
  obtain ⟨h1,h2,h3,cs,h4,h5⟩:=r.lies h0;exact ⟨h1,h2,h3,cs,h4.bl hb,h5⟩⟩
theorem mrow_nil (w:World) (base g g':Nat) (A:Option Addr) (c:Nat) (hc:c≤maxLen):MRow w base g ⟨A,g',c,[]⟩ []:=
 ⟨rfl,Nat.zero_le _,hc,fun i q v h=>by simp at h,fun h=>by simp at h⟩
theorem MRow.rd (r:MRow w base g h q):RdQ w w.heap.size h.A q.length q:=by
 refine ⟨h.vs,r.len,rfl,⟨by rw [rvs_len,r.len],fun h0=>?_⟩,r.ok⟩;obtain ⟨h1,h2,h3,cs,h4,h5⟩:=r.lies h0;refine ⟨h.g,0,h1,h4.lt,fun j u hu=>?_⟩;rw [Nat.zero_add,h4.cell j];rw [←h5] at hu;have hj:=(zB_.1 hu).1;rw [zF_] at hj;rw [List.getElem?_take_of_lt (by omega)] at hu;simpa using hu
end
structure OwnM (w:World) (base g:Nat) (hs:List Mh) (M:List (List Rat)):Prop where
 top:Blk w g 93 (hs.map Mh.hd).toArray
 len:hs.length=M.length
 gb:base≤g
 row:∀ (i:Nat) (h:Mh) (q:List Rat),hs[i]?=some h→M[i]?=some q→MRow w base g h q
 dis:∀ (i j:Nat) (h h':Mh),i≠j→hs[i]?=some h→hs[j]?=some h'→0<h.vs.length→0<h'.vs.length→h.g≠h'.g
section
variable {w w':World} {base g:Nat} {hs:List Mh} {M:List (List Rat)}
theorem OwnM.up (o:OwnM w base g hs M) (hb:Below w.heap.size w w'):OwnM w' base g hs M:=
 ⟨o.top.bl hb,o.len,o.gb,fun i h q hh hq=>(o.row i h q hh hq).up hb,o.dis⟩
theorem OwnM.get (o:OwnM w base g hs M) {i:Nat} {q:List Rat} (hq:M[i]?=some q):∃ h,hs[i]?=some h∧w.cell? ⟨g,i,none⟩=some (.slice h.A q.length h.c)∧MRow w base g h q:=by
 obtain ⟨h,hh⟩:∃ h,hs[i]?=some h:=zX_ (by rw [o.len];exact (zB_.1 hq).1);have hr:=o.row i h q hh hq;refine ⟨h,hh,?_,hr⟩;rw [o.top.cell,List.getElem?_toArray,zM_,hh,←hr.len];rfl
theorem OwnM.rd (o:OwnM w base g hs M):RdM w w.heap.size (some ⟨g,0,none⟩) M.length M:=by
 refine ⟨hs.map fun h=>⟨h.A,h.vs.length,h.c⟩,by rw [zG_,o.len],rfl,⟨by simp [o.len],fun _=>⟨g,0,rfl,o.top.lt,fun j u hu=>?_⟩⟩,fun i h q hh hq=>?_⟩
 ·rw [Nat.zero_add,o.top.cell j,List.getElem?_toArray]
  rw [List.map_map] at hu;exact hu
 ·rw [zM_] at hh
  obtain ⟨h',hh',rfl⟩:=Option.map_eq_some_iff.1 hh;have hr:=o.row i h' q hh' hq;refine ⟨?_,hr.cap,hr.cm⟩;have:=hr.rd;rw [←hr.len] at this;exact this
theorem OwnM.put (o:OwnM w base g hs M) {i j:Nat} {h:Mh} {q:List Rat} {v:Rv} {x:Rat} (hh:hs[i]?=some h) (hq:M[i]?=some q) (hj:j<q.length) (hv:RtV w w.heap.size x v) :
    OwnM (putV w h.g j v) base g (hs.set i ⟨h.A,h.g,h.c,h.vs.set j v⟩) (M.set i (q.set j x)):=by
 have hr:=o.row i h q hh hq;obtain ⟨h1,h2,h3,cs,h4,h5⟩:=hr.lies (by omega);obtain ⟨y,hy⟩:∃ y,h.vs[j]?=some y:=zX_ (by rw [hr.len];exact hj);have hil:=(zB_.1 hh).1;have hok:∀ {us:List Rv} {ps:List Rat},RvOk w us ps→RvOk (putV w h.g j v) us ps:=fun H k p u hp hu=>RtV.keep4 (H k p u hp hu) v h4 h5 hy;refine ⟨?_,by rw [zU_,zU_,o.len],o.gb,fun k h' q' hk hkq=>?_,fun a b ha hb hab hga hgb l1 l2=>?_⟩
 ·have e:(hs.set i ⟨h.A,h.g,h.c,h.vs.set j v⟩).map Mh.hd=hs.map Mh.hd:=by
   rw [List.map_set];apply List.ext_getElem?;intro k;rw [List.getElem?_set]
   by_cases hk:i=k
   ·subst hk
    rw [zG_,zM_,hh];simp [hil,Mh.hd]
   ·rw [if_neg hk]
  rw [e];exact o.top.far4 v (fun e=>h3 e.symm)
 ·rw [List.getElem?_set] at hk hkq
  by_cases hik:i=k
  ·subst hik
   rw [if_pos rfl,if_pos hil] at hk;rw [if_pos rfl,if_pos (by rw [←o.len];exact hil)] at hkq;injection hk with hk;injection hkq with hkq;subst hk;subst hkq;obtain ⟨cs',k1,k2⟩:=h4.row_put v h5 hr.len hj;refine ⟨by simp [hr.len],by simpa using hr.cap,hr.cm,fun a p u hp hu=>?_,fun _=>⟨h1,h2,h3,cs',k1,by rw [zU_];exact k2⟩⟩;simp only at hu;rw [List.getElem?_set] at hp hu
   by_cases hja:j=a
   ·subst hja
    rw [if_pos rfl,if_pos hj] at hp;rw [if_pos rfl,if_pos (by rw [hr.len];exact hj)] at hu;injection hp with hp;injection hu with hu;subst hp;subst hu;exact RtV.keep4 hv v h4 h5 hy
   ·rw [if_neg hja] at hp hu
    exact hok hr.ok a p u hp hu
  ·rw [if_neg hik] at hk hkq
   have hr':=o.row k h' q' hk hkq;refine ⟨hr'.len,hr'.cap,hr'.cm,hok hr'.ok,fun h0=>?_⟩;obtain ⟨a1,a2,a3,cs',a4,a5⟩:=hr'.lies h0;exact ⟨a1,a2,a3,cs',a4.far4 v (o.dis k i h' h (fun e=>hik e.symm) hk hh (by rw [hr'.len];exact h0) (by rw [hr.len];omega)),a5⟩
 ·rw [List.getElem?_set] at hga hgb
  have key:∀ (k:Nat) (z:Mh),(if i=k then (if i<hs.length then some (⟨h.A,h.g,h.c,h.vs.set j v⟩:Mh) else none) else hs[k]?)=some z→∃ z',hs[k]?=some z'∧z'.g=z.g∧z'.vs.length=z.vs.length:=fun k z hz=>by
   by_cases hik:i=k
   ·subst hik
    rw [if_pos rfl,if_pos hil] at hz;injection hz with hz;subst hz;exact ⟨h,hh,rfl,by simp⟩
   ·rw [if_neg hik] at hz
    exact ⟨z,hz,rfl,rfl⟩
  obtain ⟨z1,k1,k2,k3⟩:=key a ha hga;obtain ⟨z2,k4,k5,k6⟩:=key b hb hgb;rw [←k2,←k5];exact o.dis a b z1 z2 hab k1 k4 (by omega) (by omega)
theorem OwnM.setRow (o:OwnM w base g hs M) {i:Nat} {h:Mh} {q:List Rat} (hi:i<M.length) (hr:MRow w base g h q) (hd:∀ (j:Nat) (h':Mh),j≠i→hs[j]?=some h'→0<h'.vs.length→0<h.vs.length→h'.g≠h.g) :
    OwnM (w.setCell ⟨g,i,none⟩ (.slice h.A q.length h.c)) base g (hs.set i h) (M.set i q):=by
 have hil:i<hs.length:=by rw [o.len];exact hi
 have hok:∀ {us:List Rv} {ps:List Rat} (u:Value),RvOk w us ps→RvOk (w.setCell ⟨g,i,none⟩ u) us ps:=fun u H k p v hp hv=>by
  have h0:RtIs w w.heap.size p v.b1 v.A v.n v.c v.b2 v.A2 v.m v.d:=H k p v hp hv;refine RtIs.keep h0 (v:=(hs.map Mh.hd)[i]'(by simpa using hil)) ?_ (fun a b e=>?_) u
  ·rw [o.top.cell];simp [hil]
  ·simp [Mh.hd] at e
 have hrow:∀ {h:Mh} {q:List Rat} (u:Value),MRow w base g h q→MRow (w.setCell ⟨g,i,none⟩ u) base g h q:=fun u r=>
  ⟨r.len,r.cap,r.cm,hok u r.ok,fun h0=>by
   obtain ⟨h1,h2,h3,cs,h4,h5⟩:=r.lies h0;exact ⟨h1,h2,h3,cs,h4.far h3 u,h5⟩⟩
 refine ⟨?_,by rw [zU_,zU_,o.len],o.gb,fun k h' q' hk hkq=>?_,fun a b ha hb hab hga hgb l1 l2=>?_⟩
 ·have:=o.top.set_ i (.slice h.A q.length h.c)
  rw [List.map_set];rw [←hr.len] at this ⊢;simpa [Mh.hd] using this
 ·rw [List.getElem?_set] at hk hkq
  by_cases hik:i=k
  ·subst hik
   rw [if_pos rfl,if_pos hil] at hk;rw [if_pos rfl,if_pos hi] at hkq;injection hk with hk;injection hkq with hkq;subst hk;subst hkq;exact hrow _ hr
  ·rw [if_neg hik] at hk hkq
   exact hrow _ (o.row k h' q' hk hkq)
 ·rw [List.getElem?_set] at hga hgb
  by_cases hia:i=a
  ·subst hia
   rw [if_pos rfl,if_pos hil] at hga;injection hga with hga;subst hga;rw [if_neg hab] at hgb;exact fun e=>hd b hb (fun e=>hab e.symm) hgb l2 l1 e.symm
  ·rw [if_neg hia] at hga
   by_cases hib:i=b
   ·subst hib
    rw [if_pos rfl,if_pos hil] at hgb;injection hgb with hgb;subst hgb;exact hd a ha (fun e=>hia e.symm) hga l1 l2
   ·rw [if_neg hib] at hgb
    exact o.dis a b ha hb hab hga hgb l1 l2
theorem OwnM.swap (o:OwnM w base g hs M) {r p:Nat} {a b:List Rat} {ha hb:Mh} (h1:hs[r]?=some ha) (h2:hs[p]?=some hb) (h3:M[r]?=some a) (h4:M[p]?=some b) :
    OwnM ((w.setCell ⟨g,r,none⟩ (.slice hb.A b.length hb.c)).setCell ⟨g,p,none⟩ (.slice ha.A a.length ha.c)) base g ((hs.set r hb).set p ha) ((M.set r b).set p a):=by
 have hrl:=(zB_.1 h1).1;have hpl:=(zB_.1 h2).1;have ra:=o.row r ha a h1 h3;have rb:=o.row p hb b h2 h4;have hok:∀ {w:World} {cs:Array Value} {us:List Rv} {ps:List Rat} {i:Nat} {x:Value} (u:Value),Blk w g 93 cs→cs[i]?=some x→(∀ k y,x≠.int k y)→RvOk w us ps→RvOk (w.setCell ⟨g,i,none⟩ u) us ps:=fun {w cs us ps i x} u hb hc hx H k p v hp hv=>by
  have h0:RtIs w w.heap.size p v.b1 v.A v.n v.c v.b2 v.A2 v.m v.d:=H k p v hp hv;refine RtIs.keep h0 (v:=x) ?_ hx u;rw [hb.cell];exact hc
 have hB1:=o.top.set_ r (.slice hb.A b.length hb.c);have hd1:∀ (i:Nat) (z:Mh),hs[i]?=some z→(hs.map Mh.hd).toArray[i]?=some z.hd:=fun i z hz=>by rw [List.getElem?_toArray,zM_,hz];rfl
 have hrow:∀ {h:Mh} {q:List Rat},MRow w base g h q→MRow ((w.setCell ⟨g,r,none⟩ (.slice hb.A b.length hb.c)).setCell ⟨g,p,none⟩ (.slice ha.A a.length ha.c)) base g h q:=fun R=>
  ⟨R.len,R.cap,R.cm,by
   have k1:=hok (.slice hb.A b.length hb.c) o.top (hd1 r ha h1) (fun k y e=>by cases e) R.ok
   by_cases hrp:r=p
   ·subst hrp
    exact hok _ hB1 (x:=.slice hb.A b.length hb.c) (by simp [hrl]) (fun k y e=>by cases e) k1
   ·exact hok _ hB1 (x:=hb.hd) (by rw [Array.getElem?_setIfInBounds_ne hrp];exact hd1 p hb h2) (fun k y e=>by cases e) k1,fun h0=>by
   obtain ⟨k1,k2,k3,cs,k4,k5⟩:=R.lies h0;exact ⟨k1,k2,k3,cs,(k4.far k3 _).far k3 _,k5⟩⟩
 have hnew:∀ (i:Nat) (z:Mh),((hs.set r hb).set p ha)[i]?=some z→∃ i' ,hs[i']?=some z∧((i'=i∧i≠r∧i≠p)∨(i=r∧i≠p∧i'=p)∨(i=p∧i'=r))∧∀ q,((M.set r b).set p a)[i]?=some q→M[i']?=some q:=fun i z hz=>by
  rw [List.getElem?_set,List.getElem?_set,zU_] at hz
  by_cases hp:p=i
  ·subst hp
   rw [if_pos rfl,if_pos hpl] at hz;injection hz with hz;subst hz;refine ⟨r,h1,.inr (.inr ⟨rfl,rfl⟩),fun q hq=>?_⟩;rw [List.getElem?_set,if_pos rfl,if_pos (by rw [zU_,←o.len];exact hpl)] at hq;rw [h3];exact hq
  ·rw [if_neg hp] at hz
   by_cases hr:r=i
   ·subst hr
    rw [if_pos rfl,if_pos hrl] at hz;injection hz with hz;subst hz;refine ⟨p,h2,.inr (.inl ⟨rfl,fun e=>hp e.symm,rfl⟩),fun q hq=>?_⟩;rw [List.getElem?_set,if_neg hp,List.getElem?_set,if_pos rfl,if_pos (by rw [←o.len];exact hrl)] at hq;rw [h4];exact hq
   ·rw [if_neg hr] at hz
    refine ⟨i,hz,.inl ⟨rfl,fun e=>hr e.symm,fun e=>hp e.symm⟩,fun q hq=>?_⟩;rw [List.getElem?_set,if_neg hp,List.getElem?_set,if_neg hr] at hq;exact hq
 refine ⟨?_,by simp [o.len],o.gb,fun i z q hz hq=>?_,fun i j z z' hij hz hz' l1 l2=>?_⟩
 ·have:=hB1.set_ p (.slice ha.A a.length ha.c)
  rw [List.map_set,List.map_set];rw [←ra.len,←rb.len] at this ⊢;simpa [Mh.hd] using this
 ·obtain ⟨i',k1,_,k3⟩:=hnew i z hz
  exact hrow (o.row i' z q k1 (k3 q hq))
 ·obtain ⟨i',k1,k2,_⟩:=hnew i z hz
  obtain ⟨j',m1,m2,_⟩:=hnew j z' hz'
  by_cases hne:i'=j'
  ·subst hne
   omega
  ·exact o.dis i' j' z z' hne k1 m1 l1 l2
end
theorem info_row:(Tryz.prog.info? 93).map (fun i=>(i.zero,i.size,i.bytes))=some (some (.slice none 0 0),1,24):=by kernel_rfl
def nilRows (n:Nat):Array Value:=(List.replicate n (Value.slice none 0 0)).toArray
theorem make_rows (n:Nat) (hn:n≤1000000) (w:World):(Instr.makeSlice 92 (.int .i64 (n:Int)) (.int .i64 (n:Int))).run Tryz.prog w=.ok (.slice (some ⟨w.heap.size,0,none⟩) n n) (w.alloc (.cells (nilRows n) 93)):=by
 obtain ⟨i0,hi0,hz0,hz1,hz2⟩:=info_parts info_row;rw [run_make w 92 93 i0 _ Tryz.underlying92 hi0 hz0 .i64 .i64 (n:Int) (n:Int) (by omega) (Int.le_refl _) (by rw [hz2];omega) (by omega),zL_,hz1,Nat.mul_one];rw [show (Value.slice none 0 0).cells=#[Value.slice none 0 0] from rfl];rw [show madeCells #[Value.slice none 0 0] n=(List.replicate n (Value.slice none 0 0)).toArray from by
  apply Array.ext';rw [toList_madeCells_one]]
 rfl
theorem ownM_made {w:World} {g n:Nat} (h:Blk w g 93 (nilRows n)) {base:Nat} (hb:base≤g):OwnM w base g (List.replicate n ⟨none,0,0,[]⟩) (List.replicate n []):=by
 unfold nilRows at h;refine ⟨by rw [List.map_replicate];exact h,by simp,hb,fun i h q hh hq=>?_,fun i j h h' _ hh _ l=>?_⟩
 ·rw [List.getElem?_replicate] at hh hq
  split at hh
  ·rw [if_pos ‹_›] at hq
   injection hh with hh;injection hq with hq;subst hh;subst hq;exact mrow_nil _ _ _ _ _ _ (by simp [maxLen])
  ·cases hh
 ·rw [List.getElem?_replicate] at hh
  split at hh
  ·injection hh with hh
   subst hh;simp at l
  ·cases hh
theorem mrow_own {w w':World} {base g:Nat} {v:Value} {vs:List Rv} {qs:List Rat} (h:OwnQ w base v vs qs) (hg:g<base):∃ h:Mh,v=.slice h.A qs.length h.c∧h.vs=vs∧MRow w base g h qs:=by
 obtain ⟨hl,h1⟩:=h.own;rcases h1 with ⟨h1,h2⟩ | ⟨b,cap,cur,h1,h2,h3,h4,h5,h6,h7,_⟩
 ·have hq:qs=[]:=List.eq_nil_of_length_eq_zero (by rw [←h.len];exact h2)
  have hv:vs=[]:=List.eq_nil_of_length_eq_zero h2;subst hq;subst hv;exact ⟨⟨none,0,0,[]⟩,h1,rfl,mrow_nil _ _ _ _ _ _ (by simp [maxLen])⟩
 ·refine ⟨⟨some ⟨b,0,none⟩,b,cap,vs⟩,by rw [←h.len];exact h1,rfl,h.len,h4,h5,h.ok,fun _=>⟨rfl,h2,by simp only;omega,cur,h3,by rw [←h.len];exact h7⟩⟩
theorem RdM.bm {w w':World} {n:Nat} {A:Option Addr} {l:List (List Rat)} (h:RdM w w.heap.size A n l) (g:Below w.heap.size w w'):RdM w' w'.heap.size A n l:=(h.below g lR).more g.size
end
section
open Go.ChangeShapes Go.WideShapes Go.ChangeAt Go.RowKit
attribute [local go_sem ↓] execOp_call_val
attribute [local go_sem] callVal_func setCell_drewN alloc_drewN sEq_walk
theorem MRow.mono {w:World} {base base' g:Nat} {h:Mh} {q:List Rat} (r:MRow w base g h q) (hb:base'≤base):MRow w base' g h q:=
 ⟨r.len,r.cap,r.cm,r.ok,fun h0=>by
  obtain ⟨h1,h2,h3⟩:=r.lies h0;exact ⟨h1,zI_ hb h2,h3⟩⟩
theorem OwnM.lt {w:World} {base g:Nat} {hs:List Mh} {M:List (List Rat)} (o:OwnM w base g hs M) {j:Nat} {h:Mh} (hh:hs[j]?=some h) (h0:0<h.vs.length):h.g<w.heap.size:=by
 obtain ⟨q,hq⟩:∃ q,M[j]?=some q:=zX_ (by rw [←o.len];exact (zB_.1 hh).1);have r:=o.row j h q hh hq;obtain ⟨_,_,_,cs,hb,_⟩:=r.lies (by rw [←r.len];exact h0);exact hb.lt
theorem fill_set {M:List (List Rat)} {n k:Nat} {q:List Rat} (hn:M.length=n) (hq:M[k]?=some q):(M.take k++List.replicate (n-k) []).set k q=M.take (k+1)++List.replicate (n-(k+1)) []:=by
 have hk:=(zB_.1 hq).1;rw [List.set_append_right _ _ (by rw [zF_];omega),zF_,Nat.min_eq_left (by omega),Nat.sub_self,take_snoc hq];rw [show n-k=(n-(k+1))+1 from by omega,List.replicate_succ];simp
def OutM (M:List (List Rat)) (w:World) (e:Ending) (w':World):Prop:=Below w.heap.size w w'∧∃ g hs,e=.returned (.slice (some ⟨g,0,none⟩) M.length M.length)∧OwnM w' w.heap.size g hs M
theorem rdQ_parts {w:World} {B n:Nat} {A:Option Addr} {q:List Rat} (h:RdQ w B A n q):∃ vs:List Rv,vs.length=n∧q.length=n∧Rd w B 4 A n (rvs vs)∧∀ (i:Nat) (x:Rat) (v:Rv),q[i]?=some x→vs[i]?=some v→RtV w B x v:=h
theorem rvs_noI (vs:List Rv):∀ u∈rvs vs,u.oneCell'=true∧NoI u:=fun u hu=>by
 unfold rvs at hu;obtain ⟨v,_,hv⟩:=List.mem_flatMap.1 hu;exact rv_noI v u hv
theorem copy_m (A:Option Addr) (n c:Nat) (M:List (List Rat)) (w:World) (hR:RdM w w.heap.size A n M) (hn:n≤1000000) (hw:∀ a∈M,a.length≤1000000) :
    Calls Tryz.prog 156 #[.slice A n c] w (OutM M w):=by
 have HR:=lH hR;have HL:=lH hR.len;have HWD:=lH hw;have HNN:=lH hn;obtain ⟨i0,hi0,hz0,hz1,hz2⟩:=rat_parts;have HI0:=lH hi0;have HI1:=lH hz0;have HI2:=lH hz1;have HI3:=lH hz2;clear hR hw hi0 hz0 hz1 hz2;have hmk:∀ w:World,(Instr.makeSlice 92 (.int .i64 (n:Int)) (.int .i64 (n:Int))).run Tryz.prog w=.ok (.slice (some ⟨w.heap.size,0,none⟩) n n) (w.alloc (.cells (nilRows n) 93)):=fun w=>make_rows n hn w;have HK:=lH ((Below.refl w.heap.size w).alloc lR (.cells (nilRows n) 93));have HG:=lH (Blk.new w 93 (nilRows n));go_enter Tryz.func156,Tryz.ntmps156
 go_wp2_with fail
 clear hmk;generalize w.alloc (.cells (nilRows n) 93)=W at *;have HO:=lH (ownM_made HG.o lR);generalize hg:w.heap.size=g at *;have HGS:=lH hg;clear hg HG
 go_loopw [11] (fun v11 wr=>∃ (k:Nat) (hs:List Mh),k≤n∧v11=.int .i64 k∧Below g w wr∧OwnM wr g g hs (M.take k++List.replicate (n-k) [])) (fun v11 _=>n-(intOf v11).toNat)
 case atStart=>exact ⟨0,_,by omega,rfl,HK.o,by rw [List.take_zero,List.nil_append,Nat.sub_zero];exact HO.o⟩
 case round=>
  clear HK HO;obtain ⟨k,hs,hk,rfl,hb,ho⟩:=hrel;have HK:=lH hb;have HO:=lH ho;clear hb ho
  by_cases hlt:k<n
  ·obtain ⟨q,hq⟩:∃ q,M[k]?=some q:=zX_ (by have:=HL.o;omega)
   obtain ⟨b,o,hA,hb⟩:=(HR.o.below HK.o (by have:=HGS.o;omega)).form (by omega);subst hA;obtain ⟨h,hc,hrq,hh1,hh2⟩:=(HR.o.below HK.o (by have:=HGS.o;omega)).at_ hq;have HGL:Hid (g<wr.heap.size):=lH HO.o.top.lt;have HRQ:=lH (hrq.more (B':=wr.heap.size) (by have:=HGS.o;have:=HGL.o;omega));have HQ:=lH hq;have HQW:=lH (HWD.o q (zC_ hq));have HF:=lH (fill_set HL.o hq);have hkI:(k:Int)<(n:Int):=by omega
   have HN1:=lN k;have HN2:Hid (n-(k+1)<n-k):=lH (by omega);have hbl:b<wr.heap.size:=by have:=HK.o.size;have:=HGS.o;omega
   obtain ⟨vs,hv1,hv2,hv3,hv4⟩:=rdQ_parts HRQ.o;obtain ⟨hA0,hn0,hc0⟩:=h;simp only at hc hv1 hv2 hv3 hv4 hh1 hh2;have HV1:=lH hv1;have HV2:=lH hv2;have HV3:=lH hv3;have HV4:=lH hv4;have hn00:hn0≤1000000:=by have:=HQW.o;omega
   clear hv1 hv2 hv3 hv4 hq hrq hb HR
   go_wp2_with (at_builtin;refine wpList_appR (S:=NoI) rfl (.const (.slice none 0 0)) (.tmp 18) _ rfl g 115 i0 _ 4 64 Tryz.underlying93 HI0.o HI1.o HI2.o HI3.o rfl (by omega) zr_noI (.slice none 0 0) 0 [] rfl (ownS_none _ _ _ _ _) hA0 hn0 hc0 (rvs vs) rfl HV3.o (rvs_noI vs) ?k1 ?k2 ?k3 ?_)
   case k1=>simp only [maxLen];omega
   case k2=>omega
   case k3=>have:=HGL.o;omega
   intro v' w6 hown hkeep hb6 how6 hblk;have hvn:vs.length=hn0:=HV1.o;rw [←hvn] at how6;have hoq:OwnQ w6 wr.heap.size v' vs q:=⟨how6,by rw [HV1.o,HV2.o],RvOk.up (w:=wr) (w':=w6) HV4.o hb6⟩;obtain ⟨h2,hv,hvs,hrow⟩:=mrow_own (w':=w6) (g:=g) hoq HGL.o;clear hoq;subst hv;have HRW:=lH (hrow.mono (base':=g) (zQ_ HGL.o));have HB6:=lH (HK.o.trans (hb6.mono (zQ_ HGL.o)));have HO6:=lH (HO.o.up hb6);have HFR:Hid (∀ j (h':Mh),j≠k→hs[j]?=some h'→0<h'.vs.length→0<h2.vs.length→h'.g≠h2.g):=lH fun j h' _ hh l1 l2=>by
    have h3:=HO.o.lt hh l1;have h4:=(hrow.lies (by rw [←hrow.len];exact l2)).2.1;omega
   clear hown hkeep hb6 how6 hblk hvn hvs hrow hc HK HO;have gl:=HO6.o.top.lt;have gf:=HO6.o.top.frozen;obtain ⟨gv,gc⟩:∃ gv,w6.cell? ⟨g,k,none⟩=some gv:=by
    rw [HO6.o.top.cell];exact ⟨_,Array.getElem?_eq_getElem (by simp;rw [HO6.o.len];simp;have:=HL.o;omega)⟩
   generalize hql:q.length=ql at *;have HQL:=lH hql;clear hql
   go_wp2_with fail
   go_roundw
   case rel=>exact ⟨k+1,hs.set k h2,hlt,val_int HN1.o,HB6.o.setCell lR _,by rw [←HF.o,←HQL.o];exact HO6.o.setRow (by simp;have:=HL.o;omega) HRW.o HFR.o⟩
   case measure=>exact HN2.o
  ·have hke:k=n:=by omega
   subst hke;have hkI:¬(k:Int)<(k:Int):=by omega
   go_wp2_with fail
   go_ret;refine ⟨by rw [HGS.o];exact HK.o,g,hs,by rw [HL.o];rfl,?_⟩;have h:=HO.o;rw [Nat.sub_self,List.replicate_zero,List.append_nil,zH_ (by rw [HL.o];exact lR)] at h;rw [HGS.o];exact h
end
end Go.Proofs.YthgdchffeigkbaaGreatDoor
