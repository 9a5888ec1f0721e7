import Derived.Test.YthgdchffeigkbaaGreatDoorX11
import Derived.Test.YthgdchffeigkbaaGreatDoorX12
import Derived.Test.YthgdchffeigkbaaGreatDoorX14
import Derived.Laws.MakeOwn
import Derived.Laws.CopyRow
set_option linter.unusedVariables false
set_option linter.unusedSimpArgs false
namespace Go.Proofs.YthgdchffeigkbaaGreatDoor
set_option maxHeartbeats 4000000
set_option maxRecDepth 100000
section
open Go.ChangeShapes Go.WideShapes Go.ChangeAt Go.RowKit
attribute [local go_sem ↓] aE
attribute [local go_sem] aK aH aM aY
def iS (q:Rat):List UInt8:=jD q.num++(if q.den=1 then [] else 47::Lib.decDigits q.den)
def bZ (q:Rat):Prop:=xI q.num.natAbs<=2000/\xI q.den<=2000
instance (q:Rat):Decidable (bZ q):=by unfold bZ;infer_instance
def aQT (q:Rat) (w:Wo) (e:Ending) (w':Wo):Prop:=Below w.heap.size w w'/\∃ s,e=.returned (.tuple #[.string s,.bool (decide (bZ q))])/\(bZ q->s=⟨(iS q).toArray⟩)
theorem ZK (n:Nat):jD (n:Int)=Lib.decDigits n:=by unfold jD;rw [if_neg (Int.not_lt.2 (Int.natCast_nonneg n)),Int.natAbs_natCast,List.nil_append]
theorem aG7 {z:Int} (h:xI z.natAbs<=2000):(jD z).length<=2001:=by
 unfold jD;unfold xI at h;rw [iC]
 split<;>simp<;>omega
theorem BL (q:Rat) (b1:Bool) (A:OA) (n c:Nat) (b2:Bool) (A2:OA) (n2 c2:Nat) (w:Wo) (h1:dE w w.heap.size q b1 A n c b2 A2 n2 c2) (ht:dA w) :
    Calls Tryz.prog 71 #[.agg #[.bool b1,.slice A n c,.bool b2,.slice A2 n2 c2]] w (aQT q w):=by
 have dB:Hid (Below w.heap.size w (w.alloc (.cells #[.bool b1,.slice A n c,.bool b2,.slice A2 n2 c2] 115))):=lH (bA);have cJ:=lH (aG.new w 115 #[.bool b1,.slice A n c,.bool b2,.slice A2 n2 c2]);have H1:=lH (h1.up dB.o);have HT:=lH (ht.up dB.o);clear h1 ht;go_enter Tryz.func71,Tryz.ntmps71
 go_upto_region 1 with fail
 generalize w.alloc (.cells #[.bool b1,.slice A n c,.bool b2,.slice A2 n2 c2] 115)=W at *;have p0:=cJ.o.cell 0;have p1:=cJ.o.cell 1;have pl:=cJ.o.lt
 go_wp2_with fail
 refine (B_ q.num b1 A n c W H1.o.num HT.o).mono ?_;rintro e w1 ⟨bH,s1,rfl,wS,kK⟩;have bS:=lH (dB.o.tm bH);have dI:=lH (cJ.o.bl bH);have H2:=lH (H1.o.up bH);have tT:=lH (HT.o.up bH);have NU:=lH wS;clear bH p0 p1 pl wS dB cJ H1 HT
 by_cases AB:xI q.num.natAbs<=2000
 ·have X8:decide (xI q.num.natAbs<=2000)=true:=decide_eq_true AB
  have he1:=NU.o AB;subst he1;rw [X8];have HF1:=lH AB;clear X8 AB;have p2:=dI.o.cell 2;have p3:=dI.o.cell 3;have pl:=dI.o.lt
  go_wp2_with fail
  refine (B_ (q.den:Int) b2 A2 n2 c2 w1 H2.o.den tT.o).mono ?_;rintro e w2 ⟨bL,s2,he,yB,lQ⟩;rw [Int.natAbs_natCast] at he yB;rw [ZK] at yB;subst he;have bW:=lH (bS.o.tm bL);clear bL p2 p3 pl
  by_cases uP:xI q.den<=2000
  ·have hd2:decide (xI q.den<=2000)=true:=decide_eq_true uP
   have he2:=yB uP;subst he2;have hF:bZ q:=⟨HF1.o,uP⟩;have hFd:decide (bZ q)=true:=decide_eq_true hF;have HFD:=lH hFd;have hq:((⟨(Lib.decDigits q.den).toArray⟩:ByteArray).toList == [49])=decide (q.den=1):=by
    rw [ByteArray.toList_eq,Bool.eq_iff_iff,beq_iff_eq,decide_eq_true_eq];exact NE
   rw [hd2];have hl1:(⟨(jD q.num).toArray⟩:ByteArray).size<=2001:=by rw [jE];exact aG7 HF1.o
   have hl2:(⟨(Lib.decDigits q.den).toArray⟩:ByteArray).size<=2000:=by rw [jE];exact uP
   obtain ⟨t1,pW⟩:∃ t:ByteArray,⟨(jD q.num).toArray⟩=t:=⟨_,rfl⟩;obtain ⟨t2,uN⟩:∃ t:ByteArray,⟨(Lib.decDigits q.den).toArray⟩=t:=⟨_,rfl⟩;have xD:=lH pW;have aWM:=lH uN;rw [pW] at hl1 ⊢;rw [uN] at hl2 hq ⊢;clear hd2 hF hFd uP yB pW uN
   by_cases JF:q.den=1
   ·have hd:decide (q.den=1)=true:=decide_eq_true JF
    rw [hd] at hq;have HTX:Hid (t1=⟨(iS q).toArray⟩):=lH (by unfold iS;rw [if_pos JF,List.append_nil];exact xD.o.symm);clear hd JF
    go_wp2_with fail
    go_ret2;exact ⟨bW.o,_,by rw [HFD.o];rfl,fun _=>HTX.o⟩
   ·have hd:decide (q.den=1)=false:=decide_eq_false JF
    rw [hd] at hq;have HTX:Hid (t1++⟨#[47]⟩++t2=⟨(iS q).toArray⟩):=lH (by
     unfold iS;rw [if_neg JF,<-xD.o,<-aWM.o];apply ByteArray.ext;simp)
    have kK:¬9223372036854775807<t1.size+1:=by omega
    have hz3:(t1++⟨#[47]⟩:ByteArray).size=t1.size+1:=by rw [ByteArray.size_append];rfl
    have lQ:¬9223372036854775807<t1.size+1+t2.size:=by omega
    clear hd JF hl1 hl2
    go_wp2_with fail
    go_ret2;exact ⟨bW.o,_,by rw [HFD.o];rfl,fun _=>HTX.o⟩
  ·have hd2:decide (xI q.den<=2000)=false:=decide_eq_false uP
   have hFd:decide (bZ q)=false:=decide_eq_false fun h=>uP h.2;have HFD:=lH hFd;have HNF:Hid (¬bZ q):=lH fun h=>uP h.2;rw [hd2];obtain ⟨t1,pW⟩:∃ t:ByteArray,⟨(jD q.num).toArray⟩=t:=⟨_,rfl⟩;have hl1:t1.size<=3000:=by rw [<-pW];exact kK
   rw [pW];clear hd2 hFd uP yB pW kK;have a1r:¬9223372036854775807<t1.size+1:=by omega
   have a1p:(t1++⟨#[47]⟩:ByteArray).size=t1.size+1:=by rw [ByteArray.size_append];rfl
   have a1q:¬9223372036854775807<t1.size+1+s2.size:=by omega
   cases hq:(s2.toList == [49]) with
   | true=>
    go_wp2_with fail
    go_ret2;exact ⟨bW.o,_,by rw [HFD.o];rfl,fun h=>absurd h HNF.o⟩
   | false=>
    go_wp2_with fail
    go_ret2;exact ⟨bW.o,_,by rw [HFD.o];rfl,fun h=>absurd h HNF.o⟩
 ·have X8:decide (xI q.num.natAbs<=2000)=false:=decide_eq_false AB
  have hFd:decide (bZ q)=false:=decide_eq_false fun h=>AB h.1;have HFD:=lH hFd;have HNF:Hid (¬bZ q):=lH fun h=>AB h.1;rw [X8];clear X8 hFd AB
  go_wp2_with fail
  go_ret2;exact ⟨bS.o,_,by rw [HFD.o];rfl,fun h=>absurd h HNF.o⟩
end
section
def pF (l:List UInt8):Bool:=Lib.hasPrefix l [45]
def CM (l:List UInt8):Nat:=if JB l then dv (sE l) else 1
def jF (l:List UInt8):Rat:=Rat.divInt (JC (pF l) (tP l)) (CM l:Int)
theorem PI {l:List UInt8} (h:cX l=0):¬wQ l/\¬zC l/\¬(JB l=true/\zB l):=by
 unfold cX at h
 by_cases h5:wQ l
 ·rw [if_pos h5] at h;cases h
 ·rw [if_neg h5] at h
  by_cases h2:zC l
  ·rw [if_pos h2] at h;cases h
  ·rw [if_neg h2] at h
   by_cases h3:JB l=true/\zB l
   ·rw [if_pos h3] at h;cases h
   ·exact ⟨h5,h2,h3⟩
theorem oP (l:List UInt8):l=(if pF l then [45] else [])++zA l:=by
 unfold pF zA Lib.trimPrefix;cases hp:Lib.hasPrefix l [45] with
 | false=>simp
 | true=>
  unfold Lib.hasPrefix at hp;cases l with
  | nil=>cases hp
  | cons c r=>
   have:c=45:=by
    simp [List.isPrefixOf] at hp;exact hp.symm
   subst this;simp
theorem aAV (l:List UInt8):l=(h_ 47 l).1++(if (h_ 47 l).2.2 then 47::(h_ 47 l).2.1 else []):=by
 cases h:(h_ 47 l).2.2 with
 | true=>
  have:=(YO h).1;simpa using this
 | false=>
  obtain ⟨_,h2⟩:=CN h;rw [h2];simp
theorem BM (l:List UInt8):zA l=tP l++(if JB l then 47::sE l else []):=aAV (zA l)
theorem H_ {l:List UInt8} (h:DQ l) (h0:dv l=0):l=[48]:=by
 have:=oU h;rw [h0,eU (by decide)] at this;exact this.symm
theorem aA3 {l:List UInt8} (h:DQ l) (h0:dv l=1):l=[49]:=by
 have:=oU h;rw [h0,eU (by decide)] at this;exact this.symm
theorem ES (b:Bool) (l:List UInt8):(JC b l).natAbs=dv l:=by unfold JC;cases b<;>simp
theorem uD {l:List UInt8} (h:cX l=0):(jF l).num=JC (pF l) (tP l)/\(jF l).den=CM l/\iS (jF l)=l/\bZ (jF l)/\jM (tP l)/\jM (sE l)/\(tP l).length<=2000/\(sE l).length<=2000:=by
 obtain ⟨h5,h2,h3⟩:=PI h;have hn:fL (tP l)=0:=Classical.byContradiction fun e=>h2 (.inl e);have hb:rtB l=0:=Classical.byContradiction fun e=>h2 (.inr e);obtain ⟨hcn,hln⟩:=rS.1 hn;have hnz:tP l=[48]->pF l=false:=fun e=>by
  cases hg:pF l with
  | false=>rfl
  | true=>
   refine absurd (.inr (.inr ⟨e,?_⟩)) h5;have:=congrArg List.length (oP l);rw [hg,iC] at this;simp at this;omega
 have zX:JC (pF l) (tP l)<0<->pF l=true:=by
  cases hg:pF l with
  | false=>simp [JC]
  | true=>
   have:dv (tP l)≠0:=fun e=>by
    have:=hnz (H_ hcn e);rw [hg] at this;cases this
   simp [JC];omega
 have hD:(JB l=true->DQ (sE l)/\(sE l).length<=2000/\dv (sE l)≠0/\dv (sE l)≠1/\(dv (tP l)).gcd (dv (sE l))=1)/\(JB l=false->sE l=[]):=by
  refine ⟨fun hi=>?_,fun hi=>?_⟩
  ·have hd:fL (sE l)=0:=by unfold rtB at hb;rw [hi] at hb;exact hb
   obtain ⟨hcd,hld⟩:=rS.1 hd;have h33:¬zB l:=fun g=>h3 ⟨hi,g⟩;exact ⟨hcd,hld,fun e=>h33 (.inl (H_ hcd e)),fun e=>h33 (.inr (.inl (aA3 hcd e))),Classical.byContradiction fun g=>h33 (.inr (.inr g))⟩
  ·have:=(CN (l:=zA l) hi).2
   unfold sE;rw [this]
 have hg:(JC (pF l) (tP l)).natAbs.gcd (CM l)=1:=by
  rw [ES];unfold CM;cases hi:JB l with
  | true=>exact (hD.1 hi).2.2.2.2
  | false=>exact Nat.gcd_one_right _
 have hd0:CM l≠0:=by
  unfold CM;cases hi:JB l with
  | true=>exact (hD.1 hi).2.2.1
  | false=>exact Nat.one_ne_zero
 obtain ⟨e1,e2⟩:=BS hd0 hg;have e1':(jF l).num=JC (pF l) (tP l):=e1;have e2':(jF l).den=CM l:=e2;have hdd:jM (sE l)/\(sE l).length<=2000:=by
  cases hi:JB l with
  | true=>exact ⟨(hD.1 hi).1.2.1,(hD.1 hi).2.1⟩
  | false=>rw [hD.2 hi];exact ⟨fun c hc=>(by cases hc),by simp⟩
 refine ⟨e1',e2',?_,⟨?_,?_⟩,hcn.2.1,hdd.1,hln,hdd.2⟩
 ·unfold iS jD
  rw [e1',e2',ES,oU hcn]
  conv=>rhs;rw [oP l,BM l]
  have hif:(if JC (pF l) (tP l)<0 then [45] else ([]:List UInt8))=if pF l=true then [45] else []:=by
   cases lE:pF l with
   | true=>rw [lE] at zX;rw [if_pos (zX.2 rfl)];rfl
   | false=>rw [lE] at zX;rw [if_neg (fun g=>by have:=zX.1 g;cases this)];rfl
  rw [hif,List.append_assoc];congr 2
  unfold CM;cases hi:JB l with
  | true=>
   obtain ⟨g1,_,_,g4,_⟩:=hD.1 hi;simp only [if_true];rw [if_neg g4,oU g1]
  | false=>simp
 ·rw [e1',ES];unfold xI;rw [oU hcn];exact hln
 ·rw [e2']
  unfold CM;cases hi:JB l with
  | true=>unfold xI;simp only [if_true];rw [oU (hD.1 hi).1];exact (hD.1 hi).2.1
  | false=>show xI 1<=2000;decide+kernel
theorem S_ (q:Rat):pF (iS q)=decide (q.num<0)/\tP (iS q)=Lib.decDigits q.num.natAbs/\JB (iS q)=decide (q.den≠1)/\sE (iS q)=if q.den=1 then [] else Lib.decDigits q.den:=by
 have hS:pF (iS q)=decide (q.num<0)/\zA (iS q)=Lib.decDigits q.num.natAbs++(if q.den=1 then [] else 47::Lib.decDigits q.den):=by
  unfold pF zA iS jD Lib.trimPrefix
  by_cases h:q.num<0
  ·have hp:Lib.hasPrefix ((if q.num<0 then [45] else [])++Lib.decDigits q.num.natAbs++(if q.den=1 then [] else 47::Lib.decDigits q.den)) [45]=true:=by rw [if_pos h];simp [Lib.hasPrefix]
   rw [hp,decide_eq_true h,if_pos h];simp
  ·have hp:Lib.hasPrefix ((if q.num<0 then [45] else [])++Lib.decDigits q.num.natAbs++(if q.den=1 then [] else 47::Lib.decDigits q.den)) [45]=false:=by
    rw [if_neg h,List.nil_append];cases hl:Lib.decDigits q.num.natAbs with
    | nil=>have:=nH q.num.natAbs;rw [hl] at this;simp at this
    | cons c r=>
     have hc:=NG q.num.natAbs c (by rw [hl];exact List.mem_cons_self ..);have:((45:UInt8) == c)=false:=by
      cases hb:((45:UInt8) == c) with
      | false=>rfl
      | true=>have:=eq_of_beq hb;subst this;exact absurd hc.1 (by decide)
     simp [Lib.hasPrefix,List.isPrefixOf,this]
   rw [hp,decide_eq_false h,if_neg h];simp
 have hno:(47:UInt8)∉Lib.decDigits q.num.natAbs:=fun h=>by
  have:=(NG _ _ h).1;exact absurd this (by decide)
 unfold tP JB sE;rw [hS.2];refine ⟨hS.1,?_⟩
 by_cases h1:q.den=1
 ·rw [if_pos h1,List.append_nil,NH hno,if_pos h1,decide_eq_false (by simpa using h1)]
  exact ⟨rfl,rfl,rfl⟩
 ·rw [if_neg h1,RB hno,if_neg h1,decide_eq_true h1]
  exact ⟨rfl,rfl,rfl⟩
theorem aFe {n:Nat} (h:xI n<=2000):fL (Lib.decDigits n)=0:=rS.2 ⟨aA4 n,h⟩
theorem S9 {q:Rat} (h:bZ q):cX (iS q)=0/\jF (iS q)=q:=by
 obtain ⟨h1,h2,h3,h4⟩:=S_ q;have hn:=aFe h.1;have hd:=aFe h.2;have hB:rtB (iS q)=0:=by
  unfold rtB;rw [h3,h4]
  by_cases g:q.den=1
  ·rw [decide_eq_false (by simpa using g)];rfl
  ·rw [decide_eq_true g,if_neg g];exact hd
 have h5:¬wQ (iS q):=by
  unfold wQ;rw [h2,hB,hn];rintro (g | g | ⟨g1,g2⟩)
  ·cases g
  ·cases g
  ·have:q.num.natAbs=0:=NF (g1.trans (show [48]=Lib.decDigits 0 by rw [eU (by decide)];rfl))
   have nO:¬q.num<0:=by omega
   have h6:=congrArg List.length (oP (iS q));rw [h1,decide_eq_false nO,iC] at h6;simp at h6;omega
 have I0:¬zC (iS q):=by
  unfold zC;rw [h2,hB,hn];simp
 have hp3:¬(JB (iS q)=true/\zB (iS q)):=by
  rintro ⟨g,g3⟩;rw [h3,decide_eq_true_eq] at g;unfold zB at g3;rw [h2,h4,if_neg g,yE,yE] at g3;rcases g3 with g3 | g3 | g3
  ·have:=NF (g3.trans (show [48]=Lib.decDigits 0 by rw [eU (by decide)];rfl))
   exact q.den_nz this
  ·exact g (NE.1 g3)
  ·exact g3 q.reduced
 refine ⟨by unfold cX;rw [if_neg h5,if_neg I0,if_neg hp3],?_⟩;unfold jF CM;rw [h1,h2,h3,h4];have e1:JC (decide (q.num<0)) (Lib.decDigits q.num.natAbs)=q.num:=by
  unfold JC;rw [yE]
  by_cases g:q.num<0
  ·rw [decide_eq_true g];simp only [if_true];omega
  ·rw [decide_eq_false g];simp only [Bool.false_eq_true,if_false];omega
 rw [e1]
 by_cases g:q.den=1
 ·rw [decide_eq_false (by simpa using g)]
  have:=zL q;rw [g] at this;exact this
 ·rw [decide_eq_true g,if_neg g,yE]
  exact zL q
end
section
open Go.ChangeShapes Go.WideShapes Go.ChangeAt Go.RowKit
attribute [local go_sem ↓] aE
attribute [local go_sem] aK aH aM
theorem aFf (b:Bool) (s:List UInt8):h_ 47 ((if b then [45] else [])++s)=((if b then [45] else [])++(h_ 47 s).1,(h_ 47 s).2.1,(h_ 47 s).2.2):=by
 cases b with
 | false=>simp
 | true=>simp [h_]
theorem aAU (l:List UInt8):h_ 47 l=((if pF l then [45] else [])++tP l,sE l,JB l):=by
 have:=aFf (pF l) (zA l);rwa [<-oP l] at this
theorem KL (l:List UInt8) (h:cX l=0) (w:Wo) :
    Calls Tryz.prog 67 #[.string ⟨l.toArray⟩] w (YZ (jF l) w):=by
 obtain ⟨v1,v2,_,_,v3,v4,v5,v6⟩:=uD h;have mZ:=lH v1;have qY:=lH v2;have u_:=lH v3;have RX:=lH v4;have ST:Hid ((tP l).length<=1000000):=lH (by omega);have HV6:Hid ((sE l).length<=1000000):=lH (by omega);have hll:l.length<=9223372036854775807:=by
  have h1:=congrArg List.length (oP l);have h2:=congrArg List.length (BM l);rw [iC] at h1 h2;have h3:(if pF l then [45] else ([]:List UInt8)).length<=1:=by split<;>simp
  have h4:(if JB l then 47::sE l else []).length<=(sE l).length+1:=by split<;>simp
  omega
 have dB:Hid (Below w.heap.size w (w.alloc (.cells #[.bool false,.slice none 0 0,.bool false,.slice none 0 0] 115))):=lH (bA);have HR:Hid (aG (w.alloc (.cells #[.bool false,.slice none 0 0,.bool false,.slice none 0 0] 115)) w.heap.size 115 #[.bool false,.slice none 0 0,.bool false,.slice none 0 0]):=lH (aG.new w _ _);have qK:w.heap.size<=w.heap.size:=lR;clear v1 v2 v3 v4 v5 v6 h;go_enter Tryz.func67,Tryz.ntmps67
 go_upto_region 1 with fail
 generalize (w.alloc (.cells #[.bool false,.slice none 0 0,.bool false,.slice none 0 0] 115))=W at *
 go_wp2_with fail
 refine (YN 47 l hll W).mono ?_;rintro e w1 ⟨he,bH⟩;rw [aAU l] at he;have bS:=lH (dB.o.tm bH);have tV:=lH (HR.o.bl bH);obtain ⟨is,his⟩:∃ i,JB l=i:=⟨_,rfl⟩;have HI:=lH his;simp only [his] at he;subst he;clear bH dB HR his hll;obtain ⟨tn,htn⟩:∃ t:ByteArray,rdT (pF l) (tP l)=t:=⟨_,rfl⟩;obtain ⟨td,htd⟩:∃ t:ByteArray,rdT false (sE l)=t:=⟨_,rfl⟩;have c1:∀ w,Calls Tryz.prog 113 #[.string tn] w (LgP (JC (pF l) (tP l)) w):=fun w=>by rw [<-htn];exact zJ _ _ u_.o ST.o w
 have c2:∀ w,Calls Tryz.prog 113 #[.string td] w (LgP (JC false (sE l)) w):=fun w=>by rw [<-htd];exact zJ _ _ RX.o HV6.o w
 have e1:(⟨((if pF l=true then [45] else [])++tP l).toArray⟩:ByteArray)=tn:=htn;have e2:(⟨(sE l).toArray⟩:ByteArray)=td:=htd;rw [e1,e2];clear e1 e2;have C1:=lH c1;have C2:=lH c2;clear htn htd c1 c2;cases is with
 | false=>
  have HD:Hid ((jF l).den=1):=lH (by rw [qY.o];unfold CM;rw [HI.o];rfl)
  go_wp2_with fail
  refine (C1.out w1).mono ?_;rintro e w2 ⟨bL,f5,C5,i5,j5,rfl,h5⟩;have bW:=lH (bS.o.tm bL);have sC:=lH (tV.o.bl bL);have H5:=lH h5;clear bL h5 bS tV
  go_wp2_with fail
  refine (xV 1 w2 (by decide) (by decide)).mono ?_;rintro e w3 ⟨cR,f6,C6,i6,j6,rfl,h6⟩;have dR:=lH (bW.o.tm cR);have sY:=lH (sC.o.bl cR);have HQ:Hid (dE w3 w3.heap.size (jF l) f5 C5 i5 j5 f6 C6 i6 j6):=lH ⟨by rw [mZ.o];exact H5.o.up cR,by rw [HD.o];exact h6⟩;clear cR h6 bW sC H5;have z0:=sY.o.cell 0;have z1:=sY.o.cell 1;have z2:=sY.o.cell 2;have z3:=sY.o.cell 3;have zf:=sY.o.frozen;have zl:=sY.o.lt
  go_wp2_with fail
  generalize fD:(((w3.setCell ⟨_,0,none⟩ _).setCell ⟨_,1,none⟩ _).setCell ⟨_,2,none⟩ _).setCell ⟨_,3,none⟩ _=W9;have iK:=lH (mO (e:=.returned (.agg #[.bool f5,.slice C5 i5 j5,.bool f6,.slice C6 i6 j6])) dR.o qK sY.o (by simp) (by simp) (by simp) (by simp) HQ.o rfl);rw [fD] at iK;have cQ:Hid (aG W9 _ 115 #[.bool f5,.slice C5 i5 j5,.bool f6,.slice C6 i6 j6]):=lH (by rw [<-fD];exact fO sY.o);clear fD z0 z1 z2 z3 zf zl;have q0:=cQ.o.cell 0;have q1:=cQ.o.cell 1;have q2:=cQ.o.cell 2;have q3:=cQ.o.cell 3;exact bodyPost_ret (v:=.agg #[.bool f5,.slice C5 i5 j5,.bool f6,.slice C6 i6 j6]) (by simp [results,Tryz.results67,go_sem,q0,q1,q2,q3]) rfl iK.o
 | true=>
  have HD:Hid (((jF l).den:Int)=JC false (sE l)):=lH (by rw [qY.o];unfold CM;rw [HI.o];rfl)
  go_wp2_with fail
  refine (C1.out w1).mono ?_;rintro e w2 ⟨bL,f5,C5,i5,j5,rfl,h5⟩;have bW:=lH (bS.o.tm bL);have sC:=lH (tV.o.bl bL);have H5:=lH h5;clear bL h5 bS tV
  go_wp2_with fail
  refine (C2.out w2).mono ?_;rintro e w3 ⟨cR,f6,C6,i6,j6,rfl,h6⟩;have dR:=lH (bW.o.tm cR);have sY:=lH (sC.o.bl cR);have HQ:Hid (dE w3 w3.heap.size (jF l) f5 C5 i5 j5 f6 C6 i6 j6):=lH ⟨by rw [mZ.o];exact H5.o.up cR,by rw [HD.o];exact h6⟩;clear cR h6 bW sC H5;have z0:=sY.o.cell 0;have z1:=sY.o.cell 1;have z2:=sY.o.cell 2;have z3:=sY.o.cell 3;have zf:=sY.o.frozen;have zl:=sY.o.lt
  go_wp2_with fail
  generalize fD:(((w3.setCell ⟨_,0,none⟩ _).setCell ⟨_,1,none⟩ _).setCell ⟨_,2,none⟩ _).setCell ⟨_,3,none⟩ _=W9;have iK:=lH (mO (e:=.returned (.agg #[.bool f5,.slice C5 i5 j5,.bool f6,.slice C6 i6 j6])) dR.o qK sY.o (by simp) (by simp) (by simp) (by simp) HQ.o rfl);rw [fD] at iK;have cQ:Hid (aG W9 _ 115 #[.bool f5,.slice C5 i5 j5,.bool f6,.slice C6 i6 j6]):=lH (by rw [<-fD];exact fO sY.o);clear fD z0 z1 z2 z3 zf zl;have q0:=cQ.o.cell 0;have q1:=cQ.o.cell 1;have q2:=cQ.o.cell 2;have q3:=cQ.o.cell 3;exact bodyPost_ret (v:=.agg #[.bool f5,.slice C5 i5 j5,.bool f6,.slice C6 i6 j6]) (by simp [results,Tryz.results67,go_sem,q0,q1,q2,q3]) rfl iK.o
end
section
open Go.ChangeShapes Go.WideShapes Go.ChangeAt Go.RowKit
attribute [local go_sem ↓] aE
attribute [local go_sem] aK aH aM aY
structure Rv where
 b1:Bool
 A:OA
 n:Nat
 c:Nat
 b2:Bool
 A2:OA
 m:Nat
 d:Nat
def Rv.cells (v:Rv):List Value:=[.bool v.b1,.slice v.A v.n v.c,.bool v.b2,.slice v.A2 v.m v.d]
def EQ:Rv:=⟨false,none,0,0,false,none,0,0⟩
def dL (w:Wo) (B:Nat) (q:Rat) (v:Rv):Prop:=dE w B q v.b1 v.A v.n v.c v.b2 v.A2 v.m v.d
theorem Rv.len (v:Rv):v.cells.length=4:=rfl
def fS (vs:List Rv):List Value:=vs.flatMap Rv.cells
theorem d9 (vs:List Rv):(fS vs).length=vs.length*4:=pL Rv.len vs
theorem uH {vs:List Rv} {i:Nat} {v:Rv} (h:vs[i]?=some v) (k:Nat) (hk:k<4):(fS vs)[i*4+k]?=v.cells[k]?:=jT Rv.len vs i v h k hk
theorem MG:∀ (vs:List Rv) (i:Nat) (v:Rv),i<vs.length->((((fS vs).set (i*4) (.bool v.b1)).set (i*4+1) (.slice v.A v.n v.c)).set (i*4+2) (.bool v.b2)).set (i*4+3) (.slice v.A2 v.m v.d)=fS (vs.set i v)
 | [],i,v,h=>by simp at h
 | x::r,0,v,_=>by simp [fS,Rv.cells]
 | x::r,i+1,v,h=>by
  have ih:=MG r i v (by simpa using h);have e:fS (x::r)=x.cells++fS r:=by simp [fS]
  have e2:fS ((x::r).set (i+1) v)=x.cells++fS (r.set i v):=by simp [fS]
  have st:∀ (l:List Value) (k:Nat) (u:Value),(x.cells++l).set (k+4) u=x.cells++l.set k u:=fun l k u=>by
   rw [List.set_append_right _ _ (by rw [Rv.len];omega),Rv.len,Nat.add_sub_cancel]
  rw [e,e2,<-ih,show (i+1)*4=i*4+4 from by omega,show i*4+4+1=i*4+1+4 from by omega,show i*4+4+2=i*4+2+4 from by omega,show i*4+4+3=i*4+3+4 from by omega,st,st,st,st]
theorem EP:∀ n:Nat,fS (List.replicate n EQ)=(List.replicate n EQ.cells).flatten
 | 0=>rfl
 | n+1=>by
  rw [List.replicate_succ,List.replicate_succ,List.flatten_cons,<-EP n];simp [fS]
theorem aMC {w:Wo} {g t i:Nat} {vs:List Rv} (h:aG w g t (fS vs).toArray) (hi:i<vs.length) (v:Rv):aG ((((w.setCell ⟨g,i*4,none⟩ (.bool v.b1)).setCell ⟨g,i*4+1,none⟩ (.slice v.A v.n v.c)).setCell ⟨g,i*4+2,none⟩ (.bool v.b2)).setCell ⟨g,i*4+3,none⟩ (.slice v.A2 v.m v.d)) g t (fS (vs.set i v)).toArray:=by
 have key:∀ (w:Wo) (l:List Value) (k:Nat) (u:Value),aG w g t l.toArray->aG (w.setCell ⟨g,k,none⟩ u) g t (l.set k u).toArray:=fun w l k u hb=>hb.set_at u (by simp);rw [<-MG vs i v hi];exact key _ _ _ _ (key _ _ _ _ (key _ _ _ _ (key _ _ _ _ h)))
theorem W7 {w:Wo} {g t i:Nat} {vs:List Rv} {v:Rv} (h:aG w g t (fS vs).toArray) (hv:vs[i]?=some v):w.cell? ⟨g,i*4,none⟩=some (.bool v.b1)/\w.cell? ⟨g,i*4+1,none⟩=some (.slice v.A v.n v.c)/\w.cell? ⟨g,i*4+2,none⟩=some (.bool v.b2)/\w.cell? ⟨g,i*4+3,none⟩=some (.slice v.A2 v.m v.d):=by
 have k:=fun j hj=>uH hv j hj;refine ⟨?_,?_,?_,?_⟩<;>rw [h.cell]
 ·have:=k 0 (by decide);simpa [Rv.cells] using this
 ·have:=k 1 (by decide);simpa [Rv.cells] using this
 ·have:=k 2 (by decide);simpa [Rv.cells] using this
 ·have:=k 3 (by decide);simpa [Rv.cells] using this
theorem dE.keep4 {w:Wo} {q:Rat} {b1:Bool} {A:OA} {n c:Nat} {b2:Bool} {A2:OA} {m d:Nat} (h:dE w w.heap.size q b1 A n c b2 A2 m d) {g t i:Nat} {vs:List Rv} {x v:Rv} (hb:aG w g t (fS vs).toArray) (hx:vs[i]?=some x) :
    dE ((((w.setCell ⟨g,i*4,none⟩ (.bool v.b1)).setCell ⟨g,i*4+1,none⟩ (.slice v.A v.n v.c)).setCell ⟨g,i*4+2,none⟩ (.bool v.b2)).setCell ⟨g,i*4+3,none⟩ (.slice v.A2 v.m v.d)) ((((w.setCell ⟨g,i*4,none⟩ (.bool v.b1)).setCell ⟨g,i*4+1,none⟩ (.slice v.A v.n v.c)).setCell ⟨g,i*4+2,none⟩ (.bool v.b2)).setCell ⟨g,i*4+3,none⟩ (.slice v.A2 v.m v.d)).heap.size q b1 A n c b2 A2 m d:=by
 obtain ⟨c0,c1,c2,c3⟩:=W7 hb hx;have ne:∀ (a b:Nat),a≠b->(⟨g,a,none⟩:Addr)≠⟨g,b,none⟩:=fun a b h e=>h (by injection e);have off:∀ (w:Wo) (a b:Nat) (u v:Value),a≠b->w.cell? ⟨g,b,none⟩=some v->(w.setCell ⟨g,a,none⟩ u).cell? ⟨g,b,none⟩=some v:=fun w a b u v oS hv=>by
  rw [World.cell?_setCell_other _ _ _ _ (ne a b oS)];exact hv
 refine (((h.keep c0 (by simp) _).keep (off _ _ _ _ _ (by omega) c1) (by simp) _).keep (off _ _ _ _ _ (by omega) (off _ _ _ _ _ (by omega) c2)) (by simp) _).keep (off _ _ _ _ _ (by omega) (off _ _ _ _ _ (by omega) (off _ _ _ _ _ (by omega) c3))) (by simp) _
def iF (w:Wo) (B:Nat) (A:OA) (n:Nat) (qs:List Rat):Prop:=∃ vs:List Rv,vs.length=n/\qs.length=n/\Rd w B 4 A n (fS vs)/\∀ (i:Nat) (q:Rat) (v:Rv),qs[i]?=some q->vs[i]?=some v->dL w B q v
section
variable {w w':Wo} {B B' n:Nat} {A:OA} {qs:List Rat}
theorem iF.below (h:iF w B A n qs) (hb:Below B' w w') (hB:B<=B'):iF w' B A n qs:=by
 obtain ⟨vs,h1,h2,h3,h4⟩:=h;exact ⟨vs,h1,h2,h3.below hb hB,fun i q v hq hv=>dE.below (h4 i q v hq hv) hb hB⟩
theorem iF.more (h:iF w B A n qs) (hB:B<=B'):iF w B' A n qs:=by
 obtain ⟨vs,h1,h2,h3,h4⟩:=h;exact ⟨vs,h1,h2,h3.more hB,fun i q v hq hv=>dE.more (h4 i q v hq hv) hB⟩
theorem iF.up (h:iF w w.heap.size A n qs) (hb:Below w.heap.size w w'):iF w' w'.heap.size A n qs:=(h.below hb lR).more hb.size
theorem iF.len (h:iF w B A n qs):qs.length=n:=by obtain ⟨_,_,h,_⟩:=h;exact h
theorem iF.form (h:iF w B A n qs) (h0:0<n):∃ b off,A=some ⟨b,off,none⟩/\b<B:=by
 obtain ⟨vs,_,_,h3,_⟩:=h;obtain ⟨b,off,e,aW,_⟩:=h3.2 h0;exact ⟨b,off,e,aW⟩
theorem iF.at_ {b off i:Nat} {q:Rat} (h:iF w B (some ⟨b,off,none⟩) n qs) (hq:qs[i]?=some q):∃ v:Rv,w.cell? ⟨b,off+i*4,none⟩=some (.bool v.b1)/\w.cell? ⟨b,off+i*4+1,none⟩=some (.slice v.A v.n v.c)/\w.cell? ⟨b,off+i*4+2,none⟩=some (.bool v.b2)/\w.cell? ⟨b,off+i*4+3,none⟩=some (.slice v.A2 v.m v.d)/\dL w B q v:=by
 obtain ⟨vs,h1,h2,h3,h4⟩:=h;have hi:=(dP.1 hq).1;obtain ⟨v,hv⟩:∃ v,vs[i]?=some v:=eO (by omega);obtain ⟨b',off',e,_,hc⟩:=h3.2 (by omega);injection e with e;injection e with e1 e2;subst e1;subst e2;have k:=fun j hj=>uH hv j hj;refine ⟨v,?_,?_,?_,?_,h4 i q v hq hv⟩
 ·have:=hc (i*4) (.bool v.b1) (by have:=k 0 (by decide);simpa [Rv.cells] using this);exact this
 ·have:=hc (i*4+1) (.slice v.A v.n v.c) (by have:=k 1 (by decide);simpa [Rv.cells] using this);exact this
 ·have:=hc (i*4+2) (.bool v.b2) (by have:=k 2 (by decide);simpa [Rv.cells] using this);exact this
 ·have:=hc (i*4+3) (.slice v.A2 v.m v.d) (by have:=k 3 (by decide);simpa [Rv.cells] using this);exact this
theorem aHu {g t:Nat} {vs:List Rv} (h:aG w g t (fS vs).toArray) (hn:vs.length=n) (hq:qs.length=n) (hv:∀ (i:Nat) (q:Rat) (v:Rv),qs[i]?=some q->vs[i]?=some v->dL w w.heap.size q v):iF w w.heap.size (some ⟨g,0,none⟩) n qs:=
 ⟨vs,hn,hq,⟨by rw [d9,hn],fun _=>⟨g,0,rfl,h.lt,fun j u hu=>by
  rw [show (⟨g,0+j,none⟩:Addr)=⟨g,j,none⟩ from by simp,h.cell j];simpa using hu⟩⟩,hv⟩
end
theorem P8:(Tryz.prog.info? 115).map (fun i=>(i.zero,i.size,i.bytes))=some (some (.agg #[.bool false,.slice none 0 0,.bool false,.slice none 0 0]),4,64):=by kernel_rfl
theorem aOU (n:Nat):madeCells #[Value.bool false,.slice none 0 0,.bool false,.slice none 0 0] (n*4)=(fS (List.replicate n EQ)).toArray:=by
 apply Array.ext';rw [List.toList_toArray,EP];apply List.ext_getElem?;intro j
 by_cases hj:j<n*4
 ·have h1:(madeCells #[Value.bool false,.slice none 0 0,.bool false,.slice none 0 0] (n*4)).toList[j]?=some (#[Value.bool false,.slice none 0 0,.bool false,.slice none 0 0][j % 4]!):=by
   simp [madeCells,hj]
  have h2:(fS (List.replicate n EQ))[j / 4*4+j % 4]?=EQ.cells[j % 4]?:=uH (by rw [List.getElem?_replicate,if_pos (by omega)]) _ (by omega);rw [Nat.div_add_mod' j 4,EP] at h2;rw [h1,h2];have:j % 4=0\/j % 4=1\/j % 4=2\/j % 4=3:=by omega
  rcases this with e | e | e | e<;>rw [e]<;>rfl
 ·rw [List.getElem?_eq_none (by simp [madeCells];omega),List.getElem?_eq_none (by rw [<-EP,d9,o3];omega)]
theorem PY (n:Nat) (hn:n<=1000000) (w:Wo):(Instr.makeSlice 93 (.int .i64 (n:Int)) (.int .i64 (n:Int))).run Tryz.prog w=.ok (.slice (some ⟨w.heap.size,0,none⟩) n n) (w.alloc (.cells (fS (List.replicate n EQ)).toArray 115)):=by
 obtain ⟨i0,kC,oE,kK,lQ⟩:=info_parts P8;rw [run_make w 93 115 i0 _ Tryz.underlying93 kC oE .i64 .i64 (n:Int) (n:Int) (by omega) (Int.le_refl _) (by rw [lQ];omega) (by omega),kU,kK];rw [show (Value.agg #[Value.bool false,.slice none 0 0,.bool false,.slice none 0 0]).cells=#[Value.bool false,.slice none 0 0,.bool false,.slice none 0 0] from rfl,aOU]
def dQ:List ByteArray->Int
 | []=>0
 | s::r=>if cX s.data.toList=0 then dQ r else cX s.data.toList
theorem oW:∀ {l:List ByteArray},dQ l=0<->∀ s∈l,cX s.data.toList=0
 | []=>by simp [dQ]
 | s::r=>by
  unfold dQ
  by_cases h:cX s.data.toList=0
  ·rw [if_pos h,oW]
   simp [h]
  ·rw [if_neg h]
   simp [h]
theorem RK {l:List ByteArray} {k:Nat} {s:ByteArray} (h:l[k]?=some s):dQ (l.drop k)=if cX s.data.toList=0 then dQ (l.drop (k+1)) else cX s.data.toList:=by
 rw [cM h];rfl
theorem CO (A:OA) (n c:Nat) (ss:List ByteArray) (w:Wo) (hR:bG w w.heap.size A n ss) (hs:∀ s∈ss,s.size<=maxLen) (hn:n<=9223372036854775807) (ht:dA w) :
    Calls Tryz.prog 105 #[.slice A n c] w fun e w'=>e=.returned (.int .i64 (dQ ss))/\Below w.heap.size w w':=by
 have HR:=lH hR;have HS:=lH hs;have HT:=lH ht;have HL:=lH hR.1;clear hR hs ht;go_enter Tryz.func105,Tryz.ntmps105
 go_wp2_with fail
 go_loopw [4,5,8] (fun _ _ i wr=>∃ k:Nat,k<=n/\i=.int .i64 k/\dQ ss=dQ (ss.drop k)/\Below w.heap.size w wr) (fun _ _ i _=>n-(intOf i).toNat)
 case atStart=>exact ⟨0,by omega,rfl,rfl,bR⟩
 case round=>
  obtain ⟨k,hk,rfl,nP,hb⟩:=hrel;have HG:=lH nP;have HB:=lH hb;clear nP hb
  by_cases aW:k<n
  ·obtain ⟨s,hs⟩:∃ s,ss[k]?=some s:=eO (by have:=HL.o;omega)
   obtain ⟨b,o,hA,hb⟩:=(HR.o.below HB.o lR).form (by omega);subst hA;have hc:=(HR.o.below HB.o lR).at_ hs;have HD:=lH (RK hs);have dW:=lH (HS.o s (cO hs));have fT:(k:Int)<(n:Int):=by omega
   have eN:=lN k;have iL:Hid (n-(k+1)<n-k):=lH (by omega);have HSE:(⟨s.data.toList.toArray⟩:ByteArray)=s:=by cases s;simp
   have N6:=vQ s.data.toList (by have:=dW.o;rw [Lib.size_eq] at this;exact this) wr (HT.o.up HB.o);rw [HSE] at N6;replace N6:=lH N6;clear HSE;clear hs
   go_wp2_with fail
   refine N6.o.mono ?_;clear hc N6;rintro e w1 ⟨rfl,bH⟩;have bS:=lH (HB.o.tm bH);clear bH HB;obtain ⟨r,hr⟩:∃ r,cX s.data.toList=r:=⟨_,rfl⟩;rw [hr] at HD ⊢;clear hr
   by_cases h0:r=0
   ·subst h0
    have HE:Hid (dQ ss=dQ (ss.drop (k+1))):=lH (by rw [HG.o,HD.o,if_pos rfl])
    go_wp2_with fail
    go_roundw
    case rel=>exact ⟨k+1,aW,aQ eN.o,HE.o,bS.o⟩
    case measure=>exact iL.o
   ·have HE:Hid (dQ ss=r):=lH (by rw [HG.o,HD.o,if_neg h0])
    have h0b:(r != 0)=true:=by simp [h0]
    clear h0
    go_wp2_with fail
    go_ret;exact ⟨aX HE.o.symm,bS.o⟩
  ·have HE:Hid (dQ ss=0):=lH (by rw [HG.o,List.drop_eq_nil_of_le (by have:=HL.o;omega)];rfl)
   have fT:¬(k:Int)<(n:Int):=by omega
   go_wp2_with fail
   go_ret;exact ⟨aX HE.o.symm,HB.o⟩
theorem iF.bm {w w':Wo} {n:Nat} {A:OA} {l:List Rat} (h:iF w w.heap.size A n l) (g:Below w.heap.size w w'):iF w' w'.heap.size A n l:=(h.below g lR).more g.size
def kH (w:Wo) (vs:List Rv) (qs:List Rat):Prop:=∀ (i:Nat) (q:Rat) (v:Rv),qs[i]?=some q->vs[i]?=some v->dL w w.heap.size q v
theorem kH.up {w w':Wo} {vs:List Rv} {qs:List Rat} (h:kH w vs qs) (hb:Below w.heap.size w w'):kH w' vs qs:=fun i q v hq hv=>dE.up (h i q v hq hv) hb
def gB (w:Wo) (g i:Nat) (v:Rv):World:=(((w.setCell ⟨g,i*4,none⟩ (.bool v.b1)).setCell ⟨g,i*4+1,none⟩ (.slice v.A v.n v.c)).setCell ⟨g,i*4+2,none⟩ (.bool v.b2)).setCell ⟨g,i*4+3,none⟩ (.slice v.A2 v.m v.d)
theorem kH.put {w:Wo} {g t i:Nat} {vs us:List Rv} {qs qs':List Rat} {q:Rat} {v x:Rv} (h:kH w us qs) (hb:aG w g t (fS vs).toArray) (hx:vs[i]?=some x) (hv:dL w w.heap.size q v) (hq:∀ (j:Nat) (q':Rat),qs'[j]?=some q'->(j=i/\q'=q)\/(j≠i/\qs[j]?=some q')):kH (gB w g i v) (us.set i v) qs':=by
 intro j q' v' hq' hv';rcases hq j q' hq' with ⟨rfl,rfl⟩ | ⟨cP,hq0⟩
 ·rw [List.getElem?_set_self'] at hv'
  obtain ⟨_,_,e⟩:=Option.map_eq_some_iff.1 hv';subst e;exact dE.keep4 hv hb hx
 ·rw [List.getElem?_set_ne (by omega)] at hv'
  exact dE.keep4 (h j q' v' hq0 hv') hb hx
theorem kH.stay {w:Wo} {g t i:Nat} {vs us:List Rv} {qs:List Rat} {v x:Rv} (h:kH w us qs) (hb:aG w g t (fS vs).toArray) (hx:vs[i]?=some x):kH (gB w g i v) us qs:=fun j q' v' hq' hv'=>dE.keep4 (h j q' v' hq' hv') hb hx
theorem kS {a w:Wo} {B g i:Nat} {v:Rv} (h:Below B a w) (hg:B<=g):Below B a (gB w g i v):=(((h.setCell hg _).setCell hg _).setCell hg _).setCell hg _
theorem aHh {qs:List Rat} {k:Nat} {q:Rat} (hk:qs.length=k):∀ (j:Nat) (q':Rat),(qs++[q])[j]?=some q'->(j=k/\q'=q)\/(j≠k/\qs[j]?=some q'):=by
 intro j q' h
 by_cases hj:j<k
 ·right
  rw [xQ (by omega)] at h;exact ⟨by omega,h⟩
 ·left
  rw [AZ (by omega)] at h;have h1:=(dP.1 h).1;simp at h1;have:j=k:=by omega
  subst this;rw [hk] at h;simp at h;exact ⟨rfl,h.symm⟩
def kB (s:ByteArray):Rat:=jF s.data.toList
def aWn (qs:List Rat) (w:Wo) (e:Ending) (w':Wo):Prop:=Below w.heap.size w w'/\∃ A n c,e=.returned (.slice A n c)/\iF w' w'.heap.size A n qs/\n<=c/\c<=maxLen/\(0<n->∃ b off,A=some ⟨b,off,none⟩/\w.heap.size<=b)
theorem oL {α:Type} {l:List α} {k:Nat} {x:α} (h:l[k]?=some x):l.take (k+1)=l.take k++[x]:=by
 rw [List.take_add_one,h];rfl
theorem MM (A:OA) (n c:Nat) (ss:List ByteArray) (w:Wo) (hR:bG w w.heap.size A n ss) (hs:∀ s∈ss,cX s.data.toList=0) (hn:n<=1000000) :
    Calls Tryz.prog 62 #[.slice A n c] w (aWn (ss.map kB) w):=by
 have HR:=lH hR;have HS:=lH hs;have HL:=lH hR.1;have HNN:=lH hn;clear hR hs;have tK:∀ w:World,(Instr.makeSlice 93 (.int .i64 (n:Int)) (.int .i64 (n:Int))).run Tryz.prog w=.ok (.slice (some ⟨w.heap.size,0,none⟩) n n) (w.alloc (.cells (fS (List.replicate n EQ)).toArray 115)):=fun w=>PY n hn w;have HK:=lH ((Below.refl w.heap.size w).alloc lR (.cells (fS (List.replicate n EQ)).toArray 115));have HG:=lH (aG.new w 115 (fS (List.replicate n EQ)).toArray);go_enter Tryz.func62,Tryz.ntmps62
 go_wp2_with fail
 clear tK;generalize w.alloc (.cells (fS (List.replicate n EQ)).toArray 115)=W at *;generalize hg:w.heap.size=g at *;have nM:=lH hg;clear hg
 go_loopw [11] (fun v11 wr=>∃ (k:Nat) (vs:List Rv),k<=n/\v11=.int .i64 k/\vs.length=n/\Below g w wr/\aG wr g 115 (fS vs).toArray/\kH wr vs ((ss.map kB).take k)) (fun v11 _=>n-(intOf v11).toNat)
 case atStart=>exact ⟨0,_,by omega,rfl,o3,HK.o,HG.o,fun i q v h=>by simp at h⟩
 case round=>
  clear HK HG;obtain ⟨k,vs,hk,rfl,hvl,hb,hg,hI⟩:=hrel;have HK:=lH hb;have HG:=lH hg;have HI:=lH hI;have OI:=lH hvl;clear hb hg hI hvl
  by_cases aW:k<n
  ·obtain ⟨s,hs⟩:∃ s,ss[k]?=some s:=eO (by have:=HL.o;omega)
   obtain ⟨b,o,hA,hb⟩:=(HR.o.below HK.o (by have:=nM.o;omega)).form (by omega);subst hA;have hc:=(HR.o.below HK.o (by have:=nM.o;omega)).at_ hs;have fT:(k:Int)<(n:Int):=by omega
   have eN:=lN k;have iL:Hid (n-(k+1)<n-k):=lH (by omega);have HSE:(⟨s.data.toList.toArray⟩:ByteArray)=s:=by cases s;simp
   have N6:=fun w=>KL s.data.toList (HS.o s (cO hs)) w;rw [HSE] at N6;replace N6:=lH N6;have HQ:Hid ((ss.map kB).take (k+1)=(ss.map kB).take k++[jF s.data.toList]):=lH (oL (by rw [kI,hs];rfl));clear HSE hs;have qL:b<wr.heap.size:=by have:=HK.o.size;have:=nM.o;omega
   go_wp2_with fail
   refine (N6.o wr).mono ?_;clear hc N6;rintro e w1 ⟨bH,f,C,i,j,f2,C2,i2,j2,rfl,h1⟩;have OM:=lH (HK.o.trans (bH.mono (rC HG.o.lt)));have AS:=lH (HG.o.bl bH);have AR:=lH (HI.o.up bH);have HV:=lH h1;clear bH h1 HK HG HI;obtain ⟨x,hx⟩:∃ x,vs[k]?=some x:=eO (by have:=OI.o;omega);obtain ⟨c0,c1,c2,c3⟩:=W7 AS.o hx;have EZ:=AS.o.frozen;have EY:=AS.o.lt;have HX:=lH hx;clear hx
   go_wp2_with fail
   go_roundw
   case rel=>exact ⟨k+1,vs.set k ⟨f,C,i,j,f2,C2,i2,j2⟩,aW,aQ eN.o,by rw [lF];exact OI.o,kS (v:=⟨f,C,i,j,f2,C2,i2,j2⟩) OM.o lR,aMC AS.o (dP.1 HX.o).1 ⟨f,C,i,j,f2,C2,i2,j2⟩,by
    rw [HQ.o];exact kH.put (v:=⟨f,C,i,j,f2,C2,i2,j2⟩) AR.o AS.o HX.o HV.o (aHh (by rw [jP,lB,HL.o];omega))⟩
   case measure=>exact iL.o
  ·have lS:k=n:=by omega
   subst lS;have fT:¬(k:Int)<(k:Int):=by omega
   go_wp2_with fail
   go_ret;exact ⟨by rw [nM.o];exact HK.o,_,_,_,rfl,by
    have h:=HI.o;rw [nW (by rw [lB,HL.o];exact lR)] at h;exact aHu HG.o OI.o (by rw [lB,HL.o]) h,lR,by have:=HNN.o;unfold maxLen;omega,fun _=>⟨_,_,rfl,by rw [nM.o];exact lR⟩⟩
theorem KV:(Tryz.prog.info? 55).map (fun i=>(i.zero,i.size,i.bytes))=some (some (.string ⟨#[]⟩),1,16):=by kernel_rfl
theorem O0 (n:Nat):madeCells #[Value.string ⟨#[]⟩] n=(fE (List.replicate n ⟨#[]⟩)).toArray:=by
 apply Array.ext';rw [toList_madeCells_one];unfold fE;simp
theorem aAk (n:Nat) (hn:n<=1000000) (w:Wo):(Instr.makeSlice 34 (.int .i64 (n:Int)) (.int .i64 (n:Int))).run Tryz.prog w=.ok (.slice (some ⟨w.heap.size,0,none⟩) n n) (w.alloc (.cells (fE (List.replicate n ⟨#[]⟩)).toArray 55)):=by
 rw [run_make_row' (P:=Tryz.prog) 34 55 (.string ⟨#[]⟩) 16 Tryz.underlying34 KV rfl .i64 .i64 n (by omega) (by omega) w,O0]
def bV (q:Rat):ByteArray:=⟨(iS q).toArray⟩
abbrev aFA (B:Nat) (A:OA):Prop:=∃ g,A=some ⟨g,0,none⟩/\B<=g
def aQO (qs:List Rat) (w:Wo) (e:Ending) (w':Wo):Prop:=Below w.heap.size w w'/\((∀ q∈qs,bZ q)->∃ A n c,e=.returned (.tuple #[.slice A n c,.bool true])/\bG w' w'.heap.size A n (qs.map bV)/\n<=c/\c<=maxLen/\aFA w.heap.size A)/\(¬(∀ q∈qs,bZ q)->e=.returned (.tuple #[.slice none 0 0,.bool false]))
theorem ZJ (A:OA) (n c:Nat) (qs:List Rat) (w:Wo) (hR:iF w w.heap.size A n qs) (hn:n<=1000000) (ht:dA w) :
    Calls Tryz.prog 88 #[.slice A n c] w (aQO qs w):=by
 have HR:=lH hR;have HL:=lH hR.len;have HNN:=lH hn;have HT:=lH ht;clear hR ht;have tK:∀ w:World,(Instr.makeSlice 34 (.int .i64 (n:Int)) (.int .i64 (n:Int))).run Tryz.prog w=.ok (.slice (some ⟨w.heap.size,0,none⟩) n n) (w.alloc (.cells (fE (List.replicate n ⟨#[]⟩)).toArray 55)):=fun w=>aAk n hn w;have HK:=lH ((Below.refl w.heap.size w).alloc lR (.cells (fE (List.replicate n ⟨#[]⟩)).toArray 55));have HG:=lH (aG.new w 55 (fE (List.replicate n ⟨#[]⟩)).toArray);go_enter Tryz.func88,Tryz.ntmps88
 go_wp2_with fail
 clear tK;generalize w.alloc (.cells (fE (List.replicate n ⟨#[]⟩)).toArray 55)=W at *;generalize hg:w.heap.size=g at *;have nM:=lH hg;clear hg
 go_loopw [14] (fun v14 wr=>∃ (k:Nat) (ts:List ByteArray),k<=n/\v14=.int .i64 k/\ts.length=n/\Below g w wr/\aG wr g 55 (fE ts).toArray/\(∀ (i:Nat) (q:Rat),i<k->qs[i]?=some q->bZ q/\ts[i]?=some (bV q))) (fun v14 _=>n-(intOf v14).toNat)
 case atStart=>exact ⟨0,_,by omega,rfl,o3,HK.o,HG.o,fun i q h=>by omega⟩
 case round=>
  clear HK HG;obtain ⟨k,ts,hk,rfl,hvl,hb,hg,hI⟩:=hrel;have HK:=lH hb;have HG:=lH hg;have HI:=lH hI;have OI:=lH hvl;clear hb hg hI hvl
  by_cases aW:k<n
  ·obtain ⟨q,hq⟩:∃ q,qs[k]?=some q:=eO (by have:=HL.o;omega)
   obtain ⟨b,o,hA,hb⟩:=(HR.o.below HK.o (by have:=nM.o;omega)).form (by omega);subst hA;obtain ⟨v,c0,c1,c2,c3,hV⟩:=(HR.o.below HK.o (by have:=nM.o;omega)).at_ hq;have HQ:=lH hq;have HV:=lH hV;have fT:(k:Int)<(n:Int):=by omega
   have eN:=lN k;have iL:Hid (n-(k+1)<n-k):=lH (by omega);have qL:b<wr.heap.size:=by have:=HK.o.size;have:=nM.o;omega
   clear hq hV
   go_wp2_with fail
   generalize yP:wr.alloc (.cells #[.bool v.b1,.slice v.A v.n v.c,.bool v.b2,.slice v.A2 v.m v.d] 115)=wa at *;have AD:Below wr.heap.size wr wa:=by rw [<-yP];exact bA
   clear yP;refine (BL q v.b1 v.A v.n v.c v.b2 v.A2 v.m v.d wa ((dE.below HV.o AD (by have:=nM.o;have:=HG.o.lt;omega)).more (by have:=AD.size;have:=nM.o;have:=HG.o.lt;omega)) (HT.o.up (by rw [nM.o];exact HK.o.trans (AD.mono (rC HG.o.lt))))).mono ?_;clear c0 c1 c2 c3;rintro e w1 ⟨bH,s,rfl,hs⟩;have bL:=AD.tm bH;have OM:=lH (HK.o.trans (bL.mono (rC HG.o.lt)));have AS:=lH (HG.o.bl bL);have HS:=lH hs;clear AD bH bL hs HK HG;have EZ:=AS.o.frozen;have EY:=AS.o.lt;obtain ⟨y,hy⟩:∃ y,ts[k]?=some y:=eO (by have:=OI.o;omega);have hgc:w1.cell? ⟨g,k,none⟩=some (.string y):=by rw [AS.o.cell k];unfold fE;simp [hy]
   clear hy
   by_cases hf:bZ q
   ·have HF:=lH hf
    rw [decide_eq_true hf];clear hf
    go_wp2_with fail
    go_roundw
    case rel=>exact ⟨k+1,ts.set k s,aW,aQ eN.o,by rw [lF];exact OI.o,OM.o.setCell lR _,AS.o.set_at _ (by unfold fE;rw [List.map_set];simp),fun i q' hi hq'=>by
     by_cases zZ:i=k
     ·subst zZ
      rw [HQ.o] at hq';injection hq' with hq';subst hq';refine ⟨HF.o,?_⟩;rw [List.getElem?_set_self (by have:=OI.o;omega),HS.o HF.o];rfl
     ·rw [List.getElem?_set_ne (by omega)]
      exact HI.o i q' (by omega) hq'⟩
    case measure=>exact iL.o
   ·have HF:=lH hf
    rw [decide_eq_false hf];clear hf
    go_wp2_with fail
    go_ret2;exact ⟨by rw [nM.o];exact OM.o,fun h=>absurd (h q (cO HQ.o)) HF.o,fun _=>rfl⟩
  ·have lS:k=n:=by omega
   subst lS;have fT:¬(k:Int)<(k:Int):=by omega
   go_wp2_with fail
   go_ret2;have hts:ts=qs.map bV:=by
    apply List.ext_getElem?;intro i
    by_cases hi:i<k
    ·obtain ⟨q,hq⟩:∃ q,qs[i]?=some q:=eO (by have:=HL.o;omega)
     rw [(HI.o i q hi hq).2,kI,hq];rfl
    ·rw [List.getElem?_eq_none (by have:=OI.o;omega),List.getElem?_eq_none (by rw [lB,HL.o];omega)]
   have wU:∀ q∈qs,bZ q:=fun q hq=>by
    obtain ⟨i,hi⟩:=List.getElem?_of_mem hq;exact (HI.o i q (by have:=(dP.1 hi).1;have:=HL.o;omega) hi).1
   exact ⟨by rw [nM.o];exact HK.o,fun _=>⟨_,_,_,rfl,by rw [<-hts];have h:=eR HG.o HG.o.lt;rw [OI.o] at h;exact h,lR,by have:=HNN.o;unfold maxLen;omega,⟨_,rfl,Nat.le_of_eq nM.o⟩⟩,fun h=>absurd wU h⟩
end
section
open Go.ChangeShapes Go.WideShapes Go.ChangeAt Go.RowKit Go.Joins
def oX (u:Value):Prop:=∀ k x,u≠.int k x
theorem dL.keeps {w w':Wo} {base e:Nat} {q:Rat} {v:Rv} (h:dL w w.heap.size q v) (k:dY oX base e w w'):dL w' w'.heap.size q v:=by
 have key:∀ {A:OA} {n:Nat} {l:List Nat},iR w w.heap.size A n l->iR w' w'.heap.size A n l:=fun h=>⟨h.1,fun hn=>by
  obtain ⟨b,off,e,aW,hc⟩:=h.2 hn;refine ⟨b,off,e,jO aW k.size,fun j u hu=>k.cell _ _ (hc j u hu) ?_⟩;obtain ⟨x,rfl⟩:=L_ hu;exact fun hno=>hno _ _ rfl⟩
 exact ⟨⟨h.num.eb,h.num.en,key h.num.rd,h.num.nc,h.num.cm⟩,⟨h.den.eb,h.den.en,key h.den.rd,h.den.nc,h.den.cm⟩⟩
structure fH (w:Wo) (base:Nat) (v:Value) (vs:List Rv) (qs:List Rat):Prop where
 own:bJ oX w base 115 4 v vs.length (fS vs)
 len:vs.length=qs.length
 ok:kH w vs qs
theorem fH.keep {w w':Wo} {base:Nat} {v:Value} {vs:List Rv} {qs:List Rat} (h:fH w base v vs qs) (hb:Below w.heap.size w w'):fH w' base v vs qs:=⟨h.own.keep hb,h.len,h.ok.up hb⟩
theorem oQ (w:Wo) (base:Nat):fH w base (.slice none 0 0) [] []:=⟨dO _ _ _ _ _,rfl,fun i q v h=>by simp at h⟩
theorem FT (v:Rv):∀ u∈v.cells,u.oneCell'=true/\oX u:=fun u hu=>by
 simp [Rv.cells] at hu;rcases hu with rfl | rfl | rfl | rfl<;>exact ⟨rfl,fun k x h=>by cases h⟩
theorem fH.app {w w':Wo} {base:Nat} {v v':Value} {vs:List Rv} {qs:List Rat} {u:Rv} {q:Rat} (h:fH w base v vs qs) (hq:dL w w.heap.size q u) (h2:bJ oX w' base 115 4 v' (vs.length+1) (fS vs++u.cells)) (hk:dY oX base 115 w w'):fH w' base v' (vs++[u]) (qs++[q]):=by
 refine ⟨by rw [iC,List.length_singleton];simpa [fS] using h2,by rw [iC,iC,h.len];rfl,fun i p x hp hx=>?_⟩
 by_cases hi:i<qs.length
 ·rw [xQ hi] at hp
  rw [xQ (by rw [h.len];exact hi)] at hx;exact (h.ok i p x hp hx).keeps hk
 ·rw [AZ (by omega)] at hp
  rw [AZ (by rw [h.len];omega),h.len] at hx;have DG:=(dP.1 hp).1;rw [List.length_singleton] at DG;have:i-qs.length=0:=by omega
  rw [this] at hp hx;simp at hp hx;subst hp;subst hx;exact dL.keeps hq hk
theorem fH.rd {w:Wo} {base:Nat} {v:Value} {vs:List Rv} {qs:List Rat} (h:fH w base v vs qs):∃ A c,v=.slice A qs.length c/\iF w w.heap.size A qs.length qs/\qs.length<=c/\c<=maxLen/\(0<qs.length->∃ b off,A=some ⟨b,off,none⟩/\base<=b):=by
 obtain ⟨A,c,hv,hr,h1,h2,h3⟩:=sL h.own.own;rw [h.len] at hv hr h1 h3;exact ⟨A,c,hv,⟨vs,h.len,rfl,hr,h.ok⟩,h1,h2,h3⟩
theorem rN:∃ i,Tryz.prog.info? 115=some i/\i.zero=some (.agg #[.bool false,.slice none 0 0,.bool false,.slice none 0 0])/\i.size=4/\i.bytes=64:=info_parts P8
theorem xP:∀ u∈(Value.agg #[.bool false,.slice none 0 0,.bool false,.slice none 0 0]).cells.toList,oX u:=fun u hu=>by
 have QA:u∈[Value.bool false,.slice none 0 0,.bool false,.slice none 0 0]:=hu;simp only [List.mem_cons,List.not_mem_nil,or_false] at QA;rcases QA with rfl | rfl | rfl | rfl<;>exact fun k x h=>by cases h
end
section
open Go.ChangeShapes Go.WideShapes Go.ChangeAt Go.RowKit
attribute [local go_sem ↓] aE
attribute [local go_sem] aK aH aM aY
def TvP (qs:List Rat) (w:Wo) (e:Ending) (w':Wo):Prop:=Below w.heap.size w w'/\((∀ q∈qs,bZ q)->∃ A n c,e=.returned (.tuple #[.slice A n c,.int .i64 0])/\bG w' w'.heap.size A n (qs.map bV)/\n<=c/\c<=maxLen)/\(¬(∀ q∈qs,bZ q)->e=.returned (.tuple #[.slice none 0 0,.int .i64 2]))
def TvN (qs:List Rat) (w:Wo) (e:Ending) (w':Wo):Prop:=Below w.heap.size w w'/\((∀ q∈qs,bZ q)->∃ A n c,e=.returned (.tuple #[.slice A n c,.int .i64 0])/\bG w' w'.heap.size A n (qs.map bV)/\n<=c/\c<=maxLen/\aFA w.heap.size A)/\(¬(∀ q∈qs,bZ q)->e=.returned (.tuple #[.slice none 0 0,.int .i64 2]))
theorem C4 (A:OA) (n c:Nat) (qs:List Rat) (w:Wo) (hR:iF w w.heap.size A n qs) (hn:n<=1000000) (ht:dA w) :
    Calls Tryz.prog 49 #[.slice A n c] w (TvN qs w):=by
 have HC:=lH (ZJ A n c qs w hR hn ht);clear hR ht;go_enter Tryz.func49,Tryz.ntmps49
 go_wp2_with fail
 refine HC.o.mono ?_;rintro e w1 ⟨hb,h1,h2⟩;have HB:=lH hb
 by_cases hf:∀ q∈qs,bZ q
 ·obtain ⟨C,m,d,rfl,h3,h4,h5,h6⟩:=h1 hf
  have H3:=lH h3;have H6:=lH h6;have HF:=lH hf;clear hf h1 h2 h3 h6 hb HC
  go_wp2_with fail
  go_ret2;exact ⟨HB.o,fun _=>⟨_,_,_,rfl,H3.o,h4,h5,H6.o⟩,fun h=>absurd HF.o h⟩
 ·have he:=h2 hf
  subst he;have HF:=lH hf;clear hf h1 h2 hb HC
  go_wp2_with fail
  go_ret2;exact ⟨HB.o,fun h=>absurd h HF.o,fun _=>rfl⟩
theorem qB (A:OA) (n c:Nat) (qs:List Rat) (w:Wo) (hR:iF w w.heap.size A n qs) (hn:n<=1000000) (ht:dA w) :
    Calls Tryz.prog 49 #[.slice A n c] w (TvP qs w):=(C4 A n c qs w hR hn ht).mono fun e w' h=>by
 obtain ⟨h1,h2,h3⟩:=h;refine ⟨h1,fun hf=>?_,h3⟩;obtain ⟨A,n,c,a1,a2,a3,a4,-⟩:=h2 hf;exact ⟨A,n,c,a1,a2,a3,a4⟩
def RnP (q:Rat) (w:Wo) (e:Ending) (w':Wo):Prop:=Below w.heap.size w w'/\(bZ q->e=.returned (.tuple #[.string (bV q),.int .i64 0]))/\(¬bZ q->e=.returned (.tuple #[.string ⟨#[]⟩,.int .i64 2]))
theorem aE0 {n K:Nat} (h:xI n<=K):dK n<=K:=by
 refine jV (jO (aDH n) ?_);refine cV (xT h) ?_;unfold BB;exact Nat.pow_le_pow_left (by decide) _
theorem Q2 {n:Nat} (h:xI n<=2000):dK n<=2000:=aE0 h
theorem nF {q:Rat} (h:bZ q):bU q<=2000:=Nat.max_le.2 ⟨Q2 h.1,Q2 h.2⟩
theorem gI {s:ByteArray} (h:cX s.data.toList=0):bZ (kB s):=(uD h).2.2.2.1
def OpP (f:Rat->Rat->Rat) (a b:ByteArray) (w:Wo) (e:Ending) (w':Wo):Prop:=Below w.heap.size w w'/\(dQ [a,b]≠0->e=.returned (.tuple #[.string ⟨#[]⟩,.int .i64 (dQ [a,b])]))/\(dQ [a,b]=0->RnP (f (kB a) (kB b)) w e w')
theorem aAT (s:ByteArray):(⟨s.data.toList.toArray⟩:ByteArray)=s:=by cases s;simp
theorem rQ {s:ByteArray} (h:cX s.data.toList=0) (w:Wo):Calls Tryz.prog 67 #[.string s] w (YZ (kB s) w):=by
 have:=KL s.data.toList h w;rwa [aAT] at this
theorem GY {p q:Rat} (hp:bZ p) (hq:bZ q):bU p+bU q+1<=35184372088832:=by
 have:=nF hp;have:=nF hq;omega
def rnS (q:Rat):ByteArray:=if bZ q then bV q else ⟨#[]⟩
def rnE (q:Rat):Int:=if bZ q then 0 else 2
theorem RnP.out {q:Rat} {w w':Wo} {e:Ending} (h:RnP q w e w'):e=.returned (.tuple #[.string (rnS q),.int .i64 (rnE q)])/\Below w.heap.size w w':=by
 obtain ⟨hb,h1,h2⟩:=h;unfold rnS rnE
 by_cases hf:bZ q
 ·rw [if_pos hf,if_pos hf];exact ⟨h1 hf,hb⟩
 ·rw [if_neg hf,if_neg hf];exact ⟨h2 hf,hb⟩
def opS (f:Rat->Rat->Rat) (a b:ByteArray):ByteArray:=if dQ [a,b]=0 then rnS (f (kB a) (kB b)) else ⟨#[]⟩
def opE (f:Rat->Rat->Rat) (a b:ByteArray):Int:=if dQ [a,b]=0 then rnE (f (kB a) (kB b)) else dQ [a,b]
theorem OpP.out {f:Rat->Rat->Rat} {a b:ByteArray} {w w':Wo} {e:Ending} (h:OpP f a b w e w'):e=.returned (.tuple #[.string (opS f a b),.int .i64 (opE f a b)])/\Below w.heap.size w w':=by
 obtain ⟨hb,h1,h2⟩:=h;unfold opS opE
 by_cases hf:dQ [a,b]=0
 ·rw [if_pos hf,if_pos hf];exact (h2 hf).out
 ·rw [if_neg hf,if_neg hf];exact ⟨h1 hf,hb⟩
theorem kV {q:Rat} (h:bZ q):cX (bV q).data.toList=0/\kB (bV q)=q:=by
 have:=S9 h;unfold bV kB;simpa using this
theorem aCv (z:Int):(jD z).length<=xI z.natAbs+1:=by
 unfold jD xI;rw [iC]
 split<;>simp<;>omega
theorem aCq {q:Rat} (h:bZ q):(bV q).size<=4002:=by
 rw [Lib.size_eq];unfold bV iS;have h1:=aCv q.num;obtain ⟨h2,h3⟩:=h;unfold xI at h3;simp only [iC]
 split<;>simp<;>omega
def RI (p q:Rat):Int:=(p.num*(q.den:Int)-q.num*(p.den:Int)).sign
end
section
open Go.ChangeShapes Go.WideShapes Go.ChangeAt Go.RowKit
structure Hd where
 A:OA
 n:Nat
 c:Nat
def Hd.val (h:Hd):Value:=.slice h.A h.n h.c
def Hd.cells (h:Hd):List Value:=[h.val]
theorem Hd.len (h:Hd):h.cells.length=1:=rfl
def jZ (w:Wo) (B:Nat) (A:OA) (n:Nat) (M:List (List Rat)):Prop:=∃ hs:List Hd,hs.length=n/\M.length=n/\Rd w B 1 A n (hs.map Hd.val)/\∀ (i:Nat) (h:Hd) (q:List Rat),hs[i]?=some h->M[i]?=some q->iF w B h.A h.n q/\h.n<=h.c/\h.c<=maxLen
section
variable {w w':Wo} {B B' n:Nat} {A:OA} {M:List (List Rat)}
theorem jZ.below (h:jZ w B A n M) (hb:Below B' w w') (hB:B<=B'):jZ w' B A n M:=by
 obtain ⟨hs,h1,h2,h3,h4⟩:=h;exact ⟨hs,h1,h2,h3.below hb hB,fun i h q hq hv=>⟨(h4 i h q hq hv).1.below hb hB,(h4 i h q hq hv).2⟩⟩
theorem jZ.more (h:jZ w B A n M) (hB:B<=B'):jZ w B' A n M:=by
 obtain ⟨hs,h1,h2,h3,h4⟩:=h;exact ⟨hs,h1,h2,h3.more hB,fun i h q hq hv=>⟨(h4 i h q hq hv).1.more hB,(h4 i h q hq hv).2⟩⟩
theorem jZ.up (h:jZ w w.heap.size A n M) (hb:Below w.heap.size w w'):jZ w' w'.heap.size A n M:=(h.below hb lR).more hb.size
theorem jZ.len (h:jZ w B A n M):M.length=n:=by obtain ⟨_,_,h,_⟩:=h;exact h
theorem jZ.form (h:jZ w B A n M) (h0:0<n):∃ b off,A=some ⟨b,off,none⟩/\b<B:=by
 obtain ⟨hs,_,_,h3,_⟩:=h;obtain ⟨b,off,e,aW,_⟩:=h3.2 h0;exact ⟨b,off,e,aW⟩
theorem jZ.at_ {b off i:Nat} {q:List Rat} (h:jZ w B (some ⟨b,off,none⟩) n M) (hq:M[i]?=some q):∃ h:Hd,w.cell? ⟨b,off+i,none⟩=some (.slice h.A h.n h.c)/\iF w B h.A h.n q/\h.n<=h.c/\h.c<=maxLen:=by
 obtain ⟨hs,h1,h2,h3,h4⟩:=h;have hi:=(dP.1 hq).1;obtain ⟨v,hv⟩:∃ v,hs[i]?=some v:=eO (by omega);obtain ⟨b',off',e,_,hc⟩:=h3.2 (by omega);injection e with e;injection e with e1 e2;subst e1;subst e2;exact ⟨v,hc i _ (by rw [kI,hv];rfl),h4 i v q hv hq⟩
theorem jZ.take {m:Nat} (h:jZ w B A n M) (hm:m<=n):jZ w B A m (M.take m):=by
 obtain ⟨hs,h1,h2,h3,h4⟩:=h;refine ⟨hs.take m,by rw [jP,h1];omega,by rw [jP,h2];omega,⟨by simp;omega,fun h0=>?_⟩,fun j h q hh hq=>?_⟩
 ·obtain ⟨b',off',e,aW,hc⟩:=h3.2 (by omega)
  refine ⟨b',off',e,aW,fun j u hu=>hc j u ?_⟩;rw [List.map_take] at hu;have hj:=(dP.1 hu).1;rw [jP] at hj;rwa [List.getElem?_take_of_lt (by omega)] at hu
 ·have hj:=(dP.1 hh).1
  rw [jP] at hj;rw [List.getElem?_take_of_lt (by omega)] at hh hq;exact h4 _ _ _ hh hq
end
structure Mh where
 A:OA
 g:Nat
 c:Nat
 vs:List Rv
def Mh.hd (h:Mh):Value:=.slice h.A h.vs.length h.c
structure sB (w:Wo) (base g:Nat) (h:Mh) (q:List Rat):Prop where
 len:h.vs.length=q.length
 cap:h.vs.length<=h.c
 cm:h.c<=maxLen
 ok:kH w h.vs q
 lies:0<q.length->h.A=some ⟨h.g,0,none⟩/\base<=h.g/\h.g≠g/\∃ cs,aG w h.g 115 cs/\cs.toList.take (q.length*4)=fS h.vs
theorem aG.row_cell {w:Wo} {g t i m:Nat} {cs:Array Value} {vs:List Rv} {v:Rv} (h:aG w g t cs) (ht:cs.toList.take m=fS vs) (hv:vs[i]?=some v):w.cell? ⟨g,i*4,none⟩=some (.bool v.b1)/\w.cell? ⟨g,i*4+1,none⟩=some (.slice v.A v.n v.c)/\w.cell? ⟨g,i*4+2,none⟩=some (.bool v.b2)/\w.cell? ⟨g,i*4+3,none⟩=some (.slice v.A2 v.m v.d):=by
 have hk:=fun k (hk:k<4)=>uH hv k hk;have key:∀ k,k<4->∀ u,v.cells[k]?=some u->w.cell? ⟨g,i*4+k,none⟩=some u:=fun k h4 u hu=>by
  rw [h.cell];have h1:=hk k h4;rw [hu,<-ht] at h1;have h2:=(dP.1 h1).1;rw [jP] at h2;rw [List.getElem?_take_of_lt (by omega)] at h1;simpa using h1
 exact ⟨key 0 (by decide) _ rfl,key 1 (by decide) _ rfl,key 2 (by decide) _ rfl,key 3 (by decide) _ rfl⟩
theorem dL.keep4 {w:Wo} {q:Rat} {u:Rv} (h:dL w w.heap.size q u) {g t i m:Nat} {cs:Array Value} {vs:List Rv} {x:Rv} (v:Rv) (hb:aG w g t cs) (ht:cs.toList.take m=fS vs) (hx:vs[i]?=some x):dL (gB w g i v) (gB w g i v).heap.size q u:=by
 obtain ⟨c0,c1,c2,c3⟩:=hb.row_cell ht hx;have ne:∀ (a b:Nat),a≠b->(⟨g,a,none⟩:Addr)≠⟨g,b,none⟩:=fun a b h e=>h (by injection e);have off:∀ (w:Wo) (a b:Nat) (u v:Value),a≠b->w.cell? ⟨g,b,none⟩=some v->(w.setCell ⟨g,a,none⟩ u).cell? ⟨g,b,none⟩=some v:=fun w a b u v oS hv=>by
  rw [World.cell?_setCell_other _ _ _ _ (ne a b oS)];exact hv
 have h':dE w w.heap.size q u.b1 u.A u.n u.c u.b2 u.A2 u.m u.d:=h;exact (((h'.keep c0 (by simp) _).keep (off _ _ _ _ _ (by omega) c1) (by simp) _).keep (off _ _ _ _ _ (by omega) (off _ _ _ _ _ (by omega) c2)) (by simp) _).keep (off _ _ _ _ _ (by omega) (off _ _ _ _ _ (by omega) (off _ _ _ _ _ (by omega) c3))) (by simp) _
theorem aG.far4 {w:Wo} {g g' t i:Nat} {cs:Array Value} (v:Rv) (h:aG w g' t cs) (hg:g'≠g):aG (gB w g i v) g' t cs:=(((h.far hg _).far hg _).far hg _).far hg _
theorem Z7 (w:Wo) (g i:Nat) (v:Rv):(gB w g i v).heap.size=w.heap.size:=by simp [gB]
theorem rJ {α:Type} (l:List α) (m k:Nat) (u:α) (hk:k<m):(l.set k u).take m=(l.take m).set k u:=by
 apply List.ext_getElem?;intro j
 by_cases hj:j<m
 ·rw [List.getElem?_take_of_lt hj,List.getElem?_set,List.getElem?_set,List.getElem?_take_of_lt hj,jP]
  by_cases h1:k=j
  ·subst h1
   rw [if_pos rfl,if_pos rfl]
   split<;>split<;>first | rfl | omega
  ·simp [h1]
 ·rw [List.getElem?_eq_none (by simp;omega),List.getElem?_eq_none (by simp;omega)]
theorem aG.row_put {w:Wo} {g t i n:Nat} {cs:Array Value} {vs:List Rv} (v:Rv) (h:aG w g t cs) (ht:cs.toList.take (n*4)=fS vs) (hn:vs.length=n) (hi:i<n):∃ cs',aG (gB w g i v) g t cs'/\cs'.toList.take (n*4)=fS (vs.set i v):=by
 refine ⟨_,(((h.set_ (i*4) (.bool v.b1)).set_ (i*4+1) (.slice v.A v.n v.c)).set_ (i*4+2) (.bool v.b2)).set_ (i*4+3) (.slice v.A2 v.m v.d),?_⟩;rw [<-MG vs i v (by omega),<-ht];simp only [Array.toList_setIfInBounds];rw [rJ _ _ _ _ (by omega),rJ _ _ _ _ (by omega),rJ _ _ _ _ (by omega),rJ _ _ _ _ (by omega)]
section
variable {w w':Wo} {base g:Nat} {h:Mh} {q:List Rat}
theorem sB.up (r:sB w base g h q) (hb:Below w.heap.size w w'):sB w' base g h q:=
 ⟨r.len,r.cap,r.cm,r.ok.up hb,fun h0=>by
  obtain ⟨h1,h2,h3,cs,h4,h5⟩:=r.lies h0;exact ⟨h1,h2,h3,cs,h4.bl hb,h5⟩⟩
theorem PV (w:Wo) (base g g':Nat) (A:OA) (c:Nat) (hc:c<=maxLen):sB w base g ⟨A,g',c,[]⟩ []:=
 ⟨rfl,Nat.zero_le _,hc,fun i q v h=>by simp at h,fun h=>by simp at h⟩
theorem sB.rd (r:sB w base g h q):iF w w.heap.size h.A q.length q:=by
 refine ⟨h.vs,r.len,rfl,⟨by rw [d9,r.len],fun h0=>?_⟩,r.ok⟩;obtain ⟨h1,h2,h3,cs,h4,h5⟩:=r.lies h0;refine ⟨h.g,0,h1,h4.lt,fun j u hu=>?_⟩;rw [Nat.zero_add,h4.cell j];rw [<-h5] at hu;have hj:=(dP.1 hu).1;rw [jP] at hj;rw [List.getElem?_take_of_lt (by omega)] at hu;simpa using hu
end
structure iY (w:Wo) (base g:Nat) (hs:List Mh) (M:List (List Rat)):Prop where
 top:aG w g 93 (hs.map Mh.hd).toArray
 len:hs.length=M.length
 gb:base<=g
 row:∀ (i:Nat) (h:Mh) (q:List Rat),hs[i]?=some h->M[i]?=some q->sB w base g h q
 dis:∀ (i j:Nat) (h h':Mh),i≠j->hs[i]?=some h->hs[j]?=some h'->0<h.vs.length->0<h'.vs.length->h.g≠h'.g
section
variable {w w':Wo} {base g:Nat} {hs:List Mh} {M:List (List Rat)}
theorem iY.up (o:iY w base g hs M) (hb:Below w.heap.size w w'):iY w' base g hs M:=
 ⟨o.top.bl hb,o.len,o.gb,fun i h q hh hq=>(o.row i h q hh hq).up hb,o.dis⟩
theorem iY.get (o:iY w base g hs M) {i:Nat} {q:List Rat} (hq:M[i]?=some q):∃ h,hs[i]?=some h/\w.cell? ⟨g,i,none⟩=some (.slice h.A q.length h.c)/\sB w base g h q:=by
 obtain ⟨h,hh⟩:∃ h,hs[i]?=some h:=eO (by rw [o.len];exact (dP.1 hq).1);have hr:=o.row i h q hh hq;refine ⟨h,hh,?_,hr⟩;rw [o.top.cell,List.getElem?_toArray,kI,hh,<-hr.len];rfl
theorem iY.rd (o:iY w base g hs M):jZ w w.heap.size (some ⟨g,0,none⟩) M.length M:=by
 refine ⟨hs.map fun h=>⟨h.A,h.vs.length,h.c⟩,by rw [lB,o.len],rfl,⟨by simp [o.len],fun _=>⟨g,0,rfl,o.top.lt,fun j u hu=>?_⟩⟩,fun i h q hh hq=>?_⟩
 ·rw [Nat.zero_add,o.top.cell j,List.getElem?_toArray]
  rw [List.map_map] at hu;exact hu
 ·rw [kI] at hh
  obtain ⟨h',hh',rfl⟩:=Option.map_eq_some_iff.1 hh;have hr:=o.row i h' q hh' hq;refine ⟨?_,hr.cap,hr.cm⟩;have:=hr.rd;rw [<-hr.len] at this;exact this
theorem iY.put (o:iY w base g hs M) {i j:Nat} {h:Mh} {q:List Rat} {v:Rv} {x:Rat} (hh:hs[i]?=some h) (hq:M[i]?=some q) (hj:j<q.length) (hv:dL w w.heap.size x v) :
    iY (gB w h.g j v) base g (hs.set i ⟨h.A,h.g,h.c,h.vs.set j v⟩) (M.set i (q.set j x)):=by
 have hr:=o.row i h q hh hq;obtain ⟨h1,h2,h3,cs,h4,h5⟩:=hr.lies (by omega);obtain ⟨y,hy⟩:∃ y,h.vs[j]?=some y:=eO (by rw [hr.len];exact hj);have CD:=(dP.1 hh).1;have pY:∀ {us:List Rv} {ps:List Rat},kH w us ps->kH (gB w h.g j v) us ps:=fun H k p u hp hu=>dL.keep4 (H k p u hp hu) v h4 h5 hy;refine ⟨?_,by rw [lF,lF,o.len],o.gb,fun k h' q' hk hkq=>?_,fun a b ha hb oS K7 I2 l1 l2=>?_⟩
 ·have e:(hs.set i ⟨h.A,h.g,h.c,h.vs.set j v⟩).map Mh.hd=hs.map Mh.hd:=by
   rw [List.map_set];apply List.ext_getElem?;intro k;rw [List.getElem?_set]
   by_cases hk:i=k
   ·subst hk
    rw [lB,kI,hh];simp [CD,Mh.hd]
   ·rw [if_neg hk]
  rw [e];exact o.top.far4 v (fun e=>h3 e.symm)
 ·rw [List.getElem?_set] at hk hkq
  by_cases zZ:i=k
  ·subst zZ
   rw [if_pos rfl,if_pos CD] at hk;rw [if_pos rfl,if_pos (by rw [<-o.len];exact CD)] at hkq;injection hk with hk;injection hkq with hkq;subst hk;subst hkq;obtain ⟨cs',k1,k2⟩:=h4.row_put v h5 hr.len hj;refine ⟨by simp [hr.len],by simpa using hr.cap,hr.cm,fun a p u hp hu=>?_,fun _=>⟨h1,h2,h3,cs',k1,by rw [lF];exact k2⟩⟩;simp only at hu;rw [List.getElem?_set] at hp hu
   by_cases hja:j=a
   ·subst hja
    rw [if_pos rfl,if_pos hj] at hp;rw [if_pos rfl,if_pos (by rw [hr.len];exact hj)] at hu;injection hp with hp;injection hu with hu;subst hp;subst hu;exact dL.keep4 hv v h4 h5 hy
   ·rw [if_neg hja] at hp hu
    exact pY hr.ok a p u hp hu
  ·rw [if_neg zZ] at hk hkq
   have GM:=o.row k h' q' hk hkq;refine ⟨GM.len,GM.cap,GM.cm,pY GM.ok,fun h0=>?_⟩;obtain ⟨a1,a2,a3,cs',a4,a5⟩:=GM.lies h0;exact ⟨a1,a2,a3,cs',a4.far4 v (o.dis k i h' h (fun e=>zZ e.symm) hk hh (by rw [GM.len];exact h0) (by rw [hr.len];omega)),a5⟩
 ·rw [List.getElem?_set] at K7 I2
  have key:∀ (k:Nat) (z:Mh),(if i=k then (if i<hs.length then some (⟨h.A,h.g,h.c,h.vs.set j v⟩:Mh) else none) else hs[k]?)=some z->∃ z',hs[k]?=some z'/\z'.g=z.g/\z'.vs.length=z.vs.length:=fun k z hz=>by
   by_cases zZ:i=k
   ·subst zZ
    rw [if_pos rfl,if_pos CD] at hz;injection hz with hz;subst hz;exact ⟨h,hh,rfl,by simp⟩
   ·rw [if_neg zZ] at hz
    exact ⟨z,hz,rfl,rfl⟩
  obtain ⟨z1,k1,k2,k3⟩:=key a ha K7;obtain ⟨z2,k4,k5,k6⟩:=key b hb I2;rw [<-k2,<-k5];exact o.dis a b z1 z2 oS k1 k4 (by omega) (by omega)
theorem iY.setRow (o:iY w base g hs M) {i:Nat} {h:Mh} {q:List Rat} (hi:i<M.length) (hr:sB w base g h q) (hd:∀ (j:Nat) (h':Mh),j≠i->hs[j]?=some h'->0<h'.vs.length->0<h.vs.length->h'.g≠h.g) :
    iY (w.setCell ⟨g,i,none⟩ (.slice h.A q.length h.c)) base g (hs.set i h) (M.set i q):=by
 have CD:i<hs.length:=by rw [o.len];exact hi
 have pY:∀ {us:List Rv} {ps:List Rat} (u:Value),kH w us ps->kH (w.setCell ⟨g,i,none⟩ u) us ps:=fun u H k p v hp hv=>by
  have h0:dE w w.heap.size p v.b1 v.A v.n v.c v.b2 v.A2 v.m v.d:=H k p v hp hv;refine dE.keep h0 (v:=(hs.map Mh.hd)[i]'(by simpa using CD)) ?_ (fun a b e=>?_) u
  ·rw [o.top.cell];simp [CD]
  ·simp [Mh.hd] at e
 have iH:∀ {h:Mh} {q:List Rat} (u:Value),sB w base g h q->sB (w.setCell ⟨g,i,none⟩ u) base g h q:=fun u r=>
  ⟨r.len,r.cap,r.cm,pY u r.ok,fun h0=>by
   obtain ⟨h1,h2,h3,cs,h4,h5⟩:=r.lies h0;exact ⟨h1,h2,h3,cs,h4.far h3 u,h5⟩⟩
 refine ⟨?_,by rw [lF,lF,o.len],o.gb,fun k h' q' hk hkq=>?_,fun a b ha hb oS K7 I2 l1 l2=>?_⟩
 ·have:=o.top.set_ i (.slice h.A q.length h.c)
  rw [List.map_set];rw [<-hr.len] at this ⊢;simpa [Mh.hd] using this
 ·rw [List.getElem?_set] at hk hkq
  by_cases zZ:i=k
  ·subst zZ
   rw [if_pos rfl,if_pos CD] at hk;rw [if_pos rfl,if_pos hi] at hkq;injection hk with hk;injection hkq with hkq;subst hk;subst hkq;exact iH _ hr
  ·rw [if_neg zZ] at hk hkq
   exact iH _ (o.row k h' q' hk hkq)
 ·rw [List.getElem?_set] at K7 I2
  by_cases hia:i=a
  ·subst hia
   rw [if_pos rfl,if_pos CD] at K7;injection K7 with K7;subst K7;rw [if_neg oS] at I2;exact fun e=>hd b hb (fun e=>oS e.symm) I2 l2 l1 e.symm
  ·rw [if_neg hia] at K7
   by_cases hib:i=b
   ·subst hib
    rw [if_pos rfl,if_pos CD] at I2;injection I2 with I2;subst I2;exact hd a ha (fun e=>hia e.symm) K7 l1 l2
   ·rw [if_neg hib] at I2
    exact o.dis a b ha hb oS K7 I2 l1 l2
theorem iY.swap (o:iY w base g hs M) {r p:Nat} {a b:List Rat} {ha hb:Mh} (h1:hs[r]?=some ha) (h2:hs[p]?=some hb) (h3:M[r]?=some a) (h4:M[p]?=some b) :
    iY ((w.setCell ⟨g,r,none⟩ (.slice hb.A b.length hb.c)).setCell ⟨g,p,none⟩ (.slice ha.A a.length ha.c)) base g ((hs.set r hb).set p ha) ((M.set r b).set p a):=by
 have rX:=(dP.1 h1).1;have CC:=(dP.1 h2).1;have ra:=o.row r ha a h1 h3;have rb:=o.row p hb b h2 h4;have pY:∀ {w:Wo} {cs:Array Value} {us:List Rv} {ps:List Rat} {i:Nat} {x:Value} (u:Value),aG w g 93 cs->cs[i]?=some x->(∀ k y,x≠.int k y)->kH w us ps->kH (w.setCell ⟨g,i,none⟩ u) us ps:=fun {w cs us ps i x} u hb hc hx H k p v hp hv=>by
  have h0:dE w w.heap.size p v.b1 v.A v.n v.c v.b2 v.A2 v.m v.d:=H k p v hp hv;refine dE.keep h0 (v:=x) ?_ hx u;rw [hb.cell];exact hc
 have LB:=o.top.set_ r (.slice hb.A b.length hb.c);have X8:∀ (i:Nat) (z:Mh),hs[i]?=some z->(hs.map Mh.hd).toArray[i]?=some z.hd:=fun i z hz=>by rw [List.getElem?_toArray,kI,hz];rfl
 have iH:∀ {h:Mh} {q:List Rat},sB w base g h q->sB ((w.setCell ⟨g,r,none⟩ (.slice hb.A b.length hb.c)).setCell ⟨g,p,none⟩ (.slice ha.A a.length ha.c)) base g h q:=fun R=>
  ⟨R.len,R.cap,R.cm,by
   have k1:=pY (.slice hb.A b.length hb.c) o.top (X8 r ha h1) (fun k y e=>by cases e) R.ok
   by_cases hrp:r=p
   ·subst hrp
    exact pY _ LB (x:=.slice hb.A b.length hb.c) (by simp [rX]) (fun k y e=>by cases e) k1
   ·exact pY _ LB (x:=hb.hd) (by rw [Array.getElem?_setIfInBounds_ne hrp];exact X8 p hb h2) (fun k y e=>by cases e) k1,fun h0=>by
   obtain ⟨k1,k2,k3,cs,k4,k5⟩:=R.lies h0;exact ⟨k1,k2,k3,cs,(k4.far k3 _).far k3 _,k5⟩⟩
 have DZ:∀ (i:Nat) (z:Mh),((hs.set r hb).set p ha)[i]?=some z->∃ i' ,hs[i']?=some z/\((i'=i/\i≠r/\i≠p)\/(i=r/\i≠p/\i'=p)\/(i=p/\i'=r))/\∀ q,((M.set r b).set p a)[i]?=some q->M[i']?=some q:=fun i z hz=>by
  rw [List.getElem?_set,List.getElem?_set,lF] at hz
  by_cases hp:p=i
  ·subst hp
   rw [if_pos rfl,if_pos CC] at hz;injection hz with hz;subst hz;refine ⟨r,h1,.inr (.inr ⟨rfl,rfl⟩),fun q hq=>?_⟩;rw [List.getElem?_set,if_pos rfl,if_pos (by rw [lF,<-o.len];exact CC)] at hq;rw [h3];exact hq
  ·rw [if_neg hp] at hz
   by_cases hr:r=i
   ·subst hr
    rw [if_pos rfl,if_pos rX] at hz;injection hz with hz;subst hz;refine ⟨p,h2,.inr (.inl ⟨rfl,fun e=>hp e.symm,rfl⟩),fun q hq=>?_⟩;rw [List.getElem?_set,if_neg hp,List.getElem?_set,if_pos rfl,if_pos (by rw [<-o.len];exact rX)] at hq;rw [h4];exact hq
   ·rw [if_neg hr] at hz
    refine ⟨i,hz,.inl ⟨rfl,fun e=>hr e.symm,fun e=>hp e.symm⟩,fun q hq=>?_⟩;rw [List.getElem?_set,if_neg hp,List.getElem?_set,if_neg hr] at hq;exact hq
 refine ⟨?_,by simp [o.len],o.gb,fun i z q hz hq=>?_,fun i j z z' xM hz hz' l1 l2=>?_⟩
 ·have:=LB.set_ p (.slice ha.A a.length ha.c)
  rw [List.map_set,List.map_set];rw [<-ra.len,<-rb.len] at this ⊢;simpa [Mh.hd] using this
 ·obtain ⟨i',k1,_,k3⟩:=DZ i z hz
  exact iH (o.row i' z q k1 (k3 q hq))
 ·obtain ⟨i',k1,k2,_⟩:=DZ i z hz
  obtain ⟨j',m1,m2,_⟩:=DZ j z' hz'
  by_cases cP:i'=j'
  ·subst cP
   omega
  ·exact o.dis i' j' z z' cP k1 m1 l1 l2
end
theorem aDP:(Tryz.prog.info? 93).map (fun i=>(i.zero,i.size,i.bytes))=some (some (.slice none 0 0),1,24):=by kernel_rfl
def fC (n:Nat):Array Value:=(List.replicate n (Value.slice none 0 0)).toArray
theorem v_ (n:Nat) (hn:n<=1000000) (w:Wo):(Instr.makeSlice 92 (.int .i64 (n:Int)) (.int .i64 (n:Int))).run Tryz.prog w=.ok (.slice (some ⟨w.heap.size,0,none⟩) n n) (w.alloc (.cells (fC n) 93)):=by
 obtain ⟨i0,kC,oE,kK,lQ⟩:=info_parts aDP;rw [run_make w 92 93 i0 _ Tryz.underlying92 kC oE .i64 .i64 (n:Int) (n:Int) (by omega) (Int.le_refl _) (by rw [lQ];omega) (by omega),kU,kK,Nat.mul_one];rw [show (Value.slice none 0 0).cells=#[Value.slice none 0 0] from rfl];rw [show madeCells #[Value.slice none 0 0] n=(List.replicate n (Value.slice none 0 0)).toArray from by
  apply Array.ext';rw [toList_madeCells_one]]
 rfl
theorem vV {w:Wo} {g n:Nat} (h:aG w g 93 (fC n)) {base:Nat} (hb:base<=g):iY w base g (List.replicate n ⟨none,0,0,[]⟩) (List.replicate n []):=by
 unfold fC at h;refine ⟨by rw [List.map_replicate];exact h,by simp,hb,fun i h q hh hq=>?_,fun i j h h' _ hh _ l=>?_⟩
 ·rw [List.getElem?_replicate] at hh hq
  split at hh
  ·rw [if_pos ‹_›] at hq
   injection hh with hh;injection hq with hq;subst hh;subst hq;exact PV _ _ _ _ _ _ (by simp [maxLen])
  ·cases hh
 ·rw [List.getElem?_replicate] at hh
  split at hh
  ·injection hh with hh
   subst hh;simp at l
  ·cases hh
theorem PU {w w':Wo} {base g:Nat} {v:Value} {vs:List Rv} {qs:List Rat} (h:fH w base v vs qs) (hg:g<base):∃ h:Mh,v=.slice h.A qs.length h.c/\h.vs=vs/\sB w base g h qs:=by
 obtain ⟨hl,h1⟩:=h.own;rcases h1 with ⟨h1,h2⟩ | ⟨b,cap,cur,h1,h2,h3,h4,h5,h6,h7,_⟩
 ·have hq:qs=[]:=List.eq_nil_of_length_eq_zero (by rw [<-h.len];exact h2)
  have hv:vs=[]:=List.eq_nil_of_length_eq_zero h2;subst hq;subst hv;exact ⟨⟨none,0,0,[]⟩,h1,rfl,PV _ _ _ _ _ _ (by simp [maxLen])⟩
 ·refine ⟨⟨some ⟨b,0,none⟩,b,cap,vs⟩,by rw [<-h.len];exact h1,rfl,h.len,h4,h5,h.ok,fun _=>⟨rfl,h2,by simp only;omega,cur,h3,by rw [<-h.len];exact h7⟩⟩
theorem jZ.bm {w w':Wo} {n:Nat} {A:OA} {l:List (List Rat)} (h:jZ w w.heap.size A n l) (g:Below w.heap.size w w'):jZ w' w'.heap.size A n l:=(h.below g lR).more g.size
end
section
open Go.ChangeShapes Go.WideShapes Go.ChangeAt Go.RowKit
attribute [local go_sem ↓] aE
attribute [local go_sem] aK aH aM aY
theorem sB.mono {w:Wo} {base base' g:Nat} {h:Mh} {q:List Rat} (r:sB w base g h q) (hb:base'<=base):sB w base' g h q:=
 ⟨r.len,r.cap,r.cm,r.ok,fun h0=>by
  obtain ⟨h1,h2,h3⟩:=r.lies h0;exact ⟨h1,cV hb h2,h3⟩⟩
theorem iY.lt {w:Wo} {base g:Nat} {hs:List Mh} {M:List (List Rat)} (o:iY w base g hs M) {j:Nat} {h:Mh} (hh:hs[j]?=some h) (h0:0<h.vs.length):h.g<w.heap.size:=by
 obtain ⟨q,hq⟩:∃ q,M[j]?=some q:=eO (by rw [<-o.len];exact (dP.1 hh).1);have r:=o.row j h q hh hq;obtain ⟨_,_,_,cs,hb,_⟩:=r.lies (by rw [<-r.len];exact h0);exact hb.lt
theorem GZ {M:List (List Rat)} {n k:Nat} {q:List Rat} (hn:M.length=n) (hq:M[k]?=some q):(M.take k++List.replicate (n-k) []).set k q=M.take (k+1)++List.replicate (n-(k+1)) []:=by
 have hk:=(dP.1 hq).1;rw [List.set_append_right _ _ (by rw [jP];omega),jP,Nat.min_eq_left (by omega),Nat.sub_self,oL hq];rw [show n-k=(n-(k+1))+1 from by omega,List.replicate_succ];simp
def aWo (M:List (List Rat)) (w:Wo) (e:Ending) (w':Wo):Prop:=Below w.heap.size w w'/\∃ g hs,e=.returned (.slice (some ⟨g,0,none⟩) M.length M.length)/\iY w' w.heap.size g hs M
theorem KF {w:Wo} {B n:Nat} {A:OA} {q:List Rat} (h:iF w B A n q):∃ vs:List Rv,vs.length=n/\q.length=n/\Rd w B 4 A n (fS vs)/\∀ (i:Nat) (x:Rat) (v:Rv),q[i]?=some x->vs[i]?=some v->dL w B x v:=h
theorem y_ (vs:List Rv):∀ u∈fS vs,u.oneCell'=true/\oX u:=fun u hu=>by
 unfold fS at hu;obtain ⟨v,_,hv⟩:=List.mem_flatMap.1 hu;exact FT v u hv
theorem aMA (A:OA) (n c:Nat) (M:List (List Rat)) (w:Wo) (hR:jZ w w.heap.size A n M) (hn:n<=1000000) (hw:∀ a∈M,a.length<=1000000) :
    Calls Tryz.prog 156 #[.slice A n c] w (aWo M w):=by
 have HR:=lH hR;have HL:=lH hR.len;have HWD:=lH hw;have HNN:=lH hn;obtain ⟨i0,kC,oE,kK,lQ⟩:=rN;have DN:=lH kC;have AR:=lH oE;have J0:=lH kK;have JZ:=lH lQ;clear hR hw kC oE kK lQ;have tK:∀ w:World,(Instr.makeSlice 92 (.int .i64 (n:Int)) (.int .i64 (n:Int))).run Tryz.prog w=.ok (.slice (some ⟨w.heap.size,0,none⟩) n n) (w.alloc (.cells (fC n) 93)):=fun w=>v_ n hn w;have HK:=lH ((Below.refl w.heap.size w).alloc lR (.cells (fC n) 93));have HG:=lH (aG.new w 93 (fC n));go_enter Tryz.func156,Tryz.ntmps156
 go_wp2_with fail
 clear tK;generalize w.alloc (.cells (fC n) 93)=W at *;have HO:=lH (vV HG.o lR);generalize hg:w.heap.size=g at *;have nM:=lH hg;clear hg HG
 go_loopw [11] (fun v11 wr=>∃ (k:Nat) (hs:List Mh),k<=n/\v11=.int .i64 k/\Below g w wr/\iY wr g g hs (M.take k++List.replicate (n-k) [])) (fun v11 _=>n-(intOf v11).toNat)
 case atStart=>exact ⟨0,_,by omega,rfl,HK.o,by rw [List.take_zero,List.nil_append,Nat.sub_zero];exact HO.o⟩
 case round=>
  clear HK HO;obtain ⟨k,hs,hk,rfl,hb,ho⟩:=hrel;have HK:=lH hb;have HO:=lH ho;clear hb ho
  by_cases aW:k<n
  ·obtain ⟨q,hq⟩:∃ q,M[k]?=some q:=eO (by have:=HL.o;omega)
   obtain ⟨b,o,hA,hb⟩:=(HR.o.below HK.o (by have:=nM.o;omega)).form (by omega);subst hA;obtain ⟨h,hc,hrq,hh1,hh2⟩:=(HR.o.below HK.o (by have:=nM.o;omega)).at_ hq;have tW:Hid (g<wr.heap.size):=lH HO.o.top.lt;have HRQ:=lH (hrq.more (B':=wr.heap.size) (by have:=nM.o;have:=tW.o;omega));have HQ:=lH hq;have HQW:=lH (HWD.o q (cO hq));have HF:=lH (GZ HL.o hq);have fT:(k:Int)<(n:Int):=by omega
   have eN:=lN k;have iL:Hid (n-(k+1)<n-k):=lH (by omega);have qL:b<wr.heap.size:=by have:=HK.o.size;have:=nM.o;omega
   obtain ⟨vs,mJ,kD,pV,tY⟩:=KF HRQ.o;obtain ⟨hA0,nO,JK⟩:=h;simp only at hc mJ kD pV tY hh1 hh2;have mZ:=lH mJ;have qY:=lH kD;have u_:=lH pV;have RX:=lH tY;have a2e:nO<=1000000:=by have:=HQW.o;omega
   clear mJ kD pV tY hq hrq hb HR
   go_wp2_with (at_builtin;refine t8 (S:=oX) rfl (.const (.slice none 0 0)) (.tmp 18) _ rfl g 115 i0 _ 4 64 Tryz.underlying93 DN.o AR.o J0.o JZ.o rfl (by omega) xP (.slice none 0 0) 0 [] rfl (dO _ _ _ _ _) hA0 nO JK (fS vs) rfl u_.o (y_ vs) ?k1 ?k2 ?k3 ?_)
   case k1=>simp only [maxLen];omega
   case k2=>omega
   case k3=>have:=tW.o;omega
   intro v' w6 bF hkeep fQ aAx b_;have hvn:vs.length=nO:=mZ.o;rw [<-hvn] at aAx;have hoq:fH w6 wr.heap.size v' vs q:=⟨aAx,by rw [mZ.o,qY.o],kH.up (w:=wr) (w':=w6) RX.o fQ⟩;obtain ⟨h2,hv,hvs,iH⟩:=PU (w':=w6) (g:=g) hoq tW.o;clear hoq;subst hv;have rE:=lH (iH.mono (base':=g) (rC tW.o));have fV:=lH (HK.o.trans (fQ.mono (rC tW.o)));have HO6:=lH (HO.o.up fQ);have SZ:Hid (∀ j (h':Mh),j≠k->hs[j]?=some h'->0<h'.vs.length->0<h2.vs.length->h'.g≠h2.g):=lH fun j h' _ hh l1 l2=>by
    have h3:=HO.o.lt hh l1;have h4:=(iH.lies (by rw [<-iH.len];exact l2)).2.1;omega
   clear bF hkeep fQ aAx b_ hvn hvs iH hc HK HO;have gl:=HO6.o.top.lt;have gf:=HO6.o.top.frozen;obtain ⟨gv,gc⟩:∃ gv,w6.cell? ⟨g,k,none⟩=some gv:=by
    rw [HO6.o.top.cell];exact ⟨_,Array.getElem?_eq_getElem (by simp;rw [HO6.o.len];simp;have:=HL.o;omega)⟩
   generalize hql:q.length=ql at *;have mH:=lH hql;clear hql
   go_wp2_with fail
   go_roundw
   case rel=>exact ⟨k+1,hs.set k h2,aW,aQ eN.o,fV.o.setCell lR _,by rw [<-HF.o,<-mH.o];exact HO6.o.setRow (by simp;have:=HL.o;omega) rE.o SZ.o⟩
   case measure=>exact iL.o
  ·have lS:k=n:=by omega
   subst lS;have fT:¬(k:Int)<(k:Int):=by omega
   go_wp2_with fail
   go_ret;refine ⟨by rw [nM.o];exact HK.o,g,hs,by rw [HL.o];rfl,?_⟩;have h:=HO.o;rw [Nat.sub_self,List.replicate_zero,List.append_nil,nW (by rw [HL.o];exact lR)] at h;rw [nM.o];exact h
def QP (q:Rat) (w:Wo) (e:Ending) (w':Wo):Prop:=Below w.heap.size w w'/\∃ v:Rv,e=.returned (.agg #[.bool v.b1,.slice v.A v.n v.c,.bool v.b2,.slice v.A2 v.m v.d])/\dL w' w'.heap.size q v
theorem YZ.qp {q:Rat} {w w':Wo} {e:Ending} (h:YZ q w e w'):QP q w e w':=by
 obtain ⟨hb,b1,A,n,c,b2,A2,m,d,he,h⟩:=h;exact ⟨hb,⟨b1,A,n,c,b2,A2,m,d⟩,he,h⟩
section
variable {w w':Wo} {B B':Nat} {q:Rat} {v:Rv}
theorem dL.below (h:dL w B q v) (hb:Below B' w w') (hB:B<=B'):dL w' B q v:=dE.below h hb hB
theorem dL.more (h:dL w B q v) (hB:B<=B'):dL w B' q v:=dE.more h hB
theorem dL.up (h:dL w w.heap.size q v) (hb:Below w.heap.size w w'):dL w' w'.heap.size q v:=dE.up h hb
end
theorem MR {p q:Rat} {v u:Rv} {w:Wo} (h1:dL w w.heap.size p v) (h2:dL w w.heap.size q u) (hs:bU p+bU q+1<=35184372088832):Calls Tryz.prog 70 #[.agg #[.bool v.b1,.slice v.A v.n v.c,.bool v.b2,.slice v.A2 v.m v.d],.agg #[.bool u.b1,.slice u.A u.n u.c,.bool u.b2,.slice u.A2 u.m u.d]] w (QP (p*q) w):=
 (PA p q v.b1 v.A v.n v.c v.b2 v.A2 v.m v.d u.b1 u.A u.n u.c u.b2 u.A2 u.m u.d w h1 h2 hs).mono fun _ _ h=>h.qp
theorem ID {p q:Rat} {v u:Rv} {w:Wo} (h1:dL w w.heap.size p v) (h2:dL w w.heap.size q u) (hs:bU p+bU q+1<=35184372088832):Calls Tryz.prog 69 #[.agg #[.bool v.b1,.slice v.A v.n v.c,.bool v.b2,.slice v.A2 v.m v.d],.agg #[.bool u.b1,.slice u.A u.n u.c,.bool u.b2,.slice u.A2 u.m u.d]] w (QP (p+q) w):=
 (F4 p q v.b1 v.A v.n v.c v.b2 v.A2 v.m v.d u.b1 u.A u.n u.c u.b2 u.A2 u.m u.d w h1 h2 hs).mono fun _ _ h=>h.qp
theorem TD {p q:Rat} {v u:Rv} {w:Wo} (h1:dL w w.heap.size p v) (h2:dL w w.heap.size q u) (hs:bU p+bU q+1<=35184372088832):Calls Tryz.prog 68 #[.agg #[.bool v.b1,.slice v.A v.n v.c,.bool v.b2,.slice v.A2 v.m v.d],.agg #[.bool u.b1,.slice u.A u.n u.c,.bool u.b2,.slice u.A2 u.m u.d]] w (QP (p-q) w):=
 (aCN p q v.b1 v.A v.n v.c v.b2 v.A2 v.m v.d u.b1 u.A u.n u.c u.b2 u.A2 u.m u.d w h1 h2 hs).mono fun _ _ h=>h.qp
theorem aQH {p q:Rat} {v u:Rv} {w:Wo} (h1:dL w w.heap.size p v) (h2:dL w w.heap.size q u) (hq:q≠0) (hs:bU p+bU q+1<=35184372088832):Calls Tryz.prog 120 #[.agg #[.bool v.b1,.slice v.A v.n v.c,.bool v.b2,.slice v.A2 v.m v.d],.agg #[.bool u.b1,.slice u.A u.n u.c,.bool u.b2,.slice u.A2 u.m u.d]] w (QP (p / q) w):=
 (aCY p q v.b1 v.A v.n v.c v.b2 v.A2 v.m v.d u.b1 u.A u.n u.c u.b2 u.A2 u.m u.d w h1 h2 hq hs).mono fun _ _ h=>h.qp
theorem aWi {p q:Rat} {v u:Rv} {w:Wo} (h1:dL w w.heap.size p v) (h2:dL w w.heap.size q u) (hs:bU p+bU q+1<=35184372088832):Calls Tryz.prog 118 #[.agg #[.bool v.b1,.slice v.A v.n v.c,.bool v.b2,.slice v.A2 v.m v.d],.agg #[.bool u.b1,.slice u.A u.n u.c,.bool u.b2,.slice u.A2 u.m u.d]] w (fun e w'=>e=.returned (.int .i64 (RI p q))/\Below w.heap.size w w'):=
 PH p q v.b1 v.A v.n v.c v.b2 v.A2 v.m v.d u.b1 u.A u.n u.c u.b2 u.A2 u.m u.d w h1 h2 hs
theorem aOS {p:Rat} {v:Rv} {w:Wo} (h1:dL w w.heap.size p v):Calls Tryz.prog 108 #[.agg #[.bool v.b1,.slice v.A v.n v.c,.bool v.b2,.slice v.A2 v.m v.d]] w (QP (-p) w):=
 (O_ p v.b1 v.A v.n v.c v.b2 v.A2 v.m v.d w h1).mono fun _ _ h=>h.qp
theorem tF {p:Rat} {v:Rv} {w:Wo} (h1:dL w w.heap.size p v):Calls Tryz.prog 119 #[.agg #[.bool v.b1,.slice v.A v.n v.c,.bool v.b2,.slice v.A2 v.m v.d]] w fun e w'=>e=.returned (.int .i64 p.num.sign)/\Below w.heap.size w w':=Z0 p v.b1 v.A v.n v.c v.b2 v.A2 v.m v.d w h1
theorem nT (k:Int) (w:Wo) (h0:-9223372036854775808<=k) (h1:k<=9223372036854775807):Calls Tryz.prog 66 #[.int .i64 k] w (QP (k:Rat) w):=(ZD k w h0 h1).mono fun _ _ h=>h.qp
theorem YC (k d:Int) (w:Wo) (h0:-9223372036854775808<=k) (h1:k<=9223372036854775807) (h2:-9223372036854775808<=d) (h3:d<=9223372036854775807) (hd:d≠0):Calls Tryz.prog 92 #[.int .i64 k,.int .i64 d] w (QP (Rat.divInt k d) w):=(aER k d w h0 h1 h2 h3 hd).mono fun _ _ h=>h.qp
theorem aDd {s:ByteArray} (h:cX s.data.toList=0) (w:Wo):Calls Tryz.prog 67 #[.string s] w (QP (kB s) w):=(rQ h w).mono fun _ _ h=>h.qp
theorem TP {w:Wo} {g T:Nat} {x v:Rv} (h:aG w g T #[.bool x.b1,.slice x.A x.n x.c,.bool x.b2,.slice x.A2 x.m x.d]):aG ((((w.setCell ⟨g,0,none⟩ (.bool v.b1)).setCell ⟨g,1,none⟩ (.slice v.A v.n v.c)).setCell ⟨g,2,none⟩ (.bool v.b2)).setCell ⟨g,3,none⟩ (.slice v.A2 v.m v.d)) g T #[.bool v.b1,.slice v.A v.n v.c,.bool v.b2,.slice v.A2 v.m v.d]:=fO h
theorem dL.keepq {w:Wo} {g T:Nat} {x v u:Rv} {q:Rat} (h:dL w w.heap.size q u) (hb:aG w g T #[.bool x.b1,.slice x.A x.n x.c,.bool x.b2,.slice x.A2 x.m x.d]):dL ((((w.setCell ⟨g,0,none⟩ (.bool v.b1)).setCell ⟨g,1,none⟩ (.slice v.A v.n v.c)).setCell ⟨g,2,none⟩ (.bool v.b2)).setCell ⟨g,3,none⟩ (.slice v.A2 v.m v.d)) ((((w.setCell ⟨g,0,none⟩ (.bool v.b1)).setCell ⟨g,1,none⟩ (.slice v.A v.n v.c)).setCell ⟨g,2,none⟩ (.bool v.b2)).setCell ⟨g,3,none⟩ (.slice v.A2 v.m v.d)).heap.size q u:=by
 have B1:=hb.set_at (i:=0) (cs':=#[.bool v.b1,.slice x.A x.n x.c,.bool x.b2,.slice x.A2 x.m x.d]) (.bool v.b1) (by simp);have B2:=B1.set_at (i:=1) (cs':=#[.bool v.b1,.slice v.A v.n v.c,.bool x.b2,.slice x.A2 x.m x.d]) (.slice v.A v.n v.c) (by simp);have B3:=B2.set_at (i:=2) (cs':=#[.bool v.b1,.slice v.A v.n v.c,.bool v.b2,.slice x.A2 x.m x.d]) (.bool v.b2) (by simp);exact (((dE.keep h (hb.cell 0) (by simp) _).keep (B1.cell 1) (by simp) _).keep (B2.cell 2) (by simp) _).keep (B3.cell 3) (by simp) _
theorem aT3 {w:Wo} {g g' T:Nat} {cs:Array Value} {v:Rv} (h:aG w g' T cs) (hg:g'≠g):aG ((((w.setCell ⟨g,0,none⟩ (.bool v.b1)).setCell ⟨g,1,none⟩ (.slice v.A v.n v.c)).setCell ⟨g,2,none⟩ (.bool v.b2)).setCell ⟨g,3,none⟩ (.slice v.A2 v.m v.d)) g' T cs:=(((h.far hg _).far hg _).far hg _).far hg _
def DU (w:Wo) (g:Nat) (v:Rv):World:=(((w.setCell ⟨g,0,none⟩ (.bool v.b1)).setCell ⟨g,1,none⟩ (.slice v.A v.n v.c)).setCell ⟨g,2,none⟩ (.bool v.b2)).setCell ⟨g,3,none⟩ (.slice v.A2 v.m v.d)
theorem dM {a w:Wo} {B g:Nat} {v:Rv} (h:Below B a w) (hg:B<=g):Below B a (DU w g v):=IB h hg
theorem iF.keepq {w:Wo} {g T n:Nat} {A:OA} {x v:Rv} {qs:List Rat} {B:Nat} (h:iF w B A n qs) (hB:B<=g):iF (DU w g v) B A n qs:=h.below (dM (Below.refl B w) hB) lR
theorem dV (k:Int) (h0:-9223372036854775808<=k) (h1:k<=9223372036854775807):bU (k:Rat)<=2:=by
 unfold bU;rw [Rat.num_intCast,Rat.den_intCast];exact Nat.max_le.2 ⟨jV (by show _<4294967296^2;omega),by decide+kernel⟩
def sI (qs:List Rat):Rat:=qs.foldl (·+·) 0
theorem BH (qs:List Rat) (q:Rat):sI (qs++[q])=sI qs+q:=by unfold sI;rw [List.foldl_append];rfl
theorem OU:∀ (n:Nat) (qs:List Rat),qs.length=n->∀ b,(∀ q∈qs,bU q<=b)->bU (sI qs)<=n*(b+1)+1
 | 0,qs,h,b,hb=>by
  rw [List.length_eq_zero_iff] at h;subst h;show bU 0<=_;have:bU 0<=1:=by decide+kernel
  omega
 | n+1,qs,h,b,hb=>by
  obtain ⟨r,q,rfl⟩:∃ r q,qs=r++[q]:=⟨qs.dropLast,qs.getLast (by intro e;subst e;simp at h),(List.dropLast_concat_getLast _).symm⟩;rw [iC,List.length_singleton] at h;have h1:=OU n r (by omega) b fun q hq=>hb q (List.mem_append_left _ hq);have h2:=hb q (by simp);rw [BH];have h3:=kM (sI r) q;rw [Nat.succ_mul];omega
def jJ (a b:List Rat):Rat:=sI (List.zipWith (·*·) a b)
section
variable (P:Program)
theorem xG (w:Wo) (dT sT ty elem:TypeId) (g o dLen dCap:Nat) (a:Addr) (sLen sCap sz:Nat) (cur:Array Value) (t:TypeId) (cs:List Value)
    (hu:P.underlying dT=some (.slice elem)) (hs:(P.info? elem).map (·.size)=some sz)
    (hg:w.heap[g]?=some (.cells cur t (0,0))) (hn:cs.length=Nat.min sLen dLen*sz)
    (pX:∀ j v,cs[j]?=some v->w.cell? (a.add j)=some v) (wU:o+cs.length<=cur.size) (h1:∀ v∈cs,v.oneCell'=true) :
    (Builtin.copy_ #[dT,sT] ty #[.slice (some ⟨g,o,none⟩) dLen dCap,.slice (some a) sLen sCap]).run P w =
     .ok (goInt (Nat.min sLen dLen)) (w.setRow g (cur.toList.take o++cs++cur.toList.drop (o+cs.length)).toArray):=by
 have hl:=run_loadCells_list (P:=P) w a cs pX;have QC:=run_storeCells_at P g o t cs 0 cur w hg (by simpa using wU) h1;cases hq:P.info? elem with
 | none=>simp [hq] at hs
 | some i=>
  have hi:i.size=sz:=by simpa [hq] using hs
  simp [Builtin.copy_,run_underlying hu,Builtin.lenOf,Builtin.firstCells,sizeOf,typeInfo,hq,hi,<-hn,hl,QC]
end
theorem TG {P:Program} {ops:Array Oper} {o:Oper} {a:Act} {w:Wo} {K:Act->World->Prop} {Q:Exit->Act->World->Prop} {E:Prop} (q:Nat) (hq:o.dst=some q) (CE:o.guard=none) (d s:Operand) (dT sT:TypeId)
    (ho:o.op=.call { callee:=.builtin .copy,args:=#[d,s],argTypes:=#[dT,sT] }) (elem:TypeId) (sz:Nat) (hu:P.underlying dT=some (.slice elem)) (gW:(P.info? elem).map (·.size)=some sz)
    (ad:Addr) (dLen dCap sLen sCap g off:Nat) (hd:a.eval d=.slice (some ⟨g,off,none⟩) dLen dCap) (hs:a.eval s=.slice (some ad) sLen sCap)
    (cur:List Value) (t:TypeId) (hg:w.heap[g]?=some (.cells cur.toArray t (0,0))) (cs:List Value) (hn:cs.length=Nat.min sLen dLen*sz)
    (pX:∀ j v,cs[j]?=some v->w.cell? (ad.add j)=some v)
    (wU:off+cs.length<=cur.length) (h1:∀ v∈cs,v.oneCell'=true) (B:Nat) (w0:Wo) (hb:Below B w0 w) (hBg:B<=g)
    (h:∀ w',Hid (w'.heap[g]?=some (.cells (splice cur off cs).toArray t (0,0)))->Below B w0 w'->K (a.put (some q) (goInt (Nat.min sLen dLen))) w') :
    if Region.wanted o (yielded ops a.tmps)=true then Oper.wp P o a w K Q else E:=by
 have hw:Region.wanted o (yielded ops a.tmps)=true:=by simp [Region.wanted,CE]
 rw [if_pos hw];have UX:=xG P w dT sT o.type elem g off dLen dCap ad sLen sCap sz cur.toArray t cs hu gW hg hn pX (by simpa using wU) h1;unfold Oper.wp;simp only [execOp,ho,resolve,invoke,builtin,Sem.run_bind,Sem.run_pure,Result.andThen_ok,List.map_toArray,List.map_cons,List.map_nil,hd,hs,UX];have h2:=h (w.setRow g (cur.take off++cs++cur.drop (off+cs.length)).toArray) (show _=_ by simpa [splice] using setRow_heap w g _ _ t _ hg) (below_setRow hb hBg _);rw [<-hq] at h2;exact h2
theorem L4 {P:Program} {w:Wo} {ops:Array Oper} {rest:List Oper} {o:Oper} {a:Act} {Q:Exit->Act->World->Prop} (CE:o.guard=none) (d s:Operand) (dT sT:TypeId)
    (ho:o.op=.call { callee:=.builtin .copy,args:=#[d,s],argTypes:=#[dT,sT] }) (elem:TypeId) (sz:Nat) (hu:P.underlying dT=some (.slice elem)) (gW:(P.info? elem).map (·.size)=some sz)
    (ad:Addr) (dLen dCap sLen sCap g off:Nat) (hd:a.eval d=.slice (some ⟨g,off,none⟩) dLen dCap) (hs:a.eval s=.slice (some ad) sLen sCap)
    (cur:List Value) (t:TypeId) (hg:w.heap[g]?=some (.cells cur.toArray t (0,0))) (cs:List Value) (hn:cs.length=Nat.min sLen dLen*sz)
    (pX:∀ j v,cs[j]?=some v->w.cell? (ad.add j)=some v)
    (wU:off+cs.length<=cur.length) (h1:∀ v∈cs,v.oneCell'=true) (B:Nat) (w0:Wo) (hb:Below B w0 w) (hBg:B<=g)
    (h:∀ w',Hid (w'.heap[g]?=some (.cells (splice cur off cs).toArray t (0,0)))->Below B w0 w'->wpList P ops Q rest (a.put o.dst (goInt (Nat.min sLen dLen))) w') :
    wpList P ops Q (o::rest) a w:=by
 refine wpList_plain CE fun K hK=>?_;have UX:=xG P w dT sT o.type elem g off dLen dCap ad sLen sCap sz cur.toArray t cs hu gW hg hn pX (by simpa using wU) h1;unfold Oper.wp execOp;simp only [ho,resolve,invoke,builtin,Sem.run_bind,Sem.run_pure,Result.andThen_ok,List.map_toArray,List.map_cons,List.map_nil,hd,hs,UX];exact hK _ _ (h _ (show _=_ by simpa [splice] using setRow_heap w g _ _ t _ hg) (below_setRow hb hBg _))
theorem O4:(Tryz.prog.info? 115).map (·.size)=some 4:=by kernel_rfl
def aFD (v:Rv) (k:Nat) (cur:List Value):Prop:=∀ i,i<k*4->cur[i]?=(fS (List.replicate k v))[i]?
theorem mL (v:Rv) (k i:Nat) (h:i<k*4):(fS (List.replicate k v))[i]?=v.cells[i % 4]?:=by
 have h1:i / 4<k:=by omega
 have:=uH (vs:=List.replicate k v) (i:=i / 4) (v:=v) (by rw [List.getElem?_replicate,if_pos h1]) (i % 4) (Nat.mod_lt _ (by decide));rwa [show i / 4*4+i % 4=i from by omega] at this
theorem DA (vs:List Rv):∀ u∈fS vs,u.oneCell'=true:=fun u hu=>(y_ vs u hu).1
theorem FY {v:Rv} {k q n:Nat} {cur:List Value} (hl:cur.length=n*4) (hc:aFD v k cur) (hq:k+q<=n):(splice cur (k*4) (fS (List.replicate q v))).length=n*4/\aFD v (k+q) (splice cur (k*4) (fS (List.replicate q v))):=by
 have hlr:(fS (List.replicate q v)).length=q*4:=by rw [d9,o3]
 refine ⟨by unfold splice;simp only [iC,jP,EI,hlr];omega,fun i hi=>?_⟩;unfold splice;rw [mL v _ _ hi]
 by_cases zZ:i<k*4
 ·rw [xQ (by rw [jP];omega),List.getElem?_take,if_pos zZ,hc i zZ,mL v _ _ zZ]
 ·rw [AZ (by rw [jP];omega),jP,Nat.min_eq_left (by omega),xQ (by rw [hlr];omega),mL v _ _ (by omega)]
  rw [show (i-k*4) % 4=i % 4 from by omega]
theorem aFD.all {v:Rv} {n:Nat} {cur:List Value} (hl:cur.length=n*4) (h:aFD v n cur):cur=fS (List.replicate n v):=by
 apply List.ext_getElem?;intro i
 by_cases hi:i<n*4
 ·exact h i hi
 ·rw [List.getElem?_eq_none (by omega),List.getElem?_eq_none (by rw [d9,o3];omega)]
theorem aCU (v:Rv) (b:Nat) (n:Nat) (w:Wo) (hv:aG w b 115 #[.bool v.b1,.slice v.A v.n v.c,.bool v.b2,.slice v.A2 v.m v.d]) (hn:n<=1000) :
    Calls Tryz.prog 139 #[.slice (some ⟨b,0,none⟩) 1 1,.int .i64 n] w fun e w'=>∃ g,e=.returned (.slice (some ⟨g,0,none⟩) n n)/\w.heap.size<=g/\aG w' g 115 (fS (List.replicate n v)).toArray/\Below w.heap.size w w':=by
 have QO:=hv.lt;have tK:∀ w:World,(Instr.makeSlice 93 (.int .i64 (n:Int)) (.int .i64 (n:Int))).run Tryz.prog w=.ok (.slice (some ⟨w.heap.size,0,none⟩) n n) (w.alloc (.cells (fS (List.replicate n EQ)).toArray 115)):=fun w=>PY n (by omega) w;have HHV:=lH hv;clear hv;go_enter Tryz.func139,Tryz.ntmps139
 go_wp2_with fail
 refine (XS 1 n (by omega) (by omega) _).mono ?_;rw [show (1*n / 18446744073709551616:Nat)=0 from by omega,show (1*n % 18446744073709551616:Nat)=n from by omega];rintro e w' ⟨rfl,rfl⟩;have hB0:Below w.heap.size w (w.alloc (.cells (fS (List.replicate n EQ)).toArray 115)):=bA;have b_:(w.alloc (.cells (fS (List.replicate n EQ)).toArray 115)).heap[w.heap.size]?=some (.cells (fS (List.replicate n EQ)).toArray 115 (0,0)):=heap_alloc_new w _;have dB:=lH hB0;have aNI:=lH b_;have aXu:=lH (HHV.o.below hB0 QO);have aI2:Hid (∀ j u,(fS (List.replicate (Nat.min 1 n) v))[j]?=some u->(w.alloc (.cells (fS (List.replicate n EQ)).toArray 115)).cell? ((⟨b,0,none⟩:Addr).add j)=some u):=lH fun j u hu=>by
  have hj:=(dP.1 hu).1;rw [d9,o3] at hj;have hm:Nat.min 1 n<=1:=Nat.min_le_left _ _;rw [mL v _ _ (by omega)] at hu;rw [Addr.add_lit,Nat.zero_add,aXu.o.cell j];have hj4:j % 4=j:=by omega
  rw [hj4] at hu;simpa [Rv.cells] using hu
 have K3:(fS (List.replicate n EQ)).length=n*4:=by rw [d9,o3]
 have j_:=lH K3;have aEj:Nat.min 1 n<=n:=Nat.min_le_right _ _;have aEi:0<n->0<Nat.min 1 n:=fun h=>Nat.lt_min.2 ⟨by decide,h⟩;clear hB0 b_ K3
 go_wp2_with (refine L4 rfl (.tmp 31) (.tmp 32) 93 93 rfl 115 4 Tryz.underlying93 O4 ⟨b,0,none⟩ n n 1 1 w.heap.size 0 rfl rfl (fS (List.replicate n EQ)) 115 aNI.o (fS (List.replicate (Nat.min 1 n) v)) (by rw [d9,o3]) aI2.o (by rw [d9,o3,j_.o];omega) (DA _) w.heap.size w dB.o lR ?_)
 intro w2 bL k2;have kF:=FY (v:=v) (k:=0) (q:=Nat.min 1 n) (n:=n) j_.o (fun i hi=>by omega) (by omega);rw [Nat.zero_mul,Nat.zero_add] at kF;generalize splice (fS (List.replicate n EQ)) 0 (fS (List.replicate (Nat.min 1 n) v))=cur0 at bL kF;have bW:=lH bL.out;have vG:=lH k2;have HK0:=lH kF;clear bL k2 kF tK aI2;generalize Nat.min 1 n=k0 at *
 go_wp2_with fail
 go_loopw [8] (fun i wr=>∃ k:Nat,k<=n/\i=.int .i64 k/\(0<n->0<k)/\Below w.heap.size w wr/\∃ cur:List Value,cur.length=n*4/\aFD v k cur/\Hid (wr.heap[w.heap.size]?=some (.cells cur.toArray 115 (0,0)))) (fun i _=>n-(intOf i).toNat)
 case atStart=>exact ⟨k0,aEj,rfl,aEi,vG.o,cur0,HK0.o.1,HK0.o.2,bW⟩
 case round=>
  obtain ⟨k,hk,rfl,K6,aEK,cur,wV,hci,b_⟩:=hrel;have HCI:=lH hci;have iP:=lH aEK;have WL:=lH wV;clear hci aEK wV vG bW HK0
  by_cases aW:k<n
  ·have aPW:0<k:=K6 (by omega)
   clear K6;have RZ:Hid (∀ j u,(fS (List.replicate (Nat.min k (n-k)) v))[j]?=some u->wr.drew.cell? ((⟨w.heap.size,0,none⟩:Addr).add j)=some u):=lH fun j u hu=>by
    have hj:=(dP.1 hu).1;rw [d9,o3] at hj;have hm:Nat.min k (n-k)<=k:=Nat.min_le_left _ _;rw [mL v _ _ hj,<-mL v k _ (by omega),<-HCI.o j (by omega)] at hu;have h2:=cell_of_row wr w.heap.size j cur.toArray 115 (0,0) b_.out;rw [Addr.add_lit,Nat.zero_add];show wr.cell? _=_;rw [h2];simpa using hu
   have hI1:(k:Int)<=(n:Int):=by omega
   have hI2:=lZ k
   have aUR:Nat.min k (n-k)<=n-k:=Nat.min_le_right _ _;have QH:0<Nat.min k (n-k):=Nat.lt_min.2 ⟨aPW,by omega⟩;have hw1:IntKind.i64.wrap ((k:Int)+((Nat.min k (n-k):Nat):Int))=(k:Int)+((Nat.min k (n-k):Nat):Int):=IntWalk.i64_in _ (by omega)
   go_wp2_with fail
   go_region_law (refine TG 45 rfl rfl (.tmp 41) (.tmp 44) 93 93 rfl 115 4 Tryz.underlying93 O4 ⟨w.heap.size,0,none⟩ (n-k) (n-k) k n w.heap.size (k*4) (by simp [Act.eval,Act.put];omega) (by simp [Act.eval,Act.put]) cur 115 b_.out (fS (List.replicate (Nat.min k (n-k)) v)) (by rw [d9,o3]) RZ.o (by rw [d9,o3,WL.o];omega) (DA _) w.heap.size w (aD iP.o) lR ?_;intro w3 cR k3)
   have hk3:=FY (v:=v) (k:=k) (q:=Nat.min k (n-k)) (n:=n) WL.o HCI.o (by omega);have JY:=lH hk3;have aNs:=lH k3;have aNJ:=lH cR.out;have aL4:k+Nat.min k (n-k)<=n:=by omega
   clear hk3 k3 cR RZ;generalize splice cur (k*4) (fS (List.replicate (Nat.min k (n-k)) v))=cur3 at *;generalize Nat.min k (n-k)=q at *
   go_wp2_with fail
   go_roundw
   case rel=>exact ⟨k+q,aL4,by go_num,fun _=>by omega,aNs.o,cur3,JY.o.1,JY.o.2,aNJ⟩
   case measure=>simp [intOf];omega
  ·have qW:k=n:=by omega
   subst qW
   go_wp2_with fail
   go_ret;refine ⟨w.heap.size,rfl,lR,?_,iP.o⟩;have:=b_.out;rw [HCI.o.all WL.o] at this;exact this
def aWj (n:Nat) (w:Wo) (e:Ending) (w':Wo):Prop:=Below w.heap.size w w'/\∃ (g:Nat) (v:Rv),e=.returned (.slice (some ⟨g,0,none⟩) n n)/\w.heap.size<=g/\aG w' g 115 (fS (List.replicate n v)).toArray/\dL w' w'.heap.size 0 v
theorem kT (n:Nat) (w:Wo) (hn:n<=1000):Calls Tryz.prog 106 #[.int .i64 n] w (aWj n w):=by
 go_enter Tryz.func106,Tryz.ntmps106
 go_wp2_with fail
 refine (nT 0 w (by decide) (by decide)).mono ?_;rintro e w1 ⟨bH,v1,rfl,h1⟩;have bS:=lH bH;have H1:Hid (dL w1 w1.heap.size 0 v1):=lH (by have:=h1;rwa [show (((0:Int)):Rat)=0 from rfl] at this);clear bH h1
 go_wp2_with fail
 have rY:Below w1.heap.size w1 (w1.alloc (.cells #[.bool v1.b1,.slice v1.A v1.n v1.c,.bool v1.b2,.slice v1.A2 v1.m v1.d] 115)):=bA;have DP:=lH (bS.o.tm rY);replace H1:=lH (H1.o.up rY);have HX:=lH (aG.new w1 115 #[.bool v1.b1,.slice v1.A v1.n v1.c,.bool v1.b2,.slice v1.A2 v1.m v1.d]);have HG:Hid (w.heap.size<=(w1.alloc (.cells #[.bool v1.b1,.slice v1.A v1.n v1.c,.bool v1.b2,.slice v1.A2 v1.m v1.d] 115)).heap.size):=lH DP.o.size;clear rY;refine (aCU v1 w1.heap.size n _ HX.o hn).mono ?_;rintro e w2 ⟨g,rfl,hg,I4,bL⟩;have bW:=lH (DP.o.trans (bL.mono HG.o));have H2:=lH (H1.o.up bL);have HK:=lH I4;have hgw:w.heap.size<=g:=cV HG.o hg;clear bL I4 hg
 go_wp2_with fail
 go_ret;exact ⟨bW.o,g,v1,rfl,hgw,HK.o,H2.o⟩
end
