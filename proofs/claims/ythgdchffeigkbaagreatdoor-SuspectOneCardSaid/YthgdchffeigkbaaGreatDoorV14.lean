import Derived.Test.YthgdchffeigkbaaGreatDoorV09
import Derived.Test.YthgdchffeigkbaaGreatDoorV12
import Derived.Test.YthgdchffeigkbaaGreatDoorV13
import Derived.Laws.MakeOwn
import Derived.Laws.CopyRow
set_option linter.unusedVariables false
set_option linter.unusedSimpArgs false
namespace Go.Proofs.YthgdchffeigkbaaGreatDoor
set_option maxHeartbeats 4000000
set_option maxRecDepth 100000
variable {A : OA} {B T base g i k m n t : Nat} {cs : Array Value} {e : Ending} {l : List UInt8} {p : Rat} {qs : List Rat} {w w' : World}
section
open Go.ChangeShapes Go.WideShapes Go.ChangeAt Go.RowKit
attribute [local go_sem ↓] aE
attribute [local go_sem] aJ aI aM aR
def jX(q:Rat):List UInt8:=kE q.num++(if q.den=1 then[] else 47::Lib.decDigits q.den)
def bP(q:Rat):Prop:=zQ q.num.natAbs<=2000/\zQ q.den<=2000
instance (q:Rat):Decidable (bP q):=by unfold bP;infer_instance
def aTC(q:Rat)(w:Wo)(e:Ending)(w':Wo):Prop:=Below w.heap.size w w'/\∃s,e=.returned (.tuple #[.string s,.bool (decide (bP q))])/\(bP q->s=⟨(jX q).toArray⟩)
theorem aBk(n:Nat):kE (n:Int)=Lib.decDigits n:=by unfold kE;rw[if_neg (Int.not_lt.2 (Int.natCast_nonneg n)),Int.natAbs_natCast,List.nil_append]
theorem aIE{z:Int}(h:zQ z.natAbs<=2000):(kE z).length<=2001:=by
 unfold kE;unfold zQ at h;rw[jW];split<;>simp<;>omega
theorem D6(q:Rat)(b1:Bool)(A:OA)(n c:Nat)(b2:Bool)(A2:OA)(n2 c2:Nat)(w:Wo)(h1:c_ w w.heap.size q b1 A n c b2 A2 n2 c2)(ht:dM w):Calls Tryz.prog 71 #[.agg #[.bool b1,.slice A n c,.bool b2,.slice A2 n2 c2]] w (aTC q w):=by
 have dA:Hid (Below w.heap.size w (w.alloc (.cells #[.bool b1,.slice A n c,.bool b2,.slice A2 n2 c2] 115))):=lH (bA);obtain⟨eB,H1,HT⟩:=d_ (aG.new w 115 #[.bool b1,.slice A n c,.bool b2,.slice A2 n2 c2]) (h1.up dA.o) (ht.up dA.o);clear h1 ht;go_enter Tryz.func71,Tryz.ntmps71
 go_upto_region 1 with fail
 generalize w.alloc (.cells #[.bool b1,.slice A n c,.bool b2,.slice A2 n2 c2] 115)=W at *;obtain⟨p0,p1,pl⟩:=eB.o.b2
 go_wp2_with fail
 refine(EL q.num b1 A n c W H1.o.num HT.o).mono ?_;rintro e w1 ⟨bC,s1,rfl,wZ,jR⟩;have bT:=bW dA bC;obtain⟨f_,H2,vX,E3⟩:=iK (eB.o.bl bC) (H1.o.up bC) (HT.o.up bC) wZ;clear bC p0 p1 pl wZ dA eB H1 HT;by_cases tF:zQ q.num.natAbs<=2000
 ·have hd1:decide (zQ q.num.natAbs<=2000)=true:=decide_eq_true tF
  have he1:=E3.o tF;subst he1;rw[hd1];have HF1:=lH tF;clear hd1 tF;have p2:=f_.o.cell 2;have p3:=f_.o.cell 3;have pl:=f_.o.lt;(go_wp2_with fail);refine(EL (q.den:Int) b2 A2 n2 c2 w1 H2.o.den vX.o).mono ?_;rintro e w2 ⟨bH,s2,he,wY,kS⟩;rw[Int.natAbs_natCast] at he wY;rw[aBk] at wY;subst he;have cH:=bW bT bH;clear bH p2 p3 pl;by_cases uM:zQ q.den<=2000
  ·have hd2:decide (zQ q.den<=2000)=true:=decide_eq_true uM
   have he2:=wY uM;subst he2;have hF:bP q:=⟨HF1.o,uM⟩;have hFd:decide (bP q)=true:=decide_eq_true hF;have HFD:=lH hFd;have hq:((⟨(Lib.decDigits q.den).toArray⟩:ByteArray).toList == [49])=decide (q.den=1):=by
    rw[ByteArray.toList_eq,Bool.eq_iff_iff,beq_iff_eq,decide_eq_true_eq];exact PQ
   rw[hd2];have hl1:(⟨(kE q.num).toArray⟩:ByteArray).size<=2001:=by rw[kF];exact aIE HF1.o
   have hl2:(⟨(Lib.decDigits q.den).toArray⟩:ByteArray).size<=2000:=by rw[kF];exact uM
   obtain⟨t1,oY⟩:∃t:ByteArray,⟨(kE q.num).toArray⟩=t:=⟨_,rfl⟩;obtain⟨t2,sG⟩:∃t:ByteArray,⟨(Lib.decDigits q.den).toArray⟩=t:=⟨_,rfl⟩;have zM:=lH oY;have aZP:=lH sG;rw[oY] at hl1 ⊢;rw[sG] at hl2 hq ⊢;clear hd2 hF hFd uM wY oY sG;by_cases zA:q.den=1
   ·have hd:decide (q.den=1)=true:=decide_eq_true zA
    rw[hd] at hq;have HTX:Hid (t1=⟨(jX q).toArray⟩):=lH (by unfold jX;rw[if_pos zA,List.append_nil];exact zM.o.symm);clear hd zA;(go_wp2_with fail);go_ret2;exact⟨cH.o,_,by rw[HFD.o];rfl,fun _=>HTX.o⟩
   ·have hd:decide (q.den=1)=false:=decide_eq_false zA
    rw[hd] at hq;have HTX:Hid (t1++⟨#[47]⟩++t2=⟨(jX q).toArray⟩):=lH (by
     unfold jX;rw[if_neg zA,<-zM.o,<-aZP.o];apply ByteArray.ext;simp)
    have jR:¬9223372036854775807<t1.size+1:=by omega
    have hz3:(t1++⟨#[47]⟩:ByteArray).size=t1.size+1:=by rw[ByteArray.size_append];rfl
    have kS:¬9223372036854775807<t1.size+1+t2.size:=by omega
    clear hd zA hl1 hl2;(go_wp2_with fail);go_ret2;exact⟨cH.o,_,by rw[HFD.o];rfl,fun _=>HTX.o⟩
  ·have hd2:decide (zQ q.den<=2000)=false:=decide_eq_false uM
   have hFd:decide (bP q)=false:=decide_eq_false fun h=>uM h.2;have HFD:=lH hFd;have HNF:Hid (¬bP q):=lH fun h=>uM h.2;rw[hd2];obtain⟨t1,oY⟩:∃t:ByteArray,⟨(kE q.num).toArray⟩=t:=⟨_,rfl⟩;have hl1:t1.size<=3000:=by rw[<-oY];exact jR
   rw[oY];clear hd2 hFd uM wY oY jR;have a4H:¬9223372036854775807<t1.size+1:=by omega
   have a4F:(t1++⟨#[47]⟩:ByteArray).size=t1.size+1:=by rw[ByteArray.size_append];rfl
   have a4G:¬9223372036854775807<t1.size+1+s2.size:=by omega
   cases hq:(s2.toList == [49]) with
   | true=>
    (go_wp2_with fail);go_ret2;exact⟨cH.o,_,by rw[HFD.o];rfl,fun h=>absurd h HNF.o⟩
   | false=>
    (go_wp2_with fail);go_ret2;exact⟨cH.o,_,by rw[HFD.o];rfl,fun h=>absurd h HNF.o⟩
 ·have hd1:decide (zQ q.num.natAbs<=2000)=false:=decide_eq_false tF
  have hFd:decide (bP q)=false:=decide_eq_false fun h=>tF h.1;have HFD:=lH hFd;have HNF:Hid (¬bP q):=lH fun h=>tF h.1;rw[hd1];clear hd1 hFd tF
  (go_wp2_with fail);go_ret2;exact⟨bT.o,_,by rw[HFD.o];rfl,fun h=>absurd h HNF.o⟩
end
section
def qM(l:List UInt8):Bool:=Lib.hasPrefix l [45]
def ET(l:List UInt8):Nat:=if LG l then dv (tV l) else 1
def kJ(l:List UInt8):Rat:=Rat.divInt (LH (qM l) (vP l)) (ET l:Int)
theorem RZ(h:cI l=0):¬yX l/\¬BP l/\¬(LG l=true/\BO l):=by
 unfold cI at h;by_cases h5:yX l
 ·rw[if_pos h5] at h;cases h
 ·rw[if_neg h5] at h
  by_cases h2:BP l
  ·rw[if_pos h2] at h;cases h
  ·rw[if_neg h2] at h
   by_cases h3:LG l=true/\BO l
   ·rw[if_pos h3] at h;cases h
   ·exact⟨h5,h2,h3⟩
theorem pX(l:List UInt8):l=(if qM l then[45] else[])++BN l:=by
 unfold qM BN Lib.trimPrefix;cases hp:Lib.hasPrefix l [45] with
 | false=>simp
 | true=>
  unfold Lib.hasPrefix at hp;cases l with
  | nil=>cases hp
  | cons c r=>
   have:c=45:=by
    simp[List.isPrefixOf] at hp;exact hp.symm
   subst this;simp
theorem aCF(l:List UInt8):l=(iW 47 l).1++(if(iW 47 l).2.2 then 47::(iW 47 l).2.1 else[]):=by
 cases h:(iW 47 l).2.2 with
 | true=>
  have:=(aAG h).1;simpa using this
 | false=>
  obtain⟨_,h2⟩:=EU h;rw[h2];simp
theorem D7(l:List UInt8):BN l=vP l++(if LG l then 47::tV l else[]):=aCF (BN l)
theorem KA(h:F4 l)(h0:dv l=0):l=[48]:=by
 have:=pZ h;rw[h0,fJ (by decide)] at this;exact this.symm
theorem aCL(h:F4 l)(h0:dv l=1):l=[49]:=by
 have:=pZ h;rw[h0,fJ (by decide)] at this;exact this.symm
theorem G5(b:Bool)(l:List UInt8):(LH b l).natAbs=dv l:=by unfold LH;cases b<;>simp
theorem wL(h:cI l=0):(kJ l).num=LH (qM l) (vP l)/\(kJ l).den=ET l/\jX (kJ l)=l/\bP (kJ l)/\kQ (vP l)/\kQ (tV l)/\(vP l).length<=2000/\(tV l).length<=2000:=by
 obtain⟨h5,h2,h3⟩:=RZ h;have hn:gE (vP l)=0:=Classical.byContradiction fun e=>h2 (.inl e);have hb:rtB l=0:=Classical.byContradiction fun e=>h2 (.inr e);obtain⟨hcn,hln⟩:=tC.1 hn;have hnz:vP l=[48]->qM l=false:=fun e=>by
  cases hg:qM l with
  | false=>rfl
  | true=>
   refine absurd (.inr (.inr ⟨e,?_⟩)) h5;have:=congrArg List.length (pX l);rw[hg,jW] at this;simp at this;omega
 have vS:LH (qM l) (vP l)<0<->qM l=true:=by
  cases hg:qM l with
  | false=>simp[LH]
  | true=>
   have:dv (vP l)≠0:=fun e=>by
    have:=hnz (KA hcn e);rw[hg] at this;cases this
   simp[LH];omega
 have hD:(LG l=true->F4 (tV l)/\(tV l).length<=2000/\dv (tV l)≠0/\dv (tV l)≠1/\(dv (vP l)).gcd (dv (tV l))=1)/\(LG l=false->tV l=[]):=by
  refine⟨fun hi=>?_,fun hi=>?_⟩
  ·have hd:gE (tV l)=0:=by unfold rtB at hb;rw[hi] at hb;exact hb
   obtain⟨hcd,hld⟩:=tC.1 hd;have h33:¬BO l:=fun g=>h3 ⟨hi,g⟩;exact⟨hcd,hld,fun e=>h33 (.inl (KA hcd e)),fun e=>h33 (.inr (.inl (aCL hcd e))),Classical.byContradiction fun g=>h33 (.inr (.inr g))⟩
  ·have:=(EU (l:=BN l) hi).2
   unfold tV;rw[this]
 have hg:(LH (qM l) (vP l)).natAbs.gcd (ET l)=1:=by
  rw[G5];unfold ET;cases hi:LG l with
  | true=>exact(hD.1 hi).2.2.2.2
  | false=>exact Nat.gcd_one_right _
 have hd0:ET l≠0:=by
  unfold ET;cases hi:LG l with
  | true=>exact(hD.1 hi).2.2.1
  | false=>exact Nat.one_ne_zero
 obtain⟨e1,e2⟩:=EB hd0 hg;have e1':(kJ l).num=LH (qM l) (vP l):=e1;have e2':(kJ l).den=ET l:=e2;have hdd:kQ (tV l)/\(tV l).length<=2000:=by
  cases hi:LG l with
  | true=>exact⟨(hD.1 hi).1.2.1,(hD.1 hi).2.1⟩
  | false=>rw[hD.2 hi];exact⟨fun c hc=>(by cases hc),by simp⟩
 refine⟨e1',e2',?_,⟨?_,?_⟩,hcn.2.1,hdd.1,hln,hdd.2⟩
 ·unfold jX kE
  rw[e1',e2',G5,pZ hcn]
  conv=>rhs;rw[pX l,D7 l]
  have hif:(if LH (qM l) (vP l)<0 then[45] else([]:List UInt8))=if qM l=true then[45] else[]:=by
   cases lO:qM l with
   | true=>rw[lO] at vS;rw[if_pos (vS.2 rfl)];rfl
   | false=>rw[lO] at vS;rw[if_neg (fun g=>by have:=vS.1 g;cases this)];rfl
  rw[hif,List.append_assoc];congr 2
  unfold ET;cases hi:LG l with
  | true=>
   obtain⟨g1,_,_,g4,_⟩:=hD.1 hi;simp only[if_true];rw[if_neg g4,pZ g1]
  | false=>simp
 ·rw[e1',G5];unfold zQ;rw[pZ hcn];exact hln
 ·rw[e2']
  unfold ET;cases hi:LG l with
  | true=>unfold zQ;simp only[if_true];rw[pZ (hD.1 hi).1];exact(hD.1 hi).2.1
  | false=>show zQ 1<=2000;decide+kernel
theorem VG(q:Rat):qM (jX q)=decide (q.num<0)/\vP (jX q)=Lib.decDigits q.num.natAbs/\LG (jX q)=decide (q.den≠1)/\tV (jX q)=if q.den=1 then[] else Lib.decDigits q.den:=by
 have hS:qM (jX q)=decide (q.num<0)/\BN (jX q)=Lib.decDigits q.num.natAbs++(if q.den=1 then[] else 47::Lib.decDigits q.den):=by
  unfold qM BN jX kE Lib.trimPrefix;by_cases h:q.num<0
  ·have hp:Lib.hasPrefix ((if q.num<0 then[45] else[])++Lib.decDigits q.num.natAbs++(if q.den=1 then[] else 47::Lib.decDigits q.den)) [45]=true:=by rw[if_pos h];simp[Lib.hasPrefix]
   rw[hp,decide_eq_true h,if_pos h];simp
  ·have hp:Lib.hasPrefix ((if q.num<0 then[45] else[])++Lib.decDigits q.num.natAbs++(if q.den=1 then[] else 47::Lib.decDigits q.den)) [45]=false:=by
    rw[if_neg h,List.nil_append];cases hl:Lib.decDigits q.num.natAbs with
    | nil=>have:=o3 q.num.natAbs;rw[hl] at this;simp at this
    | cons c r=>
     have hc:=PT q.num.natAbs c (by rw[hl];exact List.mem_cons_self ..);have:((45:UInt8) == c)=false:=by
      cases hb:((45:UInt8) == c) with
      | false=>rfl
      | true=>have:=eq_of_beq hb;subst this;exact absurd hc.1 (by decide)
     simp[Lib.hasPrefix,List.isPrefixOf,this]
   rw[hp,decide_eq_false h,if_neg h];simp
 have hno:(47:UInt8)∉Lib.decDigits q.num.natAbs:=fun h=>by
  have:=(PT _ _ h).1;exact absurd this (by decide)
 unfold vP LG tV;rw[hS.2];refine⟨hS.1,?_⟩;by_cases h1:q.den=1
 ·rw[if_pos h1,List.append_nil,PU hno,if_pos h1,decide_eq_false (by simpa using h1)]
  exact⟨rfl,rfl,rfl⟩
 ·rw[if_neg h1,TT hno,if_neg h1,decide_eq_true h1]
  exact⟨rfl,rfl,rfl⟩
theorem aGS(h:zQ n<=2000):gE (Lib.decDigits n)=0:=tC.2 ⟨aCM n,h⟩
theorem VF{q:Rat}(h:bP q):cI (jX q)=0/\kJ (jX q)=q:=by
 obtain⟨h1,h2,h3,h4⟩:=VG q;have hn:=aGS h.1;have hd:=aGS h.2;have hB:rtB (jX q)=0:=by
  unfold rtB;rw[h3,h4];by_cases g:q.den=1
  ·rw[decide_eq_false (by simpa using g)];rfl
  ·rw[decide_eq_true g,if_neg g];exact hd
 have h5:¬yX (jX q):=by
  unfold yX;rw[h2,hB,hn];rintro(g | g | ⟨g1,g2⟩)
  ·cases g
  ·cases g
  ·have:q.num.natAbs=0:=PR (g1.trans (show[48]=Lib.decDigits 0 by rw[fJ (by decide)];rfl))
   have mY:¬q.num<0:=by omega
   have h6:=congrArg List.length (pX (jX q));rw[h1,decide_eq_false mY,jW] at h6;simp at h6;omega
 have K6:¬BP (jX q):=by
  unfold BP;rw[h2,hB,hn];simp
 have hp3:¬(LG (jX q)=true/\BO (jX q)):=by
  rintro⟨g,g3⟩;rw[h3,decide_eq_true_eq] at g;unfold BO at g3;rw[h2,h4,if_neg g,AM,AM] at g3;rcases g3 with g3 | g3 | g3
  ·have:=PR (g3.trans (show[48]=Lib.decDigits 0 by rw[fJ (by decide)];rfl))
   exact q.den_nz this
  ·exact g (PQ.1 g3)
  ·exact g3 q.reduced
 refine⟨by unfold cI;rw[if_neg h5,if_neg K6,if_neg hp3],?_⟩;unfold kJ ET;rw[h1,h2,h3,h4];have e1:LH (decide (q.num<0)) (Lib.decDigits q.num.natAbs)=q.num:=by
  unfold LH;rw[AM];by_cases g:q.num<0
  ·rw[decide_eq_true g];simp only[if_true];omega
  ·rw[decide_eq_false g];simp only[Bool.false_eq_true,if_false];omega
 rw[e1];by_cases g:q.den=1
 ·rw[decide_eq_false (by simpa using g)]
  have:=BV q;rw[g] at this;exact this
 ·rw[decide_eq_true g,if_neg g,AM]
  exact BV q
end
section
open Go.ChangeShapes Go.WideShapes Go.ChangeAt Go.RowKit
attribute [local go_sem ↓] aE
attribute [local go_sem] aJ aI aM
theorem aGT(b:Bool)(s:List UInt8):iW 47 ((if b then[45] else[])++s)=((if b then[45] else[])++(iW 47 s).1,(iW 47 s).2.1,(iW 47 s).2.2):=by
 cases b with
 | false=>simp
 | true=>simp[iW]
theorem aCE(l:List UInt8):iW 47 l=((if qM l then[45] else[])++vP l,tV l,LG l):=by
 have:=aGT (qM l) (BN l);rwa[<-pX l] at this
theorem MO(l:List UInt8)(h:cI l=0)(w:Wo):Calls Tryz.prog 67 #[.string ⟨l.toArray⟩] w (RtP (kJ l) w):=by
 obtain⟨v1,v2,_,_,v3,v4,v5,v6⟩:=wL h;obtain⟨lT,sJ,vM,UD⟩:=iK v1 v2 v3 v4;have P_:Hid ((vP l).length<=1000000):=lH (by omega);have HV6:Hid ((tV l).length<=1000000):=lH (by omega);have hll:l.length<=9223372036854775807:=by
  have h1:=congrArg List.length (pX l);have h2:=congrArg List.length (D7 l);rw[jW] at h1 h2;have h3:(if qM l then[45] else([]:List UInt8)).length<=1:=by split<;>simp
  have h4:(if LG l then 47::tV l else[]).length<=(tV l).length+1:=by split<;>simp
  omega
 have dA:Hid (Below w.heap.size w (w.alloc (.cells #[.bool false,.slice none 0 0,.bool false,.slice none 0 0] 115))):=lH (bA);have HR:Hid (aG (w.alloc (.cells #[.bool false,.slice none 0 0,.bool false,.slice none 0 0] 115)) w.heap.size 115 #[.bool false,.slice none 0 0,.bool false,.slice none 0 0]):=lH (aG.new w _ _);have rW:w.heap.size<=w.heap.size:=lR;clear v1 v2 v3 v4 v5 v6 h;go_enter Tryz.func67,Tryz.ntmps67
 go_upto_region 1 with fail
 generalize (w.alloc (.cells #[.bool false,.slice none 0 0,.bool false,.slice none 0 0] 115))=W at *
 go_wp2_with fail
 refine(aAF 47 l hll W).mono ?_;rintro e w1 ⟨he,bC⟩;rw[aCE l] at he;have bT:=bW dA bC;have vY:=lH (HR.o.bl bC);obtain⟨is,his⟩:∃i,LG l=i:=⟨_,rfl⟩;have HI:=lH his;simp only[his] at he;subst he;clear bC dA HR his hll;obtain⟨tn,htn⟩:∃t:ByteArray,rdT (qM l) (vP l)=t:=⟨_,rfl⟩;obtain⟨td,htd⟩:∃t:ByteArray,rdT false (tV l)=t:=⟨_,rfl⟩;have c1:∀w,Calls Tryz.prog 113 #[.string tn] w (LgP (LH (qM l) (vP l)) w):=fun w=>by rw[<-htn];exact BT _ _ vM.o P_.o w
 have c2:∀w,Calls Tryz.prog 113 #[.string td] w (LgP (LH false (tV l)) w):=fun w=>by rw[<-htd];exact BT _ _ UD.o HV6.o w
 have e1:(⟨((if qM l=true then[45] else[])++vP l).toArray⟩:ByteArray)=tn:=htn;have e2:(⟨(tV l).toArray⟩:ByteArray)=td:=htd;rw[e1,e2];clear e1 e2;have C1:=lH c1;have C2:=lH c2;clear htn htd c1 c2;cases is with
 | false=>
  have HD:Hid ((kJ l).den=1):=lH (by rw[sJ.o];unfold ET;rw[HI.o];rfl);(go_wp2_with fail);refine(C1.out w1).mono ?_;rintro e w2 ⟨bH,f5,C5,i5,j5,rfl,h5⟩;have cH:=bW bT bH;have wD:=lH (vY.o.bl bH);have H5:=lH h5;clear bH h5 bT vY;(go_wp2_with fail);refine(AE 1 w2 (by decide) (by decide)).mono ?_;rintro e w3 ⟨cN,f6,C6,i6,j6,rfl,h6⟩;have dY:=bW cH cN;have E5:=lH (wD.o.bl cN);have HQ:Hid (c_ w3 w3.heap.size (kJ l) f5 C5 i5 j5 f6 C6 i6 j6):=lH ⟨by rw[lT.o];exact H5.o.up cN,by rw[HD.o];exact h6⟩;clear cN h6 cH wD H5;obtain⟨z0,z1,z2,z3,zf,zl⟩:=E5.o.e4;(go_wp2_with fail);generalize fU:(((w3.setCell ⟨_,0,none⟩ _).setCell ⟨_,1,none⟩ _).setCell ⟨_,2,none⟩ _).setCell ⟨_,3,none⟩ _=W9;have jM:=lH (nR (e:=.returned (.agg #[.bool f5,.slice C5 i5 j5,.bool f6,.slice C6 i6 j6])) dY.o rW E5.o (by simp) (by simp) (by simp) (by simp) HQ.o rfl);rw[fU] at jM;have eV:Hid (aG W9 _ 115 #[.bool f5,.slice C5 i5 j5,.bool f6,.slice C6 i6 j6]):=lH (by rw[<-fU];exact gF E5.o);clear fU z0 z1 z2 z3 zf zl;obtain⟨q0,q1,q2,q3⟩:=eV.o.a4;exact bodyPost_ret (v:=.agg #[.bool f5,.slice C5 i5 j5,.bool f6,.slice C6 i6 j6]) (by simp[results,Tryz.results67,go_sem,q0,q1,q2,q3]) rfl jM.o
 | true=>
  have HD:Hid (((kJ l).den:Int)=LH false (tV l)):=lH (by rw[sJ.o];unfold ET;rw[HI.o];rfl);(go_wp2_with fail);refine(C1.out w1).mono ?_;rintro e w2 ⟨bH,f5,C5,i5,j5,rfl,h5⟩;have cH:=bW bT bH;have wD:=lH (vY.o.bl bH);have H5:=lH h5;clear bH h5 bT vY;(go_wp2_with fail);refine(C2.out w2).mono ?_;rintro e w3 ⟨cN,f6,C6,i6,j6,rfl,h6⟩;have dY:=bW cH cN;have E5:=lH (wD.o.bl cN);have HQ:Hid (c_ w3 w3.heap.size (kJ l) f5 C5 i5 j5 f6 C6 i6 j6):=lH ⟨by rw[lT.o];exact H5.o.up cN,by rw[HD.o];exact h6⟩;clear cN h6 cH wD H5;obtain⟨z0,z1,z2,z3,zf,zl⟩:=E5.o.e4;(go_wp2_with fail);generalize fU:(((w3.setCell ⟨_,0,none⟩ _).setCell ⟨_,1,none⟩ _).setCell ⟨_,2,none⟩ _).setCell ⟨_,3,none⟩ _=W9;have jM:=lH (nR (e:=.returned (.agg #[.bool f5,.slice C5 i5 j5,.bool f6,.slice C6 i6 j6])) dY.o rW E5.o (by simp) (by simp) (by simp) (by simp) HQ.o rfl);rw[fU] at jM;have eV:Hid (aG W9 _ 115 #[.bool f5,.slice C5 i5 j5,.bool f6,.slice C6 i6 j6]):=lH (by rw[<-fU];exact gF E5.o);clear fU z0 z1 z2 z3 zf zl;obtain⟨q0,q1,q2,q3⟩:=eV.o.a4;exact bodyPost_ret (v:=.agg #[.bool f5,.slice C5 i5 j5,.bool f6,.slice C6 i6 j6]) (by simp[results,Tryz.results67,go_sem,q0,q1,q2,q3]) rfl jM.o
end
section
open Go.ChangeShapes Go.WideShapes Go.ChangeAt Go.RowKit
attribute [local go_sem ↓] aE
attribute [local go_sem] aJ aI aM aR
structure Rv where
 b1:Bool
 A:OA
 n:Nat
 c:Nat
 b2:Bool
 A2:OA
 m:Nat
 d:Nat
def Rv.cells(v:Rv):List Value:=[.bool v.b1,.slice v.A v.n v.c,.bool v.b2,.slice v.A2 v.m v.d]
def DD:Rv:=⟨false,none,0,0,false,none,0,0⟩
def dD(w:Wo)(B:Nat)(q:Rat)(v:Rv):Prop:=c_ w B q v.b1 v.A v.n v.c v.b2 v.A2 v.m v.d
theorem Rv.len(v:Rv):v.cells.length=4:=rfl
def fX(vs:List Rv):List Value:=vs.flatMap Rv.cells
theorem eD(vs:List Rv):(fX vs).length=vs.length*4:=qW Rv.len vs
theorem t_{vs:List Rv}{v:Rv}(h:vs[i]?=some v)(k:Nat)(hk:k<4):(fX vs)[i*4+k]?=v.cells[k]?:=lC Rv.len vs i v h k hk
theorem G0:∀(vs:List Rv)(i:Nat)(v:Rv),i<vs.length->((((fX vs).set (i*4) (.bool v.b1)).set (i*4+1) (.slice v.A v.n v.c)).set (i*4+2) (.bool v.b2)).set (i*4+3) (.slice v.A2 v.m v.d)=fX (vs.set i v)
 | [],i,v,h=>by simp at h
 | x::r,0,v,_=>by simp[fX,Rv.cells]
 | x::r,i+1,v,h=>by
  have ih:=G0 r i v (by simpa using h);have e:fX (x::r)=x.cells++fX r:=by simp[fX]
  have e2:fX ((x::r).set (i+1) v)=x.cells++fX (r.set i v):=by simp[fX]
  have st:∀(l:List Value)(k:Nat)(u:Value),(x.cells++l).set (k+4) u=x.cells++l.set k u:=fun l k u=>by
   rw[List.set_append_right _ _ (by rw[Rv.len];omega),Rv.len,Nat.add_sub_cancel]
  rw[e,e2,<-ih,show(i+1)*4=i*4+4 from by omega,show i*4+4+1=i*4+1+4 from by omega,show i*4+4+2=i*4+2+4 from by omega,show i*4+4+3=i*4+3+4 from by omega,st,st,st,st]
theorem G1:∀n:Nat,fX (List.replicate n DD)=(List.replicate n DD.cells).flatten
 | 0=>rfl
 | n+1=>by
  rw[List.replicate_succ,List.replicate_succ,List.flatten_cons,<-G1 n];simp[fX]
theorem aG5{vs:List Rv}(h:aG w g t (fX vs).toArray)(hi:i<vs.length)(v:Rv):aG ((((w.setCell ⟨g,i*4,none⟩ (.bool v.b1)).setCell ⟨g,i*4+1,none⟩ (.slice v.A v.n v.c)).setCell ⟨g,i*4+2,none⟩ (.bool v.b2)).setCell ⟨g,i*4+3,none⟩ (.slice v.A2 v.m v.d)) g t (fX (vs.set i v)).toArray:=by
 have key:∀(w:Wo)(l:List Value)(k:Nat)(u:Value),aG w g t l.toArray->aG (w.setCell ⟨g,k,none⟩ u) g t (l.set k u).toArray:=fun w l k u hb=>hb.set_at u (by simp);rw[<-G0 vs i v hi];exact key _ _ _ _ (key _ _ _ _ (key _ _ _ _ (key _ _ _ _ h)))
theorem OK{vs:List Rv}{v:Rv}(h:aG w g t (fX vs).toArray)(hv:vs[i]?=some v):w.cell? ⟨g,i*4,none⟩=some (.bool v.b1)/\w.cell? ⟨g,i*4+1,none⟩=some (.slice v.A v.n v.c)/\w.cell? ⟨g,i*4+2,none⟩=some (.bool v.b2)/\w.cell? ⟨g,i*4+3,none⟩=some (.slice v.A2 v.m v.d):=by
 have k:=fun j hj=>t_ hv j hj;refine⟨?_,?_,?_,?_⟩<;>rw[h.cell]
 ·have:=k 0 (by decide);simpa[Rv.cells] using this
 ·have:=k 1 (by decide);simpa[Rv.cells] using this
 ·have:=k 2 (by decide);simpa[Rv.cells] using this
 ·have:=k 3 (by decide);simpa[Rv.cells] using this
theorem c_.keep4{q:Rat}{b1:Bool}{c:Nat}{b2:Bool}{A2:OA}{d:Nat}(h:c_ w w.heap.size q b1 A n c b2 A2 m d){vs:List Rv}{x v:Rv}(hb:aG w g t (fX vs).toArray)(hx:vs[i]?=some x):c_ ((((w.setCell ⟨g,i*4,none⟩ (.bool v.b1)).setCell ⟨g,i*4+1,none⟩ (.slice v.A v.n v.c)).setCell ⟨g,i*4+2,none⟩ (.bool v.b2)).setCell ⟨g,i*4+3,none⟩ (.slice v.A2 v.m v.d)) ((((w.setCell ⟨g,i*4,none⟩ (.bool v.b1)).setCell ⟨g,i*4+1,none⟩ (.slice v.A v.n v.c)).setCell ⟨g,i*4+2,none⟩ (.bool v.b2)).setCell ⟨g,i*4+3,none⟩ (.slice v.A2 v.m v.d)).heap.size q b1 A n c b2 A2 m d:=by
 obtain⟨c0,c1,c2,c3⟩:=OK hb hx;have ne:∀(a b:Nat),a≠b->(⟨g,a,none⟩:Addr)≠⟨g,b,none⟩:=fun a b h e=>h (by injection e);have off:∀(w:Wo)(a b:Nat)(u v:Value),a≠b->w.cell? ⟨g,b,none⟩=some v->(w.setCell ⟨g,a,none⟩ u).cell? ⟨g,b,none⟩=some v:=fun w a b u v jA hv=>by
  rw[World.cell?_setCell_other _ _ _ _ (ne a b jA)];exact hv
 refine(((h.keep c0 (by simp) _).keep (off _ _ _ _ _ (by omega) c1) (by simp) _).keep (off _ _ _ _ _ (by omega) (off _ _ _ _ _ (by omega) c2)) (by simp) _).keep (off _ _ _ _ _ (by omega) (off _ _ _ _ _ (by omega) (off _ _ _ _ _ (by omega) c3))) (by simp) _
def iT(w:Wo)(B:Nat)(A:OA)(n:Nat)(qs:List Rat):Prop:=∃vs:List Rv,vs.length=n/\qs.length=n/\Rd w B 4 A n (fX vs)/\∀(i:Nat)(q:Rat)(v:Rv),qs[i]?=some q->vs[i]?=some v->dD w B q v
section
variable {w w':Wo} {B B' n:Nat} {A:OA} {qs:List Rat}
theorem iT.below(h:iT w B A n qs)(hb:Below B' w w')(hB:B<=B'):iT w' B A n qs:=by
 obtain⟨vs,h1,h2,h3,h4⟩:=h;exact⟨vs,h1,h2,h3.below hb hB,fun i q v hq hv=>c_.below (h4 i q v hq hv) hb hB⟩
theorem iT.more(h:iT w B A n qs)(hB:B<=B'):iT w B' A n qs:=by
 obtain⟨vs,h1,h2,h3,h4⟩:=h;exact⟨vs,h1,h2,h3.more hB,fun i q v hq hv=>c_.more (h4 i q v hq hv) hB⟩
theorem iT.up(h:iT w w.heap.size A n qs)(hb:Below w.heap.size w w'):iT w' w'.heap.size A n qs:=(h.below hb lR).more hb.size
theorem iT.len(h:iT w B A n qs):qs.length=n:=by obtain⟨_,_,h,_⟩:=h;exact h
theorem iT.form(h:iT w B A n qs)(h0:0<n):∃b off,A=some ⟨b,off,none⟩/\b<B:=by
 obtain⟨vs,_,_,h3,_⟩:=h;obtain⟨b,off,e,aU,_⟩:=h3.2 h0;exact⟨b,off,e,aU⟩
theorem iT.at_{b off:Nat}{q:Rat}(h:iT w B (some ⟨b,off,none⟩) n qs)(hq:qs[i]?=some q):∃v:Rv,w.cell? ⟨b,off+i*4,none⟩=some (.bool v.b1)/\w.cell? ⟨b,off+i*4+1,none⟩=some (.slice v.A v.n v.c)/\w.cell? ⟨b,off+i*4+2,none⟩=some (.bool v.b2)/\w.cell? ⟨b,off+i*4+3,none⟩=some (.slice v.A2 v.m v.d)/\dD w B q v:=by
 obtain⟨vs,h1,h2,h3,h4⟩:=h;have hi:=(dH.1 hq).1;obtain⟨v,hv⟩:∃v,vs[i]?=some v:=eA (by omega);obtain⟨b',off',e,_,hc⟩:=h3.2 (by omega);injection e with e;injection e with e1 e2;subst e1;subst e2;have k:=fun j hj=>t_ hv j hj;refine⟨v,?_,?_,?_,?_,h4 i q v hq hv⟩
 ·have:=hc (i*4) (.bool v.b1) (by have:=k 0 (by decide);simpa[Rv.cells] using this);exact this
 ·have:=hc (i*4+1) (.slice v.A v.n v.c) (by have:=k 1 (by decide);simpa[Rv.cells] using this);exact this
 ·have:=hc (i*4+2) (.bool v.b2) (by have:=k 2 (by decide);simpa[Rv.cells] using this);exact this
 ·have:=hc (i*4+3) (.slice v.A2 v.m v.d) (by have:=k 3 (by decide);simpa[Rv.cells] using this);exact this
theorem ZS{vs:List Rv}(h:aG w g t (fX vs).toArray)(hn:vs.length=n)(hq:qs.length=n)(hv:∀(i:Nat)(q:Rat)(v:Rv),qs[i]?=some q->vs[i]?=some v->dD w w.heap.size q v):iT w w.heap.size (some ⟨g,0,none⟩) n qs:=
 ⟨vs,hn,hq,⟨by rw[eD,hn],fun _=>⟨g,0,rfl,h.lt,fun j u hu=>by
  rw[show(⟨g,0+j,none⟩:Addr)=⟨g,j,none⟩ from by simp,h.cell j];simpa using hu⟩⟩,hv⟩
end
theorem SQ:(Tryz.prog.info? 115).map (fun i=>(i.zero,i.size,i.bytes))=some (some (.agg #[.bool false,.slice none 0 0,.bool false,.slice none 0 0]),4,64):=by kernel_rfl
theorem aRw(n:Nat):madeCells #[Value.bool false,.slice none 0 0,.bool false,.slice none 0 0] (n*4)=(fX (List.replicate n DD)).toArray:=by
 apply Array.ext';rw[List.toList_toArray,G1];apply List.ext_getElem?;intro j;by_cases hj:j<n*4
 ·have h1:(madeCells #[Value.bool false,.slice none 0 0,.bool false,.slice none 0 0] (n*4)).toList[j]?=some (#[Value.bool false,.slice none 0 0,.bool false,.slice none 0 0][j % 4]!):=by
   simp[madeCells,hj]
  have h2:(fX (List.replicate n DD))[j / 4*4+j % 4]?=DD.cells[j % 4]?:=t_ (by rw[List.getElem?_replicate,if_pos (by omega)]) _ (by omega);rw[Nat.div_add_mod' j 4,G1] at h2;rw[h1,h2];have:j % 4=0\/j % 4=1\/j % 4=2\/j % 4=3:=by omega
  rcases this with e | e | e | e<;>rw[e]<;>rfl
 ·rw[List.getElem?_eq_none (by simp[madeCells];omega),List.getElem?_eq_none (by rw[<-G1,eD,rB];omega)]
theorem JK(n:Nat)(hn:n<=1000000)(w:Wo):(Instr.makeSlice 93 (.int .i64 (n:Int)) (.int .i64 (n:Int))).run Tryz.prog w=.ok (.slice (some ⟨w.heap.size,0,none⟩) n n) (w.alloc (.cells (fX (List.replicate n DD)).toArray 115)):=by
 obtain⟨i0,kA,rU,jR,kS⟩:=info_parts SQ;rw[run_make w 93 115 i0 _ Tryz.underlying93 kA rU .i64 .i64 (n:Int) (n:Int) (by omega) (Int.le_refl _) (by rw[kS];omega) (by omega),jF,jR];rw[show(Value.agg #[Value.bool false,.slice none 0 0,.bool false,.slice none 0 0]).cells=#[Value.bool false,.slice none 0 0,.bool false,.slice none 0 0] from rfl,aRw]
def dS:List ByteArray->Int
 | []=>0
 | s::r=>if cI s.data.toList=0 then dS r else cI s.data.toList
theorem oD:∀{l:List ByteArray},dS l=0<->∀s∈l,cI s.data.toList=0
 | []=>by simp[dS]
 | s::r=>by
  unfold dS;by_cases h:cI s.data.toList=0
  ·rw[if_pos h,oD]
   simp[h]
  ·rw[if_neg h]
   simp[h]
theorem T1{l:List ByteArray}{s:ByteArray}(h:l[k]?=some s):dS (l.drop k)=if cI s.data.toList=0 then dS (l.drop (k+1)) else cI s.data.toList:=by
 rw[cM h];rfl
theorem EW(A:OA)(n c:Nat)(ss:List ByteArray)(w:Wo)(hR:aY w w.heap.size A n ss)(hs:∀s∈ss,s.size<=maxLen)(hn:n<=9223372036854775807)(ht:dM w):Calls Tryz.prog 105 #[.slice A n c] w fun e w'=>e=.returned (.int .i64 (dS ss))/\Below w.heap.size w w':=by
 obtain⟨HR,HS,HT,HL⟩:=iK hR hs ht hR.1;clear hR hs ht;go_enter Tryz.func105,Tryz.ntmps105
 go_wp2_with fail
 go_loopw [4,5,8] (fun _ _ i wr=>∃k:Nat,k<=n/\i=.int .i64 k/\dS ss=dS (ss.drop k)/\Below w.heap.size w wr) (fun _ _ i _=>n-(intOf i).toNat)
 case atStart=>exact⟨0,by omega,rfl,rfl,bR⟩
 case round=>
  obtain⟨k,hk,rfl,pD,hb⟩:=hrel;have HG:=lH pD;have HB:=lH hb;clear pD hb;by_cases aU:k<n
  ·obtain⟨s,hs⟩:∃s,ss[k]?=some s:=eA (by have:=HL.o;omega)
   obtain⟨b,o,hA,hb⟩:=(HR.o.below HB.o lR).form (by omega);subst hA;have hc:=(HR.o.below HB.o lR).at_ hs;have HD:=lH (T1 hs);have dZ:=lH (HS.o s (bV hs));have fY:(k:Int)<(n:Int):=by omega
   have fC:=lN k;have iI:Hid (n-(k+1)<n-k):=lH (by omega);have HSE:(⟨s.data.toList.toArray⟩:ByteArray)=s:=by cases s;simp
   have HC1:=xX s.data.toList (by have:=dZ.o;rw[Lib.size_eq] at this;exact this) wr (HT.o.up HB.o);rw[HSE] at HC1;replace HC1:=lH HC1;clear HSE;clear hs;(go_wp2_with fail);refine HC1.o.mono ?_;clear hc HC1;rintro e w1 ⟨rfl,bC⟩;have bT:=bW HB bC;clear bC HB;obtain⟨r,hr⟩:∃r,cI s.data.toList=r:=⟨_,rfl⟩;rw[hr] at HD ⊢;clear hr;by_cases h0:r=0
   ·subst h0
    have HE:Hid (dS ss=dS (ss.drop (k+1))):=lH (by rw[HG.o,HD.o,if_pos rfl]);(go_wp2_with fail);go_roundw
    case rel=>exact⟨k+1,aU,aO fC.o,HE.o,bT.o⟩
    case measure=>exact iI.o
   ·have HE:Hid (dS ss=r):=lH (by rw[HG.o,HD.o,if_neg h0])
    have h0b:(r != 0)=true:=by simp[h0]
    clear h0;(go_wp2_with fail);go_ret;exact⟨aX HE.o.symm,bT.o⟩
  ·have HE:Hid (dS ss=0):=lH (by rw[HG.o,List.drop_eq_nil_of_le (by have:=HL.o;omega)];rfl)
   have fY:¬(k:Int)<(n:Int):=by omega
   (go_wp2_with fail);go_ret;exact⟨aX HE.o.symm,HB.o⟩
theorem iT.bm{l:List Rat}(h:iT w w.heap.size A n l)(g:Below w.heap.size w w'):iT w' w'.heap.size A n l:=(h.below g lR).more g.size
def lI(w:Wo)(vs:List Rv)(qs:List Rat):Prop:=∀(i:Nat)(q:Rat)(v:Rv),qs[i]?=some q->vs[i]?=some v->dD w w.heap.size q v
theorem lI.up{vs:List Rv}(h:lI w vs qs)(hb:Below w.heap.size w w'):lI w' vs qs:=fun i q v hq hv=>c_.up (h i q v hq hv) hb
def eO(w:Wo)(g i:Nat)(v:Rv):World:=(((w.setCell ⟨g,i*4,none⟩ (.bool v.b1)).setCell ⟨g,i*4+1,none⟩ (.slice v.A v.n v.c)).setCell ⟨g,i*4+2,none⟩ (.bool v.b2)).setCell ⟨g,i*4+3,none⟩ (.slice v.A2 v.m v.d)
theorem lI.put{vs us:List Rv}{qs':List Rat}{q:Rat}{v x:Rv}(h:lI w us qs)(hb:aG w g t (fX vs).toArray)(hx:vs[i]?=some x)(hv:dD w w.heap.size q v)(hq:∀(j:Nat)(q':Rat),qs'[j]?=some q'->(j=i/\q'=q)\/(j≠i/\qs[j]?=some q')):lI (eO w g i v) (us.set i v) qs':=by
 intro j q' v' hq' hv';rcases hq j q' hq' with⟨rfl,rfl⟩ | ⟨bX,hq0⟩
 ·rw[List.getElem?_set_self'] at hv'
  obtain⟨_,_,e⟩:=Option.map_eq_some_iff.1 hv';subst e;exact c_.keep4 hv hb hx
 ·rw[List.getElem?_set_ne (by omega)] at hv'
  exact c_.keep4 (h j q' v' hq0 hv') hb hx
theorem jC{a:Wo}{v:Rv}(h:Below B a w)(hg:B<=g):Below B a (eO w g i v):=(((h.setCell hg _).setCell hg _).setCell hg _).setCell hg _
theorem ZM{q:Rat}(hk:qs.length=k):∀(j:Nat)(q':Rat),(qs++[q])[j]?=some q'->(j=k/\q'=q)\/(j≠k/\qs[j]?=some q'):=by
 intro j q' h;by_cases hj:j<k
 ·right
  rw[BD (by omega)] at h;exact⟨by omega,h⟩
 ·left
  rw[DN (by omega)] at h;have h1:=(dH.1 h).1;simp at h1;have:j=k:=by omega
  subst this;rw[hk] at h;simp at h;exact⟨rfl,h.symm⟩
def gC(s:ByteArray):Rat:=kJ s.data.toList
def aZl(qs:List Rat)(w:Wo)(e:Ending)(w':Wo):Prop:=Below w.heap.size w w'/\∃A n c,e=.returned (.slice A n c)/\iT w' w'.heap.size A n qs/\n<=c/\c<=maxLen/\(0<n->∃b off,A=some ⟨b,off,none⟩/\w.heap.size<=b)
theorem pU{α:Type}{l:List α}{x:α}(h:l[k]?=some x):l.take (k+1)=l.take k++[x]:=by
 rw[List.take_add_one,h];rfl
theorem OP(A:OA)(n c:Nat)(ss:List ByteArray)(w:Wo)(hR:aY w w.heap.size A n ss)(hs:∀s∈ss,cI s.data.toList=0)(hn:n<=1000000):Calls Tryz.prog 62 #[.slice A n c] w (aZl (ss.map gC) w):=by
 obtain⟨HR,HS,HL,v_⟩:=iK hR hs hR.1 hn;clear hR hs;have vI:∀w:World,(Instr.makeSlice 93 (.int .i64 (n:Int)) (.int .i64 (n:Int))).run Tryz.prog w=.ok (.slice (some ⟨w.heap.size,0,none⟩) n n) (w.alloc (.cells (fX (List.replicate n DD)).toArray 115)):=fun w=>JK n hn w;have HK:=lH ((Below.refl w.heap.size w).alloc lR (.cells (fX (List.replicate n DD)).toArray 115));have HG:=lH (aG.new w 115 (fX (List.replicate n DD)).toArray);go_enter Tryz.func62,Tryz.ntmps62
 go_wp2_with fail
 clear vI;generalize w.alloc (.cells (fX (List.replicate n DD)).toArray 115)=W at *;generalize hg:w.heap.size=g at *;have pB:=lH hg;clear hg
 go_loopw [11] (fun v11 wr=>∃(k:Nat)(vs:List Rv),k<=n/\v11=.int .i64 k/\vs.length=n/\Below g w wr/\aG wr g 115 (fX vs).toArray/\lI wr vs ((ss.map gC).take k)) (fun v11 _=>n-(intOf v11).toNat)
 case atStart=>exact⟨0,_,by omega,rfl,rB,HK.o,HG.o,fun i q v h=>by simp at h⟩
 case round=>
  clear HK HG;obtain⟨k,vs,hk,rfl,QR,hb,hg,hI⟩:=hrel;obtain⟨HK,HG,HI,F0⟩:=iK hb hg hI QR;clear hb hg hI QR;by_cases aU:k<n
  ·obtain⟨s,hs⟩:∃s,ss[k]?=some s:=eA (by have:=HL.o;omega)
   obtain⟨b,o,hA,hb⟩:=(HR.o.below HK.o (by have:=pB.o;omega)).form (by omega);subst hA;have hc:=(HR.o.below HK.o (by have:=pB.o;omega)).at_ hs;have fY:(k:Int)<(n:Int):=by omega
   have fC:=lN k;have iI:Hid (n-(k+1)<n-k):=lH (by omega);have HSE:(⟨s.data.toList.toArray⟩:ByteArray)=s:=by cases s;simp
   have HC1:=fun w=>MO s.data.toList (HS.o s (bV hs)) w;rw[HSE] at HC1;replace HC1:=lH HC1;have HQ:Hid ((ss.map gC).take (k+1)=(ss.map gC).take k++[kJ s.data.toList]):=lH (pU (by rw[iY,hs];rfl));clear HSE hs;have sH:b<wr.heap.size:=by have:=HK.o.size;have:=pB.o;omega
   (go_wp2_with fail);refine(HC1.o wr).mono ?_;clear hc HC1;rintro e w1 ⟨bC,f,C,i,j,f2,C2,i2,j2,rfl,h1⟩;obtain⟨Q4,sM,E9,HV⟩:=iK (HK.o.trans (bC.mono (pJ HG.o.lt))) (HG.o.bl bC) (HI.o.up bC) h1;clear bC h1 HK HG HI;obtain⟨x,hx⟩:∃x,vs[k]?=some x:=eA (by have:=F0.o;omega);obtain⟨c0,c1,c2,c3⟩:=OK sM.o hx;have IB:=sM.o.frozen;have zV:=sM.o.lt;have HX:=lH hx;clear hx;(go_wp2_with fail);go_roundw
   case rel=>exact⟨k+1,vs.set k ⟨f,C,i,j,f2,C2,i2,j2⟩,aU,aO fC.o,by rw[lS];exact F0.o,jC (v:=⟨f,C,i,j,f2,C2,i2,j2⟩) Q4.o lR,aG5 sM.o (dH.1 HX.o).1 ⟨f,C,i,j,f2,C2,i2,j2⟩,by
    rw[HQ.o];exact lI.put (v:=⟨f,C,i,j,f2,C2,i2,j2⟩) E9.o sM.o HX.o HV.o (ZM (by rw[kR,jO,HL.o];omega))⟩
   case measure=>exact iI.o
  ·have nH:k=n:=by omega
   subst nH;have fY:¬(k:Int)<(k:Int):=by omega
   (go_wp2_with fail);go_ret;exact⟨by rw[pB.o];exact HK.o,_,_,_,rfl,by
    have h:=HI.o;rw[nL (by rw[jO,HL.o];exact lR)] at h;exact ZS HG.o F0.o (by rw[jO,HL.o]) h,lR,by have:=v_.o;unfold maxLen;omega,fun _=>⟨_,_,rfl,by rw[pB.o];exact lR⟩⟩
theorem aB6:(Tryz.prog.info? 55).map (fun i=>(i.zero,i.size,i.bytes))=some (some (.string ⟨#[]⟩),1,16):=by kernel_rfl
theorem aEc(n:Nat):madeCells #[Value.string ⟨#[]⟩] n=(fN (List.replicate n ⟨#[]⟩)).toArray:=by
 apply Array.ext';rw[toList_madeCells_one];unfold fN;simp
theorem aB2(n:Nat)(hn:n<=1000000)(w:Wo):(Instr.makeSlice 34 (.int .i64 (n:Int)) (.int .i64 (n:Int))).run Tryz.prog w=.ok (.slice (some ⟨w.heap.size,0,none⟩) n n) (w.alloc (.cells (fN (List.replicate n ⟨#[]⟩)).toArray 55)):=by
 rw[run_make_row' (P:=Tryz.prog) 34 55 (.string ⟨#[]⟩) 16 Tryz.underlying34 aB6 rfl .i64 .i64 n (by omega) (by omega) w,aEc]
def bN(q:Rat):ByteArray:=⟨(jX q).toArray⟩
abbrev aHi(B:Nat)(A:OA):Prop:=∃g,A=some ⟨g,0,none⟩/\B<=g
def aTw(qs:List Rat)(w:Wo)(e:Ending)(w':Wo):Prop:=Below w.heap.size w w'/\((∀q∈qs,bP q)->∃A n c,e=.returned (.tuple #[.slice A n c,.bool true])/\aY w' w'.heap.size A n (qs.map bN)/\n<=c/\c<=maxLen/\aHi w.heap.size A)/\(¬(∀q∈qs,bP q)->e=.returned (.tuple #[.slice none 0 0,.bool false]))
theorem aBj(A:OA)(n c:Nat)(qs:List Rat)(w:Wo)(hR:iT w w.heap.size A n qs)(hn:n<=1000000)(ht:dM w):Calls Tryz.prog 88 #[.slice A n c] w (aTw qs w):=by
 obtain⟨HR,HL,v_,HT⟩:=iK hR hR.len hn ht;clear hR ht;have vI:∀w:World,(Instr.makeSlice 34 (.int .i64 (n:Int)) (.int .i64 (n:Int))).run Tryz.prog w=.ok (.slice (some ⟨w.heap.size,0,none⟩) n n) (w.alloc (.cells (fN (List.replicate n ⟨#[]⟩)).toArray 55)):=fun w=>aB2 n hn w;have HK:=lH ((Below.refl w.heap.size w).alloc lR (.cells (fN (List.replicate n ⟨#[]⟩)).toArray 55));have HG:=lH (aG.new w 55 (fN (List.replicate n ⟨#[]⟩)).toArray);go_enter Tryz.func88,Tryz.ntmps88
 go_wp2_with fail
 clear vI;generalize w.alloc (.cells (fN (List.replicate n ⟨#[]⟩)).toArray 55)=W at *;generalize hg:w.heap.size=g at *;have pB:=lH hg;clear hg
 go_loopw [14] (fun v14 wr=>∃(k:Nat)(ts:List ByteArray),k<=n/\v14=.int .i64 k/\ts.length=n/\Below g w wr/\aG wr g 55 (fN ts).toArray/\(∀(i:Nat)(q:Rat),i<k->qs[i]?=some q->bP q/\ts[i]?=some (bN q))) (fun v14 _=>n-(intOf v14).toNat)
 case atStart=>exact⟨0,_,by omega,rfl,rB,HK.o,HG.o,fun i q h=>by omega⟩
 case round=>
  clear HK HG;obtain⟨k,ts,hk,rfl,QR,hb,hg,hI⟩:=hrel;obtain⟨HK,HG,HI,F0⟩:=iK hb hg hI QR;clear hb hg hI QR;by_cases aU:k<n
  ·obtain⟨q,hq⟩:∃q,qs[k]?=some q:=eA (by have:=HL.o;omega)
   obtain⟨b,o,hA,hb⟩:=(HR.o.below HK.o (by have:=pB.o;omega)).form (by omega);subst hA;obtain⟨v,c0,c1,c2,c3,hV⟩:=(HR.o.below HK.o (by have:=pB.o;omega)).at_ hq;have HQ:=lH hq;have HV:=lH hV;have fY:(k:Int)<(n:Int):=by omega
   have fC:=lN k;have iI:Hid (n-(k+1)<n-k):=lH (by omega);have sH:b<wr.heap.size:=by have:=HK.o.size;have:=pB.o;omega
   clear hq hV;(go_wp2_with fail);generalize AW:wr.alloc (.cells #[.bool v.b1,.slice v.A v.n v.c,.bool v.b2,.slice v.A2 v.m v.d] 115)=wa at *;have AZ:Below wr.heap.size wr wa:=by rw[<-AW];exact bA
   clear AW;refine(D6 q v.b1 v.A v.n v.c v.b2 v.A2 v.m v.d wa ((c_.below HV.o AZ (by have:=pB.o;have:=HG.o.lt;omega)).more (by have:=AZ.size;have:=pB.o;have:=HG.o.lt;omega)) (HT.o.up (by rw[pB.o];exact HK.o.trans (AZ.mono (pJ HG.o.lt))))).mono ?_;clear c0 c1 c2 c3;rintro e w1 ⟨bC,s,rfl,hs⟩;have bH:=AZ.tm bC;obtain⟨Q4,sM,HS⟩:=d_ (HK.o.trans (bH.mono (pJ HG.o.lt))) (HG.o.bl bH) hs;clear AZ bC bH hs HK HG;have IB:=sM.o.frozen;have zV:=sM.o.lt;obtain⟨y,hy⟩:∃y,ts[k]?=some y:=eA (by have:=F0.o;omega);have hgc:w1.cell? ⟨g,k,none⟩=some (.string y):=by rw[sM.o.cell k];unfold fN;simp[hy]
   clear hy;by_cases hf:bP q
   ·have HF:=lH hf
    rw[decide_eq_true hf];clear hf;(go_wp2_with fail);go_roundw
    case rel=>exact⟨k+1,ts.set k s,aU,aO fC.o,by rw[lS];exact F0.o,Q4.o.setCell lR _,sM.o.set_at _ (by unfold fN;rw[List.map_set];simp),fun i q' hi hq'=>by
     by_cases zB:i=k
     ·subst zB
      rw[HQ.o] at hq';injection hq' with hq';subst hq';refine⟨HF.o,?_⟩;rw[List.getElem?_set_self (by have:=F0.o;omega),HS.o HF.o];rfl
     ·rw[List.getElem?_set_ne (by omega)]
      exact HI.o i q' (by omega) hq'⟩
    case measure=>exact iI.o
   ·have HF:=lH hf
    rw[decide_eq_false hf];clear hf;(go_wp2_with fail);go_ret2;exact⟨by rw[pB.o];exact Q4.o,fun h=>absurd (h q (bV HQ.o)) HF.o,fun _=>rfl⟩
  ·have nH:k=n:=by omega
   subst nH;have fY:¬(k:Int)<(k:Int):=by omega
   (go_wp2_with fail);go_ret2;have hts:ts=qs.map bN:=by
    apply List.ext_getElem?;intro i;by_cases hi:i<k
    ·obtain⟨q,hq⟩:∃q,qs[i]?=some q:=eA (by have:=HL.o;omega)
     rw[(HI.o i q hi hq).2,iY,hq];rfl
    ·rw[List.getElem?_eq_none (by have:=F0.o;omega),List.getElem?_eq_none (by rw[jO,HL.o];omega)]
   have uL:∀q∈qs,bP q:=fun q hq=>by
    obtain⟨i,hi⟩:=List.getElem?_of_mem hq;exact(HI.o i q (by have:=(dH.1 hi).1;have:=HL.o;omega) hi).1
   exact⟨by rw[pB.o];exact HK.o,fun _=>⟨_,_,_,rfl,by rw[<-hts];have h:=fF HG.o HG.o.lt;rw[F0.o] at h;exact h,lR,by have:=v_.o;unfold maxLen;omega,⟨_,rfl,Nat.le_of_eq pB.o⟩⟩,fun h=>absurd uL h⟩
end
section
open Go.ChangeShapes Go.WideShapes Go.ChangeAt Go.RowKit Go.Joins
def rF(u:Value):Prop:=∀k x,u≠.int k x
theorem dD.keeps{e:Nat}{q:Rat}{v:Rv}(h:dD w w.heap.size q v)(k:d8 rF base e w w'):dD w' w'.heap.size q v:=by
 have key:∀{A:OA}{n:Nat}{l:List Nat},jU w w.heap.size A n l->jU w' w'.heap.size A n l:=fun h=>⟨h.1,fun hn=>by
  obtain⟨b,off,e,aU,hc⟩:=h.2 hn;refine⟨b,off,e,jE aU k.size,fun j u hu=>k.cell _ _ (hc j u hu) ?_⟩;obtain⟨x,rfl⟩:=N_ hu;exact fun hno=>hno _ _ rfl⟩
 exact⟨⟨h.num.eb,h.num.en,key h.num.rd,h.num.nc,h.num.cm⟩,⟨h.den.eb,h.den.en,key h.den.rd,h.den.nc,h.den.cm⟩⟩
structure dP (w:Wo) (base:Nat) (v:Value) (vs:List Rv) (qs:List Rat):Prop where
 own:bK rF w base 115 4 v vs.length (fX vs)
 len:vs.length=qs.length
 ok:lI w vs qs
theorem dP.keep{v:Value}{vs:List Rv}(h:dP w base v vs qs)(hb:Below w.heap.size w w'):dP w' base v vs qs:=⟨h.own.keep hb,h.len,h.ok.up hb⟩
theorem kY(w:Wo)(base:Nat):dP w base (.slice none 0 0) [] []:=⟨eQ _ _ _ _ _,rfl,fun i q v h=>by simp at h⟩
theorem DZ(v:Rv):∀u∈v.cells,u.oneCell'=true/\rF u:=fun u hu=>by
 simp[Rv.cells] at hu;rcases hu with rfl | rfl | rfl | rfl<;>exact⟨rfl,fun k x h=>by cases h⟩
theorem dP.app{v v':Value}{vs:List Rv}{u:Rv}{q:Rat}(h:dP w base v vs qs)(hq:dD w w.heap.size q u)(h2:bK rF w' base 115 4 v' (vs.length+1) (fX vs++u.cells))(hk:d8 rF base 115 w w'):dP w' base v' (vs++[u]) (qs++[q]):=by
 refine⟨by rw[jW,List.length_singleton];simpa[fX] using h2,by rw[jW,jW,h.len];rfl,fun i p x hp hx=>?_⟩;by_cases hi:i<qs.length
 ·rw[BD hi] at hp
  rw[BD (by rw[h.len];exact hi)] at hx;exact(h.ok i p x hp hx).keeps hk
 ·rw[DN (by omega)] at hp
  rw[DN (by rw[h.len];omega),h.len] at hx;have IA:=(dH.1 hp).1;rw[List.length_singleton] at IA;have:i-qs.length=0:=by omega
  rw[this] at hp hx;simp at hp hx;subst hp;subst hx;exact dD.keeps hq hk
theorem dP.rd{v:Value}{vs:List Rv}(h:dP w base v vs qs):∃A c,v=.slice A qs.length c/\iT w w.heap.size A qs.length qs/\qs.length<=c/\c<=maxLen/\(0<qs.length->∃b off,A=some ⟨b,off,none⟩/\base<=b):=by
 obtain⟨A,c,hv,hr,h1,h2,h3⟩:=AD h.own.own;rw[h.len] at hv hr h1 h3;exact⟨A,c,hv,⟨vs,h.len,rfl,hr,h.ok⟩,h1,h2,h3⟩
theorem pW:∃i,Tryz.prog.info? 115=some i/\i.zero=some (.agg #[.bool false,.slice none 0 0,.bool false,.slice none 0 0])/\i.size=4/\i.bytes=64:=info_parts SQ
theorem wF:∀u∈(Value.agg #[.bool false,.slice none 0 0,.bool false,.slice none 0 0]).cells.toList,rF u:=fun u hu=>by
 have SU:u∈[Value.bool false,.slice none 0 0,.bool false,.slice none 0 0]:=hu;simp only[List.mem_cons,List.not_mem_nil,or_false] at SU;rcases SU with rfl | rfl | rfl | rfl<;>exact fun k x h=>by cases h
end
section
open Go.ChangeShapes Go.WideShapes Go.ChangeAt Go.RowKit
attribute [local go_sem ↓] aE
attribute [local go_sem] aJ aI aM aR
def TvP(qs:List Rat)(w:Wo)(e:Ending)(w':Wo):Prop:=Below w.heap.size w w'/\((∀q∈qs,bP q)->∃A n c,e=.returned (.tuple #[.slice A n c,.int .i64 0])/\aY w' w'.heap.size A n (qs.map bN)/\n<=c/\c<=maxLen)/\(¬(∀q∈qs,bP q)->e=.returned (.tuple #[.slice none 0 0,.int .i64 2]))
def TvN(qs:List Rat)(w:Wo)(e:Ending)(w':Wo):Prop:=Below w.heap.size w w'/\((∀q∈qs,bP q)->∃A n c,e=.returned (.tuple #[.slice A n c,.int .i64 0])/\aY w' w'.heap.size A n (qs.map bN)/\n<=c/\c<=maxLen/\aHi w.heap.size A)/\(¬(∀q∈qs,bP q)->e=.returned (.tuple #[.slice none 0 0,.int .i64 2]))
theorem FH(A:OA)(n c:Nat)(qs:List Rat)(w:Wo)(hR:iT w w.heap.size A n qs)(hn:n<=1000000)(ht:dM w):Calls Tryz.prog 49 #[.slice A n c] w (TvN qs w):=by
 have HC:=lH (aBj A n c qs w hR hn ht);clear hR ht;go_enter Tryz.func49,Tryz.ntmps49
 go_wp2_with fail
 refine HC.o.mono ?_;rintro e w1 ⟨hb,h1,h2⟩;have HB:=lH hb;by_cases hf:∀q∈qs,bP q
 ·obtain⟨C,m,d,rfl,h3,h4,h5,h6⟩:=h1 hf
  obtain⟨H3,H6,HF⟩:=d_ h3 h6 hf;clear hf h1 h2 h3 h6 hb HC;(go_wp2_with fail);go_ret2;exact⟨HB.o,fun _=>⟨_,_,_,rfl,H3.o,h4,h5,H6.o⟩,fun h=>absurd HF.o h⟩
 ·have he:=h2 hf
  subst he;have HF:=lH hf;clear hf h1 h2 hb HC;(go_wp2_with fail);go_ret2;exact⟨HB.o,fun h=>absurd h HF.o,fun _=>rfl⟩
theorem mO(A:OA)(n c:Nat)(qs:List Rat)(w:Wo)(hR:iT w w.heap.size A n qs)(hn:n<=1000000)(ht:dM w):Calls Tryz.prog 49 #[.slice A n c] w (TvP qs w):=(FH A n c qs w hR hn ht).mono fun e w' h=>by
 obtain⟨h1,h2,h3⟩:=h;refine⟨h1,fun hf=>?_,h3⟩;obtain⟨A,n,c,a1,a2,a3,a4,-⟩:=h2 hf;exact⟨A,n,c,a1,a2,a3,a4⟩
def RnP(q:Rat)(w:Wo)(e:Ending)(w':Wo):Prop:=Below w.heap.size w w'/\(bP q->e=.returned (.tuple #[.string (bN q),.int .i64 0]))/\(¬bP q->e=.returned (.tuple #[.string ⟨#[]⟩,.int .i64 2]))
theorem FM(q:Rat)(b1:Bool)(A:OA)(n c:Nat)(b2:Bool)(A2:OA)(n2 c2:Nat)(w:Wo)(h1:c_ w w.heap.size q b1 A n c b2 A2 n2 c2)(ht:dM w):Calls Tryz.prog 110 #[.agg #[.bool b1,.slice A n c,.bool b2,.slice A2 n2 c2]] w (RnP q w):=by
 have dA:Hid (Below w.heap.size w (w.alloc (.cells #[.bool b1,.slice A n c,.bool b2,.slice A2 n2 c2] 115))):=lH (bA);have eB:=lH (aG.new w 115 #[.bool b1,.slice A n c,.bool b2,.slice A2 n2 c2]);have HC:=lH (D6 q b1 A n c b2 A2 n2 c2 _ (h1.up dA.o) (ht.up dA.o));clear h1 ht;go_enter Tryz.func110,Tryz.ntmps110
 go_upto_region 1 with fail
 generalize w.alloc (.cells #[.bool b1,.slice A n c,.bool b2,.slice A2 n2 c2] 115)=W at *;obtain⟨c0,c1,c2',c3⟩:=eB.o.a4
 go_wp2_with fail
 refine HC.o.mono ?_;clear c0 c1 c2' c3 HC;rintro e w1 ⟨hb,s,rfl,hs⟩;have HB:=bW dA hb;have HS:=lH hs;clear hb hs dA;by_cases hf:bP q
 ·have HF:=lH hf
  rw[decide_eq_true hf];clear hf;(go_wp2_with fail);go_ret2;exact⟨HB.o,fun h=>by rw[HS.o h];rfl,fun h=>absurd HF.o h⟩
 ·have HF:=lH hf
  rw[decide_eq_false hf];clear hf;(go_wp2_with fail);go_ret2;exact⟨HB.o,fun h=>absurd h HF.o,fun _=>rfl⟩
theorem aGD{K:Nat}(h:zQ n<=K):dL n<=K:=by
 refine lE (jE (aFg n) ?_);refine cO (AB h) ?_;unfold BB;exact Nat.pow_le_pow_left (by decide) _
theorem TK(h:zQ n<=2000):dL n<=2000:=aGD h
theorem o0{q:Rat}(h:bP q):bI q<=2000:=Nat.max_le.2 ⟨TK h.1,TK h.2⟩
theorem iD{s:ByteArray}(h:cI s.data.toList=0):bP (gC s):=(wL h).2.2.2.1
def OpP(f:Rat->Rat->Rat)(a b:ByteArray)(w:Wo)(e:Ending)(w':Wo):Prop:=Below w.heap.size w w'/\(dS [a,b]≠0->e=.returned (.tuple #[.string ⟨#[]⟩,.int .i64 (dS [a,b])]))/\(dS [a,b]=0->RnP (f (gC a) (gC b)) w e w')
def rnS(q:Rat):ByteArray:=if bP q then bN q else⟨#[]⟩
def rnE(q:Rat):Int:=if bP q then 0 else 2
theorem RnP.out{q:Rat}(h:RnP q w e w'):e=.returned (.tuple #[.string (rnS q),.int .i64 (rnE q)])/\Below w.heap.size w w':=by
 obtain⟨hb,h1,h2⟩:=h;unfold rnS rnE;by_cases hf:bP q
 ·rw[if_pos hf,if_pos hf];exact⟨h1 hf,hb⟩
 ·rw[if_neg hf,if_neg hf];exact⟨h2 hf,hb⟩
def MQ(f:Rat->Rat->Rat)(a b:ByteArray):ByteArray:=if dS [a,b]=0 then rnS (f (gC a) (gC b)) else⟨#[]⟩
def opE(f:Rat->Rat->Rat)(a b:ByteArray):Int:=if dS [a,b]=0 then rnE (f (gC a) (gC b)) else dS [a,b]
theorem OpP.out{f:Rat->Rat->Rat}{a b:ByteArray}(h:OpP f a b w e w'):e=.returned (.tuple #[.string (MQ f a b),.int .i64 (opE f a b)])/\Below w.heap.size w w':=by
 obtain⟨hb,h1,h2⟩:=h;unfold MQ opE;by_cases hf:dS [a,b]=0
 ·rw[if_pos hf,if_pos hf];exact(h2 hf).out
 ·rw[if_neg hf,if_neg hf];exact⟨h1 hf,hb⟩
theorem cV{q:Rat}(h:bP q):cI (bN q).data.toList=0/\gC (bN q)=q:=by
 have:=VF h;unfold bN gC;simpa using this
theorem aD4(z:Int):(kE z).length<=zQ z.natAbs+1:=by
 unfold kE zQ;rw[jW];split<;>simp<;>omega
theorem RB{q:Rat}(h:bP q):(bN q).size<=4002:=by
 rw[Lib.size_eq];unfold bN jX;have h1:=aD4 q.num;obtain⟨h2,h3⟩:=h;unfold zQ at h3;simp only[jW];split<;>simp<;>omega
end
section
open Go.ChangeShapes Go.WideShapes Go.ChangeAt Go.RowKit
structure Hd where
 A:OA
 n:Nat
 c:Nat
def Hd.val(h:Hd):Value:=.slice h.A h.n h.c
def Hd.cells(h:Hd):List Value:=[h.val]
theorem Hd.len(h:Hd):h.cells.length=1:=rfl
def lQ(w:Wo)(B:Nat)(A:OA)(n:Nat)(M:List (List Rat)):Prop:=∃hs:List Hd,hs.length=n/\M.length=n/\Rd w B 1 A n (hs.map Hd.val)/\∀(i:Nat)(h:Hd)(q:List Rat),hs[i]?=some h->M[i]?=some q->iT w B h.A h.n q/\h.n<=h.c/\h.c<=maxLen
section
variable {w w':Wo} {B B' n:Nat} {A:OA} {M:List (List Rat)}
theorem lQ.below(h:lQ w B A n M)(hb:Below B' w w')(hB:B<=B'):lQ w' B A n M:=by
 obtain⟨hs,h1,h2,h3,h4⟩:=h;exact⟨hs,h1,h2,h3.below hb hB,fun i h q hq hv=>⟨(h4 i h q hq hv).1.below hb hB,(h4 i h q hq hv).2⟩⟩
theorem lQ.more(h:lQ w B A n M)(hB:B<=B'):lQ w B' A n M:=by
 obtain⟨hs,h1,h2,h3,h4⟩:=h;exact⟨hs,h1,h2,h3.more hB,fun i h q hq hv=>⟨(h4 i h q hq hv).1.more hB,(h4 i h q hq hv).2⟩⟩
theorem lQ.up(h:lQ w w.heap.size A n M)(hb:Below w.heap.size w w'):lQ w' w'.heap.size A n M:=(h.below hb lR).more hb.size
theorem lQ.len(h:lQ w B A n M):M.length=n:=by obtain⟨_,_,h,_⟩:=h;exact h
theorem lQ.form(h:lQ w B A n M)(h0:0<n):∃b off,A=some ⟨b,off,none⟩/\b<B:=by
 obtain⟨hs,_,_,h3,_⟩:=h;obtain⟨b,off,e,aU,_⟩:=h3.2 h0;exact⟨b,off,e,aU⟩
theorem lQ.at_{b off:Nat}{q:List Rat}(h:lQ w B (some ⟨b,off,none⟩) n M)(hq:M[i]?=some q):∃h:Hd,w.cell? ⟨b,off+i,none⟩=some (.slice h.A h.n h.c)/\iT w B h.A h.n q/\h.n<=h.c/\h.c<=maxLen:=by
 obtain⟨hs,h1,h2,h3,h4⟩:=h;have hi:=(dH.1 hq).1;obtain⟨v,hv⟩:∃v,hs[i]?=some v:=eA (by omega);obtain⟨b',off',e,_,hc⟩:=h3.2 (by omega);injection e with e;injection e with e1 e2;subst e1;subst e2;exact⟨v,hc i _ (by rw[iY,hv];rfl),h4 i v q hv hq⟩
theorem lQ.take(h:lQ w B A n M)(hm:m<=n):lQ w B A m (M.take m):=by
 obtain⟨hs,h1,h2,h3,h4⟩:=h;refine⟨hs.take m,by rw[kR,h1];omega,by rw[kR,h2];omega,⟨by simp;omega,fun h0=>?_⟩,fun j h q hh hq=>?_⟩
 ·obtain⟨b',off',e,aU,hc⟩:=h3.2 (by omega)
  refine⟨b',off',e,aU,fun j u hu=>hc j u ?_⟩;rw[List.map_take] at hu;have hj:=(dH.1 hu).1;rw[kR] at hj;rwa[List.getElem?_take_of_lt (by omega)] at hu
 ·have hj:=(dH.1 hh).1
  rw[kR] at hj;rw[List.getElem?_take_of_lt (by omega)] at hh hq;exact h4 _ _ _ hh hq
end
structure Mh where
 A:OA
 g:Nat
 c:Nat
 vs:List Rv
def Mh.hd(h:Mh):Value:=.slice h.A h.vs.length h.c
structure tQ (w:Wo) (base g:Nat) (h:Mh) (q:List Rat):Prop where
 len:h.vs.length=q.length
 cap:h.vs.length<=h.c
 cm:h.c<=maxLen
 ok:lI w h.vs q
 lies:0<q.length->h.A=some ⟨h.g,0,none⟩/\base<=h.g/\h.g≠g/\∃cs,aG w h.g 115 cs/\cs.toList.take (q.length*4)=fX h.vs
theorem aG.row_cell{vs:List Rv}{v:Rv}(h:aG w g t cs)(ht:cs.toList.take m=fX vs)(hv:vs[i]?=some v):w.cell? ⟨g,i*4,none⟩=some (.bool v.b1)/\w.cell? ⟨g,i*4+1,none⟩=some (.slice v.A v.n v.c)/\w.cell? ⟨g,i*4+2,none⟩=some (.bool v.b2)/\w.cell? ⟨g,i*4+3,none⟩=some (.slice v.A2 v.m v.d):=by
 have hk:=fun k (hk:k<4)=>t_ hv k hk;have key:∀k,k<4->∀u,v.cells[k]?=some u->w.cell? ⟨g,i*4+k,none⟩=some u:=fun k h4 u hu=>by
  rw[h.cell];have h1:=hk k h4;rw[hu,<-ht] at h1;have h2:=(dH.1 h1).1;rw[kR] at h2;rw[List.getElem?_take_of_lt (by omega)] at h1;simpa using h1
 exact⟨key 0 (by decide) _ rfl,key 1 (by decide) _ rfl,key 2 (by decide) _ rfl,key 3 (by decide) _ rfl⟩
theorem dD.keep4{q:Rat}{u:Rv}(h:dD w w.heap.size q u){vs:List Rv}{x:Rv}(v:Rv)(hb:aG w g t cs)(ht:cs.toList.take m=fX vs)(hx:vs[i]?=some x):dD (eO w g i v) (eO w g i v).heap.size q u:=by
 obtain⟨c0,c1,c2,c3⟩:=hb.row_cell ht hx;have ne:∀(a b:Nat),a≠b->(⟨g,a,none⟩:Addr)≠⟨g,b,none⟩:=fun a b h e=>h (by injection e);have off:∀(w:Wo)(a b:Nat)(u v:Value),a≠b->w.cell? ⟨g,b,none⟩=some v->(w.setCell ⟨g,a,none⟩ u).cell? ⟨g,b,none⟩=some v:=fun w a b u v jA hv=>by
  rw[World.cell?_setCell_other _ _ _ _ (ne a b jA)];exact hv
 have h':c_ w w.heap.size q u.b1 u.A u.n u.c u.b2 u.A2 u.m u.d:=h;exact(((h'.keep c0 (by simp) _).keep (off _ _ _ _ _ (by omega) c1) (by simp) _).keep (off _ _ _ _ _ (by omega) (off _ _ _ _ _ (by omega) c2)) (by simp) _).keep (off _ _ _ _ _ (by omega) (off _ _ _ _ _ (by omega) (off _ _ _ _ _ (by omega) c3))) (by simp) _
theorem aG.far4{g':Nat}(v:Rv)(h:aG w g' t cs)(hg:g'≠g):aG (eO w g i v) g' t cs:=(((h.far hg _).far hg _).far hg _).far hg _
theorem lU{α:Type}(l:List α)(m k:Nat)(u:α)(hk:k<m):(l.set k u).take m=(l.take m).set k u:=by
 apply List.ext_getElem?;intro j;by_cases hj:j<m
 ·rw[List.getElem?_take_of_lt hj,List.getElem?_set,List.getElem?_set,List.getElem?_take_of_lt hj,kR]
  by_cases h1:k=j
  ·subst h1
   rw[if_pos rfl,if_pos rfl];split<;>split<;>first | rfl | omega
  ·simp[h1]
 ·rw[List.getElem?_eq_none (by simp;omega),List.getElem?_eq_none (by simp;omega)]
theorem aG.row_put{vs:List Rv}(v:Rv)(h:aG w g t cs)(ht:cs.toList.take (n*4)=fX vs)(hn:vs.length=n)(hi:i<n):∃cs',aG (eO w g i v) g t cs'/\cs'.toList.take (n*4)=fX (vs.set i v):=by
 refine⟨_,(((h.set_ (i*4) (.bool v.b1)).set_ (i*4+1) (.slice v.A v.n v.c)).set_ (i*4+2) (.bool v.b2)).set_ (i*4+3) (.slice v.A2 v.m v.d),?_⟩;rw[<-G0 vs i v (by omega),<-ht];simp only[Array.toList_setIfInBounds];rw[lU _ _ _ _ (by omega),lU _ _ _ _ (by omega),lU _ _ _ _ (by omega),lU _ _ _ _ (by omega)]
section
variable {w w':Wo} {base g:Nat} {h:Mh} {q:List Rat}
theorem tQ.up(r:tQ w base g h q)(hb:Below w.heap.size w w'):tQ w' base g h q:=
 ⟨r.len,r.cap,r.cm,r.ok.up hb,fun h0=>by
  obtain⟨h1,h2,h3,cs,h4,h5⟩:=r.lies h0;exact⟨h1,h2,h3,cs,h4.bl hb,h5⟩⟩
theorem SD(w:Wo)(base g g':Nat)(A:OA)(c:Nat)(hc:c<=maxLen):tQ w base g ⟨A,g',c,[]⟩ []:=
 ⟨rfl,Nat.zero_le _,hc,fun i q v h=>by simp at h,fun h=>by simp at h⟩
theorem tQ.rd(r:tQ w base g h q):iT w w.heap.size h.A q.length q:=by
 refine⟨h.vs,r.len,rfl,⟨by rw[eD,r.len],fun h0=>?_⟩,r.ok⟩;obtain⟨h1,h2,h3,cs,h4,h5⟩:=r.lies h0;refine⟨h.g,0,h1,h4.lt,fun j u hu=>?_⟩;rw[Nat.zero_add,h4.cell j];rw[<-h5] at hu;have hj:=(dH.1 hu).1;rw[kR] at hj;rw[List.getElem?_take_of_lt (by omega)] at hu;simpa using hu
end
structure kB (w:Wo) (base g:Nat) (hs:List Mh) (M:List (List Rat)):Prop where
 top:aG w g 93 (hs.map Mh.hd).toArray
 len:hs.length=M.length
 gb:base<=g
 row:∀(i:Nat)(h:Mh)(q:List Rat),hs[i]?=some h->M[i]?=some q->tQ w base g h q
 dis:∀(i j:Nat)(h h':Mh),i≠j->hs[i]?=some h->hs[j]?=some h'->0<h.vs.length->0<h'.vs.length->h.g≠h'.g
section
variable {w w':Wo} {base g:Nat} {hs:List Mh} {M:List (List Rat)}
theorem kB.up(o:kB w base g hs M)(hb:Below w.heap.size w w'):kB w' base g hs M:=
 ⟨o.top.bl hb,o.len,o.gb,fun i h q hh hq=>(o.row i h q hh hq).up hb,o.dis⟩
theorem kB.get(o:kB w base g hs M){q:List Rat}(hq:M[i]?=some q):∃h,hs[i]?=some h/\w.cell? ⟨g,i,none⟩=some (.slice h.A q.length h.c)/\tQ w base g h q:=by
 obtain⟨h,hh⟩:∃h,hs[i]?=some h:=eA (by rw[o.len];exact(dH.1 hq).1);have hr:=o.row i h q hh hq;refine⟨h,hh,?_,hr⟩;rw[o.top.cell,List.getElem?_toArray,iY,hh,<-hr.len];rfl
theorem kB.rd(o:kB w base g hs M):lQ w w.heap.size (some ⟨g,0,none⟩) M.length M:=by
 refine⟨hs.map fun h=>⟨h.A,h.vs.length,h.c⟩,by rw[jO,o.len],rfl,⟨by simp[o.len],fun _=>⟨g,0,rfl,o.top.lt,fun j u hu=>?_⟩⟩,fun i h q hh hq=>?_⟩
 ·rw[Nat.zero_add,o.top.cell j,List.getElem?_toArray]
  rw[List.map_map] at hu;exact hu
 ·rw[iY] at hh
  obtain⟨h',hh',rfl⟩:=Option.map_eq_some_iff.1 hh;have hr:=o.row i h' q hh' hq;refine⟨?_,hr.cap,hr.cm⟩;have:=hr.rd;rw[<-hr.len] at this;exact this
theorem kB.put(o:kB w base g hs M){j:Nat}{h:Mh}{q:List Rat}{v:Rv}{x:Rat}(hh:hs[i]?=some h)(hq:M[i]?=some q)(hj:j<q.length)(hv:dD w w.heap.size x v):kB (eO w h.g j v) base g (hs.set i ⟨h.A,h.g,h.c,h.vs.set j v⟩) (M.set i (q.set j x)):=by
 have hr:=o.row i h q hh hq;obtain⟨h1,h2,h3,cs,h4,h5⟩:=hr.lies (by omega);obtain⟨y,hy⟩:∃y,h.vs[j]?=some y:=eA (by rw[hr.len];exact hj);have K7:=(dH.1 hh).1;have pY:∀{us:List Rv}{ps:List Rat},lI w us ps->lI (eO w h.g j v) us ps:=fun H k p u hp hu=>dD.keep4 (H k p u hp hu) v h4 h5 hy;refine⟨?_,by rw[lS,lS,o.len],o.gb,fun k h' q' hk hkq=>?_,fun a b ha hb jA FS yJ l1 l2=>?_⟩
 ·have e:(hs.set i ⟨h.A,h.g,h.c,h.vs.set j v⟩).map Mh.hd=hs.map Mh.hd:=by
   rw[List.map_set];apply List.ext_getElem?;intro k;rw[List.getElem?_set];by_cases hk:i=k
   ·subst hk
    rw[jO,iY,hh];simp[K7,Mh.hd]
   ·rw[if_neg hk]
  rw[e];exact o.top.far4 v (fun e=>h3 e.symm)
 ·rw[List.getElem?_set] at hk hkq
  by_cases zB:i=k
  ·subst zB
   rw[if_pos rfl,if_pos K7] at hk;rw[if_pos rfl,if_pos (by rw[<-o.len];exact K7)] at hkq;injection hk with hk;injection hkq with hkq;subst hk;subst hkq;obtain⟨cs',k1,k2⟩:=h4.row_put v h5 hr.len hj;refine⟨by simp[hr.len],by simpa using hr.cap,hr.cm,fun a p u hp hu=>?_,fun _=>⟨h1,h2,h3,cs',k1,by rw[lS];exact k2⟩⟩;simp only at hu;rw[List.getElem?_set] at hp hu;by_cases hja:j=a
   ·subst hja
    rw[if_pos rfl,if_pos hj] at hp;rw[if_pos rfl,if_pos (by rw[hr.len];exact hj)] at hu;injection hp with hp;injection hu with hu;subst hp;subst hu;exact dD.keep4 hv v h4 h5 hy
   ·rw[if_neg hja] at hp hu
    exact pY hr.ok a p u hp hu
  ·rw[if_neg zB] at hk hkq
   have JS:=o.row k h' q' hk hkq;refine⟨JS.len,JS.cap,JS.cm,pY JS.ok,fun h0=>?_⟩;obtain⟨a1,a2,a3,cs',a4,a5⟩:=JS.lies h0;exact⟨a1,a2,a3,cs',a4.far4 v (o.dis k i h' h (fun e=>zB e.symm) hk hh (by rw[JS.len];exact h0) (by rw[hr.len];omega)),a5⟩
 ·rw[List.getElem?_set] at FS yJ
  have key:∀(k:Nat)(z:Mh),(if i=k then(if i<hs.length then some (⟨h.A,h.g,h.c,h.vs.set j v⟩:Mh) else none) else hs[k]?)=some z->∃z',hs[k]?=some z'/\z'.g=z.g/\z'.vs.length=z.vs.length:=fun k z hz=>by
   by_cases zB:i=k
   ·subst zB
    rw[if_pos rfl,if_pos K7] at hz;injection hz with hz;subst hz;exact⟨h,hh,rfl,by simp⟩
   ·rw[if_neg zB] at hz
    exact⟨z,hz,rfl,rfl⟩
  obtain⟨z1,k1,k2,k3⟩:=key a ha FS;obtain⟨z2,k4,k5,k6⟩:=key b hb yJ;rw[<-k2,<-k5];exact o.dis a b z1 z2 jA k1 k4 (by omega) (by omega)
theorem kB.setRow(o:kB w base g hs M){h:Mh}{q:List Rat}(hi:i<M.length)(hr:tQ w base g h q)(hd:∀(j:Nat)(h':Mh),j≠i->hs[j]?=some h'->0<h'.vs.length->0<h.vs.length->h'.g≠h.g):kB (w.setCell ⟨g,i,none⟩ (.slice h.A q.length h.c)) base g (hs.set i h) (M.set i q):=by
 have K7:i<hs.length:=by rw[o.len];exact hi
 have pY:∀{us:List Rv}{ps:List Rat}(u:Value),lI w us ps->lI (w.setCell ⟨g,i,none⟩ u) us ps:=fun u H k p v hp hv=>by
  have h0:c_ w w.heap.size p v.b1 v.A v.n v.c v.b2 v.A2 v.m v.d:=H k p v hp hv;refine c_.keep h0 (v:=(hs.map Mh.hd)[i]'(by simpa using K7)) ?_ (fun a b e=>?_) u
  ·rw[o.top.cell];simp[K7]
  ·simp[Mh.hd] at e
 have gX:∀{h:Mh}{q:List Rat}(u:Value),tQ w base g h q->tQ (w.setCell ⟨g,i,none⟩ u) base g h q:=fun u r=>
  ⟨r.len,r.cap,r.cm,pY u r.ok,fun h0=>by
   obtain⟨h1,h2,h3,cs,h4,h5⟩:=r.lies h0;exact⟨h1,h2,h3,cs,h4.far h3 u,h5⟩⟩
 refine⟨?_,by rw[lS,lS,o.len],o.gb,fun k h' q' hk hkq=>?_,fun a b ha hb jA FS yJ l1 l2=>?_⟩
 ·have:=o.top.set_ i (.slice h.A q.length h.c)
  rw[List.map_set];rw[<-hr.len] at this ⊢;simpa[Mh.hd] using this
 ·rw[List.getElem?_set] at hk hkq
  by_cases zB:i=k
  ·subst zB
   rw[if_pos rfl,if_pos K7] at hk;rw[if_pos rfl,if_pos hi] at hkq;injection hk with hk;injection hkq with hkq;subst hk;subst hkq;exact gX _ hr
  ·rw[if_neg zB] at hk hkq
   exact gX _ (o.row k h' q' hk hkq)
 ·rw[List.getElem?_set] at FS yJ
  by_cases hia:i=a
  ·subst hia
   rw[if_pos rfl,if_pos K7] at FS;injection FS with FS;subst FS;rw[if_neg jA] at yJ;exact fun e=>hd b hb (fun e=>jA e.symm) yJ l2 l1 e.symm
  ·rw[if_neg hia] at FS
   by_cases hib:i=b
   ·subst hib
    rw[if_pos rfl,if_pos K7] at yJ;injection yJ with yJ;subst yJ;exact hd a ha (fun e=>hia e.symm) FS l1 l2
   ·rw[if_neg hib] at yJ
    exact o.dis a b ha hb jA FS yJ l1 l2
theorem kB.swap(o:kB w base g hs M){r p:Nat}{a b:List Rat}{ha hb:Mh}(h1:hs[r]?=some ha)(h2:hs[p]?=some hb)(h3:M[r]?=some a)(h4:M[p]?=some b):kB ((w.setCell ⟨g,r,none⟩ (.slice hb.A b.length hb.c)).setCell ⟨g,p,none⟩ (.slice ha.A a.length ha.c)) base g ((hs.set r hb).set p ha) ((M.set r b).set p a):=by
 have w_:=(dH.1 h1).1;have yI:=(dH.1 h2).1;have ra:=o.row r ha a h1 h3;have rb:=o.row p hb b h2 h4;have pY:∀{w:Wo}{cs:Array Value}{us:List Rv}{ps:List Rat}{i:Nat}{x:Value}(u:Value),aG w g 93 cs->cs[i]?=some x->(∀k y,x≠.int k y)->lI w us ps->lI (w.setCell ⟨g,i,none⟩ u) us ps:=fun{w cs us ps i x} u hb hc hx H k p v hp hv=>by
  have h0:c_ w w.heap.size p v.b1 v.A v.n v.c v.b2 v.A2 v.m v.d:=H k p v hp hv;refine c_.keep h0 (v:=x) ?_ hx u;rw[hb.cell];exact hc
 have ND:=o.top.set_ r (.slice hb.A b.length hb.c);have hd1:∀(i:Nat)(z:Mh),hs[i]?=some z->(hs.map Mh.hd).toArray[i]?=some z.hd:=fun i z hz=>by rw[List.getElem?_toArray,iY,hz];rfl
 have gX:∀{h:Mh}{q:List Rat},tQ w base g h q->tQ ((w.setCell ⟨g,r,none⟩ (.slice hb.A b.length hb.c)).setCell ⟨g,p,none⟩ (.slice ha.A a.length ha.c)) base g h q:=fun R=>
  ⟨R.len,R.cap,R.cm,by
   have k1:=pY (.slice hb.A b.length hb.c) o.top (hd1 r ha h1) (fun k y e=>by cases e) R.ok;by_cases hrp:r=p
   ·subst hrp
    exact pY _ ND (x:=.slice hb.A b.length hb.c) (by simp[w_]) (fun k y e=>by cases e) k1
   ·exact pY _ ND (x:=hb.hd) (by rw[Array.getElem?_setIfInBounds_ne hrp];exact hd1 p hb h2) (fun k y e=>by cases e) k1,fun h0=>by
   obtain⟨k1,k2,k3,cs,k4,k5⟩:=R.lies h0;exact⟨k1,k2,k3,cs,(k4.far k3 _).far k3 _,k5⟩⟩
 have GB:∀(i:Nat)(z:Mh),((hs.set r hb).set p ha)[i]?=some z->∃i' ,hs[i']?=some z/\((i'=i/\i≠r/\i≠p)\/(i=r/\i≠p/\i'=p)\/(i=p/\i'=r))/\∀q,((M.set r b).set p a)[i]?=some q->M[i']?=some q:=fun i z hz=>by
  rw[List.getElem?_set,List.getElem?_set,lS] at hz;by_cases hp:p=i
  ·subst hp
   rw[if_pos rfl,if_pos yI] at hz;injection hz with hz;subst hz;refine⟨r,h1,.inr (.inr ⟨rfl,rfl⟩),fun q hq=>?_⟩;rw[List.getElem?_set,if_pos rfl,if_pos (by rw[lS,<-o.len];exact yI)] at hq;rw[h3];exact hq
  ·rw[if_neg hp] at hz
   by_cases hr:r=i
   ·subst hr
    rw[if_pos rfl,if_pos w_] at hz;injection hz with hz;subst hz;refine⟨p,h2,.inr (.inl ⟨rfl,fun e=>hp e.symm,rfl⟩),fun q hq=>?_⟩;rw[List.getElem?_set,if_neg hp,List.getElem?_set,if_pos rfl,if_pos (by rw[<-o.len];exact w_)] at hq;rw[h4];exact hq
   ·rw[if_neg hr] at hz
    refine⟨i,hz,.inl ⟨rfl,fun e=>hr e.symm,fun e=>hp e.symm⟩,fun q hq=>?_⟩;rw[List.getElem?_set,if_neg hp,List.getElem?_set,if_neg hr] at hq;exact hq
 refine⟨?_,by simp[o.len],o.gb,fun i z q hz hq=>?_,fun i j z z' tE hz hz' l1 l2=>?_⟩
 ·have:=ND.set_ p (.slice ha.A a.length ha.c)
  rw[List.map_set,List.map_set];rw[<-ra.len,<-rb.len] at this ⊢;simpa[Mh.hd] using this
 ·obtain⟨i',k1,_,k3⟩:=GB i z hz
  exact gX (o.row i' z q k1 (k3 q hq))
 ·obtain⟨i',k1,k2,_⟩:=GB i z hz
  obtain⟨j',m1,m2,_⟩:=GB j z' hz';by_cases bX:i'=j'
  ·subst bX
   omega
  ·exact o.dis i' j' z z' bX k1 m1 l1 l2
end
theorem aFs:(Tryz.prog.info? 93).map (fun i=>(i.zero,i.size,i.bytes))=some (some (.slice none 0 0),1,24):=by kernel_rfl
def fR(n:Nat):Array Value:=(List.replicate n (Value.slice none 0 0)).toArray
theorem yG(n:Nat)(hn:n<=1000000)(w:Wo):(Instr.makeSlice 92 (.int .i64 (n:Int)) (.int .i64 (n:Int))).run Tryz.prog w=.ok (.slice (some ⟨w.heap.size,0,none⟩) n n) (w.alloc (.cells (fR n) 93)):=by
 obtain⟨i0,kA,rU,jR,kS⟩:=info_parts aFs;rw[run_make w 92 93 i0 _ Tryz.underlying92 kA rU .i64 .i64 (n:Int) (n:Int) (by omega) (Int.le_refl _) (by rw[kS];omega) (by omega),jF,jR,Nat.mul_one];rw[show(Value.slice none 0 0).cells=#[Value.slice none 0 0] from rfl];rw[show madeCells #[Value.slice none 0 0] n=(List.replicate n (Value.slice none 0 0)).toArray from by
  apply Array.ext';rw[toList_madeCells_one]]
 rfl
theorem yA(h:aG w g 93 (fR n))(hb:base<=g):kB w base g (List.replicate n ⟨none,0,0,[]⟩) (List.replicate n []):=by
 unfold fR at h;refine⟨by rw[List.map_replicate];exact h,by simp,hb,fun i h q hh hq=>?_,fun i j h h' _ hh _ l=>?_⟩
 ·rw[List.getElem?_replicate] at hh hq
  split at hh
  ·rw[if_pos ‹_›] at hq
   injection hh with hh;injection hq with hq;subst hh;subst hq;exact SD _ _ _ _ _ _ (by simp[maxLen])
  ·cases hh
 ·rw[List.getElem?_replicate] at hh
  split at hh
  ·injection hh with hh
   subst hh;simp at l
  ·cases hh
theorem SC{w':Wo}{v:Value}{vs:List Rv}(h:dP w base v vs qs)(hg:g<base):∃h:Mh,v=.slice h.A qs.length h.c/\h.vs=vs/\tQ w base g h qs:=by
 obtain⟨hl,h1⟩:=h.own;rcases h1 with⟨h1,h2⟩ | ⟨b,cap,cur,h1,h2,h3,h4,h5,h6,h7,_⟩
 ·have hq:qs=[]:=List.eq_nil_of_length_eq_zero (by rw[<-h.len];exact h2)
  have hv:vs=[]:=List.eq_nil_of_length_eq_zero h2;subst hq;subst hv;exact⟨⟨none,0,0,[]⟩,h1,rfl,SD _ _ _ _ _ _ (by simp[maxLen])⟩
 ·refine⟨⟨some ⟨b,0,none⟩,b,cap,vs⟩,by rw[<-h.len];exact h1,rfl,h.len,h4,h5,h.ok,fun _=>⟨rfl,h2,by simp only;omega,cur,h3,by rw[<-h.len];exact h7⟩⟩
theorem lQ.bm{l:List (List Rat)}(h:lQ w w.heap.size A n l)(g:Below w.heap.size w w'):lQ w' w'.heap.size A n l:=(h.below g lR).more g.size
end
section
open Go.ChangeShapes Go.WideShapes Go.ChangeAt Go.RowKit
attribute [local go_sem ↓] aE
attribute [local go_sem] aJ aI aM aR
theorem tQ.mono{base':Nat}{h:Mh}{q:List Rat}(r:tQ w base g h q)(hb:base'<=base):tQ w base' g h q:=
 ⟨r.len,r.cap,r.cm,r.ok,fun h0=>by
  obtain⟨h1,h2,h3⟩:=r.lies h0;exact⟨h1,cO hb h2,h3⟩⟩
theorem kB.lt{hs:List Mh}{M:List (List Rat)}(o:kB w base g hs M){j:Nat}{h:Mh}(hh:hs[j]?=some h)(h0:0<h.vs.length):h.g<w.heap.size:=by
 obtain⟨q,hq⟩:∃q,M[j]?=some q:=eA (by rw[<-o.len];exact(dH.1 hh).1);have r:=o.row j h q hh hq;obtain⟨_,_,_,cs,hb,_⟩:=r.lies (by rw[<-r.len];exact h0);exact hb.lt
theorem J2{M:List (List Rat)}{q:List Rat}(hn:M.length=n)(hq:M[k]?=some q):(M.take k++List.replicate (n-k) []).set k q=M.take (k+1)++List.replicate (n-(k+1)) []:=by
 have hk:=(dH.1 hq).1;rw[List.set_append_right _ _ (by rw[kR];omega),kR,Nat.min_eq_left (by omega),Nat.sub_self,pU hq];rw[show n-k=(n-(k+1))+1 from by omega,List.replicate_succ];simp
def aZm(M:List (List Rat))(w:Wo)(e:Ending)(w':Wo):Prop:=Below w.heap.size w w'/\∃g hs,e=.returned (.slice (some ⟨g,0,none⟩) M.length M.length)/\kB w' w.heap.size g hs M
theorem MH{q:List Rat}(h:iT w B A n q):∃vs:List Rv,vs.length=n/\q.length=n/\Rd w B 4 A n (fX vs)/\∀(i:Nat)(x:Rat)(v:Rv),q[i]?=some x->vs[i]?=some v->dD w B x v:=h
theorem BM(vs:List Rv):∀u∈fX vs,u.oneCell'=true/\rF u:=fun u hu=>by
 unfold fX at hu;obtain⟨v,_,hv⟩:=List.mem_flatMap.1 hu;exact DZ v u hv
theorem aOP(A:OA)(n c:Nat)(M:List (List Rat))(w:Wo)(hR:lQ w w.heap.size A n M)(hn:n<=1000000)(hw:∀a∈M,a.length<=1000000):Calls Tryz.prog 156 #[.slice A n c] w (aZm M w):=by
 obtain⟨HR,HL,HWD,v_⟩:=iK hR hR.len hw hn;obtain⟨i0,kA,rU,jR,kS⟩:=pW;obtain⟨L4,E9,QF,LB⟩:=iK kA rU jR kS;clear hR hw kA rU jR kS;have vI:∀w:World,(Instr.makeSlice 92 (.int .i64 (n:Int)) (.int .i64 (n:Int))).run Tryz.prog w=.ok (.slice (some ⟨w.heap.size,0,none⟩) n n) (w.alloc (.cells (fR n) 93)):=fun w=>yG n hn w;have HK:=lH ((Below.refl w.heap.size w).alloc lR (.cells (fR n) 93));have HG:=lH (aG.new w 93 (fR n));go_enter Tryz.func156,Tryz.ntmps156
 go_wp2_with fail
 clear vI;generalize w.alloc (.cells (fR n) 93)=W at *;have HO:=lH (yA HG.o lR);generalize hg:w.heap.size=g at *;have pB:=lH hg;clear hg HG
 go_loopw [11] (fun v11 wr=>∃(k:Nat)(hs:List Mh),k<=n/\v11=.int .i64 k/\Below g w wr/\kB wr g g hs (M.take k++List.replicate (n-k) [])) (fun v11 _=>n-(intOf v11).toNat)
 case atStart=>exact⟨0,_,by omega,rfl,HK.o,by rw[List.take_zero,List.nil_append,Nat.sub_zero];exact HO.o⟩
 case round=>
  clear HK HO;obtain⟨k,hs,hk,rfl,hb,ho⟩:=hrel;have HK:=lH hb;have HO:=lH ho;clear hb ho;by_cases aU:k<n
  ·obtain⟨q,hq⟩:∃q,M[k]?=some q:=eA (by have:=HL.o;omega)
   obtain⟨b,o,hA,hb⟩:=(HR.o.below HK.o (by have:=pB.o;omega)).form (by omega);subst hA;obtain⟨h,hc,hrq,hh1,hh2⟩:=(HR.o.below HK.o (by have:=pB.o;omega)).at_ hq;have sL:Hid (g<wr.heap.size):=lH HO.o.top.lt;have HRQ:=lH (hrq.more (B':=wr.heap.size) (by have:=pB.o;have:=sL.o;omega));obtain⟨HQ,HQW,HF⟩:=d_ hq (HWD.o q (bV hq)) (J2 HL.o hq);have fY:(k:Int)<(n:Int):=by omega
   have fC:=lN k;have iI:Hid (n-(k+1)<n-k):=lH (by omega);have sH:b<wr.heap.size:=by have:=HK.o.size;have:=pB.o;omega
   obtain⟨vs,nG,lA,qT,uF⟩:=MH HRQ.o;obtain⟨hA0,mY,JV⟩:=h;simp only at hc nG lA qT uF hh1 hh2;obtain⟨lT,sJ,vM,UD⟩:=iK nG lA qT uF;have a5C:mY<=1000000:=by have:=HQW.o;omega
   clear nG lA qT uF hq hrq hb HR
   go_wp2_with (at_builtin;refine oS (S:=rF) rfl (.const (.slice none 0 0)) (.tmp 18) _ rfl g 115 i0 _ 4 64 Tryz.underlying93 L4.o E9.o QF.o LB.o rfl (by omega) wF (.slice none 0 0) 0 [] rfl (eQ _ _ _ _ _) hA0 mY JV (fX vs) rfl vM.o (BM vs) ?k1 ?k2 ?k3 ?_)
   case k1=>simp only[maxLen];omega
   case k2=>omega
   case k3=>have:=sL.o;omega
   intro v' w6 bB vJ fT aCg dC;have hvn:vs.length=mY:=lT.o;rw[<-hvn] at aCg;have hoq:dP w6 wr.heap.size v' vs q:=⟨aCg,by rw[lT.o,sJ.o],lI.up (w:=wr) (w':=w6) UD.o fT⟩;obtain⟨h2,hv,hvs,gX⟩:=SC (w':=w6) (g:=g) hoq sL.o;clear hoq;subst hv;have sC:=lH (gX.mono (base':=g) (pJ sL.o));have fL:=lH (HK.o.trans (fT.mono (pJ sL.o)));have HO6:=lH (HO.o.up fT);have Y4:Hid (∀j (h':Mh),j≠k->hs[j]?=some h'->0<h'.vs.length->0<h2.vs.length->h'.g≠h2.g):=lH fun j h' _ hh l1 l2=>by
    have h3:=HO.o.lt hh l1;have h4:=(gX.lies (by rw[<-gX.len];exact l2)).2.1;omega
   clear bB vJ fT aCg dC hvn hvs gX hc HK HO;have gl:=HO6.o.top.lt;have gf:=HO6.o.top.frozen;obtain⟨gv,gc⟩:∃gv,w6.cell? ⟨g,k,none⟩=some gv:=by
    rw[HO6.o.top.cell];exact⟨_,Array.getElem?_eq_getElem (by simp;rw[HO6.o.len];simp;have:=HL.o;omega)⟩
   generalize hql:q.length=ql at *;have l8:=lH hql;clear hql;(go_wp2_with fail);go_roundw
   case rel=>exact⟨k+1,hs.set k h2,aU,aO fC.o,fL.o.setCell lR _,by rw[<-HF.o,<-l8.o];exact HO6.o.setRow (by simp;have:=HL.o;omega) sC.o Y4.o⟩
   case measure=>exact iI.o
  ·have nH:k=n:=by omega
   subst nH;have fY:¬(k:Int)<(k:Int):=by omega
   (go_wp2_with fail);go_ret;refine⟨by rw[pB.o];exact HK.o,g,hs,by rw[HL.o];rfl,?_⟩;have h:=HO.o;rw[Nat.sub_self,List.replicate_zero,List.append_nil,nL (by rw[HL.o];exact lR)] at h;rw[pB.o];exact h
def QP(q:Rat)(w:Wo)(e:Ending)(w':Wo):Prop:=Below w.heap.size w w'/\∃v:Rv,e=.returned (.agg #[.bool v.b1,.slice v.A v.n v.c,.bool v.b2,.slice v.A2 v.m v.d])/\dD w' w'.heap.size q v
theorem RtP.qp{q:Rat}(h:RtP q w e w'):QP q w e w':=by
 obtain⟨hb,b1,A,n,c,b2,A2,m,d,he,h⟩:=h;exact⟨hb,⟨b1,A,n,c,b2,A2,m,d⟩,he,h⟩
section
variable {w w':Wo} {B B':Nat} {q:Rat} {v:Rv}
theorem dD.below(h:dD w B q v)(hb:Below B' w w')(hB:B<=B'):dD w' B q v:=c_.below h hb hB
theorem dD.more(h:dD w B q v)(hB:B<=B'):dD w B' q v:=c_.more h hB
theorem dD.up(h:dD w w.heap.size q v)(hb:Below w.heap.size w w'):dD w' w'.heap.size q v:=c_.up h hb
end
theorem LL{q:Rat}{v u:Rv}(h1:dD w w.heap.size p v)(h2:dD w w.heap.size q u)(hs:bI p+bI q+1<=35184372088832):Calls Tryz.prog 70 #[.agg #[.bool v.b1,.slice v.A v.n v.c,.bool v.b2,.slice v.A2 v.m v.d],.agg #[.bool u.b1,.slice u.A u.n u.c,.bool u.b2,.slice u.A2 u.m u.d]] w (QP (p*q) w):=
 (RX p q v.b1 v.A v.n v.c v.b2 v.A2 v.m v.d u.b1 u.A u.n u.c u.b2 u.A2 u.m u.d w h1 h2 hs).mono fun _ _ h=>h.qp
theorem EZ{q:Rat}{v u:Rv}(h1:dD w w.heap.size p v)(h2:dD w w.heap.size q u)(hs:bI p+bI q+1<=35184372088832):Calls Tryz.prog 69 #[.agg #[.bool v.b1,.slice v.A v.n v.c,.bool v.b2,.slice v.A2 v.m v.d],.agg #[.bool u.b1,.slice u.A u.n u.c,.bool u.b2,.slice u.A2 u.m u.d]] w (QP (p+q) w):=
 (JC p q v.b1 v.A v.n v.c v.b2 v.A2 v.m v.d u.b1 u.A u.n u.c u.b2 u.A2 u.m u.d w h1 h2 hs).mono fun _ _ h=>h.qp
theorem OC{q:Rat}{v u:Rv}(h1:dD w w.heap.size p v)(h2:dD w w.heap.size q u)(hs:bI p+bI q+1<=35184372088832):Calls Tryz.prog 68 #[.agg #[.bool v.b1,.slice v.A v.n v.c,.bool v.b2,.slice v.A2 v.m v.d],.agg #[.bool u.b1,.slice u.A u.n u.c,.bool u.b2,.slice u.A2 u.m u.d]] w (QP (p-q) w):=
 (aEl p q v.b1 v.A v.n v.c v.b2 v.A2 v.m v.d u.b1 u.A u.n u.c u.b2 u.A2 u.m u.d w h1 h2 hs).mono fun _ _ h=>h.qp
theorem aTq{q:Rat}{v u:Rv}(h1:dD w w.heap.size p v)(h2:dD w w.heap.size q u)(hq:q≠0)(hs:bI p+bI q+1<=35184372088832):Calls Tryz.prog 120 #[.agg #[.bool v.b1,.slice v.A v.n v.c,.bool v.b2,.slice v.A2 v.m v.d],.agg #[.bool u.b1,.slice u.A u.n u.c,.bool u.b2,.slice u.A2 u.m u.d]] w (QP (p / q) w):=
 (aEy p q v.b1 v.A v.n v.c v.b2 v.A2 v.m v.d u.b1 u.A u.n u.c u.b2 u.A2 u.m u.d w h1 h2 hq hs).mono fun _ _ h=>h.qp
theorem aRu{v:Rv}(h1:dD w w.heap.size p v):Calls Tryz.prog 108 #[.agg #[.bool v.b1,.slice v.A v.n v.c,.bool v.b2,.slice v.A2 v.m v.d]] w (QP (-p) w):=
 (RW p v.b1 v.A v.n v.c v.b2 v.A2 v.m v.d w h1).mono fun _ _ h=>h.qp
theorem uZ{v:Rv}(h1:dD w w.heap.size p v):Calls Tryz.prog 119 #[.agg #[.bool v.b1,.slice v.A v.n v.c,.bool v.b2,.slice v.A2 v.m v.d]] w fun e w'=>e=.returned (.int .i64 p.num.sign)/\Below w.heap.size w w':=aBA p v.b1 v.A v.n v.c v.b2 v.A2 v.m v.d w h1
theorem qD(k:Int)(w:Wo)(h0:-9223372036854775808<=k)(h1:k<=9223372036854775807):Calls Tryz.prog 66 #[.int .i64 k] w (QP (k:Rat) w):=(aBa k w h0 h1).mono fun _ _ h=>h.qp
theorem aAt(k d:Int)(w:Wo)(h0:-9223372036854775808<=k)(h1:k<=9223372036854775807)(h2:-9223372036854775808<=d)(h3:d<=9223372036854775807)(hd:d≠0):Calls Tryz.prog 92 #[.int .i64 k,.int .i64 d] w (QP (Rat.divInt k d) w):=(aGt k d w h0 h1 h2 h3 hd).mono fun _ _ h=>h.qp
theorem aRl{q:Rat}{v:Rv}(h1:dD w w.heap.size q v)(ht:dM w):Calls Tryz.prog 71 #[.agg #[.bool v.b1,.slice v.A v.n v.c,.bool v.b2,.slice v.A2 v.m v.d]] w (aTC q w):=D6 q v.b1 v.A v.n v.c v.b2 v.A2 v.m v.d w h1 ht
theorem VX{x v:Rv}(h:aG w g T #[.bool x.b1,.slice x.A x.n x.c,.bool x.b2,.slice x.A2 x.m x.d]):aG ((((w.setCell ⟨g,0,none⟩ (.bool v.b1)).setCell ⟨g,1,none⟩ (.slice v.A v.n v.c)).setCell ⟨g,2,none⟩ (.bool v.b2)).setCell ⟨g,3,none⟩ (.slice v.A2 v.m v.d)) g T #[.bool v.b1,.slice v.A v.n v.c,.bool v.b2,.slice v.A2 v.m v.d]:=gF h
theorem dD.keepq{x v u:Rv}{q:Rat}(h:dD w w.heap.size q u)(hb:aG w g T #[.bool x.b1,.slice x.A x.n x.c,.bool x.b2,.slice x.A2 x.m x.d]):dD ((((w.setCell ⟨g,0,none⟩ (.bool v.b1)).setCell ⟨g,1,none⟩ (.slice v.A v.n v.c)).setCell ⟨g,2,none⟩ (.bool v.b2)).setCell ⟨g,3,none⟩ (.slice v.A2 v.m v.d)) ((((w.setCell ⟨g,0,none⟩ (.bool v.b1)).setCell ⟨g,1,none⟩ (.slice v.A v.n v.c)).setCell ⟨g,2,none⟩ (.bool v.b2)).setCell ⟨g,3,none⟩ (.slice v.A2 v.m v.d)).heap.size q u:=by
 have B1:=hb.set_at (i:=0) (cs':=#[.bool v.b1,.slice x.A x.n x.c,.bool x.b2,.slice x.A2 x.m x.d]) (.bool v.b1) (by simp);have B2:=B1.set_at (i:=1) (cs':=#[.bool v.b1,.slice v.A v.n v.c,.bool x.b2,.slice x.A2 x.m x.d]) (.slice v.A v.n v.c) (by simp);have B3:=B2.set_at (i:=2) (cs':=#[.bool v.b1,.slice v.A v.n v.c,.bool v.b2,.slice x.A2 x.m x.d]) (.bool v.b2) (by simp);exact(((c_.keep h (hb.cell 0) (by simp) _).keep (B1.cell 1) (by simp) _).keep (B2.cell 2) (by simp) _).keep (B3.cell 3) (by simp) _
theorem aWZ{g':Nat}{v:Rv}(h:aG w g' T cs)(hg:g'≠g):aG ((((w.setCell ⟨g,0,none⟩ (.bool v.b1)).setCell ⟨g,1,none⟩ (.slice v.A v.n v.c)).setCell ⟨g,2,none⟩ (.bool v.b2)).setCell ⟨g,3,none⟩ (.slice v.A2 v.m v.d)) g' T cs:=(((h.far hg _).far hg _).far hg _).far hg _
def F8(w:Wo)(g:Nat)(v:Rv):World:=(((w.setCell ⟨g,0,none⟩ (.bool v.b1)).setCell ⟨g,1,none⟩ (.slice v.A v.n v.c)).setCell ⟨g,2,none⟩ (.bool v.b2)).setCell ⟨g,3,none⟩ (.slice v.A2 v.m v.d)
theorem dO{a:Wo}{v:Rv}(h:Below B a w)(hg:B<=g):Below B a (F8 w g v):=KD h hg
theorem iT.keepq{T:Nat}{x v:Rv}(h:iT w B A n qs)(hB:B<=g):iT (F8 w g v) B A n qs:=h.below (dO (Below.refl B w) hB) lR
theorem dV(k:Int)(h0:-9223372036854775808<=k)(h1:k<=9223372036854775807):bI (k:Rat)<=2:=by
 unfold bI;rw[Rat.num_intCast,Rat.den_intCast];exact Nat.max_le.2 ⟨lE (by show _<4294967296^2;omega),by decide+kernel⟩
def sS(qs:List Rat):Rat:=qs.foldl (·+·) 0
theorem DW(qs:List Rat)(q:Rat):sS (qs++[q])=sS qs+q:=by unfold sS;rw[List.foldl_append];rfl
theorem RF:∀(n:Nat)(qs:List Rat),qs.length=n->∀b,(∀q∈qs,bI q<=b)->bI (sS qs)<=n*(b+1)+1
 | 0,qs,h,b,hb=>by
  rw[List.length_eq_zero_iff] at h;subst h;show bI 0<=_;have:bI 0<=1:=by decide+kernel
  omega
 | n+1,qs,h,b,hb=>by
  obtain⟨r,q,rfl⟩:∃r q,qs=r++[q]:=⟨qs.dropLast,qs.getLast (by intro e;subst e;simp at h),(List.dropLast_concat_getLast _).symm⟩;rw[jW,List.length_singleton] at h;have h1:=RF n r (by omega) b fun q hq=>hb q (List.mem_append_left _ hq);have h2:=hb q (by simp);rw[DW];have h3:=lG (sS r) q;rw[Nat.succ_mul];omega
def jJ(a b:List Rat):Rat:=sS (List.zipWith (·*·) a b)
section
variable (P:Program)
theorem zO(w:Wo)(dT sT ty elem:TypeId)(g o dLen dCap:Nat)(a:Addr)(sLen sCap sz:Nat)(cur:Array Value)(t:TypeId)(cs:List Value)(hu:P.underlying dT=some (.slice elem))(hs:(P.info? elem).map (·.size)=some sz)(hg:w.heap[g]?=some (.cells cur t (0,0)))(hn:cs.length=Nat.min sLen dLen*sz)(rI:∀j v,cs[j]?=some v->w.cell? (a.add j)=some v)(uL:o+cs.length<=cur.size)(h1:∀v∈cs,v.oneCell'=true):(Builtin.copy_ #[dT,sT] ty #[.slice (some ⟨g,o,none⟩) dLen dCap,.slice (some a) sLen sCap]).run P w =
     .ok (goInt (Nat.min sLen dLen)) (w.setRow g (cur.toList.take o++cs++cur.toList.drop (o+cs.length)).toArray):=by
 have hl:=run_loadCells_list (P:=P) w a cs rI;have M7:=run_storeCells_at P g o t cs 0 cur w hg (by simpa using uL) h1;cases hq:P.info? elem with
 | none=>simp[hq] at hs
 | some i=>
  have hi:i.size=sz:=by simpa[hq] using hs
  simp[Builtin.copy_,run_underlying hu,Builtin.lenOf,Builtin.firstCells,sizeOf,typeInfo,hq,hi,<-hn,hl,M7]
end
theorem VM{P:Program}{ops:Array Oper}{o:Oper}{a:Act}{w:Wo}{K:Act->World->Prop}{Q:Exit->Act->World->Prop}{E:Prop}(q:Nat)(hq:o.dst=some q)(AK:o.guard=none)(d s:Operand)(dT sT:TypeId)(ho:o.op=.call { callee:=.builtin .copy,args:=#[d,s],argTypes:=#[dT,sT] })(elem:TypeId)(sz:Nat)(hu:P.underlying dT=some (.slice elem))(iV:(P.info? elem).map (·.size)=some sz)(ad:Addr)(dLen dCap sLen sCap g off:Nat)(hd:a.eval d=.slice (some ⟨g,off,none⟩) dLen dCap)(hs:a.eval s=.slice (some ad) sLen sCap)(cur:List Value)(t:TypeId)(hg:w.heap[g]?=some (.cells cur.toArray t (0,0)))(cs:List Value)(hn:cs.length=Nat.min sLen dLen*sz)(rI:∀j v,cs[j]?=some v->w.cell? (ad.add j)=some v)(uL:off+cs.length<=cur.length)(h1:∀v∈cs,v.oneCell'=true)(B:Nat)(w0:Wo)(hb:Below B w0 w)(hBg:B<=g)(h:∀w',Hid (w'.heap[g]?=some (.cells (splice cur off cs).toArray t (0,0)))->Below B w0 w'->K (a.put (some q) (goInt (Nat.min sLen dLen))) w'):if Region.wanted o (yielded ops a.tmps)=true then Oper.wp P o a w K Q else E:=by
 have hw:Region.wanted o (yielded ops a.tmps)=true:=by simp[Region.wanted,AK]
 rw[if_pos hw];have O6:=zO P w dT sT o.type elem g off dLen dCap ad sLen sCap sz cur.toArray t cs hu iV hg hn rI (by simpa using uL) h1;unfold Oper.wp;simp only[execOp,ho,resolve,invoke,builtin,Sem.run_bind,Sem.run_pure,Result.andThen_ok,List.map_toArray,List.map_cons,List.map_nil,hd,hs,O6];have h2:=h (w.setRow g (cur.take off++cs++cur.drop (off+cs.length)).toArray) (show _=_ by simpa[splice] using setRow_heap w g _ _ t _ hg) (below_setRow hb hBg _);rw[<-hq] at h2;exact h2
theorem N5{P:Program}{w:Wo}{ops:Array Oper}{rest:List Oper}{o:Oper}{a:Act}{Q:Exit->Act->World->Prop}(AK:o.guard=none)(d s:Operand)(dT sT:TypeId)(ho:o.op=.call { callee:=.builtin .copy,args:=#[d,s],argTypes:=#[dT,sT] })(elem:TypeId)(sz:Nat)(hu:P.underlying dT=some (.slice elem))(iV:(P.info? elem).map (·.size)=some sz)(ad:Addr)(dLen dCap sLen sCap g off:Nat)(hd:a.eval d=.slice (some ⟨g,off,none⟩) dLen dCap)(hs:a.eval s=.slice (some ad) sLen sCap)(cur:List Value)(t:TypeId)(hg:w.heap[g]?=some (.cells cur.toArray t (0,0)))(cs:List Value)(hn:cs.length=Nat.min sLen dLen*sz)(rI:∀j v,cs[j]?=some v->w.cell? (ad.add j)=some v)(uL:off+cs.length<=cur.length)(h1:∀v∈cs,v.oneCell'=true)(B:Nat)(w0:Wo)(hb:Below B w0 w)(hBg:B<=g)(h:∀w',Hid (w'.heap[g]?=some (.cells (splice cur off cs).toArray t (0,0)))->Below B w0 w'->wpList P ops Q rest (a.put o.dst (goInt (Nat.min sLen dLen))) w'):wpList P ops Q (o::rest) a w:=by
 refine wpList_plain AK fun K hK=>?_;have O6:=zO P w dT sT o.type elem g off dLen dCap ad sLen sCap sz cur.toArray t cs hu iV hg hn rI (by simpa using uL) h1;unfold Oper.wp execOp;simp only[ho,resolve,invoke,builtin,Sem.run_bind,Sem.run_pure,Result.andThen_ok,List.map_toArray,List.map_cons,List.map_nil,hd,hs,O6];exact hK _ _ (h _ (show _=_ by simpa[splice] using setRow_heap w g _ _ t _ hg) (below_setRow hb hBg _))
theorem RQ:(Tryz.prog.info? 115).map (·.size)=some 4:=by kernel_rfl
def aHl(v:Rv)(k:Nat)(cur:List Value):Prop:=∀i,i<k*4->cur[i]?=(fX (List.replicate k v))[i]?
theorem nQ(v:Rv)(k i:Nat)(h:i<k*4):(fX (List.replicate k v))[i]?=v.cells[i % 4]?:=by
 have h1:i / 4<k:=by omega
 have:=t_ (vs:=List.replicate k v) (i:=i / 4) (v:=v) (by rw[List.getElem?_replicate,if_pos h1]) (i % 4) (Nat.mod_lt _ (by decide));rwa[show i / 4*4+i % 4=i from by omega] at this
theorem FI(vs:List Rv):∀u∈fX vs,u.oneCell'=true:=fun u hu=>(BM vs u hu).1
theorem I7{v:Rv}{q:Nat}{cur:List Value}(hl:cur.length=n*4)(hc:aHl v k cur)(hq:k+q<=n):(splice cur (k*4) (fX (List.replicate q v))).length=n*4/\aHl v (k+q) (splice cur (k*4) (fX (List.replicate q v))):=by
 have hlr:(fX (List.replicate q v)).length=q*4:=by rw[eD,rB]
 refine⟨by unfold splice;simp only[jW,kR,LC,hlr];omega,fun i hi=>?_⟩;unfold splice;rw[nQ v _ _ hi];by_cases zB:i<k*4
 ·rw[BD (by rw[kR];omega),List.getElem?_take,if_pos zB,hc i zB,nQ v _ _ zB]
 ·rw[DN (by rw[kR];omega),kR,Nat.min_eq_left (by omega),BD (by rw[hlr];omega),nQ v _ _ (by omega)]
  rw[show(i-k*4) % 4=i % 4 from by omega]
theorem aHl.all{v:Rv}{cur:List Value}(hl:cur.length=n*4)(h:aHl v n cur):cur=fX (List.replicate n v):=by
 apply List.ext_getElem?;intro i;by_cases hi:i<n*4
 ·exact h i hi
 ·rw[List.getElem?_eq_none (by omega),List.getElem?_eq_none (by rw[eD,rB];omega)]
theorem aEs(v:Rv)(b:Nat)(n:Nat)(w:Wo)(hv:aG w b 115 #[.bool v.b1,.slice v.A v.n v.c,.bool v.b2,.slice v.A2 v.m v.d])(hn:n<=1000):Calls Tryz.prog 139 #[.slice (some ⟨b,0,none⟩) 1 1,.int .i64 n] w fun e w'=>∃g,e=.returned (.slice (some ⟨g,0,none⟩) n n)/\w.heap.size<=g/\aG w' g 115 (fX (List.replicate n v)).toArray/\Below w.heap.size w w':=by
 have S8:=hv.lt;have vI:∀w:World,(Instr.makeSlice 93 (.int .i64 (n:Int)) (.int .i64 (n:Int))).run Tryz.prog w=.ok (.slice (some ⟨w.heap.size,0,none⟩) n n) (w.alloc (.cells (fX (List.replicate n DD)).toArray 115)):=fun w=>JK n (by omega) w;have HHV:=lH hv;clear hv;go_enter Tryz.func139,Tryz.ntmps139
 go_wp2_with fail
 refine(Z6 1 n (by omega) (by omega) _).mono ?_;rw[show(1*n / 18446744073709551616:Nat)=0 from by omega,show(1*n % 18446744073709551616:Nat)=n from by omega];rintro e w' ⟨rfl,rfl⟩;have hB0:=jT w (.cells (fX (List.replicate n DD)).toArray 115);have dC:(w.alloc (.cells (fX (List.replicate n DD)).toArray 115)).heap[w.heap.size]?=some (.cells (fX (List.replicate n DD)).toArray 115 (0,0)):=heap_alloc_new w _;obtain⟨dA,aP8,a0A⟩:=d_ hB0 dC (HHV.o.below hB0 S8);have aKF:Hid (∀j u,(fX (List.replicate (Nat.min 1 n) v))[j]?=some u->(w.alloc (.cells (fX (List.replicate n DD)).toArray 115)).cell? ((⟨b,0,none⟩:Addr).add j)=some u):=lH fun j u hu=>by
  have hj:=(dH.1 hu).1;rw[eD,rB] at hj;have hm:Nat.min 1 n<=1:=Nat.min_le_left _ _;rw[nQ v _ _ (by omega)] at hu;rw[Addr.add_lit,Nat.zero_add,a0A.o.cell j];have hj4:j % 4=j:=by omega
  rw[hj4] at hu;simpa[Rv.cells] using hu
 have LN:(fX (List.replicate n DD)).length=n*4:=by rw[eD,rB]
 have mA:=lH LN;have aJH:Nat.min 1 n<=n:=Nat.min_le_right _ _;have aFZ:0<n->0<Nat.min 1 n:=fun h=>Nat.lt_min.2 ⟨by decide,h⟩;clear hB0 dC LN
 go_wp2_with (refine N5 rfl (.tmp 31) (.tmp 32) 93 93 rfl 115 4 Tryz.underlying93 RQ ⟨b,0,none⟩ n n 1 1 w.heap.size 0 rfl rfl (fX (List.replicate n DD)) 115 aP8.o (fX (List.replicate (Nat.min 1 n) v)) (by rw[eD,rB]) aKF.o (by rw[eD,rB,mA.o];omega) (FI _) w.heap.size w dA.o lR ?_)
 intro w2 bH k2;have lB:=I7 (v:=v) (k:=0) (q:=Nat.min 1 n) (n:=n) mA.o (fun i hi=>by omega) (by omega);rw[Nat.zero_mul,Nat.zero_add] at lB;generalize splice (fX (List.replicate n DD)) 0 (fX (List.replicate (Nat.min 1 n) v))=cur0 at bH lB;obtain⟨cH,xO,U4⟩:=d_ bH.out k2 lB;clear bH k2 lB vI aKF;generalize Nat.min 1 n=k0 at *
 go_wp2_with fail
 go_loopw [8] (fun i wr=>∃k:Nat,k<=n/\i=.int .i64 k/\(0<n->0<k)/\Below w.heap.size w wr/\∃cur:List Value,cur.length=n*4/\aHl v k cur/\Hid (wr.heap[w.heap.size]?=some (.cells cur.toArray 115 (0,0)))) (fun i _=>n-(intOf i).toNat)
 case atStart=>exact⟨k0,aJH,rfl,aFZ,xO.o,cur0,U4.o.1,U4.o.2,cH⟩
 case round=>
  obtain⟨k,hk,rfl,GD,aGj,cur,zC,hci,dC⟩:=hrel;obtain⟨HCI,mE,Y8⟩:=d_ hci aGj zC;clear hci aGj zC xO cH U4;by_cases aU:k<n
  ·have aSG:0<k:=GD (by omega)
   clear GD;have UE:Hid (∀j u,(fX (List.replicate (Nat.min k (n-k)) v))[j]?=some u->wr.drew.cell? ((⟨w.heap.size,0,none⟩:Addr).add j)=some u):=lH fun j u hu=>by
    have hj:=(dH.1 hu).1;rw[eD,rB] at hj;have hm:Nat.min k (n-k)<=k:=Nat.min_le_left _ _;rw[nQ v _ _ hj,<-nQ v k _ (by omega),<-HCI.o j (by omega)] at hu;have h2:=cell_of_row wr w.heap.size j cur.toArray 115 (0,0) dC.out;rw[Addr.add_lit,Nat.zero_add];show wr.cell? _=_;rw[h2];simpa using hu
   have hI1:(k:Int)<=(n:Int):=by omega
   have hI2:=lZ k;have aXQ:Nat.min k (n-k)<=n-k:=Nat.min_le_right _ _;have S1:0<Nat.min k (n-k):=Nat.lt_min.2 ⟨aSG,by omega⟩;have hw1:IntKind.i64.wrap ((k:Int)+((Nat.min k (n-k):Nat):Int))=(k:Int)+((Nat.min k (n-k):Nat):Int):=IntWalk.i64_in _ (by omega);(go_wp2_with fail)
   go_region_law (refine VM 45 rfl rfl (.tmp 41) (.tmp 44) 93 93 rfl 115 4 Tryz.underlying93 RQ ⟨w.heap.size,0,none⟩ (n-k) (n-k) k n w.heap.size (k*4) (by simp[Act.eval,Act.put];omega) (by simp[Act.eval,Act.put]) cur 115 dC.out (fX (List.replicate (Nat.min k (n-k)) v)) (by rw[eD,rB]) UE.o (by rw[eD,rB,Y8.o];omega) (FI _) w.heap.size w (aK mE.o) lR ?_;intro w3 cN k3)
   have hk3:=I7 (v:=v) (k:=k) (q:=Nat.min k (n-k)) (n:=n) Y8.o HCI.o (by omega);obtain⟨Q3,aPU,aP9⟩:=d_ hk3 k3 cN.out;have aN9:k+Nat.min k (n-k)<=n:=by omega
   clear hk3 k3 cN UE;generalize splice cur (k*4) (fX (List.replicate (Nat.min k (n-k)) v))=cur3 at *;generalize Nat.min k (n-k)=q at *;(go_wp2_with fail);go_roundw
   case rel=>exact⟨k+q,aN9,by go_num,fun _=>by omega,aPU.o,cur3,Q3.o.1,Q3.o.2,aP9⟩
   case measure=>simp[intOf];omega
  ·have rJ:k=n:=by omega
   subst rJ;(go_wp2_with fail);go_ret;refine⟨w.heap.size,rfl,lR,?_,mE.o⟩;have:=dC.out;rw[HCI.o.all Y8.o] at this;exact this
def aZg(n:Nat)(w:Wo)(e:Ending)(w':Wo):Prop:=Below w.heap.size w w'/\∃(g:Nat)(v:Rv),e=.returned (.slice (some ⟨g,0,none⟩) n n)/\w.heap.size<=g/\aG w' g 115 (fX (List.replicate n v)).toArray/\dD w' w'.heap.size 0 v
theorem mL(n:Nat)(w:Wo)(hn:n<=1000):Calls Tryz.prog 106 #[.int .i64 n] w (aZg n w):=by
 go_enter Tryz.func106,Tryz.ntmps106
 go_wp2_with fail
 refine(qD 0 w (by decide) (by decide)).mono ?_;rintro e w1 ⟨bC,v1,rfl,h1⟩;have bT:=lH bC;have H1:Hid (dD w1 w1.heap.size 0 v1):=lH (by have:=h1;rwa[show(((0:Int)):Rat)=0 from rfl] at this);clear bC h1
 go_wp2_with fail
 have pI:=jT w1 (.cells #[.bool v1.b1,.slice v1.A v1.n v1.c,.bool v1.b2,.slice v1.A2 v1.m v1.d] 115);have GQ:=bW bT pI;replace H1:=lH (H1.o.up pI);have HX:=lH (aG.new w1 115 #[.bool v1.b1,.slice v1.A v1.n v1.c,.bool v1.b2,.slice v1.A2 v1.m v1.d]);have HG:Hid (w.heap.size<=(w1.alloc (.cells #[.bool v1.b1,.slice v1.A v1.n v1.c,.bool v1.b2,.slice v1.A2 v1.m v1.d] 115)).heap.size):=lH GQ.o.size;clear pI;refine(aEs v1 w1.heap.size n _ HX.o hn).mono ?_;rintro e w2 ⟨g,rfl,hg,zW,bH⟩;obtain⟨cH,H2,HK⟩:=d_ (GQ.o.trans (bH.mono HG.o)) (H1.o.up bH) zW;have hgw:w.heap.size<=g:=cO HG.o hg;clear bH zW hg
 go_wp2_with fail
 go_ret;exact⟨cH.o,g,v1,rfl,hgw,HK.o,H2.o⟩
end
section
open Go.ChangeShapes Go.WideShapes Go.ChangeAt Go.RowKit Go.Joins
theorem rL{ops:Array Oper}{rest:List Oper}{o:Oper}{a:Act}{Q:Exit->Act->World->Prop}{w:Wo}{T:TypeId}(AK:o.guard=none)(s x:Operand)(t:TypeId)(ho:o.op=.call { callee:=.builtin .append,args:=#[s,x],argTypes:=#[t,t] })(base:Nat)(ht:Tryz.prog.underlying t=some (.slice 115))(v:Value)(vs:List Rv)(qs:List Rat)(hs:a.eval s=v)(bB:dP w base v vs qs)(u:Rv)(q:Rat)(hq:dD w w.heap.size q u)(hx:a.eval x=.slice (some ⟨w.heap.size,0,none⟩) 1 1)(xC:qs.length<=1000000000000)(cS:base<=w.heap.size)(h:∀v' w',dP w' base v' (vs++[u]) (qs++[q])->d8 rF base 115 (w.alloc (.cells #[.bool u.b1,.slice u.A u.n u.c,.bool u.b2,.slice u.A2 u.m u.d] T)) w'->Below base w w'->wpList Tryz.prog ops Q rest (a.put o.dst v') w'):wpList Tryz.prog ops Q (o::rest) a (w.alloc (.cells #[.bool u.b1,.slice u.A u.n u.c,.bool u.b2,.slice u.A2 u.m u.d] T)):=by
 obtain⟨i0,kA,rU,jR,kS⟩:=pW;have hl:=bB.len;refine wK (S:=rF) AK s x t ho base 115 i0 _ 4 64 ht kA rU jR kS rfl (by omega) wF v vs.length (fX vs) hs bB.own hx rfl (DZ u) (by simp only[maxLen];omega) (by omega) cS fun v' w' h1 h2 _=>?_;have hb:=jT w (.cells #[.bool u.b1,.slice u.A u.n u.c,.bool u.b2,.slice u.A2 u.m u.d] T);exact h v' w' (dP.app (bB.keep hb) (hq.up hb) h1 h2) h2 ((hb.mono cS).trans h2.low)
end
