import Derived.Test.YtonlblmobjhjjaaGreatDoorW07
import Derived.Test.YtonlblmobjhjjaaGreatDoorW08
import Derived.Laws.MakeOwn
set_option linter.unusedVariables false
set_option linter.unusedSimpArgs false
namespace Go.Proofs.YtonlblmobjhjjaaGreatDoor
set_option maxHeartbeats 8000000
set_option maxRecDepth 100000
variable {A : OA} {B T base e g g' i j k m n t : Nat} {M : List (List Rat)} {cs : Array Value} {l : List UInt8} {p : Rat} {qs : List Rat} {s : ByteArray} {w w' wr : World}
section
open Go.ChangeShapes Go.WideShapes Go.ChangeAt Go.RowKit
attribute [local go_sem ↓] aE
attribute [local go_sem] aJ aI aL aX
def gG(q:Rat):List UInt8:=gR q.num++(if q.den=1 then[] else 47::Lib.decDigits q.den)
def bJ(q:Rat):Prop:=sF q.num.natAbs<=2000/\sF q.den<=2000
instance (q:Rat):Decidable (bJ q):=by unfold bJ;infer_instance
def aI4(q:Rat)(w:Wo)(e:Ending)(w':Wo):Prop:=Below w.heap.size w w'/\∃s,e=.returned (.tuple #[.string s,.bool (decide (bJ q))])/\(bJ q->s=⟨(gG q).toArray⟩)
theorem QH(n:Nat):gR (n:Int)=Lib.decDigits n:=by unfold gR;rw[if_neg (Int.not_lt.2 (Int.natCast_nonneg n)),Int.natAbs_natCast,List.nil_append]
theorem aA1{z:Int}(h:sF z.natAbs<=2000):(gR z).length<=2001:=by
 unfold gR;unfold sF at h;rw[jO];split<;>simp<;>omega
theorem wF(q:Rat)(b1:Bool)(A:OA)(n c:Nat)(b2:Bool)(A2:OA)(n2 c2:Nat)(w:Wo)(h1:bS w w.heap.size q b1 A n c b2 A2 n2 c2)(ht:eY w):Calls Tryz.prog 32 #[.agg #[.bool b1,.slice A n c,.bool b2,.slice A2 n2 c2]] w (aI4 q w):=by
 have cI:Hid (Below w.heap.size w (w.alloc (aU b1 A n c b2 A2 n2 c2))):=lH (bA);obtain⟨dE,H1,HT⟩:=eR (aD.new w 87 #[.bool b1,.slice A n c,.bool b2,.slice A2 n2 c2]) (h1.up cI.o) (ht.up cI.o);clear h1 ht;go_enter Tryz.func32,Tryz.ntmps32
 go_upto_region 1 with fail
 generalize w.alloc (aU b1 A n c b2 A2 n2 c2)=W at *;obtain⟨p0,p1,pl⟩:=dE.o.b2
 go_wp2_with fail
 refine(wX q.num b1 A n c W H1.o.num HT.o).mono ?_;rintro e w1 ⟨bG,s1,rfl,pG,kT⟩;have cR:=bX cI bG;obtain⟨eT,H2,HT2,nC⟩:=gO (dE.o.bl bG) (H1.o.up bG) (HT.o.up bG) pG;clear bG p0 p1 pl pG cI dE H1 HT;by_cases LD:sF q.num.natAbs<=2000
 ·have O1:decide (sF q.num.natAbs<=2000)=true:=decide_eq_true LD
  have he1:=nC.o LD;subst he1;rw[O1];have HF1:=lH LD;clear O1 LD;have p2:=eT.o.cell 2;have p3:=eT.o.cell 3;have pl:=eT.o.lt;(go_wp2_with fail);refine(wX (q.den:Int) b2 A2 n2 c2 w1 H2.o.den HT2.o).mono ?_;rintro e w2 ⟨bV,s2,he,yI,kS⟩;rw[Int.natAbs_natCast] at he yI;rw[QH] at yI;subst he;have dB:=bX cR bV;clear bV p2 p3 pl;by_cases LC:sF q.den<=2000
  ·have R5:decide (sF q.den<=2000)=true:=decide_eq_true LC
   have he2:=yI LC;subst he2;have hF:bJ q:=⟨HF1.o,LC⟩;have hFd:decide (bJ q)=true:=decide_eq_true hF;have HFD:=lH hFd;have hq:((⟨(Lib.decDigits q.den).toArray⟩:ByteArray).toList == [49])=decide (q.den=1):=by
    rw[ByteArray.toList_eq,Bool.eq_iff_iff,beq_iff_eq,decide_eq_true_eq];exact F7
   rw[R5];have hl1:(⟨(gR q.num).toArray⟩:ByteArray).size<=2001:=by rw[gS];exact aA1 HF1.o
   have hl2:(⟨(Lib.decDigits q.den).toArray⟩:ByteArray).size<=2000:=by rw[gS];exact LC
   obtain⟨t1,rG⟩:∃t:ByteArray,⟨(gR q.num).toArray⟩=t:=⟨_,rfl⟩;obtain⟨t2,wZ⟩:∃t:ByteArray,⟨(Lib.decDigits q.den).toArray⟩=t:=⟨_,rfl⟩;have Z6:=lH rG;have aN4:=lH wZ;rw[rG] at hl1 ⊢;rw[wZ] at hl2 hq ⊢;clear R5 hF hFd LC yI rG wZ;by_cases CY:q.den=1
   ·have hd:decide (q.den=1)=true:=decide_eq_true CY
    rw[hd] at hq;have HTX:Hid (t1=⟨(gG q).toArray⟩):=lH (by unfold gG;rw[if_pos CY,List.append_nil];exact Z6.o.symm);clear hd CY;(go_wp2_with fail);go_ret2;exact⟨dB.o,_,by rw[HFD.o];rfl,fun _=>HTX.o⟩
   ·have hd:decide (q.den=1)=false:=decide_eq_false CY
    rw[hd] at hq;have HTX:Hid (t1++⟨#[47]⟩++t2=⟨(gG q).toArray⟩):=lH (by
     unfold gG;rw[if_neg CY,<-Z6.o,<-aN4.o];apply ByteArray.ext;simp)
    have kT:¬9223372036854775807<t1.size+1:=by omega
    have hz3:(t1++⟨#[47]⟩:ByteArray).size=t1.size+1:=by rw[ByteArray.size_append];rfl
    have kS:¬9223372036854775807<t1.size+1+t2.size:=by omega
    clear hd CY hl1 hl2;(go_wp2_with fail);go_ret2;exact⟨dB.o,_,by rw[HFD.o];rfl,fun _=>HTX.o⟩
  ·have R5:decide (sF q.den<=2000)=false:=decide_eq_false LC
   have hFd:decide (bJ q)=false:=decide_eq_false fun h=>LC h.2;have HFD:=lH hFd;have HNF:Hid (¬bJ q):=lH fun h=>LC h.2;rw[R5];obtain⟨t1,rG⟩:∃t:ByteArray,⟨(gR q.num).toArray⟩=t:=⟨_,rfl⟩;have hl1:t1.size<=3000:=by rw[<-rG];exact kT
   rw[rG];clear R5 hFd LC yI rG kT;have aSf:¬9223372036854775807<t1.size+1:=by omega
   have aSd:(t1++⟨#[47]⟩:ByteArray).size=t1.size+1:=by rw[ByteArray.size_append];rfl
   have aSe:¬9223372036854775807<t1.size+1+s2.size:=by omega
   cases hq:(s2.toList == [49]) with
   | true=>
    (go_wp2_with fail);go_ret2;exact⟨dB.o,_,by rw[HFD.o];rfl,fun h=>absurd h HNF.o⟩
   | false=>
    (go_wp2_with fail);go_ret2;exact⟨dB.o,_,by rw[HFD.o];rfl,fun h=>absurd h HNF.o⟩
 ·have O1:decide (sF q.num.natAbs<=2000)=false:=decide_eq_false LD
  have hFd:decide (bJ q)=false:=decide_eq_false fun h=>LD h.1;have HFD:=lH hFd;have HNF:Hid (¬bJ q):=lH fun h=>LD h.1;rw[O1];clear O1 hFd LD
  (go_wp2_with fail);go_ret2;exact⟨cR.o,_,by rw[HFD.o];rfl,fun h=>absurd h HNF.o⟩
end
section
def l_(l:List UInt8):Bool:=Lib.hasPrefix l [45]
def yP(l:List UInt8):Nat:=if CS l then dv (oI l) else 1
def iQ(l:List UInt8):Rat:=Rat.divInt (CT (l_ l) (pW l)) (yP l:Int)
theorem IR(h:dM l=0):¬rR l/\¬tX l/\¬(CS l=true/\tW l):=by
 unfold dM at h;by_cases h5:rR l
 ·rw[if_pos h5] at h;cases h
 ·rw[if_neg h5] at h
  by_cases h2:tX l
  ·rw[if_pos h2] at h;cases h
  ·rw[if_neg h2] at h
   by_cases h3:CS l=true/\tW l
   ·rw[if_pos h3] at h;cases h
   ·exact⟨h5,h2,h3⟩
theorem nN(l:List UInt8):l=(if l_ l then[45] else[])++tV l:=by
 unfold l_ tV Lib.trimPrefix;cases hp:Lib.hasPrefix l [45] with
 | false=>simp
 | true=>
  unfold Lib.hasPrefix at hp;cases l with
  | nil=>cases hp
  | cons c r=>
   have:c=45:=by
    simp[List.isPrefixOf] at hp;exact hp.symm
   subst this;simp
theorem SL(l:List UInt8):l=(fQ 47 l).1++(if(fQ 47 l).2.2 then 47::(fQ 47 l).2.1 else[]):=by
 cases h:(fQ 47 l).2.2 with
 | true=>
  have:=(PF h).1;simpa using this
 | false=>
  obtain⟨_,h2⟩:=xE h;rw[h2];simp
theorem DO(l:List UInt8):tV l=pW l++(if CS l then 47::oI l else[]):=SL (tV l)
theorem BU(h:yE l)(h0:dv l=0):l=[48]:=by
 have:=lS h;rw[h0,dX (by decide)] at this;exact this.symm
theorem SP(h:yE l)(h0:dv l=1):l=[49]:=by
 have:=lS h;rw[h0,dX (by decide)] at this;exact this.symm
theorem FI(b:Bool)(l:List UInt8):(CT b l).natAbs=dv l:=by unfold CT;cases b<;>simp
theorem qE(h:dM l=0):(iQ l).num=CT (l_ l) (pW l)/\(iQ l).den=yP l/\gG (iQ l)=l/\bJ (iQ l)/\gW (pW l)/\gW (oI l)/\(pW l).length<=2000/\(oI l).length<=2000:=by
 obtain⟨h5,h2,h3⟩:=IR h;have hn:eJ (pW l)=0:=Classical.byContradiction fun e=>h2 (.inl e);have hb:rtB l=0:=Classical.byContradiction fun e=>h2 (.inr e);obtain⟨hcn,hln⟩:=nR.1 hn;have hnz:pW l=[48]->l_ l=false:=fun e=>by
  cases hg:l_ l with
  | false=>rfl
  | true=>
   refine absurd (.inr (.inr ⟨e,?_⟩)) h5;have:=congrArg List.length (nN l);rw[hg,jO] at this;simp at this;omega
 have pO:CT (l_ l) (pW l)<0<->l_ l=true:=by
  cases hg:l_ l with
  | false=>simp[CT]
  | true=>
   have:dv (pW l)≠0:=fun e=>by
    have:=hnz (BU hcn e);rw[hg] at this;cases this
   simp[CT];omega
 have hD:(CS l=true->yE (oI l)/\(oI l).length<=2000/\dv (oI l)≠0/\dv (oI l)≠1/\(dv (pW l)).gcd (dv (oI l))=1)/\(CS l=false->oI l=[]):=by
  refine⟨fun hi=>?_,fun hi=>?_⟩
  ·have hd:eJ (oI l)=0:=by unfold rtB at hb;rw[hi] at hb;exact hb
   obtain⟨hcd,hld⟩:=nR.1 hd;have h33:¬tW l:=fun g=>h3 ⟨hi,g⟩;exact⟨hcd,hld,fun e=>h33 (.inl (BU hcd e)),fun e=>h33 (.inr (.inl (SP hcd e))),Classical.byContradiction fun g=>h33 (.inr (.inr g))⟩
  ·have:=(xE (l:=tV l) hi).2
   unfold oI;rw[this]
 have hg:(CT (l_ l) (pW l)).natAbs.gcd (yP l)=1:=by
  rw[FI];unfold yP;cases hi:CS l with
  | true=>exact(hD.1 hi).2.2.2.2
  | false=>exact Nat.gcd_one_right _
 have hd0:yP l≠0:=by
  unfold yP;cases hi:CS l with
  | true=>exact(hD.1 hi).2.2.1
  | false=>exact Nat.one_ne_zero
 obtain⟨e1,e2⟩:=wH hd0 hg;have e1':(iQ l).num=CT (l_ l) (pW l):=e1;have e2':(iQ l).den=yP l:=e2;have hdd:gW (oI l)/\(oI l).length<=2000:=by
  cases hi:CS l with
  | true=>exact⟨(hD.1 hi).1.2.1,(hD.1 hi).2.1⟩
  | false=>rw[hD.2 hi];exact⟨fun c hc=>(by cases hc),by simp⟩
 refine⟨e1',e2',?_,⟨?_,?_⟩,hcn.2.1,hdd.1,hln,hdd.2⟩
 ·unfold gG gR
  rw[e1',e2',FI,lS hcn]
  conv=>rhs;rw[nN l,DO l]
  have hif:(if CT (l_ l) (pW l)<0 then[45] else([]:List UInt8))=if l_ l=true then[45] else[]:=by
   cases iH:l_ l with
   | true=>rw[iH] at pO;rw[if_pos (pO.2 rfl)];rfl
   | false=>rw[iH] at pO;rw[if_neg (fun g=>by have:=pO.1 g;cases this)];rfl
  rw[hif,List.append_assoc];congr 2
  unfold yP;cases hi:CS l with
  | true=>
   obtain⟨g1,_,_,g4,_⟩:=hD.1 hi;simp only[if_true];rw[if_neg g4,lS g1]
  | false=>simp
 ·rw[e1',FI];unfold sF;rw[lS hcn];exact hln
 ·rw[e2']
  unfold yP;cases hi:CS l with
  | true=>unfold sF;simp only[if_true];rw[lS (hD.1 hi).1];exact(hD.1 hi).2.1
  | false=>show sF 1<=2000;decide+kernel
theorem LQ(q:Rat):l_ (gG q)=decide (q.num<0)/\pW (gG q)=Lib.decDigits q.num.natAbs/\CS (gG q)=decide (q.den≠1)/\oI (gG q)=if q.den=1 then[] else Lib.decDigits q.den:=by
 have hS:l_ (gG q)=decide (q.num<0)/\tV (gG q)=Lib.decDigits q.num.natAbs++(if q.den=1 then[] else 47::Lib.decDigits q.den):=by
  unfold l_ tV gG gR Lib.trimPrefix;by_cases h:q.num<0
  ·have hp:Lib.hasPrefix ((if q.num<0 then[45] else[])++Lib.decDigits q.num.natAbs++(if q.den=1 then[] else 47::Lib.decDigits q.den)) [45]=true:=by rw[if_pos h];simp[Lib.hasPrefix]
   rw[hp,decide_eq_true h,if_pos h];simp
  ·have hp:Lib.hasPrefix ((if q.num<0 then[45] else[])++Lib.decDigits q.num.natAbs++(if q.den=1 then[] else 47::Lib.decDigits q.den)) [45]=false:=by
    rw[if_neg h,List.nil_append];cases hl:Lib.decDigits q.num.natAbs with
    | nil=>have:=kQ q.num.natAbs;rw[hl] at this;simp at this
    | cons c r=>
     have hc:=F9 q.num.natAbs c (by rw[hl];exact List.mem_cons_self ..);have:((45:UInt8) == c)=false:=by
      cases hb:((45:UInt8) == c) with
      | false=>rfl
      | true=>have:=eq_of_beq hb;subst this;exact absurd hc.1 (by decide)
     simp[Lib.hasPrefix,List.isPrefixOf,this]
   rw[hp,decide_eq_false h,if_neg h];simp
 have hno:(47:UInt8)∉Lib.decDigits q.num.natAbs:=fun h=>by
  have:=(F9 _ _ h).1;exact absurd this (by decide)
 unfold pW CS oI;rw[hS.2];refine⟨hS.1,?_⟩;by_cases h1:q.den=1
 ·rw[if_pos h1,List.append_nil,F_ hno,if_pos h1,decide_eq_false (by simpa using h1)]
  exact⟨rfl,rfl,rfl⟩
 ·rw[if_neg h1,J5 hno,if_neg h1,decide_eq_true h1]
  exact⟨rfl,rfl,rfl⟩
theorem Y3(h:sF n<=2000):eJ (Lib.decDigits n)=0:=nR.2 ⟨SQ n,h⟩
theorem LP{q:Rat}(h:bJ q):dM (gG q)=0/\iQ (gG q)=q:=by
 obtain⟨h1,h2,h3,h4⟩:=LQ q;have hn:=Y3 h.1;have hd:=Y3 h.2;have hB:rtB (gG q)=0:=by
  unfold rtB;rw[h3,h4];by_cases g:q.den=1
  ·rw[decide_eq_false (by simpa using g)];rfl
  ·rw[decide_eq_true g,if_neg g];exact hd
 have h5:¬rR (gG q):=by
  unfold rR;rw[h2,hB,hn];rintro(g | g | ⟨g1,g2⟩)
  ·cases g
  ·cases g
  ·have:q.num.natAbs=0:=F8 (g1.trans (show[48]=Lib.decDigits 0 by rw[dX (by decide)];rfl))
   have kV:¬q.num<0:=by omega
   have h6:=congrArg List.length (nN (gG q));rw[h1,decide_eq_false kV,jO] at h6;simp at h6;omega
 have K_:¬tX (gG q):=by
  unfold tX;rw[h2,hB,hn];simp
 have hp3:¬(CS (gG q)=true/\tW (gG q)):=by
  rintro⟨g,g3⟩;rw[h3,decide_eq_true_eq] at g;unfold tW at g3;rw[h2,h4,if_neg g,sZ,sZ] at g3;rcases g3 with g3 | g3 | g3
  ·have:=F8 (g3.trans (show[48]=Lib.decDigits 0 by rw[dX (by decide)];rfl))
   exact q.den_nz this
  ·exact g (F7.1 g3)
  ·exact g3 q.reduced
 refine⟨by unfold dM;rw[if_neg h5,if_neg K_,if_neg hp3],?_⟩;unfold iQ yP;rw[h1,h2,h3,h4];have e1:CT (decide (q.num<0)) (Lib.decDigits q.num.natAbs)=q.num:=by
  unfold CT;rw[sZ];by_cases g:q.num<0
  ·rw[decide_eq_true g];simp only[if_true];omega
  ·rw[decide_eq_false g];simp only[Bool.false_eq_true,if_false];omega
 rw[e1];by_cases g:q.den=1
 ·rw[decide_eq_false (by simpa using g)]
  have:=t8 q;rw[g] at this;exact this
 ·rw[decide_eq_true g,if_neg g,sZ]
  exact t8 q
end
section
open Go.ChangeShapes Go.WideShapes Go.ChangeAt Go.RowKit
attribute [local go_sem ↓] aE
attribute [local go_sem] aJ aI aL
theorem Y4(b:Bool)(s:List UInt8):fQ 47 ((if b then[45] else[])++s)=((if b then[45] else[])++(fQ 47 s).1,(fQ 47 s).2.1,(fQ 47 s).2.2):=by
 cases b with
 | false=>simp
 | true=>simp[fQ]
theorem SK(l:List UInt8):fQ 47 l=((if l_ l then[45] else[])++pW l,oI l,CS l):=by
 have:=Y4 (l_ l) (tV l);rwa[<-nN l] at this
theorem DY(l:List UInt8)(h:dM l=0)(w:Wo):Calls Tryz.prog 71 #[.string ⟨l.toArray⟩] w (PU (iQ l) w):=by
 obtain⟨v1,v2,_,_,v3,v4,v5,v6⟩:=qE h;obtain⟨mM,yQ,DF,LE⟩:=gO v1 v2 v3 v4;have DE:Hid ((pW l).length<=1000000):=lH (by omega);have HV6:Hid ((oI l).length<=1000000):=lH (by omega);have hll:l.length<=9223372036854775807:=by
  have h1:=congrArg List.length (nN l);have h2:=congrArg List.length (DO l);rw[jO] at h1 h2;have h3:(if l_ l then[45] else([]:List UInt8)).length<=1:=by split<;>simp
  have h4:(if CS l then 47::oI l else[]).length<=(oI l).length+1:=by split<;>simp
  omega
 have cI:Hid (Below w.heap.size w (w.alloc dC)):=lH (bA);have HR:Hid (aD (w.alloc dC) w.heap.size 87 #[.bool false,.slice none 0 0,.bool false,.slice none 0 0]):=lH (aD.new w _ _);have mF:w.heap.size<=w.heap.size:=lR;clear v1 v2 v3 v4 v5 v6 h;go_enter Tryz.func71,Tryz.ntmps71
 go_upto_region 1 with fail
 generalize (w.alloc dC)=W at *
 go_wp2_with fail
 refine(PE 47 l hll W).mono ?_;rintro e w1 ⟨he,bG⟩;rw[SK l] at he;have cR:=bX cI bG;have nI:=lH (HR.o.bl bG);obtain⟨is,XR⟩:∃i,CS l=i:=⟨_,rfl⟩;have HI:=lH XR;simp only[XR] at he;subst he;clear bG cI HR XR hll;obtain⟨tn,htn⟩:∃t:ByteArray,rdT (l_ l) (pW l)=t:=⟨_,rfl⟩;obtain⟨td,W_⟩:∃t:ByteArray,rdT false (oI l)=t:=⟨_,rfl⟩;have c1:∀w,Calls Tryz.prog 111 #[.string tn] w (SV (CT (l_ l) (pW l)) w):=fun w=>by rw[<-htn];exact t6 _ _ DF.o DE.o w
 have c2:∀w,Calls Tryz.prog 111 #[.string td] w (SV (CT false (oI l)) w):=fun w=>by rw[<-W_];exact t6 _ _ LE.o HV6.o w
 have e1:(⟨((if l_ l=true then[45] else[])++pW l).toArray⟩:ByteArray)=tn:=htn;have e2:(⟨(oI l).toArray⟩:ByteArray)=td:=W_;rw[e1,e2];clear e1 e2;have C1:=lH c1;have C2:=lH c2;clear htn W_ c1 c2;cases is with
 | false=>
  have HD:Hid ((iQ l).den=1):=lH (by rw[yQ.o];unfold yP;rw[HI.o];rfl);(go_wp2_with fail);refine(C1.out w1).mono ?_;rintro e w2 ⟨bV,f5,C5,i5,j5,rfl,h5⟩;have dB:=bX cR bV;have qU:=lH (nI.o.bl bV);have H5:=lH h5;clear bV h5 cR nI;(go_wp2_with fail);refine(sQ 1 w2 (by decide) (by decide)).mono ?_;rintro e w3 ⟨eF,f6,C6,i6,j6,rfl,h6⟩;have gY:=bX dB eF;have E5:=lH (qU.o.bl eF);have HQ:Hid (bS w3 w3.heap.size (iQ l) f5 C5 i5 j5 f6 C6 i6 j6):=lH ⟨by rw[mM.o];exact H5.o.up eF,by rw[HD.o];exact h6⟩;clear eF h6 dB qU H5;obtain⟨z0,z1,z2,z3,zf,zl⟩:=E5.o.e4;(go_wp2_with fail);generalize dO:(((w3.setCell ⟨_,0,none⟩ _).setCell ⟨_,1,none⟩ _).setCell ⟨_,2,none⟩ _).setCell ⟨_,3,none⟩ _=W9;have fO:=lH (iP (e:=.returned (.agg #[.bool f5,.slice C5 i5 j5,.bool f6,.slice C6 i6 j6])) gY.o mF E5.o (by simp) (by simp) (by simp) (by simp) HQ.o rfl);rw[dO] at fO;have eU:Hid (aD W9 _ 87 #[.bool f5,.slice C5 i5 j5,.bool f6,.slice C6 i6 j6]):=lH (by rw[<-dO];exact d9 E5.o);clear dO z0 z1 z2 z3 zf zl;obtain⟨q0,q1,q2,q3⟩:=eU.o.a4;exact bodyPost_ret (v:=.agg #[.bool f5,.slice C5 i5 j5,.bool f6,.slice C6 i6 j6]) (by simp[results,Tryz.results71,go_sem,q0,q1,q2,q3]) rfl fO.o
 | true=>
  have HD:Hid (((iQ l).den:Int)=CT false (oI l)):=lH (by rw[yQ.o];unfold yP;rw[HI.o];rfl);(go_wp2_with fail);refine(C1.out w1).mono ?_;rintro e w2 ⟨bV,f5,C5,i5,j5,rfl,h5⟩;have dB:=bX cR bV;have qU:=lH (nI.o.bl bV);have H5:=lH h5;clear bV h5 cR nI;(go_wp2_with fail);refine(C2.out w2).mono ?_;rintro e w3 ⟨eF,f6,C6,i6,j6,rfl,h6⟩;have gY:=bX dB eF;have E5:=lH (qU.o.bl eF);have HQ:Hid (bS w3 w3.heap.size (iQ l) f5 C5 i5 j5 f6 C6 i6 j6):=lH ⟨by rw[mM.o];exact H5.o.up eF,by rw[HD.o];exact h6⟩;clear eF h6 dB qU H5;obtain⟨z0,z1,z2,z3,zf,zl⟩:=E5.o.e4;(go_wp2_with fail);generalize dO:(((w3.setCell ⟨_,0,none⟩ _).setCell ⟨_,1,none⟩ _).setCell ⟨_,2,none⟩ _).setCell ⟨_,3,none⟩ _=W9;have fO:=lH (iP (e:=.returned (.agg #[.bool f5,.slice C5 i5 j5,.bool f6,.slice C6 i6 j6])) gY.o mF E5.o (by simp) (by simp) (by simp) (by simp) HQ.o rfl);rw[dO] at fO;have eU:Hid (aD W9 _ 87 #[.bool f5,.slice C5 i5 j5,.bool f6,.slice C6 i6 j6]):=lH (by rw[<-dO];exact d9 E5.o);clear dO z0 z1 z2 z3 zf zl;obtain⟨q0,q1,q2,q3⟩:=eU.o.a4;exact bodyPost_ret (v:=.agg #[.bool f5,.slice C5 i5 j5,.bool f6,.slice C6 i6 j6]) (by simp[results,Tryz.results71,go_sem,q0,q1,q2,q3]) rfl fO.o
end
section
open Go.ChangeShapes Go.WideShapes Go.ChangeAt Go.RowKit
attribute [local go_sem ↓] aE
attribute [local go_sem] aJ aI aL aX
structure Rv where
 b1:Bool
 A:OA
 n:Nat
 c:Nat
 b2:Bool
 A2:OA
 m:Nat
 d:Nat
def Rv.cells(v:Rv):List Value:=[.bool v.b1,.slice v.A v.n v.c,.bool v.b2,.slice v.A2 v.m v.d]
def sD:Rv:=⟨false,none,0,0,false,none,0,0⟩
def cY(w:Wo)(B:Nat)(q:Rat)(v:Rv):Prop:=bS w B q v.b1 v.A v.n v.c v.b2 v.A2 v.m v.d
theorem Rv.len(v:Rv):v.cells.length=4:=rfl
def eM(vs:List Rv):List Value:=vs.flatMap Rv.cells
theorem dI(vs:List Rv):(eM vs).length=vs.length*4:=nU Rv.len vs
theorem sN{vs:List Rv}{v:Rv}(h:vs[i]?=some v)(k:Nat)(hk:k<4):(eM vs)[i*4+k]?=v.cells[k]?:=iN Rv.len vs i v h k hk
theorem zA:∀(vs:List Rv)(i:Nat)(v:Rv),i<vs.length->((((eM vs).set (i*4) (.bool v.b1)).set (i*4+1) (.slice v.A v.n v.c)).set (i*4+2) (.bool v.b2)).set (i*4+3) (.slice v.A2 v.m v.d)=eM (vs.set i v)
 | [],i,v,h=>by simp at h
 | x::r,0,v,_=>by simp[eM,Rv.cells]
 | x::r,i+1,v,h=>by
  have ih:=zA r i v (by simpa using h);have e:eM (x::r)=x.cells++eM r:=by simp[eM]
  have e2:eM ((x::r).set (i+1) v)=x.cells++eM (r.set i v):=by simp[eM]
  have st:∀(l:List Value)(k:Nat)(u:Value),(x.cells++l).set (k+4) u=x.cells++l.set k u:=fun l k u=>by
   rw[List.set_append_right _ _ (by rw[Rv.len];omega),Rv.len,Nat.add_sub_cancel]
  rw[e,e2,<-ih,show(i+1)*4=i*4+4 from by omega,show i*4+4+1=i*4+1+4 from by omega,show i*4+4+2=i*4+2+4 from by omega,show i*4+4+3=i*4+3+4 from by omega,st,st,st,st]
theorem zB:∀n:Nat,eM (List.replicate n sD)=(List.replicate n sD.cells).flatten
 | 0=>rfl
 | n+1=>by
  rw[List.replicate_succ,List.replicate_succ,List.flatten_cons,<-zB n];simp[eM]
theorem ZK{vs:List Rv}(h:aD w g t (eM vs).toArray)(hi:i<vs.length)(v:Rv):aD ((((w.setCell ⟨g,i*4,none⟩ (.bool v.b1)).setCell ⟨g,i*4+1,none⟩ (.slice v.A v.n v.c)).setCell ⟨g,i*4+2,none⟩ (.bool v.b2)).setCell ⟨g,i*4+3,none⟩ (.slice v.A2 v.m v.d)) g t (eM (vs.set i v)).toArray:=by
 have key:∀(w:Wo)(l:List Value)(k:Nat)(u:Value),aD w g t l.toArray->aD (w.setCell ⟨g,k,none⟩ u) g t (l.set k u).toArray:=fun w l k u hb=>hb.set_at u (by simp);rw[<-zA vs i v hi];exact key _ _ _ _ (key _ _ _ _ (key _ _ _ _ (key _ _ _ _ h)))
theorem FG{vs:List Rv}{v:Rv}(h:aD w g t (eM vs).toArray)(hv:vs[i]?=some v):w.cell? ⟨g,i*4,none⟩=some (.bool v.b1)/\w.cell? ⟨g,i*4+1,none⟩=some (.slice v.A v.n v.c)/\w.cell? ⟨g,i*4+2,none⟩=some (.bool v.b2)/\w.cell? ⟨g,i*4+3,none⟩=some (.slice v.A2 v.m v.d):=by
 have k:=fun j hj=>sN hv j hj;refine⟨?_,?_,?_,?_⟩<;>rw[h.cell]
 ·have:=k 0 (by decide);simpa[Rv.cells] using this
 ·have:=k 1 (by decide);simpa[Rv.cells] using this
 ·have:=k 2 (by decide);simpa[Rv.cells] using this
 ·have:=k 3 (by decide);simpa[Rv.cells] using this
theorem bS.keep4{q:Rat}{b1:Bool}{c:Nat}{b2:Bool}{A2:OA}{d:Nat}(h:bS w w.heap.size q b1 A n c b2 A2 m d){vs:List Rv}{x v:Rv}(hb:aD w g t (eM vs).toArray)(hx:vs[i]?=some x):bS ((((w.setCell ⟨g,i*4,none⟩ (.bool v.b1)).setCell ⟨g,i*4+1,none⟩ (.slice v.A v.n v.c)).setCell ⟨g,i*4+2,none⟩ (.bool v.b2)).setCell ⟨g,i*4+3,none⟩ (.slice v.A2 v.m v.d)) ((((w.setCell ⟨g,i*4,none⟩ (.bool v.b1)).setCell ⟨g,i*4+1,none⟩ (.slice v.A v.n v.c)).setCell ⟨g,i*4+2,none⟩ (.bool v.b2)).setCell ⟨g,i*4+3,none⟩ (.slice v.A2 v.m v.d)).heap.size q b1 A n c b2 A2 m d:=by
 obtain⟨c0,c1,c2,c3⟩:=FG hb hx;have ne:∀(a b:Nat),a≠b->(⟨g,a,none⟩:Addr)≠⟨g,b,none⟩:=fun a b h e=>h (by injection e);have off:∀(w:Wo)(a b:Nat)(u v:Value),a≠b->w.cell? ⟨g,b,none⟩=some v->(w.setCell ⟨g,a,none⟩ u).cell? ⟨g,b,none⟩=some v:=fun w a b u v iI hv=>by
  rw[World.cell?_setCell_other _ _ _ _ (ne a b iI)];exact hv
 refine(((h.keep c0 (by simp) _).keep (off _ _ _ _ _ (by omega) c1) (by simp) _).keep (off _ _ _ _ _ (by omega) (off _ _ _ _ _ (by omega) c2)) (by simp) _).keep (off _ _ _ _ _ (by omega) (off _ _ _ _ _ (by omega) (off _ _ _ _ _ (by omega) c3))) (by simp) _
def hO(w:Wo)(B:Nat)(A:OA)(n:Nat)(qs:List Rat):Prop:=∃vs:List Rv,vs.length=n/\qs.length=n/\Rd w B 4 A n (eM vs)/\∀(i:Nat)(q:Rat)(v:Rv),qs[i]?=some q->vs[i]?=some v->cY w B q v
section
variable {w w':Wo} {B B' n:Nat} {A:OA} {qs:List Rat}
theorem hO.below(h:hO w B A n qs)(hb:Below B' w w')(hB:B<=B'):hO w' B A n qs:=by
 obtain⟨vs,h1,h2,h3,h4⟩:=h;exact⟨vs,h1,h2,h3.below hb hB,fun i q v hq hv=>bS.below (h4 i q v hq hv) hb hB⟩
theorem hO.more(h:hO w B A n qs)(hB:B<=B'):hO w B' A n qs:=by
 obtain⟨vs,h1,h2,h3,h4⟩:=h;exact⟨vs,h1,h2,h3.more hB,fun i q v hq hv=>bS.more (h4 i q v hq hv) hB⟩
theorem hO.up(h:hO w w.heap.size A n qs)(hb:Below w.heap.size w w'):hO w' w'.heap.size A n qs:=(h.below hb lR).more hb.size
theorem hO.len(h:hO w B A n qs):qs.length=n:=by obtain⟨_,_,h,_⟩:=h;exact h
theorem hO.form(h:hO w B A n qs)(h0:0<n):∃b off,A=some ⟨b,off,none⟩/\b<B:=by
 obtain⟨vs,_,_,h3,_⟩:=h;obtain⟨b,off,e,aR,_⟩:=h3.2 h0;exact⟨b,off,e,aR⟩
theorem hO.at_{b off:Nat}{q:Rat}(h:hO w B (some ⟨b,off,none⟩) n qs)(hq:qs[i]?=some q):∃v:Rv,w.cell? ⟨b,off+i*4,none⟩=some (.bool v.b1)/\w.cell? ⟨b,off+i*4+1,none⟩=some (.slice v.A v.n v.c)/\w.cell? ⟨b,off+i*4+2,none⟩=some (.bool v.b2)/\w.cell? ⟨b,off+i*4+3,none⟩=some (.slice v.A2 v.m v.d)/\cY w B q v:=by
 obtain⟨vs,h1,h2,h3,h4⟩:=h;have hi:=(c_.1 hq).1;obtain⟨v,hv⟩:∃v,vs[i]?=some v:=eG (by omega);obtain⟨b',off',e,_,hc⟩:=h3.2 (by omega);injection e with e;injection e with e1 e2;subst e1;subst e2;have k:=fun j hj=>sN hv j hj;refine⟨v,?_,?_,?_,?_,h4 i q v hq hv⟩
 ·have:=hc (i*4) (.bool v.b1) (by have:=k 0 (by decide);simpa[Rv.cells] using this);exact this
 ·have:=hc (i*4+1) (.slice v.A v.n v.c) (by have:=k 1 (by decide);simpa[Rv.cells] using this);exact this
 ·have:=hc (i*4+2) (.bool v.b2) (by have:=k 2 (by decide);simpa[Rv.cells] using this);exact this
 ·have:=hc (i*4+3) (.slice v.A2 v.m v.d) (by have:=k 3 (by decide);simpa[Rv.cells] using this);exact this
theorem aBg(w:Wo)(B:Nat)(A:OA):hO w B A 0 []:=⟨[],rfl,rfl,⟨rfl,fun h=>by omega⟩,fun i q v h=>by simp at h⟩
theorem OJ{vs:List Rv}(h:aD w g t (eM vs).toArray)(hn:vs.length=n)(hq:qs.length=n)(hv:∀(i:Nat)(q:Rat)(v:Rv),qs[i]?=some q->vs[i]?=some v->cY w w.heap.size q v):hO w w.heap.size (some ⟨g,0,none⟩) n qs:=
 ⟨vs,hn,hq,⟨by rw[dI,hn],fun _=>⟨g,0,rfl,h.lt,fun j u hu=>by
  rw[show(⟨g,0+j,none⟩:Addr)=⟨g,j,none⟩ from by simp,h.cell j];simpa using hu⟩⟩,hv⟩
end
theorem I_:(Tryz.prog.info? 87).map (fun i=>(i.zero,i.size,i.bytes))=some (some (.agg #[.bool false,.slice none 0 0,.bool false,.slice none 0 0]),4,64):=by kernel_rfl
theorem aHm(n:Nat):madeCells #[Value.bool false,.slice none 0 0,.bool false,.slice none 0 0] (n*4)=(eM (List.replicate n sD)).toArray:=by
 apply Array.ext';rw[List.toList_toArray,zB];apply List.ext_getElem?;intro j;by_cases hj:j<n*4
 ·have h1:(madeCells #[Value.bool false,.slice none 0 0,.bool false,.slice none 0 0] (n*4)).toList[j]?=some (#[Value.bool false,.slice none 0 0,.bool false,.slice none 0 0][j % 4]!):=by
   simp[madeCells,hj]
  have h2:(eM (List.replicate n sD))[j / 4*4+j % 4]?=sD.cells[j % 4]?:=sN (by rw[List.getElem?_replicate,if_pos (by omega)]) _ (by omega);rw[Nat.div_add_mod' j 4,zB] at h2;rw[h1,h2];have:j % 4=0\/j % 4=1\/j % 4=2\/j % 4=3:=by omega
  rcases this with e | e | e | e<;>rw[e]<;>rfl
 ·rw[List.getElem?_eq_none (by simp[madeCells];omega),List.getElem?_eq_none (by rw[<-zB,dI,pV];omega)]
theorem AT(n:Nat)(hn:n<=1000000)(w:Wo):(Instr.makeSlice 96 (.int .i64 (n:Int)) (.int .i64 (n:Int))).run Tryz.prog w=.ok (.slice (some ⟨w.heap.size,0,none⟩) n n) (w.alloc (.cells (eM (List.replicate n sD)).toArray 87)):=by
 obtain⟨i0,jL,pF,kT,kS⟩:=info_parts I_;rw[run_make w 96 87 i0 _ Tryz.underlying96 jL pF .i64 .i64 (n:Int) (n:Int) (by omega) (Int.le_refl _) (by rw[kS];omega) (by omega),oL,kT];rw[show(Value.agg #[Value.bool false,.slice none 0 0,.bool false,.slice none 0 0]).cells=#[Value.bool false,.slice none 0 0,.bool false,.slice none 0 0] from rfl,aHm]
def dA:List ByteArray->Int
 | []=>0
 | s::r=>if dM s.data.toList=0 then dA r else dM s.data.toList
theorem nX:∀{l:List ByteArray},dA l=0<->∀s∈l,dM s.data.toList=0
 | []=>by simp[dA]
 | s::r=>by
  unfold dA;by_cases h:dM s.data.toList=0
  ·rw[if_pos h,nX]
   simp[h]
  ·rw[if_neg h]
   simp[h]
theorem KC{l:List ByteArray}(h:l[k]?=some s):dA (l.drop k)=if dM s.data.toList=0 then dA (l.drop (k+1)) else dM s.data.toList:=by
 rw[bW h];rfl
theorem EV(A:OA)(n c:Nat)(ss:List ByteArray)(w:Wo)(hR:aW w w.heap.size A n ss)(hs:∀s∈ss,s.size<=maxLen)(hn:n<=9223372036854775807)(ht:eY w):Calls Tryz.prog 70 #[.slice A n c] w fun e w'=>e=.returned (.int .i64 (dA ss))/\Below w.heap.size w w':=by
 obtain⟨HR,HS,HT,HL⟩:=gO hR hs ht hR.1;clear hR hs ht;go_enter Tryz.func70,Tryz.ntmps70
 go_wp2_with fail
 go_loopw [4,5,8] (fun _ _ i wr=>∃k:Nat,k<=n/\i=.int .i64 k/\dA ss=dA (ss.drop k)/\Below w.heap.size w wr) (fun _ _ i _=>n-(intOf i).toNat)
 case atStart=>exact⟨0,by omega,rfl,rfl,bR⟩
 case round=>
  obtain⟨k,hk,rfl,mG,hb⟩:=hrel;have HG:=lH mG;have HB:=lH hb;clear mG hb;by_cases aR:k<n
  ·obtain⟨s,hs⟩:∃s,ss[k]?=some s:=eG (by have:=HL.o;omega)
   obtain⟨b,o,hA,hb⟩:=(HR.o.below HB.o lR).form (by omega);subst hA;have hc:=(HR.o.below HB.o lR).at_ hs;have HD:=lH (KC hs);have B9:=lH (HS.o s (cS hs));have iM:(k:Int)<(n:Int):=by omega
   have gB:=lN k;have e_:Hid (n-(k+1)<n-k):=lH (by omega);have HSE:(⟨s.data.toList.toArray⟩:ByteArray)=s:=by cases s;simp
   have P_:=QZ s.data.toList (by have:=B9.o;rw[Lib.size_eq] at this;exact this) wr (HT.o.up HB.o);rw[HSE] at P_;replace P_:=lH P_;clear HSE;clear hs;(go_wp2_with fail);refine P_.o.mono ?_;clear hc P_;rintro e w1 ⟨rfl,bG⟩;have cR:=bX HB bG;clear bG HB;obtain⟨r,hr⟩:∃r,dM s.data.toList=r:=⟨_,rfl⟩;rw[hr] at HD ⊢;clear hr;by_cases h0:r=0
   ·subst h0
    have HE:Hid (dA ss=dA (ss.drop (k+1))):=lH (by rw[HG.o,HD.o,if_pos rfl]);(go_wp2_with fail);go_roundw
    case rel=>exact⟨k+1,aR,aM gB.o,HE.o,cR.o⟩
    case measure=>exact e_.o
   ·have HE:Hid (dA ss=r):=lH (by rw[HG.o,HD.o,if_neg h0])
    have h0b:(r != 0)=true:=by simp[h0]
    clear h0;(go_wp2_with fail);go_ret;exact⟨aQ HE.o.symm,cR.o⟩
  ·have HE:Hid (dA ss=0):=lH (by rw[HG.o,List.drop_eq_nil_of_le (by have:=HL.o;omega)];rfl)
   have iM:¬(k:Int)<(n:Int):=by omega
   (go_wp2_with fail);go_ret;exact⟨aQ HE.o.symm,HB.o⟩
theorem hO.bm{l:List Rat}(h:hO w w.heap.size A n l)(g:Below w.heap.size w w'):hO w' w'.heap.size A n l:=(h.below g lR).more g.size
def iW(w:Wo)(vs:List Rv)(qs:List Rat):Prop:=∀(i:Nat)(q:Rat)(v:Rv),qs[i]?=some q->vs[i]?=some v->cY w w.heap.size q v
theorem iW.up{vs:List Rv}(h:iW w vs qs)(hb:Below w.heap.size w w'):iW w' vs qs:=fun i q v hq hv=>bS.up (h i q v hq hv) hb
def fY(w:Wo)(g i:Nat)(v:Rv):World:=(((w.setCell ⟨g,i*4,none⟩ (.bool v.b1)).setCell ⟨g,i*4+1,none⟩ (.slice v.A v.n v.c)).setCell ⟨g,i*4+2,none⟩ (.bool v.b2)).setCell ⟨g,i*4+3,none⟩ (.slice v.A2 v.m v.d)
theorem iW.put{vs us:List Rv}{qs':List Rat}{q:Rat}{v x:Rv}(h:iW w us qs)(hb:aD w g t (eM vs).toArray)(hx:vs[i]?=some x)(hv:cY w w.heap.size q v)(hq:∀(j:Nat)(q':Rat),qs'[j]?=some q'->(j=i/\q'=q)\/(j≠i/\qs[j]?=some q')):iW (fY w g i v) (us.set i v) qs':=by
 intro j q' v' hq' hv';rcases hq j q' hq' with⟨rfl,rfl⟩ | ⟨cK,hq0⟩
 ·rw[List.getElem?_set_self'] at hv'
  obtain⟨_,_,e⟩:=Option.map_eq_some_iff.1 hv';subst e;exact bS.keep4 hv hb hx
 ·rw[List.getElem?_set_ne (by omega)] at hv'
  exact bS.keep4 (h j q' v' hq0 hv') hb hx
theorem iU{a:Wo}{v:Rv}(h:Below B a w)(hg:B<=g):Below B a (fY w g i v):=(((h.setCell hg _).setCell hg _).setCell hg _).setCell hg _
theorem OE{q:Rat}(hk:qs.length=k):∀(j:Nat)(q':Rat),(qs++[q])[j]?=some q'->(j=k/\q'=q)\/(j≠k/\qs[j]?=some q'):=by
 intro j q' h;by_cases hj:j<k
 ·right
  rw[yV (by omega)] at h;exact⟨by omega,h⟩
 ·left
  rw[DK (by omega)] at h;have h1:=(c_.1 h).1;simp at h1;have:j=k:=by omega
  subst this;rw[hk] at h;simp at h;exact⟨rfl,h.symm⟩
def fB(s:ByteArray):Rat:=iQ s.data.toList
def aND(qs:List Rat)(w:Wo)(e:Ending)(w':Wo):Prop:=Below w.heap.size w w'/\∃A n c,e=.returned (.slice A n c)/\hO w' w'.heap.size A n qs/\n<=c/\c<=maxLen/\(0<n->∃b off,A=some ⟨b,off,none⟩/\w.heap.size<=b)
theorem fG{α:Type}{l:List α}{x:α}(h:l[k]?=some x):l.take (k+1)=l.take k++[x]:=by
 rw[List.take_add_one,h];rfl
theorem FM(A:OA)(n c:Nat)(ss:List ByteArray)(w:Wo)(hR:aW w w.heap.size A n ss)(hs:∀s∈ss,dM s.data.toList=0)(hn:n<=1000000):Calls Tryz.prog 119 #[.slice A n c] w (aND (ss.map fB) w):=by
 obtain⟨HR,HS,HL,yD⟩:=gO hR hs hR.1 hn;clear hR hs;have tO:∀w:World,(Instr.makeSlice 96 (.int .i64 (n:Int)) (.int .i64 (n:Int))).run Tryz.prog w=.ok (.slice (some ⟨w.heap.size,0,none⟩) n n) (w.alloc (.cells (eM (List.replicate n sD)).toArray 87)):=fun w=>AT n hn w;have HK:=lH ((Below.refl w.heap.size w).alloc lR (.cells (eM (List.replicate n sD)).toArray 87));have HG:=lH (aD.new w 87 (eM (List.replicate n sD)).toArray);go_enter Tryz.func119,Tryz.ntmps119
 go_wp2_with fail
 clear tO;generalize w.alloc (.cells (eM (List.replicate n sD)).toArray 87)=W at *;generalize hg:w.heap.size=g at *;have kZ:=lH hg;clear hg
 go_loopw [11] (fun v11 wr=>∃(k:Nat)(vs:List Rv),k<=n/\v11=.int .i64 k/\vs.length=n/\Below g w wr/\aD wr g 87 (eM vs).toArray/\iW wr vs ((ss.map fB).take k)) (fun v11 _=>n-(intOf v11).toNat)
 case atStart=>exact⟨0,_,by omega,rfl,pV,HK.o,HG.o,fun i q v h=>by simp at h⟩
 case round=>
  clear HK HG;obtain⟨k,vs,hk,rfl,TM,hb,hg,hI⟩:=hrel;obtain⟨HK,HG,HI,E4⟩:=gO hb hg hI TM;clear hb hg hI TM;by_cases aR:k<n
  ·obtain⟨s,hs⟩:∃s,ss[k]?=some s:=eG (by have:=HL.o;omega)
   obtain⟨b,o,hA,hb⟩:=(HR.o.below HK.o (by have:=kZ.o;omega)).form (by omega);subst hA;have hc:=(HR.o.below HK.o (by have:=kZ.o;omega)).at_ hs;have iM:(k:Int)<(n:Int):=by omega
   have gB:=lN k;have e_:Hid (n-(k+1)<n-k):=lH (by omega);have HSE:(⟨s.data.toList.toArray⟩:ByteArray)=s:=by cases s;simp
   have P_:=fun w=>DY s.data.toList (HS.o s (cS hs)) w;rw[HSE] at P_;replace P_:=lH P_;have HQ:Hid ((ss.map fB).take (k+1)=(ss.map fB).take k++[iQ s.data.toList]):=lH (fG (by rw[pL,hs];rfl));clear HSE hs;have nG:b<wr.heap.size:=by have:=HK.o.size;have:=kZ.o;omega
   (go_wp2_with fail);refine(P_.o wr).mono ?_;clear hc P_;rintro e w1 ⟨bG,f,C,i,j,f2,C2,i2,j2,rfl,h1⟩;obtain⟨G1,vP,xK,HV⟩:=gO (HK.o.trans (bG.mono (qY HG.o.lt))) (HG.o.bl bG) (HI.o.up bG) h1;clear bG h1 HK HG HI;obtain⟨x,hx⟩:∃x,vs[k]?=some x:=eG (by have:=E4.o;omega);obtain⟨c0,c1,c2,c3⟩:=FG vP.o hx;have XU:=vP.o.frozen;have xY:=vP.o.lt;have HX:=lH hx;clear hx;(go_wp2_with fail);go_roundw
   case rel=>exact⟨k+1,vs.set k ⟨f,C,i,j,f2,C2,i2,j2⟩,aR,aM gB.o,by rw[jI];exact E4.o,iU (v:=⟨f,C,i,j,f2,C2,i2,j2⟩) G1.o lR,ZK vP.o (c_.1 HX.o).1 ⟨f,C,i,j,f2,C2,i2,j2⟩,by
    rw[HQ.o];exact iW.put (v:=⟨f,C,i,j,f2,C2,i2,j2⟩) xK.o vP.o HX.o HV.o (OE (by rw[kC,kJ,HL.o];omega))⟩
   case measure=>exact e_.o
  ·have pP:k=n:=by omega
   subst pP;have iM:¬(k:Int)<(k:Int):=by omega
   (go_wp2_with fail);go_ret;exact⟨by rw[kZ.o];exact HK.o,_,_,_,rfl,by
    have h:=HI.o;rw[oP (by rw[kJ,HL.o];exact lR)] at h;exact OJ HG.o E4.o (by rw[kJ,HL.o]) h,lR,by have:=yD.o;unfold maxLen;omega,fun _=>⟨_,_,rfl,by rw[kZ.o];exact lR⟩⟩
theorem RN:(Tryz.prog.info? 35).map (fun i=>(i.zero,i.size,i.bytes))=some (some (.string ⟨#[]⟩),1,16):=by kernel_rfl
theorem UW(n:Nat):madeCells #[Value.string ⟨#[]⟩] n=(gT (List.replicate n ⟨#[]⟩)).toArray:=by
 apply Array.ext';rw[toList_madeCells_one];unfold gT;simp
theorem RH(n:Nat)(hn:n<=1000000)(w:Wo):(Instr.makeSlice 43 (.int .i64 (n:Int)) (.int .i64 (n:Int))).run Tryz.prog w=.ok (.slice (some ⟨w.heap.size,0,none⟩) n n) (w.alloc (.cells (gT (List.replicate n ⟨#[]⟩)).toArray 35)):=by
 rw[run_make_row' (P:=Tryz.prog) 43 35 (.string ⟨#[]⟩) 16 Tryz.underlying43 RN rfl .i64 .i64 n (by omega) (by omega) w,UW]
def eH(q:Rat):ByteArray:=⟨(gG q).toArray⟩
abbrev aI7(B:Nat)(A:OA):Prop:=∃g,A=some ⟨g,0,none⟩/\B<=g
def aIZ(qs:List Rat)(w:Wo)(e:Ending)(w':Wo):Prop:=Below w.heap.size w w'/\((∀q∈qs,bJ q)->∃A n c,e=.returned (.tuple #[.slice A n c,.bool true])/\aW w' w'.heap.size A n (qs.map eH)/\n<=c/\c<=maxLen/\aI7 w.heap.size A)/\(¬(∀q∈qs,bJ q)->e=.returned (.tuple #[.slice none 0 0,.bool false]))
theorem QG(A:OA)(n c:Nat)(qs:List Rat)(w:Wo)(hR:hO w w.heap.size A n qs)(hn:n<=1000000)(ht:eY w):Calls Tryz.prog 73 #[.slice A n c] w (aIZ qs w):=by
 obtain⟨HR,HL,yD,HT⟩:=gO hR hR.len hn ht;clear hR ht;have tO:∀w:World,(Instr.makeSlice 43 (.int .i64 (n:Int)) (.int .i64 (n:Int))).run Tryz.prog w=.ok (.slice (some ⟨w.heap.size,0,none⟩) n n) (w.alloc (.cells (gT (List.replicate n ⟨#[]⟩)).toArray 35)):=fun w=>RH n hn w;have HK:=lH ((Below.refl w.heap.size w).alloc lR (.cells (gT (List.replicate n ⟨#[]⟩)).toArray 35));have HG:=lH (aD.new w 35 (gT (List.replicate n ⟨#[]⟩)).toArray);go_enter Tryz.func73,Tryz.ntmps73
 go_wp2_with fail
 clear tO;generalize w.alloc (.cells (gT (List.replicate n ⟨#[]⟩)).toArray 35)=W at *;generalize hg:w.heap.size=g at *;have kZ:=lH hg;clear hg
 go_loopw [14] (fun v14 wr=>∃(k:Nat)(ts:List ByteArray),k<=n/\v14=.int .i64 k/\ts.length=n/\Below g w wr/\aD wr g 35 (gT ts).toArray/\(∀(i:Nat)(q:Rat),i<k->qs[i]?=some q->bJ q/\ts[i]?=some (eH q))) (fun v14 _=>n-(intOf v14).toNat)
 case atStart=>exact⟨0,_,by omega,rfl,pV,HK.o,HG.o,fun i q h=>by omega⟩
 case round=>
  clear HK HG;obtain⟨k,ts,hk,rfl,TM,hb,hg,hI⟩:=hrel;obtain⟨HK,HG,HI,E4⟩:=gO hb hg hI TM;clear hb hg hI TM;by_cases aR:k<n
  ·obtain⟨q,hq⟩:∃q,qs[k]?=some q:=eG (by have:=HL.o;omega)
   obtain⟨b,o,hA,hb⟩:=(HR.o.below HK.o (by have:=kZ.o;omega)).form (by omega);subst hA;obtain⟨v,c0,c1,c2,c3,hV⟩:=(HR.o.below HK.o (by have:=kZ.o;omega)).at_ hq;have HQ:=lH hq;have HV:=lH hV;have iM:(k:Int)<(n:Int):=by omega
   have gB:=lN k;have e_:Hid (n-(k+1)<n-k):=lH (by omega);have nG:b<wr.heap.size:=by have:=HK.o.size;have:=kZ.o;omega
   clear hq hV;(go_wp2_with fail);generalize lQ:wr.alloc (.cells #[.bool v.b1,.slice v.A v.n v.c,.bool v.b2,.slice v.A2 v.m v.d] 87)=wa at *;have R8:Below wr.heap.size wr wa:=by rw[<-lQ];exact bA
   clear lQ;refine(wF q v.b1 v.A v.n v.c v.b2 v.A2 v.m v.d wa ((bS.below HV.o R8 (by have:=kZ.o;have:=HG.o.lt;omega)).more (by have:=R8.size;have:=kZ.o;have:=HG.o.lt;omega)) (HT.o.up (by rw[kZ.o];exact HK.o.trans (R8.mono (qY HG.o.lt))))).mono ?_;clear c0 c1 c2 c3;rintro e w1 ⟨bG,s,rfl,hs⟩;have bV:=R8.tm bG;obtain⟨G1,vP,HS⟩:=eR (HK.o.trans (bV.mono (qY HG.o.lt))) (HG.o.bl bV) hs;clear R8 bG bV hs HK HG;have XU:=vP.o.frozen;have xY:=vP.o.lt;obtain⟨y,hy⟩:∃y,ts[k]?=some y:=eG (by have:=E4.o;omega);have hgc:w1.cell? ⟨g,k,none⟩=some (.string y):=by rw[vP.o.cell k];unfold gT;simp[hy]
   clear hy;by_cases hf:bJ q
   ·have HF:=lH hf
    rw[decide_eq_true hf];clear hf;(go_wp2_with fail);go_roundw
    case rel=>exact⟨k+1,ts.set k s,aR,aM gB.o,by rw[jI];exact E4.o,G1.o.setCell lR _,vP.o.set_at _ (by unfold gT;rw[List.map_set];simp),fun i q' hi hq'=>by
     by_cases uU:i=k
     ·subst uU
      rw[HQ.o] at hq';injection hq' with hq';subst hq';refine⟨HF.o,?_⟩;rw[List.getElem?_set_self (by have:=E4.o;omega),HS.o HF.o];rfl
     ·rw[List.getElem?_set_ne (by omega)]
      exact HI.o i q' (by omega) hq'⟩
    case measure=>exact e_.o
   ·have HF:=lH hf
    rw[decide_eq_false hf];clear hf;(go_wp2_with fail);go_ret2;exact⟨by rw[kZ.o];exact G1.o,fun h=>absurd (h q (cS HQ.o)) HF.o,fun _=>rfl⟩
  ·have pP:k=n:=by omega
   subst pP;have iM:¬(k:Int)<(k:Int):=by omega
   (go_wp2_with fail);go_ret2;have hts:ts=qs.map eH:=by
    apply List.ext_getElem?;intro i;by_cases hi:i<k
    ·obtain⟨q,hq⟩:∃q,qs[i]?=some q:=eG (by have:=HL.o;omega)
     rw[(HI.o i q hi hq).2,pL,hq];rfl
    ·rw[List.getElem?_eq_none (by have:=E4.o;omega),List.getElem?_eq_none (by rw[kJ,HL.o];omega)]
   have rW:∀q∈qs,bJ q:=fun q hq=>by
    obtain⟨i,hi⟩:=List.getElem?_of_mem hq;exact(HI.o i q (by have:=(c_.1 hi).1;have:=HL.o;omega) hi).1
   exact⟨by rw[kZ.o];exact HK.o,fun _=>⟨_,_,_,rfl,by rw[<-hts];have h:=dS HG.o HG.o.lt;rw[E4.o] at h;exact h,lR,by have:=yD.o;unfold maxLen;omega,⟨_,rfl,Nat.le_of_eq kZ.o⟩⟩,fun h=>absurd rW h⟩
end
section
open Go.ChangeShapes Go.WideShapes Go.ChangeAt Go.RowKit Go.Joins
def tQ(u:Value):Prop:=∀k x,u≠.int k x
theorem cY.keeps{q:Rat}{v:Rv}(h:cY w w.heap.size q v)(k:dZ tQ base e w w'):cY w' w'.heap.size q v:=by
 have key:∀{A:OA}{n:Nat}{l:List Nat},gF w w.heap.size A n l->gF w' w'.heap.size A n l:=fun h=>⟨h.1,fun hn=>by
  obtain⟨b,off,e,aR,hc⟩:=h.2 hn;refine⟨b,off,e,jJ aR k.size,fun j u hu=>k.cell _ _ (hc j u hu) ?_⟩;obtain⟨x,rfl⟩:=E_ hu;exact fun hno=>hno _ _ rfl⟩
 exact⟨⟨h.num.eb,h.num.en,key h.num.rd,h.num.nc,h.num.cm⟩,⟨h.den.eb,h.den.en,key h.den.rd,h.den.nc,h.den.cm⟩⟩
structure dD (w:Wo) (base:Nat) (v:Value) (vs:List Rv) (qs:List Rat):Prop where
 own:bO tQ w base 87 4 v vs.length (eM vs)
 len:vs.length=qs.length
 ok:iW w vs qs
theorem dD.keep{v:Value}{vs:List Rv}(h:dD w base v vs qs)(hb:Below w.heap.size w w'):dD w' base v vs qs:=⟨h.own.keep hb,h.len,h.ok.up hb⟩
theorem lO(w:Wo)(base:Nat):dD w base (.slice none 0 0) [] []:=⟨g9 _ _ _ _ _,rfl,fun i q v h=>by simp at h⟩
theorem wE(v:Rv):∀u∈v.cells,u.oneCell'=true/\tQ u:=fun u hu=>by
 simp[Rv.cells] at hu;rcases hu with rfl | rfl | rfl | rfl<;>exact⟨rfl,fun k x h=>by cases h⟩
theorem dD.app{v v':Value}{vs:List Rv}{u:Rv}{q:Rat}(h:dD w base v vs qs)(hq:cY w w.heap.size q u)(h2:bO tQ w' base 87 4 v' (vs.length+1) (eM vs++u.cells))(hk:dZ tQ base 87 w w'):dD w' base v' (vs++[u]) (qs++[q]):=by
 refine⟨by rw[jO,List.length_singleton];simpa[eM] using h2,by rw[jO,jO,h.len];rfl,fun i p x hp hx=>?_⟩;by_cases hi:i<qs.length
 ·rw[yV hi] at hp
  rw[yV (by rw[h.len];exact hi)] at hx;exact(h.ok i p x hp hx).keeps hk
 ·rw[DK (by omega)] at hp
  rw[DK (by rw[h.len];omega),h.len] at hx;have TQ:=(c_.1 hp).1;rw[List.length_singleton] at TQ;have:i-qs.length=0:=by omega
  rw[this] at hp hx;simp at hp hx;subst hp;subst hx;exact cY.keeps hq hk
theorem dD.rd{v:Value}{vs:List Rv}(h:dD w base v vs qs):∃A c,v=.slice A qs.length c/\hO w w.heap.size A qs.length qs/\qs.length<=c/\c<=maxLen/\(0<qs.length->∃b off,A=some ⟨b,off,none⟩/\base<=b):=by
 obtain⟨A,c,hv,hr,h1,h2,h3⟩:=wM h.own.own;rw[h.len] at hv hr h1 h3;exact⟨A,c,hv,⟨vs,h.len,rfl,hr,h.ok⟩,h1,h2,h3⟩
theorem jW:∃i,Tryz.prog.info? 87=some i/\i.zero=some (.agg #[.bool false,.slice none 0 0,.bool false,.slice none 0 0])/\i.size=4/\i.bytes=64:=info_parts I_
theorem qA:∀u∈(Value.agg #[.bool false,.slice none 0 0,.bool false,.slice none 0 0]).cells.toList,tQ u:=fun u hu=>by
 have hu':u∈[Value.bool false,.slice none 0 0,.bool false,.slice none 0 0]:=hu;simp only[List.mem_cons,List.not_mem_nil,or_false] at hu';rcases hu' with rfl | rfl | rfl | rfl<;>exact fun k x h=>by cases h
end
section
open Go.ChangeShapes Go.WideShapes Go.ChangeAt Go.RowKit
attribute [local go_sem ↓] aE
attribute [local go_sem] aJ aI aL aX
def TvP(qs:List Rat)(w:Wo)(e:Ending)(w':Wo):Prop:=Below w.heap.size w w'/\((∀q∈qs,bJ q)->∃A n c,e=.returned (.tuple #[.slice A n c,.int .i64 0])/\aW w' w'.heap.size A n (qs.map eH)/\n<=c/\c<=maxLen)/\(¬(∀q∈qs,bJ q)->e=.returned (.tuple #[.slice none 0 0,.int .i64 2]))
def TvN(qs:List Rat)(w:Wo)(e:Ending)(w':Wo):Prop:=Below w.heap.size w w'/\((∀q∈qs,bJ q)->∃A n c,e=.returned (.tuple #[.slice A n c,.int .i64 0])/\aW w' w'.heap.size A n (qs.map eH)/\n<=c/\c<=maxLen/\aI7 w.heap.size A)/\(¬(∀q∈qs,bJ q)->e=.returned (.tuple #[.slice none 0 0,.int .i64 2]))
theorem G8(A:OA)(n c:Nat)(qs:List Rat)(w:Wo)(hR:hO w w.heap.size A n qs)(hn:n<=1000000)(ht:eY w):Calls Tryz.prog 34 #[.slice A n c] w (TvN qs w):=by
 have HC:=lH (QG A n c qs w hR hn ht);clear hR ht;go_enter Tryz.func34,Tryz.ntmps34
 go_wp2_with fail
 refine HC.o.mono ?_;rintro e w1 ⟨hb,h1,h2⟩;have HB:=lH hb;by_cases hf:∀q∈qs,bJ q
 ·obtain⟨C,m,d,rfl,h3,h4,h5,h6⟩:=h1 hf
  obtain⟨H3,H6,HF⟩:=eR h3 h6 hf;clear hf h1 h2 h3 h6 hb;(go_wp2_with fail);go_ret2;exact⟨HB.o,fun _=>⟨_,_,_,rfl,H3.o,h4,h5,H6.o⟩,fun h=>absurd HF.o h⟩
 ·have he:=h2 hf
  subst he;have HF:=lH hf;clear hf h1 h2 hb;(go_wp2_with fail);go_ret2;exact⟨HB.o,fun h=>absurd h HF.o,fun _=>rfl⟩
theorem qG(A:OA)(n c:Nat)(qs:List Rat)(w:Wo)(hR:hO w w.heap.size A n qs)(hn:n<=1000000)(ht:eY w):Calls Tryz.prog 34 #[.slice A n c] w (TvP qs w):=(G8 A n c qs w hR hn ht).mono fun e w' h=>by
 obtain⟨h1,h2,h3⟩:=h;refine⟨h1,fun hf=>?_,h3⟩;obtain⟨A,n,c,a1,a2,a3,a4,-⟩:=h2 hf;exact⟨A,n,c,a1,a2,a3,a4⟩
def RnP(q:Rat)(w:Wo)(e:Ending)(w':Wo):Prop:=Below w.heap.size w w'/\(bJ q->e=.returned (.tuple #[.string (eH q),.int .i64 0]))/\(¬bJ q->e=.returned (.tuple #[.string ⟨#[]⟩,.int .i64 2]))
theorem IQ(q:Rat)(b1:Bool)(A:OA)(n c:Nat)(b2:Bool)(A2:OA)(n2 c2:Nat)(w:Wo)(h1:bS w w.heap.size q b1 A n c b2 A2 n2 c2)(ht:eY w):Calls Tryz.prog 86 #[.agg #[.bool b1,.slice A n c,.bool b2,.slice A2 n2 c2]] w (RnP q w):=by
 have cI:Hid (Below w.heap.size w (w.alloc (aU b1 A n c b2 A2 n2 c2))):=lH (bA);have dE:=lH (aD.new w 87 #[.bool b1,.slice A n c,.bool b2,.slice A2 n2 c2]);have HC:=lH (wF q b1 A n c b2 A2 n2 c2 _ (h1.up cI.o) (ht.up cI.o));clear h1 ht;go_enter Tryz.func86,Tryz.ntmps86
 go_upto_region 1 with fail
 generalize w.alloc (aU b1 A n c b2 A2 n2 c2)=W at *;obtain⟨c0,c1,c2',c3⟩:=dE.o.a4
 go_wp2_with fail
 refine HC.o.mono ?_;clear c0 c1 c2' c3 HC;rintro e w1 ⟨hb,s,rfl,hs⟩;have HB:=bX cI hb;have HS:=lH hs;clear hb hs cI;by_cases hf:bJ q
 ·have HF:=lH hf
  rw[decide_eq_true hf];clear hf;(go_wp2_with fail);go_ret2;exact⟨HB.o,fun h=>by rw[HS.o h];rfl,fun h=>absurd HF.o h⟩
 ·have HF:=lH hf
  rw[decide_eq_false hf];clear hf;(go_wp2_with fail);go_ret2;exact⟨HB.o,fun h=>absurd h HF.o,fun _=>rfl⟩
theorem YR{K:Nat}(h:sF n<=K):cE n<=K:=by
 refine gI (jJ (WK n) ?_);refine eN (sO h) ?_;unfold BB;exact Nat.pow_le_pow_left (by decide) _
theorem JZ(h:sF n<=2000):cE n<=2000:=YR h
theorem JQ{q:Rat}(h:bJ q):bM q<=2000:=Nat.max_le.2 ⟨JZ h.1,JZ h.2⟩
theorem zY(h:dM s.data.toList=0):bJ (fB s):=(qE h).2.2.2.1
theorem QD(h:dM s.data.toList=0):eH (fB s)=s:=by
 unfold eH fB;rw[(qE h).2.2.1]
def OpP(f:Rat->Rat->Rat)(a b:ByteArray)(w:Wo)(e:Ending)(w':Wo):Prop:=Below w.heap.size w w'/\(dA [a,b]≠0->e=.returned (.tuple #[.string ⟨#[]⟩,.int .i64 (dA [a,b])]))/\(dA [a,b]=0->RnP (f (fB a) (fB b)) w e w')
theorem SJ(s:ByteArray):(⟨s.data.toList.toArray⟩:ByteArray)=s:=by cases s;simp
theorem Q9(h:dM s.data.toList=0)(w:Wo):Calls Tryz.prog 71 #[.string s] w (PU (fB s) w):=by
 have:=DY s.data.toList h w;rwa[SJ] at this
def rnS(q:Rat):ByteArray:=if bJ q then eH q else⟨#[]⟩
def rnE(q:Rat):Int:=if bJ q then 0 else 2
theorem RnP.out{q:Rat}{e:Ending}(h:RnP q w e w'):e=.returned (.tuple #[.string (rnS q),.int .i64 (rnE q)])/\Below w.heap.size w w':=by
 obtain⟨hb,h1,h2⟩:=h;unfold rnS rnE;by_cases hf:bJ q
 ·rw[if_pos hf,if_pos hf];exact⟨h1 hf,hb⟩
 ·rw[if_neg hf,if_neg hf];exact⟨h2 hf,hb⟩
def opS(f:Rat->Rat->Rat)(a b:ByteArray):ByteArray:=if dA [a,b]=0 then rnS (f (fB a) (fB b)) else⟨#[]⟩
def opE(f:Rat->Rat->Rat)(a b:ByteArray):Int:=if dA [a,b]=0 then rnE (f (fB a) (fB b)) else dA [a,b]
theorem OpP.out{f:Rat->Rat->Rat}{a b:ByteArray}{e:Ending}(h:OpP f a b w e w'):e=.returned (.tuple #[.string (opS f a b),.int .i64 (opE f a b)])/\Below w.heap.size w w':=by
 obtain⟨hb,h1,h2⟩:=h;unfold opS opE;by_cases hf:dA [a,b]=0
 ·rw[if_pos hf,if_pos hf];exact(h2 hf).out
 ·rw[if_neg hf,if_neg hf];exact⟨h1 hf,hb⟩
theorem DL{q:Rat}(h:bJ q):dM (eH q).data.toList=0/\fB (eH q)=q:=by
 have:=LP h;unfold eH fB;simpa using this
theorem UP(z:Int):(gR z).length<=sF z.natAbs+1:=by
 unfold gR sF;rw[jO];split<;>simp<;>omega
theorem UJ{q:Rat}(h:bJ q):(eH q).size<=4002:=by
 rw[Lib.size_eq];unfold eH gG;have h1:=UP q.num;obtain⟨h2,h3⟩:=h;unfold sF at h3;simp only[jO];split<;>simp<;>omega
def aCe(p q:Rat):Int:=(p.num*(q.den:Int)-q.num*(p.den:Int)).sign
end
section
open Go.ChangeShapes Go.WideShapes Go.ChangeAt Go.RowKit
structure Hd where
 A:OA
 n:Nat
 c:Nat
def Hd.val(h:Hd):Value:=.slice h.A h.n h.c
def Hd.cells(h:Hd):List Value:=[h.val]
theorem Hd.len(h:Hd):h.cells.length=1:=rfl
def lV(w:Wo)(B:Nat)(A:OA)(n:Nat)(M:List (List Rat)):Prop:=∃hs:List Hd,hs.length=n/\M.length=n/\Rd w B 1 A n (hs.map Hd.val)/\∀(i:Nat)(h:Hd)(q:List Rat),hs[i]?=some h->M[i]?=some q->hO w B h.A h.n q/\h.n<=h.c/\h.c<=maxLen
section
variable {w w':Wo} {B B' n:Nat} {A:OA} {M:List (List Rat)}
theorem lV.below(h:lV w B A n M)(hb:Below B' w w')(hB:B<=B'):lV w' B A n M:=by
 obtain⟨hs,h1,h2,h3,h4⟩:=h;exact⟨hs,h1,h2,h3.below hb hB,fun i h q hq hv=>⟨(h4 i h q hq hv).1.below hb hB,(h4 i h q hq hv).2⟩⟩
theorem lV.more(h:lV w B A n M)(hB:B<=B'):lV w B' A n M:=by
 obtain⟨hs,h1,h2,h3,h4⟩:=h;exact⟨hs,h1,h2,h3.more hB,fun i h q hq hv=>⟨(h4 i h q hq hv).1.more hB,(h4 i h q hq hv).2⟩⟩
theorem lV.up(h:lV w w.heap.size A n M)(hb:Below w.heap.size w w'):lV w' w'.heap.size A n M:=(h.below hb lR).more hb.size
theorem lV.len(h:lV w B A n M):M.length=n:=by obtain⟨_,_,h,_⟩:=h;exact h
theorem lV.form(h:lV w B A n M)(h0:0<n):∃b off,A=some ⟨b,off,none⟩/\b<B:=by
 obtain⟨hs,_,_,h3,_⟩:=h;obtain⟨b,off,e,aR,_⟩:=h3.2 h0;exact⟨b,off,e,aR⟩
theorem lV.at_{b off:Nat}{q:List Rat}(h:lV w B (some ⟨b,off,none⟩) n M)(hq:M[i]?=some q):∃h:Hd,w.cell? ⟨b,off+i,none⟩=some (.slice h.A h.n h.c)/\hO w B h.A h.n q/\h.n<=h.c/\h.c<=maxLen:=by
 obtain⟨hs,h1,h2,h3,h4⟩:=h;have hi:=(c_.1 hq).1;obtain⟨v,hv⟩:∃v,hs[i]?=some v:=eG (by omega);obtain⟨b',off',e,_,hc⟩:=h3.2 (by omega);injection e with e;injection e with e1 e2;subst e1;subst e2;exact⟨v,hc i _ (by rw[pL,hv];rfl),h4 i v q hv hq⟩
theorem lV.take(h:lV w B A n M)(hm:m<=n):lV w B A m (M.take m):=by
 obtain⟨hs,h1,h2,h3,h4⟩:=h;refine⟨hs.take m,by rw[kC,h1];omega,by rw[kC,h2];omega,⟨by simp;omega,fun h0=>?_⟩,fun j h q hh hq=>?_⟩
 ·obtain⟨b',off',e,aR,hc⟩:=h3.2 (by omega)
  refine⟨b',off',e,aR,fun j u hu=>hc j u ?_⟩;rw[List.map_take] at hu;have hj:=(c_.1 hu).1;rw[kC] at hj;rwa[List.getElem?_take_of_lt (by omega)] at hu
 ·have hj:=(c_.1 hh).1
  rw[kC] at hj;rw[List.getElem?_take_of_lt (by omega)] at hh hq;exact h4 _ _ _ hh hq
end
structure Mh where
 A:OA
 g:Nat
 c:Nat
 vs:List Rv
def Mh.hd(h:Mh):Value:=.slice h.A h.vs.length h.c
structure pC (w:Wo) (base g:Nat) (h:Mh) (q:List Rat):Prop where
 len:h.vs.length=q.length
 cap:h.vs.length<=h.c
 cm:h.c<=maxLen
 ok:iW w h.vs q
 lies:0<q.length->h.A=some ⟨h.g,0,none⟩/\base<=h.g/\h.g≠g/\∃cs,aD w h.g 87 cs/\cs.toList.take (q.length*4)=eM h.vs
theorem aD.row_cell{vs:List Rv}{v:Rv}(h:aD w g t cs)(ht:cs.toList.take m=eM vs)(hv:vs[i]?=some v):w.cell? ⟨g,i*4,none⟩=some (.bool v.b1)/\w.cell? ⟨g,i*4+1,none⟩=some (.slice v.A v.n v.c)/\w.cell? ⟨g,i*4+2,none⟩=some (.bool v.b2)/\w.cell? ⟨g,i*4+3,none⟩=some (.slice v.A2 v.m v.d):=by
 have hk:=fun k (hk:k<4)=>sN hv k hk;have key:∀k,k<4->∀u,v.cells[k]?=some u->w.cell? ⟨g,i*4+k,none⟩=some u:=fun k h4 u hu=>by
  rw[h.cell];have h1:=hk k h4;rw[hu,<-ht] at h1;have h2:=(c_.1 h1).1;rw[kC] at h2;rw[List.getElem?_take_of_lt (by omega)] at h1;simpa using h1
 exact⟨key 0 (by decide) _ rfl,key 1 (by decide) _ rfl,key 2 (by decide) _ rfl,key 3 (by decide) _ rfl⟩
theorem cY.keep4{q:Rat}{u:Rv}(h:cY w w.heap.size q u){vs:List Rv}{x:Rv}(v:Rv)(hb:aD w g t cs)(ht:cs.toList.take m=eM vs)(hx:vs[i]?=some x):cY (fY w g i v) (fY w g i v).heap.size q u:=by
 obtain⟨c0,c1,c2,c3⟩:=hb.row_cell ht hx;have ne:∀(a b:Nat),a≠b->(⟨g,a,none⟩:Addr)≠⟨g,b,none⟩:=fun a b h e=>h (by injection e);have off:∀(w:Wo)(a b:Nat)(u v:Value),a≠b->w.cell? ⟨g,b,none⟩=some v->(w.setCell ⟨g,a,none⟩ u).cell? ⟨g,b,none⟩=some v:=fun w a b u v iI hv=>by
  rw[World.cell?_setCell_other _ _ _ _ (ne a b iI)];exact hv
 have h':bS w w.heap.size q u.b1 u.A u.n u.c u.b2 u.A2 u.m u.d:=h;exact(((h'.keep c0 (by simp) _).keep (off _ _ _ _ _ (by omega) c1) (by simp) _).keep (off _ _ _ _ _ (by omega) (off _ _ _ _ _ (by omega) c2)) (by simp) _).keep (off _ _ _ _ _ (by omega) (off _ _ _ _ _ (by omega) (off _ _ _ _ _ (by omega) c3))) (by simp) _
theorem aD.far4(v:Rv)(h:aD w g' t cs)(hg:g'≠g):aD (fY w g i v) g' t cs:=(((h.far hg _).far hg _).far hg _).far hg _
theorem iK{α:Type}(l:List α)(m k:Nat)(u:α)(hk:k<m):(l.set k u).take m=(l.take m).set k u:=by
 apply List.ext_getElem?;intro j;by_cases hj:j<m
 ·rw[List.getElem?_take_of_lt hj,List.getElem?_set,List.getElem?_set,List.getElem?_take_of_lt hj,kC]
  by_cases h1:k=j
  ·subst h1
   rw[if_pos rfl,if_pos rfl];split<;>split<;>first | rfl | omega
  ·simp[h1]
 ·rw[List.getElem?_eq_none (by simp;omega),List.getElem?_eq_none (by simp;omega)]
theorem aD.row_put{vs:List Rv}(v:Rv)(h:aD w g t cs)(ht:cs.toList.take (n*4)=eM vs)(hn:vs.length=n)(hi:i<n):∃cs',aD (fY w g i v) g t cs'/\cs'.toList.take (n*4)=eM (vs.set i v):=by
 refine⟨_,(((h.set_ (i*4) (.bool v.b1)).set_ (i*4+1) (.slice v.A v.n v.c)).set_ (i*4+2) (.bool v.b2)).set_ (i*4+3) (.slice v.A2 v.m v.d),?_⟩;rw[<-zA vs i v (by omega),<-ht];simp only[Array.toList_setIfInBounds];rw[iK _ _ _ _ (by omega),iK _ _ _ _ (by omega),iK _ _ _ _ (by omega),iK _ _ _ _ (by omega)]
section
variable {w w':Wo} {base g:Nat} {h:Mh} {q:List Rat}
theorem pC.up(r:pC w base g h q)(hb:Below w.heap.size w w'):pC w' base g h q:=
 ⟨r.len,r.cap,r.cm,r.ok.up hb,fun h0=>by
  obtain⟨h1,h2,h3,cs,h4,h5⟩:=r.lies h0;exact⟨h1,h2,h3,cs,h4.bl hb,h5⟩⟩
theorem I4(w:Wo)(base g g':Nat)(A:OA)(c:Nat)(hc:c<=maxLen):pC w base g ⟨A,g',c,[]⟩ []:=
 ⟨rfl,Nat.zero_le _,hc,fun i q v h=>by simp at h,fun h=>by simp at h⟩
theorem pC.rd(r:pC w base g h q):hO w w.heap.size h.A q.length q:=by
 refine⟨h.vs,r.len,rfl,⟨by rw[dI,r.len],fun h0=>?_⟩,r.ok⟩;obtain⟨h1,h2,h3,cs,h4,h5⟩:=r.lies h0;refine⟨h.g,0,h1,h4.lt,fun j u hu=>?_⟩;rw[Nat.zero_add,h4.cell j];rw[<-h5] at hu;have hj:=(c_.1 hu).1;rw[kC] at hj;rw[List.getElem?_take_of_lt (by omega)] at hu;simpa using hu
end
structure hU (w:Wo) (base g:Nat) (hs:List Mh) (M:List (List Rat)):Prop where
 top:aD w g 96 (hs.map Mh.hd).toArray
 len:hs.length=M.length
 gb:base<=g
 row:∀(i:Nat)(h:Mh)(q:List Rat),hs[i]?=some h->M[i]?=some q->pC w base g h q
 dis:∀(i j:Nat)(h h':Mh),i≠j->hs[i]?=some h->hs[j]?=some h'->0<h.vs.length->0<h'.vs.length->h.g≠h'.g
section
variable {w w':Wo} {base g:Nat} {hs:List Mh} {M:List (List Rat)}
theorem hU.up(o:hU w base g hs M)(hb:Below w.heap.size w w'):hU w' base g hs M:=
 ⟨o.top.bl hb,o.len,o.gb,fun i h q hh hq=>(o.row i h q hh hq).up hb,o.dis⟩
theorem hU.get(o:hU w base g hs M){q:List Rat}(hq:M[i]?=some q):∃h,hs[i]?=some h/\w.cell? ⟨g,i,none⟩=some (.slice h.A q.length h.c)/\pC w base g h q:=by
 obtain⟨h,hh⟩:∃h,hs[i]?=some h:=eG (by rw[o.len];exact(c_.1 hq).1);have hr:=o.row i h q hh hq;refine⟨h,hh,?_,hr⟩;rw[o.top.cell,List.getElem?_toArray,pL,hh,<-hr.len];rfl
theorem hU.rd(o:hU w base g hs M):lV w w.heap.size (some ⟨g,0,none⟩) M.length M:=by
 refine⟨hs.map fun h=>⟨h.A,h.vs.length,h.c⟩,by rw[kJ,o.len],rfl,⟨by simp[o.len],fun _=>⟨g,0,rfl,o.top.lt,fun j u hu=>?_⟩⟩,fun i h q hh hq=>?_⟩
 ·rw[Nat.zero_add,o.top.cell j,List.getElem?_toArray]
  rw[List.map_map] at hu;exact hu
 ·rw[pL] at hh
  obtain⟨h',hh',rfl⟩:=Option.map_eq_some_iff.1 hh;have hr:=o.row i h' q hh' hq;refine⟨?_,hr.cap,hr.cm⟩;have:=hr.rd;rw[<-hr.len] at this;exact this
theorem hU.put(o:hU w base g hs M){h:Mh}{q:List Rat}{v:Rv}{x:Rat}(hh:hs[i]?=some h)(hq:M[i]?=some q)(hj:j<q.length)(hv:cY w w.heap.size x v):hU (fY w h.g j v) base g (hs.set i ⟨h.A,h.g,h.c,h.vs.set j v⟩) (M.set i (q.set j x)):=by
 have hr:=o.row i h q hh hq;obtain⟨h1,h2,h3,cs,h4,h5⟩:=hr.lies (by omega);obtain⟨y,hy⟩:∃y,h.vs[j]?=some y:=eG (by rw[hr.len];exact hj);have FY:=(c_.1 hh).1;have kU:∀{us:List Rv}{ps:List Rat},iW w us ps->iW (fY w h.g j v) us ps:=fun H k p u hp hu=>cY.keep4 (H k p u hp hu) v h4 h5 hy;refine⟨?_,by rw[jI,jI,o.len],o.gb,fun k h' q' hk hkq=>?_,fun a b ha hb iI EE yM l1 l2=>?_⟩
 ·have e:(hs.set i ⟨h.A,h.g,h.c,h.vs.set j v⟩).map Mh.hd=hs.map Mh.hd:=by
   rw[List.map_set];apply List.ext_getElem?;intro k;rw[List.getElem?_set];by_cases hk:i=k
   ·subst hk
    rw[kJ,pL,hh];simp[FY,Mh.hd]
   ·rw[if_neg hk]
  rw[e];exact o.top.far4 v (fun e=>h3 e.symm)
 ·rw[List.getElem?_set] at hk hkq
  by_cases uU:i=k
  ·subst uU
   rw[if_pos rfl,if_pos FY] at hk;rw[if_pos rfl,if_pos (by rw[<-o.len];exact FY)] at hkq;injection hk with hk;injection hkq with hkq;subst hk;subst hkq;obtain⟨cs',k1,k2⟩:=h4.row_put v h5 hr.len hj;refine⟨by simp[hr.len],by simpa using hr.cap,hr.cm,fun a p u hp hu=>?_,fun _=>⟨h1,h2,h3,cs',k1,by rw[jI];exact k2⟩⟩;simp only at hu;rw[List.getElem?_set] at hp hu;by_cases hja:j=a
   ·subst hja
    rw[if_pos rfl,if_pos hj] at hp;rw[if_pos rfl,if_pos (by rw[hr.len];exact hj)] at hu;injection hp with hp;injection hu with hu;subst hp;subst hu;exact cY.keep4 hv v h4 h5 hy
   ·rw[if_neg hja] at hp hu
    exact kU hr.ok a p u hp hu
  ·rw[if_neg uU] at hk hkq
   have hr':=o.row k h' q' hk hkq;refine⟨hr'.len,hr'.cap,hr'.cm,kU hr'.ok,fun h0=>?_⟩;obtain⟨a1,a2,a3,cs',a4,a5⟩:=hr'.lies h0;exact⟨a1,a2,a3,cs',a4.far4 v (o.dis k i h' h (fun e=>uU e.symm) hk hh (by rw[hr'.len];exact h0) (by rw[hr.len];omega)),a5⟩
 ·rw[List.getElem?_set] at EE yM
  have key:∀(k:Nat)(z:Mh),(if i=k then(if i<hs.length then some (⟨h.A,h.g,h.c,h.vs.set j v⟩:Mh) else none) else hs[k]?)=some z->∃z',hs[k]?=some z'/\z'.g=z.g/\z'.vs.length=z.vs.length:=fun k z hz=>by
   by_cases uU:i=k
   ·subst uU
    rw[if_pos rfl,if_pos FY] at hz;injection hz with hz;subst hz;exact⟨h,hh,rfl,by simp⟩
   ·rw[if_neg uU] at hz
    exact⟨z,hz,rfl,rfl⟩
  obtain⟨z1,k1,k2,k3⟩:=key a ha EE;obtain⟨z2,k4,k5,k6⟩:=key b hb yM;rw[<-k2,<-k5];exact o.dis a b z1 z2 iI k1 k4 (by omega) (by omega)
theorem hU.setRow(o:hU w base g hs M){h:Mh}{q:List Rat}(hi:i<M.length)(hr:pC w base g h q)(hd:∀(j:Nat)(h':Mh),j≠i->hs[j]?=some h'->0<h'.vs.length->0<h.vs.length->h'.g≠h.g):hU (w.setCell ⟨g,i,none⟩ (.slice h.A q.length h.c)) base g (hs.set i h) (M.set i q):=by
 have FY:i<hs.length:=by rw[o.len];exact hi
 have kU:∀{us:List Rv}{ps:List Rat}(u:Value),iW w us ps->iW (w.setCell ⟨g,i,none⟩ u) us ps:=fun u H k p v hp hv=>by
  have h0:bS w w.heap.size p v.b1 v.A v.n v.c v.b2 v.A2 v.m v.d:=H k p v hp hv;refine bS.keep h0 (v:=(hs.map Mh.hd)[i]'(by simpa using FY)) ?_ (fun a b e=>?_) u
  ·rw[o.top.cell];simp[FY]
  ·simp[Mh.hd] at e
 have kY:∀{h:Mh}{q:List Rat}(u:Value),pC w base g h q->pC (w.setCell ⟨g,i,none⟩ u) base g h q:=fun u r=>
  ⟨r.len,r.cap,r.cm,kU u r.ok,fun h0=>by
   obtain⟨h1,h2,h3,cs,h4,h5⟩:=r.lies h0;exact⟨h1,h2,h3,cs,h4.far h3 u,h5⟩⟩
 refine⟨?_,by rw[jI,jI,o.len],o.gb,fun k h' q' hk hkq=>?_,fun a b ha hb iI EE yM l1 l2=>?_⟩
 ·have:=o.top.set_ i (.slice h.A q.length h.c)
  rw[List.map_set];rw[<-hr.len] at this ⊢;simpa[Mh.hd] using this
 ·rw[List.getElem?_set] at hk hkq
  by_cases uU:i=k
  ·subst uU
   rw[if_pos rfl,if_pos FY] at hk;rw[if_pos rfl,if_pos hi] at hkq;injection hk with hk;injection hkq with hkq;subst hk;subst hkq;exact kY _ hr
  ·rw[if_neg uU] at hk hkq
   exact kY _ (o.row k h' q' hk hkq)
 ·rw[List.getElem?_set] at EE yM
  by_cases hia:i=a
  ·subst hia
   rw[if_pos rfl,if_pos FY] at EE;injection EE with EE;subst EE;rw[if_neg iI] at yM;exact fun e=>hd b hb (fun e=>iI e.symm) yM l2 l1 e.symm
  ·rw[if_neg hia] at EE
   by_cases hib:i=b
   ·subst hib
    rw[if_pos rfl,if_pos FY] at yM;injection yM with yM;subst yM;exact hd a ha (fun e=>hia e.symm) EE l1 l2
   ·rw[if_neg hib] at yM
    exact o.dis a b ha hb iI EE yM l1 l2
theorem hU.swap(o:hU w base g hs M){r p:Nat}{a b:List Rat}{ha hb:Mh}(h1:hs[r]?=some ha)(h2:hs[p]?=some hb)(h3:M[r]?=some a)(h4:M[p]?=some b):hU ((w.setCell ⟨g,r,none⟩ (.slice hb.A b.length hb.c)).setCell ⟨g,p,none⟩ (.slice ha.A a.length ha.c)) base g ((hs.set r hb).set p ha) ((M.set r b).set p a):=by
 have RV:=(c_.1 h1).1;have tN:=(c_.1 h2).1;have ra:=o.row r ha a h1 h3;have rb:=o.row p hb b h2 h4;have kU:∀{w:Wo}{cs:Array Value}{us:List Rv}{ps:List Rat}{i:Nat}{x:Value}(u:Value),aD w g 96 cs->cs[i]?=some x->(∀k y,x≠.int k y)->iW w us ps->iW (w.setCell ⟨g,i,none⟩ u) us ps:=fun{w cs us ps i x} u hb hc hx H k p v hp hv=>by
  have h0:bS w w.heap.size p v.b1 v.A v.n v.c v.b2 v.A2 v.m v.d:=H k p v hp hv;refine bS.keep h0 (v:=x) ?_ hx u;rw[hb.cell];exact hc
 have JL:=o.top.set_ r (.slice hb.A b.length hb.c);have O1:∀(i:Nat)(z:Mh),hs[i]?=some z->(hs.map Mh.hd).toArray[i]?=some z.hd:=fun i z hz=>by rw[List.getElem?_toArray,pL,hz];rfl
 have kY:∀{h:Mh}{q:List Rat},pC w base g h q->pC ((w.setCell ⟨g,r,none⟩ (.slice hb.A b.length hb.c)).setCell ⟨g,p,none⟩ (.slice ha.A a.length ha.c)) base g h q:=fun R=>
  ⟨R.len,R.cap,R.cm,by
   have k1:=kU (.slice hb.A b.length hb.c) o.top (O1 r ha h1) (fun k y e=>by cases e) R.ok;by_cases hrp:r=p
   ·subst hrp
    exact kU _ JL (x:=.slice hb.A b.length hb.c) (by simp[RV]) (fun k y e=>by cases e) k1
   ·exact kU _ JL (x:=hb.hd) (by rw[Array.getElem?_setIfInBounds_ne hrp];exact O1 p hb h2) (fun k y e=>by cases e) k1,fun h0=>by
   obtain⟨k1,k2,k3,cs,k4,k5⟩:=R.lies h0;exact⟨k1,k2,k3,cs,(k4.far k3 _).far k3 _,k5⟩⟩
 have aEt:∀(i:Nat)(z:Mh),((hs.set r hb).set p ha)[i]?=some z->∃i' ,hs[i']?=some z/\((i'=i/\i≠r/\i≠p)\/(i=r/\i≠p/\i'=p)\/(i=p/\i'=r))/\∀q,((M.set r b).set p a)[i]?=some q->M[i']?=some q:=fun i z hz=>by
  rw[List.getElem?_set,List.getElem?_set,jI] at hz;by_cases hp:p=i
  ·subst hp
   rw[if_pos rfl,if_pos tN] at hz;injection hz with hz;subst hz;refine⟨r,h1,.inr (.inr ⟨rfl,rfl⟩),fun q hq=>?_⟩;rw[List.getElem?_set,if_pos rfl,if_pos (by rw[jI,<-o.len];exact tN)] at hq;rw[h3];exact hq
  ·rw[if_neg hp] at hz
   by_cases hr:r=i
   ·subst hr
    rw[if_pos rfl,if_pos RV] at hz;injection hz with hz;subst hz;refine⟨p,h2,.inr (.inl ⟨rfl,fun e=>hp e.symm,rfl⟩),fun q hq=>?_⟩;rw[List.getElem?_set,if_neg hp,List.getElem?_set,if_pos rfl,if_pos (by rw[<-o.len];exact RV)] at hq;rw[h4];exact hq
   ·rw[if_neg hr] at hz
    refine⟨i,hz,.inl ⟨rfl,fun e=>hr e.symm,fun e=>hp e.symm⟩,fun q hq=>?_⟩;rw[List.getElem?_set,if_neg hp,List.getElem?_set,if_neg hr] at hq;exact hq
 refine⟨?_,by simp[o.len],o.gb,fun i z q hz hq=>?_,fun i j z z' rV hz hz' l1 l2=>?_⟩
 ·have:=JL.set_ p (.slice ha.A a.length ha.c)
  rw[List.map_set,List.map_set];rw[<-ra.len,<-rb.len] at this ⊢;simpa[Mh.hd] using this
 ·obtain⟨i',k1,_,k3⟩:=aEt i z hz
  exact kY (o.row i' z q k1 (k3 q hq))
 ·obtain⟨i',k1,k2,_⟩:=aEt i z hz
  obtain⟨j',m1,m2,_⟩:=aEt j z' hz';by_cases cK:i'=j'
  ·subst cK
   omega
  ·exact o.dis i' j' z z' cK k1 m1 l1 l2
end
theorem WX:(Tryz.prog.info? 96).map (fun i=>(i.zero,i.size,i.bytes))=some (some (.slice none 0 0),1,24):=by kernel_rfl
def fU(n:Nat):Array Value:=(List.replicate n (Value.slice none 0 0)).toArray
theorem wS(n:Nat)(hn:n<=1000000)(w:Wo):(Instr.makeSlice 129 (.int .i64 (n:Int)) (.int .i64 (n:Int))).run Tryz.prog w=.ok (.slice (some ⟨w.heap.size,0,none⟩) n n) (w.alloc (.cells (fU n) 96)):=by
 obtain⟨i0,jL,pF,kT,kS⟩:=info_parts WX;rw[run_make w 129 96 i0 _ Tryz.underlying129 jL pF .i64 .i64 (n:Int) (n:Int) (by omega) (Int.le_refl _) (by rw[kS];omega) (by omega),oL,kT,Nat.mul_one];rw[show(Value.slice none 0 0).cells=#[Value.slice none 0 0] from rfl];rw[show madeCells #[Value.slice none 0 0] n=(List.replicate n (Value.slice none 0 0)).toArray from by
  apply Array.ext';rw[toList_madeCells_one]]
 rfl
theorem wN(h:aD w g 96 (fU n))(hb:base<=g):hU w base g (List.replicate n ⟨none,0,0,[]⟩) (List.replicate n []):=by
 unfold fU at h;refine⟨by rw[List.map_replicate];exact h,by simp,hb,fun i h q hh hq=>?_,fun i j h h' _ hh _ l=>?_⟩
 ·rw[List.getElem?_replicate] at hh hq
  split at hh
  ·rw[if_pos ‹_›] at hq
   injection hh with hh;injection hq with hq;subst hh;subst hq;exact I4 _ _ _ _ _ _ (by simp[maxLen])
  ·cases hh
 ·rw[List.getElem?_replicate] at hh
  split at hh
  ·injection hh with hh
   subst hh;simp at l
  ·cases hh
theorem I3{w':Wo}{v:Value}{vs:List Rv}(h:dD w base v vs qs)(hg:g<base):∃h:Mh,v=.slice h.A qs.length h.c/\h.vs=vs/\pC w base g h qs:=by
 obtain⟨hl,h1⟩:=h.own;rcases h1 with⟨h1,h2⟩ | ⟨b,cap,cur,h1,h2,h3,h4,h5,h6,h7,_⟩
 ·have hq:qs=[]:=List.eq_nil_of_length_eq_zero (by rw[<-h.len];exact h2)
  have hv:vs=[]:=List.eq_nil_of_length_eq_zero h2;subst hq;subst hv;exact⟨⟨none,0,0,[]⟩,h1,rfl,I4 _ _ _ _ _ _ (by simp[maxLen])⟩
 ·refine⟨⟨some ⟨b,0,none⟩,b,cap,vs⟩,by rw[<-h.len];exact h1,rfl,h.len,h4,h5,h.ok,fun _=>⟨rfl,h2,by simp only;omega,cur,h3,by rw[<-h.len];exact h7⟩⟩
theorem lV.bm{l:List (List Rat)}(h:lV w w.heap.size A n l)(g:Below w.heap.size w w'):lV w' w'.heap.size A n l:=(h.below g lR).more g.size
end
section
open Go.ChangeShapes Go.WideShapes Go.ChangeAt Go.RowKit
attribute [local go_sem ↓] aE
attribute [local go_sem] aJ aI aL aX
theorem pC.mono{base':Nat}{h:Mh}{q:List Rat}(r:pC w base g h q)(hb:base'<=base):pC w base' g h q:=
 ⟨r.len,r.cap,r.cm,r.ok,fun h0=>by
  obtain⟨h1,h2,h3⟩:=r.lies h0;exact⟨h1,eN hb h2,h3⟩⟩
theorem hU.lt{hs:List Mh}(o:hU w base g hs M){h:Mh}(hh:hs[j]?=some h)(h0:0<h.vs.length):h.g<w.heap.size:=by
 obtain⟨q,hq⟩:∃q,M[j]?=some q:=eG (by rw[<-o.len];exact(c_.1 hh).1);have r:=o.row j h q hh hq;obtain⟨_,_,_,cs,hb,_⟩:=r.lies (by rw[<-r.len];exact h0);exact hb.lt
theorem BN{q:List Rat}(hn:M.length=n)(hq:M[k]?=some q):(M.take k++List.replicate (n-k) []).set k q=M.take (k+1)++List.replicate (n-(k+1)) []:=by
 have hk:=(c_.1 hq).1;rw[List.set_append_right _ _ (by rw[kC];omega),kC,Nat.min_eq_left (by omega),Nat.sub_self,fG hq];rw[show n-k=(n-(k+1))+1 from by omega,List.replicate_succ];simp
def aNE(M:List (List Rat))(w:Wo)(e:Ending)(w':Wo):Prop:=Below w.heap.size w w'/\∃g hs,e=.returned (.slice (some ⟨g,0,none⟩) M.length M.length)/\hU w' w.heap.size g hs M
theorem DS{q:List Rat}(h:hO w B A n q):∃vs:List Rv,vs.length=n/\q.length=n/\Rd w B 4 A n (eM vs)/\∀(i:Nat)(x:Rat)(v:Rv),q[i]?=some x->vs[i]?=some v->cY w B x v:=h
theorem tU(vs:List Rv):∀u∈eM vs,u.oneCell'=true/\tQ u:=fun u hu=>by
 unfold eM at hu;obtain⟨v,_,hv⟩:=List.mem_flatMap.1 hu;exact wE v u hv
theorem aE2(A:OA)(n c:Nat)(M:List (List Rat))(w:Wo)(hR:lV w w.heap.size A n M)(hn:n<=1000000)(hw:∀a∈M,a.length<=1000000):Calls Tryz.prog 149 #[.slice A n c] w (aNE M w):=by
 obtain⟨HR,HL,HWD,yD⟩:=gO hR hR.len hw hn;obtain⟨i0,jL,pF,kT,kS⟩:=jW;obtain⟨yT,xK,CE,CD⟩:=gO jL pF kT kS;clear hR hw jL pF kT kS;have tO:∀w:World,(Instr.makeSlice 129 (.int .i64 (n:Int)) (.int .i64 (n:Int))).run Tryz.prog w=.ok (.slice (some ⟨w.heap.size,0,none⟩) n n) (w.alloc (.cells (fU n) 96)):=fun w=>wS n hn w;have HK:=lH ((Below.refl w.heap.size w).alloc lR (.cells (fU n) 96));have HG:=lH (aD.new w 96 (fU n));go_enter Tryz.func149,Tryz.ntmps149
 go_wp2_with fail
 clear tO;generalize w.alloc (.cells (fU n) 96)=W at *;have HO:=lH (wN HG.o lR);generalize hg:w.heap.size=g at *;have kZ:=lH hg;clear hg
 go_loopw [11] (fun v11 wr=>∃(k:Nat)(hs:List Mh),k<=n/\v11=.int .i64 k/\Below g w wr/\hU wr g g hs (M.take k++List.replicate (n-k) [])) (fun v11 _=>n-(intOf v11).toNat)
 case atStart=>exact⟨0,_,by omega,rfl,HK.o,by rw[List.take_zero,List.nil_append,Nat.sub_zero];exact HO.o⟩
 case round=>
  clear HK HO;obtain⟨k,hs,hk,rfl,hb,ho⟩:=hrel;have HK:=lH hb;have HO:=lH ho;clear hb ho;by_cases aR:k<n
  ·obtain⟨q,hq⟩:∃q,M[k]?=some q:=eG (by have:=HL.o;omega)
   obtain⟨b,o,hA,hb⟩:=(HR.o.below HK.o (by have:=kZ.o;omega)).form (by omega);subst hA;obtain⟨h,hc,hrq,hh1,TR⟩:=(HR.o.below HK.o (by have:=kZ.o;omega)).at_ hq;have p_:Hid (g<wr.heap.size):=lH HO.o.top.lt;have HRQ:=lH (hrq.more (B':=wr.heap.size) (by have:=kZ.o;have:=p_.o;omega));obtain⟨HQ,HQW,HF⟩:=eR hq (HWD.o q (cS hq)) (BN HL.o hq);have iM:(k:Int)<(n:Int):=by omega
   have gB:=lN k;have e_:Hid (n-(k+1)<n-k):=lH (by omega);have nG:b<wr.heap.size:=by have:=HK.o.size;have:=kZ.o;omega
   obtain⟨vs,lD,jG,nB,nF⟩:=DS HRQ.o;obtain⟨hA0,kV,EH⟩:=h;simp only at hc lD jG nB nF hh1 TR;obtain⟨mM,yQ,DF,LE⟩:=gO lD jG nB nF;have aS6:kV<=1000000:=by have:=HQW.o;omega
   clear lD jG nB nF hq hrq hb
   go_wp2_with (at_builtin;refine mT (S:=tQ) rfl (.const (.slice none 0 0)) (.tmp 18) _ rfl g 87 i0 _ 4 64 Tryz.underlying96 yT.o xK.o CE.o CD.o rfl (by omega) qA (.slice none 0 0) 0 [] rfl (g9 _ _ _ _ _) hA0 kV EH (eM vs) rfl DF.o (tU vs) ?k1 ?k2 ?k3 ?_)
   case k1=>simp only[maxLen];omega
   case k2=>omega
   case k3=>have:=p_.o;omega
   intro v' w6 bB pI eE RX eA;have hvn:vs.length=kV:=mM.o;rw[<-hvn] at RX;have hoq:dD w6 wr.heap.size v' vs q:=⟨RX,by rw[mM.o,yQ.o],iW.up (w:=wr) (w':=w6) LE.o eE⟩;obtain⟨h2,hv,hvs,kY⟩:=I3 (w':=w6) (g:=g) hoq p_.o;clear hoq;subst hv;have m9:=lH (kY.mono (base':=g) (qY p_.o));have d6:=lH (HK.o.trans (eE.mono (qY p_.o)));have S8:=lH (HO.o.up eE);have TD:Hid (∀j (h':Mh),j≠k->hs[j]?=some h'->0<h'.vs.length->0<h2.vs.length->h'.g≠h2.g):=lH fun j h' _ hh l1 l2=>by
    have h3:=HO.o.lt hh l1;have h4:=(kY.lies (by rw[<-kY.len];exact l2)).2.1;omega
   clear bB pI eE RX eA hvn hvs kY hc;have gl:=S8.o.top.lt;have gf:=S8.o.top.frozen;obtain⟨gv,gc⟩:∃gv,w6.cell? ⟨g,k,none⟩=some gv:=by
    rw[S8.o.top.cell];exact⟨_,Array.getElem?_eq_getElem (by simp;rw[S8.o.len];simp;have:=HL.o;omega)⟩
   generalize TO:q.length=ql at *;have pT:=lH TO;clear TO;(go_wp2_with fail);go_roundw
   case rel=>exact⟨k+1,hs.set k h2,aR,aM gB.o,d6.o.setCell lR _,by rw[<-HF.o,<-pT.o];exact S8.o.setRow (by simp;have:=HL.o;omega) m9.o TD.o⟩
   case measure=>exact e_.o
  ·have pP:k=n:=by omega
   subst pP;have iM:¬(k:Int)<(k:Int):=by omega
   (go_wp2_with fail);go_ret;refine⟨by rw[kZ.o];exact HK.o,g,hs,by rw[HL.o];rfl,?_⟩;have h:=HO.o;rw[Nat.sub_self,List.replicate_zero,List.append_nil,oP (by rw[HL.o];exact lR)] at h;rw[kZ.o];exact h
def QP(q:Rat)(w:Wo)(e:Ending)(w':Wo):Prop:=Below w.heap.size w w'/\∃v:Rv,e=.returned (.agg #[.bool v.b1,.slice v.A v.n v.c,.bool v.b2,.slice v.A2 v.m v.d])/\cY w' w'.heap.size q v
theorem PU.qp{q:Rat}{e:Ending}(h:PU q w e w'):QP q w e w':=by
 obtain⟨hb,b1,A,n,c,b2,A2,m,d,he,h⟩:=h;exact⟨hb,⟨b1,A,n,c,b2,A2,m,d⟩,he,h⟩
section
variable {w w':Wo} {B B':Nat} {q:Rat} {v:Rv}
theorem cY.below(h:cY w B q v)(hb:Below B' w w')(hB:B<=B'):cY w' B q v:=bS.below h hb hB
theorem cY.more(h:cY w B q v)(hB:B<=B'):cY w B' q v:=bS.more h hB
theorem cY.up(h:cY w w.heap.size q v)(hb:Below w.heap.size w w'):cY w' w'.heap.size q v:=bS.up h hb
end
theorem WG{q:Rat}{v u:Rv}(h1:cY w w.heap.size p v)(h2:cY w w.heap.size q u)(hs:bM p+bM q+1<=35184372088832):Calls Tryz.prog 67 #[.agg #[.bool v.b1,.slice v.A v.n v.c,.bool v.b2,.slice v.A2 v.m v.d],.agg #[.bool u.b1,.slice u.A u.n u.c,.bool u.b2,.slice u.A2 u.m u.d]] w (QP (p*q) w):=
 (U7 p q v.b1 v.A v.n v.c v.b2 v.A2 v.m v.d u.b1 u.A u.n u.c u.b2 u.A2 u.m u.d w h1 h2 hs).mono fun _ _ h=>h.qp
theorem B5{q:Rat}{v u:Rv}(h1:cY w w.heap.size p v)(h2:cY w w.heap.size q u)(hs:bM p+bM q+1<=35184372088832):Calls Tryz.prog 61 #[.agg #[.bool v.b1,.slice v.A v.n v.c,.bool v.b2,.slice v.A2 v.m v.d],.agg #[.bool u.b1,.slice u.A u.n u.c,.bool u.b2,.slice u.A2 u.m u.d]] w (QP (p+q) w):=
 (IS p q v.b1 v.A v.n v.c v.b2 v.A2 v.m v.d u.b1 u.A u.n u.c u.b2 u.A2 u.m u.d w h1 h2 hs).mono fun _ _ h=>h.qp
theorem UT{q:Rat}{v u:Rv}(h1:cY w w.heap.size p v)(h2:cY w w.heap.size q u)(hs:bM p+bM q+1<=35184372088832):Calls Tryz.prog 68 #[.agg #[.bool v.b1,.slice v.A v.n v.c,.bool v.b2,.slice v.A2 v.m v.d],.agg #[.bool u.b1,.slice u.A u.n u.c,.bool u.b2,.slice u.A2 u.m u.d]] w (QP (p-q) w):=
 (U4 p q v.b1 v.A v.n v.c v.b2 v.A2 v.m v.d u.b1 u.A u.n u.c u.b2 u.A2 u.m u.d w h1 h2 hs).mono fun _ _ h=>h.qp
theorem aIS{q:Rat}{v u:Rv}(h1:cY w w.heap.size p v)(h2:cY w w.heap.size q u)(hq:q≠0)(hs:bM p+bM q+1<=35184372088832):Calls Tryz.prog 120 #[.agg #[.bool v.b1,.slice v.A v.n v.c,.bool v.b2,.slice v.A2 v.m v.d],.agg #[.bool u.b1,.slice u.A u.n u.c,.bool u.b2,.slice u.A2 u.m u.d]] w (QP (p / q) w):=
 (VD p q v.b1 v.A v.n v.c v.b2 v.A2 v.m v.d u.b1 u.A u.n u.c u.b2 u.A2 u.m u.d w h1 h2 hq hs).mono fun _ _ h=>h.qp
theorem aNy{q:Rat}{v u:Rv}(h1:cY w w.heap.size p v)(h2:cY w w.heap.size q u)(hs:bM p+bM q+1<=35184372088832):Calls Tryz.prog 72 #[.agg #[.bool v.b1,.slice v.A v.n v.c,.bool v.b2,.slice v.A2 v.m v.d],.agg #[.bool u.b1,.slice u.A u.n u.c,.bool u.b2,.slice u.A2 u.m u.d]] w (fun e w'=>e=.returned (.int .i64 (aCe p q))/\Below w.heap.size w w'):=
 VF p q v.b1 v.A v.n v.c v.b2 v.A2 v.m v.d u.b1 u.A u.n u.c u.b2 u.A2 u.m u.d w h1 h2 hs
theorem aLB{v:Rv}(h1:cY w w.heap.size p v):Calls Tryz.prog 85 #[.agg #[.bool v.b1,.slice v.A v.n v.c,.bool v.b2,.slice v.A2 v.m v.d]] w (QP (-p) w):=
 (AD p v.b1 v.A v.n v.c v.b2 v.A2 v.m v.d w h1).mono fun _ _ h=>h.qp
theorem aIX{v:Rv}(h1:cY w w.heap.size p v):Calls Tryz.prog 81 #[.agg #[.bool v.b1,.slice v.A v.n v.c,.bool v.b2,.slice v.A2 v.m v.d]] w (QP (lB p) w):=
 (VG p v.b1 v.A v.n v.c v.b2 v.A2 v.m v.d w h1).mono fun _ _ h=>h.qp
theorem xP{v:Rv}(h1:cY w w.heap.size p v):Calls Tryz.prog 100 #[.agg #[.bool v.b1,.slice v.A v.n v.c,.bool v.b2,.slice v.A2 v.m v.d]] w fun e w'=>e=.returned (.int .i64 p.num.sign)/\Below w.heap.size w w':=DP p v.b1 v.A v.n v.c v.b2 v.A2 v.m v.d w h1
theorem oQ(k:Int)(w:Wo)(h0:-9223372036854775808<=k)(h1:k<=9223372036854775807):Calls Tryz.prog 66 #[.int .i64 k] w (QP (k:Rat) w):=(QA k w h0 h1).mono fun _ _ h=>h.qp
theorem O6(k d:Int)(w:Wo)(h0:-9223372036854775808<=k)(h1:k<=9223372036854775807)(h2:-9223372036854775808<=d)(h3:d<=9223372036854775807)(hd:d≠0):Calls Tryz.prog 62 #[.int .i64 k,.int .i64 d] w (QP (Rat.divInt k d) w):=(YE k d w h0 h1 h2 h3 hd).mono fun _ _ h=>h.qp
theorem UO{q:Rat}{v:Rv}(h1:cY w w.heap.size q v)(ht:eY w):Calls Tryz.prog 32 #[.agg #[.bool v.b1,.slice v.A v.n v.c,.bool v.b2,.slice v.A2 v.m v.d]] w (aI4 q w):=wF q v.b1 v.A v.n v.c v.b2 v.A2 v.m v.d w h1 ht
theorem aD8(h:dM s.data.toList=0)(w:Wo):Calls Tryz.prog 71 #[.string s] w (QP (fB s) w):=(Q9 h w).mono fun _ _ h=>h.qp
theorem FJ{x v:Rv}(h:aD w g T #[.bool x.b1,.slice x.A x.n x.c,.bool x.b2,.slice x.A2 x.m x.d]):aD ((((w.setCell ⟨g,0,none⟩ (.bool v.b1)).setCell ⟨g,1,none⟩ (.slice v.A v.n v.c)).setCell ⟨g,2,none⟩ (.bool v.b2)).setCell ⟨g,3,none⟩ (.slice v.A2 v.m v.d)) g T #[.bool v.b1,.slice v.A v.n v.c,.bool v.b2,.slice v.A2 v.m v.d]:=d9 h
theorem cY.keepq{x v u:Rv}{q:Rat}(h:cY w w.heap.size q u)(hb:aD w g T #[.bool x.b1,.slice x.A x.n x.c,.bool x.b2,.slice x.A2 x.m x.d]):cY ((((w.setCell ⟨g,0,none⟩ (.bool v.b1)).setCell ⟨g,1,none⟩ (.slice v.A v.n v.c)).setCell ⟨g,2,none⟩ (.bool v.b2)).setCell ⟨g,3,none⟩ (.slice v.A2 v.m v.d)) ((((w.setCell ⟨g,0,none⟩ (.bool v.b1)).setCell ⟨g,1,none⟩ (.slice v.A v.n v.c)).setCell ⟨g,2,none⟩ (.bool v.b2)).setCell ⟨g,3,none⟩ (.slice v.A2 v.m v.d)).heap.size q u:=by
 have B1:=hb.set_at (i:=0) (cs':=#[.bool v.b1,.slice x.A x.n x.c,.bool x.b2,.slice x.A2 x.m x.d]) (.bool v.b1) (by simp);have B2:=B1.set_at (i:=1) (cs':=#[.bool v.b1,.slice v.A v.n v.c,.bool x.b2,.slice x.A2 x.m x.d]) (.slice v.A v.n v.c) (by simp);have B3:=B2.set_at (i:=2) (cs':=#[.bool v.b1,.slice v.A v.n v.c,.bool v.b2,.slice x.A2 x.m x.d]) (.bool v.b2) (by simp);exact(((bS.keep h (hb.cell 0) (by simp) _).keep (B1.cell 1) (by simp) _).keep (B2.cell 2) (by simp) _).keep (B3.cell 3) (by simp) _
theorem CU{v:Rv}(h:aD w g' T cs)(hg:g'≠g):aD ((((w.setCell ⟨g,0,none⟩ (.bool v.b1)).setCell ⟨g,1,none⟩ (.slice v.A v.n v.c)).setCell ⟨g,2,none⟩ (.bool v.b2)).setCell ⟨g,3,none⟩ (.slice v.A2 v.m v.d)) g' T cs:=(((h.far hg _).far hg _).far hg _).far hg _
def oU(w:Wo)(g:Nat)(v:Rv):World:=(((w.setCell ⟨g,0,none⟩ (.bool v.b1)).setCell ⟨g,1,none⟩ (.slice v.A v.n v.c)).setCell ⟨g,2,none⟩ (.bool v.b2)).setCell ⟨g,3,none⟩ (.slice v.A2 v.m v.d)
theorem eL{a:Wo}{v:Rv}(h:Below B a w)(hg:B<=g):Below B a (oU w g v):=BW h hg
theorem Q1(w:Wo)(g:Nat)(v:Rv):(oU w g v).heap.size=w.heap.size:=by simp[oU]
theorem hO.keepq{T:Nat}{x v:Rv}(h:hO w B A n qs)(hB:B<=g):hO (oU w g v) B A n qs:=h.below (eL (Below.refl B w) hB) lR
theorem hO.putq{x v:Rv}(h:hO w w.heap.size A n qs)(hb:aD w g T #[.bool x.b1,.slice x.A x.n x.c,.bool x.b2,.slice x.A2 x.m x.d])(hA:0<n->∃b off,A=some ⟨b,off,none⟩/\b≠g):hO (oU w g v) (oU w g v).heap.size A n qs:=by
 obtain⟨vs,h1,h2,h3,h4⟩:=h;refine⟨vs,h1,h2,⟨h3.1,fun hn=>?_⟩,fun i q u hq hu=>cY.keepq (h4 i q u hq hu) hb⟩;obtain⟨b,off,e,aR,hc⟩:=h3.2 hn;obtain⟨b',off',e',cK⟩:=hA hn;rw[e] at e';injection e' with e';injection e' with e1 e2;subst e1;refine⟨b,off,e,by rw[Q1];exact aR,fun j u hu=>?_⟩;have k:∀(w:Wo)(o i:Nat)(u:Value),(w.setCell ⟨g,o,none⟩ u).cell? ⟨b,i,none⟩=w.cell? ⟨b,i,none⟩:=fun w o i u=>World.cell?_setCell_other _ _ _ _ (fun e=>cK (by injection e with e;exact e.symm));unfold oU;rw[k,k,k,k];exact hc j u hu
theorem lM(k:Int)(h0:-9223372036854775808<=k)(h1:k<=9223372036854775807):bM (k:Rat)<=2:=by
 unfold bM;rw[Rat.num_intCast,Rat.den_intCast];exact Nat.max_le.2 ⟨gI (by show _<4294967296^2;omega),by decide+kernel⟩
def cO(qs:List Rat):Rat:=qs.foldl (·+·) 0
theorem nL(qs:List Rat)(q:Rat):cO (qs++[q])=cO qs+q:=by unfold cO;rw[List.foldl_append];rfl
theorem kL:∀(n:Nat)(qs:List Rat),qs.length=n->∀b,(∀q∈qs,bM q<=b)->bM (cO qs)<=n*(b+1)+1
 | 0,qs,h,b,hb=>by
  rw[List.length_eq_zero_iff] at h;subst h;show bM 0<=_;have:bM 0<=1:=by decide+kernel
  omega
 | n+1,qs,h,b,hb=>by
  obtain⟨r,q,rfl⟩:∃r q,qs=r++[q]:=⟨qs.dropLast,qs.getLast (by intro e;subst e;simp at h),(List.dropLast_concat_getLast _).symm⟩;rw[jO,List.length_singleton] at h;have h1:=kL n r (by omega) b fun q hq=>hb q (List.mem_append_left _ hq);have h2:=hb q (by simp);rw[nL];have h3:=lI (cO r) q;rw[Nat.succ_mul];omega
def JY(a b:List Rat):Rat:=cO (List.zipWith (·*·) a b)
def yB(u:Value):Prop:=∃x,u=.int .i64 x
theorem cY.keepsI{q:Rat}{v:Rv}(h:cY w w.heap.size q v)(k:dZ yB base e w w'):cY w' w'.heap.size q v:=by
 have key:∀{A:OA}{n:Nat}{l:List Nat},gF w w.heap.size A n l->gF w' w'.heap.size A n l:=fun h=>⟨h.1,fun hn=>by
  obtain⟨b,off,e,aR,hc⟩:=h.2 hn;refine⟨b,off,e,jJ aR k.size,fun j u hu=>k.cell _ _ (hc j u hu) ?_⟩;obtain⟨x,rfl⟩:=E_ hu;rintro⟨y,hy⟩;cases hy⟩
 exact⟨⟨h.num.eb,h.num.en,key h.num.rd,h.num.nc,h.num.cm⟩,⟨h.den.eb,h.den.en,key h.den.rd,h.den.nc,h.den.cm⟩⟩
theorem hU.keepsI{base':Nat}{hs:List Mh}(o:hU w base g hs M)(k:dZ yB base' 3 w w'):hU w' base g hs M:=
 ⟨k.blk _ _ _ o.top (by decide),o.len,o.gb,fun i h q hh hq=>by
  have r:=o.row i h q hh hq;refine⟨r.len,r.cap,r.cm,fun a p v hp hv=>(r.ok a p v hp hv).keepsI k,fun h0=>?_⟩;obtain⟨h1,h2,h3,cs,h4,h5⟩:=r.lies h0;exact⟨h1,h2,h3,cs,k.blk _ _ _ h4 (by decide),h5⟩,o.dis⟩
theorem aD.apart{t':Nat}{cs':Array Value}(h:aD w g t cs)(h':aD w g' t' cs')(ht:t≠t'):g≠g':=by
 rintro rfl;have h2:some (Obj.cells cs t (0,0))=some (Obj.cells cs' t' (0,0)):=h.symm.trans h';injection h2 with h2;injection h2 with _ h2;exact ht h2
theorem bO.far{S:Value->Prop}{size:Nat}{v u:Value}{xs:List Value}(h:bO S w base e size v n xs)(hb:aD w g t cs)(ht:e≠t):bO S (w.setCell ⟨g,i,none⟩ u) base e size v n xs:=by
 refine⟨h.1,?_⟩;rcases h.2 with h1 | ⟨b,cap,cur,h1,h2,h3,h4⟩
 ·exact .inl h1
 ·exact .inr ⟨b,cap,cur,h1,h2,h3.far (h3.apart hb ht) u,h4⟩
theorem bO.far4{S:Value->Prop}{size:Nat}{v:Value}{x:Rv}{xs:List Value}(h:bO S w base e size v n xs)(hb:aD w g t cs)(ht:e≠t):bO S (fY w g i x) base e size v n xs:=by
 have b1:=hb.set_ (i*4) (.bool x.b1);have b2:=b1.set_ (i*4+1) (.slice x.A x.n x.c);have b3:=b2.set_ (i*4+2) (.bool x.b2);exact(((h.far hb ht).far b1 ht).far b2 ht).far b3 ht
def kW(l:List Nat):List Value:=l.map fun(x:Nat)=>Value.int .i64 (x:Int)
def aNB(M:List (List Rat))(cols:Nat)(w:Wo)(e:Ending)(w':Wo):Prop:=Below w.heap.size w w'/\∃g hs v,e=.returned (.tuple #[.slice (some ⟨g,0,none⟩) M.length M.length,v])/\hU w' w.heap.size g hs (jK M cols).1/\bO yB w' w.heap.size 3 1 v (jK M cols).2.length (kW (jK M cols).2)
structure iD (B0 g:Nat) (w0 wr:Wo) (v:Value) (piv:List Nat) (hs:List Mh) (L:List (List Rat)):Prop where
 own:hU wr B0 g hs L
 pv:bO yB wr B0 3 1 v piv.length (kW piv)
 low:Below B0 w0 wr
section
variable {B0 g:Nat} {w0 wr w':Wo} {v:Value} {piv:List Nat} {hs:List Mh} {L:List (List Rat)}
theorem iD.le(m:iD B0 g w0 wr v piv hs L):B0<=wr.heap.size:=eN m.own.gb (qY m.own.top.lt)
theorem iD.up(m:iD B0 g w0 wr v piv hs L)(hb:Below wr.heap.size wr w'):iD B0 g w0 w' v piv hs L:=⟨m.own.up hb,m.pv.keep hb,m.low.trans (hb.mono m.le)⟩
theorem iD.put(m:iD B0 g w0 wr v piv hs L){h:Mh}{q:List Rat}{x:Rv}{y:Rat}(hh:hs[i]?=some h)(hq:L[i]?=some q)(hj:j<q.length)(hv:cY wr wr.heap.size y x):iD B0 g w0 (fY wr h.g j x) v piv (hs.set i ⟨h.A,h.g,h.c,h.vs.set j x⟩) (L.set i (q.set j y)):=by
 obtain⟨h1,h2,h3,cs,h4,h5⟩:=(m.own.row i h q hh hq).lies (by omega);exact⟨m.own.put hh hq hj hv,m.pv.far4 h4 (by decide),iU m.low h2⟩
theorem iD.swap(m:iD B0 g w0 wr v piv hs L){r p:Nat}{a b:List Rat}{ha hb:Mh}(h1:hs[r]?=some ha)(h2:hs[p]?=some hb)(h3:L[r]?=some a)(h4:L[p]?=some b):iD B0 g w0 ((wr.setCell ⟨g,r,none⟩ (.slice hb.A b.length hb.c)).setCell ⟨g,p,none⟩ (.slice ha.A a.length ha.c)) v piv ((hs.set r hb).set p ha) ((L.set r b).set p a):=
 ⟨m.own.swap h1 h2 h3 h4,(m.pv.far m.own.top (by decide)).far (m.own.top.set_ _ _) (by decide),(m.low.setCell m.own.gb _).setCell m.own.gb _⟩
theorem iD.elem(m:iD B0 g w0 wr v piv hs L){q:List Rat}(hq:L[i]?=some q)(hj:j<q.length):∃(gg c:Nat)(vs:List Rv)(x:Rv),hs[i]?=some ⟨some ⟨gg,0,none⟩,gg,c,vs⟩/\wr.cell? ⟨g,i,none⟩=some (.slice (some ⟨gg,0,none⟩) q.length c)/\vs[j]?=some x/\
    wr.cell? ⟨gg,j*4,none⟩=some (.bool x.b1)/\wr.cell? ⟨gg,j*4+1,none⟩=some (.slice x.A x.n x.c)/\wr.cell? ⟨gg,j*4+2,none⟩=some (.bool x.b2)/\wr.cell? ⟨gg,j*4+3,none⟩=some (.slice x.A2 x.m x.d)/\cY wr wr.heap.size (vf q j) x/\gg<wr.heap.size/\(∀o,wr.frozen? ⟨gg,o,none⟩=false)/\g≠gg:=by
 obtain⟨⟨A,gg,c,vs⟩,hh,hc,hr⟩:=m.own.get hq;obtain⟨h1,h2,h3,cs,h4,h5⟩:=hr.lies (by omega);simp only at h1 hc;subst h1;obtain⟨x,hx⟩:∃x,vs[j]?=some x:=eG (by have:=hr.len;simp only at this;omega);obtain⟨c0,c1,c2,c3⟩:=h4.row_cell h5 hx;exact⟨gg,c,vs,x,hh,hc,hx,c0,c1,c2,c3,hr.ok j _ x (bZ hj) hx,h4.lt,h4.frozen,fun e=>h3 e.symm⟩
end
theorem iD.elem2{B0:Nat}{w0:Wo}{v:Value}{piv:List Nat}{hs:List Mh}{L:List (List Rat)}(m:iD B0 g w0 wr v piv hs L){q:List Rat}{gg c:Nat}{vs:List Rv}{x:Rv}(hh:hs[i]?=some ⟨A,gg,c,vs⟩)(hq:L[i]?=some q)(hx:vs[j]?=some x):wr.cell? ⟨gg,j*4,none⟩=some (.bool x.b1)/\wr.cell? ⟨gg,j*4+1,none⟩=some (.slice x.A x.n x.c)/\wr.cell? ⟨gg,j*4+2,none⟩=some (.bool x.b2)/\wr.cell? ⟨gg,j*4+3,none⟩=some (.slice x.A2 x.m x.d)/\gg<wr.heap.size/\(∀o,wr.frozen? ⟨gg,o,none⟩=false):=by
 have hr:=m.own.row i _ q hh hq;have hxl:=(c_.1 hx).1;obtain⟨h1,h2,h3,cs,h4,h5⟩:=hr.lies (by have:=hr.len;simp only at this;omega);obtain⟨c0,c1,c2,c3⟩:=h4.row_cell h5 hx;exact⟨c0,c1,c2,c3,h4.lt,h4.frozen⟩
structure CI (wr:Wo) (g gd:Nat) (hs:List Mh) (y:Rat) (x:Rv):Prop where
 blk:aD wr gd 87 #[.bool x.b1,.slice x.A x.n x.c,.bool x.b2,.slice x.A2 x.m x.d]
 val:cY wr wr.heap.size y x
 far:∀(i:Nat)(h:Mh),hs[i]?=some h->0<h.vs.length->h.g<gd
theorem CI.up{gd:Nat}{hs:List Mh}{y:Rat}{x:Rv}(b:CI wr g gd hs y x)(hb:Below wr.heap.size wr w'):CI w' g gd hs y x:=⟨b.blk.bl hb,b.val.up hb,b.far⟩
theorem CI.put{B0 g2 gd:Nat}{w0:Wo}{v:Value}{piv:List Nat}{hs:List Mh}{L:List (List Rat)}{z:Rat}{x u:Rv}(b:CI wr g2 gd hs z u)(m:iD B0 g w0 wr v piv hs L){h:Mh}{q:List Rat}(hh:hs[i]?=some h)(hq:L[i]?=some q)(hj:j<q.length):CI (fY wr h.g j x) g2 gd (hs.set i ⟨h.A,h.g,h.c,h.vs.set j x⟩) z u:=by
 have hr:=m.own.row i h q hh hq;obtain⟨h1,h2,h3,cs,h4,h5⟩:=hr.lies (by omega);obtain⟨y,hy⟩:∃y,h.vs[j]?=some y:=eG (by rw[hr.len];exact hj);have aR:=b.far i h hh (by rw[hr.len];omega);refine⟨b.blk.far4 x (by omega),cY.keep4 b.val x h4 h5 hy,fun k h' hk l=>?_⟩;rw[List.getElem?_set] at hk;by_cases uU:i=k
 ·subst uU
  rw[if_pos rfl,if_pos (c_.1 hh).1] at hk;injection hk with hk;subst hk;exact aR
 ·rw[if_neg uU] at hk
  exact b.far k h' hk l
structure aCn (M:List (List Rat)) (N b cols k:Nat) (L:List (List Rat)) (piv:List Nat):Prop where
 ok:m8 M L N piv k
 bd:Bd (4^k*b) L
 go:kM (cols-k) L piv k=jK M cols
theorem D8:(Tryz.prog.info? 3).map (fun i=>(i.zero,i.size,i.bytes))=some (some (.int .i64 0),1,8):=by kernel_rfl
theorem aAO:∀u∈(Value.int .i64 0).cells.toList,yB u:=fun u hu=>by
 have hu':u∈[Value.int .i64 0]:=hu;rw[List.mem_singleton] at hu';exact⟨0,hu'⟩
theorem VC(A:OA)(n c cols N b:Nat)(M:List (List Rat))(w:Wo)(hR:lV w w.heap.size A n M)(hn:n<=1000000)(hw:∀a∈M,a.length=N)(hN:N<=1000000)(hc:cols<=N)(hb:Bd b M)(gP:4^cols*b<=4000000000000):Calls Tryz.prog 136 #[.slice A n c,.int .i64 (cols:Int)] w (aNB M cols w):=by
 obtain⟨HL,HW,B9,DJ⟩:=gO hR.len hw gP hb;have HCP:=lH (aE2 A n c M w hR hn (fun a ha=>by rw[hw a ha];exact hN));obtain⟨i0,jL,pF,kT,kS⟩:=info_parts D8;obtain⟨yT,xK,CE,CD⟩:=gO jL pF kT kS;clear hR hw hb gP jL pF kT kS;go_enter Tryz.func136,Tryz.ntmps136
 go_wp2_with fail
 refine HCP.o.mono ?_;clear HCP;rintro e w1 ⟨bG,g,hs,rfl,ho⟩;have cR:=lH bG;have zR:=lH ho;clear bG ho;rw[HL.o];generalize TU:w.heap.size=B0 at *;have cI:=lH TU;clear TU;have NZ:Hid (aCn M N b cols 0 M []):=lH ⟨xS HW.o,by simpa using DJ.o,rfl⟩;have HM0:Hid (iD B0 g w w1 (.slice none 0 0) [] hs M):=lH ⟨zR.o,g9 _ _ _ _ _,cR.o⟩;clear cR zR
 go_wp2_with fail
 go_loopw [6,7] (fun v6 v7 wr=>∃(k:Nat) (L:List (List Rat)) (piv:List Nat) (hs:List Mh),k<=cols/\v7=.int .i64 k/\aCn M N b cols k L piv/\iD B0 g w wr v6 piv hs L) (fun _ v7 _=>cols-(intOf v7).toNat)
 case atStart=>exact⟨0,M,[],hs,Nat.zero_le _,rfl,NZ.o,HM0.o⟩
 case round=>
  clear NZ HM0 hs;obtain⟨k,L,piv,hs,hk,rfl,OW,MY⟩:=hrel;have jE:=lH OW;have dH:=lH MY;have nD:Hid (L.length=n):=lH (OW.ok.len.trans HL.o);obtain⟨pA,pc,hv,hpc,hpm⟩:=MY.pv.shape;subst hv;clear OW MY;have gB:=lN k;have vJ:Hid (4^k*b<=4000000000000):=lH (eN (OQ hk b) B9.o);by_cases aR:k<cols
  ·have iM:(k:Int)<(cols:Int):=by omega
   have e_:Hid (cols-(k+1)<cols-k):=lH (by omega);by_cases tN:piv.length<n
   ·generalize hr:piv.length=r at *
    have KU:=lH hr;clear hr;have hrI:(r:Int)<(n:Int):=by omega
    go_wp2_with fail
    go_loopw [9] (fun v9 wr=>∃p:Nat,r<=p/\p<=n/\v9=.int .i64 p/\(∀(i:Nat)(b:List Rat),L[i]?=some b->r<=i->i<p->vf b k=0)/\iD B0 g w wr (.slice pA r pc) piv hs L) (fun v9 _=>n-(intOf v9).toNat)
    case atStart=>exact⟨r,lR,by omega,rfl,fun i b _ h1 h2=>by omega,dH.o⟩
    case round=>
     clear dH;obtain⟨p,hrp,hpn,rfl,hz,MY⟩:=hrel;have dH:=lH MY;have HZ:=lH hz;clear MY hz;by_cases hp:p<n
     ·obtain⟨q,hq⟩:∃q,L[p]?=some q:=eG (by have:=nD.o;omega)
      have pT:Hid (q.length=N):=lH (jE.o.ok.wid q (cS hq));obtain⟨gg,cc,vs,x,hh,c,hx,c0,c1,c2,c3,hv,l1,f1,cK⟩:=dH.o.elem (j:=k) hq (by have:=pT.o;omega);obtain⟨HQ,HH,HX,HV⟩:=gO hq hh hx hv;have hpI:(p:Int)<(n:Int):=by omega
      rw[pT.o] at c;have hkN:(k:Int)<(N:Int):=by omega
      clear hq hh hx hv;by_cases h0:vf q k=0
      ·have xJ:=lN p
       have pK:Hid (n-(p+1)<n-p):=lH (by omega);have HZ1:Hid (∀(i:Nat)(b:List Rat),L[i]?=some b->r<=i->i<p+1->vf b k=0):=lH fun i b h1 h2 h3=>by
        by_cases h4:i=p
        ·subst h4
         have h5:=HQ.o;rw[h1] at h5;injection h5 with h5;subst h5;exact h0
        ·exact HZ.o i b h1 h2 (by omega)
       (go_wp2_with fail);refine(xP HV.o).mono ?_;rw[h0];rintro e w5 ⟨rfl,eS⟩;have S9:=lH (dH.o.up eS);clear eS c c0 c1 c2 c3 l1 f1 dH h0;(go_wp2_with fail);go_roundw
       case rel=>exact⟨p+1,by omega,hp,aM xJ.o,HZ1.o,S9.o⟩
       case measure=>exact pK.o
      ·have Z9:Hid ((vf q k).num.sign≠0):=lH (fun h=>h0 (by
        have:=Int.sign_eq_zero_iff_zero.1 h;exact Rat.num_eq_zero.1 this))
       have HPV:Hid (kN L r k=p):=lH (aBl hrp HQ.o h0 HZ.o);have HNZ:Hid (vf q k≠0):=lH h0;clear h0;(go_wp2_with fail);refine(xP HV.o).mono ?_;generalize (vf q k).num.sign=sg at *;rintro e w5 ⟨rfl,eS⟩;have S9:=lH (dH.o.up eS);have hsg:(sg == 0)=false:=by have:=Z9.o;simp[this]
       have hpb:((p:Int) == (n:Int))=false:=by simp;omega
       clear eS c c0 c1 c2 c3 l1 f1 dH HZ cK;(go_wp2_with fail);obtain⟨qr,hqr⟩:∃qr,L[r]?=some qr:=eG (by have:=nD.o;omega);have tJ:Hid (qr.length=N):=lH (jE.o.ok.wid qr (cS hqr));obtain⟨⟨rA,rg,rc,rvv⟩,hhr,c1,-⟩:=S9.o.own.get hqr;obtain⟨_,hhp,c2,-⟩:=S9.o.own.get HQ.o;rw[HH.o] at hhp;injection hhp with hhp;subst hhp;have hsw:=S9.o.swap hhr HH.o hqr HQ.o;rw[tJ.o,pT.o] at hsw;rw[tJ.o] at c1;rw[pT.o] at c2;simp only at c1 c2 hsw;obtain⟨HQR,HHR,HSW⟩:=eR hqr hhr hsw;have gl:=S9.o.own.top.lt;have gf:=S9.o.own.top.frozen;obtain⟨uu,c3⟩:∃uu,(w5.setCell ⟨g,r,none⟩ (.slice (some ⟨gg,0,none⟩) N cc)).cell? ⟨g,p,none⟩=some uu:=by
        rw[(S9.o.own.top.set_ r _).cell];exact⟨_,Array.getElem?_eq_getElem (by simp;rw[S9.o.own.len,nD.o];exact hp)⟩
       clear hqr hhr hsw
       go_region
       clear c1 c2 c3 gl gf;generalize (w5.setCell ⟨g,r,none⟩ (.slice (some ⟨gg,0,none⟩) N cc)).setCell ⟨g,p,none⟩ (.slice rA N rc)=w6 at *;have HSL:Hid ((((L.set r q).set p qr).set r (f_ (vf q k) q))=cA L r p k):=lH (UQ HQR.o HQ.o);have HSR:Hid (((L.set r q).set p qr)[r]?=some q):=lH (aD2 HQR.o HQ.o);have T4:Hid (((L.set r q).set p qr).length=n):=lH (by rw[jI,jI,nD.o]);clear HHR HH HX S9 HV;generalize (L.set r q).set p qr=L1 at *;generalize (hs.set r _).set p _=pG at *;obtain⟨gg,cc,vs,x,hh,c,hx,c0,c1,c2,c3,hv,l1,f1,cK⟩:=HSW.o.elem (j:=k) HSR.o (by have:=pT.o;omega);have HV:=lH hv;have gl:=HSW.o.own.top.lt;have gf:=HSW.o.own.top.frozen;rw[pT.o] at c;clear hh hx hv;(go_upto_region 14 with fail);clear c0 c1 c2 c3 gl gf l1 f1 cK;have fR:Below w6.heap.size w6 (w6.alloc (.cells #[.bool x.b1,.slice x.A x.n x.c,.bool x.b2,.slice x.A2 x.m x.d] 87)).drew:=aH (bA);have fV:Hid (CI (w6.alloc (.cells #[.bool x.b1,.slice x.A x.n x.c,.bool x.b2,.slice x.A2 x.m x.d] 87)).drew g w6.heap.size pG (vf q k) x):=lH ⟨(aD.new w6 _ _).drew,HV.o.up fR,fun i h hh l=>HSW.o.own.lt hh l⟩;have HM7:Hid (iD B0 g w (w6.alloc (.cells #[.bool x.b1,.slice x.A x.n x.c,.bool x.b2,.slice x.A2 x.m x.d] 87)).drew (.slice pA r pc) piv pG (L1.set r (pR (vf q k) k k q))):=lH (by rw[NH,IL HSR.o];exact HSW.o.up fR);clear fR HSW HV;generalize (w6.alloc (.cells #[.bool x.b1,.slice x.A x.n x.c,.bool x.b2,.slice x.A2 x.m x.d] 87)).drew=w7 at *;generalize w6.heap.size=gd at *
       go_loopw [11] (fun v11 wr=>∃(j:Nat)(hs:List Mh),k<=j/\j<=N/\v11=.int .i64 j/\iD B0 g w wr (.slice pA r pc) piv hs (L1.set r (pR (vf q k) k j q))/\CI wr g gd hs (vf q k) x) (fun v11 _=>N-(intOf v11).toNat)
       case atStart=>exact⟨k,pG,lR,by omega,rfl,HM7.o,fV.o⟩
       case round=>
        clear HM7 fV pG;obtain⟨j,pG,M1,hjN,rfl,MY,X1⟩:=hrel;have dH:=lH MY;have fV:=lH X1;have HRJ:Hid ((L1.set r (pR (vf q k) k j q))[r]?=some (pR (vf q k) k j q)):=lH (by rw[List.getElem?_set_self (by rw[T4.o];exact tN)]);have HDL:Hid ((pR (vf q k) k j q).length=N):=lH (by rw[J3,pT.o]);clear MY X1;by_cases hj:j<N
        ·have hjI:(j:Int)<(N:Int):=by omega
         have xJ:=lN j;have pK:Hid (N-(j+1)<N-j):=lH (by omega);obtain⟨gg,cc,vs,y,hh,c,hx,c0,c1,c2,c3,hv,l1,f1,cK⟩:=dH.o.elem (j:=j) HRJ.o (by rw[HDL.o];exact hj);rw[HDL.o] at c;have gl:=dH.o.own.top.lt;obtain⟨b0,b1,b2,b3,bl⟩:=fV.o.blk.b4;have hvj:vf (pR (vf q k) k j q) j=vf q j:=sA (aB_ (bZ (by rw[pT.o];exact hj)));rw[hvj] at hv;obtain⟨HY,HH,HX⟩:=eR hv hh hx;clear hh hx hv hvj;have bH:=lH (aH (Below.refl wr.heap.size wr));(go_upto_region 16 with fail);refine rS 15 (fun hHeld=>?_);simp only[oO,List.take_zero];refine d7 [0,1,2,3,4,5,6,7,8,9,10,11,12] ?_;refine bI 13 (fun K hK=>?_);go_simp;refine(aIS (HY.o.up bH.o) (fV.o.val.up bH.o) HNZ.o (by have:=jE.o.bd.vf HQ.o (j:=j) (by rw[pT.o];exact hj);have:=jE.o.bd.vf HQ.o (j:=k) (by rw[pT.o];omega);have:=vJ.o;omega)).mono ?_;rintro e w8 ⟨mL,v8,rfl,h8⟩;have hX:=bX bH mL;have H8:=lH h8;clear mL h8;go_simp;refine iJ hK hX.o (fun hHeld=>?_);clear hK K;refine d7 [14] ?_;refine fZ ?_;clear hHeld;have sJ:=lH (dH.o.up hX.o);have SW:=lH (fV.o.up hX.o);clear c c0 c1 c2 c3 l1 f1 cK gl bl b0 b1 b2 b3 dH fV;obtain⟨c0,c1,c2,c3,l1,f1⟩:=sJ.o.elem2 HH.o HRJ.o HX.o;(go_wp2_with fail);go_roundw
         case rel=>exact⟨j+1,_,by omega,hj,aM xJ.o,by
          have h:=sJ.o.put HH.o HRJ.o (by rw[HDL.o];exact hj) H8.o;rw[List.set_set,SI M1 (bZ (by rw[pT.o];exact hj))] at h;exact h,SW.o.put sJ.o HH.o HRJ.o (by rw[HDL.o];exact hj)⟩
         case measure=>exact pK.o
        ·have aMu:j=N:=by omega
         subst aMu;have hjI:¬(j:Int)<(j:Int):=by omega
         have sJ:Hid (iD B0 g w wr (.slice pA r pc) piv pG (eO (cA L r p k) (f_ (vf q k) q) r k 0)):=lH (by
          rw[IO];have h:=dH.o;rw[show pR (vf q k) k j q=f_ (vf q k) q from by
           have:=YW (d:=vf q k) (IV jE.o.ok.ech HQ.o (by rw[KU.o];exact hrp));rw[pT.o] at this;exact this,HSL.o] at h
          exact h)
         obtain⟨ra,pH,c,-⟩:=dH.o.own.get HRJ.o;rw[HDL.o] at c;have gl:=dH.o.own.top.lt;(go_wp2_with fail);clear c gl pH dH fV HRJ HDL hjI;have tJ:Hid ((f_ (vf q k) q).length=j):=lH (by rw[iL,pT.o]);have HRZ:Hid (∀t,t<k->vf (f_ (vf q k) q) t=0):=lH fun t ht=>YT (IV jE.o.ok.ech HQ.o (by rw[KU.o];exact hrp) t ht) (by rw[pT.o];omega);have qV:Hid ((cA L r p k)[r]?=some (f_ (vf q k) q)):=lH (DW HQR.o HQ.o);have HPW:Hid (∀a∈cA L r p k,a.length=j):=lH (DV jE.o.ok.wid HQR.o HQ.o);have zQ:Hid ((cA L r p k).length=n):=lH (by rw[qJ,nD.o]);have HPE:Hid (eO (cA L r p k) (f_ (vf q k) q) r k n=dJ L r p k):=lH (by rw[<-nD.o];exact QU HQ.o);have HPB:Hid (∀(i t:Nat)(a:List Rat),i≠r->(cA L r p k)[i]?=some a->t<j->bM (vf a t)+1<=4000000000000):=lH fun i t a yL ha ht=>by
          obtain⟨s,hs,_⟩:=uA HQR.o HQ.o yL ha;have:=jE.o.bd.vf hs (j:=t) (by rw[jE.o.ok.wid a (cS hs)];exact ht);have:=vJ.o;omega
         have HPD:Hid (∀t,t<j->bM (vf (f_ (vf q k) q) t)+2<=8000000000000):=lH fun t ht=>by
          have:=YV jE.o.bd HQ.o (by rw[pT.o];omega) _ (cS (bZ (l:=f_ (vf q k) q) (i:=t) (by rw[tJ.o];exact ht)));have:=vJ.o;omega
         generalize cA L r p k=M2 at *;generalize f_ (vf q k) q=R at *;generalize wr=wz at *
         go_loopw [101] (fun v101 wr=>∃(i:Nat)(hs:List Mh),i<=n/\v101=.int .i64 i/\iD B0 g w wr (.slice pA r pc) piv hs (eO M2 R r k i)) (fun v101 _=>n-(intOf v101).toNat)
         case atStart=>exact⟨0,pG,Nat.zero_le _,rfl,sJ.o⟩
         case round=>
          clear sJ pG;obtain⟨i,pG,rH,rfl,MY⟩:=hrel;have dH:=lH MY;clear MY;by_cases hi:i<n
          ·have CZ:(i:Int)<(n:Int):=by omega
           have xJ:=lN i;have pK:Hid (n-(i+1)<n-i):=lH (by omega);by_cases yL:i=r
           ·subst yL
            (go_wp2_with fail);go_roundw
            case rel=>exact⟨i+1,pG,hi,aM xJ.o,by rw[AC];exact dH.o⟩
            case measure=>exact pK.o
           ·have hib:((i:Int) == (r:Int))=false:=by simp;omega
            obtain⟨row,kY⟩:∃row,M2[i]?=some row:=eG (by rw[zQ.o];exact hi);have m9:=lH kY;have DG:Hid (row.length=j):=lH (HPW.o row (cS kY));obtain⟨gg,cc,vs,y,hh,c,hx,c0,c1,c2,c3,hv,l1,f1,cK⟩:=dH.o.elem (j:=k) (tY kY) (by rw[DG.o];omega);rw[DG.o] at c;have HV:=lH hv;have gl:=dH.o.own.top.lt;clear hh hx hv kY;by_cases h0:vf row k=0
            ·have HSK:Hid (eO M2 R r k (i+1)=eO M2 R r k i):=lH (LX (by rw[tJ.o,DG.o]) m9.o h0)
             (go_wp2_with fail);refine(xP HV.o).mono ?_;rw[h0];rintro e w9 ⟨rfl,jQ⟩;have P2:=lH (dH.o.up jQ);clear jQ c c0 c1 c2 c3 l1 f1 cK gl dH h0;(go_wp2_with fail);go_roundw
             case rel=>exact⟨i+1,pG,hi,aM xJ.o,by rw[HSK.o];exact P2.o⟩
             case measure=>exact pK.o
            ·have Z9:Hid ((vf row k).num.sign≠0):=lH (fun h=>h0 (by
              have:=Int.sign_eq_zero_iff_zero.1 h;exact Rat.num_eq_zero.1 this))
             clear h0;(go_wp2_with fail);refine(xP HV.o).mono ?_;generalize (vf row k).num.sign=sg at *;rintro e w9 ⟨rfl,jQ⟩;have P2:=lH (dH.o.up jQ);have hsg:(sg == 0)=false:=by have:=Z9.o;simp[this]
             clear jQ c c0 c1 c2 c3 l1 f1 cK gl dH HV;obtain⟨gg,cc,vs,y,hh,c,hx,c0,c1,c2,c3,hv,l1,f1,cK⟩:=P2.o.elem (j:=k) (tY m9.o) (by rw[DG.o];omega);rw[DG.o] at c;have HV:=lH hv;have gl:=P2.o.own.top.lt;clear hh hx hv;(go_upto_region 23 with fail);clear c c0 c1 c2 c3 l1 f1 cK gl;have fR:=vM w9 (.cells #[.bool y.b1,.slice y.A y.n y.c,.bool y.b2,.slice y.A2 y.m y.d] 87);have fV:Hid (CI (w9.alloc (.cells #[.bool y.b1,.slice y.A y.n y.c,.bool y.b2,.slice y.A2 y.m y.d] 87)) g w9.heap.size pG (vf row k) y):=lH ⟨aD.new w9 _ _,HV.o.up fR,fun i h hh l=>P2.o.own.lt hh l⟩;have HM7:Hid (iD B0 g w (w9.alloc (.cells #[.bool y.b1,.slice y.A y.n y.c,.bool y.b2,.slice y.A2 y.m y.d] 87)) (.slice pA r pc) piv pG ((eO M2 R r k i).set i (k7 (vf row k) R k k row))):=lH (by rw[LT,IL (tY m9.o)];exact P2.o.up fR);have HXR:Hid ((eO M2 R r k i)[r]?=some R):=lH (aBc qV.o);have HXE:Hid ((eO M2 R r k i).set i (rQ (vf row k) R row)=eO M2 R r k (i+1)):=lH (AB yL m9.o);have Z1:Hid ((eO M2 R r k i).length=n):=lH (by rw[wG,zQ.o]);clear fR P2 HV;generalize eO M2 R r k i=X at *;generalize w9.alloc (.cells #[.bool y.b1,.slice y.A y.n y.c,.bool y.b2,.slice y.A2 y.m y.d] 87)=w10 at *;generalize w9.heap.size=gf at *;generalize wr=wy at *
             go_loopw [14] (fun v14 wr=>∃(t:Nat)(hs:List Mh),k<=t/\t<=j/\v14=.int .i64 t/\iD B0 g w wr (.slice pA r pc) piv hs (X.set i (k7 (vf row k) R k t row))/\CI wr g gf hs (vf row k) y) (fun v14 _=>j-(intOf v14).toNat)
             case atStart=>exact⟨k,pG,lR,by omega,rfl,HM7.o,fV.o⟩
             case round=>
              clear HM7 fV pG;obtain⟨t,pG,hkt,htj,rfl,MY,X1⟩:=hrel;have dH:=lH MY;have fV:=lH X1;have HTI:Hid ((X.set i (k7 (vf row k) R k t row))[i]?=some (k7 (vf row k) R k t row)):=lH (by rw[List.getElem?_set_self (by rw[Z1.o];exact hi)]);have HTR:Hid ((X.set i (k7 (vf row k) R k t row))[r]?=some R):=lH (by rw[List.getElem?_set_ne yL];exact HXR.o);have LF:Hid ((k7 (vf row k) R k t row).length=j):=lH (by rw[ID,DG.o]);clear MY X1;by_cases ht:t<j
              ·have htI:(t:Int)<(j:Int):=by omega
               have LH:=lN t;have N4:Hid (j-(t+1)<j-t):=lH (by omega);have HTV:Hid (vf (k7 (vf row k) R k t row) t=vf row t):=lH (sA (aA6 (bZ (by rw[DG.o];exact ht))));obtain⟨g2,cc2,vs2,z2,TR,e0,xV,e1,e2,e3,e4,jG,l2,f2,JD⟩:=dH.o.elem (j:=t) HTI.o (by rw[LF.o];exact ht);obtain⟨g3,cc3,vs3,z3,hh3,d0,RS,d1,d2,d3,d4,nB,l3,f3,aBS⟩:=dH.o.elem (j:=t) HTR.o (by rw[tJ.o];exact ht);rw[LF.o] at e0;rw[tJ.o] at d0;obtain⟨DF,HH2,eT,HH3,Z3⟩:=mP nB TR xV hh3 RS;have gl:=dH.o.own.top.lt;clear TR xV jG hh3 RS nB;by_cases h0:vf R t=0
               ·have HSK:Hid (k7 (vf row k) R k (t+1) row=k7 (vf row k) R k t row):=lH (QM h0)
                (go_wp2_with fail);refine(xP DF.o).mono ?_;rw[h0];rintro e w11 ⟨rfl,sW⟩;have yS:=lH (dH.o.up sW);have tH:=lH (fV.o.up sW);clear sW e0 e1 e2 e3 e4 l2 f2 JD d0 d1 d2 d3 d4 l3 f3 aBS gl dH fV h0;(go_wp2_with fail);go_roundw
                case rel=>exact⟨t+1,pG,by omega,ht,aM LH.o,by rw[HSK.o];exact yS.o,tH.o⟩
                case measure=>exact N4.o
               ·have Z9:Hid ((vf R t).num.sign≠0):=lH (fun h=>h0 (by
                 have:=Int.sign_eq_zero_iff_zero.1 h;exact Rat.num_eq_zero.1 this))
                clear h0;(go_wp2_with fail);refine(xP DF.o).mono ?_;generalize (vf R t).num.sign=sg2 at *;rintro e w11 ⟨rfl,sW⟩;have yS:=lH (dH.o.up sW);have tH:=lH (fV.o.up sW);have aSF:(sg2 != 0)=true:=by have:=Z9.o;simp[this]
                clear sW e0 e1 e2 e3 e4 l2 f2 JD d0 d1 d2 d3 d4 l3 f3 aBS gl dH fV DF HH2 eT HH3 Z3;obtain⟨g2,cc2,vs2,z2,TR,e0,xV,e1,e2,e3,e4,jG,l2,f2,JD⟩:=yS.o.elem (j:=t) HTI.o (by rw[LF.o];exact ht);obtain⟨g3,cc3,vs3,z3,hh3,d0,RS,d1,d2,d3,d4,nB,l3,f3,aBS⟩:=yS.o.elem (j:=t) HTR.o (by rw[tJ.o];exact ht);rw[LF.o] at e0;rw[tJ.o] at d0;rw[HTV.o] at jG;obtain⟨yQ,DF,HH2,eT⟩:=gO jG nB TR xV;have gl:=yS.o.own.top.lt;obtain⟨b0,b1,b2,b3,bl⟩:=tH.o.blk.b4;have bH:=lH (aH (Below.refl w11.heap.size w11));have HZ1:Hid (bM (vf row k)+1<=4000000000000):=lH (HPB.o i k row yL m9.o (by omega));have HZ2:Hid (bM (vf row t)+1<=4000000000000):=lH (HPB.o i t row yL m9.o ht);have HZ3:Hid (bM (vf R t)+2<=8000000000000):=lH (HPD.o t ht);clear TR xV jG hh3 RS nB;(go_upto_region 26 with fail);refine rS 23 (fun hHeld=>?_);simp only[oO,List.take_zero];refine d7 [0,1,2,3,4,5,6,7,8,9,10,11,12,13,14,15,16,17,18,19] ?_;refine bI 20 (fun K hK=>?_);go_simp;refine(WG (tH.o.val.up bH.o) (DF.o.up bH.o) (by have:=HZ1.o;have:=HZ3.o;omega)).mono ?_;rintro e w12 ⟨X7,v12,rfl,h12⟩;have CG:=bX bH X7;have H12:=lH h12;clear X7 h12;go_simp;refine iJ hK CG.o (fun hHeld=>?_);clear hK K;refine bI 21 (fun K hK=>?_);go_simp;refine(UT (yQ.o.up CG.o) H12.o (by have:=HZ1.o;have:=HZ3.o;have:=HZ2.o;have:=mV (vf row k) (vf R t);omega)).mono ?_;rintro e w13 ⟨aIJ,v13,rfl,h13⟩;have aCO:=bX CG aIJ;have H13:=lH h13;clear aIJ h13;go_simp;refine iJ hK aCO.o (fun hHeld=>?_);clear hK K;refine d7 [22] ?_;refine fZ ?_;clear hHeld;have aFM:=lH (yS.o.up aCO.o);have aFl:=lH (tH.o.up aCO.o);clear e0 e1 e2 e3 e4 l2 f2 JD d0 d1 d2 d3 d4 l3 f3 aBS gl bl b0 b1 b2 b3 yS tH bH CG aCO yQ DF H12;obtain⟨e1,e2,e3,e4,l2,f2⟩:=aFM.o.elem2 HH2.o HTI.o eT.o;(go_wp2_with fail);go_roundw
                case rel=>exact⟨t+1,_,by omega,ht,aM LH.o,by
                 have h:=aFM.o.put HH2.o HTI.o (by rw[LF.o];exact ht) H13.o;rw[List.set_set,QL hkt (bZ (by rw[DG.o];exact ht))] at h;exact h,aFl.o.put aFM.o HH2.o HTI.o (by rw[LF.o];exact ht)⟩
                case measure=>exact N4.o
              ·have aLU:t=j:=by omega
               subst aLU;have htI:¬(t:Int)<(t:Int):=by omega
               have yS:Hid (iD B0 g w wr (.slice pA r pc) piv pG (eO M2 R r k (i+1))):=lH (by
                have h:=dH.o;rw[show k7 (vf row k) R k t row=rQ (vf row k) R row from by
                 have:=UU (f:=vf row k) (R:=R) (row:=row) (by rw[tJ.o,DG.o]) HRZ.o;rw[DG.o] at this;exact this,HXE.o] at h
                exact h)
               obtain⟨ra2,pH,c,-⟩:=dH.o.own.get HTI.o;rw[LF.o] at c;have gl:=dH.o.own.top.lt;clear pH;(go_wp2_with fail);go_roundw
               case rel=>exact⟨i+1,pG,hi,aM xJ.o,yS.o⟩
               case measure=>exact pK.o
          ·have aMx:i=n:=by omega
           subst aMx;have CZ:¬(i:Int)<(i:Int):=by omega
           have sJ:Hid (iD B0 g w wr (.slice pA r pc) piv pG (dJ L r p k)):=lH (by rw[<-HPE.o];exact dH.o);have nC:Hid (aCn M j b cols (k+1) (dJ L r p k) (piv++[k])):=lH (by
            have cK:kN L piv.length k≠L.length:=by rw[KU.o,HPV.o,nD.o];omega
            have aHY:piv.length<L.length:=by rw[KU.o,nD.o];exact tN
            have h1:=jE.o.ok.step (by omega) aHY cK;rw[KU.o,HPV.o] at h1;refine⟨h1,?_,?_⟩
            ·rw[Nat.pow_succ,Nat.mul_comm (4^k) 4,Nat.mul_assoc]
             exact Y7 jE.o.bd jE.o.ok.wid HQR.o HQ.o (by omega)
            ·have h:=jE.o.go
             rw[show cols-k=(cols-(k+1))+1 from by omega,L0 (p:=p) aHY (by rw[KU.o];exact HPV.o) (by rw[nD.o];omega),KU.o] at h;exact h)
           have HPO:Hid (bO yB wr B0 3 1 (.slice pA r pc) r (kW piv)):=lH (by have h:=sJ.o.pv;rw[KU.o] at h;exact h);have xY:=sJ.o.le;clear dH;(go_upto_region 28 with fail)
           go_wp2_with (at_builtin;refine xM (S:=yB) rfl (.tmp 168) (.tmp 170) _ rfl B0 3 i0 _ 1 8 Tryz.underlying47 yT.o xK.o CE.o CD.o rfl (by omega) aAO (.slice pA r pc) r (kW piv) rfl HPO.o rfl rfl ?k1 ?k2 ?k3 xY ?_)
           case k1=>simp[Value.oneCell',yB]
           case k2=>simp only[maxLen];omega
           case k3=>omega
           intro v' w9 bB hk9 eA;have P2:Hid (iD B0 g w w9 v' (piv++[k]) pG (dJ L r p k)):=lH (by
            have jQ:=vM wr (.cells #[.int .i64 (k:Int)] 3);refine⟨(sJ.o.own.up jQ).keepsI hk9,?_,(sJ.o.low.trans (jQ.mono xY)).trans hk9.low⟩;rw[jO,List.length_singleton,KU.o];unfold kW;rw[List.map_append];exact bB)
           clear bB hk9 eA sJ HPO xY;(go_wp2_with fail);go_roundw
           case rel=>exact⟨k+1,_,_,pG,aR,aM gB.o,nC.o,P2.o⟩
           case measure=>exact e_.o
     ·have aL5:p=n:=by omega
      subst aL5;have hpI:¬(p:Int)<(p:Int):=by omega
      have HPV:Hid (kN L piv.length k=L.length):=lH (VM (by rw[nD.o,KU.o];exact hrp) (fun i b h1 h2=>HZ.o i b h1 (by rw[<-KU.o];exact h2) (by rw[<-nD.o];exact(c_.1 h1).1)));have nC:Hid (aCn M N b cols (k+1) L piv):=lH ⟨jE.o.ok.skip HPV.o,jE.o.bd.mono (OQ (Nat.le_succ k) b),by
       have h:=jE.o.go;rw[show cols-k=(cols-(k+1))+1 from by omega,L3 (by rw[nD.o,KU.o];exact tN) HPV.o] at h;exact h⟩
      (go_wp2_with fail);go_roundw
      case rel=>exact⟨k+1,L,piv,hs,aR,aM gB.o,nC.o,dH.o⟩
      case measure=>exact e_.o
   ·have hrI:¬(piv.length:Int)<(n:Int):=by omega
    have N8:Hid (jK M cols=(L,piv)):=lH (by rw[<-jE.o.go];exact L4 (by rw[nD.o];exact tN));generalize hr:piv.length=r at *;have KU:=lH hr;clear hr;(go_wp2_with fail);go_ret2;refine⟨by rw[cI.o];exact dH.o.low,g,hs,.slice pA r pc,by rw[HL.o];rfl,?_,?_⟩
    ·rw[N8.o,cI.o];exact dH.o.own
    ·rw[N8.o,cI.o];exact dH.o.pv
  ·have iM:¬(k:Int)<(cols:Int):=by omega
   have N8:Hid (jK M cols=(L,piv)):=lH (by
    rw[<-jE.o.go,show cols-k=0 from by omega];rfl)
   generalize hr:piv.length=r at *;have KU:=lH hr;clear hr;(go_wp2_with fail);go_ret2;refine⟨by rw[cI.o];exact dH.o.low,g,hs,.slice pA r pc,by rw[HL.o];rfl,?_,?_⟩
   ·rw[N8.o,cI.o];exact dH.o.own
   ·rw[N8.o,cI.o];exact dH.o.pv
structure aT7 (M:List (List Rat)) (N b:Nat):Prop where
 wid:∀a∈M,a.length=N
 bd:Bd b M
 sz:4^N*b<=4000000000000
 len:M.length<=1000000
 n:N<=1000000
end
section
open Go.ChangeShapes Go.WideShapes Go.ChangeAt Go.RowKit Go.Joins
theorem qD{ops:Array Oper}{rest:List Oper}{o:Oper}{a:Act}{Q:Exit->Act->World->Prop}{w:Wo}{T:TypeId}(C4:o.guard=none)(s x:Operand)(t:TypeId)(ho:o.op=.call { callee:=.builtin .append,args:=#[s,x],argTypes:=#[t,t] })(base:Nat)(ht:Tryz.prog.underlying t=some (.slice 87))(v:Value)(vs:List Rv)(qs:List Rat)(hs:a.eval s=v)(bB:dD w base v vs qs)(u:Rv)(q:Rat)(hq:cY w w.heap.size q u)(hx:a.eval x=.slice (some ⟨w.heap.size,0,none⟩) 1 1)(yO:qs.length<=1000000000000)(cP:base<=w.heap.size)(h:∀v' w',dD w' base v' (vs++[u]) (qs++[q])->dZ tQ base 87 (w.alloc (.cells #[.bool u.b1,.slice u.A u.n u.c,.bool u.b2,.slice u.A2 u.m u.d] T)) w'->Below base w w'->wpList Tryz.prog ops Q rest (a.put o.dst v') w'):wpList Tryz.prog ops Q (o::rest) a (w.alloc (.cells #[.bool u.b1,.slice u.A u.n u.c,.bool u.b2,.slice u.A2 u.m u.d] T)):=by
 obtain⟨i0,jL,pF,kT,kS⟩:=jW;have hl:=bB.len;refine xM (S:=tQ) C4 s x t ho base 87 i0 _ 4 64 ht jL pF kT kS rfl (by omega) qA v vs.length (eM vs) hs bB.own hx rfl (wE u) (by simp only[maxLen];omega) (by omega) cP fun v' w' h1 h2 _=>?_;have hb:=vM w (.cells #[.bool u.b1,.slice u.A u.n u.c,.bool u.b2,.slice u.A2 u.m u.d] T);exact h v' w' (dD.app (bB.keep hb) (hq.up hb) h1 h2) h2 ((hb.mono cP).trans h2.low)
end
