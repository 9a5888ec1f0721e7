import Derived.Test.YthgdchffeigkbaaGreatDoorW07
import Derived.Test.YthgdchffeigkbaaGreatDoorW08
import Derived.Laws.MakeOwn
set_option linter.unusedVariables false
set_option linter.unusedSimpArgs false
namespace Go.Proofs.YthgdchffeigkbaaGreatDoor
set_option maxHeartbeats 8000000
set_option maxRecDepth 100000
variable {A : OA} {B T base e g g' i j k m n t : Nat} {M : List (List Rat)} {cs : Array Value} {l : List UInt8} {p : Rat} {qs : List Rat} {s : ByteArray} {w w' wr : World}
section
open Go.ChangeShapes Go.WideShapes Go.ChangeAt Go.RowKit
attribute [local go_sem ↓] aE
attribute [local go_sem] aL aK aO a_
def jG(q:Rat):List UInt8:=jR q.num++(if q.den=1 then[] else 47::Lib.decDigits q.den)
def cH(q:Rat):Prop:=xU q.num.natAbs<=2000/\xU q.den<=2000
instance (q:Rat):Decidable (cH q):=by unfold cH;infer_instance
def aWI(q:Rat)(w:Wo)(e:Ending)(w':Wo):Prop:=Below w.heap.size w w'/\∃s,e=.returned (.tuple #[.string s,.bool (decide (cH q))])/\(cH q->s=⟨(jG q).toArray⟩)
theorem aAd(n:Nat):jR (n:Int)=Lib.decDigits n:=by unfold jR;rw[if_neg (Int.not_lt.2 (Int.natCast_nonneg n)),Int.natAbs_natCast,List.nil_append]
theorem aHL{z:Int}(h:xU z.natAbs<=2000):(jR z).length<=2001:=by
 unfold jR;unfold xU at h;rw[g_];split<;>simp<;>omega
theorem aAr(q:Rat)(b1:Bool)(A:OA)(n c:Nat)(b2:Bool)(A2:OA)(n2 c2:Nat)(w:Wo)(h1:cQ w w.heap.size q b1 A n c b2 A2 n2 c2)(ht:fL w):Calls Tryz.prog 71 #[.agg #[.bool b1,.slice A n c,.bool b2,.slice A2 n2 c2]] w (aWI q w):=by
 have eD:Hid (Below w.heap.size w (w.alloc (aY b1 A n c b2 A2 n2 c2))):=lH (bA);obtain⟨fB,H1,HT⟩:=dZ (aD.new w 115 #[.bool b1,.slice A n c,.bool b2,.slice A2 n2 c2]) (h1.up eD.o) (ht.up eD.o);clear h1 ht;go_enter Tryz.func71,Tryz.ntmps71
 go_upto_region 1 with fail
 generalize w.alloc (aY b1 A n c b2 A2 n2 c2)=W at *;obtain⟨p0,p1,pl⟩:=fB.o.b2
 go_wp2_with fail
 refine(C_ q.num b1 A n c W H1.o.num HT.o).mono ?_;rintro e w1 ⟨bO,s1,rfl,vH,kF⟩;have cI:=cJ eD bO;obtain⟨gG,H2,F2,F3⟩:=h_ (fB.o.bl bO) (H1.o.up bO) (HT.o.up bO) vH;clear bO p0 p1 pl vH eD fB H1 HT;by_cases BT:xU q.num.natAbs<=2000
 ·have YM:decide (xU q.num.natAbs<=2000)=true:=decide_eq_true BT
  have he1:=F3.o BT;subst he1;rw[YM];have HF1:=lH BT;clear YM BT;have p2:=gG.o.cell 2;have p3:=gG.o.cell 3;have pl:=gG.o.lt;(go_wp2_with fail);refine(C_ (q.den:Int) b2 A2 n2 c2 w1 H2.o.den F2.o).mono ?_;rintro e w2 ⟨bH,s2,he,yS,kE⟩;rw[Int.natAbs_natCast] at he yS;rw[aAd] at yS;subst he;have dN:=cJ cI bH;clear bH p2 p3 pl;by_cases wP:xU q.den<=2000
  ·have hd2:decide (xU q.den<=2000)=true:=decide_eq_true wP
   have he2:=yS wP;subst he2;have hF:cH q:=⟨HF1.o,wP⟩;have hFd:decide (cH q)=true:=decide_eq_true hF;have HFD:=lH hFd;have hq:((⟨(Lib.decDigits q.den).toArray⟩:ByteArray).toList == [49])=decide (q.den=1):=by
    rw[ByteArray.toList_eq,Bool.eq_iff_iff,beq_iff_eq,decide_eq_true_eq];exact N3
   rw[hd2];have hl1:(⟨(jR q.num).toArray⟩:ByteArray).size<=2001:=by rw[jS];exact aHL HF1.o
   have hl2:(⟨(Lib.decDigits q.den).toArray⟩:ByteArray).size<=2000:=by rw[jS];exact wP
   obtain⟨t1,qZ⟩:∃t:ByteArray,⟨(jR q.num).toArray⟩=t:=⟨_,rfl⟩;obtain⟨t2,t8⟩:∃t:ByteArray,⟨(Lib.decDigits q.den).toArray⟩=t:=⟨_,rfl⟩;have OV:=lH qZ;have aXf:=lH t8;rw[qZ] at hl1 ⊢;rw[t8] at hl2 hq ⊢;clear hd2 hF hFd wP yS qZ t8;by_cases J_:q.den=1
   ·have hd:decide (q.den=1)=true:=decide_eq_true J_
    rw[hd] at hq;have HTX:Hid (t1=⟨(jG q).toArray⟩):=lH (by unfold jG;rw[if_pos J_,List.append_nil];exact OV.o.symm);clear hd J_;(go_wp2_with fail);go_ret2;exact⟨dN.o,_,by rw[HFD.o];rfl,fun _=>HTX.o⟩
   ·have hd:decide (q.den=1)=false:=decide_eq_false J_
    rw[hd] at hq;have HTX:Hid (t1++⟨#[47]⟩++t2=⟨(jG q).toArray⟩):=lH (by
     unfold jG;rw[if_neg J_,<-OV.o,<-aXf.o];apply ByteArray.ext;simp)
    have kF:¬9223372036854775807<t1.size+1:=by omega
    have hz3:(t1++⟨#[47]⟩:ByteArray).size=t1.size+1:=by rw[ByteArray.size_append];rfl
    have kE:¬9223372036854775807<t1.size+1+t2.size:=by omega
    clear hd J_ hl1 hl2;(go_wp2_with fail);go_ret2;exact⟨dN.o,_,by rw[HFD.o];rfl,fun _=>HTX.o⟩
  ·have hd2:decide (xU q.den<=2000)=false:=decide_eq_false wP
   have hFd:decide (cH q)=false:=decide_eq_false fun h=>wP h.2;have HFD:=lH hFd;have HNF:Hid (¬cH q):=lH fun h=>wP h.2;rw[hd2];obtain⟨t1,qZ⟩:∃t:ByteArray,⟨(jR q.num).toArray⟩=t:=⟨_,rfl⟩;have hl1:t1.size<=3000:=by rw[<-qZ];exact kF
   rw[qZ];clear hd2 hFd wP yS qZ kF;have a2a:¬9223372036854775807<t1.size+1:=by omega
   have a19:(t1++⟨#[47]⟩:ByteArray).size=t1.size+1:=by rw[ByteArray.size_append];rfl
   have a1_:¬9223372036854775807<t1.size+1+s2.size:=by omega
   cases hq:(s2.toList == [49]) with
   | true=>
    (go_wp2_with fail);go_ret2;exact⟨dN.o,_,by rw[HFD.o];rfl,fun h=>absurd h HNF.o⟩
   | false=>
    (go_wp2_with fail);go_ret2;exact⟨dN.o,_,by rw[HFD.o];rfl,fun h=>absurd h HNF.o⟩
 ·have YM:decide (xU q.num.natAbs<=2000)=false:=decide_eq_false BT
  have hFd:decide (cH q)=false:=decide_eq_false fun h=>BT h.1;have HFD:=lH hFd;have HNF:Hid (¬cH q):=lH fun h=>BT h.1;rw[YM];clear YM hFd BT
  (go_wp2_with fail);go_ret2;exact⟨cI.o,_,by rw[HFD.o];rfl,fun h=>absurd h HNF.o⟩
end
section
def qA(l:List UInt8):Bool:=Lib.hasPrefix l [45]
def FB(l:List UInt8):Nat:=if J4 l then dv (sZ l) else 1
def lJ(l:List UInt8):Rat:=Rat.divInt (J5 (qA l) (uM l)) (FB l:Int)
theorem PY(h:dJ l=0):¬xC l/\¬zX l/\¬(J4 l=true/\zW l):=by
 unfold dJ at h;by_cases h5:xC l
 ·rw[if_pos h5] at h;cases h
 ·rw[if_neg h5] at h
  by_cases h2:zX l
  ·rw[if_pos h2] at h;cases h
  ·rw[if_neg h2] at h
   by_cases h3:J4 l=true/\zW l
   ·rw[if_pos h3] at h;cases h
   ·exact⟨h5,h2,h3⟩
theorem sG(l:List UInt8):l=(if qA l then[45] else[])++zV l:=by
 unfold qA zV Lib.trimPrefix;cases hp:Lib.hasPrefix l [45] with
 | false=>simp
 | true=>
  unfold Lib.hasPrefix at hp;cases l with
  | nil=>cases hp
  | cons c r=>
   have:c=45:=by
    simp[List.isPrefixOf] at hp;exact hp.symm
   subst this;simp
theorem aBw(l:List UInt8):l=(iN 47 l).1++(if(iN 47 l).2.2 then 47::(iN 47 l).2.1 else[]):=by
 cases h:(iN 47 l).2.2 with
 | true=>
  have:=(Y8 h).1;simpa using this
 | false=>
  obtain⟨_,h2⟩:=DK h;rw[h2];simp
theorem KY(l:List UInt8):zV l=uM l++(if J4 l then 47::sZ l else[]):=aBw (zV l)
theorem IY(h:EW l)(h0:dv l=0):l=[48]:=by
 have:=pQ h;rw[h0,eV (by decide)] at this;exact this.symm
theorem aBI(h:EW l)(h0:dv l=1):l=[49]:=by
 have:=pQ h;rw[h0,eV (by decide)] at this;exact this.symm
theorem M8(b:Bool)(l:List UInt8):(J5 b l).natAbs=dv l:=by unfold J5;cases b<;>simp
theorem DZ(h:dJ l=0):(lJ l).num=J5 (qA l) (uM l)/\(lJ l).den=FB l/\jG (lJ l)=l/\cH (lJ l)/\jY (uM l)/\jY (sZ l)/\(uM l).length<=2000/\(sZ l).length<=2000:=by
 obtain⟨h5,h2,h3⟩:=PY h;have hn:fS (uM l)=0:=Classical.byContradiction fun e=>h2 (.inl e);have hb:rtB l=0:=Classical.byContradiction fun e=>h2 (.inr e);obtain⟨hcn,hln⟩:=sL.1 hn;have hnz:uM l=[48]->qA l=false:=fun e=>by
  cases hg:qA l with
  | false=>rfl
  | true=>
   refine absurd (.inr (.inr ⟨e,?_⟩)) h5;have:=congrArg List.length (sG l);rw[hg,g_] at this;simp at this;omega
 have vI:J5 (qA l) (uM l)<0<->qA l=true:=by
  cases hg:qA l with
  | false=>simp[J5]
  | true=>
   have:dv (uM l)≠0:=fun e=>by
    have:=hnz (IY hcn e);rw[hg] at this;cases this
   simp[J5];omega
 have hD:(J4 l=true->EW (sZ l)/\(sZ l).length<=2000/\dv (sZ l)≠0/\dv (sZ l)≠1/\(dv (uM l)).gcd (dv (sZ l))=1)/\(J4 l=false->sZ l=[]):=by
  refine⟨fun hi=>?_,fun hi=>?_⟩
  ·have hd:fS (sZ l)=0:=by unfold rtB at hb;rw[hi] at hb;exact hb
   obtain⟨hcd,hld⟩:=sL.1 hd;have h33:¬zW l:=fun g=>h3 ⟨hi,g⟩;exact⟨hcd,hld,fun e=>h33 (.inl (IY hcd e)),fun e=>h33 (.inr (.inl (aBI hcd e))),Classical.byContradiction fun g=>h33 (.inr (.inr g))⟩
  ·have:=(DK (l:=zV l) hi).2
   unfold sZ;rw[this]
 have hg:(J5 (qA l) (uM l)).natAbs.gcd (FB l)=1:=by
  rw[M8];unfold FB;cases hi:J4 l with
  | true=>exact(hD.1 hi).2.2.2.2
  | false=>exact Nat.gcd_one_right _
 have hd0:FB l≠0:=by
  unfold FB;cases hi:J4 l with
  | true=>exact(hD.1 hi).2.2.1
  | false=>exact Nat.one_ne_zero
 obtain⟨e1,e2⟩:=CQ hd0 hg;have e1':(lJ l).num=J5 (qA l) (uM l):=e1;have e2':(lJ l).den=FB l:=e2;have hdd:jY (sZ l)/\(sZ l).length<=2000:=by
  cases hi:J4 l with
  | true=>exact⟨(hD.1 hi).1.2.1,(hD.1 hi).2.1⟩
  | false=>rw[hD.2 hi];exact⟨fun c hc=>(by cases hc),by simp⟩
 refine⟨e1',e2',?_,⟨?_,?_⟩,hcn.2.1,hdd.1,hln,hdd.2⟩
 ·unfold jG jR
  rw[e1',e2',M8,pQ hcn]
  conv=>rhs;rw[sG l,KY l]
  have hif:(if J5 (qA l) (uM l)<0 then[45] else([]:List UInt8))=if qA l=true then[45] else[]:=by
   cases lM:qA l with
   | true=>rw[lM] at vI;rw[if_pos (vI.2 rfl)];rfl
   | false=>rw[lM] at vI;rw[if_neg (fun g=>by have:=vI.1 g;cases this)];rfl
  rw[hif,List.append_assoc];congr 2
  unfold FB;cases hi:J4 l with
  | true=>
   obtain⟨g1,_,_,g4,_⟩:=hD.1 hi;simp only[if_true];rw[if_neg g4,pQ g1]
  | false=>simp
 ·rw[e1',M8];unfold xU;rw[pQ hcn];exact hln
 ·rw[e2']
  unfold FB;cases hi:J4 l with
  | true=>unfold xU;simp only[if_true];rw[pQ (hD.1 hi).1];exact(hD.1 hi).2.1
  | false=>show xU 1<=2000;decide+kernel
theorem TT(q:Rat):qA (jG q)=decide (q.num<0)/\uM (jG q)=Lib.decDigits q.num.natAbs/\J4 (jG q)=decide (q.den≠1)/\sZ (jG q)=if q.den=1 then[] else Lib.decDigits q.den:=by
 have hS:qA (jG q)=decide (q.num<0)/\zV (jG q)=Lib.decDigits q.num.natAbs++(if q.den=1 then[] else 47::Lib.decDigits q.den):=by
  unfold qA zV jG jR Lib.trimPrefix;by_cases h:q.num<0
  ·have hp:Lib.hasPrefix ((if q.num<0 then[45] else[])++Lib.decDigits q.num.natAbs++(if q.den=1 then[] else 47::Lib.decDigits q.den)) [45]=true:=by rw[if_pos h];simp[Lib.hasPrefix]
   rw[hp,decide_eq_true h,if_pos h];simp
  ·have hp:Lib.hasPrefix ((if q.num<0 then[45] else[])++Lib.decDigits q.num.natAbs++(if q.den=1 then[] else 47::Lib.decDigits q.den)) [45]=false:=by
    rw[if_neg h,List.nil_append];cases hl:Lib.decDigits q.num.natAbs with
    | nil=>have:=oG q.num.natAbs;rw[hl] at this;simp at this
    | cons c r=>
     have hc:=N5 q.num.natAbs c (by rw[hl];exact List.mem_cons_self ..);have:((45:UInt8) == c)=false:=by
      cases hb:((45:UInt8) == c) with
      | false=>rfl
      | true=>have:=eq_of_beq hb;subst this;exact absurd hc.1 (by decide)
     simp[Lib.hasPrefix,List.isPrefixOf,this]
   rw[hp,decide_eq_false h,if_neg h];simp
 have hno:(47:UInt8)∉Lib.decDigits q.num.natAbs:=fun h=>by
  have:=(N5 _ _ h).1;exact absurd this (by decide)
 unfold uM J4 sZ;rw[hS.2];refine⟨hS.1,?_⟩;by_cases h1:q.den=1
 ·rw[if_pos h1,List.append_nil,N6 hno,if_pos h1,decide_eq_false (by simpa using h1)]
  exact⟨rfl,rfl,rfl⟩
 ·rw[if_neg h1,R4 hno,if_neg h1,decide_eq_true h1]
  exact⟨rfl,rfl,rfl⟩
theorem aFT(h:xU n<=2000):fS (Lib.decDigits n)=0:=sL.2 ⟨aBJ n,h⟩
theorem TS{q:Rat}(h:cH q):dJ (jG q)=0/\lJ (jG q)=q:=by
 obtain⟨h1,h2,h3,h4⟩:=TT q;have hn:=aFT h.1;have hd:=aFT h.2;have hB:rtB (jG q)=0:=by
  unfold rtB;rw[h3,h4];by_cases g:q.den=1
  ·rw[decide_eq_false (by simpa using g)];rfl
  ·rw[decide_eq_true g,if_neg g];exact hd
 have h5:¬xC (jG q):=by
  unfold xC;rw[h2,hB,hn];rintro(g | g | ⟨g1,g2⟩)
  ·cases g
  ·cases g
  ·have:q.num.natAbs=0:=N4 (g1.trans (show[48]=Lib.decDigits 0 by rw[eV (by decide)];rfl))
   have oQ:¬q.num<0:=by omega
   have h6:=congrArg List.length (sG (jG q));rw[h1,decide_eq_false oQ,g_] at h6;simp at h6;omega
 have JQ:¬zX (jG q):=by
  unfold zX;rw[h2,hB,hn];simp
 have hp3:¬(J4 (jG q)=true/\zW (jG q)):=by
  rintro⟨g,g3⟩;rw[h3,decide_eq_true_eq] at g;unfold zW at g3;rw[h2,h4,if_neg g,y9,y9] at g3;rcases g3 with g3 | g3 | g3
  ·have:=N4 (g3.trans (show[48]=Lib.decDigits 0 by rw[eV (by decide)];rfl))
   exact q.den_nz this
  ·exact g (N3.1 g3)
  ·exact g3 q.reduced
 refine⟨by unfold dJ;rw[if_neg h5,if_neg JQ,if_neg hp3],?_⟩;unfold lJ FB;rw[h1,h2,h3,h4];have e1:J5 (decide (q.num<0)) (Lib.decDigits q.num.natAbs)=q.num:=by
  unfold J5;rw[y9];by_cases g:q.num<0
  ·rw[decide_eq_true g];simp only[if_true];omega
  ·rw[decide_eq_false g];simp only[Bool.false_eq_true,if_false];omega
 rw[e1];by_cases g:q.den=1
 ·rw[decide_eq_false (by simpa using g)]
  have:=AB q;rw[g] at this;exact this
 ·rw[decide_eq_true g,if_neg g,y9]
  exact AB q
end
section
open Go.ChangeShapes Go.WideShapes Go.ChangeAt Go.RowKit
attribute [local go_sem ↓] aE
attribute [local go_sem] aL aK aO
theorem aFU(b:Bool)(s:List UInt8):iN 47 ((if b then[45] else[])++s)=((if b then[45] else[])++(iN 47 s).1,(iN 47 s).2.1,(iN 47 s).2.2):=by
 cases b with
 | false=>simp
 | true=>simp[iN]
theorem aBv(l:List UInt8):iN 47 l=((if qA l then[45] else[])++uM l,sZ l,J4 l):=by
 have:=aFU (qA l) (zV l);rwa[<-sG l] at this
theorem K_(l:List UInt8)(h:dJ l=0)(w:Wo):Calls Tryz.prog 67 #[.string ⟨l.toArray⟩] w (RtP (lJ l) w):=by
 obtain⟨v1,v2,_,_,v3,v4,v5,v6⟩:=DZ h;obtain⟨pL,yA,DR,ZP⟩:=h_ v1 v2 v3 v4;have TF:Hid ((uM l).length<=1000000):=lH (by omega);have HV6:Hid ((sZ l).length<=1000000):=lH (by omega);have hll:l.length<=9223372036854775807:=by
  have h1:=congrArg List.length (sG l);have h2:=congrArg List.length (KY l);rw[g_] at h1 h2;have h3:(if qA l then[45] else([]:List UInt8)).length<=1:=by split<;>simp
  have h4:(if J4 l then 47::sZ l else[]).length<=(sZ l).length+1:=by split<;>simp
  omega
 have eD:Hid (Below w.heap.size w (w.alloc dR)):=lH (bA);have HR:Hid (aD (w.alloc dR) w.heap.size 115 #[.bool false,.slice none 0 0,.bool false,.slice none 0 0]):=lH (aD.new w _ _);have mO:w.heap.size<=w.heap.size:=lR;clear v1 v2 v3 v4 v5 v6 h;go_enter Tryz.func67,Tryz.ntmps67
 go_upto_region 1 with fail
 generalize (w.alloc dR)=W at *
 go_wp2_with fail
 refine(Y7 47 l hll W).mono ?_;rintro e w1 ⟨he,bO⟩;rw[aBv l] at he;have cI:=cJ eD bO;have BK:=lH (HR.o.bl bO);obtain⟨is,his⟩:∃i,J4 l=i:=⟨_,rfl⟩;have HI:=lH his;simp only[his] at he;subst he;clear bO eD HR his hll;obtain⟨tn,htn⟩:∃t:ByteArray,rdT (qA l) (uM l)=t:=⟨_,rfl⟩;obtain⟨td,htd⟩:∃t:ByteArray,rdT false (sZ l)=t:=⟨_,rfl⟩;have c1:∀w,Calls Tryz.prog 113 #[.string tn] w (LgP (J5 (qA l) (uM l)) w):=fun w=>by rw[<-htn];exact z_ _ _ DR.o TF.o w
 have c2:∀w,Calls Tryz.prog 113 #[.string td] w (LgP (J5 false (sZ l)) w):=fun w=>by rw[<-htd];exact z_ _ _ ZP.o HV6.o w
 have e1:(⟨((if qA l=true then[45] else[])++uM l).toArray⟩:ByteArray)=tn:=htn;have e2:(⟨(sZ l).toArray⟩:ByteArray)=td:=htd;rw[e1,e2];clear e1 e2;have C1:=lH c1;have C2:=lH c2;clear htn htd c1 c2;cases is with
 | false=>
  have HD:Hid ((lJ l).den=1):=lH (by rw[yA.o];unfold FB;rw[HI.o];rfl);(go_wp2_with fail);refine(C1.out w1).mono ?_;rintro e w2 ⟨bH,f5,C5,i5,j5,rfl,h5⟩;have dN:=cJ cI bH;have BV:=lH (BK.o.bl bH);have H5:=lH h5;clear bH h5 cI BK;(go_wp2_with fail);refine(yJ 1 w2 (by decide) (by decide)).mono ?_;rintro e w3 ⟨dK,f6,C6,i6,j6,rfl,h6⟩;have fV:=cJ dN dK;have MK:=lH (BV.o.bl dK);have HQ:Hid (cQ w3 w3.heap.size (lJ l) f5 C5 i5 j5 f6 C6 i6 j6):=lH ⟨by rw[pL.o];exact H5.o.up dK,by rw[HD.o];exact h6⟩;clear dK h6 dN BV H5;obtain⟨z0,z1,z2,z3,zf,zl⟩:=MK.o.e4;(go_wp2_with fail);generalize fG:(((w3.setCell ⟨_,0,none⟩ _).setCell ⟨_,1,none⟩ _).setCell ⟨_,2,none⟩ _).setCell ⟨_,3,none⟩ _=W9;have iZ:=lH (nF (e:=.returned (.agg #[.bool f5,.slice C5 i5 j5,.bool f6,.slice C6 i6 j6])) fV.o mO MK.o (by simp) (by simp) (by simp) (by simp) HQ.o rfl);rw[fG] at iZ;have fH:Hid (aD W9 _ 115 #[.bool f5,.slice C5 i5 j5,.bool f6,.slice C6 i6 j6]):=lH (by rw[<-fG];exact fU MK.o);clear fG z0 z1 z2 z3 zf zl;obtain⟨q0,q1,q2,q3⟩:=fH.o.a4;exact bodyPost_ret (v:=.agg #[.bool f5,.slice C5 i5 j5,.bool f6,.slice C6 i6 j6]) (by simp[results,Tryz.results67,go_sem,q0,q1,q2,q3]) rfl iZ.o
 | true=>
  have HD:Hid (((lJ l).den:Int)=J5 false (sZ l)):=lH (by rw[yA.o];unfold FB;rw[HI.o];rfl);(go_wp2_with fail);refine(C1.out w1).mono ?_;rintro e w2 ⟨bH,f5,C5,i5,j5,rfl,h5⟩;have dN:=cJ cI bH;have BV:=lH (BK.o.bl bH);have H5:=lH h5;clear bH h5 cI BK;(go_wp2_with fail);refine(C2.out w2).mono ?_;rintro e w3 ⟨dK,f6,C6,i6,j6,rfl,h6⟩;have fV:=cJ dN dK;have MK:=lH (BV.o.bl dK);have HQ:Hid (cQ w3 w3.heap.size (lJ l) f5 C5 i5 j5 f6 C6 i6 j6):=lH ⟨by rw[pL.o];exact H5.o.up dK,by rw[HD.o];exact h6⟩;clear dK h6 dN BV H5;obtain⟨z0,z1,z2,z3,zf,zl⟩:=MK.o.e4;(go_wp2_with fail);generalize fG:(((w3.setCell ⟨_,0,none⟩ _).setCell ⟨_,1,none⟩ _).setCell ⟨_,2,none⟩ _).setCell ⟨_,3,none⟩ _=W9;have iZ:=lH (nF (e:=.returned (.agg #[.bool f5,.slice C5 i5 j5,.bool f6,.slice C6 i6 j6])) fV.o mO MK.o (by simp) (by simp) (by simp) (by simp) HQ.o rfl);rw[fG] at iZ;have fH:Hid (aD W9 _ 115 #[.bool f5,.slice C5 i5 j5,.bool f6,.slice C6 i6 j6]):=lH (by rw[<-fG];exact fU MK.o);clear fG z0 z1 z2 z3 zf zl;obtain⟨q0,q1,q2,q3⟩:=fH.o.a4;exact bodyPost_ret (v:=.agg #[.bool f5,.slice C5 i5 j5,.bool f6,.slice C6 i6 j6]) (by simp[results,Tryz.results67,go_sem,q0,q1,q2,q3]) rfl iZ.o
end
section
open Go.ChangeShapes Go.WideShapes Go.ChangeAt Go.RowKit
attribute [local go_sem ↓] aE
attribute [local go_sem] aL aK aO a_
structure Rv where
 b1:Bool
 A:OA
 n:Nat
 c:Nat
 b2:Bool
 A2:OA
 m:Nat
 d:Nat
def Rv.cells(v:Rv):List Value:=[.bool v.b1,.slice v.A v.n v.c,.bool v.b2,.slice v.A2 v.m v.d]
def BQ:Rv:=⟨false,none,0,0,false,none,0,0⟩
def cU(w:Wo)(B:Nat)(q:Rat)(v:Rv):Prop:=cQ w B q v.b1 v.A v.n v.c v.b2 v.A2 v.m v.d
theorem Rv.len(v:Rv):v.cells.length=4:=rfl
def fI(vs:List Rv):List Value:=vs.flatMap Rv.cells
theorem dW(vs:List Rv):(fI vs).length=vs.length*4:=qN Rv.len vs
theorem tI{vs:List Rv}{v:Rv}(h:vs[i]?=some v)(k:Nat)(hk:k<4):(fI vs)[i*4+k]?=v.cells[k]?:=kG Rv.len vs i v h k hk
theorem FO:∀(vs:List Rv)(i:Nat)(v:Rv),i<vs.length->((((fI vs).set (i*4) (.bool v.b1)).set (i*4+1) (.slice v.A v.n v.c)).set (i*4+2) (.bool v.b2)).set (i*4+3) (.slice v.A2 v.m v.d)=fI (vs.set i v)
 | [],i,v,h=>by simp at h
 | x::r,0,v,_=>by simp[fI,Rv.cells]
 | x::r,i+1,v,h=>by
  have ih:=FO r i v (by simpa using h);have e:fI (x::r)=x.cells++fI r:=by simp[fI]
  have e2:fI ((x::r).set (i+1) v)=x.cells++fI (r.set i v):=by simp[fI]
  have st:∀(l:List Value)(k:Nat)(u:Value),(x.cells++l).set (k+4) u=x.cells++l.set k u:=fun l k u=>by
   rw[List.set_append_right _ _ (by rw[Rv.len];omega),Rv.len,Nat.add_sub_cancel]
  rw[e,e2,<-ih,show(i+1)*4=i*4+4 from by omega,show i*4+4+1=i*4+1+4 from by omega,show i*4+4+2=i*4+2+4 from by omega,show i*4+4+3=i*4+3+4 from by omega,st,st,st,st]
theorem FP:∀n:Nat,fI (List.replicate n BQ)=(List.replicate n BQ.cells).flatten
 | 0=>rfl
 | n+1=>by
  rw[List.replicate_succ,List.replicate_succ,List.flatten_cons,<-FP n];simp[fI]
theorem aF6{vs:List Rv}(h:aD w g t (fI vs).toArray)(hi:i<vs.length)(v:Rv):aD ((((w.setCell ⟨g,i*4,none⟩ (.bool v.b1)).setCell ⟨g,i*4+1,none⟩ (.slice v.A v.n v.c)).setCell ⟨g,i*4+2,none⟩ (.bool v.b2)).setCell ⟨g,i*4+3,none⟩ (.slice v.A2 v.m v.d)) g t (fI (vs.set i v)).toArray:=by
 have key:∀(w:Wo)(l:List Value)(k:Nat)(u:Value),aD w g t l.toArray->aD (w.setCell ⟨g,k,none⟩ u) g t (l.set k u).toArray:=fun w l k u hb=>hb.set_at u (by simp);rw[<-FO vs i v hi];exact key _ _ _ _ (key _ _ _ _ (key _ _ _ _ (key _ _ _ _ h)))
theorem MZ{vs:List Rv}{v:Rv}(h:aD w g t (fI vs).toArray)(hv:vs[i]?=some v):w.cell? ⟨g,i*4,none⟩=some (.bool v.b1)/\w.cell? ⟨g,i*4+1,none⟩=some (.slice v.A v.n v.c)/\w.cell? ⟨g,i*4+2,none⟩=some (.bool v.b2)/\w.cell? ⟨g,i*4+3,none⟩=some (.slice v.A2 v.m v.d):=by
 have k:=fun j hj=>tI hv j hj;refine⟨?_,?_,?_,?_⟩<;>rw[h.cell]
 ·have:=k 0 (by decide);simpa[Rv.cells] using this
 ·have:=k 1 (by decide);simpa[Rv.cells] using this
 ·have:=k 2 (by decide);simpa[Rv.cells] using this
 ·have:=k 3 (by decide);simpa[Rv.cells] using this
theorem cQ.keep4{q:Rat}{b1:Bool}{c:Nat}{b2:Bool}{A2:OA}{d:Nat}(h:cQ w w.heap.size q b1 A n c b2 A2 m d){vs:List Rv}{x v:Rv}(hb:aD w g t (fI vs).toArray)(hx:vs[i]?=some x):cQ ((((w.setCell ⟨g,i*4,none⟩ (.bool v.b1)).setCell ⟨g,i*4+1,none⟩ (.slice v.A v.n v.c)).setCell ⟨g,i*4+2,none⟩ (.bool v.b2)).setCell ⟨g,i*4+3,none⟩ (.slice v.A2 v.m v.d)) ((((w.setCell ⟨g,i*4,none⟩ (.bool v.b1)).setCell ⟨g,i*4+1,none⟩ (.slice v.A v.n v.c)).setCell ⟨g,i*4+2,none⟩ (.bool v.b2)).setCell ⟨g,i*4+3,none⟩ (.slice v.A2 v.m v.d)).heap.size q b1 A n c b2 A2 m d:=by
 obtain⟨c0,c1,c2,c3⟩:=MZ hb hx;have ne:∀(a b:Nat),a≠b->(⟨g,a,none⟩:Addr)≠⟨g,b,none⟩:=fun a b h e=>h (by injection e);have off:∀(w:Wo)(a b:Nat)(u v:Value),a≠b->w.cell? ⟨g,b,none⟩=some v->(w.setCell ⟨g,a,none⟩ u).cell? ⟨g,b,none⟩=some v:=fun w a b u v lO hv=>by
  rw[World.cell?_setCell_other _ _ _ _ (ne a b lO)];exact hv
 refine(((h.keep c0 (by simp) _).keep (off _ _ _ _ _ (by omega) c1) (by simp) _).keep (off _ _ _ _ _ (by omega) (off _ _ _ _ _ (by omega) c2)) (by simp) _).keep (off _ _ _ _ _ (by omega) (off _ _ _ _ _ (by omega) (off _ _ _ _ _ (by omega) c3))) (by simp) _
def iE(w:Wo)(B:Nat)(A:OA)(n:Nat)(qs:List Rat):Prop:=∃vs:List Rv,vs.length=n/\qs.length=n/\Rd w B 4 A n (fI vs)/\∀(i:Nat)(q:Rat)(v:Rv),qs[i]?=some q->vs[i]?=some v->cU w B q v
section
variable {w w':Wo} {B B' n:Nat} {A:OA} {qs:List Rat}
theorem iE.below(h:iE w B A n qs)(hb:Below B' w w')(hB:B<=B'):iE w' B A n qs:=by
 obtain⟨vs,h1,h2,h3,h4⟩:=h;exact⟨vs,h1,h2,h3.below hb hB,fun i q v hq hv=>cQ.below (h4 i q v hq hv) hb hB⟩
theorem iE.more(h:iE w B A n qs)(hB:B<=B'):iE w B' A n qs:=by
 obtain⟨vs,h1,h2,h3,h4⟩:=h;exact⟨vs,h1,h2,h3.more hB,fun i q v hq hv=>cQ.more (h4 i q v hq hv) hB⟩
theorem iE.up(h:iE w w.heap.size A n qs)(hb:Below w.heap.size w w'):iE w' w'.heap.size A n qs:=(h.below hb lR).more hb.size
theorem iE.len(h:iE w B A n qs):qs.length=n:=by obtain⟨_,_,h,_⟩:=h;exact h
theorem iE.form(h:iE w B A n qs)(h0:0<n):∃b off,A=some ⟨b,off,none⟩/\b<B:=by
 obtain⟨vs,_,_,h3,_⟩:=h;obtain⟨b,off,e,aR,_⟩:=h3.2 h0;exact⟨b,off,e,aR⟩
theorem iE.at_{b off:Nat}{q:Rat}(h:iE w B (some ⟨b,off,none⟩) n qs)(hq:qs[i]?=some q):∃v:Rv,w.cell? ⟨b,off+i*4,none⟩=some (.bool v.b1)/\w.cell? ⟨b,off+i*4+1,none⟩=some (.slice v.A v.n v.c)/\w.cell? ⟨b,off+i*4+2,none⟩=some (.bool v.b2)/\w.cell? ⟨b,off+i*4+3,none⟩=some (.slice v.A2 v.m v.d)/\cU w B q v:=by
 obtain⟨vs,h1,h2,h3,h4⟩:=h;have hi:=(cY.1 hq).1;obtain⟨v,hv⟩:∃v,vs[i]?=some v:=eE (by omega);obtain⟨b',off',e,_,hc⟩:=h3.2 (by omega);injection e with e;injection e with e1 e2;subst e1;subst e2;have k:=fun j hj=>tI hv j hj;refine⟨v,?_,?_,?_,?_,h4 i q v hq hv⟩
 ·have:=hc (i*4) (.bool v.b1) (by have:=k 0 (by decide);simpa[Rv.cells] using this);exact this
 ·have:=hc (i*4+1) (.slice v.A v.n v.c) (by have:=k 1 (by decide);simpa[Rv.cells] using this);exact this
 ·have:=hc (i*4+2) (.bool v.b2) (by have:=k 2 (by decide);simpa[Rv.cells] using this);exact this
 ·have:=hc (i*4+3) (.slice v.A2 v.m v.d) (by have:=k 3 (by decide);simpa[Rv.cells] using this);exact this
theorem XW{vs:List Rv}(h:aD w g t (fI vs).toArray)(hn:vs.length=n)(hq:qs.length=n)(hv:∀(i:Nat)(q:Rat)(v:Rv),qs[i]?=some q->vs[i]?=some v->cU w w.heap.size q v):iE w w.heap.size (some ⟨g,0,none⟩) n qs:=
 ⟨vs,hn,hq,⟨by rw[dW,hn],fun _=>⟨g,0,rfl,h.lt,fun j u hu=>by
  rw[show(⟨g,0+j,none⟩:Addr)=⟨g,j,none⟩ from by simp,h.cell j];simpa using hu⟩⟩,hv⟩
end
theorem QS:(Tryz.prog.info? 115).map (fun i=>(i.zero,i.size,i.bytes))=some (some (.agg #[.bool false,.slice none 0 0,.bool false,.slice none 0 0]),4,64):=by kernel_rfl
theorem aPx(n:Nat):madeCells #[Value.bool false,.slice none 0 0,.bool false,.slice none 0 0] (n*4)=(fI (List.replicate n BQ)).toArray:=by
 apply Array.ext';rw[List.toList_toArray,FP];apply List.ext_getElem?;intro j;by_cases hj:j<n*4
 ·have h1:(madeCells #[Value.bool false,.slice none 0 0,.bool false,.slice none 0 0] (n*4)).toList[j]?=some (#[Value.bool false,.slice none 0 0,.bool false,.slice none 0 0][j % 4]!):=by
   simp[madeCells,hj]
  have h2:(fI (List.replicate n BQ))[j / 4*4+j % 4]?=BQ.cells[j % 4]?:=tI (by rw[List.getElem?_replicate,if_pos (by omega)]) _ (by omega);rw[Nat.div_add_mod' j 4,FP] at h2;rw[h1,h2];have:j % 4=0\/j % 4=1\/j % 4=2\/j % 4=3:=by omega
  rcases this with e | e | e | e<;>rw[e]<;>rfl
 ·rw[List.getElem?_eq_none (by simp[madeCells];omega),List.getElem?_eq_none (by rw[<-FP,dW,qV];omega)]
theorem G7(n:Nat)(hn:n<=1000000)(w:Wo):(Instr.makeSlice 93 (.int .i64 (n:Int)) (.int .i64 (n:Int))).run Tryz.prog w=.ok (.slice (some ⟨w.heap.size,0,none⟩) n n) (w.alloc (.cells (fI (List.replicate n BQ)).toArray 115)):=by
 obtain⟨i0,iW,qY,kF,kE⟩:=info_parts QS;rw[run_make w 93 115 i0 _ Tryz.underlying93 iW qY .i64 .i64 (n:Int) (n:Int) (by omega) (Int.le_refl _) (by rw[kE];omega) (by omega),jM,kF];rw[show(Value.agg #[Value.bool false,.slice none 0 0,.bool false,.slice none 0 0]).cells=#[Value.bool false,.slice none 0 0,.bool false,.slice none 0 0] from rfl,aPx]
def gF:List ByteArray->Int
 | []=>0
 | s::r=>if dJ s.data.toList=0 then gF r else dJ s.data.toList
theorem MD:∀{l:List ByteArray},gF l=0<->∀s∈l,dJ s.data.toList=0
 | []=>by simp[gF]
 | s::r=>by
  unfold gF;by_cases h:dJ s.data.toList=0
  ·rw[if_pos h,MD]
   simp[h]
  ·rw[if_neg h]
   simp[h]
theorem SB{l:List ByteArray}(h:l[k]?=some s):gF (l.drop k)=if dJ s.data.toList=0 then gF (l.drop (k+1)) else dJ s.data.toList:=by
 rw[bX h];rfl
theorem aBC(A:OA)(n c:Nat)(ss:List ByteArray)(w:Wo)(hR:bD w w.heap.size A n ss)(hs:∀s∈ss,s.size<=maxLen)(hn:n<=9223372036854775807)(ht:fL w):Calls Tryz.prog 105 #[.slice A n c] w fun e w'=>e=.returned (.int .i64 (gF ss))/\Below w.heap.size w w':=by
 obtain⟨HR,HS,HT,HL⟩:=h_ hR hs ht hR.1;clear hR hs ht;go_enter Tryz.func105,Tryz.ntmps105
 go_wp2_with fail
 go_loopw [4,5,8] (fun _ _ i wr=>∃k:Nat,k<=n/\i=.int .i64 k/\gF ss=gF (ss.drop k)/\Below w.heap.size w wr) (fun _ _ i _=>n-(intOf i).toNat)
 case atStart=>exact⟨0,by omega,rfl,rfl,bR⟩
 case round=>
  obtain⟨k,hk,rfl,oR,hb⟩:=hrel;have HG:=lH oR;have HB:=lH hb;clear oR hb;by_cases aR:k<n
  ·obtain⟨s,hs⟩:∃s,ss[k]?=some s:=eE (by have:=HL.o;omega)
   obtain⟨b,o,hA,hb⟩:=(HR.o.below HB.o lR).form (by omega);subst hA;have hc:=(HR.o.below HB.o lR).at_ hs;have HD:=lH (SB hs);have eC:=lH (HS.o s (bS hs));have f_:(k:Int)<(n:Int):=by omega
   have eY:=lN k;have iD:Hid (n-(k+1)<n-k):=lH (by omega);have HSE:(⟨s.data.toList.toArray⟩:ByteArray)=s:=by cases s;simp
   have XB:=wB s.data.toList (by have:=eC.o;rw[Lib.size_eq] at this;exact this) wr (HT.o.up HB.o);rw[HSE] at XB;replace XB:=lH XB;clear HSE;clear hs;(go_wp2_with fail);refine XB.o.mono ?_;clear hc XB;rintro e w1 ⟨rfl,bO⟩;have cI:=cJ HB bO;clear bO HB;obtain⟨r,hr⟩:∃r,dJ s.data.toList=r:=⟨_,rfl⟩;rw[hr] at HD ⊢;clear hr;by_cases h0:r=0
   ·subst h0
    have HE:Hid (gF ss=gF (ss.drop (k+1))):=lH (by rw[HG.o,HD.o,if_pos rfl]);(go_wp2_with fail);go_roundw
    case rel=>exact⟨k+1,aR,aQ eY.o,HE.o,cI.o⟩
    case measure=>exact iD.o
   ·have HE:Hid (gF ss=r):=lH (by rw[HG.o,HD.o,if_neg h0])
    have h0b:(r != 0)=true:=by simp[h0]
    clear h0;(go_wp2_with fail);go_ret;exact⟨aU HE.o.symm,cI.o⟩
  ·have HE:Hid (gF ss=0):=lH (by rw[HG.o,List.drop_eq_nil_of_le (by have:=HL.o;omega)];rfl)
   have f_:¬(k:Int)<(n:Int):=by omega
   (go_wp2_with fail);go_ret;exact⟨aU HE.o.symm,HB.o⟩
theorem iE.bm{l:List Rat}(h:iE w w.heap.size A n l)(g:Below w.heap.size w w'):iE w' w'.heap.size A n l:=(h.below g lR).more g.size
def kK(w:Wo)(vs:List Rv)(qs:List Rat):Prop:=∀(i:Nat)(q:Rat)(v:Rv),qs[i]?=some q->vs[i]?=some v->cU w w.heap.size q v
theorem kK.up{vs:List Rv}(h:kK w vs qs)(hb:Below w.heap.size w w'):kK w' vs qs:=fun i q v hq hv=>cQ.up (h i q v hq hv) hb
def eG(w:Wo)(g i:Nat)(v:Rv):World:=(((w.setCell ⟨g,i*4,none⟩ (.bool v.b1)).setCell ⟨g,i*4+1,none⟩ (.slice v.A v.n v.c)).setCell ⟨g,i*4+2,none⟩ (.bool v.b2)).setCell ⟨g,i*4+3,none⟩ (.slice v.A2 v.m v.d)
theorem kK.put{vs us:List Rv}{qs':List Rat}{q:Rat}{v x:Rv}(h:kK w us qs)(hb:aD w g t (fI vs).toArray)(hx:vs[i]?=some x)(hv:cU w w.heap.size q v)(hq:∀(j:Nat)(q':Rat),qs'[j]?=some q'->(j=i/\q'=q)\/(j≠i/\qs[j]?=some q')):kK (eG w g i v) (us.set i v) qs':=by
 intro j q' v' hq' hv';rcases hq j q' hq' with⟨rfl,rfl⟩ | ⟨cG,hq0⟩
 ·rw[List.getElem?_set_self'] at hv'
  obtain⟨_,_,e⟩:=Option.map_eq_some_iff.1 hv';subst e;exact cQ.keep4 hv hb hx
 ·rw[List.getElem?_set_ne (by omega)] at hv'
  exact cQ.keep4 (h j q' v' hq0 hv') hb hx
theorem kK.stay{vs us:List Rv}{v x:Rv}(h:kK w us qs)(hb:aD w g t (fI vs).toArray)(hx:vs[i]?=some x):kK (eG w g i v) us qs:=fun j q' v' hq' hv'=>cQ.keep4 (h j q' v' hq' hv') hb hx
theorem iQ{a:Wo}{v:Rv}(h:Below B a w)(hg:B<=g):Below B a (eG w g i v):=(((h.setCell hg _).setCell hg _).setCell hg _).setCell hg _
theorem XP{q:Rat}(hk:qs.length=k):∀(j:Nat)(q':Rat),(qs++[q])[j]?=some q'->(j=k/\q'=q)\/(j≠k/\qs[j]?=some q'):=by
 intro j q' h;by_cases hj:j<k
 ·right
  rw[yC (by omega)] at h;exact⟨by omega,h⟩
 ·left
  rw[BP (by omega)] at h;have h1:=(cY.1 h).1;simp at h1;have:j=k:=by omega
  subst this;rw[hk] at h;simp at h;exact⟨rfl,h.symm⟩
def kY(s:ByteArray):Rat:=lJ s.data.toList
def aWN(qs:List Rat)(w:Wo)(e:Ending)(w':Wo):Prop:=Below w.heap.size w w'/\∃A n c,e=.returned (.slice A n c)/\iE w' w'.heap.size A n qs/\n<=c/\c<=maxLen/\(0<n->∃b off,A=some ⟨b,off,none⟩/\w.heap.size<=b)
theorem pN{α:Type}{l:List α}{x:α}(h:l[k]?=some x):l.take (k+1)=l.take k++[x]:=by
 rw[List.take_add_one,h];rfl
theorem NB(A:OA)(n c:Nat)(ss:List ByteArray)(w:Wo)(hR:bD w w.heap.size A n ss)(hs:∀s∈ss,dJ s.data.toList=0)(hn:n<=1000000):Calls Tryz.prog 62 #[.slice A n c] w (aWN (ss.map kY) w):=by
 obtain⟨HR,HS,HL,FF⟩:=h_ hR hs hR.1 hn;clear hR hs;have s_:∀w:World,(Instr.makeSlice 93 (.int .i64 (n:Int)) (.int .i64 (n:Int))).run Tryz.prog w=.ok (.slice (some ⟨w.heap.size,0,none⟩) n n) (w.alloc (.cells (fI (List.replicate n BQ)).toArray 115)):=fun w=>G7 n hn w;have HK:=lH ((Below.refl w.heap.size w).alloc lR (.cells (fI (List.replicate n BQ)).toArray 115));have HG:=lH (aD.new w 115 (fI (List.replicate n BQ)).toArray);go_enter Tryz.func62,Tryz.ntmps62
 go_wp2_with fail
 clear s_;generalize w.alloc (.cells (fI (List.replicate n BQ)).toArray 115)=W at *;generalize hg:w.heap.size=g at *;have mA:=lH hg;clear hg
 go_loopw [11] (fun v11 wr=>∃(k:Nat)(vs:List Rv),k<=n/\v11=.int .i64 k/\vs.length=n/\Below g w wr/\aD wr g 115 (fI vs).toArray/\kK wr vs ((ss.map kY).take k)) (fun v11 _=>n-(intOf v11).toNat)
 case atStart=>exact⟨0,_,by omega,rfl,qV,HK.o,HG.o,fun i q v h=>by simp at h⟩
 case round=>
  clear HK HG;obtain⟨k,vs,hk,rfl,hvl,hb,hg,hI⟩:=hrel;obtain⟨HK,HG,HI,JW⟩:=h_ hb hg hI hvl;clear hb hg hI hvl;by_cases aR:k<n
  ·obtain⟨s,hs⟩:∃s,ss[k]?=some s:=eE (by have:=HL.o;omega)
   obtain⟨b,o,hA,hb⟩:=(HR.o.below HK.o (by have:=mA.o;omega)).form (by omega);subst hA;have hc:=(HR.o.below HK.o (by have:=mA.o;omega)).at_ hs;have f_:(k:Int)<(n:Int):=by omega
   have eY:=lN k;have iD:Hid (n-(k+1)<n-k):=lH (by omega);have HSE:(⟨s.data.toList.toArray⟩:ByteArray)=s:=by cases s;simp
   have XB:=fun w=>K_ s.data.toList (HS.o s (bS hs)) w;rw[HSE] at XB;replace XB:=lH XB;have HQ:Hid ((ss.map kY).take (k+1)=(ss.map kY).take k++[lJ s.data.toList]):=lH (pN (by rw[lT,hs];rfl));clear HSE hs;have qL:b<wr.heap.size:=by have:=HK.o.size;have:=mA.o;omega
   (go_wp2_with fail);refine(XB.o wr).mono ?_;clear hc XB;rintro e w1 ⟨bO,f,C,i,j,f2,C2,i2,j2,rfl,h1⟩;obtain⟨OW,BN,wX,HV⟩:=h_ (HK.o.trans (bO.mono (oO HG.o.lt))) (HG.o.bl bO) (HI.o.up bO) h1;clear bO h1 HK HG HI;obtain⟨x,hx⟩:∃x,vs[k]?=some x:=eE (by have:=JW.o;omega);obtain⟨c0,c1,c2,c3⟩:=MZ BN.o hx;have FW:=BN.o.frozen;have E8:=BN.o.lt;have HX:=lH hx;clear hx;(go_wp2_with fail);go_roundw
   case rel=>exact⟨k+1,vs.set k ⟨f,C,i,j,f2,C2,i2,j2⟩,aR,aQ eY.o,by rw[kV];exact JW.o,iQ (v:=⟨f,C,i,j,f2,C2,i2,j2⟩) OW.o lR,aF6 BN.o (cY.1 HX.o).1 ⟨f,C,i,j,f2,C2,i2,j2⟩,by
    rw[HQ.o];exact kK.put (v:=⟨f,C,i,j,f2,C2,i2,j2⟩) wX.o BN.o HX.o HV.o (XP (by rw[jN,iT,HL.o];omega))⟩
   case measure=>exact iD.o
  ·have mL:k=n:=by omega
   subst mL;have f_:¬(k:Int)<(k:Int):=by omega
   (go_wp2_with fail);go_ret;exact⟨by rw[mA.o];exact HK.o,_,_,_,rfl,by
    have h:=HI.o;rw[nT (by rw[iT,HL.o];exact lR)] at h;exact XW HG.o JW.o (by rw[iT,HL.o]) h,lR,by have:=FF.o;unfold maxLen;omega,fun _=>⟨_,_,rfl,by rw[mA.o];exact lR⟩⟩
theorem aAY:(Tryz.prog.info? 55).map (fun i=>(i.zero,i.size,i.bytes))=some (some (.string ⟨#[]⟩),1,16):=by kernel_rfl
theorem aC_(n:Nat):madeCells #[Value.string ⟨#[]⟩] n=(fC (List.replicate n ⟨#[]⟩)).toArray:=by
 apply Array.ext';rw[toList_madeCells_one];unfold fC;simp
theorem aAS(n:Nat)(hn:n<=1000000)(w:Wo):(Instr.makeSlice 34 (.int .i64 (n:Int)) (.int .i64 (n:Int))).run Tryz.prog w=.ok (.slice (some ⟨w.heap.size,0,none⟩) n n) (w.alloc (.cells (fC (List.replicate n ⟨#[]⟩)).toArray 55)):=by
 rw[run_make_row' (P:=Tryz.prog) 34 55 (.string ⟨#[]⟩) 16 Tryz.underlying34 aAY rfl .i64 .i64 n (by omega) (by omega) w,aC_]
def iU(q:Rat):ByteArray:=⟨(jG q).toArray⟩
abbrev aRA(B:Nat)(A:OA):Prop:=∃g,A=some ⟨g,0,none⟩/\B<=g
def aRs(qs:List Rat)(w:Wo)(e:Ending)(w':Wo):Prop:=Below w.heap.size w w'/\((∀q∈qs,cH q)->∃A n c,e=.returned (.tuple #[.slice A n c,.bool true])/\bD w' w'.heap.size A n (qs.map iU)/\n<=c/\c<=maxLen/\aRA w.heap.size A)/\(¬(∀q∈qs,cH q)->e=.returned (.tuple #[.slice none 0 0,.bool false]))
theorem aAc(A:OA)(n c:Nat)(qs:List Rat)(w:Wo)(hR:iE w w.heap.size A n qs)(hn:n<=1000000)(ht:fL w):Calls Tryz.prog 88 #[.slice A n c] w (aRs qs w):=by
 obtain⟨HR,HL,FF,HT⟩:=h_ hR hR.len hn ht;clear hR ht;have s_:∀w:World,(Instr.makeSlice 34 (.int .i64 (n:Int)) (.int .i64 (n:Int))).run Tryz.prog w=.ok (.slice (some ⟨w.heap.size,0,none⟩) n n) (w.alloc (.cells (fC (List.replicate n ⟨#[]⟩)).toArray 55)):=fun w=>aAS n hn w;have HK:=lH ((Below.refl w.heap.size w).alloc lR (.cells (fC (List.replicate n ⟨#[]⟩)).toArray 55));have HG:=lH (aD.new w 55 (fC (List.replicate n ⟨#[]⟩)).toArray);go_enter Tryz.func88,Tryz.ntmps88
 go_wp2_with fail
 clear s_;generalize w.alloc (.cells (fC (List.replicate n ⟨#[]⟩)).toArray 55)=W at *;generalize hg:w.heap.size=g at *;have mA:=lH hg;clear hg
 go_loopw [14] (fun v14 wr=>∃(k:Nat)(ts:List ByteArray),k<=n/\v14=.int .i64 k/\ts.length=n/\Below g w wr/\aD wr g 55 (fC ts).toArray/\(∀(i:Nat)(q:Rat),i<k->qs[i]?=some q->cH q/\ts[i]?=some (iU q))) (fun v14 _=>n-(intOf v14).toNat)
 case atStart=>exact⟨0,_,by omega,rfl,qV,HK.o,HG.o,fun i q h=>by omega⟩
 case round=>
  clear HK HG;obtain⟨k,ts,hk,rfl,hvl,hb,hg,hI⟩:=hrel;obtain⟨HK,HG,HI,JW⟩:=h_ hb hg hI hvl;clear hb hg hI hvl;by_cases aR:k<n
  ·obtain⟨q,hq⟩:∃q,qs[k]?=some q:=eE (by have:=HL.o;omega)
   obtain⟨b,o,hA,hb⟩:=(HR.o.below HK.o (by have:=mA.o;omega)).form (by omega);subst hA;obtain⟨v,c0,c1,c2,c3,hV⟩:=(HR.o.below HK.o (by have:=mA.o;omega)).at_ hq;have HQ:=lH hq;have HV:=lH hV;have f_:(k:Int)<(n:Int):=by omega
   have eY:=lN k;have iD:Hid (n-(k+1)<n-k):=lH (by omega);have qL:b<wr.heap.size:=by have:=HK.o.size;have:=mA.o;omega
   clear hq hV;(go_wp2_with fail);generalize EC:wr.alloc (.cells #[.bool v.b1,.slice v.A v.n v.c,.bool v.b2,.slice v.A2 v.m v.d] 115)=wa at *;have IL:Below wr.heap.size wr wa:=by rw[<-EC];exact bA
   clear EC;refine(aAr q v.b1 v.A v.n v.c v.b2 v.A2 v.m v.d wa ((cQ.below HV.o IL (by have:=mA.o;have:=HG.o.lt;omega)).more (by have:=IL.size;have:=mA.o;have:=HG.o.lt;omega)) (HT.o.up (by rw[mA.o];exact HK.o.trans (IL.mono (oO HG.o.lt))))).mono ?_;clear c0 c1 c2 c3;rintro e w1 ⟨bO,s,rfl,hs⟩;have bH:=IL.tm bO;obtain⟨OW,BN,HS⟩:=dZ (HK.o.trans (bH.mono (oO HG.o.lt))) (HG.o.bl bH) hs;clear IL bO bH hs HK HG;have FW:=BN.o.frozen;have E8:=BN.o.lt;obtain⟨y,hy⟩:∃y,ts[k]?=some y:=eE (by have:=JW.o;omega);have hgc:w1.cell? ⟨g,k,none⟩=some (.string y):=by rw[BN.o.cell k];unfold fC;simp[hy]
   clear hy;by_cases hf:cH q
   ·have HF:=lH hf
    rw[decide_eq_true hf];clear hf;(go_wp2_with fail);go_roundw
    case rel=>exact⟨k+1,ts.set k s,aR,aQ eY.o,by rw[kV];exact JW.o,OW.o.setCell lR _,BN.o.set_at _ (by unfold fC;rw[List.map_set];simp),fun i q' hi hq'=>by
     by_cases AR:i=k
     ·subst AR
      rw[HQ.o] at hq';injection hq' with hq';subst hq';refine⟨HF.o,?_⟩;rw[List.getElem?_set_self (by have:=JW.o;omega),HS.o HF.o];rfl
     ·rw[List.getElem?_set_ne (by omega)]
      exact HI.o i q' (by omega) hq'⟩
    case measure=>exact iD.o
   ·have HF:=lH hf
    rw[decide_eq_false hf];clear hf;(go_wp2_with fail);go_ret2;exact⟨by rw[mA.o];exact OW.o,fun h=>absurd (h q (bS HQ.o)) HF.o,fun _=>rfl⟩
  ·have mL:k=n:=by omega
   subst mL;have f_:¬(k:Int)<(k:Int):=by omega
   (go_wp2_with fail);go_ret2;have hts:ts=qs.map iU:=by
    apply List.ext_getElem?;intro i;by_cases hi:i<k
    ·obtain⟨q,hq⟩:∃q,qs[i]?=some q:=eE (by have:=HL.o;omega)
     rw[(HI.o i q hi hq).2,lT,hq];rfl
    ·rw[List.getElem?_eq_none (by have:=JW.o;omega),List.getElem?_eq_none (by rw[iT,HL.o];omega)]
   have xH:∀q∈qs,cH q:=fun q hq=>by
    obtain⟨i,hi⟩:=List.getElem?_of_mem hq;exact(HI.o i q (by have:=(cY.1 hi).1;have:=HL.o;omega) hi).1
   exact⟨by rw[mA.o];exact HK.o,fun _=>⟨_,_,_,rfl,by rw[<-hts];have h:=nG HG.o HG.o.lt;rw[JW.o] at h;exact h,lR,by have:=FF.o;unfold maxLen;omega,⟨_,rfl,Nat.le_of_eq mA.o⟩⟩,fun h=>absurd xH h⟩
end
section
open Go.ChangeShapes Go.WideShapes Go.ChangeAt Go.RowKit Go.Joins
def o9(u:Value):Prop:=∀k x,u≠.int k x
theorem cU.keeps{q:Rat}{v:Rv}(h:cU w w.heap.size q v)(k:dU o9 base e w w'):cU w' w'.heap.size q v:=by
 have key:∀{A:OA}{n:Nat}{l:List Nat},jF w w.heap.size A n l->jF w' w'.heap.size A n l:=fun h=>⟨h.1,fun hn=>by
  obtain⟨b,off,e,aR,hc⟩:=h.2 hn;refine⟨b,off,e,kA aR k.size,fun j u hu=>k.cell _ _ (hc j u hu) ?_⟩;obtain⟨x,rfl⟩:=MV hu;exact fun hno=>hno _ _ rfl⟩
 exact⟨⟨h.num.eb,h.num.en,key h.num.rd,h.num.nc,h.num.cm⟩,⟨h.den.eb,h.den.en,key h.den.rd,h.den.nc,h.den.cm⟩⟩
structure dD (w:Wo) (base:Nat) (v:Value) (vs:List Rv) (qs:List Rat):Prop where
 own:bB o9 w base 115 4 v vs.length (fI vs)
 len:vs.length=qs.length
 ok:kK w vs qs
theorem dD.keep{v:Value}{vs:List Rv}(h:dD w base v vs qs)(hb:Below w.heap.size w w'):dD w' base v vs qs:=⟨h.own.keep hb,h.len,h.ok.up hb⟩
theorem kC(w:Wo)(base:Nat):dD w base (.slice none 0 0) [] []:=⟨dI _ _ _ _ _,rfl,fun i q v h=>by simp at h⟩
theorem CL(v:Rv):∀u∈v.cells,u.oneCell'=true/\o9 u:=fun u hu=>by
 simp[Rv.cells] at hu;rcases hu with rfl | rfl | rfl | rfl<;>exact⟨rfl,fun k x h=>by cases h⟩
theorem dD.app{v v':Value}{vs:List Rv}{u:Rv}{q:Rat}(h:dD w base v vs qs)(hq:cU w w.heap.size q u)(h2:bB o9 w' base 115 4 v' (vs.length+1) (fI vs++u.cells))(hk:dU o9 base 115 w w'):dD w' base v' (vs++[u]) (qs++[q]):=by
 refine⟨by rw[g_,List.length_singleton];simpa[fI] using h2,by rw[g_,g_,h.len];rfl,fun i p x hp hx=>?_⟩;by_cases hi:i<qs.length
 ·rw[yC hi] at hp
  rw[yC (by rw[h.len];exact hi)] at hx;exact(h.ok i p x hp hx).keeps hk
 ·rw[BP (by omega)] at hp
  rw[BP (by rw[h.len];omega),h.len] at hx;have EI:=(cY.1 hp).1;rw[List.length_singleton] at EI;have:i-qs.length=0:=by omega
  rw[this] at hp hx;simp at hp hx;subst hp;subst hx;exact cU.keeps hq hk
theorem dD.rd{v:Value}{vs:List Rv}(h:dD w base v vs qs):∃A c,v=.slice A qs.length c/\iE w w.heap.size A qs.length qs/\qs.length<=c/\c<=maxLen/\(0<qs.length->∃b off,A=some ⟨b,off,none⟩/\base<=b):=by
 obtain⟨A,c,hv,hr,h1,h2,h3⟩:=oV h.own.own;rw[h.len] at hv hr h1 h3;exact⟨A,c,hv,⟨vs,h.len,rfl,hr,h.ok⟩,h1,h2,h3⟩
theorem pP:∃i,Tryz.prog.info? 115=some i/\i.zero=some (.agg #[.bool false,.slice none 0 0,.bool false,.slice none 0 0])/\i.size=4/\i.bytes=64:=info_parts QS
theorem uS:∀u∈(Value.agg #[.bool false,.slice none 0 0,.bool false,.slice none 0 0]).cells.toList,o9 u:=fun u hu=>by
 have QW:u∈[Value.bool false,.slice none 0 0,.bool false,.slice none 0 0]:=hu;simp only[List.mem_cons,List.not_mem_nil,or_false] at QW;rcases QW with rfl | rfl | rfl | rfl<;>exact fun k x h=>by cases h
end
section
open Go.ChangeShapes Go.WideShapes Go.ChangeAt Go.RowKit
attribute [local go_sem ↓] aE
attribute [local go_sem] aL aK aO a_
def TvP(qs:List Rat)(w:Wo)(e:Ending)(w':Wo):Prop:=Below w.heap.size w w'/\((∀q∈qs,cH q)->∃A n c,e=.returned (.tuple #[.slice A n c,.int .i64 0])/\bD w' w'.heap.size A n (qs.map iU)/\n<=c/\c<=maxLen)/\(¬(∀q∈qs,cH q)->e=.returned (.tuple #[.slice none 0 0,.int .i64 2]))
def TvN(qs:List Rat)(w:Wo)(e:Ending)(w':Wo):Prop:=Below w.heap.size w w'/\((∀q∈qs,cH q)->∃A n c,e=.returned (.tuple #[.slice A n c,.int .i64 0])/\bD w' w'.heap.size A n (qs.map iU)/\n<=c/\c<=maxLen/\aRA w.heap.size A)/\(¬(∀q∈qs,cH q)->e=.returned (.tuple #[.slice none 0 0,.int .i64 2]))
theorem O4(A:OA)(n c:Nat)(qs:List Rat)(w:Wo)(hR:iE w w.heap.size A n qs)(hn:n<=1000000)(ht:fL w):Calls Tryz.prog 49 #[.slice A n c] w (TvN qs w):=by
 have HC:=lH (aAc A n c qs w hR hn ht);clear hR ht;go_enter Tryz.func49,Tryz.ntmps49
 go_wp2_with fail
 refine HC.o.mono ?_;rintro e w1 ⟨hb,h1,h2⟩;have HB:=lH hb;by_cases hf:∀q∈qs,cH q
 ·obtain⟨C,m,d,rfl,h3,h4,h5,h6⟩:=h1 hf
  obtain⟨H3,H6,HF⟩:=dZ h3 h6 hf;clear hf h1 h2 h3 h6 hb;(go_wp2_with fail);go_ret2;exact⟨HB.o,fun _=>⟨_,_,_,rfl,H3.o,h4,h5,H6.o⟩,fun h=>absurd HF.o h⟩
 ·have he:=h2 hf
  subst he;have HF:=lH hf;clear hf h1 h2 hb;(go_wp2_with fail);go_ret2;exact⟨HB.o,fun h=>absurd h HF.o,fun _=>rfl⟩
theorem nW(A:OA)(n c:Nat)(qs:List Rat)(w:Wo)(hR:iE w w.heap.size A n qs)(hn:n<=1000000)(ht:fL w):Calls Tryz.prog 49 #[.slice A n c] w (TvP qs w):=(O4 A n c qs w hR hn ht).mono fun e w' h=>by
 obtain⟨h1,h2,h3⟩:=h;refine⟨h1,fun hf=>?_,h3⟩;obtain⟨A,n,c,a1,a2,a3,a4,-⟩:=h2 hf;exact⟨A,n,c,a1,a2,a3,a4⟩
def RnP(q:Rat)(w:Wo)(e:Ending)(w':Wo):Prop:=Below w.heap.size w w'/\(cH q->e=.returned (.tuple #[.string (iU q),.int .i64 0]))/\(¬cH q->e=.returned (.tuple #[.string ⟨#[]⟩,.int .i64 2]))
theorem aFE{K:Nat}(h:xU n<=K):dA n<=K:=by
 refine kI (kA (aEc n) ?_);refine b_ (yH h) ?_;unfold BB;exact Nat.pow_le_pow_left (by decide) _
theorem RU(h:xU n<=2000):dA n<=2000:=aFE h
theorem qO{q:Rat}(h:cH q):bE q<=2000:=Nat.max_le.2 ⟨RU h.1,RU h.2⟩
theorem nC(h:dJ s.data.toList=0):cH (kY s):=(DZ h).2.2.2.1
def OpP(f:Rat->Rat->Rat)(a b:ByteArray)(w:Wo)(e:Ending)(w':Wo):Prop:=Below w.heap.size w w'/\(gF [a,b]≠0->e=.returned (.tuple #[.string ⟨#[]⟩,.int .i64 (gF [a,b])]))/\(gF [a,b]=0->RnP (f (kY a) (kY b)) w e w')
theorem aBu(s:ByteArray):(⟨s.data.toList.toArray⟩:ByteArray)=s:=by cases s;simp
theorem aAH(h:dJ s.data.toList=0)(w:Wo):Calls Tryz.prog 67 #[.string s] w (RtP (kY s) w):=by
 have:=K_ s.data.toList h w;rwa[aBu] at this
def rnS(q:Rat):ByteArray:=if cH q then iU q else⟨#[]⟩
def rnE(q:Rat):Int:=if cH q then 0 else 2
theorem RnP.out{q:Rat}{e:Ending}(h:RnP q w e w'):e=.returned (.tuple #[.string (rnS q),.int .i64 (rnE q)])/\Below w.heap.size w w':=by
 obtain⟨hb,h1,h2⟩:=h;unfold rnS rnE;by_cases hf:cH q
 ·rw[if_pos hf,if_pos hf];exact⟨h1 hf,hb⟩
 ·rw[if_neg hf,if_neg hf];exact⟨h2 hf,hb⟩
def opS(f:Rat->Rat->Rat)(a b:ByteArray):ByteArray:=if gF [a,b]=0 then rnS (f (kY a) (kY b)) else⟨#[]⟩
def opE(f:Rat->Rat->Rat)(a b:ByteArray):Int:=if gF [a,b]=0 then rnE (f (kY a) (kY b)) else gF [a,b]
theorem OpP.out{f:Rat->Rat->Rat}{a b:ByteArray}{e:Ending}(h:OpP f a b w e w'):e=.returned (.tuple #[.string (opS f a b),.int .i64 (opE f a b)])/\Below w.heap.size w w':=by
 obtain⟨hb,h1,h2⟩:=h;unfold opS opE;by_cases hf:gF [a,b]=0
 ·rw[if_pos hf,if_pos hf];exact(h2 hf).out
 ·rw[if_neg hf,if_neg hf];exact⟨h1 hf,hb⟩
theorem CF{q:Rat}(h:cH q):dJ (iU q).data.toList=0/\kY (iU q)=q:=by
 have:=TS h;unfold iU kY;simpa using this
theorem aC2(z:Int):(jR z).length<=xU z.natAbs+1:=by
 unfold jR xU;rw[g_];split<;>simp<;>omega
theorem aCX{q:Rat}(h:cH q):(iU q).size<=4002:=by
 rw[Lib.size_eq];unfold iU jG;have h1:=aC2 q.num;obtain⟨h2,h3⟩:=h;unfold xU at h3;simp only[g_];split<;>simp<;>omega
def aBy(p q:Rat):Int:=(p.num*(q.den:Int)-q.num*(p.den:Int)).sign
end
section
open Go.ChangeShapes Go.WideShapes Go.ChangeAt Go.RowKit
structure Hd where
 A:OA
 n:Nat
 c:Nat
def Hd.val(h:Hd):Value:=.slice h.A h.n h.c
def Hd.cells(h:Hd):List Value:=[h.val]
theorem Hd.len(h:Hd):h.cells.length=1:=rfl
def jP(w:Wo)(B:Nat)(A:OA)(n:Nat)(M:List (List Rat)):Prop:=∃hs:List Hd,hs.length=n/\M.length=n/\Rd w B 1 A n (hs.map Hd.val)/\∀(i:Nat)(h:Hd)(q:List Rat),hs[i]?=some h->M[i]?=some q->iE w B h.A h.n q/\h.n<=h.c/\h.c<=maxLen
section
variable {w w':Wo} {B B' n:Nat} {A:OA} {M:List (List Rat)}
theorem jP.below(h:jP w B A n M)(hb:Below B' w w')(hB:B<=B'):jP w' B A n M:=by
 obtain⟨hs,h1,h2,h3,h4⟩:=h;exact⟨hs,h1,h2,h3.below hb hB,fun i h q hq hv=>⟨(h4 i h q hq hv).1.below hb hB,(h4 i h q hq hv).2⟩⟩
theorem jP.more(h:jP w B A n M)(hB:B<=B'):jP w B' A n M:=by
 obtain⟨hs,h1,h2,h3,h4⟩:=h;exact⟨hs,h1,h2,h3.more hB,fun i h q hq hv=>⟨(h4 i h q hq hv).1.more hB,(h4 i h q hq hv).2⟩⟩
theorem jP.up(h:jP w w.heap.size A n M)(hb:Below w.heap.size w w'):jP w' w'.heap.size A n M:=(h.below hb lR).more hb.size
theorem jP.len(h:jP w B A n M):M.length=n:=by obtain⟨_,_,h,_⟩:=h;exact h
theorem jP.form(h:jP w B A n M)(h0:0<n):∃b off,A=some ⟨b,off,none⟩/\b<B:=by
 obtain⟨hs,_,_,h3,_⟩:=h;obtain⟨b,off,e,aR,_⟩:=h3.2 h0;exact⟨b,off,e,aR⟩
theorem jP.at_{b off:Nat}{q:List Rat}(h:jP w B (some ⟨b,off,none⟩) n M)(hq:M[i]?=some q):∃h:Hd,w.cell? ⟨b,off+i,none⟩=some (.slice h.A h.n h.c)/\iE w B h.A h.n q/\h.n<=h.c/\h.c<=maxLen:=by
 obtain⟨hs,h1,h2,h3,h4⟩:=h;have hi:=(cY.1 hq).1;obtain⟨v,hv⟩:∃v,hs[i]?=some v:=eE (by omega);obtain⟨b',off',e,_,hc⟩:=h3.2 (by omega);injection e with e;injection e with e1 e2;subst e1;subst e2;exact⟨v,hc i _ (by rw[lT,hv];rfl),h4 i v q hv hq⟩
theorem jP.take(h:jP w B A n M)(hm:m<=n):jP w B A m (M.take m):=by
 obtain⟨hs,h1,h2,h3,h4⟩:=h;refine⟨hs.take m,by rw[jN,h1];omega,by rw[jN,h2];omega,⟨by simp;omega,fun h0=>?_⟩,fun j h q hh hq=>?_⟩
 ·obtain⟨b',off',e,aR,hc⟩:=h3.2 (by omega)
  refine⟨b',off',e,aR,fun j u hu=>hc j u ?_⟩;rw[List.map_take] at hu;have hj:=(cY.1 hu).1;rw[jN] at hj;rwa[List.getElem?_take_of_lt (by omega)] at hu
 ·have hj:=(cY.1 hh).1
  rw[jN] at hj;rw[List.getElem?_take_of_lt (by omega)] at hh hq;exact h4 _ _ _ hh hq
end
structure Mh where
 A:OA
 g:Nat
 c:Nat
 vs:List Rv
def Mh.hd(h:Mh):Value:=.slice h.A h.vs.length h.c
structure sV (w:Wo) (base g:Nat) (h:Mh) (q:List Rat):Prop where
 len:h.vs.length=q.length
 cap:h.vs.length<=h.c
 cm:h.c<=maxLen
 ok:kK w h.vs q
 lies:0<q.length->h.A=some ⟨h.g,0,none⟩/\base<=h.g/\h.g≠g/\∃cs,aD w h.g 115 cs/\cs.toList.take (q.length*4)=fI h.vs
theorem aD.row_cell{vs:List Rv}{v:Rv}(h:aD w g t cs)(ht:cs.toList.take m=fI vs)(hv:vs[i]?=some v):w.cell? ⟨g,i*4,none⟩=some (.bool v.b1)/\w.cell? ⟨g,i*4+1,none⟩=some (.slice v.A v.n v.c)/\w.cell? ⟨g,i*4+2,none⟩=some (.bool v.b2)/\w.cell? ⟨g,i*4+3,none⟩=some (.slice v.A2 v.m v.d):=by
 have hk:=fun k (hk:k<4)=>tI hv k hk;have key:∀k,k<4->∀u,v.cells[k]?=some u->w.cell? ⟨g,i*4+k,none⟩=some u:=fun k h4 u hu=>by
  rw[h.cell];have h1:=hk k h4;rw[hu,<-ht] at h1;have h2:=(cY.1 h1).1;rw[jN] at h2;rw[List.getElem?_take_of_lt (by omega)] at h1;simpa using h1
 exact⟨key 0 (by decide) _ rfl,key 1 (by decide) _ rfl,key 2 (by decide) _ rfl,key 3 (by decide) _ rfl⟩
theorem cU.keep4{q:Rat}{u:Rv}(h:cU w w.heap.size q u){vs:List Rv}{x:Rv}(v:Rv)(hb:aD w g t cs)(ht:cs.toList.take m=fI vs)(hx:vs[i]?=some x):cU (eG w g i v) (eG w g i v).heap.size q u:=by
 obtain⟨c0,c1,c2,c3⟩:=hb.row_cell ht hx;have ne:∀(a b:Nat),a≠b->(⟨g,a,none⟩:Addr)≠⟨g,b,none⟩:=fun a b h e=>h (by injection e);have off:∀(w:Wo)(a b:Nat)(u v:Value),a≠b->w.cell? ⟨g,b,none⟩=some v->(w.setCell ⟨g,a,none⟩ u).cell? ⟨g,b,none⟩=some v:=fun w a b u v lO hv=>by
  rw[World.cell?_setCell_other _ _ _ _ (ne a b lO)];exact hv
 have h':cQ w w.heap.size q u.b1 u.A u.n u.c u.b2 u.A2 u.m u.d:=h;exact(((h'.keep c0 (by simp) _).keep (off _ _ _ _ _ (by omega) c1) (by simp) _).keep (off _ _ _ _ _ (by omega) (off _ _ _ _ _ (by omega) c2)) (by simp) _).keep (off _ _ _ _ _ (by omega) (off _ _ _ _ _ (by omega) (off _ _ _ _ _ (by omega) c3))) (by simp) _
theorem aD.far4(v:Rv)(h:aD w g' t cs)(hg:g'≠g):aD (eG w g i v) g' t cs:=(((h.far hg _).far hg _).far hg _).far hg _
theorem aAA(w:Wo)(g i:Nat)(v:Rv):(eG w g i v).heap.size=w.heap.size:=by simp[eG]
theorem kX{α:Type}(l:List α)(m k:Nat)(u:α)(hk:k<m):(l.set k u).take m=(l.take m).set k u:=by
 apply List.ext_getElem?;intro j;by_cases hj:j<m
 ·rw[List.getElem?_take_of_lt hj,List.getElem?_set,List.getElem?_set,List.getElem?_take_of_lt hj,jN]
  by_cases h1:k=j
  ·subst h1
   rw[if_pos rfl,if_pos rfl];split<;>split<;>first | rfl | omega
  ·simp[h1]
 ·rw[List.getElem?_eq_none (by simp;omega),List.getElem?_eq_none (by simp;omega)]
theorem aD.row_put{vs:List Rv}(v:Rv)(h:aD w g t cs)(ht:cs.toList.take (n*4)=fI vs)(hn:vs.length=n)(hi:i<n):∃cs',aD (eG w g i v) g t cs'/\cs'.toList.take (n*4)=fI (vs.set i v):=by
 refine⟨_,(((h.set_ (i*4) (.bool v.b1)).set_ (i*4+1) (.slice v.A v.n v.c)).set_ (i*4+2) (.bool v.b2)).set_ (i*4+3) (.slice v.A2 v.m v.d),?_⟩;rw[<-FO vs i v (by omega),<-ht];simp only[Array.toList_setIfInBounds];rw[kX _ _ _ _ (by omega),kX _ _ _ _ (by omega),kX _ _ _ _ (by omega),kX _ _ _ _ (by omega)]
section
variable {w w':Wo} {base g:Nat} {h:Mh} {q:List Rat}
theorem sV.up(r:sV w base g h q)(hb:Below w.heap.size w w'):sV w' base g h q:=
 ⟨r.len,r.cap,r.cm,r.ok.up hb,fun h0=>by
  obtain⟨h1,h2,h3,cs,h4,h5⟩:=r.lies h0;exact⟨h1,h2,h3,cs,h4.bl hb,h5⟩⟩
theorem QI(w:Wo)(base g g':Nat)(A:OA)(c:Nat)(hc:c<=maxLen):sV w base g ⟨A,g',c,[]⟩ []:=
 ⟨rfl,Nat.zero_le _,hc,fun i q v h=>by simp at h,fun h=>by simp at h⟩
theorem sV.rd(r:sV w base g h q):iE w w.heap.size h.A q.length q:=by
 refine⟨h.vs,r.len,rfl,⟨by rw[dW,r.len],fun h0=>?_⟩,r.ok⟩;obtain⟨h1,h2,h3,cs,h4,h5⟩:=r.lies h0;refine⟨h.g,0,h1,h4.lt,fun j u hu=>?_⟩;rw[Nat.zero_add,h4.cell j];rw[<-h5] at hu;have hj:=(cY.1 hu).1;rw[jN] at hj;rw[List.getElem?_take_of_lt (by omega)] at hu;simpa using hu
end
structure jK (w:Wo) (base g:Nat) (hs:List Mh) (M:List (List Rat)):Prop where
 top:aD w g 93 (hs.map Mh.hd).toArray
 len:hs.length=M.length
 gb:base<=g
 row:∀(i:Nat)(h:Mh)(q:List Rat),hs[i]?=some h->M[i]?=some q->sV w base g h q
 dis:∀(i j:Nat)(h h':Mh),i≠j->hs[i]?=some h->hs[j]?=some h'->0<h.vs.length->0<h'.vs.length->h.g≠h'.g
section
variable {w w':Wo} {base g:Nat} {hs:List Mh} {M:List (List Rat)}
theorem jK.up(o:jK w base g hs M)(hb:Below w.heap.size w w'):jK w' base g hs M:=
 ⟨o.top.bl hb,o.len,o.gb,fun i h q hh hq=>(o.row i h q hh hq).up hb,o.dis⟩
theorem jK.get(o:jK w base g hs M){q:List Rat}(hq:M[i]?=some q):∃h,hs[i]?=some h/\w.cell? ⟨g,i,none⟩=some (.slice h.A q.length h.c)/\sV w base g h q:=by
 obtain⟨h,hh⟩:∃h,hs[i]?=some h:=eE (by rw[o.len];exact(cY.1 hq).1);have hr:=o.row i h q hh hq;refine⟨h,hh,?_,hr⟩;rw[o.top.cell,List.getElem?_toArray,lT,hh,<-hr.len];rfl
theorem jK.rd(o:jK w base g hs M):jP w w.heap.size (some ⟨g,0,none⟩) M.length M:=by
 refine⟨hs.map fun h=>⟨h.A,h.vs.length,h.c⟩,by rw[iT,o.len],rfl,⟨by simp[o.len],fun _=>⟨g,0,rfl,o.top.lt,fun j u hu=>?_⟩⟩,fun i h q hh hq=>?_⟩
 ·rw[Nat.zero_add,o.top.cell j,List.getElem?_toArray]
  rw[List.map_map] at hu;exact hu
 ·rw[lT] at hh
  obtain⟨h',hh',rfl⟩:=Option.map_eq_some_iff.1 hh;have hr:=o.row i h' q hh' hq;refine⟨?_,hr.cap,hr.cm⟩;have:=hr.rd;rw[<-hr.len] at this;exact this
theorem jK.put(o:jK w base g hs M){h:Mh}{q:List Rat}{v:Rv}{x:Rat}(hh:hs[i]?=some h)(hq:M[i]?=some q)(hj:j<q.length)(hv:cU w w.heap.size x v):jK (eG w h.g j v) base g (hs.set i ⟨h.A,h.g,h.c,h.vs.set j v⟩) (M.set i (q.set j x)):=by
 have hr:=o.row i h q hh hq;obtain⟨h1,h2,h3,cs,h4,h5⟩:=hr.lies (by omega);obtain⟨y,hy⟩:∃y,h.vs[j]?=some y:=eE (by rw[hr.len];exact hj);have yV:=(cY.1 hh).1;have mD:∀{us:List Rv}{ps:List Rat},kK w us ps->kK (eG w h.g j v) us ps:=fun H k p u hp hu=>cU.keep4 (H k p u hp hu) v h4 h5 hy;refine⟨?_,by rw[kV,kV,o.len],o.gb,fun k h' q' hk hkq=>?_,fun a b ha hb lO EJ wO l1 l2=>?_⟩
 ·have e:(hs.set i ⟨h.A,h.g,h.c,h.vs.set j v⟩).map Mh.hd=hs.map Mh.hd:=by
   rw[List.map_set];apply List.ext_getElem?;intro k;rw[List.getElem?_set];by_cases hk:i=k
   ·subst hk
    rw[iT,lT,hh];simp[yV,Mh.hd]
   ·rw[if_neg hk]
  rw[e];exact o.top.far4 v (fun e=>h3 e.symm)
 ·rw[List.getElem?_set] at hk hkq
  by_cases AR:i=k
  ·subst AR
   rw[if_pos rfl,if_pos yV] at hk;rw[if_pos rfl,if_pos (by rw[<-o.len];exact yV)] at hkq;injection hk with hk;injection hkq with hkq;subst hk;subst hkq;obtain⟨cs',k1,k2⟩:=h4.row_put v h5 hr.len hj;refine⟨by simp[hr.len],by simpa using hr.cap,hr.cm,fun a p u hp hu=>?_,fun _=>⟨h1,h2,h3,cs',k1,by rw[kV];exact k2⟩⟩;simp only at hu;rw[List.getElem?_set] at hp hu;by_cases hja:j=a
   ·subst hja
    rw[if_pos rfl,if_pos hj] at hp;rw[if_pos rfl,if_pos (by rw[hr.len];exact hj)] at hu;injection hp with hp;injection hu with hu;subst hp;subst hu;exact cU.keep4 hv v h4 h5 hy
   ·rw[if_neg hja] at hp hu
    exact mD hr.ok a p u hp hu
  ·rw[if_neg AR] at hk hkq
   have DD:=o.row k h' q' hk hkq;refine⟨DD.len,DD.cap,DD.cm,mD DD.ok,fun h0=>?_⟩;obtain⟨a1,a2,a3,cs',a4,a5⟩:=DD.lies h0;exact⟨a1,a2,a3,cs',a4.far4 v (o.dis k i h' h (fun e=>AR e.symm) hk hh (by rw[DD.len];exact h0) (by rw[hr.len];omega)),a5⟩
 ·rw[List.getElem?_set] at EJ wO
  have key:∀(k:Nat)(z:Mh),(if i=k then(if i<hs.length then some (⟨h.A,h.g,h.c,h.vs.set j v⟩:Mh) else none) else hs[k]?)=some z->∃z',hs[k]?=some z'/\z'.g=z.g/\z'.vs.length=z.vs.length:=fun k z hz=>by
   by_cases AR:i=k
   ·subst AR
    rw[if_pos rfl,if_pos yV] at hz;injection hz with hz;subst hz;exact⟨h,hh,rfl,by simp⟩
   ·rw[if_neg AR] at hz
    exact⟨z,hz,rfl,rfl⟩
  obtain⟨z1,k1,k2,k3⟩:=key a ha EJ;obtain⟨z2,k4,k5,k6⟩:=key b hb wO;rw[<-k2,<-k5];exact o.dis a b z1 z2 lO k1 k4 (by omega) (by omega)
theorem jK.setRow(o:jK w base g hs M){h:Mh}{q:List Rat}(hi:i<M.length)(hr:sV w base g h q)(hd:∀(j:Nat)(h':Mh),j≠i->hs[j]?=some h'->0<h'.vs.length->0<h.vs.length->h'.g≠h.g):jK (w.setCell ⟨g,i,none⟩ (.slice h.A q.length h.c)) base g (hs.set i h) (M.set i q):=by
 have yV:i<hs.length:=by rw[o.len];exact hi
 have mD:∀{us:List Rv}{ps:List Rat}(u:Value),kK w us ps->kK (w.setCell ⟨g,i,none⟩ u) us ps:=fun u H k p v hp hv=>by
  have h0:cQ w w.heap.size p v.b1 v.A v.n v.c v.b2 v.A2 v.m v.d:=H k p v hp hv;refine cQ.keep h0 (v:=(hs.map Mh.hd)[i]'(by simpa using yV)) ?_ (fun a b e=>?_) u
  ·rw[o.top.cell];simp[yV]
  ·simp[Mh.hd] at e
 have gN:∀{h:Mh}{q:List Rat}(u:Value),sV w base g h q->sV (w.setCell ⟨g,i,none⟩ u) base g h q:=fun u r=>
  ⟨r.len,r.cap,r.cm,mD u r.ok,fun h0=>by
   obtain⟨h1,h2,h3,cs,h4,h5⟩:=r.lies h0;exact⟨h1,h2,h3,cs,h4.far h3 u,h5⟩⟩
 refine⟨?_,by rw[kV,kV,o.len],o.gb,fun k h' q' hk hkq=>?_,fun a b ha hb lO EJ wO l1 l2=>?_⟩
 ·have:=o.top.set_ i (.slice h.A q.length h.c)
  rw[List.map_set];rw[<-hr.len] at this ⊢;simpa[Mh.hd] using this
 ·rw[List.getElem?_set] at hk hkq
  by_cases AR:i=k
  ·subst AR
   rw[if_pos rfl,if_pos yV] at hk;rw[if_pos rfl,if_pos hi] at hkq;injection hk with hk;injection hkq with hkq;subst hk;subst hkq;exact gN _ hr
  ·rw[if_neg AR] at hk hkq
   exact gN _ (o.row k h' q' hk hkq)
 ·rw[List.getElem?_set] at EJ wO
  by_cases hia:i=a
  ·subst hia
   rw[if_pos rfl,if_pos yV] at EJ;injection EJ with EJ;subst EJ;rw[if_neg lO] at wO;exact fun e=>hd b hb (fun e=>lO e.symm) wO l2 l1 e.symm
  ·rw[if_neg hia] at EJ
   by_cases hib:i=b
   ·subst hib
    rw[if_pos rfl,if_pos yV] at wO;injection wO with wO;subst wO;exact hd a ha (fun e=>hia e.symm) EJ l1 l2
   ·rw[if_neg hib] at wO
    exact o.dis a b ha hb lO EJ wO l1 l2
theorem jK.swap(o:jK w base g hs M){r p:Nat}{a b:List Rat}{ha hb:Mh}(h1:hs[r]?=some ha)(h2:hs[p]?=some hb)(h3:M[r]?=some a)(h4:M[p]?=some b):jK ((w.setCell ⟨g,r,none⟩ (.slice hb.A b.length hb.c)).setCell ⟨g,p,none⟩ (.slice ha.A a.length ha.c)) base g ((hs.set r hb).set p ha) ((M.set r b).set p a):=by
 have sM:=(cY.1 h1).1;have xW:=(cY.1 h2).1;have ra:=o.row r ha a h1 h3;have rb:=o.row p hb b h2 h4;have mD:∀{w:Wo}{cs:Array Value}{us:List Rv}{ps:List Rat}{i:Nat}{x:Value}(u:Value),aD w g 93 cs->cs[i]?=some x->(∀k y,x≠.int k y)->kK w us ps->kK (w.setCell ⟨g,i,none⟩ u) us ps:=fun{w cs us ps i x} u hb hc hx H k p v hp hv=>by
  have h0:cQ w w.heap.size p v.b1 v.A v.n v.c v.b2 v.A2 v.m v.d:=H k p v hp hv;refine cQ.keep h0 (v:=x) ?_ hx u;rw[hb.cell];exact hc
 have LT:=o.top.set_ r (.slice hb.A b.length hb.c);have YM:∀(i:Nat)(z:Mh),hs[i]?=some z->(hs.map Mh.hd).toArray[i]?=some z.hd:=fun i z hz=>by rw[List.getElem?_toArray,lT,hz];rfl
 have gN:∀{h:Mh}{q:List Rat},sV w base g h q->sV ((w.setCell ⟨g,r,none⟩ (.slice hb.A b.length hb.c)).setCell ⟨g,p,none⟩ (.slice ha.A a.length ha.c)) base g h q:=fun R=>
  ⟨R.len,R.cap,R.cm,by
   have k1:=mD (.slice hb.A b.length hb.c) o.top (YM r ha h1) (fun k y e=>by cases e) R.ok;by_cases hrp:r=p
   ·subst hrp
    exact mD _ LT (x:=.slice hb.A b.length hb.c) (by simp[sM]) (fun k y e=>by cases e) k1
   ·exact mD _ LT (x:=hb.hd) (by rw[Array.getElem?_setIfInBounds_ne hrp];exact YM p hb h2) (fun k y e=>by cases e) k1,fun h0=>by
   obtain⟨k1,k2,k3,cs,k4,k5⟩:=R.lies h0;exact⟨k1,k2,k3,cs,(k4.far k3 _).far k3 _,k5⟩⟩
 have aMi:∀(i:Nat)(z:Mh),((hs.set r hb).set p ha)[i]?=some z->∃i' ,hs[i']?=some z/\((i'=i/\i≠r/\i≠p)\/(i=r/\i≠p/\i'=p)\/(i=p/\i'=r))/\∀q,((M.set r b).set p a)[i]?=some q->M[i']?=some q:=fun i z hz=>by
  rw[List.getElem?_set,List.getElem?_set,kV] at hz;by_cases hp:p=i
  ·subst hp
   rw[if_pos rfl,if_pos xW] at hz;injection hz with hz;subst hz;refine⟨r,h1,.inr (.inr ⟨rfl,rfl⟩),fun q hq=>?_⟩;rw[List.getElem?_set,if_pos rfl,if_pos (by rw[kV,<-o.len];exact xW)] at hq;rw[h3];exact hq
  ·rw[if_neg hp] at hz
   by_cases hr:r=i
   ·subst hr
    rw[if_pos rfl,if_pos sM] at hz;injection hz with hz;subst hz;refine⟨p,h2,.inr (.inl ⟨rfl,fun e=>hp e.symm,rfl⟩),fun q hq=>?_⟩;rw[List.getElem?_set,if_neg hp,List.getElem?_set,if_pos rfl,if_pos (by rw[<-o.len];exact sM)] at hq;rw[h4];exact hq
   ·rw[if_neg hr] at hz
    refine⟨i,hz,.inl ⟨rfl,fun e=>hr e.symm,fun e=>hp e.symm⟩,fun q hq=>?_⟩;rw[List.getElem?_set,if_neg hp,List.getElem?_set,if_neg hr] at hq;exact hq
 refine⟨?_,by simp[o.len],o.gb,fun i z q hz hq=>?_,fun i j z z' uA hz hz' l1 l2=>?_⟩
 ·have:=LT.set_ p (.slice ha.A a.length ha.c)
  rw[List.map_set,List.map_set];rw[<-ra.len,<-rb.len] at this ⊢;simpa[Mh.hd] using this
 ·obtain⟨i',k1,_,k3⟩:=aMi i z hz
  exact gN (o.row i' z q k1 (k3 q hq))
 ·obtain⟨i',k1,k2,_⟩:=aMi i z hz
  obtain⟨j',m1,m2,_⟩:=aMi j z' hz';by_cases cG:i'=j'
  ·subst cG
   omega
  ·exact o.dis i' j' z z' cG k1 m1 l1 l2
end
theorem aEn:(Tryz.prog.info? 93).map (fun i=>(i.zero,i.size,i.bytes))=some (some (.slice none 0 0),1,24):=by kernel_rfl
def fF(n:Nat):Array Value:=(List.replicate n (Value.slice none 0 0)).toArray
theorem wJ(n:Nat)(hn:n<=1000000)(w:Wo):(Instr.makeSlice 92 (.int .i64 (n:Int)) (.int .i64 (n:Int))).run Tryz.prog w=.ok (.slice (some ⟨w.heap.size,0,none⟩) n n) (w.alloc (.cells (fF n) 93)):=by
 obtain⟨i0,iW,qY,kF,kE⟩:=info_parts aEn;rw[run_make w 92 93 i0 _ Tryz.underlying92 iW qY .i64 .i64 (n:Int) (n:Int) (by omega) (Int.le_refl _) (by rw[kE];omega) (by omega),jM,kF,Nat.mul_one];rw[show(Value.slice none 0 0).cells=#[Value.slice none 0 0] from rfl];rw[show madeCells #[Value.slice none 0 0] n=(List.replicate n (Value.slice none 0 0)).toArray from by
  apply Array.ext';rw[toList_madeCells_one]]
 rfl
theorem wF(h:aD w g 93 (fF n))(hb:base<=g):jK w base g (List.replicate n ⟨none,0,0,[]⟩) (List.replicate n []):=by
 unfold fF at h;refine⟨by rw[List.map_replicate];exact h,by simp,hb,fun i h q hh hq=>?_,fun i j h h' _ hh _ l=>?_⟩
 ·rw[List.getElem?_replicate] at hh hq
  split at hh
  ·rw[if_pos ‹_›] at hq
   injection hh with hh;injection hq with hq;subst hh;subst hq;exact QI _ _ _ _ _ _ (by simp[maxLen])
  ·cases hh
 ·rw[List.getElem?_replicate] at hh
  split at hh
  ·injection hh with hh
   subst hh;simp at l
  ·cases hh
theorem QH{w':Wo}{v:Value}{vs:List Rv}(h:dD w base v vs qs)(hg:g<base):∃h:Mh,v=.slice h.A qs.length h.c/\h.vs=vs/\sV w base g h qs:=by
 obtain⟨hl,h1⟩:=h.own;rcases h1 with⟨h1,h2⟩ | ⟨b,cap,cur,h1,h2,h3,h4,h5,h6,h7,_⟩
 ·have hq:qs=[]:=List.eq_nil_of_length_eq_zero (by rw[<-h.len];exact h2)
  have hv:vs=[]:=List.eq_nil_of_length_eq_zero h2;subst hq;subst hv;exact⟨⟨none,0,0,[]⟩,h1,rfl,QI _ _ _ _ _ _ (by simp[maxLen])⟩
 ·refine⟨⟨some ⟨b,0,none⟩,b,cap,vs⟩,by rw[<-h.len];exact h1,rfl,h.len,h4,h5,h.ok,fun _=>⟨rfl,h2,by simp only;omega,cur,h3,by rw[<-h.len];exact h7⟩⟩
theorem jP.bm{l:List (List Rat)}(h:jP w w.heap.size A n l)(g:Below w.heap.size w w'):jP w' w'.heap.size A n l:=(h.below g lR).more g.size
end
section
open Go.ChangeShapes Go.WideShapes Go.ChangeAt Go.RowKit
attribute [local go_sem ↓] aE
attribute [local go_sem] aL aK aO a_
theorem sV.mono{base':Nat}{h:Mh}{q:List Rat}(r:sV w base g h q)(hb:base'<=base):sV w base' g h q:=
 ⟨r.len,r.cap,r.cm,r.ok,fun h0=>by
  obtain⟨h1,h2,h3⟩:=r.lies h0;exact⟨h1,b_ hb h2,h3⟩⟩
theorem jK.lt{hs:List Mh}(o:jK w base g hs M){h:Mh}(hh:hs[j]?=some h)(h0:0<h.vs.length):h.g<w.heap.size:=by
 obtain⟨q,hq⟩:∃q,M[j]?=some q:=eE (by rw[<-o.len];exact(cY.1 hh).1);have r:=o.row j h q hh hq;obtain⟨_,_,_,cs,hb,_⟩:=r.lies (by rw[<-r.len];exact h0);exact hb.lt
theorem IR{q:List Rat}(hn:M.length=n)(hq:M[k]?=some q):(M.take k++List.replicate (n-k) []).set k q=M.take (k+1)++List.replicate (n-(k+1)) []:=by
 have hk:=(cY.1 hq).1;rw[List.set_append_right _ _ (by rw[jN];omega),jN,Nat.min_eq_left (by omega),Nat.sub_self,pN hq];rw[show n-k=(n-(k+1))+1 from by omega,List.replicate_succ];simp
def aWO(M:List (List Rat))(w:Wo)(e:Ending)(w':Wo):Prop:=Below w.heap.size w w'/\∃g hs,e=.returned (.slice (some ⟨g,0,none⟩) M.length M.length)/\jK w' w.heap.size g hs M
theorem K5{q:List Rat}(h:iE w B A n q):∃vs:List Rv,vs.length=n/\q.length=n/\Rd w B 4 A n (fI vs)/\∀(i:Nat)(x:Rat)(v:Rv),q[i]?=some x->vs[i]?=some v->cU w B x v:=h
theorem zU(vs:List Rv):∀u∈fI vs,u.oneCell'=true/\o9 u:=fun u hu=>by
 unfold fI at hu;obtain⟨v,_,hv⟩:=List.mem_flatMap.1 hu;exact CL v u hv
theorem aM_(A:OA)(n c:Nat)(M:List (List Rat))(w:Wo)(hR:jP w w.heap.size A n M)(hn:n<=1000000)(hw:∀a∈M,a.length<=1000000):Calls Tryz.prog 156 #[.slice A n c] w (aWO M w):=by
 obtain⟨HR,HL,HWD,FF⟩:=h_ hR hR.len hw hn;obtain⟨i0,iW,qY,kF,kE⟩:=pP;obtain⟨ES,wX,KN,KM⟩:=h_ iW qY kF kE;clear hR hw iW qY kF kE;have s_:∀w:World,(Instr.makeSlice 92 (.int .i64 (n:Int)) (.int .i64 (n:Int))).run Tryz.prog w=.ok (.slice (some ⟨w.heap.size,0,none⟩) n n) (w.alloc (.cells (fF n) 93)):=fun w=>wJ n hn w;have HK:=lH ((Below.refl w.heap.size w).alloc lR (.cells (fF n) 93));have HG:=lH (aD.new w 93 (fF n));go_enter Tryz.func156,Tryz.ntmps156
 go_wp2_with fail
 clear s_;generalize w.alloc (.cells (fF n) 93)=W at *;have HO:=lH (wF HG.o lR);generalize hg:w.heap.size=g at *;have mA:=lH hg;clear hg
 go_loopw [11] (fun v11 wr=>∃(k:Nat)(hs:List Mh),k<=n/\v11=.int .i64 k/\Below g w wr/\jK wr g g hs (M.take k++List.replicate (n-k) [])) (fun v11 _=>n-(intOf v11).toNat)
 case atStart=>exact⟨0,_,by omega,rfl,HK.o,by rw[List.take_zero,List.nil_append,Nat.sub_zero];exact HO.o⟩
 case round=>
  clear HK HO;obtain⟨k,hs,hk,rfl,hb,ho⟩:=hrel;have HK:=lH hb;have HO:=lH ho;clear hb ho;by_cases aR:k<n
  ·obtain⟨q,hq⟩:∃q,M[k]?=some q:=eE (by have:=HL.o;omega)
   obtain⟨b,o,hA,hb⟩:=(HR.o.below HK.o (by have:=mA.o;omega)).form (by omega);subst hA;obtain⟨h,hc,hrq,hh1,hh2⟩:=(HR.o.below HK.o (by have:=mA.o;omega)).at_ hq;have sX:Hid (g<wr.heap.size):=lH HO.o.top.lt;have HRQ:=lH (hrq.more (B':=wr.heap.size) (by have:=mA.o;have:=sX.o;omega));obtain⟨HQ,HQW,HF⟩:=dZ hq (HWD.o q (bS hq)) (IR HL.o hq);have f_:(k:Int)<(n:Int):=by omega
   have eY:=lN k;have iD:Hid (n-(k+1)<n-k):=lH (by omega);have qL:b<wr.heap.size:=by have:=HK.o.size;have:=mA.o;omega
   obtain⟨vs,nA,kU,qI,tL⟩:=K5 HRQ.o;obtain⟨hA0,oQ,IJ⟩:=h;simp only at hc nA kU qI tL hh1 hh2;obtain⟨pL,yA,DR,ZP⟩:=h_ nA kU qI tL;have a2S:oQ<=1000000:=by have:=HQW.o;omega
   clear nA kU qI tL hq hrq hb
   go_wp2_with (at_builtin;refine nV (S:=o9) rfl (.const (.slice none 0 0)) (.tmp 18) _ rfl g 115 i0 _ 4 64 Tryz.underlying93 ES.o wX.o KN.o KM.o rfl (by omega) uS (.slice none 0 0) 0 [] rfl (dI _ _ _ _ _) hA0 oQ IJ (fI vs) rfl DR.o (zU vs) ?k1 ?k2 ?k3 ?_)
   case k1=>simp only[maxLen];omega
   case k2=>omega
   case k3=>have:=sX.o;omega
   intro v' w6 aW hkeep gA aA_ dO;have hvn:vs.length=oQ:=pL.o;rw[<-hvn] at aA_;have hoq:dD w6 wr.heap.size v' vs q:=⟨aA_,by rw[pL.o,yA.o],kK.up (w:=wr) (w':=w6) ZP.o gA⟩;obtain⟨h2,hv,hvs,gN⟩:=QH (w':=w6) (g:=g) hoq sX.o;clear hoq;subst hv;have tC:=lH (gN.mono (base':=g) (oO sX.o));have gQ:=lH (HK.o.trans (gA.mono (oO sX.o)));have HO6:=lH (HO.o.up gA);have ZW:Hid (∀j (h':Mh),j≠k->hs[j]?=some h'->0<h'.vs.length->0<h2.vs.length->h'.g≠h2.g):=lH fun j h' _ hh l1 l2=>by
    have h3:=HO.o.lt hh l1;have h4:=(gN.lies (by rw[<-gN.len];exact l2)).2.1;omega
   clear aW hkeep gA aA_ dO hvn hvs gN hc;have gl:=HO6.o.top.lt;have gf:=HO6.o.top.frozen;obtain⟨gv,gc⟩:∃gv,w6.cell? ⟨g,k,none⟩=some gv:=by
    rw[HO6.o.top.cell];exact⟨_,Array.getElem?_eq_getElem (by simp;rw[HO6.o.len];simp;have:=HL.o;omega)⟩
   generalize hql:q.length=ql at *;have lP:=lH hql;clear hql;(go_wp2_with fail);go_roundw
   case rel=>exact⟨k+1,hs.set k h2,aR,aQ eY.o,gQ.o.setCell lR _,by rw[<-HF.o,<-lP.o];exact HO6.o.setRow (by simp;have:=HL.o;omega) tC.o ZW.o⟩
   case measure=>exact iD.o
  ·have mL:k=n:=by omega
   subst mL;have f_:¬(k:Int)<(k:Int):=by omega
   (go_wp2_with fail);go_ret;refine⟨by rw[mA.o];exact HK.o,g,hs,by rw[HL.o];rfl,?_⟩;have h:=HO.o;rw[Nat.sub_self,List.replicate_zero,List.append_nil,nT (by rw[HL.o];exact lR)] at h;rw[mA.o];exact h
def QP(q:Rat)(w:Wo)(e:Ending)(w':Wo):Prop:=Below w.heap.size w w'/\∃v:Rv,e=.returned (.agg #[.bool v.b1,.slice v.A v.n v.c,.bool v.b2,.slice v.A2 v.m v.d])/\cU w' w'.heap.size q v
theorem RtP.qp{q:Rat}{e:Ending}(h:RtP q w e w'):QP q w e w':=by
 obtain⟨hb,b1,A,n,c,b2,A2,m,d,he,h⟩:=h;exact⟨hb,⟨b1,A,n,c,b2,A2,m,d⟩,he,h⟩
section
variable {w w':Wo} {B B':Nat} {q:Rat} {v:Rv}
theorem cU.below(h:cU w B q v)(hb:Below B' w w')(hB:B<=B'):cU w' B q v:=cQ.below h hb hB
theorem cU.more(h:cU w B q v)(hB:B<=B'):cU w B' q v:=cQ.more h hB
theorem cU.up(h:cU w w.heap.size q v)(hb:Below w.heap.size w w'):cU w' w'.heap.size q v:=cQ.up h hb
end
theorem J9{q:Rat}{v u:Rv}(h1:cU w w.heap.size p v)(h2:cU w w.heap.size q u)(hs:bE p+bE q+1<=35184372088832):Calls Tryz.prog 70 #[.agg #[.bool v.b1,.slice v.A v.n v.c,.bool v.b2,.slice v.A2 v.m v.d],.agg #[.bool u.b1,.slice u.A u.n u.c,.bool u.b2,.slice u.A2 u.m u.d]] w (QP (p*q) w):=
 (aDl p q v.b1 v.A v.n v.c v.b2 v.A2 v.m v.d u.b1 u.A u.n u.c u.b2 u.A2 u.m u.d w h1 h2 hs).mono fun _ _ h=>h.qp
theorem DO{q:Rat}{v u:Rv}(h1:cU w w.heap.size p v)(h2:cU w w.heap.size q u)(hs:bE p+bE q+1<=35184372088832):Calls Tryz.prog 69 #[.agg #[.bool v.b1,.slice v.A v.n v.c,.bool v.b2,.slice v.A2 v.m v.d],.agg #[.bool u.b1,.slice u.A u.n u.c,.bool u.b2,.slice u.A2 u.m u.d]] w (QP (p+q) w):=
 (PZ p q v.b1 v.A v.n v.c v.b2 v.A2 v.m v.d u.b1 u.A u.n u.c u.b2 u.A2 u.m u.d w h1 h2 hs).mono fun _ _ h=>h.qp
theorem MW{q:Rat}{v u:Rv}(h1:cU w w.heap.size p v)(h2:cU w w.heap.size q u)(hs:bE p+bE q+1<=35184372088832):Calls Tryz.prog 68 #[.agg #[.bool v.b1,.slice v.A v.n v.c,.bool v.b2,.slice v.A2 v.m v.d],.agg #[.bool u.b1,.slice u.A u.n u.c,.bool u.b2,.slice u.A2 u.m u.d]] w (QP (p-q) w):=
 (aDj p q v.b1 v.A v.n v.c v.b2 v.A2 v.m v.d u.b1 u.A u.n u.c u.b2 u.A2 u.m u.d w h1 h2 hs).mono fun _ _ h=>h.qp
theorem aRl{q:Rat}{v u:Rv}(h1:cU w w.heap.size p v)(h2:cU w w.heap.size q u)(hq:q≠0)(hs:bE p+bE q+1<=35184372088832):Calls Tryz.prog 120 #[.agg #[.bool v.b1,.slice v.A v.n v.c,.bool v.b2,.slice v.A2 v.m v.d],.agg #[.bool u.b1,.slice u.A u.n u.c,.bool u.b2,.slice u.A2 u.m u.d]] w (QP (p / q) w):=
 (aDt p q v.b1 v.A v.n v.c v.b2 v.A2 v.m v.d u.b1 u.A u.n u.c u.b2 u.A2 u.m u.d w h1 h2 hq hs).mono fun _ _ h=>h.qp
theorem aWG{q:Rat}{v u:Rv}(h1:cU w w.heap.size p v)(h2:cU w w.heap.size q u)(hs:bE p+bE q+1<=35184372088832):Calls Tryz.prog 118 #[.agg #[.bool v.b1,.slice v.A v.n v.c,.bool v.b2,.slice v.A2 v.m v.d],.agg #[.bool u.b1,.slice u.A u.n u.c,.bool u.b2,.slice u.A2 u.m u.d]] w (fun e w'=>e=.returned (.int .i64 (aBy p q))/\Below w.heap.size w w'):=
 aDx p q v.b1 v.A v.n v.c v.b2 v.A2 v.m v.d u.b1 u.A u.n u.c u.b2 u.A2 u.m u.d w h1 h2 hs
theorem aPv{v:Rv}(h1:cU w w.heap.size p v):Calls Tryz.prog 108 #[.agg #[.bool v.b1,.slice v.A v.n v.c,.bool v.b2,.slice v.A2 v.m v.d]] w (QP (-p) w):=
 (PV p v.b1 v.A v.n v.c v.b2 v.A2 v.m v.d w h1).mono fun _ _ h=>h.qp
theorem t7{v:Rv}(h1:cU w w.heap.size p v):Calls Tryz.prog 119 #[.agg #[.bool v.b1,.slice v.A v.n v.c,.bool v.b2,.slice v.A2 v.m v.d]] w fun e w'=>e=.returned (.int .i64 p.num.sign)/\Below w.heap.size w w':=aAs p v.b1 v.A v.n v.c v.b2 v.A2 v.m v.d w h1
theorem pV(k:Int)(w:Wo)(h0:-9223372036854775808<=k)(h1:k<=9223372036854775807):Calls Tryz.prog 66 #[.int .i64 k] w (QP (k:Rat) w):=(Z7 k w h0 h1).mono fun _ _ h=>h.qp
theorem aFt(k d:Int)(w:Wo)(h0:-9223372036854775808<=k)(h1:k<=9223372036854775807)(h2:-9223372036854775808<=d)(h3:d<=9223372036854775807)(hd:d≠0):Calls Tryz.prog 92 #[.int .i64 k,.int .i64 d] w (QP (Rat.divInt k d) w):=(aFs k d w h0 h1 h2 h3 hd).mono fun _ _ h=>h.qp
theorem aDK(h:dJ s.data.toList=0)(w:Wo):Calls Tryz.prog 67 #[.string s] w (QP (kY s) w):=(aAH h w).mono fun _ _ h=>h.qp
theorem T_{x v:Rv}(h:aD w g T #[.bool x.b1,.slice x.A x.n x.c,.bool x.b2,.slice x.A2 x.m x.d]):aD ((((w.setCell ⟨g,0,none⟩ (.bool v.b1)).setCell ⟨g,1,none⟩ (.slice v.A v.n v.c)).setCell ⟨g,2,none⟩ (.bool v.b2)).setCell ⟨g,3,none⟩ (.slice v.A2 v.m v.d)) g T #[.bool v.b1,.slice v.A v.n v.c,.bool v.b2,.slice v.A2 v.m v.d]:=fU h
theorem cU.keepq{x v u:Rv}{q:Rat}(h:cU w w.heap.size q u)(hb:aD w g T #[.bool x.b1,.slice x.A x.n x.c,.bool x.b2,.slice x.A2 x.m x.d]):cU ((((w.setCell ⟨g,0,none⟩ (.bool v.b1)).setCell ⟨g,1,none⟩ (.slice v.A v.n v.c)).setCell ⟨g,2,none⟩ (.bool v.b2)).setCell ⟨g,3,none⟩ (.slice v.A2 v.m v.d)) ((((w.setCell ⟨g,0,none⟩ (.bool v.b1)).setCell ⟨g,1,none⟩ (.slice v.A v.n v.c)).setCell ⟨g,2,none⟩ (.bool v.b2)).setCell ⟨g,3,none⟩ (.slice v.A2 v.m v.d)).heap.size q u:=by
 have B1:=hb.set_at (i:=0) (cs':=#[.bool v.b1,.slice x.A x.n x.c,.bool x.b2,.slice x.A2 x.m x.d]) (.bool v.b1) (by simp);have B2:=B1.set_at (i:=1) (cs':=#[.bool v.b1,.slice v.A v.n v.c,.bool x.b2,.slice x.A2 x.m x.d]) (.slice v.A v.n v.c) (by simp);have B3:=B2.set_at (i:=2) (cs':=#[.bool v.b1,.slice v.A v.n v.c,.bool v.b2,.slice x.A2 x.m x.d]) (.bool v.b2) (by simp);exact(((cQ.keep h (hb.cell 0) (by simp) _).keep (B1.cell 1) (by simp) _).keep (B2.cell 2) (by simp) _).keep (B3.cell 3) (by simp) _
theorem aUr{v:Rv}(h:aD w g' T cs)(hg:g'≠g):aD ((((w.setCell ⟨g,0,none⟩ (.bool v.b1)).setCell ⟨g,1,none⟩ (.slice v.A v.n v.c)).setCell ⟨g,2,none⟩ (.bool v.b2)).setCell ⟨g,3,none⟩ (.slice v.A2 v.m v.d)) g' T cs:=(((h.far hg _).far hg _).far hg _).far hg _
def E1(w:Wo)(g:Nat)(v:Rv):World:=(((w.setCell ⟨g,0,none⟩ (.bool v.b1)).setCell ⟨g,1,none⟩ (.slice v.A v.n v.c)).setCell ⟨g,2,none⟩ (.bool v.b2)).setCell ⟨g,3,none⟩ (.slice v.A2 v.m v.d)
theorem dC{a:Wo}{v:Rv}(h:Below B a w)(hg:B<=g):Below B a (E1 w g v):=I2 h hg
theorem iE.keepq{T:Nat}{x v:Rv}(h:iE w B A n qs)(hB:B<=g):iE (E1 w g v) B A n qs:=h.below (dC (Below.refl B w) hB) lR
theorem dP(k:Int)(h0:-9223372036854775808<=k)(h1:k<=9223372036854775807):bE (k:Rat)<=2:=by
 unfold bE;rw[Rat.num_intCast,Rat.den_intCast];exact Nat.max_le.2 ⟨kI (by show _<4294967296^2;omega),by decide+kernel⟩
def rN(qs:List Rat):Rat:=qs.foldl (·+·) 0
theorem CG(qs:List Rat)(q:Rat):rN (qs++[q])=rN qs+q:=by unfold rN;rw[List.foldl_append];rfl
theorem O8:∀(n:Nat)(qs:List Rat),qs.length=n->∀b,(∀q∈qs,bE q<=b)->bE (rN qs)<=n*(b+1)+1
 | 0,qs,h,b,hb=>by
  rw[List.length_eq_zero_iff] at h;subst h;show bE 0<=_;have:bE 0<=1:=by decide+kernel
  omega
 | n+1,qs,h,b,hb=>by
  obtain⟨r,q,rfl⟩:∃r q,qs=r++[q]:=⟨qs.dropLast,qs.getLast (by intro e;subst e;simp at h),(List.dropLast_concat_getLast _).symm⟩;rw[g_,List.length_singleton] at h;have h1:=O8 n r (by omega) b fun q hq=>hb q (List.mem_append_left _ hq);have h2:=hb q (by simp);rw[CG];have h3:=kJ (rN r) q;rw[Nat.succ_mul];omega
def iM(a b:List Rat):Rat:=rN (List.zipWith (·*·) a b)
def rX(u:Value):Prop:=∃x,u=.int .i64 x
theorem cU.keepsI{q:Rat}{v:Rv}(h:cU w w.heap.size q v)(k:dU rX base e w w'):cU w' w'.heap.size q v:=by
 have key:∀{A:OA}{n:Nat}{l:List Nat},jF w w.heap.size A n l->jF w' w'.heap.size A n l:=fun h=>⟨h.1,fun hn=>by
  obtain⟨b,off,e,aR,hc⟩:=h.2 hn;refine⟨b,off,e,kA aR k.size,fun j u hu=>k.cell _ _ (hc j u hu) ?_⟩;obtain⟨x,rfl⟩:=MV hu;rintro⟨y,hy⟩;cases hy⟩
 exact⟨⟨h.num.eb,h.num.en,key h.num.rd,h.num.nc,h.num.cm⟩,⟨h.den.eb,h.den.en,key h.den.rd,h.den.nc,h.den.cm⟩⟩
theorem jK.keepsI{base':Nat}{hs:List Mh}(o:jK w base g hs M)(k:dU rX base' 3 w w'):jK w' base g hs M:=
 ⟨k.blk _ _ _ o.top (by decide),o.len,o.gb,fun i h q hh hq=>by
  have r:=o.row i h q hh hq;refine⟨r.len,r.cap,r.cm,fun a p v hp hv=>(r.ok a p v hp hv).keepsI k,fun h0=>?_⟩;obtain⟨h1,h2,h3,cs,h4,h5⟩:=r.lies h0;exact⟨h1,h2,h3,cs,k.blk _ _ _ h4 (by decide),h5⟩,o.dis⟩
theorem aD.apart{t':Nat}{cs':Array Value}(h:aD w g t cs)(h':aD w g' t' cs')(ht:t≠t'):g≠g':=by
 rintro rfl;have h2:some (Obj.cells cs t (0,0))=some (Obj.cells cs' t' (0,0)):=h.symm.trans h';injection h2 with h2;injection h2 with _ h2;exact ht h2
theorem bB.far{S:Value->Prop}{size:Nat}{v u:Value}{xs:List Value}(h:bB S w base e size v n xs)(hb:aD w g t cs)(ht:e≠t):bB S (w.setCell ⟨g,i,none⟩ u) base e size v n xs:=by
 refine⟨h.1,?_⟩;rcases h.2 with h1 | ⟨b,cap,cur,h1,h2,h3,h4⟩
 ·exact .inl h1
 ·exact .inr ⟨b,cap,cur,h1,h2,h3.far (h3.apart hb ht) u,h4⟩
theorem bB.far4{S:Value->Prop}{size:Nat}{v:Value}{x:Rv}{xs:List Value}(h:bB S w base e size v n xs)(hb:aD w g t cs)(ht:e≠t):bB S (eG w g i x) base e size v n xs:=by
 have b1:=hb.set_ (i*4) (.bool x.b1);have b2:=b1.set_ (i*4+1) (.slice x.A x.n x.c);have b3:=b2.set_ (i*4+2) (.bool x.b2);exact(((h.far hb ht).far b1 ht).far b2 ht).far b3 ht
def fA(l:List Nat):List Value:=l.map fun(x:Nat)=>Value.int .i64 (x:Int)
def aWL(M:List (List Rat))(cols:Nat)(w:Wo)(e:Ending)(w':Wo):Prop:=Below w.heap.size w w'/\∃g hs v,e=.returned (.tuple #[.slice (some ⟨g,0,none⟩) M.length M.length,v])/\jK w' w.heap.size g hs (l8 M cols).1/\bB rX w' w.heap.size 3 1 v (l8 M cols).2.length (fA (l8 M cols).2)
structure jL (B0 g:Nat) (w0 wr:Wo) (v:Value) (piv:List Nat) (hs:List Mh) (L:List (List Rat)):Prop where
 own:jK wr B0 g hs L
 pv:bB rX wr B0 3 1 v piv.length (fA piv)
 low:Below B0 w0 wr
section
variable {B0 g:Nat} {w0 wr w':Wo} {v:Value} {piv:List Nat} {hs:List Mh} {L:List (List Rat)}
theorem jL.le(m:jL B0 g w0 wr v piv hs L):B0<=wr.heap.size:=b_ m.own.gb (oO m.own.top.lt)
theorem jL.up(m:jL B0 g w0 wr v piv hs L)(hb:Below wr.heap.size wr w'):jL B0 g w0 w' v piv hs L:=⟨m.own.up hb,m.pv.keep hb,m.low.trans (hb.mono m.le)⟩
theorem jL.put(m:jL B0 g w0 wr v piv hs L){h:Mh}{q:List Rat}{x:Rv}{y:Rat}(hh:hs[i]?=some h)(hq:L[i]?=some q)(hj:j<q.length)(hv:cU wr wr.heap.size y x):jL B0 g w0 (eG wr h.g j x) v piv (hs.set i ⟨h.A,h.g,h.c,h.vs.set j x⟩) (L.set i (q.set j y)):=by
 obtain⟨h1,h2,h3,cs,h4,h5⟩:=(m.own.row i h q hh hq).lies (by omega);exact⟨m.own.put hh hq hj hv,m.pv.far4 h4 (by decide),iQ m.low h2⟩
theorem jL.swap(m:jL B0 g w0 wr v piv hs L){r p:Nat}{a b:List Rat}{ha hb:Mh}(h1:hs[r]?=some ha)(h2:hs[p]?=some hb)(h3:L[r]?=some a)(h4:L[p]?=some b):jL B0 g w0 ((wr.setCell ⟨g,r,none⟩ (.slice hb.A b.length hb.c)).setCell ⟨g,p,none⟩ (.slice ha.A a.length ha.c)) v piv ((hs.set r hb).set p ha) ((L.set r b).set p a):=
 ⟨m.own.swap h1 h2 h3 h4,(m.pv.far m.own.top (by decide)).far (m.own.top.set_ _ _) (by decide),(m.low.setCell m.own.gb _).setCell m.own.gb _⟩
theorem jL.elem(m:jL B0 g w0 wr v piv hs L){q:List Rat}(hq:L[i]?=some q)(hj:j<q.length):∃(gg c:Nat)(vs:List Rv)(x:Rv),hs[i]?=some ⟨some ⟨gg,0,none⟩,gg,c,vs⟩/\wr.cell? ⟨g,i,none⟩=some (.slice (some ⟨gg,0,none⟩) q.length c)/\vs[j]?=some x/\
    wr.cell? ⟨gg,j*4,none⟩=some (.bool x.b1)/\wr.cell? ⟨gg,j*4+1,none⟩=some (.slice x.A x.n x.c)/\wr.cell? ⟨gg,j*4+2,none⟩=some (.bool x.b2)/\wr.cell? ⟨gg,j*4+3,none⟩=some (.slice x.A2 x.m x.d)/\cU wr wr.heap.size (vf q j) x/\gg<wr.heap.size/\(∀o,wr.frozen? ⟨gg,o,none⟩=false)/\g≠gg:=by
 obtain⟨⟨A,gg,c,vs⟩,hh,hc,hr⟩:=m.own.get hq;obtain⟨h1,h2,h3,cs,h4,h5⟩:=hr.lies (by omega);simp only at h1 hc;subst h1;obtain⟨x,hx⟩:∃x,vs[j]?=some x:=eE (by have:=hr.len;simp only at this;omega);obtain⟨c0,c1,c2,c3⟩:=h4.row_cell h5 hx;exact⟨gg,c,vs,x,hh,hc,hx,c0,c1,c2,c3,hr.ok j _ x (bC hj) hx,h4.lt,h4.frozen,fun e=>h3 e.symm⟩
end
theorem jL.elem2{B0:Nat}{w0:Wo}{v:Value}{piv:List Nat}{hs:List Mh}{L:List (List Rat)}(m:jL B0 g w0 wr v piv hs L){q:List Rat}{gg c:Nat}{vs:List Rv}{x:Rv}(hh:hs[i]?=some ⟨A,gg,c,vs⟩)(hq:L[i]?=some q)(hx:vs[j]?=some x):wr.cell? ⟨gg,j*4,none⟩=some (.bool x.b1)/\wr.cell? ⟨gg,j*4+1,none⟩=some (.slice x.A x.n x.c)/\wr.cell? ⟨gg,j*4+2,none⟩=some (.bool x.b2)/\wr.cell? ⟨gg,j*4+3,none⟩=some (.slice x.A2 x.m x.d)/\gg<wr.heap.size/\(∀o,wr.frozen? ⟨gg,o,none⟩=false):=by
 have hr:=m.own.row i _ q hh hq;have hxl:=(cY.1 hx).1;obtain⟨h1,h2,h3,cs,h4,h5⟩:=hr.lies (by have:=hr.len;simp only at this;omega);obtain⟨c0,c1,c2,c3⟩:=h4.row_cell h5 hx;exact⟨c0,c1,c2,c3,h4.lt,h4.frozen⟩
structure BO (wr:Wo) (g gd:Nat) (hs:List Mh) (y:Rat) (x:Rv):Prop where
 blk:aD wr gd 115 #[.bool x.b1,.slice x.A x.n x.c,.bool x.b2,.slice x.A2 x.m x.d]
 val:cU wr wr.heap.size y x
 far:∀(i:Nat)(h:Mh),hs[i]?=some h->0<h.vs.length->h.g<gd
theorem BO.up{gd:Nat}{hs:List Mh}{y:Rat}{x:Rv}(b:BO wr g gd hs y x)(hb:Below wr.heap.size wr w'):BO w' g gd hs y x:=⟨b.blk.bl hb,b.val.up hb,b.far⟩
theorem BO.put{B0 g2 gd:Nat}{w0:Wo}{v:Value}{piv:List Nat}{hs:List Mh}{L:List (List Rat)}{z:Rat}{x u:Rv}(b:BO wr g2 gd hs z u)(m:jL B0 g w0 wr v piv hs L){h:Mh}{q:List Rat}(hh:hs[i]?=some h)(hq:L[i]?=some q)(hj:j<q.length):BO (eG wr h.g j x) g2 gd (hs.set i ⟨h.A,h.g,h.c,h.vs.set j x⟩) z u:=by
 have hr:=m.own.row i h q hh hq;obtain⟨h1,h2,h3,cs,h4,h5⟩:=hr.lies (by omega);obtain⟨y,hy⟩:∃y,h.vs[j]?=some y:=eE (by rw[hr.len];exact hj);have aR:=b.far i h hh (by rw[hr.len];omega);refine⟨b.blk.far4 x (by omega),cU.keep4 b.val x h4 h5 hy,fun k h' hk l=>?_⟩;rw[List.getElem?_set] at hk;by_cases AR:i=k
 ·subst AR
  rw[if_pos rfl,if_pos (cY.1 hh).1] at hk;injection hk with hk;subst hk;exact aR
 ·rw[if_neg AR] at hk
  exact b.far k h' hk l
structure aJx (M:List (List Rat)) (N b cols k:Nat) (L:List (List Rat)) (piv:List Nat):Prop where
 ok:rM M L N piv k
 bd:Bd (4^k*b) L
 go:n_ (cols-k) L piv k=l8 M cols
theorem LJ:(Tryz.prog.info? 3).map (fun i=>(i.zero,i.size,i.bytes))=some (some (.int .i64 0),1,8):=by kernel_rfl
theorem Z2:∀u∈(Value.int .i64 0).cells.toList,rX u:=fun u hu=>by
 have QW:u∈[Value.int .i64 0]:=hu;rw[List.mem_singleton] at QW;exact⟨0,QW⟩
theorem PW(A:OA)(n c cols N b:Nat)(M:List (List Rat))(w:Wo)(hR:jP w w.heap.size A n M)(hn:n<=1000000)(hw:∀a∈M,a.length=N)(hN:N<=1000000)(hc:cols<=N)(hb:Bd b M)(hZ:4^cols*b<=4000000000000):Calls Tryz.prog 124 #[.slice A n c,.int .i64 (cols:Int)] w (aWL M cols w):=by
 obtain⟨HL,HW,eC,MP⟩:=h_ hR.len hw hZ hb;have HCP:=lH (aM_ A n c M w hR hn (fun a ha=>by rw[hw a ha];exact hN));obtain⟨i0,iW,qY,kF,kE⟩:=info_parts LJ;obtain⟨ES,wX,KN,KM⟩:=h_ iW qY kF kE;clear hR hw hb hZ iW qY kF kE;go_enter Tryz.func124,Tryz.ntmps124
 go_wp2_with fail
 refine HCP.o.mono ?_;clear HCP;rintro e w1 ⟨bO,g,hs,rfl,ho⟩;have cI:=lH bO;have rU:=lH ho;clear bO ho;rw[HL.o];generalize hB0:w.heap.size=B0 at *;have eD:=lH hB0;clear hB0;have OI:Hid (aJx M N b cols 0 M []):=lH ⟨D9 HW.o,by simpa using MP.o,rfl⟩;have SV:Hid (jL B0 g w w1 (.slice none 0 0) [] hs M):=lH ⟨rU.o,dI _ _ _ _ _,cI.o⟩;clear cI rU
 go_wp2_with fail
 go_loopw [6,7] (fun v6 v7 wr=>∃(k:Nat) (L:List (List Rat)) (piv:List Nat) (hs:List Mh),k<=cols/\v7=.int .i64 k/\aJx M N b cols k L piv/\jL B0 g w wr v6 piv hs L) (fun _ v7 _=>cols-(intOf v7).toNat)
 case atStart=>exact⟨0,M,[],hs,Nat.zero_le _,rfl,OI.o,SV.o⟩
 case round=>
  clear OI SV hs;obtain⟨k,L,piv,hs,hk,rfl,JO,VI⟩:=hrel;have gZ:=lH JO;have dE:=lH VI;have uF:Hid (L.length=n):=lH (JO.ok.len.trans HL.o);obtain⟨pA,pc,hv,hpc,hpm⟩:=VI.pv.shape;subst hv;clear JO VI;have eY:=lN k;have zJ:Hid (4^k*b<=4000000000000):=lH (b_ (M_ hk b) eC.o);by_cases aR:k<cols
  ·have f_:(k:Int)<(cols:Int):=by omega
   have iD:Hid (cols-(k+1)<cols-k):=lH (by omega);by_cases xW:piv.length<n
   ·generalize hr:piv.length=r at *
    have SR:=lH hr;clear hr;have rQ:(r:Int)<(n:Int):=by omega
    go_wp2_with fail
    go_loopw [9] (fun v9 wr=>∃p:Nat,r<=p/\p<=n/\v9=.int .i64 p/\(∀(i:Nat)(b:List Rat),L[i]?=some b->r<=i->i<p->vf b k=0)/\jL B0 g w wr (.slice pA r pc) piv hs L) (fun v9 _=>n-(intOf v9).toNat)
    case atStart=>exact⟨r,lR,by omega,rfl,fun i b _ h1 h2=>by omega,dE.o⟩
    case round=>
     clear dE;obtain⟨p,hrp,hpn,rfl,hz,VI⟩:=hrel;have dE:=lH VI;have HZ:=lH hz;clear VI hz;by_cases hp:p<n
     ·obtain⟨q,hq⟩:∃q,L[p]?=some q:=eE (by have:=uF.o;omega)
      have lP:Hid (q.length=N):=lH (gZ.o.ok.wid q (bS hq));obtain⟨gg,cc,vs,x,hh,c,hx,c0,c1,c2,c3,hv,l1,f1,cG⟩:=dE.o.elem (j:=k) hq (by have:=lP.o;omega);obtain⟨HQ,HH,HX,HV⟩:=h_ hq hh hx hv;have hpI:(p:Int)<(n:Int):=by omega
      rw[lP.o] at c;have hkN:(k:Int)<(N:Int):=by omega
      clear hq hh hx hv;by_cases h0:vf q k=0
      ·have tY:=lN p
       have m8:Hid (n-(p+1)<n-p):=lH (by omega);have HZ1:Hid (∀(i:Nat)(b:List Rat),L[i]?=some b->r<=i->i<p+1->vf b k=0):=lH fun i b h1 h2 h3=>by
        by_cases h4:i=p
        ·subst h4
         have h5:=HQ.o;rw[h1] at h5;injection h5 with h5;subst h5;exact h0
        ·exact HZ.o i b h1 h2 (by omega)
       (go_wp2_with fail);refine(t7 HV.o).mono ?_;rw[h0];rintro e w5 ⟨rfl,eJ⟩;have HM5:=lH (dE.o.up eJ);clear eJ c c0 c1 c2 c3 l1 f1 dE h0;(go_wp2_with fail);go_roundw
       case rel=>exact⟨p+1,by omega,hp,aQ tY.o,HZ1.o,HM5.o⟩
       case measure=>exact m8.o
      ·have HSG:Hid ((vf q k).num.sign≠0):=lH (fun h=>h0 (by
        have:=Int.sign_eq_zero_iff_zero.1 h;exact Rat.num_eq_zero.1 this))
       have HPV:Hid (oD L r k=p):=lH (aIa hrp HQ.o h0 HZ.o);have HNZ:Hid (vf q k≠0):=lH h0;clear h0;(go_wp2_with fail);refine(t7 HV.o).mono ?_;generalize (vf q k).num.sign=sg at *;rintro e w5 ⟨rfl,eJ⟩;have HM5:=lH (dE.o.up eJ);have hsg:(sg == 0)=false:=by have:=HSG.o;simp[this]
       have hpb:((p:Int) == (n:Int))=false:=by simp;omega
       clear eJ c c0 c1 c2 c3 l1 f1 dE HZ cG;(go_wp2_with fail);obtain⟨qr,hqr⟩:∃qr,L[r]?=some qr:=eE (by have:=uF.o;omega);have xO:Hid (qr.length=N):=lH (gZ.o.ok.wid qr (bS hqr));obtain⟨⟨rA,rg,rc,rvv⟩,hhr,c1,-⟩:=HM5.o.own.get hqr;obtain⟨_,hhp,c2,-⟩:=HM5.o.own.get HQ.o;rw[HH.o] at hhp;injection hhp with hhp;subst hhp;have hsw:=HM5.o.swap hhr HH.o hqr HQ.o;rw[xO.o,lP.o] at hsw;rw[xO.o] at c1;rw[lP.o] at c2;simp only at c1 c2 hsw;obtain⟨HQR,HHR,HSW⟩:=dZ hqr hhr hsw;have gl:=HM5.o.own.top.lt;have gf:=HM5.o.own.top.frozen;obtain⟨uu,c3⟩:∃uu,(w5.setCell ⟨g,r,none⟩ (.slice (some ⟨gg,0,none⟩) N cc)).cell? ⟨g,p,none⟩=some uu:=by
        rw[(HM5.o.own.top.set_ r _).cell];exact⟨_,Array.getElem?_eq_getElem (by simp;rw[HM5.o.own.len,uF.o];exact hp)⟩
       clear hqr hhr hsw
       go_region
       clear c1 c2 c3 gl gf;generalize (w5.setCell ⟨g,r,none⟩ (.slice (some ⟨gg,0,none⟩) N cc)).setCell ⟨g,p,none⟩ (.slice rA N rc)=w6 at *;have WU:Hid ((((L.set r q).set p qr).set r (iX (vf q k) q))=cX L r p k):=lH (aC5 HQR.o HQ.o);have HSR:Hid (((L.set r q).set p qr)[r]?=some q):=lH (aLA HQR.o HQ.o);have HL1:Hid (((L.set r q).set p qr).length=n):=lH (by rw[kV,kV,uF.o]);clear HHR HH HX HM5 HV;generalize (L.set r q).set p qr=L1 at *;generalize (hs.set r _).set p _=vH at *;obtain⟨gg,cc,vs,x,hh,c,hx,c0,c1,c2,c3,hv,l1,f1,cG⟩:=HSW.o.elem (j:=k) HSR.o (by have:=lP.o;omega);have HV:=lH hv;have gl:=HSW.o.own.top.lt;have gf:=HSW.o.own.top.frozen;rw[lP.o] at c;clear hh hx hv;(go_upto_region 14 with fail);clear c0 c1 c2 c3 gl gf l1 f1 cG;have iA:Below w6.heap.size w6 (w6.alloc (.cells #[.bool x.b1,.slice x.A x.n x.c,.bool x.b2,.slice x.A2 x.m x.d] 115)).drew:=aI (bA);have fO:Hid (BO (w6.alloc (.cells #[.bool x.b1,.slice x.A x.n x.c,.bool x.b2,.slice x.A2 x.m x.d] 115)).drew g w6.heap.size vH (vf q k) x):=lH ⟨(aD.new w6 _ _).drew,HV.o.up iA,fun i h hh l=>HSW.o.own.lt hh l⟩;have HM7:Hid (jL B0 g w (w6.alloc (.cells #[.bool x.b1,.slice x.A x.n x.c,.bool x.b2,.slice x.A2 x.m x.d] 115)).drew (.slice pA r pc) piv vH (L1.set r (uI (vf q k) k k q))):=lH (by rw[V0,PQ HSR.o];exact HSW.o.up iA);clear iA HSW HV;generalize (w6.alloc (.cells #[.bool x.b1,.slice x.A x.n x.c,.bool x.b2,.slice x.A2 x.m x.d] 115)).drew=w7 at *;generalize w6.heap.size=gd at *
       go_loopw [11] (fun v11 wr=>∃(j:Nat)(hs:List Mh),k<=j/\j<=N/\v11=.int .i64 j/\jL B0 g w wr (.slice pA r pc) piv hs (L1.set r (uI (vf q k) k j q))/\BO wr g gd hs (vf q k) x) (fun v11 _=>N-(intOf v11).toNat)
       case atStart=>exact⟨k,vH,lR,by omega,rfl,HM7.o,fO.o⟩
       case round=>
        clear HM7 fO vH;obtain⟨j,vH,VK,hjN,rfl,VI,IK⟩:=hrel;have dE:=lH VI;have fO:=lH IK;have HRJ:Hid ((L1.set r (uI (vf q k) k j q))[r]?=some (uI (vf q k) k j q)):=lH (by rw[List.getElem?_set_self (by rw[HL1.o];exact xW)]);have HDL:Hid ((uI (vf q k) k j q).length=N):=lH (by rw[RY,lP.o]);clear VI IK;by_cases hj:j<N
        ·have hjI:(j:Int)<(N:Int):=by omega
         have tY:=lN j;have m8:Hid (N-(j+1)<N-j):=lH (by omega);obtain⟨gg,cc,vs,y,hh,c,hx,c0,c1,c2,c3,hv,l1,f1,cG⟩:=dE.o.elem (j:=j) HRJ.o (by rw[HDL.o];exact hj);rw[HDL.o] at c;have gl:=dE.o.own.top.lt;obtain⟨b0,b1,b2,b3,bl⟩:=fO.o.blk.b4;have hvj:vf (uI (vf q k) k j q) j=vf q j:=kW (aJj (bC (by rw[lP.o];exact hj)));rw[hvj] at hv;obtain⟨HY,HH,HX⟩:=dZ hv hh hx;clear hh hx hv hvj;have bP:=lH (aI (Below.refl wr.heap.size wr));(go_upto_region 16 with fail);refine kQ 15 (fun hHeld=>?_);simp only[m_,List.take_zero];refine cR [0,1,2,3,4,5,6,7,8,9,10,11,12] ?_;refine bI 13 (fun K hK=>?_);go_simp;refine(aRl (HY.o.up bP.o) (fO.o.val.up bP.o) HNZ.o (by have:=gZ.o.bd.vf HQ.o (j:=j) (by rw[lP.o];exact hj);have:=gZ.o.bd.vf HQ.o (j:=k) (by rw[lP.o];omega);have:=zJ.o;omega)).mono ?_;rintro e w8 ⟨fJ,v8,rfl,h8⟩;have dS:=cJ bP fJ;have H8:=lH h8;clear fJ h8;go_simp;refine iB hK dS.o (fun hHeld=>?_);clear hK K;refine cR [14] ?_;refine eP ?_;clear hHeld;have tZ:=lH (dE.o.up dS.o);have ZN:=lH (fO.o.up dS.o);clear c c0 c1 c2 c3 l1 f1 cG gl bl b0 b1 b2 b3 dE fO;obtain⟨c0,c1,c2,c3,l1,f1⟩:=tZ.o.elem2 HH.o HRJ.o HX.o;(go_wp2_with fail);go_roundw
         case rel=>exact⟨j+1,_,by omega,hj,aQ tY.o,by
          have h:=tZ.o.put HH.o HRJ.o (by rw[HDL.o];exact hj) H8.o;rw[List.set_set,aBr VK (bC (by rw[lP.o];exact hj))] at h;exact h,ZN.o.put tZ.o HH.o HRJ.o (by rw[HDL.o];exact hj)⟩
         case measure=>exact m8.o
        ·have aVB:j=N:=by omega
         subst aVB;have hjI:¬(j:Int)<(j:Int):=by omega
         have tZ:Hid (jL B0 g w wr (.slice pA r pc) piv vH (gB (cX L r p k) (iX (vf q k) q) r k 0)):=lH (by
          rw[PU];have h:=dE.o;rw[show uI (vf q k) k j q=iX (vf q k) q from by
           have:=aFJ (d:=vf q k) (QA gZ.o.ok.ech HQ.o (by rw[SR.o];exact hrp));rw[lP.o] at this;exact this,WU.o] at h
          exact h)
         obtain⟨ra,t_,c,-⟩:=dE.o.own.get HRJ.o;rw[HDL.o] at c;have gl:=dE.o.own.top.lt;(go_wp2_with fail);clear c gl t_ dE fO HRJ HDL hjI;have xO:Hid ((iX (vf q k) q).length=j):=lH (by rw[lA,lP.o]);have HRZ:Hid (∀t,t<k->vf (iX (vf q k) q) t=0):=lH fun t ht=>aFG (QA gZ.o.ok.ech HQ.o (by rw[SR.o];exact hrp) t ht) (by rw[lP.o];omega);have uJ:Hid ((cX L r p k)[r]?=some (iX (vf q k) q)):=lH (K8 HQR.o HQ.o);have HPW:Hid (∀a∈cX L r p k,a.length=j):=lH (K7 gZ.o.ok.wid HQR.o HQ.o);have BL:Hid ((cX L r p k).length=n):=lH (by rw[u_,uF.o]);have HPE:Hid (gB (cX L r p k) (iX (vf q k) q) r k n=eL L r p k):=lH (by rw[<-uF.o];exact aAu HQ.o);have ZR:Hid (∀(i t:Nat)(a:List Rat),i≠r->(cX L r p k)[i]?=some a->t<j->bE (vf a t)+1<=4000000000000):=lH fun i t a yU ha ht=>by
          obtain⟨s,hs,_⟩:=AD HQR.o HQ.o yU ha;have:=gZ.o.bd.vf hs (j:=t) (by rw[gZ.o.ok.wid a (bS hs)];exact ht);have:=zJ.o;omega
         have HPD:Hid (∀t,t<j->bE (vf (iX (vf q k) q) t)+2<=8000000000000):=lH fun t ht=>by
          have:=aFI gZ.o.bd HQ.o (by rw[lP.o];omega) _ (bS (bC (l:=iX (vf q k) q) (i:=t) (by rw[xO.o];exact ht)));have:=zJ.o;omega
         generalize cX L r p k=M2 at *;generalize iX (vf q k) q=R at *;generalize wr=wz at *
         go_loopw [101] (fun v101 wr=>∃(i:Nat)(hs:List Mh),i<=n/\v101=.int .i64 i/\jL B0 g w wr (.slice pA r pc) piv hs (gB M2 R r k i)) (fun v101 _=>n-(intOf v101).toNat)
         case atStart=>exact⟨0,vH,Nat.zero_le _,rfl,tZ.o⟩
         case round=>
          clear tZ vH;obtain⟨i,vH,lE,rfl,VI⟩:=hrel;have dE:=lH VI;clear VI;by_cases hi:i<n
          ·have BS:(i:Int)<(n:Int):=by omega
           have tY:=lN i;have m8:Hid (n-(i+1)<n-i):=lH (by omega);by_cases yU:i=r
           ·subst yU
            (go_wp2_with fail);go_roundw
            case rel=>exact⟨i+1,vH,hi,aQ tY.o,by rw[GT];exact dE.o⟩
            case measure=>exact m8.o
           ·have hib:((i:Int) == (r:Int))=false:=by simp;omega
            obtain⟨row,gN⟩:∃row,M2[i]?=some row:=eE (by rw[BL.o];exact hi);have tC:=lH gN;have KL:Hid (row.length=j):=lH (HPW.o row (bS gN));obtain⟨gg,cc,vs,y,hh,c,hx,c0,c1,c2,c3,hv,l1,f1,cG⟩:=dE.o.elem (j:=k) (zY gN) (by rw[KL.o];omega);rw[KL.o] at c;have HV:=lH hv;have gl:=dE.o.own.top.lt;clear hh hx hv gN;by_cases h0:vf row k=0
            ·have HSK:Hid (gB M2 R r k (i+1)=gB M2 R r k i):=lH (T4 (by rw[xO.o,KL.o]) tC.o h0)
             (go_wp2_with fail);refine(t7 HV.o).mono ?_;rw[h0];rintro e w9 ⟨rfl,gD⟩;have W6:=lH (dE.o.up gD);clear gD c c0 c1 c2 c3 l1 f1 cG gl dE h0;(go_wp2_with fail);go_roundw
             case rel=>exact⟨i+1,vH,hi,aQ tY.o,by rw[HSK.o];exact W6.o⟩
             case measure=>exact m8.o
            ·have HSG:Hid ((vf row k).num.sign≠0):=lH (fun h=>h0 (by
              have:=Int.sign_eq_zero_iff_zero.1 h;exact Rat.num_eq_zero.1 this))
             clear h0;(go_wp2_with fail);refine(t7 HV.o).mono ?_;generalize (vf row k).num.sign=sg at *;rintro e w9 ⟨rfl,gD⟩;have W6:=lH (dE.o.up gD);have hsg:(sg == 0)=false:=by have:=HSG.o;simp[this]
             clear gD c c0 c1 c2 c3 l1 f1 cG gl dE HV;obtain⟨gg,cc,vs,y,hh,c,hx,c0,c1,c2,c3,hv,l1,f1,cG⟩:=W6.o.elem (j:=k) (zY tC.o) (by rw[KL.o];omega);rw[KL.o] at c;have HV:=lH hv;have gl:=W6.o.own.top.lt;clear hh hx hv;(go_upto_region 23 with fail);clear c c0 c1 c2 c3 l1 f1 cG gl;have iA:=jO w9 (.cells #[.bool y.b1,.slice y.A y.n y.c,.bool y.b2,.slice y.A2 y.m y.d] 115);have fO:Hid (BO (w9.alloc (.cells #[.bool y.b1,.slice y.A y.n y.c,.bool y.b2,.slice y.A2 y.m y.d] 115)) g w9.heap.size vH (vf row k) y):=lH ⟨aD.new w9 _ _,HV.o.up iA,fun i h hh l=>W6.o.own.lt hh l⟩;have HM7:Hid (jL B0 g w (w9.alloc (.cells #[.bool y.b1,.slice y.A y.n y.c,.bool y.b2,.slice y.A2 y.m y.d] 115)) (.slice pA r pc) piv vH ((gB M2 R r k i).set i (pB (vf row k) R k k row))):=lH (by rw[TX,PQ (zY tC.o)];exact W6.o.up iA);have HXR:Hid ((gB M2 R r k i)[r]?=some R):=lH (aHZ uJ.o);have HXE:Hid ((gB M2 R r k i).set i (xA (vf row k) R row)=gB M2 R r k (i+1)):=lH (GS yU tC.o);have HXL:Hid ((gB M2 R r k i).length=n):=lH (by rw[CN,BL.o]);clear iA W6 HV;generalize gB M2 R r k i=X at *;generalize w9.alloc (.cells #[.bool y.b1,.slice y.A y.n y.c,.bool y.b2,.slice y.A2 y.m y.d] 115)=w10 at *;generalize w9.heap.size=gf at *;generalize wr=wy at *
             go_loopw [14] (fun v14 wr=>∃(t:Nat)(hs:List Mh),k<=t/\t<=j/\v14=.int .i64 t/\jL B0 g w wr (.slice pA r pc) piv hs (X.set i (pB (vf row k) R k t row))/\BO wr g gf hs (vf row k) y) (fun v14 _=>j-(intOf v14).toNat)
             case atStart=>exact⟨k,vH,lR,by omega,rfl,HM7.o,fO.o⟩
             case round=>
              clear HM7 fO vH;obtain⟨t,vH,hkt,htj,rfl,VI,IK⟩:=hrel;have dE:=lH VI;have fO:=lH IK;have HTI:Hid ((X.set i (pB (vf row k) R k t row))[i]?=some (pB (vf row k) R k t row)):=lH (by rw[List.getElem?_set_self (by rw[HXL.o];exact hi)]);have HTR:Hid ((X.set i (pB (vf row k) R k t row))[r]?=some R):=lH (by rw[List.getElem?_set_ne yU];exact HXR.o);have ZQ:Hid ((pB (vf row k) R k t row).length=j):=lH (by rw[PG,KL.o]);clear VI IK;by_cases ht:t<j
              ·have htI:(t:Int)<(j:Int):=by omega
               have oS:=lN t;have FG:Hid (j-(t+1)<j-t):=lH (by omega);have HTV:Hid (vf (pB (vf row k) R k t row) t=vf row t):=lH (kW (aHQ (bC (by rw[KL.o];exact ht))));obtain⟨g2,cc2,vs2,z2,hh2,e0,xV,e1,e2,e3,e4,kU,l2,f2,Q3⟩:=dE.o.elem (j:=t) HTI.o (by rw[ZQ.o];exact ht);obtain⟨g3,cc3,vs3,z3,hh3,d0,NN,d1,d2,d3,d4,qI,l3,f3,aIN⟩:=dE.o.elem (j:=t) HTR.o (by rw[xO.o];exact ht);rw[ZQ.o] at e0;rw[xO.o] at d0;obtain⟨DR,HH2,gG,HH3,ZO⟩:=iS qI hh2 xV hh3 NN;have gl:=dE.o.own.top.lt;clear hh2 xV kU hh3 NN qI;by_cases h0:vf R t=0
               ·have HSK:Hid (pB (vf row k) R k (t+1) row=pB (vf row k) R k t row):=lH (aAi h0)
                (go_wp2_with fail);refine(t7 DR.o).mono ?_;rw[h0];rintro e w11 ⟨rfl,kZ⟩;have FH:=lH (dE.o.up kZ);have I9:=lH (fO.o.up kZ);clear kZ e0 e1 e2 e3 e4 l2 f2 Q3 d0 d1 d2 d3 d4 l3 f3 aIN gl dE fO h0;(go_wp2_with fail);go_roundw
                case rel=>exact⟨t+1,vH,by omega,ht,aQ oS.o,by rw[HSK.o];exact FH.o,I9.o⟩
                case measure=>exact FG.o
               ·have HSG:Hid ((vf R t).num.sign≠0):=lH (fun h=>h0 (by
                 have:=Int.sign_eq_zero_iff_zero.1 h;exact Rat.num_eq_zero.1 this))
                clear h0;(go_wp2_with fail);refine(t7 DR.o).mono ?_;generalize (vf R t).num.sign=sg2 at *;rintro e w11 ⟨rfl,kZ⟩;have FH:=lH (dE.o.up kZ);have I9:=lH (fO.o.up kZ);have aPV:(sg2 != 0)=true:=by have:=HSG.o;simp[this]
                clear kZ e0 e1 e2 e3 e4 l2 f2 Q3 d0 d1 d2 d3 d4 l3 f3 aIN gl dE fO DR HH2 gG HH3 ZO;obtain⟨g2,cc2,vs2,z2,hh2,e0,xV,e1,e2,e3,e4,kU,l2,f2,Q3⟩:=FH.o.elem (j:=t) HTI.o (by rw[ZQ.o];exact ht);obtain⟨g3,cc3,vs3,z3,hh3,d0,NN,d1,d2,d3,d4,qI,l3,f3,aIN⟩:=FH.o.elem (j:=t) HTR.o (by rw[xO.o];exact ht);rw[ZQ.o] at e0;rw[xO.o] at d0;rw[HTV.o] at kU;obtain⟨yA,DR,HH2,gG⟩:=h_ kU qI hh2 xV;have gl:=FH.o.own.top.lt;obtain⟨b0,b1,b2,b3,bl⟩:=I9.o.blk.b4;have bP:=lH (aI (Below.refl w11.heap.size w11));have HZ1:Hid (bE (vf row k)+1<=4000000000000):=lH (ZR.o i k row yU tC.o (by omega));have HZ2:Hid (bE (vf row t)+1<=4000000000000):=lH (ZR.o i t row yU tC.o ht);have HZ3:Hid (bE (vf R t)+2<=8000000000000):=lH (HPD.o t ht);clear hh2 xV kU hh3 NN qI;(go_upto_region 26 with fail);refine kQ 23 (fun hHeld=>?_);simp only[m_,List.take_zero];refine cR [0,1,2,3,4,5,6,7,8,9,10,11,12,13,14,15,16,17,18,19] ?_;refine bI 20 (fun K hK=>?_);go_simp;refine(J9 (I9.o.val.up bP.o) (DR.o.up bP.o) (by have:=HZ1.o;have:=HZ3.o;omega)).mono ?_;rintro e w12 ⟨RH,v12,rfl,h12⟩;have JK:=cJ bP RH;have H12:=lH h12;clear RH h12;go_simp;refine iB hK JK.o (fun hHeld=>?_);clear hK K;refine bI 21 (fun K hK=>?_);go_simp;refine(MW (yA.o.up JK.o) H12.o (by have:=HZ1.o;have:=HZ3.o;have:=HZ2.o;have:=eF (vf row k) (vf R t);omega)).mono ?_;rintro e w13 ⟨aQ9,v13,rfl,h13⟩;have aOf:=cJ JK aQ9;have H13:=lH h13;clear aQ9 h13;go_simp;refine iB hK aOf.o (fun hHeld=>?_);clear hK K;refine cR [22] ?_;refine eP ?_;clear hHeld;have aNY:=lH (FH.o.up aOf.o);have aNm:=lH (I9.o.up aOf.o);clear e0 e1 e2 e3 e4 l2 f2 Q3 d0 d1 d2 d3 d4 l3 f3 aIN gl bl b0 b1 b2 b3 FH I9 bP JK aOf yA DR H12;obtain⟨e1,e2,e3,e4,l2,f2⟩:=aNY.o.elem2 HH2.o HTI.o gG.o;(go_wp2_with fail);go_roundw
                case rel=>exact⟨t+1,_,by omega,ht,aQ oS.o,by
                 have h:=aNY.o.put HH2.o HTI.o (by rw[ZQ.o];exact ht) H13.o;rw[List.set_set,aAh hkt (bC (by rw[KL.o];exact ht))] at h;exact h,aNm.o.put aNY.o HH2.o HTI.o (by rw[ZQ.o];exact ht)⟩
                case measure=>exact FG.o
              ·have aUM:t=j:=by omega
               subst aUM;have htI:¬(t:Int)<(t:Int):=by omega
               have FH:Hid (jL B0 g w wr (.slice pA r pc) piv vH (gB M2 R r k (i+1))):=lH (by
                have h:=dE.o;rw[show pB (vf row k) R k t row=xA (vf row k) R row from by
                 have:=aC8 (f:=vf row k) (R:=R) (row:=row) (by rw[xO.o,KL.o]) HRZ.o;rw[KL.o] at this;exact this,HXE.o] at h
                exact h)
               obtain⟨ra2,t_,c,-⟩:=dE.o.own.get HTI.o;rw[ZQ.o] at c;have gl:=dE.o.own.top.lt;clear t_;(go_wp2_with fail);go_roundw
               case rel=>exact⟨i+1,vH,hi,aQ tY.o,FH.o⟩
               case measure=>exact m8.o
          ·have aMA:i=n:=by omega
           subst aMA;have BS:¬(i:Int)<(i:Int):=by omega
           have tZ:Hid (jL B0 g w wr (.slice pA r pc) piv vH (eL L r p k)):=lH (by rw[<-HPE.o];exact dE.o);have F3:Hid (aJx M j b cols (k+1) (eL L r p k) (piv++[k])):=lH (by
            have cG:oD L piv.length k≠L.length:=by rw[SR.o,HPV.o,uF.o];omega
            have aQe:piv.length<L.length:=by rw[SR.o,uF.o];exact xW
            have h1:=gZ.o.ok.step (by omega) aQe cG;rw[SR.o,HPV.o] at h1;refine⟨h1,?_,?_⟩
            ·rw[Nat.pow_succ,Nat.mul_comm (4^k) 4,Nat.mul_assoc]
             exact aFY gZ.o.bd gZ.o.ok.wid HQR.o HQ.o (by omega)
            ·have h:=gZ.o.go
             rw[show cols-k=(cols-(k+1))+1 from by omega,T7 (p:=p) aQe (by rw[SR.o];exact HPV.o) (by rw[uF.o];omega),SR.o] at h;exact h)
           have HPO:Hid (bB rX wr B0 3 1 (.slice pA r pc) r (fA piv)):=lH (by have h:=tZ.o.pv;rw[SR.o] at h;exact h);have E8:=tZ.o.le;clear dE;(go_upto_region 28 with fail)
           go_wp2_with (at_builtin;refine rB (S:=rX) rfl (.tmp 168) (.tmp 170) _ rfl B0 3 i0 _ 1 8 Tryz.underlying30 ES.o wX.o KN.o KM.o rfl (by omega) Z2 (.slice pA r pc) r (fA piv) rfl HPO.o rfl rfl ?k1 ?k2 ?k3 E8 ?_)
           case k1=>simp[Value.oneCell',rX]
           case k2=>simp only[maxLen];omega
           case k3=>omega
           intro v' w9 aW hk9 dO;have W6:Hid (jL B0 g w w9 v' (piv++[k]) vH (eL L r p k)):=lH (by
            have gD:=jO wr (.cells #[.int .i64 (k:Int)] 3);refine⟨(tZ.o.own.up gD).keepsI hk9,?_,(tZ.o.low.trans (gD.mono E8)).trans hk9.low⟩;rw[g_,List.length_singleton,SR.o];unfold fA;rw[List.map_append];exact aW)
           clear aW hk9 dO tZ HPO E8;(go_wp2_with fail);go_roundw
           case rel=>exact⟨k+1,_,_,vH,aR,aQ eY.o,F3.o,W6.o⟩
           case measure=>exact iD.o
     ·have aU5:p=n:=by omega
      subst aU5;have hpI:¬(p:Int)<(p:Int):=by omega
      have HPV:Hid (oD L piv.length k=L.length):=lH (aDG (by rw[uF.o,SR.o];exact hrp) (fun i b h1 h2=>HZ.o i b h1 (by rw[<-SR.o];exact h2) (by rw[<-uF.o];exact(cY.1 h1).1)));have F3:Hid (aJx M N b cols (k+1) L piv):=lH ⟨gZ.o.ok.skip HPV.o,gZ.o.bd.mono (M_ (Nat.le_succ k) b),by
       have h:=gZ.o.go;rw[show cols-k=(cols-(k+1))+1 from by omega,T8 (by rw[uF.o,SR.o];exact xW) HPV.o] at h;exact h⟩
      (go_wp2_with fail);go_roundw
      case rel=>exact⟨k+1,L,piv,hs,aR,aQ eY.o,F3.o,dE.o⟩
      case measure=>exact iD.o
   ·have rQ:¬(piv.length:Int)<(n:Int):=by omega
    have JI:Hid (l8 M cols=(L,piv)):=lH (by rw[<-gZ.o.go];exact T9 (by rw[uF.o];exact xW));generalize hr:piv.length=r at *;have SR:=lH hr;clear hr;(go_wp2_with fail);go_ret2;refine⟨by rw[eD.o];exact dE.o.low,g,hs,.slice pA r pc,by rw[HL.o];rfl,?_,?_⟩
    ·rw[JI.o,eD.o];exact dE.o.own
    ·rw[JI.o,eD.o];exact dE.o.pv
  ·have f_:¬(k:Int)<(cols:Int):=by omega
   have JI:Hid (l8 M cols=(L,piv)):=lH (by
    rw[<-gZ.o.go,show cols-k=0 from by omega];rfl)
   generalize hr:piv.length=r at *;have SR:=lH hr;clear hr;(go_wp2_with fail);go_ret2;refine⟨by rw[eD.o];exact dE.o.low,g,hs,.slice pA r pc,by rw[HL.o];rfl,?_,?_⟩
   ·rw[JI.o,eD.o];exact dE.o.own
   ·rw[JI.o,eD.o];exact dE.o.pv
theorem aHB(A:OA)(n c:Nat)(M:List (List Rat))(w:Wo)(hR:jP w w.heap.size A n M)(hn:n<=1000000):Calls Tryz.prog 125 #[.slice A n c] w fun e w'=>e=.returned (.int .i64 (uW M:Int))/\w=w':=by
 cases M with
 | nil=>
  have h0:n=0:=hR.len.symm;subst h0;clear hR;go_enter Tryz.func125,Tryz.ntmps125
  (go_wp2_with fail);go_ret;exact⟨rfl,rfl⟩
 | cons a r=>
  have hl:n=r.length+1:=hR.len.symm;have h0:0<n:=by omega
  obtain⟨b,off,hA,hb⟩:=hR.form h0;subst hA;obtain⟨h,hc,hq,-,-⟩:=hR.at_ (i:=0) (q:=a) rfl;have hw:uW (a::r)=h.n:=hq.len;rw[hw];obtain⟨hA,Q4,VP⟩:=h;simp only at hc ⊢;rw[Nat.add_zero] at hc;have qL:=World.block_lt_of_cell? w _ hc;simp only at qL;have hnz:((n:Int) == 0)=false:=by simp;omega
  have hni:(0:Int)<(n:Int):=by omega
  have HW:=lH hw;clear hl hR hq hw;go_enter Tryz.func125,Tryz.ntmps125
  (go_wp2_with fail);go_ret;exact⟨rfl,rfl⟩
structure aBQ (M:List (List Rat)) (N b:Nat):Prop where
 wid:∀a∈M,a.length=N
 bd:Bd b M
 sz:4^N*b<=4000000000000
 len:M.length<=1000000
 n:N<=1000000
theorem Z6{N:Nat}(h:∀a∈M,a.length=N):uW M<=N:=by
 cases M with
 | nil=>exact Nat.zero_le _
 | cons a r=>exact Nat.le_of_eq (h a (List.mem_cons_self ..))
theorem aDy(A:OA)(n c N b:Nat)(M:List (List Rat))(w:Wo)(hR:jP w w.heap.size A n M)(ok:aBQ M N b):Calls Tryz.prog 86 #[.slice A n c] w fun e w'=>e=.returned (.int .i64 (cK M:Int))/\Below w.heap.size w w':=by
 have hn:n<=1000000:=by rw[<-hR.len];exact ok.len
 have HL:=lH hR.len;have H1:=lH (aHB A n c M w hR hn);have hwl:=Z6 ok.wid;have H2:=lH (PW A n c (uW M) N b M w hR hn ok.wid ok.n hwl ok.bd (b_ (M_ hwl b) ok.sz));clear hR ok hwl;go_enter Tryz.func86,Tryz.ntmps86
 go_wp2_with fail
 refine H1.o.mono ?_;rintro e w' ⟨rfl,rfl⟩
 go_wp2_with fail
 refine H2.o.mono ?_;rintro e w1 ⟨bO,g,hs,v,rfl,-,hp⟩;obtain⟨pA,pc,hv,-,-⟩:=hp.shape;subst hv;have cI:=lH bO;have HRK:Hid ((l8 M (uW M)).2.length=cK M):=lH rfl;clear hp bO;generalize (l8 M (uW M)).2.length=rk at *
 go_wp2_with fail
 go_ret;exact⟨by rw[<-HRK.o];rfl,cI.o⟩
end
section
open Go.ChangeShapes Go.WideShapes Go.ChangeAt Go.RowKit Go.Joins
theorem rC{ops:Array Oper}{rest:List Oper}{o:Oper}{a:Act}{Q:Exit->Act->World->Prop}{w:Wo}{T:TypeId}(yW:o.guard=none)(s x:Operand)(t:TypeId)(ho:o.op=.call { callee:=.builtin .append,args:=#[s,x],argTypes:=#[t,t] })(base:Nat)(ht:Tryz.prog.underlying t=some (.slice 115))(v:Value)(vs:List Rv)(qs:List Rat)(hs:a.eval s=v)(aW:dD w base v vs qs)(u:Rv)(q:Rat)(hq:cU w w.heap.size q u)(hx:a.eval x=.slice (some ⟨w.heap.size,0,none⟩) 1 1)(uO:qs.length<=1000000000000)(cD:base<=w.heap.size)(h:∀v' w',dD w' base v' (vs++[u]) (qs++[q])->dU o9 base 115 (w.alloc (.cells #[.bool u.b1,.slice u.A u.n u.c,.bool u.b2,.slice u.A2 u.m u.d] T)) w'->Below base w w'->wpList Tryz.prog ops Q rest (a.put o.dst v') w'):wpList Tryz.prog ops Q (o::rest) a (w.alloc (.cells #[.bool u.b1,.slice u.A u.n u.c,.bool u.b2,.slice u.A2 u.m u.d] T)):=by
 obtain⟨i0,iW,qY,kF,kE⟩:=pP;have hl:=aW.len;refine rB (S:=o9) yW s x t ho base 115 i0 _ 4 64 ht iW qY kF kE rfl (by omega) uS v vs.length (fI vs) hs aW.own hx rfl (CL u) (by simp only[maxLen];omega) (by omega) cD fun v' w' h1 h2 _=>?_;have hb:=jO w (.cells #[.bool u.b1,.slice u.A u.n u.c,.bool u.b2,.slice u.A2 u.m u.d] T);exact h v' w' (dD.app (aW.keep hb) (hq.up hb) h1 h2) h2 ((hb.mono cD).trans h2.low)
end
