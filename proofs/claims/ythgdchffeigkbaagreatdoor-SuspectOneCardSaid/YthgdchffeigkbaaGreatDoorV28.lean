import Derived.Test.YthgdchffeigkbaaGreatDoorV23
import Derived.Test.YthgdchffeigkbaaGreatDoorV24
import Derived.Test.YthgdchffeigkbaaGreatDoorV25
set_option linter.unusedVariables false
set_option linter.unusedSimpArgs false
namespace Go.Proofs.YthgdchffeigkbaaGreatDoor
set_option maxHeartbeats 4000000
set_option maxRecDepth 100000
section
open Go.ChangeShapes Go.WideShapes Go.ChangeAt Go.RowKit
attribute [local go_sem ↓] aE
attribute [local go_sem] aJ aI aM aR
theorem PJ{q:Rat}(h:q.num.natAbs<10^5/\q.den<10^5):bP q:=Tn.fits (k:=5) h (by decide)
def mwB:Mi:=⟨1,⟨#[66]⟩,⟨#[48]⟩,1⟩
def mwL:List Mi:=[⟨0,⟨#[76]⟩,⟨#[48]⟩,1⟩]
def mwA:List ByteArray:=[⟨#[48]⟩,⟨#[45,53]⟩,⟨#[45,55]⟩]
theorem Z5:aS cJ mwB=([-1,3,-2],0):=by decide+kernel
theorem MS:dJ cJ [mwB]=0/\iZ cJ mwL mwA=0/\aH cJ=3/\aA cJ=[1,2]/\b_ cJ=0:=by decide+kernel
theorem aE9:eT cJ mwL mwA=[5]:=by decide+kernel
theorem aNr:bN (-1)=⟨#[45,49]⟩/\bN 3=⟨#[51]⟩/\bN (-2)=⟨#[45,50]⟩/\bN 0=⟨#[48]⟩/\bN 5=⟨#[53]⟩:=by decide+kernel
theorem aNs:(∀q∈(aS cJ mwB).1,bP q)/\bP (aS cJ mwB).2:=by
 rw[Z5];refine⟨fun q hq=>?_,PJ (by decide+kernel)⟩;simp only[List.mem_cons,List.not_mem_nil,or_false] at hq;rcases hq with rfl | rfl | rfl<;>exact PJ (by decide+kernel)
theorem aJi:∀q∈eT cJ mwL mwA,bP q:=by
 rw[aE9];intro q hq;rw[List.mem_singleton.1 hq];exact PJ (by decide+kernel)
theorem WQ:(aS cJ mwB).1.map bN=[⟨#[45,49]⟩,⟨#[51]⟩,⟨#[45,50]⟩]/\bN (aS cJ mwB).2=⟨#[48]⟩/\(eT cJ mwL mwA).map bN=[⟨#[53]⟩]:=by
 rw[Z5,aE9];obtain⟨h1,h2,h3,h4,h5⟩:=aNr;simp only[List.map_cons,List.map_nil,h1,h2,h3,h4,h5,and_self]
theorem aLp:(∀m∈mwL,m.txt.size<=maxLen)/\∀s∈mwA,s.size<=maxLen:=by decide+kernel
theorem uD(w:Wo)(ht:dM w):Calls Tryz.prog 21 #[] w fun e w'=>e=.returned (.bool true)/\Below w.heap.size w w':=by
 have HT:=lH ht;clear ht;go_enter Tryz.func21,Tryz.ntmps21
 go_wp2_with fail
 refine(kK w).mono ?_;rintro e w1 ⟨h1,rfl,O7,bC⟩;obtain⟨bT,vY,zM⟩:=d_ bC O7 (HT.o.up bC);clear bC O7
 go_wp2_with fail
 refine(aJl h1 cJ (by decide) mwB w1 vY.o (by decide) zM.o (fun _=>aNs)).mono ?_;rintro e w2 ⟨bH,hh⟩;rcases hh with⟨h0,_⟩ | ⟨_,A2,c2,rfl,wY⟩
 ·exact absurd MS.1 h0
 rw[WQ.1,MS.2.2.1] at wY;rw[WQ.2.1,MS.2.2.1];have cH:=bW bT bH;have HV:=lH wY;clear bH wY vY zM bT
 go_wp2_with fail
 refine(kK w2).mono ?_;rintro e w3 ⟨h3,rfl,vR,cN⟩;have dY:=bW cH cN;have E5:=lH vR;replace HV:=lH (HV.o.bm cN);clear cN vR cH
 go_wp2_with fail
 refine(jQ ⟨#[76]⟩ ⟨#[48]⟩ w3).mono ?_;rintro e w4 ⟨rfl,eR⟩;have bM:=bW dY eR;replace E5:=lH (E5.o.up eR);replace HV:=lH (HV.o.bm eR);clear eR dY
 go_wp2_with fail
 have hz:Below w4.heap.size w4 ((w4.alloc (.cells #[.int .i64 0,.string ⟨#[76]⟩,.string ⟨#[48]⟩,.int .i64 1] 57)).alloc (.cells #[.string ⟨#[48]⟩,.string ⟨#[45,53]⟩,.string ⟨#[45,55]⟩] 55)):=(bA).alloc (by simp) _;have HM:Hid (fP ((w4.alloc (.cells #[.int .i64 0,.string ⟨#[76]⟩,.string ⟨#[48]⟩,.int .i64 1] 57)).alloc (.cells #[.string ⟨#[48]⟩,.string ⟨#[45,53]⟩,.string ⟨#[45,55]⟩] 55)) ((w4.alloc (.cells #[.int .i64 0,.string ⟨#[76]⟩,.string ⟨#[48]⟩,.int .i64 1] 57)).alloc (.cells #[.string ⟨#[48]⟩,.string ⟨#[45,53]⟩,.string ⟨#[45,55]⟩] 55)).heap.size (some ⟨w4.heap.size,0,none⟩) 1 mwL):=lH ⟨rfl,I_ (vs:=mwL.flatMap Mi.cells) (T:=57) ((aG.new w4 _ _).alloc _) rfl (by simp;omega)⟩;have HA:Hid (aY ((w4.alloc (.cells #[.int .i64 0,.string ⟨#[76]⟩,.string ⟨#[48]⟩,.int .i64 1] 57)).alloc (.cells #[.string ⟨#[48]⟩,.string ⟨#[45,53]⟩,.string ⟨#[45,55]⟩] 55)) ((w4.alloc (.cells #[.int .i64 0,.string ⟨#[76]⟩,.string ⟨#[48]⟩,.int .i64 1] 57)).alloc (.cells #[.string ⟨#[48]⟩,.string ⟨#[45,53]⟩,.string ⟨#[45,55]⟩] 55)).heap.size (some ⟨w4.heap.size+1,0,none⟩) 3 mwA):=lH (fF (zs:=mwA) (T:=55) (aG.new_ (w:=(w4.alloc (.cells #[.int .i64 0,.string ⟨#[76]⟩,.string ⟨#[48]⟩,.int .i64 1] 57))) (by simp)) (by simp));have eK:=bW bM hz;replace E5:=lH (E5.o.up hz);replace HV:=lH (HV.o.bm hz);have HT5:=lH (HT.o.up eK.o);clear hz bM;generalize (w4.alloc (.cells #[.int .i64 0,.string ⟨#[76]⟩,.string ⟨#[48]⟩,.int .i64 1] 57)).alloc (.cells #[.string ⟨#[48]⟩,.string ⟨#[45,53]⟩,.string ⟨#[45,55]⟩] 55)=w5 at *;refine(yD h3 cJ (by decide) _ 1 1 mwL _ 3 3 mwA w5 E5.o HM.o HA.o aLp.1 aLp.2 (by decide) (by decide) HT5.o).mono ?_;rintro e w6 ⟨fT,hh⟩;rcases hh with⟨h0,_⟩ | ⟨_,hh,-⟩
 ·exact absurd MS.2.1 h0
 obtain⟨A6,n6,c6,rfl,hs6,-,-⟩:=hh aJi;rw[WQ.2.2] at hs6;have hn6:n6=1:=hs6.1.symm;subst hn6;have fL:=bW eK fT;have HW:=lH hs6;replace HV:=lH (HV.o.bm fT);clear fT hs6 eK E5 HM HA HT5 hh
 go_wp2_with fail
 refine(kK w6).mono ?_;rintro e w7 ⟨h7,rfl,hr7,iA⟩;have j_:=bW fL iA;have KK:=lH hr7;replace HV:=lH (HV.o.bm iA);replace HW:=lH (HW.o.bm iA);clear iA hr7 fL
 go_wp2_with fail
 refine(TB h7 cJ (by decide) w7 KK.o).mono ?_;rintro e w8 ⟨gP,hh⟩;rcases hh with⟨h0,_⟩ | ⟨_,A8,c8,rfl,hi8⟩
 ·exact absurd MS.2.2.2.2 h0
 rw[MS.2.2.2.1] at hi8 ⊢;have dR:=bW j_ gP;have HI:Hid (o_ w8 w8.heap.size A8 2 [1,2]):=lH hi8;replace HV:=lH (HV.o.bm gP);replace HW:=lH (HW.o.bm gP);clear gP hi8 j_ KK;simp only[GS,zW_,Nat.zero_add]
 go_wp2_with fail
 have hz:=jT w8 (.cells #[.string ⟨#[45,49]⟩,.string ⟨#[51]⟩,.string ⟨#[45,50]⟩] 55);have HLa:Hid (aY (w8.alloc (.cells #[.string ⟨#[45,49]⟩,.string ⟨#[51]⟩,.string ⟨#[45,50]⟩] 55)) (w8.alloc (.cells #[.string ⟨#[45,49]⟩,.string ⟨#[51]⟩,.string ⟨#[45,50]⟩] 55)).heap.size (some ⟨w8.heap.size,0,none⟩) 3 [⟨#[45,49]⟩,⟨#[51]⟩,⟨#[45,50]⟩]):=lH (fF (zs:=[⟨#[45,49]⟩,⟨#[51]⟩,⟨#[45,50]⟩]) (T:=55) (aG.new_ (w:=w8) (by simp)) (by simp));have eV:=bW dR hz;replace HV:=lH (HV.o.bm hz);replace HW:=lH (HW.o.bm hz);replace HI:=lH (HI.o.bm hz);clear hz dR;generalize w8.alloc (.cells #[.string ⟨#[45,49]⟩,.string ⟨#[51]⟩,.string ⟨#[45,50]⟩] 55)=w9 at *;refine(oU A2 3 c2 _ _ 3 3 _ w9 HV.o HLa.o (by decide) (by decide)).mono ?_;rintro e w10 ⟨rfl,mW⟩;rw[decide_eq_true rfl];have L7:=bW eV mW;replace HW:=lH (HW.o.bm mW);replace HI:=lH (HI.o.bm mW);clear mW eV HV HLa
 go_wp2_with fail
 have hz:=jT w10 (.cells #[.string ⟨#[53]⟩] 55);have HLb:Hid (aY (w10.alloc (.cells #[.string ⟨#[53]⟩] 55)) (w10.alloc (.cells #[.string ⟨#[53]⟩] 55)).heap.size (some ⟨w10.heap.size,0,none⟩) 1 [⟨#[53]⟩]):=lH (fF (zs:=[⟨#[53]⟩]) (T:=55) (aG.new_ (w:=w10) (by simp)) (by simp));have q_:=bW L7 hz;replace HW:=lH (HW.o.bm hz);replace HI:=lH (HI.o.bm hz);clear hz L7;generalize w10.alloc (.cells #[.string ⟨#[53]⟩] 55)=w11 at *;refine(oU A6 1 c6 _ _ 1 1 _ w11 HW.o HLb.o (by decide) (by decide)).mono ?_;rintro e w12 ⟨rfl,GI⟩;rw[decide_eq_true rfl];have uW:=bW q_ GI;replace HI:=lH (HI.o.bm GI);clear GI q_ HW HLb
 go_wp2_with fail
 have hz:=jT w12 (.cells #[.int .i64 1,.int .i64 2] 3);have HJ:Hid (o_ (w12.alloc (.cells #[.int .i64 1,.int .i64 2] 3)) (w12.alloc (.cells #[.int .i64 1,.int .i64 2] 3)).heap.size (some ⟨w12.heap.size,0,none⟩) 2 [1,2]):=lH (I_ (vs:=ints [1,2]) (T:=3) (aG.new w12 _ _) rfl (by simp));have QK:=bW uW hz;replace HI:=lH (HI.o.bm hz);clear hz uW;generalize w12.alloc (.cells #[.int .i64 1,.int .i64 2] 3)=w13 at *;refine(BL A8 2 c8 [1,2] _ 2 2 [1,2] w13 HI.o HJ.o (by decide)).mono ?_;rintro e w14 ⟨rfl,nq,rfl⟩;have a04:=lH (bD QK.o nq);rw[show MD [1,2] [1,2]=true from by decide];generalize w13.drewN nq=w14 at *
 go_wp2_with fail
 go_ret;exact⟨rfl,a04.o⟩
theorem qH{q:Rat}(h:bP q):(bN q).size<=maxLen:=by have:=RB h;unfold maxLen;omega
end
