import Derived.Test.YthgdchffeigkbaaGreatDoorW19
import Derived.Test.YthgdchffeigkbaaGreatDoorW20
set_option linter.unusedVariables false
set_option linter.unusedSimpArgs false
namespace Go.Proofs.YthgdchffeigkbaaGreatDoor
set_option maxHeartbeats 8000000
set_option maxRecDepth 100000
variable {e : Ending} {w w' : World}
section
def EL:bK where
 nodes:=[⟨#[78]⟩,⟨#[65,48]⟩,⟨#[66,48]⟩]
 sws:=[⟨⟨#[83,48]⟩,⟨#[78]⟩,⟨#[65,48]⟩,true,false⟩]
 brs:=[⟨⟨#[76,48]⟩,⟨#[65,48]⟩,⟨#[66,48]⟩,1000,1000,0,0,0,0⟩]
 gns:=[⟨⟨#[71]⟩,⟨#[78]⟩,0,9,0⟩]
 lds:=[]
 sts:=[]
theorem aMX:aF5 [999]=EL:=by
 have e1:zM 65 0=⟨#[65,48]⟩/\zM 66 0=⟨#[66,48]⟩/\zM 83 0=⟨#[83,48]⟩/\zM 76 0=⟨#[76,48]⟩/\chX 999=1000:=by decide+kernel
 obtain⟨a,b,c,d,e⟩:=e1;show bK.mk [⟨#[78]⟩,zM 65 0,zM 66 0] [⟨zM 83 0,⟨#[78]⟩,zM 65 0,true,false⟩] [⟨zM 76 0,zM 65 0,zM 66 0,chX 999,1000,0,0,0,0⟩] _ _ _=_;rw[a,b,c,d,e];rfl
def DF:List Mi:=[⟨0,⟨#[76,48]⟩,⟨#[53]⟩,1⟩]
theorem aRi:cN EL DF=0:=by decide+kernel
theorem aFk:∀m∈DF,m.txt.size<=maxLen:=by decide+kernel
theorem aMW:o5 EL DF:=by unfold o5 Reg;decide+kernel
theorem VT:cE EL DF=[0,-5]:=by decide+kernel
theorem YR:dM EL [0,-5]=[5]:=by decide+kernel
theorem aMV:cW EL DF (cE EL DF)=[0]:=by decide+kernel
theorem aMU:iU 5=⟨#[53]⟩:=by decide+kernel
theorem aMY:∀q∈cE EL DF,cH q:=by
 rw[VT];intro q hq;simp only[List.mem_cons,List.not_mem_nil,or_false] at hq;rcases hq with rfl | rfl<;>exact aFx (by decide+kernel)
theorem aI5:∀q∈dM EL (cE EL DF),cH q:=by
 rw[VT,YR];intro q hq;simp only[List.mem_cons,List.not_mem_nil,or_false] at hq;subst hq;exact aFx (by decide+kernel)
theorem aMT:(dM EL (cE EL DF)).map iU=[⟨#[53]⟩]:=by
 rw[VT,YR];simp only[List.map_cons,List.map_nil,aMU]
theorem YS:rV EL DF 0:=.inr (.inr (.inr ⟨aRi,aMW,aMY,rfl⟩))
theorem aI7{b:Int}(h:iO (cW EL DF (cE EL DF)) (kP EL DF) DF.length b):b=-1:=by
 refine h.one (.inl ⟨rfl,fun k hk hw=>hw.1 ?_⟩);rw[aMV];have:k=0:=by
  have hk':k<1:=hk;omega
 subst this;decide+kernel
theorem aM2{r:List Nat}(h:ClG EL (List.range DF.length) DF [] r):r=[]:=by
 cases h with
 | done hw hb=>rfl
 | step hw hk h=>have:=aI7 hw;omega
theorem aMZ:cmE EL [] DF=0:=by decide+kernel
theorem aM0:(JU EL [] DF).length=1:=by
 have e:(EP EL [] DF).2=[0]:=by decide+kernel
 unfold JU;rw[e];rfl
end
section
open Go.ChangeShapes Go.WideShapes Go.ChangeAt Go.RowKit
attribute [local go_sem ↓] aE
attribute [local go_sem] aL aK aO a_
theorem aFl(h:aGg EL DF w e w'):Below w.heap.size w w'/\∃A n c B d,e=.returned (.tuple #[.agg #[.slice A n c,.slice B 1 d],.int .i64 0])/\bD w' w'.heap.size B 1 [⟨#[53]⟩]:=by
 obtain⟨hb,⟨c,h0,⟨h1,-⟩ | ⟨-,h1,-⟩ | ⟨-,-,h1⟩,-⟩ | ⟨-,-,A,n,c,B,m,d,rfl,-,h3,-⟩⟩:=h
 ·exact absurd (h1.one YS) h0
 ·exact absurd aI5 h1
 ·exact absurd h1 h0
 ·rw[aMT] at h3
  have hn:m=1:=h3.1.symm;subst hn;exact⟨hb,A,n,c,B,d,rfl,h3⟩
theorem aI6(h:aTk EL DF w e w'):Below w.heap.size w w'/\∃A c,e=.returned (.tuple #[.slice A 0 c,.int .i64 0]):=by
 obtain⟨hb,⟨c,h0,h1,-⟩ | ⟨-,r,A,c,h1,rfl,h2,-,-⟩⟩:=h
 ·exact absurd (h1.one YS) h0
 ·have e:=aM2 h1
  subst e;exact⟨hb,A,c,rfl⟩
theorem aM1(h:aGW EL [] DF w e w'):Below w.heap.size w w'/\∃A c,e=.returned (.tuple #[.slice A 1 c,.int .i64 0]):=by
 obtain⟨hb,⟨h0,-⟩ | ⟨-,A,c,rfl,-⟩⟩:=h
 ·exact absurd aMZ h0
 ·exact⟨hb,A,c,by rw[aM0]⟩
theorem Q7(w:Wo)(ht:fL w):Calls Tryz.prog 15 #[] w fun e w'=>e=.returned (.bool true)/\Below w.heap.size w w':=by
 have HT:=lH ht;clear ht;go_enter Tryz.func15,Tryz.ntmps15
 go_wp2_with fail
 have hz:=jO w (.cells #[.int .i64 999] 3);refine(aBD _ 1 1 [999] (w.alloc (.cells #[.int .i64 999] 3)) (M7 (vs:=ints [999]) (aD.new w 3 #[.int .i64 999]) rfl (by simp)) (by decide) (by decide)).mono ?_;rintro e w1 ⟨bO,h,rfl,hr1⟩;rw[aMX] at hr1;have cI:=lH (hz.tm bO);have BK:=lH hr1;clear hz bO hr1;obtain⟨D0,r0,s0,D1,r1,s1,D2,r2,s2,D3,r3,s3,D4,r4,s4,D5,r5,s5⟩:=h;dsimp only[bZ.cells]
 go_upto_region 2 with fail
 have hz:=jO w1 (.cells #[.slice D0 r0 s0,.slice D1 r1 s1,.slice D2 r2 s2,.slice D3 r3 s3,.slice D4 r4 s4,.slice D5 r5 s5] 29);have HB:=cJ cI hz;have P2:Hid (aD (w1.alloc (.cells #[.slice D0 r0 s0,.slice D1 r1 s1,.slice D2 r2 s2,.slice D3 r3 s3,.slice D4 r4 s4,.slice D5 r5 s5] 29)) w1.heap.size 29 (bZ.cells ⟨D0,r0,s0,D1,r1,s1,D2,r2,s2,D3,r3,s3,D4,r4,s4,D5,r5,s5⟩)):=lH (aD.new w1 _ _);have HR:=lH (BK.o.up hz);clear hz cI BK;generalize w1.alloc (.cells #[.slice D0 r0 s0,.slice D1 r1 s1,.slice D2 r2 s2,.slice D3 r3 s3,.slice D4 r4 s4,.slice D5 r5 s5] 29)=w2 at *;generalize w1.heap.size=gn at *
 go_upto_region 3 with fail
 have hz:=jO w2 (.cells #[.int .i64 0,.string ⟨#[76,48]⟩,.string ⟨#[53]⟩,.int .i64 1] 57);replace HB:=lH (HB.o.tm hz);replace P2:=lH (P2.o.bl hz);replace HR:=lH (HR.o.up hz);have HM:Hid (eB (w2.alloc (.cells #[.int .i64 0,.string ⟨#[76,48]⟩,.string ⟨#[53]⟩,.int .i64 1] 57)) (w2.alloc (.cells #[.int .i64 0,.string ⟨#[76,48]⟩,.string ⟨#[53]⟩,.int .i64 1] 57)).heap.size (some ⟨w2.heap.size,0,none⟩) 1 DF):=lH ⟨rfl,M7 (vs:=DF.flatMap Mi.cells) (T:=57) (aD.new w2 _ _) rfl (by simp)⟩;have F2:=lH (HT.o.up HB.o);clear hz;generalize w2.alloc (.cells #[.int .i64 0,.string ⟨#[76,48]⟩,.string ⟨#[53]⟩,.int .i64 1] 57)=w2a at *;generalize w2.heap.size=gl at *;obtain⟨y0,y1,y2,y3,y4,y5,nf,nlt⟩:=aX P2.o;dsimp only at y0 y1 y2 y3 y4 y5
 go_wp2_with fail
 refine(CI _ EL (by decide) _ 1 1 DF w2a HR.o HM.o aFk (by decide) F2.o).mono ?_;intro e w3 hh;obtain⟨hb,A3,n3,c3,B3,d3,rfl,hs⟩:=aFl hh;have hz:=jO w3 (.cells #[.slice A3 n3 c3,.slice B3 1 d3] 37);have oY:=hb.tm hz;replace HB:=lH (HB.o.tm oY);replace HR:=lH (HR.o.up oY);replace HM:=lH (HM.o.bm oY);replace P2:=lH (P2.o.bl oY);have HS:Hid (bD (w3.alloc (.cells #[.slice A3 n3 c3,.slice B3 1 d3] 37)) (w3.alloc (.cells #[.slice A3 n3 c3,.slice B3 1 d3] 37)).heap.size B3 1 [⟨#[53]⟩]):=lH (hs.bm hz);have PS:=lH (aD.new w3 37 #[.slice A3 n3 c3,.slice B3 1 d3]);replace F2:=lH (HT.o.up HB.o);clear hh hb hz oY hs y0 y1 y2 y3 y4 y5 nf nlt
 go_upto_region 4 with fail
 generalize w3.alloc (.cells #[.slice A3 n3 c3,.slice B3 1 d3] 37)=w4 at *;generalize w3.heap.size=gs at *;obtain⟨y0,y1,y2,y3,y4,y5,nf,nlt⟩:=aX P2.o;dsimp only at y0 y1 y2 y3 y4 y5
 go_wp2_with fail
 refine(aBA _ EL (by decide) _ 1 1 DF w4 HR.o HM.o aFk (by decide) F2.o).mono ?_;intro e w5 hh;obtain⟨hb,A5,c5,rfl⟩:=aI6 hh;replace HB:=lH (HB.o.tm hb);replace HR:=lH (HR.o.up hb);replace HM:=lH (HM.o.bm hb);replace P2:=lH (P2.o.bl hb);replace HS:=lH (HS.o.bm hb);replace PS:=lH (PS.out.bl hb);replace F2:=lH (HT.o.up HB.o);clear hh hb y0 y1 y2 y3 y4 y5 nf nlt;obtain⟨y0,y1,y2,y3,y4,y5,nf,nlt⟩:=aX P2.o;dsimp only at y0 y1 y2 y3 y4 y5
 go_wp2_with fail
 refine(L8 _ EL (by decide) none 0 0 [] _ 1 1 DF w5 HR.o ⟨rfl,rfl,fun h=>absurd h (by decide)⟩ HM.o (fun m hm=>absurd hm List.not_mem_nil) aFk (by decide) (by decide) F2.o).mono ?_;intro e w6 hh;obtain⟨hb,A6,c6,rfl⟩:=aM1 hh;replace HB:=lH (HB.o.tm hb);replace HS:=lH (HS.o.bm hb);replace PS:=lH (PS.out.bl hb);clear hh hb y0 y1 y2 y3 y4 y5 nf nlt HR HM P2 F2;have q1:=PS.out.cell 1;have ql:=PS.out.lt
 go_wp2_with fail
 have hz:=jO w6 (.cells #[.string ⟨#[53]⟩] 55);have HL:Hid (bD (w6.alloc (.cells #[.string ⟨#[53]⟩] 55)) (w6.alloc (.cells #[.string ⟨#[53]⟩] 55)).heap.size (some ⟨w6.heap.size,0,none⟩) 1 [⟨#[53]⟩]):=lH (nG (zs:=[⟨#[53]⟩]) (T:=55) (aD.new_ (w:=w6) (by simp)) (by simp));replace HB:=lH (HB.o.tm hz);replace HS:=lH (HS.o.bm hz);clear hz q1 ql PS;generalize w6.alloc (.cells #[.string ⟨#[53]⟩] 55)=w7 at *;refine(nZ B3 1 d3 _ _ 1 1 _ w7 HS.o HL.o (by decide) (by decide)).mono ?_;rintro e w8 ⟨rfl,hb⟩;rw[decide_eq_true rfl];replace HB:=lH (HB.o.tm hb);clear hb HL HS
 go_wp2_with fail
 go_ret;exact⟨rfl,HB.o⟩
end
