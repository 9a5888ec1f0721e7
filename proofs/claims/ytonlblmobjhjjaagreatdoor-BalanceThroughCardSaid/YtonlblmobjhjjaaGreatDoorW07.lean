import Derived.Test.YtonlblmobjhjjaaGreatDoorW05
import Derived.Test.YtonlblmobjhjjaaGreatDoorW06
set_option linter.unusedVariables false
set_option linter.unusedSimpArgs false
namespace Go.Proofs.YtonlblmobjhjjaaGreatDoor
set_option maxHeartbeats 8000000
set_option maxRecDepth 100000
variable {L : List Oper} {c : UInt8} {ex : List Nat} {n : Nat}
section
open Go.ChangeShapes Go.WideShapes Go.ChangeAt Go.RowKit
attribute [local go_sem ↓] aE
attribute [local go_sem] aJ aI aL
def Y1(c:UInt8):Bool:=decide (48<=c.toNat/\c.toNat<=57)
def eJ(l:List UInt8):Int:=if l.all Y1 then(if l=[]\/(1<l.length/\l.head?=some 48) then 5 else if 2000<l.length then 2 else 0) else 5
theorem PD{l:List UInt8}:l.all Y1=true<->gW l:=by
 rw[List.all_eq_true];unfold gW GH Y1;exact⟨fun h c hc=>by simpa using h c hc,fun h c hc=>by simpa using h c hc⟩
theorem nR{l:List UInt8}:eJ l=0<->yE l/\l.length<=2000:=by
 unfold eJ yE;by_cases h:l.all Y1=true
 ·rw[if_pos h]
  have ha:=PD.1 h;by_cases h1:l=[]\/(1<l.length/\l.head?=some 48)
  ·rw[if_pos h1]
   refine⟨fun e=>(by cases e),fun⟨⟨g1,g2,g3⟩,g4⟩=>?_⟩;rcases h1 with h1 | ⟨h1,h2⟩
   ·exact absurd h1 g1
   ·exact absurd h2 (g3 h1)
  ·rw[if_neg h1]
   have hn:l≠[]:=fun e=>h1 (.inl e);have hz:1<l.length->l.head?≠some 48:=fun g e=>h1 (.inr ⟨g,e⟩)
   by_cases h2:2000<l.length
   ·rw[if_pos h2]
    exact⟨fun e=>(by cases e),fun⟨_,g⟩=>by omega⟩
   ·rw[if_neg h2]
    exact⟨fun _=>⟨⟨hn,ha,hz⟩,by omega⟩,fun _=>rfl⟩
 ·rw[if_neg h]
  exact⟨fun e=>(by cases e),fun⟨⟨_,g,_⟩,_⟩=>absurd (PD.2 g) h⟩
theorem rE(s:ByteArray)(w:Wo)(hs:s.size<=maxLen):Calls Tryz.prog 140 #[.string s] w fun e w'=>e=.returned (.int .i64 (eJ s.data.toList))/\Below w.heap.size w w':=by
 have M7:=fun w=>run_bytes_of_string (P:=Tryz.prog) w 9 180 5 s Tryz.underlying9 Tryz.underlying180 Tryz.underlying5;unfold maxLen at hs;go_enter Tryz.func140,Tryz.ntmps140
 go_wp2_with fail
 clear M7;generalize grownCap w s.size 0 5=cap;have gH:∀k (h:k<s.data.size),(w.alloc (.cells (bytesRow s cap) 5 ((bytesRow s cap).size,(bytesRow s cap).size+1))).cell? ⟨w.heap.size,k,none⟩=some (.int .u8 (s.data[k].toNat:Int)):=fun k h=>by
  rw[World.cell?_alloc_mark,bytesRow_at s cap k h]
 have HC:=lH gH;have K0:Below w.heap.size w (w.alloc (.cells (bytesRow s cap) 5 ((bytesRow s cap).size,(bytesRow s cap).size+1))).drew:=aH (bA);have HK:=lH K0;have aEB:w.heap.size<(w.alloc (.cells (bytesRow s cap) 5 ((bytesRow s cap).size,(bytesRow s cap).size+1))).heap.size:=by simp
 clear gH K0;generalize (w.alloc (.cells (bytesRow s cap) 5 ((bytesRow s cap).size,(bytesRow s cap).size+1)))=w1 at *
 go_loop [4,8] (fun _ i=>∃k:Nat,k<=s.size/\i=.int .i64 k/\s.data.toList.all Y1=(s.data.toList.drop k).all Y1) (fun _ i=>s.size-(intOf i).toNat)
 case atStart=>exact⟨0,by omega,rfl,rfl⟩
 case round=>
  obtain⟨k,hk,rfl,mG⟩:=hrel;have HG:=lH mG;clear mG;by_cases aR:k<s.size
  ·obtain⟨n,hn,LA⟩:∃n:Nat,n<256/\n=(s.data[k]'aR).toNat:=⟨_,UInt8.toNat_lt _,rfl⟩
   have hc:=HC.o k aR;rw[<-LA] at hc;have hd:s.data.toList.drop k=s.data[k]'aR::s.data.toList.drop (k+1):=by
    rw[List.drop_eq_getElem_cons (by simp;exact aR)];simp
   have HD:Hid ((s.data.toList.drop k).all Y1=(decide (48<=n/\n<=57) && (s.data.toList.drop (k+1)).all Y1)):=lH (by rw[hd,LA];rfl);have iM:(k:Int)<(s.size:Int):=by omega
   clear hd LA;by_cases h48:n<48
   ·have HN:Hid (eJ s.data.toList=5):=lH (by unfold eJ;rw[HG.o,HD.o,decide_eq_false (by omega),Bool.false_and];rfl)
    (go_wp2_with fail);go_ret;exact⟨aQ HN.o.symm,HK.o⟩
   ·by_cases h57:57<n
    ·have HN:Hid (eJ s.data.toList=5):=lH (by unfold eJ;rw[HG.o,HD.o,decide_eq_false (by omega),Bool.false_and];rfl)
     (go_wp2_with fail);go_ret;exact⟨aQ HN.o.symm,HK.o⟩
    ·have HN:Hid (s.data.toList.all Y1=(s.data.toList.drop (k+1)).all Y1):=lH (by rw[HG.o,HD.o,decide_eq_true (by omega),Bool.true_and])
     go_wp2_with fail
     go_round
     case rel=>exact⟨k+1,by omega,by go_num,HN.o⟩
     case measure=>simp[intOf];omega
  ·have hd:s.data.toList.drop k=[]:=by rw[List.drop_eq_nil_iff];simp;exact Nat.le_of_not_lt aR
   have HA:Hid (s.data.toList.all Y1=true):=lH (by rw[HG.o,hd];rfl);have iM:¬(k:Int)<(s.size:Int):=by omega
   have HS:=lH (Lib.size_eq s);clear hd;by_cases h0:s.size=0
   ·have hl:s.data.toList=[]:=List.eq_nil_of_length_eq_zero (by have:=HS.o;omega)
    have HN:Hid (eJ s.data.toList=5):=lH (by rw[hl];rfl);have hs0:s=⟨#[]⟩:=by apply ByteArray.ext;apply Array.ext';simpa using hl
    subst hs0;(go_wp2_with fail);go_ret;exact⟨aQ HN.o.symm,HK.o⟩
   ·obtain⟨c,r,hcr⟩:∃c r,s.data.toList=c::r:=by
     cases hl:s.data.toList with
     | nil=>exact absurd (by have:=HS.o;rw[hl] at this;simpa using this) h0
     | cons c r=>exact⟨c,r,rfl⟩
    have hem:s.toList.isEmpty=false:=by rw[ByteArray.toList_eq,hcr];rfl
    have cK:s.toList≠[]:=fun e=>by rw[e] at hem;cases hem
    have aSI:∀h:0<s.size,(s[0]'h).toNat=c.toNat:=fun h=>by
     have:s.data.toList[0]?=some c:=by rw[hcr];rfl
     have h2:s.data[0]?=some c:=by simpa using this
     obtain⟨h3,h4⟩:=Array.getElem?_eq_some_iff.1 h2;show(s.data[0]'h3).toNat=_;rw[h4]
    have HCR:=lH hcr;have MX:0<s.size:=by omega
    have HSL:Hid (s.size=r.length+1):=lH (by rw[HS.o,hcr];rfl);clear hcr;by_cases h1:1<s.size
    ·have h1I:(1:Int)<(s.size:Int):=by omega
     by_cases h48:c.toNat=48
     ·have aNs:((c.toNat:Int) == 48)=true:=by rw[h48];rfl
      have HN:Hid (eJ s.data.toList=5):=lH (by
       unfold eJ;rw[HA.o,if_pos rfl,if_pos (.inr ⟨by rw[<-HS.o];exact h1,by rw[HCR.o];exact congrArg some (UInt8.toNat_inj.1 h48)⟩)])
      (go_wp2_with fail);go_ret;exact⟨aQ HN.o.symm,HK.o⟩
     ·have aNs:((c.toNat:Int) == 48)=false:=by simp;omega
      have hno:¬(s.data.toList=[]\/(1<s.data.toList.length/\s.data.toList.head?=some 48)):=by
       rw[HCR.o];rintro(h | ⟨_,h⟩)
       ·cases h
       ·injection h with h;subst h;exact h48 rfl
      have HNO:=lH hno;clear hno;by_cases h2:2000<s.size
      ·have h2I:(2000:Int)<(s.size:Int):=by omega
       have HN:Hid (eJ s.data.toList=2):=lH (by unfold eJ;rw[HA.o,if_pos rfl,if_neg HNO.o,if_pos (by rw[<-HS.o];exact h2)]);(go_wp2_with fail);go_ret;exact⟨aQ HN.o.symm,HK.o⟩
      ·have h2I:¬(2000:Int)<(s.size:Int):=by omega
       have HN:Hid (eJ s.data.toList=0):=lH (by unfold eJ;rw[HA.o,if_pos rfl,if_neg HNO.o,if_neg (by rw[<-HS.o];exact h2)]);(go_wp2_with fail);go_ret;exact⟨aQ HN.o.symm,HK.o⟩
    ·have h1I:¬(1:Int)<(s.size:Int):=by omega
     have h2I:¬(2000:Int)<(s.size:Int):=by omega
     have HN:Hid (eJ s.data.toList=0):=lH (by
      unfold eJ;have hl:=HS.o;rw[HA.o,if_pos rfl,if_neg (by rw[HCR.o];rintro(h | ⟨h,_⟩);cases h;rw[HCR.o] at hl;omega),if_neg (by omega)])
     (go_wp2_with fail);go_ret;exact⟨aQ HN.o.symm,HK.o⟩
theorem DR(s:ByteArray):rdT false s.data.toList=s:=by
 apply ByteArray.ext;simp[rdT]
def TwP(y z:Int)(w:Wo)(e:Ending)(w':Wo):Prop:=Below w.heap.size w w'/\∃b A n c b2 B m d,e=.returned (.tuple #[.agg #[.bool b,.slice A n c],.agg #[.bool b2,.slice B m d],.int .i64 0])/\bE w' w'.heap.size y b A n c/\bE w' w'.heap.size z b2 B m d
theorem aDZ(s t:ByteArray)(w:Wo)(h1:eJ s.data.toList=0)(h2:eJ t.data.toList=0):Calls Tryz.prog 156 #[.string s,.string t] w (TwP (dv s.data.toList) (dv t.data.toList) w):=by
 obtain⟨⟨_,k1,_⟩,k2⟩:=nR.1 h1;obtain⟨⟨_,k3,_⟩,k4⟩:=nR.1 h2;have HD1:Hid (gW s.data.toList):=lH k1;have HD2:Hid (gW t.data.toList):=lH k3;have T4:Hid (s.size<=2000):=lH (by rw[Lib.size_eq];exact k2);have N6:Hid (t.size<=2000):=lH (by rw[Lib.size_eq];exact k4);have gB:=lH h1;have e_:=lH h2;have jL:∀w,(Instr.index 257 (.agg #[.string s,.string t]) (.int .i64 0)).run Tryz.prog w=.ok (.string s) w:=fun _=>by kernel_rfl
 have R1:∀w,(Instr.index 257 (.agg #[.string s,.string t]) (.int .i64 1)).run Tryz.prog w=.ok (.string t) w:=fun _=>by kernel_rfl
 have yT:=lH jL;have xK:=lH R1;have cI:Hid (Below w.heap.size w ((w.alloc bU).alloc bU)):=lH ((bA).alloc (by simp) _);have dE:Hid (aD ((w.alloc bU).alloc bU) w.heap.size 85 #[.bool false,.slice none 0 0]):=lH ((aD.new w _ _).alloc _);have eT:Hid (aD ((w.alloc bU).alloc bU) (w.heap.size+1) 85 #[.bool false,.slice none 0 0]):=lH (aD.new_ (by simp));clear h1 h2 k1 k2 k3 k4 jL R1;go_enter Tryz.func156,Tryz.ntmps156
 go_wp2_with fail
 generalize ((w.alloc bU).alloc bU)=W at *
 go_loopw [8,9,13] (fun v8 v9 i wr=>∃k:Nat,k<=2/\i=.int .i64 k/\Below w.heap.size w wr/\aD wr w.heap.size 85 #[.bool false,.slice none 0 0]/\aD wr (w.heap.size+1) 85 #[.bool false,.slice none 0 0]) (fun _ _ i _=>2-(intOf i).toNat)
 case atStart=>exact⟨0,by omega,rfl,cI.o,dE.o,eT.o⟩
 case round=>
  clear cI dE eT;obtain⟨k,hk,rfl,hb,CK,xV⟩:=hrel;obtain⟨HB,dE,eT⟩:=eR hb CK xV;clear hb CK xV;have hc:k=0\/k=1\/k=2:=by omega
  rcases hc with rfl | rfl | rfl
  ·have e:(((0:Nat):Int))=0:=rfl
   rw[e];clear e;have jL:=yT.o;(go_wp2_with fail);refine(rE s wr (by have:=T4.o;unfold maxLen;omega)).mono ?_;rw[gB.o];rintro e w1 ⟨rfl,bG⟩;have cR:=bX HB bG;have tH:=lH (dE.o.bl bG);have SX:=lH (eT.o.bl bG);clear bG HB dE eT jL;(go_wp2_with fail);go_roundw
   case rel=>exact⟨1,by omega,rfl,cR.o,tH.o,SX.o⟩
   case measure=>simp[intOf]
  ·have e:(((1:Nat):Int))=1:=rfl
   rw[e];clear e;have R1:=xK.o;(go_wp2_with fail);refine(rE t wr (by have:=N6.o;unfold maxLen;omega)).mono ?_;rw[e_.o];rintro e w1 ⟨rfl,bG⟩;have cR:=bX HB bG;have tH:=lH (dE.o.bl bG);have SX:=lH (eT.o.bl bG);clear bG HB dE eT R1;(go_wp2_with fail);go_roundw
   case rel=>exact⟨2,by omega,rfl,cR.o,tH.o,SX.o⟩
   case measure=>simp[intOf]
  ·have e:(((2:Nat):Int))=2:=rfl
   rw[e];clear e;(go_wp2_with fail);have c1:=t6 false s.data.toList HD1.o (by have:=T4.o;rw[Lib.size_eq] at this;omega) wr;rw[DR] at c1;refine c1.mono ?_;clear c1;rintro e w1 ⟨bG,f1,C1,i1,j1,rfl,h1⟩;have cR:=bX HB bG;obtain⟨tH,SX,H1⟩:=eR (dE.o.bl bG) (eT.o.bl bG) h1;clear bG HB dE eT h1;(go_wp2_with fail);have c2:=t6 false t.data.toList HD2.o (by have:=N6.o;rw[Lib.size_eq] at this;omega) w1;rw[DR] at c2;refine c2.mono ?_;clear c2;rintro e w2 ⟨bV,f2,C2,i2,j2,rfl,h2⟩;have dB:=bX cR bV;obtain⟨NY,aFj,H12,H22⟩:=gO (tH.o.bl bV) (SX.o.bl bV) (H1.o.up bV) h2;have e10:w.heap.size+1≠w.heap.size:=by omega
   have e01:w.heap.size≠w.heap.size+1:=by omega
   clear bV cR tH SX h2 H1;obtain⟨y0,y1,yf,yl⟩:=NY.o.e2;obtain⟨z0,z1,zf,zl⟩:=aFj.o.e2;(go_wp2_with fail);clear y0 y1 yf yl z0 z1 zf zl;generalize hw3:(w2.setCell ⟨w.heap.size,0,none⟩ (.bool f1)).setCell ⟨w.heap.size,1,none⟩ (.slice C1 i1 j1)=w3;have aFl:Hid (aD w3 w.heap.size 85 #[.bool f1,.slice C1 i1 j1]):=lH (by rw[<-hw3];exact bD NY.o);have Z4:Hid (aD w3 (w.heap.size+1) 85 #[.bool false,.slice none 0 0]):=lH (by rw[<-hw3];exact(aFj.o.far e10 _).far e10 _);have gY:Hid (Below w.heap.size w w3):=lH (by rw[<-hw3];exact bQ dB.o lR);have H13:Hid (bE w3 w3.heap.size (CT false s.data.toList) f1 C1 i1 j1):=lH (by rw[<-hw3];exact(H12.o.keep (NY.o.cell 0) (by simp) _).keep ((NY.o.set_ 0 (.bool f1)).cell 1) (by simp) _);have H23:Hid (bE w3 w3.heap.size (CT false t.data.toList) f2 C2 i2 j2):=lH (by rw[<-hw3];exact(H22.o.keep (NY.o.cell 0) (by simp) _).keep ((NY.o.set_ 0 (.bool f1)).cell 1) (by simp) _);clear hw3 NY aFj dB H12 H22;generalize yH:(w3.setCell ⟨w.heap.size+1,0,none⟩ (.bool f2)).setCell ⟨w.heap.size+1,1,none⟩ (.slice C2 i2 j2)=w4;have aNO:Hid (aD w4 w.heap.size 85 #[.bool f1,.slice C1 i1 j1]):=lH (by rw[<-yH];exact(aFl.o.far e01 _).far e01 _);have aNN:Hid (aD w4 (w.heap.size+1) 85 #[.bool f2,.slice C2 i2 j2]):=lH (by rw[<-yH];exact bD Z4.o);have bH:Hid (Below w.heap.size w w4):=lH (by rw[<-yH];exact bQ gY.o (Nat.le_succ _));have H14:Hid (bE w4 w4.heap.size (CT false s.data.toList) f1 C1 i1 j1):=lH (by rw[<-yH];exact(H13.o.keep (Z4.o.cell 0) (by simp) _).keep ((Z4.o.set_ 0 (.bool f2)).cell 1) (by simp) _);have H24:Hid (bE w4 w4.heap.size (CT false t.data.toList) f2 C2 i2 j2):=lH (by rw[<-yH];exact(H23.o.keep (Z4.o.cell 0) (by simp) _).keep ((Z4.o.set_ 0 (.bool f2)).cell 1) (by simp) _);clear yH;obtain⟨q0,q1⟩:=aNO.o.a2;obtain⟨q2,q3⟩:=aNN.o.a2;exact bodyPost_ret (v:=.tuple #[.agg #[.bool f1,.slice C1 i1 j1],.agg #[.bool f2,.slice C2 i2 j2],.int .i64 0]) (by simp[results,Tryz.results156,go_sem,q0,q1,q2,q3]) rfl ⟨bH.o,f1,C1,i1,j1,f2,C2,i2,j2,rfl,H14.o,H24.o⟩
theorem WA(v:Nat)(b:Bool)(A:OA)(n c:Nat)(w:Wo)(h:bE w w.heap.size (v:Int) b A n c)(ht:eY w)(hv:sF v<=2000):Calls Tryz.prog 157 #[.agg #[.bool b,.slice A n c]] w fun e w'=>e=.returned (.tuple #[.string ⟨(Lib.decDigits v).toArray⟩,.int .i64 0])/\Below w.heap.size w w':=by
 have cI:Hid (Below w.heap.size w (w.alloc (aK b A n c))):=lH (bA);obtain⟨dE,H1,HT⟩:=eR (aD.new w 85 #[.bool b,.slice A n c]) (h.up cI.o) (ht.up cI.o);have hf:sF (v:Int).natAbs<=2000:=by rw[Int.natAbs_natCast];exact hv
 have HF:=lH hf;have LF:Hid (gR (v:Int)=Lib.decDigits v):=lH (by unfold gR;rw[if_neg (Int.not_lt.2 (Int.natCast_nonneg v)),Int.natAbs_natCast,List.nil_append]);clear h ht hf;go_enter Tryz.func157,Tryz.ntmps157
 go_upto_region 1 with fail
 generalize w.alloc (aK b A n c)=W at *;obtain⟨p0,p1,pl⟩:=dE.o.b2
 go_wp2_with fail
 refine(wX (v:Int) b A n c W H1.o HT.o).mono ?_;rintro e w1 ⟨bG,s,he,hs,-⟩;rw[decide_eq_true HF.o] at he;have yI:=hs HF.o;rw[LF.o] at yI;subst yI;subst he;have cR:=bX cI bG;clear bG hs p0 p1 pl
 go_wp2_with fail
 go_ret2;exact⟨rfl,cR.o⟩
theorem YA{a b:Nat}(ha:a<10^2000)(hb:b<10^2000):sF (a.gcd b)<=2000:=by
 refine MH (by decide) ?_;rcases Nat.eq_zero_or_pos a with h | h
 ·subst h;rw[Nat.gcd_zero_left];exact hb
 ·exact zT_ (Nat.gcd_le_left _ h) ha
theorem aBv(s t:ByteArray)(w:Wo)(h1:eJ s.data.toList=0)(h2:eJ t.data.toList=0)(ht:eY w):Calls Tryz.prog 141 #[.string s,.string t] w fun e w'=>e=.returned (.tuple #[.string ⟨(Lib.decDigits ((dv s.data.toList).gcd (dv t.data.toList))).toArray⟩,.int .i64 0])/\Below w.heap.size w w':=by
 obtain⟨HT,gB,e_⟩:=eR ht h1 h2;have aR:∀l:List UInt8,eJ l=0->dv l<10^2000/\cE (dv l)<=2000:=fun l h=>by
  obtain⟨⟨_,k1,_⟩,k2⟩:=nR.1 h;have h3:=sO k2;have h4:=jJ (JV k1) h3;exact⟨h4,eN (F5 k1) k2⟩
 have HA:=lH (aR _ h1);have HC:=lH (aR _ h2);clear ht h1 h2 aR;go_enter Tryz.func141,Tryz.ntmps141
 go_wp2_with fail
 refine(aDZ s t w gB.o e_.o).mono ?_;rintro e w1 ⟨bG,f1,C1,i1,j1,f2,C2,i2,j2,rfl,g1,g2⟩;have HK:Hid (Below w1.heap.size w1 ((w1.alloc (aK f1 C1 i1 j1)).alloc (aK f2 C2 i2 j2))):=lH ((bA).alloc (by simp) _);have cR:=lH (bG.tm HK.o);have dE:Hid (aD ((w1.alloc (aK f1 C1 i1 j1)).alloc (aK f2 C2 i2 j2)) w1.heap.size 85 #[.bool f1,.slice C1 i1 j1]):=lH ((aD.new w1 _ _).alloc _);have eT:Hid (aD ((w1.alloc (aK f1 C1 i1 j1)).alloc (aK f2 C2 i2 j2)) (w1.heap.size+1) 85 #[.bool f2,.slice C2 i2 j2]):=lH (aD.new_ (by simp));have H1:=lH (g1.up HK.o);have H2:=lH (g2.up HK.o);have hn1:i1<=2000:=by rw[g1.en,Int.natAbs_natCast];exact HA.o.2
 have LA:i2<=2000:=by rw[g2.en,Int.natAbs_natCast];exact HC.o.2
 clear bG g1 g2
 go_upto_region 2 with fail
 generalize ((w1.alloc (aK f1 C1 i1 j1)).alloc (aK f2 C2 i2 j2))=W at *;obtain⟨p0,p1,pl⟩:=dE.o.b2;obtain⟨q0,q1,ql⟩:=eT.o.b2
 go_wp2_with fail
 refine(O5 (dv s.data.toList:Int) (dv t.data.toList:Int) f1 C1 i1 j1 f2 C2 i2 j2 W H1.o H2.o (eN hn1 (by decide)) (eN LA (by decide))).mono ?_;rw[Int.natAbs_natCast,Int.natAbs_natCast];rintro e w3 ⟨eF,f3,C3,i3,j3,rfl,g3⟩;have gY:=bX cR eF;have H3:=lH g3;clear eF g3 p0 p1 pl q0 q1 ql
 go_wp2_with fail
 refine(WA _ f3 C3 i3 j3 w3 H3.o (HT.o.up gY.o) (YA HA.o.1 HC.o.1)).mono ?_;rintro e w4 ⟨rfl,h_⟩;have bH:=bX gY h_;clear h_
 go_wp2_with fail
 go_ret2;exact⟨rfl,bH.o⟩
def fQ(c:UInt8):List UInt8->List UInt8×List UInt8×Bool
 | []=>([],[],false)
 | x::r=>if x=c then([],r,true) else(x::(fQ c r).1,(fQ c r).2.1,(fQ c r).2.2)
theorem F_:∀{l:List UInt8},c∉l->fQ c l=(l,[],false)
 | [],_=>rfl
 | x::r,h=>by
  have h1:x≠c:=fun e=>h (by rw[e];exact List.mem_cons_self ..);unfold fQ;rw[if_neg h1,F_ fun hm=>h (List.mem_cons_of_mem _ hm)]
theorem J5:∀{a b:List UInt8},c∉a->fQ c (a++c::b)=(a,b,true)
 | [],b,_=>by simp[fQ]
 | x::r,b,h=>by
  have h1:x≠c:=fun e=>h (by rw[e];exact List.mem_cons_self ..);rw[List.cons_append,fQ,if_neg h1,J5 fun hm=>h (List.mem_cons_of_mem _ hm)]
theorem NI(c:UInt8):∀l:List UInt8,(Lib.indexByte l c=-1/\fQ c l=(l,[],false))\/(∃i:Nat,Lib.indexByte l c=(i:Int)/\i+1<=l.length/\fQ c l=(l.take i,l.drop (i+1),true))
 | []=>.inl ⟨rfl,rfl⟩
 | x::r=>by
  unfold Lib.indexByte fQ;by_cases h:x=c
  ·right
   exact⟨0,by simp[h],by simp,by simp[h]⟩
  ·have hb:(x == c)=false:=by simpa using h
   rw[hb,if_neg h];rcases NI c r with⟨h1,h2⟩ | ⟨i,h1,h2,h3⟩
   ·left
    rw[h1,h2];simp
   ·right
    refine⟨i+1,?_,by simp;omega,by rw[h3];simp⟩;rw[h1];have:((i:Int) == -1)=false:=by simp
    simp[this]
theorem PF:∀{l:List UInt8},(fQ c l).2.2=true->l=(fQ c l).1++c::(fQ c l).2.1/\c∉(fQ c l).1
 | [],h=>by cases h
 | x::r,h=>by
  unfold fQ at h ⊢;by_cases hx:x=c
  ·subst hx;simp
  ·rw[if_neg hx] at h ⊢
   obtain⟨h1,h2⟩:=PF (l:=r) h;refine⟨by simp only[List.cons_append];rw[<-h1],fun hm=>?_⟩;rcases List.mem_cons.1 hm with e | hm
   ·exact hx e.symm
   ·exact h2 hm
theorem xE:∀{l:List UInt8},(fQ c l).2.2=false->c∉l/\fQ c l=(l,[],false)
 | [],_=>⟨by simp,rfl⟩
 | x::r,h=>by
  by_cases hx:x=c
  ·unfold fQ at h;rw[if_pos hx] at h;cases h
  ·have h':(fQ c r).2.2=false:=by unfold fQ at h;rw[if_neg hx] at h;exact h
   obtain⟨h1,h2⟩:=xE h';have h3:c∉x::r:=fun hm=>(List.mem_cons.1 hm).elim (fun e=>hx e.symm) h1;exact⟨h3,F_ h3⟩
def aKv(c:UInt8)(l:List UInt8)(w:Wo)(e:Ending)(w':Wo):Prop:=e=.returned (.tuple #[.string ⟨(fQ c l).1.toArray⟩,.string ⟨(fQ c l).2.1.toArray⟩,.bool (fQ c l).2.2])/\Below w.heap.size w w'
theorem W6(c:UInt8)(l:List UInt8)(hl:l.length<=9223372036854775807)(w:Wo):Calls Tryz.prog 142 #[.string ⟨l.toArray⟩,.string ⟨#[c]⟩] w (aKv c l w):=by
 have hix:=NI c l;have HIX:=lH hix;clear hix;go_enter Tryz.func142,Tryz.ntmps142
 go_wp2_with fail
 refine(Tryz.stringslite_Index_one ⟨l.toArray⟩ c w).mono ?_;rintro e w1 ⟨he,hw⟩;subst hw;rw[show(⟨l.toArray⟩:ByteArray).data.toList=l from by simp] at he;rcases HIX.o with⟨h1,h2⟩ | ⟨i,h1,h2,h3⟩
 ·rw[h1] at he
  subst he;have HQ:=lH h2;clear h1 h2;(go_wp2_with fail)
  go_ret3
  exact⟨by rw[HQ.o];rfl,bR⟩
 ·rw[h1] at he
  subst he;have HQ:=lH h3;have aBN:∀W,(Instr.sliceAt 9 (.string ⟨l.toArray⟩) none (some (.int .i64 (i:Int))) none).run Tryz.prog W=.ok (.string ⟨(l.take i).toArray⟩) W:=fun W=>UV l i (by omega) W;have XB:∀W,(Instr.sliceAt 9 (.string ⟨l.toArray⟩) (some (.int .i64 ((i:Int)+1))) none none).run Tryz.prog W=.ok (.string ⟨(l.drop (i+1)).toArray⟩) W:=fun W=>IE l (i+1) h2 W;have hwr:IntKind.i64.wrap ((i:Int)+1)=(i:Int)+1:=Go.IntWalk.i64_in _ (by omega);obtain⟨A,hA⟩:∃A,l.take i=A:=⟨_,rfl⟩;obtain⟨B,hB⟩:∃B,l.drop (i+1)=B:=⟨_,rfl⟩;rw[hA] at aBN;rw[hB] at XB;rw[hA,hB] at HQ;clear h1 h3 hA hB
  go_wp2_with fail
  go_quiet (fail)
  go_wp2_with fail
  go_ret3
  exact⟨by rw[HQ.o];rfl,aS bR _⟩
theorem PE(c:UInt8)(l:List UInt8)(hl:l.length<=9223372036854775807)(w:Wo):Calls Tryz.prog 110 #[.string ⟨l.toArray⟩,.string ⟨#[c]⟩] w (aKv c l w):=by
 go_enter Tryz.func110,Tryz.ntmps110
 go_wp2_with fail
 refine(W6 c l hl w).mono ?_;rintro e w1 ⟨rfl,hb⟩;have HB:=lH hb;clear hb
 go_wp2_with fail
 go_ret3
 exact⟨rfl,HB.o⟩
end
section
open Go.ChangeShapes Go.WideShapes Go.ChangeAt Go.RowKit
attribute [local go_sem ↓] aE
attribute [local go_sem] aJ aI aL aX
def tV(l:List UInt8):List UInt8:=Lib.trimPrefix l [45]
def pW(l:List UInt8):List UInt8:=(fQ 47 (tV l)).1
def oI(l:List UInt8):List UInt8:=(fQ 47 (tV l)).2.1
def CS(l:List UInt8):Bool:=(fQ 47 (tV l)).2.2
def rtB(l:List UInt8):Int:=if CS l then eJ (oI l) else 0
def rR(l:List UInt8):Prop:=eJ (pW l)=5\/rtB l=5\/(pW l=[48]/\(tV l).length<l.length)
def tX(l:List UInt8):Prop:=eJ (pW l)≠0\/rtB l≠0
def tW(l:List UInt8):Prop:=oI l=[48]\/oI l=[49]\/(dv (pW l)).gcd (dv (oI l))≠1
instance (l:List UInt8):Decidable (rR l):=by unfold rR;infer_instance
instance (l:List UInt8):Decidable (tX l):=by unfold tX;infer_instance
instance (l:List UInt8):Decidable (tW l):=by unfold tW;infer_instance
def dM(l:List UInt8):Int:=if rR l then 5 else if tX l then 2 else if CS l=true/\tW l then 3 else 0
theorem FF(l:List UInt8)(c:UInt8):k_ ⟨l.toArray⟩ ⟨#[c]⟩=decide (l=[c]):=by
 unfold k_;refine decide_eq_decide.2 ⟨fun h=>?_,fun h=>by rw[h]⟩;have:=congrArg (fun(x:ByteArray)=>x.data.toList) h;simpa using this
theorem F7:Lib.decDigits n=[49]<->n=1:=
 ⟨fun h=>F8 (h.trans (show[49]=Lib.decDigits 1 by rw[dX (by decide)];rfl)),fun h=>by rw[h,dX (by decide)];rfl⟩
theorem QZ(l:List UInt8)(hl:l.length<=maxLen)(w:Wo)(ht:eY w):Calls Tryz.prog 109 #[.string ⟨l.toArray⟩] w fun e w'=>e=.returned (.int .i64 (dM l))/\Below w.heap.size w w':=by
 have HT:=lH ht;have hsl:(tV l).length<=l.length:=by unfold tV Lib.trimPrefix;split<;>simp
 have HS:Hid (Lib.trimPrefix l [45]=tV l):=lH rfl;have uV:(pW l).length<=(tV l).length/\(oI l).length<=(tV l).length:=by
  unfold pW oI;rcases NI 47 (tV l) with⟨_,h⟩ | ⟨i,_,_,h⟩<;>rw[h]<;>simp<;>omega
 have HCL:=lH uV;have hm:(tV l).length<=9223372036854775807:=eN hsl (by unfold maxLen at hl;omega);have P3:=lH hl;have B9:Hid ((⟨(tV l).toArray⟩:ByteArray).size=(tV l).length):=lH (gS _);have Z7:Hid ((⟨l.toArray⟩:ByteArray).size=l.length):=lH (gS _);have HSL:=lH hsl;clear ht uV hl hsl;go_enter Tryz.func109,Tryz.ntmps109
 go_wp2_with fail
 refine(Tryz.strings_TrimPrefix ⟨l.toArray⟩ ⟨#[45]⟩ w).mono ?_;rintro e w1 ⟨he,hw⟩;subst hw;rw[show(⟨l.toArray⟩:ByteArray).data.toList=l from by simp,show(⟨#[45]⟩:ByteArray).data.toList=[45] from rfl,HS.o] at he;subst he
 go_wp2_with fail
 refine(PE 47 (tV l) hm w1).mono ?_;rintro e w2 ⟨he,bV⟩;rw[show(fQ 47 (tV l)).1=pW l from rfl,show(fQ 47 (tV l)).2.1=oI l from rfl,show(fQ 47 (tV l)).2.2=CS l from rfl] at he;subst he;have dB:=lH bV;clear bV hm;have hq0:=FF (pW l) 48;have hd0:=FF (oI l) 48;have O1:=FF (oI l) 49;obtain⟨tn,htn⟩:∃t:ByteArray,⟨(pW l).toArray⟩=t:=⟨_,rfl⟩;obtain⟨td,W_⟩:∃t:ByteArray,⟨(oI l).toArray⟩=t:=⟨_,rfl⟩;have HTN:Hid (tn.data.toList=pW l):=lH (by rw[<-htn]);have HTD:Hid (td.data.toList=oI l):=lH (by rw[<-W_]);have aN2:Hid (tn.size=(pW l).length):=lH (by rw[<-htn];exact gS _);have aN3:Hid (td.size=(oI l).length):=lH (by rw[<-W_];exact gS _);rw[htn] at hq0 ⊢;rw[W_] at hd0 O1 ⊢;obtain⟨HQ0,vN,pU⟩:=eR hq0 hd0 O1;clear htn W_ hq0 hd0 O1
 go_wp2_with fail
 refine(rE tn w2 (by rw[aN2.o];exact eN HCL.o.1 (eN HSL.o P3.o))).mono ?_;rw[HTN.o];rintro e w3 ⟨rfl,eF⟩;have gY:=bX dB eF;clear eF;obtain⟨a,ha⟩:∃a,eJ (pW l)=a:=⟨_,rfl⟩;obtain⟨b,hb⟩:∃b,rtB l=b:=⟨_,rfl⟩;obtain⟨is,XR⟩:∃i,CS l=i:=⟨_,rfl⟩;obtain⟨HA,HBb,HI⟩:=eR ha hb XR;rw[ha,XR];clear ha hb XR
 go_upto_if 21 with fail
 go_cut [8] (fun v wc=>v=.int .i64 b/\Below w1.heap.size w1 wc)
 case first=>
  cases is with
  | true=>
   (go_wp2_with fail);refine(rE td w3 (by rw[aN3.o];exact eN HCL.o.2 (eN HSL.o P3.o))).mono ?_;rw[HTD.o];rintro e w4 ⟨he,h_⟩;have hbe:eJ (oI l)=b:=by rw[<-HBb.o];unfold rtB;rw[HI.o];rfl
   rw[hbe] at he;subst he;have bH:=bX gY h_;clear h_ hbe;(go_wp2_with fail);go_meet
   case rel=>exact⟨rfl,bH.o⟩
  | false=>
   have R8:b=0:=by rw[<-HBb.o];unfold rtB;rw[HI.o];rfl
   subst R8;(go_wp2_with fail);go_meet
   case rel=>exact⟨rfl,gY.o⟩
 obtain⟨hv,h_⟩:=hcut;subst hv;have bH:=lH h_;clear h_;generalize wc=V at *
 go_upto_region 6 with fail
 go_cut [24] (fun v wd=>wd=V/\v=.bool (decide (rR l)))
 case first=>
  have S4:Hid (rR l<->(a=5\/b=5\/(pW l=[48]/\(tV l).length<l.length))):=lH (by unfold rR;rw[HA.o,HBb.o]);by_cases ha:a=5
  ·have hd:decide (rR l)=true:=decide_eq_true (S4.o.2 (.inl ha))
   have iI:(a == 5)=true:=by simp[ha]
   clear ha;(go_wp2_with fail);go_meet
   case rel=>exact⟨rfl,by rw[hd]⟩
  ·have iI:(a == 5)=false:=by simp[ha]
   by_cases hb:b=5
   ·have hd:decide (rR l)=true:=decide_eq_true (S4.o.2 (.inr (.inl hb)))
    have pY:(b == 5)=true:=by simp[hb]
    clear ha hb;(go_wp2_with fail);go_meet
    case rel=>exact⟨rfl,by rw[hd]⟩
   ·have pY:(b == 5)=false:=by simp[hb]
    have pG:=B9.o;have yI:=Z7.o;by_cases hn:pW l=[48]
    ·have hx:tn.toList=[48]:=by rw[ByteArray.toList_eq,HTN.o];exact hn
     by_cases aR:(tV l).length<l.length
     ·have hd:decide (rR l)=true:=decide_eq_true (S4.o.2 (.inr (.inr ⟨hn,aR⟩)))
      have hlI:((tV l).length:Int)<(l.length:Int):=by omega
      clear ha hb hn aR;(go_wp2_with fail);go_meet
      case rel=>exact⟨rfl,by rw[hd]⟩
     ·have hd:decide (rR l)=false:=decide_eq_false fun h=>(S4.o.1 h).elim ha fun h=>h.elim hb fun h=>aR h.2
      have hlI:¬((tV l).length:Int)<(l.length:Int):=by omega
      clear ha hb hn aR;(go_wp2_with fail);go_meet
      case rel=>exact⟨rfl,by rw[hd]⟩
    ·have hx:¬tn.toList=[48]:=by rw[ByteArray.toList_eq,HTN.o];exact hn
     have hd:decide (rR l)=false:=decide_eq_false fun h=>(S4.o.1 h).elim ha fun h=>h.elim hb fun h=>hn h.1;clear ha hb hn
     (go_wp2_with fail);go_meet
     case rel=>exact⟨rfl,by rw[hd]⟩
 obtain⟨W8,rfl⟩:=hcut;subst W8;generalize wc=V at *;by_cases hP5:rR l
 ·have hR:Hid (dM l=5):=lH (by unfold dM;rw[if_pos hP5])
  rw[decide_eq_true hP5];clear hP5;(go_wp2_with fail);go_ret;exact⟨aQ hR.out.symm,bH.o⟩
 ·have S4:=lH hP5
  rw[decide_eq_false hP5];clear hP5;(go_upto_region 8 with fail)
  go_cut [42] (fun v wd=>wd=V/\v=.bool (decide (tX l)))
  case first=>
   have qV:Hid (tX l<->(a≠0\/b≠0)):=lH (by unfold tX;rw[HA.o,HBb.o]);by_cases ha:a=0
   ·subst ha
    by_cases hb:b=0
    ·subst hb
     have hd:decide (tX l)=false:=decide_eq_false fun h=>(qV.o.1 h).elim (fun e=>e rfl) fun e=>e rfl
     (go_wp2_with fail);go_meet
     case rel=>exact⟨rfl,by rw[hd]⟩
    ·have hd:decide (tX l)=true:=decide_eq_true (qV.o.2 (.inr hb))
     have pY:(b != 0)=true:=by simp[hb]
     clear hb;(go_wp2_with fail);go_meet
     case rel=>exact⟨rfl,by rw[hd]⟩
   ·have hd:decide (tX l)=true:=decide_eq_true (qV.o.2 (.inl ha))
    have iI:(a != 0)=true:=by simp[ha]
    clear ha;(go_wp2_with fail);go_meet
    case rel=>exact⟨rfl,by rw[hd]⟩
  obtain⟨W8,rfl⟩:=hcut;subst W8;generalize wc=V at *;by_cases hP2:tX l
  ·have hR:Hid (dM l=2):=lH (by unfold dM;rw[if_neg S4.o,if_pos hP2])
   rw[decide_eq_true hP2];clear hP2;(go_wp2_with fail);go_ret;exact⟨aQ hR.out.symm,bH.o⟩
  ·have qV:=lH hP2
   rw[decide_eq_false hP2];clear hP2;cases is with
   | false=>
    have hR:Hid (dM l=0):=lH (by unfold dM;rw[if_neg S4.o,if_neg qV.o,if_neg (by rw[HI.o];simp)]);(go_wp2_with fail);go_ret;exact⟨aQ hR.out.symm,bH.o⟩
   | true=>
    have kV:eJ tn.data.toList=0:=by rw[HTN.o];exact Classical.byContradiction fun h=>qV.o (.inl h)
    have hd0:eJ td.data.toList=0:=by
     rw[HTD.o];refine Classical.byContradiction fun h=>qV.o (.inr ?_);unfold rtB;rw[HI.o];exact h
    (go_wp2_with fail);refine(aBv tn td V kV hd0 (HT.o.up bH.o)).mono ?_;rw[HTN.o,HTD.o];rintro e w6 ⟨rfl,eE⟩;have d6:=bX bH eE;clear eE kV hd0;obtain⟨tg,htg⟩:∃t:ByteArray,⟨(Lib.decDigits ((dv (pW l)).gcd (dv (oI l)))).toArray⟩=t:=⟨_,rfl⟩;have HTG:Hid (tg.toList=[49]<->(dv (pW l)).gcd (dv (oI l))=1):=lH (by
     rw[ByteArray.toList_eq,<-htg];exact F7)
    have LF:Hid (td.toList=oI l):=lH (by rw[ByteArray.toList_eq];exact HTD.o);rw[htg];clear htg;(go_upto_region 12 with fail)
    go_cut [65] (fun v wd=>wd=w6/\v=.bool (decide (tW l)))
    case first=>
     by_cases h0:td.toList=[48]
     ·have hd:decide (tW l)=true:=decide_eq_true (.inl (by rw[<-LF.o];exact h0))
      (go_wp2_with fail);go_meet
      case rel=>exact⟨rfl,by rw[hd]⟩
     ·by_cases h1:td.toList=[49]
      ·have hd:decide (tW l)=true:=decide_eq_true (.inr (.inl (by rw[<-LF.o];exact h1)))
       (go_wp2_with fail);go_meet
       case rel=>exact⟨rfl,by rw[hd]⟩
      ·by_cases h2:tg.toList=[49]
       ·have hd:decide (tW l)=false:=decide_eq_false fun h=>h.elim (fun h=>h0 (LF.o.trans h)) fun h=>h.elim (fun h=>h1 (LF.o.trans h)) fun h=>h (HTG.o.1 h2)
        (go_wp2_with fail);go_meet
        case rel=>exact⟨rfl,by rw[hd];simp[h0,h1,h2]⟩
       ·have hd:decide (tW l)=true:=decide_eq_true (.inr (.inr fun h=>h2 (HTG.o.2 h)))
        (go_wp2_with fail);go_meet
        case rel=>exact⟨rfl,by rw[hd];simp[h0,h1,h2]⟩
    obtain⟨W8,rfl⟩:=hcut;subst W8;by_cases hP3:tW l
    ·have hR:Hid (dM l=3):=lH (by unfold dM;rw[if_neg S4.o,if_neg qV.o,if_pos ⟨HI.o,hP3⟩])
     rw[decide_eq_true hP3];clear hP3;(go_wp2_with fail);go_ret;exact⟨aQ hR.out.symm,d6.o⟩
    ·have hR:Hid (dM l=0):=lH (by unfold dM;rw[if_neg S4.o,if_neg qV.o,if_neg (fun h=>hP3 h.2)])
     rw[decide_eq_false hP3];clear hP3;(go_wp2_with fail);go_ret;exact⟨aQ hR.out.symm,d6.o⟩
end
section
open Go
def AW(md:Region.Mode)(L:List Oper)(n:Nat)(ex:List Nat):Bool:=
 decide (L.length=n+1) &&
 (List.range (n+1)).all (fun j=>match L[j]? with
  | some o=>o.after.all (fun e=>!Region.binds md e || decide (e.on<j)) && (match o.guard with | none=>true | some (g,_)=>decide (g<n))
  | none=>false) &&
 (List.range n).all (fun j=>ex.contains j || (List.range (n+1)).any fun k=>decide (j<k) && match L[k]? with
  | some o=>o.after.any (fun e=>Region.binds md e && e.on == j)
  | none=>false)
section
variable {P:Program} {Q:Exit->Act->World->Prop} {md:Region.Mode}
theorem sU(h:AW md L n ex=true):L.length=n+1/\
    (∀j o,L[j]?=some o->(∀e∈o.after,Region.binds md e=true->e.on<j)/\∀g b,o.guard=some (g,b)->g<n)/\
    (∀j,j<n->j∈ex\/∃k o e,j<k/\L[k]?=some o/\e∈o.after/\Region.binds md e=true/\e.on=j):=by
 unfold AW at h;simp only[Bool.and_eq_true,decide_eq_true_eq,List.all_eq_true,List.mem_range,List.any_eq_true,Bool.or_eq_true,List.contains_iff_mem] at h;obtain⟨⟨h1,h2⟩,h3⟩:=h;refine⟨h1,fun j o ho=>?_,fun j hj=>?_⟩
 ·have hj:j<n+1:=by rw[<-h1];exact(c_.1 ho).1
  have:=h2 j hj;rw[ho] at this;simp only[Bool.and_eq_true,Array.all_eq_true_iff_forall_mem,Bool.or_eq_true,Bool.not_eq_true',decide_eq_true_eq] at this;refine⟨fun e he hb=>(this.1 e he).resolve_left (by simp[hb]),fun g b hg=>?_⟩;have h4:=this.2;rw[hg] at h4;simpa using h4
 ·rcases h3 j hj with h3 | ⟨k,hk,hjk,h4⟩
  ·exact .inl h3
  refine .inr ?_;cases ho:L[k]? with
  | none=>rw[ho] at h4;cases h4
  | some o=>
   rw[ho] at h4;simp only[Array.any_eq_true'] at h4;obtain⟨e,he,h5⟩:=h4;simp only[Bool.and_eq_true,beq_iff_eq] at h5;exact⟨k,o,e,hjk,ho,he,h5.1,h5.2⟩
theorem KM{L:List Oper}{n:Nat}{ex:List Nat}{oN:Oper}{listed:Array Bool}(hs:AW md L n ex=true)(hx:∀j∈ex,listed.getD j false=true)(hN:L[n]?=some oN)(gP:listed.size=n)(hc:jF md (L.take n) listed)(hr:∀e∈oN.after,Region.binds md e=true->(listed.push false).getD e.on false=true):∀d j,j+d=n->0<d->listed.getD j false=true:=by
 obtain⟨h1,h2,h3⟩:=sU hs;intro d
 induction d using Nat.strongRecOn with
 | _ d ih=>
  intro j hj hd;rcases h3 j (by omega) with h3 | ⟨k,o,e,hjk,hk,he,hb,hej⟩
  ·exact hx j h3
  have hkl:k<n+1:=by rw[<-h1];exact(c_.1 hk).1
  by_cases FX:k=n
  ·subst FX
   rw[hN] at hk;injection hk with hk;subst hk;have:=hr e he hb;rw[hej] at this;rwa[Array.getD_eq_getD_getElem?,Array.getElem?_push_lt (by omega),<-Array.getElem?_eq_getElem (by omega),<-Array.getD_eq_getD_getElem?] at this
  ·have hl:=ih (n-k) (by omega) k (by omega) (by omega)
   have:=hc k o (by rw[List.getElem?_take_of_lt (by omega)];exact hk) hl e he hb;rwa[hej] at this
theorem tZ{listed:Array Bool}(hs:AW md L n ex=true)(gP:listed.size=n){i:Nat}(hi:i<n):i∈Region.ready md L.toArray (listed.push false)<->i∈Region.ready md (L.take n).toArray listed:=by
 obtain⟨h1,h2,h3⟩:=sU hs;rw[mem_ready,mem_ready,List.getElem?_toArray,List.getElem?_toArray,List.getElem?_take_of_lt hi,fI (by omega)];refine and_congr Iff.rfl ⟨?_,?_⟩
 ·rintro⟨o,ho,h⟩
  exact⟨o,ho,fun e he hb=>by rw[<-fI (by have:=(h2 i o ho).1 e he hb;omega)];exact h e he hb⟩
 ·rintro⟨o,ho,h⟩
  exact⟨o,ho,fun e he hb=>by rw[fI (by have:=(h2 i o ho).1 e he hb;omega)];exact h e he hb⟩
theorem xO{oN:Oper}(hs:AW md L n ex=true)(hN:L[n]?=some oN):∀(fuel:Nat)(listed:Array Bool)(a:Act)(w:Wo),listed.size=n->jF md (L.take n) listed->(∀j∈ex,listed.getD j false=true)->
    wpAny P md (L.take n).toArray (hZ P L.toArray oN Q) fuel listed a w->wpAny P md L.toArray Q (fuel+1) (listed.push false) a w:=by
 obtain⟨h1,h2,h3⟩:=sU hs;have key:∀(fuel:Nat)(listed:Array Bool)(a:Act)(w:Wo),listed.size=n->jF md (L.take n) listed->Region.ready md (L.take n).toArray listed=[]->hZ P L.toArray oN Q .normal a w->wpAny P md L.toArray Q (fuel+1) (listed.push false) a w:=by
  intro fuel listed a w gP hc hr hq;have xB:∀m j,j<m->j<n->listed.getD j false=true:=by
   intro m
   induction m with
   | zero=>intro j hj;omega
   | succ m ih=>
    intro j hj tP;cases hl:listed.getD j false with
    | true=>rfl
    | false=>
     exfalso;have pQ:j<L.length:=by omega
     have XO:j∈Region.ready md (L.take n).toArray listed:=by
      rw[mem_ready,List.getElem?_toArray,List.getElem?_take_of_lt tP,lE (by omega),hl];refine⟨rfl,L[j],jP pQ,fun e he hb=>ih _ ?_ ?_⟩
      ·have:=(h2 j _ (jP pQ)).1 e he hb;omega
      ·have:=(h2 j _ (jP pQ)).1 e he hb;omega
     rw[hr] at XO;cases XO
  have BG:=fun j hj=>xB n j hj hj;have hnr:n∈Region.ready md L.toArray (listed.push false):=by
   rw[mem_ready,List.getElem?_toArray];refine⟨by simp[<-gP],oN,hN,fun e he hb=>?_⟩;have:=(h2 n oN hN).1 e he hb;rw[fI (by omega)];exact BG _ this
  refine⟨fun h0=>by rw[h0] at hnr;exact absurd hnr (by simp),fun j hj=>?_⟩;have tP:j=n:=by
   obtain⟨h0,o,ho,_⟩:=mem_ready.1 hj;rw[List.getElem?_toArray] at ho;have pQ:=(c_.1 ho).1;refine Decidable.byContradiction fun cK=>?_;rw[fI (by omega),lE (by omega),BG j (by omega)] at h0;cases h0
  subst tP;unfold wpOp;rw[List.getElem?_toArray,hN];simp only;have hd:=xZ (md:=md) h1 gP BG;unfold hZ at hq;dsimp only at hq;split
  ·rename_i hw
   rw[if_pos hw] at hq;exact .inl (Oper.wp_mono (fun a' w' h=>wpAny_done hd h fuel) hq)
  ·rename_i hw
   rw[if_neg hw] at hq;exact wpAny_done hd hq fuel
 intro fuel
 induction fuel with
 | zero=>intro listed a w gP hc hx h;exact key 0 listed a w gP hc h.1 h.2
 | succ fuel ih=>
  intro listed a w gP hc hx h;by_cases hr:Region.ready md (L.take n).toArray listed=[]
  ·exact key (fuel+1) listed a w gP hc hr (h.1 hr)
  ·have GS:n∉Region.ready md L.toArray (listed.push false):=by
    intro hn;obtain⟨_,o,ho,xB⟩:=mem_ready.1 hn;rw[List.getElem?_toArray,hN] at ho;injection ho with ho;subst ho;have hl:=KM hs hx hN gP hc xB;apply hr;rw[List.eq_nil_iff_forall_not_mem];intro j hj;obtain⟨h0,o,ho,_⟩:=mem_ready.1 hj;rw[List.getElem?_toArray] at ho;have pQ:=(c_.1 ho).1;have tP:j<n:=by simp at pQ;omega
    have:=hl (n-j) j (by omega) (by omega);rw[lE (by omega),this] at h0;cases h0
   have aR:∀j,j∈Region.ready md L.toArray (listed.push false)->j<n:=fun j hj=>by
    obtain⟨_,o,ho,_⟩:=mem_ready.1 hj;rw[List.getElem?_toArray] at ho;have:=(c_.1 ho).1;have cK:j≠n:=fun e=>GS (e▸hj);omega
   refine⟨fun h0=>?_,fun j hj=>?_⟩
   ·exfalso
    obtain⟨j,hj⟩:=List.exists_mem_of_ne_nil _ hr;have tP:j<n:=by
     obtain⟨_,o,ho,_⟩:=mem_ready.1 hj;rw[List.getElem?_toArray] at ho;have:=(c_.1 ho).1;simp at this;omega
    have:=(tZ hs gP tP).2 hj;rw[h0] at this;cases this
   ·have tP:=aR j hj
    have hjr:=(tZ hs gP tP).1 hj;refine zV (L:=L) (F:=L.take n) (by rw[List.getElem?_take_of_lt tP]) (fun o ho g b hg=>?_) (fun a' w' hh=>?_) (h.2 j hjr)
    ·rw[List.getElem?_take_of_lt tP] at ho
     rw[List.getElem?_take_of_lt ((h2 j o ho).2 g b hg)]
    ·rw[i_ (by omega)]
     exact ih _ a' w' (by simpa using gP) (BT hc hjr) (fun y hy=>getD_set_true (hx y hy)) hh
theorem vX{S:World->Prop}{id:Nat}{a:Act}{w:Wo}{L:List Oper}(m p:Nat)(op oK oM oN:Oper)(v:Value)(hm:P.follows .mixedOrders=true)(hs:mX .any L (m+3)=true)(yI:mX .any (L.take (m+3)) (m+2)=true)(hs3:AW .any (L.take (m+2)) (m+1) [p]=true)(hp:L[p]?=some op)(hpm:p<m+1)(hpa:op.after.all (fun e=>!Region.binds .any e)=true)(hK:L[m+1]?=some oK)(hM:L[m+2]?=some oM)(hN:L[m+3]?=some oN)(hP:tS .any L.toArray (Array.replicate (m+4) false) p=true)(hQ:∀c a w,Q (.panic c) (a.put op.dst v) w->Q (.panic c) a w)(hw:Region.wanted op (yielded L.toArray a.tmps)=true)(hy:∀w,(execOp a.eval op).run P w=.ok (.value v) w)(hS:S w.drew)(h:S w.drew->wpAnyH P .any (L.take (m+1)).toArray (hZ P (L.take (m+2)).toArray oK (hZ P (L.take (m+3)).toArray oM (hZ P L.toArray oN Q))) S m ((Array.replicate (m+1) false).setIfInBounds p true) (a.put op.dst v) w.drew):(Code.region id L.toArray true).wp P Q a w:=by
 obtain⟨h1,h2,h3⟩:=iT hs;have rG:(L.take (m+3)).take (m+2)=L.take (m+2):=by rw[List.take_take,Nat.min_eq_left (by omega)]
 have wZ:(L.take (m+2)).take (m+1)=L.take (m+1):=by rw[List.take_take,Nat.min_eq_left (by omega)]
 refine wp_region_any hm ?_;rw[show L.toArray.size=m+3+1 from by simpa using h1];unfold tS at hP;rw[Bool.and_eq_true,Bool.and_eq_true] at hP;refine wpAny_take (by rw[List.getElem?_toArray];exact hp) hP.1.1 hP.1.2 hP.2 hQ (.inl ⟨hw,hy⟩) ?_;have uV:∀(F:List Oper)(k:Nat),F[p]?=some op\/F[p]?=none->jF .any F ((Array.replicate k false).setIfInBounds p true):=fun F k hF j o ho hj e he hb=>by
  by_cases hpj:p=j
  ·subst hpj
   rcases hF with hF | hF
   ·rw[hF] at ho;injection ho with ho;subst ho
    have:=Array.all_eq_true_iff_forall_mem.1 hpa e he;rw[hb] at this;cases this
   ·rw[hF] at ho;cases ho
  ·rw[getD_set_ne false hpj] at hj
   exact absurd hj (by rcases Nat.lt_or_ge j k with h' | h'<;>simp[h'])
 have htk:∀k,(L.take k)[p]?=some op\/(L.take k)[p]?=none:=fun k=>by
  rw[List.getElem?_take];split
  ·exact .inl hp
  ·exact .inr rfl
 rw[Array.replicate_succ,i_ (by simp;omega)];refine gQ hs hN (m+2) _ _ _ (by simp) (uV _ _ (htk _)) ?_;rw[Array.replicate_succ,i_ (by simp;omega)];refine gQ yI (by rw[List.getElem?_take_of_lt (by omega)];exact hM) (m+1) _ _ _ (by simp) (uV _ _ (by rw[rG];exact htk _)) ?_;rw[rG,Array.replicate_succ,i_ (by simp;omega)];refine xO hs3 (by rw[List.getElem?_take_of_lt (by omega)];exact hK) m _ _ _ (by simp) (uV _ _ (by rw[wZ];exact htk _)) (fun j hj=>by rw[List.mem_singleton.1 hj];simp;omega) ?_;rw[wZ];exact wpAny_of_held _ _ _ _ (h hS)
end
section
variable {P:Program} {Q:Exit->Act->World->Prop}
theorem gZ{S:World->Prop}{id:Nat}{a:Act}{w:Wo}{L:List Oper}(m p:Nat)(op oJ oK oM oN:Oper)(v:Value)(hm:P.follows .mixedOrders=true)(hs:mX .any L (m+4)=true)(yI:mX .any (L.take (m+4)) (m+3)=true)(hs3:mX .any (L.take (m+3)) (m+2)=true)(hs4:AW .any (L.take (m+2)) (m+1) [p]=true)(hp:L[p]?=some op)(hpm:p<m+1)(hpa:op.after.all (fun e=>!Region.binds .any e)=true)(hJ:L[m+1]?=some oJ)(hK:L[m+2]?=some oK)(hM:L[m+3]?=some oM)(hN:L[m+4]?=some oN)(hP:tS .any L.toArray (Array.replicate (m+5) false) p=true)(hQ:∀c a w,Q (.panic c) (a.put op.dst v) w->Q (.panic c) a w)(hw:Region.wanted op (yielded L.toArray a.tmps)=true)(hy:∀w,(execOp a.eval op).run P w=.ok (.value v) w)(hS:S w.drew)(h:S w.drew->wpAnyH P .any (L.take (m+1)).toArray (hZ P (L.take (m+2)).toArray oJ (hZ P (L.take (m+3)).toArray oK (hZ P (L.take (m+4)).toArray oM (hZ P L.toArray oN Q)))) S m ((Array.replicate (m+1) false).setIfInBounds p true) (a.put op.dst v) w.drew):(Code.region id L.toArray true).wp P Q a w:=by
 obtain⟨h1,h2,h3⟩:=iT hs;have EA:(L.take (m+4)).take (m+3)=L.take (m+3):=by rw[List.take_take,Nat.min_eq_left (by omega)]
 have rG:(L.take (m+3)).take (m+2)=L.take (m+2):=by rw[List.take_take,Nat.min_eq_left (by omega)]
 have wZ:(L.take (m+2)).take (m+1)=L.take (m+1):=by rw[List.take_take,Nat.min_eq_left (by omega)]
 refine wp_region_any hm ?_;rw[show L.toArray.size=m+4+1 from by simpa using h1];unfold tS at hP;rw[Bool.and_eq_true,Bool.and_eq_true] at hP;refine wpAny_take (by rw[List.getElem?_toArray];exact hp) hP.1.1 hP.1.2 hP.2 hQ (.inl ⟨hw,hy⟩) ?_;have uV:∀(F:List Oper)(k:Nat),F[p]?=some op\/F[p]?=none->jF .any F ((Array.replicate k false).setIfInBounds p true):=fun F k hF j o ho hj e he hb=>by
  by_cases hpj:p=j
  ·subst hpj
   rcases hF with hF | hF
   ·rw[hF] at ho;injection ho with ho;subst ho
    have:=Array.all_eq_true_iff_forall_mem.1 hpa e he;rw[hb] at this;cases this
   ·rw[hF] at ho;cases ho
  ·rw[getD_set_ne false hpj] at hj
   exact absurd hj (by rcases Nat.lt_or_ge j k with h' | h'<;>simp[h'])
 have htk:∀k,(L.take k)[p]?=some op\/(L.take k)[p]?=none:=fun k=>by
  rw[List.getElem?_take];split
  ·exact .inl hp
  ·exact .inr rfl
 rw[Array.replicate_succ,i_ (by simp;omega)];refine gQ hs hN (m+3) _ _ _ (by simp) (uV _ _ (htk _)) ?_;rw[Array.replicate_succ,i_ (by simp;omega)];refine gQ yI (by rw[List.getElem?_take_of_lt (by omega)];exact hM) (m+2) _ _ _ (by simp) (uV _ _ (by rw[EA];exact htk _)) ?_;rw[EA,Array.replicate_succ,i_ (by simp;omega)];refine gQ hs3 (by rw[List.getElem?_take_of_lt (by omega)];exact hK) (m+1) _ _ _ (by simp) (uV _ _ (by rw[rG];exact htk _)) ?_;rw[rG,Array.replicate_succ,i_ (by simp;omega)];refine xO hs4 (by rw[List.getElem?_take_of_lt (by omega)];exact hJ) m _ _ _ (by simp) (uV _ _ (by rw[wZ];exact htk _)) (fun j hj=>by rw[List.mem_singleton.1 hj];simp;omega) ?_;rw[wZ];exact wpAny_of_held _ _ _ _ (h hS)
end
end
section
open Go.ChangeShapes Go.WideShapes Go.ChangeAt Go.RowKit Go.Joins Go.Deep Go.Maps
attribute [local go_sem ↓] aE
attribute [local go_sem] aJ aI aL aX
theorem ND(w:Wo)(row:Option Nat):w.grownBy w row:=⟨rfl,rfl,rfl,lR,fun _ _ _=>rfl⟩
theorem Ck.start{w:Wo}{b:Nat}{h:cQ}{x:bP}(hS:gJ w b 0 [])(r:cX w w.heap.size h x):Ck w w b h.A0 h.n0 x.nodes h x []:=⟨ND _ _,hS,r.r0,r⟩
theorem KF(h:cQ)(x:bP)(w:Wo)(r:cX w w.heap.size h x)(hl:jA x):Calls Tryz.prog 35 #[.agg h.cells] w fun e w'=>e=.returned (.int .i64 (d8 x))/\Below w.heap.size w w':=by
 have HR:=lH (show d8 x=2 by unfold d8;rw[if_pos hl]);have K0:=vM w (.cells h.cells 29);have HK:=lH K0;have l0:=r.r0.1;have l1:=r.r1.1;have l2:=r.r2.1;have l3:=r.r3.1;have l4:=r.r4.1;have l5:=r.r5.1;have i0:=r.m0;have i1:=r.m1;have i2:=r.m2;have i3:=r.m3;have i4:=r.m4;have i5:=r.m5;unfold jA at hl;rw[l0,l1,l2,l3,l4,l5] at hl;clear K0 l0 l1 l2 l3 l4 l5 r;obtain⟨A0,m0,c0,A1,m1,c1,A2,m2,c2,A3,m3,c3,A4,m4,c4,A5,m5,c5⟩:=h;dsimp only[cQ.cells] at *;by_cases h0:24<m0
 ·clear hl
  go_enter Tryz.func35,Tryz.ntmps35
  (go_wp2_with fail);go_ret;exact⟨aQ HR.o.symm,HK.o⟩
 ·skip
  by_cases h1:32<m1
  ·clear hl
   go_enter Tryz.func35,Tryz.ntmps35
   (go_wp2_with fail);go_ret;exact⟨aQ HR.o.symm,HK.o⟩
  ·skip
   by_cases h2:24<m2
   ·clear hl
    go_enter Tryz.func35,Tryz.ntmps35
    (go_wp2_with fail);go_ret;exact⟨aQ HR.o.symm,HK.o⟩
   ·skip
    by_cases h3:10<m3
    ·clear hl
     go_enter Tryz.func35,Tryz.ntmps35
     (go_wp2_with fail);go_ret;exact⟨aQ HR.o.symm,HK.o⟩
    ·skip
     by_cases h4:12<m4
     ·clear hl
      go_enter Tryz.func35,Tryz.ntmps35
      (go_wp2_with fail);go_ret;exact⟨aQ HR.o.symm,HK.o⟩
     ·skip
      have h5:4<m5:=by omega
      clear hl;go_enter Tryz.func35,Tryz.ntmps35
      (go_wp2_with fail);go_ret;exact⟨aQ HR.o.symm,HK.o⟩
theorem KE(h:cQ)(x:bP)(w:Wo)(r:cX w w.heap.size h x)(hl:¬jA x):Calls Tryz.prog 35 #[.agg h.cells] w fun e w'=>e=.returned (.int .i64 (d8 x))/\Below w.heap.size w w':=by
 have HW0:Hid (d8 x=ck0 x):=lH (by unfold d8;rw[if_neg hl]);have l0:=r.r0.1;have l1:=r.r1.1;have l2:=r.r2.1;have l3:=r.r3.1;have l4:=r.r4.1;have l5:=r.r5.1;unfold jA at hl;rw[l0,l1,l2,l3,l4,l5] at hl;obtain⟨A0,m0,c0,A1,m1,c1,A2,m2,c2,A3,m3,c3,A4,m4,c4,A5,m5,c5⟩:=h;dsimp only[cQ.cells] at *;have aS8:m0<=24:=by omega
 have RY:m1<=32:=by omega
 have TP:m2<=24:=by omega
 have hm3:m3<=10:=by omega
 have hm4:m4<=12:=by omega
 have hm5:m5<=4:=by omega
 have MZ:m0<=9223372036854775807:=by omega
 clear hl l0 l1 l2 l3 l4 l5;generalize hnd:x.nodes=nodes;have tR:=lH hnd;have K1:Below w.heap.size w (((w.alloc (.cells #[.slice A0 m0 c0,.slice A1 m1 c1,.slice A2 m2 c2,.slice A3 m3 c3,.slice A4 m4 c4,.slice A5 m5 c5] 29)).alloc (.map #[] 0)).alloc (.cells #[.map (some (w.heap.size+1)),.slice A0 m0 c0] 147)):=((bA).alloc (by simp) _).alloc (by simp;omega) _;have bV:Below (w.heap.size+1+1) ((w.alloc (.cells #[.slice A0 m0 c0,.slice A1 m1 c1,.slice A2 m2 c2,.slice A3 m3 c3,.slice A4 m4 c4,.slice A5 m5 c5] 29)).alloc (.map #[] 0)) (((w.alloc (.cells #[.slice A0 m0 c0,.slice A1 m1 c1,.slice A2 m2 c2,.slice A3 m3 c3,.slice A4 m4 c4,.slice A5 m5 c5] 29)).alloc (.map #[] 0)).alloc (.cells #[.map (some (w.heap.size+1)),.slice A0 m0 c0] 147)):=bR.alloc (by simp) _;have hS0:gJ (((w.alloc (.cells #[.slice A0 m0 c0,.slice A1 m1 c1,.slice A2 m2 c2,.slice A3 m3 c3,.slice A4 m4 c4,.slice A5 m5 c5] 29)).alloc (.map #[] 0)).alloc (.cells #[.map (some (w.heap.size+1)),.slice A0 m0 c0] 147)) (w.heap.size+1) 0 []:=by
  have h0:=gJ.made (w.alloc (.cells #[.slice A0 m0 c0,.slice A1 m1 c1,.slice A2 m2 c2,.slice A3 m3 c3,.slice A4 m4 c4,.slice A5 m5 c5] 29));have h1:=h0.below (bR.alloc lR (.cells #[.map (some (w.heap.size+1)),.slice A0 m0 c0] 147));simpa using h1
 have HC:=lH (Ck.start hS0 (r.up K1));have pU:Hid (aD (((w.alloc (.cells #[.slice A0 m0 c0,.slice A1 m1 c1,.slice A2 m2 c2,.slice A3 m3 c3,.slice A4 m4 c4,.slice A5 m5 c5] 29)).alloc (.map #[] 0)).alloc (.cells #[.map (some (w.heap.size+1)),.slice A0 m0 c0] 147)) w.heap.size 29 #[.slice A0 m0 c0,.slice A1 m1 c1,.slice A2 m2 c2,.slice A3 m3 c3,.slice A4 m4 c4,.slice A5 m5 c5]):=lH (((aD.new w _ _).alloc _).alloc _);have vN:Hid (aD (((w.alloc (.cells #[.slice A0 m0 c0,.slice A1 m1 c1,.slice A2 m2 c2,.slice A3 m3 c3,.slice A4 m4 c4,.slice A5 m5 c5] 29)).alloc (.map #[] 0)).alloc (.cells #[.map (some (w.heap.size+1)),.slice A0 m0 c0] 147)) (w.heap.size+1+1) 147 #[.map (some (w.heap.size+1)),.slice A0 m0 c0]):=lH (aD.new_ (by simp));have lK:=lH HC.o.net;have CF:Hid (∀{w':Wo},(((w.alloc (.cells #[.slice A0 m0 c0,.slice A1 m1 c1,.slice A2 m2 c2,.slice A3 m3 c3,.slice A4 m4 c4,.slice A5 m5 c5] 29)).alloc (.map #[] 0)).alloc (.cells #[.map (some (w.heap.size+1)),.slice A0 m0 c0] 147)).grownBy w' (some (w.heap.size+1))->Below w.heap.size w w'):=
  lH fun hg=>tB K1 hg (by omega) lR
 obtain⟨y0,y1,y2,y3,y4,y5,nf,nlt⟩:=cG (h:=⟨A0,m0,c0,A1,m1,c1,A2,m2,c2,A3,m3,c3,A4,m4,c4,A5,m5,c5⟩) pU.o;rw[hnd] at HC;clear r hnd K1 bV hS0;have JE:=@run_makeMap Tryz.prog;go_enter Tryz.func35,Tryz.ntmps35
 go_wp2_with fail
 clear JE;generalize hWW:(((w.alloc (.cells #[.slice A0 m0 c0,.slice A1 m1 c1,.slice A2 m2 c2,.slice A3 m3 c3,.slice A4 m4 c4,.slice A5 m5 c5] 29)).alloc (.map #[] 0)).alloc (.cells #[.map (some (w.heap.size+1)),.slice A0 m0 c0] 147))=W0 at *;clear hWW;have aDh:Hid (x.nodes.length=m0):=lH lK.o.r0.1
 go_loopw [55] (fun i wr=>∃(k:Nat)(seen0:List ByteArray),k<=m0/\i=.int .i64 k/\Ck W0 wr (w.heap.size+1) A0 m0 nodes ⟨A0,m0,c0,A1,m1,c1,A2,m2,c2,A3,m3,c3,A4,m4,c4,A5,m5,c5⟩ x seen0/\aD wr (w.heap.size+1+1) 147 #[.map (some (w.heap.size+1)),.slice A0 m0 c0]/\aD wr w.heap.size 29 #[.slice A0 m0 c0,.slice A1 m1 c1,.slice A2 m2 c2,.slice A3 m3 c3,.slice A4 m4 c4,.slice A5 m5 c5]/\seen0.length<=k/\aV (mY nodes) id [] x.nodes=aV (mY nodes) id seen0 (x.nodes.drop k)) (fun i _=>m0-(intOf i).toNat)
 case atStart=>exact⟨0,[],by omega,rfl,HC.o,vN.o,pU.o,by simp,rfl⟩
 case round=>
  clear HC vN pU lK;obtain⟨k,seen0,hk,rfl,hC,mR,mE,BF,mG⟩:=hrel;obtain⟨HC,vN,pU,oG⟩:=gO hC mR mE mG;obtain⟨g0,g1,gf,glt⟩:=iV mR;obtain⟨y0,y1,y2,y3,y4,y5,nf,nlt⟩:=cG (h:=⟨A0,m0,c0,A1,m1,c1,A2,m2,c2,A3,m3,c3,A4,m4,c4,A5,m5,c5⟩) mE;have hbw:=hC.sn.lt;have lK:=lH hC.net;clear hC mR mE mG;by_cases aR:k<m0
  ·obtain⟨z,hz⟩:∃z,x.nodes[k]?=some z:=eG (by have:=aDh.out;omega)
   obtain⟨bz,oz,hA,R6⟩:=HC.o.net.r0.form (by dsimp only;omega);dsimp only at hA;subst hA;have e0:=HC.o.net.r0.at_ hz;have W7:=HC.o.net.z0 z (cS hz);have HZ:=lH (bW hz);clear hz;(go_wp2_with fail);refine(jZ (w.heap.size+1) _ _ m0 c0 nodes seen0 z _ 0 0 [] _ HC.o.rn MZ HC.o.sn (by omega) W7 (QX _ _ _) (by omega)).mono ?_;generalize hR:jM nodes seen0 z []=r;rintro e w2 ⟨rfl,iH,JK⟩;have mR:=aD.grown vN.o iH (fun e=>by injection e;omega);have mE:=aD.grown pU.o iH (fun e=>by injection e;omega);obtain⟨fW,jR,ZY,B_,vI⟩:=mP (eI HC.o.gr iH) JK iH mR mE;have vH:=lH hR;clear iH JK mR mE hR e0;by_cases jH:r=0
   ·subst jH
    have HC3:=lH (HC.o.put ZY.o (jR.o rfl));have hf:mY nodes seen0 z=0:=vH.o;have HF:=lH hf;clear hf;(go_wp2_with fail);go_roundw
    case rel=>exact⟨k+1,z::seen0,by omega,by go_num,HC3.o,B_.o,vI.o,by simp;omega,by rw[oG.o];exact lT HZ.o HF.o⟩
    case measure=>simp[intOf];omega
   ·have RW:(r != 0)=true:=by simpa using jH
    have hr:(aV (mY nodes) id [] x.nodes).1=r:=by rw[oG.o];exact cW HZ.o vH.o jH
    have nH:=lH hr;have GY:=lH jH;clear hr jH;(go_wp2_with fail);go_ret;exact⟨aQ (by rw[HW0.o];unfold ck0;rw[(show mY x.nodes=mY nodes by rw[tR.o]),if_pos (by rw[nH.o];exact GY.o),nH.o]),CF.o fW.o⟩
  ·have hd:x.nodes.drop k=[]:=by rw[List.drop_eq_nil_iff];have:=aDh.out;omega
   have hr:aV (mY nodes) id [] x.nodes=(0,seen0):=by rw[oG.o,hd];rfl
   have P5:=lH hr;have aQO:seen0.length<=m0:=by omega
   clear hd hr BF;have HW1:Hid (d8 x=ck1 x seen0):=lH (by rw[HW0.o];unfold ck0;rw[show mY x.nodes=mY nodes by rw[tR.o],P5.o];rfl);(go_wp2_with fail);have aDg:Hid (x.sws.length=m1):=lH lK.o.r1.1
   go_loopw [69] (fun i wr=>∃(k:Nat)(seen1:List ByteArray),k<=m1/\i=.int .i64 k/\Ck W0 wr (w.heap.size+1) A0 m0 nodes ⟨A0,m0,c0,A1,m1,c1,A2,m2,c2,A3,m3,c3,A4,m4,c4,A5,m5,c5⟩ x seen1/\aD wr (w.heap.size+1+1) 147 #[.map (some (w.heap.size+1)),(.slice A0 m0 c0)]/\aD wr w.heap.size 29 #[.slice A0 m0 c0,.slice A1 m1 c1,.slice A2 m2 c2,.slice A3 m3 c3,.slice A4 m4 c4,.slice A5 m5 c5]/\seen1.length<=seen0.length+k/\aV (O8 nodes) Sw.name seen0 x.sws=aV (O8 nodes) Sw.name seen1 (x.sws.drop k)) (fun i _=>m1-(intOf i).toNat)
   case atStart=>exact⟨0,seen0,by omega,rfl,HC.o,vN.o,pU.o,by omega,rfl⟩
   case round=>
    clear HC vN pU lK;obtain⟨k,seen1,hk,rfl,hC,mR,mE,BF,mG⟩:=hrel;obtain⟨HC,vN,pU,oG⟩:=gO hC mR mE mG;obtain⟨g0,g1,gf,glt⟩:=iV mR;obtain⟨y0,y1,y2,y3,y4,y5,nf,nlt⟩:=cG (h:=⟨A0,m0,c0,A1,m1,c1,A2,m2,c2,A3,m3,c3,A4,m4,c4,A5,m5,c5⟩) mE;have hbw:=hC.sn.lt;have lK:=lH hC.net;clear hC mR mE mG;by_cases aR:k<m1
    ·obtain⟨z,hz⟩:∃z,x.sws[k]?=some z:=eG (by have:=aDg.out;omega)
     obtain⟨bz,oz,hA,R6⟩:=HC.o.net.r1.form (by dsimp only;omega);dsimp only at hA;subst hA;obtain⟨e0,e1,e2,e3,e4⟩:=HC.o.net.r1.at_ hz;have W7:=HC.o.net.z1 z (cS hz);have HZ:=lH (bW hz);clear hz;(go_wp2_with fail);have hB:=xF wr (.cells #[.string z.name,.string z.a,.string z.b,.bool z.breaker,.bool z.opn] 116) (.cells #[.string z.a,.string z.b] 9);have hE:aW ((wr.alloc (.cells #[.string z.name,.string z.a,.string z.b,.bool z.breaker,.bool z.opn] 116)).alloc (.cells #[.string z.a,.string z.b] 9)) ((wr.alloc (.cells #[.string z.name,.string z.a,.string z.b,.bool z.breaker,.bool z.opn] 116)).alloc (.cells #[.string z.a,.string z.b] 9)).heap.size (some ⟨wr.heap.size+1,0,none⟩) 2 [z.a,z.b]:=dS (zs:=[z.a,z.b]) (aD.new_ (by simp)) (by simp);have rY:=HC.o.below hB;refine(jZ (w.heap.size+1) _ _ m0 c0 nodes seen1 z.name _ 2 2 [z.a,z.b] _ rY.rn MZ rY.sn (by omega) W7 hE (by omega)).mono ?_;generalize hR:jM nodes seen1 z.name [z.a,z.b]=r;rintro e w2 ⟨rfl,iH,JK⟩;have EC:aD w2 wr.heap.size 116 #[.string z.name,.string z.a,.string z.b,.bool z.breaker,.bool z.opn]:=aD.grown ((aD.new wr _ _).alloc _) iH (fun e=>by injection e;omega);have mR:aD w2 (w.heap.size+1+1) 147 #[.map (some (w.heap.size+1)),(.slice A0 m0 c0)]:=aD.grown (vN.o.bl hB) iH (fun e=>by injection e;omega);have mE:=aD.grown (pU.o.bl hB) iH (fun e=>by injection e;omega);obtain⟨fW,jR,K2,ZY⟩:=gO (eI rY.gr iH) JK rY iH;obtain⟨f0,f1,f2,f3,f4,ff,flt⟩:=Sw.box EC;obtain⟨B_,vI,vH⟩:=eR mR mE hR;clear hB hE rY iH JK EC mR mE hR e0 e1 e2 e3 e4;by_cases jH:r=0
     ·subst jH
      have HC3:=lH (K2.o.put ZY.o (jR.o rfl));have hf:O8 nodes seen1 z=0:=by unfold O8 Sw.bad;rw[vH.o];simp[]
      have HF:=lH hf;clear hf
      go_wp2_with (first | (go_at_call 115;refine(bY _ _).mono ?_;rintro e w' ⟨rfl,rfl⟩) | (go_at_call 114;refine(cV _ _ _ _).mono ?_;rintro e w' ⟨rfl,rfl⟩))
      go_roundw
      case rel=>exact⟨k+1,z.name::seen1,by omega,by go_num,HC3.o,B_.o,vI.o,by simp;omega,by rw[oG.o];exact lT HZ.o HF.o⟩
      case measure=>simp[intOf];omega
     ·have RW:(r != 0)=true:=by simpa using jH
      have hf:O8 nodes seen1 z=r:=by unfold O8;rw[vH.o,if_pos jH]
      have hr:(aV (O8 nodes) Sw.name seen0 x.sws).1=r:=by rw[oG.o];exact cW HZ.o hf jH
      have nH:=lH hr;have GY:=lH jH;clear hf hr jH;(go_wp2_with fail);go_ret;exact⟨aQ (by rw[HW1.o];unfold ck1;rw[tR.o,if_pos (by rw[nH.o];exact GY.o),nH.o]),CF.o fW.o⟩
    ·have hd:x.sws.drop k=[]:=by rw[List.drop_eq_nil_iff];have:=aDg.out;omega
     have hr:aV (O8 nodes) Sw.name seen0 x.sws=(0,seen1):=by rw[oG.o,hd];rfl
     have T4:=lH hr;have aQN:seen1.length<=seen0.length+m1:=by omega
     clear hd hr BF;have OZ:=lK;have HW2:Hid (d8 x=ck2 x seen1):=lH (by rw[HW1.o];unfold ck1;rw[tR.o,T4.o];rfl);(go_wp2_with fail);have aDf:Hid (x.brs.length=m2):=lH lK.o.r2.1
     go_loopw [89] (fun i wr=>∃(k:Nat)(seen2:List ByteArray),k<=m2/\i=.int .i64 k/\Ck W0 wr (w.heap.size+1) A0 m0 nodes ⟨A0,m0,c0,A1,m1,c1,A2,m2,c2,A3,m3,c3,A4,m4,c4,A5,m5,c5⟩ x seen2/\aD wr (w.heap.size+1+1) 147 #[.map (some (w.heap.size+1)),(.slice A0 m0 c0)]/\aD wr w.heap.size 29 #[.slice A0 m0 c0,.slice A1 m1 c1,.slice A2 m2 c2,.slice A3 m3 c3,.slice A4 m4 c4,.slice A5 m5 c5]/\seen2.length<=seen1.length+k/\aV (JS nodes) Br.name seen1 x.brs=aV (JS nodes) Br.name seen2 (x.brs.drop k)) (fun i _=>m2-(intOf i).toNat)
     case atStart=>exact⟨0,seen1,by omega,rfl,HC.o,vN.o,pU.o,by omega,rfl⟩
     case round=>
      clear HC vN pU lK;obtain⟨k,seen2,hk,rfl,hC,mR,mE,BF,mG⟩:=hrel;obtain⟨HC,vN,pU,oG⟩:=gO hC mR mE mG;obtain⟨g0,g1,gf,glt⟩:=iV mR;obtain⟨y0,y1,y2,y3,y4,y5,nf,nlt⟩:=cG (h:=⟨A0,m0,c0,A1,m1,c1,A2,m2,c2,A3,m3,c3,A4,m4,c4,A5,m5,c5⟩) mE;have hbw:=hC.sn.lt;have lK:=lH hC.net;clear hC mR mE mG;by_cases aR:k<m2
      ·obtain⟨z,hz⟩:∃z,x.brs[k]?=some z:=eG (by have:=aDf.out;omega)
       obtain⟨bz,oz,hA,R6⟩:=HC.o.net.r2.form (by dsimp only;omega);dsimp only at hA;subst hA;obtain⟨e0,e1,e2,e3,e4,e5,e6,e7,e8⟩:=HC.o.net.r2.at_ hz;have W7:=HC.o.net.z2 z (cS hz);have HZ:=lH (bW hz);clear hz;(go_wp2_with fail);have hB:=xF wr (.cells #[.string z.name,.string z.fr,.string z.to,.int .i64 z.x,.int .i64 z.tap,.int .i64 z.shift,.int .i64 z.limit,.int .i64 z.short,.int .i64 z.hold] 53) (.cells #[.string z.fr,.string z.to] 9);have hE:aW ((wr.alloc (.cells #[.string z.name,.string z.fr,.string z.to,.int .i64 z.x,.int .i64 z.tap,.int .i64 z.shift,.int .i64 z.limit,.int .i64 z.short,.int .i64 z.hold] 53)).alloc (.cells #[.string z.fr,.string z.to] 9)) ((wr.alloc (.cells #[.string z.name,.string z.fr,.string z.to,.int .i64 z.x,.int .i64 z.tap,.int .i64 z.shift,.int .i64 z.limit,.int .i64 z.short,.int .i64 z.hold] 53)).alloc (.cells #[.string z.fr,.string z.to] 9)).heap.size (some ⟨wr.heap.size+1,0,none⟩) 2 [z.fr,z.to]:=dS (zs:=[z.fr,z.to]) (aD.new_ (by simp)) (by simp);have rY:=HC.o.below hB;refine(jZ (w.heap.size+1) _ _ m0 c0 nodes seen2 z.name _ 2 2 [z.fr,z.to] _ rY.rn MZ rY.sn (by omega) W7 hE (by omega)).mono ?_;generalize hR:jM nodes seen2 z.name [z.fr,z.to]=r;rintro e w2 ⟨rfl,iH,JK⟩;have EC:aD w2 wr.heap.size 53 #[.string z.name,.string z.fr,.string z.to,.int .i64 z.x,.int .i64 z.tap,.int .i64 z.shift,.int .i64 z.limit,.int .i64 z.short,.int .i64 z.hold]:=aD.grown ((aD.new wr _ _).alloc _) iH (fun e=>by injection e;omega);have mR:aD w2 (w.heap.size+1+1) 147 #[.map (some (w.heap.size+1)),(.slice A0 m0 c0)]:=aD.grown (vN.o.bl hB) iH (fun e=>by injection e;omega);have mE:=aD.grown (pU.o.bl hB) iH (fun e=>by injection e;omega);obtain⟨fW,jR,K2,ZY⟩:=gO (eI rY.gr iH) JK rY iH;obtain⟨f0,f1,f2,f3,f4,f5,f6,f7,f8,ff,flt⟩:=Br.box EC;have B_:=lH mR;have vI:=lH mE;have vH:=lH hR;clear hB hE rY iH JK EC mR mE hR e0 e1 e2 e3 e4 e5 e6 e7 e8;by_cases jH:r=0
       ·subst jH
        have HC3:=lH (K2.o.put ZY.o (jR.o rfl));(go_wp2_with fail);refine(I1 z _).mono ?_;rintro e w3 ⟨rfl,k3⟩;obtain⟨HC4,HQ1'',HQ2''⟩:=eR (HC3.o.below k3) (B_.o.bl k3) (vI.o.bl k3);have GN:=lH (eI fW.o (fC k3 _));clear k3;cases hbad:z.bad with
        | true=>
         have M8:z.ck=4:=by unfold Br.ck;rw[hbad];rfl
         have hf:JS nodes seen2 z=4:=by unfold JS;rw[vH.o,M8];rfl
         have hr:(aV (JS nodes) Br.name seen1 x.brs).1=4:=by rw[oG.o];exact cW HZ.o hf (by omega)
         have nH:=lH hr;clear hf hr hbad;(go_wp2_with fail);go_ret;exact⟨aQ (by rw[HW2.o];unfold ck2;rw[tR.o,if_pos (by rw[nH.o];omega),nH.o]),CF.o GN.o⟩
        | false=>
         have M8:z.ck=0:=by unfold Br.ck;rw[hbad];rfl
         have hf:JS nodes seen2 z=0:=by unfold JS;rw[vH.o,M8];rfl
         have HF:=lH hf;clear hf hbad;(go_wp2_with fail);go_roundw
         case rel=>exact⟨k+1,z.name::seen2,by omega,by go_num,HC4.o,HQ1''.o,HQ2''.o,by simp;omega,by rw[oG.o];exact lT HZ.o HF.o⟩
         case measure=>simp[intOf];omega
       ·have RW:(r != 0)=true:=by simpa using jH
        have hf:JS nodes seen2 z=r:=by unfold JS;rw[vH.o,if_pos jH]
        have hr:(aV (JS nodes) Br.name seen1 x.brs).1=r:=by rw[oG.o];exact cW HZ.o hf jH
        have nH:=lH hr;have GY:=lH jH;clear hf hr jH;(go_wp2_with fail);go_ret;exact⟨aQ (by rw[HW2.o];unfold ck2;rw[tR.o,if_pos (by rw[nH.o];exact GY.o),nH.o]),CF.o fW.o⟩
      ·have hd:x.brs.drop k=[]:=by rw[List.drop_eq_nil_iff];have:=aDf.out;omega
       have hr:aV (JS nodes) Br.name seen1 x.brs=(0,seen2):=by rw[oG.o,hd];rfl
       have N6:=lH hr;have aQM:seen2.length<=seen1.length+m2:=by omega
       clear hd hr BF;have OZ:=lK;have HW3:Hid (d8 x=ZC x seen2):=lH (by rw[HW2.o];unfold ck2;rw[tR.o,N6.o];rfl);(go_wp2_with fail);have hCw:Ck wr wr (w.heap.size+1) A0 m0 nodes ⟨A0,m0,c0,A1,m1,c1,A2,m2,c2,A3,m3,c3,A4,m4,c4,A5,m5,c5⟩ x seen2:=⟨⟨rfl,rfl,rfl,lR,fun _ _ _=>rfl⟩,HC.o.sn,HC.o.rn,HC.o.net⟩;refine(YL (w.heap.size+1) _ m0 c0 nodes ⟨A0,m0,c0,A1,m1,c1,A2,m2,c2,A3,m3,c3,A4,m4,c4,A5,m5,c5⟩ x seen2 _ hCw MZ (by omega) hm3 hm4 hm5 tR.o).mono ?_;rintro e w4 ⟨rfl,hg4⟩;have TC:=lH (eI HC.o.gr hg4);clear hg4 hCw;(go_wp2_with fail);go_ret;exact⟨aQ (by rw[HW3.o]),CF.o TC.o⟩
theorem EW(h:cQ)(x:bP)(w:Wo)(r:cX w w.heap.size h x):Calls Tryz.prog 35 #[.agg h.cells] w fun e w'=>e=.returned (.int .i64 (d8 x))/\Below w.heap.size w w':=by
 by_cases hl:jA x
 ·exact KF h x w r hl
 ·exact KE h x w r hl
end
