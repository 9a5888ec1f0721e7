import Derived.Test.YthgdchffeigkbaaGreatDoorW05
set_option linter.unusedVariables false
set_option linter.unusedSimpArgs false
namespace Go.Proofs.YthgdchffeigkbaaGreatDoor
set_option maxHeartbeats 4000000
set_option maxRecDepth 100000
variable {L : List Oper} {c : UInt8} {ex : List Nat} {n : Nat}
section
open Go.ChangeShapes Go.WideShapes Go.ChangeAt Go.RowKit
attribute [local go_sem ↓] aE
attribute [local go_sem] aL aK aO
def dgB(c:UInt8):Bool:=decide (48<=c.toNat/\c.toNat<=57)
def fS(l:List UInt8):Int:=if l.all dgB then(if l=[]\/(1<l.length/\l.head?=some 48) then 5 else if 2000<l.length then 2 else 0) else 5
theorem Y4{l:List UInt8}:l.all dgB=true<->jY l:=by
 rw[List.all_eq_true];unfold jY OF dgB;exact⟨fun h c hc=>by simpa using h c hc,fun h c hc=>by simpa using h c hc⟩
theorem sL{l:List UInt8}:fS l=0<->EW l/\l.length<=2000:=by
 unfold fS EW;by_cases h:l.all dgB=true
 ·rw[if_pos h]
  have ha:=Y4.1 h;by_cases h1:l=[]\/(1<l.length/\l.head?=some 48)
  ·rw[if_pos h1]
   refine⟨fun e=>(by cases e),fun⟨⟨g1,g2,g3⟩,g4⟩=>?_⟩;rcases h1 with h1 | ⟨h1,h2⟩
   ·exact absurd h1 g1
   ·exact absurd h2 (g3 h1)
  ·rw[if_neg h1]
   have hn:l≠[]:=fun e=>h1 (.inl e);have hz:1<l.length->l.head?≠some 48:=fun g e=>h1 (.inr ⟨g,e⟩)
   by_cases h2:2000<l.length
   ·rw[if_pos h2]
    exact⟨fun e=>(by cases e),fun⟨_,g⟩=>by omega⟩
   ·rw[if_neg h2]
    exact⟨fun _=>⟨⟨hn,ha,hz⟩,by omega⟩,fun _=>rfl⟩
 ·rw[if_neg h]
  exact⟨fun e=>(by cases e),fun⟨⟨_,g,_⟩,_⟩=>absurd (Y4.2 g) h⟩
theorem wG(s:ByteArray)(w:Wo)(hs:s.size<=maxLen):Calls Tryz.prog 137 #[.string s] w fun e w'=>e=.returned (.int .i64 (fS s.data.toList))/\Below w.heap.size w w':=by
 have VM:=fun w=>run_bytes_of_string (P:=Tryz.prog) w 9 231 5 s Tryz.underlying9 Tryz.underlying231 Tryz.underlying5;unfold maxLen at hs;go_enter Tryz.func137,Tryz.ntmps137
 go_wp2_with fail
 clear VM;generalize grownCap w s.size 0 5=cap;have jI:∀k (h:k<s.data.size),(w.alloc (.cells (bytesRow s cap) 5 ((bytesRow s cap).size,(bytesRow s cap).size+1))).cell? ⟨w.heap.size,k,none⟩=some (.int .u8 (s.data[k].toNat:Int)):=fun k h=>by
  rw[World.cell?_alloc_mark,bytesRow_at s cap k h]
 have HC:=lH jI;have K0:Below w.heap.size w (w.alloc (.cells (bytesRow s cap) 5 ((bytesRow s cap).size,(bytesRow s cap).size+1))).drew:=aI (bA);have HK:=lH K0;have aMp:w.heap.size<(w.alloc (.cells (bytesRow s cap) 5 ((bytesRow s cap).size,(bytesRow s cap).size+1))).heap.size:=by simp
 clear jI K0;generalize (w.alloc (.cells (bytesRow s cap) 5 ((bytesRow s cap).size,(bytesRow s cap).size+1)))=w1 at *
 go_loop [4,8] (fun _ i=>∃k:Nat,k<=s.size/\i=.int .i64 k/\s.data.toList.all dgB=(s.data.toList.drop k).all dgB) (fun _ i=>s.size-(intOf i).toNat)
 case atStart=>exact⟨0,by omega,rfl,rfl⟩
 case round=>
  obtain⟨k,hk,rfl,oR⟩:=hrel;have HG:=lH oR;clear oR;by_cases aR:k<s.size
  ·obtain⟨n,hn,Q4⟩:∃n:Nat,n<256/\n=(s.data[k]'aR).toNat:=⟨_,UInt8.toNat_lt _,rfl⟩
   have hc:=HC.o k aR;rw[<-Q4] at hc;have hd:s.data.toList.drop k=s.data[k]'aR::s.data.toList.drop (k+1):=by
    rw[List.drop_eq_getElem_cons (by simp;exact aR)];simp
   have HD:Hid ((s.data.toList.drop k).all dgB=(decide (48<=n/\n<=57) && (s.data.toList.drop (k+1)).all dgB)):=lH (by rw[hd,Q4];rfl);have f_:(k:Int)<(s.size:Int):=by omega
   clear hd Q4;by_cases h48:n<48
   ·have HN:Hid (fS s.data.toList=5):=lH (by unfold fS;rw[HG.o,HD.o,decide_eq_false (by omega),Bool.false_and];rfl)
    (go_wp2_with fail);go_ret;exact⟨aU HN.o.symm,HK.o⟩
   ·by_cases h57:57<n
    ·have HN:Hid (fS s.data.toList=5):=lH (by unfold fS;rw[HG.o,HD.o,decide_eq_false (by omega),Bool.false_and];rfl)
     (go_wp2_with fail);go_ret;exact⟨aU HN.o.symm,HK.o⟩
    ·have HN:Hid (s.data.toList.all dgB=(s.data.toList.drop (k+1)).all dgB):=lH (by rw[HG.o,HD.o,decide_eq_true (by omega),Bool.true_and])
     go_wp2_with fail
     go_round
     case rel=>exact⟨k+1,by omega,by go_num,HN.o⟩
     case measure=>simp[intOf];omega
  ·have hd:s.data.toList.drop k=[]:=by rw[List.drop_eq_nil_iff];simp;exact Nat.le_of_not_lt aR
   have HA:Hid (s.data.toList.all dgB=true):=lH (by rw[HG.o,hd];rfl);have f_:¬(k:Int)<(s.size:Int):=by omega
   have HS:=lH (Lib.size_eq s);clear hd;by_cases h0:s.size=0
   ·have hl:s.data.toList=[]:=List.eq_nil_of_length_eq_zero (by have:=HS.o;omega)
    have HN:Hid (fS s.data.toList=5):=lH (by rw[hl];rfl);have hs0:s=⟨#[]⟩:=by apply ByteArray.ext;apply Array.ext';simpa using hl
    subst hs0;(go_wp2_with fail);go_ret;exact⟨aU HN.o.symm,HK.o⟩
   ·obtain⟨c,r,hcr⟩:∃c r,s.data.toList=c::r:=by
     cases hl:s.data.toList with
     | nil=>exact absurd (by have:=HS.o;rw[hl] at this;simpa using this) h0
     | cons c r=>exact⟨c,r,rfl⟩
    have hem:s.toList.isEmpty=false:=by rw[ByteArray.toList_eq,hcr];rfl
    have cG:s.toList≠[]:=fun e=>by rw[e] at hem;cases hem
    have a2x:∀h:0<s.size,(s[0]'h).toNat=c.toNat:=fun h=>by
     have:s.data.toList[0]?=some c:=by rw[hcr];rfl
     have h2:s.data[0]?=some c:=by simpa using this
     obtain⟨h3,h4⟩:=Array.getElem?_eq_some_iff.1 h2;show(s.data[0]'h3).toNat=_;rw[h4]
    have HCR:=lH hcr;have VG:0<s.size:=by omega
    have WU:Hid (s.size=r.length+1):=lH (by rw[HS.o,hcr];rfl);clear hcr;by_cases h1:1<s.size
    ·have h1I:(1:Int)<(s.size:Int):=by omega
     by_cases h48:c.toNat=48
     ·have aWB:((c.toNat:Int) == 48)=true:=by rw[h48];rfl
      have HN:Hid (fS s.data.toList=5):=lH (by
       unfold fS;rw[HA.o,if_pos rfl,if_pos (.inr ⟨by rw[<-HS.o];exact h1,by rw[HCR.o];exact congrArg some (UInt8.toNat_inj.1 h48)⟩)])
      (go_wp2_with fail);go_ret;exact⟨aU HN.o.symm,HK.o⟩
     ·have aWB:((c.toNat:Int) == 48)=false:=by simp;omega
      have hno:¬(s.data.toList=[]\/(1<s.data.toList.length/\s.data.toList.head?=some 48)):=by
       rw[HCR.o];rintro(h | ⟨_,h⟩)
       ·cases h
       ·injection h with h;subst h;exact h48 rfl
      have HNO:=lH hno;clear hno;by_cases h2:2000<s.size
      ·have h2I:(2000:Int)<(s.size:Int):=by omega
       have HN:Hid (fS s.data.toList=2):=lH (by unfold fS;rw[HA.o,if_pos rfl,if_neg HNO.o,if_pos (by rw[<-HS.o];exact h2)]);(go_wp2_with fail);go_ret;exact⟨aU HN.o.symm,HK.o⟩
      ·have h2I:¬(2000:Int)<(s.size:Int):=by omega
       have HN:Hid (fS s.data.toList=0):=lH (by unfold fS;rw[HA.o,if_pos rfl,if_neg HNO.o,if_neg (by rw[<-HS.o];exact h2)]);(go_wp2_with fail);go_ret;exact⟨aU HN.o.symm,HK.o⟩
    ·have h1I:¬(1:Int)<(s.size:Int):=by omega
     have h2I:¬(2000:Int)<(s.size:Int):=by omega
     have HN:Hid (fS s.data.toList=0):=lH (by
      unfold fS;have hl:=HS.o;rw[HA.o,if_pos rfl,if_neg (by rw[HCR.o];rintro(h | ⟨h,_⟩);cases h;rw[HCR.o] at hl;omega),if_neg (by omega)])
     (go_wp2_with fail);go_ret;exact⟨aU HN.o.symm,HK.o⟩
theorem K3(s:ByteArray):rdT false s.data.toList=s:=by
 apply ByteArray.ext;simp[rdT]
def TwP(y z:Int)(w:Wo)(e:Ending)(w':Wo):Prop:=Below w.heap.size w w'/\∃b A n c b2 B m d,e=.returned (.tuple #[.agg #[.bool b,.slice A n c],.agg #[.bool b2,.slice B m d],.int .i64 0])/\bW w' w'.heap.size y b A n c/\bW w' w'.heap.size z b2 B m d
theorem aLx(s t:ByteArray)(w:Wo)(h1:fS s.data.toList=0)(h2:fS t.data.toList=0):Calls Tryz.prog 161 #[.string s,.string t] w (TwP (dv s.data.toList) (dv t.data.toList) w):=by
 obtain⟨⟨_,k1,_⟩,k2⟩:=sL.1 h1;obtain⟨⟨_,k3,_⟩,k4⟩:=sL.1 h2;have HD1:Hid (jY s.data.toList):=lH k1;have HD2:Hid (jY t.data.toList):=lH k3;have HL1:Hid (s.size<=2000):=lH (by rw[Lib.size_eq];exact k2);have HL2:Hid (t.size<=2000):=lH (by rw[Lib.size_eq];exact k4);have eY:=lH h1;have iD:=lH h2;have iW:∀w,(Instr.index 258 (.agg #[.string s,.string t]) (.int .i64 0)).run Tryz.prog w=.ok (.string s) w:=fun _=>by kernel_rfl
 have KC:∀w,(Instr.index 258 (.agg #[.string s,.string t]) (.int .i64 1)).run Tryz.prog w=.ok (.string t) w:=fun _=>by kernel_rfl
 have ES:=lH iW;have wX:=lH KC;have eD:Hid (Below w.heap.size w ((w.alloc cP).alloc cP)):=lH ((bA).alloc (by simp) _);have fB:Hid (aD ((w.alloc cP).alloc cP) w.heap.size 113 #[.bool false,.slice none 0 0]):=lH ((aD.new w _ _).alloc _);have gG:Hid (aD ((w.alloc cP).alloc cP) (w.heap.size+1) 113 #[.bool false,.slice none 0 0]):=lH (aD.new_ (by simp));clear h1 h2 k1 k2 k3 k4 iW KC;go_enter Tryz.func161,Tryz.ntmps161
 go_wp2_with fail
 generalize ((w.alloc cP).alloc cP)=W at *
 go_loopw [8,9,13] (fun v8 v9 i wr=>∃k:Nat,k<=2/\i=.int .i64 k/\Below w.heap.size w wr/\aD wr w.heap.size 113 #[.bool false,.slice none 0 0]/\aD wr (w.heap.size+1) 113 #[.bool false,.slice none 0 0]) (fun _ _ i _=>2-(intOf i).toNat)
 case atStart=>exact⟨0,by omega,rfl,eD.o,fB.o,gG.o⟩
 case round=>
  clear eD fB gG;obtain⟨k,hk,rfl,hb,DB,xV⟩:=hrel;obtain⟨HB,fB,gG⟩:=dZ hb DB xV;clear hb DB xV;have hc:k=0\/k=1\/k=2:=by omega
  rcases hc with rfl | rfl | rfl
  ·have e:(((0:Nat):Int))=0:=rfl
   rw[e];clear e;have iW:=ES.o;(go_wp2_with fail);refine(wG s wr (by have:=HL1.o;unfold maxLen;omega)).mono ?_;rw[eY.o];rintro e w1 ⟨rfl,bO⟩;have cI:=cJ HB bO;have I9:=lH (fB.o.bl bO);have aGr:=lH (gG.o.bl bO);clear bO HB fB gG iW;(go_wp2_with fail);go_roundw
   case rel=>exact⟨1,by omega,rfl,cI.o,I9.o,aGr.o⟩
   case measure=>simp[intOf]
  ·have e:(((1:Nat):Int))=1:=rfl
   rw[e];clear e;have KC:=wX.o;(go_wp2_with fail);refine(wG t wr (by have:=HL2.o;unfold maxLen;omega)).mono ?_;rw[iD.o];rintro e w1 ⟨rfl,bO⟩;have cI:=cJ HB bO;have I9:=lH (fB.o.bl bO);have aGr:=lH (gG.o.bl bO);clear bO HB fB gG KC;(go_wp2_with fail);go_roundw
   case rel=>exact⟨2,by omega,rfl,cI.o,I9.o,aGr.o⟩
   case measure=>simp[intOf]
  ·have e:(((2:Nat):Int))=2:=rfl
   rw[e];clear e;(go_wp2_with fail);have c1:=z_ false s.data.toList HD1.o (by have:=HL1.o;rw[Lib.size_eq] at this;omega) wr;rw[K3] at c1;refine c1.mono ?_;clear c1;rintro e w1 ⟨bO,f1,C1,i1,j1,rfl,h1⟩;have cI:=cJ HB bO;obtain⟨I9,aGr,H1⟩:=dZ (fB.o.bl bO) (gG.o.bl bO) h1;clear bO HB fB gG h1;(go_wp2_with fail);have c2:=z_ false t.data.toList HD2.o (by have:=HL2.o;rw[Lib.size_eq] at this;omega) w1;rw[K3] at c2;refine c2.mono ?_;clear c2;rintro e w2 ⟨bH,f2,C2,i2,j2,rfl,h2⟩;have dN:=cJ cI bH;obtain⟨aBT,aRM,H12,H22⟩:=h_ (I9.o.bl bH) (aGr.o.bl bH) (H1.o.up bH) h2;have e10:w.heap.size+1≠w.heap.size:=by omega
   have e01:w.heap.size≠w.heap.size+1:=by omega
   clear bH cI I9 aGr h2 H1;obtain⟨y0,y1,yf,yl⟩:=aBT.o.e2;obtain⟨z0,z1,zf,zl⟩:=aRM.o.e2;(go_wp2_with fail);clear y0 y1 yf yl z0 z1 zf zl;generalize hw3:(w2.setCell ⟨w.heap.size,0,none⟩ (.bool f1)).setCell ⟨w.heap.size,1,none⟩ (.slice C1 i1 j1)=w3;have aNm:Hid (aD w3 w.heap.size 113 #[.bool f1,.slice C1 i1 j1]):=lH (by rw[<-hw3];exact bV aBT.o);have aGq:Hid (aD w3 (w.heap.size+1) 113 #[.bool false,.slice none 0 0]):=lH (by rw[<-hw3];exact(aRM.o.far e10 _).far e10 _);have fV:Hid (Below w.heap.size w w3):=lH (by rw[<-hw3];exact cO dN.o lR);have H13:Hid (bW w3 w3.heap.size (J5 false s.data.toList) f1 C1 i1 j1):=lH (by rw[<-hw3];exact(H12.o.keep (aBT.o.cell 0) (by simp) _).keep ((aBT.o.set_ 0 (.bool f1)).cell 1) (by simp) _);have H23:Hid (bW w3 w3.heap.size (J5 false t.data.toList) f2 C2 i2 j2):=lH (by rw[<-hw3];exact(H22.o.keep (aBT.o.cell 0) (by simp) _).keep ((aBT.o.set_ 0 (.bool f1)).cell 1) (by simp) _);clear hw3 aBT aRM dN H12 H22;generalize E4:(w3.setCell ⟨w.heap.size+1,0,none⟩ (.bool f2)).setCell ⟨w.heap.size+1,1,none⟩ (.slice C2 i2 j2)=w4;have aWY:Hid (aD w4 w.heap.size 113 #[.bool f1,.slice C1 i1 j1]):=lH (by rw[<-E4];exact(aNm.o.far e01 _).far e01 _);have aWW:Hid (aD w4 (w.heap.size+1) 113 #[.bool f2,.slice C2 i2 j2]):=lH (by rw[<-E4];exact bV aGq.o);have bP:Hid (Below w.heap.size w w4):=lH (by rw[<-E4];exact cO fV.o (Nat.le_succ _));have H14:Hid (bW w4 w4.heap.size (J5 false s.data.toList) f1 C1 i1 j1):=lH (by rw[<-E4];exact(H13.o.keep (aGq.o.cell 0) (by simp) _).keep ((aGq.o.set_ 0 (.bool f2)).cell 1) (by simp) _);have H24:Hid (bW w4 w4.heap.size (J5 false t.data.toList) f2 C2 i2 j2):=lH (by rw[<-E4];exact(H23.o.keep (aGq.o.cell 0) (by simp) _).keep ((aGq.o.set_ 0 (.bool f2)).cell 1) (by simp) _);clear E4;obtain⟨q0,q1⟩:=aWY.o.a2;obtain⟨q2,q3⟩:=aWW.o.a2;exact bodyPost_ret (v:=.tuple #[.agg #[.bool f1,.slice C1 i1 j1],.agg #[.bool f2,.slice C2 i2 j2],.int .i64 0]) (by simp[results,Tryz.results161,go_sem,q0,q1,q2,q3]) rfl ⟨bP.o,f1,C1,i1,j1,f2,C2,i2,j2,rfl,H14.o,H24.o⟩
theorem aDZ(v:Nat)(b:Bool)(A:OA)(n c:Nat)(w:Wo)(h:bW w w.heap.size (v:Int) b A n c)(ht:fL w)(hv:xU v<=2000):Calls Tryz.prog 162 #[.agg #[.bool b,.slice A n c]] w fun e w'=>e=.returned (.tuple #[.string ⟨(Lib.decDigits v).toArray⟩,.int .i64 0])/\Below w.heap.size w w':=by
 have eD:Hid (Below w.heap.size w (w.alloc (aN b A n c))):=lH (bA);obtain⟨fB,H1,HT⟩:=dZ (aD.new w 113 #[.bool b,.slice A n c]) (h.up eD.o) (ht.up eD.o);have hf:xU (v:Int).natAbs<=2000:=by rw[Int.natAbs_natCast];exact hv
 have HF:=lH hf;have ZQ:Hid (jR (v:Int)=Lib.decDigits v):=lH (by unfold jR;rw[if_neg (Int.not_lt.2 (Int.natCast_nonneg v)),Int.natAbs_natCast,List.nil_append]);clear h ht hf;go_enter Tryz.func162,Tryz.ntmps162
 go_upto_region 1 with fail
 generalize w.alloc (aN b A n c)=W at *;obtain⟨p0,p1,pl⟩:=fB.o.b2
 go_wp2_with fail
 refine(C_ (v:Int) b A n c W H1.o HT.o).mono ?_;rintro e w1 ⟨bO,s,he,hs,-⟩;rw[decide_eq_true HF.o] at he;have yS:=hs HF.o;rw[ZQ.o] at yS;subst yS;subst he;have cI:=cJ eD bO;clear bO hs p0 p1 pl
 go_wp2_with fail
 go_ret2;exact⟨rfl,cI.o⟩
theorem aFp{a b:Nat}(ha:a<10^2000)(hb:b<10^2000):xU (a.gcd b)<=2000:=by
 refine US (by decide) ?_;rcases Nat.eq_zero_or_pos a with h | h
 ·subst h;rw[Nat.gcd_zero_left];exact hb
 ·exact zT_ (Nat.gcd_le_left _ h) ha
theorem aIj(s t:ByteArray)(w:Wo)(h1:fS s.data.toList=0)(h2:fS t.data.toList=0)(ht:fL w):Calls Tryz.prog 138 #[.string s,.string t] w fun e w'=>e=.returned (.tuple #[.string ⟨(Lib.decDigits ((dv s.data.toList).gcd (dv t.data.toList))).toArray⟩,.int .i64 0])/\Below w.heap.size w w':=by
 obtain⟨HT,eY,iD⟩:=dZ ht h1 h2;have aR:∀l:List UInt8,fS l=0->dv l<10^2000/\dA (dv l)<=2000:=fun l h=>by
  obtain⟨⟨_,k1,_⟩,k2⟩:=sL.1 h;have h3:=yH k2;have h4:=kA (RP k1) h3;exact⟨h4,b_ (N0 k1) k2⟩
 have HA:=lH (aR _ h1);have HC:=lH (aR _ h2);clear ht h1 h2 aR;go_enter Tryz.func138,Tryz.ntmps138
 go_wp2_with fail
 refine(aLx s t w eY.o iD.o).mono ?_;rintro e w1 ⟨bO,f1,C1,i1,j1,f2,C2,i2,j2,rfl,g1,g2⟩;have HK:Hid (Below w1.heap.size w1 ((w1.alloc (aN f1 C1 i1 j1)).alloc (aN f2 C2 i2 j2))):=lH ((bA).alloc (by simp) _);have cI:=lH (bO.tm HK.o);have fB:Hid (aD ((w1.alloc (aN f1 C1 i1 j1)).alloc (aN f2 C2 i2 j2)) w1.heap.size 113 #[.bool f1,.slice C1 i1 j1]):=lH ((aD.new w1 _ _).alloc _);have gG:Hid (aD ((w1.alloc (aN f1 C1 i1 j1)).alloc (aN f2 C2 i2 j2)) (w1.heap.size+1) 113 #[.bool f2,.slice C2 i2 j2]):=lH (aD.new_ (by simp));have H1:=lH (g1.up HK.o);have H2:=lH (g2.up HK.o);have hn1:i1<=2000:=by rw[g1.en,Int.natAbs_natCast];exact HA.o.2
 have Q4:i2<=2000:=by rw[g2.en,Int.natAbs_natCast];exact HC.o.2
 clear bO g1 g2
 go_upto_region 2 with fail
 generalize ((w1.alloc (aN f1 C1 i1 j1)).alloc (aN f2 C2 i2 j2))=W at *;obtain⟨p0,p1,pl⟩:=fB.o.b2;obtain⟨q0,q1,ql⟩:=gG.o.b2
 go_wp2_with fail
 refine(YU (dv s.data.toList:Int) (dv t.data.toList:Int) f1 C1 i1 j1 f2 C2 i2 j2 W H1.o H2.o (b_ hn1 (by decide)) (b_ Q4 (by decide))).mono ?_;rw[Int.natAbs_natCast,Int.natAbs_natCast];rintro e w3 ⟨dK,f3,C3,i3,j3,rfl,g3⟩;have fV:=cJ cI dK;have H3:=lH g3;clear dK g3 p0 p1 pl q0 q1 ql
 go_wp2_with fail
 refine(aDZ _ f3 C3 i3 j3 w3 H3.o (HT.o.up fV.o) (aFp HA.o.1 HC.o.1)).mono ?_;rintro e w4 ⟨rfl,gE⟩;have bP:=cJ fV gE;clear gE
 go_wp2_with fail
 go_ret2;exact⟨rfl,bP.o⟩
def iN(c:UInt8):List UInt8->List UInt8×List UInt8×Bool
 | []=>([],[],false)
 | x::r=>if x=c then([],r,true) else(x::(iN c r).1,(iN c r).2.1,(iN c r).2.2)
theorem N6:∀{l:List UInt8},c∉l->iN c l=(l,[],false)
 | [],_=>rfl
 | x::r,h=>by
  have h1:x≠c:=fun e=>h (by rw[e];exact List.mem_cons_self ..);unfold iN;rw[if_neg h1,N6 fun hm=>h (List.mem_cons_of_mem _ hm)]
theorem R4:∀{a b:List UInt8},c∉a->iN c (a++c::b)=(a,b,true)
 | [],b,_=>by simp[iN]
 | x::r,b,h=>by
  have h1:x≠c:=fun e=>h (by rw[e];exact List.mem_cons_self ..);rw[List.cons_append,iN,if_neg h1,R4 fun hm=>h (List.mem_cons_of_mem _ hm)]
theorem V_(c:UInt8):∀l:List UInt8,(Lib.indexByte l c=-1/\iN c l=(l,[],false))\/(∃i:Nat,Lib.indexByte l c=(i:Int)/\i+1<=l.length/\iN c l=(l.take i,l.drop (i+1),true))
 | []=>.inl ⟨rfl,rfl⟩
 | x::r=>by
  unfold Lib.indexByte iN;by_cases h:x=c
  ·right
   exact⟨0,by simp[h],by simp,by simp[h]⟩
  ·have hb:(x == c)=false:=by simpa using h
   rw[hb,if_neg h];rcases V_ c r with⟨h1,h2⟩ | ⟨i,h1,h2,h3⟩
   ·left
    rw[h1,h2];simp
   ·right
    refine⟨i+1,?_,by simp;omega,by rw[h3];simp⟩;rw[h1];have:((i:Int) == -1)=false:=by simp
    simp[this]
theorem Y8:∀{l:List UInt8},(iN c l).2.2=true->l=(iN c l).1++c::(iN c l).2.1/\c∉(iN c l).1
 | [],h=>by cases h
 | x::r,h=>by
  unfold iN at h ⊢;by_cases hx:x=c
  ·subst hx;simp
  ·rw[if_neg hx] at h ⊢
   obtain⟨h1,h2⟩:=Y8 (l:=r) h;refine⟨by simp only[List.cons_append];rw[<-h1],fun hm=>?_⟩;rcases List.mem_cons.1 hm with e | hm
   ·exact hx e.symm
   ·exact h2 hm
theorem DK:∀{l:List UInt8},(iN c l).2.2=false->c∉l/\iN c l=(l,[],false)
 | [],_=>⟨by simp,rfl⟩
 | x::r,h=>by
  by_cases hx:x=c
  ·unfold iN at h;rw[if_pos hx] at h;cases h
  ·have h':(iN c r).2.2=false:=by unfold iN at h;rw[if_neg hx] at h;exact h
   obtain⟨h1,h2⟩:=DK h';have h3:c∉x::r:=fun hm=>(List.mem_cons.1 hm).elim (fun e=>hx e.symm) h1;exact⟨h3,N6 h3⟩
def aTj(c:UInt8)(l:List UInt8)(w:Wo)(e:Ending)(w':Wo):Prop:=e=.returned (.tuple #[.string ⟨(iN c l).1.toArray⟩,.string ⟨(iN c l).2.1.toArray⟩,.bool (iN c l).2.2])/\Below w.heap.size w w'
theorem aEr(c:UInt8)(l:List UInt8)(hl:l.length<=9223372036854775807)(w:Wo):Calls Tryz.prog 142 #[.string ⟨l.toArray⟩,.string ⟨#[c]⟩] w (aTj c l w):=by
 have hix:=V_ c l;have HIX:=lH hix;clear hix;go_enter Tryz.func142,Tryz.ntmps142
 go_wp2_with fail
 refine(Tryz.stringslite_Index_one ⟨l.toArray⟩ c w).mono ?_;rintro e w1 ⟨he,hw⟩;subst hw;rw[show(⟨l.toArray⟩:ByteArray).data.toList=l from by simp] at he;rcases HIX.o with⟨h1,h2⟩ | ⟨i,h1,h2,h3⟩
 ·rw[h1] at he
  subst he;have HQ:=lH h2;clear h1 h2;(go_wp2_with fail)
  go_ret3
  exact⟨by rw[HQ.o];rfl,bR⟩
 ·rw[h1] at he
  subst he;have HQ:=lH h3;have aIG:∀W,(Instr.sliceAt 9 (.string ⟨l.toArray⟩) none (some (.int .i64 (i:Int))) none).run Tryz.prog W=.ok (.string ⟨(l.take i).toArray⟩) W:=fun W=>aC9 l i (by omega) W;have aEA:∀W,(Instr.sliceAt 9 (.string ⟨l.toArray⟩) (some (.int .i64 ((i:Int)+1))) none none).run Tryz.prog W=.ok (.string ⟨(l.drop (i+1)).toArray⟩) W:=fun W=>PH l (i+1) h2 W;have hwr:IntKind.i64.wrap ((i:Int)+1)=(i:Int)+1:=Go.IntWalk.i64_in _ (by omega);obtain⟨A,hA⟩:∃A,l.take i=A:=⟨_,rfl⟩;obtain⟨B,hB⟩:∃B,l.drop (i+1)=B:=⟨_,rfl⟩;rw[hA] at aIG;rw[hB] at aEA;rw[hA,hB] at HQ;clear h1 h3 hA hB
  go_wp2_with fail
  go_quiet (fail)
  go_wp2_with fail
  go_ret3
  exact⟨by rw[HQ.o];rfl,bF bR _⟩
theorem Y7(c:UInt8)(l:List UInt8)(hl:l.length<=9223372036854775807)(w:Wo):Calls Tryz.prog 112 #[.string ⟨l.toArray⟩,.string ⟨#[c]⟩] w (aTj c l w):=by
 go_enter Tryz.func112,Tryz.ntmps112
 go_wp2_with fail
 refine(aEr c l hl w).mono ?_;rintro e w1 ⟨rfl,hb⟩;have HB:=lH hb;clear hb
 go_wp2_with fail
 go_ret3
 exact⟨rfl,HB.o⟩
end
section
open Go.ChangeShapes Go.WideShapes Go.ChangeAt Go.RowKit
attribute [local go_sem ↓] aE
attribute [local go_sem] aL aK aO a_
def zV(l:List UInt8):List UInt8:=Lib.trimPrefix l [45]
def uM(l:List UInt8):List UInt8:=(iN 47 (zV l)).1
def sZ(l:List UInt8):List UInt8:=(iN 47 (zV l)).2.1
def J4(l:List UInt8):Bool:=(iN 47 (zV l)).2.2
def rtB(l:List UInt8):Int:=if J4 l then fS (sZ l) else 0
def xC(l:List UInt8):Prop:=fS (uM l)=5\/rtB l=5\/(uM l=[48]/\(zV l).length<l.length)
def zX(l:List UInt8):Prop:=fS (uM l)≠0\/rtB l≠0
def zW(l:List UInt8):Prop:=sZ l=[48]\/sZ l=[49]\/(dv (uM l)).gcd (dv (sZ l))≠1
instance (l:List UInt8):Decidable (xC l):=by unfold xC;infer_instance
instance (l:List UInt8):Decidable (zX l):=by unfold zX;infer_instance
instance (l:List UInt8):Decidable (zW l):=by unfold zW;infer_instance
def dJ(l:List UInt8):Int:=if xC l then 5 else if zX l then 2 else if J4 l=true/\zW l then 3 else 0
theorem MY(l:List UInt8)(c:UInt8):qX ⟨l.toArray⟩ ⟨#[c]⟩=decide (l=[c]):=by
 unfold qX;refine decide_eq_decide.2 ⟨fun h=>?_,fun h=>by rw[h]⟩;have:=congrArg (fun(x:ByteArray)=>x.data.toList) h;simpa using this
theorem N3:Lib.decDigits n=[49]<->n=1:=
 ⟨fun h=>N4 (h.trans (show[49]=Lib.decDigits 1 by rw[eV (by decide)];rfl)),fun h=>by rw[h,eV (by decide)];rfl⟩
theorem wB(l:List UInt8)(hl:l.length<=maxLen)(w:Wo)(ht:fL w):Calls Tryz.prog 104 #[.string ⟨l.toArray⟩] w fun e w'=>e=.returned (.int .i64 (dJ l))/\Below w.heap.size w w':=by
 have HT:=lH ht;have hsl:(zV l).length<=l.length:=by unfold zV Lib.trimPrefix;split<;>simp
 have HS:Hid (Lib.trimPrefix l [45]=zV l):=lH rfl;have wQ:(uM l).length<=(zV l).length/\(sZ l).length<=(zV l).length:=by
  unfold uM sZ;rcases V_ 47 (zV l) with⟨_,h⟩ | ⟨i,_,_,h⟩<;>rw[h]<;>simp<;>omega
 have MN:=lH wQ;have hm:(zV l).length<=9223372036854775807:=b_ hsl (by unfold maxLen at hl;omega);have ZT:=lH hl;have eC:Hid ((⟨(zV l).toArray⟩:ByteArray).size=(zV l).length):=lH (jS _);have aXi:Hid ((⟨l.toArray⟩:ByteArray).size=l.length):=lH (jS _);have WU:=lH hsl;clear ht wQ hl hsl;go_enter Tryz.func104,Tryz.ntmps104
 go_wp2_with fail
 refine(Tryz.strings_TrimPrefix ⟨l.toArray⟩ ⟨#[45]⟩ w).mono ?_;rintro e w1 ⟨he,hw⟩;subst hw;rw[show(⟨l.toArray⟩:ByteArray).data.toList=l from by simp,show(⟨#[45]⟩:ByteArray).data.toList=[45] from rfl,HS.o] at he;subst he
 go_wp2_with fail
 refine(Y7 47 (zV l) hm w1).mono ?_;rintro e w2 ⟨he,bH⟩;rw[show(iN 47 (zV l)).1=uM l from rfl,show(iN 47 (zV l)).2.1=sZ l from rfl,show(iN 47 (zV l)).2.2=J4 l from rfl] at he;subst he;have dN:=lH bH;clear bH hm;have hq0:=MY (uM l) 48;have hd0:=MY (sZ l) 48;have YM:=MY (sZ l) 49;obtain⟨tn,htn⟩:∃t:ByteArray,⟨(uM l).toArray⟩=t:=⟨_,rfl⟩;obtain⟨td,htd⟩:∃t:ByteArray,⟨(sZ l).toArray⟩=t:=⟨_,rfl⟩;have HTN:Hid (tn.data.toList=uM l):=lH (by rw[<-htn]);have HTD:Hid (td.data.toList=sZ l):=lH (by rw[<-htd]);have aXc:Hid (tn.size=(uM l).length):=lH (by rw[<-htn];exact jS _);have aXd:Hid (td.size=(sZ l).length):=lH (by rw[<-htd];exact jS _);rw[htn] at hq0 ⊢;rw[htd] at hd0 YM ⊢;obtain⟨HQ0,BW,sW⟩:=dZ hq0 hd0 YM;clear htn htd hq0 hd0 YM
 go_wp2_with fail
 refine(wG tn w2 (by rw[aXc.o];exact b_ MN.o.1 (b_ WU.o ZT.o))).mono ?_;rw[HTN.o];rintro e w3 ⟨rfl,dK⟩;have fV:=cJ dN dK;clear dK;obtain⟨a,ha⟩:∃a,fS (uM l)=a:=⟨_,rfl⟩;obtain⟨b,hb⟩:∃b,rtB l=b:=⟨_,rfl⟩;obtain⟨is,his⟩:∃i,J4 l=i:=⟨_,rfl⟩;obtain⟨HA,HBb,HI⟩:=dZ ha hb his;rw[ha,his];clear ha hb his
 go_upto_if 21 with fail
 go_cut [8] (fun v wc=>v=.int .i64 b/\Below w1.heap.size w1 wc)
 case first=>
  cases is with
  | true=>
   (go_wp2_with fail);refine(wG td w3 (by rw[aXd.o];exact b_ MN.o.2 (b_ WU.o ZT.o))).mono ?_;rw[HTD.o];rintro e w4 ⟨he,gE⟩;have hbe:fS (sZ l)=b:=by rw[<-HBb.o];unfold rtB;rw[HI.o];rfl
   rw[hbe] at he;subst he;have bP:=cJ fV gE;clear gE hbe;(go_wp2_with fail);go_meet
   case rel=>exact⟨rfl,bP.o⟩
  | false=>
   have IL:b=0:=by rw[<-HBb.o];unfold rtB;rw[HI.o];rfl
   subst IL;(go_wp2_with fail);go_meet
   case rel=>exact⟨rfl,fV.o⟩
 obtain⟨hv,gE⟩:=hcut;subst hv;have bP:=lH gE;clear gE;generalize wc=V at *
 go_upto_region 6 with fail
 go_cut [24] (fun v wd=>wd=V/\v=.bool (decide (xC l)))
 case first=>
  have HP5:Hid (xC l<->(a=5\/b=5\/(uM l=[48]/\(zV l).length<l.length))):=lH (by unfold xC;rw[HA.o,HBb.o]);by_cases ha:a=5
  ·have hd:decide (xC l)=true:=decide_eq_true (HP5.o.2 (.inl ha))
   have lO:(a == 5)=true:=by simp[ha]
   clear ha;(go_wp2_with fail);go_meet
   case rel=>exact⟨rfl,by rw[hd]⟩
  ·have lO:(a == 5)=false:=by simp[ha]
   by_cases hb:b=5
   ·have hd:decide (xC l)=true:=decide_eq_true (HP5.o.2 (.inr (.inl hb)))
    have yZ:(b == 5)=true:=by simp[hb]
    clear ha hb;(go_wp2_with fail);go_meet
    case rel=>exact⟨rfl,by rw[hd]⟩
   ·have yZ:(b == 5)=false:=by simp[hb]
    have vH:=eC.o;have yS:=aXi.o;by_cases hn:uM l=[48]
    ·have hx:tn.toList=[48]:=by rw[ByteArray.toList_eq,HTN.o];exact hn
     by_cases aR:(zV l).length<l.length
     ·have hd:decide (xC l)=true:=decide_eq_true (HP5.o.2 (.inr (.inr ⟨hn,aR⟩)))
      have hlI:((zV l).length:Int)<(l.length:Int):=by omega
      clear ha hb hn aR;(go_wp2_with fail);go_meet
      case rel=>exact⟨rfl,by rw[hd]⟩
     ·have hd:decide (xC l)=false:=decide_eq_false fun h=>(HP5.o.1 h).elim ha fun h=>h.elim hb fun h=>aR h.2
      have hlI:¬((zV l).length:Int)<(l.length:Int):=by omega
      clear ha hb hn aR;(go_wp2_with fail);go_meet
      case rel=>exact⟨rfl,by rw[hd]⟩
    ·have hx:¬tn.toList=[48]:=by rw[ByteArray.toList_eq,HTN.o];exact hn
     have hd:decide (xC l)=false:=decide_eq_false fun h=>(HP5.o.1 h).elim ha fun h=>h.elim hb fun h=>hn h.1;clear ha hb hn
     (go_wp2_with fail);go_meet
     case rel=>exact⟨rfl,by rw[hd]⟩
 obtain⟨JM,rfl⟩:=hcut;subst JM;generalize wc=V at *;by_cases hP5:xC l
 ·have hR:Hid (dJ l=5):=lH (by unfold dJ;rw[if_pos hP5])
  rw[decide_eq_true hP5];clear hP5;(go_wp2_with fail);go_ret;exact⟨aU hR.out.symm,bP.o⟩
 ·have HP5:=lH hP5
  rw[decide_eq_false hP5];clear hP5;(go_upto_region 8 with fail)
  go_cut [42] (fun v wd=>wd=V/\v=.bool (decide (zX l)))
  case first=>
   have uJ:Hid (zX l<->(a≠0\/b≠0)):=lH (by unfold zX;rw[HA.o,HBb.o]);by_cases ha:a=0
   ·subst ha
    by_cases hb:b=0
    ·subst hb
     have hd:decide (zX l)=false:=decide_eq_false fun h=>(uJ.o.1 h).elim (fun e=>e rfl) fun e=>e rfl
     (go_wp2_with fail);go_meet
     case rel=>exact⟨rfl,by rw[hd]⟩
    ·have hd:decide (zX l)=true:=decide_eq_true (uJ.o.2 (.inr hb))
     have yZ:(b != 0)=true:=by simp[hb]
     clear hb;(go_wp2_with fail);go_meet
     case rel=>exact⟨rfl,by rw[hd]⟩
   ·have hd:decide (zX l)=true:=decide_eq_true (uJ.o.2 (.inl ha))
    have lO:(a != 0)=true:=by simp[ha]
    clear ha;(go_wp2_with fail);go_meet
    case rel=>exact⟨rfl,by rw[hd]⟩
  obtain⟨JM,rfl⟩:=hcut;subst JM;generalize wc=V at *;by_cases hP2:zX l
  ·have hR:Hid (dJ l=2):=lH (by unfold dJ;rw[if_neg HP5.o,if_pos hP2])
   rw[decide_eq_true hP2];clear hP2;(go_wp2_with fail);go_ret;exact⟨aU hR.out.symm,bP.o⟩
  ·have uJ:=lH hP2
   rw[decide_eq_false hP2];clear hP2;cases is with
   | false=>
    have hR:Hid (dJ l=0):=lH (by unfold dJ;rw[if_neg HP5.o,if_neg uJ.o,if_neg (by rw[HI.o];simp)]);(go_wp2_with fail);go_ret;exact⟨aU hR.out.symm,bP.o⟩
   | true=>
    have oQ:fS tn.data.toList=0:=by rw[HTN.o];exact Classical.byContradiction fun h=>uJ.o (.inl h)
    have hd0:fS td.data.toList=0:=by
     rw[HTD.o];refine Classical.byContradiction fun h=>uJ.o (.inr ?_);unfold rtB;rw[HI.o];exact h
    (go_wp2_with fail);refine(aIj tn td V oQ hd0 (HT.o.up bP.o)).mono ?_;rw[HTN.o,HTD.o];rintro e w6 ⟨rfl,gA⟩;have gQ:=cJ bP gA;clear gA oQ hd0;obtain⟨tg,htg⟩:∃t:ByteArray,⟨(Lib.decDigits ((dv (uM l)).gcd (dv (sZ l)))).toArray⟩=t:=⟨_,rfl⟩;have HTG:Hid (tg.toList=[49]<->(dv (uM l)).gcd (dv (sZ l))=1):=lH (by
     rw[ByteArray.toList_eq,<-htg];exact N3)
    have ZQ:Hid (td.toList=sZ l):=lH (by rw[ByteArray.toList_eq];exact HTD.o);rw[htg];clear htg;(go_upto_region 12 with fail)
    go_cut [65] (fun v wd=>wd=w6/\v=.bool (decide (zW l)))
    case first=>
     by_cases h0:td.toList=[48]
     ·have hd:decide (zW l)=true:=decide_eq_true (.inl (by rw[<-ZQ.o];exact h0))
      (go_wp2_with fail);go_meet
      case rel=>exact⟨rfl,by rw[hd]⟩
     ·by_cases h1:td.toList=[49]
      ·have hd:decide (zW l)=true:=decide_eq_true (.inr (.inl (by rw[<-ZQ.o];exact h1)))
       (go_wp2_with fail);go_meet
       case rel=>exact⟨rfl,by rw[hd]⟩
      ·by_cases h2:tg.toList=[49]
       ·have hd:decide (zW l)=false:=decide_eq_false fun h=>h.elim (fun h=>h0 (ZQ.o.trans h)) fun h=>h.elim (fun h=>h1 (ZQ.o.trans h)) fun h=>h (HTG.o.1 h2)
        (go_wp2_with fail);go_meet
        case rel=>exact⟨rfl,by rw[hd];simp[h0,h1,h2]⟩
       ·have hd:decide (zW l)=true:=decide_eq_true (.inr (.inr fun h=>h2 (HTG.o.2 h)))
        (go_wp2_with fail);go_meet
        case rel=>exact⟨rfl,by rw[hd];simp[h0,h1,h2]⟩
    obtain⟨JM,rfl⟩:=hcut;subst JM;by_cases hP3:zW l
    ·have hR:Hid (dJ l=3):=lH (by unfold dJ;rw[if_neg HP5.o,if_neg uJ.o,if_pos ⟨HI.o,hP3⟩])
     rw[decide_eq_true hP3];clear hP3;(go_wp2_with fail);go_ret;exact⟨aU hR.out.symm,gQ.o⟩
    ·have hR:Hid (dJ l=0):=lH (by unfold dJ;rw[if_neg HP5.o,if_neg uJ.o,if_neg (fun h=>hP3 h.2)])
     rw[decide_eq_false hP3];clear hP3;(go_wp2_with fail);go_ret;exact⟨aU hR.out.symm,gQ.o⟩
end
section
def cnt(p:Nat->Bool)(b:Nat):Nat:=((List.range b).filter p).length
theorem R_(p:Nat->Bool)(b:Nat):cnt p (b+1)=cnt p b+if p b then 1 else 0:=by
 unfold cnt;rw[List.range_succ,List.filter_append,g_];congr 1
 cases h:p b<;>simp[h]
def kR(p:Nat->Bool)(n:Nat):List Nat:=(List.range n).filter p
theorem sI(p:Nat->Bool)(n:Nat):(kR p n).length=cnt p n:=rfl
def ext(p:Nat->Bool)(x:Fn)(b:Nat):Rat:=if p b then x (cnt p b) else 0
theorem Z8{l m:List Rat}{i:Nat}(h:i<l.length):vf (l++m) i=vf l i:=by
 unfold vf;rw[dH,dH,yC h]
theorem Z9(l:List Rat)(y:Rat):vf (l++[y]) l.length=y:=kW (by simp)
theorem QC(p:Nat->Bool)(c:Nat->Rat)(x:Fn):∀n:Nat,aV (cnt p n) (vf ((kR p n).map c)) x=aM n fun b=>c b*ext p x b
 | 0=>rfl
 | n+1=>by
  have ih:=QC p c x n;rw[aM,<-ih];have hl:((kR p n).map c).length=cnt p n:=by rw[iT,sI]
  cases hp:p n with
  | false=>
   have e1:cnt p (n+1)=cnt p n:=by rw[R_,hp];rfl
   have e2:kR p (n+1)=kR p n:=by unfold kR;rw[List.range_succ,List.filter_append];simp[hp]
   rw[e1,e2];unfold ext;rw[hp];simp only[Bool.false_eq_true,if_false];rw[Rat.mul_zero,Rat.add_zero]
  | true=>
   have e1:cnt p (n+1)=cnt p n+1:=by rw[R_,hp];rfl
   have e2:kR p (n+1)=kR p n++[n]:=by unfold kR;rw[List.range_succ,List.filter_append];simp[hp]
   rw[e1,e2,List.map_append,List.map_singleton];unfold aV;rw[aM];have e3:vf ((kR p n).map c++[c n]) (cnt p n)=c n:=by rw[<-hl];exact Z9 _ _
   rw[e3];congr 1
   ·refine aJ fun i hi=>?_
    rw[Z8 (by rw[hl];exact hi)]
   ·unfold ext
    rw[hp];simp
def two(a b:Nat)(k:Nat):Rat:=(if k=a then 1 else 0)-(if k=b then 1 else 0)
def BG(S:Nat->Nat->Bool):Nat->List Nat×Nat
 | 0=>([],0)
 | b+1=>match (List.range b).find? (fun a=>S a b) with
  | some a=>((BG S b).1++[(BG S b).1.getD a 0],(BG S b).2)
  | none=>((BG S b).1++[(BG S b).2],(BG S b).2+1)
theorem I3(S:Nat->Nat->Bool)(b:Nat):BG S (b+1)=match (List.range b).find? (fun a=>S a b) with
    | some a=>((BG S b).1++[(BG S b).1.getD a 0],(BG S b).2)
    | none=>((BG S b).1++[(BG S b).2],(BG S b).2+1):=rfl
def aLL(S:Nat->Nat->Bool)(b:Nat):Bool:=!(List.range b).any fun a=>S a b
theorem F0(S:Nat->Nat->Bool):∀n:Nat,(BG S n).1.length=n
 | 0=>rfl
 | n+1=>by
  have:=F0 S n;rw[I3];split<;>simp[this]
def T2(l:List Nat)(a b:Nat):Bool:=l.getD a 0 == l.getD b 0
def fK(l:List Nat)(b:Nat):Bool:=!aLL (T2 l) b
end
section
open Go
def IA(md:Region.Mode)(L:List Oper)(n:Nat)(ex:List Nat):Bool:=
 decide (L.length=n+1) &&
 (List.range (n+1)).all (fun j=>match L[j]? with
  | some o=>o.after.all (fun e=>!Region.binds md e || decide (e.on<j)) && (match o.guard with | none=>true | some (g,_)=>decide (g<n))
  | none=>false) &&
 (List.range n).all (fun j=>ex.contains j || (List.range (n+1)).any fun k=>decide (j<k) && match L[k]? with
  | some o=>o.after.any (fun e=>Region.binds md e && e.on == j)
  | none=>false)
section
variable {P:Program} {Q:Exit->Act->World->Prop} {md:Region.Mode}
theorem yQ(h:IA md L n ex=true):L.length=n+1/\
    (∀j o,L[j]?=some o->(∀e∈o.after,Region.binds md e=true->e.on<j)/\∀g b,o.guard=some (g,b)->g<n)/\
    (∀j,j<n->j∈ex\/∃k o e,j<k/\L[k]?=some o/\e∈o.after/\Region.binds md e=true/\e.on=j):=by
 unfold IA at h;simp only[Bool.and_eq_true,decide_eq_true_eq,List.all_eq_true,List.mem_range,List.any_eq_true,Bool.or_eq_true,List.contains_iff_mem] at h;obtain⟨⟨h1,h2⟩,h3⟩:=h;refine⟨h1,fun j o ho=>?_,fun j hj=>?_⟩
 ·have hj:j<n+1:=by rw[<-h1];exact(cY.1 ho).1
  have:=h2 j hj;rw[ho] at this;simp only[Bool.and_eq_true,Array.all_eq_true_iff_forall_mem,Bool.or_eq_true,Bool.not_eq_true',decide_eq_true_eq] at this;refine⟨fun e he hb=>(this.1 e he).resolve_left (by simp[hb]),fun g b hg=>?_⟩;have h4:=this.2;rw[hg] at h4;simpa using h4
 ·rcases h3 j hj with h3 | ⟨k,hk,hjk,h4⟩
  ·exact .inl h3
  refine .inr ?_;cases ho:L[k]? with
  | none=>rw[ho] at h4;cases h4
  | some o=>
   rw[ho] at h4;simp only[Array.any_eq_true'] at h4;obtain⟨e,he,h5⟩:=h4;simp only[Bool.and_eq_true,beq_iff_eq] at h5;exact⟨k,o,e,hjk,ho,he,h5.1,h5.2⟩
theorem SJ{L:List Oper}{n:Nat}{ex:List Nat}{oN:Oper}{listed:Array Bool}(hs:IA md L n ex=true)(hx:∀j∈ex,listed.getD j false=true)(hN:L[n]?=some oN)(hZ:listed.size=n)(hc:m7 md (L.take n) listed)(hr:∀e∈oN.after,Region.binds md e=true->(listed.push false).getD e.on false=true):∀d j,j+d=n->0<d->listed.getD j false=true:=by
 obtain⟨h1,h2,h3⟩:=yQ hs;intro d
 induction d using Nat.strongRecOn with
 | _ d ih=>
  intro j hj hd;rcases h3 j (by omega) with h3 | ⟨k,o,e,hjk,hk,he,hb,hej⟩
  ·exact hx j h3
  have hkl:k<n+1:=by rw[<-h1];exact(cY.1 hk).1
  by_cases rR:k=n
  ·subst rR
   rw[hN] at hk;injection hk with hk;subst hk;have:=hr e he hb;rw[hej] at this;rwa[Array.getD_eq_getD_getElem?,Array.getElem?_push_lt (by omega),<-Array.getElem?_eq_getElem (by omega),<-Array.getD_eq_getD_getElem?] at this
  ·have hl:=ih (n-k) (by omega) k (by omega) (by omega)
   have:=hc k o (by rw[List.getElem?_take_of_lt (by omega)];exact hk) hl e he hb;rwa[hej] at this
theorem z8{listed:Array Bool}(hs:IA md L n ex=true)(hZ:listed.size=n){i:Nat}(hi:i<n):i∈Region.ready md L.toArray (listed.push false)<->i∈Region.ready md (L.take n).toArray listed:=by
 obtain⟨h1,h2,h3⟩:=yQ hs;rw[mem_ready,mem_ready,List.getElem?_toArray,List.getElem?_toArray,List.getElem?_take_of_lt hi,iI (by omega)];refine and_congr Iff.rfl ⟨?_,?_⟩
 ·rintro⟨o,ho,h⟩
  exact⟨o,ho,fun e he hb=>by rw[<-iI (by have:=(h2 i o ho).1 e he hb;omega)];exact h e he hb⟩
 ·rintro⟨o,ho,h⟩
  exact⟨o,ho,fun e he hb=>by rw[iI (by have:=(h2 i o ho).1 e he hb;omega)];exact h e he hb⟩
theorem DY{oN:Oper}(hs:IA md L n ex=true)(hN:L[n]?=some oN):∀(fuel:Nat)(listed:Array Bool)(a:Act)(w:Wo),listed.size=n->m7 md (L.take n) listed->(∀j∈ex,listed.getD j false=true)->
    wpAny P md (L.take n).toArray (kN P L.toArray oN Q) fuel listed a w->wpAny P md L.toArray Q (fuel+1) (listed.push false) a w:=by
 obtain⟨h1,h2,h3⟩:=yQ hs;have key:∀(fuel:Nat)(listed:Array Bool)(a:Act)(w:Wo),listed.size=n->m7 md (L.take n) listed->Region.ready md (L.take n).toArray listed=[]->kN P L.toArray oN Q .normal a w->wpAny P md L.toArray Q (fuel+1) (listed.push false) a w:=by
  intro fuel listed a w hZ hc hr hq;have xI:∀m j,j<m->j<n->listed.getD j false=true:=by
   intro m
   induction m with
   | zero=>intro j hj;omega
   | succ m ih=>
    intro j hj tA;cases hl:listed.getD j false with
    | true=>rfl
    | false=>
     exfalso;have rS:j<L.length:=by omega
     have Q8:j∈Region.ready md (L.take n).toArray listed:=by
      rw[mem_ready,List.getElem?_toArray,List.getElem?_take_of_lt tA,pI (by omega),hl];refine⟨rfl,L[j],gS rS,fun e he hb=>ih _ ?_ ?_⟩
      ·have:=(h2 j _ (gS rS)).1 e he hb;omega
      ·have:=(h2 j _ (gS rS)).1 e he hb;omega
     rw[hr] at Q8;cases Q8
  have IM:=fun j hj=>xI n j hj hj;have hnr:n∈Region.ready md L.toArray (listed.push false):=by
   rw[mem_ready,List.getElem?_toArray];refine⟨by simp[<-hZ],oN,hN,fun e he hb=>?_⟩;have:=(h2 n oN hN).1 e he hb;rw[iI (by omega)];exact IM _ this
  refine⟨fun h0=>by rw[h0] at hnr;exact absurd hnr (by simp),fun j hj=>?_⟩;have tA:j=n:=by
   obtain⟨h0,o,ho,_⟩:=mem_ready.1 hj;rw[List.getElem?_toArray] at ho;have rS:=(cY.1 ho).1;refine Decidable.byContradiction fun cG=>?_;rw[iI (by omega),pI (by omega),IM j (by omega)] at h0;cases h0
  subst tA;unfold wpOp;rw[List.getElem?_toArray,hN];simp only;have hd:=EM (md:=md) h1 hZ IM;unfold kN at hq;dsimp only at hq;split
  ·rename_i hw
   rw[if_pos hw] at hq;exact .inl (Oper.wp_mono (fun a' w' h=>wpAny_done hd h fuel) hq)
  ·rename_i hw
   rw[if_neg hw] at hq;exact wpAny_done hd hq fuel
 intro fuel
 induction fuel with
 | zero=>intro listed a w hZ hc hx h;exact key 0 listed a w hZ hc h.1 h.2
 | succ fuel ih=>
  intro listed a w hZ hc hx h;by_cases hr:Region.ready md (L.take n).toArray listed=[]
  ·exact key (fuel+1) listed a w hZ hc hr (h.1 hr)
  ·have LO:n∉Region.ready md L.toArray (listed.push false):=by
    intro hn;obtain⟨_,o,ho,xI⟩:=mem_ready.1 hn;rw[List.getElem?_toArray,hN] at ho;injection ho with ho;subst ho;have hl:=SJ hs hx hN hZ hc xI;apply hr;rw[List.eq_nil_iff_forall_not_mem];intro j hj;obtain⟨h0,o,ho,_⟩:=mem_ready.1 hj;rw[List.getElem?_toArray] at ho;have rS:=(cY.1 ho).1;have tA:j<n:=by simp at rS;omega
    have:=hl (n-j) j (by omega) (by omega);rw[pI (by omega),this] at h0;cases h0
   have aR:∀j,j∈Region.ready md L.toArray (listed.push false)->j<n:=fun j hj=>by
    obtain⟨_,o,ho,_⟩:=mem_ready.1 hj;rw[List.getElem?_toArray] at ho;have:=(cY.1 ho).1;have cG:j≠n:=fun e=>LO (e▸hj);omega
   refine⟨fun h0=>?_,fun j hj=>?_⟩
   ·exfalso
    obtain⟨j,hj⟩:=List.exists_mem_of_ne_nil _ hr;have tA:j<n:=by
     obtain⟨_,o,ho,_⟩:=mem_ready.1 hj;rw[List.getElem?_toArray] at ho;have:=(cY.1 ho).1;simp at this;omega
    have:=(z8 hs hZ tA).2 hj;rw[h0] at this;cases this
   ·have tA:=aR j hj
    have hjr:=(z8 hs hZ tA).1 hj;refine GA (L:=L) (F:=L.take n) (by rw[List.getElem?_take_of_lt tA]) (fun o ho g b hg=>?_) (fun a' w' hh=>?_) (h.2 j hjr)
    ·rw[List.getElem?_take_of_lt tA] at ho
     rw[List.getElem?_take_of_lt ((h2 j o ho).2 g b hg)]
    ·rw[mE (by omega)]
     exact ih _ a' w' (by simpa using hZ) (IX hc hjr) (fun y hy=>getD_set_true (hx y hy)) hh
theorem CA{S:World->Prop}{id:Nat}{a:Act}{w:Wo}{L:List Oper}(m p:Nat)(op oK oM oN:Oper)(v:Value)(hm:P.follows .mixedOrders=true)(hs:rI .any L (m+3)=true)(yS:rI .any (L.take (m+3)) (m+2)=true)(hs3:IA .any (L.take (m+2)) (m+1) [p]=true)(hp:L[p]?=some op)(hpm:p<m+1)(hpa:op.after.all (fun e=>!Region.binds .any e)=true)(hK:L[m+1]?=some oK)(hM:L[m+2]?=some oM)(hN:L[m+3]?=some oN)(hP:zP .any L.toArray (Array.replicate (m+4) false) p=true)(hQ:∀c a w,Q (.panic c) (a.put op.dst v) w->Q (.panic c) a w)(hw:Region.wanted op (yielded L.toArray a.tmps)=true)(hy:∀w,(execOp a.eval op).run P w=.ok (.value v) w)(hS:S w.drew)(h:S w.drew->wpAnyH P .any (L.take (m+1)).toArray (kN P (L.take (m+2)).toArray oK (kN P (L.take (m+3)).toArray oM (kN P L.toArray oN Q))) S m ((Array.replicate (m+1) false).setIfInBounds p true) (a.put op.dst v) w.drew):(Code.region id L.toArray true).wp P Q a w:=by
 obtain⟨h1,h2,h3⟩:=lL hs;have qZ:(L.take (m+3)).take (m+2)=L.take (m+2):=by rw[List.take_take,Nat.min_eq_left (by omega)]
 have t8:(L.take (m+2)).take (m+1)=L.take (m+1):=by rw[List.take_take,Nat.min_eq_left (by omega)]
 refine wp_region_any hm ?_;rw[show L.toArray.size=m+3+1 from by simpa using h1];unfold zP at hP;rw[Bool.and_eq_true,Bool.and_eq_true] at hP;refine wpAny_take (by rw[List.getElem?_toArray];exact hp) hP.1.1 hP.1.2 hP.2 hQ (.inl ⟨hw,hy⟩) ?_;have wQ:∀(F:List Oper)(k:Nat),F[p]?=some op\/F[p]?=none->m7 .any F ((Array.replicate k false).setIfInBounds p true):=fun F k hF j o ho hj e he hb=>by
  by_cases hpj:p=j
  ·subst hpj
   rcases hF with hF | hF
   ·rw[hF] at ho;injection ho with ho;subst ho
    have:=Array.all_eq_true_iff_forall_mem.1 hpa e he;rw[hb] at this;cases this
   ·rw[hF] at ho;cases ho
  ·rw[getD_set_ne false hpj] at hj
   exact absurd hj (by rcases Nat.lt_or_ge j k with h' | h'<;>simp[h'])
 have htk:∀k,(L.take k)[p]?=some op\/(L.take k)[p]?=none:=fun k=>by
  rw[List.getElem?_take];split
  ·exact .inl hp
  ·exact .inr rfl
 rw[Array.replicate_succ,mE (by simp;omega)];refine jQ hs hN (m+2) _ _ _ (by simp) (wQ _ _ (htk _)) ?_;rw[Array.replicate_succ,mE (by simp;omega)];refine jQ yS (by rw[List.getElem?_take_of_lt (by omega)];exact hM) (m+1) _ _ _ (by simp) (wQ _ _ (by rw[qZ];exact htk _)) ?_;rw[qZ,Array.replicate_succ,mE (by simp;omega)];refine DY hs3 (by rw[List.getElem?_take_of_lt (by omega)];exact hK) m _ _ _ (by simp) (wQ _ _ (by rw[t8];exact htk _)) (fun j hj=>by rw[List.mem_singleton.1 hj];simp;omega) ?_;rw[t8];exact wpAny_of_held _ _ _ _ (h hS)
end
section
variable {P:Program} {Q:Exit->Act->World->Prop}
theorem kB{S:World->Prop}{id:Nat}{a:Act}{w:Wo}{L:List Oper}(m p:Nat)(op oJ oK oM oN:Oper)(v:Value)(hm:P.follows .mixedOrders=true)(hs:rI .any L (m+4)=true)(yS:rI .any (L.take (m+4)) (m+3)=true)(hs3:rI .any (L.take (m+3)) (m+2)=true)(hs4:IA .any (L.take (m+2)) (m+1) [p]=true)(hp:L[p]?=some op)(hpm:p<m+1)(hpa:op.after.all (fun e=>!Region.binds .any e)=true)(hJ:L[m+1]?=some oJ)(hK:L[m+2]?=some oK)(hM:L[m+3]?=some oM)(hN:L[m+4]?=some oN)(hP:zP .any L.toArray (Array.replicate (m+5) false) p=true)(hQ:∀c a w,Q (.panic c) (a.put op.dst v) w->Q (.panic c) a w)(hw:Region.wanted op (yielded L.toArray a.tmps)=true)(hy:∀w,(execOp a.eval op).run P w=.ok (.value v) w)(hS:S w.drew)(h:S w.drew->wpAnyH P .any (L.take (m+1)).toArray (kN P (L.take (m+2)).toArray oJ (kN P (L.take (m+3)).toArray oK (kN P (L.take (m+4)).toArray oM (kN P L.toArray oN Q)))) S m ((Array.replicate (m+1) false).setIfInBounds p true) (a.put op.dst v) w.drew):(Code.region id L.toArray true).wp P Q a w:=by
 obtain⟨h1,h2,h3⟩:=lL hs;have IF:(L.take (m+4)).take (m+3)=L.take (m+3):=by rw[List.take_take,Nat.min_eq_left (by omega)]
 have qZ:(L.take (m+3)).take (m+2)=L.take (m+2):=by rw[List.take_take,Nat.min_eq_left (by omega)]
 have t8:(L.take (m+2)).take (m+1)=L.take (m+1):=by rw[List.take_take,Nat.min_eq_left (by omega)]
 refine wp_region_any hm ?_;rw[show L.toArray.size=m+4+1 from by simpa using h1];unfold zP at hP;rw[Bool.and_eq_true,Bool.and_eq_true] at hP;refine wpAny_take (by rw[List.getElem?_toArray];exact hp) hP.1.1 hP.1.2 hP.2 hQ (.inl ⟨hw,hy⟩) ?_;have wQ:∀(F:List Oper)(k:Nat),F[p]?=some op\/F[p]?=none->m7 .any F ((Array.replicate k false).setIfInBounds p true):=fun F k hF j o ho hj e he hb=>by
  by_cases hpj:p=j
  ·subst hpj
   rcases hF with hF | hF
   ·rw[hF] at ho;injection ho with ho;subst ho
    have:=Array.all_eq_true_iff_forall_mem.1 hpa e he;rw[hb] at this;cases this
   ·rw[hF] at ho;cases ho
  ·rw[getD_set_ne false hpj] at hj
   exact absurd hj (by rcases Nat.lt_or_ge j k with h' | h'<;>simp[h'])
 have htk:∀k,(L.take k)[p]?=some op\/(L.take k)[p]?=none:=fun k=>by
  rw[List.getElem?_take];split
  ·exact .inl hp
  ·exact .inr rfl
 rw[Array.replicate_succ,mE (by simp;omega)];refine jQ hs hN (m+3) _ _ _ (by simp) (wQ _ _ (htk _)) ?_;rw[Array.replicate_succ,mE (by simp;omega)];refine jQ yS (by rw[List.getElem?_take_of_lt (by omega)];exact hM) (m+2) _ _ _ (by simp) (wQ _ _ (by rw[IF];exact htk _)) ?_;rw[IF,Array.replicate_succ,mE (by simp;omega)];refine jQ hs3 (by rw[List.getElem?_take_of_lt (by omega)];exact hK) (m+1) _ _ _ (by simp) (wQ _ _ (by rw[qZ];exact htk _)) ?_;rw[qZ,Array.replicate_succ,mE (by simp;omega)];refine DY hs4 (by rw[List.getElem?_take_of_lt (by omega)];exact hJ) m _ _ _ (by simp) (wQ _ _ (by rw[t8];exact htk _)) (fun j hj=>by rw[List.mem_singleton.1 hj];simp;omega) ?_;rw[t8];exact wpAny_of_held _ _ _ _ (h hS)
end
end
