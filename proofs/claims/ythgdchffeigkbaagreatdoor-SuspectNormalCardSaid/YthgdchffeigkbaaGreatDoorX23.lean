import Derived.Test.YthgdchffeigkbaaGreatDoorX21
import Derived.Test.YthgdchffeigkbaaGreatDoorX22
set_option linter.unusedVariables false
set_option linter.unusedSimpArgs false
namespace Go.Proofs.YthgdchffeigkbaaGreatDoor
set_option maxHeartbeats 4000000
set_option maxRecDepth 100000
section
open Go.ChangeShapes Go.WideShapes Go.ChangeAt Go.RowKit
attribute [local go_sem ↓] aE
attribute [local go_sem] aK aH aM aY cE.cells
theorem P9 (F:FuncId) (cap:Array Value) (A:OA) (n c:Nat) (zs:List Br) (p:Br->Bool) (I:World->Prop)
    (hF:∀ (args:Array Value) (w:Wo),(callFunc F args).run Tryz.prog w=.ok (.enter F args) w)
    (hI:∀ w',I w'->xC w' w'.heap.size A n zs)
    (hf:∀ (z:Br) (w':Wo),z∈zs->I w'->Calls Tryz.prog F (#[.agg #[.string z.name,.string z.fr,.string z.to,.int .i64 z.x,.int .i64 z.tap,.int .i64 z.shift,.int .i64 z.limit,.int .i64 z.short,.int .i64 z.hold]]++cap) w' fun e w''=>e=.returned (.bool (p z))/\I w'')
    (hn:n<=9223372036854775807) (w:Wo) (hw:I w) :
    Calls Tryz.prog 134 #[.slice A n c,.func (.func F) #[] cap] w fun e w'=>e=.returned (.int .i64 (gD p zs 0))/\I w':=by
 have HF:=lH hf;have HII:=lH hI;have HI:=lH hw;have eC:=lH (hI w hw).1;clear hf hw hI;go_enter Tryz.func134,Tryz.ntmps134
 go_wp2_with fail
 go_loopw [5,8] (fun _ i wr=>∃ k:Nat,k<=n/\i=.int .i64 k/\I wr/\gD p zs 0=gD p (zs.drop k) k) (fun _ i _=>n-(intOf i).toNat)
 case atStart=>exact ⟨0,by omega,rfl,HI.o,rfl⟩
 case round=>
  obtain ⟨k,hk,rfl,hIw,z_⟩:=hrel;have jY:=HII.o wr hIw;have HIW:=lH hIw;have tC:=lH z_;clear hIw z_
  by_cases aW:k<n
  ·obtain ⟨z,hz⟩:∃ z,zs[k]?=some z:=eO (by have:=eC.out;omega)
   have HM:=lH (cO hz);obtain ⟨b,off,rfl,QO⟩:=jY.form (by omega);obtain ⟨c0,c1,c2,c3,c4,c5,c6,c7,c8⟩:=jY.at_ hz;have HZ:=lH (cM hz);clear hz
   go_wp2_with fail
   refine (HF.o z wr HM.o HIW.o).mono ?_;cases hp:p z with
   | true=>
    rintro e w1 ⟨rfl,hI1⟩;have AR:=lH hI1;have HP:=lH hp;clear hI1 hp
    go_wp2_with fail
    go_ret;exact ⟨aX (by rw [tC.o,HZ.o];simp [gD,HP.o]),AR.o⟩
   | false=>
    rintro e w1 ⟨rfl,hI1⟩;have AR:=lH hI1;have HP:=lH hp;clear hI1 hp
    go_wp2_with fail
    go_roundw
    case rel=>exact ⟨k+1,by omega,by go_num,AR.o,by rw [tC.o,HZ.o];simp [gD,HP.o]⟩
    case measure=>simp [intOf];omega
  ·have hd:zs.drop k=[]:=by rw [List.drop_eq_nil_iff];have:=eC.out;omega
   have HD:=lH hd;clear hd jY
   go_wp2_with fail
   go_ret;exact ⟨aX (by rw [tC.o,HD.o];rfl),HIW.o⟩
theorem aDC (x:Br) (s:ByteArray) (g:Nat) (w:Wo) (hg:w.cell? ⟨g,0,none⟩=some (.string s)) :
    Calls Tryz.prog 135 (#[.agg #[.string x.name,.string x.fr,.string x.to,.int .i64 x.x,.int .i64 x.tap,.int .i64 x.shift,.int .i64 x.limit,.int .i64 x.short,.int .i64 x.hold]]++#[.pointer (some ⟨g,0,none⟩)]) w fun e w'=>e=.returned (.bool (pR x.name s))/\Below w.heap.size w w':=by
 have aW:=World.block_lt_of_cell? w ⟨g,0,none⟩ hg;show Calls Tryz.prog 135 #[.agg #[.string x.name,.string x.fr,.string x.to,.int .i64 x.x,.int .i64 x.tap,.int .i64 x.shift,.int .i64 x.limit,.int .i64 x.short,.int .i64 x.hold],.pointer (some ⟨g,0,none⟩)] w _;go_enter Tryz.func135,Tryz.ntmps135
 go_wp2_with fail
 go_ret;exact ⟨rfl,bA⟩
theorem G1 (args:Array Value) (w:Wo):(callFunc 135 args).run Tryz.prog w=.ok (.enter 135 args) w:=
 pO Tryz.func135 (by kernel_rfl) rfl args w
def lY (x:bE) (s:ByteArray):Int:=gD (fun b:Br=>pR b.name s) x.brs 0
theorem pP (x:bE) (s:ByteArray):(lY x s=-1/\∀ b∈x.brs,b.name≠s)\/∃ (i:Nat) (b:Br),lY x s=(i:Int)/\x.brs[i]?=some b/\b.name=s:=by
 rcases x_ (fun b:Br=>pR b.name s) x.brs 0 with ⟨h1,h2⟩ | ⟨i,b,h1,h2,h3,_⟩
 ·exact .inl ⟨h1,fun b hb=>BK.1 (h2 b hb)⟩
 ·exact .inr ⟨i,b,by unfold lY;rw [h1];simp,h2,sK.1 h3⟩
theorem uM (h:cE) (x:bE) (s:ByteArray) (w:Wo) (r:cS w w.heap.size h x) :
    Calls Tryz.prog 102 #[.agg h.cells,.string s] w fun e w'=>e=.returned (.int .i64 (lY x s))/\Below w.heap.size w w':=by
 have K0:Below w.heap.size w ((w.alloc (.cells h.cells 29)).alloc (.cells #[.string s] 9)):=(bA).alloc (by simp) _;have HK:=lH K0;have HR:=lH (r.up K0);have hm:=r.m2;have hs:((w.alloc (.cells h.cells 29)).alloc (.cells #[.string s] 9)).cell? ⟨w.heap.size+1,0,none⟩=some (.string s):=(aG.new_ (t:=9) (cs:=#[.string s]) (w:=w.alloc (.cells h.cells 29)) (by simp)).cell 0;have HS:=lH hs;clear K0 r hs;go_enter Tryz.func102,Tryz.ntmps102
 go_wp2_with fail
 refine (P9 _ _ h.A2 h.n2 h.c2 x.brs (fun b=>pR b.name s) (fun w'=>Below ((w.alloc (.cells h.cells 29)).alloc (.cells #[.string s] 9)).heap.size ((w.alloc (.cells h.cells 29)).alloc (.cells #[.string s] 9)) w') G1
  (fun w' hb=>(HR.o.up hb).r2) (fun z w' _ hb=>(aDC z s (w.heap.size+1) w' ((hb.cell (p:=⟨w.heap.size+1,0,none⟩) (by simp)).trans HS.o)).mono fun e w'' ⟨he,bL⟩=>⟨he,hb.tm bL⟩) hm _ bR).mono ?_
 rintro e w1 ⟨rfl,hb⟩;have HB:=lH (HK.o.tm hb);clear hb
 go_wp2_with fail
 go_ret;exact ⟨rfl,HB.o⟩
def DW (x:bE) (m:Mi):Int:=
 if m.kind<0\/2<m.kind then 1 else if (m.kind=0/\lY x m.name<0)\/(m.kind≠0/\(x.nodes.any fun y=>pR m.name y)=false) then 6 else
 if cX m.txt.data.toList≠0 then cX m.txt.data.toList else if m.wt<1\/1000<m.wt then 4 else 0
def tG (x:bE):List Mi->Int
 | []=>0
 | m::r=>if DW x m=0 then tG x r else DW x m
def b6 (x:bE) (ms:List Mi):Int:=if fK x≠0 then fK x else if 64<ms.length then 2 else tG x ms
theorem zU {x:bE}:∀ {ms:List Mi},tG x ms=0->∀ m∈ms,DW x m=0
 | [],_,m,h=>by cases h
 | a::r,h,m,hm=>by
  unfold tG at h
  split at h
  ·rename_i ha
   rcases List.mem_cons.1 hm with h1 | h1
   ·rw [h1];exact ha
   ·exact zU h m h1
  ·exact absurd h (by assumption)
theorem UH {x:bE} {ms:List Mi} {k:Nat} {m:Mi} (h:ms[k]?=some m):tG x (ms.drop k)=if DW x m=0 then tG x (ms.drop (k+1)) else DW x m:=by
 rw [cM h];rfl
theorem mS (h:cE) (x:bE) (A:OA) (n c:Nat) (ms:List Mi) (w:Wo) (r:cS w w.heap.size h x) (hm:eG w w.heap.size A n ms) (hz:∀ m∈ms,m.txt.size<=maxLen) (hn:n<=9223372036854775807) (ht:dA w) :
    Calls Tryz.prog 60 #[.agg h.cells,.slice A n c] w fun e w'=>e=.returned (.int .i64 (b6 x ms))/\Below w.heap.size w w':=by
 have K0:Below w.heap.size w (w.alloc (.cells h.cells 29)):=bA;have HK:=lH K0;have CS:=lH r;have HM:=lH hm;have j_:=lH hm.1;have HZ:=lH hz;have HT:=lH ht;have HX:=lH (aG.new w 29 h.cells);have HC:=lH (LT h x _ (r.up K0));have EC:Hid (h.n0<=9223372036854775807):=lH r.m0;have eC:ms.length=n:=hm.1;clear K0 r hm hz ht;obtain ⟨A0,m0,c0,A1,m1,c1,A2,m2,c2,A3,m3,c3,A4,m4,c4,A5,m5,c5⟩:=h;simp only [cE.cells] at HK HX HC EC ⊢;have hlI:(64:Int)<(n:Int)<->64<ms.length:=by omega
 have HLI:=lH hlI;clear hlI eC;go_enter Tryz.func60,Tryz.ntmps60
 go_upto_region 1 with fail
 generalize w.alloc (.cells #[.slice A0 m0 c0,.slice A1 m1 c1,.slice A2 m2 c2,.slice A3 m3 c3,.slice A4 m4 c4,.slice A5 m5 c5] 29)=W at *;have EY:=HX.o.lt;have y0:=HX.o.cell 0;have y1:=HX.o.cell 1;have y2:=HX.o.cell 2;have y3:=HX.o.cell 3;have y4:=HX.o.cell 4;have y5:=HX.o.cell 5
 go_wp2_with fail
 refine HC.o.mono ?_;clear y0 y1 y2 y3 y4 y5 EY HC;rintro e w1 ⟨he,bH⟩;have bS:=lH (HK.o.tm bH);have cJ:=lH (HX.o.bl bH);clear bH HK HX
 by_cases h0:fK x=0
 ·rw [h0] at he
  subst he;have HE0:Hid (b6 x ms=if 64<ms.length then 2 else tG x ms):=lH (by unfold b6;rw [if_neg (by simp [h0])]);clear h0
  by_cases h64:64<ms.length
  ·have aWc:(64:Int)<(n:Int):=HLI.o.2 h64
   have Y9:Hid (b6 x ms=2):=lH (by rw [HE0.o,if_pos h64]);clear h64
   go_wp2_with fail
   go_ret;exact ⟨by rw [Y9.o];rfl,bS.o⟩
  ·have aWc:¬(64:Int)<(n:Int):=fun h=>h64 (HLI.o.1 h)
   have Y9:Hid (b6 x ms=tG x ms):=lH (by rw [HE0.o,if_neg h64]);clear h64
   go_wp2_with fail
   go_loopw [19] (fun v19 wr=>∃ k:Nat,k<=n/\v19=.int .i64 k/\Below w.heap.size w wr/\aG wr w.heap.size 29 #[.slice A0 m0 c0,.slice A1 m1 c1,.slice A2 m2 c2,.slice A3 m3 c3,.slice A4 m4 c4,.slice A5 m5 c5]/\tG x ms=tG x (ms.drop k)) (fun v19 _=>n-(intOf v19).toNat)
   case atStart=>exact ⟨0,by omega,rfl,bS.o,cJ.o,rfl⟩
   case round=>
    clear bS cJ;obtain ⟨k,hk,rfl,hb,hx,nP⟩:=hrel;have HB:=lH hb;have HX:=lH hx;have jB:=lH nP;clear hb hx nP
    by_cases aW:k<n
    ·obtain ⟨m,hm⟩:∃ m,ms[k]?=some m:=eO (by have:=j_.o;omega)
     obtain ⟨b,off,hA,hb⟩:=(HM.o.below HB.o lR).form (by omega);subst hA;obtain ⟨a0,a1,a2,a3⟩:=(HM.o.below HB.o lR).at_ hm;have qL:b<wr.heap.size:=jO hb HB.o.size;have HD:=lH (UH (x:=x) hm);rw [<-jB.o] at HD;have HTZ:=lH (HZ.o m (cO hm));have fT:(k:Int)<(n:Int):=by omega
     have eN:=lN k;have iL:Hid (n-(k+1)<n-k):=lH (by omega);clear hm hb
     go_upto_region 9 with fail
     clear a0 a1 a2 a3 qL;generalize yP:wr.alloc (.cells #[.int .i64 m.kind,.string m.name,.string m.txt,.int .i64 m.wt] 57)=wa;have rY:Below wr.heap.size wr wa:=by rw [<-yP];exact bA
     have HS:Hid (aG wa wr.heap.size 57 #[.int .i64 m.kind,.string m.name,.string m.txt,.int .i64 m.wt]):=lH (by rw [<-yP];exact aG.new wr _ _);replace HB:=lH (HB.o.tm rY);replace HX:=lH (HX.o.bl rY);have HRN:=lH (CS.o.up HB.o);clear yP rY;generalize wr.heap.size=gx at *;have s0:=HS.o.cell 0;have s1:=HS.o.cell 1;have s2:=HS.o.cell 2;have s3:=HS.o.cell 3;have sl:=HS.o.lt;have DO:Hid (Calls Tryz.prog 104 #[.string m.txt] wa fun e w'=>e=.returned (.int .i64 (cX m.txt.data.toList))/\Below wa.heap.size wa w'):=lH (by
      have h:=vQ m.txt.data.toList (by rw [Array.length_toList];exact HTZ.o) wa (HT.o.up HB.o);rwa [show (⟨m.txt.data.toList.toArray⟩:ByteArray)=m.txt from by cases m.txt;simp] at h)
     have IO:Hid (DW x m=if m.kind<0\/2<m.kind then 1 else if (m.kind=0/\lY x m.name<0)\/(m.kind≠0/\(x.nodes.any fun y=>pR m.name y)=false) then 6 else
      if cX m.txt.data.toList≠0 then cX m.txt.data.toList else if m.wt<1\/1000<m.wt then 4 else 0):=lH rfl
     have OK:Hid (∀ z,DW x m=z->z≠0->b6 x ms=z):=lH fun z h hz=>by rw [Y9.o,HD.o,if_neg (by rw [h];exact hz),h]
     by_cases X7:m.kind<0
     ·have HE:Hid (b6 x ms=1):=lH (OK.o 1 (by rw [IO.o,if_pos (.inl X7)]) (by decide))
      go_wp2_with fail
      go_ret;exact ⟨by rw [HE.o];rfl,HB.o⟩
     by_cases AW:2<m.kind
     ·have HE:Hid (b6 x ms=1):=lH (OK.o 1 (by rw [IO.o,if_pos (.inr AW)]) (by decide))
      go_wp2_with fail
      go_ret;exact ⟨by rw [HE.o];rfl,HB.o⟩
     rw [if_neg (by omega)] at IO;have aKw:Hid (∀ w2,Below wa.heap.size wa w2->(¬((m.kind=0/\lY x m.name<0)\/(m.kind≠0/\(x.nodes.any fun y=>pR m.name y)=false)))->True):=lH fun _ _ _=>trivial
     by_cases kF:m.kind=0
     ·have aU5:(m.kind == 0)=true:=by simp [kF]
      have y0:=HX.o.cell 0;have y1:=HX.o.cell 1;have y2:=HX.o.cell 2;have y3:=HX.o.cell 3;have y4:=HX.o.cell 4;have y5:=HX.o.cell 5;have yl:=HX.o.lt;have HBC:=lH (uM ⟨A0,m0,c0,A1,m1,c1,A2,m2,c2,A3,m3,c3,A4,m4,c4,A5,m5,c5⟩ x m.name wa HRN.o);obtain ⟨bi,hbi⟩:∃ bi,lY x m.name=bi:=⟨_,rfl⟩;rw [hbi] at HBC IO
      go_wp2_with fail
      refine HBC.o.mono ?_;rintro e w2 ⟨rfl,bL⟩;have bW:=lH (HB.o.tm bL);have dI:=lH (HX.o.bl bL);have nQ:=lH (HS.o.bl bL);clear bL HBC y0 y1 y2 y3 y4 y5 yl s0 s1 s2 s3 sl DO aKw;have s0:=nQ.o.cell 0;have s2:=nQ.o.cell 2;have s3:=nQ.o.cell 3;have sl:=nQ.o.lt
      by_cases AD:bi<0
      ·have HE:Hid (b6 x ms=6):=lH (OK.o 6 (by rw [IO.o,if_pos (.inl ⟨kF,AD⟩)]) (by decide))
       go_wp2_with fail
       go_ret;exact ⟨by rw [HE.o];rfl,bW.o⟩
      ·rw [if_neg (by rintro (⟨_,h⟩ | ⟨h,_⟩)<;>contradiction)] at IO
       have WM:Hid (Calls Tryz.prog 104 #[.string m.txt] w2 fun e w'=>e=.returned (.int .i64 (cX m.txt.data.toList))/\Below w2.heap.size w2 w'):=lH (by
        have h:=vQ m.txt.data.toList (by rw [Array.length_toList];exact HTZ.o) w2 (HT.o.up bW.o);rwa [show (⟨m.txt.data.toList.toArray⟩:ByteArray)=m.txt from by cases m.txt;simp] at h)
       obtain ⟨rc,hrc⟩:∃ rc,cX m.txt.data.toList=rc:=⟨_,rfl⟩;rw [hrc] at WM IO
       go_wp2_with fail
       refine WM.o.mono ?_;rintro e w3 ⟨rfl,cR⟩;have dR:=lH (bW.o.tm cR);have SS:=lH (dI.o.bl cR);have HS3:=lH (nQ.o.bl cR);clear cR WM hrc;have t3:=HS3.o.cell 3;have tl:=HS3.o.lt
       by_cases gL:rc=0
       ·subst gL
        rw [if_neg (by simp)] at IO
        by_cases hw1:m.wt<1
        ·have HE:Hid (b6 x ms=4):=lH (OK.o 4 (by rw [IO.o,if_pos (.inl hw1)]) (by decide))
         go_wp2_with fail
         go_ret;exact ⟨by rw [HE.o];rfl,dR.o⟩
        by_cases hw2:1000<m.wt
        ·have HE:Hid (b6 x ms=4):=lH (OK.o 4 (by rw [IO.o,if_pos (.inr hw2)]) (by decide))
         go_wp2_with fail
         go_ret;exact ⟨by rw [HE.o];rfl,dR.o⟩
        rw [if_neg (by omega)] at IO;rw [if_pos IO.o] at HD
        go_wp2_with fail
        go_roundw
        case rel=>exact ⟨k+1,aW,aQ eN.o,dR.o,SS.o,jB.o.trans (jB.o.symm.trans HD.o)⟩
        case measure=>exact iL.o
       ·have HE:Hid (b6 x ms=rc):=lH (OK.o rc (by rw [IO.o,if_pos gL]) gL)
        have aUy:(rc != 0)=true:=by simp [gL]
        clear gL
        go_wp2_with fail
        go_ret;exact ⟨by rw [HE.o];rfl,dR.o⟩
     ·have aU5:(m.kind == 0)=false:=by simp [kF]
      have a2r:(m.kind != 0)=true:=by simp [kF]
      have y0:=HX.o.cell 0;have yl:=HX.o.lt;have HBC:=lH (sX A0 m0 c0 x.nodes m.name wa HRN.o.r0 EC.o);obtain ⟨bi,hbi⟩:∃ bi,(x.nodes.any fun y=>pR m.name y)=bi:=⟨_,rfl⟩;rw [hbi] at HBC IO
      go_wp2_with fail
      refine HBC.o.mono ?_;rintro e w2 ⟨rfl,rfl⟩;have bW:=HB;have dI:=HX;have nQ:=HS;clear HBC y0 yl aKw;cases bi with
      | false=>
       have HE:Hid (b6 x ms=6):=lH (OK.o 6 (by rw [IO.o,if_pos (.inr ⟨kF,rfl⟩)]) (by decide))
       go_wp2_with fail
       go_ret;exact ⟨by rw [HE.o];rfl,bW.o⟩
      | true=>
       rw [if_neg (by rintro (⟨h,_⟩ | ⟨_,h⟩);exact kF h;cases h)] at IO;have w2eq:True:=trivial;have WM:Hid (Calls Tryz.prog 104 #[.string m.txt] wa fun e w'=>e=.returned (.int .i64 (cX m.txt.data.toList))/\Below wa.heap.size wa w'):=lH (by
        have h:=vQ m.txt.data.toList (by rw [Array.length_toList];exact HTZ.o) wa (HT.o.up bW.o);rwa [show (⟨m.txt.data.toList.toArray⟩:ByteArray)=m.txt from by cases m.txt;simp] at h)
       obtain ⟨rc,hrc⟩:∃ rc,cX m.txt.data.toList=rc:=⟨_,rfl⟩;rw [hrc] at WM IO
       go_wp2_with fail
       refine WM.o.mono ?_;rintro e w3 ⟨rfl,cR⟩;have dR:=lH (bW.o.tm cR);have SS:=lH (dI.o.bl cR);have HS3:=lH (nQ.o.bl cR);clear cR WM hrc;have t3:=HS3.o.cell 3;have tl:=HS3.o.lt
       by_cases gL:rc=0
       ·subst gL
        rw [if_neg (by simp)] at IO
        by_cases hw1:m.wt<1
        ·have HE:Hid (b6 x ms=4):=lH (OK.o 4 (by rw [IO.o,if_pos (.inl hw1)]) (by decide))
         go_wp2_with fail
         go_ret;exact ⟨by rw [HE.o];rfl,dR.o⟩
        by_cases hw2:1000<m.wt
        ·have HE:Hid (b6 x ms=4):=lH (OK.o 4 (by rw [IO.o,if_pos (.inr hw2)]) (by decide))
         go_wp2_with fail
         go_ret;exact ⟨by rw [HE.o];rfl,dR.o⟩
        rw [if_neg (by omega)] at IO;rw [if_pos IO.o] at HD
        go_wp2_with fail
        go_roundw
        case rel=>exact ⟨k+1,aW,aQ eN.o,dR.o,SS.o,jB.o.trans (jB.o.symm.trans HD.o)⟩
        case measure=>exact iL.o
       ·have HE:Hid (b6 x ms=rc):=lH (OK.o rc (by rw [IO.o,if_pos gL]) gL)
        have aUy:(rc != 0)=true:=by simp [gL]
        clear gL
        go_wp2_with fail
        go_ret;exact ⟨by rw [HE.o];rfl,dR.o⟩
    ·have lS:k=n:=by omega
     have HE:Hid (b6 x ms=0):=lH (by rw [Y9.o,jB.o,List.drop_eq_nil_of_le (by have:=j_.o;omega)];rfl);have fT:¬(k:Int)<(n:Int):=by omega
     go_wp2_with fail
     go_ret;exact ⟨by rw [HE.o];rfl,HB.o⟩
 ·have HE:Hid (b6 x ms=fK x):=lH (by unfold b6;rw [if_pos h0])
  generalize fK x=z at *;subst he;have h0b:(z != 0)=true:=by simp [h0]
  clear h0
  go_wp2_with fail
  go_ret;exact ⟨by rw [HE.o];rfl,bS.o⟩
end
section
open Go.ChangeShapes Go.WideShapes Go.ChangeAt Go.RowKit
attribute [local go_sem ↓] aE
attribute [local go_sem] aK aH aM aY
def l9 (b:Rat) (u v:Nat) (q:List Rat):List Rat:=(q.set u (vf q u+b)).set v (vf (q.set u (vf q u+b)) v-b)
theorem l8 {b:Rat} {u v:Nat} {q:List Rat}:(l9 b u v q).length=q.length:=by unfold l9;rw [lF,lF]
def sg (minus:Bool) (b:Rat):Rat:=if minus then -b else b
structure AM (a b:Nat) (w w':Wo):Prop where
 os:w'.os=w.os
 tape:w'.tape=w.tape
 output:w'.output=w.output
 size:w.heap.size<=w'.heap.size
 block:∀ i,i<w.heap.size->i≠a->i≠b->w'.heap[i]?=w.heap[i]?
theorem AM.trans {a b:Nat} {w w1 w2:Wo} (h:AM a b w w1) (k:AM a b w1 w2):AM a b w w2:=
 ⟨k.os.trans h.os,k.tape.trans h.tape,k.output.trans h.output,cV h.size k.size,fun i hi h1 h2=>(k.block i (jO hi h.size) h1 h2).trans (h.block i hi h1 h2)⟩
theorem eS {a b:Nat} {w w':Wo} (h:Below w.heap.size w w'):AM a b w w':=⟨h.os,h.tape,h.output,h.size,fun i hi _ _=>h.block i hi⟩
theorem AM.below {a b B:Nat} {w w':Wo} (h:AM a b w w') (ha:B<=a) (hb:B<=b) (hB:B<=w.heap.size):Below B w w':=⟨h.os,h.tape,h.output,h.size,fun i hi=>h.block i (by omega) (by omega) (by omega)⟩
theorem AM.blk {a b g t:Nat} {w w':Wo} {cs:Array Value} (h:AM a b w w') (hb:aG w g t cs) (h1:g≠a) (h2:g≠b):aG w' g t cs:=(h.block g hb.lt h1 h2).trans hb
theorem qG {a b:Nat} {w:Wo} {i:Nat} {u:Value}:AM a b w (w.setCell ⟨b,i,none⟩ u):=⟨rfl,rfl,rfl,by simp [World.setCell],fun k hk h1 h2=>Below.heap_setCell w ⟨b,i,none⟩ u k (fun e=>h2 e)⟩
theorem oA {a b:Nat} {w:Wo} {i:Nat} {u:Value}:AM a b w (w.setCell ⟨a,i,none⟩ u):=⟨rfl,rfl,rfl,by simp [World.setCell],fun k hk h1 h2=>Below.heap_setCell w ⟨a,i,none⟩ u k (fun e=>h1 e)⟩
structure CV (w:Wo) (gf gc:Nat) (vs:List Rv) (u:Rv) (q:List Rat) (z:Rat):Prop where
 blk:aG w gf 117 #[.slice (some ⟨gc,0,none⟩) q.length q.length,.bool u.b1,.slice u.A u.n u.c,.bool u.b2,.slice u.A2 u.m u.d]
 row:∃ cs,aG w gc 115 cs/\cs.toList.take (q.length*4)=fS vs
 len:vs.length=q.length
 ok:kH w vs q
 val:dL w w.heap.size z u
section
variable {w w':Wo} {gf gc:Nat} {vs:List Rv} {u:Rv} {q:List Rat} {z:Rat}
theorem CV.up (f:CV w gf gc vs u q z) (hb:Below w.heap.size w w'):CV w' gf gc vs u q z:=by
 obtain ⟨cs,h1,h2⟩:=f.row;exact ⟨f.blk.bl hb,⟨cs,h1.bl hb,h2⟩,f.len,f.ok.up hb,f.val.up hb⟩
theorem CV.ne (f:CV w gf gc vs u q z):gf≠gc:=by
 obtain ⟨cs,h1,h2⟩:=f.row;exact f.blk.apart h1 (by decide)
theorem CV.elem (f:CV w gf gc vs u q z) {j:Nat} (hj:j<q.length):∃ x,vs[j]?=some x/\w.cell? ⟨gc,j*4,none⟩=some (.bool x.b1)/\w.cell? ⟨gc,j*4+1,none⟩=some (.slice x.A x.n x.c)/\w.cell? ⟨gc,j*4+2,none⟩=some (.bool x.b2)/\w.cell? ⟨gc,j*4+3,none⟩=some (.slice x.A2 x.m x.d)/\dL w w.heap.size (vf q j) x/\gc<w.heap.size/\(∀ o,w.frozen? ⟨gc,o,none⟩=false):=by
 obtain ⟨cs,h1,h2⟩:=f.row;obtain ⟨x,hx⟩:∃ x,vs[j]?=some x:=eO (by rw [f.len];exact hj);obtain ⟨c0,c1,c2,c3⟩:=h1.row_cell h2 hx;exact ⟨x,hx,c0,c1,c2,c3,f.ok j _ x (bI hj) hx,h1.lt,h1.frozen⟩
theorem CV.elem2 (f:CV w gf gc vs u q z) {j:Nat} {x:Rv} (hx:vs[j]?=some x):w.cell? ⟨gc,j*4,none⟩=some (.bool x.b1)/\w.cell? ⟨gc,j*4+1,none⟩=some (.slice x.A x.n x.c)/\w.cell? ⟨gc,j*4+2,none⟩=some (.bool x.b2)/\w.cell? ⟨gc,j*4+3,none⟩=some (.slice x.A2 x.m x.d)/\gc<w.heap.size/\(∀ o,w.frozen? ⟨gc,o,none⟩=false):=by
 obtain ⟨cs,h1,h2⟩:=f.row;obtain ⟨c0,c1,c2,c3⟩:=h1.row_cell h2 hx;exact ⟨c0,c1,c2,c3,h1.lt,h1.frozen⟩
theorem CV.keep (f:CV w gf gc vs u q z) {j:Nat} (hj:j<q.length) {x y:Rv} {p:Rat} (hy:dL w w.heap.size p y):dL (gB w gc j x) (gB w gc j x).heap.size p y:=by
 obtain ⟨cs,h1,h2⟩:=f.row;obtain ⟨x0,hx⟩:∃ x,vs[j]?=some x:=eO (by rw [f.len];exact hj);exact dL.keep4 hy x h1 h2 hx
theorem CV.put (f:CV w gf gc vs u q z) {j:Nat} (hj:j<q.length) {x:Rv} {p:Rat} (hx:dL w w.heap.size p x):CV (gB w gc j x) gf gc (vs.set j x) u (q.set j p) z:=by
 obtain ⟨cs,h1,h2⟩:=f.row;obtain ⟨cs',k1,k2⟩:=h1.row_put x h2 f.len hj;refine ⟨?_,⟨cs',k1,by rw [lF];exact k2⟩,by simp [f.len],fun i p' y hp hy=>?_,f.keep hj f.val⟩
 ·rw [lF];exact f.blk.far4 x f.ne
 ·rw [List.getElem?_set] at hp hy
  by_cases xM:j=i
  ·subst xM
   rw [if_pos rfl,if_pos hj] at hp;rw [if_pos rfl,if_pos (by rw [f.len];exact hj)] at hy;injection hp with hp;injection hy with hy;subst hp;subst hy;exact f.keep hj hx
  ·rw [if_neg xM] at hp hy
   exact f.keep hj (f.ok i p' y hp hy)
theorem zO {j:Nat} {x:Rv}:AM gf gc w (gB w gc j x):=((qG.trans qG).trans qG).trans qG
def aC5 (w:Wo) (gf:Nat) (x:Rv):World:=(((w.setCell ⟨gf,1,none⟩ (.bool x.b1)).setCell ⟨gf,2,none⟩ (.slice x.A x.n x.c)).setCell ⟨gf,3,none⟩ (.bool x.b2)).setCell ⟨gf,4,none⟩ (.slice x.A2 x.m x.d)
theorem aDh {x:Rv}:AM gf gc w (aC5 w gf x):=((oA.trans oA).trans oA).trans oA
theorem CV.free (f:CV w gf gc vs u q z) {x:Rv} {p:Rat} (hx:dL w w.heap.size p x):CV (aC5 w gf x) gf gc vs x q p:=by
 obtain ⟨cs,h1,h2⟩:=f.row;have hb:=f.blk;have keep:∀ {y:Rv} {t:Rat},dL w w.heap.size t y->dL (aC5 w gf x) (aC5 w gf x).heap.size t y:=fun {y t} hy=>by
  have b1:=hb.set_at (i:=1) (cs':=#[.slice (some ⟨gc,0,none⟩) q.length q.length,.bool x.b1,.slice u.A u.n u.c,.bool u.b2,.slice u.A2 u.m u.d]) (.bool x.b1) (by simp);have b2:=b1.set_at (i:=2) (cs':=#[.slice (some ⟨gc,0,none⟩) q.length q.length,.bool x.b1,.slice x.A x.n x.c,.bool u.b2,.slice u.A2 u.m u.d]) (.slice x.A x.n x.c) (by simp);have b3:=b2.set_at (i:=3) (cs':=#[.slice (some ⟨gc,0,none⟩) q.length q.length,.bool x.b1,.slice x.A x.n x.c,.bool x.b2,.slice u.A2 u.m u.d]) (.bool x.b2) (by simp);exact (((hy.keep1 hb (i:=1) (y:=.bool u.b1) rfl (fun k x h=>by cases h) _).keep1 b1 (i:=2) (y:=.slice u.A u.n u.c) rfl gS _).keep1 b2 (i:=3) (y:=.bool u.b2) rfl (fun k x h=>by cases h) _).keep1 b3 (i:=4) (y:=.slice u.A2 u.m u.d) rfl gS _
 refine ⟨?_,⟨cs,(((h1.far (p:=⟨gf,1,none⟩) f.ne.symm _).far (p:=⟨gf,2,none⟩) f.ne.symm _).far (p:=⟨gf,3,none⟩) f.ne.symm _).far (p:=⟨gf,4,none⟩) f.ne.symm _,h2⟩,f.len,fun i p' y hp hy=>keep (f.ok i p' y hp hy),keep hx⟩;have:=(((hb.set_ 1 (.bool x.b1)).set_ 2 (.slice x.A x.n x.c)).set_ 3 (.bool x.b2)).set_ 4 (.slice x.A2 x.m x.d);unfold aC5;simpa using this
end
theorem aHl {q:List Rat} {a u j:Nat} {p:Rat} (h:∀ t∈q,bU t<=a) (hp:bU p<=a) (hj:j<(q.set u p).length):bU (vf (q.set u p) j)<=a:=by
 rcases List.mem_or_eq_of_mem_set (cO (bI hj)) with h1 | h1
 ·exact h _ h1
 ·rw [h1];exact hp
theorem J6 (w:Wo):aG ((w.alloc (.cells #[.bool false,.slice none 0 0,.bool false,.slice none 0 0] 115)).alloc (.cells #[.bool false,.slice none 0 0,.bool false,.slice none 0 0] 115)).drew w.heap.size 115 #[.bool false,.slice none 0 0,.bool false,.slice none 0 0]/\aG ((w.alloc (.cells #[.bool false,.slice none 0 0,.bool false,.slice none 0 0] 115)).alloc (.cells #[.bool false,.slice none 0 0,.bool false,.slice none 0 0] 115)).drew (w.heap.size+1) 115 #[.bool false,.slice none 0 0,.bool false,.slice none 0 0]/\Below w.heap.size w ((w.alloc (.cells #[.bool false,.slice none 0 0,.bool false,.slice none 0 0] 115)).alloc (.cells #[.bool false,.slice none 0 0,.bool false,.slice none 0 0] 115)).drew:=
 ⟨((aG.new w _ _).alloc _).drew,(aG.new_ (by simp)).drew,aD (((Below.refl _ w).alloc lR _).alloc (by simp) _)⟩
theorem qQ {w:Wo} {g T:Nat} {x0 x1 x2 x3:Value} {v:Rv} (h:aG w g T #[x0,x1,x2,x3]):aG (DU w g v) g T #[.bool v.b1,.slice v.A v.n v.c,.bool v.b2,.slice v.A2 v.m v.d]:=fO h
theorem wH {w:Wo} {g g' T:Nat} {cs:Array Value} {v:Rv} (h:aG w g' T cs) (hg:g'≠g):aG (DU w g v) g' T cs:=(((h.far hg _).far hg _).far hg _).far hg _
def aS2 (gf gc:Nat) (b c:Rat) (minus:Bool) (u v:Nat) (q:List Rat) (z:Rat) (w:Wo) (e:Ending) (w':Wo):Prop:=e=.returned (.tuple #[])/\AM gf gc w w'/\∃ vs r,CV w' gf gc vs r (l9 (sg minus b) u v q) (z+sg minus c)
theorem aFt (gb g:Nat) (m:iZ) (y:Value) (x:bE) (gf gc:Nat) (vs:List Rv) (u:Rv) (q:List Rat) (z:Rat) (k:Nat) (minus:Bool) (ui vi:Nat) (b c:Rat) (w:Wo) (B:Nat) (LB:B<=gf) (hB2:B<=gc) (I2:gb<B) (hgg:g<B) (aAH:aG w gb 90 #[.pointer (some ⟨g,0,none⟩)]) (hg:aG w g 122 (m.cells y)) (gL:fG w B m x) (hf:CV w gf gc vs u q z)
    (hb:(mB x)[k]?=some b) (hc:(mC x)[k]?=some c) (hu:(gV x)[k]?=some ui) (hv:(B7 x)[k]?=some vi) (hui:ui<q.length) (hvi:vi<q.length) (hl:x.brs.length<=1000) (hq:q.length<=1000) (h1:∀ p∈q,bU p<=1000000) (h2:bU b<=1000000) (h3:bU c<=1000000) (h4:bU z<=1000000) :
    Calls Tryz.prog 107 #[.int .i64 (k:Int),.bool minus,.pointer (some ⟨gb,0,none⟩),.pointer (some ⟨gf,0,none⟩)] w (aS2 gf gc b c minus ui vi q z w):=by
 have ON:Hid (gf<w.heap.size):=lH hf.blk.lt;have WL:Hid (gc<w.heap.size):=lH (by obtain ⟨cs,k1,_⟩:=hf.row;exact k1.lt);have bS:=lH LB;have bW:=lH hB2;have HGB:=lH I2;have HGG:=lH hgg;have CS:=lH gL;have hr:=gL.more (show B<=w.heap.size by have:=ON.o;omega);have HG:=lH hg;have HR:=lH hr;have HF:=lH hf;have HBO:=lH aAH;have m6:Hid (x.brs.length=m.n4):=lH (by rw [<-qV];exact hr.r4.len);have L0:Hid (x.brs.length=m.n5):=lH (by rw [<-aDG];exact hr.r5.len);have iL:Hid (x.brs.length=m.n2):=lH (by rw [<-oR,<-gU];exact hr.r2.len);have wJ:Hid (x.brs.length=m.n3):=lH (by rw [<-wB,<-gU];exact hr.r3.len);have JX:Hid (k<x.brs.length):=lH (by rw [<-qV];exact (dP.1 hb).1);have HSB:=lH h2;have HSC:=lH h3;have HSQ:=lH h1;have dW:=lH h4;have HU:=lH hu;have HV:=lH hv;have JR:=lH hui;have OI:=lH hvi;have mH:=lH hq;have AQ:=lH hl
 obtain ⟨A0,n0,c0,A1,n1,c1,A2,n2,c2,A3,n3,c3,A4,n4,c4,A5,n5,c5,A6,n6,c6⟩:=m;simp only [iZ.cells] at HG m6 L0 iL wJ;have GL:=HR.o.r4;have xL:=HR.o.r5;simp only at GL xL;obtain ⟨bb,bo,hA4,pK⟩:=GL.form (by have:=JX.o;have:=m6.o;omega);subst hA4;obtain ⟨xb,p0,p1,p2,p3,p4⟩:=GL.at_ hb;obtain ⟨db,do',hA5,hdb⟩:=xL.form (by have:=JX.o;have:=L0.o;omega);subst hA5;obtain ⟨xc,e0,e1,e2,e3,e4⟩:=xL.at_ hc;have HXB:=lH p4;have HXC:=lH e4;have hk4:(k:Int)<(n4:Int):=by have:=JX.o;have:=m6.o;omega
 have hk5:(k:Int)<(n5:Int):=by have:=JX.o;have:=L0.o;omega
 have kF:=lZ k
 have qW:=kU k;have b0:=HBO.o.cell 0;have bl:=HBO.o.lt;have y4:=HG.o.cell 4;have y5:=HG.o.cell 5;have yl:=HG.o.lt;clear LB hB2 I2 hgg gL aAH hg hr hf hb hc hu hv hui hvi hl hq h1 h2 h3 h4 p4 e4 GL xL;go_enter Tryz.func107,Tryz.ntmps107
 go_upto_region 0 with fail
 go_cut [6,7] (fun v6 v7 wc=>∃ g6 g7,v6=.pointer (some ⟨g6,0,none⟩)/\v7=.pointer (some ⟨g7,0,none⟩)/\g6≠g7/\aG wc g6 115 #[.bool xb.b1,.slice xb.A xb.n xb.c,.bool xb.b2,.slice xb.A2 xb.m xb.d]/\aG wc g7 115 #[.bool xc.b1,.slice xc.A xc.n xc.c,.bool xc.b2,.slice xc.A2 xc.m xc.d]/\w.heap.size<=g6/\w.heap.size<=g7/\Below w.heap.size w wc)
 case first=>
  refine aJ (S:=fun w'=>Below w.heap.size w w') 17 _ (by kernel_rfl) (by kernel_rfl) rfl (aD bR) (fun hHeld=>?_);simp only [lA,List.take_zero];refine aL 0 rfl ?_;refine aL 1 rfl ?_;refine aL 2 rfl ?_;refine aL 3 rfl ?_;refine aL 4 rfl ?_;refine aL 5 rfl ?_;refine aL 6 rfl ?_;refine aL 7 rfl ?_;refine aL 8 rfl ?_;refine aL 9 rfl ?_;refine aL 10 rfl ?_;refine aL 11 rfl ?_;refine aL 12 rfl ?_;refine aL 13 rfl ?_;refine MD 14 15 (by kernel_rfl) rfl rfl (fun K hK=>?_) (fun K hK=>?_)
  ·go_simp
   have HA:=lH ((aD (Below.refl w.heap.size w)).alloc lR (.cells #[.bool false,.slice none 0 0,.bool false,.slice none 0 0] 115));refine hK.out _ _ ?_ (fun hHeld=>?_)
   ·exact HA.o
   clear hK K HA
   try simp only [Act.put,bP,bO,bN]
   refine aU 15 (by kernel_rfl) rfl (fun K hK=>?_);go_simp;obtain ⟨ha,hb,hc⟩:=J6 w;generalize ((w.alloc (.cells #[.bool false,.slice none 0 0,.bool false,.slice none 0 0] 115)).alloc (.cells #[.bool false,.slice none 0 0,.bool false,.slice none 0 0] 115)).drew=W at ha hb hc ⊢;have I9:=lH ha;have HG7:=lH hb;have HW:=lH hc;clear ha hb hc;refine hK.out _ _ ?_ (fun hHeld=>?_)
   ·exact HW.o
   clear hK K
   try simp only [Act.put,bP,bO,bN]
   refine aU 16 (by kernel_rfl) rfl (fun K hK=>?_);have z0:=I9.o.cell 0;have z1:=I9.o.cell 1;have z2:=I9.o.cell 2;have z3:=I9.o.cell 3;have zl:=I9.o.lt;have zf:=I9.o.frozen;go_simp;clear z0 z1 z2 z3 zl zf;have NS:=lH (dM (v:=xb) HW.o (g:=w.heap.size) (by omega));have WI:=lH (qQ (v:=xb) I9.o);have tD:=lH (wH (v:=xb) HG7.o (show (w.heap.size+1)≠w.heap.size by omega));unfold DU at NS WI tD;generalize (((W.setCell ⟨w.heap.size,0,none⟩ _).setCell ⟨w.heap.size,1,none⟩ _).setCell ⟨w.heap.size,2,none⟩ _).setCell ⟨w.heap.size,3,none⟩ _=W2 at NS WI tD ⊢;refine hK.out _ _ ?_ (fun hHeld=>?_)
   ·exact NS.o
   clear hK K I9 HG7 HW
   try simp only [Act.put,bP,bO,bN]
   refine wpAnyH_done (by kernel_rfl) ?_ _;refine aP (by rfl) ?_;have z0:=tD.o.cell 0;have z1:=tD.o.cell 1;have z2:=tD.o.cell 2;have z3:=tD.o.cell 3;have zl:=tD.o.lt;have zf:=tD.o.frozen
   go_wp2_with fail
   go_meet
   case rel=>exact ⟨_,_,rfl,rfl,by omega,wH (v:=xc) WI.o (show w.heap.size≠(w.heap.size+1) by omega),qQ (v:=xc) tD.o,by omega,by omega,dM (v:=xc) NS.o (by omega)⟩
  ·go_simp
   have HA:=lH ((aD (Below.refl w.heap.size w)).alloc lR (.cells #[.bool false,.slice none 0 0,.bool false,.slice none 0 0] 115));refine hK.out _ _ ?_ (fun hHeld=>?_)
   ·exact HA.o
   clear hK K HA
   try simp only [Act.put,bP,bO,bN]
   refine aU 14 (by kernel_rfl) rfl (fun K hK=>?_);go_simp;obtain ⟨ha,hb,hc⟩:=J6 w;generalize ((w.alloc (.cells #[.bool false,.slice none 0 0,.bool false,.slice none 0 0] 115)).alloc (.cells #[.bool false,.slice none 0 0,.bool false,.slice none 0 0] 115)).drew=W at ha hb hc ⊢;have I9:=lH hb;have HG7:=lH ha;have HW:=lH hc;clear ha hb hc;refine hK.out _ _ ?_ (fun hHeld=>?_)
   ·exact HW.o
   clear hK K
   try simp only [Act.put,bP,bO,bN]
   refine aU 16 (by kernel_rfl) rfl (fun K hK=>?_);have z0:=I9.o.cell 0;have z1:=I9.o.cell 1;have z2:=I9.o.cell 2;have z3:=I9.o.cell 3;have zl:=I9.o.lt;have zf:=I9.o.frozen;go_simp;clear z0 z1 z2 z3 zl zf;have NS:=lH (dM (v:=xb) HW.o (g:=(w.heap.size+1)) (by omega));have WI:=lH (qQ (v:=xb) I9.o);have tD:=lH (wH (v:=xb) HG7.o (show w.heap.size≠(w.heap.size+1) by omega));unfold DU at NS WI tD;generalize (((W.setCell ⟨(w.heap.size+1),0,none⟩ _).setCell ⟨(w.heap.size+1),1,none⟩ _).setCell ⟨(w.heap.size+1),2,none⟩ _).setCell ⟨(w.heap.size+1),3,none⟩ _=W2 at NS WI tD ⊢;refine hK.out _ _ ?_ (fun hHeld=>?_)
   ·exact NS.o
   clear hK K I9 HG7 HW
   try simp only [Act.put,bP,bO,bN]
   refine wpAnyH_done (by kernel_rfl) ?_ _;refine aP (by rfl) ?_;have z0:=tD.o.cell 0;have z1:=tD.o.cell 1;have z2:=tD.o.cell 2;have z3:=tD.o.cell 3;have zl:=tD.o.lt;have zf:=tD.o.frozen
   go_wp2_with fail
   go_meet
   case rel=>exact ⟨_,_,rfl,rfl,by omega,wH (v:=xc) WI.o (show (w.heap.size+1)≠w.heap.size by omega),qQ (v:=xc) tD.o,by omega,by omega,dM (v:=xc) NS.o (by omega)⟩
 case rest=>
  obtain ⟨g6,g7,rfl,rfl,cP,fQ,gY,hl6,hl7,CF⟩:=hcut;have HW:=lH CF;have H6:=lH fQ;have H7:=lH gY;have HNE:=lH cP;have HL6:=lH hl6;have HL7:=lH hl7;replace HXB:=lH (HXB.o.up HW.o);replace HXC:=lH (HXC.o.up HW.o);clear cP fQ gY hl6 hl7 CF p0 p1 p2 p3 e0 e1 e2 e3 b0 bl y4 y5 yl pK hdb hk4 hk5
  go_upto_if 22 with fail
  go_cut [] (fun wd=>∃ sb sc,aG wd g6 115 #[.bool sb.b1,.slice sb.A sb.n sb.c,.bool sb.b2,.slice sb.A2 sb.m sb.d]/\aG wd g7 115 #[.bool sc.b1,.slice sc.A sc.n sc.c,.bool sc.b2,.slice sc.A2 sc.m sc.d]/\dL wd wd.heap.size (sg minus b) sb/\dL wd wd.heap.size (sg minus c) sc/\Below w.heap.size w wd)
  case first=>
   cases minus with
   | false=>
    go_wp2_with fail
    go_meet
    case rel=>exact ⟨xb,xc,H6.o,H7.o,HXB.o,HXC.o,HW.o⟩
   | true=>
    go_upto_region 2 with fail
    generalize wc=W at *;have s0:=H6.o.cell 0;have s1:=H6.o.cell 1;have s2:=H6.o.cell 2;have s3:=H6.o.cell 3;have t0:=H7.o.cell 0;have t1:=H7.o.cell 1;have t2:=H7.o.cell 2;have t3:=H7.o.cell 3;have sl:=H6.o.lt;have tl:=H7.o.lt;refine nS (S:=fun w'=>Below W.heap.size W w') 4 _ _ (by kernel_rfl) (by kernel_rfl) (by kernel_rfl) rfl rfl (aD bR) (fun hHeld=>?_);simp only [lA,List.take_zero];refine aL 0 rfl ?_;refine aL 2 rfl ?_;refine aU 1 (by kernel_rfl) rfl (fun K hK=>?_);go_simp;refine (aOS (HXB.o.up (aD bR))).mono ?_;rintro e w3 ⟨cR,v3,rfl,h3⟩;have dR:=lH ((aD (Below.refl W.heap.size W)).trans cR);have H3:=lH h3;clear cR h3;go_simp;refine hK.out _ _ ?_ (fun hHeld=>?_)
    ·exact dR.o
    clear hK K
    try simp only [Act.put,bP,bO,bN]
    refine aU 3 (by kernel_rfl) rfl (fun K hK=>?_);go_simp;refine (aOS (HXC.o.up dR.o)).mono ?_;rintro e w4 ⟨dU,v4,rfl,h4⟩;have bK:=lH (dR.o.tm dU);have H4:=lH h4;replace H3:=lH (H3.o.up dU);clear dU h4;go_simp;refine hK.out _ _ ?_ (fun hHeld=>?_)
    ·exact bK.o
    clear hK K
    try simp only [Act.put,bP,bO,bN]
    refine wpAnyH_done (by kernel_rfl) ?_ _;refine aP (by rfl) ?_;have H6b:=lH (H6.o.bl bK.o);have H7b:=lH (H7.o.bl bK.o);have HWb:=lH (HW.o.tm bK.o);clear s0 s1 s2 s3 t0 t1 t2 t3 sl tl;have z0:=H6b.o.cell 0;have z1:=H6b.o.cell 1;have z2:=H6b.o.cell 2;have z3:=H6b.o.cell 3;have zl:=H6b.o.lt;have zf:=H6b.o.frozen;go_simp;clear z0 z1 z2 z3 zl zf;have HWc:=lH (dM (v:=v3) HWb.o (g:=g6) HL6.o);have H6c:=lH (qQ (v:=v3) H6b.o);have H7c:=lH (wH (v:=v3) H7b.o (fun e=>HNE.o e.symm));have H3c:=lH (H3.o.keepq H6b.o (v:=v3));have H4c:=lH (H4.o.keepq H6b.o (v:=v3));unfold DU at HWc H6c H7c;generalize (((w4.setCell ⟨g6,0,none⟩ _).setCell ⟨g6,1,none⟩ _).setCell ⟨g6,2,none⟩ _).setCell ⟨g6,3,none⟩ _=w5 at HWc H6c H7c H3c H4c ⊢;refine aP (by rfl) ?_;have z0:=H7c.o.cell 0;have z1:=H7c.o.cell 1;have z2:=H7c.o.cell 2
    have z3:=H7c.o.cell 3;have zl:=H7c.o.lt;have zf:=H7c.o.frozen
    go_wp2_with fail
    go_meet
    case rel=>exact ⟨v3,v4,wH (v:=v4) H6c.o HNE.o,qQ (v:=v4) H7c.o,H3c.o.keepq H7c.o (v:=v4),H4c.o.keepq H7c.o (v:=v4),dM (v:=v4) HWc.o HL7.o⟩
  case rest=>
   generalize wc=wd at *;obtain ⟨sb,sc,fQ,gY,hvb,hvc,CF⟩:=hcut;clear H6 H7 HXB HXC HW;have H6:=lH fQ;have H7:=lH gY;have wI:=lH hvb;have HVC:=lH hvc;replace HF:=lH (HF.o.up CF);have HO:Hid (AM gf gc w wd):=lH (eS CF);replace HSB:Hid (bU (sg minus b)<=1000000):=lH (by unfold sg;cases minus;exact HSB.o;rw [if_pos rfl,qH];exact HSB.o);replace HSC:Hid (bU (sg minus c)<=1000000):=lH (by unfold sg;cases minus;exact HSC.o;rw [if_pos rfl,qH];exact HSC.o);clear fQ gY hvb hvc CF;generalize mU:sg minus b=sgb at *;generalize hsc:sg minus c=sgc at *;have NU:=lH mU;have JS:=lH hsc;clear mU hsc
   go_upto_region 3 with fail
   have fZ:=lH (HO.o.below bS.o bW.o (by have:=ON.o;have:=bS.o;omega));have HGw:=lH (HG.o.below fZ.o HGG.o);have WO:=lH (HBO.o.below fZ.o HGB.o);have qJ:=(CS.o.below fZ.o lR).r2;simp only at qJ;have yC:=qJ.2 (by have:=JX.o;have:=iL.o;omega);obtain ⟨fb2,fo2,hA,uO,-⟩:=yC;subst hA;have f0:=qJ.at_ (iT HU.o);have wD:fb2<wd.heap.size:=by have:=HO.o.size;have:=bS.o;have:=ON.o;omega
   obtain ⟨xe,hx,c0,c1,c2',c3',hv,l1,f1⟩:=HF.o.elem JR.o;have D8:=lH hx;have DK:=lH hv;have IK:Hid (bU (vf q ui)+bU sgb+1<=35184372088832):=lH (by have h5:=HSQ.o _ (cO (bI JR.o));have h6:=HSB.o;omega);have z0:=H6.o.cell 0;have z1:=H6.o.cell 1;have z2:=H6.o.cell 2;have z3:=H6.o.cell 3;have zl:=H6.o.lt;have b0:=WO.o.cell 0;have bl:=WO.o.lt;have y2:=HGw.o.cell 2;have yl:=HGw.o.lt;have q0:=HF.o.blk.cell 0;have ql:=HF.o.blk.lt;have fT:(k:Int)<(n2:Int):=by have:=JX.o;have:=iL.o;omega
   have sS:(ui:Int)<(q.length:Int):=by have:=JR.o;omega
   have sU:=lZ ui
   have sR:=kU ui;have bK:=lH (aD (Below.refl wd.heap.size wd));clear qJ uO hx hv fZ HGw WO;refine aJ (S:=fun w'=>Below wd.heap.size wd w') 23 _ (by kernel_rfl) (by kernel_rfl) rfl (aD bR) (fun hHeld=>?_);simp only [lA,List.take_zero];refine aL 0 rfl ?_;refine aL 1 rfl ?_;refine aL 2 rfl ?_;refine aL 3 rfl ?_;refine aL 4 rfl ?_;refine aL 5 rfl ?_;refine aL 6 rfl ?_;refine aL 7 rfl ?_;refine aL 8 rfl ?_;refine aL 9 rfl ?_;refine aL 10 rfl ?_;refine aL 11 rfl ?_;refine aL 12 rfl ?_;refine aL 13 rfl ?_;refine aL 14 rfl ?_;refine aL 15 rfl ?_;refine aL 16 rfl ?_;refine aL 17 rfl ?_;refine aL 18 rfl ?_;refine aL 19 rfl ?_;refine aL 20 rfl ?_;refine aU 21 (by kernel_rfl) rfl (fun K hK=>?_);go_simp;refine (ID (DK.o.up bK.o) (wI.o.up bK.o) IK.o).mono ?_
   rintro e w8 ⟨e_,v8,rfl,h8⟩;have dF:Hid (Below wd.heap.size wd w8):=lH (bK.o.tm e_);have H8:=lH h8;clear e_ h8;go_simp;refine hK.out _ _ ?_ (fun hHeld=>?_)
   ·exact dF.o
   clear hK K
   try simp only [Act.put,bP,bO,bN]
   refine aL 22 rfl ?_;refine wpAnyH_done (by kernel_rfl) ?_ _;refine aP (by rfl) ?_;clear hHeld;have tX:=lH (HF.o.up dF.o);have H68:=lH (H6.o.bl dF.o);have H78:=lH (H7.o.bl dF.o);have aFI:=lH (wI.o.up dF.o);have aFH:=lH (HVC.o.up dF.o);have oY:Hid (AM gf gc w w8):=lH (HO.o.trans (eS dF.o));clear c0 c1 c2' c3' l1 f1 z0 z1 z2 z3 zl b0 bl y2 yl q0 ql f0 wD HF H6 H7 wI HVC HO DK IK bK dF;obtain ⟨c0,c1,c2',c3',l1,f1⟩:=tX.o.elem2 D8.o
   go_upto_region 4 with fail
   clear c0 c1 c2' c3' l1 f1;have HF:=lH (tX.o.put JR.o H8.o);have H6:=lH (H68.o.far4 (i:=ui) v8 (show g6≠gc by have:=HL6.o;have:=WL.o;omega));have H7:=lH (H78.o.far4 (i:=ui) v8 (show g7≠gc by have:=HL7.o;have:=WL.o;omega));have wI:=lH (tX.o.keep JR.o (x:=v8) aFI.o);have HVC:=lH (tX.o.keep JR.o (x:=v8) aFH.o);have HO:Hid (AM gf gc w (gB w8 gc ui v8)):=lH (oY.o.trans zO);clear tX H68 H78 aFI aFH oY H8 D8 sS sU sR fT;simp only [gB] at HF H6 H7 wI HVC HO;generalize (((w8.setCell ⟨gc,ui*4,none⟩ _).setCell ⟨gc,ui*4+1,none⟩ _).setCell ⟨gc,ui*4+2,none⟩ _).setCell ⟨gc,ui*4+3,none⟩ _=we at *;have V1:Hid (vi<(q.set ui (vf q ui+sgb)).length):=lH (by rw [lF];exact OI.o);generalize vs.set ui _=vs1 at *;obtain ⟨q1,m_⟩:∃ q1,q.set ui (vf q ui+sgb)=q1:=⟨_,rfl⟩;have HQE:=lH m_
   have nQ:Hid (bU (vf (q.set ui (vf q ui+sgb)) vi)+bU sgb+1<=35184372088832):=lH (by have h5:=aHl (a:=2000001) (u:=ui) (p:=vf q ui+sgb) (fun p hp=>cV (HSQ.o p hp) (by decide)) (by have:=kM (vf q ui) sgb;have:=HSQ.o _ (cO (bI JR.o));have:=HSB.o;omega) V1.o;have h6:=HSB.o;omega);rw [m_] at HF V1 nQ;clear m_;have fZ:=lH (HO.o.below bS.o bW.o (by have:=ON.o;have:=bS.o;omega));have HGw:=lH (HG.o.below fZ.o HGG.o);have WO:=lH (HBO.o.below fZ.o HGB.o);have qJ:=(CS.o.below fZ.o lR).r3;simp only at qJ;have yC:=qJ.2 (by have:=JX.o;have:=wJ.o;omega);obtain ⟨fb3,fo3,hA,uO,-⟩:=yC;subst hA;have f0:=qJ.at_ (iT HV.o);have wD:fb3<we.heap.size:=by have:=HO.o.size;have:=bS.o;have:=ON.o;omega
   obtain ⟨xe,hx,c0,c1,c2',c3',hv,l1,f1⟩:=HF.o.elem V1.o;have D8:=lH hx;have DK:=lH hv;have IK:Hid (bU (vf q1 vi)+bU sgb+1<=35184372088832):=lH (by exact nQ.o);have z0:=H6.o.cell 0;have z1:=H6.o.cell 1;have z2:=H6.o.cell 2;have z3:=H6.o.cell 3;have zl:=H6.o.lt;have b0:=WO.o.cell 0;have bl:=WO.o.lt;have y2:=HGw.o.cell 3;have yl:=HGw.o.lt;have q0:=HF.o.blk.cell 0;have ql:=HF.o.blk.lt;have fT:(k:Int)<(n3:Int):=by have:=JX.o;have:=wJ.o;omega
   have sS:(vi:Int)<(q1.length:Int):=by have:=V1.o;omega
   have sU:=lZ vi
   have sR:=kU vi;have bK:=lH (aD (Below.refl we.heap.size we));clear qJ uO hx hv fZ HGw WO;refine aJ (S:=fun w'=>Below we.heap.size we w') 23 _ (by kernel_rfl) (by kernel_rfl) rfl (aD bR) (fun hHeld=>?_);simp only [lA,List.take_zero];refine aL 0 rfl ?_;refine aL 1 rfl ?_;refine aL 2 rfl ?_;refine aL 3 rfl ?_;refine aL 4 rfl ?_;refine aL 5 rfl ?_;refine aL 6 rfl ?_;refine aL 7 rfl ?_;refine aL 8 rfl ?_;refine aL 9 rfl ?_;refine aL 10 rfl ?_;refine aL 11 rfl ?_;refine aL 12 rfl ?_;refine aL 13 rfl ?_;refine aL 14 rfl ?_;refine aL 15 rfl ?_;refine aL 16 rfl ?_;refine aL 17 rfl ?_;refine aL 18 rfl ?_;refine aL 19 rfl ?_;refine aL 20 rfl ?_;refine aU 21 (by kernel_rfl) rfl (fun K hK=>?_);go_simp;refine (TD (DK.o.up bK.o) (wI.o.up bK.o) IK.o).mono ?_
   rintro e w8 ⟨e_,v8,rfl,h8⟩;have dF:Hid (Below we.heap.size we w8):=lH (bK.o.tm e_);have H8:=lH h8;clear e_ h8;go_simp;refine hK.out _ _ ?_ (fun hHeld=>?_)
   ·exact dF.o
   clear hK K
   try simp only [Act.put,bP,bO,bN]
   refine aL 22 rfl ?_;refine wpAnyH_done (by kernel_rfl) ?_ _;refine aP (by rfl) ?_;clear hHeld;have tX:=lH (HF.o.up dF.o);have H68:=lH (H6.o.bl dF.o);have H78:=lH (H7.o.bl dF.o);have aFI:=lH (wI.o.up dF.o);have aFH:=lH (HVC.o.up dF.o);have oY:Hid (AM gf gc w w8):=lH (HO.o.trans (eS dF.o));clear c0 c1 c2' c3' l1 f1 z0 z1 z2 z3 zl b0 bl y2 yl q0 ql f0 wD HF H6 H7 wI HVC HO DK IK bK dF;obtain ⟨c0,c1,c2',c3',l1,f1⟩:=tX.o.elem2 D8.o
   go_upto_region 5 with fail
   clear c0 c1 c2' c3' l1 f1;have HF:=lH (tX.o.put V1.o H8.o);have H6:=lH (H68.o.far4 (i:=vi) v8 (show g6≠gc by have:=HL6.o;have:=WL.o;omega));have H7:=lH (H78.o.far4 (i:=vi) v8 (show g7≠gc by have:=HL7.o;have:=WL.o;omega));have wI:=lH (tX.o.keep V1.o (x:=v8) aFI.o);have HVC:=lH (tX.o.keep V1.o (x:=v8) aFH.o);have HO:Hid (AM gf gc w (gB w8 gc vi v8)):=lH (oY.o.trans zO);clear tX H68 H78 aFI aFH oY H8 D8 sS sU sR fT;simp only [gB] at HF H6 H7 wI HVC HO;generalize (((w8.setCell ⟨gc,vi*4,none⟩ _).setCell ⟨gc,vi*4+1,none⟩ _).setCell ⟨gc,vi*4+2,none⟩ _).setCell ⟨gc,vi*4+3,none⟩ _=wf at *;have HE:Hid (q1.set vi (vf q1 vi-sgb)=l9 sgb ui vi q):=lH (by unfold l9;rw [HQE.o]);rw [HE.o] at HF;clear HE HQE nQ;generalize mV:l9 sgb ui vi q=q2 at *;have rG:=lH mV;clear mV;generalize vs1.set vi _=vs2 at *
   have IK:Hid (bU z+bU sgc+1<=35184372088832):=lH (by have:=dW.o;have:=HSC.o;omega);have z0:=H7.o.cell 0;have z1:=H7.o.cell 1;have z2:=H7.o.cell 2;have z3:=H7.o.cell 3;have zl:=H7.o.lt;have q4:=HF.o.blk.cell 0;have q5:=HF.o.blk.cell 1;have q6:=HF.o.blk.cell 2;have q7:=HF.o.blk.cell 3;have q8:=HF.o.blk.cell 4;have ql:=HF.o.blk.lt
   go_wp2_with fail
   refine (ID HF.o.val HVC.o IK.o).mono ?_;rintro e w9 ⟨gE,v9,rfl,h9⟩;have N2:=lH (HF.o.up gE);have H9:=lH h9;have DL:Hid (AM gf gc w w9):=lH (HO.o.trans (eS gE));clear gE h9 q4 q5 q6 q7 q8 ql z0 z1 z2 z3 zl HF HO;have q4:=N2.o.blk.cell 0;have q5:=N2.o.blk.cell 1;have q6:=N2.o.blk.cell 2;have q7:=N2.o.blk.cell 3;have q8:=N2.o.blk.cell 4;have ql:=N2.o.blk.lt;have qf:=N2.o.blk.frozen
   go_wp2_with fail
   go_end0
   exact ⟨rfl,DL.o.trans aDh,vs2,v9,by rw [NU.o,JS.o,rG.o];exact N2.o.free H9.o⟩
def lP (bus u v:Nat) (b c:Rat) (s:List Rat×Rat):List Rat×Rat:=
 let s1:=if u=bus then (l9 (sg false b) u v s.1,s.2+sg false c) else s
 if v=bus then (l9 (sg true b) u v s1.1,s1.2+sg true c) else s1
def pJ (bus:Nat):List Rat->List Rat->List Nat->List Nat->List Rat×Rat->List Rat×Rat
 | b::bs,c::cs,u::us,v::vs,s=>pJ bus bs cs us vs (lP bus u v b c s)
 | _,_,_,_,s=>s
def jX (n:Nat):List Rat:=List.replicate n 0
def aS (x:bE) (m:Mi):List Rat×Rat:=
 if m.kind=0 then (l9 (sg false (vf (mB x) (lY x m.name).toNat)) ((gV x).getD (lY x m.name).toNat 0) ((B7 x).getD (lY x m.name).toNat 0) (jX (aI x)),0+sg false (vf (mC x) (lY x m.name).toNat))
 else if m.kind=2 then ((jX (aI x)).set (aV x m.name) 1,0)
 else pJ (aV x m.name) (mB x) (mC x) (gV x) (B7 x) (jX (aI x),0)
def aST (x:bE) (m:Mi) (w:Wo) (e:Ending) (w':Wo):Prop:=Below w.heap.size w w'/\∃ (gc:Nat) (u:Rv),e=.returned (.agg #[.slice (some ⟨gc,0,none⟩) (aI x) (aI x),.bool u.b1,.slice u.A u.n u.c,.bool u.b2,.slice u.A2 u.m u.d])/\iF w' w'.heap.size (some ⟨gc,0,none⟩) (aI x) (aS x m).1/\dL w' w'.heap.size (aS x m).2 u
theorem rV {x:bE} (ok:cN x):(xZ x).length=aI x:=by
 have h:=(PR ok).2;unfold jH at h;rwa [lB] at h
theorem mT (g:Nat) (m:iZ) (y:Value) (w:Wo) (hg:aG w g 122 (m.cells y)):Calls Tryz.prog 96 #[.pointer (some ⟨g,0,none⟩)] w fun e w'=>e=.returned (.int .i64 (m.n1:Int))/\w=w':=by
 have y1:=hg.cell 1;have yl:=hg.lt;obtain ⟨A0,n0,c0,A1,n1,c1,A2,n2,c2,A3,n3,c3,A4,n4,c4,A5,n5,c5,A6,n6,c6⟩:=m;simp only [iZ.cells] at y1;clear hg;go_enter Tryz.func96,Tryz.ntmps96
 go_wp2_with fail
 go_ret;exact ⟨rfl,rfl⟩
def mkF (w:Wo) (gc n:Nat) (u:Rv):World:=w.alloc (.cells #[.slice (some ⟨gc,0,none⟩) n n,.bool u.b1,.slice u.A u.n u.c,.bool u.b2,.slice u.A2 u.m u.d] 117)
theorem sA {w:Wo} {gc n:Nat} {u:Rv}:Below w.heap.size w (mkF w gc n u):=(Below.refl _ w).alloc lR _
theorem LD {w:Wo} {gc n:Nat} {v u:Rv} (hc:aG w gc 115 (fS (List.replicate n v)).toArray) (hv:dL w w.heap.size 0 v) (hu:dL w w.heap.size 0 u):CV (mkF w gc n u) w.heap.size gc (List.replicate n v) u (jX n) 0:=by
 refine ⟨?_,⟨_,hc.bl sA,?_⟩,by simp [jX],fun i p x hp hx=>?_,hu.up sA⟩
 ·unfold mkF jX
  rw [o3];exact aG.new w _ _
 ·have hl:(fS (List.replicate n v)).length=n*4:=(d9 _).trans (by rw [o3])
  rw [jX,o3];exact nW (Nat.le_of_eq hl)
 ·unfold jX at hp
  rw [List.getElem?_replicate] at hp hx
  split at hp
  ·rename_i h
   rw [if_pos h] at hx;rw [<-Option.some.inj hp,<-Option.some.inj hx];exact hv.up sA
  ·cases hp
def put5 (w:Wo) (p gc n:Nat) (u:Rv):World:=((((w.setCell ⟨p,0,none⟩ (.slice (some ⟨gc,0,none⟩) n n)).setCell ⟨p,1,none⟩ (.bool u.b1)).setCell ⟨p,2,none⟩ (.slice u.A u.n u.c)).setCell ⟨p,3,none⟩ (.bool u.b2)).setCell ⟨p,4,none⟩ (.slice u.A2 u.m u.d)
theorem Z8 (w:Wo) (p gc n:Nat) (u:Rv):(put5 w p gc n u).heap.size=w.heap.size:=by simp [put5]
theorem iE {a w:Wo} {B p gc n:Nat} {u:Rv} (h:Below B a w) (hp:B<=p):Below B a (put5 w p gc n u):=((((h.setCell hp _).setCell hp _).setCell hp _).setCell hp _).setCell hp _
theorem dL.keep5 {w:Wo} {p gc n T:Nat} {u y:Rv} {t:Rat} (h:dL w w.heap.size t y) (hb:aG w p T #[.slice none 0 0,.bool false,.slice none 0 0,.bool false,.slice none 0 0]):dL (put5 w p gc n u) (put5 w p gc n u).heap.size t y:=by
 have B0:=hb.set_at (i:=0) (cs':=#[.slice (some ⟨gc,0,none⟩) n n,.bool false,.slice none 0 0,.bool false,.slice none 0 0]) (.slice (some ⟨gc,0,none⟩) n n) (by simp);have B1:=B0.set_at (i:=1) (cs':=#[.slice (some ⟨gc,0,none⟩) n n,.bool u.b1,.slice none 0 0,.bool false,.slice none 0 0]) (.bool u.b1) (by simp);have B2:=B1.set_at (i:=2) (cs':=#[.slice (some ⟨gc,0,none⟩) n n,.bool u.b1,.slice u.A u.n u.c,.bool false,.slice none 0 0]) (.slice u.A u.n u.c) (by simp);have B3:=B2.set_at (i:=3) (cs':=#[.slice (some ⟨gc,0,none⟩) n n,.bool u.b1,.slice u.A u.n u.c,.bool u.b2,.slice none 0 0]) (.bool u.b2) (by simp)
 exact (((((h.keep1 hb (i:=0) (y:=.slice none 0 0) rfl gS _).keep1 B0 (i:=1) (y:=.bool false) rfl (fun k x h=>by cases h) _).keep1 B1 (i:=2) (y:=.slice none 0 0) rfl gS _).keep1 B2 (i:=3) (y:=.bool false) rfl (fun k x h=>by cases h) _).keep1 B3 (i:=4) (y:=.slice none 0 0) rfl gS _)
theorem lJ {w:Wo} {p gc n T:Nat} {u:Rv} (hb:aG w p T #[.slice none 0 0,.bool false,.slice none 0 0,.bool false,.slice none 0 0]):aG (put5 w p gc n u) p T #[.slice (some ⟨gc,0,none⟩) n n,.bool u.b1,.slice u.A u.n u.c,.bool u.b2,.slice u.A2 u.m u.d]:=by
 have B0:=hb.set_at (i:=0) (cs':=#[.slice (some ⟨gc,0,none⟩) n n,.bool false,.slice none 0 0,.bool false,.slice none 0 0]) (.slice (some ⟨gc,0,none⟩) n n) (by simp);have B1:=B0.set_at (i:=1) (cs':=#[.slice (some ⟨gc,0,none⟩) n n,.bool u.b1,.slice none 0 0,.bool false,.slice none 0 0]) (.bool u.b1) (by simp);have B2:=B1.set_at (i:=2) (cs':=#[.slice (some ⟨gc,0,none⟩) n n,.bool u.b1,.slice u.A u.n u.c,.bool false,.slice none 0 0]) (.slice u.A u.n u.c) (by simp);have B3:=B2.set_at (i:=3) (cs':=#[.slice (some ⟨gc,0,none⟩) n n,.bool u.b1,.slice u.A u.n u.c,.bool u.b2,.slice none 0 0]) (.bool u.b2) (by simp);exact B3.set_at (i:=4) (.slice u.A2 u.m u.d) (by simp)
theorem CV.rdq {w:Wo} {gf gc:Nat} {vs:List Rv} {u:Rv} {q:List Rat} {z:Rat} (f:CV w gf gc vs u q z) {p n T:Nat} {y:Rv} (hb:aG w p T #[.slice none 0 0,.bool false,.slice none 0 0,.bool false,.slice none 0 0]) (hp:gc≠p):iF (put5 w p gc n y) (put5 w p gc n y).heap.size (some ⟨gc,0,none⟩) q.length q:=by
 obtain ⟨cs,h1,h2⟩:=f.row;have hf:aG (put5 w p gc n y) gc 115 cs:=((((h1.far hp _).far hp _).far hp _).far hp _).far hp _;refine ⟨vs,f.len,rfl,⟨by rw [d9,f.len],fun hn=>⟨gc,0,rfl,hf.lt,fun i v hv=>?_⟩⟩,fun i t v ht hv=>(f.ok i t v ht hv).keep5 hb⟩;rw [Nat.zero_add,hf.cell];rw [<-h2] at hv;rw [List.getElem?_take] at hv
 split at hv
 ·rwa [Array.getElem?_toList] at hv
 ·cases hv
theorem aCJ {m:Bool} {b:Rat}:bU (sg m b)=bU b:=by
 unfold sg;cases m
 ·rfl
 ·rw [if_pos rfl,qH]
structure N_ (n K:Nat) (s:List Rat×Rat):Prop where
 len:s.1.length=n
 cf:∀ p∈s.1,bU p<=K
 fr:bU s.2<=K
theorem E9 (n:Nat):N_ n 2 (jX n,0):=by
 have h:bU (0:Rat)<=2:=dV 0 (by decide) (by decide);refine ⟨by simp [jX],fun p hp=>?_,h⟩;rw [List.eq_of_mem_replicate hp];exact h
theorem N_.mono {n K K':Nat} {s:List Rat×Rat} (h:N_ n K s) (hk:K<=K'):N_ n K' s:=⟨h.len,fun p hp=>cV (h.cf p hp) hk,cV h.fr hk⟩
theorem N_.add {n K u v:Nat} {s:List Rat×Rat} {b c:Rat} (mi:Bool) (h:N_ n K s) (hu:u<n) (hv:v<n) (hb:bU b<=1) (hc:bU c<=2):N_ n (K+6) (l9 (sg mi b) u v s.1,s.2+sg mi c):=by
 have hb':bU (sg mi b)<=1:=by rw [aCJ];exact hb
 have h1:bU (vf s.1 u+sg mi b)<=K+2:=by
  have a:=kM (vf s.1 u) (sg mi b);have c:=h.cf _ (cO (bI (i:=u) (by rw [h.len];exact hu)));omega
 have h2:∀ p∈s.1.set u (vf s.1 u+sg mi b),bU p<=K+2:=fun p hp=>by
  rcases List.mem_or_eq_of_mem_set hp with e | e
  ·exact cV (h.cf p e) (by omega)
  ·rw [e];exact h1
 refine ⟨by rw [l8];exact h.len,fun p hp=>?_,?_⟩
 ·unfold l9 at hp
  rcases List.mem_or_eq_of_mem_set hp with e | e
  ·exact cV (h2 p e) (by omega)
  ·have a:=kM (vf (s.1.set u (vf s.1 u+sg mi b)) v) (-(sg mi b))
   have c:=h2 _ (cO (bI (i:=v) (by rw [lF,h.len];exact hv)));rw [qH] at a;rw [e,Rat.sub_eq_add_neg];omega
 ·have a:=kM s.2 (sg mi c)
  rw [aCJ (b:=c)] at a;have:=h.fr;show bU (s.2+sg mi c)<=_;omega
theorem GI {bus:Nat} {B C:List Rat} {F G:List Nat} {s:List Rat×Rat} {k u v:Nat} {b c:Rat} (h1:B[k]?=some b) (h0:C[k]?=some c) (h2:F[k]?=some u) (h3:G[k]?=some v):pJ bus (B.drop k) (C.drop k) (F.drop k) (G.drop k) s=pJ bus (B.drop (k+1)) (C.drop (k+1)) (F.drop (k+1)) (G.drop (k+1)) (lP bus u v b c s):=by
 rw [cM h1,cM h0,cM h2,cM h3];rfl
theorem YP {b:Br} (h:b.bad=false):bU (nI b)<=2:=by
 have a:=eH (gQ b) (Rat.divInt (-b.shift) 1000);have c:=yW h;have d:=KA h;unfold nI;omega
structure aBD (w:Wo) (B gb g:Nat) (m:iZ) (y:Value) (x:bE) (gf gc:Nat):Prop where
 b1:B<=gf
 b2:B<=gc
 lb:gb<B
 lg:g<B
 hs:B<=w.heap.size
 box:aG w gb 90 #[.pointer (some ⟨g,0,none⟩)]
 md:aG w g 122 (m.cells y)
 rd:fG w B m x
theorem aBD.oth {w w':Wo} {B gb g gf gc:Nat} {m:iZ} {y:Value} {x:bE} (h:aBD w B gb g m y x gf gc) (o:AM gf gc w w'):aBD w' B gb g m y x gf gc:=by
 have hb:=o.below h.b1 h.b2 h.hs;exact ⟨h.b1,h.b2,h.lb,h.lg,cV h.hs o.size,h.box.below hb h.lb,h.md.below hb h.lg,h.rd.below hb lR⟩
theorem nK {w:Wo} {B gb g gf gc:Nat} {m:iZ} {y:Value} {x:bE} (E:aBD w B gb g m y x gf gc) {vs:List Rv} {u:Rv} {s:List Rat×Rat} (f:CV w gf gc vs u s.1 s.2) {n K:Nat} (hs:N_ n K s) (hK:K<=1000000) (hn:n=aI x) (h8:x.nodes.length<=8) (ok:cN x) {k:Nat} {b:Br} (hb:x.brs[k]?=some b) (minus:Bool) :
    Calls Tryz.prog 107 #[.int .i64 (k:Int),.bool minus,.pointer (some ⟨gb,0,none⟩),.pointer (some ⟨gf,0,none⟩)] w (aS2 gf gc (gQ b) (nI b) minus (aV x b.fr) (aV x b.to) s.1 s.2 w):=by
 obtain ⟨a1,a2,a3,a4⟩:=lO hb;have hm:=ok.br b (cO hb);have hB:=(fR ok).2;have l1:=(dD ok hm.1).2.1;have l2:=(dD ok hm.2.1).2.1;have hl:=hs.len;exact aFt gb g m y x gf gc vs u s.1 s.2 k minus _ _ _ _ w B E.b1 E.b2 E.lb E.lg E.box E.md E.rd f a3 a4 a1 a2 (by omega) (by omega) (by have:=ok.l2;omega) (by omega) (fun p hp=>cV (hs.cf p hp) hK) (cV (yW hm.2.2.2) (by decide)) (cV (YP hm.2.2.2) (by decide)) (cV hs.fr hK)
theorem oH {x:bE} (ok:cN x) {n K k:Nat} {s:List Rat×Rat} (hs:N_ n K s) (hn:n=aI x) {b:Br} (hb:x.brs[k]?=some b) (minus:Bool):N_ n (K+6) (l9 (sg minus (gQ b)) (aV x b.fr) (aV x b.to) s.1,s.2+sg minus (nI b)):=by
 have hm:=ok.br b (cO hb);exact hs.add minus (by rw [hn];exact (dD ok hm.1).2.1) (by rw [hn];exact (dD ok hm.2.1).2.1) (yW hm.2.2.2) (YP hm.2.2.2)
def f_ (x:bE) (q:List Rat):List Rat:=(aA x).map (vf q)
theorem uS {x:bE} {j:Nat} (h:j∈aA x):j<aI x:=by
 unfold aA kE at h;have h2:=(List.mem_filter.1 h).1;exact List.mem_range.1 h2
theorem aHp {x:bE} {q:List Rat} {k j:Nat} (h:(aA x)[k]?=some j):(f_ x q).take (k+1)=(f_ x q).take k++[vf q j]:=by
 have h2:(f_ x q)[k]?=some (vf q j):=by unfold f_;rw [kI,h];rfl
 exact kJ h2
def aWk (x:bE) (q:List Rat) (w:Wo) (e:Ending) (w':Wo):Prop:=Below w.heap.size w w'/\∃ B v us,w.heap.size<=B/\e=.returned v/\fH w' B v us (f_ x q)
theorem F6 (g:Nat) (m:iZ) (y:Value) (x:bE) (ok:cN x) (h8:x.nodes.length<=8) (u:Rv) (A:OA) (n c:Nat) (q:List Rat) (w:Wo) (hg:aG w g 122 (m.cells y)) (hr:fG w w.heap.size m x) (hq:iF w w.heap.size A n q) (hn:n=aI x) :
    Calls Tryz.prog 90 #[.pointer (some ⟨g,0,none⟩),.agg #[.slice A n c,.bool u.b1,.slice u.A u.n u.c,.bool u.b2,.slice u.A2 u.m u.d]] w (aWk x q w):=by
 have K0:Below w.heap.size w (w.alloc (.cells #[.slice A n c,.bool u.b1,.slice u.A u.n u.c,.bool u.b2,.slice u.A2 u.m u.d] 117)):=bA;have HK:=lH K0;have mA:=lH (aG.new w 117 #[.slice A n c,.bool u.b1,.slice u.A u.n u.c,.bool u.b2,.slice u.A2 u.m u.d]);have HG:=lH (hg.bl K0);have HR:=lH (hr.up K0);have HQ:=lH (hq.up K0);have LZ:=lH hn;have DM:Hid ((aA x).length=m.n6):=lH (by rw [<-gU];exact hr.r6.len);have h6:m.n6<=8:=by rw [<-DM.o];exact fY ok h8
 have mH:Hid (q.length=n):=lH (by obtain ⟨vs,_,h,_⟩:=hq;exact h);have hnb:n<=8:=by rw [hn];exact cV (fR ok).2 h8
 have dW:Hid (w.heap.size<=(w.alloc (.cells #[.slice A n c,.bool u.b1,.slice u.A u.n u.c,.bool u.b2,.slice u.A2 u.m u.d] 117)).heap.size):=lH K0.size;have HFW:Hid (w.heap.size<(w.alloc (.cells #[.slice A n c,.bool u.b1,.slice u.A u.n u.c,.bool u.b2,.slice u.A2 u.m u.d] 117)).heap.size):=lH mA.o.lt;clear K0 hg hr hq hn ok;obtain ⟨A0,n0,c0,A1,n1,c1,A2,n2,c2,A3,n3,c3,A4,n4,c4,A5,n5,c5,A6,n6,c6⟩:=m;simp only [iZ.cells] at HG DM h6;have y6:=HG.o.cell 6;have yl:=HG.o.lt;go_enter Tryz.func90,Tryz.ntmps90
 go_wp2_with fail
 clear y6 yl;generalize w.alloc (.cells #[.slice A n c,.bool u.b1,.slice u.A u.n u.c,.bool u.b2,.slice u.A2 u.m u.d] 117)=W at *
 go_loopw [5,13] (fun v5 v13 wr=>∃ (k:Nat) (us:List Rv),k<=n6/\v13=.int .i64 k/\fH wr W.heap.size v5 us ((f_ x q).take k)/\Below W.heap.size W wr) (fun _ v13 _=>n6-(intOf v13).toNat)
 case atStart=>exact ⟨0,[],by omega,rfl,oQ _ _,bR⟩
 case round=>
  obtain ⟨k,us,hk,rfl,ho,hb⟩:=hrel;have HO:=lH ho;have HB:=lH hb;clear ho hb
  by_cases aW:k<n6
  ·obtain ⟨j,hj⟩:∃ j,(aA x)[k]?=some j:=eO (by have:=DM.o;omega)
   have OJ:=lH (aHp (q:=q) hj);have hjb:j<n:=by rw [LZ.o];exact uS (cO hj)
   have xK:=(HR.o.up HB.o).r6;simp only at xK;obtain ⟨fb,fo,hA,uO,-⟩:=xK.2 (by have:=xK.len;omega);subst hA;have f0:=xK.at_ (iT hj);have HQW:=HQ.o.up HB.o;obtain ⟨ab,ao,AE,oS⟩:=HQW.form (by omega);subst AE;obtain ⟨xe,a0,a1,a2,a3,a4⟩:=HQW.at_ (bI (i:=j) (by rw [mH.o];exact hjb));have HX:=lH a4;have aNy:=mA.o.bl HB.o;have z0:=aNy.cell 0;have zl:=aNy.lt;have fT:(k:Int)<(n6:Int):=by omega
   have kF:=lZ k
   have qW:=kU k;have hjI:(j:Int)<(n:Int):=by omega
   have JH:=lZ j
   have tL:=kU j;have l_:=lN k;have jW:Hid (n6-(k+1)<n6-k):=lH (by omega);have J1:Hid (W.heap.size<=wr.heap.size):=lH HB.o.size;clear hj a4 xK HQW aNy
   go_wp2_with (at_builtin;refine t_ rfl (.tmp 17) (.tmp 23) _ rfl W.heap.size Tryz.underlying93 u5 us _ rfl HO.o xe _ HX.o rfl ?k1 J1.o ?_)
   case k1=>rw [jP];omega
   intro v' w8 bF hkeep e_;have oY:=lH bF;have dF:=lH (HB.o.trans e_);clear bF hkeep e_ f0 a0 a1 a2 a3 z0 zl
   go_wp2_with fail
   go_roundw
   case rel=>exact ⟨k+1,us++[xe],aW,aQ l_.o,by rw [OJ.o];exact oY.o,dF.o⟩
   case measure=>exact jW.o
  ·have lS:k=n6:=by omega
   have Y2:Hid (fH wr W.heap.size u5 us (f_ x q)):=lH (by
    have h:=HO.o;rw [nW (by unfold f_;rw [lB];have:=DM.o;omega)] at h;exact h)
   have fT:¬(k:Int)<(n6:Int):=by omega
   go_wp2_with fail
   go_ret;exact ⟨HK.o.trans (HB.o.mono dW.o),_,_,_,dW.o,rfl,Y2.o⟩
theorem mW (h:cE) (x:bE) (ok:cN x) (h8:x.nodes.length<=8) (g:Nat) (m:iZ) (y:Value) (mi:Mi) (w:Wo) (r:cS w w.heap.size h x) (hg:aG w g 122 (m.cells y)) (hr:fG w w.heap.size m x) (h0:mi.kind=0->0<=lY x mi.name) (h1:mi.kind≠0->mi.name∈x.nodes) :
    Calls Tryz.prog 63 #[.agg h.cells,.pointer (some ⟨g,0,none⟩),mi.val] w (aST x mi w):=by
 have eN:Hid (aI x=m.n1):=lH (by rw [<-rV ok];exact hr.r1.len);have HX:=lH r;have HG:=lH hg;have HR:=lH hr;have H0:=lH h0;have H1:=lH h1;have cH:=lH ok;have hnb:m.n1<=8:=by rw [<-eN.o];exact cV (fR ok).2 h8
 have LZ:=lH hnb;obtain ⟨kind,name,txt,wt⟩:=mi;simp only [Mi.val];have Q0:Below w.heap.size w ((((w.alloc (.cells h.cells 29)).alloc (.cells #[.pointer (some ⟨g,0,none⟩)] 90)).alloc (.cells #[.int .i64 kind,.string name,.string txt,.int .i64 wt] 57)).alloc (.cells #[.slice none 0 0,.bool false,.slice none 0 0,.bool false,.slice none 0 0] 117)):=(((Below.alloc (Below.refl _ w) lR _).alloc (by simp<;>omega) _).alloc (by simp<;>omega) _).alloc (by simp<;>omega) _;have HW:=lH Q0;have P0:=lH (((aG.new w 29 h.cells).alloc (.cells #[.pointer (some ⟨g,0,none⟩)] 90)).alloc (.cells #[.int .i64 kind,.string name,.string txt,.int .i64 wt] 57) |>.alloc (.cells #[.slice none 0 0,.bool false,.slice none 0 0,.bool false,.slice none 0 0] 117))
 have P1:Hid (aG ((((w.alloc (.cells h.cells 29)).alloc (.cells #[.pointer (some ⟨g,0,none⟩)] 90)).alloc (.cells #[.int .i64 kind,.string name,.string txt,.int .i64 wt] 57)).alloc (.cells #[.slice none 0 0,.bool false,.slice none 0 0,.bool false,.slice none 0 0] 117)) (w.heap.size+1) 90 #[.pointer (some ⟨g,0,none⟩)]):=lH (((aG.new_ (by simp)).alloc _).alloc _);have P2:Hid (aG ((((w.alloc (.cells h.cells 29)).alloc (.cells #[.pointer (some ⟨g,0,none⟩)] 90)).alloc (.cells #[.int .i64 kind,.string name,.string txt,.int .i64 wt] 57)).alloc (.cells #[.slice none 0 0,.bool false,.slice none 0 0,.bool false,.slice none 0 0] 117)) (w.heap.size+1+1) 57 #[.int .i64 kind,.string name,.string txt,.int .i64 wt]):=lH ((aG.new_ (by simp)).alloc _)
 have P3:Hid (aG ((((w.alloc (.cells h.cells 29)).alloc (.cells #[.pointer (some ⟨g,0,none⟩)] 90)).alloc (.cells #[.int .i64 kind,.string name,.string txt,.int .i64 wt] 57)).alloc (.cells #[.slice none 0 0,.bool false,.slice none 0 0,.bool false,.slice none 0 0] 117)) (w.heap.size+1+1+1) 117 #[.slice none 0 0,.bool false,.slice none 0 0,.bool false,.slice none 0 0]):=lH (aG.new_ (by simp));clear r hg hr h0 h1 ok Q0 hnb;obtain ⟨A0,n0,c0,A1,n1,c1,A2,n2,c2,A3,n3,c3,A4,n4,c4,A5,n5,c5,A6,n6,c6⟩:=m;simp only [iZ.cells] at HG eN LZ;go_enter Tryz.func63,Tryz.ntmps63
 go_upto_region 1 with fail
 have dW:Hid (((((w.alloc (.cells h.cells 29)).alloc (.cells #[.pointer (some ⟨g,0,none⟩)] 90)).alloc (.cells #[.int .i64 kind,.string name,.string txt,.int .i64 wt] 57)).alloc (.cells #[.slice none 0 0,.bool false,.slice none 0 0,.bool false,.slice none 0 0] 117)).heap.size=w.heap.size+1+1+1+1):=lH (by simp);generalize ((((w.alloc (.cells h.cells 29)).alloc (.cells #[.pointer (some ⟨g,0,none⟩)] 90)).alloc (.cells #[.int .i64 kind,.string name,.string txt,.int .i64 wt] 57)).alloc (.cells #[.slice none 0 0,.bool false,.slice none 0 0,.bool false,.slice none 0 0] 117))=wa at *;have b0:=P1.o.cell 0;have bl:=P1.o.lt
 go_wp2_with fail
 refine (mT g ⟨A0,n0,c0,A1,n1,c1,A2,n2,c2,A3,n3,c3,A4,n4,c4,A5,n5,c5,A6,n6,c6⟩ y wa (HG.o.bl HW.o)).mono ?_;rintro e w1 ⟨rfl,rfl⟩
 go_wp2_with fail
 refine (kT n1 wa (by have:=LZ.o;omega)).mono ?_;rintro e w1 ⟨bH,gc,v,rfl,hgc,QQ,hv⟩
 go_wp2_with fail
 refine (nT 0 w1 (by decide) (by decide)).mono ?_;rintro e w2 ⟨bL,u,rfl,hu⟩;have IT:=lH (LD (gc:=gc) (n:=n1) (QQ.bl bL) (hv.up bL) hu);have bW:=lH (HW.o.trans ((bH.tm bL).mono HW.o.size));have I_:=lH (sA (w:=w2) (gc:=gc) (n:=n1) (u:=u));have tZ:Hid (wa.heap.size<=gc/\gc<w2.heap.size):=lH ⟨hgc,jO QQ.lt bL.size⟩;have nQ:Hid (wa.heap.size<=w2.heap.size):=lH (cV bH.size bL.size);have hz:Below wa.heap.size wa w2:=bH.tm bL;replace P0:=lH (P0.o.bl hz);replace P1:=lH (P1.o.bl hz);replace P2:=lH (P2.o.bl hz);replace P3:=lH (P3.o.bl hz);clear bH bL hgc QQ hv hu hz b0 bl
 go_upto_region 2 with fail
 unfold mkF at IT I_;generalize SL:w2.alloc (.cells #[.slice (some ⟨gc,0,none⟩) n1 n1,.bool u.b1,.slice u.A u.n u.c,.bool u.b2,.slice u.A2 u.m u.d] 117)=wb at *;clear SL;have yH:=lH (bW.o.tm I_.o);have EV:Hid (aBD wb wa.heap.size (w.heap.size+1) g ⟨A0,n0,c0,A1,n1,c1,A2,n2,c2,A3,n3,c3,A4,n4,c4,A5,n5,c5,A6,n6,c6⟩ y x w2.heap.size gc):=lH ⟨nQ.o,tZ.o.1,by have:=dW.o;omega,by have:=dW.o;have:=HG.o.lt;omega,by have:=I_.o.size;have:=nQ.o;omega,P1.o.bl I_.o,HG.o.bl yH.o,(HR.o.below yH.o lR).more (by have:=dW.o;omega)⟩;replace P0:=lH (P0.o.bl I_.o);replace P2:=lH (P2.o.bl I_.o);replace P3:=lH (P3.o.bl I_.o);generalize EZ:w2.heap.size=gf at *;have eP:Hid (wa.heap.size<=gf):=lH (by have:=nQ.o;omega);clear EZ I_ bW P1 nQ HG;have k0:=P2.o.cell 0;have kl:=P2.o.lt
 go_upto_if 19 with fail
 clear k0 kl;obtain ⟨D0,r0,s0,D1,r1,s1,D2,r2,s2,D3,r3,s3,D4,r4,s4,D5,r5,s5⟩:=h
 by_cases hk:kind=0
 ·subst hk
  have hbi:=H0.o rfl;rcases pP x name with ⟨h1,_⟩ | ⟨i,b,h1,h2,h3⟩
  ·exact absurd (show 0<=lY x name from hbi) (by omega)
  clear hbi h3;have HBI:=lH h1;have qS:=lH h2;clear h1 h2;obtain ⟨y0,y1,y2,y3,y4,y5,nf,nlt⟩:=a_ P0.o;dsimp only at y0 y1 y2 y3 y4 y5;have k1:=P2.o.cell 1;have kl:=P2.o.lt
  go_wp2_with fail
  refine (uM _ x name wb (HX.o.up yH.o)).mono ?_;rintro e w5 ⟨rfl,eD⟩;rw [HBI.o]
  go_wp2_with fail
  refine (nK (s:=(jX n1,0)) (EV.out.oth (eS eD)) (IT.o.up eD) (E9 n1) (by decide) eN.o.symm h8 cH.o qS.o false).mono ?_;rintro e w6 ⟨rfl,ho,vs2,u2,hf⟩;have HO:Hid (AM gf gc wb w6):=lH ((eS eD).trans ho);have HF:=lH hf;clear eD ho hf k1 kl;clear y0 y1 y2 y3 y4 y5 nf nlt;have J2:Hid (aS x ⟨0,name,txt,wt⟩=(l9 (sg false (gQ b)) (aV x b.fr) (aV x b.to) (jX n1),0+sg false (nI b))):=lH (by
   obtain ⟨a1,a2,a3,a4⟩:=lO qS.o;unfold aS;rw [if_pos rfl];simp only [HBI.o,kU,eN.o,eY,vf,a1,a2,a3,a4];rfl)
  have mH:Hid ((l9 (sg false (gQ b)) (aV x b.fr) (aV x b.to) (jX n1)).length=n1):=lH (by rw [l8];simp [jX]);have HL:Hid (Below w.heap.size w w6):=lH (yH.o.trans (HO.o.below (by have:=dW.o;have:=eP.o;omega) (by have:=dW.o;have:=tZ.o.1;omega) yH.o.size));have P3b:Hid (aG w6 (w.heap.size+1+1+1) 117 #[.slice none 0 0,.bool false,.slice none 0 0,.bool false,.slice none 0 0]):=lH (HO.o.blk P3.o (by have:=dW.o;have:=eP.o;omega) (by have:=dW.o;have:=tZ.o.1;omega));have HPC:Hid (gc≠w.heap.size+1+1+1):=lH (by have:=dW.o;have:=tZ.o.1;omega);have q0:=HF.o.blk.cell 0;have q1:=HF.o.blk.cell 1;have q2:=HF.o.blk.cell 2;have q3:=HF.o.blk.cell 3;have q4:=HF.o.blk.cell 4;rw [mH.o] at q0;have z0:=P3b.o.cell 0;have z1:=P3b.o.cell 1;have z2:=P3b.o.cell 2;have z3:=P3b.o.cell 3;have z4:=P3b.o.cell 4;have ql:=HF.o.blk.lt;have zl:=P3b.o.lt;have zf:=P3b.o.frozen
  go_wp2_with fail
  have tN:=lH (lJ (gc:=gc) (n:=n1) (u:=u2) P3b.o);clear q0 z0 q1 z1 q2 z2 q3 z3 q4 z4 ql zl zf;have p0:=tN.o.cell 0;have p1:=tN.o.cell 1;have p2:=tN.o.cell 2;have p3:=tN.o.cell 3;have p4:=tN.o.cell 4;unfold put5 at p0 p1 p2 p3 p4;refine bodyPost_ret (v:=.agg #[.slice (some ⟨gc,0,none⟩) n1 n1,.bool u2.b1,.slice u2.A u2.n u2.c,.bool u2.b2,.slice u2.A2 u2.m u2.d]) (by simp [results,Tryz.results63,go_sem,p0,p1,p2,p3,p4]) rfl ?_;refine ⟨iE (gc:=gc) (n:=n1) (u:=u2) HL.o (by omega),gc,u2,by rw [eN.o],?_,?_⟩
  ·have h:=HF.o.rdq P3b.o HPC.o (n:=n1) (y:=u2)
   rw [eN.o,J2.o];rw [mH.o] at h;exact h
  ·rw [J2.o]
   exact HF.o.val.keep5 P3b.o (gc:=gc) (n:=n1) (u:=u2)
 ·have hkB:(kind == 0)=false:=by simp [hk]
  rw [hkB];have hm:=H1.o hk;obtain ⟨ha1,ha2,ha3⟩:=dD cH.o hm;obtain ⟨JI,DG⟩:=rR hm;have HA:Hid (∀ N,Calls Tryz.prog 91 #[.slice D0 r0 s0,.string name] (wb.drewN N) fun e w'=>e=.returned (.int .i64 (dN x.nodes name:Int))/\w'=wb.drewN N):=lH fun N=>by
   have hx:=HX.o.up (bC yH.o N);exact (jR _ _ s0 x.nodes name _ hx.r0 hx.m0).mono fun e w' ⟨he,hw⟩=>⟨by rw [he,JI],hw.symm⟩
  have HBN:Hid (aV x name<n1):=lH (by rw [<-eN.o];exact ha2);have gL:=EV.out.rd.r0;simp only at gL;have yQ:=gL.2 (by have:=gL.len;omega);obtain ⟨tb,to2,hA,UT,-⟩:=yQ;subst hA;have f0:=gL.at_ (i:=dN x.nodes name) (z:=(aV x name:Int)) (by rw [eY] at ha1;rw [jA ha3] at ha1 ⊢;simpa using ha1);have QI:((dN x.nodes name:Nat):Int)<(n0:Int):=by have:=gL.len;omega
  have kC:(0:Int)<=((dN x.nodes name:Nat):Int):=by omega
  have lG:((dN x.nodes name:Nat):Int).toNat=dN x.nodes name:=kU _;have QB:tb<wb.heap.size:=jO UT EV.out.hs;obtain ⟨y0,y1,y2,y3,y4,y5,nf,nlt⟩:=a_ P0.o;dsimp only at y0 y1 y2 y3 y4 y5;have k1:=P2.o.cell 1;have k0:=P2.o.cell 0;have kl:=P2.o.lt;have b0:=EV.out.box.cell 0;have bl:=EV.out.box.lt;have g0:wb.cell? ⟨g,0,none⟩=some (.slice (some ⟨tb,to2,none⟩) n0 c0):=EV.out.md.cell 0;have gl:=EV.out.md.lt;clear JI DG ha1 ha2 ha3 hm gL UT;generalize dN x.nodes name=ia at *;generalize hK:aV x name=bus at *;have aGa:=lH hK;clear hK
  go_wp2_with fail
  go_quiet ((go_at_call_of 91 (Value.string name);exact (HA.o _).mono (fun _ _ hh=>⟨hh.1,_,hh.2⟩)))
  have hd:=bC (Below.refl wb.heap.size wb) nq;replace EV:=lH (EV.out.oth (eS hd));replace IT:=lH (IT.o.up hd);replace P2:=lH (P2.o.bl hd);replace P3:=lH (P3.o.bl hd);replace yH:=lH (bC yH.o nq);clear y0 y1 y2 y3 y4 y5 nf nlt;clear hd k0 k1 kl b0 bl g0 gl f0 HA QI kC lG QB hkB P0 HX;generalize wb.drewN nq=wd at *;have k0:=P2.o.cell 0;have kl:=P2.o.lt;have JO:Hid ((jX n1).length=n1):=lH (by simp [jX])
  by_cases AW:kind=2
  ·subst AW
   obtain ⟨xe,hx,c0,c1,c2',c3',hv,l1,f1⟩:=IT.o.elem (j:=bus) (by rw [JO.o];exact HBN.o);have D8:=lH hx;have q0:=IT.o.blk.cell 0;rw [JO.o] at q0;have ql:=IT.o.blk.lt;have sS:(bus:Int)<(n1:Int):=by have:=HBN.o;omega
   have sU:=lZ bus
   have sR:=kU bus;have bK:=lH (aD (Below.refl wd.heap.size wd));clear hx hv
   go_upto_region 8 with fail
   clear k0 kl;refine aJ (S:=fun w'=>Below wd.heap.size wd w') 5 _ (by kernel_rfl) (by kernel_rfl) rfl (aD bR) (fun hHeld=>?_);simp only [lA,List.take_zero];refine aL 0 rfl ?_;refine aL 1 rfl ?_;refine aL 2 rfl ?_;refine aU 3 (by kernel_rfl) rfl (fun K hK=>?_);go_simp;refine (nT 1 wd.drew (by decide) (by decide)).mono ?_;rintro e w8 ⟨e_,v8,rfl,h8⟩;have dF:Hid (Below wd.heap.size wd w8):=lH (bK.o.tm e_);have H8:Hid (dL w8 w8.heap.size 1 v8):=lH h8;clear e_ h8;go_simp;refine hK.out _ _ ?_ (fun hHeld=>?_)
   ·exact dF.o
   clear hK K
   try simp only [Act.put,bP,bO,bN]
   refine aL 4 rfl ?_;refine wpAnyH_done (by kernel_rfl) ?_ _;refine aP (by rfl) ?_;clear hHeld;have tX:=lH (IT.o.up dF.o);have oY:Hid (AM gf gc wd w8):=lH (eS dF.o);clear c0 c1 c2' c3' l1 f1 q0 ql IT bK dF;obtain ⟨c0,c1,c2',c3',l1,f1⟩:=tX.o.elem2 D8.o
   go_upto_region 9 with fail
   clear c0 c1 c2' c3' l1 f1;have HF:=lH (tX.o.put (j:=bus) (by rw [JO.o];exact HBN.o) H8.o);have HO:Hid (AM gf gc wd (gB w8 gc bus v8)):=lH (oY.o.trans zO);clear tX oY H8 D8 sS sU sR;simp only [gB] at HF HO;generalize (((w8.setCell ⟨gc,bus*4,none⟩ _).setCell ⟨gc,bus*4+1,none⟩ _).setCell ⟨gc,bus*4+2,none⟩ _).setCell ⟨gc,bus*4+3,none⟩ _=we at *;replace yH:=lH yH.o;have J2:Hid (aS x ⟨2,name,txt,wt⟩=((jX n1).set bus 1,0)):=lH (by unfold aS;rw [if_neg (show ¬(2:Int)=0 by decide),if_pos rfl,eN.o];simp only [aGa.o]);have mH:Hid (((jX n1).set bus 1).length=n1):=lH (by rw [lF];exact JO.o);have HL:Hid (Below w.heap.size w we):=lH (yH.o.trans (HO.o.below (by have:=dW.o;have:=eP.o;omega) (by have:=dW.o;have:=tZ.o.1;omega) yH.o.size))
   have P3b:Hid (aG we (w.heap.size+1+1+1) 117 #[.slice none 0 0,.bool false,.slice none 0 0,.bool false,.slice none 0 0]):=lH (HO.o.blk P3.o (by have:=dW.o;have:=eP.o;omega) (by have:=dW.o;have:=tZ.o.1;omega));have HPC:Hid (gc≠w.heap.size+1+1+1):=lH (by have:=dW.o;have:=tZ.o.1;omega);have q0:=HF.o.blk.cell 0;have q1:=HF.o.blk.cell 1;have q2:=HF.o.blk.cell 2;have q3:=HF.o.blk.cell 3;have q4:=HF.o.blk.cell 4;rw [mH.o] at q0;have z0:=P3b.o.cell 0;have z1:=P3b.o.cell 1;have z2:=P3b.o.cell 2;have z3:=P3b.o.cell 3;have z4:=P3b.o.cell 4;have ql:=HF.o.blk.lt;have zl:=P3b.o.lt;have zf:=P3b.o.frozen
   go_wp2_with fail
   have tN:=lH (lJ (gc:=gc) (n:=n1) (u:=u) P3b.o);clear q0 z0 q1 z1 q2 z2 q3 z3 q4 z4 ql zl zf;have p0:=tN.o.cell 0;have p1:=tN.o.cell 1;have p2:=tN.o.cell 2;have p3:=tN.o.cell 3;have p4:=tN.o.cell 4;unfold put5 at p0 p1 p2 p3 p4;refine bodyPost_ret (v:=.agg #[.slice (some ⟨gc,0,none⟩) n1 n1,.bool u.b1,.slice u.A u.n u.c,.bool u.b2,.slice u.A2 u.m u.d]) (by simp [results,Tryz.results63,go_sem,p0,p1,p2,p3,p4]) rfl ?_;refine ⟨iE (gc:=gc) (n:=n1) (u:=u) HL.o (by omega),gc,u,by rw [eN.o],?_,?_⟩
   ·have h:=HF.o.rdq P3b.o HPC.o (n:=n1) (y:=u)
    rw [eN.o,J2.o];rw [mH.o] at h;exact h
   ·rw [J2.o]
    exact HF.o.val.keep5 P3b.o (gc:=gc) (n:=n1) (u:=u)
  ·have aMb:(kind == 2)=false:=by simp [AW]
   have b0:=EV.out.box.cell 0;have bl:=EV.out.box.lt;have g4:wd.cell? ⟨g,4,none⟩=some (.slice A4 n4 c4):=EV.out.md.cell 4;have gl:=EV.out.md.lt;have J2:Hid (aS x ⟨kind,name,txt,wt⟩=pJ bus (mB x) (mC x) (gV x) (B7 x) (jX n1,0)):=lH (by unfold aS;rw [if_neg (show ¬kind=0 from hk),if_neg (show ¬kind=2 from AW),eN.o];simp only [aGa.o]);generalize hRR:pJ bus (mB x) (mC x) (gV x) (B7 x) (jX n1,0)=RR at *;have tU:=lH hRR;clear hRR;have m6:Hid (x.brs.length=n4):=lH (by rw [<-qV];exact EV.out.rd.r4.len);have iL:Hid (x.brs.length=n2):=lH (by rw [<-oR,<-gU];exact EV.out.rd.r2.len);have wJ:Hid (x.brs.length=n3):=lH (by rw [<-wB,<-gU];exact EV.out.rd.r3.len);have X5:n4<=24:=by have:=cH.o.l2;have:=m6.o;omega
   go_wp2_with fail
   clear k0 kl aMb b0 bl g4 gl
   go_loopw [53] (fun v53 wr=>∃ (k:Nat) (vs:List Rv) (u2:Rv) (s:List Rat×Rat),k<=n4/\v53=.int .i64 k/\AM gf gc wd wr/\CV wr gf gc vs u2 s.1 s.2/\N_ n1 (2+12*k) s/\pJ bus ((mB x).drop k) ((mC x).drop k) ((gV x).drop k) ((B7 x).drop k) s=RR) (fun v53 _=>n4-(intOf v53).toNat)
   case atStart=>exact ⟨0,_,_,(jX n1,0),by omega,rfl,eS bR,IT.o,E9 n1,tU.o⟩
   case round=>
    clear IT tU;obtain ⟨k,vs,u2,s,hk,rfl,ho,hf,pY,nP⟩:=hrel;have HO:=lH ho;have HF:=lH hf;have IR:=lH pY;have jB:=lH nP;clear ho hf pY nP
    by_cases aW:k<n4
    ·obtain ⟨b,hb⟩:∃ b,x.brs[k]?=some b:=eO (by have:=m6.o;omega)
     have qS:=lH hb;obtain ⟨a1,a2,a3,a4⟩:=lO hb;have gR:=lH ((GI (s:=s) (bus:=bus) a3 a4 a1 a2).symm.trans jB.o);have SZ:=lH a1;have HTO:=lH a2;clear hb a1 a2 a3 a4 jB;have fT:(k:Int)<(n4:Int):=by omega
     have aP1:(k:Int)<(n2:Int):=by have:=iL.o;have:=m6.o;omega
     have aP0:(k:Int)<(n3:Int):=by have:=wJ.o;have:=m6.o;omega
     have kF:=lZ k
     have qW:=kU k;have l_:=lN k;have jW:Hid (n4-(k+1)<n4-k):=lH (by omega);have HK6:Hid (2+12*k+6<=1000000):=lH (by omega);generalize M6:aV x b.fr=bu at *;generalize QN:aV x b.to=bv at *;have SC:=lH M6;have AT:=lH QN;clear M6 QN;have HE:=lH (EV.out.oth HO.o);have qJ:=HE.o.rd.r2;simp only at qJ;have yC:=qJ.2 (by have:=iL.o;have:=m6.o;omega);obtain ⟨fb2,fo2,hA,uO,-⟩:=yC;subst hA;have f0:=qJ.at_ (iT SZ.o);have wD:fb2<wr.heap.size:=jO uO HE.o.hs;have b0:=HE.o.box.cell 0;have bl:=HE.o.box.lt;have g0:wr.cell? ⟨g,2,none⟩=some (.slice (some ⟨fb2,fo2,none⟩) n2 c2):=HE.o.md.cell 2;have gl:=HE.o.md.lt;clear qJ uO;unfold lP at gR;dsimp only at gR
     by_cases hu:bu=bus
     ·have huB:((bu:Int) == (bus:Int))=true:=by simp [hu]
      rw [if_pos hu] at gR
      go_wp2_with fail
      refine (nK (s:=s) HE.o HF.o IR.o (by have:=HK6.o;omega) eN.o.symm h8 cH.o qS.o false).mono ?_;rintro e w7 ⟨rfl,ho7,vs7,u7,hf7⟩;rw [SC.o,AT.o] at hf7;replace IR:=lH (oH cH.o (s:=s) IR.o eN.o.symm qS.o false);rw [SC.o,AT.o] at IR;replace HO:=lH (HO.o.trans ho7);replace HF:=lH hf7;clear ho7 hf7 huB;clear f0 wD b0 bl g0 gl HE;have HE:=lH (EV.out.oth HO.o);have qJ:=HE.o.rd.r3;simp only at qJ;have yC:=qJ.2 (by have:=wJ.o;have:=m6.o;omega);obtain ⟨fb3,fo3,hA,uO,-⟩:=yC;subst hA;have f0:=qJ.at_ (iT HTO.o);have wD:fb3<w7.heap.size:=jO uO HE.o.hs;have b0:=HE.o.box.cell 0;have bl:=HE.o.box.lt;have g0:w7.cell? ⟨g,3,none⟩=some (.slice (some ⟨fb3,fo3,none⟩) n3 c3):=HE.o.md.cell 3;have gl:=HE.o.md.lt;clear qJ uO
      by_cases hv:bv=bus
      ·have hvB:((bv:Int) == (bus:Int))=true:=by simp [hv]
       go_wp2_with fail
       refine (nK (s:=(l9 (sg false (gQ b)) bu bv s.1,s.2+sg false (nI b))) HE.o HF.o IR.o (by have:=HK6.o;omega) eN.o.symm h8 cH.o qS.o true).mono ?_;rintro e w9 ⟨rfl,ho9,vs9,u9,U7⟩;rw [SC.o,AT.o] at U7;have IQ:=lH (oH cH.o (s:=(l9 (sg false (gQ b)) bu bv s.1,s.2+sg false (nI b))) IR.o eN.o.symm qS.o true);rw [SC.o,AT.o] at IQ;have DL:=lH (HO.o.trans ho9);have N2:=lH U7;clear ho9 U7 f0 wD b0 bl g0 gl;rw [if_pos hv] at gR
       go_wp2_with fail
       go_roundw
       case rel=>exact ⟨k+1,_,_,_,aW,aQ l_.o,DL.o,N2.o,IQ.o.mono (by omega),gR.o⟩
       case measure=>exact jW.o
      ·have hvB:((bv:Int) == (bus:Int))=false:=by simp;omega
       rw [if_neg hv] at gR
       go_wp2_with fail
       go_roundw
       case rel=>exact ⟨k+1,_,_,_,aW,aQ l_.o,HO.o,HF.o,IR.o.mono (by omega),gR.o⟩
       case measure=>exact jW.o
     ·have huB:((bu:Int) == (bus:Int))=false:=by simp;omega
      rw [if_neg hu] at gR
      go_upto_region 15 with fail
      clear huB;clear f0 wD b0 bl g0 gl HE;have HE:=lH (EV.out.oth HO.o);have qJ:=HE.o.rd.r3;simp only at qJ;have yC:=qJ.2 (by have:=wJ.o;have:=m6.o;omega);obtain ⟨fb3,fo3,hA,uO,-⟩:=yC;subst hA;have f0:=qJ.at_ (iT HTO.o);have wD:fb3<wr.heap.size:=jO uO HE.o.hs;have b0:=HE.o.box.cell 0;have bl:=HE.o.box.lt;have g0:wr.cell? ⟨g,3,none⟩=some (.slice (some ⟨fb3,fo3,none⟩) n3 c3):=HE.o.md.cell 3;have gl:=HE.o.md.lt;clear qJ uO
      by_cases hv:bv=bus
      ·have hvB:((bv:Int) == (bus:Int))=true:=by simp [hv]
       go_wp2_with fail
       refine (nK (s:=s) HE.o HF.o IR.o (by have:=HK6.o;omega) eN.o.symm h8 cH.o qS.o true).mono ?_;rintro e w9 ⟨rfl,ho9,vs9,u9,U7⟩;rw [SC.o,AT.o] at U7;have IQ:=lH (oH cH.o (s:=s) IR.o eN.o.symm qS.o true);rw [SC.o,AT.o] at IQ;have DL:=lH (HO.o.trans ho9);have N2:=lH U7;clear ho9 U7 f0 wD b0 bl g0 gl;rw [if_pos hv] at gR
       go_wp2_with fail
       go_roundw
       case rel=>exact ⟨k+1,_,_,_,aW,aQ l_.o,DL.o,N2.o,IQ.o.mono (by omega),gR.o⟩
       case measure=>exact jW.o
      ·have hvB:((bv:Int) == (bus:Int))=false:=by simp;omega
       rw [if_neg hv] at gR
       go_wp2_with fail
       go_roundw
       case rel=>exact ⟨k+1,_,_,_,aW,aQ l_.o,HO.o,HF.o,IR.o.mono (by omega),gR.o⟩
       case measure=>exact jW.o
    ·have lS:k=n4:=by omega
     have HS:Hid (s=RR):=lH (by have h:=jB.o;rw [List.drop_eq_nil_of_le (by rw [qV];have:=m6.o;omega)] at h;exact h);have mH:Hid (s.1.length=n1):=lH IR.o.len;replace J2:Hid (aS x ⟨kind,name,txt,wt⟩=(s.1,s.2)):=lH (by rw [J2.o,<-HS.o]);have fT:¬(k:Int)<(n4:Int):=by omega
     clear jB HS lS aW hk;have HL:Hid (Below w.heap.size w wr):=lH (yH.o.trans (HO.o.below (by have:=dW.o;have:=eP.o;omega) (by have:=dW.o;have:=tZ.o.1;omega) yH.o.size));have P3b:Hid (aG wr (w.heap.size+1+1+1) 117 #[.slice none 0 0,.bool false,.slice none 0 0,.bool false,.slice none 0 0]):=lH (HO.o.blk P3.o (by have:=dW.o;have:=eP.o;omega) (by have:=dW.o;have:=tZ.o.1;omega));have HPC:Hid (gc≠w.heap.size+1+1+1):=lH (by have:=dW.o;have:=tZ.o.1;omega);have q0:=HF.o.blk.cell 0;have q1:=HF.o.blk.cell 1;have q2:=HF.o.blk.cell 2;have q3:=HF.o.blk.cell 3;have q4:=HF.o.blk.cell 4;rw [mH.o] at q0;have z0:=P3b.o.cell 0;have z1:=P3b.o.cell 1;have z2:=P3b.o.cell 2;have z3:=P3b.o.cell 3;have z4:=P3b.o.cell 4;have ql:=HF.o.blk.lt;have zl:=P3b.o.lt;have zf:=P3b.o.frozen
     go_wp2_with fail
     have tN:=lH (lJ (gc:=gc) (n:=n1) (u:=u2) P3b.o);clear q0 z0 q1 z1 q2 z2 q3 z3 q4 z4 ql zl zf;have p0:=tN.o.cell 0;have p1:=tN.o.cell 1;have p2:=tN.o.cell 2;have p3:=tN.o.cell 3;have p4:=tN.o.cell 4;unfold put5 at p0 p1 p2 p3 p4;refine bodyPost_ret (v:=.agg #[.slice (some ⟨gc,0,none⟩) n1 n1,.bool u2.b1,.slice u2.A u2.n u2.c,.bool u2.b2,.slice u2.A2 u2.m u2.d]) (by simp [results,Tryz.results63,go_sem,p0,p1,p2,p3,p4]) rfl ?_;refine ⟨iE (gc:=gc) (n:=n1) (u:=u2) HL.o (by omega),gc,u2,by rw [eN.o],?_,?_⟩
     ·have h:=HF.o.rdq P3b.o HPC.o (n:=n1) (y:=u2)
      rw [eN.o,J2.o];rw [mH.o] at h;exact h
     ·rw [J2.o]
      exact HF.o.val.keep5 P3b.o (gc:=gc) (n:=n1) (u:=u2)
theorem XZ:(Tryz.prog.info? 93).map (fun i=>(i.zero,i.size,i.bytes))=some (some (.slice none 0 0),1,24):=by kernel_rfl
structure gF (w:Wo) (base:Nat) (v:Value) (hs:List Hd) (M:List (List Rat)):Prop where
 own:bJ oX w base 93 1 v hs.length (hs.map Hd.val)
 len:hs.length=M.length
 rows:∀ (i:Nat) (h:Hd) (q:List Rat),hs[i]?=some h->M[i]?=some q->∃ B us,fH w B h.val us q
theorem FV (w:Wo) (base:Nat):gF w base (.slice none 0 0) [] []:=⟨dO _ _ _ _ _,rfl,fun i h q hh=>by simp at hh⟩
theorem fH.blkS {w w':Wo} {B b:Nat} {v:Value} {us:List Rv} {q:List Rat} (h:fH w B v us q) (k:dY oX b 93 w w'):fH w' B v us q:=⟨h.own.blk k (by decide),h.len,fun i p x hp hx=>(h.ok i p x hp hx).keeps k⟩
theorem gF.keep {w w':Wo} {base:Nat} {v:Value} {hs:List Hd} {M:List (List Rat)} (m:gF w base v hs M) (hb:Below w.heap.size w w'):gF w' base v hs M:=⟨m.own.keep hb,m.len,fun i h q hh hq=>by
 obtain ⟨B,us,k⟩:=m.rows i h q hh hq;exact ⟨B,us,k.keep hb⟩⟩
theorem gF.app {w w':Wo} {base B:Nat} {v v':Value} {hs:List Hd} {M:List (List Rat)} {z:Hd} {us:List Rv} {p:List Rat} (m:gF w base v hs M) (hp:fH w B z.val us p) (h1:bJ oX w' base 93 1 v' (hs.length+1) (hs.map Hd.val++[z.val])) (k:dY oX base 93 w w'):gF w' base v' (hs++[z]) (M++[p]):=by
 refine ⟨by rw [iC,List.length_singleton,List.map_append];exact h1,by rw [iC,iC,m.len];rfl,fun i h q hh hq=>?_⟩
 by_cases hi:i<M.length
 ·rw [xQ hi] at hq
  rw [xQ (by rw [m.len];exact hi)] at hh;obtain ⟨B,us,r⟩:=m.rows i h q hh hq;exact ⟨B,us,r.blkS k⟩
 ·rw [AZ (by omega)] at hq
  rw [AZ (by rw [m.len];omega),m.len] at hh;have DG:=(dP.1 hq).1;rw [List.length_singleton] at DG;have:i-M.length=0:=by omega
  rw [this] at hq hh;simp at hq hh;subst hq;subst hh;exact ⟨B,us,hp.blkS k⟩
theorem gF.rd {w:Wo} {base:Nat} {v:Value} {hs:List Hd} {M:List (List Rat)} (m:gF w base v hs M):∃ A c,v=.slice A M.length c/\jZ w w.heap.size A M.length M/\M.length<=c/\c<=maxLen:=by
 obtain ⟨A,c,hv,hr,h1,h2,h3⟩:=sL m.own.own;rw [m.len] at hv hr h1;refine ⟨A,c,hv,⟨hs,m.len,rfl,hr,fun i h q hh hq=>?_⟩,h1,h2⟩;obtain ⟨B,us,k⟩:=m.rows i h q hh hq;obtain ⟨A',c',e,r,k1,k2,_⟩:=k.rd;unfold Hd.val at e;injection e with e1 e2 e3;rw [e1,e2,e3];exact ⟨r,k1,k2⟩
theorem xE {ops:Array Oper} {rest:List Oper} {o:Oper} {a:Act} {Q:Exit->Act->World->Prop} {w:Wo} {T:TypeId} (CE:o.guard=none) (s x:Operand) (t:TypeId)
    (ho:o.op=.call { callee:=.builtin .append,args:=#[s,x],argTypes:=#[t,t] }) (base:Nat)
    (ht:Tryz.prog.underlying t=some (.slice 93))
    (v:Value) (hs:List Hd) (M:List (List Rat)) (hsv:a.eval s=v) (bF:gF w base v hs M) (B:Nat) (z:Value) (us:List Rv) (p:List Rat) (hp:fH w B z us p)
    (hx:a.eval x=.slice (some ⟨w.heap.size,0,none⟩) 1 1) (wX:M.length<=1000000000) (c_:base<=w.heap.size)
    (h:∀ v' w' hs',gF w' base v' hs' (M++[p])->Below base w w'->wpList Tryz.prog ops Q rest (a.put o.dst v') w') :
    wpList Tryz.prog ops Q (o::rest) a (w.alloc (.cells #[z] T)):=by
 obtain ⟨i0,kC,oE,kK,lQ⟩:=info_parts XZ;have hl:=bF.len;obtain ⟨A,c,e,_⟩:=hp.rd;subst e;refine qA (S:=oX) CE s x t ho base 93 i0 _ 1 24 ht kC oE kK lQ rfl (by omega) (fun u hu=>?_) v hs.length (hs.map Hd.val) hsv bF.own hx rfl (fun u hu=>?_) (by simp only [maxLen];omega) (by omega) c_ fun v' w' h1 h2 _=>?_
 ·have QA:u∈[Value.slice none 0 0]:=hu
  rw [List.mem_singleton.1 QA];exact fun k x h=>by cases h
 ·have QA:u∈[Value.slice A p.length c]:=hu
  rw [List.mem_singleton.1 QA];exact ⟨rfl,fun k x h=>by cases h⟩
 have hb:Below w.heap.size w (w.alloc (.cells #[.slice A p.length c] T)):=bA;exact h v' w' (hs++[⟨A,p.length,c⟩]) (gF.app (bF.keep hb) (z:=⟨A,p.length,c⟩) (hp.keep hb) h1 h2) ((hb.mono c_).trans h2.low)
def aR (x:bE) (ms:List Mi):List (List Rat):=ms.map fun m=>f_ x (aS x m).1
def nV (x:bE) (m:Mi):Prop:=(m.kind=0->0<=lY x m.name)/\(m.kind≠0->m.name∈x.nodes)
theorem O8 {x:bE} {ms:List Mi} {k:Nat} {mi:Mi} (h:ms[k]?=some mi):(aR x ms).take (k+1)=(aR x ms).take k++[f_ x (aS x mi).1]:=by
 have h2:(aR x ms)[k]?=some (f_ x (aS x mi).1):=by unfold aR;rw [kI,h];rfl
 exact kJ h2
def YK (A:List (List Rat)) (a b:Nat):Rat:=vf (A.getD a []) b
theorem E2 {A:List (List Rat)} {a b:Nat} {r:List Rat} (h:A[a]?=some r):YK A a b=vf r b:=by
 unfold YK;rw [eY,h];rfl
theorem aGX {l:List Rat} {j b:Nat} {q:Rat} (hj:j<l.length):vf (l.set j q) b=if b=j then q else vf l b:=by
 unfold vf;rw [eY,eY,List.getElem?_set]
 by_cases h:j=b
 ·subst h;rw [if_pos rfl,if_pos hj,if_pos rfl];rfl
 ·rw [if_neg h,if_neg (fun e=>h e.symm)]
theorem aIE {A:List (List Rat)} {i j n:Nat} {q:Rat} (hl:A.length=n) (hw:∀ a∈A,a.length=n) (hi:i<n) (hj:j<n) (a b:Nat):YK (fA A i j q) a b=if a=i/\b=j then YK A a b+q else YK A a b:=by
 obtain ⟨r,hr⟩:∃ r,A[i]?=some r:=eO (by omega);have rX:=hw r (cO hr);rw [hZ hr];unfold YK;rw [eY,eY,List.getElem?_set]
 by_cases h:i=a
 ·subst h
  rw [if_pos rfl,if_pos (by omega),hr];show vf (r.set j (vf r j+q)) b=_;rw [aGX (by omega)]
  by_cases h2:b=j
  ·subst h2;rw [if_pos rfl,if_pos ⟨rfl,rfl⟩];rfl
  ·rw [if_neg h2,if_neg (fun e=>h2 e.2)];rfl
 ·rw [if_neg h,if_neg (fun e=>h e.1.symm)]
structure nN (n K:Nat) (wt:Rat) (q:List Rat) (A0 A:List (List Rat)) (i j:Nat):Prop where
 old:kA n K A0
 len:A.length=n
 wid:∀ a∈A,a.length=n
 val:∀ a b,a<n->b<n->YK A a b=YK A0 a b+(if a<i\/(a=i/\b<j) then wt*vf q a*vf q b else 0)
section
variable {n K i j:Nat} {wt:Rat} {q:List Rat} {A0 A:List (List Rat)}
theorem nN.start (h:kA n K A0):nN n K wt q A0 A0 0 0:=⟨h,h.len,h.wid,fun a b _ _=>by rw [if_neg (by omega),Rat.add_zero]⟩
theorem nN.row (h:nN n K wt q A0 A i n):nN n K wt q A0 A (i+1) 0:=⟨h.old,h.len,h.wid,fun a b ha hb=>by
 rw [h.val a b ha hb]
 by_cases h1:a<i\/(a=i/\b<n)
 ·rw [if_pos h1,if_pos (by omega)]
 ·rw [if_neg h1,if_neg (by omega)]⟩
theorem nN.add (h:nN n K wt q A0 A i j) (hi:i<n) (hj:j<n):nN n K wt q A0 (fA A i j (wt*vf q i*vf q j)) i (j+1):=
 ⟨h.old,LW.trans h.len,LV h.wid (by rw [h.len];exact hi),fun a b ha hb=>by
  rw [aIE h.len h.wid hi hj,h.val a b ha hb]
  by_cases h1:a=i/\b=j
  ·rw [if_pos h1,if_neg (by omega),if_pos (by omega),h1.1,h1.2,Rat.add_zero]
  ·rw [if_neg h1]
   by_cases h2:a<i\/(a=i/\b<j)
   ·rw [if_pos h2,if_pos (by omega)]
   ·rw [if_neg h2,if_neg (by omega)]⟩
theorem nN.skip (h:nN n K wt q A0 A i j) (h0:vf q i=0\/vf q j=0):nN n K wt q A0 A i (j+1):=
 ⟨h.old,h.len,h.wid,fun a b ha hb=>by
  rw [h.val a b ha hb]
  by_cases h1:a=i/\b=j
  ·rw [if_neg (by omega),if_pos (by omega),h1.1,h1.2]
   rcases h0 with h0 | h0<;>rw [h0]<;>grind
  ·by_cases h2:a<i\/(a=i/\b<j)
   ·rw [if_pos h2,if_pos (by omega)]
   ·rw [if_neg h2,if_neg (by omega)]⟩
theorem nN.bd (h:nN n K wt q A0 A i j) {e:Nat} (he:∀ a b,a<n->b<n->bU (wt*vf q a*vf q b)<=e):kA n (K+e+1) A:=⟨h.len,h.wid,fun a ha x hx=>by
 obtain ⟨i1,h1⟩:=List.mem_iff_getElem?.1 ha;obtain ⟨j1,h2⟩:=List.mem_iff_getElem?.1 hx;have l1:=(dP.1 h1).1;have l2:=(dP.1 h2).1;rw [h.len] at l1;rw [h.wid a ha] at l2;have hv:=h.val i1 j1 l1 l2;rw [E2 h1,iA h2] at hv;obtain ⟨r,hr⟩:∃ r,A0[i1]?=some r:=eO (by rw [h.old.len];exact l1);have h3:=h.old.bd.vf hr (j:=j1) (by rw [h.old.wid r (cO hr)];exact l2);rw [E2 hr] at hv;rw [hv]
 by_cases h4:i1<i\/(i1=i/\j1<j)
 ·rw [if_pos h4]
  have h5:=kM (vf r j1) (wt*vf q i1*vf q j1);have h6:=he i1 j1 l1 l2;omega
 ·rw [if_neg h4,Rat.add_zero]
  omega⟩
end
theorem UN {x:bE} (ok:cN x) {n K bus:Nat} {s:List Rat×Rat} (hs:N_ n K s) (hn:n=aI x) {b:Br} (hb:b∈x.brs):N_ n (K+12) (lP bus (aV x b.fr) (aV x b.to) (gQ b) (nI b) s):=by
 obtain ⟨k,hk⟩:=List.getElem?_of_mem hb;unfold lP;dsimp only;have h1:N_ n (K+6) (if aV x b.fr=bus then (l9 (sg false (gQ b)) (aV x b.fr) (aV x b.to) s.1,s.2+sg false (nI b)) else s):=by
  split
  ·exact oH ok hs hn hk false
  ·exact hs.mono (by omega)
 split
 ·exact oH ok h1 hn hk true
 ·exact h1.mono (by omega)
theorem P5 {x:bE} (ok:cN x) {n bus:Nat} (hn:n=aI x):∀ (bs:List Br) (K:Nat) (s:List Rat×Rat),(∀ b∈bs,b∈x.brs)->N_ n K s->N_ n (K+12*bs.length) (pJ bus (bs.map gQ) (bs.map nI) (bs.map fun b=>aV x b.fr) (bs.map fun b=>aV x b.to) s)
 | [],K,s,_,hs=>hs
 | b::bs,K,s,h,hs=>by
  have h1:=P5 ok (bus:=bus) hn bs (K+12) _ (fun a ha=>h a (List.mem_cons_of_mem _ ha)) (UN ok (bus:=bus) hs hn (h b List.mem_cons_self));refine N_.mono (K:=K+12+12*bs.length) h1 ?_;rw [E_];omega
theorem lV {x:bE} (ok:cN x) {m:Mi} (hm:nV x m):N_ (aI x) 300 (aS x m):=by
 have hz:=E9 (aI x);have hl:=ok.l2;unfold aS
 split
 ·rename_i h0
  have h1:=hm.1 h0;rcases pP x m.name with ⟨e,_⟩ | ⟨i,b,e,hb,_⟩
  ·omega
  ·obtain ⟨a1,a2,a3,a4⟩:=lO hb
   have h2:=oH ok hz rfl hb false;simp only [e,kU,eY,vf,a1,a2,a3,a4];exact h2.mono (by omega)
 ·split
  ·rename_i h0 h2
   have hq:bU (1:Rat)<=2:=dV 1 (by decide) (by decide);refine ⟨by rw [lF];exact hz.len,fun p hp=>?_,cV hz.fr (by decide)⟩;rcases List.mem_or_eq_of_mem_set hp with e | e
   ·exact cV (hz.cf p e) (by decide)
   ·rw [e];exact cV hq (by decide)
  ·have h:=P5 ok (bus:=aV x m.name) rfl x.brs 2 _ (fun b hb=>hb) hz
   have e1:gV x=x.brs.map fun b=>aV x b.fr:=by unfold gV NJ;rw [List.map_map];rfl
   have e2:B7 x=x.brs.map fun b=>aV x b.to:=by unfold B7 NJ;rw [List.map_map];rfl
   rw [e1,e2];exact h.mono (by omega)
theorem nC {x:bE} {q:List Rat}:(f_ x q).length=(aA x).length:=by unfold f_;rw [lB]
theorem gT {x:bE} (ok:cN x) {ms:List Mi} (hm:∀ m∈ms,nV x m):(∀ a∈aR x ms,a.length=(aA x).length)/\∀ a∈aR x ms,∀ q∈a,bU q<=300:=by
 refine ⟨fun a ha=>?_,fun a ha q hq=>?_⟩<;>(unfold aR at ha;obtain ⟨m,pS,rfl⟩:=List.mem_map.1 ha)
 ·exact nC
 ·unfold f_ at hq
  obtain ⟨j,hj,rfl⟩:=List.mem_map.1 hq;have h:=lV ok (hm m pS);exact h.cf _ (cO (bI (by rw [h.len];exact uS hj)))
theorem iU {x:bE} {ms:List Mi} (h:b6 x ms=0):cN x/\ms.length<=64/\∀ m∈ms,nV x m:=by
 unfold b6 at h
 split at h
 ·exact absurd h (by assumption)
 ·rename_i hn
  have hn:fK x=0:=by omega
  split at h
  ·omega
  ·refine ⟨zQ hn,by omega,fun m hm=>?_⟩
   have h1:=zU h m hm;unfold DW at h1
   split at h1
   ·omega
   ·split at h1
    ·omega
    ·rename_i hb
     refine ⟨fun h0=>?_,fun h0=>?_⟩
     ·exact Int.not_lt.1 fun e=>hb (.inl ⟨h0,e⟩)
     ·have h2:¬(x.nodes.any fun y=>pR m.name y)=false:=fun e=>hb (.inr ⟨h0,e⟩)
      have h3:(x.nodes.any fun y=>pR m.name y)=true:=by simpa using h2
      obtain ⟨y,hy,he⟩:=List.any_eq_true.1 h3;rw [sK.1 he];exact hy
theorem aES (A:OA) (n c:Nat) (u:Rv) (q:List Rat) (z:Rat) (B:OA) (m d:Nat) (al:List Rat) (w:Wo) (hq:iF w w.heap.size A n q) (hz:dL w w.heap.size z u) (ha:iF w w.heap.size B m al) (I1:n<=m) (hn:n<=8) (h1:∀ p∈q,bU p<=1000000000000) (h2:∀ p∈al,bU p<=1000000000000) (h3:bU z<=1000000000000) :
    Calls Tryz.prog 64 #[.agg #[.slice A n c,.bool u.b1,.slice u.A u.n u.c,.bool u.b2,.slice u.A2 u.m u.d],.slice B m d] w (QP (jJ q al+z) w):=by
 have K0:Below w.heap.size w ((w.alloc (.cells #[.slice A n c,.bool u.b1,.slice u.A u.n u.c,.bool u.b2,.slice u.A2 u.m u.d] 117)).alloc (.cells #[.bool false,.slice none 0 0,.bool false,.slice none 0 0] 115)):=(bA).alloc (by simp) _;have HK:=lH K0;have PF:=lH ((aG.new w 117 #[.slice A n c,.bool u.b1,.slice u.A u.n u.c,.bool u.b2,.slice u.A2 u.m u.d]).alloc (.cells #[.bool false,.slice none 0 0,.bool false,.slice none 0 0] 115));have PB:Hid (aG ((w.alloc (.cells #[.slice A n c,.bool u.b1,.slice u.A u.n u.c,.bool u.b2,.slice u.A2 u.m u.d] 117)).alloc (.cells #[.bool false,.slice none 0 0,.bool false,.slice none 0 0] 115)) (w.heap.size+1) 115 #[.bool false,.slice none 0 0,.bool false,.slice none 0 0]):=lH (aG.new_ (by simp));have HQ:=lH (hq.up K0);have HZ:=lH (hz.up K0);have HA:=lH (ha.up K0);have H1:=lH h1;have H2:=lH h2;have H3:=lH h3
 have dW:Hid (w.heap.size+1<((w.alloc (.cells #[.slice A n c,.bool u.b1,.slice u.A u.n u.c,.bool u.b2,.slice u.A2 u.m u.d] 117)).alloc (.cells #[.bool false,.slice none 0 0,.bool false,.slice none 0 0] 115)).heap.size):=lH (by simp);have mH:Hid (q.length=n):=lH hq.len;have HDS:Hid (bU (jJ q al)+bU z+1<=35184372088832):=lH (by
  have h:=nG (n:=n) (Z:=1000000000000) hq.len h1 h2 n lR;rw [nW (by rw [List.length_zipWith,hq.len];exact Nat.min_le_left _ _)] at h;have h':bU (jJ q al)<=n*(2*1000000000000+1)+1:=h;have:n*(2*1000000000000+1)<=8*(2*1000000000000+1):=Nat.mul_le_mul_right _ hn;omega)
 have HD2:Hid (n*(2*1000000000000+1)+2*1000000000000+2<=35184372088832):=lH (by omega);clear K0 hq hz ha h1 h2 h3;go_enter Tryz.func64,Tryz.ntmps64
 go_upto_region 1 with fail
 generalize (w.alloc (.cells #[.slice A n c,.bool u.b1,.slice u.A u.n u.c,.bool u.b2,.slice u.A2 u.m u.d] 117)).alloc (.cells #[.bool false,.slice none 0 0,.bool false,.slice none 0 0] 115)=W at *;have y0:=PF.out.cell 0;have y1:=PF.out.cell 1;have y2:=PF.out.cell 2;have y3:=PF.out.cell 3;have y4:=PF.out.cell 4;have yl:=PF.out.lt;refine aJ (S:=fun w'=>Below W.heap.size W w') 7 _ (by kernel_rfl) (by kernel_rfl) rfl (aD bR) (fun hHeld=>?_);simp only [lA,List.take_zero];refine aL 0 rfl ?_;refine aL 1 rfl ?_;refine aL 2 rfl ?_;refine aL 4 rfl ?_;refine aL 5 rfl ?_;clear y0 y1 y2 y3 y4 yl;have yI:=lH (aD (Below.refl W.heap.size W));generalize W.drew=v0 at *;refine aU 3 (by kernel_rfl) rfl (fun K hK=>?_);go_simp
 refine (E3 A n c B m d q al 1000000000000 v0 (HQ.o.up yI.o) (HA.o.up yI.o) I1 (by omega) H1.o H2.o HD2.o).mono ?_;rintro e v1 ⟨bH,x1,rfl,yA⟩;have mZ:Hid (Below W.heap.size W v1):=lH (yI.o.tm bH);have cJ:=lH yA;clear bH yA yI;go_simp;refine hK.out _ _ ?_ (fun hHeld=>?_)
 ·exact mZ.o
 clear hK K
 try simp only [Act.put,bP,bO,bN]
 refine aU 6 (by kernel_rfl) rfl (fun K hK=>?_);go_simp;refine (ID cJ.o (HZ.o.up mZ.o) HDS.o).mono ?_;rintro e v2 ⟨bL,x2,rfl,xJ⟩;have qY:Hid (Below W.heap.size W v2):=lH (mZ.o.tm bL);have dI:=lH xJ;clear bL xJ mZ cJ;go_simp;refine hK.out _ _ ?_ (fun hHeld=>?_)
 ·exact qY.o
 clear hK K
 try simp only [Act.put,bP,bO,bN]
 refine wpAnyH_done (by kernel_rfl) ?_ _;refine aP (by rfl) ?_;clear hHeld;have PC:=lH (PB.out.bl qY.o);have z0:=PC.out.cell 0;have z1:=PC.out.cell 1;have z2:=PC.out.cell 2;have z3:=PC.out.cell 3;have zl:=PC.out.lt;have zf:=PC.out.frozen
 go_wp2_with fail
 clear z0 z1 z2 z3 zl zf;have PD:=lH (qQ (v:=x2) PC.out);have p0:=PD.out.cell 0;have p1:=PD.out.cell 1;have p2:=PD.out.cell 2;have p3:=PD.out.cell 3;unfold DU at p0 p1 p2 p3;refine bodyPost_ret (v:=.agg #[.bool x2.b1,.slice x2.A x2.n x2.c,.bool x2.b2,.slice x2.A2 x2.m x2.d]) (by simp [results,Tryz.results64,go_sem,p0,p1,p2,p3]) rfl ?_;exact ⟨dM (v:=x2) (HK.o.trans (qY.o.mono (by have:=dW.o;omega))) (Nat.le_succ _),x2,rfl,dI.o.keepq PC.out (x:=⟨false,none,0,0,false,none,0,0⟩)⟩
end
