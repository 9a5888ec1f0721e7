import Derived.Test.YthgdchffeigkbaaGreatDoorU20
import Derived.Test.YthgdchffeigkbaaGreatDoorU25
import Derived.Test.YthgdchffeigkbaaGreatDoorU26
set_option linter.unusedVariables false
set_option linter.unusedSimpArgs false
namespace Go.Proofs.YthgdchffeigkbaaGreatDoor
set_option maxHeartbeats 4000000
set_option maxRecDepth 100000
section
open Go.ChangeShapes Go.WideShapes Go.ChangeAt Go.RowKit
attribute [local go_sem ↓] execOp_call_val
attribute [local go_sem] callVal_func setCell_drewN alloc_drewN sEq_walk NetH.cells
theorem indexFuncBr (F:FuncId) (cap:Array Value) (A:Option Addr) (n c:Nat) (zs:List Br) (p:Br→Bool) (I:World→Prop)
    (hF:∀ (args:Array Value) (w:World),(callFunc F args).run Tryz.prog w=.ok (.enter F args) w)
    (hI:∀ w',I w'→RdBr w' w'.heap.size A n zs)
    (hf:∀ (z:Br) (w':World),z∈zs→I w'→Calls Tryz.prog F (#[.agg #[.string z.name,.string z.fr,.string z.to,.int .i64 z.x,.int .i64 z.tap,.int .i64 z.shift,.int .i64 z.limit,.int .i64 z.short,.int .i64 z.hold]]++cap) w' fun e w''=>e=.returned (.bool (p z))∧I w'')
    (hn:n≤9223372036854775807) (w:World) (hw:I w) :
    Calls Tryz.prog 134 #[.slice A n c,.func (.func F) #[] cap] w fun e w'=>e=.returned (.int .i64 (idxGo p zs 0))∧I w':=by
 have HF:=lH hf;have HII:=lH hI;have HI:=lH hw;have hlen:=lH (hI w hw).1;clear hf hw hI;go_enter Tryz.func134,Tryz.ntmps134
 go_wp2_with fail
 go_loopw [5,8] (fun _ i wr=>∃ k:Nat,k≤n∧i=.int .i64 k∧I wr∧idxGo p zs 0=idxGo p (zs.drop k) k) (fun _ i _=>n-(intOf i).toNat)
 case atStart=>exact ⟨0,by omega,rfl,HI.o,rfl⟩
 case round=>
  obtain ⟨k,hk,rfl,hIw,hidx⟩:=hrel;have hrd:=HII.o wr hIw;have HIW:=lH hIw;have HIDX:=lH hidx;clear hIw hidx
  by_cases hlt:k<n
  ·obtain ⟨z,hz⟩:∃ z,zs[k]?=some z:=zX_ (by have:=hlen.out;omega)
   have HM:=lH (zC_ hz);obtain ⟨b,off,rfl,hblt⟩:=hrd.form (by omega);obtain ⟨c0,c1,c2,c3,c4,c5,c6,c7,c8⟩:=hrd.at_ hz;have HZ:=lH (drop_cons hz);clear hz
   go_wp2_with fail
   refine (HF.o z wr HM.o HIW.o).mono ?_;cases hp:p z with
   | true=>
    rintro e w1 ⟨rfl,hI1⟩;have HI1:=lH hI1;have HP:=lH hp;clear hI1 hp
    go_wp2_with fail
    go_ret;exact ⟨ret_int (by rw [HIDX.o,HZ.o];simp [idxGo,HP.o]),HI1.o⟩
   | false=>
    rintro e w1 ⟨rfl,hI1⟩;have HI1:=lH hI1;have HP:=lH hp;clear hI1 hp
    go_wp2_with fail
    go_roundw
    case rel=>exact ⟨k+1,by omega,by go_num,HI1.o,by rw [HIDX.o,HZ.o];simp [idxGo,HP.o]⟩
    case measure=>simp [intOf];omega
  ·have hd:zs.drop k=[]:=by rw [List.drop_eq_nil_iff];have:=hlen.out;omega
   have HD:=lH hd;clear hd hrd
   go_wp2_with fail
   go_ret;exact ⟨ret_int (by rw [HIDX.o,HD.o];rfl),HIW.o⟩
theorem mbranch1 (x:Br) (s:ByteArray) (g:Nat) (w:World) (hg:w.cell? ⟨g,0,none⟩=some (.string s)) :
    Calls Tryz.prog 135 (#[.agg #[.string x.name,.string x.fr,.string x.to,.int .i64 x.x,.int .i64 x.tap,.int .i64 x.shift,.int .i64 x.limit,.int .i64 x.short,.int .i64 x.hold]]++#[.pointer (some ⟨g,0,none⟩)]) w fun e w'=>e=.returned (.bool (sEq x.name s))∧Below w.heap.size w w':=by
 have hlt:=World.block_lt_of_cell? w ⟨g,0,none⟩ hg;show Calls Tryz.prog 135 #[.agg #[.string x.name,.string x.fr,.string x.to,.int .i64 x.x,.int .i64 x.tap,.int .i64 x.shift,.int .i64 x.limit,.int .i64 x.short,.int .i64 x.hold],.pointer (some ⟨g,0,none⟩)] w _;go_enter Tryz.func135,Tryz.ntmps135
 go_wp2_with fail
 go_ret;exact ⟨rfl,bA⟩
theorem enter_mbranch1 (args:Array Value) (w:World):(callFunc 135 args).run Tryz.prog w=.ok (.enter 135 args) w:=
 callFunc_enter Tryz.func135 (by kernel_rfl) rfl args w
def brIdx (x:Net) (s:ByteArray):Int:=idxGo (fun b:Br=>sEq b.name s) x.brs 0
theorem brIdx_spec (x:Net) (s:ByteArray):(brIdx x s=-1∧∀ b∈x.brs,b.name≠s)∨∃ (i:Nat) (b:Br),brIdx x s=(i:Int)∧x.brs[i]?=some b∧b.name=s:=by
 rcases idxGo_spec (fun b:Br=>sEq b.name s) x.brs 0 with ⟨h1,h2⟩ | ⟨i,b,h1,h2,h3,_⟩
 ·exact .inl ⟨h1,fun b hb=>sEq_ff.1 (h2 b hb)⟩
 ·exact .inr ⟨i,b,by unfold brIdx;rw [h1];simp,h2,sEq_iff.1 h3⟩
theorem mbranch_any (h:NetH) (x:Net) (s:ByteArray) (w:World) (r:RdNet w w.heap.size h x) :
    Calls Tryz.prog 102 #[.agg h.cells,.string s] w fun e w'=>e=.returned (.int .i64 (brIdx x s))∧Below w.heap.size w w':=by
 have K0:Below w.heap.size w ((w.alloc (.cells h.cells 29)).alloc (.cells #[.string s] 9)):=(bA).alloc (by simp) _;have HK:=lH K0;have HR:=lH (r.up K0);have hm:=r.m2;have hs:((w.alloc (.cells h.cells 29)).alloc (.cells #[.string s] 9)).cell? ⟨w.heap.size+1,0,none⟩=some (.string s):=(Blk.new_ (t:=9) (cs:=#[.string s]) (w:=w.alloc (.cells h.cells 29)) (by simp)).cell 0;have HS:=lH hs;clear K0 r hs;go_enter Tryz.func102,Tryz.ntmps102
 go_wp2_with fail
 refine (indexFuncBr _ _ h.A2 h.n2 h.c2 x.brs (fun b=>sEq b.name s) (fun w'=>Below ((w.alloc (.cells h.cells 29)).alloc (.cells #[.string s] 9)).heap.size ((w.alloc (.cells h.cells 29)).alloc (.cells #[.string s] 9)) w') enter_mbranch1
  (fun w' hb=>(HR.o.up hb).r2) (fun z w' _ hb=>(mbranch1 z s (w.heap.size+1) w' ((hb.cell (p:=⟨w.heap.size+1,0,none⟩) (by simp)).trans HS.o)).mono fun e w'' ⟨he,hb2⟩=>⟨he,hb.tm hb2⟩) hm _ bR).mono ?_
 rintro e w1 ⟨rfl,hb⟩;have HB:=lH (HK.o.tm hb);clear hb
 go_wp2_with fail
 go_ret;exact ⟨rfl,HB.o⟩
def miCk (x:Net) (m:Mi):Int:=
 if m.kind<0∨2<m.kind then 1 else if (m.kind=0∧brIdx x m.name<0)∨(m.kind≠0∧(x.nodes.any fun y=>sEq m.name y)=false) then 6 else
 if ratCk m.txt.data.toList≠0 then ratCk m.txt.data.toList else if m.wt<1∨1000<m.wt then 4 else 0
def misGo (x:Net):List Mi→Int
 | []=>0
 | m::r=>if miCk x m=0 then misGo x r else miCk x m
def mtCk (x:Net) (ms:List Mi):Int:=if netCk x≠0 then netCk x else if 64<ms.length then 2 else misGo x ms
theorem misGo_ok {x:Net}:∀ {ms:List Mi},misGo x ms=0→∀ m∈ms,miCk x m=0
 | [],_,m,h=>by cases h
 | a::r,h,m,hm=>by
  unfold misGo at h
  split at h
  ·rename_i ha
   rcases List.mem_cons.1 hm with h1 | h1
   ·rw [h1];exact ha
   ·exact misGo_ok h m h1
  ·exact absurd h (by assumption)
theorem misGo_drop {x:Net} {ms:List Mi} {k:Nat} {m:Mi} (h:ms[k]?=some m):misGo x (ms.drop k)=if miCk x m=0 then misGo x (ms.drop (k+1)) else miCk x m:=by
 rw [drop_cons h];rfl
theorem mcheck_any (h:NetH) (x:Net) (A:Option Addr) (n c:Nat) (ms:List Mi) (w:World) (r:RdNet w w.heap.size h x) (hm:RdMi w w.heap.size A n ms) (hz:∀ m∈ms,m.txt.size≤maxLen) (hn:n≤9223372036854775807) (ht:TabOk w) :
    Calls Tryz.prog 60 #[.agg h.cells,.slice A n c] w fun e w'=>e=.returned (.int .i64 (mtCk x ms))∧Below w.heap.size w w':=by
 have K0:Below w.heap.size w (w.alloc (.cells h.cells 29)):=bA;have HK:=lH K0;have HR0:=lH r;have HM:=lH hm;have HML:=lH hm.1;have HZ:=lH hz;have HT:=lH ht;have HX:=lH (Blk.new w 29 h.cells);have HC:=lH (check_any h x _ (r.up K0));have HM0:Hid (h.n0≤9223372036854775807):=lH r.m0;have hlen:ms.length=n:=hm.1;clear K0 r hm hz ht;obtain ⟨A0,m0,c0,A1,m1,c1,A2,m2,c2,A3,m3,c3,A4,m4,c4,A5,m5,c5⟩:=h;simp only [NetH.cells] at HK HX HC HM0 ⊢;have hlI:(64:Int)<(n:Int)↔64<ms.length:=by omega
 have HLI:=lH hlI;clear hlI hlen;go_enter Tryz.func60,Tryz.ntmps60
 go_upto_region 1 with fail
 generalize w.alloc (.cells #[.slice A0 m0 c0,.slice A1 m1 c1,.slice A2 m2 c2,.slice A3 m3 c3,.slice A4 m4 c4,.slice A5 m5 c5] 29)=W at *;have hgl:=HX.o.lt;have y0:=HX.o.cell 0;have y1:=HX.o.cell 1;have y2:=HX.o.cell 2;have y3:=HX.o.cell 3;have y4:=HX.o.cell 4;have y5:=HX.o.cell 5
 go_wp2_with fail
 refine HC.o.mono ?_;clear y0 y1 y2 y3 y4 y5 hgl HC;rintro e w1 ⟨he,hb1⟩;have HB1:=lH (HK.o.tm hb1);have HX1:=lH (HX.o.bl hb1);clear hb1 HK HX
 by_cases h0:netCk x=0
 ·rw [h0] at he
  subst he;have HE0:Hid (mtCk x ms=if 64<ms.length then 2 else misGo x ms):=lH (by unfold mtCk;rw [if_neg (by simp [h0])]);clear h0
  by_cases h64:64<ms.length
  ·have h64I:(64:Int)<(n:Int):=HLI.o.2 h64
   have HE1:Hid (mtCk x ms=2):=lH (by rw [HE0.o,if_pos h64]);clear h64
   go_wp2_with fail
   go_ret;exact ⟨by rw [HE1.o];rfl,HB1.o⟩
  ·have h64I:¬(64:Int)<(n:Int):=fun h=>h64 (HLI.o.1 h)
   have HE1:Hid (mtCk x ms=misGo x ms):=lH (by rw [HE0.o,if_neg h64]);clear h64
   go_wp2_with fail
   go_loopw [19] (fun v19 wr=>∃ k:Nat,k≤n∧v19=.int .i64 k∧Below w.heap.size w wr∧Blk wr w.heap.size 29 #[.slice A0 m0 c0,.slice A1 m1 c1,.slice A2 m2 c2,.slice A3 m3 c3,.slice A4 m4 c4,.slice A5 m5 c5]∧misGo x ms=misGo x (ms.drop k)) (fun v19 _=>n-(intOf v19).toNat)
   case atStart=>exact ⟨0,by omega,rfl,HB1.o,HX1.o,rfl⟩
   case round=>
    clear HB1 HX1;obtain ⟨k,hk,rfl,hb,hx,hgo⟩:=hrel;have HB:=lH hb;have HX:=lH hx;have HGO:=lH hgo;clear hb hx hgo
    by_cases hlt:k<n
    ·obtain ⟨m,hm⟩:∃ m,ms[k]?=some m:=zX_ (by have:=HML.o;omega)
     obtain ⟨b,off,hA,hb⟩:=(HM.o.below HB.o lR).form (by omega);subst hA;obtain ⟨a0,a1,a2,a3⟩:=(HM.o.below HB.o lR).at_ hm;have hbl:b<wr.heap.size:=zJ_ hb HB.o.size;have HD:=lH (misGo_drop (x:=x) hm);rw [←HGO.o] at HD;have HTZ:=lH (HZ.o m (zC_ hm));have hkI:(k:Int)<(n:Int):=by omega
     have HN1:=lN k;have HN2:Hid (n-(k+1)<n-k):=lH (by omega);clear hm hb
     go_upto_region 9 with fail
     clear a0 a1 a2 a3 hbl;generalize hwa:wr.alloc (.cells #[.int .i64 m.kind,.string m.name,.string m.txt,.int .i64 m.wt] 57)=wa;have hba:Below wr.heap.size wr wa:=by rw [←hwa];exact bA
     have HS:Hid (Blk wa wr.heap.size 57 #[.int .i64 m.kind,.string m.name,.string m.txt,.int .i64 m.wt]):=lH (by rw [←hwa];exact Blk.new wr _ _);replace HB:=lH (HB.o.tm hba);replace HX:=lH (HX.o.bl hba);have HRN:=lH (HR0.o.up HB.o);clear hwa hba;generalize wr.heap.size=gx at *;have s0:=HS.o.cell 0;have s1:=HS.o.cell 1;have s2:=HS.o.cell 2;have s3:=HS.o.cell 3;have sl:=HS.o.lt;have HCK:Hid (Calls Tryz.prog 104 #[.string m.txt] wa fun e w'=>e=.returned (.int .i64 (ratCk m.txt.data.toList))∧Below wa.heap.size wa w'):=lH (by
      have h:=ratck_any m.txt.data.toList (by rw [Array.length_toList];exact HTZ.o) wa (HT.o.up HB.o);rwa [show (⟨m.txt.data.toList.toArray⟩:ByteArray)=m.txt from by cases m.txt;simp] at h)
     have HMC:Hid (miCk x m=if m.kind<0∨2<m.kind then 1 else if (m.kind=0∧brIdx x m.name<0)∨(m.kind≠0∧(x.nodes.any fun y=>sEq m.name y)=false) then 6 else
      if ratCk m.txt.data.toList≠0 then ratCk m.txt.data.toList else if m.wt<1∨1000<m.wt then 4 else 0):=lH rfl
     have HNZ:Hid (∀ z,miCk x m=z→z≠0→mtCk x ms=z):=lH fun z h hz=>by rw [HE1.o,HD.o,if_neg (by rw [h];exact hz),h]
     by_cases hk1:m.kind<0
     ·have HE:Hid (mtCk x ms=1):=lH (HNZ.o 1 (by rw [HMC.o,if_pos (.inl hk1)]) (by decide))
      go_wp2_with fail
      go_ret;exact ⟨by rw [HE.o];rfl,HB.o⟩
     by_cases hk2:2<m.kind
     ·have HE:Hid (mtCk x ms=1):=lH (HNZ.o 1 (by rw [HMC.o,if_pos (.inr hk2)]) (by decide))
      go_wp2_with fail
      go_ret;exact ⟨by rw [HE.o];rfl,HB.o⟩
     rw [if_neg (by omega)] at HMC;have HREST:Hid (∀ w2,Below wa.heap.size wa w2→(¬((m.kind=0∧brIdx x m.name<0)∨(m.kind≠0∧(x.nodes.any fun y=>sEq m.name y)=false)))→True):=lH fun _ _ _=>trivial
     by_cases hk0:m.kind=0
     ·have hk0b:(m.kind == 0)=true:=by simp [hk0]
      have y0:=HX.o.cell 0;have y1:=HX.o.cell 1;have y2:=HX.o.cell 2;have y3:=HX.o.cell 3;have y4:=HX.o.cell 4;have y5:=HX.o.cell 5;have yl:=HX.o.lt;have HBC:=lH (mbranch_any ⟨A0,m0,c0,A1,m1,c1,A2,m2,c2,A3,m3,c3,A4,m4,c4,A5,m5,c5⟩ x m.name wa HRN.o);obtain ⟨bi,hbi⟩:∃ bi,brIdx x m.name=bi:=⟨_,rfl⟩;rw [hbi] at HBC HMC
      go_wp2_with fail
      refine HBC.o.mono ?_;rintro e w2 ⟨rfl,hb2⟩;have HB2:=lH (HB.o.tm hb2);have HX2:=lH (HX.o.bl hb2);have HS2:=lH (HS.o.bl hb2);clear hb2 HBC y0 y1 y2 y3 y4 y5 yl s0 s1 s2 s3 sl HCK HREST;have s0:=HS2.o.cell 0;have s2:=HS2.o.cell 2;have s3:=HS2.o.cell 3;have sl:=HS2.o.lt
      by_cases hb0:bi<0
      ·have HE:Hid (mtCk x ms=6):=lH (HNZ.o 6 (by rw [HMC.o,if_pos (.inl ⟨hk0,hb0⟩)]) (by decide))
       go_wp2_with fail
       go_ret;exact ⟨by rw [HE.o];rfl,HB2.o⟩
      ·rw [if_neg (by rintro (⟨_,h⟩ | ⟨h,_⟩)<;>contradiction)] at HMC
       have HCK2:Hid (Calls Tryz.prog 104 #[.string m.txt] w2 fun e w'=>e=.returned (.int .i64 (ratCk m.txt.data.toList))∧Below w2.heap.size w2 w'):=lH (by
        have h:=ratck_any m.txt.data.toList (by rw [Array.length_toList];exact HTZ.o) w2 (HT.o.up HB2.o);rwa [show (⟨m.txt.data.toList.toArray⟩:ByteArray)=m.txt from by cases m.txt;simp] at h)
       obtain ⟨rc,hrc⟩:∃ rc,ratCk m.txt.data.toList=rc:=⟨_,rfl⟩;rw [hrc] at HCK2 HMC
       go_wp2_with fail
       refine HCK2.o.mono ?_;rintro e w3 ⟨rfl,hb3⟩;have HB3:=lH (HB2.o.tm hb3);have HX3:=lH (HX2.o.bl hb3);have HS3:=lH (HS2.o.bl hb3);clear hb3 HCK2 hrc;have t3:=HS3.o.cell 3;have tl:=HS3.o.lt
       by_cases hr0:rc=0
       ·subst hr0
        rw [if_neg (by simp)] at HMC
        by_cases hw1:m.wt<1
        ·have HE:Hid (mtCk x ms=4):=lH (HNZ.o 4 (by rw [HMC.o,if_pos (.inl hw1)]) (by decide))
         go_wp2_with fail
         go_ret;exact ⟨by rw [HE.o];rfl,HB3.o⟩
        by_cases hw2:1000<m.wt
        ·have HE:Hid (mtCk x ms=4):=lH (HNZ.o 4 (by rw [HMC.o,if_pos (.inr hw2)]) (by decide))
         go_wp2_with fail
         go_ret;exact ⟨by rw [HE.o];rfl,HB3.o⟩
        rw [if_neg (by omega)] at HMC;rw [if_pos HMC.o] at HD
        go_wp2_with fail
        go_roundw
        case rel=>exact ⟨k+1,hlt,val_int HN1.o,HB3.o,HX3.o,HGO.o.trans (HGO.o.symm.trans HD.o)⟩
        case measure=>exact HN2.o
       ·have HE:Hid (mtCk x ms=rc):=lH (HNZ.o rc (by rw [HMC.o,if_pos hr0]) hr0)
        have hr0b:(rc != 0)=true:=by simp [hr0]
        clear hr0
        go_wp2_with fail
        go_ret;exact ⟨by rw [HE.o];rfl,HB3.o⟩
     ·have hk0b:(m.kind == 0)=false:=by simp [hk0]
      have hk0c:(m.kind != 0)=true:=by simp [hk0]
      have y0:=HX.o.cell 0;have yl:=HX.o.lt;have HBC:=lH (contains_str A0 m0 c0 x.nodes m.name wa HRN.o.r0 HM0.o);obtain ⟨bi,hbi⟩:∃ bi,(x.nodes.any fun y=>sEq m.name y)=bi:=⟨_,rfl⟩;rw [hbi] at HBC HMC
      go_wp2_with fail
      refine HBC.o.mono ?_;rintro e w2 ⟨rfl,rfl⟩;have HB2:=HB;have HX2:=HX;have HS2:=HS;clear HBC y0 yl HREST;cases bi with
      | false=>
       have HE:Hid (mtCk x ms=6):=lH (HNZ.o 6 (by rw [HMC.o,if_pos (.inr ⟨hk0,rfl⟩)]) (by decide))
       go_wp2_with fail
       go_ret;exact ⟨by rw [HE.o];rfl,HB2.o⟩
      | true=>
       rw [if_neg (by rintro (⟨h,_⟩ | ⟨_,h⟩);exact hk0 h;cases h)] at HMC;have w2eq:True:=trivial;have HCK2:Hid (Calls Tryz.prog 104 #[.string m.txt] wa fun e w'=>e=.returned (.int .i64 (ratCk m.txt.data.toList))∧Below wa.heap.size wa w'):=lH (by
        have h:=ratck_any m.txt.data.toList (by rw [Array.length_toList];exact HTZ.o) wa (HT.o.up HB2.o);rwa [show (⟨m.txt.data.toList.toArray⟩:ByteArray)=m.txt from by cases m.txt;simp] at h)
       obtain ⟨rc,hrc⟩:∃ rc,ratCk m.txt.data.toList=rc:=⟨_,rfl⟩;rw [hrc] at HCK2 HMC
       go_wp2_with fail
       refine HCK2.o.mono ?_;rintro e w3 ⟨rfl,hb3⟩;have HB3:=lH (HB2.o.tm hb3);have HX3:=lH (HX2.o.bl hb3);have HS3:=lH (HS2.o.bl hb3);clear hb3 HCK2 hrc;have t3:=HS3.o.cell 3;have tl:=HS3.o.lt
       by_cases hr0:rc=0
       ·subst hr0
        rw [if_neg (by simp)] at HMC
        by_cases hw1:m.wt<1
        ·have HE:Hid (mtCk x ms=4):=lH (HNZ.o 4 (by rw [HMC.o,if_pos (.inl hw1)]) (by decide))
         go_wp2_with fail
         go_ret;exact ⟨by rw [HE.o];rfl,HB3.o⟩
        by_cases hw2:1000<m.wt
        ·have HE:Hid (mtCk x ms=4):=lH (HNZ.o 4 (by rw [HMC.o,if_pos (.inr hw2)]) (by decide))
         go_wp2_with fail
         go_ret;exact ⟨by rw [HE.o];rfl,HB3.o⟩
        rw [if_neg (by omega)] at HMC;rw [if_pos HMC.o] at HD
        go_wp2_with fail
        go_roundw
        case rel=>exact ⟨k+1,hlt,val_int HN1.o,HB3.o,HX3.o,HGO.o.trans (HGO.o.symm.trans HD.o)⟩
        case measure=>exact HN2.o
       ·have HE:Hid (mtCk x ms=rc):=lH (HNZ.o rc (by rw [HMC.o,if_pos hr0]) hr0)
        have hr0b:(rc != 0)=true:=by simp [hr0]
        clear hr0
        go_wp2_with fail
        go_ret;exact ⟨by rw [HE.o];rfl,HB3.o⟩
    ·have hke:k=n:=by omega
     have HE:Hid (mtCk x ms=0):=lH (by rw [HE1.o,HGO.o,List.drop_eq_nil_of_le (by have:=HML.o;omega)];rfl);have hkI:¬(k:Int)<(n:Int):=by omega
     go_wp2_with fail
     go_ret;exact ⟨by rw [HE.o];rfl,HB.o⟩
 ·have HE:Hid (mtCk x ms=netCk x):=lH (by unfold mtCk;rw [if_pos h0])
  generalize netCk x=z at *;subst he;have h0b:(z != 0)=true:=by simp [h0]
  clear h0
  go_wp2_with fail
  go_ret;exact ⟨by rw [HE.o];rfl,HB1.o⟩
end
section
open Go.ChangeShapes Go.WideShapes Go.ChangeAt Go.RowKit
attribute [local go_sem ↓] execOp_call_val
attribute [local go_sem] callVal_func setCell_drewN alloc_drewN sEq_walk
def addF (b:Rat) (u v:Nat) (q:List Rat):List Rat:=(q.set u (vf q u+b)).set v (vf (q.set u (vf q u+b)) v-b)
theorem addF_len {b:Rat} {u v:Nat} {q:List Rat}:(addF b u v q).length=q.length:=by unfold addF;rw [zU_,zU_]
def sg (minus:Bool) (b:Rat):Rat:=if minus then -b else b
structure Oth (a b:Nat) (w w':World):Prop where
 os:w'.os=w.os
 tape:w'.tape=w.tape
 output:w'.output=w.output
 size:w.heap.size≤w'.heap.size
 block:∀ i,i<w.heap.size→i≠a→i≠b→w'.heap[i]?=w.heap[i]?
theorem Oth.trans {a b:Nat} {w w1 w2:World} (h:Oth a b w w1) (k:Oth a b w1 w2):Oth a b w w2:=
 ⟨k.os.trans h.os,k.tape.trans h.tape,k.output.trans h.output,zI_ h.size k.size,fun i hi h1 h2=>(k.block i (zJ_ hi h.size) h1 h2).trans (h.block i hi h1 h2)⟩
theorem oth_below {a b:Nat} {w w':World} (h:Below w.heap.size w w'):Oth a b w w':=⟨h.os,h.tape,h.output,h.size,fun i hi _ _=>h.block i hi⟩
theorem Oth.below {a b B:Nat} {w w':World} (h:Oth a b w w') (ha:B≤a) (hb:B≤b) (hB:B≤w.heap.size):Below B w w':=⟨h.os,h.tape,h.output,h.size,fun i hi=>h.block i (by omega) (by omega) (by omega)⟩
theorem Oth.blk {a b g t:Nat} {w w':World} {cs:Array Value} (h:Oth a b w w') (hb:Blk w g t cs) (h1:g≠a) (h2:g≠b):Blk w' g t cs:=(h.block g hb.lt h1 h2).trans hb
theorem oth_setCell {a b:Nat} {w:World} {i:Nat} {u:Value}:Oth a b w (w.setCell ⟨b,i,none⟩ u):=⟨rfl,rfl,rfl,by simp [World.setCell],fun k hk h1 h2=>Below.heap_setCell w ⟨b,i,none⟩ u k (fun e=>h2 e)⟩
theorem oth_setCellA {a b:Nat} {w:World} {i:Nat} {u:Value}:Oth a b w (w.setCell ⟨a,i,none⟩ u):=⟨rfl,rfl,rfl,by simp [World.setCell],fun k hk h1 h2=>Below.heap_setCell w ⟨a,i,none⟩ u k (fun e=>h1 e)⟩
structure FmS (w:World) (gf gc:Nat) (vs:List Rv) (u:Rv) (q:List Rat) (z:Rat):Prop where
 blk:Blk w gf 117 #[.slice (some ⟨gc,0,none⟩) q.length q.length,.bool u.b1,.slice u.A u.n u.c,.bool u.b2,.slice u.A2 u.m u.d]
 row:∃ cs,Blk w gc 115 cs∧cs.toList.take (q.length*4)=rvs vs
 len:vs.length=q.length
 ok:RvOk w vs q
 val:RtV w w.heap.size z u
section
variable {w w':World} {gf gc:Nat} {vs:List Rv} {u:Rv} {q:List Rat} {z:Rat}
theorem FmS.up (f:FmS w gf gc vs u q z) (hb:Below w.heap.size w w'):FmS w' gf gc vs u q z:=by
 obtain ⟨cs,h1,h2⟩:=f.row;exact ⟨f.blk.bl hb,⟨cs,h1.bl hb,h2⟩,f.len,f.ok.up hb,f.val.up hb⟩
theorem FmS.ne (f:FmS w gf gc vs u q z):gf≠gc:=by
 obtain ⟨cs,h1,h2⟩:=f.row;exact f.blk.apart h1 (by decide)
theorem FmS.elem (f:FmS w gf gc vs u q z) {j:Nat} (hj:j<q.length):∃ x,vs[j]?=some x∧w.cell? ⟨gc,j*4,none⟩=some (.bool x.b1)∧w.cell? ⟨gc,j*4+1,none⟩=some (.slice x.A x.n x.c)∧w.cell? ⟨gc,j*4+2,none⟩=some (.bool x.b2)∧w.cell? ⟨gc,j*4+3,none⟩=some (.slice x.A2 x.m x.d)∧RtV w w.heap.size (vf q j) x∧gc<w.heap.size∧(∀ o,w.frozen? ⟨gc,o,none⟩=false):=by
 obtain ⟨cs,h1,h2⟩:=f.row;obtain ⟨x,hx⟩:∃ x,vs[j]?=some x:=zX_ (by rw [f.len];exact hj);obtain ⟨c0,c1,c2,c3⟩:=h1.row_cell h2 hx;exact ⟨x,hx,c0,c1,c2,c3,f.ok j _ x (vf_get hj) hx,h1.lt,h1.frozen⟩
theorem FmS.elem2 (f:FmS w gf gc vs u q z) {j:Nat} {x:Rv} (hx:vs[j]?=some x):w.cell? ⟨gc,j*4,none⟩=some (.bool x.b1)∧w.cell? ⟨gc,j*4+1,none⟩=some (.slice x.A x.n x.c)∧w.cell? ⟨gc,j*4+2,none⟩=some (.bool x.b2)∧w.cell? ⟨gc,j*4+3,none⟩=some (.slice x.A2 x.m x.d)∧gc<w.heap.size∧(∀ o,w.frozen? ⟨gc,o,none⟩=false):=by
 obtain ⟨cs,h1,h2⟩:=f.row;obtain ⟨c0,c1,c2,c3⟩:=h1.row_cell h2 hx;exact ⟨c0,c1,c2,c3,h1.lt,h1.frozen⟩
theorem FmS.keep (f:FmS w gf gc vs u q z) {j:Nat} (hj:j<q.length) {x y:Rv} {p:Rat} (hy:RtV w w.heap.size p y):RtV (putV w gc j x) (putV w gc j x).heap.size p y:=by
 obtain ⟨cs,h1,h2⟩:=f.row;obtain ⟨x0,hx⟩:∃ x,vs[j]?=some x:=zX_ (by rw [f.len];exact hj);exact RtV.keep4 hy x h1 h2 hx
theorem FmS.put (f:FmS w gf gc vs u q z) {j:Nat} (hj:j<q.length) {x:Rv} {p:Rat} (hx:RtV w w.heap.size p x):FmS (putV w gc j x) gf gc (vs.set j x) u (q.set j p) z:=by
 obtain ⟨cs,h1,h2⟩:=f.row;obtain ⟨cs',k1,k2⟩:=h1.row_put x h2 f.len hj;refine ⟨?_,⟨cs',k1,by rw [zU_];exact k2⟩,by simp [f.len],fun i p' y hp hy=>?_,f.keep hj f.val⟩
 ·rw [zU_];exact f.blk.far4 x f.ne
 ·rw [List.getElem?_set] at hp hy
  by_cases hij:j=i
  ·subst hij
   rw [if_pos rfl,if_pos hj] at hp;rw [if_pos rfl,if_pos (by rw [f.len];exact hj)] at hy;injection hp with hp;injection hy with hy;subst hp;subst hy;exact f.keep hj hx
  ·rw [if_neg hij] at hp hy
   exact f.keep hj (f.ok i p' y hp hy)
theorem oth_putV {j:Nat} {x:Rv}:Oth gf gc w (putV w gc j x):=((oth_setCell.trans oth_setCell).trans oth_setCell).trans oth_setCell
def putF (w:World) (gf:Nat) (x:Rv):World:=(((w.setCell ⟨gf,1,none⟩ (.bool x.b1)).setCell ⟨gf,2,none⟩ (.slice x.A x.n x.c)).setCell ⟨gf,3,none⟩ (.bool x.b2)).setCell ⟨gf,4,none⟩ (.slice x.A2 x.m x.d)
theorem oth_putF {x:Rv}:Oth gf gc w (putF w gf x):=((oth_setCellA.trans oth_setCellA).trans oth_setCellA).trans oth_setCellA
theorem FmS.free (f:FmS w gf gc vs u q z) {x:Rv} {p:Rat} (hx:RtV w w.heap.size p x):FmS (putF w gf x) gf gc vs x q p:=by
 obtain ⟨cs,h1,h2⟩:=f.row;have hb:=f.blk;have keep:∀ {y:Rv} {t:Rat},RtV w w.heap.size t y→RtV (putF w gf x) (putF w gf x).heap.size t y:=fun {y t} hy=>by
  have b1:=hb.set_at (i:=1) (cs':=#[.slice (some ⟨gc,0,none⟩) q.length q.length,.bool x.b1,.slice u.A u.n u.c,.bool u.b2,.slice u.A2 u.m u.d]) (.bool x.b1) (by simp);have b2:=b1.set_at (i:=2) (cs':=#[.slice (some ⟨gc,0,none⟩) q.length q.length,.bool x.b1,.slice x.A x.n x.c,.bool u.b2,.slice u.A2 u.m u.d]) (.slice x.A x.n x.c) (by simp);have b3:=b2.set_at (i:=3) (cs':=#[.slice (some ⟨gc,0,none⟩) q.length q.length,.bool x.b1,.slice x.A x.n x.c,.bool x.b2,.slice u.A2 u.m u.d]) (.bool x.b2) (by simp);exact (((hy.keep1 hb (i:=1) (y:=.bool u.b1) rfl (fun k x h=>by cases h) _).keep1 b1 (i:=2) (y:=.slice u.A u.n u.c) rfl slice_ni _).keep1 b2 (i:=3) (y:=.bool u.b2) rfl (fun k x h=>by cases h) _).keep1 b3 (i:=4) (y:=.slice u.A2 u.m u.d) rfl slice_ni _
 refine ⟨?_,⟨cs,(((h1.far (p:=⟨gf,1,none⟩) f.ne.symm _).far (p:=⟨gf,2,none⟩) f.ne.symm _).far (p:=⟨gf,3,none⟩) f.ne.symm _).far (p:=⟨gf,4,none⟩) f.ne.symm _,h2⟩,f.len,fun i p' y hp hy=>keep (f.ok i p' y hp hy),keep hx⟩;have:=(((hb.set_ 1 (.bool x.b1)).set_ 2 (.slice x.A x.n x.c)).set_ 3 (.bool x.b2)).set_ 4 (.slice x.A2 x.m x.d);unfold putF;simpa using this
end
theorem set_qsz {q:List Rat} {a u j:Nat} {p:Rat} (h:∀ t∈q,qsz t≤a) (hp:qsz p≤a) (hj:j<(q.set u p).length):qsz (vf (q.set u p) j)≤a:=by
 rcases List.mem_or_eq_of_mem_set (zC_ (vf_get hj)) with h1 | h1
 ·exact h _ h1
 ·rw [h1];exact hp
theorem two_boxes (w:World):Blk ((w.alloc (.cells #[.bool false,.slice none 0 0,.bool false,.slice none 0 0] 115)).alloc (.cells #[.bool false,.slice none 0 0,.bool false,.slice none 0 0] 115)).drew w.heap.size 115 #[.bool false,.slice none 0 0,.bool false,.slice none 0 0]∧Blk ((w.alloc (.cells #[.bool false,.slice none 0 0,.bool false,.slice none 0 0] 115)).alloc (.cells #[.bool false,.slice none 0 0,.bool false,.slice none 0 0] 115)).drew (w.heap.size+1) 115 #[.bool false,.slice none 0 0,.bool false,.slice none 0 0]∧Below w.heap.size w ((w.alloc (.cells #[.bool false,.slice none 0 0,.bool false,.slice none 0 0] 115)).alloc (.cells #[.bool false,.slice none 0 0,.bool false,.slice none 0 0] 115)).drew:=
 ⟨((Blk.new w _ _).alloc _).drew,(Blk.new_ (by simp)).drew,below_drew (((Below.refl _ w).alloc lR _).alloc (by simp) _)⟩
theorem box_put {w:World} {g T:Nat} {x0 x1 x2 x3:Value} {v:Rv} (h:Blk w g T #[x0,x1,x2,x3]):Blk (putQ w g v) g T #[.bool v.b1,.slice v.A v.n v.c,.bool v.b2,.slice v.A2 v.m v.d]:=blk_set4 h
theorem box_far {w:World} {g g' T:Nat} {cs:Array Value} {v:Rv} (h:Blk w g' T cs) (hg:g'≠g):Blk (putQ w g v) g' T cs:=(((h.far hg _).far hg _).far hg _).far hg _
def AddP (gf gc:Nat) (b c:Rat) (minus:Bool) (u v:Nat) (q:List Rat) (z:Rat) (w:World) (e:Ending) (w':World):Prop:=e=.returned (.tuple #[])∧Oth gf gc w w'∧∃ vs r,FmS w' gf gc vs r (addF (sg minus b) u v q) (z+sg minus c)
theorem addm_any (gb g:Nat) (m:ModH) (y:Value) (x:Net) (gf gc:Nat) (vs:List Rv) (u:Rv) (q:List Rat) (z:Rat) (k:Nat) (minus:Bool) (ui vi:Nat) (b c:Rat) (w:World) (B:Nat) (hB1:B≤gf) (hB2:B≤gc) (hgb:gb<B) (hgg:g<B) (hbox:Blk w gb 90 #[.pointer (some ⟨g,0,none⟩)]) (hg:Blk w g 122 (m.cells y)) (hr0:RdMod w B m x) (hf:FmS w gf gc vs u q z)
    (hb:(mB x)[k]?=some b) (hc:(mC x)[k]?=some c) (hu:(mFrom x)[k]?=some ui) (hv:(mTo x)[k]?=some vi) (hui:ui<q.length) (hvi:vi<q.length) (hl:x.brs.length≤1000) (hq:q.length≤1000) (h1:∀ p∈q,qsz p≤1000000) (h2:qsz b≤1000000) (h3:qsz c≤1000000) (h4:qsz z≤1000000) :
    Calls Tryz.prog 107 #[.int .i64 (k:Int),.bool minus,.pointer (some ⟨gb,0,none⟩),.pointer (some ⟨gf,0,none⟩)] w (AddP gf gc b c minus ui vi q z w):=by
 have HFL:Hid (gf<w.heap.size):=lH hf.blk.lt;have HCL:Hid (gc<w.heap.size):=lH (by obtain ⟨cs,k1,_⟩:=hf.row;exact k1.lt);have HB1:=lH hB1;have HB2:=lH hB2;have HGB:=lH hgb;have HGG:=lH hgg;have HR0:=lH hr0;have hr:=hr0.more (show B≤w.heap.size by have:=HFL.o;omega);have HG:=lH hg;have HR:=lH hr;have HF:=lH hf;have HBO:=lH hbox;have HN4:Hid (x.brs.length=m.n4):=lH (by rw [←mB_len];exact hr.r4.len);have HN5:Hid (x.brs.length=m.n5):=lH (by rw [←mC_len];exact hr.r5.len);have HN2:Hid (x.brs.length=m.n2):=lH (by rw [←mFrom_len,←natJ_len];exact hr.r2.len);have HN3:Hid (x.brs.length=m.n3):=lH (by rw [←mTo_len,←natJ_len];exact hr.r3.len);have HKL:Hid (k<x.brs.length):=lH (by rw [←mB_len];exact (zB_.1 hb).1);have HSB:=lH h2;have HSC:=lH h3;have HSQ:=lH h1;have HSZ:=lH h4;have HU:=lH hu;have HV:=lH hv;have HUL:=lH hui;have HVL:=lH hvi;have HQL:=lH hq;have HLL:=lH hl
 obtain ⟨A0,n0,c0,A1,n1,c1,A2,n2,c2,A3,n3,c3,A4,n4,c4,A5,n5,c5,A6,n6,c6⟩:=m;simp only [ModH.cells] at HG HN4 HN5 HN2 HN3;have hr4:=HR.o.r4;have hr5:=HR.o.r5;simp only at hr4 hr5;obtain ⟨bb,bo,hA4,hbb⟩:=hr4.form (by have:=HKL.o;have:=HN4.o;omega);subst hA4;obtain ⟨xb,p0,p1,p2,p3,p4⟩:=hr4.at_ hb;obtain ⟨db,do',hA5,hdb⟩:=hr5.form (by have:=HKL.o;have:=HN5.o;omega);subst hA5;obtain ⟨xc,e0,e1,e2,e3,e4⟩:=hr5.at_ hc;have HXB:=lH p4;have HXC:=lH e4;have hk4:(k:Int)<(n4:Int):=by have:=HKL.o;have:=HN4.o;omega
 have hk5:(k:Int)<(n5:Int):=by have:=HKL.o;have:=HN5.o;omega
 have hk0:=lZ k
 have hkn:=zL_ k;have b0:=HBO.o.cell 0;have bl:=HBO.o.lt;have y4:=HG.o.cell 4;have y5:=HG.o.cell 5;have yl:=HG.o.lt;clear hB1 hB2 hgb hgg hr0 hbox hg hr hf hb hc hu hv hui hvi hl hq h1 h2 h3 h4 p4 e4 hr4 hr5;go_enter Tryz.func107,Tryz.ntmps107
 go_upto_region 0 with fail
 go_cut [6,7] (fun v6 v7 wc=>∃ g6 g7,v6=.pointer (some ⟨g6,0,none⟩)∧v7=.pointer (some ⟨g7,0,none⟩)∧g6≠g7∧Blk wc g6 115 #[.bool xb.b1,.slice xb.A xb.n xb.c,.bool xb.b2,.slice xb.A2 xb.m xb.d]∧Blk wc g7 115 #[.bool xc.b1,.slice xc.A xc.n xc.c,.bool xc.b2,.slice xc.A2 xc.m xc.d]∧w.heap.size≤g6∧w.heap.size≤g7∧Below w.heap.size w wc)
 case first=>
  refine wp_region_last (S:=fun w'=>Below w.heap.size w w') 17 _ (by kernel_rfl) (by kernel_rfl) rfl (below_drew bR) (fun hHeld=>?_);simp only [zK_,List.take_zero];refine tkH 0 rfl ?_;refine tkH 1 rfl ?_;refine tkH 2 rfl ?_;refine tkH 3 rfl ?_;refine tkH 4 rfl ?_;refine tkH 5 rfl ?_;refine tkH 6 rfl ?_;refine tkH 7 rfl ?_;refine tkH 8 rfl ?_;refine tkH 9 rfl ?_;refine tkH 10 rfl ?_;refine tkH 11 rfl ?_;refine tkH 12 rfl ?_;refine tkH 13 rfl ?_;refine stepTwo 14 15 (by kernel_rfl) rfl rfl (fun K hK=>?_) (fun K hK=>?_)
  ·go_simp
   have HA:=lH ((below_drew (Below.refl w.heap.size w)).alloc lR (.cells #[.bool false,.slice none 0 0,.bool false,.slice none 0 0] 115));refine hK.out _ _ ?_ (fun hHeld=>?_)
   ·exact HA.o
   clear hK K HA
   try simp only [Act.put,sA_,sB_,sC_]
   refine stepH 15 (by kernel_rfl) rfl (fun K hK=>?_);go_simp;obtain ⟨ha,hb,hc⟩:=two_boxes w;generalize ((w.alloc (.cells #[.bool false,.slice none 0 0,.bool false,.slice none 0 0] 115)).alloc (.cells #[.bool false,.slice none 0 0,.bool false,.slice none 0 0] 115)).drew=W at ha hb hc ⊢;have HG6:=lH ha;have HG7:=lH hb;have HW:=lH hc;clear ha hb hc;refine hK.out _ _ ?_ (fun hHeld=>?_)
   ·exact HW.o
   clear hK K
   try simp only [Act.put,sA_,sB_,sC_]
   refine stepH 16 (by kernel_rfl) rfl (fun K hK=>?_);have z0:=HG6.o.cell 0;have z1:=HG6.o.cell 1;have z2:=HG6.o.cell 2;have z3:=HG6.o.cell 3;have zl:=HG6.o.lt;have zf:=HG6.o.frozen;go_simp;clear z0 z1 z2 z3 zl zf;have HW2:=lH (below_putQ (v:=xb) HW.o (g:=w.heap.size) (by omega));have HG6b:=lH (box_put (v:=xb) HG6.o);have HG7b:=lH (box_far (v:=xb) HG7.o (show (w.heap.size+1)≠w.heap.size by omega));unfold putQ at HW2 HG6b HG7b;generalize (((W.setCell ⟨w.heap.size,0,none⟩ _).setCell ⟨w.heap.size,1,none⟩ _).setCell ⟨w.heap.size,2,none⟩ _).setCell ⟨w.heap.size,3,none⟩ _=W2 at HW2 HG6b HG7b ⊢;refine hK.out _ _ ?_ (fun hHeld=>?_)
   ·exact HW2.o
   clear hK K HG6 HG7 HW
   try simp only [Act.put,sA_,sB_,sC_]
   refine wpAnyH_done (by kernel_rfl) ?_ _;refine lastQ_go (by rfl) ?_;have z0:=HG7b.o.cell 0;have z1:=HG7b.o.cell 1;have z2:=HG7b.o.cell 2;have z3:=HG7b.o.cell 3;have zl:=HG7b.o.lt;have zf:=HG7b.o.frozen
   go_wp2_with fail
   go_meet
   case rel=>exact ⟨_,_,rfl,rfl,by omega,box_far (v:=xc) HG6b.o (show w.heap.size≠(w.heap.size+1) by omega),box_put (v:=xc) HG7b.o,by omega,by omega,below_putQ (v:=xc) HW2.o (by omega)⟩
  ·go_simp
   have HA:=lH ((below_drew (Below.refl w.heap.size w)).alloc lR (.cells #[.bool false,.slice none 0 0,.bool false,.slice none 0 0] 115));refine hK.out _ _ ?_ (fun hHeld=>?_)
   ·exact HA.o
   clear hK K HA
   try simp only [Act.put,sA_,sB_,sC_]
   refine stepH 14 (by kernel_rfl) rfl (fun K hK=>?_);go_simp;obtain ⟨ha,hb,hc⟩:=two_boxes w;generalize ((w.alloc (.cells #[.bool false,.slice none 0 0,.bool false,.slice none 0 0] 115)).alloc (.cells #[.bool false,.slice none 0 0,.bool false,.slice none 0 0] 115)).drew=W at ha hb hc ⊢;have HG6:=lH hb;have HG7:=lH ha;have HW:=lH hc;clear ha hb hc;refine hK.out _ _ ?_ (fun hHeld=>?_)
   ·exact HW.o
   clear hK K
   try simp only [Act.put,sA_,sB_,sC_]
   refine stepH 16 (by kernel_rfl) rfl (fun K hK=>?_);have z0:=HG6.o.cell 0;have z1:=HG6.o.cell 1;have z2:=HG6.o.cell 2;have z3:=HG6.o.cell 3;have zl:=HG6.o.lt;have zf:=HG6.o.frozen;go_simp;clear z0 z1 z2 z3 zl zf;have HW2:=lH (below_putQ (v:=xb) HW.o (g:=(w.heap.size+1)) (by omega));have HG6b:=lH (box_put (v:=xb) HG6.o);have HG7b:=lH (box_far (v:=xb) HG7.o (show w.heap.size≠(w.heap.size+1) by omega));unfold putQ at HW2 HG6b HG7b;generalize (((W.setCell ⟨(w.heap.size+1),0,none⟩ _).setCell ⟨(w.heap.size+1),1,none⟩ _).setCell ⟨(w.heap.size+1),2,none⟩ _).setCell ⟨(w.heap.size+1),3,none⟩ _=W2 at HW2 HG6b HG7b ⊢;refine hK.out _ _ ?_ (fun hHeld=>?_)
   ·exact HW2.o
   clear hK K HG6 HG7 HW
   try simp only [Act.put,sA_,sB_,sC_]
   refine wpAnyH_done (by kernel_rfl) ?_ _;refine lastQ_go (by rfl) ?_;have z0:=HG7b.o.cell 0;have z1:=HG7b.o.cell 1;have z2:=HG7b.o.cell 2;have z3:=HG7b.o.cell 3;have zl:=HG7b.o.lt;have zf:=HG7b.o.frozen
   go_wp2_with fail
   go_meet
   case rel=>exact ⟨_,_,rfl,rfl,by omega,box_far (v:=xc) HG6b.o (show (w.heap.size+1)≠w.heap.size by omega),box_put (v:=xc) HG7b.o,by omega,by omega,below_putQ (v:=xc) HW2.o (by omega)⟩
 case rest=>
  obtain ⟨g6,g7,rfl,rfl,hne,hb6,hb7,hl6,hl7,hbw⟩:=hcut;have HW:=lH hbw;have H6:=lH hb6;have H7:=lH hb7;have HNE:=lH hne;have HL6:=lH hl6;have HL7:=lH hl7;replace HXB:=lH (HXB.o.up HW.o);replace HXC:=lH (HXC.o.up HW.o);clear hne hb6 hb7 hl6 hl7 hbw p0 p1 p2 p3 e0 e1 e2 e3 b0 bl y4 y5 yl hbb hdb hk4 hk5
  go_upto_if 22 with fail
  go_cut [] (fun wd=>∃ sb sc,Blk wd g6 115 #[.bool sb.b1,.slice sb.A sb.n sb.c,.bool sb.b2,.slice sb.A2 sb.m sb.d]∧Blk wd g7 115 #[.bool sc.b1,.slice sc.A sc.n sc.c,.bool sc.b2,.slice sc.A2 sc.m sc.d]∧RtV wd wd.heap.size (sg minus b) sb∧RtV wd wd.heap.size (sg minus c) sc∧Below w.heap.size w wd)
  case first=>
   cases minus with
   | false=>
    go_wp2_with fail
    go_meet
    case rel=>exact ⟨xb,xc,H6.o,H7.o,HXB.o,HXC.o,HW.o⟩
   | true=>
    go_upto_region 2 with fail
    generalize wc=W at *;have s0:=H6.o.cell 0;have s1:=H6.o.cell 1;have s2:=H6.o.cell 2;have s3:=H6.o.cell 3;have t0:=H7.o.cell 0;have t1:=H7.o.cell 1;have t2:=H7.o.cell 2;have t3:=H7.o.cell 3;have sl:=H6.o.lt;have tl:=H7.o.lt;refine wp_region_last2 (S:=fun w'=>Below W.heap.size W w') 4 _ _ (by kernel_rfl) (by kernel_rfl) (by kernel_rfl) rfl rfl (below_drew bR) (fun hHeld=>?_);simp only [zK_,List.take_zero];refine tkH 0 rfl ?_;refine tkH 2 rfl ?_;refine stepH 1 (by kernel_rfl) rfl (fun K hK=>?_);go_simp;refine (negV (HXB.o.up (below_drew bR))).mono ?_;rintro e w3 ⟨hb3,v3,rfl,h3⟩;have HB3:=lH ((below_drew (Below.refl W.heap.size W)).trans hb3);have H3:=lH h3;clear hb3 h3;go_simp;refine hK.out _ _ ?_ (fun hHeld=>?_)
    ·exact HB3.o
    clear hK K
    try simp only [Act.put,sA_,sB_,sC_]
    refine stepH 3 (by kernel_rfl) rfl (fun K hK=>?_);go_simp;refine (negV (HXC.o.up HB3.o)).mono ?_;rintro e w4 ⟨hb4,v4,rfl,h4⟩;have HB4:=lH (HB3.o.tm hb4);have H4:=lH h4;replace H3:=lH (H3.o.up hb4);clear hb4 h4;go_simp;refine hK.out _ _ ?_ (fun hHeld=>?_)
    ·exact HB4.o
    clear hK K
    try simp only [Act.put,sA_,sB_,sC_]
    refine wpAnyH_done (by kernel_rfl) ?_ _;refine lastQ_go (by rfl) ?_;have H6b:=lH (H6.o.bl HB4.o);have H7b:=lH (H7.o.bl HB4.o);have HWb:=lH (HW.o.tm HB4.o);clear s0 s1 s2 s3 t0 t1 t2 t3 sl tl;have z0:=H6b.o.cell 0;have z1:=H6b.o.cell 1;have z2:=H6b.o.cell 2;have z3:=H6b.o.cell 3;have zl:=H6b.o.lt;have zf:=H6b.o.frozen;go_simp;clear z0 z1 z2 z3 zl zf;have HWc:=lH (below_putQ (v:=v3) HWb.o (g:=g6) HL6.o);have H6c:=lH (box_put (v:=v3) H6b.o);have H7c:=lH (box_far (v:=v3) H7b.o (fun e=>HNE.o e.symm));have H3c:=lH (H3.o.keepq H6b.o (v:=v3));have H4c:=lH (H4.o.keepq H6b.o (v:=v3));unfold putQ at HWc H6c H7c;generalize (((w4.setCell ⟨g6,0,none⟩ _).setCell ⟨g6,1,none⟩ _).setCell ⟨g6,2,none⟩ _).setCell ⟨g6,3,none⟩ _=w5 at HWc H6c H7c H3c H4c ⊢;refine lastQ_go (by rfl) ?_;have z0:=H7c.o.cell 0;have z1:=H7c.o.cell 1;have z2:=H7c.o.cell 2
    have z3:=H7c.o.cell 3;have zl:=H7c.o.lt;have zf:=H7c.o.frozen
    go_wp2_with fail
    go_meet
    case rel=>exact ⟨v3,v4,box_far (v:=v4) H6c.o HNE.o,box_put (v:=v4) H7c.o,H3c.o.keepq H7c.o (v:=v4),H4c.o.keepq H7c.o (v:=v4),below_putQ (v:=v4) HWc.o HL7.o⟩
  case rest=>
   generalize wc=wd at *;obtain ⟨sb,sc,hb6,hb7,hvb,hvc,hbw⟩:=hcut;clear H6 H7 HXB HXC HW;have H6:=lH hb6;have H7:=lH hb7;have HVB:=lH hvb;have HVC:=lH hvc;replace HF:=lH (HF.o.up hbw);have HO:Hid (Oth gf gc w wd):=lH (oth_below hbw);replace HSB:Hid (qsz (sg minus b)≤1000000):=lH (by unfold sg;cases minus;exact HSB.o;rw [if_pos rfl,neg_qsz];exact HSB.o);replace HSC:Hid (qsz (sg minus c)≤1000000):=lH (by unfold sg;cases minus;exact HSC.o;rw [if_pos rfl,neg_qsz];exact HSC.o);clear hb6 hb7 hvb hvc hbw;generalize hsb:sg minus b=sgb at *;generalize hsc:sg minus c=sgc at *;have HS1:=lH hsb;have HS0:=lH hsc;clear hsb hsc
   go_upto_region 3 with fail
   have HBW:=lH (HO.o.below HB1.o HB2.o (by have:=HFL.o;have:=HB1.o;omega));have HGw:=lH (HG.o.below HBW.o HGG.o);have HBOw:=lH (HBO.o.below HBW.o HGB.o);have hrI:=(HR0.o.below HBW.o lR).r2;simp only at hrI;have hrI2:=hrI.2 (by have:=HKL.o;have:=HN2.o;omega);obtain ⟨fb2,fo2,hA,hfb,-⟩:=hrI2;subst hA;have f0:=hrI.at_ (natJ_at HU.o);have hfl:fb2<wd.heap.size:=by have:=HO.o.size;have:=HB1.o;have:=HFL.o;omega
   obtain ⟨xe,hx,c0,c1,c2',c3',hv,l1,f1⟩:=HF.o.elem HUL.o;have HXX:=lH hx;have HVV:=lH hv;have HQS:Hid (qsz (vf q ui)+qsz sgb+1≤35184372088832):=lH (by have h5:=HSQ.o _ (zC_ (vf_get HUL.o));have h6:=HSB.o;omega);have z0:=H6.o.cell 0;have z1:=H6.o.cell 1;have z2:=H6.o.cell 2;have z3:=H6.o.cell 3;have zl:=H6.o.lt;have b0:=HBOw.o.cell 0;have bl:=HBOw.o.lt;have y2:=HGw.o.cell 2;have yl:=HGw.o.lt;have q0:=HF.o.blk.cell 0;have ql:=HF.o.blk.lt;have hkI:(k:Int)<(n2:Int):=by have:=HKL.o;have:=HN2.o;omega
   have hixI:(ui:Int)<(q.length:Int):=by have:=HUL.o;omega
   have hix0:=lZ ui
   have hixn:=zL_ ui;have HB4:=lH (below_drew (Below.refl wd.heap.size wd));clear hrI hfb hx hv HBW HGw HBOw;refine wp_region_last (S:=fun w'=>Below wd.heap.size wd w') 23 _ (by kernel_rfl) (by kernel_rfl) rfl (below_drew bR) (fun hHeld=>?_);simp only [zK_,List.take_zero];refine tkH 0 rfl ?_;refine tkH 1 rfl ?_;refine tkH 2 rfl ?_;refine tkH 3 rfl ?_;refine tkH 4 rfl ?_;refine tkH 5 rfl ?_;refine tkH 6 rfl ?_;refine tkH 7 rfl ?_;refine tkH 8 rfl ?_;refine tkH 9 rfl ?_;refine tkH 10 rfl ?_;refine tkH 11 rfl ?_;refine tkH 12 rfl ?_;refine tkH 13 rfl ?_;refine tkH 14 rfl ?_;refine tkH 15 rfl ?_;refine tkH 16 rfl ?_;refine tkH 17 rfl ?_;refine tkH 18 rfl ?_;refine tkH 19 rfl ?_;refine tkH 20 rfl ?_;refine stepH 21 (by kernel_rfl) rfl (fun K hK=>?_);go_simp;refine (addV (HVV.o.up HB4.o) (HVB.o.up HB4.o) HQS.o).mono ?_
   rintro e w8 ⟨hb8,v8,rfl,h8⟩;have HB8:Hid (Below wd.heap.size wd w8):=lH (HB4.o.tm hb8);have H8:=lH h8;clear hb8 h8;go_simp;refine hK.out _ _ ?_ (fun hHeld=>?_)
   ·exact HB8.o
   clear hK K
   try simp only [Act.put,sA_,sB_,sC_]
   refine tkH 22 rfl ?_;refine wpAnyH_done (by kernel_rfl) ?_ _;refine lastQ_go (by rfl) ?_;clear hHeld;have HF8:=lH (HF.o.up HB8.o);have H68:=lH (H6.o.bl HB8.o);have H78:=lH (H7.o.bl HB8.o);have HVB8:=lH (HVB.o.up HB8.o);have HVC8:=lH (HVC.o.up HB8.o);have HO8:Hid (Oth gf gc w w8):=lH (HO.o.trans (oth_below HB8.o));clear c0 c1 c2' c3' l1 f1 z0 z1 z2 z3 zl b0 bl y2 yl q0 ql f0 hfl HF H6 H7 HVB HVC HO HVV HQS HB4 HB8;obtain ⟨c0,c1,c2',c3',l1,f1⟩:=HF8.o.elem2 HXX.o
   go_upto_region 4 with fail
   clear c0 c1 c2' c3' l1 f1;have HF:=lH (HF8.o.put HUL.o H8.o);have H6:=lH (H68.o.far4 (i:=ui) v8 (show g6≠gc by have:=HL6.o;have:=HCL.o;omega));have H7:=lH (H78.o.far4 (i:=ui) v8 (show g7≠gc by have:=HL7.o;have:=HCL.o;omega));have HVB:=lH (HF8.o.keep HUL.o (x:=v8) HVB8.o);have HVC:=lH (HF8.o.keep HUL.o (x:=v8) HVC8.o);have HO:Hid (Oth gf gc w (putV w8 gc ui v8)):=lH (HO8.o.trans oth_putV);clear HF8 H68 H78 HVB8 HVC8 HO8 H8 HXX hixI hix0 hixn hkI;simp only [putV] at HF H6 H7 HVB HVC HO;generalize (((w8.setCell ⟨gc,ui*4,none⟩ _).setCell ⟨gc,ui*4+1,none⟩ _).setCell ⟨gc,ui*4+2,none⟩ _).setCell ⟨gc,ui*4+3,none⟩ _=we at *;have HVL2:Hid (vi<(q.set ui (vf q ui+sgb)).length):=lH (by rw [zU_];exact HVL.o);generalize vs.set ui _=vs1 at *;obtain ⟨q1,hq1⟩:∃ q1,q.set ui (vf q ui+sgb)=q1:=⟨_,rfl⟩;have HQE:=lH hq1
   have HS2:Hid (qsz (vf (q.set ui (vf q ui+sgb)) vi)+qsz sgb+1≤35184372088832):=lH (by have h5:=set_qsz (a:=2000001) (u:=ui) (p:=vf q ui+sgb) (fun p hp=>zI_ (HSQ.o p hp) (by decide)) (by have:=add_qsz (vf q ui) sgb;have:=HSQ.o _ (zC_ (vf_get HUL.o));have:=HSB.o;omega) HVL2.o;have h6:=HSB.o;omega);rw [hq1] at HF HVL2 HS2;clear hq1;have HBW:=lH (HO.o.below HB1.o HB2.o (by have:=HFL.o;have:=HB1.o;omega));have HGw:=lH (HG.o.below HBW.o HGG.o);have HBOw:=lH (HBO.o.below HBW.o HGB.o);have hrI:=(HR0.o.below HBW.o lR).r3;simp only at hrI;have hrI2:=hrI.2 (by have:=HKL.o;have:=HN3.o;omega);obtain ⟨fb3,fo3,hA,hfb,-⟩:=hrI2;subst hA;have f0:=hrI.at_ (natJ_at HV.o);have hfl:fb3<we.heap.size:=by have:=HO.o.size;have:=HB1.o;have:=HFL.o;omega
   obtain ⟨xe,hx,c0,c1,c2',c3',hv,l1,f1⟩:=HF.o.elem HVL2.o;have HXX:=lH hx;have HVV:=lH hv;have HQS:Hid (qsz (vf q1 vi)+qsz sgb+1≤35184372088832):=lH (by exact HS2.o);have z0:=H6.o.cell 0;have z1:=H6.o.cell 1;have z2:=H6.o.cell 2;have z3:=H6.o.cell 3;have zl:=H6.o.lt;have b0:=HBOw.o.cell 0;have bl:=HBOw.o.lt;have y2:=HGw.o.cell 3;have yl:=HGw.o.lt;have q0:=HF.o.blk.cell 0;have ql:=HF.o.blk.lt;have hkI:(k:Int)<(n3:Int):=by have:=HKL.o;have:=HN3.o;omega
   have hixI:(vi:Int)<(q1.length:Int):=by have:=HVL2.o;omega
   have hix0:=lZ vi
   have hixn:=zL_ vi;have HB4:=lH (below_drew (Below.refl we.heap.size we));clear hrI hfb hx hv HBW HGw HBOw;refine wp_region_last (S:=fun w'=>Below we.heap.size we w') 23 _ (by kernel_rfl) (by kernel_rfl) rfl (below_drew bR) (fun hHeld=>?_);simp only [zK_,List.take_zero];refine tkH 0 rfl ?_;refine tkH 1 rfl ?_;refine tkH 2 rfl ?_;refine tkH 3 rfl ?_;refine tkH 4 rfl ?_;refine tkH 5 rfl ?_;refine tkH 6 rfl ?_;refine tkH 7 rfl ?_;refine tkH 8 rfl ?_;refine tkH 9 rfl ?_;refine tkH 10 rfl ?_;refine tkH 11 rfl ?_;refine tkH 12 rfl ?_;refine tkH 13 rfl ?_;refine tkH 14 rfl ?_;refine tkH 15 rfl ?_;refine tkH 16 rfl ?_;refine tkH 17 rfl ?_;refine tkH 18 rfl ?_;refine tkH 19 rfl ?_;refine tkH 20 rfl ?_;refine stepH 21 (by kernel_rfl) rfl (fun K hK=>?_);go_simp;refine (subV (HVV.o.up HB4.o) (HVB.o.up HB4.o) HQS.o).mono ?_
   rintro e w8 ⟨hb8,v8,rfl,h8⟩;have HB8:Hid (Below we.heap.size we w8):=lH (HB4.o.tm hb8);have H8:=lH h8;clear hb8 h8;go_simp;refine hK.out _ _ ?_ (fun hHeld=>?_)
   ·exact HB8.o
   clear hK K
   try simp only [Act.put,sA_,sB_,sC_]
   refine tkH 22 rfl ?_;refine wpAnyH_done (by kernel_rfl) ?_ _;refine lastQ_go (by rfl) ?_;clear hHeld;have HF8:=lH (HF.o.up HB8.o);have H68:=lH (H6.o.bl HB8.o);have H78:=lH (H7.o.bl HB8.o);have HVB8:=lH (HVB.o.up HB8.o);have HVC8:=lH (HVC.o.up HB8.o);have HO8:Hid (Oth gf gc w w8):=lH (HO.o.trans (oth_below HB8.o));clear c0 c1 c2' c3' l1 f1 z0 z1 z2 z3 zl b0 bl y2 yl q0 ql f0 hfl HF H6 H7 HVB HVC HO HVV HQS HB4 HB8;obtain ⟨c0,c1,c2',c3',l1,f1⟩:=HF8.o.elem2 HXX.o
   go_upto_region 5 with fail
   clear c0 c1 c2' c3' l1 f1;have HF:=lH (HF8.o.put HVL2.o H8.o);have H6:=lH (H68.o.far4 (i:=vi) v8 (show g6≠gc by have:=HL6.o;have:=HCL.o;omega));have H7:=lH (H78.o.far4 (i:=vi) v8 (show g7≠gc by have:=HL7.o;have:=HCL.o;omega));have HVB:=lH (HF8.o.keep HVL2.o (x:=v8) HVB8.o);have HVC:=lH (HF8.o.keep HVL2.o (x:=v8) HVC8.o);have HO:Hid (Oth gf gc w (putV w8 gc vi v8)):=lH (HO8.o.trans oth_putV);clear HF8 H68 H78 HVB8 HVC8 HO8 H8 HXX hixI hix0 hixn hkI;simp only [putV] at HF H6 H7 HVB HVC HO;generalize (((w8.setCell ⟨gc,vi*4,none⟩ _).setCell ⟨gc,vi*4+1,none⟩ _).setCell ⟨gc,vi*4+2,none⟩ _).setCell ⟨gc,vi*4+3,none⟩ _=wf at *;have HE:Hid (q1.set vi (vf q1 vi-sgb)=addF sgb ui vi q):=lH (by unfold addF;rw [HQE.o]);rw [HE.o] at HF;clear HE HQE HS2;generalize hq2:addF sgb ui vi q=q2 at *;have HQ2:=lH hq2;clear hq2;generalize vs1.set vi _=vs2 at *
   have HQS:Hid (qsz z+qsz sgc+1≤35184372088832):=lH (by have:=HSZ.o;have:=HSC.o;omega);have z0:=H7.o.cell 0;have z1:=H7.o.cell 1;have z2:=H7.o.cell 2;have z3:=H7.o.cell 3;have zl:=H7.o.lt;have q4:=HF.o.blk.cell 0;have q5:=HF.o.blk.cell 1;have q6:=HF.o.blk.cell 2;have q7:=HF.o.blk.cell 3;have q8:=HF.o.blk.cell 4;have ql:=HF.o.blk.lt
   go_wp2_with fail
   refine (addV HF.o.val HVC.o HQS.o).mono ?_;rintro e w9 ⟨hb9,v9,rfl,h9⟩;have HF9:=lH (HF.o.up hb9);have H9:=lH h9;have HO9:Hid (Oth gf gc w w9):=lH (HO.o.trans (oth_below hb9));clear hb9 h9 q4 q5 q6 q7 q8 ql z0 z1 z2 z3 zl HF HO;have q4:=HF9.o.blk.cell 0;have q5:=HF9.o.blk.cell 1;have q6:=HF9.o.blk.cell 2;have q7:=HF9.o.blk.cell 3;have q8:=HF9.o.blk.cell 4;have ql:=HF9.o.blk.lt;have qf:=HF9.o.blk.frozen
   go_wp2_with fail
   go_end0
   exact ⟨rfl,HO9.o.trans oth_putF,vs2,v9,by rw [HS1.o,HS0.o,HQ2.o];exact HF9.o.free H9.o⟩
def injStep (bus u v:Nat) (b c:Rat) (s:List Rat×Rat):List Rat×Rat:=
 let s1:=if u=bus then (addF (sg false b) u v s.1,s.2+sg false c) else s
 if v=bus then (addF (sg true b) u v s1.1,s1.2+sg true c) else s1
def injGo (bus:Nat):List Rat→List Rat→List Nat→List Nat→List Rat×Rat→List Rat×Rat
 | b::bs,c::cs,u::us,v::vs,s=>injGo bus bs cs us vs (injStep bus u v b c s)
 | _,_,_,_,s=>s
def zrs (n:Nat):List Rat:=List.replicate n 0
def formR (x:Net) (m:Mi):List Rat×Rat:=
 if m.kind=0 then (addF (sg false (vf (mB x) (brIdx x m.name).toNat)) ((mFrom x).getD (brIdx x m.name).toNat 0) ((mTo x).getD (brIdx x m.name).toNat 0) (zrs (busN x)),0+sg false (vf (mC x) (brIdx x m.name).toNat))
 else if m.kind=2 then ((zrs (busN x)).set (busAt x m.name) 1,0)
 else injGo (busAt x m.name) (mB x) (mC x) (mFrom x) (mTo x) (zrs (busN x),0)
def FormP (x:Net) (m:Mi) (w:World) (e:Ending) (w':World):Prop:=Below w.heap.size w w'∧∃ (gc:Nat) (u:Rv),e=.returned (.agg #[.slice (some ⟨gc,0,none⟩) (busN x) (busN x),.bool u.b1,.slice u.A u.n u.c,.bool u.b2,.slice u.A2 u.m u.d])∧RdQ w' w'.heap.size (some ⟨gc,0,none⟩) (busN x) (formR x m).1∧RtV w' w'.heap.size (formR x m).2 u
theorem islR_len {x:Net} (ok:NetOk x):(islR x).length=busN x:=by
 have h:=(natJ_isl ok).2;unfold islN at h;rwa [zG_] at h
theorem mbuses_any (g:Nat) (m:ModH) (y:Value) (w:World) (hg:Blk w g 122 (m.cells y)):Calls Tryz.prog 96 #[.pointer (some ⟨g,0,none⟩)] w fun e w'=>e=.returned (.int .i64 (m.n1:Int))∧w=w':=by
 have y1:=hg.cell 1;have yl:=hg.lt;obtain ⟨A0,n0,c0,A1,n1,c1,A2,n2,c2,A3,n3,c3,A4,n4,c4,A5,n5,c5,A6,n6,c6⟩:=m;simp only [ModH.cells] at y1;clear hg;go_enter Tryz.func96,Tryz.ntmps96
 go_wp2_with fail
 go_ret;exact ⟨rfl,rfl⟩
def mkF (w:World) (gc n:Nat) (u:Rv):World:=w.alloc (.cells #[.slice (some ⟨gc,0,none⟩) n n,.bool u.b1,.slice u.A u.n u.c,.bool u.b2,.slice u.A2 u.m u.d] 117)
theorem below_mkF {w:World} {gc n:Nat} {u:Rv}:Below w.heap.size w (mkF w gc n u):=(Below.refl _ w).alloc lR _
theorem form_made {w:World} {gc n:Nat} {v u:Rv} (hc:Blk w gc 115 (rvs (List.replicate n v)).toArray) (hv:RtV w w.heap.size 0 v) (hu:RtV w w.heap.size 0 u):FmS (mkF w gc n u) w.heap.size gc (List.replicate n v) u (zrs n) 0:=by
 refine ⟨?_,⟨_,hc.bl below_mkF,?_⟩,by simp [zrs],fun i p x hp hx=>?_,hu.up below_mkF⟩
 ·unfold mkF zrs
  rw [zO_];exact Blk.new w _ _
 ·have hl:(rvs (List.replicate n v)).length=n*4:=(rvs_len _).trans (by rw [zO_])
  rw [zrs,zO_];exact zH_ (Nat.le_of_eq hl)
 ·unfold zrs at hp
  rw [List.getElem?_replicate] at hp hx
  split at hp
  ·rename_i h
   rw [if_pos h] at hx;rw [←Option.some.inj hp,←Option.some.inj hx];exact hv.up below_mkF
  ·cases hp
def put5 (w:World) (p gc n:Nat) (u:Rv):World:=((((w.setCell ⟨p,0,none⟩ (.slice (some ⟨gc,0,none⟩) n n)).setCell ⟨p,1,none⟩ (.bool u.b1)).setCell ⟨p,2,none⟩ (.slice u.A u.n u.c)).setCell ⟨p,3,none⟩ (.bool u.b2)).setCell ⟨p,4,none⟩ (.slice u.A2 u.m u.d)
theorem put5_size (w:World) (p gc n:Nat) (u:Rv):(put5 w p gc n u).heap.size=w.heap.size:=by simp [put5]
theorem below_put5 {a w:World} {B p gc n:Nat} {u:Rv} (h:Below B a w) (hp:B≤p):Below B a (put5 w p gc n u):=((((h.setCell hp _).setCell hp _).setCell hp _).setCell hp _).setCell hp _
theorem RtV.keep5 {w:World} {p gc n T:Nat} {u y:Rv} {t:Rat} (h:RtV w w.heap.size t y) (hb:Blk w p T #[.slice none 0 0,.bool false,.slice none 0 0,.bool false,.slice none 0 0]):RtV (put5 w p gc n u) (put5 w p gc n u).heap.size t y:=by
 have B0:=hb.set_at (i:=0) (cs':=#[.slice (some ⟨gc,0,none⟩) n n,.bool false,.slice none 0 0,.bool false,.slice none 0 0]) (.slice (some ⟨gc,0,none⟩) n n) (by simp);have B1:=B0.set_at (i:=1) (cs':=#[.slice (some ⟨gc,0,none⟩) n n,.bool u.b1,.slice none 0 0,.bool false,.slice none 0 0]) (.bool u.b1) (by simp);have B2:=B1.set_at (i:=2) (cs':=#[.slice (some ⟨gc,0,none⟩) n n,.bool u.b1,.slice u.A u.n u.c,.bool false,.slice none 0 0]) (.slice u.A u.n u.c) (by simp);have B3:=B2.set_at (i:=3) (cs':=#[.slice (some ⟨gc,0,none⟩) n n,.bool u.b1,.slice u.A u.n u.c,.bool u.b2,.slice none 0 0]) (.bool u.b2) (by simp)
 exact (((((h.keep1 hb (i:=0) (y:=.slice none 0 0) rfl slice_ni _).keep1 B0 (i:=1) (y:=.bool false) rfl (fun k x h=>by cases h) _).keep1 B1 (i:=2) (y:=.slice none 0 0) rfl slice_ni _).keep1 B2 (i:=3) (y:=.bool false) rfl (fun k x h=>by cases h) _).keep1 B3 (i:=4) (y:=.slice none 0 0) rfl slice_ni _)
theorem put5_blk {w:World} {p gc n T:Nat} {u:Rv} (hb:Blk w p T #[.slice none 0 0,.bool false,.slice none 0 0,.bool false,.slice none 0 0]):Blk (put5 w p gc n u) p T #[.slice (some ⟨gc,0,none⟩) n n,.bool u.b1,.slice u.A u.n u.c,.bool u.b2,.slice u.A2 u.m u.d]:=by
 have B0:=hb.set_at (i:=0) (cs':=#[.slice (some ⟨gc,0,none⟩) n n,.bool false,.slice none 0 0,.bool false,.slice none 0 0]) (.slice (some ⟨gc,0,none⟩) n n) (by simp);have B1:=B0.set_at (i:=1) (cs':=#[.slice (some ⟨gc,0,none⟩) n n,.bool u.b1,.slice none 0 0,.bool false,.slice none 0 0]) (.bool u.b1) (by simp);have B2:=B1.set_at (i:=2) (cs':=#[.slice (some ⟨gc,0,none⟩) n n,.bool u.b1,.slice u.A u.n u.c,.bool false,.slice none 0 0]) (.slice u.A u.n u.c) (by simp);have B3:=B2.set_at (i:=3) (cs':=#[.slice (some ⟨gc,0,none⟩) n n,.bool u.b1,.slice u.A u.n u.c,.bool u.b2,.slice none 0 0]) (.bool u.b2) (by simp);exact B3.set_at (i:=4) (.slice u.A2 u.m u.d) (by simp)
theorem FmS.rdq {w:World} {gf gc:Nat} {vs:List Rv} {u:Rv} {q:List Rat} {z:Rat} (f:FmS w gf gc vs u q z) {p n T:Nat} {y:Rv} (hb:Blk w p T #[.slice none 0 0,.bool false,.slice none 0 0,.bool false,.slice none 0 0]) (hp:gc≠p):RdQ (put5 w p gc n y) (put5 w p gc n y).heap.size (some ⟨gc,0,none⟩) q.length q:=by
 obtain ⟨cs,h1,h2⟩:=f.row;have hf:Blk (put5 w p gc n y) gc 115 cs:=((((h1.far hp _).far hp _).far hp _).far hp _).far hp _;refine ⟨vs,f.len,rfl,⟨by rw [rvs_len,f.len],fun hn=>⟨gc,0,rfl,hf.lt,fun i v hv=>?_⟩⟩,fun i t v ht hv=>(f.ok i t v ht hv).keep5 hb⟩;rw [Nat.zero_add,hf.cell];rw [←h2] at hv;rw [List.getElem?_take] at hv
 split at hv
 ·rwa [Array.getElem?_toList] at hv
 ·cases hv
theorem sg_qsz {m:Bool} {b:Rat}:qsz (sg m b)=qsz b:=by
 unfold sg;cases m
 ·rfl
 ·rw [if_pos rfl,neg_qsz]
structure FOk (n K:Nat) (s:List Rat×Rat):Prop where
 len:s.1.length=n
 cf:∀ p∈s.1,qsz p≤K
 fr:qsz s.2≤K
theorem zrs_ok (n:Nat):FOk n 2 (zrs n,0):=by
 have h:qsz (0:Rat)≤2:=qsz_whole 0 (by decide) (by decide);refine ⟨by simp [zrs],fun p hp=>?_,h⟩;rw [List.eq_of_mem_replicate hp];exact h
theorem FOk.mono {n K K':Nat} {s:List Rat×Rat} (h:FOk n K s) (hk:K≤K'):FOk n K' s:=⟨h.len,fun p hp=>zI_ (h.cf p hp) hk,zI_ h.fr hk⟩
theorem FOk.add {n K u v:Nat} {s:List Rat×Rat} {b c:Rat} (mi:Bool) (h:FOk n K s) (hu:u<n) (hv:v<n) (hb:qsz b≤1) (hc:qsz c≤2):FOk n (K+6) (addF (sg mi b) u v s.1,s.2+sg mi c):=by
 have hb':qsz (sg mi b)≤1:=by rw [sg_qsz];exact hb
 have h1:qsz (vf s.1 u+sg mi b)≤K+2:=by
  have a:=add_qsz (vf s.1 u) (sg mi b);have c:=h.cf _ (zC_ (vf_get (i:=u) (by rw [h.len];exact hu)));omega
 have h2:∀ p∈s.1.set u (vf s.1 u+sg mi b),qsz p≤K+2:=fun p hp=>by
  rcases List.mem_or_eq_of_mem_set hp with e | e
  ·exact zI_ (h.cf p e) (by omega)
  ·rw [e];exact h1
 refine ⟨by rw [addF_len];exact h.len,fun p hp=>?_,?_⟩
 ·unfold addF at hp
  rcases List.mem_or_eq_of_mem_set hp with e | e
  ·exact zI_ (h2 p e) (by omega)
  ·have a:=add_qsz (vf (s.1.set u (vf s.1 u+sg mi b)) v) (-(sg mi b))
   have c:=h2 _ (zC_ (vf_get (i:=v) (by rw [zU_,h.len];exact hv)));rw [neg_qsz] at a;rw [e,Rat.sub_eq_add_neg];omega
 ·have a:=add_qsz s.2 (sg mi c)
  rw [sg_qsz (b:=c)] at a;have:=h.fr;show qsz (s.2+sg mi c)≤_;omega
theorem injGo_cons {bus:Nat} {B C:List Rat} {F G:List Nat} {s:List Rat×Rat} {k u v:Nat} {b c:Rat} (h1:B[k]?=some b) (h0:C[k]?=some c) (h2:F[k]?=some u) (h3:G[k]?=some v):injGo bus (B.drop k) (C.drop k) (F.drop k) (G.drop k) s=injGo bus (B.drop (k+1)) (C.drop (k+1)) (F.drop (k+1)) (G.drop (k+1)) (injStep bus u v b c s):=by
 rw [drop_cons h1,drop_cons h0,drop_cons h2,drop_cons h3];rfl
theorem con_qsz {b:Br} (h:b.bad=false):qsz (conR b)≤2:=by
 have a:=mul_qsz (susR b) (Rat.divInt (-b.shift) 1000);have c:=sus_qsz h;have d:=shift_qsz h;unfold conR;omega
structure FEnv (w:World) (B gb g:Nat) (m:ModH) (y:Value) (x:Net) (gf gc:Nat):Prop where
 b1:B≤gf
 b2:B≤gc
 lb:gb<B
 lg:g<B
 hs:B≤w.heap.size
 box:Blk w gb 90 #[.pointer (some ⟨g,0,none⟩)]
 md:Blk w g 122 (m.cells y)
 rd:RdMod w B m x
theorem FEnv.oth {w w':World} {B gb g gf gc:Nat} {m:ModH} {y:Value} {x:Net} (h:FEnv w B gb g m y x gf gc) (o:Oth gf gc w w'):FEnv w' B gb g m y x gf gc:=by
 have hb:=o.below h.b1 h.b2 h.hs;exact ⟨h.b1,h.b2,h.lb,h.lg,zI_ h.hs o.size,h.box.below hb h.lb,h.md.below hb h.lg,h.rd.below hb lR⟩
theorem addx_any {w:World} {B gb g gf gc:Nat} {m:ModH} {y:Value} {x:Net} (E:FEnv w B gb g m y x gf gc) {vs:List Rv} {u:Rv} {s:List Rat×Rat} (f:FmS w gf gc vs u s.1 s.2) {n K:Nat} (hs:FOk n K s) (hK:K≤1000000) (hn:n=busN x) (h8:x.nodes.length≤8) (ok:NetOk x) {k:Nat} {b:Br} (hb:x.brs[k]?=some b) (minus:Bool) :
    Calls Tryz.prog 107 #[.int .i64 (k:Int),.bool minus,.pointer (some ⟨gb,0,none⟩),.pointer (some ⟨gf,0,none⟩)] w (AddP gf gc (susR b) (conR b) minus (busAt x b.fr) (busAt x b.to) s.1 s.2 w):=by
 obtain ⟨a1,a2,a3,a4⟩:=mFrom_at hb;have hm:=ok.br b (zC_ hb);have hB:=(busN_ok ok).2;have l1:=(busAt_ok ok hm.1).2.1;have l2:=(busAt_ok ok hm.2.1).2.1;have hl:=hs.len;exact addm_any gb g m y x gf gc vs u s.1 s.2 k minus _ _ _ _ w B E.b1 E.b2 E.lb E.lg E.box E.md E.rd f a3 a4 a1 a2 (by omega) (by omega) (by have:=ok.l2;omega) (by omega) (fun p hp=>zI_ (hs.cf p hp) hK) (zI_ (sus_qsz hm.2.2.2) (by decide)) (zI_ (con_qsz hm.2.2.2) (by decide)) (zI_ hs.fr hK)
theorem addx_ok {x:Net} (ok:NetOk x) {n K k:Nat} {s:List Rat×Rat} (hs:FOk n K s) (hn:n=busN x) {b:Br} (hb:x.brs[k]?=some b) (minus:Bool):FOk n (K+6) (addF (sg minus (susR b)) (busAt x b.fr) (busAt x b.to) s.1,s.2+sg minus (conR b)):=by
 have hm:=ok.br b (zC_ hb);exact hs.add minus (by rw [hn];exact (busAt_ok ok hm.1).2.1) (by rw [hn];exact (busAt_ok ok hm.2.1).2.1) (sus_qsz hm.2.2.2) (con_qsz hm.2.2.2)
def rowR (x:Net) (q:List Rat):List Rat:=(freeL x).map (vf q)
theorem freeL_lt {x:Net} {j:Nat} (h:j∈freeL x):j<busN x:=by
 unfold freeL pick at h;have h2:=(List.mem_filter.1 h).1;exact List.mem_range.1 h2
theorem rowR_at {x:Net} {q:List Rat} {k j:Nat} (h:(freeL x)[k]?=some j):(rowR x q).take (k+1)=(rowR x q).take k++[vf q j]:=by
 have h2:(rowR x q)[k]?=some (vf q j):=by unfold rowR;rw [zM_,h];rfl
 exact take_at h2
def RowP (x:Net) (q:List Rat) (w:World) (e:Ending) (w':World):Prop:=Below w.heap.size w w'∧∃ B v us,w.heap.size≤B∧e=.returned v∧OwnQ w' B v us (rowR x q)
theorem orow_any (g:Nat) (m:ModH) (y:Value) (x:Net) (ok:NetOk x) (h8:x.nodes.length≤8) (u:Rv) (A:Option Addr) (n c:Nat) (q:List Rat) (w:World) (hg:Blk w g 122 (m.cells y)) (hr:RdMod w w.heap.size m x) (hq:RdQ w w.heap.size A n q) (hn:n=busN x) :
    Calls Tryz.prog 90 #[.pointer (some ⟨g,0,none⟩),.agg #[.slice A n c,.bool u.b1,.slice u.A u.n u.c,.bool u.b2,.slice u.A2 u.m u.d]] w (RowP x q w):=by
 have K0:Below w.heap.size w (w.alloc (.cells #[.slice A n c,.bool u.b1,.slice u.A u.n u.c,.bool u.b2,.slice u.A2 u.m u.d] 117)):=bA;have HK:=lH K0;have HFB:=lH (Blk.new w 117 #[.slice A n c,.bool u.b1,.slice u.A u.n u.c,.bool u.b2,.slice u.A2 u.m u.d]);have HG:=lH (hg.bl K0);have HR:=lH (hr.up K0);have HQ:=lH (hq.up K0);have HNB:=lH hn;have HN6:Hid ((freeL x).length=m.n6):=lH (by rw [←natJ_len];exact hr.r6.len);have h6:m.n6≤8:=by rw [←HN6.o];exact freeL_len ok h8
 have HQL:Hid (q.length=n):=lH (by obtain ⟨vs,_,h,_⟩:=hq;exact h);have hnb:n≤8:=by rw [hn];exact zI_ (busN_ok ok).2 h8
 have HSZ:Hid (w.heap.size≤(w.alloc (.cells #[.slice A n c,.bool u.b1,.slice u.A u.n u.c,.bool u.b2,.slice u.A2 u.m u.d] 117)).heap.size):=lH K0.size;have HFW:Hid (w.heap.size<(w.alloc (.cells #[.slice A n c,.bool u.b1,.slice u.A u.n u.c,.bool u.b2,.slice u.A2 u.m u.d] 117)).heap.size):=lH HFB.o.lt;clear K0 hg hr hq hn ok;obtain ⟨A0,n0,c0,A1,n1,c1,A2,n2,c2,A3,n3,c3,A4,n4,c4,A5,n5,c5,A6,n6,c6⟩:=m;simp only [ModH.cells] at HG HN6 h6;have y6:=HG.o.cell 6;have yl:=HG.o.lt;go_enter Tryz.func90,Tryz.ntmps90
 go_wp2_with fail
 clear y6 yl;generalize w.alloc (.cells #[.slice A n c,.bool u.b1,.slice u.A u.n u.c,.bool u.b2,.slice u.A2 u.m u.d] 117)=W at *
 go_loopw [5,13] (fun v5 v13 wr=>∃ (k:Nat) (us:List Rv),k≤n6∧v13=.int .i64 k∧OwnQ wr W.heap.size v5 us ((rowR x q).take k)∧Below W.heap.size W wr) (fun _ v13 _=>n6-(intOf v13).toNat)
 case atStart=>exact ⟨0,[],by omega,rfl,ownQ_none _ _,bR⟩
 case round=>
  obtain ⟨k,us,hk,rfl,ho,hb⟩:=hrel;have HO:=lH ho;have HB:=lH hb;clear ho hb
  by_cases hlt:k<n6
  ·obtain ⟨j,hj⟩:∃ j,(freeL x)[k]?=some j:=zX_ (by have:=HN6.o;omega)
   have HTK:=lH (rowR_at (q:=q) hj);have hjb:j<n:=by rw [HNB.o];exact freeL_lt (zC_ hj)
   have hr6:=(HR.o.up HB.o).r6;simp only at hr6;obtain ⟨fb,fo,hA,hfb,-⟩:=hr6.2 (by have:=hr6.len;omega);subst hA;have f0:=hr6.at_ (natJ_at hj);have HQW:=HQ.o.up HB.o;obtain ⟨ab,ao,hA1,hab⟩:=HQW.form (by omega);subst hA1;obtain ⟨xe,a0,a1,a2,a3,a4⟩:=HQW.at_ (vf_get (i:=j) (by rw [HQL.o];exact hjb));have HX:=lH a4;have HFBw:=HFB.o.bl HB.o;have z0:=HFBw.cell 0;have zl:=HFBw.lt;have hkI:(k:Int)<(n6:Int):=by omega
   have hk0:=lZ k
   have hkn:=zL_ k;have hjI:(j:Int)<(n:Int):=by omega
   have hj0:=lZ j
   have hjn:=zL_ j;have HNX:=lN k;have HNM:Hid (n6-(k+1)<n6-k):=lH (by omega);have HGW:Hid (W.heap.size≤wr.heap.size):=lH HB.o.size;clear hj a4 hr6 HQW HFBw
   go_wp2_with (at_builtin;refine wpList_appQ rfl (.tmp 17) (.tmp 23) _ rfl W.heap.size Tryz.underlying93 u5 us _ rfl HO.o xe _ HX.o rfl ?k1 HGW.o ?_)
   case k1=>rw [zF_];omega
   intro v' w8 hown hkeep hb8;have HO8:=lH hown;have HB8:=lH (HB.o.trans hb8);clear hown hkeep hb8 f0 a0 a1 a2 a3 z0 zl
   go_wp2_with fail
   go_roundw
   case rel=>exact ⟨k+1,us++[xe],hlt,val_int HNX.o,by rw [HTK.o];exact HO8.o,HB8.o⟩
   case measure=>exact HNM.o
  ·have hke:k=n6:=by omega
   have HOE:Hid (OwnQ wr W.heap.size u5 us (rowR x q)):=lH (by
    have h:=HO.o;rw [zH_ (by unfold rowR;rw [zG_];have:=HN6.o;omega)] at h;exact h)
   have hkI:¬(k:Int)<(n6:Int):=by omega
   go_wp2_with fail
   go_ret;exact ⟨HK.o.trans (HB.o.mono HSZ.o),_,_,_,HSZ.o,rfl,HOE.o⟩
end
end Go.Proofs.YthgdchffeigkbaaGreatDoor
