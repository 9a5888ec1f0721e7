import Derived.Test.YthgdchffeigkbaaGreatDoorV15
import Derived.Test.YthgdchffeigkbaaGreatDoorV19
import Derived.Test.YthgdchffeigkbaaGreatDoorV20
set_option linter.unusedVariables false
set_option linter.unusedSimpArgs false
namespace Go.Proofs.YthgdchffeigkbaaGreatDoor
set_option maxHeartbeats 4000000
set_option maxRecDepth 100000
variable {A : OA} {B K T b base c g gc gf i j k n off : Nat} {M : List (List Rat)} {cs : Array Value} {m : Mi} {ms xs : List Mi} {p : Rat} {q : List Rat} {u y : Rv} {v : Value} {w w' : World} {x : bO}
section
open Go.ChangeShapes Go.WideShapes Go.ChangeAt Go.RowKit
attribute [local go_sem ↓] aE
attribute [local go_sem] aJ aI aM aR bY.cells
theorem SS(F:FuncId)(cap:Array Value)(A:OA)(n c:Nat)(zs:List Br)(p:Br->Bool)(I:World->Prop)(hF:∀(args:Array Value)(w:Wo),(callFunc F args).run Tryz.prog w=.ok (.enter F args) w)(hI:∀w',I w'->zK w' w'.heap.size A n zs)(hf:∀(z:Br)(w':Wo),z∈zs->I w'->Calls Tryz.prog F (#[.agg #[.string z.name,.string z.fr,.string z.to,.int .i64 z.x,.int .i64 z.tap,.int .i64 z.shift,.int .i64 z.limit,.int .i64 z.short,.int .i64 z.hold]]++cap) w' fun e w''=>e=.returned (.bool (p z))/\I w'')(hn:n<=9223372036854775807)(w:Wo)(hw:I w):Calls Tryz.prog 134 #[.slice A n c,.func (.func F) #[] cap] w fun e w'=>e=.returned (.int .i64 (gW p zs 0))/\I w':=by
 obtain⟨HF,HII,HI⟩:=d_ hf hI hw;have dW:=lH (hI w hw).1;clear hf hw hI;go_enter Tryz.func134,Tryz.ntmps134
 go_wp2_with fail
 go_loopw [5,8] (fun _ i wr=>∃k:Nat,k<=n/\i=.int .i64 k/\I wr/\gW p zs 0=gW p (zs.drop k) k) (fun _ i _=>n-(intOf i).toNat)
 case atStart=>exact⟨0,by omega,rfl,HI.o,rfl⟩
 case round=>
  obtain⟨k,hk,rfl,hIw,CK⟩:=hrel;have rC:=HII.o wr hIw;have HIW:=lH hIw;have uU:=lH CK;clear hIw CK;by_cases aU:k<n
  ·obtain⟨z,hz⟩:∃z,zs[k]?=some z:=eA (by have:=dW.out;omega)
   have HM:=lH (bV hz);obtain⟨b,off,rfl,S8⟩:=rC.form (by omega);obtain⟨c0,c1,c2,c3,c4,c5,c6,c7,c8⟩:=rC.at_ hz;have HZ:=lH (cM hz);clear hz;(go_wp2_with fail);refine(HF.o z wr HM.o HIW.o).mono ?_;cases hp:p z with
   | true=>
    rintro e w1 ⟨rfl,hI1⟩;have E9:=lH hI1;have HP:=lH hp;clear hI1 hp;(go_wp2_with fail);go_ret;exact⟨aX (by rw[uU.o,HZ.o];simp[gW,HP.o]),E9.o⟩
   | false=>
    rintro e w1 ⟨rfl,hI1⟩;have E9:=lH hI1;have HP:=lH hp;clear hI1 hp;(go_wp2_with fail);go_roundw
    case rel=>exact⟨k+1,by omega,by go_num,E9.o,by rw[uU.o,HZ.o];simp[gW,HP.o]⟩
    case measure=>simp[intOf];omega
  ·have hd:zs.drop k=[]:=by rw[List.drop_eq_nil_iff];have:=dW.out;omega
   have HD:=lH hd;clear hd rC;(go_wp2_with fail);go_ret;exact⟨aX (by rw[uU.o,HD.o];rfl),HIW.o⟩
theorem aFe(x:Br)(s:ByteArray)(g:Nat)(w:Wo)(hg:w.cell? ⟨g,0,none⟩=some (.string s)):Calls Tryz.prog 135 (#[.agg #[.string x.name,.string x.fr,.string x.to,.int .i64 x.x,.int .i64 x.tap,.int .i64 x.shift,.int .i64 x.limit,.int .i64 x.short,.int .i64 x.hold]]++#[.pointer (some ⟨g,0,none⟩)]) w fun e w'=>e=.returned (.bool (pH x.name s))/\Below w.heap.size w w':=by
 have aU:=World.block_lt_of_cell? w ⟨g,0,none⟩ hg;show Calls Tryz.prog 135 #[.agg #[.string x.name,.string x.fr,.string x.to,.int .i64 x.x,.int .i64 x.tap,.int .i64 x.shift,.int .i64 x.limit,.int .i64 x.short,.int .i64 x.hold],.pointer (some ⟨g,0,none⟩)] w _;go_enter Tryz.func135,Tryz.ntmps135
 go_wp2_with fail
 go_ret;exact⟨rfl,bA⟩
theorem J4(args:Array Value)(w:Wo):(callFunc 135 args).run Tryz.prog w=.ok (.enter 135 args) w:=
 qZ Tryz.func135 (by kernel_rfl) rfl args w
def lL(x:bO)(s:ByteArray):Int:=gW (fun b:Br=>pH b.name s) x.brs 0
theorem oE(x:bO)(s:ByteArray):(lL x s=-1/\∀b∈x.brs,b.name≠s)\/∃(i:Nat)(b:Br),lL x s=(i:Int)/\x.brs[i]?=some b/\b.name=s:=by
 rcases uE (fun b:Br=>pH b.name s) x.brs 0 with⟨h1,h2⟩ | ⟨i,b,h1,h2,h3,_⟩
 ·exact .inl ⟨h1,fun b hb=>t8.1 (h2 b hb)⟩
 ·exact .inr ⟨i,b,by unfold lL;rw[h1];simp,h2,pM.1 h3⟩
theorem wV(h:bY)(x:bO)(s:ByteArray)(w:Wo)(r:cQ w w.heap.size h x):Calls Tryz.prog 102 #[.agg h.cells,.string s] w fun e w'=>e=.returned (.int .i64 (lL x s))/\Below w.heap.size w w':=by
 have K0:Below w.heap.size w ((w.alloc (.cells h.cells 29)).alloc (.cells #[.string s] 9)):=(bA).alloc (by simp) _;have HK:=lH K0;have HR:=lH (r.up K0);have hm:=r.m2;have hs:((w.alloc (.cells h.cells 29)).alloc (.cells #[.string s] 9)).cell? ⟨w.heap.size+1,0,none⟩=some (.string s):=(aG.new_ (t:=9) (cs:=#[.string s]) (w:=w.alloc (.cells h.cells 29)) (by simp)).cell 0;have HS:=lH hs;clear K0 r hs;go_enter Tryz.func102,Tryz.ntmps102
 go_wp2_with fail
 refine(SS _ _ h.A2 h.n2 h.c2 x.brs (fun b=>pH b.name s) (fun w'=>Below ((w.alloc (.cells h.cells 29)).alloc (.cells #[.string s] 9)).heap.size ((w.alloc (.cells h.cells 29)).alloc (.cells #[.string s] 9)) w') J4
  (fun w' hb=>(HR.o.up hb).r2) (fun z w' _ hb=>(aFe z s (w.heap.size+1) w' ((hb.cell (p:=⟨w.heap.size+1,0,none⟩) (by simp)).trans HS.o)).mono fun e w'' ⟨he,bH⟩=>⟨he,hb.tm bH⟩) hm _ bR).mono ?_
 rintro e w1 ⟨rfl,hb⟩;have HB:=bW HK hb;clear hb
 go_wp2_with fail
 go_ret;exact⟨rfl,HB.o⟩
def CB(x:bO)(m:Mi):Int:=
 if m.kind<0\/2<m.kind then 1 else if(m.kind=0/\lL x m.name<0)\/(m.kind≠0/\(x.nodes.any fun y=>pH m.name y)=false) then 6 else
 if cI m.txt.data.toList≠0 then cI m.txt.data.toList else if m.wt<1\/1000<m.wt then 4 else 0
def u_(x:bO):List Mi->Int
 | []=>0
 | m::r=>if CB x m=0 then u_ x r else CB x m
def dJ(x:bO)(ms:List Mi):Int:=if b_ x≠0 then b_ x else if 64<ms.length then 2 else u_ x ms
theorem CA:∀{ms:List Mi},u_ x ms=0->∀m∈ms,CB x m=0
 | [],_,m,h=>by cases h
 | a::r,h,m,hm=>by
  unfold u_ at h;split at h
  ·rename_i ha
   rcases List.mem_cons.1 hm with h1 | h1
   ·rw[h1];exact ha
   ·exact CA h m h1
  ·exact absurd h (by assumption)
theorem WW(h:ms[k]?=some m):u_ x (ms.drop k)=if CB x m=0 then u_ x (ms.drop (k+1)) else CB x m:=by
 rw[cM h];rfl
theorem AG(h:bY)(x:bO)(A:OA)(n c:Nat)(ms:List Mi)(w:Wo)(r:cQ w w.heap.size h x)(hm:fP w w.heap.size A n ms)(hz:∀m∈ms,m.txt.size<=maxLen)(hn:n<=9223372036854775807)(ht:dM w):Calls Tryz.prog 60 #[.agg h.cells,.slice A n c] w fun e w'=>e=.returned (.int .i64 (dJ x ms))/\Below w.heap.size w w':=by
 have K0:=jT w (.cells h.cells 29);obtain⟨HK,E6,HM,mA,HZ⟩:=kN K0 r hm hm.1 hz;have HT:=lH ht;have HX:=lH (aG.new w 29 h.cells);have HC:=lH (tM h x _ (r.up K0));have KP:Hid (h.n0<=9223372036854775807):=lH r.m0;have dW:ms.length=n:=hm.1;clear K0 r hm hz ht;obtain⟨A0,m0,c0,A1,m1,c1,A2,m2,c2,A3,m3,c3,A4,m4,c4,A5,m5,c5⟩:=h;simp only[bY.cells] at HK HX HC KP ⊢;have hlI:(64:Int)<(n:Int)<->64<ms.length:=by omega
 have HLI:=lH hlI;clear hlI dW;go_enter Tryz.func60,Tryz.ntmps60
 go_upto_region 1 with fail
 generalize w.alloc (.cells #[.slice A0 m0 c0,.slice A1 m1 c1,.slice A2 m2 c2,.slice A3 m3 c3,.slice A4 m4 c4,.slice A5 m5 c5] 29)=W at *;obtain⟨y0,y1,y2,y3,y4,y5,zV⟩:=HX.o.b6
 go_wp2_with fail
 refine HC.o.mono ?_;clear y0 y1 y2 y3 y4 y5 zV HC;rintro e w1 ⟨he,bC⟩;have bT:=bW HK bC;have eB:=lH (HX.o.bl bC);clear bC HK HX;by_cases h0:b_ x=0
 ·rw[h0] at he
  subst he;have HE0:Hid (dJ x ms=if 64<ms.length then 2 else u_ x ms):=lH (by unfold dJ;rw[if_neg (by simp[h0])]);clear h0;by_cases h64:64<ms.length
  ·have aY_:(64:Int)<(n:Int):=HLI.o.2 h64
   have HE1:Hid (dJ x ms=2):=lH (by rw[HE0.o,if_pos h64]);clear h64;(go_wp2_with fail);go_ret;exact⟨by rw[HE1.o];rfl,bT.o⟩
  ·have aY_:¬(64:Int)<(n:Int):=fun h=>h64 (HLI.o.1 h)
   have HE1:Hid (dJ x ms=u_ x ms):=lH (by rw[HE0.o,if_neg h64]);clear h64;(go_wp2_with fail)
   go_loopw [19] (fun v19 wr=>∃k:Nat,k<=n/\v19=.int .i64 k/\Below w.heap.size w wr/\aG wr w.heap.size 29 #[.slice A0 m0 c0,.slice A1 m1 c1,.slice A2 m2 c2,.slice A3 m3 c3,.slice A4 m4 c4,.slice A5 m5 c5]/\u_ x ms=u_ x (ms.drop k)) (fun v19 _=>n-(intOf v19).toNat)
   case atStart=>exact⟨0,by omega,rfl,bT.o,eB.o,rfl⟩
   case round=>
    clear bT eB;obtain⟨k,hk,rfl,hb,hx,pD⟩:=hrel;obtain⟨HB,HX,kV⟩:=d_ hb hx pD;clear hb hx pD;by_cases aU:k<n
    ·obtain⟨m,hm⟩:∃m,ms[k]?=some m:=eA (by have:=mA.o;omega)
     obtain⟨b,off,hA,hb⟩:=(HM.o.below HB.o lR).form (by omega);subst hA;obtain⟨a0,a1,a2,a3⟩:=(HM.o.below HB.o lR).at_ hm;have sH:b<wr.heap.size:=jE hb HB.o.size;have HD:=lH (WW (x:=x) hm);rw[<-kV.o] at HD;have HTZ:=lH (HZ.o m (bV hm));have fY:(k:Int)<(n:Int):=by omega
     have fC:=lN k;have iI:Hid (n-(k+1)<n-k):=lH (by omega);clear hm hb;(go_upto_region 9 with fail);clear a0 a1 a2 a3 sH;generalize AW:wr.alloc (.cells #[.int .i64 m.kind,.string m.name,.string m.txt,.int .i64 m.wt] 57)=wa;have pI:Below wr.heap.size wr wa:=by rw[<-AW];exact bA
     have HS:Hid (aG wa wr.heap.size 57 #[.int .i64 m.kind,.string m.name,.string m.txt,.int .i64 m.wt]):=lH (by rw[<-AW];exact aG.new wr _ _);replace HB:=lH (HB.o.tm pI);replace HX:=lH (HX.o.bl pI);have HRN:=lH (E6.o.up HB.o);clear AW pI;generalize wr.heap.size=gx at *;obtain⟨s0,s1,s2,s3,sl⟩:=HS.o.b4;have z7:Hid (Calls Tryz.prog 104 #[.string m.txt] wa fun e w'=>e=.returned (.int .i64 (cI m.txt.data.toList))/\Below wa.heap.size wa w'):=lH (by
      have h:=xX m.txt.data.toList (by rw[Array.length_toList];exact HTZ.o) wa (HT.o.up HB.o);rwa[show(⟨m.txt.data.toList.toArray⟩:ByteArray)=m.txt from by cases m.txt;simp] at h)
     have KO:Hid (CB x m=if m.kind<0\/2<m.kind then 1 else if(m.kind=0/\lL x m.name<0)\/(m.kind≠0/\(x.nodes.any fun y=>pH m.name y)=false) then 6 else
      if cI m.txt.data.toList≠0 then cI m.txt.data.toList else if m.wt<1\/1000<m.wt then 4 else 0):=lH rfl
     have HNZ:Hid (∀z,CB x m=z->z≠0->dJ x ms=z):=lH fun z h hz=>by rw[HE1.o,HD.o,if_neg (by rw[h];exact hz),h]
     by_cases FR:m.kind<0
     ·have HE:Hid (dJ x ms=1):=lH (HNZ.o 1 (by rw[KO.o,if_pos (.inl FR)]) (by decide))
      (go_wp2_with fail);go_ret;exact⟨by rw[HE.o];rfl,HB.o⟩
     by_cases rV:2<m.kind
     ·have HE:Hid (dJ x ms=1):=lH (HNZ.o 1 (by rw[KO.o,if_pos (.inr rV)]) (by decide))
      (go_wp2_with fail);go_ret;exact⟨by rw[HE.o];rfl,HB.o⟩
     rw[if_neg (by omega)] at KO;have aMs:Hid (∀w2,Below wa.heap.size wa w2->(¬((m.kind=0/\lL x m.name<0)\/(m.kind≠0/\(x.nodes.any fun y=>pH m.name y)=false)))->True):=lH fun _ _ _=>trivial
     by_cases lB:m.kind=0
     ·have aX5:(m.kind == 0)=true:=by simp[lB]
      obtain⟨y0,y1,y2,y3,y4,y5,yl⟩:=HX.o.b6;have HBC:=lH (wV ⟨A0,m0,c0,A1,m1,c1,A2,m2,c2,A3,m3,c3,A4,m4,c4,A5,m5,c5⟩ x m.name wa HRN.o);obtain⟨bi,QY⟩:∃bi,lL x m.name=bi:=⟨_,rfl⟩;rw[QY] at HBC KO;(go_wp2_with fail);refine HBC.o.mono ?_;rintro e w2 ⟨rfl,bH⟩;have cH:=bW HB bH;have f_:=lH (HX.o.bl bH);have nO:=lH (HS.o.bl bH);clear bH HBC y0 y1 y2 y3 y4 y5 yl s0 s1 s2 s3 sl z7 aMs;have s0:=nO.o.cell 0;have s2:=nO.o.cell 2;have s3:=nO.o.cell 3;have sl:=nO.o.lt;by_cases AZ:bi<0
      ·have HE:Hid (dJ x ms=6):=lH (HNZ.o 6 (by rw[KO.o,if_pos (.inl ⟨lB,AZ⟩)]) (by decide))
       (go_wp2_with fail);go_ret;exact⟨by rw[HE.o];rfl,cH.o⟩
      ·rw[if_neg (by rintro(⟨_,h⟩ | ⟨h,_⟩)<;>contradiction)] at KO
       have Y9:Hid (Calls Tryz.prog 104 #[.string m.txt] w2 fun e w'=>e=.returned (.int .i64 (cI m.txt.data.toList))/\Below w2.heap.size w2 w'):=lH (by
        have h:=xX m.txt.data.toList (by rw[Array.length_toList];exact HTZ.o) w2 (HT.o.up cH.o);rwa[show(⟨m.txt.data.toList.toArray⟩:ByteArray)=m.txt from by cases m.txt;simp] at h)
       obtain⟨rc,hrc⟩:∃rc,cI m.txt.data.toList=rc:=⟨_,rfl⟩;rw[hrc] at Y9 KO;(go_wp2_with fail);refine Y9.o.mono ?_;rintro e w3 ⟨rfl,cN⟩;have dY:=bW cH cN;have YM:=lH (f_.o.bl cN);have HS3:=lH (nO.o.bl cN);clear cN Y9 hrc;have t3:=HS3.o.cell 3;have tl:=HS3.o.lt;by_cases gN:rc=0
       ·subst gN
        rw[if_neg (by simp)] at KO;by_cases hw1:m.wt<1
        ·have HE:Hid (dJ x ms=4):=lH (HNZ.o 4 (by rw[KO.o,if_pos (.inl hw1)]) (by decide))
         (go_wp2_with fail);go_ret;exact⟨by rw[HE.o];rfl,dY.o⟩
        by_cases hw2:1000<m.wt
        ·have HE:Hid (dJ x ms=4):=lH (HNZ.o 4 (by rw[KO.o,if_pos (.inr hw2)]) (by decide))
         (go_wp2_with fail);go_ret;exact⟨by rw[HE.o];rfl,dY.o⟩
        rw[if_neg (by omega)] at KO;rw[if_pos KO.o] at HD;(go_wp2_with fail);go_roundw
        case rel=>exact⟨k+1,aU,aO fC.o,dY.o,YM.o,kV.o.trans (kV.o.symm.trans HD.o)⟩
        case measure=>exact iI.o
       ·have HE:Hid (dJ x ms=rc):=lH (HNZ.o rc (by rw[KO.o,if_pos gN]) gN)
        have aXx:(rc != 0)=true:=by simp[gN]
        clear gN;(go_wp2_with fail);go_ret;exact⟨by rw[HE.o];rfl,dY.o⟩
     ·have aX5:(m.kind == 0)=false:=by simp[lB]
      have a5N:(m.kind != 0)=true:=by simp[lB]
      obtain⟨y0,yl⟩:=HX.o.b1;have HBC:=lH (uS A0 m0 c0 x.nodes m.name wa HRN.o.r0 KP.o);obtain⟨bi,QY⟩:∃bi,(x.nodes.any fun y=>pH m.name y)=bi:=⟨_,rfl⟩;rw[QY] at HBC KO;(go_wp2_with fail);refine HBC.o.mono ?_;rintro e w2 ⟨rfl,rfl⟩;have cH:=HB;have f_:=HX;have nO:=HS;clear HBC y0 yl aMs;cases bi with
      | false=>
       have HE:Hid (dJ x ms=6):=lH (HNZ.o 6 (by rw[KO.o,if_pos (.inr ⟨lB,rfl⟩)]) (by decide));(go_wp2_with fail);go_ret;exact⟨by rw[HE.o];rfl,cH.o⟩
      | true=>
       rw[if_neg (by rintro(⟨h,_⟩ | ⟨_,h⟩);exact lB h;cases h)] at KO;have w2eq:True:=trivial;have Y9:Hid (Calls Tryz.prog 104 #[.string m.txt] wa fun e w'=>e=.returned (.int .i64 (cI m.txt.data.toList))/\Below wa.heap.size wa w'):=lH (by
        have h:=xX m.txt.data.toList (by rw[Array.length_toList];exact HTZ.o) wa (HT.o.up cH.o);rwa[show(⟨m.txt.data.toList.toArray⟩:ByteArray)=m.txt from by cases m.txt;simp] at h)
       obtain⟨rc,hrc⟩:∃rc,cI m.txt.data.toList=rc:=⟨_,rfl⟩;rw[hrc] at Y9 KO;(go_wp2_with fail);refine Y9.o.mono ?_;rintro e w3 ⟨rfl,cN⟩;have dY:=bW cH cN;have YM:=lH (f_.o.bl cN);have HS3:=lH (nO.o.bl cN);clear cN Y9 hrc;have t3:=HS3.o.cell 3;have tl:=HS3.o.lt;by_cases gN:rc=0
       ·subst gN
        rw[if_neg (by simp)] at KO;by_cases hw1:m.wt<1
        ·have HE:Hid (dJ x ms=4):=lH (HNZ.o 4 (by rw[KO.o,if_pos (.inl hw1)]) (by decide))
         (go_wp2_with fail);go_ret;exact⟨by rw[HE.o];rfl,dY.o⟩
        by_cases hw2:1000<m.wt
        ·have HE:Hid (dJ x ms=4):=lH (HNZ.o 4 (by rw[KO.o,if_pos (.inr hw2)]) (by decide))
         (go_wp2_with fail);go_ret;exact⟨by rw[HE.o];rfl,dY.o⟩
        rw[if_neg (by omega)] at KO;rw[if_pos KO.o] at HD;(go_wp2_with fail);go_roundw
        case rel=>exact⟨k+1,aU,aO fC.o,dY.o,YM.o,kV.o.trans (kV.o.symm.trans HD.o)⟩
        case measure=>exact iI.o
       ·have HE:Hid (dJ x ms=rc):=lH (HNZ.o rc (by rw[KO.o,if_pos gN]) gN)
        have aXx:(rc != 0)=true:=by simp[gN]
        clear gN;(go_wp2_with fail);go_ret;exact⟨by rw[HE.o];rfl,dY.o⟩
    ·have nH:k=n:=by omega
     have HE:Hid (dJ x ms=0):=lH (by rw[HE1.o,kV.o,List.drop_eq_nil_of_le (by have:=mA.o;omega)];rfl);have fY:¬(k:Int)<(n:Int):=by omega
     (go_wp2_with fail);go_ret;exact⟨by rw[HE.o];rfl,HB.o⟩
 ·have HE:Hid (dJ x ms=b_ x):=lH (by unfold dJ;rw[if_pos h0])
  generalize b_ x=z at *;subst he;have h0b:(z != 0)=true:=by simp[h0]
  clear h0;(go_wp2_with fail);go_ret;exact⟨by rw[HE.o];rfl,bT.o⟩
end
section
open Go.ChangeShapes Go.WideShapes Go.ChangeAt Go.RowKit
attribute [local go_sem ↓] aE
attribute [local go_sem] aJ aI aM aR
def lP(b:Rat)(u v:Nat)(q:List Rat):List Rat:=(q.set u (vf q u+b)).set v (vf (q.set u (vf q u+b)) v-b)
theorem gG{b:Rat}{u v:Nat}:(lP b u v q).length=q.length:=by unfold lP;rw[lS,lS]
def sg(minus:Bool)(b:Rat):Rat:=if minus then -b else b
structure CY (a b:Nat) (w w':Wo):Prop where
 os:w'.os=w.os
 tape:w'.tape=w.tape
 output:w'.output=w.output
 size:w.heap.size<=w'.heap.size
 block:∀i,i<w.heap.size->i≠a->i≠b->w'.heap[i]?=w.heap[i]?
theorem CY.trans{a:Nat}{w1 w2:Wo}(h:CY a b w w1)(k:CY a b w1 w2):CY a b w w2:=
 ⟨k.os.trans h.os,k.tape.trans h.tape,k.output.trans h.output,cO h.size k.size,fun i hi h1 h2=>(k.block i (jE hi h.size) h1 h2).trans (h.block i hi h1 h2)⟩
theorem fH{a:Nat}(h:Below w.heap.size w w'):CY a b w w':=⟨h.os,h.tape,h.output,h.size,fun i hi _ _=>h.block i hi⟩
theorem CY.below{a:Nat}(h:CY a b w w')(ha:B<=a)(hb:B<=b)(hB:B<=w.heap.size):Below B w w':=⟨h.os,h.tape,h.output,h.size,fun i hi=>h.block i (by omega) (by omega) (by omega)⟩
theorem CY.blk{a t:Nat}(h:CY a b w w')(hb:aG w g t cs)(h1:g≠a)(h2:g≠b):aG w' g t cs:=(h.block g hb.lt h1 h2).trans hb
theorem rP{a:Nat}{u:Value}:CY a b w (w.setCell ⟨b,i,none⟩ u):=⟨rfl,rfl,rfl,by simp[World.setCell],fun k hk h1 h2=>Below.heap_setCell w ⟨b,i,none⟩ u k (fun e=>h2 e)⟩
theorem pO{a:Nat}{u:Value}:CY a b w (w.setCell ⟨a,i,none⟩ u):=⟨rfl,rfl,rfl,by simp[World.setCell],fun k hk h1 h2=>Below.heap_setCell w ⟨a,i,none⟩ u k (fun e=>h1 e)⟩
structure FC (w:Wo) (gf gc:Nat) (vs:List Rv) (u:Rv) (q:List Rat) (z:Rat):Prop where
 blk:aG w gf 117 #[.slice (some ⟨gc,0,none⟩) q.length q.length,.bool u.b1,.slice u.A u.n u.c,.bool u.b2,.slice u.A2 u.m u.d]
 row:∃cs,aG w gc 115 cs/\cs.toList.take (q.length*4)=fX vs
 len:vs.length=q.length
 ok:lI w vs q
 val:dD w w.heap.size z u
section
variable {w w':Wo} {gf gc:Nat} {vs:List Rv} {u:Rv} {q:List Rat} {z:Rat}
theorem FC.up(f:FC w gf gc vs u q z)(hb:Below w.heap.size w w'):FC w' gf gc vs u q z:=by
 obtain⟨cs,h1,h2⟩:=f.row;exact⟨f.blk.bl hb,⟨cs,h1.bl hb,h2⟩,f.len,f.ok.up hb,f.val.up hb⟩
theorem FC.ne(f:FC w gf gc vs u q z):gf≠gc:=by
 obtain⟨cs,h1,h2⟩:=f.row;exact f.blk.apart h1 (by decide)
theorem FC.elem(f:FC w gf gc vs u q z)(hj:j<q.length):∃x,vs[j]?=some x/\w.cell? ⟨gc,j*4,none⟩=some (.bool x.b1)/\w.cell? ⟨gc,j*4+1,none⟩=some (.slice x.A x.n x.c)/\w.cell? ⟨gc,j*4+2,none⟩=some (.bool x.b2)/\w.cell? ⟨gc,j*4+3,none⟩=some (.slice x.A2 x.m x.d)/\dD w w.heap.size (vf q j) x/\gc<w.heap.size/\(∀o,w.frozen? ⟨gc,o,none⟩=false):=by
 obtain⟨cs,h1,h2⟩:=f.row;obtain⟨x,hx⟩:∃x,vs[j]?=some x:=eA (by rw[f.len];exact hj);obtain⟨c0,c1,c2,c3⟩:=h1.row_cell h2 hx;exact⟨x,hx,c0,c1,c2,c3,f.ok j _ x (a_ hj) hx,h1.lt,h1.frozen⟩
theorem FC.elem2(f:FC w gf gc vs u q z){x:Rv}(hx:vs[j]?=some x):w.cell? ⟨gc,j*4,none⟩=some (.bool x.b1)/\w.cell? ⟨gc,j*4+1,none⟩=some (.slice x.A x.n x.c)/\w.cell? ⟨gc,j*4+2,none⟩=some (.bool x.b2)/\w.cell? ⟨gc,j*4+3,none⟩=some (.slice x.A2 x.m x.d)/\gc<w.heap.size/\(∀o,w.frozen? ⟨gc,o,none⟩=false):=by
 obtain⟨cs,h1,h2⟩:=f.row;obtain⟨c0,c1,c2,c3⟩:=h1.row_cell h2 hx;exact⟨c0,c1,c2,c3,h1.lt,h1.frozen⟩
theorem FC.keep(f:FC w gf gc vs u q z)(hj:j<q.length){x:Rv}(hy:dD w w.heap.size p y):dD (eO w gc j x) (eO w gc j x).heap.size p y:=by
 obtain⟨cs,h1,h2⟩:=f.row;obtain⟨x0,hx⟩:∃x,vs[j]?=some x:=eA (by rw[f.len];exact hj);exact dD.keep4 hy x h1 h2 hx
theorem FC.put(f:FC w gf gc vs u q z)(hj:j<q.length){x:Rv}(hx:dD w w.heap.size p x):FC (eO w gc j x) gf gc (vs.set j x) u (q.set j p) z:=by
 obtain⟨cs,h1,h2⟩:=f.row;obtain⟨cs',k1,k2⟩:=h1.row_put x h2 f.len hj;refine⟨?_,⟨cs',k1,by rw[lS];exact k2⟩,by simp[f.len],fun i p' y hp hy=>?_,f.keep hj f.val⟩
 ·rw[lS];exact f.blk.far4 x f.ne
 ·rw[List.getElem?_set] at hp hy
  by_cases tE:j=i
  ·subst tE
   rw[if_pos rfl,if_pos hj] at hp;rw[if_pos rfl,if_pos (by rw[f.len];exact hj)] at hy;injection hp with hp;injection hy with hy;subst hp;subst hy;exact f.keep hj hx
  ·rw[if_neg tE] at hp hy
   exact f.keep hj (f.ok i p' y hp hy)
theorem BZ{x:Rv}:CY gf gc w (eO w gc j x):=((rP.trans rP).trans rP).trans rP
def aEC(w:Wo)(gf:Nat)(x:Rv):World:=(((w.setCell ⟨gf,1,none⟩ (.bool x.b1)).setCell ⟨gf,2,none⟩ (.slice x.A x.n x.c)).setCell ⟨gf,3,none⟩ (.bool x.b2)).setCell ⟨gf,4,none⟩ (.slice x.A2 x.m x.d)
theorem aER{x:Rv}:CY gf gc w (aEC w gf x):=((pO.trans pO).trans pO).trans pO
theorem FC.free(f:FC w gf gc vs u q z){x:Rv}(hx:dD w w.heap.size p x):FC (aEC w gf x) gf gc vs x q p:=by
 obtain⟨cs,h1,h2⟩:=f.row;have hb:=f.blk;have keep:∀{y:Rv}{t:Rat},dD w w.heap.size t y->dD (aEC w gf x) (aEC w gf x).heap.size t y:=fun{y t} hy=>by
  have b1:=hb.set_at (i:=1) (cs':=#[.slice (some ⟨gc,0,none⟩) q.length q.length,.bool x.b1,.slice u.A u.n u.c,.bool u.b2,.slice u.A2 u.m u.d]) (.bool x.b1) (by simp);have b2:=b1.set_at (i:=2) (cs':=#[.slice (some ⟨gc,0,none⟩) q.length q.length,.bool x.b1,.slice x.A x.n x.c,.bool u.b2,.slice u.A2 u.m u.d]) (.slice x.A x.n x.c) (by simp);have b3:=b2.set_at (i:=3) (cs':=#[.slice (some ⟨gc,0,none⟩) q.length q.length,.bool x.b1,.slice x.A x.n x.c,.bool x.b2,.slice u.A2 u.m u.d]) (.bool x.b2) (by simp);exact(((hy.keep1 hb (i:=1) (y:=.bool u.b1) rfl (fun k x h=>by cases h) _).keep1 b1 (i:=2) (y:=.slice u.A u.n u.c) rfl iL _).keep1 b2 (i:=3) (y:=.bool u.b2) rfl (fun k x h=>by cases h) _).keep1 b3 (i:=4) (y:=.slice u.A2 u.m u.d) rfl iL _
 refine⟨?_,⟨cs,(((h1.far (p:=⟨gf,1,none⟩) f.ne.symm _).far (p:=⟨gf,2,none⟩) f.ne.symm _).far (p:=⟨gf,3,none⟩) f.ne.symm _).far (p:=⟨gf,4,none⟩) f.ne.symm _,h2⟩,f.len,fun i p' y hp hy=>keep (f.ok i p' y hp hy),keep hx⟩;have:=(((hb.set_ 1 (.bool x.b1)).set_ 2 (.slice x.A x.n x.c)).set_ 3 (.bool x.b2)).set_ 4 (.slice x.A2 x.m x.d);unfold aEC;simpa using this
end
theorem aIV{a u:Nat}(h:∀t∈q,bI t<=a)(hp:bI p<=a)(hj:j<(q.set u p).length):bI (vf (q.set u p) j)<=a:=by
 rcases List.mem_or_eq_of_mem_set (bV (a_ hj)) with h1 | h1
 ·exact h _ h1
 ·rw[h1];exact hp
theorem L_(w:Wo):aG ((w.alloc (.cells #[.bool false,.slice none 0 0,.bool false,.slice none 0 0] 115)).alloc (.cells #[.bool false,.slice none 0 0,.bool false,.slice none 0 0] 115)).drew w.heap.size 115 #[.bool false,.slice none 0 0,.bool false,.slice none 0 0]/\aG ((w.alloc (.cells #[.bool false,.slice none 0 0,.bool false,.slice none 0 0] 115)).alloc (.cells #[.bool false,.slice none 0 0,.bool false,.slice none 0 0] 115)).drew (w.heap.size+1) 115 #[.bool false,.slice none 0 0,.bool false,.slice none 0 0]/\Below w.heap.size w ((w.alloc (.cells #[.bool false,.slice none 0 0,.bool false,.slice none 0 0] 115)).alloc (.cells #[.bool false,.slice none 0 0,.bool false,.slice none 0 0] 115)).drew:=
 ⟨((aG.new w _ _).alloc _).drew,(aG.new_ (by simp)).drew,aK (((Below.refl _ w).alloc lR _).alloc (by simp) _)⟩
theorem r_{x0 x1 x2 x3:Value}{v:Rv}(h:aG w g T #[x0,x1,x2,x3]):aG (F8 w g v) g T #[.bool v.b1,.slice v.A v.n v.c,.bool v.b2,.slice v.A2 v.m v.d]:=gF h
theorem yN{g':Nat}{v:Rv}(h:aG w g' T cs)(hg:g'≠g):aG (F8 w g v) g' T cs:=(((h.far hg _).far hg _).far hg _).far hg _
def aVL(gf gc:Nat)(b c:Rat)(minus:Bool)(u v:Nat)(q:List Rat)(z:Rat)(w:Wo)(e:Ending)(w':Wo):Prop:=e=.returned (.tuple #[])/\CY gf gc w w'/\∃vs r,FC w' gf gc vs r (lP (sg minus b) u v q) (z+sg minus c)
theorem aHa(gb g:Nat)(m:iU)(y:Value)(x:bO)(gf gc:Nat)(vs:List Rv)(u:Rv)(q:List Rat)(z:Rat)(k:Nat)(minus:Bool)(ui vi:Nat)(b c:Rat)(w:Wo)(B:Nat)(ND:B<=gf)(hB2:B<=gc)(yJ:gb<B)(hgg:g<B)(aGg:aG w gb 90 #[.pointer (some ⟨g,0,none⟩)])(hg:aG w g 122 (m.cells y))(gN:fB w B m x)(hf:FC w gf gc vs u q z)(hb:(mB x)[k]?=some b)(hc:(mC x)[k]?=some c)(hu:(gV x)[k]?=some ui)(hv:(CC x)[k]?=some vi)(hui:ui<q.length)(hvi:vi<q.length)(hl:x.brs.length<=1000)(hq:q.length<=1000)(h1:∀p∈q,bI p<=1000000)(h2:bI b<=1000000)(h3:bI c<=1000000)(h4:bI z<=1000000):Calls Tryz.prog 107 #[.int .i64 (k:Int),.bool minus,.pointer (some ⟨gb,0,none⟩),.pointer (some ⟨gf,0,none⟩)] w (aVL gf gc b c minus ui vi q z w):=by
 have yP:Hid (gf<w.heap.size):=lH hf.blk.lt;have Y8:Hid (gc<w.heap.size):=lH (by obtain⟨cs,k1,_⟩:=hf.row;exact k1.lt);obtain⟨bT,cH,Y2,HGG,E6⟩:=kN ND hB2 yJ hgg gN;have hr:=gN.more (show B<=w.heap.size by have:=yP.o;omega);obtain⟨HG,HR,HF,HBO⟩:=iK hg hr hf aGg;have mK:Hid (x.brs.length=m.n4):=lH (by rw[<-pF];exact hr.r4.len);have DB:Hid (x.brs.length=m.n5):=lH (by rw[<-OX];exact hr.r5.len);have iI:Hid (x.brs.length=m.n2):=lH (by rw[<-mQ,<-e_];exact hr.r2.len);have tS:Hid (x.brs.length=m.n3):=lH (by rw[<-rQ,<-e_];exact hr.r3.len);have KQ:Hid (k<x.brs.length):=lH (by rw[<-pF];exact(dH.1 hb).1);obtain⟨NZ,HSC,HSQ,dZ,HU⟩:=kN h2 h3 h1 h4 hu;obtain⟨HV,LW,F0,l8,wC⟩:=kN hv hui hvi hq hl;obtain⟨A0,n0,c0,A1,n1,c1,A2,n2,c2,A3,n3,c3,A4,n4,c4,A5,n5,c5,A6,n6,c6⟩:=m;simp only[iU.cells] at HG mK DB iI tS;have DE:=HR.o.r4;have y_:=HR.o.r5;simp only at DE y_;obtain⟨bb,bo,hA4,pE⟩:=DE.form (by have:=KQ.o;have:=mK.o;omega);subst hA4;obtain⟨xb,p0,p1,p2,p3,p4⟩:=DE.at_ hb;obtain⟨db,do',hA5,hdb⟩:=y_.form (by have:=KQ.o;have:=DB.o;omega);subst hA5;obtain⟨xc,e0,e1,e2,e3,e4⟩:=y_.at_ hc;have HXB:=lH p4;have UC:=lH e4;have hk4:(k:Int)<(n4:Int):=by have:=KQ.o;have:=mK.o;omega
 have hk5:(k:Int)<(n5:Int):=by have:=KQ.o;have:=DB.o;omega
 have lB:=lZ k;have rJ:=jF k;obtain⟨b0,bl⟩:=HBO.o.b1;have y4:=HG.o.cell 4;have y5:=HG.o.cell 5;have yl:=HG.o.lt;clear ND hB2 yJ hgg gN aGg hg hr hf hb hc hu hv hui hvi hl hq h1 h2 h3 h4 p4 e4 DE y_;go_enter Tryz.func107,Tryz.ntmps107
 go_upto_region 0 with fail
 go_cut [6,7] (fun v6 v7 wc=>∃g6 g7,v6=.pointer (some ⟨g6,0,none⟩)/\v7=.pointer (some ⟨g7,0,none⟩)/\g6≠g7/\aG wc g6 115 #[.bool xb.b1,.slice xb.A xb.n xb.c,.bool xb.b2,.slice xb.A2 xb.m xb.d]/\aG wc g7 115 #[.bool xc.b1,.slice xc.A xc.n xc.c,.bool xc.b2,.slice xc.A2 xc.m xc.d]/\w.heap.size<=g6/\w.heap.size<=g7/\Below w.heap.size w wc)
 case first=>
  refine kX 17 (fun hHeld=>?_);simp only[nI,List.take_zero];refine cW [0,1,2,3,4,5,6,7,8,9,10,11,12,13] ?_;refine OF 14 15 (by kernel_rfl) rfl rfl (fun K hK=>?_) (fun K hK=>?_)
  ·go_simp
   have HA:=lH ((aK (Below.refl w.heap.size w)).alloc lR (.cells #[.bool false,.slice none 0 0,.bool false,.slice none 0 0] 115));refine hK.out _ _ HA.o (fun hHeld=>?_);clear hK K HA;(try simp only[Act.put,gL,gK,gJ]);refine bQ 15 (fun K hK=>?_);go_simp;obtain⟨ha,hb,hc⟩:=L_ w;generalize ((w.alloc (.cells #[.bool false,.slice none 0 0,.bool false,.slice none 0 0] 115)).alloc (.cells #[.bool false,.slice none 0 0,.bool false,.slice none 0 0] 115)).drew=W at ha hb hc ⊢;obtain⟨Q5,HG7,HW⟩:=d_ ha hb hc;clear ha hb hc;refine gZ hK HW.o (fun hHeld=>?_);clear hK K;refine bQ 16 (fun K hK=>?_);obtain⟨z0,z1,z2,z3,zf,zl⟩:=Q5.o.e4;go_simp;clear z0 z1 z2 z3 zl zf;have HW2:=lH (dO (v:=xb) HW.o (g:=w.heap.size) (by omega));have Y3:=lH (r_ (v:=xb) Q5.o);have QG:=lH (yN (v:=xb) HG7.o (show(w.heap.size+1)≠w.heap.size by omega));unfold F8 at HW2 Y3 QG;generalize (((W.setCell ⟨w.heap.size,0,none⟩ _).setCell ⟨w.heap.size,1,none⟩ _).setCell ⟨w.heap.size,2,none⟩ _).setCell ⟨w.heap.size,3,none⟩ _=W2 at HW2 Y3 QG ⊢;refine hK.out _ _ HW2.o (fun hHeld=>?_);clear hK K Q5 HG7 HW;(try simp only[Act.put,gL,gK,gJ]);refine eM ?_;obtain⟨z0,z1,z2,z3,zf,zl⟩:=QG.o.e4;(go_wp2_with fail);go_meet
   case rel=>exact⟨_,_,rfl,rfl,by omega,yN (v:=xc) Y3.o (show w.heap.size≠(w.heap.size+1) by omega),r_ (v:=xc) QG.o,by omega,by omega,dO (v:=xc) HW2.o (by omega)⟩
  ·go_simp
   have HA:=lH ((aK (Below.refl w.heap.size w)).alloc lR (.cells #[.bool false,.slice none 0 0,.bool false,.slice none 0 0] 115));refine hK.out _ _ HA.o (fun hHeld=>?_);clear hK K HA;(try simp only[Act.put,gL,gK,gJ]);refine bQ 14 (fun K hK=>?_);go_simp;obtain⟨ha,hb,hc⟩:=L_ w;generalize ((w.alloc (.cells #[.bool false,.slice none 0 0,.bool false,.slice none 0 0] 115)).alloc (.cells #[.bool false,.slice none 0 0,.bool false,.slice none 0 0] 115)).drew=W at ha hb hc ⊢;obtain⟨Q5,HG7,HW⟩:=d_ hb ha hc;clear ha hb hc;refine gZ hK HW.o (fun hHeld=>?_);clear hK K;refine bQ 16 (fun K hK=>?_);obtain⟨z0,z1,z2,z3,zf,zl⟩:=Q5.o.e4;go_simp;clear z0 z1 z2 z3 zl zf;have HW2:=lH (dO (v:=xb) HW.o (g:=(w.heap.size+1)) (by omega));have Y3:=lH (r_ (v:=xb) Q5.o);have QG:=lH (yN (v:=xb) HG7.o (show w.heap.size≠(w.heap.size+1) by omega));unfold F8 at HW2 Y3 QG;generalize (((W.setCell ⟨(w.heap.size+1),0,none⟩ _).setCell ⟨(w.heap.size+1),1,none⟩ _).setCell ⟨(w.heap.size+1),2,none⟩ _).setCell ⟨(w.heap.size+1),3,none⟩ _=W2 at HW2 Y3 QG ⊢;refine hK.out _ _ HW2.o (fun hHeld=>?_);clear hK K Q5 HG7 HW;(try simp only[Act.put,gL,gK,gJ]);refine eM ?_;obtain⟨z0,z1,z2,z3,zf,zl⟩:=QG.o.e4;(go_wp2_with fail);go_meet
   case rel=>exact⟨_,_,rfl,rfl,by omega,yN (v:=xc) Y3.o (show(w.heap.size+1)≠w.heap.size by omega),r_ (v:=xc) QG.o,by omega,by omega,dO (v:=xc) HW2.o (by omega)⟩
 case rest=>
  obtain⟨g6,g7,rfl,rfl,bX,fT,iA,hl6,hl7,QX⟩:=hcut;obtain⟨HW,H6,H7,HNE,HL6⟩:=kN QX fT iA bX hl6;have HL7:=lH hl7;replace HXB:=lH (HXB.o.up HW.o);replace UC:=lH (UC.o.up HW.o);clear bX fT iA hl6 hl7 QX p0 p1 p2 p3 e0 e1 e2 e3 b0 bl y4 y5 yl pE hdb hk4 hk5
  go_upto_if 22 with fail
  go_cut [] (fun wd=>∃sb sc,aG wd g6 115 #[.bool sb.b1,.slice sb.A sb.n sb.c,.bool sb.b2,.slice sb.A2 sb.m sb.d]/\aG wd g7 115 #[.bool sc.b1,.slice sc.A sc.n sc.c,.bool sc.b2,.slice sc.A2 sc.m sc.d]/\dD wd wd.heap.size (sg minus b) sb/\dD wd wd.heap.size (sg minus c) sc/\Below w.heap.size w wd)
  case first=>
   cases minus with
   | false=>
    (go_wp2_with fail);go_meet
    case rel=>exact⟨xb,xc,H6.o,H7.o,HXB.o,UC.o,HW.o⟩
   | true=>
    (go_upto_region 2 with fail);generalize wc=W at *;obtain⟨s0,s1,s2,s3,sl⟩:=H6.o.b4;obtain⟨t0,t1,t2,t3,tl⟩:=H7.o.b4;refine l_ (S:=fun w'=>Below W.heap.size W w') 4 _ _ (by kernel_rfl) (by kernel_rfl) (by kernel_rfl) rfl rfl (aK bR) (fun hHeld=>?_);simp only[nI,List.take_zero];refine cW [0,2] ?_;refine bQ 1 (fun K hK=>?_);go_simp;refine(aRu (HXB.o.up (aK bR))).mono ?_;rintro e w3 ⟨cN,v3,rfl,h3⟩;have dY:=lH ((aK (Below.refl W.heap.size W)).trans cN);have H3:=lH h3;clear cN h3;go_simp;refine gZ hK dY.o (fun hHeld=>?_);clear hK K;refine bQ 3 (fun K hK=>?_);go_simp;refine(aRu (UC.o.up dY.o)).mono ?_;rintro e w4 ⟨eR,v4,rfl,h4⟩;have bM:=bW dY eR;have H4:=lH h4;replace H3:=lH (H3.o.up eR);clear eR h4;go_simp;refine gZ hK bM.o (fun hHeld=>?_);clear hK K;refine eM ?_;obtain⟨H6b,H7b,HWb⟩:=d_ (H6.o.bl bM.o) (H7.o.bl bM.o) (HW.o.tm bM.o);clear s0 s1 s2 s3 t0 t1 t2 t3 sl tl;obtain⟨z0,z1,z2,z3,zf,zl⟩:=H6b.o.e4;go_simp;clear z0 z1 z2 z3 zl zf;have HWc:=lH (dO (v:=v3) HWb.o (g:=g6) HL6.o);have H6c:=lH (r_ (v:=v3) H6b.o);have H7c:=lH (yN (v:=v3) H7b.o (fun e=>HNE.o e.symm));have H3c:=lH (H3.o.keepq H6b.o (v:=v3));have H4c:=lH (H4.o.keepq H6b.o (v:=v3));unfold F8 at HWc H6c H7c;generalize (((w4.setCell ⟨g6,0,none⟩ _).setCell ⟨g6,1,none⟩ _).setCell ⟨g6,2,none⟩ _).setCell ⟨g6,3,none⟩ _=w5 at HWc H6c H7c H3c H4c ⊢;refine dK (by rfl) ?_;obtain⟨z0,z1,z2⟩:=H7c.o.a3;have z3:=H7c.o.cell 3;have zl:=H7c.o.lt;have zf:=H7c.o.frozen;(go_wp2_with fail);go_meet
    case rel=>exact⟨v3,v4,yN (v:=v4) H6c.o HNE.o,r_ (v:=v4) H7c.o,H3c.o.keepq H7c.o (v:=v4),H4c.o.keepq H7c.o (v:=v4),dO (v:=v4) HWc.o HL7.o⟩
  case rest=>
   generalize wc=wd at *;obtain⟨sb,sc,fT,iA,hvb,hvc,QX⟩:=hcut;clear H6 H7 HXB UC HW;obtain⟨H6,H7,yO,YQ⟩:=iK fT iA hvb hvc;replace HF:=lH (HF.o.up QX);have HO:Hid (CY gf gc w wd):=lH (fH QX);replace NZ:Hid (bI (sg minus b)<=1000000):=lH (by unfold sg;cases minus;exact NZ.o;rw[if_pos rfl,m9];exact NZ.o);replace HSC:Hid (bI (sg minus c)<=1000000):=lH (by unfold sg;cases minus;exact HSC.o;rw[if_pos rfl,m9];exact HSC.o);clear fT iA hvb hvc QX;generalize GA:sg minus b=sgb at *;generalize hsc:sg minus c=sgc at *;have E3:=lH GA;have LY:=lH hsc;clear GA hsc;(go_upto_region 3 with fail);have hO:=lH (HO.o.below bT.o cH.o (by have:=yP.o;have:=bT.o;omega));have HGw:=lH (HG.o.below hO.o HGG.o);have aHU:=lH (HBO.o.below hO.o Y2.o);have tD:=(E6.o.below hO.o lR).r2;simp only at tD;have AJ:=tD.2 (by have:=KQ.o;have:=iI.o;omega);obtain⟨fb2,fo2,hA,qU,-⟩:=AJ;subst hA;have f0:=tD.at_ (fS HU.o);have uK:fb2<wd.heap.size:=by have:=HO.o.size;have:=bT.o;have:=yP.o;omega
   obtain⟨xe,hx,c0,c1,c2',c3',hv,l1,f1⟩:=HF.o.elem LW.o;have GL:=lH hx;have FZ:=lH hv;have KL:Hid (bI (vf q ui)+bI sgb+1<=35184372088832):=lH (by have h5:=HSQ.o _ (bV (a_ LW.o));have h6:=NZ.o;omega);obtain⟨z0,z1,z2,z3,zl⟩:=H6.o.b4;obtain⟨b0,bl⟩:=aHU.o.b1;have y2:=HGw.o.cell 2;have yl:=HGw.o.lt;obtain⟨q0,ql⟩:=HF.o.blk.b1;have fY:(k:Int)<(n2:Int):=by have:=KQ.o;have:=iI.o;omega
   have uI:(ui:Int)<(q.length:Int):=by have:=LW.o;omega
   have uJ:=lZ ui;have uH:=jF ui;have bM:=lH (aK (Below.refl wd.heap.size wd));clear tD qU hx hv hO HGw aHU;refine kX 23 (fun hHeld=>?_);simp only[nI,List.take_zero];refine cW [0,1,2,3,4,5,6,7,8,9,10,11,12,13,14,15,16,17,18,19,20] ?_;refine bQ 21 (fun K hK=>?_);go_simp;refine(EZ (FZ.o.up bM.o) (yO.o.up bM.o) KL.o).mono ?_;rintro e w8 ⟨gP,v8,rfl,h8⟩;have dR:Hid (Below wd.heap.size wd w8):=lH (bM.o.tm gP);have H8:=lH h8;clear gP h8;go_simp;refine gZ hK dR.o (fun hHeld=>?_);clear hK K;refine cW [22] ?_;refine eM ?_;clear hHeld;obtain⟨uV,H68,H78,aHp,aHo⟩:=kN (HF.o.up dR.o) (H6.o.bl dR.o) (H7.o.bl dR.o) (yO.o.up dR.o) (YQ.o.up dR.o);have sK:Hid (CY gf gc w w8):=lH (HO.o.trans (fH dR.o));clear c0 c1 c2' c3' l1 f1 z0 z1 z2 z3 zl b0 bl y2 yl q0 ql f0 uK HF H6 H7 yO YQ HO FZ KL bM dR;obtain⟨c0,c1,c2',c3',l1,f1⟩:=uV.o.elem2 GL.o;(go_upto_region 4 with fail);clear c0 c1 c2' c3' l1 f1;have HF:=lH (uV.o.put LW.o H8.o);have H6:=lH (H68.o.far4 (i:=ui) v8 (show g6≠gc by have:=HL6.o;have:=Y8.o;omega));have H7:=lH (H78.o.far4 (i:=ui) v8 (show g7≠gc by have:=HL7.o;have:=Y8.o;omega));have yO:=lH (uV.o.keep LW.o (x:=v8) aHp.o);have YQ:=lH (uV.o.keep LW.o (x:=v8) aHo.o);have HO:Hid (CY gf gc w (eO w8 gc ui v8)):=lH (sK.o.trans BZ);clear uV H68 H78 aHp aHo sK H8 GL uI uJ uH fY;simp only[eO] at HF H6 H7 yO YQ HO;generalize (((w8.setCell ⟨gc,ui*4,none⟩ _).setCell ⟨gc,ui*4+1,none⟩ _).setCell ⟨gc,ui*4+2,none⟩ _).setCell ⟨gc,ui*4+3,none⟩ _=we at *;have YP:Hid (vi<(q.set ui (vf q ui+sgb)).length):=lH (by rw[lS];exact F0.o);generalize vs.set ui _=vs1 at *;obtain⟨q1,pQ⟩:∃q1,q.set ui (vf q ui+sgb)=q1:=⟨_,rfl⟩;have HQE:=lH pQ;have nO:Hid (bI (vf (q.set ui (vf q ui+sgb)) vi)+bI sgb+1<=35184372088832):=lH (by have h5:=aIV (a:=2000001) (u:=ui) (p:=vf q ui+sgb) (fun p hp=>cO (HSQ.o p hp) (by decide)) (by have:=lG (vf q ui) sgb;have:=HSQ.o _ (bV (a_ LW.o));have:=NZ.o;omega) YP.o;have h6:=NZ.o;omega);rw[pQ] at HF YP nO;clear pQ;have hO:=lH (HO.o.below bT.o cH.o (by have:=yP.o;have:=bT.o;omega));have HGw:=lH (HG.o.below hO.o HGG.o);have aHU:=lH (HBO.o.below hO.o Y2.o);have tD:=(E6.o.below hO.o lR).r3;simp only at tD;have AJ:=tD.2 (by have:=KQ.o;have:=tS.o;omega);obtain⟨fb3,fo3,hA,qU,-⟩:=AJ;subst hA;have f0:=tD.at_ (fS HV.o);have uK:fb3<we.heap.size:=by have:=HO.o.size;have:=bT.o;have:=yP.o;omega
   obtain⟨xe,hx,c0,c1,c2',c3',hv,l1,f1⟩:=HF.o.elem YP.o;have GL:=lH hx;have FZ:=lH hv;have KL:Hid (bI (vf q1 vi)+bI sgb+1<=35184372088832):=lH (by exact nO.o);obtain⟨z0,z1,z2,z3,zl⟩:=H6.o.b4;obtain⟨b0,bl⟩:=aHU.o.b1;have y2:=HGw.o.cell 3;have yl:=HGw.o.lt;obtain⟨q0,ql⟩:=HF.o.blk.b1;have fY:(k:Int)<(n3:Int):=by have:=KQ.o;have:=tS.o;omega
   have uI:(vi:Int)<(q1.length:Int):=by have:=YP.o;omega
   have uJ:=lZ vi;have uH:=jF vi;have bM:=lH (aK (Below.refl we.heap.size we));clear tD qU hx hv hO HGw aHU;refine kX 23 (fun hHeld=>?_);simp only[nI,List.take_zero];refine cW [0,1,2,3,4,5,6,7,8,9,10,11,12,13,14,15,16,17,18,19,20] ?_;refine bQ 21 (fun K hK=>?_);go_simp;refine(OC (FZ.o.up bM.o) (yO.o.up bM.o) KL.o).mono ?_;rintro e w8 ⟨gP,v8,rfl,h8⟩;have dR:Hid (Below we.heap.size we w8):=lH (bM.o.tm gP);have H8:=lH h8;clear gP h8;go_simp;refine gZ hK dR.o (fun hHeld=>?_);clear hK K;refine cW [22] ?_;refine eM ?_;clear hHeld;obtain⟨uV,H68,H78,aHp,aHo⟩:=kN (HF.o.up dR.o) (H6.o.bl dR.o) (H7.o.bl dR.o) (yO.o.up dR.o) (YQ.o.up dR.o);have sK:Hid (CY gf gc w w8):=lH (HO.o.trans (fH dR.o));clear c0 c1 c2' c3' l1 f1 z0 z1 z2 z3 zl b0 bl y2 yl q0 ql f0 uK HF H6 H7 yO YQ HO FZ KL bM dR;obtain⟨c0,c1,c2',c3',l1,f1⟩:=uV.o.elem2 GL.o;(go_upto_region 5 with fail);clear c0 c1 c2' c3' l1 f1;have HF:=lH (uV.o.put YP.o H8.o);have H6:=lH (H68.o.far4 (i:=vi) v8 (show g6≠gc by have:=HL6.o;have:=Y8.o;omega));have H7:=lH (H78.o.far4 (i:=vi) v8 (show g7≠gc by have:=HL7.o;have:=Y8.o;omega));have yO:=lH (uV.o.keep YP.o (x:=v8) aHp.o);have YQ:=lH (uV.o.keep YP.o (x:=v8) aHo.o);have HO:Hid (CY gf gc w (eO w8 gc vi v8)):=lH (sK.o.trans BZ);clear uV H68 H78 aHp aHo sK H8 GL uI uJ uH fY;simp only[eO] at HF H6 H7 yO YQ HO;generalize (((w8.setCell ⟨gc,vi*4,none⟩ _).setCell ⟨gc,vi*4+1,none⟩ _).setCell ⟨gc,vi*4+2,none⟩ _).setCell ⟨gc,vi*4+3,none⟩ _=wf at *;have HE:Hid (q1.set vi (vf q1 vi-sgb)=lP sgb ui vi q):=lH (by unfold lP;rw[HQE.o]);rw[HE.o] at HF;clear HE HQE nO;generalize oO:lP sgb ui vi q=q2 at *;have sO:=lH oO;clear oO;generalize vs1.set vi _=vs2 at *;have KL:Hid (bI z+bI sgc+1<=35184372088832):=lH (by have:=dZ.o;have:=HSC.o;omega);obtain⟨z0,z1,z2,z3,zl⟩:=H7.o.b4;obtain⟨q4,q5,q6,q7,q8,ql⟩:=HF.o.blk.b5;(go_wp2_with fail);refine(EZ HF.o.val YQ.o KL.o).mono ?_;rintro e w9 ⟨gA,v9,rfl,h9⟩;have Y6:=lH (HF.o.up gA);have H9:=lH h9;have E7:Hid (CY gf gc w w9):=lH (HO.o.trans (fH gA));clear gA h9 q4 q5 q6 q7 q8 ql z0 z1 z2 z3 zl HF HO;obtain⟨q4,q5,q6,q7,q8,qf,ql⟩:=Y6.o.blk.e5;(go_wp2_with fail)
   go_end0
   exact⟨rfl,E7.o.trans aER,vs2,v9,by rw[E3.o,LY.o,sO.o];exact Y6.o.free H9.o⟩
def i_(bus u v:Nat)(b c:Rat)(s:List Rat×Rat):List Rat×Rat:=
 let s1:=if u=bus then(lP (sg false b) u v s.1,s.2+sg false c) else s
 if v=bus then(lP (sg true b) u v s1.1,s1.2+sg true c) else s1
def nM(bus:Nat):List Rat->List Rat->List Nat->List Nat->List Rat×Rat->List Rat×Rat
 | b::bs,c::cs,u::us,v::vs,s=>nM bus bs cs us vs (i_ bus u v b c s)
 | _,_,_,_,s=>s
def jN(n:Nat):List Rat:=List.replicate n 0
def aS(x:bO)(m:Mi):List Rat×Rat:=
 if m.kind=0 then(lP (sg false (vf (mB x) (lL x m.name).toNat)) ((gV x).getD (lL x m.name).toNat 0) ((CC x).getD (lL x m.name).toNat 0) (jN (aH x)),0+sg false (vf (mC x) (lL x m.name).toNat))
 else if m.kind=2 then((jN (aH x)).set (aD x m.name) 1,0)
 else nM (aD x m.name) (mB x) (mC x) (gV x) (CC x) (jN (aH x),0)
def aVB(x:bO)(m:Mi)(w:Wo)(e:Ending)(w':Wo):Prop:=Below w.heap.size w w'/\∃(gc:Nat)(u:Rv),e=.returned (.agg #[.slice (some ⟨gc,0,none⟩) (aH x) (aH x),.bool u.b1,.slice u.A u.n u.c,.bool u.b2,.slice u.A2 u.m u.d])/\iT w' w'.heap.size (some ⟨gc,0,none⟩) (aH x) (aS x m).1/\dD w' w'.heap.size (aS x m).2 u
theorem qQ(ok:bJ x):(qR x).length=aH x:=by
 have h:=(wU ok).2;unfold eJ at h;rwa[jO] at h
theorem nU(g:Nat)(m:iU)(y:Value)(w:Wo)(hg:aG w g 122 (m.cells y)):Calls Tryz.prog 96 #[.pointer (some ⟨g,0,none⟩)] w fun e w'=>e=.returned (.int .i64 (m.n1:Int))/\w=w':=by
 have y1:=hg.cell 1;have yl:=hg.lt;obtain⟨A0,n0,c0,A1,n1,c1,A2,n2,c2,A3,n3,c3,A4,n4,c4,A5,n5,c5,A6,n6,c6⟩:=m;simp only[iU.cells] at y1;clear hg;go_enter Tryz.func96,Tryz.ntmps96
 go_wp2_with fail
 go_ret;exact⟨rfl,rfl⟩
def mkF(w:Wo)(gc n:Nat)(u:Rv):World:=w.alloc (.cells #[.slice (some ⟨gc,0,none⟩) n n,.bool u.b1,.slice u.A u.n u.c,.bool u.b2,.slice u.A2 u.m u.d] 117)
theorem tP:Below w.heap.size w (mkF w gc n u):=(Below.refl _ w).alloc lR _
theorem NE{v:Rv}(hc:aG w gc 115 (fX (List.replicate n v)).toArray)(hv:dD w w.heap.size 0 v)(hu:dD w w.heap.size 0 u):FC (mkF w gc n u) w.heap.size gc (List.replicate n v) u (jN n) 0:=by
 refine⟨?_,⟨_,hc.bl tP,?_⟩,by simp[jN],fun i p x hp hx=>?_,hu.up tP⟩
 ·unfold mkF jN
  rw[rB];exact aG.new w _ _
 ·have hl:(fX (List.replicate n v)).length=n*4:=(eD _).trans (by rw[rB])
  rw[jN,rB];exact nL (Nat.le_of_eq hl)
 ·unfold jN at hp
  rw[List.getElem?_replicate] at hp hx;split at hp
  ·rename_i h
   rw[if_pos h] at hx;rw[<-Option.some.inj hp,<-Option.some.inj hx];exact hv.up tP
  ·cases hp
def put5(w:Wo)(p gc n:Nat)(u:Rv):World:=((((w.setCell ⟨p,0,none⟩ (.slice (some ⟨gc,0,none⟩) n n)).setCell ⟨p,1,none⟩ (.bool u.b1)).setCell ⟨p,2,none⟩ (.slice u.A u.n u.c)).setCell ⟨p,3,none⟩ (.bool u.b2)).setCell ⟨p,4,none⟩ (.slice u.A2 u.m u.d)
theorem aBK(w:Wo)(p gc n:Nat)(u:Rv):(put5 w p gc n u).heap.size=w.heap.size:=by simp[put5]
theorem jD{a:Wo}{p:Nat}(h:Below B a w)(hp:B<=p):Below B a (put5 w p gc n u):=((((h.setCell hp _).setCell hp _).setCell hp _).setCell hp _).setCell hp _
theorem dD.keep5{p:Nat}{t:Rat}(h:dD w w.heap.size t y)(hb:aG w p T #[.slice none 0 0,.bool false,.slice none 0 0,.bool false,.slice none 0 0]):dD (put5 w p gc n u) (put5 w p gc n u).heap.size t y:=by
 have B0:=hb.set_at (i:=0) (cs':=#[.slice (some ⟨gc,0,none⟩) n n,.bool false,.slice none 0 0,.bool false,.slice none 0 0]) (.slice (some ⟨gc,0,none⟩) n n) (by simp);have B1:=B0.set_at (i:=1) (cs':=#[.slice (some ⟨gc,0,none⟩) n n,.bool u.b1,.slice none 0 0,.bool false,.slice none 0 0]) (.bool u.b1) (by simp);have B2:=B1.set_at (i:=2) (cs':=#[.slice (some ⟨gc,0,none⟩) n n,.bool u.b1,.slice u.A u.n u.c,.bool false,.slice none 0 0]) (.slice u.A u.n u.c) (by simp);have B3:=B2.set_at (i:=3) (cs':=#[.slice (some ⟨gc,0,none⟩) n n,.bool u.b1,.slice u.A u.n u.c,.bool u.b2,.slice none 0 0]) (.bool u.b2) (by simp);exact(((((h.keep1 hb (i:=0) (y:=.slice none 0 0) rfl iL _).keep1 B0 (i:=1) (y:=.bool false) rfl (fun k x h=>by cases h) _).keep1 B1 (i:=2) (y:=.slice none 0 0) rfl iL _).keep1 B2 (i:=3) (y:=.bool false) rfl (fun k x h=>by cases h) _).keep1 B3 (i:=4) (y:=.slice none 0 0) rfl iL _)
theorem m6{p:Nat}(hb:aG w p T #[.slice none 0 0,.bool false,.slice none 0 0,.bool false,.slice none 0 0]):aG (put5 w p gc n u) p T #[.slice (some ⟨gc,0,none⟩) n n,.bool u.b1,.slice u.A u.n u.c,.bool u.b2,.slice u.A2 u.m u.d]:=by
 have B0:=hb.set_at (i:=0) (cs':=#[.slice (some ⟨gc,0,none⟩) n n,.bool false,.slice none 0 0,.bool false,.slice none 0 0]) (.slice (some ⟨gc,0,none⟩) n n) (by simp);have B1:=B0.set_at (i:=1) (cs':=#[.slice (some ⟨gc,0,none⟩) n n,.bool u.b1,.slice none 0 0,.bool false,.slice none 0 0]) (.bool u.b1) (by simp);have B2:=B1.set_at (i:=2) (cs':=#[.slice (some ⟨gc,0,none⟩) n n,.bool u.b1,.slice u.A u.n u.c,.bool false,.slice none 0 0]) (.slice u.A u.n u.c) (by simp);have B3:=B2.set_at (i:=3) (cs':=#[.slice (some ⟨gc,0,none⟩) n n,.bool u.b1,.slice u.A u.n u.c,.bool u.b2,.slice none 0 0]) (.bool u.b2) (by simp);exact B3.set_at (i:=4) (.slice u.A2 u.m u.d) (by simp)
theorem FC.rdq{vs:List Rv}{z:Rat}(f:FC w gf gc vs u q z){p:Nat}(hb:aG w p T #[.slice none 0 0,.bool false,.slice none 0 0,.bool false,.slice none 0 0])(hp:gc≠p):iT (put5 w p gc n y) (put5 w p gc n y).heap.size (some ⟨gc,0,none⟩) q.length q:=by
 obtain⟨cs,h1,h2⟩:=f.row;have hf:aG (put5 w p gc n y) gc 115 cs:=((((h1.far hp _).far hp _).far hp _).far hp _).far hp _;refine⟨vs,f.len,rfl,⟨by rw[eD,f.len],fun hn=>⟨gc,0,rfl,hf.lt,fun i v hv=>?_⟩⟩,fun i t v ht hv=>(f.ok i t v ht hv).keep5 hb⟩;rw[Nat.zero_add,hf.cell];rw[<-h2] at hv;rw[List.getElem?_take] at hv;split at hv
 ·rwa[Array.getElem?_toList] at hv
 ·cases hv
theorem aEj{m:Bool}{b:Rat}:bI (sg m b)=bI b:=by
 unfold sg;cases m
 ·rfl
 ·rw[if_pos rfl,m9]
structure QL (n K:Nat) (s:List Rat×Rat):Prop where
 len:s.1.length=n
 cf:∀p∈s.1,bI p<=K
 fr:bI s.2<=K
theorem IN(n:Nat):QL n 2 (jN n,0):=by
 have h:bI (0:Rat)<=2:=dV 0 (by decide) (by decide);refine⟨by simp[jN],fun p hp=>?_,h⟩;rw[List.eq_of_mem_replicate hp];exact h
theorem QL.mono{K':Nat}{s:List Rat×Rat}(h:QL n K s)(hk:K<=K'):QL n K' s:=⟨h.len,fun p hp=>cO (h.cf p hp) hk,cO h.fr hk⟩
theorem QL.add{u v:Nat}{s:List Rat×Rat}{b c:Rat}(mi:Bool)(h:QL n K s)(hu:u<n)(hv:v<n)(hb:bI b<=1)(hc:bI c<=2):QL n (K+6) (lP (sg mi b) u v s.1,s.2+sg mi c):=by
 have hb':bI (sg mi b)<=1:=by rw[aEj];exact hb
 have h1:bI (vf s.1 u+sg mi b)<=K+2:=by
  have a:=lG (vf s.1 u) (sg mi b);have c:=h.cf _ (bV (a_ (i:=u) (by rw[h.len];exact hu)));omega
 have h2:∀p∈s.1.set u (vf s.1 u+sg mi b),bI p<=K+2:=fun p hp=>by
  rcases List.mem_or_eq_of_mem_set hp with e | e
  ·exact cO (h.cf p e) (by omega)
  ·rw[e];exact h1
 refine⟨by rw[gG];exact h.len,fun p hp=>?_,?_⟩
 ·unfold lP at hp
  rcases List.mem_or_eq_of_mem_set hp with e | e
  ·exact cO (h2 p e) (by omega)
  ·have a:=lG (vf (s.1.set u (vf s.1 u+sg mi b)) v) (-(sg mi b))
   have c:=h2 _ (bV (a_ (i:=v) (by rw[lS,h.len];exact hv)));rw[m9] at a;rw[e,Rat.sub_eq_add_neg];omega
 ·have a:=lG s.2 (sg mi c)
  rw[aEj (b:=c)] at a;have:=h.fr;show bI (s.2+sg mi c)<=_;omega
theorem JQ{bus:Nat}{B C:List Rat}{F G:List Nat}{s:List Rat×Rat}{u v:Nat}{b c:Rat}(h1:B[k]?=some b)(h0:C[k]?=some c)(h2:F[k]?=some u)(h3:G[k]?=some v):nM bus (B.drop k) (C.drop k) (F.drop k) (G.drop k) s=nM bus (B.drop (k+1)) (C.drop (k+1)) (F.drop (k+1)) (G.drop (k+1)) (i_ bus u v b c s):=by
 rw[cM h1,cM h0,cM h2,cM h3];rfl
theorem uT{b:Br}(h:b.bad=false):bI (eS b)<=2:=by
 have a:=eL (cP b) (Rat.divInt (-b.shift) 1000);have c:=pK h;have d:=MC h;unfold eS;omega
structure aDk (w:Wo) (B gb g:Nat) (m:iU) (y:Value) (x:bO) (gf gc:Nat):Prop where
 b1:B<=gf
 b2:B<=gc
 lb:gb<B
 lg:g<B
 hs:B<=w.heap.size
 box:aG w gb 90 #[.pointer (some ⟨g,0,none⟩)]
 md:aG w g 122 (m.cells y)
 rd:fB w B m x
theorem aDk.oth{gb:Nat}{m:iU}{y:Value}(h:aDk w B gb g m y x gf gc)(o:CY gf gc w w'):aDk w' B gb g m y x gf gc:=by
 have hb:=o.below h.b1 h.b2 h.hs;exact⟨h.b1,h.b2,h.lb,h.lg,cO h.hs o.size,h.box.below hb h.lb,h.md.below hb h.lg,h.rd.below hb lR⟩
theorem o9{gb:Nat}{m:iU}{y:Value}(E:aDk w B gb g m y x gf gc){vs:List Rv}{s:List Rat×Rat}(f:FC w gf gc vs u s.1 s.2)(hs:QL n K s)(hK:K<=1000000)(hn:n=aH x)(h8:x.nodes.length<=8)(ok:bJ x){b:Br}(hb:x.brs[k]?=some b)(minus:Bool):Calls Tryz.prog 107 #[.int .i64 (k:Int),.bool minus,.pointer (some ⟨gb,0,none⟩),.pointer (some ⟨gf,0,none⟩)] w (aVL gf gc (cP b) (eS b) minus (aD x b.fr) (aD x b.to) s.1 s.2 w):=by
 obtain⟨a1,a2,a3,a4⟩:=kM hb;have hm:=ok.br b (bV hb);have hB:=(eX ok).2;have l1:=(bG ok hm.1).2.1;have l2:=(bG ok hm.2.1).2.1;have hl:=hs.len;exact aHa gb g m y x gf gc vs u s.1 s.2 k minus _ _ _ _ w B E.b1 E.b2 E.lb E.lg E.box E.md E.rd f a3 a4 a1 a2 (by omega) (by omega) (by have:=ok.l2;omega) (by omega) (fun p hp=>cO (hs.cf p hp) hK) (cO (pK hm.2.2.2) (by decide)) (cO (uT hm.2.2.2) (by decide)) (cO hs.fr hK)
theorem pS(ok:bJ x){s:List Rat×Rat}(hs:QL n K s)(hn:n=aH x){b:Br}(hb:x.brs[k]?=some b)(minus:Bool):QL n (K+6) (lP (sg minus (cP b)) (aD x b.fr) (aD x b.to) s.1,s.2+sg minus (eS b)):=by
 have hm:=ok.br b (bV hb);exact hs.add minus (by rw[hn];exact(bG ok hm.1).2.1) (by rw[hn];exact(bG ok hm.2.1).2.1) (pK hm.2.2.2) (uT hm.2.2.2)
def kH(x:bO)(q:List Rat):List Rat:=(aA x).map (vf q)
theorem tH(h:j∈aA x):j<aH x:=by
 unfold aA lM at h;have h2:=(List.mem_filter.1 h).1;exact List.mem_range.1 h2
theorem qV(h:bY)(x:bO)(ok:bJ x)(h8:x.nodes.length<=8)(g:Nat)(m:iU)(y:Value)(mi:Mi)(w:Wo)(r:cQ w w.heap.size h x)(hg:aG w g 122 (m.cells y))(hr:fB w w.heap.size m x)(h0:mi.kind=0->0<=lL x mi.name)(h1:mi.kind≠0->mi.name∈x.nodes):Calls Tryz.prog 63 #[.agg h.cells,.pointer (some ⟨g,0,none⟩),mi.val] w (aVB x mi w):=by
 have fC:Hid (aH x=m.n1):=lH (by rw[<-qQ ok];exact hr.r1.len);obtain⟨HX,HG,HR,H0,H1⟩:=kN r hg hr h0 h1;have bU:=lH ok;have XJ:m.n1<=8:=by rw[<-fC.o];exact cO (eX ok).2 h8
 have IL:=lH XJ;obtain⟨kind,name,txt,wt⟩:=mi;simp only[Mi.val];have Q0:Below w.heap.size w ((((w.alloc (.cells h.cells 29)).alloc (.cells #[.pointer (some ⟨g,0,none⟩)] 90)).alloc (.cells #[.int .i64 kind,.string name,.string txt,.int .i64 wt] 57)).alloc (.cells #[.slice none 0 0,.bool false,.slice none 0 0,.bool false,.slice none 0 0] 117)):=(((Below.alloc (Below.refl _ w) lR _).alloc (by simp<;>omega) _).alloc (by simp<;>omega) _).alloc (by simp<;>omega) _;have HW:=lH Q0;have P0:=lH (((aG.new w 29 h.cells).alloc (.cells #[.pointer (some ⟨g,0,none⟩)] 90)).alloc (.cells #[.int .i64 kind,.string name,.string txt,.int .i64 wt] 57) |>.alloc (.cells #[.slice none 0 0,.bool false,.slice none 0 0,.bool false,.slice none 0 0] 117));have P1:Hid (aG ((((w.alloc (.cells h.cells 29)).alloc (.cells #[.pointer (some ⟨g,0,none⟩)] 90)).alloc (.cells #[.int .i64 kind,.string name,.string txt,.int .i64 wt] 57)).alloc (.cells #[.slice none 0 0,.bool false,.slice none 0 0,.bool false,.slice none 0 0] 117)) (w.heap.size+1) 90 #[.pointer (some ⟨g,0,none⟩)]):=lH (((aG.new_ (by simp)).alloc _).alloc _);have P2:Hid (aG ((((w.alloc (.cells h.cells 29)).alloc (.cells #[.pointer (some ⟨g,0,none⟩)] 90)).alloc (.cells #[.int .i64 kind,.string name,.string txt,.int .i64 wt] 57)).alloc (.cells #[.slice none 0 0,.bool false,.slice none 0 0,.bool false,.slice none 0 0] 117)) (w.heap.size+1+1) 57 #[.int .i64 kind,.string name,.string txt,.int .i64 wt]):=lH ((aG.new_ (by simp)).alloc _);have P3:Hid (aG ((((w.alloc (.cells h.cells 29)).alloc (.cells #[.pointer (some ⟨g,0,none⟩)] 90)).alloc (.cells #[.int .i64 kind,.string name,.string txt,.int .i64 wt] 57)).alloc (.cells #[.slice none 0 0,.bool false,.slice none 0 0,.bool false,.slice none 0 0] 117)) (w.heap.size+1+1+1) 117 #[.slice none 0 0,.bool false,.slice none 0 0,.bool false,.slice none 0 0]):=lH (aG.new_ (by simp));clear r hg hr h0 h1 ok Q0 XJ;obtain⟨A0,n0,c0,A1,n1,c1,A2,n2,c2,A3,n3,c3,A4,n4,c4,A5,n5,c5,A6,n6,c6⟩:=m;simp only[iU.cells] at HG fC IL;go_enter Tryz.func63,Tryz.ntmps63
 go_upto_region 1 with fail
 have dZ:Hid (((((w.alloc (.cells h.cells 29)).alloc (.cells #[.pointer (some ⟨g,0,none⟩)] 90)).alloc (.cells #[.int .i64 kind,.string name,.string txt,.int .i64 wt] 57)).alloc (.cells #[.slice none 0 0,.bool false,.slice none 0 0,.bool false,.slice none 0 0] 117)).heap.size=w.heap.size+1+1+1+1):=lH (by simp);generalize ((((w.alloc (.cells h.cells 29)).alloc (.cells #[.pointer (some ⟨g,0,none⟩)] 90)).alloc (.cells #[.int .i64 kind,.string name,.string txt,.int .i64 wt] 57)).alloc (.cells #[.slice none 0 0,.bool false,.slice none 0 0,.bool false,.slice none 0 0] 117))=wa at *;obtain⟨b0,bl⟩:=P1.o.b1
 go_wp2_with fail
 refine(nU g ⟨A0,n0,c0,A1,n1,c1,A2,n2,c2,A3,n3,c3,A4,n4,c4,A5,n5,c5,A6,n6,c6⟩ y wa (HG.o.bl HW.o)).mono ?_;rintro e w1 ⟨rfl,rfl⟩
 go_wp2_with fail
 refine(mL n1 wa (by have:=IL.o;omega)).mono ?_;rintro e w1 ⟨bC,gc,v,rfl,hgc,hbc,hv⟩
 go_wp2_with fail
 refine(qD 0 w1 (by decide) (by decide)).mono ?_;rintro e w2 ⟨bH,u,rfl,hu⟩;have KX:=lH (NE (gc:=gc) (n:=n1) (hbc.bl bH) (hv.up bH) hu);have cH:=lH (HW.o.trans ((bC.tm bH).mono HW.o.size));have DL:=lH (tP (w:=w2) (gc:=gc) (n:=n1) (u:=u));have zZ:Hid (wa.heap.size<=gc/\gc<w2.heap.size):=lH ⟨hgc,jE hbc.lt bH.size⟩;have nO:Hid (wa.heap.size<=w2.heap.size):=lH (cO bC.size bH.size);have hz:Below wa.heap.size wa w2:=bC.tm bH;replace P0:=lH (P0.o.bl hz);replace P1:=lH (P1.o.bl hz);replace P2:=lH (P2.o.bl hz);replace P3:=lH (P3.o.bl hz);clear bC bH hgc hbc hv hu hz b0 bl
 go_upto_region 2 with fail
 unfold mkF at KX DL;generalize EM:w2.alloc (.cells #[.slice (some ⟨gc,0,none⟩) n1 n1,.bool u.b1,.slice u.A u.n u.c,.bool u.b2,.slice u.A2 u.m u.d] 117)=wb at *;clear EM;have AQ:=lH (cH.o.tm DL.o);have EV:Hid (aDk wb wa.heap.size (w.heap.size+1) g ⟨A0,n0,c0,A1,n1,c1,A2,n2,c2,A3,n3,c3,A4,n4,c4,A5,n5,c5,A6,n6,c6⟩ y x w2.heap.size gc):=lH ⟨nO.o,zZ.o.1,by have:=dZ.o;omega,by have:=dZ.o;have:=HG.o.lt;omega,by have:=DL.o.size;have:=nO.o;omega,P1.o.bl DL.o,HG.o.bl AQ.o,(HR.o.below AQ.o lR).more (by have:=dZ.o;omega)⟩;replace P0:=lH (P0.o.bl DL.o);replace P2:=lH (P2.o.bl DL.o);replace P3:=lH (P3.o.bl DL.o);generalize IB:w2.heap.size=gf at *;have mD:Hid (wa.heap.size<=gf):=lH (by have:=nO.o;omega);clear IB DL cH P1 nO HG;obtain⟨k0,kl⟩:=P2.o.b1
 go_upto_if 19 with fail
 clear k0 kl;obtain⟨D0,r0,s0,D1,r1,s1,D2,r2,s2,D3,r3,s3,D4,r4,s4,D5,r5,s5⟩:=h;by_cases hk:kind=0
 ·subst hk
  have QY:=H0.o rfl;rcases oE x name with⟨h1,_⟩ | ⟨i,b,h1,h2,h3⟩
  ·exact absurd (show 0<=lL x name from QY) (by omega)
  clear QY h3;have HBI:=lH h1;have qA:=lH h2;clear h1 h2;obtain⟨y0,y1,y2,y3,y4,y5,nf,nlt⟩:=aW P0.o;dsimp only at y0 y1 y2 y3 y4 y5;have k1:=P2.o.cell 1;have kl:=P2.o.lt;(go_wp2_with fail);refine(wV _ x name wb (HX.o.up AQ.o)).mono ?_;rintro e w5 ⟨rfl,fD⟩;rw[HBI.o];(go_wp2_with fail);refine(o9 (s:=(jN n1,0)) (EV.out.oth (fH fD)) (KX.o.up fD) (IN n1) (by decide) fC.o.symm h8 bU.o qA.o false).mono ?_;rintro e w6 ⟨rfl,ho,vs2,u2,hf⟩;have HO:Hid (CY gf gc wb w6):=lH ((fH fD).trans ho);have HF:=lH hf;clear fD ho hf k1 kl;clear y0 y1 y2 y3 y4 y5 nf nlt;have L6:Hid (aS x ⟨0,name,txt,wt⟩=(lP (sg false (cP b)) (aD x b.fr) (aD x b.to) (jN n1),0+sg false (eS b))):=lH (by
   obtain⟨a1,a2,a3,a4⟩:=kM qA.o;unfold aS;rw[if_pos rfl];simp only[HBI.o,jF,fC.o,dN,vf,a1,a2,a3,a4];rfl)
  have l8:Hid ((lP (sg false (cP b)) (aD x b.fr) (aD x b.to) (jN n1)).length=n1):=lH (by rw[gG];simp[jN]);have HL:Hid (Below w.heap.size w w6):=lH (AQ.o.trans (HO.o.below (by have:=dZ.o;have:=mD.o;omega) (by have:=dZ.o;have:=zZ.o.1;omega) AQ.o.size));have P3b:Hid (aG w6 (w.heap.size+1+1+1) 117 #[.slice none 0 0,.bool false,.slice none 0 0,.bool false,.slice none 0 0]):=lH (HO.o.blk P3.o (by have:=dZ.o;have:=mD.o;omega) (by have:=dZ.o;have:=zZ.o.1;omega));have HPC:Hid (gc≠w.heap.size+1+1+1):=lH (by have:=dZ.o;have:=zZ.o.1;omega);obtain⟨q0,q1,q2,q3,q4⟩:=HF.o.blk.a5;rw[l8.o] at q0;obtain⟨z0,z1,z2,z3,z4,zf,zl⟩:=P3b.o.e5;have ql:=HF.o.blk.lt;(go_wp2_with fail);have HPB:=lH (m6 (gc:=gc) (n:=n1) (u:=u2) P3b.o);clear q0 z0 q1 z1 q2 z2 q3 z3 q4 z4 ql zl zf;obtain⟨p0,p1,p2,p3,p4⟩:=HPB.o.a5;unfold put5 at p0 p1 p2 p3 p4;refine bodyPost_ret (v:=.agg #[.slice (some ⟨gc,0,none⟩) n1 n1,.bool u2.b1,.slice u2.A u2.n u2.c,.bool u2.b2,.slice u2.A2 u2.m u2.d]) (by simp[results,Tryz.results63,go_sem,p0,p1,p2,p3,p4]) rfl ?_;refine⟨jD (gc:=gc) (n:=n1) (u:=u2) HL.o (by omega),gc,u2,by rw[fC.o],?_,?_⟩
  ·have h:=HF.o.rdq P3b.o HPC.o (n:=n1) (y:=u2)
   rw[fC.o,L6.o];rw[l8.o] at h;exact h
  ·rw[L6.o]
   exact HF.o.val.keep5 P3b.o (gc:=gc) (n:=n1) (u:=u2)
 ·have hkB:(kind == 0)=false:=by simp[hk]
  rw[hkB];have hm:=H1.o hk;obtain⟨ha1,ha2,ha3⟩:=bG bU.o hm;obtain⟨LO,IA⟩:=tB hm;have HA:Hid (∀N,Calls Tryz.prog 91 #[.slice D0 r0 s0,.string name] (wb.drewN N) fun e w'=>e=.returned (.int .i64 (dE x.nodes name:Int))/\w'=wb.drewN N):=lH fun N=>by
   have hx:=HX.o.up (bD AQ.o N);exact(k_ _ _ s0 x.nodes name _ hx.r0 hx.m0).mono fun e w' ⟨he,hw⟩=>⟨by rw[he,LO],hw.symm⟩
  have HBN:Hid (aD x name<n1):=lH (by rw[<-fC.o];exact ha2);have gN:=EV.out.rd.r0;simp only at gN;have O7:=gN.2 (by have:=gN.len;omega);obtain⟨tb,to2,hA,UW,-⟩:=O7;subst hA;have f0:=gN.at_ (i:=dE x.nodes name) (z:=(aD x name:Int)) (by rw[dN] at ha1;rw[iB ha3] at ha1 ⊢;simpa using ha1);have DH:((dE x.nodes name:Nat):Int)<(n0:Int):=by have:=gN.len;omega
  have kA:(0:Int)<=((dE x.nodes name:Nat):Int):=by omega
  have kT:((dE x.nodes name:Nat):Int).toNat=dE x.nodes name:=jF _;have LM:tb<wb.heap.size:=jE UW EV.out.hs;obtain⟨y0,y1,y2,y3,y4,y5,nf,nlt⟩:=aW P0.o;dsimp only at y0 y1 y2 y3 y4 y5;obtain⟨k0,k1,kl⟩:=P2.o.b2;obtain⟨b0,bl⟩:=EV.out.box.b1;have g0:wb.cell? ⟨g,0,none⟩=some (.slice (some ⟨tb,to2,none⟩) n0 c0):=EV.out.md.cell 0;have gl:=EV.out.md.lt;clear LO IA ha1 ha2 ha3 hm gN UW;generalize dE x.nodes name=ia at *;generalize hK:aD x name=bus at *;have aHT:=lH hK;clear hK;(go_wp2_with fail)
  go_quiet ((go_at_call_of 91 (Value.string name);exact(HA.o _).mono (fun _ _ hh=>⟨hh.1,_,hh.2⟩)))
  have hd:=bD (Below.refl wb.heap.size wb) nq;replace EV:=lH (EV.out.oth (fH hd));replace KX:=lH (KX.o.up hd);replace P2:=lH (P2.o.bl hd);replace P3:=lH (P3.o.bl hd);replace AQ:=lH (bD AQ.o nq);clear y0 y1 y2 y3 y4 y5 nf nlt;clear hd k0 k1 kl b0 bl g0 gl f0 HA DH kA kT LM hkB P0 HX;generalize wb.drewN nq=wd at *;obtain⟨k0,kl⟩:=P2.o.b1;have P8:Hid ((jN n1).length=n1):=lH (by simp[jN]);by_cases rV:kind=2
  ·subst rV
   obtain⟨xe,hx,c0,c1,c2',c3',hv,l1,f1⟩:=KX.o.elem (j:=bus) (by rw[P8.o];exact HBN.o);have GL:=lH hx;have q0:=KX.o.blk.cell 0;rw[P8.o] at q0;have ql:=KX.o.blk.lt;have uI:(bus:Int)<(n1:Int):=by have:=HBN.o;omega
   have uJ:=lZ bus;have uH:=jF bus;have bM:=lH (aK (Below.refl wd.heap.size wd));clear hx hv;(go_upto_region 8 with fail);clear k0 kl;refine kX 5 (fun hHeld=>?_);simp only[nI,List.take_zero];refine cW [0,1,2] ?_;refine bQ 3 (fun K hK=>?_);go_simp;refine(qD 1 wd.drew (by decide) (by decide)).mono ?_;rintro e w8 ⟨gP,v8,rfl,h8⟩;have dR:Hid (Below wd.heap.size wd w8):=lH (bM.o.tm gP);have H8:Hid (dD w8 w8.heap.size 1 v8):=lH h8;clear gP h8;go_simp;refine gZ hK dR.o (fun hHeld=>?_);clear hK K;refine cW [4] ?_;refine eM ?_;clear hHeld;have uV:=lH (KX.o.up dR.o);have sK:Hid (CY gf gc wd w8):=lH (fH dR.o);clear c0 c1 c2' c3' l1 f1 q0 ql KX bM dR;obtain⟨c0,c1,c2',c3',l1,f1⟩:=uV.o.elem2 GL.o;(go_upto_region 9 with fail);clear c0 c1 c2' c3' l1 f1;have HF:=lH (uV.o.put (j:=bus) (by rw[P8.o];exact HBN.o) H8.o);have HO:Hid (CY gf gc wd (eO w8 gc bus v8)):=lH (sK.o.trans BZ);clear uV sK H8 GL uI uJ uH;simp only[eO] at HF HO;generalize (((w8.setCell ⟨gc,bus*4,none⟩ _).setCell ⟨gc,bus*4+1,none⟩ _).setCell ⟨gc,bus*4+2,none⟩ _).setCell ⟨gc,bus*4+3,none⟩ _=we at *;replace AQ:=lH AQ.o;have L6:Hid (aS x ⟨2,name,txt,wt⟩=((jN n1).set bus 1,0)):=lH (by unfold aS;rw[if_neg (show ¬(2:Int)=0 by decide),if_pos rfl,fC.o];simp only[aHT.o]);have l8:Hid (((jN n1).set bus 1).length=n1):=lH (by rw[lS];exact P8.o);have HL:Hid (Below w.heap.size w we):=lH (AQ.o.trans (HO.o.below (by have:=dZ.o;have:=mD.o;omega) (by have:=dZ.o;have:=zZ.o.1;omega) AQ.o.size));have P3b:Hid (aG we (w.heap.size+1+1+1) 117 #[.slice none 0 0,.bool false,.slice none 0 0,.bool false,.slice none 0 0]):=lH (HO.o.blk P3.o (by have:=dZ.o;have:=mD.o;omega) (by have:=dZ.o;have:=zZ.o.1;omega));have HPC:Hid (gc≠w.heap.size+1+1+1):=lH (by have:=dZ.o;have:=zZ.o.1;omega);obtain⟨q0,q1,q2,q3,q4⟩:=HF.o.blk.a5;rw[l8.o] at q0;obtain⟨z0,z1,z2,z3,z4,zf,zl⟩:=P3b.o.e5;have ql:=HF.o.blk.lt;(go_wp2_with fail);have HPB:=lH (m6 (gc:=gc) (n:=n1) (u:=u) P3b.o);clear q0 z0 q1 z1 q2 z2 q3 z3 q4 z4 ql zl zf;obtain⟨p0,p1,p2,p3,p4⟩:=HPB.o.a5;unfold put5 at p0 p1 p2 p3 p4;refine bodyPost_ret (v:=.agg #[.slice (some ⟨gc,0,none⟩) n1 n1,.bool u.b1,.slice u.A u.n u.c,.bool u.b2,.slice u.A2 u.m u.d]) (by simp[results,Tryz.results63,go_sem,p0,p1,p2,p3,p4]) rfl ?_;refine⟨jD (gc:=gc) (n:=n1) (u:=u) HL.o (by omega),gc,u,by rw[fC.o],?_,?_⟩
   ·have h:=HF.o.rdq P3b.o HPC.o (n:=n1) (y:=u)
    rw[fC.o,L6.o];rw[l8.o] at h;exact h
   ·rw[L6.o]
    exact HF.o.val.keep5 P3b.o (gc:=gc) (n:=n1) (u:=u)
  ·have aOh:(kind == 2)=false:=by simp[rV]
   obtain⟨b0,bl⟩:=EV.out.box.b1;have g4:wd.cell? ⟨g,4,none⟩=some (.slice A4 n4 c4):=EV.out.md.cell 4;have gl:=EV.out.md.lt;have L6:Hid (aS x ⟨kind,name,txt,wt⟩=nM bus (mB x) (mC x) (gV x) (CC x) (jN n1,0)):=lH (by unfold aS;rw[if_neg (show ¬kind=0 from hk),if_neg (show ¬kind=2 from rV),fC.o];simp only[aHT.o]);generalize hRR:nM bus (mB x) (mC x) (gV x) (CC x) (jN n1,0)=RR at *;have xN:=lH hRR;clear hRR;have mK:Hid (x.brs.length=n4):=lH (by rw[<-pF];exact EV.out.rd.r4.len);have iI:Hid (x.brs.length=n2):=lH (by rw[<-mQ,<-e_];exact EV.out.rd.r2.len);have tS:Hid (x.brs.length=n3):=lH (by rw[<-rQ,<-e_];exact EV.out.rd.r3.len);have hn4:n4<=24:=by have:=bU.o.l2;have:=mK.o;omega
   (go_wp2_with fail);clear k0 kl aOh b0 bl g4 gl
   go_loopw [53] (fun v53 wr=>∃(k:Nat)(vs:List Rv)(u2:Rv)(s:List Rat×Rat),k<=n4/\v53=.int .i64 k/\CY gf gc wd wr/\FC wr gf gc vs u2 s.1 s.2/\QL n1 (2+12*k) s/\nM bus ((mB x).drop k) ((mC x).drop k) ((gV x).drop k) ((CC x).drop k) s=RR) (fun v53 _=>n4-(intOf v53).toNat)
   case atStart=>exact⟨0,_,_,(jN n1,0),by omega,rfl,fH bR,KX.o,IN n1,xN.o⟩
   case round=>
    clear KX xN;obtain⟨k,vs,u2,s,hk,rfl,ho,hf,pY,pD⟩:=hrel;obtain⟨HO,HF,KV,kV⟩:=iK ho hf pY pD;clear ho hf pY pD;by_cases aU:k<n4
    ·obtain⟨b,hb⟩:∃b,x.brs[k]?=some b:=eA (by have:=mK.o;omega)
     have qA:=lH hb;obtain⟨a1,a2,a3,a4⟩:=kM hb;have gQ:=lH ((JQ (s:=s) (bus:=bus) a3 a4 a1 a2).symm.trans kV.o);have Y4:=lH a1;have HTO:=lH a2;clear hb a1 a2 a3 a4 kV;have fY:(k:Int)<(n4:Int):=by omega
     have aSM:(k:Int)<(n2:Int):=by have:=iI.o;have:=mK.o;omega
     have aSL:(k:Int)<(n3:Int):=by have:=tS.o;have:=mK.o;omega
     have lB:=lZ k;have rJ:=jF k;have l9:=lN k;have jV:Hid (n4-(k+1)<n4-k):=lH (by omega);have U3:Hid (2+12*k+6<=1000000):=lH (by omega);generalize GH:aD x b.fr=bu at *;generalize K9:aD x b.to=bv at *;have UN:=lH GH;have FB:=lH K9;clear GH K9;have HE:=lH (EV.out.oth HO.o);have tD:=HE.o.rd.r2;simp only at tD;have AJ:=tD.2 (by have:=iI.o;have:=mK.o;omega);obtain⟨fb2,fo2,hA,qU,-⟩:=AJ;subst hA;have f0:=tD.at_ (fS Y4.o);have uK:fb2<wr.heap.size:=jE qU HE.o.hs;obtain⟨b0,bl⟩:=HE.o.box.b1;have g0:wr.cell? ⟨g,2,none⟩=some (.slice (some ⟨fb2,fo2,none⟩) n2 c2):=HE.o.md.cell 2;have gl:=HE.o.md.lt;clear tD qU;unfold i_ at gQ;dsimp only at gQ;by_cases hu:bu=bus
     ·have huB:((bu:Int) == (bus:Int))=true:=by simp[hu]
      rw[if_pos hu] at gQ;(go_wp2_with fail);refine(o9 (s:=s) HE.o HF.o KV.o (by have:=U3.o;omega) fC.o.symm h8 bU.o qA.o false).mono ?_;rintro e w7 ⟨rfl,ho7,vs7,u7,hf7⟩;rw[UN.o,FB.o] at hf7;replace KV:=lH (pS bU.o (s:=s) KV.o fC.o.symm qA.o false);rw[UN.o,FB.o] at KV;replace HO:=lH (HO.o.trans ho7);replace HF:=lH hf7;clear ho7 hf7 huB;clear f0 uK b0 bl g0 gl HE;have HE:=lH (EV.out.oth HO.o);have tD:=HE.o.rd.r3;simp only at tD;have AJ:=tD.2 (by have:=tS.o;have:=mK.o;omega);obtain⟨fb3,fo3,hA,qU,-⟩:=AJ;subst hA;have f0:=tD.at_ (fS HTO.o);have uK:fb3<w7.heap.size:=jE qU HE.o.hs;obtain⟨b0,bl⟩:=HE.o.box.b1;have g0:w7.cell? ⟨g,3,none⟩=some (.slice (some ⟨fb3,fo3,none⟩) n3 c3):=HE.o.md.cell 3;have gl:=HE.o.md.lt;clear tD qU;by_cases hv:bv=bus
      ·have hvB:((bv:Int) == (bus:Int))=true:=by simp[hv]
       (go_wp2_with fail);refine(o9 (s:=(lP (sg false (cP b)) bu bv s.1,s.2+sg false (eS b))) HE.o HF.o KV.o (by have:=U3.o;omega) fC.o.symm h8 bU.o qA.o true).mono ?_;rintro e w9 ⟨rfl,ho9,vs9,u9,QV⟩;rw[UN.o,FB.o] at QV;have KU:=lH (pS bU.o (s:=(lP (sg false (cP b)) bu bv s.1,s.2+sg false (eS b))) KV.o fC.o.symm qA.o true);rw[UN.o,FB.o] at KU;have E7:=lH (HO.o.trans ho9);have Y6:=lH QV;clear ho9 QV f0 uK b0 bl g0 gl;rw[if_pos hv] at gQ;(go_wp2_with fail);go_roundw
       case rel=>exact⟨k+1,_,_,_,aU,aO l9.o,E7.o,Y6.o,KU.o.mono (by omega),gQ.o⟩
       case measure=>exact jV.o
      ·have hvB:((bv:Int) == (bus:Int))=false:=by simp;omega
       rw[if_neg hv] at gQ;(go_wp2_with fail);go_roundw
       case rel=>exact⟨k+1,_,_,_,aU,aO l9.o,HO.o,HF.o,KV.o.mono (by omega),gQ.o⟩
       case measure=>exact jV.o
     ·have huB:((bu:Int) == (bus:Int))=false:=by simp;omega
      rw[if_neg hu] at gQ;(go_upto_region 15 with fail);clear huB;clear f0 uK b0 bl g0 gl HE;have HE:=lH (EV.out.oth HO.o);have tD:=HE.o.rd.r3;simp only at tD;have AJ:=tD.2 (by have:=tS.o;have:=mK.o;omega);obtain⟨fb3,fo3,hA,qU,-⟩:=AJ;subst hA;have f0:=tD.at_ (fS HTO.o);have uK:fb3<wr.heap.size:=jE qU HE.o.hs;obtain⟨b0,bl⟩:=HE.o.box.b1;have g0:wr.cell? ⟨g,3,none⟩=some (.slice (some ⟨fb3,fo3,none⟩) n3 c3):=HE.o.md.cell 3;have gl:=HE.o.md.lt;clear tD qU;by_cases hv:bv=bus
      ·have hvB:((bv:Int) == (bus:Int))=true:=by simp[hv]
       (go_wp2_with fail);refine(o9 (s:=s) HE.o HF.o KV.o (by have:=U3.o;omega) fC.o.symm h8 bU.o qA.o true).mono ?_;rintro e w9 ⟨rfl,ho9,vs9,u9,QV⟩;rw[UN.o,FB.o] at QV;have KU:=lH (pS bU.o (s:=s) KV.o fC.o.symm qA.o true);rw[UN.o,FB.o] at KU;have E7:=lH (HO.o.trans ho9);have Y6:=lH QV;clear ho9 QV f0 uK b0 bl g0 gl;rw[if_pos hv] at gQ;(go_wp2_with fail);go_roundw
       case rel=>exact⟨k+1,_,_,_,aU,aO l9.o,E7.o,Y6.o,KU.o.mono (by omega),gQ.o⟩
       case measure=>exact jV.o
      ·have hvB:((bv:Int) == (bus:Int))=false:=by simp;omega
       rw[if_neg hv] at gQ;(go_wp2_with fail);go_roundw
       case rel=>exact⟨k+1,_,_,_,aU,aO l9.o,HO.o,HF.o,KV.o.mono (by omega),gQ.o⟩
       case measure=>exact jV.o
    ·have nH:k=n4:=by omega
     have HS:Hid (s=RR):=lH (by have h:=kV.o;rw[List.drop_eq_nil_of_le (by rw[pF];have:=mK.o;omega)] at h;exact h);have l8:Hid (s.1.length=n1):=lH KV.o.len;replace L6:Hid (aS x ⟨kind,name,txt,wt⟩=(s.1,s.2)):=lH (by rw[L6.o,<-HS.o]);have fY:¬(k:Int)<(n4:Int):=by omega
     clear kV HS nH aU hk;have HL:Hid (Below w.heap.size w wr):=lH (AQ.o.trans (HO.o.below (by have:=dZ.o;have:=mD.o;omega) (by have:=dZ.o;have:=zZ.o.1;omega) AQ.o.size));have P3b:Hid (aG wr (w.heap.size+1+1+1) 117 #[.slice none 0 0,.bool false,.slice none 0 0,.bool false,.slice none 0 0]):=lH (HO.o.blk P3.o (by have:=dZ.o;have:=mD.o;omega) (by have:=dZ.o;have:=zZ.o.1;omega));have HPC:Hid (gc≠w.heap.size+1+1+1):=lH (by have:=dZ.o;have:=zZ.o.1;omega);obtain⟨q0,q1,q2,q3,q4⟩:=HF.o.blk.a5;rw[l8.o] at q0;obtain⟨z0,z1,z2,z3,z4,zf,zl⟩:=P3b.o.e5;have ql:=HF.o.blk.lt;(go_wp2_with fail);have HPB:=lH (m6 (gc:=gc) (n:=n1) (u:=u2) P3b.o);clear q0 z0 q1 z1 q2 z2 q3 z3 q4 z4 ql zl zf;obtain⟨p0,p1,p2,p3,p4⟩:=HPB.o.a5;unfold put5 at p0 p1 p2 p3 p4;refine bodyPost_ret (v:=.agg #[.slice (some ⟨gc,0,none⟩) n1 n1,.bool u2.b1,.slice u2.A u2.n u2.c,.bool u2.b2,.slice u2.A2 u2.m u2.d]) (by simp[results,Tryz.results63,go_sem,p0,p1,p2,p3,p4]) rfl ?_;refine⟨jD (gc:=gc) (n:=n1) (u:=u2) HL.o (by omega),gc,u2,by rw[fC.o],?_,?_⟩
     ·have h:=HF.o.rdq P3b.o HPC.o (n:=n1) (y:=u2)
      rw[fC.o,L6.o];rw[l8.o] at h;exact h
     ·rw[L6.o]
      exact HF.o.val.keep5 P3b.o (gc:=gc) (n:=n1) (u:=u2)
structure iS (w:Wo) (base:Nat) (v:Value) (hs:List Hd) (M:List (List Rat)):Prop where
 own:bK rF w base 93 1 v hs.length (hs.map Hd.val)
 len:hs.length=M.length
 rows:∀(i:Nat)(h:Hd)(q:List Rat),hs[i]?=some h->M[i]?=some q->∃B us,dP w B h.val us q
theorem dP.blkS{us:List Rv}(h:dP w B v us q)(k:d8 rF b 93 w w'):dP w' B v us q:=⟨h.own.blk k (by decide),h.len,fun i p x hp hx=>(h.ok i p x hp hx).keeps k⟩
theorem iS.keep{hs:List Hd}(m:iS w base v hs M)(hb:Below w.heap.size w w'):iS w' base v hs M:=⟨m.own.keep hb,m.len,fun i h q hh hq=>by
 obtain⟨B,us,k⟩:=m.rows i h q hh hq;exact⟨B,us,k.keep hb⟩⟩
theorem iS.app{v':Value}{hs:List Hd}{z:Hd}{us:List Rv}{p:List Rat}(m:iS w base v hs M)(hp:dP w B z.val us p)(h1:bK rF w' base 93 1 v' (hs.length+1) (hs.map Hd.val++[z.val]))(k:d8 rF base 93 w w'):iS w' base v' (hs++[z]) (M++[p]):=by
 refine⟨by rw[jW,List.length_singleton,List.map_append];exact h1,by rw[jW,jW,m.len];rfl,fun i h q hh hq=>?_⟩;by_cases hi:i<M.length
 ·rw[BD hi] at hq
  rw[BD (by rw[m.len];exact hi)] at hh;obtain⟨B,us,r⟩:=m.rows i h q hh hq;exact⟨B,us,r.blkS k⟩
 ·rw[DN (by omega)] at hq
  rw[DN (by rw[m.len];omega),m.len] at hh;have IA:=(dH.1 hq).1;rw[List.length_singleton] at IA;have:i-M.length=0:=by omega
  rw[this] at hq hh;simp at hq hh;subst hq;subst hh;exact⟨B,us,hp.blkS k⟩
theorem iS.rd{hs:List Hd}(m:iS w base v hs M):∃A c,v=.slice A M.length c/\lQ w w.heap.size A M.length M/\M.length<=c/\c<=maxLen:=by
 obtain⟨A,c,hv,hr,h1,h2,h3⟩:=AD m.own.own;rw[m.len] at hv hr h1;refine⟨A,c,hv,⟨hs,m.len,rfl,hr,fun i h q hh hq=>?_⟩,h1,h2⟩;obtain⟨B,us,k⟩:=m.rows i h q hh hq;obtain⟨A',c',e,r,k1,k2,_⟩:=k.rd;unfold Hd.val at e;injection e with e1 e2 e3;rw[e1,e2,e3];exact⟨r,k1,k2⟩
def aV(x:bO)(ms:List Mi):List (List Rat):=ms.map fun m=>kH x (aS x m).1
def vW(x:bO)(m:Mi):Prop:=(m.kind=0->0<=lL x m.name)/\(m.kind≠0->m.name∈x.nodes)
theorem W_(ok:bJ x){bus:Nat}{s:List Rat×Rat}(hs:QL n K s)(hn:n=aH x){b:Br}(hb:b∈x.brs):QL n (K+12) (i_ bus (aD x b.fr) (aD x b.to) (cP b) (eS b) s):=by
 obtain⟨k,hk⟩:=List.getElem?_of_mem hb;unfold i_;dsimp only;have h1:QL n (K+6) (if aD x b.fr=bus then(lP (sg false (cP b)) (aD x b.fr) (aD x b.to) s.1,s.2+sg false (eS b)) else s):=by
  split
  ·exact pS ok hs hn hk false
  ·exact hs.mono (by omega)
 split
 ·exact pS ok h1 hn hk true
 ·exact h1.mono (by omega)
theorem SO(ok:bJ x){bus:Nat}(hn:n=aH x):∀(bs:List Br)(K:Nat)(s:List Rat×Rat),(∀b∈bs,b∈x.brs)->QL n K s->QL n (K+12*bs.length) (nM bus (bs.map cP) (bs.map eS) (bs.map fun b=>aD x b.fr) (bs.map fun b=>aD x b.to) s)
 | [],K,s,_,hs=>hs
 | b::bs,K,s,h,hs=>by
  have h1:=SO ok (bus:=bus) hn bs (K+12) _ (fun a ha=>h a (List.mem_cons_of_mem _ ha)) (W_ ok (bus:=bus) hs hn (h b List.mem_cons_self));refine QL.mono (K:=K+12+12*bs.length) h1 ?_;rw[GS];omega
theorem nA(ok:bJ x)(hm:vW x m):QL (aH x) 300 (aS x m):=by
 have hz:=IN (aH x);have hl:=ok.l2;unfold aS;split
 ·rename_i h0
  have h1:=hm.1 h0;rcases oE x m.name with⟨e,_⟩ | ⟨i,b,e,hb,_⟩
  ·omega
  ·obtain⟨a1,a2,a3,a4⟩:=kM hb
   have h2:=pS ok hz rfl hb false;simp only[e,jF,dN,vf,a1,a2,a3,a4];exact h2.mono (by omega)
 ·split
  ·rename_i h0 h2
   have hq:bI (1:Rat)<=2:=dV 1 (by decide) (by decide);refine⟨by rw[lS];exact hz.len,fun p hp=>?_,cO hz.fr (by decide)⟩;rcases List.mem_or_eq_of_mem_set hp with e | e
   ·exact cO (hz.cf p e) (by decide)
   ·rw[e];exact cO hq (by decide)
  ·have h:=SO ok (bus:=aD x m.name) rfl x.brs 2 _ (fun b hb=>hb) hz
   have e1:gV x=x.brs.map fun b=>aD x b.fr:=by unfold gV LU;rw[List.map_map];rfl
   have e2:CC x=x.brs.map fun b=>aD x b.to:=by unfold CC LU;rw[List.map_map];rfl
   rw[e1,e2];exact h.mono (by omega)
theorem sW:(kH x q).length=(aA x).length:=by unfold kH;rw[jO]
theorem lV(ok:bJ x)(hm:∀m∈ms,vW x m):(∀a∈aV x ms,a.length=(aA x).length)/\∀a∈aV x ms,∀q∈a,bI q<=300:=by
 refine⟨fun a ha=>?_,fun a ha q hq=>?_⟩<;>(unfold aV at ha;obtain⟨m,xA,rfl⟩:=List.mem_map.1 ha)
 ·exact sW
 ·unfold kH at hq
  obtain⟨j,hj,rfl⟩:=List.mem_map.1 hq;have h:=nA ok (hm m xA);exact h.cf _ (bV (a_ (by rw[h.len];exact tH hj)))
theorem oI(h:dJ x ms=0):bJ x/\ms.length<=64/\∀m∈ms,vW x m:=by
 unfold dJ at h;split at h
 ·exact absurd h (by assumption)
 ·rename_i hn
  have hn:b_ x=0:=by omega
  split at h
  ·omega
  ·refine⟨lW hn,by omega,fun m hm=>?_⟩
   have h1:=CA h m hm;unfold CB at h1;split at h1
   ·omega
   ·split at h1
    ·omega
    ·rename_i hb
     refine⟨fun h0=>?_,fun h0=>?_⟩
     ·exact Int.not_lt.1 fun e=>hb (.inl ⟨h0,e⟩)
     ·have h2:¬(x.nodes.any fun y=>pH m.name y)=false:=fun e=>hb (.inr ⟨h0,e⟩)
      have h3:(x.nodes.any fun y=>pH m.name y)=true:=by simpa using h2
      obtain⟨y,hy,he⟩:=List.any_eq_true.1 h3;rw[pM.1 he];exact hy
theorem aJ6(A:OA)(n c:Nat)(u:Rv)(q:List Rat)(z:Rat)(B:OA)(m d:Nat)(al:List Rat)(w:Wo)(hq:iT w w.heap.size A n q)(hz:dD w w.heap.size z u)(ha:iT w w.heap.size B m al)(H_:n<=m)(hn:n<=1000)(h1:∀p∈q,bI p<=2000)(h2:∀p∈al,bI p<=2000)(h3:bI z<=2000):Calls Tryz.prog 64 #[.agg #[.slice A n c,.bool u.b1,.slice u.A u.n u.c,.bool u.b2,.slice u.A2 u.m u.d],.slice B m d] w (QP (jJ q al+z) w):=by
 have K0:Below w.heap.size w ((w.alloc (.cells #[.slice A n c,.bool u.b1,.slice u.A u.n u.c,.bool u.b2,.slice u.A2 u.m u.d] 117)).alloc (.cells #[.bool false,.slice none 0 0,.bool false,.slice none 0 0] 115)):=(bA).alloc (by simp) _;have HK:=lH K0;have PF:=lH ((aG.new w 117 #[.slice A n c,.bool u.b1,.slice u.A u.n u.c,.bool u.b2,.slice u.A2 u.m u.d]).alloc (.cells #[.bool false,.slice none 0 0,.bool false,.slice none 0 0] 115));have PB:Hid (aG ((w.alloc (.cells #[.slice A n c,.bool u.b1,.slice u.A u.n u.c,.bool u.b2,.slice u.A2 u.m u.d] 117)).alloc (.cells #[.bool false,.slice none 0 0,.bool false,.slice none 0 0] 115)) (w.heap.size+1) 115 #[.bool false,.slice none 0 0,.bool false,.slice none 0 0]):=lH (aG.new_ (by simp));obtain⟨HQ,HZ,HA,H1,H2⟩:=kN (hq.up K0) (hz.up K0) (ha.up K0) h1 h2;have H3:=lH h3;have dZ:Hid (w.heap.size+1<((w.alloc (.cells #[.slice A n c,.bool u.b1,.slice u.A u.n u.c,.bool u.b2,.slice u.A2 u.m u.d] 117)).alloc (.cells #[.bool false,.slice none 0 0,.bool false,.slice none 0 0] 115)).heap.size):=lH (by simp);have l8:Hid (q.length=n):=lH hq.len;have HDS:Hid (bI (jJ q al)+bI z+1<=35184372088832):=lH (by
  have h:=nC (n:=n) (Z:=2000) hq.len h1 h2 n lR;rw[nL (by rw[List.length_zipWith,hq.len];exact Nat.min_le_left _ _)] at h;have h':bI (jJ q al)<=n*(2*2000+1)+1:=h;have:n*(2*2000+1)<=1000*(2*2000+1):=Nat.mul_le_mul_right _ hn;omega)
 clear K0 hq hz ha h1 h2 h3;go_enter Tryz.func64,Tryz.ntmps64
 go_upto_region 1 with fail
 generalize (w.alloc (.cells #[.slice A n c,.bool u.b1,.slice u.A u.n u.c,.bool u.b2,.slice u.A2 u.m u.d] 117)).alloc (.cells #[.bool false,.slice none 0 0,.bool false,.slice none 0 0] 115)=W at *;obtain⟨y0,y1,y2,y3,y4,yl⟩:=PF.out.b5;refine kX 7 (fun hHeld=>?_);simp only[nI,List.take_zero];refine cW [0,1,2,4,5] ?_;clear y0 y1 y2 y3 y4 yl;have zL:=lH (aK (Below.refl W.heap.size W));generalize W.drew=v0 at *;refine bQ 3 (fun K hK=>?_);go_simp;refine(CS A n c B m d q al 2000 v0 (HQ.o.up zL.o) (HA.o.up zL.o) H_ (by omega) H1.o H2.o (by have:n*(2*2000+1)<=1000*(2*2000+1):=Nat.mul_le_mul_right _ hn;omega)).mono ?_;rintro e v1 ⟨bC,x1,rfl,CH⟩;have lT:Hid (Below W.heap.size W v1):=lH (zL.o.tm bC);have eB:=lH CH;clear bC CH zL;go_simp;refine gZ hK lT.o (fun hHeld=>?_);clear hK K;refine bQ 6 (fun K hK=>?_);go_simp;refine(EZ eB.o (HZ.o.up lT.o) HDS.o).mono ?_;rintro e v2 ⟨bH,x2,rfl,y9⟩;have sJ:Hid (Below W.heap.size W v2):=lH (lT.o.tm bH);have f_:=lH y9;clear bH y9 lT eB;go_simp;refine gZ hK sJ.o (fun hHeld=>?_);clear hK K;refine eM ?_;clear hHeld;have PC:=lH (PB.out.bl sJ.o);obtain⟨z0,z1,z2,z3,zf,zl⟩:=PC.out.e4
 go_wp2_with fail
 clear z0 z1 z2 z3 zl zf;have PD:=lH (r_ (v:=x2) PC.out);obtain⟨p0,p1,p2,p3⟩:=PD.out.a4;unfold F8 at p0 p1 p2 p3;refine bodyPost_ret (v:=.agg #[.bool x2.b1,.slice x2.A x2.n x2.c,.bool x2.b2,.slice x2.A2 x2.m x2.d]) (by simp[results,Tryz.results64,go_sem,p0,p1,p2,p3]) rfl ?_;exact⟨dO (v:=x2) (HK.o.trans (sJ.o.mono (by have:=dZ.o;omega))) (Nat.le_succ _),x2,rfl,f_.o.keepq PC.out (x:=⟨false,none,0,0,false,none,0,0⟩)⟩
def YF(n n1:Nat)(ss:List ByteArray):Int:=if n≠n1 then 3 else dS ss
theorem aCJ(g:Nat)(m:iU)(y:Value)(A:OA)(n c:Nat)(ss:List ByteArray)(w:Wo)(hg:aG w g 122 (m.cells y))(hR:aY w w.heap.size A n ss)(hs:∀s∈ss,s.size<=maxLen)(hn:n<=9223372036854775807)(ht:dM w)(ae:Int)(hae:YF n m.n1 ss=ae):Calls Tryz.prog 61 #[.pointer (some ⟨g,0,none⟩),.slice A n c] w fun e w'=>e=.returned (.int .i64 ae)/\Below w.heap.size w w':=by
 have HG:=lH hg;have HC:=lH (EW A n c ss w hR hs hn ht);clear hg hR hs ht;go_enter Tryz.func61,Tryz.ntmps61
 go_wp2_with fail
 refine(nU g m y w HG.o).mono ?_;rintro e w1 ⟨rfl,rfl⟩;by_cases h:n=m.n1
 ·have HE:Hid (ae=dS ss):=lH (by rw[<-hae];unfold YF;rw[if_neg (fun hh=>hh h)])
  clear hae;rw[<-h];clear h;(go_wp2_with fail);refine HC.o.mono ?_;rintro e w2 ⟨rfl,bH⟩;have HB:=lH bH;clear bH HC;(go_wp2_with fail);go_ret;exact⟨aX HE.o.symm,HB.o⟩
 ·have HE:Hid (ae=3):=lH (by rw[<-hae];unfold YF;rw[if_pos h])
  clear hae;have hB:((n:Int) != (m.n1:Int))=true:=by simp;omega
  (go_wp2_with fail);go_ret;exact⟨aX HE.o.symm,bR⟩
end
section
open Go.ChangeShapes Go.WideShapes Go.ChangeAt Go.RowKit
def J7{α:Type}(l:List α)(k:Nat):List α:=l.take k++l.drop (k+1)
theorem X5{α:Type}{l:List α}:(J7 l k)[i]?=if i<k then l[i]? else if k<l.length then l[i+1]? else none:=by
 unfold J7;by_cases h:i<k
 ·rw[if_pos h]
  by_cases hi:i<l.length
  ·rw[BD (by rw[kR];omega),List.getElem?_take_of_lt h]
  ·rw[List.getElem?_eq_none (by rw[jW,kR,LC];omega),List.getElem?_eq_none (by omega)]
 ·rw[if_neg h]
  split
  ·rename_i hk
   rw[DN (by rw[kR];omega),kR,List.getElem?_drop];congr 1
   omega
  ·rename_i hk
   exact List.getElem?_eq_none (by rw[jW,kR,LC];omega)
theorem wJ{x:Int}(h1:-9223372036854775808<=x)(h2:x<=9223372036854775807):IntKind.i64.wrap x=x:=Go.IntWalk.i64_in _ (by omega)
theorem aF9(hs:List Hd):∀u∈hs.map Hd.val,u.oneCell'=true/\rF u:=fun u hu=>by
 obtain⟨h,_,rfl⟩:=List.mem_map.1 hu;exact⟨rfl,fun k x e=>by cases e⟩
theorem Rd.heads{hs:List Hd}(h:Rd w B 1 (some ⟨b,off,none⟩) n (hs.map Hd.val))(i m:Nat)(him:i+m<=n):Rd w B 1 (some ⟨b,off+i,none⟩) m (((hs.drop i).take m).map Hd.val):=by
 have hl:=h.1;rw[jO] at hl;refine⟨by rw[jO,kR,LC];omega,fun h0=>?_⟩;obtain⟨b',off',e,aU,hc⟩:=h.2 (by omega);injection e with e;injection e with e1 e2;subst e1;subst e2;refine⟨b,off+i,rfl,aU,fun j u hu=>?_⟩;rw[List.map_take,List.map_drop] at hu;have hj:=(dH.1 hu).1;rw[kR] at hj;rw[List.getElem?_take_of_lt (by omega),List.getElem?_drop] at hu;have:=hc (i+j) u hu;rwa[<-Nat.add_assoc] at this
theorem Rd.tail{hs:List Hd}(h:Rd w B 1 (some ⟨b,off,none⟩) n (hs.map Hd.val))(hc:n<=c)(hi:i<=n):Rd w B 1 (if c=i then some ⟨b,off,none⟩ else some ⟨b,off+i,none⟩) (n-i) ((hs.drop i).map Hd.val):=by
 have hl:=h.1;rw[jO] at hl;have h2:=h.heads i (n-i) (by omega);rw[nL (by rw[LC];omega)] at h2;by_cases hci:c=i
 ·refine⟨h2.1,fun h0=>by omega⟩
 ·rw[if_neg hci];exact h2
def Hds(w:Wo)(hs:List Hd)(M:List (List Rat)):Prop:=hs.length=M.length/\∀(i:Nat)(h:Hd)(q:List Rat),hs[i]?=some h->M[i]?=some q->iT w w.heap.size h.A h.n q/\h.n<=h.c/\h.c<=maxLen
theorem Hds.up{hs:List Hd}(h:Hds w hs M)(hb:Below w.heap.size w w'):Hds w' hs M:=⟨h.1,fun i a q hh hq=>⟨((h.2 i a q hh hq).1.below hb lR).more hb.size,(h.2 i a q hh hq).2⟩⟩
theorem Hds.cut{hs:List Hd}(h:Hds w hs M)(k:Nat):Hds w (J7 hs k) (J7 M k):=by
 refine⟨by unfold J7;simp[h.1],fun i a q hh hq=>?_⟩;rw[X5] at hh hq;rw[h.1] at hh;split at hh
 ·rw[if_pos ‹_›] at hq;exact h.2 _ _ _ hh hq
 ·rw[if_neg ‹_›] at hq
  split at hh
  ·rw[if_pos ‹_›] at hq;exact h.2 _ _ _ hh hq
  ·cases hh
theorem lQ.hds(h:lQ w w.heap.size A n M):∃hs:List Hd,hs.length=n/\Rd w w.heap.size 1 A n (hs.map Hd.val)/\Hds w hs M:=by
 obtain⟨hs,h1,h2,h3,h4⟩:=h;exact⟨hs,h1,h3,h1.trans h2.symm,h4⟩
end
section
open Go.ChangeShapes Go.WideShapes Go.ChangeAt Go.RowKit Go.Joins
attribute [local go_sem ↓] aE
attribute [local go_sem] aJ aI aM aR
theorem aJu:(Tryz.prog.info? 57).map (fun i=>(i.zero,i.size,i.bytes))=some (some (.agg #[.int .i64 0,.string ⟨#[]⟩,.string ⟨#[]⟩,.int .i64 0]),4,48):=by kernel_rfl
def eN(w:Wo)(base:Nat)(v:Value)(ms:List Mi):Prop:=w.ownsRow base 57 4 v ms.length (ms.flatMap Mi.cells)
theorem eN.keep(h:eN w base v ms)(hb:Below w.heap.size w w'):eN w' base v ms:=aEP h hb
theorem eN.mono{base':Nat}(h:eN w base v ms)(hb:base'<=base):eN w base' v ms:=
 ⟨h.1,h.2.imp id fun⟨g,cap,cur,h1,h2,h3⟩=>⟨g,cap,cur,h1,cO hb h2,h3⟩⟩
theorem JG(w:Wo)(base:Nat):eN w base (.slice none 0 0) []:=aEO _ _ _ _
theorem eN.rd(h:eN w base v ms):∃A c,v=.slice A ms.length c/\fP w w.heap.size A ms.length ms/\ms.length<=c/\c<=maxLen:=by
 obtain⟨A,c,hv,hr,h1,h2,_⟩:=AD h;exact⟨A,c,hv,⟨rfl,hr⟩,h1,h2⟩
theorem eN.rd2(h:eN w base (.slice A n c) ms):fP w w.heap.size A n ms/\n<=c/\c<=maxLen:=by
 obtain⟨A',c',e,h1,h2,h3⟩:=h.rd;injection e with e1 e2 e3;subst e1;subst e2;subst e3;exact⟨h1,h2,h3⟩
theorem aBZ(ms:List Mi):∀u∈ms.flatMap Mi.cells,u.oneCell'=true:=fun u hu=>by
 obtain⟨m,_,hm⟩:=List.mem_flatMap.1 hu;simp[Mi.cells] at hm;rcases hm with rfl | rfl | rfl | rfl<;>rfl
section
variable {o:Oper} {a:Act} {w:Wo} {Q:Exit->Act->World->Prop}
theorem aDS{K:Act->World->Prop}(s x:Operand)(t:TypeId)(ho:o.op=.call { callee:=.builtin .append,args:=#[s,x],argTypes:=#[t,t] })(base:Nat)(ht:Tryz.prog.underlying t=some (.slice 57))(v:Value)(xs:List Mi)(O5:a.eval s=v)(bB:eN w base v xs)(A:OA)(m c:Nat)(ys:List Mi)(hx:a.eval x=.slice A m c)(hr:fP w w.heap.size A m ys)(xC:xs.length+m<=1000000000)(cS:base<=w.heap.size)(N:Nat)(hN:(xs++ys).length=N)(h:∀A' c' w',eN w' base (.slice A' N c') (xs++ys)->Below base w w'->w.grownBy w' v.ownBlock->K (a.put o.dst (.slice A' N c')) w'):o.wp Tryz.prog a w K Q:=by
 obtain⟨i0,kA,rU,jR,kS⟩:=info_parts aJu;obtain⟨hm,hr⟩:=hr;have CJ:∀w',w.grownBy w' v.ownBlock->Below base w w':=fun w' hg=>bR.grown hg cS fun k hk=>by
  rcases bB.2 with⟨e1,_⟩ | ⟨g,cap,cur,e1,e2,_⟩
  ·rw[e1] at hk;simp[Value.ownBlock] at hk
  ·rw[e1] at hk
   simp[Value.ownBlock] at hk;omega
 have fin:∀v' w',w'.ownsRow base 57 4 v' (xs.length+m) (xs.flatMap Mi.cells++ys.flatMap Mi.cells)->w.grownBy w' v.ownBlock->K (a.put o.dst v') w':=fun v' w' k1 k2=>by
  have k3:eN w' base v' (xs++ys):=by
   unfold eN;rw[List.flatMap_append,jW,hm];exact k1
  obtain⟨A',c',e,_⟩:=k3.rd;subst e;subst hN;exact h A' c' w' k3 (CJ _ k2) k2
 rcases Nat.eq_zero_or_pos m with rfl | h0
 ·have hys:ys=[]:=List.eq_nil_of_length_eq_zero hm
  subst hys;obtain⟨A1,c1,hv,_,hc1,_⟩:=bB.rd;have rI:Src Tryz.prog i0.size t (.slice A 0 c) 0 [] w:=by
   cases A with
   | none=>exact Src.ofNil w ht c
   | some ad=>exact Src.ofSlice w ht ad 0 c [] (by simp) (fun j u hu=>by simp at hu) (fun u hu=>by cases hu)
  have O6:=run_append_nothing (P:=Tryz.prog) w t t o.type 57 i0 ht kA A1 xs.length c1 hc1 (.slice A 0 c) rI;unfold Oper.wp execOp;simp only[ho,resolve,invoke,builtin,Sem.run_bind,Sem.run_pure,Result.andThen_ok,List.map_toArray,List.map_cons,List.map_nil,O5,hx,hv,O6];have:=fin v w (by have h:=bB;unfold eN at h;simpa using h) (World.grownBy.refl _ _);rw[hv] at this;exact this
 ·obtain⟨b,off,rfl,hb,hc⟩:=hr.2 h0
  exact wp_append_own w s x t ho base 57 i0 _ 4 48 ht kA rU jR kS rfl (by omega) v _ _ O5 bB ⟨b,off,none⟩ m c (ys.flatMap Mi.cells) hx (by rw[qW Mi.len,hm]) (fun j u hu=>by rw[Addr.add_lit];exact hc j u hu) (aBZ ys) (by simp only[maxLen];omega) (by omega) cS fun v' w' k1 k2 _=>fin v' w' k1 k2
theorem BE{ops:Array Oper}{rest:List Oper}(AK:o.guard=none)(s x:Operand)(t:TypeId)(ho:o.op=.call { callee:=.builtin .append,args:=#[s,x],argTypes:=#[t,t] })(base:Nat)(ht:Tryz.prog.underlying t=some (.slice 57))(v:Value)(xs:List Mi)(O5:a.eval s=v)(bB:eN w base v xs)(A:OA)(m c:Nat)(ys:List Mi)(hx:a.eval x=.slice A m c)(hr:fP w w.heap.size A m ys)(xC:xs.length+m<=1000000000)(cS:base<=w.heap.size)(N:Nat)(hN:(xs++ys).length=N)(h:∀A' c' w',eN w' base (.slice A' N c') (xs++ys)->Below base w w'->w.grownBy w' v.ownBlock->wpList Tryz.prog ops Q rest (a.put o.dst (.slice A' N c')) w'):wpList Tryz.prog ops Q (o::rest) a w:=by
 refine wpList_plain AK fun K hK=>?_;exact aDS s x t ho base ht v xs O5 bB A m c ys hx hr xC cS N hN fun A' c' w' a1 a2 a3=>hK _ _ (h A' c' w' a1 a2 a3)
end
theorem JA{T:TypeId}(h:aG w g T #[.int .i64 m.kind,.string m.name,.string m.txt,.int .i64 m.wt]):fP w w.heap.size (some ⟨g,0,none⟩) 1 [m]:=by
 refine⟨rfl,⟨rfl,fun _=>⟨g,0,rfl,h.lt,fun j u hu=>?_⟩⟩⟩;rw[Nat.zero_add,h.cell j];simpa[Mi.cells] using hu
theorem fP.take{m:Nat}(h:fP w B A n xs)(hm:m<=n):fP w B A m (xs.take m):=by
 obtain⟨h1,h2,h3⟩:=h;refine⟨by rw[kR,h1];omega,⟨?_,fun h0=>?_⟩⟩
 ·rw[qW Mi.len,kR,h1,Nat.min_eq_left hm]
 ·obtain⟨b,off,e,aU,hc⟩:=h3 (by omega)
  refine⟨b,off,e,aU,fun j u hu=>hc j u ?_⟩;have e2:xs.flatMap Mi.cells=(xs.take m).flatMap Mi.cells++(xs.drop m).flatMap Mi.cells:=by rw[<-List.flatMap_append,List.take_append_drop]
  rw[e2,BD (dH.1 hu).1];exact hu
theorem fP.drop(h:fP w B (some ⟨b,off,none⟩) n xs)(hi:i<=n):fP w B (some ⟨b,off+i*4,none⟩) (n-i) (xs.drop i):=by
 obtain⟨h1,h2,h3⟩:=h;refine⟨by rw[LC,h1],⟨?_,fun h0=>?_⟩⟩
 ·rw[qW Mi.len,LC,h1]
 ·obtain⟨b',off',e,aU,hc⟩:=h3 (by omega)
  injection e with e;injection e with e1 e2;subst e1;subst e2;refine⟨b,off+i*4,rfl,aU,fun j u hu=>?_⟩;have e2:xs.flatMap Mi.cells=(xs.take i).flatMap Mi.cells++(xs.drop i).flatMap Mi.cells:=by rw[<-List.flatMap_append,List.take_append_drop]
  have hl:((xs.take i).flatMap Mi.cells).length=i*4:=by rw[qW Mi.len,kR,h1,Nat.min_eq_left hi]
  have:=hc (i*4+j) u (by rw[e2,DN (by omega),hl,Nat.add_sub_cancel_left];exact hu);rwa[<-Nat.add_assoc] at this
theorem fP.tail(h:fP w B (some ⟨b,off,none⟩) n xs)(hc:n<=c)(hi:i<=n):fP w B (if c=i then some ⟨b,off,none⟩ else some ⟨b,off+i*4,none⟩) (n-i) (xs.drop i):=by
 have h2:=h.drop hi;by_cases hci:c=i
 ·refine⟨h2.1,h2.2.1,fun h0=>by omega⟩
 ·rw[if_neg hci];exact h2
end
section
open Go.ChangeShapes Go.WideShapes Go.ChangeAt Go.RowKit
theorem DU(n i:Nat):vf (jN n) i=0:=by
 unfold vf jN;rw[dN,List.getElem?_replicate];split<;>rfl
theorem tZ{l:List Rat}{y:Rat}(h:i<l.length)(j:Nat):vf (l.set i y) j=if j=i then y else vf l j:=by
 unfold vf;rw[dN,dN,List.getElem?_set];by_cases hj:i=j
 ·subst hj;simp[h]
 ·rw[if_neg hj,if_neg (fun e=>hj e.symm)]
theorem aEn(q:List Rat)(X:Fn):aP (aA x).length (vf (kH x q)) X=aN (aH x) fun k=>vf q k*ext (dX (eJ x)) X k:=by
 unfold kH aA;exact R5 (dX (eJ x)) (vf q) X (aH x)
end
section
open Go.ChangeShapes Go.WideShapes Go.ChangeAt Go.RowKit
attribute [local go_sem ↓] aE
attribute [local go_sem] aJ aI aM aR
theorem iS.far{u y:Value}{hs:List Hd}(m:iS w base v hs M)(hb:aG w g T cs)(h1:115≠T)(h2:93≠T)(hy:cs[i]?=some y)(hn:xM y):iS (w.setCell ⟨g,i,none⟩ u) base v hs M:=
 ⟨m.own.far hb h2,m.len,fun j h q hh hq=>by
  obtain⟨B,us,k⟩:=m.rows j h q hh hq;exact⟨B,us,k.far hb h1 hy hn⟩⟩
end
