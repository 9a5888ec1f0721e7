import Derived.Test.YthgdchffeigkbaaGreatDoorW15
import Derived.Test.YthgdchffeigkbaaGreatDoorW16
import Derived.Lib.SliceRun
import Derived.Lib.Walk
set_option linter.unusedVariables false
set_option linter.unusedSimpArgs false
namespace Go.Proofs.YthgdchffeigkbaaGreatDoor
set_option maxHeartbeats 8000000
set_option maxRecDepth 100000
variable {A : OA} {B D H b base c e f g i j k n nb r u : Nat} {L : List Int} {M : List (List Rat)} {al q qs : List Rat} {free : List Nat} {m : Mi} {ms xs : List Mi} {p : Rat} {ss : List ByteArray} {v : Value} {w w' : World} {x : bK}
section
open Go.ChangeShapes Go.WideShapes Go.ChangeAt Go.RowKit
attribute [local go_sem ↓] aE
attribute [local go_sem] aL aK aO a_
def yM(x:bK)(al:List Rat)(m:Mi):Rat:=iM (aS x m).1 al+(aS x m).2
def fT(x:bK)(ms:List Mi)(ss:List ByteArray):List Rat:=ms.map (yM x (ss.map kY))
def kM(x:bK)(ms:List Mi)(ss:List ByteArray):Int:=if cN x ms≠0 then cN x ms else aBN ss.length (aH x) ss
def aGh(x:bK)(ms:List Mi)(ss:List ByteArray)(w:Wo)(e:Ending)(w':Wo):Prop:=Below w.heap.size w w'/\((kM x ms ss≠0/\e=.returned (.tuple #[.slice none 0 0,.int .i64 (kM x ms ss)]))\/
 (kM x ms ss=0/\((∀q∈fT x ms ss,cH q)->∃A n c,e=.returned (.tuple #[.slice A n c,.int .i64 0])/\bD w' w'.heap.size A n ((fT x ms ss).map iU)/\n<=c/\c<=maxLen)/\(¬(∀q∈fT x ms ss,cH q)->e=.returned (.tuple #[.slice none 0 0,.int .i64 2]))))
theorem UU(h:ms[k]?=some m):(fT x ms ss).take (k+1)=(fT x ms ss).take k++[yM x (ss.map kY) m]:=by
 have h2:(fT x ms ss)[k]?=some (yM x (ss.map kY) m):=by unfold fT;rw[lT,h];rfl
 exact gJ h2
theorem PX(h:kM x ms ss=0):cN x ms=0/\ss.length=aH x/\∀s∈ss,dJ s.data.toList=0:=by
 unfold kM at h;split at h
 ·exact absurd h (by assumption)
 ·rename_i h1
  unfold aBN at h;split at h
  ·omega
  ·rename_i h2
   exact⟨by omega,by omega,MD.1 h⟩
theorem aAO(h:bZ)(x:bK)(h8:x.nodes.length<=8)(A:OA)(n c:Nat)(ms:List Mi)(B:OA)(mm d:Nat)(ss:List ByteArray)(w:Wo)(r:cL w w.heap.size h x)(hm:eB w w.heap.size A n ms)(hR:bD w w.heap.size B mm ss)(hz:∀m∈ms,m.txt.size<=maxLen)(hs:∀s∈ss,s.size<=maxLen)(hn:n<=9223372036854775807)(qJ:mm<=9223372036854775807)(ht:fL w):Calls Tryz.prog 25 #[.agg h.cells,.slice A n c,.slice B mm d] w (aGh x ms ss w):=by
 have K0:=jO w (.cells h.cells 29);obtain⟨HK,P0,HX,HM,HS⟩:=iS K0 (aD.new w 29 h.cells) (r.up K0) (hm.bm K0) (hR.bm K0);have HT:=lH (ht.up K0);have lB:Hid (ms.length=n):=lH hm.1;have WU:Hid (ss.length=mm):=lH hR.1;have HSS:=lH hs;have eC:Hid (w.heap.size<=(w.alloc (.cells h.cells 29)).heap.size):=lH K0.size;have HRP:Hid (∀e w',aGh x ms ss w e w'<->(Below w.heap.size w w'/\((kM x ms ss≠0/\e=.returned (.tuple #[.slice none 0 0,.int .i64 (kM x ms ss)]))\/
 (kM x ms ss=0/\((∀q∈fT x ms ss,cH q)->∃A n c,e=.returned (.tuple #[.slice A n c,.int .i64 0])/\bD w' w'.heap.size A n ((fT x ms ss).map iU)/\n<=c/\c<=maxLen)/\(¬(∀q∈fT x ms ss,cH q)->e=.returned (.tuple #[.slice none 0 0,.int .i64 2])))))):=lH fun e w'=>Iff.rfl
 have HRE:Hid (kM x ms ss=if cN x ms≠0 then cN x ms else aBN ss.length (aH x) ss):=lH rfl;have MO:=lH (tK h x A n c ms (w.alloc (.cells h.cells 29)) HX.o HM.o hz hn HT.o);have HPA:=lH (PX (x:=x) (ms:=ms) (ss:=ss));generalize kM x ms ss=re at *;clear K0 hm hR r ht hs hz;obtain⟨D0,r0,s0,D1,r1,s1,D2,r2,s2,D3,r3,s3,D4,r4,s4,D5,r5,s5⟩:=h;obtain⟨y0,y1,y2,y3,y4,y5,nf,nlt⟩:=aX P0.o;dsimp only at y0 y1 y2 y3 y4 y5;go_enter Tryz.func25,Tryz.ntmps25
 go_wp2_with fail
 generalize w.alloc (.cells (bZ.cells ⟨D0,r0,s0,D1,r1,s1,D2,r2,s2,D3,r3,s3,D4,r4,s4,D5,r5,s5⟩) 29)=W at *;refine MO.o.mono ?_;rintro e w1 ⟨rfl,bO⟩;have cI:=lH bO;clear bO y0 y1 y2 y3 y4 y5 nf nlt MO;by_cases mP:cN x ms=0
 ·have HC:=lH mP
  rw[if_neg (fun h=>h mP)] at HRE;rw[mP];clear mP;have PNX:=P0.o.bl cI.o;obtain⟨y0,y1,y2,y3,y4,y5,nf,nlt⟩:=aX PNX;dsimp only at y0 y1 y2 y3 y4 y5;clear PNX;obtain⟨ok,hl,jZ⟩:=mI HC.o;obtain⟨bM,HL,BM⟩:=dZ ok hl jZ;clear ok hl jZ;(go_wp2_with fail);refine(tS _ x bM.o h8 w1 (HX.o.up cI.o)).mono ?_;rintro e w2 ⟨bH,g,m,A7,n7,c7,rfl,hg,dO,oP,-⟩;have dN:=cJ cI bH;have HG:=lH dO;have HR:=lH oP;have eY:Hid (aH x=m.n1):=lH (by rw[<-qE bM.o];exact oP.r1.len);clear bH hg dO oP cI y0 y1 y2 y3 y4 y5 nf nlt;(go_wp2_with fail);refine(aBB g m _ B mm d ss w2 HG.o (HS.o.bm dN.o) HSS.o qJ (HT.o.up dN.o) re (by rw[HRE.o,WU.o,eY.o])).mono ?_;rintro e w3 ⟨rfl,dK⟩;have fV:=cJ dN dK;replace HG:=lH (HG.o.bl dK);replace HR:=lH (HR.o.up dK);clear dK dN;by_cases QY:re=0
  ·subst QY
   obtain⟨-,hsl,hsv⟩:=HPA.o rfl;have HSV:=lH hsv;have BZ:Hid (mm=aH x):=lH (by rw[<-WU.o];exact hsl);have a2T:mm<=8:=by rw[BZ.o];exact b_ (eW bM.o).2 h8
   clear hsl hsv HPA HRE;(go_wp2_with fail);refine(NB B mm d ss w3 (HS.o.bm fV.o) HSV.o (by omega)).mono ?_;rintro e w4 ⟨gE,A4,n4,c4,rfl,hq4,-,-,-⟩;have bP:=cJ fV gE;replace HG:=lH (HG.o.bl gE);replace HR:=lH (HR.o.up gE);have HQ:=lH hq4;have m8:Hid (n4=mm):=lH (by rw[<-hq4.len,iT,WU.o]);have F5:Hid (∀p∈ss.map kY,bE p<=2000):=lH fun p hp=>by
    obtain⟨s,hs,rfl⟩:=List.mem_map.1 hp;exact qO (nC (HSV.o s hs))
   clear gE hq4 fV HS;have a56:Hid (W.heap.size<=w4.heap.size):=lH bP.o.size;have aVd:n<=64:=by have:=HL.o;have:=lB.o;omega
   go_wp2_with fail
   go_loopw [12,33] (fun v12 v33 wr=>∃(k:Nat)(us:List Rv),k<=n/\v33=.int .i64 k/\dD wr w4.heap.size v12 us ((fT x ms ss).take k)/\Below w4.heap.size w4 wr) (fun _ v33 _=>n-(intOf v33).toNat)
   case atStart=>exact⟨0,[],by omega,rfl,kC _ _,bR⟩
   case round=>
    obtain⟨k,us,hk,rfl,ho,hb⟩:=hrel;have HO:=lH ho;have HB:=lH hb;clear ho hb;by_cases aR:k<n
    ·obtain⟨mi,jZ⟩:∃mi,ms[k]?=some mi:=eE (by have:=lB.o;omega)
     have EQ:=lH (UU (x:=x) (ss:=ss) jZ);have wW:=lH (BM.o mi (bS jZ));have gT:=lH (bP.o.tm HB.o);have hmx:=(HM.o.below gT.o lR).more gT.o.size;obtain⟨ab,ao,hA,lO,-⟩:=hmx.2.2 (by omega);subst hA;obtain⟨a0,a1,a2,a3⟩:=hmx.at_ jZ;have f_:(k:Int)<(n:Int):=by omega
     have kO:=lZ k;have rR:=jM k;have kL:=lN k;have iR:Hid (n-(k+1)<n-k):=lH (by omega);have uK:=lH aR;clear jZ hmx;(go_upto_region 13 with fail);clear a0 a1 a2 a3 lO f_ kO rR;have hz:=jO wr (.cells #[.int .i64 mi.kind,.string mi.name,.string mi.txt,.int .i64 mi.wt] 57);have aYk:=lH (aD.new wr 57 #[.int .i64 mi.kind,.string mi.name,.string mi.txt,.int .i64 mi.wt]);replace HO:=lH (HO.o.keep hz);have OZ:Hid (Below w4.heap.size w4 (wr.alloc (.cells #[.int .i64 mi.kind,.string mi.name,.string mi.txt,.int .i64 mi.wt] 57))):=lH (HB.o.tm hz);have HWA:Hid (Below W.heap.size W (wr.alloc (.cells #[.int .i64 mi.kind,.string mi.name,.string mi.txt,.int .i64 mi.wt] 57))):=lH (bP.o.tm OZ.o);clear hz HB gT;generalize wr.heap.size=gm at *;generalize wr.alloc (.cells #[.int .i64 mi.kind,.string mi.name,.string mi.txt,.int .i64 mi.wt] 57)=wa at *;have PNX:=P0.o.bl HWA.o;obtain⟨y0,y1,y2,y3,y4,y5,nf,nlt⟩:=aX PNX;dsimp only at y0 y1 y2 y3 y4 y5;clear PNX;obtain⟨x0,x1,x2,x3,xl⟩:=aYk.o.b4;(go_wp2_with fail);refine(tR _ x bM.o h8 g m _ mi wa (HX.o.up HWA.o) (HG.o.bl OZ.o) (HR.o.up OZ.o) wW.o.1 wW.o.2).mono ?_;rintro e w5 ⟨eJ,gc,u,rfl,hq,hv⟩;clear y0 y1 y2 y3 y4 y5 nf nlt x0 x1 x2 x3 xl;have d_:=cJ OZ eJ;replace HO:=lH (HO.o.keep eJ);obtain⟨HQF,HVF,HFO⟩:=dZ hq hv (mQ bM.o wW.o);clear eJ hq hv HWA OZ;(go_wp2_with fail);refine(aJa (some ⟨gc,0,none⟩) (aH x) (aH x) u (aS x mi).1 (aS x mi).2 A4 n4 c4 (ss.map kY) w5 HQF.o HVF.o (HQ.o.bm d_.o) (by rw[m8.o,BZ.o];exact lR) (by have:=BZ.o;omega) (fun p hp=>b_ (HFO.o.cf p hp) (by decide)) F5.o (b_ HFO.o.fr (by decide))).mono ?_;rintro e w6 ⟨gA,xe,rfl,hxe⟩;have gQ:=cJ d_ gA;replace HO:=lH (HO.o.keep gA);have HXE:=lH hxe;have sX:Hid (w4.heap.size<=w6.heap.size):=lH gQ.o.size;clear gA hxe d_ HQF HVF HFO
     go_wp2_with (at_builtin;refine rC rfl (.tmp 37) (.tmp 44) _ rfl w4.heap.size Tryz.underlying93 u12 us _ rfl HO.o xe _ HXE.o rfl ?k1 sX.o ?_)
     case k1=>rw[jN];omega
     intro v' w8 aW hkeep fJ;have tD:Hid (dD w8 w4.heap.size v' (us++[xe]) ((fT x ms ss).take (k+1))):=lH (by rw[EQ.o];exact aW);have dS:=lH (gQ.o.trans fJ);clear aW hkeep fJ HO gQ HXE aYk;(go_wp2_with fail);go_roundw
     case rel=>exact⟨k+1,us++[xe],uK.o,aQ kL.o,tD.o,dS.o⟩
     case measure=>exact iR.o
    ·have mL:k=n:=by omega
     subst mL;have f_:¬(k:Int)<(k:Int):=by omega
     have Q5:(fT x ms ss).length=k:=by unfold fT;rw[iT];exact lB.o
     have ML:Hid (dD wr w4.heap.size u12 us (fT x ms ss)):=lH (by
      have h:=HO.o;rw[nT (by rw[Q5];exact lR)] at h;exact h)
     obtain⟨A9,c9,hv,oP,-,-,-⟩:=ML.o.rd;subst hv;rw[Q5] at oP ⊢;have DS:=lH oP;have o3:=lH (bP.o.tm HB.o);clear oP Q5 HO;(go_wp2_with fail);refine(nW A9 k c9 (fT x ms ss) wr DS.o (by omega) (HT.o.up o3.o)).mono ?_;rintro e w9 ⟨gD,qZ,t8⟩;obtain⟨fH,OV,F2⟩:=dZ (HK.o.trans ((o3.o.tm gD).mono eC.o)) qZ t8;clear gD qZ t8;by_cases hf:∀q∈fT x ms ss,cH q
     ·obtain⟨A6,n6,c6,rfl,pG,h61,h62⟩:=OV.o hf
      have JX:=lH pG;clear pG;(go_wp2_with fail);go_ret2;rw[HRP.o];exact⟨fH.o,.inr ⟨by trivial,fun _=>⟨A6,n6,c6,rfl,JX.o,h61,h62⟩,fun h=>absurd hf h⟩⟩
     ·obtain rfl:=F2.o hf
      (go_wp2_with fail);go_ret2;rw[HRP.o];exact⟨fH.o,.inr ⟨by trivial,fun h=>absurd h hf,fun _=>rfl⟩⟩
  ·have hB:(re != 0)=true:=by simp[QY]
   (go_wp2_with fail);go_ret2;rw[HRP.o];exact⟨HK.o.trans (fV.o.mono eC.o),.inl ⟨QY,rfl⟩⟩
 ·have aMJ:(cN x ms != 0)=true:=by simp[mP]
  rw[if_pos mP] at HRE;(go_wp2_with fail);go_ret2;rw[HRP.o];exact⟨HK.o.trans (cI.o.mono eC.o),.inl ⟨by rw[HRE.o];exact mP,by rw[HRE.o];rfl⟩⟩
end
section
open Go.ChangeShapes Go.WideShapes Go.ChangeAt Go.RowKit
def rT(l:List Br):Nat:=l.foldr (fun b d=>(b.x*b.tap).toNat*d) 1
theorem R2:∀{l:List Br}{b:Br},b∈l->(b.x*b.tap).toNat∣rT l
 | a::r,b,h=>by
  rcases List.mem_cons.1 h with h | h
  ·subst h;exact Nat.dvd_mul_right _ _
  ·exact Nat.dvd_trans (R2 h) (Nat.dvd_mul_left _ _)
theorem WG{b:Br}(h:b.bad=false):500<=(b.x*b.tap).toNat/\(b.x*b.tap).toNat<10^8/\b.x*b.tap=((b.x*b.tap).toNat:Int):=by
 have h1:=I1 h;have NT:b.x*b.tap<=10000*1500:=Int.mul_le_mul h1.2.1 h1.2.2.2.1 (by omega) (by omega);have vJ:1*500<=b.x*b.tap:=Int.mul_le_mul h1.1 h1.2.2.1 (by omega) (by omega);omega
theorem Y6:∀{l:List Br},(∀b∈l,b.bad=false)->rT l≠0/\rT l<=(10^8)^l.length
 | [],_=>by simp[rT]
 | a::r,h=>by
  obtain⟨h1,h2⟩:=Y6 fun b hb=>h b (List.mem_cons_of_mem _ hb);have h3:=WG (h a List.mem_cons_self);have e:rT (a::r)=(a.x*a.tap).toNat*rT r:=rfl;rw[e,EX,Nat.pow_succ,Nat.mul_comm ((10^8)^r.length)];exact⟨Nat.mul_ne_zero (by omega) h1,Nat.mul_le_mul (by omega) h2⟩
theorem aDQ{l:List Br}{b:Br}(hb:b∈l)(h:b.bad=false):Ot (rT l) 2000 (dB b):=by
 obtain⟨h1,h2,h3⟩:=WG h;unfold dB;rw[h3];exact UK (UL (by omega) (by show(1000000:Int).natAbs<=_;simp;omega)) (R2 hb)
theorem aLK{l:List Br}{b:Br}(hb:b∈l)(h:b.bad=false):Ot (rT l*1000) 2000 (jD b):=by
 have h1:=I1 h;unfold jD;exact aLJ (C:=1) (aDQ hb h) (UL (d:=1000) (by decide) (by rw[Int.natAbs_neg];omega))
structure TM (n D B:Nat) (s:List Rat×Rat):Prop where
 len:s.1.length=n
 cf:∀p∈s.1,Ot D B p
 fr:Ot (D*1000) B s.2
theorem TM.mono{C:Nat}{s:List Rat×Rat}(h:TM n D B s)(hb:B<=C):TM n D C s:=⟨h.len,fun p hp=>pE (h.cf p hp) hb,pE h.fr hb⟩
theorem aLu(n D:Nat):TM n D 0 (kT n,0):=by
 refine⟨by simp[kT],fun p hp=>?_,X4 _⟩;rw[List.eq_of_mem_replicate hp];exact X4 _
theorem aKe{q:Rat}(mi:Bool)(h:Ot D B q):Ot D B (sg mi q):=by
 unfold sg;cases mi
 ·exact h
 ·exact UJ h
theorem TM.add{v:Nat}{s:List Rat×Rat}{b c:Rat}(mi:Bool)(h:TM n D B s)(hu:u<n)(hv:v<n)(hb:Ot D 2000 b)(hc:Ot (D*1000) 2000 c):TM n D (B+4000) (mY (sg mi b) u v s.1,s.2+sg mi c):=by
 have hb':=aKe mi hb;have h1:Ot D (B+2000) (vf s.1 u+sg mi b):=ND (h.cf _ (bS (bC (i:=u) (by rw[h.len];exact hu)))) hb';have h2:∀p∈s.1.set u (vf s.1 u+sg mi b),Ot D (B+2000) p:=fun p hp=>by
  rcases List.mem_or_eq_of_mem_set hp with e | e
  ·exact pE (h.cf p e) (by omega)
  ·rw[e];exact h1
 refine⟨by rw[mX];exact h.len,fun p hp=>?_,pE (ND h.fr (aKe mi hc)) (by omega)⟩;unfold mY at hp;rcases List.mem_or_eq_of_mem_set hp with e | e
 ·exact pE (h2 p e) (by omega)
 ·rw[e,Rat.sub_eq_add_neg]
  exact pE (ND (h2 _ (bS (bC (i:=v) (by rw[kV,h.len];exact hv)))) (UJ hb')) (by omega)
theorem N9(ok:bJ x){s:List Rat×Rat}(hs:TM n (rT x.brs) B s)(hn:n=aH x){b:Br}(hb:b∈x.brs)(mi:Bool):TM n (rT x.brs) (B+4000) (mY (sg mi (dB b)) (aG x b.fr) (aG x b.to) s.1,s.2+sg mi (jD b)):=by
 have hm:=ok.br b hb;exact hs.add mi (by rw[hn];exact(bU ok hm.1).2.1) (by rw[hn];exact(bU ok hm.2.1).2.1) (aDQ hb hm.2.2.2) (aLK hb hm.2.2.2)
theorem U6(ok:bJ x){bus:Nat}{s:List Rat×Rat}(hs:TM n (rT x.brs) B s)(hn:n=aH x){b:Br}(hb:b∈x.brs):TM n (rT x.brs) (B+8000) (mK bus (aG x b.fr) (aG x b.to) (dB b) (jD b) s):=by
 unfold mK;dsimp only;have h1:TM n (rT x.brs) (B+4000) (if aG x b.fr=bus then(mY (sg false (dB b)) (aG x b.fr) (aG x b.to) s.1,s.2+sg false (jD b)) else s):=by
  split
  ·exact N9 ok hs hn hb false
  ·exact hs.mono (by omega)
 split
 ·exact N9 ok h1 hn hb true
 ·exact h1.mono (by omega)
theorem QO(ok:bJ x){bus:Nat}(hn:n=aH x):∀(bs:List Br)(B:Nat)(s:List Rat×Rat),(∀b∈bs,b∈x.brs)->TM n (rT x.brs) B s->TM n (rT x.brs) (B+8000*bs.length) (qH bus (bs.map dB) (bs.map jD) (bs.map fun b=>aG x b.fr) (bs.map fun b=>aG x b.to) s)
 | [],B,s,_,hs=>hs
 | b::bs,B,s,h,hs=>by
  have h1:=QO ok (bus:=bus) hn bs (B+8000) _ (fun a ha=>h a (List.mem_cons_of_mem _ ha)) (U6 ok (bus:=bus) hs hn (h b List.mem_cons_self));refine TM.mono (B:=B+8000+8000*bs.length) h1 ?_;rw[EX];omega
theorem mJ(x:bK):hO x=(x.brs.map fun b=>aG x b.fr)/\BR x=x.brs.map fun b=>aG x b.to:=by
 refine⟨?_,?_⟩
 ·unfold hO KH;rw[List.map_map];rfl
 ·unfold BR KH;rw[List.map_map];rfl
theorem aFv(ok:bJ x)(hl:x.brs.length<=10)(hm:qU x m):TM (aH x) (rT x.brs) 80000 (aS x m):=by
 have hz:=aLu (aH x) (rT x.brs);unfold aS;split
 ·rename_i h0
  have h1:=hm.1 h0;rcases qS x m.name with⟨e,_⟩ | ⟨i,b,e,hb,_⟩
  ·omega
  ·obtain⟨a1,a2,a3,a4⟩:=jW hb
   have h2:=N9 ok hz rfl (bS hb) false;simp only[e,jM,dH,vf,a1,a2,a3,a4];exact h2.mono (by omega)
 ·split
  ·rename_i h0 h2
   refine⟨by rw[kV];exact hz.len,fun p hp=>?_,pE hz.fr (by omega)⟩;rcases List.mem_or_eq_of_mem_set hp with e | e
   ·exact pE (hz.cf p e) (by omega)
   ·rw[e];exact pE aLI (by omega)
  ·have h:=QO ok (bus:=aG x m.name) rfl x.brs 0 _ (fun b hb=>hb) hz
   rw[(mJ x).1,(mJ x).2];exact h.mono (by omega)
theorem aBs(ok:bJ x)(hl:x.brs.length<=10):rT x.brs≠0/\rT x.brs<=10^80:=by
 obtain⟨h1,h2⟩:=Y6 (l:=x.brs) fun b hb=>(ok.br b hb).2.2.2;refine⟨h1,b_ h2 ?_⟩;rw[<-Nat.pow_mul];exact Nat.pow_le_pow_right (by decide) (by omega)
theorem aC3{a:Nat}(h:a<=b):10^a<=10^b:=Nat.pow_le_pow_right (by decide) h
theorem XO{a:Nat}(h:a+b<=c):10^a*10^b<=10^c:=by rw[<-Nat.pow_add];exact aC3 h
def N2(l:List Rat):Nat:=l.foldr (fun q d=>q.den*d) 1
theorem RZ:∀{l:List Rat}{q:Rat},q∈l->q.den∣N2 l
 | a::r,b,h=>by
  rcases List.mem_cons.1 h with h | h
  ·subst h;exact Nat.dvd_mul_right _ _
  ·exact Nat.dvd_trans (RZ h) (Nat.dvd_mul_left _ _)
theorem Y5:∀{l:List Rat},(∀q∈l,Tn k q)->N2 l≠0/\N2 l<=(10^k)^l.length
 | [],_=>by simp[N2]
 | a::r,h=>by
  obtain⟨h1,h2⟩:=Y5 fun b hb=>h b (List.mem_cons_of_mem _ hb);have e:N2 (a::r)=a.den*N2 r:=rfl;rw[e,EX,Nat.pow_succ,Nat.mul_comm ((10^k)^r.length)];exact⟨Nat.mul_ne_zero a.den_nz h1,Nat.mul_le_mul (oO (h a List.mem_cons_self).2) h2⟩
def R1(x:bK)(al:List Rat):Nat:=rT x.brs*N2 al*1000
theorem V1(ok:bJ x)(hl:x.brs.length<=10)(ha:∀q∈al,Tn 25 q)(hn:al.length<=8):R1 x al≠0/\R1 x al<=10^283:=by
 obtain⟨h1,h2⟩:=aBs ok hl;obtain⟨h3,h4⟩:=Y5 ha;have h5:N2 al<=10^200:=by
  refine b_ h4 ?_;rw[<-Nat.pow_mul];exact aC3 (by omega)
 unfold R1;refine⟨Nat.mul_ne_zero (Nat.mul_ne_zero h1 h3) (by decide),?_⟩;have h6:=XO (a:=80) (b:=200) (c:=280) (by decide);have h7:=XO (a:=280) (b:=3) (c:=283) (by decide);have h8:=Nat.mul_le_mul_right (10^3) (b_ (Nat.mul_le_mul h2 h5) h6);exact b_ h8 h7
def NI:List Rat->Rat
 | []=>0
 | a::r=>a+NI r
theorem IO:∀(l:List Rat)(a:Rat),l.foldl (·+·) a=a+NI l
 | [],a=>(Rat.add_zero a).symm
 | b::r,a=>by
  rw[List.foldl_cons,IO r (a+b)];show a+b+NI r=a+(b+NI r);rw[Rat.add_assoc]
theorem aAf(l:List Rat):rN l=NI l:=by
 unfold rN;rw[IO,Rat.zero_add]
theorem IT(h1:q.length=n)(h2:al.length=n):iM q al=aM n fun i=>vf q i*vf al i:=by
 have key:∀k,k<=n->rN ((List.zipWith (·*·) q al).take k)=aM k fun i=>vf q i*vf al i:=fun k=>by
  induction k with
  | zero=>intro _;rfl
  | succ k ih=>
   intro hk;rw[LY (bC (i:=k) (by omega)) (bC (l:=al) (i:=k) (by omega)),ih (by omega)];rfl
 have:=key n lR;rw[nT (by rw[List.length_zipWith];omega)] at this;exact this
theorem OB{b:Rat}{v:Nat}(hu:u<q.length)(hv:v<q.length)(j:Nat):vf (mY b u v q) j=vf q j+b*two u v j:=by
 unfold mY two;rw[CE (by rw[kV];exact hv),CE hu,CE hu];by_cases h1:j=v
 ·subst h1
  by_cases h2:j=u
  ·subst h2
   simp only[if_true];grind
  ·simp only[if_true,if_neg h2];grind
 ·by_cases h2:j=u
  ·subst h2
   simp only[if_neg h1,if_true];grind
  ·simp only[if_neg h1,if_neg h2];grind
def qR(x:bK)(i:Nat):Nat:=((kS x).getD i 0).toNat
end
section
def yF(x:bK)(ms:List Mi):Fn:=fun k=>match ms[k]? with | some m=>kY m.txt-(aS x m).2 | none=>0
def jC(x:bK)(ms:List Mi):Ls:=⟨(aA x).length,ms.length,fun k=>vf ((aP x ms).getD k []),XI ms,yF x ms⟩
section
variable {x:bK} {ms:List Mi}
theorem C4(h:ms[k]?=some m):(jC x ms).R k=vf (fM x (aS x m).1):=by
 show vf ((aP x ms).getD k [])=_;unfold aP;rw[dH,lT,h];rfl
theorem aIp(h:ms[k]?=some m):(jC x ms).w k=(m.wt:Rat):=MQ h
theorem aLR(h:ms[k]?=some m):(jC x ms).y k=kY m.txt-(aS x m).2:=by
 show yF x ms k=_;unfold yF;rw[h]
theorem U0(h:k<(jC x ms).K):∃m,ms[k]?=some m:=⟨_,gS h⟩
theorem aEd(wL:∀m∈ms,1<=m.wt):(jC x ms).Pos:=fun k hk=>by
 obtain⟨m,hm⟩:=U0 hk;rw[aIp hm];have:=wL m (bS hm);exact Rat.intCast_pos.2 (by omega)
theorem vK(hi:i<n):∃r,(dL n M ms)[i]?=some r/\r.length=n/\∀j,j<n->vf r j=DH M ms M.length i j:=
 ⟨_,by unfold dL;rw[lT,List.getElem?_range hi];rfl,by simp,fun j hj=>kW (by rw[lT,List.getElem?_range hj];rfl)⟩
theorem k_:∀a∈dL n M ms,a.length=(dL n M ms).length:=by
 rw[bQ];intro a ha;unfold dL at ha;obtain⟨i,hi,rfl⟩:=List.mem_map.1 ha;simp
theorem p_:(aP x ms).length=ms.length:=by unfold aP;rw[iT]
theorem aUt(i j:Nat):DH (aP x ms) ms (aP x ms).length i j=(jC x ms).G i j:=by
 rw[p_];rfl
theorem sN{r:List Rat}(hr:(dL (aA x).length (aP x ms) ms)[i]?=some r)(c:Fn):aV (aA x).length (vf r) c=aV (jC x ms).n ((jC x ms).G i) c:=by
 have hi:i<(aA x).length:=by have:=(cY.1 hr).1;rwa[bQ] at this
 obtain⟨r',DD,-,hv⟩:=vK (M:=aP x ms) (ms:=ms) hi;rw[hr] at DD;injection DD with DD;subst DD;exact qP (fun j hj=>by rw[hv j hj,aUt]) fun _ _=>rfl
theorem AY(wL:∀m∈ms,1<=m.wt):o5 x ms<->∀c:Fn,(∀k,k<ms.length->aV (aA x).length ((jC x ms).R k) c=0)->∀j,j<(aA x).length->c j=0:=by
 unfold o5;rw[M5 k_,bQ];have key:∀c:Fn,uQ (aA x).length (tG (dL (aA x).length (aP x ms) ms)) c<->∀k,k<ms.length->aV (aA x).length ((jC x ms).R k) c=0:=fun c=>by
  rw[nQ];refine Iff.trans ?_ ((aEd (x:=x) wL).ker c)
  constructor
  ·intro h i hi
   obtain⟨r,hr,-,-⟩:=vK (M:=aP x ms) (ms:=ms) (n:=(aA x).length) hi;rw[<-sN hr];exact h i r hr
  ·intro h i r hr
   rw[sN hr];exact h i (by have:=(cY.1 hr).1;rwa[bQ] at this)
 exact⟨fun h c hc=>h c ((key c).2 hc),fun h c hc=>h c ((key c).1 hc)⟩
theorem X_(hi:i<(aA x).length):((l9 (dL (aA x).length (aP x ms) ms)).getD i []).length=(aA x).length:=by
 have h:=qG (M:=dL (aA x).length (aP x ms) ms) k_;rw[bQ] at h;obtain⟨r,hr⟩:∃r,(l9 (dL (aA x).length (aP x ms) ms))[i]?=some r:=eE (by rw[h.1];exact hi);rw[dH,hr];exact h.2 r (bS hr)
theorem aJd(hi:i<(aA x).length):mR x ms i=qF (dL (aA x).length (aP x ms) ms) (vf (l7 (aA x).length x ms ms.length)) i:=by
 unfold mR qF;rw[bQ];exact IT (X_ hi) fD
theorem aLD(hi:i<(aA x).length):vf (l7 (aA x).length x ms ms.length) i=(jC x ms).rt i:=by
 rw[zZ hi];unfold Ls.rt;refine aJ fun t ht=>?_;obtain⟨m,hm⟩:=U0 (x:=x) ht;rw[aIp hm,aLR hm,BE hm];rfl
theorem Y1(hr:o5 x ms):(jC x ms).Sol (mR x ms):=fun i hi=>by
 obtain⟨r,DD,hl,hv⟩:=vK (M:=aP x ms) (ms:=ms) (n:=(aA x).length) hi;have h1:=YA k_ hr (vf (l7 (aA x).length x ms ms.length)) DD;rw[bQ] at h1;rw[<-sN DD,qP (fun _ _=>rfl) (fun j hj=>aJd hj),h1];exact aLD hi
theorem aJc(hr:o5 x ms){a:Fn}(ha:(jC x ms).Sol a):∀j,j<(aA x).length->mR x ms j=a j:=fun j hj=>by
 have h:=aH6 (M:=dL (aA x).length (aP x ms) ms) k_ hr (x:=mR x ms) (y:=a) (fun i r DD=>by
  have hi:i<(aA x).length:=by have:=(cY.1 DD).1;rwa[bQ] at this
  rw[bQ,sN DD,sN DD,Y1 hr i hi,ha i hi])
 rw[bQ] at h;exact h j hj
end
theorem AF{p:Nat->Bool}:∀{n i j:Nat},(kR p n)[i]?=some j->p j=true/\j<n/\cnt p j=i
 | 0,i,j,h=>by simp[kR] at h
 | n+1,i,j,h=>by
  rw[CT] at h;by_cases hi:i<(kR p n).length
  ·rw[yC hi] at h
   obtain⟨h1,h2,h3⟩:=AF h;exact⟨h1,by omega,h3⟩
  ·rw[BP (by omega)] at h
   cases hp:p n with
   | false=>rw[hp] at h;simp at h
   | true=>
    rw[hp,if_pos rfl] at h;have hl:=(cY.1 h).1;simp only[List.length_singleton] at hl;have h0:i-(kR p n).length=0:=by omega
    rw[h0] at h;simp at h;subst h;rw[sI] at hi h0;exact⟨hp,Nat.lt_succ_self _,by omega⟩
theorem wD{p:Nat->Bool}(hp:p j=true):∀{n:Nat},j<n->(kR p n)[cnt p j]?=some j
 | 0,h=>by omega
 | n+1,h=>by
  rw[CT];by_cases hj:j<n
  ·have:=wD hp hj
   rw[yC (cY.1 this).1];exact this
  ·have:j=n:=by omega
   subst this;rw[BP (by rw[sI];exact lR),sI,Nat.sub_self,if_pos hp];rfl
theorem aEi{p:Nat->Bool}{n:Nat}{d:Fn}:∀{k:Nat},k<=cnt p n->∀j,j<n->vf (qD (kR p n) d (kT n) k) j=if p j=true/\cnt p j<k then d (cnt p j) else 0
 | 0,_,j,_=>by rw[if_neg (by omega)];exact GE n j
 | k+1,hk,j,hj=>by
  have ih:=aEi (d:=d) (p:=p) (n:=n) (k:=k) (by omega) j hj;unfold qD;obtain⟨j0,h0⟩:∃j0,(kR p n)[k]?=some j0:=eE (by rw[sI];omega);obtain⟨h1,h2,h3⟩:=AF h0;have e:(kR p n).getD k 0=j0:=by rw[dH,h0];rfl
  rw[e,CE (by rw[oE];unfold kT;rw[qV];exact h2),ih];by_cases hjj:j=j0
  ·subst hjj
   rw[if_pos rfl,if_pos ⟨h1,by omega⟩,h3]
  ·rw[if_neg hjj]
   by_cases hp:p j=true
   ·have cG:cnt p j≠k:=fun e=>by
     have h4:=wD hp hj;rw[e,h0] at h4;injection h4 with h4;exact hjj h4.symm
    by_cases aR:cnt p j<k
    ·rw[if_pos ⟨hp,aR⟩,if_pos ⟨hp,by omega⟩]
    ·rw[if_neg (fun h=>aR h.2),if_neg (fun h=>by omega)]
   ·rw[if_neg (fun h=>hp h.1),if_neg (fun h=>hp h.1)]
section
variable {x:bK} {ms:List Mi}
theorem Y2:(cE x ms).length=aH x:=by unfold cE;rw[oE];exact qV
theorem X8{d:Fn}(hj:j<aH x):vf (qD (aA x) d (kT (aH x)) (aA x).length) j=ext (fK (gL x)) d j:=by
 have h:=aEi (p:=fK (gL x)) (d:=d) (n:=aH x) (k:=(aA x).length) (Nat.le_of_eq (sI _ _)) j hj;unfold aA at h ⊢;rw[h];unfold ext;by_cases hp:fK (gL x) j=true
 ·have h2:=(cY.1 (wD hp hj)).1
  rw[if_pos ⟨hp,h2⟩,if_pos hp]
 ·rw[if_neg (fun h=>hp h.1),if_neg hp]
theorem VX(hj:j<aH x):vf (cE x ms) j=ext (fK (gL x)) (mR x ms) j:=X8 hj
def frF(x:bK)(al:List Rat):Fn:=fun i=>vf al ((aA x).getD i 0)
def XF(x:bK)(al:List Rat):Prop:=al.length=aH x/\∀j,j<aH x->fK (gL x) j=false->vf al j=0
theorem XF.ext(h:XF x al)(hj:j<aH x):vf al j=ext (fK (gL x)) (frF x al) j:=by
 unfold Go.Proofs.YthgdchffeigkbaaGreatDoor.ext;by_cases hp:fK (gL x) j=true
 ·rw[if_pos hp]
  unfold frF aA;rw[dH,wD hp hj];rfl
 ·rw[if_neg hp]
  exact h.2 j hj (by simpa using hp)
theorem YV(hi:i<(aA x).length):∃j,(aA x)[i]?=some j/\fK (gL x) j=true/\j<aH x/\cnt (fK (gL x)) j=i:=by
 obtain⟨j,hj⟩:∃j,(aA x)[i]?=some j:=⟨_,gS hi⟩;exact⟨j,hj,AF hj⟩
theorem aJe:XF x (cE x ms):=⟨Y2,fun j hj hf=>by rw[VX hj];unfold ext;rw[hf];rfl⟩
theorem aM3(hi:i<(aA x).length):frF x (cE x ms) i=mR x ms i:=by
 obtain⟨j,h1,h2,h3,h4⟩:=YV hi;unfold frF;rw[dH,h1];show vf (cE x ms) j=_;rw[VX h3];unfold ext;rw[if_pos h2,h4]
theorem XF.dot(h:XF x al)(hq:q.length=aH x):iM q al=aV (aA x).length (vf (fM x q)) (frF x al):=by
 rw[IT hq h.1,aDk];exact aJ fun j hj=>by rw[h.ext hj]
theorem XF.eq{be:List Rat}(h1:XF x al)(h2:XF x be)(he:∀i,i<(aA x).length->frF x al i=frF x be i):al=be:=by
 apply List.ext_getElem?;intro j;by_cases hj:j<aH x
 ·have e:vf al j=vf be j:=by
   rw[h1.ext hj,h2.ext hj];unfold Go.Proofs.YthgdchffeigkbaaGreatDoor.ext;by_cases hp:fK (gL x) j=true
   ·rw[if_pos hp,if_pos hp]
    exact he _ (cY.1 (wD hp hj)).1
   ·rw[if_neg hp,if_neg hp]
  rw[bC (l:=al) (i:=j) (by rw[h1.1];exact hj),bC (l:=be) (i:=j) (by rw[h2.1];exact hj),e]
 ·rw[List.getElem?_eq_none (by rw[h1.1];omega),List.getElem?_eq_none (by rw[h2.1];omega)]
theorem VY(hr:o5 x ms)(h:XF x al)(hs:(jC x ms).Sol (frF x al)):al=cE x ms:=
 h.eq aJe fun i hi=>by rw[aM3 hi,aJc hr hs i hi]
theorem aDo(ok:bJ x)(hm:∀m∈ms,qU x m)(h:XF x al)(hk:ms[k]?=some m):kY m.txt-(iM (aS x m).1 al+(aS x m).2)=(jC x ms).res (frF x al) k:=by
 unfold Ls.res;rw[aLR hk,C4 hk];rw[h.dot (mQ ok (hm m (bS hk))).len];show _=_-aV (aA x).length _ _;grind
theorem yG:(cW x ms al).length=ms.length:=by unfold cW;rw[iT]
def Y9(x:bK)(ms:List Mi)(al:List Rat):Rat:=rN (ms.map fun m=>(m.wt:Rat)*(kY m.txt-(iM (aS x m).1 al+(aS x m).2))*(kY m.txt-(iM (aS x m).1 al+(aS x m).2)))
theorem GK(h:qs.length=n):rN qs=aM n (vf qs):=by
 have key:∀k,k<=n->rN (qs.take k)=aM k (vf qs):=fun k=>by
  induction k with
  | zero=>intro _;rfl
  | succ k ih=>
   intro hk;have h1:qs[k]?=some (vf qs k):=bC (by omega);rw[gJ h1,CG,ih (by omega)];rfl
 have:=key n lR;rwa[nT (by omega)] at this
theorem aFV(ok:bJ x)(hm:∀m∈ms,qU x m)(h:XF x al):Y9 x ms al=(jC x ms).cost (frF x al):=by
 unfold Y9;rw[GK (n:=ms.length) (by rw[iT])];unfold Ls.cost;refine aJ fun k hk=>?_;obtain⟨m,h0⟩:∃m,ms[k]?=some m:=⟨_,gS hk⟩;rw[aIp h0,<-aDo ok hm h h0];exact kW (by rw[lT,h0];rfl)
end
section
variable {x:bK} {ms:List Mi} {by_:Int}
end
section
variable {x:bK} {ms:List Mi}
theorem aBn(ok:bJ x)(hm:∀m∈ms,qU x m)(hr:o5 x ms)(h:XF x al)(hv:∀m∈ms,kY m.txt=iM (aS x m).1 al+(aS x m).2):cE x ms=al/\Y9 x ms al=0:=by
 have hy:∀k,k<(jC x ms).K->(jC x ms).y k=aV (jC x ms).n ((jC x ms).R k) (frF x al):=fun k hk=>by
  obtain⟨m,h0⟩:=U0 hk;rw[aLR h0,C4 h0,hv m (bS h0)];have:=h.dot (mQ ok (hm m (bS h0))).len;rw[this];show _=aV (aA x).length _ _;grind
 exact⟨(VY hr h (Ls.exact_sol hy)).symm,by rw[aFV ok hm h];exact Ls.exact_cost hy⟩
end
end
section
open Go.ChangeShapes Go.WideShapes Go.ChangeAt Go.RowKit
attribute [local go_sem ↓] aE
attribute [local go_sem] aL aK aO a_
structure Cf (w:Wo) (gc:Nat) (vs:List Rv) (q:List Rat):Prop where
 row:∃cs,aD w gc 115 cs/\cs.toList.take (q.length*4)=fI vs
 len:vs.length=q.length
 ok:kK w vs q
section
variable {w w':Wo} {gc:Nat} {vs:List Rv} {q:List Rat}
theorem Cf.up(f:Cf w gc vs q)(hb:Below w.heap.size w w'):Cf w' gc vs q:=by
 obtain⟨cs,h1,h2⟩:=f.row;exact⟨⟨cs,h1.bl hb,h2⟩,f.len,f.ok.up hb⟩
theorem Cf.elem(f:Cf w gc vs q)(hj:j<q.length):∃x,vs[j]?=some x/\w.cell? ⟨gc,j*4,none⟩=some (.bool x.b1)/\w.cell? ⟨gc,j*4+1,none⟩=some (.slice x.A x.n x.c)/\w.cell? ⟨gc,j*4+2,none⟩=some (.bool x.b2)/\w.cell? ⟨gc,j*4+3,none⟩=some (.slice x.A2 x.m x.d)/\gc<w.heap.size/\(∀o,w.frozen? ⟨gc,o,none⟩=false):=by
 obtain⟨cs,h1,h2⟩:=f.row;obtain⟨x,hx⟩:∃x,vs[j]?=some x:=eE (by rw[f.len];exact hj);obtain⟨c0,c1,c2,c3⟩:=h1.row_cell h2 hx;exact⟨x,hx,c0,c1,c2,c3,h1.lt,h1.frozen⟩
theorem Cf.keep(f:Cf w gc vs q)(hj:j<q.length){x y:Rv}(hy:cU w w.heap.size p y):cU (eG w gc j x) (eG w gc j x).heap.size p y:=by
 obtain⟨cs,h1,h2⟩:=f.row;obtain⟨x0,hx⟩:∃x,vs[j]?=some x:=eE (by rw[f.len];exact hj);exact cU.keep4 hy x h1 h2 hx
theorem Cf.put(f:Cf w gc vs q)(hj:j<q.length){x:Rv}(hx:cU w w.heap.size p x):Cf (eG w gc j x) gc (vs.set j x) (q.set j p):=by
 obtain⟨cs,h1,h2⟩:=f.row;obtain⟨cs',k1,k2⟩:=h1.row_put x h2 f.len hj;refine⟨⟨cs',k1,by rw[kV];exact k2⟩,by simp[f.len],fun i p' y hp hy=>?_⟩;rw[List.getElem?_set] at hp hy;by_cases uA:j=i
 ·subst uA
  rw[if_pos rfl,if_pos hj] at hp;rw[if_pos rfl,if_pos (by rw[f.len];exact hj)] at hy;injection hp with hp;injection hy with hy;subst hp;subst hy;exact f.keep hj hx
 ·rw[if_neg uA] at hp hy
  exact f.keep hj (f.ok i p' y hp hy)
theorem Cf.rdq(f:Cf w gc vs q):iE w w.heap.size (some ⟨gc,0,none⟩) q.length q:=by
 obtain⟨cs,h1,h2⟩:=f.row;refine⟨vs,f.len,rfl,⟨by rw[dW,f.len],fun hn=>⟨gc,0,rfl,h1.lt,fun i v hv=>?_⟩⟩,f.ok⟩;rw[Nat.zero_add,h1.cell];rw[<-h2] at hv;rw[List.getElem?_take] at hv;split at hv
 ·rwa[Array.getElem?_toList] at hv
 ·cases hv
end
theorem aBQ.snoc{N:Nat}(h:aBQ M N b)(hl:q.length=N)(hq:∀p∈q,bE p+1<=b)(hm:M.length<1000000):aBQ (M++[q]) N b:=by
 refine⟨fun a ha=>?_,fun a ha=>?_,h.sz,by rw[g_,List.length_singleton];omega,h.n⟩
 ·rcases List.mem_append.1 ha with h1 | h1
  ·exact h.wid a h1
  ·rw[List.mem_singleton.1 h1];exact hl
 ·rcases List.mem_append.1 ha with h1 | h1
  ·exact h.bd a h1
  ·rw[List.mem_singleton.1 h1];exact hq
structure aNh (w:Wo) (p7 p8 p9 g:Nat) (m:iC) (y:Value) (x:bK) (A:OA) (n c:Nat) (M:List (List Rat)):Prop where
 b7:aD w p7 90 #[.pointer (some ⟨g,0,none⟩)]
 b8:aD w p8 92 #[.slice A n c]
 b9:aD w p9 3 #[.int .i64 (cK M:Int)]
 md:aD w g 122 (m.cells y)
 rd:eK w w.heap.size m x
 rm:jP w w.heap.size A n M
theorem aNh.up{p7 p8 p9:Nat}{m:iC}{y:Value}(h:aNh w p7 p8 p9 g m y x A n c M)(hb:Below w.heap.size w w'):aNh w' p7 p8 p9 g m y x A n c M:=
 ⟨h.b7.bl hb,h.b8.bl hb,h.b9.bl hb,h.md.bl hb,h.rd.up hb,h.rm.up hb⟩
structure ArS (S:Nat->Nat->Bool) (nb b:Nat) (L:List Int):Prop where
 len:L.length=nb
 at_:∀k,k<b->L.getD k 0=((BG S b).1.getD k 0:Nat)
theorem ArS.start(S:Nat->Nat->Bool)(nb:Nat):ArS S nb 0 (List.replicate nb 0):=⟨qV,fun k h=>by omega⟩
theorem ArS.old{S:Nat->Nat->Bool}{a:Nat}(h:ArS S nb b L)(hb:b<nb)(hf:(List.range b).find? (fun a=>S a b)=some a):ArS S nb (b+1) (L.set b (L.getD a 0)):=by
 have ha:a<b:=by simpa using List.mem_of_find?_eq_some hf
 refine⟨by rw[kV];exact h.len,fun k hk=>?_⟩;have e:(BG S (b+1)).1=(BG S b).1++[(BG S b).1.getD a 0]:=by rw[I3,hf]
 have hl:=F0 S b;rw[e,dH,dH (l:=(BG S b).1++_),List.getElem?_set];by_cases hkb:k=b
 ·subst hkb
  rw[if_pos rfl,if_pos (by rw[h.len];exact hb),BP (by omega),hl,Nat.sub_self,h.at_ a ha];rfl
 ·rw[if_neg (fun e=>hkb e.symm),yC (by omega),<-dH,<-dH]
  exact h.at_ k (by omega)
theorem ArS.new{S:Nat->Nat->Bool}(h:ArS S nb b L)(hb:b<nb)(hf:(List.range b).find? (fun a=>S a b)=none):ArS S nb (b+1) (L.set b ((BG S b).2:Nat))/\(BG S (b+1)).2=(BG S b).2+1:=by
 have e:BG S (b+1)=((BG S b).1++[(BG S b).2],(BG S b).2+1):=by rw[I3,hf]
 refine⟨⟨by rw[kV];exact h.len,fun k hk=>?_⟩,by rw[e]⟩;have hl:=F0 S b;rw[e,dH,dH (l:=(BG S b).1++_),List.getElem?_set];by_cases hkb:k=b
 ·subst hkb
  rw[if_pos rfl,if_pos (by rw[h.len];exact hb),BP (by omega),hl,Nat.sub_self];rfl
 ·rw[if_neg (fun e=>hkb e.symm),yC (by omega),<-dH,<-dH]
  exact h.at_ k (by omega)
theorem ArS.fin{S:Nat->Nat->Bool}(h:ArS S nb nb L):L=e_ (BG S nb).1:=by
 have hl:=F0 S nb;apply List.ext_getElem?;intro k;unfold e_;rw[lT];by_cases hk:k<nb
 ·have:=h.at_ k hk
  rw[dH,dH,gS (by rw[h.len];exact hk),gS (l:=(BG S nb).1) (by omega)] at this;rw[gS (by rw[h.len];exact hk),gS (by omega)];simpa using this
 ·rw[List.getElem?_eq_none (by rw[h.len];omega),List.getElem?_eq_none (by omega)];rfl
end
section
open Go.ChangeShapes Go.WideShapes Go.ChangeAt Go.RowKit Go.Joins
attribute [local go_sem ↓] aE
attribute [local go_sem] aL aK aO a_
theorem aIw:(Tryz.prog.info? 57).map (fun i=>(i.zero,i.size,i.bytes))=some (some (.agg #[.int .i64 0,.string ⟨#[]⟩,.string ⟨#[]⟩,.int .i64 0]),4,48):=by kernel_rfl
def dG(w:Wo)(base:Nat)(v:Value)(ms:List Mi):Prop:=w.ownsRow base 57 4 v ms.length (ms.flatMap Mi.cells)
theorem dG.keep(h:dG w base v ms)(hb:Below w.heap.size w w'):dG w' base v ms:=aDM h hb
theorem dG.mono{base':Nat}(h:dG w base v ms)(hb:base'<=base):dG w base' v ms:=
 ⟨h.1,h.2.imp id fun⟨g,cap,cur,h1,h2,h3⟩=>⟨g,cap,cur,h1,b_ hb h2,h3⟩⟩
theorem UI(w:Wo)(base:Nat):dG w base (.slice none 0 0) []:=aDL _ _ _ _
theorem dG.rd(h:dG w base v ms):∃A c,v=.slice A ms.length c/\eB w w.heap.size A ms.length ms/\ms.length<=c/\c<=maxLen:=by
 obtain⟨A,c,hv,hr,h1,h2,_⟩:=oV h;exact⟨A,c,hv,⟨rfl,hr⟩,h1,h2⟩
theorem dG.rd2(h:dG w base (.slice A n c) ms):eB w w.heap.size A n ms/\n<=c/\c<=maxLen:=by
 obtain⟨A',c',e,h1,h2,h3⟩:=h.rd;injection e with e1 e2 e3;subst e1;subst e2;subst e3;exact⟨h1,h2,h3⟩
theorem aAP(ms:List Mi):∀u∈ms.flatMap Mi.cells,u.oneCell'=true:=fun u hu=>by
 obtain⟨m,_,hm⟩:=List.mem_flatMap.1 hu;simp[Mi.cells] at hm;rcases hm with rfl | rfl | rfl | rfl<;>rfl
theorem GZ:dG (w.alloc (.cells #[] 57)) w.heap.size (.slice (some ⟨w.heap.size,0,none⟩) 0 0) []:=X3 w _ _
section
variable {o:Oper} {a:Act} {w:Wo} {Q:Exit->Act->World->Prop}
theorem F_{K:Act->World->Prop}(s x:Operand)(t:TypeId)(ho:o.op=.call { callee:=.builtin .append,args:=#[s,x],argTypes:=#[t,t] })(base:Nat)(ht:Tryz.prog.underlying t=some (.slice 57))(v:Value)(xs:List Mi)(hsv:a.eval s=v)(aW:dG w base v xs)(A:OA)(m c:Nat)(ys:List Mi)(hx:a.eval x=.slice A m c)(hr:eB w w.heap.size A m ys)(uO:xs.length+m<=1000000000)(cD:base<=w.heap.size)(N:Nat)(hN:(xs++ys).length=N)(h:∀A' c' w',dG w' base (.slice A' N c') (xs++ys)->Below base w w'->w.grownBy w' v.ownBlock->K (a.put o.dst (.slice A' N c')) w'):o.wp Tryz.prog a w K Q:=by
 obtain⟨i0,iW,qY,kF,kE⟩:=info_parts aIw;obtain⟨hm,hr⟩:=hr;have AQ:∀w',w.grownBy w' v.ownBlock->Below base w w':=fun w' hg=>bR.grown hg cD fun k hk=>by
  rcases aW.2 with⟨e1,_⟩ | ⟨g,cap,cur,e1,e2,_⟩
  ·rw[e1] at hk;simp[Value.ownBlock] at hk
  ·rw[e1] at hk
   simp[Value.ownBlock] at hk;omega
 have fin:∀v' w',w'.ownsRow base 57 4 v' (xs.length+m) (xs.flatMap Mi.cells++ys.flatMap Mi.cells)->w.grownBy w' v.ownBlock->K (a.put o.dst v') w':=fun v' w' k1 k2=>by
  have k3:dG w' base v' (xs++ys):=by
   unfold dG;rw[List.flatMap_append,g_,hm];exact k1
  obtain⟨A',c',e,_⟩:=k3.rd;subst e;subst hN;exact h A' c' w' k3 (AQ _ k2) k2
 rcases Nat.eq_zero_or_pos m with rfl | h0
 ·have hys:ys=[]:=List.eq_nil_of_length_eq_zero hm
  subst hys;obtain⟨A1,c1,hv,_,hc1,_⟩:=aW.rd;have q_:Src Tryz.prog i0.size t (.slice A 0 c) 0 [] w:=by
   cases A with
   | none=>exact Src.ofNil w ht c
   | some ad=>exact Src.ofSlice w ht ad 0 c [] (by simp) (fun j u hu=>by simp at hu) (fun u hu=>by cases hu)
  have NR:=run_append_nothing (P:=Tryz.prog) w t t o.type 57 i0 ht iW A1 xs.length c1 hc1 (.slice A 0 c) q_;unfold Oper.wp execOp;simp only[ho,resolve,invoke,builtin,Sem.run_bind,Sem.run_pure,Result.andThen_ok,List.map_toArray,List.map_cons,List.map_nil,hsv,hx,hv,NR];have:=fin v w (by have h:=aW;unfold dG at h;simpa using h) (World.grownBy.refl _ _);rw[hv] at this;exact this
 ·obtain⟨b,off,rfl,hb,hc⟩:=hr.2 h0
  exact wp_append_own w s x t ho base 57 i0 _ 4 48 ht iW qY kF kE rfl (by omega) v _ _ hsv aW ⟨b,off,none⟩ m c (ys.flatMap Mi.cells) hx (by rw[qN Mi.len,hm]) (fun j u hu=>by rw[Addr.add_lit];exact hc j u hu) (aAP ys) (by simp only[maxLen];omega) (by omega) cD fun v' w' k1 k2 _=>fin v' w' k1 k2
theorem zN{ops:Array Oper}{rest:List Oper}(yW:o.guard=none)(s x:Operand)(t:TypeId)(ho:o.op=.call { callee:=.builtin .append,args:=#[s,x],argTypes:=#[t,t] })(base:Nat)(ht:Tryz.prog.underlying t=some (.slice 57))(v:Value)(xs:List Mi)(hsv:a.eval s=v)(aW:dG w base v xs)(A:OA)(m c:Nat)(ys:List Mi)(hx:a.eval x=.slice A m c)(hr:eB w w.heap.size A m ys)(uO:xs.length+m<=1000000000)(cD:base<=w.heap.size)(N:Nat)(hN:(xs++ys).length=N)(h:∀A' c' w',dG w' base (.slice A' N c') (xs++ys)->Below base w w'->w.grownBy w' v.ownBlock->wpList Tryz.prog ops Q rest (a.put o.dst (.slice A' N c')) w'):wpList Tryz.prog ops Q (o::rest) a w:=by
 refine wpList_plain yW fun K hK=>?_;exact F_ s x t ho base ht v xs hsv aW A m c ys hx hr uO cD N hN fun A' c' w' a1 a2 a3=>hK _ _ (h A' c' w' a1 a2 a3)
end
theorem aDw{T:TypeId}(h:aD w g T #[.int .i64 m.kind,.string m.name,.string m.txt,.int .i64 m.wt]):eB w w.heap.size (some ⟨g,0,none⟩) 1 [m]:=by
 refine⟨rfl,⟨rfl,fun _=>⟨g,0,rfl,h.lt,fun j u hu=>?_⟩⟩⟩;rw[Nat.zero_add,h.cell j];simpa[Mi.cells] using hu
theorem eB.take{m:Nat}(h:eB w B A n xs)(hm:m<=n):eB w B A m (xs.take m):=by
 obtain⟨h1,h2,h3⟩:=h;refine⟨by rw[jN,h1];omega,⟨?_,fun h0=>?_⟩⟩
 ·rw[qN Mi.len,jN,h1,Nat.min_eq_left hm]
 ·obtain⟨b,off,e,aR,hc⟩:=h3 (by omega)
  refine⟨b,off,e,aR,fun j u hu=>hc j u ?_⟩;have e2:xs.flatMap Mi.cells=(xs.take m).flatMap Mi.cells++(xs.drop m).flatMap Mi.cells:=by rw[<-List.flatMap_append,List.take_append_drop]
  rw[e2,yC (cY.1 hu).1];exact hu
theorem eB.drop{off:Nat}(h:eB w B (some ⟨b,off,none⟩) n xs)(hi:i<=n):eB w B (some ⟨b,off+i*4,none⟩) (n-i) (xs.drop i):=by
 obtain⟨h1,h2,h3⟩:=h;refine⟨by rw[J2,h1],⟨?_,fun h0=>?_⟩⟩
 ·rw[qN Mi.len,J2,h1]
 ·obtain⟨b',off',e,aR,hc⟩:=h3 (by omega)
  injection e with e;injection e with e1 e2;subst e1;subst e2;refine⟨b,off+i*4,rfl,aR,fun j u hu=>?_⟩;have e2:xs.flatMap Mi.cells=(xs.take i).flatMap Mi.cells++(xs.drop i).flatMap Mi.cells:=by rw[<-List.flatMap_append,List.take_append_drop]
  have hl:((xs.take i).flatMap Mi.cells).length=i*4:=by rw[qN Mi.len,jN,h1,Nat.min_eq_left hi]
  have:=hc (i*4+j) u (by rw[e2,BP (by omega),hl,Nat.add_sub_cancel_left];exact hu);rwa[<-Nat.add_assoc] at this
theorem eB.tail{off:Nat}(h:eB w B (some ⟨b,off,none⟩) n xs)(hc:n<=c)(hi:i<=n):eB w B (if c=i then some ⟨b,off,none⟩ else some ⟨b,off+i*4,none⟩) (n-i) (xs.drop i):=by
 have h2:=h.drop hi;by_cases VN:c=i
 ·refine⟨h2.1,h2.2.1,fun h0=>by omega⟩
 ·rw[if_neg VN];exact h2
end
section
open Go.ChangeShapes Go.WideShapes Go.ChangeAt Go.RowKit
attribute [local go_sem ↓] aE
attribute [local go_sem] aL aK aO a_
theorem aDv(w:Wo)(B:Nat):xK w B none 0 []:=⟨rfl,⟨rfl,fun h=>absurd h (by decide)⟩,fun v hv=>by cases hv⟩
end
section
def Cn(e:Nat->Rat)(n:Nat)(out:List Int):Prop:=∀a b,a<n->b<n->0<=out.getD a 0->out.getD a 0=out.getD b 0->e a=e b
def Cq(n:Nat)(m:Int)(s:List Int×List Nat):Prop:=∀v∈s.2,v<n/\s.1.getD v 0=m
theorem aJm{e:Nat->Rat}{m:Int}{s:List Int×List Nat}{x:Nat×Nat}(hm:0<=m)(hx:x.1<n/\x.2<n)(hl:s.1.length=n)(hu:u<n)(hum:s.1.getD u 0=m)(he:e x.1=e x.2)(h:Cn e n s.1)(hq:Cq n m s):Cn e n (mF u m s x).1/\Cq n m (mF u m s x)/\(mF u m s x).1.length=n/\(mF u m s x).1.getD u 0=m:=by
 unfold mF;split
 ·rename_i hc
  obtain⟨v,hv⟩:∃v,v=x.1+x.2-u:=⟨_,rfl⟩;have hvn:v<n:=by omega
  have hev:e v=e u:=by
   rcases hc.1 with e1 | e1
   ·have:v=x.2:=by omega
    rw[this,<-e1];exact he.symm
   ·have:v=x.1:=by omega
    rw[this,<-e1];exact he
  have vI:=hc.2;rw[<-hv] at vI ⊢;have hD:∀j,(s.1.set v m).getD j 0=if j=v then m else s.1.getD j 0:=fun j=>aPq (by omega);have hvu:u≠v:=fun e1=>by rw[<-e1,hum] at vI;omega
  refine⟨fun a b ha hb h0 lO=>?_,fun w hw=>?_,by simp[hl],by rw[hD,if_neg hvu];exact hum⟩
  ·simp only[hD] at h0 lO
   by_cases e1:a=v
   ·by_cases e2:b=v
    ·rw[e1,e2]
    ·rw[if_pos e1,if_neg e2] at lO
     rw[e1,hev];exact h u b hu hb (by omega) (by rw[hum];exact lO)
   ·by_cases e2:b=v
    ·rw[if_neg e1,if_pos e2] at lO
     rw[e2,hev];exact(h u a hu ha (by omega) (by rw[hum];exact lO.symm)).symm
    ·rw[if_neg e1] at h0
     rw[if_neg e1,if_neg e2] at lO;exact h a b ha hb h0 lO
  ·rcases List.mem_append.1 hw with hw | hw
   ·have:=hq w hw
    refine⟨this.1,?_⟩;rw[hD];split
    ·rfl
    ·exact this.2
   ·rw[List.mem_singleton.1 hw]
    exact⟨hvn,by rw[hD,if_pos rfl]⟩
 ·exact⟨h,hq,hl,hum⟩
theorem ZA{e:Nat->Rat}{m:Int}(hm:0<=m)(hu:u<n):∀{es:List (Nat×Nat)} {s:List Int×List Nat},(∀x∈es,x.1<n/\x.2<n)->(∀x∈es,e x.1=e x.2)->s.1.length=n->s.1.getD u 0=m->Cn e n s.1->Cq n m s->
    Cn e n (oA u m es s).1/\Cq n m (oA u m es s)/\(oA u m es s).1.length=n
 | [],s,_,_,hl,_,h,hq=>⟨h,hq,hl⟩
 | x::r,s,hx,he,hl,hum,h,hq=>by
  obtain⟨h1,h2,h3,h4⟩:=aJm hm (hx x (by simp)) hl hu hum (he x (by simp)) h hq;exact ZA (es:=r) (s:=mF u m s x) hm hu (fun y hy=>hx y (by simp[hy])) (fun y hy=>he y (by simp[hy])) h3 h4 h1 h2
theorem aF0{e:Nat->Rat}{m:Int}(hm:0<=m){es:List (Nat×Nat)}(hx:∀x∈es,x.1<n/\x.2<n)(he:∀x∈es,e x.1=e x.2):∀(f:Nat){out:List Int}{q:List Nat},out.length=n->Cn e n out->Cq n m (out,q)->Cn e n (CU m es f out q)
 | 0,out,q,_,h,_=>h
 | f+1,out,[],_,h,_=>h
 | f+1,out,u::q,hl,h,hq=>by
  have hu:=hq u (by simp);obtain⟨h1,h2,h3⟩:=ZA (s:=(out,q)) hm hu.1 hx he hl hu.2 h (fun v hv=>hq v (by simp only at hv ⊢;simp[hv]));exact aF0 hm hx he f h3 h1 h2
theorem aFZ{e:Nat->Rat}{es:List (Nat×Nat)}(hx:∀x∈es,x.1<n/\x.2<n)(he:∀x∈es,e x.1=e x.2):∀(k i:Nat)(s:List Int×Int),s.1.length=n->i+k=n->(∀y∈s.1,-1<=y/\y<s.2)->0<=s.2->Cn e n s.1->Cn e n (S6 n es k i s).1
 | 0,i,s,_,_,_,_,h=>h
 | k+1,i,s,hl,hi,hb,h0,h=>by
  unfold S6;split
  ·exact aFZ hx he k (i+1) s hl (by omega) hb h0 h
  ·rename_i hz
   have lE:i<s.1.length:=by omega
   have DE:Ps n s.2 (s.1.set i s.2) [i]:=⟨by simp[hl],fun v hv=>(by rw[List.mem_singleton.1 hv];omega),fun x hx=>by
    rcases List.mem_or_eq_of_mem_set hx with hx | rfl
    ·have:=hb x hx;omega
    ·omega⟩
   have h2:=NA h0 hx (n+1) DE;have hD:∀j,(s.1.set i s.2).getD j 0=if j=i then s.2 else s.1.getD j 0:=fun j=>aPq lE;have aR:∀j,j<n->s.1.getD j 0<s.2:=fun j hj=>by
    rw[dH,gS (by omega)];exact(hb _ (List.getElem_mem _)).2
   have hcn:Cn e n (s.1.set i s.2):=fun a b ha hb' g0 gab=>by
    simp only[hD] at g0 gab;by_cases e1:a=i
    ·by_cases e2:b=i
     ·rw[e1,e2]
     ·rw[if_pos e1,if_neg e2] at gab
      have:=aR b hb';omega
    ·by_cases e2:b=i
     ·rw[if_neg e1,if_pos e2] at gab
      have:=aR a ha;omega
     ·rw[if_neg e1] at g0
      rw[if_neg e1,if_neg e2] at gab;exact h a b ha hb' g0 gab
   refine aFZ hx he k (i+1) _ h2.1 (by omega) (fun x hx=>(by have:=h2.2 x hx;show _/\_<s.2+1;omega)) (by show 0<=s.2+1;omega) ?_;exact aF0 h0 hx he (n+1) (by simp[hl]) hcn (fun v hv=>by
    have:v=i:=by simpa using hv
    subst this;exact⟨by omega,by rw[hD,if_pos rfl]⟩)
theorem UF{e:Nat->Rat}{es:List (Nat×Nat)}(hx:∀x∈es,x.1<n/\x.2<n)(he:∀x∈es,e x.1=e x.2){a:Nat}(ha:a<n)(hb:b<n)(lO:(jU n es).getD a 0=(jU n es).getD b 0):e a=e b:=by
 have h:=aFZ (e:=e) hx he n 0 (List.replicate n (-1),0) (by simp) (by omega) (fun y hy=>(by rw[List.eq_of_mem_replicate hy];exact⟨by omega,show(-1:Int)<0 by omega⟩)) (by show(0:Int)<=0;omega) (fun a b ha hb g0 _=>by
  have g0':0<=(List.replicate n (-1:Int)).getD a 0:=g0;rw[aLE ha] at g0';omega)
 refine h a b ha hb ?_ lO;have hp:=sJ hx;show 0<=(jU n es).getD a 0;rw[dH,gS (by rw[hp.1];exact ha)];exact(hp.2 _ (List.getElem_mem _)).1
theorem pS{K:Nat}{A:List (List Rat)}{q:Rat}(h:eZ n K A)(hi:i<n)(hj:j<n)(c:Fn)(r:Nat):aV n (vf ((eX A i j q).getD r [])) c=aV n (vf (A.getD r [])) c+if r=i then q*c j else 0:=by
 obtain⟨a,ha⟩:∃a,A[i]?=some a:=eE (by rw[h.len];exact hi);rw[gI ha];by_cases e:r=i
 ·subst e
  rw[if_pos rfl,dH,List.getElem?_set,if_pos rfl,if_pos (by rw[h.len];exact hi),dH,ha];simp only[Option.getD_some];have uH:=h.wid a (bS ha);unfold aV;rw[aJ (g:=fun t=>vf a t*c t+(if t=j then q*c j else 0)) (fun t _=>by
   rw[CE (by rw[uH];exact hj)];by_cases e:t=j
   ·subst e;rw[if_pos rfl,if_pos rfl];grind
   ·rw[if_neg e,if_neg e];grind),eR]
  congr 1
  rw[gH hj (fun t _ cG=>if_neg cG),if_pos rfl]
 ·rw[if_neg e,Rat.add_zero,dH,List.getElem?_set,if_neg (fun e2=>e e2.symm),dH]
def uP(free:List Nat)(c:Fn)(u:Nat):Rat:=match CS free u with | some i=>c i | none=>0
theorem AE(h:CS free u=none)(hr:free[r]?=some f):f≠u:=fun e=>by
 unfold CS at h;rw[List.findIdx?_eq_none_iff] at h;have:=h f (bS hr);simp[e] at this
theorem sH(hn:free.Nodup)(h:CS free u=some i)(hr:free[r]?=some f):f=u<->r=i:=by
 have h1:=(eH h).2;obtain⟨a1,a2⟩:=cY.1 h1;obtain⟨b1,b2⟩:=cY.1 hr
 constructor
 ·intro e
  exact(List.getElem_inj hn).1 (by rw[b2,a2,e])
 ·intro e
  subst e;rw[hr] at h1;injection h1
theorem SK(hn:free.Nodup){K v:Nat}{A:List (List Rat)}{b:Rat}(h:eZ free.length K A)(hb:bE b<=1)(c:Fn)(hr:free[r]?=some f):aV free.length (vf ((gO free A b u v).getD r [])) c=aV free.length (vf (A.getD r [])) c+b*(two u v f*(uP free c u-uP free c v)):=by
 have hb':bE (-b)<=1:=by rw[mH];exact hb
 unfold gO;by_cases YE:u=v
 ·subst YE
  rw[if_pos rfl];grind
 ·rw[if_neg YE]
  unfold two;cases h1:CS free u with
  | none=>
   have e1:uP free c u=0:=by unfold uP;rw[h1]
   have g1:=AE h1 hr;cases h2:CS free v with
   | none=>
    have e2:uP free c v=0:=by unfold uP;rw[h2]
    rw[e1,e2];grind
   | some j=>
    have e2:uP free c v=c j:=by unfold uP;rw[h2]
    have g2:=sH hn h2 hr;simp only;rw[pS h (eH h2).1 (eH h2).1,e1,e2,if_neg g1];by_cases e:r=j
    ·rw[if_pos e,if_pos (g2.2 e),e];grind
    ·rw[if_neg e,if_neg (fun e3=>e (g2.1 e3))];grind
  | some i=>
   have e1:uP free c u=c i:=by unfold uP;rw[h1]
   have g1:=sH hn h1 hr;cases h2:CS free v with
   | none=>
    have e2:uP free c v=0:=by unfold uP;rw[h2]
    have g2:=AE h2 hr;simp only;rw[pS h (eH h1).1 (eH h1).1,e1,e2,if_neg g2];by_cases e:r=i
    ·rw[if_pos e,if_pos (g1.2 e),e];grind
    ·rw[if_neg e,if_neg (fun e3=>e (g1.1 e3))];grind
   | some j=>
    have e2:uP free c v=c j:=by unfold uP;rw[h2]
    have g2:=sH hn h2 hr;have li:=(eH h1).1;have lj:=(eH h2).1;have a1:=h.add li li hb;have a2:=a1.add lj lj hb;have a3:=a2.add li lj hb';simp only;rw[pS a3 lj li,pS a2 li lj,pS a1 lj lj,pS h li li,e1,e2];by_cases e:r=i
    ·have uA:r≠j:=fun e3=>YE (((g1.2 e).symm.trans (g2.2 e3)))
     rw[if_pos e,if_neg uA,if_pos e,if_neg uA,if_pos (g1.2 e),if_neg (fun e3=>uA (g2.1 e3))];grind
    ·rw[if_neg e,if_neg e,if_neg (fun e3=>e (g1.1 e3))]
     by_cases e3:r=j
     ·rw[if_pos e3,if_pos e3,if_pos (g2.2 e3)]
      grind
     ·rw[if_neg e3,if_neg e3,if_neg (fun e4=>e3 (g2.1 e4))]
      grind
def N8(x:bK)(E:Nat->Rat)(f:Nat):List Br->Rat
 | []=>0
 | b::r=>dB b*(two (aG x b.fr) (aG x b.to) f*(E (aG x b.fr)-E (aG x b.to)))+N8 x E f r
theorem MG{x:bK}(hn:free.Nodup)(c:Fn)(hr:free[r]?=some f):∀(bs:List Br)(K:Nat) (A:List (List Rat)),(∀b∈bs,bE (dB b)<=1)->eZ free.length K A->
    aV free.length (vf ((xY free (bs.map dB) (bs.map fun b=>aG x b.fr) (bs.map fun b=>aG x b.to) A).getD r [])) c=aV free.length (vf (A.getD r [])) c+N8 x (uP free c) f bs/\∃K',eZ free.length K' (xY free (bs.map dB) (bs.map fun b=>aG x b.fr) (bs.map fun b=>aG x b.to) A)
 | [],K,A,_,h=>⟨(Rat.add_zero _).symm,K,h⟩
 | b::bs,K,A,hq,h=>by
  have hb:=hq b (by simp);have ih:=MG (x:=x) hn c hr bs (K+8) (gO free A (dB b) (aG x b.fr) (aG x b.to)) (fun a ha=>hq a (by simp[ha])) (zA h hb);simp only[List.map_cons];unfold xY N8;refine⟨?_,ih.2⟩;rw[ih.1,SK hn h hb c hr];grind
end
section
open Go.ChangeShapes Go.WideShapes Go.ChangeAt Go.RowKit
attribute [local go_sem ↓] aE
attribute [local go_sem] aL aK aO a_
theorem RM{α:Type}{el:α->List Value}{sz:Nat}(d8:∀a,(el a).length=sz):∀(xs:List α)(i:Nat)(x y:α)(j:Nat)(u:Value),xs[i]?=some x->j<sz->el y=(el x).set j u->(xs.set i y).flatMap el=(xs.flatMap el).set (i*sz+j) u
 | [],i,x,y,j,u,h,_,_=>by simp at h
 | a::r,0,x,y,j,u,h,hj,he=>by
  simp at h;subst h;simp only[List.set_cons_zero,List.flatMap_cons,he,Nat.zero_mul,Nat.zero_add];rw[List.set_append_left _ _ (by rw[d8];exact hj)]
 | a::r,i+1,x,y,j,u,h,hj,he=>by
  simp only[List.set_cons_succ,List.flatMap_cons];rw[RM d8 r i x y j u (by simpa using h) hj he,List.set_append_right _ _ (by rw[d8,Nat.succ_mul];omega),d8];congr 2
  rw[Nat.succ_mul];omega
section
variable {w:Wo} {base n c i:Nat} {A:OA} {ms:List Mi} {m:Mi}
theorem dG.at_(h:dG w base (.slice A n c) ms)(hm:ms[i]?=some m):∃g,A=some ⟨g,0,none⟩/\base<=g/\g<w.heap.size/\w.cell? ⟨g,i*4,none⟩=some (.int .i64 m.kind)/\w.cell? ⟨g,i*4+1,none⟩=some (.string m.name)/\w.cell? ⟨g,i*4+2,none⟩=some (.string m.txt)/\w.cell? ⟨g,i*4+3,none⟩=some (.int .i64 m.wt)/\(∀o,w.frozen? ⟨g,o,none⟩=false)/\
    ∀(j:Nat)(u:Value)(m':Mi),j<4->Mi.cells m'=(Mi.cells m).set j u->dG (w.setCell ⟨g,i*4+j,none⟩ u) base (.slice A n c) (ms.set i m'):=by
 have hi:=(cY.1 hm).1;unfold dG at h;rcases h.2 with⟨h1,h2⟩ | ⟨g,cap,cur,h1,h2,h3,h4,h5,h6,h7⟩
 ·omega
 ·have hb:aD w g 57 cur:=h3
  have key:∀j y,j<4->(Mi.cells m)[j]?=some y->w.cell? ⟨g,i*4+j,none⟩=some y:=fun j y hj hy=>by
   rw[hb.cell];have:=kG Mi.len ms i m hm j hj;rw[hy,<-h7,List.getElem?_take] at this;split at this
   ·rwa[Array.getElem?_toList] at this
   ·cases this
  injection h1 with e1 e2 e3;refine⟨g,e1,h2,hb.lt,key 0 _ (by decide) rfl,key 1 _ (by decide) rfl,key 2 _ (by decide) rfl,key 3 _ (by decide) rfl,fun o=>hb.frozen o,fun j u m' hj he=>?_⟩;unfold dG;rw[kV,RM Mi.len ms i m m' j u hm hj he];refine⟨by rw[kV];exact h.1,.inr ⟨g,cap,cur.setIfInBounds (i*4+j) u,by rw[e1,e2,e3],h2,hb.set_ _ u,h4,h5,by rw[Array.size_setIfInBounds];exact h6,?_⟩⟩;rw[Array.toList_setIfInBounds,kX _ _ _ _ (by omega),h7]
end
theorem UH:bB o9 (w.alloc (.cells #[] 93)) w.heap.size 93 1 (.slice (some ⟨w.heap.size,0,none⟩) 0 0) 0 []:=
 ⟨rfl,.inr ⟨w.heap.size,0,#[],rfl,lR,aD.new w _ _,lR,by simp[maxLen],rfl,rfl,fun u hu=>by simp at hu⟩⟩
theorem bB.mono{S:Value->Prop}{base' size:Nat}{xs:List Value}(h:bB S w base e size v n xs)(hb:base'<=base):bB S w base' e size v n xs:=
 ⟨h.1,h.2.imp id fun⟨g,cap,cur,h1,h2,h3⟩=>⟨g,cap,cur,h1,b_ hb h2,h3⟩⟩
theorem GB{ops:Array Oper}{rest:List Oper}{o:Oper}{a:Act}{w:Wo}{Q:Exit->Act->World->Prop}(yW:o.guard=none)(s x:Operand)(t:TypeId)(ho:o.op=.call { callee:=.builtin .append,args:=#[s,x],argTypes:=#[t,t] })(base:Nat)(ht:Tryz.prog.underlying t=some (.slice 93))(v:Value)(hs:List Hd)(hsv:a.eval s=v)(aW:bB o9 w base 93 1 v hs.length (hs.map Hd.val))(A:OA)(m c:Nat)(h2:List Hd)(hm:h2.length=m)(hx:a.eval x=.slice A m c)(hr:Rd w w.heap.size 1 A m (h2.map Hd.val))(uO:hs.length+m<=1000000000)(cD:base<=w.heap.size)(N:Nat)(hN:(hs++h2).length=N)(h:∀A' c' w',bB o9 w' base 93 1 (.slice A' N c') (hs++h2).length ((hs++h2).map Hd.val)->Below base w w'->dU o9 base 93 w w'->wpList Tryz.prog ops Q rest (a.put o.dst (.slice A' N c')) w'):wpList Tryz.prog ops Q (o::rest) a w:=by
 refine wpList_plain yW fun K hK=>?_;exact F9 s x t ho base ht v hs hsv aW A m c h2 hm hx hr uO cD N hN fun A' c' w' a1 a2 a3=>hK _ _ (h A' c' w' a1 a2 a3)
theorem WE(A:OA)(n c:Nat)(hs:List Hd)(w:Wo)(hl:hs.length=n)(hr:Rd w w.heap.size 1 A n (hs.map Hd.val))(hn:n<=1000000):Calls Tryz.prog 89 #[.slice A n c] w fun e w'=>Below w.heap.size w w'/\∃A' c',e=.returned (.slice A' n c')/\bB o9 w' w.heap.size 93 1 (.slice A' n c') hs.length (hs.map Hd.val):=by
 have q22:∀(w:Wo)(a:OA)(n c n' c':Nat),(binOp .eql 92 (.slice a n c) (.slice none n' c')).run Tryz.prog w=.ok (.bool a.isNone) w:=fun w a n c n' c'=>Lib.run_eql_slice_nil w _ _ a n c n' c' Tryz.underlying92;have HL:=lH hl;have HR:=lH hr;cases A with
 | none=>
  have h0:n=0:=by
   rcases Nat.eq_zero_or_pos n with h | h
   ·exact h
   ·obtain⟨b,off,e,_⟩:=hr.2 h;cases e
  subst h0;have aBa:hs=[]:=List.eq_nil_of_length_eq_zero hl;subst aBa;clear hl hr;go_enter Tryz.func89,Tryz.ntmps89
  (go_wp2_with fail);go_ret;exact⟨bR,none,0,rfl,dI _ _ _ _ _⟩
 | some ad=>
  clear hl hr;have hz:=jO w (.cells #[] 93);have HZ:=lH hz;clear hz;go_enter Tryz.func89,Tryz.ntmps89
  go_wp2_with (at_builtin;refine GB rfl _ _ 92 rfl w.heap.size Tryz.underlying92 _ [] rfl UH (some ad) n c hs HL.o rfl ?qc1 ?qc2 ?qc3 n ?qc4 ?_)
  case qc1=>exact(HR.o.below HZ.o lR).more HZ.o.size
  case qc2=>simp only[zW_];omega
  case qc3=>exact HZ.o.size
  case qc4=>rw[List.nil_append];exact HL.o
  intro A' c' w' ho hb _;have HO:Hid (bB o9 w' w.heap.size 93 1 (.slice A' n c') hs.length (hs.map Hd.val)):=lH ho;have HB:=lH (HZ.o.trans hb);clear ho hb;(go_wp2_with fail);go_ret;exact⟨HB.o,A',c',rfl,HO.o⟩
theorem vO(A:OA)(n c:Nat)(ms:List Mi)(w:Wo)(hr:eB w w.heap.size A n ms)(hn:n<=1000000):Calls Tryz.prog 52 #[.slice A n c] w fun e w'=>Below w.heap.size w w'/\∃A' c',e=.returned (.slice A' n c')/\dG w' w.heap.size (.slice A' n c') ms:=by
 have q22:∀(w:Wo)(a:OA)(n c n' c':Nat),(binOp .eql 31 (.slice a n c) (.slice none n' c')).run Tryz.prog w=.ok (.bool a.isNone) w:=fun w a n c n' c'=>Lib.run_eql_slice_nil w _ _ a n c n' c' Tryz.underlying31;have HR:=lH hr;cases A with
 | none=>
  have h0:n=0:=by
   rcases Nat.eq_zero_or_pos n with h | h
   ·exact h
   ·obtain⟨b,off,e,_⟩:=hr.2.2 h;cases e
  subst h0;have aBa:ms=[]:=List.eq_nil_of_length_eq_zero hr.1;subst aBa;clear hr;go_enter Tryz.func52,Tryz.ntmps52
  (go_wp2_with fail);go_ret;exact⟨bR,none,0,rfl,UI _ _⟩
 | some ad=>
  clear hr;have hz:=jO w (.cells #[] 57);have HZ:=lH hz;clear hz;go_enter Tryz.func52,Tryz.ntmps52
  go_wp2_with (at_builtin;refine zN rfl _ _ 31 rfl w.heap.size Tryz.underlying31 _ [] rfl GZ (some ad) n c ms rfl ?qc1 ?qc2 ?qc3 n ?qc4 ?_)
  case qc1=>exact(HR.o.below HZ.o lR).more HZ.o.size
  case qc2=>simp only[zW_];omega
  case qc3=>exact HZ.o.size
  case qc4=>rw[List.nil_append];exact HR.o.1
  intro A' c' w' ho hb _;have HO:Hid (dG w' w.heap.size (.slice A' n c') ms):=lH ho;have HB:=lH (HZ.o.trans hb);clear ho hb;(go_wp2_with fail);go_ret;exact⟨HB.o,A',c',rfl,HO.o⟩
theorem iE.keepsI(h:iE w w.heap.size A n qs)(k:dU rX base e w w'):iE w' w'.heap.size A n qs:=by
 obtain⟨vs,h1,h2,h3,h4⟩:=h;refine⟨vs,h1,h2,⟨h3.1,fun hn=>?_⟩,fun i q v hq hv=>(h4 i q v hq hv).keepsI k⟩;obtain⟨b,off,e,aR,hc⟩:=h3.2 hn;refine⟨b,off,e,kA aR k.size,fun j u hu=>k.cell _ _ (hc j u hu) ?_⟩;rintro⟨y,hy⟩;exact(zU vs u (bS hu)).2 _ _ hy
theorem jP.keepsI(h:jP w w.heap.size A n M)(k:dU rX base e w w'):jP w' w'.heap.size A n M:=by
 obtain⟨hs,h1,h2,h3,h4⟩:=h;refine⟨hs,h1,h2,⟨h3.1,fun hn=>?_⟩,fun i a q hh hq=>⟨(h4 i a q hh hq).1.keepsI k,(h4 i a q hh hq).2⟩⟩;obtain⟨b,off,e,aR,hc⟩:=h3.2 hn;refine⟨b,off,e,kA aR k.size,fun j u hu=>k.cell _ _ (hc j u hu) ?_⟩;rintro⟨y,hy⟩;exact(aE3 hs u (bS hu)).2 _ _ hy
theorem iE.keep5{p gc gd n' T:Nat}{u:Rv}(h:iE w w.heap.size (some ⟨gc,0,none⟩) n qs)(hb:aD w p T #[.slice none 0 0,.bool false,.slice none 0 0,.bool false,.slice none 0 0]):iE (put5 w p gd n' u) (put5 w p gd n' u).heap.size (some ⟨gc,0,none⟩) n qs:=by
 obtain⟨vs,h1,h2,h3,h4⟩:=h;refine⟨vs,h1,h2,⟨h3.1,fun hn=>?_⟩,fun i q v hq hv=>(h4 i q v hq hv).keep5 hb⟩;obtain⟨b,off,e,aR,hc⟩:=h3.2 hn;injection e with e;injection e with e1 e2;subst e1;subst e2;obtain⟨v0,uN⟩:∃v0,vs[0]?=some v0:=eE (by omega);have cG:gc≠p:=by
  rintro rfl;have h5:=hc 0 (.bool v0.b1) (by
   have:=tI uN 0 (by decide);rw[Nat.zero_mul,Nat.zero_add] at this;rw[this];rfl)
  rw[Nat.zero_add,hb.cell 0] at h5;cases h5
 refine⟨gc,0,rfl,by rw[aAB];exact aR,fun j y hy=>?_⟩;have off:∀(w:Wo)(i:Nat)(u v:Value),w.cell? ⟨gc,0+j,none⟩=some v->(w.setCell ⟨p,i,none⟩ u).cell? ⟨gc,0+j,none⟩=some v:=fun w i u v hv=>by
  rw[World.cell?_setCell_other _ _ _ _ (fun e=>cG (by injection e with e;exact e.symm))];exact hv
 exact off _ _ _ _ (off _ _ _ _ (off _ _ _ _ (off _ _ _ _ (off _ _ _ _ (hc j y hy)))))
end
section
theorem SL:∀(bs:List Br)(K:Nat) (A:List (List Rat)),(∀b∈bs,bE (dB b)<=1)->eZ free.length K A->∃K',eZ free.length K' (xY free (bs.map dB) (bs.map fun b=>aG x b.fr) (bs.map fun b=>aG x b.to) A)
 | [],K,A,_,h=>⟨K,h⟩
 | b::bs,K,A,hq,h=>SL bs (K+8) _ (fun a ha=>hq a (by simp[ha])) (zA h (hq b (by simp)))
theorem aHM{b:Br}(h:b.bad=false):0<dB b:=by
 obtain⟨h1,-,h3⟩:=WG h;unfold dB;rw[h3];generalize (b.x*b.tap).toNat=d at *;have hd:(0:Rat)<(((d:Nat):Int):Rat):=Rat.intCast_pos.2 (by omega);have e:Rat.divInt 1000000 ((d:Nat):Int)*(((d:Nat):Int):Rat)=1000000:=by
  rw[Rat.divInt_eq_div];exact Rat.div_mul_cancel (fun e=>by rw[e] at hd;exact absurd hd (by decide))
 rcases Rat.le_total (a:=Rat.divInt 1000000 ((d:Nat):Int)) (b:=0) with KA | KA
 ·exfalso
  have h4:=Rat.mul_le_mul_of_nonneg_right KA (Rat.le_of_lt hd);rw[e,Rat.zero_mul] at h4;exact absurd h4 (by decide)
 ·rcases Rat.le_iff_lt_or_eq.1 KA with h4 | h4
  ·exact h4
  ·rw[<-h4,Rat.zero_mul] at e
   exact absurd e (by decide)
section
variable {x:bK}
theorem tQ:(aA x).Nodup:=by
 unfold aA kR;exact List.nodup_range.filter _
theorem aGb(ok:bJ x):∃K,eZ (aA x).length K (qT x):=by
 unfold qT;rw[(mJ x).1,(mJ x).2];exact SL x.brs 3 _ (fun b hb=>o_ (ok.br b hb).2.2.2) (BI _)
theorem BH(ok:bJ x):(qT x).length=(aA x).length:=by obtain⟨K,h⟩:=aGb ok;exact h.len
theorem N7(ok:bJ x):∀a∈qT x,a.length=(qT x).length:=by obtain⟨K,h⟩:=aGb ok;rw[h.len];exact h.wid
theorem aJu(ok:bJ x)(c:Fn)(hr:(aA x)[r]?=some f):aV (aA x).length (vf ((qT x).getD r [])) c=N8 x (uP (aA x) c) f x.brs:=by
 have h:=(MG (x:=x) tQ c hr x.brs 3 (oH (aA x).length) (fun b hb=>o_ (ok.br b hb).2.2.2) (BI _)).1;unfold qT;rw[(mJ x).1,(mJ x).2,show mB x=x.brs.map dB from rfl,h];have e:aV (aA x).length (vf ((oH (aA x).length).getD r [])) c=0:=cM fun i _=>by
  unfold oH;rw[dH,List.getElem?_replicate,if_pos (cY.1 hr).1];simp only[Option.getD_some];rw[show vf (List.replicate (aA x).length 0) i=0 from GE _ i,Rat.zero_mul]
 rw[e,Rat.zero_add]
theorem ZH(c:Fn)(u:Nat):aM (aA x).length (fun i=>(if(aA x).getD i 0=u then 1 else 0)*c i)=uP (aA x) c u:=by
 have E9:∀i,i<(aA x).length->(aA x)[i]?=some ((aA x).getD i 0):=fun i hi=>by rw[dH,gS hi];rfl
 unfold uP;cases h:CS (aA x) u with
 | none=>exact cM fun i hi=>by rw[if_neg (AE h (E9 i hi)),Rat.zero_mul]
 | some k=>
  have hk:=eH h;rw[gH hk.1 (fun i hi cG=>by rw[if_neg (fun e=>cG ((sH tQ h (E9 i hi)).1 e)),Rat.zero_mul]),if_pos ((sH tQ h (E9 k hk.1)).2 rfl),Rat.one_mul]
theorem aJr(c:Fn)(u v:Nat):aM (aA x).length (fun i=>two u v ((aA x).getD i 0)*c i)=uP (aA x) c u-uP (aA x) c v:=by
 rw[<-ZH,<-ZH,<-KU];exact aJ fun i _=>by unfold two;grind
def AC(x:bK)(E:Nat->Rat):List Br->Rat
 | []=>0
 | b::r=>dB b*((E (aG x b.fr)-E (aG x b.to))*(E (aG x b.fr)-E (aG x b.to)))+AC x E r
theorem MF(c:Fn):∀bs:List Br,aM (aA x).length (fun i=>c i*N8 x (uP (aA x) c) ((aA x).getD i 0) bs)=AC x (uP (aA x) c) bs
 | []=>cM fun i _=>Rat.mul_zero _
 | b::r=>by
  unfold AC;rw[<-MF c r];have h1:=aJr (x:=x) c (aG x b.fr) (aG x b.to);generalize hd:uP (aA x) c (aG x b.fr)-uP (aA x) c (aG x b.to)=d at *;have h2:dB b*(d*d)=aM (aA x).length fun i=>(dB b*d)*(two (aG x b.fr) (aG x b.to) ((aA x).getD i 0)*c i):=by
   rw[bL,h1];grind
  rw[h2,<-eR];refine aJ fun i _=>?_;rw[show N8 x (uP (aA x) c) ((aA x).getD i 0) (b::r)=dB b*(two (aG x b.fr) (aG x b.to) ((aA x).getD i 0)*(uP (aA x) c (aG x b.fr)-uP (aA x) c (aG x b.to)))+N8 x (uP (aA x) c) ((aA x).getD i 0) r from rfl,hd];clear h1 h2 hd;generalize N8 x (uP (aA x) c) ((aA x).getD i 0) r=z;generalize two (aG x b.fr) (aG x b.to) ((aA x).getD i 0)=t;grind
theorem P5(E:Nat->Rat):∀bs:List Br,(∀b∈bs,0<dB b)->0<=AC x E bs/\(AC x E bs=0->∀b∈bs,E (aG x b.fr)=E (aG x b.to))
 | [],_=>⟨Rat.le_refl,fun _ b hb=>by simp at hb⟩
 | b::r,h=>by
  obtain⟨h1,h2⟩:=P5 E r fun a ha=>h a (by simp[ha]);have hb:=h b (by simp);unfold AC;generalize hd:E (aG x b.fr)-E (aG x b.to)=d;have h3:0<=dB b*(d*d):=Rat.mul_nonneg (Rat.le_of_lt hb) (aJ8 d);refine⟨Rat.add_nonneg h3 h1,fun h0=>?_⟩;have h4:dB b*(d*d)=0/\AC x E r=0:=by
   rcases Rat.le_iff_lt_or_eq.1 h3 with e | e
   ·exfalso
    have h5:0<dB b*(d*d)+AC x E r:=by grind
    rw[h0] at h5;exact absurd h5 (by decide)
   ·rw[<-e,Rat.zero_add] at h0
    exact⟨e.symm,h0⟩
  intro a ha;rcases List.mem_cons.1 ha with rfl | ha
  ·rcases Rat.mul_eq_zero.1 h4.1 with e | e
   ·rw[e] at hb;exact absurd hb (by decide)
   ·have:d=0:=by rcases Rat.mul_eq_zero.1 e with e | e<;>exact e
    rw[this] at hd;grind
  ·exact h2 h4.2 a ha
theorem aD0(c:Fn)(h:fK (gL x) u=false):uP (aA x) c u=0:=by
 unfold uP;cases hp:CS (aA x) u with
 | none=>rfl
 | some i=>
  have:=(AF (p:=fK (gL x)) (n:=aH x) (eH hp).2).1;rw[h] at this;cases this
theorem aF_(c:Fn)(h:(aA x)[i]?=some f):uP (aA x) c f=c i:=by
 unfold uP;cases hp:CS (aA x) f with
 | none=>exact absurd rfl (AE hp h)
 | some k=>
  have:=(sH tQ hp h).1 rfl;rw[this]
theorem aDF(ok:bJ x){E:Nat->Rat}(he:∀b∈x.brs,E (aG x b.fr)=E (aG x b.to))(h0:∀u,fK (gL x) u=false->E u=0):∀u,u<aH x->E u=0:=by
 have hx:=(DL ok).1;have hee:∀p∈KH x,E p.1=E p.2:=fun p hp=>by
  unfold KH at hp;obtain⟨b,hb,rfl⟩:=List.mem_map.1 hp;exact he b hb
 have yV:(gL x).length=aH x:=(AJ ok).2;have hD:∀u,u<aH x->(((gL x).getD u 0:Nat):Int)=(DA x).getD u 0:=fun u hu=>by
  have h:=congrArg (fun l:List Int=>l[u]?) (AJ ok).1;simp only[e_,lT] at h;rw[gS (by omega)] at h;rw[dH,gS (by omega),dH,<-h];rfl
 intro u
 induction u using Nat.strongRecOn with
 | _ u ih=>
  intro hu;cases hf:fK (gL x) u with
  | false=>exact h0 u hf
  | true=>
   unfold fK aLL at hf;rw[Bool.not_not,List.any_eq_true] at hf;obtain⟨a,ha,hs⟩:=hf;have hau:a<u:=List.mem_range.1 ha;unfold T2 at hs;have hs':(gL x).getD a 0=(gL x).getD u 0:=by simpa using hs
   rw[<-ih a hau (by omega)];refine(UF hx hee (by omega) hu ?_).symm;show(DA x).getD a 0=(DA x).getD u 0;rw[<-hD a (by omega),<-hD u hu,hs']
theorem aJt(ok:bJ x):Reg (qT x):=by
 rw[M5 (N7 ok),BH ok];intro c hc j hj;rw[nQ] at hc;have E9:∀i,i<(aA x).length->(aA x)[i]?=some ((aA x).getD i 0):=fun i hi=>by rw[dH,gS hi];rfl
 have h1:∀i,i<(aA x).length->N8 x (uP (aA x) c) ((aA x).getD i 0) x.brs=0:=fun i hi=>by
  rw[<-aJu ok c (E9 i hi)];obtain⟨a,ha⟩:∃a,(qT x)[i]?=some a:=eE (by rw[BH ok];exact hi);rw[dH,ha];exact hc i a ha
 have h2:AC x (uP (aA x) c) x.brs=0:=by
  rw[<-MF];exact cM fun i hi=>by rw[h1 i hi,Rat.mul_zero]
 have h3:=(P5 (uP (aA x) c) x.brs fun b hb=>aHM (ok.br b hb).2.2.2).2 h2;have hjf:=E9 j hj;rw[<-aF_ c hjf];exact aDF ok h3 (fun u hu=>aD0 c hu) _ (AF (p:=fK (gL x)) (n:=aH x) hjf).2.1
theorem aIo(ok:bJ x):aAU x:=by
 have:=aJt ok;unfold Reg at this;rw[BH ok] at this;exact this
theorem X7(ok:bJ x):yP x=l9 (qT x):=by
 unfold yP l9;rw[BH ok]
theorem AN(ok:bJ x):(yP x).length=(aA x).length/\∀a∈yP x,a.length=(aA x).length:=by
 have h:=qG (N7 ok);rw[X7 ok,<-BH ok];exact h
end
end
section
open Go.ChangeShapes Go.WideShapes Go.ChangeAt Go.RowKit
attribute [local go_sem ↓] aE
attribute [local go_sem] aL aK aO a_
theorem TR{q:Rat}(h:cH q):(iU q).size<=maxLen:=by have:=aCX h;unfold maxLen;omega
end
section
def mM(x:bK)(m:Mi)(e:Nat)(b:Br):Int:=if m.kind=0 then(if e=(mV x m.name).toNat then 1 else 0) else if m.kind=2 then 0 else(if aG x b.fr=aG x m.name then 1 else 0)-(if aG x b.to=aG x m.name then 1 else 0)
def mN(x:bK)(m:Mi)(j:Nat):Int:=if m.kind=0 then 0 else if m.kind=2 then(if j=aG x m.name then 1 else 0) else 0
def twI(u v j:Nat):Int:=(if j=u then 1 else 0)-(if j=v then 1 else 0)
theorem IC(c:Prop)[Decidable c]:(((if c then 1 else 0:Int)):Rat)=if c then 1 else 0:=by split<;>rfl
theorem aCY(u v j:Nat):((twI u v j:Int):Rat)=two u v j:=by
 unfold twI two;rw[Rat.intCast_sub,IC,IC]
theorem aLP(x:bK)(m:Mi)(e:Nat)(b:Br):(mM x m e b).natAbs<=1:=by
 unfold mM;split
 ·split<;>decide
 ·split
  ·decide
  ·split<;>split<;>decide
theorem aLO(x:bK)(m:Mi)(j:Nat):(mN x m j).natAbs<=1:=by
 unfold mN;split
 ·decide
 ·split
  ·split<;>decide
  ·decide
theorem aHI(u v j:Nat):(twI u v j).natAbs<=1:=by unfold twI;split<;>split<;>decide
section
variable {x:bK}
theorem U8(ok:bJ x){b:Br}(hb:b∈x.brs){bus:Nat}{s:List Rat×Rat}(h1:s.1.length=aH x)(j:Nat):(mK bus (aG x b.fr) (aG x b.to) (dB b) (jD b) s).1.length=aH x/\vf (mK bus (aG x b.fr) (aG x b.to) (dB b) (jD b) s).1 j=vf s.1 j+(((if aG x b.fr=bus then 1 else 0)-(if aG x b.to=bus then 1 else 0):Int):Rat)*(dB b*two (aG x b.fr) (aG x b.to) j):=by
 have hu:=(bU ok (ok.br b hb).1).2.1;have hv:=(bU ok (ok.br b hb).2.1).2.1;have e1:vf (mY (sg false (dB b)) (aG x b.fr) (aG x b.to) s.1) j=vf s.1 j+dB b*two (aG x b.fr) (aG x b.to) j:=OB (by omega) (by omega) j;have step:∀{q:List Rat},q.length=aH x->vf (mY (sg true (dB b)) (aG x b.fr) (aG x b.to) q) j=vf q j-dB b*two (aG x b.fr) (aG x b.to) j:=fun{q} hq=>by
  rw[OB (by omega) (by omega)];unfold sg;simp only[if_true];grind
 have i1:((1:Int):Rat)=1:=rfl;have i0:((0:Int):Rat)=0:=rfl;rw[Rat.intCast_sub];unfold mK;dsimp only;by_cases c1:aG x b.fr=bus
 ·by_cases c2:aG x b.to=bus
  ·rw[if_pos c1,if_pos c2,if_pos c1,if_pos c2]
   refine⟨by rw[mX,mX];exact h1,?_⟩;rw[step (by rw[mX];exact h1),e1,i1];grind
  ·rw[if_pos c1,if_neg c2,if_pos c1,if_neg c2]
   refine⟨by rw[mX];exact h1,?_⟩;rw[e1,i1,i0];grind
 ·by_cases c2:aG x b.to=bus
  ·rw[if_neg c1,if_pos c2,if_neg c1,if_pos c2]
   refine⟨by rw[mX];exact h1,?_⟩;rw[step h1,i1,i0];grind
  ·rw[if_neg c1,if_neg c2,if_neg c1,if_neg c2]
   refine⟨h1,?_⟩;rw[i0];grind
theorem QR(ok:bJ x){bus:Nat}(j:Nat):∀(bs:List Br)(s:List Rat×Rat),(∀b∈bs,b∈x.brs)->s.1.length=aH x->
    vf (qH bus (bs.map dB) (bs.map jD) (bs.map fun b=>aG x b.fr) (bs.map fun b=>aG x b.to) s).1 j=vf s.1 j+NI (bs.map fun b=>(((if aG x b.fr=bus then 1 else 0)-(if aG x b.to=bus then 1 else 0):Int):Rat)*(dB b*two (aG x b.fr) (aG x b.to) j))
 | [],s,_,_=>by
  show vf s.1 j=vf s.1 j+NI [];unfold NI;rw[Rat.add_zero]
 | b::bs,s,h,h1=>by
  obtain⟨h2,h3⟩:=U8 ok (h b (by simp)) (bus:=bus) h1 j;have ih:=QR ok (bus:=bus) j bs _ (fun a ha=>h a (by simp[ha])) h2;simp only[List.map_cons];unfold qH;rw[ih,h3];show _=vf s.1 j+(_+NI _);rw[Rat.add_assoc]
theorem aI9(ok:bJ x)(hm:qU x m)(hj:j<aH x):vf (aS x m).1 j=aM x.brs.length (fun e=>match x.brs[e]? with | some b=>((mM x m e b:Int):Rat)*(dB b*two (aG x b.fr) (aG x b.to) j) | none=>0)+((mN x m j:Int):Rat):=by
 have i1:((1:Int):Rat)=1:=rfl;have i0:((0:Int):Rat)=0:=rfl;have hzl:(kT (aH x)).length=aH x:=qV;unfold aS mN;by_cases h0:m.kind=0
 ·rw[if_pos h0,if_pos h0]
  have h1:=hm.1 h0;rcases qS x m.name with⟨e,_⟩ | ⟨i,b,e,hb,_⟩
  ·omega
  ·obtain⟨a1,a2,a3,a4⟩:=jW hb
   have yV:=(cY.1 hb).1;have KE:=bS hb;have hu:=(bU ok (ok.br b KE).1).2.1;have hv:=(bU ok (ok.br b KE).2.1).2.1;have e1:(mV x m.name).toNat=i:=by omega
   simp only[e1,dH,kW a3,kW a4,a1,a2,Option.getD_some];rw[OB (by omega) (by omega),GE];rw[gH yV (fun e2 he2 cG=>by
    obtain⟨b2,bH⟩:∃b2,x.brs[e2]?=some b2:=⟨_,gS he2⟩;rw[bH];show((mM x m e2 b2:Int):Rat)*_=0;unfold mM;rw[if_pos h0,e1,if_neg cG,i0,Rat.zero_mul])]
   rw[hb];show _=((mM x m i b:Int):Rat)*_+_;unfold mM;rw[if_pos h0,e1,if_pos rfl,i1,i0];unfold sg;grind
 ·rw[if_neg h0,if_neg h0]
  by_cases h2:m.kind=2
  ·rw[if_pos h2,if_pos h2]
   rw[cM (fun e he=>by
    obtain⟨b2,bH⟩:∃b2,x.brs[e]?=some b2:=⟨_,gS he⟩;rw[bH];show((mM x m e b2:Int):Rat)*_=0;unfold mM;rw[if_neg h0,if_pos h2,i0,Rat.zero_mul])]
   have aWg:=(bU ok (hm.2 h0)).2.1;rw[CE (by rw[hzl];exact aWg),GE,IC,Rat.zero_add]
  ·rw[if_neg h2,if_neg h2]
   have e1:=mJ x;rw[e1.1,e1.2];have h3:=QR ok (bus:=aG x m.name) j x.brs (kT (aH x),0) (fun b hb=>hb) hzl;show vf (qH (aG x m.name) (x.brs.map dB) (x.brs.map jD) _ _ (kT (aH x),0)).1 j=_;rw[h3,<-aAf,GK (n:=x.brs.length) (by rw[iT])];show vf (kT (aH x)) j+_=_;rw[GE,Rat.zero_add,i0,Rat.add_zero];refine aJ fun e he=>?_;obtain⟨b2,bH⟩:∃b2,x.brs[e]?=some b2:=⟨_,gS he⟩;rw[kW (by rw[lT,bH];rfl),bH];show _=((mM x m e b2:Int):Rat)*_;unfold mM;rw[if_neg h0,if_neg h2]
def aK0(x:bK)(ms:List Mi):Aug where
 E:=x.brs.length
 X:=fun e=>match x.brs[e]? with | some b=>b.x*b.tap | none=>1
 tw:=fun e i=>match x.brs[e]? with | some b=>twI (aG x b.fr) (aG x b.to) ((aA x).getD i 0) | none=>0
 M:=fun k e=>match ms[k]?,x.brs[e]? with | some m,some b=>mM x m e b | _,_=>0
 N:=fun k i=>match ms[k]? with | some m=>mN x m ((aA x).getD i 0) | none=>0
 w:=fun k=>match ms[k]? with | some m=>m.wt | none=>1
def lsY(x:bK)(ms:List Mi)(y:Fn):Ls:=⟨(aA x).length,ms.length,fun k=>vf ((aP x ms).getD k []),XI ms,y⟩
theorem aNc(ok:bJ x)(hm:∀m∈ms,qU x m)(hw:∀m∈ms,1<=m.wt/\m.wt<=1000)(y:Fn):(aK0 x ms).Ok (lsY x ms y) where
 x:=fun e he=>by
  obtain⟨b,hb⟩:∃b,x.brs[e]?=some b:=⟨_,gS he⟩;have hX:(aK0 x ms).X e=b.x*b.tap:=by
   show(match x.brs[e]? with | some b=>b.x*b.tap | none=>1)=_;rw[hb]
  rw[hX];obtain⟨h1,h2,h3,h4,-⟩:=I1 (ok.br b (bS hb)).2.2.2;have h5:=Int.mul_le_mul h2 h4 (by omega) (by decide);have h6:=Int.mul_pos (show 0<b.x by omega) (show 0<b.tap by omega);omega
 t:=fun e i=>by
  show(match x.brs[e]? with | some b=>twI _ _ _ | none=>0).natAbs<=1;split
  ·exact aHI _ _ _
  ·decide
 m:=fun k e=>by
  show(match ms[k]?,x.brs[e]? with | some m,some b=>mM x m e b | _,_=>0).natAbs<=1;split
  ·exact aLP _ _ _ _
  ·decide
 n:=fun k i=>by
  show(match ms[k]? with | some m=>mN x m _ | none=>0).natAbs<=1;split
  ·exact aLO _ _ _
  ·decide
 w:=fun k vJ=>by
  obtain⟨m,wM⟩:∃m,ms[k]?=some m:=⟨_,gS vJ⟩;have h1:=hw m (bS wM);show 1<=(match ms[k]? with | some m=>m.wt | none=>1)/\_<=_/\XI ms k=_;rw[MQ wM];show 1<=(match ms[k]? with | some m=>m.wt | none=>1)/\(match ms[k]? with | some m=>m.wt | none=>1)<=1000/\(m.wt:Rat)=((match ms[k]? with | some m=>m.wt | none=>1:Int):Rat);rw[wM];exact⟨h1.1,h1.2,rfl⟩
 r:=fun k vJ i hi=>by
  obtain⟨m,wM⟩:∃m,ms[k]?=some m:=⟨_,gS vJ⟩;obtain⟨j,hj,-,hjb,-⟩:=YV (x:=x) hi;have h1:=C4 (x:=x) wM;show(jC x ms).R k i=_;rw[h1];have e1:vf (fM x (aS x m).1) i=vf (aS x m).1 j:=kW (by unfold fM;rw[lT,hj];rfl);rw[e1,aI9 ok (hm m (bS wM)) hjb];have e2:(aA x).getD i 0=j:=by rw[dH,hj];rfl
  congr 1
  ·refine aJ fun e he=>?_
   obtain⟨b,hb⟩:∃b,x.brs[e]?=some b:=⟨_,gS he⟩;show _=((match ms[k]?,x.brs[e]? with | some m,some b=>mM x m e b | _,_=>0:Int):Rat)*((1000000 / ((match x.brs[e]? with | some b=>b.x*b.tap | none=>1:Int):Rat))*((match x.brs[e]? with | some b=>twI (aG x b.fr) (aG x b.to) ((aA x).getD i 0) | none=>0:Int):Rat));rw[wM,hb,e2];show((mM x m e b:Int):Rat)*(dB b*two _ _ j)=((mM x m e b:Int):Rat)*((1000000 / ((b.x*b.tap:Int):Rat))*((twI _ _ j:Int):Rat));rw[aCY];unfold dB;rw[Rat.divInt_eq_div];rfl
  ·show _=((match ms[k]? with | some m=>mN x m ((aA x).getD i 0) | none=>0:Int):Rat)
   rw[wM,e2]
end
end
section
open Go.ChangeShapes Go.WideShapes Go.ChangeAt Go.RowKit
attribute [local go_sem ↓] aE
attribute [local go_sem] aL aK aO a_
def dQ(x:bK)(al:List Rat)(m:Mi):Mi:={ m with txt:=iU (yM x al m) }
def ExP(x:bK)(ms:List Mi)(ss:List ByteArray)(w:Wo)(e:Ending)(w':Wo):Prop:=Below w.heap.size w w'/\((kM x ms ss≠0/\e=.returned (.tuple #[.slice none 0 0,.int .i64 (kM x ms ss)]))\/
 (kM x ms ss=0/\((∀q∈fT x ms ss,cH q)->∃A c,e=.returned (.tuple #[.slice A ms.length c,.int .i64 0])/\dG w' w.heap.size (.slice A ms.length c) (ms.map (dQ x (ss.map kY))))/\(¬(∀q∈fT x ms ss,cH q)->e=.returned (.tuple #[.slice none 0 0,.int .i64 2]))))
theorem UY(h:bZ)(x:bK)(h8:x.nodes.length<=8)(A:OA)(n c:Nat)(ms:List Mi)(B:OA)(mm d:Nat)(ss:List ByteArray)(w:Wo)(r:cL w w.heap.size h x)(hm:eB w w.heap.size A n ms)(hR:bD w w.heap.size B mm ss)(hz:∀m∈ms,m.txt.size<=maxLen)(hs:∀s∈ss,s.size<=maxLen)(hn:n<=1000000)(qJ:mm<=9223372036854775807)(ht:fL w):Calls Tryz.prog 36 #[.agg h.cells,.slice A n c,.slice B mm d] w (ExP x ms ss w):=by
 have K0:=jO w (.cells h.cells 29);obtain⟨HK,P0,HM⟩:=dZ K0 (aD.new w 29 h.cells) (hm.bm K0);have lB:Hid (ms.length=n):=lH hm.1;have DS:=lH (aAO h x h8 A n c ms B mm d ss (w.alloc (.cells h.cells 29)) (r.up K0) HM.o (hR.bm K0) hz hs (by omega) qJ (ht.up K0));have eC:Hid (w.heap.size<=(w.alloc (.cells h.cells 29)).heap.size):=lH K0.size;have HEP:Hid (∀e w',ExP x ms ss w e w'<->(Below w.heap.size w w'/\((kM x ms ss≠0/\e=.returned (.tuple #[.slice none 0 0,.int .i64 (kM x ms ss)]))\/
 (kM x ms ss=0/\((∀q∈fT x ms ss,cH q)->∃A c,e=.returned (.tuple #[.slice A ms.length c,.int .i64 0])/\dG w' w.heap.size (.slice A ms.length c) (ms.map (dQ x (ss.map kY))))/\(¬(∀q∈fT x ms ss,cH q)->e=.returned (.tuple #[.slice none 0 0,.int .i64 2])))))):=lH fun e w'=>Iff.rfl
 have HRP:Hid (∀e w',aGh x ms ss (w.alloc (.cells h.cells 29)) e w'->(Below (w.alloc (.cells h.cells 29)).heap.size (w.alloc (.cells h.cells 29)) w'/\((kM x ms ss≠0/\e=.returned (.tuple #[.slice none 0 0,.int .i64 (kM x ms ss)]))\/
 (kM x ms ss=0/\((∀q∈fT x ms ss,cH q)->∃A n c,e=.returned (.tuple #[.slice A n c,.int .i64 0])/\bD w' w'.heap.size A n ((fT x ms ss).map iU)/\n<=c/\c<=maxLen)/\(¬(∀q∈fT x ms ss,cH q)->e=.returned (.tuple #[.slice none 0 0,.int .i64 2])))))):=lH fun e w' h=>h
 generalize kM x ms ss=re at *;clear K0 hm hR r ht hs hz;obtain⟨D0,r0,s0,D1,r1,s1,D2,r2,s2,D3,r3,s3,D4,r4,s4,D5,r5,s5⟩:=h;obtain⟨y0,y1,y2,y3,y4,y5,nf,nlt⟩:=aX P0.o;dsimp only at y0 y1 y2 y3 y4 y5;go_enter Tryz.func36,Tryz.ntmps36
 go_wp2_with fail
 generalize w.alloc (.cells (bZ.cells ⟨D0,r0,s0,D1,r1,s1,D2,r2,s2,D3,r3,s3,D4,r4,s4,D5,r5,s5⟩) 29)=W at *;refine DS.o.mono ?_;intro e w1 hh;obtain⟨bO,iH⟩:=HRP.o e w1 hh;have cI:=lH bO;clear hh bO y0 y1 y2 y3 y4 y5 nf nlt DS HRP;rcases iH with⟨QY,rfl⟩ | ⟨QY,BT,wP⟩
 ·have hB:(re != 0)=true:=by simp[QY]
  have HRE:=lH QY;clear QY;(go_wp2_with fail);go_ret2;rw[HEP.o];exact⟨HK.o.trans (cI.o.mono eC.o),.inl ⟨HRE.o,rfl⟩⟩
 ·subst QY
  by_cases hf:∀q∈fT x ms ss,cH q
  ·obtain⟨A2,n2,c2,rfl,yS,h21,h22⟩:=BT hf
   have HF:=lH hf;have HS:=lH yS;have iD:Hid (n2=n):=lH (by rw[<-yS.1,iT];unfold fT;rw[iT];exact lB.o);have Q4:=iD.o;subst Q4;clear hf BT wP yS;(go_wp2_with fail);refine(vO A n2 c ms w1 (HM.o.bm cI.o) hn).mono ?_;rintro e w2 ⟨bH,A3,c3,rfl,ho⟩;have dN:=cJ cI bH;have HO:Hid (dG w2 w1.heap.size (.slice A3 n2 c3) ms):=lH ho;have mZ:=lH (HS.o.bm bH);have OH:Hid (bD w2 w1.heap.size A2 n2 ((fT x ms ss).map iU)):=lH (HS.o.below bH lR);have JZ:Hid (w.heap.size<=w1.heap.size):=lH (by have h1:=eC.o;have h2:=cI.o.size;omega);have HZ2:Hid (w1.heap.size<=w2.heap.size):=lH bH.size;clear bH ho HS HM;(go_wp2_with fail)
   go_loopw [26] (fun v26 wr=>∃i:Nat,i<=n2/\v26=.int .i64 i/\dG wr w1.heap.size (.slice A3 n2 c3) ((ms.take i).map (dQ x (ss.map kY))++ms.drop i)/\Below w1.heap.size w2 wr) (fun v26 _=>n2-(intOf v26).toNat)
   case atStart=>exact⟨0,by omega,rfl,HO.o,bR⟩
   case round=>
    obtain⟨i,hi,rfl,ho,hb⟩:=hrel;have HO:=lH ho;have HB:=lH hb;clear ho hb;by_cases aR:i<n2
    ·obtain⟨mi,jZ⟩:∃mi,ms[i]?=some mi:=eE (by have:=lB.o;omega)
     have aQt:((ms.take i).map (dQ x (ss.map kY))++ms.drop i)[i]?=some mi:=by
      rw[BP (by rw[iT,jN];omega),iT,jN,List.getElem?_drop,show i+(i-min i ms.length)=i from by have:=lB.o;omega];exact jZ
     have EQ:Hid (ms.take (i+1)=ms.take i++[mi]):=lH (gJ jZ);obtain⟨g,hA,wO,E8,c0,c1,c2',c3',cf,QZ⟩:=HO.o.at_ aQt;subst hA;obtain⟨aB1,OX,BM⟩:=dZ QZ wO jZ;have hsr:=OH.o.below HB.o lR;have aL0:=hsr.more (b_ HZ2.o HB.o.size);obtain⟨sb,so,KF,JP⟩:=aL0.form (by omega);subst KF;have s0':=aL0.at_ (i:=i) (x:=iU (yM x (ss.map kY) mi)) (by rw[lT];unfold fT;rw[lT,jZ];rfl);have f_:(i:Int)<(n2:Int):=by omega
     have kO:=lZ i;have rR:=jM i;have kL:=lN i;have iR:Hid (n2-(i+1)<n2-i):=lH (by omega);clear c0 c1 c3' QZ aQt wO hsr aL0 jZ;(go_wp2_with fail);go_roundw
     case rel=>exact⟨i+1,aR,aQ kL.o,by
      have h:=aB1.o 2 (.string (iU (yM x (ss.map kY) mi))) (dQ x (ss.map kY) mi) (by decide) rfl;have e:((ms.take i).map (dQ x (ss.map kY))++ms.drop i).set i (dQ x (ss.map kY) mi)=(ms.take (i+1)).map (dQ x (ss.map kY))++ms.drop (i+1):=by
       have hl:((ms.take i).map (dQ x (ss.map kY))).length=i:=by rw[iT,jN];have:=lB.o;omega
       rw[List.set_append_right _ _ (by omega),hl,Nat.sub_self,EQ.o,List.map_append,List.map_singleton,List.append_assoc];congr 1
       rw[List.drop_eq_getElem_cons (by have:=lB.o;omega)];rfl
      rw[<-e];exact h,HB.o.setCell OX.o _⟩
     case measure=>exact iR.o
    ·have EH:i=n2:=by omega
     have ML:Hid (dG wr w.heap.size (.slice A3 n2 c3) (ms.map (dQ x (ss.map kY)))):=lH (by
      have h:=HO.o;rw[nT (by have:=lB.o;omega),List.drop_eq_nil_iff.2 (by have:=lB.o;omega),List.append_nil] at h;exact h.mono JZ.o)
     have f_:¬(i:Int)<(n2:Int):=by omega
     have HBE:=lH (HK.o.trans ((dN.o.trans (HB.o.mono cI.o.size)).mono eC.o));(go_wp2_with fail);go_ret2;rw[HEP.o];exact⟨HBE.o,.inr ⟨by trivial,fun _=>⟨A3,c3,by rw[lB.o];rfl,by rw[lB.o];exact ML.o⟩,fun h=>absurd HF.o h⟩⟩
  ·obtain rfl:=wP hf
   have HF:=lH hf;clear hf BT wP;(go_wp2_with fail);go_ret2;rw[HEP.o];exact⟨HK.o.trans (cI.o.mono eC.o),.inr ⟨by trivial,fun h=>absurd h HF.o,fun _=>rfl⟩⟩
end
section
open Go.ChangeShapes Go.WideShapes Go.ChangeAt Go.RowKit
def aZg(_:Value):Prop:=True
def xZ(w:Wo)(base:Nat)(v:Value)(ss:List ByteArray):Prop:=bB aZg w base 55 1 v ss.length (fC ss)
theorem xZ.keep(h:xZ w base v ss)(hb:Below w.heap.size w w'):xZ w' base v ss:=bB.keep h hb
theorem xZ.rd(h:xZ w base (.slice A n c) ss):bD w w.heap.size A n ss:=by
 obtain⟨A',c',hv,hr,-⟩:=oV h.own;injection hv with e1 e2 e3;subst e1;subst e2;exact⟨rfl,hr⟩
theorem xZ.at_{s:ByteArray}(h:xZ w base (.slice A n c) ss)(hm:ss[i]?=some s):∃g,A=some ⟨g,0,none⟩/\base<=g/\g<w.heap.size/\w.cell? ⟨g,i,none⟩=some (.string s)/\(∀o,w.frozen? ⟨g,o,none⟩=false)/\
    ∀(s':ByteArray),xZ (w.setCell ⟨g,i,none⟩ (.string s')) base (.slice A n c) (ss.set i s'):=by
 have hi:=(cY.1 hm).1;unfold xZ at h;rcases h.2 with⟨h1,h2⟩ | ⟨g,cap,cur,h1,h2,hb,h4,h5,h6,h7,h8⟩
 ·omega
 ·have hc:w.cell? ⟨g,i,none⟩=some (.string s):=by
   rw[hb.cell];have:(fC ss)[i]?=some (.string s):=by unfold fC;rw[lT,hm];rfl
   rw[<-h7,List.getElem?_take] at this;split at this
   ·rwa[Array.getElem?_toList] at this
   ·cases this
  injection h1 with e1 e2 e3;refine⟨g,e1,h2,hb.lt,hc,fun o=>hb.frozen o,fun s'=>?_⟩;unfold xZ;have e:fC (ss.set i s')=(fC ss).set i (.string s'):=List.map_set;rw[kV,e];refine⟨by rw[kV];exact h.1,.inr ⟨g,cap,cur.setIfInBounds i (.string s'),by rw[e1,e2,e3],h2,hb.set_ _ _,h4,h5,by rw[Array.size_setIfInBounds];exact h6,?_,fun _ _=>trivial⟩⟩;rw[Array.toList_setIfInBounds,kX _ _ _ _ (by omega),h7]
end
section
def Zt(D:Int)(H:Nat)(q:Rat):Prop:=∃z:Int,q*(D:Rat)=(z:Rat)/\z.natAbs<=H
theorem Zt.more{D:Int}{H':Nat}{q:Rat}(h:Zt D H q)(hh:H<=H'):Zt D H' q:=by
 obtain⟨z,h1,h2⟩:=h;exact⟨z,h1,b_ h2 hh⟩
theorem Zt.add{D:Int}{H':Nat}{q:Rat}(hp:Zt D H p)(hq:Zt D H' q):Zt D (H+H') (p+q):=by
 obtain⟨a,h1,h2⟩:=hp;obtain⟨b,h3,h4⟩:=hq;refine⟨a+b,by rw[Rat.add_mul,h1,h3,Rat.intCast_add],?_⟩;have:=Int.natAbs_add_le a b;omega
theorem Zt.int(z:Int):Zt 1 z.natAbs (z:Rat):=⟨z,by rw[show((1:Int):Rat)=1 from rfl,Rat.mul_one],lR⟩
theorem Zt.zero(D:Int):Zt D 0 0:=⟨0,by rw[Rat.zero_mul];rfl,lR⟩
theorem Zt.fits{D:Int}{a:Nat}{q:Rat}(h:Zt D H q)(h0:D≠0)(h1:H<=lI a)(h2:D.natAbs<=lI b)(ha:a<2000)(hb:b<2000):cH q:=by
 obtain⟨z,h3,h4⟩:=h;have key:∀(D:Nat)(z:Int),q*(((D:Nat):Int):Rat)=(z:Rat)->D≠0->z.natAbs<=H->D<=lI b->cH q:=fun D z h3 h0 h4 h2=>by
  have cG:((D:Int):Rat)≠0:=by
   intro e;have:((D:Int):Rat)=((0:Int):Rat):=e;rw[Rat.intCast_inj] at this;omega
  have e:q=Rat.divInt z D:=by
   rw[Rat.divInt_eq_div,<-h3,Rat.mul_div_cancel cG]
  have hp:∀{c k:Nat},c<k->lI c<10^k:=fun hc=>Nat.pow_lt_pow_right (by decide) hc;have ht:Tn 2000 q:=by
   rw[e];exact aAb h0 (zT_ (b_ h4 h1) (hp (k:=2000) ha)) (zT_ h2 (hp (k:=2000) hb))
  exact ht.fits lR
 by_cases hd:0<=D
 ·refine key D.natAbs z ?_ (by omega) h4 h2
  rw[Int.natAbs_of_nonneg hd];exact h3
 ·refine key D.natAbs (-z) ?_ (by omega) (by rw[Int.natAbs_neg];exact h4) h2
  have e:((D.natAbs:Nat):Int)=-D:=by omega
  rw[e,Rat.intCast_neg,Rat.intCast_neg,<-h3];grind
section
variable {x:bK} {ms:List Mi}
structure Sml (x:bK) (ms:List Mi):Prop where
 ok:bJ x
 h8:x.nodes.length<=8
 h10:x.brs.length<=10
 k8:ms.length<=8
 mi:∀m∈ms,qU x m
 tn:∀m∈ms,Tn 25 (kY m.txt)
 wt:∀m∈ms,1<=m.wt/\m.wt<=1000
theorem aFP{q:Rat}{l:List Rat}(h:q∈l):q.den∣R1 x l:=by
 unfold R1;exact Nat.dvd_trans (RZ h) (Nat.dvd_trans (Nat.dvd_mul_left _ _) (Nat.dvd_mul_right _ _))
theorem aBt{l:List Rat}:rT x.brs*1000∣R1 x l:=by
 unfold R1;exact⟨N2 l,by rw[Nat.mul_right_comm]⟩
def TQ(x:bK)(ms:List Mi):Nat:=R1 x (ms.map fun m=>kY m.txt)
theorem Sml.vD(h:Sml x ms):TQ x ms≠0/\TQ x ms<=lI 283:=by
 have h1:=V1 (al:=ms.map fun m=>kY m.txt) h.ok h.h10 (fun q hq=>by obtain⟨m,hm,rfl⟩:=List.mem_map.1 hq;exact h.tn m hm) (by rw[iT];exact h.k8);unfold TQ lI;exact h1
theorem Sml.val(h:Sml x ms)(hk:k<ms.length):Ot (TQ x ms) (10^25+80000) (yF x ms k):=by
 obtain⟨m,hm⟩:∃m,ms[k]?=some m:=⟨_,gS hk⟩;have qJ:=bS hm;unfold yF;rw[hm];have h1:=UK (aPs (h.tn m qJ)) (aFP (x:=x) (List.mem_map.2 ⟨m,qJ,rfl⟩:kY m.txt∈ms.map fun m=>kY m.txt));have h2:=UK (UJ (aFv h.ok h.h10 (h.mi m qJ)).fr) (aBt (x:=x) (l:=ms.map fun m=>kY m.txt));have h3:=ND h1 h2;show Ot _ _ (kY m.txt-(aS x m).2);rw[Rat.sub_eq_add_neg];exact h3
theorem Sml.short(h:Sml x ms)(hr:o5 x ms){y a:Fn}(ha:(lsY x ms y).Sol a){V:Rat}(hB:1<=B){Y:Nat->Int}(hY:∀k,k<ms.length->y k*V=(Y k:Rat))(hYB:∀k,k<ms.length->(Y k).natAbs<=B):∃t:Int,t≠0/\t.natAbs<=lI 396/\(∀i,i<(aA x).length->∃z:Int,z.natAbs<=B*lI 396/\V*a i*(t:Rat)=(z:Rat))/\∀k,k<ms.length->∃z:Int,z.natAbs<=B*lI 396/\V*(lsY x ms y).res a k*(t:Rat)=(z:Rat):=
 (aNc h.ok h.mi h.wt y).short (fN h.ok h.h8) h.h10 h.k8 ((AY fun m hm=>(h.wt m hm).1).1 hr) ha hB hY hYB
theorem Sml.own(h:Sml x ms)(hr:o5 x ms):∃D:Int,D≠0/\D.natAbs<=lI 679/\(∀i,i<(aA x).length->Zt D (lI 706) (mR x ms i))/\∀k,k<ms.length->Zt D (lI 706) ((jC x ms).res (mR x ms) k):=by
 obtain⟨h1,h2⟩:=h.vD;have hv:∀k,∃z:Int,k<ms.length->yF x ms k*((TQ x ms:Int):Rat)=(z:Rat)/\z.natAbs<=lI 310:=fun k=>by
  by_cases hk:k<ms.length
  ·obtain⟨z,h3,h4⟩:=h.val hk
   refine⟨z,fun _=>⟨h3,b_ h4 ?_⟩⟩;have h5:10^25+80000<=lI 26:=by decide
   exact b_ (Nat.mul_le_mul h5 h2) (aC1 (by decide))
  ·exact⟨0,fun e=>absurd e hk⟩
 have hB:1<=lI 310:=aPn _;obtain⟨t,h3,h4,h5,h6⟩:=h.short hr (y:=yF x ms) (a:=mR x ms) (Y1 hr) (V:=((TQ x ms:Int):Rat)) (B:=lI 310) hB (Y:=fun k=>(hv k).choose) (fun k hk=>((hv k).choose_spec hk).1) (fun k hk=>((hv k).choose_spec hk).2);have h7:lI 310*lI 396<=lI 706:=aC1 (by decide);refine⟨(TQ x ms:Int)*t,?_,?_,fun i hi=>?_,fun k hk=>?_⟩
 ·intro e
  rcases Int.mul_eq_zero.1 e with e | e
  ·omega
  ·exact h3 e
 ·rw[Int.natAbs_mul,Int.natAbs_natCast]
  exact b_ (Nat.mul_le_mul h2 h4) (aC1 (by decide))
 ·obtain⟨z,e1,e2⟩:=h5 i hi
  exact⟨z,by rw[Rat.intCast_mul,<-e2];grind,b_ e1 h7⟩
 ·obtain⟨z,e1,e2⟩:=h6 k hk
  refine⟨z,?_,b_ e1 h7⟩;have e3:(lsY x ms (yF x ms)).res (mR x ms) k=(jC x ms).res (mR x ms) k:=rfl;rw[e3] at e2;rw[Rat.intCast_mul,<-e2];grind
end
end
section
open Go.ChangeShapes Go.WideShapes Go.ChangeAt Go.RowKit
attribute [local go_sem ↓] aE
attribute [local go_sem] aL aK aO a_
def sA:Array Value->Nat->List Value->Array Value
 | c,_,[]=>c
 | c,o,v::vs=>sA (c.setIfInBounds o v) (o+1) vs
theorem pO:∀(vs:List Value)(c:Array Value)(o:Nat),(sA c o vs).size=c.size
 | [],c,o=>rfl
 | v::vs,c,o=>by unfold sA;rw[pO vs,Array.size_setIfInBounds]
theorem vY:∀(vs:List Value)(c:Array Value)(o:Nat),o+vs.length<=c.size->(sA c o vs).toList=c.toList.take o++vs++c.toList.drop (o+vs.length)
 | [],c,o,h=>by
  show c.toList=_;rw[List.append_nil,zW_,Nat.add_zero,List.take_append_drop]
 | v::vs,c,o,h=>by
  rw[EX] at h;unfold sA;rw[vY vs _ (o+1) (by rw[Array.size_setIfInBounds];omega),Array.toList_setIfInBounds];have hl:o<c.toList.length:=by rw[Array.length_toList];omega
  have e1:(c.toList.set o v).take (o+1)=c.toList.take o++[v]:=by
   rw[List.set_eq_take_append_cons_drop,if_pos hl];rw[show o+1=(c.toList.take o).length+1 by rw[jN];omega,List.take_length_add_append];rfl
  have e2:(c.toList.set o v).drop (o+1+vs.length)=c.toList.drop (o+(v::vs).length):=by
   rw[List.drop_set_of_lt (by omega),EX];congr 1
   omega
  rw[e1,e2,List.append_assoc,List.append_assoc,List.append_assoc];rfl
theorem mW{t:Nat}:∀(vs:List Value)(o:Nat)(w:Wo)(c:Array Value),aD w g t c->aD (w.setCells g o vs) g t (sA c o vs)
 | [],o,w,c,h=>h
 | v::vs,o,w,c,h=>by
  show aD ((w.setCell ⟨g,o,none⟩ v).setCells g (o+1) vs) g t (sA (c.setIfInBounds o v) (o+1) vs);exact mW vs (o+1) _ _ (h.set_ o v)
theorem uZ:∀(vs:List Value)(o:Nat)(w:Wo),Below g w (w.setCells g o vs)
 | [],o,w=>bR
 | v::vs,o,w=>((Below.refl g w).setCell lR v).trans (uZ vs (o+1) _)
theorem uY(hb:b≠g):∀(vs:List Value)(o:Nat)(w:Wo),(w.setCells g o vs).heap[b]?=w.heap[b]?
 | [],o,w=>rfl
 | v::vs,o,w=>by
  show((w.setCell ⟨g,o,none⟩ v).setCells g (o+1) vs).heap[b]?=w.heap[b]?;rw[uY hb vs];simp[World.setCell,Array.getElem?_modify,Ne.symm hb]
section
variable {P:Program}
theorem xT(w:Wo)(t e ty:TypeId)(z:Value)(ht:P.underlying t=some (.slice e))(hv:∀w,(zeroValue e).run P w=.ok z w)(h1:∀u∈z.cells.toList,u.oneCell'=true)(b o c:Nat)(hc:∀j,j<z.cells.size->(w.cell? ⟨b,o+j,none⟩).isSome=true)(hf:∀j,j<z.cells.size->w.frozen? ⟨b,o+j,none⟩=false):(Builtin.clear_ #[t] ty #[.slice (some ⟨b,o,none⟩) 1 c]).run P w=.ok (.tuple #[]) (w.setCells b o z.cells.toList):=by
 have hzc:(Builtin.zeroCells z.cells 1).toList=z.cells.toList:=by
  apply List.ext_getElem?;intro i;unfold Builtin.zeroCells;rw[Array.toList_map,Array.toList_range,lT,Nat.one_mul];by_cases hi:i<z.cells.size
  ·rw[List.getElem?_range hi,Option.map_some,Nat.mod_eq_of_lt hi,getElem!_pos z.cells i hi,Array.getElem?_toList,Array.getElem?_eq_getElem hi]
  ·rw[List.getElem?_eq_none (by rw[List.length_range];omega),List.getElem?_eq_none (by rw[Array.length_toList];omega)]
   rfl
 have JO:=run_storeCells_cells (P:=P) b o z.cells.toList 0 w (by simpa using hc) (by simpa using hf) h1;simp only[Nat.add_zero] at JO;simp[Builtin.clear_,run_underlying ht,hv,hzc,JO]
end
def aOh(g T size n cap k:Nat)(cur:Array Value)(zc:List Value)(w:Wo)(e:Ending)(w':Wo):Prop:=
 e=.returned (.slice (some ⟨g,0,none⟩) (n-1) cap)/\∃cur',aD w' g T cur'/\cur'.size=cur.size/\cur'.toList.take ((n-1)*size)=cur.toList.take (k*size)++(cur.toList.take (n*size)).drop ((k+1)*size)/\(∀u∈cur'.toList,u∈cur.toList\/u∈zc)/\(∀b,b<w.heap.size->b≠g->w'.heap[b]?=w.heap[b]?)/\Below g w w'
theorem L3{size cap:Nat}{cur:Array Value}{news zc:List Value}(hs:cur.size=cap*size)(hk:k<n)(hn:n<=cap)(jH:news=(cur.toList.take (n*size)).drop ((k+1)*size))(hz:zc.length=size):news.length=(n-(k+1))*size/\k*size+news.length<=cur.size/\(n-1)*size+zc.length<=(sA cur (k*size) news).size/\(sA (sA cur (k*size) news) ((n-1)*size) zc).toList.take ((n-1)*size)=cur.toList.take (k*size)++news/\∀u∈(sA (sA cur (k*size) news) ((n-1)*size) zc).toList,u∈cur.toList\/u∈zc:=by
 have a1:n*size<=cap*size:=Nat.mul_le_mul_right _ hn;have a2:(k+1)*size<=n*size:=Nat.mul_le_mul_right _ (by omega);have a3:(n-(k+1))*size=n*size-(k+1)*size:=Nat.mul_sub_right_distrib _ _ _;have a4:(k+1)*size=k*size+size:=by rw[Nat.add_mul,Nat.one_mul]
 have a5:(n-1)*size+size=n*size:=by rw[<-Nat.succ_mul];congr 1;omega
 have l1:news.length=(n-(k+1))*size:=by
  rw[jH,J2,jN,Array.length_toList,hs,Nat.min_eq_left a1,a3]
 have l2:k*size+news.length<=cur.size:=by rw[l1,hs];omega
 have l3:(n-1)*size+zc.length<=(sA cur (k*size) news).size:=by rw[pO,hs,hz];omega
 have hm:k*size<=cur.toList.length:=by rw[Array.length_toList];omega
 have bO:=vY news cur (k*size) l2;have l4:(cur.toList.take (k*size)++news).length=(n-1)*size:=by
  rw[g_,jN,Nat.min_eq_left hm,l1];omega
 refine⟨l1,l2,l3,?_,fun u hu=>?_⟩
 ·rw[vY _ _ _ l3,bO,List.append_assoc _ zc,List.take_append_of_le_length (by rw[jN,g_,l4];omega),List.take_take,Nat.min_self,<-l4]
  exact List.take_left
 ·rw[vY _ _ _ l3,List.mem_append,List.mem_append] at hu
  have key:∀u∈(sA cur (k*size) news).toList,u∈cur.toList:=fun u hu=>by
   rw[bO,List.mem_append,List.mem_append] at hu;rcases hu with(hu | hu) | hu
   ·exact List.mem_of_mem_take hu
   ·rw[jH] at hu
    exact List.mem_of_mem_take (List.mem_of_mem_drop hu)
   ·exact List.mem_of_mem_drop hu
  rcases hu with(hu | hu) | hu
  ·exact .inl (key u (List.mem_of_mem_take hu))
  ·exact .inr hu
  ·exact .inl (key u (List.mem_of_mem_drop hu))
theorem aA1:(Tryz.prog.info? 3).map (fun i=>(i.zero,i.size))=some (some (.int .i64 0),1):=by kernel_rfl
theorem Z4(w:Wo):(zeroValue 3).run Tryz.prog w=.ok (.int .i64 0) w:=by kernel_rfl
theorem aFR(g n cap k:Nat)(cur:Array Value)(w:Wo)(hb:aD w g 3 cur)(RF:cur.size=cap*1)(hn:n<=cap)(hk:k<n)(KD:cap<=maxLen)(h1:∀u∈cur.toList.take (n*1),u.oneCell'=true):Calls Tryz.prog 75 #[.slice (some ⟨g,0,none⟩) n cap,.int .i64 k,.int .i64 ((k:Int)+1)] w (aOh g 3 1 n cap k cur [.int .i64 0] w):=by
 obtain⟨i,hi,aMy⟩:=Option.map_eq_some_iff.1 aA1;injection aMy with KC EI;obtain⟨news,jH⟩:∃news,news=(cur.toList.take (n*1)).drop ((k+1)*1):=⟨_,rfl⟩;obtain⟨d1,d2,d3,d4,d5⟩:=L3 (zc:=[.int .i64 0]) RF hk hn jH rfl;have E9:∀t u,news[t]?=some u->cur[(k+1)*1+t]?=some u:=fun t u hu=>by
  rw[jH,List.getElem?_drop,List.getElem?_take] at hu;split at hu
  ·rw[<-Array.getElem?_toList];exact hu
  ·cases hu
 obtain⟨A,hA,q_⟩:∃A:Addr,(if cap=k+1 then(some ⟨g,0,none⟩:OA) else some ⟨g,(k+1)*1,none⟩)=some A/\Hid (∀t u,news[t]?=some u->w.drew.cell? (A.add t)=some u):=by
  by_cases h:cap=k+1
  ·refine⟨⟨g,0,none⟩,by rw[if_pos h],fun t u hu=>?_⟩
   have h0 : news.length = 0 := by
    rw[d1]; have : n - (k + 1) = 0 := by omega
    rw[this,Nat.zero_mul]
   rw[List.length_eq_zero_iff.1 h0] at hu;simp at hu
  ·refine⟨⟨g,(k+1)*1,none⟩,by rw[if_neg h],fun t u hu=>?_⟩
   rw[Addr.add_lit];show w.cell? ⟨g,(k+1)*1+t,none⟩=some u;rw[hb.cell];exact E9 t u hu
 have KF:=hA
 try simp only[Nat.mul_one] at KF
 have s1:Hid (news.length=(n-(k+1))*1):=d1;have s2:Hid (∀u∈news,u.oneCell'=true):=fun u hu=>by
  rw[jH] at hu;exact h1 u (List.mem_of_mem_drop hu)
 have s3:Hid (∀t,t<news.length->(w.drew.cell? ⟨g,0+k*1+t,none⟩).isSome=true/\w.drew.frozen? ⟨g,0+k*1+t,none⟩=false):=fun t ht=>by
  rw[Nat.zero_add];refine⟨?_,hb.frozen _⟩;show(w.cell? ⟨g,k*1+t,none⟩).isSome=true;rw[hb.cell,Array.getElem?_eq_getElem (by omega)];rfl
 obtain⟨W1,hW1⟩:∃W1,W1=w.drew.setCells g (0+k*1) news:=⟨_,rfl⟩;have HW1:=lH hW1;have cI:Hid (aD W1 g 3 (sA cur (k*1) news)):=lH (by
  rw[hW1,Nat.zero_add];exact mW news _ _ _ hb)
 have HZC:Hid (∀ty,(Builtin.clear_ #[30] ty #[.slice (some ⟨g,(n-1)*1,none⟩) 1 (cap-(n-1))]).run Tryz.prog W1=.ok (.tuple #[]) (W1.setCells g ((n-1)*1) [.int .i64 0])):=lH fun ty=>
  xT W1 30 3 ty (.int .i64 0) Tryz.underlying30 Z4 (by intro u hu;simp[Value.cells] at hu;rcases hu with rfl | rfl | rfl | rfl<;>rfl) g ((n-1)*1) _ (fun j hj=>by
   rw[cI.o.cell,Array.getElem?_eq_getElem (by have:j<1:=hj;have e:([.int .i64 0]:List Value).length=1:=rfl;omega)];rfl) (fun j hj=>cI.o.frozen _)
 obtain⟨HD4,HD5,HS,HB,HNW⟩:=iS d4 d5 RF hb jH;have hkc:k<=cap:=by omega
 have NT:k+1<=cap:=by omega
 clear hW1 E9 jH d1 d2 d3 d4 d5 hb h1 RF;have uO:(cap:Int)<=9223372036854775807:=by unfold maxLen at KD;omega
 have hnI:(n:Int)<=9223372036854775807:=by omega
 have kO:=lZ k;have aIR:(0:Int)<=(k:Int)+1:=by omega
 have aVv:(k:Int)<=(k:Int)+1:=by omega
 have aMr:(k:Int)+1<=(n:Int):=by omega
 have aVc:(n:Int)<=(cap:Int):=by omega
 have aVw:(k:Int)<=(cap:Int):=by omega
 have aQD:(k:Int)+1<=(cap:Int):=by omega
 have rR:=jM k;have aVu:((k:Int)+1).toNat=k+1:=by omega
 have cG:((k:Int) == (k:Int)+1)=false:=by simp;omega
 have LO:=jM n;go_enter Tryz.func75,Tryz.ntmps75
 go_wp2_with fail
 go_region_law (refine step_append_room rfl (.tmp 22) (.tmp 25) 30 rfl 3 i 1 Tryz.underlying30 hi EI g 0 k cap (by simp[Act.eval,Act.put]) A (n-(k+1)) (cap-(k+1)) news (by simp[Act.eval,Act.put,KF]) s1.out q_.out s2.out (by omega) s3.out ?_;rw[<-HW1.o])
 go_wp2_with fail
 have e1:k+(n-(k+1))=n-1:=by omega
 have e2:n-(n-1)=1:=by omega
 have hz:=HZC.o 0
 try simp only[Nat.mul_one] at hz
 simp only[e1,e2];rw[hz]
 go_wp2_with fail
 go_ret;refine⟨rfl,sA (sA cur (k*1) news) ((n-1)*1) [.int .i64 0],?_,by rw[pO,pO],by rw[<-HNW.o];exact HD4.o,HD5.o,fun b hb cG=>?_,?_⟩
 ·have h:=mW [.int .i64 0] ((n-1)*1) _ _ cI.o
  try simp only[Nat.mul_one] at h ⊢
  exact h
 ·rw[uY cG,HW1.o,uY cG]
  rfl
 ·refine Below.trans ?_ (uZ _ _ _)
  rw[HW1.o];exact Below.trans (aI bR) (uZ _ _ _)
theorem aA0:(Tryz.prog.info? 57).map (fun i=>(i.zero,i.size))=some (some (.agg #[.int .i64 0,.string ⟨#[]⟩,.string ⟨#[]⟩,.int .i64 0]),4):=by kernel_rfl
theorem Z3(w:Wo):(zeroValue 57).run Tryz.prog w=.ok (.agg #[.int .i64 0,.string ⟨#[]⟩,.string ⟨#[]⟩,.int .i64 0]) w:=by kernel_rfl
theorem aFQ(g n cap k:Nat)(cur:Array Value)(w:Wo)(hb:aD w g 57 cur)(RF:cur.size=cap*4)(hn:n<=cap)(hk:k<n)(KD:cap<=maxLen)(h1:∀u∈cur.toList.take (n*4),u.oneCell'=true):Calls Tryz.prog 76 #[.slice (some ⟨g,0,none⟩) n cap,.int .i64 k,.int .i64 ((k:Int)+1)] w (aOh g 57 4 n cap k cur [.int .i64 0,.string ⟨#[]⟩,.string ⟨#[]⟩,.int .i64 0] w):=by
 obtain⟨i,hi,aMy⟩:=Option.map_eq_some_iff.1 aA0;injection aMy with KC EI;obtain⟨news,jH⟩:∃news,news=(cur.toList.take (n*4)).drop ((k+1)*4):=⟨_,rfl⟩;obtain⟨d1,d2,d3,d4,d5⟩:=L3 (zc:=[.int .i64 0,.string ⟨#[]⟩,.string ⟨#[]⟩,.int .i64 0]) RF hk hn jH rfl;have E9:∀t u,news[t]?=some u->cur[(k+1)*4+t]?=some u:=fun t u hu=>by
  rw[jH,List.getElem?_drop,List.getElem?_take] at hu;split at hu
  ·rw[<-Array.getElem?_toList];exact hu
  ·cases hu
 obtain⟨A,hA,q_⟩:∃A:Addr,(if cap=k+1 then(some ⟨g,0,none⟩:OA) else some ⟨g,(k+1)*4,none⟩)=some A/\Hid (∀t u,news[t]?=some u->w.drew.cell? (A.add t)=some u):=by
  by_cases h:cap=k+1
  ·refine⟨⟨g,0,none⟩,by rw[if_pos h],fun t u hu=>?_⟩
   have h0 : news.length = 0 := by
    rw[d1]; have : n - (k + 1) = 0 := by omega
    rw[this,Nat.zero_mul]
   rw[List.length_eq_zero_iff.1 h0] at hu;simp at hu
  ·refine⟨⟨g,(k+1)*4,none⟩,by rw[if_neg h],fun t u hu=>?_⟩
   rw[Addr.add_lit];show w.cell? ⟨g,(k+1)*4+t,none⟩=some u;rw[hb.cell];exact E9 t u hu
 have KF:=hA
 try simp only[Nat.mul_one] at KF
 have s1:Hid (news.length=(n-(k+1))*4):=d1;have s2:Hid (∀u∈news,u.oneCell'=true):=fun u hu=>by
  rw[jH] at hu;exact h1 u (List.mem_of_mem_drop hu)
 have s3:Hid (∀t,t<news.length->(w.drew.cell? ⟨g,0+k*4+t,none⟩).isSome=true/\w.drew.frozen? ⟨g,0+k*4+t,none⟩=false):=fun t ht=>by
  rw[Nat.zero_add];refine⟨?_,hb.frozen _⟩;show(w.cell? ⟨g,k*4+t,none⟩).isSome=true;rw[hb.cell,Array.getElem?_eq_getElem (by omega)];rfl
 obtain⟨W1,hW1⟩:∃W1,W1=w.drew.setCells g (0+k*4) news:=⟨_,rfl⟩;have HW1:=lH hW1;have cI:Hid (aD W1 g 57 (sA cur (k*4) news)):=lH (by
  rw[hW1,Nat.zero_add];exact mW news _ _ _ hb)
 have HZC:Hid (∀ty,(Builtin.clear_ #[31] ty #[.slice (some ⟨g,(n-1)*4,none⟩) 1 (cap-(n-1))]).run Tryz.prog W1=.ok (.tuple #[]) (W1.setCells g ((n-1)*4) [.int .i64 0,.string ⟨#[]⟩,.string ⟨#[]⟩,.int .i64 0])):=lH fun ty=>
  xT W1 31 57 ty (.agg #[.int .i64 0,.string ⟨#[]⟩,.string ⟨#[]⟩,.int .i64 0]) Tryz.underlying31 Z3 (by intro u hu;simp[Value.cells] at hu;rcases hu with rfl | rfl | rfl | rfl<;>rfl) g ((n-1)*4) _ (fun j hj=>by
   rw[cI.o.cell,Array.getElem?_eq_getElem (by have:j<4:=hj;have e:([.int .i64 0,.string ⟨#[]⟩,.string ⟨#[]⟩,.int .i64 0]:List Value).length=4:=rfl;omega)];rfl) (fun j hj=>cI.o.frozen _)
 obtain⟨HD4,HD5,HS,HB,HNW⟩:=iS d4 d5 RF hb jH;have hkc:k<=cap:=by omega
 have NT:k+1<=cap:=by omega
 clear hW1 E9 jH d1 d2 d3 d4 d5 hb h1 RF;have uO:(cap:Int)<=9223372036854775807:=by unfold maxLen at KD;omega
 have hnI:(n:Int)<=9223372036854775807:=by omega
 have kO:=lZ k;have aIR:(0:Int)<=(k:Int)+1:=by omega
 have aVv:(k:Int)<=(k:Int)+1:=by omega
 have aMr:(k:Int)+1<=(n:Int):=by omega
 have aVc:(n:Int)<=(cap:Int):=by omega
 have aVw:(k:Int)<=(cap:Int):=by omega
 have aQD:(k:Int)+1<=(cap:Int):=by omega
 have rR:=jM k;have aVu:((k:Int)+1).toNat=k+1:=by omega
 have cG:((k:Int) == (k:Int)+1)=false:=by simp;omega
 have LO:=jM n;go_enter Tryz.func76,Tryz.ntmps76
 go_wp2_with fail
 go_region_law (refine step_append_room rfl (.tmp 22) (.tmp 25) 31 rfl 57 i 4 Tryz.underlying31 hi EI g 0 k cap (by simp[Act.eval,Act.put]) A (n-(k+1)) (cap-(k+1)) news (by simp[Act.eval,Act.put,KF]) s1.out q_.out s2.out (by omega) s3.out ?_;rw[<-HW1.o])
 go_wp2_with fail
 have e1:k+(n-(k+1))=n-1:=by omega
 have e2:n-(n-1)=1:=by omega
 have hz:=HZC.o 0
 try simp only[Nat.mul_one] at hz
 simp only[e1,e2];rw[hz]
 go_wp2_with fail
 go_ret;refine⟨rfl,sA (sA cur (k*4) news) ((n-1)*4) [.int .i64 0,.string ⟨#[]⟩,.string ⟨#[]⟩,.int .i64 0],?_,by rw[pO,pO],by rw[<-HNW.o];exact HD4.o,HD5.o,fun b hb cG=>?_,?_⟩
 ·have h:=mW [.int .i64 0,.string ⟨#[]⟩,.string ⟨#[]⟩,.int .i64 0] ((n-1)*4) _ _ cI.o
  try simp only[Nat.mul_one] at h ⊢
  exact h
 ·rw[uY cG,HW1.o,uY cG]
  rfl
 ·refine Below.trans ?_ (uZ _ _ _)
  rw[HW1.o];exact Below.trans (aI bR) (uZ _ _ _)
end
