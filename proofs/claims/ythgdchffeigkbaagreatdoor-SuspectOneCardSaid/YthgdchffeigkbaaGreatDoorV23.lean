import Derived.Test.YthgdchffeigkbaaGreatDoorV21
set_option linter.unusedVariables false
set_option linter.unusedSimpArgs false
namespace Go.Proofs.YthgdchffeigkbaaGreatDoor
set_option maxHeartbeats 4000000
set_option maxRecDepth 100000
variable {B D n : Nat} {b : Br} {x : bO}
section
open Go.ChangeShapes Go.WideShapes Go.ChangeAt Go.RowKit
attribute [local go_sem ↓] aE
attribute [local go_sem] aJ aI aM aR
def mU(x:bO)(al:List Rat)(m:Mi):Rat:=jJ (aS x m).1 al+(aS x m).2
def eT(x:bO)(ms:List Mi)(ss:List ByteArray):List Rat:=ms.map (mU x (ss.map gC))
def iZ(x:bO)(ms:List Mi)(ss:List ByteArray):Int:=if dJ x ms≠0 then dJ x ms else YF ss.length (aH x) ss
def aHe(x:bO)(ms:List Mi)(ss:List ByteArray)(w:Wo)(e:Ending)(w':Wo):Prop:=Below w.heap.size w w'/\((iZ x ms ss≠0/\e=.returned (.tuple #[.slice none 0 0,.int .i64 (iZ x ms ss)]))\/
 (iZ x ms ss=0/\((∀q∈eT x ms ss,bP q)->∃A n c,e=.returned (.tuple #[.slice A n c,.int .i64 0])/\aY w' w'.heap.size A n ((eT x ms ss).map bN)/\n<=c/\c<=maxLen)/\(¬(∀q∈eT x ms ss,bP q)->e=.returned (.tuple #[.slice none 0 0,.int .i64 2]))))
theorem WS{ms:List Mi}{ss:List ByteArray}{k:Nat}{m:Mi}(h:ms[k]?=some m):(eT x ms ss).take (k+1)=(eT x ms ss).take k++[mU x (ss.map gC) m]:=by
 have h2:(eT x ms ss)[k]?=some (mU x (ss.map gC) m):=by unfold eT;rw[iY,h];rfl
 exact fE h2
theorem wS{ms:List Mi}{ss:List ByteArray}(h:iZ x ms ss=0):dJ x ms=0/\ss.length=aH x/\∀s∈ss,cI s.data.toList=0:=by
 unfold iZ at h;split at h
 ·exact absurd h (by assumption)
 ·rename_i h1
  unfold YF at h;split at h
  ·omega
  ·rename_i h2
   exact⟨by omega,by omega,oD.1 h⟩
theorem yD(h:bY)(x:bO)(h8:x.nodes.length<=8)(A:OA)(n c:Nat)(ms:List Mi)(B:OA)(mm d:Nat)(ss:List ByteArray)(w:Wo)(r:cQ w w.heap.size h x)(hm:fP w w.heap.size A n ms)(hR:aY w w.heap.size B mm ss)(hz:∀m∈ms,m.txt.size<=maxLen)(hs:∀s∈ss,s.size<=maxLen)(hn:n<=9223372036854775807)(xA:mm<=9223372036854775807)(ht:dM w):Calls Tryz.prog 25 #[.agg h.cells,.slice A n c,.slice B mm d] w (aHe x ms ss w):=by
 have K0:=jT w (.cells h.cells 29);obtain⟨HK,P0,HX,HM,HS⟩:=kN K0 (aG.new w 29 h.cells) (r.up K0) (hm.bm K0) (hR.bm K0);have HT:=lH (ht.up K0);have mA:Hid (ms.length=n):=lH hm.1;have NY:Hid (ss.length=mm):=lH hR.1;have HSS:=lH hs;have dZ:Hid (w.heap.size<=(w.alloc (.cells h.cells 29)).heap.size):=lH K0.size;have HRP:Hid (∀e w',aHe x ms ss w e w'<->(Below w.heap.size w w'/\((iZ x ms ss≠0/\e=.returned (.tuple #[.slice none 0 0,.int .i64 (iZ x ms ss)]))\/
 (iZ x ms ss=0/\((∀q∈eT x ms ss,bP q)->∃A n c,e=.returned (.tuple #[.slice A n c,.int .i64 0])/\aY w' w'.heap.size A n ((eT x ms ss).map bN)/\n<=c/\c<=maxLen)/\(¬(∀q∈eT x ms ss,bP q)->e=.returned (.tuple #[.slice none 0 0,.int .i64 2])))))):=lH fun e w'=>Iff.rfl
 have HRE:Hid (iZ x ms ss=if dJ x ms≠0 then dJ x ms else YF ss.length (aH x) ss):=lH rfl;have z7:=lH (AG h x A n c ms (w.alloc (.cells h.cells 29)) HX.o HM.o hz hn HT.o);have HPA:=lH (wS (x:=x) (ms:=ms) (ss:=ss));generalize iZ x ms ss=re at *;clear K0 hm hR r ht hs hz;obtain⟨D0,r0,s0,D1,r1,s1,D2,r2,s2,D3,r3,s3,D4,r4,s4,D5,r5,s5⟩:=h;obtain⟨y0,y1,y2,y3,y4,y5,nf,nlt⟩:=aW P0.o;dsimp only at y0 y1 y2 y3 y4 y5;go_enter Tryz.func25,Tryz.ntmps25
 go_wp2_with fail
 generalize w.alloc (.cells (bY.cells ⟨D0,r0,s0,D1,r1,s1,D2,r2,s2,D3,r3,s3,D4,r4,s4,D5,r5,s5⟩) 29)=W at *;refine z7.o.mono ?_;rintro e w1 ⟨rfl,bC⟩;have bT:=lH bC;clear bC y0 y1 y2 y3 y4 y5 nf nlt z7;by_cases mI:dJ x ms=0
 ·have HC:=lH mI
  rw[if_neg (fun h=>h mI)] at HRE;rw[mI];clear mI;have PNX:=P0.o.bl bT.o;obtain⟨y0,y1,y2,y3,y4,y5,nf,nlt⟩:=aW PNX;dsimp only at y0 y1 y2 y3 y4 y5;clear PNX;obtain⟨ok,hl,mZ⟩:=oI HC.o;obtain⟨bU,HL,AU⟩:=d_ ok hl mZ;clear ok hl mZ;(go_wp2_with fail);refine(nX _ x bU.o h8 w1 (HX.o.up bT.o)).mono ?_;rintro e w2 ⟨bH,g,m,A7,n7,c7,rfl,hg,dC,rC,-⟩;have cH:=bW bT bH;have HG:=lH dC;have HR:=lH rC;have fC:Hid (aH x=m.n1):=lH (by rw[<-qQ bU.o];exact rC.r1.len);clear bH hg dC rC bT y0 y1 y2 y3 y4 y5 nf nlt;(go_wp2_with fail);refine(aCJ g m _ B mm d ss w2 HG.o (HS.o.bm cH.o) HSS.o xA (HT.o.up cH.o) re (by rw[HRE.o,NY.o,fC.o])).mono ?_;rintro e w3 ⟨rfl,cN⟩;have dY:=bW cH cN;replace HG:=lH (HG.o.bl cN);replace HR:=lH (HR.o.up cN);clear cN cH;by_cases QT:re=0
  ·subst QT
   obtain⟨-,hsl,O5⟩:=HPA.o rfl;have HSV:=lH O5;have IM:Hid (mm=aH x):=lH (by rw[<-NY.o];exact hsl);have a5D:mm<=8:=by rw[IM.o];exact cO (eX bU.o).2 h8
   clear hsl O5 HPA HRE;(go_wp2_with fail);refine(OP B mm d ss w3 (HS.o.bm dY.o) HSV.o (by omega)).mono ?_;rintro e w4 ⟨eR,A4,n4,c4,rfl,hq4,-,-,-⟩;have bM:=bW dY eR;replace HG:=lH (HG.o.bl eR);replace HR:=lH (HR.o.up eR);have HQ:=lH hq4;have mK:Hid (n4=mm):=lH (by rw[<-hq4.len,jO,NY.o]);have KL:Hid (∀p∈ss.map gC,bI p<=2000):=lH fun p hp=>by
    obtain⟨s,hs,rfl⟩:=List.mem_map.1 hp;exact o0 (iD (HSV.o s hs))
   clear eR hq4 dY HS;have a7L:Hid (W.heap.size<=w4.heap.size):=lH bM.o.size;have a5x:n<=64:=by have:=HL.o;have:=mA.o;omega
   go_wp2_with fail
   go_loopw [12,33] (fun v12 v33 wr=>∃(k:Nat)(us:List Rv),k<=n/\v33=.int .i64 k/\dP wr w4.heap.size v12 us ((eT x ms ss).take k)/\Below w4.heap.size w4 wr) (fun _ v33 _=>n-(intOf v33).toNat)
   case atStart=>exact⟨0,[],by omega,rfl,kY _ _,bR⟩
   case round=>
    obtain⟨k,us,hk,rfl,ho,hb⟩:=hrel;have HO:=lH ho;have HB:=lH hb;clear ho hb;by_cases aU:k<n
    ·obtain⟨mi,mZ⟩:∃mi,ms[k]?=some mi:=eA (by have:=mA.o;omega)
     have IK:=lH (WS (x:=x) (ss:=ss) mZ);have wB:=lH (AU.o mi (bV mZ));have hO:=lH (bM.o.tm HB.o);have hmx:=(HM.o.below hO.o lR).more hO.o.size;obtain⟨ab,ao,hA,jA,-⟩:=hmx.2.2 (by omega);subst hA;obtain⟨a0,a1,a2,a3⟩:=hmx.at_ mZ;have fY:(k:Int)<(n:Int):=by omega
     have lB:=lZ k;have rJ:=jF k;have l9:=lN k;have jV:Hid (n-(k+1)<n-k):=lH (by omega);have sP:=lH aU;clear mZ hmx;(go_upto_region 13 with fail);clear a0 a1 a2 a3 jA fY lB rJ;have hz:=jT wr (.cells #[.int .i64 mi.kind,.string mi.name,.string mi.txt,.int .i64 mi.wt] 57);have aUR:=lH (aG.new wr 57 #[.int .i64 mi.kind,.string mi.name,.string mi.txt,.int .i64 mi.wt]);replace HO:=lH (HO.o.keep hz);have GQ:Hid (Below w4.heap.size w4 (wr.alloc (.cells #[.int .i64 mi.kind,.string mi.name,.string mi.txt,.int .i64 mi.wt] 57))):=lH (HB.o.tm hz);have HWA:Hid (Below W.heap.size W (wr.alloc (.cells #[.int .i64 mi.kind,.string mi.name,.string mi.txt,.int .i64 mi.wt] 57))):=lH (bM.o.tm GQ.o);clear hz HB hO;generalize wr.heap.size=gm at *;generalize wr.alloc (.cells #[.int .i64 mi.kind,.string mi.name,.string mi.txt,.int .i64 mi.wt] 57)=wa at *;have PNX:=P0.o.bl HWA.o;obtain⟨y0,y1,y2,y3,y4,y5,nf,nlt⟩:=aW PNX;dsimp only at y0 y1 y2 y3 y4 y5;clear PNX;obtain⟨x0,x1,x2,x3,xl⟩:=aUR.o.b4;(go_wp2_with fail);refine(qV _ x bU.o h8 g m _ mi wa (HX.o.up HWA.o) (HG.o.bl GQ.o) (HR.o.up GQ.o) wB.o.1 wB.o.2).mono ?_;rintro e w5 ⟨fD,gc,u,rfl,hq,hv⟩;clear y0 y1 y2 y3 y4 y5 nf nlt x0 x1 x2 x3 xl;have eK:=bW GQ fD;replace HO:=lH (HO.o.keep fD);obtain⟨HQF,HVF,HFO⟩:=d_ hq hv (nA bU.o wB.o);clear fD hq hv HWA GQ;(go_wp2_with fail);refine(aJ6 (some ⟨gc,0,none⟩) (aH x) (aH x) u (aS x mi).1 (aS x mi).2 A4 n4 c4 (ss.map gC) w5 HQF.o HVF.o (HQ.o.bm eK.o) (by rw[mK.o,IM.o];exact lR) (by have:=IM.o;omega) (fun p hp=>cO (HFO.o.cf p hp) (by decide)) KL.o (cO HFO.o.fr (by decide))).mono ?_;rintro e w6 ⟨fT,xe,rfl,hxe⟩;have fL:=bW eK fT;replace HO:=lH (HO.o.keep fT);have U0:=lH hxe;have sL:Hid (w4.heap.size<=w6.heap.size):=lH fL.o.size;clear fT hxe eK HQF HVF HFO
     go_wp2_with (at_builtin;refine rL rfl (.tmp 37) (.tmp 44) _ rfl w4.heap.size Tryz.underlying93 u12 us _ rfl HO.o xe _ U0.o rfl ?k1 sL.o ?_)
     case k1=>rw[kR];omega
     intro v' w8 bB vJ gP;have sK:Hid (dP w8 w4.heap.size v' (us++[xe]) ((eT x ms ss).take (k+1))):=lH (by rw[IK.o];exact bB);have dR:=lH (fL.o.trans gP);clear bB vJ gP HO fL U0 aUR;(go_wp2_with fail);go_roundw
     case rel=>exact⟨k+1,us++[xe],sP.o,aO l9.o,sK.o,dR.o⟩
     case measure=>exact jV.o
    ·have nH:k=n:=by omega
     subst nH;have fY:¬(k:Int)<(k:Int):=by omega
     have LN:(eT x ms ss).length=k:=by unfold eT;rw[jO];exact mA.o
     have QE:Hid (dP wr w4.heap.size u12 us (eT x ms ss)):=lH (by
      have h:=HO.o;rw[nL (by rw[LN];exact lR)] at h;exact h)
     obtain⟨A9,c9,hv,rC,-,-,-⟩:=QE.o.rd;subst hv;rw[LN] at rC ⊢;have YR:=lH rC;have z8:=lH (bM.o.tm HB.o);clear rC LN HO;(go_wp2_with fail);refine(mO A9 k c9 (eT x ms ss) wr YR.o (by omega) (HT.o.up z8.o)).mono ?_;rintro e w9 ⟨gA,oY,sG⟩;obtain⟨eV,zM,vX⟩:=d_ (HK.o.trans ((z8.o.tm gA).mono dZ.o)) oY sG;clear gA oY sG;by_cases hf:∀q∈eT x ms ss,bP q
     ·obtain⟨A6,n6,c6,rfl,rD,h61,h62⟩:=zM.o hf
      have LA:=lH rD;clear rD;(go_wp2_with fail);go_ret2;rw[HRP.o];exact⟨eV.o,.inr ⟨by trivial,fun _=>⟨A6,n6,c6,rfl,LA.o,h61,h62⟩,fun h=>absurd hf h⟩⟩
     ·obtain rfl:=vX.o hf
      (go_wp2_with fail);go_ret2;rw[HRP.o];exact⟨eV.o,.inr ⟨by trivial,fun h=>absurd h hf,fun _=>rfl⟩⟩
  ·have hB:(re != 0)=true:=by simp[QT]
   (go_wp2_with fail);go_ret2;rw[HRP.o];exact⟨HK.o.trans (dY.o.mono dZ.o),.inl ⟨QT,rfl⟩⟩
 ·have aOy:(dJ x ms != 0)=true:=by simp[mI]
  rw[if_pos mI] at HRE;(go_wp2_with fail);go_ret2;rw[HRP.o];exact⟨HK.o.trans (bT.o.mono dZ.o),.inl ⟨by rw[HRE.o];exact mI,by rw[HRE.o];rfl⟩⟩
end
section
open Go.ChangeShapes Go.WideShapes Go.ChangeAt Go.RowKit
def sI(l:List Br):Nat:=l.foldr (fun b d=>(b.x*b.tap).toNat*d) 1
theorem TR:∀{l:List Br}{b:Br},b∈l->(b.x*b.tap).toNat∣sI l
 | a::r,b,h=>by
  rcases List.mem_cons.1 h with h | h
  ·subst h;exact Nat.dvd_mul_right _ _
  ·exact Nat.dvd_trans (TR h) (Nat.dvd_mul_left _ _)
theorem YB(h:b.bad=false):500<=(b.x*b.tap).toNat/\(b.x*b.tap).toNat<10^8/\b.x*b.tap=((b.x*b.tap).toNat:Int):=by
 have h1:=KC h;have FR:b.x*b.tap<=10000*1500:=Int.mul_le_mul h1.2.1 h1.2.2.2.1 (by omega) (by omega);have rV:1*500<=b.x*b.tap:=Int.mul_le_mul h1.1 h1.2.2.1 (by omega) (by omega);omega
theorem aAE:∀{l:List Br},(∀b∈l,b.bad=false)->sI l≠0/\sI l<=(10^8)^l.length
 | [],_=>by simp[sI]
 | a::r,h=>by
  obtain⟨h1,h2⟩:=aAE fun b hb=>h b (List.mem_cons_of_mem _ hb);have h3:=YB (h a List.mem_cons_self);have e:sI (a::r)=(a.x*a.tap).toNat*sI r:=rfl;rw[e,GS,Nat.pow_succ,Nat.mul_comm ((10^8)^r.length)];exact⟨Nat.mul_ne_zero (by omega) h1,Nat.mul_le_mul (by omega) h2⟩
theorem aES{l:List Br}(hb:b∈l)(h:b.bad=false):Ot (sI l) 2000 (cP b):=by
 obtain⟨h1,h2,h3⟩:=YB h;unfold cP;rw[h3];exact WG (WH (by omega) (by show(1000000:Int).natAbs<=_;simp;omega)) (TR hb)
theorem aNq{l:List Br}(hb:b∈l)(h:b.bad=false):Ot (sI l*1000) 2000 (eS b):=by
 have h1:=KC h;unfold eS;exact aNp (C:=1) (aES hb h) (WH (d:=1000) (by decide) (by rw[Int.natAbs_neg];omega))
structure U8 (n D B:Nat) (s:List Rat×Rat):Prop where
 len:s.1.length=n
 cf:∀p∈s.1,Ot D B p
 fr:Ot (D*1000) B s.2
theorem U8.mono{C:Nat}{s:List Rat×Rat}(h:U8 n D B s)(hb:B<=C):U8 n D C s:=⟨h.len,fun p hp=>pP (h.cf p hp) hb,pP h.fr hb⟩
theorem aM0(n D:Nat):U8 n D 0 (jN n,0):=by
 refine⟨by simp[jN],fun p hp=>?_,Z2 _⟩;rw[List.eq_of_mem_replicate hp];exact Z2 _
theorem aLn{q:Rat}(mi:Bool)(h:Ot D B q):Ot D B (sg mi q):=by
 unfold sg;cases mi
 ·exact h
 ·exact WF h
theorem U8.add{u v:Nat}{s:List Rat×Rat}{b c:Rat}(mi:Bool)(h:U8 n D B s)(hu:u<n)(hv:v<n)(hb:Ot D 2000 b)(hc:Ot (D*1000) 2000 c):U8 n D (B+4000) (lP (sg mi b) u v s.1,s.2+sg mi c):=by
 have hb':=aLn mi hb;have h1:Ot D (B+2000) (vf s.1 u+sg mi b):=OR (h.cf _ (bV (a_ (i:=u) (by rw[h.len];exact hu)))) hb';have h2:∀p∈s.1.set u (vf s.1 u+sg mi b),Ot D (B+2000) p:=fun p hp=>by
  rcases List.mem_or_eq_of_mem_set hp with e | e
  ·exact pP (h.cf p e) (by omega)
  ·rw[e];exact h1
 refine⟨by rw[gG];exact h.len,fun p hp=>?_,pP (OR h.fr (aLn mi hc)) (by omega)⟩;unfold lP at hp;rcases List.mem_or_eq_of_mem_set hp with e | e
 ·exact pP (h2 p e) (by omega)
 ·rw[e,Rat.sub_eq_add_neg]
  exact pP (OR (h2 _ (bV (a_ (i:=v) (by rw[lS,h.len];exact hv)))) (WF hb')) (by omega)
theorem PV(ok:bJ x){s:List Rat×Rat}(hs:U8 n (sI x.brs) B s)(hn:n=aH x)(hb:b∈x.brs)(mi:Bool):U8 n (sI x.brs) (B+4000) (lP (sg mi (cP b)) (aD x b.fr) (aD x b.to) s.1,s.2+sg mi (eS b)):=by
 have hm:=ok.br b hb;exact hs.add mi (by rw[hn];exact(bG ok hm.1).2.1) (by rw[hn];exact(bG ok hm.2.1).2.1) (aES hb hm.2.2.2) (aNq hb hm.2.2.2)
theorem W8(ok:bJ x){bus:Nat}{s:List Rat×Rat}(hs:U8 n (sI x.brs) B s)(hn:n=aH x)(hb:b∈x.brs):U8 n (sI x.brs) (B+8000) (i_ bus (aD x b.fr) (aD x b.to) (cP b) (eS b) s):=by
 unfold i_;dsimp only;have h1:U8 n (sI x.brs) (B+4000) (if aD x b.fr=bus then(lP (sg false (cP b)) (aD x b.fr) (aD x b.to) s.1,s.2+sg false (eS b)) else s):=by
  split
  ·exact PV ok hs hn hb false
  ·exact hs.mono (by omega)
 split
 ·exact PV ok h1 hn hb true
 ·exact h1.mono (by omega)
theorem SN(ok:bJ x){bus:Nat}(hn:n=aH x):∀(bs:List Br)(B:Nat)(s:List Rat×Rat),(∀b∈bs,b∈x.brs)->U8 n (sI x.brs) B s->U8 n (sI x.brs) (B+8000*bs.length) (nM bus (bs.map cP) (bs.map eS) (bs.map fun b=>aD x b.fr) (bs.map fun b=>aD x b.to) s)
 | [],B,s,_,hs=>hs
 | b::bs,B,s,h,hs=>by
  have h1:=SN ok (bus:=bus) hn bs (B+8000) _ (fun a ha=>h a (List.mem_cons_of_mem _ ha)) (W8 ok (bus:=bus) hs hn (h b List.mem_cons_self));refine U8.mono (B:=B+8000+8000*bs.length) h1 ?_;rw[GS];omega
theorem iM(x:bO):gV x=(x.brs.map fun b=>aD x b.fr)/\CC x=x.brs.map fun b=>aD x b.to:=by
 refine⟨?_,?_⟩
 ·unfold gV LU;rw[List.map_map];rfl
 ·unfold CC LU;rw[List.map_map];rfl
theorem aGu(ok:bJ x)(hl:x.brs.length<=10){m:Mi}(hm:vW x m):U8 (aH x) (sI x.brs) 80000 (aS x m):=by
 have hz:=aM0 (aH x) (sI x.brs);unfold aS;split
 ·rename_i h0
  have h1:=hm.1 h0;rcases oE x m.name with⟨e,_⟩ | ⟨i,b,e,hb,_⟩
  ·omega
  ·obtain⟨a1,a2,a3,a4⟩:=kM hb
   have h2:=PV ok hz rfl (bV hb) false;simp only[e,jF,dN,vf,a1,a2,a3,a4];exact h2.mono (by omega)
 ·split
  ·rename_i h0 h2
   refine⟨by rw[lS];exact hz.len,fun p hp=>?_,pP hz.fr (by omega)⟩;rcases List.mem_or_eq_of_mem_set hp with e | e
   ·exact pP (hz.cf p e) (by omega)
   ·rw[e];exact pP aNo (by omega)
  ·have h:=SN ok (bus:=aD x m.name) rfl x.brs 0 _ (fun b hb=>hb) hz
   rw[(iM x).1,(iM x).2];exact h.mono (by omega)
theorem aCB(ok:bJ x)(hl:x.brs.length<=10):sI x.brs≠0/\sI x.brs<=10^80:=by
 obtain⟨h1,h2⟩:=aAE (l:=x.brs) fun b hb=>(ok.br b hb).2.2.2;refine⟨h1,cO h2 ?_⟩;rw[<-Nat.pow_mul];exact Nat.pow_le_pow_right (by decide) (by omega)
theorem aD5{a b:Nat}(h:a<=b):10^a<=10^b:=Nat.pow_le_pow_right (by decide) h
theorem ZK{a b c:Nat}(h:a+b<=c):10^a*10^b<=10^c:=by rw[<-Nat.pow_add];exact aD5 h
def PP(l:List Rat):Nat:=l.foldr (fun q d=>q.den*d) 1
theorem TP:∀{l:List Rat}{q:Rat},q∈l->q.den∣PP l
 | a::r,b,h=>by
  rcases List.mem_cons.1 h with h | h
  ·subst h;exact Nat.dvd_mul_right _ _
  ·exact Nat.dvd_trans (TP h) (Nat.dvd_mul_left _ _)
theorem aAD{k:Nat}:∀{l:List Rat},(∀q∈l,Tn k q)->PP l≠0/\PP l<=(10^k)^l.length
 | [],_=>by simp[PP]
 | a::r,h=>by
  obtain⟨h1,h2⟩:=aAD fun b hb=>h b (List.mem_cons_of_mem _ hb);have e:PP (a::r)=a.den*PP r:=rfl;rw[e,GS,Nat.pow_succ,Nat.mul_comm ((10^k)^r.length)];exact⟨Nat.mul_ne_zero a.den_nz h1,Nat.mul_le_mul (pJ (h a List.mem_cons_self).2) h2⟩
def TQ(x:bO)(al:List Rat):Nat:=sI x.brs*PP al*1000
theorem X3(ok:bJ x)(hl:x.brs.length<=10){al:List Rat}(ha:∀q∈al,Tn 25 q)(hn:al.length<=8):TQ x al≠0/\TQ x al<=10^283:=by
 obtain⟨h1,h2⟩:=aCB ok hl;obtain⟨h3,h4⟩:=aAD ha;have h5:PP al<=10^200:=by
  refine cO h4 ?_;rw[<-Nat.pow_mul];exact aD5 (by omega)
 unfold TQ;refine⟨Nat.mul_ne_zero (Nat.mul_ne_zero h1 h3) (by decide),?_⟩;have h6:=ZK (a:=80) (b:=200) (c:=280) (by decide);have h7:=ZK (a:=280) (b:=3) (c:=283) (by decide);have h8:=Nat.mul_le_mul_right (10^3) (cO (Nat.mul_le_mul h2 h5) h6);exact cO h8 h7
def OY:List Rat->Rat
 | []=>0
 | a::r=>a+OY r
theorem JY:∀(l:List Rat)(a:Rat),l.foldl (·+·) a=a+OY l
 | [],a=>(Rat.add_zero a).symm
 | b::r,a=>by
  rw[List.foldl_cons,JY r (a+b)];show a+b+OY r=a+(b+OY r);rw[Rat.add_assoc]
theorem aBm(l:List Rat):sS l=OY l:=by
 unfold sS;rw[JY,Rat.zero_add]
theorem qX{q al:List Rat}(h1:q.length=n)(h2:al.length=n):jJ q al=aN n fun i=>vf q i*vf al i:=by
 have key:∀k,k<=n->sS ((List.zipWith (·*·) q al).take k)=aN k fun i=>vf q i*vf al i:=fun k=>by
  induction k with
  | zero=>intro _;rfl
  | succ k ih=>
   intro hk;rw[NH (a_ (i:=k) (by omega)) (a_ (l:=al) (i:=k) (by omega)),ih (by omega)];rfl
 have:=key n lR;rw[nL (by rw[List.length_zipWith];omega)] at this;exact this
theorem IJ{q:List Rat}{b:Rat}{u v:Nat}(hu:u<q.length)(hv:v<q.length)(j:Nat):vf (lP b u v q) j=vf q j+b*two u v j:=by
 unfold lP two;rw[tZ (by rw[lS];exact hv),tZ hu,tZ hu];by_cases h1:j=v
 ·subst h1
  by_cases h2:j=u
  ·subst h2
   simp only[if_true];grind
  ·simp only[if_true,if_neg h2];grind
 ·by_cases h2:j=u
  ·subst h2
   simp only[if_neg h1,if_true];grind
  ·simp only[if_neg h1,if_neg h2];grind
def fV(x:bO)(i:Nat):Nat:=((iX x).getD i 0).toNat
end
section
open Go.ChangeShapes Go.WideShapes Go.ChangeAt Go.RowKit
attribute [local go_sem ↓] aE
attribute [local go_sem] aJ aI aM aR
theorem iT.keep5{w:Wo}{p gc gd n' T:Nat}{u:Rv}{qs:List Rat}(h:iT w w.heap.size (some ⟨gc,0,none⟩) n qs)(hb:aG w p T #[.slice none 0 0,.bool false,.slice none 0 0,.bool false,.slice none 0 0]):iT (put5 w p gd n' u) (put5 w p gd n' u).heap.size (some ⟨gc,0,none⟩) n qs:=by
 obtain⟨vs,h1,h2,h3,h4⟩:=h;refine⟨vs,h1,h2,⟨h3.1,fun hn=>?_⟩,fun i q v hq hv=>(h4 i q v hq hv).keep5 hb⟩;obtain⟨b,off,e,aU,hc⟩:=h3.2 hn;injection e with e;injection e with e1 e2;subst e1;subst e2;obtain⟨v0,vE⟩:∃v0,vs[0]?=some v0:=eA (by omega);have bX:gc≠p:=by
  rintro rfl;have h5:=hc 0 (.bool v0.b1) (by
   have:=t_ vE 0 (by decide);rw[Nat.zero_mul,Nat.zero_add] at this;rw[this];rfl)
  rw[Nat.zero_add,hb.cell 0] at h5;cases h5
 refine⟨gc,0,rfl,by rw[aBK];exact aU,fun j y hy=>?_⟩;have off:∀(w:Wo)(i:Nat)(u v:Value),w.cell? ⟨gc,0+j,none⟩=some v->(w.setCell ⟨p,i,none⟩ u).cell? ⟨gc,0+j,none⟩=some v:=fun w i u v hv=>by
  rw[World.cell?_setCell_other _ _ _ _ (fun e=>bX (by injection e with e;exact e.symm))];exact hv
 exact off _ _ _ _ (off _ _ _ _ (off _ _ _ _ (off _ _ _ _ (off _ _ _ _ (hc j y hy)))))
def aZo(x:bO)(m:Mi)(w:Wo)(e:Ending)(w':Wo):Prop:=Below w.heap.size w w'/\((dJ x [m]≠0/\e=.returned (.tuple #[.slice none 0 0,.string ⟨#[]⟩,.int .i64 (dJ x [m])]))\/
 (dJ x [m]=0/\∃A c,e=.returned (.tuple #[.slice A (aH x) c,.string (bN (aS x m).2),.int .i64 0])/\aY w' w'.heap.size A (aH x) ((aS x m).1.map bN)))
def aTI(x:bO)(m:Mi)(w:Wo)(e:Ending)(w':Wo):Prop:=Below w.heap.size w w'/\((dJ x [m]≠0/\e=.returned (.tuple #[.slice none 0 0,.string ⟨#[]⟩,.int .i64 (dJ x [m])]))\/
 (dJ x [m]=0/\∃A c,e=.returned (.tuple #[.slice A (aH x) c,.string (bN (aS x m).2),.int .i64 0])/\aY w' w'.heap.size A (aH x) ((aS x m).1.map bN)/\aHi w.heap.size A))
theorem aJk(h:bY)(x:bO)(h8:x.nodes.length<=8)(m:Mi)(w:Wo)(r:cQ w w.heap.size h x)(hz:m.txt.size<=maxLen)(ht:dM w)(hfc:dJ x [m]=0->(∀q∈(aS x m).1,bP q)/\bP (aS x m).2):Calls Tryz.prog 40 #[.agg h.cells,.agg #[.int .i64 m.kind,.string m.name,.string m.txt,.int .i64 m.wt]] w (aTI x m w):=by
 have K0:Below w.heap.size w ((w.alloc (.cells h.cells 29)).alloc (.cells #[.int .i64 m.kind,.string m.name,.string m.txt,.int .i64 m.wt] 57)):=(bA).alloc (by simp) _;have HK:=lH K0;have P0:=lH ((aG.new w 29 h.cells).alloc (.cells #[.int .i64 m.kind,.string m.name,.string m.txt,.int .i64 m.wt] 57));have P1:Hid (aG ((w.alloc (.cells h.cells 29)).alloc (.cells #[.int .i64 m.kind,.string m.name,.string m.txt,.int .i64 m.wt] 57)) (w.heap.size+1) 57 #[.int .i64 m.kind,.string m.name,.string m.txt,.int .i64 m.wt]):=lH (aG.new_ (by simp));obtain⟨HX,HT,HFC⟩:=d_ (r.up K0) (ht.up K0) hfc;have HMZ:Hid (∀a∈[m],a.txt.size<=maxLen):=lH fun a ha=>by rw[List.mem_singleton.1 ha];exact hz
 have dZ:Hid (w.heap.size<=((w.alloc (.cells h.cells 29)).alloc (.cells #[.int .i64 m.kind,.string m.name,.string m.txt,.int .i64 m.wt] 57)).heap.size):=lH K0.size;have HOP:Hid (∀e w',aTI x m w e w'<->(Below w.heap.size w w'/\((dJ x [m]≠0/\e=.returned (.tuple #[.slice none 0 0,.string ⟨#[]⟩,.int .i64 (dJ x [m])]))\/
 (dJ x [m]=0/\∃A c,e=.returned (.tuple #[.slice A (aH x) c,.string (bN (aS x m).2),.int .i64 0])/\aY w' w'.heap.size A (aH x) ((aS x m).1.map bN)/\aHi w.heap.size A)))):=lH fun e w'=>Iff.rfl
 clear K0 r ht hfc;obtain⟨D0,r0,s0,D1,r1,s1,D2,r2,s2,D3,r3,s3,D4,r4,s4,D5,r5,s5⟩:=h;obtain⟨y0,y1,y2,y3,y4,y5,nf,nlt⟩:=aW P0.o;dsimp only at y0 y1 y2 y3 y4 y5;obtain⟨x0,x1,x2,x3,xl⟩:=P1.o.b4;go_enter Tryz.func40,Tryz.ntmps40
 go_upto_region 1 with fail
 generalize (w.alloc (.cells (bY.cells ⟨D0,r0,s0,D1,r1,s1,D2,r2,s2,D3,r3,s3,D4,r4,s4,D5,r5,s5⟩) 29)).alloc (.cells #[.int .i64 m.kind,.string m.name,.string m.txt,.int .i64 m.wt] 57)=W at *;generalize w.heap.size+1=p1 at *
 go_wp2_with fail
 have hzl:=jT W (.cells #[.int .i64 m.kind,.string m.name,.string m.txt,.int .i64 m.wt] 57);have sP:=lH (JA (aG.new W 57 #[.int .i64 m.kind,.string m.name,.string m.txt,.int .i64 m.wt]));have mE:=lH hzl;clear y0 y1 y2 y3 y4 y5 nf nlt x0 x1 x2 x3 xl hzl;generalize W.alloc (.cells #[.int .i64 m.kind,.string m.name,.string m.txt,.int .i64 m.wt] 57)=wl at *;refine(AG _ x _ 1 1 [m] wl (HX.o.up mE.o) sP.o HMZ.o (by decide) (HT.o.up mE.o)).mono ?_;rintro e w1 ⟨rfl,bC⟩;have bT:=bW mE bC;clear bC mE sP;by_cases mI:dJ x [m]=0
 ·have HC:=lH mI
  obtain⟨ok,hl,mZ⟩:=oI mI;obtain⟨bU,AU,HFT⟩:=d_ ok (mZ m (List.mem_singleton.2 rfl)) (HFC.o mI);rw[mI];clear ok hl mZ mI HFC;have PNX:=P0.o.bl bT.o;obtain⟨y0,y1,y2,y3,y4,y5,nf,nlt⟩:=aW PNX;dsimp only at y0 y1 y2 y3 y4 y5;have P1b:=P1.o.bl bT.o;obtain⟨x0,x1,x2,x3,xl⟩:=P1b.b4;clear PNX P1b;(go_upto_region 4 with fail)
  go_cut [8] (fun v8 wc=>∃(p8 gc:Nat)(u:Rv),v8=.pointer (some ⟨p8,0,none⟩)/\aG wc p8 117 #[.slice (some ⟨gc,0,none⟩) (aH x) (aH x),.bool u.b1,.slice u.A u.n u.c,.bool u.b2,.slice u.A2 u.m u.d]/\iT wc wc.heap.size (some ⟨gc,0,none⟩) (aH x) (aS x m).1/\dD wc wc.heap.size (aS x m).2 u/\Below w1.heap.size w1 wc)
  case first=>
   refine kX 6 (fun hHeld=>?_);simp only[nI,List.take_zero];refine cW [0,1,3] ?_;clear y0 y1 y2 y3 y4 y5 nf nlt x0 x1 x2 x3 xl;have zL:=lH (aK (Below.refl w1.heap.size w1));generalize w1.drew=v0 at *;refine OF 2 5 (by kernel_rfl) rfl rfl (fun K hK=>?_) (fun K hK=>?_)
   ·go_simp
    refine(nX _ x bU.o h8 v0 (HX.o.up (bT.o.tm zL.o))).mono ?_;rintro e v1 ⟨hb,g,md,A7,n7,c7,rfl,hg,dC,rC,-⟩;have lT:Hid (Below w1.heap.size w1 v1):=lH (zL.o.tm hb);have sM:=lH dC;have vY:=lH rC;clear hb hg dC rC;go_simp;refine gZ hK lT.o (fun hHeld=>?_);clear hK K;refine OF 4 5 (by kernel_rfl) rfl rfl (fun K hK=>?_) (fun K hK=>?_)
    ·go_simp
     refine(qV _ x bU.o h8 g md _ m v1 (HX.o.up (bT.o.tm lT.o)) sM.o vY.o AU.o.1 AU.o.2).mono ?_;rintro e v2 ⟨hb,gc,u,rfl,hq,hv⟩;have sJ:Hid (Below w1.heap.size w1 v2):=lH (lT.o.tm hb);have sO:=lH hq;have HU2:=lH hv;have zZ:Hid (v1.heap.size<=v1.heap.size):=lH lR;clear hb hq hv zZ;go_simp;refine gZ hK sJ.o (fun hHeld=>?_);clear hK K;refine bQ 5 (fun K hK=>?_);go_simp;have hz:=jT v2 (.cells #[.slice none 0 0,.bool false,.slice none 0 0,.bool false,.slice none 0 0] 117);have F1:=lH (aG.new v2 117 #[.slice none 0 0,.bool false,.slice none 0 0,.bool false,.slice none 0 0]);have vM:Hid (Below w1.heap.size w1 (v2.alloc (.cells #[.slice none 0 0,.bool false,.slice none 0 0,.bool false,.slice none 0 0] 117))):=lH (sJ.o.tm hz);have HPG:Hid (w1.heap.size<=v2.heap.size):=lH sJ.o.size;have HQ3:=lH (sO.o.up hz);have HU3:=lH (HU2.o.up hz);generalize v2.alloc (.cells #[.slice none 0 0,.bool false,.slice none 0 0,.bool false,.slice none 0 0] 117)=v3 at *;generalize v2.heap.size=p8 at *;clear hz;refine gZ hK vM.o (fun hHeld=>?_);clear hK K;refine eM ?_;clear hHeld;obtain⟨s0,s1,s2,s3,s4,sf,sl⟩:=F1.o.e5;(go_wp2_with fail);go_meet
     case rel=>exact⟨p8,gc,u,rfl,m6 F1.o,HQ3.o.keep5 F1.o,HU3.o.keep5 F1.o,jD vM.o HPG.o⟩
    ·go_simp
     have hz:=jT v1 (.cells #[.slice none 0 0,.bool false,.slice none 0 0,.bool false,.slice none 0 0] 117);have U2:=lH (aG.new v1 117 #[.slice none 0 0,.bool false,.slice none 0 0,.bool false,.slice none 0 0]);have sJ:Hid (Below w1.heap.size w1 (v1.alloc (.cells #[.slice none 0 0,.bool false,.slice none 0 0,.bool false,.slice none 0 0] 117))):=lH (lT.o.tm hz);have HPG:Hid (w1.heap.size<=v1.heap.size):=lH lT.o.size;have iJ:=lH (sM.o.bl hz);have wD:=lH (vY.o.up hz);generalize v1.alloc (.cells #[.slice none 0 0,.bool false,.slice none 0 0,.bool false,.slice none 0 0] 117)=v2 at *;generalize v1.heap.size=p8 at *;clear hz;refine gZ hK sJ.o (fun hHeld=>?_);clear hK K;refine bQ 4 (fun K hK=>?_);go_simp;refine(qV _ x bU.o h8 g md _ m v2 (HX.o.up (bT.o.tm sJ.o)) iJ.o wD.o AU.o.1 AU.o.2).mono ?_;rintro e v3 ⟨hb,gc,u,rfl,hq,hv⟩;have vM:Hid (Below w1.heap.size w1 v3):=lH (sJ.o.tm hb);have HQ3:=lH hq;have HU3:=lH hv;have zZ:Hid (v2.heap.size<=v2.heap.size):=lH lR;have F1:=lH (U2.o.bl hb);clear hb hq hv zZ;go_simp;refine gZ hK vM.o (fun hHeld=>?_);clear hK K;refine eM ?_;clear hHeld;obtain⟨s0,s1,s2,s3,s4,sf,sl⟩:=F1.o.e5;(go_wp2_with fail);go_meet
     case rel=>exact⟨p8,gc,u,rfl,m6 F1.o,HQ3.o.keep5 F1.o,HU3.o.keep5 F1.o,jD vM.o HPG.o⟩
   ·go_simp
    have hz:=jT v0 (.cells #[.slice none 0 0,.bool false,.slice none 0 0,.bool false,.slice none 0 0] 117);have HL1:=lH (aG.new v0 117 #[.slice none 0 0,.bool false,.slice none 0 0,.bool false,.slice none 0 0]);have lT:Hid (Below w1.heap.size w1 (v0.alloc (.cells #[.slice none 0 0,.bool false,.slice none 0 0,.bool false,.slice none 0 0] 117))):=lH (zL.o.tm hz);have HPG:Hid (w1.heap.size<=v0.heap.size):=lH zL.o.size;generalize v0.alloc (.cells #[.slice none 0 0,.bool false,.slice none 0 0,.bool false,.slice none 0 0] 117)=v1 at *;generalize v0.heap.size=p8 at *;clear hz;refine gZ hK lT.o (fun hHeld=>?_);clear hK K;refine bQ 2 (fun K hK=>?_);go_simp;refine(nX _ x bU.o h8 v1 (HX.o.up (bT.o.tm lT.o))).mono ?_;rintro e v2 ⟨hb,g,md,A7,n7,c7,rfl,hg,dC,rC,-⟩;have sJ:Hid (Below w1.heap.size w1 v2):=lH (lT.o.tm hb);obtain⟨iJ,wD,U2⟩:=d_ dC rC (HL1.o.bl hb);clear hb hg dC rC;go_simp;refine gZ hK sJ.o (fun hHeld=>?_);clear hK K;refine bQ 4 (fun K hK=>?_);go_simp;refine(qV _ x bU.o h8 g md _ m v2 (HX.o.up (bT.o.tm sJ.o)) iJ.o wD.o AU.o.1 AU.o.2).mono ?_;rintro e v3 ⟨hb,gc,u,rfl,hq,hv⟩;have vM:Hid (Below w1.heap.size w1 v3):=lH (sJ.o.tm hb);have HQ3:=lH hq;have HU3:=lH hv;have zZ:Hid (v2.heap.size<=v2.heap.size):=lH lR;have F1:=lH (U2.o.bl hb);clear hb hq hv zZ;go_simp;refine gZ hK vM.o (fun hHeld=>?_);clear hK K;refine eM ?_;clear hHeld;obtain⟨s0,s1,s2,s3,s4,sf,sl⟩:=F1.o.e5;(go_wp2_with fail);go_meet
    case rel=>exact⟨p8,gc,u,rfl,m6 F1.o,HQ3.o.keep5 F1.o,HU3.o.keep5 F1.o,jD vM.o HPG.o⟩
  case rest=>
   obtain⟨p8,gc,u,rfl,zW,hq,hv,QX⟩:=hcut;obtain⟨HF,HQ,HU⟩:=d_ zW hq hv;have cH:=bW bT QX;clear zW hq hv QX bT y0 y1 y2 y3 y4 y5 nf nlt x0 x1 x2 x3 xl;generalize wc=w2 at *;have IL:Hid (aH x<=8):=lH (cO (eX bU.o).2 h8);have l8:Hid ((aS x m).1.length=aH x):=lH HQ.o.len;obtain⟨s0,s1,s2,s3,s4,sl⟩:=HF.o.b5;(go_wp2_with fail);clear s0 s1 s2 s3 s4 sl;refine(FH _ (aH x) (aH x) (aS x m).1 w2 HQ.o (by have:=IL.o;omega) (HT.o.up cH.o)).mono ?_;rintro e w3 ⟨cN,oY,-⟩;obtain⟨A3,n3,c3,rfl,vR,-,-,hnw⟩:=oY HFT.o.1;have HNW:Hid (aHi w.heap.size A3):=lH (by obtain⟨g,e1,e2⟩:=hnw;exact⟨g,e1,by have:=cH.o.size;have:=dZ.o;omega⟩);clear hnw;have dY:=bW cH cN;have HS3:=lH vR;have hn3:n3=aH x:=by rw[<-vR.1,jO];exact l8.o
   subst hn3;replace HU:=lH (HU.o.up cN);replace HF:=lH (HF.o.bl cN);clear cN oY vR cH HQ;obtain⟨s0,s1,s2,s3,s4,sl⟩:=HF.o.b5;(go_wp2_with fail);clear s0 s1 s2 s3 s4 sl;refine(aRl HU.o (HT.o.up dY.o)).mono ?_;rintro e w4 ⟨eR,s,rfl,hs⟩;rw[decide_eq_true HFT.o.2];have HTX:Hid (s=bN (aS x m).2):=lH (hs HFT.o.2);have bM:=lH (HK.o.trans ((dY.o.tm eR).mono dZ.o));replace HS3:=lH (HS3.o.bm eR);clear eR hs dY;(go_wp2_with fail);refine bodyPost_ret (v:=.tuple #[.slice A3 (aH x) c3,.string s,.int .i64 0]) (by simp[results,Tryz.results40,go_sem]) rfl ?_;rw[HOP.o];exact⟨bM.o,.inr ⟨HC.o,A3,c3,by rw[HTX.o],HS3.o,HNW.o⟩⟩
 ·have aOy:(dJ x [m] != 0)=true:=by simp[mI]
  (go_wp2_with fail);refine bodyPost_ret (v:=.tuple #[.slice none 0 0,.string ⟨#[]⟩,.int .i64 (dJ x [m])]) (by simp[results,Tryz.results40,go_sem]) rfl ?_;rw[HOP.o];exact⟨HK.o.trans (bT.o.mono dZ.o),.inl ⟨mI,rfl⟩⟩
theorem aJl(h:bY)(x:bO)(h8:x.nodes.length<=8)(m:Mi)(w:Wo)(r:cQ w w.heap.size h x)(hz:m.txt.size<=maxLen)(ht:dM w)(hfc:dJ x [m]=0->(∀q∈(aS x m).1,bP q)/\bP (aS x m).2):Calls Tryz.prog 40 #[.agg h.cells,.agg #[.int .i64 m.kind,.string m.name,.string m.txt,.int .i64 m.wt]] w (aZo x m w):=(aJk h x h8 m w r hz ht hfc).mono fun e w' h=>by
 obtain⟨h1,h2⟩:=h;refine⟨h1,?_⟩;rcases h2 with⟨a1,a2⟩ | ⟨a1,A,c,a2,a3,-⟩
 ·exact .inl ⟨a1,a2⟩
 ·exact .inr ⟨a1,A,c,a2,a3⟩
end
