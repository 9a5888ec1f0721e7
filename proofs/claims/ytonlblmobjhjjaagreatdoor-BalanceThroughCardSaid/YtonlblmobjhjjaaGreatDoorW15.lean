import Derived.Test.YtonlblmobjhjjaaGreatDoorW12
import Derived.Test.YtonlblmobjhjjaaGreatDoorW14
set_option linter.unusedVariables false
set_option linter.unusedSimpArgs false
namespace Go.Proofs.YtonlblmobjhjjaaGreatDoor
set_option maxHeartbeats 4000000
set_option maxRecDepth 100000
section
open Go.ChangeShapes Go.WideShapes Go.ChangeAt Go.RowKit
attribute [local go_sem ↓] aE
attribute [local go_sem] aJ aI aL aX cQ.cells
theorem JT{x:bP}{part fl:List ByteArray}(h:pZ x part fl=0):∀q∈qP x part fl,bJ q:=(Q6 h).2.2.1
def enT(x:bP)(part fl:List ByteArray):List ByteArray:=if pZ x part fl=0 then(qP x part fl).map eH else[]
def EtP(x:bP)(part fl:List ByteArray)(w:Wo)(e:Ending)(w':Wo):Prop:=Below w.heap.size w w'/\∃A n c,e=.returned (.tuple #[.slice A n c,.int .i64 (pZ x part fl)])/\aW w' w'.heap.size A n (enT x part fl)/\n<=c/\c<=maxLen
theorem L6(w:Wo)(B:Nat):aW w B none 0 []:=⟨rfl,rfl,fun h=>by omega⟩
theorem F3(h:cQ)(x:bP)(A:OA)(n c:Nat)(part:List ByteArray)(F:OA)(f fc:Nat)(fl:List ByteArray)(w:Wo)(r:cX w w.heap.size h x)(hp:aW w w.heap.size A n part)(hf:aW w w.heap.size F f fl)(hfs:∀s∈fl,s.size<=maxLen)(hn:n<=9223372036854775807)(GU:n<=c)(hc:c<=9223372036854775807)(XX:f<=9223372036854775807)(ht:eY w):Calls Tryz.prog 37 #[.agg h.cells,.slice A n c,.slice F f fc] w (EtP x part fl w):=by
 have K0:=vM w (.cells h.cells 29);obtain⟨HK,HX,HT⟩:=eR K0 (aD.new w 29 h.cells) ht;have HC:=lH (sG h x A n c part F f fc fl _ (r.up K0) (hp.bm K0) (hf.bm K0) hfs hn GU hc XX (ht.up K0));have P5:Hid (pZ x part fl=0->(qP x part fl).length<=1000000):=lH fun h0=>by
  obtain⟨h1,h2,h3⟩:=nV h0;have kU:=fH (m6 h1).1;unfold qP;rw[if_pos h0,kJ];unfold qQ;rw[if_pos h1];have:=u9 part x.brs 0;have:=kU.l2;omega
 clear K0 r hp hf hfs ht;obtain⟨A0,m0,c0,A1,m1,c1,A2,m2,c2,A3,m3,c3,A4,m4,c4,A5,m5,c5⟩:=h;simp only[cQ.cells] at HK HX HC ⊢;go_enter Tryz.func37,Tryz.ntmps37
 go_upto_region 1 with fail
 generalize w.alloc (.cells #[.slice A0 m0 c0,.slice A1 m1 c1,.slice A2 m2 c2,.slice A3 m3 c3,.slice A4 m4 c4,.slice A5 m5 c5] 29)=W at *;obtain⟨y0,y1,y2,y3,y4,y5,xY⟩:=HX.o.b6
 go_wp2_with fail
 refine HC.o.mono ?_;clear y0 y1 y2 y3 y4 y5 xY HC;rintro e w1 ⟨bG,L,ln,lc,rfl,hl,hlc,hlm⟩;have cR:=bX HK bG;have HL:=lH hl;clear bG HK HX hl;by_cases h0:pZ x part fl=0
 ·have H0:=lH h0
  have hln:ln<=1000000:=by rw[<-HL.o.len];exact P5.o h0
  have HTV:=lH (qG L ln lc (qP x part fl) w1 HL.o hln (HT.o.up cR.o));rw[h0];clear h0;(go_wp2_with fail);refine HTV.o.mono ?_;clear HTV;rintro e w2 ⟨bV,kU,-⟩;obtain⟨A7,n7,c7,rfl,h7,h8,h9⟩:=kU (JT H0.o);have dB:=bX cR bV;have H7:=lH h7;clear bV h7 kU;(go_wp2_with fail);go_ret2;exact⟨dB.o,A7,n7,c7,by rw[H0.o];rfl,by unfold enT;rw[if_pos H0.o];exact H7.o,h8,h9⟩
 ·have HE:Hid (enT x part fl=[]):=lH (by unfold enT;rw[if_neg h0])
  have HZ:Hid (Below w.heap.size w w1):=cR;have HRF:Hid (∀z,pZ x part fl=z->pZ x part fl=z):=lH fun z h=>h;generalize hz:pZ x part fl=z at *;have HZE:=lH hz;clear hz;have h0b:(z != 0)=true:=by simp[h0]
  clear h0;(go_wp2_with fail);go_ret2;refine⟨cR.o,none,0,0,by rw[HZE.o];rfl,by rw[HE.o];exact L6 _ _,lR,by simp[maxLen]⟩
theorem vD:eH 5=⟨#[53]⟩/\eH (-3)=⟨#[45,51]⟩/\eH 2=⟨#[50]⟩/\eH 9=⟨#[57]⟩:=by
 have key:∀(s:ByteArray)(q:Rat),dM s.data.toList=0->fB s=q->eH q=s:=fun s q h1 h2=>by rw[<-h2];exact QD h1
 exact⟨key _ _ (by decide+kernel) (by decide+kernel),key _ _ (by decide+kernel) (by decide+kernel),key _ _ (by decide+kernel) (by decide+kernel),key _ _ (by decide+kernel) (by decide+kernel)⟩
theorem ZF:pZ kP [⟨#[67]⟩,⟨#[68]⟩] [⟨#[53]⟩,⟨#[51]⟩]=0/\qP kP [⟨#[67]⟩,⟨#[68]⟩] [⟨#[53]⟩,⟨#[51]⟩]=[5,-3]:=by decide+kernel
theorem aE5:enT kP [⟨#[67]⟩,⟨#[68]⟩] [⟨#[53]⟩,⟨#[51]⟩]=[⟨#[53]⟩,⟨#[45,51]⟩]:=by
 unfold enT;rw[if_pos ZF.1,ZF.2,List.map_cons,List.map_cons,List.map_nil,vD.1,vD.2.1]
theorem ZE:fT 256 [⟨#[49,48]⟩,⟨#[45,56]⟩]=0/\cO ([⟨#[49,48]⟩,⟨#[45,56]⟩].map fB)=2/\iA ([⟨#[49,48]⟩,⟨#[45,56]⟩].map fB)=9:=by decide+kernel
theorem BM{q:Rat}(h:q.num.natAbs<10^5/\q.den<10^5):bJ q:=Tn.fits (k:=5) h (by decide)
theorem PL:bsS [⟨#[49,48]⟩,⟨#[45,56]⟩]=⟨#[50]⟩/\bsR [⟨#[49,48]⟩,⟨#[45,56]⟩]=⟨#[57]⟩/\GX [⟨#[49,48]⟩,⟨#[45,56]⟩]=0:=by
 obtain⟨h1,h2,h3⟩:=ZE;have:=aDz h1 (by rw[h2];exact BM (by decide+kernel)) (by rw[h3];exact BM (by decide+kernel));rw[h2,h3,vD.2.2.1,vD.2.2.2] at this;exact this
theorem V0{ss:List ByteArray}{x y:Int}{q r:Rat}(h0:GX ss=0)(h1:0<=x/\x<=1000000/\0<=y/\y<=2000)(h2:cO (ss.map fB)=q)(h3:iA (ss.map fB)=r):TK ss x y=decide (0<aCe (lB q) ((x:Rat)+Rat.divInt y 1000*r)):=by
 unfold TK;rw[if_pos ⟨h0,h1⟩,h2,h3]
theorem VZ{ss:List ByteArray}{x y:Int}(h0:GX ss=0)(h1:0<=x/\x<=1000000/\0<=y/\y<=2000):RA ss x y=0:=by
 unfold RA;rw[if_pos (ZI h0).1,if_pos h1,h0]
theorem PK:TK [⟨#[49,48]⟩,⟨#[45,56]⟩] 1 100=true/\RA [⟨#[49,48]⟩,⟨#[45,56]⟩] 1 100=0/\TK [⟨#[49,48]⟩,⟨#[45,56]⟩] 2 0=false/\RA [⟨#[49,48]⟩,⟨#[45,56]⟩] 2 0=0:=by
 obtain⟨h1,h2,h3⟩:=ZE;have h0:=PL.2.2;exact⟨by rw[V0 h0 (by decide) h2 h3];decide+kernel,VZ h0 (by decide),by rw[V0 h0 (by decide) h2 h3];decide+kernel,VZ h0 (by decide)⟩
theorem aIT:n_ kP [⟨#[67]⟩]=3:=by decide+kernel
theorem NO(w:Wo)(ht:eY w):Calls Tryz.prog 16 #[] w fun e w'=>e=.returned (.bool true)/\Below w.heap.size w w':=by
 have HT:=lH ht;clear ht;go_enter Tryz.func16,Tryz.ntmps16
 go_wp2_with fail
 refine(BO w).mono ?_;rintro e w1 ⟨h1,rfl,MW,k1⟩;have cR:=lH k1;have nI:=lH MW;clear k1 MW
 go_wp2_with fail
 have HKa:Hid (Below w1.heap.size w1 ((w1.alloc (.cells #[.string ⟨#[67]⟩,.string ⟨#[68]⟩] 9)).alloc (.cells #[.string ⟨#[53]⟩,.string ⟨#[51]⟩] 35))):=lH ((bA).alloc (by simp) _);have aN8:Hid (aW ((w1.alloc (.cells #[.string ⟨#[67]⟩,.string ⟨#[68]⟩] 9)).alloc (.cells #[.string ⟨#[53]⟩,.string ⟨#[51]⟩] 35)) ((w1.alloc (.cells #[.string ⟨#[67]⟩,.string ⟨#[68]⟩] 9)).alloc (.cells #[.string ⟨#[53]⟩,.string ⟨#[51]⟩] 35)).heap.size (some ⟨w1.heap.size,0,none⟩) 2 [⟨#[67]⟩,⟨#[68]⟩]):=lH (dS (zs:=[⟨#[67]⟩,⟨#[68]⟩]) (T:=9) (((aD.new_ (w:=w1) (by simp)).alloc _)) (by simp;omega));have aN7:Hid (aW ((w1.alloc (.cells #[.string ⟨#[67]⟩,.string ⟨#[68]⟩] 9)).alloc (.cells #[.string ⟨#[53]⟩,.string ⟨#[51]⟩] 35)) ((w1.alloc (.cells #[.string ⟨#[67]⟩,.string ⟨#[68]⟩] 9)).alloc (.cells #[.string ⟨#[53]⟩,.string ⟨#[51]⟩] 35)).heap.size (some ⟨w1.heap.size+1,0,none⟩) 2 [⟨#[53]⟩,⟨#[51]⟩]):=lH (dS (zs:=[⟨#[53]⟩,⟨#[51]⟩]) (T:=35) ((aD.new_ (w:=(w1.alloc (.cells #[.string ⟨#[67]⟩,.string ⟨#[68]⟩] 9))) (by simp))) (by simp));have HWa:=lH (cR.o.tm HKa.o);have HRa:=lH (nI.o.up HKa.o);have HTa:=lH (HT.o.up HWa.o);generalize ((w1.alloc (.cells #[.string ⟨#[67]⟩,.string ⟨#[68]⟩] 9)).alloc (.cells #[.string ⟨#[53]⟩,.string ⟨#[51]⟩] 35))=wa at *;have B9:Hid (∀z∈([⟨#[53]⟩,⟨#[51]⟩]:List ByteArray),z.size<=maxLen):=lH (by decide+kernel);have Z7:Hid (∀z∈([⟨#[49,48]⟩,⟨#[45,56]⟩]:List ByteArray),z.size<=maxLen):=lH (by decide+kernel);refine(F3 h1 kP _ 2 2 [⟨#[67]⟩,⟨#[68]⟩] _ 2 2 [⟨#[53]⟩,⟨#[51]⟩] wa HRa.o aN8.o aN7.o B9.o (by decide) (by decide) (by decide) (by decide) HTa.o).mono ?_;rintro e w2 ⟨bV,A2,n2,c2,rfl,h2,h3,h4⟩;have dB:=bX HWa bV;rw[aE5] at h2;have LA:n2=2:=h2.1.symm;subst LA;have yQ:=lH h2;rw[ZF.1];clear bV h2
 go_wp2_with fail
 have aJ3:Hid (Below w2.heap.size w2 (w2.alloc (.cells #[.string ⟨#[49,48]⟩,.string ⟨#[45,56]⟩] 35))):=lH (bA);have aJu:Hid (aW (w2.alloc (.cells #[.string ⟨#[49,48]⟩,.string ⟨#[45,56]⟩] 35)) (w2.alloc (.cells #[.string ⟨#[49,48]⟩,.string ⟨#[45,56]⟩] 35)).heap.size (some ⟨w2.heap.size,0,none⟩) 2 [⟨#[49,48]⟩,⟨#[45,56]⟩]):=lH (dS (zs:=[⟨#[49,48]⟩,⟨#[45,56]⟩]) (T:=35) (aD.new_ (w:=w2) (by simp)) (by simp));have aJj:=lH (dB.o.tm aJ3.o);have aN1:=lH (HT.o.up aJj.o);generalize (w2.alloc (.cells #[.string ⟨#[49,48]⟩,.string ⟨#[45,56]⟩] 35))=wa3 at *;refine(KH _ 2 2 [⟨#[49,48]⟩,⟨#[45,56]⟩] wa3 aJu.o Z7.o (by decide) aN1.o).mono ?_;rintro e w3 ⟨rfl,eF⟩;have gY:=bX aJj eF;have nB:=aJ3.o.tm eF;have DF:=lH (yQ.o.bm nB);rw[PL.1,PL.2.1,PL.2.2];clear eF nB
 go_wp2_with fail
 have aJ2:Hid (Below w3.heap.size w3 (w3.alloc (.cells #[.string ⟨#[49,48]⟩,.string ⟨#[45,56]⟩] 35))):=lH (bA);have aJt:Hid (aW (w3.alloc (.cells #[.string ⟨#[49,48]⟩,.string ⟨#[45,56]⟩] 35)) (w3.alloc (.cells #[.string ⟨#[49,48]⟩,.string ⟨#[45,56]⟩] 35)).heap.size (some ⟨w3.heap.size,0,none⟩) 2 [⟨#[49,48]⟩,⟨#[45,56]⟩]):=lH (dS (zs:=[⟨#[49,48]⟩,⟨#[45,56]⟩]) (T:=35) (aD.new_ (w:=w3) (by simp)) (by simp));have aJi:=lH (gY.o.tm aJ2.o);have aN0:=lH (HT.o.up aJi.o);generalize (w3.alloc (.cells #[.string ⟨#[49,48]⟩,.string ⟨#[45,56]⟩] 35))=wa4 at *;refine(uF _ 2 2 1 100 [⟨#[49,48]⟩,⟨#[45,56]⟩] wa4 aJt.o Z7.o (by decide) aN0.o).mono ?_;rintro e w4 ⟨rfl,h_⟩;have bH:=bX aJi h_;have nF:=aJ2.o.tm h_;have LE:=lH (DF.o.bm nF);rw[PK.1,PK.2.1];clear h_ nF
 go_wp2_with fail
 have aJ1:Hid (Below w4.heap.size w4 (w4.alloc (.cells #[.string ⟨#[49,48]⟩,.string ⟨#[45,56]⟩] 35))):=lH (bA);have aJs:Hid (aW (w4.alloc (.cells #[.string ⟨#[49,48]⟩,.string ⟨#[45,56]⟩] 35)) (w4.alloc (.cells #[.string ⟨#[49,48]⟩,.string ⟨#[45,56]⟩] 35)).heap.size (some ⟨w4.heap.size,0,none⟩) 2 [⟨#[49,48]⟩,⟨#[45,56]⟩]):=lH (dS (zs:=[⟨#[49,48]⟩,⟨#[45,56]⟩]) (T:=35) (aD.new_ (w:=w4) (by simp)) (by simp));have aJh:=lH (bH.o.tm aJ1.o);have aNZ:=lH (HT.o.up aJh.o);generalize (w4.alloc (.cells #[.string ⟨#[49,48]⟩,.string ⟨#[45,56]⟩] 35))=wa5 at *;refine(uF _ 2 2 2 0 [⟨#[49,48]⟩,⟨#[45,56]⟩] wa5 aJs.o Z7.o (by decide) aNZ.o).mono ?_;rintro e w5 ⟨rfl,eS⟩;have dK:=bX aJh eS;have CM:=aJ1.o.tm eS;have DE:=lH (LE.o.bm CM);rw[PK.2.2.1,PK.2.2.2];clear eS CM
 go_wp2_with fail
 refine(BO w5).mono ?_;rintro e w6 ⟨h6,rfl,CN,k6⟩;have d6:=bX dK k6;have HR6:=lH CN;have HV6:=lH (DE.o.bm k6);clear k6 CN
 go_wp2_with fail
 have HKb:Hid (Below w6.heap.size w6 (w6.alloc (.cells #[.string ⟨#[67]⟩] 9))):=lH (bA);have aN6:Hid (aW (w6.alloc (.cells #[.string ⟨#[67]⟩] 9)) (w6.alloc (.cells #[.string ⟨#[67]⟩] 9)).heap.size (some ⟨w6.heap.size,0,none⟩) 1 [⟨#[67]⟩]):=lH (dS (zs:=[⟨#[67]⟩]) (T:=9) (aD.new_ (w:=w6) (by simp)) (by simp));obtain⟨HWb,HRb,HVb⟩:=eR (d6.o.tm HKb.o) (HR6.o.up HKb.o) (HV6.o.bm HKb.o);generalize (w6.alloc (.cells #[.string ⟨#[67]⟩] 9))=wb at *;refine(pB h6 kP _ 1 1 [⟨#[67]⟩] wb HRb.o aN6.o (by decide) (by decide) (by decide)).mono ?_;rintro e w7 ⟨fR,A7,n7,c7,rfl,-,-,-⟩;have gN:=bX HWb fR;have HV7:=lH (HVb.o.bm fR);rw[aIT];clear fR
 go_wp2_with fail
 have HKc:Hid (Below w7.heap.size w7 (w7.alloc (.cells #[.string ⟨#[53]⟩,.string ⟨#[45,51]⟩] 35))):=lH (bA);have aN5:Hid (aW (w7.alloc (.cells #[.string ⟨#[53]⟩,.string ⟨#[45,51]⟩] 35)) (w7.alloc (.cells #[.string ⟨#[53]⟩,.string ⟨#[45,51]⟩] 35)).heap.size (some ⟨w7.heap.size,0,none⟩) 2 [⟨#[53]⟩,⟨#[45,51]⟩]):=lH (dS (zs:=[⟨#[53]⟩,⟨#[45,51]⟩]) (T:=35) (aD.new_ (w:=w7) (by simp)) (by simp));have HWc:=lH (gN.o.tm HKc.o);have HVc:=lH (HV7.o.bm HKc.o);generalize (w7.alloc (.cells #[.string ⟨#[53]⟩,.string ⟨#[45,51]⟩] 35))=wc at *;refine(IM A2 2 c2 [⟨#[53]⟩,⟨#[45,51]⟩] _ 2 2 [⟨#[53]⟩,⟨#[45,51]⟩] wc HVc.o aN5.o (by decide) (by decide)).mono ?_;rintro e w8 ⟨rfl,mL⟩;have hX:=bX HWc mL;rw[decide_eq_true rfl];clear mL
 go_wp2_with fail
 go_ret;exact⟨rfl,hX.o⟩
end
section
open Go.ChangeShapes Go.WideShapes Go.ChangeAt Go.RowKit
attribute [local go_sem ↓] aE
attribute [local go_sem] aJ aI aL aX
theorem RK(A:OA)(n c:Nat)(qs:List Rat)(Z:Nat)(w:Wo)(hA:hO w w.heap.size A n qs)(hn:n<=9223372036854775807)(ha:∀q∈qs,bM q<=Z)(hz:n*(Z+1)+Z+2<=35184372088832):Calls Tryz.prog 46 #[.slice A n c] w (QP (cO qs) w):=by
 obtain⟨HA,vR,Z_,HZ⟩:=gO hA hA.len ha hz;have cI:Hid (Below w.heap.size w ((w.alloc dC))):=lH (bA);have HR:Hid (aD ((w.alloc dC)) w.heap.size 87 #[.bool false,.slice none 0 0,.bool false,.slice none 0 0]):=lH (aD.new w _ _);clear hA ha hz;go_enter Tryz.func46,Tryz.ntmps46
 go_upto_region 1 with fail
 generalize ((w.alloc dC))=W at *
 go_wp2_with fail
 refine(oQ 0 W (by decide) (by decide)).mono ?_;rintro e w1 ⟨bG,v1,rfl,h1⟩;have cR:=bX cI bG;have nI:=lH (HR.o.bl bG);have H1:=lH h1;clear bG h1 HR
 go_wp2_with fail
 generalize lQ:w1.alloc (.cells #[.bool v1.b1,.slice v1.A v1.n v1.c,.bool v1.b2,.slice v1.A2 v1.m v1.d] 87)=wa;have fP:Below w1.heap.size w1 wa:=by rw[<-lQ];exact bA
 have kZ:Hid (aD wa w1.heap.size 87 #[.bool v1.b1,.slice v1.A v1.n v1.c,.bool v1.b2,.slice v1.A2 v1.m v1.d]):=lH (by rw[<-lQ];exact aD.new w1 _ _);have G2:=bX cR fP;have r_:=lH (nI.o.bl fP);have HVA:Hid (cY wa wa.heap.size (0:Rat) v1):=lH (by have:=H1.o.up fP;simpa using this);have p_:Hid (w.heap.size<w1.heap.size):=lH nI.o.lt;clear lQ fP;generalize w1.heap.size=g at *
 go_loopw [9] (fun v9 wr=>∃(k:Nat)(v:Rv),k<=n/\v9=.int .i64 k/\Below w.heap.size w wr/\aD wr w.heap.size 87 #[.bool false,.slice none 0 0,.bool false,.slice none 0 0]/\aD wr g 87 #[.bool v.b1,.slice v.A v.n v.c,.bool v.b2,.slice v.A2 v.m v.d]/\cY wr wr.heap.size (cO (qs.take k)) v) (fun v9 _=>n-(intOf v9).toNat)
 case atStart=>exact⟨0,v1,by omega,rfl,G2.o,r_.o,kZ.o,by rw[List.take_zero];exact HVA.o⟩
 case round=>
  obtain⟨k,v,hk,rfl,hb,hr,hg,hv⟩:=hrel;obtain⟨HK,HR,HG,HV⟩:=gO hb hr hg hv;clear hb hr hg hv;by_cases aR:k<n
  ·obtain⟨x,hx⟩:∃x,qs[k]?=some x:=eG (by have:=vR.o;omega)
   obtain⟨ab,ao,sX,iI⟩:=HA.o.form (by omega);subst sX;have HS:Hid (cO (qs.take (k+1))=cO (qs.take k)+x):=lH (by rw[fG hx,nL]);have HQX:=lH (Z_.o x (cS hx));have N0:Hid (bM (cO (qs.take k))<=n*(Z+1)+1):=lH (by
    have h1:=kL (qs.take k).length (qs.take k) rfl Z fun q hq=>Z_.o q (List.mem_of_mem_take hq);have h2:(qs.take k).length<=n:=by rw[kC];omega
    have:=Nat.mul_le_mul_right (Z+1) h2;omega)
   obtain⟨vx,a0,a1,a2,a3,a4⟩:=(HA.o.below HK.o lR).at_ hx;have JJ:ab<wr.heap.size:=jJ iI HK.o.size;have HVX:=lH ((cY.more (w:=wr) a4 HK.o.size));clear hx iI a4;have iM:(k:Int)<(n:Int):=by omega
   have gB:=lN k;have e_:Hid (n-(k+1)<n-k):=lH (by omega);(go_upto_region 5 with fail);clear a0 a1 a2 a3 JJ;generalize hwb:wr.alloc (.cells #[.bool vx.b1,.slice vx.A vx.n vx.c,.bool vx.b2,.slice vx.A2 vx.m vx.d] 87)=wb;have pY:Below wr.heap.size wr wb:=by rw[<-hwb];exact bA
   have HXB:Hid (aD wb wr.heap.size 87 #[.bool vx.b1,.slice vx.A vx.n vx.c,.bool vx.b2,.slice vx.A2 vx.m vx.d]):=lH (by rw[<-hwb];exact aD.new wr _ _);have rN:=bX HK pY;obtain⟨qU,fW,yQ,aJm⟩:=gO (HR.o.bl pY) (HG.o.bl pY) (HV.o.up pY) (HVX.o.up pY);clear hwb pY HR HG;obtain⟨p0,p1,p2,p3,pl⟩:=fW.o.b4;obtain⟨q0,q1,q2,q3,ql⟩:=HXB.o.b4;(go_wp2_with fail);refine(B5 yQ.o aJm.o (by have:=HQX.o;have:=N0.o;have:=HZ.o;omega)).mono ?_;clear p0 p1 p2 p3 pl q0 q1 q2 q3 ql;rintro e w6 ⟨eE,v6,rfl,h6⟩;have GL:=bX rN eE;obtain⟨HRF,nE,H6⟩:=eR (qU.o.bl eE) (fW.o.bl eE) h6;clear eE h6;obtain⟨p0,p1,p2,p3,pf,pl⟩:=nE.o.e4;(go_wp2_with fail);go_roundw
   case rel=>exact⟨k+1,v6,aR,aM gB.o,eL GL.o (qY p_.o),CU HRF.o (Nat.ne_of_lt p_.o),FJ nE.o,by rw[HS.o];exact H6.o.keepq nE.o⟩
   case measure=>exact e_.o
  ·have pP:k=n:=by omega
   subst pP;have iM:¬(k:Int)<(k:Int):=by omega
   have HE:Hid (cY wr wr.heap.size (cO qs) v):=lH (by
    have h:=HV.o;rw[oP (by rw[vR.o];exact lR)] at h;exact h)
   obtain⟨p0,p1,p2,p3,pl⟩:=HG.o.b4;obtain⟨z0,z1,z2,z3,zf,zl⟩:=HR.o.e4;(go_wp2_with fail);clear p0 p1 p2 p3 pl z0 z1 z2 z3 zf zl;have HX:=lH (FJ (v:=v) (x:=sD) HR.o);have eU:=lH (eL (v:=v) HK.o lR);have HV9:=lH (HE.o.keepq (v:=v) (x:=sD) HR.o);unfold oU at eU;generalize (((wr.setCell ⟨_,0,none⟩ _).setCell ⟨_,1,none⟩ _).setCell ⟨_,2,none⟩ _).setCell ⟨_,3,none⟩ _=W9 at *;obtain⟨q0,q1,q2,q3⟩:=HX.o.a4;exact bodyPost_ret (v:=.agg #[.bool v.b1,.slice v.A v.n v.c,.bool v.b2,.slice v.A2 v.m v.d]) (by simp[results,Tryz.results46,go_sem,q0,q1,q2,q3]) rfl ⟨eU.o,v,rfl,HV9.o⟩
def W4(x:bP)(part fl:List ByteArray):ByteArray:=if pZ x part fl=0 then rnS (cO (qP x part fl)) else⟨#[]⟩
def inE(x:bP)(part fl:List ByteArray):Int:=if pZ x part fl=0 then rnE (cO (qP x part fl)) else pZ x part fl
theorem MP(h:cQ)(x:bP)(A:OA)(n c:Nat)(part:List ByteArray)(F:OA)(f fc:Nat)(fl:List ByteArray)(w:Wo)(r:cX w w.heap.size h x)(hp:aW w w.heap.size A n part)(hf:aW w w.heap.size F f fl)(hfs:∀s∈fl,s.size<=maxLen)(hn:n<=9223372036854775807)(GU:n<=c)(hc:c<=9223372036854775807)(XX:f<=9223372036854775807)(ht:eY w):Calls Tryz.prog 18 #[.agg h.cells,.slice A n c,.slice F f fc] w fun e w'=>e=.returned (.tuple #[.string (W4 x part fl),.int .i64 (inE x part fl)])/\Below w.heap.size w w':=by
 have K0:=vM w (.cells h.cells 29);obtain⟨HK,HX,HT⟩:=eR K0 (aD.new w 29 h.cells) ht;have HC:=lH (sG h x A n c part F f fc fl _ (r.up K0) (hp.bm K0) (hf.bm K0) hfs hn GU hc XX (ht.up K0));have P5:Hid (pZ x part fl=0->(qP x part fl).length<=24):=lH fun h0=>by
  obtain⟨h1,h2,h3⟩:=nV h0;have kU:=fH (m6 h1).1;unfold qP;rw[if_pos h0,kJ];unfold qQ;rw[if_pos h1];have:=u9 part x.brs 0;have:=kU.l2;omega
 clear K0 r hp hf hfs ht;obtain⟨A0,m0,c0,A1,m1,c1,A2,m2,c2,A3,m3,c3,A4,m4,c4,A5,m5,c5⟩:=h;simp only[cQ.cells] at HK HX HC ⊢;go_enter Tryz.func18,Tryz.ntmps18
 go_upto_region 1 with fail
 generalize w.alloc (.cells #[.slice A0 m0 c0,.slice A1 m1 c1,.slice A2 m2 c2,.slice A3 m3 c3,.slice A4 m4 c4,.slice A5 m5 c5] 29)=W at *;obtain⟨y0,y1,y2,y3,y4,y5,xY⟩:=HX.o.b6
 go_wp2_with fail
 refine HC.o.mono ?_;clear y0 y1 y2 y3 y4 y5 xY HC;rintro e w1 ⟨bG,L,ln,lc,rfl,hl,hlc,hlm⟩;have cR:=bX HK bG;have HL:=lH hl;clear bG HK HX hl;by_cases h0:pZ x part fl=0
 ·have H0:=lH h0
  have hln:ln<=24:=by rw[<-HL.o.len];exact P5.o h0
  have HE:Hid (W4 x part fl=rnS (cO (qP x part fl))/\inE x part fl=rnE (cO (qP x part fl))):=lH (by unfold W4 inE;rw[if_pos h0,if_pos h0];exact⟨rfl,rfl⟩);have HC:=lH (RK L ln lc (qP x part fl) 2000 w1 HL.o (by omega) (fun q hq=>JQ (JT h0 q hq)) (by omega));rw[h0];clear h0;(go_wp2_with fail);refine HC.o.mono ?_;clear HC;rintro e w2 ⟨bV,v2,rfl,h2⟩;have dB:=bX cR bV;have H2:=lH h2;clear bV h2 cR;(go_wp2_with fail);refine(UO H2.o (HT.o.up dB.o)).mono ?_;rintro e w3 ⟨eF,s,rfl,hs⟩;have gY:=bX dB eF;have HS:=lH hs;clear eF hs dB H2;by_cases hf:bJ (cO (qP x part fl))
  ·have e1:W4 x part fl=s/\inE x part fl=0:=by
    rw[HE.o.1,HE.o.2,aD3 hf,HS.o hf,U6 hf];exact⟨rfl,rfl⟩
   have tL:=lH e1;rw[decide_eq_true hf];clear hf e1;(go_wp2_with fail);go_ret2;exact⟨by rw[tL.o.1,tL.o.2];rfl,gY.o⟩
  ·have e1:W4 x part fl=⟨#[]⟩/\inE x part fl=2:=by
    rw[HE.o.1,HE.o.2];exact⟨if_neg hf,if_neg hf⟩
   have tL:=lH e1;rw[decide_eq_false hf];clear hf e1;(go_wp2_with fail);go_ret2;exact⟨by rw[tL.o.1,tL.o.2];rfl,gY.o⟩
 ·have HE:Hid (W4 x part fl=⟨#[]⟩/\inE x part fl=pZ x part fl):=lH (by unfold W4 inE;rw[if_neg h0,if_neg h0];exact⟨rfl,rfl⟩)
  generalize pZ x part fl=z at *;have h0b:(z != 0)=true:=by simp[h0]
  clear h0;(go_wp2_with fail);go_ret2;exact⟨by rw[HE.o.1,HE.o.2];rfl,cR.o⟩
end
