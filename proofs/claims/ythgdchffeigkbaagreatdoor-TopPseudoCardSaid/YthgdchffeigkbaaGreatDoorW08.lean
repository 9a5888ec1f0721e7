import Derived.Test.YthgdchffeigkbaaGreatDoorW05
import Derived.Test.YthgdchffeigkbaaGreatDoorW06
set_option linter.unusedVariables false
set_option linter.unusedSimpArgs false
namespace Go.Proofs.YthgdchffeigkbaaGreatDoor
set_option maxHeartbeats 8000000
set_option maxRecDepth 100000
variable {a : List Rat} {i j k n : Nat} {v : Value} {w : World} {x : bK}
section
open Go.ChangeShapes Go.WideShapes Go.ChangeAt Go.RowKit
attribute [local go_sem ↓] aE
attribute [local go_sem] aL aK aO
theorem aAs(p:Rat)(b1:Bool)(A:OA)(n c:Nat)(b2:Bool)(A2:OA)(n2 c2:Nat)(w:Wo)(h1:cQ w w.heap.size p b1 A n c b2 A2 n2 c2):Calls Tryz.prog 119 #[.agg #[.bool b1,.slice A n c,.bool b2,.slice A2 n2 c2]] w fun e w'=>e=.returned (.int .i64 p.num.sign)/\Below w.heap.size w w':=by
 have eD:Hid (Below w.heap.size w (w.alloc (aY b1 A n c b2 A2 n2 c2))):=lH (bA);have fB:=lH (aD.new w 115 #[.bool b1,.slice A n c,.bool b2,.slice A2 n2 c2]);have H1:=lH (h1.up eD.o);clear h1;go_enter Tryz.func119,Tryz.ntmps119
 go_upto_region 1 with fail
 generalize w.alloc (aY b1 A n c b2 A2 n2 c2)=W at *;obtain⟨p0,p1,p2,p3,pl⟩:=fB.o.b4
 go_wp2_with fail
 refine(CZ p.num b1 A n c W H1.o.num).mono ?_;rintro e w1 ⟨rfl,bO⟩;have cI:=cJ eD bO;clear bO
 go_wp2_with fail
 go_ret;exact⟨rfl,cI.o⟩
theorem Z7(k:Int)(w:Wo)(h0:-9223372036854775808<=k)(h1:k<=9223372036854775807):Calls Tryz.prog 66 #[.int .i64 k] w (RtP (k:Rat) w):=by
 have eD:Hid (Below w.heap.size w (w.alloc dR)):=lH (bA);have HR:Hid (aD (w.alloc dR) w.heap.size 115 #[.bool false,.slice none 0 0,.bool false,.slice none 0 0]):=lH (aD.new w _ _);have mO:w.heap.size<=w.heap.size:=lR;go_enter Tryz.func66,Tryz.ntmps66
 go_upto_region 1 with fail
 generalize (w.alloc dR)=W at *
 go_wp2_with fail
 refine(yJ k W h0 h1).mono ?_;rintro e w1 ⟨bO,f5,C5,i5,j5,rfl,h5⟩;have cI:=cJ eD bO;have BK:=lH (HR.o.bl bO);have H5:=lH h5;clear bO h5
 go_wp2_with fail
 refine(yJ 1 w1 (by decide) (by decide)).mono ?_;rintro e w2 ⟨bH,f6,C6,i6,j6,rfl,h6⟩;have dN:=cJ cI bH;have BV:=lH (BK.o.bl bH);have HQ:Hid (cQ w2 w2.heap.size (k:Rat) f5 C5 i5 j5 f6 C6 i6 j6):=lH ⟨by rw[Rat.num_intCast];exact H5.o.up bH,by rw[Rat.den_intCast];exact h6⟩;clear bH h6;obtain⟨z0,z1,z2,z3,zf,zl⟩:=BV.o.e4
 go_wp2_with fail
 generalize fG:(((w2.setCell ⟨_,0,none⟩ _).setCell ⟨_,1,none⟩ _).setCell ⟨_,2,none⟩ _).setCell ⟨_,3,none⟩ _=W9;have iZ:=lH (nF (e:=.returned (.agg #[.bool f5,.slice C5 i5 j5,.bool f6,.slice C6 i6 j6])) dN.o mO BV.o (by simp) (by simp) (by simp) (by simp) HQ.o rfl);rw[fG] at iZ;have fH:Hid (aD W9 _ 115 #[.bool f5,.slice C5 i5 j5,.bool f6,.slice C6 i6 j6]):=lH (by rw[<-fG];exact fU BV.o);clear fG z0 z1 z2 z3 zf zl;obtain⟨q0,q1,q2,q3⟩:=fH.o.a4;exact bodyPost_ret (v:=.agg #[.bool f5,.slice C5 i5 j5,.bool f6,.slice C6 i6 j6]) (by simp[results,Tryz.results66,go_sem,q0,q1,q2,q3]) rfl iZ.o
theorem aFs(k d:Int)(w:Wo)(h0:-9223372036854775808<=k)(h1:k<=9223372036854775807)(h2:-9223372036854775808<=d)(h3:d<=9223372036854775807)(hd:d≠0):Calls Tryz.prog 92 #[.int .i64 k,.int .i64 d] w (RtP (Rat.divInt k d) w):=by
 have eD:Hid (Below w.heap.size w (w.alloc dR)):=lH (bA);have HR:Hid (aD (w.alloc dR) w.heap.size 115 #[.bool false,.slice none 0 0,.bool false,.slice none 0 0]):=lH (aD.new w _ _);have mO:w.heap.size<=w.heap.size:=lR;have sz:∀z:Int,-9223372036854775808<=z->z<=9223372036854775807->dA z.natAbs<=2:=fun z a b=>kI (by show _<4294967296^2;omega);have s1:=sz k h0 h1;have s2:=sz d h2 h3;clear sz;go_enter Tryz.func92,Tryz.ntmps92
 go_upto_region 1 with fail
 generalize (w.alloc dR)=W at *
 go_wp2_with fail
 refine(yJ k W h0 h1).mono ?_;rintro e w1 ⟨bO,f5,C5,i5,j5,rfl,h5⟩;have cI:=cJ eD bO;have BK:=lH (HR.o.bl bO);have H5:=lH h5;clear bO h5
 go_wp2_with fail
 refine(yJ d w1 h2 h3).mono ?_;rintro e w2 ⟨bH,f6,C6,i6,j6,rfl,h6⟩;have dN:=cJ cI bH;obtain⟨BV,H52,H62⟩:=dZ (BK.o.bl bH) (H5.o.up bH) h6;clear bH h6
 go_wp2_with fail
 refine(v_ k d f5 C5 i5 j5 f6 C6 i6 j6 w2 H52.o H62.o hd (by rw[H52.o.en];omega) (by rw[H62.o.en];omega)).mono ?_;rintro e w3 ⟨dK,f7,C7,i7,j7,f7d,C7d,i7d,j7d,rfl,h7⟩;have fV:=cJ dN dK;have MK:=lH (BV.o.bl dK);have H7:=lH h7;clear dK h7;obtain⟨z0,z1,z2,z3,zf,zl⟩:=MK.o.e4
 go_wp2_with fail
 generalize fG:(((w3.setCell ⟨_,0,none⟩ _).setCell ⟨_,1,none⟩ _).setCell ⟨_,2,none⟩ _).setCell ⟨_,3,none⟩ _=W9;have iZ:=lH (nF (e:=.returned (.agg #[.bool f7,.slice C7 i7 j7,.bool f7d,.slice C7d i7d j7d])) fV.o mO MK.o (by simp) (by simp) (by simp) (by simp) H7.o rfl);rw[fG] at iZ;have fH:Hid (aD W9 _ 115 #[.bool f7,.slice C7 i7 j7,.bool f7d,.slice C7d i7d j7d]):=lH (by rw[<-fG];exact fU MK.o);clear fG z0 z1 z2 z3 zf zl;obtain⟨q0,q1,q2,q3⟩:=fH.o.a4;exact bodyPost_ret (v:=.agg #[.bool f7,.slice C7 i7 j7,.bool f7d,.slice C7d i7d j7d]) (by simp[results,Tryz.results92,go_sem,q0,q1,q2,q3]) rfl iZ.o
end
section
open Go.ChangeShapes Go.WideShapes Go.ChangeAt Go.RowKit
attribute [local go_sem ↓] aE
attribute [local go_sem] aL aK aO a_ bZ.cells
theorem aBj(A:OA)(c n:Nat)(es:List (Nat×Nat))(w:Wo)(hE:SN w w.heap.size A es.length es)(ok:∀x∈es,x.1<n/\x.2<n)(hn:n<=24)(he:es.length<=64):Calls Tryz.prog 132 #[.int .i64 n,.slice A es.length c] w fun e w'=>e=.returned (.int .i64 0)/\Below w.heap.size w w':=by
 obtain⟨HE,bM,eD⟩:=dZ hE ok (Below.refl w.heap.size w);clear hE ok;go_enter Tryz.func132,Tryz.ntmps132
 go_wp2_with fail
 go_loopw [20] (fun v wr=>∃k:Nat,k<=es.length/\v=.int .i64 k/\Below w.heap.size w wr) (fun v _=>es.length-(intOf v).toNat)
 case atStart=>exact⟨0,by omega,rfl,eD.o⟩
 case round=>
  obtain⟨k,hk,rfl,hb⟩:=hrel;have HB:=lH hb;clear hb;by_cases aR:k<es.length
  ·obtain⟨⟨xa,xb⟩,hx⟩:∃x,es[k]?=some x:=⟨_,gS aR⟩
   have hE:=(HE.o.below HB.o lR).more HB.o.size;obtain⟨eb,eo,heA,heb⟩:=hE.form (by omega);subst heA;obtain⟨e0,e1⟩:=hE.at_ hx;dsimp only at e0 e1;obtain⟨hxa,hxb⟩:=bM.o _ (bS hx);dsimp only at hxa hxb;have f_:(k:Int)<(es.length:Int):=by omega
   have hI1:(xa:Int)<(n:Int):=by omega
   have hI2:(xb:Int)<(n:Int):=by omega
   have OZ:=lH (HB.o.alloc HB.o.size (.cells #[.int .i64 xa,.int .i64 xb] 166));clear hE hx;(go_wp2_with fail);go_roundw
   case rel=>exact⟨k+1,by omega,by go_num,OZ.o⟩
   case measure=>simp[intOf];omega
  ·have hkk:k=es.length:=by omega
   subst hkk;(go_wp2_with fail);go_ret;exact⟨rfl,HB.o⟩
def aLs(n:Nat)(es:List (Nat×Nat))(w:Wo)(e:Ending)(w':Wo):Prop:=
 Below w.heap.size w w'/\∃g:Nat,e=.returned (.tuple #[.slice (some ⟨g,0,none⟩) n n,.int .i64 0])/\w.heap.size<=g/\aD w' g 3 (ints (jU n es)).toArray
theorem aFX(n:Nat)(es:List (Nat×Nat))(w:Wo)(e:Ending)(w':Wo)(h:Below w.heap.size w w'/\∃g:Nat,e=.returned (.tuple #[.slice (some ⟨g,0,none⟩) n n,.int .i64 0])/\w.heap.size<=g/\aD w' g 3 (ints (jU n es)).toArray):aLs n es w e w':=h
theorem R5(A:OA)(c n:Nat)(es:List (Nat×Nat))(w:Wo)(hE:SN w w.heap.size A es.length es)(ok:∀x∈es,x.1<n/\x.2<n)(hn:n<=24)(he:es.length<=64):Calls Tryz.prog 101 #[.int .i64 n,.slice A es.length c] w (aLs n es w):=by
 obtain⟨HE,bM,HP⟩:=dZ hE ok (aFX n es w);clear hE ok;go_enter Tryz.func101,Tryz.ntmps101
 go_wp2_with fail
 refine(aBj A c n es w HE.o bM.o hn he).mono ?_;rintro e w1 ⟨rfl,hb⟩;have HB:=lH hb;clear hb
 go_wp2_with fail
 refine(aAF A c n es w1 (HE.o.bm HB.o) bM.o (by omega) (by omega)).mono ?_;rintro e w2 ⟨bH,g,rfl,hg,dO⟩;have dN:=cJ HB bH;have HG:=lH hg;have oU:=lH dO;clear bH hg dO
 go_wp2_with fail
 go_ret2;exact HP.o _ _ ⟨dN.o,g,rfl,b_ HB.o.size HG.o,oU.o⟩
def zQ(nodes:List ByteArray)(op:Bool)(s:Sw):List (Nat×Nat):=if s.opn=op then[(dF nodes s.a,dF nodes s.b)] else[]
def swE(x:bK)(op:Bool):List (Nat×Nat):=x.sws.flatMap (zQ x.nodes op)
theorem aLy{α β:Type}(f:α->List β){l:List α}{x:α}(h:l[k]?=some x):(l.take (k+1)).flatMap f=(l.take k).flatMap f++f x:=by
 rw[List.take_add_one,h,List.flatMap_append];simp
theorem aEh{α β:Type}(f:α->List β)(m:Nat)(h:∀a,(f a).length<=m):∀l:List α,(l.flatMap f).length<=m*l.length
 | []=>by simp
 | a::l=>by
  have h1:=aEh f m h l;have h2:=h a;rw[List.flatMap_cons,g_,EX,Nat.mul_succ];omega
theorem O6(nodes:List ByteArray)(op:Bool)(s:Sw):(zQ nodes op s).length<=1:=by unfold zQ;split<;>simp
theorem aEo:(Tryz.prog.info? 166).map (fun i=>(i.zero,i.size,i.bytes))=some (some (.agg #[.int .i64 0,.int .i64 0]),2,16):=by kernel_rfl
structure EgS (w0 W:Wo) (h:bZ) (v6 v7:Value) (es:List (Nat×Nat)) (ws:List Value):Prop where
 low:Below w0.heap.size w0 W
 q1:aD W w0.heap.size 29 h.cells
 o6:W.ownsRow (w0.heap.size+1) 166 2 v6 es.length (es.flatMap OU)
 o7:W.ownsRow (w0.heap.size+1) 3 1 v7 ws.length ws
 ap:v7.ownBlock=none\/v7.ownBlock≠v6.ownBlock
 sz:w0.heap.size+1<=W.heap.size
theorem UG{w':Wo}{base e size:Nat}{xs:List Value}(h:w.ownsRow base e size v n xs)(hb:Below w.heap.size w w'):w'.ownsRow base e size v n xs:=by
 refine⟨h.1,?_⟩;rcases h.2 with h1 | ⟨g,cap,cur,h1,h2,h3,h4⟩
 ·exact .inl h1
 ·refine .inr ⟨g,cap,cur,h1,h2,?_,h4⟩
  have hg:g<w.heap.size:=by
   rcases Nat.lt_or_ge g w.heap.size with aR | TC
   ·exact aR
   ·rw[Array.getElem?_eq_none TC] at h3;cases h3
  exact(hb.block g hg).trans h3
theorem EgS.up{w0 W W':Wo}{h:bZ}{v6 v7:Value}{es:List (Nat×Nat)}{ws:List Value}(H:EgS w0 W h v6 v7 es ws)(hb:Below W.heap.size W W'):EgS w0 W' h v6 v7 es ws:=
 ⟨H.low.tm hb,H.q1.bl hb,UG H.o6 hb,UG H.o7 hb,H.ap,b_ H.sz hb.size⟩
theorem wE{B e size g:Nat}{xs:List Value}(h:w.ownsRow B e size v n xs)(hg:v.ownBlock=some g):B<=g/\g<w.heap.size:=h.lt g hg
theorem EgS.app6{w0 W W' W1:Wo}{h:bZ}{v6 v7:Value}{es:List (Nat×Nat)}{ws:List Value}(H:EgS w0 W h v6 v7 es ws)(hb:Below W.heap.size W W'){p:Nat×Nat}{g cap:Nat}(ho:W1.ownsRow (w0.heap.size+1) 166 2 (.slice (some ⟨g,0,none⟩) (es.length+1) cap) (es.length+1) (es.flatMap OU++OU p))(hg:W'.grownBy W1 v6.ownBlock)(AU:v6.ownBlock=some g\/g=W'.heap.size):EgS w0 W1 h (.slice (some ⟨g,0,none⟩) (es.length+1) cap) v7 (es++[p]) ws:=by
 have H':=H.up hb;have cG:v7.ownBlock=none\/v7.ownBlock≠v6.ownBlock:=H'.ap;have AQ:Below w0.heap.size w0 W1:=by
  refine⟨hg.os.trans H'.low.os,hg.tape.trans H'.low.tape,hg.output.trans H'.low.output,b_ H'.low.size hg.size,fun i hi=>?_⟩;have cG:some i≠v6.ownBlock:=fun e=>by have:=(wE H'.o6 e.symm).1;omega
  exact(hg.block i (by have:=H'.sz;omega) cG).trans (H'.low.block i hi)
 refine⟨AQ,H'.q1.grown hg (fun e=>?_),?_,H'.o7.kept hg cG,?_,b_ H'.sz hg.size⟩
 ·have:=(wE H'.o6 e.symm).1;omega
 ·rw[g_,List.flatMap_append]
  simpa[OU] using ho
 ·rcases cG with h1 | h1
  ·exact .inl h1
  ·right
   intro e;rcases AU with h2 | h2
   ·rw[h2] at h1;exact h1 e
   ·have h3:v7.ownBlock=some g:=e
    have:=(wE H'.o7 h3).2;omega
theorem EgS.app7{w0 W W' W1:Wo}{h:bZ}{v6 v7:Value}{es:List (Nat×Nat)}{ws:List Value}(H:EgS w0 W h v6 v7 es ws)(hb:Below W.heap.size W W'){u:Value}{g cap:Nat}(ho:W1.ownsRow (w0.heap.size+1) 3 1 (.slice (some ⟨g,0,none⟩) (ws.length+1) cap) (ws.length+1) (ws++[u]))(hg:W'.grownBy W1 v7.ownBlock)(AU:v7.ownBlock=some g\/g=W'.heap.size):EgS w0 W1 h v6 (.slice (some ⟨g,0,none⟩) (ws.length+1) cap) es (ws++[u]):=by
 have H':=H.up hb;have hap:=H'.ap;have cG:v6.ownBlock=none\/v6.ownBlock≠v7.ownBlock:=by
  rcases hap with h1 | h1
  ·rw[h1]
   cases h6:v6.ownBlock with
   | none=>exact .inl rfl
   | some k=>exact .inr (by simp)
  ·exact .inr (Ne.symm h1)
 have AQ:Below w0.heap.size w0 W1:=by
  refine⟨hg.os.trans H'.low.os,hg.tape.trans H'.low.tape,hg.output.trans H'.low.output,b_ H'.low.size hg.size,fun i hi=>?_⟩;have cG:some i≠v7.ownBlock:=fun e=>by have:=(wE H'.o7 e.symm).1;omega
  exact(hg.block i (by have:=H'.sz;omega) cG).trans (H'.low.block i hi)
 refine⟨AQ,H'.q1.grown hg (fun e=>?_),H'.o6.kept hg cG,by rw[g_];exact ho,?_,b_ H'.sz hg.size⟩
 ·have:=(wE H'.o7 e.symm).1;omega
 ·right
  intro e;rcases AU with h2 | h2
  ·rcases hap with h1 | h1
   ·rw[h1] at h2;cases h2
   ·rw[h2] at h1;exact h1 e
  ·have h3:v6.ownBlock=some g:=e.symm
   have:=(wE H'.o6 h3).2;omega
theorem CW{nodes:List ByteArray}{s:ByteArray}(hs:s∈nodes):gM (fun x=>qX s x) nodes 0=((dF nodes s:Nat):Int):=(sK hs).1
theorem X2(w:Wo)(p:Nat×Nat)(t:TypeId):∀(j:Nat)(u:Value),(OU p)[j]?=some u->((w.alloc (.cells #[.int .i64 p.1,.int .i64 p.2] t)).drew).cell? ((⟨w.heap.size,0,none⟩:Addr).add j)=some u:=
 World.news_of_block (w:=(w.alloc (.cells #[.int .i64 p.1,.int .i64 p.2] t)).drew) (B:=w.heap.size) (cs:=#[.int .i64 p.1,.int .i64 p.2]) (t:=t) (fr:=(0,0)) (aD.new w t _)
theorem aDE(p:Nat×Nat):∀u∈OU p,u.oneCell'=true:=by
 intro u hu;unfold OU at hu;simp at hu;rcases hu with rfl | rfl<;>rfl
theorem jE{b o:Nat}{ob:Obj}(h:w.cell? ⟨b,o,none⟩=some v)(hb:b<w.heap.size):(w.alloc ob).cell? ⟨b,o,none⟩=some v:=by
 rw[((Below.refl w.heap.size w).alloc lR ob).cell (p:=⟨b,o,none⟩) hb];exact h
def aTh(x:bK)(op:Bool)(w:Wo)(e:Ending)(w':Wo):Prop:=
 Below w.heap.size w w'/\∃(v6 v7:Value),e=.returned (.tuple #[v6,v7])/\w'.ownsRow (w.heap.size+1) 166 2 v6 (swE x op).length ((swE x op).flatMap OU)
theorem aJg(x:bK)(op:Bool)(w:Wo)(e:Ending)(w':Wo)(h:Below w.heap.size w w'/\∃(v6 v7:Value),e=.returned (.tuple #[v6,v7])/\w'.ownsRow (w.heap.size+1) 166 2 v6 (swE x op).length ((swE x op).flatMap OU)):aTh x op w e w':=h
theorem aBp(h:bZ)(x:bK)(ok:bJ x)(op:Bool)(w:Wo)(hR:cL w w.heap.size h x):Calls Tryz.prog 131 #[.agg h.cells,.bool op] w (aTh x op w):=by
 obtain⟨A0,n0,c0,A1,n1,c1,A2,n2,c2,A3,n3,c3,A4,n4,c4,A5,n5,c5⟩:=h;dsimp only[bZ.cells] at *;obtain⟨bM,HR,HP⟩:=dZ ok hR (aJg x op w);obtain⟨i0,iW,KC,EI,hi3⟩:=info_parts aEo;obtain⟨ES,wX,KN,KM⟩:=h_ iW KC EI hi3;obtain⟨j0,NU,hj1,hj2,hj3⟩:=info_parts NM;obtain⟨HJ0,HJ1,HJ2,HJ3⟩:=h_ NU hj1 hj2 hj3;have eY:Hid (x.sws.length=n1):=lH hR.r1.1;have aZ7:n1<=32:=by have:=ok.l1;have:=eY.o;omega
 have aEO:n0<=9223372036854775807:=hR.m0;have OI:Hid (EgS w (w.alloc (.cells #[.slice A0 n0 c0,.slice A1 n1 c1,.slice A2 n2 c2,.slice A3 n3 c3,.slice A4 n4 c4,.slice A5 n5 c5] 29)) ⟨A0,n0,c0,A1,n1,c1,A2,n2,c2,A3,n3,c3,A4,n4,c4,A5,n5,c5⟩ (.slice none 0 0) (.slice none 0 0) [] []):=lH
  ⟨bA,aD.new w _ _,World.ownsRow_nil _ _ _ _,World.ownsRow_nil _ _ _ _,.inl rfl,by simp⟩
 clear iW KC EI hi3 NU hj1 hj2 hj3 ok hR;obtain⟨y0,y1,y2,y3,y4,y5,nf,nlt⟩:=aX (h:=⟨A0,n0,c0,A1,n1,c1,A2,n2,c2,A3,n3,c3,A4,n4,c4,A5,n5,c5⟩) OI.o.q1;go_enter Tryz.func131,Tryz.ntmps131
 go_wp2_with fail
 generalize w.alloc (.cells #[.slice A0 n0 c0,.slice A1 n1 c1,.slice A2 n2 c2,.slice A3 n3 c3,.slice A4 n4 c4,.slice A5 n5 c5] 29)=w1 at *;clear y0 y1 y2 y3 y4 y5 nf nlt
 go_loopw [6,7,13] (fun v6 v7 i wr=>∃(k:Nat)(ws:List Value),k<=n1/\i=.int .i64 k/\ws.length<=k/\EgS w wr ⟨A0,n0,c0,A1,n1,c1,A2,n2,c2,A3,n3,c3,A4,n4,c4,A5,n5,c5⟩ v6 v7 ((x.sws.take k).flatMap (zQ x.nodes op)) ws) (fun _ _ i _=>n1-(intOf i).toNat)
 case atStart=>exact⟨0,[],by omega,rfl,by simp,OI.o⟩
 case round=>
  clear OI;obtain⟨k,ws,hk,rfl,hwl,hs⟩:=hrel;have HS:=lH hs;have HWL:=lH hwl;obtain⟨y0,y1,y2,y3,y4,y5,nf,nlt⟩:=aX hs.q1;clear hs hwl;by_cases aR:k<n1
  ·obtain⟨z,hz⟩:∃z,x.sws[k]?=some z:=eE (by have:=eY.o;omega)
   have YH:=HR.o.up HS.o.low;obtain⟨bz,oz,hA,oY⟩:=YH.r1.form (by dsimp only;omega);dsimp only at hA;subst hA;obtain⟨e0,e1,e2,e3,e4⟩:=YH.r1.at_ hz;obtain⟨HRN,HZS,HZ⟩:=dZ YH.r0 (bM.o.sw z (bS hz)) (aLy (zQ x.nodes op) hz);have OG:Hid (((x.sws.take k).flatMap (zQ x.nodes op)).length<=1000):=lH (by
    have h1:=aEh (zQ x.nodes op) 1 (O6 x.nodes op) (x.sws.take k);have:=eY.o;rw[jN] at h1;omega)
   have F1:=lH ((Below.refl wr.heap.size wr).alloc lR (.cells #[.string z.name,.string z.a,.string z.b,.bool z.breaker,.bool z.opn] 148));have mZ:=lH (HS.o.up F1.o);have fO:Hid (aD (wr.alloc (.cells #[.string z.name,.string z.a,.string z.b,.bool z.breaker,.bool z.opn] 148)) wr.heap.size 148 #[.string z.name,.string z.a,.string z.b,.bool z.breaker,.bool z.opn]):=lH (aD.new wr _ _);have f_:(k:Int)<(n1:Int):=by omega
   clear hz YH;by_cases hop:z.opn=op
   ·have ZY:Hid (zQ x.nodes op z=[(dF x.nodes z.a,dF x.nodes z.b)]):=lH (by unfold zQ;rw[if_pos hop])
    have aQh:(z.opn == op)=true:=by simp[hop]
    have aBY:Hid (bD (wr.alloc (.cells #[.string z.name,.string z.a,.string z.b,.bool z.breaker,.bool z.opn] 148)) (wr.alloc (.cells #[.string z.name,.string z.a,.string z.b,.bool z.breaker,.bool z.opn] 148)).heap.size A0 n0 x.nodes):=lH (HRN.o.bm F1.o);rw[hop] at mZ fO aBY F1 e4;clear hop aQh;(go_wp2_with fail);have hzw:wr.heap.size<(wr.alloc (.cells #[.string z.name,.string z.a,.string z.b,.bool z.breaker,.bool op] 148)).heap.size:=by simp
    have nA:u6.ownBlock≠some w.heap.size:=fun e=>by have:=(HS.o.o6.lt _ e).1;omega
    have kU:u6.ownBlock≠some wr.heap.size:=fun e=>by have:=(HS.o.o6.lt _ e).2;omega
    clear F1 HS HRN y0 y1 y2 y3 y4 y5 nf nlt e0 e1 e2 e3 e4;generalize hWW:wr.alloc (.cells #[.string z.name,.string z.a,.string z.b,.bool z.breaker,.bool op] 148)=W at *;generalize hzb:wr.heap.size=zb at *;have q0:W.cell? ⟨w.heap.size,0,none⟩=some (.slice A0 n0 c0):=mZ.o.q1.cell 0;have b1:W.cell? ⟨zb,1,none⟩=some (.string z.a):=fO.o.cell 1;have b2:W.cell? ⟨zb,2,none⟩=some (.string z.b):=fO.o.cell 2;have hsa:z.a∈x.nodes:=HZS.o.1;have JP:z.b∈x.nodes:=HZS.o.2.1;generalize hE0:(x.sws.take k).flatMap (zQ x.nodes op)=E0 at *;have HEE:=lH hE0;clear hE0 hWW hzb;have cD:w.heap.size+1<=W.heap.size:=mZ.o.sz;generalize u6=v6 at *;refine bT (S:=fun w'=>w'.cell? ⟨w.heap.size,0,none⟩=some (.slice A0 n0 c0)/\w'.cell? ⟨zb,1,none⟩=some (.string z.a)/\w'.cell? ⟨zb,2,none⟩=some (.string z.b)) 14 _ (by kernel_rfl) (by kernel_rfl) rfl ⟨q0,b1,b2⟩ (fun hHeld=>?_);simp only[m_,List.take_zero];refine fP 0 (v:=?_) ?_ hHeld ?_;rotate_left 1
    ·intro w' hSw;(try dsimp only at hSw);go_simp<;>with_reducible rfl
    (try simp only[Act.put,fZ,fY,fX]);refine fP 1 (v:=?_) ?_ hHeld ?_;rotate_left 1
    ·intro w' hSw;(try dsimp only at hSw);go_simp<;>with_reducible rfl
    (try simp only[Act.put,fZ,fY,fX]);refine fP 2 (v:=?_) ?_ hHeld ?_;rotate_left 1
    ·intro w' hSw;(try dsimp only at hSw);go_simp<;>with_reducible rfl
    (try simp only[Act.put,fZ,fY,fX]);refine fP 3 (v:=?_) ?_ hHeld ?_;rotate_left 1
    ·intro w' hSw;(try dsimp only at hSw);go_simp<;>with_reducible rfl
    (try simp only[Act.put,fZ,fY,fX]);refine fP 4 (v:=?_) ?_ hHeld ?_;rotate_left 1
    ·intro w' hSw;(try dsimp only at hSw);go_simp<;>with_reducible rfl
    (try simp only[Act.put,fZ,fY,fX]);refine fP 6 (v:=?_) ?_ hHeld ?_;rotate_left 1
    ·intro w' hSw;(try dsimp only at hSw);go_simp<;>with_reducible rfl
    (try simp only[Act.put,fZ,fY,fX]);refine fP 7 (v:=?_) ?_ hHeld ?_;rotate_left 1
    ·intro w' hSw;(try dsimp only at hSw);go_simp<;>with_reducible rfl
    (try simp only[Act.put,fZ,fY,fX]);refine fP 8 (v:=?_) ?_ hHeld ?_;rotate_left 1
    ·intro w' hSw;(try dsimp only at hSw);go_simp<;>with_reducible rfl
    (try simp only[Act.put,fZ,fY,fX]);refine fP 9 (v:=?_) ?_ hHeld ?_;rotate_left 1
    ·intro w' hSw;(try dsimp only at hSw);go_simp<;>with_reducible rfl
    (try simp only[Act.put,fZ,fY,fX]);refine bI 5 (fun K hK=>?_);go_simp;refine(kD A0 n0 c0 x.nodes z.a W.drew aBY.o aEO).mono ?_;rw[CW hsa];rintro e w' ⟨rfl,rfl⟩;go_simp;refine iB hK hHeld (fun hHeld=>?_);clear hK K;refine bI 10 (fun K hK=>?_);go_simp;refine(kD A0 n0 c0 x.nodes z.b W.drew aBY.o aEO).mono ?_;rw[CW JP];rintro e w' ⟨rfl,rfl⟩;go_simp;refine iB hK hHeld (fun hHeld=>?_);clear hK K;refine fP 11 (v:=?_) ?_ hHeld ?_;rotate_left 1
    ·intro w' hSw;(try dsimp only at hSw);go_simp<;>with_reducible rfl
    (try simp only[Act.put,fZ,fY,fX]);refine bI 12 (fun K hK=>?_);go_simp;refine hK.out _ _ ?_ (fun hHeld=>?_)
    ·exact⟨jE q0 (by omega),jE b1 (by omega),jE b2 (by omega)⟩
    clear hK K;(try simp only[Act.put,fZ,fY,fX]);refine bI 13 (fun K hK=>?_);refine step_append_lies _ (by rfl) _ _ _ (by rfl) (w.heap.size+1) 166 i0 _ 2 16 Tryz.underlying165 ES.o wX.o KN.o KM.o rfl (by omega) v6 _ _ (by rfl) ((mZ.o.o6.alloc _).drew) ⟨W.heap.size,0,none⟩ 1 1 (OU (dF x.nodes z.a,dF x.nodes z.b)) (by rfl) (by rfl) (X2 W (dF x.nodes z.a,dF x.nodes z.b) 166) (aDE _) (by omega) (by have:=OG.o;simp only[maxLen];omega) (by have:=OG.o;omega) (by simp;omega) (W.heap.size+1) (by simp) ?_;intro gg cap w1 hown1 hgrow AU aQw;refine hK.out _ _ ?_ (fun hHeld=>?_)
    ·exact⟨(hgrow.cell_far ⟨w.heap.size,0,none⟩ (by simp;omega) (Ne.symm nA)).trans (jE q0 (by omega)),(hgrow.cell_far ⟨zb,1,none⟩ (by simp;omega) (Ne.symm kU)).trans (jE b1 (by omega)),(hgrow.cell_far ⟨zb,2,none⟩ (by simp;omega) (Ne.symm kU)).trans (jE b2 (by omega))⟩
    clear hK K;(try simp only[Act.put,fZ,fY,fX]);refine eP ?_;have HS5:=lH (mZ.o.app6 (aI (bA)) hown1 hgrow (by simpa using AU));clear hgrow AU hown1 hHeld;have hJL:ws.length<=1000:=by have:=HWL.o;omega
    generalize YD:(Value.slice (some (⟨gg,0,none⟩:Addr)) (E0.length+1) cap)=v6' at HS5 ⊢;have HV6:=lH YD;clear YD;have eJ:w.heap.size+1<=w1.heap.size:=HS5.o.sz;have oS:Hid (∀(j:Nat)(u:Value),([Value.int .i64 k]:List Value)[j]?=some u->((w1.alloc (.cells #[.int .i64 k] 3))).cell? ((⟨w1.heap.size,0,none⟩:Addr).add j)=some u):=lH (World.news_of_block (B:=w1.heap.size) (cs:=#[.int .i64 k]) (t:=3) (fr:=(0,0)) (aD.new w1 _ _));go_simp
    go_wp2_with (at_builtin;refine wpList_append_lies _ rfl (.tmp 36) (.tmp 38) 30 rfl (w.heap.size+1) 3 j0 _ 1 8 Tryz.underlying30 HJ0.o HJ1.o HJ2.o HJ3.o rfl (by omega) u7 _ _ rfl (HS5.o.o7.alloc _) ⟨w1.heap.size,0,none⟩ 1 1 [.int .i64 k] rfl rfl oS.o (by intro u hu;rw[List.mem_singleton.1 hu];rfl) (by omega) (by simp only[maxLen];omega) (by omega) (by simp;omega) (w1.heap.size+1) (by simp) ?_;intro g2 cap2 w2 o8 hgrow2 hat2 aMo)
    have HS6:=lH (HS5.o.app7 (bA) o8 hgrow2 (by simpa using hat2));clear o8 hgrow2 hat2;go_roundw
    case rel=>exact⟨k+1,ws++[.int .i64 k],by omega,by go_num,by rw[g_,List.length_singleton];have:=HWL.o;omega,by rw[HZ.o,ZY.o];exact HS6.o⟩
    case measure=>simp[intOf];omega
   ·have ZY:Hid (zQ x.nodes op z=[]):=lH (by unfold zQ;rw[if_neg hop])
    have aQh:(z.opn == op)=false:=by simpa using hop
    generalize z.opn=zo at *;clear hop;(go_wp2_with fail);go_roundw
    case rel=>exact⟨k+1,ws,by omega,by go_num,by have:=HWL.o;omega,by rw[HZ.o,ZY.o,List.append_nil];exact mZ.o⟩
    case measure=>simp[intOf];omega
  ·have hkk:n1=k:=by omega
   subst hkk;have JI:Hid (x.sws.take n1=x.sws):=lH (nT (by have:=eY.o;omega));(go_wp2_with fail);go_ret2;have h:=HS.o;rw[JI.o] at h;exact HP.o _ _ ⟨h.low,_,_,rfl,h.o6⟩
end
section
def pY(n i:Nat):List Rat:=(List.replicate n 0).set i 1
def gY(M:List (List Rat)):List (List Rat):=M.mapIdx fun i row=>row++pY M.length i
theorem iK(M:List (List Rat)):(gY M).length=M.length:=by unfold gY;rw[List.length_mapIdx]
theorem wR{M:List (List Rat)}{row:List Rat}(h:M[i]?=some row):(gY M)[i]?=some (row++pY M.length i):=by
 unfold gY;rw[List.getElem?_mapIdx,h];rfl
theorem vM{M:List (List Rat)}(h:∀a∈M,a.length=M.length):∀a∈gY M,a.length=M.length+M.length:=fun a ha=>by
 obtain⟨i,hi⟩:=List.mem_iff_getElem?.1 ha;obtain⟨row,hr⟩:∃row,M[i]?=some row:=eE (by have:=(cY.1 hi).1;rwa[iK] at this);rw[wR hr] at hi;injection hi with hi;rw[<-hi,g_,h row (bS hr)];unfold pY;rw[kV,qV]
def l9(M:List (List Rat)):List (List Rat):=(l8 (gY M) M.length).1.map (List.drop M.length)
def Reg(M:List (List Rat)):Prop:=¬(l8 (gY M) M.length).2.length<M.length
theorem lU(f:Fn)(n:Nat):∀m:Nat,aM (n+m) f=aM n f+aM m (fun j=>f (n+j))
 | 0=>by simp only[Nat.add_zero,aM];rw[Rat.add_zero]
 | m+1=>by
  rw[<-Nat.add_assoc];simp only[aM];rw[lU f n m,Rat.add_assoc]
theorem aEp:∀{l:List Nat}{k t p:Nat},l.Pairwise (·<·)->(∀x∈l,k<=x)->l[t]?=some p->k+t<=p
 | x::l,k,0,p,_,h,e=>by simp at e;subst e;exact h x (by simp)
 | x::l,k,t+1,p,hp,h,e=>by
  rw[List.pairwise_cons] at hp;have:=aEp (k:=k+1) hp.2 (fun y hy=>by have:=hp.1 y hy;have:=h x (by simp);omega) (by simpa using e);omega
 | [],_,_,_,_,_,e=>by simp at e
theorem U9:∀{l:List Nat}{n t p:Nat},l.Pairwise (·<·)->(∀x∈l,x<n)->l[t]?=some p->p+(l.length-t)<=n
 | [x],n,0,p,_,h,e=>by simp at e;subst e;have:=h x (by simp);simp;omega
 | x::y::l,n,0,p,hp,h,e=>by
  simp at e;subst e;rw[List.pairwise_cons] at hp;have h1:=U9 (t:=0) hp.2 (fun z hz=>h z (by simp[hz])) rfl;have h2:=hp.1 y (by simp);simp only[EX] at h1 ⊢;omega
 | x::l,n,t+1,p,hp,h,e=>by
  rw[List.pairwise_cons] at hp;have:=U9 (t:=t) hp.2 (fun z hz=>h z (by simp[hz])) (by simpa using e);simp only[EX];omega
 | [],_,_,_,_,_,e=>by simp at e
theorem YC{l:List Nat}{t p:Nat}(h1:l.Pairwise (·<·))(h2:∀x∈l,x<n)(h3:l.length=n)(h:l[t]?=some p):p=t:=by
 have a:=aEp (k:=0) h1 (fun _ _=>Nat.zero_le _) h;have b:=U9 h1 h2 h;have c:=(cY.1 h).1;omega
section
variable {M:List (List Rat)}
theorem aCS{b:List Rat}(h:j<a.length):vf (a++b) j=vf a j:=by
 unfold vf;rw[dH,dH,yC h]
theorem XN{b:List Rat}:vf (a++b) (a.length+j)=vf b j:=by
 unfold vf;rw[dH,dH,BP (by omega),Nat.add_sub_cancel_left]
theorem aHD:vf (a.drop n) j=vf a (n+j):=by
 unfold vf;rw[dH,dH,List.getElem?_drop]
theorem XM(hj:j<n):vf (pY n i) j=if j=i then 1 else 0:=by
 unfold vf pY;rw[dH,List.getElem?_set];by_cases h:i=j
 ·subst h
  rw[if_pos rfl,if_pos (by rw[qV];exact hj),if_pos rfl];rfl
 ·rw[if_neg h,if_neg (fun e=>h e.symm),List.getElem?_replicate,if_pos hj]
  rfl
theorem YZ(hw:∀a∈M,a.length=M.length)(x:Fn):uQ M.length (tG (gY M)) x<->uQ M.length (tG M) x:=by
 rw[nQ,nQ];have key:∀(i:Nat)(a:List Rat),M[i]?=some a->aV M.length (vf (a++pY M.length i)) x=aV M.length (vf a) x:=fun i a hi=>
  qP (fun j hj=>aCS (by rw[hw a (bS hi)];exact hj)) fun _ _=>rfl
 constructor
 ·intro h i a hi
  rw[<-key i a hi];exact h i _ (wR hi)
 ·intro h i a hi
  obtain⟨row,hr⟩:∃row,M[i]?=some row:=eE (by have:=(cY.1 hi).1;rwa[iK] at this);rw[wR hr] at hi;injection hi with hi;rw[<-hi,key i row hr];exact h i row hr
theorem M5(hw:∀a∈M,a.length=M.length):Reg M<->∀x,uQ M.length (tG M) x->∀j,j<M.length->x j=0:=by
 have R:=z7 (M:=gY M) (cols:=M.length) (vM hw) (Nat.le_add_right _ _);have KA:=R.ech.le;rw[tF,R.len,iK] at KA;unfold Reg
 constructor
 ·intro h x hx
  exact(CR R.ech).1 (by omega) x ((R.ker M.length (Nat.le_add_right _ _) x).2 ((YZ hw x).2 hx))
 ·intro h
  have:=(CR R.ech).2 fun x hx=>h x ((YZ hw x).1 ((R.ker M.length (Nat.le_add_right _ _) x).1 hx));omega
theorem qG(hw:∀a∈M,a.length=M.length):(l9 M).length=M.length/\∀a∈l9 M,a.length=M.length:=by
 have R:=z7 (M:=gY M) (cols:=M.length) (vM hw) (Nat.le_add_right _ _);refine⟨by unfold l9;rw[iT,R.len,iK],fun a ha=>?_⟩;unfold l9 at ha;obtain⟨e,he,rfl⟩:=List.mem_map.1 ha;rw[J2,R.wid e he];omega
def qF(M:List (List Rat))(b:Fn):Fn:=fun t=>aV M.length (vf ((l9 M).getD t [])) b
theorem YA(hw:∀a∈M,a.length=M.length)(hr:Reg M)(b:Fn)(hi:M[i]?=some a):aV M.length (vf a) (qF M b)=b i:=by
 have R:=z7 (M:=gY M) (cols:=M.length) (vM hw) (Nat.le_add_right _ _);have KA:=R.ech.le;rw[tF,R.len,iK] at KA;have xW:(l8 (gY M) M.length).2.length=M.length:=by unfold Reg at hr;omega
 have yV:=(cY.1 hi).1;obtain⟨x,hx⟩:∃x:Fn,x=fun j=>if j<M.length then qF M b j else -(b (j-M.length)):=⟨_,rfl⟩;have DB:∀j,j<M.length->x j=qF M b j:=fun j hj=>by rw[hx];simp only;rw[if_pos hj]
 have xV:∀j,x (M.length+j)=-(b j):=fun j=>by rw[hx];simp only;rw[if_neg (by omega),Nat.add_sub_cancel_left]
 have hk:uQ (M.length+M.length) (tG (l8 (gY M) M.length).1) x:=by
  rw[nQ];intro t e ht;have QX:=(cY.1 ht).1;rw[R.len,iK] at QX;obtain⟨p,hp⟩:∃p,(l8 (gY M) M.length).2[t]?=some p:=eE (by omega);have hpt:=YC R.ech.inc R.ech.lt xW hp;subst hpt;have J_:=R.ech.one p p (vf e) hp (nN ht);have aUv:∀j,j<M.length->j≠p->vf e j=0:=fun j hj cG=>by
   obtain⟨q,hq⟩:∃q,(l8 (gY M) M.length).2[j]?=some q:=eE (by omega);have:=YC R.ech.inc R.ech.lt xW hq;subst this;exact R.ech.zer q q p (vf e) hq (nN ht) (fun h=>cG h.symm)
  unfold aV;rw[lU];have h1:aM M.length (fun j=>vf e j*x j)=qF M b p:=by
   rw[gH QX (fun j hj cG=>by rw[aUv j hj cG,Rat.zero_mul]),J_,Rat.one_mul,DB p QX]
  have h2:aM M.length (fun j=>vf e (M.length+j)*x (M.length+j))=-(qF M b p):=by
   have h3:(l9 M).getD p []=e.drop M.length:=by
    unfold l9;rw[dH,lT,ht];rfl
   unfold qF aV;rw[h3,show ∀z:Rat,-z=(-1)*z from fun z=>by grind,<-bL];refine aJ fun j hj=>?_;rw[xV,aHD];grind
  rw[h1,h2];grind
 have vJ:=(R.ker _ lR x).1 hk;rw[nQ] at vJ;have h0:=vJ i _ (wR hi);unfold aV at h0;rw[lU] at h0;have uH:=hw a (bS hi);have h1:aM M.length (fun j=>vf (a++pY M.length i) j*x j)=aV M.length (vf a) (qF M b):=
  aJ fun j hj=>by rw[aCS (by omega),DB j hj]
 have h2:aM M.length (fun j=>vf (a++pY M.length i) (M.length+j)*x (M.length+j))=-(b i):=by
  rw[gH yV (fun j hj cG=>by
   have:=XN (a:=a) (b:=pY M.length i) (j:=j);rw[uH] at this;rw[this,XM hj,if_neg cG,Rat.zero_mul])]
  have:=XN (a:=a) (b:=pY M.length i) (j:=i);rw[uH] at this;rw[this,XM yV,if_pos rfl,Rat.one_mul,xV]
 rw[h1,h2] at h0;grind
theorem aH6(hw:∀a∈M,a.length=M.length)(hr:Reg M){x y:Fn}(h:∀(i:Nat)(a:List Rat),M[i]?=some a->aV M.length (vf a) x=aV M.length (vf a) y):∀j,j<M.length->x j=y j:=fun j hj=>by
 have:x j+(-1)*y j=0:=(M5 hw).1 hr (fun j=>x j+(-1)*y j) (by
  rw[nQ];intro i a hi;rw[RS,RQ,h i a hi];grind) j hj
 grind
end
end
section
open Go.ChangeShapes Go.WideShapes Go.ChangeAt Go.RowKit
attribute [local go_sem ↓] aE
attribute [local go_sem] aL aK aO a_ bZ.cells
theorem XY{B:Nat}{es:List (Nat×Nat)}(h:w.ownsRow B 166 2 v es.length (es.flatMap OU)):∃A c,v=.slice A es.length c/\SN w w.heap.size A es.length es:=by
 rcases h.2 with⟨h1,h2⟩ | ⟨g,cap,cur,h1,h2,h3,h4,h5,h6,h7⟩
 ·refine⟨none,0,by rw[h2];exact h1,rfl,h.1,fun h0=>by omega⟩
 ·refine⟨_,_,h1,rfl,h.1,fun h0=>⟨g,0,rfl,?_,fun j u hu=>?_⟩⟩
  ·rcases Nat.lt_or_ge g w.heap.size with aR | TC
   ·exact aR
   ·rw[Array.getElem?_eq_none TC] at h3;cases h3
  ·rw[Nat.zero_add,cell_of_row w g j cur 166 (0,0) h3]
   rw[<-h7] at hu;have rS:=(cY.1 hu).1;rw[List.getElem?_take_of_lt (by rw[jN] at rS;omega)] at hu;simpa using hu
def kS(x:bK):List Int:=jU x.nodes.length (swE x false)
theorem TW(ok:bJ x)(op:Bool):(∀p∈swE x op,p.1<x.nodes.length/\p.2<x.nodes.length)/\(swE x op).length<=32:=by
 refine⟨fun p hp=>?_,?_⟩
 ·obtain⟨s,hs,h1⟩:=List.mem_flatMap.1 hp
  unfold zQ at h1;split at h1
  ·rw[List.mem_singleton.1 h1]
   exact⟨(sK (ok.sw s hs).1).2,(sK (ok.sw s hs).2.1).2⟩
  ·cases h1
 ·have h:=aEh (zQ x.nodes op) 1 (O6 x.nodes op) x.sws
  have:=ok.l1;unfold swE;omega
theorem mU(ok:bJ x):(kS x).length=x.nodes.length/\∀b∈kS x,0<=b/\b<x.nodes.length:=sJ (TW ok false).1
def aTl(x:bK)(n0:Nat)(w:Wo)(e:Ending)(w':Wo):Prop:=
 Below w.heap.size w w'/\∃g:Nat,e=.returned (.slice (some ⟨g,0,none⟩) n0 n0)/\w.heap.size<=g/\aD w' g 3 (ints (kS x)).toArray
theorem aJq(x:bK)(n0:Nat)(w:Wo)(e:Ending)(w':Wo)(h:Below w.heap.size w w'/\∃g:Nat,e=.returned (.slice (some ⟨g,0,none⟩) n0 n0)/\w.heap.size<=g/\aD w' g 3 (ints (kS x)).toArray):aTl x n0 w e w':=h
theorem aBK(h:bZ)(x:bK)(ok:bJ x)(w:Wo)(hR:cL w w.heap.size h x):Calls Tryz.prog 100 #[.agg h.cells] w (aTl x h.n0 w):=by
 obtain⟨A0,n0,c0,A1,n1,c1,A2,n2,c2,A3,n3,c3,A4,n4,c4,A5,n5,c5⟩:=h;dsimp only[bZ.cells] at *;have bM:=lH ok;have HP:=lH (aJq x n0 w);have eD:Hid (Below w.heap.size w (w.alloc (.cells #[.slice A0 n0 c0,.slice A1 n1 c1,.slice A2 n2 c2,.slice A3 n3 c3,.slice A4 n4 c4,.slice A5 n5 c5] 29))):=lH (bA);have HQ0:Hid (aD (w.alloc (.cells #[.slice A0 n0 c0,.slice A1 n1 c1,.slice A2 n2 c2,.slice A3 n3 c3,.slice A4 n4 c4,.slice A5 n5 c5] 29)) w.heap.size 29 #[.slice A0 n0 c0,.slice A1 n1 c1,.slice A2 n2 c2,.slice A3 n3 c3,.slice A4 n4 c4,.slice A5 n5 c5]):=lH (aD.new w _ _);have HR:=lH (hR.up eD.o);have HN0:Hid (x.nodes.length=n0):=lH hR.r0.1;have oQ:n0<=24:=by have:=ok.l0;have:=HN0.o;omega
 clear ok hR;obtain⟨y0,y1,y2,y3,y4,y5,nf,nlt⟩:=aX (h:=⟨A0,n0,c0,A1,n1,c1,A2,n2,c2,A3,n3,c3,A4,n4,c4,A5,n5,c5⟩) HQ0.o;go_enter Tryz.func100,Tryz.ntmps100
 go_wp2_with fail
 generalize w.alloc (.cells #[.slice A0 n0 c0,.slice A1 n1 c1,.slice A2 n2 c2,.slice A3 n3 c3,.slice A4 n4 c4,.slice A5 n5 c5] 29)=w1 at *;clear y0 y1 y2 y3 y4 y5 nf nlt;refine(aBp ⟨A0,n0,c0,A1,n1,c1,A2,n2,c2,A3,n3,c3,A4,n4,c4,A5,n5,c5⟩ x bM.o false w1 HR.o).mono ?_;rintro e w2 ⟨hb,v6,v7,rfl,ho⟩;have dN:=cJ eD hb;have sW:=lH (HQ0.o.bl hb);obtain⟨A,c,rfl,hE⟩:=XY ho;have HE:=lH hE;clear hb ho hE;obtain⟨y0,y1,y2,y3,y4,y5,nf,nlt⟩:=aX (h:=⟨A0,n0,c0,A1,n1,c1,A2,n2,c2,A3,n3,c3,A4,n4,c4,A5,n5,c5⟩) sW.o;have WU:=lH (TW bM.o false).2;have HSO:Hid (∀p∈swE x false,p.1<n0/\p.2<n0):=lH (by have h:=(TW bM.o false).1;rw[HN0.o] at h;exact h);have HBE:Hid (jU n0 (swE x false)=kS x):=lH (by unfold kS;rw[HN0.o]);generalize swE x false=es at *
 go_wp2_with fail
 clear y0 y1 y2 y3 y4 y5 nf nlt;refine(R5 A c n0 es w2 HE.o HSO.o oQ (by have:=WU.o;omega)).mono ?_;rintro e w3 ⟨hb,g,rfl,hg,dO⟩;have fV:=cJ dN hb;have HG:=lH (b_ dN.o.size hg);have oU:=lH dO;clear hb hg dO
 go_wp2_with fail
 go_ret;exact HP.o _ _ ⟨fV.o,g,rfl,HG.o,by rw[<-HBE.o];exact oU.o⟩
def aG(x:bK)(s:ByteArray):Nat:=((kS x).getD (dF x.nodes s) 0).toNat
def aH(x:bK):Nat:=(GI (kS x)).toNat
def KH(x:bK):List (Nat×Nat):=x.brs.map fun b=>(aG x b.fr,aG x b.to)
def DA(x:bK):List Int:=jU (aH x) (KH x)
theorem eW(ok:bJ x):(aH x:Int)=GI (kS x)/\aH x<=x.nodes.length:=by
 obtain⟨h1,h2,h3⟩:=FK (kS x);have h4:=h3 x.nodes.length (by omega) fun b hb=>((mU ok).2 b hb).2;unfold aH;omega
theorem bU(ok:bJ x){s:ByteArray}(hs:s∈x.nodes):(kS x).getD (dF x.nodes s) 0=(aG x s:Int)/\aG x s<aH x/\dF x.nodes s<(kS x).length:=by
 have hi:=(sK hs).2;rw[<-(mU ok).1] at hi;have hm:(kS x).getD (dF x.nodes s) 0∈kS x:=by rw[dH,gS hi];exact List.getElem_mem hi
 have h1:=(mU ok).2 _ hm;have h2:=(FK (kS x)).2.1 _ hm;have h3:=(eW ok).1;refine⟨?_,?_,hi⟩<;>unfold aG<;>omega
theorem DL(ok:bJ x):(∀p∈KH x,p.1<aH x/\p.2<aH x)/\(KH x).length<=24:=by
 refine⟨fun p hp=>?_,by unfold KH;rw[iT];exact ok.l2⟩;obtain⟨b,hb,rfl⟩:=List.mem_map.1 hp;exact⟨(bU ok (ok.br b hb).1).2.1,(bU ok (ok.br b hb).2.1).2.1⟩
theorem aAe{α β:Type}(f:α->β){l:List α}{x:α}(h:l[k]?=some x):(l.take (k+1)).map f=(l.take k).map f++[f x]:=by
 rw[List.take_add_one,h,List.map_append];rfl
theorem TU{l:List Int}{x:Int}(h:l[k]?=some x):GI (l.take (k+1))=max (GI (l.take k)) (x+1):=by
 unfold GI;rw[List.take_add_one,h,List.foldl_append];rfl
theorem FU{l:List Int}{g:Nat}(h:aD w g 3 (ints l).toArray){x:Int}(hx:l[i]?=some x):w.cell? ⟨g,i,none⟩=some (.int .i64 x):=by
 rw[h.cell,List.getElem?_toArray];unfold ints;rw[lT,hx];rfl
def aRt(x:bK)(n0:Nat)(w:Wo)(e:Ending)(w':Wo):Prop:=
 Below w.heap.size w w'/\∃g1 g2:Nat,e=.returned (.agg #[.slice (some ⟨g1,0,none⟩) n0 n0,.slice (some ⟨g2,0,none⟩) (aH x) (aH x)])/\w.heap.size<=g1/\w.heap.size<=g2/\aD w' g1 3 (ints (kS x)).toArray/\aD w' g2 3 (ints (DA x)).toArray
theorem aHJ(x:bK)(n0:Nat)(w:Wo)(e:Ending)(w':Wo)(h:Below w.heap.size w w'/\∃g1 g2:Nat,e=.returned (.agg #[.slice (some ⟨g1,0,none⟩) n0 n0,.slice (some ⟨g2,0,none⟩) (aH x) (aH x)])/\w.heap.size<=g1/\w.heap.size<=g2/\aD w' g1 3 (ints (kS x)).toArray/\aD w' g2 3 (ints (DA x)).toArray):aRt x n0 w e w':=h
theorem YT(h:bZ)(x:bK)(ok:bJ x)(w:Wo)(hR:cL w w.heap.size h x):Calls Tryz.prog 59 #[.agg h.cells] w (aRt x h.n0 w):=by
 obtain⟨A0,n0,c0,A1,n1,c1,A2,n2,c2,A3,n3,c3,A4,n4,c4,A5,n5,c5⟩:=h;dsimp only[bZ.cells] at *;have bM:=lH ok;have HP:=lH (aHJ x n0 w);obtain⟨i0,iW,KC,EI,hi3⟩:=info_parts aEo;obtain⟨ES,wX,KN,KM⟩:=h_ iW KC EI hi3;have eD:Hid (Below w.heap.size w ((w.alloc (.cells #[.slice A0 n0 c0,.slice A1 n1 c1,.slice A2 n2 c2,.slice A3 n3 c3,.slice A4 n4 c4,.slice A5 n5 c5] 29)).alloc aDX)):=lH ((bA).alloc (by simp) _);have HQ0:Hid (aD ((w.alloc (.cells #[.slice A0 n0 c0,.slice A1 n1 c1,.slice A2 n2 c2,.slice A3 n3 c3,.slice A4 n4 c4,.slice A5 n5 c5] 29)).alloc aDX) w.heap.size 29 #[.slice A0 n0 c0,.slice A1 n1 c1,.slice A2 n2 c2,.slice A3 n3 c3,.slice A4 n4 c4,.slice A5 n5 c5]):=lH ((aD.new w _ _).alloc _);have HT0:Hid (aD ((w.alloc (.cells #[.slice A0 n0 c0,.slice A1 n1 c1,.slice A2 n2 c2,.slice A3 n3 c3,.slice A4 n4 c4,.slice A5 n5 c5] 29)).alloc aDX) (w.heap.size+1) 50 #[.slice none 0 0,.slice none 0 0]):=lH (aD.new_ (by simp));have HR:=lH (hR.up eD.o);have HN0:Hid (x.nodes.length=n0):=lH hR.r0.1;have iD:Hid (x.brs.length=n2):=lH hR.r2.1;have oQ:n0<=24:=by have:=ok.l0;have:=HN0.o;omega
 have Q4:n2<=24:=by have:=ok.l2;have:=iD.o;omega
 have aEO:n0<=9223372036854775807:=by omega
 have OI:Hid (w.heap.size+2<=((w.alloc (.cells #[.slice A0 n0 c0,.slice A1 n1 c1,.slice A2 n2 c2,.slice A3 n3 c3,.slice A4 n4 c4,.slice A5 n5 c5] 29)).alloc aDX).heap.size):=lH (by simp);clear iW KC EI hi3 ok hR;obtain⟨y0,y1,y2,y3,y4,y5,nf,nlt⟩:=aX (h:=⟨A0,n0,c0,A1,n1,c1,A2,n2,c2,A3,n3,c3,A4,n4,c4,A5,n5,c5⟩) HQ0.o;go_enter Tryz.func59,Tryz.ntmps59
 go_wp2_with fail
 generalize (w.alloc (.cells #[.slice A0 n0 c0,.slice A1 n1 c1,.slice A2 n2 c2,.slice A3 n3 c3,.slice A4 n4 c4,.slice A5 n5 c5] 29)).alloc aDX=w1 at *;clear y0 y1 y2 y3 y4 y5 nf nlt;refine(aBK ⟨A0,n0,c0,A1,n1,c1,A2,n2,c2,A3,n3,c3,A4,n4,c4,A5,n5,c5⟩ x bM.o w1 HR.o).mono ?_;rintro e w2 ⟨hb,gb,rfl,hg,dO⟩;dsimp only;have mO:w.heap.size+2<=gb:=b_ OI.o hg;have dN:=lH ((eD.o.tm hb).alloc (by have:=hb.size;have:=OI.o;omega) (.cells #[.slice (some ⟨gb,0,none⟩) n0 n0,.slice none 0 0] 50));obtain⟨sW,F2,jA⟩:=dZ ((HQ0.o.bl hb).alloc (.cells #[.slice (some ⟨gb,0,none⟩) n0 n0,.slice none 0 0] 50)) ((HT0.o.bl hb).alloc (.cells #[.slice (some ⟨gb,0,none⟩) n0 n0,.slice none 0 0] 50)) (dO.alloc (.cells #[.slice (some ⟨gb,0,none⟩) n0 n0,.slice none 0 0] 50));have gG:Hid (aD (w2.alloc (.cells #[.slice (some ⟨gb,0,none⟩) n0 n0,.slice none 0 0] 50)) w2.heap.size 50 #[.slice (some ⟨gb,0,none⟩) n0 n0,.slice none 0 0]):=lH (aD.new w2 _ _);have wO:gb<w2.heap.size:=dO.lt;have rY:Hid (cL (w2.alloc (.cells #[.slice (some ⟨gb,0,none⟩) n0 n0,.slice none 0 0] 50)) (w2.heap.size+1) ⟨A0,n0,c0,A1,n1,c1,A2,n2,c2,A3,n3,c3,A4,n4,c4,A5,n5,c5⟩ x):=lH (((HR.o.up hb).below (bA) lR).more (by omega));have wL:w.heap.size+2<=w2.heap.size:=by omega
 have t0':=gG.o.cell 0;clear hb hg dO
 go_wp2_with fail
 have HTB:Hid (w2.heap.size<(w2.alloc (.cells #[.slice (some ⟨gb,0,none⟩) n0 n0,.slice none 0 0] 50)).heap.size):=lH (by simp);generalize w2.alloc (.cells #[.slice (some ⟨gb,0,none⟩) n0 n0,.slice none 0 0] 50)=w3 at *;generalize w2.heap.size=tb at *;have qL:=lH (mU bM.o).1;have aJZ:Hid ((kS x).length=n0):=lH (qL.out.trans HN0.o)
 go_loop [4,16] (fun v4 v16=>∃k:Nat,k<=n0/\v16=.int .i64 k/\v4=.int .i64 (GI ((kS x).take k))) (fun _ v16=>n0-(intOf v16).toNat)
 case atStart=>exact⟨0,by omega,rfl,rfl⟩
 case round=>
  obtain⟨k,hk,rfl,rfl⟩:=hrel;by_cases aR:k<n0
  ·obtain⟨b,hb⟩:∃b,(kS x)[k]?=some b:=eE (by have:=aJZ.o;omega)
   have hc:=FU jA.o hb;have EQ:=lH (TU hb);have FA:=(mU bM.o).2 b (bS hb);have bO:=FA.1;have bH:b<=24:=by have:=FA.2;have:=HN0.o;omega
   have IF:=(FK ((kS x).take k)).1;clear hb FA;generalize GI ((kS x).take k)=tk at *;have f_:(k:Int)<(n0:Int):=by omega
   go_wp2_with fail
   go_round
   case rel=>exact⟨k+1,by omega,by go_num,by rw[EQ.o];first | done | (congr 1;split<;>omega)⟩
   case measure=>simp[intOf];omega
  ·have hkk:n0=k:=by omega
   subst hkk;have aNw:Hid (GI ((kS x).take n0)=(aH x:Int)):=lH (by rw[nT (by have:=aJZ.o;omega)];exact(eW bM.o).1.symm);have hbn:aH x<=24:=by have:=(eW bM.o).2;have:=HN0.o;omega
   rw[aNw.o];obtain⟨y0,y1,y2,y3,y4,y5,nf,nlt⟩:=aX (h:=⟨A0,n0,c0,A1,n1,c1,A2,n2,c2,A3,n3,c3,A4,n4,c4,A5,n5,c5⟩) sW.o;obtain⟨w4,E4⟩:∃w4:World,w4=w3:=⟨_,rfl⟩;have sW:Hid (aD w4 w.heap.size 29 #[.slice A0 n0 c0,.slice A1 n1 c1,.slice A2 n2 c2,.slice A3 n3 c3,.slice A4 n4 c4,.slice A5 n5 c5]):=lH (by rw[E4];exact sW.o);have dN:Hid (Below w.heap.size w w4):=lH (by rw[E4];exact dN.o);have F2:Hid (aD w4 (w.heap.size+1) 50 #[.slice none 0 0,.slice none 0 0]):=lH (by rw[E4];exact F2.o);have jA:Hid (aD w4 gb 3 (ints (kS x)).toArray):=lH (by rw[E4];exact jA.o);have gG:Hid (aD w4 tb 50 #[.slice (some ⟨gb,0,none⟩) n0 n0,.slice none 0 0]):=lH (by rw[E4];exact gG.o);have HRF:Hid (cL w4 (tb+1) ⟨A0,n0,c0,A1,n1,c1,A2,n2,c2,A3,n3,c3,A4,n4,c4,A5,n5,c5⟩ x):=lH (by rw[E4];exact rY.o);have HLO:Hid (Below (tb+1) w4 w3):=lH (by rw[E4];exact bR);have eC:Hid (tb+1<=w3.heap.size):=lH (by have:=HTB.o;omega);clear E4 aR t0';(go_wp2_with fail);clear y0 y1 y2 y3 y4 y5 nf nlt
   go_loopw [7,28] (fun v7 i wr=>∃k:Nat,k<=n2/\i=.int .i64 k/\Below (tb+1) w4 wr/\tb+1<=wr.heap.size/\wr.ownsRow (tb+1) 166 2 v7 k (((x.brs.take k).map fun b=>(aG x b.fr,aG x b.to)).flatMap OU)) (fun _ i _=>n2-(intOf i).toNat)
   case atStart=>exact⟨0,by omega,rfl,HLO.o,eC.o,World.ownsRow_nil _ _ _ _⟩
   case round=>
    clear HLO;obtain⟨k,hk,rfl,hlo,hZ,aW⟩:=hrel;have HLO:=lH hlo;have HOW:=lH aW;have HQ:=lH (sW.o.below hlo (by omega));obtain⟨y0,y1,y2,y3,y4,y5,nf,nlt⟩:=aX (h:=⟨A0,n0,c0,A1,n1,c1,A2,n2,c2,A3,n3,c3,A4,n4,c4,A5,n5,c5⟩) HQ.o;clear hlo aW;by_cases aR:k<n2
    ·obtain⟨z,hz⟩:∃z,x.brs[k]?=some z:=eE (by have:=iD.o;omega)
     have YH:=HRF.o.below HLO.o lR;obtain⟨bz,oz,hA,oY⟩:=YH.r2.form (by dsimp only;omega);dsimp only at hA;subst hA;obtain⟨e0,e1,e2,e3,e4,e5,e6,e7,e8⟩:=YH.r2.at_ hz;have HRN:=lH YH.r0;have HZS:=lH (bM.o.br z (bS hz));have HZ:=lH (aAe (fun b:Br=>(aG x b.fr,aG x b.to)) hz);have OG:Hid (k<=1000):=lH (by omega);have HEL:Hid (((x.brs.take k).map fun b:Br=>(aG x b.fr,aG x b.to)).length=k):=lH (by simp;have:=iD.o;omega);have F1:=lH ((Below.refl wr.heap.size wr).alloc lR (.cells #[.string z.name,.string z.fr,.string z.to,.int .i64 z.x,.int .i64 z.tap,.int .i64 z.shift,.int .i64 z.limit,.int .i64 z.short,.int .i64 z.hold] 54));have HO:=lH (UG HOW.o F1.o);have HQB:=lH (HQ.o.below F1.o (by omega));have HXB:=lH ((gG.o.below HLO.o (by omega)).below F1.o (by omega));have OX:=lH ((jA.o.below HLO.o (by omega)).below F1.o (by omega));have HLB:=lH (HLO.o.alloc hZ (.cells #[.string z.name,.string z.fr,.string z.to,.int .i64 z.x,.int .i64 z.tap,.int .i64 z.shift,.int .i64 z.limit,.int .i64 z.short,.int .i64 z.hold] 54));have fO:Hid (aD (wr.alloc (.cells #[.string z.name,.string z.fr,.string z.to,.int .i64 z.x,.int .i64 z.tap,.int .i64 z.shift,.int .i64 z.limit,.int .i64 z.short,.int .i64 z.hold] 54)) wr.heap.size 54 #[.string z.name,.string z.fr,.string z.to,.int .i64 z.x,.int .i64 z.tap,.int .i64 z.shift,.int .i64 z.limit,.int .i64 z.short,.int .i64 z.hold]):=lH (aD.new wr _ _);have aBY:Hid (bD (wr.alloc (.cells #[.string z.name,.string z.fr,.string z.to,.int .i64 z.x,.int .i64 z.tap,.int .i64 z.shift,.int .i64 z.limit,.int .i64 z.short,.int .i64 z.hold] 54)) (wr.alloc (.cells #[.string z.name,.string z.fr,.string z.to,.int .i64 z.x,.int .i64 z.tap,.int .i64 z.shift,.int .i64 z.limit,.int .i64 z.short,.int .i64 z.hold] 54)).heap.size A0 n0 x.nodes):=lH ((HRN.o.below F1.o (by omega)).more (by simp;omega));have f_:(k:Int)<(n2:Int):=by omega
     clear hz YH;(go_wp2_with fail);have hzw:wr.heap.size<(wr.alloc (.cells #[.string z.name,.string z.fr,.string z.to,.int .i64 z.x,.int .i64 z.tap,.int .i64 z.shift,.int .i64 z.limit,.int .i64 z.short,.int .i64 z.hold] 54)).heap.size:=by simp
     have nA:u7.ownBlock≠some w.heap.size:=fun e=>by have:=(HOW.o.lt _ e).1;omega
     have kU:u7.ownBlock≠some wr.heap.size:=fun e=>by have:=(HOW.o.lt _ e).2;omega
     have qI:u7.ownBlock≠some tb:=fun e=>by have:=(HOW.o.lt _ e).1;omega
     have tL:u7.ownBlock≠some gb:=fun e=>by have:=(HOW.o.lt _ e).1;omega
     clear y0 y1 y2 y3 y4 y5 nf nlt e0 e1 e2 e3 e4 e5 e6 e7 e8;generalize hWW:wr.alloc (.cells #[.string z.name,.string z.fr,.string z.to,.int .i64 z.x,.int .i64 z.tap,.int .i64 z.shift,.int .i64 z.limit,.int .i64 z.short,.int .i64 z.hold] 54)=W at *;generalize hzb:wr.heap.size=zb at *;have q0:W.cell? ⟨w.heap.size,0,none⟩=some (.slice A0 n0 c0):=HQB.o.cell 0;have t0:W.cell? ⟨tb,0,none⟩=some (.slice (some ⟨gb,0,none⟩) n0 n0):=HXB.o.cell 0;have b1:W.cell? ⟨zb,1,none⟩=some (.string z.fr):=fO.o.cell 1;have b2:W.cell? ⟨zb,2,none⟩=some (.string z.to):=fO.o.cell 2;have hsa:z.fr∈x.nodes:=HZS.o.1;have JP:z.to∈x.nodes:=HZS.o.2.1;have cf:W.cell? ⟨gb,dF x.nodes z.fr,none⟩=some (.int .i64 (aG x z.fr)):=by rw[<-(bU bM.o hsa).1];exact tH OX.o (bU bM.o hsa).2.2
     have ct:W.cell? ⟨gb,dF x.nodes z.to,none⟩=some (.int .i64 (aG x z.to)):=by rw[<-(bU bM.o JP).1];exact tH OX.o (bU bM.o JP).2.2
     have hif:dF x.nodes z.fr<n0:=by have:=(bU bM.o hsa).2.2;have:=aJZ.o;omega
     have hit:dF x.nodes z.to<n0:=by have:=(bU bM.o JP).2.2;have:=aJZ.o;omega
     have a3f:(dF x.nodes z.fr:Int)<(n0:Int):=by omega
     have a3e:(dF x.nodes z.to:Int)<(n0:Int):=by omega
     generalize hE0:((x.brs.take k).map fun b:Br=>(aG x b.fr,aG x b.to))=E0 at *;have HEE:=lH hE0;have cD:tb+1<=W.heap.size:=by omega
     clear hE0 hWW hzb;generalize u7=v7 at *;refine bT (S:=fun w'=>w'.cell? ⟨w.heap.size,0,none⟩=some (.slice A0 n0 c0)/\w'.cell? ⟨tb,0,none⟩=some (.slice (some ⟨gb,0,none⟩) n0 n0)/\w'.cell? ⟨zb,1,none⟩=some (.string z.fr)/\w'.cell? ⟨zb,2,none⟩=some (.string z.to)/\w'.cell? ⟨gb,dF x.nodes z.fr,none⟩=some (.int .i64 (aG x z.fr))/\w'.cell? ⟨gb,dF x.nodes z.to,none⟩=some (.int .i64 (aG x z.to))) 22 _ (by kernel_rfl) (by kernel_rfl) rfl ⟨q0,t0,b1,b2,cf,ct⟩ (fun hHeld=>?_);simp only[m_,List.take_zero];refine fP 0 (v:=?_) ?_ hHeld ?_;rotate_left 1
     ·intro w' hSw;(try dsimp only at hSw);go_simp<;>with_reducible rfl
     (try simp only[Act.put,fZ,fY,fX]);refine fP 1 (v:=?_) ?_ hHeld ?_;rotate_left 1
     ·intro w' hSw;(try dsimp only at hSw);go_simp<;>with_reducible rfl
     (try simp only[Act.put,fZ,fY,fX]);refine fP 2 (v:=?_) ?_ hHeld ?_;rotate_left 1
     ·intro w' hSw;(try dsimp only at hSw);go_simp<;>with_reducible rfl
     (try simp only[Act.put,fZ,fY,fX]);refine fP 3 (v:=?_) ?_ hHeld ?_;rotate_left 1
     ·intro w' hSw;(try dsimp only at hSw);go_simp<;>with_reducible rfl
     (try simp only[Act.put,fZ,fY,fX]);refine fP 4 (v:=?_) ?_ hHeld ?_;rotate_left 1
     ·intro w' hSw;(try dsimp only at hSw);go_simp<;>with_reducible rfl
     (try simp only[Act.put,fZ,fY,fX]);refine fP 5 (v:=?_) ?_ hHeld ?_;rotate_left 1
     ·intro w' hSw;(try dsimp only at hSw);go_simp<;>with_reducible rfl
     (try simp only[Act.put,fZ,fY,fX]);refine fP 6 (v:=?_) ?_ hHeld ?_;rotate_left 1
     ·intro w' hSw;(try dsimp only at hSw);go_simp<;>with_reducible rfl
     (try simp only[Act.put,fZ,fY,fX]);refine fP 10 (v:=?_) ?_ hHeld ?_;rotate_left 1
     ·intro w' hSw;(try dsimp only at hSw);go_simp<;>with_reducible rfl
     (try simp only[Act.put,fZ,fY,fX]);refine fP 11 (v:=?_) ?_ hHeld ?_;rotate_left 1
     ·intro w' hSw;(try dsimp only at hSw);go_simp<;>with_reducible rfl
     (try simp only[Act.put,fZ,fY,fX]);refine fP 12 (v:=?_) ?_ hHeld ?_;rotate_left 1
     ·intro w' hSw;(try dsimp only at hSw);go_simp<;>with_reducible rfl
     (try simp only[Act.put,fZ,fY,fX]);refine fP 13 (v:=?_) ?_ hHeld ?_;rotate_left 1
     ·intro w' hSw;(try dsimp only at hSw);go_simp<;>with_reducible rfl
     (try simp only[Act.put,fZ,fY,fX]);refine fP 14 (v:=?_) ?_ hHeld ?_;rotate_left 1
     ·intro w' hSw;(try dsimp only at hSw);go_simp<;>with_reducible rfl
     (try simp only[Act.put,fZ,fY,fX]);refine fP 15 (v:=?_) ?_ hHeld ?_;rotate_left 1
     ·intro w' hSw;(try dsimp only at hSw);go_simp<;>with_reducible rfl
     (try simp only[Act.put,fZ,fY,fX]);refine bI 7 (fun K hK=>?_);go_simp;refine(kD A0 n0 c0 x.nodes z.fr W.drew aBY.o aEO).mono ?_;rw[CW hsa];rintro e w' ⟨rfl,rfl⟩;go_simp;refine iB hK hHeld (fun hHeld=>?_);clear hK K;refine fP 8 (v:=?_) ?_ hHeld ?_;rotate_left 1
     ·intro w' hSw;(try dsimp only at hSw);go_simp<;>with_reducible rfl
     (try simp only[Act.put,fZ,fY,fX]);refine fP 9 (v:=?_) ?_ hHeld ?_;rotate_left 1
     ·intro w' hSw;(try dsimp only at hSw);go_simp<;>with_reducible rfl
     (try simp only[Act.put,fZ,fY,fX]);refine bI 16 (fun K hK=>?_);go_simp;refine(kD A0 n0 c0 x.nodes z.to W.drew aBY.o aEO).mono ?_;rw[CW JP];rintro e w' ⟨rfl,rfl⟩;go_simp;refine iB hK hHeld (fun hHeld=>?_);clear hK K;refine fP 17 (v:=?_) ?_ hHeld ?_;rotate_left 1
     ·intro w' hSw;(try dsimp only at hSw);go_simp<;>with_reducible rfl
     (try simp only[Act.put,fZ,fY,fX]);refine fP 18 (v:=?_) ?_ hHeld ?_;rotate_left 1
     ·intro w' hSw;(try dsimp only at hSw);go_simp<;>with_reducible rfl
     (try simp only[Act.put,fZ,fY,fX]);refine fP 19 (v:=?_) ?_ hHeld ?_;rotate_left 1
     ·intro w' hSw;(try dsimp only at hSw);go_simp<;>with_reducible rfl
     (try simp only[Act.put,fZ,fY,fX]);refine bI 20 (fun K hK=>?_);go_simp;refine hK.out _ _ ?_ (fun hHeld=>?_)
     ·exact⟨jE q0 (by omega),jE t0 (by omega),jE b1 (by omega),jE b2 (by omega),jE cf (by omega),jE ct (by omega)⟩
     clear hK K;(try simp only[Act.put,fZ,fY,fX]);refine bI 21 (fun K hK=>?_);refine step_append_lies _ (by rfl) _ _ _ (by rfl) (tb+1) 166 i0 _ 2 16 Tryz.underlying165 ES.o wX.o KN.o KM.o rfl (by omega) v7 _ _ (by rfl) ((HO.o.alloc _).drew) ⟨W.heap.size,0,none⟩ 1 1 (OU (aG x z.fr,aG x z.to)) (by rfl) (by rfl) (X2 W (aG x z.fr,aG x z.to) 166) (aDE _) (by omega) (by have:=OG.o;simp only[maxLen];omega) (by have:=OG.o;omega) (by simp;omega) (W.heap.size+1) (by simp) ?_;intro gg cap w1 hown1 hgrow AU aQw;refine hK.out _ _ ?_ (fun hHeld=>?_)
     ·exact⟨(hgrow.cell_far ⟨w.heap.size,0,none⟩ (by simp;omega) (Ne.symm nA)).trans (jE q0 (by omega)),(hgrow.cell_far ⟨tb,0,none⟩ (by simp;omega) (Ne.symm qI)).trans (jE t0 (by omega)),(hgrow.cell_far ⟨zb,1,none⟩ (by simp;omega) (Ne.symm kU)).trans (jE b1 (by omega)),(hgrow.cell_far ⟨zb,2,none⟩ (by simp;omega) (Ne.symm kU)).trans (jE b2 (by omega)),(hgrow.cell_far ⟨gb,dF x.nodes z.fr,none⟩ (by simp;omega) (Ne.symm tL)).trans (jE cf (by omega)),(hgrow.cell_far ⟨gb,dF x.nodes z.to,none⟩ (by simp;omega) (Ne.symm tL)).trans (jE ct (by omega))⟩
     clear hK K;(try simp only[Act.put,fZ,fY,fX]);refine eP ?_;have HS5:Hid (w1.ownsRow (tb+1) 166 2 (.slice (some ⟨gg,0,none⟩) (k+1) cap) (k+1) (((x.brs.take (k+1)).map fun b=>(aG x b.fr,aG x b.to)).flatMap OU)):=lH (by rw[HZ.o,List.flatMap_append];simpa[OU] using hown1);have d_:Hid (Below (tb+1) w4 w1):=lH (HLB.o.trans ((aI (bR.alloc cD _)).grown hgrow (by simp;omega) (fun k hk=>(HO.o.lt k hk).1)));clear hgrow AU hown1 hHeld;go_simp;(go_wp2_with fail);go_roundw
     case rel=>exact⟨k+1,by omega,by go_num,d_.o,by have:=d_.o.size;have:=gG.o.lt;omega,HS5.o⟩
     case measure=>simp[intOf];omega
    ·have hkk:n2=k:=by omega
     subst hkk;have F6:Hid (wr.ownsRow (tb+1) 166 2 u7 (KH x).length ((KH x).flatMap OU)):=lH (by
      have h:=HOW.o;rw[nT (by have:=iD.o;omega)] at h;have e:(KH x).length=n2:=by unfold KH;rw[iT];exact iD.o
      rw[e];exact h)
     obtain⟨A,c,hu7,hE⟩:=XY F6.o;subst hu7;have HE:=lH hE;have HT3:=lH (F2.o.below HLO.o (by omega));have ZO:=lH (gG.o.below HLO.o (by omega));have SZ:=lH (jA.o.below HLO.o (by omega));have fV:=lH (dN.o.trans (HLO.o.mono (by omega)));have HBO:=lH (DL bM.o);have HIS:Hid (DA x=jU (aH x) (KH x)):=lH rfl;clear hE;generalize KH x=es at *;(go_wp2_with fail);clear y0 y1 y2 y3 y4 y5 nf nlt;refine(R5 A c (aH x) es wr HE.o HBO.o.1 hbn (by have:=HBO.o.2;omega)).mono ?_;rintro e w5 ⟨hb,g2,rfl,hg,dO⟩;obtain⟨HT5,HX5,HG5⟩:=dZ (HT3.o.bl hb) (ZO.o.bl hb) (SZ.o.bl hb);have d_:=cJ fV hb;have zJ:=lH dO;have lM:tb+1<=g2:=by omega
     obtain⟨x0,x1⟩:=HX5.o.a2;have xf0:=HX5.o.frozen 0;have xf1:=HX5.o.frozen 1;obtain⟨t0,t1⟩:=HT5.o.a2;have tf0:=HT5.o.frozen 0;have tf1:=HT5.o.frozen 1;have a2Z:=HX5.o.lt;have a2X:=HT5.o.lt;have cG:tb≠w.heap.size+1:=by omega
     have a2N:w.heap.size+1≠tb:=by omega
     clear hb hg dO;(go_wp2_with fail);have HT9:Hid (aD (((w5.setCell ⟨tb,1,none⟩ (.slice (some ⟨g2,0,none⟩) (aH x) (aH x))).setCell ⟨w.heap.size+1,0,none⟩ (.slice (some ⟨gb,0,none⟩) n0 n0)).setCell ⟨w.heap.size+1,1,none⟩ (.slice (some ⟨g2,0,none⟩) (aH x) (aH x))) (w.heap.size+1) 50 #[.slice (some ⟨gb,0,none⟩) n0 n0,.slice (some ⟨g2,0,none⟩) (aH x) (aH x)]):=lH (((HT5.o.far (by simp;omega) _).set_at (i:=0) _ (by simp;rfl)).set_at (i:=1) _ (by simp));have fH:Hid (Below w.heap.size w (((w5.setCell ⟨tb,1,none⟩ (.slice (some ⟨g2,0,none⟩) (aH x) (aH x))).setCell ⟨w.heap.size+1,0,none⟩ (.slice (some ⟨gb,0,none⟩) n0 n0)).setCell ⟨w.heap.size+1,1,none⟩ (.slice (some ⟨g2,0,none⟩) (aH x) (aH x)))):=lH (((d_.o.setCell (by simp;omega) _).setCell (by simp) _).setCell (by simp) _);have HG9:Hid (aD (((w5.setCell ⟨tb,1,none⟩ (.slice (some ⟨g2,0,none⟩) (aH x) (aH x))).setCell ⟨w.heap.size+1,0,none⟩ (.slice (some ⟨gb,0,none⟩) n0 n0)).setCell ⟨w.heap.size+1,1,none⟩ (.slice (some ⟨g2,0,none⟩) (aH x) (aH x))) gb 3 (ints (kS x)).toArray):=lH (((HG5.o.far (by simp;omega) _).far (by simp;omega) _).far (by simp;omega) _);have HK9:Hid (aD (((w5.setCell ⟨tb,1,none⟩ (.slice (some ⟨g2,0,none⟩) (aH x) (aH x))).setCell ⟨w.heap.size+1,0,none⟩ (.slice (some ⟨gb,0,none⟩) n0 n0)).setCell ⟨w.heap.size+1,1,none⟩ (.slice (some ⟨g2,0,none⟩) (aH x) (aH x))) g2 3 (ints (jU (aH x) es)).toArray):=lH (((zJ.o.far (by simp;omega) _).far (by simp;omega) _).far (by simp;omega) _);generalize ((w5.setCell ⟨tb,1,none⟩ (.slice (some ⟨g2,0,none⟩) (aH x) (aH x))).setCell ⟨w.heap.size+1,0,none⟩ (.slice (some ⟨gb,0,none⟩) n0 n0)).setCell ⟨w.heap.size+1,1,none⟩ (.slice (some ⟨g2,0,none⟩) (aH x) (aH x))=w9 at *;obtain⟨f0,f1⟩:=HT9.o.a2;refine bodyPost_ret (v:=.agg #[.slice (some ⟨gb,0,none⟩) n0 n0,.slice (some ⟨g2,0,none⟩) (aH x) (aH x)]) (by simp[results,Tryz.results59,go_sem,f0,f1]) rfl ?_;exact HP.o _ _ ⟨fH.o,gb,g2,rfl,by omega,by omega,HG9.o,by rw[HIS.o];exact HK9.o⟩
end
