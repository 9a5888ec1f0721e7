import Derived.Test.YtonlblmobjhjjaaGreatDoorW05
import Derived.Test.YtonlblmobjhjjaaGreatDoorW06
set_option linter.unusedVariables false
set_option linter.unusedSimpArgs false
namespace Go.Proofs.YtonlblmobjhjjaaGreatDoor
set_option maxHeartbeats 8000000
set_option maxRecDepth 100000
variable {k n : Nat} {v : Value} {w : World} {x : bP}
section
open Go.ChangeShapes Go.WideShapes Go.ChangeAt Go.RowKit
attribute [local go_sem ↓] aE
attribute [local go_sem] aJ aI aL
def lB(q:Rat):Rat:=if q.num<0 then -q else q
theorem qI(q:Rat):bM (lB q)=bM q:=by
 unfold lB;split
 ·exact kG q
 ·rfl
theorem DP(p:Rat)(b1:Bool)(A:OA)(n c:Nat)(b2:Bool)(A2:OA)(n2 c2:Nat)(w:Wo)(h1:bS w w.heap.size p b1 A n c b2 A2 n2 c2):Calls Tryz.prog 100 #[.agg #[.bool b1,.slice A n c,.bool b2,.slice A2 n2 c2]] w fun e w'=>e=.returned (.int .i64 p.num.sign)/\Below w.heap.size w w':=by
 have cI:Hid (Below w.heap.size w (w.alloc (aU b1 A n c b2 A2 n2 c2))):=lH (bA);have dE:=lH (aD.new w 87 #[.bool b1,.slice A n c,.bool b2,.slice A2 n2 c2]);have H1:=lH (h1.up cI.o);clear h1;go_enter Tryz.func100,Tryz.ntmps100
 go_upto_region 1 with fail
 generalize w.alloc (aU b1 A n c b2 A2 n2 c2)=W at *;obtain⟨p0,p1,p2,p3,pl⟩:=dE.o.b4
 go_wp2_with fail
 refine(wV p.num b1 A n c W H1.o.num).mono ?_;rintro e w1 ⟨rfl,bG⟩;have cR:=bX cI bG;clear bG
 go_wp2_with fail
 go_ret;exact⟨rfl,cR.o⟩
theorem VG(p:Rat)(b1:Bool)(A:OA)(n c:Nat)(b2:Bool)(A2:OA)(n2 c2:Nat)(w:Wo)(h1:bS w w.heap.size p b1 A n c b2 A2 n2 c2):Calls Tryz.prog 81 #[.agg #[.bool b1,.slice A n c,.bool b2,.slice A2 n2 c2]] w (PU (lB p) w):=by
 have cI:Hid (Below w.heap.size w ((w.alloc (aU b1 A n c b2 A2 n2 c2)).alloc dC)):=lH ((bA).alloc (by simp) _);have dE:Hid (aD ((w.alloc (aU b1 A n c b2 A2 n2 c2)).alloc dC) w.heap.size 87 #[.bool b1,.slice A n c,.bool b2,.slice A2 n2 c2]):=lH ((aD.new w _ _).alloc _);have HR:Hid (aD ((w.alloc (aU b1 A n c b2 A2 n2 c2)).alloc dC) (w.heap.size+1) 87 #[.bool false,.slice none 0 0,.bool false,.slice none 0 0]):=lH (aD.new_ (by simp));have mF:w.heap.size<=w.heap.size+1:=by omega
 have H1:=lH (h1.up cI.o);clear h1;go_enter Tryz.func81,Tryz.ntmps81
 go_upto_region 1 with fail
 generalize ((w.alloc (aU b1 A n c b2 A2 n2 c2)).alloc dC)=W at *;obtain⟨p0,p1,p2,p3,pl⟩:=dE.o.b4
 go_wp2_with fail
 refine(DP p b1 A n c b2 A2 n2 c2 W H1.o).mono ?_;rintro e w1 ⟨rfl,bG⟩;clear p0 p1 p2 p3 pl;have cR:=bX cI bG;obtain⟨tH,nI,H11⟩:=eR (dE.o.bl bG) (HR.o.bl bG) (H1.o.up bG);clear bG;obtain⟨p0,p1,p2,p3,pl⟩:=tH.o.b4;by_cases hs:p.num<0
 ·have HE:Hid (lB p=-p):=lH (by unfold lB;rw[if_pos hs])
  (go_wp2_with fail);refine(AD p b1 A n c b2 A2 n2 c2 w1 H11.o).mono ?_;rintro e w2 ⟨bV,f5,C5,i5,j5,f5d,C5d,i5d,j5d,rfl,h5⟩;clear p0 p1 p2 p3 pl;have dB:=bX cR bV;have qU:=lH (nI.o.bl bV);have H5:Hid (bS w2 w2.heap.size (lB p) f5 C5 i5 j5 f5d C5d i5d j5d):=lH (by rw[HE.o];exact h5);clear bV h5;obtain⟨z0,z1,z2,z3,zf,zl⟩:=qU.o.e4;(go_wp2_with fail);generalize dO:(((w2.setCell ⟨_,0,none⟩ _).setCell ⟨_,1,none⟩ _).setCell ⟨_,2,none⟩ _).setCell ⟨_,3,none⟩ _=W9;have fO:=lH (iP (e:=.returned (.agg #[.bool f5,.slice C5 i5 j5,.bool f5d,.slice C5d i5d j5d])) dB.o mF qU.o (by simp) (by simp) (by simp) (by simp) H5.o rfl);rw[dO] at fO;have eU:Hid (aD W9 _ 87 #[.bool f5,.slice C5 i5 j5,.bool f5d,.slice C5d i5d j5d]):=lH (by rw[<-dO];exact d9 qU.o);clear dO z0 z1 z2 z3 zf zl;obtain⟨q0,q1,q2,q3⟩:=eU.o.a4;exact bodyPost_ret (v:=.agg #[.bool f5,.slice C5 i5 j5,.bool f5d,.slice C5d i5d j5d]) (by simp[results,Tryz.results81,go_sem,q0,q1,q2,q3]) rfl fO.o
 ·have HE:Hid (lB p=p):=lH (by unfold lB;rw[if_neg hs])
  have vN:Hid (bS w1 w1.heap.size (lB p) b1 A n c b2 A2 n2 c2):=lH (by rw[HE.o];exact H11.o);obtain⟨z0,z1,z2,z3,zf,zl⟩:=nI.o.e4;(go_wp2_with fail);generalize dO:(((w1.setCell ⟨_,0,none⟩ _).setCell ⟨_,1,none⟩ _).setCell ⟨_,2,none⟩ _).setCell ⟨_,3,none⟩ _=W9;have fO:=lH (iP (e:=.returned (.agg #[.bool b1,.slice A n c,.bool b2,.slice A2 n2 c2])) cR.o mF nI.o (by simp) (by simp) (by simp) (by simp) vN.o rfl);rw[dO] at fO;have eU:Hid (aD W9 _ 87 #[.bool b1,.slice A n c,.bool b2,.slice A2 n2 c2]):=lH (by rw[<-dO];exact d9 nI.o);clear dO z0 z1 z2 z3 zf zl;obtain⟨q0,q1,q2,q3⟩:=eU.o.a4;exact bodyPost_ret (v:=.agg #[.bool b1,.slice A n c,.bool b2,.slice A2 n2 c2]) (by simp[results,Tryz.results81,go_sem,q0,q1,q2,q3]) rfl fO.o
theorem QA(k:Int)(w:Wo)(h0:-9223372036854775808<=k)(h1:k<=9223372036854775807):Calls Tryz.prog 66 #[.int .i64 k] w (PU (k:Rat) w):=by
 have cI:Hid (Below w.heap.size w (w.alloc dC)):=lH (bA);have HR:Hid (aD (w.alloc dC) w.heap.size 87 #[.bool false,.slice none 0 0,.bool false,.slice none 0 0]):=lH (aD.new w _ _);have mF:w.heap.size<=w.heap.size:=lR;go_enter Tryz.func66,Tryz.ntmps66
 go_upto_region 1 with fail
 generalize (w.alloc dC)=W at *
 go_wp2_with fail
 refine(sQ k W h0 h1).mono ?_;rintro e w1 ⟨bG,f5,C5,i5,j5,rfl,h5⟩;have cR:=bX cI bG;have nI:=lH (HR.o.bl bG);have H5:=lH h5;clear bG h5
 go_wp2_with fail
 refine(sQ 1 w1 (by decide) (by decide)).mono ?_;rintro e w2 ⟨bV,f6,C6,i6,j6,rfl,h6⟩;have dB:=bX cR bV;have qU:=lH (nI.o.bl bV);have HQ:Hid (bS w2 w2.heap.size (k:Rat) f5 C5 i5 j5 f6 C6 i6 j6):=lH ⟨by rw[Rat.num_intCast];exact H5.o.up bV,by rw[Rat.den_intCast];exact h6⟩;clear bV h6;obtain⟨z0,z1,z2,z3,zf,zl⟩:=qU.o.e4
 go_wp2_with fail
 generalize dO:(((w2.setCell ⟨_,0,none⟩ _).setCell ⟨_,1,none⟩ _).setCell ⟨_,2,none⟩ _).setCell ⟨_,3,none⟩ _=W9;have fO:=lH (iP (e:=.returned (.agg #[.bool f5,.slice C5 i5 j5,.bool f6,.slice C6 i6 j6])) dB.o mF qU.o (by simp) (by simp) (by simp) (by simp) HQ.o rfl);rw[dO] at fO;have eU:Hid (aD W9 _ 87 #[.bool f5,.slice C5 i5 j5,.bool f6,.slice C6 i6 j6]):=lH (by rw[<-dO];exact d9 qU.o);clear dO z0 z1 z2 z3 zf zl;obtain⟨q0,q1,q2,q3⟩:=eU.o.a4;exact bodyPost_ret (v:=.agg #[.bool f5,.slice C5 i5 j5,.bool f6,.slice C6 i6 j6]) (by simp[results,Tryz.results66,go_sem,q0,q1,q2,q3]) rfl fO.o
theorem YE(k d:Int)(w:Wo)(h0:-9223372036854775808<=k)(h1:k<=9223372036854775807)(h2:-9223372036854775808<=d)(h3:d<=9223372036854775807)(hd:d≠0):Calls Tryz.prog 62 #[.int .i64 k,.int .i64 d] w (PU (Rat.divInt k d) w):=by
 have cI:Hid (Below w.heap.size w (w.alloc dC)):=lH (bA);have HR:Hid (aD (w.alloc dC) w.heap.size 87 #[.bool false,.slice none 0 0,.bool false,.slice none 0 0]):=lH (aD.new w _ _);have mF:w.heap.size<=w.heap.size:=lR;have sz:∀z:Int,-9223372036854775808<=z->z<=9223372036854775807->cE z.natAbs<=2:=fun z a b=>gI (by show _<4294967296^2;omega);have s1:=sz k h0 h1;have s2:=sz d h2 h3;clear sz;go_enter Tryz.func62,Tryz.ntmps62
 go_upto_region 1 with fail
 generalize (w.alloc dC)=W at *
 go_wp2_with fail
 refine(sQ k W h0 h1).mono ?_;rintro e w1 ⟨bG,f5,C5,i5,j5,rfl,h5⟩;have cR:=bX cI bG;have nI:=lH (HR.o.bl bG);have H5:=lH h5;clear bG h5
 go_wp2_with fail
 refine(sQ d w1 h2 h3).mono ?_;rintro e w2 ⟨bV,f6,C6,i6,j6,rfl,h6⟩;have dB:=bX cR bV;obtain⟨qU,H52,H62⟩:=eR (nI.o.bl bV) (H5.o.up bV) h6;clear bV h6
 go_wp2_with fail
 refine(q8 k d f5 C5 i5 j5 f6 C6 i6 j6 w2 H52.o H62.o hd (by rw[H52.o.en];omega) (by rw[H62.o.en];omega)).mono ?_;rintro e w3 ⟨eF,f7,C7,i7,j7,f7d,C7d,i7d,j7d,rfl,h7⟩;have gY:=bX dB eF;have E5:=lH (qU.o.bl eF);have H7:=lH h7;clear eF h7;obtain⟨z0,z1,z2,z3,zf,zl⟩:=E5.o.e4
 go_wp2_with fail
 generalize dO:(((w3.setCell ⟨_,0,none⟩ _).setCell ⟨_,1,none⟩ _).setCell ⟨_,2,none⟩ _).setCell ⟨_,3,none⟩ _=W9;have fO:=lH (iP (e:=.returned (.agg #[.bool f7,.slice C7 i7 j7,.bool f7d,.slice C7d i7d j7d])) gY.o mF E5.o (by simp) (by simp) (by simp) (by simp) H7.o rfl);rw[dO] at fO;have eU:Hid (aD W9 _ 87 #[.bool f7,.slice C7 i7 j7,.bool f7d,.slice C7d i7d j7d]):=lH (by rw[<-dO];exact d9 E5.o);clear dO z0 z1 z2 z3 zf zl;obtain⟨q0,q1,q2,q3⟩:=eU.o.a4;exact bodyPost_ret (v:=.agg #[.bool f7,.slice C7 i7 j7,.bool f7d,.slice C7d i7d j7d]) (by simp[results,Tryz.results62,go_sem,q0,q1,q2,q3]) rfl fO.o
end
section
open Go.ChangeShapes Go.WideShapes Go.ChangeAt Go.RowKit
attribute [local go_sem ↓] aE
attribute [local go_sem] aJ aI aL aX cQ.cells
theorem SA(A:OA)(c n:Nat)(es:List (Nat×Nat))(w:Wo)(hE:KQ w w.heap.size A es.length es)(ok:∀x∈es,x.1<n/\x.2<n)(hn:n<=24)(he:es.length<=64):Calls Tryz.prog 117 #[.int .i64 n,.slice A es.length c] w fun e w'=>e=.returned (.int .i64 0)/\Below w.heap.size w w':=by
 obtain⟨HE,cL,cI⟩:=eR hE ok (Below.refl w.heap.size w);clear hE ok;go_enter Tryz.func117,Tryz.ntmps117
 go_wp2_with fail
 go_loopw [20] (fun v wr=>∃k:Nat,k<=es.length/\v=.int .i64 k/\Below w.heap.size w wr) (fun v _=>es.length-(intOf v).toNat)
 case atStart=>exact⟨0,by omega,rfl,cI.o⟩
 case round=>
  obtain⟨k,hk,rfl,hb⟩:=hrel;have HB:=lH hb;clear hb;by_cases aR:k<es.length
  ·obtain⟨⟨xa,xb⟩,hx⟩:∃x,es[k]?=some x:=⟨_,jP aR⟩
   have hE:=(HE.o.below HB.o lR).more HB.o.size;obtain⟨eb,eo,heA,heb⟩:=hE.form (by omega);subst heA;obtain⟨e0,e1⟩:=hE.at_ hx;dsimp only at e0 e1;obtain⟨hxa,hxb⟩:=cL.o _ (cS hx);dsimp only at hxa hxb;have iM:(k:Int)<(es.length:Int):=by omega
   have hI1:(xa:Int)<(n:Int):=by omega
   have hI2:(xb:Int)<(n:Int):=by omega
   have G2:=lH (HB.o.alloc HB.o.size (.cells #[.int .i64 xa,.int .i64 xb] 152));clear hE hx;(go_wp2_with fail);go_roundw
   case rel=>exact⟨k+1,by omega,by go_num,G2.o⟩
   case measure=>simp[intOf];omega
  ·have hkk:k=es.length:=by omega
   subst hkk;(go_wp2_with fail);go_ret;exact⟨rfl,HB.o⟩
def aDV(n:Nat)(es:List (Nat×Nat))(w:Wo)(e:Ending)(w':Wo):Prop:=
 Below w.heap.size w w'/\∃g:Nat,e=.returned (.tuple #[.slice (some ⟨g,0,none⟩) n n,.int .i64 0])/\w.heap.size<=g/\aD w' g 3 (bK (eQ n es)).toArray
theorem Y6(n:Nat)(es:List (Nat×Nat))(w:Wo)(e:Ending)(w':Wo)(h:Below w.heap.size w w'/\∃g:Nat,e=.returned (.tuple #[.slice (some ⟨g,0,none⟩) n n,.int .i64 0])/\w.heap.size<=g/\aD w' g 3 (bK (eQ n es)).toArray):aDV n es w e w':=h
theorem J8(A:OA)(c n:Nat)(es:List (Nat×Nat))(w:Wo)(hE:KQ w w.heap.size A es.length es)(ok:∀x∈es,x.1<n/\x.2<n)(hn:n<=24)(he:es.length<=64):Calls Tryz.prog 78 #[.int .i64 n,.slice A es.length c] w (aDV n es w):=by
 obtain⟨HE,cL,HP⟩:=eR hE ok (Y6 n es w);clear hE ok;go_enter Tryz.func78,Tryz.ntmps78
 go_wp2_with fail
 refine(SA A c n es w HE.o cL.o hn he).mono ?_;rintro e w1 ⟨rfl,hb⟩;have HB:=lH hb;clear hb
 go_wp2_with fail
 refine(Q7 A c n es w1 (HE.o.bm HB.o) cL.o (by omega) (by omega)).mono ?_;rintro e w2 ⟨bV,g,rfl,hg,eA⟩;have dB:=bX HB bV;have HG:=lH hg;have kB:=lH eA;clear bV hg eA
 go_wp2_with fail
 go_ret2;exact HP.o _ _ ⟨dB.o,g,rfl,eN HB.o.size HG.o,kB.o⟩
def sL(nodes:List ByteArray)(op:Bool)(s:Sw):List (Nat×Nat):=if s.opn=op then[(bL nodes s.a,bL nodes s.b)] else[]
def UR(x:bP)(op:Bool):List (Nat×Nat):=x.sws.flatMap (sL x.nodes op)
theorem aD0{α β:Type}(f:α->List β){l:List α}{x:α}(h:l[k]?=some x):(l.take (k+1)).flatMap f=(l.take k).flatMap f++f x:=by
 rw[List.take_add_one,h,List.flatMap_append];simp
theorem WP{α β:Type}(f:α->List β)(m:Nat)(h:∀a,(f a).length<=m):∀l:List α,(l.flatMap f).length<=m*l.length
 | []=>by simp
 | a::l=>by
  have h1:=WP f m h l;have h2:=h a;rw[List.flatMap_cons,jO,G4,Nat.mul_succ];omega
theorem G_(nodes:List ByteArray)(op:Bool)(s:Sw):(sL nodes op s).length<=1:=by unfold sL;split<;>simp
theorem WY:(Tryz.prog.info? 152).map (fun i=>(i.zero,i.size,i.bytes))=some (some (.agg #[.int .i64 0,.int .i64 0]),2,16):=by kernel_rfl
structure EgS (w0 W:Wo) (h:cQ) (v6 v7:Value) (es:List (Nat×Nat)) (ws:List Value):Prop where
 low:Below w0.heap.size w0 W
 q1:aD W w0.heap.size 29 h.cells
 o6:W.ownsRow (w0.heap.size+1) 152 2 v6 es.length (es.flatMap GW)
 o7:W.ownsRow (w0.heap.size+1) 3 1 v7 ws.length ws
 ap:v7.ownBlock=none\/v7.ownBlock≠v6.ownBlock
 sz:w0.heap.size+1<=W.heap.size
theorem MC{w':Wo}{base e size:Nat}{xs:List Value}(h:w.ownsRow base e size v n xs)(hb:Below w.heap.size w w'):w'.ownsRow base e size v n xs:=by
 refine⟨h.1,?_⟩;rcases h.2 with h1 | ⟨g,cap,cur,h1,h2,h3,h4⟩
 ·exact .inl h1
 ·refine .inr ⟨g,cap,cur,h1,h2,?_,h4⟩
  have hg:g<w.heap.size:=by
   rcases Nat.lt_or_ge g w.heap.size with aR | LB
   ·exact aR
   ·rw[Array.getElem?_eq_none LB] at h3;cases h3
  exact(hb.block g hg).trans h3
theorem EgS.up{w0 W W':Wo}{h:cQ}{v6 v7:Value}{es:List (Nat×Nat)}{ws:List Value}(H:EgS w0 W h v6 v7 es ws)(hb:Below W.heap.size W W'):EgS w0 W' h v6 v7 es ws:=
 ⟨H.low.tm hb,H.q1.bl hb,MC H.o6 hb,MC H.o7 hb,H.ap,eN H.sz hb.size⟩
theorem rC{B e size g:Nat}{xs:List Value}(h:w.ownsRow B e size v n xs)(hg:v.ownBlock=some g):B<=g/\g<w.heap.size:=h.lt g hg
theorem EgS.app6{w0 W W' W1:Wo}{h:cQ}{v6 v7:Value}{es:List (Nat×Nat)}{ws:List Value}(H:EgS w0 W h v6 v7 es ws)(hb:Below W.heap.size W W'){p:Nat×Nat}{g cap:Nat}(ho:W1.ownsRow (w0.heap.size+1) 152 2 (.slice (some ⟨g,0,none⟩) (es.length+1) cap) (es.length+1) (es.flatMap GW++GW p))(hg:W'.grownBy W1 v6.ownBlock)(qN:v6.ownBlock=some g\/g=W'.heap.size):EgS w0 W1 h (.slice (some ⟨g,0,none⟩) (es.length+1) cap) v7 (es++[p]) ws:=by
 have H':=H.up hb;have cK:v7.ownBlock=none\/v7.ownBlock≠v6.ownBlock:=H'.ap;have aEC:Below w0.heap.size w0 W1:=by
  refine⟨hg.os.trans H'.low.os,hg.tape.trans H'.low.tape,hg.output.trans H'.low.output,eN H'.low.size hg.size,fun i hi=>?_⟩;have cK:some i≠v6.ownBlock:=fun e=>by have:=(rC H'.o6 e.symm).1;omega
  exact(hg.block i (by have:=H'.sz;omega) cK).trans (H'.low.block i hi)
 refine⟨aEC,H'.q1.grown hg (fun e=>?_),?_,H'.o7.kept hg cK,?_,eN H'.sz hg.size⟩
 ·have:=(rC H'.o6 e.symm).1;omega
 ·rw[jO,List.flatMap_append]
  simpa[GW] using ho
 ·rcases cK with h1 | h1
  ·exact .inl h1
  ·right
   intro e;rcases qN with h2 | h2
   ·rw[h2] at h1;exact h1 e
   ·have h3:v7.ownBlock=some g:=e
    have:=(rC H'.o7 h3).2;omega
theorem EgS.app7{w0 W W' W1:Wo}{h:cQ}{v6 v7:Value}{es:List (Nat×Nat)}{ws:List Value}(H:EgS w0 W h v6 v7 es ws)(hb:Below W.heap.size W W'){u:Value}{g cap:Nat}(ho:W1.ownsRow (w0.heap.size+1) 3 1 (.slice (some ⟨g,0,none⟩) (ws.length+1) cap) (ws.length+1) (ws++[u]))(hg:W'.grownBy W1 v7.ownBlock)(qN:v7.ownBlock=some g\/g=W'.heap.size):EgS w0 W1 h v6 (.slice (some ⟨g,0,none⟩) (ws.length+1) cap) es (ws++[u]):=by
 have H':=H.up hb;have hap:=H'.ap;have cK:v6.ownBlock=none\/v6.ownBlock≠v7.ownBlock:=by
  rcases hap with h1 | h1
  ·rw[h1]
   cases h6:v6.ownBlock with
   | none=>exact .inl rfl
   | some k=>exact .inr (by simp)
  ·exact .inr (Ne.symm h1)
 have aEC:Below w0.heap.size w0 W1:=by
  refine⟨hg.os.trans H'.low.os,hg.tape.trans H'.low.tape,hg.output.trans H'.low.output,eN H'.low.size hg.size,fun i hi=>?_⟩;have cK:some i≠v7.ownBlock:=fun e=>by have:=(rC H'.o7 e.symm).1;omega
  exact(hg.block i (by have:=H'.sz;omega) cK).trans (H'.low.block i hi)
 refine⟨aEC,H'.q1.grown hg (fun e=>?_),H'.o6.kept hg cK,by rw[jO];exact ho,?_,eN H'.sz hg.size⟩
 ·have:=(rC H'.o7 e.symm).1;omega
 ·right
  intro e;rcases qN with h2 | h2
  ·rcases hap with h1 | h1
   ·rw[h1] at h2;cases h2
   ·rw[h2] at h1;exact h1 e
  ·have h3:v6.ownBlock=some g:=e.symm
   have:=(rC H'.o6 h3).2;omega
theorem wR{nodes:List ByteArray}{s:ByteArray}(hs:s∈nodes):eP (fun x=>k_ s x) nodes 0=((bL nodes s:Nat):Int):=(nQ hs).1
theorem OP(w:Wo)(p:Nat×Nat)(t:TypeId):∀(j:Nat)(u:Value),(GW p)[j]?=some u->((w.alloc (.cells #[.int .i64 p.1,.int .i64 p.2] t)).drew).cell? ((⟨w.heap.size,0,none⟩:Addr).add j)=some u:=
 World.news_of_block (w:=(w.alloc (.cells #[.int .i64 p.1,.int .i64 p.2] t)).drew) (B:=w.heap.size) (cs:=#[.int .i64 p.1,.int .i64 p.2]) (t:=t) (fr:=(0,0)) (aD.new w t _)
theorem VK(p:Nat×Nat):∀u∈GW p,u.oneCell'=true:=by
 intro u hu;unfold GW at hu;simp at hu;rcases hu with rfl | rfl<;>rfl
theorem gE{b o:Nat}{ob:Obj}(h:w.cell? ⟨b,o,none⟩=some v)(hb:b<w.heap.size):(w.alloc ob).cell? ⟨b,o,none⟩=some v:=by
 rw[((Below.refl w.heap.size w).alloc lR ob).cell (p:=⟨b,o,none⟩) hb];exact h
def aKt(x:bP)(op:Bool)(w:Wo)(e:Ending)(w':Wo):Prop:=
 Below w.heap.size w w'/\∃(v6 v7:Value),e=.returned (.tuple #[v6,v7])/\w'.ownsRow (w.heap.size+1) 152 2 v6 (UR x op).length ((UR x op).flatMap GW)
theorem aB7(x:bP)(op:Bool)(w:Wo)(e:Ending)(w':Wo)(h:Below w.heap.size w w'/\∃(v6 v7:Value),e=.returned (.tuple #[v6,v7])/\w'.ownsRow (w.heap.size+1) 152 2 v6 (UR x op).length ((UR x op).flatMap GW)):aKt x op w e w':=h
theorem SF(h:cQ)(x:bP)(ok:cH x)(op:Bool)(w:Wo)(hR:cX w w.heap.size h x):Calls Tryz.prog 116 #[.agg h.cells,.bool op] w (aKt x op w):=by
 obtain⟨A0,n0,c0,A1,n1,c1,A2,n2,c2,A3,n3,c3,A4,n4,c4,A5,n5,c5⟩:=h;dsimp only[cQ.cells] at *;obtain⟨cL,HR,HP⟩:=eR ok hR (aB7 x op w);obtain⟨i0,jL,R1,TQ,hi3⟩:=info_parts WY;obtain⟨yT,xK,CE,CD⟩:=gO jL R1 TQ hi3;obtain⟨j0,JF,hj1,hj2,hj3⟩:=info_parts WZ;obtain⟨HJ0,HJ1,HJ2,HJ3⟩:=gO JF hj1 hj2 hj3;have gB:Hid (x.sws.length=n1):=lH hR.r1.1;have aQc:n1<=32:=by have:=ok.l1;have:=gB.o;omega
 have XL:n0<=9223372036854775807:=hR.m0;have NZ:Hid (EgS w (w.alloc (.cells #[.slice A0 n0 c0,.slice A1 n1 c1,.slice A2 n2 c2,.slice A3 n3 c3,.slice A4 n4 c4,.slice A5 n5 c5] 29)) ⟨A0,n0,c0,A1,n1,c1,A2,n2,c2,A3,n3,c3,A4,n4,c4,A5,n5,c5⟩ (.slice none 0 0) (.slice none 0 0) [] []):=lH
  ⟨bA,aD.new w _ _,World.ownsRow_nil _ _ _ _,World.ownsRow_nil _ _ _ _,.inl rfl,by simp⟩
 clear jL R1 TQ hi3 JF hj1 hj2 hj3 ok hR;obtain⟨y0,y1,y2,y3,y4,y5,nf,nlt⟩:=cG (h:=⟨A0,n0,c0,A1,n1,c1,A2,n2,c2,A3,n3,c3,A4,n4,c4,A5,n5,c5⟩) NZ.o.q1;go_enter Tryz.func116,Tryz.ntmps116
 go_wp2_with fail
 generalize w.alloc (.cells #[.slice A0 n0 c0,.slice A1 n1 c1,.slice A2 n2 c2,.slice A3 n3 c3,.slice A4 n4 c4,.slice A5 n5 c5] 29)=w1 at *;clear y0 y1 y2 y3 y4 y5 nf nlt
 go_loopw [6,7,13] (fun v6 v7 i wr=>∃(k:Nat)(ws:List Value),k<=n1/\i=.int .i64 k/\ws.length<=k/\EgS w wr ⟨A0,n0,c0,A1,n1,c1,A2,n2,c2,A3,n3,c3,A4,n4,c4,A5,n5,c5⟩ v6 v7 ((x.sws.take k).flatMap (sL x.nodes op)) ws) (fun _ _ i _=>n1-(intOf i).toNat)
 case atStart=>exact⟨0,[],by omega,rfl,by simp,NZ.o⟩
 case round=>
  clear NZ;obtain⟨k,ws,hk,rfl,hwl,hs⟩:=hrel;have HS:=lH hs;have HWL:=lH hwl;obtain⟨y0,y1,y2,y3,y4,y5,nf,nlt⟩:=cG hs.q1;clear hs hwl;by_cases aR:k<n1
  ·obtain⟨z,hz⟩:∃z,x.sws[k]?=some z:=eG (by have:=gB.o;omega)
   have TN:=HR.o.up HS.o.low;obtain⟨bz,oz,hA,R6⟩:=TN.r1.form (by dsimp only;omega);dsimp only at hA;subst hA;obtain⟨e0,e1,e2,e3,e4⟩:=TN.r1.at_ hz;obtain⟨HRN,HZS,HZ⟩:=eR TN.r0 (cL.o.sw z (cS hz)) (aD0 (sL x.nodes op) hz);have HZL:Hid (((x.sws.take k).flatMap (sL x.nodes op)).length<=1000):=lH (by
    have h1:=WP (sL x.nodes op) 1 (G_ x.nodes op) (x.sws.take k);have:=gB.o;rw[kC] at h1;omega)
   have TY:=lH ((Below.refl wr.heap.size wr).alloc lR (.cells #[.string z.name,.string z.a,.string z.b,.bool z.breaker,.bool z.opn] 116));have jR:=lH (HS.o.up TY.o);have fV:Hid (aD (wr.alloc (.cells #[.string z.name,.string z.a,.string z.b,.bool z.breaker,.bool z.opn] 116)) wr.heap.size 116 #[.string z.name,.string z.a,.string z.b,.bool z.breaker,.bool z.opn]):=lH (aD.new wr _ _);have iM:(k:Int)<(n1:Int):=by omega
   clear hz TN;by_cases XG:z.opn=op
   ·have tL:Hid (sL x.nodes op z=[(bL x.nodes z.a,bL x.nodes z.b)]):=lH (by unfold sL;rw[if_pos XG])
    have aH1:(z.opn == op)=true:=by simp[XG]
    have S1:Hid (aW (wr.alloc (.cells #[.string z.name,.string z.a,.string z.b,.bool z.breaker,.bool z.opn] 116)) (wr.alloc (.cells #[.string z.name,.string z.a,.string z.b,.bool z.breaker,.bool z.opn] 116)).heap.size A0 n0 x.nodes):=lH (HRN.o.bm TY.o);rw[XG] at jR fV S1 TY e4;clear XG aH1;(go_wp2_with fail);have hzw:wr.heap.size<(wr.alloc (.cells #[.string z.name,.string z.a,.string z.b,.bool z.breaker,.bool op] 116)).heap.size:=by simp
    have lD:u6.ownBlock≠some w.heap.size:=fun e=>by have:=(HS.o.o6.lt _ e).1;omega
    have jG:u6.ownBlock≠some wr.heap.size:=fun e=>by have:=(HS.o.o6.lt _ e).2;omega
    clear TY HS HRN y0 y1 y2 y3 y4 y5 nf nlt e0 e1 e2 e3 e4;generalize hWW:wr.alloc (.cells #[.string z.name,.string z.a,.string z.b,.bool z.breaker,.bool op] 116)=W at *;generalize hzb:wr.heap.size=zb at *;have q0:W.cell? ⟨w.heap.size,0,none⟩=some (.slice A0 n0 c0):=jR.o.q1.cell 0;have b1:W.cell? ⟨zb,1,none⟩=some (.string z.a):=fV.o.cell 1;have b2:W.cell? ⟨zb,2,none⟩=some (.string z.b):=fV.o.cell 2;have hsa:z.a∈x.nodes:=HZS.o.1;have OX:z.b∈x.nodes:=HZS.o.2.1;generalize hE0:(x.sws.take k).flatMap (sL x.nodes op)=E0 at *;have HEE:=lH hE0;clear hE0 hWW hzb;have cP:w.heap.size+1<=W.heap.size:=jR.o.sz;generalize u6=v6 at *;refine bC (S:=fun w'=>w'.cell? ⟨w.heap.size,0,none⟩=some (.slice A0 n0 c0)/\w'.cell? ⟨zb,1,none⟩=some (.string z.a)/\w'.cell? ⟨zb,2,none⟩=some (.string z.b)) 14 _ (by kernel_rfl) (by kernel_rfl) rfl ⟨q0,b1,b2⟩ (fun hHeld=>?_);simp only[oO,List.take_zero];refine gK 0 (v:=?_) ?_ hHeld ?_;rotate_left 1
    ·intro w' hSw;(try dsimp only at hSw);go_simp<;>with_reducible rfl
    (try simp only[Act.put,iG,iF,iE]);refine gK 1 (v:=?_) ?_ hHeld ?_;rotate_left 1
    ·intro w' hSw;(try dsimp only at hSw);go_simp<;>with_reducible rfl
    (try simp only[Act.put,iG,iF,iE]);refine gK 2 (v:=?_) ?_ hHeld ?_;rotate_left 1
    ·intro w' hSw;(try dsimp only at hSw);go_simp<;>with_reducible rfl
    (try simp only[Act.put,iG,iF,iE]);refine gK 3 (v:=?_) ?_ hHeld ?_;rotate_left 1
    ·intro w' hSw;(try dsimp only at hSw);go_simp<;>with_reducible rfl
    (try simp only[Act.put,iG,iF,iE]);refine gK 4 (v:=?_) ?_ hHeld ?_;rotate_left 1
    ·intro w' hSw;(try dsimp only at hSw);go_simp<;>with_reducible rfl
    (try simp only[Act.put,iG,iF,iE]);refine gK 6 (v:=?_) ?_ hHeld ?_;rotate_left 1
    ·intro w' hSw;(try dsimp only at hSw);go_simp<;>with_reducible rfl
    (try simp only[Act.put,iG,iF,iE]);refine gK 7 (v:=?_) ?_ hHeld ?_;rotate_left 1
    ·intro w' hSw;(try dsimp only at hSw);go_simp<;>with_reducible rfl
    (try simp only[Act.put,iG,iF,iE]);refine gK 8 (v:=?_) ?_ hHeld ?_;rotate_left 1
    ·intro w' hSw;(try dsimp only at hSw);go_simp<;>with_reducible rfl
    (try simp only[Act.put,iG,iF,iE]);refine gK 9 (v:=?_) ?_ hHeld ?_;rotate_left 1
    ·intro w' hSw;(try dsimp only at hSw);go_simp<;>with_reducible rfl
    (try simp only[Act.put,iG,iF,iE]);refine bI 5 (fun K hK=>?_);go_simp;refine(jY A0 n0 c0 x.nodes z.a W.drew S1.o XL).mono ?_;rw[wR hsa];rintro e w' ⟨rfl,rfl⟩;go_simp;refine iJ hK hHeld (fun hHeld=>?_);clear hK K;refine bI 10 (fun K hK=>?_);go_simp;refine(jY A0 n0 c0 x.nodes z.b W.drew S1.o XL).mono ?_;rw[wR OX];rintro e w' ⟨rfl,rfl⟩;go_simp;refine iJ hK hHeld (fun hHeld=>?_);clear hK K;refine gK 11 (v:=?_) ?_ hHeld ?_;rotate_left 1
    ·intro w' hSw;(try dsimp only at hSw);go_simp<;>with_reducible rfl
    (try simp only[Act.put,iG,iF,iE]);refine bI 12 (fun K hK=>?_);go_simp;refine hK.out _ _ ?_ (fun hHeld=>?_)
    ·exact⟨gE q0 (by omega),gE b1 (by omega),gE b2 (by omega)⟩
    clear hK K;(try simp only[Act.put,iG,iF,iE]);refine bI 13 (fun K hK=>?_);refine step_append_lies _ (by rfl) _ _ _ (by rfl) (w.heap.size+1) 152 i0 _ 2 16 Tryz.underlying151 yT.o xK.o CE.o CD.o rfl (by omega) v6 _ _ (by rfl) ((jR.o.o6.alloc _).drew) ⟨W.heap.size,0,none⟩ 1 1 (GW (bL x.nodes z.a,bL x.nodes z.b)) (by rfl) (by rfl) (OP W (bL x.nodes z.a,bL x.nodes z.b) 152) (VK _) (by omega) (by have:=HZL.o;simp only[maxLen];omega) (by have:=HZL.o;omega) (by simp;omega) (W.heap.size+1) (by simp) ?_;intro gg cap w1 hown1 hgrow qN aIc;refine hK.out _ _ ?_ (fun hHeld=>?_)
    ·exact⟨(hgrow.cell_far ⟨w.heap.size,0,none⟩ (by simp;omega) (Ne.symm lD)).trans (gE q0 (by omega)),(hgrow.cell_far ⟨zb,1,none⟩ (by simp;omega) (Ne.symm jG)).trans (gE b1 (by omega)),(hgrow.cell_far ⟨zb,2,none⟩ (by simp;omega) (Ne.symm jG)).trans (gE b2 (by omega))⟩
    clear hK K;(try simp only[Act.put,iG,iF,iE]);refine fZ ?_;have T0:=lH (jR.o.app6 (aH (bA)) hown1 hgrow (by simpa using qN));clear hgrow qN hown1 hHeld;have hJL:ws.length<=1000:=by have:=HWL.o;omega
    generalize hv6:(Value.slice (some (⟨gg,0,none⟩:Addr)) (E0.length+1) cap)=v6' at T0 ⊢;have HV6:=lH hv6;clear hv6;have eS:w.heap.size+1<=w1.heap.size:=T0.o.sz;have LH:Hid (∀(j:Nat)(u:Value),([Value.int .i64 k]:List Value)[j]?=some u->((w1.alloc (.cells #[.int .i64 k] 3))).cell? ((⟨w1.heap.size,0,none⟩:Addr).add j)=some u):=lH (World.news_of_block (B:=w1.heap.size) (cs:=#[.int .i64 k]) (t:=3) (fr:=(0,0)) (aD.new w1 _ _));go_simp
    go_wp2_with (at_builtin;refine wpList_append_lies _ rfl (.tmp 36) (.tmp 38) 47 rfl (w.heap.size+1) 3 j0 _ 1 8 Tryz.underlying47 HJ0.o HJ1.o HJ2.o HJ3.o rfl (by omega) u7 _ _ rfl (T0.o.o7.alloc _) ⟨w1.heap.size,0,none⟩ 1 1 [.int .i64 k] rfl rfl LH.o (by intro u hu;rw[List.mem_singleton.1 hu];rfl) (by omega) (by simp only[maxLen];omega) (by omega) (by simp;omega) (w1.heap.size+1) (by simp) ?_;intro g2 cap2 w2 A_ hgrow2 hat2 aEA)
    have HS6:=lH (T0.o.app7 (bA) A_ hgrow2 (by simpa using hat2));clear A_ hgrow2 hat2;go_roundw
    case rel=>exact⟨k+1,ws++[.int .i64 k],by omega,by go_num,by rw[jO,List.length_singleton];have:=HWL.o;omega,by rw[HZ.o,tL.o];exact HS6.o⟩
    case measure=>simp[intOf];omega
   ·have tL:Hid (sL x.nodes op z=[]):=lH (by unfold sL;rw[if_neg XG])
    have aH1:(z.opn == op)=false:=by simpa using XG
    generalize z.opn=zo at *;clear XG;(go_wp2_with fail);go_roundw
    case rel=>exact⟨k+1,ws,by omega,by go_num,by have:=HWL.o;omega,by rw[HZ.o,tL.o,List.append_nil];exact jR.o⟩
    case measure=>simp[intOf];omega
  ·have hkk:n1=k:=by omega
   subst hkk;have N8:Hid (x.sws.take n1=x.sws):=lH (oP (by have:=gB.o;omega));(go_wp2_with fail);go_ret2;have h:=HS.o;rw[N8.o] at h;exact HP.o _ _ ⟨h.low,_,_,rfl,h.o6⟩
end
section
def zM(p:Nat->Bool)(b:Nat):Nat:=((List.range b).filter p).length
theorem J9(p:Nat->Bool)(b:Nat):zM p (b+1)=zM p b+if p b then 1 else 0:=by
 unfold zM;rw[List.range_succ,List.filter_append,jO];congr 1
 cases h:p b<;>simp[h]
def iB(p:Nat->Bool)(n:Nat):List Nat:=(List.range n).filter p
theorem nP(p:Nat->Bool)(n:Nat):(iB p n).length=zM p n:=rfl
def ext(p:Nat->Bool)(x:Fn)(b:Nat):Rat:=if p b then x (zM p b) else 0
theorem QB{l m:List Rat}{i:Nat}(h:i<l.length):vf (l++m) i=vf l i:=by
 unfold vf;rw[dQ,dQ,yV h]
theorem QC(l:List Rat)(y:Rat):vf (l++[y]) l.length=y:=sA (by simp)
theorem IX(p:Nat->Bool)(c:Nat->Rat)(x:Fn):∀n:Nat,a_ (zM p n) (vf ((iB p n).map c)) x=aP n fun b=>c b*ext p x b
 | 0=>rfl
 | n+1=>by
  have ih:=IX p c x n;rw[aP,<-ih];have hl:((iB p n).map c).length=zM p n:=by rw[kJ,nP]
  cases hp:p n with
  | false=>
   have e1:zM p (n+1)=zM p n:=by rw[J9,hp];rfl
   have e2:iB p (n+1)=iB p n:=by unfold iB;rw[List.range_succ,List.filter_append];simp[hp]
   rw[e1,e2];unfold ext;rw[hp];simp only[Bool.false_eq_true,if_false];rw[Rat.mul_zero,Rat.add_zero]
  | true=>
   have e1:zM p (n+1)=zM p n+1:=by rw[J9,hp];rfl
   have e2:iB p (n+1)=iB p n++[n]:=by unfold iB;rw[List.range_succ,List.filter_append];simp[hp]
   rw[e1,e2,List.map_append,List.map_singleton];unfold a_;rw[aP];have e3:vf ((iB p n).map c++[c n]) (zM p n)=c n:=by rw[<-hl];exact QC _ _
   rw[e3];congr 1
   ·refine aO fun i hi=>?_
    rw[QB (by rw[hl];exact hi)]
   ·unfold ext
    rw[hp];simp
def two(a b:Nat)(k:Nat):Rat:=(if k=a then 1 else 0)-(if k=b then 1 else 0)
theorem OD{a b:Nat}(ha:a<n)(hb:b<n)(X:Nat->Rat):aP n (fun k=>two a b k*X k)=X a-X b:=by
 have e:∀k,k<n->two a b k*X k=(if k=a then X a else 0)+(if k=b then -(X b) else 0):=fun k _=>by
  unfold two;by_cases h1:k=a<;>by_cases h2:k=b
  ·subst h1;subst h2;simp;grind
  ·subst h1;simp[h2];grind
  ·subst h2;simp[h1];grind
  ·simp[h1,h2];grind
 rw[aO e,cM,dR (k:=a) ha (fun i _ h=>if_neg h),dR (k:=b) hb (fun i _ h=>if_neg h),if_pos rfl,if_pos rfl];grind
def xG(S:Nat->Nat->Bool):Nat->List Nat×Nat
 | 0=>([],0)
 | b+1=>match (List.range b).find? (fun a=>S a b) with
  | some a=>((xG S b).1++[(xG S b).1.getD a 0],(xG S b).2)
  | none=>((xG S b).1++[(xG S b).2],(xG S b).2+1)
theorem BY(S:Nat->Nat->Bool)(b:Nat):xG S (b+1)=match (List.range b).find? (fun a=>S a b) with
    | some a=>((xG S b).1++[(xG S b).1.getD a 0],(xG S b).2)
    | none=>((xG S b).1++[(xG S b).2],(xG S b).2+1):=rfl
def aBw(S:Nat->Nat->Bool)(b:Nat):Bool:=!(List.range b).any fun a=>S a b
theorem GB(S:Nat->Nat->Bool):∀n:Nat,(xG S n).1.length=n
 | 0=>rfl
 | n+1=>by
  have:=GB S n;rw[BY];split<;>simp[this]
def FE(l:List Nat)(a b:Nat):Bool:=l.getD a 0 == l.getD b 0
def dG(l:List Nat)(b:Nat):Bool:=!aBw (FE l) b
end
section
open Go.ChangeShapes Go.WideShapes Go.ChangeAt Go.RowKit
attribute [local go_sem ↓] aE
attribute [local go_sem] aJ aI aL aX cQ.cells
theorem OL{B:Nat}{es:List (Nat×Nat)}(h:w.ownsRow B 152 2 v es.length (es.flatMap GW)):∃A c,v=.slice A es.length c/\KQ w w.heap.size A es.length es:=by
 rcases h.2 with⟨h1,h2⟩ | ⟨g,cap,cur,h1,h2,h3,h4,h5,h6,h7⟩
 ·refine⟨none,0,by rw[h2];exact h1,rfl,h.1,fun h0=>by omega⟩
 ·refine⟨_,_,h1,rfl,h.1,fun h0=>⟨g,0,rfl,?_,fun j u hu=>?_⟩⟩
  ·rcases Nat.lt_or_ge g w.heap.size with aR | LB
   ·exact aR
   ·rw[Array.getElem?_eq_none LB] at h3;cases h3
  ·rw[Nat.zero_add,cell_of_row w g j cur 152 (0,0) h3]
   rw[<-h7] at hu;have pQ:=(c_.1 hu).1;rw[List.getElem?_take_of_lt (by rw[kC] at pQ;omega)] at hu;simpa using hu
def gM(x:bP):List Int:=eQ x.nodes.length (UR x false)
theorem FA(ok:cH x)(op:Bool):(∀p∈UR x op,p.1<x.nodes.length/\p.2<x.nodes.length)/\(UR x op).length<=32:=by
 refine⟨fun p hp=>?_,?_⟩
 ·obtain⟨s,hs,h1⟩:=List.mem_flatMap.1 hp
  unfold sL at h1;split at h1
  ·rw[List.mem_singleton.1 h1]
   exact⟨(nQ (ok.sw s hs).1).2,(nQ (ok.sw s hs).2.1).2⟩
  ·cases h1
 ·have h:=WP (sL x.nodes op) 1 (G_ x.nodes op) x.sws
  have:=ok.l1;unfold UR;omega
theorem iO(ok:cH x):(gM x).length=x.nodes.length/\∀b∈gM x,0<=b/\b<x.nodes.length:=l9 (FA ok false).1
def aKw(x:bP)(n0:Nat)(w:Wo)(e:Ending)(w':Wo):Prop:=
 Below w.heap.size w w'/\∃g:Nat,e=.returned (.slice (some ⟨g,0,none⟩) n0 n0)/\w.heap.size<=g/\aD w' g 3 (bK (gM x)).toArray
theorem aCh(x:bP)(n0:Nat)(w:Wo)(e:Ending)(w':Wo)(h:Below w.heap.size w w'/\∃g:Nat,e=.returned (.slice (some ⟨g,0,none⟩) n0 n0)/\w.heap.size<=g/\aD w' g 3 (bK (gM x)).toArray):aKw x n0 w e w':=h
theorem SR(h:cQ)(x:bP)(ok:cH x)(w:Wo)(hR:cX w w.heap.size h x):Calls Tryz.prog 77 #[.agg h.cells] w (aKw x h.n0 w):=by
 obtain⟨A0,n0,c0,A1,n1,c1,A2,n2,c2,A3,n3,c3,A4,n4,c4,A5,n5,c5⟩:=h;dsimp only[cQ.cells] at *;have cL:=lH ok;have HP:=lH (aCh x n0 w);have cI:Hid (Below w.heap.size w (w.alloc (.cells #[.slice A0 n0 c0,.slice A1 n1 c1,.slice A2 n2 c2,.slice A3 n3 c3,.slice A4 n4 c4,.slice A5 n5 c5] 29))):=lH (bA);have HQ0:Hid (aD (w.alloc (.cells #[.slice A0 n0 c0,.slice A1 n1 c1,.slice A2 n2 c2,.slice A3 n3 c3,.slice A4 n4 c4,.slice A5 n5 c5] 29)) w.heap.size 29 #[.slice A0 n0 c0,.slice A1 n1 c1,.slice A2 n2 c2,.slice A3 n3 c3,.slice A4 n4 c4,.slice A5 n5 c5]):=lH (aD.new w _ _);have HR:=lH (hR.up cI.o);have HN0:Hid (x.nodes.length=n0):=lH hR.r0.1;have kV:n0<=24:=by have:=ok.l0;have:=HN0.o;omega
 clear ok hR;obtain⟨y0,y1,y2,y3,y4,y5,nf,nlt⟩:=cG (h:=⟨A0,n0,c0,A1,n1,c1,A2,n2,c2,A3,n3,c3,A4,n4,c4,A5,n5,c5⟩) HQ0.o;go_enter Tryz.func77,Tryz.ntmps77
 go_wp2_with fail
 generalize w.alloc (.cells #[.slice A0 n0 c0,.slice A1 n1 c1,.slice A2 n2 c2,.slice A3 n3 c3,.slice A4 n4 c4,.slice A5 n5 c5] 29)=w1 at *;clear y0 y1 y2 y3 y4 y5 nf nlt;refine(SF ⟨A0,n0,c0,A1,n1,c1,A2,n2,c2,A3,n3,c3,A4,n4,c4,A5,n5,c5⟩ x cL.o false w1 HR.o).mono ?_;rintro e w2 ⟨hb,v6,v7,rfl,ho⟩;have dB:=bX cI hb;have pU:=lH (HQ0.o.bl hb);obtain⟨A,c,rfl,hE⟩:=OL ho;have HE:=lH hE;clear hb ho hE;obtain⟨y0,y1,y2,y3,y4,y5,nf,nlt⟩:=cG (h:=⟨A0,n0,c0,A1,n1,c1,A2,n2,c2,A3,n3,c3,A4,n4,c4,A5,n5,c5⟩) pU.o;have HSL:=lH (FA cL.o false).2;have HSO:Hid (∀p∈UR x false,p.1<n0/\p.2<n0):=lH (by have h:=(FA cL.o false).1;rw[HN0.o] at h;exact h);have HBE:Hid (eQ n0 (UR x false)=gM x):=lH (by unfold gM;rw[HN0.o]);generalize UR x false=es at *
 go_wp2_with fail
 clear y0 y1 y2 y3 y4 y5 nf nlt;refine(J8 A c n0 es w2 HE.o HSO.o kV (by have:=HSL.o;omega)).mono ?_;rintro e w3 ⟨hb,g,rfl,hg,eA⟩;have gY:=bX dB hb;have HG:=lH (eN dB.o.size hg);have kB:=lH eA;clear hb hg eA
 go_wp2_with fail
 go_ret;exact HP.o _ _ ⟨gY.o,g,rfl,HG.o,by rw[<-HBE.o];exact kB.o⟩
def aA(x:bP)(s:ByteArray):Nat:=((gM x).getD (bL x.nodes s) 0).toNat
def aN(x:bP):Nat:=(z_ (gM x)).toNat
def GA(x:bP):List (Nat×Nat):=x.brs.map fun b=>(aA x b.fr,aA x b.to)
def mQ(x:bP):List Int:=eQ (aN x) (GA x)
theorem jD(ok:cH x):(aN x:Int)=z_ (gM x)/\aN x<=x.nodes.length:=by
 obtain⟨h1,h2,h3⟩:=yZ (gM x);have h4:=h3 x.nodes.length (by omega) fun b hb=>((iO ok).2 b hb).2;unfold aN;omega
theorem bT(ok:cH x){s:ByteArray}(hs:s∈x.nodes):(gM x).getD (bL x.nodes s) 0=(aA x s:Int)/\aA x s<aN x/\bL x.nodes s<(gM x).length:=by
 have hi:=(nQ hs).2;rw[<-(iO ok).1] at hi;have hm:(gM x).getD (bL x.nodes s) 0∈gM x:=by rw[dQ,jP hi];exact List.getElem_mem hi
 have h1:=(iO ok).2 _ hm;have h2:=(yZ (gM x)).2.1 _ hm;have h3:=(jD ok).1;refine⟨?_,?_,hi⟩<;>unfold aA<;>omega
theorem tA(ok:cH x):(∀p∈GA x,p.1<aN x/\p.2<aN x)/\(GA x).length<=24:=by
 refine⟨fun p hp=>?_,by unfold GA;rw[kJ];exact ok.l2⟩;obtain⟨b,hb,rfl⟩:=List.mem_map.1 hp;exact⟨(bT ok (ok.br b hb).1).2.1,(bT ok (ok.br b hb).2.1).2.1⟩
theorem QI{α β:Type}(f:α->β){l:List α}{x:α}(h:l[k]?=some x):(l.take (k+1)).map f=(l.take k).map f++[f x]:=by
 rw[List.take_add_one,h,List.map_append];rfl
theorem LR{l:List Int}{x:Int}(h:l[k]?=some x):z_ (l.take (k+1))=max (z_ (l.take k)) (x+1):=by
 unfold z_;rw[List.take_add_one,h,List.foldl_append];rfl
theorem zI{l:List Int}{g i:Nat}(h:aD w g 3 (bK l).toArray){x:Int}(hx:l[i]?=some x):w.cell? ⟨g,i,none⟩=some (.int .i64 x):=by
 rw[h.cell,List.getElem?_toArray];unfold bK;rw[pL,hx];rfl
def aI0(x:bP)(n0:Nat)(w:Wo)(e:Ending)(w':Wo):Prop:=
 Below w.heap.size w w'/\∃g1 g2:Nat,e=.returned (.agg #[.slice (some ⟨g1,0,none⟩) n0 n0,.slice (some ⟨g2,0,none⟩) (aN x) (aN x)])/\w.heap.size<=g1/\w.heap.size<=g2/\aD w' g1 3 (bK (gM x)).toArray/\aD w' g2 3 (bK (mQ x)).toArray
theorem aA0(x:bP)(n0:Nat)(w:Wo)(e:Ending)(w':Wo)(h:Below w.heap.size w w'/\∃g1 g2:Nat,e=.returned (.agg #[.slice (some ⟨g1,0,none⟩) n0 n0,.slice (some ⟨g2,0,none⟩) (aN x) (aN x)])/\w.heap.size<=g1/\w.heap.size<=g2/\aD w' g1 3 (bK (gM x)).toArray/\aD w' g2 3 (bK (mQ x)).toArray):aI0 x n0 w e w':=h
theorem O4(h:cQ)(x:bP)(ok:cH x)(w:Wo)(hR:cX w w.heap.size h x):Calls Tryz.prog 36 #[.agg h.cells] w (aI0 x h.n0 w):=by
 obtain⟨A0,n0,c0,A1,n1,c1,A2,n2,c2,A3,n3,c3,A4,n4,c4,A5,n5,c5⟩:=h;dsimp only[cQ.cells] at *;have cL:=lH ok;have HP:=lH (aA0 x n0 w);obtain⟨i0,jL,R1,TQ,hi3⟩:=info_parts WY;obtain⟨yT,xK,CE,CD⟩:=gO jL R1 TQ hi3;have cI:Hid (Below w.heap.size w ((w.alloc (.cells #[.slice A0 n0 c0,.slice A1 n1 c1,.slice A2 n2 c2,.slice A3 n3 c3,.slice A4 n4 c4,.slice A5 n5 c5] 29)).alloc V_)):=lH ((bA).alloc (by simp) _);have HQ0:Hid (aD ((w.alloc (.cells #[.slice A0 n0 c0,.slice A1 n1 c1,.slice A2 n2 c2,.slice A3 n3 c3,.slice A4 n4 c4,.slice A5 n5 c5] 29)).alloc V_) w.heap.size 29 #[.slice A0 n0 c0,.slice A1 n1 c1,.slice A2 n2 c2,.slice A3 n3 c3,.slice A4 n4 c4,.slice A5 n5 c5]):=lH ((aD.new w _ _).alloc _);have HT0:Hid (aD ((w.alloc (.cells #[.slice A0 n0 c0,.slice A1 n1 c1,.slice A2 n2 c2,.slice A3 n3 c3,.slice A4 n4 c4,.slice A5 n5 c5] 29)).alloc V_) (w.heap.size+1) 49 #[.slice none 0 0,.slice none 0 0]):=lH (aD.new_ (by simp));have HR:=lH (hR.up cI.o);have HN0:Hid (x.nodes.length=n0):=lH hR.r0.1;have e_:Hid (x.brs.length=n2):=lH hR.r2.1;have kV:n0<=24:=by have:=ok.l0;have:=HN0.o;omega
 have LA:n2<=24:=by have:=ok.l2;have:=e_.o;omega
 have XL:n0<=9223372036854775807:=by omega
 have NZ:Hid (w.heap.size+2<=((w.alloc (.cells #[.slice A0 n0 c0,.slice A1 n1 c1,.slice A2 n2 c2,.slice A3 n3 c3,.slice A4 n4 c4,.slice A5 n5 c5] 29)).alloc V_).heap.size):=lH (by simp);clear jL R1 TQ hi3 ok hR;obtain⟨y0,y1,y2,y3,y4,y5,nf,nlt⟩:=cG (h:=⟨A0,n0,c0,A1,n1,c1,A2,n2,c2,A3,n3,c3,A4,n4,c4,A5,n5,c5⟩) HQ0.o;go_enter Tryz.func36,Tryz.ntmps36
 go_wp2_with fail
 generalize (w.alloc (.cells #[.slice A0 n0 c0,.slice A1 n1 c1,.slice A2 n2 c2,.slice A3 n3 c3,.slice A4 n4 c4,.slice A5 n5 c5] 29)).alloc V_=w1 at *;clear y0 y1 y2 y3 y4 y5 nf nlt;refine(SR ⟨A0,n0,c0,A1,n1,c1,A2,n2,c2,A3,n3,c3,A4,n4,c4,A5,n5,c5⟩ x cL.o w1 HR.o).mono ?_;rintro e w2 ⟨hb,gb,rfl,hg,eA⟩;dsimp only;have mF:w.heap.size+2<=gb:=eN NZ.o hg;have dB:=lH ((cI.o.tm hb).alloc (by have:=hb.size;have:=NZ.o;omega) (.cells #[.slice (some ⟨gb,0,none⟩) n0 n0,.slice none 0 0] 49));obtain⟨pU,HT2,fW⟩:=eR ((HQ0.o.bl hb).alloc (.cells #[.slice (some ⟨gb,0,none⟩) n0 n0,.slice none 0 0] 49)) ((HT0.o.bl hb).alloc (.cells #[.slice (some ⟨gb,0,none⟩) n0 n0,.slice none 0 0] 49)) (eA.alloc (.cells #[.slice (some ⟨gb,0,none⟩) n0 n0,.slice none 0 0] 49));have eT:Hid (aD (w2.alloc (.cells #[.slice (some ⟨gb,0,none⟩) n0 n0,.slice none 0 0] 49)) w2.heap.size 49 #[.slice (some ⟨gb,0,none⟩) n0 n0,.slice none 0 0]):=lH (aD.new w2 _ _);have yM:gb<w2.heap.size:=eA.lt;have nH:Hid (cX (w2.alloc (.cells #[.slice (some ⟨gb,0,none⟩) n0 n0,.slice none 0 0] 49)) (w2.heap.size+1) ⟨A0,n0,c0,A1,n1,c1,A2,n2,c2,A3,n3,c3,A4,n4,c4,A5,n5,c5⟩ x):=lH (((HR.o.up hb).below (bA) lR).more (by omega));have hwt:w.heap.size+2<=w2.heap.size:=by omega
 have t0':=eT.o.cell 0;clear hb hg eA
 go_wp2_with fail
 have HTB:Hid (w2.heap.size<(w2.alloc (.cells #[.slice (some ⟨gb,0,none⟩) n0 n0,.slice none 0 0] 49)).heap.size):=lH (by simp);generalize w2.alloc (.cells #[.slice (some ⟨gb,0,none⟩) n0 n0,.slice none 0 0] 49)=w3 at *;generalize w2.heap.size=tb at *;have nG:=lH (iO cL.o).1;have aCJ:Hid ((gM x).length=n0):=lH (nG.out.trans HN0.o)
 go_loop [4,16] (fun v4 v16=>∃k:Nat,k<=n0/\v16=.int .i64 k/\v4=.int .i64 (z_ ((gM x).take k))) (fun _ v16=>n0-(intOf v16).toNat)
 case atStart=>exact⟨0,by omega,rfl,rfl⟩
 case round=>
  obtain⟨k,hk,rfl,rfl⟩:=hrel;by_cases aR:k<n0
  ·obtain⟨b,hb⟩:∃b,(gM x)[k]?=some b:=eG (by have:=aCJ.o;omega)
   have hc:=zI fW.o hb;have KT:=lH (LR hb);have DA:=(iO cL.o).2 b (cS hb);have bG:=DA.1;have bV:b<=24:=by have:=DA.2;have:=HN0.o;omega
   have EA:=(yZ ((gM x).take k)).1;clear hb DA;generalize z_ ((gM x).take k)=tk at *;have iM:(k:Int)<(n0:Int):=by omega
   go_wp2_with fail
   go_round
   case rel=>exact⟨k+1,by omega,by go_num,by rw[KT.o];first | done | (congr 1;split<;>omega)⟩
   case measure=>simp[intOf];omega
  ·have hkk:n0=k:=by omega
   subst hkk;have aFs:Hid (z_ ((gM x).take n0)=(aN x:Int)):=lH (by rw[oP (by have:=aCJ.o;omega)];exact(jD cL.o).1.symm);have hbn:aN x<=24:=by have:=(jD cL.o).2;have:=HN0.o;omega
   rw[aFs.o];obtain⟨y0,y1,y2,y3,y4,y5,nf,nlt⟩:=cG (h:=⟨A0,n0,c0,A1,n1,c1,A2,n2,c2,A3,n3,c3,A4,n4,c4,A5,n5,c5⟩) pU.o;obtain⟨w4,yH⟩:∃w4:World,w4=w3:=⟨_,rfl⟩;have pU:Hid (aD w4 w.heap.size 29 #[.slice A0 n0 c0,.slice A1 n1 c1,.slice A2 n2 c2,.slice A3 n3 c3,.slice A4 n4 c4,.slice A5 n5 c5]):=lH (by rw[yH];exact pU.o);have dB:Hid (Below w.heap.size w w4):=lH (by rw[yH];exact dB.o);have HT2:Hid (aD w4 (w.heap.size+1) 49 #[.slice none 0 0,.slice none 0 0]):=lH (by rw[yH];exact HT2.o);have fW:Hid (aD w4 gb 3 (bK (gM x)).toArray):=lH (by rw[yH];exact fW.o);have eT:Hid (aD w4 tb 49 #[.slice (some ⟨gb,0,none⟩) n0 n0,.slice none 0 0]):=lH (by rw[yH];exact eT.o);have HRF:Hid (cX w4 (tb+1) ⟨A0,n0,c0,A1,n1,c1,A2,n2,c2,A3,n3,c3,A4,n4,c4,A5,n5,c5⟩ x):=lH (by rw[yH];exact nH.o);have HLO:Hid (Below (tb+1) w4 w3):=lH (by rw[yH];exact bR);have B9:Hid (tb+1<=w3.heap.size):=lH (by have:=HTB.o;omega);clear yH aR t0';(go_wp2_with fail);clear y0 y1 y2 y3 y4 y5 nf nlt
   go_loopw [7,28] (fun v7 i wr=>∃k:Nat,k<=n2/\i=.int .i64 k/\Below (tb+1) w4 wr/\tb+1<=wr.heap.size/\wr.ownsRow (tb+1) 152 2 v7 k (((x.brs.take k).map fun b=>(aA x b.fr,aA x b.to)).flatMap GW)) (fun _ i _=>n2-(intOf i).toNat)
   case atStart=>exact⟨0,by omega,rfl,HLO.o,B9.o,World.ownsRow_nil _ _ _ _⟩
   case round=>
    clear HLO;obtain⟨k,hk,rfl,hlo,gP,bB⟩:=hrel;have HLO:=lH hlo;have HOW:=lH bB;have HQ:=lH (pU.o.below hlo (by omega));obtain⟨y0,y1,y2,y3,y4,y5,nf,nlt⟩:=cG (h:=⟨A0,n0,c0,A1,n1,c1,A2,n2,c2,A3,n3,c3,A4,n4,c4,A5,n5,c5⟩) HQ.o;clear hlo bB;by_cases aR:k<n2
    ·obtain⟨z,hz⟩:∃z,x.brs[k]?=some z:=eG (by have:=e_.o;omega)
     have TN:=HRF.o.below HLO.o lR;obtain⟨bz,oz,hA,R6⟩:=TN.r2.form (by dsimp only;omega);dsimp only at hA;subst hA;obtain⟨e0,e1,e2,e3,e4,e5,e6,e7,e8⟩:=TN.r2.at_ hz;have HRN:=lH TN.r0;have HZS:=lH (cL.o.br z (cS hz));have HZ:=lH (QI (fun b:Br=>(aA x b.fr,aA x b.to)) hz);have HZL:Hid (k<=1000):=lH (by omega);have HEL:Hid (((x.brs.take k).map fun b:Br=>(aA x b.fr,aA x b.to)).length=k):=lH (by simp;have:=e_.o;omega);have TY:=lH ((Below.refl wr.heap.size wr).alloc lR (.cells #[.string z.name,.string z.fr,.string z.to,.int .i64 z.x,.int .i64 z.tap,.int .i64 z.shift,.int .i64 z.limit,.int .i64 z.short,.int .i64 z.hold] 53));have HO:=lH (MC HOW.o TY.o);have HQB:=lH (HQ.o.below TY.o (by omega));have HXB:=lH ((eT.o.below HLO.o (by omega)).below TY.o (by omega));have HGB:=lH ((fW.o.below HLO.o (by omega)).below TY.o (by omega));have HLB:=lH (HLO.o.alloc gP (.cells #[.string z.name,.string z.fr,.string z.to,.int .i64 z.x,.int .i64 z.tap,.int .i64 z.shift,.int .i64 z.limit,.int .i64 z.short,.int .i64 z.hold] 53));have fV:Hid (aD (wr.alloc (.cells #[.string z.name,.string z.fr,.string z.to,.int .i64 z.x,.int .i64 z.tap,.int .i64 z.shift,.int .i64 z.limit,.int .i64 z.short,.int .i64 z.hold] 53)) wr.heap.size 53 #[.string z.name,.string z.fr,.string z.to,.int .i64 z.x,.int .i64 z.tap,.int .i64 z.shift,.int .i64 z.limit,.int .i64 z.short,.int .i64 z.hold]):=lH (aD.new wr _ _);have S1:Hid (aW (wr.alloc (.cells #[.string z.name,.string z.fr,.string z.to,.int .i64 z.x,.int .i64 z.tap,.int .i64 z.shift,.int .i64 z.limit,.int .i64 z.short,.int .i64 z.hold] 53)) (wr.alloc (.cells #[.string z.name,.string z.fr,.string z.to,.int .i64 z.x,.int .i64 z.tap,.int .i64 z.shift,.int .i64 z.limit,.int .i64 z.short,.int .i64 z.hold] 53)).heap.size A0 n0 x.nodes):=lH ((HRN.o.below TY.o (by omega)).more (by simp;omega));have iM:(k:Int)<(n2:Int):=by omega
     clear hz TN;(go_wp2_with fail);have hzw:wr.heap.size<(wr.alloc (.cells #[.string z.name,.string z.fr,.string z.to,.int .i64 z.x,.int .i64 z.tap,.int .i64 z.shift,.int .i64 z.limit,.int .i64 z.short,.int .i64 z.hold] 53)).heap.size:=by simp
     have lD:u7.ownBlock≠some w.heap.size:=fun e=>by have:=(HOW.o.lt _ e).1;omega
     have jG:u7.ownBlock≠some wr.heap.size:=fun e=>by have:=(HOW.o.lt _ e).2;omega
     have nB:u7.ownBlock≠some tb:=fun e=>by have:=(HOW.o.lt _ e).1;omega
     have nF:u7.ownBlock≠some gb:=fun e=>by have:=(HOW.o.lt _ e).1;omega
     clear y0 y1 y2 y3 y4 y5 nf nlt e0 e1 e2 e3 e4 e5 e6 e7 e8;generalize hWW:wr.alloc (.cells #[.string z.name,.string z.fr,.string z.to,.int .i64 z.x,.int .i64 z.tap,.int .i64 z.shift,.int .i64 z.limit,.int .i64 z.short,.int .i64 z.hold] 53)=W at *;generalize hzb:wr.heap.size=zb at *;have q0:W.cell? ⟨w.heap.size,0,none⟩=some (.slice A0 n0 c0):=HQB.o.cell 0;have t0:W.cell? ⟨tb,0,none⟩=some (.slice (some ⟨gb,0,none⟩) n0 n0):=HXB.o.cell 0;have b1:W.cell? ⟨zb,1,none⟩=some (.string z.fr):=fV.o.cell 1;have b2:W.cell? ⟨zb,2,none⟩=some (.string z.to):=fV.o.cell 2;have hsa:z.fr∈x.nodes:=HZS.o.1;have OX:z.to∈x.nodes:=HZS.o.2.1;have cf:W.cell? ⟨gb,bL x.nodes z.fr,none⟩=some (.int .i64 (aA x z.fr)):=by rw[<-(bT cL.o hsa).1];exact oS HGB.o (bT cL.o hsa).2.2
     have ct:W.cell? ⟨gb,bL x.nodes z.to,none⟩=some (.int .i64 (aA x z.to)):=by rw[<-(bT cL.o OX).1];exact oS HGB.o (bT cL.o OX).2.2
     have hif:bL x.nodes z.fr<n0:=by have:=(bT cL.o hsa).2.2;have:=aCJ.o;omega
     have hit:bL x.nodes z.to<n0:=by have:=(bT cL.o OX).2.2;have:=aCJ.o;omega
     have aTn:(bL x.nodes z.fr:Int)<(n0:Int):=by omega
     have aTl:(bL x.nodes z.to:Int)<(n0:Int):=by omega
     generalize hE0:((x.brs.take k).map fun b:Br=>(aA x b.fr,aA x b.to))=E0 at *;have HEE:=lH hE0;have cP:tb+1<=W.heap.size:=by omega
     clear hE0 hWW hzb;generalize u7=v7 at *;refine bC (S:=fun w'=>w'.cell? ⟨w.heap.size,0,none⟩=some (.slice A0 n0 c0)/\w'.cell? ⟨tb,0,none⟩=some (.slice (some ⟨gb,0,none⟩) n0 n0)/\w'.cell? ⟨zb,1,none⟩=some (.string z.fr)/\w'.cell? ⟨zb,2,none⟩=some (.string z.to)/\w'.cell? ⟨gb,bL x.nodes z.fr,none⟩=some (.int .i64 (aA x z.fr))/\w'.cell? ⟨gb,bL x.nodes z.to,none⟩=some (.int .i64 (aA x z.to))) 22 _ (by kernel_rfl) (by kernel_rfl) rfl ⟨q0,t0,b1,b2,cf,ct⟩ (fun hHeld=>?_);simp only[oO,List.take_zero];refine gK 0 (v:=?_) ?_ hHeld ?_;rotate_left 1
     ·intro w' hSw;(try dsimp only at hSw);go_simp<;>with_reducible rfl
     (try simp only[Act.put,iG,iF,iE]);refine gK 1 (v:=?_) ?_ hHeld ?_;rotate_left 1
     ·intro w' hSw;(try dsimp only at hSw);go_simp<;>with_reducible rfl
     (try simp only[Act.put,iG,iF,iE]);refine gK 2 (v:=?_) ?_ hHeld ?_;rotate_left 1
     ·intro w' hSw;(try dsimp only at hSw);go_simp<;>with_reducible rfl
     (try simp only[Act.put,iG,iF,iE]);refine gK 3 (v:=?_) ?_ hHeld ?_;rotate_left 1
     ·intro w' hSw;(try dsimp only at hSw);go_simp<;>with_reducible rfl
     (try simp only[Act.put,iG,iF,iE]);refine gK 4 (v:=?_) ?_ hHeld ?_;rotate_left 1
     ·intro w' hSw;(try dsimp only at hSw);go_simp<;>with_reducible rfl
     (try simp only[Act.put,iG,iF,iE]);refine gK 5 (v:=?_) ?_ hHeld ?_;rotate_left 1
     ·intro w' hSw;(try dsimp only at hSw);go_simp<;>with_reducible rfl
     (try simp only[Act.put,iG,iF,iE]);refine gK 6 (v:=?_) ?_ hHeld ?_;rotate_left 1
     ·intro w' hSw;(try dsimp only at hSw);go_simp<;>with_reducible rfl
     (try simp only[Act.put,iG,iF,iE]);refine gK 10 (v:=?_) ?_ hHeld ?_;rotate_left 1
     ·intro w' hSw;(try dsimp only at hSw);go_simp<;>with_reducible rfl
     (try simp only[Act.put,iG,iF,iE]);refine gK 11 (v:=?_) ?_ hHeld ?_;rotate_left 1
     ·intro w' hSw;(try dsimp only at hSw);go_simp<;>with_reducible rfl
     (try simp only[Act.put,iG,iF,iE]);refine gK 12 (v:=?_) ?_ hHeld ?_;rotate_left 1
     ·intro w' hSw;(try dsimp only at hSw);go_simp<;>with_reducible rfl
     (try simp only[Act.put,iG,iF,iE]);refine gK 13 (v:=?_) ?_ hHeld ?_;rotate_left 1
     ·intro w' hSw;(try dsimp only at hSw);go_simp<;>with_reducible rfl
     (try simp only[Act.put,iG,iF,iE]);refine gK 14 (v:=?_) ?_ hHeld ?_;rotate_left 1
     ·intro w' hSw;(try dsimp only at hSw);go_simp<;>with_reducible rfl
     (try simp only[Act.put,iG,iF,iE]);refine gK 15 (v:=?_) ?_ hHeld ?_;rotate_left 1
     ·intro w' hSw;(try dsimp only at hSw);go_simp<;>with_reducible rfl
     (try simp only[Act.put,iG,iF,iE]);refine bI 7 (fun K hK=>?_);go_simp;refine(jY A0 n0 c0 x.nodes z.fr W.drew S1.o XL).mono ?_;rw[wR hsa];rintro e w' ⟨rfl,rfl⟩;go_simp;refine iJ hK hHeld (fun hHeld=>?_);clear hK K;refine gK 8 (v:=?_) ?_ hHeld ?_;rotate_left 1
     ·intro w' hSw;(try dsimp only at hSw);go_simp<;>with_reducible rfl
     (try simp only[Act.put,iG,iF,iE]);refine gK 9 (v:=?_) ?_ hHeld ?_;rotate_left 1
     ·intro w' hSw;(try dsimp only at hSw);go_simp<;>with_reducible rfl
     (try simp only[Act.put,iG,iF,iE]);refine bI 16 (fun K hK=>?_);go_simp;refine(jY A0 n0 c0 x.nodes z.to W.drew S1.o XL).mono ?_;rw[wR OX];rintro e w' ⟨rfl,rfl⟩;go_simp;refine iJ hK hHeld (fun hHeld=>?_);clear hK K;refine gK 17 (v:=?_) ?_ hHeld ?_;rotate_left 1
     ·intro w' hSw;(try dsimp only at hSw);go_simp<;>with_reducible rfl
     (try simp only[Act.put,iG,iF,iE]);refine gK 18 (v:=?_) ?_ hHeld ?_;rotate_left 1
     ·intro w' hSw;(try dsimp only at hSw);go_simp<;>with_reducible rfl
     (try simp only[Act.put,iG,iF,iE]);refine gK 19 (v:=?_) ?_ hHeld ?_;rotate_left 1
     ·intro w' hSw;(try dsimp only at hSw);go_simp<;>with_reducible rfl
     (try simp only[Act.put,iG,iF,iE]);refine bI 20 (fun K hK=>?_);go_simp;refine hK.out _ _ ?_ (fun hHeld=>?_)
     ·exact⟨gE q0 (by omega),gE t0 (by omega),gE b1 (by omega),gE b2 (by omega),gE cf (by omega),gE ct (by omega)⟩
     clear hK K;(try simp only[Act.put,iG,iF,iE]);refine bI 21 (fun K hK=>?_);refine step_append_lies _ (by rfl) _ _ _ (by rfl) (tb+1) 152 i0 _ 2 16 Tryz.underlying151 yT.o xK.o CE.o CD.o rfl (by omega) v7 _ _ (by rfl) ((HO.o.alloc _).drew) ⟨W.heap.size,0,none⟩ 1 1 (GW (aA x z.fr,aA x z.to)) (by rfl) (by rfl) (OP W (aA x z.fr,aA x z.to) 152) (VK _) (by omega) (by have:=HZL.o;simp only[maxLen];omega) (by have:=HZL.o;omega) (by simp;omega) (W.heap.size+1) (by simp) ?_;intro gg cap w1 hown1 hgrow qN aIc;refine hK.out _ _ ?_ (fun hHeld=>?_)
     ·exact⟨(hgrow.cell_far ⟨w.heap.size,0,none⟩ (by simp;omega) (Ne.symm lD)).trans (gE q0 (by omega)),(hgrow.cell_far ⟨tb,0,none⟩ (by simp;omega) (Ne.symm nB)).trans (gE t0 (by omega)),(hgrow.cell_far ⟨zb,1,none⟩ (by simp;omega) (Ne.symm jG)).trans (gE b1 (by omega)),(hgrow.cell_far ⟨zb,2,none⟩ (by simp;omega) (Ne.symm jG)).trans (gE b2 (by omega)),(hgrow.cell_far ⟨gb,bL x.nodes z.fr,none⟩ (by simp;omega) (Ne.symm nF)).trans (gE cf (by omega)),(hgrow.cell_far ⟨gb,bL x.nodes z.to,none⟩ (by simp;omega) (Ne.symm nF)).trans (gE ct (by omega))⟩
     clear hK K;(try simp only[Act.put,iG,iF,iE]);refine fZ ?_;have T0:Hid (w1.ownsRow (tb+1) 152 2 (.slice (some ⟨gg,0,none⟩) (k+1) cap) (k+1) (((x.brs.take (k+1)).map fun b=>(aA x b.fr,aA x b.to)).flatMap GW)):=lH (by rw[HZ.o,List.flatMap_append];simpa[GW] using hown1);have dK:Hid (Below (tb+1) w4 w1):=lH (HLB.o.trans ((aH (bR.alloc cP _)).grown hgrow (by simp;omega) (fun k hk=>(HO.o.lt k hk).1)));clear hgrow qN hown1 hHeld;go_simp;(go_wp2_with fail);go_roundw
     case rel=>exact⟨k+1,by omega,by go_num,dK.o,by have:=dK.o.size;have:=eT.o.lt;omega,T0.o⟩
     case measure=>simp[intOf];omega
    ·have hkk:n2=k:=by omega
     subst hkk;have HO2:Hid (wr.ownsRow (tb+1) 152 2 u7 (GA x).length ((GA x).flatMap GW)):=lH (by
      have h:=HOW.o;rw[oP (by have:=e_.o;omega)] at h;have e:(GA x).length=n2:=by unfold GA;rw[kJ];exact e_.o
      rw[e];exact h)
     obtain⟨A,c,hu7,hE⟩:=OL HO2.o;subst hu7;have HE:=lH hE;have HT3:=lH (HT2.o.below HLO.o (by omega));have Z3:=lH (eT.o.below HLO.o (by omega));have GN:=lH (fW.o.below HLO.o (by omega));have gY:=lH (dB.o.trans (HLO.o.mono (by omega)));have HBO:=lH (tA cL.o);have HIS:Hid (mQ x=eQ (aN x) (GA x)):=lH rfl;clear hE;generalize GA x=es at *;(go_wp2_with fail);clear y0 y1 y2 y3 y4 y5 nf nlt;refine(J8 A c (aN x) es wr HE.o HBO.o.1 hbn (by have:=HBO.o.2;omega)).mono ?_;rintro e w5 ⟨hb,g2,rfl,hg,eA⟩;obtain⟨HT5,HX5,HG5⟩:=eR (HT3.o.bl hb) (Z3.o.bl hb) (GN.o.bl hb);have dK:=bX gY hb;have vJ:=lH eA;have iH:tb+1<=g2:=by omega
     obtain⟨x0,x1⟩:=HX5.o.a2;have xf0:=HX5.o.frozen 0;have xf1:=HX5.o.frozen 1;obtain⟨t0,t1⟩:=HT5.o.a2;have tf0:=HT5.o.frozen 0;have tf1:=HT5.o.frozen 1;have aTa:=HX5.o.lt;have aS9:=HT5.o.lt;have cK:tb≠w.heap.size+1:=by omega
     have aS0:w.heap.size+1≠tb:=by omega
     clear hb hg eA;(go_wp2_with fail);have HT9:Hid (aD (((w5.setCell ⟨tb,1,none⟩ (.slice (some ⟨g2,0,none⟩) (aN x) (aN x))).setCell ⟨w.heap.size+1,0,none⟩ (.slice (some ⟨gb,0,none⟩) n0 n0)).setCell ⟨w.heap.size+1,1,none⟩ (.slice (some ⟨g2,0,none⟩) (aN x) (aN x))) (w.heap.size+1) 49 #[.slice (some ⟨gb,0,none⟩) n0 n0,.slice (some ⟨g2,0,none⟩) (aN x) (aN x)]):=lH (((HT5.o.far (by simp;omega) _).set_at (i:=0) _ (by simp;rfl)).set_at (i:=1) _ (by simp));have eU:Hid (Below w.heap.size w (((w5.setCell ⟨tb,1,none⟩ (.slice (some ⟨g2,0,none⟩) (aN x) (aN x))).setCell ⟨w.heap.size+1,0,none⟩ (.slice (some ⟨gb,0,none⟩) n0 n0)).setCell ⟨w.heap.size+1,1,none⟩ (.slice (some ⟨g2,0,none⟩) (aN x) (aN x)))):=lH (((dK.o.setCell (by simp;omega) _).setCell (by simp) _).setCell (by simp) _);have HG9:Hid (aD (((w5.setCell ⟨tb,1,none⟩ (.slice (some ⟨g2,0,none⟩) (aN x) (aN x))).setCell ⟨w.heap.size+1,0,none⟩ (.slice (some ⟨gb,0,none⟩) n0 n0)).setCell ⟨w.heap.size+1,1,none⟩ (.slice (some ⟨g2,0,none⟩) (aN x) (aN x))) gb 3 (bK (gM x)).toArray):=lH (((HG5.o.far (by simp;omega) _).far (by simp;omega) _).far (by simp;omega) _);have HK9:Hid (aD (((w5.setCell ⟨tb,1,none⟩ (.slice (some ⟨g2,0,none⟩) (aN x) (aN x))).setCell ⟨w.heap.size+1,0,none⟩ (.slice (some ⟨gb,0,none⟩) n0 n0)).setCell ⟨w.heap.size+1,1,none⟩ (.slice (some ⟨g2,0,none⟩) (aN x) (aN x))) g2 3 (bK (eQ (aN x) es)).toArray):=lH (((vJ.o.far (by simp;omega) _).far (by simp;omega) _).far (by simp;omega) _);generalize ((w5.setCell ⟨tb,1,none⟩ (.slice (some ⟨g2,0,none⟩) (aN x) (aN x))).setCell ⟨w.heap.size+1,0,none⟩ (.slice (some ⟨gb,0,none⟩) n0 n0)).setCell ⟨w.heap.size+1,1,none⟩ (.slice (some ⟨g2,0,none⟩) (aN x) (aN x))=w9 at *;obtain⟨f0,f1⟩:=HT9.o.a2;refine bodyPost_ret (v:=.agg #[.slice (some ⟨gb,0,none⟩) n0 n0,.slice (some ⟨g2,0,none⟩) (aN x) (aN x)]) (by simp[results,Tryz.results36,go_sem,f0,f1]) rfl ?_;exact HP.o _ _ ⟨eU.o,gb,g2,rfl,by omega,by omega,HG9.o,by rw[HIS.o];exact HK9.o⟩
end
