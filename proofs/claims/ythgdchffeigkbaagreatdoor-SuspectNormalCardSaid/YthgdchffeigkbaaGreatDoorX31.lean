import Derived.Test.YthgdchffeigkbaaGreatDoorX28
import Derived.Test.YthgdchffeigkbaaGreatDoorX29
set_option linter.unusedVariables false
set_option linter.unusedSimpArgs false
namespace Go.Proofs.YthgdchffeigkbaaGreatDoor
set_option maxHeartbeats 4000000
set_option maxRecDepth 100000
section
open Go.ChangeShapes Go.WideShapes Go.ChangeAt Go.RowKit
attribute [local go_sem ↓] aE
attribute [local go_sem] aK aH aM aY
structure Vb (w:Wo) (gc:Nat) (vs:List Rv) (q:List Rat):Prop where
 row:∃ cs,aG w gc 115 cs/\cs.toList.take (q.length*4)=fS vs
 len:vs.length=q.length
 ok:kH w vs q
section
variable {w w':Wo} {gc:Nat} {vs:List Rv} {q:List Rat}
theorem Vb.lt (f:Vb w gc vs q):gc<w.heap.size:=by obtain ⟨cs,h1,h2⟩:=f.row;exact h1.lt
theorem Vb.up (f:Vb w gc vs q) (hb:Below w.heap.size w w'):Vb w' gc vs q:=by
 obtain ⟨cs,h1,h2⟩:=f.row;exact ⟨⟨cs,h1.bl hb,h2⟩,f.len,f.ok.up hb⟩
theorem Vb.elem (f:Vb w gc vs q) {j:Nat} (hj:j<q.length):∃ x,vs[j]?=some x/\w.cell? ⟨gc,j*4,none⟩=some (.bool x.b1)/\w.cell? ⟨gc,j*4+1,none⟩=some (.slice x.A x.n x.c)/\w.cell? ⟨gc,j*4+2,none⟩=some (.bool x.b2)/\w.cell? ⟨gc,j*4+3,none⟩=some (.slice x.A2 x.m x.d)/\gc<w.heap.size/\(∀ o,w.frozen? ⟨gc,o,none⟩=false):=by
 obtain ⟨cs,h1,h2⟩:=f.row;obtain ⟨x,hx⟩:∃ x,vs[j]?=some x:=eO (by rw [f.len];exact hj);obtain ⟨c0,c1,c2,c3⟩:=h1.row_cell h2 hx;exact ⟨x,hx,c0,c1,c2,c3,h1.lt,h1.frozen⟩
theorem Vb.val (f:Vb w gc vs q) {j:Nat} (hj:j<q.length) {x:Rv} (hx:vs[j]?=some x):dL w w.heap.size (vf q j) x:=f.ok j _ x (bI hj) hx
theorem Vb.keep (f:Vb w gc vs q) {j:Nat} (hj:j<q.length) {x y:Rv} {p:Rat} (hy:dL w w.heap.size p y):dL (gB w gc j x) (gB w gc j x).heap.size p y:=by
 obtain ⟨cs,h1,h2⟩:=f.row;obtain ⟨x0,hx⟩:∃ x,vs[j]?=some x:=eO (by rw [f.len];exact hj);exact dL.keep4 hy x h1 h2 hx
theorem Vb.put (f:Vb w gc vs q) {j:Nat} (hj:j<q.length) {x:Rv} {p:Rat} (hx:dL w w.heap.size p x):Vb (gB w gc j x) gc (vs.set j x) (q.set j p):=by
 obtain ⟨cs,h1,h2⟩:=f.row;obtain ⟨cs',k1,k2⟩:=h1.row_put x h2 f.len hj;refine ⟨⟨cs',k1,by rw [lF];exact k2⟩,by simp [f.len],fun i p' y hp hy=>?_⟩;rw [List.getElem?_set] at hp hy
 by_cases xM:j=i
 ·subst xM
  rw [if_pos rfl,if_pos hj] at hp;rw [if_pos rfl,if_pos (by rw [f.len];exact hj)] at hy;injection hp with hp;injection hy with hy;subst hp;subst hy;exact f.keep hj hx
 ·rw [if_neg xM] at hp hy
  exact f.keep hj (f.ok i p' y hp hy)
theorem Vb.rdq (f:Vb w gc vs q):iF w w.heap.size (some ⟨gc,0,none⟩) q.length q:=by
 obtain ⟨cs,h1,h2⟩:=f.row;refine ⟨vs,f.len,rfl,⟨by rw [d9,f.len],fun hn=>⟨gc,0,rfl,h1.lt,fun i v hv=>?_⟩⟩,f.ok⟩;rw [Nat.zero_add,h1.cell];rw [<-h2] at hv;rw [List.getElem?_take] at hv
 split at hv
 ·rwa [Array.getElem?_toList] at hv
 ·cases hv
end
theorem WX {w:Wo} {gc n:Nat} {v:Rv} (hc:aG w gc 115 (fS (List.replicate n v)).toArray) (hv:dL w w.heap.size 0 v):Vb w gc (List.replicate n v) (jX n):=by
 refine ⟨⟨_,hc,?_⟩,by simp [jX],fun i p x hp hx=>?_⟩
 ·have hl:(fS (List.replicate n v)).length=n*4:=(d9 _).trans (by rw [o3])
  rw [jX,o3];exact nW (Nat.le_of_eq hl)
 ·unfold jX at hp
  rw [List.getElem?_replicate] at hp hx
  split at hp
  ·rename_i h
   rw [if_pos h] at hx;rw [<-Option.some.inj hp,<-Option.some.inj hx];exact hv
  ·cases hp
theorem qM {w:Wo} {g T:Nat} {a0 a1 a2 a3 a4 v0 v1 v2 v3 v4:Value} (h:aG w g T #[a0,a1,a2,a3,a4]):aG (((((w.setCell ⟨g,0,none⟩ v0).setCell ⟨g,1,none⟩ v1).setCell ⟨g,2,none⟩ v2).setCell ⟨g,3,none⟩ v3).setCell ⟨g,4,none⟩ v4) g T #[v0,v1,v2,v3,v4]:=((((h.set_ 0 v0).set_ 1 v1).set_ 2 v2).set_ 3 v3).set_ 4 v4
theorem k_ {a w:Wo} {B g:Nat} {v0 v1 v2 v3 v4:Value} (h:Below B a w) (hg:B<=g):Below B a (((((w.setCell ⟨g,0,none⟩ v0).setCell ⟨g,1,none⟩ v1).setCell ⟨g,2,none⟩ v2).setCell ⟨g,3,none⟩ v3).setCell ⟨g,4,none⟩ v4):=((((h.setCell hg _).setCell hg _).setCell hg _).setCell hg _).setCell hg _
def NoB (cs:Array Value):Prop:=∀ (i:Nat) (u:Value),cs[i]?=some u->(∀ b,u≠.bool b)/\uZ u
section
variable {w:Wo} {g T:Nat} {cs:Array Value} {i:Nat} {u y:Value}
theorem iF.keepB {n:Nat} {A0:OA} {qs:List Rat} (h:iF w w.heap.size A0 n qs) (hb:aG w g T cs) (hc:NoB cs) (hy:cs[i]?=some y):iF (w.setCell ⟨g,i,none⟩ u) (w.setCell ⟨g,i,none⟩ u).heap.size A0 n qs:=by
 obtain ⟨vs,h1,h2,h3,h4⟩:=h;refine ⟨vs,h1,h2,⟨h3.1,fun hn=>?_⟩,fun j q v hq hv=>dL.keep1 (h4 j q v hq hv) hb hy (hc _ _ hy).2 u⟩;obtain ⟨b,off,e,aW,OG⟩:=h3.2 hn;have hbg:b≠g:=by
  rintro rfl;obtain ⟨v,hv⟩:∃ v,vs[0]?=some v:=eO (by omega);have:=OG 0 (.bool v.b1) (by have h5:=uH hv 0 (by decide);simpa [Rv.cells] using h5);rw [Nat.add_zero,hb.cell] at this;exact (hc _ _ this).1 _ rfl
 refine ⟨b,off,e,by simpa [World.setCell] using aW,fun j v hv=>?_⟩;rw [World.cell?_setCell_other _ _ _ _ (fun e2=>hbg (by injection e2 with e2;exact e2.symm))];exact OG j v hv
theorem jZ.keepB {n:Nat} {A0:OA} {M:List (List Rat)} (h:jZ w w.heap.size A0 n M) (hb:aG w g T cs) (hc:NoB cs) (hy:cs[i]?=some y) (hA:∀ b off,A0=some ⟨b,off,none⟩->b≠g):jZ (w.setCell ⟨g,i,none⟩ u) (w.setCell ⟨g,i,none⟩ u).heap.size A0 n M:=by
 obtain ⟨hs,h1,h2,h3,h4⟩:=h;refine ⟨hs,h1,h2,⟨h3.1,fun hn=>?_⟩,fun j z q hz hq=>⟨(h4 j z q hz hq).1.keepB hb hc hy,(h4 j z q hz hq).2⟩⟩;obtain ⟨b,off,e,aW,OG⟩:=h3.2 hn;refine ⟨b,off,e,by simpa [World.setCell] using aW,fun j v hv=>?_⟩;rw [World.cell?_setCell_other _ _ _ _ (fun e2=>hA b off e (by injection e2 with e2;exact e2.symm))];exact OG j v hv
end
theorem AH {g:Nat} {A1 A2 A3 A4:OA} {n1 c1 n2 c2 n3 c3 n4 c4:Nat}:NoB #[.pointer (some ⟨g,0,none⟩),.slice A1 n1 c1,.slice A2 n2 c2,.slice A3 n3 c3,.slice A4 n4 c4]:=fun i u h=>by
 have h2:=Array.mem_toList_iff.2 (Array.mem_of_getElem? h);simp only [List.mem_cons,List.not_mem_nil,or_false] at h2;rcases h2 with rfl | rfl | rfl | rfl | rfl<;>exact ⟨fun b e=>(by cases e),fun k x e=>(by cases e)⟩
theorem CV.vb {w:Wo} {gf gc:Nat} {vs:List Rv} {u:Rv} {q:List Rat} {z:Rat} (f:CV w gf gc vs u q z) {p n T:Nat} {y:Rv} (hb:aG w p T #[.slice none 0 0,.bool false,.slice none 0 0,.bool false,.slice none 0 0]) (hp:gc≠p):Vb (put5 w p gc n y) gc vs q:=by
 obtain ⟨cs,h1,h2⟩:=f.row;exact ⟨⟨cs,((((h1.far hp _).far hp _).far hp _).far hp _).far hp _,h2⟩,f.len,fun i t v ht hv=>(f.ok i t v ht hv).keep5 hb⟩
def aSU (x:bE) (m:Mi) (w:Wo) (e:Ending) (w':Wo):Prop:=Below w.heap.size w w'/\∃ (gc:Nat) (u:Rv),e=.returned (.agg #[.slice (some ⟨gc,0,none⟩) (aI x) (aI x),.bool u.b1,.slice u.A u.n u.c,.bool u.b2,.slice u.A2 u.m u.d])/\w.heap.size<=gc/\(∃ vs,Vb w' gc vs (aS x m).1)/\dL w' w'.heap.size (aS x m).2 u
theorem aAL (h:cE) (x:bE) (ok:cN x) (h8:x.nodes.length<=8) (g:Nat) (m:iZ) (y:Value) (mi:Mi) (w:Wo) (r:cS w w.heap.size h x) (hg:aG w g 122 (m.cells y)) (hr:fG w w.heap.size m x) (h0:mi.kind=0->0<=lY x mi.name) (h1:mi.kind≠0->mi.name∈x.nodes) :
    Calls Tryz.prog 63 #[.agg h.cells,.pointer (some ⟨g,0,none⟩),mi.val] w (aSU x mi w):=by
 have eN:Hid (aI x=m.n1):=lH (by rw [<-rV ok];exact hr.r1.len);have HX:=lH r;have HG:=lH hg;have HR:=lH hr;have H0:=lH h0;have H1:=lH h1;have cH:=lH ok;have hnb:m.n1<=8:=by rw [<-eN.o];exact cV (fR ok).2 h8
 have LZ:=lH hnb;obtain ⟨kind,name,txt,wt⟩:=mi;simp only [Mi.val];have Q0:Below w.heap.size w ((((w.alloc (.cells h.cells 29)).alloc (.cells #[.pointer (some ⟨g,0,none⟩)] 90)).alloc (.cells #[.int .i64 kind,.string name,.string txt,.int .i64 wt] 57)).alloc (.cells #[.slice none 0 0,.bool false,.slice none 0 0,.bool false,.slice none 0 0] 117)):=(((Below.alloc (Below.refl _ w) lR _).alloc (by simp<;>omega) _).alloc (by simp<;>omega) _).alloc (by simp<;>omega) _;have HW:=lH Q0;have P0:=lH (((aG.new w 29 h.cells).alloc (.cells #[.pointer (some ⟨g,0,none⟩)] 90)).alloc (.cells #[.int .i64 kind,.string name,.string txt,.int .i64 wt] 57) |>.alloc (.cells #[.slice none 0 0,.bool false,.slice none 0 0,.bool false,.slice none 0 0] 117))
 have P1:Hid (aG ((((w.alloc (.cells h.cells 29)).alloc (.cells #[.pointer (some ⟨g,0,none⟩)] 90)).alloc (.cells #[.int .i64 kind,.string name,.string txt,.int .i64 wt] 57)).alloc (.cells #[.slice none 0 0,.bool false,.slice none 0 0,.bool false,.slice none 0 0] 117)) (w.heap.size+1) 90 #[.pointer (some ⟨g,0,none⟩)]):=lH (((aG.new_ (by simp)).alloc _).alloc _);have P2:Hid (aG ((((w.alloc (.cells h.cells 29)).alloc (.cells #[.pointer (some ⟨g,0,none⟩)] 90)).alloc (.cells #[.int .i64 kind,.string name,.string txt,.int .i64 wt] 57)).alloc (.cells #[.slice none 0 0,.bool false,.slice none 0 0,.bool false,.slice none 0 0] 117)) (w.heap.size+1+1) 57 #[.int .i64 kind,.string name,.string txt,.int .i64 wt]):=lH ((aG.new_ (by simp)).alloc _)
 have P3:Hid (aG ((((w.alloc (.cells h.cells 29)).alloc (.cells #[.pointer (some ⟨g,0,none⟩)] 90)).alloc (.cells #[.int .i64 kind,.string name,.string txt,.int .i64 wt] 57)).alloc (.cells #[.slice none 0 0,.bool false,.slice none 0 0,.bool false,.slice none 0 0] 117)) (w.heap.size+1+1+1) 117 #[.slice none 0 0,.bool false,.slice none 0 0,.bool false,.slice none 0 0]):=lH (aG.new_ (by simp));clear r hg hr h0 h1 ok Q0 hnb;obtain ⟨A0,n0,c0,A1,n1,c1,A2,n2,c2,A3,n3,c3,A4,n4,c4,A5,n5,c5,A6,n6,c6⟩:=m;simp only [iZ.cells] at HG eN LZ;go_enter Tryz.func63,Tryz.ntmps63
 go_upto_region 1 with fail
 have dW:Hid (((((w.alloc (.cells h.cells 29)).alloc (.cells #[.pointer (some ⟨g,0,none⟩)] 90)).alloc (.cells #[.int .i64 kind,.string name,.string txt,.int .i64 wt] 57)).alloc (.cells #[.slice none 0 0,.bool false,.slice none 0 0,.bool false,.slice none 0 0] 117)).heap.size=w.heap.size+1+1+1+1):=lH (by simp);generalize ((((w.alloc (.cells h.cells 29)).alloc (.cells #[.pointer (some ⟨g,0,none⟩)] 90)).alloc (.cells #[.int .i64 kind,.string name,.string txt,.int .i64 wt] 57)).alloc (.cells #[.slice none 0 0,.bool false,.slice none 0 0,.bool false,.slice none 0 0] 117))=wa at *;have b0:=P1.o.cell 0;have bl:=P1.o.lt
 go_wp2_with fail
 refine (mT g ⟨A0,n0,c0,A1,n1,c1,A2,n2,c2,A3,n3,c3,A4,n4,c4,A5,n5,c5,A6,n6,c6⟩ y wa (HG.o.bl HW.o)).mono ?_;rintro e w1 ⟨rfl,rfl⟩
 go_wp2_with fail
 refine (kT n1 wa (by have:=LZ.o;omega)).mono ?_;rintro e w1 ⟨bH,gc,v,rfl,hgc,QQ,hv⟩
 go_wp2_with fail
 refine (nT 0 w1 (by decide) (by decide)).mono ?_;rintro e w2 ⟨bL,u,rfl,hu⟩;have IT:=lH (LD (gc:=gc) (n:=n1) (QQ.bl bL) (hv.up bL) hu);have bW:=lH (HW.o.trans ((bH.tm bL).mono HW.o.size));have I_:=lH (sA (w:=w2) (gc:=gc) (n:=n1) (u:=u));have tZ:Hid (wa.heap.size<=gc/\gc<w2.heap.size):=lH ⟨hgc,jO QQ.lt bL.size⟩;have nQ:Hid (wa.heap.size<=w2.heap.size):=lH (cV bH.size bL.size);have hz:Below wa.heap.size wa w2:=bH.tm bL;replace P0:=lH (P0.o.bl hz);replace P1:=lH (P1.o.bl hz);replace P2:=lH (P2.o.bl hz);replace P3:=lH (P3.o.bl hz);clear bH bL hgc QQ hv hu hz b0 bl
 go_upto_region 2 with fail
 unfold mkF at IT I_;generalize SL:w2.alloc (.cells #[.slice (some ⟨gc,0,none⟩) n1 n1,.bool u.b1,.slice u.A u.n u.c,.bool u.b2,.slice u.A2 u.m u.d] 117)=wb at *;clear SL;have yH:=lH (bW.o.tm I_.o);have EV:Hid (aBD wb wa.heap.size (w.heap.size+1) g ⟨A0,n0,c0,A1,n1,c1,A2,n2,c2,A3,n3,c3,A4,n4,c4,A5,n5,c5,A6,n6,c6⟩ y x w2.heap.size gc):=lH ⟨nQ.o,tZ.o.1,by have:=dW.o;omega,by have:=dW.o;have:=HG.o.lt;omega,by have:=I_.o.size;have:=nQ.o;omega,P1.o.bl I_.o,HG.o.bl yH.o,(HR.o.below yH.o lR).more (by have:=dW.o;omega)⟩;replace P0:=lH (P0.o.bl I_.o);replace P2:=lH (P2.o.bl I_.o);replace P3:=lH (P3.o.bl I_.o);generalize EZ:w2.heap.size=gf at *;have eP:Hid (wa.heap.size<=gf):=lH (by have:=nQ.o;omega);clear EZ I_ bW P1 nQ HG;have k0:=P2.o.cell 0;have kl:=P2.o.lt
 go_upto_if 19 with fail
 clear k0 kl;obtain ⟨D0,r0,s0,D1,r1,s1,D2,r2,s2,D3,r3,s3,D4,r4,s4,D5,r5,s5⟩:=h
 by_cases hk:kind=0
 ·subst hk
  have hbi:=H0.o rfl;rcases pP x name with ⟨h1,_⟩ | ⟨i,b,h1,h2,h3⟩
  ·exact absurd (show 0<=lY x name from hbi) (by omega)
  clear hbi h3;have HBI:=lH h1;have qS:=lH h2;clear h1 h2;obtain ⟨y0,y1,y2,y3,y4,y5,nf,nlt⟩:=a_ P0.o;dsimp only at y0 y1 y2 y3 y4 y5;have k1:=P2.o.cell 1;have kl:=P2.o.lt
  go_wp2_with fail
  refine (uM _ x name wb (HX.o.up yH.o)).mono ?_;rintro e w5 ⟨rfl,eD⟩;rw [HBI.o]
  go_wp2_with fail
  refine (nK (s:=(jX n1,0)) (EV.out.oth (eS eD)) (IT.o.up eD) (E9 n1) (by decide) eN.o.symm h8 cH.o qS.o false).mono ?_;rintro e w6 ⟨rfl,ho,vs2,u2,hf⟩;have HO:Hid (AM gf gc wb w6):=lH ((eS eD).trans ho);have HF:=lH hf;clear eD ho hf k1 kl;clear y0 y1 y2 y3 y4 y5 nf nlt;have J2:Hid (aS x ⟨0,name,txt,wt⟩=(l9 (sg false (gQ b)) (aV x b.fr) (aV x b.to) (jX n1),0+sg false (nI b))):=lH (by
   obtain ⟨a1,a2,a3,a4⟩:=lO qS.o;unfold aS;rw [if_pos rfl];simp only [HBI.o,kU,eN.o,eY,vf,a1,a2,a3,a4];rfl)
  have mH:Hid ((l9 (sg false (gQ b)) (aV x b.fr) (aV x b.to) (jX n1)).length=n1):=lH (by rw [l8];simp [jX]);have HL:Hid (Below w.heap.size w w6):=lH (yH.o.trans (HO.o.below (by have:=dW.o;have:=eP.o;omega) (by have:=dW.o;have:=tZ.o.1;omega) yH.o.size));have P3b:Hid (aG w6 (w.heap.size+1+1+1) 117 #[.slice none 0 0,.bool false,.slice none 0 0,.bool false,.slice none 0 0]):=lH (HO.o.blk P3.o (by have:=dW.o;have:=eP.o;omega) (by have:=dW.o;have:=tZ.o.1;omega));have HPC:Hid (gc≠w.heap.size+1+1+1):=lH (by have:=dW.o;have:=tZ.o.1;omega);have q0:=HF.o.blk.cell 0;have q1:=HF.o.blk.cell 1;have q2:=HF.o.blk.cell 2;have q3:=HF.o.blk.cell 3;have q4:=HF.o.blk.cell 4;rw [mH.o] at q0;have z0:=P3b.o.cell 0;have z1:=P3b.o.cell 1;have z2:=P3b.o.cell 2;have z3:=P3b.o.cell 3;have z4:=P3b.o.cell 4;have ql:=HF.o.blk.lt;have zl:=P3b.o.lt;have zf:=P3b.o.frozen
  go_wp2_with fail
  have tN:=lH (lJ (gc:=gc) (n:=n1) (u:=u2) P3b.o);clear q0 z0 q1 z1 q2 z2 q3 z3 q4 z4 ql zl zf;have p0:=tN.o.cell 0;have p1:=tN.o.cell 1;have p2:=tN.o.cell 2;have p3:=tN.o.cell 3;have p4:=tN.o.cell 4;unfold put5 at p0 p1 p2 p3 p4;refine bodyPost_ret (v:=.agg #[.slice (some ⟨gc,0,none⟩) n1 n1,.bool u2.b1,.slice u2.A u2.n u2.c,.bool u2.b2,.slice u2.A2 u2.m u2.d]) (by simp [results,Tryz.results63,go_sem,p0,p1,p2,p3,p4]) rfl ?_;refine ⟨iE (gc:=gc) (n:=n1) (u:=u2) HL.o (by omega),gc,u2,by rw [eN.o],(by have:=dW.o;have:=tZ.o.1;omega),?_,?_⟩
  ·have h:=HF.o.vb P3b.o HPC.o (n:=n1) (y:=u2)
   rw [J2.o];exact ⟨_,h⟩
  ·rw [J2.o]
   exact HF.o.val.keep5 P3b.o (gc:=gc) (n:=n1) (u:=u2)
 ·have hkB:(kind == 0)=false:=by simp [hk]
  rw [hkB];have hm:=H1.o hk;obtain ⟨ha1,ha2,ha3⟩:=dD cH.o hm;obtain ⟨JI,DG⟩:=rR hm;have HA:Hid (∀ N,Calls Tryz.prog 91 #[.slice D0 r0 s0,.string name] (wb.drewN N) fun e w'=>e=.returned (.int .i64 (dN x.nodes name:Int))/\w'=wb.drewN N):=lH fun N=>by
   have hx:=HX.o.up (bC yH.o N);exact (jR _ _ s0 x.nodes name _ hx.r0 hx.m0).mono fun e w' ⟨he,hw⟩=>⟨by rw [he,JI],hw.symm⟩
  have HBN:Hid (aV x name<n1):=lH (by rw [<-eN.o];exact ha2);have gL:=EV.out.rd.r0;simp only at gL;have yQ:=gL.2 (by have:=gL.len;omega);obtain ⟨tb,to2,hA,UT,-⟩:=yQ;subst hA;have f0:=gL.at_ (i:=dN x.nodes name) (z:=(aV x name:Int)) (by rw [eY] at ha1;rw [jA ha3] at ha1 ⊢;simpa using ha1);have QI:((dN x.nodes name:Nat):Int)<(n0:Int):=by have:=gL.len;omega
  have kC:(0:Int)<=((dN x.nodes name:Nat):Int):=by omega
  have lG:((dN x.nodes name:Nat):Int).toNat=dN x.nodes name:=kU _;have QB:tb<wb.heap.size:=jO UT EV.out.hs;obtain ⟨y0,y1,y2,y3,y4,y5,nf,nlt⟩:=a_ P0.o;dsimp only at y0 y1 y2 y3 y4 y5;have k1:=P2.o.cell 1;have k0:=P2.o.cell 0;have kl:=P2.o.lt;have b0:=EV.out.box.cell 0;have bl:=EV.out.box.lt;have g0:wb.cell? ⟨g,0,none⟩=some (.slice (some ⟨tb,to2,none⟩) n0 c0):=EV.out.md.cell 0;have gl:=EV.out.md.lt;clear JI DG ha1 ha2 ha3 hm gL UT;generalize dN x.nodes name=ia at *;generalize hK:aV x name=bus at *;have aGa:=lH hK;clear hK
  go_wp2_with fail
  go_quiet ((go_at_call_of 91 (Value.string name);exact (HA.o _).mono (fun _ _ hh=>⟨hh.1,_,hh.2⟩)))
  have hd:=bC (Below.refl wb.heap.size wb) nq;replace EV:=lH (EV.out.oth (eS hd));replace IT:=lH (IT.o.up hd);replace P2:=lH (P2.o.bl hd);replace P3:=lH (P3.o.bl hd);replace yH:=lH (bC yH.o nq);clear y0 y1 y2 y3 y4 y5 nf nlt;clear hd k0 k1 kl b0 bl g0 gl f0 HA QI kC lG QB hkB P0 HX;generalize wb.drewN nq=wd at *;have k0:=P2.o.cell 0;have kl:=P2.o.lt;have JO:Hid ((jX n1).length=n1):=lH (by simp [jX])
  by_cases AW:kind=2
  ·subst AW
   obtain ⟨xe,hx,c0,c1,c2',c3',hv,l1,f1⟩:=IT.o.elem (j:=bus) (by rw [JO.o];exact HBN.o);have D8:=lH hx;have q0:=IT.o.blk.cell 0;rw [JO.o] at q0;have ql:=IT.o.blk.lt;have sS:(bus:Int)<(n1:Int):=by have:=HBN.o;omega
   have sU:=lZ bus
   have sR:=kU bus;have bK:=lH (aD (Below.refl wd.heap.size wd));clear hx hv
   go_upto_region 8 with fail
   clear k0 kl;refine aJ (S:=fun w'=>Below wd.heap.size wd w') 5 _ (by kernel_rfl) (by kernel_rfl) rfl (aD bR) (fun hHeld=>?_);simp only [lA,List.take_zero];refine aL 0 rfl ?_;refine aL 1 rfl ?_;refine aL 2 rfl ?_;refine aU 3 (by kernel_rfl) rfl (fun K hK=>?_);go_simp;refine (nT 1 wd.drew (by decide) (by decide)).mono ?_;rintro e w8 ⟨e_,v8,rfl,h8⟩;have dF:Hid (Below wd.heap.size wd w8):=lH (bK.o.tm e_);have H8:Hid (dL w8 w8.heap.size 1 v8):=lH h8;clear e_ h8;go_simp;refine hK.out _ _ ?_ (fun hHeld=>?_)
   ·exact dF.o
   clear hK K
   try simp only [Act.put,bP,bO,bN]
   refine aL 4 rfl ?_;refine wpAnyH_done (by kernel_rfl) ?_ _;refine aP (by rfl) ?_;clear hHeld;have tX:=lH (IT.o.up dF.o);have oY:Hid (AM gf gc wd w8):=lH (eS dF.o);clear c0 c1 c2' c3' l1 f1 q0 ql IT bK dF;obtain ⟨c0,c1,c2',c3',l1,f1⟩:=tX.o.elem2 D8.o
   go_upto_region 9 with fail
   clear c0 c1 c2' c3' l1 f1;have HF:=lH (tX.o.put (j:=bus) (by rw [JO.o];exact HBN.o) H8.o);have HO:Hid (AM gf gc wd (gB w8 gc bus v8)):=lH (oY.o.trans zO);clear tX oY H8 D8 sS sU sR;simp only [gB] at HF HO;generalize (((w8.setCell ⟨gc,bus*4,none⟩ _).setCell ⟨gc,bus*4+1,none⟩ _).setCell ⟨gc,bus*4+2,none⟩ _).setCell ⟨gc,bus*4+3,none⟩ _=we at *;replace yH:=lH yH.o;have J2:Hid (aS x ⟨2,name,txt,wt⟩=((jX n1).set bus 1,0)):=lH (by unfold aS;rw [if_neg (show ¬(2:Int)=0 by decide),if_pos rfl,eN.o];simp only [aGa.o]);have mH:Hid (((jX n1).set bus 1).length=n1):=lH (by rw [lF];exact JO.o);have HL:Hid (Below w.heap.size w we):=lH (yH.o.trans (HO.o.below (by have:=dW.o;have:=eP.o;omega) (by have:=dW.o;have:=tZ.o.1;omega) yH.o.size))
   have P3b:Hid (aG we (w.heap.size+1+1+1) 117 #[.slice none 0 0,.bool false,.slice none 0 0,.bool false,.slice none 0 0]):=lH (HO.o.blk P3.o (by have:=dW.o;have:=eP.o;omega) (by have:=dW.o;have:=tZ.o.1;omega));have HPC:Hid (gc≠w.heap.size+1+1+1):=lH (by have:=dW.o;have:=tZ.o.1;omega);have q0:=HF.o.blk.cell 0;have q1:=HF.o.blk.cell 1;have q2:=HF.o.blk.cell 2;have q3:=HF.o.blk.cell 3;have q4:=HF.o.blk.cell 4;rw [mH.o] at q0;have z0:=P3b.o.cell 0;have z1:=P3b.o.cell 1;have z2:=P3b.o.cell 2;have z3:=P3b.o.cell 3;have z4:=P3b.o.cell 4;have ql:=HF.o.blk.lt;have zl:=P3b.o.lt;have zf:=P3b.o.frozen
   go_wp2_with fail
   have tN:=lH (lJ (gc:=gc) (n:=n1) (u:=u) P3b.o);clear q0 z0 q1 z1 q2 z2 q3 z3 q4 z4 ql zl zf;have p0:=tN.o.cell 0;have p1:=tN.o.cell 1;have p2:=tN.o.cell 2;have p3:=tN.o.cell 3;have p4:=tN.o.cell 4;unfold put5 at p0 p1 p2 p3 p4;refine bodyPost_ret (v:=.agg #[.slice (some ⟨gc,0,none⟩) n1 n1,.bool u.b1,.slice u.A u.n u.c,.bool u.b2,.slice u.A2 u.m u.d]) (by simp [results,Tryz.results63,go_sem,p0,p1,p2,p3,p4]) rfl ?_;refine ⟨iE (gc:=gc) (n:=n1) (u:=u) HL.o (by omega),gc,u,by rw [eN.o],(by have:=dW.o;have:=tZ.o.1;omega),?_,?_⟩
   ·have h:=HF.o.vb P3b.o HPC.o (n:=n1) (y:=u)
    rw [J2.o];exact ⟨_,h⟩
   ·rw [J2.o]
    exact HF.o.val.keep5 P3b.o (gc:=gc) (n:=n1) (u:=u)
  ·have aMb:(kind == 2)=false:=by simp [AW]
   have b0:=EV.out.box.cell 0;have bl:=EV.out.box.lt;have g4:wd.cell? ⟨g,4,none⟩=some (.slice A4 n4 c4):=EV.out.md.cell 4;have gl:=EV.out.md.lt;have J2:Hid (aS x ⟨kind,name,txt,wt⟩=pJ bus (mB x) (mC x) (gV x) (B7 x) (jX n1,0)):=lH (by unfold aS;rw [if_neg (show ¬kind=0 from hk),if_neg (show ¬kind=2 from AW),eN.o];simp only [aGa.o]);generalize hRR:pJ bus (mB x) (mC x) (gV x) (B7 x) (jX n1,0)=RR at *;have tU:=lH hRR;clear hRR;have m6:Hid (x.brs.length=n4):=lH (by rw [<-qV];exact EV.out.rd.r4.len);have iL:Hid (x.brs.length=n2):=lH (by rw [<-oR,<-gU];exact EV.out.rd.r2.len);have wJ:Hid (x.brs.length=n3):=lH (by rw [<-wB,<-gU];exact EV.out.rd.r3.len);have X5:n4<=24:=by have:=cH.o.l2;have:=m6.o;omega
   go_wp2_with fail
   clear k0 kl aMb b0 bl g4 gl
   go_loopw [53] (fun v53 wr=>∃ (k:Nat) (vs:List Rv) (u2:Rv) (s:List Rat×Rat),k<=n4/\v53=.int .i64 k/\AM gf gc wd wr/\CV wr gf gc vs u2 s.1 s.2/\N_ n1 (2+12*k) s/\pJ bus ((mB x).drop k) ((mC x).drop k) ((gV x).drop k) ((B7 x).drop k) s=RR) (fun v53 _=>n4-(intOf v53).toNat)
   case atStart=>exact ⟨0,_,_,(jX n1,0),by omega,rfl,eS bR,IT.o,E9 n1,tU.o⟩
   case round=>
    clear IT tU;obtain ⟨k,vs,u2,s,hk,rfl,ho,hf,pY,nP⟩:=hrel;have HO:=lH ho;have HF:=lH hf;have IR:=lH pY;have jB:=lH nP;clear ho hf pY nP
    by_cases aW:k<n4
    ·obtain ⟨b,hb⟩:∃ b,x.brs[k]?=some b:=eO (by have:=m6.o;omega)
     have qS:=lH hb;obtain ⟨a1,a2,a3,a4⟩:=lO hb;have gR:=lH ((GI (s:=s) (bus:=bus) a3 a4 a1 a2).symm.trans jB.o);have SZ:=lH a1;have HTO:=lH a2;clear hb a1 a2 a3 a4 jB;have fT:(k:Int)<(n4:Int):=by omega
     have aP1:(k:Int)<(n2:Int):=by have:=iL.o;have:=m6.o;omega
     have aP0:(k:Int)<(n3:Int):=by have:=wJ.o;have:=m6.o;omega
     have kF:=lZ k
     have qW:=kU k;have l_:=lN k;have jW:Hid (n4-(k+1)<n4-k):=lH (by omega);have HK6:Hid (2+12*k+6<=1000000):=lH (by omega);generalize M6:aV x b.fr=bu at *;generalize QN:aV x b.to=bv at *;have SC:=lH M6;have AT:=lH QN;clear M6 QN;have HE:=lH (EV.out.oth HO.o);have qJ:=HE.o.rd.r2;simp only at qJ;have yC:=qJ.2 (by have:=iL.o;have:=m6.o;omega);obtain ⟨fb2,fo2,hA,uO,-⟩:=yC;subst hA;have f0:=qJ.at_ (iT SZ.o);have wD:fb2<wr.heap.size:=jO uO HE.o.hs;have b0:=HE.o.box.cell 0;have bl:=HE.o.box.lt;have g0:wr.cell? ⟨g,2,none⟩=some (.slice (some ⟨fb2,fo2,none⟩) n2 c2):=HE.o.md.cell 2;have gl:=HE.o.md.lt;clear qJ uO;unfold lP at gR;dsimp only at gR
     by_cases hu:bu=bus
     ·have huB:((bu:Int) == (bus:Int))=true:=by simp [hu]
      rw [if_pos hu] at gR
      go_wp2_with fail
      refine (nK (s:=s) HE.o HF.o IR.o (by have:=HK6.o;omega) eN.o.symm h8 cH.o qS.o false).mono ?_;rintro e w7 ⟨rfl,ho7,vs7,u7,hf7⟩;rw [SC.o,AT.o] at hf7;replace IR:=lH (oH cH.o (s:=s) IR.o eN.o.symm qS.o false);rw [SC.o,AT.o] at IR;replace HO:=lH (HO.o.trans ho7);replace HF:=lH hf7;clear ho7 hf7 huB;clear f0 wD b0 bl g0 gl HE;have HE:=lH (EV.out.oth HO.o);have qJ:=HE.o.rd.r3;simp only at qJ;have yC:=qJ.2 (by have:=wJ.o;have:=m6.o;omega);obtain ⟨fb3,fo3,hA,uO,-⟩:=yC;subst hA;have f0:=qJ.at_ (iT HTO.o);have wD:fb3<w7.heap.size:=jO uO HE.o.hs;have b0:=HE.o.box.cell 0;have bl:=HE.o.box.lt;have g0:w7.cell? ⟨g,3,none⟩=some (.slice (some ⟨fb3,fo3,none⟩) n3 c3):=HE.o.md.cell 3;have gl:=HE.o.md.lt;clear qJ uO
      by_cases hv:bv=bus
      ·have hvB:((bv:Int) == (bus:Int))=true:=by simp [hv]
       go_wp2_with fail
       refine (nK (s:=(l9 (sg false (gQ b)) bu bv s.1,s.2+sg false (nI b))) HE.o HF.o IR.o (by have:=HK6.o;omega) eN.o.symm h8 cH.o qS.o true).mono ?_;rintro e w9 ⟨rfl,ho9,vs9,u9,U7⟩;rw [SC.o,AT.o] at U7;have IQ:=lH (oH cH.o (s:=(l9 (sg false (gQ b)) bu bv s.1,s.2+sg false (nI b))) IR.o eN.o.symm qS.o true);rw [SC.o,AT.o] at IQ;have DL:=lH (HO.o.trans ho9);have N2:=lH U7;clear ho9 U7 f0 wD b0 bl g0 gl;rw [if_pos hv] at gR
       go_wp2_with fail
       go_roundw
       case rel=>exact ⟨k+1,_,_,_,aW,aQ l_.o,DL.o,N2.o,IQ.o.mono (by omega),gR.o⟩
       case measure=>exact jW.o
      ·have hvB:((bv:Int) == (bus:Int))=false:=by simp;omega
       rw [if_neg hv] at gR
       go_wp2_with fail
       go_roundw
       case rel=>exact ⟨k+1,_,_,_,aW,aQ l_.o,HO.o,HF.o,IR.o.mono (by omega),gR.o⟩
       case measure=>exact jW.o
     ·have huB:((bu:Int) == (bus:Int))=false:=by simp;omega
      rw [if_neg hu] at gR
      go_upto_region 15 with fail
      clear huB;clear f0 wD b0 bl g0 gl HE;have HE:=lH (EV.out.oth HO.o);have qJ:=HE.o.rd.r3;simp only at qJ;have yC:=qJ.2 (by have:=wJ.o;have:=m6.o;omega);obtain ⟨fb3,fo3,hA,uO,-⟩:=yC;subst hA;have f0:=qJ.at_ (iT HTO.o);have wD:fb3<wr.heap.size:=jO uO HE.o.hs;have b0:=HE.o.box.cell 0;have bl:=HE.o.box.lt;have g0:wr.cell? ⟨g,3,none⟩=some (.slice (some ⟨fb3,fo3,none⟩) n3 c3):=HE.o.md.cell 3;have gl:=HE.o.md.lt;clear qJ uO
      by_cases hv:bv=bus
      ·have hvB:((bv:Int) == (bus:Int))=true:=by simp [hv]
       go_wp2_with fail
       refine (nK (s:=s) HE.o HF.o IR.o (by have:=HK6.o;omega) eN.o.symm h8 cH.o qS.o true).mono ?_;rintro e w9 ⟨rfl,ho9,vs9,u9,U7⟩;rw [SC.o,AT.o] at U7;have IQ:=lH (oH cH.o (s:=s) IR.o eN.o.symm qS.o true);rw [SC.o,AT.o] at IQ;have DL:=lH (HO.o.trans ho9);have N2:=lH U7;clear ho9 U7 f0 wD b0 bl g0 gl;rw [if_pos hv] at gR
       go_wp2_with fail
       go_roundw
       case rel=>exact ⟨k+1,_,_,_,aW,aQ l_.o,DL.o,N2.o,IQ.o.mono (by omega),gR.o⟩
       case measure=>exact jW.o
      ·have hvB:((bv:Int) == (bus:Int))=false:=by simp;omega
       rw [if_neg hv] at gR
       go_wp2_with fail
       go_roundw
       case rel=>exact ⟨k+1,_,_,_,aW,aQ l_.o,HO.o,HF.o,IR.o.mono (by omega),gR.o⟩
       case measure=>exact jW.o
    ·have lS:k=n4:=by omega
     have HS:Hid (s=RR):=lH (by have h:=jB.o;rw [List.drop_eq_nil_of_le (by rw [qV];have:=m6.o;omega)] at h;exact h);have mH:Hid (s.1.length=n1):=lH IR.o.len;replace J2:Hid (aS x ⟨kind,name,txt,wt⟩=(s.1,s.2)):=lH (by rw [J2.o,<-HS.o]);have fT:¬(k:Int)<(n4:Int):=by omega
     clear jB HS lS aW hk;have HL:Hid (Below w.heap.size w wr):=lH (yH.o.trans (HO.o.below (by have:=dW.o;have:=eP.o;omega) (by have:=dW.o;have:=tZ.o.1;omega) yH.o.size));have P3b:Hid (aG wr (w.heap.size+1+1+1) 117 #[.slice none 0 0,.bool false,.slice none 0 0,.bool false,.slice none 0 0]):=lH (HO.o.blk P3.o (by have:=dW.o;have:=eP.o;omega) (by have:=dW.o;have:=tZ.o.1;omega));have HPC:Hid (gc≠w.heap.size+1+1+1):=lH (by have:=dW.o;have:=tZ.o.1;omega);have q0:=HF.o.blk.cell 0;have q1:=HF.o.blk.cell 1;have q2:=HF.o.blk.cell 2;have q3:=HF.o.blk.cell 3;have q4:=HF.o.blk.cell 4;rw [mH.o] at q0;have z0:=P3b.o.cell 0;have z1:=P3b.o.cell 1;have z2:=P3b.o.cell 2;have z3:=P3b.o.cell 3;have z4:=P3b.o.cell 4;have ql:=HF.o.blk.lt;have zl:=P3b.o.lt;have zf:=P3b.o.frozen
     go_wp2_with fail
     have tN:=lH (lJ (gc:=gc) (n:=n1) (u:=u2) P3b.o);clear q0 z0 q1 z1 q2 z2 q3 z3 q4 z4 ql zl zf;have p0:=tN.o.cell 0;have p1:=tN.o.cell 1;have p2:=tN.o.cell 2;have p3:=tN.o.cell 3;have p4:=tN.o.cell 4;unfold put5 at p0 p1 p2 p3 p4;refine bodyPost_ret (v:=.agg #[.slice (some ⟨gc,0,none⟩) n1 n1,.bool u2.b1,.slice u2.A u2.n u2.c,.bool u2.b2,.slice u2.A2 u2.m u2.d]) (by simp [results,Tryz.results63,go_sem,p0,p1,p2,p3,p4]) rfl ?_;refine ⟨iE (gc:=gc) (n:=n1) (u:=u2) HL.o (by omega),gc,u2,by rw [eN.o],(by have:=dW.o;have:=tZ.o.1;omega),?_,?_⟩
     ·have h:=HF.o.vb P3b.o HPC.o (n:=n1) (y:=u2)
      rw [J2.o];exact ⟨_,h⟩
     ·rw [J2.o]
      exact HF.o.val.keep5 P3b.o (gc:=gc) (n:=n1) (u:=u2)
section
variable {w w':Wo} {gc gz:Nat} {vs us:List Rv} {q p:List Rat}
theorem Vb.far (f:Vb w gc vs q) (g:Vb w gz us p) {j:Nat} {x:Rv} (hj:j<p.length) (cP:gc≠gz):Vb (gB w gz j x) gc vs q:=by
 obtain ⟨cs,h1,h2⟩:=f.row;exact ⟨⟨cs,h1.far4 x cP,h2⟩,f.len,fun i t v ht hv=>g.keep hj (f.ok i t v ht hv)⟩
theorem Vb.keeps {base e:Nat} (f:Vb w gc vs q) (k:dY oX base e w w') (he:115≠e):Vb w' gc vs q:=by
 obtain ⟨cs,h1,h2⟩:=f.row;exact ⟨⟨cs,k.blk _ _ _ h1 he,h2⟩,f.len,fun i t v ht hv=>(f.ok i t v ht hv).keeps k⟩
end
theorem aAl:(Tryz.prog.info? 117).map (fun i=>(i.zero,i.size,i.bytes))=some (some (.agg #[.slice none 0 0,.bool false,.slice none 0 0,.bool false,.slice none 0 0]),5,88):=by kernel_rfl
structure Fh where
 gc:Nat
 u:Rv
def Fh.cells (n:Nat) (f:Fh):List Value:=[.slice (some ⟨f.gc,0,none⟩) n n,.bool f.u.b1,.slice f.u.A f.u.n f.u.c,.bool f.u.b2,.slice f.u.A2 f.u.m f.u.d]
theorem Fh.cells_len {n:Nat} (f:Fh):(Fh.cells n f).length=5:=rfl
structure fP (w:Wo) (base n:Nat) (v:Value) (fs:List Fh) (ps:List (List Rat×Rat)):Prop where
 own:bJ oX w base 117 5 v fs.length (fs.flatMap (Fh.cells n))
 len:fs.length=ps.length
 ok:∀ (i:Nat) (f:Fh) (p:List Rat×Rat),fs[i]?=some f->ps[i]?=some p->base<=f.gc/\p.1.length=n/\(∃ vs,Vb w f.gc vs p.1)/\dL w w.heap.size p.2 f.u
theorem QU (w:Wo) (base n:Nat):fP w base n (.slice none 0 0) [] []:=⟨dO _ _ _ _ _,rfl,fun i h q hh=>by simp at hh⟩
theorem fP.keep {w w':Wo} {base n:Nat} {v:Value} {fs:List Fh} {ps:List (List Rat×Rat)} (m:fP w base n v fs ps) (hb:Below w.heap.size w w'):fP w' base n v fs ps:=⟨m.own.keep hb,m.len,fun i f p hf hp=>by
 obtain ⟨h1,h2,⟨vs,h3⟩,h4⟩:=m.ok i f p hf hp;exact ⟨h1,h2,⟨vs,h3.up hb⟩,h4.up hb⟩⟩
theorem fP.far {w:Wo} {base n gz j:Nat} {v:Value} {fs:List Fh} {ps:List (List Rat×Rat)} {us:List Rv} {q:List Rat} {x:Rv} (m:fP w base n v fs ps) (g:Vb w gz us q) (hj:j<q.length) (hz:gz<base):fP (gB w gz j x) base n v fs ps:=⟨by
 obtain ⟨cs,h1,h2⟩:=g.row;exact m.own.far4 h1 (by decide),m.len,fun i f p hf hp=>by
 obtain ⟨h1,h2,⟨vs,h3⟩,h4⟩:=m.ok i f p hf hp;exact ⟨h1,h2,⟨vs,h3.far g hj (by omega)⟩,g.keep hj h4⟩⟩
theorem fP.app {w w':Wo} {base n:Nat} {v v':Value} {fs:List Fh} {ps:List (List Rat×Rat)} {f:Fh} {p:List Rat×Rat} (m:fP w base n v fs ps) (hf:base<=f.gc/\p.1.length=n/\(∃ vs,Vb w f.gc vs p.1)/\dL w w.heap.size p.2 f.u) (h1:bJ oX w' base 117 5 v' (fs.length+1) (fs.flatMap (Fh.cells n)++Fh.cells n f)) (k:dY oX base 117 w w'):fP w' base n v' (fs++[f]) (ps++[p]):=by
 have key:∀ {f:Fh} {p:List Rat×Rat},(base<=f.gc/\p.1.length=n/\(∃ vs,Vb w f.gc vs p.1)/\dL w w.heap.size p.2 f.u)->(base<=f.gc/\p.1.length=n/\(∃ vs,Vb w' f.gc vs p.1)/\dL w' w'.heap.size p.2 f.u):=fun h=>by
  obtain ⟨h1,h2,⟨vs,h3⟩,h4⟩:=h;exact ⟨h1,h2,⟨vs,h3.keeps k (by decide)⟩,h4.keeps k⟩
 refine ⟨by rw [iC,List.length_singleton,List.flatMap_append];simpa using h1,by rw [iC,iC,m.len];rfl,fun i f2 p2 uP I0=>?_⟩
 by_cases hi:i<ps.length
 ·rw [xQ hi] at I0
  rw [xQ (by rw [m.len];exact hi)] at uP;exact key (m.ok i f2 p2 uP I0)
 ·rw [AZ (by omega)] at I0
  rw [AZ (by rw [m.len];omega),m.len] at uP;have DG:=(dP.1 I0).1;rw [List.length_singleton] at DG;have:i-ps.length=0:=by omega
  rw [this] at I0 uP;simp at I0 uP;subst I0;subst uP;exact key hf
theorem FC {ops:Array Oper} {rest:List Oper} {o:Oper} {a:Act} {Q:Exit->Act->World->Prop} {w:Wo} {T:TypeId} (CE:o.guard=none) (s x:Operand) (t:TypeId)
    (ho:o.op=.call { callee:=.builtin .append,args:=#[s,x],argTypes:=#[t,t] }) (base n:Nat)
    (ht:Tryz.prog.underlying t=some (.slice 117))
    (v:Value) (fs:List Fh) (ps:List (List Rat×Rat)) (hs:a.eval s=v) (bF:fP w base n v fs ps) (gc:Nat) (u:Rv) (p:List Rat×Rat) (hp:base<=gc/\p.1.length=n/\(∃ vs,Vb w gc vs p.1)/\dL w w.heap.size p.2 u)
    (hx:a.eval x=.slice (some ⟨w.heap.size,0,none⟩) 1 1) (wX:ps.length<=1000000) (c_:base<=w.heap.size)
    (h:∀ v' w' fs',fP w' base n v' fs' (ps++[p])->dY oX base 117 (w.alloc (.cells #[.slice (some ⟨gc,0,none⟩) n n,.bool u.b1,.slice u.A u.n u.c,.bool u.b2,.slice u.A2 u.m u.d] T)) w'->(∀ (g t:Nat) (cs:Array Value),v.ownBlock≠some g->aG w g t cs->aG w' g t cs)->wpList Tryz.prog ops Q rest (a.put o.dst v') w') :
    wpList Tryz.prog ops Q (o::rest) a (w.alloc (.cells #[.slice (some ⟨gc,0,none⟩) n n,.bool u.b1,.slice u.A u.n u.c,.bool u.b2,.slice u.A2 u.m u.d] T)):=by
 obtain ⟨i0,kC,oE,kK,lQ⟩:=info_parts aAl;have hl:=bF.len;have hb:Below w.heap.size w (w.alloc (.cells #[.slice (some ⟨gc,0,none⟩) n n,.bool u.b1,.slice u.A u.n u.c,.bool u.b2,.slice u.A2 u.m u.d] T)):=bA;refine wpList_plain CE fun K hK=>?_;refine sG (S:=oX) s x t ho base 117 i0 _ 5 88 ht kC oE kK lQ rfl (by omega) (fun y hu=>?_) v fs.length (fs.flatMap (Fh.cells n)) hs (bF.own.keep hb) w.heap.size T #[.slice (some ⟨gc,0,none⟩) n n,.bool u.b1,.slice u.A u.n u.c,.bool u.b2,.slice u.A2 u.m u.d] hx (aG.new w T _) rfl (fun y hu=>?_) (by simp only [maxLen];omega) (by omega) (cV c_ hb.size) fun v' w' h1 h2 _ h4=>?_
 ·have QA:y∈[Value.slice none 0 0,.bool false,.slice none 0 0,.bool false,.slice none 0 0]:=hu
  simp only [List.mem_cons,List.not_mem_nil,or_false] at QA;rcases QA with rfl | rfl | rfl | rfl | rfl<;>exact fun k x h=>by cases h
 ·have QA:y∈[Value.slice (some ⟨gc,0,none⟩) n n,.bool u.b1,.slice u.A u.n u.c,.bool u.b2,.slice u.A2 u.m u.d]:=hu
  simp only [List.mem_cons,List.not_mem_nil,or_false] at QA;rcases QA with rfl | rfl | rfl | rfl | rfl<;>exact ⟨rfl,fun k x h=>by cases h⟩
 ·obtain ⟨e1,e2,⟨vs,e3⟩,e4⟩:=hp
  refine hK _ _ (h v' w' (fs++[⟨gc,u⟩]) (fP.app (bF.keep hb) (f:=⟨gc,u⟩) ⟨e1,e2,⟨vs,e3.up hb⟩,e4.up hb⟩ h1 h2) h2 fun g t cs hg I4=>?_);have aEJ:=I4.bl hb;exact (h4 g aEJ.lt hg).trans aEJ
end
section
open Go.ChangeShapes Go.WideShapes Go.ChangeAt Go.RowKit
theorem aCK {w:Wo} {g t i:Nat} {cs:Array Value} {y:Value} (h:aG w g t cs) (hy:cs[i]?=some y):w.setCell ⟨g,i,none⟩ y=w:=by
 have e:w.heap.modify g (fun | .cells c elem frozen=>.cells (c.setIfInBounds i y) elem frozen | o=>o)=w.heap:=by
  apply Array.ext_getElem?;intro j;rw [Array.getElem?_modify]
  split
  ·rename_i hj
   subst hj;unfold aG at h;rw [h];simp only [Option.map_some];congr 2
   apply Array.ext_getElem?;intro k;rw [Array.getElem?_setIfInBounds]
   split
   ·rename_i hk
    subst hk;have:=(Array.getElem?_eq_some_iff.1 hy).1;rw [if_pos this,hy]
   ·rfl
  ·rfl
 have e2:w.setCell ⟨g,i,none⟩ y={ w with heap:=w.heap.modify g (fun | .cells c elem frozen=>.cells (c.setIfInBounds i y) elem frozen | o=>o) }:=rfl;rw [e2,e]
theorem ZW {w:Wo} {g t i:Nat} {cs:Array Value} {y z:Value} (h:aG w g t cs):(w.setCell ⟨g,i,none⟩ y).setCell ⟨g,i,none⟩ z=w.setCell ⟨g,i,none⟩ z:=by
 have e:(w.heap.modify g (fun | .cells c elem frozen=>.cells (c.setIfInBounds i y) elem frozen | o=>o)).modify g (fun | .cells c elem frozen=>.cells (c.setIfInBounds i z) elem frozen | o=>o)=w.heap.modify g (fun | .cells c elem frozen=>.cells (c.setIfInBounds i z) elem frozen | o=>o):=by
  apply Array.ext_getElem?;intro j;rw [Array.getElem?_modify,Array.getElem?_modify,Array.getElem?_modify]
  split
  ·rename_i hj
   subst hj;unfold aG at h;rw [h];simp only [Option.map_some];congr 2
   apply Array.ext_getElem?;intro k;rw [Array.getElem?_setIfInBounds,Array.getElem?_setIfInBounds,Array.getElem?_setIfInBounds,Array.size_setIfInBounds]
   split<;>rfl
  ·rfl
 have e1:w.setCell ⟨g,i,none⟩ z={ w with heap:=w.heap.modify g (fun | .cells c elem frozen=>.cells (c.setIfInBounds i z) elem frozen | o=>o) }:=rfl;have e2:(w.setCell ⟨g,i,none⟩ y).setCell ⟨g,i,none⟩ z={ w with heap:=(w.heap.modify g (fun | .cells c elem frozen=>.cells (c.setIfInBounds i y) elem frozen | o=>o)).modify g (fun | .cells c elem frozen=>.cells (c.setIfInBounds i z) elem frozen | o=>o) }:=rfl;rw [e1,e2,e]
theorem aK7 {w:Wo} {g t i:Nat} {cs:Array Value} {y z:Value} (h:aG w g t cs) (hy:cs[i]?=some y):(w.setCell ⟨g,i,none⟩ z).setCell ⟨g,i,none⟩ y=w:=by
 rw [ZW h,aCK h hy]
section
variable {w:Wo} {gc g T i n base:Nat} {vs:List Rv} {q:List Rat} {cs:Array Value} {y u v:Value} {fs:List Fh} {ps:List (List Rat×Rat)}
theorem Vb.keepF (f:Vb w gc vs q) (hb:aG w g T cs) (ht:115≠T) (hy:cs[i]?=some y) (hn:uZ y):Vb (w.setCell ⟨g,i,none⟩ u) gc vs q:=by
 obtain ⟨cs',h1,h2⟩:=f.row;exact ⟨⟨cs',h1.far (h1.apart hb ht) u,h2⟩,f.len,fun j t v ht hv=>(f.ok j t v ht hv).keep1 hb hy hn u⟩
theorem fP.keepF (m:fP w base n v fs ps) (hb:aG w g T cs) (h1:115≠T) (h2:117≠T) (hy:cs[i]?=some y) (hn:uZ y):fP (w.setCell ⟨g,i,none⟩ u) base n v fs ps:=
 ⟨m.own.far hb h2,m.len,fun j f p hf hp=>by
  obtain ⟨a,b,⟨vs,c⟩,d⟩:=m.ok j f p hf hp;exact ⟨a,b,⟨vs,c.keepF hb h1 hy hn⟩,d.keep1 hb hy hn u⟩⟩
theorem fP.at_ {k:Nat} {p:List Rat×Rat} (m:fP w base n v fs ps) (hp:ps[k]?=some p):∃ (fb c:Nat) (f:Fh),v=.slice (some ⟨fb,0,none⟩) ps.length c/\fb<w.heap.size/\(w.cell? ⟨fb,k*5,none⟩=some (.slice (some ⟨f.gc,0,none⟩) n n)/\w.cell? ⟨fb,k*5+1,none⟩=some (.bool f.u.b1)/\w.cell? ⟨fb,k*5+2,none⟩=some (.slice f.u.A f.u.n f.u.c)/\w.cell? ⟨fb,k*5+3,none⟩=some (.bool f.u.b2)/\w.cell? ⟨fb,k*5+4,none⟩=some (.slice f.u.A2 f.u.m f.u.d))/\(∃ vs,Vb w f.gc vs p.1)/\p.1.length=n/\dL w w.heap.size p.2 f.u/\∃ cur,aG w fb 117 cur:=by
 have hk:=(dP.1 hp).1;obtain ⟨f,hf⟩:∃ f,fs[k]?=some f:=eO (by rw [m.len];exact hk);obtain ⟨a,b,c,d⟩:=m.ok k f p hf hp;rcases m.own.2 with ⟨-,h0⟩ | ⟨fb,cap,cur,h1,h2,h3,h4,h5,h6,h7,-⟩
 ·have:=m.len;omega
 ·have key:∀ j y,j<5->(Fh.cells n f)[j]?=some y->w.cell? ⟨fb,k*5+j,none⟩=some y:=fun j y hj hy=>by
   rw [h3.cell];have:=jT (fun f:Fh=>(Fh.cells_len f:(Fh.cells n f).length=5)) fs k f hf j hj;rw [hy,<-h7,List.getElem?_take] at this
   split at this
   ·rwa [Array.getElem?_toList] at this
   ·cases this
  exact ⟨fb,cap,f,by rw [<-m.len];exact h1,h3.lt,⟨key 0 _ (by decide) rfl,key 1 _ (by decide) rfl,key 2 _ (by decide) rfl,key 3 _ (by decide) rfl,key 4 _ (by decide) rfl⟩,c,b,d,cur,h3⟩
end
structure UnM (gf:Nat) (w0 w:Wo):Prop where
 forms:∀ {base n:Nat} {v:Value} {fs:List Fh} {ps:List (List Rat×Rat)},fP w0 base n v fs ps->fP w base n v fs ps
 mat:∀ {A:OA} {n:Nat} {M:List (List Rat)},jZ w0 w0.heap.size A n M->(∀ b off,A=some ⟨b,off,none⟩->b≠gf)->jZ w w.heap.size A n M
 row:∀ {A:OA} {n:Nat} {q:List Rat},iF w0 w0.heap.size A n q->iF w w.heap.size A n q
 rows:∀ {base:Nat} {v:Value} {hs:List Hd} {M:List (List Rat)},gF w0 base v hs M->gF w base v hs M
 vec:∀ {gc:Nat} {vs:List Rv} {q:List Rat},Vb w0 gc vs q->Vb w gc vs q
theorem KO {a w w':Wo} {B:Nat} {row:Option Nat} (h:a.grownBy w row) (hb:Below B w w') (hB:a.heap.size<=B):a.grownBy w' row:=
 ⟨hb.os.trans h.os,hb.tape.trans h.tape,hb.output.trans h.output,cV h.size hb.size,fun i hi cP=>(hb.block i (jO hi hB)).trans (h.block i hi cP)⟩
theorem MP {a w w':Wo} {row:Option Nat} (h:a.grownBy w row) (hb:Below w.heap.size w w'):a.grownBy w' row:=KO h hb h.size
theorem XQ {a w:Wo} (row:Option Nat) (h:Below a.heap.size a w):a.grownBy w row:=⟨h.os,h.tape,h.output,h.size,fun i hi _=>h.block i hi⟩
theorem aAd {a w:Wo} {g gz j:Nat} {x:Rv} (h:a.grownBy w (some g)) (hz:a.heap.size<=gz):a.grownBy (gB w gz j x) (some g):=
 gC (gC (gC (gC h (.inr hz) _) (.inr hz) _) (.inr hz) _) (.inr hz) _
theorem L8 {w0 w:Wo} {gf i:Nat} {cs cs0:Array Value} {y:Value} (ha:aG w0 gf 95 cs0) (hb:aG w gf 95 cs) (hy:cs[i]?=some y) (JK:cs.setIfInBounds i (.slice none 0 0)=cs0) (hn:NoB cs0) (hg:w0.grownBy w (some gf)):UnM gf w0 w:=by
 have h0:aG (w.setCell ⟨gf,i,none⟩ (.slice none 0 0)) gf 95 cs0:=hb.set_at _ JK;have hm:Below w0.heap.size w0 (w.setCell ⟨gf,i,none⟩ (.slice none 0 0)):=⟨hg.os,hg.tape,hg.output,by simpa [World.setCell] using hg.size,fun k hk=>by
  by_cases e:k=gf
  ·subst e
   exact h0.trans ha.symm
  ·exact (Below.heap_setCell w _ _ k e).trans (hg.block k hk (fun e2=>e (by injection e2)))⟩
 have h1:cs0[i]?=some (.slice none 0 0):=by
  rw [<-JK,Array.getElem?_setIfInBounds,if_pos rfl,if_pos (Array.getElem?_eq_some_iff.1 hy).1]
 have e:(w.setCell ⟨gf,i,none⟩ (.slice none 0 0)).setCell ⟨gf,i,none⟩ y=w:=aK7 hb hy;refine ⟨fun h=>?_,fun h hA=>?_,fun h=>?_,fun h=>?_,fun h=>?_⟩
 ·have:=(h.keep hm).keepF (u:=y) h0 (by decide) (by decide) h1 gS
  rwa [e] at this
 ·have:=(h.bm hm).keepB (u:=y) h0 hn h1 hA
  rwa [e] at this
 ·have:=(h.bm hm).keepB (u:=y) h0 hn h1
  rwa [e] at this
 ·have:=(h.keep hm).far (u:=y) h0 (by decide) (by decide) h1 gS
  rwa [e] at this
 ·have:=(h.up hm).keepF (u:=y) h0 (by decide) h1 gS
  rwa [e] at this
theorem uT {p:OA} {A1 A2 A3 A4:OA} {n1 c1 n2 c2 n3 c3 n4 c4:Nat}:NoB #[.pointer p,.slice A1 n1 c1,.slice A2 n2 c2,.slice A3 n3 c3,.slice A4 n4 c4]:=fun i u h=>by
 have h2:=Array.mem_toList_iff.2 (Array.mem_of_getElem? h);simp only [List.mem_cons,List.not_mem_nil,or_false] at h2;rcases h2 with rfl | rfl | rfl | rfl | rfl<;>exact ⟨fun b e=>(by cases e),fun k x e=>(by cases e)⟩
def NoS (cs:Array Value):Prop:=∀ (i:Nat) (u:Value),cs[i]?=some u->∀ s,u≠.string s
theorem AG {p:OA} {A1 A2 A3 A4:OA} {n1 c1 n2 c2 n3 c3 n4 c4:Nat}:NoS #[.pointer p,.slice A1 n1 c1,.slice A2 n2 c2,.slice A3 n3 c3,.slice A4 n4 c4]:=fun i u h=>by
 have h2:=Array.mem_toList_iff.2 (Array.mem_of_getElem? h);simp only [List.mem_cons,List.not_mem_nil,or_false] at h2;rcases h2 with rfl | rfl | rfl | rfl | rfl<;>exact fun b e=>by cases e
structure UnP (gp:Nat) (w w':Wo):Prop where
 mat:∀ {A:OA} {n:Nat} {M:List (List Rat)},jZ w w.heap.size A n M->(∀ b off,A=some ⟨b,off,none⟩->b≠gp)->jZ w' w'.heap.size A n M
 row:∀ {A:OA} {n:Nat} {q:List Rat},iF w w.heap.size A n q->iF w' w'.heap.size A n q
 ints:∀ {A:OA} {n:Nat} {l:List Int},nL w w.heap.size A n l->nL w' w'.heap.size A n l
 strs:∀ {A:OA} {n:Nat} {l:List ByteArray},bG w w.heap.size A n l->bG w' w'.heap.size A n l
 blk:∀ {g T:Nat} {cs:Array Value},aG w g T cs->T≠95->aG w' g T cs
theorem UnP.trans {gp:Nat} {w w1 w2:Wo} (a:UnP gp w w1) (b:UnP gp w1 w2):UnP gp w w2:=⟨fun h hA=>b.mat (a.mat h hA) hA,fun h=>b.row (a.row h),fun h=>b.ints (a.ints h),fun h=>b.strs (a.strs h),fun h ht=>b.blk (a.blk h ht) ht⟩
theorem yT {w:Wo} {gp i:Nat} {cs:Array Value} {y u:Value} (hb:aG w gp 95 cs) (hn:NoB cs) (hs:NoS cs) (hy:cs[i]?=some y):UnP gp w (w.setCell ⟨gp,i,none⟩ u):=by
 refine ⟨fun h hA=>h.keepB hb hn hy hA,fun h=>h.keepB hb hn hy,fun {A n l} h=>?_,fun {A n l} h=>?_,fun h ht=>h.far (h.apart hb ht) u⟩
 ·refine ⟨h.1,fun h0=>?_⟩
  obtain ⟨b,off,e,aW,hc⟩:=h.2 h0;have hbg:b≠gp:=by
   rintro rfl;obtain ⟨z,hz⟩:∃ z,l[0]?=some z:=eO (by rw [h.len];exact h0);have:=hc 0 (.int .i64 z) (by unfold ints;rw [kI,hz];rfl);rw [Nat.add_zero,hb.cell] at this;exact (hn _ _ this).2 _ _ rfl
  refine ⟨b,off,e,by simpa [World.setCell] using aW,fun j v hv=>?_⟩;rw [World.cell?_setCell_other _ _ _ _ (fun e2=>hbg (by injection e2 with e2;exact e2.symm))];exact hc j v hv
 ·refine ⟨h.1,h.2.1,fun h0=>?_⟩
  obtain ⟨b,off,e,aW,hc⟩:=h.2.2 h0;have hbg:b≠gp:=by
   rintro rfl;obtain ⟨z,hz⟩:∃ z,l[0]?=some z:=eO (by rw [h.1];exact h0);have:=hc 0 (.string z) (by unfold fE;rw [kI,hz];rfl);rw [Nat.add_zero,hb.cell] at this;exact hs _ _ this _ rfl
  refine ⟨b,off,e,by simpa [World.setCell] using aW,fun j v hv=>?_⟩;rw [World.cell?_setCell_other _ _ _ _ (fun e2=>hbg (by injection e2 with e2;exact e2.symm))];exact hc j v hv
theorem EJ {w:Wo} {gp:Nat} {p p' A1 A2 A3 A4 B1 B2 B3 B4:OA} {n1 c1 n2 c2 n3 c3 n4 c4 k1 d1 k2 d2 k3 d3 k4 d4:Nat} (h:aG w gp 95 #[.pointer p,.slice A1 n1 c1,.slice A2 n2 c2,.slice A3 n3 c3,.slice A4 n4 c4]) :
    UnP gp w (((((w.setCell ⟨gp,0,none⟩ (.pointer p')).setCell ⟨gp,1,none⟩ (.slice B1 k1 d1)).setCell ⟨gp,2,none⟩ (.slice B2 k2 d2)).setCell ⟨gp,3,none⟩ (.slice B3 k3 d3)).setCell ⟨gp,4,none⟩ (.slice B4 k4 d4)):=by
 have h1:aG (w.setCell ⟨gp,0,none⟩ (.pointer p')) gp 95 #[.pointer p',.slice A1 n1 c1,.slice A2 n2 c2,.slice A3 n3 c3,.slice A4 n4 c4]:=h.set_ 0 _;have h2:aG ((w.setCell ⟨gp,0,none⟩ (.pointer p')).setCell ⟨gp,1,none⟩ (.slice B1 k1 d1)) gp 95 #[.pointer p',.slice B1 k1 d1,.slice A2 n2 c2,.slice A3 n3 c3,.slice A4 n4 c4]:=h1.set_ 1 _;have h3:aG (((w.setCell ⟨gp,0,none⟩ (.pointer p')).setCell ⟨gp,1,none⟩ (.slice B1 k1 d1)).setCell ⟨gp,2,none⟩ (.slice B2 k2 d2)) gp 95 #[.pointer p',.slice B1 k1 d1,.slice B2 k2 d2,.slice A3 n3 c3,.slice A4 n4 c4]:=h2.set_ 2 _;have h4:aG ((((w.setCell ⟨gp,0,none⟩ (.pointer p')).setCell ⟨gp,1,none⟩ (.slice B1 k1 d1)).setCell ⟨gp,2,none⟩ (.slice B2 k2 d2)).setCell ⟨gp,3,none⟩ (.slice B3 k3 d3)) gp 95 #[.pointer p',.slice B1 k1 d1,.slice B2 k2 d2,.slice B3 k3 d3,.slice A4 n4 c4]:=h3.set_ 3 _
 exact ((((yT (i:=0) h uT AG rfl).trans (yT (i:=1) h1 uT AG rfl)).trans (yT (i:=2) h2 uT AG rfl)).trans (yT (i:=3) h3 uT AG rfl)).trans (yT (i:=4) h4 uT AG rfl)
theorem fG.unP {gp:Nat} {w w':Wo} {m:iZ} {x:bE} (r:fG w w.heap.size m x) (u:UnP gp w w'):fG w' w'.heap.size m x:=⟨u.ints r.r0,u.ints r.r1,u.ints r.r2,u.ints r.r3,u.row r.r4,u.row r.r5,u.ints r.r6⟩
theorem gF.apart {w:Wo} {base n c g T:Nat} {A:OA} {hs:List Hd} {M:List (List Rat)} {cs:Array Value} (m:gF w base (.slice A n c) hs M) (hb:aG w g T cs) (ht:93≠T):∀ b off,A=some ⟨b,off,none⟩->b≠g:=fun b off e=>by
 rcases m.own.2 with ⟨h0,-⟩ | ⟨g',cap,cur,h1,h2,h3,-⟩
 ·rw [e] at h0
  cases h0
 ·rw [e] at h1
  injection h1 with h1;injection h1 with h1;injection h1 with h1 h4;rw [h1];exact h3.apart hb ht
theorem aHX {c:Bool} {p q:Prop} (h:c=true) (hp:p):if c=true then p else q:=by rw [if_pos h];exact hp
theorem gF.base {w:Wo} {base n c:Nat} {A:OA} {hs:List Hd} {M:List (List Rat)} (m:gF w base (.slice A n c) hs M):∀ b off,A=some ⟨b,off,none⟩->base<=b:=fun b off e=>by
 rcases m.own.2 with ⟨h0,-⟩ | ⟨g',cap,cur,h1,h2,h3,-⟩
 ·rw [e] at h0
  cases h0
 ·rw [e] at h1
  injection h1 with h1;injection h1 with h1;injection h1 with h1 h4;rw [h1];exact h2
theorem aCi {o:Oper} {a:Act} {w:Wo} {K:Act->World->Prop} {Q:Exit->Act->World->Prop} (s x:Operand) (t:TypeId)
    (ho:o.op=.call { callee:=.builtin .append,args:=#[s,x],argTypes:=#[t,t] }) (base:Nat)
    (ht:Tryz.prog.underlying t=some (.slice 115))
    (v:Value) (vs:List Rv) (qs:List Rat) (hs:a.eval s=v) (bF:fH w base v vs qs) (u:Rv) (q:Rat) (hq:dL w w.heap.size q u) (g T:Nat)
    (hx:a.eval x=.slice (some ⟨g,0,none⟩) 1 1) (hg:aG w g T #[.bool u.b1,.slice u.A u.n u.c,.bool u.b2,.slice u.A2 u.m u.d]) (wX:qs.length<=1000000) (c_:base<=w.heap.size)
    (h:∀ v' w',fH w' base v' (vs++[u]) (qs++[q])->dY oX base 115 w w'->(∀ g t cs,v.ownBlock≠some g->aG w g t cs->aG w' g t cs)->K (a.put o.dst v') w') :
    o.wp Tryz.prog a w K Q:=by
 obtain ⟨i0,kC,oE,kK,lQ⟩:=rN;have hl:=bF.len;exact sG (S:=oX) s x t ho base 115 i0 _ 4 64 ht kC oE kK lQ rfl (by omega) xP v vs.length (fS vs) hs bF.own g T #[.bool u.b1,.slice u.A u.n u.c,.bool u.b2,.slice u.A2 u.m u.d] hx hg rfl (FT u) (by simp only [maxLen];omega) (by omega) c_ fun v' w' h1 h2 h3 h4=>h v' w' (fH.app bF hq h1 h2) h2 fun g2 t2 cs cP bL=>(h4 g2 bL.lt cP).trans bL
end
