import Derived.Test.YthgdchffeigkbaaGreatDoorX15
import Derived.Test.YthgdchffeigkbaaGreatDoorX17
set_option linter.unusedVariables false
set_option linter.unusedSimpArgs false
namespace Go.Proofs.YthgdchffeigkbaaGreatDoor
set_option maxHeartbeats 8000000
set_option maxRecDepth 100000
section
open Go.ChangeShapes Go.WideShapes Go.ChangeAt Go.RowKit
attribute [local go_sem ↓] aE
attribute [local go_sem] aK aH aM aY
def rD (u:Value):Prop:=∃ x,u=.int .i64 x
theorem dL.keepsI {w w':Wo} {base e:Nat} {q:Rat} {v:Rv} (h:dL w w.heap.size q v) (k:dY rD base e w w'):dL w' w'.heap.size q v:=by
 have key:∀ {A:OA} {n:Nat} {l:List Nat},iR w w.heap.size A n l->iR w' w'.heap.size A n l:=fun h=>⟨h.1,fun hn=>by
  obtain ⟨b,off,e,aW,hc⟩:=h.2 hn;refine ⟨b,off,e,jO aW k.size,fun j u hu=>k.cell _ _ (hc j u hu) ?_⟩;obtain ⟨x,rfl⟩:=L_ hu;rintro ⟨y,hy⟩;cases hy⟩
 exact ⟨⟨h.num.eb,h.num.en,key h.num.rd,h.num.nc,h.num.cm⟩,⟨h.den.eb,h.den.en,key h.den.rd,h.den.nc,h.den.cm⟩⟩
theorem iY.keepsI {w w':Wo} {base base' g:Nat} {hs:List Mh} {M:List (List Rat)} (o:iY w base g hs M) (k:dY rD base' 3 w w'):iY w' base g hs M:=
 ⟨k.blk _ _ _ o.top (by decide),o.len,o.gb,fun i h q hh hq=>by
  have r:=o.row i h q hh hq;refine ⟨r.len,r.cap,r.cm,fun a p v hp hv=>(r.ok a p v hp hv).keepsI k,fun h0=>?_⟩;obtain ⟨h1,h2,h3,cs,h4,h5⟩:=r.lies h0;exact ⟨h1,h2,h3,cs,k.blk _ _ _ h4 (by decide),h5⟩,o.dis⟩
theorem aG.apart {w:Wo} {g g' t t':Nat} {cs cs':Array Value} (h:aG w g t cs) (h':aG w g' t' cs') (ht:t≠t'):g≠g':=by
 rintro rfl;have h2:some (Obj.cells cs t (0,0))=some (Obj.cells cs' t' (0,0)):=h.symm.trans h';injection h2 with h2;injection h2 with _ h2;exact ht h2
theorem bJ.far {S:Value->Prop} {w:Wo} {base e size n g t i:Nat} {v u:Value} {xs:List Value} {cs:Array Value} (h:bJ S w base e size v n xs) (hb:aG w g t cs) (ht:e≠t):bJ S (w.setCell ⟨g,i,none⟩ u) base e size v n xs:=by
 refine ⟨h.1,?_⟩;rcases h.2 with h1 | ⟨b,cap,cur,h1,h2,h3,h4⟩
 ·exact .inl h1
 ·exact .inr ⟨b,cap,cur,h1,h2,h3.far (h3.apart hb ht) u,h4⟩
theorem bJ.far4 {S:Value->Prop} {w:Wo} {base e size n g t i:Nat} {v:Value} {x:Rv} {xs:List Value} {cs:Array Value} (h:bJ S w base e size v n xs) (hb:aG w g t cs) (ht:e≠t):bJ S (gB w g i x) base e size v n xs:=by
 have b1:=hb.set_ (i*4) (.bool x.b1);have b2:=b1.set_ (i*4+1) (.slice x.A x.n x.c);have b3:=b2.set_ (i*4+2) (.bool x.b2);exact (((h.far hb ht).far b1 ht).far b2 ht).far b3 ht
def eW (l:List Nat):List Value:=l.map fun (x:Nat)=>Value.int .i64 (x:Int)
def aWl (M:List (List Rat)) (cols:Nat) (w:Wo) (e:Ending) (w':Wo):Prop:=Below w.heap.size w w'/\∃ g hs v,e=.returned (.tuple #[.slice (some ⟨g,0,none⟩) M.length M.length,v])/\iY w' w.heap.size g hs (lD M cols).1/\bJ rD w' w.heap.size 3 1 v (lD M cols).2.length (eW (lD M cols).2)
structure i_ (B0 g:Nat) (w0 wr:Wo) (v:Value) (piv:List Nat) (hs:List Mh) (L:List (List Rat)):Prop where
 own:iY wr B0 g hs L
 pv:bJ rD wr B0 3 1 v piv.length (eW piv)
 low:Below B0 w0 wr
section
variable {B0 g:Nat} {w0 wr w':Wo} {v:Value} {piv:List Nat} {hs:List Mh} {L:List (List Rat)}
theorem i_.le (m:i_ B0 g w0 wr v piv hs L):B0<=wr.heap.size:=cV m.own.gb (rC m.own.top.lt)
theorem i_.up (m:i_ B0 g w0 wr v piv hs L) (hb:Below wr.heap.size wr w'):i_ B0 g w0 w' v piv hs L:=⟨m.own.up hb,m.pv.keep hb,m.low.trans (hb.mono m.le)⟩
theorem i_.put (m:i_ B0 g w0 wr v piv hs L) {i j:Nat} {h:Mh} {q:List Rat} {x:Rv} {y:Rat} (hh:hs[i]?=some h) (hq:L[i]?=some q) (hj:j<q.length) (hv:dL wr wr.heap.size y x):i_ B0 g w0 (gB wr h.g j x) v piv (hs.set i ⟨h.A,h.g,h.c,h.vs.set j x⟩) (L.set i (q.set j y)):=by
 obtain ⟨h1,h2,h3,cs,h4,h5⟩:=(m.own.row i h q hh hq).lies (by omega);exact ⟨m.own.put hh hq hj hv,m.pv.far4 h4 (by decide),kS m.low h2⟩
theorem i_.swap (m:i_ B0 g w0 wr v piv hs L) {r p:Nat} {a b:List Rat} {ha hb:Mh} (h1:hs[r]?=some ha) (h2:hs[p]?=some hb) (h3:L[r]?=some a) (h4:L[p]?=some b) :
    i_ B0 g w0 ((wr.setCell ⟨g,r,none⟩ (.slice hb.A b.length hb.c)).setCell ⟨g,p,none⟩ (.slice ha.A a.length ha.c)) v piv ((hs.set r hb).set p ha) ((L.set r b).set p a):=
 ⟨m.own.swap h1 h2 h3 h4,(m.pv.far m.own.top (by decide)).far (m.own.top.set_ _ _) (by decide),(m.low.setCell m.own.gb _).setCell m.own.gb _⟩
theorem i_.elem (m:i_ B0 g w0 wr v piv hs L) {i j:Nat} {q:List Rat} (hq:L[i]?=some q) (hj:j<q.length):∃ (gg c:Nat) (vs:List Rv) (x:Rv),hs[i]?=some ⟨some ⟨gg,0,none⟩,gg,c,vs⟩/\wr.cell? ⟨g,i,none⟩=some (.slice (some ⟨gg,0,none⟩) q.length c)/\vs[j]?=some x/\
    wr.cell? ⟨gg,j*4,none⟩=some (.bool x.b1)/\wr.cell? ⟨gg,j*4+1,none⟩=some (.slice x.A x.n x.c)/\wr.cell? ⟨gg,j*4+2,none⟩=some (.bool x.b2)/\wr.cell? ⟨gg,j*4+3,none⟩=some (.slice x.A2 x.m x.d)/\dL wr wr.heap.size (vf q j) x/\gg<wr.heap.size/\(∀ o,wr.frozen? ⟨gg,o,none⟩=false)/\g≠gg:=by
 obtain ⟨⟨A,gg,c,vs⟩,hh,hc,hr⟩:=m.own.get hq;obtain ⟨h1,h2,h3,cs,h4,h5⟩:=hr.lies (by omega);simp only at h1 hc;subst h1;obtain ⟨x,hx⟩:∃ x,vs[j]?=some x:=eO (by have:=hr.len;simp only at this;omega);obtain ⟨c0,c1,c2,c3⟩:=h4.row_cell h5 hx;exact ⟨gg,c,vs,x,hh,hc,hx,c0,c1,c2,c3,hr.ok j _ x (bI hj) hx,h4.lt,h4.frozen,fun e=>h3 e.symm⟩
end
theorem i_.elem2 {B0 g:Nat} {w0 wr:Wo} {v:Value} {piv:List Nat} {hs:List Mh} {L:List (List Rat)} (m:i_ B0 g w0 wr v piv hs L) {i j:Nat} {q:List Rat} {A:OA} {gg c:Nat} {vs:List Rv} {x:Rv} (hh:hs[i]?=some ⟨A,gg,c,vs⟩) (hq:L[i]?=some q) (hx:vs[j]?=some x) :
    wr.cell? ⟨gg,j*4,none⟩=some (.bool x.b1)/\wr.cell? ⟨gg,j*4+1,none⟩=some (.slice x.A x.n x.c)/\wr.cell? ⟨gg,j*4+2,none⟩=some (.bool x.b2)/\wr.cell? ⟨gg,j*4+3,none⟩=some (.slice x.A2 x.m x.d)/\gg<wr.heap.size/\(∀ o,wr.frozen? ⟨gg,o,none⟩=false):=by
 have hr:=m.own.row i _ q hh hq;have hxl:=(dP.1 hx).1;obtain ⟨h1,h2,h3,cs,h4,h5⟩:=hr.lies (by have:=hr.len;simp only at this;omega);obtain ⟨c0,c1,c2,c3⟩:=h4.row_cell h5 hx;exact ⟨c0,c1,c2,c3,h4.lt,h4.frozen⟩
structure AV (wr:Wo) (g gd:Nat) (hs:List Mh) (y:Rat) (x:Rv):Prop where
 blk:aG wr gd 115 #[.bool x.b1,.slice x.A x.n x.c,.bool x.b2,.slice x.A2 x.m x.d]
 val:dL wr wr.heap.size y x
 far:∀ (i:Nat) (h:Mh),hs[i]?=some h->0<h.vs.length->h.g<gd
theorem AV.up {wr w':Wo} {g gd:Nat} {hs:List Mh} {y:Rat} {x:Rv} (b:AV wr g gd hs y x) (hb:Below wr.heap.size wr w'):AV w' g gd hs y x:=⟨b.blk.bl hb,b.val.up hb,b.far⟩
theorem AV.put {B0 g g2 gd:Nat} {w0 wr:Wo} {v:Value} {piv:List Nat} {hs:List Mh} {L:List (List Rat)} {z:Rat} {x u:Rv} (b:AV wr g2 gd hs z u) (m:i_ B0 g w0 wr v piv hs L) {i j:Nat} {h:Mh} {q:List Rat} (hh:hs[i]?=some h) (hq:L[i]?=some q) (hj:j<q.length):AV (gB wr h.g j x) g2 gd (hs.set i ⟨h.A,h.g,h.c,h.vs.set j x⟩) z u:=by
 have hr:=m.own.row i h q hh hq;obtain ⟨h1,h2,h3,cs,h4,h5⟩:=hr.lies (by omega);obtain ⟨y,hy⟩:∃ y,h.vs[j]?=some y:=eO (by rw [hr.len];exact hj);have aW:=b.far i h hh (by rw [hr.len];omega);refine ⟨b.blk.far4 x (by omega),dL.keep4 b.val x h4 h5 hy,fun k h' hk l=>?_⟩;rw [List.getElem?_set] at hk
 by_cases zZ:i=k
 ·subst zZ
  rw [if_pos rfl,if_pos (dP.1 hh).1] at hk;injection hk with hk;subst hk;exact aW
 ·rw [if_neg zZ] at hk
  exact b.far k h' hk l
structure aIS (M:List (List Rat)) (N b cols k:Nat) (L:List (List Rat)) (piv:List Nat):Prop where
 ok:qR M L N piv k
 bd:Bd (4^k*b) L
 go:nD (cols-k) L piv k=lD M cols
theorem KW:(Tryz.prog.info? 3).map (fun i=>(i.zero,i.size,i.bytes))=some (some (.int .i64 0),1,8):=by kernel_rfl
theorem Y_:∀ u∈(Value.int .i64 0).cells.toList,rD u:=fun u hu=>by
 have QA:u∈[Value.int .i64 0]:=hu;rw [List.mem_singleton] at QA;exact ⟨0,QA⟩
theorem PE (A:OA) (n c cols N b:Nat) (M:List (List Rat)) (w:Wo) (hR:jZ w w.heap.size A n M) (hn:n<=1000000) (hw:∀ a∈M,a.length=N) (hN:N<=1000000) (hc:cols<=N) (hb:Bd b M) (gW:4^cols*b<=4000000000000) :
    Calls Tryz.prog 124 #[.slice A n c,.int .i64 (cols:Int)] w (aWl M cols w):=by
 have HL:=lH hR.len;have HW:=lH hw;have dW:=lH gW;have OO:=lH hb;have HCP:=lH (aMA A n c M w hR hn (fun a ha=>by rw [hw a ha];exact hN));obtain ⟨i0,kC,oE,kK,lQ⟩:=info_parts KW;have DN:=lH kC;have AR:=lH oE;have J0:=lH kK;have JZ:=lH lQ;clear hR hw hb gW kC oE kK lQ;go_enter Tryz.func124,Tryz.ntmps124
 go_wp2_with fail
 refine HCP.o.mono ?_;clear HCP;rintro e w1 ⟨bH,g,hs,rfl,ho⟩;have bS:=lH bH;have IN:=lH ho;clear bH ho;rw [HL.o];generalize hB0:w.heap.size=B0 at *;have dB:=lH hB0;clear hB0;have JS:Hid (aIS M N b cols 0 M []):=lH ⟨DC HW.o,by simpa using OO.o,rfl⟩;have EC:Hid (i_ B0 g w w1 (.slice none 0 0) [] hs M):=lH ⟨IN.o,dO _ _ _ _ _,bS.o⟩;clear bS IN
 go_wp2_with fail
 go_loopw [6,7] (fun v6 v7 wr=>∃ (k:Nat) (L:List (List Rat)) (piv:List Nat) (hs:List Mh),k<=cols/\v7=.int .i64 k/\aIS M N b cols k L piv/\i_ B0 g w wr v6 piv hs L) (fun _ v7 _=>cols-(intOf v7).toNat)
 case atStart=>exact ⟨0,M,[],hs,Nat.zero_le _,rfl,JS.o,EC.o⟩
 case round=>
  clear JS EC hs;obtain ⟨k,L,piv,hs,hk,rfl,QC,U3⟩:=hrel;have gR:=lH QC;have dJ:=lH U3;have AQ:Hid (L.length=n):=lH (QC.ok.len.trans HL.o);obtain ⟨pA,pc,hv,hpc,hpm⟩:=U3.pv.shape;subst hv;clear QC U3;have eN:=lN k;have E8:Hid (4^k*b<=4000000000000):=lH (cV (MK hk b) dW.o)
  by_cases aW:k<cols
  ·have fT:(k:Int)<(cols:Int):=by omega
   have iL:Hid (cols-(k+1)<cols-k):=lH (by omega)
   by_cases CC:piv.length<n
   ·generalize hr:piv.length=r at *
    have R2:=lH hr;clear hr;have qJ:(r:Int)<(n:Int):=by omega
    go_wp2_with fail
    go_loopw [9] (fun v9 wr=>∃ p:Nat,r<=p/\p<=n/\v9=.int .i64 p/\(∀ (i:Nat) (b:List Rat),L[i]?=some b->r<=i->i<p->vf b k=0)/\i_ B0 g w wr (.slice pA r pc) piv hs L) (fun v9 _=>n-(intOf v9).toNat)
    case atStart=>exact ⟨r,lR,by omega,rfl,fun i b _ h1 h2=>by omega,dJ.o⟩
    case round=>
     clear dJ;obtain ⟨p,hrp,hpn,rfl,hz,U3⟩:=hrel;have dJ:=lH U3;have HZ:=lH hz;clear U3 hz
     by_cases hp:p<n
     ·obtain ⟨q,hq⟩:∃ q,L[p]?=some q:=eO (by have:=AQ.o;omega)
      have mH:Hid (q.length=N):=lH (gR.o.ok.wid q (cO hq));obtain ⟨gg,cc,vs,x,hh,c,hx,c0,c1,c2,c3,hv,l1,f1,cP⟩:=dJ.o.elem (j:=k) hq (by have:=mH.o;omega);have HQ:=lH hq;have HH:=lH hh;have HX:=lH hx;have HV:=lH hv;have hpI:(p:Int)<(n:Int):=by omega
      rw [mH.o] at c;have hkN:(k:Int)<(N:Int):=by omega
      clear hq hh hx hv
      by_cases h0:vf q k=0
      ·have wJ:=lN p
       have m6:Hid (n-(p+1)<n-p):=lH (by omega);have HZ1:Hid (∀ (i:Nat) (b:List Rat),L[i]?=some b->r<=i->i<p+1->vf b k=0):=lH fun i b h1 h2 h3=>by
        by_cases h4:i=p
        ·subst h4
         have h5:=HQ.o;rw [h1] at h5;injection h5 with h5;subst h5;exact h0
        ·exact HZ.o i b h1 h2 (by omega)
       go_wp2_with fail
       refine (tF HV.o).mono ?_;rw [h0];rintro e w5 ⟨rfl,eD⟩;have Y5:=lH (dJ.o.up eD);clear eD c c0 c1 c2 c3 l1 f1 dJ h0
       go_wp2_with fail
       go_roundw
       case rel=>exact ⟨p+1,by omega,hp,aQ wJ.o,HZ1.o,Y5.o⟩
       case measure=>exact m6.o
      ·have HSG:Hid ((vf q k).num.sign≠0):=lH (fun h=>h0 (by
        have:=Int.sign_eq_zero_iff_zero.1 h;exact Rat.num_eq_zero.1 this))
       have HPV:Hid (nE L r k=p):=lH (aHA hrp HQ.o h0 HZ.o);have OK:Hid (vf q k≠0):=lH h0;clear h0
       go_wp2_with fail
       refine (tF HV.o).mono ?_;generalize (vf q k).num.sign=sg at *;rintro e w5 ⟨rfl,eD⟩;have Y5:=lH (dJ.o.up eD);have hsg:(sg == 0)=false:=by have:=HSG.o;simp [this]
       have hpb:((p:Int) == (n:Int))=false:=by simp;omega
       clear eD c c0 c1 c2 c3 l1 f1 dJ HZ cP
       go_wp2_with fail
       obtain ⟨qr,hqr⟩:∃ qr,L[r]?=some qr:=eO (by have:=AQ.o;omega);have vE:Hid (qr.length=N):=lH (gR.o.ok.wid qr (cO hqr));obtain ⟨⟨rA,rg,rc,rvv⟩,hhr,c1,-⟩:=Y5.o.own.get hqr;obtain ⟨_,hhp,c2,-⟩:=Y5.o.own.get HQ.o;rw [HH.o] at hhp;injection hhp with hhp;subst hhp;have hsw:=Y5.o.swap hhr HH.o hqr HQ.o;rw [vE.o,mH.o] at hsw;rw [vE.o] at c1;rw [mH.o] at c2;simp only at c1 c2 hsw;have HQR:=lH hqr;have HHR:=lH hhr;have HSW:=lH hsw;have gl:=Y5.o.own.top.lt;have gf:=Y5.o.own.top.frozen;obtain ⟨uu,c3⟩:∃ uu,(w5.setCell ⟨g,r,none⟩ (.slice (some ⟨gg,0,none⟩) N cc)).cell? ⟨g,p,none⟩=some uu:=by
        rw [(Y5.o.own.top.set_ r _).cell];exact ⟨_,Array.getElem?_eq_getElem (by simp;rw [Y5.o.own.len,AQ.o];exact hp)⟩
       clear hqr hhr hsw
       go_region
       clear c1 c2 c3 gl gf;generalize (w5.setCell ⟨g,r,none⟩ (.slice (some ⟨gg,0,none⟩) N cc)).setCell ⟨g,p,none⟩ (.slice rA N rc)=w6 at *;have II:Hid ((((L.set r q).set p qr).set r (iI (vf q k) q))=dH L r p k):=lH (aCx HQR.o HQ.o);have HSR:Hid (((L.set r q).set p qr)[r]?=some q):=lH (aLa HQR.o HQ.o);have OL:Hid (((L.set r q).set p qr).length=n):=lH (by rw [lF,lF,AQ.o]);clear HHR HH HX Y5 HV;generalize (L.set r q).set p qr=L1 at *;generalize (hs.set r _).set p _=wS at *;obtain ⟨gg,cc,vs,x,hh,c,hx,c0,c1,c2,c3,hv,l1,f1,cP⟩:=HSW.o.elem (j:=k) HSR.o (by have:=mH.o;omega);have HV:=lH hv;have gl:=HSW.o.own.top.lt;have gf:=HSW.o.own.top.frozen;rw [mH.o] at c;clear hh hx hv
       go_upto_region 14 with fail
       clear c0 c1 c2 c3 gl gf l1 f1 cP;have gY:Below w6.heap.size w6 (w6.alloc (.cells #[.bool x.b1,.slice x.A x.n x.c,.bool x.b2,.slice x.A2 x.m x.d] 115)).drew:=aD (bA);have cU:Hid (AV (w6.alloc (.cells #[.bool x.b1,.slice x.A x.n x.c,.bool x.b2,.slice x.A2 x.m x.d] 115)).drew g w6.heap.size wS (vf q k) x):=lH ⟨(aG.new w6 _ _).drew,HV.o.up gY,fun i h hh l=>HSW.o.own.lt hh l⟩;have HM7:Hid (i_ B0 g w (w6.alloc (.cells #[.bool x.b1,.slice x.A x.n x.c,.bool x.b2,.slice x.A2 x.m x.d] 115)).drew (.slice pA r pc) piv wS (L1.set r (tR (vf q k) k k q))):=lH (by rw [VL,O7 HSR.o];exact HSW.o.up gY);clear gY HSW HV;generalize (w6.alloc (.cells #[.bool x.b1,.slice x.A x.n x.c,.bool x.b2,.slice x.A2 x.m x.d] 115)).drew=w7 at *;generalize w6.heap.size=gd at *
       go_loopw [11] (fun v11 wr=>∃ (j:Nat) (hs:List Mh),k<=j/\j<=N/\v11=.int .i64 j/\i_ B0 g w wr (.slice pA r pc) piv hs (L1.set r (tR (vf q k) k j q))/\AV wr g gd hs (vf q k) x) (fun v11 _=>N-(intOf v11).toNat)
       case atStart=>exact ⟨k,wS,lR,by omega,rfl,HM7.o,cU.o⟩
       case round=>
        clear HM7 cU wS;obtain ⟨j,wS,U6,hjN,rfl,U3,GQ⟩:=hrel;have dJ:=lH U3;have cU:=lH GQ;have HRJ:Hid ((L1.set r (tR (vf q k) k j q))[r]?=some (tR (vf q k) k j q)):=lH (by rw [List.getElem?_set_self (by rw [OL.o];exact CC)]);have HDL:Hid ((tR (vf q k) k j q).length=N):=lH (by rw [Q6,mH.o]);clear U3 GQ
        by_cases hj:j<N
        ·have hjI:(j:Int)<(N:Int):=by omega
         have wJ:=lN j;have m6:Hid (N-(j+1)<N-j):=lH (by omega);obtain ⟨gg,cc,vs,y,hh,c,hx,c0,c1,c2,c3,hv,l1,f1,cP⟩:=dJ.o.elem (j:=j) HRJ.o (by rw [HDL.o];exact hj);rw [HDL.o] at c;have gl:=dJ.o.own.top.lt;have bl:=cU.o.blk.lt;have b0:=cU.o.blk.cell 0;have b1:=cU.o.blk.cell 1;have b2:=cU.o.blk.cell 2;have b3:=cU.o.blk.cell 3;have hvj:vf (tR (vf q k) k j q) j=vf q j:=iA (aII (bI (by rw [mH.o];exact hj)));rw [hvj] at hv;have HY:=lH hv;have HH:=lH hh;have HX:=lH hx;clear hh hx hv hvj;have bK:=lH (aD (Below.refl wr.heap.size wr))
         go_upto_region 16 with fail
         refine aJ (S:=fun w'=>Below wr.heap.size wr w') 15 _ (by kernel_rfl) (by kernel_rfl) rfl (aD bR) (fun hHeld=>?_);simp only [lA,List.take_zero];refine aL 0 rfl ?_;refine aL 1 rfl ?_;refine aL 2 rfl ?_;refine aL 3 rfl ?_;refine aL 4 rfl ?_;refine aL 5 rfl ?_;refine aL 6 rfl ?_;refine aL 7 rfl ?_;refine aL 8 rfl ?_;refine aL 9 rfl ?_;refine aL 10 rfl ?_;refine aL 11 rfl ?_;refine aL 12 rfl ?_;refine aU 13 (by kernel_rfl) rfl (fun K hK=>?_);go_simp;refine (aQH (HY.o.up bK.o) (cU.o.val.up bK.o) OK.o (by have:=gR.o.bd.vf HQ.o (j:=j) (by rw [mH.o];exact hj);have:=gR.o.bd.vf HQ.o (j:=k) (by rw [mH.o];omega);have:=E8.o;omega)).mono ?_;rintro e w8 ⟨e_,v8,rfl,h8⟩;have dF:=lH (bK.o.tm e_);have H8:=lH h8;clear e_ h8;go_simp;refine hK.out _ _ ?_ (fun hHeld=>?_)
         ·exact dF.o
         clear hK K
         try simp only [Act.put,bP,bO,bN]
         refine aL 14 rfl ?_;refine wpAnyH_done (by kernel_rfl) ?_ _;refine aP (by rfl) ?_;clear hHeld;have p_:=lH (dJ.o.up dF.o);have V0:=lH (cU.o.up dF.o);clear c c0 c1 c2 c3 l1 f1 cP gl bl b0 b1 b2 b3 dJ cU;obtain ⟨c0,c1,c2,c3,l1,f1⟩:=p_.o.elem2 HH.o HRJ.o HX.o
         go_wp2_with fail
         go_roundw
         case rel=>exact ⟨j+1,_,by omega,hj,aQ wJ.o,by
          have h:=p_.o.put HH.o HRJ.o (by rw [HDL.o];exact hj) H8.o;rw [List.set_set,aAR U6 (bI (by rw [mH.o];exact hj))] at h;exact h,V0.o.put p_.o HH.o HRJ.o (by rw [HDL.o];exact hj)⟩
         case measure=>exact m6.o
        ·have aU6:j=N:=by omega
         subst aU6;have hjI:¬(j:Int)<(j:Int):=by omega
         have p_:Hid (i_ B0 g w wr (.slice pA r pc) piv wS (fU (dH L r p k) (iI (vf q k) q) r k 0)):=lH (by
          rw [O9];have h:=dJ.o;rw [show tR (vf q k) k j q=iI (vf q k) q from by
           have:=aE5 (d:=vf q k) (PL gR.o.ok.ech HQ.o (by rw [R2.o];exact hrp));rw [mH.o] at this;exact this,II.o] at h
          exact h)
         obtain ⟨ra,wT,c,-⟩:=dJ.o.own.get HRJ.o;rw [HDL.o] at c;have gl:=dJ.o.own.top.lt
         go_wp2_with fail
         clear c gl wT dJ cU HRJ HDL hjI;have vE:Hid ((iI (vf q k) q).length=j):=lH (by rw [kG,mH.o]);have HRZ:Hid (∀ t,t<k->vf (iI (vf q k) q) t=0):=lH fun t ht=>aE2 (PL gR.o.ok.ech HQ.o (by rw [R2.o];exact hrp) t ht) (by rw [mH.o];omega);have tO:Hid ((dH L r p k)[r]?=some (iI (vf q k) q)):=lH (KJ HQR.o HQ.o);have HPW:Hid (∀ a∈dH L r p k,a.length=j):=lH (KI gR.o.ok.wid HQR.o HQ.o);have HPL:Hid ((dH L r p k).length=n):=lH (by rw [uK,AQ.o]);have HPE:Hid (fU (dH L r p k) (iI (vf q k) q) r k n=eI L r p k):=lH (by rw [<-AQ.o];exact Z1 HQ.o);have tN:Hid (∀ (i t:Nat) (a:List Rat),i≠r->(dH L r p k)[i]?=some a->t<j->bU (vf a t)+1<=4000000000000):=lH fun i t a yD ha ht=>by
          obtain ⟨s,hs,_⟩:=zM HQR.o HQ.o yD ha;have:=gR.o.bd.vf hs (j:=t) (by rw [gR.o.ok.wid a (cO hs)];exact ht);have:=E8.o;omega
         have HPD:Hid (∀ t,t<j->bU (vf (iI (vf q k) q) t)+2<=8000000000000):=lH fun t ht=>by
          have:=aE4 gR.o.bd HQ.o (by rw [mH.o];omega) _ (cO (bI (l:=iI (vf q k) q) (i:=t) (by rw [vE.o];exact ht)));have:=E8.o;omega
         generalize dH L r p k=M2 at *;generalize iI (vf q k) q=R at *;generalize wr=wz at *
         go_loopw [101] (fun v101 wr=>∃ (i:Nat) (hs:List Mh),i<=n/\v101=.int .i64 i/\i_ B0 g w wr (.slice pA r pc) piv hs (fU M2 R r k i)) (fun v101 _=>n-(intOf v101).toNat)
         case atStart=>exact ⟨0,wS,Nat.zero_le _,rfl,p_.o⟩
         case round=>
          clear p_ wS;obtain ⟨i,wS,lG,rfl,U3⟩:=hrel;have dJ:=lH U3;clear U3
          by_cases hi:i<n
          ·have QI:(i:Int)<(n:Int):=by omega
           have wJ:=lN i;have m6:Hid (n-(i+1)<n-i):=lH (by omega)
           by_cases yD:i=r
           ·subst yD
            go_wp2_with fail
            go_roundw
            case rel=>exact ⟨i+1,wS,hi,aQ wJ.o,by rw [FX];exact dJ.o⟩
            case measure=>exact m6.o
           ·have hib:((i:Int) == (r:Int))=false:=by simp;omega
            obtain ⟨row,iH⟩:∃ row,M2[i]?=some row:=eO (by rw [HPL.o];exact hi);have rE:=lH iH;have JU:Hid (row.length=j):=lH (HPW.o row (cO iH));obtain ⟨gg,cc,vs,y,hh,c,hx,c0,c1,c2,c3,hv,l1,f1,cP⟩:=dJ.o.elem (j:=k) (zD iH) (by rw [JU.o];omega);rw [JU.o] at c;have HV:=lH hv;have gl:=dJ.o.own.top.lt;clear hh hx hv iH
            by_cases h0:vf row k=0
            ·have HSK:Hid (fU M2 R r k (i+1)=fU M2 R r k i):=lH (TH (by rw [vE.o,JU.o]) rE.o h0)
             go_wp2_with fail
             refine (tF HV.o).mono ?_;rw [h0];rintro e w9 ⟨rfl,gE⟩;have L2:=lH (dJ.o.up gE);clear gE c c0 c1 c2 c3 l1 f1 cP gl dJ h0
             go_wp2_with fail
             go_roundw
             case rel=>exact ⟨i+1,wS,hi,aQ wJ.o,by rw [HSK.o];exact L2.o⟩
             case measure=>exact m6.o
            ·have HSG:Hid ((vf row k).num.sign≠0):=lH (fun h=>h0 (by
              have:=Int.sign_eq_zero_iff_zero.1 h;exact Rat.num_eq_zero.1 this))
             clear h0
             go_wp2_with fail
             refine (tF HV.o).mono ?_;generalize (vf row k).num.sign=sg at *;rintro e w9 ⟨rfl,gE⟩;have L2:=lH (dJ.o.up gE);have hsg:(sg == 0)=false:=by have:=HSG.o;simp [this]
             clear gE c c0 c1 c2 c3 l1 f1 cP gl dJ HV;obtain ⟨gg,cc,vs,y,hh,c,hx,c0,c1,c2,c3,hv,l1,f1,cP⟩:=L2.o.elem (j:=k) (zD rE.o) (by rw [JU.o];omega);rw [JU.o] at c;have HV:=lH hv;have gl:=L2.o.own.top.lt;clear hh hx hv
             go_upto_region 23 with fail
             clear c c0 c1 c2 c3 l1 f1 cP gl;have gY:Below w9.heap.size w9 (w9.alloc (.cells #[.bool y.b1,.slice y.A y.n y.c,.bool y.b2,.slice y.A2 y.m y.d] 115)):=bA;have cU:Hid (AV (w9.alloc (.cells #[.bool y.b1,.slice y.A y.n y.c,.bool y.b2,.slice y.A2 y.m y.d] 115)) g w9.heap.size wS (vf row k) y):=lH ⟨aG.new w9 _ _,HV.o.up gY,fun i h hh l=>L2.o.own.lt hh l⟩;have HM7:Hid (i_ B0 g w (w9.alloc (.cells #[.bool y.b1,.slice y.A y.n y.c,.bool y.b2,.slice y.A2 y.m y.d] 115)) (.slice pA r pc) piv wS ((fU M2 R r k i).set i (nY (vf row k) R k k row))):=lH (by rw [TE,O7 (zD rE.o)];exact L2.o.up gY);have HXR:Hid ((fU M2 R r k i)[r]?=some R):=lH (aHo tO.o);have SR:Hid ((fU M2 R r k i).set i (wM (vf row k) R row)=fU M2 R r k (i+1)):=lH (FW yD rE.o)
             have HXL:Hid ((fU M2 R r k i).length=n):=lH (by rw [BN,HPL.o]);clear gY L2 HV;generalize fU M2 R r k i=X at *;generalize w9.alloc (.cells #[.bool y.b1,.slice y.A y.n y.c,.bool y.b2,.slice y.A2 y.m y.d] 115)=w10 at *;generalize w9.heap.size=gf at *;generalize wr=wy at *
             go_loopw [14] (fun v14 wr=>∃ (t:Nat) (hs:List Mh),k<=t/\t<=j/\v14=.int .i64 t/\i_ B0 g w wr (.slice pA r pc) piv hs (X.set i (nY (vf row k) R k t row))/\AV wr g gf hs (vf row k) y) (fun v14 _=>j-(intOf v14).toNat)
             case atStart=>exact ⟨k,wS,lR,by omega,rfl,HM7.o,cU.o⟩
             case round=>
              clear HM7 cU wS;obtain ⟨t,wS,hkt,htj,rfl,U3,GQ⟩:=hrel;have dJ:=lH U3;have cU:=lH GQ;have HTI:Hid ((X.set i (nY (vf row k) R k t row))[i]?=some (nY (vf row k) R k t row)):=lH (by rw [List.getElem?_set_self (by rw [HXL.o];exact hi)]);have HTR:Hid ((X.set i (nY (vf row k) R k t row))[r]?=some R):=lH (by rw [List.getElem?_set_ne yD];exact HXR.o);have RY:Hid ((nY (vf row k) R k t row).length=j):=lH (by rw [OZ,JU.o]);clear U3 GQ
              by_cases ht:t<j
              ·have htI:(t:Int)<(j:Int):=by omega
               have L0:=lN t;have DM:Hid (j-(t+1)<j-t):=lH (by omega);have HTV:Hid (vf (nY (vf row k) R k t row) t=vf row t):=lH (iA (aG_ (bI (by rw [JU.o];exact ht))));obtain ⟨g2,cc2,vs2,z2,hh2,e0,xJ,e1,e2,e3,e4,kD,l2,f2,QF⟩:=dJ.o.elem (j:=t) HTI.o (by rw [RY.o];exact ht);obtain ⟨g3,cc3,vs3,z3,hh3,d0,hx3,d1,d2,d3,d4,pV,l3,f3,aId⟩:=dJ.o.elem (j:=t) HTR.o (by rw [vE.o];exact ht);rw [RY.o] at e0;rw [vE.o] at d0;have u_:=lH pV;have HH2:=lH hh2;have dI:=lH xJ;have HH3:=lH hh3;have SS:=lH hx3;have gl:=dJ.o.own.top.lt;clear hh2 xJ kD hh3 hx3 pV
               by_cases h0:vf R t=0
               ·have HSK:Hid (nY (vf row k) R k (t+1) row=nY (vf row k) R k t row):=lH (ZQ h0)
                go_wp2_with fail
                refine (tF u_.o).mono ?_;rw [h0];rintro e w11 ⟨rfl,mF⟩;have yM:=lH (dJ.o.up mF);have u3:=lH (cU.o.up mF);clear mF e0 e1 e2 e3 e4 l2 f2 QF d0 d1 d2 d3 d4 l3 f3 aId gl dJ cU h0
                go_wp2_with fail
                go_roundw
                case rel=>exact ⟨t+1,wS,by omega,ht,aQ L0.o,by rw [HSK.o];exact yM.o,u3.o⟩
                case measure=>exact DM.o
               ·have HSG:Hid ((vf R t).num.sign≠0):=lH (fun h=>h0 (by
                 have:=Int.sign_eq_zero_iff_zero.1 h;exact Rat.num_eq_zero.1 this))
                clear h0
                go_wp2_with fail
                refine (tF u_.o).mono ?_;generalize (vf R t).num.sign=sg2 at *;rintro e w11 ⟨rfl,mF⟩;have yM:=lH (dJ.o.up mF);have u3:=lH (cU.o.up mF);have aPj:(sg2 != 0)=true:=by have:=HSG.o;simp [this]
                clear mF e0 e1 e2 e3 e4 l2 f2 QF d0 d1 d2 d3 d4 l3 f3 aId gl dJ cU u_ HH2 dI HH3 SS;obtain ⟨g2,cc2,vs2,z2,hh2,e0,xJ,e1,e2,e3,e4,kD,l2,f2,QF⟩:=yM.o.elem (j:=t) HTI.o (by rw [RY.o];exact ht);obtain ⟨g3,cc3,vs3,z3,hh3,d0,hx3,d1,d2,d3,d4,pV,l3,f3,aId⟩:=yM.o.elem (j:=t) HTR.o (by rw [vE.o];exact ht);rw [RY.o] at e0;rw [vE.o] at d0;rw [HTV.o] at kD;have qY:=lH kD;have u_:=lH pV;have HH2:=lH hh2;have dI:=lH xJ;have gl:=yM.o.own.top.lt;have bl:=u3.o.blk.lt;have b0:=u3.o.blk.cell 0;have b1:=u3.o.blk.cell 1;have b2:=u3.o.blk.cell 2;have b3:=u3.o.blk.cell 3;have bK:=lH (aD (Below.refl w11.heap.size w11));have HZ1:Hid (bU (vf row k)+1<=4000000000000):=lH (tN.o i k row yD rE.o (by omega));have HZ2:Hid (bU (vf row t)+1<=4000000000000):=lH (tN.o i t row yD rE.o ht);have HZ3:Hid (bU (vf R t)+2<=8000000000000):=lH (HPD.o t ht)
                clear hh2 xJ kD hh3 hx3 pV
                go_upto_region 26 with fail
                refine aJ (S:=fun w'=>Below w11.heap.size w11 w') 23 _ (by kernel_rfl) (by kernel_rfl) rfl (aD bR) (fun hHeld=>?_);simp only [lA,List.take_zero];refine aL 0 rfl ?_;refine aL 1 rfl ?_;refine aL 2 rfl ?_;refine aL 3 rfl ?_;refine aL 4 rfl ?_;refine aL 5 rfl ?_;refine aL 6 rfl ?_;refine aL 7 rfl ?_;refine aL 8 rfl ?_;refine aL 9 rfl ?_;refine aL 10 rfl ?_;refine aL 11 rfl ?_;refine aL 12 rfl ?_;refine aL 13 rfl ?_;refine aL 14 rfl ?_;refine aL 15 rfl ?_;refine aL 16 rfl ?_;refine aL 17 rfl ?_;refine aL 18 rfl ?_;refine aL 19 rfl ?_;refine aU 20 (by kernel_rfl) rfl (fun K hK=>?_);go_simp;refine (MR (u3.o.val.up bK.o) (u_.o.up bK.o) (by have:=HZ1.o;have:=HZ3.o;omega)).mono ?_;rintro e w12 ⟨uQ,v12,rfl,h12⟩;have vI:=lH (bK.o.tm uQ);have H12:=lH h12;clear uQ h12;go_simp
                refine hK.out _ _ ?_ (fun hHeld=>?_)
                ·exact vI.o
                clear hK K
                try simp only [Act.put,bP,bO,bN]
                refine aU 21 (by kernel_rfl) rfl (fun K hK=>?_);go_simp;refine (TD (qY.o.up vI.o) H12.o (by have:=HZ1.o;have:=HZ3.o;have:=HZ2.o;have:=eH (vf row k) (vf R t);omega)).mono ?_;rintro e w13 ⟨aEL,v13,rfl,h13⟩;have N9:=lH (vI.o.tm aEL);have H13:=lH h13;clear aEL h13;go_simp;refine hK.out _ _ ?_ (fun hHeld=>?_)
                ·exact N9.o
                clear hK K
                try simp only [Act.put,bP,bO,bN]
                refine aL 22 rfl ?_;refine wpAnyH_done (by kernel_rfl) ?_ _;refine aP (by rfl) ?_;clear hHeld;have aNr:=lH (yM.o.up N9.o);have aMP:=lH (u3.o.up N9.o);clear e0 e1 e2 e3 e4 l2 f2 QF d0 d1 d2 d3 d4 l3 f3 aId gl bl b0 b1 b2 b3 yM u3 bK vI N9 qY u_ H12;obtain ⟨e1,e2,e3,e4,l2,f2⟩:=aNr.o.elem2 HH2.o HTI.o dI.o
                go_wp2_with fail
                go_roundw
                case rel=>exact ⟨t+1,_,by omega,ht,aQ L0.o,by
                 have h:=aNr.o.put HH2.o HTI.o (by rw [RY.o];exact ht) H13.o;rw [List.set_set,ZP hkt (bI (by rw [JU.o];exact ht))] at h;exact h,aMP.o.put aNr.o HH2.o HTI.o (by rw [RY.o];exact ht)⟩
                case measure=>exact DM.o
              ·have aUn:t=j:=by omega
               subst aUn;have htI:¬(t:Int)<(t:Int):=by omega
               have yM:Hid (i_ B0 g w wr (.slice pA r pc) piv wS (fU M2 R r k (i+1))):=lH (by
                have h:=dJ.o;rw [show nY (vf row k) R k t row=wM (vf row k) R row from by
                 have:=aCA (f:=vf row k) (R:=R) (row:=row) (by rw [vE.o,JU.o]) HRZ.o;rw [JU.o] at this;exact this,SR.o] at h
                exact h)
               obtain ⟨ra2,wT,c,-⟩:=dJ.o.own.get HTI.o;rw [RY.o] at c;have gl:=dJ.o.own.top.lt;clear wT
               go_wp2_with fail
               go_roundw
               case rel=>exact ⟨i+1,wS,hi,aQ wJ.o,yM.o⟩
               case measure=>exact m6.o
          ·have aMi:i=n:=by omega
           subst aMi;have QI:¬(i:Int)<(i:Int):=by omega
           have p_:Hid (i_ B0 g w wr (.slice pA r pc) piv wS (eI L r p k)):=lH (by rw [<-HPE.o];exact dJ.o);have NU:Hid (aIS M j b cols (k+1) (eI L r p k) (piv++[k])):=lH (by
            have cP:nE L piv.length k≠L.length:=by rw [R2.o,HPV.o,AQ.o];omega
            have aPA:piv.length<L.length:=by rw [R2.o,AQ.o];exact CC
            have h1:=gR.o.ok.step (by omega) aPA cP;rw [R2.o,HPV.o] at h1;refine ⟨h1,?_,?_⟩
            ·rw [Nat.pow_succ,Nat.mul_comm (4^k) 4,Nat.mul_assoc]
             exact aFk gR.o.bd gR.o.ok.wid HQR.o HQ.o (by omega)
            ·have h:=gR.o.go
             rw [show cols-k=(cols-(k+1))+1 from by omega,TK (p:=p) aPA (by rw [R2.o];exact HPV.o) (by rw [AQ.o];omega),R2.o] at h;exact h)
           have HPO:Hid (bJ rD wr B0 3 1 (.slice pA r pc) r (eW piv)):=lH (by have h:=p_.o.pv;rw [R2.o] at h;exact h);have EY:=p_.o.le;clear dJ
           go_upto_region 28 with fail
           go_wp2_with (at_builtin;refine qA (S:=rD) rfl (.tmp 168) (.tmp 170) _ rfl B0 3 i0 _ 1 8 Tryz.underlying30 DN.o AR.o J0.o JZ.o rfl (by omega) Y_ (.slice pA r pc) r (eW piv) rfl HPO.o rfl rfl ?k1 ?k2 ?k3 EY ?_)
           case k1=>simp [Value.oneCell',rD]
           case k2=>simp only [maxLen];omega
           case k3=>omega
           intro v' w9 bF hk9 b_;have L2:Hid (i_ B0 g w w9 v' (piv++[k]) wS (eI L r p k)):=lH (by
            have gE:Below wr.heap.size wr (wr.alloc (.cells #[.int .i64 (k:Int)] 3)):=bA;refine ⟨(p_.o.own.up gE).keepsI hk9,?_,(p_.o.low.trans (gE.mono EY)).trans hk9.low⟩;rw [iC,List.length_singleton,R2.o];unfold eW;rw [List.map_append];exact bF)
           clear bF hk9 b_ p_ HPO EY
           go_wp2_with fail
           go_roundw
           case rel=>exact ⟨k+1,_,_,wS,aW,aQ eN.o,NU.o,L2.o⟩
           case measure=>exact iL.o
     ·have aUC:p=n:=by omega
      subst aUC;have hpI:¬(p:Int)<(p:Int):=by omega
      have HPV:Hid (nE L piv.length k=L.length):=lH (aC9 (by rw [AQ.o,R2.o];exact hrp) (fun i b h1 h2=>HZ.o i b h1 (by rw [<-R2.o];exact h2) (by rw [<-AQ.o];exact (dP.1 h1).1)));have NU:Hid (aIS M N b cols (k+1) L piv):=lH ⟨gR.o.ok.skip HPV.o,gR.o.bd.mono (MK (Nat.le_succ k) b),by
       have h:=gR.o.go;rw [show cols-k=(cols-(k+1))+1 from by omega,TL (by rw [AQ.o,R2.o];exact CC) HPV.o] at h;exact h⟩
      go_wp2_with fail
      go_roundw
      case rel=>exact ⟨k+1,L,piv,hs,aW,aQ eN.o,NU.o,dJ.o⟩
      case measure=>exact iL.o
   ·have qJ:¬(piv.length:Int)<(n:Int):=by omega
    have WJ:Hid (lD M cols=(L,piv)):=lH (by rw [<-gR.o.go];exact TM (by rw [AQ.o];exact CC));generalize hr:piv.length=r at *;have R2:=lH hr;clear hr
    go_wp2_with fail
    go_ret2;refine ⟨by rw [dB.o];exact dJ.o.low,g,hs,.slice pA r pc,by rw [HL.o];rfl,?_,?_⟩
    ·rw [WJ.o,dB.o];exact dJ.o.own
    ·rw [WJ.o,dB.o];exact dJ.o.pv
  ·have fT:¬(k:Int)<(cols:Int):=by omega
   have WJ:Hid (lD M cols=(L,piv)):=lH (by
    rw [<-gR.o.go,show cols-k=0 from by omega];rfl)
   generalize hr:piv.length=r at *;have R2:=lH hr;clear hr
   go_wp2_with fail
   go_ret2;refine ⟨by rw [dB.o];exact dJ.o.low,g,hs,.slice pA r pc,by rw [HL.o];rfl,?_,?_⟩
   ·rw [WJ.o,dB.o];exact dJ.o.own
   ·rw [WJ.o,dB.o];exact dJ.o.pv
structure RT (M:List (List Rat)) (N b:Nat):Prop where
 wid:∀ a∈M,a.length=N
 bd:Bd b M
 sz:4^N*b<=4000000000000
 len:M.length<=1000000
 n:N<=1000000
theorem aIC {q:List Rat} {n k:Nat} (hq:q.length=n):(q++List.replicate n (0:Rat)).set (n+k) 1=q++pB n k:=by
 unfold pB;rw [List.set_append_right _ _ (by omega),hq];congr 2
 omega
theorem aGZ {n i:Nat}:∀ x∈pB n i,bU x+1<=3:=fun x hx=>by
 have:x=0\/x=1:=by
  unfold pB at hx;rcases List.mem_or_eq_of_mem_set hx with h | h
  ·exact .inl (List.mem_replicate.1 h).2
  ·exact .inr h
 rcases this with h | h<;>rw [h]<;>decide+kernel
theorem YG {M:List (List Rat)} {b:Nat} (h:Bd b M) (hb:3<=b):Bd b (gN M):=fun a ha x hx=>by
 obtain ⟨i,hi⟩:=List.mem_iff_getElem?.1 ha;obtain ⟨row,hr⟩:∃ row,M[i]?=some row:=eO (by have:=(dP.1 hi).1;rwa [g_] at this);rw [wE hr] at hi;injection hi with hi;rw [<-hi] at hx;rcases List.mem_append.1 hx with hx | hx
 ·exact h row (cO hr) x hx
 ·exact cV (aGZ x hx) hb
section
variable {w w':Wo} {base g:Nat} {hs:List Mh} {L:List (List Rat)}
theorem iY.mat (o:iY w base g hs L):i_ base g w w (.slice none 0 0) [] hs L:=⟨o,dO _ _ _ _ _,bR⟩
end
structure EH (w:Wo) (base g n k:Nat) (hs:List Hd) (L:List (List Rat)):Prop where
 top:aG w g 93 (hs.map Hd.val).toArray
 len:hs.length=L.length
 gb:base<=g
 row:∀ (i:Nat) (h:Hd) (q:List Rat),hs[i]?=some h->L[i]?=some q->iF w w.heap.size h.A h.n (if i<k then q.drop n else q)/\h.n<=h.c/\h.c<=maxLen/\(0<h.n->∃ b off,h.A=some ⟨b,off,none⟩/\b≠g)
section
variable {w w':Wo} {base g n k:Nat} {hs:List Hd} {L:List (List Rat)}
theorem iY.cut {ms:List Mh} (o:iY w base g ms L):EH w base g n 0 (ms.map fun h=>⟨h.A,h.vs.length,h.c⟩) L:=by
 refine ⟨?_,by rw [lB,o.len],o.gb,fun i h q hh hq=>?_⟩
 ·rw [List.map_map];exact o.top
 ·rw [kI] at hh
  obtain ⟨m,hm,rfl⟩:=Option.map_eq_some_iff.1 hh;have r:=o.row i m q hm hq;refine ⟨?_,r.cap,r.cm,fun h0=>?_⟩
  ·rw [if_neg (by omega)]
   have:=r.rd;rwa [<-r.len] at this
  ·obtain ⟨h1,h2,h3,_⟩:=r.lies (by rw [<-r.len];exact h0)
   exact ⟨m.g,0,h1,h3⟩
theorem EH.up (o:EH w base g n k hs L) (hb:Below w.heap.size w w'):EH w' base g n k hs L:=
 ⟨o.top.bl hb,o.len,o.gb,fun i h q hh hq=>by
  obtain ⟨h1,h2,h3,h4⟩:=o.row i h q hh hq;exact ⟨(h1.below hb lR).more hb.size,h2,h3,h4⟩⟩
theorem EH.get (o:EH w base g n k hs L) {i:Nat} {q:List Rat} (hq:L[i]?=some q):∃ h:Hd,hs[i]?=some h/\w.cell? ⟨g,i,none⟩=some (.slice h.A h.n h.c):=by
 obtain ⟨h,hh⟩:∃ h,hs[i]?=some h:=eO (by rw [o.len];exact (dP.1 hq).1);refine ⟨h,hh,?_⟩;rw [o.top.cell,List.getElem?_toArray,kI,hh];rfl
theorem iF.drop {w:Wo} {B m n b off:Nat} {q:List Rat} (h:iF w B (some ⟨b,off,none⟩) m q) (hn:n<=m):iF w B (some ⟨b,off+n*4,none⟩) (m-n) (q.drop n):=by
 obtain ⟨vs,h1,h2,h3,h4⟩:=h;refine ⟨vs.drop n,by rw [EI,h1],by rw [EI,h2],⟨by rw [d9,EI,h1],fun h0=>?_⟩,fun i x v hx hv=>?_⟩
 ·obtain ⟨b',off',e,aW,hc⟩:=h3.2 (by omega)
  injection e with e;injection e with e1 e2;subst e1;subst e2;refine ⟨b,off+n*4,rfl,aW,fun j u hu=>?_⟩;have hd:fS vs=fS (vs.take n)++fS (vs.drop n):=by
   unfold fS;rw [<-List.flatMap_append,List.take_append_drop]
  have hu2:(fS vs)[n*4+j]?=some u:=by
   rw [hd,AZ (by rw [d9,jP,h1];omega),d9,jP,h1,show n*4+j-min n m*4=j from by omega];exact hu
  have:=hc _ u hu2;rwa [<-Nat.add_assoc] at this
 ·rw [List.getElem?_drop] at hx hv
  exact h4 _ _ _ hx hv
theorem EH.step (o:EH w base g n k hs L) {h h2:Hd} {q:List Rat} (hh:hs[k]?=some h) (hq:L[k]?=some q) (hr:iF w w.heap.size h2.A h2.n (q.drop n)) (h1:h2.n<=h2.c) (h3:h2.c<=maxLen) (h4:0<h2.n->∃ b off,h2.A=some ⟨b,off,none⟩/\b≠g):EH (w.setCell ⟨g,k,none⟩ (.slice h2.A h2.n h2.c)) base g n (k+1) (hs.set k h2) L:=by
 have U5:=(dP.1 hh).1;have jY:∀ {A:OA} {m:Nat} {p:List Rat},iF w w.heap.size A m p->(0<m->∃ b off,A=some ⟨b,off,none⟩/\b≠g)->iF (w.setCell ⟨g,k,none⟩ (.slice h2.A h2.n h2.c)) (w.setCell ⟨g,k,none⟩ (.slice h2.A h2.n h2.c)).heap.size A m p:=fun {A m p} H hA=>by
  obtain ⟨vs,a1,a2,a3,a4⟩:=H;refine ⟨vs,a1,a2,⟨a3.1,fun hm=>?_⟩,fun i x v hx hv=>?_⟩
  ·obtain ⟨b,off,e,aW,hc⟩:=a3.2 hm
   obtain ⟨b',off',e',cP⟩:=hA hm;rw [e] at e';injection e' with e';injection e' with e1 e2;subst e1;refine ⟨b,off,e,by simpa [World.setCell] using aW,fun j u hu=>?_⟩;rw [World.cell?_setCell_other _ _ _ _ (fun e=>cP (by injection e with e;exact e.symm))];exact hc j u hu
  ·have h0:dE w w.heap.size x v.b1 v.A v.n v.c v.b2 v.A2 v.m v.d:=a4 i x v hx hv
   refine dE.keep h0 (v:=h.val) ?_ (fun a b e=>by simp [Hd.val] at e) _;rw [o.top.cell,List.getElem?_toArray,kI,hh];rfl
 refine ⟨?_,by rw [lF,o.len],o.gb,fun i z p hz hp=>?_⟩
 ·have:=o.top.set_ k (.slice h2.A h2.n h2.c)
  rw [List.map_set];simpa [Hd.val] using this
 ·rw [List.getElem?_set] at hz
  by_cases zZ:k=i
  ·subst zZ
   rw [if_pos rfl,if_pos U5] at hz;injection hz with hz;subst hz;rw [hq] at hp;injection hp with hp;subst hp;refine ⟨?_,h1,h3,h4⟩;rw [if_pos (Nat.lt_succ_self _)];exact jY hr h4
  ·rw [if_neg zZ] at hz
   obtain ⟨a1,a2,a3,a4⟩:=o.row i z p hz hp;refine ⟨?_,a2,a3,a4⟩;have e:(if i<k+1 then p.drop n else p)=if i<k then p.drop n else p:=by
    by_cases aW:i<k
    ·rw [if_pos aW,if_pos (by omega)]
    ·rw [if_neg aW,if_neg (by omega)]
   rw [e];exact jY a1 a4
theorem EH.rd (o:EH w base g n L.length hs L):jZ w w.heap.size (some ⟨g,0,none⟩) L.length (L.map (List.drop n)):=by
 refine ⟨hs,o.len,lB _,⟨by simp [o.len],fun _=>⟨g,0,rfl,o.top.lt,fun j u hu=>?_⟩⟩,fun i h q hh hq=>?_⟩
 ·rw [Nat.zero_add,o.top.cell j,List.getElem?_toArray]
  exact hu
 ·rw [kI] at hq
  obtain ⟨p,hp,rfl⟩:=Option.map_eq_some_iff.1 hq;obtain ⟨a1,a2,a3,_⟩:=o.row i h p hh hp;rw [if_pos (dP.1 hp).1] at a1;exact ⟨a1,a2,a3⟩
end
def aMJ (M:List (List Rat)) (w:Wo) (e:Ending) (w':Wo):Prop:=Below w.heap.size w w'/\(((lD (gN M) M.length).2.length<M.length/\e=.returned (.tuple #[.slice none 0 0,.bool false]))\/
 (¬(lD (gN M) M.length).2.length<M.length/\∃ g,e=.returned (.tuple #[.slice (some ⟨g,0,none⟩) M.length M.length,.bool true])/\w.heap.size<=g/\jZ w' w'.heap.size (some ⟨g,0,none⟩) M.length ((lD (gN M) M.length).1.map (List.drop M.length))))
theorem aCc {w:Wo} {g n:Nat} {v:Rv} (hb:aG w g 115 (fS (List.replicate n v)).toArray):Rd w w.heap.size 4 (some ⟨g,0,none⟩) n (fS (List.replicate n v)):=
 ⟨by rw [d9,o3],fun _=>⟨g,0,rfl,hb.lt,fun j u hu=>by rw [Nat.zero_add,hb.cell j];simpa using hu⟩⟩
theorem aCV {w:Wo} {n:Nat} {v:Rv} {q:Rat} (h:dL w w.heap.size q v):kH w (List.replicate n v) (List.replicate n q):=fun i p x hp hx=>by
 rw [List.getElem?_replicate] at hp hx
 split at hp
 ·rename_i hi
  rw [if_pos hi] at hx;injection hp with hp;injection hx with hx;subst hp;subst hx;exact h
 ·cases hp
theorem kH.app {w:Wo} {vs us:List Rv} {ps qs:List Rat} (h:kH w vs ps) (h2:kH w us qs) (hl:vs.length=ps.length):kH w (vs++us) (ps++qs):=fun i q v hq hv=>by
 by_cases hi:i<ps.length
 ·rw [xQ hi] at hq
  rw [xQ (by omega)] at hv;exact h i q v hq hv
 ·rw [AZ (by omega)] at hq
  rw [AZ (by omega),hl] at hv;exact h2 _ q v hq hv
theorem aHn (a b:List Rv):fS (a++b)=fS a++fS b:=by unfold fS;rw [List.flatMap_append]
theorem KU (A:OA) (n c b:Nat) (M:List (List Rat)) (w:Wo) (hR:jZ w w.heap.size A n M) (hn:n<=1000) (hw:∀ a∈M,a.length=n) (CG:Bd b M) (cR:3<=b) (gW:4^n*b<=4000000000000) :
    Calls Tryz.prog 121 #[.slice A n c] w (aMJ M w):=by
 have HR:=lH hR;have HL:=lH hR.len;have HWD:=lH hw;have HEW:Hid (∀ a∈gN M,a.length=n+n):=lH (by have h:=hR.len;have:=uU (M:=M) (by rw [h];exact hw);rwa [h] at this);have HEB:=lH (YG CG cR);have dW:=lH gW;obtain ⟨i0,kC,oE,kK,lQ⟩:=rN;have DN:=lH kC;have AR:=lH oE;have J0:=lH kK;have JZ:=lH lQ;clear hR hw kC oE kK lQ CG cR gW;have tK:∀ w:World,(Instr.makeSlice 92 (.int .i64 (n:Int)) (.int .i64 (n:Int))).run Tryz.prog w=.ok (.slice (some ⟨w.heap.size,0,none⟩) n n) (w.alloc (.cells (fC n) 93)):=fun w=>v_ n (by omega) w;have HK:=lH ((Below.refl w.heap.size w).alloc lR (.cells (fC n) 93));have HG:=lH (aG.new w 93 (fC n));go_enter Tryz.func121,Tryz.ntmps121
 go_wp2_with fail
 clear tK;generalize w.alloc (.cells (fC n) 93)=W at *;have HO:=lH (vV HG.o lR);generalize hg:w.heap.size=g at *;have nM:=lH hg;clear hg HG
 go_loopw [16] (fun v16 wr=>∃ (k:Nat) (hs:List Mh),k<=n/\v16=.int .i64 k/\Below g w wr/\iY wr g g hs ((gN M).take k++List.replicate (n-k) [])) (fun v16 _=>n-(intOf v16).toNat)
 case atStart=>exact ⟨0,_,by omega,rfl,HK.o,by rw [List.take_zero,List.nil_append,Nat.sub_zero];exact HO.o⟩
 case round=>
  clear HK HO;obtain ⟨k,hs,hk,rfl,hb,ho⟩:=hrel;have HK:=lH hb;have HO:=lH ho;clear hb ho
  by_cases aW:k<n
  ·obtain ⟨q,hq⟩:∃ q,M[k]?=some q:=eO (by have:=HL.o;omega)
   obtain ⟨b0,o,hA,hb⟩:=(HR.o.below HK.o (by have:=nM.o;omega)).form (by omega);subst hA;obtain ⟨h,hc,hrq,hh1,hh2⟩:=(HR.o.below HK.o (by have:=nM.o;omega)).at_ hq;have tW:Hid (g<wr.heap.size):=lH HO.o.top.lt;have HRQ:=lH (hrq.more (B':=wr.heap.size) (by have:=nM.o;have:=tW.o;omega));have mH:Hid (q.length=n):=lH (HWD.o q (cO hq));have HXQ:=lH (wE hq);rw [HL.o] at HXQ;have HF:Hid (((gN M).take k++List.replicate (n-k) []).set k (q++pB n k)=(gN M).take (k+1)++List.replicate (n-(k+1)) []):=lH (GZ (by rw [g_,HL.o]) HXQ.o);have fT:(k:Int)<(n:Int):=by omega
   have eN:=lN k;have iL:Hid (n-(k+1)<n-k):=lH (by omega);have qL:b0<wr.heap.size:=by have:=HK.o.size;have:=nM.o;omega
   obtain ⟨vs,mJ,kD,pV,tY⟩:=KF HRQ.o;obtain ⟨hA0,nO,JK⟩:=h;simp only at hc mJ kD pV tY hh1 hh2;have aUN:nO=n:=by have:=mH.o;omega
   subst aUN;have mZ:=lH mJ;have u_:=lH pV;have RX:=lH tY;clear mJ kD pV tY hq hrq hb HR
   go_wp2_with (at_builtin;refine t8 (S:=oX) rfl (.const (.slice none 0 0)) (.tmp 24) _ rfl g 115 i0 _ 4 64 Tryz.underlying93 DN.o AR.o J0.o JZ.o rfl (by omega) xP (.slice none 0 0) 0 [] rfl (dO _ _ _ _ _) hA0 nO JK (fS vs) rfl u_.o (y_ vs) ?k1 ?k2 ?k3 ?_)
   case k1=>simp only [maxLen];omega
   case k2=>omega
   case k3=>have:=tW.o;omega
   intro v' w6 bF hkeep fQ aAx b_;have fV:=lH fQ;have aR8:=lH aAx;clear bF hkeep fQ aAx b_ hc
   go_wp2_with fail
   refine (kT nO w6 hn).mono ?_;rintro e w7 ⟨gY,gz,vz,rfl,hgz,M5,hvz⟩;have iM:=lH gY;have aR7:=lH (aR8.o.keep gY);have HZR:=lH (aCc M5);have HVZ:=lH hvz;have HV7:Hid (kH w7 vs q):=lH (kH.up (w:=w6) (kH.up (w:=wr) RX.o fV.o) gY);have HBS:Hid (wr.heap.size<=w7.heap.size):=lH (cV fV.o.size gY.size);clear gY M5 hvz hgz aR8
   go_wp2_with (at_builtin;refine t8 (S:=oX) rfl (.tmp 25) (.tmp 27) _ rfl wr.heap.size 115 i0 _ 4 64 Tryz.underlying93 DN.o AR.o J0.o JZ.o rfl (by omega) xP v' nO (fS vs) rfl aR7.o (some ⟨gz,0,none⟩) nO nO (fS (List.replicate nO vz)) rfl HZR.o (y_ _) ?k1 ?k2 ?k3 ?_)
   case k1=>simp only [maxLen];omega
   case k2=>omega
   case k3=>exact HBS.o
   intro v2 w8 hown8 hkeep8 hnil8 hblk8;have dF:Hid (Below wr.heap.size wr w8):=lH (fV.o.trans ((iM.o.mono fV.o.size).trans hkeep8.low));have HOQ:Hid (fH w8 wr.heap.size v2 (vs++List.replicate nO vz) (q++List.replicate nO 0)):=lH (by
    refine ⟨?_,?_,?_⟩
    ·rw [iC,o3,mZ.o,aHn];exact hown8
    ·rw [iC,iC,o3,o3,mZ.o,mH.o]
    ·refine kH.app (fun i p x hp hx=>?_) (aCV (dL.keeps HVZ.o hkeep8)) (by rw [mZ.o,mH.o])
     exact dL.keeps (HV7.o i p x hp hx) hkeep8)
   obtain ⟨h2,hv,hvs,iH⟩:=PU (w':=w8) (g:=g) HOQ.o tW.o;subst hv;have rE:=lH (iH.mono (base':=g) (rC tW.o));have fZ:=lH (HK.o.trans (dF.o.mono (rC tW.o)));have oY:=lH (HO.o.up dF.o);have SZ:Hid (∀ j (h':Mh),j≠k->hs[j]?=some h'->0<h'.vs.length->0<h2.vs.length->h'.g≠h2.g):=lH fun j h' _ hh l1 l2=>by
    have h3:=HO.o.lt hh l1;have h4:=(iH.lies (by rw [<-iH.len];exact l2)).2.1;omega
   clear hown8 hkeep8 hnil8 hblk8 hvs iH HK HO HOQ HV7 HVZ HZR aR7 fV iM u_ RX HBS;have aNa:(q++List.replicate nO (0:Rat)).length=nO+nO:=by rw [iC,o3,mH.o]
   have aI9:=lH aNa;have gl:=oY.o.top.lt;have gf:=oY.o.top.frozen;have JX:Hid (k<(((gN M).take k++List.replicate (nO-k) []):List (List Rat)).length):=lH (by simp;have:=HL.o;have:=g_ M;omega);obtain ⟨gv,gc⟩:∃ gv,w8.cell? ⟨g,k,none⟩=some gv:=by
    rw [oY.o.top.cell];exact ⟨_,Array.getElem?_eq_getElem (by rw [List.size_toArray,lB,oY.o.len];exact JX.o)⟩
   have DL:=lH (oY.o.setRow JX.o rE.o SZ.o);have cQ:Hid (Below g w (w8.setCell ⟨g,k,none⟩ (.slice h2.A (q++List.replicate nO (0:Rat)).length h2.c))):=lH (fZ.o.setCell lR _);rw [aNa] at DL cQ ⊢;clear aNa
   go_upto_region 7 with fail
   clear gl gf gc;generalize w8.setCell ⟨g,k,none⟩ (.slice h2.A (nO+nO) h2.c)=w9 at *;have HQ9:Hid ((((gN M).take k++List.replicate (nO-k) []).set k (q++List.replicate nO 0))[k]?=some (q++List.replicate nO 0)):=lH (by rw [List.getElem?_set,if_pos rfl,if_pos JX.o]);have iK:Hid ((((gN M).take k++List.replicate (nO-k) []).set k (q++List.replicate nO 0)).set k ((q++List.replicate nO 0).set (nO+k) 1)=(gN M).take (k+1)++List.replicate (nO-(k+1)) []):=lH (by rw [List.set_set,aIC mH.o,HF.o]);generalize (((gN M).take k++List.replicate (nO-k) []).set k (q++List.replicate nO 0))=L9 at *;generalize q++List.replicate nO (0:Rat)=q9 at *;generalize hs.set k h2=UV at *;obtain ⟨gg,cc,vs9,x9,hh9,c,hx9,c0,c1,c2,c3,KZ,l1,f1,cP⟩:=DL.o.mat.elem (i:=k) (j:=nO+k) HQ9.o (by rw [aI9.o];omega);rw [aI9.o] at c;have HH:=lH hh9;have HX:=lH hx9;have gl:=DL.o.top.lt
   have bK:=lH (aD (Below.refl w9.heap.size w9));clear hh9 hx9 KZ HF HXQ rE SZ JX fZ oY mZ dF;obtain ⟨m,hm⟩:∃ m:Nat,m=nO+k:=⟨_,rfl⟩;rw [<-hm] at c0 c1 c2 c3 HX iK;have HM:=lH hm;have hw1:IntKind.i64.wrap (m:Int)=(m:Int):=IntWalk.i64_in _ (by omega);have hw2:(nO:Int)+(k:Int)=(m:Int):=by omega
   have sP:m<nO+nO:=by omega
   have hm3:(m:Int)<((nO+nO:Nat):Int):=by omega
   have kF:=lZ k
   have hm0:=lZ m
   have hmn:=kU m;generalize nO+nO=n2 at *;clear hm;refine aJ (S:=fun w'=>Below w9.heap.size w9 w') 9 _ (by kernel_rfl) (by kernel_rfl) rfl (aD bR) (fun hHeld=>?_);simp only [lA,List.take_zero];refine aL 0 rfl ?_;refine aL 1 rfl ?_;refine aL 2 rfl ?_;refine aL 3 rfl ?_;refine aL 4 rfl ?_;refine aL 5 rfl ?_;refine aL 6 rfl ?_;refine aU 7 (by kernel_rfl) rfl (fun K hK=>?_);go_simp;refine (nT 1 w9.drew (by decide) (by decide)).mono ?_;rintro e w10 ⟨qX,v10,rfl,h10⟩;have AU:Hid (Below w9.heap.size w9 w10):=lH (bK.o.trans qX);have WP:=lH h10;clear qX h10;go_simp;refine hK.out _ _ ?_ (fun hHeld=>?_)
   ·exact AU.o
   clear hK K
   try simp only [Act.put,bP,bO,bN]
   refine aL 8 rfl ?_;refine wpAnyH_done (by kernel_rfl) ?_ _;refine aP (by rfl) ?_;clear hHeld;have aNn:=lH (DL.o.up AU.o);have rB:=lH (cQ.o.trans (AU.o.mono (by have:=cQ.o.size;have:=nM.o;omega)));clear c c0 c1 c2 c3 l1 f1 cP gl DL cQ;obtain ⟨c0,c1,c2,c3,l1,f1⟩:=aNn.o.mat.elem2 HH.o HQ9.o HX.o
   go_wp2_with fail
   go_roundw
   case rel=>exact ⟨k+1,_,aW,aQ eN.o,kS rB.o (by
       obtain ⟨h1,h2,-⟩:=(aNn.o.row k _ q9 HH.o HQ9.o).lies (by rw [aI9.o];omega);exact h2),by
       rw [<-iK.o];exact aNn.o.put HH.o HQ9.o (by rw [aI9.o];exact sP) WP.o⟩
   case measure=>exact iL.o
  ·have lS:k=n:=by omega
   subst lS;have fT:¬(k:Int)<(k:Int):=by omega
   have HOX:Hid (iY wr g g hs (gN M)):=lH (by
    have h:=HO.o;rw [Nat.sub_self,List.replicate_zero,List.append_nil,nW (by rw [g_,HL.o];exact lR)] at h;exact h)
   have HRX:Hid (jZ wr wr.heap.size (some ⟨g,0,none⟩) k (gN M)):=lH (by have h:=HOX.o.rd;rwa [g_,HL.o] at h);have LX:=lH (PE (some ⟨g,0,none⟩) k k k (k+k) b (gN M) wr HRX.o (by omega) HEW.o (by omega) (by omega) HEB.o dW.o);have cH:=lH (zH (M:=gN M) (N:=k+k) (cols:=k) HEW.o (by omega));clear HRX HO HEB dW HEW
   go_wp2_with fail
   refine LX.o.mono ?_;rintro e w2 ⟨bL,g2,yB,v,rfl,ho2,hp⟩;obtain ⟨pA,pc,hv,-,-⟩:=hp.shape;subst hv;have bW:=lH (HK.o.trans (bL.mono (by have:=HK.o.size;have:=nM.o;omega)));have N4:=lH (ho2.cut (n:=k));have HGG:Hid (g<=wr.heap.size):=lH (by have:=HK.o.size;have:=nM.o;omega);rw [show (gN M).length=k from by rw [g_,HL.o]];have IP:Hid (∀ (e:Ending) (w':Wo),Below w.heap.size w w'->(((lD (gN M) k).2.length<k/\e=.returned (.tuple #[.slice none 0 0,.bool false]))\/(¬(lD (gN M) k).2.length<k/\∃ g,e=.returned (.tuple #[.slice (some ⟨g,0,none⟩) k k,.bool true])/\w.heap.size<=g/\jZ w' w'.heap.size (some ⟨g,0,none⟩) k ((lD (gN M) k).1.map (List.drop k))))->aMJ M w e w'):=lH fun e w' h1 h2=>by
    unfold aMJ;rw [HL.o];exact ⟨h1,h2⟩
   have AQ:Hid ((lD (gN M) k).1.length=k):=lH (by rw [cH.o.len,g_,HL.o]);have SX:=lH cH.o.wid;clear bL ho2 hp LX cH HOX HK;generalize (lD (gN M) k).1=L at *;generalize (lD (gN M) k).2.length=pl at *
   by_cases CC:pl<k
   ·have aUD:(pl:Int)<(k:Int):=by omega
    go_wp2_with fail
    go_ret2;exact IP.o _ _ (by rw [nM.o];exact bW.o) (.inl ⟨CC,rfl⟩)
   ·have aUD:¬(pl:Int)<(k:Int):=by omega
    go_wp2_with fail
    generalize yB.map (fun h=>(⟨h.A,h.vs.length,h.c⟩:Hd))=hs3 at *
    go_loopw [52] (fun v52 wq=>∃ (i:Nat) (hs:List Hd),i<=k/\v52=.int .i64 i/\Below g w wq/\EH wq wr.heap.size g2 k i hs L) (fun v52 _=>k-(intOf v52).toNat)
    case atStart=>exact ⟨0,hs3,by omega,rfl,bW.o,N4.o⟩
    case round=>
     clear bW N4;obtain ⟨i,hsi,hi,rfl,hb,hc⟩:=hrel;have HB:=lH hb;have HC:=lH hc;clear hb hc
     by_cases aW:i<k
     ·obtain ⟨q,hq⟩:∃ q,L[i]?=some q:=eO (by have:=AQ.o;omega)
      obtain ⟨h,hh,c⟩:=HC.o.get hq;obtain ⟨r1,r2,r3,r4⟩:=HC.o.row i h q hh hq;rw [if_neg (by omega)] at r1;have hhn:h.n=k+k:=by rw [<-r1.len];exact SX.o q (cO hq)
      obtain ⟨hA,hn2,M4⟩:=h;simp only at c r1 r2 r3 r4 hhn;subst hhn;obtain ⟨b2,o2,LC,QF⟩:=r4 (by omega);subst LC;have tV:=lH (r1.drop (n:=k) (by omega));have HHH:=lH hh;have HQQ:=lH hq;have gl:=HC.o.top.lt;have gf:=HC.o.top.frozen;have QI:(i:Int)<(k:Int):=by omega
      have eN:=lN i;have iL:Hid (k-(i+1)<k-i):=lH (by omega);clear r1 r4 hh hq;have kF:0<k:=by omega
      have hkc:¬M4=k:=by omega
      have hki:(k:Int)<=((k+k:Nat):Int):=by omega
      have hkz:=lZ k
      have iX:(k:Int)<=(M4:Int):=by omega
      have a2P:((k+k:Nat):Int)<=(M4:Int):=by omega
      have hkt:=kU k;rw [show k+k-k=k from by omega] at tV;have sC:Hid (k<=M4-k/\M4-k<=maxLen):=lH (by omega);have mU:k+k-k=k:=by omega
      go_wp2_with fail
      go_roundw
      case rel=>exact ⟨i+1,_,aW,aQ eN.o,HB.o.setCell (cV HGG.o HC.o.gb) _,HC.o.step (h2:=⟨some ⟨b2,o2+k*4,none⟩,k,M4-k⟩) HHH.o HQQ.o tV.o sC.o.1 sC.o.2 (fun _=>⟨_,_,rfl,QF⟩)⟩
      case measure=>exact iL.o
     ·have SQ:i=k:=by omega
      subst SQ;have QI:¬(i:Int)<(i:Int):=by omega
      go_wp2_with fail
      go_ret2;exact IP.o _ _ (by rw [nM.o];exact HB.o) (.inr ⟨CC,g2,rfl,by rw [nM.o];exact cV HGG.o HC.o.gb,by have h:=HC.o;rw [<-AQ.o] at h;have h2:=h.rd;rwa [AQ.o] at h2⟩)
end
