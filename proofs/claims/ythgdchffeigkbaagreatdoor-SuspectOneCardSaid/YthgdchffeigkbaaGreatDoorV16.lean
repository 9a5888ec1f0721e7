import Derived.Test.YthgdchffeigkbaaGreatDoorV10
import Derived.Test.YthgdchffeigkbaaGreatDoorV14
set_option linter.unusedVariables false
set_option linter.unusedSimpArgs false
namespace Go.Proofs.YthgdchffeigkbaaGreatDoor
set_option maxHeartbeats 8000000
set_option maxRecDepth 100000
variable {A0 : OA} {B0 K base e g i j k n t u : Nat} {L M : List (List Rat)} {cs : Array Value} {free piv : List Nat} {q : Rat} {v : Value} {w w' w0 wr : World} {x : bO}
section
open Go.ChangeShapes Go.WideShapes Go.ChangeAt Go.RowKit
attribute [local go_sem ↓] aE
attribute [local go_sem] aJ aI aM aR
def vL(u:Value):Prop:=∃x,u=.int .i64 x
theorem dD.keepsI{v:Rv}(h:dD w w.heap.size q v)(k:d8 vL base e w w'):dD w' w'.heap.size q v:=by
 have key:∀{A:OA}{n:Nat}{l:List Nat},jU w w.heap.size A n l->jU w' w'.heap.size A n l:=fun h=>⟨h.1,fun hn=>by
  obtain⟨b,off,e,aU,hc⟩:=h.2 hn;refine⟨b,off,e,jE aU k.size,fun j u hu=>k.cell _ _ (hc j u hu) ?_⟩;obtain⟨x,rfl⟩:=N_ hu;rintro⟨y,hy⟩;cases hy⟩
 exact⟨⟨h.num.eb,h.num.en,key h.num.rd,h.num.nc,h.num.cm⟩,⟨h.den.eb,h.den.en,key h.den.rd,h.den.nc,h.den.cm⟩⟩
theorem kB.keepsI{base':Nat}{hs:List Mh}(o:kB w base g hs M)(k:d8 vL base' 3 w w'):kB w' base g hs M:=
 ⟨k.blk _ _ _ o.top (by decide),o.len,o.gb,fun i h q hh hq=>by
  have r:=o.row i h q hh hq;refine⟨r.len,r.cap,r.cm,fun a p v hp hv=>(r.ok a p v hp hv).keepsI k,fun h0=>?_⟩;obtain⟨h1,h2,h3,cs,h4,h5⟩:=r.lies h0;exact⟨h1,h2,h3,cs,k.blk _ _ _ h4 (by decide),h5⟩,o.dis⟩
theorem aG.apart{g' t':Nat}{cs':Array Value}(h:aG w g t cs)(h':aG w g' t' cs')(ht:t≠t'):g≠g':=by
 rintro rfl;have h2:some (Obj.cells cs t (0,0))=some (Obj.cells cs' t' (0,0)):=h.symm.trans h';injection h2 with h2;injection h2 with _ h2;exact ht h2
theorem bK.far{S:Value->Prop}{size:Nat}{u:Value}{xs:List Value}(h:bK S w base e size v n xs)(hb:aG w g t cs)(ht:e≠t):bK S (w.setCell ⟨g,i,none⟩ u) base e size v n xs:=by
 refine⟨h.1,?_⟩;rcases h.2 with h1 | ⟨b,cap,cur,h1,h2,h3,h4⟩
 ·exact .inl h1
 ·exact .inr ⟨b,cap,cur,h1,h2,h3.far (h3.apart hb ht) u,h4⟩
theorem bK.far4{S:Value->Prop}{size:Nat}{x:Rv}{xs:List Value}(h:bK S w base e size v n xs)(hb:aG w g t cs)(ht:e≠t):bK S (eO w g i x) base e size v n xs:=by
 have b1:=hb.set_ (i*4) (.bool x.b1);have b2:=b1.set_ (i*4+1) (.slice x.A x.n x.c);have b3:=b2.set_ (i*4+2) (.bool x.b2);exact(((h.far hb ht).far b1 ht).far b2 ht).far b3 ht
def gM(l:List Nat):List Value:=l.map fun(x:Nat)=>Value.int .i64 (x:Int)
def aZj(M:List (List Rat))(cols:Nat)(w:Wo)(e:Ending)(w':Wo):Prop:=Below w.heap.size w w'/\∃g hs v,e=.returned (.tuple #[.slice (some ⟨g,0,none⟩) M.length M.length,v])/\kB w' w.heap.size g hs (nJ M cols).1/\bK vL w' w.heap.size 3 1 v (nJ M cols).2.length (gM (nJ M cols).2)
structure kC (B0 g:Nat) (w0 wr:Wo) (v:Value) (piv:List Nat) (hs:List Mh) (L:List (List Rat)):Prop where
 own:kB wr B0 g hs L
 pv:bK vL wr B0 3 1 v piv.length (gM piv)
 low:Below B0 w0 wr
section
variable {B0 g:Nat} {w0 wr w':Wo} {v:Value} {piv:List Nat} {hs:List Mh} {L:List (List Rat)}
theorem kC.le(m:kC B0 g w0 wr v piv hs L):B0<=wr.heap.size:=cO m.own.gb (pJ m.own.top.lt)
theorem kC.up(m:kC B0 g w0 wr v piv hs L)(hb:Below wr.heap.size wr w'):kC B0 g w0 w' v piv hs L:=⟨m.own.up hb,m.pv.keep hb,m.low.trans (hb.mono m.le)⟩
theorem kC.put(m:kC B0 g w0 wr v piv hs L){h:Mh}{q:List Rat}{x:Rv}{y:Rat}(hh:hs[i]?=some h)(hq:L[i]?=some q)(hj:j<q.length)(hv:dD wr wr.heap.size y x):kC B0 g w0 (eO wr h.g j x) v piv (hs.set i ⟨h.A,h.g,h.c,h.vs.set j x⟩) (L.set i (q.set j y)):=by
 obtain⟨h1,h2,h3,cs,h4,h5⟩:=(m.own.row i h q hh hq).lies (by omega);exact⟨m.own.put hh hq hj hv,m.pv.far4 h4 (by decide),jC m.low h2⟩
theorem kC.swap(m:kC B0 g w0 wr v piv hs L){r p:Nat}{a b:List Rat}{ha hb:Mh}(h1:hs[r]?=some ha)(h2:hs[p]?=some hb)(h3:L[r]?=some a)(h4:L[p]?=some b):kC B0 g w0 ((wr.setCell ⟨g,r,none⟩ (.slice hb.A b.length hb.c)).setCell ⟨g,p,none⟩ (.slice ha.A a.length ha.c)) v piv ((hs.set r hb).set p ha) ((L.set r b).set p a):=
 ⟨m.own.swap h1 h2 h3 h4,(m.pv.far m.own.top (by decide)).far (m.own.top.set_ _ _) (by decide),(m.low.setCell m.own.gb _).setCell m.own.gb _⟩
theorem kC.elem(m:kC B0 g w0 wr v piv hs L){q:List Rat}(hq:L[i]?=some q)(hj:j<q.length):∃(gg c:Nat)(vs:List Rv)(x:Rv),hs[i]?=some ⟨some ⟨gg,0,none⟩,gg,c,vs⟩/\wr.cell? ⟨g,i,none⟩=some (.slice (some ⟨gg,0,none⟩) q.length c)/\vs[j]?=some x/\
    wr.cell? ⟨gg,j*4,none⟩=some (.bool x.b1)/\wr.cell? ⟨gg,j*4+1,none⟩=some (.slice x.A x.n x.c)/\wr.cell? ⟨gg,j*4+2,none⟩=some (.bool x.b2)/\wr.cell? ⟨gg,j*4+3,none⟩=some (.slice x.A2 x.m x.d)/\dD wr wr.heap.size (vf q j) x/\gg<wr.heap.size/\(∀o,wr.frozen? ⟨gg,o,none⟩=false)/\g≠gg:=by
 obtain⟨⟨A,gg,c,vs⟩,hh,hc,hr⟩:=m.own.get hq;obtain⟨h1,h2,h3,cs,h4,h5⟩:=hr.lies (by omega);simp only at h1 hc;subst h1;obtain⟨x,hx⟩:∃x,vs[j]?=some x:=eA (by have:=hr.len;simp only at this;omega);obtain⟨c0,c1,c2,c3⟩:=h4.row_cell h5 hx;exact⟨gg,c,vs,x,hh,hc,hx,c0,c1,c2,c3,hr.ok j _ x (a_ hj) hx,h4.lt,h4.frozen,fun e=>h3 e.symm⟩
end
theorem kC.elem2{hs:List Mh}(m:kC B0 g w0 wr v piv hs L){q:List Rat}{A:OA}{gg c:Nat}{vs:List Rv}{x:Rv}(hh:hs[i]?=some ⟨A,gg,c,vs⟩)(hq:L[i]?=some q)(hx:vs[j]?=some x):wr.cell? ⟨gg,j*4,none⟩=some (.bool x.b1)/\wr.cell? ⟨gg,j*4+1,none⟩=some (.slice x.A x.n x.c)/\wr.cell? ⟨gg,j*4+2,none⟩=some (.bool x.b2)/\wr.cell? ⟨gg,j*4+3,none⟩=some (.slice x.A2 x.m x.d)/\gg<wr.heap.size/\(∀o,wr.frozen? ⟨gg,o,none⟩=false):=by
 have hr:=m.own.row i _ q hh hq;have hxl:=(dH.1 hx).1;obtain⟨h1,h2,h3,cs,h4,h5⟩:=hr.lies (by have:=hr.len;simp only at this;omega);obtain⟨c0,c1,c2,c3⟩:=h4.row_cell h5 hx;exact⟨c0,c1,c2,c3,h4.lt,h4.frozen⟩
structure DC (wr:Wo) (g gd:Nat) (hs:List Mh) (y:Rat) (x:Rv):Prop where
 blk:aG wr gd 115 #[.bool x.b1,.slice x.A x.n x.c,.bool x.b2,.slice x.A2 x.m x.d]
 val:dD wr wr.heap.size y x
 far:∀(i:Nat)(h:Mh),hs[i]?=some h->0<h.vs.length->h.g<gd
theorem DC.up{gd:Nat}{hs:List Mh}{y:Rat}{x:Rv}(b:DC wr g gd hs y x)(hb:Below wr.heap.size wr w'):DC w' g gd hs y x:=⟨b.blk.bl hb,b.val.up hb,b.far⟩
theorem DC.put{g2 gd:Nat}{hs:List Mh}{z:Rat}{x u:Rv}(b:DC wr g2 gd hs z u)(m:kC B0 g w0 wr v piv hs L){h:Mh}{q:List Rat}(hh:hs[i]?=some h)(hq:L[i]?=some q)(hj:j<q.length):DC (eO wr h.g j x) g2 gd (hs.set i ⟨h.A,h.g,h.c,h.vs.set j x⟩) z u:=by
 have hr:=m.own.row i h q hh hq;obtain⟨h1,h2,h3,cs,h4,h5⟩:=hr.lies (by omega);obtain⟨y,hy⟩:∃y,h.vs[j]?=some y:=eA (by rw[hr.len];exact hj);have aU:=b.far i h hh (by rw[hr.len];omega);refine⟨b.blk.far4 x (by omega),dD.keep4 b.val x h4 h5 hy,fun k h' hk l=>?_⟩;rw[List.getElem?_set] at hk;by_cases zB:i=k
 ·subst zB
  rw[if_pos rfl,if_pos (dH.1 hh).1] at hk;injection hk with hk;subst hk;exact aU
 ·rw[if_neg zB] at hk
  exact b.far k h' hk l
structure aKs (M:List (List Rat)) (N b cols k:Nat) (L:List (List Rat)) (piv:List Nat):Prop where
 ok:sB M L N piv k
 bd:Bd (4^k*b) L
 go:oV (cols-k) L piv k=nJ M cols
theorem MZ:(Tryz.prog.info? 3).map (fun i=>(i.zero,i.size,i.bytes))=some (some (.int .i64 0),1,8):=by kernel_rfl
theorem aDK:∀u∈(Value.int .i64 0).cells.toList,vL u:=fun u hu=>by
 have SU:u∈[Value.int .i64 0]:=hu;rw[List.mem_singleton] at SU;exact⟨0,SU⟩
theorem aEx(A:OA)(n c cols N b:Nat)(M:List (List Rat))(w:Wo)(hR:lQ w w.heap.size A n M)(hn:n<=1000000)(hw:∀a∈M,a.length=N)(hN:N<=1000000)(hc:cols<=N)(hb:Bd b M)(iV:4^cols*b<=4000000000000):Calls Tryz.prog 124 #[.slice A n c,.int .i64 (cols:Int)] w (aZj M cols w):=by
 obtain⟨HL,HW,dZ,GP⟩:=iK hR.len hw iV hb;have HCP:=lH (aOP A n c M w hR hn (fun a ha=>by rw[hw a ha];exact hN));obtain⟨i0,kA,rU,jR,kS⟩:=info_parts MZ;obtain⟨L4,E9,QF,LB⟩:=iK kA rU jR kS;clear hR hw hb iV kA rU jR kS;go_enter Tryz.func124,Tryz.ntmps124
 go_wp2_with fail
 refine HCP.o.mono ?_;clear HCP;rintro e w1 ⟨bC,g,hs,rfl,ho⟩;have bT:=lH bC;have DJ:=lH ho;clear bC ho;rw[HL.o];generalize hB0:w.heap.size=B0 at *;have dA:=lH hB0;clear hB0;have LY:Hid (aKs M N b cols 0 M []):=lH ⟨FK HW.o,by simpa using GP.o,rfl⟩;have KP:Hid (kC B0 g w w1 (.slice none 0 0) [] hs M):=lH ⟨DJ.o,eQ _ _ _ _ _,bT.o⟩;clear bT DJ
 go_wp2_with fail
 go_loopw [6,7] (fun v6 v7 wr=>∃(k:Nat) (L:List (List Rat)) (piv:List Nat) (hs:List Mh),k<=cols/\v7=.int .i64 k/\aKs M N b cols k L piv/\kC B0 g w wr v6 piv hs L) (fun _ v7 _=>cols-(intOf v7).toNat)
 case atStart=>exact⟨0,M,[],hs,Nat.zero_le _,rfl,LY.o,KP.o⟩
 case round=>
  clear LY KP hs;obtain⟨k,L,piv,hs,hk,rfl,M7,XL⟩:=hrel;have gQ:=lH M7;have dI:=lH XL;have wC:Hid (L.length=n):=lH (M7.ok.len.trans HL.o);obtain⟨pA,pc,hv,hpc,hpm⟩:=XL.pv.shape;subst hv;clear M7 XL;have fC:=lN k;have yQ:Hid (4^k*b<=4000000000000):=lH (cO (ZZ hk b) dZ.o);by_cases aU:k<cols
  ·have fY:(k:Int)<(cols:Int):=by omega
   have iI:Hid (cols-(k+1)<cols-k):=lH (by omega);by_cases yI:piv.length<n
   ·generalize hr:piv.length=r at *
    have N0:=lH hr;clear hr;have tD:(r:Int)<(n:Int):=by omega
    go_wp2_with fail
    go_loopw [9] (fun v9 wr=>∃p:Nat,r<=p/\p<=n/\v9=.int .i64 p/\(∀(i:Nat)(b:List Rat),L[i]?=some b->r<=i->i<p->vf b k=0)/\kC B0 g w wr (.slice pA r pc) piv hs L) (fun v9 _=>n-(intOf v9).toNat)
    case atStart=>exact⟨r,lR,by omega,rfl,fun i b _ h1 h2=>by omega,dI.o⟩
    case round=>
     clear dI;obtain⟨p,hrp,hpn,rfl,hz,XL⟩:=hrel;have dI:=lH XL;have HZ:=lH hz;clear XL hz;by_cases hp:p<n
     ·obtain⟨q,hq⟩:∃q,L[p]?=some q:=eA (by have:=wC.o;omega)
      have l8:Hid (q.length=N):=lH (gQ.o.ok.wid q (bV hq));obtain⟨gg,cc,vs,x,hh,c,hx,c0,c1,c2,c3,hv,l1,f1,bX⟩:=dI.o.elem (j:=k) hq (by have:=l8.o;omega);obtain⟨HQ,HH,HX,HV⟩:=iK hq hh hx hv;have hpI:(p:Int)<(n:Int):=by omega
      rw[l8.o] at c;have hkN:(k:Int)<(N:Int):=by omega
      clear hq hh hx hv;by_cases h0:vf q k=0
      ·have tS:=lN p
       have mK:Hid (n-(p+1)<n-p):=lH (by omega);have HZ1:Hid (∀(i:Nat)(b:List Rat),L[i]?=some b->r<=i->i<p+1->vf b k=0):=lH fun i b h1 h2 h3=>by
        by_cases h4:i=p
        ·subst h4
         have h5:=HQ.o;rw[h1] at h5;injection h5 with h5;subst h5;exact h0
        ·exact HZ.o i b h1 h2 (by omega)
       (go_wp2_with fail);refine(uZ HV.o).mono ?_;rw[h0];rintro e w5 ⟨rfl,fD⟩;have HM5:=lH (dI.o.up fD);clear fD c c0 c1 c2 c3 l1 f1 dI h0;(go_wp2_with fail);go_roundw
       case rel=>exact⟨p+1,by omega,hp,aO tS.o,HZ1.o,HM5.o⟩
       case measure=>exact mK.o
      ·have HSG:Hid ((vf q k).num.sign≠0):=lH (fun h=>h0 (by
        have:=Int.sign_eq_zero_iff_zero.1 h;exact Rat.num_eq_zero.1 this))
       have HPV:Hid (oW L r k=p):=lH (aI5 hrp HQ.o h0 HZ.o);have HNZ:Hid (vf q k≠0):=lH h0;clear h0;(go_wp2_with fail);refine(uZ HV.o).mono ?_;generalize (vf q k).num.sign=sg at *;rintro e w5 ⟨rfl,fD⟩;have HM5:=lH (dI.o.up fD);have hsg:(sg == 0)=false:=by have:=HSG.o;simp[this]
       have hpb:((p:Int) == (n:Int))=false:=by simp;omega
       clear fD c c0 c1 c2 c3 l1 f1 dI HZ bX;(go_wp2_with fail);obtain⟨qr,hqr⟩:∃qr,L[r]?=some qr:=eA (by have:=wC.o;omega);have vN:Hid (qr.length=N):=lH (gQ.o.ok.wid qr (bV hqr));obtain⟨⟨rA,rg,rc,rvv⟩,hhr,c1,-⟩:=HM5.o.own.get hqr;obtain⟨_,hhp,c2,-⟩:=HM5.o.own.get HQ.o;rw[HH.o] at hhp;injection hhp with hhp;subst hhp;have hsw:=HM5.o.swap hhr HH.o hqr HQ.o;rw[vN.o,l8.o] at hsw;rw[vN.o] at c1;rw[l8.o] at c2;simp only at c1 c2 hsw;obtain⟨HQR,HHR,HSW⟩:=d_ hqr hhr hsw;have gl:=HM5.o.own.top.lt;have gf:=HM5.o.own.top.frozen;obtain⟨uu,c3⟩:∃uu,(w5.setCell ⟨g,r,none⟩ (.slice (some ⟨gg,0,none⟩) N cc)).cell? ⟨g,p,none⟩=some uu:=by
        rw[(HM5.o.own.top.set_ r _).cell];exact⟨_,Array.getElem?_eq_getElem (by simp;rw[HM5.o.own.len,wC.o];exact hp)⟩
       clear hqr hhr hsw
       go_region
       clear c1 c2 c3 gl gf;generalize (w5.setCell ⟨g,r,none⟩ (.slice (some ⟨gg,0,none⟩) N cc)).setCell ⟨g,p,none⟩ (.slice rA N rc)=w6 at *;have NY:Hid ((((L.set r q).set p qr).set r (jK (vf q k) q))=dG L r p k):=lH (aD6 HQR.o HQ.o);have HSR:Hid (((L.set r q).set p qr)[r]?=some q):=lH (aM8 HQR.o HQ.o);have HL1:Hid (((L.set r q).set p qr).length=n):=lH (by rw[lS,lS,wC.o]);clear HHR HH HX HM5 HV;generalize (L.set r q).set p qr=L1 at *;generalize (hs.set r _).set p _=wZ at *;obtain⟨gg,cc,vs,x,hh,c,hx,c0,c1,c2,c3,hv,l1,f1,bX⟩:=HSW.o.elem (j:=k) HSR.o (by have:=l8.o;omega);have HV:=lH hv;have gl:=HSW.o.own.top.lt;have gf:=HSW.o.own.top.frozen;rw[l8.o] at c;clear hh hx hv;(go_upto_region 14 with fail);clear c0 c1 c2 c3 gl gf l1 f1 bX;have iA:Below w6.heap.size w6 (w6.alloc (.cells #[.bool x.b1,.slice x.A x.n x.c,.bool x.b2,.slice x.A2 x.m x.d] 115)).drew:=aK (bA);have eU:Hid (DC (w6.alloc (.cells #[.bool x.b1,.slice x.A x.n x.c,.bool x.b2,.slice x.A2 x.m x.d] 115)).drew g w6.heap.size wZ (vf q k) x):=lH ⟨(aG.new w6 _ _).drew,HV.o.up iA,fun i h hh l=>HSW.o.own.lt hh l⟩;have HM7:Hid (kC B0 g w (w6.alloc (.cells #[.bool x.b1,.slice x.A x.n x.c,.bool x.b2,.slice x.A2 x.m x.d] 115)).drew (.slice pA r pc) piv wZ (L1.set r (vU (vf q k) k k q))):=lH (by rw[X2,RU HSR.o];exact HSW.o.up iA);clear iA HSW HV;generalize (w6.alloc (.cells #[.bool x.b1,.slice x.A x.n x.c,.bool x.b2,.slice x.A2 x.m x.d] 115)).drew=w7 at *;generalize w6.heap.size=gd at *
       go_loopw [11] (fun v11 wr=>∃(j:Nat)(hs:List Mh),k<=j/\j<=N/\v11=.int .i64 j/\kC B0 g w wr (.slice pA r pc) piv hs (L1.set r (vU (vf q k) k j q))/\DC wr g gd hs (vf q k) x) (fun v11 _=>N-(intOf v11).toNat)
       case atStart=>exact⟨k,wZ,lR,by omega,rfl,HM7.o,eU.o⟩
       case round=>
        clear HM7 eU wZ;obtain⟨j,wZ,XN,hjN,rfl,XL,FU⟩:=hrel;have dI:=lH XL;have eU:=lH FU;have HRJ:Hid ((L1.set r (vU (vf q k) k j q))[r]?=some (vU (vf q k) k j q)):=lH (by rw[List.getElem?_set_self (by rw[HL1.o];exact yI)]);have HDL:Hid ((vU (vf q k) k j q).length=N):=lH (by rw[TO,l8.o]);clear XL FU;by_cases hj:j<N
        ·have XO:(j:Int)<(N:Int):=by omega
         have tS:=lN j;have mK:Hid (N-(j+1)<N-j):=lH (by omega);obtain⟨gg,cc,vs,y,hh,c,hx,c0,c1,c2,c3,hv,l1,f1,bX⟩:=dI.o.elem (j:=j) HRJ.o (by rw[HDL.o];exact hj);rw[HDL.o] at c;have gl:=dI.o.own.top.lt;obtain⟨b0,b1,b2,b3,bl⟩:=eU.o.blk.b4;have hvj:vf (vU (vf q k) k j q) j=vf q j:=fW (aKf (a_ (by rw[l8.o];exact hj)));rw[hvj] at hv;obtain⟨HY,HH,HX⟩:=d_ hv hh hx;clear hh hx hv hvj;have bM:=lH (aK (Below.refl wr.heap.size wr));(go_upto_region 16 with fail);refine kX 15 (fun hHeld=>?_);simp only[nI,List.take_zero];refine cW [0,1,2,3,4,5,6,7,8,9,10,11,12] ?_;refine bQ 13 (fun K hK=>?_);go_simp;refine(aTq (HY.o.up bM.o) (eU.o.val.up bM.o) HNZ.o (by have:=gQ.o.bd.vf HQ.o (j:=j) (by rw[l8.o];exact hj);have:=gQ.o.bd.vf HQ.o (j:=k) (by rw[l8.o];omega);have:=yQ.o;omega)).mono ?_;rintro e w8 ⟨gP,v8,rfl,h8⟩;have dR:=bW bM gP;have H8:=lH h8;clear gP h8;go_simp;refine gZ hK dR.o (fun hHeld=>?_);clear hK K;refine cW [14] ?_;refine eM ?_;clear hHeld;have tT:=lH (dI.o.up dR.o);have YL:=lH (eU.o.up dR.o);clear c c0 c1 c2 c3 l1 f1 bX gl bl b0 b1 b2 b3 dI eU;obtain⟨c0,c1,c2,c3,l1,f1⟩:=tT.o.elem2 HH.o HRJ.o HX.o;(go_wp2_with fail);go_roundw
         case rel=>exact⟨j+1,_,by omega,hj,aO tS.o,by
          have h:=tT.o.put HH.o HRJ.o (by rw[HDL.o];exact hj) H8.o;rw[List.set_set,aCA XN (a_ (by rw[l8.o];exact hj))] at h;exact h,YL.o.put tT.o HH.o HRJ.o (by rw[HDL.o];exact hj)⟩
         case measure=>exact mK.o
        ·have aX7:j=N:=by omega
         subst aX7;have XO:¬(j:Int)<(j:Int):=by omega
         have tT:Hid (kC B0 g w wr (.slice pA r pc) piv wZ (gO (dG L r p k) (jK (vf q k) q) r k 0)):=lH (by
          rw[RV];have h:=dI.o;rw[show vU (vf q k) k j q=jK (vf q k) q from by
           have:=aGI (d:=vf q k) (R3 gQ.o.ok.ech HQ.o (by rw[N0.o];exact hrp));rw[l8.o] at this;exact this,NY.o] at h
          exact h)
         obtain⟨ra,vG,c,-⟩:=dI.o.own.get HRJ.o;rw[HDL.o] at c;have gl:=dI.o.own.top.lt;(go_wp2_with fail);clear c gl vG dI eU HRJ HDL XO;have vN:Hid ((jK (vf q k) q).length=j):=lH (by rw[lX,l8.o]);have HRZ:Hid (∀t,t<k->vf (jK (vf q k) q) t=0):=lH fun t ht=>aGF (R3 gQ.o.ok.ech HQ.o (by rw[N0.o];exact hrp) t ht) (by rw[l8.o];omega);have wE:Hid ((dG L r p k)[r]?=some (jK (vf q k) q)):=lH (MM HQR.o HQ.o);have HPW:Hid (∀a∈dG L r p k,a.length=j):=lH (ML gQ.o.ok.wid HQR.o HQ.o);have UG:Hid ((dG L r p k).length=n):=lH (by rw[wT,wC.o]);have HPE:Hid (gO (dG L r p k) (jK (vf q k) q) r k n=eW L r p k):=lH (by rw[<-wC.o];exact aBB HQ.o);have HPB:Hid (∀(i t:Nat)(a:List Rat),i≠r->(dG L r p k)[i]?=some a->t<j->bI (vf a t)+1<=4000000000000):=lH fun i t a zU ha ht=>by
          obtain⟨s,hs,_⟩:=BX HQR.o HQ.o zU ha;have:=gQ.o.bd.vf hs (j:=t) (by rw[gQ.o.ok.wid a (bV hs)];exact ht);have:=yQ.o;omega
         have HPD:Hid (∀t,t<j->bI (vf (jK (vf q k) q) t)+2<=8000000000000):=lH fun t ht=>by
          have:=aGH gQ.o.bd HQ.o (by rw[l8.o];omega) _ (bV (a_ (l:=jK (vf q k) q) (i:=t) (by rw[vN.o];exact ht)));have:=yQ.o;omega
         generalize dG L r p k=M2 at *;generalize jK (vf q k) q=R at *;generalize wr=wz at *
         go_loopw [101] (fun v101 wr=>∃(i:Nat)(hs:List Mh),i<=n/\v101=.int .i64 i/\kC B0 g w wr (.slice pA r pc) piv hs (gO M2 R r k i)) (fun v101 _=>n-(intOf v101).toNat)
         case atStart=>exact⟨0,wZ,Nat.zero_le _,rfl,tT.o⟩
         case round=>
          clear tT wZ;obtain⟨i,wZ,kT,rfl,XL⟩:=hrel;have dI:=lH XL;clear XL;by_cases hi:i<n
          ·have DH:(i:Int)<(n:Int):=by omega
           have tS:=lN i;have mK:Hid (n-(i+1)<n-i):=lH (by omega);by_cases zU:i=r
           ·subst zU
            (go_wp2_with fail);go_roundw
            case rel=>exact⟨i+1,wZ,hi,aO tS.o,by rw[I6];exact dI.o⟩
            case measure=>exact mK.o
           ·have hib:((i:Int) == (r:Int))=false:=by simp;omega
            obtain⟨row,gX⟩:∃row,M2[i]?=some row:=eA (by rw[UG.o];exact hi);have sC:=lH gX;have L0:Hid (row.length=j):=lH (HPW.o row (bV gX));obtain⟨gg,cc,vs,y,hh,c,hx,c0,c1,c2,c3,hv,l1,f1,bX⟩:=dI.o.elem (j:=k) (BQ gX) (by rw[L0.o];omega);rw[L0.o] at c;have HV:=lH hv;have gl:=dI.o.own.top.lt;clear hh hx hv gX;by_cases h0:vf row k=0
            ·have HSK:Hid (gO M2 R r k (i+1)=gO M2 R r k i):=lH (VP (by rw[vN.o,L0.o]) sC.o h0)
             (go_wp2_with fail);refine(uZ HV.o).mono ?_;rw[h0];rintro e w9 ⟨rfl,gA⟩;have UJ:=lH (dI.o.up gA);clear gA c c0 c1 c2 c3 l1 f1 bX gl dI h0;(go_wp2_with fail);go_roundw
             case rel=>exact⟨i+1,wZ,hi,aO tS.o,by rw[HSK.o];exact UJ.o⟩
             case measure=>exact mK.o
            ·have HSG:Hid ((vf row k).num.sign≠0):=lH (fun h=>h0 (by
              have:=Int.sign_eq_zero_iff_zero.1 h;exact Rat.num_eq_zero.1 this))
             clear h0;(go_wp2_with fail);refine(uZ HV.o).mono ?_;generalize (vf row k).num.sign=sg at *;rintro e w9 ⟨rfl,gA⟩;have UJ:=lH (dI.o.up gA);have hsg:(sg == 0)=false:=by have:=HSG.o;simp[this]
             clear gA c c0 c1 c2 c3 l1 f1 bX gl dI HV;obtain⟨gg,cc,vs,y,hh,c,hx,c0,c1,c2,c3,hv,l1,f1,bX⟩:=UJ.o.elem (j:=k) (BQ sC.o) (by rw[L0.o];omega);rw[L0.o] at c;have HV:=lH hv;have gl:=UJ.o.own.top.lt;clear hh hx hv;(go_upto_region 23 with fail);clear c c0 c1 c2 c3 l1 f1 bX gl;have iA:=jT w9 (.cells #[.bool y.b1,.slice y.A y.n y.c,.bool y.b2,.slice y.A2 y.m y.d] 115);have eU:Hid (DC (w9.alloc (.cells #[.bool y.b1,.slice y.A y.n y.c,.bool y.b2,.slice y.A2 y.m y.d] 115)) g w9.heap.size wZ (vf row k) y):=lH ⟨aG.new w9 _ _,HV.o.up iA,fun i h hh l=>UJ.o.own.lt hh l⟩;have HM7:Hid (kC B0 g w (w9.alloc (.cells #[.bool y.b1,.slice y.A y.n y.c,.bool y.b2,.slice y.A2 y.m y.d] 115)) (.slice pA r pc) piv wZ ((gO M2 R r k i).set i (pL (vf row k) R k k row))):=lH (by rw[VK,RU (BQ sC.o)];exact UJ.o.up iA);have HXR:Hid ((gO M2 R r k i)[r]?=some R):=lH (aIY wE.o);have U0:Hid ((gO M2 R r k i).set i (yU (vf row k) R row)=gO M2 R r k (i+1)):=lH (I5 zU sC.o);have HXL:Hid ((gO M2 R r k i).length=n):=lH (by rw[D8,UG.o]);clear iA UJ HV;generalize gO M2 R r k i=X at *;generalize w9.alloc (.cells #[.bool y.b1,.slice y.A y.n y.c,.bool y.b2,.slice y.A2 y.m y.d] 115)=w10 at *;generalize w9.heap.size=gf at *;generalize wr=wy at *
             go_loopw [14] (fun v14 wr=>∃(t:Nat)(hs:List Mh),k<=t/\t<=j/\v14=.int .i64 t/\kC B0 g w wr (.slice pA r pc) piv hs (X.set i (pL (vf row k) R k t row))/\DC wr g gf hs (vf row k) y) (fun v14 _=>j-(intOf v14).toNat)
             case atStart=>exact⟨k,wZ,lR,by omega,rfl,HM7.o,eU.o⟩
             case round=>
              clear HM7 eU wZ;obtain⟨t,wZ,hkt,htj,rfl,XL,FU⟩:=hrel;have dI:=lH XL;have eU:=lH FU;have HTI:Hid ((X.set i (pL (vf row k) R k t row))[i]?=some (pL (vf row k) R k t row)):=lH (by rw[List.getElem?_set_self (by rw[HXL.o];exact hi)]);have HTR:Hid ((X.set i (pL (vf row k) R k t row))[r]?=some R):=lH (by rw[List.getElem?_set_ne zU];exact HXR.o);have HTL:Hid ((pL (vf row k) R k t row).length=j):=lH (by rw[RK,L0.o]);clear XL FU;by_cases ht:t<j
              ·have htI:(t:Int)<(j:Int):=by omega
               have DB:=lN t;have E8:Hid (j-(t+1)<j-t):=lH (by omega);have HTV:Hid (vf (pL (vf row k) R k t row) t=vf row t):=lH (fW (aIJ (a_ (by rw[L0.o];exact ht))));obtain⟨g2,cc2,vs2,z2,hh2,e0,y9,e1,e2,e3,e4,lA,l2,f2,SZ⟩:=dI.o.elem (j:=t) HTI.o (by rw[HTL.o];exact ht);obtain⟨g3,cc3,vs3,z3,hh3,d0,hx3,d1,d2,d3,d4,qT,l3,f3,aJG⟩:=dI.o.elem (j:=t) HTR.o (by rw[vN.o];exact ht);rw[HTL.o] at e0;rw[vN.o] at d0;obtain⟨vM,HH2,f_,HH3,YM⟩:=kN qT hh2 y9 hh3 hx3;have gl:=dI.o.own.top.lt;clear hh2 y9 lA hh3 hx3 qT;by_cases h0:vf R t=0
               ·have HSK:Hid (pL (vf row k) R k (t+1) row=pL (vf row k) R k t row):=lH (aBp h0)
                (go_wp2_with fail);refine(uZ vM.o).mono ?_;rw[h0];rintro e w11 ⟨rfl,mJ⟩;have GO:=lH (dI.o.up mJ);have E2:=lH (eU.o.up mJ);clear mJ e0 e1 e2 e3 e4 l2 f2 SZ d0 d1 d2 d3 d4 l3 f3 aJG gl dI eU h0;(go_wp2_with fail);go_roundw
                case rel=>exact⟨t+1,wZ,by omega,ht,aO DB.o,by rw[HSK.o];exact GO.o,E2.o⟩
                case measure=>exact E8.o
               ·have HSG:Hid ((vf R t).num.sign≠0):=lH (fun h=>h0 (by
                 have:=Int.sign_eq_zero_iff_zero.1 h;exact Rat.num_eq_zero.1 this))
                clear h0;(go_wp2_with fail);refine(uZ vM.o).mono ?_;generalize (vf R t).num.sign=sg2 at *;rintro e w11 ⟨rfl,mJ⟩;have GO:=lH (dI.o.up mJ);have E2:=lH (eU.o.up mJ);have aRY:(sg2 != 0)=true:=by have:=HSG.o;simp[this]
                clear mJ e0 e1 e2 e3 e4 l2 f2 SZ d0 d1 d2 d3 d4 l3 f3 aJG gl dI eU vM HH2 f_ HH3 YM;obtain⟨g2,cc2,vs2,z2,hh2,e0,y9,e1,e2,e3,e4,lA,l2,f2,SZ⟩:=GO.o.elem (j:=t) HTI.o (by rw[HTL.o];exact ht);obtain⟨g3,cc3,vs3,z3,hh3,d0,hx3,d1,d2,d3,d4,qT,l3,f3,aJG⟩:=GO.o.elem (j:=t) HTR.o (by rw[vN.o];exact ht);rw[HTL.o] at e0;rw[vN.o] at d0;rw[HTV.o] at lA;obtain⟨sJ,vM,HH2,f_⟩:=iK lA qT hh2 y9;have gl:=GO.o.own.top.lt;obtain⟨b0,b1,b2,b3,bl⟩:=E2.o.blk.b4;have bM:=lH (aK (Below.refl w11.heap.size w11));have HZ1:Hid (bI (vf row k)+1<=4000000000000):=lH (HPB.o i k row zU sC.o (by omega));have HZ2:Hid (bI (vf row t)+1<=4000000000000):=lH (HPB.o i t row zU sC.o ht);have HZ3:Hid (bI (vf R t)+2<=8000000000000):=lH (HPD.o t ht);clear hh2 y9 lA hh3 hx3 qT;(go_upto_region 26 with fail);refine kX 23 (fun hHeld=>?_);simp only[nI,List.take_zero];refine cW [0,1,2,3,4,5,6,7,8,9,10,11,12,13,14,15,16,17,18,19] ?_;refine bQ 20 (fun K hK=>?_);go_simp;refine(LL (E2.o.val.up bM.o) (vM.o.up bM.o) (by have:=HZ1.o;have:=HZ3.o;omega)).mono ?_;rintro e w12 ⟨GI,v12,rfl,h12⟩;have uW:=bW bM GI;have H12:=lH h12;clear GI h12;go_simp;refine gZ hK uW.o (fun hHeld=>?_);clear hK K;refine bQ 21 (fun K hK=>?_);go_simp;refine(OC (sJ.o.up uW.o) H12.o (by have:=HZ1.o;have:=HZ3.o;have:=HZ2.o;have:=eL (vf row k) (vf R t);omega)).mono ?_;rintro e w13 ⟨aGk,v13,rfl,h13⟩;have QK:=bW uW aGk;have H13:=lH h13;clear aGk h13;go_simp;refine gZ hK QK.o (fun hHeld=>?_);clear hK K;refine cW [22] ?_;refine eM ?_;clear hHeld;have aPS:=lH (GO.o.up QK.o);have aO9:=lH (E2.o.up QK.o);clear e0 e1 e2 e3 e4 l2 f2 SZ d0 d1 d2 d3 d4 l3 f3 aJG gl bl b0 b1 b2 b3 GO E2 bM uW QK sJ vM H12;obtain⟨e1,e2,e3,e4,l2,f2⟩:=aPS.o.elem2 HH2.o HTI.o f_.o;(go_wp2_with fail);go_roundw
                case rel=>exact⟨t+1,_,by omega,ht,aO DB.o,by
                 have h:=aPS.o.put HH2.o HTI.o (by rw[HTL.o];exact ht) H13.o;rw[List.set_set,aBo hkt (a_ (by rw[L0.o];exact ht))] at h;exact h,aO9.o.put aPS.o HH2.o HTI.o (by rw[HTL.o];exact ht)⟩
                case measure=>exact E8.o
              ·have aXj:t=j:=by omega
               subst aXj;have htI:¬(t:Int)<(t:Int):=by omega
               have GO:Hid (kC B0 g w wr (.slice pA r pc) piv wZ (gO M2 R r k (i+1))):=lH (by
                have h:=dI.o;rw[show pL (vf row k) R k t row=yU (vf row k) R row from by
                 have:=aD9 (f:=vf row k) (R:=R) (row:=row) (by rw[vN.o,L0.o]) HRZ.o;rw[L0.o] at this;exact this,U0.o] at h
                exact h)
               obtain⟨ra2,vG,c,-⟩:=dI.o.own.get HTI.o;rw[HTL.o] at c;have gl:=dI.o.own.top.lt;clear vG;(go_wp2_with fail);go_roundw
               case rel=>exact⟨i+1,wZ,hi,aO tS.o,GO.o⟩
               case measure=>exact mK.o
          ·have aOm:i=n:=by omega
           subst aOm;have DH:¬(i:Int)<(i:Int):=by omega
           have tT:Hid (kC B0 g w wr (.slice pA r pc) piv wZ (eW L r p k)):=lH (by rw[<-HPE.o];exact dI.o);have E3:Hid (aKs M j b cols (k+1) (eW L r p k) (piv++[k])):=lH (by
            have bX:oW L piv.length k≠L.length:=by rw[N0.o,HPV.o,wC.o];omega
            have aSg:piv.length<L.length:=by rw[N0.o,wC.o];exact yI
            have h1:=gQ.o.ok.step (by omega) aSg bX;rw[N0.o,HPV.o] at h1;refine⟨h1,?_,?_⟩
            ·rw[Nat.pow_succ,Nat.mul_comm (4^k) 4,Nat.mul_assoc]
             exact aGW gQ.o.bd gQ.o.ok.wid HQR.o HQ.o (by omega)
            ·have h:=gQ.o.go
             rw[show cols-k=(cols-(k+1))+1 from by omega,VS (p:=p) aSg (by rw[N0.o];exact HPV.o) (by rw[wC.o];omega),N0.o] at h;exact h)
           have HPO:Hid (bK vL wr B0 3 1 (.slice pA r pc) r (gM piv)):=lH (by have h:=tT.o.pv;rw[N0.o] at h;exact h);have zV:=tT.o.le;clear dI;(go_upto_region 28 with fail)
           go_wp2_with (at_builtin;refine wK (S:=vL) rfl (.tmp 168) (.tmp 170) _ rfl B0 3 i0 _ 1 8 Tryz.underlying30 L4.o E9.o QF.o LB.o rfl (by omega) aDK (.slice pA r pc) r (gM piv) rfl HPO.o rfl rfl ?k1 ?k2 ?k3 zV ?_)
           case k1=>simp[Value.oneCell',vL]
           case k2=>simp only[maxLen];omega
           case k3=>omega
           intro v' w9 bB hk9 dC;have UJ:Hid (kC B0 g w w9 v' (piv++[k]) wZ (eW L r p k)):=lH (by
            have gA:=jT wr (.cells #[.int .i64 (k:Int)] 3);refine⟨(tT.o.own.up gA).keepsI hk9,?_,(tT.o.low.trans (gA.mono zV)).trans hk9.low⟩;rw[jW,List.length_singleton,N0.o];unfold gM;rw[List.map_append];exact bB)
           clear bB hk9 dC tT HPO zV;(go_wp2_with fail);go_roundw
           case rel=>exact⟨k+1,_,_,wZ,aU,aO fC.o,E3.o,UJ.o⟩
           case measure=>exact iI.o
     ·have aXz:p=n:=by omega
      subst aXz;have hpI:¬(p:Int)<(p:Int):=by omega
      have HPV:Hid (oW L piv.length k=L.length):=lH (aEI (by rw[wC.o,N0.o];exact hrp) (fun i b h1 h2=>HZ.o i b h1 (by rw[<-N0.o];exact h2) (by rw[<-wC.o];exact(dH.1 h1).1)));have E3:Hid (aKs M N b cols (k+1) L piv):=lH ⟨gQ.o.ok.skip HPV.o,gQ.o.bd.mono (ZZ (Nat.le_succ k) b),by
       have h:=gQ.o.go;rw[show cols-k=(cols-(k+1))+1 from by omega,VT (by rw[wC.o,N0.o];exact yI) HPV.o] at h;exact h⟩
      (go_wp2_with fail);go_roundw
      case rel=>exact⟨k+1,L,piv,hs,aU,aO fC.o,E3.o,dI.o⟩
      case measure=>exact iI.o
   ·have tD:¬(piv.length:Int)<(n:Int):=by omega
    have Y5:Hid (nJ M cols=(L,piv)):=lH (by rw[<-gQ.o.go];exact VU (by rw[wC.o];exact yI));generalize hr:piv.length=r at *;have N0:=lH hr;clear hr;(go_wp2_with fail);go_ret2;refine⟨by rw[dA.o];exact dI.o.low,g,hs,.slice pA r pc,by rw[HL.o];rfl,?_,?_⟩
    ·rw[Y5.o,dA.o];exact dI.o.own
    ·rw[Y5.o,dA.o];exact dI.o.pv
  ·have fY:¬(k:Int)<(cols:Int):=by omega
   have Y5:Hid (nJ M cols=(L,piv)):=lH (by
    rw[<-gQ.o.go,show cols-k=0 from by omega];rfl)
   generalize hr:piv.length=r at *;have N0:=lH hr;clear hr;(go_wp2_with fail);go_ret2;refine⟨by rw[dA.o];exact dI.o.low,g,hs,.slice pA r pc,by rw[HL.o];rfl,?_,?_⟩
   ·rw[Y5.o,dA.o];exact dI.o.own
   ·rw[Y5.o,dA.o];exact dI.o.pv
structure a6H (M:List (List Rat)) (N b:Nat):Prop where
 wid:∀a∈M,a.length=N
 bd:Bd b M
 sz:4^N*b<=4000000000000
 len:M.length<=1000000
 n:N<=1000000
theorem aJ7{q:List Rat}(hq:q.length=n):(q++List.replicate n (0:Rat)).set (n+k) 1=q++qG n k:=by
 unfold qG;rw[List.set_append_right _ _ (by omega),hq];congr 2
 omega
theorem aIy:∀x∈qG n i,bI x+1<=3:=fun x hx=>by
 have:x=0\/x=1:=by
  unfold qG at hx;rcases List.mem_or_eq_of_mem_set hx with h | h
  ·exact .inl (List.mem_replicate.1 h).2
  ·exact .inr h
 rcases this with h | h<;>rw[h]<;>decide+kernel
theorem aAx{b:Nat}(h:Bd b M)(hb:3<=b):Bd b (iH M):=fun a ha x hx=>by
 obtain⟨i,hi⟩:=List.mem_iff_getElem?.1 ha;obtain⟨row,hr⟩:∃row,M[i]?=some row:=eA (by have:=(dH.1 hi).1;rwa[iQ] at this);rw[yK hr] at hi;injection hi with hi;rw[<-hi] at hx;rcases List.mem_append.1 hx with hx | hx
 ·exact h row (bV hr) x hx
 ·exact cO (aIy x hx) hb
section
variable {w w':Wo} {base g:Nat} {hs:List Mh} {L:List (List Rat)}
theorem kB.mat(o:kB w base g hs L):kC base g w w (.slice none 0 0) [] hs L:=⟨o,eQ _ _ _ _ _,bR⟩
end
structure GR (w:Wo) (base g n k:Nat) (hs:List Hd) (L:List (List Rat)):Prop where
 top:aG w g 93 (hs.map Hd.val).toArray
 len:hs.length=L.length
 gb:base<=g
 row:∀(i:Nat)(h:Hd)(q:List Rat),hs[i]?=some h->L[i]?=some q->iT w w.heap.size h.A h.n (if i<k then q.drop n else q)/\h.n<=h.c/\h.c<=maxLen/\(0<h.n->∃b off,h.A=some ⟨b,off,none⟩/\b≠g)
section
variable {w w':Wo} {base g n k:Nat} {hs:List Hd} {L:List (List Rat)}
theorem kB.cut{ms:List Mh}(o:kB w base g ms L):GR w base g n 0 (ms.map fun h=>⟨h.A,h.vs.length,h.c⟩) L:=by
 refine⟨?_,by rw[jO,o.len],o.gb,fun i h q hh hq=>?_⟩
 ·rw[List.map_map];exact o.top
 ·rw[iY] at hh
  obtain⟨m,hm,rfl⟩:=Option.map_eq_some_iff.1 hh;have r:=o.row i m q hm hq;refine⟨?_,r.cap,r.cm,fun h0=>?_⟩
  ·rw[if_neg (by omega)]
   have:=r.rd;rwa[<-r.len] at this
  ·obtain⟨h1,h2,h3,_⟩:=r.lies (by rw[<-r.len];exact h0)
   exact⟨m.g,0,h1,h3⟩
theorem GR.up(o:GR w base g n k hs L)(hb:Below w.heap.size w w'):GR w' base g n k hs L:=
 ⟨o.top.bl hb,o.len,o.gb,fun i h q hh hq=>by
  obtain⟨h1,h2,h3,h4⟩:=o.row i h q hh hq;exact⟨(h1.below hb lR).more hb.size,h2,h3,h4⟩⟩
theorem GR.get(o:GR w base g n k hs L){q:List Rat}(hq:L[i]?=some q):∃h:Hd,hs[i]?=some h/\w.cell? ⟨g,i,none⟩=some (.slice h.A h.n h.c):=by
 obtain⟨h,hh⟩:∃h,hs[i]?=some h:=eA (by rw[o.len];exact(dH.1 hq).1);refine⟨h,hh,?_⟩;rw[o.top.cell,List.getElem?_toArray,iY,hh];rfl
theorem iT.drop{B m b off:Nat}{q:List Rat}(h:iT w B (some ⟨b,off,none⟩) m q)(hn:n<=m):iT w B (some ⟨b,off+n*4,none⟩) (m-n) (q.drop n):=by
 obtain⟨vs,h1,h2,h3,h4⟩:=h;refine⟨vs.drop n,by rw[LC,h1],by rw[LC,h2],⟨by rw[eD,LC,h1],fun h0=>?_⟩,fun i x v hx hv=>?_⟩
 ·obtain⟨b',off',e,aU,hc⟩:=h3.2 (by omega)
  injection e with e;injection e with e1 e2;subst e1;subst e2;refine⟨b,off+n*4,rfl,aU,fun j u hu=>?_⟩;have hd:fX vs=fX (vs.take n)++fX (vs.drop n):=by
   unfold fX;rw[<-List.flatMap_append,List.take_append_drop]
  have hu2:(fX vs)[n*4+j]?=some u:=by
   rw[hd,DN (by rw[eD,kR,h1];omega),eD,kR,h1,show n*4+j-min n m*4=j from by omega];exact hu
  have:=hc _ u hu2;rwa[<-Nat.add_assoc] at this
 ·rw[List.getElem?_drop] at hx hv
  exact h4 _ _ _ hx hv
theorem GR.step(o:GR w base g n k hs L){h h2:Hd}{q:List Rat}(hh:hs[k]?=some h)(hq:L[k]?=some q)(hr:iT w w.heap.size h2.A h2.n (q.drop n))(h1:h2.n<=h2.c)(h3:h2.c<=maxLen)(h4:0<h2.n->∃b off,h2.A=some ⟨b,off,none⟩/\b≠g):GR (w.setCell ⟨g,k,none⟩ (.slice h2.A h2.n h2.c)) base g n (k+1) (hs.set k h2) L:=by
 have hkl:=(dH.1 hh).1;have rC:∀{A:OA}{m:Nat}{p:List Rat},iT w w.heap.size A m p->(0<m->∃b off,A=some ⟨b,off,none⟩/\b≠g)->iT (w.setCell ⟨g,k,none⟩ (.slice h2.A h2.n h2.c)) (w.setCell ⟨g,k,none⟩ (.slice h2.A h2.n h2.c)).heap.size A m p:=fun{A m p} H hA=>by
  obtain⟨vs,a1,a2,a3,a4⟩:=H;refine⟨vs,a1,a2,⟨a3.1,fun hm=>?_⟩,fun i x v hx hv=>?_⟩
  ·obtain⟨b,off,e,aU,hc⟩:=a3.2 hm
   obtain⟨b',off',e',bX⟩:=hA hm;rw[e] at e';injection e' with e';injection e' with e1 e2;subst e1;refine⟨b,off,e,by simpa[World.setCell] using aU,fun j u hu=>?_⟩;rw[World.cell?_setCell_other _ _ _ _ (fun e=>bX (by injection e with e;exact e.symm))];exact hc j u hu
  ·have h0:c_ w w.heap.size x v.b1 v.A v.n v.c v.b2 v.A2 v.m v.d:=a4 i x v hx hv
   refine c_.keep h0 (v:=h.val) ?_ (fun a b e=>by simp[Hd.val] at e) _;rw[o.top.cell,List.getElem?_toArray,iY,hh];rfl
 refine⟨?_,by rw[lS,o.len],o.gb,fun i z p hz hp=>?_⟩
 ·have:=o.top.set_ k (.slice h2.A h2.n h2.c)
  rw[List.map_set];simpa[Hd.val] using this
 ·rw[List.getElem?_set] at hz
  by_cases zB:k=i
  ·subst zB
   rw[if_pos rfl,if_pos hkl] at hz;injection hz with hz;subst hz;rw[hq] at hp;injection hp with hp;subst hp;refine⟨?_,h1,h3,h4⟩;rw[if_pos (Nat.lt_succ_self _)];exact rC hr h4
  ·rw[if_neg zB] at hz
   obtain⟨a1,a2,a3,a4⟩:=o.row i z p hz hp;refine⟨?_,a2,a3,a4⟩;have e:(if i<k+1 then p.drop n else p)=if i<k then p.drop n else p:=by
    by_cases aU:i<k
    ·rw[if_pos aU,if_pos (by omega)]
    ·rw[if_neg aU,if_neg (by omega)]
   rw[e];exact rC a1 a4
theorem GR.rd(o:GR w base g n L.length hs L):lQ w w.heap.size (some ⟨g,0,none⟩) L.length (L.map (List.drop n)):=by
 refine⟨hs,o.len,jO _,⟨by simp[o.len],fun _=>⟨g,0,rfl,o.top.lt,fun j u hu=>?_⟩⟩,fun i h q hh hq=>?_⟩
 ·rw[Nat.zero_add,o.top.cell j,List.getElem?_toArray]
  exact hu
 ·rw[iY] at hq
  obtain⟨p,hp,rfl⟩:=Option.map_eq_some_iff.1 hq;obtain⟨a1,a2,a3,_⟩:=o.row i h p hh hp;rw[if_pos (dH.1 hp).1] at a1;exact⟨a1,a2,a3⟩
end
def aO1(M:List (List Rat))(w:Wo)(e:Ending)(w':Wo):Prop:=Below w.heap.size w w'/\(((nJ (iH M) M.length).2.length<M.length/\e=.returned (.tuple #[.slice none 0 0,.bool false]))\/
 (¬(nJ (iH M) M.length).2.length<M.length/\∃g,e=.returned (.tuple #[.slice (some ⟨g,0,none⟩) M.length M.length,.bool true])/\w.heap.size<=g/\lQ w' w'.heap.size (some ⟨g,0,none⟩) M.length ((nJ (iH M) M.length).1.map (List.drop M.length))))
theorem aDL{v:Rv}(hb:aG w g 115 (fX (List.replicate n v)).toArray):Rd w w.heap.size 4 (some ⟨g,0,none⟩) n (fX (List.replicate n v)):=
 ⟨by rw[eD,rB],fun _=>⟨g,0,rfl,hb.lt,fun j u hu=>by rw[Nat.zero_add,hb.cell j];simpa using hu⟩⟩
theorem aEt{v:Rv}(h:dD w w.heap.size q v):lI w (List.replicate n v) (List.replicate n q):=fun i p x hp hx=>by
 rw[List.getElem?_replicate] at hp hx;split at hp
 ·rename_i hi
  rw[if_pos hi] at hx;injection hp with hp;injection hx with hx;subst hp;subst hx;exact h
 ·cases hp
theorem lI.app{vs us:List Rv}{ps qs:List Rat}(h:lI w vs ps)(h2:lI w us qs)(hl:vs.length=ps.length):lI w (vs++us) (ps++qs):=fun i q v hq hv=>by
 by_cases hi:i<ps.length
 ·rw[BD hi] at hq
  rw[BD (by omega)] at hv;exact h i q v hq hv
 ·rw[DN (by omega)] at hq
  rw[DN (by omega),hl] at hv;exact h2 _ q v hq hv
theorem aIX(a b:List Rv):fX (a++b)=fX a++fX b:=by unfold fX;rw[List.flatMap_append]
theorem MX(A:OA)(n c b:Nat)(M:List (List Rat))(w:Wo)(hR:lQ w w.heap.size A n M)(hn:n<=1000)(hw:∀a∈M,a.length=n)(EN:Bd b M)(cN:3<=b)(iV:4^n*b<=4000000000000):Calls Tryz.prog 121 #[.slice A n c] w (aO1 M w):=by
 obtain⟨HR,HL,HWD⟩:=d_ hR hR.len hw;have HEW:Hid (∀a∈iH M,a.length=n+n):=lH (by have h:=hR.len;have:=xG (M:=M) (by rw[h];exact hw);rwa[h] at this);have HEB:=lH (aAx EN cN);have dZ:=lH iV;obtain⟨i0,kA,rU,jR,kS⟩:=pW;obtain⟨L4,E9,QF,LB⟩:=iK kA rU jR kS;clear hR hw kA rU jR kS EN cN iV;have vI:∀w:World,(Instr.makeSlice 92 (.int .i64 (n:Int)) (.int .i64 (n:Int))).run Tryz.prog w=.ok (.slice (some ⟨w.heap.size,0,none⟩) n n) (w.alloc (.cells (fR n) 93)):=fun w=>yG n (by omega) w;have HK:=lH ((Below.refl w.heap.size w).alloc lR (.cells (fR n) 93));have HG:=lH (aG.new w 93 (fR n));go_enter Tryz.func121,Tryz.ntmps121
 go_wp2_with fail
 clear vI;generalize w.alloc (.cells (fR n) 93)=W at *;have HO:=lH (yA HG.o lR);generalize hg:w.heap.size=g at *;have pB:=lH hg;clear hg HG
 go_loopw [16] (fun v16 wr=>∃(k:Nat)(hs:List Mh),k<=n/\v16=.int .i64 k/\Below g w wr/\kB wr g g hs ((iH M).take k++List.replicate (n-k) [])) (fun v16 _=>n-(intOf v16).toNat)
 case atStart=>exact⟨0,_,by omega,rfl,HK.o,by rw[List.take_zero,List.nil_append,Nat.sub_zero];exact HO.o⟩
 case round=>
  clear HK HO;obtain⟨k,hs,hk,rfl,hb,ho⟩:=hrel;have HK:=lH hb;have HO:=lH ho;clear hb ho;by_cases aU:k<n
  ·obtain⟨q,hq⟩:∃q,M[k]?=some q:=eA (by have:=HL.o;omega)
   obtain⟨b0,o,hA,hb⟩:=(HR.o.below HK.o (by have:=pB.o;omega)).form (by omega);subst hA;obtain⟨h,hc,hrq,hh1,hh2⟩:=(HR.o.below HK.o (by have:=pB.o;omega)).at_ hq;have sL:Hid (g<wr.heap.size):=lH HO.o.top.lt;have HRQ:=lH (hrq.more (B':=wr.heap.size) (by have:=pB.o;have:=sL.o;omega));have l8:Hid (q.length=n):=lH (HWD.o q (bV hq));have HXQ:=lH (yK hq);rw[HL.o] at HXQ;have HF:Hid (((iH M).take k++List.replicate (n-k) []).set k (q++qG n k)=(iH M).take (k+1)++List.replicate (n-(k+1)) []):=lH (J2 (by rw[iQ,HL.o]) HXQ.o);have fY:(k:Int)<(n:Int):=by omega
   have fC:=lN k;have iI:Hid (n-(k+1)<n-k):=lH (by omega);have sH:b0<wr.heap.size:=by have:=HK.o.size;have:=pB.o;omega
   obtain⟨vs,nG,lA,qT,uF⟩:=MH HRQ.o;obtain⟨hA0,mY,JV⟩:=h;simp only at hc nG lA qT uF hh1 hh2;have aXM:mY=n:=by have:=l8.o;omega
   subst aXM;obtain⟨lT,vM,UD⟩:=d_ nG qT uF;clear nG lA qT uF hq hrq hb HR
   go_wp2_with (at_builtin;refine oS (S:=rF) rfl (.const (.slice none 0 0)) (.tmp 24) _ rfl g 115 i0 _ 4 64 Tryz.underlying93 L4.o E9.o QF.o LB.o rfl (by omega) wF (.slice none 0 0) 0 [] rfl (eQ _ _ _ _ _) hA0 mY JV (fX vs) rfl vM.o (BM vs) ?k1 ?k2 ?k3 ?_)
   case k1=>simp only[maxLen];omega
   case k2=>omega
   case k3=>have:=sL.o;omega
   intro v' w6 bB vJ fT aCg dC;have fL:=lH fT;have aUM:=lH aCg;clear bB vJ fT aCg dC hc;(go_wp2_with fail);refine(mL mY w6 hn).mono ?_;rintro e w7 ⟨iA,gz,vz,rfl,hgz,PE,hvz⟩;obtain⟨j_,aUL,HZR,HVZ⟩:=iK iA (aUM.o.keep iA) (aDL PE) hvz;have HV7:Hid (lI w7 vs q):=lH (lI.up (w:=w6) (lI.up (w:=wr) UD.o fL.o) iA);have UO:Hid (wr.heap.size<=w7.heap.size):=lH (cO fL.o.size iA.size);clear iA PE hvz hgz aUM
   go_wp2_with (at_builtin;refine oS (S:=rF) rfl (.tmp 25) (.tmp 27) _ rfl wr.heap.size 115 i0 _ 4 64 Tryz.underlying93 L4.o E9.o QF.o LB.o rfl (by omega) wF v' mY (fX vs) rfl aUL.o (some ⟨gz,0,none⟩) mY mY (fX (List.replicate mY vz)) rfl HZR.o (BM _) ?k1 ?k2 ?k3 ?_)
   case k1=>simp only[maxLen];omega
   case k2=>omega
   case k3=>exact UO.o
   intro v2 w8 hown8 hkeep8 hnil8 hblk8;have dR:Hid (Below wr.heap.size wr w8):=lH (fL.o.trans ((j_.o.mono fL.o.size).trans hkeep8.low));have HOQ:Hid (dP w8 wr.heap.size v2 (vs++List.replicate mY vz) (q++List.replicate mY 0)):=lH (by
    refine⟨?_,?_,?_⟩
    ·rw[jW,rB,lT.o,aIX];exact hown8
    ·rw[jW,jW,rB,rB,lT.o,l8.o]
    ·refine lI.app (fun i p x hp hx=>?_) (aEt (dD.keeps HVZ.o hkeep8)) (by rw[lT.o,l8.o])
     exact dD.keeps (HV7.o i p x hp hx) hkeep8)
   obtain⟨h2,hv,hvs,gX⟩:=SC (w':=w8) (g:=g) HOQ.o sL.o;subst hv;have sC:=lH (gX.mono (base':=g) (pJ sL.o));have hO:=lH (HK.o.trans (dR.o.mono (pJ sL.o)));have sK:=lH (HO.o.up dR.o);have Y4:Hid (∀j (h':Mh),j≠k->hs[j]?=some h'->0<h'.vs.length->0<h2.vs.length->h'.g≠h2.g):=lH fun j h' _ hh l1 l2=>by
    have h3:=HO.o.lt hh l1;have h4:=(gX.lies (by rw[<-gX.len];exact l2)).2.1;omega
   clear hown8 hkeep8 hnil8 hblk8 hvs gX HK HO HOQ HV7 HVZ HZR aUL fL j_ vM UD UO;have aPw:(q++List.replicate mY (0:Rat)).length=mY+mY:=by rw[jW,rB,l8.o]
   have aKM:=lH aPw;have gl:=sK.o.top.lt;have gf:=sK.o.top.frozen;have KQ:Hid (k<(((iH M).take k++List.replicate (mY-k) []):List (List Rat)).length):=lH (by simp;have:=HL.o;have:=iQ M;omega);obtain⟨gv,gc⟩:∃gv,w8.cell? ⟨g,k,none⟩=some gv:=by
    rw[sK.o.top.cell];exact⟨_,Array.getElem?_eq_getElem (by rw[List.size_toArray,jO,sK.o.len];exact KQ.o)⟩
   have E7:=lH (sK.o.setRow KQ.o sC.o Y4.o);have eV:Hid (Below g w (w8.setCell ⟨g,k,none⟩ (.slice h2.A (q++List.replicate mY (0:Rat)).length h2.c))):=lH (hO.o.setCell lR _);rw[aPw] at E7 eV ⊢;clear aPw;(go_upto_region 7 with fail);clear gl gf gc;generalize w8.setCell ⟨g,k,none⟩ (.slice h2.A (mY+mY) h2.c)=w9 at *;have HQ9:Hid ((((iH M).take k++List.replicate (mY-k) []).set k (q++List.replicate mY 0))[k]?=some (q++List.replicate mY 0)):=lH (by rw[List.getElem?_set,if_pos rfl,if_pos KQ.o]);have jM:Hid ((((iH M).take k++List.replicate (mY-k) []).set k (q++List.replicate mY 0)).set k ((q++List.replicate mY 0).set (mY+k) 1)=(iH M).take (k+1)++List.replicate (mY-(k+1)) []):=lH (by rw[List.set_set,aJ7 l8.o,HF.o]);generalize (((iH M).take k++List.replicate (mY-k) []).set k (q++List.replicate mY 0))=L9 at *;generalize q++List.replicate mY (0:Rat)=q9 at *;generalize hs.set k h2=XG at *;obtain⟨gg,cc,vs9,x9,hh9,c,hx9,c0,c1,c2,c3,M5,l1,f1,bX⟩:=E7.o.mat.elem (i:=k) (j:=mY+k) HQ9.o (by rw[aKM.o];omega);rw[aKM.o] at c;have HH:=lH hh9;have HX:=lH hx9;have gl:=E7.o.top.lt;have bM:=lH (aK (Below.refl w9.heap.size w9));clear hh9 hx9 M5 HF HXQ sC Y4 KQ hO sK lT dR;obtain⟨m,hm⟩:∃m:Nat,m=mY+k:=⟨_,rfl⟩;rw[<-hm] at c0 c1 c2 c3 HX jM;have HM:=lH hm;have hw1:IntKind.i64.wrap (m:Int)=(m:Int):=IntWalk.i64_in _ (by omega);have hw2:(mY:Int)+(k:Int)=(m:Int):=by omega
   have zS:m<mY+mY:=by omega
   have hm3:(m:Int)<((mY+mY:Nat):Int):=by omega
   have lB:=lZ k;have M9:=lZ m;have hmn:=jF m;generalize mY+mY=n2 at *;clear hm;refine kX 9 (fun hHeld=>?_);simp only[nI,List.take_zero];refine cW [0,1,2,3,4,5,6] ?_;refine bQ 7 (fun K hK=>?_);go_simp;refine(qD 1 w9.drew (by decide) (by decide)).mono ?_;rintro e w10 ⟨mW,v10,rfl,h10⟩;have L7:Hid (Below w9.heap.size w9 w10):=lH (bM.o.trans mW);have H10:=lH h10;clear mW h10;go_simp;refine gZ hK L7.o (fun hHeld=>?_);clear hK K;refine cW [8] ?_;refine eM ?_;clear hHeld;have aPM:=lH (E7.o.up L7.o);have q_:=lH (eV.o.trans (L7.o.mono (by have:=eV.o.size;have:=pB.o;omega)));clear c c0 c1 c2 c3 l1 f1 bX gl E7 eV;obtain⟨c0,c1,c2,c3,l1,f1⟩:=aPM.o.mat.elem2 HH.o HQ9.o HX.o;(go_wp2_with fail);go_roundw
   case rel=>exact⟨k+1,_,aU,aO fC.o,jC q_.o (by
       obtain⟨h1,h2,-⟩:=(aPM.o.row k _ q9 HH.o HQ9.o).lies (by rw[aKM.o];omega);exact h2),by
       rw[<-jM.o];exact aPM.o.put HH.o HQ9.o (by rw[aKM.o];exact zS) H10.o⟩
   case measure=>exact iI.o
  ·have nH:k=n:=by omega
   subst nH;have fY:¬(k:Int)<(k:Int):=by omega
   have HOX:Hid (kB wr g g hs (iH M)):=lH (by
    have h:=HO.o;rw[Nat.sub_self,List.replicate_zero,List.append_nil,nL (by rw[iQ,HL.o];exact lR)] at h;exact h)
   have HRX:Hid (lQ wr wr.heap.size (some ⟨g,0,none⟩) k (iH M)):=lH (by have h:=HOX.o.rd;rwa[iQ,HL.o] at h);have YR:=lH (aEx (some ⟨g,0,none⟩) k k k (k+k) b (iH M) wr HRX.o (by omega) HEW.o (by omega) (by omega) HEB.o dZ.o);have bU:=lH (G4 (M:=iH M) (N:=k+k) (cols:=k) HEW.o (by omega));clear HRX HO HEB dZ HEW;(go_wp2_with fail);refine YR.o.mono ?_;rintro e w2 ⟨bH,g2,wY,v,rfl,ho2,hp⟩;obtain⟨pA,pc,hv,-,-⟩:=hp.shape;subst hv;have cH:=lH (HK.o.trans (bH.mono (by have:=HK.o.size;have:=pB.o;omega)));have HC2:=lH (ho2.cut (n:=k));have HGG:Hid (g<=wr.heap.size):=lH (by have:=HK.o.size;have:=pB.o;omega);rw[show(iH M).length=k from by rw[iQ,HL.o]];have KS:Hid (∀(e:Ending)(w':Wo),Below w.heap.size w w'->(((nJ (iH M) k).2.length<k/\e=.returned (.tuple #[.slice none 0 0,.bool false]))\/(¬(nJ (iH M) k).2.length<k/\∃g,e=.returned (.tuple #[.slice (some ⟨g,0,none⟩) k k,.bool true])/\w.heap.size<=g/\lQ w' w'.heap.size (some ⟨g,0,none⟩) k ((nJ (iH M) k).1.map (List.drop k))))->aO1 M w e w'):=lH fun e w' h1 h2=>by
    unfold aO1;rw[HL.o];exact⟨h1,h2⟩
   have wC:Hid ((nJ (iH M) k).1.length=k):=lH (by rw[bU.o.len,iQ,HL.o]);have HLW:=lH bU.o.wid;clear bH ho2 hp YR bU HOX HK;generalize (nJ (iH M) k).1=L at *;generalize (nJ (iH M) k).2.length=pl at *;by_cases yI:pl<k
   ·have aXA:(pl:Int)<(k:Int):=by omega
    (go_wp2_with fail);go_ret2;exact KS.o _ _ (by rw[pB.o];exact cH.o) (.inl ⟨yI,rfl⟩)
   ·have aXA:¬(pl:Int)<(k:Int):=by omega
    (go_wp2_with fail);generalize wY.map (fun h=>(⟨h.A,h.vs.length,h.c⟩:Hd))=hs3 at *
    go_loopw [52] (fun v52 wq=>∃(i:Nat)(hs:List Hd),i<=k/\v52=.int .i64 i/\Below g w wq/\GR wq wr.heap.size g2 k i hs L) (fun v52 _=>k-(intOf v52).toNat)
    case atStart=>exact⟨0,hs3,by omega,rfl,cH.o,HC2.o⟩
    case round=>
     clear cH HC2;obtain⟨i,SV,hi,rfl,hb,hc⟩:=hrel;have HB:=lH hb;have HC:=lH hc;clear hb hc;by_cases aU:i<k
     ·obtain⟨q,hq⟩:∃q,L[i]?=some q:=eA (by have:=wC.o;omega)
      obtain⟨h,hh,c⟩:=HC.o.get hq;obtain⟨r1,r2,r3,r4⟩:=HC.o.row i h q hh hq;rw[if_neg (by omega)] at r1;have hhn:h.n=k+k:=by rw[<-r1.len];exact HLW.o q (bV hq)
      obtain⟨hA,UY,hc2⟩:=h;simp only at c r1 r2 r3 r4 hhn;subst hhn;obtain⟨b2,o2,LR,SZ⟩:=r4 (by omega);subst LR;have vY:=lH (r1.drop (n:=k) (by omega));have HHH:=lH hh;have HQQ:=lH hq;have gl:=HC.o.top.lt;have gf:=HC.o.top.frozen;have DH:(i:Int)<(k:Int):=by omega
      have fC:=lN i;have iI:Hid (k-(i+1)<k-i):=lH (by omega);clear r1 r4 hh hq;have lB:0<k:=by omega
      have hkc:¬hc2=k:=by omega
      have hki:(k:Int)<=((k+k:Nat):Int):=by omega
      have hkz:=lZ k;have mI:(k:Int)<=(hc2:Int):=by omega
      have a6f:((k+k:Nat):Int)<=(hc2:Int):=by omega
      have hkt:=jF k;rw[show k+k-k=k from by omega] at vY;have wD:Hid (k<=hc2-k/\hc2-k<=maxLen):=lH (by omega);have GA:k+k-k=k:=by omega
      (go_wp2_with fail);go_roundw
      case rel=>exact⟨i+1,_,aU,aO fC.o,HB.o.setCell (cO HGG.o HC.o.gb) _,HC.o.step (h2:=⟨some ⟨b2,o2+k*4,none⟩,k,hc2-k⟩) HHH.o HQQ.o vY.o wD.o.1 wD.o.2 (fun _=>⟨_,_,rfl,SZ⟩)⟩
      case measure=>exact iI.o
     ·have DG:i=k:=by omega
      subst DG;have DH:¬(i:Int)<(i:Int):=by omega
      (go_wp2_with fail);go_ret2;exact KS.o _ _ (by rw[pB.o];exact HB.o) (.inr ⟨yI,g2,rfl,by rw[pB.o];exact cO HGG.o HC.o.gb,by have h:=HC.o;rw[<-wC.o] at h;have h2:=h.rd;rwa[wC.o] at h2⟩)
def cP(b:Br):Rat:=Rat.divInt 1000000 (b.x*b.tap)
def eS(b:Br):Rat:=cP b*Rat.divInt (-b.shift) 1000
def eJ(x:bO):List Nat:=(qR x).map Int.toNat
def aA(x:bO):List Nat:=lM (dX (eJ x)) (aH x)
def gV(x:bO):List Nat:=(LU x).map Prod.fst
def CC(x:bO):List Nat:=(LU x).map Prod.snd
def mB(x:bO):List Rat:=x.brs.map cP
def mC(x:bO):List Rat:=x.brs.map eS
def fK(A:List (List Rat))(i j:Nat)(q:Rat):List (List Rat):=A.set i ((A.getD i []).set j (vf (A.getD i []) j+q))
def EC(free:List Nat)(u:Nat):Option Nat:=free.findIdx? (· == u)
def g_(free:List Nat)(A:List (List Rat))(b:Rat)(u v:Nat):List (List Rat):=
 if u=v then A else
  match EC free u,EC free v with
  | none,none=>A
  | some i,none=>fK A i i b
  | none,some j=>fK A j j b
  | some i,some j=>fK (fK (fK (fK A i i b) j j b) i j (-b)) j i (-b)
def zX(free:List Nat):List Rat->List Nat->List Nat->List (List Rat)->List (List Rat)
 | b::bs,u::us,v::vs,A=>zX free bs us vs (g_ free A b u v)
 | _,_,_,A=>A
def o8(n:Nat):List (List Rat):=List.replicate n (List.replicate n 0)
def o5(x:bO):List (List Rat):=zX (aA x) (mB x) (gV x) (CC x) (o8 (aA x).length)
def yZ(x:bO):List (List Rat):=(nJ (iH (o5 x)) (aA x).length).1.map (List.drop (aA x).length)
def aB4(x:bO):Prop:=¬(nJ (iH (o5 x)) (aA x).length).2.length<(aA x).length
theorem NX{A:List (List Rat)}:(fK A i j q).length=A.length:=by unfold fK;rw[lS]
theorem gT{A:List (List Rat)}{a:List Rat}(h:A[i]?=some a):fK A i j q=A.set i (a.set j (vf a j+q)):=by
 unfold fK;rw[dN,h];rfl
theorem NW{A:List (List Rat)}(h:∀a∈A,a.length=n)(hi:i<A.length):∀a∈fK A i j q,a.length=n:=fun a ha=>by
 obtain⟨r,hr⟩:∃r,A[i]?=some r:=⟨_,iB hi⟩;rw[gT hr] at ha;rcases List.mem_or_eq_of_mem_set ha with h1 | h1
 ·exact h a h1
 ·rw[h1,lS];exact h r (bV hr)
theorem aHc{A:List (List Rat)}(h:Bd K A)(hi:i<A.length)(hw:∀a∈A,a.length=n)(hj:j<n)(hq:bI q<=1):Bd (K+2) (fK A i j q):=fun a ha x hx=>by
 obtain⟨r,hr⟩:∃r,A[i]?=some r:=⟨_,iB hi⟩;rw[gT hr] at ha;rcases List.mem_or_eq_of_mem_set ha with h1 | h1
 ·exact cO (h a h1 x hx) (by omega)
 ·rw[h1] at hx
  rcases List.mem_or_eq_of_mem_set hx with h2 | h2
  ·exact cO (h r (bV hr) x h2) (by omega)
  ·have h3:=h.vf hr (j:=j) (by rw[hw r (bV hr)];exact hj)
   have h4:=lG (vf r j) q;rw[h2];omega
theorem eP(h:EC free u=some i):i<free.length/\free[i]?=some u:=by
 unfold EC at h;rw[List.findIdx?_eq_some_iff_getElem] at h;obtain⟨h1,h2,_⟩:=h;refine⟨h1,?_⟩;rw[iB h1];simpa using h2
theorem aNm{v:Nat}(h:EC free u=some i)(h2:EC free v=some j)(bX:u≠v):i≠j:=by
 rintro rfl;have a:=(eP h).2;have b:=(eP h2).2;rw[a] at b;injection b with b;exact bX b
structure fM (n K:Nat) (A:List (List Rat)):Prop where
 len:A.length=n
 wid:∀a∈A,a.length=n
 bd:Bd K A
theorem fM.add{A:List (List Rat)}(h:fM n K A)(hi:i<n)(hj:j<n)(hq:bI q<=1):fM n (K+2) (fK A i j q):=
 ⟨NX.trans h.len,NW h.wid (by rw[h.len];exact hi),aHc h.bd (by rw[h.len];exact hi) h.wid hj hq⟩
theorem fM.mono{K':Nat}{A:List (List Rat)}(h:fM n K A)(hk:K<=K'):fM n K' A:=⟨h.len,h.wid,h.bd.mono hk⟩
theorem CX(n:Nat):fM n 3 (o8 n):=by
 unfold o8;refine⟨rB,fun a ha=>by rw[(List.mem_replicate.1 ha).2,rB],fun a ha x hx=>?_⟩;rw[(List.mem_replicate.1 ha).2] at hx;rw[(List.mem_replicate.1 hx).2];decide+kernel
theorem pK{b:Br}(h:b.bad=false):bI (cP b)<=1:=by
 have h1:1<=b.x/\b.x<=10000/\500<=b.tap/\b.tap<=1500:=by
  unfold Br.bad at h;simp only[Bool.or_eq_false_iff] at h;obtain⟨⟨⟨⟨⟨a1,a2⟩,_⟩,_⟩,_⟩,_⟩:=h;unfold mF at a1 a2;have:=of_decide_eq_false a1;have:=of_decide_eq_false a2;omega
 obtain⟨k,hk⟩:∃k:Nat,b.x*b.tap=(k:Int):=⟨(b.x*b.tap).toNat,(Int.toNat_of_nonneg (Int.mul_nonneg (by omega) (by omega))).symm⟩;have FR:b.x*b.tap<=10000*1500:=Int.mul_le_mul h1.2.1 h1.2.2.2 (by omega) (by omega);have rV:1*500<=b.x*b.tap:=Int.mul_le_mul h1.1 h1.2.2.1 (by omega) (by omega);have lB:k≠0:=by omega
 unfold cP bI;rw[hk,(nS 1000000 lB).2,(sY 1000000 lB).1];refine Nat.max_le.2 ⟨lE ?_,lE ?_⟩
 ·refine zT_ (Nat.div_le_self ..) ?_
  show _<4294967296^1;decide
 ·refine zT_ (Nat.div_le_self ..) ?_
  show _<4294967296^1;omega
theorem aCa(A:OA)(n c:Nat)(zs:List Int)(z:Int)(w:Wo)(hr:o_ w w.heap.size A n zs)(hn:n<=9223372036854775807):Calls Tryz.prog 158 #[.slice A n c,.int .i64 z] w fun e w'=>e=.returned (.int .i64 (gW (fun x=>decide (z=x)) zs 0))/\w=w':=by
 have dW:=lH hr.len;go_enter Tryz.func158,Tryz.ntmps158
 go_wp2_with fail
 go_loop [5,8] (fun _ i=>∃k:Nat,k<=n/\i=.int .i64 k/\gW (fun x=>decide (z=x)) zs 0=gW (fun x=>decide (z=x)) (zs.drop k) k) (fun _ i=>n-(intOf i).toNat)
 case atStart=>exact⟨0,by omega,rfl,rfl⟩
 case round=>
  obtain⟨k,hk,rfl,CK⟩:=hrel;have uU:=lH CK;clear CK;by_cases aU:k<n
  ·obtain⟨y,hy⟩:∃y,zs[k]?=some y:=eA (by have:=dW.out;omega)
   obtain⟨b,off,rfl,S8,-⟩:=hr.2 (by omega);have jI:=hr.at_ hy;have HZ:=lH (cM hy);clear hy;by_cases hp:z=y
   ·subst hp
    (go_wp2_with fail);go_ret;exact⟨aX (by rw[uU.o,HZ.o];simp[gW]),rfl⟩
   ·have HP:=lH hp
    go_wp2_with fail
    go_round
    case rel=>exact⟨k+1,by omega,by go_num,by rw[uU.o,HZ.o];simp[gW,HP.o]⟩
    case measure=>simp[intOf];omega
  ·have hd:zs.drop k=[]:=by rw[List.drop_eq_nil_iff];have:=dW.out;omega
   have HD:=lH hd;clear hd;(go_wp2_with fail);go_ret;exact⟨aX (by rw[uU.o,HD.o];rfl),rfl⟩
def EE(o:Option Nat):Int:=match o with | none=>-1 | some i=>(i:Int)
theorem aCb(free:List Nat)(u:Nat):gW (fun x=>decide ((u:Int)=x)) (d9 free) 0=EE (EC free u):=by
 have key:∀(l:List Nat)(k:Nat),gW (fun x=>decide ((u:Int)=x)) (d9 l) k=EE ((l.findIdx? (· == u)).map (·+k)):=by
  intro l
  induction l with
  | nil=>intro k;rfl
  | cons a r ih=>
   intro k;rw[List.findIdx?_cons];show(if decide ((u:Int)=(a:Int)) then(k:Int) else gW _ (d9 r) (k+1))=_;by_cases h:u=a
   ·subst h;simp[EE]
   ·have h1:¬((u:Int)=(a:Int)):=by omega
    have h2:(a == u)=false:=by simp;omega
    rw[decide_eq_false h1,ih (k+1),h2];simp only[Bool.false_eq_true,if_false];congr 1
    rw[Option.map_map];congr 1
    funext i
    simp;omega
 have:=key free 0;rw[this];unfold EC;congr 1
 cases free.findIdx? (· == u)<;>simp
structure iU where
 A0:OA
 n0:Nat
 c0:Nat
 A1:OA
 n1:Nat
 c1:Nat
 A2:OA
 n2:Nat
 c2:Nat
 A3:OA
 n3:Nat
 c3:Nat
 A4:OA
 n4:Nat
 c4:Nat
 A5:OA
 n5:Nat
 c5:Nat
 A6:OA
 n6:Nat
 c6:Nat
def iU.cells(m:iU)(v:Value):Array Value:=#[.slice m.A0 m.n0 m.c0,.slice m.A1 m.n1 m.c1,.slice m.A2 m.n2 m.c2,.slice m.A3 m.n3 m.c3,.slice m.A4 m.n4 m.c4,.slice m.A5 m.n5 m.c5,.slice m.A6 m.n6 m.c6,v]
structure fB (w:Wo) (B:Nat) (m:iU) (x:bO):Prop where
 r0:o_ w B m.A0 m.n0 (iX x)
 r1:o_ w B m.A1 m.n1 (qR x)
 r2:o_ w B m.A2 m.n2 (d9 (gV x))
 r3:o_ w B m.A3 m.n3 (d9 (CC x))
 r4:iT w B m.A4 m.n4 (mB x)
 r5:iT w B m.A5 m.n5 (mC x)
 r6:o_ w B m.A6 m.n6 (d9 (aA x))
section
variable {w w':Wo} {B B':Nat} {m:iU} {x:bO}
theorem fB.below(r:fB w B m x)(hb:Below B' w w')(h:B<=B'):fB w' B m x:=⟨r.r0.below hb h,r.r1.below hb h,r.r2.below hb h,r.r3.below hb h,r.r4.below hb h,r.r5.below hb h,r.r6.below hb h⟩
theorem fB.more(r:fB w B m x)(h:B<=B'):fB w B' m x:=⟨r.r0.more h,r.r1.more h,r.r2.more h,r.r3.more h,r.r4.more h,r.r5.more h,r.r6.more h⟩
theorem fB.up(r:fB w w.heap.size m x)(hb:Below w.heap.size w w'):fB w' w'.heap.size m x:=(r.below hb lR).more hb.size
end
theorem e_(l:List Nat):(d9 l).length=l.length:=by unfold d9;rw[jO]
theorem fS{l:List Nat}(h:l[i]?=some u):(d9 l)[i]?=some (u:Int):=by unfold d9;rw[iY,h];rfl
theorem mQ(x:bO):(gV x).length=x.brs.length:=by unfold gV LU;rw[jO,jO]
theorem rQ(x:bO):(CC x).length=x.brs.length:=by unfold CC LU;rw[jO,jO]
theorem pF(x:bO):(mB x).length=x.brs.length:=by unfold mB;rw[jO]
theorem OX(x:bO):(mC x).length=x.brs.length:=by unfold mC;rw[jO]
theorem aBN(g:Nat)(m:iU)(v:Value)(free:List Nat)(u:Nat)(w:Wo)(hb:aG w g 122 (m.cells v))(hr:o_ w w.heap.size m.A6 m.n6 (d9 free))(hn:m.n6<=9223372036854775807):Calls Tryz.prog 127 #[.pointer (some ⟨g,0,none⟩),.int .i64 (u:Int)] w fun e w'=>e=.returned (.int .i64 (EE (EC free u)))/\w=w':=by
 have c6:=hb.cell 6;have hl:=hb.lt;have HC:=lH (aCa m.A6 m.n6 m.c6 (d9 free) (u:Int) w hr hn);rw[aCb] at HC;obtain⟨A0,n0,c0,A1,n1,c1,A2,n2,c2,A3,n3,c3,A4,n4,c4,A5,n5,c5,A6,n6,k6⟩:=m;simp only[iU.cells] at c6 HC;clear hb hr;go_enter Tryz.func127,Tryz.ntmps127
 go_wp2_with fail
 refine HC.o.mono ?_;rintro e w' ⟨rfl,rfl⟩
 go_wp2_with fail
 go_ret;exact⟨rfl,rfl⟩
theorem ZE{gz:Nat}{v:Rv}(hb:aG w gz 115 (fX (List.replicate n v)).toArray)(hv:dD w w.heap.size 0 v)(h1:base<=gz)(h2:gz≠g)(hn:n<=1000000):tQ w base g ⟨some ⟨gz,0,none⟩,gz,n,List.replicate n v⟩ (List.replicate n 0):=
 ⟨by simp,by simp,by simp only[maxLen];omega,aEt hv,fun _=>⟨rfl,h1,h2,_,hb,by rw[rB];show(fX (List.replicate n v)).take (n*4)=_;rw[nL (by rw[eD,rB];exact lR)]⟩⟩
theorem ZD(hk:k<n):((o8 n).take k++List.replicate (n-k) []).set k (List.replicate n 0)=(o8 n).take (k+1)++List.replicate (n-(k+1)) []:=
 J2 (by unfold o8;rw[rB]) (by unfold o8;rw[List.getElem?_replicate,if_pos hk])
theorem fB.bm{m:iU}(r:fB w w.heap.size m x)(g:Below w.heap.size w w'):fB w' w'.heap.size m x:=(r.below g lR).more g.size
theorem AF{m:iU}{A:OA}{c:Nat}{u:Value}(h:(m.cells (.slice A n c))[i]?=some u):∃A' n' c',u=.slice A' n' c':=by
 have h2:u∈(m.cells (.slice A n c)).toList:=Array.mem_toList_iff.2 (Array.mem_of_getElem? h);simp only[iU.cells,List.mem_cons,List.not_mem_nil,or_false] at h2;rcases h2 with rfl | rfl | rfl | rfl | rfl | rfl | rfl | rfl<;>exact⟨_,_,_,rfl⟩
section
variable {w:Wo} {g T:Nat} {m:iU} {A:OA} {k c:Nat}
theorem o_.keepm{B:Nat}{zs:List Int}(h:o_ w B A0 n zs)(hb:aG w g T (m.cells (.slice A k c)))(i:Nat)(u:Value):o_ (w.setCell ⟨g,i,none⟩ u) B A0 n zs:=by
 refine⟨h.1,fun hn=>?_⟩;obtain⟨b,off,e,aU,hc⟩:=h.2 hn;refine⟨b,off,e,aU,fun j v hv=>?_⟩;have h1:=hc j v hv;rw[World.cell?_setCell_other]
 ·exact h1
 ·rintro e2
  injection e2 with e2;subst e2;rw[hb.cell] at h1;obtain⟨A',n',c',rfl⟩:=AF h1;unfold ints at hv;rw[iY] at hv;obtain⟨z,_,hz⟩:=Option.map_eq_some_iff.1 hv;cases hz
theorem dD.keepm{x:Rv}(h:dD w w.heap.size q x)(hb:aG w g T (m.cells (.slice A k c)))(hi:i<8)(u:Value):dD (w.setCell ⟨g,i,none⟩ u) (w.setCell ⟨g,i,none⟩ u).heap.size q x:=by
 obtain⟨y,hy⟩:∃y,(m.cells (.slice A k c))[i]?=some y:=⟨_,Array.getElem?_eq_getElem (by show i<8;exact hi)⟩;obtain⟨A',n',c',rfl⟩:=AF hy;have h0:c_ w w.heap.size q x.b1 x.A x.n x.c x.b2 x.A2 x.m x.d:=h;exact c_.keep h0 (v:=.slice A' n' c') (by rw[hb.cell];exact hy) (fun a b e=>by cases e) u
theorem iT.keepm{qs:List Rat}(h:iT w w.heap.size A0 n qs)(hb:aG w g T (m.cells (.slice A k c)))(hi:i<8)(u:Value):iT (w.setCell ⟨g,i,none⟩ u) (w.setCell ⟨g,i,none⟩ u).heap.size A0 n qs:=by
 obtain⟨vs,h1,h2,h3,h4⟩:=h;refine⟨vs,h1,h2,⟨h3.1,fun hn=>?_⟩,fun j q v hq hv=>(h4 j q v hq hv).keepm hb hi u⟩;obtain⟨b,off,e,aU,hc⟩:=h3.2 hn;have hbg:b≠g:=by
  rintro rfl;obtain⟨v,hv⟩:∃v,vs[0]?=some v:=eA (by omega);have:=hc 0 (.bool v.b1) (by have h5:=t_ hv 0 (by decide);simpa[Rv.cells] using h5);rw[Nat.add_zero,hb.cell] at this;obtain⟨A',n',c',e⟩:=AF this;cases e
 refine⟨b,off,e,by simpa[World.setCell] using aU,fun j v hv=>?_⟩;rw[World.cell?_setCell_other _ _ _ _ (fun e2=>hbg (by injection e2 with e2;exact e2.symm))];exact hc j v hv
theorem lQ.keepm(h:lQ w w.heap.size A0 n M)(hb:aG w g T (m.cells (.slice A k c)))(hA:∀b off,A0=some ⟨b,off,none⟩->b≠g)(hi:i<8)(u:Value):lQ (w.setCell ⟨g,i,none⟩ u) (w.setCell ⟨g,i,none⟩ u).heap.size A0 n M:=by
 obtain⟨hs,h1,h2,h3,h4⟩:=h;refine⟨hs,h1,h2,⟨h3.1,fun hn=>?_⟩,fun j z q hz hq=>⟨(h4 j z q hz hq).1.keepm hb hi u,(h4 j z q hz hq).2⟩⟩;obtain⟨b,off,e,aU,hc⟩:=h3.2 hn;refine⟨b,off,e,by simpa[World.setCell] using aU,fun j v hv=>?_⟩;rw[World.cell?_setCell_other _ _ _ _ (fun e2=>hA b off e (by injection e2 with e2;exact e2.symm))];exact hc j v hv
theorem fB.keepm{m':iU}(h:fB w w.heap.size m' x)(hb:aG w g T (m.cells (.slice A k c)))(hi:i<8)(u:Value):fB (w.setCell ⟨g,i,none⟩ u) (w.setCell ⟨g,i,none⟩ u).heap.size m' x:=by
 have hs:(w.setCell ⟨g,i,none⟩ u).heap.size=w.heap.size:=by simp[World.setCell]
 refine⟨?_,?_,?_,?_,h.r4.keepm hb hi u,h.r5.keepm hb hi u,?_⟩<;>rw[hs]
 ·exact h.r0.keepm hb i u
 ·exact h.r1.keepm hb i u
 ·exact h.r2.keepm hb i u
 ·exact h.r3.keepm hb i u
 ·exact h.r6.keepm hb i u
end
theorem kC.keepv{hs:List Mh}(m:kC B0 g w0 wr v piv hs L){h:Mh}{q:List Rat}{x u:Rv}{z:Rat}(hh:hs[i]?=some h)(hq:L[i]?=some q)(hj:j<q.length)(hu:dD wr wr.heap.size z u):dD (eO wr h.g j x) (eO wr h.g j x).heap.size z u:=by
 have hr:=m.own.row i h q hh hq;obtain⟨h1,h2,h3,cs,h4,h5⟩:=hr.lies (by omega);obtain⟨y,hy⟩:∃y,h.vs[j]?=some y:=eA (by rw[hr.len];exact hj);exact dD.keep4 hu x h4 h5 hy
def aTK(g:Nat)(m:iU)(x:bO)(w:Wo)(e:Ending)(w':Wo):Prop:=e=.returned (.tuple #[])/\w.grownBy w' (some g)/\fB w' w'.heap.size m x/\∃A n c,aG w' g 122 (m.cells (.slice A n c))/\(aB4 x->n=(aA x).length/\lQ w' w'.heap.size A n (yZ x))
theorem fZ(ok:bJ x)(h8:x.nodes.length<=8):(aA x).length<=8:=by
 unfold aA lM;refine cO (List.length_filter_le _ _) ?_;rw[List.length_range];exact cO (eX ok).2 h8
theorem YH{B:List Rat}{F G:List Nat}{A:List (List Rat)}{v:Nat}{b:Rat}(h1:B[k]?=some b)(h2:F[k]?=some u)(h3:G[k]?=some v):zX free (B.drop k) (F.drop k) (G.drop k) A=zX free (B.drop (k+1)) (F.drop (k+1)) (G.drop (k+1)) (g_ free A b u v):=by
 rw[cM h1,cM h2,cM h3];rfl
theorem W5(g:Nat)(m:iU)(x:bO)(ok:bJ x)(h8:x.nodes.length<=8)(w:Wo)(hb:aG w g 122 (m.cells (.slice none 0 0)))(r:fB w w.heap.size m x):Calls Tryz.prog 93 #[.pointer (some ⟨g,0,none⟩)] w (aTK g m x w):=by
 have HG:=lH hb;have HR:=lH r;have E8:Hid ((aA x).length=m.n6):=lH (by rw[<-e_];exact r.r6.len);have mK:Hid (x.brs.length=m.n4):=lH (by rw[<-pF];exact r.r4.len);have iI:Hid (x.brs.length=m.n2):=lH (by rw[<-mQ,<-e_];exact r.r2.len);have tS:Hid (x.brs.length=m.n3):=lH (by rw[<-rQ,<-e_];exact r.r3.len);have h6:m.n6<=8:=by rw[<-E8.o];exact fZ ok h8
 have h4:m.n4<=24:=by rw[<-mK.o];exact ok.l2
 have NZ:Hid (∀q∈mB x,bI q<=1):=lH fun q hq=>by
  unfold mB at hq;obtain⟨b,hb,rfl⟩:=List.mem_map.1 hq;exact pK (ok.br b hb).2.2.2
 have UG:Hid (∀(u:Nat)(w':Wo),Below w.heap.size w w'->Calls Tryz.prog 127 #[.pointer (some ⟨g,0,none⟩),.int .i64 (u:Int)] w' fun e w''=>e=.returned (.int .i64 (EE (EC (aA x) u)))/\w''=w'):=lH fun u w' hb'=>
  (aBN g m _ (aA x) u w' (HG.o.bl hb') (r.r6.bm hb') (by omega)).mono fun e w'' h=>⟨h.1,h.2.symm⟩
 clear hb r ok h8;have y6:=HG.o.cell 6;have yl:=HG.o.lt;have vI:∀w:World,(Instr.makeSlice 92 (.int .i64 (m.n6:Int)) (.int .i64 (m.n6:Int))).run Tryz.prog w=.ok (.slice (some ⟨w.heap.size,0,none⟩) m.n6 m.n6) (w.alloc (.cells (fR m.n6) 93)):=fun w=>yG m.n6 (by omega) w;have HK:=lH ((Below.refl w.heap.size w).alloc lR (.cells (fR m.n6) 93));have Y1:=lH (aG.new w 93 (fR m.n6));obtain⟨A0,n0,c0,A1,n1,c1,A2,n2,c2,A3,n3,c3,A4,n4,c4,A5,n5,c5,A6,n6,c6⟩:=m;simp only[iU.cells] at HG y6 vI HK Y1 E8 mK iI tS h6 h4;go_enter Tryz.func93,Tryz.ntmps93
 go_wp2_with fail
 clear vI;generalize w.alloc (.cells (fR n6) 93)=W at *;have HO:=lH (yA Y1.o lR);generalize FS:w.heap.size=ga at *;have E_:=lH FS;clear FS Y1
 go_loopw [18] (fun v18 wr=>∃(k:Nat)(hs:List Mh),k<=n6/\v18=.int .i64 k/\Below ga w wr/\kB wr ga ga hs ((o8 n6).take k++List.replicate (n6-k) [])) (fun v18 _=>n6-(intOf v18).toNat)
 case atStart=>exact⟨0,_,by omega,rfl,HK.o,by rw[List.take_zero,List.nil_append,Nat.sub_zero];exact HO.o⟩
 case round=>
  clear HK HO;obtain⟨k,hs,hk,rfl,hb,ho⟩:=hrel;have HK:=lH hb;have HO:=lH ho;clear hb ho;by_cases aU:k<n6
  ·have fY:(k:Int)<(n6:Int):=by omega
   have l9:=lN k;have jV:Hid (n6-(k+1)<n6-k):=lH (by omega);have sL:Hid (ga<wr.heap.size):=lH HO.o.top.lt;clear y6 yl;(go_wp2_with fail);refine(mL n6 wr (by omega)).mono ?_;rintro e w7 ⟨iA,gz,vz,rfl,hgz,PE,hvz⟩;have sK:=lH (HO.o.up iA);have sC:Hid (tQ w7 ga ga ⟨some ⟨gz,0,none⟩,gz,n6,List.replicate n6 vz⟩ (List.replicate n6 0)):=lH (ZE PE hvz (by have:=sL.o;omega) (by have:=sL.o;omega) (by omega));have hO:=lH (HK.o.trans (iA.mono (pJ sL.o)));have Y4:Hid (∀j (h':Mh),j≠k->hs[j]?=some h'->0<h'.vs.length->0<(List.replicate n6 vz).length->h'.g≠gz):=lH fun j h' _ hh l1 l2=>by
    have h3:=HO.o.lt hh l1;omega
   clear iA PE hvz hgz HK HO;have gl:=sK.o.top.lt;have gf:=sK.o.top.frozen;have KQ:Hid (k<(((o8 n6).take k++List.replicate (n6-k) []):List (List Rat)).length):=lH (by simp[o8];omega);obtain⟨gv,gc⟩:∃gv,w7.cell? ⟨ga,k,none⟩=some gv:=by
    rw[sK.o.top.cell];exact⟨_,Array.getElem?_eq_getElem (by rw[List.size_toArray,jO,sK.o.len];exact KQ.o)⟩
   have E7:=lH (sK.o.setRow KQ.o sC.o Y4.o);rw[ZD aU,rB] at E7;(go_wp2_with fail);go_roundw
   case rel=>exact⟨k+1,_,aU,aO l9.o,hO.o.setCell lR _,E7.o⟩
   case measure=>exact jV.o
  ·have nH:k=n6:=by omega
   have DJ:Hid (kB wr ga ga hs (o8 n6)):=lH (by
    have h:=HO.o;rw[nH,Nat.sub_self,List.replicate_zero,List.append_nil,nL (by unfold o8;rw[rB];exact lR)] at h;exact h)
   have fY:¬(k:Int)<(n6:Int):=by omega
   have L5:Hid (Below w.heap.size w wr):=lH (by rw[E_.o];exact HK.o);have sM:=lH (HG.o.bl L5.o);have y4:=sM.o.cell 4;have yl1:=sM.o.lt;clear y6 yl HO nH;(go_wp2_with fail);clear y4 yl1 L5 sM;generalize wr=wz at *
   go_loopw [32] (fun v32 wr=>∃(k:Nat)(hs:List Mh) (A:List (List Rat)),k<=n4/\v32=.int .i64 k/\kC ga ga w wr (.slice none 0 0) [] hs A/\fM n6 (3+8*k) A/\zX (aA x) ((mB x).drop k) ((gV x).drop k) ((CC x).drop k) A=o5 x) (fun v32 _=>n4-(intOf v32).toNat)
   case atStart=>exact⟨0,hs,o8 n6,by omega,rfl,⟨DJ.o,eQ _ _ _ _ _,HK.o⟩,CX n6,by unfold o5;rw[E8.o];rfl⟩
   case round=>
    clear HK DJ;obtain⟨k,hs,A,hk,rfl,ho,pY,pD⟩:=hrel;have hb:=ho.low;obtain⟨dI,bU,kV⟩:=d_ ho pY pD;have HW:Hid (Below w.heap.size w wr):=lH (by rw[E_.o];exact hb);have sC:=lH ((HR.o.below hb lR).more (pJ ho.own.top.lt));have sM:=lH (HG.o.bl HW.o);clear hb ho pY pD;by_cases aU:k<n4
    ·obtain⟨q,hq⟩:∃q,(mB x)[k]?=some q:=eA (by rw[pF];have:=mK.o;omega)
     obtain⟨u,hu⟩:∃u,(gV x)[k]?=some u:=eA (by rw[mQ];have:=mK.o;omega);obtain⟨v,hv⟩:∃v,(CC x)[k]?=some v:=eA (by rw[rQ];have:=mK.o;omega);have gQ:=lH (YH (free:=aA x) (A:=A) hq hu hv);rw[kV.o] at gQ;have YT:=lH (NZ.o q (bV hq));have DE:=sC.o.r4;have AY:=sC.o.r2;have vR:=sC.o.r3;simp only at DE AY vR;obtain⟨ab,ao,CN,jA⟩:=DE.form (by omega);subst CN;obtain⟨xr,a0,a1,a2,a3,a4⟩:=DE.at_ hq;have HX:=lH a4;obtain⟨fb,fo,LR,qU,-⟩:=AY.2 (by have:=iI.o;have:=mK.o;omega);subst LR;have f0:=AY.at_ (fS hu);obtain⟨tb,to2,hA3,UW,-⟩:=vR.2 (by have:=tS.o;have:=mK.o;omega);subst hA3;have t0:=vR.at_ (fS hv);have fY:(k:Int)<(n4:Int):=by omega
     have rV:k<n2:=by have:=iI.o;have:=mK.o;omega
     have hk3:k<n3:=by have:=tS.o;have:=mK.o;omega
     have aSM:(k:Int)<(n2:Int):=by omega
     have aSL:(k:Int)<(n3:Int):=by omega
     have lB:=lZ k;have rJ:=jF k;have l9:=lN k;have jV:Hid (n4-(k+1)<n4-k):=lH (by omega);have a7K:Hid (ga<wr.heap.size):=lH dI.o.own.top.lt;clear hq hu hv a4 DE AY vR;(go_upto_region 10 with fail);clear a0 a1 a2 a3;generalize AW:wr.alloc (.cells #[.bool xr.b1,.slice xr.A xr.n xr.c,.bool xr.b2,.slice xr.A2 xr.m xr.d] 115)=wa;have pI:Below wr.heap.size wr wa:=by rw[<-AW];exact bA
     have HSX:Hid (aG wa wr.heap.size 115 #[.bool xr.b1,.slice xr.A xr.n xr.c,.bool xr.b2,.slice xr.A2 xr.m xr.d]):=lH (by rw[<-AW];exact aG.new wr _ _);have eU:Hid (DC wa ga wr.heap.size hs q xr):=lH ⟨HSX.o,HX.o.up pI,fun i h hh l=>dI.o.own.lt hh l⟩;replace dI:=lH (dI.o.up pI);replace sM:=lH (sM.o.bl pI);have f0':=(pI.cell (p:=⟨fb,fo+k,none⟩) qU).trans f0;have t0':=(pI.cell (p:=⟨tb,to2+k,none⟩) UW).trans t0;have uK:fb<wa.heap.size:=jE qU pI.size;have LM:tb<wa.heap.size:=jE UW pI.size;clear f0 t0 qU UW sC AW pI HSX HX;generalize hgx:wr.heap.size=gx at *;have HGX:=lH hgx;clear hgx;have HPA:Hid (∀(u N:Nat),Calls Tryz.prog 127 #[.pointer (some ⟨g,0,none⟩),.int .i64 (u:Int)] (wa.drewN N) fun e w''=>e=.returned (.int .i64 (EE (EC (aA x) u)))/\w''=wa.drewN N):=lH fun u N=>UG.o u (wa.drewN N) (bD dI.o.low N);have y2:=sM.o.cell 2;have y3:=sM.o.cell 3;have yl:=sM.o.lt
     go_quiet ((first | (go_at_call_of 127 (Value.int .i64 (u:Int));exact(HPA.o u _).mono (fun _ _ hh=>⟨hh.1,_,hh.2⟩)) | (go_at_call_of 127 (Value.int .i64 (v:Int));exact(HPA.o v _).mono (fun _ _ hh=>⟨hh.1,_,hh.2⟩))))
     replace dI:=lH (dI.o.up (bD bR nq));replace eU:=lH (eU.o.up (bD bR nq));clear HPA;replace sM:=lH (sM.o.drewN nq);have f0:(wa.drewN nq).cell? ⟨fb,fo+k,none⟩=some (.int .i64 (u:Int)):=f0';have t0:(wa.drewN nq).cell? ⟨tb,to2+k,none⟩=some (.int .i64 (v:Int)):=t0';have aYr:fb<(wa.drewN nq).heap.size:=uK;have aXi:tb<(wa.drewN nq).heap.size:=LM;clear f0' t0' uK LM y2 y3 yl;generalize wa.drewN nq=wd at *;have y2:=sM.o.cell 2;have y3:=sM.o.cell 3;have yl:=sM.o.lt;by_cases huv:u=v
     ·subst huv
      have LX:Hid (g_ (aA x) A q u u=A):=lH (by unfold g_;rw[if_pos rfl]);rw[LX.o] at gQ;(go_wp2_with fail)
      go_quiet (fail)
      (go_wp2_with fail);go_roundw
      case rel=>exact⟨k+1,hs,A,aU,aO l9.o,dI.o.up (bD bR _),bU.o.mono (by omega),gQ.o.symm⟩
      case measure=>exact jV.o
     ·have aXc:¬((u:Int)=(v:Int)):=by omega
      have aXd:((u:Int) == (v:Int))=false:=by simp;omega
      go_wp2_with fail
      go_quiet (fail)
      clear f0 t0 aYr aXi y2 y3 yl aXc aXd;replace dI:=lH (dI.o.up (bD bR nq));replace eU:=lH (eU.o.up (bD bR nq));clear sM;generalize wd.drewN nq=we at *;have yP:=lH E8.o;cases hpu:EC (aA x) u with
      | none=>
       cases hpv:EC (aA x) v with
       | none=>
        have LX:Hid (g_ (aA x) A q u v=A):=lH (by unfold g_;rw[if_neg huv,hpu,hpv]);rw[LX.o] at gQ;rw[(show EE (none:Option Nat)=-1 from rfl)];(go_wp2_with fail);go_roundw
        case rel=>exact⟨k+1,hs,A,aU,aO l9.o,dI.o,bU.o.mono (by omega),gQ.o.symm⟩
        case measure=>exact jV.o
       | some j=>
        have hi:=(eP hpv).1;rw[yP.o] at hi;have LX:Hid (g_ (aA x) A q u v=fK A j j q):=lH (by unfold g_;rw[if_neg huv,hpu,hpv]);rw[LX.o] at gQ;rw[(show EE (none:Option Nat)=-1 from rfl),show EE (some j)=(j:Int) from rfl];have DH:(j:Int)<(n6:Int):=by omega
        have kA:=lZ j;clear hpu hpv LX;(go_upto_region 15 with fail);obtain⟨ra,vG⟩:∃ra,A[j]?=some ra:=eA (by have:=bU.o.len;omega);have uG:ra.length=n6:=bU.o.wid ra (bV vG);obtain⟨gg,cc,vs,xe,hh,c,hx,c0,c1,c2',c3',hv,l1,f1,bX⟩:=dI.o.elem (i:=j) (j:=j) vG (by omega);rw[uG] at c;obtain⟨HH,GL,FZ,tR,vN⟩:=kN hh hx hv vG uG;have KL:Hid (bI (vf ra j)+bI q+1<=35184372088832):=lH (by have:=bU.o.bd.vf vG (j:=j) (by omega);have:=YT.o;omega);have gl:=dI.o.own.top.lt;obtain⟨z0,z1,z2,z3,zl⟩:=eU.o.blk.b4;have bM:=lH (aK (Below.refl we.heap.size we));have uI:(j:Int)<(n6:Int):=by omega
        have uJ:=lZ j;have uH:=jF j;clear hh hx hv vG uG;refine kX 15 (fun hHeld=>?_);simp only[nI,List.take_zero];refine cW [0,1,2,3,4,5,6,7,8,9,10,11,12] ?_;refine bQ 13 (fun K hK=>?_);go_simp;refine(EZ (FZ.o.up bM.o) (eU.o.val.up bM.o) KL.o).mono ?_;rintro e w8 ⟨gP,v8,rfl,h8⟩;have dR:Hid (Below we.heap.size we w8):=lH (bM.o.tm gP);have H8:=lH h8;clear gP h8;go_simp;refine gZ hK dR.o (fun hHeld=>?_);clear hK K;refine cW [14] ?_;refine eM ?_;clear hHeld;have tT:=lH (dI.o.up dR.o);have YL:=lH (eU.o.up dR.o);clear c c0 c1 c2' c3' l1 f1 bX gl z0 z1 z2 z3 zl dI eU FZ KL bM;obtain⟨c0,c1,c2',c3',l1,f1⟩:=tT.o.elem2 HH.o tR.o GL.o;(go_upto_region 16 with fail);clear c0 c1 c2' c3' l1 f1;have dI:=tT.o.put HH.o tR.o (j:=j) (x:=v8) (by rw[vN.o];omega) H8.o;have eU:=YL.o.put tT.o HH.o tR.o (j:=j) (x:=v8) (by rw[vN.o];omega);rw[<-gT tR.o] at dI;replace bU:Hid (fM n6 (3+8*k+2) (fK A j j q)):=lH (bU.o.add (by omega) (by omega) YT.o);simp only[eO] at dI eU;generalize (((w8.setCell ⟨gg,j*4,none⟩ _).setCell ⟨gg,j*4+1,none⟩ _).setCell ⟨gg,j*4+2,none⟩ _).setCell ⟨gg,j*4+3,none⟩ _=wf at *;replace dI:=lH dI;replace eU:=lH eU;generalize hs.set j _=wZ at *;obtain⟨A1,CN⟩:∃A1,fK A j j q=A1:=⟨_,rfl⟩;rw[CN] at dI bU;have HA1:=lH CN;clear CN tT YL H8 dR HH tR vN GL uI uJ uH;rw[HA1.o] at gQ;(go_wp2_with fail);go_roundw
        case rel=>exact⟨k+1,wZ,A1,aU,aO l9.o,dI.o,bU.o.mono (by omega),gQ.o.symm⟩
        case measure=>exact jV.o
      | some i=>
       cases hpv:EC (aA x) v with
       | none=>
        have hi:=(eP hpu).1;rw[yP.o] at hi;have LX:Hid (g_ (aA x) A q u v=fK A i i q):=lH (by unfold g_;rw[if_neg huv,hpu,hpv]);rw[LX.o] at gQ;rw[(show EE (none:Option Nat)=-1 from rfl),show EE (some i)=(i:Int) from rfl];have DH:(i:Int)<(n6:Int):=by omega
        have kA:=lZ i;clear hpu hpv LX;(go_upto_region 13 with fail);obtain⟨ra,vG⟩:∃ra,A[i]?=some ra:=eA (by have:=bU.o.len;omega);have uG:ra.length=n6:=bU.o.wid ra (bV vG);obtain⟨gg,cc,vs,xe,hh,c,hx,c0,c1,c2',c3',hv,l1,f1,bX⟩:=dI.o.elem (i:=i) (j:=i) vG (by omega);rw[uG] at c;obtain⟨HH,GL,FZ,tR,vN⟩:=kN hh hx hv vG uG;have KL:Hid (bI (vf ra i)+bI q+1<=35184372088832):=lH (by have:=bU.o.bd.vf vG (j:=i) (by omega);have:=YT.o;omega);have gl:=dI.o.own.top.lt;obtain⟨z0,z1,z2,z3,zl⟩:=eU.o.blk.b4;have bM:=lH (aK (Below.refl we.heap.size we));have uI:(i:Int)<(n6:Int):=by omega
        have uJ:=lZ i;have uH:=jF i;clear hh hx hv vG uG;refine kX 15 (fun hHeld=>?_);simp only[nI,List.take_zero];refine cW [0,1,2,3,4,5,6,7,8,9,10,11,12] ?_;refine bQ 13 (fun K hK=>?_);go_simp;refine(EZ (FZ.o.up bM.o) (eU.o.val.up bM.o) KL.o).mono ?_;rintro e w8 ⟨gP,v8,rfl,h8⟩;have dR:Hid (Below we.heap.size we w8):=lH (bM.o.tm gP);have H8:=lH h8;clear gP h8;go_simp;refine gZ hK dR.o (fun hHeld=>?_);clear hK K;refine cW [14] ?_;refine eM ?_;clear hHeld;have tT:=lH (dI.o.up dR.o);have YL:=lH (eU.o.up dR.o);clear c c0 c1 c2' c3' l1 f1 bX gl z0 z1 z2 z3 zl dI eU FZ KL bM;obtain⟨c0,c1,c2',c3',l1,f1⟩:=tT.o.elem2 HH.o tR.o GL.o;(go_upto_region 14 with fail);clear c0 c1 c2' c3' l1 f1;have dI:=tT.o.put HH.o tR.o (j:=i) (x:=v8) (by rw[vN.o];omega) H8.o;have eU:=YL.o.put tT.o HH.o tR.o (j:=i) (x:=v8) (by rw[vN.o];omega);rw[<-gT tR.o] at dI;replace bU:Hid (fM n6 (3+8*k+2) (fK A i i q)):=lH (bU.o.add (by omega) (by omega) YT.o);simp only[eO] at dI eU;generalize (((w8.setCell ⟨gg,i*4,none⟩ _).setCell ⟨gg,i*4+1,none⟩ _).setCell ⟨gg,i*4+2,none⟩ _).setCell ⟨gg,i*4+3,none⟩ _=wf at *;replace dI:=lH dI;replace eU:=lH eU;generalize hs.set i _=wZ at *;obtain⟨A1,CN⟩:∃A1,fK A i i q=A1:=⟨_,rfl⟩;rw[CN] at dI bU;have HA1:=lH CN;clear CN tT YL H8 dR HH tR vN GL uI uJ uH;rw[HA1.o] at gQ;(go_wp2_with fail);go_roundw
        case rel=>exact⟨k+1,wZ,A1,aU,aO l9.o,dI.o,bU.o.mono (by omega),gQ.o.symm⟩
        case measure=>exact jV.o
       | some j=>
        have hi:=(eP hpu).1;have hj:=(eP hpv).1;have tE:=aNm hpu hpv huv;rw[yP.o] at hi hj;have LX:Hid (g_ (aA x) A q u v=fK (fK (fK (fK A i i q) j j q) i j (-q)) j i (-q)):=lH (by unfold g_;rw[if_neg huv,hpu,hpv]);rw[LX.o] at gQ;rw[show EE (some i)=(i:Int) from rfl,show EE (some j)=(j:Int) from rfl];have DH:(i:Int)<(n6:Int):=by omega
        have kA:=lZ i;have XO:(j:Int)<(n6:Int):=by omega
        have GE:=lZ j;clear hpu hpv LX;(go_upto_region 13 with fail);obtain⟨ra,vG⟩:∃ra,A[i]?=some ra:=eA (by have:=bU.o.len;omega);have uG:ra.length=n6:=bU.o.wid ra (bV vG);obtain⟨gg,cc,vs,xe,hh,c,hx,c0,c1,c2',c3',hv,l1,f1,bX⟩:=dI.o.elem (i:=i) (j:=i) vG (by omega);rw[uG] at c;obtain⟨HH,GL,FZ,tR,vN⟩:=kN hh hx hv vG uG;have KL:Hid (bI (vf ra i)+bI q+1<=35184372088832):=lH (by have:=bU.o.bd.vf vG (j:=i) (by omega);have:=YT.o;omega);have gl:=dI.o.own.top.lt;obtain⟨z0,z1,z2,z3,zl⟩:=eU.o.blk.b4;have bM:=lH (aK (Below.refl we.heap.size we));have uI:(i:Int)<(n6:Int):=by omega
        have uJ:=lZ i;have uH:=jF i;clear hh hx hv vG uG;refine kX 15 (fun hHeld=>?_);simp only[nI,List.take_zero];refine cW [0,1,2,3,4,5,6,7,8,9,10,11,12] ?_;refine bQ 13 (fun K hK=>?_);go_simp;refine(EZ (FZ.o.up bM.o) (eU.o.val.up bM.o) KL.o).mono ?_;rintro e w8 ⟨gP,v8,rfl,h8⟩;have dR:Hid (Below we.heap.size we w8):=lH (bM.o.tm gP);have H8:=lH h8;clear gP h8;go_simp;refine gZ hK dR.o (fun hHeld=>?_);clear hK K;refine cW [14] ?_;refine eM ?_;clear hHeld;have tT:=lH (dI.o.up dR.o);have YL:=lH (eU.o.up dR.o);clear c c0 c1 c2' c3' l1 f1 bX gl z0 z1 z2 z3 zl dI eU FZ KL bM;obtain⟨c0,c1,c2',c3',l1,f1⟩:=tT.o.elem2 HH.o tR.o GL.o;(go_upto_region 15 with fail);clear c0 c1 c2' c3' l1 f1;have dI:=tT.o.put HH.o tR.o (j:=i) (x:=v8) (by rw[vN.o];omega) H8.o;have eU:=YL.o.put tT.o HH.o tR.o (j:=i) (x:=v8) (by rw[vN.o];omega);rw[<-gT tR.o] at dI;replace bU:Hid (fM n6 (3+8*k+2) (fK A i i q)):=lH (bU.o.add (by omega) (by omega) YT.o);simp only[eO] at dI eU;generalize (((w8.setCell ⟨gg,i*4,none⟩ _).setCell ⟨gg,i*4+1,none⟩ _).setCell ⟨gg,i*4+2,none⟩ _).setCell ⟨gg,i*4+3,none⟩ _=wf at *;replace dI:=lH dI;replace eU:=lH eU;generalize hs.set i _=wZ at *;obtain⟨A1,CN⟩:∃A1,fK A i i q=A1:=⟨_,rfl⟩;rw[CN] at dI bU;have HA1:=lH CN;clear CN tT YL H8 dR HH tR vN GL uI uJ uH;rw[HA1.o] at gQ;obtain⟨ra,vG⟩:∃ra,A1[j]?=some ra:=eA (by have:=bU.o.len;omega);have uG:ra.length=n6:=bU.o.wid ra (bV vG);obtain⟨gg,cc,vs,xe,hh,c,hx,c0,c1,c2',c3',hv,l1,f1,bX⟩:=dI.o.elem (i:=j) (j:=j) vG (by omega);rw[uG] at c;obtain⟨HH,GL,FZ,tR,vN⟩:=kN hh hx hv vG uG;have KL:Hid (bI (vf ra j)+bI q+1<=35184372088832):=lH (by have:=bU.o.bd.vf vG (j:=j) (by omega);have:=YT.o;omega);have gl:=dI.o.own.top.lt;obtain⟨z0,z1,z2,z3,zl⟩:=eU.o.blk.b4;have bM:=lH (aK (Below.refl wf.heap.size wf));have uI:(j:Int)<(n6:Int):=by omega
        have uJ:=lZ j;have uH:=jF j;clear hh hx hv vG uG;refine kX 15 (fun hHeld=>?_);simp only[nI,List.take_zero];refine cW [0,1,2,3,4,5,6,7,8,9,10,11,12] ?_;refine bQ 13 (fun K hK=>?_);go_simp;refine(EZ (FZ.o.up bM.o) (eU.o.val.up bM.o) KL.o).mono ?_;rintro e w8 ⟨gP,v8,rfl,h8⟩;have dR:Hid (Below wf.heap.size wf w8):=lH (bM.o.tm gP);have H8:=lH h8;clear gP h8;go_simp;refine gZ hK dR.o (fun hHeld=>?_);clear hK K;refine cW [14] ?_;refine eM ?_;clear hHeld;have tT:=lH (dI.o.up dR.o);have YL:=lH (eU.o.up dR.o);clear c c0 c1 c2' c3' l1 f1 bX gl z0 z1 z2 z3 zl dI eU FZ KL bM;obtain⟨c0,c1,c2',c3',l1,f1⟩:=tT.o.elem2 HH.o tR.o GL.o;(go_upto_region 17 with fail);clear c0 c1 c2' c3' l1 f1;have dI:=tT.o.put HH.o tR.o (j:=j) (x:=v8) (by rw[vN.o];omega) H8.o;have eU:=YL.o.put tT.o HH.o tR.o (j:=j) (x:=v8) (by rw[vN.o];omega);rw[<-gT tR.o] at dI;replace bU:Hid (fM n6 (3+8*k+2+2) (fK A1 j j q)):=lH (bU.o.add (by omega) (by omega) YT.o);simp only[eO] at dI eU;generalize (((w8.setCell ⟨gg,j*4,none⟩ _).setCell ⟨gg,j*4+1,none⟩ _).setCell ⟨gg,j*4+2,none⟩ _).setCell ⟨gg,j*4+3,none⟩ _=wg at *;replace dI:=lH dI;replace eU:=lH eU;generalize wZ.set j _=wY at *;obtain⟨A2,LR⟩:∃A2,fK A1 j j q=A2:=⟨_,rfl⟩;rw[LR] at dI bU;have HA2:=lH LR;clear LR tT YL H8 dR HH tR vN GL uI uJ uH;rw[HA2.o] at gQ;obtain⟨ra,vG⟩:∃ra,A2[i]?=some ra:=eA (by have:=bU.o.len;omega);obtain⟨rb,AX⟩:∃rb,A2[j]?=some rb:=eA (by have:=bU.o.len;omega);have uG:ra.length=n6:=bU.o.wid ra (bV vG);have aNX:rb.length=n6:=bU.o.wid rb (bV AX);obtain⟨g1,k1,vs1,x1,hh1,p,p0,p1,p2,p3,p4,nG,l1,f1,aXH⟩:=dI.o.elem (i:=i) (j:=j) vG (by omega);obtain⟨g2,k2,vs2,x2,hh2,e,e0,e1,e2,e3,e4,lA,l2,f2,SZ⟩:=dI.o.elem (i:=j) (j:=i) AX (by omega);rw[uG] at p;rw[aNX] at e;obtain⟨HH1,HH2,eB,f_,lT⟩:=kN hh1 hh2 p0 e0 nG;obtain⟨sJ,tR,HRB,aUp,a0a⟩:=kN lA vG AX uG aNX;have aUw:Hid (bI (vf ra j)+bI q+1<=35184372088832):=lH (by have:=bU.o.bd.vf vG (j:=j) (by omega);have:=YT.o;omega);have aUv:Hid (bI (vf rb i)+bI q+1<=35184372088832):=lH (by have:=bU.o.bd.vf AX (j:=i) (by omega);have:=YT.o;omega);have HIJ:=lH tE;have gl:=dI.o.own.top.lt;obtain⟨z0,z1,z2,z3,zl⟩:=eU.o.blk.b4;have bM:=lH (aK (Below.refl wg.heap.size wg));have kT:=jF i;have rE:=jF j;clear hh1 hh2 p0 e0 nG lA vG AX uG aNX tE;refine DQ (S:=fun w'=>Below wg.heap.size wg w') 28 9 _ _ _ _ (.int .i64 (i:Int)) (by kernel_rfl) (by kernel_rfl) (by kernel_rfl) (by kernel_rfl) rfl (by decide) (by kernel_rfl) rfl rfl rfl (by kernel_rfl) (fun _ _ _ h=>h) (by rfl) (fun w'=>by go_simp<;>with_reducible rfl) (aK bR) (fun hHeld=>?_);simp only[nI,List.take_zero];(try simp only[Act.put,gL,gK,gJ]);refine cW [0,1,2,3,4,5,6,7,8,10,11,12,13,14,15,16,17,19,20,21,22,23,24,25,26] ?_;refine bQ 18 (fun K hK=>?_);go_simp;refine(OC (lT.o.up bM.o) (eU.o.val.up bM.o) aUw.o).mono ?_;rintro e8 w8 ⟨gP,v8,rfl,h8⟩;have dR:Hid (Below wg.heap.size wg w8):=lH (bM.o.tm gP);have H8:=lH h8;clear gP h8;go_simp;refine gZ hK dR.o (fun hHeld=>?_);clear hK K;refine bQ 27 (fun K hK=>?_);go_simp;refine(OC (sJ.o.up dR.o) (eU.o.val.up dR.o) aUv.o).mono ?_;rintro e9 w9 ⟨gA,v9,rfl,h9⟩;have eV:Hid (Below wg.heap.size wg w9):=lH (dR.o.tm gA);have H9:=lH h9;replace H8:=lH (H8.o.up gA);clear gA h9;go_simp;refine gZ hK eV.o (fun hHeld=>?_);clear hK K;refine cW [28] ?_;refine eM ?_;clear hHeld;have UJ:=lH (dI.o.up eV.o);clear p p1 p2 p3 p4 l1 f1 aXH e e1 e2 e3 e4 l2 f2 SZ gl z0 z1 z2 z3 zl dI eU lT sJ aUw aUv bM dR;obtain⟨p1,p2,p3,p4,l1,f1⟩:=UJ.o.elem2 HH1.o tR.o eB.o;go_simp;have aC9:=UJ.o.put HH1.o tR.o (j:=j) (x:=v8) (by rw[aUp.o];omega) H8.o;have H10:=kC.keepv (x:=v8) UJ.o HH1.o tR.o (j:=j) (by rw[aUp.o];omega) H9.o;rw[Rat.sub_eq_add_neg,<-gT tR.o] at aC9;have aPr:Hid ((fK A2 i j (-q))[j]?=some rb):=lH (by rw[gT tR.o,List.getElem?_set_ne HIJ.o];exact HRB.o);have aU0:=lH ((List.getElem?_set_ne (l:=wY) (a:=(⟨some ⟨g1,0,none⟩,g1,k1,vs1.set j v8⟩:Mh)) HIJ.o).trans HH2.o);replace bU:Hid (fM n6 (3+8*k+2+2+2+2) (fK (fK A2 i j (-q)) j i (-q))):=lH ((bU.o.add (i:=i) (j:=j) (q:=-q) (by omega) (by omega) (by rw[m9];exact YT.o)).add (by omega) (by omega) (by rw[m9];exact YT.o));simp only[eO] at aC9 H10;generalize (((w9.setCell ⟨g1,j*4,none⟩ _).setCell ⟨g1,j*4+1,none⟩ _).setCell ⟨g1,j*4+2,none⟩ _).setCell ⟨g1,j*4+3,none⟩ _=wh at *;replace aC9:=lH aC9;replace H10:=lH H10;generalize fK A2 i j (-q)=A3 at *;generalize wY.set i _=hs3 at *;clear p1 p2 p3 p4 l1 f1 UJ H8 H9 eV;obtain⟨e1,e2,e3,e4,l2,f2⟩:=aC9.o.elem2 aU0.o aPr.o f_.o;refine dK (by rfl) ?_;go_simp;refine dK (by rfl) ?_;(go_wp2_with fail);go_roundw
        case rel=>
         have GO:=aC9.o.put aU0.o aPr.o (j:=i) (x:=v9) (by rw[a0a.o];omega) H10.o;rw[Rat.sub_eq_add_neg,<-gT aPr.o] at GO;exact⟨k+1,_,_,aU,aO l9.o,GO,bU.o.mono (by omega),gQ.o.symm⟩
        case measure=>exact jV.o
    ·have nH:k=n4:=by omega
     have HA:Hid (A=o5 x):=lH (by
      have h:=kV.o;rw[List.drop_eq_nil_of_le (by rw[pF];have:=mK.o;omega)] at h;exact h)
     rw[HA.o] at dI bU;have fY:¬(k:Int)<(n4:Int):=by omega
     have hmr:(o5 x).length=n6:=bU.o.len;have HRM:Hid (lQ wr wr.heap.size (some ⟨ga,0,none⟩) n6 (o5 x)):=lH (by have h:=dI.o.own.rd;rwa[hmr] at h);have hpw:4^n6<=4^8:=Nat.pow_le_pow_right (by decide) h6;have U5:=lH (MX (some ⟨ga,0,none⟩) n6 n6 (3+8*k) (o5 x) wr HRM.o (by omega) bU.o.wid bU.o.bd (by omega) (cO (Nat.mul_le_mul hpw lR) (by omega)));have mA:=lH hmr;clear kV HA nH hpw hmr HRM bU aU hk;(go_wp2_with fail);refine U5.o.mono ?_;rintro e w1 ⟨bC,halt⟩;have bT:Hid (Below ga w w1):=lH (dI.o.low.trans (bC.mono (pJ dI.o.own.top.lt)));have HWL:Hid (ga<=wr.heap.size):=lH (pJ dI.o.own.top.lt);have HWS:Hid (ga<=w1.heap.size):=lH (by have:=bT.o.size;have:=E_.o;omega);have vY:=lH ((HR.o.below bT.o lR).more HWS.o);have iJ:=lH (HG.o.below bT.o (by have:=HG.o.lt;have:=E_.o;omega));have HGR:Hid (∀u,w.grownBy (w1.setCell ⟨g,7,none⟩ u) (some g)):=lH fun u=>gU (iF (by rw[E_.o];exact bT.o) _) (.inl rfl) u;have IM:Hid (∀u,aG (w1.setCell ⟨g,7,none⟩ u) g 122 #[.slice A0 n0 c0,.slice A1 n1 c1,.slice A2 n2 c2,.slice A3 n3 c3,.slice A4 n4 c4,.slice A5 n5 c5,.slice A6 n6 c6,u]):=lH fun u=>iJ.o.set_at (i:=7) u (by simp)
     have HKM:Hid (∀u,fB (w1.setCell ⟨g,7,none⟩ u) (w1.setCell ⟨g,7,none⟩ u).heap.size ⟨A0,n0,c0,A1,n1,c1,A2,n2,c2,A3,n3,c3,A4,n4,c4,A5,n5,c5,A6,n6,c6⟩ x):=lH fun u=>vY.o.keepm (m:=⟨A0,n0,c0,A1,n1,c1,A2,n2,c2,A3,n3,c3,A4,n4,c4,A5,n5,c5,A6,n6,c6⟩) iJ.o (by decide) u;rw[mA.o] at halt;have aHw:Hid (aB4 x<->¬(nJ (iH (o5 x)) n6).2.length<n6):=lH (by unfold aB4;rw[E8.o]);have KS:Hid (yZ x=(nJ (iH (o5 x)) n6).1.map (List.drop n6)):=lH (by unfold yZ;rw[E8.o]);have y7:=iJ.o.cell 7;have yl:=iJ.o.lt;have yf:=iJ.o.frozen;clear bC U5 dI;rcases halt with⟨hh,rfl⟩ | ⟨hh,g2,rfl,lO,hrm⟩
     ·have HNR:Hid (¬aB4 x):=lH fun h=>aHw.o.1 h hh
      clear hh aHw KS;(go_wp2_with fail)
      go_end0
      exact⟨rfl,HGR.o _,HKM.o _,none,0,0,IM.o _,fun h=>absurd h HNR.o⟩
     ·have aZ6:Hid (∀u,lQ (w1.setCell ⟨g,7,none⟩ u) (w1.setCell ⟨g,7,none⟩ u).heap.size (some ⟨g2,0,none⟩) n6 (yZ x)):=lH fun u=>by
       rw[KS.o];refine lQ.keepm (m:=⟨A0,n0,c0,A1,n1,c1,A2,n2,c2,A3,n3,c3,A4,n4,c4,A5,n5,c5,A6,n6,c6⟩) hrm iJ.o (fun b off e=>?_) (by decide) u;injection e with e;injection e with e1 e2;have:=HG.o.lt;have:=E_.o;have:=HWL.o;omega
      clear hh hrm aHw KS;(go_wp2_with fail)
      go_end0
      exact⟨rfl,HGR.o _,HKM.o _,some ⟨g2,0,none⟩,n6,n6,IM.o _,fun h=>⟨E8.o.symm,aZ6.o _⟩⟩
end
