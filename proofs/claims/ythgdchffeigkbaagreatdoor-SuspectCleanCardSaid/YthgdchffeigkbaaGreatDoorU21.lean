import Derived.Test.YthgdchffeigkbaaGreatDoorU13
import Derived.Test.YthgdchffeigkbaaGreatDoorU18
import Derived.Test.YthgdchffeigkbaaGreatDoorU19
set_option linter.unusedVariables false
set_option linter.unusedSimpArgs false
namespace Go.Proofs.YthgdchffeigkbaaGreatDoor
set_option maxHeartbeats 8000000
set_option maxRecDepth 100000
section
open Go.ChangeShapes Go.WideShapes Go.ChangeAt Go.RowKit
attribute [local go_sem ↓] execOp_call_val
attribute [local go_sem] callVal_func setCell_drewN alloc_drewN sEq_walk
def IsI (u:Value):Prop:=∃ x,u=.int .i64 x
theorem RtV.keepsI {w w':World} {base e:Nat} {q:Rat} {v:Rv} (h:RtV w w.heap.size q v) (k:Keeps IsI base e w w'):RtV w' w'.heap.size q v:=by
 have key:∀ {A:Option Addr} {n:Nat} {l:List Nat},RdW w w.heap.size A n l→RdW w' w'.heap.size A n l:=fun h=>⟨h.1,fun hn=>by
  obtain ⟨b,off,e,hlt,hc⟩:=h.2 hn;refine ⟨b,off,e,zJ_ hlt k.size,fun j u hu=>k.cell _ _ (hc j u hu) ?_⟩;obtain ⟨x,rfl⟩:=u32_int hu;rintro ⟨y,hy⟩;cases hy⟩
 exact ⟨⟨h.num.eb,h.num.en,key h.num.rd,h.num.nc,h.num.cm⟩,⟨h.den.eb,h.den.en,key h.den.rd,h.den.nc,h.den.cm⟩⟩
theorem OwnM.keepsI {w w':World} {base base' g:Nat} {hs:List Mh} {M:List (List Rat)} (o:OwnM w base g hs M) (k:Keeps IsI base' 3 w w'):OwnM w' base g hs M:=
 ⟨k.blk _ _ _ o.top (by decide),o.len,o.gb,fun i h q hh hq=>by
  have r:=o.row i h q hh hq;refine ⟨r.len,r.cap,r.cm,fun a p v hp hv=>(r.ok a p v hp hv).keepsI k,fun h0=>?_⟩;obtain ⟨h1,h2,h3,cs,h4,h5⟩:=r.lies h0;exact ⟨h1,h2,h3,cs,k.blk _ _ _ h4 (by decide),h5⟩,o.dis⟩
theorem Blk.apart {w:World} {g g' t t':Nat} {cs cs':Array Value} (h:Blk w g t cs) (h':Blk w g' t' cs') (ht:t≠t'):g≠g':=by
 rintro rfl;have h2:some (Obj.cells cs t (0,0))=some (Obj.cells cs' t' (0,0)):=h.symm.trans h';injection h2 with h2;injection h2 with _ h2;exact ht h2
theorem OwnS.far {S:Value→Prop} {w:World} {base e size n g t i:Nat} {v u:Value} {xs:List Value} {cs:Array Value} (h:OwnS S w base e size v n xs) (hb:Blk w g t cs) (ht:e≠t):OwnS S (w.setCell ⟨g,i,none⟩ u) base e size v n xs:=by
 refine ⟨h.1,?_⟩;rcases h.2 with h1 | ⟨b,cap,cur,h1,h2,h3,h4⟩
 ·exact .inl h1
 ·exact .inr ⟨b,cap,cur,h1,h2,h3.far (h3.apart hb ht) u,h4⟩
theorem OwnS.far4 {S:Value→Prop} {w:World} {base e size n g t i:Nat} {v:Value} {x:Rv} {xs:List Value} {cs:Array Value} (h:OwnS S w base e size v n xs) (hb:Blk w g t cs) (ht:e≠t):OwnS S (putV w g i x) base e size v n xs:=by
 have b1:=hb.set_ (i*4) (.bool x.b1);have b2:=b1.set_ (i*4+1) (.slice x.A x.n x.c);have b3:=b2.set_ (i*4+2) (.bool x.b2);exact (((h.far hb ht).far b1 ht).far b2 ht).far b3 ht
def natI (l:List Nat):List Value:=l.map fun (x:Nat)=>Value.int .i64 (x:Int)
def RedP (M:List (List Rat)) (cols:Nat) (w:World) (e:Ending) (w':World):Prop:=Below w.heap.size w w'∧∃ g hs v,e=.returned (.tuple #[.slice (some ⟨g,0,none⟩) M.length M.length,v])∧OwnM w' w.heap.size g hs (redR M cols).1∧OwnS IsI w' w.heap.size 3 1 v (redR M cols).2.length (natI (redR M cols).2)
structure MatS (B0 g:Nat) (w0 wr:World) (v:Value) (piv:List Nat) (hs:List Mh) (L:List (List Rat)):Prop where
 own:OwnM wr B0 g hs L
 pv:OwnS IsI wr B0 3 1 v piv.length (natI piv)
 low:Below B0 w0 wr
section
variable {B0 g:Nat} {w0 wr w':World} {v:Value} {piv:List Nat} {hs:List Mh} {L:List (List Rat)}
theorem MatS.le (m:MatS B0 g w0 wr v piv hs L):B0≤wr.heap.size:=zI_ m.own.gb (zQ_ m.own.top.lt)
theorem MatS.up (m:MatS B0 g w0 wr v piv hs L) (hb:Below wr.heap.size wr w'):MatS B0 g w0 w' v piv hs L:=⟨m.own.up hb,m.pv.keep hb,m.low.trans (hb.mono m.le)⟩
theorem MatS.put (m:MatS B0 g w0 wr v piv hs L) {i j:Nat} {h:Mh} {q:List Rat} {x:Rv} {y:Rat} (hh:hs[i]?=some h) (hq:L[i]?=some q) (hj:j<q.length) (hv:RtV wr wr.heap.size y x):MatS B0 g w0 (putV wr h.g j x) v piv (hs.set i ⟨h.A,h.g,h.c,h.vs.set j x⟩) (L.set i (q.set j y)):=by
 obtain ⟨h1,h2,h3,cs,h4,h5⟩:=(m.own.row i h q hh hq).lies (by omega);exact ⟨m.own.put hh hq hj hv,m.pv.far4 h4 (by decide),below_putV m.low h2⟩
theorem MatS.swap (m:MatS B0 g w0 wr v piv hs L) {r p:Nat} {a b:List Rat} {ha hb:Mh} (h1:hs[r]?=some ha) (h2:hs[p]?=some hb) (h3:L[r]?=some a) (h4:L[p]?=some b) :
    MatS B0 g w0 ((wr.setCell ⟨g,r,none⟩ (.slice hb.A b.length hb.c)).setCell ⟨g,p,none⟩ (.slice ha.A a.length ha.c)) v piv ((hs.set r hb).set p ha) ((L.set r b).set p a):=
 ⟨m.own.swap h1 h2 h3 h4,(m.pv.far m.own.top (by decide)).far (m.own.top.set_ _ _) (by decide),(m.low.setCell m.own.gb _).setCell m.own.gb _⟩
theorem MatS.elem (m:MatS B0 g w0 wr v piv hs L) {i j:Nat} {q:List Rat} (hq:L[i]?=some q) (hj:j<q.length):∃ (gg c:Nat) (vs:List Rv) (x:Rv),hs[i]?=some ⟨some ⟨gg,0,none⟩,gg,c,vs⟩∧wr.cell? ⟨g,i,none⟩=some (.slice (some ⟨gg,0,none⟩) q.length c)∧vs[j]?=some x∧
    wr.cell? ⟨gg,j*4,none⟩=some (.bool x.b1)∧wr.cell? ⟨gg,j*4+1,none⟩=some (.slice x.A x.n x.c)∧wr.cell? ⟨gg,j*4+2,none⟩=some (.bool x.b2)∧wr.cell? ⟨gg,j*4+3,none⟩=some (.slice x.A2 x.m x.d)∧RtV wr wr.heap.size (vf q j) x∧gg<wr.heap.size∧(∀ o,wr.frozen? ⟨gg,o,none⟩=false)∧g≠gg:=by
 obtain ⟨⟨A,gg,c,vs⟩,hh,hc,hr⟩:=m.own.get hq;obtain ⟨h1,h2,h3,cs,h4,h5⟩:=hr.lies (by omega);simp only at h1 hc;subst h1;obtain ⟨x,hx⟩:∃ x,vs[j]?=some x:=zX_ (by have:=hr.len;simp only at this;omega);obtain ⟨c0,c1,c2,c3⟩:=h4.row_cell h5 hx;exact ⟨gg,c,vs,x,hh,hc,hx,c0,c1,c2,c3,hr.ok j _ x (vf_get hj) hx,h4.lt,h4.frozen,fun e=>h3 e.symm⟩
end
theorem MatS.elem2 {B0 g:Nat} {w0 wr:World} {v:Value} {piv:List Nat} {hs:List Mh} {L:List (List Rat)} (m:MatS B0 g w0 wr v piv hs L) {i j:Nat} {q:List Rat} {A:Option Addr} {gg c:Nat} {vs:List Rv} {x:Rv} (hh:hs[i]?=some ⟨A,gg,c,vs⟩) (hq:L[i]?=some q) (hx:vs[j]?=some x) :
    wr.cell? ⟨gg,j*4,none⟩=some (.bool x.b1)∧wr.cell? ⟨gg,j*4+1,none⟩=some (.slice x.A x.n x.c)∧wr.cell? ⟨gg,j*4+2,none⟩=some (.bool x.b2)∧wr.cell? ⟨gg,j*4+3,none⟩=some (.slice x.A2 x.m x.d)∧gg<wr.heap.size∧(∀ o,wr.frozen? ⟨gg,o,none⟩=false):=by
 have hr:=m.own.row i _ q hh hq;have hxl:=(zB_.1 hx).1;obtain ⟨h1,h2,h3,cs,h4,h5⟩:=hr.lies (by have:=hr.len;simp only at this;omega);obtain ⟨c0,c1,c2,c3⟩:=h4.row_cell h5 hx;exact ⟨c0,c1,c2,c3,h4.lt,h4.frozen⟩
structure BoxS (wr:World) (g gd:Nat) (hs:List Mh) (y:Rat) (x:Rv):Prop where
 blk:Blk wr gd 115 #[.bool x.b1,.slice x.A x.n x.c,.bool x.b2,.slice x.A2 x.m x.d]
 val:RtV wr wr.heap.size y x
 far:∀ (i:Nat) (h:Mh),hs[i]?=some h→0<h.vs.length→h.g<gd
theorem BoxS.up {wr w':World} {g gd:Nat} {hs:List Mh} {y:Rat} {x:Rv} (b:BoxS wr g gd hs y x) (hb:Below wr.heap.size wr w'):BoxS w' g gd hs y x:=⟨b.blk.bl hb,b.val.up hb,b.far⟩
theorem BoxS.put {B0 g g2 gd:Nat} {w0 wr:World} {v:Value} {piv:List Nat} {hs:List Mh} {L:List (List Rat)} {z:Rat} {x u:Rv} (b:BoxS wr g2 gd hs z u) (m:MatS B0 g w0 wr v piv hs L) {i j:Nat} {h:Mh} {q:List Rat} (hh:hs[i]?=some h) (hq:L[i]?=some q) (hj:j<q.length):BoxS (putV wr h.g j x) g2 gd (hs.set i ⟨h.A,h.g,h.c,h.vs.set j x⟩) z u:=by
 have hr:=m.own.row i h q hh hq;obtain ⟨h1,h2,h3,cs,h4,h5⟩:=hr.lies (by omega);obtain ⟨y,hy⟩:∃ y,h.vs[j]?=some y:=zX_ (by rw [hr.len];exact hj);have hlt:=b.far i h hh (by rw [hr.len];omega);refine ⟨b.blk.far4 x (by omega),RtV.keep4 b.val x h4 h5 hy,fun k h' hk l=>?_⟩;rw [List.getElem?_set] at hk
 by_cases hik:i=k
 ·subst hik
  rw [if_pos rfl,if_pos (zB_.1 hh).1] at hk;injection hk with hk;subst hk;exact hlt
 ·rw [if_neg hik] at hk
  exact b.far k h' hk l
structure RedS (M:List (List Rat)) (N b cols k:Nat) (L:List (List Rat)) (piv:List Nat):Prop where
 ok:RedOk M L N piv k
 bd:Bd (4^k*b) L
 go:redGo (cols-k) L piv k=redR M cols
theorem info_intH:(Tryz.prog.info? 3).map (fun i=>(i.zero,i.size,i.bytes))=some (some (.int .i64 0),1,8):=by kernel_rfl
theorem zi_I:∀ u∈(Value.int .i64 0).cells.toList,IsI u:=fun u hu=>by
 have hu':u∈[Value.int .i64 0]:=hu;rw [List.mem_singleton] at hu';exact ⟨0,hu'⟩
theorem reduce_m (A:Option Addr) (n c cols N b:Nat) (M:List (List Rat)) (w:World) (hR:RdM w w.heap.size A n M) (hn:n≤1000000) (hw:∀ a∈M,a.length=N) (hN:N≤1000000) (hc:cols≤N) (hb:Bd b M) (hsz:4^cols*b≤4000000000000) :
    Calls Tryz.prog 124 #[.slice A n c,.int .i64 (cols:Int)] w (RedP M cols w):=by
 have HL:=lH hR.len;have HW:=lH hw;have HSZ:=lH hsz;have HBD:=lH hb;have HCP:=lH (copy_m A n c M w hR hn (fun a ha=>by rw [hw a ha];exact hN));obtain ⟨i0,hi0,hz0,hz1,hz2⟩:=info_parts info_intH;have HI0:=lH hi0;have HI1:=lH hz0;have HI2:=lH hz1;have HI3:=lH hz2;clear hR hw hb hsz hi0 hz0 hz1 hz2;go_enter Tryz.func124,Tryz.ntmps124
 go_wp2_with fail
 refine HCP.o.mono ?_;clear HCP;rintro e w1 ⟨hb1,g,hs,rfl,ho⟩;have HB1:=lH hb1;have HO1:=lH ho;clear hb1 ho;rw [HL.o];generalize hB0:w.heap.size=B0 at *;have HB0:=lH hB0;clear hB0;have HS0:Hid (RedS M N b cols 0 M []):=lH ⟨redOk_start HW.o,by simpa using HBD.o,rfl⟩;have HM0:Hid (MatS B0 g w w1 (.slice none 0 0) [] hs M):=lH ⟨HO1.o,ownS_none _ _ _ _ _,HB1.o⟩;clear HB1 HO1
 go_wp2_with fail
 go_loopw [6,7] (fun v6 v7 wr=>∃ (k:Nat) (L:List (List Rat)) (piv:List Nat) (hs:List Mh),k≤cols∧v7=.int .i64 k∧RedS M N b cols k L piv∧MatS B0 g w wr v6 piv hs L) (fun _ v7 _=>cols-(intOf v7).toNat)
 case atStart=>exact ⟨0,M,[],hs,Nat.zero_le _,rfl,HS0.o,HM0.o⟩
 case round=>
  clear HS0 HM0 hs;obtain ⟨k,L,piv,hs,hk,rfl,hst,hma⟩:=hrel;have HST:=lH hst;have HMA:=lH hma;have HLL:Hid (L.length=n):=lH (hst.ok.len.trans HL.o);obtain ⟨pA,pc,hv,hpc,hpm⟩:=hma.pv.shape;subst hv;clear hst hma;have HN1:=lN k;have HBK:Hid (4^k*b≤4000000000000):=lH (zI_ (pow4_le hk b) HSZ.o)
  by_cases hlt:k<cols
  ·have hkI:(k:Int)<(cols:Int):=by omega
   have HN2:Hid (cols-(k+1)<cols-k):=lH (by omega)
   by_cases hpl:piv.length<n
   ·generalize hr:piv.length=r at *
    have HPR:=lH hr;clear hr;have hrI:(r:Int)<(n:Int):=by omega
    go_wp2_with fail
    go_loopw [9] (fun v9 wr=>∃ p:Nat,r≤p∧p≤n∧v9=.int .i64 p∧(∀ (i:Nat) (b:List Rat),L[i]?=some b→r≤i→i<p→vf b k=0)∧MatS B0 g w wr (.slice pA r pc) piv hs L) (fun v9 _=>n-(intOf v9).toNat)
    case atStart=>exact ⟨r,lR,by omega,rfl,fun i b _ h1 h2=>by omega,HMA.o⟩
    case round=>
     clear HMA;obtain ⟨p,hrp,hpn,rfl,hz,hma⟩:=hrel;have HMA:=lH hma;have HZ:=lH hz;clear hma hz
     by_cases hp:p<n
     ·obtain ⟨q,hq⟩:∃ q,L[p]?=some q:=zX_ (by have:=HLL.o;omega)
      have HQL:Hid (q.length=N):=lH (HST.o.ok.wid q (zC_ hq));obtain ⟨gg,cc,vs,x,hh,c,hx,c0,c1,c2,c3,hv,l1,f1,hne⟩:=HMA.o.elem (j:=k) hq (by have:=HQL.o;omega);have HQ:=lH hq;have HH:=lH hh;have HX:=lH hx;have HV:=lH hv;have hpI:(p:Int)<(n:Int):=by omega
      rw [HQL.o] at c;have hkN:(k:Int)<(N:Int):=by omega
      clear hq hh hx hv
      by_cases h0:vf q k=0
      ·have HN3:=lN p
       have HN4:Hid (n-(p+1)<n-p):=lH (by omega);have HZ1:Hid (∀ (i:Nat) (b:List Rat),L[i]?=some b→r≤i→i<p+1→vf b k=0):=lH fun i b h1 h2 h3=>by
        by_cases h4:i=p
        ·subst h4
         have h5:=HQ.o;rw [h1] at h5;injection h5 with h5;subst h5;exact h0
        ·exact HZ.o i b h1 h2 (by omega)
       go_wp2_with fail
       refine (signV HV.o).mono ?_;rw [h0];rintro e w5 ⟨rfl,hb5⟩;have HM5:=lH (HMA.o.up hb5);clear hb5 c c0 c1 c2 c3 l1 f1 HMA h0
       go_wp2_with fail
       go_roundw
       case rel=>exact ⟨p+1,by omega,hp,val_int HN3.o,HZ1.o,HM5.o⟩
       case measure=>exact HN4.o
      ·have HSG:Hid ((vf q k).num.sign≠0):=lH (fun h=>h0 (by
        have:=Int.sign_eq_zero_iff_zero.1 h;exact Rat.num_eq_zero.1 this))
       have HPV:Hid (pivR L r k=p):=lH (pivR_at hrp HQ.o h0 HZ.o);have HNZ:Hid (vf q k≠0):=lH h0;clear h0
       go_wp2_with fail
       refine (signV HV.o).mono ?_;generalize (vf q k).num.sign=sg at *;rintro e w5 ⟨rfl,hb5⟩;have HM5:=lH (HMA.o.up hb5);have hsg:(sg == 0)=false:=by have:=HSG.o;simp [this]
       have hpb:((p:Int) == (n:Int))=false:=by simp;omega
       clear hb5 c c0 c1 c2 c3 l1 f1 HMA HZ hne
       go_wp2_with fail
       obtain ⟨qr,hqr⟩:∃ qr,L[r]?=some qr:=zX_ (by have:=HLL.o;omega);have HRL:Hid (qr.length=N):=lH (HST.o.ok.wid qr (zC_ hqr));obtain ⟨⟨rA,rg,rc,rvv⟩,hhr,c1,-⟩:=HM5.o.own.get hqr;obtain ⟨_,hhp,c2,-⟩:=HM5.o.own.get HQ.o;rw [HH.o] at hhp;injection hhp with hhp;subst hhp;have hsw:=HM5.o.swap hhr HH.o hqr HQ.o;rw [HRL.o,HQL.o] at hsw;rw [HRL.o] at c1;rw [HQL.o] at c2;simp only at c1 c2 hsw;have HQR:=lH hqr;have HHR:=lH hhr;have HSW:=lH hsw;have gl:=HM5.o.own.top.lt;have gf:=HM5.o.own.top.frozen;obtain ⟨uu,c3⟩:∃ uu,(w5.setCell ⟨g,r,none⟩ (.slice (some ⟨gg,0,none⟩) N cc)).cell? ⟨g,p,none⟩=some uu:=by
        rw [(HM5.o.own.top.set_ r _).cell];exact ⟨_,Array.getElem?_eq_getElem (by simp;rw [HM5.o.own.len,HLL.o];exact hp)⟩
       clear hqr hhr hsw
       go_region
       clear c1 c2 c3 gl gf;generalize (w5.setCell ⟨g,r,none⟩ (.slice (some ⟨gg,0,none⟩) N cc)).setCell ⟨g,p,none⟩ (.slice rA N rc)=w6 at *;have HSL:Hid ((((L.set r q).set p qr).set r (divR (vf q k) q))=preStep L r p k):=lH (swap_pre HQR.o HQ.o);have HSR:Hid (((L.set r q).set p qr)[r]?=some q):=lH (swap_r HQR.o HQ.o);have HL1:Hid (((L.set r q).set p qr).length=n):=lH (by rw [zU_,zU_,HLL.o]);clear HHR HH HX HM5 HV;generalize (L.set r q).set p qr=L1 at *;generalize (hs.set r _).set p _=hs1 at *;obtain ⟨gg,cc,vs,x,hh,c,hx,c0,c1,c2,c3,hv,l1,f1,hne⟩:=HSW.o.elem (j:=k) HSR.o (by have:=HQL.o;omega);have HV:=lH hv;have gl:=HSW.o.own.top.lt;have gf:=HSW.o.own.top.frozen;rw [HQL.o] at c;clear hh hx hv
       go_upto_region 14 with fail
       clear c0 c1 c2 c3 gl gf l1 f1 hne;have hb7:Below w6.heap.size w6 (w6.alloc (.cells #[.bool x.b1,.slice x.A x.n x.c,.bool x.b2,.slice x.A2 x.m x.d] 115)).drew:=below_drew (bA);have HBX:Hid (BoxS (w6.alloc (.cells #[.bool x.b1,.slice x.A x.n x.c,.bool x.b2,.slice x.A2 x.m x.d] 115)).drew g w6.heap.size hs1 (vf q k) x):=lH ⟨(Blk.new w6 _ _).drew,HV.o.up hb7,fun i h hh l=>HSW.o.own.lt hh l⟩;have HM7:Hid (MatS B0 g w (w6.alloc (.cells #[.bool x.b1,.slice x.A x.n x.c,.bool x.b2,.slice x.A2 x.m x.d] 115)).drew (.slice pA r pc) piv hs1 (L1.set r (divP (vf q k) k k q))):=lH (by rw [divP_start,set_same HSR.o];exact HSW.o.up hb7);clear hb7 HSW HV;generalize (w6.alloc (.cells #[.bool x.b1,.slice x.A x.n x.c,.bool x.b2,.slice x.A2 x.m x.d] 115)).drew=w7 at *;generalize w6.heap.size=gd at *
       go_loopw [11] (fun v11 wr=>∃ (j:Nat) (hs:List Mh),k≤j∧j≤N∧v11=.int .i64 j∧MatS B0 g w wr (.slice pA r pc) piv hs (L1.set r (divP (vf q k) k j q))∧BoxS wr g gd hs (vf q k) x) (fun v11 _=>N-(intOf v11).toNat)
       case atStart=>exact ⟨k,hs1,lR,by omega,rfl,HM7.o,HBX.o⟩
       case round=>
        clear HM7 HBX hs1;obtain ⟨j,hs1,hkj,hjN,rfl,hma,hbx⟩:=hrel;have HMA:=lH hma;have HBX:=lH hbx;have HRJ:Hid ((L1.set r (divP (vf q k) k j q))[r]?=some (divP (vf q k) k j q)):=lH (by rw [List.getElem?_set_self (by rw [HL1.o];exact hpl)]);have HDL:Hid ((divP (vf q k) k j q).length=N):=lH (by rw [divP_len,HQL.o]);clear hma hbx
        by_cases hj:j<N
        ·have hjI:(j:Int)<(N:Int):=by omega
         have HN3:=lN j;have HN4:Hid (N-(j+1)<N-j):=lH (by omega);obtain ⟨gg,cc,vs,y,hh,c,hx,c0,c1,c2,c3,hv,l1,f1,hne⟩:=HMA.o.elem (j:=j) HRJ.o (by rw [HDL.o];exact hj);rw [HDL.o] at c;have gl:=HMA.o.own.top.lt;have bl:=HBX.o.blk.lt;have b0:=HBX.o.blk.cell 0;have b1:=HBX.o.blk.cell 1;have b2:=HBX.o.blk.cell 2;have b3:=HBX.o.blk.cell 3;have hvj:vf (divP (vf q k) k j q) j=vf q j:=vf_at (divP_at (vf_get (by rw [HQL.o];exact hj)));rw [hvj] at hv;have HY:=lH hv;have HH:=lH hh;have HX:=lH hx;clear hh hx hv hvj;have HB4:=lH (below_drew (Below.refl wr.heap.size wr))
         go_upto_region 16 with fail
         refine wp_region_last (S:=fun w'=>Below wr.heap.size wr w') 15 _ (by kernel_rfl) (by kernel_rfl) rfl (below_drew bR) (fun hHeld=>?_);simp only [zK_,List.take_zero];refine tkH 0 rfl ?_;refine tkH 1 rfl ?_;refine tkH 2 rfl ?_;refine tkH 3 rfl ?_;refine tkH 4 rfl ?_;refine tkH 5 rfl ?_;refine tkH 6 rfl ?_;refine tkH 7 rfl ?_;refine tkH 8 rfl ?_;refine tkH 9 rfl ?_;refine tkH 10 rfl ?_;refine tkH 11 rfl ?_;refine tkH 12 rfl ?_;refine stepH 13 (by kernel_rfl) rfl (fun K hK=>?_);go_simp;refine (divV (HY.o.up HB4.o) (HBX.o.val.up HB4.o) HNZ.o (by have:=HST.o.bd.vf HQ.o (j:=j) (by rw [HQL.o];exact hj);have:=HST.o.bd.vf HQ.o (j:=k) (by rw [HQL.o];omega);have:=HBK.o;omega)).mono ?_;rintro e w8 ⟨hb8,v8,rfl,h8⟩;have HB8:=lH (HB4.o.tm hb8);have H8:=lH h8;clear hb8 h8;go_simp;refine hK.out _ _ ?_ (fun hHeld=>?_)
         ·exact HB8.o
         clear hK K
         try simp only [Act.put,sA_,sB_,sC_]
         refine tkH 14 rfl ?_;refine wpAnyH_done (by kernel_rfl) ?_ _;refine lastQ_go (by rfl) ?_;clear hHeld;have HM8:=lH (HMA.o.up HB8.o);have HX8:=lH (HBX.o.up HB8.o);clear c c0 c1 c2 c3 l1 f1 hne gl bl b0 b1 b2 b3 HMA HBX;obtain ⟨c0,c1,c2,c3,l1,f1⟩:=HM8.o.elem2 HH.o HRJ.o HX.o
         go_wp2_with fail
         go_roundw
         case rel=>exact ⟨j+1,_,by omega,hj,val_int HN3.o,by
          have h:=HM8.o.put HH.o HRJ.o (by rw [HDL.o];exact hj) H8.o;rw [List.set_set,divP_step hkj (vf_get (by rw [HQL.o];exact hj))] at h;exact h,HX8.o.put HM8.o HH.o HRJ.o (by rw [HDL.o];exact hj)⟩
         case measure=>exact HN4.o
        ·have hjN2:j=N:=by omega
         subst hjN2;have hjI:¬(j:Int)<(j:Int):=by omega
         have HM8:Hid (MatS B0 g w wr (.slice pA r pc) piv hs1 (rowsP (preStep L r p k) (divR (vf q k) q) r k 0)):=lH (by
          rw [rowsP_start];have h:=HMA.o;rw [show divP (vf q k) k j q=divR (vf q k) q from by
           have:=divP_end (d:=vf q k) (piv_zero HST.o.ok.ech HQ.o (by rw [HPR.o];exact hrp));rw [HQL.o] at this;exact this,HSL.o] at h
          exact h)
         obtain ⟨ra,hra,c,-⟩:=HMA.o.own.get HRJ.o;rw [HDL.o] at c;have gl:=HMA.o.own.top.lt
         go_wp2_with fail
         clear c gl hra HMA HBX HRJ HDL hjI;have HRL:Hid ((divR (vf q k) q).length=j):=lH (by rw [divR_len,HQL.o]);have HRZ:Hid (∀ t,t<k→vf (divR (vf q k) q) t=0):=lH fun t ht=>div_zero (piv_zero HST.o.ok.ech HQ.o (by rw [HPR.o];exact hrp) t ht) (by rw [HQL.o];omega);have HP2:Hid ((preStep L r p k)[r]?=some (divR (vf q k) q)):=lH (pre_r HQR.o HQ.o);have HPW:Hid (∀ a∈preStep L r p k,a.length=j):=lH (pre_width HST.o.ok.wid HQR.o HQ.o);have HPL:Hid ((preStep L r p k).length=n):=lH (by rw [preStep_len,HLL.o]);have HPE:Hid (rowsP (preStep L r p k) (divR (vf q k) q) r k n=colStep L r p k):=lH (by rw [←HLL.o];exact rowsP_end HQ.o);have HPB:Hid (∀ (i t:Nat) (a:List Rat),i≠r→(preStep L r p k)[i]?=some a→t<j→qsz (vf a t)+1≤4000000000000):=lH fun i t a hir ha ht=>by
          obtain ⟨s,hs,_⟩:=pre_src HQR.o HQ.o hir ha;have:=HST.o.bd.vf hs (j:=t) (by rw [HST.o.ok.wid a (zC_ hs)];exact ht);have:=HBK.o;omega
         have HPD:Hid (∀ t,t<j→qsz (vf (divR (vf q k) q) t)+2≤8000000000000):=lH fun t ht=>by
          have:=div_bd HST.o.bd HQ.o (by rw [HQL.o];omega) _ (zC_ (vf_get (l:=divR (vf q k) q) (i:=t) (by rw [HRL.o];exact ht)));have:=HBK.o;omega
         generalize preStep L r p k=M2 at *;generalize divR (vf q k) q=R at *;generalize wr=wz at *
         go_loopw [101] (fun v101 wr=>∃ (i:Nat) (hs:List Mh),i≤n∧v101=.int .i64 i∧MatS B0 g w wr (.slice pA r pc) piv hs (rowsP M2 R r k i)) (fun v101 _=>n-(intOf v101).toNat)
         case atStart=>exact ⟨0,hs1,Nat.zero_le _,rfl,HM8.o⟩
         case round=>
          clear HM8 hs1;obtain ⟨i,hs1,hin,rfl,hma⟩:=hrel;have HMA:=lH hma;clear hma
          by_cases hi:i<n
          ·have hiI:(i:Int)<(n:Int):=by omega
           have HN3:=lN i;have HN4:Hid (n-(i+1)<n-i):=lH (by omega)
           by_cases hir:i=r
           ·subst hir
            go_wp2_with fail
            go_roundw
            case rel=>exact ⟨i+1,hs1,hi,val_int HN3.o,by rw [rowsP_self];exact HMA.o⟩
            case measure=>exact HN4.o
           ·have hib:((i:Int) == (r:Int))=false:=by simp;omega
            obtain ⟨row,hrow⟩:∃ row,M2[i]?=some row:=zX_ (by rw [HPL.o];exact hi);have HRW:=lH hrow;have HRWL:Hid (row.length=j):=lH (HPW.o row (zC_ hrow));obtain ⟨gg,cc,vs,y,hh,c,hx,c0,c1,c2,c3,hv,l1,f1,hne⟩:=HMA.o.elem (j:=k) (rowsP_at hrow) (by rw [HRWL.o];omega);rw [HRWL.o] at c;have HV:=lH hv;have gl:=HMA.o.own.top.lt;clear hh hx hv hrow
            by_cases h0:vf row k=0
            ·have HSK:Hid (rowsP M2 R r k (i+1)=rowsP M2 R r k i):=lH (rowsP_skip (by rw [HRL.o,HRWL.o]) HRW.o h0)
             go_wp2_with fail
             refine (signV HV.o).mono ?_;rw [h0];rintro e w9 ⟨rfl,hb9⟩;have HM9:=lH (HMA.o.up hb9);clear hb9 c c0 c1 c2 c3 l1 f1 hne gl HMA h0
             go_wp2_with fail
             go_roundw
             case rel=>exact ⟨i+1,hs1,hi,val_int HN3.o,by rw [HSK.o];exact HM9.o⟩
             case measure=>exact HN4.o
            ·have HSG:Hid ((vf row k).num.sign≠0):=lH (fun h=>h0 (by
              have:=Int.sign_eq_zero_iff_zero.1 h;exact Rat.num_eq_zero.1 this))
             clear h0
             go_wp2_with fail
             refine (signV HV.o).mono ?_;generalize (vf row k).num.sign=sg at *;rintro e w9 ⟨rfl,hb9⟩;have HM9:=lH (HMA.o.up hb9);have hsg:(sg == 0)=false:=by have:=HSG.o;simp [this]
             clear hb9 c c0 c1 c2 c3 l1 f1 hne gl HMA HV;obtain ⟨gg,cc,vs,y,hh,c,hx,c0,c1,c2,c3,hv,l1,f1,hne⟩:=HM9.o.elem (j:=k) (rowsP_at HRW.o) (by rw [HRWL.o];omega);rw [HRWL.o] at c;have HV:=lH hv;have gl:=HM9.o.own.top.lt;clear hh hx hv
             go_upto_region 23 with fail
             clear c c0 c1 c2 c3 l1 f1 hne gl;have hb7:Below w9.heap.size w9 (w9.alloc (.cells #[.bool y.b1,.slice y.A y.n y.c,.bool y.b2,.slice y.A2 y.m y.d] 115)):=bA;have HBX:Hid (BoxS (w9.alloc (.cells #[.bool y.b1,.slice y.A y.n y.c,.bool y.b2,.slice y.A2 y.m y.d] 115)) g w9.heap.size hs1 (vf row k) y):=lH ⟨Blk.new w9 _ _,HV.o.up hb7,fun i h hh l=>HM9.o.own.lt hh l⟩;have HM7:Hid (MatS B0 g w (w9.alloc (.cells #[.bool y.b1,.slice y.A y.n y.c,.bool y.b2,.slice y.A2 y.m y.d] 115)) (.slice pA r pc) piv hs1 ((rowsP M2 R r k i).set i (subP (vf row k) R k k row))):=lH (by rw [subP_start,set_same (rowsP_at HRW.o)];exact HM9.o.up hb7);have HXR:Hid ((rowsP M2 R r k i)[r]?=some R):=lH (rowsP_r HP2.o);have HXE:Hid ((rowsP M2 R r k i).set i (subR (vf row k) R row)=rowsP M2 R r k (i+1)):=lH (rowsP_step hir HRW.o)
             have HXL:Hid ((rowsP M2 R r k i).length=n):=lH (by rw [rowsP_len,HPL.o]);clear hb7 HM9 HV;generalize rowsP M2 R r k i=X at *;generalize w9.alloc (.cells #[.bool y.b1,.slice y.A y.n y.c,.bool y.b2,.slice y.A2 y.m y.d] 115)=w10 at *;generalize w9.heap.size=gf at *;generalize wr=wy at *
             go_loopw [14] (fun v14 wr=>∃ (t:Nat) (hs:List Mh),k≤t∧t≤j∧v14=.int .i64 t∧MatS B0 g w wr (.slice pA r pc) piv hs (X.set i (subP (vf row k) R k t row))∧BoxS wr g gf hs (vf row k) y) (fun v14 _=>j-(intOf v14).toNat)
             case atStart=>exact ⟨k,hs1,lR,by omega,rfl,HM7.o,HBX.o⟩
             case round=>
              clear HM7 HBX hs1;obtain ⟨t,hs1,hkt,htj,rfl,hma,hbx⟩:=hrel;have HMA:=lH hma;have HBX:=lH hbx;have HTI:Hid ((X.set i (subP (vf row k) R k t row))[i]?=some (subP (vf row k) R k t row)):=lH (by rw [List.getElem?_set_self (by rw [HXL.o];exact hi)]);have HTR:Hid ((X.set i (subP (vf row k) R k t row))[r]?=some R):=lH (by rw [List.getElem?_set_ne hir];exact HXR.o);have HTL:Hid ((subP (vf row k) R k t row).length=j):=lH (by rw [subP_len,HRWL.o]);clear hma hbx
              by_cases ht:t<j
              ·have htI:(t:Int)<(j:Int):=by omega
               have HN5:=lN t;have HN6:Hid (j-(t+1)<j-t):=lH (by omega);have HTV:Hid (vf (subP (vf row k) R k t row) t=vf row t):=lH (vf_at (subP_at (vf_get (by rw [HRWL.o];exact ht))));obtain ⟨g2,cc2,vs2,z2,hh2,e0,hx2,e1,e2,e3,e4,hv2,l2,f2,hne2⟩:=HMA.o.elem (j:=t) HTI.o (by rw [HTL.o];exact ht);obtain ⟨g3,cc3,vs3,z3,hh3,d0,hx3,d1,d2,d3,d4,hv3,l3,f3,hne3⟩:=HMA.o.elem (j:=t) HTR.o (by rw [HRL.o];exact ht);rw [HTL.o] at e0;rw [HRL.o] at d0;have HV3:=lH hv3;have HH2:=lH hh2;have HX2:=lH hx2;have HH3:=lH hh3;have HX3:=lH hx3;have gl:=HMA.o.own.top.lt;clear hh2 hx2 hv2 hh3 hx3 hv3
               by_cases h0:vf R t=0
               ·have HSK:Hid (subP (vf row k) R k (t+1) row=subP (vf row k) R k t row):=lH (subP_skip h0)
                go_wp2_with fail
                refine (signV HV3.o).mono ?_;rw [h0];rintro e w11 ⟨rfl,hb11⟩;have HM11:=lH (HMA.o.up hb11);have HX11:=lH (HBX.o.up hb11);clear hb11 e0 e1 e2 e3 e4 l2 f2 hne2 d0 d1 d2 d3 d4 l3 f3 hne3 gl HMA HBX h0
                go_wp2_with fail
                go_roundw
                case rel=>exact ⟨t+1,hs1,by omega,ht,val_int HN5.o,by rw [HSK.o];exact HM11.o,HX11.o⟩
                case measure=>exact HN6.o
               ·have HSG:Hid ((vf R t).num.sign≠0):=lH (fun h=>h0 (by
                 have:=Int.sign_eq_zero_iff_zero.1 h;exact Rat.num_eq_zero.1 this))
                clear h0
                go_wp2_with fail
                refine (signV HV3.o).mono ?_;generalize (vf R t).num.sign=sg2 at *;rintro e w11 ⟨rfl,hb11⟩;have HM11:=lH (HMA.o.up hb11);have HX11:=lH (HBX.o.up hb11);have hsg2:(sg2 != 0)=true:=by have:=HSG.o;simp [this]
                clear hb11 e0 e1 e2 e3 e4 l2 f2 hne2 d0 d1 d2 d3 d4 l3 f3 hne3 gl HMA HBX HV3 HH2 HX2 HH3 HX3;obtain ⟨g2,cc2,vs2,z2,hh2,e0,hx2,e1,e2,e3,e4,hv2,l2,f2,hne2⟩:=HM11.o.elem (j:=t) HTI.o (by rw [HTL.o];exact ht);obtain ⟨g3,cc3,vs3,z3,hh3,d0,hx3,d1,d2,d3,d4,hv3,l3,f3,hne3⟩:=HM11.o.elem (j:=t) HTR.o (by rw [HRL.o];exact ht);rw [HTL.o] at e0;rw [HRL.o] at d0;rw [HTV.o] at hv2;have HV2:=lH hv2;have HV3:=lH hv3;have HH2:=lH hh2;have HX2:=lH hx2;have gl:=HM11.o.own.top.lt;have bl:=HX11.o.blk.lt;have b0:=HX11.o.blk.cell 0;have b1:=HX11.o.blk.cell 1;have b2:=HX11.o.blk.cell 2;have b3:=HX11.o.blk.cell 3;have HB4:=lH (below_drew (Below.refl w11.heap.size w11));have HZ1:Hid (qsz (vf row k)+1≤4000000000000):=lH (HPB.o i k row hir HRW.o (by omega));have HZ2:Hid (qsz (vf row t)+1≤4000000000000):=lH (HPB.o i t row hir HRW.o ht);have HZ3:Hid (qsz (vf R t)+2≤8000000000000):=lH (HPD.o t ht)
                clear hh2 hx2 hv2 hh3 hx3 hv3
                go_upto_region 26 with fail
                refine wp_region_last (S:=fun w'=>Below w11.heap.size w11 w') 23 _ (by kernel_rfl) (by kernel_rfl) rfl (below_drew bR) (fun hHeld=>?_);simp only [zK_,List.take_zero];refine tkH 0 rfl ?_;refine tkH 1 rfl ?_;refine tkH 2 rfl ?_;refine tkH 3 rfl ?_;refine tkH 4 rfl ?_;refine tkH 5 rfl ?_;refine tkH 6 rfl ?_;refine tkH 7 rfl ?_;refine tkH 8 rfl ?_;refine tkH 9 rfl ?_;refine tkH 10 rfl ?_;refine tkH 11 rfl ?_;refine tkH 12 rfl ?_;refine tkH 13 rfl ?_;refine tkH 14 rfl ?_;refine tkH 15 rfl ?_;refine tkH 16 rfl ?_;refine tkH 17 rfl ?_;refine tkH 18 rfl ?_;refine tkH 19 rfl ?_;refine stepH 20 (by kernel_rfl) rfl (fun K hK=>?_);go_simp;refine (mulV (HX11.o.val.up HB4.o) (HV3.o.up HB4.o) (by have:=HZ1.o;have:=HZ3.o;omega)).mono ?_;rintro e w12 ⟨hb12,v12,rfl,h12⟩;have HB12:=lH (HB4.o.tm hb12);have H12:=lH h12;clear hb12 h12;go_simp
                refine hK.out _ _ ?_ (fun hHeld=>?_)
                ·exact HB12.o
                clear hK K
                try simp only [Act.put,sA_,sB_,sC_]
                refine stepH 21 (by kernel_rfl) rfl (fun K hK=>?_);go_simp;refine (subV (HV2.o.up HB12.o) H12.o (by have:=HZ1.o;have:=HZ3.o;have:=HZ2.o;have:=mul_qsz (vf row k) (vf R t);omega)).mono ?_;rintro e w13 ⟨hb13,v13,rfl,h13⟩;have HB13:=lH (HB12.o.tm hb13);have H13:=lH h13;clear hb13 h13;go_simp;refine hK.out _ _ ?_ (fun hHeld=>?_)
                ·exact HB13.o
                clear hK K
                try simp only [Act.put,sA_,sB_,sC_]
                refine tkH 22 rfl ?_;refine wpAnyH_done (by kernel_rfl) ?_ _;refine lastQ_go (by rfl) ?_;clear hHeld;have HM13:=lH (HM11.o.up HB13.o);have HX13:=lH (HX11.o.up HB13.o);clear e0 e1 e2 e3 e4 l2 f2 hne2 d0 d1 d2 d3 d4 l3 f3 hne3 gl bl b0 b1 b2 b3 HM11 HX11 HB4 HB12 HB13 HV2 HV3 H12;obtain ⟨e1,e2,e3,e4,l2,f2⟩:=HM13.o.elem2 HH2.o HTI.o HX2.o
                go_wp2_with fail
                go_roundw
                case rel=>exact ⟨t+1,_,by omega,ht,val_int HN5.o,by
                 have h:=HM13.o.put HH2.o HTI.o (by rw [HTL.o];exact ht) H13.o;rw [List.set_set,subP_step hkt (vf_get (by rw [HRWL.o];exact ht))] at h;exact h,HX13.o.put HM13.o HH2.o HTI.o (by rw [HTL.o];exact ht)⟩
                case measure=>exact HN6.o
              ·have htj2:t=j:=by omega
               subst htj2;have htI:¬(t:Int)<(t:Int):=by omega
               have HM11:Hid (MatS B0 g w wr (.slice pA r pc) piv hs1 (rowsP M2 R r k (i+1))):=lH (by
                have h:=HMA.o;rw [show subP (vf row k) R k t row=subR (vf row k) R row from by
                 have:=subP_end (f:=vf row k) (R:=R) (row:=row) (by rw [HRL.o,HRWL.o]) HRZ.o;rw [HRWL.o] at this;exact this,HXE.o] at h
                exact h)
               obtain ⟨ra2,hra,c,-⟩:=HMA.o.own.get HTI.o;rw [HTL.o] at c;have gl:=HMA.o.own.top.lt;clear hra
               go_wp2_with fail
               go_roundw
               case rel=>exact ⟨i+1,hs1,hi,val_int HN3.o,HM11.o⟩
               case measure=>exact HN4.o
          ·have hin2:i=n:=by omega
           subst hin2;have hiI:¬(i:Int)<(i:Int):=by omega
           have HM8:Hid (MatS B0 g w wr (.slice pA r pc) piv hs1 (colStep L r p k)):=lH (by rw [←HPE.o];exact HMA.o);have HS1:Hid (RedS M j b cols (k+1) (colStep L r p k) (piv++[k])):=lH (by
            have hne:pivR L piv.length k≠L.length:=by rw [HPR.o,HPV.o,HLL.o];omega
            have hpl2:piv.length<L.length:=by rw [HPR.o,HLL.o];exact hpl
            have h1:=HST.o.ok.step (by omega) hpl2 hne;rw [HPR.o,HPV.o] at h1;refine ⟨h1,?_,?_⟩
            ·rw [Nat.pow_succ,Nat.mul_comm (4^k) 4,Nat.mul_assoc]
             exact col_bd HST.o.bd HST.o.ok.wid HQR.o HQ.o (by omega)
            ·have h:=HST.o.go
             rw [show cols-k=(cols-(k+1))+1 from by omega,redGo_some (p:=p) hpl2 (by rw [HPR.o];exact HPV.o) (by rw [HLL.o];omega),HPR.o] at h;exact h)
           have HPO:Hid (OwnS IsI wr B0 3 1 (.slice pA r pc) r (natI piv)):=lH (by have h:=HM8.o.pv;rw [HPR.o] at h;exact h);have hgl:=HM8.o.le;clear HMA
           go_upto_region 28 with fail
           go_wp2_with (at_builtin;refine wpList_appS (S:=IsI) rfl (.tmp 168) (.tmp 170) _ rfl B0 3 i0 _ 1 8 Tryz.underlying30 HI0.o HI1.o HI2.o HI3.o rfl (by omega) zi_I (.slice pA r pc) r (natI piv) rfl HPO.o rfl rfl ?k1 ?k2 ?k3 hgl ?_)
           case k1=>simp [Value.oneCell',IsI]
           case k2=>simp only [maxLen];omega
           case k3=>omega
           intro v' w9 hown hk9 hblk;have HM9:Hid (MatS B0 g w w9 v' (piv++[k]) hs1 (colStep L r p k)):=lH (by
            have hb9:Below wr.heap.size wr (wr.alloc (.cells #[.int .i64 (k:Int)] 3)):=bA;refine ⟨(HM8.o.own.up hb9).keepsI hk9,?_,(HM8.o.low.trans (hb9.mono hgl)).trans hk9.low⟩;rw [zE_,List.length_singleton,HPR.o];unfold natI;rw [List.map_append];exact hown)
           clear hown hk9 hblk HM8 HPO hgl
           go_wp2_with fail
           go_roundw
           case rel=>exact ⟨k+1,_,_,hs1,hlt,val_int HN1.o,HS1.o,HM9.o⟩
           case measure=>exact HN2.o
     ·have hpn2:p=n:=by omega
      subst hpn2;have hpI:¬(p:Int)<(p:Int):=by omega
      have HPV:Hid (pivR L piv.length k=L.length):=lH (pivR_end (by rw [HLL.o,HPR.o];exact hrp) (fun i b h1 h2=>HZ.o i b h1 (by rw [←HPR.o];exact h2) (by rw [←HLL.o];exact (zB_.1 h1).1)));have HS1:Hid (RedS M N b cols (k+1) L piv):=lH ⟨HST.o.ok.skip HPV.o,HST.o.bd.mono (pow4_le (Nat.le_succ k) b),by
       have h:=HST.o.go;rw [show cols-k=(cols-(k+1))+1 from by omega,redGo_none (by rw [HLL.o,HPR.o];exact hpl) HPV.o] at h;exact h⟩
      go_wp2_with fail
      go_roundw
      case rel=>exact ⟨k+1,L,piv,hs,hlt,val_int HN1.o,HS1.o,HMA.o⟩
      case measure=>exact HN2.o
   ·have hrI:¬(piv.length:Int)<(n:Int):=by omega
    have HFIN:Hid (redR M cols=(L,piv)):=lH (by rw [←HST.o.go];exact redGo_full (by rw [HLL.o];exact hpl));generalize hr:piv.length=r at *;have HPR:=lH hr;clear hr
    go_wp2_with fail
    go_ret2;refine ⟨by rw [HB0.o];exact HMA.o.low,g,hs,.slice pA r pc,by rw [HL.o];rfl,?_,?_⟩
    ·rw [HFIN.o,HB0.o];exact HMA.o.own
    ·rw [HFIN.o,HB0.o];exact HMA.o.pv
  ·have hkI:¬(k:Int)<(cols:Int):=by omega
   have HFIN:Hid (redR M cols=(L,piv)):=lH (by
    rw [←HST.o.go,show cols-k=0 from by omega];rfl)
   generalize hr:piv.length=r at *;have HPR:=lH hr;clear hr
   go_wp2_with fail
   go_ret2;refine ⟨by rw [HB0.o];exact HMA.o.low,g,hs,.slice pA r pc,by rw [HL.o];rfl,?_,?_⟩
   ·rw [HFIN.o,HB0.o];exact HMA.o.own
   ·rw [HFIN.o,HB0.o];exact HMA.o.pv
structure RkOk (M:List (List Rat)) (N b:Nat):Prop where
 wid:∀ a∈M,a.length=N
 bd:Bd b M
 sz:4^N*b≤4000000000000
 len:M.length≤1000000
 n:N≤1000000
end
end Go.Proofs.YthgdchffeigkbaaGreatDoor
