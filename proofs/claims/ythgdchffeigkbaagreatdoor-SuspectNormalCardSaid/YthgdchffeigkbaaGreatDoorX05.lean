import Derived.Test.YthgdchffeigkbaaGreatDoorX03
import Derived.Test.YthgdchffeigkbaaGreatDoorX04
import Derived.Deep.DeepCutAuto
set_option linter.unusedVariables false
set_option linter.unusedSimpArgs false
namespace Go.Proofs.YthgdchffeigkbaaGreatDoor
set_option maxHeartbeats 4000000
set_option maxRecDepth 100000
section
section
open Go Go.RowKit
variable {P:Program} {Q:Exit->Act->World->Prop} {md:Region.Mode}
theorem bP {α:Type _} {l:List α} {i:Nat} {a:α}:l.toArray.setIfInBounds i a=(l.set i a).toArray:=List.setIfInBounds_toArray _ _ _
theorem bO {α:Type _} {x:α} {xs:List α} {a:α}:(x::xs).set 0 a=a::xs:=rfl
theorem bN {α:Type _} {x:α} {xs:List α} {n:Nat} {a:α}:(x::xs).set (n+1) a=x::xs.set n a:=rfl
theorem aL {L:List Oper} {W:Wo} (i:Nat) {oi:Oper} {v:Value} {fuel:Nat} {listed:Array Bool} {a a':Act} {w:Wo} (hi:L[i]?=some oi) (h:wpAnyH P md L.toArray Q (fun w'=>Below W.heap.size W w') fuel (listed.setIfInBounds i true) a' w) (hy:∀ w',Below W.heap.size W w'->(∀ b o,b<W.heap.size->w'.cell? ⟨b,o,none⟩=W.cell? ⟨b,o,none⟩)->(execOp a.eval oi).run P w'=.ok (.value v) w':=by intro w' _ OG;go_simp<;>with_reducible rfl) (ha:a.put oi.dst v=a':=by (try simp only [Act.put,bP,bO,bN]);rfl) (hS:Below W.heap.size W w:=by assumption) (hB:yU md L.toArray listed i=true:=by kernel_rfl) (hQ:∀ c a w,Q (.panic c) (a.put oi.dst v) w->Q (.panic c) a w:=by exact fun _ _ _ h=>h) (hw:Region.wanted oi (yielded L.toArray a.tmps)=true:=by rfl):wpAnyH P md L.toArray Q (fun w'=>Below W.heap.size W w') (fuel+1) listed a w:=
 cK i hi hB hQ hw (fun w' h=>hy w' h (aME h).1) hS (by rw [ha];exact h)
end
end
section
open Go.ChangeShapes Go.WideShapes Go.ChangeAt Go.RowKit
attribute [local go_sem ↓] aE
attribute [local go_sem] aK aH aM
theorem jG (m:Bool) (A:OA) (n c:Nat) (ws:List Nat) (w:Wo) (hr:iR w w.heap.size A n ws) (hd:Wd ws) (hn:n<=c) (hc:c<=9223372036854775807) :
    Calls Tryz.prog 141 #[.bool m,.slice A n c] w (LgP (BJ m (wv ws)) w):=by
 have HR:=lH hr;have HD:=lH hd;have HL:=lH hr.len;have HK:=lH ((Below.refl w.heap.size w).alloc lR (.cells #[.bool false,.slice none 0 0] 113));clear hr hd;go_enter Tryz.func141,Tryz.ntmps141
 go_wp2_with fail
 have HB:=lH (aG.new w 113 #[.bool false,.slice none 0 0]);have tV:=lH (HR.o.up HK.o);generalize w.alloc (.cells #[.bool false,.slice none 0 0] 113)=W at *;generalize hg:w.heap.size=g at *;have HG:=lH hg;clear hg
 go_loop [1] (fun v1=>∃ k:Nat,k<=n/\v1=.slice A k c/\wv (ws.take k)=wv ws) (fun v1=>match v1 with | .slice _ k _=>k | _=>0)
 case atStart=>exact ⟨n,lR,rfl,by rw [nW (Nat.le_of_eq HL.o)]⟩
 case round=>
  obtain ⟨k,hk,rfl,hv⟩:=hrel;have HV:=lH hv;have HE:Hid (∀ v' e w',Below g w w'->iR w' w'.heap.size A k (ws.take k)->(k=0\/ws.getD (k-1) 0≠0)->v'=.agg #[.bool (m && decide (0<k)),.slice A k c]->e=.returned v'->LgP (BJ m (wv ws)) w e w'):=lH (fun v' e w' hb hr hz hv' he=>aLE (by rw [HG.o];exact hb) (by rw [aCs HD.o (by have:=HL.o;omega) hz,HV.o]) (by rw [jP,HL.o,Nat.min_eq_left hk]) hr (cV hk hn) hc (by rw [he,hv']));clear hv;have b0:=HB.o.cell 0;have b1:=HB.o.cell 1;have bf:=HB.o.frozen;have bl:=HB.o.lt
  by_cases h0:k=0
  ·subst h0
   cases m with
   | true=>
    go_wp2_with fail
    generalize VE:(W.setCell ⟨g,0,none⟩ _).setCell ⟨g,1,none⟩ _=W2;have bW:Hid (aG W2 g 113 #[.bool (true && decide (0<0)),.slice A 0 c]):=lH (by rw [<-VE];exact cD HB.o);have vG:Hid (Below g w W2):=lH (by rw [<-VE];exact cW HK.o lR);clear VE b0 b1;have q0:=bW.o.cell 0;have q1:=bW.o.cell 1;refine bodyPost_ret (v:=.agg #[.bool (true && decide (0<0)),.slice A 0 c]) (by simp [results,Tryz.results141,go_sem,q0,q1]) rfl (HE.o _ _ _ vG.o (zK _ _ _) (.inl trivial) rfl rfl)
   | false=>
    go_wp2_with fail
    generalize VE:(W.setCell ⟨g,0,none⟩ _).setCell ⟨g,1,none⟩ _=W2;have bW:Hid (aG W2 g 113 #[.bool (false && decide (0<0)),.slice A 0 c]):=lH (by rw [<-VE];exact cD HB.o);have vG:Hid (Below g w W2):=lH (by rw [<-VE];exact cW HK.o lR);clear VE b0 b1;have q0:=bW.o.cell 0;have q1:=bW.o.cell 1;refine bodyPost_ret (v:=.agg #[.bool (false && decide (0<0)),.slice A 0 c]) (by simp [results,Tryz.results141,go_sem,q0,q1]) rfl (HE.o _ _ _ vG.o (zK _ _ _) (.inl trivial) rfl rfl)
  ·have kF:0<k:=by omega
   obtain ⟨b,off,hA,qL⟩:=tV.o.form (by omega);subst hA;have JK:=tV.o.at_ (i:=k-1) (by omega);have tB:=lH (tV.o.take hk);have g1:(1:Int)<=(k:Int):=by omega
   have g4:((k:Int)-1).toNat=k-1:=by omega
   have g5:(k:Int)-1<(k:Int):=by omega
   have g6:(k:Int)-1<=(c:Int):=by omega
   have g7:(k:Int)<=9223372036854775807:=by omega
   obtain ⟨x,hx⟩:∃ x,ws.getD (k-1) 0=x:=⟨_,rfl⟩;have HX:=lH hx;rw [hx] at JK;clear hx
   by_cases hz:x=0
   ·subst hz
    have hz:=HX.o;have HT:=lH (ZI kF (by have:=HL.o;omega) hz);clear hz b0 b1 bf bl
    go_wp2_with fail
    go_round
    case rel=>exact ⟨k-1,by omega,rfl,by rw [HT.o,HV.o]⟩
    case measure=>simp;omega
   ·have hzb:((x:Int) == 0)=false:=by simp;exact hz
    have HZ:Hid (ws.getD (k-1) 0≠0):=lH (by rw [HX.o];exact hz);clear hz;cases m with
    | true=>
     go_wp2_with fail
     generalize VE:(W.setCell ⟨g,0,none⟩ _).setCell ⟨g,1,none⟩ _=W2;have bW:Hid (aG W2 g 113 #[.bool true,.slice (some ⟨b,off,none⟩) k c]):=lH (by rw [<-VE];exact cD HB.o);have vG:Hid (Below g w W2):=lH (by rw [<-VE];exact cW HK.o lR);clear VE b0 b1;have q0:=bW.o.cell 0;have q1:=bW.o.cell 1;refine bodyPost_ret (v:=.agg #[.bool true,.slice (some ⟨b,off,none⟩) k c]) (by simp [results,Tryz.results141,go_sem,q0,q1,kF]) rfl (HE.o _ _ _ vG.o (((HR.o.take hk).below vG.o lR).more (HG.o▸vG.o.size)) (.inr HZ.o) (by simp [kF]) rfl)
    | false=>
     go_wp2_with fail
     generalize VE:(W.setCell ⟨g,0,none⟩ _).setCell ⟨g,1,none⟩ _=W2;have bW:Hid (aG W2 g 113 #[.bool (false && decide (0<k)),.slice (some ⟨b,off,none⟩) k c]):=lH (by rw [<-VE];exact cD HB.o);have vG:Hid (Below g w W2):=lH (by rw [<-VE];exact cW HK.o lR);clear VE b0 b1;have q0:=bW.o.cell 0;have q1:=bW.o.cell 1;refine bodyPost_ret (v:=.agg #[.bool (false && decide (0<k)),.slice (some ⟨b,off,none⟩) k c]) (by simp [results,Tryz.results141,go_sem,q0,q1,kF]) rfl (HE.o _ _ _ vG.o (((HR.o.take hk).below vG.o lR).more (HG.o▸vG.o.size)) (.inr HZ.o) rfl rfl)
theorem aHO (z:Int):BJ (!decide (z<0)) z.natAbs=-z:=by
 unfold BJ
 by_cases h:z<0
 ·simp [h];omega
 ·simp [h];omega
theorem EU (z:Int) (b:Bool) (A:OA) (n c:Nat) (w:Wo) (h:cG w w.heap.size z b A n c) :
    Calls Tryz.prog 140 #[.agg #[.bool b,.slice A n c]] w (LgP (-z) w):=by
 have dB:Hid (Below w.heap.size w ((w.alloc (.cells #[.bool b,.slice A n c] 113)).alloc (.cells #[.bool false,.slice none 0 0] 113))):=lH ((bA).alloc (by simp) _);have HX:=lH ((aG.new w 113 #[.bool b,.slice A n c]).alloc (.cells #[.bool false,.slice none 0 0] 113));have HG:Hid (aG ((w.alloc (.cells #[.bool b,.slice A n c] 113)).alloc (.cells #[.bool false,.slice none 0 0] 113)) (w.heap.size+1) 113 #[.bool false,.slice none 0 0]):=lH (aG.new_ (by simp));have HH:=lH (h.up dB.o);have qK:w.heap.size<=w.heap.size+1:=by omega
 have HE:=lH h.eb;clear h;go_enter Tryz.func140,Tryz.ntmps140
 have x0:=HX.o.cell 0;have x1:=HX.o.cell 1;have xl:=HX.o.lt
 go_wp2_with fail
 clear x0 x1 xl;generalize (w.alloc (.cells #[.bool b,.slice A n c] 113)).alloc (.cells #[.bool false,.slice none 0 0] 113)=W at *;refine (jG (!b) A n c (jN z.natAbs) W (by have h:=HH.o.rd;have e:=HH.o.en;exact h) (gH _) HH.o.nc HH.o.cm).mono ?_;rw [d8,HE.o,aHO];rintro e w2 ⟨k,b2,A2,n2,c2,rfl,h2⟩;have bW:=lH (dB.o.tm k);have fI:=lH (HG.o.bl k);have H2:=lH h2;clear k h2 HG HX HH;have z0:=fI.o.cell 0;have z1:=fI.o.cell 1;have zf:=fI.o.frozen;have zl:=fI.o.lt
 go_wp2_with fail
 generalize fD:(w2.setCell ⟨_,0,none⟩ _).setCell ⟨_,1,none⟩ _=W9;have iK:=lH (nU (e:=.returned (.agg #[.bool b2,.slice A2 n2 c2])) bW.o qK fI.o (by simp) (by simp) H2.o rfl);rw [fD] at iK;have cQ:Hid (aG W9 _ 113 #[.bool b2,.slice A2 n2 c2]):=lH (by rw [<-fD];exact cD fI.o);clear fD z0 z1 zf zl;have q0:=cQ.o.cell 0;have q1:=cQ.o.cell 1;exact bodyPost_ret (v:=.agg #[.bool b2,.slice A2 n2 c2]) (by simp [results,Tryz.results140,go_sem,q0,q1]) rfl iK.o
theorem B9 (z:Int) (b:Bool) (A:OA) (n c:Nat) (w:Wo) (h:cG w w.heap.size z b A n c) :
    Calls Tryz.prog 155 #[.agg #[.bool b,.slice A n c]] w fun e w'=>e=.returned (.int .i64 z.sign)/\Below w.heap.size w w':=by
 have HX:=lH (aG.new w 113 #[.bool b,.slice A n c]);have HE:=lH h.eb;have HN:=lH h.en;clear h;go_enter Tryz.func155,Tryz.ntmps155
 have x0:=HX.o.cell 0;have x1:=HX.o.cell 1;have xl:=HX.o.lt;have dB:=lH ((Below.refl w.heap.size w).alloc lR (.cells #[.bool b,.slice A n c] 113))
 by_cases hz:z=0
 ·have hn:n=0:=by rw [HN.o,hz];exact hO
  have HZ:Hid (z.sign=0):=lH (by rw [hz];rfl);clear hz;subst hn
  go_wp2_with fail
  go_ret;exact ⟨aX HZ.o.symm,dB.o⟩
 ·have hn:((n:Int) == 0)=false:=by
   have h1:n≠0:=by rw [HN.o,jK (by omega)];omega
   simp;omega
  cases b with
  | true=>
   have HZ:Hid (z.sign=-1):=lH (Int.sign_eq_neg_one_of_neg (by have:=HE.o;simpa using this.symm));clear hz
   go_wp2_with fail
   go_ret;exact ⟨aX HZ.o.symm,dB.o⟩
  | false=>
   have HZ:Hid (z.sign=1):=lH (Int.sign_eq_one_of_pos (by have:=HE.o;simp at this;omega));clear hz
   go_wp2_with fail
   go_ret;exact ⟨aX HZ.o.symm,dB.o⟩
theorem xV (n:Int) (w:Wo) (h0:-9223372036854775808<=n) (h1:n<=9223372036854775807) :
    Calls Tryz.prog 111 #[.int .i64 n] w (LgP n w):=by
 obtain ⟨m,hm⟩:∃ m,n.natAbs=m:=⟨_,rfl⟩;have K3:m<18446744073709551616:=by omega
 have HWD:Hid (Wd [m % 4294967296,m / 4294967296]):=lH (fun x hx=>by
  simp at hx;rcases hx with rfl | rfl<;>omega)
 have yI:Hid (wv [m % 4294967296,m / 4294967296]=m):=lH (by simp only [wv];omega);go_enter Tryz.func111,Tryz.ntmps111
 by_cases hn:n<0
 ·have HV:Hid (BJ true (wv [m % 4294967296,m / 4294967296])=n):=lH (by rw [yI.o];show -(m:Int)=n;omega)
  have hw1:IntKind.u64.wrap n=n+18446744073709551616:=by
   rw [FG];omega
  have hw2:IntKind.u64.wrap (-(n+18446744073709551616))=(m:Int):=by
   rw [FG];omega
  have HM:=lH hm;have HN:=lH hn;clear hm;have HW:Hid (Below w.heap.size w ((w.alloc (.cells #[.bool false,.slice none 0 0] 113)).alloc (.cells (bQ [m % 4294967296,m / 4294967296]).toArray 216))):=lH ((bA).alloc (by simp) _);have HG:Hid (aG ((w.alloc (.cells #[.bool false,.slice none 0 0] 113)).alloc (.cells (bQ [m % 4294967296,m / 4294967296]).toArray 216)) w.heap.size 113 #[.bool false,.slice none 0 0]):=lH ((aG.new w _ _).alloc _);have HS:Hid (aG ((w.alloc (.cells #[.bool false,.slice none 0 0] 113)).alloc (.cells (bQ [m % 4294967296,m / 4294967296]).toArray 216)) (w.heap.size+1) 216 (bQ [m % 4294967296,m / 4294967296]).toArray):=lH (aG.new_ (by simp));have qK:w.heap.size<=w.heap.size:=lR
  go_wp2_with fail
  clear hw1 hw2;have QM:#[.int .u32 ((m:Int) % 4294967296),.int .u32 ((m:Int) / 4294967296)]=(bQ [m % 4294967296,m / 4294967296]).toArray:=by
   simp [bQ]
  rw [QM];clear QM;generalize (w.alloc (.cells #[.bool false,.slice none 0 0] 113)).alloc (.cells (bQ [m % 4294967296,m / 4294967296]).toArray 216)=W at *;refine (jG true (some ⟨w.heap.size+1,0,none⟩) 2 2 [m % 4294967296,m / 4294967296] W (qD HS.o) HWD.o lR (by decide)).mono ?_;rw [HV.o];rintro e w2 ⟨k,b2,A2,n2,c2,rfl,h2⟩;have bW:=lH (HW.o.tm k);have fI:=lH (HG.o.bl k);have H2:=lH h2;clear k h2 HG HS HW;have z0:=fI.o.cell 0;have z1:=fI.o.cell 1;have zf:=fI.o.frozen;have zl:=fI.o.lt
  go_wp2_with fail
  generalize fD:(w2.setCell ⟨_,0,none⟩ _).setCell ⟨_,1,none⟩ _=W9;have iK:=lH (nU (e:=.returned (.agg #[.bool b2,.slice A2 n2 c2])) bW.o qK fI.o (by simp) (by simp) H2.o rfl);rw [fD] at iK;have cQ:Hid (aG W9 _ 113 #[.bool b2,.slice A2 n2 c2]):=lH (by rw [<-fD];exact cD fI.o);clear fD z0 z1 zf zl;have q0:=cQ.o.cell 0;have q1:=cQ.o.cell 1;exact bodyPost_ret (v:=.agg #[.bool b2,.slice A2 n2 c2]) (by simp [results,Tryz.results111,go_sem,q0,q1]) rfl iK.o
 ·have HV:Hid (BJ false (wv [m % 4294967296,m / 4294967296])=n):=lH (by rw [yI.o];show (m:Int)=n;omega)
  have sP:n=(m:Int):=by omega
  subst sP;clear hm;have HW:Hid (Below w.heap.size w ((w.alloc (.cells #[.bool false,.slice none 0 0] 113)).alloc (.cells (bQ [m % 4294967296,m / 4294967296]).toArray 216))):=lH ((bA).alloc (by simp) _);have HG:Hid (aG ((w.alloc (.cells #[.bool false,.slice none 0 0] 113)).alloc (.cells (bQ [m % 4294967296,m / 4294967296]).toArray 216)) w.heap.size 113 #[.bool false,.slice none 0 0]):=lH ((aG.new w _ _).alloc _);have HS:Hid (aG ((w.alloc (.cells #[.bool false,.slice none 0 0] 113)).alloc (.cells (bQ [m % 4294967296,m / 4294967296]).toArray 216)) (w.heap.size+1) 216 (bQ [m % 4294967296,m / 4294967296]).toArray):=lH (aG.new_ (by simp));have qK:w.heap.size<=w.heap.size:=lR
  go_wp2_with fail
  have QM:#[.int .u32 ((m:Int) % 4294967296),.int .u32 ((m:Int) / 4294967296)]=(bQ [m % 4294967296,m / 4294967296]).toArray:=by
   simp [bQ]
  rw [QM];clear QM;generalize (w.alloc (.cells #[.bool false,.slice none 0 0] 113)).alloc (.cells (bQ [m % 4294967296,m / 4294967296]).toArray 216)=W at *;refine (jG false (some ⟨w.heap.size+1,0,none⟩) 2 2 [m % 4294967296,m / 4294967296] W (qD HS.o) HWD.o lR (by decide)).mono ?_;rw [HV.o];rintro e w2 ⟨k,b2,A2,n2,c2,rfl,h2⟩;have bW:=lH (HW.o.tm k);have fI:=lH (HG.o.bl k);have H2:=lH h2;clear k h2 HG HS HW;have z0:=fI.o.cell 0;have z1:=fI.o.cell 1;have zf:=fI.o.frozen;have zl:=fI.o.lt
  go_wp2_with fail
  generalize fD:(w2.setCell ⟨_,0,none⟩ _).setCell ⟨_,1,none⟩ _=W9;have iK:=lH (nU (e:=.returned (.agg #[.bool b2,.slice A2 n2 c2])) bW.o qK fI.o (by simp) (by simp) H2.o rfl);rw [fD] at iK;have cQ:Hid (aG W9 _ 113 #[.bool b2,.slice A2 n2 c2]):=lH (by rw [<-fD];exact cD fI.o);clear fD z0 z1 zf zl;have q0:=cQ.o.cell 0;have q1:=cQ.o.cell 1;exact bodyPost_ret (v:=.agg #[.bool b2,.slice A2 n2 c2]) (by simp [results,Tryz.results111,go_sem,q0,q1]) rfl iK.o
def SH (x y:Nat) (r:Int):Prop:=(r<0<->x<y)/\(r=0<->x=y)
theorem aAZ {x y:Nat} (h:dK x≠dK y):SH x y ((dK x:Int)-(dK y:Int)):=by
 rcases Nat.lt_or_gt_of_ne h with h1 | h1
 ·have:=GB h1
  exact ⟨by omega,by omega⟩
 ·have:=GB h1
  exact ⟨by omega,by omega⟩
theorem aFl {x y:Nat} (h:x<y):SH x y (-1):=⟨by omega,by omega⟩
theorem aFm {x y:Nat} (h:y<x):SH x y 1:=⟨by omega,by omega⟩
theorem aFn {x y:Nat} (h:x=y):SH x y 0:=⟨by omega,by omega⟩
def aX6 (x y:Nat) (w:Wo) (e:Ending) (w':Wo):Prop:=(∃ r:Int,e=.returned (.int .i64 r)/\SH x y r)/\∃ nq,w'=w.drewN nq
theorem RH (A:OA) (n c:Nat) (B:OA) (m d:Nat) (x y:Nat) (w:Wo) (hx:iR w w.heap.size A n (jN x)) (hy:iR w w.heap.size B m (jN y)) (hn:n<=9223372036854775807) (hm:m<=9223372036854775807) :
    Calls Tryz.prog 148 #[.slice A n c,.slice B m d] w (aX6 x y w):=by
 have hxl:=hx.len;have hyl:=hy.len;have HX:=lH hx;have HY:=lH hy;have HXL:Hid (dK x=n):=lH hxl;have HYL:Hid (dK y=m):=lH hyl;clear hx hy hxl hyl;go_enter Tryz.func148,Tryz.ntmps148
 by_cases I1:n=m
 ·subst I1
  have AQ:Hid ((jN x).length=(jN y).length):=lH (by rw [sV,sV,HXL.o,HYL.o])
  go_wp2_with fail
  go_loopw [5] (fun v5 wr=>∃ k:Nat,k<=n/\v5=.int .i64 ((k:Int)-1)/\(jN x).drop k=(jN y).drop k/\∃ nq,wr=w.drewN nq) (fun v5 _=>(intOf v5+1).toNat)
  case atStart=>exact ⟨n,lR,rfl,by rw [List.drop_eq_nil_of_le (by rw [sV,HXL.o];exact lR),List.drop_eq_nil_of_le (by rw [sV,HYL.o];exact lR)],0,rfl⟩
  case round=>
   obtain ⟨k,hk,rfl,hd,nq,rfl⟩:=hrel;have HD:=lH hd;clear hd
   by_cases h0:k=0
   ·subst h0
    have HE:Hid (x=y):=lH (by have:=HD.o;simp at this;rw [<-d8 x,this,d8]);have e:(((0:Nat):Int)-1)=-1:=rfl;rw [e];clear e
    go_wp2_with fail
    go_ret;exact ⟨⟨0,rfl,aFn HE.o⟩,nq,rfl⟩
   ·obtain ⟨j,rfl⟩:∃ j,k=j+1:=⟨k-1,by omega⟩
    have e:(((j+1:Nat):Int)-1)=(j:Int):=by omega
    rw [e];clear e h0;have hj:j<n:=hk;obtain ⟨b1,o1,AE,bH⟩:=HX.o.form (by omega);subst AE;obtain ⟨b2,o2,LC,bL⟩:=HY.o.form (by omega);subst LC;have hcx:=HX.o.at_ hj;have hcy:=HY.o.at_ hj;have HC:=lH (fun h=>aCf (gH x) AQ.o (i:=j) (by rw [sV,HXL.o];exact hj) HD.o h);have N4:=lH (fun h=>aCf (gH y) AQ.o.symm (i:=j) (by rw [sV,HYL.o];exact hj) HD.o.symm h);have HQ:=lH (fun h=>NC AQ.o (i:=j) (by rw [sV,HXL.o];exact hj) HD.o h);obtain ⟨xj,hxj⟩:∃ v,(jN x).getD j 0=v:=⟨_,rfl⟩;obtain ⟨yj,hyj⟩:∃ v,(jN y).getD j 0=v:=⟨_,rfl⟩;have HXJ:=lH hxj;have HYJ:=lH hyj;rw [hxj] at hcx;rw [hyj] at hcy;clear hxj hyj;have hjI:(j:Int)<(n:Int):=by omega
    rcases Nat.lt_trichotomy xj yj with h | h | h
    ·have HR:Hid (x<y):=lH (by have:=HC.o (by rw [HXJ.o,HYJ.o];exact h);rwa [d8,d8] at this)
     have t1:((xj:Int) != (yj:Int))=true:=by simp;omega
     have t1':((xj:Int) == (yj:Int))=false:=by simp;omega
     have t2:decide (xj<yj)=true:=by simpa using h
     clear h
     go_wp2_with fail
     go_quiet (fail)
     go_wp2_with fail
     go_quiet (fail)
     go_wp2_with fail
     go_ret;exact ⟨⟨-1,rfl,aFl HR.o⟩,_,by rw [World.drewN_drewN,World.drewN_drewN]⟩
    ·subst h
     have HR:=lH (HQ.o (by rw [HXJ.o,HYJ.o]))
     go_wp2_with fail
     go_quiet (fail)
     go_wp2_with fail
     go_roundw
     case rel=>exact ⟨j,by omega,by go_num,HR.o,_,rfl⟩
     case measure=>simp [intOf]
    ·have HR:Hid (y<x):=lH (by have:=N4.o (by rw [HXJ.o,HYJ.o];exact h);rwa [d8,d8] at this)
     have t1:((xj:Int) != (yj:Int))=true:=by simp;omega
     have t1':((xj:Int) == (yj:Int))=false:=by simp;omega
     have t2:decide (xj<yj)=false:=by simp;omega
     clear h
     go_wp2_with fail
     go_quiet (fail)
     go_wp2_with fail
     go_quiet (fail)
     go_wp2_with fail
     go_ret;exact ⟨⟨1,rfl,aFm HR.o⟩,_,by rw [World.drewN_drewN,World.drewN_drewN]⟩
 ·have HR:=lH (aAZ (x:=x) (y:=y) (by rw [HXL.o,HYL.o];exact I1))
  rw [HXL.o,HYL.o] at HR;have h1:((n:Int) == (m:Int))=false:=by simp;omega
  have h2:((n:Int) != (m:Int))=true:=by simp;omega
  clear I1
  go_wp2_with fail
  go_ret;exact ⟨⟨_,rfl,HR.o⟩,0,rfl⟩
structure OC (a b:List Nat) (n k cc:Nat) (out:List Nat):Prop where
 len:out.length=n+1
 od:Wd out
 oz:Zf out k
 c1:cc<=1
 eq:wv out+cc*BB k=wv (a.take k)+wv (b.take k)
theorem OC.step {a b out:List Nat} {n k cc:Nat} (H:OC a b n k cc out) (ha:Wd a) (hb:Wd b) (hk:k<n):OC a b n (k+1) ((cc+a.getD k 0+b.getD k 0) / 4294967296) (out.set k ((cc+a.getD k 0+b.getD k 0) % 4294967296)):=by
 have hl:=H.len;obtain ⟨h1,h2⟩:=aFu ha hb (by omega) H.oz H.c1 H.eq;exact ⟨by rw [lF];exact hl,H.od.set _ (Nat.mod_lt _ (by decide)),H.oz.put,h1,h2⟩
theorem aQM (A:OA) (n c:Nat) (B:OA) (m d:Nat) (a0 b0:List Nat) (w:Wo) (ha:iR w w.heap.size A n a0) (hb:iR w w.heap.size B m b0) (X_:Wd a0) (CG:Wd b0) (hn:n<=35184372088832) (hm:m<=35184372088832) :
    Calls Tryz.prog 147 #[.slice A n c,.slice B m d] w (aFz (wv a0+wv b0) w):=by
 have HA:=lH ha;have HB:=lH hb;have SF:=lH X_;have OO:=lH CG;clear ha hb X_ CG;go_enter Tryz.func147,Tryz.ntmps147
 go_upto_if 12 with fail
 go_cut [0,1] (fun v0 v1 wc=>wc=w/\∃ A n c B m d a b,v0=.slice A n c/\v1=.slice B m d/\iR w w.heap.size A n a/\iR w w.heap.size B m b/\Wd a/\Wd b/\m<=n/\n<=35184372088832/\wv a+wv b=wv a0+wv b0)
 case first=>
  by_cases I1:n<m
  ·go_wp2_with fail
   go_meet
   case rel=>exact ⟨rfl,_,_,_,_,_,_,_,_,rfl,rfl,HB.o,HA.o,OO.o,SF.o,by omega,hm,by omega⟩
  ·go_wp2_with fail
   go_meet
   case rel=>exact ⟨rfl,_,_,_,_,_,_,_,_,rfl,rfl,HA.o,HB.o,SF.o,OO.o,by omega,hn,rfl⟩
 clear HA HB SF OO hn hm;obtain ⟨rfl,A,n,c,B,m,d,a,b,rfl,rfl,ha,hb,X_,CG,hmn,hn,hv⟩:=hcut;have HA:=lH ha;have HB:=lH hb;have SF:=lH X_;have OO:=lH CG;have HV:=lH hv;have IX:=lH ha.len;have iP:=lH hb.len;clear ha hb X_ CG hv;generalize wc=w at *;have tK:∀ w:World,(Instr.makeSlice 111 (.int .i64 ((n:Int)+1)) (.int .i64 ((n:Int)+1))).run Tryz.prog w=.ok (.slice (some ⟨w.heap.size,0,none⟩) (n+1) (n+1)) (w.alloc (.cells (bQ (List.replicate (n+1) 0)).toArray 216)):=fun w=>pG (n+1) (by omega) w;have HK:=lH ((Below.refl w.heap.size w).alloc lR (.cells (bQ (List.replicate (n+1) 0)).toArray 216));have HG:=lH (aG.new w 216 (bQ (List.replicate (n+1) 0)).toArray)
 go_wp2_with fail
 clear tK;generalize w.alloc (.cells (bQ (List.replicate (n+1) 0)).toArray 216)=W at *;generalize hg:w.heap.size=g at *;have nM:=lH hg;clear hg
 go_loopw [6,21] (fun v6 v21 wr=>∃ (k cc:Nat) (out:List Nat),k<=n/\v21=.int .i64 k/\v6=.int .u64 cc/\Below g w wr/\aG wr g 216 (bQ out).toArray/\OC a b n k cc out) (fun _ v21 _=>n-(intOf v21).toNat)
 case atStart=>exact ⟨0,0,_,by omega,rfl,rfl,HK.o,HG.o,⟨by simp,o9 _,rH _ _,by omega,by rw [o5];simp [wv]⟩⟩
 case round=>
  clear HK HG;obtain ⟨k,cc,out,hk,rfl,rfl,hb,hg,hI⟩:=hrel;have HK:=lH hb;have HG:=lH hg;have HI:=lH hI;clear hb hg hI;have OG:=HI.o.c1;have EY:=HG.o.lt;have EZ:=HG.o.frozen
  by_cases aW:k<n
  ·obtain ⟨ab,ao,AE,oS⟩:=HA.o.form (by omega)
   subst AE;have VC:=(HA.o.lift HK.o (by omega)).at_ aW;have VA:=cI HG.o (i:=k) (by rw [HI.o.len];omega);have HN:=lH (HI.o.step SF.o OO.o aW);have hx:=SF.o.getD k;have hy:=OO.o.getD k;obtain ⟨x,SK⟩:∃ x,a.getD k 0=x:=⟨_,rfl⟩;obtain ⟨y,hyy⟩:∃ y,b.getD k 0=y:=⟨_,rfl⟩;have HYY:=lH hyy;rw [SK] at VC hx;rw [hyy] at hy;rw [SK,hyy] at HN;obtain ⟨z,pU⟩:∃ z,out.getD k 0=z:=⟨_,rfl⟩;rw [pU] at VA;clear SK hyy pU;have aAJ:ab<wr.heap.size:=by omega
   have fT:(k:Int)<(n:Int):=by omega
   by_cases hkm:k<m
   ·obtain ⟨bb,bo,LB,pK⟩:=HB.o.form (by omega)
    subst LB;have hcb:=(HB.o.lift HK.o (by omega)).at_ hkm;rw [HYY.o] at hcb;have aIp:bb<wr.heap.size:=by omega
    have aMa:(k:Int)<(m:Int):=by omega
    go_wp2_with fail
    go_roundw
    case rel=>exact ⟨k+1,(cc+x+y) / 4294967296,out.set k ((cc+x+y) % 4294967296),by omega,by go_num,aQ (by omega),HK.o.setCell lR _,eM HG.o (by omega),HN.o⟩
    case measure=>simp [intOf];omega
   ·have wC:y=0:=by rw [<-HYY.o];exact BF (by rw [iP.o];omega)
    subst wC;have aMa:¬(k:Int)<(m:Int):=by omega
    go_wp2_with fail
    go_roundw
    case rel=>exact ⟨k+1,(cc+x+0) / 4294967296,out.set k ((cc+x+0) % 4294967296),by omega,by go_num,aQ (by omega),HK.o.setCell lR _,eM HG.o (by omega),HN.o⟩
    case measure=>simp [intOf];omega
  ·have lS:k=n:=by omega
   subst lS;have VA:=cI HG.o (i:=k) (by rw [HI.o.len];omega);obtain ⟨z,pU⟩:∃ z,out.getD k 0=z:=⟨_,rfl⟩;rw [pU] at VA;clear pU;have g1:(k:Int)<(k:Int)+1:=by omega
   have HE:Hid (wv (out.set k cc)=wv a0+wv b0):=lH (by
    rw [YW (v:=wv a0+wv b0) (by rw [HI.o.len];omega) HI.o.oz];rw [HI.o.eq,nW (by rw [IX.o];exact lR),nW (by rw [iP.o];exact hmn)];exact HV.o)
   have HW:Hid (Wd (out.set k cc)):=lH (HI.o.od.set _ (by omega));have Y6:Hid ((out.set k cc).length=k+1):=lH (by rw [lF];exact HI.o.len)
   go_wp2_with fail
   go_ret;exact KM (by rw [nM.o];exact HK.o.setCell lR _) (eM HG.o rfl) Y6.o HW.o HE.o (by omega) rfl
structure NO (a b:List Nat) (n k:Nat) (cc:Int) (out:List Nat):Prop where
 len:out.length=n
 od:Wd out
 oz:Zf out k
 c1:-1<=cc
 c2:cc<=0
 eq:(wv out:Int)+cc*(BB k:Int)=(wv (a.take k):Int)-(wv (b.take k):Int)
theorem NO.step {a b out:List Nat} {n k:Nat} {cc:Int} (H:NO a b n k cc out) (ha:Wd a) (hb:Wd b) (hk:k<n):NO a b n (k+1) ((cc+a.getD k 0-b.getD k 0) / 4294967296) (out.set k ((cc+a.getD k 0-b.getD k 0) % 4294967296).toNat):=by
 have hl:=H.len;obtain ⟨h1,h2,h3⟩:=aCz ha hb (by omega) H.oz H.c1 H.c2 H.eq;exact ⟨by rw [lF];exact hl,H.od.set _ (by omega),H.oz.put,h1,h2,h3⟩
theorem aJw (A:OA) (n c:Nat) (B:OA) (m d:Nat) (a b:List Nat) (w:Wo) (ha:iR w w.heap.size A n a) (hb:iR w w.heap.size B m b) (X_:Wd a) (CG:Wd b) (hn:n<=35184372088832) (hmn:m<=n) (K5:wv b<=wv a) :
    Calls Tryz.prog 149 #[.slice A n c,.slice B m d] w (aFz (wv a-wv b) w):=by
 have HA:=lH ha;have HB:=lH hb;have SF:=lH X_;have OO:=lH CG;have IX:=lH ha.len;have iP:=lH hb.len;have Y7:=lH K5;clear ha hb X_ CG K5;have tK:∀ w:World,(Instr.makeSlice 111 (.int .i64 (n:Int)) (.int .i64 (n:Int))).run Tryz.prog w=.ok (.slice (some ⟨w.heap.size,0,none⟩) n n) (w.alloc (.cells (bQ (List.replicate n 0)).toArray 216)):=fun w=>pG n (by omega) w;have HK:=lH ((Below.refl w.heap.size w).alloc lR (.cells (bQ (List.replicate n 0)).toArray 216));have HG:=lH (aG.new w 216 (bQ (List.replicate n 0)).toArray);go_enter Tryz.func149,Tryz.ntmps149
 go_wp2_with fail
 clear tK;generalize w.alloc (.cells (bQ (List.replicate n 0)).toArray 216)=W at *;generalize hg:w.heap.size=g at *;have nM:=lH hg;clear hg
 go_loopw [6,13] (fun v6 v13 wr=>∃ (k:Nat) (cc:Int) (out:List Nat),k<=n/\v13=.int .i64 k/\v6=.int .i64 cc/\Below g w wr/\aG wr g 216 (bQ out).toArray/\NO a b n k cc out) (fun _ v13 _=>n-(intOf v13).toNat)
 case atStart=>exact ⟨0,0,_,by omega,rfl,rfl,HK.o,HG.o,⟨by simp,o9 _,rH _ _,by omega,by omega,by rw [o5];simp [wv]⟩⟩
 case round=>
  clear HK HG;obtain ⟨k,cc,out,hk,rfl,rfl,hb,hg,hI⟩:=hrel;have HK:=lH hb;have HG:=lH hg;have HI:=lH hI;clear hb hg hI;have OG:=HI.o.c1;have a2Q:=HI.o.c2;have EY:=HG.o.lt;have EZ:=HG.o.frozen
  by_cases aW:k<n
  ·obtain ⟨ab,ao,AE,oS⟩:=HA.o.form (by omega)
   subst AE;have VC:=(HA.o.lift HK.o (by omega)).at_ aW;have VA:=cI HG.o (i:=k) (by rw [HI.o.len];omega);have HN:=lH (HI.o.step SF.o OO.o aW);have hx:=SF.o.getD k;have hy:=OO.o.getD k;obtain ⟨x,SK⟩:∃ x,a.getD k 0=x:=⟨_,rfl⟩;obtain ⟨y,hyy⟩:∃ y,b.getD k 0=y:=⟨_,rfl⟩;have HYY:=lH hyy;rw [SK] at VC hx;rw [hyy] at hy;rw [SK,hyy] at HN;obtain ⟨z,pU⟩:∃ z,out.getD k 0=z:=⟨_,rfl⟩;rw [pU] at VA;clear SK hyy pU;have aAJ:ab<wr.heap.size:=by omega
   have fT:(k:Int)<(n:Int):=by omega
   by_cases hkm:k<m
   ·obtain ⟨bb,bo,LB,pK⟩:=HB.o.form (by omega)
    subst LB;have hcb:=(HB.o.lift HK.o (by omega)).at_ hkm;rw [HYY.o] at hcb;have aIp:bb<wr.heap.size:=by omega
    have aMa:(k:Int)<(m:Int):=by omega
    go_wp2_with fail
    go_roundw
    case rel=>exact ⟨k+1,_,_,by omega,by go_num,aQ (by omega),HK.o.setCell lR _,eM HG.o (by omega),HN.o⟩
    case measure=>simp [intOf];omega
   ·have wC:y=0:=by rw [<-HYY.o];exact BF (by rw [iP.o];omega)
    subst wC;have aMa:¬(k:Int)<(m:Int):=by omega
    go_wp2_with fail
    go_roundw
    case rel=>exact ⟨k+1,_,_,by omega,by go_num,aQ (by omega),HK.o.setCell lR _,eM HG.o (by omega),HN.o⟩
    case measure=>simp [intOf];omega
  ·have lS:k=n:=by omega
   subst lS;have HE:Hid (wv out=wv a-wv b):=lH (by
    have h:=HI.o.eq;rw [nW (by rw [IX.o];exact lR),nW (by rw [iP.o];exact hmn)] at h;rw [<-HI.o.len] at h;exact aG8 HI.o.c1 HI.o.c2 HI.o.od Y7.o h)
   go_wp2_with fail
   go_ret;exact KM (by rw [nM.o];exact HK.o) HG.o HI.o.len HI.o.od HE.o (by omega) rfl
structure NP (a:List Nat) (n d k r:Nat) (out:List Nat):Prop where
 len:out.length=n
 od:Wd out
 rd:r<d
 eq:wv (a.drop k)=d*wv (out.drop k)+r
theorem NP.step {a out:List Nat} {n d k r:Nat} (H:NP a n d (k+1) r out) (ha:Wd a) (hl:a.length=n) (hd:0<d) (hd2:d<4294967296) (hk:k<n):(r*4294967296+a.getD k 0) / d<4294967296/\NP a n d k ((r*4294967296+a.getD k 0) % d) (out.set k ((r*4294967296+a.getD k 0) / d)):=by
 have hl2:=H.len;obtain ⟨h1,h2⟩:=ZZ ha (by omega) hd hd2 H.rd (by omega) H.eq;exact ⟨h1,by rw [lF];exact hl2,H.od.set _ h1,Nat.mod_lt _ hd,h2⟩
def aQS (v d:Nat) (w:Wo) (e:Ending) (w':Wo):Prop:=Below w.heap.size w w'/\∃ g n l,e=.returned (.tuple #[.slice (some ⟨g,0,none⟩) n n,.int .u32 ((v % d:Nat):Int)])/\iR w' w'.heap.size (some ⟨g,0,none⟩) n l/\Wd l/\wv l=v / d/\n<=35184372088832/\w.heap.size<=g
theorem aHm {v d g n t:Nat} {l:List Nat} {w w':Wo} {e:Ending} {r:Nat} (hb:Below w.heap.size w w') (hg:aG w' g t (bQ l).toArray) (hl:l.length=n) (hd:Wd l) (hn:n<=35184372088832) (hgw:w.heap.size<=g) (hr:r<d) (hv:v=d*wv l+r) (he:e=.returned (.tuple #[.slice (some ⟨g,0,none⟩) n n,.int .u32 (r:Int)])):aQS v d w e w':=by
 have h1:v / d=wv l:=by rw [hv,Nat.mul_add_div (by omega),Nat.div_eq_of_lt hr,Nat.add_zero]
 have h2:v % d=r:=by rw [hv,Nat.mul_add_mod,Nat.mod_eq_of_lt hr]
 refine ⟨hb,g,n,l,by rw [he,h2],by subst hl;exact qD hg,hd,h1.symm,hn,hgw⟩
theorem aJz (A:OA) (n c:Nat) (d:Nat) (a:List Nat) (w:Wo) (ha:iR w w.heap.size A n a) (X_:Wd a) (hn:n<=35184372088832) (hd:0<d) (hd2:d<4294967296) :
    Calls Tryz.prog 150 #[.slice A n c,.int .u32 (d:Int)] w (aQS (wv a) d w):=by
 have HA:=lH ha;have SF:=lH X_;have IX:=lH ha.len;clear ha X_;have tK:∀ w:World,(Instr.makeSlice 111 (.int .i64 (n:Int)) (.int .i64 (n:Int))).run Tryz.prog w=.ok (.slice (some ⟨w.heap.size,0,none⟩) n n) (w.alloc (.cells (bQ (List.replicate n 0)).toArray 216)):=fun w=>pG n (by omega) w;have HK:=lH ((Below.refl w.heap.size w).alloc lR (.cells (bQ (List.replicate n 0)).toArray 216));have HG:=lH (aG.new w 216 (bQ (List.replicate n 0)).toArray);go_enter Tryz.func150,Tryz.ntmps150
 go_wp2_with fail
 clear tK;generalize w.alloc (.cells (bQ (List.replicate n 0)).toArray 216)=W at *;generalize hg:w.heap.size=g at *;have nM:=lH hg;clear hg
 go_loopw [7,8] (fun v7 v8 wr=>∃ (k r:Nat) (out:List Nat),k<=n/\v8=.int .i64 ((k:Int)-1)/\v7=.int .u64 r/\Below g w wr/\aG wr g 216 (bQ out).toArray/\NP a n d k r out) (fun _ v8 _=>(intOf v8+1).toNat)
 case atStart=>exact ⟨n,0,_,lR,rfl,rfl,HK.o,HG.o,⟨by simp,o9 _,hd,by rw [List.drop_eq_nil_of_le (by rw [IX.o];exact lR),List.drop_eq_nil_of_le (by simp)];simp [wv]⟩⟩
 case round=>
  clear HK HG;obtain ⟨k,r,out,hk,rfl,rfl,hb,hg,hI⟩:=hrel;have HK:=lH hb;have HG:=lH hg;have HI:=lH hI;clear hb hg hI;have EY:=HG.o.lt;have EZ:=HG.o.frozen;have jY:=HI.o.rd
  by_cases h0:k=0
  ·subst h0
   have HE:Hid (wv a=d*wv out+r):=lH (by have:=HI.o.eq;simpa using this);have e:(((0:Nat):Int)-1)=-1:=rfl;rw [e];clear e
   go_wp2_with fail
   go_ret2;exact aHm (by rw [nM.o];exact HK.o) HG.o HI.o.len HI.o.od hn (by rw [nM.o];exact lR) HI.o.rd HE.o rfl
  ·obtain ⟨j,rfl⟩:∃ j,k=j+1:=⟨k-1,by omega⟩
   have e:(((j+1:Nat):Int)-1)=(j:Int):=by omega
   rw [e];clear e h0;have hj:j<n:=hk;obtain ⟨ab,ao,AE,oS⟩:=HA.o.form (by omega);subst AE;have VC:=(HA.o.lift HK.o (by omega)).at_ hj;have VA:=cI HG.o (i:=j) (by rw [HI.o.len];omega);have HN:=lH (HI.o.step SF.o IX.o hd hd2 hj);have hx:=SF.o.getD j;obtain ⟨x,SK⟩:∃ x,a.getD j 0=x:=⟨_,rfl⟩;rw [SK] at VC hx HN;obtain ⟨z,pU⟩:∃ z,out.getD j 0=z:=⟨_,rfl⟩;rw [pU] at VA;clear SK pU;have aAJ:ab<wr.heap.size:=by omega
   have hjI:(j:Int)<(n:Int):=by omega
   have aLV:r<4294967296:=by omega
   have hor:bits BinOp.or IntKind.u64 ((r:Int)*4294967296) (x:Int)=((r*4294967296+x:Nat):Int):=zP r x 32 (by omega) aLV hx;have CA:r*4294967296+x<18446744073709551616:=by omega
   generalize r*4294967296+x=s at hor CA HN;have htm:=OR s d;have htd:=OS s d;have hql:=HN.o.1;have iL:=lH HN.o.2;clear HN;generalize s / d=q at *;generalize s % d=t at *;have hwq:IntKind.u64.wrap (q:Int)=(q:Int):=Go.IntWalk.u64_in _ (by omega)
   go_wp2_with fail
   go_roundw
   case rel=>exact ⟨j,t,_,by omega,rfl,rfl,HK.o.setCell lR _,eM HG.o (by omega),iL.o⟩
   case measure=>simp [intOf]
structure YX (a:List Nat) (n s k cc:Nat) (out:List Nat):Prop where
 len:out.length=n+1
 od:Wd out
 oz:Zf out k
 c1:cc<2^s
 eq:wv out+cc*BB k=wv (a.take k)*2^s
theorem YX.step {a out:List Nat} {n s k cc:Nat} (H:YX a n s k cc out) (ha:Wd a) (hs:s<=31) (hk:k<n):cc+a.getD k 0*2^s<18446744073709551616/\YX a n s (k+1) ((cc+a.getD k 0*2^s) / 4294967296) (out.set k ((cc+a.getD k 0*2^s) % 4294967296)):=by
 have hl:=H.len;obtain ⟨h1,h2,h3⟩:=aHi ha hs (by omega) H.oz H.c1 H.eq;exact ⟨h1,by rw [lF];exact hl,H.od.set _ (Nat.mod_lt _ (by decide)),H.oz.put,h2,h3⟩
def aQY (v n:Nat) (w:Wo) (e:Ending) (w':Wo):Prop:=Below w.heap.size w w'/\∃ g l,e=.returned (.slice (some ⟨g,0,none⟩) n n)/\w.heap.size<=g/\aG w' g 216 (bQ l).toArray/\Wd l/\wv l=v/\l.length=n
theorem shW (A:OA) (n c:Nat) (s:Nat) (a:List Nat) (w:Wo) (ha:iR w w.heap.size A n a) (X_:Wd a) (hn:n<=35184372088832) (hs:s<=31) :
    Calls Tryz.prog 190 #[.slice A n c,.int .i64 (s:Int)] w (aQY (wv a*2^s) (n+1) w):=by
 have HA:=lH ha;have SF:=lH X_;have IX:=lH ha.len;clear ha X_;have tK:∀ w:World,(Instr.makeSlice 111 (.int .i64 ((n:Int)+1)) (.int .i64 ((n:Int)+1))).run Tryz.prog w=.ok (.slice (some ⟨w.heap.size,0,none⟩) (n+1) (n+1)) (w.alloc (.cells (bQ (List.replicate (n+1) 0)).toArray 216)):=fun w=>pG (n+1) (by omega) w;have HK:=lH ((Below.refl w.heap.size w).alloc lR (.cells (bQ (List.replicate (n+1) 0)).toArray 216));have HG:=lH (aG.new w 216 (bQ (List.replicate (n+1) 0)).toArray);go_enter Tryz.func190,Tryz.ntmps190
 go_wp2_with fail
 clear tK;generalize w.alloc (.cells (bQ (List.replicate (n+1) 0)).toArray 216)=W at *;generalize hg:w.heap.size=g at *;have nM:=lH hg;clear hg;have HP:Hid (0<2^s):=lH (Nat.pow_pos (by decide))
 go_loopw [6,15] (fun v6 v15 wr=>∃ (k cc:Nat) (out:List Nat),k<=n/\v15=.int .i64 k/\v6=.int .u64 cc/\Below g w wr/\aG wr g 216 (bQ out).toArray/\YX a n s k cc out) (fun _ v15 _=>n-(intOf v15).toNat)
 case atStart=>exact ⟨0,0,_,by omega,rfl,rfl,HK.o,HG.o,⟨by simp,o9 _,rH _ _,HP.o,by rw [o5];simp [wv]⟩⟩
 case round=>
  clear HK HG;obtain ⟨k,cc,out,hk,rfl,rfl,hb,hg,hI⟩:=hrel;have HK:=lH hb;have HG:=lH hg;have HI:=lH hI;clear hb hg hI;have OG:=HI.o.c1;have EY:=HG.o.lt;have EZ:=HG.o.frozen
  by_cases aW:k<n
  ·obtain ⟨ab,ao,AE,oS⟩:=HA.o.form (by omega)
   subst AE;have VC:=(HA.o.lift HK.o (by omega)).at_ aW;have VA:=cI HG.o (i:=k) (by rw [HI.o.len];omega);have HN:=lH (HI.o.step SF.o hs aW);have hx:=SF.o.getD k;obtain ⟨x,SK⟩:∃ x,a.getD k 0=x:=⟨_,rfl⟩;rw [SK] at VC hx HN;obtain ⟨z,pU⟩:∃ z,out.getD k 0=z:=⟨_,rfl⟩;rw [pU] at VA;clear SK pU;have aAJ:ab<wr.heap.size:=by omega
   have fT:(k:Int)<(n:Int):=by omega
   have HOR:=lH (aDj cc x s OG HN.o.1);have iL:=lH HN.o.2;clear HN OG
   go_wp2_with fail
   rw [HOR.o];generalize cc+x*2^s=t at *;go_roundw
   case rel=>exact ⟨k+1,_,_,by omega,by go_num,aQ (by omega),HK.o.setCell lR _,eM HG.o (by omega),iL.o⟩
   case measure=>simp [intOf];omega
  ·have lS:k=n:=by omega
   subst lS;have VA:=cI HG.o (i:=k) (by rw [HI.o.len];omega);obtain ⟨z,pU⟩:∃ z,out.getD k 0=z:=⟨_,rfl⟩;rw [pU] at VA;clear pU;have aVH:cc<4294967296:=jO OG (cV (Nat.pow_le_pow_right (by decide) hs) (by decide));have HE:Hid (wv (out.set k cc)=wv a*2^s):=lH (by
    rw [YW (v:=wv a*2^s) (by rw [HI.o.len];omega) HI.o.oz];rw [HI.o.eq,nW (by rw [IX.o];exact lR)])
   have HW:Hid (Wd (out.set k cc)):=lH (HI.o.od.set _ aVH);have Y6:Hid ((out.set k cc).length=k+1):=lH (by rw [lF];exact HI.o.len);have g1:(k:Int)<(k:Int)+1:=by omega
   clear OG
   go_wp2_with fail
   go_ret;exact ⟨by rw [nM.o];exact HK.o.setCell lR _,g,_,rfl,Nat.le_of_eq nM.o,eM HG.o rfl,HW.o,HE.o,Y6.o⟩
structure aFB (a b:List Nat) (n m i:Nat) (out:List Nat):Prop where
 len:out.length=n+m
 od:Wd out
 oz:Zf out (i+m)
 eq:wv out=wv (a.take i)*wv b
structure IH (a b:List Nat) (n m i x k cc:Nat) (out:List Nat):Prop where
 len:out.length=n+m
 od:Wd out
 oz:Zf out (i+m)
 cl:cc<4294967296
 eq:wv out+cc*BB (i+k)=wv (a.take i)*wv b+x*wv (b.take k)*BB i
theorem IH.step {a b out:List Nat} {n m i x k cc:Nat} (H:IH a b n m i x k cc out) (hb:Wd b) (hx:x<4294967296) (hi:i<n) (hk:k<m):cc+out.getD (i+k) 0+x*b.getD k 0<18446744073709551616/\IH a b n m i x (k+1) ((cc+out.getD (i+k) 0+x*b.getD k 0) / 4294967296) (out.set (i+k) ((cc+out.getD (i+k) 0+x*b.getD k 0) % 4294967296)):=by
 have hl:=H.len;obtain ⟨h1,h2,h3⟩:=aDw hb H.od hx H.cl (by omega) H.eq;exact ⟨h1,by rw [lF];exact hl,H.od.set _ (Nat.mod_lt _ (by decide)),H.oz.set (by omega),h2,h3⟩
theorem IH.done {a b out:List Nat} {n m i cc:Nat} (H:IH a b n m i (a.getD i 0) m cc out) (qL:b.length=m) (hi:i<n):aFB a b n m (i+1) (out.set (i+m) cc):=by
 have hl:=H.len;have he:=H.eq;refine ⟨by rw [lF];exact hl,H.od.set _ H.cl,?_,?_⟩
 ·have:=H.oz.put (x:=cc)
  rwa [show i+m+1=i+1+m from by omega] at this
 ·subst qL
  rw [nW lR] at he;exact aHQ (by omega) H.oz he
theorem aHj (y z:Int):BJ (decide (y<0) != decide (z<0)) (y.natAbs*z.natAbs)=y*z:=by
 rw [<-Int.natAbs_mul];unfold BJ;rcases Int.lt_trichotomy y 0 with hy | hy | hy
 ·rcases Int.lt_trichotomy z 0 with hz | hz | hz
  ·have:=Int.mul_pos_of_neg_of_neg hy hz
   rw [if_neg (by simp [hy,hz])];omega
  ·subst hz;simp
  ·have:=Int.mul_neg_of_neg_of_pos hy hz
   rw [if_pos (by simp [hy];omega)];omega
 ·subst hy;simp
 ·rcases Int.lt_trichotomy z 0 with hz | hz | hz
  ·have:=Int.mul_neg_of_pos_of_neg hy hz
   rw [if_pos (by simp [hz];omega)];omega
  ·subst hz;simp
  ·have:=Int.mul_pos hy hz
   rw [if_neg (by simp;omega)];omega
theorem iO (y z:Int) (b1:Bool) (A:OA) (n c:Nat) (b2:Bool) (B:OA) (m d:Nat) (w:Wo) (h1:cG w w.heap.size y b1 A n c) (h2:cG w w.heap.size z b2 B m d) (I1:n+m<=35184372088832) :
    Calls Tryz.prog 115 #[.agg #[.bool b1,.slice A n c],.agg #[.bool b2,.slice B m d]] w (LgP (y*z) w):=by
 have dB:Hid (Below w.heap.size w ((((w.alloc (.cells #[.bool b1,.slice A n c] 113)).alloc (.cells #[.bool b2,.slice B m d] 113)).alloc (.cells #[.bool false,.slice none 0 0] 113)).alloc (.cells (bQ (List.replicate (n+m) 0)).toArray 216))):=lH (((bA).alloc (by simp) _).alloc (by simp;omega) _ |>.alloc (by simp;omega) _);have cJ:Hid (aG ((((w.alloc (.cells #[.bool b1,.slice A n c] 113)).alloc (.cells #[.bool b2,.slice B m d] 113)).alloc (.cells #[.bool false,.slice none 0 0] 113)).alloc (.cells (bQ (List.replicate (n+m) 0)).toArray 216)) w.heap.size 113 #[.bool b1,.slice A n c]):=lH ((((aG.new w _ _).alloc _).alloc _).alloc _)
 have dI:Hid (aG ((((w.alloc (.cells #[.bool b1,.slice A n c] 113)).alloc (.cells #[.bool b2,.slice B m d] 113)).alloc (.cells #[.bool false,.slice none 0 0] 113)).alloc (.cells (bQ (List.replicate (n+m) 0)).toArray 216)) (w.heap.size+1) 113 #[.bool b2,.slice B m d]):=lH (((aG.new_ (by simp)).alloc _).alloc _);have HR:Hid (aG ((((w.alloc (.cells #[.bool b1,.slice A n c] 113)).alloc (.cells #[.bool b2,.slice B m d] 113)).alloc (.cells #[.bool false,.slice none 0 0] 113)).alloc (.cells (bQ (List.replicate (n+m) 0)).toArray 216)) (w.heap.size+1+1) 113 #[.bool false,.slice none 0 0]):=lH ((aG.new_ (by simp)).alloc _)
 have HG:Hid (aG ((((w.alloc (.cells #[.bool b1,.slice A n c] 113)).alloc (.cells #[.bool b2,.slice B m d] 113)).alloc (.cells #[.bool false,.slice none 0 0] 113)).alloc (.cells (bQ (List.replicate (n+m) 0)).toArray 216)) (w.heap.size+1+1+1) 216 (bQ (List.replicate (n+m) 0)).toArray):=lH (aG.new_ (by simp));have HA:Hid (iR ((((w.alloc (.cells #[.bool b1,.slice A n c] 113)).alloc (.cells #[.bool b2,.slice B m d] 113)).alloc (.cells #[.bool false,.slice none 0 0] 113)).alloc (.cells (bQ (List.replicate (n+m) 0)).toArray 216)) w.heap.size A n (jN y.natAbs)):=lH (h1.rd.below dB.o lR);have HB:Hid (iR ((((w.alloc (.cells #[.bool b1,.slice A n c] 113)).alloc (.cells #[.bool b2,.slice B m d] 113)).alloc (.cells #[.bool false,.slice none 0 0] 113)).alloc (.cells (bQ (List.replicate (n+m) 0)).toArray 216)) w.heap.size B m (jN z.natAbs)):=lH (h2.rd.below dB.o lR);have Y9:=lH h1.eb
 have HE2:=lH h2.eb;have IX:Hid ((jN y.natAbs).length=n):=lH h1.en.symm;have iP:Hid ((jN z.natAbs).length=m):=lH h2.en.symm;have HWA:Hid (wv (jN y.natAbs)=y.natAbs):=lH (d8 _);have yR:Hid (wv (jN z.natAbs)=z.natAbs):=lH (d8 _);have SF:=lH (gH y.natAbs);have OO:=lH (gH z.natAbs);generalize jN y.natAbs=a at *;generalize jN z.natAbs=b at *;clear h1 h2;have tK:∀ w:World,(Instr.makeSlice 111 (.int .i64 ((n:Int)+(m:Int))) (.int .i64 ((n:Int)+(m:Int)))).run Tryz.prog w=.ok (.slice (some ⟨w.heap.size,0,none⟩) (n+m) (n+m)) (w.alloc (.cells (bQ (List.replicate (n+m) 0)).toArray 216)):=fun w=>by
  have:=pG (n+m) (by omega) w;rwa [Int.natCast_add] at this
 go_enter Tryz.func115,Tryz.ntmps115
 go_upto_region 2 with fail
 clear tK;generalize ((((w.alloc (.cells #[.bool b1,.slice A n c] 113)).alloc (.cells #[.bool b2,.slice B m d] 113)).alloc (.cells #[.bool false,.slice none 0 0] 113)).alloc (.cells (bQ (List.replicate (n+m) 0)).toArray 216))=W at *;generalize hg:w.heap.size=g at *;have nM:=lH hg;clear hg;have p0:=cJ.o.cell 0;have p1:=cJ.o.cell 1;have q0:=dI.o.cell 0;have q1:=dI.o.cell 1;have pl:=cJ.o.lt;have ql:=dI.o.lt;have hG1:=HG.o.lt;have HK0:=lH (Below.refl (g+1+1+1) W)
 go_wp2_with fail
 clear p0 p1 q0 q1
 go_loopw [22] (fun v22 wr=>∃ (i:Nat) (out:List Nat),i<=n/\v22=.int .i64 i/\Below (g+1+1+1) W wr/\aG wr (g+1+1+1) 216 (bQ out).toArray/\aFB a b n m i out) (fun v22 _=>n-(intOf v22).toNat)
 case atStart=>exact ⟨0,_,by omega,rfl,HK0.o,HG.o,⟨by simp,o9 _,rH _ _,by rw [o5];simp [wv]⟩⟩
 case round=>
  clear HK0 HG;obtain ⟨i,out,hi,rfl,hb,hg,hI⟩:=hrel;have HK:=lH hb;have HG:=lH hg;have HI:=lH hI;clear hb hg hI;have EY:=HG.o.lt;have EZ:=HG.o.frozen;have p0:=(cJ.o.below HK.o (by omega)).cell 0;have p1:=(cJ.o.below HK.o (by omega)).cell 1;have q0:=(dI.o.below HK.o (by omega)).cell 0;have q1:=(dI.o.below HK.o (by omega)).cell 1;have pl2:g<wr.heap.size:=by omega
  have ql2:g+1<wr.heap.size:=by omega
  by_cases aW:i<n
  ·obtain ⟨ab,ao,AE,oS⟩:=HA.o.form (by omega)
   subst AE;have VC:=((HA.o.more (show g<=g+1+1+1 by omega)).lift HK.o (by omega)).at_ aW;have hx:=SF.o.getD i;have HDN:=lH (fun (cc:Nat) (out:List Nat) (H:IH a b n m i (a.getD i 0) m cc out)=>H.done iP.o aW);obtain ⟨x,SK⟩:∃ x,a.getD i 0=x:=⟨_,rfl⟩;rw [SK] at VC hx HDN;clear SK;have aAJ:ab<wr.heap.size:=by omega
   have QI:(i:Int)<(n:Int):=by omega
   go_wp2_with fail
   clear p0 p1 q0 q1 VC EZ;obtain ⟨wo,rfl⟩:∃ wo:World,wo=wr:=⟨_,rfl⟩
   go_loopw [8,30] (fun v8 v30 wr=>∃ (k cc:Nat) (out:List Nat),k<=m/\v30=.int .i64 k/\v8=.int .u64 cc/\Below (g+1+1+1) W wr/\aG wr (g+1+1+1) 216 (bQ out).toArray/\IH a b n m i x k cc out) (fun _ v30 _=>m-(intOf v30).toNat)
   case atStart=>exact ⟨0,0,_,by omega,rfl,rfl,HK.o,HG.o,⟨HI.o.len,HI.o.od,HI.o.oz,by decide,by rw [HI.o.eq];simp [wv]⟩⟩
   case round=>
    clear HK HG HI;obtain ⟨k,cc,out,hk,rfl,rfl,hb,hg,hI⟩:=hrel;have HK:=lH hb;have HG:=lH hg;have HI:=lH hI;clear hb hg hI;have EY:=HG.o.lt;have EZ:=HG.o.frozen;have wV:=HI.o.cl
    by_cases hlk:k<m
    ·obtain ⟨bb,bo,LB,pK⟩:=HB.o.form (by omega)
     subst LB;have hcb:=((HB.o.more (show g<=g+1+1+1 by omega)).lift HK.o (by omega)).at_ hlk;have hy:=OO.o.getD k;have hz:=HI.o.od.getD (i+k);have VA:=cI HG.o (i:=i+k) (by rw [HI.o.len];omega);have HN:=lH (HI.o.step OO.o hx aW hlk);obtain ⟨y2,hyy⟩:∃ y,b.getD k 0=y:=⟨_,rfl⟩;rw [hyy] at hcb hy HN;obtain ⟨z2,pU⟩:∃ y,out.getD (i+k) 0=y:=⟨_,rfl⟩;rw [pU] at VA hz HN;clear hyy pU;have hpr:x*y2<=4294967295*4294967295:=Nat.mul_le_mul (by omega) (by omega);have aEh:IntKind.u64.wrap ((x:Int)*(y2:Int))=((x*y2:Nat):Int):=by rw [<-Int.natCast_mul];exact Go.IntWalk.u64_in _ (by omega)
     have wS:=HN.o.1;have iL:=lH HN.o.2;clear HN;generalize x*y2=pr at *;have aIp:bb<wr.heap.size:=by omega
     have fT:(k:Int)<(m:Int):=by omega
     have aUr:IntKind.i64.wrap ((i:Int)+(k:Int))=((i+k:Nat):Int):=by rw [<-Int.natCast_add];exact Go.IntWalk.i64_in _ (by omega)
     have aP6:(i:Int)+(k:Int)<(n:Int)+(m:Int):=by omega
     have aU9:((i:Int)+(k:Int)).toNat=i+k:=by omega
     go_wp2_with fail
     go_roundw
     case rel=>exact ⟨k+1,_,_,by omega,by go_num,aQ (by omega),HK.o.setCell lR _,eM HG.o (by omega),iL.o⟩
     case measure=>simp [intOf];omega
    ·have lS:k=m:=by omega
     subst lS;have HD2:=lH (HDN.o cc out HI.o);have p0:=(cJ.o.below HK.o (by omega)).cell 0;have p1:=(cJ.o.below HK.o (by omega)).cell 1;have q0:=(dI.o.below HK.o (by omega)).cell 0;have q1:=(dI.o.below HK.o (by omega)).cell 1;have pl2:g<wr.heap.size:=by omega
     have ql2:g+1<wr.heap.size:=by omega
     have hz:=HI.o.od.getD (i+k);have VA:=cI HG.o (i:=i+k) (by rw [HI.o.len];omega);obtain ⟨z2,pU⟩:∃ y,out.getD (i+k) 0=y:=⟨_,rfl⟩;rw [pU] at VA hz;clear pU;have aP6:(i:Int)+(k:Int)<(n:Int)+(k:Int):=by omega
     have aU9:((i:Int)+(k:Int)).toNat=i+k:=by omega
     go_wp2_with fail
     clear p0 p1 q0 q1;go_roundw
     case rel=>exact ⟨i+1,_,by omega,by go_num,HK.o.setCell lR _,eM HG.o rfl,HD2.o⟩
     case measure=>simp [intOf];omega
  ·have SQ:i=n:=by omega
   subst SQ;have HE:Hid (wv out=y.natAbs*z.natAbs):=lH (by rw [HI.o.eq,nW (by rw [IX.o];exact lR),HWA.o,yR.o]);have Y6:Hid (out.length=i+m):=lH HI.o.len;have rE:=lH (HR.o.below HK.o (by omega));have fZ:Hid (Below w.heap.size w wr):=lH (by rw [nM.o];exact dB.o.trans (HK.o.mono (by omega)))
   go_wp2_with fail
   clear p0 p1 q0 q1;refine (jG (b1 != b2) (some ⟨g+1+1+1,0,none⟩) (i+m) (i+m) out wr (by have:=qD HG.o;rwa [Y6.o] at this) HI.o.od lR (by omega)).mono ?_;rw [HE.o,Y9.o,HE2.o,aHj];rintro e w2 ⟨k,b9,A9,n9,c9,rfl,h9⟩;have bW:=lH (fZ.o.tm k);have fI:=lH (rE.o.bl k);have H2:=lH h9;have qK:w.heap.size<=g+1+1:=by have:=nM.o;omega
   clear k h9;have z0:=fI.o.cell 0;have z1:=fI.o.cell 1;have zf:=fI.o.frozen;have zl:=fI.o.lt
   go_wp2_with fail
   generalize fD:(w2.setCell ⟨_,0,none⟩ _).setCell ⟨_,1,none⟩ _=W9;have iK:=lH (nU (e:=.returned (.agg #[.bool b9,.slice A9 n9 c9])) bW.o qK fI.o (by simp) (by simp) H2.o rfl);rw [fD] at iK;have cQ:Hid (aG W9 _ 113 #[.bool b9,.slice A9 n9 c9]):=lH (by rw [<-fD];exact cD fI.o);clear fD z0 z1 zf zl;have q0:=cQ.o.cell 0;have q1:=cQ.o.cell 1;exact bodyPost_ret (v:=.agg #[.bool b9,.slice A9 n9 c9]) (by simp [results,Tryz.results115,go_sem,q0,q1]) rfl iK.o
theorem aHk {y z:Int} (h:decide (y<0)=decide (z<0)):BJ (decide (y<0)) (y.natAbs+z.natAbs)=y+z:=by
 unfold BJ;have h2:(y<0)<->(z<0):=by simpa using h
 by_cases hy:y<0
 ·rw [if_pos (by simpa using hy)];omega
 ·rw [if_neg (by simpa using hy)];omega
theorem W5 {y z:Int} (h:decide (y<0)≠decide (z<0)) (K5:z.natAbs<=y.natAbs):BJ (decide (y<0)) (y.natAbs-z.natAbs)=y+z:=by
 unfold BJ
 by_cases hy:y<0<;>by_cases hz:z<0
 ·exact absurd (by simp [hy,hz]) h
 ·rw [if_pos (by simpa using hy)];omega
 ·rw [if_neg (by simpa using hy)];omega
 ·exact absurd (by simp [hy,hz]) h
theorem NM (y z:Int) (b1:Bool) (A:OA) (n c:Nat) (b2:Bool) (B:OA) (m d:Nat) (w:Wo) (h1:cG w w.heap.size y b1 A n c) (h2:cG w w.heap.size z b2 B m d) (hn:n<=35184372088832) (hm:m<=35184372088832) :
    Calls Tryz.prog 116 #[.agg #[.bool b1,.slice A n c],.agg #[.bool b2,.slice B m d]] w (LgP (y+z) w):=by
 have he1:=h1.eb;have he2:=h2.eb;have hny:=h1.en;have hmz:=h2.en;have dB:Hid (Below w.heap.size w (((w.alloc (.cells #[.bool b1,.slice A n c] 113)).alloc (.cells #[.bool b2,.slice B m d] 113)).alloc (.cells #[.bool false,.slice none 0 0] 113))):=lH (((bA).alloc (by simp) _).alloc (by simp;omega) _);have cJ:Hid (aG (((w.alloc (.cells #[.bool b1,.slice A n c] 113)).alloc (.cells #[.bool b2,.slice B m d] 113)).alloc (.cells #[.bool false,.slice none 0 0] 113)) w.heap.size 113 #[.bool b1,.slice A n c]):=lH (((aG.new w _ _).alloc _).alloc _);have dI:Hid (aG (((w.alloc (.cells #[.bool b1,.slice A n c] 113)).alloc (.cells #[.bool b2,.slice B m d] 113)).alloc (.cells #[.bool false,.slice none 0 0] 113)) (w.heap.size+1) 113 #[.bool b2,.slice B m d]):=lH ((aG.new_ (by simp)).alloc _)
 have HR:Hid (aG (((w.alloc (.cells #[.bool b1,.slice A n c] 113)).alloc (.cells #[.bool b2,.slice B m d] 113)).alloc (.cells #[.bool false,.slice none 0 0] 113)) (w.heap.size+1+1) 113 #[.bool false,.slice none 0 0]):=lH (aG.new_ (by simp));have H1:=lH (h1.up dB.o);have H2:=lH (h2.up dB.o);clear h1 h2;have HNY:=lH hny;have HMZ:=lH hmz;clear hny hmz;go_enter Tryz.func116,Tryz.ntmps116
 have qK:w.heap.size<=w.heap.size+1+1:=by omega
 by_cases hb:b1=b2
 ·have HSG:Hid (BJ b1 (wv (jN y.natAbs)+wv (jN z.natAbs))=y+z):=lH (by rw [d8,d8,he1];exact aHk (by rw [<-he1,<-he2,hb]))
  have pK:(b1 == b2)=true:=by simp [hb]
  clear he1 he2 hb
  go_wp2_with fail
  generalize (((w.alloc (.cells #[.bool b1,.slice A n c] 113)).alloc (.cells #[.bool b2,.slice B m d] 113)).alloc (.cells #[.bool false,.slice none 0 0] 113))=W at *;have p0:=cJ.o.cell 0;have p1:=cJ.o.cell 1;have q0:=dI.o.cell 0;have q1:=dI.o.cell 1;have pl:=cJ.o.lt;have ql:=dI.o.lt;have H1W:Hid (iR W.drew W.drew.heap.size A n (jN y.natAbs)):=lH H1.o.rd;have H2W:Hid (iR W.drew W.drew.heap.size B m (jN z.natAbs)):=lH H2.o.rd;have fZ:=dB;have rE:=HR;clear dB HR;refine aJ (S:=fun w'=>Below W.heap.size W w') 8 _ (by kernel_rfl) (by kernel_rfl) rfl (aD bR) (fun hHeld=>?_);simp only [lA,List.take_zero];refine aL 0 rfl ?_;refine aL 1 rfl ?_;refine aL 2 rfl ?_;refine aL 3 rfl ?_;refine aL 4 rfl ?_;refine aL 5 rfl ?_;refine aU 6 (by kernel_rfl) rfl (fun K hK=>?_);go_simp
  refine (aQM A n c B m d (jN y.natAbs) (jN z.natAbs) W.drew H1W.o H2W.o (gH _) (gH _) (by omega) (by omega)).mono ?_;rintro e w5 ⟨eD,A5,n5,c5,l5,rfl,xL,hd5,MX,hn5,hc5⟩;have dX:=lH ((aD (Below.refl W.heap.size W)).trans eD);have LY:=lH xL;have ST:=lH MX;have HD5:=lH hd5;clear eD xL MX hd5;go_simp;refine hK.out _ _ ?_ (fun hHeld=>?_)
  ·exact dX.o
  clear hK K
  try simp only [Act.put,bP,bO,bN]
  refine aU 7 (by kernel_rfl) rfl (fun K hK=>?_);go_simp;refine (jG b1 A5 n5 c5 l5 w5 LY.o HD5.o hn5 hc5).mono ?_;rw [ST.o,HSG.o];rintro e w6 ⟨fQ,b9,A9,n9,c9,rfl,h9⟩;have fV:=lH (dX.o.tm fQ);have H9:=lH h9;clear fQ h9;go_simp;refine hK.out _ _ ?_ (fun hHeld=>?_)
  ·exact fV.o
  clear hK K
  try simp only [Act.put,bP,bO,bN]
  refine wpAnyH_done (by kernel_rfl) ?_ _;refine aP (by rfl) ?_;have CU:=lH (fZ.o.tm fV.o);have eP:=lH (rE.o.bl fV.o);clear p0 p1 q0 q1 pl ql;have z0:=eP.o.cell 0;have z1:=eP.o.cell 1;have zf:=eP.o.frozen;have zl:=eP.o.lt
  go_wp2_with fail
  generalize fD:(w6.setCell ⟨_,0,none⟩ _).setCell ⟨_,1,none⟩ _=W9;have iK:=lH (nU (e:=.returned (.agg #[.bool b9,.slice A9 n9 c9])) CU.o qK eP.o (by simp) (by simp) H9.o rfl);rw [fD] at iK;have cQ:Hid (aG W9 _ 113 #[.bool b9,.slice A9 n9 c9]):=lH (by rw [<-fD];exact cD eP.o);clear fD z0 z1 zf zl;have q0:=cQ.o.cell 0;have q1:=cQ.o.cell 1;exact bodyPost_ret (v:=.agg #[.bool b9,.slice A9 n9 c9]) (by simp [results,Tryz.results116,go_sem,q0,q1]) rfl iK.o
 ·have pK:(b1 == b2)=false:=by simpa using hb
  have LZ:Hid (decide (y<0)≠decide (z<0)):=lH (by rw [<-he1,<-he2];exact hb);have aXM:=lH he1;have aXL:=lH he2;clear he1 he2 hb
  go_wp2_with fail
  generalize (((w.alloc (.cells #[.bool b1,.slice A n c] 113)).alloc (.cells #[.bool b2,.slice B m d] 113)).alloc (.cells #[.bool false,.slice none 0 0] 113))=W at *;refine (RH A n c B m d y.natAbs z.natAbs W H1.o.rd H2.o.rd (by omega) (by omega)).mono ?_;rintro e w4 ⟨⟨r,rfl,hr⟩,nq,rfl⟩;have I3:Below W.heap.size W (W.drewN nq):=bC bR nq;have bS:=lH (dB.o.tm I3);have aFG:=lH (cJ.o.bl I3);have aMO:=lH (dI.o.bl I3);have HRb:=lH (HR.o.bl I3);have H1b:=lH (H1.o.up I3);have H2b:=lH (H2.o.up I3);clear I3 dB cJ dI HR H1 H2;have dB:=bS;have cJ:=aFG;have dI:=aMO;have HR:=HRb;have H1:=H1b;have H2:=H2b;clear bS aFG aMO HRb H1b H2b;generalize W.drewN nq=V at *;have p0:=cJ.o.cell 0;have p1:=cJ.o.cell 1;have q0:=dI.o.cell 0;have q1:=dI.o.cell 1;have pl:=cJ.o.lt;have ql:=dI.o.lt
  by_cases gL:r<0
  ·have Y7:Hid (y.natAbs<=z.natAbs):=lH (rC (hr.1.1 gL))
   have hmn:n<=m:=by rw [HNY.o,HMZ.o];exact jU Y7.o
   have HSG:Hid (BJ b2 (wv (jN z.natAbs)-wv (jN y.natAbs))=y+z):=lH (by
    rw [d8,d8,aXL.o,Int.add_comm];exact W5 (fun h=>LZ.o h.symm) Y7.o)
   have yQ:decide (0<=r)=false:=by simpa using gL
   clear hr gL
   go_wp2_with fail
   have H1W:Hid (iR V.drew V.drew.heap.size A n (jN y.natAbs)):=lH H1.o.rd;have H2W:Hid (iR V.drew V.drew.heap.size B m (jN z.natAbs)):=lH H2.o.rd;have fZ:=dB;have rE:=HR;clear dB HR;refine aJ (S:=fun w'=>Below V.heap.size V w') 8 _ (by kernel_rfl) (by kernel_rfl) rfl (aD bR) (fun hHeld=>?_);simp only [lA,List.take_zero];refine aL 0 rfl ?_;refine aL 1 rfl ?_;refine aL 2 rfl ?_;refine aL 3 rfl ?_;refine aL 4 rfl ?_;refine aL 5 rfl ?_;refine aU 6 (by kernel_rfl) rfl (fun K hK=>?_);go_simp;refine (aJw B m d A n c (jN z.natAbs) (jN y.natAbs) V.drew H2W.o H1W.o (gH _) (gH _) (by omega) (by omega) (by rw [d8,d8];exact Y7.o)).mono ?_;rintro e w5 ⟨eD,A5,n5,c5,l5,rfl,xL,hd5,MX,hn5,hc5⟩;have dX:=lH ((aD (Below.refl V.heap.size V)).trans eD);have LY:=lH xL;have ST:=lH MX;have HD5:=lH hd5
   clear eD xL MX hd5;go_simp;refine hK.out _ _ ?_ (fun hHeld=>?_)
   ·exact dX.o
   clear hK K
   try simp only [Act.put,bP,bO,bN]
   refine aU 7 (by kernel_rfl) rfl (fun K hK=>?_);go_simp;refine (jG b2 A5 n5 c5 l5 w5 LY.o HD5.o hn5 hc5).mono ?_;rw [ST.o,HSG.o];rintro e w6 ⟨fQ,b9,A9,n9,c9,rfl,h9⟩;have fV:=lH (dX.o.tm fQ);have H9:=lH h9;clear fQ h9;go_simp;refine hK.out _ _ ?_ (fun hHeld=>?_)
   ·exact fV.o
   clear hK K
   try simp only [Act.put,bP,bO,bN]
   refine wpAnyH_done (by kernel_rfl) ?_ _;refine aP (by rfl) ?_;have CU:=lH (fZ.o.tm fV.o);have eP:=lH (rE.o.bl fV.o);clear p0 p1 q0 q1 pl ql;have z0:=eP.o.cell 0;have z1:=eP.o.cell 1;have zf:=eP.o.frozen;have zl:=eP.o.lt
   go_wp2_with fail
   generalize fD:(w6.setCell ⟨_,0,none⟩ _).setCell ⟨_,1,none⟩ _=W9;have iK:=lH (nU (e:=.returned (.agg #[.bool b9,.slice A9 n9 c9])) CU.o qK eP.o (by simp) (by simp) H9.o rfl);rw [fD] at iK;have cQ:Hid (aG W9 _ 113 #[.bool b9,.slice A9 n9 c9]):=lH (by rw [<-fD];exact cD eP.o);clear fD z0 z1 zf zl;have q0:=cQ.o.cell 0;have q1:=cQ.o.cell 1;exact bodyPost_ret (v:=.agg #[.bool b9,.slice A9 n9 c9]) (by simp [results,Tryz.results116,go_sem,q0,q1]) rfl iK.o
  ·have Y7:Hid (z.natAbs<=y.natAbs):=lH (Nat.le_of_not_lt fun h=>gL (hr.1.2 h))
   have hmn:m<=n:=by rw [HNY.o,HMZ.o];exact jU Y7.o
   have HSG:Hid (BJ b1 (wv (jN y.natAbs)-wv (jN z.natAbs))=y+z):=lH (by
    rw [d8,d8,aXM.o];exact W5 LZ.o Y7.o)
   have yQ:0<=r:=by omega
   clear hr gL
   go_wp2_with fail
   have H1W:Hid (iR V.drew V.drew.heap.size A n (jN y.natAbs)):=lH H1.o.rd;have H2W:Hid (iR V.drew V.drew.heap.size B m (jN z.natAbs)):=lH H2.o.rd;have fZ:=dB;have rE:=HR;clear dB HR;refine aJ (S:=fun w'=>Below V.heap.size V w') 8 _ (by kernel_rfl) (by kernel_rfl) rfl (aD bR) (fun hHeld=>?_);simp only [lA,List.take_zero];refine aL 0 rfl ?_;refine aL 1 rfl ?_;refine aL 2 rfl ?_;refine aL 3 rfl ?_;refine aL 4 rfl ?_;refine aL 5 rfl ?_;refine aU 6 (by kernel_rfl) rfl (fun K hK=>?_);go_simp;refine (aJw A n c B m d (jN y.natAbs) (jN z.natAbs) V.drew H1W.o H2W.o (gH _) (gH _) (by omega) (by omega) (by rw [d8,d8];exact Y7.o)).mono ?_;rintro e w5 ⟨eD,A5,n5,c5,l5,rfl,xL,hd5,MX,hn5,hc5⟩;have dX:=lH ((aD (Below.refl V.heap.size V)).trans eD);have LY:=lH xL;have ST:=lH MX;have HD5:=lH hd5
   clear eD xL MX hd5;go_simp;refine hK.out _ _ ?_ (fun hHeld=>?_)
   ·exact dX.o
   clear hK K
   try simp only [Act.put,bP,bO,bN]
   refine aU 7 (by kernel_rfl) rfl (fun K hK=>?_);go_simp;refine (jG b1 A5 n5 c5 l5 w5 LY.o HD5.o hn5 hc5).mono ?_;rw [ST.o,HSG.o];rintro e w6 ⟨fQ,b9,A9,n9,c9,rfl,h9⟩;have fV:=lH (dX.o.tm fQ);have H9:=lH h9;clear fQ h9;go_simp;refine hK.out _ _ ?_ (fun hHeld=>?_)
   ·exact fV.o
   clear hK K
   try simp only [Act.put,bP,bO,bN]
   refine wpAnyH_done (by kernel_rfl) ?_ _;refine aP (by rfl) ?_;have CU:=lH (fZ.o.tm fV.o);have eP:=lH (rE.o.bl fV.o);clear p0 p1 q0 q1 pl ql;have z0:=eP.o.cell 0;have z1:=eP.o.cell 1;have zf:=eP.o.frozen;have zl:=eP.o.lt
   go_wp2_with fail
   generalize fD:(w6.setCell ⟨_,0,none⟩ _).setCell ⟨_,1,none⟩ _=W9;have iK:=lH (nU (e:=.returned (.agg #[.bool b9,.slice A9 n9 c9])) CU.o qK eP.o (by simp) (by simp) H9.o rfl);rw [fD] at iK;have cQ:Hid (aG W9 _ 113 #[.bool b9,.slice A9 n9 c9]):=lH (by rw [<-fD];exact cD eP.o);clear fD z0 z1 zf zl;have q0:=cQ.o.cell 0;have q1:=cQ.o.cell 1;exact bodyPost_ret (v:=.agg #[.bool b9,.slice A9 n9 c9]) (by simp [results,Tryz.results116,go_sem,q0,q1]) rfl iK.o
end
