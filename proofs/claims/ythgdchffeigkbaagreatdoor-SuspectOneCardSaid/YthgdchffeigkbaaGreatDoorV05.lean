import Derived.Test.YthgdchffeigkbaaGreatDoorV03
import Derived.Test.YthgdchffeigkbaaGreatDoorV04
import Derived.Deep.DeepCutAuto
import Derived.Lib.BitFns
set_option linter.unusedVariables false
set_option linter.unusedSimpArgs false
namespace Go.Proofs.YthgdchffeigkbaaGreatDoor
set_option maxHeartbeats 4000000
set_option maxRecDepth 100000
variable {L : List Oper} {W w : World} {a : Act} {fuel g n x y : Nat} {v0 v1 v2 v3 : Value}
section
section
open Go Go.RowKit
variable {P:Program} {Q:Exit->Act->World->Prop} {md:Region.Mode}
theorem gL{α:Type _}{l:List α}{i:Nat}{a:α}:l.toArray.setIfInBounds i a=(l.set i a).toArray:=List.setIfInBounds_toArray _ _ _
theorem gK{α:Type _}{x:α}{xs:List α}{a:α}:(x::xs).set 0 a=a::xs:=rfl
theorem gJ{α:Type _}{x:α}{xs:List α}{a:α}:(x::xs).set (n+1) a=x::xs.set n a:=rfl
theorem tkH(i:Nat){oi:Oper}{v:Value}{listed:Array Bool}{a':Act}(hi:L[i]?=some oi)(h:wpAnyH P md L.toArray Q (fun w'=>Below W.heap.size W w') fuel (listed.setIfInBounds i true) a' w)(hy:∀w',Below W.heap.size W w'->(∀b o,b<W.heap.size->w'.cell? ⟨b,o,none⟩=W.cell? ⟨b,o,none⟩)->(execOp a.eval oi).run P w'=.ok (.value v) w':=by intro w' _ NC;go_simp<;>with_reducible rfl)(ha:a.put oi.dst v=a':=by (try simp only[Act.put,gL,gK,gJ]);rfl)(hS:Below W.heap.size W w:=by assumption)(hB:BG md L.toArray listed i=true:=by kernel_rfl)(hQ:∀c a w,Q (.panic c) (a.put oi.dst v) w->Q (.panic c) a w:=by exact fun _ _ _ h=>h)(hw:Region.wanted oi (yielded L.toArray a.tmps)=true:=by rfl):wpAnyH P md L.toArray Q (fun w'=>Below W.heap.size W w') (fuel+1) listed a w:=
 aLe i hi hB hQ hw (fun w' h=>hy w' h (aG6 h).1) hS (by rw[ha];exact h)
inductive aCT (P:Program) (md:Region.Mode) (Q:Exit->Act->World->Prop) (L:List Oper) (W:Wo):List Nat->Nat->Array Bool->Act->Nat->Array Bool->Act->Prop
 | nil {f:Nat} {l:Array Bool} {a:Act}:aCT P md Q L W [] f l a f l a
 | cons {i f g:Nat} {r:List Nat} {l m:Array Bool} {a b c:Act} {o:Oper} {v:Value} (ho:L[i]?=some o) (hy:∀w',Below W.heap.size W w'->(∀b o,b<W.heap.size->w'.cell? ⟨b,o,none⟩=W.cell? ⟨b,o,none⟩)->(execOp a.eval o).run P w'=.ok (.value v) w') (ha:a.put o.dst v=b) (hB:BG md L.toArray l i=true) (hQ:∀c a w,Q (.panic c) (a.put o.dst v) w->Q (.panic c) a w) (hw:Region.wanted o (yielded L.toArray a.tmps)=true) (t:aCT P md Q L W r f (l.setIfInBounds i true) b g m c):aCT P md Q L W (i::r) (f+1) l a g m c
theorem aCT.go{f:Nat}{l m:Array Bool}{c:Act}{is:List Nat}(t:aCT P md Q L W is f l a g m c)(hS:Below W.heap.size W w)(h:wpAnyH P md L.toArray Q (fun w'=>Below W.heap.size W w') g m c w):wpAnyH P md L.toArray Q (fun w'=>Below W.heap.size W w') f l a w:=by
 induction t with
 | nil=>exact h
 | cons ho hy ha hB hQ hw t ih=>exact tkH _ ho (ih h) hy ha hS hB hQ hw
theorem cW{f:Nat}{l m:Array Bool}{c:Act}(is:List Nat)(h:wpAnyH P md L.toArray Q (fun w'=>Below W.heap.size W w') g m c w)(t:aCT P md Q L W is f l a g m c:=by repeat (first | exact .nil | apply aCT.cons rfl (by intro w' _ NC;go_simp<;>with_reducible rfl) (by (try simp only[Act.put,gL,gK,gJ]);rfl) (by kernel_rfl) (fun _ _ _ h=>h) (by rfl)))(hS:Below W.heap.size W w:=by assumption):wpAnyH P md L.toArray Q (fun w'=>Below W.heap.size W w') f l a w:=t.go hS h
theorem bQ{L:List Oper}{S:World->Prop}(i:Nat){o:Oper}{fuel:Nat}{listed:Array Bool}{a:Act}{w:Wo}(h:∀K':Act->World->Prop,Shut (∀a w,S w->(S w->wpAnyH P md L.toArray Q S fuel (listed.setIfInBounds i true) a w)->K' a w)->if Region.wanted o (yielded L.toArray a.tmps)=true then Oper.wp P o a w K' Q else K' (a.put o.dst undef) w)(hr:Region.ready md L.toArray listed=[i]:=by kernel_rfl)(ho:L[i]?=some o:=by rfl):wpAnyH P md L.toArray Q S (fuel+1) listed a w:=aRn i hr ho h
theorem gB{L:List Oper}{S:World->Prop}(i:Nat){oi:Oper}{v:Value}{fuel:Nat}{listed:Array Bool}{a:Act}{w:Wo}(hy:∀w,S w->(execOp a.eval oi).run P w=.ok (.value v) w)(hS:S w)(h:wpAnyH P md L.toArray Q S fuel (listed.setIfInBounds i true) (a.put oi.dst v) w)(hi:L[i]?=some oi:=by rfl)(hB:BG md L.toArray listed i=true:=by kernel_rfl)(hQ:∀c a w,Q (.panic c) (a.put oi.dst v) w->Q (.panic c) a w:=by exact fun _ _ _ h=>h)(hw:Region.wanted oi (yielded L.toArray a.tmps)=true:=by rfl):wpAnyH P md L.toArray Q S (fuel+1) listed a w:=aLe i hi hB hQ hw hy hS h
theorem eM{ops op2:Array Oper}{o:Oper}{S:World->Prop}{listed:Array Bool}(h:Oper.wp P o a w (Q .normal) Q)(hr:Region.ready md ops listed=[]:=by kernel_rfl)(hw:Region.wanted o (yielded op2 a.tmps)=true:=by rfl):wpAnyH P md ops (lK P op2 o Q) S fuel listed a w:=wpAnyH_done hr (dK hw h) _
theorem gZ{S:World->Prop}{listed:Array Bool}{K:Act->World->Prop}{a':Act}(hK:Shut (∀a w,S w->(S w->wpAnyH P md L.toArray Q S fuel listed a w)->K a w))(hs:S w)(h:S w->wpAnyH P md L.toArray Q S fuel listed a' w)(ha:a=a':=by (try simp only[Act.put,gL,gK,gJ]);rfl):K a w:=hK.out a w hs (by rw[ha];exact h)
theorem kX{id:Nat}{a:Act}{w:Wo}{L:List Oper}(n:Nat){oN:Oper}(h:Below w.heap.size w w.drew->wpAnyH P .any (L.take n).toArray (lK P L.toArray oN Q) (fun w'=>Below w.heap.size w w') n (Array.replicate n false) a w.drew)(hm:P.follows .mixedOrders=true:=by kernel_rfl)(hs:rS .any L n=true:=by kernel_rfl)(hN:L[n]?=some oN:=by rfl):(Code.region id L.toArray true).wp P Q a w:=
 bZ (S:=fun w'=>Below w.heap.size w w') n oN hm hs hN (aK bR) h
end
end
section
open Go.ChangeShapes Go.WideShapes Go.ChangeAt Go.RowKit
attribute [local go_sem ↓] aE
attribute [local go_sem] aJ aI aM
theorem kL(m:Bool)(A:OA)(n c:Nat)(ws:List Nat)(w:Wo)(hr:jU w w.heap.size A n ws)(hd:Wd ws)(hn:n<=c)(hc:c<=9223372036854775807):Calls Tryz.prog 141 #[.bool m,.slice A n c] w (LgP (DY m (wv ws)) w):=by
 obtain⟨HR,HD,HL,HK⟩:=iK hr hd hr.len ((Below.refl w.heap.size w).alloc lR (.cells #[.bool false,.slice none 0 0] 113));clear hr hd;go_enter Tryz.func141,Tryz.ntmps141
 go_wp2_with fail
 have HB:=lH (aG.new w 113 #[.bool false,.slice none 0 0]);have vY:=lH (HR.o.up HK.o);generalize w.alloc (.cells #[.bool false,.slice none 0 0] 113)=W at *;generalize hg:w.heap.size=g at *;have HG:=lH hg;clear hg
 go_loop [1] (fun v1=>∃k:Nat,k<=n/\v1=.slice A k c/\wv (ws.take k)=wv ws) (fun v1=>match v1 with | .slice _ k _=>k | _=>0)
 case atStart=>exact⟨n,lR,rfl,by rw[nL (Nat.le_of_eq HL.o)]⟩
 case round=>
  obtain⟨k,hk,rfl,hv⟩:=hrel;have HV:=lH hv;have HE:Hid (∀v' e w',Below g w w'->jU w' w'.heap.size A k (ws.take k)->(k=0\/ws.getD (k-1) 0≠0)->v'=.agg #[.bool (m && decide (0<k)),.slice A k c]->e=.returned v'->LgP (DY m (wv ws)) w e w'):=lH (fun v' e w' hb hr hz hv' he=>aNB (by rw[HG.o];exact hb) (by rw[aD1 HD.o (by have:=HL.o;omega) hz,HV.o]) (by rw[kR,HL.o,Nat.min_eq_left hk]) hr (cO hk hn) hc (by rw[he,hv']));clear hv;obtain⟨b0,b1,bf,bl⟩:=HB.o.e2;by_cases h0:k=0
  ·subst h0
   cases m with
   | true=>
    (go_wp2_with fail);generalize XW:(W.setCell ⟨g,0,none⟩ _).setCell ⟨g,1,none⟩ _=W2;have cH:Hid (aG W2 g 113 #[.bool (true && decide (0<0)),.slice A 0 c]):=lH (by rw[<-XW];exact cD HB.o);have xO:Hid (Below g w W2):=lH (by rw[<-XW];exact cY HK.o lR);clear XW b0 b1;obtain⟨q0,q1⟩:=cH.o.a2;refine bodyPost_ret (v:=.agg #[.bool (true && decide (0<0)),.slice A 0 c]) (by simp[results,Tryz.results141,go_sem,q0,q1]) rfl (HE.o _ _ _ xO.o (BU _ _ _) (.inl trivial) rfl rfl)
   | false=>
    (go_wp2_with fail);generalize XW:(W.setCell ⟨g,0,none⟩ _).setCell ⟨g,1,none⟩ _=W2;have cH:Hid (aG W2 g 113 #[.bool (false && decide (0<0)),.slice A 0 c]):=lH (by rw[<-XW];exact cD HB.o);have xO:Hid (Below g w W2):=lH (by rw[<-XW];exact cY HK.o lR);clear XW b0 b1;obtain⟨q0,q1⟩:=cH.o.a2;refine bodyPost_ret (v:=.agg #[.bool (false && decide (0<0)),.slice A 0 c]) (by simp[results,Tryz.results141,go_sem,q0,q1]) rfl (HE.o _ _ _ xO.o (BU _ _ _) (.inl trivial) rfl rfl)
  ·have lB:0<k:=by omega
   obtain⟨b,off,hA,sH⟩:=vY.o.form (by omega);subst hA;have JV:=vY.o.at_ (i:=k-1) (by omega);have sP:=lH (vY.o.take hk);have g1:(1:Int)<=(k:Int):=by omega
   have g4:((k:Int)-1).toNat=k-1:=by omega
   have g5:(k:Int)-1<(k:Int):=by omega
   have g6:(k:Int)-1<=(c:Int):=by omega
   have g7:(k:Int)<=9223372036854775807:=by omega
   obtain⟨x,hx⟩:∃x,ws.getD (k-1) 0=x:=⟨_,rfl⟩;have HX:=lH hx;rw[hx] at JV;clear hx;by_cases hz:x=0
   ·subst hz
    have hz:=HX.o;have HT:=lH (aBf lB (by have:=HL.o;omega) hz);clear hz b0 b1 bf bl;(go_wp2_with fail)
    go_round
    case rel=>exact⟨k-1,by omega,rfl,by rw[HT.o,HV.o]⟩
    case measure=>simp;omega
   ·have hzb:((x:Int) == 0)=false:=by simp;exact hz
    have HZ:Hid (ws.getD (k-1) 0≠0):=lH (by rw[HX.o];exact hz);clear hz;cases m with
    | true=>
     (go_wp2_with fail);generalize XW:(W.setCell ⟨g,0,none⟩ _).setCell ⟨g,1,none⟩ _=W2;have cH:Hid (aG W2 g 113 #[.bool true,.slice (some ⟨b,off,none⟩) k c]):=lH (by rw[<-XW];exact cD HB.o);have xO:Hid (Below g w W2):=lH (by rw[<-XW];exact cY HK.o lR);clear XW b0 b1;obtain⟨q0,q1⟩:=cH.o.a2;refine bodyPost_ret (v:=.agg #[.bool true,.slice (some ⟨b,off,none⟩) k c]) (by simp[results,Tryz.results141,go_sem,q0,q1,lB]) rfl (HE.o _ _ _ xO.o (((HR.o.take hk).below xO.o lR).more (HG.o▸xO.o.size)) (.inr HZ.o) (by simp[lB]) rfl)
    | false=>
     (go_wp2_with fail);generalize XW:(W.setCell ⟨g,0,none⟩ _).setCell ⟨g,1,none⟩ _=W2;have cH:Hid (aG W2 g 113 #[.bool (false && decide (0<k)),.slice (some ⟨b,off,none⟩) k c]):=lH (by rw[<-XW];exact cD HB.o);have xO:Hid (Below g w W2):=lH (by rw[<-XW];exact cY HK.o lR);clear XW b0 b1;obtain⟨q0,q1⟩:=cH.o.a2;refine bodyPost_ret (v:=.agg #[.bool (false && decide (0<k)),.slice (some ⟨b,off,none⟩) k c]) (by simp[results,Tryz.results141,go_sem,q0,q1,lB]) rfl (HE.o _ _ _ xO.o (((HR.o.take hk).below xO.o lR).more (HG.o▸xO.o.size)) (.inr HZ.o) rfl rfl)
theorem aJh(z:Int):DY (!decide (z<0)) z.natAbs=-z:=by
 unfold DY;by_cases h:z<0
 ·simp[h];omega
 ·simp[h];omega
theorem G8(z:Int)(b:Bool)(A:OA)(n c:Nat)(w:Wo)(h:cE w w.heap.size z b A n c):Calls Tryz.prog 140 #[.agg #[.bool b,.slice A n c]] w (LgP (-z) w):=by
 have dA:Hid (Below w.heap.size w ((w.alloc (.cells #[.bool b,.slice A n c] 113)).alloc (.cells #[.bool false,.slice none 0 0] 113))):=lH ((bA).alloc (by simp) _);have HX:=lH ((aG.new w 113 #[.bool b,.slice A n c]).alloc (.cells #[.bool false,.slice none 0 0] 113));have HG:Hid (aG ((w.alloc (.cells #[.bool b,.slice A n c] 113)).alloc (.cells #[.bool false,.slice none 0 0] 113)) (w.heap.size+1) 113 #[.bool false,.slice none 0 0]):=lH (aG.new_ (by simp));have HH:=lH (h.up dA.o);have rW:w.heap.size<=w.heap.size+1:=by omega
 have HE:=lH h.eb;clear h;go_enter Tryz.func140,Tryz.ntmps140
 obtain⟨x0,x1,xl⟩:=HX.o.b2
 go_wp2_with fail
 clear x0 x1 xl;generalize (w.alloc (.cells #[.bool b,.slice A n c] 113)).alloc (.cells #[.bool false,.slice none 0 0] 113)=W at *;refine(kL (!b) A n c (kU z.natAbs) W (by have h:=HH.o.rd;have e:=HH.o.en;exact h) (iC _) HH.o.nc HH.o.cm).mono ?_;rw[eC,HE.o,aJh];rintro e w2 ⟨k,b2,A2,n2,c2,rfl,h2⟩;have cH:=bW dA k;have iJ:=lH (HG.o.bl k);have H2:=lH h2;clear k h2 HG HX HH;obtain⟨z0,z1,zf,zl⟩:=iJ.o.e2
 go_wp2_with fail
 generalize fU:(w2.setCell ⟨_,0,none⟩ _).setCell ⟨_,1,none⟩ _=W9;have jM:=lH (pG (e:=.returned (.agg #[.bool b2,.slice A2 n2 c2])) cH.o rW iJ.o (by simp) (by simp) H2.o rfl);rw[fU] at jM;have eV:Hid (aG W9 _ 113 #[.bool b2,.slice A2 n2 c2]):=lH (by rw[<-fU];exact cD iJ.o);clear fU z0 z1 zf zl;obtain⟨q0,q1⟩:=eV.o.a2;exact bodyPost_ret (v:=.agg #[.bool b2,.slice A2 n2 c2]) (by simp[results,Tryz.results140,go_sem,q0,q1]) rfl jM.o
theorem EH(z:Int)(b:Bool)(A:OA)(n c:Nat)(w:Wo)(h:cE w w.heap.size z b A n c):Calls Tryz.prog 155 #[.agg #[.bool b,.slice A n c]] w fun e w'=>e=.returned (.int .i64 z.sign)/\Below w.heap.size w w':=by
 obtain⟨HX,HE,HN⟩:=d_ (aG.new w 113 #[.bool b,.slice A n c]) h.eb h.en;clear h;go_enter Tryz.func155,Tryz.ntmps155
 obtain⟨x0,x1,xl⟩:=HX.o.b2;have dA:=lH ((Below.refl w.heap.size w).alloc lR (.cells #[.bool b,.slice A n c] 113));by_cases hz:z=0
 ·have hn:n=0:=by rw[HN.o,hz];exact iR
  have HZ:Hid (z.sign=0):=lH (by rw[hz];rfl);clear hz;subst hn;(go_wp2_with fail);go_ret;exact⟨aX HZ.o.symm,dA.o⟩
 ·have hn:((n:Int) == 0)=false:=by
   have h1:n≠0:=by rw[HN.o,kP (by omega)];omega
   simp;omega
  cases b with
  | true=>
   have HZ:Hid (z.sign=-1):=lH (Int.sign_eq_neg_one_of_neg (by have:=HE.o;simpa using this.symm));clear hz;(go_wp2_with fail);go_ret;exact⟨aX HZ.o.symm,dA.o⟩
  | false=>
   have HZ:Hid (z.sign=1):=lH (Int.sign_eq_one_of_pos (by have:=HE.o;simp at this;omega));clear hz;(go_wp2_with fail);go_ret;exact⟨aX HZ.o.symm,dA.o⟩
theorem AE(n:Int)(w:Wo)(h0:-9223372036854775808<=n)(h1:n<=9223372036854775807):Calls Tryz.prog 111 #[.int .i64 n] w (LgP n w):=by
 obtain⟨m,hm⟩:∃m,n.natAbs=m:=⟨_,rfl⟩;have LN:m<18446744073709551616:=by omega
 have HWD:Hid (Wd [m % 4294967296,m / 4294967296]):=lH (fun x hx=>by
  simp at hx;rcases hx with rfl | rfl<;>omega)
 have zL:Hid (wv [m % 4294967296,m / 4294967296]=m):=lH (by simp only[wv];omega);go_enter Tryz.func111,Tryz.ntmps111
 by_cases hn:n<0
 ·have HV:Hid (DY true (wv [m % 4294967296,m / 4294967296])=n):=lH (by rw[zL.o];show -(m:Int)=n;omega)
  have hw1:IntKind.u64.wrap n=n+18446744073709551616:=by
   rw[IV];omega
  have hw2:IntKind.u64.wrap (-(n+18446744073709551616))=(m:Int):=by
   rw[IV];omega
  have HM:=lH hm;have HN:=lH hn;clear hm;have HW:Hid (Below w.heap.size w ((w.alloc (.cells #[.bool false,.slice none 0 0] 113)).alloc (.cells (bS [m % 4294967296,m / 4294967296]).toArray 216))):=lH ((bA).alloc (by simp) _);have HG:Hid (aG ((w.alloc (.cells #[.bool false,.slice none 0 0] 113)).alloc (.cells (bS [m % 4294967296,m / 4294967296]).toArray 216)) w.heap.size 113 #[.bool false,.slice none 0 0]):=lH ((aG.new w _ _).alloc _);have HS:Hid (aG ((w.alloc (.cells #[.bool false,.slice none 0 0] 113)).alloc (.cells (bS [m % 4294967296,m / 4294967296]).toArray 216)) (w.heap.size+1) 216 (bS [m % 4294967296,m / 4294967296]).toArray):=lH (aG.new_ (by simp));have rW:w.heap.size<=w.heap.size:=lR;(go_wp2_with fail);clear hw1 hw2;have S7:#[.int .u32 ((m:Int) % 4294967296),.int .u32 ((m:Int) / 4294967296)]=(bS [m % 4294967296,m / 4294967296]).toArray:=by
   simp[bS]
  rw[S7];clear S7;generalize (w.alloc (.cells #[.bool false,.slice none 0 0] 113)).alloc (.cells (bS [m % 4294967296,m / 4294967296]).toArray 216)=W at *;refine(kL true (some ⟨w.heap.size+1,0,none⟩) 2 2 [m % 4294967296,m / 4294967296] W (rN HS.o) HWD.o lR (by decide)).mono ?_;rw[HV.o];rintro e w2 ⟨k,b2,A2,n2,c2,rfl,h2⟩;have cH:=bW HW k;have iJ:=lH (HG.o.bl k);have H2:=lH h2;clear k h2 HG HS HW;obtain⟨z0,z1,zf,zl⟩:=iJ.o.e2;(go_wp2_with fail);generalize fU:(w2.setCell ⟨_,0,none⟩ _).setCell ⟨_,1,none⟩ _=W9;have jM:=lH (pG (e:=.returned (.agg #[.bool b2,.slice A2 n2 c2])) cH.o rW iJ.o (by simp) (by simp) H2.o rfl);rw[fU] at jM;have eV:Hid (aG W9 _ 113 #[.bool b2,.slice A2 n2 c2]):=lH (by rw[<-fU];exact cD iJ.o);clear fU z0 z1 zf zl;obtain⟨q0,q1⟩:=eV.o.a2;exact bodyPost_ret (v:=.agg #[.bool b2,.slice A2 n2 c2]) (by simp[results,Tryz.results111,go_sem,q0,q1]) rfl jM.o
 ·have HV:Hid (DY false (wv [m % 4294967296,m / 4294967296])=n):=lH (by rw[zL.o];show(m:Int)=n;omega)
  have zS:n=(m:Int):=by omega
  subst zS;clear hm;have HW:Hid (Below w.heap.size w ((w.alloc (.cells #[.bool false,.slice none 0 0] 113)).alloc (.cells (bS [m % 4294967296,m / 4294967296]).toArray 216))):=lH ((bA).alloc (by simp) _);have HG:Hid (aG ((w.alloc (.cells #[.bool false,.slice none 0 0] 113)).alloc (.cells (bS [m % 4294967296,m / 4294967296]).toArray 216)) w.heap.size 113 #[.bool false,.slice none 0 0]):=lH ((aG.new w _ _).alloc _);have HS:Hid (aG ((w.alloc (.cells #[.bool false,.slice none 0 0] 113)).alloc (.cells (bS [m % 4294967296,m / 4294967296]).toArray 216)) (w.heap.size+1) 216 (bS [m % 4294967296,m / 4294967296]).toArray):=lH (aG.new_ (by simp));have rW:w.heap.size<=w.heap.size:=lR;(go_wp2_with fail);have S7:#[.int .u32 ((m:Int) % 4294967296),.int .u32 ((m:Int) / 4294967296)]=(bS [m % 4294967296,m / 4294967296]).toArray:=by
   simp[bS]
  rw[S7];clear S7;generalize (w.alloc (.cells #[.bool false,.slice none 0 0] 113)).alloc (.cells (bS [m % 4294967296,m / 4294967296]).toArray 216)=W at *;refine(kL false (some ⟨w.heap.size+1,0,none⟩) 2 2 [m % 4294967296,m / 4294967296] W (rN HS.o) HWD.o lR (by decide)).mono ?_;rw[HV.o];rintro e w2 ⟨k,b2,A2,n2,c2,rfl,h2⟩;have cH:=bW HW k;have iJ:=lH (HG.o.bl k);have H2:=lH h2;clear k h2 HG HS HW;obtain⟨z0,z1,zf,zl⟩:=iJ.o.e2;(go_wp2_with fail);generalize fU:(w2.setCell ⟨_,0,none⟩ _).setCell ⟨_,1,none⟩ _=W9;have jM:=lH (pG (e:=.returned (.agg #[.bool b2,.slice A2 n2 c2])) cH.o rW iJ.o (by simp) (by simp) H2.o rfl);rw[fU] at jM;have eV:Hid (aG W9 _ 113 #[.bool b2,.slice A2 n2 c2]):=lH (by rw[<-fU];exact cD iJ.o);clear fU z0 z1 zf zl;obtain⟨q0,q1⟩:=eV.o.a2;exact bodyPost_ret (v:=.agg #[.bool b2,.slice A2 n2 c2]) (by simp[results,Tryz.results111,go_sem,q0,q1]) rfl jM.o
def UT(x y:Nat)(r:Int):Prop:=(r<0<->x<y)/\(r=0<->x=y)
theorem aCH(h:dL x≠dL y):UT x y ((dL x:Int)-(dL y:Int)):=by
 rcases Nat.lt_or_gt_of_ne h with h1 | h1
 ·have:=JL h1
  exact⟨by omega,by omega⟩
 ·have:=JL h1
  exact⟨by omega,by omega⟩
theorem aG0(h:x<y):UT x y (-1):=⟨by omega,by omega⟩
theorem aG1(h:y<x):UT x y 1:=⟨by omega,by omega⟩
theorem aG2(h:x=y):UT x y 0:=⟨by omega,by omega⟩
def a1e(x y:Nat)(w:Wo)(e:Ending)(w':Wo):Prop:=(∃r:Int,e=.returned (.int .i64 r)/\UT x y r)/\∃nq,w'=w.drewN nq
theorem TZ(A:OA)(n c:Nat)(B:OA)(m d:Nat)(x y:Nat)(w:Wo)(hx:jU w w.heap.size A n (kU x))(hy:jU w w.heap.size B m (kU y))(hn:n<=9223372036854775807)(hm:m<=9223372036854775807):Calls Tryz.prog 148 #[.slice A n c,.slice B m d] w (a1e x y w):=by
 have hxl:=hx.len;have hyl:=hy.len;have HX:=lH hx;have HY:=lH hy;have HXL:Hid (dL x=n):=lH hxl;have HYL:Hid (dL y=m):=lH hyl;clear hx hy hxl hyl;go_enter Tryz.func148,Tryz.ntmps148
 by_cases H_:n=m
 ·subst H_
  have wC:Hid ((kU x).length=(kU y).length):=lH (by rw[uP,uP,HXL.o,HYL.o]);(go_wp2_with fail)
  go_loopw [5] (fun v5 wr=>∃k:Nat,k<=n/\v5=.int .i64 ((k:Int)-1)/\(kU x).drop k=(kU y).drop k/\∃nq,wr=w.drewN nq) (fun v5 _=>(intOf v5+1).toNat)
  case atStart=>exact⟨n,lR,rfl,by rw[List.drop_eq_nil_of_le (by rw[uP,HXL.o];exact lR),List.drop_eq_nil_of_le (by rw[uP,HYL.o];exact lR)],0,rfl⟩
  case round=>
   obtain⟨k,hk,rfl,hd,nq,rfl⟩:=hrel;have HD:=lH hd;clear hd;by_cases h0:k=0
   ·subst h0
    have HE:Hid (x=y):=lH (by have:=HD.o;simp at this;rw[<-eC x,this,eC]);have e:(((0:Nat):Int)-1)=-1:=rfl;rw[e];clear e;(go_wp2_with fail);go_ret;exact⟨⟨0,rfl,aG2 HE.o⟩,nq,rfl⟩
   ·obtain⟨j,rfl⟩:∃j,k=j+1:=⟨k-1,by omega⟩
    have e:(((j+1:Nat):Int)-1)=(j:Int):=by omega
    rw[e];clear e h0;have hj:j<n:=hk;obtain⟨b1,o1,CN,bC⟩:=HX.o.form (by omega);subst CN;obtain⟨b2,o2,LR,bH⟩:=HY.o.form (by omega);subst LR;have hcx:=HX.o.at_ hj;have hcy:=HY.o.at_ hj;have HC:=lH (fun h=>aDQ (iC x) wC.o (i:=j) (by rw[uP,HXL.o];exact hj) HD.o h);have HC2:=lH (fun h=>aDQ (iC y) wC.o.symm (i:=j) (by rw[uP,HYL.o];exact hj) HD.o.symm h);have HQ:=lH (fun h=>PO wC.o (i:=j) (by rw[uP,HXL.o];exact hj) HD.o h);obtain⟨xj,hxj⟩:∃v,(kU x).getD j 0=v:=⟨_,rfl⟩;obtain⟨yj,hyj⟩:∃v,(kU y).getD j 0=v:=⟨_,rfl⟩;have HXJ:=lH hxj;have HYJ:=lH hyj;rw[hxj] at hcx;rw[hyj] at hcy;clear hxj hyj;have XO:(j:Int)<(n:Int):=by omega
    rcases Nat.lt_trichotomy xj yj with h | h | h
    ·have HR:Hid (x<y):=lH (by have:=HC.o (by rw[HXJ.o,HYJ.o];exact h);rwa[eC,eC] at this)
     have t1:((xj:Int) != (yj:Int))=true:=by simp;omega
     have t1':((xj:Int) == (yj:Int))=false:=by simp;omega
     have t2:decide (xj<yj)=true:=by simpa using h
     clear h;(go_wp2_with fail)
     go_quiet (fail)
     go_wp2_with fail
     go_quiet (fail)
     (go_wp2_with fail);go_ret;exact⟨⟨-1,rfl,aG0 HR.o⟩,_,by rw[World.drewN_drewN,World.drewN_drewN]⟩
    ·subst h
     have HR:=lH (HQ.o (by rw[HXJ.o,HYJ.o]));(go_wp2_with fail)
     go_quiet (fail)
     (go_wp2_with fail);go_roundw
     case rel=>exact⟨j,by omega,by go_num,HR.o,_,rfl⟩
     case measure=>simp[intOf]
    ·have HR:Hid (y<x):=lH (by have:=HC2.o (by rw[HXJ.o,HYJ.o];exact h);rwa[eC,eC] at this)
     have t1:((xj:Int) != (yj:Int))=true:=by simp;omega
     have t1':((xj:Int) == (yj:Int))=false:=by simp;omega
     have t2:decide (xj<yj)=false:=by simp;omega
     clear h;(go_wp2_with fail)
     go_quiet (fail)
     go_wp2_with fail
     go_quiet (fail)
     (go_wp2_with fail);go_ret;exact⟨⟨1,rfl,aG1 HR.o⟩,_,by rw[World.drewN_drewN,World.drewN_drewN]⟩
 ·have HR:=lH (aCH (x:=x) (y:=y) (by rw[HXL.o,HYL.o];exact H_))
  rw[HXL.o,HYL.o] at HR;have h1:((n:Int) == (m:Int))=false:=by simp;omega
  have h2:((n:Int) != (m:Int))=true:=by simp;omega
  clear H_;(go_wp2_with fail);go_ret;exact⟨⟨_,rfl,HR.o⟩,0,rfl⟩
structure QN (a b:List Nat) (n k cc:Nat) (out:List Nat):Prop where
 len:out.length=n+1
 od:Wd out
 oz:Zf out k
 c1:cc<=1
 eq:wv out+cc*BB k=wv (a.take k)+wv (b.take k)
theorem QN.step{a b out:List Nat}{n k cc:Nat}(H:QN a b n k cc out)(ha:Wd a)(hb:Wd b)(hk:k<n):QN a b n (k+1) ((cc+a.getD k 0+b.getD k 0) / 4294967296) (out.set k ((cc+a.getD k 0+b.getD k 0) % 4294967296)):=by
 have hl:=H.len;obtain⟨h1,h2⟩:=aHb ha hb (by omega) H.oz H.c1 H.eq;exact⟨by rw[lS];exact hl,H.od.set _ (Nat.mod_lt _ (by decide)),H.oz.put,h1,h2⟩
theorem aTt(A:OA)(n c:Nat)(B:OA)(m d:Nat)(a0 b0:List Nat)(w:Wo)(ha:jU w w.heap.size A n a0)(hb:jU w w.heap.size B m b0)(had:Wd a0)(EN:Wd b0)(hn:n<=35184372088832)(hm:m<=35184372088832):Calls Tryz.prog 147 #[.slice A n c,.slice B m d] w (aHh (wv a0+wv b0) w):=by
 obtain⟨HA,HB,UR,GP⟩:=iK ha hb had EN;clear ha hb had EN;go_enter Tryz.func147,Tryz.ntmps147
 go_upto_if 12 with fail
 go_cut [0,1] (fun v0 v1 wc=>wc=w/\∃A n c B m d a b,v0=.slice A n c/\v1=.slice B m d/\jU w w.heap.size A n a/\jU w w.heap.size B m b/\Wd a/\Wd b/\m<=n/\n<=35184372088832/\wv a+wv b=wv a0+wv b0)
 case first=>
  by_cases H_:n<m
  ·go_wp2_with fail
   go_meet
   case rel=>exact⟨rfl,_,_,_,_,_,_,_,_,rfl,rfl,HB.o,HA.o,GP.o,UR.o,by omega,hm,by omega⟩
  ·go_wp2_with fail
   go_meet
   case rel=>exact⟨rfl,_,_,_,_,_,_,_,_,rfl,rfl,HA.o,HB.o,UR.o,GP.o,by omega,hn,rfl⟩
 clear HA HB UR GP hn hm;obtain⟨rfl,A,n,c,B,m,d,a,b,rfl,rfl,ha,hb,had,EN,hmn,hn,hv⟩:=hcut;obtain⟨HA,HB,UR,GP,HV⟩:=kN ha hb had EN hv;have F2:=lH ha.len;have mE:=lH hb.len;clear ha hb had EN hv;generalize wc=w at *;have vI:∀w:World,(Instr.makeSlice 111 (.int .i64 ((n:Int)+1)) (.int .i64 ((n:Int)+1))).run Tryz.prog w=.ok (.slice (some ⟨w.heap.size,0,none⟩) (n+1) (n+1)) (w.alloc (.cells (bS (List.replicate (n+1) 0)).toArray 216)):=fun w=>qN (n+1) (by omega) w;have HK:=lH ((Below.refl w.heap.size w).alloc lR (.cells (bS (List.replicate (n+1) 0)).toArray 216));have HG:=lH (aG.new w 216 (bS (List.replicate (n+1) 0)).toArray)
 go_wp2_with fail
 clear vI;generalize w.alloc (.cells (bS (List.replicate (n+1) 0)).toArray 216)=W at *;generalize hg:w.heap.size=g at *;have pB:=lH hg;clear hg
 go_loopw [6,21] (fun v6 v21 wr=>∃(k cc:Nat)(out:List Nat),k<=n/\v21=.int .i64 k/\v6=.int .u64 cc/\Below g w wr/\aG wr g 216 (bS out).toArray/\QN a b n k cc out) (fun _ v21 _=>n-(intOf v21).toNat)
 case atStart=>exact⟨0,0,_,by omega,rfl,rfl,HK.o,HG.o,⟨by simp,qE _,sQ _ _,by omega,by rw[qC];simp[wv]⟩⟩
 case round=>
  clear HK HG;obtain⟨k,cc,out,hk,rfl,rfl,hb,hg,hI⟩:=hrel;obtain⟨HK,HG,HI⟩:=d_ hb hg hI;clear hb hg hI;have NC:=HI.o.c1;have zV:=HG.o.lt;have IB:=HG.o.frozen;by_cases aU:k<n
  ·obtain⟨ab,ao,CN,jA⟩:=HA.o.form (by omega)
   subst CN;have XU:=(HA.o.lift HK.o (by omega)).at_ aU;have XT:=cG HG.o (i:=k) (by rw[HI.o.len];omega);have HN:=lH (HI.o.step UR.o GP.o aU);have hx:=UR.o.getD k;have hy:=GP.o.getD k;obtain⟨x,M4⟩:∃x,a.getD k 0=x:=⟨_,rfl⟩;obtain⟨y,hyy⟩:∃y,b.getD k 0=y:=⟨_,rfl⟩;have HYY:=lH hyy;rw[M4] at XU hx;rw[hyy] at hy;rw[M4,hyy] at HN;obtain⟨z,nW⟩:∃z,out.getD k 0=z:=⟨_,rfl⟩;rw[nW] at XT;clear M4 hyy nW;have aCr:ab<wr.heap.size:=by omega
   have fY:(k:Int)<(n:Int):=by omega
   by_cases hkm:k<m
   ·obtain⟨bb,bo,ND,pE⟩:=HB.o.form (by omega)
    subst ND;have hcb:=(HB.o.lift HK.o (by omega)).at_ hkm;rw[HYY.o] at hcb;have aJW:bb<wr.heap.size:=by omega
    have aOf:(k:Int)<(m:Int):=by omega
    (go_wp2_with fail);go_roundw
    case rel=>exact⟨k+1,(cc+x+y) / 4294967296,out.set k ((cc+x+y) % 4294967296),by omega,by go_num,aO (by omega),HK.o.setCell lR _,fA HG.o (by omega),HN.o⟩
    case measure=>simp[intOf];omega
   ·have yH:y=0:=by rw[<-HYY.o];exact DS (by rw[mE.o];omega)
    subst yH;have aOf:¬(k:Int)<(m:Int):=by omega
    (go_wp2_with fail);go_roundw
    case rel=>exact⟨k+1,(cc+x+0) / 4294967296,out.set k ((cc+x+0) % 4294967296),by omega,by go_num,aO (by omega),HK.o.setCell lR _,fA HG.o (by omega),HN.o⟩
    case measure=>simp[intOf];omega
  ·have nH:k=n:=by omega
   subst nH;have XT:=cG HG.o (i:=k) (by rw[HI.o.len];omega);obtain⟨z,nW⟩:∃z,out.getD k 0=z:=⟨_,rfl⟩;rw[nW] at XT;clear nW;have g1:(k:Int)<(k:Int)+1:=by omega
   have HE:Hid (wv (out.set k cc)=wv a0+wv b0):=lH (by
    rw[aAP (v:=wv a0+wv b0) (by rw[HI.o.len];omega) HI.o.oz];rw[HI.o.eq,nL (by rw[F2.o];exact lR),nL (by rw[mE.o];exact hmn)];exact HV.o)
   have HW:Hid (Wd (out.set k cc)):=lH (HI.o.od.set _ (by omega));have HLN:Hid ((out.set k cc).length=k+1):=lH (by rw[lS];exact HI.o.len);(go_wp2_with fail);go_ret;exact MP (by rw[pB.o];exact HK.o.setCell lR _) (fA HG.o rfl) HLN.o HW.o HE.o (by omega) rfl
structure PX (a b:List Nat) (n k:Nat) (cc:Int) (out:List Nat):Prop where
 len:out.length=n
 od:Wd out
 oz:Zf out k
 c1:-1<=cc
 c2:cc<=0
 eq:(wv out:Int)+cc*(BB k:Int)=(wv (a.take k):Int)-(wv (b.take k):Int)
theorem PX.step{a b out:List Nat}{n k:Nat}{cc:Int}(H:PX a b n k cc out)(ha:Wd a)(hb:Wd b)(hk:k<n):PX a b n (k+1) ((cc+a.getD k 0-b.getD k 0) / 4294967296) (out.set k ((cc+a.getD k 0-b.getD k 0) % 4294967296).toNat):=by
 have hl:=H.len;obtain⟨h1,h2,h3⟩:=aD8 ha hb (by omega) H.oz H.c1 H.c2 H.eq;exact⟨by rw[lS];exact hl,H.od.set _ (by omega),H.oz.put,h1,h2,h3⟩
theorem aLf(A:OA)(n c:Nat)(B:OA)(m d:Nat)(a b:List Nat)(w:Wo)(ha:jU w w.heap.size A n a)(hb:jU w w.heap.size B m b)(had:Wd a)(EN:Wd b)(hn:n<=35184372088832)(hmn:m<=n)(FQ:wv b<=wv a):Calls Tryz.prog 149 #[.slice A n c,.slice B m d] w (aHh (wv a-wv b) w):=by
 obtain⟨HA,HB,UR,GP,F2⟩:=kN ha hb had EN ha.len;have mE:=lH hb.len;have HLE:=lH FQ;clear ha hb had EN FQ;have vI:∀w:World,(Instr.makeSlice 111 (.int .i64 (n:Int)) (.int .i64 (n:Int))).run Tryz.prog w=.ok (.slice (some ⟨w.heap.size,0,none⟩) n n) (w.alloc (.cells (bS (List.replicate n 0)).toArray 216)):=fun w=>qN n (by omega) w;have HK:=lH ((Below.refl w.heap.size w).alloc lR (.cells (bS (List.replicate n 0)).toArray 216));have HG:=lH (aG.new w 216 (bS (List.replicate n 0)).toArray);go_enter Tryz.func149,Tryz.ntmps149
 go_wp2_with fail
 clear vI;generalize w.alloc (.cells (bS (List.replicate n 0)).toArray 216)=W at *;generalize hg:w.heap.size=g at *;have pB:=lH hg;clear hg
 go_loopw [6,13] (fun v6 v13 wr=>∃(k:Nat)(cc:Int)(out:List Nat),k<=n/\v13=.int .i64 k/\v6=.int .i64 cc/\Below g w wr/\aG wr g 216 (bS out).toArray/\PX a b n k cc out) (fun _ v13 _=>n-(intOf v13).toNat)
 case atStart=>exact⟨0,0,_,by omega,rfl,rfl,HK.o,HG.o,⟨by simp,qE _,sQ _ _,by omega,by omega,by rw[qC];simp[wv]⟩⟩
 case round=>
  clear HK HG;obtain⟨k,cc,out,hk,rfl,rfl,hb,hg,hI⟩:=hrel;obtain⟨HK,HG,HI⟩:=d_ hb hg hI;clear hb hg hI;have NC:=HI.o.c1;have a6g:=HI.o.c2;have zV:=HG.o.lt;have IB:=HG.o.frozen;by_cases aU:k<n
  ·obtain⟨ab,ao,CN,jA⟩:=HA.o.form (by omega)
   subst CN;have XU:=(HA.o.lift HK.o (by omega)).at_ aU;have XT:=cG HG.o (i:=k) (by rw[HI.o.len];omega);have HN:=lH (HI.o.step UR.o GP.o aU);have hx:=UR.o.getD k;have hy:=GP.o.getD k;obtain⟨x,M4⟩:∃x,a.getD k 0=x:=⟨_,rfl⟩;obtain⟨y,hyy⟩:∃y,b.getD k 0=y:=⟨_,rfl⟩;have HYY:=lH hyy;rw[M4] at XU hx;rw[hyy] at hy;rw[M4,hyy] at HN;obtain⟨z,nW⟩:∃z,out.getD k 0=z:=⟨_,rfl⟩;rw[nW] at XT;clear M4 hyy nW;have aCr:ab<wr.heap.size:=by omega
   have fY:(k:Int)<(n:Int):=by omega
   by_cases hkm:k<m
   ·obtain⟨bb,bo,ND,pE⟩:=HB.o.form (by omega)
    subst ND;have hcb:=(HB.o.lift HK.o (by omega)).at_ hkm;rw[HYY.o] at hcb;have aJW:bb<wr.heap.size:=by omega
    have aOf:(k:Int)<(m:Int):=by omega
    (go_wp2_with fail);go_roundw
    case rel=>exact⟨k+1,_,_,by omega,by go_num,aO (by omega),HK.o.setCell lR _,fA HG.o (by omega),HN.o⟩
    case measure=>simp[intOf];omega
   ·have yH:y=0:=by rw[<-HYY.o];exact DS (by rw[mE.o];omega)
    subst yH;have aOf:¬(k:Int)<(m:Int):=by omega
    (go_wp2_with fail);go_roundw
    case rel=>exact⟨k+1,_,_,by omega,by go_num,aO (by omega),HK.o.setCell lR _,fA HG.o (by omega),HN.o⟩
    case measure=>simp[intOf];omega
  ·have nH:k=n:=by omega
   subst nH;have HE:Hid (wv out=wv a-wv b):=lH (by
    have h:=HI.o.eq;rw[nL (by rw[F2.o];exact lR),nL (by rw[mE.o];exact hmn)] at h;rw[<-HI.o.len] at h;exact aIH HI.o.c1 HI.o.c2 HI.o.od HLE.o h)
   (go_wp2_with fail);go_ret;exact MP (by rw[pB.o];exact HK.o) HG.o HI.o.len HI.o.od HE.o (by omega) rfl
structure PY (a:List Nat) (n d k r:Nat) (out:List Nat):Prop where
 len:out.length=n
 od:Wd out
 rd:r<d
 eq:wv (a.drop k)=d*wv (out.drop k)+r
theorem PY.step{a out:List Nat}{n d k r:Nat}(H:PY a n d (k+1) r out)(ha:Wd a)(hl:a.length=n)(hd:0<d)(hd2:d<4294967296)(hk:k<n):(r*4294967296+a.getD k 0) / d<4294967296/\PY a n d k ((r*4294967296+a.getD k 0) % d) (out.set k ((r*4294967296+a.getD k 0) / d)):=by
 have hl2:=H.len;obtain⟨h1,h2⟩:=aBz ha (by omega) hd hd2 H.rd (by omega) H.eq;exact⟨h1,by rw[lS];exact hl2,H.od.set _ h1,Nat.mod_lt _ hd,h2⟩
def aTB(v d:Nat)(w:Wo)(e:Ending)(w':Wo):Prop:=Below w.heap.size w w'/\∃g n l,e=.returned (.tuple #[.slice (some ⟨g,0,none⟩) n n,.int .u32 ((v % d:Nat):Int)])/\jU w' w'.heap.size (some ⟨g,0,none⟩) n l/\Wd l/\wv l=v / d/\n<=35184372088832/\w.heap.size<=g
theorem aIW{v d t:Nat}{l:List Nat}{w':Wo}{e:Ending}{r:Nat}(hb:Below w.heap.size w w')(hg:aG w' g t (bS l).toArray)(hl:l.length=n)(hd:Wd l)(hn:n<=35184372088832)(hgw:w.heap.size<=g)(hr:r<d)(hv:v=d*wv l+r)(he:e=.returned (.tuple #[.slice (some ⟨g,0,none⟩) n n,.int .u32 (r:Int)])):aTB v d w e w':=by
 have h1:v / d=wv l:=by rw[hv,Nat.mul_add_div (by omega),Nat.div_eq_of_lt hr,Nat.add_zero]
 have h2:v % d=r:=by rw[hv,Nat.mul_add_mod,Nat.mod_eq_of_lt hr]
 refine⟨hb,g,n,l,by rw[he,h2],by subst hl;exact rN hg,hd,h1.symm,hn,hgw⟩
theorem aLg(A:OA)(n c:Nat)(d:Nat)(a:List Nat)(w:Wo)(ha:jU w w.heap.size A n a)(had:Wd a)(hn:n<=35184372088832)(hd:0<d)(hd2:d<4294967296):Calls Tryz.prog 150 #[.slice A n c,.int .u32 (d:Int)] w (aTB (wv a) d w):=by
 obtain⟨HA,UR,F2⟩:=d_ ha had ha.len;clear ha had;have vI:∀w:World,(Instr.makeSlice 111 (.int .i64 (n:Int)) (.int .i64 (n:Int))).run Tryz.prog w=.ok (.slice (some ⟨w.heap.size,0,none⟩) n n) (w.alloc (.cells (bS (List.replicate n 0)).toArray 216)):=fun w=>qN n (by omega) w;have HK:=lH ((Below.refl w.heap.size w).alloc lR (.cells (bS (List.replicate n 0)).toArray 216));have HG:=lH (aG.new w 216 (bS (List.replicate n 0)).toArray);go_enter Tryz.func150,Tryz.ntmps150
 go_wp2_with fail
 clear vI;generalize w.alloc (.cells (bS (List.replicate n 0)).toArray 216)=W at *;generalize hg:w.heap.size=g at *;have pB:=lH hg;clear hg
 go_loopw [7,8] (fun v7 v8 wr=>∃(k r:Nat)(out:List Nat),k<=n/\v8=.int .i64 ((k:Int)-1)/\v7=.int .u64 r/\Below g w wr/\aG wr g 216 (bS out).toArray/\PY a n d k r out) (fun _ v8 _=>(intOf v8+1).toNat)
 case atStart=>exact⟨n,0,_,lR,rfl,rfl,HK.o,HG.o,⟨by simp,qE _,hd,by rw[List.drop_eq_nil_of_le (by rw[F2.o];exact lR),List.drop_eq_nil_of_le (by simp)];simp[wv]⟩⟩
 case round=>
  clear HK HG;obtain⟨k,r,out,hk,rfl,rfl,hb,hg,hI⟩:=hrel;obtain⟨HK,HG,HI⟩:=d_ hb hg hI;clear hb hg hI;have zV:=HG.o.lt;have IB:=HG.o.frozen;have rC:=HI.o.rd;by_cases h0:k=0
  ·subst h0
   have HE:Hid (wv a=d*wv out+r):=lH (by have:=HI.o.eq;simpa using this);have e:(((0:Nat):Int)-1)=-1:=rfl;rw[e];clear e;(go_wp2_with fail);go_ret2;exact aIW (by rw[pB.o];exact HK.o) HG.o HI.o.len HI.o.od hn (by rw[pB.o];exact lR) HI.o.rd HE.o rfl
  ·obtain⟨j,rfl⟩:∃j,k=j+1:=⟨k-1,by omega⟩
   have e:(((j+1:Nat):Int)-1)=(j:Int):=by omega
   rw[e];clear e h0;have hj:j<n:=hk;obtain⟨ab,ao,CN,jA⟩:=HA.o.form (by omega);subst CN;have XU:=(HA.o.lift HK.o (by omega)).at_ hj;have XT:=cG HG.o (i:=j) (by rw[HI.o.len];omega);have HN:=lH (HI.o.step UR.o F2.o hd hd2 hj);have hx:=UR.o.getD j;obtain⟨x,M4⟩:∃x,a.getD j 0=x:=⟨_,rfl⟩;rw[M4] at XU hx HN;obtain⟨z,nW⟩:∃z,out.getD j 0=z:=⟨_,rfl⟩;rw[nW] at XT;clear M4 nW;have aCr:ab<wr.heap.size:=by omega
   have XO:(j:Int)<(n:Int):=by omega
   have aNZ:r<4294967296:=by omega
   have hor:bits BinOp.or IntKind.u64 ((r:Int)*4294967296) (x:Int)=((r*4294967296+x:Nat):Int):=B5 r x 32 (by omega) aNZ hx;have hsl:r*4294967296+x<18446744073709551616:=by omega
   generalize r*4294967296+x=s at hor hsl HN;have htm:=RC s d;have htd:=RD s d;have hql:=HN.o.1;have iI:=lH HN.o.2;clear HN;generalize s / d=q at *;generalize s % d=t at *;have hwq:IntKind.u64.wrap (q:Int)=(q:Int):=Go.IntWalk.u64_in _ (by omega);(go_wp2_with fail);go_roundw
   case rel=>exact⟨j,t,_,by omega,rfl,rfl,HK.o.setCell lR _,fA HG.o (by omega),iI.o⟩
   case measure=>simp[intOf]
structure aAQ (a:List Nat) (n s k cc:Nat) (out:List Nat):Prop where
 len:out.length=n+1
 od:Wd out
 oz:Zf out k
 c1:cc<2^s
 eq:wv out+cc*BB k=wv (a.take k)*2^s
theorem aAQ.step{a out:List Nat}{n s k cc:Nat}(H:aAQ a n s k cc out)(ha:Wd a)(hs:s<=31)(hk:k<n):cc+a.getD k 0*2^s<18446744073709551616/\aAQ a n s (k+1) ((cc+a.getD k 0*2^s) / 4294967296) (out.set k ((cc+a.getD k 0*2^s) % 4294967296)):=by
 have hl:=H.len;obtain⟨h1,h2,h3⟩:=aIS ha hs (by omega) H.oz H.c1 H.eq;exact⟨h1,by rw[lS];exact hl,H.od.set _ (Nat.mod_lt _ (by decide)),H.oz.put,h2,h3⟩
def aTG(v n:Nat)(w:Wo)(e:Ending)(w':Wo):Prop:=Below w.heap.size w w'/\∃g l,e=.returned (.slice (some ⟨g,0,none⟩) n n)/\w.heap.size<=g/\aG w' g 216 (bS l).toArray/\Wd l/\wv l=v/\l.length=n
theorem shW(A:OA)(n c:Nat)(s:Nat)(a:List Nat)(w:Wo)(ha:jU w w.heap.size A n a)(had:Wd a)(hn:n<=35184372088832)(hs:s<=31):Calls Tryz.prog 190 #[.slice A n c,.int .i64 (s:Int)] w (aTG (wv a*2^s) (n+1) w):=by
 obtain⟨HA,UR,F2⟩:=d_ ha had ha.len;clear ha had;have vI:∀w:World,(Instr.makeSlice 111 (.int .i64 ((n:Int)+1)) (.int .i64 ((n:Int)+1))).run Tryz.prog w=.ok (.slice (some ⟨w.heap.size,0,none⟩) (n+1) (n+1)) (w.alloc (.cells (bS (List.replicate (n+1) 0)).toArray 216)):=fun w=>qN (n+1) (by omega) w;have HK:=lH ((Below.refl w.heap.size w).alloc lR (.cells (bS (List.replicate (n+1) 0)).toArray 216));have HG:=lH (aG.new w 216 (bS (List.replicate (n+1) 0)).toArray);go_enter Tryz.func190,Tryz.ntmps190
 go_wp2_with fail
 clear vI;generalize w.alloc (.cells (bS (List.replicate (n+1) 0)).toArray 216)=W at *;generalize hg:w.heap.size=g at *;have pB:=lH hg;clear hg;have HP:Hid (0<2^s):=lH (Nat.pow_pos (by decide))
 go_loopw [6,15] (fun v6 v15 wr=>∃(k cc:Nat)(out:List Nat),k<=n/\v15=.int .i64 k/\v6=.int .u64 cc/\Below g w wr/\aG wr g 216 (bS out).toArray/\aAQ a n s k cc out) (fun _ v15 _=>n-(intOf v15).toNat)
 case atStart=>exact⟨0,0,_,by omega,rfl,rfl,HK.o,HG.o,⟨by simp,qE _,sQ _ _,HP.o,by rw[qC];simp[wv]⟩⟩
 case round=>
  clear HK HG;obtain⟨k,cc,out,hk,rfl,rfl,hb,hg,hI⟩:=hrel;obtain⟨HK,HG,HI⟩:=d_ hb hg hI;clear hb hg hI;have NC:=HI.o.c1;have zV:=HG.o.lt;have IB:=HG.o.frozen;by_cases aU:k<n
  ·obtain⟨ab,ao,CN,jA⟩:=HA.o.form (by omega)
   subst CN;have XU:=(HA.o.lift HK.o (by omega)).at_ aU;have XT:=cG HG.o (i:=k) (by rw[HI.o.len];omega);have HN:=lH (HI.o.step UR.o hs aU);have hx:=UR.o.getD k;obtain⟨x,M4⟩:∃x,a.getD k 0=x:=⟨_,rfl⟩;rw[M4] at XU hx HN;obtain⟨z,nW⟩:∃z,out.getD k 0=z:=⟨_,rfl⟩;rw[nW] at XT;clear M4 nW;have aCr:ab<wr.heap.size:=by omega
   have fY:(k:Int)<(n:Int):=by omega
   have HOR:=lH (aEU cc x s NC HN.o.1);have iI:=lH HN.o.2;clear HN NC;(go_wp2_with fail);rw[HOR.o];generalize cc+x*2^s=t at *;go_roundw
   case rel=>exact⟨k+1,_,_,by omega,by go_num,aO (by omega),HK.o.setCell lR _,fA HG.o (by omega),iI.o⟩
   case measure=>simp[intOf];omega
  ·have nH:k=n:=by omega
   subst nH;have XT:=cG HG.o (i:=k) (by rw[HI.o.len];omega);obtain⟨z,nW⟩:∃z,out.getD k 0=z:=⟨_,rfl⟩;rw[nW] at XT;clear nW;have aYJ:cc<4294967296:=jE NC (cO (Nat.pow_le_pow_right (by decide) hs) (by decide));have HE:Hid (wv (out.set k cc)=wv a*2^s):=lH (by
    rw[aAP (v:=wv a*2^s) (by rw[HI.o.len];omega) HI.o.oz];rw[HI.o.eq,nL (by rw[F2.o];exact lR)])
   have HW:Hid (Wd (out.set k cc)):=lH (HI.o.od.set _ aYJ);have HLN:Hid ((out.set k cc).length=k+1):=lH (by rw[lS];exact HI.o.len);have g1:(k:Int)<(k:Int)+1:=by omega
   clear NC;(go_wp2_with fail);go_ret;exact⟨by rw[pB.o];exact HK.o.setCell lR _,g,_,rfl,Nat.le_of_eq pB.o,fA HG.o rfl,HW.o,HE.o,HLN.o⟩
structure aHj (a b:List Nat) (n m i:Nat) (out:List Nat):Prop where
 len:out.length=n+m
 od:Wd out
 oz:Zf out (i+m)
 eq:wv out=wv (a.take i)*wv b
structure KJ (a b:List Nat) (n m i x k cc:Nat) (out:List Nat):Prop where
 len:out.length=n+m
 od:Wd out
 oz:Zf out (i+m)
 cl:cc<4294967296
 eq:wv out+cc*BB (i+k)=wv (a.take i)*wv b+x*wv (b.take k)*BB i
theorem KJ.step{a b out:List Nat}{n m i x k cc:Nat}(H:KJ a b n m i x k cc out)(hb:Wd b)(hx:x<4294967296)(hi:i<n)(hk:k<m):cc+out.getD (i+k) 0+x*b.getD k 0<18446744073709551616/\KJ a b n m i x (k+1) ((cc+out.getD (i+k) 0+x*b.getD k 0) / 4294967296) (out.set (i+k) ((cc+out.getD (i+k) 0+x*b.getD k 0) % 4294967296)):=by
 have hl:=H.len;obtain⟨h1,h2,h3⟩:=aFa hb H.od hx H.cl (by omega) H.eq;exact⟨h1,by rw[lS];exact hl,H.od.set _ (Nat.mod_lt _ (by decide)),H.oz.set (by omega),h2,h3⟩
theorem KJ.done{a b out:List Nat}{m i cc:Nat}(H:KJ a b n m i (a.getD i 0) m cc out)(sH:b.length=m)(hi:i<n):aHj a b n m (i+1) (out.set (i+m) cc):=by
 have hl:=H.len;have he:=H.eq;refine⟨by rw[lS];exact hl,H.od.set _ H.cl,?_,?_⟩
 ·have:=H.oz.put (x:=cc)
  rwa[show i+m+1=i+1+m from by omega] at this
 ·subst sH
  rw[nL lR] at he;exact aJj (by omega) H.oz he
theorem aIT(y z:Int):DY (decide (y<0) != decide (z<0)) (y.natAbs*z.natAbs)=y*z:=by
 rw[<-Int.natAbs_mul];unfold DY;rcases Int.lt_trichotomy y 0 with hy | hy | hy
 ·rcases Int.lt_trichotomy z 0 with hz | hz | hz
  ·have:=Int.mul_pos_of_neg_of_neg hy hz
   rw[if_neg (by simp[hy,hz])];omega
  ·subst hz;simp
  ·have:=Int.mul_neg_of_neg_of_pos hy hz
   rw[if_pos (by simp[hy];omega)];omega
 ·subst hy;simp
 ·rcases Int.lt_trichotomy z 0 with hz | hz | hz
  ·have:=Int.mul_neg_of_pos_of_neg hy hz
   rw[if_pos (by simp[hz];omega)];omega
  ·subst hz;simp
  ·have:=Int.mul_pos hy hz
   rw[if_neg (by simp;omega)];omega
theorem jP(y z:Int)(b1:Bool)(A:OA)(n c:Nat)(b2:Bool)(B:OA)(m d:Nat)(w:Wo)(h1:cE w w.heap.size y b1 A n c)(h2:cE w w.heap.size z b2 B m d)(H_:n+m<=35184372088832):Calls Tryz.prog 115 #[.agg #[.bool b1,.slice A n c],.agg #[.bool b2,.slice B m d]] w (LgP (y*z) w):=by
 have dA:Hid (Below w.heap.size w ((((w.alloc (.cells #[.bool b1,.slice A n c] 113)).alloc (.cells #[.bool b2,.slice B m d] 113)).alloc (.cells #[.bool false,.slice none 0 0] 113)).alloc (.cells (bS (List.replicate (n+m) 0)).toArray 216))):=lH (((bA).alloc (by simp) _).alloc (by simp;omega) _ |>.alloc (by simp;omega) _);have eB:Hid (aG ((((w.alloc (.cells #[.bool b1,.slice A n c] 113)).alloc (.cells #[.bool b2,.slice B m d] 113)).alloc (.cells #[.bool false,.slice none 0 0] 113)).alloc (.cells (bS (List.replicate (n+m) 0)).toArray 216)) w.heap.size 113 #[.bool b1,.slice A n c]):=lH ((((aG.new w _ _).alloc _).alloc _).alloc _);have f_:Hid (aG ((((w.alloc (.cells #[.bool b1,.slice A n c] 113)).alloc (.cells #[.bool b2,.slice B m d] 113)).alloc (.cells #[.bool false,.slice none 0 0] 113)).alloc (.cells (bS (List.replicate (n+m) 0)).toArray 216)) (w.heap.size+1) 113 #[.bool b2,.slice B m d]):=lH (((aG.new_ (by simp)).alloc _).alloc _);have HR:Hid (aG ((((w.alloc (.cells #[.bool b1,.slice A n c] 113)).alloc (.cells #[.bool b2,.slice B m d] 113)).alloc (.cells #[.bool false,.slice none 0 0] 113)).alloc (.cells (bS (List.replicate (n+m) 0)).toArray 216)) (w.heap.size+1+1) 113 #[.bool false,.slice none 0 0]):=lH ((aG.new_ (by simp)).alloc _);have HG:Hid (aG ((((w.alloc (.cells #[.bool b1,.slice A n c] 113)).alloc (.cells #[.bool b2,.slice B m d] 113)).alloc (.cells #[.bool false,.slice none 0 0] 113)).alloc (.cells (bS (List.replicate (n+m) 0)).toArray 216)) (w.heap.size+1+1+1) 216 (bS (List.replicate (n+m) 0)).toArray):=lH (aG.new_ (by simp));have HA:Hid (jU ((((w.alloc (.cells #[.bool b1,.slice A n c] 113)).alloc (.cells #[.bool b2,.slice B m d] 113)).alloc (.cells #[.bool false,.slice none 0 0] 113)).alloc (.cells (bS (List.replicate (n+m) 0)).toArray 216)) w.heap.size A n (kU y.natAbs)):=lH (h1.rd.below dA.o lR);have HB:Hid (jU ((((w.alloc (.cells #[.bool b1,.slice A n c] 113)).alloc (.cells #[.bool b2,.slice B m d] 113)).alloc (.cells #[.bool false,.slice none 0 0] 113)).alloc (.cells (bS (List.replicate (n+m) 0)).toArray 216)) w.heap.size B m (kU z.natAbs)):=lH (h2.rd.below dA.o lR);have HE1:=lH h1.eb;have HE2:=lH h2.eb;have F2:Hid ((kU y.natAbs).length=n):=lH h1.en.symm;have mE:Hid ((kU z.natAbs).length=m):=lH h2.en.symm;have HWA:Hid (wv (kU y.natAbs)=y.natAbs):=lH (eC _);have BC:Hid (wv (kU z.natAbs)=z.natAbs):=lH (eC _);have UR:=lH (iC y.natAbs);have GP:=lH (iC z.natAbs);generalize kU y.natAbs=a at *;generalize kU z.natAbs=b at *;clear h1 h2;have vI:∀w:World,(Instr.makeSlice 111 (.int .i64 ((n:Int)+(m:Int))) (.int .i64 ((n:Int)+(m:Int)))).run Tryz.prog w=.ok (.slice (some ⟨w.heap.size,0,none⟩) (n+m) (n+m)) (w.alloc (.cells (bS (List.replicate (n+m) 0)).toArray 216)):=fun w=>by
  have:=qN (n+m) (by omega) w;rwa[Int.natCast_add] at this
 go_enter Tryz.func115,Tryz.ntmps115
 go_upto_region 2 with fail
 clear vI;generalize ((((w.alloc (.cells #[.bool b1,.slice A n c] 113)).alloc (.cells #[.bool b2,.slice B m d] 113)).alloc (.cells #[.bool false,.slice none 0 0] 113)).alloc (.cells (bS (List.replicate (n+m) 0)).toArray 216))=W at *;generalize hg:w.heap.size=g at *;have pB:=lH hg;clear hg;obtain⟨p0,p1,pl⟩:=eB.o.b2;obtain⟨q0,q1,ql⟩:=f_.o.b2;have hG1:=HG.o.lt;have U4:=lH (Below.refl (g+1+1+1) W)
 go_wp2_with fail
 clear p0 p1 q0 q1
 go_loopw [22] (fun v22 wr=>∃(i:Nat)(out:List Nat),i<=n/\v22=.int .i64 i/\Below (g+1+1+1) W wr/\aG wr (g+1+1+1) 216 (bS out).toArray/\aHj a b n m i out) (fun v22 _=>n-(intOf v22).toNat)
 case atStart=>exact⟨0,_,by omega,rfl,U4.o,HG.o,⟨by simp,qE _,sQ _ _,by rw[qC];simp[wv]⟩⟩
 case round=>
  clear U4 HG;obtain⟨i,out,hi,rfl,hb,hg,hI⟩:=hrel;obtain⟨HK,HG,HI⟩:=d_ hb hg hI;clear hb hg hI;have zV:=HG.o.lt;have IB:=HG.o.frozen;have p0:=(eB.o.below HK.o (by omega)).cell 0;have p1:=(eB.o.below HK.o (by omega)).cell 1;have q0:=(f_.o.below HK.o (by omega)).cell 0;have q1:=(f_.o.below HK.o (by omega)).cell 1;have pl2:g<wr.heap.size:=by omega
  have ql2:g+1<wr.heap.size:=by omega
  by_cases aU:i<n
  ·obtain⟨ab,ao,CN,jA⟩:=HA.o.form (by omega)
   subst CN;have XU:=((HA.o.more (show g<=g+1+1+1 by omega)).lift HK.o (by omega)).at_ aU;have hx:=UR.o.getD i;have HDN:=lH (fun(cc:Nat)(out:List Nat) (H:KJ a b n m i (a.getD i 0) m cc out)=>H.done mE.o aU);obtain⟨x,M4⟩:∃x,a.getD i 0=x:=⟨_,rfl⟩;rw[M4] at XU hx HDN;clear M4;have aCr:ab<wr.heap.size:=by omega
   have DH:(i:Int)<(n:Int):=by omega
   (go_wp2_with fail);clear p0 p1 q0 q1 XU IB;obtain⟨wo,rfl⟩:∃wo:World,wo=wr:=⟨_,rfl⟩
   go_loopw [8,30] (fun v8 v30 wr=>∃(k cc:Nat)(out:List Nat),k<=m/\v30=.int .i64 k/\v8=.int .u64 cc/\Below (g+1+1+1) W wr/\aG wr (g+1+1+1) 216 (bS out).toArray/\KJ a b n m i x k cc out) (fun _ v30 _=>m-(intOf v30).toNat)
   case atStart=>exact⟨0,0,_,by omega,rfl,rfl,HK.o,HG.o,⟨HI.o.len,HI.o.od,HI.o.oz,by decide,by rw[HI.o.eq];simp[wv]⟩⟩
   case round=>
    clear HK HG HI;obtain⟨k,cc,out,hk,rfl,rfl,hb,hg,hI⟩:=hrel;obtain⟨HK,HG,HI⟩:=d_ hb hg hI;clear hb hg hI;have zV:=HG.o.lt;have IB:=HG.o.frozen;have zC:=HI.o.cl;by_cases hlk:k<m
    ·obtain⟨bb,bo,ND,pE⟩:=HB.o.form (by omega)
     subst ND;have hcb:=((HB.o.more (show g<=g+1+1+1 by omega)).lift HK.o (by omega)).at_ hlk;have hy:=GP.o.getD k;have hz:=HI.o.od.getD (i+k);have XT:=cG HG.o (i:=i+k) (by rw[HI.o.len];omega);have HN:=lH (HI.o.step GP.o hx aU hlk);obtain⟨y2,hyy⟩:∃y,b.getD k 0=y:=⟨_,rfl⟩;rw[hyy] at hcb hy HN;obtain⟨z2,nW⟩:∃y,out.getD (i+k) 0=y:=⟨_,rfl⟩;rw[nW] at XT hz HN;clear hyy nW;have hpr:x*y2<=4294967295*4294967295:=Nat.mul_le_mul (by omega) (by omega);have aFX:IntKind.u64.wrap ((x:Int)*(y2:Int))=((x*y2:Nat):Int):=by rw[<-Int.natCast_mul];exact Go.IntWalk.u64_in _ (by omega)
     have wZ:=HN.o.1;have iI:=lH HN.o.2;clear HN;generalize x*y2=pr at *;have aJW:bb<wr.heap.size:=by omega
     have fY:(k:Int)<(m:Int):=by omega
     have aNM:IntKind.i64.wrap ((i:Int)+(k:Int))=((i+k:Nat):Int):=by rw[<-Int.natCast_add];exact Go.IntWalk.i64_in _ (by omega)
     have aSQ:(i:Int)+(k:Int)<(n:Int)+(m:Int):=by omega
     have aX_:((i:Int)+(k:Int)).toNat=i+k:=by omega
     (go_wp2_with fail);go_roundw
     case rel=>exact⟨k+1,_,_,by omega,by go_num,aO (by omega),HK.o.setCell lR _,fA HG.o (by omega),iI.o⟩
     case measure=>simp[intOf];omega
    ·have nH:k=m:=by omega
     subst nH;have HD2:=lH (HDN.o cc out HI.o);have p0:=(eB.o.below HK.o (by omega)).cell 0;have p1:=(eB.o.below HK.o (by omega)).cell 1;have q0:=(f_.o.below HK.o (by omega)).cell 0;have q1:=(f_.o.below HK.o (by omega)).cell 1;have pl2:g<wr.heap.size:=by omega
     have ql2:g+1<wr.heap.size:=by omega
     have hz:=HI.o.od.getD (i+k);have XT:=cG HG.o (i:=i+k) (by rw[HI.o.len];omega);obtain⟨z2,nW⟩:∃y,out.getD (i+k) 0=y:=⟨_,rfl⟩;rw[nW] at XT hz;clear nW;have aSQ:(i:Int)+(k:Int)<(n:Int)+(k:Int):=by omega
     have aX_:((i:Int)+(k:Int)).toNat=i+k:=by omega
     (go_wp2_with fail);clear p0 p1 q0 q1;go_roundw
     case rel=>exact⟨i+1,_,by omega,by go_num,HK.o.setCell lR _,fA HG.o rfl,HD2.o⟩
     case measure=>simp[intOf];omega
  ·have DG:i=n:=by omega
   subst DG;have HE:Hid (wv out=y.natAbs*z.natAbs):=lH (by rw[HI.o.eq,nL (by rw[F2.o];exact lR),HWA.o,BC.o]);have HLN:Hid (out.length=i+m):=lH HI.o.len;have sC:=lH (HR.o.below HK.o (by omega));have hO:Hid (Below w.heap.size w wr):=lH (by rw[pB.o];exact dA.o.trans (HK.o.mono (by omega)));(go_wp2_with fail);clear p0 p1 q0 q1;refine(kL (b1 != b2) (some ⟨g+1+1+1,0,none⟩) (i+m) (i+m) out wr (by have:=rN HG.o;rwa[HLN.o] at this) HI.o.od lR (by omega)).mono ?_;rw[HE.o,HE1.o,HE2.o,aIT];rintro e w2 ⟨k,b9,A9,n9,c9,rfl,h9⟩;have cH:=bW hO k;have iJ:=lH (sC.o.bl k);have H2:=lH h9;have rW:w.heap.size<=g+1+1:=by have:=pB.o;omega
   clear k h9;obtain⟨z0,z1,zf,zl⟩:=iJ.o.e2;(go_wp2_with fail);generalize fU:(w2.setCell ⟨_,0,none⟩ _).setCell ⟨_,1,none⟩ _=W9;have jM:=lH (pG (e:=.returned (.agg #[.bool b9,.slice A9 n9 c9])) cH.o rW iJ.o (by simp) (by simp) H2.o rfl);rw[fU] at jM;have eV:Hid (aG W9 _ 113 #[.bool b9,.slice A9 n9 c9]):=lH (by rw[<-fU];exact cD iJ.o);clear fU z0 z1 zf zl;obtain⟨q0,q1⟩:=eV.o.a2;exact bodyPost_ret (v:=.agg #[.bool b9,.slice A9 n9 c9]) (by simp[results,Tryz.results115,go_sem,q0,q1]) rfl jM.o
theorem aIU{y z:Int}(h:decide (y<0)=decide (z<0)):DY (decide (y<0)) (y.natAbs+z.natAbs)=y+z:=by
 unfold DY;have h2:(y<0)<->(z<0):=by simpa using h
 by_cases hy:y<0
 ·rw[if_pos (by simpa using hy)];omega
 ·rw[if_neg (by simpa using hy)];omega
theorem ZO{y z:Int}(h:decide (y<0)≠decide (z<0))(FQ:z.natAbs<=y.natAbs):DY (decide (y<0)) (y.natAbs-z.natAbs)=y+z:=by
 unfold DY;by_cases hy:y<0<;>by_cases hz:z<0
 ·exact absurd (by simp[hy,hz]) h
 ·rw[if_pos (by simpa using hy)];omega
 ·rw[if_neg (by simpa using hy)];omega
 ·exact absurd (by simp[hy,hz]) h
theorem PW(y z:Int)(b1:Bool)(A:OA)(n c:Nat)(b2:Bool)(B:OA)(m d:Nat)(w:Wo)(h1:cE w w.heap.size y b1 A n c)(h2:cE w w.heap.size z b2 B m d)(hn:n<=35184372088832)(hm:m<=35184372088832):Calls Tryz.prog 116 #[.agg #[.bool b1,.slice A n c],.agg #[.bool b2,.slice B m d]] w (LgP (y+z) w):=by
 have he1:=h1.eb;have he2:=h2.eb;have hny:=h1.en;have hmz:=h2.en;have dA:Hid (Below w.heap.size w (((w.alloc (.cells #[.bool b1,.slice A n c] 113)).alloc (.cells #[.bool b2,.slice B m d] 113)).alloc (.cells #[.bool false,.slice none 0 0] 113))):=lH (((bA).alloc (by simp) _).alloc (by simp;omega) _);have eB:Hid (aG (((w.alloc (.cells #[.bool b1,.slice A n c] 113)).alloc (.cells #[.bool b2,.slice B m d] 113)).alloc (.cells #[.bool false,.slice none 0 0] 113)) w.heap.size 113 #[.bool b1,.slice A n c]):=lH (((aG.new w _ _).alloc _).alloc _);have f_:Hid (aG (((w.alloc (.cells #[.bool b1,.slice A n c] 113)).alloc (.cells #[.bool b2,.slice B m d] 113)).alloc (.cells #[.bool false,.slice none 0 0] 113)) (w.heap.size+1) 113 #[.bool b2,.slice B m d]):=lH ((aG.new_ (by simp)).alloc _);have HR:Hid (aG (((w.alloc (.cells #[.bool b1,.slice A n c] 113)).alloc (.cells #[.bool b2,.slice B m d] 113)).alloc (.cells #[.bool false,.slice none 0 0] 113)) (w.heap.size+1+1) 113 #[.bool false,.slice none 0 0]):=lH (aG.new_ (by simp));have H1:=lH (h1.up dA.o);have H2:=lH (h2.up dA.o);clear h1 h2;have HNY:=lH hny;have HMZ:=lH hmz;clear hny hmz;go_enter Tryz.func116,Tryz.ntmps116
 have rW:w.heap.size<=w.heap.size+1+1:=by omega
 by_cases hb:b1=b2
 ·have HSG:Hid (DY b1 (wv (kU y.natAbs)+wv (kU z.natAbs))=y+z):=lH (by rw[eC,eC,he1];exact aIU (by rw[<-he1,<-he2,hb]))
  have pE:(b1 == b2)=true:=by simp[hb]
  clear he1 he2 hb;(go_wp2_with fail);generalize (((w.alloc (.cells #[.bool b1,.slice A n c] 113)).alloc (.cells #[.bool b2,.slice B m d] 113)).alloc (.cells #[.bool false,.slice none 0 0] 113))=W at *;obtain⟨p0,p1,pl⟩:=eB.o.b2;obtain⟨q0,q1,ql⟩:=f_.o.b2;have H1W:Hid (jU W.drew W.drew.heap.size A n (kU y.natAbs)):=lH H1.o.rd;have H2W:Hid (jU W.drew W.drew.heap.size B m (kU z.natAbs)):=lH H2.o.rd;have hO:=dA;have sC:=HR;clear dA HR;refine kX 8 (fun hHeld=>?_);simp only[nI,List.take_zero];refine cW [0,1,2,3,4,5] ?_;refine bQ 6 (fun K hK=>?_);go_simp;refine(aTt A n c B m d (kU y.natAbs) (kU z.natAbs) W.drew H1W.o H2W.o (iC _) (iC _) (by omega) (by omega)).mono ?_;rintro e w5 ⟨fD,A5,n5,c5,l5,rfl,y_,XR,O4,O8,hc5⟩;obtain⟨eK,HR5,P_,HD5⟩:=iK ((aK (Below.refl W.heap.size W)).trans fD) y_ O4 XR;clear fD y_ O4 XR;go_simp;refine gZ hK eK.o (fun hHeld=>?_);clear hK K;refine bQ 7 (fun K hK=>?_);go_simp;refine(kL b1 A5 n5 c5 l5 w5 HR5.o HD5.o O8 hc5).mono ?_;rw[P_.o,HSG.o];rintro e w6 ⟨fT,b9,A9,n9,c9,rfl,h9⟩;have fL:=bW eK fT;have H9:=lH h9;clear fT h9;go_simp;refine gZ hK fL.o (fun hHeld=>?_);clear hK K;refine eM ?_;have z8:=lH (hO.o.tm fL.o);have mD:=lH (sC.o.bl fL.o);clear p0 p1 q0 q1 pl ql;obtain⟨z0,z1,zf,zl⟩:=mD.o.e2;(go_wp2_with fail);generalize fU:(w6.setCell ⟨_,0,none⟩ _).setCell ⟨_,1,none⟩ _=W9;have jM:=lH (pG (e:=.returned (.agg #[.bool b9,.slice A9 n9 c9])) z8.o rW mD.o (by simp) (by simp) H9.o rfl);rw[fU] at jM;have eV:Hid (aG W9 _ 113 #[.bool b9,.slice A9 n9 c9]):=lH (by rw[<-fU];exact cD mD.o);clear fU z0 z1 zf zl;obtain⟨q0,q1⟩:=eV.o.a2;exact bodyPost_ret (v:=.agg #[.bool b9,.slice A9 n9 c9]) (by simp[results,Tryz.results116,go_sem,q0,q1]) rfl jM.o
 ·have pE:(b1 == b2)=false:=by simpa using hb
  have IL:Hid (decide (y<0)≠decide (z<0)):=lH (by rw[<-he1,<-he2];exact hb);have a0R:=lH he1;have a0Q:=lH he2;clear he1 he2 hb;(go_wp2_with fail);generalize (((w.alloc (.cells #[.bool b1,.slice A n c] 113)).alloc (.cells #[.bool b2,.slice B m d] 113)).alloc (.cells #[.bool false,.slice none 0 0] 113))=W at *;refine(TZ A n c B m d y.natAbs z.natAbs W H1.o.rd H2.o.rd (by omega) (by omega)).mono ?_;rintro e w4 ⟨⟨r,rfl,hr⟩,nq,rfl⟩;have K8:Below W.heap.size W (W.drewN nq):=bD bR nq;have bT:=bW dA K8;obtain⟨aKv,aO7,HRb,H1b,H2b⟩:=kN (eB.o.bl K8) (f_.o.bl K8) (HR.o.bl K8) (H1.o.up K8) (H2.o.up K8);clear K8 dA eB f_ HR H1 H2;have dA:=bT;have eB:=aKv;have f_:=aO7;have HR:=HRb;have H1:=H1b;have H2:=H2b;clear bT aKv aO7 HRb H1b H2b;generalize W.drewN nq=V at *;obtain⟨p0,p1,pl⟩:=eB.o.b2;obtain⟨q0,q1,ql⟩:=f_.o.b2;by_cases gN:r<0
  ·have HLE:Hid (y.natAbs<=z.natAbs):=lH (pJ (hr.1.1 gN))
   have hmn:n<=m:=by rw[HNY.o,HMZ.o];exact lD HLE.o
   have HSG:Hid (DY b2 (wv (kU z.natAbs)-wv (kU y.natAbs))=y+z):=lH (by
    rw[eC,eC,a0Q.o,Int.add_comm];exact ZO (fun h=>IL.o h.symm) HLE.o)
   have O7:decide (0<=r)=false:=by simpa using gN
   clear hr gN;(go_wp2_with fail);have H1W:Hid (jU V.drew V.drew.heap.size A n (kU y.natAbs)):=lH H1.o.rd;have H2W:Hid (jU V.drew V.drew.heap.size B m (kU z.natAbs)):=lH H2.o.rd;have hO:=dA;have sC:=HR;clear dA HR;refine kX 8 (fun hHeld=>?_);simp only[nI,List.take_zero];refine cW [0,1,2,3,4,5] ?_;refine bQ 6 (fun K hK=>?_);go_simp;refine(aLf B m d A n c (kU z.natAbs) (kU y.natAbs) V.drew H2W.o H1W.o (iC _) (iC _) (by omega) (by omega) (by rw[eC,eC];exact HLE.o)).mono ?_;rintro e w5 ⟨fD,A5,n5,c5,l5,rfl,y_,XR,O4,O8,hc5⟩;obtain⟨eK,HR5,P_,HD5⟩:=iK ((aK (Below.refl V.heap.size V)).trans fD) y_ O4 XR;clear fD y_ O4 XR;go_simp;refine gZ hK eK.o (fun hHeld=>?_);clear hK K;refine bQ 7 (fun K hK=>?_);go_simp;refine(kL b2 A5 n5 c5 l5 w5 HR5.o HD5.o O8 hc5).mono ?_;rw[P_.o,HSG.o];rintro e w6 ⟨fT,b9,A9,n9,c9,rfl,h9⟩;have fL:=bW eK fT;have H9:=lH h9;clear fT h9;go_simp;refine gZ hK fL.o (fun hHeld=>?_);clear hK K;refine eM ?_;have z8:=lH (hO.o.tm fL.o);have mD:=lH (sC.o.bl fL.o);clear p0 p1 q0 q1 pl ql;obtain⟨z0,z1,zf,zl⟩:=mD.o.e2;(go_wp2_with fail);generalize fU:(w6.setCell ⟨_,0,none⟩ _).setCell ⟨_,1,none⟩ _=W9;have jM:=lH (pG (e:=.returned (.agg #[.bool b9,.slice A9 n9 c9])) z8.o rW mD.o (by simp) (by simp) H9.o rfl);rw[fU] at jM;have eV:Hid (aG W9 _ 113 #[.bool b9,.slice A9 n9 c9]):=lH (by rw[<-fU];exact cD mD.o);clear fU z0 z1 zf zl;obtain⟨q0,q1⟩:=eV.o.a2;exact bodyPost_ret (v:=.agg #[.bool b9,.slice A9 n9 c9]) (by simp[results,Tryz.results116,go_sem,q0,q1]) rfl jM.o
  ·have HLE:Hid (z.natAbs<=y.natAbs):=lH (Nat.le_of_not_lt fun h=>gN (hr.1.2 h))
   have hmn:m<=n:=by rw[HNY.o,HMZ.o];exact lD HLE.o
   have HSG:Hid (DY b1 (wv (kU y.natAbs)-wv (kU z.natAbs))=y+z):=lH (by
    rw[eC,eC,a0R.o];exact ZO IL.o HLE.o)
   have O7:0<=r:=by omega
   clear hr gN;(go_wp2_with fail);have H1W:Hid (jU V.drew V.drew.heap.size A n (kU y.natAbs)):=lH H1.o.rd;have H2W:Hid (jU V.drew V.drew.heap.size B m (kU z.natAbs)):=lH H2.o.rd;have hO:=dA;have sC:=HR;clear dA HR;refine kX 8 (fun hHeld=>?_);simp only[nI,List.take_zero];refine cW [0,1,2,3,4,5] ?_;refine bQ 6 (fun K hK=>?_);go_simp;refine(aLf A n c B m d (kU y.natAbs) (kU z.natAbs) V.drew H1W.o H2W.o (iC _) (iC _) (by omega) (by omega) (by rw[eC,eC];exact HLE.o)).mono ?_;rintro e w5 ⟨fD,A5,n5,c5,l5,rfl,y_,XR,O4,O8,hc5⟩;obtain⟨eK,HR5,P_,HD5⟩:=iK ((aK (Below.refl V.heap.size V)).trans fD) y_ O4 XR;clear fD y_ O4 XR;go_simp;refine gZ hK eK.o (fun hHeld=>?_);clear hK K;refine bQ 7 (fun K hK=>?_);go_simp;refine(kL b1 A5 n5 c5 l5 w5 HR5.o HD5.o O8 hc5).mono ?_;rw[P_.o,HSG.o];rintro e w6 ⟨fT,b9,A9,n9,c9,rfl,h9⟩;have fL:=bW eK fT;have H9:=lH h9;clear fT h9;go_simp;refine gZ hK fL.o (fun hHeld=>?_);clear hK K;refine eM ?_;have z8:=lH (hO.o.tm fL.o);have mD:=lH (sC.o.bl fL.o);clear p0 p1 q0 q1 pl ql;obtain⟨z0,z1,zf,zl⟩:=mD.o.e2;(go_wp2_with fail);generalize fU:(w6.setCell ⟨_,0,none⟩ _).setCell ⟨_,1,none⟩ _=W9;have jM:=lH (pG (e:=.returned (.agg #[.bool b9,.slice A9 n9 c9])) z8.o rW mD.o (by simp) (by simp) H9.o rfl);rw[fU] at jM;have eV:Hid (aG W9 _ 113 #[.bool b9,.slice A9 n9 c9]):=lH (by rw[<-fU];exact cD mD.o);clear fU z0 z1 zf zl;obtain⟨q0,q1⟩:=eV.o.a2;exact bodyPost_ret (v:=.agg #[.bool b9,.slice A9 n9 c9]) (by simp[results,Tryz.results116,go_sem,q0,q1]) rfl jM.o
structure aZp (x s:Nat):Prop where
 le:s<=31
 lo:2147483648<=x*2^s
 hi:x*2^s<4294967296
theorem T6:∀(x:Nat),0<x->x<18446744073709551616->1<=Lib.bitLen x/\2^(Lib.bitLen x-1)<=x/\x<2^Lib.bitLen x:=by
 intro x
 induction x using Nat.strongRecOn with
 | ind x ih=>
  intro h0 h1;have hh:=Lib.bitLen_half x (by omega) h1;by_cases hx:x=1
  ·subst hx
   have e:Lib.bitLen (1 / 2)=0:=by decide
   rw[e] at hh;rw[hh];decide
  ·obtain⟨g1,g2,g3⟩:=ih (x / 2) (by omega) (by omega) (by omega)
   rw[hh];generalize Lib.bitLen (x / 2)=L at *;obtain⟨k,rfl⟩:∃k,L=k+1:=⟨L-1,by omega⟩;rw[show 1+(k+1)-1=k+1 from by omega,show 1+(k+1)=k+2 from by omega];rw[Nat.add_sub_cancel] at g2;rw[Nat.pow_succ] at g3;refine⟨by omega,?_,?_⟩
   ·rw[Nat.pow_succ];omega
   ·rw[Nat.pow_succ,Nat.pow_succ];omega
theorem aNy(x:Nat)(w:Wo)(h0:0<x)(h1:x<4294967296):Calls Tryz.prog 189 #[.int .u32 (x:Int)] w fun e w'=>(∃s:Nat,e=.returned (.int .i64 (s:Int))/\aZp x s)/\w=w':=by
 refine(Tryz.bits_LeadingZeros32 (x:Int) w (by omega) (by omega)).mono ?_;rintro e w' ⟨rfl,rfl⟩;rw[jF];obtain⟨g1,g2,g3⟩:=T6 x h0 (by omega);have FQ:Lib.bitLen x<=32:=Lib.bitLen_le x 32 (by decide) h1;generalize Lib.bitLen x=L at *;refine⟨⟨32-L,aX (by omega),⟨by omega,?_,?_⟩⟩,rfl⟩
 ·have:2^(L-1)*2^(32-L)=2147483648:=by rw[<-Nat.pow_add,show L-1+(32-L)=31 from by omega]
  have:=Nat.mul_le_mul_right (2^(32-L)) g2;omega
 ·have:2^L*2^(32-L)=4294967296:=by rw[<-Nat.pow_add,show L+(32-L)=32 from by omega]
  have:=(Nat.mul_lt_mul_right (a:=2^(32-L)) (Nat.pow_pos (by decide))).2 g3;omega
end
section
open Go.ChangeShapes Go.WideShapes Go.ChangeAt Go.RowKit
structure c_ (w:Wo) (B:Nat) (q:Rat) (b1:Bool) (A:OA) (n c:Nat) (b2:Bool) (A2:OA) (m d:Nat):Prop where
 num:cE w B q.num b1 A n c
 den:cE w B (q.den:Int) b2 A2 m d
section
variable {w w':Wo} {B B':Nat} {q:Rat} {b1:Bool} {A:OA} {n c:Nat} {b2:Bool} {A2:OA} {m d:Nat}
theorem c_.below(h:c_ w B q b1 A n c b2 A2 m d)(hb:Below B' w w')(hB:B<=B'):c_ w' B q b1 A n c b2 A2 m d:=⟨h.num.below hb hB,h.den.below hb hB⟩
theorem c_.more(h:c_ w B q b1 A n c b2 A2 m d)(hB:B<=B'):c_ w B' q b1 A n c b2 A2 m d:=⟨h.num.more hB,h.den.more hB⟩
theorem c_.up(h:c_ w w.heap.size q b1 A n c b2 A2 m d)(hb:Below w.heap.size w w'):c_ w' w'.heap.size q b1 A n c b2 A2 m d:=⟨h.num.up hb,h.den.up hb⟩
theorem c_.keep(h:c_ w w.heap.size q b1 A n c b2 A2 m d){p:Addr}{v:Value}(hp:w.cell? p=some v)(hv:∀k x,v≠.int k x)(u:Value):c_ (w.setCell p u) (w.setCell p u).heap.size q b1 A n c b2 A2 m d:=⟨h.num.keep hp hv u,h.den.keep hp hv u⟩
theorem c_.n_le(h:c_ w B q b1 A n c b2 A2 m d):n<=bI q:=by rw[h.num.en];exact aI3 q
theorem c_.m_le(h:c_ w B q b1 A n c b2 A2 m d):m<=bI q:=by rw[h.den.en,Int.natAbs_natCast];exact ZV q
theorem c_.pos(h:c_ w B q b1 A n c b2 A2 m d):b2=false:=by rw[h.den.eb];simp
end
def RtP(q:Rat)(w:Wo)(e:Ending)(w':Wo):Prop:=Below w.heap.size w w'/\∃b1 A n c b2 A2 m d,e=.returned (.agg #[.bool b1,.slice A n c,.bool b2,.slice A2 m d])/\c_ w' w'.heap.size q b1 A n c b2 A2 m d
theorem gF{p t:Nat}{x0 x1 x2 x3:Value}(h:aG w p t #[x0,x1,x2,x3]):aG ((((w.setCell ⟨p,0,none⟩ v0).setCell ⟨p,1,none⟩ v1).setCell ⟨p,2,none⟩ v2).setCell ⟨p,3,none⟩ v3) p t #[v0,v1,v2,v3]:=
 (((h.set_at (i:=0) (cs':=#[v0,x1,x2,x3]) v0 (by simp)).set_at (i:=1) (cs':=#[v0,v1,x2,x3]) v1 (by simp)).set_at (i:=2) (cs':=#[v0,v1,v2,x3]) v2 (by simp)).set_at (i:=3) v3 (by simp)
theorem KD{a:Wo}{B p:Nat}(h:Below B a w)(hp:B<=p):Below B a ((((w.setCell ⟨p,0,none⟩ v0).setCell ⟨p,1,none⟩ v1).setCell ⟨p,2,none⟩ v2).setCell ⟨p,3,none⟩ v3):=(((h.setCell hp _).setCell hp _).setCell hp _).setCell hp _
theorem nR{w2:Wo}{T:Nat}{q:Rat}{b1:Bool}{A:OA}{c:Nat}{b2:Bool}{A2:OA}{m d:Nat}{e:Ending}(hb:Below w.heap.size w w2)(hg:w.heap.size<=g)(hB:aG w2 g T #[v0,v1,v2,v3])(h0:∀k x,v0≠.int k x)(h1:∀k x,v1≠.int k x)(h2:∀k x,v2≠.int k x)(h3:∀k x,v3≠.int k x)(h:c_ w2 w2.heap.size q b1 A n c b2 A2 m d)(he:e=.returned (.agg #[.bool b1,.slice A n c,.bool b2,.slice A2 m d])):RtP q w e ((((w2.setCell ⟨g,0,none⟩ (.bool b1)).setCell ⟨g,1,none⟩ (.slice A n c)).setCell ⟨g,2,none⟩ (.bool b2)).setCell ⟨g,3,none⟩ (.slice A2 m d)):=by
 refine⟨KD hb hg,b1,A,n,c,b2,A2,m,d,he,?_⟩;have B1:=hB.set_at (i:=0) (cs':=#[.bool b1,v1,v2,v3]) (.bool b1) (by simp);have B2:=B1.set_at (i:=1) (cs':=#[.bool b1,.slice A n c,v2,v3]) (.slice A n c) (by simp);have B3:=B2.set_at (i:=2) (cs':=#[.bool b1,.slice A n c,.bool b2,v3]) (.bool b2) (by simp);exact(((h.keep (hB.cell 0) h0 _).keep (B1.cell 1) h1 _).keep (B2.cell 2) h2 _).keep (B3.cell 3) h3 _
end
