import Derived.Test.YthgdchffeigkbaaGreatDoorU03
import Derived.Test.YthgdchffeigkbaaGreatDoorU04
import Derived.Deep.DeepCutAuto
set_option linter.unusedVariables false
set_option linter.unusedSimpArgs false
namespace Go.Proofs.YthgdchffeigkbaaGreatDoor
set_option maxHeartbeats 4000000
set_option maxRecDepth 100000
section
section
open Go Go.RowKit
variable {P:Program} {Q:Exit→Act→World→Prop} {md:Region.Mode}
theorem sA_ {α:Type _} {l:List α} {i:Nat} {a:α}:l.toArray.setIfInBounds i a=(l.set i a).toArray:=List.setIfInBounds_toArray _ _ _
theorem sB_ {α:Type _} {x:α} {xs:List α} {a:α}:(x::xs).set 0 a=a::xs:=rfl
theorem sC_ {α:Type _} {x:α} {xs:List α} {n:Nat} {a:α}:(x::xs).set (n+1) a=x::xs.set n a:=rfl
theorem tkH {L:List Oper} {W:World} (i:Nat) {oi:Oper} {v:Value} {fuel:Nat} {listed:Array Bool} {a a':Act} {w:World} (hi:L[i]?=some oi) (h:wpAnyH P md L.toArray Q (fun w'=>Below W.heap.size W w') fuel (listed.setIfInBounds i true) a' w) (hy:∀ w',Below W.heap.size W w'→(∀ b o,b<W.heap.size→w'.cell? ⟨b,o,none⟩=W.cell? ⟨b,o,none⟩)→(execOp a.eval oi).run P w'=.ok (.value v) w':=by intro w' _ hcc;go_simp<;>with_reducible rfl) (ha:a.put oi.dst v=a':=by (try simp only [Act.put,sA_,sB_,sC_]);rfl) (hS:Below W.heap.size W w:=by assumption) (hB:takeB md L.toArray listed i=true:=by kernel_rfl) (hQ:∀ c a w,Q (.panic c) (a.put oi.dst v) w→Q (.panic c) a w:=by exact fun _ _ _ h=>h) (hw:Region.wanted oi (yielded L.toArray a.tmps)=true:=by rfl):wpAnyH P md L.toArray Q (fun w'=>Below W.heap.size W w') (fuel+1) listed a w:=
 takeH i hi hB hQ hw (fun w' h=>hy w' h (bcellW h).1) hS (by rw [ha];exact h)
end
end
section
open Go.ChangeShapes Go.WideShapes Go.ChangeAt Go.RowKit
attribute [local go_sem ↓] execOp_call_val
attribute [local go_sem] callVal_func setCell_drewN alloc_drewN
theorem norm_any (m:Bool) (A:Option Addr) (n c:Nat) (ws:List Nat) (w:World) (hr:RdW w w.heap.size A n ws) (hd:Wd ws) (hn:n≤c) (hc:c≤9223372036854775807) :
    Calls Tryz.prog 141 #[.bool m,.slice A n c] w (LgP (sgn m (wv ws)) w):=by
 have HR:=lH hr;have HD:=lH hd;have HL:=lH hr.len;have HK:=lH ((Below.refl w.heap.size w).alloc lR (.cells #[.bool false,.slice none 0 0] 113));clear hr hd;go_enter Tryz.func141,Tryz.ntmps141
 go_wp2_with fail
 have HB:=lH (Blk.new w 113 #[.bool false,.slice none 0 0]);have HR1:=lH (HR.o.up HK.o);generalize w.alloc (.cells #[.bool false,.slice none 0 0] 113)=W at *;generalize hg:w.heap.size=g at *;have HG:=lH hg;clear hg
 go_loop [1] (fun v1=>∃ k:Nat,k≤n∧v1=.slice A k c∧wv (ws.take k)=wv ws) (fun v1=>match v1 with | .slice _ k _=>k | _=>0)
 case atStart=>exact ⟨n,lR,rfl,by rw [zH_ (Nat.le_of_eq HL.o)]⟩
 case round=>
  obtain ⟨k,hk,rfl,hv⟩:=hrel;have HV:=lH hv;have HE:Hid (∀ v' e w',Below g w w'→RdW w' w'.heap.size A k (ws.take k)→(k=0∨ws.getD (k-1) 0≠0)→v'=.agg #[.bool (m && decide (0<k)),.slice A k c]→e=.returned v'→LgP (sgn m (wv ws)) w e w'):=lH (fun v' e w' hb hr hz hv' he=>lgP_mk (by rw [HG.o];exact hb) (by rw [trim_end HD.o (by have:=HL.o;omega) hz,HV.o]) (by rw [zF_,HL.o,Nat.min_eq_left hk]) hr (zI_ hk hn) hc (by rw [he,hv']));clear hv;have b0:=HB.o.cell 0;have b1:=HB.o.cell 1;have bf:=HB.o.frozen;have bl:=HB.o.lt
  by_cases h0:k=0
  ·subst h0
   cases m with
   | true=>
    go_wp2_with fail
    generalize hW2:(W.setCell ⟨g,0,none⟩ _).setCell ⟨g,1,none⟩ _=W2;have HB2:Hid (Blk W2 g 113 #[.bool (true && decide (0<0)),.slice A 0 c]):=lH (by rw [←hW2];exact blk_set2 HB.o);have HK2:Hid (Below g w W2):=lH (by rw [←hW2];exact below_set2 HK.o lR);clear hW2 b0 b1;have q0:=HB2.o.cell 0;have q1:=HB2.o.cell 1;refine bodyPost_ret (v:=.agg #[.bool (true && decide (0<0)),.slice A 0 c]) (by simp [results,Tryz.results141,go_sem,q0,q1]) rfl (HE.o _ _ _ HK2.o (rdW_nil _ _ _) (.inl trivial) rfl rfl)
   | false=>
    go_wp2_with fail
    generalize hW2:(W.setCell ⟨g,0,none⟩ _).setCell ⟨g,1,none⟩ _=W2;have HB2:Hid (Blk W2 g 113 #[.bool (false && decide (0<0)),.slice A 0 c]):=lH (by rw [←hW2];exact blk_set2 HB.o);have HK2:Hid (Below g w W2):=lH (by rw [←hW2];exact below_set2 HK.o lR);clear hW2 b0 b1;have q0:=HB2.o.cell 0;have q1:=HB2.o.cell 1;refine bodyPost_ret (v:=.agg #[.bool (false && decide (0<0)),.slice A 0 c]) (by simp [results,Tryz.results141,go_sem,q0,q1]) rfl (HE.o _ _ _ HK2.o (rdW_nil _ _ _) (.inl trivial) rfl rfl)
  ·have hk0:0<k:=by omega
   obtain ⟨b,off,hA,hbl⟩:=HR1.o.form (by omega);subst hA;have hc0:=HR1.o.at_ (i:=k-1) (by omega);have HLT:=lH (HR1.o.take hk);have g1:(1:Int)≤(k:Int):=by omega
   have g4:((k:Int)-1).toNat=k-1:=by omega
   have g5:(k:Int)-1<(k:Int):=by omega
   have g6:(k:Int)-1≤(c:Int):=by omega
   have g7:(k:Int)≤9223372036854775807:=by omega
   obtain ⟨x,hx⟩:∃ x,ws.getD (k-1) 0=x:=⟨_,rfl⟩;have HX:=lH hx;rw [hx] at hc0;clear hx
   by_cases hz:x=0
   ·subst hz
    have hz:=HX.o;have HT:=lH (trim_step hk0 (by have:=HL.o;omega) hz);clear hz b0 b1 bf bl
    go_wp2_with fail
    go_round
    case rel=>exact ⟨k-1,by omega,rfl,by rw [HT.o,HV.o]⟩
    case measure=>simp;omega
   ·have hzb:((x:Int) == 0)=false:=by simp;exact hz
    have HZ:Hid (ws.getD (k-1) 0≠0):=lH (by rw [HX.o];exact hz);clear hz;cases m with
    | true=>
     go_wp2_with fail
     generalize hW2:(W.setCell ⟨g,0,none⟩ _).setCell ⟨g,1,none⟩ _=W2;have HB2:Hid (Blk W2 g 113 #[.bool true,.slice (some ⟨b,off,none⟩) k c]):=lH (by rw [←hW2];exact blk_set2 HB.o);have HK2:Hid (Below g w W2):=lH (by rw [←hW2];exact below_set2 HK.o lR);clear hW2 b0 b1;have q0:=HB2.o.cell 0;have q1:=HB2.o.cell 1;refine bodyPost_ret (v:=.agg #[.bool true,.slice (some ⟨b,off,none⟩) k c]) (by simp [results,Tryz.results141,go_sem,q0,q1,hk0]) rfl (HE.o _ _ _ HK2.o (((HR.o.take hk).below HK2.o lR).more (HG.o▸HK2.o.size)) (.inr HZ.o) (by simp [hk0]) rfl)
    | false=>
     go_wp2_with fail
     generalize hW2:(W.setCell ⟨g,0,none⟩ _).setCell ⟨g,1,none⟩ _=W2;have HB2:Hid (Blk W2 g 113 #[.bool (false && decide (0<k)),.slice (some ⟨b,off,none⟩) k c]):=lH (by rw [←hW2];exact blk_set2 HB.o);have HK2:Hid (Below g w W2):=lH (by rw [←hW2];exact below_set2 HK.o lR);clear hW2 b0 b1;have q0:=HB2.o.cell 0;have q1:=HB2.o.cell 1;refine bodyPost_ret (v:=.agg #[.bool (false && decide (0<k)),.slice (some ⟨b,off,none⟩) k c]) (by simp [results,Tryz.results141,go_sem,q0,q1,hk0]) rfl (HE.o _ _ _ HK2.o (((HR.o.take hk).below HK2.o lR).more (HG.o▸HK2.o.size)) (.inr HZ.o) rfl rfl)
theorem neg_sgn (z:Int):sgn (!decide (z<0)) z.natAbs=-z:=by
 unfold sgn
 by_cases h:z<0
 ·simp [h];omega
 ·simp [h];omega
theorem neg_any (z:Int) (b:Bool) (A:Option Addr) (n c:Nat) (w:World) (h:LgIs w w.heap.size z b A n c) :
    Calls Tryz.prog 140 #[.agg #[.bool b,.slice A n c]] w (LgP (-z) w):=by
 have HB0:Hid (Below w.heap.size w ((w.alloc (.cells #[.bool b,.slice A n c] 113)).alloc (.cells #[.bool false,.slice none 0 0] 113))):=lH ((bA).alloc (by simp) _);have HX:=lH ((Blk.new w 113 #[.bool b,.slice A n c]).alloc (.cells #[.bool false,.slice none 0 0] 113));have HG:Hid (Blk ((w.alloc (.cells #[.bool b,.slice A n c] 113)).alloc (.cells #[.bool false,.slice none 0 0] 113)) (w.heap.size+1) 113 #[.bool false,.slice none 0 0]):=lH (Blk.new_ (by simp));have HH:=lH (h.up HB0.o);have hgs:w.heap.size≤w.heap.size+1:=by omega
 have HE:=lH h.eb;clear h;go_enter Tryz.func140,Tryz.ntmps140
 have x0:=HX.o.cell 0;have x1:=HX.o.cell 1;have xl:=HX.o.lt
 go_wp2_with fail
 clear x0 x1 xl;generalize (w.alloc (.cells #[.bool b,.slice A n c] 113)).alloc (.cells #[.bool false,.slice none 0 0] 113)=W at *;refine (norm_any (!b) A n c (dig z.natAbs) W (by have h:=HH.o.rd;have e:=HH.o.en;exact h) (wd_dig _) HH.o.nc HH.o.cm).mono ?_;rw [wv_dig,HE.o,neg_sgn];rintro e w2 ⟨k,b2,A2,n2,c2,rfl,h2⟩;have HB2:=lH (HB0.o.tm k);have HG2:=lH (HG.o.bl k);have H2:=lH h2;clear k h2 HG HX HH;have z0:=HG2.o.cell 0;have z1:=HG2.o.cell 1;have zf:=HG2.o.frozen;have zl:=HG2.o.lt
 go_wp2_with fail
 generalize hW9:(w2.setCell ⟨_,0,none⟩ _).setCell ⟨_,1,none⟩ _=W9;have HP9:=lH (lg_put (e:=.returned (.agg #[.bool b2,.slice A2 n2 c2])) HB2.o hgs HG2.o (by simp) (by simp) H2.o rfl);rw [hW9] at HP9;have HB9:Hid (Blk W9 _ 113 #[.bool b2,.slice A2 n2 c2]):=lH (by rw [←hW9];exact blk_set2 HG2.o);clear hW9 z0 z1 zf zl;have q0:=HB9.o.cell 0;have q1:=HB9.o.cell 1;exact bodyPost_ret (v:=.agg #[.bool b2,.slice A2 n2 c2]) (by simp [results,Tryz.results140,go_sem,q0,q1]) rfl HP9.o
theorem lsign_any (z:Int) (b:Bool) (A:Option Addr) (n c:Nat) (w:World) (h:LgIs w w.heap.size z b A n c) :
    Calls Tryz.prog 155 #[.agg #[.bool b,.slice A n c]] w fun e w'=>e=.returned (.int .i64 z.sign)∧Below w.heap.size w w':=by
 have HX:=lH (Blk.new w 113 #[.bool b,.slice A n c]);have HE:=lH h.eb;have HN:=lH h.en;clear h;go_enter Tryz.func155,Tryz.ntmps155
 have x0:=HX.o.cell 0;have x1:=HX.o.cell 1;have xl:=HX.o.lt;have HB0:=lH ((Below.refl w.heap.size w).alloc lR (.cells #[.bool b,.slice A n c] 113))
 by_cases hz:z=0
 ·have hn:n=0:=by rw [HN.o,hz];exact dlen_zero
  have HZ:Hid (z.sign=0):=lH (by rw [hz];rfl);clear hz;subst hn
  go_wp2_with fail
  go_ret;exact ⟨ret_int HZ.o.symm,HB0.o⟩
 ·have hn:((n:Int) == 0)=false:=by
   have h1:n≠0:=by rw [HN.o,dlen_pos (by omega)];omega
   simp;omega
  cases b with
  | true=>
   have HZ:Hid (z.sign=-1):=lH (Int.sign_eq_neg_one_of_neg (by have:=HE.o;simpa using this.symm));clear hz
   go_wp2_with fail
   go_ret;exact ⟨ret_int HZ.o.symm,HB0.o⟩
  | false=>
   have HZ:Hid (z.sign=1):=lH (Int.sign_eq_one_of_pos (by have:=HE.o;simp at this;omega));clear hz
   go_wp2_with fail
   go_ret;exact ⟨ret_int HZ.o.symm,HB0.o⟩
theorem of_any (n:Int) (w:World) (h0:-9223372036854775808≤n) (h1:n≤9223372036854775807) :
    Calls Tryz.prog 111 #[.int .i64 n] w (LgP n w):=by
 obtain ⟨m,hm⟩:∃ m,n.natAbs=m:=⟨_,rfl⟩;have hml:m<18446744073709551616:=by omega
 have HWD:Hid (Wd [m % 4294967296,m / 4294967296]):=lH (fun x hx=>by
  simp at hx;rcases hx with rfl | rfl<;>omega)
 have HV0:Hid (wv [m % 4294967296,m / 4294967296]=m):=lH (by simp only [wv];omega);go_enter Tryz.func111,Tryz.ntmps111
 by_cases hn:n<0
 ·have HV:Hid (sgn true (wv [m % 4294967296,m / 4294967296])=n):=lH (by rw [HV0.o];show -(m:Int)=n;omega)
  have hw1:IntKind.u64.wrap n=n+18446744073709551616:=by
   rw [u64_wrap];omega
  have hw2:IntKind.u64.wrap (-(n+18446744073709551616))=(m:Int):=by
   rw [u64_wrap];omega
  have HM:=lH hm;have HN:=lH hn;clear hm;have HW:Hid (Below w.heap.size w ((w.alloc (.cells #[.bool false,.slice none 0 0] 113)).alloc (.cells (u32s [m % 4294967296,m / 4294967296]).toArray 216))):=lH ((bA).alloc (by simp) _);have HG:Hid (Blk ((w.alloc (.cells #[.bool false,.slice none 0 0] 113)).alloc (.cells (u32s [m % 4294967296,m / 4294967296]).toArray 216)) w.heap.size 113 #[.bool false,.slice none 0 0]):=lH ((Blk.new w _ _).alloc _);have HS:Hid (Blk ((w.alloc (.cells #[.bool false,.slice none 0 0] 113)).alloc (.cells (u32s [m % 4294967296,m / 4294967296]).toArray 216)) (w.heap.size+1) 216 (u32s [m % 4294967296,m / 4294967296]).toArray):=lH (Blk.new_ (by simp));have hgs:w.heap.size≤w.heap.size:=lR
  go_wp2_with fail
  clear hw1 hw2;have hcs:#[.int .u32 ((m:Int) % 4294967296),.int .u32 ((m:Int) / 4294967296)]=(u32s [m % 4294967296,m / 4294967296]).toArray:=by
   simp [u32s]
  rw [hcs];clear hcs;generalize (w.alloc (.cells #[.bool false,.slice none 0 0] 113)).alloc (.cells (u32s [m % 4294967296,m / 4294967296]).toArray 216)=W at *;refine (norm_any true (some ⟨w.heap.size+1,0,none⟩) 2 2 [m % 4294967296,m / 4294967296] W (rdW_blk HS.o) HWD.o lR (by decide)).mono ?_;rw [HV.o];rintro e w2 ⟨k,b2,A2,n2,c2,rfl,h2⟩;have HB2:=lH (HW.o.tm k);have HG2:=lH (HG.o.bl k);have H2:=lH h2;clear k h2 HG HS HW;have z0:=HG2.o.cell 0;have z1:=HG2.o.cell 1;have zf:=HG2.o.frozen;have zl:=HG2.o.lt
  go_wp2_with fail
  generalize hW9:(w2.setCell ⟨_,0,none⟩ _).setCell ⟨_,1,none⟩ _=W9;have HP9:=lH (lg_put (e:=.returned (.agg #[.bool b2,.slice A2 n2 c2])) HB2.o hgs HG2.o (by simp) (by simp) H2.o rfl);rw [hW9] at HP9;have HB9:Hid (Blk W9 _ 113 #[.bool b2,.slice A2 n2 c2]):=lH (by rw [←hW9];exact blk_set2 HG2.o);clear hW9 z0 z1 zf zl;have q0:=HB9.o.cell 0;have q1:=HB9.o.cell 1;exact bodyPost_ret (v:=.agg #[.bool b2,.slice A2 n2 c2]) (by simp [results,Tryz.results111,go_sem,q0,q1]) rfl HP9.o
 ·have HV:Hid (sgn false (wv [m % 4294967296,m / 4294967296])=n):=lH (by rw [HV0.o];show (m:Int)=n;omega)
  have hm2:n=(m:Int):=by omega
  subst hm2;clear hm;have HW:Hid (Below w.heap.size w ((w.alloc (.cells #[.bool false,.slice none 0 0] 113)).alloc (.cells (u32s [m % 4294967296,m / 4294967296]).toArray 216))):=lH ((bA).alloc (by simp) _);have HG:Hid (Blk ((w.alloc (.cells #[.bool false,.slice none 0 0] 113)).alloc (.cells (u32s [m % 4294967296,m / 4294967296]).toArray 216)) w.heap.size 113 #[.bool false,.slice none 0 0]):=lH ((Blk.new w _ _).alloc _);have HS:Hid (Blk ((w.alloc (.cells #[.bool false,.slice none 0 0] 113)).alloc (.cells (u32s [m % 4294967296,m / 4294967296]).toArray 216)) (w.heap.size+1) 216 (u32s [m % 4294967296,m / 4294967296]).toArray):=lH (Blk.new_ (by simp));have hgs:w.heap.size≤w.heap.size:=lR
  go_wp2_with fail
  have hcs:#[.int .u32 ((m:Int) % 4294967296),.int .u32 ((m:Int) / 4294967296)]=(u32s [m % 4294967296,m / 4294967296]).toArray:=by
   simp [u32s]
  rw [hcs];clear hcs;generalize (w.alloc (.cells #[.bool false,.slice none 0 0] 113)).alloc (.cells (u32s [m % 4294967296,m / 4294967296]).toArray 216)=W at *;refine (norm_any false (some ⟨w.heap.size+1,0,none⟩) 2 2 [m % 4294967296,m / 4294967296] W (rdW_blk HS.o) HWD.o lR (by decide)).mono ?_;rw [HV.o];rintro e w2 ⟨k,b2,A2,n2,c2,rfl,h2⟩;have HB2:=lH (HW.o.tm k);have HG2:=lH (HG.o.bl k);have H2:=lH h2;clear k h2 HG HS HW;have z0:=HG2.o.cell 0;have z1:=HG2.o.cell 1;have zf:=HG2.o.frozen;have zl:=HG2.o.lt
  go_wp2_with fail
  generalize hW9:(w2.setCell ⟨_,0,none⟩ _).setCell ⟨_,1,none⟩ _=W9;have HP9:=lH (lg_put (e:=.returned (.agg #[.bool b2,.slice A2 n2 c2])) HB2.o hgs HG2.o (by simp) (by simp) H2.o rfl);rw [hW9] at HP9;have HB9:Hid (Blk W9 _ 113 #[.bool b2,.slice A2 n2 c2]):=lH (by rw [←hW9];exact blk_set2 HG2.o);clear hW9 z0 z1 zf zl;have q0:=HB9.o.cell 0;have q1:=HB9.o.cell 1;exact bodyPost_ret (v:=.agg #[.bool b2,.slice A2 n2 c2]) (by simp [results,Tryz.results111,go_sem,q0,q1]) rfl HP9.o
def CmpIs (x y:Nat) (r:Int):Prop:=(r<0↔x<y)∧(r=0↔x=y)
theorem cmpIs_len {x y:Nat} (h:dlen x≠dlen y):CmpIs x y ((dlen x:Int)-(dlen y:Int)):=by
 rcases Nat.lt_or_gt_of_ne h with h1 | h1
 ·have:=lt_of_dlen h1
  exact ⟨by omega,by omega⟩
 ·have:=lt_of_dlen h1
  exact ⟨by omega,by omega⟩
theorem cmpIs_lt {x y:Nat} (h:x<y):CmpIs x y (-1):=⟨by omega,by omega⟩
theorem cmpIs_gt {x y:Nat} (h:y<x):CmpIs x y 1:=⟨by omega,by omega⟩
theorem cmpIs_eq {x y:Nat} (h:x=y):CmpIs x y 0:=⟨by omega,by omega⟩
def CmpP (x y:Nat) (w:World) (e:Ending) (w':World):Prop:=(∃ r:Int,e=.returned (.int .i64 r)∧CmpIs x y r)∧∃ nq,w'=w.drewN nq
theorem cmpW_any (A:Option Addr) (n c:Nat) (B:Option Addr) (m d:Nat) (x y:Nat) (w:World) (hx:RdW w w.heap.size A n (dig x)) (hy:RdW w w.heap.size B m (dig y)) (hn:n≤9223372036854775807) (hm:m≤9223372036854775807) :
    Calls Tryz.prog 148 #[.slice A n c,.slice B m d] w (CmpP x y w):=by
 have hxl:=hx.len;have hyl:=hy.len;have HX:=lH hx;have HY:=lH hy;have HXL:Hid (dlen x=n):=lH hxl;have HYL:Hid (dlen y=m):=lH hyl;clear hx hy hxl hyl;go_enter Tryz.func148,Tryz.ntmps148
 by_cases hnm:n=m
 ·subst hnm
  have HLL:Hid ((dig x).length=(dig y).length):=lH (by rw [dig_len,dig_len,HXL.o,HYL.o])
  go_wp2_with fail
  go_loopw [5] (fun v5 wr=>∃ k:Nat,k≤n∧v5=.int .i64 ((k:Int)-1)∧(dig x).drop k=(dig y).drop k∧∃ nq,wr=w.drewN nq) (fun v5 _=>(intOf v5+1).toNat)
  case atStart=>exact ⟨n,lR,rfl,by rw [List.drop_eq_nil_of_le (by rw [dig_len,HXL.o];exact lR),List.drop_eq_nil_of_le (by rw [dig_len,HYL.o];exact lR)],0,rfl⟩
  case round=>
   obtain ⟨k,hk,rfl,hd,nq,rfl⟩:=hrel;have HD:=lH hd;clear hd
   by_cases h0:k=0
   ·subst h0
    have HE:Hid (x=y):=lH (by have:=HD.o;simp at this;rw [←wv_dig x,this,wv_dig]);have e:(((0:Nat):Int)-1)=-1:=rfl;rw [e];clear e
    go_wp2_with fail
    go_ret;exact ⟨⟨0,rfl,cmpIs_eq HE.o⟩,nq,rfl⟩
   ·obtain ⟨j,rfl⟩:∃ j,k=j+1:=⟨k-1,by omega⟩
    have e:(((j+1:Nat):Int)-1)=(j:Int):=by omega
    rw [e];clear e h0;have hj:j<n:=hk;obtain ⟨b1,o1,hA1,hb1⟩:=HX.o.form (by omega);subst hA1;obtain ⟨b2,o2,hA2,hb2⟩:=HY.o.form (by omega);subst hA2;have hcx:=HX.o.at_ hj;have hcy:=HY.o.at_ hj;have HC:=lH (fun h=>wv_cmp (wd_dig x) HLL.o (i:=j) (by rw [dig_len,HXL.o];exact hj) HD.o h);have HC2:=lH (fun h=>wv_cmp (wd_dig y) HLL.o.symm (i:=j) (by rw [dig_len,HYL.o];exact hj) HD.o.symm h);have HQ:=lH (fun h=>drop_eq_step HLL.o (i:=j) (by rw [dig_len,HXL.o];exact hj) HD.o h);obtain ⟨xj,hxj⟩:∃ v,(dig x).getD j 0=v:=⟨_,rfl⟩;obtain ⟨yj,hyj⟩:∃ v,(dig y).getD j 0=v:=⟨_,rfl⟩;have HXJ:=lH hxj;have HYJ:=lH hyj;rw [hxj] at hcx;rw [hyj] at hcy;clear hxj hyj;have hjI:(j:Int)<(n:Int):=by omega
    rcases Nat.lt_trichotomy xj yj with h | h | h
    ·have HR:Hid (x<y):=lH (by have:=HC.o (by rw [HXJ.o,HYJ.o];exact h);rwa [wv_dig,wv_dig] at this)
     have t1:((xj:Int) != (yj:Int))=true:=by simp;omega
     have t1':((xj:Int) == (yj:Int))=false:=by simp;omega
     have t2:decide (xj<yj)=true:=by simpa using h
     clear h
     go_wp2_with fail
     go_quiet (fail)
     go_wp2_with fail
     go_quiet (fail)
     go_wp2_with fail
     go_ret;exact ⟨⟨-1,rfl,cmpIs_lt HR.o⟩,_,by rw [World.drewN_drewN,World.drewN_drewN]⟩
    ·subst h
     have HR:=lH (HQ.o (by rw [HXJ.o,HYJ.o]))
     go_wp2_with fail
     go_quiet (fail)
     go_wp2_with fail
     go_roundw
     case rel=>exact ⟨j,by omega,by go_num,HR.o,_,rfl⟩
     case measure=>simp [intOf]
    ·have HR:Hid (y<x):=lH (by have:=HC2.o (by rw [HXJ.o,HYJ.o];exact h);rwa [wv_dig,wv_dig] at this)
     have t1:((xj:Int) != (yj:Int))=true:=by simp;omega
     have t1':((xj:Int) == (yj:Int))=false:=by simp;omega
     have t2:decide (xj<yj)=false:=by simp;omega
     clear h
     go_wp2_with fail
     go_quiet (fail)
     go_wp2_with fail
     go_quiet (fail)
     go_wp2_with fail
     go_ret;exact ⟨⟨1,rfl,cmpIs_gt HR.o⟩,_,by rw [World.drewN_drewN,World.drewN_drewN]⟩
 ·have HR:=lH (cmpIs_len (x:=x) (y:=y) (by rw [HXL.o,HYL.o];exact hnm))
  rw [HXL.o,HYL.o] at HR;have h1:((n:Int) == (m:Int))=false:=by simp;omega
  have h2:((n:Int) != (m:Int))=true:=by simp;omega
  clear hnm
  go_wp2_with fail
  go_ret;exact ⟨⟨_,rfl,HR.o⟩,0,rfl⟩
structure AddInv (a b:List Nat) (n k cc:Nat) (out:List Nat):Prop where
 len:out.length=n+1
 od:Wd out
 oz:Zf out k
 c1:cc≤1
 eq:wv out+cc*BB k=wv (a.take k)+wv (b.take k)
theorem AddInv.step {a b out:List Nat} {n k cc:Nat} (H:AddInv a b n k cc out) (ha:Wd a) (hb:Wd b) (hk:k<n):AddInv a b n (k+1) ((cc+a.getD k 0+b.getD k 0) / 4294967296) (out.set k ((cc+a.getD k 0+b.getD k 0) % 4294967296)):=by
 have hl:=H.len;obtain ⟨h1,h2⟩:=add_step ha hb (by omega) H.oz H.c1 H.eq;exact ⟨by rw [zU_];exact hl,H.od.set _ (Nat.mod_lt _ (by decide)),H.oz.put,h1,h2⟩
theorem addW0 (A:Option Addr) (n c:Nat) (B:Option Addr) (m d:Nat) (a0 b0:List Nat) (w:World) (ha:RdW w w.heap.size A n a0) (hb:RdW w w.heap.size B m b0) (had:Wd a0) (hbd:Wd b0) (hn:n≤35184372088832) (hm:m≤35184372088832) :
    Calls Tryz.prog 147 #[.slice A n c,.slice B m d] w (OutWP (wv a0+wv b0) w):=by
 have HA:=lH ha;have HB:=lH hb;have HAD:=lH had;have HBD:=lH hbd;clear ha hb had hbd;go_enter Tryz.func147,Tryz.ntmps147
 go_upto_if 12 with fail
 go_cut [0,1] (fun v0 v1 wc=>wc=w∧∃ A n c B m d a b,v0=.slice A n c∧v1=.slice B m d∧RdW w w.heap.size A n a∧RdW w w.heap.size B m b∧Wd a∧Wd b∧m≤n∧n≤35184372088832∧wv a+wv b=wv a0+wv b0)
 case first=>
  by_cases hnm:n<m
  ·go_wp2_with fail
   go_meet
   case rel=>exact ⟨rfl,_,_,_,_,_,_,_,_,rfl,rfl,HB.o,HA.o,HBD.o,HAD.o,by omega,hm,by omega⟩
  ·go_wp2_with fail
   go_meet
   case rel=>exact ⟨rfl,_,_,_,_,_,_,_,_,rfl,rfl,HA.o,HB.o,HAD.o,HBD.o,by omega,hn,rfl⟩
 clear HA HB HAD HBD hn hm;obtain ⟨rfl,A,n,c,B,m,d,a,b,rfl,rfl,ha,hb,had,hbd,hmn,hn,hv⟩:=hcut;have HA:=lH ha;have HB:=lH hb;have HAD:=lH had;have HBD:=lH hbd;have HV:=lH hv;have HAL:=lH ha.len;have HBL:=lH hb.len;clear ha hb had hbd hv;generalize wc=w at *;have hmk:∀ w:World,(Instr.makeSlice 111 (.int .i64 ((n:Int)+1)) (.int .i64 ((n:Int)+1))).run Tryz.prog w=.ok (.slice (some ⟨w.heap.size,0,none⟩) (n+1) (n+1)) (w.alloc (.cells (u32s (List.replicate (n+1) 0)).toArray 216)):=fun w=>make_u32 (n+1) (by omega) w;have HK:=lH ((Below.refl w.heap.size w).alloc lR (.cells (u32s (List.replicate (n+1) 0)).toArray 216));have HG:=lH (Blk.new w 216 (u32s (List.replicate (n+1) 0)).toArray)
 go_wp2_with fail
 clear hmk;generalize w.alloc (.cells (u32s (List.replicate (n+1) 0)).toArray 216)=W at *;generalize hg:w.heap.size=g at *;have HGS:=lH hg;clear hg
 go_loopw [6,21] (fun v6 v21 wr=>∃ (k cc:Nat) (out:List Nat),k≤n∧v21=.int .i64 k∧v6=.int .u64 cc∧Below g w wr∧Blk wr g 216 (u32s out).toArray∧AddInv a b n k cc out) (fun _ v21 _=>n-(intOf v21).toNat)
 case atStart=>exact ⟨0,0,_,by omega,rfl,rfl,HK.o,HG.o,⟨by simp,wd_zeros _,zf_zeros _ _,by omega,by rw [wv_zeros];simp [wv]⟩⟩
 case round=>
  clear HK HG;obtain ⟨k,cc,out,hk,rfl,rfl,hb,hg,hI⟩:=hrel;have HK:=lH hb;have HG:=lH hg;have HI:=lH hI;clear hb hg hI;have hcc:=HI.o.c1;have hgl:=HG.o.lt;have hgf:=HG.o.frozen
  by_cases hlt:k<n
  ·obtain ⟨ab,ao,hA1,hab⟩:=HA.o.form (by omega)
   subst hA1;have hca:=(HA.o.lift HK.o (by omega)).at_ hlt;have hcg:=blkW_cell HG.o (i:=k) (by rw [HI.o.len];omega);have HN:=lH (HI.o.step HAD.o HBD.o hlt);have hx:=HAD.o.getD k;have hy:=HBD.o.getD k;obtain ⟨x,hxx⟩:∃ x,a.getD k 0=x:=⟨_,rfl⟩;obtain ⟨y,hyy⟩:∃ y,b.getD k 0=y:=⟨_,rfl⟩;have HYY:=lH hyy;rw [hxx] at hca hx;rw [hyy] at hy;rw [hxx,hyy] at HN;obtain ⟨z,hzz⟩:∃ z,out.getD k 0=z:=⟨_,rfl⟩;rw [hzz] at hcg;clear hxx hyy hzz;have hab2:ab<wr.heap.size:=by omega
   have hkI:(k:Int)<(n:Int):=by omega
   by_cases hkm:k<m
   ·obtain ⟨bb,bo,hB1,hbb⟩:=HB.o.form (by omega)
    subst hB1;have hcb:=(HB.o.lift HK.o (by omega)).at_ hkm;rw [HYY.o] at hcb;have hbb2:bb<wr.heap.size:=by omega
    have hkmI:(k:Int)<(m:Int):=by omega
    go_wp2_with fail
    go_roundw
    case rel=>exact ⟨k+1,(cc+x+y) / 4294967296,out.set k ((cc+x+y) % 4294967296),by omega,by go_num,val_int (by omega),HK.o.setCell lR _,blkW_set HG.o (by omega),HN.o⟩
    case measure=>simp [intOf];omega
   ·have hy0:y=0:=by rw [←HYY.o];exact wd_out (by rw [HBL.o];omega)
    subst hy0;have hkmI:¬(k:Int)<(m:Int):=by omega
    go_wp2_with fail
    go_roundw
    case rel=>exact ⟨k+1,(cc+x+0) / 4294967296,out.set k ((cc+x+0) % 4294967296),by omega,by go_num,val_int (by omega),HK.o.setCell lR _,blkW_set HG.o (by omega),HN.o⟩
    case measure=>simp [intOf];omega
  ·have hke:k=n:=by omega
   subst hke;have hcg:=blkW_cell HG.o (i:=k) (by rw [HI.o.len];omega);obtain ⟨z,hzz⟩:∃ z,out.getD k 0=z:=⟨_,rfl⟩;rw [hzz] at hcg;clear hzz;have g1:(k:Int)<(k:Int)+1:=by omega
   have HE:Hid (wv (out.set k cc)=wv a0+wv b0):=lH (by
    rw [add_end (v:=wv a0+wv b0) (by rw [HI.o.len];omega) HI.o.oz];rw [HI.o.eq,zH_ (by rw [HAL.o];exact lR),zH_ (by rw [HBL.o];exact hmn)];exact HV.o)
   have HW:Hid (Wd (out.set k cc)):=lH (HI.o.od.set _ (by omega));have HLN:Hid ((out.set k cc).length=k+1):=lH (by rw [zU_];exact HI.o.len)
   go_wp2_with fail
   go_ret;exact outWP_blk (by rw [HGS.o];exact HK.o.setCell lR _) (blkW_set HG.o rfl) HLN.o HW.o HE.o (by omega) rfl
structure SubInv (a b:List Nat) (n k:Nat) (cc:Int) (out:List Nat):Prop where
 len:out.length=n
 od:Wd out
 oz:Zf out k
 c1:-1≤cc
 c2:cc≤0
 eq:(wv out:Int)+cc*(BB k:Int)=(wv (a.take k):Int)-(wv (b.take k):Int)
theorem SubInv.step {a b out:List Nat} {n k:Nat} {cc:Int} (H:SubInv a b n k cc out) (ha:Wd a) (hb:Wd b) (hk:k<n):SubInv a b n (k+1) ((cc+a.getD k 0-b.getD k 0) / 4294967296) (out.set k ((cc+a.getD k 0-b.getD k 0) % 4294967296).toNat):=by
 have hl:=H.len;obtain ⟨h1,h2,h3⟩:=sub_step ha hb (by omega) H.oz H.c1 H.c2 H.eq;exact ⟨by rw [zU_];exact hl,H.od.set _ (by omega),H.oz.put,h1,h2,h3⟩
theorem subW0 (A:Option Addr) (n c:Nat) (B:Option Addr) (m d:Nat) (a b:List Nat) (w:World) (ha:RdW w w.heap.size A n a) (hb:RdW w w.heap.size B m b) (had:Wd a) (hbd:Wd b) (hn:n≤35184372088832) (hmn:m≤n) (hle:wv b≤wv a) :
    Calls Tryz.prog 149 #[.slice A n c,.slice B m d] w (OutWP (wv a-wv b) w):=by
 have HA:=lH ha;have HB:=lH hb;have HAD:=lH had;have HBD:=lH hbd;have HAL:=lH ha.len;have HBL:=lH hb.len;have HLE:=lH hle;clear ha hb had hbd hle;have hmk:∀ w:World,(Instr.makeSlice 111 (.int .i64 (n:Int)) (.int .i64 (n:Int))).run Tryz.prog w=.ok (.slice (some ⟨w.heap.size,0,none⟩) n n) (w.alloc (.cells (u32s (List.replicate n 0)).toArray 216)):=fun w=>make_u32 n (by omega) w;have HK:=lH ((Below.refl w.heap.size w).alloc lR (.cells (u32s (List.replicate n 0)).toArray 216));have HG:=lH (Blk.new w 216 (u32s (List.replicate n 0)).toArray);go_enter Tryz.func149,Tryz.ntmps149
 go_wp2_with fail
 clear hmk;generalize w.alloc (.cells (u32s (List.replicate n 0)).toArray 216)=W at *;generalize hg:w.heap.size=g at *;have HGS:=lH hg;clear hg
 go_loopw [6,13] (fun v6 v13 wr=>∃ (k:Nat) (cc:Int) (out:List Nat),k≤n∧v13=.int .i64 k∧v6=.int .i64 cc∧Below g w wr∧Blk wr g 216 (u32s out).toArray∧SubInv a b n k cc out) (fun _ v13 _=>n-(intOf v13).toNat)
 case atStart=>exact ⟨0,0,_,by omega,rfl,rfl,HK.o,HG.o,⟨by simp,wd_zeros _,zf_zeros _ _,by omega,by omega,by rw [wv_zeros];simp [wv]⟩⟩
 case round=>
  clear HK HG;obtain ⟨k,cc,out,hk,rfl,rfl,hb,hg,hI⟩:=hrel;have HK:=lH hb;have HG:=lH hg;have HI:=lH hI;clear hb hg hI;have hcc:=HI.o.c1;have hcc2:=HI.o.c2;have hgl:=HG.o.lt;have hgf:=HG.o.frozen
  by_cases hlt:k<n
  ·obtain ⟨ab,ao,hA1,hab⟩:=HA.o.form (by omega)
   subst hA1;have hca:=(HA.o.lift HK.o (by omega)).at_ hlt;have hcg:=blkW_cell HG.o (i:=k) (by rw [HI.o.len];omega);have HN:=lH (HI.o.step HAD.o HBD.o hlt);have hx:=HAD.o.getD k;have hy:=HBD.o.getD k;obtain ⟨x,hxx⟩:∃ x,a.getD k 0=x:=⟨_,rfl⟩;obtain ⟨y,hyy⟩:∃ y,b.getD k 0=y:=⟨_,rfl⟩;have HYY:=lH hyy;rw [hxx] at hca hx;rw [hyy] at hy;rw [hxx,hyy] at HN;obtain ⟨z,hzz⟩:∃ z,out.getD k 0=z:=⟨_,rfl⟩;rw [hzz] at hcg;clear hxx hyy hzz;have hab2:ab<wr.heap.size:=by omega
   have hkI:(k:Int)<(n:Int):=by omega
   by_cases hkm:k<m
   ·obtain ⟨bb,bo,hB1,hbb⟩:=HB.o.form (by omega)
    subst hB1;have hcb:=(HB.o.lift HK.o (by omega)).at_ hkm;rw [HYY.o] at hcb;have hbb2:bb<wr.heap.size:=by omega
    have hkmI:(k:Int)<(m:Int):=by omega
    go_wp2_with fail
    go_roundw
    case rel=>exact ⟨k+1,_,_,by omega,by go_num,val_int (by omega),HK.o.setCell lR _,blkW_set HG.o (by omega),HN.o⟩
    case measure=>simp [intOf];omega
   ·have hy0:y=0:=by rw [←HYY.o];exact wd_out (by rw [HBL.o];omega)
    subst hy0;have hkmI:¬(k:Int)<(m:Int):=by omega
    go_wp2_with fail
    go_roundw
    case rel=>exact ⟨k+1,_,_,by omega,by go_num,val_int (by omega),HK.o.setCell lR _,blkW_set HG.o (by omega),HN.o⟩
    case measure=>simp [intOf];omega
  ·have hke:k=n:=by omega
   subst hke;have HE:Hid (wv out=wv a-wv b):=lH (by
    have h:=HI.o.eq;rw [zH_ (by rw [HAL.o];exact lR),zH_ (by rw [HBL.o];exact hmn)] at h;rw [←HI.o.len] at h;exact sub_end HI.o.c1 HI.o.c2 HI.o.od HLE.o h)
   go_wp2_with fail
   go_ret;exact outWP_blk (by rw [HGS.o];exact HK.o) HG.o HI.o.len HI.o.od HE.o (by omega) rfl
structure SdvInv (a:List Nat) (n d k r:Nat) (out:List Nat):Prop where
 len:out.length=n
 od:Wd out
 rd:r<d
 eq:wv (a.drop k)=d*wv (out.drop k)+r
theorem SdvInv.step {a out:List Nat} {n d k r:Nat} (H:SdvInv a n d (k+1) r out) (ha:Wd a) (hl:a.length=n) (hd:0<d) (hd2:d<4294967296) (hk:k<n):(r*4294967296+a.getD k 0) / d<4294967296∧SdvInv a n d k ((r*4294967296+a.getD k 0) % d) (out.set k ((r*4294967296+a.getD k 0) / d)):=by
 have hl2:=H.len;obtain ⟨h1,h2⟩:=sdiv_step ha (by omega) hd hd2 H.rd (by omega) H.eq;exact ⟨h1,by rw [zU_];exact hl2,H.od.set _ h1,Nat.mod_lt _ hd,h2⟩
def SdvP (v d:Nat) (w:World) (e:Ending) (w':World):Prop:=Below w.heap.size w w'∧∃ g n l,e=.returned (.tuple #[.slice (some ⟨g,0,none⟩) n n,.int .u32 ((v % d:Nat):Int)])∧RdW w' w'.heap.size (some ⟨g,0,none⟩) n l∧Wd l∧wv l=v / d∧n≤35184372088832∧w.heap.size≤g
theorem sdvP_mk {v d g n t:Nat} {l:List Nat} {w w':World} {e:Ending} {r:Nat} (hb:Below w.heap.size w w') (hg:Blk w' g t (u32s l).toArray) (hl:l.length=n) (hd:Wd l) (hn:n≤35184372088832) (hgw:w.heap.size≤g) (hr:r<d) (hv:v=d*wv l+r) (he:e=.returned (.tuple #[.slice (some ⟨g,0,none⟩) n n,.int .u32 (r:Int)])):SdvP v d w e w':=by
 have h1:v / d=wv l:=by rw [hv,Nat.mul_add_div (by omega),Nat.div_eq_of_lt hr,Nat.add_zero]
 have h2:v % d=r:=by rw [hv,Nat.mul_add_mod,Nat.mod_eq_of_lt hr]
 refine ⟨hb,g,n,l,by rw [he,h2],by subst hl;exact rdW_blk hg,hd,h1.symm,hn,hgw⟩
theorem sdivW (A:Option Addr) (n c:Nat) (d:Nat) (a:List Nat) (w:World) (ha:RdW w w.heap.size A n a) (had:Wd a) (hn:n≤35184372088832) (hd:0<d) (hd2:d<4294967296) :
    Calls Tryz.prog 150 #[.slice A n c,.int .u32 (d:Int)] w (SdvP (wv a) d w):=by
 have HA:=lH ha;have HAD:=lH had;have HAL:=lH ha.len;clear ha had;have hmk:∀ w:World,(Instr.makeSlice 111 (.int .i64 (n:Int)) (.int .i64 (n:Int))).run Tryz.prog w=.ok (.slice (some ⟨w.heap.size,0,none⟩) n n) (w.alloc (.cells (u32s (List.replicate n 0)).toArray 216)):=fun w=>make_u32 n (by omega) w;have HK:=lH ((Below.refl w.heap.size w).alloc lR (.cells (u32s (List.replicate n 0)).toArray 216));have HG:=lH (Blk.new w 216 (u32s (List.replicate n 0)).toArray);go_enter Tryz.func150,Tryz.ntmps150
 go_wp2_with fail
 clear hmk;generalize w.alloc (.cells (u32s (List.replicate n 0)).toArray 216)=W at *;generalize hg:w.heap.size=g at *;have HGS:=lH hg;clear hg
 go_loopw [7,8] (fun v7 v8 wr=>∃ (k r:Nat) (out:List Nat),k≤n∧v8=.int .i64 ((k:Int)-1)∧v7=.int .u64 r∧Below g w wr∧Blk wr g 216 (u32s out).toArray∧SdvInv a n d k r out) (fun _ v8 _=>(intOf v8+1).toNat)
 case atStart=>exact ⟨n,0,_,lR,rfl,rfl,HK.o,HG.o,⟨by simp,wd_zeros _,hd,by rw [List.drop_eq_nil_of_le (by rw [HAL.o];exact lR),List.drop_eq_nil_of_le (by simp)];simp [wv]⟩⟩
 case round=>
  clear HK HG;obtain ⟨k,r,out,hk,rfl,rfl,hb,hg,hI⟩:=hrel;have HK:=lH hb;have HG:=lH hg;have HI:=lH hI;clear hb hg hI;have hgl:=HG.o.lt;have hgf:=HG.o.frozen;have hrd:=HI.o.rd
  by_cases h0:k=0
  ·subst h0
   have HE:Hid (wv a=d*wv out+r):=lH (by have:=HI.o.eq;simpa using this);have e:(((0:Nat):Int)-1)=-1:=rfl;rw [e];clear e
   go_wp2_with fail
   go_ret2;exact sdvP_mk (by rw [HGS.o];exact HK.o) HG.o HI.o.len HI.o.od hn (by rw [HGS.o];exact lR) HI.o.rd HE.o rfl
  ·obtain ⟨j,rfl⟩:∃ j,k=j+1:=⟨k-1,by omega⟩
   have e:(((j+1:Nat):Int)-1)=(j:Int):=by omega
   rw [e];clear e h0;have hj:j<n:=hk;obtain ⟨ab,ao,hA1,hab⟩:=HA.o.form (by omega);subst hA1;have hca:=(HA.o.lift HK.o (by omega)).at_ hj;have hcg:=blkW_cell HG.o (i:=j) (by rw [HI.o.len];omega);have HN:=lH (HI.o.step HAD.o HAL.o hd hd2 hj);have hx:=HAD.o.getD j;obtain ⟨x,hxx⟩:∃ x,a.getD j 0=x:=⟨_,rfl⟩;rw [hxx] at hca hx HN;obtain ⟨z,hzz⟩:∃ z,out.getD j 0=z:=⟨_,rfl⟩;rw [hzz] at hcg;clear hxx hzz;have hab2:ab<wr.heap.size:=by omega
   have hjI:(j:Int)<(n:Int):=by omega
   have hr32:r<4294967296:=by omega
   have hor:bits BinOp.or IntKind.u64 ((r:Int)*4294967296) (x:Int)=((r*4294967296+x:Nat):Int):=or_words r x 32 (by omega) hr32 hx;have hsl:r*4294967296+x<18446744073709551616:=by omega
   generalize r*4294967296+x=s at hor hsl HN;have htm:=tmod_nat s d;have htd:=tdiv_nat s d;have hql:=HN.o.1;have HN2:=lH HN.o.2;clear HN;generalize s / d=q at *;generalize s % d=t at *;have hwq:IntKind.u64.wrap (q:Int)=(q:Int):=Go.IntWalk.u64_in _ (by omega)
   go_wp2_with fail
   go_roundw
   case rel=>exact ⟨j,t,_,by omega,rfl,rfl,HK.o.setCell lR _,blkW_set HG.o (by omega),HN2.o⟩
   case measure=>simp [intOf]
structure ShInv (a:List Nat) (n s k cc:Nat) (out:List Nat):Prop where
 len:out.length=n+1
 od:Wd out
 oz:Zf out k
 c1:cc<2^s
 eq:wv out+cc*BB k=wv (a.take k)*2^s
theorem ShInv.step {a out:List Nat} {n s k cc:Nat} (H:ShInv a n s k cc out) (ha:Wd a) (hs:s≤31) (hk:k<n):cc+a.getD k 0*2^s<18446744073709551616∧ShInv a n s (k+1) ((cc+a.getD k 0*2^s) / 4294967296) (out.set k ((cc+a.getD k 0*2^s) % 4294967296)):=by
 have hl:=H.len;obtain ⟨h1,h2,h3⟩:=sh_step ha hs (by omega) H.oz H.c1 H.eq;exact ⟨h1,by rw [zU_];exact hl,H.od.set _ (Nat.mod_lt _ (by decide)),H.oz.put,h2,h3⟩
def OutLP (v n:Nat) (w:World) (e:Ending) (w':World):Prop:=Below w.heap.size w w'∧∃ g l,e=.returned (.slice (some ⟨g,0,none⟩) n n)∧w.heap.size≤g∧Blk w' g 216 (u32s l).toArray∧Wd l∧wv l=v∧l.length=n
theorem shW (A:Option Addr) (n c:Nat) (s:Nat) (a:List Nat) (w:World) (ha:RdW w w.heap.size A n a) (had:Wd a) (hn:n≤35184372088832) (hs:s≤31) :
    Calls Tryz.prog 190 #[.slice A n c,.int .i64 (s:Int)] w (OutLP (wv a*2^s) (n+1) w):=by
 have HA:=lH ha;have HAD:=lH had;have HAL:=lH ha.len;clear ha had;have hmk:∀ w:World,(Instr.makeSlice 111 (.int .i64 ((n:Int)+1)) (.int .i64 ((n:Int)+1))).run Tryz.prog w=.ok (.slice (some ⟨w.heap.size,0,none⟩) (n+1) (n+1)) (w.alloc (.cells (u32s (List.replicate (n+1) 0)).toArray 216)):=fun w=>make_u32 (n+1) (by omega) w;have HK:=lH ((Below.refl w.heap.size w).alloc lR (.cells (u32s (List.replicate (n+1) 0)).toArray 216));have HG:=lH (Blk.new w 216 (u32s (List.replicate (n+1) 0)).toArray);go_enter Tryz.func190,Tryz.ntmps190
 go_wp2_with fail
 clear hmk;generalize w.alloc (.cells (u32s (List.replicate (n+1) 0)).toArray 216)=W at *;generalize hg:w.heap.size=g at *;have HGS:=lH hg;clear hg;have HP:Hid (0<2^s):=lH (Nat.pow_pos (by decide))
 go_loopw [6,15] (fun v6 v15 wr=>∃ (k cc:Nat) (out:List Nat),k≤n∧v15=.int .i64 k∧v6=.int .u64 cc∧Below g w wr∧Blk wr g 216 (u32s out).toArray∧ShInv a n s k cc out) (fun _ v15 _=>n-(intOf v15).toNat)
 case atStart=>exact ⟨0,0,_,by omega,rfl,rfl,HK.o,HG.o,⟨by simp,wd_zeros _,zf_zeros _ _,HP.o,by rw [wv_zeros];simp [wv]⟩⟩
 case round=>
  clear HK HG;obtain ⟨k,cc,out,hk,rfl,rfl,hb,hg,hI⟩:=hrel;have HK:=lH hb;have HG:=lH hg;have HI:=lH hI;clear hb hg hI;have hcc:=HI.o.c1;have hgl:=HG.o.lt;have hgf:=HG.o.frozen
  by_cases hlt:k<n
  ·obtain ⟨ab,ao,hA1,hab⟩:=HA.o.form (by omega)
   subst hA1;have hca:=(HA.o.lift HK.o (by omega)).at_ hlt;have hcg:=blkW_cell HG.o (i:=k) (by rw [HI.o.len];omega);have HN:=lH (HI.o.step HAD.o hs hlt);have hx:=HAD.o.getD k;obtain ⟨x,hxx⟩:∃ x,a.getD k 0=x:=⟨_,rfl⟩;rw [hxx] at hca hx HN;obtain ⟨z,hzz⟩:∃ z,out.getD k 0=z:=⟨_,rfl⟩;rw [hzz] at hcg;clear hxx hzz;have hab2:ab<wr.heap.size:=by omega
   have hkI:(k:Int)<(n:Int):=by omega
   have HOR:=lH (or_shift cc x s hcc HN.o.1);have HN2:=lH HN.o.2;clear HN hcc
   go_wp2_with fail
   rw [HOR.o];generalize cc+x*2^s=t at *;go_roundw
   case rel=>exact ⟨k+1,_,_,by omega,by go_num,val_int (by omega),HK.o.setCell lR _,blkW_set HG.o (by omega),HN2.o⟩
   case measure=>simp [intOf];omega
  ·have hke:k=n:=by omega
   subst hke;have hcg:=blkW_cell HG.o (i:=k) (by rw [HI.o.len];omega);obtain ⟨z,hzz⟩:∃ z,out.getD k 0=z:=⟨_,rfl⟩;rw [hzz] at hcg;clear hzz;have hc32:cc<4294967296:=zJ_ hcc (zI_ (Nat.pow_le_pow_right (by decide) hs) (by decide));have HE:Hid (wv (out.set k cc)=wv a*2^s):=lH (by
    rw [add_end (v:=wv a*2^s) (by rw [HI.o.len];omega) HI.o.oz];rw [HI.o.eq,zH_ (by rw [HAL.o];exact lR)])
   have HW:Hid (Wd (out.set k cc)):=lH (HI.o.od.set _ hc32);have HLN:Hid ((out.set k cc).length=k+1):=lH (by rw [zU_];exact HI.o.len);have g1:(k:Int)<(k:Int)+1:=by omega
   clear hcc
   go_wp2_with fail
   go_ret;exact ⟨by rw [HGS.o];exact HK.o.setCell lR _,g,_,rfl,Nat.le_of_eq HGS.o,blkW_set HG.o rfl,HW.o,HE.o,HLN.o⟩
structure MulInv (a b:List Nat) (n m i:Nat) (out:List Nat):Prop where
 len:out.length=n+m
 od:Wd out
 oz:Zf out (i+m)
 eq:wv out=wv (a.take i)*wv b
structure MulIn (a b:List Nat) (n m i x k cc:Nat) (out:List Nat):Prop where
 len:out.length=n+m
 od:Wd out
 oz:Zf out (i+m)
 cl:cc<4294967296
 eq:wv out+cc*BB (i+k)=wv (a.take i)*wv b+x*wv (b.take k)*BB i
theorem MulIn.step {a b out:List Nat} {n m i x k cc:Nat} (H:MulIn a b n m i x k cc out) (hb:Wd b) (hx:x<4294967296) (hi:i<n) (hk:k<m):cc+out.getD (i+k) 0+x*b.getD k 0<18446744073709551616∧MulIn a b n m i x (k+1) ((cc+out.getD (i+k) 0+x*b.getD k 0) / 4294967296) (out.set (i+k) ((cc+out.getD (i+k) 0+x*b.getD k 0) % 4294967296)):=by
 have hl:=H.len;obtain ⟨h1,h2,h3⟩:=mul_step hb H.od hx H.cl (by omega) H.eq;exact ⟨h1,by rw [zU_];exact hl,H.od.set _ (Nat.mod_lt _ (by decide)),H.oz.set (by omega),h2,h3⟩
theorem MulIn.done {a b out:List Nat} {n m i cc:Nat} (H:MulIn a b n m i (a.getD i 0) m cc out) (hbl:b.length=m) (hi:i<n):MulInv a b n m (i+1) (out.set (i+m) cc):=by
 have hl:=H.len;have he:=H.eq;refine ⟨by rw [zU_];exact hl,H.od.set _ H.cl,?_,?_⟩
 ·have:=H.oz.put (x:=cc)
  rwa [show i+m+1=i+1+m from by omega] at this
 ·subst hbl
  rw [zH_ lR] at he;exact mul_end (by omega) H.oz he
theorem sgn_mul (y z:Int):sgn (decide (y<0) != decide (z<0)) (y.natAbs*z.natAbs)=y*z:=by
 rw [←Int.natAbs_mul];unfold sgn;rcases Int.lt_trichotomy y 0 with hy | hy | hy
 ·rcases Int.lt_trichotomy z 0 with hz | hz | hz
  ·have:=Int.mul_pos_of_neg_of_neg hy hz
   rw [if_neg (by simp [hy,hz])];omega
  ·subst hz;simp
  ·have:=Int.mul_neg_of_neg_of_pos hy hz
   rw [if_pos (by simp [hy];omega)];omega
 ·subst hy;simp
 ·rcases Int.lt_trichotomy z 0 with hz | hz | hz
  ·have:=Int.mul_neg_of_pos_of_neg hy hz
   rw [if_pos (by simp [hz];omega)];omega
  ·subst hz;simp
  ·have:=Int.mul_pos hy hz
   rw [if_neg (by simp;omega)];omega
theorem lgmul_any (y z:Int) (b1:Bool) (A:Option Addr) (n c:Nat) (b2:Bool) (B:Option Addr) (m d:Nat) (w:World) (h1:LgIs w w.heap.size y b1 A n c) (h2:LgIs w w.heap.size z b2 B m d) (hnm:n+m≤35184372088832) :
    Calls Tryz.prog 115 #[.agg #[.bool b1,.slice A n c],.agg #[.bool b2,.slice B m d]] w (LgP (y*z) w):=by
 have HB0:Hid (Below w.heap.size w ((((w.alloc (.cells #[.bool b1,.slice A n c] 113)).alloc (.cells #[.bool b2,.slice B m d] 113)).alloc (.cells #[.bool false,.slice none 0 0] 113)).alloc (.cells (u32s (List.replicate (n+m) 0)).toArray 216))):=lH (((bA).alloc (by simp) _).alloc (by simp;omega) _ |>.alloc (by simp;omega) _);have HX1:Hid (Blk ((((w.alloc (.cells #[.bool b1,.slice A n c] 113)).alloc (.cells #[.bool b2,.slice B m d] 113)).alloc (.cells #[.bool false,.slice none 0 0] 113)).alloc (.cells (u32s (List.replicate (n+m) 0)).toArray 216)) w.heap.size 113 #[.bool b1,.slice A n c]):=lH ((((Blk.new w _ _).alloc _).alloc _).alloc _)
 have HX2:Hid (Blk ((((w.alloc (.cells #[.bool b1,.slice A n c] 113)).alloc (.cells #[.bool b2,.slice B m d] 113)).alloc (.cells #[.bool false,.slice none 0 0] 113)).alloc (.cells (u32s (List.replicate (n+m) 0)).toArray 216)) (w.heap.size+1) 113 #[.bool b2,.slice B m d]):=lH (((Blk.new_ (by simp)).alloc _).alloc _);have HR:Hid (Blk ((((w.alloc (.cells #[.bool b1,.slice A n c] 113)).alloc (.cells #[.bool b2,.slice B m d] 113)).alloc (.cells #[.bool false,.slice none 0 0] 113)).alloc (.cells (u32s (List.replicate (n+m) 0)).toArray 216)) (w.heap.size+1+1) 113 #[.bool false,.slice none 0 0]):=lH ((Blk.new_ (by simp)).alloc _)
 have HG:Hid (Blk ((((w.alloc (.cells #[.bool b1,.slice A n c] 113)).alloc (.cells #[.bool b2,.slice B m d] 113)).alloc (.cells #[.bool false,.slice none 0 0] 113)).alloc (.cells (u32s (List.replicate (n+m) 0)).toArray 216)) (w.heap.size+1+1+1) 216 (u32s (List.replicate (n+m) 0)).toArray):=lH (Blk.new_ (by simp));have HA:Hid (RdW ((((w.alloc (.cells #[.bool b1,.slice A n c] 113)).alloc (.cells #[.bool b2,.slice B m d] 113)).alloc (.cells #[.bool false,.slice none 0 0] 113)).alloc (.cells (u32s (List.replicate (n+m) 0)).toArray 216)) w.heap.size A n (dig y.natAbs)):=lH (h1.rd.below HB0.o lR);have HB:Hid (RdW ((((w.alloc (.cells #[.bool b1,.slice A n c] 113)).alloc (.cells #[.bool b2,.slice B m d] 113)).alloc (.cells #[.bool false,.slice none 0 0] 113)).alloc (.cells (u32s (List.replicate (n+m) 0)).toArray 216)) w.heap.size B m (dig z.natAbs)):=lH (h2.rd.below HB0.o lR);have HE1:=lH h1.eb
 have HE2:=lH h2.eb;have HAL:Hid ((dig y.natAbs).length=n):=lH h1.en.symm;have HBL:Hid ((dig z.natAbs).length=m):=lH h2.en.symm;have HWA:Hid (wv (dig y.natAbs)=y.natAbs):=lH (wv_dig _);have HWB:Hid (wv (dig z.natAbs)=z.natAbs):=lH (wv_dig _);have HAD:=lH (wd_dig y.natAbs);have HBD:=lH (wd_dig z.natAbs);generalize dig y.natAbs=a at *;generalize dig z.natAbs=b at *;clear h1 h2;have hmk:∀ w:World,(Instr.makeSlice 111 (.int .i64 ((n:Int)+(m:Int))) (.int .i64 ((n:Int)+(m:Int)))).run Tryz.prog w=.ok (.slice (some ⟨w.heap.size,0,none⟩) (n+m) (n+m)) (w.alloc (.cells (u32s (List.replicate (n+m) 0)).toArray 216)):=fun w=>by
  have:=make_u32 (n+m) (by omega) w;rwa [Int.natCast_add] at this
 go_enter Tryz.func115,Tryz.ntmps115
 go_upto_region 2 with fail
 clear hmk;generalize ((((w.alloc (.cells #[.bool b1,.slice A n c] 113)).alloc (.cells #[.bool b2,.slice B m d] 113)).alloc (.cells #[.bool false,.slice none 0 0] 113)).alloc (.cells (u32s (List.replicate (n+m) 0)).toArray 216))=W at *;generalize hg:w.heap.size=g at *;have HGS:=lH hg;clear hg;have p0:=HX1.o.cell 0;have p1:=HX1.o.cell 1;have q0:=HX2.o.cell 0;have q1:=HX2.o.cell 1;have pl:=HX1.o.lt;have ql:=HX2.o.lt;have hG1:=HG.o.lt;have HK0:=lH (Below.refl (g+1+1+1) W)
 go_wp2_with fail
 clear p0 p1 q0 q1
 go_loopw [22] (fun v22 wr=>∃ (i:Nat) (out:List Nat),i≤n∧v22=.int .i64 i∧Below (g+1+1+1) W wr∧Blk wr (g+1+1+1) 216 (u32s out).toArray∧MulInv a b n m i out) (fun v22 _=>n-(intOf v22).toNat)
 case atStart=>exact ⟨0,_,by omega,rfl,HK0.o,HG.o,⟨by simp,wd_zeros _,zf_zeros _ _,by rw [wv_zeros];simp [wv]⟩⟩
 case round=>
  clear HK0 HG;obtain ⟨i,out,hi,rfl,hb,hg,hI⟩:=hrel;have HK:=lH hb;have HG:=lH hg;have HI:=lH hI;clear hb hg hI;have hgl:=HG.o.lt;have hgf:=HG.o.frozen;have p0:=(HX1.o.below HK.o (by omega)).cell 0;have p1:=(HX1.o.below HK.o (by omega)).cell 1;have q0:=(HX2.o.below HK.o (by omega)).cell 0;have q1:=(HX2.o.below HK.o (by omega)).cell 1;have pl2:g<wr.heap.size:=by omega
  have ql2:g+1<wr.heap.size:=by omega
  by_cases hlt:i<n
  ·obtain ⟨ab,ao,hA1,hab⟩:=HA.o.form (by omega)
   subst hA1;have hca:=((HA.o.more (show g≤g+1+1+1 by omega)).lift HK.o (by omega)).at_ hlt;have hx:=HAD.o.getD i;have HDN:=lH (fun (cc:Nat) (out:List Nat) (H:MulIn a b n m i (a.getD i 0) m cc out)=>H.done HBL.o hlt);obtain ⟨x,hxx⟩:∃ x,a.getD i 0=x:=⟨_,rfl⟩;rw [hxx] at hca hx HDN;clear hxx;have hab2:ab<wr.heap.size:=by omega
   have hiI:(i:Int)<(n:Int):=by omega
   go_wp2_with fail
   clear p0 p1 q0 q1 hca hgf;obtain ⟨wo,rfl⟩:∃ wo:World,wo=wr:=⟨_,rfl⟩
   go_loopw [8,30] (fun v8 v30 wr=>∃ (k cc:Nat) (out:List Nat),k≤m∧v30=.int .i64 k∧v8=.int .u64 cc∧Below (g+1+1+1) W wr∧Blk wr (g+1+1+1) 216 (u32s out).toArray∧MulIn a b n m i x k cc out) (fun _ v30 _=>m-(intOf v30).toNat)
   case atStart=>exact ⟨0,0,_,by omega,rfl,rfl,HK.o,HG.o,⟨HI.o.len,HI.o.od,HI.o.oz,by decide,by rw [HI.o.eq];simp [wv]⟩⟩
   case round=>
    clear HK HG HI;obtain ⟨k,cc,out,hk,rfl,rfl,hb,hg,hI⟩:=hrel;have HK:=lH hb;have HG:=lH hg;have HI:=lH hI;clear hb hg hI;have hgl:=HG.o.lt;have hgf:=HG.o.frozen;have hcl:=HI.o.cl
    by_cases hlk:k<m
    ·obtain ⟨bb,bo,hB1,hbb⟩:=HB.o.form (by omega)
     subst hB1;have hcb:=((HB.o.more (show g≤g+1+1+1 by omega)).lift HK.o (by omega)).at_ hlk;have hy:=HBD.o.getD k;have hz:=HI.o.od.getD (i+k);have hcg:=blkW_cell HG.o (i:=i+k) (by rw [HI.o.len];omega);have HN:=lH (HI.o.step HBD.o hx hlt hlk);obtain ⟨y2,hyy⟩:∃ y,b.getD k 0=y:=⟨_,rfl⟩;rw [hyy] at hcb hy HN;obtain ⟨z2,hzz⟩:∃ y,out.getD (i+k) 0=y:=⟨_,rfl⟩;rw [hzz] at hcg hz HN;clear hyy hzz;have hpr:x*y2≤4294967295*4294967295:=Nat.mul_le_mul (by omega) (by omega);have hmul:IntKind.u64.wrap ((x:Int)*(y2:Int))=((x*y2:Nat):Int):=by rw [←Int.natCast_mul];exact Go.IntWalk.u64_in _ (by omega)
     have hs1:=HN.o.1;have HN2:=lH HN.o.2;clear HN;generalize x*y2=pr at *;have hbb2:bb<wr.heap.size:=by omega
     have hkI:(k:Int)<(m:Int):=by omega
     have hsum:IntKind.i64.wrap ((i:Int)+(k:Int))=((i+k:Nat):Int):=by rw [←Int.natCast_add];exact Go.IntWalk.i64_in _ (by omega)
     have hikI:(i:Int)+(k:Int)<(n:Int)+(m:Int):=by omega
     have hikn:((i:Int)+(k:Int)).toNat=i+k:=by omega
     go_wp2_with fail
     go_roundw
     case rel=>exact ⟨k+1,_,_,by omega,by go_num,val_int (by omega),HK.o.setCell lR _,blkW_set HG.o (by omega),HN2.o⟩
     case measure=>simp [intOf];omega
    ·have hke:k=m:=by omega
     subst hke;have HD2:=lH (HDN.o cc out HI.o);have p0:=(HX1.o.below HK.o (by omega)).cell 0;have p1:=(HX1.o.below HK.o (by omega)).cell 1;have q0:=(HX2.o.below HK.o (by omega)).cell 0;have q1:=(HX2.o.below HK.o (by omega)).cell 1;have pl2:g<wr.heap.size:=by omega
     have ql2:g+1<wr.heap.size:=by omega
     have hz:=HI.o.od.getD (i+k);have hcg:=blkW_cell HG.o (i:=i+k) (by rw [HI.o.len];omega);obtain ⟨z2,hzz⟩:∃ y,out.getD (i+k) 0=y:=⟨_,rfl⟩;rw [hzz] at hcg hz;clear hzz;have hikI:(i:Int)+(k:Int)<(n:Int)+(k:Int):=by omega
     have hikn:((i:Int)+(k:Int)).toNat=i+k:=by omega
     go_wp2_with fail
     clear p0 p1 q0 q1;go_roundw
     case rel=>exact ⟨i+1,_,by omega,by go_num,HK.o.setCell lR _,blkW_set HG.o rfl,HD2.o⟩
     case measure=>simp [intOf];omega
  ·have hie:i=n:=by omega
   subst hie;have HE:Hid (wv out=y.natAbs*z.natAbs):=lH (by rw [HI.o.eq,zH_ (by rw [HAL.o];exact lR),HWA.o,HWB.o]);have HLN:Hid (out.length=i+m):=lH HI.o.len;have HRW:=lH (HR.o.below HK.o (by omega));have HBW:Hid (Below w.heap.size w wr):=lH (by rw [HGS.o];exact HB0.o.trans (HK.o.mono (by omega)))
   go_wp2_with fail
   clear p0 p1 q0 q1;refine (norm_any (b1 != b2) (some ⟨g+1+1+1,0,none⟩) (i+m) (i+m) out wr (by have:=rdW_blk HG.o;rwa [HLN.o] at this) HI.o.od lR (by omega)).mono ?_;rw [HE.o,HE1.o,HE2.o,sgn_mul];rintro e w2 ⟨k,b9,A9,n9,c9,rfl,h9⟩;have HB2:=lH (HBW.o.tm k);have HG2:=lH (HRW.o.bl k);have H2:=lH h9;have hgs:w.heap.size≤g+1+1:=by have:=HGS.o;omega
   clear k h9;have z0:=HG2.o.cell 0;have z1:=HG2.o.cell 1;have zf:=HG2.o.frozen;have zl:=HG2.o.lt
   go_wp2_with fail
   generalize hW9:(w2.setCell ⟨_,0,none⟩ _).setCell ⟨_,1,none⟩ _=W9;have HP9:=lH (lg_put (e:=.returned (.agg #[.bool b9,.slice A9 n9 c9])) HB2.o hgs HG2.o (by simp) (by simp) H2.o rfl);rw [hW9] at HP9;have HB9:Hid (Blk W9 _ 113 #[.bool b9,.slice A9 n9 c9]):=lH (by rw [←hW9];exact blk_set2 HG2.o);clear hW9 z0 z1 zf zl;have q0:=HB9.o.cell 0;have q1:=HB9.o.cell 1;exact bodyPost_ret (v:=.agg #[.bool b9,.slice A9 n9 c9]) (by simp [results,Tryz.results115,go_sem,q0,q1]) rfl HP9.o
theorem sgn_add {y z:Int} (h:decide (y<0)=decide (z<0)):sgn (decide (y<0)) (y.natAbs+z.natAbs)=y+z:=by
 unfold sgn;have h2:(y<0)↔(z<0):=by simpa using h
 by_cases hy:y<0
 ·rw [if_pos (by simpa using hy)];omega
 ·rw [if_neg (by simpa using hy)];omega
theorem sgn_sub {y z:Int} (h:decide (y<0)≠decide (z<0)) (hle:z.natAbs≤y.natAbs):sgn (decide (y<0)) (y.natAbs-z.natAbs)=y+z:=by
 unfold sgn
 by_cases hy:y<0<;>by_cases hz:z<0
 ·exact absurd (by simp [hy,hz]) h
 ·rw [if_pos (by simpa using hy)];omega
 ·rw [if_neg (by simpa using hy)];omega
 ·exact absurd (by simp [hy,hz]) h
theorem add_any (y z:Int) (b1:Bool) (A:Option Addr) (n c:Nat) (b2:Bool) (B:Option Addr) (m d:Nat) (w:World) (h1:LgIs w w.heap.size y b1 A n c) (h2:LgIs w w.heap.size z b2 B m d) (hn:n≤35184372088832) (hm:m≤35184372088832) :
    Calls Tryz.prog 116 #[.agg #[.bool b1,.slice A n c],.agg #[.bool b2,.slice B m d]] w (LgP (y+z) w):=by
 have he1:=h1.eb;have he2:=h2.eb;have hny:=h1.en;have hmz:=h2.en;have HB0:Hid (Below w.heap.size w (((w.alloc (.cells #[.bool b1,.slice A n c] 113)).alloc (.cells #[.bool b2,.slice B m d] 113)).alloc (.cells #[.bool false,.slice none 0 0] 113))):=lH (((bA).alloc (by simp) _).alloc (by simp;omega) _);have HX1:Hid (Blk (((w.alloc (.cells #[.bool b1,.slice A n c] 113)).alloc (.cells #[.bool b2,.slice B m d] 113)).alloc (.cells #[.bool false,.slice none 0 0] 113)) w.heap.size 113 #[.bool b1,.slice A n c]):=lH (((Blk.new w _ _).alloc _).alloc _);have HX2:Hid (Blk (((w.alloc (.cells #[.bool b1,.slice A n c] 113)).alloc (.cells #[.bool b2,.slice B m d] 113)).alloc (.cells #[.bool false,.slice none 0 0] 113)) (w.heap.size+1) 113 #[.bool b2,.slice B m d]):=lH ((Blk.new_ (by simp)).alloc _)
 have HR:Hid (Blk (((w.alloc (.cells #[.bool b1,.slice A n c] 113)).alloc (.cells #[.bool b2,.slice B m d] 113)).alloc (.cells #[.bool false,.slice none 0 0] 113)) (w.heap.size+1+1) 113 #[.bool false,.slice none 0 0]):=lH (Blk.new_ (by simp));have H1:=lH (h1.up HB0.o);have H2:=lH (h2.up HB0.o);clear h1 h2;have HNY:=lH hny;have HMZ:=lH hmz;clear hny hmz;go_enter Tryz.func116,Tryz.ntmps116
 have hgs:w.heap.size≤w.heap.size+1+1:=by omega
 by_cases hb:b1=b2
 ·have HSG:Hid (sgn b1 (wv (dig y.natAbs)+wv (dig z.natAbs))=y+z):=lH (by rw [wv_dig,wv_dig,he1];exact sgn_add (by rw [←he1,←he2,hb]))
  have hbb:(b1 == b2)=true:=by simp [hb]
  clear he1 he2 hb
  go_wp2_with fail
  generalize (((w.alloc (.cells #[.bool b1,.slice A n c] 113)).alloc (.cells #[.bool b2,.slice B m d] 113)).alloc (.cells #[.bool false,.slice none 0 0] 113))=W at *;have p0:=HX1.o.cell 0;have p1:=HX1.o.cell 1;have q0:=HX2.o.cell 0;have q1:=HX2.o.cell 1;have pl:=HX1.o.lt;have ql:=HX2.o.lt;have H1W:Hid (RdW W.drew W.drew.heap.size A n (dig y.natAbs)):=lH H1.o.rd;have H2W:Hid (RdW W.drew W.drew.heap.size B m (dig z.natAbs)):=lH H2.o.rd;have HBW:=HB0;have HRW:=HR;clear HB0 HR;refine wp_region_last (S:=fun w'=>Below W.heap.size W w') 8 _ (by kernel_rfl) (by kernel_rfl) rfl (below_drew bR) (fun hHeld=>?_);simp only [zK_,List.take_zero];refine tkH 0 rfl ?_;refine tkH 1 rfl ?_;refine tkH 2 rfl ?_;refine tkH 3 rfl ?_;refine tkH 4 rfl ?_;refine tkH 5 rfl ?_;refine stepH 6 (by kernel_rfl) rfl (fun K hK=>?_);go_simp
  refine (addW0 A n c B m d (dig y.natAbs) (dig z.natAbs) W.drew H1W.o H2W.o (wd_dig _) (wd_dig _) (by omega) (by omega)).mono ?_;rintro e w5 ⟨hb5,A5,n5,c5,l5,rfl,hr5,hd5,hv5,hn5,hc5⟩;have HB5:=lH ((below_drew (Below.refl W.heap.size W)).trans hb5);have HR5:=lH hr5;have HV5:=lH hv5;have HD5:=lH hd5;clear hb5 hr5 hv5 hd5;go_simp;refine hK.out _ _ ?_ (fun hHeld=>?_)
  ·exact HB5.o
  clear hK K
  try simp only [Act.put,sA_,sB_,sC_]
  refine stepH 7 (by kernel_rfl) rfl (fun K hK=>?_);go_simp;refine (norm_any b1 A5 n5 c5 l5 w5 HR5.o HD5.o hn5 hc5).mono ?_;rw [HV5.o,HSG.o];rintro e w6 ⟨hb6,b9,A9,n9,c9,rfl,h9⟩;have HB6:=lH (HB5.o.tm hb6);have H9:=lH h9;clear hb6 h9;go_simp;refine hK.out _ _ ?_ (fun hHeld=>?_)
  ·exact HB6.o
  clear hK K
  try simp only [Act.put,sA_,sB_,sC_]
  refine wpAnyH_done (by kernel_rfl) ?_ _;refine lastQ_go (by rfl) ?_;have HBF:=lH (HBW.o.tm HB6.o);have HGF:=lH (HRW.o.bl HB6.o);clear p0 p1 q0 q1 pl ql;have z0:=HGF.o.cell 0;have z1:=HGF.o.cell 1;have zf:=HGF.o.frozen;have zl:=HGF.o.lt
  go_wp2_with fail
  generalize hW9:(w6.setCell ⟨_,0,none⟩ _).setCell ⟨_,1,none⟩ _=W9;have HP9:=lH (lg_put (e:=.returned (.agg #[.bool b9,.slice A9 n9 c9])) HBF.o hgs HGF.o (by simp) (by simp) H9.o rfl);rw [hW9] at HP9;have HB9:Hid (Blk W9 _ 113 #[.bool b9,.slice A9 n9 c9]):=lH (by rw [←hW9];exact blk_set2 HGF.o);clear hW9 z0 z1 zf zl;have q0:=HB9.o.cell 0;have q1:=HB9.o.cell 1;exact bodyPost_ret (v:=.agg #[.bool b9,.slice A9 n9 c9]) (by simp [results,Tryz.results116,go_sem,q0,q1]) rfl HP9.o
 ·have hbb:(b1 == b2)=false:=by simpa using hb
  have HNB:Hid (decide (y<0)≠decide (z<0)):=lH (by rw [←he1,←he2];exact hb);have HEB1:=lH he1;have HEB2:=lH he2;clear he1 he2 hb
  go_wp2_with fail
  generalize (((w.alloc (.cells #[.bool b1,.slice A n c] 113)).alloc (.cells #[.bool b2,.slice B m d] 113)).alloc (.cells #[.bool false,.slice none 0 0] 113))=W at *;refine (cmpW_any A n c B m d y.natAbs z.natAbs W H1.o.rd H2.o.rd (by omega) (by omega)).mono ?_;rintro e w4 ⟨⟨r,rfl,hr⟩,nq,rfl⟩;have hdr:Below W.heap.size W (W.drewN nq):=below_drewN bR nq;have HB1:=lH (HB0.o.tm hdr);have HX1b:=lH (HX1.o.bl hdr);have HX2b:=lH (HX2.o.bl hdr);have HRb:=lH (HR.o.bl hdr);have H1b:=lH (H1.o.up hdr);have H2b:=lH (H2.o.up hdr);clear hdr HB0 HX1 HX2 HR H1 H2;have HB0:=HB1;have HX1:=HX1b;have HX2:=HX2b;have HR:=HRb;have H1:=H1b;have H2:=H2b;clear HB1 HX1b HX2b HRb H1b H2b;generalize W.drewN nq=V at *;have p0:=HX1.o.cell 0;have p1:=HX1.o.cell 1;have q0:=HX2.o.cell 0;have q1:=HX2.o.cell 1;have pl:=HX1.o.lt;have ql:=HX2.o.lt
  by_cases hr0:r<0
  ·have HLE:Hid (y.natAbs≤z.natAbs):=lH (zQ_ (hr.1.1 hr0))
   have hmn:n≤m:=by rw [HNY.o,HMZ.o];exact dlen_mono HLE.o
   have HSG:Hid (sgn b2 (wv (dig z.natAbs)-wv (dig y.natAbs))=y+z):=lH (by
    rw [wv_dig,wv_dig,HEB2.o,Int.add_comm];exact sgn_sub (fun h=>HNB.o h.symm) HLE.o)
   have hr1:decide (0≤r)=false:=by simpa using hr0
   clear hr hr0
   go_wp2_with fail
   have H1W:Hid (RdW V.drew V.drew.heap.size A n (dig y.natAbs)):=lH H1.o.rd;have H2W:Hid (RdW V.drew V.drew.heap.size B m (dig z.natAbs)):=lH H2.o.rd;have HBW:=HB0;have HRW:=HR;clear HB0 HR;refine wp_region_last (S:=fun w'=>Below V.heap.size V w') 8 _ (by kernel_rfl) (by kernel_rfl) rfl (below_drew bR) (fun hHeld=>?_);simp only [zK_,List.take_zero];refine tkH 0 rfl ?_;refine tkH 1 rfl ?_;refine tkH 2 rfl ?_;refine tkH 3 rfl ?_;refine tkH 4 rfl ?_;refine tkH 5 rfl ?_;refine stepH 6 (by kernel_rfl) rfl (fun K hK=>?_);go_simp;refine (subW0 B m d A n c (dig z.natAbs) (dig y.natAbs) V.drew H2W.o H1W.o (wd_dig _) (wd_dig _) (by omega) (by omega) (by rw [wv_dig,wv_dig];exact HLE.o)).mono ?_;rintro e w5 ⟨hb5,A5,n5,c5,l5,rfl,hr5,hd5,hv5,hn5,hc5⟩;have HB5:=lH ((below_drew (Below.refl V.heap.size V)).trans hb5);have HR5:=lH hr5;have HV5:=lH hv5;have HD5:=lH hd5
   clear hb5 hr5 hv5 hd5;go_simp;refine hK.out _ _ ?_ (fun hHeld=>?_)
   ·exact HB5.o
   clear hK K
   try simp only [Act.put,sA_,sB_,sC_]
   refine stepH 7 (by kernel_rfl) rfl (fun K hK=>?_);go_simp;refine (norm_any b2 A5 n5 c5 l5 w5 HR5.o HD5.o hn5 hc5).mono ?_;rw [HV5.o,HSG.o];rintro e w6 ⟨hb6,b9,A9,n9,c9,rfl,h9⟩;have HB6:=lH (HB5.o.tm hb6);have H9:=lH h9;clear hb6 h9;go_simp;refine hK.out _ _ ?_ (fun hHeld=>?_)
   ·exact HB6.o
   clear hK K
   try simp only [Act.put,sA_,sB_,sC_]
   refine wpAnyH_done (by kernel_rfl) ?_ _;refine lastQ_go (by rfl) ?_;have HBF:=lH (HBW.o.tm HB6.o);have HGF:=lH (HRW.o.bl HB6.o);clear p0 p1 q0 q1 pl ql;have z0:=HGF.o.cell 0;have z1:=HGF.o.cell 1;have zf:=HGF.o.frozen;have zl:=HGF.o.lt
   go_wp2_with fail
   generalize hW9:(w6.setCell ⟨_,0,none⟩ _).setCell ⟨_,1,none⟩ _=W9;have HP9:=lH (lg_put (e:=.returned (.agg #[.bool b9,.slice A9 n9 c9])) HBF.o hgs HGF.o (by simp) (by simp) H9.o rfl);rw [hW9] at HP9;have HB9:Hid (Blk W9 _ 113 #[.bool b9,.slice A9 n9 c9]):=lH (by rw [←hW9];exact blk_set2 HGF.o);clear hW9 z0 z1 zf zl;have q0:=HB9.o.cell 0;have q1:=HB9.o.cell 1;exact bodyPost_ret (v:=.agg #[.bool b9,.slice A9 n9 c9]) (by simp [results,Tryz.results116,go_sem,q0,q1]) rfl HP9.o
  ·have HLE:Hid (z.natAbs≤y.natAbs):=lH (Nat.le_of_not_lt fun h=>hr0 (hr.1.2 h))
   have hmn:m≤n:=by rw [HNY.o,HMZ.o];exact dlen_mono HLE.o
   have HSG:Hid (sgn b1 (wv (dig y.natAbs)-wv (dig z.natAbs))=y+z):=lH (by
    rw [wv_dig,wv_dig,HEB1.o];exact sgn_sub HNB.o HLE.o)
   have hr1:0≤r:=by omega
   clear hr hr0
   go_wp2_with fail
   have H1W:Hid (RdW V.drew V.drew.heap.size A n (dig y.natAbs)):=lH H1.o.rd;have H2W:Hid (RdW V.drew V.drew.heap.size B m (dig z.natAbs)):=lH H2.o.rd;have HBW:=HB0;have HRW:=HR;clear HB0 HR;refine wp_region_last (S:=fun w'=>Below V.heap.size V w') 8 _ (by kernel_rfl) (by kernel_rfl) rfl (below_drew bR) (fun hHeld=>?_);simp only [zK_,List.take_zero];refine tkH 0 rfl ?_;refine tkH 1 rfl ?_;refine tkH 2 rfl ?_;refine tkH 3 rfl ?_;refine tkH 4 rfl ?_;refine tkH 5 rfl ?_;refine stepH 6 (by kernel_rfl) rfl (fun K hK=>?_);go_simp;refine (subW0 A n c B m d (dig y.natAbs) (dig z.natAbs) V.drew H1W.o H2W.o (wd_dig _) (wd_dig _) (by omega) (by omega) (by rw [wv_dig,wv_dig];exact HLE.o)).mono ?_;rintro e w5 ⟨hb5,A5,n5,c5,l5,rfl,hr5,hd5,hv5,hn5,hc5⟩;have HB5:=lH ((below_drew (Below.refl V.heap.size V)).trans hb5);have HR5:=lH hr5;have HV5:=lH hv5;have HD5:=lH hd5
   clear hb5 hr5 hv5 hd5;go_simp;refine hK.out _ _ ?_ (fun hHeld=>?_)
   ·exact HB5.o
   clear hK K
   try simp only [Act.put,sA_,sB_,sC_]
   refine stepH 7 (by kernel_rfl) rfl (fun K hK=>?_);go_simp;refine (norm_any b1 A5 n5 c5 l5 w5 HR5.o HD5.o hn5 hc5).mono ?_;rw [HV5.o,HSG.o];rintro e w6 ⟨hb6,b9,A9,n9,c9,rfl,h9⟩;have HB6:=lH (HB5.o.tm hb6);have H9:=lH h9;clear hb6 h9;go_simp;refine hK.out _ _ ?_ (fun hHeld=>?_)
   ·exact HB6.o
   clear hK K
   try simp only [Act.put,sA_,sB_,sC_]
   refine wpAnyH_done (by kernel_rfl) ?_ _;refine lastQ_go (by rfl) ?_;have HBF:=lH (HBW.o.tm HB6.o);have HGF:=lH (HRW.o.bl HB6.o);clear p0 p1 q0 q1 pl ql;have z0:=HGF.o.cell 0;have z1:=HGF.o.cell 1;have zf:=HGF.o.frozen;have zl:=HGF.o.lt
   go_wp2_with fail
   generalize hW9:(w6.setCell ⟨_,0,none⟩ _).setCell ⟨_,1,none⟩ _=W9;have HP9:=lH (lg_put (e:=.returned (.agg #[.bool b9,.slice A9 n9 c9])) HBF.o hgs HGF.o (by simp) (by simp) H9.o rfl);rw [hW9] at HP9;have HB9:Hid (Blk W9 _ 113 #[.bool b9,.slice A9 n9 c9]):=lH (by rw [←hW9];exact blk_set2 HGF.o);clear hW9 z0 z1 zf zl;have q0:=HB9.o.cell 0;have q1:=HB9.o.cell 1;exact bodyPost_ret (v:=.agg #[.bool b9,.slice A9 n9 c9]) (by simp [results,Tryz.results116,go_sem,q0,q1]) rfl HP9.o
end
end Go.Proofs.YthgdchffeigkbaaGreatDoor
