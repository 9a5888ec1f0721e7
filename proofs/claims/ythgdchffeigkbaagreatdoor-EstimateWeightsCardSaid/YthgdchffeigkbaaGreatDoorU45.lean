import Derived.Test.YthgdchffeigkbaaGreatDoorU44
set_option linter.unusedVariables false
set_option linter.unusedSimpArgs false
namespace Go.Proofs.YthgdchffeigkbaaGreatDoor
section
open Go.ChangeShapes Go.WideShapes Go.ChangeAt Go.RowKit
section
variable {w w':World} {g:Nat} {t:TypeId} {cs:Array Value}
end
theorem tmodB (a n:Int) (h:0<n):-n<a.tmod n∧a.tmod n<n:=⟨Int.lt_tmod_of_pos a h,Int.tmod_lt_of_pos a h⟩
end
section
section
variable {x:Net} {ms:List Mi}
theorem ls_pos (hwt:∀ m∈ms,1≤m.wt):(lsOf x ms).Pos:=fun k hk=>by
 obtain ⟨m,hm⟩:=ls_get hk;rw [ls_w hm];have:=hwt m (zC_ hm);exact Rat.intCast_pos.2 (by omega)
theorem ereg_iff (hwt:∀ m∈ms,1≤m.wt):EReg x ms↔∀ c:Fn,(∀ k,k<ms.length→dotn (freeL x).length ((lsOf x ms).R k) c=0)→∀ j,j<(freeL x).length→c j=0:=by
 unfold EReg;rw [reg_iff gain_wid,gainR_len];have key:∀ c:Fn,Ker (freeL x).length (vfs (gainR (freeL x).length (rowsR x ms) ms)) c↔∀ k,k<ms.length→dotn (freeL x).length ((lsOf x ms).R k) c=0:=fun c=>by
  rw [ker_iff];refine Iff.trans ?_ ((ls_pos (x:=x) hwt).ker c)
  constructor
  ·intro h i hi
   obtain ⟨r,hr,-,-⟩:=gain_row (M:=rowsR x ms) (ms:=ms) (n:=(freeL x).length) hi;rw [←gain_dot hr];exact h i r hr
  ·intro h i r hr
   rw [gain_dot hr];exact h i (by have:=(zB_.1 hr).1;rwa [gainR_len] at this)
 exact ⟨fun h c hc=>h c ((key c).2 hc),fun h c hc=>h c ((key c).1 hc)⟩
end
section
variable {x:Net} {ms:List Mi}
theorem sol_congr {a b:Fn} (h:(lsOf x ms).Sol a) (he:∀ i,i<(freeL x).length→a i=b i):(lsOf x ms).Sol b:=fun i hi=>by
 rw [←h i hi];exact dotn_congr (fun _ _=>rfl) fun j hj=>(he j hj).symm
theorem est_solF (hr:EReg x ms):(lsOf x ms).Sol (frF x (estR x ms)):=sol_congr (est_sol hr) fun i hi=>(est_fr hi).symm
end
def wtBy (by_:Int) (m:Mi):Mi:={ m with wt:=m.wt*by_ }
theorem formR_wt {x:Net} {m:Mi} {by_:Int}:formR x (wtBy by_ m)=formR x m:=rfl
theorem rowsR_wt {x:Net} {ms:List Mi} {by_:Int}:rowsR x (ms.map (wtBy by_))=rowsR x ms:=by
 unfold rowsR;rw [List.map_map];rfl
section
variable {x:Net} {ms:List Mi} {by_:Int}
theorem wt_reg (h1:∀ m∈ms,1≤m.wt) (hb:1≤by_):EReg x (ms.map (wtBy by_))↔EReg x ms:=by
 have h2:∀ m∈ms.map (wtBy by_),1≤m.wt:=fun m hm=>by
  obtain ⟨m0,h0,rfl⟩:=List.mem_map.1 hm;have:=Int.mul_pos (show 0<m0.wt by have:=h1 m0 h0;omega) (show 0<by_ by omega);show 1≤m0.wt*by_;omega
 rw [ereg_iff h1,ereg_iff h2,List.length_map];have e:∀ k,(lsOf x (ms.map (wtBy by_))).R k=(lsOf x ms).R k:=fun k=>by
  show vf ((rowsR x _).getD k [])=vf ((rowsR x _).getD k []);rw [rowsR_wt]
 simp only [e]
theorem wt_sol {a:Fn} (h:(lsOf x ms).Sol a):(lsOf x (ms.map (wtBy by_))).Sol a:=fun i hi=>by
 have h0:=h i hi;have hK:(lsOf x (ms.map (wtBy by_))).K=(lsOf x ms).K:=List.length_map ..;have hR:∀ k,(lsOf x (ms.map (wtBy by_))).R k=(lsOf x ms).R k:=fun k=>by
  show vf ((rowsR x _).getD k [])=vf ((rowsR x _).getD k []);rw [rowsR_wt]
 have hw:∀ k,k<ms.length→(lsOf x (ms.map (wtBy by_))).w k=(by_:Rat)*(lsOf x ms).w k:=fun k hk=>by
  obtain ⟨m,hm⟩:∃ m,ms[k]?=some m:=⟨_,zA_ hk⟩;rw [ls_w hm,ls_w (m:=wtBy by_ m) (by rw [List.getElem?_map,hm];rfl)];show ((m.wt*by_:Int):Rat)=_;rw [Rat.intCast_mul,Rat.mul_comm]
 have hy:∀ k,k<ms.length→(lsOf x (ms.map (wtBy by_))).y k=(lsOf x ms).y k:=fun k hk=>by
  obtain ⟨m,hm⟩:∃ m,ms[k]?=some m:=⟨_,zA_ hk⟩;rw [ls_y hm,ls_y (m:=wtBy by_ m) (by rw [List.getElem?_map,hm];rfl),formR_wt];rfl
 have hG:∀ i j,(lsOf x (ms.map (wtBy by_))).G i j=(by_:Rat)*(lsOf x ms).G i j:=fun i j=>by
  unfold Ls.G;rw [hK,←sumTo_mul];exact sumTo_congr fun k hk=>by rw [hR,hw k hk];grind
 have hr:(lsOf x (ms.map (wtBy by_))).rt i=(by_:Rat)*(lsOf x ms).rt i:=by
  unfold Ls.rt;rw [hK,←sumTo_mul];exact sumTo_congr fun k hk=>by rw [hR,hw k hk,hy k hk];grind
 rw [hr,←h0,←dotn_mull];exact dotn_congr (fun j _=>hG i j) fun _ _=>rfl
theorem wt_est (h1:∀ m∈ms,1≤m.wt) (hb:1≤by_) (hr:EReg x ms):estR x (ms.map (wtBy by_))=estR x ms:=
 (est_unique ((wt_reg h1 hb).2 hr) est_grd (wt_sol (est_solF hr))).symm
end
section
variable {x:Net} {ms:List Mi}
end
end
section
open Go.ChangeShapes Go.WideShapes Go.ChangeAt Go.RowKit
attribute [local go_sem ↓] execOp_call_val
attribute [local go_sem] callVal_func setCell_drewN alloc_drewN sEq_walk
theorem small_parts {x:Net} {ms:List Mi} (h:smallR x ms []=true):x.nodes.length≤8∧∀ m∈ms,m.txt.size≤maxLen:=by
 unfold smallR at h;simp only [Bool.and_eq_true,decide_eq_true_eq,List.all_eq_true] at h;exact ⟨h.1.1.1,fun m hm=>Nat.le_trans (h.1.2 m hm) (by decide)⟩
theorem rdVc_0 (w:World) (B:Nat):RdVc w B none 0 []:=⟨rfl,⟨rfl,fun h=>absurd h (by decide)⟩,fun v hv=>by cases hv⟩
end
section
open Go.ChangeShapes Go.WideShapes Go.ChangeAt Go.RowKit
attribute [local go_sem ↓] execOp_call_val
attribute [local go_sem] callVal_func setCell_drewN alloc_drewN sEq_walk
theorem mi_wt {x:Net} {m:Mi} {b:Int} (h1:1≤m.wt∧m.wt≤200) (hb:1≤b∧b≤5):miCk x (wtBy b m)=miCk x m:=by
 have h2:1≤m.wt*b:=by have:=Int.mul_pos (show 0<m.wt by omega) (show 0<b by omega);omega
 have h3:m.wt*b≤1000:=by
  have:=Int.mul_le_mul h1.2 hb.2 (by omega) (by decide);omega
 unfold miCk wtBy;dsimp only;rw [if_neg (show ¬(m.wt*b<1∨1000<m.wt*b) by omega),if_neg (show ¬(m.wt<1∨1000<m.wt) by omega)]
theorem mis_wt {x:Net} {b:Int} (hb:1≤b∧b≤5):∀ {ms:List Mi},(∀ m∈ms,1≤m.wt∧m.wt≤200)→misGo x (ms.map (wtBy b))=misGo x ms
 | [],_=>rfl
 | m::r,h=>by
  rw [List.map_cons];unfold misGo;rw [mi_wt (h m (by simp)) hb,mis_wt hb fun a ha=>h a (by simp [ha])]
theorem mt_wt {x:Net} {b:Int} (hb:1≤b∧b≤5) {ms:List Mi} (h:∀ m∈ms,1≤m.wt∧m.wt≤200):mtCk x (ms.map (wtBy b))=mtCk x ms:=by
 unfold mtCk;rw [mis_wt hb h,List.length_map]
theorem wt_code {x:Net} {b c:Int} (hb:1≤b∧b≤5) {ms:List Mi} (h:∀ m∈ms,1≤m.wt∧m.wt≤200) (hc:EstC x (ms.map (wtBy b)) c):EstC x ms c:=by
 unfold EstC at hc ⊢;have h1:∀ m∈ms,1≤m.wt:=fun m hm=>(h m hm).1;rw [mt_wt hb h,wt_reg h1 hb.1] at hc;rcases hc with h2 | h2 | ⟨h2,h3,h4,h5⟩ | ⟨h2,h3,h4,h5⟩
 ·exact .inl h2
 ·exact .inr (.inl h2)
 ·rw [wt_est h1 hb.1 h3] at h4
  exact .inr (.inr (.inl ⟨h2,h3,h4,h5⟩))
 ·rw [wt_est h1 hb.1 h3] at h4
  exact .inr (.inr (.inr ⟨h2,h3,h4,h5⟩))
set_option maxRecDepth 100000 in
set_option maxHeartbeats 8000000 in
theorem eweights_any (h:NetH) (x:Net) (A:Option Addr) (n c:Nat) (ms0:List Mi) (a2:Int) (w:World) (r:RdNet w w.heap.size h x) (hm:RdMi w w.heap.size A n ms0) (hnc:n≤c) (hc:c≤9223372036854775807) (ha:-9223372036854775808≤a2) (hb2:a2≤9223372036854775807) (ht:TabOk w) :
    Calls Tryz.prog 6 #[.agg h.cells,.slice A n c,.int .i64 a2] w fun e w'=>e=.returned (.bool true)∧Below w.heap.size w w':=by
 obtain ⟨k,hk8,hkn,hmin⟩:∃ k:Nat,k≤8∧k≤n∧min (n:Int) 8=(k:Int):=by
  by_cases h:(8:Int)<(n:Int)
  ·exact ⟨8,by omega,by omega,by omega⟩
  ·exact ⟨n,by omega,by omega,by omega⟩
 have hkc:(k:Int)≤(c:Int):=by omega
 have hm1:=hm.take hkn;generalize hms:ms0.take k=ms at *;clear hms hm;have K0:Below w.heap.size w (w.alloc (.cells h.cells 29)):=(Below.refl _ _).alloc lR _;have HK:=lH K0;have P0:=lH (Blk.new w 29 h.cells);have HX:=lH (r.up K0);have HM:=lH ((hm1.below K0 lR).more K0.size);have HT:=lH (ht.up K0);have HML:Hid (ms.length=k):=lH hm1.1;have HSZ:Hid (w.heap.size≤(w.alloc (.cells h.cells 29)).heap.size):=lH K0.size;clear K0 hm1 r ht;obtain ⟨D0,r0,s0,D1,r1,s1,D2,r2,s2,D3,r3,s3,D4,r4,s4,D5,r5,s5⟩:=h;have tm:=tmodB a2 5 (by omega);go_enter Tryz.func6,Tryz.ntmps6
 go_upto_region 2 with fail
 generalize w.alloc (.cells (NetH.cells ⟨D0,r0,s0,D1,r1,s1,D2,r2,s2,D3,r3,s3,D4,r4,s4,D5,r5,s5⟩) 29)=W at *
 go_cut [2] (fun v2 wc=>wc=W∧∃ b:Int,v2=.int .i64 b∧1≤b∧b≤5)
 case first=>
  go_wp2_with fail
  go_meet
  case rel=>exact ⟨rfl,_,rfl,by omega,by omega⟩
 case rest=>
 obtain ⟨rfl,b,rfl,hb0,hb5⟩:=hcut;have HBB:Hid (1≤b∧b≤5):=lH ⟨hb0,hb5⟩;clear tm hmin
 go_wp2_with fail
 refine (eworks_any wc HT.o).mono ?_;rintro e w1 ⟨rfl,hb1⟩;have HK1:=lH (HK.o.trans (hb1.mono HSZ.o));replace P0:=lH (P0.o.below hb1 P0.o.lt);replace HM:=lH ((HM.o.below hb1 lR).more hb1.size);replace HX:=lH (HX.o.up hb1);replace HT:=lH (HT.o.up hb1);clear hb1 HK HSZ;have PNX:=P0.o;obtain ⟨y0,y1,y2,y3,y4,y5,nf,nlt⟩:=net_box PNX;dsimp only at y0 y1 y2 y3 y4 y5;clear PNX
 go_wp2_with fail
 clear y0 y1 y2 y3 y4 y5 nf nlt;refine (small_any _ x A k c ms none 0 0 [] w1 HX.o HM.o (rdVc_0 _ _) (by omega) (by decide)).mono ?_;rintro e w2 ⟨rfl,hb2'⟩;have HB2:=lH (HK1.o.trans (hb2'.mono HK1.o.size));replace P0:=lH (P0.o.below hb2' P0.o.lt);replace HM:=lH ((HM.o.below hb2' lR).more hb2'.size);replace HX:=lH (HX.o.up hb2');replace HT:=lH (HT.o.up hb2');clear hb2';cases hsm:smallR x ms [] with
 | false=>
  go_wp2_with fail
  go_ret;exact ⟨rfl,HB2.o⟩
 | true=>
  obtain ⟨h8,hz⟩:=small_parts hsm;have HZ:=lH hz;clear hsm hz;have hz:Below w2.heap.size w2 (w2.alloc (.cells #[] 57)):=(Below.refl _ _).alloc lR _;have HZW:=lH hz;clear hz
  go_wp2_with (at_builtin;refine wpList_appMi rfl (.tmp 29) (.tmp 30) _ rfl w2.heap.size Tryz.underlying31 (.slice (some ⟨w2.heap.size,0,none⟩) 0 0) [] rfl ownMi_lit0 A k c ms rfl ?k1 ?k2 ?k3 k ?k4 ?_)
  case k1=>exact (HM.o.below HZW.o lR).more HZW.o.size
  case k2=>simp only [List.length_nil];omega
  case k3=>exact HZW.o.size
  case k4=>rw [List.nil_append];exact HML.o
  intro Ay cy w5 ho hb _;have HO5:Hid (OwnMi w5 w2.heap.size (.slice Ay k cy) ms):=lH ho;have HZ5:=lH (HZW.o.trans hb);clear ho hb HZW
  go_wp2_with fail
  go_loopw [34] (fun v34 wr=>∃ i:Nat,i≤k∧v34=.int .i64 i∧OwnMi wr w2.heap.size (.slice Ay k cy) ((ms.take i).map (wtBy b)++ms.drop i)∧(∀ m∈ms.take i,1≤m.wt∧m.wt≤200)∧Below w2.heap.size w2 wr) (fun v34 _=>k-(intOf v34).toNat)
  case atStart=>exact ⟨0,by omega,rfl,HO5.o,fun m hm=>by simp at hm,HZ5.o⟩
  case round=>
   clear HO5 HZ5;obtain ⟨i,hi,rfl,ho,hw,hb⟩:=hrel;have HO:=lH ho;have HW:=lH hw;have HB:=lH hb;clear ho hw hb
   by_cases hlt:i<k
   ·obtain ⟨mi,hmi⟩:∃ mi,ms[i]?=some mi:=⟨_,zA_ (by have:=HML.o;omega)⟩
    have hmi2:((ms.take i).map (wtBy b)++ms.drop i)[i]?=some mi:=by
     rw [List.getElem?_append_right (by rw [List.length_map,List.length_take];omega),List.length_map,List.length_take,List.getElem?_drop,show i+(i-min i ms.length)=i from by have:=HML.o;omega];exact hmi
    have HTK:Hid (ms.take (i+1)=ms.take i++[mi]):=lH (take_at hmi);obtain ⟨g,hA,hgb,hgl,c0,c1,c2,c3,cf,hput⟩:=HO.o.at_ hmi2;subst hA;have HPUT:=lH hput;have HGB:=lH hgb;have HMI:=lH hmi;have hkI:(i:Int)<(k:Int):=by omega
    have hk0:(0:Int)≤(i:Int):=by omega
    have hkn:(i:Int).toNat=i:=Int.toNat_natCast i;have HNX:Hid ((i:Int)+1=((i+1:Nat):Int)):=lH (by omega);have HNM:Hid (k-(i+1)<k-i):=lH (by omega);clear c0 c1 c2 hput hmi2 hgb
    by_cases hw1:mi.wt<1
    ·have hw1b:decide (mi.wt<1)=true:=decide_eq_true hw1
     go_wp2_with fail
     go_ret;exact ⟨rfl,HB2.o.trans (HB.o.mono HB2.o.size)⟩
    ·have hw1b:decide (mi.wt<1)=false:=decide_eq_false hw1
     by_cases hw2:200<mi.wt
     ·have hw2b:decide (200<mi.wt)=true:=decide_eq_true hw2
      go_wp2_with fail
      go_ret;exact ⟨rfl,HB2.o.trans (HB.o.mono HB2.o.size)⟩
     ·have hw2b:decide (200<mi.wt)=false:=decide_eq_false hw2
      have hm1:1≤mi.wt*b:=by have:=Int.mul_pos (show 0<mi.wt by omega) (show 0<b by omega);omega
      have hm2:mi.wt*b≤1000:=by
       have:=Int.mul_le_mul (show mi.wt≤200 by omega) hb5 (by omega) (by decide);omega
      have HWI:Hid (1≤mi.wt∧mi.wt≤200):=lH ⟨by omega,by omega⟩;have hwr:IntKind.i64.wrap (mi.wt*b)=mi.wt*b:=IntWalk.i64_in _ (by omega);generalize hmb:mi.wt*b=mb at *
      go_wp2_with fail
      go_roundw
      case rel=>exact ⟨i+1,hlt,val_int HNX.o,by
       have h:=HPUT.o 3 (.int .i64 mb) (wtBy b mi) (by decide) (by rw [←hmb];rfl);have e:((ms.take i).map (wtBy b)++ms.drop i).set i (wtBy b mi)=(ms.take (i+1)).map (wtBy b)++ms.drop (i+1):=by
        have hl:((ms.take i).map (wtBy b)).length=i:=by rw [List.length_map,List.length_take];have:=HML.o;omega
        rw [List.set_append_right _ _ (by omega),hl,Nat.sub_self,HTK.o,List.map_append,List.map_singleton,List.append_assoc];congr 1
        rw [List.drop_eq_getElem_cons (by have:=HML.o;omega)];rfl
       rw [←e];exact h,fun m hm=>by
       rw [HTK.o] at hm;rcases List.mem_append.1 hm with h | h
       ·exact HW.o m h
       ·rw [List.mem_singleton.1 h];exact HWI.o,HB.o.setCell HGB.o _⟩
      case measure=>exact HNM.o
   ·have hie:i=k:=by omega
    have HOE:Hid (OwnMi wr w2.heap.size (.slice Ay k cy) (ms.map (wtBy b))):=lH (by
     have h:=HO.o;rw [List.take_of_length_le (by have:=HML.o;omega),List.drop_eq_nil_iff.2 (by have:=HML.o;omega),List.append_nil] at h;exact h)
    have HWE:Hid (∀ m∈ms,1≤m.wt∧m.wt≤200):=lH (by
     have h:=HW.o;rw [List.take_of_length_le (by have:=HML.o;omega)] at h;exact h)
    have hkI:¬(i:Int)<(k:Int):=by omega
    have HBr:=lH (HB2.o.trans (HB.o.mono HB2.o.size));have P0r:=lH (P0.o.below HB.o P0.o.lt);have HMr:=lH ((HM.o.below HB.o lR).more HB.o.size);have HM2:=lH HOE.o.rd2.1;have HXr:=lH (HX.o.up HB.o);have HTr:=lH (HT.o.up HB.o);have HZ2:Hid (∀ m∈ms.map (wtBy b),m.txt.size≤maxLen):=lH fun m hm=>by
     obtain ⟨m0,h0,rfl⟩:=List.mem_map.1 hm;exact HZ.o m0 h0
    clear HO HW HB HOE hie;have PNX:=P0r.o;obtain ⟨y0,y1,y2,y3,y4,y5,nf,nlt⟩:=net_box PNX;dsimp only at y0 y1 y2 y3 y4 y5;clear PNX
    go_wp2_with fail
    clear y0 y1 y2 y3 y4 y5 nf nlt;refine (angles_any _ x h8 A k c ms wr HXr.o HMr.o HZ.o (by omega) HTr.o).mono ?_;rintro e w6 ⟨hb6,hc6⟩;have HB6:=lH (HBr.o.trans (hb6.mono HBr.o.size));have P06:=lH (P0r.o.below hb6 P0r.o.lt);have HM6:=lH ((HM2.o.below hb6 lR).more hb6.size);have HX6:=lH (HXr.o.up hb6);have HT6:=lH (HTr.o.up hb6);have HC6:=lH hc6;clear hb6 hc6 HBr P0r HMr HM2 HXr HTr;obtain ⟨A6,n6,c6,d6,ss6,he6,hec6,hrd6,hss6,hn6⟩:∃ (A6:Option Addr) (n6 c6:Nat) (d6:Int) (ss6:List ByteArray),e=.returned (.tuple #[.slice A6 n6 c6,.int .i64 d6])∧EstC x ms d6∧RdStr w6 w6.heap.size A6 n6 ss6∧ss6=(if d6=0 then (estR x ms).map txtQ else [])∧n6≤9223372036854775807:=by
     rcases HC6.o with ⟨d,hd,h1,h2⟩ | ⟨h1,A9,n9,c9,h2,h3,h4,h5⟩
     ·exact ⟨none,0,0,d,[],h2,h1,⟨rfl,rfl,fun h=>absurd h (by decide)⟩,by rw [if_neg hd],by decide⟩
     ·exact ⟨A9,n9,c9,0,_,h2,h1,h3,by rw [if_pos rfl],by unfold maxLen at h5;omega⟩
    subst he6;have HEC6:=lH hec6;have HRD6:=lH hrd6;have HSS6:=lH hss6;have HN6:=lH hn6;clear hec6 hrd6 hss6 hn6 HC6;have PNX:=P06.o;obtain ⟨y0,y1,y2,y3,y4,y5,nf,nlt⟩:=net_box PNX;dsimp only at y0 y1 y2 y3 y4 y5;clear PNX
    go_wp2_with fail
    clear y0 y1 y2 y3 y4 y5 nf nlt;refine (angles_any _ x h8 Ay k cy (ms.map (wtBy b)) w6 HX6.o HM6.o HZ2.o (by omega) HT6.o).mono ?_;rintro e w7 ⟨hb7,hc7⟩;have HB7:=lH (HB6.o.trans (hb7.mono HB6.o.size));replace HRD6:=lH ((HRD6.o.below hb7 lR).more hb7.size);have HC7:=lH hc7;clear hb7 hc7 HB6 P06 HM6 HX6 HT6;obtain ⟨A7,n7,c7,ss7,he7,hrd7,hss7,hn7⟩:∃ (A7:Option Addr) (n7 c7:Nat) (ss7:List ByteArray),e=.returned (.tuple #[.slice A7 n7 c7,.int .i64 d6])∧RdStr w7 w7.heap.size A7 n7 ss7∧ss6=ss7∧n7≤9223372036854775807:=by
     rcases HC7.o with ⟨d,hd,h1,h2⟩ | ⟨h1,A9,n9,c9,h2,h3,h4,h5⟩
     ·have hd6:d=d6:=(wt_code HBB.o HWE.o h1).one HEC6.o
      subst hd6;exact ⟨none,0,0,[],h2,⟨rfl,rfl,fun h=>absurd h (by decide)⟩,by rw [HSS6.o,if_neg hd],by decide⟩
     ·have h6:=wt_code HBB.o HWE.o h1
      have hd6:(0:Int)=d6:=h6.one HEC6.o;subst hd6;obtain ⟨-,hr,-⟩:=h6.zero rfl;exact ⟨A9,n9,c9,_,h2,h3,by rw [HSS6.o,if_pos rfl,wt_est (fun m hm=>(HWE.o m hm).1) HBB.o.1 hr],by unfold maxLen at h5;omega⟩
    subst he7;subst hss7;have HRD7:=lH hrd7;clear hrd7 HC7 HSS6 HEC6;have hdd:(d6 == d6)=true:=by simp
    go_wp2_with fail
    refine (samevec_any A6 n6 c6 ss6 A7 n7 c7 ss6 w7 HRD6.o HRD7.o HN6.o hn7).mono ?_;rintro e w8 ⟨rfl,hb8⟩;rw [decide_eq_true rfl];have HB8:=lH (HB7.o.trans (hb8.mono HB7.o.size));clear hb8
    go_wp2_with fail
    go_ret;exact ⟨rfl,HB8.o⟩
end
end Go.Proofs.YthgdchffeigkbaaGreatDoor
