import Derived.Test.YthgdchffeigkbaaGreatDoorU44
import Derived.Test.YthgdchffeigkbaaGreatDoorU46
set_option linter.unusedVariables false
set_option linter.unusedSimpArgs false
namespace Go.Proofs.YthgdchffeigkbaaGreatDoor
section
open Go.ChangeShapes Go.WideShapes Go.ChangeAt Go.RowKit
attribute [local go_sem ↓] execOp_call_val
attribute [local go_sem] callVal_func setCell_drewN alloc_drewN sEq_walk
theorem ex_mt {x:Net} {al:List Rat}:∀ {ms:List Mi},(∀ m∈ms,Fits (mval x al m))→misGo x ms=0→misGo x (ms.map (exMi x al))=0
 | [],_,_=>rfl
 | m::r,h,h0=>by
  have h1:=misGo_ok h0 m (by simp);rw [List.map_cons];unfold misGo at h0 ⊢;rw [if_pos h1] at h0;have h2:=(txt_valid (h m (by simp))).1;have h3:miCk x (exMi x al m)=0:=by
   unfold miCk at h1 ⊢;unfold exMi;dsimp only
   split at h1
   ·omega
   ·rename_i a1
    split at h1
    ·omega
    ·rename_i a2
     split at h1
     ·exact absurd h1 (by assumption)
     ·split at h1
      ·omega
      ·rename_i a4
       rw [if_neg a1,if_neg a2,if_neg (fun e=>e h2),if_neg a4]
  rw [if_pos h3];exact ex_mt (fun a ha=>h a (by simp [ha])) h0
theorem ex_ck {x:Net} {al:List Rat} {ms:List Mi} (hf:∀ m∈ms,Fits (mval x al m)) (h:mtCk x ms=0):mtCk x (ms.map (exMi x al))=0:=by
 unfold mtCk at h ⊢
 split at h
 ·exact absurd h (by assumption)
 ·rename_i h1
  split at h
  ·omega
  ·rename_i h2
   rw [if_neg h1,List.length_map,if_neg h2];exact ex_mt hf h
theorem ex_law {x:Net} {al:List Rat} {ms:List Mi} (hf:∀ m∈ms,Fits (mval x al m)) (hc:mtCk x ms=0) (hg:Grd x al) (hr:EReg x (ms.map (exMi x al))):estR x (ms.map (exMi x al))=al∧costR x (ms.map (exMi x al)) al=0:=by
 obtain ⟨ok,-,hm⟩:=mtCk_ok (ex_ck hf hc);exact exact_est ok hm hr hg fun m hm=>by
  obtain ⟨m0,h0,rfl⟩:=List.mem_map.1 hm;exact (txt_valid (hf m0 h0)).2
theorem mvals_fit {x:Net} {ms:List Mi} {ss:List ByteArray} (h:∀ q∈mvals x ms ss,Fits q):∀ m∈ms,Fits (mval x (ss.map qOf) m):=fun m hm=>h _ (List.mem_map.2 ⟨m,hm,rfl⟩)
theorem back_all {ss:List ByteArray} (h:∀ s∈ss,ratCk s.data.toList=0):(ss.map qOf).map txtQ=ss:=by
 rw [List.map_map]
 conv=>rhs;rw [←List.map_id ss]
 exact List.map_congr_left fun s hs=>txt_back (h s hs)
theorem exMi_sz {x:Net} {al:List Rat} {ms:List Mi} (hf:∀ m∈ms,Fits (mval x al m)):∀ m∈ms.map (exMi x al),m.txt.size≤maxLen:=fun m hm=>by
 obtain ⟨m0,h0,rfl⟩:=List.mem_map.1 hm;exact txt_mx (hf m0 h0)
set_option maxRecDepth 100000 in
set_option maxHeartbeats 8000000 in
theorem eexact_any (h:NetH) (x:Net) (A:Option Addr) (n c:Nat) (ms0:List Mi) (B:Option Addr) (q d:Nat) (ss:List ByteArray) (w:World) (r:RdNet w w.heap.size h x) (hm:RdMi w w.heap.size A n ms0) (hR:RdStr w w.heap.size B q ss) (hnc:n≤c) (hc:c≤9223372036854775807) (hq:q*16≤140737488355328) (ht:TabOk w) :
    Calls Tryz.prog 9 #[.agg h.cells,.slice A n c,.slice B q d] w fun e w'=>e=.returned (.bool true)∧Below w.heap.size w w':=by
 obtain ⟨k,hk8,hkn,hmin⟩:∃ k:Nat,k≤8∧k≤n∧min (n:Int) 8=(k:Int):=by
  by_cases h:(8:Int)<(n:Int)
  ·exact ⟨8,by omega,by omega,by omega⟩
  ·exact ⟨n,by omega,by omega,by omega⟩
 have hkc:(k:Int)≤(c:Int):=by omega
 have hm1:=hm.take hkn;generalize hms:ms0.take k=ms at *;clear hms hm;have K0:Below w.heap.size w (w.alloc (.cells h.cells 29)):=(Below.refl _ _).alloc lR _;have HK:=lH K0;have P0:=lH (Blk.new w 29 h.cells);have HX:=lH (r.up K0);have HM:=lH ((hm1.below K0 lR).more K0.size);have HS:=lH ((hR.below K0 lR).more K0.size);have HT:=lH (ht.up K0);have HML:Hid (ms.length=k):=lH hm1.1;have HSL:Hid (ss.length=q):=lH hR.1;have HSZ:Hid (w.heap.size≤(w.alloc (.cells h.cells 29)).heap.size):=lH K0.size;clear K0 hm1 r ht hR;obtain ⟨D0,r0,s0,D1,r1,s1,D2,r2,s2,D3,r3,s3,D4,r4,s4,D5,r5,s5⟩:=h;go_enter Tryz.func9,Tryz.ntmps9
 go_wp2_with fail
 generalize w.alloc (.cells (NetH.cells ⟨D0,r0,s0,D1,r1,s1,D2,r2,s2,D3,r3,s3,D4,r4,s4,D5,r5,s5⟩) 29)=W at *;refine (eworks_any W HT.o).mono ?_;rintro e w0 ⟨rfl,hb0⟩;have HB0:=lH (HK.o.trans (hb0.mono HSZ.o));replace P0:=lH (P0.o.below hb0 P0.o.lt);replace HM:=lH ((HM.o.below hb0 lR).more hb0.size);replace HS:=lH ((HS.o.below hb0 lR).more hb0.size);replace HX:=lH (HX.o.up hb0);replace HT:=lH (HT.o.up hb0);clear hb0;clear HK HSZ
 go_wp2_with fail
 refine (mworks_any w0 HT.o).mono ?_;rintro e w1 ⟨rfl,hb1⟩;have HB1:=lH (HB0.o.trans (hb1.mono HB0.o.size));replace P0:=lH (P0.o.below hb1 P0.o.lt);replace HM:=lH ((HM.o.below hb1 lR).more hb1.size);replace HS:=lH ((HS.o.below hb1 lR).more hb1.size);replace HX:=lH (HX.o.up hb1);replace HT:=lH (HT.o.up hb1);clear hb1;have PNX:=P0.o;obtain ⟨y0,y1,y2,y3,y4,y5,nf,nlt⟩:=net_box PNX;dsimp only at y0 y1 y2 y3 y4 y5;clear PNX
 go_wp2_with fail
 clear y0 y1 y2 y3 y4 y5 nf nlt;have hz:Below w1.heap.size w1 (w1.alloc (.cells #[.slice B q d] 35)):=(Below.refl _ _).alloc lR _;have HVC:=lH (rdVc_v (T:=35) (c:=d) HS.o (by omega));have HB1b:=lH (HB1.o.trans (hz.mono HB1.o.size));replace P0:=lH (P0.o.below hz P0.o.lt);replace HM:=lH ((HM.o.below hz lR).more hz.size);replace HS:=lH ((HS.o.below hz lR).more hz.size);replace HX:=lH (HX.o.up hz);replace HT:=lH (HT.o.up hz);clear hz;generalize w1.alloc (.cells #[.slice B q d] 35)=w1b at *;refine (small_any _ x A k c ms _ 1 1 [⟨B,q,d,ss⟩] w1b HX.o HM.o HVC.o (by omega) (by decide)).mono ?_;rintro e w2 ⟨rfl,hb2⟩;have HB2:=lH (HB1b.o.trans (hb2.mono HB1b.o.size));replace P0:=lH (P0.o.below hb2 P0.o.lt);replace HM:=lH ((HM.o.below hb2 lR).more hb2.size);replace HS:=lH ((HS.o.below hb2 lR).more hb2.size);replace HX:=lH (HX.o.up hb2);replace HT:=lH (HT.o.up hb2);clear hb2;clear HVC
 cases hsm:smallR x ms [⟨B,q,d,ss⟩] with
 | false=>
  go_wp2_with fail
  go_ret;exact ⟨rfl,HB2.o⟩
 | true=>
  obtain ⟨h8,h10,hz,hs24⟩:=small_all hsm;have HZ:=lH hz;have HSM:Hid (∀ s∈ss,s.size≤maxLen):=lH fun s hs=>Nat.le_trans (hs24 s hs) (by decide);clear hsm hz hs24 h10;have PNX:=P0.o;obtain ⟨y0,y1,y2,y3,y4,y5,nf,nlt⟩:=net_box PNX;dsimp only at y0 y1 y2 y3 y4 y5;clear PNX
  go_wp2_with fail
  clear y0 y1 y2 y3 y4 y5 nf nlt;refine (free_any _ x h8 w2 HX.o).mono ?_;rintro e w3 ⟨hb3,hfr⟩;have HB3:=lH (HB2.o.trans (hb3.mono HB2.o.size));replace P0:=lH (P0.o.below hb3 P0.o.lt);replace HM:=lH ((HM.o.below hb3 lR).more hb3.size);replace HS:=lH ((HS.o.below hb3 lR).more hb3.size);replace HX:=lH (HX.o.up hb3);replace HT:=lH (HT.o.up hb3);clear hb3;obtain ⟨A3,c3,F3,e3,hF3,hrd3,he3⟩:∃ (A3:Option Addr) (c3:Nat) (F3:List Nat),e=.returned (.tuple #[.slice A3 F3.length c3,.int .i64 (netCk x)])∧(netCk x=0→F3=freeL x)∧RdI w3 w3.heap.size A3 F3.length (natJ F3)∧F3.length≤8:=by
   rcases hfr with ⟨h1,rfl⟩ | ⟨h1,A3,c3,rfl,h3⟩
   ·exact ⟨none,0,[],rfl,fun h=>absurd h h1,⟨rfl,fun h=>absurd h (by decide)⟩,by decide⟩
   ·exact ⟨A3,c3,freeL x,by rw [h1],fun _=>rfl,h3,freeL_len (netCk_ok h1) h8⟩
  subst e3;have HF3:=lH hF3;have HI3:=lH hrd3;clear hfr hF3 hrd3;have hz:Below w3.heap.size w3 (w3.alloc (.cells #[] 55)):=(Below.refl _ _).alloc lR _;have HZW:=lH hz;clear hz;have HQ9:=lH hq
  go_wp2_with (at_builtin;refine wpList_appSt rfl (.tmp 39) (.tmp 40) _ rfl w3.heap.size Tryz.underlying35 (.slice (some ⟨w3.heap.size,0,none⟩) 0 0) [] rfl ownSt_lit0 B q d ss rfl ?k1 ?k2 ?k3 q ?k4 ?_)
  case k1=>exact (HS.o.below HZW.o lR).more HZW.o.size
  case k2=>simp only [List.length_nil];omega
  case k3=>exact HZW.o.size
  case k4=>rw [List.nil_append];exact HSL.o
  intro Ay cy w5 ho hb;have HO5:Hid (OwnSt w5 w3.heap.size (.slice Ay q cy) ss):=lH ho;have HZ5:=lH (HZW.o.trans hb);clear ho hb HZW
  go_wp2_with fail
  go_loopw [44] (fun v44 wr=>∃ i:Nat,i≤q∧v44=.int .i64 i∧OwnSt wr w3.heap.size (.slice Ay q cy) ((gndL F3 ss).take i++ss.drop i)∧Below w3.heap.size w3 wr) (fun v44 _=>q-(intOf v44).toNat)
  case atStart=>exact ⟨0,by omega,rfl,HO5.o,HZ5.o⟩
  case round=>
   clear HO5 HZ5;obtain ⟨i,hi,rfl,ho,hb⟩:=hrel;have HO:=lH ho;have HB:=lH hb;clear ho hb
   by_cases hlt:i<q
   ·obtain ⟨si,hsi⟩:∃ si,ss[i]?=some si:=⟨_,zA_ (by have:=HSL.o;omega)⟩
    have hgl:((gndL F3 ss).take i).length=i:=by rw [List.length_take,gndL_len];have:=HSL.o;omega
    have hsi2:((gndL F3 ss).take i++ss.drop i)[i]?=some si:=by
     rw [List.getElem?_append_right (by omega),hgl,Nat.sub_self,List.getElem?_drop];exact hsi
    have HST:=lH (gnd_step (F:=F3) hsi);have HSI:=lH hsi;have HGL:=lH hgl;have hqq:=HQ9.o;have hkI:(i:Int)<(q:Int):=by omega
    have hk0:(0:Int)≤(i:Int):=by omega
    have hkn:(i:Int).toNat=i:=Int.toNat_natCast i;have HNX:Hid ((i:Int)+1=((i+1:Nat):Int)):=lH (by omega);have HNM:Hid (q-(i+1)<q-i):=lH (by omega);have HIr:=lH ((HI3.o.below HB.o lR).more HB.o.size);have HSET:Hid (ss.drop i=si::ss.drop (i+1)):=lH (by
     rw [List.drop_eq_getElem_cons (by have:=HSL.o;omega)];rw [zA_ (by have:=HSL.o;omega)] at hsi;injection hsi with hsi;rw [hsi])
    have HO2:=lH (HO.o.at_ hsi2);clear hsi hsi2 hgl hkI hk0 hkn
    go_upto_region 11 with fail
    go_wp2_with fail
    refine (hasInt_any A3 F3.length c3 (natJ F3) (i:Int) wr HIr.o (by omega)).mono ?_;rintro e w6 ⟨rfl,rfl⟩;cases hany:(natJ F3).any (· == (i:Int)) with
    | true=>
     have HE:Hid ((gndL F3 ss).take (i+1)++ss.drop (i+1)=(gndL F3 ss).take i++ss.drop i):=lH (by rw [HST.o,hany,if_pos rfl,HSET.o,List.append_assoc];rfl);have hkI:(i:Int)<(q:Int):=by omega
     go_wp2_with fail
     go_roundw
     case rel=>exact ⟨i+1,hlt,val_int HNX.o,by rw [HE.o];exact HO.o,HB.o⟩
     case measure=>exact HNM.o
    | false=>
     obtain ⟨g,hA,hgb,hgl,c0,cf,hput⟩:=HO2.o;subst hA;have HPUT:=lH (hput ⟨#[48]⟩);have HGB:=lH hgb;have HE:Hid ((gndL F3 ss).take (i+1)++ss.drop (i+1)=((gndL F3 ss).take i++ss.drop i).set i ⟨#[48]⟩):=lH (by
      rw [HST.o,hany,if_neg (by decide),HSET.o,List.set_append_right _ _ (by rw [HGL.o];exact lR),HGL.o,Nat.sub_self,List.append_assoc];rfl)
     have hkI:(i:Int)<(q:Int):=by omega
     have hk0:(0:Int)≤(i:Int):=by omega
     have hkn:(i:Int).toNat=i:=Int.toNat_natCast i;clear hput hgb HO2
     go_wp2_with fail
     go_roundw
     case rel=>exact ⟨i+1,hlt,val_int HNX.o,by rw [HE.o];exact HPUT.o,HB.o.setCell HGB.o _⟩
     case measure=>exact HNM.o
   ·have hie:i=q:=by omega
    have HOE:Hid (OwnSt wr w3.heap.size (.slice Ay q cy) (gndL F3 ss)):=lH (by
     have h:=HO.o;rw [List.take_of_length_le (by rw [gndL_len];have:=HSL.o;omega),List.drop_eq_nil_iff.2 (by have:=HSL.o;omega),List.append_nil] at h;exact h)
    have hkI:¬(i:Int)<(q:Int):=by omega
    have hb:=HB.o;have HBr:=lH (HB3.o.trans (hb.mono HB3.o.size));replace P0:=lH (P0.o.below hb P0.o.lt);replace HM:=lH ((HM.o.below hb lR).more hb.size);replace HS:=lH ((HS.o.below hb lR).more hb.size);replace HX:=lH (HX.o.up hb);replace HT:=lH (HT.o.up hb);clear hb;have HG:=lH HOE.o.rd;have HGL:Hid ((gndL F3 ss).length=q):=lH (by rw [gndL_len];exact HSL.o);have HGZ:Hid (∀ s∈gndL F3 ss,s.size≤maxLen):=lH fun s hs=>by
     obtain ⟨j,hj⟩:=List.mem_iff_getElem?.1 hs;obtain ⟨t,ht⟩:∃ t,ss[j]?=some t:=⟨_,zA_ (by have:=(zB_.1 hj).1;rwa [gndL_len] at this)⟩;rw [gndL_at ht] at hj;injection hj with hj;rw [←hj]
     split
     ·exact HSM.o t (zC_ ht)
     ·show (⟨#[48]⟩:ByteArray).size≤maxLen;unfold maxLen;decide+kernel
    clear HO HB HOE hie HI3 HB3;have PNX:=P0.o;obtain ⟨y0,y1,y2,y3,y4,y5,nf,nlt⟩:=net_box PNX;dsimp only at y0 y1 y2 y3 y4 y5;clear PNX
    go_wp2_with fail
    clear y0 y1 y2 y3 y4 y5 nf nlt;refine (mexact_any _ x h8 A k c ms Ay q cy (gndL F3 ss) wr HX.o HM.o HG.o HZ.o HGZ.o (by omega) (by have:=HQ9.o;omega) HT.o).mono ?_;rintro e w6 ⟨hb6,hex⟩;have HB6:=lH (HBr.o.trans (hb6.mono HBr.o.size));replace P0:=lH (P0.o.below hb6 P0.o.lt);replace HG:=lH ((HG.o.below hb6 lR).more hb6.size);replace HX:=lH (HX.o.up hb6);replace HT:=lH (HT.o.up hb6);clear hb6;generalize hog:gndL F3 ss=og at *;obtain ⟨Am,nm,cm,msm,fc,he6,hrm,hfc0,hfc1,hfc2,hszm,hnm⟩:∃ (Am:Option Addr) (nm cm:Nat) (msm:List Mi) (fc:Int),e=.returned (.tuple #[.slice Am nm cm,.int .i64 fc])∧RdMi w6 w6.heap.size Am nm msm∧(fc=0→msm=ms.map (exMi x (og.map qOf)))∧(fc=0→readE x ms og=0∧∀ p∈mvals x ms og,Fits p)∧(netCk x≠0→fc≠0)∧(∀ m∈msm,m.txt.size≤maxLen)∧nm≤8:=by
     have hnz:mtCk x ms≠0→readE x ms og≠0:=fun h e=>h (readE_parts e).1;have hnk:netCk x≠0→readE x ms og≠0:=fun h=>hnz (fun e=>h (mtCk_parts e).1);rcases hex with ⟨h1,rfl⟩ | ⟨h1,h2,h3⟩
     ·exact ⟨none,0,0,[],_,rfl,⟨rfl,rfl,fun h=>absurd h (by decide)⟩,fun h=>absurd h h1,fun h=>absurd h h1,fun _=>h1,fun m hm=>(by cases hm),by decide⟩
     ·by_cases hf:∀ p∈mvals x ms og,Fits p
      ·obtain ⟨A6,c6,rfl,ho6⟩:=h2 hf
       exact ⟨A6,ms.length,c6,_,0,rfl,by have h:=ho6.rd2.1;exact h,fun _=>rfl,fun _=>⟨h1,hf⟩,fun h=>absurd h1 (hnk h),exMi_sz (mvals_fit hf),by have:=HML.o;omega⟩
      ·obtain rfl:=h3 hf
       exact ⟨none,0,0,[],2,rfl,⟨rfl,rfl,fun h=>absurd h (by decide)⟩,fun h=>absurd h (by decide),fun h=>absurd h (by decide),fun _=>by decide,fun m hm=>(by cases hm),by decide⟩
    subst he6;have HRM:=lH hrm;have HF0:=lH hfc0;have HF1:=lH hfc1;have HF2:=lH hfc2;have HSZM:=lH hszm;clear hex hrm hfc0 hfc1 hfc2 hszm HM HS;have PNX:=P0.o;obtain ⟨y0,y1,y2,y3,y4,y5,nf,nlt⟩:=net_box PNX;dsimp only at y0 y1 y2 y3 y4 y5;clear PNX
    go_wp2_with fail
    clear y0 y1 y2 y3 y4 y5 nf nlt;refine (angles_any _ x h8 Am nm cm msm w6 HX.o HRM.o HSZM.o (by omega) HT.o).mono ?_;rintro e w7 ⟨hb7,hc7⟩;have HB7:=lH (HB6.o.trans (hb7.mono HB6.o.size));replace P0:=lH (P0.o.below hb7 P0.o.lt);replace HG:=lH ((HG.o.below hb7 lR).more hb7.size);replace HRM:=lH ((HRM.o.below hb7 lR).more hb7.size);replace HX:=lH (HX.o.up hb7);replace HT:=lH (HT.o.up hb7);clear hb7;obtain ⟨A7,n7,c7,d7,ss7,he7,hec7,hrd7,hss7,hn7⟩:∃ (A7:Option Addr) (n7 c7:Nat) (d7:Int) (ss7:List ByteArray),e=.returned (.tuple #[.slice A7 n7 c7,.int .i64 d7])∧EstC x msm d7∧RdStr w7 w7.heap.size A7 n7 ss7∧ss7=(if d7=0 then (estR x msm).map txtQ else [])∧n7≤9223372036854775807:=by
     rcases hc7 with ⟨d,hd,h1,h2⟩ | ⟨h1,A9,n9,c9,h2,h3,h4,h5⟩
     ·exact ⟨none,0,0,d,[],h2,h1,⟨rfl,rfl,fun h=>absurd h (by decide)⟩,by rw [if_neg hd],by decide⟩
     ·exact ⟨A9,n9,c9,0,_,h2,h1,h3,by rw [if_pos rfl],by unfold maxLen at h5;omega⟩
    subst he7;have HEC:=lH hec7;have HRD7:=lH hrd7;have HSS7:=lH hss7;have HN7:=lH hn7;clear hc7 hec7 hrd7 hss7
    by_cases hnc0:netCk x=0
    ·by_cases hfc:fc=0
     ·by_cases hd7:d7=0
      ·subst hd7
       subst hfc;obtain ⟨hre,hfit⟩:=HF1.o rfl;have hmsm:=HF0.o rfl;subst hmsm;obtain ⟨hck,hol,hov⟩:=readE_parts hre;obtain ⟨hck2,hreg,hfe⟩:=HEC.o.zero rfl;have hgr:Grd x (og.map qOf):=by
        rw [←hog,HF3.o hnc0];exact gnd_grd (by rw [←gndL_len (F:=F3) (ss:=ss),hog];exact hol)
       obtain ⟨hest,hcost⟩:=ex_law (mvals_fit hfit) hck hgr hreg;have hss:ss7=og:=by rw [HSS7.o,if_pos rfl,hest];exact back_all hov
       subst hss;have HRE:Hid (readE x (ms.map (exMi x (ss7.map qOf))) ss7=0):=lH (by
        unfold readE angE;rw [if_neg (fun h=>h hck2),if_neg (by omega)];exact ckAllR_ok.2 hov)
       have HCO:Hid (costR x (ms.map (exMi x (ss7.map qOf))) (ss7.map qOf)=0):=lH hcost;rw [hnc0];clear hre hfit hck hol hov hck2 hreg hfe hgr hest hcost hog;have PNX:=P0.o;obtain ⟨y0,y1,y2,y3,y4,y5,nf,nlt⟩:=net_box PNX;dsimp only at y0 y1 y2 y3 y4 y5;clear PNX
       go_wp2_with fail
       clear y0 y1 y2 y3 y4 y5 nf nlt;refine (ecost_any _ x h8 Am nm cm (ms.map (exMi x (ss7.map qOf))) A7 n7 c7 ss7 w7 HX.o HRM.o HRD7.o HSZM.o HGZ.o (by omega) HN7.o HT.o).mono ?_;rintro e w8 ⟨hb8,hc8⟩;have he8:e=.returned (.tuple #[.string ⟨#[48]⟩,.int .i64 0]):=by
        rcases hc8 with ⟨h1,-⟩ | ⟨-,h1,-⟩
        ·exact absurd HRE.o h1
        ·have h2:=h1 (by rw [HCO.o];exact fits_s (by decide+kernel))
         rw [HCO.o,es_txt.1] at h2;exact h2
       subst he8;have HB8:=lH (HB7.o.trans (hb8.mono HB7.o.size));replace HG:=lH ((HG.o.below hb8 lR).more hb8.size);replace HRD7:=lH ((HRD7.o.below hb8 lR).more hb8.size);clear hb8;clear hc8
       go_wp2_with fail
       refine (samevec_any A7 n7 c7 ss7 Ay q cy ss7 w8 HRD7.o HG.o HN7.o (by have:=HQ9.o;omega)).mono ?_;rintro e w9 ⟨rfl,hb9⟩;rw [decide_eq_true rfl];have HB9:=lH (HB8.o.trans (hb9.mono HB8.o.size));clear hb9
       go_wp2_with fail
       go_ret;exact ⟨rfl,HB9.o⟩
      ·have hB:(d7 != 0)=true:=by simp [hd7]
       have hn0:n7=0:=by rw [←HRD7.o.1,HSS7.o,if_neg hd7];rfl
       subst hn0;subst hfc;rw [hnc0]
       go_wp2_with fail
       go_ret;exact ⟨rfl,HB7.o⟩
     ·have hB:(fc != 0)=true:=by simp [hfc]
      have hB2:(fc == 0)=false:=by simp [hfc]
      rw [hnc0]
      by_cases hn0:n7=0
      ·subst hn0
       go_wp2_with fail
       go_ret;exact ⟨rfl,HB7.o⟩
      ·have hn0b:((n7:Int) == 0)=false:=by simp;omega
       go_wp2_with fail
       go_ret;exact ⟨rfl,HB7.o⟩
    ·have hB0:(netCk x != 0)=true:=by simp [hnc0]
     have hfc:=HF2.o hnc0;have hB:(fc != 0)=true:=by simp [hfc]
     by_cases hn0:n7=0
     ·subst hn0
      go_wp2_with fail
      go_ret;exact ⟨rfl,HB7.o⟩
     ·have hn0b:((n7:Int) == 0)=false:=by simp;omega
      go_wp2_with fail
      go_ret;exact ⟨rfl,HB7.o⟩
end
end Go.Proofs.YthgdchffeigkbaaGreatDoor
