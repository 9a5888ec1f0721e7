import Derived.Test.YthgdchffeigkbaaGreatDoorU43
import Derived.Test.YthgdchffeigkbaaGreatDoorU44
set_option linter.unusedVariables false
set_option linter.unusedSimpArgs false
namespace Go.Proofs.YthgdchffeigkbaaGreatDoor
set_option maxHeartbeats 8000000
set_option maxRecDepth 100000
section
open Go.ChangeShapes Go.WideShapes Go.ChangeAt Go.RowKit
attribute [local go_sem ↓] execOp_call_val
attribute [local go_sem] callVal_func setCell_drewN alloc_drewN sEq_walk
section
variable {S:Value→Prop} {w w':World} {base e size n:Nat} {v:Value} {xs:List Value}
theorem OwnS.byB (h:OwnS S w base e size v n xs) (hk:∀ b cs,v.ownBlock=some b→Blk w b e cs→Blk w' b e cs):OwnS S w' base e size v n xs:=by
 refine ⟨h.1,?_⟩;rcases h.2 with h1 | ⟨g,cap,cur,h1,h2,h3,h4⟩
 ·exact .inl h1
 ·exact .inr ⟨g,cap,cur,h1,h2,hk g cur (by rw [h1];rfl) h3,h4⟩
theorem OwnS.put5 {gp:Nat} {a0 a1 a2 a3 a4 v0 v1 v2 v3 v4:Value} (o:OwnS S w base e size v n xs) (h:Blk w gp 95 #[a0,a1,a2,a3,a4]) (ht:e≠95):OwnS S (((((w.setCell ⟨gp,0,none⟩ v0).setCell ⟨gp,1,none⟩ v1).setCell ⟨gp,2,none⟩ v2).setCell ⟨gp,3,none⟩ v3).setCell ⟨gp,4,none⟩ v4) base e size v n xs:=by
 have h1:=h.set_ 0 v0;have h2:=h1.set_ 1 v1;have h3:=h2.set_ 2 v2;have h4:=h3.set_ 3 v3;exact ((((o.far h ht).far h1 ht).far h2 ht).far h3 ht).far h4 ht
end
theorem zi_I9:∀ u∈([.int .i64 0]:List Value),IsI u:=fun u hu=>by rw [List.mem_singleton.1 hu];exact ⟨0,rfl⟩
def slN:Value→Nat
 | .slice _ n _=>n
 | _=>0
def ClnP (x:Net) (ms:List Mi) (w:World) (e:Ending) (w':World):Prop:=Below w.heap.size w w'∧((∃ c:Int,c≠0∧EstC x ms c∧e=.returned (.tuple #[.slice none 0 0,.int .i64 c]))∨
 (EstC x ms 0∧∃ r A c,ClG x (List.range ms.length) ms [] r∧e=.returned (.tuple #[.slice A r.length c,.int .i64 0])∧RdI w' w'.heap.size A r.length (natJ r)∧r.length≤c∧c≤maxLen))
structure ClM (x:Net) (g6:Nat) (w0 wr:World) (v8 v9 v10:Value) (nums:List Nat) (rest:List Mi) (out:List Nat) (fc:Array Value):Prop where
 fit:FitF x rest w0.heap.size wr (.agg fc)
 box:Blk wr g6 95 fc
 low:w0.heap.size≤g6
 num:OwnS IsI wr w0.heap.size 3 1 v9 nums.length (natI nums)
 rst:OwnS AnyC wr w0.heap.size 57 4 v8 rest.length (rest.flatMap Mi.cells)
 out:OwnS IsI wr w0.heap.size 3 1 v10 out.length (natI out)
 ne:∀ b,v9.ownBlock=some b→v10.ownBlock≠some b
 bel:Below w0.heap.size w0 wr
theorem clean_any (h:NetH) (x:Net) (h8:x.nodes.length≤8) (A:Option Addr) (n c:Nat) (ms:List Mi) (w:World) (r:RdNet w w.heap.size h x) (hm:RdMi w w.heap.size A n ms) (hz:∀ m∈ms,m.txt.size≤maxLen) (hn:n≤9223372036854775807) (ht:TabOk w) :
    Calls Tryz.prog 34 #[.agg h.cells,.slice A n c] w (ClnP x ms w):=by
 have K0:Below w.heap.size w (w.alloc (.cells h.cells 29)):=bA;have HK:=lH K0;have P0:=lH (Blk.new w 29 h.cells);have HF:=lH (sfit_any h x h8 A n c ms (w.alloc (.cells h.cells 29)) (r.up K0) (hm.bm K0) hz hn (ht.up K0));have HT:=lH (ht.up K0);have HX:=lH (r.up K0);have HSZ:Hid (w.heap.size≤(w.alloc (.cells h.cells 29)).heap.size):=lH K0.size;have HML:Hid (ms.length=n):=lH hm.1;have HM:=lH (hm.bm K0);clear K0 hm r ht hz;obtain ⟨D0,r0,s0,D1,r1,s1,D2,r2,s2,D3,r3,s3,D4,r4,s4,D5,r5,s5⟩:=h;obtain ⟨y0,y1,y2,y3,y4,y5,nf,nlt⟩:=net_box P0.o;dsimp only at y0 y1 y2 y3 y4 y5;go_enter Tryz.func34,Tryz.ntmps34
 go_wp2_with fail
 generalize w.alloc (.cells (NetH.cells ⟨D0,r0,s0,D1,r1,s1,D2,r2,s2,D3,r3,s3,D4,r4,s4,D5,r5,s5⟩) 29)=W at *;have HKW:=HK;have HWS:Hid (w.heap.size≤W.heap.size):=lH HK.o.size;refine HF.o.mono ?_;rintro e w1 ⟨hb1,hcase⟩;have HB1:=lH (HK.o.trans (hb1.mono HSZ.o));have HT1:=lH (HT.o.up hb1);have HBW1:=lH hb1;replace HM:=lH (HM.o.bm hb1);clear hb1 y0 y1 y2 y3 y4 y5 nf nlt HF;rcases hcase with ⟨d,hd,hec,rfl⟩ | ⟨hec,fv,rfl,⟨g,m,y,A1,c1,gi,ga,B1,d1,rfl,hf0,hf1,hf2,hf3,hf4,hf5,hf6⟩⟩
 ·have HE:=lH hec
  have HD:=lH hd;have hdb:(d != 0)=true:=by simp [hd]
  clear hec hd
  go_wp2_with fail
  go_ret2;exact ⟨HB1.o.alloc HB1.o.size _,.inl ⟨d,HD.o,HE.o,rfl⟩⟩
 ·obtain ⟨hck,hreg,hfits⟩:=hec.zero rfl
  obtain ⟨ok,hl,hmi⟩:=mtCk_ok hck;have HE:=lH hec;have hz:Below w1.heap.size w1 (w1.alloc (.cells #[.pointer (some ⟨g,0,none⟩),.slice A1 ms.length c1,.slice (some ⟨gi,0,none⟩) (freeL x).length (freeL x).length,.slice (some ⟨ga,0,none⟩) (busN x) (busN x),.slice B1 ms.length d1] 95)):=bA;have hff:=FitF.up (B0:=W.heap.size) (x:=x) (ms:=ms) ⟨g,m,y,A1,c1,gi,ga,B1,d1,rfl,hf0,hf1,hf2,hf3,hf4,hf5,hf6⟩ hz;have HFF:=lH hff;have HK:=lH (mok_of h8 hck);have HM2:=lH (HM.o.bm hz);have HFB:=lH (Blk.new w1 95 #[.pointer (some ⟨g,0,none⟩),.slice A1 ms.length c1,.slice (some ⟨gi,0,none⟩) (freeL x).length (freeL x).length,.slice (some ⟨ga,0,none⟩) (busN x) (busN x),.slice B1 ms.length d1]);have HBZ:=lH (HB1.o.tm hz);have HBWZ:=lH (HBW1.o.tm hz);have HREG:=lH hreg;have HT2:=lH (HT1.o.up hz)
  have HL:Hid (ms.length≤64):=lH hl;clear hec hf0 hf1 hf2 hf3 hf4 hf5 hf6 hff hck hreg hfits ok hl hmi hz
  go_upto_region 4 with fail
  generalize w1.alloc (.cells #[.pointer (some ⟨g,0,none⟩),.slice A1 ms.length c1,.slice (some ⟨gi,0,none⟩) (freeL x).length (freeL x).length,.slice (some ⟨ga,0,none⟩) (busN x) (busN x),.slice B1 ms.length d1] 95)=wz at *;generalize hgt:w1.heap.size=gt at *;have HGT:Hid (W.heap.size≤gt):=lH (by rw [←hgt];exact HBW1.o.size);clear hgt;have hml:=HML.o;subst hml;have hl64:=HL.o
  go_wp2_with fail
  refine (cloneMi_any A ms.length c ms wz HM2.o (by omega)).mono ?_;rintro e w2 ⟨hb2,A8,c8,rfl,ho8⟩;have HO8:=lH (OwnS.mono (anyC_of ho8) HBWZ.o.size);have HB2:=lH (HBWZ.o.tm hb2);have HF2:=lH (HFF.o.up hb2);have HFB2:=lH (HFB.o.bl hb2);clear hb2 ho8 HFF HFB HM2
  go_wp2_with fail
  go_loopw [9,26] (fun v9 v26 wr=>∃ k:Nat,k≤ms.length∧v26=.int .i64 k∧OwnS IsI wr w2.heap.size 3 1 v9 (List.range k).length (natI (List.range k))∧Below w2.heap.size w2 wr) (fun _ v26 _=>ms.length-(intOf v26).toNat)
  case atStart=>exact ⟨0,by omega,rfl,ownS_none _ _ _ _ _,bR⟩
  case round=>
   obtain ⟨k,hk,rfl,ho,hb⟩:=hrel;have HO:=lH ho;have HB:=lH hb;clear ho hb
   by_cases hlt:k<ms.length
   ·have hkI:(k:Int)<(ms.length:Int):=by omega
    have HNX:=lN k;have HNM:Hid (ms.length-(k+1)<ms.length-k):=lH (by omega);have HBS:Hid (w2.heap.size≤wr.heap.size):=lH HB.o.size
    go_wp2_with (at_builtin;refine wpList_appI rfl (.tmp 29) (.tmp 31) _ rfl w2.heap.size Tryz.underlying30 u9 (List.range k) k rfl HO.o rfl ?k1 HBS.o ?_)
    case k1=>rw [List.length_range];omega
    intro v' w7 hown hlow hown2 hoth hblk hsz;have HO7:Hid (OwnS IsI w7 w2.heap.size 3 1 v' (List.range (k+1)).length (natI (List.range (k+1)))):=lH (by rw [List.range_succ,zE_,List.length_singleton,List.length_range];exact hown);have HB7:Hid (Below w2.heap.size w2 w7):=lH (HB.o.trans hlow);clear hown hlow hown2 hoth hblk hsz HO HB
    go_wp2_with fail
    go_roundw
    case rel=>exact ⟨k+1,hlt,val_int HNX.o,HO7.o,HB7.o⟩
    case measure=>exact HNM.o
   ·have hke:k=ms.length:=by omega
    subst hke;have hkI:¬((ms.length:Nat):Int)<(ms.length:Int):=by omega
    have hM:ClM x gt W wr (.slice A8 ms.length c8) u9 (.slice none 0 0) (List.range ms.length) ms [] #[.pointer (some ⟨g,0,none⟩),.slice A1 ms.length c1,.slice (some ⟨gi,0,none⟩) (freeL x).length (freeL x).length,.slice (some ⟨ga,0,none⟩) (busN x) (busN x),.slice B1 ms.length d1]:=⟨HF2.o.up HB.o,HFB2.o.bl HB.o,HGT.o,OwnS.mono HO.o HB2.o.size,HO8.o.keep HB.o,ownS_none _ _ _ _ _,fun b _ h=>(by cases h),HB2.o.tm HB.o⟩;have HMM:=lH hM;have HMO:=lH HK.o;clear hM HO HB HF2 HFB2 HO8
    go_wp2_with fail
    go_loopw [8,9,10] (fun v8 v9 v10 wr=>∃ (nums:List Nat) (rest:List Mi) (out:List Nat) (fc:Array Value),ClM x gt W wr v8 v9 v10 nums rest out fc∧nums.length=rest.length∧MOk x rest∧EReg x rest∧out.length≤64-rest.length∧∀ r,ClG x nums rest out r→ClG x (List.range ms.length) ms [] r) (fun v8 _ _ _=>slN v8)
    case atStart=>exact ⟨_,_,_,_,HMM.o,List.length_range,HMO.o,HREG.o,Nat.zero_le _,fun r h=>h⟩
    case round=>
     clear HMM HMO;obtain ⟨nums,rest,out,fc,hm,hlen,hmo,hreg,hol,hcont⟩:=hrel;obtain ⟨g',m',y',A1',c1',gi',ga',B1',d1',hfe,-⟩:=hm.fit;injection hfe with hfe;subst hfe;obtain ⟨A8,c8,hv8,-,-⟩:=hm.rst.shape;obtain ⟨A9,c9,hv9,-,-⟩:=hm.num.shape;obtain ⟨A10,c10,hv10,-,-⟩:=hm.out.shape;subst hv8;subst hv9;subst hv10;have HM0:=lH hm;have HLEN:=lH hlen;have HMO:=lH hmo;have HRG:=lH hreg;have HOL:=lH hol;have HCT:=lH hcont;clear hm hlen hmo hreg hol hcont;have f0:=HM0.o.box.cell 0;have f1:=HM0.o.box.cell 1;have f2:=HM0.o.box.cell 2;have f3:=HM0.o.box.cell 3;have f4:=HM0.o.box.cell 4;have fl:=HM0.o.box.lt
     go_wp2_with fail
     refine (worst_any x rest HMO.o _ W.heap.size A8 c8 wr HM0.o.fit (OwnMi.rd2 HM0.o.rst.own).1).mono ?_;rintro e w3 ⟨hb3,b,rfl,hwb⟩;have HWB:=lH hwb;have HNUM:=lH (HM0.o.num.keep hb3);have HRST:=lH (HM0.o.rst.keep hb3);have HOUT:=lH (HM0.o.out.keep hb3);have HBOX:=lH (HM0.o.box.below hb3 fl);have HBEL:=lH (HM0.o.bel.tm hb3);have HNE:=lH HM0.o.ne;have HLOW:=lH HM0.o.low;clear hb3 hwb f0 f1 f2 f3 f4 fl HM0
     by_cases hb:b<0
     ·have hbd:decide (b<0)=true:=decide_eq_true hb
      have HCG:=lH (HCT.o out (ClG.done HWB.o hb))
      go_wp2_with fail
      go_ret2;obtain ⟨Ao,co,hvo,hrdo,hnco,hcmo⟩:=own_ints HOUT.o;injection hvo with hv1 hv2 hv3;subst hv1;subst hv3;exact ⟨HKW.o.trans (HBEL.o.mono HWS.o),.inr ⟨HE.o,out,_,_,HCG.o,rfl,hrdo,hnco,hcmo⟩⟩
     ·obtain ⟨k,rfl⟩:∃ k:Nat,b=(k:Int):=⟨b.toNat,by omega⟩
      have hbd:decide ((k:Int)<0)=false:=decide_eq_false hb;have hkr:k<rest.length:=by
       rcases HWB.o with ⟨h1,-⟩ | ⟨j,h1,h2,-⟩<;>omega
      have HKR:=lH hkr;have HSP:Hid (vf (sprR x rest) k≠0):=lH (by
       rcases HWB.o with ⟨h1,-⟩ | ⟨j,h1,h2,h3,-⟩
       ·omega
       ·have e:j=k:=by omega
        rw [←e];exact h3.2)
      obtain ⟨i,hi⟩:∃ i,nums[k]?=some i:=zX_ (by have:=HLEN.o;omega);have HI:=lH hi;obtain ⟨g9,cap9,cur9,hv9,hg9,hb9,hcs9,hnc9,hcm9,htk9,hst9⟩:=HNUM.o.strike (k:=k) (by have:=HLEN.o;omega);injection hv9 with hv9 hv9b hv9c;subst hv9;subst hv9c;have hc9:w3.cell? ⟨g9,0+k,none⟩=some (.int .i64 (i:Int)):=by
       rw [hb9.cell,Nat.zero_add];have h:=natI_get hi;rw [←htk9,List.getElem?_take] at h
       split at h
       ·rwa [Array.getElem?_toList] at h
       ·cases h
      rw [Nat.zero_add] at hc9;have hgl9:=hb9.lt;have HB9:=lH hb9;have hkN:(k:Int)<(nums.length:Int):=by have:=HLEN.o;omega
      have hk0:=lZ k
      have hkn:=zL_ k;have hr64:=HMO.o.k64;have HBS:Hid (W.heap.size≤w3.heap.size):=lH HBEL.o.size;have HS9:=lH (And.intro hg9 (And.intro hcs9 (And.intro hnc9 (And.intro hcm9 (And.intro htk9 hst9)))));clear hi hb hg9 hcs9 hnc9 hcm9 htk9 hst9 hb9
      go_wp2_with (at_builtin;refine wpList_appI rfl (.tmp 40) (.tmp 45) _ rfl W.heap.size Tryz.underlying30 (.slice A10 out.length c10) out i rfl HOUT.o rfl ?k1 HBS.o ?_)
      case k1=>have:=HOL.o;omega
      intro v' w4 hown hlow hown2 hoth hblk hsz;have HNUMd:=lH (HNUM.o.apart (v:=.slice A10 out.length c10) hoth (fun b hb=>HNE.o b hb));have HOUTd:Hid (OwnS IsI w4 W.heap.size 3 1 v' (out++[i]).length (natI (out++[i]))):=lH (by rw [zE_,List.length_singleton];exact hown);have HNEd:Hid (v'.ownBlock≠some g9):=lH (by
       rcases hown2 with h | ⟨b,h,h2⟩
       ·rw [h];exact HNE.o g9 rfl
       ·rw [h]
        intro e;injection e with e;have:=HB9.o.lt;omega)
      have HRSTd:=lH (HRST.o.byB (w':=w4) fun b cs _ h=>hblk b _ cs h (by decide));have HBOXd:=lH (hblk _ _ _ HBOX.o (by decide));have HBELd:=lH (HBEL.o.trans hlow);clear hown hlow hown2 hoth hblk hsz hc9 hgl9 HNUM HRST HOUT HBOX HBEL HNE HBS HS9 HB9;clear cur9;obtain ⟨g9',cap9,cur9,hv9,hg9,hb9,hcs9,hnc9,hcm9,htk9,hst9⟩:=HNUMd.o.strike (k:=k) (by have:=HLEN.o;omega);injection hv9 with hv9 hv9b hv9c;injection hv9 with hv9;injection hv9 with hv9;subst hv9;subst hv9c;obtain ⟨g8,cap8,cur8,hv8,hg8,hb8,hcs8,hnc8,hcm8,htk8,hst8⟩:=HRSTd.o.strike (k:=k) HKR.o;injection hv8 with hv8 hv8b hv8c;subst hv8;subst hv8c;have H98:Hid (g8≠g9):=lH (hb8.apart hb9 (by decide));have H69:Hid (gt≠g9):=lH (HBOXd.o.apart hb9 (by decide));have H68:Hid (gt≠g8):=lH (HBOXd.o.apart hb8 (by decide))
      have HC9:=lH (deli_any g9 nums.length c9 k cur9 w4 hb9 (by rw [hcs9]) hnc9 (by have:=HLEN.o;omega) hcm9 (by rw [htk9];exact natI_one nums));have HST9:=lH hst9;have HB8:=lH hb8;have HS8:=lH (And.intro hcs8 (And.intro hnc8 (And.intro hcm8 htk8)));clear hg9 hb9 hcs9 hnc9 hcm9 htk9 hst9 hg8 hb8 hcs8 hnc8 hcm8 htk8 hst8;have hknI:(k:Int)+1≤(nums.length:Int):=by omega
      have hkrI:(k:Int)<(rest.length:Int):=by omega
      go_wp2_with fail
      refine HC9.o.mono ?_;intro e w5 hd9;obtain ⟨rfl,hn5,ho5,hl5⟩:=HST9.o _ e w5 hd9 zi_I9;rw [natI_erase] at hn5;have HN5:=lH hn5;have HOUT5:=lH (HOUTd.o.byB (w':=w5) fun b cs h hb=>(ho5 b hb.lt (fun e=>HNEd.o (by rw [h,e]))).trans hb);have HRST5:=lH (HRSTd.o.byB (w':=w5) fun b cs h hb=>(ho5 b hb.lt (fun e=>H98.o (by injection h with h;rw [←e];exact h))).trans hb);have HBOX5:=lH (show Blk w5 gt 95 _ from (ho5 gt HBOXd.o.lt H69.o).trans HBOXd.o);have HBEL5:=lH (HBELd.o.trans hl5);clear hn5 ho5 hl5 hd9 HC9 HST9 HOUTd HRSTd HBOXd HBELd HNUMd HB8 HS8;clear cur8;obtain ⟨g8',cap8,cur8,hv8,hg8,hb8,hcs8,hnc8,hcm8,htk8,hst8⟩:=HRST5.o.strike (k:=k) HKR.o;injection hv8 with hv8 hv8b hv8c;injection hv8 with hv8;injection hv8 with hv8;subst hv8;subst hv8c;have HC8:=lH (delm_any g8 rest.length c8 k cur8 w5 hb8 hcs8 hnc8 HKR.o hcm8 (by rw [htk8];exact mi_one rest));have HST8:=lH hst8
      have HB8:=lH hb8;clear hg8 hb8 hcs8 hnc8 hcm8 htk8 hst8
      go_wp2_with fail
      refine HC8.o.mono ?_;intro e w6 hd8;obtain ⟨rfl,hr6,ho6,hl6⟩:=HST8.o _ e w6 hd8 (fun _ _=>trivial);rw [mi_erase] at hr6;have e1:rest.length-1=(rest.eraseIdx k).length:=(List.length_eraseIdx_of_lt HKR.o).symm;have e2:nums.length-1=(nums.eraseIdx k).length:=(List.length_eraseIdx_of_lt (by have:=HLEN.o;have:=HKR.o;omega)).symm;have HR6:=lH (by rw [e1] at hr6;exact hr6);have HN6:=lH ((by have h:=HN5.o;rw [e2] at h;exact h:OwnS IsI w5 W.heap.size 3 1 (.slice (some ⟨g9,0,none⟩) (nums.eraseIdx k).length c9) (nums.eraseIdx k).length (natI (nums.eraseIdx k))).byB (w':=w6) fun b cs _ hb=>(ho6 b hb.lt (hb.apart HB8.o (by decide))).trans hb);have HOUT6:=lH (HOUT5.o.byB (w':=w6) fun b cs _ hb=>(ho6 b hb.lt (hb.apart HB8.o (by decide))).trans hb);have HBOX6:=lH (show Blk w6 gt 95 _ from (ho6 gt HBOX5.o.lt H68.o).trans HBOX5.o);have HBEL6:=lH (HBEL5.o.trans hl6)
      have HRG6:=lH (ereg_erase HMO.o HRG.o HKR.o HSP.o);have HMO6:=lH (HMO.o.sub (List.eraseIdx_sublist rest k));have HCT6:Hid (∀ r,ClG x (nums.eraseIdx k) (rest.eraseIdx k) (out++[i]) r→ClG x (List.range ms.length) ms [] r):=lH fun r h=>HCT.o r (ClG.step HWB.o HI.o h);have HOL6:Hid ((out++[i]).length≤64-(rest.eraseIdx k).length):=lH (by rw [zE_,List.length_singleton,←e1];have:=HOL.o;have:=HKR.o;have:=HMO.o.k64;omega);have HLN6:Hid ((nums.eraseIdx k).length=(rest.eraseIdx k).length):=lH (by rw [←e1,←e2,HLEN.o]);have HME:Hid ((rest.eraseIdx k).length<rest.length):=lH (by rw [←e1];have:=HKR.o;omega);rw [e1,e2];clear hr6 ho6 hl6 hd8 HC8 HST8 HB8 HN5 HOUT5 HRST5 HBOX5 HBEL5 H98 H69 H68 HKR HSP HWB HI HCT HOL HLEN e1 e2 hr64 hkr hkrI hknI hkN hk0 hkn HRG HMO;generalize hrs:rest.eraseIdx k=rest' at *;generalize hns:nums.eraseIdx k=nums' at *;generalize hos:out++[i]=out' at *
      have PNX:=P0.o.bl HBEL6.o;obtain ⟨y0,y1,y2,y3,y4,y5,nf,nlt⟩:=net_box PNX;dsimp only at y0 y1 y2 y3 y4 y5;clear PNX
      go_wp2_with fail
      refine (est_any _ x HMO6.o.ok h8 (some ⟨g8,0,none⟩) _ c8 rest' w6 (HX.o.up HBEL6.o) (OwnMi.rd2 HR6.o.own).1 HMO6.o.k64 HMO6.o.mi HMO6.o.tx HMO6.o.wt).mono ?_;rintro e w7 ⟨hb7,hcase⟩;rcases hcase with ⟨h,-⟩ | ⟨-,fv,rfl,hff⟩
      ·exact absurd HRG6.o h
      have hff7:=hff;obtain ⟨g2,m2,yy2,A2,c2,gi2,ga2,B2,d2,hfe,-⟩:=hff;subst hfe;have HFF7:=lH hff7;have P6:=lH (HBOX6.o.bl hb7);have HG6:Hid (gt<w6.heap.size):=lH HBOX6.o.lt;have HN7:=lH (HN6.o.keep hb7);have HR7:=lH (HR6.o.keep hb7);have HO7:=lH (HOUT6.o.keep hb7);have HB7:=lH (HBEL6.o.tm hb7);have HBS6:Hid (W.heap.size≤w6.heap.size):=lH HBEL6.o.size;clear hff7 hb7 y0 y1 y2 y3 y4 y5 nf nlt HBOX6 HN6 HR6 HOUT6 HBEL6;have z0:=P6.o.cell 0;have z1:=P6.o.cell 1;have z2:=P6.o.cell 2;have z3:=P6.o.cell 3;have z4:=P6.o.cell 4;have zl:=P6.o.lt;have zf:=P6.o.frozen;have HU:=lH (un_put5 (p':=some ⟨g2,0,none⟩) (B1:=A2) (k1:=rest'.length) (d1:=c2) (B2:=some ⟨gi2,0,none⟩) (k2:=(freeL x).length) (d2:=(freeL x).length) (B3:=some ⟨ga2,0,none⟩) (k3:=busN x) (d3:=busN x) (B4:=B2) (k4:=rest'.length) (d4:=d2) P6.o)
      go_wp2_with fail
      go_roundw
      case rel=>exact ⟨nums',rest',out',_,⟨(HFF7.o.unP HU.o HG6.o).low HBS6.o,fit_put P6.o,HLOW.o,HN7.o.put5 P6.o (by decide),HR7.o.put5 P6.o (by decide),HO7.o.put5 P6.o (by decide),fun b hb=>by injection hb with hb;rw [←hb];exact HNEd.o,below_fit HB7.o HLOW.o⟩,HLN6.o,HMO6.o,HRG6.o,HOL6.o,HCT6.o⟩
      case measure=>exact HME.o
end
section
def suL:List Mi:=[⟨0,⟨#[76]⟩,⟨#[53]⟩,1⟩,⟨0,⟨#[76]⟩,⟨#[53]⟩,1⟩,⟨0,⟨#[76]⟩,⟨#[57]⟩,1⟩,⟨0,⟨#[77]⟩,⟨#[50]⟩,1⟩]
def suK:List Mi:=[⟨0,⟨#[76]⟩,⟨#[53]⟩,1⟩,⟨0,⟨#[76]⟩,⟨#[53]⟩,1⟩,⟨0,⟨#[77]⟩,⟨#[50]⟩,1⟩]
def suR:List ByteArray:=[⟨#[45,52,47,51]⟩,⟨#[45,52,47,51]⟩,⟨#[56,47,51]⟩,⟨#[48]⟩]
def suS:List ByteArray:=[⟨#[50,47,51]⟩,⟨#[50,47,51]⟩,⟨#[50,47,51]⟩,⟨#[48]⟩]
theorem su_ck:mtCk pnNet suL=0:=by decide+kernel
theorem su_sz:∀ m∈suL,m.txt.size≤maxLen:=by decide+kernel
theorem su_reg:EReg pnNet suL:=by unfold EReg Reg;decide+kernel
theorem su_est:estR pnNet suL=[0,-19/3,-22/3]:=by decide+kernel
theorem su_res:residR pnNet suL (estR pnNet suL)=[-4/3,-4/3,8/3,0]:=by decide+kernel
theorem su_spr:sprR pnNet suL=[2/3,2/3,2/3,0]:=by decide+kernel
theorem su_res2:residR pnNet suK (estR pnNet suK)=[0,0,0]:=by decide+kernel
theorem su_txt:txtQ 0=⟨#[48]⟩∧txtQ (-4/3)=⟨#[45,52,47,51]⟩∧txtQ (8/3)=⟨#[56,47,51]⟩∧txtQ (2/3)=⟨#[50,47,51]⟩:=by decide+kernel
theorem su_fit:∀ q∈estR pnNet suL,Fits q:=by
 rw [su_est];intro q hq;simp only [List.mem_cons,List.not_mem_nil,or_false] at hq;rcases hq with rfl | rfl | rfl<;>exact fits_s (by decide+kernel)
theorem su_rfit:∀ q∈residR pnNet suL (estR pnNet suL),Fits q:=by
 rw [su_res];intro q hq;simp only [List.mem_cons,List.not_mem_nil,or_false] at hq;rcases hq with rfl | rfl | rfl | rfl<;>exact fits_s (by decide+kernel)
theorem su_sfit:∀ q∈sprR pnNet suL,Fits q:=by
 rw [su_spr];intro q hq;simp only [List.mem_cons,List.not_mem_nil,or_false] at hq;rcases hq with rfl | rfl | rfl | rfl<;>exact fits_s (by decide+kernel)
theorem su_vec:(residR pnNet suL (estR pnNet suL)).map txtQ=suR∧(sprR pnNet suL).map txtQ=suS:=by
 obtain ⟨h0,h1,h2,h3⟩:=su_txt;rw [su_res,su_spr];simp only [List.map_cons,List.map_nil,h0,h1,h2,h3,suR,suS,and_self]
theorem su_code:EstC pnNet suL 0:=.inr (.inr (.inr ⟨su_ck,su_reg,su_fit,rfl⟩))
theorem su_best {b:Int} (h:WBest (residR pnNet suL (estR pnNet suL)) (sprR pnNet suL) suL.length b):b=2:=by
 refine h.one (.inr ⟨2,rfl,by decide,?_,?_,?_⟩)
 ·rw [su_res,su_spr]
  unfold WOk;decide+kernel
 ·rw [su_res,su_spr]
  intro i hi hw;have:i=0∨i=1∨i=2∨i=3:=by
   have hi':i<4:=hi;omega
  unfold wqR;unfold WOk at hw;rcases this with rfl | rfl | rfl | rfl
  ·decide+kernel
  ·decide+kernel
  ·decide+kernel
  ·exact absurd hw (by decide+kernel)
 ·rw [su_res,su_spr]
  intro i hi hw;have:i=0∨i=1:=by omega
  unfold wqR;rcases this with rfl | rfl<;>decide+kernel
theorem su_best2 {b:Int} (h:WBest (residR pnNet suK (estR pnNet suK)) (sprR pnNet suK) suK.length b):b=-1:=by
 refine h.one (.inl ⟨rfl,fun k hk hw=>hw.1 ?_⟩);rw [su_res2];have:k=0∨k=1∨k=2:=by
  have hk':k<3:=hk;omega
 rcases this with rfl | rfl | rfl<;>decide+kernel
theorem su_clg {r:List Nat} (h:ClG pnNet (List.range suL.length) suL [] r):r=[2]:=by
 cases h with
 | done hw hb=>have:=su_best hw;omega
 | @step _ _ _ _ k i hw hk h=>
  have e:=su_best hw;have e2:k=2:=by omega
  subst e2;have hi:i=2:=by
   have h2:(List.range suL.length)[2]?=some 2:=by decide
   rw [h2] at hk;injection hk with hk;exact hk.symm
  subst hi;have h3:suL.eraseIdx 2=suK:=rfl;rw [h3] at h;cases h with
  | done hw hb=>rfl
  | step hw hk h=>have:=su_best2 hw;omega
end
section
open Go.ChangeShapes Go.WideShapes Go.ChangeAt Go.RowKit
attribute [local go_sem ↓] execOp_call_val
attribute [local go_sem] callVal_func setCell_drewN alloc_drewN sEq_walk
theorem su_resP {w w':World} {e:Ending} (h:ResP pnNet suL w e w'):Below w.heap.size w w'∧∃ A c,e=.returned (.tuple #[.slice A 4 c,.int .i64 0])∧RdStr w' w'.heap.size A 4 suR:=by
 obtain ⟨hb,⟨c,h0,h1,-⟩ | ⟨-,h1,-⟩⟩:=h
 ·exact absurd (h1.one su_code) h0
 ·obtain ⟨A,n,c,rfl,h2,-,-⟩:=h1 su_rfit
  rw [su_vec.1] at h2;have hn:n=4:=h2.1.symm;subst hn;exact ⟨hb,A,c,rfl,h2⟩
theorem su_sprP {w w':World} {e:Ending} (h:SprP pnNet suL w e w'):Below w.heap.size w w'∧∃ A c,e=.returned (.tuple #[.slice A 4 c,.int .i64 0])∧RdStr w' w'.heap.size A 4 suS:=by
 obtain ⟨hb,⟨c,h0,h1,-⟩ | ⟨-,h1,-⟩⟩:=h
 ·exact absurd (h1.one su_code) h0
 ·obtain ⟨A,n,c,rfl,h2,-,-⟩:=h1 su_sfit
  rw [su_vec.2] at h2;have hn:n=4:=h2.1.symm;subst hn;exact ⟨hb,A,c,rfl,h2⟩
theorem su_worP {w w':World} {e:Ending} (h:WorP pnNet suL w e w'):Below w.heap.size w w'∧e=.returned (.tuple #[.int .i64 2,.int .i64 0]):=by
 obtain ⟨hb,⟨c,h0,h1,-⟩ | ⟨-,b,h1,h2⟩⟩:=h
 ·exact absurd (h1.one su_code) h0
 ·have e:=su_best h1
  subst e;rcases h2 with ⟨h,-⟩ | ⟨-,h⟩
  ·omega
  ·exact ⟨hb,h⟩
theorem su_clnP {w w':World} {e:Ending} (h:ClnP pnNet suL w e w'):Below w.heap.size w w'∧∃ A c,e=.returned (.tuple #[.slice A 1 c,.int .i64 0])∧RdI w' w'.heap.size A 1 [2]:=by
 obtain ⟨hb,⟨c,h0,h1,-⟩ | ⟨-,r,A,c,h1,rfl,h2,-,-⟩⟩:=h
 ·exact absurd (h1.one su_code) h0
 ·have e:=su_clg h1
  subst e;exact ⟨hb,A,c,rfl,h2⟩
theorem sworks_any (w:World) (ht:TabOk w):Calls Tryz.prog 33 #[] w fun e w'=>e=.returned (.bool true)∧Below w.heap.size w w':=by
 have HT:=lH ht;clear ht;go_enter Tryz.func33,Tryz.ntmps33
 go_wp2_with fail
 refine (flowMeter_any ⟨#[76]⟩ ⟨#[53]⟩ w).mono ?_;rintro e w1 ⟨rfl,hb1⟩
 go_wp2_with fail
 refine (flowMeter_any ⟨#[76]⟩ ⟨#[53]⟩ w1).mono ?_;rintro e w2 ⟨rfl,hb2⟩
 go_wp2_with fail
 refine (flowMeter_any ⟨#[76]⟩ ⟨#[57]⟩ w2).mono ?_;rintro e w2b ⟨rfl,hb2b⟩
 go_wp2_with fail
 refine (flowMeter_any ⟨#[77]⟩ ⟨#[50]⟩ w2b).mono ?_;rintro e w3 ⟨rfl,hb3⟩;have hb12:=hb1.tm hb2;have hb13:=hb12.tm hb2b;have HB3:=lH (hb13.tm hb3);clear hb1 hb2 hb3 hb2b hb12 hb13
 go_upto_region 2 with fail
 have hz:Below w3.heap.size w3 (w3.alloc (.cells #[.int .i64 0,.string ⟨#[76]⟩,.string ⟨#[53]⟩,.int .i64 1,.int .i64 0,.string ⟨#[76]⟩,.string ⟨#[53]⟩,.int .i64 1,.int .i64 0,.string ⟨#[76]⟩,.string ⟨#[57]⟩,.int .i64 1,.int .i64 0,.string ⟨#[77]⟩,.string ⟨#[50]⟩,.int .i64 1] 57)):=bA;have HB:=lH (HB3.o.tm hz)
 have HM:Hid (RdMi (w3.alloc (.cells #[.int .i64 0,.string ⟨#[76]⟩,.string ⟨#[53]⟩,.int .i64 1,.int .i64 0,.string ⟨#[76]⟩,.string ⟨#[53]⟩,.int .i64 1,.int .i64 0,.string ⟨#[76]⟩,.string ⟨#[57]⟩,.int .i64 1,.int .i64 0,.string ⟨#[77]⟩,.string ⟨#[50]⟩,.int .i64 1] 57)) (w3.alloc (.cells #[.int .i64 0,.string ⟨#[76]⟩,.string ⟨#[53]⟩,.int .i64 1,.int .i64 0,.string ⟨#[76]⟩,.string ⟨#[53]⟩,.int .i64 1,.int .i64 0,.string ⟨#[76]⟩,.string ⟨#[57]⟩,.int .i64 1,.int .i64 0,.string ⟨#[77]⟩,.string ⟨#[50]⟩,.int .i64 1] 57)).heap.size (some ⟨w3.heap.size,0,none⟩) 4 suL):=lH ⟨rfl,rd_lit (vs:=suL.flatMap Mi.cells) (T:=57) (Blk.new w3 _ _) rfl (by simp)⟩;clear hz HB3
 generalize w3.alloc (.cells #[.int .i64 0,.string ⟨#[76]⟩,.string ⟨#[53]⟩,.int .i64 1,.int .i64 0,.string ⟨#[76]⟩,.string ⟨#[53]⟩,.int .i64 1,.int .i64 0,.string ⟨#[76]⟩,.string ⟨#[57]⟩,.int .i64 1,.int .i64 0,.string ⟨#[77]⟩,.string ⟨#[50]⟩,.int .i64 1] 57)=w4 at *;generalize w3.heap.size=gl at *
 go_wp2_with fail
 refine (pairNet_any w4).mono ?_;rintro e wa1 ⟨h1,rfl,hr1,hb1⟩;replace HB:=lH (HB.o.tm hb1);replace HM:=lH (HM.o.bm hb1);have HR:=lH hr1;have HT2:=lH (HT.o.up HB.o);clear hb1 hr1
 go_wp2_with fail
 refine (resid_any h1 pnNet (by decide) _ 4 4 suL wa1 HR.o HM.o su_sz (by decide) HT2.o).mono ?_;intro e wb1 hh;obtain ⟨hbb,A1,c1,rfl,hnew⟩:=su_resP hh;replace HB:=lH (HB.o.tm hbb);replace HM:=lH (HM.o.bm hbb);have HA:=lH hnew;clear hnew;clear hh hbb HR HT2
 go_wp2_with fail
 refine (pairNet_any wb1).mono ?_;rintro e wa2 ⟨h2,rfl,hr2,hb2⟩;replace HB:=lH (HB.o.tm hb2);replace HM:=lH (HM.o.bm hb2);replace HA:=lH (HA.o.bm hb2);have HR:=lH hr2;have HT2:=lH (HT.o.up HB.o);clear hb2 hr2
 go_wp2_with fail
 refine (sprd_any h2 pnNet (by decide) _ 4 4 suL wa2 HR.o HM.o su_sz (by decide) HT2.o).mono ?_;intro e wb2 hh;obtain ⟨hbb,A2,c2,rfl,hnew⟩:=su_sprP hh;replace HB:=lH (HB.o.tm hbb);replace HM:=lH (HM.o.bm hbb);replace HA:=lH (HA.o.bm hbb);have HS:=lH hnew;clear hnew;clear hh hbb HR HT2
 go_wp2_with fail
 refine (pairNet_any wb2).mono ?_;rintro e wa3 ⟨h3,rfl,hr3,hb3⟩;replace HB:=lH (HB.o.tm hb3);replace HM:=lH (HM.o.bm hb3);replace HA:=lH (HA.o.bm hb3);replace HS:=lH (HS.o.bm hb3);have HR:=lH hr3;have HT2:=lH (HT.o.up HB.o);clear hb3 hr3
 go_wp2_with fail
 refine (worstl_any h3 pnNet (by decide) _ 4 4 suL wa3 HR.o HM.o su_sz (by decide) HT2.o).mono ?_;intro e wb3 hh;obtain ⟨hbb,rfl⟩:=su_worP hh;replace HB:=lH (HB.o.tm hbb);replace HM:=lH (HM.o.bm hbb);replace HA:=lH (HA.o.bm hbb);replace HS:=lH (HS.o.bm hbb);clear hh hbb HR HT2
 go_wp2_with fail
 refine (pairNet_any wb3).mono ?_;rintro e wa4 ⟨h4,rfl,hr4,hb4⟩;replace HB:=lH (HB.o.tm hb4);replace HM:=lH (HM.o.bm hb4);replace HA:=lH (HA.o.bm hb4);replace HS:=lH (HS.o.bm hb4);have HR:=lH hr4;have HT2:=lH (HT.o.up HB.o);clear hb4 hr4
 go_wp2_with fail
 refine (clean_any h4 pnNet (by decide) _ 4 4 suL wa4 HR.o HM.o su_sz (by decide) HT2.o).mono ?_;intro e wb4 hh;obtain ⟨hbb,A4,c4,rfl,hnew⟩:=su_clnP hh;replace HB:=lH (HB.o.tm hbb);replace HM:=lH (HM.o.bm hbb);replace HA:=lH (HA.o.bm hbb);replace HS:=lH (HS.o.bm hbb);have HI:=lH hnew;clear hnew;clear hh hbb HR HT2;replace HA:Hid (RdStr wb4 wb4.heap.size A1 4 [⟨#[45,52,47,51]⟩,⟨#[45,52,47,51]⟩,⟨#[56,47,51]⟩,⟨#[48]⟩]):=HA;replace HS:Hid (RdStr wb4 wb4.heap.size A2 4 [⟨#[50,47,51]⟩,⟨#[50,47,51]⟩,⟨#[50,47,51]⟩,⟨#[48]⟩]):=HS;clear HM
 go_wp2_with fail
 have hz:Below wb4.heap.size wb4 (wb4.alloc (.cells #[.string ⟨#[45,52,47,51]⟩,.string ⟨#[45,52,47,51]⟩,.string ⟨#[56,47,51]⟩,.string ⟨#[48]⟩] 55)):=bA;have HL:Hid (RdStr (wb4.alloc (.cells #[.string ⟨#[45,52,47,51]⟩,.string ⟨#[45,52,47,51]⟩,.string ⟨#[56,47,51]⟩,.string ⟨#[48]⟩] 55)) (wb4.alloc (.cells #[.string ⟨#[45,52,47,51]⟩,.string ⟨#[45,52,47,51]⟩,.string ⟨#[56,47,51]⟩,.string ⟨#[48]⟩] 55)).heap.size (some ⟨wb4.heap.size,0,none⟩) 4 [⟨#[45,52,47,51]⟩,⟨#[45,52,47,51]⟩,⟨#[56,47,51]⟩,⟨#[48]⟩]):=lH (rdStr_lit (zs:=[⟨#[45,52,47,51]⟩,⟨#[45,52,47,51]⟩,⟨#[56,47,51]⟩,⟨#[48]⟩]) (T:=55) (Blk.new_ (w:=wb4) (by simp)) (by simp));replace HB:=lH (HB.o.tm hz);replace HA:=lH (HA.o.bm hz);replace HS:=lH (HS.o.bm hz);replace HI:=lH (HI.o.bm hz);clear hz
 generalize wb4.alloc (.cells #[.string ⟨#[45,52,47,51]⟩,.string ⟨#[45,52,47,51]⟩,.string ⟨#[56,47,51]⟩,.string ⟨#[48]⟩] 55)=wl1 at *;refine (samevec_any A1 4 c1 _ _ 4 4 _ wl1 HA.o HL.o (by decide) (by decide)).mono ?_;rintro e wm1 ⟨rfl,hb⟩;rw [decide_eq_true rfl];replace HB:=lH (HB.o.tm hb);replace HS:=lH (HS.o.bm hb);replace HI:=lH (HI.o.bm hb);clear hb HL HA
 go_wp2_with fail
 have hz:Below wm1.heap.size wm1 (wm1.alloc (.cells #[.string ⟨#[50,47,51]⟩,.string ⟨#[50,47,51]⟩,.string ⟨#[50,47,51]⟩,.string ⟨#[48]⟩] 55)):=bA;have HL:Hid (RdStr (wm1.alloc (.cells #[.string ⟨#[50,47,51]⟩,.string ⟨#[50,47,51]⟩,.string ⟨#[50,47,51]⟩,.string ⟨#[48]⟩] 55)) (wm1.alloc (.cells #[.string ⟨#[50,47,51]⟩,.string ⟨#[50,47,51]⟩,.string ⟨#[50,47,51]⟩,.string ⟨#[48]⟩] 55)).heap.size (some ⟨wm1.heap.size,0,none⟩) 4 [⟨#[50,47,51]⟩,⟨#[50,47,51]⟩,⟨#[50,47,51]⟩,⟨#[48]⟩]):=lH (rdStr_lit (zs:=[⟨#[50,47,51]⟩,⟨#[50,47,51]⟩,⟨#[50,47,51]⟩,⟨#[48]⟩]) (T:=55) (Blk.new_ (w:=wm1) (by simp)) (by simp));replace HB:=lH (HB.o.tm hz);replace HS:=lH (HS.o.bm hz);replace HI:=lH (HI.o.bm hz);clear hz
 generalize wm1.alloc (.cells #[.string ⟨#[50,47,51]⟩,.string ⟨#[50,47,51]⟩,.string ⟨#[50,47,51]⟩,.string ⟨#[48]⟩] 55)=wl2 at *;refine (samevec_any A2 4 c2 _ _ 4 4 _ wl2 HS.o HL.o (by decide) (by decide)).mono ?_;rintro e wm2 ⟨rfl,hb⟩;rw [decide_eq_true rfl];replace HB:=lH (HB.o.tm hb);replace HI:=lH (HI.o.bm hb);clear hb HL HS
 go_wp2_with fail
 have hz:Below wm2.heap.size wm2 (wm2.alloc (.cells #[.int .i64 2] 3)):=bA;have HL:Hid (RdI (wm2.alloc (.cells #[.int .i64 2] 3)) (wm2.alloc (.cells #[.int .i64 2] 3)).heap.size (some ⟨wm2.heap.size,0,none⟩) 1 [2]):=lH (rd_lit (vs:=ints [2]) (T:=3) (Blk.new wm2 _ _) rfl (by simp));replace HB:=lH (HB.o.tm hz);replace HI:=lH (HI.o.bm hz);clear hz;generalize wm2.alloc (.cells #[.int .i64 2] 3)=wl3 at *;refine (sameInts_any A4 1 c4 [2] _ 1 1 [2] wl3 HI.o HL.o (by decide)).mono ?_;rintro e wm3 ⟨rfl,nq,hw⟩;have hb:Below wl3.heap.size wl3 wm3:=by rw [hw];exact below_drewN bR nq
 rw [show sameI [2] [2]=true from by decide];replace HB:=lH (HB.o.tm hb);clear hw;clear hb HL HI
 go_wp2_with fail
 go_ret;exact ⟨rfl,HB.o⟩
end
end Go.Proofs.YthgdchffeigkbaaGreatDoor
