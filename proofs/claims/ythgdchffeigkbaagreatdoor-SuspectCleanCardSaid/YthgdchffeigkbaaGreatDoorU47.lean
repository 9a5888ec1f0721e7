import Derived.Test.YthgdchffeigkbaaGreatDoorU45
import Derived.Test.YthgdchffeigkbaaGreatDoorU46
set_option linter.unusedVariables false
set_option linter.unusedSimpArgs false
namespace Go.Proofs.YthgdchffeigkbaaGreatDoor
set_option maxHeartbeats 8000000
set_option maxRecDepth 100000
section
open Go.ChangeShapes Go.WideShapes Go.ChangeAt Go.RowKit
attribute [local go_sem ↓] execOp_call_val
attribute [local go_sem] callVal_func setCell_drewN alloc_drewN sEq_walk
theorem sclean_any (h:NetH) (x:Net) (A:Option Addr) (n c:Nat) (ms0:List Mi) (w:World) (r:RdNet w w.heap.size h x) (hm:RdMi w w.heap.size A n ms0) (hnc:n≤c) (hc:c≤9223372036854775807) (ht:TabOk w) :
    Calls Tryz.prog 8 #[.agg h.cells,.slice A n c] w fun e w'=>e=.returned (.bool true)∧Below w.heap.size w w':=by
 obtain ⟨k,hk8,hkn,hmin⟩:∃ k:Nat,k≤7∧k≤n∧min (n:Int) 7=(k:Int):=by
  by_cases h:(7:Int)<(n:Int)
  ·exact ⟨7,by omega,by omega,by omega⟩
  ·exact ⟨n,by omega,by omega,by omega⟩
 have hkc:(k:Int)≤(c:Int):=by omega
 have hm1:=hm.take hkn;generalize hms:ms0.take k=ms at *;clear hms hm;have K0:Below w.heap.size w (w.alloc (.cells h.cells 29)):=bA;have HK:=lH K0;have P0:=lH (Blk.new w 29 h.cells);have HX:=lH (r.up K0);have HM:=lH (hm1.bm K0);have HT:=lH (ht.up K0);have HML:Hid (ms.length=k):=lH hm1.1;have HSZ:Hid (w.heap.size≤(w.alloc (.cells h.cells 29)).heap.size):=lH K0.size;clear K0 hm1 r ht;obtain ⟨D0,r0,s0,D1,r1,s1,D2,r2,s2,D3,r3,s3,D4,r4,s4,D5,r5,s5⟩:=h;go_enter Tryz.func8,Tryz.ntmps8
 go_wp2_with fail
 generalize w.alloc (.cells (NetH.cells ⟨D0,r0,s0,D1,r1,s1,D2,r2,s2,D3,r3,s3,D4,r4,s4,D5,r5,s5⟩) 29)=W at *;have HK:=lH (HK.o.trans ((Below.refl W.heap.size W).mono HSZ.o));refine (sworks_any W HT.o).mono ?_;rintro e w0 ⟨rfl,hb0⟩;have HB0:=lH (HK.o.tm hb0);replace P0:=lH (P0.o.bl hb0);replace HM:=lH (HM.o.bm hb0);replace HX:=lH (HX.o.up hb0);replace HT:=lH (HT.o.up hb0);clear hb0;clear HK HSZ;have PNX:=P0.o;obtain ⟨y0,y1,y2,y3,y4,y5,nf,nlt⟩:=net_box PNX;dsimp only at y0 y1 y2 y3 y4 y5;clear PNX
 go_wp2_with fail
 clear y0 y1 y2 y3 y4 y5 nf nlt;refine (small_any _ x A k c ms none 0 0 [] w0 HX.o HM.o (rdVc_0 _ _) (by omega) (by decide)).mono ?_;rintro e w2 ⟨rfl,hb2⟩;have HB2:=lH (HB0.o.tm hb2);replace P0:=lH (P0.o.bl hb2);replace HM:=lH (HM.o.bm hb2);replace HX:=lH (HX.o.up hb2);replace HT:=lH (HT.o.up hb2);clear hb2;cases hsm:smallR x ms [] with
 | false=>
  go_wp2_with fail
  go_ret;exact ⟨rfl,HB2.o⟩
 | true=>
  obtain ⟨h8,h10,hz24⟩:=small_allv hsm;have HZ24:=lH hz24;have HZ:Hid (∀ m∈ms,m.txt.size≤maxLen):=lH fun m hm=>zI_ (hz24 m hm) (by decide);have H10:=lH h10;clear hsm hz24 h10;have PNX:=P0.o;obtain ⟨y0,y1,y2,y3,y4,y5,nf,nlt⟩:=net_box PNX;dsimp only at y0 y1 y2 y3 y4 y5;clear PNX
  go_wp2_with fail
  clear y0 y1 y2 y3 y4 y5 nf nlt;refine (clean_any _ x h8 A k c ms w2 HX.o HM.o HZ.o (by omega) HT.o).mono ?_;rintro e w3 ⟨hb3,hg3⟩;have HB3:=lH (HB2.o.tm hb3);replace P0:=lH (P0.o.bl hb3);replace HM:=lH (HM.o.bm hb3);replace HX:=lH (HX.o.up hb3);replace HT:=lH (HT.o.up hb3);clear hb3;rcases hg3 with ⟨d,hd,-,rfl⟩ | ⟨hE0,r,A3,c3,hG,rfl,hrd,hrc,hcm⟩
  ·have hB:(d != 0)=true:=by simp [hd]
   go_wp2_with fail
   go_ret;exact ⟨rfl,HB3.o⟩
  obtain ⟨hck,hreg,-⟩:=hE0.zero rfl;obtain ⟨hE1,hq1,hsum⟩:=left_law h8 H10.o (by have:=HML.o;omega) HZ24.o hck hreg hG;have HI:=lH hrd;have HE1:=lH hE1;have HQ1:=lH hq1;have HSUM:=lH hsum;have HZL:Hid (∀ m∈leftR r ms ms.length,m.txt.size≤maxLen):=lH fun m hm=>HZ.o m (leftR_mem hm);have HC3:=lH hrc;have hr8:r.length≤8:=by have:=HML.o;omega
  clear hE0 hck hreg hG hrd hrc hcm hE1 hq1 hsum H10 HZ24;generalize hrl:r.length=rl at *;have hml:=HML.o;subst hml
  go_wp2_with fail
  go_loopw [7,38] (fun v7 v38 wr=>∃ (i c7 N:Nat) (A7:Option Addr),i≤ms.length∧v38=.int .i64 i∧v7=.slice A7 N c7∧OwnMi wr w3.heap.size (.slice A7 N c7) (leftR r ms i)∧Below w3.heap.size w3 wr) (fun _ v38 _=>ms.length-(intOf v38).toNat)
  case atStart=>exact ⟨0,0,0,none,by omega,rfl,rfl,ownMi_none _ _,bR⟩
  case round=>
   obtain ⟨i,c7,N,A7,hi,rfl,rfl,ho,hw⟩:=hrel;have HO:=lH ho;have HBL:=lH hw;have HNL:Hid (N≤i):=lH (by rw [←ho.rd2.1.1];exact leftR_len);clear ho hw
   by_cases hlt:i<ms.length
   ·obtain ⟨m,hm⟩:∃ m,ms[i]?=some m:=⟨_,zA_ hlt⟩
    have HMJ:=lH hm;have hmm:=(HM.o.below HBL.o lR).more HBL.o.size;obtain ⟨mb,mo,hA,hmb,-⟩:=hmm.2.2 (by omega);subst hA;obtain ⟨a0,a1,a2,a3⟩:=hmm.at_ hm;have hkI:(i:Int)<(ms.length:Int):=by omega
    have hk0:=lZ i
    have hkn:=zL_ i;have HNX:=lN i;have HNM:Hid (ms.length-(i+1)<ms.length-i):=lH (by omega);have HLT:=lH hlt;clear hm hmm
    go_upto_region 13 with fail
    clear a0 a1 a2 a3 hmb hkI hk0 hkn;have hz:Below wr.heap.size wr (wr.alloc (.cells #[.int .i64 m.kind,.string m.name,.string m.txt,.int .i64 m.wt] 57)):=bA;have HMB:=lH (Blk.new wr 57 #[.int .i64 m.kind,.string m.name,.string m.txt,.int .i64 m.wt]);have HBA:=lH (HBL.o.tm hz);have HOA:=lH (HO.o.keep hz);clear hz HBL HO;generalize wr.alloc (.cells #[.int .i64 m.kind,.string m.name,.string m.txt,.int .i64 m.wt] 57)=wa at *;generalize wr.heap.size=gm at *
    go_wp2_with fail
    refine (hasInt_any A3 rl c3 (natJ r) (i:Int) wa (HI.o.bm HBA.o) (by omega)).mono ?_;rintro e w5 ⟨rfl,rfl⟩
    by_cases hin:i∈r
    ·rw [natJ_any.2 hin]
     have HLE:Hid (leftR r ms (i+1)=leftR r ms i):=lH (leftR_in hin);clear hin
     go_wp2_with fail
     go_roundw
     case rel=>exact ⟨i+1,c7,N,A7,HLT.o,val_int HNX.o,rfl,by rw [HLE.o];exact HOA.o,HBA.o⟩
     case measure=>exact HNM.o
    ·rw [show (natJ r).any (· == (i:Int))=false from by rw [Bool.eq_false_iff];exact fun e=>hin (natJ_any.1 e)]
     have HLE:Hid (leftR r ms (i+1)=leftR r ms i++[m]):=lH (leftR_out hin HMJ.o);clear hin;have x0:=HMB.o.cell 0;have x1:=HMB.o.cell 1;have x2:=HMB.o.cell 2;have x3:=HMB.o.cell 3;have xl:=HMB.o.lt;have hz:Below wa.heap.size wa (wa.alloc (.cells #[.int .i64 m.kind,.string m.name,.string m.txt,.int .i64 m.wt] 57)):=bA;have HZA:=lH hz;have HOZ:=lH (HOA.o.keep hz);have HLZ:Hid (RdMi (wa.alloc (.cells #[.int .i64 m.kind,.string m.name,.string m.txt,.int .i64 m.wt] 57)) (wa.alloc (.cells #[.int .i64 m.kind,.string m.name,.string m.txt,.int .i64 m.wt] 57)).heap.size (some ⟨wa.heap.size,0,none⟩) 1 [m]):=lH (rdMi_one m);clear hz HOA
     go_wp2_with (at_builtin;refine wpList_appMi rfl (.tmp 47) (.tmp 49) _ rfl w3.heap.size Tryz.underlying31 (.slice A7 N c7) _ rfl HOZ.o (some ⟨wa.heap.size,0,none⟩) 1 1 [m] rfl HLZ.o ?k1 ?k2 (N+1) ?k3 ?_)
     case k1=>have:=HOZ.o.rd2.1.1;have:=HNL.o;omega
     case k2=>have:=HBA.o.size;have:=HZA.o.size;omega
     case k3=>rw [zE_,HOZ.o.rd2.1.1];rfl
     intro Ax cx v3 ho3 hb3 _;have HO3:Hid (OwnMi v3 w3.heap.size (.slice Ax (N+1) cx) (leftR r ms (i+1))):=lH (by rw [HLE.o];exact ho3);have HB3x:=lH ((HBA.o.tm HZA.o).trans hb3);clear ho3 hb3 HOZ HLZ HZA x0 x1 x2 x3 xl;have hlt:i<ms.length:=HLT.o
     go_wp2_with fail
     go_roundw
     case rel=>exact ⟨i+1,cx,N+1,Ax,HLT.o,val_int HNX.o,rfl,HO3.o,HB3x.o⟩
     case measure=>exact HNM.o
   ·have hie:i=ms.length:=by omega
    subst hie;have hkI:¬(ms.length:Int)<(ms.length:Int):=by omega
    have hN:N+rl=ms.length:=by rw [←HSUM.o,HO.o.rd2.1.1]
    have HRL:=lH HO.o.rd2.1;have PNX:=P0.o.bl HBL.o;obtain ⟨y0,y1,y2,y3,y4,y5,nf,nlt⟩:=net_box PNX;dsimp only at y0 y1 y2 y3 y4 y5;clear PNX
    go_wp2_with fail
    clear y0 y1 y2 y3 y4 y5 nf nlt;refine (resid_any _ x h8 A7 N c7 (leftR r ms ms.length) wr (HX.o.up HBL.o) HRL.o HZL.o (by omega) (HT.o.up HBL.o)).mono ?_;rintro e w6 ⟨hb6,hg6⟩;have HB6:=lH (HB3.o.trans ((HBL.o.tm hb6).mono HB3.o.size));clear hb6;rcases hg6 with ⟨d,hd,h1,rfl⟩ | ⟨-,h2,-⟩
    ·exact absurd (h1.one HE1.o) hd
    obtain ⟨A6,n6,c6,rfl,hr6,-,-⟩:=h2 fun q hq=>by rw [HQ1.o q hq];exact fits_s (by decide+kernel)
    have hn6:n6=N:=by rw [←hr6.1,zG_,residR_len];exact HRL.o.1
    subst hn6;have HR6:=lH hr6;have HTX:Hid (∀ t∈(residR x (leftR r ms ms.length) (estR x (leftR r ms ms.length))).map txtQ,t=⟨#[48]⟩):=lH fun t ht=>by
     obtain ⟨q,hq,rfl⟩:=List.mem_map.1 ht;rw [HQ1.o q hq];exact es_txt.1
    clear h2 hr6;generalize (residR x (leftR r ms ms.length) (estR x (leftR r ms ms.length))).map txtQ=tl at *;have hs1:((n6:Int) != (n6:Int))=false:=by simp
    have hs2:((n6:Int)+(rl:Int) != (ms.length:Int))=false:=by
     have:(n6:Int)+(rl:Int)=(ms.length:Int):=by omega
     simp [this]
    have hn8:n6≤8:=by omega
    go_wp2_with fail
    go_loopw [79] (fun v79 wr=>∃ j:Nat,j≤n6∧v79=.int .i64 j∧Below w6.heap.size w6 wr) (fun v79 _=>n6-(intOf v79).toNat)
    case atStart=>exact ⟨0,by omega,rfl,bR⟩
    case round=>
     obtain ⟨j,hj,rfl,hw⟩:=hrel;have HBM:=lH hw;clear hw
     by_cases hlt2:j<n6
     ·obtain ⟨t,ht⟩:∃ t,tl[j]?=some t:=zX_ (by rw [HR6.o.1];exact hlt2)
      have ht0:=HTX.o t (zC_ ht);subst ht0;have hrr:=HR6.o.below HBM.o lR;obtain ⟨rb,ro,hA,hrb⟩:=hrr.form (by omega);subst hA;have cr:=hrr.at_ ht;have hrl2:rb<wr.heap.size:=zJ_ hrb HBM.o.size;have hjI:(j:Int)<(n6:Int):=by omega
      have hj0:=lZ j
      have hjn:=zL_ j;have HNY:=lN j;have HNZ:Hid (n6-(j+1)<n6-j):=lH (by omega);have HLJ:=lH hlt2;clear ht hrr hrb
      go_wp2_with fail
      go_roundw
      case rel=>exact ⟨j+1,HLJ.o,val_int HNY.o,HBM.o⟩
      case measure=>exact HNZ.o
     ·have hjI:¬(j:Int)<(n6:Int):=by omega
      go_wp2_with fail
      go_ret;exact ⟨rfl,HB6.o.tm HBM.o⟩
end
end Go.Proofs.YthgdchffeigkbaaGreatDoor
