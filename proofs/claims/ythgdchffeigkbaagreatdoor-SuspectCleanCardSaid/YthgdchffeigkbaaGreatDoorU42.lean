import Derived.Test.YthgdchffeigkbaaGreatDoorU39
set_option linter.unusedVariables false
set_option linter.unusedSimpArgs false
namespace Go.Proofs.YthgdchffeigkbaaGreatDoor
set_option maxHeartbeats 8000000
set_option maxRecDepth 100000
section
open Go.ChangeShapes Go.WideShapes Go.ChangeAt Go.RowKit
attribute [local go_sem ↓] execOp_call_val
attribute [local go_sem] callVal_func setCell_drewN alloc_drewN sEq_walk
def SfitP (x:Net) (ms:List Mi) (w:World) (e:Ending) (w':World):Prop:=Below w.heap.size w w'∧((∃ c:Int,c≠0∧EstC x ms c∧e=.returned (.tuple #[.agg #[.pointer none,.slice none 0 0,.slice none 0 0,.slice none 0 0,.slice none 0 0],.int .i64 c]))∨
 (EstC x ms 0∧∃ fv,e=.returned (.tuple #[fv,.int .i64 0])∧FitF x ms w.heap.size w' fv))
theorem sfit_any (h:NetH) (x:Net) (h8:x.nodes.length≤8) (A:Option Addr) (n c:Nat) (ms:List Mi) (w:World) (r:RdNet w w.heap.size h x) (hm:RdMi w w.heap.size A n ms) (hz:∀ m∈ms,m.txt.size≤maxLen) (hn:n≤9223372036854775807) (ht:TabOk w) :
    Calls Tryz.prog 73 #[.agg h.cells,.slice A n c] w (SfitP x ms w):=by
 have Q0:Below w.heap.size w ((w.alloc (.cells h.cells 29)).alloc (.cells #[.pointer none,.slice none 0 0,.slice none 0 0,.slice none 0 0,.slice none 0 0] 95)):=(bA).alloc (by simp) _;have HW:=lH Q0;have P0:=lH ((Blk.new w 29 h.cells).alloc (.cells #[.pointer none,.slice none 0 0,.slice none 0 0,.slice none 0 0,.slice none 0 0] 95));have P4:Hid (Blk ((w.alloc (.cells h.cells 29)).alloc (.cells #[.pointer none,.slice none 0 0,.slice none 0 0,.slice none 0 0,.slice none 0 0] 95)) (w.heap.size+1) 95 #[.pointer none,.slice none 0 0,.slice none 0 0,.slice none 0 0,.slice none 0 0]):=lH (Blk.new_ (by simp));have HX:=lH (r.up Q0);have HM:=lH (hm.bm Q0);have HT:=lH (ht.up Q0);have HZ:=lH hz
 have HSZ:Hid (((w.alloc (.cells h.cells 29)).alloc (.cells #[.pointer none,.slice none 0 0,.slice none 0 0,.slice none 0 0,.slice none 0 0] 95)).heap.size=w.heap.size+1+1):=lH (by simp);clear Q0 hm r ht hz;obtain ⟨D0,r0,s0,D1,r1,s1,D2,r2,s2,D3,r3,s3,D4,r4,s4,D5,r5,s5⟩:=h;go_enter Tryz.func73,Tryz.ntmps73
 go_upto_region 1 with fail
 generalize (w.alloc (.cells (NetH.cells ⟨D0,r0,s0,D1,r1,s1,D2,r2,s2,D3,r3,s3,D4,r4,s4,D5,r5,s5⟩) 29)).alloc (.cells #[.pointer none,.slice none 0 0,.slice none 0 0,.slice none 0 0,.slice none 0 0] 95)=W at *;obtain ⟨y0,y1,y2,y3,y4,y5,nf,nlt⟩:=net_box P0.o;dsimp only at y0 y1 y2 y3 y4 y5
 go_wp2_with fail
 refine (angles_any _ x h8 A n c ms W HX.o HM.o HZ.o hn HT.o).mono ?_;rintro e w1 ⟨hb1,hcase⟩;have HB1:=lH hb1;clear hb1 y0 y1 y2 y3 y4 y5 nf nlt;rcases hcase with ⟨d,hd,hec,rfl⟩ | ⟨hec,A6,n6,c6,rfl,-,-,-⟩
 ·have HE:=lH hec
  have HD:=lH hd;have hdb:(d != 0)=true:=by simp [hd]
  clear hec hd;have P6:=lH (P4.o.bl HB1.o);have z0:=P6.o.cell 0;have z1:=P6.o.cell 1;have z2:=P6.o.cell 2;have z3:=P6.o.cell 3;have z4:=P6.o.cell 4;have zl:=P6.o.lt;have zf:=P6.o.frozen
  go_wp2_with fail
  have hq:=(fit_put (v0:=.pointer none) (v1:=.slice none 0 0) (v2:=.slice none 0 0) (v3:=.slice none 0 0) (v4:=.slice none 0 0) P6.o);have p0:=hq.cell 0;have p1:=hq.cell 1;have p2:=hq.cell 2;have p3:=hq.cell 3;have p4:=hq.cell 4;exact bodyPost_ret (v:=.tuple #[.agg #[.pointer none,.slice none 0 0,.slice none 0 0,.slice none 0 0,.slice none 0 0],.int .i64 d]) (by simp [results,Tryz.results73,go_sem,p0,p1,p2,p3,p4]) rfl ⟨below_fit (HW.o.trans (HB1.o.mono (by have:=HSZ.o;omega))) (Nat.le_succ _),.inl ⟨_,HD.o,HE.o,rfl⟩⟩
 ·obtain ⟨hck,hreg,hfits⟩:=hec.zero rfl
  obtain ⟨ok,hl,hmi⟩:=mtCk_ok hck;obtain ⟨hv,hwt⟩:=mtCk_val hck;have HE:=lH hec;have HR:=lH hreg;have HOK:=lH ok;have HMI:=lH hmi;have HV:=lH hv;have HWT:=lH hwt;have HN:Hid (n≤64):=lH (by have h1:=HM.o.1;omega);clear ok hl hmi hv hwt hck hreg hfits hec;have PNX:=P0.o.bl HB1.o;obtain ⟨y0,y1,y2,y3,y4,y5,nf,nlt⟩:=net_box PNX;dsimp only at y0 y1 y2 y3 y4 y5;clear PNX
  go_wp2_with fail
  refine (est_any _ x HOK.o h8 A n c ms w1 (HX.o.up HB1.o) (HM.o.bm HB1.o) HN.o HMI.o HV.o HWT.o).mono ?_;rintro e w2 ⟨hb2,hcase⟩;have HB2:=lH (HB1.o.tm hb2);clear hb2 y0 y1 y2 y3 y4 y5 nf nlt;rcases hcase with ⟨hreg,g,A1,c1,rfl⟩ | ⟨-,fv,rfl,hff⟩
  ·exact absurd HR.o hreg
  have HFF:=lH hff;clear hff;have HBW:Hid (w.heap.size+1<w1.heap.size):=lH (by have:=HB1.o.size;have:=HSZ.o;omega);obtain ⟨g,m,y,A1,c1,gi,ga,B1,d1,rfl,hf0,hf1,hf2,hf3,hf4,hf5,hf6⟩:=HFF.o;clear hf0 hf1 hf2 hf3 hf4 hf5 hf6;have hz:Below w2.heap.size w2 (w2.alloc (.cells #[.pointer (some ⟨g,0,none⟩),.slice A1 ms.length c1,.slice (some ⟨gi,0,none⟩) (freeL x).length (freeL x).length,.slice (some ⟨ga,0,none⟩) (busN x) (busN x),.slice B1 ms.length d1] 95)):=bA;have HZA:=lH hz;have HFB:=lH (Blk.new w2 95 #[.pointer (some ⟨g,0,none⟩),.slice A1 ms.length c1,.slice (some ⟨gi,0,none⟩) (freeL x).length (freeL x).length,.slice (some ⟨ga,0,none⟩) (busN x) (busN x),.slice B1 ms.length d1]);clear hz
  go_upto_region 5 with fail
  generalize w2.alloc (.cells #[.pointer (some ⟨g,0,none⟩),.slice A1 ms.length c1,.slice (some ⟨gi,0,none⟩) (freeL x).length (freeL x).length,.slice (some ⟨ga,0,none⟩) (busN x) (busN x),.slice B1 ms.length d1] 95)=wz at *;generalize hgt:w2.heap.size=gt at *;have HGT:=lH hgt;clear hgt;have HB3:Hid (Below W.heap.size W wz):=lH (HB2.o.trans (HZA.o.mono (by rw [←HGT.o];exact HB2.o.size)));have P6:=lH (P4.o.bl HB3.o);have HF3:Hid (FitF x ms w1.heap.size wz (.agg #[.pointer (some ⟨g,0,none⟩),.slice A1 ms.length c1,.slice (some ⟨gi,0,none⟩) (freeL x).length (freeL x).length,.slice (some ⟨ga,0,none⟩) (busN x) (busN x),.slice B1 ms.length d1])):=lH (HFF.o.up (by rw [HGT.o];exact HZA.o));clear HZA HFF;have z0:=P6.o.cell 0;have z1:=P6.o.cell 1;have z2:=P6.o.cell 2;have z3:=P6.o.cell 3;have z4:=P6.o.cell 4;have zl:=P6.o.lt;have zf:=P6.o.frozen;have x0:=HFB.o.cell 0;have x1:=HFB.o.cell 1
  have x2:=HFB.o.cell 2;have x3:=HFB.o.cell 3;have x4:=HFB.o.cell 4;have xl:=HFB.o.lt;have HU:=lH (un_put5 (p':=some ⟨g,0,none⟩) (B1:=A1) (k1:=ms.length) (d1:=c1) (B2:=some ⟨gi,0,none⟩) (k2:=(freeL x).length) (d2:=(freeL x).length) (B3:=some ⟨ga,0,none⟩) (k3:=busN x) (d3:=busN x) (B4:=B1) (k4:=ms.length) (d4:=d1) P6.o);have HQP:=lH (fit_put (v0:=.pointer (some ⟨g,0,none⟩)) (v1:=.slice A1 ms.length c1) (v2:=.slice (some ⟨gi,0,none⟩) (freeL x).length (freeL x).length) (v3:=.slice (some ⟨ga,0,none⟩) (busN x) (busN x)) (v4:=.slice B1 ms.length d1) P6.o);have HBF:=lH (below_fit (v0:=.pointer (some ⟨g,0,none⟩)) (v1:=.slice A1 ms.length c1) (v2:=.slice (some ⟨gi,0,none⟩) (freeL x).length (freeL x).length) (v3:=.slice (some ⟨ga,0,none⟩) (busN x) (busN x)) (v4:=.slice B1 ms.length d1) (HW.o.trans (HB3.o.mono (by have:=HSZ.o;omega))) (Nat.le_succ w.heap.size))
  go_wp2_with fail
  have p0:=HQP.o.cell 0;have p1:=HQP.o.cell 1;have p2:=HQP.o.cell 2;have p3:=HQP.o.cell 3;have p4:=HQP.o.cell 4;exact bodyPost_ret (v:=.tuple #[.agg #[.pointer (some ⟨g,0,none⟩),.slice A1 ms.length c1,.slice (some ⟨gi,0,none⟩) (freeL x).length (freeL x).length,.slice (some ⟨ga,0,none⟩) (busN x) (busN x),.slice B1 ms.length d1],.int .i64 0]) (by simp [results,Tryz.results73,go_sem,p0,p1,p2,p3,p4]) rfl ⟨HBF.o,.inr ⟨HE.o,_,rfl,(HF3.o.unP HU.o HBW.o).low (by have:=HBW.o;omega)⟩⟩
def ResP (x:Net) (ms:List Mi) (w:World) (e:Ending) (w':World):Prop:=Below w.heap.size w w'∧((∃ c:Int,c≠0∧EstC x ms c∧e=.returned (.tuple #[.slice none 0 0,.int .i64 c]))∨
 (EstC x ms 0∧((∀ q∈residR x ms (estR x ms),Fits q)→∃ A n c,e=.returned (.tuple #[.slice A n c,.int .i64 0])∧RdStr w' w'.heap.size A n ((residR x ms (estR x ms)).map txtQ)∧n≤c∧c≤maxLen)∧(¬(∀ q∈residR x ms (estR x ms),Fits q)→e=.returned (.tuple #[.slice none 0 0,.int .i64 2]))))
theorem resid_any (h:NetH) (x:Net) (h8:x.nodes.length≤8) (A:Option Addr) (n c:Nat) (ms:List Mi) (w:World) (r:RdNet w w.heap.size h x) (hm:RdMi w w.heap.size A n ms) (hz:∀ m∈ms,m.txt.size≤maxLen) (hn:n≤9223372036854775807) (ht:TabOk w) :
    Calls Tryz.prog 35 #[.agg h.cells,.slice A n c] w (ResP x ms w):=by
 have K0:Below w.heap.size w (w.alloc (.cells h.cells 29)):=bA;have HK:=lH K0;have P0:=lH (Blk.new w 29 h.cells);have HF:=lH (sfit_any h x h8 A n c ms (w.alloc (.cells h.cells 29)) (r.up K0) (hm.bm K0) hz hn (ht.up K0));have HT:=lH (ht.up K0);have HSZ:Hid (w.heap.size≤(w.alloc (.cells h.cells 29)).heap.size):=lH K0.size;have HML:Hid (ms.length=n):=lH hm.1;clear K0 hm r ht hz;obtain ⟨D0,r0,s0,D1,r1,s1,D2,r2,s2,D3,r3,s3,D4,r4,s4,D5,r5,s5⟩:=h;obtain ⟨y0,y1,y2,y3,y4,y5,nf,nlt⟩:=net_box P0.o;dsimp only at y0 y1 y2 y3 y4 y5;go_enter Tryz.func35,Tryz.ntmps35
 go_wp2_with fail
 generalize w.alloc (.cells (NetH.cells ⟨D0,r0,s0,D1,r1,s1,D2,r2,s2,D3,r3,s3,D4,r4,s4,D5,r5,s5⟩) 29)=W at *;refine HF.o.mono ?_;rintro e w1 ⟨hb1,hcase⟩;have HB1:=lH (HK.o.trans (hb1.mono HSZ.o));have HT1:=lH (HT.o.up hb1);clear hb1 y0 y1 y2 y3 y4 y5 nf nlt HF;rcases hcase with ⟨d,hd,hec,rfl⟩ | ⟨hec,fv,rfl,⟨g,m,y,A1,c1,gi,ga,B1,d1,rfl,hf0,hf1,hf2,hf3,hf4,hf5,hf6⟩⟩
 ·have HE:=lH hec
  have HD:=lH hd;have hdb:(d != 0)=true:=by simp [hd]
  clear hec hd
  go_wp2_with fail
  go_ret2;exact ⟨HB1.o.alloc HB1.o.size _,.inl ⟨d,HD.o,HE.o,rfl⟩⟩
 ·obtain ⟨hck,hreg,hfits⟩:=hec.zero rfl
  obtain ⟨ok,hl,hmi⟩:=mtCk_ok hck;have HE:=lH hec;have hz:Below w1.heap.size w1 (w1.alloc (.cells #[.pointer (some ⟨g,0,none⟩),.slice A1 ms.length c1,.slice (some ⟨gi,0,none⟩) (freeL x).length (freeL x).length,.slice (some ⟨ga,0,none⟩) (busN x) (busN x),.slice B1 ms.length d1] 95)):=bA;have HQ:=lH (hf6.bm hz);have HFB:=lH (Blk.new w1 95 #[.pointer (some ⟨g,0,none⟩),.slice A1 ms.length c1,.slice (some ⟨gi,0,none⟩) (freeL x).length (freeL x).length,.slice (some ⟨ga,0,none⟩) (busN x) (busN x),.slice B1 ms.length d1]);have HBZ:=lH (HB1.o.tm hz);have HT2:=lH (HT1.o.up hz);have HL:Hid (ms.length≤64):=lH hl;clear hec hf0 hf1 hf2 hf3 hf4 hf5 hf6 hck hreg hfits ok hl hmi hz
  go_upto_region 4 with fail
  generalize w1.alloc (.cells #[.pointer (some ⟨g,0,none⟩),.slice A1 ms.length c1,.slice (some ⟨gi,0,none⟩) (freeL x).length (freeL x).length,.slice (some ⟨ga,0,none⟩) (busN x) (busN x),.slice B1 ms.length d1] 95)=wz at *;generalize w1.heap.size=gt at *;have x4:=HFB.o.cell 4;have xl:=HFB.o.lt
  go_wp2_with fail
  refine (textvec_any B1 _ d1 (residR x ms (estR x ms)) wz HQ.o (by have:=HL.o;omega) HT2.o).mono ?_;rintro e w3 ⟨hb3,ht1,ht2⟩;have HB3:=lH (HBZ.o.tm hb3);have HTA:=lH ht1;have HTB:=lH ht2;clear hb3 ht1 ht2 x4 xl
  by_cases hf:∀ q∈residR x ms (estR x ms),Fits q
  ·obtain ⟨A7,n7,c7,rfl,hr7,h71,h72⟩:=HTA.o hf
   have HR7:=lH hr7;have HFI:=lH hf;clear hr7 HTA HTB hf
   go_wp2_with fail
   go_ret2;exact ⟨HB3.o,.inr ⟨HE.o,fun _=>⟨_,_,_,rfl,HR7.o,h71,h72⟩,fun h=>absurd HFI.o h⟩⟩
  ·obtain rfl:=HTB.o hf
   have HFI:=lH hf;clear HTA HTB hf
   go_wp2_with fail
   go_ret2;exact ⟨HB3.o,.inr ⟨HE.o,fun h=>absurd h HFI.o,fun _=>rfl⟩⟩
end
end Go.Proofs.YthgdchffeigkbaaGreatDoor
