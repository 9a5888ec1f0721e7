import Derived.Test.YthgdchffeigkbaaGreatDoorU32
import Derived.Test.YthgdchffeigkbaaGreatDoorU39
set_option linter.unusedVariables false
set_option linter.unusedSimpArgs false
namespace Go.Proofs.YthgdchffeigkbaaGreatDoor
set_option maxHeartbeats 4000000
set_option maxRecDepth 100000
section
open Go.ChangeShapes Go.WideShapes Go.ChangeAt Go.RowKit
attribute [local go_sem ↓] execOp_call_val
attribute [local go_sem] callVal_func setCell_drewN alloc_drewN sEq_walk
theorem RdStr.keepN {w:World} {g T i n:Nat} {A:Option Addr} {l:List ByteArray} {cs:Array Value} {y u:Value} (h:RdStr w w.heap.size A n l) (hb:Blk w g T cs) (hs:NoS cs) (hy:cs[i]?=some y):RdStr (w.setCell ⟨g,i,none⟩ u) (w.setCell ⟨g,i,none⟩ u).heap.size A n l:=by
 refine ⟨h.1,h.2.1,fun h0=>?_⟩;obtain ⟨b,off,e,hlt,hc⟩:=h.2.2 h0;have hbg:b≠g:=by
  rintro rfl;obtain ⟨z,hz⟩:∃ z,l[0]?=some z:=zX_ (by rw [h.1];exact h0);have:=hc 0 (.string z) (by unfold strsV;rw [zM_,hz];rfl);rw [Nat.add_zero,hb.cell] at this;exact hs _ _ this _ rfl
 refine ⟨b,off,e,by simpa [World.setCell] using hlt,fun j v hv=>?_⟩;rw [World.cell?_setCell_other _ _ _ _ (fun e2=>hbg (by injection e2 with e2;exact e2.symm))];exact hc j v hv
theorem two_nos {A B:Option Addr} {n c m d:Nat}:NoS #[.slice A n c,.slice B m d]:=fun i u h=>by
 have h2:=Array.mem_toList_iff.2 (Array.mem_of_getElem? h);simp only [List.mem_cons,List.not_mem_nil,or_false] at h2;rcases h2 with rfl | rfl<;>exact fun b e=>by cases e
def AngP (x:Net) (ms:List Mi) (w:World) (e:Ending) (w':World):Prop:=Below w.heap.size w w'∧((∃ c:Int,c≠0∧EstC x ms c∧e=.returned (.tuple #[.slice none 0 0,.int .i64 c]))∨
 (EstC x ms 0∧∃ A n c,e=.returned (.tuple #[.slice A n c,.int .i64 0])∧RdStr w' w'.heap.size A n ((estR x ms).map txtQ)∧n≤c∧c≤maxLen))
theorem angles_any (h:NetH) (x:Net) (h8:x.nodes.length≤8) (A:Option Addr) (n c:Nat) (ms:List Mi) (w:World) (r:RdNet w w.heap.size h x) (hm:RdMi w w.heap.size A n ms) (hz:∀ m∈ms,m.txt.size≤maxLen) (hn:n≤9223372036854775807) (ht:TabOk w) :
    Calls Tryz.prog 28 #[.agg h.cells,.slice A n c] w (AngP x ms w):=by
 have K0:Below w.heap.size w (w.alloc (.cells h.cells 29)):=bA;have HK:=lH K0;have P0:=lH (Blk.new w 29 h.cells);have HF:=lH (fit_any h x h8 A n c ms (w.alloc (.cells h.cells 29)) (r.up K0) (hm.bm K0) hz hn (ht.up K0));have HSZ:Hid (w.heap.size≤(w.alloc (.cells h.cells 29)).heap.size):=lH K0.size;clear K0 hm r ht hz;obtain ⟨D0,r0,s0,D1,r1,s1,D2,r2,s2,D3,r3,s3,D4,r4,s4,D5,r5,s5⟩:=h;obtain ⟨y0,y1,y2,y3,y4,y5,nf,nlt⟩:=net_box P0.o;dsimp only at y0 y1 y2 y3 y4 y5;go_enter Tryz.func28,Tryz.ntmps28
 go_wp2_with fail
 generalize w.alloc (.cells (NetH.cells ⟨D0,r0,s0,D1,r1,s1,D2,r2,s2,D3,r3,s3,D4,r4,s4,D5,r5,s5⟩) 29)=W at *;refine HF.o.mono ?_;rintro e w1 ⟨hb1,hcase⟩;have HB1:=lH (HK.o.trans (hb1.mono HSZ.o));clear hb1 y0 y1 y2 y3 y4 y5 nf nlt HF;rcases hcase with ⟨d,hd,hec,p,A1,n1,c1,A2,n2,c2,A3,n3,c3,A4,n4,c4,rfl⟩ | ⟨hec,fv,A6,n6,c6,rfl,⟨g,m,y,A1,c1,gi,ga,B1,d1,rfl,-⟩,hr6,h61,h62⟩
 ·have HE:=lH hec
  have HD:=lH hd;clear hec hd
  go_wp2_with fail
  go_ret2;exact ⟨HB1.o.alloc HB1.o.size _,.inl ⟨d,HD.o,HE.o,rfl⟩⟩
 ·have HE:=lH hec
  have HR6:=lH hr6;clear hec hr6
  go_wp2_with fail
  go_ret2;refine ⟨HB1.o.alloc HB1.o.size _,.inr ⟨HE.o,_,_,_,rfl,?_,h61,h62⟩⟩;have hb:Below w1.heap.size w1 (w1.alloc (.cells #[.pointer (some ⟨g,0,none⟩),.slice A1 ms.length c1,.slice (some ⟨gi,0,none⟩) (freeL x).length (freeL x).length,.slice (some ⟨ga,0,none⟩) (busN x) (busN x),.slice B1 ms.length d1] 95)):=bA;exact (HR6.o.below hb lR).more hb.size
def StC (x:Net) (ms:List Mi) (c:Int):Prop:=(EstC x ms c∧c≠0)∨(EstC x ms 0∧¬(∀ q∈flowsR x (estR x ms),Fits q)∧c=2)∨(EstC x ms 0∧(∀ q∈flowsR x (estR x ms),Fits q)∧c=0)
def StateP (x:Net) (ms:List Mi) (w:World) (e:Ending) (w':World):Prop:=Below w.heap.size w w'∧((∃ c:Int,c≠0∧StC x ms c∧e=.returned (.tuple #[.agg #[.slice none 0 0,.slice none 0 0],.int .i64 c]))∨
 (EstC x ms 0∧(∀ q∈flowsR x (estR x ms),Fits q)∧∃ A n c B m d,e=.returned (.tuple #[.agg #[.slice A n c,.slice B m d],.int .i64 0])∧(RdStr w' w'.heap.size A n ((estR x ms).map txtQ)∧n≤c∧c≤maxLen)∧RdStr w' w'.heap.size B m ((flowsR x (estR x ms)).map txtQ)∧m≤d∧d≤maxLen))
theorem state_any (h:NetH) (x:Net) (h8:x.nodes.length≤8) (A:Option Addr) (n c:Nat) (ms:List Mi) (w:World) (r:RdNet w w.heap.size h x) (hm:RdMi w w.heap.size A n ms) (hz:∀ m∈ms,m.txt.size≤maxLen) (hn:n≤9223372036854775807) (ht:TabOk w) :
    Calls Tryz.prog 18 #[.agg h.cells,.slice A n c] w (StateP x ms w):=by
 have Q0:Below w.heap.size w ((w.alloc (.cells h.cells 29)).alloc (.cells #[.slice none 0 0,.slice none 0 0] 37)):=(bA).alloc (by simp) _;have HW:=lH Q0;have P0:=lH ((Blk.new w 29 h.cells).alloc (.cells #[.slice none 0 0,.slice none 0 0] 37));have P4:Hid (Blk ((w.alloc (.cells h.cells 29)).alloc (.cells #[.slice none 0 0,.slice none 0 0] 37)) (w.heap.size+1) 37 #[.slice none 0 0,.slice none 0 0]):=lH (Blk.new_ (by simp));have HSZ:Hid (((w.alloc (.cells h.cells 29)).alloc (.cells #[.slice none 0 0,.slice none 0 0] 37)).heap.size=w.heap.size+1+1):=lH (by simp);have HF:=lH (fit_any h x h8 A n c ms _ (r.up Q0) (hm.bm Q0) hz hn (ht.up Q0));have HT:=lH (ht.up Q0);clear Q0 hm r ht hz;obtain ⟨D0,r0,s0,D1,r1,s1,D2,r2,s2,D3,r3,s3,D4,r4,s4,D5,r5,s5⟩:=h;go_enter Tryz.func18,Tryz.ntmps18
 go_upto_region 1 with fail
 generalize (w.alloc (.cells (NetH.cells ⟨D0,r0,s0,D1,r1,s1,D2,r2,s2,D3,r3,s3,D4,r4,s4,D5,r5,s5⟩) 29)).alloc (.cells #[.slice none 0 0,.slice none 0 0] 37)=W at *;obtain ⟨y0,y1,y2,y3,y4,y5,nf,nlt⟩:=net_box P0.o;dsimp only at y0 y1 y2 y3 y4 y5
 go_wp2_with fail
 refine HF.o.mono ?_;rintro e w1 ⟨hb1,hcase⟩;have HB1:=lH hb1;clear hb1 y0 y1 y2 y3 y4 y5 nf nlt HF;rcases hcase with ⟨d,hd,hec,p,A1,n1,c1,A2,n2,c2,A3,n3,c3,A4,n4,c4,rfl⟩ | ⟨hec,fv,A6,n6,c6,rfl,⟨g,m,y,A1,c1,gi,ga,B1,d1,rfl,hf0,hf1,hf2,hf3,hf4,hf5,hf6⟩,hr6,h61,h62⟩
 ·have HE:=lH hec
  have HD:=lH hd;have hdb:(d != 0)=true:=by simp [hd]
  clear hec hd;have P6:=lH ((P4.o.bl HB1.o).alloc (.cells #[.pointer p,.slice A1 n1 c1,.slice A2 n2 c2,.slice A3 n3 c3,.slice A4 n4 c4] 95));have P7:=lH (P4.o.bl HB1.o);have z0:=P7.o.cell 0;have z1:=P7.o.cell 1;have zl:=P7.o.lt;have zf:=P7.o.frozen
  go_wp2_with fail
  have p0:=(P7.o.set_ 0 (.slice none 0 0)).set_ 1 (.slice none 0 0);have p1:=p0.alloc (.cells #[.pointer p,.slice A1 n1 c1,.slice A2 n2 c2,.slice A3 n3 c3,.slice A4 n4 c4] 95);have q0:=p1.cell 0;have q1:=p1.cell 1;exact bodyPost_ret (v:=.tuple #[.agg #[.slice none 0 0,.slice none 0 0],.int .i64 d]) (by simp [results,Tryz.results18,go_sem,q0,q1]) rfl ⟨(((HW.o.trans (HB1.o.mono (by have:=HSZ.o;omega))).setCell (Nat.le_succ _) _).setCell (Nat.le_succ _) _).alloc (by have:=HB1.o.size;have:=HSZ.o;simp [World.setCell];omega) _,.inl ⟨d,HD.o,.inl ⟨HE.o,HD.o⟩,rfl⟩⟩
 ·obtain ⟨hck,hreg,hfits⟩:=hec.zero rfl
  obtain ⟨ok,hl,hmi⟩:=mtCk_ok hck;have HE:=lH hec;have HOK:=lH ok;have hz:Below w1.heap.size w1 (w1.alloc (.cells #[.pointer (some ⟨g,0,none⟩),.slice A1 ms.length c1,.slice (some ⟨gi,0,none⟩) (freeL x).length (freeL x).length,.slice (some ⟨ga,0,none⟩) (busN x) (busN x),.slice B1 ms.length d1] 95)):=bA;have HR6:=lH (hr6.bm hz);have HG:=lH (hf1.bl hz);have HRM:=lH (hf2.up hz);have HQ:=lH (hf5.bm hz);have HFB:=lH (Blk.new w1 95 #[.pointer (some ⟨g,0,none⟩),.slice A1 ms.length c1,.slice (some ⟨gi,0,none⟩) (freeL x).length (freeL x).length,.slice (some ⟨ga,0,none⟩) (busN x) (busN x),.slice B1 ms.length d1]);have HQS:Hid (∀ q∈estR x ms,qsz q≤100000000000):=lH fun q hq=>zI_ (fits_qsz (hfits q hq)) (by decide);have HBZ:=lH (HB1.o.tm hz)
  clear hec hr6 hf0 hf1 hf2 hf3 hf4 hf5 hf6 hck hreg hfits ok hl hmi hz
  go_upto_region 4 with fail
  generalize w1.alloc (.cells #[.pointer (some ⟨g,0,none⟩),.slice A1 ms.length c1,.slice (some ⟨gi,0,none⟩) (freeL x).length (freeL x).length,.slice (some ⟨ga,0,none⟩) (busN x) (busN x),.slice B1 ms.length d1] 95)=wz at *;generalize w1.heap.size=gt at *;have x0:=HFB.o.cell 0;have x3:=HFB.o.cell 3;have xl:=HFB.o.lt
  go_wp2_with fail
  refine (flows_any g m y x HOK.o (some ⟨ga,0,none⟩) (busN x) (busN x) (estR x ms) wz HG.o HRM.o HQ.o rfl HQS.o).mono ?_;rintro e w2 ⟨hb2,v2,us2,rfl,ho2⟩;obtain ⟨A2,c2,hv2,hrd2,-,-,-⟩:=ho2.rd;subst hv2;have HB2:=lH (HBZ.o.tm hb2);have HRD:=lH hrd2;replace HR6:=lH (HR6.o.bm hb2);have HFL:Hid ((flowsR x (estR x ms)).length≤1000000):=lH (by unfold flowsR;rw [zG_];have:=HOK.o.l2;omega);clear hb2 ho2 hrd2 x0 x3 xl HFB HG HRM HQ
  go_wp2_with fail
  refine (textvec_any A2 _ c2 (flowsR x (estR x ms)) w2 HRD.o HFL.o (HT.o.up HB2.o)).mono ?_;rintro e w3 ⟨hb3,ht1,ht2⟩;have HB3:=lH (HB2.o.tm hb3);replace HR6:=lH (HR6.o.bm hb3);have HT1:=lH ht1;have HT2:=lH ht2;have P7:=lH (P4.o.bl HB3.o);clear hb3 ht1 ht2;have z0:=P7.o.cell 0;have z1:=P7.o.cell 1;have zl:=P7.o.lt;have zf:=P7.o.frozen;have HBW:=lH (HW.o.trans (HB3.o.mono (by have:=HSZ.o;omega)))
  by_cases hf:∀ q∈flowsR x (estR x ms),Fits q
  ·obtain ⟨A7,n7,c7,rfl,hr7,h71,h72⟩:=HT1.o hf
   have HR7:=lH hr7;clear hr7 HT1 HT2
   go_wp2_with fail
   have k1:=P7.o.set_ 0 (.slice A6 n6 c6);have p1:=k1.set_ 1 (.slice A7 n7 c7);have q0:=p1.cell 0;have q1:=p1.cell 1;have a6:=(HR6.o.keepN (i:=0) (u:=.slice A6 n6 c6) P7.o two_nos rfl).keepN (i:=1) (u:=.slice A7 n7 c7) k1 two_nos rfl;have a7:=(HR7.o.keepN (i:=0) (u:=.slice A6 n6 c6) P7.o two_nos rfl).keepN (i:=1) (u:=.slice A7 n7 c7) k1 two_nos rfl;exact bodyPost_ret (v:=.tuple #[.agg #[.slice A6 n6 c6,.slice A7 n7 c7],.int .i64 0]) (by simp [results,Tryz.results18,go_sem,q0,q1]) rfl ⟨(HBW.o.setCell (Nat.le_succ _) _).setCell (Nat.le_succ _) _,.inr ⟨HE.o,hf,_,_,_,_,_,_,rfl,⟨a6,h61,h62⟩,a7,h71,h72⟩⟩
  ·obtain rfl:=HT2.o hf
   clear HT1 HT2
   go_wp2_with fail
   have p1:=(P7.o.set_ 0 (.slice none 0 0)).set_ 1 (.slice none 0 0);have q0:=p1.cell 0;have q1:=p1.cell 1;exact bodyPost_ret (v:=.tuple #[.agg #[.slice none 0 0,.slice none 0 0],.int .i64 2]) (by simp [results,Tryz.results18,go_sem,q0,q1]) rfl ⟨(HBW.o.setCell (Nat.le_succ _) _).setCell (Nat.le_succ _) _,.inl ⟨2,by decide,.inr (.inl ⟨HE.o,hf,rfl⟩),rfl⟩⟩
def GnP (x:Net) (ms:List Mi) (w:World) (e:Ending) (w':World):Prop:=Below w.heap.size w w'∧((mtCk x ms≠0∧e=.returned (.tuple #[.slice none 0 0,.int .i64 (mtCk x ms)]))∨
 (mtCk x ms=0∧((∀ a∈gainR (freeL x).length (rowsR x ms) ms,∀ q∈a,Fits q)→∃ v hs,e=.returned (.tuple #[v,.int .i64 0])∧VecS w' w.heap.size v hs ((gainR (freeL x).length (rowsR x ms) ms).map fun a=>a.map txtQ))∧(¬(∀ a∈gainR (freeL x).length (rowsR x ms) ms,∀ q∈a,Fits q)→e=.returned (.tuple #[.slice none 0 0,.int .i64 2]))))
theorem VecS.low {w:World} {base base':Nat} {v:Value} {hs:List Hd} {vss:List (List ByteArray)} (m:VecS w base v hs vss) (h:base'≤base):VecS w base' v hs vss:=⟨⟨m.own.1,by
 rcases m.own.2 with h1 | ⟨g,cap,cur,h1,h2,h3⟩
 ·exact .inl h1
 ·exact .inr ⟨g,cap,cur,h1,zI_ h h2,h3⟩⟩,m.len,m.rows⟩
theorem egain_any (h:NetH) (x:Net) (h8:x.nodes.length≤8) (A:Option Addr) (n c:Nat) (ms:List Mi) (w:World) (r:RdNet w w.heap.size h x) (hm:RdMi w w.heap.size A n ms) (hz:∀ m∈ms,m.txt.size≤maxLen) (hn:n≤9223372036854775807) (ht:TabOk w) :
    Calls Tryz.prog 38 #[.agg h.cells,.slice A n c] w (GnP x ms w):=by
 have K0:Below w.heap.size w (w.alloc (.cells h.cells 29)):=bA;have HK:=lH K0;have P0:=lH (Blk.new w 29 h.cells);have HX:=lH (r.up K0);have HM:=lH (hm.bm K0);have HT:=lH (ht.up K0);have HCK:=lH (mcheck_any h x A n c ms (w.alloc (.cells h.cells 29)) HX.o HM.o hz hn HT.o);have HSZ:Hid (w.heap.size≤(w.alloc (.cells h.cells 29)).heap.size):=lH K0.size;clear K0 hm r ht hz;obtain ⟨D0,r0,s0,D1,r1,s1,D2,r2,s2,D3,r3,s3,D4,r4,s4,D5,r5,s5⟩:=h;obtain ⟨y0,y1,y2,y3,y4,y5,nf,nlt⟩:=net_box P0.o;dsimp only at y0 y1 y2 y3 y4 y5;go_enter Tryz.func38,Tryz.ntmps38
 go_wp2_with fail
 generalize w.alloc (.cells (NetH.cells ⟨D0,r0,s0,D1,r1,s1,D2,r2,s2,D3,r3,s3,D4,r4,s4,D5,r5,s5⟩) 29)=W at *;refine HCK.o.mono ?_;rintro e w1 ⟨rfl,hb1⟩;have HB1:=lH hb1;clear hb1 y0 y1 y2 y3 y4 y5 nf nlt HCK
 by_cases hck:mtCk x ms=0
 ·obtain ⟨ok,hl,hmi⟩:=mtCk_ok hck
  have HC:=lH hck;have HOK:=lH ok;have HMI:=lH hmi;have HWT:=lH (mtCk_val hck).2;rw [hck];have hml:=HM.o.1;subst hml;have HN:Hid (ms.length≤64):=lH hl;clear ok hl hmi hck;have PNX:=P0.o.bl HB1.o;obtain ⟨y0,y1,y2,y3,y4,y5,nf,nlt⟩:=net_box PNX;dsimp only at y0 y1 y2 y3 y4 y5;clear PNX
  go_wp2_with fail
  refine (flowOf_any _ x HOK.o h8 w1 (HX.o.up HB1.o)).mono ?_;rintro e w2 ⟨hb2,g,m,A7,n7,c7,rfl,hg,hblk,hrd,-⟩;have HB2:=lH (HB1.o.tm hb2);have HG:=lH hblk;have HR:=lH hrd;have HN6:Hid ((freeL x).length=m.n6):=lH (by rw [←natJ_len];exact hrd.r6.len);clear hb2 hg hblk hrd HB1 y0 y1 y2 y3 y4 y5 nf nlt;obtain ⟨A0,n0,c0,A1,n1,c1,A2,n2,c2,A3,n3,c3,A4,n4,c4,A5,n5,c5,A6,n6,c6⟩:=m;dsimp only at HN6;have hn6:=HN6.o;subst hn6;have PNX:=P0.o.bl HB2.o;obtain ⟨y0,y1,y2,y3,y4,y5,nf,nlt⟩:=net_box PNX;dsimp only at y0 y1 y2 y3 y4 y5;clear PNX;have g6:w2.cell? ⟨g,6,none⟩=some (.slice A6 (freeL x).length c6):=HG.o.cell 6;have gl:=HG.o.lt
  go_upto_region 5 with fail
  have HB4:=lH (below_drew (Below.refl w2.heap.size w2));refine wp_region_last2 (S:=fun w'=>Below w2.heap.size w2 w') 14 _ _ (by kernel_rfl) (by kernel_rfl) (by kernel_rfl) rfl rfl (below_drew bR) (fun hHeld=>?_);simp only [zK_,List.take_zero];refine tkH 0 rfl ?_;refine tkH 1 rfl ?_;refine tkH 2 rfl ?_;refine tkH 4 rfl ?_;refine tkH 5 rfl ?_;refine tkH 6 rfl ?_;refine tkH 7 rfl ?_;refine tkH 8 rfl ?_;refine tkH 9 rfl ?_;clear y0 y1 y2 y3 y4 y5 nf nlt g6 gl;refine stepH 3 (by kernel_rfl) rfl (fun K hK=>?_);go_simp
  refine (orows_any _ x HOK.o h8 g ⟨A0,n0,c0,A1,n1,c1,A2,n2,c2,A3,n3,c3,A4,n4,c4,A5,n5,c5,A6,(freeL x).length,c6⟩ (.slice A7 n7 c7) A ms.length c ms _ (HX.o.up (HB2.o.tm HB4.o)) (HG.o.bl HB4.o) (HR.o.up HB4.o) ((HM.o.below (HB2.o.tm HB4.o) lR).more (zI_ HB2.o.size HB4.o.size)) HN.o HMI.o).mono ?_;rintro e w3 ⟨hb3,RA,rc,rfl,hrm,-,-⟩;have HB5:=lH (HB4.o.tm hb3);have HRM:=lH hrm;clear hb3 hrm;go_simp;refine hK.out _ _ ?_ (fun hHeld=>?_)
  ·exact HB5.o
  clear hK K
  try simp only [Act.put,sA_,sB_,sC_]
  refine stepH 10 (by kernel_rfl) rfl (fun K hK=>?_);go_simp;have HRO:=lH (rowsR_ok HOK.o HMI.o);have HF8:Hid ((freeL x).length≤8):=lH (freeL_len HOK.o h8);refine (gain_any RA A ms.length rc c (freeL x).length (rowsR x ms) ms w3 HRM.o ((HM.o.below (HB2.o.tm HB5.o) lR).more (zI_ HB2.o.size HB5.o.size)) HRO.o.1 HRO.o.2 HWT.o HF8.o HN.o).mono ?_;rintro e w4 ⟨hb4,gg,G,rfl,hG,hGo,hGe⟩;have hE:=gain_eq hGo hGe;subst hE;have HB6:=lH (HB5.o.tm hb4);have HGM:=lH hG;have HGW:Hid (∀ a∈gainR (freeL x).length (rowsR x ms) ms,a.length≤1000000):=lH fun a ha=>by rw [hGo.wid a ha];have:=HF8.o;omega
  clear hb4 hG hGo hGe;go_simp;refine hK.out _ _ ?_ (fun hHeld=>?_)
  ·exact HB6.o
  clear hK K
  try simp only [Act.put,sA_,sB_,sC_]
  refine stepH 11 (by kernel_rfl) rfl (fun K hK=>?_);go_simp;refine (mtext_any (some ⟨gg,0,none⟩) (freeL x).length (freeL x).length (gainR (freeL x).length (rowsR x ms) ms) w4 HGM.o (by have:=HF8.o;omega) HGW.o (HT.o.up (HB2.o.tm HB6.o))).mono ?_;rintro e w5 ⟨hb5,ht1,ht2⟩;have HB7:=lH (HB6.o.tm hb5);have HBE:=lH (HK.o.trans ((HB2.o.tm HB7.o).mono HSZ.o));have HLW:Hid (w.heap.size≤w4.heap.size):=lH (by have h1:=HSZ.o;have h2:=HB2.o.size;have h3:=HB6.o.size;omega);have HT1:=lH ht1;have HT2:=lH ht2;clear hb5 ht1 ht2 HB4 HB5
  by_cases hf:∀ a∈gainR (freeL x).length (rowsR x ms) ms,∀ q∈a,Fits q
  ·obtain ⟨v6,hs6,rfl,hvs⟩:=HT1.o hf
   have HVS:=lH (hvs.low HLW.o);have HF:=lH hf;clear hvs HT1 HT2 hf;go_simp;refine hK.out _ _ ?_ (fun hHeld=>?_)
   ·exact HB7.o
   clear hK K
   try simp only [Act.put,sA_,sB_,sC_]
   refine tkH 12 rfl ?_;refine tkH 13 rfl ?_;refine wpAnyH_done (by kernel_rfl) ?_ _;refine lastQ_go (by rfl) ?_;clear hHeld;go_simp;refine lastQ_go (by rfl) ?_
   go_wp2_with fail
   go_ret2;exact ⟨HBE.o,.inr ⟨HC.o,fun _=>⟨_,_,rfl,HVS.o⟩,fun h=>absurd HF.o h⟩⟩
  ·obtain rfl:=HT2.o hf
   clear HT1 HT2;go_simp;refine hK.out _ _ ?_ (fun hHeld=>?_)
   ·exact HB7.o
   clear hK K
   try simp only [Act.put,sA_,sB_,sC_]
   refine tkH 12 rfl ?_;refine tkH 13 rfl ?_;refine wpAnyH_done (by kernel_rfl) ?_ _;refine lastQ_go (by rfl) ?_;clear hHeld;go_simp;refine lastQ_go (by rfl) ?_
   go_wp2_with fail
   go_ret2;exact ⟨HBE.o,.inr ⟨HC.o,fun h=>absurd h hf,fun _=>rfl⟩⟩
 ·have hckB:(mtCk x ms != 0)=true:=by simp [hck]
  go_wp2_with fail
  go_ret2;exact ⟨HK.o.trans (HB1.o.mono HSZ.o),.inl ⟨hck,rfl⟩⟩
end
end Go.Proofs.YthgdchffeigkbaaGreatDoor
