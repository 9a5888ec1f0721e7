import Derived.Test.YthgdchffeigkbaaGreatDoorU40
import Derived.Test.YthgdchffeigkbaaGreatDoorU43
import Derived.Test.YthgdchffeigkbaaGreatDoorU44
set_option linter.unusedVariables false
set_option linter.unusedSimpArgs false
namespace Go.Proofs.YthgdchffeigkbaaGreatDoor
set_option maxHeartbeats 8000000
set_option maxRecDepth 100000
section
def esL:List Mi:=[⟨0,⟨#[76]⟩,⟨#[52]⟩,1⟩,⟨0,⟨#[76]⟩,⟨#[54]⟩,1⟩,⟨0,⟨#[77]⟩,⟨#[50]⟩,1⟩]
def esA:List ByteArray:=[⟨#[48]⟩,⟨#[45,53]⟩,⟨#[45,54]⟩]
theorem es_ck:mtCk pnNet esL=0∧mtCk pnNet (esL.take 1)=0∧readE pnNet esL esA=0:=by decide+kernel
theorem es_sz:∀ m∈esL,m.txt.size≤maxLen:=by decide+kernel
theorem es_sz1:∀ m∈esL.take 1,m.txt.size≤maxLen:=fun m hm=>es_sz m (List.mem_of_mem_take hm)
theorem es_szA:∀ s∈esA,s.size≤maxLen:=by decide+kernel
theorem es_reg:EReg pnNet esL:=by unfold EReg Reg;decide+kernel
theorem es_est:estR pnNet esL=[0,-5,-6]:=by decide+kernel
theorem es_flow:flowsR pnNet [0,-5,-6]=[5,2]:=by decide+kernel
theorem es_cost:costR pnNet esL (esA.map qOf)=2:=by decide+kernel
theorem es_gain:gainR (freeL pnNet).length (rowsR pnNet (esL.take 1)) (esL.take 1)=[[1,0],[0,0]]:=by decide+kernel
theorem es_txt:txtQ 0=⟨#[48]⟩∧txtQ (-5)=⟨#[45,53]⟩∧txtQ (-6)=⟨#[45,54]⟩∧txtQ 5=⟨#[53]⟩∧txtQ 2=⟨#[50]⟩∧txtQ 1=⟨#[49]⟩:=by decide+kernel
theorem fits_s {q:Rat} (h:q.num.natAbs<10^5∧q.den<10^5):Fits q:=Tn.fits (k:=5) h (by decide)
theorem es_fit:∀ q∈estR pnNet esL,Fits q:=by
 rw [es_est];intro q hq;simp only [List.mem_cons,List.not_mem_nil,or_false] at hq;rcases hq with rfl | rfl | rfl<;>exact fits_s (by decide+kernel)
theorem es_ffit:∀ q∈flowsR pnNet (estR pnNet esL),Fits q:=by
 rw [es_est,es_flow];intro q hq;simp only [List.mem_cons,List.not_mem_nil,or_false] at hq;rcases hq with rfl | rfl<;>exact fits_s (by decide+kernel)
theorem es_cfit:Fits (costR pnNet esL (esA.map qOf)):=by rw [es_cost];exact fits_s (by decide+kernel)
theorem es_gfit:∀ a∈gainR (freeL pnNet).length (rowsR pnNet (esL.take 1)) (esL.take 1),∀ q∈a,Fits q:=by
 rw [es_gain];intro a ha q hq;simp only [List.mem_cons,List.not_mem_nil,or_false] at ha;rcases ha with rfl | rfl<;>simp only [List.mem_cons,List.not_mem_nil,or_false] at hq<;>rcases hq with rfl | rfl<;>exact fits_s (by decide+kernel)
theorem es_vec:(estR pnNet esL).map txtQ=esA∧(flowsR pnNet (estR pnNet esL)).map txtQ=[⟨#[53]⟩,⟨#[50]⟩]∧txtQ (costR pnNet esL (esA.map qOf))=⟨#[50]⟩∧(gainR (freeL pnNet).length (rowsR pnNet (esL.take 1)) (esL.take 1)).map (fun a=>a.map txtQ)=[[⟨#[49]⟩,⟨#[48]⟩],[⟨#[48]⟩,⟨#[48]⟩]]:=by
 obtain ⟨h0,h1,h2,h3,h4,h5⟩:=es_txt;rw [es_est,es_flow,es_cost,es_gain];simp only [List.map_cons,List.map_nil,h0,h1,h2,h3,h4,h5,esA,and_self]
end
section
open Go.ChangeShapes Go.WideShapes Go.ChangeAt Go.RowKit
attribute [local go_sem ↓] execOp_call_val
attribute [local go_sem] callVal_func setCell_drewN alloc_drewN sEq_walk
theorem es_code:EstC pnNet esL 0:=.inr (.inr (.inr ⟨es_ck.1,es_reg,es_fit,rfl⟩))
theorem es_ang {w w':World} {e:Ending} (h:AngP pnNet esL w e w'):Below w.heap.size w w'∧∃ A c,e=.returned (.tuple #[.slice A 3 c,.int .i64 0])∧RdStr w' w'.heap.size A 3 esA:=by
 obtain ⟨hb,⟨c,h0,h1,-⟩ | ⟨-,A,n,c,rfl,h2,-,-⟩⟩:=h
 ·exact absurd (h1.one es_code) h0
 ·rw [es_vec.1] at h2
  have hn:n=3:=h2.1.symm;subst hn;exact ⟨hb,A,c,rfl,h2⟩
theorem es_state {w w':World} {e:Ending} (h:StateP pnNet esL w e w'):Below w.heap.size w w'∧∃ A n c B d,e=.returned (.tuple #[.agg #[.slice A n c,.slice B 2 d],.int .i64 0])∧RdStr w' w'.heap.size B 2 [⟨#[53]⟩,⟨#[50]⟩]:=by
 obtain ⟨hb,⟨c,h0,⟨h1,-⟩ | ⟨-,h1,-⟩ | ⟨-,-,h1⟩,-⟩ | ⟨-,-,A,n,c,B,m,d,rfl,-,h3,-⟩⟩:=h
 ·exact absurd (h1.one es_code) h0
 ·exact absurd es_ffit h1
 ·exact absurd h1 h0
 ·rw [es_vec.2.1] at h3
  have hn:m=2:=h3.1.symm;subst hn;exact ⟨hb,A,n,c,B,d,rfl,h3⟩
theorem es_costP {w w':World} {e:Ending} (h:CostP pnNet esL esA w e w'):Below w.heap.size w w'∧e=.returned (.tuple #[.string ⟨#[50]⟩,.int .i64 0]):=by
 obtain ⟨hb,⟨h0,-⟩ | ⟨-,h1,-⟩⟩:=h
 ·exact absurd es_ck.2.2 h0
 ·have:=h1 es_cfit
  rw [es_vec.2.2.1] at this;exact ⟨hb,this⟩
theorem es_gainP {w w':World} {e:Ending} (h:GnP pnNet (esL.take 1) w e w'):Below w.heap.size w w'∧∃ (A:Option Addr) (c:Nat) (u v:Vc),e=.returned (.tuple #[.slice A 2 c,.int .i64 0])∧RdVc w' w'.heap.size A 2 [u,v]∧u.ss=[⟨#[49]⟩,⟨#[48]⟩]∧u.n=2:=by
 obtain ⟨hb,⟨h0,-⟩ | ⟨-,h1,-⟩⟩:=h
 ·exact absurd es_ck.2.1 h0
 ·obtain ⟨v,hs,rfl,hv⟩:=h1 es_gfit
  rw [es_vec.2.2.2] at hv;obtain ⟨A,c,vs,hA,h2,h3,-,-⟩:=hv.rd;subst hA
  match vs,h3,h2 with
  | [u,v],h3,h2=>
   have e1:u.ss=[⟨#[49]⟩,⟨#[48]⟩]:=by injection h3
   exact ⟨hb,A,c,u,v,rfl,h2,e1,by rw [←(h2.2.2 u (by simp)).1.1,e1];rfl⟩
theorem eworks_any (w:World) (ht:TabOk w):Calls Tryz.prog 27 #[] w fun e w'=>e=.returned (.bool true)∧Below w.heap.size w w':=by
 have HT:=lH ht;clear ht;go_enter Tryz.func27,Tryz.ntmps27
 go_wp2_with fail
 refine (flowMeter_any ⟨#[76]⟩ ⟨#[52]⟩ w).mono ?_;rintro e w1 ⟨rfl,hb1⟩
 go_wp2_with fail
 refine (flowMeter_any ⟨#[76]⟩ ⟨#[54]⟩ w1).mono ?_;rintro e w2 ⟨rfl,hb2⟩
 go_wp2_with fail
 refine (flowMeter_any ⟨#[77]⟩ ⟨#[50]⟩ w2).mono ?_;rintro e w3 ⟨rfl,hb3⟩;have HB3:=lH (hb1.trans ((hb2.tm hb3).mono hb1.size));clear hb1 hb2 hb3
 go_upto_region 2 with fail
 have hz:Below w3.heap.size w3 (w3.alloc (.cells #[.int .i64 0,.string ⟨#[76]⟩,.string ⟨#[52]⟩,.int .i64 1,.int .i64 0,.string ⟨#[76]⟩,.string ⟨#[54]⟩,.int .i64 1,.int .i64 0,.string ⟨#[77]⟩,.string ⟨#[50]⟩,.int .i64 1] 57)):=bA;have HB4:=lH (HB3.o.tm hz);have HM4:Hid (RdMi (w3.alloc (.cells #[.int .i64 0,.string ⟨#[76]⟩,.string ⟨#[52]⟩,.int .i64 1,.int .i64 0,.string ⟨#[76]⟩,.string ⟨#[54]⟩,.int .i64 1,.int .i64 0,.string ⟨#[77]⟩,.string ⟨#[50]⟩,.int .i64 1] 57)) (w3.alloc (.cells #[.int .i64 0,.string ⟨#[76]⟩,.string ⟨#[52]⟩,.int .i64 1,.int .i64 0,.string ⟨#[76]⟩,.string ⟨#[54]⟩,.int .i64 1,.int .i64 0,.string ⟨#[77]⟩,.string ⟨#[50]⟩,.int .i64 1] 57)).heap.size (some ⟨w3.heap.size,0,none⟩) 3 esL):=lH ⟨rfl,rd_lit (vs:=esL.flatMap Mi.cells) (T:=57) (Blk.new w3 _ _) rfl (by simp)⟩;clear hz HB3
 generalize w3.alloc (.cells #[.int .i64 0,.string ⟨#[76]⟩,.string ⟨#[52]⟩,.int .i64 1,.int .i64 0,.string ⟨#[76]⟩,.string ⟨#[54]⟩,.int .i64 1,.int .i64 0,.string ⟨#[77]⟩,.string ⟨#[50]⟩,.int .i64 1] 57)=w4 at *;generalize w3.heap.size=gl at *;have HT4:=lH (HT.o.up HB4.o)
 go_wp2_with fail
 refine (pairNet_any w4).mono ?_;rintro e w5 ⟨h5,rfl,hr5,hb5⟩;have HB5:=lH (HB4.o.tm hb5);have HM5:=lH (HM4.o.bm hb5);have HR5:=lH hr5;have HT5:=lH (HT.o.up HB5.o);clear hb5 hr5 HB4 HM4 HT4
 go_wp2_with fail
 refine (angles_any h5 pnNet (by decide) _ 3 3 esL w5 HR5.o HM5.o es_sz (by decide) HT5.o).mono ?_;intro e w6 hh;obtain ⟨hb6,A6,c6,rfl,hs6⟩:=es_ang hh;have HB6:=lH (HB5.o.tm hb6);have HM6:=lH (HM5.o.bm hb6);have HA6:=lH hs6;clear hh hb6 hs6 HB5 HM5 HR5 HT5
 go_wp2_with fail
 refine (pairNet_any w6).mono ?_;rintro e w7 ⟨h7,rfl,hr7,hb7⟩;have HB7:=lH (HB6.o.tm hb7);have HM7:=lH (HM6.o.bm hb7);have HA7:=lH (HA6.o.bm hb7);have HR7:=lH hr7;have HT7:=lH (HT.o.up HB7.o);clear hb7 hr7 HB6 HM6 HA6
 go_wp2_with fail
 refine (ecost_any h7 pnNet (by decide) _ 3 3 esL A6 3 c6 esA w7 HR7.o HM7.o HA7.o es_sz es_szA (by decide) (by decide) HT7.o).mono ?_;intro e w8 hh;obtain ⟨hb8,rfl⟩:=es_costP hh;have HB8:=lH (HB7.o.tm hb8);have HM8:=lH (HM7.o.bm hb8);have HA8:=lH (HA7.o.bm hb8);clear hh hb8 HB7 HM7 HA7 HR7 HT7
 go_wp2_with fail
 refine (pairNet_any w8).mono ?_;rintro e w9 ⟨h9,rfl,hr9,hb9⟩;have HB9:=lH (HB8.o.tm hb9);have HM9:=lH (HM8.o.bm hb9);have HA9:=lH (HA8.o.bm hb9);have HR9:=lH hr9;have HT9:=lH (HT.o.up HB9.o);clear hb9 hr9 HB8 HM8 HA8
 go_wp2_with fail
 refine (state_any h9 pnNet (by decide) _ 3 3 esL w9 HR9.o HM9.o es_sz (by decide) HT9.o).mono ?_;intro e wx hh;obtain ⟨hbx,A10,n10,c10,B10,d10,rfl,hs10⟩:=es_state hh;have hz:Below wx.heap.size wx (wx.alloc (.cells #[.slice A10 n10 c10,.slice B10 2 d10] 37)):=bA;have hbx2:=hbx.tm hz;have HBx:=lH (HB9.o.tm hbx2);have HMx:=lH (HM9.o.bm hbx2);have HAx:=lH (HA9.o.bm hbx2);have HFx:=lH (hs10.bm hz);have HSx:=lH (Blk.new wx 37 #[.slice A10 n10 c10,.slice B10 2 d10]);clear hh hbx hbx2 hz hs10 HB9 HM9 HA9 HR9 HT9
 go_upto_region 5 with fail
 generalize wx.alloc (.cells #[.slice A10 n10 c10,.slice B10 2 d10] 37)=wb at *;generalize wx.heap.size=gx at *;have HM1:Hid (RdMi wb wb.heap.size (some ⟨gl,0,none⟩) 1 (esL.take 1)):=lH (HMx.o.take (m:=1) (by decide));have HB0:=lH (below_drew (Below.refl wb.heap.size wb));refine wp_region_last (S:=fun w'=>Below wb.heap.size wb w') 8 _ (by kernel_rfl) (by kernel_rfl) rfl (below_drew bR) (fun hHeld=>?_);simp only [zK_,List.take_zero];refine tkH 1 rfl ?_;refine tkH 2 rfl ?_;refine stepH 0 (by kernel_rfl) rfl (fun K hK=>?_);go_simp;refine (pairNet_any wb.drew).mono ?_;rintro e wc ⟨hc,rfl,hrc,hbc⟩;have HBa:Hid (Below wb.heap.size wb wc):=lH (HB0.o.tm hbc);have HRc:=lH hrc;clear hbc hrc;go_simp;refine hK.out _ _ ?_ (fun hHeld=>?_)
 ·exact HBa.o
 clear hK K
 try simp only [Act.put,sA_,sB_,sC_]
 refine stepH 3 (by kernel_rfl) rfl (fun K hK=>?_);go_simp;refine (egain_any hc pnNet (by decide) _ 1 3 (esL.take 1) wc HRc.o (HM1.o.bm HBa.o) es_sz1 (by decide) (HT.o.up (HBx.o.tm HBa.o))).mono ?_;intro e wd hh;obtain ⟨hbd,A11,c11,u11,v11,rfl,hv11,hu11,hun11⟩:=es_gainP hh;have HBb:Hid (Below wb.heap.size wb wd):=lH (HBa.o.tm hbd);have HV11:=lH hv11;clear hh hbd hv11;go_simp;refine hK.out _ _ ?_ (fun hHeld=>?_)
 ·exact HBb.o
 clear hK K
 try simp only [Act.put,sA_,sB_,sC_]
 refine tkH 4 rfl ?_;refine tkH 5 rfl ?_;refine tkH 6 rfl ?_;refine tkH 7 rfl ?_;refine wpAnyH_done (by kernel_rfl) ?_ _;refine lastQ_go (by rfl) ?_;clear hHeld;have HBE:=lH (HBx.o.tm HBb.o);have HAe:=lH (HAx.o.bm HBb.o);replace HAe:Hid (RdStr wd wd.heap.size A6 3 [⟨#[48]⟩,⟨#[45,53]⟩,⟨#[45,54]⟩]):=HAe;have HFe:=lH (HFx.o.bm HBb.o);have HSe:=lH (HSx.o.bl HBb.o);obtain ⟨vb,vo,hA11,hvb⟩:∃ vb vo,A11=some ⟨vb,vo,none⟩∧vb<wd.heap.size:=by
  obtain ⟨b,off,e,hlt,-⟩:=HV11.o.2.1.2 (by decide);exact ⟨b,off,e,hlt⟩
 subst hA11;have HVC:Hid (wd.cell? ⟨vb,vo,none⟩=some (.slice u11.A 2 u11.c)):=lH (by have h:=HV11.o.at_ (i:=0) rfl;rw [hun11] at h;exact h);have HVB:=lH hvb;have HUe:Hid (RdStr wd wd.heap.size u11.A 2 [⟨#[49]⟩,⟨#[48]⟩]):=lH (by have h:=(HV11.o.2.2 u11 (by simp)).1;rw [hu11,hun11] at h;exact h);clear HBx HAx HFx HSx HBa HBb HB0 HMx HM1 HRc HV11 hu11 hun11 hvb
 go_wp2_with fail
 have hz:Below wd.heap.size wd (wd.alloc (.cells #[.string ⟨#[48]⟩,.string ⟨#[45,53]⟩,.string ⟨#[45,54]⟩] 55)):=bA;have HL:Hid (RdStr (wd.alloc (.cells #[.string ⟨#[48]⟩,.string ⟨#[45,53]⟩,.string ⟨#[45,54]⟩] 55)) (wd.alloc (.cells #[.string ⟨#[48]⟩,.string ⟨#[45,53]⟩,.string ⟨#[45,54]⟩] 55)).heap.size (some ⟨wd.heap.size,0,none⟩) 3 [⟨#[48]⟩,⟨#[45,53]⟩,⟨#[45,54]⟩]):=lH (rdStr_lit (zs:=[⟨#[48]⟩,⟨#[45,53]⟩,⟨#[45,54]⟩]) (T:=55) (Blk.new_ (w:=wd) (by simp)) (by simp));replace HBE:=lH (HBE.o.tm hz);replace HAe:=lH (HAe.o.bm hz);replace HFe:=lH (HFe.o.bm hz);replace HUe:=lH (HUe.o.bm hz);replace HSe:=lH (HSe.o.bl hz);replace HVC:=lH ((hz.cell (p:=⟨vb,vo,none⟩) HVB.o).trans HVC.o);replace HVB:=lH (zJ_ HVB.o hz.size);clear hz
 generalize wd.alloc (.cells #[.string ⟨#[48]⟩,.string ⟨#[45,53]⟩,.string ⟨#[45,54]⟩] 55)=we at *;refine (samevec_any A6 3 c6 _ _ 3 3 _ we HAe.o HL.o (by decide) (by decide)).mono ?_;rintro e wf ⟨rfl,hb⟩;rw [decide_eq_true rfl];replace HBE:=lH (HBE.o.tm hb);replace HFe:=lH (HFe.o.bm hb);replace HUe:=lH (HUe.o.bm hb);replace HSe:=lH (HSe.o.bl hb);replace HVC:=lH ((hb.cell (p:=⟨vb,vo,none⟩) HVB.o).trans HVC.o);replace HVB:=lH (zJ_ HVB.o hb.size);clear hb HL;have s1:=HSe.o.cell 1;have sl:=HSe.o.lt;clear HAe
 go_wp2_with fail
 clear s1 sl;have hz:Below wf.heap.size wf (wf.alloc (.cells #[.string ⟨#[53]⟩,.string ⟨#[50]⟩] 55)):=bA;have HL:Hid (RdStr (wf.alloc (.cells #[.string ⟨#[53]⟩,.string ⟨#[50]⟩] 55)) (wf.alloc (.cells #[.string ⟨#[53]⟩,.string ⟨#[50]⟩] 55)).heap.size (some ⟨wf.heap.size,0,none⟩) 2 [⟨#[53]⟩,⟨#[50]⟩]):=lH (rdStr_lit (zs:=[⟨#[53]⟩,⟨#[50]⟩]) (T:=55) (Blk.new_ (w:=wf) (by simp)) (by simp));replace HBE:=lH (HBE.o.tm hz);replace HFe:=lH (HFe.o.bm hz);replace HUe:=lH (HUe.o.bm hz);replace HVC:=lH ((hz.cell (p:=⟨vb,vo,none⟩) HVB.o).trans HVC.o);replace HVB:=lH (zJ_ HVB.o hz.size);clear hz;generalize wf.alloc (.cells #[.string ⟨#[53]⟩,.string ⟨#[50]⟩] 55)=wg at *;refine (samevec_any B10 2 d10 _ _ 2 2 _ wg HFe.o HL.o (by decide) (by decide)).mono ?_;rintro e wh ⟨rfl,hb⟩;rw [decide_eq_true rfl]
 replace HBE:=lH (HBE.o.tm hb);replace HUe:=lH (HUe.o.bm hb);replace HVC:=lH ((hb.cell (p:=⟨vb,vo,none⟩) HVB.o).trans HVC.o);replace HVB:=lH (zJ_ HVB.o hb.size);clear hb HL;have v0:=HVC.o;have vl:=HVB.o;clear HFe
 go_wp2_with fail
 clear v0 vl;have hz:Below wh.heap.size wh (wh.alloc (.cells #[.string ⟨#[49]⟩,.string ⟨#[48]⟩] 55)):=bA;have HL:Hid (RdStr (wh.alloc (.cells #[.string ⟨#[49]⟩,.string ⟨#[48]⟩] 55)) (wh.alloc (.cells #[.string ⟨#[49]⟩,.string ⟨#[48]⟩] 55)).heap.size (some ⟨wh.heap.size,0,none⟩) 2 [⟨#[49]⟩,⟨#[48]⟩]):=lH (rdStr_lit (zs:=[⟨#[49]⟩,⟨#[48]⟩]) (T:=55) (Blk.new_ (w:=wh) (by simp)) (by simp));replace HBE:=lH (HBE.o.tm hz);replace HUe:=lH (HUe.o.bm hz);replace HVC:=lH ((hz.cell (p:=⟨vb,vo,none⟩) HVB.o).trans HVC.o);replace HVB:=lH (zJ_ HVB.o hz.size);clear hz;generalize wh.alloc (.cells #[.string ⟨#[49]⟩,.string ⟨#[48]⟩] 55)=wi at *;refine (samevec_any u11.A 2 u11.c _ _ 2 2 _ wi HUe.o HL.o (by decide) (by decide)).mono ?_;rintro e wj ⟨rfl,hb⟩;rw [decide_eq_true rfl];replace HBE:=lH (HBE.o.tm hb)
 clear hb HL
 go_wp2_with fail
 go_ret;exact ⟨rfl,HBE.o⟩
end
end Go.Proofs.YthgdchffeigkbaaGreatDoor
