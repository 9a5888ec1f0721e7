import Derived.Test.YtakllkkmofdpaaaGreatDoorU31
import Derived.Test.YtakllkkmofdpaaaGreatDoorU36
import Derived.Test.YtakllkkmofdpaaaGreatDoorU37
import Derived.Test.YtakllkkmofdpaaaGreatDoorU40
set_option linter.unusedVariables false
set_option linter.unusedSimpArgs false
namespace Go.Proofs.YtakllkkmofdpaaaGreatDoor
section
open Go.ChangeShapes Go.WideShapes Go.ChangeAt Go.RowKit
attribute [local go_sem ↓] execOp_call_val
attribute [local go_sem] callVal_func setCell_drewN alloc_drewN sEq_walk
def obsA (x : Net) (ms : List Mi) : Bool := decide ((rankA x ms).2.2 = 0) && decide ((rankA x ms).1 = (rankA x ms).2.1)
set_option maxRecDepth 100000 in
set_option maxHeartbeats 4000000 in
theorem obs_any (h : NetH) (x : Net) (h8 : x.nodes.length ≤ 8) (A : Option Addr) (n c : Nat) (ms : List Mi) (w : World) (r : RdNet w w.heap.size h x) (hm : RdMi w w.heap.size A n ms) (hz : ∀ m ∈ ms, m.txt.size ≤ maxLen) (hn : n ≤ 9223372036854775807) (ht : TabOk w) :
    Calls Tryz.prog 33 #[.agg h.cells, .slice A n c] w fun e w' => e = .returned (.tuple #[.bool (obsA x ms), .int .i64 (rankA x ms).2.2]) ∧ Below w.heap.size w w' := by
 have K0 : Below w.heap.size w (w.alloc (.cells h.cells 33)) := (Below.refl _ _).alloc (Nat.le_refl _) _
 have HK := Lib.hid K0
 have P0 := Lib.hid (Blk.new w 33 h.cells)
 have HSZ : Hid (w.heap.size ≤ (w.alloc (.cells h.cells 33)).heap.size) := Lib.hid K0.size
 have HRK := Lib.hid (orank_any h x h8 A n c ms (w.alloc (.cells h.cells 33)) (r.up K0) ((hm.below K0 (Nat.le_refl _)).more K0.size) hz hn (ht.up K0))
 have HOB : Hid (obsA x ms = (decide ((rankA x ms).2.2 = 0) && decide ((rankA x ms).1 = (rankA x ms).2.1))) := Lib.hid rfl
 generalize obsA x ms = ob at *
 generalize rankA x ms = ra at *
 obtain ⟨ra1, ra2, ra3⟩ := ra
 dsimp only at HRK HOB ⊢
 clear K0 hm r hz ht
 obtain ⟨D0, r0, s0, D1, r1, s1, D2, r2, s2, D3, r3, s3, D4, r4, s4, D5, r5, s5⟩ := h
 obtain ⟨y0, y1, y2, y3, y4, y5, nf, nlt⟩ := net_box (h := ⟨D0, r0, s0, D1, r1, s1, D2, r2, s2, D3, r3, s3, D4, r4, s4, D5, r5, s5⟩) P0.out
 dsimp only at y0 y1 y2 y3 y4 y5
 go_enter Tryz.func33, Tryz.ntmps33
 go_wp2_with fail
 generalize w.alloc (.cells (NetH.cells ⟨D0, r0, s0, D1, r1, s1, D2, r2, s2, D3, r3, s3, D4, r4, s4, D5, r5, s5⟩) 33) = W at *
 refine HRK.out.mono ?_
 rintro e w1 ⟨rfl, hb1⟩
 have HB1 := Lib.hid (HK.out.trans (hb1.mono HSZ.out))
 clear hb1 y0 y1 y2 y3 y4 y5 nf nlt HRK
 by_cases h3 : ra3 = 0
 ·subst h3
  by_cases h1 : ra1 = ra2
  ·subst h1
   go_wp2_with fail
   refine bodyPost_ret (v := .tuple #[.bool true, .int .i64 0]) (by simp [results, Tryz.results33, go_sem]) rfl ⟨by rw [HOB.out]; simp, HB1.out⟩
  ·have hb : (ra1 == ra2) = false := by simpa using h1
   go_wp2_with fail
   refine bodyPost_ret (v := .tuple #[.bool false, .int .i64 0]) (by simp [results, Tryz.results33, go_sem]) rfl ⟨by rw [HOB.out, decide_eq_false h1]; simp, HB1.out⟩
 ·have hb : (ra3 == 0) = false := by simpa using h3
  go_wp2_with fail
  refine bodyPost_ret (v := .tuple #[.bool false, .int .i64 ra3]) (by simp [results, Tryz.results33, go_sem]) rfl ⟨by rw [HOB.out, decide_eq_false h3]; simp, HB1.out⟩
end
section
open Go.ChangeShapes Go.WideShapes Go.ChangeAt Go.RowKit
attribute [local go_sem ↓] execOp_call_val
attribute [local go_sem] callVal_func setCell_drewN alloc_drewN sEq_walk
def pnL : List Mi := [⟨0, ⟨#[76]⟩, ⟨#[48]⟩, 1⟩, ⟨0, ⟨#[77]⟩, ⟨#[48]⟩, 1⟩, ⟨0, ⟨#[76]⟩, ⟨#[49]⟩, 1⟩]
theorem pn_rank : rankA pnNet pnL = (2, 2, 0) := by decide +kernel
theorem pn_ck : mtCk pnNet pnL = 0 ∧ mtCk pnNet (pnL.take 1) = 0 := by decide +kernel
theorem pn_crit : critR (rowsR pnNet pnL) = [1] := by decide +kernel
theorem pn_area : areaR pnNet (rowsR pnNet (pnL.take 1)) = [0, 0, 1] ∧ busN pnNet = 3 := by decide +kernel
theorem pn_obs : obsA pnNet pnL = true := by decide +kernel
theorem pn_sz : ∀ m ∈ pnL, m.txt.size ≤ maxLen := by decide +kernel
theorem pn_sz1 : ∀ m ∈ pnL.take 1, m.txt.size ≤ maxLen := fun m hm => pn_sz m (List.mem_of_mem_take hm)
set_option maxRecDepth 100000 in
set_option maxHeartbeats 4000000 in
theorem oworks_any (w : World) (ht : TabOk w) : Calls Tryz.prog 26 #[] w fun e w' => e = .returned (.bool true) ∧ Below w.heap.size w w' := by
 have HT := Lib.hid ht
 clear ht
 go_enter Tryz.func26, Tryz.ntmps26
 go_wp2_with fail
 refine (flowMeter_any ⟨#[76]⟩ ⟨#[48]⟩ w).mono ?_
 rintro e w1 ⟨rfl, hb1⟩
 go_wp2_with fail
 refine (flowMeter_any ⟨#[77]⟩ ⟨#[48]⟩ w1).mono ?_
 rintro e w2 ⟨rfl, hb2⟩
 go_wp2_with fail
 refine (flowMeter_any ⟨#[76]⟩ ⟨#[49]⟩ w2).mono ?_
 rintro e w3 ⟨rfl, hb3⟩
 have HB3 := Lib.hid (hb1.trans ((hb2.trans (hb3.mono hb2.size)).mono hb1.size))
 clear hb1 hb2 hb3
 go_upto_region 2 with fail
 have hz : Below w3.heap.size w3 (w3.alloc (.cells #[.int .i64 0, .string ⟨#[76]⟩, .string ⟨#[48]⟩, .int .i64 1, .int .i64 0, .string ⟨#[77]⟩, .string ⟨#[48]⟩, .int .i64 1, .int .i64 0, .string ⟨#[76]⟩, .string ⟨#[49]⟩, .int .i64 1] 57)) := (Below.refl _ _).alloc (Nat.le_refl _) _
 have HB4 := Lib.hid (HB3.out.trans (hz.mono HB3.out.size))
 have HM4 : Hid (RdMi (w3.alloc (.cells #[.int .i64 0, .string ⟨#[76]⟩, .string ⟨#[48]⟩, .int .i64 1, .int .i64 0, .string ⟨#[77]⟩, .string ⟨#[48]⟩, .int .i64 1, .int .i64 0, .string ⟨#[76]⟩, .string ⟨#[49]⟩, .int .i64 1] 57)) (w3.alloc (.cells #[.int .i64 0, .string ⟨#[76]⟩, .string ⟨#[48]⟩, .int .i64 1, .int .i64 0, .string ⟨#[77]⟩, .string ⟨#[48]⟩, .int .i64 1, .int .i64 0, .string ⟨#[76]⟩, .string ⟨#[49]⟩, .int .i64 1] 57)).heap.size (some ⟨w3.heap.size, 0, none⟩) 3 pnL) := Lib.hid ⟨rfl, rd_lit (vs := pnL.flatMap Mi.cells) (T := 57) (Blk.new w3 _ _) rfl (by simp)⟩
 clear hz HB3
 generalize w3.alloc (.cells #[.int .i64 0, .string ⟨#[76]⟩, .string ⟨#[48]⟩, .int .i64 1, .int .i64 0, .string ⟨#[77]⟩, .string ⟨#[48]⟩, .int .i64 1, .int .i64 0, .string ⟨#[76]⟩, .string ⟨#[49]⟩, .int .i64 1] 57) = w4 at *
 generalize w3.heap.size = gl at *
 have HT4 := Lib.hid (HT.out.up HB4.out)
 go_wp2_with fail
 refine (pairNet_any w4).mono ?_
 rintro e w5 ⟨h5, rfl, hr5, hb5⟩
 have HB5 := Lib.hid (HB4.out.trans (hb5.mono HB4.out.size))
 have HM5 := Lib.hid ((HM4.out.below hb5 (Nat.le_refl _)).more hb5.size)
 have HR5 := Lib.hid hr5
 have HT5 := Lib.hid (HT.out.up HB5.out)
 clear hb5 hr5 HB4 HM4 HT4
 go_wp2_with fail
 refine (orank_any h5 pnNet (by decide) _ 3 3 pnL w5 HR5.out HM5.out pn_sz (by decide) HT5.out).mono ?_
 rintro e w6 ⟨rfl, hb6⟩
 have HB6 := Lib.hid (HB5.out.trans (hb6.mono HB5.out.size))
 have HM6 := Lib.hid ((HM5.out.below hb6 (Nat.le_refl _)).more hb6.size)
 rw [pn_rank]
 clear hb6 HB5 HM5 HR5 HT5
 go_wp2_with fail
 refine (pairNet_any w6).mono ?_
 rintro e w7 ⟨h7, rfl, hr7, hb7⟩
 have HB7 := Lib.hid (HB6.out.trans (hb7.mono HB6.out.size))
 have HM7 := Lib.hid ((HM6.out.below hb7 (Nat.le_refl _)).more hb7.size)
 have HR7 := Lib.hid hr7
 have HT7 := Lib.hid (HT.out.up HB7.out)
 clear hb7 hr7 HB6 HM6
 go_wp2_with fail
 refine (crit_any h7 pnNet (by decide) _ 3 3 pnL w7 HR7.out HM7.out pn_sz (by decide) HT7.out).mono ?_
 rintro e w8 ⟨hb8, hh⟩
 rw [pn_ck.1, pn_crit] at hh
 rcases hh with ⟨h0, _⟩ | ⟨_, A8, c8, rfl, hrd8⟩
 ·exact absurd rfl h0
 have HB8 := Lib.hid (HB7.out.trans (hb8.mono HB7.out.size))
 have HM8 := Lib.hid ((HM7.out.below hb8 (Nat.le_refl _)).more hb8.size)
 have HI8 : Hid (RdI w8 w8.heap.size A8 1 [1]) := Lib.hid hrd8
 clear hb8 hrd8 HB7 HM7 HR7 HT7
 simp only [List.length_cons, List.length_nil, Nat.zero_add]
 go_upto_region 4 with fail
 have HM9 : Hid (RdMi w8 w8.heap.size (some ⟨gl, 0, none⟩) 1 (pnL.take 1)) := Lib.hid (HM8.out.take (m := 1) (by decide))
 have HB9 := Lib.hid (below_drew (Below.refl w8.heap.size w8))
 refine wp_region_last (S := fun w' => Below w8.heap.size w8 w') 8 _ (by kernel_rfl) (by kernel_rfl) rfl (below_drew (Below.refl _ _)) (fun hHeld => ?_)
 simp only [List.take_succ_cons, List.take_zero]
 refine tkH 1 rfl (by intro w' _ hcc; go_simp <;> with_reducible rfl) hHeld ?_
 try simp only [Act.put, sA_, sB_, sC_]
 refine tkH 2 rfl (by intro w' _ hcc; go_simp <;> with_reducible rfl) hHeld ?_
 try simp only [Act.put, sA_, sB_, sC_]
 refine stepH 0 (by kernel_rfl) rfl (fun K hK => ?_)
 go_simp
 refine (pairNet_any w8.drew).mono ?_
 rintro e w9 ⟨h9, rfl, hr9, hb9⟩
 have HBa : Hid (Below w8.heap.size w8 w9) := Lib.hid (HB9.out.trans (hb9.mono HB9.out.size))
 have HR9 := Lib.hid hr9
 clear hb9 hr9
 go_simp
 refine hK.out _ _ ?_ (fun hHeld => ?_)
 ·exact HBa.out
 clear hK K
 try simp only [Act.put, sA_, sB_, sC_]
 refine stepH 3 (by kernel_rfl) rfl (fun K hK => ?_)
 go_simp
 refine (areas_any h9 pnNet (by decide) _ 1 3 (pnL.take 1) w9 HR9.out ((HM9.out.below HBa.out (Nat.le_refl _)).more HBa.out.size) pn_sz1 (by decide) (HT.out.up (HB8.out.trans (HBa.out.mono HB8.out.size)))).mono ?_
 rintro e w10 ⟨hb10, hh⟩
 rw [pn_ck.2, pn_area.1, pn_area.2] at hh
 rcases hh with ⟨h0, _⟩ | ⟨_, A10, c10, rfl, hrd10⟩
 ·exact absurd rfl h0
 have HBb : Hid (Below w8.heap.size w8 w10) := Lib.hid (HBa.out.trans (hb10.mono HBa.out.size))
 have HI10 : Hid (RdI w10 w10.heap.size A10 3 [0, 0, 1]) := Lib.hid hrd10
 clear hb10 hrd10
 go_simp
 refine hK.out _ _ ?_ (fun hHeld => ?_)
 ·exact HBb.out
 clear hK K
 try simp only [Act.put, sA_, sB_, sC_]
 refine tkH 4 rfl (by intro w' _ hcc; go_simp <;> with_reducible rfl) hHeld ?_
 try simp only [Act.put, sA_, sB_, sC_]
 refine tkH 5 rfl (by intro w' _ hcc; go_simp <;> with_reducible rfl) hHeld ?_
 try simp only [Act.put, sA_, sB_, sC_]
 refine tkH 6 rfl (by intro w' _ hcc; go_simp <;> with_reducible rfl) hHeld ?_
 try simp only [Act.put, sA_, sB_, sC_]
 refine tkH 7 rfl (by intro w' _ hcc; go_simp <;> with_reducible rfl) hHeld ?_
 try simp only [Act.put, sA_, sB_, sC_]
 refine wpAnyH_done (by kernel_rfl) ?_ _
 refine lastQ_go (by rfl) ?_
 clear hHeld
 have HBc := Lib.hid (HB8.out.trans (HBb.out.mono HB8.out.size))
 have HMc := Lib.hid ((HM8.out.below HBb.out (Nat.le_refl _)).more HBb.out.size)
 have HIc := Lib.hid ((HI8.out.below HBb.out (Nat.le_refl _)).more HBb.out.size)
 clear HB8 HM8 HI8 HM9 HB9 HBa HBb HR9
 go_wp2_with fail
 refine (pairNet_any w10).mono ?_
 rintro e w11 ⟨h11, rfl, hr11, hb11⟩
 have HB11 := Lib.hid (HBc.out.trans (hb11.mono HBc.out.size))
 have HM11 := Lib.hid ((HMc.out.below hb11 (Nat.le_refl _)).more hb11.size)
 have HR11 := Lib.hid hr11
 have HT11 := Lib.hid (HT.out.up HB11.out)
 replace HIc := Lib.hid ((HIc.out.below hb11 (Nat.le_refl _)).more hb11.size)
 replace HI10 := Lib.hid ((HI10.out.below hb11 (Nat.le_refl _)).more hb11.size)
 clear hb11 hr11 HBc HMc
 go_wp2_with fail
 refine (obs_any h11 pnNet (by decide) _ 3 3 pnL w11 HR11.out HM11.out pn_sz (by decide) HT11.out).mono ?_
 rintro e w12 ⟨rfl, hb12⟩
 rw [pn_rank, pn_obs]
 have HB12 := Lib.hid (HB11.out.trans (hb12.mono HB11.out.size))
 replace HIc := Lib.hid ((HIc.out.below hb12 (Nat.le_refl _)).more hb12.size)
 replace HI10 := Lib.hid ((HI10.out.below hb12 (Nat.le_refl _)).more hb12.size)
 clear hb12 HB11 HM11 HR11 HT11
 go_wp2_with fail
 have hz13 : Below w12.heap.size w12 (w12.alloc (.cells #[.int .i64 1] 3)) := (Below.refl _ _).alloc (Nat.le_refl _) _
 have HJ13 : Hid (RdI (w12.alloc (.cells #[.int .i64 1] 3)) (w12.alloc (.cells #[.int .i64 1] 3)).heap.size (some ⟨w12.heap.size, 0, none⟩) 1 [1]) := Lib.hid (rd_lit (vs := ints [1]) (T := 3) (Blk.new w12 _ _) rfl (by simp))
 have HB13 := Lib.hid (HB12.out.trans (hz13.mono HB12.out.size))
 replace HIc := Lib.hid ((HIc.out.below hz13 (Nat.le_refl _)).more hz13.size)
 replace HI10 := Lib.hid ((HI10.out.below hz13 (Nat.le_refl _)).more hz13.size)
 clear hz13 HB12
 generalize w12.alloc (.cells #[.int .i64 1] 3) = w13 at *
 refine (sameInts_any A8 1 c8 [1] _ 1 1 [1] w13 HIc.out HJ13.out (by decide)).mono ?_
 rintro e w14 ⟨rfl, nq, rfl⟩
 have hz14 := below_drewN (Below.refl w13.heap.size w13) nq
 have HB14 := Lib.hid (below_drewN HB13.out nq)
 replace HI10 := Lib.hid ((HI10.out.below hz14 (Nat.le_refl _)).more hz14.size)
 clear hz14 HB13 HJ13 HIc
 generalize w13.drewN nq = w14 at *
 rw [show sameI [1] [1] = true from by decide]
 go_wp2_with fail
 have hz15 : Below w14.heap.size w14 (w14.alloc (.cells #[.int .i64 0, .int .i64 0, .int .i64 1] 3)) := (Below.refl _ _).alloc (Nat.le_refl _) _
 have HJ15 : Hid (RdI (w14.alloc (.cells #[.int .i64 0, .int .i64 0, .int .i64 1] 3)) (w14.alloc (.cells #[.int .i64 0, .int .i64 0, .int .i64 1] 3)).heap.size (some ⟨w14.heap.size, 0, none⟩) 3 [0, 0, 1]) := Lib.hid (rd_lit (vs := ints [0, 0, 1]) (T := 3) (Blk.new w14 _ _) rfl (by simp))
 have HB15 := Lib.hid (HB14.out.trans (hz15.mono HB14.out.size))
 replace HI10 := Lib.hid ((HI10.out.below hz15 (Nat.le_refl _)).more hz15.size)
 clear hz15 HB14
 generalize w14.alloc (.cells #[.int .i64 0, .int .i64 0, .int .i64 1] 3) = w15 at *
 refine (sameInts_any A10 3 c10 [0, 0, 1] _ 3 3 [0, 0, 1] w15 HI10.out HJ15.out (by decide)).mono ?_
 rintro e w16 ⟨rfl, nq, rfl⟩
 have HB16 := Lib.hid (below_drewN HB15.out nq)
 clear HB15 HJ15 HI10
 generalize w15.drewN nq = w16 at *
 rw [show sameI [0, 0, 1] [0, 0, 1] = true from by decide]
 go_wp2_with fail
 go_ret
 exact ⟨rfl, HB16.out⟩
end
section
open Go.ChangeShapes Go.WideShapes Go.ChangeAt Go.RowKit
attribute [local go_sem ↓] execOp_call_val
attribute [local go_sem] callVal_func setCell_drewN alloc_drewN sEq_walk
theorem small_parts {x : Net} {ms : List Mi} (h : smallR x ms [] = true) : x.nodes.length ≤ 8 ∧ ∀ m ∈ ms, m.txt.size ≤ maxLen := by
 unfold smallR at h
 simp only [Bool.and_eq_true, decide_eq_true_eq, List.all_eq_true] at h
 exact ⟨h.1.1.1, fun m hm => Nat.le_trans (h.1.2 m hm) (by decide)⟩
theorem rdVc_0 (w : World) (B : Nat) : RdVc w B none 0 [] := ⟨rfl, ⟨rfl, fun h => absurd h (by decide)⟩, fun v hv => by cases hv⟩
theorem rankA_eq {x : Net} {ms : List Mi} (h : mtCk x ms = 0) : rankA x ms = ((rankR (rowsR x ms) : Int), ((freeL x).length : Int), 0) := by unfold rankA; rw [if_pos h]
theorem rankA_bad {x : Net} {ms : List Mi} (h : mtCk x ms ≠ 0) : rankA x ms = (0, 0, mtCk x ms) := by unfold rankA; rw [if_neg h]
end
end Go.Proofs.YtakllkkmofdpaaaGreatDoor
