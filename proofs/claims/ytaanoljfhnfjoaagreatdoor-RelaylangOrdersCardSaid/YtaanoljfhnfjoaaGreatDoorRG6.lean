/- relaylangWorks. -/
import Derived.Test.YtaanoljfhnfjoaaGreatDoorRG5
import Derived.Test.YtaanoljfhnfjoaaGreatDoorRG4
import Derived.Test.YtaanoljfhnfjoaaGreatDoorRG2
import Derived.Test.YtaanoljfhnfjoaaGreatDoorRF9
import Derived.Test.YtaanoljfhnfjoaaGreatDoorDEr
import Derived.Test.YtaanoljfhnfjoaaGreatDoorIc
namespace Go.Proofs.YtaanoljfhnfjoaaGreatDoor
open Go.ChangeShapes Go.WideShapes Go.ChangeAt Go.RowKit
set_option linter.unusedVariables false
set_option linter.unusedSimpArgs false
attribute [local go_sem ↓] execOp_call_val
attribute [local go_sem] callVal_func setCell_drewN alloc_drewN sEq_walk

theorem two_of {hs : List Rh} {w : World} {B n : Nat} {A : Option Addr} (h : rls hs = prog0) (hr : RdRh w B A n hs) : n = 2 := by
  have h1 := congrArg List.length h
  unfold rls at h1
  rw [List.length_map, hr.len] at h1
  exact h1
theorem small2 : (2 : Nat) ≤ maxLen := by simp [maxLen]
set_option maxRecDepth 100000 in
set_option maxHeartbeats 8000000 in
theorem rlworks_any (w : World) (hE : EnvJ w) : Calls Tryz.prog 7 #[] w fun e w' => e = .returned (.bool true) ∧ Below w.heap.size w w' := by
  have HE := Lib.hid hE
  clear hE
  go_enter Tryz.func7, Tryz.ntmps7
  go_wp2_with fail
  refine (rules_any w).mono ?_
  rintro e w1 ⟨g1, n1, h1, rfl, hl1, hr1, hb1⟩
  obtain rfl : n1 = 2 := two_of hl1 hr1
  have HB1 := Lib.hid hb1
  have HR1 := Lib.hid hr1
  have HL1 := Lib.hid hl1
  clear hb1 hr1 hl1
  go_wp2_with fail
  refine (print_any (some ⟨g1, 0, none⟩) 2 2 h1 w1 HR1.out (Nat.le_refl _) small2 (fit0 HL1.out) (HE.out.up HB1.out)).mono ?_
  rintro e w2 ⟨hb2, hcs⟩
  rw [HL1.out] at hcs
  have HB2 := Lib.hid (HB1.out.trans (hb2.mono HB1.out.size))
  obtain rfl : e = .returned (.tuple #[.string txOut, .int .i64 0]) := by
    rcases hcs with ⟨h, _⟩ | ⟨_, ts, hts, hx⟩
    · exact absurd prog0_ck h
    · have ht := text0 hts
      have hln : (textT NM prog0 ts).length = txOut.size := by rw [← ht]; rfl
      rcases hx with ⟨h, _⟩ | ⟨_, h⟩
      · rw [hln] at h; exact absurd h (by decide)
      · rw [h, ht]
  clear hcs hb2
  go_wp2_with fail
  refine (parse_any txIn (by decide) w2 (HE.out.up HB2.out)).mono ?_
  rintro e w3 ⟨hb3, A3, n3, c3, h3, rfl, hr3, hl3, hn3, hc3, _⟩
  rw [parse_in.2.2] at hl3
  rw [parse_in.1, parse_in.2.1]
  obtain rfl : n3 = 2 := two_of hl3 hr3
  have HB3 := Lib.hid (HB2.out.trans (hb3.mono HB2.out.size))
  have HR3 := Lib.hid hr3
  have HL3 := Lib.hid hl3
  clear hb3 hr3 hl3
  go_wp2_with fail
  refine (rules_any w3).mono ?_
  rintro e w4 ⟨g4, n4, h4, rfl, hl4, hr4, hb4⟩
  obtain rfl : n4 = 2 := two_of hl4 hr4
  have HB4 := Lib.hid (HB3.out.trans (hb4.mono HB3.out.size))
  have HR4 := Lib.hid hr4
  have HL4 := Lib.hid hl4
  have HR34 := Lib.hid (HR3.out.up hb4)
  clear hb4 hr4 hl4
  go_wp2_with fail
  refine (inputs_any (some ⟨g4, 0, none⟩) 2 2 h4 w4 HR4.out (Nat.le_refl _) small2 (fit0 HL4.out)).mono ?_
  rintro e w5 ⟨hb5, hcs⟩
  rw [HL4.out] at hcs
  rcases hcs with ⟨h, _⟩ | ⟨_, FA, fc, VA, vc, rfl, hrf, hrv, hfc, hfl, hvl, hvc⟩
  · exact absurd prog0_ck h
  rw [in_f] at hrf hfl ⊢
  rw [in_v] at hrv hvl ⊢
  have HB5 := Lib.hid (HB4.out.trans (hb5.mono HB4.out.size))
  have HR35 := Lib.hid (HR34.out.up hb5)
  have HF5 := Lib.hid hrf
  have HV5 := Lib.hid hrv
  clear hb5 hrf hrv
  go_wp2_with fail
  refine (rules_any w5).mono ?_
  rintro e w6 ⟨g6, n6, h6, rfl, hl6, hr6, hb6⟩
  obtain rfl : n6 = 2 := two_of hl6 hr6
  have HB6 := Lib.hid (HB5.out.trans (hb6.mono HB5.out.size))
  have HR6 := Lib.hid hr6
  have HL6 := Lib.hid hl6
  have HR36 := Lib.hid (HR35.out.up hb6)
  have HF6 := Lib.hid (HF5.out.up hb6)
  have HV6 := Lib.hid (HV5.out.up hb6)
  clear hb6 hr6 hl6
  go_wp2_with fail
  refine (rorder_any (some ⟨g6, 0, none⟩) 2 2 h6 w6 HR6.out (Nat.le_refl _) small2 (fit0 HL6.out)).mono ?_
  rintro e w7 ⟨hb7, hcs⟩
  rw [HL6.out] at hcs
  rcases hcs with ⟨h, _⟩ | ⟨_, o, vo, ho, rfl, hown⟩
  · exact absurd prog0_ck h
  obtain rfl : o = [0, 1] := by rw [prog0_ord] at ho; injection ho with ho; exact ho.symm
  obtain ⟨OA, oc, rfl, hro, hoc, hocm, _⟩ := own_rd hown
  have HB7 := Lib.hid (HB6.out.trans (hb7.mono HB6.out.size))
  have HR37 := Lib.hid (HR36.out.up hb7)
  have HF7 := Lib.hid (HF6.out.up hb7)
  have HV7 := Lib.hid (HV6.out.up hb7)
  have HO7 := Lib.hid (show RdI w7 w7.heap.size OA 2 [0, 1] from hro)
  have hs36 : txOut.toList = [84, 32, 61, 32, 73, 32, 62, 32, 53, 48, 48, 32, 65, 78, 68, 32, 78, 79, 84, 32, 66, 10, 76, 32, 61, 32, 76, 65, 84, 67, 72, 40, 84, 44, 32, 82, 41, 10] := by rw [ByteArray.toList_eq]; rfl
  clear hb7 ho hown hro
  go_wp2_with fail
  refine (rules_any w7).mono ?_
  rintro e w8 ⟨g8, n8, h8, rfl, hl8, hr8, hb8⟩
  obtain rfl : n8 = 2 := two_of hl8 hr8
  have HB8 := Lib.hid (HB7.out.trans (hb8.mono HB7.out.size))
  have HR38 := Lib.hid (HR37.out.up hb8)
  have HR8 := Lib.hid hr8
  have HL8 := Lib.hid hl8
  have HF8 := Lib.hid (HF7.out.up hb8)
  have HV8 := Lib.hid (HV7.out.up hb8)
  have HO8 := Lib.hid (HO7.out.up hb8)
  clear hb8 hr8 hl8
  go_wp2_with fail
  refine (sameRules_yes A3 2 c3 h3 (some ⟨g8, 0, none⟩) 2 2 h8 w8 HR38.out HR8.out (by omega) (by rw [HL3.out, HL8.out])).mono ?_
  rintro e w9 ⟨rfl, k9, rfl⟩
  have HF9 := Lib.hid (HF8.out.up (below_drewN (Below.refl _ _) k9))
  have HV9 := Lib.hid (HV8.out.up (below_drewN (Below.refl _ _) k9))
  have HO9 := Lib.hid (HO8.out.up (below_drewN (Below.refl _ _) k9))
  have HB9 := Lib.hid (below_drewN HB8.out k9)
  generalize w8.drewN k9 = w9 at *
  go_wp2_with fail
  have hb10 : Below w9.heap.size w9 (w9.alloc (.cells #[.string ⟨#[66]⟩, .string ⟨#[82]⟩] 9)) := (Below.refl _ _).alloc (Nat.le_refl _) _
  have hl10 : RdStr (w9.alloc (.cells #[.string ⟨#[66]⟩, .string ⟨#[82]⟩] 9)) (w9.alloc (.cells #[.string ⟨#[66]⟩, .string ⟨#[82]⟩] 9)).heap.size (some ⟨w9.heap.size, 0, none⟩) 2 [⟨#[66]⟩, ⟨#[82]⟩] := rdStr_lit (T := 9) (zs := [⟨#[66]⟩, ⟨#[82]⟩]) (Blk.new _ _ _) (by simp)
  obtain ⟨q10, hq10⟩ : ∃ q, q = w9.heap.size := ⟨_, rfl⟩
  rw [← hq10] at hl10 ⊢
  generalize (w9.alloc (.cells #[.string ⟨#[66]⟩, .string ⟨#[82]⟩] 9)) = wa10 at *
  refine (sameTexts_yes FA 2 fc [⟨#[66]⟩, ⟨#[82]⟩] (some ⟨q10, 0, none⟩) 2 wa10 (HF9.out.up hb10) hl10 (by omega)).mono ?_
  rintro e w10 ⟨rfl, k10, rfl⟩
  have hbx10 := below_drewN hb10 k10
  have HV10 := Lib.hid (HV9.out.up hbx10)
  have HO10 := Lib.hid (HO9.out.up hbx10)
  have HB10 := Lib.hid (HB9.out.trans (hbx10.mono HB9.out.size))
  generalize wa10.drewN k10 = w10 at *
  clear hb10 hl10 hq10 hbx10
  go_wp2_with fail
  have hb11 : Below w10.heap.size w10 (w10.alloc (.cells #[.string ⟨#[73]⟩] 9)) := (Below.refl _ _).alloc (Nat.le_refl _) _
  have hl11 : RdStr (w10.alloc (.cells #[.string ⟨#[73]⟩] 9)) (w10.alloc (.cells #[.string ⟨#[73]⟩] 9)).heap.size (some ⟨w10.heap.size, 0, none⟩) 1 [⟨#[73]⟩] := rdStr_lit (T := 9) (zs := [⟨#[73]⟩]) (Blk.new _ _ _) (by simp)
  obtain ⟨q11, hq11⟩ : ∃ q, q = w10.heap.size := ⟨_, rfl⟩
  rw [← hq11] at hl11 ⊢
  generalize (w10.alloc (.cells #[.string ⟨#[73]⟩] 9)) = wa11 at *
  refine (sameTexts_yes VA 1 vc [⟨#[73]⟩] (some ⟨q11, 0, none⟩) 1 wa11 (HV10.out.up hb11) hl11 (by omega)).mono ?_
  rintro e w11 ⟨rfl, k11, rfl⟩
  have hbx11 := below_drewN hb11 k11
  have HO11 := Lib.hid (HO10.out.up hbx11)
  have HB11 := Lib.hid (HB10.out.trans (hbx11.mono HB10.out.size))
  generalize wa11.drewN k11 = w11 at *
  clear hb11 hl11 hq11 hbx11
  go_wp2_with fail
  have hb12 : Below w11.heap.size w11 (w11.alloc (.cells #[.int .i64 0, .int .i64 1] 3)) := (Below.refl _ _).alloc (Nat.le_refl _) _
  have hk12 : Blk (w11.alloc (.cells #[.int .i64 0, .int .i64 1] 3)) w11.heap.size 3 #[.int .i64 0, .int .i64 1] := Blk.new _ _ _
  have hl12 : RdI (w11.alloc (.cells #[.int .i64 0, .int .i64 1] 3)) (w11.alloc (.cells #[.int .i64 0, .int .i64 1] 3)).heap.size (some ⟨w11.heap.size, 0, none⟩) 2 [0, 1] := ⟨rfl, fun _ => ⟨w11.heap.size, 0, rfl, hk12.lt, fun j u hu => by
    rw [Nat.zero_add, hk12.cell j]
    simpa [ints] using hu⟩⟩
  obtain ⟨q12, hq12⟩ : ∃ q, q = w11.heap.size := ⟨_, rfl⟩
  rw [← hq12] at hl12 ⊢
  generalize (w11.alloc (.cells #[.int .i64 0, .int .i64 1] 3)) = wa12 at *
  refine (sameInts_any OA 2 oc [0, 1] (some ⟨q12, 0, none⟩) 2 2 [0, 1] wa12 (HO11.out.up hb12) hl12 (by omega)).mono ?_
  rintro e w12 ⟨rfl, k12, rfl⟩
  rw [show sameI [0, 1] [0, 1] = true from rfl]
  have HB12 := Lib.hid (HB11.out.trans ((below_drewN hb12 k12).mono HB11.out.size))
  generalize wa12.drewN k12 = w12 at *
  clear hb12 hl12 hk12 hq12
  go_wp2_with fail
  refine (rname_any ⟨#[65, 49]⟩ w12 (by decide)).mono ?_
  rintro e w13 ⟨rfl, k13⟩
  rw [show rnameB ⟨#[65, 49]⟩ = true by decide +kernel]
  have HB13 := Lib.hid (HB12.out.trans (k13.mono HB12.out.size))
  clear k13
  go_wp2_with fail
  refine (rname_any ⟨#[65, 78, 68]⟩ w13 (by decide)).mono ?_
  rintro e w14 ⟨rfl, k14⟩
  rw [show rnameB ⟨#[65, 78, 68]⟩ = false by decide +kernel]
  have HB14 := Lib.hid (HB13.out.trans (k14.mono HB13.out.size))
  clear k14
  go_wp2_with fail
  go_ret
  exact ⟨rfl, HB14.out⟩
end Go.Proofs.YtaanoljfhnfjoaaGreatDoor
