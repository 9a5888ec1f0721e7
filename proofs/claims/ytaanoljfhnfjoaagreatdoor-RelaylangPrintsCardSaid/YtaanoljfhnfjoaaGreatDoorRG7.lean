/- The laws RelaylangPrints and RelaylangParses: the walks. -/
import Derived.Test.YtaanoljfhnfjoaaGreatDoorRG6
namespace Go.Proofs.YtaanoljfhnfjoaaGreatDoor
open Go.ChangeShapes Go.WideShapes Go.ChangeAt Go.RowKit
set_option linter.unusedVariables false
set_option linter.unusedSimpArgs false
attribute [local go_sem ↓] execOp_call_val
attribute [local go_sem] callVal_func setCell_drewN alloc_drewN sEq_walk

set_option maxRecDepth 100000 in
set_option maxHeartbeats 8000000 in
theorem prints_any (A : Option Addr) (n c : Nat) (hs : List Rh) (w : World) (hR : RdRh w w.heap.size A n hs) (hn : n ≤ c) (hc : c ≤ maxLen) (hf : ∀ z ∈ hs, z.r.Fit) (hE : EnvJ w) :
    Calls Tryz.prog 3 #[.slice A n c] w fun e w' => e = .returned (.bool true) ∧ Below w.heap.size w w' := by
  have HE := Lib.hid hE
  have HR := Lib.hid hR
  have HF := Lib.hid hf
  have HC := Lib.hid hc
  clear hE hR hf hc
  go_enter Tryz.func3, Tryz.ntmps3
  go_wp2_with fail
  refine (rlworks_any w HE.out).mono ?_
  rintro e w1 ⟨rfl, k1⟩
  have HB1 := Lib.hid k1
  have HR1 := Lib.hid (HR.out.up k1)
  have HE1 := Lib.hid (HE.out.up k1)
  clear k1
  go_wp2_with fail
  refine (print_any A n c hs w1 HR1.out hn HC.out HF.out HE1.out).mono ?_
  rintro e w2 ⟨hb2, hcs⟩
  have HB2 := Lib.hid (HB1.out.trans (hb2.mono HB1.out.size))
  have HR2 := Lib.hid (HR1.out.up hb2)
  have HE2 := Lib.hid (HE1.out.up hb2)
  have HCH := Lib.hid (rcheck_any A n c hs w2 HR2.out hn HC.out HF.out)
  clear hb2
  rcases hcs with ⟨hck, rfl⟩ | ⟨hck, ts, hts, ⟨hlen, rfl⟩ | ⟨hlen, rfl⟩⟩
  · generalize ckR (rls hs) = ck at *
    have h0b : (ck != 0) = true := by simpa using hck
    clear hck
    go_wp2_with fail
    refine HCH.out.mono ?_
    rintro e w3 ⟨rfl, k3⟩
    have HB3 := Lib.hid (HB2.out.trans (k3.mono HB2.out.size))
    clear k3
    go_wp2_with fail
    go_ret
    exact ⟨by simp, HB3.out⟩
  · rw [hck] at HCH
    clear hck hts hlen
    go_wp2_with fail
    refine HCH.out.mono ?_
    rintro e w3 ⟨rfl, k3⟩
    have HB3 := Lib.hid (HB2.out.trans (k3.mono HB2.out.size))
    clear k3
    go_wp2_with fail
    go_ret
    exact ⟨rfl, HB3.out⟩
  · have hpt := prints_law NM hck hts hlen
    have hsz : (bsB (textT NM (rls hs) ts)).size ≤ 9223372036854775807 := by
      have h : (bsB (textT NM (rls hs) ts)).size = (textT NM (rls hs) ts).length := rfl
      omega
    have HPA := Lib.hid (parse_any (bsB (textT NM (rls hs) ts)) hsz w2 HE2.out)
    have HPT := Lib.hid hpt
    clear hpt hck hts hlen hsz
    generalize bsB (textT NM (rls hs) ts) = tx at *
    go_wp2_with fail
    refine HPA.out.mono ?_
    rintro e w3 ⟨hb3, A3, n3, c3, h3, rfl, hr3, hl3, hn3, hc3, _⟩
    rw [HPT.out] at hl3 ⊢
    have HB3 := Lib.hid (HB2.out.trans (hb3.mono HB2.out.size))
    have HR3 := Lib.hid (HR2.out.up hb3)
    have HRP := Lib.hid hr3
    have HLP := Lib.hid hl3
    have hnI : n ≤ 9223372036854775807 := by have := HC.out; simp only [maxLen] at this; omega
    clear hb3 hr3 hl3
    go_wp2_with fail
    refine (sameRules_yes A n c hs A3 n3 c3 h3 w3 HR3.out HRP.out hnI HLP.out.symm).mono ?_
    rintro e w4 ⟨rfl, k4, rfl⟩
    go_wp2_with fail
    go_ret
    exact ⟨rfl, below_drewN HB3.out k4⟩
set_option maxRecDepth 100000 in
set_option maxHeartbeats 8000000 in
theorem parses_any (s : ByteArray) (hmax : s.size ≤ 9223372036854775807) (w : World) (hE : EnvJ w) :
    Calls Tryz.prog 4 #[.string s] w fun e w' => e = .returned (.bool true) ∧ Below w.heap.size w w' := by
  have HE := Lib.hid hE
  clear hE
  go_enter Tryz.func4, Tryz.ntmps4
  go_wp2_with fail
  refine (rlworks_any w HE.out).mono ?_
  rintro e w1 ⟨rfl, k1⟩
  have HB1 := Lib.hid k1
  have HE1 := Lib.hid (HE.out.up k1)
  clear k1
  go_wp2_with fail
  refine (parse_any s hmax w1 HE1.out).mono ?_
  rintro e w2 ⟨hb2, A, n, c, hs, rfl, hr, hl, hn, hc, hf⟩
  have HB2 := Lib.hid (HB1.out.trans (hb2.mono HB1.out.size))
  have HE2 := Lib.hid (HE1.out.up hb2)
  have HR2 := Lib.hid hr
  have HC := Lib.hid hc
  have HF := Lib.hid hf
  have HL := Lib.hid hl
  clear hb2 hr hc hf
  rcases parses_law NM s with ⟨h1, h2, h3⟩ | ⟨h1, h2, h3, ts, h4, h5, h6⟩
  · rw [h2] at hl
    have hn0 : n = 0 := by
      have := HR2.out.len
      unfold rls at hl
      rw [List.map_eq_nil_iff] at hl
      rw [hl] at this
      exact this.symm
    subst hn0
    generalize (parseT NM s).err = er at *
    generalize (parseT NM s).line = ln at *
    have h0b : (er != 0) = true := by simpa using h1
    clear h1 h2 hl
    go_wp2_with fail
    go_ret
    exact ⟨by simp, HB2.out⟩
  · have HCK := Lib.hid h3
    have HTS := Lib.hid h4
    have HLN := Lib.hid h5
    have HSZ := Lib.hid h6
    rw [h1, h2]
    clear h1 h2 h3 h4 h5 h6 hl
    go_wp2_with fail
    refine (print_any A n c hs w2 HR2.out hn HC.out HF.out HE2.out).mono ?_
    rintro e w3 ⟨hb3, hcs⟩
    rw [HL.out] at hcs
    have HB3 := Lib.hid (HB2.out.trans (hb3.mono HB2.out.size))
    have HE3 := Lib.hid (HE2.out.up hb3)
    have HR3 := Lib.hid (HR2.out.up hb3)
    have hl82 : (textT NM (parseT NM s).rules ts).length ≤ 8192 := Nat.le_trans HLN.out HSZ.out
    obtain rfl : e = .returned (.tuple #[.string (bsB (textT NM (parseT NM s).rules ts)), .int .i64 0]) := by
      rcases hcs with ⟨h, _⟩ | ⟨_, us, hus, hx⟩
      · exact absurd HCK.out h
      · rw [trees_inj hus HTS.out] at hx
        rcases hx with ⟨h, _⟩ | ⟨_, h⟩
        · exact absurd hl82 (by omega)
        · exact h
    have hpt := prints_law NM HCK.out HTS.out hl82
    have hts : (bsB (textT NM (parseT NM s).rules ts)).size ≤ s.size := HLN.out
    have HPT := Lib.hid hpt
    clear hcs hb3 hl82 hpt
    generalize bsB (textT NM (parseT NM s).rules ts) = tx at *
    have htI : (tx.size : Int) ≤ (s.size : Int) := by omega
    have HPA := Lib.hid (parse_any tx (by omega) w3 HE3.out)
    go_wp2_with fail
    refine HPA.out.mono ?_
    rintro e w4 ⟨hb4, A4, n4, c4, h4, rfl, hr4, hl4, hn4, hc4, _⟩
    rw [HPT.out] at hl4 ⊢
    have HB4 := Lib.hid (HB3.out.trans (hb4.mono HB3.out.size))
    have HR4 := Lib.hid (HR3.out.up hb4)
    have HRP := Lib.hid hr4
    have HLP := Lib.hid hl4
    have hnI : n ≤ 9223372036854775807 := by have := HC.out; simp only [maxLen] at this; omega
    clear hb4 hr4 hl4
    go_wp2_with fail
    refine (sameRules_yes A n c hs A4 n4 c4 h4 w4 HR4.out HRP.out hnI (by rw [HL.out, HLP.out])).mono ?_
    rintro e w5 ⟨rfl, k5, rfl⟩
    go_wp2_with fail
    go_ret
    exact ⟨rfl, below_drewN HB4.out k5⟩
end Go.Proofs.YtaanoljfhnfjoaaGreatDoor
