/- Parts of the proof, put together into one file. -/
import Derived.Test.YtakllkkmofdpaaaGreatDoorK02
import Derived.Test.YtakllkkmofdpaaaGreatDoorK10
import Derived.Test.YtakllkkmofdpaaaGreatDoorK15
import Derived.Test.YtakllkkmofdpaaaGreatDoorK16
import Derived.Deep.QuietTactic
import Derived.BigQuiet
/- The sum of currents, and whether protection operates. -/
namespace Go.Proofs.YtakllkkmofdpaaaGreatDoor
open Go.ChangeShapes Go.WideShapes Go.ChangeAt Go.RowKit
set_option linter.unusedVariables false
set_option linter.unusedSimpArgs false
attribute [local go_sem ↓] execOp_call_val
attribute [local go_sem] callVal_func setCell_drewN alloc_drewN sEq_walk
/-- Sum of texts: the sum, the restraint and the fault -/
def bsS (ss : List ByteArray) : ByteArray := if ckLim 256 ss = 0 ∧ Fits (sumR (ss.map qOf)) ∧ Fits (halfR (ss.map qOf)) then txtQ (sumR (ss.map qOf)) else ⟨#[]⟩
def bsR (ss : List ByteArray) : ByteArray := if ckLim 256 ss = 0 ∧ Fits (sumR (ss.map qOf)) ∧ Fits (halfR (ss.map qOf)) then txtQ (halfR (ss.map qOf)) else ⟨#[]⟩
def bsE (ss : List ByteArray) : Int := if ckLim 256 ss = 0 then (if Fits (sumR (ss.map qOf)) ∧ Fits (halfR (ss.map qOf)) then 0 else 2) else ckLim 256 ss
theorem bs_ok {ss : List ByteArray} (h1 : ckLim 256 ss = 0) (h2 : Fits (sumR (ss.map qOf))) (h3 : Fits (halfR (ss.map qOf))) : bsS ss = txtQ (sumR (ss.map qOf)) ∧ bsR ss = txtQ (halfR (ss.map qOf)) ∧ bsE ss = 0 := by
  unfold bsS bsR bsE
  rw [if_pos ⟨h1, h2, h3⟩, if_pos ⟨h1, h2, h3⟩, if_pos h1, if_pos ⟨h2, h3⟩]
  exact ⟨rfl, rfl, rfl⟩
theorem bs_big {ss : List ByteArray} (h1 : ckLim 256 ss = 0) (h2 : ¬ (Fits (sumR (ss.map qOf)) ∧ Fits (halfR (ss.map qOf)))) : bsS ss = ⟨#[]⟩ ∧ bsR ss = ⟨#[]⟩ ∧ bsE ss = 2 := by
  unfold bsS bsR bsE
  rw [if_neg (fun h => h2 h.2), if_neg (fun h => h2 h.2), if_pos h1, if_neg h2]
  exact ⟨rfl, rfl, rfl⟩
theorem bs_bad {ss : List ByteArray} (h1 : ckLim 256 ss ≠ 0) : bsS ss = ⟨#[]⟩ ∧ bsR ss = ⟨#[]⟩ ∧ bsE ss = ckLim 256 ss := by
  unfold bsS bsR bsE
  rw [if_neg (fun h => h1 h.1), if_neg (fun h => h1 h.1), if_neg h1]
  exact ⟨rfl, rfl, rfl⟩
theorem bsE_ok {ss : List ByteArray} (h : bsE ss = 0) : ckLim 256 ss = 0 ∧ Fits (sumR (ss.map qOf)) ∧ Fits (halfR (ss.map qOf)) := by
  unfold bsE at h
  by_cases h1 : ckLim 256 ss = 0
  · rw [if_pos h1] at h
    by_cases h2 : Fits (sumR (ss.map qOf)) ∧ Fits (halfR (ss.map qOf))
    · exact ⟨h1, h2⟩
    · rw [if_neg h2] at h; cases h
  · rw [if_neg h1] at h; exact absurd h h1
set_option maxRecDepth 100000 in
set_option maxHeartbeats 4000000 in
theorem bsum_any (A : Option Addr) (n c : Nat) (ss : List ByteArray) (w : World) (hR : RdStr w w.heap.size A n ss) (hs : ∀ s ∈ ss, s.size ≤ maxLen) (hn : n ≤ 9223372036854775807) (ht : TabOk w) :
    Calls Tryz.prog 17 #[.slice A n c] w fun e w' => e = .returned (.tuple #[.string (bsS ss), .string (bsR ss), .int .i64 (bsE ss)]) ∧ Below w.heap.size w w' := by
  have HC := Lib.hid (bcheck_any A n c ss w hR hs hn ht)
  have HR := Lib.hid hR
  have HT := Lib.hid ht
  clear hR hs ht
  go_enter Tryz.func17, Tryz.ntmps17
  go_wp2_with fail
  refine HC.out.mono ?_
  rintro e w1 ⟨he, hb1⟩
  have HB1 := Lib.hid hb1
  clear hb1 HC
  by_cases h0 : ckLim 256 ss = 0
  · have H0 := Lib.hid h0
    rw [h0] at he
    subst he
    clear h0
    go_wp2_with fail
    refine (sums_any A n c ss w1 ((HR.out.below HB1.out (Nat.le_refl _)).more HB1.out.size) H0.out).mono ?_
    rintro e w2 ⟨hb2, v, u, rfl, h1, h2⟩
    have HB2 := Lib.hid (HB1.out.trans (hb2.mono HB1.out.size))
    have H1 := Lib.hid h1
    have H2 := Lib.hid h2
    clear hb2 h1 h2 HB1
    go_wp2_with fail
    generalize hwa : (w2.alloc (.cells #[.bool v.b1, .slice v.A v.n v.c, .bool v.b2, .slice v.A2 v.m v.d] 93)).alloc (.cells #[.bool u.b1, .slice u.A u.n u.c, .bool u.b2, .slice u.A2 u.m u.d] 93) = wa
    have hba : Below w2.heap.size w2 wa := by rw [← hwa]; exact ((Below.refl _ _).alloc (Nat.le_refl _) _).alloc (by simp) _
    have HS2 : Hid (Blk wa (w2.heap.size + 1) 93 #[.bool u.b1, .slice u.A u.n u.c, .bool u.b2, .slice u.A2 u.m u.d]) := Lib.hid (by rw [← hwa]; exact Blk.new_ (by simp))
    replace HB2 := Lib.hid (HB2.out.trans (hba.mono HB2.out.size))
    replace H1 := Lib.hid (H1.out.up hba)
    replace H2 := Lib.hid (H2.out.up hba)
    clear hwa hba
    generalize w2.heap.size = g at *
    refine (textV H1.out (HT.out.up HB2.out)).mono ?_
    rintro e w3 ⟨hb3, s, rfl, hs⟩
    have HB3 := Lib.hid (HB2.out.trans (hb3.mono HB2.out.size))
    replace HS2 := Lib.hid (HS2.out.below hb3 HS2.out.lt)
    replace H2 := Lib.hid (H2.out.up hb3)
    have HS := Lib.hid hs
    clear hb3 hs HB2 H1
    generalize hbo : decide (Fits (sumR (ss.map qOf))) = b1
    have HBO := Lib.hid hbo
    clear hbo
    have p0 := HS2.out.cell 0
    have p1 := HS2.out.cell 1
    have p2 := HS2.out.cell 2
    have p3 := HS2.out.cell 3
    go_wp2_with fail
    refine (textV H2.out (HT.out.up HB3.out)).mono ?_
    clear p0 p1 p2 p3
    rintro e w4 ⟨hb4, t, rfl, ht⟩
    have HB4 := Lib.hid (HB3.out.trans (hb4.mono HB3.out.size))
    have HTT := Lib.hid ht
    clear hb4 ht HB3 H2 HS2
    generalize hbo : decide (Fits (halfR (ss.map qOf))) = b2
    have HBO2 := Lib.hid hbo
    clear hbo
    cases b1 with
    | true =>
      have hf1 : Fits (sumR (ss.map qOf)) := of_decide_eq_true HBO.out
      cases b2 with
      | true =>
        have hf2 : Fits (halfR (ss.map qOf)) := of_decide_eq_true HBO2.out
        have HE := Lib.hid (bs_ok H0.out hf1 hf2)
        have HS1 := Lib.hid (HS.out hf1)
        have HT1 := Lib.hid (HTT.out hf2)
        clear hf1 hf2 HBO HBO2 HS HTT
        go_wp2_with fail
        exact bodyPost_ret (v := .tuple #[.string s, .string t, .int .i64 0]) (by simp [results, Tryz.results17, go_sem]) rfl ⟨by rw [HE.out.1, HE.out.2.1, HE.out.2.2, HS1.out, HT1.out]; rfl, HB4.out⟩
      | false =>
        have hf2 : ¬ Fits (halfR (ss.map qOf)) := of_decide_eq_false HBO2.out
        have HE := Lib.hid (bs_big H0.out (fun h => hf2 h.2))
        clear hf1 hf2 HBO HBO2 HS HTT
        go_wp2_with fail
        exact bodyPost_ret (v := .tuple #[.string ⟨#[]⟩, .string ⟨#[]⟩, .int .i64 2]) (by simp [results, Tryz.results17, go_sem]) rfl ⟨by rw [HE.out.1, HE.out.2.1, HE.out.2.2], HB4.out⟩
    | false =>
      have hf1 : ¬ Fits (sumR (ss.map qOf)) := of_decide_eq_false HBO.out
      have HE := Lib.hid (bs_big H0.out (fun h => hf1 h.1))
      clear hf1 HBO HBO2 HS HTT
      go_wp2_with fail
      exact bodyPost_ret (v := .tuple #[.string ⟨#[]⟩, .string ⟨#[]⟩, .int .i64 2]) (by simp [results, Tryz.results17, go_sem]) rfl ⟨by rw [HE.out.1, HE.out.2.1, HE.out.2.2], HB4.out⟩
  · have HE := Lib.hid (bs_bad h0)
    generalize ckLim 256 ss = z at *
    subst he
    have h0b : (z != 0) = true := by simp [h0]
    clear h0
    go_wp2_with fail
    exact bodyPost_ret (v := .tuple #[.string ⟨#[]⟩, .string ⟨#[]⟩, .int .i64 z]) (by simp [results, Tryz.results17, go_sem]) rfl ⟨by rw [HE.out.1, HE.out.2.1, HE.out.2.2], HB1.out⟩
/-- whether protection operates -/
def opB (ss : List ByteArray) (x y : Int) : Bool := if bsE ss = 0 ∧ 0 ≤ x ∧ x ≤ 1000000 ∧ 0 ≤ y ∧ y ≤ 2000 then decide (0 < cmpQ (rabs (sumR (ss.map qOf))) ((x : Rat) + Rat.divInt y 1000 * halfR (ss.map qOf))) else false
def opF (ss : List ByteArray) (x y : Int) : Int := if ckLim 256 ss = 0 then (if 0 ≤ x ∧ x ≤ 1000000 ∧ 0 ≤ y ∧ y ≤ 2000 then bsE ss else 4) else ckLim 256 ss
theorem halfR_qsz {qs : List Rat} (hl : qs.length ≤ 256) (h : ∀ q ∈ qs, qsz q ≤ 2000) : qsz (halfR qs) ≤ 600010 := by
  have h1 := sumR_qsz _ (qs.map rabs) rfl 2000 (fun q h' => by
    obtain ⟨y, hy, rfl⟩ := List.mem_map.1 h'
    rw [rabs_qsz]
    exact h y hy)
  rw [List.length_map] at h1
  have := Nat.mul_le_mul_right 2001 hl
  have h2 := div_qsz (sumR (qs.map rabs)) 2
  have h3 : qsz 2 ≤ 2 := qsz_whole 2 (by decide) (by decide)
  unfold halfR
  omega
theorem sumR_qsz256 {qs : List Rat} (hl : qs.length ≤ 256) (h : ∀ q ∈ qs, qsz q ≤ 2000) : qsz (sumR qs) ≤ 600000 := by
  have h1 := sumR_qsz _ qs rfl 2000 h
  have := Nat.mul_le_mul_right 2001 hl
  omega
set_option maxRecDepth 100000 in
set_option maxHeartbeats 4000000 in
theorem operates_any (A : Option Addr) (n c : Nat) (x y : Int) (ss : List ByteArray) (w : World) (hR : RdStr w w.heap.size A n ss) (hs : ∀ s ∈ ss, s.size ≤ maxLen) (hn : n ≤ 9223372036854775807) (ht : TabOk w) :
    Calls Tryz.prog 16 #[.slice A n c, .int .i64 x, .int .i64 y] w fun e w' => e = .returned (.tuple #[.bool (opB ss x y), .int .i64 (opF ss x y)]) ∧ Below w.heap.size w w' := by
  have HC := Lib.hid (bcheck_any A n c ss w hR hs hn ht)
  have HR := Lib.hid hR
  have HSZ := Lib.hid hs
  have HT := Lib.hid ht
  clear hR hs ht
  go_enter Tryz.func16, Tryz.ntmps16
  go_wp2_with fail
  refine HC.out.mono ?_
  rintro e w1 ⟨he, hb1⟩
  have HB1 := Lib.hid hb1
  clear hb1 HC
  have BAD : bsE ss ≠ 0 → opB ss x y = false := fun h => by unfold opB; rw [if_neg (fun k => h k.1)]
  replace BAD := Lib.hid BAD
  by_cases h0 : ckLim 256 ss = 0
  · have H0 := Lib.hid h0
    rw [h0] at he
    subst he
    clear h0
    by_cases hr : 0 ≤ x ∧ x ≤ 1000000 ∧ 0 ≤ y ∧ y ≤ 2000
    · have HR1 := Lib.hid hr
      obtain ⟨hx0, hx1, hy0, hy1⟩ := hr
      have g1 : ¬ x < 0 := by omega
      have g2 : ¬ 1000000 < x := by omega
      have g3 : ¬ y < 0 := by omega
      have g4 : ¬ 2000 < y := by omega
      go_wp2_with fail
      refine (bsum_any A n c ss w1 ((HR.out.below HB1.out (Nat.le_refl _)).more HB1.out.size) HSZ.out hn (HT.out.up HB1.out)).mono ?_
      rintro e w2 ⟨rfl, hb2⟩
      have HB2 := Lib.hid (HB1.out.trans (hb2.mono HB1.out.size))
      clear hb2 HB1 g1 g2 g3 g4
      generalize bsS ss = zs
      generalize bsR ss = zr
      by_cases hE : bsE ss = 0
      · have HE := Lib.hid hE
        rw [hE]
        clear hE
        go_wp2_with fail
        refine (sums_any A n c ss w2 ((HR.out.below HB2.out (Nat.le_refl _)).more HB2.out.size) H0.out).mono ?_
        rintro e w3 ⟨hb3, v, u, rfl, h1, h2⟩
        have HB3 := Lib.hid (HB2.out.trans (hb3.mono HB2.out.size))
        have H1 := Lib.hid h1
        have H2 := Lib.hid h2
        clear hb3 h1 h2 HB2
        go_upto_region 10 with fail
        generalize hwa : (w3.alloc (.cells #[.bool v.b1, .slice v.A v.n v.c, .bool v.b2, .slice v.A2 v.m v.d] 93)).alloc (.cells #[.bool u.b1, .slice u.A u.n u.c, .bool u.b2, .slice u.A2 u.m u.d] 93) = wa
        have hba : Below w3.heap.size w3 wa := by rw [← hwa]; exact ((Below.refl _ _).alloc (Nat.le_refl _) _).alloc (by simp) _
        have HS1 : Hid (Blk wa w3.heap.size 93 #[.bool v.b1, .slice v.A v.n v.c, .bool v.b2, .slice v.A2 v.m v.d]) := Lib.hid (by rw [← hwa]; exact (Blk.new w3 _ _).alloc _)
        have HS2 : Hid (Blk wa (w3.heap.size + 1) 93 #[.bool u.b1, .slice u.A u.n u.c, .bool u.b2, .slice u.A2 u.m u.d]) := Lib.hid (by rw [← hwa]; exact Blk.new_ (by simp))
        replace HB3 := Lib.hid (HB3.out.trans (hba.mono HB3.out.size))
        replace H1 := Lib.hid (H1.out.up hba)
        replace H2 := Lib.hid (H2.out.up hba)
        clear hwa hba
        generalize w3.heap.size = g at *
        have HL : Hid ((ss.map qOf).length ≤ 256) := Lib.hid (by rw [List.length_map]; exact (ckLim_ok.1 H0.out).1)
        have HZ1 := Lib.hid (sumR_qsz256 HL.out (qofs_qsz (ckLim_ok.1 H0.out).2))
        have HZ2 := Lib.hid (halfR_qsz HL.out (qofs_qsz (ckLim_ok.1 H0.out).2))
        have HZX : Hid (qsz (x : Rat) ≤ 2) := Lib.hid (qsz_whole x (by omega) (by omega))
        have HZY : Hid (qsz (Rat.divInt y 1000) ≤ 2) := Lib.hid (by
          refine Nat.le_trans (ratio_qsz y (d := 1000) (by decide)) (Nat.max_le.2 ⟨?_, by decide +kernel⟩)
          exact dlen_le (by show _ < 4294967296 ^ 2; omega))
        have p0 := HS1.out.cell 0
        have p1 := HS1.out.cell 1
        have p2 := HS1.out.cell 2
        have p3 := HS1.out.cell 3
        have pl := HS1.out.lt
        have d0 := HS2.out.cell 0
        have d1 := HS2.out.cell 1
        have d2 := HS2.out.cell 2
        have d3 := HS2.out.cell 3
        have dl := HS2.out.lt
        have HB4 := Lib.hid (below_drew (Below.refl wa.heap.size wa))
        refine wp_region_last (S := fun w' => Below wa.heap.size wa w') 12 _ (by kernel_rfl) (by kernel_rfl) rfl HB4.out (fun hHeld => ?_)
        simp only [List.take_succ_cons, List.take_zero]
        refine takeH 0 (v := ?_) rfl (by kernel_rfl) (fun _ _ _ h => h) (by rfl) ?_ hHeld ?_
        rotate_left 1
        · intro w' hSw; obtain ⟨hcc, -⟩ := bcellW hSw; go_simp <;> with_reducible rfl
        try simp only [Act.put, List.setIfInBounds_toArray, List.set_cons_zero, List.set_cons_succ]
        refine takeH 2 (v := ?_) rfl (by kernel_rfl) (fun _ _ _ h => h) (by rfl) ?_ hHeld ?_
        rotate_left 1
        · intro w' hSw; obtain ⟨hcc, -⟩ := bcellW hSw; go_simp <;> with_reducible rfl
        try simp only [Act.put, List.setIfInBounds_toArray, List.set_cons_zero, List.set_cons_succ]
        refine takeH 4 (v := ?_) rfl (by kernel_rfl) (fun _ _ _ h => h) (by rfl) ?_ hHeld ?_
        rotate_left 1
        · intro w' hSw; obtain ⟨hcc, -⟩ := bcellW hSw; go_simp <;> with_reducible rfl
        try simp only [Act.put, List.setIfInBounds_toArray, List.set_cons_zero, List.set_cons_succ]
        refine takeH 6 (v := ?_) rfl (by kernel_rfl) (fun _ _ _ h => h) (by rfl) ?_ hHeld ?_
        rotate_left 1
        · intro w' hSw; obtain ⟨hcc, -⟩ := bcellW hSw; go_simp <;> with_reducible rfl
        try simp only [Act.put, List.setIfInBounds_toArray, List.set_cons_zero, List.set_cons_succ]
        refine stepH 1 (by kernel_rfl) rfl (fun K hK => ?_)
        go_simp
        refine (absV (H1.out.up HB4.out)).mono ?_
        rintro e w5 ⟨hb5, v5, rfl, h5⟩
        have HB5 := Lib.hid (HB4.out.trans (hb5.mono HB4.out.size))
        have H5 := Lib.hid h5
        clear hb5 h5
        go_simp
        refine hK.out _ _ ?_ (fun hHeld => ?_)
        · exact HB5.out
        clear hK K
        try simp only [Act.put, List.setIfInBounds_toArray, List.set_cons_zero, List.set_cons_succ]
        refine stepH 3 (by kernel_rfl) rfl (fun K hK => ?_)
        go_simp
        refine (wholeV x _ (by omega) (by omega)).mono ?_
        rintro e w6 ⟨hb6, v6, rfl, h6⟩
        have HB6 := Lib.hid (HB5.out.trans (hb6.mono HB5.out.size))
        have H6 := Lib.hid h6
        replace H5 := Lib.hid (H5.out.up hb6)
        clear hb6 h6
        go_simp
        refine hK.out _ _ ?_ (fun hHeld => ?_)
        · exact HB6.out
        clear hK K
        try simp only [Act.put, List.setIfInBounds_toArray, List.set_cons_zero, List.set_cons_succ]
        refine stepH 5 (by kernel_rfl) rfl (fun K hK => ?_)
        go_simp
        refine (fracV y 1000 _ (by omega) (by omega) (by decide) (by decide) (by decide)).mono ?_
        rintro e w7 ⟨hb7, v7, rfl, h7⟩
        have HB7 := Lib.hid (HB6.out.trans (hb7.mono HB6.out.size))
        have H7 := Lib.hid h7
        replace H5 := Lib.hid (H5.out.up hb7)
        replace H6 := Lib.hid (H6.out.up hb7)
        clear hb7 h7
        go_simp
        refine hK.out _ _ ?_ (fun hHeld => ?_)
        · exact HB7.out
        clear hK K
        try simp only [Act.put, List.setIfInBounds_toArray, List.set_cons_zero, List.set_cons_succ]
        refine stepH 7 (by kernel_rfl) rfl (fun K hK => ?_)
        go_simp
        refine (mulV H7.out (H2.out.up HB7.out) (by have := HZ2.out; have := HZY.out; omega)).mono ?_
        rintro e w8 ⟨hb8, v8, rfl, h8⟩
        have HB8 := Lib.hid (HB7.out.trans (hb8.mono HB7.out.size))
        have H8 := Lib.hid h8
        replace H5 := Lib.hid (H5.out.up hb8)
        replace H6 := Lib.hid (H6.out.up hb8)
        clear hb8 h8
        go_simp
        refine hK.out _ _ ?_ (fun hHeld => ?_)
        · exact HB8.out
        clear hK K
        try simp only [Act.put, List.setIfInBounds_toArray, List.set_cons_zero, List.set_cons_succ]
        refine stepH 8 (by kernel_rfl) rfl (fun K hK => ?_)
        go_simp
        refine (addV H6.out H8.out (by have := mul_qsz (Rat.divInt y 1000) (halfR (ss.map qOf)); have := HZ2.out; have := HZX.out; have := HZY.out; omega)).mono ?_
        rintro e w9 ⟨hb9, v9, rfl, h9⟩
        have HB9 := Lib.hid (HB8.out.trans (hb9.mono HB8.out.size))
        have H9 := Lib.hid h9
        replace H5 := Lib.hid (H5.out.up hb9)
        clear hb9 h9
        go_simp
        refine hK.out _ _ ?_ (fun hHeld => ?_)
        · exact HB9.out
        clear hK K
        try simp only [Act.put, List.setIfInBounds_toArray, List.set_cons_zero, List.set_cons_succ]
        refine stepH 9 (by kernel_rfl) rfl (fun K hK => ?_)
        go_simp
        refine (cmpV H5.out H9.out (by rw [rabs_qsz]; have := HZ1.out; have := add_qsz (x : Rat) (Rat.divInt y 1000 * halfR (ss.map qOf)); have := mul_qsz (Rat.divInt y 1000) (halfR (ss.map qOf)); have := HZ2.out; have := HZX.out; have := HZY.out; omega)).mono ?_
        rintro e w10 ⟨rfl, hb10⟩
        have HB10 := Lib.hid (HB9.out.trans (hb10.mono HB9.out.size))
        clear hb10
        generalize hz : cmpQ (rabs (sumR (ss.map qOf))) ((x : Rat) + Rat.divInt y 1000 * halfR (ss.map qOf)) = z
        have HZ := Lib.hid hz
        clear hz
        go_simp
        refine hK.out _ _ ?_ (fun hHeld => ?_)
        · exact HB10.out
        clear hK K
        try simp only [Act.put, List.setIfInBounds_toArray, List.set_cons_zero, List.set_cons_succ]
        refine takeH 10 (v := ?_) rfl (by kernel_rfl) (fun _ _ _ h => h) (by rfl) ?_ hHeld ?_
        rotate_left 1
        · intro w' hSw; obtain ⟨hcc, -⟩ := bcellW hSw; go_simp <;> with_reducible rfl
        try simp only [Act.put, List.setIfInBounds_toArray, List.set_cons_zero, List.set_cons_succ]
        refine takeH 11 (v := ?_) rfl (by kernel_rfl) (fun _ _ _ h => h) (by rfl) ?_ hHeld ?_
        rotate_left 1
        · intro w' hSw; obtain ⟨hcc, -⟩ := bcellW hSw; go_simp <;> with_reducible rfl
        try simp only [Act.put, List.setIfInBounds_toArray, List.set_cons_zero, List.set_cons_succ]
        refine wpAnyH_done (by kernel_rfl) ?_ _
        refine lastQ_go (by rfl) ?_
        clear p0 p1 p2 p3 pl d0 d1 d2 d3 dl
        have HBF := Lib.hid (HB3.out.trans (HB10.out.mono HB3.out.size))
        have HOB : Hid (opB ss x y = decide (0 < z)) := Lib.hid (by unfold opB; rw [if_pos ⟨HE.out, HR1.out⟩, HZ.out])
        have HOF : Hid (opF ss x y = 0) := Lib.hid (by unfold opF; rw [if_pos H0.out, if_pos HR1.out, HE.out])
        go_wp2_with fail
        go_ret2
        exact ⟨by rw [HOB.out, HOF.out]; rfl, HBF.out⟩
      · have HOB := Lib.hid (BAD.out hE)
        have HOF : Hid (opF ss x y = bsE ss) := Lib.hid (by unfold opF; rw [if_pos H0.out, if_pos HR1.out])
        generalize bsE ss = z at *
        have h0b : (z != 0) = true := by simp [hE]
        clear hE
        go_wp2_with fail
        go_ret2
        exact ⟨by rw [HOB.out, HOF.out]; rfl, HB2.out⟩
    · have HOB : Hid (opB ss x y = false) := Lib.hid (by unfold opB; rw [if_neg (fun h => hr h.2)])
      have HOF : Hid (opF ss x y = 4) := Lib.hid (by unfold opF; rw [if_pos H0.out, if_neg hr])
      by_cases g1 : x < 0
      · go_wp2_with fail
        go_ret2
        exact ⟨by rw [HOB.out, HOF.out]; rfl, HB1.out⟩
      · by_cases g2 : 1000000 < x
        · go_wp2_with fail
          go_ret2
          exact ⟨by rw [HOB.out, HOF.out]; rfl, HB1.out⟩
        · by_cases g3 : y < 0
          · go_wp2_with fail
            go_ret2
            exact ⟨by rw [HOB.out, HOF.out]; rfl, HB1.out⟩
          · have g4 : 2000 < y := by omega
            go_wp2_with fail
            go_ret2
            exact ⟨by rw [HOB.out, HOF.out]; rfl, HB1.out⟩
  · have HOB : Hid (opB ss x y = false) := Lib.hid (BAD.out (fun h => h0 (bsE_ok h).1))
    have HOF : Hid (opF ss x y = ckLim 256 ss) := Lib.hid (by unfold opF; rw [if_neg h0])
    generalize ckLim 256 ss = z at *
    subst he
    have h0b : (z != 0) = true := by simp [h0]
    clear h0
    go_wp2_with fail
    go_ret2
    exact ⟨by rw [HOB.out, HOF.out]; rfl, HB1.out⟩
end Go.Proofs.YtakllkkmofdpaaaGreatDoor
/- Vectors that are equal; what is small. -/
namespace Go.Proofs.YtakllkkmofdpaaaGreatDoor
open Go.ChangeShapes Go.WideShapes Go.ChangeAt Go.RowKit
set_option linter.unusedVariables false
set_option linter.unusedSimpArgs false
attribute [local go_sem ↓] execOp_call_val
attribute [local go_sem] callVal_func setCell_drewN alloc_drewN sEq_walk
structure Mi where
  kind : Int
  name : ByteArray
  txt : ByteArray
  wt : Int
def Mi.cells (x : Mi) : List Value := [.int .i64 x.kind, .string x.name, .string x.txt, .int .i64 x.wt]
def Mi.val (x : Mi) : Value := .agg #[.int .i64 x.kind, .string x.name, .string x.txt, .int .i64 x.wt]
theorem Mi.len (x : Mi) : x.cells.length = 4 := rfl
def RdMi (w : World) (B : Nat) (A : Option Addr) (n : Nat) (xs : List Mi) : Prop := xs.length = n ∧ Rd w B 4 A n (xs.flatMap Mi.cells)
theorem RdMi.below {w w' : World} {B B' n : Nat} {A : Option Addr} {xs : List Mi} (h : RdMi w B A n xs) (hb : Below B' w w') (hB : B ≤ B') : RdMi w' B A n xs := ⟨h.1, h.2.below hb hB⟩
theorem RdMi.more {w : World} {B B' n : Nat} {A : Option Addr} {xs : List Mi} (h : RdMi w B A n xs) (hB : B ≤ B') : RdMi w B' A n xs := ⟨h.1, h.2.more hB⟩
theorem RdMi.at_ {w : World} {B n : Nat} {b off : Nat} {xs : List Mi} (h : RdMi w B (some ⟨b, off, none⟩) n xs) {i : Nat} {x : Mi} (hx : xs[i]? = some x) :
    w.cell? ⟨b, off + i * 4, none⟩ = some (.int .i64 x.kind) ∧ w.cell? ⟨b, off + i * 4 + 1, none⟩ = some (.string x.name) ∧ w.cell? ⟨b, off + i * 4 + 2, none⟩ = some (.string x.txt) ∧ w.cell? ⟨b, off + i * 4 + 3, none⟩ = some (.int .i64 x.wt) := by
  have hl : i < xs.length := (List.getElem?_eq_some_iff.1 hx).1
  have h1 := h.1
  obtain ⟨b', off', e, _, hc⟩ := h.2.2 (by omega)
  injection e with e
  injection e with e1 e2
  subst e1; subst e2
  have key : ∀ k, k < 4 → ∀ u, x.cells[k]? = some u → w.cell? ⟨b, off + i * 4 + k, none⟩ = some u := fun k hk u hu => by
    have := hc (i * 4 + k) u (by rw [flat_at Mi.len xs i x hx k hk]; exact hu)
    rwa [← Nat.add_assoc] at this
  exact ⟨key 0 (by omega) _ rfl, key 1 (by omega) _ rfl, key 2 (by omega) _ rfl, key 3 (by omega) _ rfl⟩
theorem RdMi.form {w : World} {B n : Nat} {A : Option Addr} {xs : List Mi} (h : RdMi w B A n xs) (h0 : 0 < n) : ∃ b off, A = some ⟨b, off, none⟩ ∧ b < B := by
  obtain ⟨b, off, e, hlt, _⟩ := h.2.2 h0
  exact ⟨b, off, e, hlt⟩
theorem Mi.box {w : World} {p : Nat} {t : TypeId} {x : Mi} (h : Blk w p t #[.int .i64 x.kind, .string x.name, .string x.txt, .int .i64 x.wt]) : w.cell? ⟨p, 0, none⟩ = some (.int .i64 x.kind) ∧ w.cell? ⟨p, 1, none⟩ = some (.string x.name) ∧ w.cell? ⟨p, 2, none⟩ = some (.string x.txt) ∧ w.cell? ⟨p, 3, none⟩ = some (.int .i64 x.wt) ∧ (∀ i, w.frozen? ⟨p, i, none⟩ = false) ∧ p < w.heap.size :=
  ⟨h.cell 0, h.cell 1, h.cell 2, h.cell 3, h.frozen, h.lt⟩

/-- a vector of texts, and where it lies -/
structure Vc where
  A : Option Addr
  n : Nat
  c : Nat
  ss : List ByteArray
def Vc.cells (v : Vc) : List Value := [.slice v.A v.n v.c]
theorem Vc.len (v : Vc) : v.cells.length = 1 := rfl
def RdVc (w : World) (B : Nat) (A : Option Addr) (n : Nat) (vs : List Vc) : Prop := vs.length = n ∧ Rd w B 1 A n (vs.flatMap Vc.cells) ∧ ∀ v ∈ vs, RdStr w B v.A v.n v.ss ∧ v.n ≤ 9223372036854775807
theorem RdVc.below {w w' : World} {B B' n : Nat} {A : Option Addr} {xs : List Vc} (h : RdVc w B A n xs) (hb : Below B' w w') (hB : B ≤ B') : RdVc w' B A n xs := ⟨h.1, h.2.1.below hb hB, fun v hv => ⟨(h.2.2 v hv).1.below hb hB, (h.2.2 v hv).2⟩⟩
theorem RdVc.more {w : World} {B B' n : Nat} {A : Option Addr} {xs : List Vc} (h : RdVc w B A n xs) (hB : B ≤ B') : RdVc w B' A n xs := ⟨h.1, h.2.1.more hB, fun v hv => ⟨(h.2.2 v hv).1.more hB, (h.2.2 v hv).2⟩⟩
theorem RdVc.form {w : World} {B n : Nat} {A : Option Addr} {xs : List Vc} (h : RdVc w B A n xs) (h0 : 0 < n) : ∃ b off, A = some ⟨b, off, none⟩ ∧ b < B := by
  obtain ⟨b, off, e, hlt, _⟩ := h.2.1.2 h0
  exact ⟨b, off, e, hlt⟩
theorem RdVc.at_ {w : World} {B n : Nat} {b off : Nat} {xs : List Vc} (h : RdVc w B (some ⟨b, off, none⟩) n xs) {i : Nat} {x : Vc} (hx : xs[i]? = some x) : w.cell? ⟨b, off + i, none⟩ = some (.slice x.A x.n x.c) := by
  have hl : i < xs.length := (List.getElem?_eq_some_iff.1 hx).1
  have h1 := h.1
  obtain ⟨b', off', e, _, hc⟩ := h.2.1.2 (by omega)
  injection e with e
  injection e with e1 e2
  subst e1; subst e2
  have := flat_at Vc.len xs i x hx 0 (by decide)
  rw [Nat.mul_one, Nat.add_zero] at this
  exact hc i _ this
set_option maxRecDepth 100000 in
set_option maxHeartbeats 4000000 in
theorem samevec_any (A : Option Addr) (n c : Nat) (a : List ByteArray) (B : Option Addr) (m d : Nat) (b : List ByteArray) (w : World) (ha : RdStr w w.heap.size A n a) (hb : RdStr w w.heap.size B m b) (hn : n ≤ 9223372036854775807) (hm : m ≤ 9223372036854775807) :
    Calls Tryz.prog 45 #[.slice A n c, .slice B m d] w fun e w' => e = .returned (.bool (decide (a = b))) ∧ Below w.heap.size w w' := by
  have hla := Lib.hid ha.1
  have hlb := Lib.hid hb.1
  have HA := Lib.hid ha
  have HB := Lib.hid hb
  clear ha hb
  go_enter Tryz.func45, Tryz.ntmps45
  by_cases hnm : n = m
  · subst hnm
    go_wp2_with fail
    go_loopw [5, 13] (fun _ i wr => ∃ k : Nat, k ≤ n ∧ i = .int .i64 k ∧ a.take k = b.take k ∧ Below w.heap.size w wr) (fun _ i _ => n - (intOf i).toNat)
    case atStart => exact ⟨0, by omega, rfl, by simp, Below.refl _ _⟩
    case round =>
      obtain ⟨k, hk, rfl, hab, hbw⟩ := hrel
      have HAB := Lib.hid hab
      have HW := Lib.hid hbw
      clear hab hbw
      by_cases hlt : k < n
      · obtain ⟨x, hx⟩ : ∃ x, a[k]? = some x := ⟨_, List.getElem?_eq_getElem (by have := hla.out; omega)⟩
        obtain ⟨y, hy⟩ : ∃ y, b[k]? = some y := ⟨_, List.getElem?_eq_getElem (by have := hlb.out; omega)⟩
        obtain ⟨ba, oa, rfl, hablt⟩ := HA.out.form (by omega)
        obtain ⟨bb, ob, rfl, hbblt⟩ := HB.out.form (by omega)
        have hca := (HA.out.below HW.out (Nat.le_refl _)).at_ hx
        have hcb := (HB.out.below HW.out (Nat.le_refl _)).at_ hy
        have hl1 : ba < wr.heap.size := Nat.lt_of_lt_of_le hablt HW.out.size
        have hl2 : bb < wr.heap.size := Nat.lt_of_lt_of_le hbblt HW.out.size
        have hltI : (k : Int) < (n : Int) := by omega
        have hkI : (0 : Int) ≤ (k : Int) := by omega
        have HN1 : Hid ((k : Int) + 1 = ((k + 1 : Nat) : Int)) := Lib.hid (by omega)
        have HN2 : Hid (n - (k + 1) < n - k) := Lib.hid (by omega)
        by_cases hxy : x = y
        · subst hxy
          have hp : sEq x x = true := sEq_iff.2 rfl
          have HT : Hid (a.take (k + 1) = b.take (k + 1)) := Lib.hid (by rw [take_snoc hx, take_snoc hy, HAB.out])
          clear hx hy hablt hbblt
          go_wp2_with fail
          go_quiet (fail)
          go_wp2_with fail
          go_roundw
          case rel => exact ⟨k + 1, hlt, val_int HN1.out, HT.out, below_drewN HW.out _⟩
          case measure => exact HN2.out
        · have hp : sEq x y = false := sEq_ff.2 hxy
          have HT : Hid (decide (a = b) = false) := Lib.hid (by
            rw [decide_eq_false_iff_not]
            intro e
            subst e
            rw [hx] at hy
            injection hy with hy
            exact hxy hy)
          clear hx hy hablt hbblt hxy
          go_wp2_with fail
          go_quiet (fail)
          go_wp2_with fail
          go_ret
          exact ⟨by rw [HT.out]; rfl, below_drewN HW.out _⟩
      · have hkI : ¬ (k : Int) < (n : Int) := by omega
        have HT : Hid (decide (a = b) = true) := Lib.hid (by
          rw [decide_eq_true_iff]
          have h := HAB.out
          rwa [List.take_of_length_le (by have := hla.out; omega), List.take_of_length_le (by have := hlb.out; omega)] at h)
        go_wp2_with fail
        go_ret
        exact ⟨by rw [HT.out]; rfl, HW.out⟩
  · have hI : ((n : Int) != (m : Int)) = true := by simp; omega
    have HT : Hid (decide (a = b) = false) := Lib.hid (by
      rw [decide_eq_false_iff_not]
      intro e
      subst e
      exact hnm (hla.out.symm.trans hlb.out))
    go_wp2_with fail
    go_ret
    exact ⟨by rw [HT.out]; rfl, Below.refl _ _⟩
set_option maxRecDepth 100000 in
set_option maxHeartbeats 4000000 in
theorem hastext_any (A : Option Addr) (n c : Nat) (ss : List ByteArray) (z : ByteArray) (w : World) (hr : RdStr w w.heap.size A n ss) (hn : n ≤ 9223372036854775807) :
    Calls Tryz.prog 19 #[.slice A n c, .string z] w fun e w' => e = .returned (.bool (ss.any (fun x => sEq x z))) ∧ Below w.heap.size w w' := by
  have HR := Lib.hid hr
  have HL := Lib.hid hr.1
  clear hr
  go_enter Tryz.func19, Tryz.ntmps19
  go_wp2_with fail
  go_loopw [9] (fun v9 wr => ∃ k : Nat, k ≤ n ∧ v9 = .int .i64 k ∧ ss.any (fun x => sEq x z) = (ss.drop k).any (fun x => sEq x z) ∧ Below w.heap.size w wr) (fun v9 _ => n - (intOf v9).toNat)
  case atStart => exact ⟨0, by omega, rfl, rfl, Below.refl _ _⟩
  case round =>
    obtain ⟨k, hk, rfl, hgo, hb⟩ := hrel
    have HG := Lib.hid hgo
    have HB := Lib.hid hb
    clear hgo hb
    by_cases hlt : k < n
    · obtain ⟨s, hs⟩ : ∃ s, ss[k]? = some s := ⟨_, List.getElem?_eq_getElem (by have := HL.out; omega)⟩
      obtain ⟨b, o, hA, hb⟩ := (HR.out.below HB.out (Nat.le_refl _)).form (by omega)
      subst hA
      have hc := (HR.out.below HB.out (Nat.le_refl _)).at_ hs
      have hbl : b < wr.heap.size := Nat.lt_of_lt_of_le hb HB.out.size
      have HD : Hid ((ss.drop k).any (fun x => sEq x z) = (sEq s z || (ss.drop (k + 1)).any (fun x => sEq x z))) := Lib.hid (by rw [drop_cons hs]; rfl)
      have hkI : (k : Int) < (n : Int) := by omega
      have HN1 : Hid ((k : Int) + 1 = ((k + 1 : Nat) : Int)) := Lib.hid (by omega)
      have HN2 : Hid (n - (k + 1) < n - k) := Lib.hid (by omega)
      clear hs hb
      cases h0 : sEq s z with
      | false =>
        have HE : Hid (ss.any (fun x => sEq x z) = (ss.drop (k + 1)).any (fun x => sEq x z)) := Lib.hid (by rw [HG.out, HD.out, h0, Bool.false_or])
        go_wp2_with fail
        go_roundw
        case rel => exact ⟨k + 1, hlt, val_int HN1.out, HE.out, HB.out⟩
        case measure => exact HN2.out
      | true =>
        have HE : Hid (ss.any (fun x => sEq x z) = true) := Lib.hid (by rw [HG.out, HD.out, h0, Bool.true_or])
        go_wp2_with fail
        go_ret
        exact ⟨by rw [HE.out]; rfl, HB.out⟩
    · have HE : Hid (ss.any (fun x => sEq x z) = false) := Lib.hid (by rw [HG.out, List.drop_eq_nil_of_le (by have := HL.out; omega)]; rfl)
      have hkI : ¬ (k : Int) < (n : Int) := by omega
      go_wp2_with fail
      go_ret
      exact ⟨by rw [HE.out]; rfl, HB.out⟩
end Go.Proofs.YtakllkkmofdpaaaGreatDoor
/- The branches at the boundary of a part. -/
namespace Go.Proofs.YtakllkkmofdpaaaGreatDoor
open Go.ChangeShapes Go.WideShapes Go.ChangeAt Go.RowKit
set_option linter.unusedVariables false
set_option linter.unusedSimpArgs false
attribute [local go_sem ↓] execOp_call_val
attribute [local go_sem] callVal_func setCell_drewN alloc_drewN sEq_walk NetH.cells

def ct (l : List ByteArray) (s : ByteArray) : Bool := l.any fun x => sEq s x
theorem ct_iff {l : List ByteArray} {s : ByteArray} : ct l s = true ↔ s ∈ l := by
  unfold ct
  rw [List.any_eq_true]
  exact ⟨fun ⟨x, hx, he⟩ => by rw [sEq_iff.1 he]; exact hx, fun h => ⟨s, h, sEq_iff.2 rfl⟩⟩
/-- the first fault of the names of a part -/
def ptE (nodes part : List ByteArray) : List ByteArray → Nat → Int
  | [], _ => 0
  | s :: r, k => if ct nodes s then (if ct (part.take k) s then 7 else ptE nodes part r (k + 1)) else 6
/-- a closed switch that crosses the boundary -/
def swX (part : List ByteArray) (s : Sw) : Bool := !s.opn && (ct part s.a != ct part s.b)
/-- the branches that cross the boundary -/
def brX (part : List ByteArray) (b : Br) : Bool := ct part b.fr != ct part b.to
def crGo (part : List ByteArray) : List Br → Nat → List Int
  | [], _ => []
  | b :: r, k => if brX part b then (k : Int) :: crGo part r (k + 1) else crGo part r (k + 1)
def bdE (x : Net) (part : List ByteArray) : Int := if netCk x = 0 then (if ptE x.nodes part part 0 = 0 then (if x.sws.any (swX part) then 3 else 0) else ptE x.nodes part part 0) else netCk x
def bdR (x : Net) (part : List ByteArray) : List Int := if bdE x part = 0 then crGo part x.brs 0 else []
theorem crGo_len (part : List ByteArray) : ∀ (l : List Br) (k : Nat), (crGo part l k).length ≤ l.length
  | [], _ => by simp [crGo]
  | b :: r, k => by
    have := crGo_len part r (k + 1)
    unfold crGo
    split <;> simp <;> omega
/-- what Boundary hands back -/
def BdP (ls : List Int) (z : Int) (w : World) (e : Ending) (w' : World) : Prop := Below w.heap.size w w' ∧ ∃ A n c, e = .returned (.tuple #[.slice A n c, .int .i64 z]) ∧ RdI w' w'.heap.size A n ls ∧ n ≤ c ∧ c ≤ maxLen
theorem bdP_none {z : Int} {w w' : World} {e : Ending} (hb : Below w.heap.size w w') (he : e = .returned (.tuple #[.slice none 0 0, .int .i64 z])) : BdP [] z w e w' := ⟨hb, none, 0, 0, he, rdI_nil _ _ _, Nat.le_refl _, by simp [maxLen]⟩
theorem info_int0 : (Tryz.prog.info? 3).map (fun i => (i.zero, i.size, i.bytes)) = some (some (.int .i64 0), 1, 8) := by kernel_rfl
set_option maxRecDepth 100000 in
set_option maxHeartbeats 4000000 in
theorem boundary_any (h : NetH) (x : Net) (A : Option Addr) (n c : Nat) (part : List ByteArray) (w : World) (r : RdNet w w.heap.size h x) (hp : RdStr w w.heap.size A n part) (hn : n ≤ 9223372036854775807) (hnc : n ≤ c) (hc : c ≤ 9223372036854775807) :
    Calls Tryz.prog 44 #[.agg h.cells, .slice A n c] w (BdP (bdR x part) (bdE x part) w) := by
  have K0 : Below w.heap.size w (w.alloc (.cells h.cells 33)) := (Below.refl _ _).alloc (Nat.le_refl _) _
  have HK := Lib.hid K0
  have HR := Lib.hid (r.up K0)
  have HR00 := Lib.hid r
  have HP := Lib.hid hp
  have HPL := Lib.hid hp.1
  have HX := Lib.hid (Blk.new w 33 h.cells)
  obtain ⟨i0, hi0, hz0, hz1, hz2⟩ := info_parts info_int0
  have HI0 := Lib.hid hi0
  have HI1 := Lib.hid hz0
  have HI2 := Lib.hid hz1
  have HI3 := Lib.hid hz2
  clear K0 r hp hi0 hz0 hz1 hz2
  obtain ⟨A0, m0, c0, A1, m1, c1, A2, m2, c2, A3, m3, c3, A4, m4, c4, A5, m5, c5⟩ := h
  simp only [NetH.cells] at HK HR HR00 HX ⊢
  go_enter Tryz.func44, Tryz.ntmps44
  go_upto_region 1 with fail
  generalize w.alloc (.cells #[.slice A0 m0 c0, .slice A1 m1 c1, .slice A2 m2 c2, .slice A3 m3 c3, .slice A4 m4 c4, .slice A5 m5 c5] 33) = W at *
  have hgl := HX.out.lt
  have HC := Lib.hid (check_any ⟨A0, m0, c0, A1, m1, c1, A2, m2, c2, A3, m3, c3, A4, m4, c4, A5, m5, c5⟩ x W HR.out)
  simp only [NetH.cells] at HC
  have y0 := HX.out.cell 0
  have y1 := HX.out.cell 1
  have y2 := HX.out.cell 2
  have y3 := HX.out.cell 3
  have y4 := HX.out.cell 4
  have y5 := HX.out.cell 5
  go_wp2_with fail
  refine HC.out.mono ?_
  clear y0 y1 y2 y3 y4 y5 hgl HC
  rintro e w1 ⟨he, hb1⟩
  have HB1 := Lib.hid (HK.out.trans (hb1.mono HK.out.size))
  have HR1 := Lib.hid (HR.out.up hb1)
  have HX1 := Lib.hid (HX.out.below hb1 HX.out.lt)
  clear hb1 HK HR HX
  by_cases h0 : netCk x = 0
  · have H0 := Lib.hid h0
    have hok := netCk_ok h0
    have hs32 := hok.l1
    have hb24 := hok.l2
    have lm1 : Hid (x.sws.length = m1) := Lib.hid HR1.out.r1.1
    have lm2 : Hid (x.brs.length = m2) := Lib.hid HR1.out.r2.1
    have bm0 : m0 ≤ 9223372036854775807 := HR1.out.m0
    have bm1 : m1 ≤ 32 := by rw [← lm1.out]; exact hs32
    have bm2 : m2 ≤ 24 := by rw [← lm2.out]; exact hb24
    clear hs32 hb24
    rw [h0] at he
    subst he
    have HE0 : Hid (bdE x part = if ptE x.nodes part part 0 = 0 then (if x.sws.any (swX part) then 3 else 0) else ptE x.nodes part part 0) := Lib.hid (by unfold bdE; rw [if_pos H0.out])
    clear h0 hok
    go_wp2_with fail
    go_loopw [21] (fun v21 wr => ∃ k : Nat, k ≤ n ∧ v21 = .int .i64 k ∧ ptE x.nodes part part 0 = ptE x.nodes part (part.drop k) k ∧ Below w.heap.size w wr ∧ Blk wr w.heap.size 33 #[.slice A0 m0 c0, .slice A1 m1 c1, .slice A2 m2 c2, .slice A3 m3 c3, .slice A4 m4 c4, .slice A5 m5 c5] ∧ RdNet wr wr.heap.size ⟨A0, m0, c0, A1, m1, c1, A2, m2, c2, A3, m3, c3, A4, m4, c4, A5, m5, c5⟩ x) (fun v21 _ => n - (intOf v21).toNat)
    case atStart => exact ⟨0, by omega, rfl, rfl, HB1.out, HX1.out, HR1.out⟩
    case round =>
      clear HB1 HX1 HR1
      obtain ⟨k, hk, rfl, hgo, hb, hx, hr⟩ := hrel
      have HG := Lib.hid hgo
      have HB := Lib.hid hb
      have HX := Lib.hid hx
      have HR := Lib.hid hr
      clear hgo hb hx hr
      have y0 := HX.out.cell 0
      have y1 := HX.out.cell 1
      have y2 := HX.out.cell 2
      have yl := HX.out.lt
      by_cases hlt : k < n
      · obtain ⟨s, hs⟩ : ∃ s, part[k]? = some s := ⟨_, List.getElem?_eq_getElem (by have := HPL.out; omega)⟩
        obtain ⟨b, off, hA, hb⟩ := (HP.out.below HB.out (Nat.le_refl _)).form (by omega)
        subst hA
        have hcs := (HP.out.below HB.out (Nat.le_refl _)).at_ hs
        have hbl : b < wr.heap.size := Nat.lt_of_lt_of_le hb HB.out.size
        have HD : Hid (ptE x.nodes part (part.drop k) k = if ct x.nodes s then (if ct (part.take k) s then 7 else ptE x.nodes part (part.drop (k + 1)) (k + 1)) else 6) := Lib.hid (by rw [drop_cons hs]; rfl)
        have hkI : (k : Int) < (n : Int) := by omega
        have hkc : k ≤ c := by omega
        have hkcI : (k : Int) ≤ (c : Int) := by omega
        have HN1 : Hid ((k : Int) + 1 = ((k + 1 : Nat) : Int)) := Lib.hid (by omega)
        have HN2 : Hid (n - (k + 1) < n - k) := Lib.hid (by omega)
        have HC1 := Lib.hid (contains_str A0 m0 c0 x.nodes s wr HR.out.r0 bm0)
        have HTK := Lib.hid (((HP.out.below HB.out (Nat.le_refl _)).more HB.out.size).take (m := k) (by omega))
        have HC2 := Lib.hid (contains_str _ k c (part.take k) s wr HTK.out (by omega))
        clear hs hb
        go_wp2_with fail
        refine HC1.out.mono ?_
        rintro e w2 ⟨rfl, rfl⟩
        have hct : (x.nodes.any fun x => sEq s x) = ct x.nodes s := rfl
        rw [hct]
        clear hct HC1
        cases h1 : ct x.nodes s with
        | false =>
          have HE : Hid (bdE x part = 6) := Lib.hid (by rw [HE0.out, HG.out, HD.out, h1]; rfl)
          have HL : Hid (bdR x part = []) := Lib.hid (by unfold bdR; rw [HE.out]; rfl)
          clear h1
          go_wp2_with fail
          go_ret2
          rw [HE.out, HL.out]
          exact bdP_none HB.out rfl
        | true =>
          have H1 := Lib.hid h1
          clear h1
          go_wp2_with fail
          refine HC2.out.mono ?_
          rintro e w2 ⟨rfl, rfl⟩
          have hct : ((part.take k).any fun x => sEq s x) = ct (part.take k) s := rfl
          rw [hct]
          clear hct HC2
          cases h2 : ct (part.take k) s with
          | true =>
            have HE : Hid (bdE x part = 7) := Lib.hid (by rw [HE0.out, HG.out, HD.out, H1.out, h2]; rfl)
            have HL : Hid (bdR x part = []) := Lib.hid (by unfold bdR; rw [HE.out]; rfl)
            clear h2
            go_wp2_with fail
            go_ret2
            rw [HE.out, HL.out]
            exact bdP_none HB.out rfl
          | false =>
            have HE : Hid (ptE x.nodes part part 0 = ptE x.nodes part (part.drop (k + 1)) (k + 1)) := Lib.hid (by rw [HG.out, HD.out, H1.out, h2]; rfl)
            clear h2
            go_wp2_with fail
            go_roundw
            case rel => exact ⟨k + 1, hlt, val_int HN1.out, HE.out, HB.out, HX.out, HR.out⟩
            case measure => exact HN2.out
      · have hkI : ¬ (k : Int) < (n : Int) := by omega
        have HE1 : Hid (bdE x part = if x.sws.any (swX part) then 3 else 0) := Lib.hid (by rw [HE0.out, HG.out, List.drop_eq_nil_of_le (by have := HPL.out; omega)]; rfl)
        clear HG HE0
        go_wp2_with fail
        clear hkI hk hlt y0 y1 y2 yl
        generalize wr = wz at *
        go_loopw [42] (fun v42 wr => ∃ k : Nat, k ≤ m1 ∧ v42 = .int .i64 k ∧ x.sws.any (swX part) = (x.sws.drop k).any (swX part) ∧ Below w.heap.size w wr ∧ Blk wr w.heap.size 33 #[.slice A0 m0 c0, .slice A1 m1 c1, .slice A2 m2 c2, .slice A3 m3 c3, .slice A4 m4 c4, .slice A5 m5 c5] ∧ RdNet wr wr.heap.size ⟨A0, m0, c0, A1, m1, c1, A2, m2, c2, A3, m3, c3, A4, m4, c4, A5, m5, c5⟩ x) (fun v42 _ => m1 - (intOf v42).toNat)
        case atStart => exact ⟨0, by omega, rfl, rfl, HB.out, HX.out, HR.out⟩
        case round =>
          clear HB HX HR
          obtain ⟨k, hk, rfl, hgo, hb, hx, hr⟩ := hrel
          have HG := Lib.hid hgo
          have HB := Lib.hid hb
          have HX := Lib.hid hx
          have HR := Lib.hid hr
          clear hgo hb hx hr
          by_cases hlt : k < m1
          · obtain ⟨s, hs⟩ : ∃ s, x.sws[k]? = some s := ⟨_, List.getElem?_eq_getElem (by have := lm1.out; omega)⟩
            obtain ⟨b, off, hA, hb⟩ := HR.out.r1.form (show 0 < m1 by omega)
            simp only at hA
            subst hA
            obtain ⟨a0, a1, a2, a3, a4⟩ := HR.out.r1.at_ hs
            have HD : Hid ((x.sws.drop k).any (swX part) = (swX part s || (x.sws.drop (k + 1)).any (swX part))) := Lib.hid (by rw [drop_cons hs]; rfl)
            obtain ⟨nm, sa, sb, brk, opn⟩ := s
            have hkI : (k : Int) < (m1 : Int) := by omega
            have HN1 : Hid ((k : Int) + 1 = ((k + 1 : Nat) : Int)) := Lib.hid (by omega)
            have HN2 : Hid (m1 - (k + 1) < m1 - k) := Lib.hid (by omega)
            clear hs
            go_upto_region 15 with fail
            clear a0 a1 a2 a3 a4 hb
            generalize hwa : wr.alloc (.cells #[.string nm, .string sa, .string sb, .bool brk, .bool opn] 139) = wa
            have hba : Below wr.heap.size wr wa := by rw [← hwa]; exact (Below.refl _ _).alloc (Nat.le_refl _) _
            have HZ : Hid (Blk wa wr.heap.size 139 #[.string nm, .string sa, .string sb, .bool brk, .bool opn]) := Lib.hid (by rw [← hwa]; exact Blk.new wr _ _)
            replace HB := Lib.hid (HB.out.trans (hba.mono HB.out.size))
            replace HX := Lib.hid (HX.out.below hba HX.out.lt)
            replace HR := Lib.hid (HR.out.up hba)
            clear hwa hba
            generalize wr.heap.size = gs at *
            have z0 := HZ.out.cell 0
            have z1 := HZ.out.cell 1
            have z2 := HZ.out.cell 2
            have z4 := HZ.out.cell 4
            have zf := HZ.out.frozen
            have zl := HZ.out.lt
            have HRP := Lib.hid ((HP.out.below HB.out (Nat.le_refl _)).more HB.out.size)
            cases opn with
            | true =>
              have HE : Hid (x.sws.any (swX part) = (x.sws.drop (k + 1)).any (swX part)) := Lib.hid (by rw [HG.out, HD.out]; rfl)
              go_quiet (fail)
              go_wp2_with fail
              go_roundw
              case rel => exact ⟨k + 1, hlt, val_int HN1.out, HE.out, below_drewN HB.out _, HX.out.drewN _, HR.out.up (below_drewN (Below.refl _ _) _)⟩
              case measure => exact HN2.out
            | false =>
              obtain ⟨ca, hca⟩ : ∃ ca, ct part sa = ca := ⟨_, rfl⟩
              obtain ⟨cb, hcb⟩ : ∃ cb, ct part sb = cb := ⟨_, rfl⟩
              have HCA : Hid (∀ N, Calls Tryz.prog 84 #[.slice A n c, .string sa] (wa.drewN N) fun e w' => e = .returned (.bool ca) ∧ w' = wa.drewN N) := Lib.hid fun N => (contains_str A n c part sa (wa.drewN N) HRP.out hn).mono fun e w' ⟨he, hw⟩ => ⟨by rw [he, ← hca]; rfl, hw.symm⟩
              have HCB : Hid (∀ N, Calls Tryz.prog 84 #[.slice A n c, .string sb] (wa.drewN N) fun e w' => e = .returned (.bool cb) ∧ w' = wa.drewN N) := Lib.hid fun N => (contains_str A n c part sb (wa.drewN N) HRP.out hn).mono fun e w' ⟨he, hw⟩ => ⟨by rw [he, ← hcb]; rfl, hw.symm⟩
              have HSX : Hid (swX part ⟨nm, sa, sb, brk, false⟩ = (ca != cb)) := Lib.hid (by unfold swX; rw [hca, hcb]; rfl)
              clear hca hcb
              go_quiet ((first | (go_at_call_of 84 (Value.string sa); exact (HCA.out _).mono (fun _ _ hh => ⟨hh.1, _, hh.2⟩)) | (go_at_call_of 84 (Value.string sb); exact (HCB.out _).mono (fun _ _ hh => ⟨hh.1, _, hh.2⟩))))
              clear HCA HCB
              cases ca <;> cases cb
              · have HE : Hid (x.sws.any (swX part) = (x.sws.drop (k + 1)).any (swX part)) := Lib.hid (by rw [HG.out, HD.out, HSX.out]; rfl)
                go_wp2_with fail
                go_roundw
                case rel => exact ⟨k + 1, hlt, val_int HN1.out, HE.out, below_drewN HB.out _, HX.out.drewN _, HR.out.up (below_drewN (Below.refl _ _) _)⟩
                case measure => exact HN2.out
              · have HE : Hid (bdE x part = 3) := Lib.hid (by rw [HE1.out, HG.out, HD.out, HSX.out]; rfl)
                have HL : Hid (bdR x part = []) := Lib.hid (by unfold bdR; rw [HE.out]; rfl)
                go_wp2_with fail
                go_ret2
                rw [HE.out, HL.out]
                exact bdP_none (below_drewN HB.out _) rfl
              · have HE : Hid (bdE x part = 3) := Lib.hid (by rw [HE1.out, HG.out, HD.out, HSX.out]; rfl)
                have HL : Hid (bdR x part = []) := Lib.hid (by unfold bdR; rw [HE.out]; rfl)
                go_wp2_with fail
                go_ret2
                rw [HE.out, HL.out]
                exact bdP_none (below_drewN HB.out _) rfl
              · have HE : Hid (x.sws.any (swX part) = (x.sws.drop (k + 1)).any (swX part)) := Lib.hid (by rw [HG.out, HD.out, HSX.out]; rfl)
                go_wp2_with fail
                go_roundw
                case rel => exact ⟨k + 1, hlt, val_int HN1.out, HE.out, below_drewN HB.out _, HX.out.drewN _, HR.out.up (below_drewN (Below.refl _ _) _)⟩
                case measure => exact HN2.out
          · have hkI : ¬ (k : Int) < (m1 : Int) := by omega
            have HE : Hid (bdE x part = 0) := Lib.hid (by rw [HE1.out, HG.out, List.drop_eq_nil_of_le (by have := lm1.out; omega)]; rfl)
            have HL : Hid (bdR x part = crGo part x.brs 0) := Lib.hid (by unfold bdR; rw [if_pos HE.out])
            have y2 := HX.out.cell 2
            have yl := HX.out.lt
            clear HG HE1
            go_wp2_with fail
            clear hkI hk hlt y2 yl
            generalize wr = wz at *
            go_loopw [11, 64] (fun v11 v64 wr => ∃ (k : Nat) (out : List Int), k ≤ m2 ∧ v64 = .int .i64 k ∧ out.length ≤ k ∧ crGo part x.brs 0 = out ++ crGo part (x.brs.drop k) k ∧ wr.ownsRow (w.heap.size + 1) 3 1 v11 out.length (ints out) ∧ Below w.heap.size w wr ∧ Blk wr w.heap.size 33 #[.slice A0 m0 c0, .slice A1 m1 c1, .slice A2 m2 c2, .slice A3 m3 c3, .slice A4 m4 c4, .slice A5 m5 c5]) (fun _ v64 _ => m2 - (intOf v64).toNat)
            case atStart => exact ⟨0, [], by omega, rfl, by simp, rfl, own_none _ _ _ _, HB.out, HX.out⟩
            case round =>
              clear HB HX HR
              obtain ⟨k, out, hk, rfl, hol, hgo, how, hb, hx⟩ := hrel
              have HG := Lib.hid hgo
              have HO := Lib.hid how
              have HB := Lib.hid hb
              have HX := Lib.hid hx
              have HR := Lib.hid ((HR00.out.below HB.out (Nat.le_refl _)).more HB.out.size)
              clear hgo how hb hx
              by_cases hlt : k < m2
              · obtain ⟨s, hs⟩ : ∃ s, x.brs[k]? = some s := ⟨_, List.getElem?_eq_getElem (by have := lm2.out; omega)⟩
                obtain ⟨b, off, hA, hb⟩ := HR.out.r2.form (show 0 < m2 by omega)
                simp only at hA
                subst hA
                obtain ⟨a0, a1, a2, a3, a4, a5, a6, a7, a8⟩ := HR.out.r2.at_ hs
                have HD : Hid (crGo part (x.brs.drop k) k = if brX part s then (k : Int) :: crGo part (x.brs.drop (k + 1)) (k + 1) else crGo part (x.brs.drop (k + 1)) (k + 1)) := Lib.hid (by rw [drop_cons hs]; rfl)
                obtain ⟨nm, fr, tn, b1, b2, b3, b4, b5, b6⟩ := s
                have hkI : (k : Int) < (m2 : Int) := by omega
                have HN1 : Hid ((k : Int) + 1 = ((k + 1 : Nat) : Int)) := Lib.hid (by omega)
                have HN2 : Hid (m2 - (k + 1) < m2 - k) := Lib.hid (by omega)
                clear hs
                go_upto_region 22 with fail
                clear a0 a1 a2 a3 a4 a5 a6 a7 a8 hb
                generalize hwa : wr.alloc (.cells #[.string nm, .string fr, .string tn, .int .i64 b1, .int .i64 b2, .int .i64 b3, .int .i64 b4, .int .i64 b5, .int .i64 b6] 70) = wa
                have hba : Below wr.heap.size wr wa := by rw [← hwa]; exact (Below.refl _ _).alloc (Nat.le_refl _) _
                have HZ : Hid (Blk wa wr.heap.size 70 #[.string nm, .string fr, .string tn, .int .i64 b1, .int .i64 b2, .int .i64 b3, .int .i64 b4, .int .i64 b5, .int .i64 b6]) := Lib.hid (by rw [← hwa]; exact Blk.new wr _ _)
                replace HO := Lib.hid (own_keep HO.out hba)
                replace HB := Lib.hid (HB.out.trans (hba.mono HB.out.size))
                replace HX := Lib.hid (HX.out.below hba HX.out.lt)
                clear hwa hba
                generalize wr.heap.size = gs at *
                have z1 := HZ.out.cell 1
                have z2 := HZ.out.cell 2
                have zl := HZ.out.lt
                have HRP := Lib.hid ((HP.out.below HB.out (Nat.le_refl _)).more HB.out.size)
                obtain ⟨ca, hca⟩ : ∃ ca, ct part fr = ca := ⟨_, rfl⟩
                obtain ⟨cb, hcb⟩ : ∃ cb, ct part tn = cb := ⟨_, rfl⟩
                have HCA : Hid (∀ N, Calls Tryz.prog 84 #[.slice A n c, .string fr] (wa.drewN N) fun e w' => e = .returned (.bool ca) ∧ w' = wa.drewN N) := Lib.hid fun N => (contains_str A n c part fr (wa.drewN N) HRP.out hn).mono fun e w' ⟨he, hw⟩ => ⟨by rw [he, ← hca]; rfl, hw.symm⟩
                have HCB : Hid (∀ N, Calls Tryz.prog 84 #[.slice A n c, .string tn] (wa.drewN N) fun e w' => e = .returned (.bool cb) ∧ w' = wa.drewN N) := Lib.hid fun N => (contains_str A n c part tn (wa.drewN N) HRP.out hn).mono fun e w' ⟨he, hw⟩ => ⟨by rw [he, ← hcb]; rfl, hw.symm⟩
                have HSX : Hid (brX part ⟨nm, fr, tn, b1, b2, b3, b4, b5, b6⟩ = (ca != cb)) := Lib.hid (by unfold brX; rw [hca, hcb])
                clear hca hcb
                go_quiet ((first | (go_at_call_of 84 (Value.string fr); exact (HCA.out _).mono (fun _ _ hh => ⟨hh.1, _, hh.2⟩)) | (go_at_call_of 84 (Value.string tn); exact (HCB.out _).mono (fun _ _ hh => ⟨hh.1, _, hh.2⟩))))
                clear HCA HCB z1 z2 zl HZ
                replace HO := Lib.hid (own_keep HO.out (below_drewN (Below.refl _ _) nq))
                replace HB := Lib.hid (below_drewN HB.out nq)
                replace HX := Lib.hid (HX.out.drewN nq)
                generalize wa.drewN nq = wd at *
                have hbase := HX.out.lt
                cases ca <;> cases cb
                · have HE : Hid (crGo part x.brs 0 = out ++ crGo part (x.brs.drop (k + 1)) (k + 1)) := Lib.hid (by rw [HG.out, HD.out, HSX.out]; rfl)
                  go_wp2_with fail
                  go_roundw
                  case rel => exact ⟨k + 1, out, hlt, val_int HN1.out, by omega, HE.out, HO.out, HB.out, HX.out⟩
                  case measure => exact HN2.out
                · have HE : Hid (crGo part x.brs 0 = (out ++ [(k : Int)]) ++ crGo part (x.brs.drop (k + 1)) (k + 1)) := Lib.hid (by rw [HG.out, HD.out, HSX.out, List.append_assoc]; rfl)
                  go_wp2_with (at_builtin; refine wpList_app1 rfl (.tmp 78) (.tmp 80) _ rfl (w.heap.size + 1) 3 i0 _ 1 8 Tryz.underlying53 HI0.out HI1.out HI2.out HI3.out rfl (by omega) u11 out.length (ints out) rfl HO.out rfl rfl ?k1 ?k2 ?k3 hbase ?_)
                  case k1 => simp [Value.oneCell']
                  case k2 => simp only [maxLen]; omega
                  case k3 => omega
                  intro v' w6 hown6 hb6 hg6
                  have HO6 : Hid (w6.ownsRow (w.heap.size + 1) 3 1 v' (out ++ [(k : Int)]).length (ints (out ++ [(k : Int)]))) := Lib.hid (by rw [List.length_append, List.length_singleton]; simpa [ints] using hown6)
                  have hb7 : Below w.heap.size w w6 := HB.out.trans (hb6.mono (Nat.le_succ _))
                  have HX6 := Lib.hid (HX.out.below hb6 (Nat.lt_succ_self _))
                  have HB6 := Lib.hid hb7
                  clear hown6 hb6 hg6 hb7
                  go_wp2_with fail
                  go_roundw
                  case rel => exact ⟨k + 1, out ++ [(k : Int)], hlt, val_int HN1.out, by rw [List.length_append, List.length_singleton]; omega, HE.out, HO6.out, HB6.out, HX6.out⟩
                  case measure => exact HN2.out
                · have HE : Hid (crGo part x.brs 0 = (out ++ [(k : Int)]) ++ crGo part (x.brs.drop (k + 1)) (k + 1)) := Lib.hid (by rw [HG.out, HD.out, HSX.out, List.append_assoc]; rfl)
                  go_wp2_with (at_builtin; refine wpList_app1 rfl (.tmp 78) (.tmp 80) _ rfl (w.heap.size + 1) 3 i0 _ 1 8 Tryz.underlying53 HI0.out HI1.out HI2.out HI3.out rfl (by omega) u11 out.length (ints out) rfl HO.out rfl rfl ?k1 ?k2 ?k3 hbase ?_)
                  case k1 => simp [Value.oneCell']
                  case k2 => simp only [maxLen]; omega
                  case k3 => omega
                  intro v' w6 hown6 hb6 hg6
                  have HO6 : Hid (w6.ownsRow (w.heap.size + 1) 3 1 v' (out ++ [(k : Int)]).length (ints (out ++ [(k : Int)]))) := Lib.hid (by rw [List.length_append, List.length_singleton]; simpa [ints] using hown6)
                  have hb7 : Below w.heap.size w w6 := HB.out.trans (hb6.mono (Nat.le_succ _))
                  have HX6 := Lib.hid (HX.out.below hb6 (Nat.lt_succ_self _))
                  have HB6 := Lib.hid hb7
                  clear hown6 hb6 hg6 hb7
                  go_wp2_with fail
                  go_roundw
                  case rel => exact ⟨k + 1, out ++ [(k : Int)], hlt, val_int HN1.out, by rw [List.length_append, List.length_singleton]; omega, HE.out, HO6.out, HB6.out, HX6.out⟩
                  case measure => exact HN2.out
                · have HE : Hid (crGo part x.brs 0 = out ++ crGo part (x.brs.drop (k + 1)) (k + 1)) := Lib.hid (by rw [HG.out, HD.out, HSX.out]; rfl)
                  go_wp2_with fail
                  go_roundw
                  case rel => exact ⟨k + 1, out, hlt, val_int HN1.out, by omega, HE.out, HO.out, HB.out, HX.out⟩
                  case measure => exact HN2.out
              · have hkI : ¬ (k : Int) < (m2 : Int) := by omega
                have HLL : Hid (bdR x part = out) := Lib.hid (by rw [HL.out, HG.out, List.drop_eq_nil_of_le (by have := lm2.out; omega)]; simp [crGo])
                obtain ⟨A6, c6, hv, hrd, h1, h2, -⟩ := own_rd HO.out
                subst hv
                have HRD := Lib.hid hrd
                clear hrd
                go_wp2_with fail
                go_ret2
                rw [HE.out, HLL.out]
                exact ⟨HB.out, _, _, _, rfl, HRD.out, h1, h2⟩
  · have HE : Hid (bdE x part = netCk x) := Lib.hid (by unfold bdE; rw [if_neg h0])
    have HL : Hid (bdR x part = []) := Lib.hid (by unfold bdR; rw [HE.out, if_neg h0])
    generalize netCk x = z at *
    subst he
    have h0b : (z != 0) = true := by simp [h0]
    clear h0
    go_wp2_with fail
    go_ret2
    rw [HE.out, HL.out]
    exact bdP_none HB1.out rfl
end Go.Proofs.YtakllkkmofdpaaaGreatDoor
