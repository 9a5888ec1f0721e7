/- The law ChooseMore: the walk. -/
import Derived.Test.YthedpegaelpbdaaGH
namespace Go.Proofs.Ythedpegaelpbdaa
open Go.ChangeShapes Go.WideShapes Go.ChangeAt Go.RowKit
set_option linter.unusedVariables false
attribute [local go_sem ↓] execOp_call_val
attribute [local go_sem] callVal_func setCell_drewN alloc_drewN sEq_walk NetH.cells

/-- with more open switches a fault stays isolated -/
theorem isoB_mono {x : Net} {p : Fp} {o1 o2 : List ByteArray} (hcp : cpR x p = 0) (h : ∀ s ∈ o1, s ∈ o2) (h1 : isoB x o1 p = true) : isoB x o2 p = true := by
  have ok := netCk_ok (cp_net hcp)
  unfold isoB at *
  have h1' := of_decide_eq_true h1
  have f1 := bfsR_found (src := fdSrc x) (go := goR) (fd_ok ok o1 p) (fd_place ok p)
  have f2 := bfsR_found (src := fdSrc x) (go := goR) (fd_ok ok o2 p) (fd_place ok p)
  have := found_less (fd_ok ok o1 p) (fd_place ok p) f1 f2 (fdEs_sub h) h1'
  rw [this]; decide
theorem more_alts {x : Net} {p : Fp} {o1 : List ByteArray} {m : ByteArray} {b1 b2 : Bool} {j1 j2 : Int}
    (h1 : (cpR x p ≠ 0 ∧ b1 = false ∧ j1 = cpR x p) ∨ (cpR x p = 0 ∧ (∃ s ∈ o1, ¬ swOk x s) ∧ b1 = false ∧ j1 = 6) ∨ (cpR x p = 0 ∧ (∀ s ∈ o1, swOk x s) ∧ b1 = isoB x o1 p ∧ j1 = 0))
    (h2 : (cpR x p ≠ 0 ∧ b2 = false ∧ j2 = cpR x p) ∨ (cpR x p = 0 ∧ (∃ s ∈ o1 ++ [m], ¬ swOk x s) ∧ b2 = false ∧ j2 = 6) ∨ (cpR x p = 0 ∧ (∀ s ∈ o1 ++ [m], swOk x s) ∧ b2 = isoB x (o1 ++ [m]) p ∧ j2 = 0)) :
    (b1 = false ∧ j1 ≠ 0) ∨ (j1 = 0 ∧ j2 ≠ 0 ∧ b2 = false) ∨ (j1 = 0 ∧ j2 = 0 ∧ (b1 = true → b2 = true)) := by
  rcases h1 with ⟨a, b, c⟩ | ⟨a, b, c, d⟩ | ⟨a, b, c, d⟩
  · exact .inl ⟨b, by rw [c]; exact a⟩
  · exact .inl ⟨c, by rw [d]; decide⟩
  · rcases h2 with ⟨a', _⟩ | ⟨_, _, c', d'⟩ | ⟨_, _, c', d'⟩
    · exact absurd a a'
    · exact .inr (.inl ⟨d, by rw [d']; decide, c'⟩)
    · refine .inr (.inr ⟨d, d', fun hb => ?_⟩)
      rw [c'] ; rw [c] at hb
      exact isoB_mono a (fun s hs => List.mem_append_left _ hs) hb
set_option maxRecDepth 100000 in
set_option maxHeartbeats 1600000 in
theorem chmore_any (h : NetH) (x : Net) (p : Fp) (O : Option Addr) (on oc : Nat) (opens : List ByteArray) (more : ByteArray) (w : World) (hR : RdNet w w.heap.size h x) (hO : RdStr w w.heap.size O on opens) (hon : on ≤ oc) (hoc : oc ≤ 9223372036854775807) :
    Calls Try.prog 5 #[.agg h.cells, .agg #[.string p.branch, .int .i64 p.part], .slice O on oc, .string more] w fun e w' => e = .returned (.bool true) ∧ Below w.heap.size w w' := by
  have hB0 : Below w.heap.size w ((w.alloc (.cells h.cells 29)).alloc (.cells #[.string p.branch, .int .i64 p.part] 31)) := ((Below.refl _ _).alloc (Nat.le_refl _) _).alloc (by simp) _
  have HB0 := Lib.hid hB0
  have HR0 := Lib.hid (hR.up hB0)
  have HQ0 : Hid (Blk ((w.alloc (.cells h.cells 29)).alloc (.cells #[.string p.branch, .int .i64 p.part] 31)) w.heap.size 29 h.cells) := Lib.hid ((Blk.new w _ _).alloc _)
  have HP0 : Hid (Blk ((w.alloc (.cells h.cells 29)).alloc (.cells #[.string p.branch, .int .i64 p.part] 31)) (w.heap.size + 1) 31 #[.string p.branch, .int .i64 p.part]) := Lib.hid (Blk.new_ (by simp))
  obtain ⟨i0, hi0, hi1, hi2, hi3⟩ := info_parts info_str'
  have HI0 := Lib.hid hi0
  have HI1 := Lib.hid hi1
  have HI2 := Lib.hid hi2
  have HI3 := Lib.hid hi3
  clear hi0 hi1 hi2 hi3
  obtain ⟨A0, n0, c0, A1, n1, c1, A2, n2, c2, A3, n3, c3, A4, n4, c4, A5, n5, c5⟩ := h
  dsimp only [NetH.cells] at *
  obtain ⟨k, hk8, hkn, hm⟩ : ∃ k : Nat, k ≤ 8 ∧ k ≤ on ∧ (if (8 : Int) < (on : Int) then (8 : Int) else (on : Int)) = (k : Int) := by
    by_cases h : (8 : Int) < (on : Int)
    · exact ⟨8, by omega, by omega, by rw [if_pos h]; rfl⟩
    · exact ⟨on, by omega, by omega, by rw [if_neg h]⟩
  have hkc : (k : Int) ≤ (oc : Int) := by omega
  have HK8 := Lib.hid hk8
  have HLT : Hid ((opens.take k).length + 1 ≤ 1000000) := Lib.hid (by rw [List.length_take]; omega)
  have HOT0 := Lib.hid (((hO.take hkn).below hB0 (Nat.le_refl _)).more hB0.size)
  clear hB0 hR hO
  go_enter Try.func5, Try.ntmps5
  go_wp2_with fail
  generalize (w.alloc (.cells #[.slice A0 n0 c0, .slice A1 n1 c1, .slice A2 n2 c2, .slice A3 n3 c3, .slice A4 n4 c4, .slice A5 n5 c5] 29)).alloc (.cells #[.string p.branch, .int .i64 p.part] 31) = W0 at *
  refine (cworks_any _).mono ?_
  rintro e w1 ⟨rfl, k1⟩
  have HB1 := Lib.hid (HB0.out.trans (k1.mono HB0.out.size))
  have HR1 := Lib.hid (HR0.out.up k1)
  have HQ1 := Lib.hid (HQ0.out.below k1 HQ0.out.lt)
  have HP1 := Lib.hid (HP0.out.below k1 HP0.out.lt)
  have HOT1 := Lib.hid ((HOT0.out.below k1 (Nat.le_refl _)).more k1.size)
  clear k1
  obtain ⟨y0, y1, y2, y3, y4, y5, nf, nlt⟩ := net_box (h := ⟨A0, n0, c0, A1, n1, c1, A2, n2, c2, A3, n3, c3, A4, n4, c4, A5, n5, c5⟩) HQ1.out
  obtain ⟨p0, p1, pf, plt⟩ := check_box HP1.out
  go_wp2_with fail
  clear y0 y1 y2 y3 y4 y5 nf nlt p0 p1 pf plt
  refine (isolated_any ⟨A0, n0, c0, A1, n1, c1, A2, n2, c2, A3, n3, c3, A4, n4, c4, A5, n5, c5⟩ x p O k oc (opens.take k) w1 HR1.out HOT1.out (by have := HK8.out; omega)).mono ?_
  rintro e wr ⟨k2, b1, j1, rfl, halt1⟩
  have HB2 := Lib.hid (HB1.out.trans (k2.mono HB1.out.size))
  have HR2 := Lib.hid (HR1.out.up k2)
  have HQ2 := Lib.hid (HQ1.out.below k2 HQ1.out.lt)
  have HP2 := Lib.hid (HP1.out.below k2 HP1.out.lt)
  have HOT := Lib.hid ((HOT1.out.below k2 (Nat.le_refl _)).more k2.size)
  have HALT1 := Lib.hid halt1
  clear k2 halt1
  go_wp2_with fail
  have k2 : Below wr.heap.size wr wr.drew := below_drew (Below.refl _ _)
  have HB2 := Lib.hid (HB2.out.trans (k2.mono HB2.out.size))
  have HR2 := Lib.hid (HR2.out.up k2)
  have HQ2 := Lib.hid (HQ2.out.below k2 HQ2.out.lt)
  have HP2 := Lib.hid (HP2.out.below k2 HP2.out.lt)
  have HOT := Lib.hid ((HOT.out.below k2 (Nat.le_refl _)).more k2.size)
  clear k2
  refine wp_region_last (S := fun w' => Below wr.drew.heap.size wr.drew w') 13 _ (by kernel_rfl) (by kernel_rfl) rfl (Below.refl _ _) (fun hHeld => ?_)
  generalize wr.drew = w2 at *
  simp only [List.take_succ_cons, List.take_zero]
  refine takeH 0 (v := ?_) rfl (by kernel_rfl) (fun _ _ _ h => h) (by rfl) ?_ hHeld ?_
  rotate_left 1
  · intro w' hSw; obtain ⟨y0, y1, y2, y3, y4, y5, nf, nlt⟩ := net_box (h := ⟨A0, n0, c0, A1, n1, c1, A2, n2, c2, A3, n3, c3, A4, n4, c4, A5, n5, c5⟩) (HQ2.out.below hSw HQ2.out.lt); go_simp <;> with_reducible rfl
  try simp only [Act.put, List.setIfInBounds_toArray, List.set_cons_zero, List.set_cons_succ]
  refine takeH 2 (v := ?_) rfl (by kernel_rfl) (fun _ _ _ h => h) (by rfl) ?_ hHeld ?_
  rotate_left 1
  · intro w' hSw; go_simp <;> with_reducible rfl
  try simp only [Act.put, List.setIfInBounds_toArray, List.set_cons_zero, List.set_cons_succ]
  refine takeH 4 (v := ?_) rfl (by kernel_rfl) (fun _ _ _ h => h) (by rfl) ?_ hHeld ?_
  rotate_left 1
  · intro w' hSw; go_simp <;> with_reducible rfl
  try simp only [Act.put, List.setIfInBounds_toArray, List.set_cons_zero, List.set_cons_succ]
  refine takeH 7 (v := ?_) rfl (by kernel_rfl) (fun _ _ _ h => h) (by rfl) ?_ hHeld ?_
  rotate_left 1
  · intro w' hSw; obtain ⟨p0, p1, pf, plt⟩ := check_box (HP2.out.below hSw HP2.out.lt); go_simp <;> with_reducible rfl
  try simp only [Act.put, List.setIfInBounds_toArray, List.set_cons_zero, List.set_cons_succ]
  refine stepH2 1 5 (by kernel_rfl) rfl rfl (fun K hK => ?_) (fun K hK => ?_)
  · go_simp
    refine hK.out _ _ ?_ (fun hHeld => ?_)
    · exact ((Below.refl _ _).alloc (Nat.le_refl _) (.cells #[] 9))
    clear hK K
    try simp only [Act.put, List.setIfInBounds_toArray, List.set_cons_zero, List.set_cons_succ]
    refine stepH2 3 5 (by kernel_rfl) rfl rfl (fun K hK => ?_) (fun K hK => ?_)
    · refine step_app_str (w2.alloc (.cells #[] 9)) (by rfl) (.tmp 29) (.tmp 30) 22 (by rfl) 31 (by rfl) w2.heap.size 9 i0 _ Try.underlying22 HI0.out HI1.out HI2.out HI3.out rfl (.slice (some ⟨w2.heap.size, 0, none⟩) 0 0) [] (by rfl) (own_nil _ _ _) O k oc (opens.take k) (by rfl) (((HOT.out.below ((Below.refl _ _).alloc (Nat.le_refl _) (.cells #[] 9)) (Nat.le_refl _)).more ((Below.refl _ _).alloc (Nat.le_refl _) (.cells #[] 9)).size)) (by have := HK8.out; simp; omega) (by simp) ?_
      intro v1 u2 hv1 k2 _
      have HS2 := Lib.hid (((Below.refl _ _).alloc (Nat.le_refl _) (.cells #[] 9)).trans k2)
      have HV := Lib.hid hv1
      clear hv1 k2
      refine hK.out _ _ ?_ (fun hHeld => ?_)
      · exact HS2.out
      clear hK K
      try simp only [Act.put, List.setIfInBounds_toArray, List.set_cons_zero, List.set_cons_succ]
      refine stepH 5 (by kernel_rfl) rfl (fun K hK => ?_)
      go_simp
      refine hK.out _ _ ?_ (fun hHeld => ?_)
      · exact HS2.out.alloc HS2.out.size _
      clear hK K
      try simp only [Act.put, List.setIfInBounds_toArray, List.set_cons_zero, List.set_cons_succ]
      have HSZ := Lib.hid (HS2.out.alloc HS2.out.size (.cells #[.string more] 9))
      have HV1 := Lib.hid (ownUp HV.out ((Below.refl _ _).alloc (Nat.le_refl _) (.cells #[.string more] 9)))
      have HG : Hid (Blk (u2.alloc (.cells #[.string more] 9)) u2.heap.size 9 #[.string more]) := Lib.hid (Blk.new u2 _ _)
      generalize u2.alloc (.cells #[.string more] 9) = UZ at *
      generalize u2.heap.size = g at *
      refine stepH 6 (by kernel_rfl) rfl (fun K hK => ?_)
      refine step_app_str UZ (by rfl) (.tmp 31) (.tmp 33) 22 (by rfl) 34 (by rfl) w2.heap.size 9 i0 _ Try.underlying22 HI0.out HI1.out HI2.out HI3.out rfl v1 (opens.take k) (by rfl) HV1.out (some ⟨g, 0, none⟩) 1 1 [more] (by rfl) (rdStr_lit (zs := [more]) HG.out HG.out.lt) (by have := HLT.out; omega) HSZ.out.size ?_
      intro v2 w3 hv2 k3 _
      have HS3 := Lib.hid (HSZ.out.trans k3)
      obtain ⟨B2, bc2, rfl, hrd, hbc⟩ := rdStr_own' hv2
      have HRD := Lib.hid hrd
      have hl2 : (opens.take k ++ [more]).length ≤ 9223372036854775807 := by have := HLT.out; simp at this ⊢; omega
      clear hv2 k3 hrd
      generalize (opens.take k ++ [more]).length = ln at HRD hl2 hbc ⊢
      refine hK.out _ _ ?_ (fun hHeld => ?_)
      · exact HS3.out
      clear hK K
      try simp only [Act.put, List.setIfInBounds_toArray, List.set_cons_zero, List.set_cons_succ]
      refine stepH 8 (by kernel_rfl) rfl (fun K hK => ?_)
      go_simp
      refine (isolated_any ⟨A0, n0, c0, A1, n1, c1, A2, n2, c2, A3, n3, c3, A4, n4, c4, A5, n5, c5⟩ x p B2 ln bc2 (opens.take k ++ [more]) w3 (HR2.out.up HS3.out) HRD.out hl2).mono ?_
      rintro e w4 ⟨k4, b2, j2, rfl, halt2⟩
      have HS4 := Lib.hid (HS3.out.trans (k4.mono HS3.out.size))
      have HALT2 := Lib.hid halt2
      clear k4 halt2
      go_simp
      refine hK.out _ _ ?_ (fun hHeld => ?_)
      · exact HS4.out
      clear hK K
      try simp only [Act.put, List.setIfInBounds_toArray, List.set_cons_zero, List.set_cons_succ]
      refine takeH 9 (v := ?_) rfl (by kernel_rfl) (fun _ _ _ h => h) (by rfl) ?_ hHeld ?_
      rotate_left 1
      · intro w' hSw; go_simp <;> with_reducible rfl
      try simp only [Act.put, List.setIfInBounds_toArray, List.set_cons_zero, List.set_cons_succ]
      refine takeH 10 (v := ?_) rfl (by kernel_rfl) (fun _ _ _ h => h) (by rfl) ?_ hHeld ?_
      rotate_left 1
      · intro w' hSw; go_simp <;> with_reducible rfl
      try simp only [Act.put, List.setIfInBounds_toArray, List.set_cons_zero, List.set_cons_succ]
      refine takeH 11 (v := ?_) rfl (by kernel_rfl) (fun _ _ _ h => h) (by rfl) ?_ hHeld ?_
      rotate_left 1
      · intro w' hSw; go_simp <;> with_reducible rfl
      try simp only [Act.put, List.setIfInBounds_toArray, List.set_cons_zero, List.set_cons_succ]
      refine takeH 12 (v := ?_) rfl (by kernel_rfl) (fun _ _ _ h => h) (by rfl) ?_ hHeld ?_
      rotate_left 1
      · intro w' hSw; go_simp <;> with_reducible rfl
      try simp only [Act.put, List.setIfInBounds_toArray, List.set_cons_zero, List.set_cons_succ]
      refine wpAnyH_done (by kernel_rfl) ?_ _
      refine lastQ_go (by rfl) ?_
      have HEND := Lib.hid (HB2.out.trans (HS4.out.mono HB2.out.size))
      rcases more_alts HALT1.out HALT2.out with ⟨rfl, hj⟩ | ⟨rfl, hj, rfl⟩ | ⟨rfl, rfl, hbb⟩
      · go_wp2_with fail
        go_ret
        exact ⟨rfl, HEND.out⟩
      · go_wp2_with fail
        go_ret
        exact ⟨rfl, HEND.out⟩
      · cases b1 with
        | false => go_wp2_with fail; go_ret; exact ⟨rfl, HEND.out⟩
        | true => rw [hbb rfl]; go_wp2_with fail; go_ret; exact ⟨rfl, HEND.out⟩
    · go_simp
      refine hK.out _ _ ?_ (fun hHeld => ?_)
      · exact (((Below.refl _ _).alloc (Nat.le_refl _) (.cells #[] 9)).alloc (by simp) (.cells #[.string more] 9))
      clear hK K
      try simp only [Act.put, List.setIfInBounds_toArray, List.set_cons_zero, List.set_cons_succ]
      refine stepH 3 (by kernel_rfl) rfl (fun K hK => ?_)
      refine step_app_str ((w2.alloc (.cells #[] 9)).alloc (.cells #[.string more] 9)) (by rfl) (.tmp 29) (.tmp 30) 22 (by rfl) 31 (by rfl) w2.heap.size 9 i0 _ Try.underlying22 HI0.out HI1.out HI2.out HI3.out rfl (.slice (some ⟨w2.heap.size, 0, none⟩) 0 0) [] (by rfl) (ownUp (own_nil _ _ _) ((Below.refl _ _).alloc (Nat.le_refl _) (.cells #[.string more] 9))) O k oc (opens.take k) (by rfl) (((HOT.out.below (((Below.refl _ _).alloc (Nat.le_refl _) (.cells #[] 9)).alloc (by simp) (.cells #[.string more] 9)) (Nat.le_refl _)).more (((Below.refl _ _).alloc (Nat.le_refl _) (.cells #[] 9)).alloc (by simp) (.cells #[.string more] 9)).size)) (by have := HK8.out; simp; omega) (by simp; omega) ?_
      intro v1 UZ hv1 kz gz
      have HSZ := Lib.hid ((((Below.refl _ _).alloc (Nat.le_refl _) (.cells #[] 9)).alloc (by simp) (.cells #[.string more] 9)).trans kz)
      have HV1 := Lib.hid hv1
      have HG : Hid (Blk UZ (w2.heap.size + 1) 9 #[.string more]) := Lib.hid ((Blk.new_ (w := (w2.alloc (.cells #[] 9))) (by simp)).grown gz (by simp [Value.ownBlock]))
      generalize w2.heap.size + 1 = g at *
      clear hv1 kz gz
      refine hK.out _ _ ?_ (fun hHeld => ?_)
      · exact HSZ.out
      clear hK K
      try simp only [Act.put, List.setIfInBounds_toArray, List.set_cons_zero, List.set_cons_succ]
      refine stepH 6 (by kernel_rfl) rfl (fun K hK => ?_)
      refine step_app_str UZ (by rfl) (.tmp 31) (.tmp 33) 22 (by rfl) 34 (by rfl) w2.heap.size 9 i0 _ Try.underlying22 HI0.out HI1.out HI2.out HI3.out rfl v1 (opens.take k) (by rfl) HV1.out (some ⟨g, 0, none⟩) 1 1 [more] (by rfl) (rdStr_lit (zs := [more]) HG.out HG.out.lt) (by have := HLT.out; omega) HSZ.out.size ?_
      intro v2 w3 hv2 k3 _
      have HS3 := Lib.hid (HSZ.out.trans k3)
      obtain ⟨B2, bc2, rfl, hrd, hbc⟩ := rdStr_own' hv2
      have HRD := Lib.hid hrd
      have hl2 : (opens.take k ++ [more]).length ≤ 9223372036854775807 := by have := HLT.out; simp at this ⊢; omega
      clear hv2 k3 hrd
      generalize (opens.take k ++ [more]).length = ln at HRD hl2 hbc ⊢
      refine hK.out _ _ ?_ (fun hHeld => ?_)
      · exact HS3.out
      clear hK K
      try simp only [Act.put, List.setIfInBounds_toArray, List.set_cons_zero, List.set_cons_succ]
      refine stepH 8 (by kernel_rfl) rfl (fun K hK => ?_)
      go_simp
      refine (isolated_any ⟨A0, n0, c0, A1, n1, c1, A2, n2, c2, A3, n3, c3, A4, n4, c4, A5, n5, c5⟩ x p B2 ln bc2 (opens.take k ++ [more]) w3 (HR2.out.up HS3.out) HRD.out hl2).mono ?_
      rintro e w4 ⟨k4, b2, j2, rfl, halt2⟩
      have HS4 := Lib.hid (HS3.out.trans (k4.mono HS3.out.size))
      have HALT2 := Lib.hid halt2
      clear k4 halt2
      go_simp
      refine hK.out _ _ ?_ (fun hHeld => ?_)
      · exact HS4.out
      clear hK K
      try simp only [Act.put, List.setIfInBounds_toArray, List.set_cons_zero, List.set_cons_succ]
      refine takeH 9 (v := ?_) rfl (by kernel_rfl) (fun _ _ _ h => h) (by rfl) ?_ hHeld ?_
      rotate_left 1
      · intro w' hSw; go_simp <;> with_reducible rfl
      try simp only [Act.put, List.setIfInBounds_toArray, List.set_cons_zero, List.set_cons_succ]
      refine takeH 10 (v := ?_) rfl (by kernel_rfl) (fun _ _ _ h => h) (by rfl) ?_ hHeld ?_
      rotate_left 1
      · intro w' hSw; go_simp <;> with_reducible rfl
      try simp only [Act.put, List.setIfInBounds_toArray, List.set_cons_zero, List.set_cons_succ]
      refine takeH 11 (v := ?_) rfl (by kernel_rfl) (fun _ _ _ h => h) (by rfl) ?_ hHeld ?_
      rotate_left 1
      · intro w' hSw; go_simp <;> with_reducible rfl
      try simp only [Act.put, List.setIfInBounds_toArray, List.set_cons_zero, List.set_cons_succ]
      refine takeH 12 (v := ?_) rfl (by kernel_rfl) (fun _ _ _ h => h) (by rfl) ?_ hHeld ?_
      rotate_left 1
      · intro w' hSw; go_simp <;> with_reducible rfl
      try simp only [Act.put, List.setIfInBounds_toArray, List.set_cons_zero, List.set_cons_succ]
      refine wpAnyH_done (by kernel_rfl) ?_ _
      refine lastQ_go (by rfl) ?_
      have HEND := Lib.hid (HB2.out.trans (HS4.out.mono HB2.out.size))
      rcases more_alts HALT1.out HALT2.out with ⟨rfl, hj⟩ | ⟨rfl, hj, rfl⟩ | ⟨rfl, rfl, hbb⟩
      · go_wp2_with fail
        go_ret
        exact ⟨rfl, HEND.out⟩
      · go_wp2_with fail
        go_ret
        exact ⟨rfl, HEND.out⟩
      · cases b1 with
        | false => go_wp2_with fail; go_ret; exact ⟨rfl, HEND.out⟩
        | true => rw [hbb rfl]; go_wp2_with fail; go_ret; exact ⟨rfl, HEND.out⟩
  · go_simp
    refine hK.out _ _ ?_ (fun hHeld => ?_)
    · exact ((Below.refl _ _).alloc (Nat.le_refl _) (.cells #[.string more] 9))
    clear hK K
    try simp only [Act.put, List.setIfInBounds_toArray, List.set_cons_zero, List.set_cons_succ]
    refine stepH 1 (by kernel_rfl) rfl (fun K hK => ?_)
    go_simp
    refine hK.out _ _ ?_ (fun hHeld => ?_)
    · exact (((Below.refl _ _).alloc (Nat.le_refl _) (.cells #[.string more] 9)).alloc (by simp) (.cells #[] 9))
    clear hK K
    try simp only [Act.put, List.setIfInBounds_toArray, List.set_cons_zero, List.set_cons_succ]
    refine stepH 3 (by kernel_rfl) rfl (fun K hK => ?_)
    refine step_app_str ((w2.alloc (.cells #[.string more] 9)).alloc (.cells #[] 9)) (by rfl) (.tmp 29) (.tmp 30) 22 (by rfl) 31 (by rfl) w2.heap.size 9 i0 _ Try.underlying22 HI0.out HI1.out HI2.out HI3.out rfl (.slice (some ⟨w2.heap.size + 1, 0, none⟩) 0 0) [] (by rfl) (ownMono (own_nil1 _ _ _ (by simp)) (by simp)) O k oc (opens.take k) (by rfl) (((HOT.out.below (((Below.refl _ _).alloc (Nat.le_refl _) (.cells #[.string more] 9)).alloc (by simp) (.cells #[] 9)) (Nat.le_refl _)).more (((Below.refl _ _).alloc (Nat.le_refl _) (.cells #[.string more] 9)).alloc (by simp) (.cells #[] 9)).size)) (by have := HK8.out; simp; omega) (by simp; omega) ?_
    intro v1 UZ hv1 kz gz
    have HSZ := Lib.hid ((((Below.refl _ _).alloc (Nat.le_refl _) (.cells #[.string more] 9)).alloc (by simp) (.cells #[] 9)).trans kz)
    have HV1 := Lib.hid hv1
    have HG : Hid (Blk UZ w2.heap.size 9 #[.string more]) := Lib.hid (((Blk.new w2 _ _).alloc _).grown gz (by simp [Value.ownBlock]))
    clear hv1 kz gz
    refine hK.out _ _ ?_ (fun hHeld => ?_)
    · exact HSZ.out
    clear hK K
    try simp only [Act.put, List.setIfInBounds_toArray, List.set_cons_zero, List.set_cons_succ]
    refine stepH 6 (by kernel_rfl) rfl (fun K hK => ?_)
    refine step_app_str UZ (by rfl) (.tmp 31) (.tmp 33) 22 (by rfl) 34 (by rfl) w2.heap.size 9 i0 _ Try.underlying22 HI0.out HI1.out HI2.out HI3.out rfl v1 (opens.take k) (by rfl) HV1.out (some ⟨w2.heap.size, 0, none⟩) 1 1 [more] (by rfl) (rdStr_lit (zs := [more]) HG.out HG.out.lt) (by have := HLT.out; omega) HSZ.out.size ?_
    intro v2 w3 hv2 k3 _
    have HS3 := Lib.hid (HSZ.out.trans k3)
    obtain ⟨B2, bc2, rfl, hrd, hbc⟩ := rdStr_own' hv2
    have HRD := Lib.hid hrd
    have hl2 : (opens.take k ++ [more]).length ≤ 9223372036854775807 := by have := HLT.out; simp at this ⊢; omega
    clear hv2 k3 hrd
    generalize (opens.take k ++ [more]).length = ln at HRD hl2 hbc ⊢
    refine hK.out _ _ ?_ (fun hHeld => ?_)
    · exact HS3.out
    clear hK K
    try simp only [Act.put, List.setIfInBounds_toArray, List.set_cons_zero, List.set_cons_succ]
    refine stepH 8 (by kernel_rfl) rfl (fun K hK => ?_)
    go_simp
    refine (isolated_any ⟨A0, n0, c0, A1, n1, c1, A2, n2, c2, A3, n3, c3, A4, n4, c4, A5, n5, c5⟩ x p B2 ln bc2 (opens.take k ++ [more]) w3 (HR2.out.up HS3.out) HRD.out hl2).mono ?_
    rintro e w4 ⟨k4, b2, j2, rfl, halt2⟩
    have HS4 := Lib.hid (HS3.out.trans (k4.mono HS3.out.size))
    have HALT2 := Lib.hid halt2
    clear k4 halt2
    go_simp
    refine hK.out _ _ ?_ (fun hHeld => ?_)
    · exact HS4.out
    clear hK K
    try simp only [Act.put, List.setIfInBounds_toArray, List.set_cons_zero, List.set_cons_succ]
    refine takeH 9 (v := ?_) rfl (by kernel_rfl) (fun _ _ _ h => h) (by rfl) ?_ hHeld ?_
    rotate_left 1
    · intro w' hSw; go_simp <;> with_reducible rfl
    try simp only [Act.put, List.setIfInBounds_toArray, List.set_cons_zero, List.set_cons_succ]
    refine takeH 10 (v := ?_) rfl (by kernel_rfl) (fun _ _ _ h => h) (by rfl) ?_ hHeld ?_
    rotate_left 1
    · intro w' hSw; go_simp <;> with_reducible rfl
    try simp only [Act.put, List.setIfInBounds_toArray, List.set_cons_zero, List.set_cons_succ]
    refine takeH 11 (v := ?_) rfl (by kernel_rfl) (fun _ _ _ h => h) (by rfl) ?_ hHeld ?_
    rotate_left 1
    · intro w' hSw; go_simp <;> with_reducible rfl
    try simp only [Act.put, List.setIfInBounds_toArray, List.set_cons_zero, List.set_cons_succ]
    refine takeH 12 (v := ?_) rfl (by kernel_rfl) (fun _ _ _ h => h) (by rfl) ?_ hHeld ?_
    rotate_left 1
    · intro w' hSw; go_simp <;> with_reducible rfl
    try simp only [Act.put, List.setIfInBounds_toArray, List.set_cons_zero, List.set_cons_succ]
    refine wpAnyH_done (by kernel_rfl) ?_ _
    refine lastQ_go (by rfl) ?_
    have HEND := Lib.hid (HB2.out.trans (HS4.out.mono HB2.out.size))
    rcases more_alts HALT1.out HALT2.out with ⟨rfl, hj⟩ | ⟨rfl, hj, rfl⟩ | ⟨rfl, rfl, hbb⟩
    · go_wp2_with fail
      go_ret
      exact ⟨rfl, HEND.out⟩
    · go_wp2_with fail
      go_ret
      exact ⟨rfl, HEND.out⟩
    · cases b1 with
      | false => go_wp2_with fail; go_ret; exact ⟨rfl, HEND.out⟩
      | true => rw [hbb rfl]; go_wp2_with fail; go_ret; exact ⟨rfl, HEND.out⟩
end Go.Proofs.Ythedpegaelpbdaa
