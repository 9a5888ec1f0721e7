/- The fixed example of chapter 33: the walk. -/
import Derived.Test.YthedpegaelpbdaaEG
import Derived.Test.YthedpegaelpbdaaEC
import Derived.Test.YthedpegaelpbdaaIc
import Derived.Deep.DeepCutAuto
namespace Go.Proofs.Ythedpegaelpbdaa
open Go.ChangeShapes Go.WideShapes Go.ChangeAt Go.RowKit Go.Joins Go.Deep
set_option linter.unusedVariables false
attribute [local go_sem ↓] execOp_call_val
attribute [local go_sem] callVal_func setCell_drewN alloc_drewN sEq_walk NetH.cells

theorem prOk_fe : PrOk 2 [(1, 0)] := ⟨by decide, fun p hp => by rw [List.mem_singleton.1 hp]; decide⟩
theorem pairs_fe {rs : List Ch} (hrs : rs.map Ch.r = [rlC1, rlC2]) {w : World} {e : Ending} {w' : World} (h : PairsP fdNet (rs.map Ch.r) w e w') : Below w.heap.size w w' ∧ ∃ A c, e = .returned (.tuple #[.slice A 1 c, .int .i64 0]) ∧ RdE w' w'.heap.size A 1 [(1, 0)] := by
  rw [hrs] at h
  obtain ⟨hb, ⟨h1, _⟩ | ⟨_, A, c, h2, h3⟩⟩ := h
  · exact absurd fe_ck h1
  · rw [fe_pairs] at h2 h3
    exact ⟨hb, A, c, h2, h3⟩
theorem wrong_fe (g : Nat) (rs : List Ch) (A : Option Addr) (c : Nat) (m : Int) (w : World) (hrs : rs.map Ch.r = [rlC1, rlC2]) (hC : RdCh w w.heap.size (some ⟨g, 0, none⟩) 2 rs) (hP : RdE w w.heap.size A 1 [(1, 0)]) {x y z : Int} (hw : wrongR [rlC1, rlC2] [(1, 0)] m 0 1000 = (x, y, z)) :
    Calls Try.prog 33 #[.slice (some ⟨g, 0, none⟩) 2 2, .slice A 1 c, .int .i64 m, .int .i64 0, .int .i64 1000] w fun e w' => e = .returned (.tuple #[.int .i64 x, .int .i64 y, .int .i64 z]) ∧ Below w.heap.size w w' := by
  have h := wrong_any (some ⟨g, 0, none⟩) 2 2 rs A c [(1, 0)] m 0 1000 w hC (by omega) hP prOk_fe
  rw [hrs, hw] at h
  exact h
theorem one_fe {out : List Int} (H : CooS 150 0 1000 [rlC1, rlC2] [(1, 0)] 2 out) (h1 : out.getD 1 0 ≠ 0) : out.getD 1 0 = 1000 := by
  obtain ⟨⟨d1, _, hI1, hd1⟩, _⟩ := H.ok 1 (by omega) h1
  rcases hI1.2 with ⟨_, h⟩ | ⟨p, hp, hpk, _⟩
  · rw [hd1, if_pos h]
  · rw [List.mem_singleton.1 hp] at hpk; cases hpk
theorem bad_fe {j : Int} (h : CooBad 150 0 1000 [rlC1, rlC2] [(1, 0)] 2 j) : False := by
  rcases h with h | h | ⟨out, k, hk, hS, hm, p, hp, hpk, hh⟩
  · exact h fe_sck
  · rw [fe_cir] at h; cases h
  · have hpe := List.mem_singleton.1 hp
    subst hpe
    have h1 := one_fe hS (hm _ hp hpk)
    rcases hh with ⟨a, ha, hs⟩ | ⟨a, b, c, dp, ha, hb, hc, hd, hj⟩
    · simp at ha
      subst ha
      rw [show out.getD (1, 0).1 0 = 1000 from h1, fe_c2] at hs
      exact hs rfl
    · have hk0 : k = 0 := hpk.symm
      subst hk0
      simp at ha hb
      subst ha hb
      rw [show out.getD (1, 0).1 0 = 1000 from h1, fe_c2] at hc
      injection hc with hc
      subst hc
      exact hj (dial_only (k0 := 748) fe_s fe_q747 fe_q748 (by omega) (by omega) fe_c1 hd).2
theorem coo_fe (g : Nat) (rs : List Ch) (A : Option Addr) (c : Nat) (w : World) (hrs : rs.map Ch.r = [rlC1, rlC2]) (hC : RdCh w w.heap.size (some ⟨g, 0, none⟩) 2 rs) (hP : RdE w w.heap.size A 1 [(1, 0)]) :
    Calls Try.prog 32 #[.slice (some ⟨g, 0, none⟩) 2 2, .slice A 1 c, .int .i64 150, .int .i64 0, .int .i64 1000] w fun e w' => Below w.heap.size w w' ∧ ∃ g, e = .returned (.tuple #[.slice (some ⟨g, 0, none⟩) 2 2, .int .i64 0]) ∧ Blk w' g 3 (ints [749, 1000]).toArray := by
  refine (coo_any (some ⟨g, 0, none⟩) 2 2 rs A c [(1, 0)] 150 0 1000 w hC (by omega) hP prOk_fe).mono ?_
  rw [hrs]
  rintro e w' ⟨hb, ⟨j, _, h, _⟩ | ⟨_, _, g, dials, he, hg, hS, hnz⟩⟩
  · exact absurd h (fun h => bad_fe h)
  · have h := fe_coo hS hnz
    subst h
    exact ⟨hb, g, he, hg⟩
set_option maxRecDepth 100000 in
set_option maxHeartbeats 4000000 in
theorem sworks_any (w : World) : Calls Try.prog 26 #[] w fun e w' => e = .returned (.bool true) ∧ Below w.heap.size w w' := by
  go_enter Try.func26, Try.ntmps26
  go_wp2_with fail
  refine (feeder_any w).mono ?_
  rintro e w1 ⟨hh, rfl, hR, hb⟩
  have HR1 := Lib.hid hR
  have HB1 := Lib.hid hb
  clear hR hb
  go_wp2_with fail
  refine (relays_any w1).mono ?_
  rintro e w2 ⟨g2, rs2, rfl, hrs, hC, hb⟩
  have HRS := Lib.hid hrs
  have HC2 := Lib.hid hC
  have HR2 := Lib.hid (HR1.out.up hb)
  have HB2 := Lib.hid (HB1.out.trans (hb.mono HB1.out.size))
  clear hrs hC hb
  go_wp2_with fail
  refine (pairs_any hh fdNet (some ⟨g2, 0, none⟩) 2 2 rs2 w2 HR2.out HC2.out (by omega)).mono ?_
  intro e w3 hp
  obtain ⟨hb, A, c, rfl, hE⟩ := pairs_fe HRS.out hp
  obtain ⟨pb, po, hA, hplt⟩ := hE.form (by omega)
  subst hA
  have HE3 := Lib.hid hE
  have HB3 := Lib.hid (HB2.out.trans (hb.mono HB2.out.size))
  clear hp hb hE hplt
  go_wp2_with fail
  refine (relays_any w3).mono ?_
  rintro e w4 ⟨g4, rs4, rfl, hrs, hC, hb⟩
  have HRS4 := Lib.hid hrs
  have HC4 := Lib.hid hC
  have HE4 := Lib.hid ((HE3.out.below hb (Nat.le_refl _)).more hb.size)
  have HB4 := Lib.hid (HB3.out.trans (hb.mono HB3.out.size))
  clear hrs hC hb
  go_wp2_with fail
  refine (wrong_fe g4 rs4 (some ⟨pb, po, none⟩) c 300 w4 HRS4.out HC4.out HE4.out fe_w1).mono ?_
  rintro e w5 ⟨rfl, hb⟩
  have HE5 := Lib.hid ((HE4.out.below hb (Nat.le_refl _)).more hb.size)
  have HB5 := Lib.hid (HB4.out.trans (hb.mono HB4.out.size))
  clear hb
  go_wp2_with fail
  refine (relays_any w5).mono ?_
  rintro e w6 ⟨g6, rs6, rfl, hrs, hC, hb⟩
  have HRS6 := Lib.hid hrs
  have HC6 := Lib.hid hC
  have HE6 := Lib.hid ((HE5.out.below hb (Nat.le_refl _)).more hb.size)
  have HB6 := Lib.hid (HB5.out.trans (hb.mono HB5.out.size))
  clear hrs hC hb
  go_wp2_with fail
  refine (wrong_fe g6 rs6 (some ⟨pb, po, none⟩) c 301 w6 HRS6.out HC6.out HE6.out fe_w2).mono ?_
  rintro e w7 ⟨rfl, hb⟩
  have HE7 := Lib.hid ((HE6.out.below hb (Nat.le_refl _)).more hb.size)
  have HB7 := Lib.hid (HB6.out.trans (hb.mono HB6.out.size))
  clear hb
  go_wp2_with fail
  have HIN := Lib.hid (Below.refl w7.heap.size w7)
  go_cut [9, 10] (fun a b wc => a = .int .i64 999 ∧ b = .int .i64 0 ∧ Below w7.heap.size w7 wc)
  case first =>
    refine wp_region_last (S := fun w' => Below w7.heap.size w7 w') 11 _ (by kernel_rfl) (by kernel_rfl) rfl (below_drew (Below.refl _ _)) (fun hHeld => ?_)
    simp only [List.take_succ_cons, List.take_zero]
    refine stepH 0 (by kernel_rfl) rfl (fun K hK => ?_)
    go_simp
    refine (relays_any w7.drew).mono ?_
    rintro e w8 ⟨gw8, rsw8, rfl, hrs, hC, hb⟩
    have HRSw8 := Lib.hid hrs
    have HCw8 := Lib.hid hC
    have HBw8 : Hid (Below w7.heap.size w7 w8) := Lib.hid ((below_drew (Below.refl _ _)).trans hb)
    obtain ⟨zaw8, zbw8, hz⟩ : ∃ za zb, rsw8 = [za, zb] := by
      have := hC.len
      match rsw8, this with
      | [za, zb], _ => exact ⟨za, zb, rfl⟩
    subst hz
    clear hrs hC hb
    go_simp
    refine hK.out _ _ ?_ (fun hHeld => ?_)
    · exact HBw8.out
    clear hK K
    try simp only [Act.put, List.setIfInBounds_toArray, List.set_cons_zero, List.set_cons_succ]
    refine takeH 1 (v := ?_) rfl (by kernel_rfl) (fun _ _ _ h => h) (by rfl) ?_ hHeld ?_
    rotate_left 1
    · intro w' hSw; go_simp <;> with_reducible rfl
    try simp only [Act.put, List.setIfInBounds_toArray, List.set_cons_zero, List.set_cons_succ]
    refine stepHH 2 3 (by kernel_rfl) rfl rfl (fun K hK => ?_) (fun K hK => ?_)
    · obtain ⟨m0, m1, m2, m3, m4, m5⟩ := HCw8.out.at_ (i := 1) (x := zbw8) rfl
      go_simp
      clear m0 m1 m2 m3 m4 m5
      refine hK.out _ _ ?_ (fun hHeld => ?_)
      · exact HBw8.out
      clear hK K
      try simp only [Act.put, List.setIfInBounds_toArray, List.set_cons_zero, List.set_cons_succ]
      refine stepH 3 (by kernel_rfl) rfl (fun K hK => ?_)
      go_simp
      refine (relays_any w8).mono ?_
      rintro e w9 ⟨gw9, rsw9, rfl, hrs, hC, hb⟩
      have HRSw9 := Lib.hid hrs
      have HCw9 := Lib.hid hC
      have HBw9 : Hid (Below w7.heap.size w7 w9) := Lib.hid (HBw8.out.trans (hb.mono HBw8.out.size))
      obtain ⟨zaw9, zbw9, hz⟩ : ∃ za zb, rsw9 = [za, zb] := by
        have := hC.len
        match rsw9, this with
        | [za, zb], _ => exact ⟨za, zb, rfl⟩
      subst hz
      have HB9 : Hid (Below w8.heap.size w8 w9) := Lib.hid hb
      clear hrs hC hb
      go_simp
      refine hK.out _ _ ?_ (fun hHeld => ?_)
      · exact HBw9.out
      clear hK K
      try simp only [Act.put, List.setIfInBounds_toArray, List.set_cons_zero, List.set_cons_succ]
      refine takeH 4 (v := ?_) rfl (by kernel_rfl) (fun _ _ _ h => h) (by rfl) ?_ hHeld ?_
      rotate_left 1
      · intro w' hSw; go_simp <;> with_reducible rfl
      try simp only [Act.put, List.setIfInBounds_toArray, List.set_cons_zero, List.set_cons_succ]
      refine stepH 5 (by kernel_rfl) rfl (fun K hK => ?_)
      obtain ⟨m0, m1, m2, m3, m4, m5⟩ := HCw9.out.at_ (i := 0) (x := zaw9) rfl
      go_simp
      clear m0 m1 m2 m3 m4 m5
      refine hK.out _ _ ?_ (fun hHeld => ?_)
      · exact HBw9.out
      clear hK K
      try simp only [Act.put, List.setIfInBounds_toArray, List.set_cons_zero, List.set_cons_succ]
      refine stepH 6 (by kernel_rfl) rfl (fun K hK => ?_)
      go_simp
      refine (dial_any 300 0 1000 zbw8 zaw9 w9 ((HCw8.out.zs zbw8 (by simp)).1.below HB9.out (Nat.le_refl _) |>.more HB9.out.size) (HCw9.out.zs zaw9 (by simp)).1 (HCw8.out.zs zbw8 (by simp)).2 (HCw9.out.zs zaw9 (by simp)).2).mono ?_
      intro e w10 hd
      obtain ⟨hb, d, j, rfl, hD⟩ := hd
      have HB10 := Lib.hid (HBw9.out.trans (hb.mono HBw9.out.size))
      have h8 : zbw8.r = rlC2 := by have := HRSw8.out; simp at this; exact this.2
      have h9 : zaw9.r = rlC1 := by have := HRSw9.out; simp at this; exact this.1
      rw [h8, h9] at hD
      obtain ⟨hd1, hd2⟩ := fe_dial hD
      subst hd1; subst hd2
      clear hb hD h8 h9
      go_simp
      refine hK.out _ _ ?_ (fun hHeld => ?_)
      · exact HB10.out
      clear hK K
      try simp only [Act.put, List.setIfInBounds_toArray, List.set_cons_zero, List.set_cons_succ]
      refine takeH 7 (v := ?_) rfl (by kernel_rfl) (fun _ _ _ h => h) (by rfl) ?_ hHeld ?_
      rotate_left 1
      · intro w' hSw; go_simp <;> with_reducible rfl
      try simp only [Act.put, List.setIfInBounds_toArray, List.set_cons_zero, List.set_cons_succ]
      refine takeH 8 (v := ?_) rfl (by kernel_rfl) (fun _ _ _ h => h) (by rfl) ?_ hHeld ?_
      rotate_left 1
      · intro w' hSw; go_simp <;> with_reducible rfl
      try simp only [Act.put, List.setIfInBounds_toArray, List.set_cons_zero, List.set_cons_succ]
      refine takeH 9 (v := ?_) rfl (by kernel_rfl) (fun _ _ _ h => h) (by rfl) ?_ hHeld ?_
      rotate_left 1
      · intro w' hSw; go_simp <;> with_reducible rfl
      try simp only [Act.put, List.setIfInBounds_toArray, List.set_cons_zero, List.set_cons_succ]
      refine takeH 10 (v := ?_) rfl (by kernel_rfl) (fun _ _ _ h => h) (by rfl) ?_ hHeld ?_
      rotate_left 1
      · intro w' hSw; go_simp <;> with_reducible rfl
      try simp only [Act.put, List.setIfInBounds_toArray, List.set_cons_zero, List.set_cons_succ]
      refine wpAnyH_done (by kernel_rfl) ?_ _
      refine lastQ_go (by rfl) ?_
      go_simp
      go_wp2_with fail
      go_meet
      case rel => exact ⟨rfl, rfl, HB10.out⟩
    · go_simp
      refine (relays_any w8).mono ?_
      rintro e w9 ⟨gw9, rsw9, rfl, hrs, hC, hb⟩
      have HRSw9 := Lib.hid hrs
      have HCw9 := Lib.hid hC
      have HBw9 : Hid (Below w7.heap.size w7 w9) := Lib.hid (HBw8.out.trans (hb.mono HBw8.out.size))
      obtain ⟨zaw9, zbw9, hz⟩ : ∃ za zb, rsw9 = [za, zb] := by
        have := hC.len
        match rsw9, this with
        | [za, zb], _ => exact ⟨za, zb, rfl⟩
      subst hz
      have HB9 : Hid (Below w8.heap.size w8 w9) := Lib.hid hb
      clear hrs hC hb
      go_simp
      refine hK.out _ _ ?_ (fun hHeld => ?_)
      · exact HBw9.out
      clear hK K
      try simp only [Act.put, List.setIfInBounds_toArray, List.set_cons_zero, List.set_cons_succ]
      refine takeH 4 (v := ?_) rfl (by kernel_rfl) (fun _ _ _ h => h) (by rfl) ?_ hHeld ?_
      rotate_left 1
      · intro w' hSw; go_simp <;> with_reducible rfl
      try simp only [Act.put, List.setIfInBounds_toArray, List.set_cons_zero, List.set_cons_succ]
      refine stepHH 2 5 (by kernel_rfl) rfl rfl (fun K hK => ?_) (fun K hK => ?_)
      · obtain ⟨m0, m1, m2, m3, m4, m5⟩ := (HCw8.out.below HB9.out (Nat.le_refl _)).at_ (i := 1) (x := zbw8) rfl
        go_simp
        clear m0 m1 m2 m3 m4 m5
        refine hK.out _ _ ?_ (fun hHeld => ?_)
        · exact HBw9.out
        clear hK K
        try simp only [Act.put, List.setIfInBounds_toArray, List.set_cons_zero, List.set_cons_succ]
        refine stepH 5 (by kernel_rfl) rfl (fun K hK => ?_)
        obtain ⟨m0, m1, m2, m3, m4, m5⟩ := HCw9.out.at_ (i := 0) (x := zaw9) rfl
        go_simp
        clear m0 m1 m2 m3 m4 m5
        refine hK.out _ _ ?_ (fun hHeld => ?_)
        · exact HBw9.out
        clear hK K
        try simp only [Act.put, List.setIfInBounds_toArray, List.set_cons_zero, List.set_cons_succ]
        refine stepH 6 (by kernel_rfl) rfl (fun K hK => ?_)
        go_simp
        refine (dial_any 300 0 1000 zbw8 zaw9 w9 ((HCw8.out.zs zbw8 (by simp)).1.below HB9.out (Nat.le_refl _) |>.more HB9.out.size) (HCw9.out.zs zaw9 (by simp)).1 (HCw8.out.zs zbw8 (by simp)).2 (HCw9.out.zs zaw9 (by simp)).2).mono ?_
        intro e w10 hd
        obtain ⟨hb, d, j, rfl, hD⟩ := hd
        have HB10 := Lib.hid (HBw9.out.trans (hb.mono HBw9.out.size))
        have h8 : zbw8.r = rlC2 := by have := HRSw8.out; simp at this; exact this.2
        have h9 : zaw9.r = rlC1 := by have := HRSw9.out; simp at this; exact this.1
        rw [h8, h9] at hD
        obtain ⟨hd1, hd2⟩ := fe_dial hD
        subst hd1; subst hd2
        clear hb hD h8 h9
        go_simp
        refine hK.out _ _ ?_ (fun hHeld => ?_)
        · exact HB10.out
        clear hK K
        try simp only [Act.put, List.setIfInBounds_toArray, List.set_cons_zero, List.set_cons_succ]
        refine takeH 7 (v := ?_) rfl (by kernel_rfl) (fun _ _ _ h => h) (by rfl) ?_ hHeld ?_
        rotate_left 1
        · intro w' hSw; go_simp <;> with_reducible rfl
        try simp only [Act.put, List.setIfInBounds_toArray, List.set_cons_zero, List.set_cons_succ]
        refine takeH 8 (v := ?_) rfl (by kernel_rfl) (fun _ _ _ h => h) (by rfl) ?_ hHeld ?_
        rotate_left 1
        · intro w' hSw; go_simp <;> with_reducible rfl
        try simp only [Act.put, List.setIfInBounds_toArray, List.set_cons_zero, List.set_cons_succ]
        refine takeH 9 (v := ?_) rfl (by kernel_rfl) (fun _ _ _ h => h) (by rfl) ?_ hHeld ?_
        rotate_left 1
        · intro w' hSw; go_simp <;> with_reducible rfl
        try simp only [Act.put, List.setIfInBounds_toArray, List.set_cons_zero, List.set_cons_succ]
        refine takeH 10 (v := ?_) rfl (by kernel_rfl) (fun _ _ _ h => h) (by rfl) ?_ hHeld ?_
        rotate_left 1
        · intro w' hSw; go_simp <;> with_reducible rfl
        try simp only [Act.put, List.setIfInBounds_toArray, List.set_cons_zero, List.set_cons_succ]
        refine wpAnyH_done (by kernel_rfl) ?_ _
        refine lastQ_go (by rfl) ?_
        go_simp
        go_wp2_with fail
        go_meet
        case rel => exact ⟨rfl, rfl, HB10.out⟩
      · obtain ⟨m0, m1, m2, m3, m4, m5⟩ := HCw9.out.at_ (i := 0) (x := zaw9) rfl
        go_simp
        clear m0 m1 m2 m3 m4 m5
        refine hK.out _ _ ?_ (fun hHeld => ?_)
        · exact HBw9.out
        clear hK K
        try simp only [Act.put, List.setIfInBounds_toArray, List.set_cons_zero, List.set_cons_succ]
        refine stepH 2 (by kernel_rfl) rfl (fun K hK => ?_)
        obtain ⟨m0, m1, m2, m3, m4, m5⟩ := (HCw8.out.below HB9.out (Nat.le_refl _)).at_ (i := 1) (x := zbw8) rfl
        go_simp
        clear m0 m1 m2 m3 m4 m5
        refine hK.out _ _ ?_ (fun hHeld => ?_)
        · exact HBw9.out
        clear hK K
        try simp only [Act.put, List.setIfInBounds_toArray, List.set_cons_zero, List.set_cons_succ]
        refine stepH 6 (by kernel_rfl) rfl (fun K hK => ?_)
        go_simp
        refine (dial_any 300 0 1000 zbw8 zaw9 w9 ((HCw8.out.zs zbw8 (by simp)).1.below HB9.out (Nat.le_refl _) |>.more HB9.out.size) (HCw9.out.zs zaw9 (by simp)).1 (HCw8.out.zs zbw8 (by simp)).2 (HCw9.out.zs zaw9 (by simp)).2).mono ?_
        intro e w10 hd
        obtain ⟨hb, d, j, rfl, hD⟩ := hd
        have HB10 := Lib.hid (HBw9.out.trans (hb.mono HBw9.out.size))
        have h8 : zbw8.r = rlC2 := by have := HRSw8.out; simp at this; exact this.2
        have h9 : zaw9.r = rlC1 := by have := HRSw9.out; simp at this; exact this.1
        rw [h8, h9] at hD
        obtain ⟨hd1, hd2⟩ := fe_dial hD
        subst hd1; subst hd2
        clear hb hD h8 h9
        go_simp
        refine hK.out _ _ ?_ (fun hHeld => ?_)
        · exact HB10.out
        clear hK K
        try simp only [Act.put, List.setIfInBounds_toArray, List.set_cons_zero, List.set_cons_succ]
        refine takeH 7 (v := ?_) rfl (by kernel_rfl) (fun _ _ _ h => h) (by rfl) ?_ hHeld ?_
        rotate_left 1
        · intro w' hSw; go_simp <;> with_reducible rfl
        try simp only [Act.put, List.setIfInBounds_toArray, List.set_cons_zero, List.set_cons_succ]
        refine takeH 8 (v := ?_) rfl (by kernel_rfl) (fun _ _ _ h => h) (by rfl) ?_ hHeld ?_
        rotate_left 1
        · intro w' hSw; go_simp <;> with_reducible rfl
        try simp only [Act.put, List.setIfInBounds_toArray, List.set_cons_zero, List.set_cons_succ]
        refine takeH 9 (v := ?_) rfl (by kernel_rfl) (fun _ _ _ h => h) (by rfl) ?_ hHeld ?_
        rotate_left 1
        · intro w' hSw; go_simp <;> with_reducible rfl
        try simp only [Act.put, List.setIfInBounds_toArray, List.set_cons_zero, List.set_cons_succ]
        refine takeH 10 (v := ?_) rfl (by kernel_rfl) (fun _ _ _ h => h) (by rfl) ?_ hHeld ?_
        rotate_left 1
        · intro w' hSw; go_simp <;> with_reducible rfl
        try simp only [Act.put, List.setIfInBounds_toArray, List.set_cons_zero, List.set_cons_succ]
        refine wpAnyH_done (by kernel_rfl) ?_ _
        refine lastQ_go (by rfl) ?_
        go_simp
        go_wp2_with fail
        go_meet
        case rel => exact ⟨rfl, rfl, HB10.out⟩
  obtain ⟨rfl, rfl, hbw⟩ := hcut
  have HB8 := Lib.hid (HB7.out.trans (hbw.mono HB7.out.size))
  have HE8 := Lib.hid ((HE7.out.below hbw (Nat.le_refl _)).more hbw.size)
  clear hbw
  go_wp2_with fail
  refine (relays_any wc).mono ?_
  rintro e w9 ⟨g9, rs9, rfl, hrs, hC, hb⟩
  have HRS9 := Lib.hid hrs
  have HC9 := Lib.hid hC
  have HE9 := Lib.hid ((HE8.out.below hb (Nat.le_refl _)).more hb.size)
  have HB9 := Lib.hid (HB8.out.trans (hb.mono HB8.out.size))
  clear hrs hC hb
  go_wp2_with fail
  refine (coo_fe g9 rs9 (some ⟨pb, po, none⟩) c w9 HRS9.out HC9.out HE9.out).mono ?_
  rintro e w10 ⟨hb, g10, rfl, hg⟩
  have HG10 := Lib.hid hg
  have HE10 := Lib.hid ((HE9.out.below hb (Nat.le_refl _)).more hb.size)
  have HB10 := Lib.hid (HB9.out.trans (hb.mono HB9.out.size))
  clear hb hg
  obtain ⟨t0, t1⟩ := HE10.out.at_ (i := 0) (x := (1, 0)) rfl
  simp only [Nat.zero_mul, Nat.add_zero] at t0 t1
  have heq : ∀ w : World, (Op.equalIn 10000 83 (.agg #[.int .i64 1, .int .i64 0]) (.agg #[.int .i64 1, .int .i64 0])).run Try.prog w = .ok true w := fun _ => by kernel_rfl
  go_wp2_with fail
  have HQ1 : Hid (RdI (w10.alloc (.cells #[.int .i64 749, .int .i64 1000] 3)) (w10.alloc (.cells #[.int .i64 749, .int .i64 1000] 3)).heap.size (some ⟨g10, 0, none⟩) 2 [749, 1000]) := Lib.hid (rd_lit (size := 1) (vs := ints [749, 1000]) (HG10.out.alloc _) rfl (HG10.out.alloc _).lt)
  have HQ2 : Hid (RdI (w10.alloc (.cells #[.int .i64 749, .int .i64 1000] 3)) (w10.alloc (.cells #[.int .i64 749, .int .i64 1000] 3)).heap.size (some ⟨w10.heap.size, 0, none⟩) 2 [749, 1000]) := Lib.hid (rd_lit (size := 1) (vs := ints [749, 1000]) (Blk.new w10 _ _) rfl (Blk.new w10 _ _).lt)
  have HB11 := Lib.hid (HB10.out.alloc HB10.out.size (.cells #[.int .i64 749, .int .i64 1000] 3))
  refine (sameInts_any _ 2 2 [749, 1000] _ 2 2 [749, 1000] _ HQ1.out HQ2.out (by omega)).mono ?_
  rw [show sameI [749, 1000] [749, 1000] = true from by decide +kernel]
  rintro e w11 ⟨rfl, nq, rfl⟩
  go_wp2_with fail
  go_ret
  exact ⟨rfl, below_drewN HB11.out nq⟩
end Go.Proofs.Ythedpegaelpbdaa
