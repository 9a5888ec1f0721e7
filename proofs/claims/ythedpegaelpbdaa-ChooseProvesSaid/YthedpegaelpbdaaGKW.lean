/- The fixed example of chapter 31: chooseWorks is true. -/
import Derived.Test.YthedpegaelpbdaaGV
import Derived.Test.YthedpegaelpbdaaGK
namespace Go.Proofs.Ythedpegaelpbdaa
open Go.ChangeShapes Go.WideShapes Go.ChangeAt Go.RowKit
set_option linter.unusedVariables false
attribute [local go_sem ↓] execOp_call_val
attribute [local go_sem] callVal_func setCell_drewN alloc_drewN sEq_walk NetH.cells

theorem rdWy_own {w : World} {b : Nat} {vo : Value} {xs : List Wy} (h : w.ownsRow b 22 1 vo xs.length (xs.map Wy.v)) (hz : WyIs w b xs) : ∃ V c, vo = .slice V xs.length c ∧ RdWy w V xs.length xs ∧ xs.length ≤ c := by
  have hzs : ∀ z ∈ xs, ∃ A c, z.v = .slice A z.ss.length c ∧ RdStr w w.heap.size A z.ss.length z.ss := fun z hm => by
    obtain ⟨A, c, h1, h2, _⟩ := rdStr_own' (hz z hm)
    exact ⟨A, c, h1, h2⟩
  rcases h.2 with ⟨h1, h2⟩ | ⟨g, cap, cur, h1, h2, h3, h4⟩
  · exact ⟨none, 0, by rw [h1, h2], ⟨rfl, ⟨by simp, fun h0 => by omega⟩, hzs⟩, by omega⟩
  · refine ⟨some ⟨g, 0, none⟩, cap, h1, ⟨rfl, ⟨by simp, fun h0 => ⟨g, 0, rfl, (h.lt g (by rw [h1]; rfl)).2, fun j u hu => ?_⟩⟩, hzs⟩, h4.1⟩
    have := h.cells (g := g) (by rw [h1]; rfl) j u hu
    rwa [Addr.add_lit] at this
theorem prf_ex : PrfOk fdNet pL [⟨#[83]⟩] [[⟨#[83]⟩, ⟨#[76]⟩]] where
  cp := ex2.1
  br := fun s hs => by
    rw [List.mem_singleton.1 hs]
    exact ⟨0, ⟨⟨#[83]⟩, ⟨#[65]⟩, ⟨#[66]⟩, true, false⟩, ex5.1, rfl, rfl, rfl⟩
  nd := by simp
  sw := fun s hs => by
    rw [List.mem_singleton.1 hs]
    unfold swOk
    rw [ex5.1, ex5.2]; decide
  iso := ex4
  len := rfl
  way := fun l hl => by rw [List.mem_singleton.1 hl]; exact ex6
  dis := List.pairwise_singleton _ _
  few := by decide
  short := fun l hl => by
    rw [List.mem_singleton.1 hl]
    refine ⟨by decide, fun s hs => ?_⟩
    have : s = ⟨#[83]⟩ ∨ s = ⟨#[76]⟩ := by simpa using hs
    rcases this with h | h <;> rw [h] <;> decide
theorem lst_ex {p : Fp} {l0 : ByteArray} (hx : cpR fdNet p = 0 ∧ (lst fdNet p).map Prod.snd = some [l0]) {w : World} {e : Ending} {w' : World} (h : LstP fdNet p w e w') : Below w.heap.size w w' ∧ ∃ A c, e = .returned (.tuple #[.slice A 1 c, .int .i64 0]) ∧ RdStr w' w'.heap.size A 1 [l0] := by
  obtain ⟨hb, h1 | ⟨_, h1, _⟩ | ⟨_, es, l, j, A, c, h1, h2, h3, _⟩⟩ := h
  · exact absurd hx.1 h1.1
  · have h2 := hx.2
    rw [h1.1] at h2; cases h2
  · have h4 := hx.2
    rw [h1.lst] at h4
    injection h4 with h4
    simp only at h4
    subst h4
    exact ⟨hb, A, c, h2, h3⟩
set_option maxRecDepth 100000 in
set_option maxHeartbeats 8000000 in
theorem cworks_any (w : World) : Calls Try.prog 13 #[] w fun e w' => e = .returned (.bool true) ∧ Below w.heap.size w w' := by
  go_enter Try.func13, Try.ntmps13
  go_wp2_with fail
  refine (feeder_any w).mono ?_
  rintro e w1 ⟨h1, rfl, hr1, k1⟩
  have HB1 := Lib.hid k1
  have HR1 := Lib.hid hr1
  clear k1 hr1
  go_wp2_with fail
  refine (cleast_any h1 fdNet pM w1 HR1.out).mono ?_
  intro e w2 hp
  obtain ⟨k2, A1, c1, rfl, hd1⟩ := lst_ex ex1 hp
  have HB2 := Lib.hid (HB1.out.trans (k2.mono HB1.out.size))
  have HD1 := Lib.hid hd1
  clear k2 hd1 hp
  go_wp2_with fail
  refine (feeder_any w2).mono ?_
  rintro e w3 ⟨h3, rfl, hr3, k3⟩
  have HB3 := Lib.hid (HB2.out.trans (k3.mono HB2.out.size))
  have HR3 := Lib.hid hr3
  have HD13 := Lib.hid ((HD1.out.below k3 (Nat.le_refl _)).more k3.size)
  clear k3 hr3
  go_wp2_with fail
  refine (cleast_any h3 fdNet pL w3 HR3.out).mono ?_
  intro e w4 hp
  obtain ⟨k4, A2, c2, rfl, hd2⟩ := lst_ex ex2 hp
  have HB4 := Lib.hid (HB3.out.trans (k4.mono HB3.out.size))
  have HD14 := Lib.hid ((HD13.out.below k4 (Nat.le_refl _)).more k4.size)
  have HD24 := Lib.hid hd2
  clear k4 hd2 hp
  go_wp2_with fail
  refine (feeder_any w4).mono ?_
  rintro e w5 ⟨h5, rfl, hr5, k5⟩
  have HB5 := Lib.hid (HB4.out.trans (k5.mono HB4.out.size))
  have HR5 := Lib.hid hr5
  have HD15 := Lib.hid ((HD14.out.below k5 (Nat.le_refl _)).more k5.size)
  have HD25 := Lib.hid ((HD24.out.below k5 (Nat.le_refl _)).more k5.size)
  clear k5 hr5
  go_wp2_with fail
  refine (ways_any h5 fdNet pL w5 HR5.out).mono ?_
  intro e w6 hp
  obtain ⟨z, V, vc, k6, rfl, hwy, hzs⟩ : ∃ (z : Wy) (V : Option Addr) (vc : Nat), Below w5.heap.size w5 w6 ∧ e = .returned (.tuple #[.slice V 1 vc, .int .i64 0]) ∧ RdWy w6 V 1 [z] ∧ z.ss = [⟨#[83]⟩, ⟨#[76]⟩] := by
    obtain ⟨hb, h1 | ⟨_, h1, _⟩ | ⟨_, es, l, j, vo, xs, h1, h2, h3, h4, h5⟩⟩ := hp
    · exact absurd ex2.1 h1.1
    · have h2 := ex2.2
      rw [h1.1] at h2; cases h2
    · have h6 := ex3
      rw [h1.lst] at h6
      injection h6 with h6
      simp only at h6
      rw [← h5] at h6
      obtain ⟨V, c, hv, hw, _⟩ := rdWy_own h3 h4
      have hl : xs.length = 1 := by have := congrArg List.length h6; simpa using this
      match xs, hl with
      | [z], _ =>
        refine ⟨z, V, c, hb, by rw [h2, hv]; rfl, hw, ?_⟩
        simpa using h6
  have HB6 := Lib.hid (HB5.out.trans (k6.mono HB5.out.size))
  have HD16 := Lib.hid ((HD15.out.below k6 (Nat.le_refl _)).more k6.size)
  have HD26 := Lib.hid ((HD25.out.below k6 (Nat.le_refl _)).more k6.size)
  have HWY := Lib.hid hwy
  have HZS := Lib.hid hzs
  clear k6 hwy hzs hp
  go_wp2_with fail
  refine (feeder_any w6).mono ?_
  rintro e w7 ⟨h7, rfl, hr7, k7⟩
  have HB7 := Lib.hid (HB6.out.trans (k7.mono HB6.out.size))
  have HR7 := Lib.hid hr7
  have HD17 := Lib.hid ((HD16.out.below k7 (Nat.le_refl _)).more k7.size)
  have HD27 := Lib.hid ((HD26.out.below k7 (Nat.le_refl _)).more k7.size)
  have HWY7 := Lib.hid (HWY.out.up k7)
  clear k7 hr7
  go_wp2_with fail
  have HB8 := Lib.hid ((((HB7.out.alloc HB7.out.size (.cells #[.string ⟨#[83]⟩] 9)).alloc (by have := HB7.out.size; simp; omega) (.cells #[.string ⟨#[83]⟩, .string ⟨#[76]⟩] 9)).alloc (by have := HB7.out.size; simp; omega) (.cells #[.slice (some ⟨w7.heap.size + 1, 0, none⟩) 2 2] 22)))
  have hK8 : Below w7.heap.size w7 (((w7.alloc (.cells #[.string ⟨#[83]⟩] 9)).alloc (.cells #[.string ⟨#[83]⟩, .string ⟨#[76]⟩] 9)).alloc (.cells #[.slice (some ⟨w7.heap.size + 1, 0, none⟩) 2 2] 22)) := (((Below.refl _ _).alloc (Nat.le_refl _) _).alloc (by simp) _).alloc (by simp; omega) _
  have HK8 := Lib.hid hK8
  have HS1 : Hid (RdStr (((w7.alloc (.cells #[.string ⟨#[83]⟩] 9)).alloc (.cells #[.string ⟨#[83]⟩, .string ⟨#[76]⟩] 9)).alloc (.cells #[.slice (some ⟨w7.heap.size + 1, 0, none⟩) 2 2] 22)) (((w7.alloc (.cells #[.string ⟨#[83]⟩] 9)).alloc (.cells #[.string ⟨#[83]⟩, .string ⟨#[76]⟩] 9)).alloc (.cells #[.slice (some ⟨w7.heap.size + 1, 0, none⟩) 2 2] 22)).heap.size (some ⟨w7.heap.size, 0, none⟩) 1 [⟨#[83]⟩]) := Lib.hid (rdStr_lit (zs := [⟨#[83]⟩]) (T := 9) (((Blk.new w7 _ _).alloc _).alloc _) (by simp; omega))
  have HS2 : Hid (RdStr (((w7.alloc (.cells #[.string ⟨#[83]⟩] 9)).alloc (.cells #[.string ⟨#[83]⟩, .string ⟨#[76]⟩] 9)).alloc (.cells #[.slice (some ⟨w7.heap.size + 1, 0, none⟩) 2 2] 22)) (((w7.alloc (.cells #[.string ⟨#[83]⟩] 9)).alloc (.cells #[.string ⟨#[83]⟩, .string ⟨#[76]⟩] 9)).alloc (.cells #[.slice (some ⟨w7.heap.size + 1, 0, none⟩) 2 2] 22)).heap.size (some ⟨w7.heap.size + 1, 0, none⟩) 2 [⟨#[83]⟩, ⟨#[76]⟩]) := Lib.hid (rdStr_lit (zs := [⟨#[83]⟩, ⟨#[76]⟩]) (T := 9) ((Blk.new_ (by simp)).alloc _) (by simp))
  have HS3 : Hid (Blk (((w7.alloc (.cells #[.string ⟨#[83]⟩] 9)).alloc (.cells #[.string ⟨#[83]⟩, .string ⟨#[76]⟩] 9)).alloc (.cells #[.slice (some ⟨w7.heap.size + 1, 0, none⟩) 2 2] 22)) (w7.heap.size + 1 + 1) 22 #[.slice (some ⟨w7.heap.size + 1, 0, none⟩) 2 2]) := Lib.hid (Blk.new_ (by simp))
  have HR8 := Lib.hid (HR7.out.up hK8)
  clear hK8
  generalize (((w7.alloc (.cells #[.string ⟨#[83]⟩] 9)).alloc (.cells #[.string ⟨#[83]⟩, .string ⟨#[76]⟩] 9)).alloc (.cells #[.slice (some ⟨w7.heap.size + 1, 0, none⟩) 2 2] 22)) = w8 at *
  refine (proves_yes h7 fdNet pL (some ⟨w7.heap.size, 0, none⟩) 1 1 [⟨#[83]⟩] (some ⟨w7.heap.size + 1 + 1, 0, none⟩) 1 1 [⟨.slice (some ⟨w7.heap.size + 1, 0, none⟩) 2 2, [⟨#[83]⟩, ⟨#[76]⟩]⟩] w8 HR8.out HS1.out (Nat.le_refl _)
    ⟨rfl, ⟨rfl, fun _ => ⟨_, 0, rfl, HS3.out.lt, fun j u hu => by rw [Nat.zero_add, HS3.out.cell j]; simpa using hu⟩⟩, fun y hy => by rw [List.mem_singleton.1 hy]; exact ⟨_, 2, rfl, HS2.out⟩⟩ prf_ex).mono ?_
  rintro e w9 ⟨rfl, k9⟩
  have hs8 := HB8.out.size
  have hs7 := HK8.out.size
  have HB9 := Lib.hid (HB8.out.trans (k9.mono hs8))
  have hK79 := HK8.out.trans (k9.mono hs7)
  have HD19 := Lib.hid ((HD17.out.below hK79 (Nat.le_refl _)).more hK79.size)
  have HD29 := Lib.hid ((HD27.out.below hK79 (Nat.le_refl _)).more hK79.size)
  have HWY9 := Lib.hid (HWY7.out.up hK79)
  clear k9 hK79 HS1 HS2 HS3 HR8
  go_wp2_with fail
  have hK9 : Below w9.heap.size w9 (w9.alloc (.cells #[.string ⟨#[84]⟩] 9)) := (Below.refl _ _).alloc (Nat.le_refl _) _
  have HK9 := Lib.hid hK9
  have HT9 : Hid (RdStr (w9.alloc (.cells #[.string ⟨#[84]⟩] 9)) (w9.alloc (.cells #[.string ⟨#[84]⟩] 9)).heap.size (some ⟨w9.heap.size, 0, none⟩) 1 [⟨#[84]⟩]) := Lib.hid (rdStr_lit (zs := [⟨#[84]⟩]) (T := 9) (Blk.new w9 _ _) (by simp))
  have HA9 := Lib.hid ((HD19.out.below hK9 (Nat.le_refl _)).more hK9.size)
  clear hK9
  refine (sameTexts_yes A1 1 c1 [⟨#[84]⟩] (some ⟨w9.heap.size, 0, none⟩) 1 _ HA9.out HT9.out (by omega)).mono ?_
  rintro e w10 ⟨rfl, nq9, hw9⟩
  have HB10 : Hid (Below w.heap.size w w10) := Lib.hid (by rw [hw9]; exact below_drewN (HB9.out.trans (HK9.out.mono HB9.out.size)) _)
  have hk9 : Below w9.heap.size w9 w10 := by rw [hw9]; exact below_drewN HK9.out _
  have HD210 := Lib.hid ((HD29.out.below hk9 (Nat.le_refl _)).more hk9.size)
  have HWY10 := Lib.hid (HWY9.out.up hk9)
  clear hk9 hw9
  go_wp2_with fail
  have hK10 : Below w10.heap.size w10 (w10.alloc (.cells #[.string ⟨#[83]⟩] 9)) := (Below.refl _ _).alloc (Nat.le_refl _) _
  have HK10 := Lib.hid hK10
  have HT10 : Hid (RdStr (w10.alloc (.cells #[.string ⟨#[83]⟩] 9)) (w10.alloc (.cells #[.string ⟨#[83]⟩] 9)).heap.size (some ⟨w10.heap.size, 0, none⟩) 1 [⟨#[83]⟩]) := Lib.hid (rdStr_lit (zs := [⟨#[83]⟩]) (T := 9) (Blk.new w10 _ _) (by simp))
  have HA10 := Lib.hid ((HD210.out.below hK10 (Nat.le_refl _)).more hK10.size)
  clear hK10
  refine (sameTexts_yes A2 1 c2 [⟨#[83]⟩] (some ⟨w10.heap.size, 0, none⟩) 1 _ HA10.out HT10.out (by omega)).mono ?_
  rintro e w11 ⟨rfl, nq10, hw10⟩
  have HB11 : Hid (Below w.heap.size w w11) := Lib.hid (by rw [hw10]; exact below_drewN (HB10.out.trans (HK10.out.mono HB10.out.size)) _)
  have hk10 : Below w10.heap.size w10 w11 := by rw [hw10]; exact below_drewN HK10.out _
  have HWY11 := Lib.hid (HWY10.out.up hk10)
  clear hk10 hw10
  obtain ⟨zA, zc, hzv, hzr⟩ := HWY11.out.2.2 z (by simp)
  rw [HZS.out] at hzv hzr
  obtain ⟨vb, vo, hV, hvb, hvc⟩ := HWY11.out.2.1.2 (by omega)
  subst hV
  have hv0 : w11.cell? ⟨vb, vo, none⟩ = some (.slice zA 2 zc) := by have h := hvc 0 (.slice zA 2 zc) (by simp [hzv]); rwa [Nat.add_zero] at h
  have HZR := Lib.hid hzr
  clear hzv hzr hvc
  go_wp2_with fail
  have hK11 : Below w11.heap.size w11 (w11.alloc (.cells #[.string ⟨#[83]⟩, .string ⟨#[76]⟩] 9)) := (Below.refl _ _).alloc (Nat.le_refl _) _
  have HK11 := Lib.hid hK11
  have HT11 : Hid (RdStr (w11.alloc (.cells #[.string ⟨#[83]⟩, .string ⟨#[76]⟩] 9)) (w11.alloc (.cells #[.string ⟨#[83]⟩, .string ⟨#[76]⟩] 9)).heap.size (some ⟨w11.heap.size, 0, none⟩) 2 [⟨#[83]⟩, ⟨#[76]⟩]) := Lib.hid (rdStr_lit (zs := [⟨#[83]⟩, ⟨#[76]⟩]) (T := 9) (Blk.new w11 _ _) (by simp))
  have HA11 := Lib.hid ((HZR.out.below hK11 (Nat.le_refl _)).more hK11.size)
  clear hK11
  refine (sameTexts_yes zA 2 zc [⟨#[83]⟩, ⟨#[76]⟩] (some ⟨w11.heap.size, 0, none⟩) 2 _ HA11.out HT11.out (by omega)).mono ?_
  rintro e w12 ⟨rfl, nq11, hw11⟩
  have HB12 : Hid (Below w.heap.size w w12) := Lib.hid (by rw [hw11]; exact below_drewN (HB11.out.trans (HK11.out.mono HB11.out.size)) _)
  have hk11 : Below w11.heap.size w11 w12 := by rw [hw11]; exact below_drewN HK11.out _
  clear hk11 hw11
  go_wp2_with fail
  go_ret
  exact ⟨rfl, HB12.out⟩
end Go.Proofs.Ythedpegaelpbdaa
