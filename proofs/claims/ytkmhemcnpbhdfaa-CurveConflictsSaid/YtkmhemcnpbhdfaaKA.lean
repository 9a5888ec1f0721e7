/- The fixed example of chapter 23. -/
import Derived.Test.YtkmhemcnpbhdfaaK9
import Derived.Test.YtkmhemcnpbhdfaaK7
namespace Go.Proofs.Ytkmhemcnpbhdfaa
open Go.ChangeShapes Go.WideShapes Go.ChangeAt Go.RowKit
set_option linter.unusedVariables false
attribute [local go_sem ↓] execOp_call_val
attribute [local go_sem] callVal_func setCell_drewN alloc_drewN

theorem tmodB (a n : Int) (h : 0 < n) : -n < a.tmod n ∧ a.tmod n < n := ⟨Int.lt_tmod_of_pos a h, Int.tmod_lt_of_pos a h⟩

theorem leastP_mono {ps : List (Int × Int)} {pk limit : Int} (hg : Good ps) (hp : 1 ≤ pk) {i j : Nat} (hij : i ≤ j) (h : leastP ps pk limit i = true) : leastP ps pk limit j = true := by
  unfold leastP at h ⊢
  cases hi : tmC pk i ps with
  | none => rw [hi] at h; simp [tmB] at h
  | some t =>
    rw [hi] at h
    have h' : (true && decide (t ≤ limit)) = true := h
    simp at h'
    obtain ⟨u, hu, hle, _⟩ := tmC_mono hg hp (show (i : Int) ≤ j by omega) hi
    rw [hu]
    show (true && decide (u ≤ limit)) = true
    simp
    omega

theorem found_eq {p : Nat → Bool} {N m j : Nat} (hf : Found p N m) (hmono : ∀ i k : Nat, i ≤ k → p i = true → p k = true) (h1 : p j = true) (h0 : 0 < j → p (j - 1) = false) (hj : j < N) : m = j := by
  rcases Nat.lt_trichotomy m j with h | h | h
  · have h2 := hmono m (j - 1) (by omega) (hf.hi (by omega))
    rw [h0 (by omega)] at h2; cases h2
  · exact h
  · have h2 := hmono j (m - 1) (by omega) h1
    rw [hf.lo (by omega)] at h2; cases h2

def slopeL : List (Int × Int) := [(100, 1000), (200, 500)]
theorem slope_good : Good slopeL := ckC_good.1 (by decide)

theorem slope_any (w : World) : Calls Try.prog 48 #[] w fun e w' => ∃ g, e = .returned (.slice (some ⟨g, 0, none⟩) 2 2) ∧ RdP w' w'.heap.size (some ⟨g, 0, none⟩) 2 slopeL ∧ Below w.heap.size w w' := by
  go_enter Try.func48, Try.ntmps48
  go_wp2_with fail
  go_ret
  refine ⟨w.heap.size, rfl, ⟨rfl, fun _ => ⟨_, 0, rfl, by simp, fun j u hu => ?_⟩⟩, (Below.refl _ _).alloc (Nat.le_refl _) _⟩
  have hB := Blk.new w 54 #[Value.int .i64 100, .int .i64 1000, .int .i64 200, .int .i64 500]
  rw [Nat.zero_add]
  have := hB.cell j
  rw [this]
  have hj : j < 4 := (List.getElem?_eq_some_iff.1 hu).1
  match j, hj with
  | 0, _ => exact hu
  | 1, _ => exact hu
  | 2, _ => exact hu
  | 3, _ => exact hu

theorem slope_least {k e : Int} (h : LeastSpec slopeL 100 750 k e) : k = 150 ∧ e = 0 := by
  have hc : ckC slopeL = 0 := by decide
  rcases h with ⟨h1, _⟩ | ⟨_, h2, _⟩ | ⟨_, _, _, _, m, hf, h3⟩
  · exact absurd hc h1
  · omega
  · have hm := found_eq (j := 150) hf (fun i k hik h => leastP_mono slope_good (by omega) hik h) (by decide) (fun _ => by decide) (by omega)
    omega

set_option maxHeartbeats 2000000 in
theorem cworks_any (w : World) : Calls Try.prog 28 #[] w fun e w' => e = .returned (.bool true) ∧ Below w.heap.size w w' := by
  have e1 : timeC slopeL 100 150 = (750, 0) := by decide
  have e2 : scaleC slopeL 500 = ([(100, 500), (200, 250)], 0) := by decide
  have e3 : conC slopeL 100 slopeL 100 0 0 300 = (0, 8) := by decide +kernel
  have e4 : conC slopeL 100 slopeL 100 1 0 300 = (100, 0) := by decide +kernel
  have E1 := Lib.hid e1
  have E2 := Lib.hid e2
  have E3 := Lib.hid e3
  have E4 := Lib.hid e4
  clear e1 e2 e3 e4
  go_enter Try.func28, Try.ntmps28
  go_wp2_with fail
  refine (slope_any _).mono ?_
  rintro e w1 ⟨g1, rfl, r1, k1⟩
  go_wp2_with fail
  refine (time_any _ _ _ _ _ _ _ r1 (by omega)).mono ?_
  rw [E1.out]
  rintro e w2 ⟨rfl, k2⟩
  have K2 := k1.trans (k2.mono k1.size)
  go_wp2_with fail
  refine (slope_any _).mono ?_
  rintro e w3 ⟨g3, rfl, r3, k3⟩
  have K3 := K2.trans (k3.mono K2.size)
  go_wp2_with fail
  refine (scale_any _ _ _ _ _ _ r3 (by omega)).mono ?_
  rw [E2.out]
  rintro e w4 ⟨⟨v, rfl, A, n, c, rfl, hn, r4⟩, k4⟩
  have K4 := K3.trans (k4.mono K3.size)
  have hn2 : 2 = n := r4.len
  subst hn2
  obtain ⟨b, off, rfl, hblt, hcells⟩ := r4.2 (by omega)
  have hc3 : w4.cell? ⟨b, off + 1 * 2 + 1, none⟩ = some (.int .i64 250) := (r4.at_ (i := 1) rfl).2
  have HC3 := Lib.hid hc3
  clear hcells hc3
  go_wp2_with fail
  refine (slope_any _).mono ?_
  rintro e w5 ⟨g5, rfl, r5, k5⟩
  have K5 := K4.trans (k5.mono K4.size)
  go_wp2_with fail
  refine (least_any _ _ _ _ _ _ _ r5 (by omega)).mono ?_
  rintro e w6 ⟨⟨k, x, rfl, hle⟩, k6⟩
  obtain ⟨rfl, rfl⟩ := slope_least hle
  have K6 := K5.trans (k6.mono K5.size)
  go_wp2_with fail
  refine (slope_any _).mono ?_
  rintro e w7 ⟨g7, rfl, r7, k7⟩
  have K7 := K6.trans (k7.mono K6.size)
  go_wp2_with fail
  refine (slope_any _).mono ?_
  rintro e w8 ⟨g8, rfl, r8, k8⟩
  have K8 := K7.trans (k8.mono K7.size)
  go_wp2_with fail
  refine (con_any _ _ _ _ _ _ _ _ _ _ _ _ _ _ ((r7.below k8 (Nat.le_refl _)).more k8.size) r8 (by omega) (by omega)).mono ?_
  rw [E3.out]
  rintro e w9 ⟨rfl, k9⟩
  have K9 := K8.trans (k9.mono K8.size)
  go_wp2_with fail
  refine (slope_any _).mono ?_
  rintro e w10 ⟨g10, rfl, r10, k10⟩
  have K10 := K9.trans (k10.mono K9.size)
  go_wp2_with fail
  refine (slope_any _).mono ?_
  rintro e w11 ⟨g11, rfl, r11, k11⟩
  have K11 := K10.trans (k11.mono K10.size)
  go_wp2_with fail
  refine (con_any _ _ _ _ _ _ _ _ _ _ _ _ _ _ ((r10.below k11 (Nat.le_refl _)).more k11.size) r11 (by omega) (by omega)).mono ?_
  rw [E4.out]
  rintro e w12 ⟨rfl, k12⟩
  have K12 := K11.trans (k12.mono K11.size)
  have hlast : w12.cell? ⟨b, off + 1 * 2 + 1, none⟩ = some (.int .i64 250) := by
    have hb4 : Below w4.heap.size w4 w12 := (((((((k5.trans (k6.mono k5.size)).trans (k7.mono (by have := k5.size; have := k6.size; omega))).trans (k8.mono (by have := k5.size; have := k6.size; have := k7.size; omega))).trans (k9.mono (by have := k5.size; have := k6.size; have := k7.size; have := k8.size; omega))).trans (k10.mono (by have := k5.size; have := k6.size; have := k7.size; have := k8.size; have := k9.size; omega))).trans (k11.mono (by have := k5.size; have := k6.size; have := k7.size; have := k8.size; have := k9.size; have := k10.size; omega))).trans (k12.mono (by have := k5.size; have := k6.size; have := k7.size; have := k8.size; have := k9.size; have := k10.size; have := k11.size; omega)))
    exact (hb4.cell (p := ⟨b, off + 1 * 2 + 1, none⟩) hblt).trans HC3.out
  go_wp2_with fail
  go_ret
  exact ⟨rfl, K12⟩
end Go.Proofs.Ytkmhemcnpbhdfaa
