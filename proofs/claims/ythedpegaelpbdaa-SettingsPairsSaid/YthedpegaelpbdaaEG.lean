/- The fixed example of chapter 33: what its calls answer. -/
import Derived.Test.YthedpegaelpbdaaEE
import Derived.Test.YthedpegaelpbdaaEF
import Derived.Test.YthedpegaelpbdaaE5
namespace Go.Proofs.Ythedpegaelpbdaa
set_option linter.unusedVariables false
set_option linter.unusedSimpArgs false

theorem fe_ck : cckR fdNet [] [rlC1, rlC2] = 0 := by decide +kernel
theorem fe_pairs : pairsR fdNet [rlC1, rlC2] = [(1, 0)] := by decide +kernel
theorem fe_w1 : wrongR [rlC1, rlC2] [(1, 0)] 300 0 1000 = (0, 0, 8) := by decide +kernel
theorem fe_w2 : wrongR [rlC1, rlC2] [(1, 0)] 301 0 1000 = (0, 100, 0) := by decide +kernel
theorem fe_p997 : dp2 300 0 1000 rlC2 rlC1 997 = false := by decide +kernel
theorem fe_p998 : dp2 300 0 1000 rlC2 rlC1 998 = true := by decide +kernel
theorem fe_s : (scaleC rlC1.curve 10000).2 = 0 := by decide +kernel
theorem fe_cir : cirB [(1, 0)] 2 = false := by decide +kernel
theorem fe_sck : sckR [rlC1, rlC2] = 0 := by decide +kernel
theorem fe_c2 : (scaleC rlC2.curve 1000) = (rlC2.curve, 0) := by decide +kernel
theorem fe_q747 : dp2 150 0 1000 rlC2 rlC1 747 = false := by decide +kernel
theorem fe_q748 : dp2 150 0 1000 rlC2 rlC1 748 = true := by decide +kernel
theorem fe_c0 : (conC rlC2.curve rlC2.pick rlC1.curve rlC1.pick 300 0 1000).2 = 8 := by decide +kernel
theorem fe_c1 : (conC rlC2.curve rlC2.pick rlC1.curve rlC1.pick 150 0 1000).2 = 8 := by decide +kernel
theorem dial_only {m l h : Int} {a b : Cr} {k0 : Nat} (hs : (scaleC b.curve 10000).2 = 0) (h1 : dp2 m l h a b (k0 - 1) = false) (h2 : dp2 m l h a b k0 = true) (hk1 : 1 ≤ k0) (hk2 : k0 < 10000) (hc : (conC a.curve a.pick b.curve b.pick m l h).2 = 8) {d e : Int} (H : DialOk m l h a b d e) : d = (k0 : Int) + 1 ∧ e = 0 := by
  have hsc : ∀ i : Nat, i < 10000 → (scaleC b.curve ((i : Int) + 1)).2 = 0 := fun i hi => scale_less (by omega) (by omega) hs
  have hmono : ∀ i j : Nat, i ≤ j → j < 10000 → dp2 m l h a b i = true → dp2 m l h a b j = true := fun i j hij hj hi => by
    unfold dp2 at hi ⊢
    have h3 : (conC a.curve a.pick (scaleC b.curve ((i : Int) + 1)).1 b.pick m l h).2 = 8 := by simpa using hi
    have h4 := scale_con (show (i : Int) + 1 ≤ (j : Int) + 1 by omega) (hsc i (by omega)) (hsc j hj) h3
    rw [h4]; rfl
  rcases H with ⟨_, h3, _⟩ | ⟨_, most, k, F1, F2, hd⟩
  · exact absurd hc h3
  · have hm : most = 10000 := by
      have := F1.le
      refine Classical.byContradiction fun hne => ?_
      have h3 := F1.hi (by omega)
      unfold dp1 at h3
      rw [hsc most (by omega)] at h3
      cases h3
    subst hm
    have hkl := F2.le
    have hk : k = k0 := by
      refine Classical.byContradiction fun hne => ?_
      by_cases hlt : k < k0
      · have := hmono k (k0 - 1) (by omega) (by omega) (F2.hi (by omega))
        rw [h1] at this; cases this
      · have h3 := F2.lo (by omega)
        have := hmono k0 (k - 1) (by omega) (by omega) h2
        rw [h3] at this; cases this
    subst hk
    rcases hd with ⟨h3, _⟩ | ⟨_, h3, h4⟩
    · omega
    · exact ⟨by rw [h3]; omega, h4⟩
theorem fe_dial {d e : Int} (H : DialOk 300 0 1000 rlC2 rlC1 d e) : d = 999 ∧ e = 0 := by
  have h := dial_only (k0 := 998) fe_s fe_p997 fe_p998 (by omega) (by omega) fe_c0 H
  exact ⟨by rw [h.1]; rfl, h.2⟩
theorem fe_coo {dials : List Int} (H : CooS 150 0 1000 [rlC1, rlC2] [(1, 0)] 2 dials) (hnz : ∀ k, k < 2 → dials.getD k 0 ≠ 0) : dials = [749, 1000] := by
  obtain ⟨⟨d1, _, hI1, hd1⟩, _⟩ := H.ok 1 (by omega) (hnz 1 (by omega))
  have e1 : dials.getD 1 0 = 1000 := by
    rcases hI1.2 with ⟨_, h⟩ | ⟨p, hp, hpk, _⟩
    · rw [hd1, if_pos h]
    · rw [List.mem_singleton.1 hp] at hpk; cases hpk
  obtain ⟨⟨d0, _, hI0, hd0⟩, _⟩ := H.ok 0 (by omega) (hnz 0 (by omega))
  have e0 : dials.getD 0 0 = 749 := by
    rcases hI0.2 with ⟨h, _⟩ | ⟨p, hp, hpk, a, b, c, ha, hb, hc, hdk⟩
    · exact absurd rfl (h (1, 0) (by simp))
    · have hpe := List.mem_singleton.1 hp
      subst hpe
      simp at ha hb
      subst ha hb
      rw [show dials.getD (1, 0).1 0 = 1000 from e1, fe_c2] at hc
      injection hc with hc
      subst hc
      have h := dial_only (k0 := 748) fe_s fe_q747 fe_q748 (by omega) (by omega) fe_c1 hdk
      rw [hd0, h.1, if_neg (by omega)]; rfl
  have hl := H.len
  match dials, hl with
  | [x, y], _ =>
    simp at e0 e1
    rw [e0, e1]
end Go.Proofs.Ythedpegaelpbdaa
