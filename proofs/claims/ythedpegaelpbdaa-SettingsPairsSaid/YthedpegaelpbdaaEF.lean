/- What Dial and Coordinate answer, in plain words. -/
import Derived.Test.YthedpegaelpbdaaEC
import Derived.Test.YthedpegaelpbdaaSP
namespace Go.Proofs.Ythedpegaelpbdaa
set_option linter.unusedVariables false
set_option linter.unusedSimpArgs false

theorem dp1_off {b : Cr} {i : Nat} (h : dp1 b i = false) : (scaleC b.curve ((i : Int) + 1)).2 = 0 := by
  unfold dp1 at h; simpa using h
theorem dial_law {m l h : Int} {a b : Cr} {d e : Int} (H : DialOk m l h a b d e) :
    (e ≠ 0 ∧ d = 0) ∨ (e = 0 ∧ 1 ≤ d ∧ d ≤ 10000 ∧ (scaleC b.curve d).2 = 0 ∧ (conC a.curve a.pick (scaleC b.curve d).1 b.pick m l h).2 = 8 ∧ (d = 1 ∨ ((scaleC b.curve (d - 1)).2 = 0 ∧ (conC a.curve a.pick (scaleC b.curve (d - 1)).1 b.pick m l h).2 = 0))) := by
  rcases H with ⟨h1, _, h2, h3⟩ | ⟨h0, most, k, F1, F2, ⟨_, h1, h2⟩ | ⟨hk, h1, h2⟩⟩
  · exact .inl ⟨by rw [h3]; exact h1, h2⟩
  · exact .inl ⟨by rw [h2]; decide, h1⟩
  · right
    have hm := F1.le
    have hs : (scaleC b.curve (most : Int)).2 = 0 := by
      have h := dp1_off (F1.lo (by omega))
      rw [show ((most - 1 : Nat) : Int) + 1 = (most : Int) from by omega] at h
      exact h
    have hd : d = (k : Int) + 1 := by rw [h1]; omega
    subst h2
    have hc := F2.hi (by omega)
    have hc' : (conC a.curve a.pick (scaleC b.curve ((k : Int) + 1)).1 b.pick m l h).2 = 8 := by unfold dp2 at hc; simpa using hc
    refine ⟨rfl, by omega, by omega, scale_less (by omega) (by omega) hs, by rw [hd]; exact hc', ?_⟩
    by_cases hk0 : k = 0
    · left; omega
    · right
      have hsk : (scaleC b.curve (d - 1)).2 = 0 := scale_less (by omega) (by omega) hs
      refine ⟨hsk, ?_⟩
      have hlo := F2.lo (by omega)
      have hne : (conC a.curve a.pick (scaleC b.curve (d - 1)).1 b.pick m l h).2 ≠ 8 := by
        unfold dp2 at hlo
        rw [show ((k - 1 : Nat) : Int) + 1 = d - 1 from by omega] at hlo
        simpa using hlo
      obtain ⟨hg, hd1, hsc⟩ := scale_ok hsk
      have H2 : ConOk a.curve a.pick (scaleC b.curve (d - 1)).1 b.pick m l h := { con_ok h0 with gb := (scGo_good hd1 hg hsc).1 }
      exact (con_or H2).resolve_right hne
/-- with the dials of Coordinate no pair is wrong -/
theorem coo_law {m l h : Int} {r : List Cr} {ps : List (Nat × Nat)} {n : Nat} {dials : List Int} (H : CooS m l h r ps n dials) (hr : r.length = n) (hck : ∀ z ∈ r, ckC z.curve = 0) (hnz : ∀ k, k < n → dials.getD k 0 ≠ 0) (hps : ∀ p ∈ ps, p.1 < n ∧ p.2 < n) :
    (∀ k z, r[k]? = some z → (scaleC z.curve (dials.getD k 0)).2 = 0) ∧
    ∀ p ∈ ps, ∀ a b, r[p.1]? = some a → r[p.2]? = some b → (conC (scaleC a.curve (dials.getD p.1 0)).1 a.pick (scaleC b.curve (dials.getD p.2 0)).1 b.pick m l h).2 = 8 := by
  have hA : ∀ k z, r[k]? = some z → (scaleC z.curve (dials.getD k 0)).2 = 0 := fun k z hz => by
    have hk : k < n := by rw [← hr]; exact (List.getElem?_eq_some_iff.1 hz).1
    obtain ⟨⟨d0, hd0, hI, hd⟩, _⟩ := H.ok k hk (hnz k hk)
    rcases hI.2 with ⟨_, h2⟩ | ⟨p, hp, hpk, a, b, c, _, hb, _, hdk⟩
    · rw [hd, if_pos h2, scale_1000 (ckC_good.1 (hck z (List.mem_of_getElem? hz)))]
    · rw [hz] at hb; injection hb with hb; subst hb
      rcases dial_law hdk with ⟨h1, _⟩ | ⟨_, h1, _, h2, _⟩
      · exact absurd rfl h1
      · rw [hd, if_neg (by omega)]; exact h2
  refine ⟨hA, fun p hp a b ha hb => ?_⟩
  obtain ⟨h1, h2⟩ := hps p hp
  obtain ⟨⟨d0, hd0, hI, hd⟩, _⟩ := H.ok p.2 h2 (hnz p.2 h2)
  obtain ⟨dp, ⟨a', b', c, ha', hb', hc, hdk⟩, hle⟩ := hI.1 p hp rfl
  rw [ha] at ha'; injection ha' with ha'; subst ha'
  rw [hb] at hb'; injection hb' with hb'; subst hb'
  rcases dial_law hdk with ⟨h3, _⟩ | ⟨_, h3, _, h4, h5, _⟩
  · exact absurd rfl h3
  · have hdd : dials.getD p.2 0 = d0 := by rw [hd, if_neg (by omega)]
    rw [hc, hdd]
    refine scale_con hle h4 ?_ h5
    rw [← hdd]; exact hA p.2 b hb
end Go.Proofs.Ythedpegaelpbdaa
