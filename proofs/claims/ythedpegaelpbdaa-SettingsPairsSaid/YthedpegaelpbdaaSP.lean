/- The plain law of dials: a greater dial keeps what is selective. -/
import Derived.Test.YthedpegaelpbdaaKL
namespace Go.Proofs.Ythedpegaelpbdaa
set_option linter.unusedVariables false
set_option linter.unusedSimpArgs false

theorem tm_under {ps qs : List (Int × Int)} {pk cur : Int} (hg : Good ps) (hg2 : Good qs) (hpk : 1 ≤ pk) (hu : Under ps qs) : (tmC pk cur ps = none ∧ tmC pk cur qs = none) ∨ ∃ u v, tmC pk cur ps = some u ∧ tmC pk cur qs = some v ∧ u ≤ v := by
  obtain ⟨a, b, r, rfl, h1, _, _, _, hc, _⟩ := hg
  obtain ⟨a', b', r', rfl, h1', _, _, _, hc', _⟩ := hg2
  have hu1 := hu.1
  simp only [tmC]
  rw [← hu1]
  by_cases hx : 100 * cur < a.1 * pk
  · rw [if_pos hx, if_pos hx]; exact .inl ⟨rfl, rfl⟩
  · rw [if_neg hx, if_neg hx]
    exact .inr ⟨_, _, rfl, rfl, tmGo_under hpk hc hc' hu (by omega)⟩
theorem wrong_under {a b b2 : List (Int × Int)} {pa pb margin cur : Int} (hg : Good b) (hg2 : Good b2) (hpb : 1 ≤ pb) (hu : Under b b2) (h : wrongC a pa b pb margin cur = false) : wrongC a pa b2 pb margin cur = false := by
  unfold wrongC at h ⊢
  rcases tm_under (cur := cur) hg hg2 hpb hu with ⟨h1, h2⟩ | ⟨u, v, h1, h2, h3⟩
  · rw [h2]
  · rw [h1] at h
    rw [h2]
    cases ht : tmC pa cur a with
    | none => rw [ht] at h; simp at h
    | some t =>
      rw [ht] at h
      simp only [decide_eq_false_iff_not] at h ⊢
      omega
theorem conGo_none (f : Int → Bool) : ∀ (m : Nat) (n : Int), (∀ j, n ≤ j → j < n + m → f j = false) → conGo f n m = (0, 8)
  | 0, n, _ => rfl
  | m + 1, n, h => by
    unfold conGo
    rw [if_neg (by rw [h n (by omega) (by omega)]; simp)]
    exact conGo_none f m (n + 1) fun j h1 h2 => h j (by omega) (by omega)
theorem conC_of {a b : List (Int × Int)} {pa pb margin low high : Int} (H : ConOk a pa b pb margin low high) : conC a pa b pb margin low high = conGo (wrongC a pa b pb margin) low (high + 1 - low).toNat := by
  have := H.a1; have := H.a2; have := H.b1; have := H.b2; have := H.m1; have := H.m2; have := H.l0; have := H.h0; have := H.lh; have := H.hl
  unfold conC
  rw [if_neg (by rw [ckC_good.2 H.ga]; simp), if_neg (by rw [ckC_good.2 H.gb]; simp), if_neg (by simp [outN]; omega), if_neg (by omega)]
theorem con_under {a b b2 : List (Int × Int)} {pa pb margin low high : Int} (h : (conC a pa b pb margin low high).2 = 8) (hg2 : Good b2) (hu : Under b b2) : (conC a pa b2 pb margin low high).2 = 8 := by
  obtain ⟨H, hw⟩ := (con_spec (h := (rfl : conC a pa b pb margin low high = ((conC a pa b pb margin low high).1, (conC a pa b pb margin low high).2)))).2.2 h
  have H2 : ConOk a pa b2 pb margin low high := { H with gb := hg2 }
  rw [conC_of H2, conGo_none]
  intro j h1 h2
  have := H.lh
  exact wrong_under H.gb hg2 H.b1 hu (hw j h1 (by omega))
/-- valid arguments give a conflict or none -/
theorem con_or {a b : List (Int × Int)} {pa pb margin low high : Int} (H : ConOk a pa b pb margin low high) : (conC a pa b pb margin low high).2 = 0 ∨ (conC a pa b pb margin low high).2 = 8 := by
  rw [conC_of H]
  rcases (conGo_spec (wrongC a pa b pb margin) (high + 1 - low).toNat low).1 with h | h
  · exact .inl h
  · rw [h]; exact .inr rfl
theorem con_ok {a b : List (Int × Int)} {pa pb margin low high : Int} (h : (conC a pa b pb margin low high).2 = 0 ∨ (conC a pa b pb margin low high).2 = 8) : ConOk a pa b pb margin low high := by
  have hs := con_spec (h := (rfl : conC a pa b pb margin low high = ((conC a pa b pb margin low high).1, (conC a pa b pb margin low high).2)))
  rcases h with h | h
  · exact (hs.2.1 h).1
  · exact (hs.2.2 h).1
/-- a smaller dial is taken if a greater one is -/
theorem scGo_less {d e : Int} (hde : d ≤ e) : ∀ {ps m : List (Int × Int)}, (∀ p ∈ ps, 0 ≤ p.2) → scGo e ps = some m → ∃ l, scGo d ps = some l
  | [], _, _, _ => ⟨[], rfl⟩
  | p :: r, m, hn, h => by
    simp only [scGo] at h ⊢
    split at h
    · cases h
    · rename_i hp
      cases hr : scGo e r with
      | none => rw [hr] at h; cases h
      | some m' =>
        obtain ⟨l', hl'⟩ := scGo_less hde (fun q hq => hn q (List.mem_cons_of_mem _ hq)) hr
        have := sc_mono hde (hn p (List.mem_cons_self ..))
        exact ⟨_, by rw [if_neg (by omega), hl']; rfl⟩
theorem scale_less {ps : List (Int × Int)} {d e : Int} (h1 : 1 ≤ d) (hde : d ≤ e) (h : (scaleC ps e).2 = 0) : (scaleC ps d).2 = 0 := by
  obtain ⟨hg, he, hs⟩ := scale_ok h
  have he2 : e ≤ 10000 := by
    unfold scaleC at h
    rw [if_neg (by rw [ckC_good.2 hg]; simp)] at h
    split at h
    · cases h
    · rename_i ho; simp [outN] at ho; omega
  obtain ⟨l, hl⟩ := scGo_less hde (fun p hp => (hg.all p hp).1) hs
  unfold scaleC
  rw [if_neg (by rw [ckC_good.2 hg]; simp), if_neg (by simp [outN]; omega), hl]
theorem scale_con {a b : List (Int × Int)} {pa pb margin low high d e : Int} (hde : d ≤ e) (h1 : (scaleC b d).2 = 0) (h2 : (scaleC b e).2 = 0) (h : (conC a pa (scaleC b d).1 pb margin low high).2 = 8) : (conC a pa (scaleC b e).1 pb margin low high).2 = 8 := by
  obtain ⟨hg, hd, hs⟩ := scale_ok h1
  obtain ⟨_, he, ht⟩ := scale_ok h2
  exact con_under h (scGo_good he hg ht).1 (scGo_under hde (fun p hp => (hg.all p hp).1) hs ht)
end Go.Proofs.Ythedpegaelpbdaa
