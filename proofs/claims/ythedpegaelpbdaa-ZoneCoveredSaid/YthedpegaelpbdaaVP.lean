/- Plain laws of zones: which zone is found, monotone delays. -/
import Derived.Test.YthedpegaelpbdaaV8
namespace Go.Proofs.Ythedpegaelpbdaa
set_option linter.unusedVariables false

theorem timR_e (x : Net) (r : Zr) (p : Fp) : (timR x r p).2 = (fndR x r p).2 := by
  unfold timR
  by_cases h : (fndR x r p).2 = 0
  · rw [if_neg (by rw [h]; simp), h]
  · rw [if_pos h]
theorem fndR_e {x : Net} {r : Zr} {p : Fp} (h : (disR x r p).2 ≠ 0) : fndR x r p = (0, (disR x r p).2) := by unfold fndR; rw [if_pos h]
theorem disR_0 {x : Net} {r : Zr} {p : Fp} (h : (disR x r p).2 ≠ 0) : (disR x r p).1 = 0 := by
  unfold disR at h ⊢
  by_cases h0 : chkR x r p = 0
  · rw [if_neg (by rw [h0]; simp)] at h ⊢
    cases hd : (distR x r p).2 with
    | true => rw [hd] at h; simp at h
    | false => simp
  · rw [if_pos h0]
theorem fndR_none {x : Net} {r : Zr} {p : Fp} (h0 : (disR x r p).2 = 0) (h : (fndR x r p).2 ≠ 0) : fndR x r p = (0, 8) ∧ ∀ z ∈ r.zones, z.reach * 1000 < (disR x r p).1 := by
  unfold fndR at h ⊢
  rw [if_neg (by rw [h0]; simp)] at h ⊢
  by_cases h1 : fndI r (disR x r p).1 < 0
  · rw [if_pos h1]
    refine ⟨rfl, fun z hz => ?_⟩
    rcases idxGo_spec (fun z : Zs => decide ((disR x r p).1 ≤ z.reach * 1000)) r.zones 0 with ⟨_, h2⟩ | ⟨i, y, h2, _⟩
    · have := h2 z hz; simp at this; omega
    · exfalso; unfold fndI at h1; rw [h2] at h1; omega
  · rw [if_neg h1] at h; simp at h
theorem fndR_some {x : Net} {r : Zr} {p : Fp} (h : (fndR x r p).2 = 0) : ∃ (i : Nat) (z : Zs), fndR x r p = ((i : Int), 0) ∧ r.zones[i]? = some z ∧ (disR x r p).1 ≤ z.reach * 1000 ∧ ∀ (j : Nat) (y : Zs), j < i → r.zones[j]? = some y → y.reach * 1000 < (disR x r p).1 := by
  obtain ⟨h0, _⟩ := fndR_ok h
  unfold fndR at h ⊢
  rw [if_neg (by rw [h0]; simp)] at h ⊢
  by_cases h1 : fndI r (disR x r p).1 < 0
  · rw [if_pos h1] at h; cases h
  · rw [if_neg h1]
    rcases idxGo_spec (fun z : Zs => decide ((disR x r p).1 ≤ z.reach * 1000)) r.zones 0 with ⟨h2, _⟩ | ⟨i, z, h2, h3, h4, h5⟩
    · exfalso; unfold fndI at h1; rw [h2] at h1; exact h1 (by decide)
    · refine ⟨i, z, by unfold fndI; rw [h2]; simp, h3, by simpa using h4, fun j y hj hy => ?_⟩
      have := h5 j y hj hy
      simp at this; omega
/-- the delays do not fall -/
theorem zsGo_delay : ∀ (l : List Zs) (o : Option Zs), zsGo o l = 0 → (∀ q, o = some q → ∀ z ∈ l, q.delay ≤ z.delay) ∧ ∀ (i k : Nat) (y z : Zs), i ≤ k → l[i]? = some y → l[k]? = some z → y.delay ≤ z.delay
  | [], _, _ => ⟨fun q _ z hz => by simp at hz, fun i k y z _ hy => by simp at hy⟩
  | a :: t, o, h => by
    have hb : zBad a = false := zsGo_good _ _ h a (by simp)
    have hn : zsGo (some a) t = 0 ∧ ∀ q, o = some q → q.delay ≤ a.delay := by
      cases o with
      | none => rw [zsGo_first hb] at h; exact ⟨h, fun q hq => by cases hq⟩
      | some q =>
        by_cases hq : a.reach ≤ q.reach ∨ a.delay < q.delay
        · rw [zsGo_form hb hq] at h; omega
        · rw [zsGo_next hb hq] at h; exact ⟨h, fun q' e => by injection e with e; subst e; omega⟩
    obtain ⟨h1, h2⟩ := zsGo_delay t (some a) hn.1
    refine ⟨fun q hq z hz => ?_, fun i k y z hik hy hz => ?_⟩
    · have h3 := hn.2 q hq
      rcases List.mem_cons.1 hz with rfl | hz
      · exact h3
      · exact Int.le_trans h3 (h1 a rfl z hz)
    · cases i with
      | zero =>
        simp at hy; subst hy
        cases k with
        | zero => simp at hz; subst hz; exact Int.le_refl _
        | succ k => exact h1 a rfl z (List.mem_of_getElem? (by simpa using hz))
      | succ i =>
        cases k with
        | zero => omega
        | succ k => exact h2 i k y z (by omega) (by simpa using hy) (by simpa using hz)
theorem reach_mono {x : Net} {r : Zr} {p q : Fp} (h2 : (disR x r p).2 = 0) (h : (disR x r p).1 ≤ (disR x r q).1) (hf : (fndR x r q).2 = 0) :
    (fndR x r p).2 = 0 ∧ (fndR x r p).1 ≤ (fndR x r q).1 ∧ (timR x r p).1 ≤ (timR x r q).1 := by
  obtain ⟨k, z, e1, e2, e3, e4⟩ := fndR_some hf
  by_cases h3 : (fndR x r p).2 = 0
  · obtain ⟨i, y, g1, g2, g3, g4⟩ := fndR_some h3
    have hik : i ≤ k := by
      rcases Nat.lt_or_ge k i with hlt | hge
      · have := g4 k z hlt e2; omega
      · exact hge
    have hz := (zckR_zones (chkR_ok (disR_ok h2)).1).1
    have hd := (zsGo_delay _ _ hz).2 i k y z hik g2 e2
    refine ⟨h3, by rw [g1, e1]; simpa using hik, ?_⟩
    unfold timR
    rw [if_neg (by rw [h3]; simp), if_neg (by rw [hf]; simp), g1, e1]
    simp only [zAt, Int.toNat_natCast, g2, e2, Option.getD_some]
    exact hd
  · have := (fndR_none h2 h3).2 z (List.mem_of_getElem? e2)
    omega
end Go.Proofs.Ythedpegaelpbdaa
