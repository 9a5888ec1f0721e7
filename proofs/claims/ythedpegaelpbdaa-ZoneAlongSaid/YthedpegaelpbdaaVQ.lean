/- Plain law of ZoneAlong: the distances from both ends of a branch. -/
import Derived.Test.YthedpegaelpbdaaV8
namespace Go.Proofs.Ythedpegaelpbdaa
set_option linter.unusedVariables false
theorem cpR_ok {x : Net} {p : Fp} (h : cpR x p = 0) : netCk x = 0 ∧ 0 ≤ brIdx x p.branch ∧ 0 ≤ p.part ∧ p.part ≤ 1000 := by
  unfold cpR at h
  by_cases h0 : netCk x = 0
  · rw [if_neg (by rw [h0]; simp)] at h
    by_cases h1 : brIdx x p.branch < 0
    · rw [if_pos h1] at h; omega
    · rw [if_neg h1] at h
      by_cases h2 : p.part < 0 ∨ 1000 < p.part
      · rw [if_pos h2] at h; omega
      · exact ⟨h0, by omega, by omega, by omega⟩
  · rw [if_pos h0] at h; exact absurd h h0
theorem along_at {x : Net} {p : Fp} (h : cpR x p = 0) : (brAt x p.branch).name = p.branch ∧ (brAt x p.branch).fr ≠ (brAt x p.branch).to ∧ 1 ≤ (brAt x p.branch).x ∧ (brAt x p.branch).x ≤ 10000 := by
  obtain ⟨h0, h1, _, _⟩ := cpR_ok h
  obtain ⟨i, _, h2, h3⟩ := brAt_ok h1
  obtain ⟨_, _, h4, h5⟩ := (netCk_ok h0).br _ (List.mem_of_getElem? h2)
  obtain ⟨h6, h7, _⟩ := Br.good h5
  exact ⟨h3, h4, h6, h7⟩
theorem along_chk {x : Net} {p : Fp} (h : cpR x p = 0) (node : ByteArray) (hn : node = (brAt x p.branch).fr ∨ node = (brAt x p.branch).to) : chkR x ⟨node, (brAt x p.branch).name, [⟨1, 0⟩]⟩ p = 0 := by
  obtain ⟨h0, h1, _, _⟩ := cpR_ok h
  obtain ⟨h3, _⟩ := along_at h
  rw [h3]
  have hz : zckR x ⟨node, p.branch, [⟨1, 0⟩]⟩ = 0 := by
    unfold zckR
    rw [if_neg (by rw [h0]; simp), if_neg (by show ¬ brIdx x p.branch < 0; omega), if_neg]
    · rfl
    · rintro (⟨a, b⟩ | a | a)
      · have a' := sEq_ff.1 a
        have b' := sEq_ff.1 b
        rcases hn with hn | hn
        · exact a' hn
        · exact b' hn
      · simp at a
      · simp at a
  unfold chkR
  rw [hz, if_neg (by simp)]
  exact h
theorem along_fr {x : Net} {p : Fp} (h : cpR x p = 0) : disR x ⟨(brAt x p.branch).fr, (brAt x p.branch).name, [⟨1, 0⟩]⟩ p = ((brAt x p.branch).x * p.part, 0) := by
  have hc := along_chk h _ (.inl rfl)
  obtain ⟨h3, h4, _⟩ := along_at h
  rw [h3] at hc ⊢
  have hd : distR x ⟨(brAt x p.branch).fr, p.branch, [⟨1, 0⟩]⟩ p = ((brAt x p.branch).x * p.part, true) := by
    unfold distR
    simp [sEq]
  unfold disR
  rw [hc, if_neg (by simp), hd]
  rfl
theorem along_to {x : Net} {p : Fp} (h : cpR x p = 0) : disR x ⟨(brAt x p.branch).to, (brAt x p.branch).name, [⟨1, 0⟩]⟩ p = ((brAt x p.branch).x * (1000 - p.part), 0) := by
  have hc := along_chk h _ (.inr rfl)
  obtain ⟨h3, h4, _⟩ := along_at h
  rw [h3] at hc ⊢
  have hd : distR x ⟨(brAt x p.branch).to, p.branch, [⟨1, 0⟩]⟩ p = ((brAt x p.branch).x * (1000 - p.part), true) := by
    unfold distR
    simp [sEq, Ne.symm h4]
  unfold disR
  rw [hc, if_neg (by simp), hd]
  rfl
end Go.Proofs.Ythedpegaelpbdaa
