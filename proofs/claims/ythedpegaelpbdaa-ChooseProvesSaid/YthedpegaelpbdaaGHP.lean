/- The plain law of ChooseSmallest. -/
import Derived.Test.YthedpegaelpbdaaGT
import Derived.Test.YthedpegaelpbdaaGN
import Derived.Test.YthedpegaelpbdaaG6
import Derived.Test.YthedpegaelpbdaaG4
namespace Go.Proofs.Ythedpegaelpbdaa
open Go
set_option linter.unusedVariables false

/-- an edge that opens more than is open lies in a switch of the list -/
theorem fdEs_opened {x : Net} {p : Fp} {opens : List ByteArray} {e : Ed} (he : e ∈ fdEs x [] p) (hn : e ∉ fdEs x opens p) : ∃ s ∈ x.sws, e.name = s.name ∧ e.brk = s.breaker ∧ s.name ∈ opens := by
  unfold fdEs at he hn
  rcases List.mem_append.1 he with he | he
  · obtain ⟨s, hs, he⟩ := List.mem_flatMap.1 he
    unfold swEd at he
    split at he
    · simp at he
    · rename_i hop
      simp only [Bool.or_eq_true, not_or, Bool.not_eq_true] at hop
      have hee := List.mem_singleton.1 he
      refine ⟨s, hs, by rw [hee], by rw [hee], ?_⟩
      refine Classical.byContradiction fun hm => hn (List.mem_append_left _ (List.mem_flatMap.2 ⟨s, hs, ?_⟩))
      unfold swEd
      rw [if_neg]
      · exact he
      · simp only [Bool.or_eq_true, not_or, Bool.not_eq_true]
        refine ⟨hop.1, ?_⟩
        rw [List.any_eq_false]
        intro y hy hsy
        have : s.name = y := by simpa [sEq] using hsy
        exact hm (this ▸ hy)
  · exact absurd (List.mem_append_right _ he) hn
theorem small_cut {x : Net} {p : Fp} {opens : List ByteArray} (hcp : cpR x p = 0) (hiso : isoB x opens p = true) (hbrk : ∀ s ∈ opens, ∀ z ∈ x.sws, z.name = s → z.breaker = true) :
    ∃ S, Cut (fdSrc x) (fdSrc x).length (fdPl x p) S ∧ ∀ e ∈ fdEs x [] p, cross S e = true → e.brk = true ∧ e.name ∈ opens := by
  have ok := netCk_ok (cp_net hcp)
  unfold isoB at hiso
  have hf := bfsR_found (src := fdSrc x) (go := goR) (fd_ok ok opens p) (fd_place ok p)
  obtain ⟨hS, hcr⟩ := border (fd_ok ok opens p) (fd_zero x opens p) (fd_place ok p) hf (of_decide_eq_true hiso)
  refine ⟨_, hS, fun e he hx => ?_⟩
  by_cases hm : e ∈ fdEs x opens p
  · rw [hcr e hm] at hx; cases hx
  · obtain ⟨s, hs, h1, h2, h3⟩ := fdEs_opened he hm
    exact ⟨by rw [h2]; exact hbrk s.name h3 s hs rfl, by rw [h1]; exact h3⟩
theorem ls_len {x : Net} {p : Fp} (hcp : cpR x p = 0) {es : List Ed} {l : List ByteArray} {j : Nat} (h : LsOk x p es l j) : l.length = j := by
  have ok := netCk_ok (cp_net hcp)
  have ok0 := fd_ok ok [] p
  have ok1 := h.fl.same.ok ok0
  have hj := h.le
  have hl := fd_len ok [] p
  have hf := bfsR_found (src := fdSrc x) (go := goR) ok1 (fd_place ok p)
  obtain ⟨_, h2, h3⟩ := h.fl.fin ok0 (fd_place ok p) (by omega) hf h.neg
  rw [h.eq, borderR_eq (place := 0) ok1 h2, List.length_map, h3]
theorem small_law {x : Net} {p : Fp} {opens : List ByteArray} (hcp : cpR x p = 0) (hiso : isoB x opens p = true) (hbrk : ∀ s ∈ opens, ∀ z ∈ x.sws, z.name = s → z.breaker = true) :
    ¬ NoCut x p ∧ ∀ es l j, LsOk x p es l j → l.length ≤ opens.length := by
  obtain ⟨S, hS, hc⟩ := small_cut hcp hiso hbrk
  refine ⟨fun ⟨_, es, hfl⟩ => ?_, fun es l j h => ?_⟩
  · have hb : ∀ e ∈ es, cross S e = true → e.brk = true := fun e he hx => by
      obtain ⟨k, hk⟩ := List.mem_iff_getElem?.1 he
      obtain ⟨e', g1, g2, g3, _, g5⟩ := hfl.same.at_ hk
      rw [g5]
      exact (hc e' (List.mem_of_getElem? g1) (by unfold cross at hx ⊢; rw [← g2, ← g3]; exact hx)).1
    have h1 := hfl.le hS hb
    have h2 := List.length_filter_le (cross S) es
    have h3 := hfl.same.1
    omega
  · rw [ls_len hcp h]
    exact h.fl.small (fd_one (netCk_nm (cp_net hcp)) [] p) hS hc
end Go.Proofs.Ythedpegaelpbdaa
