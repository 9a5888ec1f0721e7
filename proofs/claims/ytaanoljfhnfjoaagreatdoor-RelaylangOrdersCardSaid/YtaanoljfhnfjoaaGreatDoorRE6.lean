/- Sorted and without repetitions: strictly ascending. The law RelaylangInputs, without the program. -/
import Derived.Test.YtaanoljfhnfjoaaGreatDoorDD
namespace Go.Proofs.YtaanoljfhnfjoaaGreatDoor
set_option linter.unusedVariables false
set_option linter.unusedSimpArgs false

theorem le_cases {x y : List UInt8} (h : x ≤ y) (hn : x ≠ y) : x < y := by
  rcases Classical.em (x < y) with h1 | h1
  · exact h1
  · exact absurd (List.le_antisymm h (List.not_lt.1 h1)) hn
theorem compact_asc (d : Array (List UInt8)) (hs : ∀ i j, i ≤ j → j < d.size → d[i]! ≤ d[j]!) : ∀ m, m ≤ d.size → (Lib.compactUpTo d m).Pairwise (· < ·) ∧ (∀ x ∈ Lib.compactUpTo d m, ∃ j, j < m ∧ d[j]! = x) := by
  intro m
  induction m with
  | zero => intro _; simp [Lib.compactUpTo]
  | succ m ih =>
    intro hm
    obtain ⟨h1, h2⟩ := ih (by omega)
    rw [Lib.compactUpTo_succ]
    by_cases hk : Lib.keeps d m = true
    · rw [if_pos hk]
      refine ⟨List.pairwise_append.2 ⟨h1, by simp, fun x hx y hy => ?_⟩, fun x hx => ?_⟩
      · rw [List.mem_singleton.1 hy]
        obtain ⟨j, hj, rfl⟩ := h2 x hx
        have hne : d[m - 1]! ≠ d[m]! := fun e => by
          have := Lib.keeps_neg (d := d) (m := m) (by omega) e.symm
          rw [this] at hk
          cases hk
        have k1 := hs j (m - 1) (by omega) (by omega)
        have k2 := le_cases (hs (m - 1) m (by omega) (by omega)) hne
        exact List.lt_of_le_of_lt k1 k2
      · rcases List.mem_append.1 hx with hx | hx
        · obtain ⟨j, hj, e⟩ := h2 x hx
          exact ⟨j, by omega, e⟩
        · exact ⟨m, by omega, (List.mem_singleton.1 hx).symm⟩
    · rw [if_neg hk, List.append_nil]
      exact ⟨h1, fun x hx => by obtain ⟨j, hj, e⟩ := h2 x hx; exact ⟨j, by omega, e⟩⟩
theorem srt_asc (l : List ByteArray) : ((cmpS (srtS l)).map bys).Pairwise (· < ·) := by
  have e1 : (srtS l).map bys = (l.map bys).mergeSort fun x y => decide (x ≤ y) := by
    unfold srtS
    rw [List.map_map]
    show List.map (fun x => x) _ = _
    rw [List.map_id']
  have hp : ((l.map bys).mergeSort fun x y => decide (x ≤ y)).Pairwise (fun x y => decide (x ≤ y) = true) :=
    List.pairwise_mergeSort (fun a b c h1 h2 => by rw [decide_eq_true_eq] at *; exact List.le_trans h1 h2) (fun a b => by
      rw [Bool.or_eq_true, decide_eq_true_eq, decide_eq_true_eq]; exact List.le_total a b) _
  generalize hq : (l.map bys).mergeSort (fun x y => decide (x ≤ y)) = q at *
  have e2 : (cmpS (srtS l)).map bys = Lib.compact q := by
    unfold cmpS
    rw [e1, List.map_map]
    show List.map (fun x => x) _ = _
    rw [List.map_id']
  rw [e2]
  unfold Lib.compact
  refine (compact_asc q.toArray (fun i j hij hj => ?_) q.length (by simp)).1
  have hjl : j < q.length := by simpa using hj
  rw [getElem!_pos q.toArray i (by simp; omega), getElem!_pos q.toArray j (by simpa using hj)]
  simp only [List.getElem_toArray]
  rcases Nat.lt_or_ge i j with h | h
  · exact of_decide_eq_true (List.pairwise_iff_getElem.1 hp i j (by omega) hjl h)
  · have : i = j := by omega
    subst this
    exact List.le_refl _
theorem namesF_ok {p : List Rl} (h : ckR p = 0) : ∀ s ∈ namesF p, rnameB s = true := fun s hs => by
  unfold namesF at hs
  obtain ⟨r, hr, hs⟩ := List.mem_flatMap.1 hs
  obtain ⟨x, hx, rfl⟩ := List.mem_map.1 hs
  obtain ⟨hx, hd⟩ := List.mem_filter.1 hx
  rw [decide_eq_true_eq] at hd
  obtain ⟨i, hi⟩ := List.mem_iff_getElem?.1 hr
  have hk := ((ckR_ok h).rule i r hi).nodes x hx
  unfold nodeCk at hk
  rw [if_neg (by omega)] at hk
  by_cases h1 : x.op ≤ 2 ∧ rnameB x.name = false ∨ 2 < x.op ∧ 0 < x.name.size
  · rw [if_pos h1] at hk; omega
  · cases hh : rnameB x.name with
    | true => rfl
    | false => exact absurd (.inl ⟨by omega, hh⟩) h1
theorem namesV_ok {p : List Rl} (h : ckR p = 0) : ∀ s ∈ namesV p, rnameB s = true ∧ ∀ r ∈ p, r.name ≠ s := fun s hs => by
  have hcl := (ckR_ok h).clash
  rw [List.any_eq_false] at hcl
  have hc := hcl s hs
  unfold namesV at hs
  obtain ⟨r, hr, hs⟩ := List.mem_flatMap.1 hs
  obtain ⟨x, hx, rfl⟩ := List.mem_map.1 hs
  obtain ⟨hx, hd⟩ := List.mem_filter.1 hx
  rw [decide_eq_true_eq] at hd
  refine ⟨?_, fun r' hr' => ?_⟩
  · obtain ⟨i, hi⟩ := List.mem_iff_getElem?.1 hr
    have hk := ((ckR_ok h).rule i r hi).nodes x hx
    unfold nodeCk at hk
    rw [if_neg (by omega)] at hk
    by_cases h1 : x.op ≤ 2 ∧ rnameB x.name = false ∨ 2 < x.op ∧ 0 < x.name.size
    · rw [if_pos h1] at hk; omega
    · cases hh : rnameB x.name with
      | true => rfl
      | false => exact absurd (.inl ⟨by omega, hh⟩) h1
  · unfold clashB at hc
    rw [Bool.or_eq_true, decide_eq_true_eq] at hc
    rcases ruleR_bd p x.name with ⟨_, h2⟩ | ⟨i, y, h1, _⟩
    · exact h2 r' hr'
    · exact absurd (.inr (by omega)) hc
/-- the two lists of relaylang.Inputs -/
def inF (p : List Rl) : List ByteArray := (cmpS (srtS (namesF p))).filter fun s => !decide (0 ≤ ruleR p s)
def inV (p : List Rl) : List ByteArray := cmpS (srtS (namesV p))
def Asc (l : List ByteArray) : Prop := (l.map bys).Pairwise (· < ·)
theorem inputs_law {p : List Rl} (h : ckR p = 0) : (Asc (inF p) ∧ Asc (inV p)) ∧ (∀ s ∈ inF p, rnameB s = true ∧ ∀ r ∈ p, r.name ≠ s) ∧ ∀ s ∈ inV p, rnameB s = true ∧ ∀ r ∈ p, r.name ≠ s := by
  refine ⟨⟨?_, srt_asc _⟩, fun s hs => ?_, fun s hs => namesV_ok h s (mem_srtS.1 (mem_cmpS.1 hs))⟩
  · unfold Asc inF
    exact List.Pairwise.sublist ((List.filter_sublist (l := cmpS (srtS (namesF p)))).map bys) (srt_asc _)
  · unfold inF at hs
    obtain ⟨h1, h2⟩ := List.mem_filter.1 hs
    refine ⟨namesF_ok h s (mem_srtS.1 (mem_cmpS.1 h1)), fun r hr => ?_⟩
    rcases ruleR_bd p s with ⟨_, h3⟩ | ⟨i, y, h3, _⟩
    · exact h3 r hr
    · rw [decide_eq_true (by omega)] at h2
      cases h2
end Go.Proofs.YtaanoljfhnfjoaaGreatDoor
