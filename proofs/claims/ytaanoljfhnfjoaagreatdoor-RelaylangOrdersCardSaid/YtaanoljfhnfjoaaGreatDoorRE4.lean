/- The law RelaylangParses, without the program. -/
import Derived.Test.YtaanoljfhnfjoaaGreatDoorRE3
namespace Go.Proofs.YtaanoljfhnfjoaaGreatDoor
set_option linter.unusedVariables false
set_option linter.unusedSimpArgs false

theorem ruleP_reads {N : Num} {s : Bs} {r : Rl} (h : ruleP N s = some r) : ∃ t : Tr, r.expr = t.flat ∧ (lineT N r.name t).length ≤ s.length := by
  unfold ruleP at h
  cases h1 : nameP s with
  | none => rw [h1] at h; cases h
  | some q =>
    rw [h1] at h
    simp only at h
    have k1 := (nameP_len h1).1
    cases h2 : takeP kEQ q.2 with
    | none => rw [h2] at h; cases h
    | some u =>
      rw [h2] at h
      simp only at h
      have k2 := takeP_len h2
      cases h3 : exprP N 9000 u with
      | none => rw [h3] at h; cases h
      | some v =>
        rw [h3] at h
        simp only at h
        obtain ⟨t, t1, t2⟩ := expr_reads N 9000 _ _ h3
        simp only at t2
        split at h
        · simp only [Option.some.injEq] at h
          rw [← h]
          refine ⟨t, t1, ?_⟩
          unfold lineT
          simp only [List.length_append]
          omega
        · cases h
def sumL : List ByteArray → Nat
  | [] => 0
  | s :: t => (bbs s).length + 1 + sumL t
theorem sumL_flat : ∀ l : List ByteArray, sumL l = ((l.map bbs).flatMap fun s => s ++ [10]).length
  | [] => rfl
  | s :: t => by simp only [sumL, List.map_cons, List.flatMap_cons, List.length_append, List.length_cons, List.length_nil, sumL_flat t]
theorem linesP_line (N : Num) : ∀ (l : List ByteArray) (k : Nat) (acc : List Rl), ((linesP N l k acc).err = 0 ∧ (linesP N l k acc).line = 0) ∨ ((linesP N l k acc).err ≠ 0 ∧ (linesP N l k acc).rules = [] ∧ 0 ≤ (linesP N l k acc).line)
  | [], k, acc => .inl ⟨rfl, rfl⟩
  | s :: t, k, acc => by
    simp only [linesP]
    cases h1 : ruleP N (bbs s) with
    | none => exact .inr ⟨by simp, rfl, by simp only; omega⟩
    | some r =>
      simp only
      split
      · exact .inr ⟨by simp, rfl, by simp only; omega⟩
      · exact linesP_line N t (k + 1) _
theorem linesP_reads (N : Num) : ∀ (l : List ByteArray) (k : Nat) (acc : List Rl), (linesP N l k acc).err = 0 → ∃ q ts, linesP N l k acc = ⟨acc ++ q, 0, 0⟩ ∧ Trees q ts ∧ (textT N q ts).length ≤ sumL l
  | [], k, acc, _ => ⟨[], [], by simp [linesP], trivial, by simp [textT, linesT]⟩
  | s :: t, k, acc, h => by
    simp only [linesP] at h ⊢
    cases h1 : ruleP N (bbs s) with
    | none => rw [h1] at h; simp at h
    | some r =>
      rw [h1] at h
      simp only at h ⊢
      by_cases h2 : 64 < r.expr.length
      · rw [if_pos h2] at h; simp at h
      · rw [if_neg h2] at h ⊢
        obtain ⟨q, ts, e, h3, h4⟩ := linesP_reads N t (k + 1) (acc ++ [r]) h
        obtain ⟨u, u1, u2⟩ := ruleP_reads h1
        refine ⟨r :: q, u :: ts, by rw [e, List.append_assoc]; rfl, ⟨u1, h3⟩, ?_⟩
        have e2 : textT N (r :: q) (u :: ts) = (lineT N r.name u ++ [10]) ++ textT N q ts := rfl
        rw [e2]
        simp only [List.length_append, List.length_cons, List.length_nil, sumL]
        omega
theorem lines_sum {s : ByteArray} (h : endsNl (bbs s) = true) : sumL (linesOf s) = s.size := by
  obtain ⟨k1, k2, _⟩ := spl_spec 10 (bsB (trimNl (bbs s)))
  rw [sumL_flat]
  show (((spl 10 (bsB (trimNl (bbs s)))).map bl).flatMap fun s => s ++ [10]).length = _
  rw [flat_jn 10 _ (by simpa using k1), k2]
  show (trimNl (bbs s) ++ [10]).length = _
  unfold trimNl
  rw [if_pos h]
  unfold endsNl at h
  rw [decide_eq_true_eq] at h
  have hne : bbs s ≠ [] := fun e => by rw [e] at h; simp at h
  have hl : s.size = (bbs s).length := rfl
  have := List.length_pos_iff.2 hne
  rw [List.length_append, List.length_dropLast, hl]
  simp only [List.length_cons, List.length_nil]
  omega
/-- the law RelaylangParses -/
theorem parses_law (N : Num) (s : ByteArray) : ((parseT N s).err ≠ 0 ∧ (parseT N s).rules = [] ∧ 0 ≤ (parseT N s).line) ∨ ((parseT N s).err = 0 ∧ (parseT N s).line = 0 ∧ ckR (parseT N s).rules = 0 ∧ ∃ ts, Trees (parseT N s).rules ts ∧ (textT N (parseT N s).rules ts).length ≤ s.size ∧ s.size ≤ 8192) := by
  unfold parseT
  by_cases h1 : 8192 < s.size
  · rw [if_pos h1]; exact .inl ⟨by simp, rfl, by simp⟩
  rw [if_neg h1]
  by_cases h2 : s.size = 0
  · rw [if_pos h2]; exact .inr ⟨rfl, rfl, by decide, [], trivial, by simp [textT, linesT], by omega⟩
  rw [if_neg h2]
  by_cases h3 : endsNl (bbs s) = false
  · rw [if_pos h3]; exact .inl ⟨by simp, rfl, by simp⟩
  rw [if_neg h3]
  by_cases h4 : 16 < (linesOf s).length
  · rw [if_pos h4]; exact .inl ⟨by simp, rfl, by simp⟩
  rw [if_neg h4]
  rcases linesP_line N (linesOf s) 0 [] with ⟨e1, e2⟩ | ⟨e1, e2, e3⟩
  · rw [if_neg (by simpa using e1)]
    obtain ⟨q, ts, e, t1, t2⟩ := linesP_reads N (linesOf s) 0 [] e1
    rw [lines_sum (by simpa using h3)] at t2
    rw [e]
    simp only [List.nil_append]
    by_cases h5 : ckR q = 0
    · rw [if_neg (by simpa using h5)]
      exact .inr ⟨rfl, rfl, h5, ts, t1, t2, by omega⟩
    · rw [if_pos h5]
      exact .inl ⟨h5, rfl, by simp⟩
  · rw [if_pos e1]; exact .inl ⟨e1, e2, e3⟩
end Go.Proofs.YtaanoljfhnfjoaaGreatDoor
