/- A slice that came in, opened to its cells; a struct that came in, opened to its fields. -/
import Derived.Test.YtaanoljfhnfjoaaGreatDoorR0
import Derived.Test.YtaanoljfhnfjoaaGreatDoorB0
import Derived.Deep.Slices
import Derived.Deep.Fields
namespace Go.Proofs.YtaanoljfhnfjoaaGreatDoor
open Go.ChangeShapes Go.WideShapes Go.ChangeAt Go.RowKit Go.Joins Go.Deep
set_option linter.unusedVariables false

theorem flat_len {α β : Type} {el : α → List β} {sz : Nat} (hlen : ∀ a, (el a).length = sz) (xs : List α) : (xs.flatMap el).length = xs.length * sz := by
  induction xs with
  | nil => simp
  | cons x r ih => simp [ih, hlen, Nat.succ_mul, Nat.add_comm]
theorem flat_at {α β : Type} {el : α → List β} {sz : Nat} (hlen : ∀ a, (el a).length = sz) : ∀ (xs : List α) (i : Nat) (x : α), xs[i]? = some x → ∀ k, k < sz → (xs.flatMap el)[i * sz + k]? = (el x)[k]?
  | [], i, x, h, k, hk => by simp at h
  | y :: r, 0, x, h, k, hk => by
    simp at h; subst h
    rw [List.flatMap_cons, List.getElem?_append_left (by rw [hlen]; omega)]
    simp
  | y :: r, i + 1, x, h, k, hk => by
    rw [List.flatMap_cons, List.getElem?_append_right (by rw [hlen, Nat.succ_mul]; omega), hlen]
    rw [show (i + 1) * sz + k - sz = i * sz + k from by rw [Nat.succ_mul]; omega]
    exact flat_at hlen r i x (by simpa using h) k hk

theorem cell_lt {w : World} {a : Addr} {v : Value} (h : w.cell? a = some v) : a.block < w.heap.size ∧ a.spot = none := by
  unfold World.cell? at h
  cases hb : w.heap[a.block]? with
  | none => rw [hb] at h; cases h
  | some o =>
    rw [hb] at h
    refine ⟨(Array.getElem?_eq_some_iff.1 hb).1, ?_⟩
    cases o with
    | cells c t f =>
      simp only at h
      split at h
      · cases h
      · rename_i hs; simpa using hs
    | _ => cases h

theorem choose_list {α : Type} (n : Nat) {Q : Nat → α → Prop} (h : ∀ i, i < n → ∃ a, Q i a) : ∃ xs : List α, xs.length = n ∧ ∀ (i : Nat) (a : α), xs[i]? = some a → Q i a := by
  induction n with
  | zero => exact ⟨[], rfl, by simp⟩
  | succ n ih =>
    obtain ⟨xs, hl, hx⟩ := ih fun i hi => h i (by omega)
    obtain ⟨a, ha⟩ := h n (by omega)
    refine ⟨xs ++ [a], by simp [hl], fun i b hb => ?_⟩
    by_cases hi : i < n
    · rw [List.getElem?_append_left (by omega)] at hb; exact hx i b hb
    · rw [List.getElem?_append_right (by omega)] at hb
      have hin : i = n := by
        have := (List.getElem?_eq_some_iff.1 hb).1; simp at this; omega
      subst hin
      simp [hl] at hb
      subst hb
      exact ha

section
variable {H : Type} {enc : TypeId × Value → H} {P : Program} {w : World} {spare : Nat → Bool} {held : Bool}
theorem open_list {α : Type} (el : α → List Value) (sz : Nat) (Q : α → Prop) {t e : TypeId} {fuel : Nat} {cs : List Value} {x : DataW H × List MemPlace} (ht : P.underlying t = some (.slice e)) (hC : P.cellsOf e = sz) (hpos : 0 < sz)
    (hlen : ∀ a, (el a).length = sz) (hel : ∀ (fu : Nat) (cs' : List Value) (y : DataW H × List MemPlace), DataW.trod enc P w 0 spare held fu e cs' = some y → ∃ a, cs' = el a ∧ Q a)
    (h : DataW.trod enc P w 0 spare held fuel t cs = some x) :
    ∃ (A : Option Addr) (n c : Nat) (xs : List α), cs = [.slice A n c] ∧ n ≤ c ∧ c ≤ maxLen ∧ xs.length = n ∧ (∀ a ∈ xs, Q a) ∧ Rd w w.heap.size sz A n (xs.flatMap el) := by
  rcases open_slice ht h with ⟨rfl, _⟩ | ⟨a, len, cap, m, fu, D, Pl, rfl, hb, hl, hm, hmm, _, hi⟩
  · exact ⟨none, 0, 0, [], rfl, Nat.le_refl _, by simp [maxLen], rfl, by simp, by simp, fun h => by omega⟩
  · have hlm : len ≤ m := by rw [hmm]; split <;> omega
    have key : ∀ i, i < len → ∃ y : α, w.cells? 0 (a.add (i * sz)) sz = some (el y) ∧ Q y := by
      intro i hin
      obtain ⟨cs', hc, ht'⟩ := hi i (by omega)
      obtain ⟨y, rfl, hq⟩ := hel _ _ _ ht'
      exact ⟨y, by rw [hC] at hc; exact hc, hq⟩
    obtain ⟨xs, hxl, hx⟩ := choose_list len key
    refine ⟨some a, len, cap, xs, rfl, hl, hm, hxl, fun y hy => ?_, by rw [flat_len hlen, hxl], fun h0 => ?_⟩
    · obtain ⟨i, hi⟩ := List.getElem?_of_mem hy
      exact (hx i y hi).2
    · obtain ⟨y0, hy0⟩ : ∃ y, xs[0]? = some y := ⟨_, List.getElem?_eq_getElem (by omega)⟩
      obtain ⟨_, _, hat0⟩ := World.cells?_some (hx 0 y0 hy0).1
      have hc0 := hat0 0 hpos
      have hv0 : (el y0)[0]? = some ((el y0)[0]'(by rw [hlen]; omega)) := List.getElem?_eq_getElem (by rw [hlen]; omega)
      rw [hv0] at hc0
      obtain ⟨hlt, hsp⟩ := cell_lt hc0
      have hs : a.spot = none := by simpa [Addr.add] using hsp
      have hadd : ∀ j, (a.add j) = ⟨a.block, a.off + j, none⟩ := by
        intro j
        unfold Addr.add
        split
        · rename_i hj; subst hj; cases a; simp at hs; subst hs; rfl
        · rfl
      refine ⟨a.block, a.off, by cases a; simp at hs; subst hs; rfl, by simpa [Addr.add] using hlt, fun j u hu => ?_⟩
      have hjl : j < len * sz := by have := (List.getElem?_eq_some_iff.1 hu).1; rw [flat_len hlen, hxl] at this; exact this
      have hq : j / sz < len := Nat.div_lt_of_lt_mul (by rw [Nat.mul_comm]; exact hjl)
      obtain ⟨y, hy⟩ : ∃ y, xs[j / sz]? = some y := ⟨_, List.getElem?_eq_getElem (by omega)⟩
      have hm' : j % sz < sz := Nat.mod_lt _ hpos
      have hdm : j / sz * sz + j % sz = j := by have := Nat.div_add_mod j sz; rw [Nat.mul_comm] at this; exact this
      have h1 := flat_at hlen xs _ y hy _ hm'
      rw [hdm, hu] at h1
      obtain ⟨_, _, hat⟩ := World.cells?_some (hx _ y hy).1
      have h2 := hat _ hm'
      rw [Go.Deep.add_add, hdm] at h2
      rw [← hadd, h2, ← h1]

/-- a field of a struct that came in, one cell wide -/
theorem open_flat {t : TypeId} {fs : Array Field} {fuel : Nat} {cs : List Value} {x : DataW H × List MemPlace} (ht : P.underlying t = some (.struct fs)) (hone : oneCellFields P fs = true) (hC : P.cellsOf t = fs.size)
    (h : DataW.trod enc P w 0 spare held fuel t cs = some x) : cs.length = fs.size ∧ ∀ (j : Nat) (f : Field), fs[j]? = some f → ∃ (v : Value) (n : Nat) (y : DataW H × List MemPlace), cs[j]? = some v ∧ DataW.trod enc P w 0 spare held n f.type [v] = some y := by
  obtain ⟨ys, n', hn', hy, hlen, hyl, hf⟩ := DataW.trod_struct ht h
  rw [hC] at hlen
  refine ⟨hlen, fun j f hj => ?_⟩
  obtain ⟨ho, hk⟩ := hone_of hone j f hj
  have hjl : j < fs.size := (Array.getElem?_eq_some_iff.1 hj).1
  have h1 := hf j f hj
  rw [ho, hk] at h1
  have hone' : (cs.drop j).take 1 = [cs[j]'(by omega)] := by
    rw [List.drop_eq_getElem_cons (by omega)]
    rfl
  rw [hone'] at h1
  exact ⟨_, n', _, List.getElem?_eq_getElem (by omega), h1.trans (List.getElem?_eq_getElem (by omega))⟩
theorem open_int1 {t : TypeId} {k : IntKind} {fuel : Nat} {cs : List Value} {x : DataW H × List MemPlace} (ht : P.underlying t = some (.int k)) (h : DataW.trod enc P w 0 spare held fuel t cs = some x) : ∃ n : Int, cs = [.int k n] ∧ (Lit.int k n).wf = true := by
  obtain ⟨n, h1, _, h2⟩ := DataW.trod_int ht h; exact ⟨n, h1, h2⟩
theorem open_str1 {t : TypeId} {fuel : Nat} {cs : List Value} {x : DataW H × List MemPlace} (ht : P.underlying t = some .string) (h : DataW.trod enc P w 0 spare held fuel t cs = some x) : ∃ s : ByteArray, cs = [.string s] ∧ s.size ≤ maxLen := by
  obtain ⟨n, h1, _, h2⟩ := DataW.trod_string ht h; exact ⟨n, h1, h2⟩
end
end Go.Proofs.YtaanoljfhnfjoaaGreatDoor
