/- A map from places to what is kept there. -/
import Derived.Test.YtodnjjlhklbniaaDK
namespace Go.Proofs.Ytodnjjlhklbniaa
open Go.ChangeShapes Go.WideShapes Go.ChangeAt Go.RowKit
set_option linter.unusedVariables false
set_option linter.unusedSimpArgs false
attribute [local go_sem ↓] execOp_call_val
attribute [local go_sem] callVal_func setCell_drewN alloc_drewN sEq_walk


open Go.Maps Go.ChangeMaps
theorem nodup_sub_len {α : Type} [DecidableEq α] : ∀ {l m : List α}, l.Nodup → (∀ x ∈ l, x ∈ m) → l.length ≤ m.length
  | [], m, _, _ => by simp
  | x :: l, m, h, hs => by
    rw [List.nodup_cons] at h
    have hx := hs x (by simp)
    have h1 := nodup_sub_len (l := l) (m := m.erase x) h.2 fun y hy => by
      have hne : y ≠ x := fun e => h.1 (e ▸ hy)
      exact (List.mem_erase_of_ne hne).2 (hs y (List.mem_cons_of_mem _ hy))
    rw [List.length_erase_of_mem hx] at h1
    have := List.length_pos_of_mem hx
    simp only [List.length_cons]; omega
def keysL : List (Nat × Nat) := (List.range 17).flatMap fun r => (List.range 65).map fun a => (r, a)
theorem keysL_len : keysL.length = 1105 := by decide +kernel
theorem mem_keysL {r a : Nat} : (r, a) ∈ keysL ↔ r ≤ 16 ∧ a ≤ 64 := by
  unfold keysL
  simp only [List.mem_flatMap, List.mem_range, List.mem_map]
  constructor
  · rintro ⟨r', h1, a', h2, h3⟩
    injection h3 with h3 h4
    omega
  · rintro ⟨h1, h2⟩
    exact ⟨r, by omega, a, by omega, rfl⟩
theorem plL_inj {r a r' a' : Nat} (h1 : r ≤ 1000) (h2 : a ≤ 1000) (h1' : r' ≤ 1000) (h2' : a' ≤ 1000) (h : plL r a = plL r' a') : r = r' ∧ a = a' := by
  have := law_place.inj (pl_key h1 h2) (by rw [h]; exact pl_key h1' h2')
  unfold plK at this
  injection this with this
  have h3 := congrArg Array.toList this
  simp at h3
  omega
theorem plL_lit (r a : Nat) : WideAt.IsKeyLit (plL r a) := by unfold plL; exact trivial
theorem own_len {w : World} {b n : Nat} {es : List (Lit × DataW Unit)} (h : w.ownsMap Try.prog 66 memR b n (.map es)) : w.ownsMap Try.prog 66 memR b es.length (.map es) := by
  obtain ⟨es', c, q1, q2, q3, q4⟩ := h
  refine ⟨es', c, q1, q2, ?_, q4⟩
  injection q4 with q4
  rw [q4, length_sorted, List.length_map, Array.length_toList]; exact Nat.le_refl _
theorem keys_few {es : List (Lit × DataW Unit)} (h1 : es.Pairwise fun p q => p.1 ≠ q.1) (h2 : ∀ p ∈ es, ∃ q ∈ keysL, p.1 = plL q.1 q.2) : es.length ≤ 1105 := by
  have := @nodup_sub_len Lit (fun a b => Classical.propDecidable (a = b)) (es.map Prod.fst) (keysL.map fun q => plL q.1 q.2) (by unfold List.Nodup; rw [List.pairwise_map]; exact h1) (fun x hx => by
    obtain ⟨p, hp, rfl⟩ := List.mem_map.1 hx
    obtain ⟨q, hq, he⟩ := h2 p hp
    exact List.mem_map.2 ⟨q, hq, he.symm⟩)
  rw [List.length_map, List.length_map, keysL_len] at this
  exact this
/-- a map from places to what is kept there -/
def KeptI (w : World) (b : Nat) (k : Nat → Nat → Bool × Int) : Prop :=
  ∃ es : List (Lit × DataW Unit), w.ownsMap Try.prog 66 memR b es.length (.map es) ∧ (es.Pairwise fun p q => p.1 ≠ q.1) ∧ (∀ p ∈ es, ∃ q ∈ keysL, p.1 = plL q.1 q.2) ∧ ∀ r a, r ≤ 16 → a ≤ 64 → (DataW.map es).atKey (plL r a) (memD (false, 0)) = memD (k r a)
theorem KeptI.lt {w : World} {b : Nat} {k : Nat → Nat → Bool × Int} (h : KeptI w b k) : b < w.heap.size := by obtain ⟨_, h1, _⟩ := h; exact h1.lt
theorem KeptI.isMap {w : World} {b : Nat} {k : Nat → Nat → Bool × Int} (h : KeptI w b k) : ∃ es c, w.heap[b]? = some (.map es c) := by obtain ⟨_, ⟨es, c, h1, _⟩, _⟩ := h; exact ⟨es, c, h1⟩
theorem KeptI.at_ {w w' : World} {b : Nat} {k : Nat → Nat → Bool × Int} (h : KeptI w b k) (hb : w'.heap[b]? = w.heap[b]?) : KeptI w' b k := by
  obtain ⟨es, ⟨es', c, h1, h2⟩, h3⟩ := h
  exact ⟨es, ⟨es', c, hb.trans h1, h2⟩, h3⟩
theorem KeptI.made (w : World) : KeptI (w.alloc (.map #[] 0)) w.heap.size (fun _ _ => (false, 0)) :=
  ⟨[], World.ownsMap_made _ _ _ _, by simp, by simp, fun r a _ _ => rfl⟩
theorem zero_mem_ (w : World) : (zeroValue 68).run Try.prog w = .ok (memV (false, 0)) w := by kernel_rfl
theorem KeptI.look {w : World} {b : Nat} {k : Nat → Nat → Bool × Int} (h : KeptI w b k) {r a : Nat} (hr : r ≤ 16) (ha : a ≤ 64) : (Instr.lookup 55 (.map (some b)) (plK r a) false).run Try.prog w = .ok (memV (k r a)) w := by
  obtain ⟨es, h1, _, _, h7⟩ := h
  obtain ⟨v, qs, hrun, hv⟩ := h1.lookup law_place Try.underlying55 (zero_mem_ w) (memR_mk (false, 0)) (pl_key (r := r) (a := a) (by omega) (by omega))
  rw [h7 r a hr ha] at hv
  rw [hrun, memR_inv hv]
/-- a store -/
theorem KeptI.put {w : World} {b : Nat} {k : Nat → Nat → Bool × Int} (h : KeptI w b k) {r a : Nat} (hr : r ≤ 16) (ha : a ≤ 64) (m : Bool × Int) :
    ∃ w', (Instr.mapUpdate 55 (.map (some b)) (plK r a) (memV m)).run Try.prog w = .ok () w' ∧ KeptI w' b (updK k r a m) ∧ w.grownBy w' (some b) := by
  obtain ⟨es, h1, h2, h3, h7⟩ := h
  have hlen := keys_few h2 h3
  obtain ⟨w', hrun, hown, hg⟩ := h1.update law_place Try.underlying55 (by simp only [maxLen]; omega) (pl_key (r := r) (a := a) (by omega) (by omega)) (memR_mk m)
  have ht := Tidy.put (D := .map es) ⟨es, rfl, h2⟩ (plL_lit r a) (memD m)
  rw [DataW.put_eq] at hown ht
  refine ⟨w', hrun, ⟨putKey (plL r a) (memD m) es, own_len hown, ?_, fun p hp => ?_, fun r' a' hr' ha' => ?_⟩, hg⟩
  · obtain ⟨es2, h8, h9⟩ := ht
    injection h8 with h8
    rw [h8]; exact h9
  · unfold putKey at hp
    rcases mem_insert_iff.1 hp with rfl | hp
    · exact ⟨(r, a), mem_keysL.2 ⟨hr, ha⟩, rfl⟩
    · exact h3 p (List.mem_filter.1 hp).1
  · rw [← DataW.put_eq]
    by_cases he : r' = r ∧ a' = a
    · obtain ⟨rfl, rfl⟩ := he
      rw [atKey_put_same ⟨es, rfl⟩ (plL_lit _ _), updK_same]
    · rw [atKey_put_other (fun e => he (plL_inj (by omega) (by omega) (by omega) (by omega) e)), h7 r' a' hr' ha']
      unfold updK
      rw [if_neg he]
end Go.Proofs.Ytodnjjlhklbniaa
