import Derived.Test.YtakllkkmofdpaaaGreatDoorU40
import Derived.Test.YtakllkkmofdpaaaGreatDoorU44
import Derived.Test.YtakllkkmofdpaaaGreatDoorU53
set_option linter.unusedVariables false
set_option linter.unusedSimpArgs false
namespace Go.Proofs.YtakllkkmofdpaaaGreatDoor
section
namespace Ech
variable {M : List Fn} {piv : List Nat} {n : Nat}
end Ech
theorem rank_full {n : Nat} {M : List Fn} {piv : List Nat} (E : Ech M piv n) : piv.length = n ↔ ∀ x, Ker n M x → ∀ j, j < n → x j = 0 := by
 have hl := E.free_len
 constructor
 ·intro h x hx
  refine E.ker_zero hx fun j hj hjp => ?_
  have : j ∈ Ech.free piv n := Ech.mem_free.2 ⟨hj, hjp⟩
  rw [List.eq_nil_of_length_eq_zero (by omega : (Ech.free piv n).length = 0)] at this
  cases this
 ·intro h
  refine Classical.byContradiction fun hne => ?_
  obtain ⟨c, hc⟩ : ∃ c, c ∈ Ech.free piv n := List.exists_mem_of_length_pos (by omega)
  obtain ⟨h1, h2⟩ := Ech.mem_free.1 hc
  have := h _ (E.bas_ker h1 h2) c h1
  rw [Ech.bas_free h2, if_pos rfl] at this
  exact absurd this (by decide)
end
section
open Go
theorem pstep_len (u : Nat) (m : Int) (s : List Int × List Nat) (x : Nat × Nat) : (pstep u m s x).1.length = s.1.length := by
 unfold pstep; split <;> simp
end
section
theorem rk_full {n : Nat} {M : List (List Rat)} (h : Wid n M) : rankR M = n ↔ ∀ x, Ker n (vfs M) x → ∀ j, j < n → x j = 0 := by
 obtain ⟨E, piv, h1, h2, h3, _⟩ := rk_ech h
 rw [← h2, rank_full h1]
 exact ⟨fun g x hx => g x ((h3 x).2 hx), fun g x hx => g x ((h3 x).1 hx)⟩
end
section
theorem cnt_congr {p q : Nat → Bool} : ∀ {n : Nat}, (∀ b, b < n → p b = q b) → cnt p n = cnt q n
 | 0, _ => rfl
 | n + 1, h => by rw [cnt_succ, cnt_succ, cnt_congr fun b hb => h b (by omega), h n (by omega)]
theorem cnt_le {p q : Nat → Bool} : ∀ {n : Nat}, (∀ b, b < n → p b = true → q b = true) → cnt p n ≤ cnt q n
 | 0, _ => Nat.le_refl _
 | n + 1, h => by
  have h1 := cnt_le (n := n) fun b hb => h b (by omega)
  have h2 := h n (by omega)
  rw [cnt_succ, cnt_succ]
  cases hp : p n <;> cases hq : q n <;> simp_all <;> omega
theorem cnt_eq {p q : Nat → Bool} : ∀ {n : Nat}, (∀ b, b < n → p b = true → q b = true) → cnt p n = cnt q n → ∀ b, b < n → p b = q b
 | 0, _, _, b, hb => by omega
 | n + 1, h, he, b, hb => by
  have h1 := cnt_le (n := n) fun b hb => h b (by omega)
  have h2 := h n (by omega)
  rw [cnt_succ, cnt_succ] at he
  have h3 : p n = q n := by
   cases hp : p n <;> cases hq : q n <;> simp_all <;> omega
  by_cases hbn : b = n
  ·subst hbn; exact h3
  ·rw [h3] at he
   exact cnt_eq (n := n) (fun b hb => h b (by omega)) (by omega) b (by omega)
theorem arR_lt (S : Nat → Nat → Bool) : ∀ n : Nat, ∀ v ∈ (arR S n).1, v < (arR S n).2
 | 0, v, h => by cases h
 | n + 1, v, h => by
  have ih := arR_lt S n
  have hl := arR_len S n
  rw [arR_succ] at h ⊢
  cases hf : (List.range n).find? (fun a => S a n) with
  | none =>
   rw [hf] at h
   rcases List.mem_append.1 h with h | h
   ·have := ih v h; simp only; omega
   ·rw [List.mem_singleton.1 h]; simp only; omega
  | some a =>
   rw [hf] at h
   have ha : a < n := by simpa using List.mem_of_find?_eq_some hf
   rcases List.mem_append.1 h with h | h
   ·exact ih v h
   ·rw [List.mem_singleton.1 h]
    simp only
    refine ih _ ?_
    rw [List.getD_eq_getElem?_getD, List.getElem?_eq_getElem (by omega)]
    exact List.getElem_mem (by omega)
theorem arR_eq {S : Nat → Nat → Bool} {N : Nat} (hr : ∀ a, a < N → S a a = true) (hs : ∀ a b, a < N → b < N → S a b = true → S b a = true) (ht : ∀ a b c, a < N → b < N → c < N → S a b = true → S b c = true → S a c = true) : ∀ n : Nat, n ≤ N → ∀ a b, a < n → b < n → ((arR S n).1.getD a 0 = (arR S n).1.getD b 0 ↔ S a b = true)
 | 0, _, a, b, h, _ => by omega
 | n + 1, hn, a, b, ha, hb => by
  have ih := arR_eq hr hs ht n (by omega)
  have hl := arR_len S n
  have hlt := arR_lt S n
  have old : ∀ v k, k < n → ((arR S n).1 ++ [v]).getD k 0 = (arR S n).1.getD k 0 := fun v k hk => by
   rw [List.getD_eq_getElem?_getD, List.getElem?_append_left (by omega), List.getD_eq_getElem?_getD]
  have new : ∀ v, ((arR S n).1 ++ [v]).getD n 0 = v := fun v => by
   rw [List.getD_eq_getElem?_getD, List.getElem?_append_right (by omega), hl, Nat.sub_self]; rfl
  have small : ∀ k, k < n → (arR S n).1.getD k 0 < (arR S n).2 := fun k hk => by
   refine hlt _ ?_
   rw [List.getD_eq_getElem?_getD, List.getElem?_eq_getElem (by omega)]
   exact List.getElem_mem (by omega)
  have key : ∀ v, (arR S (n + 1)).1 = (arR S n).1 ++ [v] → (∀ k, k < n → ((arR S n).1.getD k 0 = v ↔ S k n = true)) → ((arR S (n + 1)).1.getD a 0 = (arR S (n + 1)).1.getD b 0 ↔ S a b = true) := fun v hv hk => by
   rw [hv]
   by_cases h1 : a = n <;> by_cases h2 : b = n
   ·rw [h1, h2]; simp [hr n (by omega)]
   ·subst h1
    rw [new, old _ b (by omega)]
    constructor
    ·intro h; exact hs _ _ (by omega) (by omega) ((hk b (by omega)).1 h.symm)
    ·intro h; exact ((hk b (by omega)).2 (hs _ _ (by omega) (by omega) h)).symm
   ·subst h2
    rw [new, old _ a (by omega)]
    exact hk a (by omega)
   ·rw [old _ a (by omega), old _ b (by omega)]
    exact ih a b (by omega) (by omega)
  cases hf : (List.range n).find? (fun a => S a n) with
  | none =>
   refine key (arR S n).2 (by rw [arR_succ, hf]) fun k hk => ?_
   have := small k hk
   have hnk : S k n = false := by
    have := List.find?_eq_none.1 hf k (List.mem_range.2 hk)
    simpa using this
   rw [hnk]
   exact ⟨fun e => by omega, fun e => by cases e⟩
  | some c =>
   have hc : c < n := by simpa using List.mem_of_find?_eq_some hf
   have hcs : S c n = true := by simpa using List.find?_some hf
   refine key ((arR S n).1.getD c 0) (by rw [arR_succ, hf]) fun k hk => ?_
   rw [ih k c hk hc]
   exact ⟨fun h => ht _ _ _ (by omega) (by omega) (by omega) h hcs, fun h => ht _ _ _ (by omega) (by omega) (by omega) h (hs _ _ (by omega) (by omega) hcs)⟩
def topN (l : List Nat) : Nat := l.foldl (fun a b => max a (b + 1)) 0
theorem topN_snoc (l : List Nat) (v : Nat) : topN (l ++ [v]) = max (topN l) (v + 1) := by unfold topN; rw [List.foldl_append]; rfl
theorem topN_lt : ∀ (l : List Nat) (a : Nat), a ≤ l.foldl (fun a b => max a (b + 1)) a ∧ (∀ v ∈ l, v < l.foldl (fun a b => max a (b + 1)) a) ∧ ∀ c, a ≤ c → (∀ v ∈ l, v < c) → l.foldl (fun a b => max a (b + 1)) a ≤ c
 | [], a => ⟨Nat.le_refl _, fun v h => (by cases h), fun c h _ => h⟩
 | x :: r, a => by
  obtain ⟨h1, h2, h3⟩ := topN_lt r (max a (x + 1))
  rw [List.foldl_cons]
  refine ⟨by omega, fun v hv => ?_, fun c hc hv => h3 c ?_ fun v hr => hv v (List.mem_cons_of_mem _ hr)⟩
  ·rcases List.mem_cons.1 hv with rfl | hv
   ·omega
   ·exact h2 v hv
  ·have := hv x (List.mem_cons_self ..)
   omega
theorem arR_top (S : Nat → Nat → Bool) : ∀ n : Nat, topN (arR S n).1 = (arR S n).2
 | 0 => rfl
 | n + 1 => by
  have ih := arR_top S n
  have hlt := arR_lt S n
  have hl := arR_len S n
  rw [arR_succ]
  cases hf : (List.range n).find? (fun a => S a n) with
  | none => simp only; rw [topN_snoc, ih]; omega
  | some c =>
   have hc : c < n := by simpa using List.mem_of_find?_eq_some hf
   simp only
   rw [topN_snoc, ih]
   have : (arR S n).1.getD c 0 < (arR S n).2 := by
    refine hlt _ ?_
    rw [List.getD_eq_getElem?_getD, List.getElem?_eq_getElem (by omega)]
    exact List.getElem_mem (by omega)
   omega
def Fo (l : List Nat) : Prop := ∀ b, b < l.length → ∀ v, v < l.getD b 0 → ∃ a, a < b ∧ l.getD a 0 = v
theorem fo_top {l : List Nat} (h : Fo l) : ∀ k, k ≤ l.length → topN (l.take k) = cnt (newS (sameIs l)) k
 | 0, _ => rfl
 | k + 1, hk => by
  have ih := fo_top h k (by omega)
  have hlt : ∀ a, a < k → l.getD a 0 < topN (l.take k) := fun a ha => by
   refine (topN_lt (l.take k) 0).2.1 _ ?_
   rw [List.getD_eq_getElem?_getD, List.getElem?_eq_getElem (by omega)]
   exact List.mem_iff_getElem?.2 ⟨a, by rw [List.getElem?_take_of_lt ha, List.getElem?_eq_getElem (by omega)]; rfl⟩
  have e : l.take (k + 1) = l.take k ++ [l.getD k 0] := by
   rw [List.take_add_one, List.getElem?_eq_getElem (by omega), List.getD_eq_getElem?_getD, List.getElem?_eq_getElem (by omega)]; rfl
  rw [e, topN_snoc, cnt_succ, ← ih]
  cases hn : newS (sameIs l) k with
  | true =>
   have hno : ∀ a, a < k → l.getD a 0 ≠ l.getD k 0 := by
    unfold newS sameIs at hn
    simpa using hn
   have hle : topN (l.take k) ≤ l.getD k 0 := by
    refine (topN_lt (l.take k) 0).2.2 _ (Nat.zero_le _) fun v hv => ?_
    obtain ⟨a, ha⟩ := List.mem_iff_getElem?.1 hv
    have hak : a < k := by have := (List.getElem?_eq_some_iff.1 ha).1; rw [List.length_take] at this; omega
    rw [List.getElem?_take_of_lt hak] at ha
    have hv2 : l.getD a 0 = v := by rw [List.getD_eq_getElem?_getD, ha]; rfl
    refine Nat.lt_of_not_le fun hge => ?_
    rcases Nat.lt_or_ge (l.getD k 0) v with hlt2 | hge2
    ·obtain ⟨c, hc, he⟩ := h a (by omega) (l.getD k 0) (by omega)
     exact hno c (by omega) he
    ·exact hno a hak (by omega)
   have hge : l.getD k 0 ≤ topN (l.take k) := by
    refine Nat.le_of_not_lt fun hgt => ?_
    obtain ⟨a, ha, he⟩ := h k (by omega) (topN (l.take k)) hgt
    have := hlt a ha
    omega
   simp only [if_pos]
   omega
  | false =>
   have : ∃ a, a < k ∧ l.getD a 0 = l.getD k 0 := by
    unfold newS sameIs at hn
    simpa using hn
   obtain ⟨a, ha, he⟩ := this
   have := hlt a ha
   simp only [Bool.false_eq_true, if_false]
   omega
def Eqs (l : List Nat) (M : List (List Rat)) (a b : Nat) : Prop := l.getD a 0 = l.getD b 0 ∧ ∀ x, Ker (cnt (freeB l) l.length) (vfs M) x → ext (freeB l) x a = ext (freeB l) x b
theorem areas_islands {l : List Nat} {M : List (List Rat)} {S : Nat → Nat → Bool} (hf : Fo l) (hw : Wid (cnt (freeB l) l.length) M) (hS : ∀ a b, a < l.length → b < l.length → a < b → (S a b = true ↔ Eqs l M a b)) :
    (cnt (newS S) l.length = cnt (newS (sameIs l)) l.length) ↔ rankR M = cnt (freeB l) l.length := by
 have hle : ∀ b, b < l.length → newS (sameIs l) b = true → newS S b = true := fun b hb h => by
  unfold newS sameIs at *
  simp at h ⊢
  intro a ha
  cases hs : S a b with
  | false => rfl
  | true => exact absurd ((hS a b (by omega) hb ha).1 hs).1 (h a ha)
 rw [rk_full hw]
 constructor
 ·intro he x hx j hj
  have hp := cnt_eq hle he.symm
  have hz : ∀ b, b < l.length → ext (freeB l) x b = 0 := fun b => by
   induction b using Nat.strongRecOn with
   | ind b ih =>
    intro hb
    cases hfb : freeB l b with
    | false => unfold ext; rw [hfb]; rfl
    | true =>
     have hnb : newS S b = false := by rw [← hp b hb]; unfold freeB at hfb; simpa using hfb
     have : ∃ a, a < b ∧ S a b = true := by
      unfold newS at hnb
      simpa using hnb
     obtain ⟨a, ha, hs⟩ := this
     rw [← ((hS a b (by omega) hb ha).1 hs).2 x hx]
     exact ih a ha (by omega)
  have : ∀ n, n ≤ l.length → ∀ j, j < cnt (freeB l) n → ∃ b, b < n ∧ freeB l b = true ∧ cnt (freeB l) b = j := fun n => by
   induction n with
   | zero => intro _ j hj; unfold cnt at hj; simp at hj
   | succ n ih =>
    intro hn j hj
    rw [cnt_succ] at hj
    by_cases hjn : j < cnt (freeB l) n
    ·obtain ⟨b, h1, h2⟩ := ih (by omega) j hjn
     exact ⟨b, by omega, h2⟩
    ·cases hb : freeB l n with
     | false => rw [hb] at hj; simp at hj; omega
     | true => rw [hb] at hj; simp at hj; exact ⟨n, by omega, hb, by omega⟩
  obtain ⟨b, hb, hfb, hc⟩ := this _ (Nat.le_refl _) j hj
  have := hz b hb
  unfold ext at this
  rw [hfb, hc] at this
  simpa using this
 ·intro hx
  refine cnt_congr fun b hb => ?_
  cases hn : newS (sameIs l) b with
  | true => exact hle b hb hn
  | false =>
   have : ∃ a, a < b ∧ l.getD a 0 = l.getD b 0 := by
    unfold newS sameIs at hn
    simpa using hn
   obtain ⟨a, ha, he⟩ := this
   have hs : S a b = true := (hS a b (by omega) hb ha).2 ⟨he, fun x hk => by
    have hz : ∀ c, c < l.length → ext (freeB l) x c = 0 := fun c hc => by
     unfold ext
     cases hfc : freeB l c with
     | false => rfl
     | true =>
      simp only [if_true]
      refine hx x hk _ ?_
      have h1 : cnt (freeB l) (c + 1) ≤ cnt (freeB l) l.length := by
       have mono : ∀ n m, n ≤ m → cnt (freeB l) n ≤ cnt (freeB l) m := fun n m h => by
        induction h with
        | refl => exact Nat.le_refl _
        | step h ih => rw [cnt_succ]; omega
       exact mono _ _ hc
      rw [cnt_succ, hfc] at h1
      simp at h1
      omega
    rw [hz a (by omega), hz b hb]⟩
   unfold newS
   simp
   exact ⟨a, ha, hs⟩
end
section
open Go
theorem setD {l : List Int} {i j : Nat} {m : Int} (hi : i < l.length) : (l.set i m).getD j 0 = if j = i then m else l.getD j 0 := by
 rw [List.getD_eq_getElem?_getD, List.getElem?_set]
 by_cases h : i = j
 ·subst h; rw [if_pos rfl, if_pos hi, if_pos rfl]; rfl
 ·rw [if_neg h, if_neg (fun e => h e.symm), List.getD_eq_getElem?_getD]
theorem ch_set {m : Int} {a : List Int} {i : Nat} (h : a.getD i 0 < 0) : Ch m a (a.set i m) := fun j => by
 have hi : i < a.length := by
  refine Nat.lt_of_not_le fun hn => ?_
  rw [List.getD_eq_getElem?_getD, List.getElem?_eq_none hn] at h
  simp at h
 rw [setD hi]
 by_cases hj : j = i
 ·subst hj; rw [if_pos rfl]; exact .inr ⟨h, rfl⟩
 ·rw [if_neg hj]; exact .inl rfl
theorem ch_step {u : Nat} {m : Int} (s : List Int × List Nat) (x : Nat × Nat) : Ch m s.1 (pstep u m s x).1 := by
 unfold pstep
 split
 ·rename_i h; exact ch_set h.2
 ·exact Ch.refl _ _
theorem ch_scan {u : Nat} {m : Int} (hm : 0 ≤ m) : ∀ (es : List (Nat × Nat)) (s : List Int × List Nat), Ch m s.1 (pscan u m es s).1
 | [], s => Ch.refl _ _
 | x :: r, s => (ch_step s x).trans hm (ch_scan hm r (pstep u m s x))
theorem ch_bfs {m : Int} (hm : 0 ≤ m) (es : List (Nat × Nat)) : ∀ (f : Nat) (out : List Int) (q : List Nat), Ch m out (pbfs m es f out q)
 | 0, out, q => Ch.refl _ _
 | f + 1, out, [] => Ch.refl _ _
 | f + 1, out, u :: q => (ch_scan hm es (out, q)).trans hm (ch_bfs hm es f _ _)
def Ends (x : Nat × Nat) (a b : Nat) : Prop := (a = x.1 ∧ b = x.2) ∨ (a = x.2 ∧ b = x.1)
def EI (es : List (Nat × Nat)) (out : List Int) (q : List Nat) (ok : Nat → Nat × Nat → Prop) : Prop := ∀ x ∈ es, ∀ a b, Ends x a b → 0 ≤ out.getD a 0 → a ∉ q → ok a x → out.getD b 0 = out.getD a 0
theorem ei_step {n u : Nat} {m : Int} {es : List (Nat × Nat)} (hm : 0 ≤ m) (hes : ∀ x ∈ es, x.1 < n ∧ x.2 < n) {done : List (Nat × Nat)} {s : List Int × List Nat} {x : Nat × Nat} (hx : x ∈ es) (hl : s.1.length = n) (hu : s.1.getD u 0 = m) (hq : ∀ v ∈ s.2, s.1.getD v 0 = m) (h : EI es s.1 s.2 fun a y => a ≠ u ∨ y ∈ done) :
    (pstep u m s x).1.getD u 0 = m ∧ (∀ v ∈ (pstep u m s x).2, (pstep u m s x).1.getD v 0 = m) ∧ EI es (pstep u m s x).1 (pstep u m s x).2 fun a y => a ≠ u ∨ y ∈ x :: done := by
 have hxx := hes x hx
 by_cases hc : (x.1 = u ∨ x.2 = u) ∧ s.1.getD (x.1 + x.2 - u) 0 < 0
 ·have e : pstep u m s x = (s.1.set (x.1 + x.2 - u) m, s.2 ++ [x.1 + x.2 - u]) := by unfold pstep; rw [if_pos hc]
  rw [e]
  have hto : x.1 + x.2 - u < s.1.length := by rw [hl]; omega
  have hne : x.1 + x.2 - u ≠ u := fun e => by rw [e, hu] at hc; omega
  obtain ⟨hc1, hc2⟩ := hc
  generalize hto2 : x.1 + x.2 - u = tw at *
  dsimp only
  refine ⟨by rw [setD hto, if_neg (fun e => hne e.symm)]; exact hu, fun v hv => ?_, fun y hy a b hab ha haq hok => ?_⟩
  ·rw [setD hto]
   rcases List.mem_append.1 hv with hv | hv
   ·split
    ·rfl
    ·exact hq v hv
   ·rw [List.mem_singleton.1 hv, if_pos rfl]
  ·have hat : a ≠ tw := fun e => haq (List.mem_append_right _ (by rw [e]; simp))
   have haq2 : a ∉ s.2 := fun hm => haq (List.mem_append_left _ hm)
   rw [setD hto, if_neg hat] at ha
   rw [setD hto, setD (j := a) hto, if_neg hat]
   have old : (a ≠ u ∨ y ∈ done) → (if b = tw then m else s.1.getD b 0) = s.1.getD a 0 := fun ho => by
    have := h y hy a b hab ha haq2 ho
    by_cases hb : b = tw
    ·subst hb; omega
    ·rw [if_neg hb]; exact this
   rcases hok with ho | ho
   ·exact old (.inl ho)
   ·rcases List.mem_cons.1 ho with rfl | ho
    ·by_cases hau : a = u
     ·subst hau
      have hb : b = tw := by rcases hab with ⟨h1, h2⟩ | ⟨h1, h2⟩ <;> omega
      rw [if_pos hb, hu]
     ·exact old (.inl hau)
    ·exact old (.inr ho)
 ·have e : pstep u m s x = s := by unfold pstep; rw [if_neg hc]
  rw [e]
  refine ⟨hu, hq, fun y hy a b hab ha haq hok => ?_⟩
  rcases hok with ho | ho
  ·exact h y hy a b hab ha haq (.inl ho)
  ·rcases List.mem_cons.1 ho with rfl | ho
   ·by_cases hau : a = u
    ·subst hau
     have ht : y.1 = a ∨ y.2 = a := by rcases hab with ⟨h1, _⟩ | ⟨h1, _⟩ <;> omega
     have hb : b = y.1 + y.2 - a := by rcases hab with ⟨h1, h2⟩ | ⟨h1, h2⟩ <;> omega
     have h0 : 0 ≤ s.1.getD b 0 := by rw [hb]; exact Int.not_lt.1 fun hn => hc ⟨ht, hn⟩
     by_cases hba : b = a
     ·rw [hba]
     ·by_cases hbq : b ∈ s.2
      ·rw [hq b hbq, hu]
      ·exact (h y hy b a (hab.elim (fun g => .inr ⟨g.2, g.1⟩) fun g => .inl ⟨g.2, g.1⟩) h0 hbq (.inl hba)).symm
    ·exact h y hy a b hab ha haq (.inl hau)
   ·exact h y hy a b hab ha haq (.inr ho)
theorem ei_scan {n u : Nat} {m : Int} {es : List (Nat × Nat)} (hm : 0 ≤ m) (hes : ∀ x ∈ es, x.1 < n ∧ x.2 < n) : ∀ (r done : List (Nat × Nat)) (s : List Int × List Nat), (∀ x ∈ r, x ∈ es) → s.1.length = n → s.1.getD u 0 = m → (∀ v ∈ s.2, s.1.getD v 0 = m) → (EI es s.1 s.2 fun a y => a ≠ u ∨ y ∈ done) → (∀ x ∈ es, x ∈ done ∨ x ∈ r) →
    (∀ v ∈ (pscan u m r s).2, (pscan u m r s).1.getD v 0 = m) ∧ EI es (pscan u m r s).1 (pscan u m r s).2 fun _ _ => True
 | [], done, s, _, hl, hu, hq, h, hd => ⟨hq, fun y hy a b hab ha haq _ => h y hy a b hab ha haq (.inr ((hd y hy).resolve_right (by simp)))⟩
 | x :: r, done, s, hr, hl, hu, hq, h, hd => by
  obtain ⟨h1, h2, h3⟩ := ei_step hm hes (hr x (List.mem_cons_self ..)) hl hu hq h
  exact ei_scan hm hes r (x :: done) (pstep u m s x) (fun y hy => hr y (List.mem_cons_of_mem _ hy)) ((pstep_len u m s x).trans hl) h1 h2 h3 fun y hy => by
   rcases hd y hy with g | g
   ·exact .inl (List.mem_cons_of_mem _ g)
   ·rcases List.mem_cons.1 g with rfl | g
    ·exact .inl (List.mem_cons_self ..)
    ·exact .inr g
theorem ei_bfs {n : Nat} {m : Int} {es : List (Nat × Nat)} (hm : 0 ≤ m) (hes : ∀ x ∈ es, x.1 < n ∧ x.2 < n) : ∀ (f : Nat) (out : List Int) (q : List Nat), Ps n m out q → q.length + negs out ≤ f → (∀ v ∈ q, out.getD v 0 = m) → (EI es out q fun _ _ => True) → EI es (pbfs m es f out q) [] fun _ _ => True
 | 0, out, q, _, hf, _, h => by
  have : q = [] := List.eq_nil_of_length_eq_zero (by omega)
  subst this; exact h
 | f + 1, out, [], _, _, _, h => h
 | f + 1, out, u :: q, hp, hf, hq, h => by
  have h1 : Ps n m out q := ⟨hp.len, fun v hv => hp.lt v (List.mem_cons_of_mem _ hv), hp.bd⟩
  have h2 := pscan_ok (u := u) (s := (out, q)) hm hes h1
  obtain ⟨g1, g2⟩ := ei_scan hm hes es [] (out, q) (fun _ h => h) hp.len (hq u (List.mem_cons_self ..)) (fun v hv => hq v (List.mem_cons_of_mem _ hv)) (fun y hy a b hab ha haq hok => by
   rcases hok with ho | ho
   ·exact h y hy a b hab ha (fun hm => (List.mem_cons.1 hm).elim ho haq) trivial
   ·cases ho) fun x hx => .inr hx
  refine ei_bfs hm hes f _ _ h2.1 ?_ g1 g2
  have := h2.2
  simp only [List.length_cons] at hf
  simp only at this
  omega
def FoI (l : List Int) : Prop := ∀ b v, 0 ≤ v → v < l.getD b 0 → ∃ a, a < b ∧ l.getD a 0 = v
theorem pgo_more {n : Nat} {es : List (Nat × Nat)} (hes : ∀ x ∈ es, x.1 < n ∧ x.2 < n) : ∀ (k i : Nat) (s : List Int × Int), s.1.length = n → i + k = n → (∀ x ∈ s.1, -1 ≤ x ∧ x < s.2) → 0 ≤ s.2 → (∀ j, j < i → 0 ≤ s.1.getD j 0) → (EI es s.1 [] fun _ _ => True) → FoI s.1 → (∀ v, 0 ≤ v → v < s.2 → ∃ a, a < i ∧ s.1.getD a 0 = v) →
    (EI es (pgo n es k i s).1 [] fun _ _ => True) ∧ FoI (pgo n es k i s).1
 | 0, i, s, hl, hi, hb, h0, hj, he, hf, hv => ⟨he, hf⟩
 | k + 1, i, s, hl, hi, hb, h0, hj, he, hf, hv => by
  unfold pgo
  split
  ·rename_i hz
   exact pgo_more hes k (i + 1) s hl (by omega) hb h0 (fun j h => by
    by_cases hji : j = i
    ·subst hji; exact hz
    ·exact hj j (by omega)) he hf fun v g1 g2 => by
     obtain ⟨a, ha, e⟩ := hv v g1 g2
     exact ⟨a, by omega, e⟩
  ·rename_i hz
   have hin : i < s.1.length := by omega
   have hps : Ps n s.2 (s.1.set i s.2) [i] := ⟨by simp [hl], fun v hv => (by rw [List.mem_singleton.1 hv]; omega), fun x hx => by
    rcases List.mem_or_eq_of_mem_set hx with hx | rfl
    ·have := hb x hx; omega
    ·omega⟩
   have h2 := pbfs_ok h0 hes (n + 1) hps
   have hch : Ch s.2 s.1 (pbfs s.2 es (n + 1) (s.1.set i s.2) [i]) := (ch_set (by omega)).trans h0 (ch_bfs h0 es _ _ _)
   have hat : (pbfs s.2 es (n + 1) (s.1.set i s.2) [i]).getD i 0 = s.2 := by
    rcases ch_bfs h0 es (n + 1) (s.1.set i s.2) [i] i with h | ⟨h, _⟩
    ·rw [h, setD hin, if_pos rfl]
    ·rw [setD hin, if_pos rfl] at h; omega
   have hneg := negs_set s.1 i s.2 h0 hin (by omega)
   have hnl := negs_le s.1
   have hei := ei_bfs h0 hes (n + 1) (s.1.set i s.2) [i] hps (by simp only [List.length_singleton]; omega) (fun v hv => by rw [List.mem_singleton.1 hv, setD hin, if_pos rfl]) (fun y hy a b hab ha haq _ => by
    have hai : a ≠ i := fun e => haq (by rw [e]; simp)
    rw [setD hin, if_neg hai] at ha
    have := he y hy a b hab ha (by simp) trivial
    rw [setD hin, setD (j := a) hin, if_neg hai]
    by_cases hbi : b = i
    ·subst hbi; omega
    ·rw [if_neg hbi]; exact this)
   have hkeep : ∀ j, 0 ≤ s.1.getD j 0 → (pbfs s.2 es (n + 1) (s.1.set i s.2) [i]).getD j 0 = s.1.getD j 0 := fun j h => by
    rcases hch j with g | ⟨g, _⟩
    ·exact g
    ·omega
   refine pgo_more hes k (i + 1) _ h2.1 (by omega) (fun x hx => (by have := h2.2 x hx; show _ ∧ _ < s.2 + 1; omega)) (by show 0 ≤ s.2 + 1; omega) (fun j h => ?_) hei (fun b v g1 g2 => ?_) fun v g1 g2 => ?_
   ·show 0 ≤ (pbfs s.2 es (n + 1) (s.1.set i s.2) [i]).getD j 0
    by_cases hji : j = i
    ·subst hji; rw [hat]; exact h0
    ·have := hj j (by omega)
     rw [hkeep j this]; exact this
   ·show ∃ a, a < b ∧ (pbfs s.2 es (n + 1) (s.1.set i s.2) [i]).getD a 0 = v
    have g2' : v < (pbfs s.2 es (n + 1) (s.1.set i s.2) [i]).getD b 0 := g2
    rcases hch b with g | ⟨g, g'⟩
    ·rw [g] at g2'
     obtain ⟨a, ha, e⟩ := hf b v g1 g2'
     exact ⟨a, ha, by rw [hkeep a (by omega), e]⟩
    ·rw [g'] at g2'
     obtain ⟨a, ha, e⟩ := hv v g1 g2'
     refine ⟨a, ?_, by rw [hkeep a (by omega), e]⟩
     refine Nat.lt_of_lt_of_le ha (Nat.le_of_not_lt fun hlt => ?_)
     have := hj b hlt
     omega
   ·show ∃ a, a < i + 1 ∧ (pbfs s.2 es (n + 1) (s.1.set i s.2) [i]).getD a 0 = v
    have g2' : v < s.2 + 1 := g2
    by_cases hvs : v = s.2
    ·exact ⟨i, by omega, by rw [hat, hvs]⟩
    ·obtain ⟨a, ha, e⟩ := hv v g1 (by omega)
     exact ⟨a, by omega, by rw [hkeep a (by omega), e]⟩
theorem rep_neg (n j : Nat) : (List.replicate n (-1 : Int)).getD j 0 ≤ 0 := by
 rw [List.getD_eq_getElem?_getD, List.getElem?_replicate]
 split <;> simp
theorem rep_at {n j : Nat} (h : j < n) : (List.replicate n (-1 : Int)).getD j 0 = -1 := by
 rw [List.getD_eq_getElem?_getD, List.getElem?_replicate, if_pos h]; rfl
theorem parts_more {n : Nat} {es : List (Nat × Nat)} (hes : ∀ x ∈ es, x.1 < n ∧ x.2 < n) : (∀ x ∈ es, (partsR n es).getD x.1 0 = (partsR n es).getD x.2 0) ∧ FoI (partsR n es) := by
 obtain ⟨h1, h2⟩ := pgo_more hes n 0 (List.replicate n (-1), 0) (by simp) (by omega) (fun x hx => (by rw [List.eq_of_mem_replicate hx]; exact ⟨by omega, show (-1 : Int) < 0 by omega⟩)) (by show (0 : Int) ≤ 0; omega) (fun j h => by omega) (fun x hx a b hab ha _ _ => by
  have hxx := hes x hx
  have hal : a < n := by rcases hab with ⟨h1, _⟩ | ⟨h1, _⟩ <;> omega
  have ha' : 0 ≤ (List.replicate n (-1 : Int)).getD a 0 := ha
  rw [rep_at hal] at ha'
  omega) (fun b v g1 g2 => by
  have g2' : v < (List.replicate n (-1 : Int)).getD b 0 := g2
  have := rep_neg n b
  omega) (fun v g1 g2 => by
  have g2' : v < (0 : Int) := g2
  omega)
 refine ⟨fun x hx => ?_, h2⟩
 have hxx := hes x hx
 have hp := parts_ok hes
 refine (h1 x hx x.1 x.2 (.inl ⟨rfl, rfl⟩) ?_ (by simp) trivial).symm
 have : x.1 < (partsR n es).length := by rw [hp.1]; exact hxx.1
 show 0 ≤ (partsR n es).getD x.1 0
 rw [List.getD_eq_getElem?_getD, List.getElem?_eq_getElem this]
 exact (hp.2 _ (List.getElem_mem this)).1
end
section
open Go.ChangeShapes Go.WideShapes Go.ChangeAt Go.RowKit
theorem vf_two {n a b : Nat} (ha : a < n) (hb : b < n) (hab : a ≠ b) (j : Nat) : vf (twoF n a b) j = two a b j := by
 have hl : (zrs n).length = n := by unfold zrs; exact List.length_replicate
 unfold twoF two
 rw [vf_set (by rw [List.length_set, hl]; exact hb), vf_set (by rw [hl]; exact ha), vf_zrs]
 by_cases h1 : j = b
 ·by_cases h2 : j = a
  ·exact absurd (h2.symm.trans h1) hab
  ·rw [if_pos h1, if_neg h2, if_pos h1]
   decide +kernel
 ·by_cases h2 : j = a
  ·rw [if_neg h1, if_pos h2, if_neg h1]
   decide +kernel
  ·rw [if_neg h1, if_neg h2, if_neg h1]
   decide +kernel
theorem rowR_dot {x : Net} (q : List Rat) (X : Fn) : dotn (freeL x).length (vf (rowR x q)) X = sumTo (busN x) fun k => vf q k * ext (freeB (islN x)) X k := by
 unfold rowR freeL
 exact pick_dot (freeB (islN x)) (vf q) X (busN x)
theorem isl_eq {x : Net} (ok : NetOk x) (a b : Nat) : ((islR x).getD a 0 = (islR x).getD b 0) ↔ (islN x).getD a 0 = (islN x).getD b 0 := by
 rw [← (natJ_isl ok).1]
 have key : ∀ (l : List Nat) (i : Nat), (natJ l).getD i 0 = ((l.getD i 0 : Nat) : Int) := fun l i => by
  unfold natJ
  rw [List.getD_eq_getElem?_getD, List.getD_eq_getElem?_getD, List.getElem?_map]
  cases l[i]? <;> rfl
 rw [key, key]
 omega
theorem freeL_cnt {x : Net} (ok : NetOk x) : (freeL x).length = cnt (freeB (islN x)) (islN x).length := by
 rw [(natJ_isl ok).2]; rfl
theorem same_eqs {x : Net} (ok : NetOk x) {M : List (List Rat)} (hw : Wid (freeL x).length M) {a b : Nat} (ha : a < busN x) (hb : b < busN x) (hab : a ≠ b) : sameQ x M a b = true ↔ Eqs (islN x) M a b := by
 unfold sameQ Eqs
 rw [Bool.and_eq_true, decide_eq_true_eq, decide_eq_true_eq, isl_eq ok, rk_dep hw rowR_len, ← freeL_cnt ok]
 refine and_congr Iff.rfl (forall_congr' fun X => imp_congr Iff.rfl ?_)
 rw [rowR_dot, sumTo_congr (g := fun k => two a b k * ext (freeB (islN x)) X k) (fun k _ => by rw [vf_two ha hb hab]), two_sum ha hb]
 constructor
 ·intro h; grind
 ·intro h; rw [h]; grind
theorem fo_isl {x : Net} (ok : NetOk x) : Fo (islN x) := fun b hb v hv => by
 have h := (parts_more (n := busN x) (es := brE x) (brE_ok ok).1).2
 have key : ∀ i, (islR x).getD i 0 = (((islN x).getD i 0 : Nat) : Int) := fun i => by
  rw [← (natJ_isl ok).1]
  unfold natJ
  rw [List.getD_eq_getElem?_getD, List.getD_eq_getElem?_getD, List.getElem?_map]
  cases (islN x)[i]? <;> rfl
 obtain ⟨a, ha, he⟩ := h b (v : Int) (by omega) (by
  have := key b
  unfold islR at this
  rw [this]; omega)
 refine ⟨a, ha, ?_⟩
 have := key a
 unfold islR at this
 rw [this] at he
 omega
theorem arR_congr {S S' : Nat → Nat → Bool} : ∀ n : Nat, (∀ a b, a < b → b < n → S a b = S' a b) → arR S n = arR S' n
 | 0, _ => rfl
 | n + 1, h => by
  have ih := arR_congr (S := S) (S' := S') n fun a b h1 h2 => h a b h1 (by omega)
  have e : (List.range n).find? (fun a => S a n) = (List.range n).find? (fun a => S' a n) := by
   have key : ∀ l : List Nat, (∀ a ∈ l, a < n) → l.find? (fun a => S a n) = l.find? (fun a => S' a n) := fun l => by
    induction l with
    | nil => intro _; rfl
    | cons a r ih2 =>
     intro hl
     rw [List.find?_cons, List.find?_cons, h a n (hl a List.mem_cons_self) (by omega), ih2 fun b hb => hl b (List.mem_cons_of_mem _ hb)]
   exact key _ fun a ha => List.mem_range.1 ha
  rw [arR_succ, arR_succ, ih, e]
open Classical in
theorem area_same {x : Net} (ok : NetOk x) {M : List (List Rat)} (hw : Wid (freeL x).length M) {a b : Nat} (ha : a < busN x) (hb : b < busN x) : (areaR x M).getD a 0 = (areaR x M).getD b 0 ↔ Eqs (islN x) M a b := by
 have e : arR (sameQ x M) (busN x) = arR (fun a b => decide (Eqs (islN x) M a b)) (busN x) := arR_congr _ fun a b h1 h2 => by
  have := same_eqs ok hw (by omega : a < busN x) h2 (by omega)
  by_cases hq : Eqs (islN x) M a b
  ·rw [this.2 hq, decide_eq_true hq]
  ·rw [decide_eq_false hq]
   cases hs : sameQ x M a b with
   | false => rfl
   | true => exact absurd (this.1 hs) hq
 unfold areaR
 rw [e, arR_eq (N := busN x) (fun a _ => decide_eq_true ⟨rfl, fun X _ => rfl⟩) (fun a b _ _ h => decide_eq_true ⟨(of_decide_eq_true h).1.symm, fun X k => ((of_decide_eq_true h).2 X k).symm⟩) (fun a b c _ _ _ h h2 => decide_eq_true ⟨(of_decide_eq_true h).1.trans (of_decide_eq_true h2).1, fun X k => ((of_decide_eq_true h).2 X k).trans ((of_decide_eq_true h2).2 X k)⟩) _ (Nat.le_refl _) a b ha hb]
 exact decide_eq_true_iff
theorem areaR_len {x : Net} {M : List (List Rat)} : (areaR x M).length = busN x := arR_len _ _
theorem area_count {x : Net} (ok : NetOk x) {M : List (List Rat)} (hw : Wid (freeL x).length M) : topN (areaR x M) = topN (islN x) ↔ rankR M = (freeL x).length := by
 have hl := (natJ_isl ok).2
 have e1 : topN (areaR x M) = cnt (newS (sameQ x M)) (islN x).length := by
  unfold areaR
  rw [arR_top, arR_cnt, hl]
 have e2 : topN (islN x) = cnt (newS (sameIs (islN x))) (islN x).length := by
  rw [← fo_top (fo_isl ok) _ (Nat.le_refl _), List.take_length]
 rw [e1, e2, freeL_cnt ok]
 refine areas_islands (fo_isl ok) (by rw [← freeL_cnt ok]; exact hw) fun a b ha hb hab => ?_
 rw [hl] at ha hb
 exact same_eqs ok hw ha hb (by omega)
theorem sus_ne {x : Net} (ok : NetOk x) {b : Br} (hb : b ∈ x.brs) : susR b ≠ 0 := by
 have h := br_bnd ((ok.br b hb).2.2.2)
 unfold susR
 intro e
 have h2 : b.x * b.tap ≠ 0 := by
  have := Int.mul_pos (show 0 < b.x by omega) (show 0 < b.tap by omega)
  omega
 have hne : ((b.x * b.tap : Int) : Rat) ≠ 0 := by
  intro e2
  have e3 : ((b.x * b.tap : Int) : Rat) = ((0 : Int) : Rat) := e2
  rw [Rat.intCast_inj] at e3
  exact h2 e3
 rw [Rat.divInt_eq_div] at e
 have h3 := Rat.div_mul_cancel (a := ((1000000 : Int) : Rat)) hne
 rw [e, Rat.zero_mul] at h3
 exact absurd h3 (by decide +kernel)
theorem area_flow {x : Net} {ms : List Mi} (h : mtCk x ms = 0) {m : Mi} (hm : m ∈ ms) (h0 : m.kind = 0) : ∃ (i : Nat) (b : Br), brIdx x m.name = (i : Int) ∧ x.brs[i]? = some b ∧ (areaR x (rowsR x ms)).getD (busAt x b.fr) 0 = (areaR x (rowsR x ms)).getD (busAt x b.to) 0 := by
 obtain ⟨ok, _, hmi⟩ := mtCk_ok h
 have hk := (hmi m hm).1 h0
 rcases brIdx_spec x m.name with ⟨e, _⟩ | ⟨i, b, e, hb, _⟩
 ·omega
 ·refine ⟨i, b, e, hb, ?_⟩
  obtain ⟨a1, a2, a3, a4⟩ := mFrom_at hb
  have hbm := List.mem_of_getElem? hb
  have hu := (busAt_ok ok (ok.br b hbm).1).2.1
  have hv := (busAt_ok ok (ok.br b hbm).2.1).2.1
  by_cases huv : busAt x b.fr = busAt x b.to
  ·rw [huv]
  rw [area_same ok (rowsR_wid h) hu hv]
  have hmem : (busAt x b.fr, busAt x b.to) ∈ brE x := List.mem_map.2 ⟨b, hbm, rfl⟩
  refine ⟨(isl_eq ok _ _).1 ((parts_more (n := busN x) (es := brE x) (brE_ok ok).1).1 _ hmem), fun X hX => ?_⟩
  rw [← freeL_cnt ok] at hX
  obtain ⟨k, hk⟩ := List.mem_iff_getElem?.1 hm
  have hd := ker_mem.1 hX _ (List.mem_of_getElem? (rowsR_get (x := x) hk))
  have hl : (zrs (busN x)).length = busN x := by unfold zrs; exact List.length_replicate
  have hf : (formR x m).1 = addF (susR b) (busAt x b.fr) (busAt x b.to) (zrs (busN x)) := by
   unfold formR
   rw [if_pos h0, e, Int.toNat_natCast]
   simp only [List.getD_eq_getElem?_getD, vf, a1, a2, a3]
   rfl
  rw [hf, rowR_dot, sumTo_congr (g := fun k => susR b * (two (busAt x b.fr) (busAt x b.to) k * ext (freeB (islN x)) X k)) (fun j _ => by
   unfold addF two
   rw [vf_set (by rw [List.length_set, hl]; exact hv), vf_set (by rw [hl]; exact hu), vf_set (by rw [hl]; exact hu), vf_zrs, vf_zrs, vf_zrs]
   by_cases h1 : j = busAt x b.to
   ·have h2 : ¬ j = busAt x b.fr := fun e => huv (e.symm.trans h1)
    have h3 : ¬ busAt x b.to = busAt x b.fr := fun e => huv e.symm
    rw [if_pos h1, if_neg h2, if_neg h3, if_pos h1]; grind
   ·rw [if_neg h1, if_neg h1]
    by_cases h2 : j = busAt x b.fr
    ·rw [if_pos h2, if_pos h2]; grind
    ·rw [if_neg h2, if_neg h2]; grind), sumTo_mul, two_sum hu hv] at hd
  have := sus_ne ok hbm
  rcases Rat.mul_eq_zero.1 hd with h1 | h1
  ·exact absurd h1 this
  ·grind
end
section
open Go.ChangeShapes Go.WideShapes Go.ChangeAt Go.RowKit
attribute [local go_sem ↓] execOp_call_val
attribute [local go_sem] callVal_func setCell_drewN alloc_drewN sEq_walk NetH.cells
set_option maxRecDepth 100000 in
set_option maxHeartbeats 2000000 in
theorem refbranch_any (h : NetH) (x : Net) (s : ByteArray) (w : World) (hR : RdNet w w.heap.size h x) :
    Calls Tryz.prog 34 #[.agg h.cells, .string s] w fun e w' => e = .returned (.int .i64 (brIdx x s)) ∧ Below w.heap.size w w' := by
 have hB0 : Below w.heap.size w (w.alloc (.cells h.cells 33)) := (Below.refl _ _).alloc (Nat.le_refl _) _
 have HB0 := Lib.hid hB0
 have HR := Lib.hid hR
 have HQ : Hid (Blk (w.alloc (.cells h.cells 33)) w.heap.size 33 h.cells) := Lib.hid (Blk.new _ _ _)
 have hm := hR.m2
 have HLEN := Lib.hid hR.r2.1
 have HX : Hid (brIdx x s = idxGo (fun z : Br => sEq z.name s) x.brs 0) := Lib.hid rfl
 clear hB0 hR
 obtain ⟨y0, y1, y2, y3, y4, y5, nf, nlt⟩ := net_box HQ.out
 go_enter Tryz.func34, Tryz.ntmps34
 go_wp2_with fail
 go_loopw [10] (fun i wr => ∃ k : Nat, k ≤ h.n2 ∧ i = .int .i64 k ∧ Below w.heap.size w wr ∧ idxGo (fun z : Br => sEq z.name s) x.brs 0 = idxGo (fun z : Br => sEq z.name s) (x.brs.drop k) k) (fun i _ => h.n2 - (intOf i).toNat)
 case atStart => exact ⟨0, by omega, rfl, HB0.out, rfl⟩
 case round =>
  obtain ⟨k, hk, rfl, hb, hidx⟩ := hrel
  have HB := Lib.hid hb
  have HI := Lib.hid hidx
  have hrd := (HR.out.up hb).r2
  clear hb hidx
  by_cases hlt : k < h.n2
  ·obtain ⟨z, hz⟩ : ∃ z, x.brs[k]? = some z := ⟨_, List.getElem?_eq_getElem (by have := HLEN.out; omega)⟩
   obtain ⟨b, off, hA, hblt⟩ := hrd.form (by omega)
   rw [hA] at hrd
   obtain ⟨c0, c1, c2, c3, c4, c5, c6, c7, c8⟩ := hrd.at_ hz
   have hAA := hA
   have HZ := Lib.hid (drop_cons hz)
   have HBX := Lib.hid (HB.out.alloc HB.out.size (.cells z.cells.toArray 70))
   clear hz hrd
   by_cases hp : sEq z.name s = true
   ·have HP := Lib.hid hp
    go_wp2_with fail
    go_ret
    exact ⟨ret_int (by rw [HX.out, HI.out, HZ.out]; simp [idxGo, HP.out]), HBX.out⟩
   ·have hp2 : sEq z.name s = false := by simpa using hp
    have HP := Lib.hid hp2
    clear hp
    go_wp2_with fail
    go_roundw
    case rel => exact ⟨k + 1, by omega, by go_num, HBX.out, by rw [HI.out, HZ.out]; simp [idxGo, HP.out]⟩
    case measure => simp [intOf]; omega
  ·have hd : x.brs.drop k = [] := by rw [List.drop_eq_nil_iff]; have := HLEN.out; omega
   have HD := Lib.hid hd
   clear hd hrd
   go_wp2_with fail
   go_ret
   exact ⟨ret_int (by rw [HX.out, HI.out, HD.out]; rfl), HB.out⟩
def nodIdx (x : Net) (s : ByteArray) : Int := idxGo (fun z : ByteArray => sEq z s) x.nodes 0
set_option maxRecDepth 100000 in
set_option maxHeartbeats 2000000 in
theorem refnode_any (h : NetH) (x : Net) (s : ByteArray) (w : World) (hR : RdNet w w.heap.size h x) :
    Calls Tryz.prog 35 #[.agg h.cells, .string s] w fun e w' => e = .returned (.int .i64 (nodIdx x s)) ∧ Below w.heap.size w w' := by
 have hB0 : Below w.heap.size w (w.alloc (.cells h.cells 33)) := (Below.refl _ _).alloc (Nat.le_refl _) _
 have HB0 := Lib.hid hB0
 have HR := Lib.hid hR
 have HQ : Hid (Blk (w.alloc (.cells h.cells 33)) w.heap.size 33 h.cells) := Lib.hid (Blk.new _ _ _)
 have hm := hR.m0
 have HLEN := Lib.hid hR.r0.1
 have HX : Hid (nodIdx x s = idxGo (fun z : ByteArray => sEq z s) x.nodes 0) := Lib.hid rfl
 clear hB0 hR
 obtain ⟨y0, y1, y2, y3, y4, y5, nf, nlt⟩ := net_box HQ.out
 go_enter Tryz.func35, Tryz.ntmps35
 go_wp2_with fail
 go_loopw [10] (fun i wr => ∃ k : Nat, k ≤ h.n0 ∧ i = .int .i64 k ∧ Below w.heap.size w wr ∧ idxGo (fun z : ByteArray => sEq z s) x.nodes 0 = idxGo (fun z : ByteArray => sEq z s) (x.nodes.drop k) k) (fun i _ => h.n0 - (intOf i).toNat)
 case atStart => exact ⟨0, by omega, rfl, HB0.out, rfl⟩
 case round =>
  obtain ⟨k, hk, rfl, hb, hidx⟩ := hrel
  have HB := Lib.hid hb
  have HI := Lib.hid hidx
  have hrd := (HR.out.up hb).r0
  clear hb hidx
  by_cases hlt : k < h.n0
  ·obtain ⟨z, hz⟩ : ∃ z, x.nodes[k]? = some z := ⟨_, List.getElem?_eq_getElem (by have := HLEN.out; omega)⟩
   obtain ⟨b, off, hA, hblt⟩ := hrd.form (by omega)
   rw [hA] at hrd
   have c0 := hrd.at_ hz
   have hAA := hA
   have HZ := Lib.hid (drop_cons hz)
   have HBX := HB
   clear hz hrd
   by_cases hp : sEq z s = true
   ·have HP := Lib.hid hp
    go_wp2_with fail
    go_ret
    exact ⟨ret_int (by rw [HX.out, HI.out, HZ.out]; simp [idxGo, HP.out]), HBX.out⟩
   ·have hp2 : sEq z s = false := by simpa using hp
    have HP := Lib.hid hp2
    clear hp
    go_wp2_with fail
    go_roundw
    case rel => exact ⟨k + 1, by omega, by go_num, HBX.out, by rw [HI.out, HZ.out]; simp [idxGo, HP.out]⟩
    case measure => simp [intOf]; omega
  ·have hd : x.nodes.drop k = [] := by rw [List.drop_eq_nil_iff]; have := HLEN.out; omega
   have HD := Lib.hid hd
   clear hd hrd
   go_wp2_with fail
   go_ret
   exact ⟨ret_int (by rw [HX.out, HI.out, HD.out]; rfl), HB.out⟩
end
end Go.Proofs.YtakllkkmofdpaaaGreatDoor
