/- The least set of breakers: the laws in plain words. No program in this text. -/
import Derived.Test.YthedpegaelpbdaaG3
namespace Go.Proofs.Ythedpegaelpbdaa
set_option linter.unusedVariables false

theorem nodup_sub_len {α : Type} [DecidableEq α] : ∀ {l m : List α}, l.Nodup → (∀ x ∈ l, x ∈ m) → l.length ≤ m.length
  | [], m, _, _ => by simp
  | x :: l, m, h, hs => by
    rw [List.nodup_cons] at h
    have hx := hs x (by simp)
    have h1 := nodup_sub_len (l := l) (m := m.erase x) h.2 fun y hy => by
      have hne : y ≠ x := fun e => h.1 (e ▸ hy)
      exact (List.mem_erase_of_ne hne).2 (hs y (List.mem_cons_of_mem _ hy))
    rw [List.length_erase_of_mem hx] at h1
    have := List.length_pos_of_mem hx
    simp only [List.length_cons]; omega
/-- with fewer edges nothing more is found -/
theorem found_less {es1 es2 : List Ed} {src : List Bool} {n place : Nat} {b1 b2 : List Int} {a1 a2 : Int} (ok : ∀ e ∈ es1, EdOk n e) (hp : place < n) (h1 : Found goR es1 src n place b1 a1) (h2 : Found goR es2 src n place b2 a2) (hsub : ∀ e ∈ es2, e ∈ es1) (h0 : a1 < 0) : a2 = -1 := by
  obtain ⟨_, _, g3, g4, g5⟩ := found_none ok hp h1 h0
  replace g3 : Closed goR es1 (visS n b1) := g3
  refine found_sound h2 (S := visS n b1) (fun e he => g3 e (hsub e he)) (by unfold visS; simp only [decide_eq_true_eq]; exact ⟨hp, g4⟩) fun v hv hs => by unfold visS; rw [g5 v hv hs]; simp
theorem SameG.cons {e e' : Ed} {es es0 : List Ed} (h : SameG (e :: es) (e' :: es0)) : (e.a = e'.a ∧ e.b = e'.b ∧ e.name = e'.name ∧ e.brk = e'.brk) ∧ SameG es es0 :=
  ⟨h.2 0 e e' rfl rfl, by have := h.1; simpa using this, fun k f f' hf hf' => h.2 (k + 1) f f' (by simpa using hf) (by simpa using hf')⟩
theorem cross_names (S : Nat → Bool) : ∀ {es es0 : List Ed}, SameG es es0 → (es.filter (cross S)).map Ed.name = (es0.filter (cross S)).map Ed.name
  | [], [], _ => rfl
  | [], _ :: _, h => by have := h.1; simp at this
  | _ :: _, [], h => by have := h.1; simp at this
  | e :: es, e' :: es0, h => by
    obtain ⟨⟨h1, h2, h3, _⟩, h5⟩ := h.cons
    have ih := cross_names S h5
    have hc : cross S e = cross S e' := by unfold cross; rw [h1, h2]
    rw [List.filter_cons, List.filter_cons, hc]
    split
    · rw [List.map_cons, List.map_cons, ih, h3]
    · exact ih
theorem names_nodup {es0 : List Ed} (h : OneName es0) {S : Nat → Bool} (hb : ∀ e ∈ es0, cross S e = true → e.brk = true) : ((es0.filter (cross S)).map Ed.name).Nodup := by
  have hp : (es0.filter (cross S)).Pairwise fun e f => e.name ≠ f.name := by
    have h1 : es0.Pairwise fun e f => e.brk = true → e.name ≠ f.name := by
      rw [List.pairwise_iff_getElem]
      intro i j hi hj hij hbk hn
      have := h i j _ _ (List.getElem?_eq_getElem hi) (List.getElem?_eq_getElem hj) hn hbk
      omega
    have h2 := h1.filter (cross S)
    refine List.Pairwise.imp_of_mem ?_ h2
    intro e f he _ hef
    rw [List.mem_filter] at he
    exact hef (hb e he.1 he.2)
  rw [List.nodup_iff_pairwise_ne, List.pairwise_map]
  exact hp
/-- the flow is not more than the names that cut the place off -/
theorem Fl.small {es0 es : List Ed} {src : List Bool} {n place j : Nat} (h : Fl es0 src n place es j) (h1n : OneName es0) {S : Nat → Bool} (hS : Cut src n place S) {open_ : List ByteArray} (hc : ∀ e ∈ es0, cross S e = true → e.brk = true ∧ e.name ∈ open_) : j ≤ open_.length := by
  have hb : ∀ e ∈ es, cross S e = true → e.brk = true := fun e he hx => by
    obtain ⟨k, hk⟩ := List.mem_iff_getElem?.1 he
    obtain ⟨e', g1, g2, g3, _, g5⟩ := h.same.at_ hk
    rw [g5]
    exact (hc e' (List.mem_of_getElem? g1) (by unfold cross at hx ⊢; rw [← g2, ← g3]; exact hx)).1
  have h1 := h.le hS hb
  have h2 := congrArg List.length (cross_names S h.same)
  rw [List.length_map, List.length_map] at h2
  have h3 := nodup_sub_len (names_nodup h1n (S := S) fun e he hx => (hc e he hx).1) (m := open_) fun x hx => by
    obtain ⟨e, he, rfl⟩ := List.mem_map.1 hx
    rw [List.mem_filter] at he
    exact (hc e he.1 he.2).2
  rw [List.length_map] at h3
  omega
theorem cross_len_le (S : Nat → Bool) (es : List Ed) : (es.filter (cross S)).length ≤ es.length := List.length_filter_le _ _
/-- edges without flow are all passable -/
theorem goR_zero {e : Ed} (h : e.fl = 0) (u : Nat) : goR e u = true := by
  unfold goR Ed.room
  rw [h]
  cases e.brk <;> simp <;> split <;> simp
/-- a set that a search without finding leaves: its border is what was taken away -/
theorem border {es1 : List Ed} {src : List Bool} {n place : Nat} {by_ : List Int} {at_ : Int} (ok : ∀ e ∈ es1, EdOk n e) (hz : ∀ e ∈ es1, e.fl = 0) (hp : place < n) (hf : Found goR es1 src n place by_ at_) (h0 : at_ < 0) : Cut src n place (visS n by_) ∧ ∀ e ∈ es1, cross (visS n by_) e = false := by
  obtain ⟨_, _, g3, g4, g5⟩ := found_none ok hp hf h0
  replace g3 : Closed goR es1 (visS n by_) := g3
  refine ⟨⟨by unfold visS; simp only [decide_eq_true_eq]; exact ⟨hp, g4⟩, fun v hv hs => by unfold visS; rw [g5 v hv hs]; simp⟩, fun e he => ?_⟩
  have hok := ok e he
  unfold EdOk at hok
  have h1 := g3 e he e.a (.inl rfl) (goR_zero (hz e he) _)
  have h2 := g3 e he e.b (.inr rfl) (goR_zero (hz e he) _)
  rw [show e.oth e.a = e.b from by unfold Ed.oth; omega] at h1
  rw [show e.oth e.b = e.a from by unfold Ed.oth; omega] at h2
  unfold cross
  cases ha : visS n by_ e.a <;> cases hb : visS n by_ e.b <;> simp_all
/-! ### is it a way -/
def wstep (es : List Ed) (nm : ByteArray) (at_ : Nat → Bool) (v : Nat) : Bool := es.any fun e => decide (e.name = nm) && ((decide (e.b = v) && at_ e.a) || (decide (e.a = v) && at_ e.b))
def wgo (es : List Ed) : List ByteArray → (Nat → Bool) → Nat → Bool
  | [], at_ => at_
  | nm :: r, at_ => wgo es r (wstep es nm at_)
theorem wgo_way {es : List Ed} {n : Nat} (ok : ∀ e ∈ es, EdOk n e) {u v : Nat} {l : List ByteArray} (w : WP es u l v) : ∀ at_ : Nat → Bool, at_ u = true → wgo es l at_ v = true := by
  induction w with
  | nil u => exact fun at_ h => h
  | cons e u v r h1 h2 t ih =>
    intro at_ h
    refine ih _ ?_
    unfold wstep
    rw [List.any_eq_true]
    refine ⟨e, h1, ?_⟩
    have hok := ok e h1
    rcases Ed.oth_cases h2 with ⟨a, b⟩ | ⟨a, b⟩
    · rw [b, a, h]; simp
    · rw [b, a, h]; simp
end Go.Proofs.Ythedpegaelpbdaa
