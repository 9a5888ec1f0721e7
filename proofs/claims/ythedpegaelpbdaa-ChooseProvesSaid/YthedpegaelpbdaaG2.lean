/- The least set of breakers: flow and cut. No program in this text. -/
import Derived.Test.YthedpegaelpbdaaG1
namespace Go.Proofs.Ythedpegaelpbdaa
set_option linter.unusedVariables false

/-- the same devices, other flows -/
def SameG (es es0 : List Ed) : Prop := es.length = es0.length ∧ ∀ (k : Nat) (e e' : Ed), es[k]? = some e → es0[k]? = some e' → e.a = e'.a ∧ e.b = e'.b ∧ e.name = e'.name ∧ e.brk = e'.brk
theorem SameG.refl (es : List Ed) : SameG es es := ⟨rfl, fun k e e' h h' => by rw [h] at h'; injection h' with h'; subst h'; exact ⟨rfl, rfl, rfl, rfl⟩⟩
theorem SameG.at_ {es es0 : List Ed} (h : SameG es es0) {k : Nat} {e : Ed} (he : es[k]? = some e) : ∃ e', es0[k]? = some e' ∧ e.a = e'.a ∧ e.b = e'.b ∧ e.name = e'.name ∧ e.brk = e'.brk := by
  have hk : k < es0.length := by rw [← h.1]; exact (List.getElem?_eq_some_iff.1 he).1
  exact ⟨_, List.getElem?_eq_getElem hk, h.2 k _ _ he (List.getElem?_eq_getElem hk)⟩
theorem SameG.ok {es es0 : List Ed} {n : Nat} (h : SameG es es0) (ok : ∀ e ∈ es0, EdOk n e) : ∀ e ∈ es, EdOk n e := by
  intro e he
  obtain ⟨k, hk⟩ := List.mem_iff_getElem?.1 he
  obtain ⟨e', h1, h2, h3, _, _⟩ := h.at_ hk
  have := ok e' (List.mem_of_getElem? h1)
  unfold EdOk at this ⊢
  rw [h2, h3]; exact this
/-- an edge that leaves a set of nodes -/
def cross (S : Nat → Bool) (e : Ed) : Bool := S e.a != S e.b
theorem net_cons (S : Nat → Bool) (e : Ed) (es : List Ed) : net S (e :: es) = e.out S + net S es := by simp [net]
theorem net_le (S : Nat → Bool) : ∀ (es : List Ed), (∀ e ∈ es, cross S e = true → -1 ≤ e.fl ∧ e.fl ≤ 1) → net S es ≤ (es.filter (cross S)).length
  | [], _ => by simp [net]
  | e :: es, h => by
    have ih := net_le S es fun x hx => h x (List.mem_cons_of_mem _ hx)
    have h1 := h e (by simp)
    rw [net_cons, List.filter_cons]
    unfold Ed.out
    unfold cross at h1 ⊢
    cases ha : S e.a <;> cases hb : S e.b <;> simp [ha, hb] at h1 ⊢ <;> first | exact ih | (have := h1; unfold cross at ih; omega)
theorem net_eq (S : Nat → Bool) : ∀ (es : List Ed), (∀ e ∈ es, (S e.a = true → S e.b = false → e.fl = 1) ∧ (S e.a = false → S e.b = true → e.fl = -1)) → net S es = (es.filter (cross S)).length
  | [], _ => by simp [net]
  | e :: es, h => by
    have ih := net_eq S es fun x hx => h x (List.mem_cons_of_mem _ hx)
    have h1 := h e (by simp)
    rw [net_cons, List.filter_cons]
    unfold Ed.out
    unfold cross at ih ⊢
    cases ha : S e.a <;> cases hb : S e.b <;> simp [ha, hb] at h1 ⊢ <;> omega
theorem net_nonpos (S : Nat → Bool) : ∀ (es : List Ed), (∀ e ∈ es, (S e.a = true → S e.b = false → e.fl ≤ 0) ∧ (S e.a = false → S e.b = true → 0 ≤ e.fl)) → net S es ≤ 0
  | [], _ => by simp [net]
  | e :: es, h => by
    have ih := net_nonpos S es fun x hx => h x (List.mem_cons_of_mem _ hx)
    have h1 := h e (by simp)
    rw [net_cons]
    unfold Ed.out
    cases ha : S e.a <;> cases hb : S e.b <;> simp [ha, hb] at h1 ⊢ <;> omega
/-- a set with the place and without sources -/
def Cut (src : List Bool) (n place : Nat) (S : Nat → Bool) : Prop := S place = true ∧ ∀ v, v < n → src.getD v false = true → S v = false
def goR (e : Ed) (u : Nat) : Bool := decide (0 < e.room u)
/-- flow of j units -/
structure Fl (es0 : List Ed) (src : List Bool) (n place : Nat) (es : List Ed) (j : Nat) : Prop where
  same : SameG es es0
  brk : ∀ e ∈ es, e.brk = true → -1 ≤ e.fl ∧ e.fl ≤ 1
  lim : ∀ e ∈ es, -(j : Int) ≤ e.fl ∧ e.fl ≤ j
  net : ∀ S, Cut src n place S → net S es = j
theorem net_zero (S : Nat → Bool) : ∀ (es : List Ed), (∀ e ∈ es, e.fl = 0) → net S es = 0
  | [], _ => by simp [net]
  | e :: es, h => by
    rw [net_cons, net_zero S es fun x hx => h x (List.mem_cons_of_mem _ hx)]
    unfold Ed.out
    rw [h e (by simp)]
    cases S e.a <;> cases S e.b <;> simp
theorem Fl.zero {es0 : List Ed} {src : List Bool} {n place : Nat} (h : ∀ e ∈ es0, e.fl = 0) : Fl es0 src n place es0 0 :=
  ⟨SameG.refl _, fun e he _ => by rw [h e he]; omega, fun e he => by rw [h e he]; simp, fun S _ => net_zero S es0 h⟩
/-- one way more -/
theorem Fl.push {es0 es es' : List Ed} {src : List Bool} {n place j : Nat} (h : Fl es0 src n place es j) (ok : ∀ e ∈ es0, EdOk n e) {by_ : List Int} {vis : List Nat} {at0 i : Nat} {out : List ByteArray}
    (hf : FI goR 1 es n place by_ vis at0 i place es' out) (hn : at0 < n) (hs : src.getD at0 false = true) : Fl es0 src n place es' (j + 1) := by
  have ok' := h.same.ok ok
  have hch : ∀ e' ∈ es', ∃ (k : Nat) (e : Ed), es[k]? = some e ∧ es'[k]? = some e' ∧ (e' = e ∨ ∃ u, e.hits u ∧ goR e u = true ∧ e' = e.add (if e.a = u then 1 else -1)) := by
    intro e' he'
    obtain ⟨k, hk⟩ := List.mem_iff_getElem?.1 he'
    have hkl : k < es.length := by rw [← hf.len]; exact (List.getElem?_eq_some_iff.1 hk).1
    refine ⟨k, es[k], List.getElem?_eq_getElem hkl, hk, ?_⟩
    rcases hf.chg k _ (List.getElem?_eq_getElem hkl) with h1 | ⟨u, h1, h2, h3⟩
    · rw [hk] at h1; injection h1 with h1; exact .inl h1
    · rw [hk] at h3; injection h3 with h3; exact .inr ⟨u, h1, h2, h3⟩
  refine ⟨⟨hf.len.trans h.same.1, fun k e e0 he he0 => ?_⟩, fun e' he' hb => ?_, fun e' he' => ?_, fun S hS => ?_⟩
  · have hkl : k < es.length := by rw [← hf.len]; exact (List.getElem?_eq_some_iff.1 he).1
    have h0 := h.same.2 k _ e0 (List.getElem?_eq_getElem hkl) he0
    rcases hf.chg k _ (List.getElem?_eq_getElem hkl) with h1 | ⟨u, h1, h2, h3⟩
    · rw [he] at h1; injection h1 with h1; rw [h1]; exact h0
    · rw [he] at h3; injection h3 with h3; rw [h3]; exact h0
  · obtain ⟨k, e, h1, _, rfl | ⟨u, h3, h4, rfl⟩⟩ := hch e' he'
    · exact h.brk _ (List.mem_of_getElem? h1) hb
    · have hb' : e.brk = true := hb
      have hr := h.brk e (List.mem_of_getElem? h1) hb'
      have hok := ok' e (List.mem_of_getElem? h1)
      unfold goR Ed.room at h4
      rw [hb', if_pos rfl, decide_eq_true_eq] at h4
      unfold EdOk at hok
      unfold Ed.add
      show -1 ≤ e.fl + _ ∧ e.fl + _ ≤ 1
      rcases h3 with h3 | h3
      · rw [if_pos h3]
        rw [if_neg (by omega)] at h4
        omega
      · rw [if_neg (by omega)]
        rw [if_pos h3.symm] at h4
        omega
  · obtain ⟨k, e, h1, _, rfl | ⟨u, h3, h4, rfl⟩⟩ := hch e' he'
    · have := h.lim _ (List.mem_of_getElem? h1); omega
    · have := h.lim e (List.mem_of_getElem? h1)
      unfold Ed.add
      show -((j + 1 : Nat) : Int) ≤ e.fl + _ ∧ e.fl + _ ≤ _
      split <;> omega
  · rw [hf.net S, h.net S hS, hS.1, hS.2 at0 hn hs]
    simp [b2i]
/-- no more than a set of breakers lets through -/
theorem Fl.le {es0 es : List Ed} {src : List Bool} {n place j : Nat} (h : Fl es0 src n place es j) {S : Nat → Bool} (hS : Cut src n place S) (hb : ∀ e ∈ es, cross S e = true → e.brk = true) : j ≤ (es.filter (cross S)).length := by
  have h1 := net_le S es fun e he hc => h.brk e he (hb e he hc)
  rw [h.net S hS] at h1
  omega
end Go.Proofs.Ythedpegaelpbdaa
