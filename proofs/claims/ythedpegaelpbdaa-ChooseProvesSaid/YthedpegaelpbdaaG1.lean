/- Plain theory of flows: a way is followed back to the place; cuts. -/
import Derived.Test.YthedpegaelpbdaaG0
namespace Go.Proofs.Ythedpegaelpbdaa
set_option linter.unusedVariables false

def b2i (b : Bool) : Int := if b then 1 else 0
def Ed.out (S : Nat → Bool) (e : Ed) : Int := (if S e.a then e.fl else 0) - (if S e.b then e.fl else 0)
def net (S : Nat → Bool) (es : List Ed) : Int := (es.map (Ed.out S)).sum
theorem net_set (S : Nat → Bool) : ∀ (es : List Ed) (k : Nat) (e e' : Ed), es[k]? = some e → net S (es.set k e') = net S es + (e'.out S - e.out S)
  | [], k, e, e', h => by simp at h
  | x :: r, 0, e, e', h => by
    simp at h; subst h
    simp [net]; omega
  | x :: r, k + 1, e, e', h => by
    have := net_set S r k e e' (by simpa using h)
    simp only [net, List.set_cons_succ, List.map_cons, List.sum_cons] at this ⊢
    omega
def Ed.add (e : Ed) (s : Int) : Ed := { e with fl := e.fl + s }
theorem out_add (S : Nat → Bool) (e : Ed) (s : Int) : (e.add s).out S - e.out S = s * (b2i (S e.a) - b2i (S e.b)) := by
  unfold Ed.out Ed.add b2i
  cases S e.a <;> cases S e.b <;> simp <;> omega

/-- names of edges that lead from one node to another -/
inductive WP (es : List Ed) : Nat → List ByteArray → Nat → Prop
  | nil (u : Nat) : WP es u [] u
  | cons (e : Ed) (u v : Nat) (r : List ByteArray) (h : e ∈ es) (hh : e.hits u) (t : WP es (e.oth u) r v) : WP es u (e.name :: r) v
theorem WP.snoc {es : List Ed} {u v : Nat} {l : List ByteArray} (h : WP es u l v) {e : Ed} (he : e ∈ es) (hh : e.hits v) : WP es u (l ++ [e.name]) (e.oth v) := by
  induction h with
  | nil u => exact .cons e u _ [] he hh (.nil _)
  | cons e' u v r h1 h2 t ih => exact .cons e' u _ _ h1 h2 (ih hh)

/-- the way back, up to the place number i of the nodes visited -/
structure FI (go : Ed → Nat → Bool) (s : Int) (es0 : List Ed) (n place : Nat) (by_ : List Int) (vis : List Nat) (at0 : Nat) (i at_ : Nat) (es : List Ed) (out : List ByteArray) : Prop where
  pos : vis[i]? = some at_
  len : es.length = es0.length
  same : ∀ (i' v k : Nat), i' ≤ i → 0 < i' → vis[i']? = some v → by_.getD v 0 = (k : Int) → es[k]? = es0[k]?
  chg : ∀ (k : Nat) (e : Ed), es0[k]? = some e → es[k]? = some e ∨ ∃ u : Nat, e.hits u ∧ go e u = true ∧ es[k]? = some (e.add (if e.a = u then s else -s))
  net : ∀ S, net S es = net S es0 + s * (b2i (S at_) - b2i (S at0))
  way : WP es0 at0 out at_
  used : ∀ nm ∈ out, ∃ (k : Nat) (e : Ed) (u : Nat), es0[k]? = some e ∧ e.name = nm ∧ e.hits u ∧ go e u = true ∧ es[k]? = some (e.add (if e.a = u then s else -s))

section
variable {go : Ed → Nat → Bool} {s : Int} {es0 : List Ed} {src : List Bool} {n place : Nat} {by_ : List Int} {vis : List Nat} {d at0 : Nat}
theorem FI.start {i : Nat} (h : vis[i]? = some at0) : FI go s es0 n place by_ vis at0 i at0 es0 [] :=
  ⟨h, rfl, fun _ _ _ _ _ _ _ => rfl, fun _ _ h => .inl h, fun S => by rw [Int.sub_self, Int.mul_zero, Int.add_zero], .nil _, fun _ h => by simp at h⟩
theorem add_ne {e : Ed} {s : Int} (h : s ≠ 0) : e.add s ≠ e := fun hc => by
  have h1 : e.fl + s = e.fl := congrArg Ed.fl hc
  omega
theorem idx_of_nodup {l : List Nat} (h : l.Nodup) {i j v : Nat} (hi : l[i]? = some v) (hj : l[j]? = some v) : i = j := by
  obtain ⟨h1, e1⟩ := List.getElem?_eq_some_iff.1 hi
  obtain ⟨h2, e2⟩ := List.getElem?_eq_some_iff.1 hj
  have hp := List.pairwise_iff_getElem.1 h
  rcases Nat.lt_trichotomy i j with hl | hl | hl
  · exact absurd (e1.trans e2.symm) (hp i j h1 h2 hl)
  · exact hl
  · exact absurd (e2.trans e1.symm) (hp j i h2 h1 hl)

theorem FI.step (B : BI go es0 src n place by_ vis d) (ok : ∀ e ∈ es0, EdOk n e) (hs : s ≠ 0) {i at_ : Nat} {es : List Ed} {out : List ByteArray} (h : FI go s es0 n place by_ vis at0 i at_ es out) (hne : at_ ≠ place) :
    ∃ (k : Nat) (e : Ed) (j : Nat), by_.getD at_ 0 = (k : Int) ∧ es[k]? = some e ∧ es0[k]? = some e ∧ e.hits at_ ∧ j < i ∧
      ((e.b = at_ ∧ FI go s es0 n place by_ vis at0 j e.a (es.set k (e.add s)) (out ++ [e.name])) ∨ (e.b ≠ at_ ∧ FI go s es0 n place by_ vis at0 j e.b (es.set k (e.add (-s))) (out ++ [e.name]))) := by
  have hi : 0 < i := by
    rcases Nat.eq_zero_or_pos i with h0 | h0
    · subst h0; have := h.pos; rw [B.hd] at this; injection this with this; exact absurd this.symm hne
    · exact h0
  obtain ⟨k, e, u, j, p1, p2, p3, p4, p5, p6, p7⟩ := B.par i at_ hi h.pos
  have he : es[k]? = some e := by rw [h.same i at_ k (Nat.le_refl _) hi h.pos p1]; exact p2
  have hek := ok e (List.mem_of_getElem? p2)
  have hkl : k < es.length := (List.getElem?_eq_some_iff.1 he).1
  have hjoin : (e.a = u ∧ e.b = at_) ∨ (e.b = u ∧ e.a = at_) := by
    rcases Ed.oth_cases p5 with ⟨a, b⟩ | ⟨a, b⟩
    · exact .inl ⟨a, by rw [← b, p6]⟩
    · exact .inr ⟨a, by rw [← b, p6]⟩
  have hnotk : ∀ i' v, i' ≤ j → 0 < i' → vis[i']? = some v → by_.getD v 0 ≠ (k : Int) := by
    intro i' v hij hi' hv hk'
    obtain ⟨k2, e2, u2, j2, q1, q2, q3, q4, q5, q6, _⟩ := B.par i' v hi' hv
    have hkk : k2 = k := by omega
    subst hkk
    rw [p2] at q2; injection q2 with q2; subst q2
    have h2 : (e.a = u2 ∧ e.b = v) ∨ (e.b = u2 ∧ e.a = v) := by
      rcases Ed.oth_cases q5 with ⟨a, b⟩ | ⟨a, b⟩
      · exact .inl ⟨a, by rw [← b, q6]⟩
      · exact .inr ⟨a, by rw [← b, q6]⟩
    have hat : at_ = u2 ∨ at_ = v := by
      rcases hjoin with ⟨a, b⟩ | ⟨a, b⟩ <;> rcases h2 with ⟨c, f⟩ | ⟨c, f⟩ <;> omega
    rcases hat with hat | hat
    · subst hat; have := idx_of_nodup B.nd q3 h.pos; omega
    · subst hat; have := idx_of_nodup B.nd hv h.pos; omega
  have key : ∀ (t : Int) (v : Nat), (∀ S, (e.add t).out S - e.out S = s * (b2i (S v) - b2i (S at_))) → (t = if e.a = u then s else -s) → v = u → t ≠ 0 → e.hits at_ → e.oth at_ = v →
      FI go s es0 n place by_ vis at0 j v (es.set k (e.add t)) (out ++ [e.name]) := by
    intro t v hnet htv hv ht0 hh ho
    subst hv
    refine ⟨p3, by simpa using h.len, ?_, ?_, ?_, ?_, ?_⟩
    · intro i' v' k' h1 h2 h3 h4
      have hkk : k ≠ k' := fun hc => hnotk i' v' h1 h2 h3 (by rw [h4, hc])
      rw [List.getElem?_set_ne hkk]
      exact h.same i' v' k' (by omega) h2 h3 h4
    · intro k' e' he'
      by_cases hkk : k = k'
      · subst hkk
        rw [p2] at he'; injection he' with he'; subst he'
        exact .inr ⟨v, p5, p7, by rw [List.getElem?_set_self hkl, htv]⟩
      · rw [List.getElem?_set_ne hkk]; exact h.chg k' e' he'
    · intro S
      rw [net_set S es k e _ he, h.net S, hnet S]
      rw [Int.mul_sub, Int.mul_sub, Int.mul_sub]
      omega
    · have := h.way.snoc (List.mem_of_getElem? p2) hh
      rwa [ho] at this
    · intro nm hnm
      rcases List.mem_append.1 hnm with hnm | hnm
      · obtain ⟨k', e', u', r1, r2, r3, r4, r5⟩ := h.used nm hnm
        have hkk : k ≠ k' := by
          intro hc
          subst hc
          rw [p2] at r1; injection r1 with r1; subst r1
          rw [he] at r5; injection r5 with r5
          exact add_ne (by split <;> omega) r5.symm
        exact ⟨k', e', u', r1, r2, r3, r4, by rw [List.getElem?_set_ne hkk]; exact r5⟩
      · rw [List.mem_singleton.1 hnm]
        exact ⟨k, e, v, p2, rfl, p5, p7, by rw [List.getElem?_set_self hkl, htv]⟩
  refine ⟨k, e, j, p1, he, p2, ?_, p4, ?_⟩
  · rcases hjoin with ⟨_, b⟩ | ⟨_, b⟩
    · exact .inr b
    · exact .inl b
  · rcases hjoin with ⟨a, b⟩ | ⟨a, b⟩
    · refine .inl ⟨b, key s e.a (fun S => by rw [out_add, b]) (by rw [if_pos a]) a hs (.inr b) ?_⟩
      unfold Ed.oth; omega
    · have hba : e.b ≠ at_ := fun hc => hek.2.2 (b.trans hc.symm)
      refine .inr ⟨hba, key (-s) e.b (fun S => ?_) ?_ a (by omega) (.inl b) (by unfold Ed.oth; omega)⟩
      · rw [out_add, b, Int.neg_mul, ← Int.mul_neg]; congr 1; omega
      · rw [if_neg]; intro hc; exact hek.2.2 (hc.trans a.symm)
end
end Go.Proofs.Ythedpegaelpbdaa
