/- The least set of breakers: the cut at the end; ways out of the flow. No program in this text. -/
import Derived.Test.YthedpegaelpbdaaG2
namespace Go.Proofs.Ythedpegaelpbdaa
set_option linter.unusedVariables false

def visS (n : Nat) (by_ : List Int) (v : Nat) : Bool := decide (v < n ∧ by_.getD v 0 ≠ -1)
/-- nothing more can flow: the breakers on the border are as many as the flow -/
theorem Fl.fin {es0 es : List Ed} {src : List Bool} {n place j : Nat} (h : Fl es0 src n place es j) (ok : ∀ e ∈ es0, EdOk n e) (hp : place < n) (hj : j < 1000) {by_ : List Int} {at_ : Int} (hf : Found goR es src n place by_ at_) (h0 : at_ < 0) :
    Cut src n place (visS n by_) ∧ (∀ e ∈ es, cross (visS n by_) e = true → e.brk = true) ∧ (es.filter (cross (visS n by_))).length = j := by
  have ok' := h.same.ok ok
  obtain ⟨_, h2, h3, h4, h5⟩ := found_none ok' hp hf h0
  replace h3 : Closed goR es (visS n by_) := h3
  have hcut : Cut src n place (visS n by_) := ⟨by unfold visS; simp only [decide_eq_true_eq]; exact ⟨hp, h4⟩, fun v hv hs => by unfold visS; rw [h5 v hv hs]; simp⟩
  have key : ∀ e ∈ es, (visS n by_ e.a = true → visS n by_ e.b = false → e.brk = true ∧ e.fl = 1) ∧ (visS n by_ e.a = false → visS n by_ e.b = true → e.brk = true ∧ e.fl = -1) := by
    intro e he
    have hok := ok' e he
    have hl := h.lim e he
    unfold EdOk at hok
    constructor
    · intro ha hb
      have hgo : goR e e.a = false := by
        cases hg : goR e e.a with
        | false => rfl
        | true =>
          have := h3 e he e.a (.inl rfl) hg ha
          have ho : e.oth e.a = e.b := by unfold Ed.oth; omega
          rw [ho, hb] at this
          cases this
      unfold goR Ed.room at hgo
      rw [decide_eq_false_iff_not, if_neg (show e.a ≠ e.b from hok.2.2)] at hgo
      cases hbk : e.brk with
      | true => rw [hbk, if_pos rfl] at hgo; have := h.brk e he hbk; exact ⟨rfl, by omega⟩
      | false => rw [hbk, if_neg (by simp)] at hgo; omega
    · intro ha hb
      have hgo : goR e e.b = false := by
        cases hg : goR e e.b with
        | false => rfl
        | true =>
          have := h3 e he e.b (.inr rfl) hg hb
          have ho : e.oth e.b = e.a := by unfold Ed.oth; omega
          rw [ho, ha] at this
          cases this
      unfold goR Ed.room at hgo
      rw [decide_eq_false_iff_not, if_pos (rfl : e.b = e.b)] at hgo
      cases hbk : e.brk with
      | true => rw [hbk, if_pos rfl] at hgo; have := h.brk e he hbk; exact ⟨rfl, by omega⟩
      | false => rw [hbk, if_neg (by simp)] at hgo; omega
  refine ⟨hcut, fun e he hc => ?_, ?_⟩
  · unfold cross at hc
    cases ha : visS n by_ e.a <;> cases hb : visS n by_ e.b <;> rw [ha, hb] at hc <;> simp at hc
    · exact ((key e he).2 ha hb).1
    · exact ((key e he).1 ha hb).1
  · have h1 := net_eq (visS n by_) es fun e he => ⟨fun a b => ((key e he).1 a b).2, fun a b => ((key e he).2 a b).2⟩
    rw [h.net _ hcut] at h1
    omega

/-! ### ways -/
def goW (e : Ed) (u : Nat) : Bool := (decide (e.a = u) && decide (0 < e.fl)) || (decide (e.b = u) && decide (e.fl < 0))
theorem WP.same {es es0 : List Ed} (h : SameG es es0) {u v : Nat} {l : List ByteArray} (w : WP es u l v) : WP es0 u l v := by
  induction w with
  | nil u => exact .nil u
  | cons e u v r h1 h2 t ih =>
    obtain ⟨k, hk⟩ := List.mem_iff_getElem?.1 h1
    obtain ⟨e', g1, g2, g3, g4, _⟩ := h.at_ hk
    rw [g4]
    refine .cons e' u v r (List.mem_of_getElem? g1) ?_ ?_
    · unfold Ed.hits at h2 ⊢; rw [← g2, ← g3]; exact h2
    · have ho : e.oth u = e'.oth u := by unfold Ed.oth; rw [g2, g3]
      rw [← ho]; exact ih
/-- ways taken out of a flow -/
structure Wf (es0 : List Ed) (src : List Bool) (n place : Nat) (es : List Ed) (j : Nat) (ws : List (List ByteArray)) : Prop where
  same : SameG es es0
  brk : ∀ e ∈ es, e.brk = true → -1 ≤ e.fl ∧ e.fl ≤ 1
  net : ∀ S, Cut src n place S → net S es = j
  way : ∀ w ∈ ws, ∃ at0, at0 < n ∧ src.getD at0 false = true ∧ WP es0 at0 w place
  spent : ∀ w ∈ ws, ∀ nm ∈ w, ∀ e ∈ es, e.name = nm → e.brk = true → e.fl = 0
  dis : ws.Pairwise fun w w' => ∀ nm ∈ w, nm ∈ w' → ∀ e ∈ es0, e.name = nm → e.brk = false
theorem Fl.ways {es0 es : List Ed} {src : List Bool} {n place j : Nat} (h : Fl es0 src n place es j) : Wf es0 src n place es j [] :=
  ⟨h.same, h.brk, h.net, fun w hw => by simp at hw, fun w hw => by simp at hw, .nil⟩
/-- while something flows, a source is found -/
theorem Wf.finds {es0 es : List Ed} {src : List Bool} {n place j : Nat} {ws : List (List ByteArray)} (h : Wf es0 src n place es (j + 1) ws) (ok : ∀ e ∈ es0, EdOk n e) (hp : place < n) {by_ : List Int} {at_ : Int} (hf : Found goW es src n place by_ at_) : ∃ (vis : List Nat) (d u : Nat), BI goW es src n place by_ vis d ∧ at_ = (u : Int) ∧ vis[d]? = some u ∧ src.getD u false = true := by
  have ok' := h.same.ok ok
  obtain ⟨vis, d, hb, h1 | ⟨u, h1, h2, h3⟩⟩ := hf.ex
  · exfalso
    obtain ⟨_, g2, g3, g4, g5⟩ := found_none ok' hp hf (by rw [h1.1]; decide)
    replace g3 : Closed goW es (visS n by_) := g3
    have hcut : Cut src n place (visS n by_) := ⟨by unfold visS; simp only [decide_eq_true_eq]; exact ⟨hp, g4⟩, fun v hv hs => by unfold visS; rw [g5 v hv hs]; simp⟩
    have hle := net_nonpos (visS n by_) es fun e he => by
      have hok := ok' e he
      unfold EdOk at hok
      constructor
      · intro ha hb
        refine Decidable.byContradiction fun hn => ?_
        have hg : goW e e.a = true := by unfold goW; simp; omega
        have := g3 e he e.a (.inl rfl) hg ha
        have ho : e.oth e.a = e.b := by unfold Ed.oth; omega
        rw [ho, hb] at this
        cases this
      · intro ha hb
        refine Decidable.byContradiction fun hn => ?_
        have hg : goW e e.b = true := by unfold goW; simp; omega
        have := g3 e he e.b (.inr rfl) hg hb
        have ho : e.oth e.b = e.a := by unfold Ed.oth; omega
        rw [ho, ha] at this
        cases this
    rw [h.net _ hcut] at hle
    omega
  · exact ⟨vis, d, u, hb, h1, h2, h3⟩
/-- a breaker's name is no other edge's -/
def OneName (es0 : List Ed) : Prop := ∀ (k m : Nat) (e f : Ed), es0[k]? = some e → es0[m]? = some f → e.name = f.name → e.brk = true → k = m
theorem Wf.take {es0 es es' : List Ed} {src : List Bool} {n place j : Nat} {ws : List (List ByteArray)} (h : Wf es0 src n place es (j + 1) ws) (ok : ∀ e ∈ es0, EdOk n e) (h1n : OneName es0) {by_ : List Int} {vis : List Nat} {at0 i : Nat} {out : List ByteArray}
    (hf : FI goW (-1) es n place by_ vis at0 i place es' out) (hn : at0 < n) (hs : src.getD at0 false = true) : Wf es0 src n place es' j (ws ++ [out]) := by
  have ok' := h.same.ok ok
  have hch : ∀ (k : Nat) (e' : Ed), es'[k]? = some e' → ∃ e : Ed, es[k]? = some e ∧ (e' = e ∨ ∃ u, e.hits u ∧ goW e u = true ∧ e' = e.add (if e.a = u then -1 else 1)) := by
    intro k e' hk
    have hkl : k < es.length := by rw [← hf.len]; exact (List.getElem?_eq_some_iff.1 hk).1
    refine ⟨es[k], List.getElem?_eq_getElem hkl, ?_⟩
    rcases hf.chg k _ (List.getElem?_eq_getElem hkl) with h1 | ⟨u, h1, h2, h3⟩
    · rw [hk] at h1; injection h1 with h1; exact .inl h1
    · rw [hk] at h3; injection h3 with h3; exact .inr ⟨u, h1, h2, by rw [h3]; simp⟩
  have step : ∀ (e : Ed) (u : Nat), e ∈ es → e.hits u → goW e u = true → e.brk = true → (e.add (if e.a = u then -1 else 1)).fl = 0 := by
    intro e u he h3 h4 hb
    have hr := h.brk e he hb
    have hok := ok' e he
    unfold EdOk at hok
    unfold goW at h4
    simp only [Bool.or_eq_true, Bool.and_eq_true, decide_eq_true_eq] at h4
    show e.fl + _ = 0
    rcases h4 with h4 | h4
    · rw [if_pos h4.1]; omega
    · rw [if_neg (by omega)]; omega
  have hsame : SameG es' es0 := ⟨hf.len.trans h.same.1, fun k e' e0 he he0 => by
    obtain ⟨e, g1, g2⟩ := hch k e' he
    have h0 := h.same.2 k e e0 g1 he0
    rcases g2 with rfl | ⟨u, _, _, rfl⟩
    · exact h0
    · exact h0⟩
  have hused : ∀ nm ∈ out, ∀ (k : Nat) (e' : Ed), es'[k]? = some e' → e'.name = nm → e'.brk = true → e'.fl = 0 ∧ ∃ (e : Ed) (u : Nat), es[k]? = some e ∧ goW e u = true ∧ e.hits u := by
    intro nm hnm k e' hk hne hb
    obtain ⟨k2, e, u, r1, r2, r3, r4, r5⟩ := hf.used nm hnm
    obtain ⟨f0, q1, _, _, q4, q5⟩ := hsame.at_ hk
    obtain ⟨f2, p1, _, _, p4, p5⟩ := h.same.at_ r1
    have hkk : k = k2 := h1n k k2 f0 f2 q1 p1 (by rw [← q4, ← p4, hne, r2]) (by rw [← q5]; exact hb)
    subst hkk
    rw [hk] at r5; injection r5 with r5
    have hb2 : e.brk = true := by rw [r5] at hb; exact hb
    exact ⟨by have := step e u (List.mem_of_getElem? r1) r3 r4 hb2; rw [r5]; simpa using this, e, u, r1, r4, r3⟩
  refine ⟨hsame, fun e' he' hb => ?_, fun S hS => ?_, fun w hw => ?_, fun w hw nm hnm e' he' hne hb => ?_, ?_⟩
  · obtain ⟨k, hk⟩ := List.mem_iff_getElem?.1 he'
    obtain ⟨e, g1, rfl | ⟨u, g2, g3, rfl⟩⟩ := hch k e' hk
    · exact h.brk _ (List.mem_of_getElem? g1) hb
    · rw [step e u (List.mem_of_getElem? g1) g2 g3 hb]; omega
  · rw [hf.net S, h.net S hS, hS.1, hS.2 at0 hn hs]
    simp [b2i]; omega
  · rcases List.mem_append.1 hw with hw | hw
    · exact h.way w hw
    · rw [List.mem_singleton.1 hw]; exact ⟨at0, hn, hs, hf.way.same h.same⟩
  · obtain ⟨k, hk⟩ := List.mem_iff_getElem?.1 he'
    rcases List.mem_append.1 hw with hw | hw
    · obtain ⟨e, g1, rfl | ⟨u, g2, g3, rfl⟩⟩ := hch k e' hk
      · exact h.spent w hw nm hnm _ (List.mem_of_getElem? g1) hne hb
      · exact step e u (List.mem_of_getElem? g1) g2 g3 hb
    · rw [List.mem_singleton.1 hw] at hnm
      exact (hused nm hnm k e' hk hne hb).1
  · rw [List.pairwise_append]
    refine ⟨h.dis, by simp, fun w hw w' hw' nm hnm hnm' e0 he0 hne => ?_⟩
    rw [List.mem_singleton.1 hw'] at hnm'
    cases hb : e0.brk with
    | false => rfl
    | true =>
      exfalso
      obtain ⟨k, hk⟩ := List.mem_iff_getElem?.1 he0
      have hkl : k < es'.length := by rw [hsame.1]; exact (List.getElem?_eq_some_iff.1 hk).1
      have hk' := List.getElem?_eq_getElem hkl
      obtain ⟨_, _, h3, h4⟩ := hsame.2 k _ e0 hk' hk
      obtain ⟨_, e, u, g1, g2, g3⟩ := hused nm hnm' k _ hk' (h3.trans hne) (h4.trans hb)
      obtain ⟨_, _, h7, h8⟩ := h.same.2 k e e0 g1 hk
      have hz := h.spent w hw nm hnm e (List.mem_of_getElem? g1) (h7.trans hne) (h8.trans hb)
      unfold goW at g2
      rw [hz] at g2
      simp at g2
end Go.Proofs.Ythedpegaelpbdaa
