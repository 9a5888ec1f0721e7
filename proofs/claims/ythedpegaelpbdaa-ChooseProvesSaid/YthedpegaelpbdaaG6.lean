/- Ways out of a flow, as functions. No program in this text. -/
import Derived.Test.YthedpegaelpbdaaG5
namespace Go.Proofs.Ythedpegaelpbdaa
set_option linter.unusedVariables false

section
variable {go : Ed → Nat → Bool} {s : Int} {es0 : List Ed} {src : List Bool} {n place : Nat} {by_ : List Int} {vis : List Nat} {d at0 : Nat}
theorem back_FI (B : BI go es0 src n place by_ vis d) (ok : ∀ e ∈ es0, EdOk n e) (hs : s ≠ 0) : ∀ (m i : Nat), i ≤ m → ∀ (at_ : Nat) (es : List Ed) (out : List ByteArray), FI go s es0 n place by_ vis at0 i at_ es out → ∀ f, i ≤ f → ∃ j, FI go s es0 n place by_ vis at0 j place (back s by_ place f es at_ out).1 (back s by_ place f es at_ out).2 := by
  intro m
  induction m with
  | zero =>
    intro i hi at_ es out hf f _
    have hp : at_ = place := by
      have h := hf.pos
      rw [show i = 0 from by omega, B.hd] at h
      injection h with h; exact h.symm
    subst hp
    rw [back_place]
    exact ⟨i, hf⟩
  | succ m ih =>
    intro i hi at_ es out hf f h1
    by_cases hp : at_ = place
    · subst hp; rw [back_place]; exact ⟨i, hf⟩
    · obtain ⟨k, e, j, q1, q2, _, _, hj, hc⟩ := hf.step B ok hs hp
      obtain ⟨g, rfl⟩ : ∃ g, f = g + 1 := ⟨f - 1, by omega⟩
      rcases hc with ⟨hb, hF⟩ | ⟨hb, hF⟩
      · rw [back_b hp q1 q2 hb]
        exact ih j (by omega) _ _ _ hF g (by omega)
      · rw [back_a hp q1 q2 hb]
        exact ih j (by omega) _ _ _ hF g (by omega)
theorem FI.lim {i at_ : Nat} {es : List Ed} {out : List ByteArray} (h : FI go s es0 n place by_ vis at0 i at_ es out) (hs : s = 1 ∨ s = -1) {L : Int} (hl : ∀ e ∈ es0, -L ≤ e.fl ∧ e.fl ≤ L) : ∀ e ∈ es, -(L + 1) ≤ e.fl ∧ e.fl ≤ L + 1 := by
  intro e he
  obtain ⟨k, hk⟩ := List.mem_iff_getElem?.1 he
  have hkl : k < es0.length := by rw [← h.len]; exact (List.getElem?_eq_some_iff.1 hk).1
  have h0 := hl _ (List.getElem_mem hkl)
  rcases h.chg k _ (List.getElem?_eq_getElem hkl) with h1 | ⟨u, _, _, h3⟩
  · rw [hk] at h1; injection h1 with h1; rw [h1]; omega
  · rw [hk] at h3; injection h3 with h3; rw [h3]
    unfold Ed.add
    show -(L + 1) ≤ _ + _ ∧ _ + _ ≤ L + 1
    rcases hs with rfl | rfl <;> split <;> omega
theorem FI.same_ {i at_ : Nat} {es : List Ed} {out : List ByteArray} (h : FI go s es0 n place by_ vis at0 i at_ es out) : SameG es es0 :=
  ⟨h.len, fun k e' e0 he he0 => by
    rcases h.chg k e0 he0 with h1 | ⟨u, _, _, h3⟩
    · rw [he] at h1; injection h1 with h1; rw [h1]; exact ⟨rfl, rfl, rfl, rfl⟩
    · rw [he] at h3; injection h3 with h3; rw [h3]; exact ⟨rfl, rfl, rfl, rfl⟩⟩
end
theorem SameG.trans {a b c : List Ed} (h : SameG a b) (k : SameG b c) : SameG a c :=
  ⟨h.1.trans k.1, fun i e e' he he' => by
    obtain ⟨e2, h1, h2, h3, h4, h5⟩ := h.at_ he
    obtain ⟨k2, k3, k4, k5⟩ := k.2 i e2 e' h1 he'
    exact ⟨h2.trans k2, h3.trans k3, h4.trans k4, h5.trans k5⟩⟩
/-- one way taken out; whatever the flow -/
theorem wayR_same {src : List Bool} {n place : Nat} {es : List Ed} (ok : ∀ e ∈ es, EdOk n e) (hp : place < n) {L : Int} (hL : 0 ≤ L) (hl : ∀ e ∈ es, -L ≤ e.fl ∧ e.fl ≤ L) : SameG (wayR src n place es).1 es ∧ ∀ e ∈ (wayR src n place es).1, -(L + 1) ≤ e.fl ∧ e.fl ≤ L + 1 := by
  have hF := bfsR_found (src := src) ok hp (go := goW)
  obtain ⟨vis, d, hb, h1 | ⟨u, h1, h2, h3⟩⟩ := hF.ex
  · have : wayR src n place es = (es, []) := by unfold wayR; rw [h1.1]; rfl
    rw [this]
    exact ⟨SameG.refl es, fun e he => by have := hl e he; omega⟩
  · have hw : wayR src n place es = back (-1) (bfsR goW es src n place).1 place n es u [] := by
      unfold wayR
      rw [h1, if_neg (by omega), Int.toNat_natCast]
    have hdn : d ≤ n := by have := hb.len_le; have := (List.getElem?_eq_some_iff.1 h2).1; omega
    obtain ⟨j, hj⟩ := back_FI (s := -1) hb ok (by decide) d d (Nat.le_refl _) u es [] (FI.start h2) n hdn
    rw [hw]
    exact ⟨hj.same_, hj.lim (.inr rfl) hl⟩
theorem Wf.step {es0 es : List Ed} {src : List Bool} {n place j : Nat} {ws : List (List ByteArray)} (h : Wf es0 src n place es (j + 1) ws) (ok : ∀ e ∈ es0, EdOk n e) (hp : place < n) (h1n : OneName es0) : Wf es0 src n place (wayR src n place es).1 j (ws ++ [(wayR src n place es).2]) := by
  have ok' := h.same.ok ok
  have hF := bfsR_found (src := src) ok' hp (go := goW)
  obtain ⟨vis, d, u, hb, h1, h2, h3⟩ := h.finds ok hp hF
  have hw : wayR src n place es = back (-1) (bfsR goW es src n place).1 place n es u [] := by
    unfold wayR
    rw [h1, if_neg (by omega), Int.toNat_natCast]
  have hdn : d ≤ n := by have := hb.len_le; have := (List.getElem?_eq_some_iff.1 h2).1; omega
  obtain ⟨i, hi⟩ := back_FI (s := -1) hb ok' (by decide) d d (Nat.le_refl _) u es [] (FI.start h2) n hdn
  rw [hw]
  exact h.take ok h1n hi (hb.lt u (List.mem_of_getElem? h2)) h3
theorem waysR_snoc (src : List Bool) (n place : Nat) : ∀ (m : Nat) (es : List Ed) (ws : List (List ByteArray)), waysR src n place (m + 1) es ws = waysR src n place m (wayR src n place es).1 (ws ++ [(wayR src n place es).2]) := fun _ _ _ => rfl
theorem waysR_len (src : List Bool) (n place : Nat) : ∀ (m : Nat) (es : List Ed) (ws : List (List ByteArray)), (waysR src n place m es ws).length = ws.length + m
  | 0, es, ws => rfl
  | m + 1, es, ws => by rw [waysR_snoc, waysR_len src n place m]; simp; omega
theorem Wf.all {es0 : List Ed} {src : List Bool} {n place : Nat} (ok : ∀ e ∈ es0, EdOk n e) (hp : place < n) (h1n : OneName es0) : ∀ (j : Nat) (es : List Ed) (ws : List (List ByteArray)), Wf es0 src n place es j ws → ∃ es', Wf es0 src n place es' 0 (waysR src n place j es ws)
  | 0, es, ws, h => ⟨es, h⟩
  | j + 1, es, ws, h => by rw [waysR_snoc]; exact Wf.all ok hp h1n j _ _ (h.step ok hp h1n)
/-- the border of what is reached: the breakers on it -/
theorem borderR_eq {n place : Nat} {by_ : List Int} {es : List Ed} (ok : ∀ e ∈ es, EdOk n e) (hb : ∀ e ∈ es, cross (visS n by_) e = true → e.brk = true) : borderR by_ es = (es.filter (cross (visS n by_))).map Ed.name := by
  unfold borderR
  congr 1
  refine List.filter_congr fun e he => ?_
  have hok := ok e he
  unfold EdOk at hok
  have hv : ∀ v, v < n → visS n by_ v = !(by_.getD v 0 == -1) := fun v hv => by unfold visS; rw [Bool.eq_iff_iff]; simp [hv]
  have hc : ((by_.getD e.a 0 == -1) != (by_.getD e.b 0 == -1)) = cross (visS n by_) e := by
    unfold cross
    rw [hv _ hok.1, hv _ hok.2.1]
    cases by_.getD e.a 0 == -1 <;> cases by_.getD e.b 0 == -1 <;> rfl
  rw [hc]
  cases hx : cross (visS n by_) e with
  | false => simp
  | true => rw [hb e he hx]; rfl
end Go.Proofs.Ythedpegaelpbdaa
