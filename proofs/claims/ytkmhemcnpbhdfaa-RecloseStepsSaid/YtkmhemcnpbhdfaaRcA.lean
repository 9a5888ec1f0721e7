/- Automatic reclosing: what the steps of Shots are (plain law of RecloseSteps). -/
import Derived.Test.YtkmhemcnpbhdfaaRc4
namespace Go.Proofs.Ytkmhemcnpbhdfaa
open Go.ChangeShapes Go.WideShapes Go.ChangeAt Go.RowKit
set_option linter.unusedVariables false

/-- each attempt is a dead time after its trip -/
def StepsOk (dead trips l : List Int) : Prop := ∀ (k : Nat) (t : Int), l[k]? = some t → ∃ s d, trips[k]? = some s ∧ t = s + d ∧ d ∈ dead ∧ 0 ≤ s ∧ s ≤ 1000000000
/-- what the law asks of the result -/
structure StepsSaid (dead trips : List Int) (R : List Int × Int × Int) : Prop where
  bad : R.2.2 ≠ 0 → R.1 = [] ∧ R.2.1 = 0
  lo : R.2.2 = 0 → 0 ≤ R.2.1 ∧ R.2.1 ≤ trips.length ∧ R.1.length ≤ trips.length
  st : R.2.2 = 0 → StepsOk dead trips R.1
  fin : R.2.2 = 0 → (R.2.1 = 0 ∧ (R.1.length = trips.length ∨ R.1.length + 1 = trips.length)) ∨ (R.2.1 ≠ 0 ∧ R.2.1 = R.1.length + 1 ∧ dead.length ≤ R.1.length)

/-- the device at the head of a round -/
structure Head (dead trips : List Int) (x : Rc) (out : List Int) (i : Nat) : Prop where
  ok : x.Ok dead
  iv : x.Iv
  at_ : x.att ≤ out.length
  so : StepsOk dead trips out
  cases_ : (i = 0 ∧ x.state = 0 ∧ out = []) ∨ (1 ≤ i ∧ x.state = 1 ∧ out.length + 1 = i ∧ trips[i - 1]? = some x.since)

theorem head_fire {dead trips : List Int} {x : Rc} {out : List Int} {i : Nat} (h : Head dead trips x out i) {before : Int} (hf : x.fires dead before = true) :
    StepsOk dead trips (out ++ [x.nextT dead]) ∧ (out ++ [x.nextT dead]).length = i := by
  have hs : x.state = 1 := by simp [Rc.fires] at hf; exact hf.1
  rcases h.cases_ with ⟨_, h0, _⟩ | ⟨h1, _, h2, h3⟩
  · omega
  · refine ⟨fun k t hk => ?_, by simp; omega⟩
    by_cases hlt : k < out.length
    · rw [List.getElem?_append_left hlt] at hk
      exact h.so k t hk
    · have hke : k = out.length := by have := (List.getElem?_eq_some_iff.1 hk).1; simp at this; omega
      subst hke
      simp at hk
      have hw := h.ok.wt hs
      refine ⟨x.since, dead.getD x.att 0, ?_, by rw [← hk]; rfl, ?_, h.ok.s0, by have := h.ok.sn; have := h.ok.n1; omega⟩
      · rw [show out.length = i - 1 from by omega]; exact h3
      · rw [List.getD_eq_getElem?_getD, List.getElem?_eq_getElem hw]; exact List.getElem_mem hw

theorem steps_go (dead trips : List Int) : ∀ (rest : List Int) (x : Rc) (out : List Int) (i : Nat), trips.drop i = rest → Head dead trips x out i → StepsSaid dead trips (shGo dead x out rest i)
  | [], x, out, i, hd, h => by
    have hi : i ≤ trips.length ∧ trips.length ≤ i ∨ trips.length = 0 ∧ i = 0 ∨ trips.length ≤ i := by rw [List.drop_eq_nil_iff] at hd; omega
    have hle : trips.length ≤ i := by rw [List.drop_eq_nil_iff] at hd; exact hd
    have hge : i ≤ trips.length := by
      rcases h.cases_ with ⟨h0, _⟩ | ⟨h1, _, _, h3⟩
      · omega
      · have := (List.getElem?_eq_some_iff.1 h3).1; omega
    show StepsSaid dead trips (x.out1 dead out 1000000001, 0, 0)
    unfold Rc.out1
    cases hf : x.fires dead 1000000001 with
    | true =>
      obtain ⟨h1, h2⟩ := head_fire h hf
      simp only [if_true]
      exact ⟨fun hh => absurd rfl hh, fun _ => ⟨by simp, by simp, by show (out ++ [_]).length ≤ _; omega⟩, fun _ => h1, fun _ => .inl ⟨rfl, .inl (by show (out ++ [_]).length = _; omega)⟩⟩
    | false =>
      simp only [Bool.false_eq_true, if_false]
      refine ⟨fun hh => absurd rfl hh, fun _ => ⟨by simp, by simp, ?_⟩, fun _ => h.so, fun _ => .inl ⟨rfl, ?_⟩⟩
      · show out.length ≤ _
        rcases h.cases_ with ⟨h0, _, h2⟩ | ⟨h1, _, h2, h3⟩
        · subst h2; simp
        · omega
      · show out.length = _ ∨ out.length + 1 = _
        rcases h.cases_ with ⟨h0, _, h2⟩ | ⟨h1, _, h2, h3⟩
        · subst h2; left; simp; omega
        · right; omega
  | t :: r, x, out, i, hd, h => by
    have hti : trips[i]? = some t := by
      have : (trips.drop i)[0]? = some t := by rw [hd]; rfl
      rw [List.getElem?_drop] at this; simpa using this
    have hdr : trips.drop (i + 1) = r := by rw [← List.tail_drop, hd]; rfl
    have hil := (List.getElem?_eq_some_iff.1 hti).1
    have hbad : ∀ e : Int, e ≠ 0 → StepsSaid dead trips ([], 0, e) := fun e he => ⟨fun _ => ⟨rfl, rfl⟩, fun hh => absurd hh he, fun hh => absurd hh he, fun hh => absurd hh he⟩
    unfold shGo
    by_cases h1 : t < (x.att1 dead t).now ∨ 1000000000 < t
    · rw [if_pos h1]; exact hbad 12 (by decide)
    rw [if_neg h1]
    by_cases h2 : ((x.att1 dead t).at_ t).state = 1 ∨ ((x.att1 dead t).at_ t).state = 3
    · rw [if_pos h2]; exact hbad 11 (by decide)
    rw [if_neg h2]
    have hn1 : (x.att1 dead t).now ≤ t := by omega
    have hn2 : t ≤ 1000000000 := by omega
    -- the device behind the attempt
    have key : (x.att1 dead t).Ok dead ∧ (x.att1 dead t).att ≤ (x.out1 dead out t).length ∧ StepsOk dead trips (x.out1 dead out t) ∧ (x.out1 dead out t).length = i := by
      cases hf : x.fires dead t with
      | true =>
        obtain ⟨g1, g2⟩ := head_fire h hf
        have e1 : x.att1 dead t = x.tick dead (x.nextT dead) := by unfold Rc.att1; rw [if_pos hf]
        have e2 : x.out1 dead out t = out ++ [x.nextT dead] := by unfold Rc.out1; rw [if_pos hf]
        have hx := h.iv.next_ h.ok hf
        have ht := tick_state h.iv h.ok hf
        rw [e1, e2]
        refine ⟨h.ok.tick hx.1 (by omega), ?_, g1, g2⟩
        rw [ht.2.2.2.1]
        have := h.at_
        simp; exact this
      | false =>
        have e1 : x.att1 dead t = x := by unfold Rc.att1; rw [hf]; rfl
        have e2 : x.out1 dead out t = out := by unfold Rc.out1; rw [hf]; rfl
        rw [e1] at h2
        rw [e1, e2]
        rcases h.cases_ with ⟨g0, _, g2⟩ | ⟨g1, g2, g3, g4⟩
        · exact ⟨h.ok, h.at_, h.so, by subst g2; simp; omega⟩
        · exfalso
          apply h2
          left
          unfold Rc.at_
          rw [if_neg (by omega)]
          exact g2
    obtain ⟨k1, k2, k3, k4⟩ := key
    have hiv2 := h.iv.att1 h.ok t
    generalize x.att1 dead t = y at *
    generalize x.out1 dead out t = out2 at *
    have hatt : (y.at_ t).att ≤ out2.length := by
      unfold Rc.at_
      split
      · exact Nat.zero_le _
      · exact k2
    by_cases h3 : (y.at_ t).att = dead.length
    · rw [if_pos h3]
      exact ⟨fun hh => absurd rfl hh, fun _ => ⟨by dsimp only; omega, by dsimp only; omega, by dsimp only; omega⟩, fun _ => k3, fun _ => .inr ⟨by dsimp only; omega, by dsimp only; omega, by dsimp only; omega⟩⟩
    · rw [if_neg h3]
      refine steps_go dead trips r _ _ _ hdr ⟨k1.trip hn1 hn2, trip_iv _ _ _, ?_, k3, .inr ⟨by omega, ?_, by omega, ?_⟩⟩
      · exact hatt
      · unfold Rc.trip; dsimp only; rw [if_neg h3]
      · show trips[i + 1 - 1]? = some t
        rw [Nat.add_sub_cancel]; exact hti

theorem steps_law (dead : List Int) (r : Int) (trips : List Int) (hl : trips.length ≤ 12) : StepsSaid dead trips (shotsR dead r trips) := by
  unfold shotsR
  by_cases hc : ckR dead r = 0
  · rw [if_neg (by rw [hc]; simp), if_neg (by omega)]
    obtain ⟨q1, q2, q3, q4, q5⟩ := ckR_ok hc
    refine steps_go dead trips trips _ [] 0 rfl ⟨⟨q1, q2, q3, q4, q5, by simp, by simp, by simp, Nat.zero_le _, fun h => by cases h⟩, ⟨(fun h => by cases h), by simp, by simp⟩, Nat.zero_le _, fun k t hk => by simp at hk, .inl ⟨rfl, rfl, rfl⟩⟩
  · rw [if_pos hc]
    exact ⟨fun _ => ⟨rfl, rfl⟩, fun hh => absurd hh hc, fun hh => absurd hh hc, fun hh => absurd hh hc⟩
end Go.Proofs.Ytkmhemcnpbhdfaa
