/- Ways back and pushes, as functions. No program in this text. -/
import Derived.Test.YthedpegaelpbdaaG4
namespace Go.Proofs.Ythedpegaelpbdaa
set_option linter.unusedVariables false

/-- the way back from a node to the place, over the edges that led there; the flows change by s -/
def back (s : Int) (by_ : List Int) (place : Nat) : Nat → List Ed → Nat → List ByteArray → List Ed × List ByteArray
  | 0, es, _, out => (es, out)
  | f + 1, es, at_, out => if at_ = place then (es, out) else match es[(by_.getD at_ 0).toNat]? with
    | none => (es, out)
    | some e => if e.b = at_ then back s by_ place f (es.set (by_.getD at_ 0).toNat (e.add s)) e.a (out ++ [e.name]) else back s by_ place f (es.set (by_.getD at_ 0).toNat (e.add (-s))) e.b (out ++ [e.name])
section
variable {go : Ed → Nat → Bool} {s : Int} {es0 : List Ed} {src : List Bool} {n place : Nat} {by_ : List Int} {vis : List Nat} {d at0 : Nat}
theorem back_place {f : Nat} {es : List Ed} {out : List ByteArray} : back s by_ place f es place out = (es, out) := by
  cases f with
  | zero => rfl
  | succ f => show (if place = place then _ else _) = _; rw [if_pos rfl]
theorem back_b {f k : Nat} {es : List Ed} {at_ : Nat} {out : List ByteArray} {e : Ed} (hne : at_ ≠ place) (hk : by_.getD at_ 0 = (k : Int)) (he : es[k]? = some e) (hb : e.b = at_) : back s by_ place (f + 1) es at_ out = back s by_ place f (es.set k (e.add s)) e.a (out ++ [e.name]) := by
  show (if at_ = place then _ else _) = _
  rw [if_neg hne, hk, Int.toNat_natCast, he]
  dsimp only
  rw [if_pos hb]
theorem back_a {f k : Nat} {es : List Ed} {at_ : Nat} {out : List ByteArray} {e : Ed} (hne : at_ ≠ place) (hk : by_.getD at_ 0 = (k : Int)) (he : es[k]? = some e) (hb : e.b ≠ at_) : back s by_ place (f + 1) es at_ out = back s by_ place f (es.set k (e.add (-s))) e.b (out ++ [e.name]) := by
  show (if at_ = place then _ else _) = _
  rw [if_neg hne, hk, Int.toNat_natCast, he]
  dsimp only
  rw [if_neg hb]
/-- more fuel changes nothing -/
theorem back_fuel (B : BI go es0 src n place by_ vis d) (ok : ∀ e ∈ es0, EdOk n e) (hs : s ≠ 0) : ∀ (m i : Nat), i ≤ m → ∀ (at_ : Nat) (es : List Ed) (out : List ByteArray), FI go s es0 n place by_ vis at0 i at_ es out → ∀ f f', i ≤ f → i ≤ f' → back s by_ place f es at_ out = back s by_ place f' es at_ out := by
  intro m
  induction m with
  | zero =>
    intro i hi at_ es out hf f f' _ _
    have hp : at_ = place := by
      have h := hf.pos
      rw [show i = 0 from by omega, B.hd] at h
      injection h with h; exact h.symm
    subst hp
    rw [back_place, back_place]
  | succ m ih =>
    intro i hi at_ es out hf f f' h1 h2
    by_cases hp : at_ = place
    · subst hp; rw [back_place, back_place]
    · obtain ⟨k, e, j, q1, q2, _, _, hj, hc⟩ := hf.step B ok hs hp
      obtain ⟨g, rfl⟩ : ∃ g, f = g + 1 := ⟨f - 1, by omega⟩
      obtain ⟨g', rfl⟩ : ∃ g, f' = g + 1 := ⟨f' - 1, by omega⟩
      rcases hc with ⟨hb, hF⟩ | ⟨hb, hF⟩
      · rw [back_b hp q1 q2 hb, back_b hp q1 q2 hb]
        exact ih j (by omega) _ _ _ hF g g' (by omega) (by omega)
      · rw [back_a hp q1 q2 hb, back_a hp q1 q2 hb]
        exact ih j (by omega) _ _ _ hF g g' (by omega) (by omega)
end
/-- pushing as often as there is fuel -/
def pushR (src : List Bool) (n place : Nat) : Nat → List Ed → List Ed × Bool
  | 0, es => (es, false)
  | m + 1, es => if (bfsR goR es src n place).2 < 0 then (es, true) else pushR src n place m (back 1 (bfsR goR es src n place).1 place n es (bfsR goR es src n place).2.toNat []).1
theorem pushR_end {src : List Bool} {n place m : Nat} {es : List Ed} (hm : 0 < m) (h : (bfsR goR es src n place).2 < 0) : pushR src n place m es = (es, true) := by
  obtain ⟨k, rfl⟩ : ∃ k, m = k + 1 := ⟨m - 1, by omega⟩
  show (if _ then _ else _) = _
  rw [if_pos h]
theorem pushR_on {src : List Bool} {n place m : Nat} {es : List Ed} (hm : 0 < m) (h : ¬ (bfsR goR es src n place).2 < 0) : pushR src n place m es = pushR src n place (m - 1) (back 1 (bfsR goR es src n place).1 place n es (bfsR goR es src n place).2.toNat []).1 := by
  obtain ⟨k, rfl⟩ : ∃ k, m = k + 1 := ⟨m - 1, by omega⟩
  show (if _ then _ else _) = _
  rw [if_neg h]; rfl
/-- the names of the breakers on the border -/
def borderR (by_ : List Int) (es : List Ed) : List ByteArray := (es.filter fun e => e.brk && ((by_.getD e.a 0 == -1) != (by_.getD e.b 0 == -1))).map Ed.name
/-- ways taken out one after the other -/
def wayR (src : List Bool) (n place : Nat) (es : List Ed) : List Ed × List ByteArray :=
  if (bfsR goW es src n place).2 < 0 then (es, []) else back (-1) (bfsR goW es src n place).1 place n es (bfsR goW es src n place).2.toNat []
def waysR (src : List Bool) (n place : Nat) : Nat → List Ed → List (List ByteArray) → List (List ByteArray)
  | 0, _, ws => ws
  | m + 1, es, ws => waysR src n place m (wayR src n place es).1 (ws ++ [(wayR src n place es).2])
/-- what least answers: the edges with their flows, and the names, if there is a least set -/
def leastR (src : List Bool) (n place : Nat) (es : List Ed) : Option (List Ed × List ByteArray) :=
  if (pushR src n place (1 + es.length) es).2 then some ((pushR src n place (1 + es.length) es).1, borderR (bfsR goR (pushR src n place (1 + es.length) es).1 src n place).1 (pushR src n place (1 + es.length) es).1) else none
end Go.Proofs.Ythedpegaelpbdaa
