/- The check of a relay program and the order of its rules, in plain words. -/
import Derived.Test.YtaanoljfhnfjoaaGreatDoorD0
namespace Go.Proofs.YtaanoljfhnfjoaaGreatDoor
set_option linter.unusedVariables false
set_option linter.unusedSimpArgs false

def rnCh (i c : Nat) : Bool := decide ((65 ≤ c ∧ c ≤ 90) ∨ (0 < i ∧ 48 ≤ c ∧ c ≤ 57))
def rnGo : Nat → List UInt8 → Bool
  | _, [] => true
  | i, c :: r => rnCh i c.toNat && rnGo (i + 1) r
/-- AND, OR, NOT, DELAY, LATCH -/
def resv : List ByteArray := [⟨#[65, 78, 68]⟩, ⟨#[79, 82]⟩, ⟨#[78, 79, 84]⟩, ⟨#[68, 69, 76, 65, 89]⟩, ⟨#[76, 65, 84, 67, 72]⟩]
def rnameB (s : ByteArray) : Bool := rnGo 0 s.data.toList && decide (1 ≤ s.size ∧ s.size ≤ 8) && !hasS resv s
def lowN (op : Int) : Int := if op = 6 then 1 else 0
def highN (op : Int) : Int := if op = 1 ∨ op = 2 then 1000000 else if op = 6 then 100000 else 0
def nodeCk (x : Nd) : Int :=
  if x.op < 0 ∨ 7 < x.op then 1
  else if x.op ≤ 2 ∧ rnameB x.name = false ∨ 2 < x.op ∧ 0 < x.name.size then 6
  else if x.value < lowN x.op ∨ highN x.op < x.value then 4 else 0
def ckNodes : List Nd → Int
  | [] => 0
  | x :: r => if nodeCk x ≠ 0 then nodeCk x else ckNodes r
def ckRule (seen : List Rl) (r : Rl) : Int :=
  if rnameB r.name = false then 6 else if 0 ≤ ruleR seen r.name then 7 else if 64 < r.expr.length then 2
  else if ckNodes r.expr ≠ 0 then ckNodes r.expr else if endR r.expr 0 ≠ (r.expr.length : Int) then 3 else 0
def ckRules (p : List Rl) : List Rl → Nat → Int
  | [], _ => 0
  | r :: t, k => if ckRule (p.take k) r ≠ 0 then ckRule (p.take k) r else ckRules p t (k + 1)
def namesF (p : List Rl) : List ByteArray := p.flatMap fun r => (r.expr.filter fun x => decide (x.op = 0)).map Nd.name
def namesV (p : List Rl) : List ByteArray := p.flatMap fun r => (r.expr.filter fun x => decide (x.op = 1 ∨ x.op = 2)).map Nd.name
def clashB (p : List Rl) (s : ByteArray) : Bool := hasS (namesF p) s || decide (0 ≤ ruleR p s)

/-- the rules that an expression needs at once, from a place on -/
def ndP (p : List Rl) (l : List Nd) : Nat → Nat → List Nat
  | 0, _ => []
  | f + 1, a =>
    match l[a]? with
    | none => []
    | some x => if x.op = 6 then ndP p l f (endR l a).toNat else (if x.op = 0 ∧ 0 ≤ ruleR p x.name then [(ruleR p x.name).toNat] else []) ++ ndP p l f (a + 1)
def needsR (p : List Rl) (l : List Nd) : List Nat := ndP p l l.length 0
def readyB (p : List Rl) (out : List Nat) (i : Nat) : Bool :=
  match p[i]? with
  | none => false
  | some r => !(out.any fun x => decide (i = x)) && !((needsR p r.expr).any fun k => !(out.any fun x => decide (k = x)))
def pickGo (p : List Rl) (out : List Nat) : Nat → Nat → Option Nat
  | 0, _ => none
  | f + 1, i => if readyB p out i then some i else pickGo p out f (i + 1)
def pickR (p : List Rl) (out : List Nat) : Option Nat := pickGo p out p.length 0
def ordGo (p : List Rl) : Nat → List Nat → Option (List Nat)
  | 0, out => some out
  | f + 1, out => match pickR p out with | none => none | some i => ordGo p f (out ++ [i])
def orderR (p : List Rl) : Option (List Nat) := ordGo p p.length []
def ckR (p : List Rl) : Int :=
  if 16 < p.length then 2 else if ckRules p p 0 ≠ 0 then ckRules p p 0 else if (namesV p).any (clashB p) then 3 else if orderR p = none then 11 else 0

theorem ckNodes_ok : ∀ {l : List Nd}, ckNodes l = 0 → ∀ x ∈ l, nodeCk x = 0
  | [], _, x, hx => by simp at hx
  | y :: r, h, x, hx => by
    unfold ckNodes at h
    by_cases h0 : nodeCk y = 0
    · rw [if_neg (by simpa using h0)] at h
      rcases List.mem_cons.1 hx with rfl | hx
      · exact h0
      · exact ckNodes_ok h x hx
    · rw [if_pos h0] at h; exact absurd h h0
theorem ckRules_ok (p : List Rl) : ∀ {l : List Rl} {k : Nat}, ckRules p l k = 0 → ∀ (i : Nat) (r : Rl), l[i]? = some r → ckRule (p.take (k + i)) r = 0
  | [], k, _, i, r, hi => by simp at hi
  | y :: t, k, h, i, r, hi => by
    unfold ckRules at h
    by_cases h0 : ckRule (p.take k) y = 0
    · rw [if_neg (by simpa using h0)] at h
      match i with
      | 0 => simp at hi; subst hi; exact h0
      | i + 1 =>
        have := ckRules_ok p h i r (by simpa using hi)
        rw [show k + (i + 1) = k + 1 + i from by omega]
        exact this
    · rw [if_pos h0] at h; exact absurd h h0
structure RuleOk (p : List Rl) (k : Nat) (r : Rl) : Prop where
  name : rnameB r.name = true
  new : ruleR (p.take k) r.name = -1
  len : r.expr.length ≤ 64
  nodes : ∀ x ∈ r.expr, nodeCk x = 0
  form : endR r.expr 0 = (r.expr.length : Int)
theorem ckRule_ok {p : List Rl} {k : Nat} {r : Rl} (h : ckRule (p.take k) r = 0) : RuleOk p k r := by
  unfold ckRule at h
  by_cases h1 : rnameB r.name = false
  · rw [if_pos h1] at h; omega
  rw [if_neg h1] at h
  by_cases h2 : 0 ≤ ruleR (p.take k) r.name
  · rw [if_pos h2] at h; omega
  rw [if_neg h2] at h
  by_cases h3 : 64 < r.expr.length
  · rw [if_pos h3] at h; omega
  rw [if_neg h3] at h
  by_cases h4 : ckNodes r.expr = 0
  · rw [if_neg (by simpa using h4)] at h
    by_cases h5 : endR r.expr 0 = (r.expr.length : Int)
    · refine ⟨by simpa using h1, ?_, by omega, ckNodes_ok h4, h5⟩
      rcases ruleR_bd (p.take k) r.name with ⟨h6, _⟩ | ⟨i, x, h6, _⟩
      · exact h6
      · omega
    · rw [if_pos h5] at h; omega
  · rw [if_pos h4] at h; exact absurd h h4
/-- what an accepted program is -/
structure PrOk (p : List Rl) : Prop where
  len : p.length ≤ 16
  rule : ∀ (i : Nat) (r : Rl), p[i]? = some r → RuleOk p i r
  clash : (namesV p).any (clashB p) = false
  ord : ∃ o, orderR p = some o
theorem ckR_ok {p : List Rl} (h : ckR p = 0) : PrOk p := by
  unfold ckR at h
  by_cases h1 : 16 < p.length
  · rw [if_pos h1] at h; omega
  rw [if_neg h1] at h
  by_cases h2 : ckRules p p 0 = 0
  · rw [if_neg (by simpa using h2)] at h
    by_cases h3 : (namesV p).any (clashB p) = true
    · rw [if_pos h3] at h; omega
    rw [if_neg h3] at h
    by_cases h4 : orderR p = none
    · rw [if_pos h4] at h; omega
    · refine ⟨by omega, fun i r hi => ?_, by simpa using h3, ?_⟩
      · have := ckRules_ok p h2 i r hi
        rw [Nat.zero_add] at this
        exact ckRule_ok this
      · cases ho : orderR p with
        | none => exact absurd ho h4
        | some o => exact ⟨o, rfl⟩
  · rw [if_pos h2] at h; exact absurd h h2
theorem nodeCk_op {x : Nd} (h : nodeCk x = 0) : 0 ≤ x.op ∧ x.op ≤ 7 := by
  unfold nodeCk at h
  by_cases h1 : x.op < 0 ∨ 7 < x.op
  · rw [if_pos h1] at h; omega
  · omega
theorem nodeCk_val {x : Nd} (h : nodeCk x = 0) : lowN x.op ≤ x.value ∧ x.value ≤ highN x.op := by
  unfold nodeCk at h
  by_cases h1 : x.op < 0 ∨ 7 < x.op
  · rw [if_pos h1] at h; omega
  rw [if_neg h1] at h
  by_cases h2 : x.op ≤ 2 ∧ rnameB x.name = false ∨ 2 < x.op ∧ 0 < x.name.size
  · rw [if_pos h2] at h; omega
  rw [if_neg h2] at h
  by_cases h3 : x.value < lowN x.op ∨ highN x.op < x.value
  · rw [if_pos h3] at h; omega
  · omega

/-! the order -/
theorem mem_any {l : List Nat} {i : Nat} : (l.any fun x => decide (i = x)) = true ↔ i ∈ l := by
  rw [List.any_eq_true]
  exact ⟨fun ⟨x, h1, h2⟩ => by rw [of_decide_eq_true h2]; exact h1, fun h => ⟨i, h, decide_eq_true rfl⟩⟩
theorem pickGo_some {p : List Rl} {out : List Nat} : ∀ {f i k : Nat}, pickGo p out f i = some k → readyB p out k = true
  | 0, i, k, h => by simp [pickGo] at h
  | f + 1, i, k, h => by
    unfold pickGo at h
    by_cases h0 : readyB p out i = true
    · rw [if_pos h0] at h; injection h with h; subst h; exact h0
    · rw [if_neg h0] at h; exact pickGo_some h
/-- an order under way: no rule twice, and each behind those that it needs -/
structure OrdOk (p : List Rl) (out : List Nat) : Prop where
  lt : ∀ i ∈ out, i < p.length
  nodup : out.Nodup
  needs : ∀ (k i : Nat) (r : Rl), out[k]? = some i → p[i]? = some r → ∀ j ∈ needsR p r.expr, j ∈ out.take k
theorem OrdOk.more {p : List Rl} {out : List Nat} (h : OrdOk p out) {i : Nat} (hr : readyB p out i = true) : OrdOk p (out ++ [i]) := by
  unfold readyB at hr
  cases hp : p[i]? with
  | none => rw [hp] at hr; cases hr
  | some r =>
    rw [hp] at hr
    simp only [Bool.and_eq_true, Bool.not_eq_true'] at hr
    have hi : i ∉ out := fun hc => by rw [mem_any.2 hc] at hr; cases hr.1
    refine ⟨fun k hk => ?_, ?_, fun k j r' hk hr' m hm => ?_⟩
    · rcases List.mem_append.1 hk with hk | hk
      · exact h.lt k hk
      · rw [List.mem_singleton.1 hk]; exact (List.getElem?_eq_some_iff.1 hp).1
    · rw [List.nodup_append]
      exact ⟨h.nodup, by simp, fun a ha b hb => by rw [List.mem_singleton.1 hb]; rintro rfl; exact hi ha⟩
    · rcases Nat.lt_or_ge k out.length with hlt | hge
      · rw [List.getElem?_append_left hlt] at hk
        rw [List.take_append_of_le_length (by omega)]
        exact h.needs k j r' hk hr' m hm
      · rw [List.getElem?_append_right hge] at hk
        have hk0 : k = out.length := by have := (List.getElem?_eq_some_iff.1 hk).1; simp at this; omega
        subst hk0
        simp at hk
        subst hk
        rw [hp] at hr'
        injection hr' with hr'
        subst hr'
        rw [List.take_left]
        have h2 := hr.2
        rw [List.any_eq_false] at h2
        have := h2 m hm
        simp only [Bool.not_eq_true', Bool.not_eq_false] at this
        exact mem_any.1 (by simpa using this)
theorem ordGo_ok {p : List Rl} : ∀ {f : Nat} {out o : List Nat}, OrdOk p out → ordGo p f out = some o → OrdOk p o ∧ o.length = out.length + f
  | 0, out, o, h, ho => by simp [ordGo] at ho; subst ho; exact ⟨h, by omega⟩
  | f + 1, out, o, h, ho => by
    unfold ordGo at ho
    cases hk : pickR p out with
    | none => rw [hk] at ho; cases ho
    | some i =>
      rw [hk] at ho
      obtain ⟨h1, h2⟩ := ordGo_ok (h.more (pickGo_some hk)) ho
      exact ⟨h1, by rw [h2]; simp; omega⟩
theorem orderR_ok {p : List Rl} {o : List Nat} (h : orderR p = some o) : OrdOk p o ∧ o.length = p.length := by
  obtain ⟨h1, h2⟩ := ordGo_ok (p := p) (out := []) ⟨by simp, by simp, by simp⟩ h
  exact ⟨h1, by simpa using h2⟩
end Go.Proofs.YtaanoljfhnfjoaaGreatDoor
