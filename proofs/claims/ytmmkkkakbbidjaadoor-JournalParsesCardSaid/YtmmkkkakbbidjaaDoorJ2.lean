/- The order of events. -/
import Derived.Test.YtmmkkkakbbidjaaDoorJ1
namespace Go.Proofs.YtmmkkkakbbidjaaDoor
open Go.ChangeShapes Go.WideShapes Go.ChangeAt Go.RowKit
set_option linter.unusedVariables false
attribute [local go_sem ↓] execOp_call_val
attribute [local go_sem] callVal_func setCell_drewN alloc_drewN sEq_walk

theorem bl_irrefl : ∀ a : List UInt8, Op.bytesLess a a = false
  | [] => rfl
  | x :: r => by simp [Op.bytesLess, bl_irrefl r]
theorem bl_trans : ∀ a b c : List UInt8, Op.bytesLess a b = true → Op.bytesLess b c = true → Op.bytesLess a c = true
  | _, [], _, h, _ => by simp [Op.bytesLess] at h
  | _, _ :: _, [], _, h => by simp [Op.bytesLess] at h
  | [], _ :: _, _ :: _, _, _ => rfl
  | x :: a, y :: b, z :: c, h1, h2 => by
    simp only [Op.bytesLess, Bool.or_eq_true, Bool.and_eq_true, decide_eq_true_eq, beq_iff_eq, UInt8.lt_iff_toNat_lt, ← UInt8.toNat_inj] at h1 h2 ⊢
    rcases h1 with h1 | ⟨h1, h1'⟩ <;> rcases h2 with h2 | ⟨h2, h2'⟩
    · left; omega
    · left; omega
    · left; omega
    · exact .inr ⟨by omega, bl_trans a b c h1' h2'⟩
theorem bl_total : ∀ a b : List UInt8, Op.bytesLess a b = false → Op.bytesLess b a = false → a = b
  | [], [], _, _ => rfl
  | [], _ :: _, h, _ => by simp [Op.bytesLess] at h
  | _ :: _, [], _, h => by simp [Op.bytesLess] at h
  | x :: a, y :: b, h1, h2 => by
    simp only [Op.bytesLess, Bool.or_eq_false_iff, Bool.and_eq_false_iff, decide_eq_false_iff_not, beq_eq_false_iff_ne, ne_eq, UInt8.lt_iff_toNat_lt, ← UInt8.toNat_inj] at h1 h2
    have hxy : x.toNat = y.toNat := by omega
    have hab := bl_total a b (h1.2.resolve_left (fun h => h hxy)) (h2.2.resolve_left (fun h => h hxy.symm))
    rw [hab, UInt8.toNat_inj.1 hxy]

def sLt (a b : ByteArray) : Bool := Op.bytesLess a.toList b.toList
theorem sLt_total {a b : ByteArray} (h1 : sLt a b = false) (h2 : sLt b a = false) : a = b := by
  have h := bl_total _ _ h1 h2
  exact sEq_iff.1 (by rw [← sEq_walk, h]; simp)
theorem sLt_irrefl (a : ByteArray) : sLt a a = false := bl_irrefl _
theorem sLt_trans {a b c : ByteArray} (h1 : sLt a b = true) (h2 : sLt b c = true) : sLt a c = true := bl_trans _ _ _ h1 h2

def ordI (a b : Int) : Int := if a < b then -1 else if b < a then 1 else 0
def ordS (a b : ByteArray) : Int := if sLt a b then -1 else if sEq a b then 0 else 1
def orI : List Int → Int
  | [] => 0
  | x :: r => if x ≠ 0 then x else orI r
def ordE (a b : Ev) : Int := orI [ordI a.time b.time, ordS a.kind b.kind, ordS a.name b.name, ordI a.value b.value]
theorem ordI_0 {a b : Int} : ordI a b = 0 ↔ a = b := by unfold ordI; split <;> (try split) <;> omega
theorem ordS_0 {a b : ByteArray} : ordS a b = 0 ↔ a = b := by
  unfold ordS
  cases h : sLt a b
  · simp [sEq]
  · simp; rintro rfl; rw [sLt_irrefl] at h; cases h
structure Pre {α : Type} (f : α → α → Int) : Prop where
  anti : ∀ a b, f a b = - f b a
  tr : ∀ a b c, f a b ≤ 0 → f b c ≤ 0 → f a c ≤ 0
theorem Pre.lt {α : Type} {f : α → α → Int} (h : Pre f) {a b c : α} (h1 : f a b < 0) (h2 : f b c ≤ 0) : f a c < 0 := Decidable.byContradiction fun hn => by
  have h3 := h.anti a c
  have h4 := h.tr b c a h2 (by omega)
  have h5 := h.anti a b
  omega
theorem Pre.lt' {α : Type} {f : α → α → Int} (h : Pre f) {a b c : α} (h1 : f a b ≤ 0) (h2 : f b c < 0) : f a c < 0 := Decidable.byContradiction fun hn => by
  have h3 := h.anti a c
  have h4 := h.tr c a b (by omega) h1
  have h5 := h.anti b c
  omega
def lex {α : Type} (f g : α → α → Int) (a b : α) : Int := if f a b ≠ 0 then f a b else g a b
theorem Pre.lex {α : Type} {f g : α → α → Int} (hf : Pre f) (hg : Pre g) : Pre (lex f g) where
  anti a b := by
    have h1 := hf.anti a b
    have h2 := hg.anti a b
    unfold Go.Proofs.YtmmkkkakbbidjaaDoor.lex
    by_cases h : f a b = 0
    · rw [if_neg (by simp [h]), if_neg (by omega)]; exact h2
    · rw [if_pos h, if_pos (by omega)]; exact h1
  tr a b c := by
    unfold Go.Proofs.YtmmkkkakbbidjaaDoor.lex
    intro h1 h2
    have hab : f a b ≤ 0 := by split at h1 <;> omega
    have hbc : f b c ≤ 0 := by split at h2 <;> omega
    by_cases h3 : f a b = 0
    · by_cases h4 : f b c = 0
      · have h5 := hf.tr a b c hab hbc
        have h6 := hf.tr c b a (by have := hf.anti c b; omega) (by have := hf.anti b a; omega)
        have h7 := hf.anti a c
        rw [if_neg (by omega)] at h1 h2 ⊢
        exact hg.tr a b c h1 h2
      · have := hf.lt' hab (show f b c < 0 by omega)
        rw [if_pos (by omega)]; omega
    · have := hf.lt (show f a b < 0 by omega) hbc
      rw [if_pos (by omega)]; omega
theorem pre_ordI {α : Type} (k : α → Int) : Pre fun a b : α => ordI (k a) (k b) where
  anti a b := by unfold ordI; split <;> split <;> (try split) <;> omega
  tr a b c := by unfold ordI; intro h1 h2; split at h1 <;> split at h2 <;> (try split at h1) <;> (try split at h2) <;> split <;> (try split) <;> omega
theorem ordS_le {a b : ByteArray} : ordS a b ≤ 0 ↔ sLt b a = false := by
  unfold ordS
  cases h : sLt a b with
  | true =>
    simp
    cases h2 : sLt b a with
    | false => rfl
    | true => have := sLt_trans h h2; rw [sLt_irrefl] at this; cases this
  | false =>
    by_cases he : a = b
    · subst he; simp [sEq, h]
    · have hn : sEq a b = false := sEq_ff.2 he
      simp [hn]
      cases h2 : sLt b a with
      | true => rfl
      | false => exact absurd (sLt_total h h2) he
theorem pre_ordS {α : Type} (k : α → ByteArray) : Pre fun a b : α => ordS (k a) (k b) where
  anti a b := by
    have h1 := ordS_0 (a := k a) (b := k b)
    have h2 := ordS_0 (a := k b) (b := k a)
    have h3 := ordS_le (a := k a) (b := k b)
    have h4 := ordS_le (a := k b) (b := k a)
    by_cases he : k a = k b
    · rw [h1.2 he, h2.2 he.symm]; rfl
    · have r : ∀ x y : ByteArray, ordS x y = -1 ∨ ordS x y = 0 ∨ ordS x y = 1 := fun x y => by unfold ordS; split <;> (try split) <;> simp
      have n1 : ordS (k a) (k b) ≠ 0 := fun h => he (h1.1 h)
      have n2 : ordS (k b) (k a) ≠ 0 := fun h => he (h2.1 h).symm
      rcases r (k a) (k b) with q | q | q <;> rcases r (k b) (k a) with q' | q' | q' <;> try omega
      · have a1 := h3.1 (by omega)
        have a2 := h4.1 (by omega)
        exact absurd (sLt_total a2 a1) he
      · have a1 : sLt (k b) (k a) = true := by
          cases h : sLt (k b) (k a)
          · exact absurd (h3.2 h) (by omega)
          · rfl
        have a2 : sLt (k a) (k b) = true := by
          cases h : sLt (k a) (k b)
          · exact absurd (h4.2 h) (by omega)
          · rfl
        have := sLt_trans a1 a2
        rw [sLt_irrefl] at this; cases this
  tr a b c := by
    rw [ordS_le, ordS_le, ordS_le]
    intro h1 h2
    cases h3 : sLt (k c) (k a) with
    | false => rfl
    | true =>
      cases h4 : sLt (k a) (k b) with
      | true => have := sLt_trans h3 h4; rw [h2] at this; cases this
      | false =>
        have := sLt_total h1 h4
        rw [← this] at h3; rw [h3] at h2; cases h2
theorem ordE_lex (a b : Ev) : ordE a b = lex (fun a b : Ev => ordI a.time b.time) (lex (fun a b => ordS a.kind b.kind) (lex (fun a b => ordS a.name b.name) (fun a b => ordI a.value b.value))) a b := by
  unfold ordE lex
  simp only [orI]
  by_cases h1 : ordI a.time b.time = 0 <;> by_cases h2 : ordS a.kind b.kind = 0 <;> by_cases h3 : ordS a.name b.name = 0 <;> by_cases h4 : ordI a.value b.value = 0 <;> simp [h1, h2, h3, h4]
theorem pre_ordE : Pre ordE := by
  have h : ordE = lex (fun a b : Ev => ordI a.time b.time) (lex (fun a b => ordS a.kind b.kind) (lex (fun a b => ordS a.name b.name) (fun a b => ordI a.value b.value))) := by
    funext a b; exact ordE_lex a b
  rw [h]
  exact (pre_ordI _).lex ((pre_ordS _).lex ((pre_ordS _).lex (pre_ordI _)))
theorem ordE_0 {a b : Ev} : ordE a b = 0 ↔ a = b := by
  constructor
  · intro h
    rw [ordE_lex] at h
    unfold lex at h
    by_cases h1 : ordI a.time b.time = 0 <;> by_cases h2 : ordS a.kind b.kind = 0 <;> by_cases h3 : ordS a.name b.name = 0 <;> by_cases h4 : ordI a.value b.value = 0 <;> simp [h1, h2, h3, h4] at h
    cases a; cases b
    simp only [Ev.mk.injEq]
    exact ⟨ordI_0.1 h1, ordS_0.1 h2, ordS_0.1 h3, ordI_0.1 h4⟩
  · rintro rfl
    rw [ordE_lex]
    unfold lex
    simp [ordI_0.2 rfl, ordS_0.2 rfl]
theorem ordE_time {a b : Ev} (h : ordE a b ≤ 0) : a.time ≤ b.time := by
  rw [ordE_lex] at h
  unfold lex at h
  by_cases h1 : ordI a.time b.time = 0
  · have := ordI_0.1 h1; omega
  · dsimp only at h
    rw [if_pos h1] at h
    unfold ordI at h
    split at h
    · omega
    · split at h <;> omega
end Go.Proofs.YtmmkkkakbbidjaaDoor
