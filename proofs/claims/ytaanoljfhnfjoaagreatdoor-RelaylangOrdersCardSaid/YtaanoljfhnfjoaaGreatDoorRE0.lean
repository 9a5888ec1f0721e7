/- Texts of programs of relays: what is printed is read back. No program in this text. -/
import Derived.Test.YtaanoljfhnfjoaaGreatDoorD0
import Derived.Test.YtaanoljfhnfjoaaGreatDoorD4
namespace Go.Proofs.YtaanoljfhnfjoaaGreatDoor
set_option linter.unusedVariables false
set_option linter.unusedSimpArgs false

abbrev Bs := List UInt8
def takeP : Bs → Bs → Option Bs
  | [], s => some s
  | _ :: _, [] => none
  | a :: w, b :: s => if a = b then takeP w s else none
theorem takeP_app : ∀ (w r : Bs), takeP w (w ++ r) = some r
  | [], r => rfl
  | a :: w, r => by simp only [List.cons_append, takeP, if_true]; exact takeP_app w r
theorem takeP_some : ∀ {w s r : Bs}, takeP w s = some r → s = w ++ r
  | [], s, r, h => by simp only [takeP, Option.some.injEq] at h; exact h
  | _ :: _, [], r, h => by simp [takeP] at h
  | a :: w, b :: s, r, h => by
    simp only [takeP] at h
    by_cases hab : a = b
    · rw [if_pos hab] at h; rw [takeP_some h, hab]; rfl
    · rw [if_neg hab] at h; cases h
theorem takeP_none {w s : Bs} (h : ∀ r, s ≠ w ++ r) : takeP w s = none := by
  cases hh : takeP w s with
  | none => rfl
  | some r => exact absurd (takeP_some hh) (h r)
theorem takeP_len {w s r : Bs} (h : takeP w s = some r) : s.length = w.length + r.length := by rw [takeP_some h, List.length_append]

def wch (c : UInt8) : Bool := decide ((65 ≤ c.toNat ∧ c.toNat ≤ 90) ∨ (48 ≤ c.toNat ∧ c.toNat ≤ 57))
def dch (c : UInt8) : Bool := decide (48 ≤ c.toNat ∧ c.toNat ≤ 57)
def kOR : Bs := [32, 79, 82, 32]
def kAND : Bs := [32, 65, 78, 68, 32]
def kNOT : Bs := [78, 79, 84, 32]
def kDELAY : Bs := [68, 69, 76, 65, 89, 40]
def kLATCH : Bs := [76, 65, 84, 67, 72, 40]
def kL : Bs := [40]
def kR : Bs := [41]
def kC : Bs := [44, 32]
def kGT : Bs := [32, 62, 32]
def kLT : Bs := [32, 60, 32]
def bsB (l : Bs) : ByteArray := ⟨l.toArray⟩
def bbs (s : ByteArray) : Bs := s.data.toList
theorem bsB_bbs (s : ByteArray) : bsB (bbs s) = s := rfl
theorem bbs_bsB (l : Bs) : bbs (bsB l) = l := rfl

/-- numerals: how they are written, read, and that this fits -/
structure Num where
  dg : Int → Bs
  dec : Bs → Int
  dig : ∀ v, 0 ≤ v → v ≤ 1000000 → (∀ c ∈ dg v, dch c = true) ∧ 1 ≤ (dg v).length ∧ (dg v).length ≤ 7 ∧ dec (dg v) = v
def nameP (s : Bs) : Option (ByteArray × Bs) := if rnameB (bsB (s.takeWhile wch)) = true then some (bsB (s.takeWhile wch), s.dropWhile wch) else none
def numP (N : Num) (s : Bs) : Option (Int × Bs) := if (s.takeWhile dch).length ≤ 7 ∧ s.takeWhile dch ≠ [] ∧ N.dg (N.dec (s.takeWhile dch)) = s.takeWhile dch then some (N.dec (s.takeWhile dch), s.dropWhile dch) else none
abbrev Part := Bs → Option (List Nd × Bs)
def chainGo (w : Bs) (op : Int) (part : Part) : Nat → List Nd → Bs → Option (List Nd × Bs)
  | 0, l, s => some (l, s)
  | k + 1, l, s =>
    match takeP w s with
    | none => some (l, s)
    | some r =>
      match part r with
      | none => none
      | some q => chainGo w op part k (⟨op, ⟨#[]⟩, 0⟩ :: (l ++ q.1)) q.2
def chainP (w : Bs) (op : Int) (part : Part) (s : Bs) : Option (List Nd × Bs) :=
  match part s with
  | none => none
  | some q => chainGo w op part q.2.length q.1 q.2
def atomP (N : Num) (s : Bs) : Option (List Nd × Bs) :=
  match nameP s with
  | none => none
  | some q =>
    match takeP kGT q.2 with
    | some r => match numP N r with | none => none | some u => some ([⟨1, q.1, u.1⟩], u.2)
    | none =>
      match takeP kLT q.2 with
      | some r => match numP N r with | none => none | some u => some ([⟨2, q.1, u.1⟩], u.2)
      | none => some ([⟨0, q.1, 0⟩], q.2)
def needP (w : Bs) (q : List Nd × Bs) : Option (List Nd × Bs) := match takeP w q.2 with | none => none | some r => some (q.1, r)
def notP (part : Part) (s : Bs) : Option (List Nd × Bs) := match part s with | none => none | some q => some (⟨3, ⟨#[]⟩, 0⟩ :: q.1, q.2)
def parP (ex : Part) (s : Bs) : Option (List Nd × Bs) := match ex s with | none => none | some q => needP kR q
def delP (N : Num) (ex : Part) (s : Bs) : Option (List Nd × Bs) :=
  match ex s with
  | none => none
  | some q =>
    match takeP kC q.2 with
    | none => none
    | some r =>
      match numP N r with
      | none => none
      | some u => needP kR (⟨6, ⟨#[]⟩, u.1⟩ :: q.1, u.2)
def latP (ex : Part) (s : Bs) : Option (List Nd × Bs) :=
  match ex s with
  | none => none
  | some q =>
    match takeP kC q.2 with
    | none => none
    | some r =>
      match ex r with
      | none => none
      | some u => needP kR (⟨7, ⟨#[]⟩, 0⟩ :: (q.1 ++ u.1), u.2)
def facS (N : Num) (fac ex : Part) (s : Bs) : Option (List Nd × Bs) :=
  match takeP kNOT s with
  | some r => notP fac r
  | none =>
    match takeP kL s with
    | some r => parP ex r
    | none =>
      match takeP kDELAY s with
      | some r => delP N ex r
      | none =>
        match takeP kLATCH s with
        | some r => latP ex r
        | none => atomP N s
def factorP (N : Num) : Nat → Part
  | 0 => fun _ => none
  | n + 1 => facS N (factorP N n) (chainP kOR 5 (chainP kAND 4 (factorP N n)))
def termP (N : Num) (n : Nat) : Part := chainP kAND 4 (factorP N n)
def exprP (N : Num) (n : Nat) : Part := chainP kOR 5 (termP N n)
theorem factorP_succ (N : Num) (n : Nat) : factorP N (n + 1) = facS N (factorP N n) (exprP N n) := rfl

/-- expressions as trees -/
inductive Tr where
  | flag (s : ByteArray)
  | gt (s : ByteArray) (v : Int)
  | lt (s : ByteArray) (v : Int)
  | not (a : Tr)
  | and (a b : Tr)
  | or (a b : Tr)
  | delay (v : Int) (a : Tr)
  | latch (a b : Tr)
def Tr.flat : Tr → List Nd
  | .flag s => [⟨0, s, 0⟩]
  | .gt s v => [⟨1, s, v⟩]
  | .lt s v => [⟨2, s, v⟩]
  | .not a => ⟨3, ⟨#[]⟩, 0⟩ :: a.flat
  | .and a b => ⟨4, ⟨#[]⟩, 0⟩ :: (a.flat ++ b.flat)
  | .or a b => ⟨5, ⟨#[]⟩, 0⟩ :: (a.flat ++ b.flat)
  | .delay v a => ⟨6, ⟨#[]⟩, v⟩ :: a.flat
  | .latch a b => ⟨7, ⟨#[]⟩, 0⟩ :: (a.flat ++ b.flat)
def Tr.isOr : Tr → Bool
  | .or _ _ => true
  | _ => false
def Tr.isAO : Tr → Bool
  | .or _ _ => true
  | .and _ _ => true
  | _ => false
def paren (b : Bool) (s : Bs) : Bs := if b then kL ++ (s ++ kR) else s
def Tr.pr (N : Num) : Tr → Bs
  | .flag s => bbs s
  | .gt s v => bbs s ++ (kGT ++ N.dg v)
  | .lt s v => bbs s ++ (kLT ++ N.dg v)
  | .not a => kNOT ++ paren a.isAO (a.pr N)
  | .and a b => paren a.isOr (a.pr N) ++ (kAND ++ paren b.isAO (b.pr N))
  | .or a b => a.pr N ++ (kOR ++ paren b.isOr (b.pr N))
  | .delay v a => kDELAY ++ (a.pr N ++ (kC ++ (N.dg v ++ kR)))
  | .latch a b => kLATCH ++ (a.pr N ++ (kC ++ (b.pr N ++ kR)))
def Tr.fac (N : Num) (t : Tr) : Bs := paren t.isAO (t.pr N)
def Tr.term (N : Num) (t : Tr) : Bs := paren t.isOr (t.pr N)
def Tr.Ok : Tr → Prop
  | .flag s => rnameB s = true
  | .gt s v => rnameB s = true ∧ 0 ≤ v ∧ v ≤ 1000000
  | .lt s v => rnameB s = true ∧ 0 ≤ v ∧ v ≤ 1000000
  | .not a => a.Ok
  | .and a b => a.Ok ∧ b.Ok
  | .or a b => a.Ok ∧ b.Ok
  | .delay v a => (0 ≤ v ∧ v ≤ 1000000) ∧ a.Ok
  | .latch a b => a.Ok ∧ b.Ok
/-- what may follow -/
def stopE (s : Bs) : Prop := s = [] ∨ ∃ x r, s = x :: r ∧ (x = 41 ∨ x = 44)
def stopT (s : Bs) : Prop := stopE s ∨ ∃ r, s = kOR ++ r
def stopF (s : Bs) : Prop := stopT s ∨ ∃ r, s = kAND ++ r

/-! ### a part never gives back more than it got -/
def Shr (p : Part) : Prop := ∀ s q, p s = some q → q.2.length ≤ s.length
theorem chainGo_shr {w : Bs} {op : Int} {p : Part} (h : Shr p) : ∀ (k : Nat) (l : List Nd) (s : Bs) (q : List Nd × Bs), chainGo w op p k l s = some q → q.2.length ≤ s.length
  | 0, l, s, q, e => by simp only [chainGo, Option.some.injEq] at e; rw [← e]; exact Nat.le_refl _
  | k + 1, l, s, q, e => by
    simp only [chainGo] at e
    cases h1 : takeP w s with
    | none => rw [h1] at e; simp only [Option.some.injEq] at e; rw [← e]; exact Nat.le_refl _
    | some r =>
      rw [h1] at e
      simp only at e
      cases h2 : p r with
      | none => rw [h2] at e; cases e
      | some u =>
        rw [h2] at e
        simp only at e
        have := chainGo_shr h k _ _ _ e
        have := h _ _ h2
        have := takeP_len h1
        omega
theorem chainP_shr {w : Bs} {op : Int} {p : Part} (h : Shr p) : Shr (chainP w op p) := fun s q e => by
  unfold chainP at e
  cases h1 : p s with
  | none => rw [h1] at e; cases e
  | some u =>
    rw [h1] at e
    simp only at e
    have := chainGo_shr h _ _ _ _ e
    have := h _ _ h1
    omega
theorem chain_fuel {w : Bs} {op : Int} {p : Part} (h : Shr p) (hw : 1 ≤ w.length) : ∀ (k k' : Nat) (l : List Nd) (s : Bs), s.length ≤ k → s.length ≤ k' → chainGo w op p k l s = chainGo w op p k' l s
  | 0, 0, l, s, _, _ => rfl
  | 0, k' + 1, l, s, h1, _ => by
    have : s = [] := List.eq_nil_of_length_eq_zero (by omega)
    subst this
    cases w with
    | nil => simp at hw
    | cons a w => rfl
  | k + 1, 0, l, s, _, h1 => by
    have : s = [] := List.eq_nil_of_length_eq_zero (by omega)
    subst this
    cases w with
    | nil => simp at hw
    | cons a w => rfl
  | k + 1, k' + 1, l, s, h1, h2 => by
    simp only [chainGo]
    cases h3 : takeP w s with
    | none => rfl
    | some r =>
      simp only
      cases h4 : p r with
      | none => rfl
      | some u =>
        simp only
        have := h _ _ h4
        have := takeP_len h3
        exact chain_fuel h hw k k' _ _ (by omega) (by omega)
theorem dropWhile_len {p : UInt8 → Bool} : ∀ (s : Bs), (s.takeWhile p).length + (s.dropWhile p).length = s.length := fun s => by
  rw [← List.length_append, List.takeWhile_append_dropWhile]
theorem numP_len {N : Num} {s : Bs} {q : Int × Bs} (h : numP N s = some q) : (N.dg q.1).length + q.2.length = s.length := by
  unfold numP at h
  split at h
  · rename_i hc
    simp only [Option.some.injEq] at h
    rw [← h]
    show (N.dg (N.dec (s.takeWhile dch))).length + (s.dropWhile dch).length = _
    rw [hc.2.2]; exact dropWhile_len s
  · cases h
theorem nameP_len {s : Bs} {q : ByteArray × Bs} (h : nameP s = some q) : (bbs q.1).length + q.2.length = s.length ∧ rnameB q.1 = true := by
  unfold nameP at h
  split at h
  · rename_i hc
    simp only [Option.some.injEq] at h
    rw [← h]
    exact ⟨dropWhile_len s, hc⟩
  · cases h
end Go.Proofs.YtaanoljfhnfjoaaGreatDoor
