/- Slices of integers in memory. -/
import Derived.Test.YtaanoljfhnfjoaaGreatDoorB0
namespace Go.Proofs.YtaanoljfhnfjoaaGreatDoor
open Go.ChangeShapes Go.WideShapes Go.ChangeAt Go.RowKit
set_option linter.unusedVariables false
attribute [local go_sem ↓] execOp_call_val
attribute [local go_sem] callVal_func setCell_drewN alloc_drewN

def ints (zs : List Int) : List Value := zs.map (Value.int .i64)
def RdI (w : World) (B : Nat) (A : Option Addr) (n : Nat) (zs : List Int) : Prop := Rd w B 1 A n (ints zs)
theorem RdI.len {w : World} {B n : Nat} {A : Option Addr} {zs : List Int} (h : RdI w B A n zs) : zs.length = n := by have := h.1; simp [ints] at this; omega
theorem RdI.below {w w' : World} {B B' n : Nat} {A : Option Addr} {zs : List Int} (h : RdI w B A n zs) (hb : Below B' w w') (hB : B ≤ B') : RdI w' B A n zs := Rd.below h hb hB
theorem RdI.more {w : World} {B B' n : Nat} {A : Option Addr} {zs : List Int} (h : RdI w B A n zs) (hB : B ≤ B') : RdI w B' A n zs := Rd.more h hB
theorem RdI.at_ {w : World} {B n : Nat} {b off : Nat} {zs : List Int} (h : RdI w B (some ⟨b, off, none⟩) n zs) {i : Nat} {z : Int} (hz : zs[i]? = some z) : w.cell? ⟨b, off + i, none⟩ = some (.int .i64 z) := by
  have hl : i < zs.length := (List.getElem?_eq_some_iff.1 hz).1
  have := h.len
  obtain ⟨b', off', e, _, hc⟩ := h.2 (by omega)
  injection e with e
  injection e with e1 e2
  subst e1; subst e2
  exact hc i _ (by simp [ints, hz])
theorem RdI.blk {w : World} {B n : Nat} {b off : Nat} {zs : List Int} (h : RdI w B (some ⟨b, off, none⟩) n zs) (h0 : 0 < n) : b < B := by
  obtain ⟨b', off', e, hlt, _⟩ := h.2 h0
  injection e with e
  injection e with e1 e2
  omega
theorem rdI_nil (w : World) (B : Nat) (A : Option Addr) : RdI w B A 0 [] := ⟨rfl, fun h => by omega⟩
theorem Rd.grownP {w w' : World} {p size n : Nat} {A : Option Addr} {xs : List Value} (h : Rd w p size A n xs) (hp : p ≤ w.heap.size) (hg : w.grownBy w' (some p)) : Rd w' p size A n xs :=
  ⟨h.1, fun hn => by
    obtain ⟨b, off, e, hlt, hc⟩ := h.2 hn
    exact ⟨b, off, e, hlt, fun j u hu => (World.cell?_of_block (a := ⟨b, off + j, none⟩) (hg.block b (by omega) (fun e => by injection e; omega))).trans (hc j u hu)⟩⟩
theorem rdI_own {w : World} {B g cap n e : Nat} {zs : List Int} (h : w.ownsRow B e 1 (.slice (some ⟨g, 0, none⟩) n cap) n (ints zs)) : RdI w w.heap.size (some ⟨g, 0, none⟩) n zs := by
  refine ⟨h.1, fun h0 => ⟨g, 0, rfl, (h.lt g (by simp [Value.ownBlock])).2, fun j u hu => ?_⟩⟩
  have hj : j < n * 1 := by have := (List.getElem?_eq_some_iff.1 hu).1; have := h.1; omega
  rw [Nat.zero_add, h.cellAt j hj]
  exact hu
theorem drop_cons {α : Type} {l : List α} {k : Nat} {x : α} (h : l[k]? = some x) : l.drop k = x :: l.drop (k + 1) := by
  obtain ⟨hl, he⟩ := List.getElem?_eq_some_iff.1 h
  rw [List.drop_eq_getElem_cons hl, he]

def idxGo {α : Type} (p : α → Bool) : List α → Nat → Int
  | [], _ => -1
  | z :: r, k => if p z then k else idxGo p r (k + 1)
theorem idxGo_any {α : Type} (p : α → Bool) : ∀ (l : List α) (k : Nat), decide (0 ≤ idxGo p l k) = l.any p
  | [], k => by simp [idxGo]
  | z :: r, k => by
    unfold idxGo
    cases h : p z with
    | true => simp [h]
    | false => simp [h, idxGo_any p r (k + 1)]
theorem idxGo_spec {α : Type} (p : α → Bool) : ∀ (l : List α) (k : Nat), (idxGo p l k = -1 ∧ ∀ x ∈ l, p x = false) ∨ (∃ (i : Nat) (x : α), idxGo p l k = ((k + i : Nat) : Int) ∧ l[i]? = some x ∧ p x = true ∧ ∀ (j : Nat) (y : α), j < i → l[j]? = some y → p y = false)
  | [], k => .inl ⟨rfl, by simp⟩
  | z :: r, k => by
    unfold idxGo
    cases h : p z with
    | true => exact .inr ⟨0, z, by simp, by simp, h, fun j y hj => by omega⟩
    | false =>
      rcases idxGo_spec p r (k + 1) with ⟨h1, h2⟩ | ⟨i, x, h1, h2, h3, h4⟩
      · left
        simp only [Bool.false_eq_true, if_false]
        exact ⟨h1, fun x hx => by rcases List.mem_cons.1 hx with rfl | hx; exact h; exact h2 x hx⟩
      · right
        simp only [Bool.false_eq_true, if_false]
        refine ⟨i + 1, x, by rw [h1]; congr 1; omega, by simpa using h2, h3, fun j y hj hy => ?_⟩
        cases j with
        | zero => simp at hy; subst hy; exact h
        | succ j => exact h4 j y (by omega) (by simpa using hy)

end Go.Proofs.YtaanoljfhnfjoaaGreatDoor
