/- Events in memory. -/
import Derived.Test.YtaanoljfhnfjoaaGreatDoorO1
import Derived.Test.YtaanoljfhnfjoaaGreatDoorI0
import Derived.Laws.Strings
namespace Go.Proofs.YtaanoljfhnfjoaaGreatDoor
open Go.ChangeShapes Go.WideShapes Go.ChangeAt Go.RowKit Go.Joins Go.Deep
set_option linter.unusedVariables false
attribute [local go_sem ↓] execOp_call_val
attribute [local go_sem] callVal_func setCell_drewN alloc_drewN

def sEq (z y : ByteArray) : Bool := decide (z = y)
theorem sEq_walk (z y : ByteArray) : (z.toList == y.toList) = sEq z y := by
  unfold sEq
  rw [ByteArray.toList_eq, ByteArray.toList_eq, Bool.eq_iff_iff, beq_iff_eq, decide_eq_true_eq]
  constructor
  · intro h
    cases z; cases y
    simp at h
    rw [h]
  · rintro rfl; rfl
theorem sEq_iff {z y : ByteArray} : sEq z y = true ↔ z = y := by unfold sEq; exact decide_eq_true_iff
theorem sEq_ff {z y : ByteArray} : sEq z y = false ↔ z ≠ y := by unfold sEq; exact decide_eq_false_iff_not
def strsV (ss : List ByteArray) : List Value := ss.map Value.string
def RdStr (w : World) (B : Nat) (A : Option Addr) (n : Nat) (ss : List ByteArray) : Prop := ss.length = n ∧ Rd w B 1 A n (strsV ss)
theorem RdStr.below {w w' : World} {B B' n : Nat} {A : Option Addr} {xs : List ByteArray} (h : RdStr w B A n xs) (hb : Below B' w w') (hB : B ≤ B') : RdStr w' B A n xs := ⟨h.1, h.2.below hb hB⟩
theorem RdStr.more {w : World} {B B' n : Nat} {A : Option Addr} {xs : List ByteArray} (h : RdStr w B A n xs) (hB : B ≤ B') : RdStr w B' A n xs := ⟨h.1, h.2.more hB⟩
theorem RdStr.form {w : World} {B n : Nat} {A : Option Addr} {xs : List ByteArray} (h : RdStr w B A n xs) (h0 : 0 < n) : ∃ b off, A = some ⟨b, off, none⟩ ∧ b < B := by
  obtain ⟨b, off, e, hlt, _⟩ := h.2.2 h0
  exact ⟨b, off, e, hlt⟩
theorem RdStr.at_ {w : World} {B n : Nat} {b off : Nat} {xs : List ByteArray} (h : RdStr w B (some ⟨b, off, none⟩) n xs) {i : Nat} {x : ByteArray} (hx : xs[i]? = some x) : w.cell? ⟨b, off + i, none⟩ = some (.string x) := by
  have hl : i < xs.length := (List.getElem?_eq_some_iff.1 hx).1
  have h1 := h.1
  obtain ⟨b', off', e, _, hc⟩ := h.2.2 (by omega)
  injection e with e
  injection e with e1 e2
  subst e1; subst e2
  exact hc i _ (by simp [strsV, hx])
theorem rdStr_nil (w : World) (B : Nat) (A : Option Addr) : RdStr w B A 0 [] := ⟨rfl, rfl, fun h => by omega⟩
theorem rdStr_lit {w : World} {B g : Nat} {T : TypeId} {zs : List ByteArray} (h : Blk w g T (strsV zs).toArray) (hg : g < B) : RdStr w B (some ⟨g, 0, none⟩) zs.length zs :=
  ⟨rfl, by simp [strsV], fun _ => ⟨g, 0, rfl, hg, fun j u hu => by
    rw [show (⟨g, 0 + j, none⟩ : Addr) = ⟨g, j, none⟩ from by simp]
    rw [h.cell j]
    simpa using hu⟩⟩
theorem RdStr.take {w : World} {B n m : Nat} {A : Option Addr} {zs : List ByteArray} (h : RdStr w B A n zs) (hm : m ≤ n) : RdStr w B A m (zs.take m) := by
  have hl := h.1
  refine ⟨by simp; omega, by simp [strsV]; omega, fun h0 => ?_⟩
  obtain ⟨b, off, e, hlt, hc⟩ := h.2.2 (by omega)
  refine ⟨b, off, e, hlt, fun j u hu => hc j u ?_⟩
  simp only [strsV, List.map_take] at hu ⊢
  rw [List.getElem?_take] at hu
  split at hu
  · exact hu
  · cases hu
theorem rdStr_own {w : World} {B g cap n e : Nat} {zs : List ByteArray} (h : w.ownsRow B e 1 (.slice (some ⟨g, 0, none⟩) n cap) n (strsV zs)) : RdStr w w.heap.size (some ⟨g, 0, none⟩) n zs := by
  refine ⟨by have := h.1; simp [strsV] at this; omega, h.1, fun h0 => ⟨g, 0, rfl, (h.lt g (by simp [Value.ownBlock])).2, fun j u hu => ?_⟩⟩
  have hj : j < n * 1 := by have := (List.getElem?_eq_some_iff.1 hu).1; have := h.1; omega
  rw [Nat.zero_add, h.cellAt j hj]
  exact hu

structure Ev where
  time : Int
  kind : ByteArray
  name : ByteArray
  value : Int
def Ev.cells (x : Ev) : List Value := [.int .i64 x.time, .string x.kind, .string x.name, .int .i64 x.value]
def Ev.val (x : Ev) : Value := .agg #[.int .i64 x.time, .string x.kind, .string x.name, .int .i64 x.value]
theorem Ev.len (x : Ev) : x.cells.length = 4 := rfl
def RdEv (w : World) (B : Nat) (A : Option Addr) (n : Nat) (xs : List Ev) : Prop := xs.length = n ∧ Rd w B 4 A n (xs.flatMap Ev.cells)
theorem RdEv.below {w w' : World} {B B' n : Nat} {A : Option Addr} {xs : List Ev} (h : RdEv w B A n xs) (hb : Below B' w w') (hB : B ≤ B') : RdEv w' B A n xs := ⟨h.1, h.2.below hb hB⟩
theorem RdEv.more {w : World} {B B' n : Nat} {A : Option Addr} {xs : List Ev} (h : RdEv w B A n xs) (hB : B ≤ B') : RdEv w B' A n xs := ⟨h.1, h.2.more hB⟩
theorem RdEv.at_ {w : World} {B n : Nat} {b off : Nat} {xs : List Ev} (h : RdEv w B (some ⟨b, off, none⟩) n xs) {i : Nat} {x : Ev} (hx : xs[i]? = some x) :
    w.cell? ⟨b, off + i * 4, none⟩ = some (.int .i64 x.time) ∧ w.cell? ⟨b, off + i * 4 + 1, none⟩ = some (.string x.kind) ∧ w.cell? ⟨b, off + i * 4 + 2, none⟩ = some (.string x.name) ∧ w.cell? ⟨b, off + i * 4 + 3, none⟩ = some (.int .i64 x.value) := by
  have hl : i < xs.length := (List.getElem?_eq_some_iff.1 hx).1
  have h1 := h.1
  obtain ⟨b', off', e, _, hc⟩ := h.2.2 (by omega)
  injection e with e
  injection e with e1 e2
  subst e1; subst e2
  have key : ∀ k, k < 4 → ∀ u, x.cells[k]? = some u → w.cell? ⟨b, off + i * 4 + k, none⟩ = some u := fun k hk u hu => by
    have := hc (i * 4 + k) u (by rw [flat_at Ev.len xs i x hx k hk]; exact hu)
    rwa [← Nat.add_assoc] at this
  exact ⟨key 0 (by omega) _ rfl, key 1 (by omega) _ rfl, key 2 (by omega) _ rfl, key 3 (by omega) _ rfl⟩
theorem RdEv.form {w : World} {B n : Nat} {A : Option Addr} {xs : List Ev} (h : RdEv w B A n xs) (h0 : 0 < n) : ∃ b off, A = some ⟨b, off, none⟩ ∧ b < B := by
  obtain ⟨b, off, e, hlt, _⟩ := h.2.2 h0
  exact ⟨b, off, e, hlt⟩
theorem Ev.box {w : World} {p : Nat} {t : TypeId} {x : Ev} (h : Blk w p t #[.int .i64 x.time, .string x.kind, .string x.name, .int .i64 x.value]) : w.cell? ⟨p, 0, none⟩ = some (.int .i64 x.time) ∧ w.cell? ⟨p, 1, none⟩ = some (.string x.kind) ∧ w.cell? ⟨p, 2, none⟩ = some (.string x.name) ∧ w.cell? ⟨p, 3, none⟩ = some (.int .i64 x.value) ∧ (∀ i, w.frozen? ⟨p, i, none⟩ = false) ∧ p < w.heap.size :=
  ⟨h.cell 0, h.cell 1, h.cell 2, h.cell 3, h.frozen, h.lt⟩
theorem RdEv.take {w : World} {B n m : Nat} {A : Option Addr} {xs : List Ev} (h : RdEv w B A n xs) (hm : m ≤ n) : RdEv w B A m (xs.take m) := by
  have hl := h.1
  refine ⟨by simp; omega, by rw [flat_len Ev.len]; simp; omega, fun h0 => ?_⟩
  obtain ⟨b, off, e, hlt, hc⟩ := h.2.2 (by omega)
  refine ⟨b, off, e, hlt, fun j u hu => hc j u ?_⟩
  have h1 : xs.flatMap Ev.cells = (xs.take m).flatMap Ev.cells ++ (xs.drop m).flatMap Ev.cells := by rw [← List.flatMap_append, List.take_append_drop]
  rw [h1, List.getElem?_append_left (List.getElem?_eq_some_iff.1 hu).1]
  exact hu
theorem RdEv.up {w w' : World} {n : Nat} {A : Option Addr} {xs : List Ev} (h : RdEv w w.heap.size A n xs) (hb : Below w.heap.size w w') : RdEv w' w'.heap.size A n xs := (h.below hb (Nat.le_refl _)).more hb.size
end Go.Proofs.YtaanoljfhnfjoaaGreatDoor
