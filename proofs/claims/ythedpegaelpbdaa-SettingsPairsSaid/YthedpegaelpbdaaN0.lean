/- The data of a network in memory. -/
import Derived.Test.YthedpegaelpbdaaO1
import Derived.Test.YthedpegaelpbdaaI0
import Derived.Laws.Strings
namespace Go.Proofs.Ythedpegaelpbdaa
open Go.ChangeShapes Go.WideShapes Go.ChangeAt Go.RowKit Go.Joins Go.Deep
set_option linter.unusedVariables false
attribute [local go_sem ↓] execOp_call_val
attribute [local go_sem] callVal_func setCell_drewN alloc_drewN

def sEq (z y : ByteArray) : Bool := decide (z = y)
theorem sEq_walk (z y : ByteArray) : (z.toList == y.toList) = sEq z y := by
  unfold sEq
  rw [ByteArray.toList_eq, ByteArray.toList_eq, Bool.eq_iff_iff, beq_iff_eq, decide_eq_true_eq]
  constructor
  · intro h
    cases z; cases y
    simp at h
    rw [h]
  · rintro rfl; rfl
theorem sEq_iff {z y : ByteArray} : sEq z y = true ↔ z = y := by unfold sEq; exact decide_eq_true_iff
theorem sEq_ff {z y : ByteArray} : sEq z y = false ↔ z ≠ y := by unfold sEq; exact decide_eq_false_iff_not
def strsV (ss : List ByteArray) : List Value := ss.map Value.string
def RdStr (w : World) (B : Nat) (A : Option Addr) (n : Nat) (ss : List ByteArray) : Prop := ss.length = n ∧ Rd w B 1 A n (strsV ss)
theorem RdStr.below {w w' : World} {B B' n : Nat} {A : Option Addr} {xs : List ByteArray} (h : RdStr w B A n xs) (hb : Below B' w w') (hB : B ≤ B') : RdStr w' B A n xs := ⟨h.1, h.2.below hb hB⟩
theorem RdStr.more {w : World} {B B' n : Nat} {A : Option Addr} {xs : List ByteArray} (h : RdStr w B A n xs) (hB : B ≤ B') : RdStr w B' A n xs := ⟨h.1, h.2.more hB⟩
theorem RdStr.form {w : World} {B n : Nat} {A : Option Addr} {xs : List ByteArray} (h : RdStr w B A n xs) (h0 : 0 < n) : ∃ b off, A = some ⟨b, off, none⟩ ∧ b < B := by
  obtain ⟨b, off, e, hlt, _⟩ := h.2.2 h0
  exact ⟨b, off, e, hlt⟩
theorem RdStr.at_ {w : World} {B n : Nat} {b off : Nat} {xs : List ByteArray} (h : RdStr w B (some ⟨b, off, none⟩) n xs) {i : Nat} {x : ByteArray} (hx : xs[i]? = some x) : w.cell? ⟨b, off + i, none⟩ = some (.string x) := by
  have hl : i < xs.length := (List.getElem?_eq_some_iff.1 hx).1
  have h1 := h.1
  obtain ⟨b', off', e, _, hc⟩ := h.2.2 (by omega)
  injection e with e
  injection e with e1 e2
  subst e1; subst e2
  exact hc i _ (by simp [strsV, hx])
theorem rdStr_nil (w : World) (B : Nat) (A : Option Addr) : RdStr w B A 0 [] := ⟨rfl, rfl, fun h => by omega⟩
theorem rdStr_lit {w : World} {B g : Nat} {T : TypeId} {zs : List ByteArray} (h : Blk w g T (strsV zs).toArray) (hg : g < B) : RdStr w B (some ⟨g, 0, none⟩) zs.length zs :=
  ⟨rfl, by simp [strsV], fun _ => ⟨g, 0, rfl, hg, fun j u hu => by
    rw [show (⟨g, 0 + j, none⟩ : Addr) = ⟨g, j, none⟩ from by simp]
    rw [h.cell j]
    simpa using hu⟩⟩
theorem RdStr.take {w : World} {B n m : Nat} {A : Option Addr} {zs : List ByteArray} (h : RdStr w B A n zs) (hm : m ≤ n) : RdStr w B A m (zs.take m) := by
  have hl := h.1
  refine ⟨by simp; omega, by simp [strsV]; omega, fun h0 => ?_⟩
  obtain ⟨b, off, e, hlt, hc⟩ := h.2.2 (by omega)
  refine ⟨b, off, e, hlt, fun j u hu => hc j u ?_⟩
  simp only [strsV, List.map_take] at hu ⊢
  rw [List.getElem?_take] at hu
  split at hu
  · exact hu
  · cases hu
theorem rdStr_own {w : World} {B g cap n e : Nat} {zs : List ByteArray} (h : w.ownsRow B e 1 (.slice (some ⟨g, 0, none⟩) n cap) n (strsV zs)) : RdStr w w.heap.size (some ⟨g, 0, none⟩) n zs := by
  refine ⟨by have := h.1; simp [strsV] at this; omega, h.1, fun h0 => ⟨g, 0, rfl, (h.lt g (by simp [Value.ownBlock])).2, fun j u hu => ?_⟩⟩
  have hj : j < n * 1 := by have := (List.getElem?_eq_some_iff.1 hu).1; have := h.1; omega
  rw [Nat.zero_add, h.cellAt j hj]
  exact hu

structure Sw where
  name : ByteArray
  a : ByteArray
  b : ByteArray
  breaker : Bool
  opn : Bool
def Sw.cells (x : Sw) : List Value := [.string x.name, .string x.a, .string x.b, .bool x.breaker, .bool x.opn]
def Sw.val (x : Sw) : Value := .agg #[.string x.name, .string x.a, .string x.b, .bool x.breaker, .bool x.opn]
theorem Sw.len (x : Sw) : x.cells.length = 5 := rfl
def RdSw (w : World) (B : Nat) (A : Option Addr) (n : Nat) (xs : List Sw) : Prop := xs.length = n ∧ Rd w B 5 A n (xs.flatMap Sw.cells)
theorem RdSw.below {w w' : World} {B B' n : Nat} {A : Option Addr} {xs : List Sw} (h : RdSw w B A n xs) (hb : Below B' w w') (hB : B ≤ B') : RdSw w' B A n xs := ⟨h.1, h.2.below hb hB⟩
theorem RdSw.more {w : World} {B B' n : Nat} {A : Option Addr} {xs : List Sw} (h : RdSw w B A n xs) (hB : B ≤ B') : RdSw w B' A n xs := ⟨h.1, h.2.more hB⟩
theorem RdSw.at_ {w : World} {B n : Nat} {b off : Nat} {xs : List Sw} (h : RdSw w B (some ⟨b, off, none⟩) n xs) {i : Nat} {x : Sw} (hx : xs[i]? = some x) :
    w.cell? ⟨b, off + i * 5, none⟩ = some (.string x.name) ∧ w.cell? ⟨b, off + i * 5 + 1, none⟩ = some (.string x.a) ∧ w.cell? ⟨b, off + i * 5 + 2, none⟩ = some (.string x.b) ∧ w.cell? ⟨b, off + i * 5 + 3, none⟩ = some (.bool x.breaker) ∧ w.cell? ⟨b, off + i * 5 + 4, none⟩ = some (.bool x.opn) := by
  have hl : i < xs.length := (List.getElem?_eq_some_iff.1 hx).1
  have h1 := h.1
  obtain ⟨b', off', e, _, hc⟩ := h.2.2 (by omega)
  injection e with e
  injection e with e1 e2
  subst e1; subst e2
  have key : ∀ k, k < 5 → ∀ u, x.cells[k]? = some u → w.cell? ⟨b, off + i * 5 + k, none⟩ = some u := fun k hk u hu => by
    have := hc (i * 5 + k) u (by rw [flat_at Sw.len xs i x hx k hk]; exact hu)
    rwa [← Nat.add_assoc] at this
  exact ⟨key 0 (by omega) _ rfl, key 1 (by omega) _ rfl, key 2 (by omega) _ rfl, key 3 (by omega) _ rfl, key 4 (by omega) _ rfl⟩
theorem RdSw.form {w : World} {B n : Nat} {A : Option Addr} {xs : List Sw} (h : RdSw w B A n xs) (h0 : 0 < n) : ∃ b off, A = some ⟨b, off, none⟩ ∧ b < B := by
  obtain ⟨b, off, e, hlt, _⟩ := h.2.2 h0
  exact ⟨b, off, e, hlt⟩
theorem Sw.box {w : World} {p : Nat} {t : TypeId} {x : Sw} (h : Blk w p t #[.string x.name, .string x.a, .string x.b, .bool x.breaker, .bool x.opn]) : w.cell? ⟨p, 0, none⟩ = some (.string x.name) ∧ w.cell? ⟨p, 1, none⟩ = some (.string x.a) ∧ w.cell? ⟨p, 2, none⟩ = some (.string x.b) ∧ w.cell? ⟨p, 3, none⟩ = some (.bool x.breaker) ∧ w.cell? ⟨p, 4, none⟩ = some (.bool x.opn) ∧ (∀ i, w.frozen? ⟨p, i, none⟩ = false) ∧ p < w.heap.size :=
  ⟨h.cell 0, h.cell 1, h.cell 2, h.cell 3, h.cell 4, h.frozen, h.lt⟩

structure Br where
  name : ByteArray
  fr : ByteArray
  to : ByteArray
  x : Int
  tap : Int
  shift : Int
  limit : Int
  short : Int
  hold : Int
def Br.cells (x : Br) : List Value := [.string x.name, .string x.fr, .string x.to, .int .i64 x.x, .int .i64 x.tap, .int .i64 x.shift, .int .i64 x.limit, .int .i64 x.short, .int .i64 x.hold]
def Br.val (x : Br) : Value := .agg #[.string x.name, .string x.fr, .string x.to, .int .i64 x.x, .int .i64 x.tap, .int .i64 x.shift, .int .i64 x.limit, .int .i64 x.short, .int .i64 x.hold]
theorem Br.len (x : Br) : x.cells.length = 9 := rfl
def RdBr (w : World) (B : Nat) (A : Option Addr) (n : Nat) (xs : List Br) : Prop := xs.length = n ∧ Rd w B 9 A n (xs.flatMap Br.cells)
theorem RdBr.below {w w' : World} {B B' n : Nat} {A : Option Addr} {xs : List Br} (h : RdBr w B A n xs) (hb : Below B' w w') (hB : B ≤ B') : RdBr w' B A n xs := ⟨h.1, h.2.below hb hB⟩
theorem RdBr.more {w : World} {B B' n : Nat} {A : Option Addr} {xs : List Br} (h : RdBr w B A n xs) (hB : B ≤ B') : RdBr w B' A n xs := ⟨h.1, h.2.more hB⟩
theorem RdBr.at_ {w : World} {B n : Nat} {b off : Nat} {xs : List Br} (h : RdBr w B (some ⟨b, off, none⟩) n xs) {i : Nat} {x : Br} (hx : xs[i]? = some x) :
    w.cell? ⟨b, off + i * 9, none⟩ = some (.string x.name) ∧ w.cell? ⟨b, off + i * 9 + 1, none⟩ = some (.string x.fr) ∧ w.cell? ⟨b, off + i * 9 + 2, none⟩ = some (.string x.to) ∧ w.cell? ⟨b, off + i * 9 + 3, none⟩ = some (.int .i64 x.x) ∧ w.cell? ⟨b, off + i * 9 + 4, none⟩ = some (.int .i64 x.tap) ∧ w.cell? ⟨b, off + i * 9 + 5, none⟩ = some (.int .i64 x.shift) ∧ w.cell? ⟨b, off + i * 9 + 6, none⟩ = some (.int .i64 x.limit) ∧ w.cell? ⟨b, off + i * 9 + 7, none⟩ = some (.int .i64 x.short) ∧ w.cell? ⟨b, off + i * 9 + 8, none⟩ = some (.int .i64 x.hold) := by
  have hl : i < xs.length := (List.getElem?_eq_some_iff.1 hx).1
  have h1 := h.1
  obtain ⟨b', off', e, _, hc⟩ := h.2.2 (by omega)
  injection e with e
  injection e with e1 e2
  subst e1; subst e2
  have key : ∀ k, k < 9 → ∀ u, x.cells[k]? = some u → w.cell? ⟨b, off + i * 9 + k, none⟩ = some u := fun k hk u hu => by
    have := hc (i * 9 + k) u (by rw [flat_at Br.len xs i x hx k hk]; exact hu)
    rwa [← Nat.add_assoc] at this
  exact ⟨key 0 (by omega) _ rfl, key 1 (by omega) _ rfl, key 2 (by omega) _ rfl, key 3 (by omega) _ rfl, key 4 (by omega) _ rfl, key 5 (by omega) _ rfl, key 6 (by omega) _ rfl, key 7 (by omega) _ rfl, key 8 (by omega) _ rfl⟩
theorem RdBr.form {w : World} {B n : Nat} {A : Option Addr} {xs : List Br} (h : RdBr w B A n xs) (h0 : 0 < n) : ∃ b off, A = some ⟨b, off, none⟩ ∧ b < B := by
  obtain ⟨b, off, e, hlt, _⟩ := h.2.2 h0
  exact ⟨b, off, e, hlt⟩
theorem Br.box {w : World} {p : Nat} {t : TypeId} {x : Br} (h : Blk w p t #[.string x.name, .string x.fr, .string x.to, .int .i64 x.x, .int .i64 x.tap, .int .i64 x.shift, .int .i64 x.limit, .int .i64 x.short, .int .i64 x.hold]) : w.cell? ⟨p, 0, none⟩ = some (.string x.name) ∧ w.cell? ⟨p, 1, none⟩ = some (.string x.fr) ∧ w.cell? ⟨p, 2, none⟩ = some (.string x.to) ∧ w.cell? ⟨p, 3, none⟩ = some (.int .i64 x.x) ∧ w.cell? ⟨p, 4, none⟩ = some (.int .i64 x.tap) ∧ w.cell? ⟨p, 5, none⟩ = some (.int .i64 x.shift) ∧ w.cell? ⟨p, 6, none⟩ = some (.int .i64 x.limit) ∧ w.cell? ⟨p, 7, none⟩ = some (.int .i64 x.short) ∧ w.cell? ⟨p, 8, none⟩ = some (.int .i64 x.hold) ∧ (∀ i, w.frozen? ⟨p, i, none⟩ = false) ∧ p < w.heap.size :=
  ⟨h.cell 0, h.cell 1, h.cell 2, h.cell 3, h.cell 4, h.cell 5, h.cell 6, h.cell 7, h.cell 8, h.frozen, h.lt⟩

structure Gn where
  name : ByteArray
  node : ByteArray
  least : Int
  most : Int
  ramp : Int
def Gn.cells (x : Gn) : List Value := [.string x.name, .string x.node, .int .i64 x.least, .int .i64 x.most, .int .i64 x.ramp]
def Gn.val (x : Gn) : Value := .agg #[.string x.name, .string x.node, .int .i64 x.least, .int .i64 x.most, .int .i64 x.ramp]
theorem Gn.len (x : Gn) : x.cells.length = 5 := rfl
def RdGn (w : World) (B : Nat) (A : Option Addr) (n : Nat) (xs : List Gn) : Prop := xs.length = n ∧ Rd w B 5 A n (xs.flatMap Gn.cells)
theorem RdGn.below {w w' : World} {B B' n : Nat} {A : Option Addr} {xs : List Gn} (h : RdGn w B A n xs) (hb : Below B' w w') (hB : B ≤ B') : RdGn w' B A n xs := ⟨h.1, h.2.below hb hB⟩
theorem RdGn.more {w : World} {B B' n : Nat} {A : Option Addr} {xs : List Gn} (h : RdGn w B A n xs) (hB : B ≤ B') : RdGn w B' A n xs := ⟨h.1, h.2.more hB⟩
theorem RdGn.at_ {w : World} {B n : Nat} {b off : Nat} {xs : List Gn} (h : RdGn w B (some ⟨b, off, none⟩) n xs) {i : Nat} {x : Gn} (hx : xs[i]? = some x) :
    w.cell? ⟨b, off + i * 5, none⟩ = some (.string x.name) ∧ w.cell? ⟨b, off + i * 5 + 1, none⟩ = some (.string x.node) ∧ w.cell? ⟨b, off + i * 5 + 2, none⟩ = some (.int .i64 x.least) ∧ w.cell? ⟨b, off + i * 5 + 3, none⟩ = some (.int .i64 x.most) ∧ w.cell? ⟨b, off + i * 5 + 4, none⟩ = some (.int .i64 x.ramp) := by
  have hl : i < xs.length := (List.getElem?_eq_some_iff.1 hx).1
  have h1 := h.1
  obtain ⟨b', off', e, _, hc⟩ := h.2.2 (by omega)
  injection e with e
  injection e with e1 e2
  subst e1; subst e2
  have key : ∀ k, k < 5 → ∀ u, x.cells[k]? = some u → w.cell? ⟨b, off + i * 5 + k, none⟩ = some u := fun k hk u hu => by
    have := hc (i * 5 + k) u (by rw [flat_at Gn.len xs i x hx k hk]; exact hu)
    rwa [← Nat.add_assoc] at this
  exact ⟨key 0 (by omega) _ rfl, key 1 (by omega) _ rfl, key 2 (by omega) _ rfl, key 3 (by omega) _ rfl, key 4 (by omega) _ rfl⟩
theorem RdGn.form {w : World} {B n : Nat} {A : Option Addr} {xs : List Gn} (h : RdGn w B A n xs) (h0 : 0 < n) : ∃ b off, A = some ⟨b, off, none⟩ ∧ b < B := by
  obtain ⟨b, off, e, hlt, _⟩ := h.2.2 h0
  exact ⟨b, off, e, hlt⟩
theorem Gn.box {w : World} {p : Nat} {t : TypeId} {x : Gn} (h : Blk w p t #[.string x.name, .string x.node, .int .i64 x.least, .int .i64 x.most, .int .i64 x.ramp]) : w.cell? ⟨p, 0, none⟩ = some (.string x.name) ∧ w.cell? ⟨p, 1, none⟩ = some (.string x.node) ∧ w.cell? ⟨p, 2, none⟩ = some (.int .i64 x.least) ∧ w.cell? ⟨p, 3, none⟩ = some (.int .i64 x.most) ∧ w.cell? ⟨p, 4, none⟩ = some (.int .i64 x.ramp) ∧ (∀ i, w.frozen? ⟨p, i, none⟩ = false) ∧ p < w.heap.size :=
  ⟨h.cell 0, h.cell 1, h.cell 2, h.cell 3, h.cell 4, h.frozen, h.lt⟩

structure Ld where
  name : ByteArray
  node : ByteArray
  demand : Int
def Ld.cells (x : Ld) : List Value := [.string x.name, .string x.node, .int .i64 x.demand]
def Ld.val (x : Ld) : Value := .agg #[.string x.name, .string x.node, .int .i64 x.demand]
theorem Ld.len (x : Ld) : x.cells.length = 3 := rfl
def RdLd (w : World) (B : Nat) (A : Option Addr) (n : Nat) (xs : List Ld) : Prop := xs.length = n ∧ Rd w B 3 A n (xs.flatMap Ld.cells)
theorem RdLd.below {w w' : World} {B B' n : Nat} {A : Option Addr} {xs : List Ld} (h : RdLd w B A n xs) (hb : Below B' w w') (hB : B ≤ B') : RdLd w' B A n xs := ⟨h.1, h.2.below hb hB⟩
theorem RdLd.more {w : World} {B B' n : Nat} {A : Option Addr} {xs : List Ld} (h : RdLd w B A n xs) (hB : B ≤ B') : RdLd w B' A n xs := ⟨h.1, h.2.more hB⟩
theorem RdLd.at_ {w : World} {B n : Nat} {b off : Nat} {xs : List Ld} (h : RdLd w B (some ⟨b, off, none⟩) n xs) {i : Nat} {x : Ld} (hx : xs[i]? = some x) :
    w.cell? ⟨b, off + i * 3, none⟩ = some (.string x.name) ∧ w.cell? ⟨b, off + i * 3 + 1, none⟩ = some (.string x.node) ∧ w.cell? ⟨b, off + i * 3 + 2, none⟩ = some (.int .i64 x.demand) := by
  have hl : i < xs.length := (List.getElem?_eq_some_iff.1 hx).1
  have h1 := h.1
  obtain ⟨b', off', e, _, hc⟩ := h.2.2 (by omega)
  injection e with e
  injection e with e1 e2
  subst e1; subst e2
  have key : ∀ k, k < 3 → ∀ u, x.cells[k]? = some u → w.cell? ⟨b, off + i * 3 + k, none⟩ = some u := fun k hk u hu => by
    have := hc (i * 3 + k) u (by rw [flat_at Ld.len xs i x hx k hk]; exact hu)
    rwa [← Nat.add_assoc] at this
  exact ⟨key 0 (by omega) _ rfl, key 1 (by omega) _ rfl, key 2 (by omega) _ rfl⟩
theorem RdLd.form {w : World} {B n : Nat} {A : Option Addr} {xs : List Ld} (h : RdLd w B A n xs) (h0 : 0 < n) : ∃ b off, A = some ⟨b, off, none⟩ ∧ b < B := by
  obtain ⟨b, off, e, hlt, _⟩ := h.2.2 h0
  exact ⟨b, off, e, hlt⟩
theorem Ld.box {w : World} {p : Nat} {t : TypeId} {x : Ld} (h : Blk w p t #[.string x.name, .string x.node, .int .i64 x.demand]) : w.cell? ⟨p, 0, none⟩ = some (.string x.name) ∧ w.cell? ⟨p, 1, none⟩ = some (.string x.node) ∧ w.cell? ⟨p, 2, none⟩ = some (.int .i64 x.demand) ∧ (∀ i, w.frozen? ⟨p, i, none⟩ = false) ∧ p < w.heap.size :=
  ⟨h.cell 0, h.cell 1, h.cell 2, h.frozen, h.lt⟩

structure St where
  name : ByteArray
  node : ByteArray
  charge : Int
  discharge : Int
  capacity : Int
def St.cells (x : St) : List Value := [.string x.name, .string x.node, .int .i64 x.charge, .int .i64 x.discharge, .int .i64 x.capacity]
def St.val (x : St) : Value := .agg #[.string x.name, .string x.node, .int .i64 x.charge, .int .i64 x.discharge, .int .i64 x.capacity]
theorem St.len (x : St) : x.cells.length = 5 := rfl
def RdSt (w : World) (B : Nat) (A : Option Addr) (n : Nat) (xs : List St) : Prop := xs.length = n ∧ Rd w B 5 A n (xs.flatMap St.cells)
theorem RdSt.below {w w' : World} {B B' n : Nat} {A : Option Addr} {xs : List St} (h : RdSt w B A n xs) (hb : Below B' w w') (hB : B ≤ B') : RdSt w' B A n xs := ⟨h.1, h.2.below hb hB⟩
theorem RdSt.more {w : World} {B B' n : Nat} {A : Option Addr} {xs : List St} (h : RdSt w B A n xs) (hB : B ≤ B') : RdSt w B' A n xs := ⟨h.1, h.2.more hB⟩
theorem RdSt.at_ {w : World} {B n : Nat} {b off : Nat} {xs : List St} (h : RdSt w B (some ⟨b, off, none⟩) n xs) {i : Nat} {x : St} (hx : xs[i]? = some x) :
    w.cell? ⟨b, off + i * 5, none⟩ = some (.string x.name) ∧ w.cell? ⟨b, off + i * 5 + 1, none⟩ = some (.string x.node) ∧ w.cell? ⟨b, off + i * 5 + 2, none⟩ = some (.int .i64 x.charge) ∧ w.cell? ⟨b, off + i * 5 + 3, none⟩ = some (.int .i64 x.discharge) ∧ w.cell? ⟨b, off + i * 5 + 4, none⟩ = some (.int .i64 x.capacity) := by
  have hl : i < xs.length := (List.getElem?_eq_some_iff.1 hx).1
  have h1 := h.1
  obtain ⟨b', off', e, _, hc⟩ := h.2.2 (by omega)
  injection e with e
  injection e with e1 e2
  subst e1; subst e2
  have key : ∀ k, k < 5 → ∀ u, x.cells[k]? = some u → w.cell? ⟨b, off + i * 5 + k, none⟩ = some u := fun k hk u hu => by
    have := hc (i * 5 + k) u (by rw [flat_at St.len xs i x hx k hk]; exact hu)
    rwa [← Nat.add_assoc] at this
  exact ⟨key 0 (by omega) _ rfl, key 1 (by omega) _ rfl, key 2 (by omega) _ rfl, key 3 (by omega) _ rfl, key 4 (by omega) _ rfl⟩
theorem RdSt.form {w : World} {B n : Nat} {A : Option Addr} {xs : List St} (h : RdSt w B A n xs) (h0 : 0 < n) : ∃ b off, A = some ⟨b, off, none⟩ ∧ b < B := by
  obtain ⟨b, off, e, hlt, _⟩ := h.2.2 h0
  exact ⟨b, off, e, hlt⟩
theorem St.box {w : World} {p : Nat} {t : TypeId} {x : St} (h : Blk w p t #[.string x.name, .string x.node, .int .i64 x.charge, .int .i64 x.discharge, .int .i64 x.capacity]) : w.cell? ⟨p, 0, none⟩ = some (.string x.name) ∧ w.cell? ⟨p, 1, none⟩ = some (.string x.node) ∧ w.cell? ⟨p, 2, none⟩ = some (.int .i64 x.charge) ∧ w.cell? ⟨p, 3, none⟩ = some (.int .i64 x.discharge) ∧ w.cell? ⟨p, 4, none⟩ = some (.int .i64 x.capacity) ∧ (∀ i, w.frozen? ⟨p, i, none⟩ = false) ∧ p < w.heap.size :=
  ⟨h.cell 0, h.cell 1, h.cell 2, h.cell 3, h.cell 4, h.frozen, h.lt⟩


structure Net where
  nodes : List ByteArray
  sws : List Sw
  brs : List Br
  gns : List Gn
  lds : List Ld
  sts : List St
/-- the headers of the six slices of a network -/
structure NetH where
  A0 : Option Addr
  n0 : Nat
  c0 : Nat
  A1 : Option Addr
  n1 : Nat
  c1 : Nat
  A2 : Option Addr
  n2 : Nat
  c2 : Nat
  A3 : Option Addr
  n3 : Nat
  c3 : Nat
  A4 : Option Addr
  n4 : Nat
  c4 : Nat
  A5 : Option Addr
  n5 : Nat
  c5 : Nat
def NetH.cells (h : NetH) : Array Value := #[.slice h.A0 h.n0 h.c0, .slice h.A1 h.n1 h.c1, .slice h.A2 h.n2 h.c2, .slice h.A3 h.n3 h.c3, .slice h.A4 h.n4 h.c4, .slice h.A5 h.n5 h.c5]
structure RdNet (w : World) (B : Nat) (h : NetH) (x : Net) : Prop where
  r0 : RdStr w B h.A0 h.n0 x.nodes
  r1 : RdSw w B h.A1 h.n1 x.sws
  r2 : RdBr w B h.A2 h.n2 x.brs
  r3 : RdGn w B h.A3 h.n3 x.gns
  r4 : RdLd w B h.A4 h.n4 x.lds
  r5 : RdSt w B h.A5 h.n5 x.sts
  m0 : h.n0 ≤ 9223372036854775807
  m1 : h.n1 ≤ 9223372036854775807
  m2 : h.n2 ≤ 9223372036854775807
  m3 : h.n3 ≤ 9223372036854775807
  m4 : h.n4 ≤ 9223372036854775807
  m5 : h.n5 ≤ 9223372036854775807
  /-- every string is as long as a string can be -/
  z0 : ∀ s ∈ x.nodes, s.size ≤ maxLen
  z1 : ∀ s ∈ x.sws, s.name.size ≤ maxLen
  z2 : ∀ s ∈ x.brs, s.name.size ≤ maxLen
  z3 : ∀ s ∈ x.gns, s.name.size ≤ maxLen
  z4 : ∀ s ∈ x.lds, s.name.size ≤ maxLen
  z5 : ∀ s ∈ x.sts, s.name.size ≤ maxLen
theorem RdNet.below {w w' : World} {B B' : Nat} {h : NetH} {x : Net} (r : RdNet w B h x) (hb : Below B' w w') (hB : B ≤ B') : RdNet w' B h x :=
  ⟨r.r0.below hb hB, r.r1.below hb hB, r.r2.below hb hB, r.r3.below hb hB, r.r4.below hb hB, r.r5.below hb hB, r.m0, r.m1, r.m2, r.m3, r.m4, r.m5, r.z0, r.z1, r.z2, r.z3, r.z4, r.z5⟩
theorem RdNet.more {w : World} {B B' : Nat} {h : NetH} {x : Net} (r : RdNet w B h x) (hB : B ≤ B') : RdNet w B' h x :=
  ⟨r.r0.more hB, r.r1.more hB, r.r2.more hB, r.r3.more hB, r.r4.more hB, r.r5.more hB, r.m0, r.m1, r.m2, r.m3, r.m4, r.m5, r.z0, r.z1, r.z2, r.z3, r.z4, r.z5⟩
theorem RdNet.up {w w' : World} {h : NetH} {x : Net} (r : RdNet w w.heap.size h x) (hb : Below w.heap.size w w') : RdNet w' w'.heap.size h x := (r.below hb (Nat.le_refl _)).more hb.size
theorem net_box {w : World} {p : Nat} {t : TypeId} {h : NetH} (q : Blk w p t h.cells) : w.cell? ⟨p, 0, none⟩ = some (.slice h.A0 h.n0 h.c0) ∧ w.cell? ⟨p, 1, none⟩ = some (.slice h.A1 h.n1 h.c1) ∧ w.cell? ⟨p, 2, none⟩ = some (.slice h.A2 h.n2 h.c2) ∧
    w.cell? ⟨p, 3, none⟩ = some (.slice h.A3 h.n3 h.c3) ∧ w.cell? ⟨p, 4, none⟩ = some (.slice h.A4 h.n4 h.c4) ∧ w.cell? ⟨p, 5, none⟩ = some (.slice h.A5 h.n5 h.c5) ∧ (∀ i, w.frozen? ⟨p, i, none⟩ = false) ∧ p < w.heap.size :=
  ⟨q.cell 0, q.cell 1, q.cell 2, q.cell 3, q.cell 4, q.cell 5, q.frozen, q.lt⟩
end Go.Proofs.Ythedpegaelpbdaa
