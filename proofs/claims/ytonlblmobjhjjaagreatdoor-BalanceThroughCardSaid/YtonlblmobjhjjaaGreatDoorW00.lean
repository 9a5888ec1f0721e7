import Derived.Below
namespace Go.Proofs.YtonlblmobjhjjaaGreatDoor
theorem lH {p : Prop} (h : p) : Go.RowKit.Hid p := h
theorem _root_.Go.RowKit.Hid.o {p : Prop} (h : Go.RowKit.Hid p) : p := h
theorem lR {n : Nat} : n <= n := Nat.le_refl n
theorem jP {α : Type _} {l : List α} {i : Nat} (h : i < l.length) : l[i]? = some l[i] := List.getElem?_eq_getElem h
theorem c_ {α : Type _} {l : List α} {i : Nat} {a : α} : l[i]? = some a <-> ∃ h : i < l.length, l[i] = a := List.getElem?_eq_some_iff
theorem cS {α : Type _} {l : List α} {i : Nat} {a : α} (e : l[i]? = some a) : a ∈ l := List.mem_of_getElem? e
theorem dQ {α : Type _} {l : List α} {i : Nat} {a : α} : l.getD i a = l[i]?.getD a := List.getD_eq_getElem?_getD
open Go.RowKit
theorem bR {b : Nat} {w : World} : Below b w w := Below.refl _ _
theorem jO {α : Type _} {as bs : List α} : (as ++ bs).length = as.length + bs.length := List.length_append
theorem kC {α : Type _} {i : Nat} {l : List α} : (List.take i l).length = min i l.length := List.length_take
theorem kJ {α β : Type _} {as : List α} (f : α -> β) : (as.map f).length = as.length := List.length_map f
theorem oP {α : Type _} {i : Nat} {l : List α} (h : l.length <= i) : l.take i = l := List.take_of_length_le h
theorem eN {n m k : Nat} : n <= m -> m <= k -> n <= k := Nat.le_trans
theorem jJ {n m k : Nat} : n < m -> m <= k -> n < k := Nat.lt_of_lt_of_le
theorem oO {α : Type _} {a : α} {as : List α} {i : Nat} : (a :: as).take (i+1) = a :: as.take i := List.take_succ_cons
theorem oL (n : Nat) : (n : Int).toNat = n := Int.toNat_natCast n
theorem pL {α β : Type _} {f : α -> β} {l : List α} {i : Nat} : (l.map f)[i]? = Option.map f l[i]? := List.getElem?_map
theorem DK {α : Type _} {l1 l2 : List α} {i : Nat} (h : l1.length <= i) : (l1 ++ l2)[i]? = l2[i - l1.length]? := List.getElem?_append_right h
theorem pV {α : Type _} {n : Nat} {a : α} : (List.replicate n a).length = n := List.length_replicate
theorem qY {n m : Nat} : n < m -> n <= m := Nat.le_of_lt
theorem yV {α : Type _} {l1 l2 : List α} {i : Nat} (h : i < l1.length) : (l1 ++ l2)[i]? = l1[i]? := List.getElem?_append_left h
theorem G5 {α : Type _} {i : Nat} {l : List α} : (l.drop i).length = l.length - i := List.length_drop
theorem zT_ {n m k : Nat} : n <= m -> m < k -> n < k := Nat.lt_of_le_of_lt
theorem jI {α : Type _} {as : List α} {i : Nat} {a : α} : (as.set i a).length = as.length := List.length_set
theorem G4 {α : Type _} {a : α} {as : List α} : (a :: as).length = as.length + 1 := List.length_cons
theorem zW_ {α : Type _} : ([] : List α).length = 0 := List.length_nil
theorem lN (i : Nat) : Go.RowKit.Hid ((i : Int) + 1 = ((i + 1 : Nat) : Int)) := by show _ = _; omega
theorem lZ (i : Nat) : (0 : Int) <= (i : Int) := by omega
theorem eG {α : Type _} {l : List α} {i : Nat} (h : i < l.length) : ∃ a, l[i]? = some a := ⟨_, List.getElem?_eq_getElem h⟩
theorem bA {w : World} {o : Obj} : Below w.heap.size w (w.alloc o) := (Below.refl _ _).alloc (Nat.le_refl _) _
theorem _root_.Go.RowKit.Below.tm {w w1 w2 : World} (h : Below w.heap.size w w1) (g : Below w1.heap.size w1 w2) : Below w.heap.size w w2 := h.trans (g.mono h.size)
theorem l2_ {a b : Prop} (x : a) (y : b) : Go.RowKit.Hid a /\ Go.RowKit.Hid b := ⟨x, y⟩
theorem eR {a b c : Prop} (x : a) (y : b) (z : c) : Go.RowKit.Hid a /\ Go.RowKit.Hid b /\ Go.RowKit.Hid c := ⟨x, y, z⟩
theorem gO {a b c d : Prop} (x : a) (y : b) (z : c) (u : d) : Go.RowKit.Hid a /\ Go.RowKit.Hid b /\ Go.RowKit.Hid c /\ Go.RowKit.Hid d := ⟨x, y, z, u⟩
theorem mP {a b c d e : Prop} (x : a) (y : b) (z : c) (u : d) (v : e) : Go.RowKit.Hid a /\ Go.RowKit.Hid b /\ Go.RowKit.Hid c /\ Go.RowKit.Hid d /\ Go.RowKit.Hid e := ⟨x, y, z, u, v⟩
theorem bX {w w1 w2 : World} (h : Go.RowKit.Hid (Below w.heap.size w w1)) (g : Below w1.heap.size w1 w2) : Go.RowKit.Hid (Below w.heap.size w w2) := h.o.tm g
theorem vM (w : World) (o : Obj) : Below w.heap.size w (w.alloc o) := bA
abbrev dC : Obj := .cells #[.bool false,.slice none 0 0,.bool false,.slice none 0 0] 87
abbrev bU : Obj := .cells #[.bool false,.slice none 0 0] 85
abbrev V_ : Obj := .cells #[.slice none 0 0,.slice none 0 0] 49
abbrev V1 : Obj := .cells #[.slice none 0 0,.slice none 0 0] 57
abbrev aK (b : Bool) (A : Option Addr) (n c : Nat) : Obj := .cells #[.bool b, .slice A n c] 85
abbrev aU (b : Bool) (A : Option Addr) (n c : Nat) (d : Bool) (B : Option Addr) (m e : Nat) : Obj := .cells #[.bool b, .slice A n c, .bool d, .slice B m e] 87
abbrev _root_.Go.OA := Option Addr
abbrev _root_.Go.Wo := World
