import Derived.Below
namespace Go.Proofs.YthgdchffeigkbaaGreatDoor
theorem lH {p : Prop} (h : p) : Go.RowKit.Hid p := h
theorem _root_.Go.RowKit.Hid.o {p : Prop} (h : Go.RowKit.Hid p) : p := h
theorem lR {n : Nat} : n ≤ n := Nat.le_refl n
theorem zA_ {α : Type _} {l : List α} {i : Nat} (h : i < l.length) : l[i]? = some l[i] := List.getElem?_eq_getElem h
theorem zB_ {α : Type _} {l : List α} {i : Nat} {a : α} : l[i]? = some a ↔ ∃ h : i < l.length, l[i] = a := List.getElem?_eq_some_iff
theorem zC_ {α : Type _} {l : List α} {i : Nat} {a : α} (e : l[i]? = some a) : a ∈ l := List.mem_of_getElem? e
theorem zD_ {α : Type _} {l : List α} {i : Nat} {a : α} : l.getD i a = l[i]?.getD a := List.getD_eq_getElem?_getD
end Go.Proofs.YthgdchffeigkbaaGreatDoor
