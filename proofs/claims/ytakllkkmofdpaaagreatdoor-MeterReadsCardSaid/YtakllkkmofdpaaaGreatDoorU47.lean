import Derived.Test.YtakllkkmofdpaaaGreatDoorU38
import Derived.Test.YtakllkkmofdpaaaGreatDoorU43
set_option linter.unusedVariables false
set_option linter.unusedSimpArgs false
namespace Go.Proofs.YtakllkkmofdpaaaGreatDoor
section
open Go.ChangeShapes Go.WideShapes Go.ChangeAt Go.RowKit
section
variable {P : Program}
end
theorem own_none (w : World) (base e size : Nat) : w.ownsRow base e size (.slice none 0 0) 0 [] := ⟨by simp, .inl ⟨rfl, rfl⟩⟩
end
section
open Go.ChangeShapes Go.WideShapes Go.ChangeAt Go.RowKit Go.Joins
attribute [local go_sem ↓] execOp_call_val
attribute [local go_sem] callVal_func setCell_drewN alloc_drewN sEq_walk
theorem ownMi_none (w : World) (base : Nat) : OwnMi w base (.slice none 0 0) [] := own_none _ _ _ _
section
variable {o : Oper} {a : Act} {w : World} {Q : Exit → Act → World → Prop}
theorem wpList_appMi {ops : Array Oper} {rest : List Oper} (hgd : o.guard = none) (s x : Operand) (t : TypeId)
    (ho : o.op = .call { callee := .builtin .append, args := #[s, x], argTypes := #[t, t] }) (base : Nat) (ht : Tryz.prog.underlying t = some (.slice 57))
    (v : Value) (xs : List Mi) (hsv : a.eval s = v) (hown : OwnMi w base v xs)
    (A : Option Addr) (m c : Nat) (ys : List Mi) (hx : a.eval x = .slice A m c) (hr : RdMi w w.heap.size A m ys) (h63 : xs.length + m ≤ 1000000000) (hbase : base ≤ w.heap.size) (N : Nat) (hN : (xs ++ ys).length = N)
    (h : ∀ A' c' w', OwnMi w' base (.slice A' N c') (xs ++ ys) → Below base w w' → w.grownBy w' v.ownBlock → wpList Tryz.prog ops Q rest (a.put o.dst (.slice A' N c')) w') : wpList Tryz.prog ops Q (o :: rest) a w := by
 refine wpList_plain hgd fun K hK => ?_
 exact wp_appMi s x t ho base ht v xs hsv hown A m c ys hx hr h63 hbase N hN fun A' c' w' a1 a2 a3 => hK _ _ (h A' c' w' a1 a2 a3)
end
end
section
open Go.ChangeShapes Go.WideShapes Go.ChangeAt Go.RowKit
attribute [local go_sem ↓] execOp_call_val
attribute [local go_sem] callVal_func setCell_drewN alloc_drewN sEq_walk
theorem addR_no {rows : List (List Rat)} {a : List Rat} {r : List (List Rat)} {i : Nat} (h : ¬ rankR rows < rankR (rows ++ [a])) : addR rows (a :: r) i = addR rows r (i + 1) := by
 show (if _ then _ else _) = _
 rw [if_neg h]
theorem AdS.no {x : Net} {l p : List Mi} {k : Nat} {M : List (List Rat)} {out : List Nat} {m : Mi} (h : AdS x l p k M out) (hm : p[k]? = some m) (hr : ¬ rankR M < rankR (M ++ [rowR x (formR x m).1])) : AdS x l p (k + 1) M out := by
 have hd : (rowsR x p).drop k = rowR x (formR x m).1 :: (rowsR x p).drop (k + 1) := drop_cons (rowsR_get hm)
 have h1 := h.fst
 have h2 := h.snd
 rw [hd, addR_no hr] at h1 h2
 exact ⟨h1, h2, h.ok, by have := h.len; omega, by have := h.cnt; omega⟩
end
end Go.Proofs.YtakllkkmofdpaaaGreatDoor
