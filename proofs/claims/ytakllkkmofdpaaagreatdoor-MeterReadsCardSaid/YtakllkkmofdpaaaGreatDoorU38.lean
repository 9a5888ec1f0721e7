import Derived.Test.YtakllkkmofdpaaaGreatDoorU31
import Derived.Test.YtakllkkmofdpaaaGreatDoorU36
import Derived.Test.YtakllkkmofdpaaaGreatDoorU37
set_option linter.unusedVariables false
set_option linter.unusedSimpArgs false
namespace Go.Proofs.YtakllkkmofdpaaaGreatDoor
section
open Go.ChangeShapes Go.WideShapes Go.ChangeAt Go.RowKit
attribute [local go_sem ↓] execOp_call_val
attribute [local go_sem] callVal_func setCell_drewN alloc_drewN sEq_walk
theorem OwnS.mono {S : Value → Prop} {w : World} {base base' e size n : Nat} {v : Value} {xs : List Value} (h : OwnS S w base e size v n xs) (hb : base' ≤ base) : OwnS S w base' e size v n xs :=
 ⟨h.1, h.2.imp id fun ⟨g, cap, cur, h1, h2, h3⟩ => ⟨g, cap, cur, h1, Nat.le_trans hb h2, h3⟩⟩
theorem RdQ.keepsI {w w' : World} {A : Option Addr} {n base e : Nat} {qs : List Rat} (h : RdQ w w.heap.size A n qs) (k : Keeps IsI base e w w') : RdQ w' w'.heap.size A n qs := by
 obtain ⟨vs, h1, h2, h3, h4⟩ := h
 refine ⟨vs, h1, h2, ⟨h3.1, fun hn => ?_⟩, fun i q v hq hv => (h4 i q v hq hv).keepsI k⟩
 obtain ⟨b, off, e, hlt, hc⟩ := h3.2 hn
 refine ⟨b, off, e, Nat.lt_of_lt_of_le hlt k.size, fun j u hu => k.cell _ _ (hc j u hu) ?_⟩
 rintro ⟨y, hy⟩
 exact (rvs_noI vs u (List.mem_of_getElem? hu)).2 _ _ hy
theorem RdM.keepsI {w w' : World} {A : Option Addr} {n base e : Nat} {M : List (List Rat)} (h : RdM w w.heap.size A n M) (k : Keeps IsI base e w w') : RdM w' w'.heap.size A n M := by
 obtain ⟨hs, h1, h2, h3, h4⟩ := h
 refine ⟨hs, h1, h2, ⟨h3.1, fun hn => ?_⟩, fun i a q hh hq => ⟨(h4 i a q hh hq).1.keepsI k, (h4 i a q hh hq).2⟩⟩
 obtain ⟨b, off, e, hlt, hc⟩ := h3.2 hn
 refine ⟨b, off, e, Nat.lt_of_lt_of_le hlt k.size, fun j u hu => k.cell _ _ (hc j u hu) ?_⟩
 rintro ⟨y, hy⟩
 exact (hd_noI hs u (List.mem_of_getElem? hu)).2 _ _ hy
end
section
open Go.ChangeShapes Go.WideShapes Go.ChangeAt Go.RowKit
attribute [local go_sem ↓] execOp_call_val
attribute [local go_sem] callVal_func setCell_drewN alloc_drewN sEq_walk
def adR (x : Net) (l p : List Mi) : List (List Rat) × List Nat := addR (rowsR x l) (rowsR x p) 0
structure AdS (x : Net) (l p : List Mi) (k : Nat) (M : List (List Rat)) (out : List Nat) : Prop where
 fst : (addR M ((rowsR x p).drop k) k).1 = (adR x l p).1
 snd : out ++ (addR M ((rowsR x p).drop k) k).2 = (adR x l p).2
 ok : RkOk M (freeL x).length 301
 len : M.length ≤ l.length + k
 cnt : out.length ≤ k
theorem AdS.done {x : Net} {l p : List Mi} {k : Nat} {M : List (List Rat)} {out : List Nat} (h : AdS x l p k M out) (hk : p.length ≤ k) : M = (adR x l p).1 ∧ out = (adR x l p).2 := by
 have hd : (rowsR x p).drop k = [] := List.drop_eq_nil_of_le (by rw [rowsR_len]; exact hk)
 have h1 := h.fst
 have h2 := h.snd
 rw [hd] at h1 h2
 refine ⟨h1, ?_⟩
 rw [← h2]
 show out = out ++ []
 rw [List.append_nil]
end
end Go.Proofs.YtakllkkmofdpaaaGreatDoor
