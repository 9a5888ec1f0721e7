/- relaylang.Order (the first part of DE, for a seat without the clones). -/
import Derived.Test.YtaanoljfhnfjoaaGreatDoorDD
import Derived.Lib.SmallJoins
namespace Go.Proofs.YtaanoljfhnfjoaaGreatDoor
open Go.ChangeShapes Go.WideShapes Go.ChangeAt Go.RowKit
set_option linter.unusedVariables false
set_option linter.unusedSimpArgs false
attribute [local go_sem ↓] execOp_call_val
attribute [local go_sem] callVal_func setCell_drewN alloc_drewN sEq_walk


/-- what relaylang.Order answers -/
def OrdE (p : List Rl) (w : World) (e : Ending) (w' : World) : Prop :=
  Below w.heap.size w w' ∧ ((ckR p ≠ 0 ∧ e = .returned (.tuple #[.slice none 0 0, .int .i64 (ckR p)])) ∨ (ckR p = 0 ∧ ∃ o v, orderR p = some o ∧ e = .returned (.tuple #[v, .int .i64 0]) ∧ w'.ownsRow w.heap.size 3 1 v o.length (ints (natJ o))))
set_option maxHeartbeats 1000000 in
theorem rorder_any (A : Option Addr) (n c : Nat) (hs : List Rh) (w : World) (hR : RdRh w w.heap.size A n hs) (hn : n ≤ c) (hc : c ≤ maxLen) (hf : ∀ z ∈ hs, z.r.Fit) :
    Calls Tryz.prog 12 #[.slice A n c] w (OrdE (rls hs) w) := by
  have HP : Hid (∀ e w', OrdE (rls hs) w e w' = (Below w.heap.size w w' ∧ ((ckR (rls hs) ≠ 0 ∧ e = .returned (.tuple #[.slice none 0 0, .int .i64 (ckR (rls hs))])) ∨ (ckR (rls hs) = 0 ∧ ∃ o v, orderR (rls hs) = some o ∧ e = .returned (.tuple #[v, .int .i64 0]) ∧ w'.ownsRow w.heap.size 3 1 v o.length (ints (natJ o)))))) := Lib.hid fun _ _ => rfl
  have HR := Lib.hid hR
  have HF := Lib.hid hf
  have HPL : Hid ((rls hs).length = n) := Lib.hid (by unfold rls; rw [List.length_map]; exact hR.len)
  have HHC := Lib.hid hc
  clear hR hf hc
  go_enter Tryz.func12, Tryz.ntmps12
  go_wp2_with fail
  refine (rcheck_any A n c hs w HR.out hn HHC.out HF.out).mono ?_
  rintro e w1 ⟨rfl, k1⟩
  have HB1 := Lib.hid k1
  clear k1
  generalize hck : ckR (rls hs) = ck at *
  by_cases h0 : ck = 0
  · subst h0
    have HPO := Lib.hid (ckR_ok hck)
    have HCK := Lib.hid hck
    clear hck
    have hn16 : n ≤ 16 := by have := HPO.out.len; have := HPL.out; omega
    go_wp2_with fail
    refine (order_any A n c hs w1 (HR.out.up HB1.out) hn16 (fun z hz => by
      obtain ⟨i, hi⟩ := List.mem_iff_getElem?.1 hz
      have := HPO.out.rule i z.r (by unfold rls; rw [List.getElem?_map, hi]; rfl)
      exact ⟨this.len, wfE_of this.form⟩)).mono ?_
    rintro e w2 ⟨k2, ⟨ho, rfl⟩ | ⟨o, v, ho, rfl, hown⟩⟩
    · obtain ⟨o, ho2⟩ := HPO.out.ord
      rw [ho] at ho2
      cases ho2
    · have HB2 := Lib.hid (HB1.out.trans (k2.mono HB1.out.size))
      have HO := Lib.hid (own_mono hown HB1.out.size)
      have HOR := Lib.hid ho
      clear k2 hown ho
      go_wp2_with fail
      go_ret2
      rw [HP.out]
      exact ⟨HB2.out, .inr ⟨by trivial, o, v, HOR.out, rfl, HO.out⟩⟩
  · have h0b : (ck != 0) = true := by simpa using h0
    have H0 := Lib.hid h0
    clear hck h0
    go_wp2_with fail
    go_ret2
    rw [HP.out]
    exact ⟨HB1.out, .inl ⟨H0.out, rfl⟩⟩

end Go.Proofs.YtaanoljfhnfjoaaGreatDoor
