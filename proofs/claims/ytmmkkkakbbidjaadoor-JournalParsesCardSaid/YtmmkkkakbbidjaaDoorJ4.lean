/- Events that are equal: SameEvents. -/
import Derived.Test.YtmmkkkakbbidjaaDoorJ3
import Derived.Laws.StructEq
namespace Go.Proofs.YtmmkkkakbbidjaaDoor
open Go.ChangeShapes Go.WideShapes Go.ChangeAt Go.RowKit
set_option linter.unusedVariables false
attribute [local go_sem ↓] execOp_call_val
attribute [local go_sem] callVal_func setCell_drewN alloc_drewN sEq_walk

def evB (x y : Ev) : Bool := decide (x.time = y.time) && (sEq x.kind y.kind && (sEq x.name y.name && decide (x.value = y.value)))
theorem evB_iff {x y : Ev} : evB x y = true ↔ x = y := by
  cases x; cases y
  simp [evB, sEq]
theorem evB_self (x : Ev) : evB x x = true := evB_iff.2 rfl
theorem eqin_ev (x y : Ev) (w : World) : (Op.equalIn 10000 31 (.agg (evV x)) (.agg (evV y))).run Tryd.prog w = .ok (evB x y) w := by
  have u3 := Tryd.underlying3
  have u9 := Tryd.underlying9
  have a3 := Tryd.isAgg3
  have a9 := Tryd.isAgg9
  have z3 := Tryd.sizeOf3
  have z9 := Tryd.sizeOf9
  have hS : Tryd.prog.underlying 31 = some (.struct (Tryd.prog.fieldsOf 31)) := by kernel_rfl
  have hp : Tryd.prog.stoodInHeld 31 = false := by kernel_rfl
  simp only [evV]
  rw [show (10000 : Nat) = 9999 + 1 from rfl, run_equalIn_agg w 9999 31 _ _ hS hp]
  simp only [Program.fieldsOf, Tryd.underlying31]
  go_simp
  unfold evB
  by_cases h1 : x.time = y.time <;> cases h2 : sEq x.kind y.kind <;> cases h3 : sEq x.name y.name <;> by_cases h4 : x.value = y.value <;> simp [h1, h4]
theorem eql_ev (x y : Ev) (w : World) : (binOp .eql 31 (.agg (evV x)) (.agg (evV y))).run Tryd.prog w = .ok (.bool (evB x y)) w := by
  rw [run_eql_struct, eqin_ev]; rfl
theorem neq_ev (x y : Ev) (w : World) : (binOp .neq 31 (.agg (evV x)) (.agg (evV y))).run Tryd.prog w = .ok (.bool (!evB x y)) w := by
  rw [run_neq_struct, eqin_ev]; rfl
theorem grd_ev (op : BinOp) (a b : Operand) (xs ys : Array Value) (w : World) : (eqGuard op 31 a b (.agg xs) (.agg ys)).run Tryd.prog w = .ok () w := run_eqGuard_agg w op 31 a b xs ys (by kernel_rfl)

def sameGo : List Ev → List Ev → Bool
  | [], [] => true
  | x :: r, y :: t => evB x y && sameGo r t
  | _, _ => false
theorem sameGo_iff : ∀ {a b : List Ev}, sameGo a b = true ↔ a = b
  | [], [] => by simp [sameGo]
  | [], _ :: _ => by simp [sameGo]
  | _ :: _, [] => by simp [sameGo]
  | x :: r, y :: t => by simp [sameGo, evB_iff, sameGo_iff (a := r) (b := t)]
theorem sameGo_len : ∀ {a b : List Ev}, a.length ≠ b.length → sameGo a b = false
  | [], [], h => absurd rfl h
  | [], _ :: _, _ => rfl
  | _ :: _, [], _ => rfl
  | x :: r, y :: t, h => by
    have := sameGo_len (a := r) (b := t) (fun e => h (by simp [e]))
    simp [sameGo, this]

set_option maxRecDepth 100000 in
set_option maxHeartbeats 1000000 in
theorem sameEv_any (A : Option Addr) (n c : Nat) (a : List Ev) (B : Option Addr) (m d : Nat) (b : List Ev) (w : World) (ha : RdEv w w.heap.size A n a) (hb : RdEv w w.heap.size B m b) (hn : n ≤ 9223372036854775807) (hm : m ≤ 9223372036854775807) :
    Calls Tryd.prog 11 #[.slice A n c, .slice B m d] w fun e w' => e = .returned (.bool (sameGo a b)) ∧ ∃ k, w' = w.drewN k := by
  have HA := Lib.hid ha.1
  have HB := Lib.hid hb.1
  by_cases hnm : n = m
  · subst hnm
    have RA := Lib.hid ha
    have RB := Lib.hid hb
    have hgd := grd_ev
    have hne := neq_ev
    clear ha hb
    go_enter Tryd.func11, Tryd.ntmps11
    go_wp2_with fail
    go_loopw [5, 13] (fun _ i wr => ∃ k : Nat, k ≤ n ∧ i = .int .i64 k ∧ (∃ q, wr = w.drewN q) ∧ sameGo a b = sameGo (a.drop k) (b.drop k)) (fun _ i _ => n - (intOf i).toNat)
    case atStart => exact ⟨0, by omega, rfl, ⟨0, rfl⟩, rfl⟩
    case round =>
      obtain ⟨k, hk, rfl, ⟨q, rfl⟩, hidx⟩ := hrel
      have HI := Lib.hid hidx
      clear hidx
      by_cases hlt : k < n
      · obtain ⟨x, hx⟩ : ∃ x, a[k]? = some x := ⟨_, List.getElem?_eq_getElem (by have := HA.out; omega)⟩
        obtain ⟨y, hy⟩ : ∃ y, b[k]? = some y := ⟨_, List.getElem?_eq_getElem (by have := HB.out; omega)⟩
        obtain ⟨ab, ao, hA, halt⟩ := RA.out.form (by omega)
        obtain ⟨bb, bo, hB, hblt⟩ := RB.out.form (by omega)
        subst hA; subst hB
        obtain ⟨a0, a1, a2, a3⟩ := RA.out.at_ hx
        obtain ⟨b0, b1, b2, b3⟩ := RB.out.at_ hy
        have HX := Lib.hid (drop_cons hx)
        have HY := Lib.hid (drop_cons hy)
        have hkI : (k : Int) < (n : Int) := by omega
        have hkI0 : (0 : Int) ≤ (k : Int) := by omega
        clear hx hy
        simp only [evV] at hne
        cases hp : evB x y with
        | true =>
          have hne1 := fun w' => hne x y w'
          rw [hp] at hne1
          have HP := Lib.hid hp
          clear hp hne
          go_wp2_with fail
          go_quiet (fail)
          go_wp2_with fail
          go_roundw
          case rel => exact ⟨k + 1, by omega, by go_num, ⟨_, rfl⟩, by rw [HI.out, HX.out, HY.out]; simp [sameGo, HP.out]⟩
          case measure => simp [intOf]; omega
        | false =>
          have hne1 := fun w' => hne x y w'
          rw [hp] at hne1
          have HP := Lib.hid hp
          clear hp hne
          go_wp2_with fail
          go_quiet (fail)
          go_wp2_with fail
          go_ret
          exact ⟨ret_bool (by rw [HI.out, HX.out, HY.out]; simp [sameGo, HP.out]), _, World.drewN_drewN ..⟩
      · have hd : a.drop k = [] := by rw [List.drop_eq_nil_iff]; have := HA.out; omega
        have hd2 : b.drop k = [] := by rw [List.drop_eq_nil_iff]; have := HB.out; omega
        have HD := Lib.hid hd
        have HD2 := Lib.hid hd2
        clear hd hd2
        go_wp2_with fail
        go_ret
        exact ⟨ret_bool (by rw [HI.out, HD.out, HD2.out]; rfl), _, rfl⟩
  · have hs : sameGo a b = false := sameGo_len (by have := HA.out; have := HB.out; omega)
    have HS := Lib.hid hs
    have hb1 : (n != m) = true := by simpa using hnm
    have hb2 : ((n : Int) != (m : Int)) = true := by simp; omega
    clear ha hb hs
    go_enter Tryd.func11, Tryd.ntmps11
    go_wp2_with fail
    go_ret
    exact ⟨ret_bool HS.out.symm, 0, rfl⟩
end Go.Proofs.YtmmkkkakbbidjaaDoor
