/- Slices of integers: SameInts. -/
import Derived.Test.YtaanoljfhnfjoaaGreatDoorI0
namespace Go.Proofs.YtaanoljfhnfjoaaGreatDoor
open Go.ChangeShapes Go.WideShapes Go.ChangeAt Go.RowKit
set_option linter.unusedVariables false
attribute [local go_sem ↓] execOp_call_val
attribute [local go_sem] callVal_func setCell_drewN alloc_drewN

def sameI (a b : List Int) : Bool := decide (a = b)

set_option maxHeartbeats 1000000 in
theorem sameInts_any (A : Option Addr) (n c : Nat) (a : List Int) (B : Option Addr) (m d : Nat) (b : List Int) (w : World) (ha : RdI w w.heap.size A n a) (hb : RdI w w.heap.size B m b) (hn : n ≤ 9223372036854775807) :
    Calls Tryz.prog 18 #[.slice A n c, .slice B m d] w fun e w' => e = .returned (.bool (sameI a b)) ∧ ∃ nq, w' = w.drewN nq := by
  have hla := Lib.hid ha.len
  have hlb := Lib.hid hb.len
  by_cases hnm : n = m
  · subst hnm
    go_enter Tryz.func18, Tryz.ntmps18
    go_wp2_with fail
    go_loopw [5, 13] (fun _ i wr => ∃ k nq : Nat, k ≤ n ∧ i = .int .i64 k ∧ wr = w.drewN nq ∧ a.take k = b.take k) (fun _ i _ => n - (intOf i).toNat)
    case atStart => exact ⟨0, 0, by omega, rfl, rfl, by simp⟩
    case round =>
      obtain ⟨k, nq, hk, rfl, rfl, heq⟩ := hrel
      have HEQ := Lib.hid heq
      clear heq
      by_cases hlt : k < n
      · obtain ⟨x, hx⟩ : ∃ x, a[k]? = some x := ⟨_, List.getElem?_eq_getElem (by have := hla.out; omega)⟩
        obtain ⟨y, hy⟩ : ∃ y, b[k]? = some y := ⟨_, List.getElem?_eq_getElem (by have := hlb.out; omega)⟩
        obtain ⟨ba, oa, rfl, hablt, _⟩ := ha.2 (by omega)
        obtain ⟨bb, ob, rfl, hbblt, _⟩ := hb.2 (by omega)
        have hca := ha.at_ hx
        have hcb := hb.at_ hy
        have hltI : (k : Int) < (n : Int) := by omega
        have hkI : (0 : Int) ≤ (k : Int) := by omega
        have HX := Lib.hid hx
        have HY := Lib.hid hy
        clear hx hy
        cases hp : (x != y) with
        | true =>
          have HP := Lib.hid hp
          go_wp2_with fail
          go_quiet (fail)
          go_wp2_with fail
          go_ret
          refine ⟨ret_bool ?_, _, World.drewN_drewN _ _ _⟩
          unfold sameI
          have hne : a ≠ b := by
            intro he
            subst he
            have h1 := HX.out; rw [HY.out] at h1; injection h1 with h1
            have h2 := HP.out; simp [h1] at h2
          simp [hne]
        | false =>
          have HP := Lib.hid hp
          go_wp2_with fail
          go_quiet (fail)
          go_wp2_with fail
          go_roundw
          case rel =>
            refine ⟨k + 1, _, by omega, by go_num, rfl, ?_⟩
            have h2 := HP.out
            simp at h2
            rw [List.take_add_one, List.take_add_one, HEQ.out, HX.out, HY.out, h2]
          case measure => simp [intOf]; omega
      · have hkn : k = n := by omega
        have HKN := Lib.hid hkn
        clear hkn
        go_wp2_with fail
        go_ret
        refine ⟨ret_bool ?_, _, rfl⟩
        have h1 := HEQ.out
        rw [List.take_of_length_le (by have := hla.out; omega), List.take_of_length_le (by have := hlb.out; omega)] at h1
        simp [sameI, h1]
  · have hne : ¬ (n : Int) = (m : Int) := by omega
    go_enter Tryz.func18, Tryz.ntmps18
    go_wp2_with fail
    go_ret
    refine ⟨ret_bool ?_, 0, rfl⟩
    have : a ≠ b := by intro he; subst he; have := hla.out; have := hlb.out; omega
    simp [sameI, this]
end Go.Proofs.YtaanoljfhnfjoaaGreatDoor
