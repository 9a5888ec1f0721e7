import Derived.Test.YtakllkkmofdpaaaGreatDoorU19
import Derived.Test.YtakllkkmofdpaaaGreatDoorU21
import Derived.Lib.LaidTab
import Derived.LaidLaws
import Derived.LaidHandle
import Derived.RowKitTokens
import Derived.Stop.Joined
import Derived.Stop.LaidErr
import Derived.Lay
import Derived.Handed
set_option linter.unusedVariables false
set_option linter.unusedSimpArgs false
namespace Go.Proofs.YtakllkkmofdpaaaGreatDoor
section
open Go
def Ch (m : Int) (a b : List Int) : Prop := ∀ j, b.getD j 0 = a.getD j 0 ∨ (a.getD j 0 < 0 ∧ b.getD j 0 = m)
theorem Ch.refl (m : Int) (a : List Int) : Ch m a a := fun j => .inl rfl
theorem Ch.trans {m : Int} (hm : 0 ≤ m) {a b c : List Int} (h : Ch m a b) (h2 : Ch m b c) : Ch m a c := fun j => by
 rcases h j with h | ⟨h, h'⟩ <;> rcases h2 j with g | ⟨g, g'⟩
 ·exact .inl (g.trans h)
 ·exact .inr ⟨by omega, g'⟩
 ·exact .inr ⟨h, g.trans h'⟩
 ·omega
end
section
open Go.ChangeShapes Go.WideShapes Go.ChangeAt Go.RowKit
attribute [local go_sem ↓] execOp_call_val
attribute [local go_sem] callVal_func setCell_drewN alloc_drewN
def sameI (a b : List Int) : Bool := decide (a = b)
set_option maxHeartbeats 1000000 in
theorem sameInts_any (A : Option Addr) (n c : Nat) (a : List Int) (B : Option Addr) (m d : Nat) (b : List Int) (w : World) (ha : RdI w w.heap.size A n a) (hb : RdI w w.heap.size B m b) (hn : n ≤ 9223372036854775807) :
    Calls Tryz.prog 68 #[.slice A n c, .slice B m d] w fun e w' => e = .returned (.bool (sameI a b)) ∧ ∃ nq, w' = w.drewN nq := by
 have hla := Lib.hid ha.len
 have hlb := Lib.hid hb.len
 by_cases hnm : n = m
 ·subst hnm
  go_enter Tryz.func68, Tryz.ntmps68
  go_wp2_with fail
  go_loopw [5, 13] (fun _ i wr => ∃ k nq : Nat, k ≤ n ∧ i = .int .i64 k ∧ wr = w.drewN nq ∧ a.take k = b.take k) (fun _ i _ => n - (intOf i).toNat)
  case atStart => exact ⟨0, 0, by omega, rfl, rfl, by simp⟩
  case round =>
   obtain ⟨k, nq, hk, rfl, rfl, heq⟩ := hrel
   have HEQ := Lib.hid heq
   clear heq
   by_cases hlt : k < n
   ·obtain ⟨x, hx⟩ : ∃ x, a[k]? = some x := ⟨_, List.getElem?_eq_getElem (by have := hla.out; omega)⟩
    obtain ⟨y, hy⟩ : ∃ y, b[k]? = some y := ⟨_, List.getElem?_eq_getElem (by have := hlb.out; omega)⟩
    obtain ⟨ba, oa, rfl, hablt, _⟩ := ha.2 (by omega)
    obtain ⟨bb, ob, rfl, hbblt, _⟩ := hb.2 (by omega)
    have hca := ha.at_ hx
    have hcb := hb.at_ hy
    have hltI : (k : Int) < (n : Int) := by omega
    have hkI : (0 : Int) ≤ (k : Int) := by omega
    have HX := Lib.hid hx
    have HY := Lib.hid hy
    clear hx hy
    cases hp : (x != y) with
    | true =>
     have HP := Lib.hid hp
     go_wp2_with fail
     go_quiet (fail)
     go_wp2_with fail
     go_ret
     refine ⟨ret_bool ?_, _, World.drewN_drewN _ _ _⟩
     unfold sameI
     have hne : a ≠ b := by
      intro he
      subst he
      have h1 := HX.out; rw [HY.out] at h1; injection h1 with h1
      have h2 := HP.out; simp [h1] at h2
     simp [hne]
    | false =>
     have HP := Lib.hid hp
     go_wp2_with fail
     go_quiet (fail)
     go_wp2_with fail
     go_roundw
     case rel =>
      refine ⟨k + 1, _, by omega, by go_num, rfl, ?_⟩
      have h2 := HP.out
      simp at h2
      rw [List.take_add_one, List.take_add_one, HEQ.out, HX.out, HY.out, h2]
     case measure => simp [intOf]; omega
   ·have hkn : k = n := by omega
    have HKN := Lib.hid hkn
    clear hkn
    go_wp2_with fail
    go_ret
    refine ⟨ret_bool ?_, _, rfl⟩
    have h1 := HEQ.out
    rw [List.take_of_length_le (by have := hla.out; omega), List.take_of_length_le (by have := hlb.out; omega)] at h1
    simp [sameI, h1]
 ·have hne : ¬ (n : Int) = (m : Int) := by omega
  go_enter Tryz.func68, Tryz.ntmps68
  go_wp2_with fail
  go_ret
  refine ⟨ret_bool ?_, 0, rfl⟩
  have : a ≠ b := by intro he; subst he; have := hla.out; have := hlb.out; omega
  simp [sameI, this]
end
section
def Tn (k : Nat) (q : Rat) : Prop := q.num.natAbs < 10 ^ k ∧ q.den < 10 ^ k
theorem Tn.mono {k m : Nat} {q : Rat} (h : Tn k q) (hm : k ≤ m) : Tn m q :=
 ⟨Nat.lt_of_lt_of_le h.1 (Nat.pow_le_pow_right (by decide) hm), Nat.lt_of_lt_of_le h.2 (Nat.pow_le_pow_right (by decide) hm)⟩
end
section
def Ot (D B : Nat) (q : Rat) : Prop := ∃ z : Int, q * ((D : Int) : Rat) = (z : Rat) ∧ z.natAbs ≤ B * D
theorem ot_add {D B C : Nat} {p q : Rat} (hp : Ot D B p) (hq : Ot D C q) : Ot D (B + C) (p + q) := by
 obtain ⟨a, h1, h2⟩ := hp
 obtain ⟨b, h3, h4⟩ := hq
 refine ⟨a + b, by rw [Rat.add_mul, h1, h3, Rat.intCast_add], ?_⟩
 have := Int.natAbs_add_le a b
 rw [Nat.add_mul]; omega
theorem ot_neg {D B : Nat} {q : Rat} (hq : Ot D B q) : Ot D B (-q) := by
 obtain ⟨a, h1, h2⟩ := hq
 exact ⟨-a, by rw [Rat.neg_mul, h1, Rat.intCast_neg], by rw [Int.natAbs_neg]; exact h2⟩
theorem ot_more {D B C : Nat} {q : Rat} (h : Ot D B q) (hb : B ≤ C) : Ot D C q := by
 obtain ⟨a, h1, h2⟩ := h
 exact ⟨a, h1, Nat.le_trans h2 (Nat.mul_le_mul hb (Nat.le_refl _))⟩
end
section
open Go.ChangeShapes Go.WideShapes Go.ChangeAt Go.RowKit
theorem laid_tail {P : Program} {W : World} {x : String × DataW Unit} {rest : List (String × DataW Unit)} (h : laidMet P (x :: rest) W) : laidMet P rest W := by
 obtain ⟨ps, ⟨g, t, cs, fuel, p, q, _, _, _, _, hr, hps⟩, hn, hz⟩ := h
 subst hps
 exact ⟨q, hr, (List.nodup_append.1 hn).2.1, fun b off hp => hz b off (List.mem_append_right _ hp)⟩
theorem tab_of {W : World} {x y : String × DataW Unit} {rest : List (String × DataW Unit)} (h : laidMet Tryz.prog (x :: y :: ("internal/strconv.uint64pow10", Lib.tabData .u64 Lib.pow10Tab) :: rest) W) : TabOk W :=
 Lib.tabIs_of_head (t := 248) (n := 20) (show Tryz.prog.globalNamed "internal/strconv.uint64pow10" = some 0 by kernel_rfl) (by kernel_rfl) (by kernel_rfl) Tryz.underlying172 (by kernel_rfl) (by kernel_rfl) (laid_tail (laid_tail h))
noncomputable def laidWorld5 (os : Os) : World := World.laidAll Tryz.prog os Rows.balanceSumsRow.laid
theorem laidWorld5_met0 (os : Os) (args : Array Value) : laidMet Tryz.prog Rows.balanceSumsRow.laid ((laidWorld5 os).forCall (fun _ _ => 0) ⟨#[], args, []⟩).memory :=
 laidMet_laidAll args (by kernel_rfl) (by kernel_rfl)
theorem laidWorld5_met (os : Os) (args : Array Value) : laidMetH Tryz.prog Rows.balanceSumsRow.laid ((laidWorld5 os).forCall (fun _ _ => 0) ⟨#[], args, []⟩).memory :=
 laidWorld5_met0 os args
theorem laidWorld5_ok {W : World} (h : laidMetH Tryz.prog Rows.balanceSumsRow.laid W) : TabOk W := tab_of h
end
end Go.Proofs.YtakllkkmofdpaaaGreatDoor
