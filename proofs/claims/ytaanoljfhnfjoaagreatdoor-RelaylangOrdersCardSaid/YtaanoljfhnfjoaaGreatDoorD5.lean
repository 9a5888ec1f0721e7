/- A list is asked for a string, for a number. -/
import Derived.Test.YtaanoljfhnfjoaaGreatDoorD3
import Derived.Test.YtaanoljfhnfjoaaGreatDoorIa
namespace Go.Proofs.YtaanoljfhnfjoaaGreatDoor
open Go.ChangeShapes Go.WideShapes Go.ChangeAt Go.RowKit
set_option linter.unusedVariables false
set_option linter.unusedSimpArgs false
attribute [local go_sem ↓] execOp_call_val
attribute [local go_sem] callVal_func setCell_drewN alloc_drewN sEq_walk

set_option maxHeartbeats 1000000 in
theorem index_str (A : Option Addr) (n c : Nat) (zs : List ByteArray) (z : ByteArray) (w : World) (hr : RdStr w w.heap.size A n zs) (hn : n ≤ 9223372036854775807) :
    Calls Tryz.prog 42 #[.slice A n c, .string z] w fun e w' => e = .returned (.int .i64 (idxGo (fun x => sEq z x) zs 0)) ∧ w = w' := by
  have hlen := Lib.hid hr.1
  go_enter Tryz.func42, Tryz.ntmps42
  go_wp2_with fail
  go_loop [5, 8] (fun _ i => ∃ k : Nat, k ≤ n ∧ i = .int .i64 k ∧ idxGo (fun x => sEq z x) zs 0 = idxGo (fun x => sEq z x) (zs.drop k) k) (fun _ i => n - (intOf i).toNat)
  case atStart => exact ⟨0, by omega, rfl, rfl⟩
  case round =>
    obtain ⟨k, hk, rfl, hidx⟩ := hrel
    have HIDX := Lib.hid hidx
    clear hidx
    by_cases hlt : k < n
    · obtain ⟨y, hy⟩ : ∃ y, zs[k]? = some y := ⟨_, List.getElem?_eq_getElem (by have := hlen.out; omega)⟩
      obtain ⟨b, off, rfl, hblt⟩ := hr.form (by omega)
      have hcell := hr.at_ hy
      have HZ := Lib.hid (drop_cons hy)
      clear hy
      cases hp : sEq z y with
      | true =>
        have HP := Lib.hid hp
        go_wp2_with fail
        go_ret
        exact ⟨ret_int (by rw [HIDX.out, HZ.out]; simp [idxGo, HP.out]), rfl⟩
      | false =>
        have HP := Lib.hid hp
        go_wp2_with fail
        go_round
        case rel => exact ⟨k + 1, by omega, by go_num, by rw [HIDX.out, HZ.out]; simp [idxGo, HP.out]⟩
        case measure => simp [intOf]; omega
    · have hd : zs.drop k = [] := by rw [List.drop_eq_nil_iff]; have := hlen.out; omega
      have HD := Lib.hid hd
      clear hd
      go_wp2_with fail
      go_ret
      exact ⟨ret_int (by rw [HIDX.out, HD.out]; rfl), rfl⟩

theorem contains_str (A : Option Addr) (n c : Nat) (ss : List ByteArray) (z : ByteArray) (w : World) (hr : RdStr w w.heap.size A n ss) (hn : n ≤ 9223372036854775807) :
    Calls Tryz.prog 24 #[.slice A n c, .string z] w fun e w' => e = .returned (.bool (ss.any (fun x => sEq z x))) ∧ w = w' := by
  have HA := Lib.hid (idxGo_any (fun x => sEq z x) ss 0)
  go_enter Tryz.func24, Tryz.ntmps24
  go_wp2_with fail
  refine (index_str A n c ss z w hr hn).mono ?_
  rintro e w1 ⟨rfl, rfl⟩
  go_wp2_with fail
  go_ret
  exact ⟨ret_bool HA.out, rfl⟩
set_option maxHeartbeats 1000000 in
theorem index_int (A : Option Addr) (n c : Nat) (zs : List Int) (z : Int) (w : World) (hr : RdI w w.heap.size A n zs) (hn : n ≤ 9223372036854775807) :
    Calls Tryz.prog 55 #[.slice A n c, .int .i64 z] w fun e w' => e = .returned (.int .i64 (idxGo (fun x => decide (z = x)) zs 0)) ∧ w = w' := by
  have hlen := Lib.hid hr.len
  go_enter Tryz.func55, Tryz.ntmps55
  go_wp2_with fail
  go_loop [5, 8] (fun _ i => ∃ k : Nat, k ≤ n ∧ i = .int .i64 k ∧ idxGo (fun x => decide (z = x)) zs 0 = idxGo (fun x => decide (z = x)) (zs.drop k) k) (fun _ i => n - (intOf i).toNat)
  case atStart => exact ⟨0, by omega, rfl, rfl⟩
  case round =>
    obtain ⟨k, hk, rfl, hidx⟩ := hrel
    have HIDX := Lib.hid hidx
    clear hidx
    by_cases hlt : k < n
    · obtain ⟨y, hy⟩ : ∃ y, zs[k]? = some y := ⟨_, List.getElem?_eq_getElem (by have := hlen.out; omega)⟩
      obtain ⟨b, off, rfl, hblt, -⟩ := hr.2 (by omega)
      have hcell := hr.at_ hy
      have HZ := Lib.hid (drop_cons hy)
      clear hy
      by_cases hp : z = y
      · subst hp
        go_wp2_with fail
        go_ret
        exact ⟨ret_int (by rw [HIDX.out, HZ.out]; simp [idxGo]), rfl⟩
      · have HP := Lib.hid hp
        go_wp2_with fail
        go_round
        case rel => exact ⟨k + 1, by omega, by go_num, by rw [HIDX.out, HZ.out]; simp [idxGo, HP.out]⟩
        case measure => simp [intOf]; omega
    · have hd : zs.drop k = [] := by rw [List.drop_eq_nil_iff]; have := hlen.out; omega
      have HD := Lib.hid hd
      clear hd
      go_wp2_with fail
      go_ret
      exact ⟨ret_int (by rw [HIDX.out, HD.out]; rfl), rfl⟩

theorem contains_int (A : Option Addr) (n c : Nat) (zs : List Int) (z : Int) (w : World) (hr : RdI w w.heap.size A n zs) (hn : n ≤ 9223372036854775807) :
    Calls Tryz.prog 36 #[.slice A n c, .int .i64 z] w fun e w' => e = .returned (.bool (zs.any (fun x => decide (z = x)))) ∧ w = w' := by
  have HA := Lib.hid (idxGo_any (fun x => decide (z = x)) zs 0)
  go_enter Tryz.func36, Tryz.ntmps36
  go_wp2_with fail
  refine (index_int A n c zs z w hr hn).mono ?_
  rintro e w1 ⟨rfl, rfl⟩
  go_wp2_with fail
  go_ret
  exact ⟨ret_bool HA.out, rfl⟩
end Go.Proofs.YtaanoljfhnfjoaaGreatDoor
