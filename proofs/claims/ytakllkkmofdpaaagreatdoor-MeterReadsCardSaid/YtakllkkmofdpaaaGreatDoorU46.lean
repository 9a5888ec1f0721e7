import Derived.Test.YtakllkkmofdpaaaGreatDoorU42
set_option linter.unusedVariables false
set_option linter.unusedSimpArgs false
namespace Go.Proofs.YtakllkkmofdpaaaGreatDoor
section
open Go.ChangeShapes Go.WideShapes Go.ChangeAt Go.RowKit
theorem misGo_all {x : Net} : ∀ {ms : List Mi}, (∀ m ∈ ms, miCk x m = 0) → misGo x ms = 0
 | [], _ => rfl
 | a :: r, h => by
  unfold misGo
  rw [if_pos (h a List.mem_cons_self)]
  exact misGo_all fun m hm => h m (List.mem_cons_of_mem _ hm)
theorem mtCk_all {x : Net} {ms : List Mi} (hn : netCk x = 0) (hl : ms.length ≤ 64) (h : ∀ m ∈ ms, miCk x m = 0) : mtCk x ms = 0 := by
 unfold mtCk
 rw [if_neg (by omega), if_neg (by omega)]
 exact misGo_all h
theorem mtCk_sub {x : Net} {ms ms' : List Mi} (h : mtCk x ms = 0) (hs : ∀ m ∈ ms', m ∈ ms) (hl : ms'.length ≤ 64) : mtCk x ms' = 0 := by
 obtain ⟨h1, _, h3⟩ := mtCk_parts h
 exact mtCk_all h1 hl fun m hm => h3 m (hs m hm)
end
section
open Go.ChangeShapes Go.WideShapes Go.ChangeAt Go.RowKit
attribute [local go_sem ↓] execOp_call_val
attribute [local go_sem] callVal_func setCell_drewN alloc_drewN
set_option maxHeartbeats 1000000 in
theorem hasInt_any (A : Option Addr) (n c : Nat) (zs : List Int) (z : Int) (w : World) (hr : RdI w w.heap.size A n zs) (hn : n ≤ 9223372036854775807) :
    Calls Tryz.prog 29 #[.slice A n c, .int .i64 z] w fun e w' => e = .returned (.bool (zs.any (· == z))) ∧ w = w' := by
 have hlen := Lib.hid hr.len
 go_enter Tryz.func29, Tryz.ntmps29
 go_wp2_with fail
 go_loop [6, 9] (fun _ i => ∃ k : Nat, k ≤ n ∧ i = .int .i64 k ∧ zs.any (· == z) = (zs.drop k).any (· == z)) (fun _ i => n - (intOf i).toNat)
 case atStart => exact ⟨0, by omega, rfl, rfl⟩
 case round =>
  obtain ⟨k, hk, rfl, hidx⟩ := hrel
  have HIDX := Lib.hid hidx
  clear hidx
  by_cases hlt : k < n
  ·obtain ⟨y, hy⟩ : ∃ y, zs[k]? = some y := ⟨_, List.getElem?_eq_getElem (by have := hlen.out; omega)⟩
   obtain ⟨b, off, rfl, hblt, _⟩ := hr.2 (by omega)
   have hcell := hr.at_ hy
   have HZ := Lib.hid (drop_cons hy)
   clear hy
   cases hp : (y == z) with
   | true =>
    have HP := Lib.hid hp
    go_wp2_with fail
    go_ret
    exact ⟨ret_bool (by rw [HIDX.out, HZ.out]; simp [HP.out]), rfl⟩
   | false =>
    have HP := Lib.hid hp
    go_wp2_with fail
    go_round
    case rel => exact ⟨k + 1, by omega, by go_num, by rw [HIDX.out, HZ.out]; simp [HP.out]⟩
    case measure => simp [intOf]; omega
  ·have hd : zs.drop k = [] := by rw [List.drop_eq_nil_iff]; have := hlen.out; omega
   have HD := Lib.hid hd
   clear hd
   go_wp2_with fail
   go_ret
   exact ⟨ret_bool (by rw [HIDX.out, HD.out]; rfl), rfl⟩
end
end Go.Proofs.YtakllkkmofdpaaaGreatDoor
