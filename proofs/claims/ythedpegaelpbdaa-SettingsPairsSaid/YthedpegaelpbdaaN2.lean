/- Branches' numbers; a list of strings is asked for a string. -/
import Derived.Test.YthedpegaelpbdaaN0
namespace Go.Proofs.Ythedpegaelpbdaa
open Go.ChangeShapes Go.WideShapes Go.ChangeAt Go.RowKit
set_option linter.unusedVariables false
attribute [local go_sem ↓] execOp_call_val
attribute [local go_sem] callVal_func setCell_drewN alloc_drewN sEq_walk

def outB (n low high : Int) : Bool := decide (n < low ∨ high < n)
theorem nout_any (n low high : Int) (w : World) :
    Calls Try.prog 113 #[.int .i64 n, .int .i64 low, .int .i64 high] w fun e w' => e = .returned (.bool (outB n low high)) ∧ w = w' := by
  go_enter Try.func113, Try.ntmps113
  go_wp2
  all_goals
    go_ret
    exact ⟨ret_bool (by simp [outB] <;> omega), rfl⟩
theorem npermitted_any (n : Int) (w : World) :
    Calls Try.prog 114 #[.int .i64 n] w fun e w' => e = .returned (.bool (!outB n 0 100000)) ∧ w = w' := by
  go_enter Try.func114, Try.ntmps114
  go_wp2_with fail
  refine (nout_any _ _ _ _).mono ?_
  rintro e w1 ⟨rfl, rfl⟩
  go_wp2_with fail
  go_ret
  exact ⟨rfl, rfl⟩

def Br.bad (x : Br) : Bool := outB x.x 1 10000 || outB x.tap 500 1500 || outB x.shift (-1000) 1000 || outB x.limit 0 100000 || outB x.short x.limit 100000 || outB x.hold 0 200000
def Br.ck (x : Br) : Int := if x.bad then 4 else 0
set_option maxHeartbeats 2000000 in
theorem nbranch_any (x : Br) (w : World) :
    Calls Try.prog 87 #[.agg #[.string x.name, .string x.fr, .string x.to, .int .i64 x.x, .int .i64 x.tap, .int .i64 x.shift, .int .i64 x.limit, .int .i64 x.short, .int .i64 x.hold]] w fun e w' => e = .returned (.int .i64 x.ck) ∧ Below w.heap.size w w' := by
  have K0 : ∀ cs t, Below w.heap.size w (w.alloc (.cells cs t)) := fun cs t => (Below.refl _ _).alloc (Nat.le_refl _) _
  have HK := Lib.hid K0
  clear K0
  have HCK := Lib.hid (show x.ck = if x.bad then 4 else 0 from rfl)
  cases h0 : outB x.x 1 10000 with
  | true =>
    have HB : Hid (x.ck = 4) := Lib.hid (by rw [HCK.out]; unfold Br.bad; rw [h0]; rfl)
    go_enter Try.func87, Try.ntmps87
    go_wp2_with (go_at_call 113; refine (nout_any _ _ _ _).mono ?_; rintro e w' ⟨rfl, rfl⟩)
    go_ret
    exact ⟨ret_int (by rw [HB.out]), HK.out _ _⟩
  | false =>
    cases h1 : outB x.tap 500 1500 with
    | true =>
      have HB : Hid (x.ck = 4) := Lib.hid (by rw [HCK.out]; unfold Br.bad; rw [h0, h1]; rfl)
      go_enter Try.func87, Try.ntmps87
      go_wp2_with (go_at_call 113; refine (nout_any _ _ _ _).mono ?_; rintro e w' ⟨rfl, rfl⟩)
      go_ret
      exact ⟨ret_int (by rw [HB.out]), HK.out _ _⟩
    | false =>
      cases h2 : outB x.shift (-1000) 1000 with
      | true =>
        have HB : Hid (x.ck = 4) := Lib.hid (by rw [HCK.out]; unfold Br.bad; rw [h0, h1, h2]; rfl)
        go_enter Try.func87, Try.ntmps87
        go_wp2_with (go_at_call 113; refine (nout_any _ _ _ _).mono ?_; rintro e w' ⟨rfl, rfl⟩)
        go_ret
        exact ⟨ret_int (by rw [HB.out]), HK.out _ _⟩
      | false =>
        cases h3 : outB x.limit 0 100000 with
        | true =>
          have HB : Hid (x.ck = 4) := Lib.hid (by rw [HCK.out]; unfold Br.bad; rw [h0, h1, h2, h3]; rfl)
          go_enter Try.func87, Try.ntmps87
          go_wp2_with (go_at_call 113; refine (nout_any _ _ _ _).mono ?_; rintro e w' ⟨rfl, rfl⟩)
          go_ret
          exact ⟨ret_int (by rw [HB.out]), HK.out _ _⟩
        | false =>
          cases h4 : outB x.short x.limit 100000 with
          | true =>
            have HB : Hid (x.ck = 4) := Lib.hid (by rw [HCK.out]; unfold Br.bad; rw [h0, h1, h2, h3, h4]; rfl)
            go_enter Try.func87, Try.ntmps87
            go_wp2_with (go_at_call 113; refine (nout_any _ _ _ _).mono ?_; rintro e w' ⟨rfl, rfl⟩)
            go_ret
            exact ⟨ret_int (by rw [HB.out]), HK.out _ _⟩
          | false =>
            cases h5 : outB x.hold 0 200000 with
            | true =>
              have HB : Hid (x.ck = 4) := Lib.hid (by rw [HCK.out]; unfold Br.bad; rw [h0, h1, h2, h3, h4, h5]; rfl)
              go_enter Try.func87, Try.ntmps87
              go_wp2_with (go_at_call 113; refine (nout_any _ _ _ _).mono ?_; rintro e w' ⟨rfl, rfl⟩)
              go_ret
              exact ⟨ret_int (by rw [HB.out]), HK.out _ _⟩
            | false =>
              have HB : Hid (x.ck = 0) := Lib.hid (by rw [HCK.out]; unfold Br.bad; rw [h0, h1, h2, h3, h4, h5]; rfl)
              go_enter Try.func87, Try.ntmps87
              go_wp2_with (go_at_call 113; refine (nout_any _ _ _ _).mono ?_; rintro e w' ⟨rfl, rfl⟩)
              go_ret
              exact ⟨ret_int (by rw [HB.out]), HK.out _ _⟩

set_option maxHeartbeats 1000000 in
theorem index_str (A : Option Addr) (n c : Nat) (zs : List ByteArray) (z : ByteArray) (w : World) (hr : RdStr w w.heap.size A n zs) (hn : n ≤ 9223372036854775807) :
    Calls Try.prog 69 #[.slice A n c, .string z] w fun e w' => e = .returned (.int .i64 (idxGo (fun x => sEq z x) zs 0)) ∧ w = w' := by
  have hlen := Lib.hid hr.1
  go_enter Try.func69, Try.ntmps69
  go_wp2_with fail
  go_loop [5, 8] (fun _ i => ∃ k : Nat, k ≤ n ∧ i = .int .i64 k ∧ idxGo (fun x => sEq z x) zs 0 = idxGo (fun x => sEq z x) (zs.drop k) k) (fun _ i => n - (intOf i).toNat)
  case atStart => exact ⟨0, by omega, rfl, rfl⟩
  case round =>
    obtain ⟨k, hk, rfl, hidx⟩ := hrel
    have HIDX := Lib.hid hidx
    clear hidx
    by_cases hlt : k < n
    · obtain ⟨y, hy⟩ : ∃ y, zs[k]? = some y := ⟨_, List.getElem?_eq_getElem (by have := hlen.out; omega)⟩
      obtain ⟨b, off, rfl, hblt⟩ := hr.form (by omega)
      have hcell := hr.at_ hy
      have HZ := Lib.hid (drop_cons hy)
      clear hy
      cases hp : sEq z y with
      | true =>
        have HP := Lib.hid hp
        go_wp2_with fail
        go_ret
        exact ⟨ret_int (by rw [HIDX.out, HZ.out]; simp [idxGo, HP.out]), rfl⟩
      | false =>
        have HP := Lib.hid hp
        go_wp2_with fail
        go_round
        case rel => exact ⟨k + 1, by omega, by go_num, by rw [HIDX.out, HZ.out]; simp [idxGo, HP.out]⟩
        case measure => simp [intOf]; omega
    · have hd : zs.drop k = [] := by rw [List.drop_eq_nil_iff]; have := hlen.out; omega
      have HD := Lib.hid hd
      clear hd
      go_wp2_with fail
      go_ret
      exact ⟨ret_int (by rw [HIDX.out, HD.out]; rfl), rfl⟩

theorem contains_str (A : Option Addr) (n c : Nat) (ss : List ByteArray) (z : ByteArray) (w : World) (hr : RdStr w w.heap.size A n ss) (hn : n ≤ 9223372036854775807) :
    Calls Try.prog 43 #[.slice A n c, .string z] w fun e w' => e = .returned (.bool (ss.any (fun x => sEq z x))) ∧ w = w' := by
  have HA := Lib.hid (idxGo_any (fun x => sEq z x) ss 0)
  go_enter Try.func43, Try.ntmps43
  go_wp2_with fail
  refine (index_str A n c ss z w hr hn).mono ?_
  rintro e w1 ⟨rfl, rfl⟩
  go_wp2_with fail
  go_ret
  exact ⟨ret_bool HA.out, rfl⟩
end Go.Proofs.Ythedpegaelpbdaa
