/- The comparison of two events, walked. -/
import Derived.Test.YtmmkkkakbbidjaaDoorJ2
import Derived.StillTailTactics
namespace Go.Proofs.YtmmkkkakbbidjaaDoor
open Go.ChangeShapes Go.WideShapes Go.ChangeAt Go.RowKit
set_option linter.unusedVariables false
attribute [local go_sem ↓] execOp_call_val
attribute [local go_sem] callVal_func setCell_drewN alloc_drewN sEq_walk

theorem isNaNi_any (x : Int) (w : World) : Calls Tryd.prog 50 #[.int .i64 x] w fun e w' => e = .returned (.bool false) ∧ w' = w := by
  go_enter Tryd.func50, Tryd.ntmps50
  go_wp2_with fail
  go_ret
  exact ⟨rfl, rfl⟩
theorem isNaNs_any (x : ByteArray) (w : World) : Calls Tryd.prog 51 #[.string x] w fun e w' => e = .returned (.bool false) ∧ w' = w := by
  have hx : sEq x x = true := sEq_iff.2 rfl
  go_enter Tryd.func51, Tryd.ntmps51
  go_wp2_with fail
  go_ret
  exact ⟨rfl, rfl⟩
theorem cmpI_any (a b : Int) (w : World) : Calls Tryd.prog 31 #[.int .i64 a, .int .i64 b] w fun e w' => e = .returned (.int .i64 (ordI a b)) ∧ w' = w := by
  have HD : Hid (ordI a b = if a < b then -1 else if b < a then 1 else 0) := Lib.hid rfl
  by_cases h1 : a < b
  · go_enter Tryd.func31, Tryd.ntmps31
    go_wp2_with (go_at_call 50; refine (isNaNi_any _ _).mono ?_; rintro e w' ⟨rfl, rfl⟩)
    go_ret
    exact ⟨ret_int (by rw [HD.out, if_pos h1]), rfl⟩
  · by_cases h2 : b < a
    · go_enter Tryd.func31, Tryd.ntmps31
      go_wp2_with (go_at_call 50; refine (isNaNi_any _ _).mono ?_; rintro e w' ⟨rfl, rfl⟩)
      go_ret
      exact ⟨ret_int (by rw [HD.out, if_neg (by omega), if_pos h2]), rfl⟩
    · go_enter Tryd.func31, Tryd.ntmps31
      go_wp2_with (go_at_call 50; refine (isNaNi_any _ _).mono ?_; rintro e w' ⟨rfl, rfl⟩)
      go_ret
      exact ⟨ret_int (by rw [HD.out, if_neg (by omega), if_neg (by omega)]), rfl⟩
theorem cmpS_any (a b : ByteArray) (w : World) : Calls Tryd.prog 32 #[.string a, .string b] w fun e w' => e = .returned (.int .i64 (ordS a b)) ∧ w' = w := by
  have HD : Hid (ordS a b = if sLt a b then -1 else if sEq a b then 0 else 1) := Lib.hid rfl
  cases h1 : sLt a b with
  | true =>
    have HH := Lib.hid h1
    have g1 : Op.bytesLess a.toList b.toList = true := h1
    clear h1
    go_enter Tryd.func32, Tryd.ntmps32
    go_wp2_with (go_at_call 51; refine (isNaNs_any _ _).mono ?_; rintro e w' ⟨rfl, rfl⟩)
    go_ret
    exact ⟨ret_int (by rw [HD.out, HH.out]; rfl), rfl⟩
  | false =>
    have HH := Lib.hid h1
    have g1 : Op.bytesLess a.toList b.toList = false := h1
    clear h1
    cases h2 : sEq a b with
    | true =>
      have HH2 := Lib.hid h2
      go_enter Tryd.func32, Tryd.ntmps32
      go_wp2_with (go_at_call 51; refine (isNaNs_any _ _).mono ?_; rintro e w' ⟨rfl, rfl⟩)
      go_ret
      exact ⟨ret_int (by rw [HD.out, HH.out, HH2.out]; rfl), rfl⟩
    | false =>
      have HH2 := Lib.hid h2
      go_enter Tryd.func32, Tryd.ntmps32
      go_wp2_with (go_at_call 51; refine (isNaNs_any _ _).mono ?_; rintro e w' ⟨rfl, rfl⟩)
      go_ret
      exact ⟨ret_int (by rw [HD.out, HH.out, HH2.out]; rfl), rfl⟩

set_option maxHeartbeats 1000000 in
theorem or4_any (a b c d : Int) (g : Nat) (w : World) (hq : Blk w g 3 #[.int .i64 a, .int .i64 b, .int .i64 c, .int .i64 d]) : Calls Tryd.prog 30 #[.slice (some ⟨g, 0, none⟩) 4 4] w fun e w' => e = .returned (.int .i64 (orI [a, b, c, d])) ∧ w' = w := by
  have hc : ∀ k v, [a, b, c, d][k]? = some v → w.cell? ⟨g, k, none⟩ = some (.int .i64 v) := fun k v hv => by
    rw [hq.cell k]
    match k, hv with
    | 0, hv => simp at hv; subst hv; rfl
    | 1, hv => simp at hv; subst hv; rfl
    | 2, hv => simp at hv; subst hv; rfl
    | 3, hv => simp at hv; subst hv; rfl
    | k + 4, hv => simp at hv
  have hlen : [a, b, c, d].length = 4 := rfl
  generalize [a, b, c, d] = l at *
  have HLEN := Lib.hid hlen
  have HC := Lib.hid hc
  clear hlen hc
  have hglt := hq.lt
  clear hq
  go_enter Tryd.func30, Tryd.ntmps30
  go_wp2_with fail
  go_loop [5, 8] (fun _ i => ∃ k : Nat, k ≤ 4 ∧ i = .int .i64 k ∧ orI l = orI (l.drop k)) (fun _ i => 4 - (intOf i).toNat)
  case atStart => exact ⟨0, by omega, rfl, rfl⟩
  case round =>
    obtain ⟨k, hk, rfl, hidx⟩ := hrel
    have HI := Lib.hid hidx
    clear hidx
    by_cases hlt : k < 4
    · obtain ⟨z, hz⟩ : ∃ z, l[k]? = some z := ⟨_, List.getElem?_eq_getElem (by have := HLEN.out; omega)⟩
      have hcell := HC.out k z hz
      have HZ := Lib.hid (drop_cons hz)
      clear hz
      by_cases hp : z = 0
      · subst hp
        go_wp2_with fail
        go_round
        case rel => exact ⟨k + 1, by omega, by go_num, by rw [HI.out, HZ.out]; simp [orI]⟩
        case measure => simp [intOf]; omega
      · have hpb : (z != 0) = true := by simpa using hp
        have HP := Lib.hid hp
        clear hp
        go_wp2_with fail
        go_ret
        exact ⟨ret_int (by rw [HI.out, HZ.out]; simp [orI, HP.out]), rfl⟩
    · have hd : l.drop k = [] := by rw [List.drop_eq_nil_iff]; have := HLEN.out; omega
      have HDD := Lib.hid hd
      clear hd
      go_wp2_with fail
      go_ret
      exact ⟨ret_int (by rw [HI.out, HDD.out]; rfl), rfl⟩

set_option maxRecDepth 100000 in
set_option maxHeartbeats 1000000 in
theorem ecompare_any (x y : Ev) (w : World) :
    Calls Tryd.prog 19 #[.agg (evV x), .agg (evV y)] w fun e w' => e = .returned (.int .i64 (ordE x y)) ∧ ∃ cs, w' = (((w.alloc (.cells (evV x) 31)).alloc (.cells (evV y) 31)).alloc (.cells cs 3)).drew := by
  have HQ1 : Hid (Blk ((w.alloc (.cells (evV x) 31)).alloc (.cells (evV y) 31)) w.heap.size 31 (evV x)) := Lib.hid ((Blk.new _ _ _).alloc _)
  have HQ2 : Hid (Blk ((w.alloc (.cells (evV x) 31)).alloc (.cells (evV y) 31)) (w.heap.size + 1) 31 (evV y)) := Lib.hid (Blk.new_ (by simp))
  obtain ⟨a0, a1, a2, a3, af, alt⟩ := Ev.box HQ1.out
  obtain ⟨b0, b1, b2, b3, bf, blt⟩ := Ev.box HQ2.out
  go_enter Tryd.func19, Tryd.ntmps19
  go_wp2_with fail
  generalize hW : (w.alloc (.cells (evV x) 31)).alloc (.cells (evV y) 31) = W at *
  go_still_tail 20, (by kernel_rfl)
  still_call (cmpI_any _ _ _)
  repeat still_step
  still_call (cmpS_any _ _ _)
  repeat still_step
  still_call (cmpS_any _ _ _)
  repeat still_step
  still_call (cmpI_any _ _ _)
  refine wpStill_nil ?_
  change wpList _ _ _ _ _ W.drew
  have HO := fun w' hq => or4_any (ordI x.time y.time) (ordS x.kind y.kind) (ordS x.name y.name) (ordI x.value y.value) W.heap.size w' hq
  rw [show orI [ordI x.time y.time, ordS x.kind y.kind, ordS x.name y.name, ordI x.value y.value] = ordE x y from rfl] at HO
  have HOH := Lib.hid HO
  clear HO
  generalize ordI x.time y.time = i1 at *
  generalize ordS x.kind y.kind = i2 at *
  generalize ordS x.name y.name = i3 at *
  generalize ordI x.value y.value = i4 at *
  generalize hoe : ordE x y = oe at *
  have HW := Lib.hid hW
  have HOE := Lib.hid hoe
  clear hoe hW
  go_wp2_with fail
  refine (HOH.out _ (by exact (Blk.new_ rfl).drew)).mono ?_
  rintro e w' ⟨rfl, rfl⟩
  go_wp2_with fail
  go_ret
  exact ⟨ret_int HOE.out.symm, _, by rw [HW.out]⟩
end Go.Proofs.YtmmkkkakbbidjaaDoor
