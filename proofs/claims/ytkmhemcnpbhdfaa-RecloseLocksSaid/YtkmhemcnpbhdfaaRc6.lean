/- Automatic reclosing: the law RecloseLocks. -/
import Derived.Test.YtkmhemcnpbhdfaaRc5
namespace Go.Proofs.Ytkmhemcnpbhdfaa
open Go.ChangeShapes Go.WideShapes Go.ChangeAt Go.RowKit
set_option linter.unusedVariables false
attribute [local go_sem ↓] execOp_call_val
attribute [local go_sem] callVal_func setCell_drewN alloc_drewN

/-- after i rounds at time t -/
def lk (r : Int) (i : Nat) (t : Int) : Rc := ⟨r, if i = 0 then 0 else 2, t, i, t⟩
theorem lk_at {r : Int} (hr : 1 ≤ r) (i : Nat) (t : Int) : (lk r i t).at_ t = lk r i t := by
  unfold Rc.at_ lk; rw [if_neg]; dsimp only; omega
theorem lk_st {r : Int} (hr : 1 ≤ r) (i : Nat) (t : Int) : ((lk r i t).at_ t).state = 0 ∨ ((lk r i t).at_ t).state = 2 := by
  rw [lk_at hr]; unfold lk; dsimp only; split <;> simp
theorem lk_trip {r : Int} (hr : 1 ≤ r) {i L : Nat} (hi : i < L) (t : Int) : (lk r i t).trip L t = ⟨r, 1, t, i, t⟩ := by
  unfold Rc.trip; rw [lk_at hr]; unfold lk; dsimp only; rw [if_neg (by omega)]
theorem lk_act {r : Int} (hr : 1 ≤ r) {i L : Nat} (hi : i < L) (t : Int) : tripAct ((lk r i t).at_ t).att L = 0 := by
  rw [lk_at hr]; unfold tripAct lk; dsimp only; rw [if_neg (by omega)]
theorem lk_trip2 {r : Int} (hr : 1 ≤ r) {L : Nat} (t : Int) : (lk r L t).trip L t = ⟨r, 3, t, L, t⟩ := by
  unfold Rc.trip; rw [lk_at hr]; unfold lk; dsimp only; rw [if_pos rfl]
theorem lk_act2 {r : Int} (hr : 1 ≤ r) {L : Nat} (t : Int) : tripAct ((lk r L t).at_ t).att L = 2 := by
  rw [lk_at hr]; unfold tripAct lk; dsimp only; rw [if_pos rfl]
theorem lk_k1 {r t d : Int} {i : Nat} {dead : List Int} (hd : dead[i]? = some d) : tickAct (Rc.ticks ⟨r, 1, t, i, t⟩ dead (t + d - 1)) = 0 ∧ Rc.tick ⟨r, 1, t, i, t⟩ dead (t + d - 1) = ⟨r, 1, t, i, t + d - 1⟩ := by
  have hat : Rc.at_ ⟨r, 1, t, i, t⟩ (t + d - 1) = ⟨r, 1, t, i, t + d - 1⟩ := by unfold Rc.at_; rw [if_neg (by simp)]
  have hk : Rc.ticks ⟨r, 1, t, i, t⟩ dead (t + d - 1) = false := by
    unfold Rc.ticks; rw [hat]; dsimp only; rw [List.getD_eq_getElem?_getD, hd]; simp; omega
  refine ⟨by rw [hk]; rfl, ?_⟩
  unfold Rc.tick
  rw [hk, hat]; rfl
theorem lk_k2 {r t d : Int} {i : Nat} {dead : List Int} (hd : dead[i]? = some d) : tickAct (Rc.ticks ⟨r, 1, t, i, t + d - 1⟩ dead (t + d)) = 1 ∧ Rc.tick ⟨r, 1, t, i, t + d - 1⟩ dead (t + d) = lk r (i + 1) (t + d) := by
  have hat : Rc.at_ ⟨r, 1, t, i, t + d - 1⟩ (t + d) = ⟨r, 1, t, i, t + d⟩ := by unfold Rc.at_; rw [if_neg (by simp)]
  have hk : Rc.ticks ⟨r, 1, t, i, t + d - 1⟩ dead (t + d) = true := by
    unfold Rc.ticks; rw [hat]; dsimp only; rw [List.getD_eq_getElem?_getD, hd]; simp
  refine ⟨by rw [hk]; rfl, ?_⟩
  unfold Rc.tick
  rw [if_pos hk, hat]
  unfold lk
  rw [if_neg (by omega)]

set_option maxRecDepth 100000 in
set_option maxHeartbeats 4000000 in
theorem rlocks_any (A : Option Addr) (n c : Nat) (dead : List Int) (reclaim : Int) (w : World) (hr : RdI w w.heap.size A n dead) (hn : n ≤ 9223372036854775807) :
    Calls Try.prog 13 #[.agg #[.slice A n c, .int .i64 reclaim]] w fun e w' => e = .returned (.bool true) ∧ Below w.heap.size w w' := by
  have K0 : Below w.heap.size w (w.alloc (.cells #[.slice A n c, .int .i64 reclaim] 41)) := (Below.refl _ _).alloc (Nat.le_refl _) _
  have HK0 := Lib.hid K0
  clear K0
  by_cases hc : ckR dead reclaim = 0
  · obtain ⟨q1, q2, q3, q4, q5⟩ := ckR_ok hc
    have hlen := hr.len
    have HC := Lib.hid hc
    have HL := Lib.hid hlen
    clear hc
    have hn4 : n ≤ 4 := by omega
    have hn1 : 0 < n := by omega
    obtain ⟨b, off, rfl, hblt, _⟩ := hr.2 hn1
    clear hlen
    go_enter Try.func13, Try.ntmps13
    go_wp2_with fail
    refine (rworks_any _).mono ?_
    rintro e w1 ⟨rfl, k1⟩
    have hQ : Blk w1 w.heap.size 41 #[.slice (some ⟨b, off, none⟩) n c, .int .i64 reclaim] := (Blk.new_ rfl).below k1 (by simp)
    obtain ⟨c0, c1, cf, hlt1⟩ := rule_facts hQ
    have HQ := Lib.hid hQ
    have HK1 := Lib.hid (HK0.out.trans (k1.mono HK0.out.size))
    clear hQ k1
    go_wp2_with fail
    refine (rnew_any _ n c dead reclaim _ ((hr.below HK1.out (Nat.le_refl _)).more HK1.out.size) hn HC.out).mono ?_
    rintro e w2 ⟨p, g, cap, rfl, hp, hD, k2⟩
    have hQ : Blk w2 w.heap.size 41 #[.slice (some ⟨b, off, none⟩) n c, .int .i64 reclaim] := HQ.out.below k2 hlt1
    obtain ⟨d0, d1, df, hlt2⟩ := rule_facts hQ
    have HK2 := Lib.hid (HK1.out.trans (k2.mono HK1.out.size))
    have HD := Lib.hid hD
    have hpw : w.heap.size ≤ p := Nat.le_trans HK1.out.size hp
    clear hQ k2 hD
    go_wp2_with fail
    go_loopw [5, 7, 8, 9, 10, 11, 12, 13, 42] (fun t _ _ _ _ _ _ _ i wr => ∃ (k : Nat) (now : Int), k ≤ n ∧ i = .int .i64 k ∧ t = .int .i64 now ∧ 0 ≤ now ∧ now ≤ 600000 * k ∧ Dev wr p (lk reclaim k now) (some ⟨g, 0, none⟩) n cap dead ∧ Below w.heap.size w wr) (fun _ _ _ _ _ _ _ _ i _ => n - (intOf i).toNat)
    case atStart => exact ⟨0, 0, by omega, rfl, rfl, by omega, by omega, HD.out, HK2.out⟩
    case round =>
      obtain ⟨k, now, hk, rfl, rfl, hnow0, hnow1, hDw, K⟩ := hrel
      have HDW := Lib.hid hDw
      have HKw := Lib.hid K
      clear hDw K
      by_cases hltk : k < n
      · obtain ⟨d, hd⟩ : ∃ d, dead[k]? = some d := ⟨_, List.getElem?_eq_getElem (by have := HL.out; omega)⟩
        have hdb := q3 d (List.mem_of_getElem? hd)
        obtain ⟨hdb1, hdb2⟩ := hdb
        have hcell := (hr.below HKw.out (Nat.le_refl _)).at_ hd
        have hbw : b < wr.heap.size := by have := HKw.out.size; omega
        have hw1 : IntKind.i64.wrap (now + d) = now + d := IntWalk.i64_in _ (by omega)
        have hw2 : IntKind.i64.wrap (now + d - 1) = now + d - 1 := IntWalk.i64_in _ (by omega)
        have HKd := Lib.hid hd
        have hkL : Hid (k < dead.length) := Lib.hid (by have := HL.out; omega)
        clear hd
        go_wp2_with fail
        refine (rtrip_any p _ _ n cap dead _ HDW.out now (by simp [lk]) (by omega) (lk_st q4 _ _)).mono ?_
        rw [lk_act q4 hkL.out, lk_trip q4 hkL.out]
        rintro e w3 ⟨rfl, hg3, hD3⟩
        have HD3 := Lib.hid hD3
        have HK3 := Lib.hid (HKw.out.trans (below_dev hpw HKw.out.size hg3))
        clear hg3 hD3
        go_wp2_with fail
        refine (rtick_any p _ _ n cap dead _ HD3.out (now + d - 1) (by dsimp only; omega) (by omega)).mono ?_
        rw [(lk_k1 HKd.out).1, (lk_k1 HKd.out).2]
        rintro e w4 ⟨rfl, hg4, hD4⟩
        have HD4 := Lib.hid hD4
        have HK4 := Lib.hid (HK3.out.trans (below_dev hpw HK3.out.size hg4))
        clear hg4 hD4
        go_wp2_with fail
        refine (rtick_any p _ _ n cap dead _ HD4.out (now + d) (by dsimp only; omega) (by omega)).mono ?_
        rw [(lk_k2 HKd.out).1, (lk_k2 HKd.out).2]
        rintro e w5 ⟨rfl, hg5, hD5⟩
        have HD5 := Lib.hid hD5
        have HK5 := Lib.hid (HK4.out.trans (below_dev hpw HK4.out.size hg5))
        clear hg5 hD5 hw1 hw2 hcell
        go_wp2_with fail
        go_roundw
        case rel => exact ⟨k + 1, now + d, by omega, by go_num, rfl, by omega, by omega, HD5.out, HK5.out⟩
        case measure => simp [intOf]; omega
      · have hkn : k = n := by omega
        subst hkn
        have hL2 : Hid (dead.length = k) := HL
        go_wp2_with fail
        refine (rtrip_any p _ _ k cap dead _ HDW.out now (by simp [lk]) (by omega) (lk_st q4 _ _)).mono ?_
        rw [hL2.out, lk_act2 q4, lk_trip2 q4]
        rintro e w3 ⟨rfl, hg3, hD3⟩
        have HD3 := Lib.hid hD3
        have HK3 := Lib.hid (HKw.out.trans (below_dev hpw HKw.out.size hg3))
        clear hg3 hD3
        go_wp2_with fail
        refine (rtrip_state p _ _ k cap dead _ HD3.out now (by simp) (by omega) (.inr (by unfold Rc.at_; simp))).mono ?_
        rintro e w4 ⟨rfl, k4⟩
        have HD4 := Lib.hid (HD3.out.below k4)
        have HK4 := Lib.hid (HK3.out.trans (k4.mono HK3.out.size))
        clear k4
        go_wp2_with fail
        refine (rreset_any p _ _ k cap dead _ HD4.out now (by simp) (by omega)).mono ?_
        rintro e w5 ⟨rfl, hg5, hD5⟩
        have HK5 := Lib.hid (HK4.out.trans (below_dev hpw HK4.out.size hg5))
        clear hg5 hD5
        go_wp2_with fail
        go_ret
        exact ⟨rfl, HK5.out⟩
  · have hcb : (ckR dead reclaim != 0) = true := by simpa using hc
    have HC := Lib.hid hc
    clear hc
    go_enter Try.func13, Try.ntmps13
    go_wp2_with fail
    refine (rworks_any _).mono ?_
    rintro e w1 ⟨rfl, k1⟩
    have hQ : Blk w1 w.heap.size 41 #[.slice A n c, .int .i64 reclaim] := (Blk.new_ rfl).below k1 (by simp)
    obtain ⟨c0, c1, cf, hlt1⟩ := rule_facts hQ
    have HQ := Lib.hid hQ
    have HK1 := Lib.hid (HK0.out.trans (k1.mono HK0.out.size))
    clear hQ k1
    go_wp2_with fail
    refine (rnew_err A n c dead reclaim _ ((hr.below HK1.out (Nat.le_refl _)).more HK1.out.size) hn HC.out).mono ?_
    rintro e w2 ⟨rfl, k2⟩
    have hQ : Blk w2 w.heap.size 41 #[.slice A n c, .int .i64 reclaim] := HQ.out.below k2 hlt1
    obtain ⟨d0, d1, df, hlt2⟩ := rule_facts hQ
    have HK2 := Lib.hid (HK1.out.trans (k2.mono HK1.out.size))
    clear hQ k2
    go_wp2_with fail
    refine (ckR_any A n c dead reclaim _ ((hr.below HK2.out (Nat.le_refl _)).more HK2.out.size) hn).mono ?_
    rintro e w3 ⟨rfl, k3⟩
    have HK3 := Lib.hid (HK2.out.trans (k3.mono HK2.out.size))
    clear k3
    go_wp2_with fail
    go_ret
    refine ⟨?_, HK3.out⟩
    rfl
end Go.Proofs.Ytkmhemcnpbhdfaa
