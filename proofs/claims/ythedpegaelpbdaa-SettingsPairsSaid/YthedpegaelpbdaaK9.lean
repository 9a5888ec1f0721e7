/- curve.Conflict. -/
import Derived.Test.YthedpegaelpbdaaK3
namespace Go.Proofs.Ythedpegaelpbdaa
open Go.ChangeShapes Go.WideShapes Go.ChangeAt Go.RowKit
set_option linter.unusedVariables false
attribute [local go_sem ↓] execOp_call_val
attribute [local go_sem] callVal_func setCell_drewN alloc_drewN

/-! Conflict -/
/-- the backup (u) is not selective -/
def wrongC (a : List (Int × Int)) (pa : Int) (b : List (Int × Int)) (pb margin cur : Int) : Bool :=
  match tmC pb cur b with
  | none => false
  | some u => match tmC pa cur a with
    | none => true
    | some t => decide (u < t + margin)

/-- the first current from n on that is wrong: k of them are looked at -/
def conGo (f : Int → Bool) (n : Int) : Nat → Int × Int
  | 0 => (0, 8)
  | k + 1 => if f n then (n, 0) else conGo f (n + 1) k

def conC (a : List (Int × Int)) (pa : Int) (b : List (Int × Int)) (pb margin low high : Int) : Int × Int :=
  if ckC a ≠ 0 then (0, ckC a) else if ckC b ≠ 0 then (0, ckC b)
  else if outN pa 1 1000000 || outN pb 1 1000000 || outN margin 0 3600000 || decide (low < 0) || decide (1000000 < high) || decide (high < low) then (0, 4)
  else if 20000 < high - low then (0, 2)
  else conGo (wrongC a pa b pb margin) low (high + 1 - low).toNat

theorem tmC_bd {pk cur t : Int} {ps : List (Int × Int)} (hg : Good ps) (hp : 1 ≤ pk) (ht : tmC pk cur ps = some t) : 0 ≤ t ∧ t ≤ 3600000 := by
  obtain ⟨u, h1, h2, h3, h4⟩ := tmC_mono hg hp (Int.le_refl cur) ht
  rw [ht] at h1
  injection h1 with h1
  omega

theorem conC_bad {a b : List (Int × Int)} {pa pb margin low high : Int} (ha : ckC a = 0) (hb : ckC b = 0)
    (h : (outN pa 1 1000000 || outN pb 1 1000000 || outN margin 0 3600000 || decide (low < 0) || decide (1000000 < high) || decide (high < low)) = true) : conC a pa b pb margin low high = (0, 4) := by
  unfold conC
  rw [if_neg (by rw [ha]; simp), if_neg (by rw [hb]; simp), if_pos h]

set_option maxHeartbeats 8000000 in
theorem con_any (A : Option Addr) (n c : Nat) (a : List (Int × Int)) (pa : Int) (B : Option Addr) (n2 c2 : Nat) (b : List (Int × Int)) (pb margin low high : Int) (w : World)
    (ha : RdP w w.heap.size A n a) (hb : RdP w w.heap.size B n2 b) (hm : n ≤ 9223372036854775807) (hm2 : n2 ≤ 9223372036854775807) :
    Calls Try.prog 30 #[.slice A n c, .int .i64 pa, .slice B n2 c2, .int .i64 pb, .int .i64 margin, .int .i64 low, .int .i64 high] w fun e w' => e = .returned (.tuple #[.int .i64 (conC a pa b pb margin low high).1, .int .i64 (conC a pa b pb margin low high).2]) ∧ Below w.heap.size w w' := by
  have i0 : ∀ w, (Instr.index 127 (.agg #[.slice A n c, .slice B n2 c2]) (.int .i64 0)).run Try.prog w = .ok (.slice A n c) w := fun _ => by kernel_rfl
  have i1 : ∀ w, (Instr.index 127 (.agg #[.slice A n c, .slice B n2 c2]) (.int .i64 1)).run Try.prog w = .ok (.slice B n2 c2) w := fun _ => by kernel_rfl
  by_cases hca : ckC a = 0
  · by_cases hcb : ckC b = 0
    · have hga := ckC_good.1 hca
      have hgb := ckC_good.1 hcb
      have HA := Lib.hid hca
      have HB := Lib.hid hcb
      clear hca hcb
      go_enter Try.func30, Try.ntmps30
      go_wp2_with fail
      refine wp_loop_rounds 3 ?_
      rw [rounds_succ]
      go_wp2_with fail
      refine (checkC_any _ _ _ _ _ ha hm).mono ?_
      rw [HA.out]
      rintro e w1 ⟨rfl, k1⟩
      go_wp2_with fail
      rw [rounds_succ]
      go_wp2_with fail
      refine (checkC_any _ _ _ _ _ ((hb.below k1 (Nat.le_refl _)).more k1.size) hm2).mono ?_
      rw [HB.out]
      rintro e w2 ⟨rfl, k2⟩
      have K2 := k1.trans (k2.mono k1.size)
      clear k1 k2
      go_wp2_with fail
      rw [rounds_succ]
      go_wp2_with fail
      clear i0 i1
      by_cases h1 : outN pa 1 1000000 = true
      · have HS : Hid (conC a pa b pb margin low high = (0, 4)) := Lib.hid (conC_bad HA.out HB.out (by rw [h1]; simp))
        go_wp2_with (go_at_call 63; refine (outN_any _ _ _ _).mono ?_; rintro e w' ⟨rfl, rfl⟩)
        go_ret2
        exact ⟨by rw [HS.out]; rfl, K2⟩
      · have h1' : outN pa 1 1000000 = false := by simpa using h1
        have hpa : 1 ≤ pa ∧ pa ≤ 1000000 := by unfold outN at h1'; simp at h1'; omega
        clear h1
        by_cases h2 : outN pb 1 1000000 = true
        · have HS : Hid (conC a pa b pb margin low high = (0, 4)) := Lib.hid (conC_bad HA.out HB.out (by rw [h2]; simp))
          go_wp2_with (go_at_call 63; refine (outN_any _ _ _ _).mono ?_; rintro e w' ⟨rfl, rfl⟩)
          go_ret2
          exact ⟨by rw [HS.out]; rfl, K2⟩
        · have h2' : outN pb 1 1000000 = false := by simpa using h2
          have hpb : 1 ≤ pb ∧ pb ≤ 1000000 := by unfold outN at h2'; simp at h2'; omega
          clear h2
          by_cases h3 : outN margin 0 3600000 = true
          · have HS : Hid (conC a pa b pb margin low high = (0, 4)) := Lib.hid (conC_bad HA.out HB.out (by rw [h3]; simp))
            go_wp2_with (go_at_call 63; refine (outN_any _ _ _ _).mono ?_; rintro e w' ⟨rfl, rfl⟩)
            go_ret2
            exact ⟨by rw [HS.out]; rfl, K2⟩
          · have h3' : outN margin 0 3600000 = false := by simpa using h3
            have hmg : 0 ≤ margin ∧ margin ≤ 3600000 := by unfold outN at h3'; simp at h3'; omega
            clear h3
            by_cases h4 : low < 0
            · have HS : Hid (conC a pa b pb margin low high = (0, 4)) := Lib.hid (conC_bad HA.out HB.out (by simp [h4]))
              go_wp2_with (go_at_call 63; refine (outN_any _ _ _ _).mono ?_; rintro e w' ⟨rfl, rfl⟩)
              go_ret2
              exact ⟨by rw [HS.out]; rfl, K2⟩
            · by_cases h5 : 1000000 < high
              · have HS : Hid (conC a pa b pb margin low high = (0, 4)) := Lib.hid (conC_bad HA.out HB.out (by simp [h5]))
                go_wp2_with (go_at_call 63; refine (outN_any _ _ _ _).mono ?_; rintro e w' ⟨rfl, rfl⟩)
                go_ret2
                exact ⟨by rw [HS.out]; rfl, K2⟩
              · by_cases h6 : high < low
                · have HS : Hid (conC a pa b pb margin low high = (0, 4)) := Lib.hid (conC_bad HA.out HB.out (by simp [h6]))
                  go_wp2_with (go_at_call 63; refine (outN_any _ _ _ _).mono ?_; rintro e w' ⟨rfl, rfl⟩)
                  go_ret2
                  exact ⟨by rw [HS.out]; rfl, K2⟩
                · have HS0 : conC a pa b pb margin low high = if 20000 < high - low then (0, 2) else conGo (wrongC a pa b pb margin) low (high + 1 - low).toNat := by
                    unfold conC
                    rw [if_neg (by rw [HA.out]; simp), if_neg (by rw [HB.out]; simp), if_neg (by rw [h1', h2', h3']; simp; omega)]
                  by_cases h7 : 20000 < high - low
                  · have HS : Hid (conC a pa b pb margin low high = (0, 2)) := Lib.hid (by rw [HS0, if_pos h7])
                    clear HS0
                    go_wp2_with (go_at_call 63; refine (outN_any _ _ _ _).mono ?_; rintro e w' ⟨rfl, rfl⟩)
                    go_ret2
                    exact ⟨by rw [HS.out]; rfl, K2⟩
                  · have HS : Hid (conC a pa b pb margin low high = conGo (wrongC a pa b pb margin) low (high + 1 - low).toNat) := Lib.hid (by rw [HS0, if_neg h7])
                    clear HS0
                    go_wp2_with (go_at_call 63; refine (outN_any _ _ _ _).mono ?_; rintro e w' ⟨rfl, rfl⟩)
                    go_loopw [19, 20, 21, 22, 23] (fun i _ _ _ _ wr => ∃ k : Nat, (k : Int) ≤ high + 1 - low ∧ i = .int .i64 (low + k) ∧ Below w.heap.size w wr ∧ conGo (wrongC a pa b pb margin) low (high + 1 - low).toNat = conGo (wrongC a pa b pb margin) (low + k) ((high + 1 - low).toNat - k)) (fun i _ _ _ _ _ => (high + 1 - intOf i).toNat)
                    case atStart => exact ⟨0, by omega, by simp, K2, by simp⟩
                    case round =>
                      obtain ⟨k, hk, rfl, K, hcon⟩ := hrel
                      have HCON := Lib.hid hcon
                      clear hcon
                      by_cases hlt : low + k ≤ high
                      · have hsucc : (high + 1 - low).toNat - k = ((high + 1 - low).toNat - (k + 1)) + 1 := by omega
                        have hstep : Hid (conGo (wrongC a pa b pb margin) low (high + 1 - low).toNat = if wrongC a pa b pb margin (low + k) then (low + (k : Int), 0) else conGo (wrongC a pa b pb margin) (low + k + 1) ((high + 1 - low).toNat - (k + 1))) := Lib.hid (by rw [HCON.out, hsucc]; rfl)
                        have hk1 : ((k + 1 : Nat) : Int) = (k : Int) + 1 := by omega
                        have HK1 := Lib.hid hk1
                        clear hsucc hk1
                        go_wp2_with fail
                        refine (tm_any B n2 c2 b pb (low + k) _ ((hb.below K (Nat.le_refl _)).more K.size) hgb hpb.1 hpb.2 (by omega) (by omega)).mono ?_
                        cases hTb : tmC pb (low + k) b with
                        | none =>
                          have hwr : Hid (wrongC a pa b pb margin (low + k) = false) := Lib.hid (by unfold wrongC; rw [hTb])
                          clear hTb
                          simp only [tmV, tmB]
                          rintro e w3 ⟨rfl, k3⟩
                          have K3 := K.trans (k3.mono K.size)
                          clear k3
                          go_wp2_with fail
                          refine (tm_any A n c a pa (low + k) _ ((ha.below K3 (Nat.le_refl _)).more K3.size) hga hpa.1 hpa.2 (by omega) (by omega)).mono ?_
                          rintro e w4 ⟨rfl, k4⟩
                          have K4 := K3.trans (k4.mono K3.size)
                          clear k4
                          go_wp2_with fail
                          go_roundw
                          case rel => exact ⟨k + 1, by rw [HK1.out]; omega, by rw [HK1.out, Int.add_assoc], K4, by rw [hstep.out, hwr.out, HK1.out, Int.add_assoc]; rfl⟩
                          case measure => simp [intOf]; omega
                        | some u =>
                          have hub := tmC_bd hgb hpb.1 hTb
                          obtain ⟨hu1, hu2⟩ := hub
                          have HTB := Lib.hid hTb
                          clear hTb
                          simp only [tmV, tmB]
                          rintro e w3 ⟨rfl, k3⟩
                          have K3 := K.trans (k3.mono K.size)
                          clear k3
                          go_wp2_with fail
                          refine (tm_any A n c a pa (low + k) _ ((ha.below K3 (Nat.le_refl _)).more K3.size) hga hpa.1 hpa.2 (by omega) (by omega)).mono ?_
                          cases hTa : tmC pa (low + k) a with
                          | none =>
                            have hwr : Hid (wrongC a pa b pb margin (low + k) = true) := Lib.hid (by unfold wrongC; rw [HTB.out, hTa])
                            clear hTa
                            simp only [tmV, tmB]
                            rintro e w4 ⟨rfl, k4⟩
                            have K4 := K3.trans (k4.mono K3.size)
                            clear k4
                            go_wp2_with fail
                            go_ret2
                            refine ⟨?_, K4⟩
                            rw [HS.out, hstep.out, hwr.out]
                            rfl
                          | some t =>
                            have htb := tmC_bd hga hpa.1 hTa
                            obtain ⟨ht1, ht2⟩ := htb
                            have hwr : Hid (wrongC a pa b pb margin (low + k) = decide (u < t + margin)) := Lib.hid (by unfold wrongC; rw [HTB.out, hTa])
                            clear hTa
                            simp only [tmV, tmB]
                            rintro e w4 ⟨rfl, k4⟩
                            have K4 := K3.trans (k4.mono K3.size)
                            clear k4
                            obtain ⟨hmg1, hmg2⟩ := hmg
                            by_cases hw : u < t + margin
                            · go_wp2_with fail
                              go_ret2
                              refine ⟨?_, K4⟩
                              rw [HS.out, hstep.out, hwr.out, if_pos (by simpa using hw)]
                              rfl
                            · go_wp2_with fail
                              go_roundw
                              case rel => exact ⟨k + 1, by rw [HK1.out]; omega, by rw [HK1.out, Int.add_assoc], K4, by rw [hstep.out, hwr.out, if_neg (by simpa using hw), HK1.out, Int.add_assoc]⟩
                              case measure => simp [intOf]; omega
                      · have hz : (high + 1 - low).toNat - k = 0 := by omega
                        rw [hz] at HCON
                        clear hz
                        go_wp2_with fail
                        go_ret2
                        refine ⟨?_, K⟩
                        rw [HS.out, HCON.out]
                        rfl
    · have HS : Hid (conC a pa b pb margin low high = (0, ckC b)) := Lib.hid (by unfold conC; rw [if_neg (by rw [hca]; simp), if_pos hcb])
      have HA := Lib.hid hca
      have hcb1 : (ckC b != 0) = true := by simpa using hcb
      clear hca hcb
      go_enter Try.func30, Try.ntmps30
      go_wp2_with fail
      refine wp_loop_rounds 3 ?_
      rw [rounds_succ]
      go_wp2_with fail
      refine (checkC_any _ _ _ _ _ ha hm).mono ?_
      rw [HA.out]
      rintro e w1 ⟨rfl, k1⟩
      go_wp2_with fail
      rw [rounds_succ]
      go_wp2_with fail
      refine (checkC_any _ _ _ _ _ ((hb.below k1 (Nat.le_refl _)).more k1.size) hm2).mono ?_
      rintro e w2 ⟨rfl, k2⟩
      have K2 := k1.trans (k2.mono k1.size)
      go_wp2_with fail
      go_ret2
      exact ⟨by rw [HS.out]; rfl, K2⟩
  · have HS : Hid (conC a pa b pb margin low high = (0, ckC a)) := Lib.hid (by unfold conC; rw [if_pos hca])
    have hca1 : (ckC a != 0) = true := by simpa using hca
    clear hca
    go_enter Try.func30, Try.ntmps30
    go_wp2_with fail
    refine wp_loop_rounds 3 ?_
    rw [rounds_succ]
    go_wp2_with fail
    refine (checkC_any _ _ _ _ _ ha hm).mono ?_
    rintro e w1 ⟨rfl, k1⟩
    go_wp2_with fail
    go_ret2
    exact ⟨by rw [HS.out]; rfl, k1⟩
end Go.Proofs.Ythedpegaelpbdaa
