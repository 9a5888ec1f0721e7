/- Names. -/
import Derived.Test.YthedpegaelpbdaaN0
import Derived.Laws.IdiomStrings
namespace Go.Proofs.Ythedpegaelpbdaa
open Go.ChangeShapes Go.WideShapes Go.ChangeAt Go.RowKit
set_option linter.unusedVariables false
attribute [local go_sem ↓] execOp_call_val
attribute [local go_sem] callVal_func setCell_drewN alloc_drewN sEq_walk

def nmCh (i c : Nat) : Bool := decide ((65 ≤ c ∧ c ≤ 90) ∨ (0 < i ∧ 48 ≤ c ∧ c ≤ 57))
def nmGo : Nat → List UInt8 → Bool
  | _, [] => true
  | i, c :: r => nmCh i c.toNat && nmGo (i + 1) r
def nameB (s : ByteArray) : Bool := nmGo 0 s.data.toList && decide (1 ≤ s.size ∧ s.size ≤ 8)

set_option maxRecDepth 100000 in
set_option maxHeartbeats 2000000 in
theorem name_any (s : ByteArray) (w : World) (hs : s.size ≤ maxLen) :
    Calls Try.prog 112 #[.string s] w fun e w' => e = .returned (.bool (nameB s)) ∧ Below w.heap.size w w' := by
  have hcv := fun w => run_bytes_of_string (P := Try.prog) w 9 204 5 s Try.underlying9 Try.underlying204 Try.underlying5
  unfold maxLen at hs
  go_enter Try.func112, Try.ntmps112
  go_wp2_with fail
  clear hcv
  generalize grownCap w s.size 0 5 = cap
  have hcell : ∀ k (h : k < s.data.size), (w.alloc (.cells (bytesRow s cap) 5 ((bytesRow s cap).size, (bytesRow s cap).size + 1))).cell? ⟨w.heap.size, k, none⟩ = some (.int .u8 (s.data[k].toNat : Int)) := fun k h => by
    rw [World.cell?_alloc_mark, bytesRow_at s cap k h]
  have HC := Lib.hid hcell
  have K0 : Below w.heap.size w (w.alloc (.cells (bytesRow s cap) 5 ((bytesRow s cap).size, (bytesRow s cap).size + 1))).drew := below_drew ((Below.refl _ _).alloc (Nat.le_refl _) _)
  have HK := Lib.hid K0
  have hlt0 : w.heap.size < (w.alloc (.cells (bytesRow s cap) 5 ((bytesRow s cap).size, (bytesRow s cap).size + 1))).heap.size := by simp
  clear hcell K0
  generalize (w.alloc (.cells (bytesRow s cap) 5 ((bytesRow s cap).size, (bytesRow s cap).size + 1))) = w1 at *
  go_loop [3, 4, 8] (fun _ _ i => ∃ k : Nat, k ≤ s.size ∧ i = .int .i64 k ∧ nmGo 0 s.data.toList = nmGo k (s.data.toList.drop k)) (fun _ _ i => s.size - (intOf i).toNat)
  case atStart => exact ⟨0, by omega, rfl, rfl⟩
  case round =>
    obtain ⟨k, hk, rfl, hgo⟩ := hrel
    have HG := Lib.hid hgo
    clear hgo
    by_cases hlt : k < s.size
    · obtain ⟨n, hn, hn2⟩ : ∃ n : Nat, n < 256 ∧ n = (s.data[k]'hlt).toNat := ⟨_, UInt8.toNat_lt _, rfl⟩
      have hc := HC.out k hlt
      rw [← hn2] at hc
      have hd : s.data.toList.drop k = s.data[k]'hlt :: s.data.toList.drop (k + 1) := drop_cons (by simp [hlt])
      have HD := Lib.hid (show nmGo k (s.data.toList.drop k) = (nmCh k n && nmGo (k + 1) (s.data.toList.drop (k + 1))) by rw [hd, hn2]; rfl)
      clear hd hn2
      go_wp2_with fail
      all_goals
        first
          | (have hx : nmCh k n = true := by
               clear HC HG HD HK hlt0
               simp at *
               unfold nmCh
               rw [decide_eq_true_eq]
               omega
             have HX := Lib.hid hx
             clear hx
             go_round
             case rel => exact ⟨k + 1, by omega, by go_num, by rw [HG.out, HD.out, HX.out]; rfl⟩
             case measure => simp [intOf]; omega)
          | (have hx : nmCh k n = false := by
               clear HC HG HD HK hlt0
               simp at *
               unfold nmCh
               rw [decide_eq_false_iff_not]
               omega
             go_ret
             exact ⟨ret_bool (by unfold nameB; rw [HG.out, HD.out, hx]; rfl), HK.out⟩)
    · have hd : s.data.toList.drop k = [] := by rw [List.drop_eq_nil_iff]; simp; exact Nat.le_of_not_lt hlt
      have HD := Lib.hid (show nmGo k (s.data.toList.drop k) = true by rw [hd]; rfl)
      have hs8 : Hid (nameB s = decide (1 ≤ s.size ∧ s.size ≤ 8)) := Lib.hid (by unfold nameB; rw [HG.out, HD.out]; rfl)
      clear hd
      by_cases h1 : 1 ≤ s.size
      · by_cases h8 : s.size ≤ 8
        · go_wp2_with fail
          go_ret
          exact ⟨ret_bool (by rw [hs8.out]; first | (rw [decide_eq_decide]; omega) | (rw [eq_comm, decide_eq_false_iff_not]; omega) | (rw [eq_comm, decide_eq_true_eq]; omega)), HK.out⟩
        · go_wp2_with fail
          go_ret
          exact ⟨ret_bool (by rw [hs8.out]; first | (rw [decide_eq_decide]; omega) | (rw [eq_comm, decide_eq_false_iff_not]; omega) | (rw [eq_comm, decide_eq_true_eq]; omega)), HK.out⟩
      · go_wp2_with fail
        go_ret
        exact ⟨ret_bool (by rw [hs8.out]; first | (rw [decide_eq_decide]; omega) | (rw [eq_comm, decide_eq_false_iff_not]; omega) | (rw [eq_comm, decide_eq_true_eq]; omega)), HK.out⟩
end Go.Proofs.Ythedpegaelpbdaa
