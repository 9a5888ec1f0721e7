/- Names; where an expression ends. -/
import Derived.Test.YtaanoljfhnfjoaaGreatDoorD5
import Derived.Test.YtaanoljfhnfjoaaGreatDoorD4
import Derived.Laws.IdiomStrings
namespace Go.Proofs.YtaanoljfhnfjoaaGreatDoor
open Go.ChangeShapes Go.WideShapes Go.ChangeAt Go.RowKit
set_option linter.unusedVariables false
set_option linter.unusedSimpArgs false
attribute [local go_sem ↓] execOp_call_val
attribute [local go_sem] callVal_func setCell_drewN alloc_drewN sEq_walk

set_option maxRecDepth 100000 in
set_option maxHeartbeats 2000000 in
theorem rname_any (s : ByteArray) (w : World) (hs : s.size ≤ maxLen) :
    Calls Tryz.prog 15 #[.string s] w fun e w' => e = .returned (.bool (rnameB s)) ∧ Below w.heap.size w w' := by
  have hcv := fun w => run_bytes_of_string (P := Tryz.prog) w 9 69 5 s Tryz.underlying9 Tryz.underlying69 Tryz.underlying5
  unfold maxLen at hs
  go_enter Tryz.func15, Tryz.ntmps15
  go_wp2_with fail
  clear hcv
  generalize grownCap w s.size 0 5 = cap
  have hcell : ∀ k (h : k < s.data.size), (w.alloc (.cells (bytesRow s cap) 5 ((bytesRow s cap).size, (bytesRow s cap).size + 1))).cell? ⟨w.heap.size, k, none⟩ = some (.int .u8 (s.data[k].toNat : Int)) := fun k h => by
    rw [World.cell?_alloc_mark, bytesRow_at s cap k h]
  have HC := Lib.hid hcell
  have K0 : Below w.heap.size w (w.alloc (.cells (bytesRow s cap) 5 ((bytesRow s cap).size, (bytesRow s cap).size + 1))).drew := below_drew ((Below.refl _ _).alloc (Nat.le_refl _) _)
  have HK := Lib.hid K0
  have hlt0 : w.heap.size < (w.alloc (.cells (bytesRow s cap) 5 ((bytesRow s cap).size, (bytesRow s cap).size + 1))).heap.size := by simp
  clear hcell K0
  generalize (w.alloc (.cells (bytesRow s cap) 5 ((bytesRow s cap).size, (bytesRow s cap).size + 1))) = w1 at *
  go_loop [3, 4, 8] (fun _ _ i => ∃ k : Nat, k ≤ s.size ∧ i = .int .i64 k ∧ rnGo 0 s.data.toList = rnGo k (s.data.toList.drop k)) (fun _ _ i => s.size - (intOf i).toNat)
  case atStart => exact ⟨0, by omega, rfl, rfl⟩
  case round =>
    obtain ⟨k, hk, rfl, hgo⟩ := hrel
    have HG := Lib.hid hgo
    clear hgo
    by_cases hlt : k < s.size
    · obtain ⟨n, hn, hn2⟩ : ∃ n : Nat, n < 256 ∧ n = (s.data[k]'hlt).toNat := ⟨_, UInt8.toNat_lt _, rfl⟩
      have hc := HC.out k hlt
      rw [← hn2] at hc
      have hd : s.data.toList.drop k = s.data[k]'hlt :: s.data.toList.drop (k + 1) := drop_cons (by simp [hlt])
      have HD := Lib.hid (show rnGo k (s.data.toList.drop k) = (rnCh k n && rnGo (k + 1) (s.data.toList.drop (k + 1))) by rw [hd, hn2]; rfl)
      clear hd hn2
      go_wp2_with fail
      all_goals
        first
          | (have hx : rnCh k n = true := by
               clear HC HG HD HK hlt0
               simp at *
               unfold rnCh
               rw [decide_eq_true_eq]
               omega
             have HX := Lib.hid hx
             clear hx
             go_round
             case rel => exact ⟨k + 1, by omega, by go_num, by rw [HG.out, HD.out, HX.out]; rfl⟩
             case measure => simp [intOf]; omega)
          | (have hx : rnCh k n = false := by
               clear HC HG HD HK hlt0
               simp at *
               unfold rnCh
               rw [decide_eq_false_iff_not]
               omega
             go_ret
             exact ⟨ret_bool (by unfold rnameB; rw [HG.out, HD.out, hx]; rfl), HK.out⟩)
    · have hd : s.data.toList.drop k = [] := by rw [List.drop_eq_nil_iff]; simp; exact Nat.le_of_not_lt hlt
      have HD := Lib.hid (show rnGo k (s.data.toList.drop k) = true by rw [hd]; rfl)
      have hs8 : Hid (rnameB s = (decide (1 ≤ s.size ∧ s.size ≤ 8) && !hasS resv s)) := Lib.hid (by unfold rnameB; rw [HG.out, HD.out]; rfl)
      clear hd HC
      have hb : Below w.heap.size w ((w1.alloc (.cells #[Value.string ⟨#[65, 78, 68]⟩, Value.string ⟨#[79, 82]⟩, Value.string ⟨#[78, 79, 84]⟩, Value.string ⟨#[68, 69, 76, 65, 89]⟩, Value.string ⟨#[76, 65, 84, 67, 72]⟩] 9)).drew) := HK.out.alloc (Nat.le_of_lt hlt0) _
      have HB := Lib.hid hb
      have hq : Blk ((w1.alloc (.cells #[Value.string ⟨#[65, 78, 68]⟩, Value.string ⟨#[79, 82]⟩, Value.string ⟨#[78, 79, 84]⟩, Value.string ⟨#[68, 69, 76, 65, 89]⟩, Value.string ⟨#[76, 65, 84, 67, 72]⟩] 9)).drew) w1.heap.size 9 #[Value.string ⟨#[65, 78, 68]⟩, Value.string ⟨#[79, 82]⟩, Value.string ⟨#[78, 79, 84]⟩, Value.string ⟨#[68, 69, 76, 65, 89]⟩, Value.string ⟨#[76, 65, 84, 67, 72]⟩] := (Blk.new w1 9 #[Value.string ⟨#[65, 78, 68]⟩, Value.string ⟨#[79, 82]⟩, Value.string ⟨#[78, 79, 84]⟩, Value.string ⟨#[68, 69, 76, 65, 89]⟩, Value.string ⟨#[76, 65, 84, 67, 72]⟩]).drew
      have HQ := Lib.hid (rdStr_lit (zs := resv) (B := (w1.alloc (.cells #[Value.string ⟨#[65, 78, 68]⟩, Value.string ⟨#[79, 82]⟩, Value.string ⟨#[78, 79, 84]⟩, Value.string ⟨#[68, 69, 76, 65, 89]⟩, Value.string ⟨#[76, 65, 84, 67, 72]⟩] 9)).drew.heap.size) hq hq.lt)
      clear hb hq
      by_cases h1 : 1 ≤ s.size
      · by_cases h8 : s.size ≤ 8
        · have HE : Hid (rnameB s = !hasS resv s) := Lib.hid (by rw [hs8.out, decide_eq_true (And.intro h1 h8), Bool.true_and])
          clear hs8
          go_wp2_with fail
          refine (contains_str _ 5 5 resv s _ HQ.out (by omega)).mono ?_
          rintro e w2 ⟨rfl, rfl⟩
          go_wp2_with fail
          go_ret
          exact ⟨ret_bool HE.out.symm, by first | exact HB.out | exact HK.out⟩
        · have HE : Hid (rnameB s = false) := Lib.hid (by rw [hs8.out, decide_eq_false (by omega), Bool.false_and])
          clear hs8
          go_wp2_with fail
          go_ret
          exact ⟨ret_bool HE.out.symm, by first | exact HB.out | exact HK.out⟩
      · have HE : Hid (rnameB s = false) := Lib.hid (by rw [hs8.out, decide_eq_false (by omega), Bool.false_and])
        clear hs8
        go_wp2_with fail
        go_ret
        exact ⟨ret_bool HE.out.symm, by first | exact HB.out | exact HK.out⟩

set_option maxHeartbeats 1000000 in
theorem operands_any (op : Int) (w : World) :
    Calls Tryz.prog 39 #[.int .i64 op] w fun e w' => e = .returned (.int .i64 (opn op : Int)) ∧ w = w' := by
  by_cases h3 : op = 3
  · subst h3
    go_enter Tryz.func39, Tryz.ntmps39
    go_wp2
    go_ret
    exact ⟨rfl, rfl⟩
  by_cases h6 : op = 6
  · subst h6
    go_enter Tryz.func39, Tryz.ntmps39
    go_wp2
    go_ret
    exact ⟨rfl, rfl⟩
  by_cases h4 : op = 4
  · subst h4
    go_enter Tryz.func39, Tryz.ntmps39
    go_wp2
    go_ret
    exact ⟨rfl, rfl⟩
  by_cases h5 : op = 5
  · subst h5
    go_enter Tryz.func39, Tryz.ntmps39
    go_wp2
    go_ret
    exact ⟨rfl, rfl⟩
  by_cases h7 : op = 7
  · subst h7
    go_enter Tryz.func39, Tryz.ntmps39
    go_wp2
    go_ret
    exact ⟨rfl, rfl⟩
  have HO : Hid (opn op = 0) := Lib.hid (by unfold opn; rw [if_neg (by omega), if_neg (by omega)])
  go_enter Tryz.func39, Tryz.ntmps39
  go_wp2
  go_ret
  exact ⟨ret_int (by rw [HO.out]; rfl), rfl⟩
theorem opn_le (op : Int) : opn op ≤ 2 := by unfold opn; split <;> (try split) <;> omega

set_option maxHeartbeats 1000000 in
theorem end_any (A : Option Addr) (n c : Nat) (l : List Nd) (a0 : Nat) (w : World) (hR : RdNd w w.heap.size A n l) (hn : n ≤ 1000000) (ha : a0 ≤ n) :
    Calls Tryz.prog 22 #[.slice A n c, .int .i64 (a0 : Int)] w fun e w' => e = .returned (.int .i64 (endR l a0)) ∧ w = w' := by
  have HLEN := Lib.hid hR.1
  have HD := Lib.hid (show endR l a0 = endGo (l.drop a0) 1 a0 from rfl)
  go_enter Tryz.func22, Tryz.ntmps22
  go_wp2_with fail
  go_loop [1, 5] (fun at_ nd => ∃ k m : Nat, k ≤ n ∧ m ≤ k + 1 ∧ at_ = .int .i64 k ∧ nd = .int .i64 m ∧ endR l a0 = endGo (l.drop k) m k) (fun at_ _ => n + 1 - (intOf at_).toNat)
  case atStart => exact ⟨a0, 1, ha, by omega, rfl, rfl, HD.out⟩
  case round =>
    obtain ⟨k, m, hk, hm, rfl, rfl, hg⟩ := hrel
    have HG := Lib.hid hg
    clear hg
    by_cases hm0 : m = 0
    · subst hm0
      go_wp2_with fail
      go_ret
      exact ⟨ret_int (by rw [HG.out, endGo_zero]), rfl⟩
    · obtain ⟨m, rfl⟩ : ∃ j, m = j + 1 := ⟨m - 1, by omega⟩
      clear hm0
      by_cases hlt : k < n
      · obtain ⟨x, hx⟩ : ∃ x, l[k]? = some x := ⟨_, List.getElem?_eq_getElem (by have := HLEN.out; omega)⟩
        obtain ⟨b, off, rfl, hblt⟩ := hR.form (by omega)
        obtain ⟨c0, c1, c2⟩ := hR.at_ hx
        have HE : Hid (endR l a0 = endGo (l.drop (k + 1)) (m + opn x.op) (k + 1)) := Lib.hid (by rw [HG.out, drop_cons hx, endGo_succ])
        obtain ⟨o, ho⟩ : ∃ o, o = opn x.op := ⟨_, rfl⟩
        have ho2 : o ≤ 2 := by rw [ho]; exact opn_le _
        have HOO := Lib.hid ho
        clear hx HG ho
        go_wp2_with fail
        refine (operands_any x.op _).mono ?_
        rw [← HOO.out]
        rintro e w1 ⟨rfl, rfl⟩
        go_wp2_with fail
        go_round
        case rel => exact ⟨k + 1, m + o, by omega, by omega, by go_num, by go_num, by rw [HE.out, HOO.out]⟩
        case measure => simp [intOf]; omega
      · have HE : Hid (endR l a0 = -1) := Lib.hid (by
          rw [HG.out, List.drop_eq_nil_iff.2 (by have := HLEN.out; omega)]
          simp [endGo])
        clear HG
        go_wp2_with fail
        go_ret
        exact ⟨ret_int (by rw [HE.out]), rfl⟩
end Go.Proofs.YtaanoljfhnfjoaaGreatDoor
