/- The check of an operation. -/
import Derived.Test.YtaanoljfhnfjoaaGreatDoorD6
namespace Go.Proofs.YtaanoljfhnfjoaaGreatDoor
open Go.ChangeShapes Go.WideShapes Go.ChangeAt Go.RowKit
set_option linter.unusedVariables false
set_option linter.unusedSimpArgs false
attribute [local go_sem ↓] execOp_call_val
attribute [local go_sem] callVal_func setCell_drewN alloc_drewN sEq_walk


theorem toList_nil {s : ByteArray} : s.toList = [] ↔ s.size = 0 := by
  rw [ByteArray.toList_eq]
  constructor
  · intro h; have : s.data.toList.length = 0 := by rw [h]; rfl
    simpa using this
  · intro h; exact List.eq_nil_of_length_eq_zero (by simpa using h)

set_option maxHeartbeats 1000000 in
theorem node_0 (nm : ByteArray) (val : Int) (hs : nm.size ≤ maxLen) (w : World) :
    Calls Tryz.prog 21 #[.agg #[.int .i64 0, .string nm, .int .i64 val]] w fun e w' => e = .returned (.int .i64 (nodeCk ⟨0, nm, val⟩)) ∧ Below w.heap.size w w' := by
  have K0 : Below w.heap.size w (w.alloc (.cells #[.int .i64 0, .string nm, .int .i64 val] 41)) := (Below.refl _ _).alloc (Nat.le_refl _) _
  have HK := Lib.hid K0
  have HQ : Hid (Blk (w.alloc (.cells #[.int .i64 0, .string nm, .int .i64 val] 41)) w.heap.size 41 #[.int .i64 0, .string nm, .int .i64 val]) := Lib.hid (Blk.new _ _ _)
  have HD0 : Hid (nodeCk ⟨0, nm, val⟩ = if rnameB nm = false then 6 else if val < 0 ∨ 0 < val then 4 else 0) := Lib.hid (by unfold nodeCk lowN highN; simp)
  have HS := Lib.hid hs
  clear K0 hs
  go_enter Tryz.func21, Tryz.ntmps21
  go_wp2_with fail
  refine (rname_any nm _ HS.out).mono ?_
  rintro e w1 ⟨rfl, k1⟩
  have hq := HQ.out.below k1 HQ.out.lt
  obtain ⟨c0, c1, c2, cf, clt⟩ := Nd.box (x := ⟨0, nm, val⟩) hq
  have HK1 := Lib.hid (HK.out.trans (k1.mono HK.out.size))
  clear k1 hq
  cases hn1 : rnameB nm with
  | false =>
    have HE : Hid (nodeCk ⟨0, nm, val⟩ = 6) := Lib.hid (by rw [HD0.out, if_pos hn1])
    clear hn1 HD0
    go_wp2_with fail
    go_ret
    exact ⟨ret_int HE.out.symm, HK1.out⟩
  | true =>
    have HD : Hid (nodeCk ⟨0, nm, val⟩ = if val < 0 ∨ 0 < val then 4 else 0) := Lib.hid (by rw [HD0.out, if_neg (by rw [hn1]; simp)])
    clear hn1 HD0
    by_cases h2 : val < 0
    · have HE : Hid (nodeCk ⟨0, nm, val⟩ = 4) := Lib.hid (by rw [HD.out, if_pos (.inl h2)])
      clear HD
      go_wp2_with fail
      go_ret
      exact ⟨ret_int HE.out.symm, HK1.out⟩
    · by_cases h3 : 0 < val
      · have HE : Hid (nodeCk ⟨0, nm, val⟩ = 4) := Lib.hid (by rw [HD.out, if_pos (.inr h3)])
        clear HD
        go_wp2_with fail
        go_ret
        exact ⟨ret_int HE.out.symm, HK1.out⟩
      · have HE : Hid (nodeCk ⟨0, nm, val⟩ = 0) := Lib.hid (by rw [HD.out, if_neg (by omega)])
        clear HD
        go_wp2_with fail
        go_ret
        exact ⟨ret_int HE.out.symm, HK1.out⟩

set_option maxHeartbeats 1000000 in
theorem node_1 (nm : ByteArray) (val : Int) (hs : nm.size ≤ maxLen) (w : World) :
    Calls Tryz.prog 21 #[.agg #[.int .i64 1, .string nm, .int .i64 val]] w fun e w' => e = .returned (.int .i64 (nodeCk ⟨1, nm, val⟩)) ∧ Below w.heap.size w w' := by
  have K0 : Below w.heap.size w (w.alloc (.cells #[.int .i64 1, .string nm, .int .i64 val] 41)) := (Below.refl _ _).alloc (Nat.le_refl _) _
  have HK := Lib.hid K0
  have HQ : Hid (Blk (w.alloc (.cells #[.int .i64 1, .string nm, .int .i64 val] 41)) w.heap.size 41 #[.int .i64 1, .string nm, .int .i64 val]) := Lib.hid (Blk.new _ _ _)
  have HD0 : Hid (nodeCk ⟨1, nm, val⟩ = if rnameB nm = false then 6 else if val < 0 ∨ 1000000 < val then 4 else 0) := Lib.hid (by unfold nodeCk lowN highN; simp)
  have HS := Lib.hid hs
  clear K0 hs
  go_enter Tryz.func21, Tryz.ntmps21
  go_wp2_with fail
  refine (rname_any nm _ HS.out).mono ?_
  rintro e w1 ⟨rfl, k1⟩
  have hq := HQ.out.below k1 HQ.out.lt
  obtain ⟨c0, c1, c2, cf, clt⟩ := Nd.box (x := ⟨1, nm, val⟩) hq
  have HK1 := Lib.hid (HK.out.trans (k1.mono HK.out.size))
  clear k1 hq
  cases hn1 : rnameB nm with
  | false =>
    have HE : Hid (nodeCk ⟨1, nm, val⟩ = 6) := Lib.hid (by rw [HD0.out, if_pos hn1])
    clear hn1 HD0
    go_wp2_with fail
    go_ret
    exact ⟨ret_int HE.out.symm, HK1.out⟩
  | true =>
    have HD : Hid (nodeCk ⟨1, nm, val⟩ = if val < 0 ∨ 1000000 < val then 4 else 0) := Lib.hid (by rw [HD0.out, if_neg (by rw [hn1]; simp)])
    clear hn1 HD0
    by_cases h2 : val < 0
    · have HE : Hid (nodeCk ⟨1, nm, val⟩ = 4) := Lib.hid (by rw [HD.out, if_pos (.inl h2)])
      clear HD
      go_wp2_with fail
      go_ret
      exact ⟨ret_int HE.out.symm, HK1.out⟩
    · by_cases h3 : 1000000 < val
      · have HE : Hid (nodeCk ⟨1, nm, val⟩ = 4) := Lib.hid (by rw [HD.out, if_pos (.inr h3)])
        clear HD
        go_wp2_with fail
        go_ret
        exact ⟨ret_int HE.out.symm, HK1.out⟩
      · have HE : Hid (nodeCk ⟨1, nm, val⟩ = 0) := Lib.hid (by rw [HD.out, if_neg (by omega)])
        clear HD
        go_wp2_with fail
        go_ret
        exact ⟨ret_int HE.out.symm, HK1.out⟩

set_option maxHeartbeats 1000000 in
theorem node_2 (nm : ByteArray) (val : Int) (hs : nm.size ≤ maxLen) (w : World) :
    Calls Tryz.prog 21 #[.agg #[.int .i64 2, .string nm, .int .i64 val]] w fun e w' => e = .returned (.int .i64 (nodeCk ⟨2, nm, val⟩)) ∧ Below w.heap.size w w' := by
  have K0 : Below w.heap.size w (w.alloc (.cells #[.int .i64 2, .string nm, .int .i64 val] 41)) := (Below.refl _ _).alloc (Nat.le_refl _) _
  have HK := Lib.hid K0
  have HQ : Hid (Blk (w.alloc (.cells #[.int .i64 2, .string nm, .int .i64 val] 41)) w.heap.size 41 #[.int .i64 2, .string nm, .int .i64 val]) := Lib.hid (Blk.new _ _ _)
  have HD0 : Hid (nodeCk ⟨2, nm, val⟩ = if rnameB nm = false then 6 else if val < 0 ∨ 1000000 < val then 4 else 0) := Lib.hid (by unfold nodeCk lowN highN; simp)
  have HS := Lib.hid hs
  clear K0 hs
  go_enter Tryz.func21, Tryz.ntmps21
  go_wp2_with fail
  refine (rname_any nm _ HS.out).mono ?_
  rintro e w1 ⟨rfl, k1⟩
  have hq := HQ.out.below k1 HQ.out.lt
  obtain ⟨c0, c1, c2, cf, clt⟩ := Nd.box (x := ⟨2, nm, val⟩) hq
  have HK1 := Lib.hid (HK.out.trans (k1.mono HK.out.size))
  clear k1 hq
  cases hn1 : rnameB nm with
  | false =>
    have HE : Hid (nodeCk ⟨2, nm, val⟩ = 6) := Lib.hid (by rw [HD0.out, if_pos hn1])
    clear hn1 HD0
    go_wp2_with fail
    go_ret
    exact ⟨ret_int HE.out.symm, HK1.out⟩
  | true =>
    have HD : Hid (nodeCk ⟨2, nm, val⟩ = if val < 0 ∨ 1000000 < val then 4 else 0) := Lib.hid (by rw [HD0.out, if_neg (by rw [hn1]; simp)])
    clear hn1 HD0
    by_cases h2 : val < 0
    · have HE : Hid (nodeCk ⟨2, nm, val⟩ = 4) := Lib.hid (by rw [HD.out, if_pos (.inl h2)])
      clear HD
      go_wp2_with fail
      go_ret
      exact ⟨ret_int HE.out.symm, HK1.out⟩
    · by_cases h3 : 1000000 < val
      · have HE : Hid (nodeCk ⟨2, nm, val⟩ = 4) := Lib.hid (by rw [HD.out, if_pos (.inr h3)])
        clear HD
        go_wp2_with fail
        go_ret
        exact ⟨ret_int HE.out.symm, HK1.out⟩
      · have HE : Hid (nodeCk ⟨2, nm, val⟩ = 0) := Lib.hid (by rw [HD.out, if_neg (by omega)])
        clear HD
        go_wp2_with fail
        go_ret
        exact ⟨ret_int HE.out.symm, HK1.out⟩

set_option maxHeartbeats 1000000 in
theorem node_3 (nm : ByteArray) (val : Int) (hs : nm.size ≤ maxLen) (w : World) :
    Calls Tryz.prog 21 #[.agg #[.int .i64 3, .string nm, .int .i64 val]] w fun e w' => e = .returned (.int .i64 (nodeCk ⟨3, nm, val⟩)) ∧ Below w.heap.size w w' := by
  have K0 : Below w.heap.size w (w.alloc (.cells #[.int .i64 3, .string nm, .int .i64 val] 41)) := (Below.refl _ _).alloc (Nat.le_refl _) _
  have HK := Lib.hid K0
  have HQ : Hid (Blk (w.alloc (.cells #[.int .i64 3, .string nm, .int .i64 val] 41)) w.heap.size 41 #[.int .i64 3, .string nm, .int .i64 val]) := Lib.hid (Blk.new _ _ _)
  have HD0 : Hid (nodeCk ⟨3, nm, val⟩ = if 0 < nm.size then 6 else if val < 0 ∨ 0 < val then 4 else 0) := Lib.hid (by unfold nodeCk lowN highN; simp)
  have HS := Lib.hid hs
  clear K0 hs
  have HK1 := HK
  by_cases h0 : nm.size = 0
  · have h1 : nm.toList = [] := toList_nil.2 h0
    have HD : Hid (nodeCk ⟨3, nm, val⟩ = if val < 0 ∨ 0 < val then 4 else 0) := Lib.hid (by rw [HD0.out, if_neg (by omega)])
    clear HD0 h0
    go_enter Tryz.func21, Tryz.ntmps21
    by_cases h2 : val < 0
    · have HE : Hid (nodeCk ⟨3, nm, val⟩ = 4) := Lib.hid (by rw [HD.out, if_pos (.inl h2)])
      clear HD
      go_wp2_with fail
      go_ret
      exact ⟨ret_int HE.out.symm, HK1.out⟩
    · by_cases h3 : 0 < val
      · have HE : Hid (nodeCk ⟨3, nm, val⟩ = 4) := Lib.hid (by rw [HD.out, if_pos (.inr h3)])
        clear HD
        go_wp2_with fail
        go_ret
        exact ⟨ret_int HE.out.symm, HK1.out⟩
      · have HE : Hid (nodeCk ⟨3, nm, val⟩ = 0) := Lib.hid (by rw [HD.out, if_neg (by omega)])
        clear HD
        go_wp2_with fail
        go_ret
        exact ⟨ret_int HE.out.symm, HK1.out⟩
  · have h1 : (!nm.toList.isEmpty) = true := by cases hq : nm.toList with | nil => exact absurd (toList_nil.1 hq) h0 | cons a r => rfl
    have HE : Hid (nodeCk ⟨3, nm, val⟩ = 6) := Lib.hid (by rw [HD0.out, if_pos (by omega)])
    clear HD0 h0
    go_enter Tryz.func21, Tryz.ntmps21
    go_wp2_with fail
    go_ret
    exact ⟨ret_int HE.out.symm, HK1.out⟩

set_option maxHeartbeats 1000000 in
theorem node_4 (nm : ByteArray) (val : Int) (hs : nm.size ≤ maxLen) (w : World) :
    Calls Tryz.prog 21 #[.agg #[.int .i64 4, .string nm, .int .i64 val]] w fun e w' => e = .returned (.int .i64 (nodeCk ⟨4, nm, val⟩)) ∧ Below w.heap.size w w' := by
  have K0 : Below w.heap.size w (w.alloc (.cells #[.int .i64 4, .string nm, .int .i64 val] 41)) := (Below.refl _ _).alloc (Nat.le_refl _) _
  have HK := Lib.hid K0
  have HQ : Hid (Blk (w.alloc (.cells #[.int .i64 4, .string nm, .int .i64 val] 41)) w.heap.size 41 #[.int .i64 4, .string nm, .int .i64 val]) := Lib.hid (Blk.new _ _ _)
  have HD0 : Hid (nodeCk ⟨4, nm, val⟩ = if 0 < nm.size then 6 else if val < 0 ∨ 0 < val then 4 else 0) := Lib.hid (by unfold nodeCk lowN highN; simp)
  have HS := Lib.hid hs
  clear K0 hs
  have HK1 := HK
  by_cases h0 : nm.size = 0
  · have h1 : nm.toList = [] := toList_nil.2 h0
    have HD : Hid (nodeCk ⟨4, nm, val⟩ = if val < 0 ∨ 0 < val then 4 else 0) := Lib.hid (by rw [HD0.out, if_neg (by omega)])
    clear HD0 h0
    go_enter Tryz.func21, Tryz.ntmps21
    by_cases h2 : val < 0
    · have HE : Hid (nodeCk ⟨4, nm, val⟩ = 4) := Lib.hid (by rw [HD.out, if_pos (.inl h2)])
      clear HD
      go_wp2_with fail
      go_ret
      exact ⟨ret_int HE.out.symm, HK1.out⟩
    · by_cases h3 : 0 < val
      · have HE : Hid (nodeCk ⟨4, nm, val⟩ = 4) := Lib.hid (by rw [HD.out, if_pos (.inr h3)])
        clear HD
        go_wp2_with fail
        go_ret
        exact ⟨ret_int HE.out.symm, HK1.out⟩
      · have HE : Hid (nodeCk ⟨4, nm, val⟩ = 0) := Lib.hid (by rw [HD.out, if_neg (by omega)])
        clear HD
        go_wp2_with fail
        go_ret
        exact ⟨ret_int HE.out.symm, HK1.out⟩
  · have h1 : (!nm.toList.isEmpty) = true := by cases hq : nm.toList with | nil => exact absurd (toList_nil.1 hq) h0 | cons a r => rfl
    have HE : Hid (nodeCk ⟨4, nm, val⟩ = 6) := Lib.hid (by rw [HD0.out, if_pos (by omega)])
    clear HD0 h0
    go_enter Tryz.func21, Tryz.ntmps21
    go_wp2_with fail
    go_ret
    exact ⟨ret_int HE.out.symm, HK1.out⟩

set_option maxHeartbeats 1000000 in
theorem node_5 (nm : ByteArray) (val : Int) (hs : nm.size ≤ maxLen) (w : World) :
    Calls Tryz.prog 21 #[.agg #[.int .i64 5, .string nm, .int .i64 val]] w fun e w' => e = .returned (.int .i64 (nodeCk ⟨5, nm, val⟩)) ∧ Below w.heap.size w w' := by
  have K0 : Below w.heap.size w (w.alloc (.cells #[.int .i64 5, .string nm, .int .i64 val] 41)) := (Below.refl _ _).alloc (Nat.le_refl _) _
  have HK := Lib.hid K0
  have HQ : Hid (Blk (w.alloc (.cells #[.int .i64 5, .string nm, .int .i64 val] 41)) w.heap.size 41 #[.int .i64 5, .string nm, .int .i64 val]) := Lib.hid (Blk.new _ _ _)
  have HD0 : Hid (nodeCk ⟨5, nm, val⟩ = if 0 < nm.size then 6 else if val < 0 ∨ 0 < val then 4 else 0) := Lib.hid (by unfold nodeCk lowN highN; simp)
  have HS := Lib.hid hs
  clear K0 hs
  have HK1 := HK
  by_cases h0 : nm.size = 0
  · have h1 : nm.toList = [] := toList_nil.2 h0
    have HD : Hid (nodeCk ⟨5, nm, val⟩ = if val < 0 ∨ 0 < val then 4 else 0) := Lib.hid (by rw [HD0.out, if_neg (by omega)])
    clear HD0 h0
    go_enter Tryz.func21, Tryz.ntmps21
    by_cases h2 : val < 0
    · have HE : Hid (nodeCk ⟨5, nm, val⟩ = 4) := Lib.hid (by rw [HD.out, if_pos (.inl h2)])
      clear HD
      go_wp2_with fail
      go_ret
      exact ⟨ret_int HE.out.symm, HK1.out⟩
    · by_cases h3 : 0 < val
      · have HE : Hid (nodeCk ⟨5, nm, val⟩ = 4) := Lib.hid (by rw [HD.out, if_pos (.inr h3)])
        clear HD
        go_wp2_with fail
        go_ret
        exact ⟨ret_int HE.out.symm, HK1.out⟩
      · have HE : Hid (nodeCk ⟨5, nm, val⟩ = 0) := Lib.hid (by rw [HD.out, if_neg (by omega)])
        clear HD
        go_wp2_with fail
        go_ret
        exact ⟨ret_int HE.out.symm, HK1.out⟩
  · have h1 : (!nm.toList.isEmpty) = true := by cases hq : nm.toList with | nil => exact absurd (toList_nil.1 hq) h0 | cons a r => rfl
    have HE : Hid (nodeCk ⟨5, nm, val⟩ = 6) := Lib.hid (by rw [HD0.out, if_pos (by omega)])
    clear HD0 h0
    go_enter Tryz.func21, Tryz.ntmps21
    go_wp2_with fail
    go_ret
    exact ⟨ret_int HE.out.symm, HK1.out⟩

set_option maxHeartbeats 1000000 in
theorem node_6 (nm : ByteArray) (val : Int) (hs : nm.size ≤ maxLen) (w : World) :
    Calls Tryz.prog 21 #[.agg #[.int .i64 6, .string nm, .int .i64 val]] w fun e w' => e = .returned (.int .i64 (nodeCk ⟨6, nm, val⟩)) ∧ Below w.heap.size w w' := by
  have K0 : Below w.heap.size w (w.alloc (.cells #[.int .i64 6, .string nm, .int .i64 val] 41)) := (Below.refl _ _).alloc (Nat.le_refl _) _
  have HK := Lib.hid K0
  have HQ : Hid (Blk (w.alloc (.cells #[.int .i64 6, .string nm, .int .i64 val] 41)) w.heap.size 41 #[.int .i64 6, .string nm, .int .i64 val]) := Lib.hid (Blk.new _ _ _)
  have HD0 : Hid (nodeCk ⟨6, nm, val⟩ = if 0 < nm.size then 6 else if val < 1 ∨ 100000 < val then 4 else 0) := Lib.hid (by unfold nodeCk lowN highN; simp)
  have HS := Lib.hid hs
  clear K0 hs
  have HK1 := HK
  by_cases h0 : nm.size = 0
  · have h1 : nm.toList = [] := toList_nil.2 h0
    have HD : Hid (nodeCk ⟨6, nm, val⟩ = if val < 1 ∨ 100000 < val then 4 else 0) := Lib.hid (by rw [HD0.out, if_neg (by omega)])
    clear HD0 h0
    go_enter Tryz.func21, Tryz.ntmps21
    by_cases h2 : val < 1
    · have HE : Hid (nodeCk ⟨6, nm, val⟩ = 4) := Lib.hid (by rw [HD.out, if_pos (.inl h2)])
      clear HD
      go_wp2_with fail
      go_ret
      exact ⟨ret_int HE.out.symm, HK1.out⟩
    · by_cases h3 : 100000 < val
      · have HE : Hid (nodeCk ⟨6, nm, val⟩ = 4) := Lib.hid (by rw [HD.out, if_pos (.inr h3)])
        clear HD
        go_wp2_with fail
        go_ret
        exact ⟨ret_int HE.out.symm, HK1.out⟩
      · have HE : Hid (nodeCk ⟨6, nm, val⟩ = 0) := Lib.hid (by rw [HD.out, if_neg (by omega)])
        clear HD
        go_wp2_with fail
        go_ret
        exact ⟨ret_int HE.out.symm, HK1.out⟩
  · have h1 : (!nm.toList.isEmpty) = true := by cases hq : nm.toList with | nil => exact absurd (toList_nil.1 hq) h0 | cons a r => rfl
    have HE : Hid (nodeCk ⟨6, nm, val⟩ = 6) := Lib.hid (by rw [HD0.out, if_pos (by omega)])
    clear HD0 h0
    go_enter Tryz.func21, Tryz.ntmps21
    go_wp2_with fail
    go_ret
    exact ⟨ret_int HE.out.symm, HK1.out⟩

set_option maxHeartbeats 1000000 in
theorem node_7 (nm : ByteArray) (val : Int) (hs : nm.size ≤ maxLen) (w : World) :
    Calls Tryz.prog 21 #[.agg #[.int .i64 7, .string nm, .int .i64 val]] w fun e w' => e = .returned (.int .i64 (nodeCk ⟨7, nm, val⟩)) ∧ Below w.heap.size w w' := by
  have K0 : Below w.heap.size w (w.alloc (.cells #[.int .i64 7, .string nm, .int .i64 val] 41)) := (Below.refl _ _).alloc (Nat.le_refl _) _
  have HK := Lib.hid K0
  have HQ : Hid (Blk (w.alloc (.cells #[.int .i64 7, .string nm, .int .i64 val] 41)) w.heap.size 41 #[.int .i64 7, .string nm, .int .i64 val]) := Lib.hid (Blk.new _ _ _)
  have HD0 : Hid (nodeCk ⟨7, nm, val⟩ = if 0 < nm.size then 6 else if val < 0 ∨ 0 < val then 4 else 0) := Lib.hid (by unfold nodeCk lowN highN; simp)
  have HS := Lib.hid hs
  clear K0 hs
  have HK1 := HK
  by_cases h0 : nm.size = 0
  · have h1 : nm.toList = [] := toList_nil.2 h0
    have HD : Hid (nodeCk ⟨7, nm, val⟩ = if val < 0 ∨ 0 < val then 4 else 0) := Lib.hid (by rw [HD0.out, if_neg (by omega)])
    clear HD0 h0
    go_enter Tryz.func21, Tryz.ntmps21
    by_cases h2 : val < 0
    · have HE : Hid (nodeCk ⟨7, nm, val⟩ = 4) := Lib.hid (by rw [HD.out, if_pos (.inl h2)])
      clear HD
      go_wp2_with fail
      go_ret
      exact ⟨ret_int HE.out.symm, HK1.out⟩
    · by_cases h3 : 0 < val
      · have HE : Hid (nodeCk ⟨7, nm, val⟩ = 4) := Lib.hid (by rw [HD.out, if_pos (.inr h3)])
        clear HD
        go_wp2_with fail
        go_ret
        exact ⟨ret_int HE.out.symm, HK1.out⟩
      · have HE : Hid (nodeCk ⟨7, nm, val⟩ = 0) := Lib.hid (by rw [HD.out, if_neg (by omega)])
        clear HD
        go_wp2_with fail
        go_ret
        exact ⟨ret_int HE.out.symm, HK1.out⟩
  · have h1 : (!nm.toList.isEmpty) = true := by cases hq : nm.toList with | nil => exact absurd (toList_nil.1 hq) h0 | cons a r => rfl
    have HE : Hid (nodeCk ⟨7, nm, val⟩ = 6) := Lib.hid (by rw [HD0.out, if_pos (by omega)])
    clear HD0 h0
    go_enter Tryz.func21, Tryz.ntmps21
    go_wp2_with fail
    go_ret
    exact ⟨ret_int HE.out.symm, HK1.out⟩

theorem node_any (x : Nd) (hs : x.name.size ≤ maxLen) (w : World) :
    Calls Tryz.prog 21 #[.agg #[.int .i64 x.op, .string x.name, .int .i64 x.value]] w fun e w' => e = .returned (.int .i64 (nodeCk x)) ∧ Below w.heap.size w w' := by
  obtain ⟨op, nm, val⟩ := x
  simp only at hs ⊢
  by_cases h : 0 ≤ op ∧ op ≤ 7
  · have : op = 0 ∨ op = 1 ∨ op = 2 ∨ op = 3 ∨ op = 4 ∨ op = 5 ∨ op = 6 ∨ op = 7 := by omega
    rcases this with rfl | rfl | rfl | rfl | rfl | rfl | rfl | rfl
    · exact node_0 nm val hs w
    · exact node_1 nm val hs w
    · exact node_2 nm val hs w
    · exact node_3 nm val hs w
    · exact node_4 nm val hs w
    · exact node_5 nm val hs w
    · exact node_6 nm val hs w
    · exact node_7 nm val hs w
  · have HE : Hid (nodeCk ⟨op, nm, val⟩ = 1) := Lib.hid (by unfold nodeCk; rw [if_pos (show op < 0 ∨ 7 < op by omega)])
    have n0 : ¬ op = 0 := by omega
    have n1 : ¬ op = 1 := by omega
    have n2 : ¬ op = 2 := by omega
    have n3 : ¬ op = 3 := by omega
    have n4 : ¬ op = 4 := by omega
    have n5 : ¬ op = 5 := by omega
    have n6 : ¬ op = 6 := by omega
    have n7 : ¬ op = 7 := by omega
    clear h
    go_enter Tryz.func21, Tryz.ntmps21
    go_wp2_with fail
    go_ret
    exact ⟨ret_int HE.out.symm, (Below.refl _ _).alloc (Nat.le_refl _) _⟩
end Go.Proofs.YtaanoljfhnfjoaaGreatDoor
