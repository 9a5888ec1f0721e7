/- The law JournalFirst: the walk. -/
import Derived.Test.YtmmkkkakbbidjaaDoorJ10
namespace Go.Proofs.YtmmkkkakbbidjaaDoor
open Go.ChangeShapes Go.WideShapes Go.ChangeAt Go.RowKit
set_option linter.unusedVariables false
attribute [local go_sem ↓] execOp_call_val
attribute [local go_sem] callVal_func setCell_drewN alloc_drewN sEq_walk

theorem evCk_8 (x : Ev) : evCk x ≠ 8 := by
  unfold evCk
  split
  · decide
  · split
    · decide
    · split <;> decide
theorem ckEv_8 (l : List Ev) : ckEv l ≠ 8 := by
  unfold ckEv
  split
  · decide
  · rename_i h
    clear h
    induction l with
    | nil => decide
    | cons x r ih =>
      unfold ckGo
      split
      · exact evCk_8 x
      · exact ih
theorem fst_law (l : List Ev) (s : ByteArray) :
    ((fstR l s).2 ≠ 0 ∧ (fstR l s).2 ≠ 8 ∧ (fstR l s).1 = evZ) ∨ ((fstR l s).2 = 8 ∧ (fstR l s).1 = evZ ∧ ∀ y ∈ l, sEq y.kind s = false) ∨
      ((fstR l s).2 = 0 ∧ sEq (fstR l s).1.kind s = true ∧ ∀ y ∈ l, sEq y.kind s = true → (fstR l s).1.time ≤ y.time) := by
  unfold fstR
  by_cases h0 : ckEv l = 0
  · rw [if_neg (by simp [h0])]
    rcases idxGo_spec (fun z : Ev => sEq z.kind s) (evSort l) 0 with ⟨h1, h2⟩ | ⟨i, z, h1, h2, h3, h4⟩
    · have h1' : fstI l s = -1 := h1
      rw [h1', if_pos (by decide)]
      exact .inr (.inl ⟨rfl, rfl, fun y hy => h2 y ((evSort_perm l).mem_iff.2 hy)⟩)
    · have h1' : fstI l s = (i : Int) := by unfold fstI; rw [h1]; simp
      rw [h1', if_neg (by omega)]
      have hg : (evSort l).getD ((i : Int)).toNat evZ = z := by rw [show ((i : Int)).toNat = i from rfl, List.getD_eq_getElem?_getD, h2]; rfl
      rw [hg]
      refine .inr (.inr ⟨rfl, h3, fun y hy hk => ?_⟩)
      obtain ⟨j, hj, hjy⟩ := List.mem_iff_getElem.1 ((evSort_perm l).mem_iff.2 hy)
      have hij : i ≤ j := Decidable.byContradiction fun hn => by
        have : sEq y.kind s = false := h4 j y (by omega) (by rw [List.getElem?_eq_getElem hj, hjy])
        rw [this] at hk; cases hk
      obtain ⟨hi, hiz⟩ := List.getElem?_eq_some_iff.1 h2
      by_cases he : i = j
      · subst he
        rw [← hjy, ← hiz]; exact Int.le_refl _
      · have := List.pairwise_iff_getElem.1 (evSort_le l) i j hi hj (by omega)
        rw [hiz, hjy] at this
        exact ordE_time this
  · rw [if_pos h0]
    exact .inl ⟨h0, ckEv_8 l, rfl⟩

set_option maxRecDepth 100000 in
set_option maxHeartbeats 4000000 in
theorem jfirstlaw_any (A : Option Addr) (n c : Nat) (l : List Ev) (s : ByteArray) (hf : ∀ x ∈ l, x.Fit) (w : World) (hR : RdEv w w.heap.size A n l) (hn : n ≤ 9223372036854775807) (ht : TabOk w) :
    Calls Tryd.prog 4 #[.slice A n c, .string s] w fun e w' => e = .returned (.bool true) ∧ Below w.heap.size w w' := by
  have HR := Lib.hid hR
  have HT := Lib.hid ht
  have HF := Lib.hid hf
  have HL := Lib.hid (fst_law l s)
  have HLEN := Lib.hid hR.1
  have hgd := grd_ev
  have hel := fun w' => eql_ev evZ evZ w'
  rw [evB_self] at hel
  simp only [evV, evZ] at hel
  clear hR ht hf
  go_enter Tryd.func4, Tryd.ntmps4
  go_wp2_with fail
  refine (jworks_any _ HT.out).mono ?_
  rintro e w1 ⟨rfl, k1⟩
  have HB1 := Lib.hid k1
  have HR1 := Lib.hid (HR.out.up k1)
  clear k1
  go_wp2_with fail
  refine (jfirst_any A n c l s HF.out _ HR1.out hn).mono ?_
  generalize fstR l s = r at *
  obtain ⟨x, ee⟩ := r
  rintro e w2 ⟨rfl, k2⟩
  have hl := HL.out
  dsimp only at hl ⊢
  have hb3 : Below w2.heap.size w2 (w2.alloc (.cells #[.int .i64 x.time, .string x.kind, .string x.name, .int .i64 x.value] 31)) := (Below.refl _ _).alloc (Nat.le_refl _) _
  have HB3 := Lib.hid ((HB1.out.trans (k2.mono HB1.out.size)).trans (hb3.mono (Nat.le_trans HB1.out.size k2.size)))
  have HR3 := Lib.hid ((HR1.out.up k2).up hb3)
  have HQ : Hid (Blk (w2.alloc (.cells #[.int .i64 x.time, .string x.kind, .string x.name, .int .i64 x.value] 31)) w2.heap.size 31 #[.int .i64 x.time, .string x.kind, .string x.name, .int .i64 x.value]) := Lib.hid (Blk.new _ _ _)
  clear k2 hb3 HL
  rcases hl with ⟨h0, h8, hx⟩ | ⟨h8, hx, hall⟩ | ⟨h0, hk, hall⟩
  · subst hx
    have h0b : (ee != 0) = true := by simpa using h0
    have h8b : (ee != 8) = true := by simpa using h8
    clear h0 h8
    dsimp only [evZ]
    go_wp2_with fail
    go_ret
    exact ⟨rfl, HB3.out⟩
  · subst h8
    subst hx
    have HALL := Lib.hid hall
    clear hall
    dsimp only [evZ] at *
    obtain ⟨d0, d1, d2, d3, df, dlt⟩ := Ev.box (x := evZ) HQ.out
    dsimp only [evZ] at d0 d1 d2 d3
    go_wp2_with fail
    go_loopw [28] (fun i wr => ∃ k : Nat, k ≤ n ∧ i = .int .i64 k ∧ Below (w2.alloc (.cells #[.int .i64 0, .string ⟨#[]⟩, .string ⟨#[]⟩, .int .i64 0] 31)).heap.size (w2.alloc (.cells #[.int .i64 0, .string ⟨#[]⟩, .string ⟨#[]⟩, .int .i64 0] 31)) wr) (fun i _ => n - (intOf i).toNat)
    case atStart => exact ⟨0, by omega, rfl, Below.refl _ _⟩
    case round =>
      obtain ⟨k, hk, rfl, hb⟩ := hrel
      have HB := Lib.hid hb
      have hrd := HR3.out.up hb
      have hq := HQ.out.below hb HQ.out.lt
      clear hb d0 d1 d2 d3 df dlt
      obtain ⟨d0, d1, d2, d3, df, dlt⟩ := Ev.box (x := evZ) hq
      dsimp only [evZ] at d0 d1 d2 d3
      clear hq
      by_cases hlt : k < n
      · obtain ⟨z, hz⟩ : ∃ z, l[k]? = some z := ⟨_, List.getElem?_eq_getElem (by have := HLEN.out; omega)⟩
        have hzk := HALL.out z (List.mem_of_getElem? hz)
        obtain ⟨b, off, hA, hblt⟩ := hrd.form (by omega)
        subst hA
        obtain ⟨c0, c1, c2, c3⟩ := hrd.at_ hz
        have HBB := Lib.hid (HB.out.alloc HB.out.size (.cells #[.int .i64 z.time, .string z.kind, .string z.name, .int .i64 z.value] 31))
        clear hz hrd
        go_wp2_with fail
        go_roundw
        case rel => exact ⟨k + 1, by omega, by go_num, HBB.out⟩
        case measure => simp [intOf]; omega
      · clear hrd
        go_wp2_with fail
        go_ret
        exact ⟨rfl, HB3.out.trans (HB.out.mono HB3.out.size)⟩
  · subst h0
    have HALL := Lib.hid hall
    clear hall
    obtain ⟨d0, d1, d2, d3, df, dlt⟩ := Ev.box (x := x) HQ.out
    go_wp2_with fail
    go_loopw [28] (fun i wr => ∃ k : Nat, k ≤ n ∧ i = .int .i64 k ∧ Below (w2.alloc (.cells #[.int .i64 x.time, .string x.kind, .string x.name, .int .i64 x.value] 31)).heap.size (w2.alloc (.cells #[.int .i64 x.time, .string x.kind, .string x.name, .int .i64 x.value] 31)) wr) (fun i _ => n - (intOf i).toNat)
    case atStart => exact ⟨0, by omega, rfl, Below.refl _ _⟩
    case round =>
      obtain ⟨k, hk, rfl, hb⟩ := hrel
      have HB := Lib.hid hb
      have hrd := HR3.out.up hb
      have hq := HQ.out.below hb HQ.out.lt
      clear hb d0 d1 d2 d3 df dlt
      obtain ⟨d0, d1, d2, d3, df, dlt⟩ := Ev.box (x := x) hq
      clear hq
      by_cases hlt : k < n
      · obtain ⟨z, hz⟩ : ∃ z, l[k]? = some z := ⟨_, List.getElem?_eq_getElem (by have := HLEN.out; omega)⟩
        have hzk := HALL.out z (List.mem_of_getElem? hz)
        obtain ⟨b, off, hA, hblt⟩ := hrd.form (by omega)
        subst hA
        obtain ⟨c0, c1, c2, c3⟩ := hrd.at_ hz
        have HBB := Lib.hid (HB.out.alloc HB.out.size (.cells #[.int .i64 z.time, .string z.kind, .string z.name, .int .i64 z.value] 31))
        have hne : w2.heap.size ≠ wr.heap.size := by omega
        clear hz hrd
        cases hp : sEq z.kind s with
        | true =>
          have hle := hzk hp
          have hlb : decide (z.time < x.time) = false := by simp; omega
          clear hzk hle
          go_wp2_with fail
          go_roundw
          case rel => exact ⟨k + 1, by omega, by go_num, HBB.out⟩
          case measure => simp [intOf]; omega
        | false =>
          clear hzk
          go_wp2_with fail
          go_roundw
          case rel => exact ⟨k + 1, by omega, by go_num, HBB.out⟩
          case measure => simp [intOf]; omega
      · clear hrd
        go_wp2_with fail
        go_ret
        exact ⟨rfl, HB3.out.trans (HB.out.mono HB3.out.size)⟩
end Go.Proofs.YtmmkkkakbbidjaaDoor
