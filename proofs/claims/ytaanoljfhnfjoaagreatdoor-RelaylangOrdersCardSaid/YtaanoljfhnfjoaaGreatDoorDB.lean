/- slices.Sort and slices.Compact of an own row of strings. -/
import Derived.Test.YtaanoljfhnfjoaaGreatDoorDA
import Derived.Test.YtaanoljfhnfjoaaGreatDoorSh
namespace Go.Proofs.YtaanoljfhnfjoaaGreatDoor
open Go.ChangeShapes Go.WideShapes Go.ChangeAt Go.RowKit
set_option linter.unusedVariables false
set_option linter.unusedSimpArgs false
attribute [local go_sem ↓] execOp_call_val
attribute [local go_sem] callVal_func setCell_drewN alloc_drewN sEq_walk

open Go.Sort
/-- slices.Sort of an own row -/
theorem sortS_any (base : Nat) (v : Value) (l : List ByteArray) (w : World) (h : w.ownsRow base 9 1 v l.length (strsV l)) (hl : l.length < 4611686018427387904) :
    Calls Tryz.prog 40 #[v] w fun e w' => e = .returned (.tuple #[]) ∧ w'.ownsRow base 9 1 v l.length (strsV (srtS l)) ∧ w.grownBy w' v.ownBlock := by
  by_cases h0 : l.length = 0
  · have hnil : l = [] := List.eq_nil_of_length_eq_zero h0
    subst hnil
    obtain ⟨A, c, rfl, _⟩ := own_rd h
    refine (Tryz.slices_Sort_string_none A c w).mono ?_
    rintro e w1 ⟨rfl, rfl⟩
    exact ⟨rfl, by rw [show srtS [] = [] from List.eq_nil_of_length_eq_zero (srtS_len [])]; exact h, World.grownBy.refl _ _⟩
  · obtain ⟨g, cap, hv, hb, hx⟩ := World.ownsRow.form h (by omega)
    subst hv
    have hH := holdsS h (by omega)
    have hg := (h.lt g rfl).2
    have hc := Tryz.slices_Sort_string g 0 cap (l.map bys) w hH hg (by rw [List.length_map]; exact hl)
    rw [List.length_map] at hc
    refine hc.mono ?_
    rintro e w1 ⟨rfl, q, os, rfl⟩
    refine ⟨rfl, ?_, by simpa [Value.ownBlock] using grown_putRow w g _ q os⟩
    have := own_putRow h ((l.map bys).mergeSort fun x y => decide (x ≤ y)) l.length q os (by simp) (by simp)
    rw [List.take_of_length_le (by simp), map_enc] at this
    exact this
/-- slices.Compact of an own row -/
theorem compactS_any (base : Nat) (v : Value) (l : List ByteArray) (w : World) (h : w.ownsRow base 9 1 v l.length (strsV l)) (hl : l.length ≤ 9223372036854775807) :
    Calls Tryz.prog 41 #[v] w fun e w' => ∃ v', e = .returned v' ∧ w'.ownsRow base 9 1 v' (cmpS l).length (strsV (cmpS l)) ∧ w.grownBy w' v.ownBlock ∧ v'.ownBlock = v.ownBlock := by
  by_cases h0 : l.length = 0
  · have hnil : l = [] := List.eq_nil_of_length_eq_zero h0
    subst hnil
    obtain ⟨A, c, rfl, _⟩ := own_rd h
    refine (Tryz.slices_Compact_string_empty A c w).mono ?_
    rintro e w1 ⟨rfl, rfl⟩
    refine ⟨_, rfl, ?_, World.grownBy.refl _ _, rfl⟩
    rw [show cmpS [] = [] from List.eq_nil_of_length_eq_zero (Nat.le_zero.1 (cmpS_len []))]
    exact h
  · obtain ⟨g, cap, hv, hb, hx⟩ := World.ownsRow.form h (by omega)
    subst hv
    have hcap : l.length ≤ cap := by
      rcases h.2 with ⟨h1, _⟩ | ⟨g', cap', cur, h1, _, _, h4, _⟩
      · cases h1
      · injection h1 with _ _ e3
        omega
    have hH := holdsS h (by omega)
    have hc := Tryz.slices_Compact_string g 0 cap (l.map bys) w hH (by rw [List.length_map]; exact hl) (by rw [List.length_map]; exact hcap)
    rw [List.length_map] at hc
    refine hc.mono ?_
    have hle := cmpS_len l
    have hle2 : (Lib.compact (l.map bys)).length = (cmpS l).length := by unfold cmpS; rw [List.length_map]
    rintro e w1 ⟨rfl, q, rfl⟩
    refine ⟨_, rfl, ?_, by simpa [Value.ownBlock] using grown_putRow w g _ q #[], rfl⟩
    have := own_putRow h (Lib.compact (l.map bys) ++ List.replicate (l.length - (Lib.compact (l.map bys)).length) []) (Lib.compact (l.map bys)).length q #[] (by simp) (by simp; omega)
    rw [List.take_left, map_enc] at this
    unfold cmpS
    rw [List.length_map]
    have hgr : ∀ w : World, grow w #[] = w := fun w => by simp [grow]
    rw [hgr] at this
    exact this
end Go.Proofs.YtaanoljfhnfjoaaGreatDoor
