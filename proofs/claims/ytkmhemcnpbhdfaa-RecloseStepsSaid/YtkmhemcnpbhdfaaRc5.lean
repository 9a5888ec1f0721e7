/- Automatic reclosing: the fixed example. -/
import Derived.Test.YtkmhemcnpbhdfaaRc4
namespace Go.Proofs.Ytkmhemcnpbhdfaa
open Go.ChangeShapes Go.WideShapes Go.ChangeAt Go.RowKit
set_option linter.unusedVariables false
attribute [local go_sem ↓] execOp_call_val
attribute [local go_sem] callVal_func setCell_drewN alloc_drewN

theorem rdI_lit {w : World} {B g : Nat} {T : TypeId} {zs : List Int} (h : Blk w g T (ints zs).toArray) (hg : g < B) : RdI w B (some ⟨g, 0, none⟩) zs.length zs :=
  ⟨by simp [ints], fun _ => ⟨g, 0, rfl, hg, fun j u hu => by
    rw [show (⟨g, 0 + j, none⟩ : Addr) = ⟨g, j, none⟩ from by simp]
    rw [h.cell j]
    simpa using hu⟩⟩

theorem dead_any (w : World) :
    Calls Try.prog 43 #[] w fun e w' => ∃ g c, e = .returned (.agg #[.slice (some ⟨g, 0, none⟩) 2 c, .int .i64 5000]) ∧ RdI w' w'.heap.size (some ⟨g, 0, none⟩) 2 [300, 1000] ∧ Below w.heap.size w w' := by
  go_enter Try.func43, Try.ntmps43
  go_wp2_with fail
  refine bodyPost_ret (v := .agg #[.slice (some ⟨w.heap.size + 1, 0, none⟩) 2 2, .int .i64 5000]) (by simp [results, Try.results43, go_sem]) rfl ⟨w.heap.size + 1, 2, rfl, ?_, ?_⟩
  · exact rdI_lit (zs := [300, 1000]) (Blk.new_ (by simp)) (by simp)
  · exact ((Below.refl _ _).alloc (Nat.le_refl _) _).alloc (by simp) _

def exS : List Int × Int × Int := shotsR [300, 1000] 5000 [0, 400, 2000]
theorem exS_is : exS = ([300, 1400], 3, 0) := by decide
def X0 : Rc := ⟨5000, 0, 0, 0, 0⟩
def X1 : Rc := X0.trip 2 5
def X2 : Rc := X1.tick [300, 1000] 305

set_option maxHeartbeats 4000000 in
theorem rworks_any (w : World) : Calls Try.prog 23 #[] w fun e w' => e = .returned (.bool true) ∧ Below w.heap.size w w' := by
  go_enter Try.func23, Try.ntmps23
  go_wp2_with fail
  refine (dead_any _).mono ?_
  rintro e w1 ⟨g, c, rfl, hr, k1⟩
  have HR := Lib.hid hr
  have HK1 := Lib.hid k1
  clear hr k1
  go_wp2_with fail
  refine (shots_any _ _ _ [300, 1000] 5000 _ _ _ [0, 400, 2000] _ ((HR.out.below ((Below.refl _ _).alloc (Nat.le_refl _) _) (Nat.le_refl _)).more (by simp)) (by omega) (rdI_lit (zs := [0, 400, 2000]) (Blk.new_ rfl) (by simp)) (by simp) (by decide) (by decide)).mono ?_
  rw [show shotsR [300, 1000] 5000 [0, 400, 2000] = ([300, 1400], 3, 0) from exS_is]
  rintro e w2 ⟨⟨v, rfl, A, n, c2, rfl, hn, ho⟩, k2⟩
  have K2 := (HK1.out.alloc HK1.out.size _).trans (k2.mono (by have := HK1.out.size; simp; omega))
  have HO := Lib.hid ho
  have HK2 := Lib.hid K2
  clear ho K2 k2
  go_wp2_with fail
  refine (dead_any _).mono ?_
  rintro e w3 ⟨g3, c3, rfl, hr3, k3⟩
  have HR3 := Lib.hid hr3
  have HO3 := Lib.hid ((HO.out.below k3 (Nat.le_refl _)).more k3.size)
  have HK3 := Lib.hid (HK2.out.trans (k3.mono HK2.out.size))
  clear hr3 k3
  go_wp2_with fail
  refine (rnew_any _ _ _ [300, 1000] 5000 _ HR3.out (by omega) (by decide)).mono ?_
  rintro e w4 ⟨p, g4, cap4, rfl, hp, hD, k4⟩
  have HD4 := Lib.hid hD
  have HO4 := Lib.hid ((HO3.out.below k4 (Nat.le_refl _)).more k4.size)
  have HK4 := Lib.hid (HK3.out.trans (k4.mono HK3.out.size))
  clear hD k4
  go_wp2_with fail
  refine (sameInts_any _ _ _ [300, 1400] _ _ _ [300, 1400] _ ((HO4.out.below ((Below.refl _ _).alloc (Nat.le_refl _) _) (Nat.le_refl _)).more (by simp)) (rdI_lit (zs := [300, 1400]) (Blk.new_ rfl) (by simp)) (by omega)).mono ?_
  rw [show sameI [300, 1400] [300, 1400] = true from by decide]
  rintro e w5 ⟨rfl, nq, rfl⟩
  have hD5 : Dev ((w4.alloc (.cells #[.int .i64 300, .int .i64 1400] 3)).drewN nq) p X0 (some ⟨g4, 0, none⟩) 2 cap4 [300, 1000] := HD4.out.below (below_drewN ((Below.refl _ _).alloc (Nat.le_refl _) _) nq)
  have K5 : Below w.heap.size w ((w4.alloc (.cells #[.int .i64 300, .int .i64 1400] 3)).drewN nq) := below_drewN (HK4.out.alloc HK4.out.size _) nq
  have HD5 := Lib.hid hD5
  have HK5 := Lib.hid K5
  have hpw : w.heap.size ≤ p := Nat.le_trans HK3.out.size hp
  clear hD5 K5
  go_wp2_with fail
  refine (rtrip_any p X0 _ 2 cap4 [300, 1000] _ HD5.out 5 (by decide) (by decide) (by decide)).mono ?_
  rw [show tripAct (X0.at_ 5).att ([300, 1000] : List Int).length = 0 from by decide]
  rintro e w6 ⟨rfl, hg6, hD6⟩
  have HD6 := Lib.hid hD6
  have HK6 := Lib.hid (HK5.out.trans (below_dev hpw HK5.out.size hg6))
  clear hg6 hD6
  go_wp2_with fail
  refine (rnext_some p X1 _ 2 cap4 [300, 1000] _ HD6.out (by decide)).mono ?_
  rw [show X1.since + ([300, 1000] : List Int).getD X1.att 0 = 305 from by decide]
  rintro e w7 ⟨rfl, nq7, rfl⟩
  have HD7 := Lib.hid (show Dev (w6.drewN nq7) p X1 _ 2 cap4 [300, 1000] from HD6.out.below (below_drewN (Below.refl _ _) nq7))
  have HK7 := Lib.hid (below_drewN HK6.out nq7)
  go_wp2_with fail
  refine (rtick_any p X1 _ 2 cap4 [300, 1000] _ HD7.out 305 (by decide) (by decide)).mono ?_
  rw [show tickAct (X1.ticks [300, 1000] 305) = 1 from by decide]
  rintro e w8 ⟨rfl, hg8, hD8⟩
  have HK8 := Lib.hid (HK7.out.trans (below_dev hpw HK7.out.size hg8))
  clear hg8 hD8
  go_wp2_with fail
  go_ret
  exact ⟨rfl, HK8.out⟩
end Go.Proofs.Ytkmhemcnpbhdfaa
