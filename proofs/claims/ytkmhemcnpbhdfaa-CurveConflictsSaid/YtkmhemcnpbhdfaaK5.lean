/- curve.time and curve.Time. -/
import Derived.Test.YtkmhemcnpbhdfaaK4
namespace Go.Proofs.Ytkmhemcnpbhdfaa
open Go.ChangeShapes Go.WideShapes Go.ChangeAt Go.RowKit
set_option linter.unusedVariables false
attribute [local go_sem ↓] execOp_call_val
attribute [local go_sem] callVal_func setCell_drewN alloc_drewN

def tmV (o : Option Int) : Int := match o with | none => 0 | some t => t
def tmB (o : Option Int) : Bool := match o with | none => false | some _ => true

theorem tm_any (A : Option Addr) (n c : Nat) (ps : List (Int × Int)) (pk cur : Int) (w : World) (hr : RdP w w.heap.size A n ps) (hg : Good ps) (p1 : 1 ≤ pk) (p2 : pk ≤ 1000000) (c1 : 0 ≤ cur) (c2 : cur ≤ 1000000) :
    Calls Try.prog 50 #[.slice A n c, .int .i64 pk, .int .i64 cur] w fun e w' => e = .returned (.tuple #[.int .i64 (tmV (tmC pk cur ps)), .bool (tmB (tmC pk cur ps))]) ∧ Below w.heap.size w w' := by
  have hgl := hg.len
  have hlen := hr.len
  obtain ⟨b, off, rfl, _, _⟩ := hr.2 (by omega)
  obtain ⟨a, b2, r, hps, _⟩ := hg
  have hg : Good ps := ⟨a, b2, r, hps, by assumption⟩
  by_cases hx : 100 * cur < a.1 * pk
  · have ht : tmC pk cur ps = none := by rw [hps]; simp only [tmC, if_pos hx]
    rw [ht]
    exact (tm_none b off n c ps pk cur w hr hg p1 p2 c1 c2 ht).mono fun _ _ ⟨he, hw⟩ => ⟨he, hw ▸ Below.refl _ _⟩
  · have ht : tmC pk cur ps = some (tmGo pk (100 * cur) a (b2 :: r)) := by rw [hps]; simp only [tmC, if_neg hx]
    rw [ht]
    exact tm_some b off n c ps pk cur a (b2 :: r) w hr hg p1 p2 c1 c2 hps (by omega)

set_option maxHeartbeats 1000000 in
theorem time_any (A : Option Addr) (n c : Nat) (ps : List (Int × Int)) (pk cur : Int) (w : World) (hr : RdP w w.heap.size A n ps) (hm : n ≤ 9223372036854775807) :
    Calls Try.prog 29 #[.slice A n c, .int .i64 pk, .int .i64 cur] w fun e w' => e = .returned (.tuple #[.int .i64 (timeC ps pk cur).1, .int .i64 (timeC ps pk cur).2]) ∧ Below w.heap.size w w' := by
  by_cases hc : ckC ps = 0
  · have hg := ckC_good.1 hc
    have HC := Lib.hid hc
    clear hc
    by_cases h1 : outN pk 1 1000000 = true
    · have ht : Hid (timeC ps pk cur = (0, 4)) := Lib.hid (by unfold timeC; rw [if_neg (by rw [HC.out]; simp), if_pos (by rw [h1]; rfl)])
      go_enter Try.func29, Try.ntmps29
      go_wp2_with fail
      refine (checkC_any _ _ _ _ _ hr hm).mono ?_
      rw [HC.out]
      rintro e w1 ⟨rfl, hb1⟩
      go_wp2_with fail
      refine (outN_any _ _ _ _).mono ?_
      rintro e w' ⟨rfl, rfl⟩
      go_wp2_with fail
      go_ret2
      exact ⟨by rw [ht.out]; rfl, hb1⟩
    · have h1' : outN pk 1 1000000 = false := by simpa using h1
      by_cases h2 : outN cur 0 1000000 = true
      · have ht : Hid (timeC ps pk cur = (0, 4)) := Lib.hid (by unfold timeC; rw [if_neg (by rw [HC.out]; simp), if_pos (by rw [h2]; simp)])
        go_enter Try.func29, Try.ntmps29
        go_wp2_with fail
        refine (checkC_any _ _ _ _ _ hr hm).mono ?_
        rw [HC.out]
        rintro e w1 ⟨rfl, hb1⟩
        go_wp2_with (go_at_call 49; refine (outN_any _ _ _ _).mono ?_; rintro e w' ⟨rfl, rfl⟩)
        go_ret2
        exact ⟨by rw [ht.out]; rfl, hb1⟩
      · have h2' : outN cur 0 1000000 = false := by simpa using h2
        have hpk : 1 ≤ pk ∧ pk ≤ 1000000 := by unfold outN at h1'; simp at h1'; omega
        have hcu : 0 ≤ cur ∧ cur ≤ 1000000 := by unfold outN at h2'; simp at h2'; omega
        clear h1 h2
        cases hT : tmC pk cur ps with
        | none =>
          have ht : Hid (timeC ps pk cur = (0, 8)) := Lib.hid (by unfold timeC; rw [if_neg (by rw [HC.out]; simp), if_neg (by rw [h1', h2']; simp), hT])
          have HT := Lib.hid hT
          clear hT
          go_enter Try.func29, Try.ntmps29
          go_wp2_with fail
          refine (checkC_any _ _ _ _ _ hr hm).mono ?_
          rw [HC.out]
          rintro e w1 ⟨rfl, hb1⟩
          go_wp2_with (go_at_call 49; refine (outN_any _ _ _ _).mono ?_; rintro e w' ⟨rfl, rfl⟩)
          refine (tm_any A n c ps pk cur _ ((hr.below hb1 (Nat.le_refl _)).more hb1.size) hg hpk.1 hpk.2 hcu.1 hcu.2).mono ?_
          rw [HT.out]
          rintro e w2 ⟨rfl, hb2⟩
          simp only [tmV, tmB]
          go_wp2_with fail
          go_ret2
          exact ⟨by rw [ht.out]; rfl, hb1.trans (hb2.mono hb1.size)⟩
        | some t =>
          have ht : Hid (timeC ps pk cur = (t, 0)) := Lib.hid (by unfold timeC; rw [if_neg (by rw [HC.out]; simp), if_neg (by rw [h1', h2']; simp), hT])
          have HT := Lib.hid hT
          clear hT
          go_enter Try.func29, Try.ntmps29
          go_wp2_with fail
          refine (checkC_any _ _ _ _ _ hr hm).mono ?_
          rw [HC.out]
          rintro e w1 ⟨rfl, hb1⟩
          go_wp2_with (go_at_call 49; refine (outN_any _ _ _ _).mono ?_; rintro e w' ⟨rfl, rfl⟩)
          refine (tm_any A n c ps pk cur _ ((hr.below hb1 (Nat.le_refl _)).more hb1.size) hg hpk.1 hpk.2 hcu.1 hcu.2).mono ?_
          rw [HT.out]
          rintro e w2 ⟨rfl, hb2⟩
          simp only [tmV, tmB]
          go_wp2_with fail
          go_ret2
          exact ⟨by rw [ht.out]; rfl, hb1.trans (hb2.mono hb1.size)⟩
  · have ht : Hid (timeC ps pk cur = (0, ckC ps)) := Lib.hid (by unfold timeC; rw [if_pos hc])
    have hc1 : (ckC ps != 0) = true := by simpa using hc
    clear hc
    go_enter Try.func29, Try.ntmps29
    go_wp2_with fail
    refine (checkC_any _ _ _ _ _ hr hm).mono ?_
    rintro e w1 ⟨rfl, hb1⟩
    go_wp2_with fail
    go_ret2
    exact ⟨by rw [ht.out]; rfl, hb1⟩
end Go.Proofs.Ytkmhemcnpbhdfaa
