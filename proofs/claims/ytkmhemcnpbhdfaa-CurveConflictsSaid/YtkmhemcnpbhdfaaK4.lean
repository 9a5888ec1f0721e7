/- The time of a characteristic at a current at which it operates. -/
import Derived.Test.YtkmhemcnpbhdfaaK3
import Derived.RegionTactic
import Derived.BigRegion
namespace Go.Proofs.Ytkmhemcnpbhdfaa
open Go.ChangeShapes Go.WideShapes Go.ChangeAt Go.RowKit
set_option linter.unusedVariables false
attribute [local go_sem ↓] execOp_call_val
attribute [local go_sem] callVal_func setCell_drewN alloc_drewN

theorem below_drew {B : Nat} {a w : World} (h : Below B a w) : Below B a w.drew := ⟨h.os, h.tape, h.output, h.size, h.block⟩

set_option maxHeartbeats 4000000 in
theorem tm_some (b off n c : Nat) (ps : List (Int × Int)) (pk cur : Int) (a : Int × Int) (r : List (Int × Int)) (w : World) (hr : RdP w w.heap.size (some ⟨b, off, none⟩) n ps) (hg : Good ps) (p1 : 1 ≤ pk) (p2 : pk ≤ 1000000) (c1 : 0 ≤ cur) (c2 : cur ≤ 1000000)
    (hps : ps = a :: r) (hx : a.1 * pk ≤ 100 * cur) :
    Calls Try.prog 50 #[.slice (some ⟨b, off, none⟩) n c, .int .i64 pk, .int .i64 cur] w fun e w' => e = .returned (.tuple #[.int .i64 (tmGo pk (100 * cur) a r), .bool true]) ∧ Below w.heap.size w w' := by
  have hlen := hr.len
  have hgl := hg.len
  have hp : ps[0]? = some a := by rw [hps]; rfl
  obtain ⟨c0, _⟩ := hr.at_ hp
  have hb := hg.get hp
  obtain ⟨hb1, hb2, hb3, hb4⟩ := hb
  simp only [Nat.zero_mul, Nat.add_zero] at c0
  have hm1 : 0 ≤ a.1 * pk := Int.mul_nonneg (by omega) (by omega)
  have hm2 : a.1 * pk ≤ 10000 * 1000000 := Int.mul_le_mul (by omega) p2 (by omega) (by omega)
  have hln : 0 < n := by omega
  have hst : Hid (tmGo pk (100 * cur) a r = tmGo pk (100 * cur) a (ps.drop 1)) := Lib.hid (by rw [hps]; rfl)
  have HP := Lib.hid hp
  have HPS := Lib.hid hps
  clear hp hps
  go_enter Try.func50, Try.ntmps50
  go_wp2
  go_loopw [8, 9, 10] (fun i _ _ wr => ∃ (k : Nat) (q : Int × Int), 1 ≤ k ∧ k ≤ n ∧ i = .int .i64 k ∧ Below w.heap.size w wr ∧ ps[k - 1]? = some q ∧ q.1 * pk ≤ 100 * cur ∧ tmGo pk (100 * cur) a r = tmGo pk (100 * cur) q (ps.drop k)) (fun i _ _ _ => n - (intOf i).toNat)
  case atStart => exact ⟨1, a, by omega, by omega, rfl, Below.refl _ _, HP.out, hx, hst.out⟩
  case round =>
    obtain ⟨k, q, hk1, hk2, rfl, K, hq, hqx, heq⟩ := hrel
    have HEQ := Lib.hid heq
    have hqb := hg.get hq
    obtain ⟨hq1, hq2, hq3, hq4⟩ := hqb
    have hm3 : 0 ≤ q.1 * pk := Int.mul_nonneg (by omega) (by omega)
    have hm4 : q.1 * pk ≤ 10000 * 1000000 := Int.mul_le_mul (by omega) p2 (by omega) (by omega)
    obtain ⟨d0, d1⟩ := (hr.below K (Nat.le_refl _)).at_ hq
    have HQ := Lib.hid hq
    clear heq hq
    have hkN : 0 < k := by omega
    have hkI : (1 : Int) ≤ (k : Int) := by omega
    have hs1 : IntKind.i64.wrap ((k : Int) - 1) = (k : Int) - 1 := IntWalk.i64_in _ (by omega)
    have hs3 : ((k : Int) - 1).toNat = k - 1 := by omega
    have hs4 : (k : Int) - 1 < (n : Int) := by omega
    have hbl : b < wr.heap.size := by
      obtain ⟨b', off', e, hlt', _⟩ := hr.2 (by omega)
      injection e with e
      injection e with e1 e2
      have := K.size
      omega
    by_cases hlt : k < n
    · obtain ⟨p, hp⟩ : ∃ p, ps[k]? = some p := ⟨_, List.getElem?_eq_getElem (by omega)⟩
      obtain ⟨e0, e1⟩ := (hr.below K (Nat.le_refl _)).at_ hp
      have hpb := hg.get hp
      obtain ⟨hp1, hp2, hp3, hp4⟩ := hpb
      have hm5 : 0 ≤ p.1 * pk := Int.mul_nonneg (by omega) (by omega)
      have hm6 : p.1 * pk ≤ 10000 * 1000000 := Int.mul_le_mul (by omega) p2 (by omega) (by omega)
      have hnx := hg.next_ (i := k - 1) HQ.out (by rw [show k - 1 + 1 = k from by omega]; exact hp)
      obtain ⟨hn1, hn2⟩ := hnx
      have HP2 := Lib.hid hp
      clear hp
      have hdrop : ps.drop k = p :: ps.drop (k + 1) := by
        obtain ⟨hl, he⟩ := List.getElem?_eq_some_iff.1 HP2.out
        rw [List.drop_eq_getElem_cons hl, he]
      have HDR := Lib.hid hdrop
      clear hdrop
      by_cases hle : 100 * cur ≤ p.1 * pk
      · have hD : 0 < pk * (p.1 - q.1) := Int.mul_pos (by omega) (by omega)
        have hD2 : pk * (p.1 - q.1) ≤ 1000000 * 10000 := Int.mul_le_mul p2 (by omega) (by omega) (by omega)
        have hN : 0 ≤ (q.2 - p.2) * (100 * cur - q.1 * pk) := Int.mul_nonneg (by omega) (by omega)
        have hN2 : (q.2 - p.2) * (100 * cur - q.1 * pk) ≤ 3600000 * 100000000 := Int.mul_le_mul (by omega) (by omega) (by omega) (by omega)
        have hQ := (mid_bd hn1 hn2 p1 hqx hle)
        unfold mid at hQ
        obtain ⟨hQ1, hQ2⟩ := hQ
        have w1 : IntKind.i64.wrap (q.2 - p.2) = q.2 - p.2 := IntWalk.i64_in _ (by omega)
        have w2 : IntKind.i64.wrap (100 * cur) = 100 * cur := IntWalk.i64_in _ (by omega)
        have w3 : IntKind.i64.wrap (q.1 * pk) = q.1 * pk := IntWalk.i64_in _ (by omega)
        have w4 : IntKind.i64.wrap (100 * cur - q.1 * pk) = 100 * cur - q.1 * pk := IntWalk.i64_in _ (by omega)
        have w5 : IntKind.i64.wrap ((q.2 - p.2) * (100 * cur - q.1 * pk)) = (q.2 - p.2) * (100 * cur - q.1 * pk) := IntWalk.i64_in _ (by omega)
        have w6 : IntKind.i64.wrap (p.1 - q.1) = p.1 - q.1 := IntWalk.i64_in _ (by omega)
        have w7 : IntKind.i64.wrap (pk * (p.1 - q.1)) = pk * (p.1 - q.1) := IntWalk.i64_in _ (by omega)
        have w8 : ((q.2 - p.2) * (100 * cur - q.1 * pk)).tdiv (pk * (p.1 - q.1)) = (q.2 - p.2) * (100 * cur - q.1 * pk) / (pk * (p.1 - q.1)) := Int.tdiv_eq_ediv_of_nonneg hN
        have w9 : IntKind.i64.wrap ((q.2 - p.2) * (100 * cur - q.1 * pk) / (pk * (p.1 - q.1))) = (q.2 - p.2) * (100 * cur - q.1 * pk) / (pk * (p.1 - q.1)) := IntWalk.i64_in _ (by omega)
        have w10 : IntKind.i64.wrap (q.2 - (q.2 - p.2) * (100 * cur - q.1 * pk) / (pk * (p.1 - q.1))) = q.2 - (q.2 - p.2) * (100 * cur - q.1 * pk) / (pk * (p.1 - q.1)) := IntWalk.i64_in _ (by omega)
        have hDz : ¬ pk * (p.1 - q.1) = 0 := by omega
        have hDz' : (pk * (p.1 - q.1) == 0) = false := by simpa using hDz
        go_wp2
        go_region
        all_goals go_wp2
        all_goals go_quiet (fail)
        all_goals go_wp2
        all_goals go_ret2
        all_goals
          refine ⟨?_, below_drewN (below_drew ((K.alloc K.size _).alloc (by simp; have := K.size; omega) _)) _⟩
          rw [HEQ.out, HDR.out]
          simp only [tmGo, if_pos hle, mid]
          rfl
      · go_wp2
        go_region
        all_goals go_wp2
        all_goals go_roundw
        case rel =>
          refine ⟨k + 1, p, by omega, by omega, by go_num, below_drew ((K.alloc K.size _).alloc (by simp; have := K.size; omega) _), HP2.out, by omega, ?_⟩
          rw [HEQ.out, HDR.out]
          simp only [tmGo, if_neg (show ¬ 100 * cur ≤ p.1 * pk by omega)]
        case measure => simp [intOf]; omega
        case rel =>
          refine ⟨k + 1, p, by omega, by omega, by go_num, below_drew ((K.alloc K.size _).alloc (by simp; have := K.size; omega) _), HP2.out, by omega, ?_⟩
          rw [HEQ.out, HDR.out]
          simp only [tmGo, if_neg (show ¬ 100 * cur ≤ p.1 * pk by omega)]
        case measure => simp [intOf]; omega
    · have hkn : k = n := by omega
      subst hkn
      have hdrop : ps.drop k = [] := by rw [List.drop_eq_nil_iff]; omega
      have HDR := Lib.hid hdrop
      clear hdrop
      go_wp2
      go_ret2
      refine ⟨?_, K⟩
      rw [HEQ.out, HDR.out]
      rfl
end Go.Proofs.Ytkmhemcnpbhdfaa
