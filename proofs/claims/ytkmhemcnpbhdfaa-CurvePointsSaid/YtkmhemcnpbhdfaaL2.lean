/- CurvePoints: the plain law and the walk. -/
import Derived.Test.YtkmhemcnpbhdfaaKA
namespace Go.Proofs.Ytkmhemcnpbhdfaa
open Go.ChangeShapes Go.WideShapes Go.ChangeAt Go.RowKit
set_option linter.unusedVariables false
attribute [local go_sem ↓] execOp_call_val
attribute [local go_sem] callVal_func setCell_drewN alloc_drewN



theorem chain_le : ∀ {l : List (Int × Int)} {a : Int × Int}, Chain a l → ∀ {i : Nat} {p : Int × Int}, (a :: l)[i]? = some p → a.1 ≤ p.1 ∧ (0 < i → a.1 < p.1)
  | _, a, _, 0, p, h => by simp at h; subst h; exact ⟨Int.le_refl _, fun h => by omega⟩
  | [], a, _, i + 1, p, h => by simp at h
  | b :: r, a, hc, i + 1, p, h => by
    have := chain_le hc.2.2.2.2.2.2 (i := i) (p := p) (by simpa using h)
    have := hc.1
    exact ⟨by omega, fun _ => by omega⟩

theorem tmGo_at {pk : Int} (hp : 1 ≤ pk) : ∀ {l : List (Int × Int)} {a : Int × Int}, Chain a l → ∀ {i : Nat} {p : Int × Int}, (a :: l)[i]? = some p → tmGo pk (p.1 * pk) a l = p.2
  | [], a, _, 0, p, h => by simp at h; subst h; rfl
  | [], a, _, i + 1, p, h => by simp at h
  | b :: r, a, hc, 0, p, h => by
    simp at h
    subst h
    have h1 := hc.1
    have hle : a.1 * pk ≤ b.1 * pk := Int.mul_le_mul_of_nonneg_right (by omega) (by omega)
    simp only [tmGo, if_pos hle, mid]
    simp
  | b :: r, a, hc, i + 1, p, h => by
    have h1 := hc.1
    have h' : (b :: r)[i]? = some p := by simpa using h
    have hle := chain_le hc.2.2.2.2.2.2 h'
    by_cases hi : i = 0
    · subst hi
      simp at h'
      subst h'
      have hD : pk * (b.1 - a.1) ≠ 0 := by
        have : 0 < pk * (b.1 - a.1) := Int.mul_pos (by omega) (by omega)
        omega
      simp only [tmGo, if_pos (Int.le_refl _), mid]
      rw [show b.1 * pk - a.1 * pk = pk * (b.1 - a.1) from by rw [Int.mul_sub, Int.mul_comm pk, Int.mul_comm pk], Int.mul_ediv_cancel _ hD]
      omega
    · have hlt : b.1 * pk < p.1 * pk := Int.mul_lt_mul_of_pos_right (hle.2 (by omega)) (by omega)
      simp only [tmGo, if_neg (show ¬ p.1 * pk ≤ b.1 * pk by omega)]
      exact tmGo_at hp hc.2.2.2.2.2.2 h'

theorem time_at {ps : List (Int × Int)} {pk : Int} (hg : Good ps) (h1 : 1 ≤ pk) (h2 : pk ≤ 100) {i : Nat} {p : Int × Int} (hp : ps[i]? = some p) : timeC ps (100 * pk) (p.1 * pk) = (p.2, 0) := by
  have hb := hg.get hp
  have m0 : 0 ≤ p.1 * pk := Int.mul_nonneg (by omega) (by omega)
  have m1 : p.1 * pk ≤ 10000 * 100 := Int.mul_le_mul (by omega) h2 (by omega) (by omega)
  refine timeC_of hg (by omega) (by omega) m0 (by omega) ?_
  obtain ⟨a, b, r, rfl, _, _, _, _, h5, _⟩ := hg
  have hle := (chain_le h5 hp).1
  have he : 100 * (p.1 * pk) = p.1 * (100 * pk) := by rw [Int.mul_left_comm]
  have hge : a.1 * (100 * pk) ≤ p.1 * (100 * pk) := Int.mul_le_mul_of_nonneg_right hle (by omega)
  simp only [tmC]
  rw [he, if_neg (by omega), tmGo_at (by omega) h5 hp]

set_option maxHeartbeats 2000000 in
theorem points_any (A : Option Addr) (n c : Nat) (ps : List (Int × Int)) (pk k : Int) (w : World) (hr : RdP w w.heap.size A n ps) (hm : n ≤ 9223372036854775807) (hnc : n ≤ c) :
    Calls Try.prog 9 #[.slice A n c, .int .i64 pk, .int .i64 k] w fun e w' => e = .returned (.bool true) ∧ Below w.heap.size w w' := by
  go_enter Try.func9, Try.ntmps9
  go_wp2_with fail
  refine (cworks_any _).mono ?_
  rintro e w1 ⟨rfl, k1⟩
  go_wp2_with fail
  refine (checkC_any _ _ _ _ _ ((hr.below k1 (Nat.le_refl _)).more k1.size) hm).mono ?_
  by_cases hc : ckC ps = 0
  · rw [hc]
    rintro e w2 ⟨rfl, k2⟩
    have K2 := k1.trans (k2.mono k1.size)
    have hg := ckC_good.1 hc
    have hgl := hg.len
    have hlen := hr.len
    by_cases h1 : pk < 1
    · have HC := Lib.hid hc
      clear hc hlen
      go_wp2_with fail
      go_ret
      exact ⟨rfl, K2⟩
    · by_cases h2 : 100 < pk
      · have HC := Lib.hid hc
        clear hc hlen
        go_wp2_with fail
        go_ret
        exact ⟨rfl, K2⟩
      · have hb := tmodB k n (by omega)
        obtain ⟨hb1, hb2⟩ := hb
        have hi0 : 0 ≤ (k.tmod n + n) % n := Int.emod_nonneg _ (by omega)
        have hi1 : (k.tmod n + n) % n < n := Int.emod_lt_of_pos _ (by omega)
        obtain ⟨i, hi⟩ := Int.eq_ofNat_of_zero_le hi0
        have hin : i < n := by omega
        obtain ⟨p, hp⟩ : ∃ p, ps[i]? = some p := ⟨_, List.getElem?_eq_getElem (by omega)⟩
        have hta := Lib.hid (time_at hg (pk := pk) (by omega) (by omega) hp)
        have hpb := hg.get hp
        obtain ⟨hp1, hp2, hp3, hp4⟩ := hpb
        have m0 : 0 ≤ p.1 * pk := Int.mul_nonneg (by omega) (by omega)
        have m1 : p.1 * pk ≤ 10000 * 100 := Int.mul_le_mul (by omega) (by omega) (by omega) (by omega)
        have hn2 : 2 ≤ n := by omega
        have hn3 : n ≤ 32 := by omega
        obtain ⟨b, off, rfl, hblt, _⟩ := hr.2 (by omega)
        obtain ⟨c0, c1⟩ := (hr.below K2 (Nat.le_refl _)).at_ hp
        have HC := Lib.hid hc
        have HL := Lib.hid hlen
        have HP := Lib.hid hp
        clear hc hlen hp hgl hi0 hi1
        go_wp2_with fail
        refine (time_any _ _ _ ps _ _ _ (((hr.below K2 (Nat.le_refl _)).more K2.size).below ((Below.refl _ _).alloc (Nat.le_refl _) _) (Nat.le_refl _) |>.more (by simp)) hm).mono ?_
        rw [hta.out]
        rintro e w3 ⟨rfl, k3⟩
        have hq := (Blk.new _ _ _).below k3 (by simp)
        have q1 : w3.cell? ⟨w2.heap.size, 1, none⟩ = some (.int .i64 p.2) := hq.cell 1
        have K3 := K2.trans (((Below.refl _ _).alloc (Nat.le_refl _) _).trans (k3.mono (by simp)) |>.mono K2.size)
        clear hq
        go_wp2_with fail
        go_ret
        exact ⟨ret_bool (by simp), K3⟩
  · have hc1 : (ckC ps != 0) = true := by simpa using hc
    rintro e w2 ⟨rfl, k2⟩
    have K2 := k1.trans (k2.mono k1.size)
    have HC := Lib.hid hc
    clear hc
    go_wp2_with fail
    go_ret
    exact ⟨rfl, K2⟩
end Go.Proofs.Ytkmhemcnpbhdfaa
