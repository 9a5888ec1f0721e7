/- The check of a characteristic. -/
import Derived.Test.YthedpegaelpbdaaB0
import Derived.Test.YthedpegaelpbdaaK1
namespace Go.Proofs.Ythedpegaelpbdaa
open Go.ChangeShapes Go.WideShapes Go.ChangeAt Go.RowKit
set_option linter.unusedVariables false
attribute [local go_sem ↓] execOp_call_val
attribute [local go_sem] callVal_func setCell_drewN alloc_drewN

/-- the cells of points -/
def ptCells (ps : List (Int × Int)) : List Value := ps.flatMap fun p => [.int .i64 p.1, .int .i64 p.2]
theorem ptCells_len (ps : List (Int × Int)) : (ptCells ps).length = ps.length * 2 := by
  unfold ptCells; induction ps with
  | nil => rfl
  | cons a r ih => simp only [List.flatMap_cons, List.length_append, ih, List.length_cons, List.length_nil]; omega
theorem ptCells_at : ∀ (ps : List (Int × Int)) (i : Nat) (p : Int × Int), ps[i]? = some p → (ptCells ps)[i * 2]? = some (.int .i64 p.1) ∧ (ptCells ps)[i * 2 + 1]? = some (.int .i64 p.2)
  | [], i, p, h => by simp at h
  | a :: r, 0, p, h => by
    simp at h; subst h
    exact ⟨rfl, rfl⟩
  | a :: r, i + 1, p, h => by
    have := ptCells_at r i p (by simpa using h)
    have e1 : (i + 1) * 2 = i * 2 + 2 := by omega
    rw [e1]
    exact this

def RdP (w : World) (B : Nat) (A : Option Addr) (n : Nat) (ps : List (Int × Int)) : Prop := Rd w B 2 A n (ptCells ps)
theorem RdP.len {w : World} {B n : Nat} {A : Option Addr} {ps : List (Int × Int)} (h : RdP w B A n ps) : ps.length = n := by
  have := h.1; rw [ptCells_len] at this; omega
theorem RdP.below {w w' : World} {B B' n : Nat} {A : Option Addr} {ps : List (Int × Int)} (h : RdP w B A n ps) (hb : Below B' w w') (hB : B ≤ B') : RdP w' B A n ps := Rd.below h hb hB
theorem RdP.more {w : World} {B B' n : Nat} {A : Option Addr} {ps : List (Int × Int)} (h : RdP w B A n ps) (hB : B ≤ B') : RdP w B' A n ps := Rd.more h hB
theorem RdP.at_ {w : World} {B n : Nat} {b off : Nat} {ps : List (Int × Int)} (h : RdP w B (some ⟨b, off, none⟩) n ps) {i : Nat} {p : Int × Int} (hp : ps[i]? = some p) :
    w.cell? ⟨b, off + i * 2, none⟩ = some (.int .i64 p.1) ∧ w.cell? ⟨b, off + i * 2 + 1, none⟩ = some (.int .i64 p.2) := by
  have hl : i < ps.length := (List.getElem?_eq_some_iff.1 hp).1
  have := h.len
  obtain ⟨b', off', e, _, hc⟩ := h.2 (by omega)
  injection e with e
  injection e with e1 e2
  subst e1; subst e2
  obtain ⟨c1, c2⟩ := ptCells_at ps i p hp
  exact ⟨hc _ _ c1, by have := hc _ _ c2; rwa [← Nat.add_assoc] at this⟩

theorem outN_any (n low high : Int) (w : World) :
    Calls Try.prog 63 #[.int .i64 n, .int .i64 low, .int .i64 high] w fun e w' => e = .returned (.bool (outN n low high)) ∧ w = w' := by
  go_enter Try.func63, Try.ntmps63
  go_wp2
  all_goals
    go_ret
    exact ⟨ret_bool (by simp [outN] <;> omega), rfl⟩

theorem checkC_large (A : Option Addr) (n c : Nat) (w : World) (h : 32 < n) (hm : n ≤ 9223372036854775807) :
    Calls Try.prog 62 #[.slice A n c] w fun e w' => e = .returned (.int .i64 2) ∧ w = w' := by
  go_enter Try.func62, Try.ntmps62
  go_wp2
  go_ret
  exact ⟨rfl, rfl⟩
theorem checkC_few (A : Option Addr) (n c : Nat) (w : World) (h : n < 2) :
    Calls Try.prog 62 #[.slice A n c] w fun e w' => e = .returned (.int .i64 3) ∧ w = w' := by
  go_enter Try.func62, Try.ntmps62
  go_wp2
  go_ret
  exact ⟨rfl, rfl⟩

set_option maxHeartbeats 2000000 in
theorem checkC_walk (b off n c : Nat) (ps : List (Int × Int)) (w : World) (hr : RdP w w.heap.size (some ⟨b, off, none⟩) n ps) (h1 : 2 ≤ n) (h2 : n ≤ 32) :
    Calls Try.prog 62 #[.slice (some ⟨b, off, none⟩) n c] w fun e w' => e = .returned (.int .i64 (ckGo none ps)) ∧ Below w.heap.size w w' := by
  have hlen := hr.len
  go_enter Try.func62, Try.ntmps62
  go_wp2_with fail
  go_loopw [3, 4, 15] (fun _ _ i wr => ∃ k : Nat, k ≤ n ∧ i = .int .i64 k ∧ Below w.heap.size w wr ∧ ckGo none ps = ckGo (if k = 0 then none else ps[k - 1]?) (ps.drop k)) (fun _ _ i _ => n - (intOf i).toNat)
  case atStart => exact ⟨0, by omega, rfl, Below.refl _ _, by simp⟩
  case round =>
    obtain ⟨k, hk, rfl, K, hck⟩ := hrel
    by_cases hlt : k < n
    · obtain ⟨p, hp⟩ : ∃ p, ps[k]? = some p := ⟨_, List.getElem?_eq_getElem (by omega)⟩
      obtain ⟨c0, c1⟩ := (hr.below K (Nat.le_refl _)).at_ hp
      have hdrop : ps.drop k = p :: ps.drop (k + 1) := by
        obtain ⟨hl, he⟩ := List.getElem?_eq_some_iff.1 hp
        rw [List.drop_eq_getElem_cons hl, he]
      rw [hdrop] at hck
      have HCK := Lib.hid hck
      have HP := Lib.hid hp
      clear hck hp hdrop
      by_cases b1 : outN p.1 100 10000 = true
      · go_wp2_with (go_at_call 63; refine (outN_any _ _ _ _).mono ?_; rintro e w' ⟨rfl, rfl⟩)
        go_ret
        refine ⟨ret_int ?_, K.alloc K.size _⟩
        rw [HCK.out]
        simp [ckGo, badPt, b1]
      · have b1' : outN p.1 100 10000 = false := by simpa using b1
        clear b1
        by_cases b2 : outN p.2 0 3600000 = true
        · go_wp2_with (go_at_call 63; refine (outN_any _ _ _ _).mono ?_; rintro e w' ⟨rfl, rfl⟩)
          go_ret
          refine ⟨ret_int ?_, K.alloc K.size _⟩
          rw [HCK.out]
          simp [ckGo, badPt, b2]
        · have b2' : outN p.2 0 3600000 = false := by simpa using b2
          clear b2
          have hbad : Hid (badPt p = false) := Lib.hid (by unfold badPt; rw [b1', b2']; rfl)
          by_cases hk0 : k = 0
          · subst hk0
            simp only [Nat.zero_mul, Nat.add_zero] at c0 c1
            go_wp2_with (go_at_call 63; refine (outN_any _ _ _ _).mono ?_; rintro e w' ⟨rfl, rfl⟩)
            go_quiet (fail)
            go_wp2
            go_roundw
            case rel =>
              refine ⟨0 + 1, by omega, by go_num, below_drewN (K.alloc K.size _) _, ?_⟩
              rw [HCK.out]
              simp [ckGo, hbad.out, HP.out]
            case measure => simp [intOf]; omega
          · obtain ⟨q, hq⟩ : ∃ q, ps[k - 1]? = some q := ⟨_, List.getElem?_eq_getElem (by omega)⟩
            obtain ⟨d0, d1⟩ := (hr.below K (Nat.le_refl _)).at_ hq
            have hk0' : decide ((0 : Int) < (k : Int)) = true := by simp; omega
            have HK0 := Lib.hid hk0
            have HQ := Lib.hid hq
            have hkp : 1 ≤ k := by omega
            have hbl : b < wr.heap.size := by
              obtain ⟨b', off', e, hlt', _⟩ := hr.2 (by omega)
              injection e with e
              injection e with e1 e2
              have := K.size
              omega
            have hkN : 0 < k := by omega
            have hs1 : IntKind.i64.wrap ((k : Int) - 1) = (k : Int) - 1 := IntWalk.i64_in _ (by omega)
            have hs2 : 0 ≤ (k : Int) - 1 := by omega
            have hs3 : ((k : Int) - 1).toNat = k - 1 := by omega
            have hkI : (1 : Int) ≤ (k : Int) := by omega
            have hs4 : (k : Int) - 1 < (n : Int) := by omega
            have hkD : decide (0 < k) = true := by simp; omega
            clear hk0 hq
            have hidx : Hid (∀ o : Option (Int × Int), (if k = 0 then o else ps[k - 1]?) = some q) := Lib.hid (fun o => by rw [if_neg HK0.out, HQ.out])
            by_cases b3 : p.1 ≤ q.1
            · have b3' : decide (p.1 ≤ q.1) = true := by simpa using b3
              go_wp2_with (go_at_call 63; refine (outN_any _ _ _ _).mono ?_; rintro e w' ⟨rfl, rfl⟩)
              go_quiet (fail)
              go_wp2
              go_ret
              refine ⟨ret_int ?_, below_drewN (K.alloc K.size _) _⟩
              rw [HCK.out, hidx.out]
              simp [ckGo, hbad.out, badPair, b3]
            · by_cases b4 : q.2 < p.2
              · go_wp2_with (go_at_call 63; refine (outN_any _ _ _ _).mono ?_; rintro e w' ⟨rfl, rfl⟩)
                go_quiet (fail)
                go_wp2
                go_ret
                refine ⟨ret_int ?_, below_drewN (K.alloc K.size _) _⟩
                rw [HCK.out, hidx.out]
                simp [ckGo, hbad.out, badPair, b4]
              · go_wp2_with (go_at_call 63; refine (outN_any _ _ _ _).mono ?_; rintro e w' ⟨rfl, rfl⟩)
                go_quiet (fail)
                go_wp2
                go_roundw
                case rel =>
                  refine ⟨k + 1, by omega, by go_num, below_drewN (K.alloc K.size _) _, ?_⟩
                  rw [HCK.out, hidx.out]
                  have hbp : badPair q p = false := by simp [badPair]; omega
                  simp [ckGo, hbad.out, hbp, HP.out]
                case measure => simp [intOf]; omega
    · have hkn : k = n := by omega
      have hdrop : ps.drop k = [] := by rw [List.drop_eq_nil_iff]; omega
      rw [hdrop] at hck
      have HCK := Lib.hid hck
      clear hck hdrop
      have HKN := Lib.hid hkn
      clear hkn
      go_wp2
      go_ret
      refine ⟨ret_int ?_, K⟩
      rw [HCK.out]
      simp [ckGo]

theorem checkC_any (A : Option Addr) (n c : Nat) (ps : List (Int × Int)) (w : World) (hr : RdP w w.heap.size A n ps) (hm : n ≤ 9223372036854775807) :
    Calls Try.prog 62 #[.slice A n c] w fun e w' => e = .returned (.int .i64 (ckC ps)) ∧ Below w.heap.size w w' := by
  have hlen := hr.len
  unfold ckC
  rw [hlen]
  by_cases h1 : 32 < n
  · rw [if_pos h1]
    exact (checkC_large A n c w h1 hm).mono fun _ _ ⟨he, hw⟩ => ⟨he, hw ▸ Below.refl _ _⟩
  · rw [if_neg h1]
    by_cases h2 : n < 2
    · rw [if_pos h2]
      exact (checkC_few A n c w h2).mono fun _ _ ⟨he, hw⟩ => ⟨he, hw ▸ Below.refl _ _⟩
    · rw [if_neg h2]
      obtain ⟨b, off, rfl, _, _⟩ := hr.2 (by omega)
      exact checkC_walk b off n c ps w hr (by omega) (by omega)
end Go.Proofs.Ythedpegaelpbdaa
