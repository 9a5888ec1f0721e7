/- Automatic reclosing: the law RecloseSteps. -/
import Derived.Test.YtkmhemcnpbhdfaaRcA
import Derived.Test.YtkmhemcnpbhdfaaRc9
import Derived.Test.YtkmhemcnpbhdfaaRc5
namespace Go.Proofs.Ytkmhemcnpbhdfaa
open Go.ChangeShapes Go.WideShapes Go.ChangeAt Go.RowKit
set_option linter.unusedVariables false
attribute [local go_sem ↓] execOp_call_val
attribute [local go_sem] callVal_func setCell_drewN alloc_drewN

theorem RdI.take {w : World} {B n m : Nat} {A : Option Addr} {zs : List Int} (h : RdI w B A n zs) (hm : m ≤ n) : RdI w B A m (zs.take m) := by
  have hl := h.len
  refine ⟨by simp [ints]; omega, fun h0 => ?_⟩
  obtain ⟨b, off, e, hlt, hc⟩ := h.2 (by omega)
  refine ⟨b, off, e, hlt, fun j u hu => hc j u ?_⟩
  simp only [ints, List.map_take] at hu ⊢
  rw [List.getElem?_take] at hu
  split at hu
  · exact hu
  · cases hu

set_option maxRecDepth 100000 in
set_option maxHeartbeats 4000000 in
theorem steps_any (A : Option Addr) (n c : Nat) (dead : List Int) (reclaim : Int) (T : Option Addr) (m d : Nat) (trips0 : List Int) (w : World) (hr : RdI w w.heap.size A n dead) (hn : n ≤ 9223372036854775807) (ht0 : RdI w w.heap.size T m trips0) (hm : m ≤ 9223372036854775807) (hmd : m ≤ d) :
    Calls Try.prog 7 #[.agg #[.slice A n c, .int .i64 reclaim], .slice T m d] w fun e w' => e = .returned (.bool true) ∧ Below w.heap.size w w' := by
  have K0 : Below w.heap.size w (w.alloc (.cells #[.slice A n c, .int .i64 reclaim] 41)) := (Below.refl _ _).alloc (Nat.le_refl _) _
  have HK0 := Lib.hid K0
  have HT0 := Lib.hid ht0
  clear K0 ht0
  by_cases hm12 : m ≤ 12
  · go_enter Try.func7, Try.ntmps7
    go_wp2_with fail
    have hT := HT0.out.take (m := m) (by omega)
    generalize trips0.take m = trips at hT
    have hlt := Lib.hid hT.len
    have HT := Lib.hid hT
    have hS := steps_law dead reclaim trips (by have := hlt.out; omega)
    generalize hSS : shotsR dead reclaim trips = S at hS
    obtain ⟨l, locked, ee⟩ := S
    have HSS := Lib.hid hSS
    have HS := Lib.hid hS
    clear hT hS hSS
    refine (rworks_any _).mono ?_
    rintro e w1 ⟨rfl, k1⟩
    have hQ : Blk w1 w.heap.size 41 #[.slice A n c, .int .i64 reclaim] := (Blk.new_ rfl).below k1 (by simp)
    obtain ⟨c0, c1, cf, hlt1⟩ := rule_facts hQ
    have HQ := Lib.hid hQ
    have HK1 := Lib.hid (HK0.out.trans (k1.mono HK0.out.size))
    clear hQ k1
    go_wp2_with fail
    refine (shots_all _ n c dead reclaim T m d trips _ ((hr.below HK1.out (Nat.le_refl _)).more HK1.out.size) hn ((RdI.below HT.out HK1.out (Nat.le_refl _)).more HK1.out.size) (by omega)).mono ?_
    rw [HSS.out]
    rintro e w2 ⟨⟨v, rfl, A3, n3, c3, rfl, hn3, ho3⟩, k2⟩
    have hQ : Blk w2 w.heap.size 41 #[.slice A n c, .int .i64 reclaim] := HQ.out.below k2 hlt1
    have HK2 := Lib.hid (HK1.out.trans (k2.mono HK1.out.size))
    have HQ2 := Lib.hid hQ
    have HO := Lib.hid ho3
    have HL3 := Lib.hid ho3.len
    clear hQ k2 ho3 c0 c1 cf
    have hsz2 := HK2.out.size
    by_cases he : ee = 0
    · have hlo := HS.out.lo he
      have hfin := HS.out.fin he
      have HST := Lib.hid (HS.out.st he)
      dsimp only at hlo hfin
      obtain ⟨hlo1, hlo2, hlo3⟩ := hlo
      rw [hlt.out] at hlo2 hlo3 hfin
      have hl3 := HL3.out
      rw [hl3] at hlo3 hfin
      subst he
      have HF := Lib.hid hfin
      clear hfin hl3
      have e1 : decide (locked < 0) = false := by simp; omega
      have e2 : decide ((m : Int) < locked) = false := by simp; omega
      have e3 : decide ((m : Int) < (n3 : Int)) = false := by simp; omega
      have e3' : decide (m < n3) = false := by simp; omega
      go_wp2_with fail
      have hck : ckR dead reclaim = 0 := by
        rcases Decidable.em (ckR dead reclaim = 0) with h | h
        · exact h
        · have h2 := HSS.out
          unfold shotsR at h2
          rw [if_pos h] at h2
          simp only [Prod.mk.injEq] at h2
          exact h2.2.2
      obtain ⟨q1, q2, q3, q4, q5⟩ := ckR_ok hck
      have HD3 := Lib.hid q3
      clear hck q3 q1 q2
      have hnl := Lib.hid hr.len
      go_loopw [8, 9, 50] (fun _ _ i wr => ∃ k nq : Nat, k ≤ n3 ∧ i = .int .i64 k ∧ wr = w2.drewN nq) (fun _ _ i _ => n3 - (intOf i).toNat)
      case atStart => exact ⟨0, 0, by omega, rfl, rfl⟩
      case round =>
        obtain ⟨k, nq, hk, rfl, rfl⟩ := hrel
        by_cases hltk : k < n3
        · obtain ⟨t, htk⟩ : ∃ t, l[k]? = some t := ⟨_, List.getElem?_eq_getElem (by have := HL3.out; omega)⟩
          obtain ⟨s, dd, hsk, hts, hdd, hs0, hs1⟩ := HST.out k t htk
          obtain ⟨hd1, hd2⟩ := HD3.out dd hdd
          have HDD := Lib.hid hdd
          obtain ⟨b3, o3, rfl, hb3, _⟩ := HO.out.2 (by omega)
          obtain ⟨bt, ot, rfl, hbt, _⟩ := HT.out.2 (by omega)
          have hcl : w2.cell? ⟨b3, o3 + k, none⟩ = some (.int .i64 t) := HO.out.at_ htk
          have hct : w2.cell? ⟨bt, ot + k, none⟩ = some (.int .i64 s) := (RdI.below HT.out HK2.out (Nat.le_refl _)).at_ hsk
          obtain ⟨c0, c1, cf, hlt2⟩ := rule_facts HQ2.out
          have hkI : (0 : Int) ≤ (k : Int) := by omega
          have hkI2 : (k : Int) < (m : Int) := by omega
          have hkI3 : k < m := by omega
          have hbt2 : bt < w2.heap.size := by omega
          have hw1 : IntKind.i64.wrap (t - s) = t - s := IntWalk.i64_in _ (by omega)
          have hg1 : decide (t - s < 1) = false := by simp; omega
          have HE : Hid (t - s = dd) := Lib.hid (by omega)
          clear hts
          have HRD := Lib.hid ((hr.below HK2.out (Nat.le_refl _)).more HK2.out.size)
          have HA : Hid (dead.any (fun x => x == dd) = true) := Lib.hid (by rw [List.any_eq_true]; exact ⟨dd, HDD.out, by simp⟩)
          have HHI : Hid (∀ N, Calls Try.prog 27 #[.slice A n c, .int .i64 (t - s)] (w2.drewN N) fun e w' => e = .returned (.bool true) ∧ w' = w2.drewN N) :=
            Lib.hid fun N => by
              have h0 : RdI (w2.drewN N) (w2.drewN N).heap.size A n dead := HRD.out.below (below_drewN (Below.refl w2.heap.size w2) N) (Nat.le_refl _)
              exact (hasInt_any A n c dead (t - s) _ h0 hn).mono fun _ _ ⟨he, hw⟩ => ⟨by rw [he, HE.out, HA.out], hw.symm⟩
          clear htk hsk hdd
          go_wp2_with fail
          go_quiet ((go_at_call 27; exact (HHI.out _).mono fun _ _ hh => ⟨hh.1, _, hh.2⟩))
          go_wp2_with fail
          go_roundw
          case rel => exact ⟨k + 1, _, by omega, by go_num, rfl⟩
          case measure => simp [intOf]; omega
        · have hkn : k = n3 := by omega
          subst hkn
          have hKf := Lib.hid (below_drewN HK2.out nq)
          obtain ⟨c0, c1, cf, hlt2⟩ := rule_facts HQ2.out
          rcases HF.out with ⟨h1, h2 | h2⟩ | ⟨h1, h2, h3⟩
          · subst h1
            have g1 : ((k : Int) == (m : Int)) = true := by simp; omega
            clear h2
            go_wp2_with fail
            go_ret
            exact ⟨rfl, hKf.out⟩
          · subst h1
            have g1 : ((k : Int) == (m : Int)) = false := by simp; omega
            have g2 : ((k : Int) + 1 == (m : Int)) = true := by simp; omega
            clear h2
            go_wp2_with fail
            go_ret
            exact ⟨rfl, hKf.out⟩
          · have g0 : (locked == 0) = false := by simpa using h1
            have g1 : (locked == (k : Int) + 1) = true := by simpa using h2
            have hge : n ≤ k := by have := hnl.out; omega
            have g3 : decide (n ≤ k) = true := by simpa using hge
            have g4 : decide ((n : Int) ≤ (k : Int)) = true := by simp; omega
            clear h1 h2 h3
            go_wp2_with fail
            go_ret
            exact ⟨rfl, hKf.out⟩
    · have hb := HS.out.bad he
      dsimp only at hb
      obtain ⟨rfl, rfl⟩ := hb
      have hn0 : n3 = 0 := by have := HL3.out; simp at this; omega
      subst hn0
      have heb : (ee != 0) = true := by simpa using he
      have HE := Lib.hid he
      clear he
      go_wp2_with fail
      go_ret
      exact ⟨rfl, HK2.out⟩
  · go_enter Try.func7, Try.ntmps7
    go_wp2_with fail
    have hT := HT0.out.take (m := 12) (by omega)
    generalize trips0.take 12 = trips at hT
    have hlt := Lib.hid hT.len
    have HT := Lib.hid hT
    have hS := steps_law dead reclaim trips (by have := hlt.out; omega)
    generalize hSS : shotsR dead reclaim trips = S at hS
    obtain ⟨l, locked, ee⟩ := S
    have HSS := Lib.hid hSS
    have HS := Lib.hid hS
    clear hT hS hSS
    refine (rworks_any _).mono ?_
    rintro e w1 ⟨rfl, k1⟩
    have hQ : Blk w1 w.heap.size 41 #[.slice A n c, .int .i64 reclaim] := (Blk.new_ rfl).below k1 (by simp)
    obtain ⟨c0, c1, cf, hlt1⟩ := rule_facts hQ
    have HQ := Lib.hid hQ
    have HK1 := Lib.hid (HK0.out.trans (k1.mono HK0.out.size))
    clear hQ k1
    go_wp2_with fail
    refine (shots_all _ n c dead reclaim T 12 d trips _ ((hr.below HK1.out (Nat.le_refl _)).more HK1.out.size) hn ((RdI.below HT.out HK1.out (Nat.le_refl _)).more HK1.out.size) (by omega)).mono ?_
    rw [HSS.out]
    rintro e w2 ⟨⟨v, rfl, A3, n3, c3, rfl, hn3, ho3⟩, k2⟩
    have hQ : Blk w2 w.heap.size 41 #[.slice A n c, .int .i64 reclaim] := HQ.out.below k2 hlt1
    have HK2 := Lib.hid (HK1.out.trans (k2.mono HK1.out.size))
    have HQ2 := Lib.hid hQ
    have HO := Lib.hid ho3
    have HL3 := Lib.hid ho3.len
    clear hQ k2 ho3 c0 c1 cf
    have hsz2 := HK2.out.size
    by_cases he : ee = 0
    · have hlo := HS.out.lo he
      have hfin := HS.out.fin he
      have HST := Lib.hid (HS.out.st he)
      dsimp only at hlo hfin
      obtain ⟨hlo1, hlo2, hlo3⟩ := hlo
      rw [hlt.out] at hlo2 hlo3 hfin
      have hl3 := HL3.out
      rw [hl3] at hlo3 hfin
      subst he
      have HF := Lib.hid hfin
      clear hfin hl3
      have e1 : decide (locked < 0) = false := by simp; omega
      have e2 : decide ((12 : Int) < locked) = false := by simp; omega
      have e3 : decide ((12 : Int) < (n3 : Int)) = false := by simp; omega
      have e3' : decide (12 < n3) = false := by simp; omega
      go_wp2_with fail
      have hck : ckR dead reclaim = 0 := by
        rcases Decidable.em (ckR dead reclaim = 0) with h | h
        · exact h
        · have h2 := HSS.out
          unfold shotsR at h2
          rw [if_pos h] at h2
          simp only [Prod.mk.injEq] at h2
          exact h2.2.2
      obtain ⟨q1, q2, q3, q4, q5⟩ := ckR_ok hck
      have HD3 := Lib.hid q3
      clear hck q3 q1 q2
      have hnl := Lib.hid hr.len
      go_loopw [8, 9, 50] (fun _ _ i wr => ∃ k nq : Nat, k ≤ n3 ∧ i = .int .i64 k ∧ wr = w2.drewN nq) (fun _ _ i _ => n3 - (intOf i).toNat)
      case atStart => exact ⟨0, 0, by omega, rfl, rfl⟩
      case round =>
        obtain ⟨k, nq, hk, rfl, rfl⟩ := hrel
        by_cases hltk : k < n3
        · obtain ⟨t, htk⟩ : ∃ t, l[k]? = some t := ⟨_, List.getElem?_eq_getElem (by have := HL3.out; omega)⟩
          obtain ⟨s, dd, hsk, hts, hdd, hs0, hs1⟩ := HST.out k t htk
          obtain ⟨hd1, hd2⟩ := HD3.out dd hdd
          have HDD := Lib.hid hdd
          obtain ⟨b3, o3, rfl, hb3, _⟩ := HO.out.2 (by omega)
          obtain ⟨bt, ot, rfl, hbt, _⟩ := HT.out.2 (by omega)
          have hcl : w2.cell? ⟨b3, o3 + k, none⟩ = some (.int .i64 t) := HO.out.at_ htk
          have hct : w2.cell? ⟨bt, ot + k, none⟩ = some (.int .i64 s) := (RdI.below HT.out HK2.out (Nat.le_refl _)).at_ hsk
          obtain ⟨c0, c1, cf, hlt2⟩ := rule_facts HQ2.out
          have hkI : (0 : Int) ≤ (k : Int) := by omega
          have hkI2 : (k : Int) < (12 : Int) := by omega
          have hkI3 : k < 12 := by omega
          have hbt2 : bt < w2.heap.size := by omega
          have hw1 : IntKind.i64.wrap (t - s) = t - s := IntWalk.i64_in _ (by omega)
          have hg1 : decide (t - s < 1) = false := by simp; omega
          have HE : Hid (t - s = dd) := Lib.hid (by omega)
          clear hts
          have HRD := Lib.hid ((hr.below HK2.out (Nat.le_refl _)).more HK2.out.size)
          have HA : Hid (dead.any (fun x => x == dd) = true) := Lib.hid (by rw [List.any_eq_true]; exact ⟨dd, HDD.out, by simp⟩)
          have HHI : Hid (∀ N, Calls Try.prog 27 #[.slice A n c, .int .i64 (t - s)] (w2.drewN N) fun e w' => e = .returned (.bool true) ∧ w' = w2.drewN N) :=
            Lib.hid fun N => by
              have h0 : RdI (w2.drewN N) (w2.drewN N).heap.size A n dead := HRD.out.below (below_drewN (Below.refl w2.heap.size w2) N) (Nat.le_refl _)
              exact (hasInt_any A n c dead (t - s) _ h0 hn).mono fun _ _ ⟨he, hw⟩ => ⟨by rw [he, HE.out, HA.out], hw.symm⟩
          clear htk hsk hdd
          go_wp2_with fail
          go_quiet ((go_at_call 27; exact (HHI.out _).mono fun _ _ hh => ⟨hh.1, _, hh.2⟩))
          go_wp2_with fail
          go_roundw
          case rel => exact ⟨k + 1, _, by omega, by go_num, rfl⟩
          case measure => simp [intOf]; omega
        · have hkn : k = n3 := by omega
          subst hkn
          have hKf := Lib.hid (below_drewN HK2.out nq)
          obtain ⟨c0, c1, cf, hlt2⟩ := rule_facts HQ2.out
          rcases HF.out with ⟨h1, h2 | h2⟩ | ⟨h1, h2, h3⟩
          · subst h1
            have g1 : ((k : Int) == (12 : Int)) = true := by simp; omega
            clear h2
            go_wp2_with fail
            go_ret
            exact ⟨rfl, hKf.out⟩
          · subst h1
            have g1 : ((k : Int) == (12 : Int)) = false := by simp; omega
            have g2 : ((k : Int) + 1 == (12 : Int)) = true := by simp; omega
            clear h2
            go_wp2_with fail
            go_ret
            exact ⟨rfl, hKf.out⟩
          · have g0 : (locked == 0) = false := by simpa using h1
            have g1 : (locked == (k : Int) + 1) = true := by simpa using h2
            have hge : n ≤ k := by have := hnl.out; omega
            have g3 : decide (n ≤ k) = true := by simpa using hge
            have g4 : decide ((n : Int) ≤ (k : Int)) = true := by simp; omega
            clear h1 h2 h3
            go_wp2_with fail
            go_ret
            exact ⟨rfl, hKf.out⟩
    · have hb := HS.out.bad he
      dsimp only at hb
      obtain ⟨rfl, rfl⟩ := hb
      have hn0 : n3 = 0 := by have := HL3.out; simp at this; omega
      subst hn0
      have heb : (ee != 0) = true := by simpa using he
      have HE := Lib.hid he
      clear he
      go_wp2_with fail
      go_ret
      exact ⟨rfl, HK2.out⟩
end Go.Proofs.Ytkmhemcnpbhdfaa
