/- Parts of the proof, put together into one file. -/
import Derived.Test.YtakllkkmofdpaaaGreatDoorK01
import Derived.Test.YtakllkkmofdpaaaGreatDoorK07
import Derived.Test.YtakllkkmofdpaaaGreatDoorK09
import Derived.Test.YtakllkkmofdpaaaGreatDoorK10
import Derived.Deep.LoopGhost
import Derived.Deep.CutBlock
/- Natural numbers as texts: nat.Check. -/
namespace Go.Proofs.YtakllkkmofdpaaaGreatDoor
open Go.ChangeShapes Go.WideShapes Go.ChangeAt Go.RowKit
set_option linter.unusedVariables false
set_option linter.unusedSimpArgs false
attribute [local go_sem ↓] execOp_call_val
attribute [local go_sem] callVal_func setCell_drewN alloc_drewN

def dgB (c : UInt8) : Bool := decide (48 ≤ c.toNat ∧ c.toNat ≤ 57)
def natCk (l : List UInt8) : Int := if l.all dgB then (if l = [] ∨ (1 < l.length ∧ l.head? = some 48) then 5 else if 2000 < l.length then 2 else 0) else 5
theorem dgB_all {l : List UInt8} : l.all dgB = true ↔ AllDg l := by
  rw [List.all_eq_true]
  unfold AllDg IsDg dgB
  exact ⟨fun h c hc => by simpa using h c hc, fun h c hc => by simpa using h c hc⟩
theorem natCk_ok {l : List UInt8} : natCk l = 0 ↔ Canon l ∧ l.length ≤ 2000 := by
  unfold natCk Canon
  by_cases h : l.all dgB = true
  · rw [if_pos h]
    have ha := dgB_all.1 h
    by_cases h1 : l = [] ∨ (1 < l.length ∧ l.head? = some 48)
    · rw [if_pos h1]
      refine ⟨fun e => (by cases e), fun ⟨⟨g1, g2, g3⟩, g4⟩ => ?_⟩
      rcases h1 with h1 | ⟨h1, h2⟩
      · exact absurd h1 g1
      · exact absurd h2 (g3 h1)
    · rw [if_neg h1]
      have hn : l ≠ [] := fun e => h1 (.inl e)
      have hz : 1 < l.length → l.head? ≠ some 48 := fun g e => h1 (.inr ⟨g, e⟩)
      by_cases h2 : 2000 < l.length
      · rw [if_pos h2]
        exact ⟨fun e => (by cases e), fun ⟨_, g⟩ => by omega⟩
      · rw [if_neg h2]
        exact ⟨fun _ => ⟨⟨hn, ha, hz⟩, by omega⟩, fun _ => rfl⟩
  · rw [if_neg h]
    exact ⟨fun e => (by cases e), fun ⟨⟨_, g, _⟩, _⟩ => absurd (dgB_all.2 g) h⟩
set_option maxRecDepth 100000 in
set_option maxHeartbeats 4000000 in
theorem natck_any (s : ByteArray) (w : World) (hs : s.size ≤ maxLen) :
    Calls Tryz.prog 129 #[.string s] w fun e w' => e = .returned (.int .i64 (natCk s.data.toList)) ∧ Below w.heap.size w w' := by
  have hcv := fun w => run_bytes_of_string (P := Tryz.prog) w 9 183 5 s Tryz.underlying9 Tryz.underlying183 Tryz.underlying5
  unfold maxLen at hs
  go_enter Tryz.func129, Tryz.ntmps129
  go_wp2_with fail
  clear hcv
  generalize grownCap w s.size 0 5 = cap
  have hcell : ∀ k (h : k < s.data.size), (w.alloc (.cells (bytesRow s cap) 5 ((bytesRow s cap).size, (bytesRow s cap).size + 1))).cell? ⟨w.heap.size, k, none⟩ = some (.int .u8 (s.data[k].toNat : Int)) := fun k h => by
    rw [World.cell?_alloc_mark, bytesRow_at s cap k h]
  have HC := Lib.hid hcell
  have K0 : Below w.heap.size w (w.alloc (.cells (bytesRow s cap) 5 ((bytesRow s cap).size, (bytesRow s cap).size + 1))).drew := below_drew ((Below.refl _ _).alloc (Nat.le_refl _) _)
  have HK := Lib.hid K0
  have hlt0 : w.heap.size < (w.alloc (.cells (bytesRow s cap) 5 ((bytesRow s cap).size, (bytesRow s cap).size + 1))).heap.size := by simp
  clear hcell K0
  generalize (w.alloc (.cells (bytesRow s cap) 5 ((bytesRow s cap).size, (bytesRow s cap).size + 1))) = w1 at *
  go_loop [4, 8] (fun _ i => ∃ k : Nat, k ≤ s.size ∧ i = .int .i64 k ∧ s.data.toList.all dgB = (s.data.toList.drop k).all dgB) (fun _ i => s.size - (intOf i).toNat)
  case atStart => exact ⟨0, by omega, rfl, rfl⟩
  case round =>
    obtain ⟨k, hk, rfl, hgo⟩ := hrel
    have HG := Lib.hid hgo
    clear hgo
    by_cases hlt : k < s.size
    · obtain ⟨n, hn, hn2⟩ : ∃ n : Nat, n < 256 ∧ n = (s.data[k]'hlt).toNat := ⟨_, UInt8.toNat_lt _, rfl⟩
      have hc := HC.out k hlt
      rw [← hn2] at hc
      have hd : s.data.toList.drop k = s.data[k]'hlt :: s.data.toList.drop (k + 1) := by
        rw [List.drop_eq_getElem_cons (by simp; exact hlt)]; simp
      have HD : Hid ((s.data.toList.drop k).all dgB = (decide (48 ≤ n ∧ n ≤ 57) && (s.data.toList.drop (k + 1)).all dgB)) := Lib.hid (by rw [hd, hn2]; rfl)
      have hkI : (k : Int) < (s.size : Int) := by omega
      clear hd hn2
      by_cases h48 : n < 48
      · have HN : Hid (natCk s.data.toList = 5) := Lib.hid (by unfold natCk; rw [HG.out, HD.out, decide_eq_false (by omega), Bool.false_and]; rfl)
        go_wp2_with fail
        go_ret
        exact ⟨ret_int HN.out.symm, HK.out⟩
      · by_cases h57 : 57 < n
        · have HN : Hid (natCk s.data.toList = 5) := Lib.hid (by unfold natCk; rw [HG.out, HD.out, decide_eq_false (by omega), Bool.false_and]; rfl)
          go_wp2_with fail
          go_ret
          exact ⟨ret_int HN.out.symm, HK.out⟩
        · have HN : Hid (s.data.toList.all dgB = (s.data.toList.drop (k + 1)).all dgB) := Lib.hid (by rw [HG.out, HD.out, decide_eq_true (by omega), Bool.true_and])
          go_wp2_with fail
          go_round
          case rel => exact ⟨k + 1, by omega, by go_num, HN.out⟩
          case measure => simp [intOf]; omega
    · have hd : s.data.toList.drop k = [] := by rw [List.drop_eq_nil_iff]; simp; exact Nat.le_of_not_lt hlt
      have HA : Hid (s.data.toList.all dgB = true) := Lib.hid (by rw [HG.out, hd]; rfl)
      have hkI : ¬ (k : Int) < (s.size : Int) := by omega
      have HS := Lib.hid (Lib.size_eq s)
      clear hd HG
      by_cases h0 : s.size = 0
      · have hl : s.data.toList = [] := List.eq_nil_of_length_eq_zero (by have := HS.out; omega)
        have HN : Hid (natCk s.data.toList = 5) := Lib.hid (by rw [hl]; rfl)
        have hs0 : s = ⟨#[]⟩ := by apply ByteArray.ext; apply Array.ext'; simpa using hl
        subst hs0
        go_wp2_with fail
        go_ret
        exact ⟨ret_int HN.out.symm, HK.out⟩
      · obtain ⟨c, r, hcr⟩ : ∃ c r, s.data.toList = c :: r := by
          cases hl : s.data.toList with
          | nil => exact absurd (by have := HS.out; rw [hl] at this; simpa using this) h0
          | cons c r => exact ⟨c, r, rfl⟩
        have hem : s.toList.isEmpty = false := by rw [ByteArray.toList_eq, hcr]; rfl
        have hne : s.toList ≠ [] := fun e => by rw [e] at hem; cases hem
        have hs00 : ∀ h : 0 < s.size, (s[0]'h).toNat = c.toNat := fun h => by
          have : s.data.toList[0]? = some c := by rw [hcr]; rfl
          have h2 : s.data[0]? = some c := by simpa using this
          obtain ⟨h3, h4⟩ := Array.getElem?_eq_some_iff.1 h2
          show (s.data[0]'h3).toNat = _
          rw [h4]
        have HCR := Lib.hid hcr
        have hpos : 0 < s.size := by omega
        have HSL : Hid (s.size = r.length + 1) := Lib.hid (by rw [HS.out, hcr]; rfl)
        clear hcr
        by_cases h1 : 1 < s.size
        · have h1I : (1 : Int) < (s.size : Int) := by omega
          by_cases h48 : c.toNat = 48
          · have h48b : ((c.toNat : Int) == 48) = true := by rw [h48]; rfl
            have HN : Hid (natCk s.data.toList = 5) := Lib.hid (by
              unfold natCk
              rw [HA.out, if_pos rfl, if_pos (.inr ⟨by rw [← HS.out]; exact h1, by rw [HCR.out]; exact congrArg some (UInt8.toNat_inj.1 h48)⟩)])
            go_wp2_with fail
            go_ret
            exact ⟨ret_int HN.out.symm, HK.out⟩
          · have h48b : ((c.toNat : Int) == 48) = false := by simp; omega
            have hno : ¬ (s.data.toList = [] ∨ (1 < s.data.toList.length ∧ s.data.toList.head? = some 48)) := by
              rw [HCR.out]
              rintro (h | ⟨_, h⟩)
              · cases h
              · injection h with h; subst h; exact h48 rfl
            have HNO := Lib.hid hno
            clear hno
            by_cases h2 : 2000 < s.size
            · have h2I : (2000 : Int) < (s.size : Int) := by omega
              have HN : Hid (natCk s.data.toList = 2) := Lib.hid (by unfold natCk; rw [HA.out, if_pos rfl, if_neg HNO.out, if_pos (by rw [← HS.out]; exact h2)])
              go_wp2_with fail
              go_ret
              exact ⟨ret_int HN.out.symm, HK.out⟩
            · have h2I : ¬ (2000 : Int) < (s.size : Int) := by omega
              have HN : Hid (natCk s.data.toList = 0) := Lib.hid (by unfold natCk; rw [HA.out, if_pos rfl, if_neg HNO.out, if_neg (by rw [← HS.out]; exact h2)])
              go_wp2_with fail
              go_ret
              exact ⟨ret_int HN.out.symm, HK.out⟩
        · have h1I : ¬ (1 : Int) < (s.size : Int) := by omega
          have h2I : ¬ (2000 : Int) < (s.size : Int) := by omega
          have HN : Hid (natCk s.data.toList = 0) := Lib.hid (by
            unfold natCk
            have hl := HS.out
            rw [HA.out, if_pos rfl, if_neg (by rw [HCR.out]; rintro (h | ⟨h, _⟩); cases h; rw [HCR.out] at hl; omega), if_neg (by omega)])
          go_wp2_with fail
          go_ret
          exact ⟨ret_int HN.out.symm, HK.out⟩
end Go.Proofs.YtakllkkmofdpaaaGreatDoor
/- Greatest common divisor. -/
namespace Go.Proofs.YtakllkkmofdpaaaGreatDoor
open Go.ChangeShapes Go.WideShapes Go.ChangeAt Go.RowKit
set_option linter.unusedVariables false
set_option linter.unusedSimpArgs false
attribute [local go_sem ↓] execOp_call_val
attribute [local go_sem] callVal_func setCell_drewN alloc_drewN

theorem lg_abs {w : World} {B : Nat} {z : Int} {b : Bool} {A : Option Addr} {n c : Nat} (h : LgIs w B z b A n c) : LgIs w B (z.natAbs : Int) false A n c :=
  ⟨by simp, by rw [Int.natAbs_natCast]; exact h.en, by rw [Int.natAbs_natCast]; exact h.rd, h.nc, h.cm⟩
set_option maxRecDepth 100000 in
set_option maxHeartbeats 4000000 in
theorem gcd_any (y0 z0 : Int) (b1 : Bool) (A : Option Addr) (n c : Nat) (b2 : Bool) (B : Option Addr) (m d : Nat) (w : World) (h1 : LgIs w w.heap.size y0 b1 A n c) (h2 : LgIs w w.heap.size z0 b2 B m d) (hn : n ≤ 35184372088832) (hm : m ≤ 35184372088832) :
    Calls Tryz.prog 116 #[.agg #[.bool b1, .slice A n c], .agg #[.bool b2, .slice B m d]] w (LgP ((y0.natAbs.gcd z0.natAbs : Nat) : Int) w) := by
  have HB0 : Hid (Below w.heap.size w (((w.alloc (.cells #[.bool false, .slice A n c] 91)).alloc (.cells #[.bool false, .slice B m d] 91)).alloc (.cells #[.bool false, .slice none 0 0] 91))) := Lib.hid ((((Below.refl _ _).alloc (Nat.le_refl _) _).alloc (by simp) _).alloc (by simp; omega) _)
  have HX1 : Hid (Blk (((w.alloc (.cells #[.bool false, .slice A n c] 91)).alloc (.cells #[.bool false, .slice B m d] 91)).alloc (.cells #[.bool false, .slice none 0 0] 91)) w.heap.size 91 #[.bool false, .slice A n c]) := Lib.hid (((Blk.new w _ _).alloc _).alloc _)
  have HX2 : Hid (Blk (((w.alloc (.cells #[.bool false, .slice A n c] 91)).alloc (.cells #[.bool false, .slice B m d] 91)).alloc (.cells #[.bool false, .slice none 0 0] 91)) (w.heap.size + 1) 91 #[.bool false, .slice B m d]) := Lib.hid ((Blk.new_ (by simp)).alloc _)
  have HR : Hid (Blk (((w.alloc (.cells #[.bool false, .slice A n c] 91)).alloc (.cells #[.bool false, .slice B m d] 91)).alloc (.cells #[.bool false, .slice none 0 0] 91)) (w.heap.size + 1 + 1) 91 #[.bool false, .slice none 0 0]) := Lib.hid (Blk.new_ (by simp))
  have H1b := Lib.hid (lg_abs (h1.up HB0.out))
  have H2b := Lib.hid (lg_abs (h2.up HB0.out))
  clear h1 h2
  have e01 : w.heap.size ≠ w.heap.size + 1 := by omega
  have e10 : w.heap.size + 1 ≠ w.heap.size := by omega
  have e20 : w.heap.size + 1 + 1 ≠ w.heap.size := by omega
  have e21 : w.heap.size + 1 + 1 ≠ w.heap.size + 1 := by omega
  obtain ⟨GG, hG⟩ : ∃ g, y0.natAbs.gcd z0.natAbs = g := ⟨_, rfl⟩
  rw [hG]
  go_enter Tryz.func116, Tryz.ntmps116
  go_wp2_with fail
  generalize (((w.alloc (.cells #[.bool false, .slice A n c] 91)).alloc (.cells #[.bool false, .slice B m d] 91)).alloc (.cells #[.bool false, .slice none 0 0] 91)) = W1 at *
  go_loopg [5] z0.natAbs (fun k v5 wr => ∃ (x y : Nat) (A : Option Addr) (n c : Nat) (B : Option Addr) (m d : Nat), k = y ∧ x.gcd y = GG ∧ Below w.heap.size w wr ∧ Blk wr w.heap.size 91 #[.bool false, .slice A n c] ∧ Blk wr (w.heap.size + 1) 91 #[.bool false, .slice B m d] ∧ Blk wr (w.heap.size + 1 + 1) 91 #[.bool false, .slice none 0 0] ∧ LgIs wr wr.heap.size (x : Int) false A n c ∧ LgIs wr wr.heap.size (y : Int) false B m d ∧ n ≤ 35184372088832 ∧ m ≤ 35184372088832)
  case atStart => exact ⟨_, _, A, n, c, B, m, d, rfl, hG, HB0.out, HX1.out, HX2.out, HR.out, H1b.out, H2b.out, hn, hm⟩
  case round =>
    clear HB0 HX1 HX2 HR H1b H2b hn hm hG
    obtain ⟨x, y, A, n, c, B, m, d, hk, hg, hbr, hp2, hp3, hp4, hx, hy, hn, hm⟩ := hrel
    have HKY := Lib.hid hk
    clear hk
    have HG := Lib.hid hg
    have HBR := Lib.hid hbr
    have HP2 := Lib.hid hp2
    have HP3 := Lib.hid hp3
    have HP4 := Lib.hid hp4
    have HX := Lib.hid hx
    have HY := Lib.hid hy
    have HML := Lib.hid hm
    have z0 := HP3.out.cell 0
    have z1 := HP3.out.cell 1
    have zl := HP3.out.lt
    clear hg hbr hp2 hp3 hp4 hx hy hm
    go_wp2_with fail
    refine (lsign_any (y : Int) false B m d wr HY.out).mono ?_
    rintro e w1 ⟨rfl, hb1⟩
    clear z0 z1 zl
    have HBR1 := Lib.hid (HBR.out.trans (hb1.mono HBR.out.size))
    have HP21 := Lib.hid (HP2.out.below hb1 HP2.out.lt)
    have HP31 := Lib.hid (HP3.out.below hb1 HP3.out.lt)
    have HP41 := Lib.hid (HP4.out.below hb1 HP4.out.lt)
    have HX1 := Lib.hid (HX.out.up hb1)
    have HY1 := Lib.hid (HY.out.up hb1)
    clear hb1 HBR HP2 HP3 HP4 HX HY
    by_cases hy : y = 0
    · subst hy
      have hs : ((0 : Nat) : Int).sign = 0 := rfl
      rw [hs]
      clear hs
      have hgx : x = GG := by rw [← HG.out, Nat.gcd_zero_right]
      subst hgx
      have a0 := HP21.out.cell 0
      have a1 := HP21.out.cell 1
      have al := HP21.out.lt
      have hgs : w.heap.size ≤ w.heap.size + 1 + 1 := by omega
      have z0 := HP41.out.cell 0
      have z1 := HP41.out.cell 1
      have zf := HP41.out.frozen
      have zl := HP41.out.lt
      go_wp2_with fail
      generalize hW9 : (w1.setCell ⟨_, 0, none⟩ _).setCell ⟨_, 1, none⟩ _ = W9
      have HP9 := Lib.hid (lg_put (e := .returned (.agg #[.bool false, .slice A n c])) HBR1.out hgs HP41.out (by simp) (by simp) HX1.out rfl)
      rw [hW9] at HP9
      have HB9 : Hid (Blk W9 _ 91 #[.bool false, .slice A n c]) := Lib.hid (by rw [← hW9]; exact blk_set2 HP41.out)
      clear hW9 z0 z1 zf zl
      have q0 := HB9.out.cell 0
      have q1 := HB9.out.cell 1
      exact bodyPost_ret (v := .agg #[.bool false, .slice A n c]) (by simp [results, Tryz.results116, go_sem, q0, q1]) rfl HP9.out
    · have hs : (y : Int).sign = 1 := Int.sign_eq_one_of_pos (by omega)
      rw [hs]
      clear hs
      have hy0 : 0 < y := by omega
      clear hy
      have a0 := HP21.out.cell 0
      have a1 := HP21.out.cell 1
      have al := HP21.out.lt
      have z0 := HP31.out.cell 0
      have z1 := HP31.out.cell 1
      have zl := HP31.out.lt
      have hxn : n = dlen x := by rw [HX1.out.en, Int.natAbs_natCast]
      have hyn : m = dlen y := by rw [HY1.out.en, Int.natAbs_natCast]
      have hnc := HX1.out.nc
      have hcm := HX1.out.cm
      clear hxn hyn
      go_wp2_with fail
      refine (divW_any A n c B m d x y w1 (by have := HX1.out.rd; exact this) (by have := HY1.out.rd; exact this) hy0 hnc hcm hn HML.out).mono ?_
      rintro e W2 ⟨hb2, Aq, nq, cq, lq, Ar, nr, cr, lr, rfl, -, ⟨hr1, hr2, hr3, hr4, hr5⟩, -, hnr⟩
      clear a0 a1 al z0 z1 zl
      have HBr := Lib.hid (HBR1.out.trans (hb2.mono HBR1.out.size))
      have HP2 := Lib.hid (HP21.out.below hb2 HP21.out.lt)
      have HP3 := Lib.hid (HP31.out.below hb2 HP31.out.lt)
      have HP4 := Lib.hid (HP41.out.below hb2 HP41.out.lt)
      have HY2 := Lib.hid (HY1.out.up hb2)
      have HRR : Hid (RdW W2.drew W2.drew.heap.size Ar nr lr) := Lib.hid hr1
      have HRD := Lib.hid hr2
      have HRV : Hid (sgn false (wv lr) = ((x % y : Nat) : Int)) := Lib.hid (by rw [hr3]; rfl)
      clear hb2 hr1 hr2 hr3 hr4 hr5 HBR1 HP21 HP31 HP41 HX1 HY1 hnc hcm
      have z0 := HP3.out.cell 0
      have z1 := HP3.out.cell 1
      have zl := HP3.out.lt
      go_wp2_with fail
      refine wp_region_last (S := fun w' => w'.cell? ⟨w.heap.size + 1, 0, none⟩ = some (.bool false) ∧ w'.cell? ⟨w.heap.size + 1, 1, none⟩ = some (.slice B m d)) 5 _ (by kernel_rfl) (by kernel_rfl) rfl ⟨z0, z1⟩ (fun hHeld => ?_)
      simp only [List.take_succ_cons, List.take_zero]
      refine takeH 0 (v := ?_) rfl (by kernel_rfl) (fun _ _ _ h => h) (by rfl) ?_ hHeld ?_
      rotate_left 1
      · intro w' hSw; obtain ⟨s0, s1⟩ := hSw; go_simp <;> with_reducible rfl
      try simp only [Act.put, List.setIfInBounds_toArray, List.set_cons_zero, List.set_cons_succ]
      refine takeH 1 (v := ?_) rfl (by kernel_rfl) (fun _ _ _ h => h) (by rfl) ?_ hHeld ?_
      rotate_left 1
      · intro w' hSw; obtain ⟨s0, s1⟩ := hSw; go_simp <;> with_reducible rfl
      try simp only [Act.put, List.setIfInBounds_toArray, List.set_cons_zero, List.set_cons_succ]
      clear z0 z1
      refine stepH 2 (by kernel_rfl) rfl (fun K hK => ?_)
      go_simp
      refine (cloneW Ar nr cr lr W2.drew HRR.out (by omega)).mono ?_
      rintro e w3 ⟨hb3, A3, c3, rfl, hr3, hn3, hc3⟩
      have HB3 := Lib.hid ((below_drew (Below.refl W2.heap.size W2)).trans hb3)
      have HR3 := Lib.hid hr3
      clear hb3 hr3
      go_simp
      refine hK.out _ _ ?_ (fun hHeld => ?_)
      · exact ⟨(HP3.out.below HB3.out HP3.out.lt).cell 0, (HP3.out.below HB3.out HP3.out.lt).cell 1⟩
      clear hK K
      try simp only [Act.put, List.setIfInBounds_toArray, List.set_cons_zero, List.set_cons_succ]
      refine stepH 3 (by kernel_rfl) rfl (fun K hK => ?_)
      go_simp
      refine (norm_any false A3 nr c3 lr w3 HR3.out HRD.out hn3 hc3).mono ?_
      rw [HRV.out]
      rintro e w4 ⟨hb4, b4, A4, n4, c4, rfl, h4⟩
      have HB4 := Lib.hid (HB3.out.trans (hb4.mono HB3.out.size))
      have H4 := Lib.hid h4
      clear hb4 h4 hn3 hc3 HR3
      go_simp
      refine hK.out _ _ ?_ (fun hHeld => ?_)
      · exact ⟨(HP3.out.below HB4.out HP3.out.lt).cell 0, (HP3.out.below HB4.out HP3.out.lt).cell 1⟩
      clear hK K
      try simp only [Act.put, List.setIfInBounds_toArray, List.set_cons_zero, List.set_cons_succ]
      have hb40 : b4 = false := by rw [H4.out.eb]; exact decide_eq_false (by omega)
      subst hb40
      have HP2b := Lib.hid (HP2.out.below HB4.out HP2.out.lt)
      have HP3b := Lib.hid (HP3.out.below HB4.out HP3.out.lt)
      have HP4b := Lib.hid (HP4.out.below HB4.out HP4.out.lt)
      have z0 := HP2b.out.cell 0
      have z1 := HP2b.out.cell 1
      have zf := HP2b.out.frozen
      have zl := HP2b.out.lt
      refine stepH 4 (by kernel_rfl) rfl (fun K hK => ?_)
      go_simp
      clear z0 z1 zf zl
      generalize hw5 : (w4.setCell ⟨w.heap.size, 0, none⟩ _).setCell ⟨w.heap.size, 1, none⟩ _ = w5
      have HP2c : Hid (Blk w5 w.heap.size 91 #[.bool false, .slice B m d]) := Lib.hid (by rw [← hw5]; exact blk_set2 HP2b.out)
      have HP3c : Hid (Blk w5 (w.heap.size + 1) 91 #[.bool false, .slice B m d]) := Lib.hid (by rw [← hw5]; exact (HP3b.out.far e10 _).far e10 _)
      have HP4c : Hid (Blk w5 (w.heap.size + 1 + 1) 91 #[.bool false, .slice none 0 0]) := Lib.hid (by rw [← hw5]; exact (HP4b.out.far e20 _).far e20 _)
      have HBc : Hid (Below w.heap.size w w5) := Lib.hid (by rw [← hw5]; exact below_set2 (HBr.out.trans (HB4.out.mono HBr.out.size)) (Nat.le_refl _))
      have HYc : Hid (LgIs w5 w5.heap.size (y : Int) false B m d) := Lib.hid (by rw [← hw5]; exact ((HY2.out.up HB4.out).keep (HP2b.out.cell 0) (by simp) _).keep ((HP2b.out.set_ 0 (.bool false)).cell 1) (by simp) _)
      have HRc : Hid (LgIs w5 w5.heap.size ((x % y : Nat) : Int) false A4 n4 c4) := Lib.hid (by rw [← hw5]; exact (H4.out.keep (HP2b.out.cell 0) (by simp) _).keep ((HP2b.out.set_ 0 (.bool false)).cell 1) (by simp) _)
      clear hw5
      refine hK.out _ _ ?_ (fun hHeld => ?_)
      · exact ⟨HP3c.out.cell 0, HP3c.out.cell 1⟩
      clear hK K
      try simp only [Act.put, List.setIfInBounds_toArray, List.set_cons_zero, List.set_cons_succ]
      refine wpAnyH_done (by kernel_rfl) ?_ _
      refine lastQ_go (by rfl) ?_
      have z0 := HP3c.out.cell 0
      have z1 := HP3c.out.cell 1
      have zf := HP3c.out.frozen
      have zl := HP3c.out.lt
      go_wp2_with fail
      clear z0 z1 zf zl
      generalize hw6 : (w5.setCell ⟨w.heap.size + 1, 0, none⟩ _).setCell ⟨w.heap.size + 1, 1, none⟩ _ = w6
      have HP2d : Hid (Blk w6 w.heap.size 91 #[.bool false, .slice B m d]) := Lib.hid (by rw [← hw6]; exact (HP2c.out.far e01 _).far e01 _)
      have HP3d : Hid (Blk w6 (w.heap.size + 1) 91 #[.bool false, .slice A4 n4 c4]) := Lib.hid (by rw [← hw6]; exact blk_set2 HP3c.out)
      have HP4d : Hid (Blk w6 (w.heap.size + 1 + 1) 91 #[.bool false, .slice none 0 0]) := Lib.hid (by rw [← hw6]; exact (HP4c.out.far e21 _).far e21 _)
      have HBd : Hid (Below w.heap.size w w6) := Lib.hid (by rw [← hw6]; exact below_set2 HBc.out (Nat.le_succ _))
      have HYd : Hid (LgIs w6 w6.heap.size (y : Int) false B m d) := Lib.hid (by rw [← hw6]; exact (HYc.out.keep (HP3c.out.cell 0) (by simp) _).keep ((HP3c.out.set_ 0 (.bool false)).cell 1) (by simp) _)
      have HRd : Hid (LgIs w6 w6.heap.size ((x % y : Nat) : Int) false A4 n4 c4) := Lib.hid (by rw [← hw6]; exact (HRc.out.keep (HP3c.out.cell 0) (by simp) _).keep ((HP3c.out.set_ 0 (.bool false)).cell 1) (by simp) _)
      clear hw6
      have HM4 : Hid (n4 ≤ 35184372088832) := Lib.hid (by rw [HRc.out.en]; refine Nat.le_trans ?_ HML.out; rw [HYc.out.en]; exact dlen_mono (by rw [Int.natAbs_natCast, Int.natAbs_natCast]; exact Nat.le_of_lt (Nat.mod_lt _ hy0)))
      have HGC : Hid (y.gcd (x % y) = GG) := Lib.hid (by rw [← HG.out, Nat.gcd_comm x y, Nat.gcd_rec y x, Nat.gcd_comm])
      have HMS : Hid (x % y < gk) := Lib.hid (by rw [HKY.out]; exact Nat.mod_lt _ hy0)
      go_roundg (x % y)
      case rel => exact ⟨y, x % y, B, m, d, A4, n4, c4, rfl, HGC.out, HBd.out, HP2d.out, HP3d.out, HP4d.out, HYd.out, HRd.out, HML.out, HM4.out⟩
      case measure => exact HMS.out
end Go.Proofs.YtakllkkmofdpaaaGreatDoor
/- The greatest common divisor of natural numbers as texts. -/
namespace Go.Proofs.YtakllkkmofdpaaaGreatDoor
open Go.ChangeShapes Go.WideShapes Go.ChangeAt Go.RowKit
set_option linter.unusedVariables false
set_option linter.unusedSimpArgs false
attribute [local go_sem ↓] execOp_call_val
attribute [local go_sem] callVal_func setCell_drewN alloc_drewN

theorem rdT_false (s : ByteArray) : rdT false s.data.toList = s := by
  apply ByteArray.ext
  simp [rdT]
def TwP (y z : Int) (w : World) (e : Ending) (w' : World) : Prop := Below w.heap.size w w' ∧ ∃ b A n c b2 B m d, e = .returned (.tuple #[.agg #[.bool b, .slice A n c], .agg #[.bool b2, .slice B m d], .int .i64 0]) ∧ LgIs w' w'.heap.size y b A n c ∧ LgIs w' w'.heap.size z b2 B m d
set_option maxRecDepth 100000 in
set_option maxHeartbeats 4000000 in
theorem two_ok (s t : ByteArray) (w : World) (h1 : natCk s.data.toList = 0) (h2 : natCk t.data.toList = 0) :
    Calls Tryz.prog 151 #[.string s, .string t] w (TwP (dv s.data.toList) (dv t.data.toList) w) := by
  obtain ⟨⟨_, k1, _⟩, k2⟩ := natCk_ok.1 h1
  obtain ⟨⟨_, k3, _⟩, k4⟩ := natCk_ok.1 h2
  have HD1 : Hid (AllDg s.data.toList) := Lib.hid k1
  have HD2 : Hid (AllDg t.data.toList) := Lib.hid k3
  have HL1 : Hid (s.size ≤ 2000) := Lib.hid (by rw [Lib.size_eq]; exact k2)
  have HL2 : Hid (t.size ≤ 2000) := Lib.hid (by rw [Lib.size_eq]; exact k4)
  have HN1 := Lib.hid h1
  have HN2 := Lib.hid h2
  have hi0 : ∀ w, (Instr.index 246 (.agg #[.string s, .string t]) (.int .i64 0)).run Tryz.prog w = .ok (.string s) w := fun _ => by kernel_rfl
  have hi1 : ∀ w, (Instr.index 246 (.agg #[.string s, .string t]) (.int .i64 1)).run Tryz.prog w = .ok (.string t) w := fun _ => by kernel_rfl
  have HI0 := Lib.hid hi0
  have HI1 := Lib.hid hi1
  have HB0 : Hid (Below w.heap.size w ((w.alloc (.cells #[.bool false, .slice none 0 0] 91)).alloc (.cells #[.bool false, .slice none 0 0] 91))) := Lib.hid (((Below.refl _ _).alloc (Nat.le_refl _) _).alloc (by simp) _)
  have HX1 : Hid (Blk ((w.alloc (.cells #[.bool false, .slice none 0 0] 91)).alloc (.cells #[.bool false, .slice none 0 0] 91)) w.heap.size 91 #[.bool false, .slice none 0 0]) := Lib.hid ((Blk.new w _ _).alloc _)
  have HX2 : Hid (Blk ((w.alloc (.cells #[.bool false, .slice none 0 0] 91)).alloc (.cells #[.bool false, .slice none 0 0] 91)) (w.heap.size + 1) 91 #[.bool false, .slice none 0 0]) := Lib.hid (Blk.new_ (by simp))
  clear h1 h2 k1 k2 k3 k4 hi0 hi1
  go_enter Tryz.func151, Tryz.ntmps151
  go_wp2_with fail
  generalize ((w.alloc (.cells #[.bool false, .slice none 0 0] 91)).alloc (.cells #[.bool false, .slice none 0 0] 91)) = W at *
  go_loopw [8, 9, 13] (fun v8 v9 i wr => ∃ k : Nat, k ≤ 2 ∧ i = .int .i64 k ∧ Below w.heap.size w wr ∧ Blk wr w.heap.size 91 #[.bool false, .slice none 0 0] ∧ Blk wr (w.heap.size + 1) 91 #[.bool false, .slice none 0 0]) (fun _ _ i _ => 2 - (intOf i).toNat)
  case atStart => exact ⟨0, by omega, rfl, HB0.out, HX1.out, HX2.out⟩
  case round =>
    clear HB0 HX1 HX2
    obtain ⟨k, hk, rfl, hb, hx1, hx2⟩ := hrel
    have HB := Lib.hid hb
    have HX1 := Lib.hid hx1
    have HX2 := Lib.hid hx2
    clear hb hx1 hx2
    have hc : k = 0 ∨ k = 1 ∨ k = 2 := by omega
    rcases hc with rfl | rfl | rfl
    · have e : (((0 : Nat) : Int)) = 0 := rfl
      rw [e]
      clear e
      have hi0 := HI0.out
      go_wp2_with fail
      refine (natck_any s wr (by have := HL1.out; unfold maxLen; omega)).mono ?_
      rw [HN1.out]
      rintro e w1 ⟨rfl, hb1⟩
      have HB1 := Lib.hid (HB.out.trans (hb1.mono HB.out.size))
      have HX11 := Lib.hid (HX1.out.below hb1 HX1.out.lt)
      have HX21 := Lib.hid (HX2.out.below hb1 HX2.out.lt)
      clear hb1 HB HX1 HX2 hi0
      go_wp2_with fail
      go_roundw
      case rel => exact ⟨1, by omega, rfl, HB1.out, HX11.out, HX21.out⟩
      case measure => simp [intOf]
    · have e : (((1 : Nat) : Int)) = 1 := rfl
      rw [e]
      clear e
      have hi1 := HI1.out
      go_wp2_with fail
      refine (natck_any t wr (by have := HL2.out; unfold maxLen; omega)).mono ?_
      rw [HN2.out]
      rintro e w1 ⟨rfl, hb1⟩
      have HB1 := Lib.hid (HB.out.trans (hb1.mono HB.out.size))
      have HX11 := Lib.hid (HX1.out.below hb1 HX1.out.lt)
      have HX21 := Lib.hid (HX2.out.below hb1 HX2.out.lt)
      clear hb1 HB HX1 HX2 hi1
      go_wp2_with fail
      go_roundw
      case rel => exact ⟨2, by omega, rfl, HB1.out, HX11.out, HX21.out⟩
      case measure => simp [intOf]
    · have e : (((2 : Nat) : Int)) = 2 := rfl
      rw [e]
      clear e
      go_wp2_with fail
      have c1 := read_any false s.data.toList HD1.out (by have := HL1.out; rw [Lib.size_eq] at this; omega) wr
      rw [rdT_false] at c1
      refine c1.mono ?_
      clear c1
      rintro e w1 ⟨hb1, f1, C1, i1, j1, rfl, h1⟩
      have HB1 := Lib.hid (HB.out.trans (hb1.mono HB.out.size))
      have HX11 := Lib.hid (HX1.out.below hb1 HX1.out.lt)
      have HX21 := Lib.hid (HX2.out.below hb1 HX2.out.lt)
      have H1 := Lib.hid h1
      clear hb1 HB HX1 HX2 h1
      go_wp2_with fail
      have c2 := read_any false t.data.toList HD2.out (by have := HL2.out; rw [Lib.size_eq] at this; omega) w1
      rw [rdT_false] at c2
      refine c2.mono ?_
      clear c2
      rintro e w2 ⟨hb2, f2, C2, i2, j2, rfl, h2⟩
      have HB2 := Lib.hid (HB1.out.trans (hb2.mono HB1.out.size))
      have HX12 := Lib.hid (HX11.out.below hb2 HX11.out.lt)
      have HX22 := Lib.hid (HX21.out.below hb2 HX21.out.lt)
      have H12 := Lib.hid (H1.out.up hb2)
      have H22 := Lib.hid h2
      have e10 : w.heap.size + 1 ≠ w.heap.size := by omega
      have e01 : w.heap.size ≠ w.heap.size + 1 := by omega
      clear hb2 HB1 HX11 HX21 h2 H1
      have y0 := HX12.out.cell 0
      have y1 := HX12.out.cell 1
      have yf := HX12.out.frozen
      have yl := HX12.out.lt
      have z0 := HX22.out.cell 0
      have z1 := HX22.out.cell 1
      have zf := HX22.out.frozen
      have zl := HX22.out.lt
      go_wp2_with fail
      clear y0 y1 yf yl z0 z1 zf zl
      generalize hw3 : (w2.setCell ⟨w.heap.size, 0, none⟩ (.bool f1)).setCell ⟨w.heap.size, 1, none⟩ (.slice C1 i1 j1) = w3
      have HX13 : Hid (Blk w3 w.heap.size 91 #[.bool f1, .slice C1 i1 j1]) := Lib.hid (by rw [← hw3]; exact blk_set2 HX12.out)
      have HX23 : Hid (Blk w3 (w.heap.size + 1) 91 #[.bool false, .slice none 0 0]) := Lib.hid (by rw [← hw3]; exact (HX22.out.far e10 _).far e10 _)
      have HB3 : Hid (Below w.heap.size w w3) := Lib.hid (by rw [← hw3]; exact below_set2 HB2.out (Nat.le_refl _))
      have H13 : Hid (LgIs w3 w3.heap.size (rdZ false s.data.toList) f1 C1 i1 j1) := Lib.hid (by rw [← hw3]; exact (H12.out.keep (HX12.out.cell 0) (by simp) _).keep ((HX12.out.set_ 0 (.bool f1)).cell 1) (by simp) _)
      have H23 : Hid (LgIs w3 w3.heap.size (rdZ false t.data.toList) f2 C2 i2 j2) := Lib.hid (by rw [← hw3]; exact (H22.out.keep (HX12.out.cell 0) (by simp) _).keep ((HX12.out.set_ 0 (.bool f1)).cell 1) (by simp) _)
      clear hw3 HX12 HX22 HB2 H12 H22
      generalize hw4 : (w3.setCell ⟨w.heap.size + 1, 0, none⟩ (.bool f2)).setCell ⟨w.heap.size + 1, 1, none⟩ (.slice C2 i2 j2) = w4
      have HX14 : Hid (Blk w4 w.heap.size 91 #[.bool f1, .slice C1 i1 j1]) := Lib.hid (by rw [← hw4]; exact (HX13.out.far e01 _).far e01 _)
      have HX24 : Hid (Blk w4 (w.heap.size + 1) 91 #[.bool f2, .slice C2 i2 j2]) := Lib.hid (by rw [← hw4]; exact blk_set2 HX23.out)
      have HB4 : Hid (Below w.heap.size w w4) := Lib.hid (by rw [← hw4]; exact below_set2 HB3.out (Nat.le_succ _))
      have H14 : Hid (LgIs w4 w4.heap.size (rdZ false s.data.toList) f1 C1 i1 j1) := Lib.hid (by rw [← hw4]; exact (H13.out.keep (HX23.out.cell 0) (by simp) _).keep ((HX23.out.set_ 0 (.bool f2)).cell 1) (by simp) _)
      have H24 : Hid (LgIs w4 w4.heap.size (rdZ false t.data.toList) f2 C2 i2 j2) := Lib.hid (by rw [← hw4]; exact (H23.out.keep (HX23.out.cell 0) (by simp) _).keep ((HX23.out.set_ 0 (.bool f2)).cell 1) (by simp) _)
      clear hw4
      have q0 := HX14.out.cell 0
      have q1 := HX14.out.cell 1
      have q2 := HX24.out.cell 0
      have q3 := HX24.out.cell 1
      exact bodyPost_ret (v := .tuple #[.agg #[.bool f1, .slice C1 i1 j1], .agg #[.bool f2, .slice C2 i2 j2], .int .i64 0]) (by simp [results, Tryz.results151, go_sem, q0, q1, q2, q3]) rfl ⟨HB4.out, f1, C1, i1, j1, f2, C2, i2, j2, rfl, H14.out, H24.out⟩
set_option maxRecDepth 100000 in
set_option maxHeartbeats 4000000 in
theorem ntext_ok (v : Nat) (b : Bool) (A : Option Addr) (n c : Nat) (w : World) (h : LgIs w w.heap.size (v : Int) b A n c) (ht : TabOk w) (hv : ndg v ≤ 2000) :
    Calls Tryz.prog 152 #[.agg #[.bool b, .slice A n c]] w fun e w' => e = .returned (.tuple #[.string ⟨(Lib.decDigits v).toArray⟩, .int .i64 0]) ∧ Below w.heap.size w w' := by
  have HB0 : Hid (Below w.heap.size w (w.alloc (.cells #[.bool b, .slice A n c] 91))) := Lib.hid ((Below.refl _ _).alloc (Nat.le_refl _) _)
  have HX1 := Lib.hid (Blk.new w 91 #[.bool b, .slice A n c])
  have H1 := Lib.hid (h.up HB0.out)
  have HT := Lib.hid (ht.up HB0.out)
  have hf : ndg (v : Int).natAbs ≤ 2000 := by rw [Int.natAbs_natCast]; exact hv
  have HF := Lib.hid hf
  have HTL : Hid (textL (v : Int) = Lib.decDigits v) := Lib.hid (by unfold textL; rw [if_neg (Int.not_lt.2 (Int.natCast_nonneg v)), Int.natAbs_natCast, List.nil_append])
  clear h ht hf
  go_enter Tryz.func152, Tryz.ntmps152
  go_upto_region 1 with fail
  generalize w.alloc (.cells #[.bool b, .slice A n c] 91) = W at *
  have p0 := HX1.out.cell 0
  have p1 := HX1.out.cell 1
  have pl := HX1.out.lt
  go_wp2_with fail
  refine (itext_any (v : Int) b A n c W H1.out HT.out).mono ?_
  rintro e w1 ⟨hb1, s, he, hs, -⟩
  rw [decide_eq_true HF.out] at he
  have hs2 := hs HF.out
  rw [HTL.out] at hs2
  subst hs2
  subst he
  have HB1 := Lib.hid (HB0.out.trans (hb1.mono HB0.out.size))
  clear hb1 hs p0 p1 pl
  go_wp2_with fail
  go_ret2
  exact ⟨rfl, HB1.out⟩
theorem gcd_fits {a b : Nat} (ha : a < 10 ^ 2000) (hb : b < 10 ^ 2000) : ndg (a.gcd b) ≤ 2000 := by
  refine ndg_le (by decide) ?_
  rcases Nat.eq_zero_or_pos a with h | h
  · subst h; rw [Nat.gcd_zero_left]; exact hb
  · exact Nat.lt_of_le_of_lt (Nat.gcd_le_left _ h) ha
set_option maxRecDepth 100000 in
set_option maxHeartbeats 4000000 in
theorem ngcd_ok (s t : ByteArray) (w : World) (h1 : natCk s.data.toList = 0) (h2 : natCk t.data.toList = 0) (ht : TabOk w) :
    Calls Tryz.prog 130 #[.string s, .string t] w fun e w' => e = .returned (.tuple #[.string ⟨(Lib.decDigits ((dv s.data.toList).gcd (dv t.data.toList))).toArray⟩, .int .i64 0]) ∧ Below w.heap.size w w' := by
  have HT := Lib.hid ht
  have HN1 := Lib.hid h1
  have HN2 := Lib.hid h2
  have hlt : ∀ l : List UInt8, natCk l = 0 → dv l < 10 ^ 2000 ∧ dlen (dv l) ≤ 2000 := fun l h => by
    obtain ⟨⟨_, k1, _⟩, k2⟩ := natCk_ok.1 h
    have h3 := pow_mono10 k2
    have h4 := Nat.lt_of_lt_of_le (dv_lt k1) h3
    exact ⟨h4, Nat.le_trans (dv_dlen k1) k2⟩
  have HA := Lib.hid (hlt _ h1)
  have HC := Lib.hid (hlt _ h2)
  clear ht h1 h2 hlt
  go_enter Tryz.func130, Tryz.ntmps130
  go_wp2_with fail
  refine (two_ok s t w HN1.out HN2.out).mono ?_
  rintro e w1 ⟨hb1, f1, C1, i1, j1, f2, C2, i2, j2, rfl, g1, g2⟩
  have HK : Hid (Below w1.heap.size w1 ((w1.alloc (.cells #[.bool f1, .slice C1 i1 j1] 91)).alloc (.cells #[.bool f2, .slice C2 i2 j2] 91))) := Lib.hid (((Below.refl _ _).alloc (Nat.le_refl _) _).alloc (by simp) _)
  have HB1 := Lib.hid (hb1.trans (HK.out.mono hb1.size))
  have HX1 : Hid (Blk ((w1.alloc (.cells #[.bool f1, .slice C1 i1 j1] 91)).alloc (.cells #[.bool f2, .slice C2 i2 j2] 91)) w1.heap.size 91 #[.bool f1, .slice C1 i1 j1]) := Lib.hid ((Blk.new w1 _ _).alloc _)
  have HX2 : Hid (Blk ((w1.alloc (.cells #[.bool f1, .slice C1 i1 j1] 91)).alloc (.cells #[.bool f2, .slice C2 i2 j2] 91)) (w1.heap.size + 1) 91 #[.bool f2, .slice C2 i2 j2]) := Lib.hid (Blk.new_ (by simp))
  have H1 := Lib.hid (g1.up HK.out)
  have H2 := Lib.hid (g2.up HK.out)
  have hn1 : i1 ≤ 2000 := by rw [g1.en, Int.natAbs_natCast]; exact HA.out.2
  have hn2 : i2 ≤ 2000 := by rw [g2.en, Int.natAbs_natCast]; exact HC.out.2
  clear hb1 HK g1 g2
  go_upto_region 2 with fail
  generalize ((w1.alloc (.cells #[.bool f1, .slice C1 i1 j1] 91)).alloc (.cells #[.bool f2, .slice C2 i2 j2] 91)) = W at *
  have p0 := HX1.out.cell 0
  have p1 := HX1.out.cell 1
  have pl := HX1.out.lt
  have q0 := HX2.out.cell 0
  have q1 := HX2.out.cell 1
  have ql := HX2.out.lt
  go_wp2_with fail
  refine (gcd_any (dv s.data.toList : Int) (dv t.data.toList : Int) f1 C1 i1 j1 f2 C2 i2 j2 W H1.out H2.out (Nat.le_trans hn1 (by decide)) (Nat.le_trans hn2 (by decide))).mono ?_
  rw [Int.natAbs_natCast, Int.natAbs_natCast]
  rintro e w3 ⟨hb3, f3, C3, i3, j3, rfl, g3⟩
  have HB3 := Lib.hid (HB1.out.trans (hb3.mono HB1.out.size))
  have H3 := Lib.hid g3
  clear hb3 g3 p0 p1 pl q0 q1 ql
  go_wp2_with fail
  refine (ntext_ok _ f3 C3 i3 j3 w3 H3.out (HT.out.up HB3.out) (gcd_fits HA.out.1 HC.out.1)).mono ?_
  rintro e w4 ⟨rfl, hb4⟩
  have HB4 := Lib.hid (HB3.out.trans (hb4.mono HB3.out.size))
  clear hb4
  go_wp2_with fail
  go_ret2
  exact ⟨rfl, HB4.out⟩
end Go.Proofs.YtakllkkmofdpaaaGreatDoor
/- strings.Cut at one byte. -/
namespace Go.Proofs.YtakllkkmofdpaaaGreatDoor
open Go.ChangeShapes Go.WideShapes Go.ChangeAt Go.RowKit
set_option linter.unusedVariables false
set_option linter.unusedSimpArgs false
attribute [local go_sem ↓] execOp_call_val
attribute [local go_sem] callVal_func setCell_drewN alloc_drewN

/-- the text before the first such byte, the text behind it, and whether there is one -/
def cutR (c : UInt8) : List UInt8 → List UInt8 × List UInt8 × Bool
  | [] => ([], [], false)
  | x :: r => if x = c then ([], r, true) else (x :: (cutR c r).1, (cutR c r).2.1, (cutR c r).2.2)
theorem cutR_no {c : UInt8} : ∀ {l : List UInt8}, c ∉ l → cutR c l = (l, [], false)
  | [], _ => rfl
  | x :: r, h => by
    have h1 : x ≠ c := fun e => h (by rw [e]; exact List.mem_cons_self ..)
    unfold cutR
    rw [if_neg h1, cutR_no fun hm => h (List.mem_cons_of_mem _ hm)]
theorem cutR_app {c : UInt8} : ∀ {a b : List UInt8}, c ∉ a → cutR c (a ++ c :: b) = (a, b, true)
  | [], b, _ => by simp [cutR]
  | x :: r, b, h => by
    have h1 : x ≠ c := fun e => h (by rw [e]; exact List.mem_cons_self ..)
    rw [List.cons_append, cutR, if_neg h1, cutR_app fun hm => h (List.mem_cons_of_mem _ hm)]
theorem cut_ix (c : UInt8) : ∀ l : List UInt8, (Lib.indexByte l c = -1 ∧ cutR c l = (l, [], false)) ∨ (∃ i : Nat, Lib.indexByte l c = (i : Int) ∧ i + 1 ≤ l.length ∧ cutR c l = (l.take i, l.drop (i + 1), true))
  | [] => .inl ⟨rfl, rfl⟩
  | x :: r => by
    unfold Lib.indexByte cutR
    by_cases h : x = c
    · right
      exact ⟨0, by simp [h], by simp, by simp [h]⟩
    · have hb : (x == c) = false := by simpa using h
      rw [hb, if_neg h]
      rcases cut_ix c r with ⟨h1, h2⟩ | ⟨i, h1, h2, h3⟩
      · left
        rw [h1, h2]
        simp
      · right
        refine ⟨i + 1, ?_, by simp; omega, by rw [h3]; simp⟩
        rw [h1]
        have : ((i : Int) == -1) = false := by simp
        simp [this]
/-- after a cut -/
theorem cutR_eq {c : UInt8} : ∀ {l : List UInt8}, (cutR c l).2.2 = true → l = (cutR c l).1 ++ c :: (cutR c l).2.1 ∧ c ∉ (cutR c l).1
  | [], h => by cases h
  | x :: r, h => by
    unfold cutR at h ⊢
    by_cases hx : x = c
    · subst hx; simp
    · rw [if_neg hx] at h ⊢
      obtain ⟨h1, h2⟩ := cutR_eq (l := r) h
      refine ⟨by simp only [List.cons_append]; rw [← h1], fun hm => ?_⟩
      rcases List.mem_cons.1 hm with e | hm
      · exact hx e.symm
      · exact h2 hm
theorem cutR_none {c : UInt8} : ∀ {l : List UInt8}, (cutR c l).2.2 = false → c ∉ l ∧ cutR c l = (l, [], false)
  | [], _ => ⟨by simp, rfl⟩
  | x :: r, h => by
    by_cases hx : x = c
    · unfold cutR at h; rw [if_pos hx] at h; cases h
    · have h' : (cutR c r).2.2 = false := by unfold cutR at h; rw [if_neg hx] at h; exact h
      obtain ⟨h1, h2⟩ := cutR_none h'
      have h3 : c ∉ x :: r := fun hm => (List.mem_cons.1 hm).elim (fun e => hx e.symm) h1
      exact ⟨h3, cutR_no h3⟩
def CutP (c : UInt8) (l : List UInt8) (w : World) (e : Ending) (w' : World) : Prop := e = .returned (.tuple #[.string ⟨(cutR c l).1.toArray⟩, .string ⟨(cutR c l).2.1.toArray⟩, .bool (cutR c l).2.2]) ∧ Below w.heap.size w w'
set_option maxRecDepth 100000 in
set_option maxHeartbeats 4000000 in
theorem icut_any (c : UInt8) (l : List UInt8) (hl : l.length ≤ 9223372036854775807) (w : World) :
    Calls Tryz.prog 147 #[.string ⟨l.toArray⟩, .string ⟨#[c]⟩] w (CutP c l w) := by
  have hix := cut_ix c l
  have HIX := Lib.hid hix
  clear hix
  go_enter Tryz.func147, Tryz.ntmps147
  go_wp2_with fail
  refine (Tryz.stringslite_Index_one ⟨l.toArray⟩ c w).mono ?_
  rintro e w1 ⟨he, hw⟩
  subst hw
  rw [show (⟨l.toArray⟩ : ByteArray).data.toList = l from by simp] at he
  rcases HIX.out with ⟨h1, h2⟩ | ⟨i, h1, h2, h3⟩
  · rw [h1] at he
    subst he
    have HQ := Lib.hid h2
    clear h1 h2
    go_wp2_with fail
    go_ret3
    exact ⟨by rw [HQ.out]; rfl, Below.refl _ _⟩
  · rw [h1] at he
    subst he
    have HQ := Lib.hid h3
    have hsl1 : ∀ W, (Instr.sliceAt 9 (.string ⟨l.toArray⟩) none (some (.int .i64 (i : Int))) none).run Tryz.prog W = .ok (.string ⟨(l.take i).toArray⟩) W := fun W => str_to l i (by omega) W
    have hsl2 : ∀ W, (Instr.sliceAt 9 (.string ⟨l.toArray⟩) (some (.int .i64 ((i : Int) + 1))) none none).run Tryz.prog W = .ok (.string ⟨(l.drop (i + 1)).toArray⟩) W := fun W => str_from l (i + 1) h2 W
    have hwr : IntKind.i64.wrap ((i : Int) + 1) = (i : Int) + 1 := Go.IntWalk.i64_in _ (by omega)
    obtain ⟨A, hA⟩ : ∃ A, l.take i = A := ⟨_, rfl⟩
    obtain ⟨B, hB⟩ : ∃ B, l.drop (i + 1) = B := ⟨_, rfl⟩
    rw [hA] at hsl1
    rw [hB] at hsl2
    rw [hA, hB] at HQ
    clear h1 h3 hA hB
    go_wp2_with fail
    go_quiet (fail)
    go_wp2_with fail
    go_ret3
    exact ⟨by rw [HQ.out]; rfl, below_drewN (Below.refl _ _) _⟩
theorem cut_any (c : UInt8) (l : List UInt8) (hl : l.length ≤ 9223372036854775807) (w : World) :
    Calls Tryz.prog 125 #[.string ⟨l.toArray⟩, .string ⟨#[c]⟩] w (CutP c l w) := by
  go_enter Tryz.func125, Tryz.ntmps125
  go_wp2_with fail
  refine (icut_any c l hl w).mono ?_
  rintro e w1 ⟨rfl, hb⟩
  have HB := Lib.hid hb
  clear hb
  go_wp2_with fail
  go_ret3
  exact ⟨rfl, HB.out⟩
end Go.Proofs.YtakllkkmofdpaaaGreatDoor
/- Rational numbers as texts: rat.Check. -/
namespace Go.Proofs.YtakllkkmofdpaaaGreatDoor
open Go.ChangeShapes Go.WideShapes Go.ChangeAt Go.RowKit
set_option linter.unusedVariables false
set_option linter.unusedSimpArgs false
attribute [local go_sem ↓] execOp_call_val
attribute [local go_sem] callVal_func setCell_drewN alloc_drewN sEq_walk

def rtS (l : List UInt8) : List UInt8 := Lib.trimPrefix l [45]
def rtN (l : List UInt8) : List UInt8 := (cutR 47 (rtS l)).1
def rtD (l : List UInt8) : List UInt8 := (cutR 47 (rtS l)).2.1
def rtI (l : List UInt8) : Bool := (cutR 47 (rtS l)).2.2
def rtB (l : List UInt8) : Int := if rtI l then natCk (rtD l) else 0
def rtP5 (l : List UInt8) : Prop := natCk (rtN l) = 5 ∨ rtB l = 5 ∨ (rtN l = [48] ∧ (rtS l).length < l.length)
def rtP2 (l : List UInt8) : Prop := natCk (rtN l) ≠ 0 ∨ rtB l ≠ 0
def rtP3 (l : List UInt8) : Prop := rtD l = [48] ∨ rtD l = [49] ∨ (dv (rtN l)).gcd (dv (rtD l)) ≠ 1
instance (l : List UInt8) : Decidable (rtP5 l) := by unfold rtP5; infer_instance
instance (l : List UInt8) : Decidable (rtP2 l) := by unfold rtP2; infer_instance
instance (l : List UInt8) : Decidable (rtP3 l) := by unfold rtP3; infer_instance
def ratCk (l : List UInt8) : Int := if rtP5 l then 5 else if rtP2 l then 2 else if rtI l = true ∧ rtP3 l then 3 else 0
theorem sEq_one (l : List UInt8) (c : UInt8) : sEq ⟨l.toArray⟩ ⟨#[c]⟩ = decide (l = [c]) := by
  unfold sEq
  refine decide_eq_decide.2 ⟨fun h => ?_, fun h => by rw [h]⟩
  have := congrArg (fun (x : ByteArray) => x.data.toList) h
  simpa using this
theorem dec_one {n : Nat} : Lib.decDigits n = [49] ↔ n = 1 :=
  ⟨fun h => dec_inj (h.trans (show [49] = Lib.decDigits 1 by rw [dec_small (by decide)]; rfl)), fun h => by rw [h, dec_small (by decide)]; rfl⟩
set_option maxRecDepth 100000 in
set_option maxHeartbeats 4000000 in
theorem ratck_any (l : List UInt8) (hl : l.length ≤ maxLen) (w : World) (ht : TabOk w) :
    Calls Tryz.prog 97 #[.string ⟨l.toArray⟩] w fun e w' => e = .returned (.int .i64 (ratCk l)) ∧ Below w.heap.size w w' := by
  have HT := Lib.hid ht
  have hsl : (rtS l).length ≤ l.length := by unfold rtS Lib.trimPrefix; split <;> simp
  have HS : Hid (Lib.trimPrefix l [45] = rtS l) := Lib.hid rfl
  have hcl : (rtN l).length ≤ (rtS l).length ∧ (rtD l).length ≤ (rtS l).length := by
    unfold rtN rtD
    rcases cut_ix 47 (rtS l) with ⟨_, h⟩ | ⟨i, _, _, h⟩ <;> rw [h] <;> simp <;> omega
  have HCL := Lib.hid hcl
  have hm : (rtS l).length ≤ 9223372036854775807 := Nat.le_trans hsl (by unfold maxLen at hl; omega)
  have HLE := Lib.hid hl
  have HSZ : Hid ((⟨(rtS l).toArray⟩ : ByteArray).size = (rtS l).length) := Lib.hid (sz_arr _)
  have HSZ2 : Hid ((⟨l.toArray⟩ : ByteArray).size = l.length) := Lib.hid (sz_arr _)
  have HSL := Lib.hid hsl
  clear ht hcl hl hsl
  go_enter Tryz.func97, Tryz.ntmps97
  go_wp2_with fail
  refine (Tryz.strings_TrimPrefix ⟨l.toArray⟩ ⟨#[45]⟩ w).mono ?_
  rintro e w1 ⟨he, hw⟩
  subst hw
  rw [show (⟨l.toArray⟩ : ByteArray).data.toList = l from by simp, show (⟨#[45]⟩ : ByteArray).data.toList = [45] from rfl, HS.out] at he
  subst he
  go_wp2_with fail
  refine (cut_any 47 (rtS l) hm w1).mono ?_
  rintro e w2 ⟨he, hb2⟩
  rw [show (cutR 47 (rtS l)).1 = rtN l from rfl, show (cutR 47 (rtS l)).2.1 = rtD l from rfl, show (cutR 47 (rtS l)).2.2 = rtI l from rfl] at he
  subst he
  have HB2 := Lib.hid hb2
  clear hb2 hm
  have hq0 := sEq_one (rtN l) 48
  have hd0 := sEq_one (rtD l) 48
  have hd1 := sEq_one (rtD l) 49
  obtain ⟨tn, htn⟩ : ∃ t : ByteArray, ⟨(rtN l).toArray⟩ = t := ⟨_, rfl⟩
  obtain ⟨td, htd⟩ : ∃ t : ByteArray, ⟨(rtD l).toArray⟩ = t := ⟨_, rfl⟩
  have HTN : Hid (tn.data.toList = rtN l) := Lib.hid (by rw [← htn])
  have HTD : Hid (td.data.toList = rtD l) := Lib.hid (by rw [← htd])
  have HTNS : Hid (tn.size = (rtN l).length) := Lib.hid (by rw [← htn]; exact sz_arr _)
  have HTDS : Hid (td.size = (rtD l).length) := Lib.hid (by rw [← htd]; exact sz_arr _)
  rw [htn] at hq0 ⊢
  rw [htd] at hd0 hd1 ⊢
  have HQ0 := Lib.hid hq0
  have HQ1 := Lib.hid hd0
  have HQ2 := Lib.hid hd1
  clear htn htd hq0 hd0 hd1
  go_wp2_with fail
  refine (natck_any tn w2 (by rw [HTNS.out]; exact Nat.le_trans HCL.out.1 (Nat.le_trans HSL.out HLE.out))).mono ?_
  rw [HTN.out]
  rintro e w3 ⟨rfl, hb3⟩
  have HB3 := Lib.hid (HB2.out.trans (hb3.mono HB2.out.size))
  clear hb3 HB2
  obtain ⟨a, ha⟩ : ∃ a, natCk (rtN l) = a := ⟨_, rfl⟩
  obtain ⟨b, hb⟩ : ∃ b, rtB l = b := ⟨_, rfl⟩
  obtain ⟨is, his⟩ : ∃ i, rtI l = i := ⟨_, rfl⟩
  have HA := Lib.hid ha
  have HBb := Lib.hid hb
  have HI := Lib.hid his
  rw [ha, his]
  clear ha hb his
  go_upto_if 21 with fail
  go_cut [8] (fun v wc => v = .int .i64 b ∧ Below w1.heap.size w1 wc)
  case first =>
    cases is with
    | true =>
      go_wp2_with fail
      refine (natck_any td w3 (by rw [HTDS.out]; exact Nat.le_trans HCL.out.2 (Nat.le_trans HSL.out HLE.out))).mono ?_
      rw [HTD.out]
      rintro e w4 ⟨he, hb4⟩
      have hbe : natCk (rtD l) = b := by rw [← HBb.out]; unfold rtB; rw [HI.out]; rfl
      rw [hbe] at he
      subst he
      have HB4 := Lib.hid (HB3.out.trans (hb4.mono HB3.out.size))
      clear hb4 hbe
      go_wp2_with fail
      go_meet
      case rel => exact ⟨rfl, HB4.out⟩
    | false =>
      have hb0 : b = 0 := by rw [← HBb.out]; unfold rtB; rw [HI.out]; rfl
      subst hb0
      go_wp2_with fail
      go_meet
      case rel => exact ⟨rfl, HB3.out⟩
  obtain ⟨hv, hb4⟩ := hcut
  subst hv
  have HB4 := Lib.hid hb4
  clear hb4 HB3
  generalize wc = V at *
  go_upto_region 6 with fail
  go_cut [24] (fun v wd => wd = V ∧ v = .bool (decide (rtP5 l)))
  case first =>
    have HP5 : Hid (rtP5 l ↔ (a = 5 ∨ b = 5 ∨ (rtN l = [48] ∧ (rtS l).length < l.length))) := Lib.hid (by unfold rtP5; rw [HA.out, HBb.out])
    by_cases ha : a = 5
    · have hd : decide (rtP5 l) = true := decide_eq_true (HP5.out.2 (.inl ha))
      have hab : (a == 5) = true := by simp [ha]
      clear ha
      go_wp2_with fail
      go_meet
      case rel => exact ⟨rfl, by rw [hd]⟩
    · have hab : (a == 5) = false := by simp [ha]
      by_cases hb : b = 5
      · have hd : decide (rtP5 l) = true := decide_eq_true (HP5.out.2 (.inr (.inl hb)))
        have hbb : (b == 5) = true := by simp [hb]
        clear ha hb
        go_wp2_with fail
        go_meet
        case rel => exact ⟨rfl, by rw [hd]⟩
      · have hbb : (b == 5) = false := by simp [hb]
        have hs1 := HSZ.out
        have hs2 := HSZ2.out
        by_cases hn : rtN l = [48]
        · have hx : tn.toList = [48] := by rw [ByteArray.toList_eq, HTN.out]; exact hn
          by_cases hlt : (rtS l).length < l.length
          · have hd : decide (rtP5 l) = true := decide_eq_true (HP5.out.2 (.inr (.inr ⟨hn, hlt⟩)))
            have hlI : ((rtS l).length : Int) < (l.length : Int) := by omega
            clear ha hb hn hlt
            go_wp2_with fail
            go_meet
            case rel => exact ⟨rfl, by rw [hd]⟩
          · have hd : decide (rtP5 l) = false := decide_eq_false fun h => (HP5.out.1 h).elim ha fun h => h.elim hb fun h => hlt h.2
            have hlI : ¬ ((rtS l).length : Int) < (l.length : Int) := by omega
            clear ha hb hn hlt
            go_wp2_with fail
            go_meet
            case rel => exact ⟨rfl, by rw [hd]⟩
        · have hx : ¬ tn.toList = [48] := by rw [ByteArray.toList_eq, HTN.out]; exact hn
          have hd : decide (rtP5 l) = false := decide_eq_false fun h => (HP5.out.1 h).elim ha fun h => h.elim hb fun h => hn h.1
          clear ha hb hn
          go_wp2_with fail
          go_meet
          case rel => exact ⟨rfl, by rw [hd]⟩
  obtain ⟨hwc, rfl⟩ := hcut
  subst hwc
  generalize wc = V at *
  by_cases hP5 : rtP5 l
  · have hR : Hid (ratCk l = 5) := Lib.hid (by unfold ratCk; rw [if_pos hP5])
    rw [decide_eq_true hP5]
    clear hP5
    go_wp2_with fail
    go_ret
    exact ⟨ret_int hR.out.symm, HB4.out⟩
  · have HP5 := Lib.hid hP5
    rw [decide_eq_false hP5]
    clear hP5
    go_upto_region 8 with fail
    go_cut [42] (fun v wd => wd = V ∧ v = .bool (decide (rtP2 l)))
    case first =>
      have HP2 : Hid (rtP2 l ↔ (a ≠ 0 ∨ b ≠ 0)) := Lib.hid (by unfold rtP2; rw [HA.out, HBb.out])
      by_cases ha : a = 0
      · subst ha
        by_cases hb : b = 0
        · subst hb
          have hd : decide (rtP2 l) = false := decide_eq_false fun h => (HP2.out.1 h).elim (fun e => e rfl) fun e => e rfl
          go_wp2_with fail
          go_meet
          case rel => exact ⟨rfl, by rw [hd]⟩
        · have hd : decide (rtP2 l) = true := decide_eq_true (HP2.out.2 (.inr hb))
          have hbb : (b != 0) = true := by simp [hb]
          clear hb
          go_wp2_with fail
          go_meet
          case rel => exact ⟨rfl, by rw [hd]⟩
      · have hd : decide (rtP2 l) = true := decide_eq_true (HP2.out.2 (.inl ha))
        have hab : (a != 0) = true := by simp [ha]
        clear ha
        go_wp2_with fail
        go_meet
        case rel => exact ⟨rfl, by rw [hd]⟩
    obtain ⟨hwc, rfl⟩ := hcut
    subst hwc
    generalize wc = V at *
    by_cases hP2 : rtP2 l
    · have hR : Hid (ratCk l = 2) := Lib.hid (by unfold ratCk; rw [if_neg HP5.out, if_pos hP2])
      rw [decide_eq_true hP2]
      clear hP2
      go_wp2_with fail
      go_ret
      exact ⟨ret_int hR.out.symm, HB4.out⟩
    · have HP2 := Lib.hid hP2
      rw [decide_eq_false hP2]
      clear hP2
      cases is with
      | false =>
        have hR : Hid (ratCk l = 0) := Lib.hid (by unfold ratCk; rw [if_neg HP5.out, if_neg HP2.out, if_neg (by rw [HI.out]; simp)])
        go_wp2_with fail
        go_ret
        exact ⟨ret_int hR.out.symm, HB4.out⟩
      | true =>
        have hn0 : natCk tn.data.toList = 0 := by rw [HTN.out]; exact Classical.byContradiction fun h => HP2.out (.inl h)
        have hd0 : natCk td.data.toList = 0 := by
          rw [HTD.out]
          refine Classical.byContradiction fun h => HP2.out (.inr ?_)
          unfold rtB
          rw [HI.out]
          exact h
        go_wp2_with fail
        refine (ngcd_ok tn td V hn0 hd0 (HT.out.up HB4.out)).mono ?_
        rw [HTN.out, HTD.out]
        rintro e w6 ⟨rfl, hb6⟩
        have HB6 := Lib.hid (HB4.out.trans (hb6.mono HB4.out.size))
        clear hb6 hn0 hd0
        obtain ⟨tg, htg⟩ : ∃ t : ByteArray, ⟨(Lib.decDigits ((dv (rtN l)).gcd (dv (rtD l)))).toArray⟩ = t := ⟨_, rfl⟩
        have HTG : Hid (tg.toList = [49] ↔ (dv (rtN l)).gcd (dv (rtD l)) = 1) := Lib.hid (by
          rw [ByteArray.toList_eq, ← htg]
          exact dec_one)
        have HTL : Hid (td.toList = rtD l) := Lib.hid (by rw [ByteArray.toList_eq]; exact HTD.out)
        rw [htg]
        clear htg
        go_upto_region 12 with fail
        go_cut [65] (fun v wd => wd = w6 ∧ v = .bool (decide (rtP3 l)))
        case first =>
          by_cases h0 : td.toList = [48]
          · have hd : decide (rtP3 l) = true := decide_eq_true (.inl (by rw [← HTL.out]; exact h0))
            go_wp2_with fail
            go_meet
            case rel => exact ⟨rfl, by rw [hd]⟩
          · by_cases h1 : td.toList = [49]
            · have hd : decide (rtP3 l) = true := decide_eq_true (.inr (.inl (by rw [← HTL.out]; exact h1)))
              go_wp2_with fail
              go_meet
              case rel => exact ⟨rfl, by rw [hd]⟩
            · by_cases h2 : tg.toList = [49]
              · have hd : decide (rtP3 l) = false := decide_eq_false fun h => h.elim (fun h => h0 (HTL.out.trans h)) fun h => h.elim (fun h => h1 (HTL.out.trans h)) fun h => h (HTG.out.1 h2)
                go_wp2_with fail
                go_meet
                case rel => exact ⟨rfl, by rw [hd]; simp [h0, h1, h2]⟩
              · have hd : decide (rtP3 l) = true := decide_eq_true (.inr (.inr fun h => h2 (HTG.out.2 h)))
                go_wp2_with fail
                go_meet
                case rel => exact ⟨rfl, by rw [hd]; simp [h0, h1, h2]⟩
        obtain ⟨hwc, rfl⟩ := hcut
        subst hwc
        by_cases hP3 : rtP3 l
        · have hR : Hid (ratCk l = 3) := Lib.hid (by unfold ratCk; rw [if_neg HP5.out, if_neg HP2.out, if_pos ⟨HI.out, hP3⟩])
          rw [decide_eq_true hP3]
          clear hP3
          go_wp2_with fail
          go_ret
          exact ⟨ret_int hR.out.symm, HB6.out⟩
        · have hR : Hid (ratCk l = 0) := Lib.hid (by unfold ratCk; rw [if_neg HP5.out, if_neg HP2.out, if_neg (fun h => hP3 h.2)])
          rw [decide_eq_false hP3]
          clear hP3
          go_wp2_with fail
          go_ret
          exact ⟨ret_int hR.out.symm, HB6.out⟩
end Go.Proofs.YtakllkkmofdpaaaGreatDoor
/- Rational numbers in memory. -/
namespace Go.Proofs.YtakllkkmofdpaaaGreatDoor
open Go.ChangeShapes Go.WideShapes Go.ChangeAt Go.RowKit
set_option linter.unusedVariables false
set_option linter.unusedSimpArgs false

/-- a rational number in memory: numerator and denominator -/
structure RtIs (w : World) (B : Nat) (q : Rat) (b1 : Bool) (A : Option Addr) (n c : Nat) (b2 : Bool) (A2 : Option Addr) (m d : Nat) : Prop where
  num : LgIs w B q.num b1 A n c
  den : LgIs w B (q.den : Int) b2 A2 m d
section
variable {w w' : World} {B B' : Nat} {q : Rat} {b1 : Bool} {A : Option Addr} {n c : Nat} {b2 : Bool} {A2 : Option Addr} {m d : Nat}
theorem RtIs.below (h : RtIs w B q b1 A n c b2 A2 m d) (hb : Below B' w w') (hB : B ≤ B') : RtIs w' B q b1 A n c b2 A2 m d := ⟨h.num.below hb hB, h.den.below hb hB⟩
theorem RtIs.more (h : RtIs w B q b1 A n c b2 A2 m d) (hB : B ≤ B') : RtIs w B' q b1 A n c b2 A2 m d := ⟨h.num.more hB, h.den.more hB⟩
theorem RtIs.up (h : RtIs w w.heap.size q b1 A n c b2 A2 m d) (hb : Below w.heap.size w w') : RtIs w' w'.heap.size q b1 A n c b2 A2 m d := ⟨h.num.up hb, h.den.up hb⟩
theorem RtIs.keep (h : RtIs w w.heap.size q b1 A n c b2 A2 m d) {p : Addr} {v : Value} (hp : w.cell? p = some v) (hv : ∀ k x, v ≠ .int k x) (u : Value) : RtIs (w.setCell p u) (w.setCell p u).heap.size q b1 A n c b2 A2 m d := ⟨h.num.keep hp hv u, h.den.keep hp hv u⟩
theorem RtIs.n_le (h : RtIs w B q b1 A n c b2 A2 m d) : n ≤ qsz q := by rw [h.num.en]; exact qsz_num q
theorem RtIs.m_le (h : RtIs w B q b1 A n c b2 A2 m d) : m ≤ qsz q := by rw [h.den.en, Int.natAbs_natCast]; exact qsz_den q
theorem RtIs.pos (h : RtIs w B q b1 A n c b2 A2 m d) : b2 = false := by rw [h.den.eb]; simp
end
/-- what an operation on rational numbers hands back -/
def RtP (q : Rat) (w : World) (e : Ending) (w' : World) : Prop := Below w.heap.size w w' ∧ ∃ b1 A n c b2 A2 m d, e = .returned (.agg #[.bool b1, .slice A n c, .bool b2, .slice A2 m d]) ∧ RtIs w' w'.heap.size q b1 A n c b2 A2 m d
theorem blk_set4 {w : World} {p t : Nat} {v0 v1 v2 v3 x0 x1 x2 x3 : Value} (h : Blk w p t #[x0, x1, x2, x3]) : Blk ((((w.setCell ⟨p, 0, none⟩ v0).setCell ⟨p, 1, none⟩ v1).setCell ⟨p, 2, none⟩ v2).setCell ⟨p, 3, none⟩ v3) p t #[v0, v1, v2, v3] :=
  (((h.set_at (i := 0) (cs' := #[v0, x1, x2, x3]) v0 (by simp)).set_at (i := 1) (cs' := #[v0, v1, x2, x3]) v1 (by simp)).set_at (i := 2) (cs' := #[v0, v1, v2, x3]) v2 (by simp)).set_at (i := 3) v3 (by simp)
theorem below_set4 {a w : World} {B p : Nat} {v0 v1 v2 v3 : Value} (h : Below B a w) (hp : B ≤ p) : Below B a ((((w.setCell ⟨p, 0, none⟩ v0).setCell ⟨p, 1, none⟩ v1).setCell ⟨p, 2, none⟩ v2).setCell ⟨p, 3, none⟩ v3) := (((h.setCell hp _).setCell hp _).setCell hp _).setCell hp _
/-- a result that was put into the result's block -/
theorem rt_put {w w2 : World} {g T : Nat} {v0 v1 v2 v3 : Value} {q : Rat} {b1 : Bool} {A : Option Addr} {n c : Nat} {b2 : Bool} {A2 : Option Addr} {m d : Nat} {e : Ending} (hb : Below w.heap.size w w2) (hg : w.heap.size ≤ g) (hB : Blk w2 g T #[v0, v1, v2, v3]) (h0 : ∀ k x, v0 ≠ .int k x) (h1 : ∀ k x, v1 ≠ .int k x) (h2 : ∀ k x, v2 ≠ .int k x) (h3 : ∀ k x, v3 ≠ .int k x) (h : RtIs w2 w2.heap.size q b1 A n c b2 A2 m d) (he : e = .returned (.agg #[.bool b1, .slice A n c, .bool b2, .slice A2 m d])) :
    RtP q w e ((((w2.setCell ⟨g, 0, none⟩ (.bool b1)).setCell ⟨g, 1, none⟩ (.slice A n c)).setCell ⟨g, 2, none⟩ (.bool b2)).setCell ⟨g, 3, none⟩ (.slice A2 m d)) := by
  refine ⟨below_set4 hb hg, b1, A, n, c, b2, A2, m, d, he, ?_⟩
  have B1 := hB.set_at (i := 0) (cs' := #[.bool b1, v1, v2, v3]) (.bool b1) (by simp)
  have B2 := B1.set_at (i := 1) (cs' := #[.bool b1, .slice A n c, v2, v3]) (.slice A n c) (by simp)
  have B3 := B2.set_at (i := 2) (cs' := #[.bool b1, .slice A n c, .bool b2, v3]) (.bool b2) (by simp)
  exact (((h.keep (hB.cell 0) h0 _).keep (B1.cell 1) h1 _).keep (B2.cell 2) h2 _).keep (B3.cell 3) h3 _
end Go.Proofs.YtakllkkmofdpaaaGreatDoor
