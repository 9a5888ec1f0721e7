/- The parser of package relaylang: number. -/
import Derived.Test.YtaanoljfhnfjoaaGreatDoorRF3
import Derived.Lib.ItoaLen
import Derived.Lib.SmallJoins
import Derived.Lib.AppendIntMem
import Derived.Shelf.Strconv.ErrVarAll
import Derived.Lib.AtoiErrMem
namespace Go.Proofs.YtaanoljfhnfjoaaGreatDoor
open Go.ChangeShapes Go.WideShapes Go.ChangeAt Go.RowKit Go.Joins
set_option linter.unusedVariables false
set_option linter.unusedSimpArgs false
attribute [local go_sem ↓] execOp_call_val
attribute [local go_sem] callVal_func setCell_drewN alloc_drewN sEq_walk

def TabOk (w : World) : Prop := Lib.TabIs Tryz.prog w "internal/strconv.uint64pow10" .u64 Lib.pow10Tab
theorem TabOk.up {w w' : World} (h : TabOk w) (hb : Below w.heap.size w w') : TabOk w' := tab_stays (show Tryz.prog.globalNamed "internal/strconv.uint64pow10" = some 1 by kernel_rfl) h hb (Nat.le_refl _)
def itoaB (n : Int) : ByteArray := ⟨(Lib.itoa n).toArray⟩
theorem itoa_any (n : Int) (h0 : -9223372036854775808 ≤ n) (h1 : n ≤ 9223372036854775807) (w : World) (ht : TabOk w) :
    Calls Tryz.prog 34 #[.int .i64 n] w fun e w' => e = .returned (.string (itoaB n)) ∧ Below w.heap.size w w' :=
  (Tryz.strconv_Itoa n h0 h1 w ht).mono fun e w' ⟨he, k, os, hw⟩ => ⟨he, by rw [hw]; exact Lib.below_grow w.heap.size w (Nat.le_refl _) k os⟩
def IfV (v : Value) : Prop := v = .nilIface ∨ ∃ te pe, v = .iface te pe
/-- what the library's variables hold, as the walks of Parse ask it -/
structure EnvJ (w : World) : Prop where
  tab : TabOk w
  mx : ∃ m, w.cell? ⟨0, 0, none⟩ = some (.int .i64 m)
  es : ∃ v, w.cell? ⟨6, 0, none⟩ = some v ∧ IfV v
  er : ∃ v, w.cell? ⟨7, 0, none⟩ = some v ∧ IfV v
theorem EnvJ.up {w w' : World} (h : EnvJ w) (hb : Below w.heap.size w w') : EnvJ w' := by
  obtain ⟨h1, ⟨m, h2⟩, ⟨v, h3, i3⟩, ⟨u, h4, i4⟩⟩ := h
  exact ⟨h1.up hb, ⟨m, (hb.cell (cell_lt h2).1).trans h2⟩, ⟨v, (hb.cell (cell_lt h3).1).trans h3, i3⟩, ⟨u, (hb.cell (cell_lt h4).1).trans h4, i4⟩⟩
theorem atoi_any (s : ByteArray) (hs : s.size ≤ 281474976710656) (w : World) (he : EnvJ w) :
    Calls Tryz.prog 99 #[.string s] w fun e w' => Below w.heap.size w w' ∧ ((∃ n, Lib.atoiAll (bbs s) = .ok n ∧ e = .returned (.tuple #[.int .i64 n, .nilIface])) ∨
      ((∀ n, Lib.atoiAll (bbs s) ≠ .ok n) ∧ ∃ n t p, e = .returned (.tuple #[.int .i64 n, .iface t p]))) := by
  obtain ⟨_, _, ⟨v, h3, i3⟩, ⟨u, h4, i4⟩⟩ := he
  cases hh : Lib.atoiAll s.data.toList
  · rename_i n
    refine (Any.strconv_Atoi_ok Tryz.laysC172 s (by omega) n hh w).mono ?_
    rintro e w' ⟨rfl, hw⟩
    refine ⟨?_, .inl ⟨n, hh, rfl⟩⟩
    rcases hw with rfl | ⟨t, rfl⟩
    · exact Below.refl _ _
    · exact Lib.bytesWorld_below _ _ _
  · refine (Any.strconv_Atoi_syntax Tryz.laysC172 s hs hh v w h3 i3).mono ?_
    rintro e w' ⟨N, rfl, _, _, hb⟩
    exact ⟨hb, .inr ⟨(fun n hn => by unfold bbs at hn; rw [hh] at hn; cases hn), _, _, _, rfl⟩⟩
  · refine (Any.strconv_Atoi_range Tryz.laysC172 s hs hh u w h4 i4).mono ?_
    rintro e w' ⟨N, rfl, _, _, hb⟩
    exact ⟨hb, .inr ⟨(fun n hn => by unfold bbs at hn; rw [hh] at hn; cases hn), _, _, _, rfl⟩⟩

/-! ### what numbers are -/
theorem parse_bd : ∀ (l : Bs) (acc u : Nat), Lib.parseUint10 acc l = .ok u → u + 1 ≤ (acc + 1) * 10 ^ l.length
  | [], acc, u, h => by simp only [Lib.parseUint10] at h; injection h with h; simp; omega
  | c :: r, acc, u, h => by
    simp only [Lib.parseUint10] at h
    split at h
    · split at h
      · cases h
      · split at h
        · cases h
        · have := parse_bd r _ u h
          refine Nat.le_trans this ?_
          rw [List.length_cons, Nat.pow_succ, Nat.mul_comm (10 ^ r.length) 10, ← Nat.mul_assoc]
          exact Nat.mul_le_mul_right _ (by omega)
    · cases h
theorem atoi_dig {sd : Bs} (hd : ∀ c ∈ sd, dch c = true) {v : Int} (h : Lib.atoiAll sd = .ok v) : sd ≠ [] ∧ decN sd = v ∧ -9223372036854775808 ≤ v ∧ v ≤ 9223372036854775807 := by
  refine ⟨fun e => ?_, ?_, Lib.atoiAll_bounds h⟩
  · subst e; cases h
  · cases sd with
    | nil => cases h
    | cons c r =>
      have hc := of_decide_eq_true (hd c (by simp))
      simp only [Lib.atoiAll] at h
      rw [if_neg (by omega)] at h
      unfold Lib.parseMag at h
      rw [if_neg (by simp)] at h
      unfold decN
      cases hp : Lib.parseUint10 0 (c :: r) with
      | ok u =>
        rw [hp] at h
        simp only at h ⊢
        split at h
        · cases h
        · split at h
          · cases h
          · rw [if_neg (by omega)] at h; injection h
      | _ => rw [hp] at h; cases h
theorem atoi_no {sd : Bs} (hd : ∀ c ∈ sd, dch c = true) (h : ∀ n, Lib.atoiAll sd ≠ .ok n) : ¬ (sd.length ≤ 7 ∧ sd ≠ [] ∧ Lib.itoa (decN sd) = sd) := by
  rintro ⟨h1, h2, h3⟩
  cases sd with
  | nil => exact h2 rfl
  | cons c r =>
    have hc := of_decide_eq_true (hd c (by simp))
    cases hp : Lib.parseUint10 0 (c :: r) with
    | ok u =>
      have hb := parse_bd _ _ _ hp
      have hpow : 10 ^ (c :: r).length ≤ 10 ^ 7 := Nat.pow_le_pow_right (by decide) h1
      refine h (u : Int) ?_
      simp only [Lib.atoiAll]
      rw [if_neg (by omega)]
      unfold Lib.parseMag
      rw [if_neg (by simp), hp]
      simp only
      rw [if_neg (by omega), if_neg (by omega), if_neg (by omega)]
    | _ =>
      have h0 : decN (c :: r) = 0 := by unfold decN; rw [hp]
      rw [h0, show Lib.itoa 0 = [48] by unfold Lib.itoa; rw [if_neg (by decide), show (0 : Int).toNat = 0 from rfl, Lib.decDigits_one (by decide)]; rfl] at h3
      rw [← h3] at hp
      cases hp
theorem numP_yes {s : ByteArray} {v : Int} (h : Lib.atoiAll ((bbs s).takeWhile dch) = .ok v) (h7 : ((bbs s).takeWhile dch).length ≤ 7) (hi : Lib.itoa v = (bbs s).takeWhile dch) : numP NM (bbs s) = some (v, (bbs s).dropWhile dch) := by
  obtain ⟨a1, a2, _, _⟩ := atoi_dig (fun c hc => List.all_eq_true.1 List.all_takeWhile c hc) h
  unfold numP
  have e : NM.dec ((bbs s).takeWhile dch) = v := a2
  rw [e, if_pos ⟨h7, a1, hi⟩]
theorem numP_no {s : ByteArray} (h : ¬ (((bbs s).takeWhile dch).length ≤ 7 ∧ (bbs s).takeWhile dch ≠ [] ∧ Lib.itoa (decN ((bbs s).takeWhile dch)) = (bbs s).takeWhile dch)) : numP NM (bbs s) = none := by
  unfold numP
  exact if_neg h
theorem tw_end {p : UInt8 → Bool} {s : ByteArray} {k : Nat} (hk : k ≤ s.size) (h : ∀ c ∈ (bbs s).take k, p c = true) (he : ∀ hl : k < s.size, p s[k] = false) : s.extract 0 k = bsB ((bbs s).takeWhile p) ∧ s.extract k s.size = bsB ((bbs s).dropWhile p) := by
  have hr : ((bbs s).drop k).takeWhile p = [] := by
    rcases Nat.lt_or_ge k s.size with hl | hl
    · have e : (bbs s).drop k = s[k] :: (bbs s).drop (k + 1) := List.drop_eq_getElem_cons (l := bbs s) (i := k) hl
      rw [e, List.takeWhile_cons, he hl]
      rfl
    · rw [List.drop_eq_nil_iff.2 (show (bbs s).length ≤ k from hl)]; rfl
  obtain ⟨h1, h2⟩ := tw_app h hr
  rw [List.take_append_drop] at h1 h2
  refine ⟨bl_inj ?_, bl_inj ?_⟩
  · show bbs (s.extract 0 k) = (bbs s).takeWhile p
    rw [ext_bbs, h1, List.drop_zero, Nat.sub_zero]
  · show bbs (s.extract k s.size) = (bbs s).dropWhile p
    rw [ext_bbs, h2, List.take_of_length_le (by rw [List.length_drop]; exact Nat.le_refl _)]
theorem tw_more {p : UInt8 → Bool} {s : ByteArray} {k : Nat} (hl : k < s.size) (h : ∀ c ∈ (bbs s).take k, p c = true) (he : p s[k] = true) : ∀ c ∈ (bbs s).take (k + 1), p c = true := fun c hc => by
  have e : (bbs s)[k]? = some s[k] := List.getElem?_eq_getElem (l := bbs s) hl
  rw [List.take_add_one, e] at hc
  rcases List.mem_append.1 hc with hc | hc
  · exact h c hc
  · have : c = s[k] := by simpa using hc
    rw [this]; exact he
/-- the library's variables, apart from the parser's object -/
def EnvG (w : World) (g : Nat) : Prop := ∃ w0 : World, EnvJ w0 ∧ Below w0.heap.size w0 w ∧ w0.heap.size ≤ g
theorem EnvG.env {w : World} {g : Nat} (h : EnvG w g) : EnvJ w := by
  obtain ⟨w0, h1, h2, _⟩ := h
  exact h1.up h2
theorem EnvG.grown {w w' : World} {g : Nat} (h : EnvG w g) (k : w.grownBy w' (some g)) : EnvG w' g := by
  obtain ⟨w0, h1, h2, h3⟩ := h
  exact ⟨w0, h1, below_only h2 k h3 (Nat.le_refl _), h3⟩
/-- what number does -/
def NumE (s : ByteArray) (g : Nat) (bad : Bool) (w : World) (e : Ending) (w' : World) : Prop :=
  w.grownBy w' (some g) ∧ ∃ v b, e = .returned (.int .i64 v) ∧ Par w' g (bsB ((bbs s).dropWhile dch)) b ∧ ((b = bad ∧ numP NM (bbs s) = some (v, (bbs s).dropWhile dch)) ∨ (b = true ∧ numP NM (bbs s) = none))
set_option maxRecDepth 100000 in
set_option maxHeartbeats 4000000 in
theorem num_any (g : Nat) (s : ByteArray) (bad : Bool) (w : World) (hB : Par w g s bad) (hs : s.size ≤ 8192) (hE : EnvG w g) :
    Calls Tryz.prog 83 #[.pointer (some ⟨g, 0, none⟩)] w (NumE s g bad w) := by
  have HE := Lib.hid hE
  have HP : Hid (∀ e w', NumE s g bad w e w' = (w.grownBy w' (some g) ∧ ∃ v b, e = .returned (.int .i64 v) ∧ Par w' g (bsB ((bbs s).dropWhile dch)) b ∧ ((b = bad ∧ numP NM (bbs s) = some (v, (bbs s).dropWhile dch)) ∨ (b = true ∧ numP NM (bbs s) = none)))) := Lib.hid fun _ _ => rfl
  obtain ⟨sd, hsd⟩ : ∃ q, q = bsB ((bbs s).takeWhile dch) := ⟨_, rfl⟩
  obtain ⟨rs, hrs⟩ : ∃ q, q = bsB ((bbs s).dropWhile dch) := ⟨_, rfl⟩
  obtain ⟨np, hnp⟩ : ∃ q, q = numP NM (bbs s) := ⟨_, rfl⟩
  have HEX : Hid (∀ k, k ≤ s.size → (∀ c ∈ (bbs s).take k, dch c = true) → (∀ hl : k < s.size, dch s[k] = false) → s.extract 0 k = sd ∧ s.extract k s.size = rs) := Lib.hid fun k h1 h2 h3 => by
    rw [hsd, hrs]; exact tw_end h1 h2 h3
  have HY : Hid (∀ v, Lib.atoiAll (bbs sd) = .ok v → sd.size ≤ 7 → itoaB v = sd → np = some (v, (bbs s).dropWhile dch)) := Lib.hid fun v h1 h2 h3 => by
    subst hsd; rw [hnp]; exact numP_yes h1 h2 (by have := congrArg bbs h3; exact this)
  have HN1 : Hid ((∀ n, Lib.atoiAll (bbs sd) ≠ .ok n) → np = none) := Lib.hid fun h => by
    subst hsd; rw [hnp]; exact numP_no (atoi_no (fun c hc => List.all_eq_true.1 List.all_takeWhile c hc) h)
  have HN2 : Hid (∀ v, Lib.atoiAll (bbs sd) = .ok v → ¬ (sd.size ≤ 7 ∧ itoaB v = sd) → np = none) := Lib.hid fun v h hn => by
    subst hsd; rw [hnp]
    refine numP_no fun h2 => hn ⟨h2.1, ?_⟩
    have := (atoi_dig (sd := (bbs s).takeWhile dch) (fun c hc => List.all_eq_true.1 List.all_takeWhile c hc) h).2.1
    rw [this] at h2
    exact congrArg bsB h2.2.2
  have hss : sd.size ≤ 8192 := by
    have h1 := dropWhile_len (p := dch) (bbs s)
    have h2 : (bbs s).length = s.size := rfl
    have h3 : sd.size = ((bbs s).takeWhile dch).length := by rw [hsd]; rfl
    omega
  rw [← hrs, ← hnp] at HP
  have c0 := hB.cell 0
  have cl := hB.lt
  have cf := hB.frozen
  have HBB := Lib.hid hB
  clear hB hE hsd hrs hnp
  go_enter Tryz.func83, Tryz.ntmps83
  go_wp2_with fail
  go_loopw [3] (fun i wr => ∃ k : Nat, k ≤ s.size ∧ i = .int .i64 k ∧ wr = w ∧ ∀ c ∈ (bbs s).take k, dch c = true) (fun i _ => s.size - (intOf i).toNat)
  case atStart => exact ⟨0, by omega, rfl, rfl, by simp⟩
  case round =>
    obtain ⟨k, hk, rfl, rfl, hw⟩ := hrel
    have HWD := Lib.hid hw
    clear hw
    by_cases hlt : k < s.size
    · have hltI : (k : Int) < (s.size : Int) := by omega
      go_wp2_with fail
      all_goals first
        | (go_roundw
           case rel => exact ⟨k + 1, hlt, by go_num, (by first | rfl | trivial), tw_more hlt HWD.out (by unfold dch; exact decide_eq_true (by omega))⟩
           case measure => simp [intOf]; omega)
        | skip
      all_goals
        obtain ⟨e1, e2⟩ := HEX.out k hk HWD.out (fun hl => by unfold dch; exact decide_eq_false (by omega))
        rw [e1, e2]
      all_goals
        clear e1 e2 c0 cl cf
        have hp2 : Par (wr.setCell ⟨g, 0, none⟩ (.string rs)) g rs bad := Blk.set_at _ rfl HBB.out
        have HG := Lib.hid (only_set (p := g) 0 (.string rs) (only_of_below (Below.refl _ _) (some g)) : wr.grownBy (wr.setCell ⟨g, 0, none⟩ (.string rs)) (some g))
        generalize wr.setCell ⟨g, 0, none⟩ (.string rs) = w1 at *
        have HE1 := Lib.hid (HE.out.grown HG.out)
        have HPP := Lib.hid hp2
        clear hp2
        refine (atoi_any sd (by omega) w1 HE1.out.env).mono ?_
        rintro e w2 ⟨k2, h2⟩
        have hp2 : Par w2 g rs bad := HPP.out.below k2 HPP.out.lt
        have c1 := hp2.cell 1
        have cl := hp2.lt
        have cf := hp2.frozen
        have HPP2 := Lib.hid hp2
        have HG2 := Lib.hid (only_trans HG.out (only_of_below k2 (some g)))
        have HE2 := Lib.hid (HE.out.grown HG2.out)
        clear k2 hp2
        rcases h2 with ⟨n, hn, rfl⟩ | ⟨hn, n, t, p, rfl⟩
        · have HNN := Lib.hid hn
          obtain ⟨hn0, hn1⟩ := Lib.atoiAll_bounds hn
          clear hn
          by_cases h7 : sd.size ≤ 7
          · have h7I : ¬ (7 : Int) < (sd.size : Int) := by omega
            go_wp2_with fail
            refine (itoa_any n hn0 hn1 _ HE2.out.env.tab).mono ?_
            rintro e w3 ⟨rfl, k3⟩
            have hp3 : Par w3 g rs bad := HPP2.out.below k3 HPP2.out.lt
            have c3 := hp3.cell 1
            have cl3 := hp3.lt
            have cf3 := hp3.frozen
            have HPP3 := Lib.hid hp3
            have HG3 := Lib.hid (only_trans HG2.out (only_of_below k3 (some g)))
            clear k3 hp3 c1 cl cf
            cases hq : sEq (itoaB n) sd with
            | true =>
              have hqs := Lib.hid (sEq_iff.1 hq)
              go_wp2_with fail
              go_ret
              rw [HP.out]
              exact ⟨HG3.out, _, _, rfl, HPP3.out, .inl ⟨rfl, HY.out n HNN.out h7 hqs.out⟩⟩
            | false =>
              have hqs := Lib.hid (sEq_ff.1 hq)
              go_wp2_with fail
              go_ret
              rw [HP.out]
              exact ⟨only_set 1 _ HG3.out, _, _, rfl, Blk.set_at _ rfl HPP3.out, .inr ⟨rfl, HN2.out n HNN.out (fun h => hqs.out h.2)⟩⟩
          · have h7I : (7 : Int) < (sd.size : Int) := by omega
            go_wp2_with fail
            go_ret
            rw [HP.out]
            exact ⟨only_set 1 _ HG2.out, _, _, rfl, Blk.set_at _ rfl HPP2.out, .inr ⟨rfl, HN2.out n HNN.out (fun h => h7 h.1)⟩⟩
        · go_wp2_with fail
          go_ret
          rw [HP.out]
          exact ⟨only_set 1 _ HG2.out, _, _, rfl, Blk.set_at _ rfl HPP2.out, .inr ⟨rfl, HN1.out hn⟩⟩
    · go_wp2_with fail
      obtain ⟨e1, e2⟩ := HEX.out k hk HWD.out (fun hl => absurd hl hlt)
      rw [e1, e2]
      clear e1 e2 c0 cl cf
      have hp2 : Par (wr.setCell ⟨g, 0, none⟩ (.string rs)) g rs bad := Blk.set_at _ rfl HBB.out
      have HG := Lib.hid (only_set (p := g) 0 (.string rs) (only_of_below (Below.refl _ _) (some g)) : wr.grownBy (wr.setCell ⟨g, 0, none⟩ (.string rs)) (some g))
      generalize wr.setCell ⟨g, 0, none⟩ (.string rs) = w1 at *
      have HE1 := Lib.hid (HE.out.grown HG.out)
      have HPP := Lib.hid hp2
      clear hp2
      refine (atoi_any sd (by omega) w1 HE1.out.env).mono ?_
      rintro e w2 ⟨k2, h2⟩
      have hp2 : Par w2 g rs bad := HPP.out.below k2 HPP.out.lt
      have c1 := hp2.cell 1
      have cl := hp2.lt
      have cf := hp2.frozen
      have HPP2 := Lib.hid hp2
      have HG2 := Lib.hid (only_trans HG.out (only_of_below k2 (some g)))
      have HE2 := Lib.hid (HE.out.grown HG2.out)
      clear k2 hp2
      rcases h2 with ⟨n, hn, rfl⟩ | ⟨hn, n, t, p, rfl⟩
      · have HNN := Lib.hid hn
        obtain ⟨hn0, hn1⟩ := Lib.atoiAll_bounds hn
        clear hn
        by_cases h7 : sd.size ≤ 7
        · have h7I : ¬ (7 : Int) < (sd.size : Int) := by omega
          go_wp2_with fail
          refine (itoa_any n hn0 hn1 _ HE2.out.env.tab).mono ?_
          rintro e w3 ⟨rfl, k3⟩
          have hp3 : Par w3 g rs bad := HPP2.out.below k3 HPP2.out.lt
          have c3 := hp3.cell 1
          have cl3 := hp3.lt
          have cf3 := hp3.frozen
          have HPP3 := Lib.hid hp3
          have HG3 := Lib.hid (only_trans HG2.out (only_of_below k3 (some g)))
          clear k3 hp3 c1 cl cf
          cases hq : sEq (itoaB n) sd with
          | true =>
            have hqs := Lib.hid (sEq_iff.1 hq)
            go_wp2_with fail
            go_ret
            rw [HP.out]
            exact ⟨HG3.out, _, _, rfl, HPP3.out, .inl ⟨rfl, HY.out n HNN.out h7 hqs.out⟩⟩
          | false =>
            have hqs := Lib.hid (sEq_ff.1 hq)
            go_wp2_with fail
            go_ret
            rw [HP.out]
            exact ⟨only_set 1 _ HG3.out, _, _, rfl, Blk.set_at _ rfl HPP3.out, .inr ⟨rfl, HN2.out n HNN.out (fun h => hqs.out h.2)⟩⟩
        · have h7I : (7 : Int) < (sd.size : Int) := by omega
          go_wp2_with fail
          go_ret
          rw [HP.out]
          exact ⟨only_set 1 _ HG2.out, _, _, rfl, Blk.set_at _ rfl HPP2.out, .inr ⟨rfl, HN2.out n HNN.out (fun h => h7 h.1)⟩⟩
      · go_wp2_with fail
        go_ret
        rw [HP.out]
        exact ⟨only_set 1 _ HG2.out, _, _, rfl, Blk.set_at _ rfl HPP2.out, .inr ⟨rfl, HN1.out hn⟩⟩
end Go.Proofs.YtaanoljfhnfjoaaGreatDoor
