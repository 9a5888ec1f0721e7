/- The parser of package relaylang: take, need, word, name. -/
import Derived.Test.YtaanoljfhnfjoaaGreatDoorD6
import Derived.Test.YtaanoljfhnfjoaaGreatDoorRE4
import Derived.Test.YtaanoljfhnfjoaaGreatDoorSh
namespace Go.Proofs.YtaanoljfhnfjoaaGreatDoor
open Go.ChangeShapes Go.WideShapes Go.ChangeAt Go.RowKit
set_option linter.unusedVariables false
set_option linter.unusedSimpArgs false
attribute [local go_sem ↓] execOp_call_val
attribute [local go_sem] callVal_func setCell_drewN alloc_drewN sEq_walk

/-- a parser in memory -/
def Par (w : World) (g : Nat) (s : ByteArray) (bad : Bool) : Prop := Blk w g 64 #[.string s, .bool bad]
/-- what take does -/
def TakE (k s : ByteArray) (g : Nat) (bad : Bool) (e : Ending) (w' : World) : Prop :=
  (takeP (bbs k) (bbs s) = none ∧ e = .returned (.bool false) ∧ Par w' g s bad) ∨ ∃ r, takeP (bbs k) (bbs s) = some r ∧ e = .returned (.bool true) ∧ Par w' g (bsB r) bad
theorem hasP_take : ∀ (w s : Bs), Lib.hasPrefix s w = true ↔ ∃ r, takeP w s = some r := fun w s => by
  unfold Lib.hasPrefix
  constructor
  · intro h
    obtain ⟨r, hr⟩ := List.isPrefixOf_iff_prefix.1 h
    exact ⟨r, by rw [← hr]; exact takeP_app w r⟩
  · rintro ⟨r, h⟩
    rw [takeP_some h]
    exact List.isPrefixOf_iff_prefix.2 ⟨r, rfl⟩
set_option maxRecDepth 100000 in
set_option maxHeartbeats 2000000 in
theorem take_any (g : Nat) (s k : ByteArray) (bad : Bool) (w : World) (hB : Par w g s bad) (hs : s.size ≤ 8192) :
    Calls Tryz.prog 50 #[.pointer (some ⟨g, 0, none⟩), .string k] w fun e w' => w.grownBy w' (some g) ∧ TakE k s g bad e w' := by
  have c0 := hB.cell 0
  have cl := hB.lt
  have cf := hB.frozen
  go_enter Tryz.func50, Tryz.ntmps50
  go_wp2_with fail
  refine (Tryz.strings_HasPrefix s k w).mono ?_
  rintro e w' ⟨rfl, rfl⟩
  cases hh : Lib.hasPrefix s.data.toList k.data.toList with
  | false =>
    have hn : takeP (bbs k) (bbs s) = none := by
      cases ht : takeP (bbs k) (bbs s) with
      | none => rfl
      | some r => exact absurd ((hasP_take (bbs k) (bbs s)).2 ⟨r, ht⟩) (by show ¬ Lib.hasPrefix s.data.toList k.data.toList = true; rw [hh]; simp)
    go_wp2_with fail
    go_ret
    exact ⟨only_of_below (Below.refl _ _) _, .inl ⟨hn, rfl, hB⟩⟩
  | true =>
    obtain ⟨r, hr⟩ := (hasP_take (bbs k) (bbs s)).1 hh
    have hlen := takeP_len hr
    have hks : k.size ≤ s.size := by show (bbs k).length ≤ (bbs s).length; omega
    go_wp2_with fail
    go_ret
    have he : s.extract k.size s.size = bsB r := by
      refine bl_inj ?_
      show (s.extract k.size s.size).data.toList = r
      rw [ByteArray.data_extract, Array.toList_extract, List.extract_eq_take_drop]
      show (List.drop (bbs k).length (bbs s)).take ((bbs s).length - (bbs k).length) = r
      rw [takeP_some hr, List.drop_left, List.take_of_length_le (by rw [List.length_append]; omega)]
    rw [he]
    exact ⟨only_set 0 _ (only_of_below (Below.refl _ _) _), .inr ⟨r, hr, rfl, Blk.set_at _ rfl hB⟩⟩
end Go.Proofs.YtaanoljfhnfjoaaGreatDoor
namespace Go.Proofs.YtaanoljfhnfjoaaGreatDoor
open Go.ChangeShapes Go.WideShapes Go.ChangeAt Go.RowKit
set_option linter.unusedVariables false
set_option linter.unusedSimpArgs false
attribute [local go_sem ↓] execOp_call_val
attribute [local go_sem] callVal_func setCell_drewN alloc_drewN sEq_walk

/-- what need does -/
def NeedE (k s : ByteArray) (g : Nat) (bad : Bool) (w' : World) : Prop :=
  (takeP (bbs k) (bbs s) = none ∧ Par w' g s true) ∨ ∃ r, takeP (bbs k) (bbs s) = some r ∧ Par w' g (bsB r) bad
set_option maxRecDepth 100000 in
set_option maxHeartbeats 2000000 in
theorem need_any (g : Nat) (s k : ByteArray) (bad : Bool) (w : World) (hB : Par w g s bad) (hs : s.size ≤ 8192) :
    Calls Tryz.prog 30 #[.pointer (some ⟨g, 0, none⟩), .string k] w fun e w' => e = .returned (.tuple #[]) ∧ w.grownBy w' (some g) ∧ NeedE k s g bad w' := by
  go_enter Tryz.func30, Tryz.ntmps30
  go_wp2_with fail
  refine (take_any g s k bad w hB hs).mono ?_
  rintro e w1 ⟨hg, hcs⟩
  have HG := Lib.hid hg
  clear hg
  rcases hcs with ⟨hn, rfl, hP⟩ | ⟨r, hr, rfl, hP⟩
  · have c0 := hP.cell 1
    have cl := hP.lt
    have cf := hP.frozen
    go_wp2_with fail
    refine bodyPost_end (v := .tuple #[]) (by simp [results, Tryz.results30, go_sem]) rfl ?_
    exact ⟨rfl, only_set 1 _ HG.out, .inl ⟨hn, Blk.set_at _ rfl hP⟩⟩
  · go_wp2_with fail
    refine bodyPost_end (v := .tuple #[]) (by simp [results, Tryz.results30, go_sem]) rfl ?_
    exact ⟨rfl, HG.out, .inr ⟨r, hr, hP⟩⟩
end Go.Proofs.YtaanoljfhnfjoaaGreatDoor
namespace Go.Proofs.YtaanoljfhnfjoaaGreatDoor
open Go.ChangeShapes Go.WideShapes Go.ChangeAt Go.RowKit
set_option linter.unusedVariables false
set_option linter.unusedSimpArgs false
attribute [local go_sem ↓] execOp_call_val
attribute [local go_sem] callVal_func setCell_drewN alloc_drewN sEq_walk

theorem ext_bbs (s : ByteArray) (a b : Nat) : bbs (s.extract a b) = ((bbs s).drop a).take (b - a) := by
  show (s.extract a b).data.toList = _
  rw [ByteArray.data_extract, Array.toList_extract, List.extract_eq_take_drop]
  rfl
theorem word_end {s : ByteArray} {k : Nat} (hk : k ≤ s.size) (h : ∀ c ∈ (bbs s).take k, wch c = true) (he : ∀ hl : k < s.size, wch s[k] = false) : s.extract 0 k = bsB ((bbs s).takeWhile wch) ∧ s.extract k s.size = bsB ((bbs s).dropWhile wch) := by
  have hr : ((bbs s).drop k).takeWhile wch = [] := by
    rcases Nat.lt_or_ge k s.size with hl | hl
    · have e : (bbs s).drop k = s[k] :: (bbs s).drop (k + 1) := List.drop_eq_getElem_cons (l := bbs s) (i := k) hl
      rw [e, List.takeWhile_cons, he hl]
      rfl
    · rw [List.drop_eq_nil_iff.2 (show (bbs s).length ≤ k from hl)]; rfl
  obtain ⟨h1, h2⟩ := tw_app h hr
  rw [List.take_append_drop] at h1 h2
  refine ⟨bl_inj ?_, bl_inj ?_⟩
  · show bbs (s.extract 0 k) = (bbs s).takeWhile wch
    rw [ext_bbs, h1, List.drop_zero, Nat.sub_zero]
  · show bbs (s.extract k s.size) = (bbs s).dropWhile wch
    rw [ext_bbs, h2, List.take_of_length_le (by rw [List.length_drop]; exact Nat.le_refl _)]
theorem word_more {s : ByteArray} {k : Nat} (hl : k < s.size) (h : ∀ c ∈ (bbs s).take k, wch c = true) (he : wch s[k] = true) : ∀ c ∈ (bbs s).take (k + 1), wch c = true := fun c hc => by
  have e : (bbs s)[k]? = some s[k] := List.getElem?_eq_getElem (l := bbs s) hl
  rw [List.take_add_one, e] at hc
  rcases List.mem_append.1 hc with hc | hc
  · exact h c hc
  · have : c = s[k] := by simpa using hc
    rw [this]; exact he
theorem word_fin {s : ByteArray} {k g : Nat} {bad : Bool} {w : World} (hB : Par w g s bad) (hk : k ≤ s.size) (h : ∀ c ∈ (bbs s).take k, wch c = true) (he : ∀ hl : k < s.size, wch s[k] = false) :
    Ending.returned (.string (s.extract 0 k)) = .returned (.string (bsB ((bbs s).takeWhile wch))) ∧ w.grownBy (w.setCell ⟨g, 0, none⟩ (.string (s.extract k s.size))) (some g) ∧ Par (w.setCell ⟨g, 0, none⟩ (.string (s.extract k s.size))) g (bsB ((bbs s).dropWhile wch)) bad := by
  obtain ⟨h1, h2⟩ := word_end hk h he
  rw [h1, h2]
  exact ⟨rfl, only_set 0 _ (only_of_below (Below.refl _ _) _), Blk.set_at _ rfl hB⟩
set_option maxRecDepth 100000 in
set_option maxHeartbeats 2000000 in
theorem word_any (g : Nat) (s : ByteArray) (bad : Bool) (w : World) (hB : Par w g s bad) (hs : s.size ≤ 8192) :
    Calls Tryz.prog 49 #[.pointer (some ⟨g, 0, none⟩)] w fun e w' => e = .returned (.string (bsB ((bbs s).takeWhile wch))) ∧ w.grownBy w' (some g) ∧ Par w' g (bsB ((bbs s).dropWhile wch)) bad := by
  have c0 := hB.cell 0
  have cl := hB.lt
  have cf := hB.frozen
  go_enter Tryz.func49, Tryz.ntmps49
  go_wp2_with fail
  go_loopw [3] (fun i wr => ∃ k : Nat, k ≤ s.size ∧ i = .int .i64 k ∧ wr = w ∧ ∀ c ∈ (bbs s).take k, wch c = true) (fun i _ => s.size - (intOf i).toNat)
  case atStart => exact ⟨0, by omega, rfl, rfl, by simp⟩
  case round =>
    obtain ⟨k, hk, rfl, rfl, hw⟩ := hrel
    by_cases hlt : k < s.size
    · have hltI : (k : Int) < (s.size : Int) := by omega
      go_wp2_with fail
      all_goals first
        | (go_ret; exact word_fin hB hk hw (fun hl => by unfold wch; exact decide_eq_false (by omega)))
        | (go_roundw
           case rel => exact ⟨k + 1, hlt, by go_num, (by first | rfl | trivial), word_more hlt hw (by unfold wch; exact decide_eq_true (by omega))⟩
           case measure => simp [intOf]; omega)
    · go_wp2_with fail
      go_ret
      exact word_fin hB hk hw (fun hl => absurd hl hlt)
end Go.Proofs.YtaanoljfhnfjoaaGreatDoor
namespace Go.Proofs.YtaanoljfhnfjoaaGreatDoor
open Go.ChangeShapes Go.WideShapes Go.ChangeAt Go.RowKit
set_option linter.unusedVariables false
set_option linter.unusedSimpArgs false
attribute [local go_sem ↓] execOp_call_val
attribute [local go_sem] callVal_func setCell_drewN alloc_drewN sEq_walk

set_option maxRecDepth 100000 in
set_option maxHeartbeats 2000000 in
theorem pname_any (g : Nat) (s : ByteArray) (bad : Bool) (w : World) (hB : Par w g s bad) (hs : s.size ≤ 8192) :
    Calls Tryz.prog 29 #[.pointer (some ⟨g, 0, none⟩)] w fun e w' => e = .returned (.string (bsB ((bbs s).takeWhile wch))) ∧ w.grownBy w' (some g) ∧ Par w' g (bsB ((bbs s).dropWhile wch)) (bad || !rnameB (bsB ((bbs s).takeWhile wch))) := by
  have hsz : (bsB ((bbs s).takeWhile wch)).size ≤ maxLen := by
    have h1 := dropWhile_len (p := wch) (bbs s)
    have h2 : (bbs s).length = s.size := rfl
    show ((bbs s).takeWhile wch).length ≤ _
    unfold maxLen
    omega
  have W := word_any g s bad w hB hs
  obtain ⟨nm, hnm⟩ : ∃ q, q = bsB ((bbs s).takeWhile wch) := ⟨_, rfl⟩
  obtain ⟨rs, hrs⟩ : ∃ q, q = bsB ((bbs s).dropWhile wch) := ⟨_, rfl⟩
  rw [← hnm] at hsz
  rw [← hnm, ← hrs] at W ⊢
  clear hnm hrs
  go_enter Tryz.func29, Tryz.ntmps29
  go_wp2_with fail
  refine W.mono ?_
  rintro e w1 ⟨rfl, hg, hP⟩
  have HG := Lib.hid hg
  clear hg hB W
  go_wp2_with fail
  refine (rname_any nm _ hsz).mono ?_
  rintro e w2 ⟨rfl, hb⟩
  have hP2 : Par w2 g rs bad := Blk.below hP hb hP.lt
  have HG2 := Lib.hid (only_trans HG.out (only_of_below hb _))
  have c0 := hP2.cell 1
  have cl := hP2.lt
  have cf := hP2.frozen
  clear hb hP HG
  cases hn : rnameB nm with
  | true =>
    go_wp2_with fail
    go_ret
    exact ⟨rfl, HG2.out, by rw [hn, Bool.not_true, Bool.or_false]; exact hP2⟩
  | false =>
    go_wp2_with fail
    go_ret
    exact ⟨rfl, only_set 1 _ HG2.out, by rw [hn, Bool.not_false, Bool.or_true]; exact Blk.set_at _ rfl hP2⟩
end Go.Proofs.YtaanoljfhnfjoaaGreatDoor
