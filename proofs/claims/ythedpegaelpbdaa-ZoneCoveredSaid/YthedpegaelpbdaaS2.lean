/- slices.SortStableFunc over ints; cmp.Compare; the comparison of zone.Covered. -/
import Derived.Test.YthedpegaelpbdaaS1
namespace Go.Proofs.Ythedpegaelpbdaa
open Go.ChangeShapes Go.WideShapes Go.ChangeAt Go.RowKit
set_option linter.unusedVariables false
attribute [local go_sem ↓] execOp_call_val
attribute [local go_sem] callVal_func setCell_drewN alloc_drewN

theorem insertion0_any (pt : Option Addr) (A : Option Addr) (c : Nat) (w : World) :
    Calls Try.prog 116 #[.slice A 0 c, .int .i64 0, .int .i64 0, .func (.func 55) #[] #[.pointer pt]] w fun e w' => e = .returned (.tuple #[]) ∧ w' = w := by
  go_enter Try.func116, Try.ntmps116
  go_wp2_with fail
  go_loopw [8, 9] (fun i _ wr => i = .int .i64 1 ∧ wr = w) (fun i _ _ => 0)
  case atStart => exact ⟨rfl, rfl⟩
  case round =>
    obtain ⟨rfl, rfl⟩ := hrel
    go_wp2_with fail
    go_end0
    exact ⟨rfl, rfl⟩

set_option maxRecDepth 100000 in
set_option maxHeartbeats 1000000 in
theorem stable_any (pt : Option Addr) (key : Int → Int) (B g c n : Nat) (T : TypeId) (L0 : List Int) (rest : List Value) (I : World → Prop)
    (hd : ∀ w' k, I w' → I (w'.drewN k)) (hs : ∀ w' i v, I w' → I (w'.setCell ⟨g, i, none⟩ v))
    (hf : ∀ w', I w' → ∀ x ∈ L0, ∀ y ∈ L0, Calls Try.prog 55 #[.int .i64 x, .int .i64 y, .pointer pt] w' fun e w'' => e = .returned (.int .i64 (sgnK key x y)) ∧ ∃ k, w'' = w'.drewN k)
    (hn : n ≤ 19) (hl : L0.length = n) (hB : B ≤ g) (w : World) (H : SoS B g T L0 rest I w w L0) :
    Calls Try.prog 91 #[.slice (some ⟨g, 0, none⟩) n c, .int .i64 n, .func (.func 55) #[] #[.pointer pt]] w fun e w' => e = .returned (.tuple #[]) ∧ ∃ L, SoS B g T L0 rest I w w' L ∧ Srt key n n L := by
  have HI := Lib.hid (insertion_any pt key B g c n T L0 rest I hd hs hf hn hl hB w H)
  clear hd hs hf H
  go_enter Try.func91, Try.ntmps91
  go_wp2_with fail
  go_loopw [7, 8] (fun a b wr => a = .int .i64 0 ∧ b = .int .i64 20 ∧ wr = w) (fun _ _ _ => 0)
  case atStart => exact ⟨rfl, rfl, rfl⟩
  case round =>
    obtain ⟨rfl, rfl, rfl⟩ := hrel
    have h20 : ¬ ((20 : Int) ≤ (n : Int)) := by omega
    have h21 : ¬ ((20 : Int) < (n : Int)) := by omega
    go_wp2_with fail
    refine HI.out.mono ?_
    rintro e w2 ⟨rfl, hL⟩
    have HL := Lib.hid hL
    clear hL
    go_wp2_with fail
    go_loopw [6, 7, 8, 9] (fun a _ _ _ wr => a = .int .i64 20 ∧ wr = w2) (fun _ _ _ _ _ => 0)
    case atStart => exact ⟨rfl, rfl⟩
    case round =>
      obtain ⟨rfl, rfl⟩ := hrel
      go_wp2_with fail
      go_end0
      exact ⟨rfl, HL.out⟩
theorem isNaN_any (x : Int) (w : World) : Calls Try.prog 92 #[.int .i64 x] w fun e w' => e = .returned (.bool false) ∧ w' = w := by
  go_enter Try.func92, Try.ntmps92
  go_wp2_with fail
  go_ret
  exact ⟨rfl, rfl⟩

set_option maxHeartbeats 1000000 in
theorem compare_any (x y : Int) (w : World) : Calls Try.prog 56 #[.int .i64 x, .int .i64 y] w fun e w' => e = .returned (.int .i64 (if x < y then -1 else if y < x then 1 else 0)) ∧ w' = w := by
  go_enter Try.func56, Try.ntmps56
  go_wp2_with fail
  refine (isNaN_any x _).mono ?_
  rintro e w1 ⟨rfl, rfl⟩
  go_wp2_with fail
  refine (isNaN_any y _).mono ?_
  rintro e w2 ⟨rfl, rfl⟩
  by_cases h1 : x < y
  · go_wp2_with fail
    go_ret
    exact ⟨rfl, rfl⟩
  · by_cases h2 : y < x
    · go_wp2_with fail
      go_ret
      exact ⟨rfl, rfl⟩
    · go_wp2_with fail
      go_ret
      exact ⟨rfl, rfl⟩

structure TmS (w : World) (p : Nat) (g m : Nat) (ts : List Int) : Prop where
  hd : w.cell? ⟨p, 0, none⟩ = some (.slice (some ⟨g, 0, none⟩) m m)
  cell : ∀ j, j < m → w.cell? ⟨g, j, none⟩ = some (.int .i64 (ts.getD j 0))
  lt : g < w.heap.size
def tkey (ts : List Int) (x : Int) : Int := ts.getD x.toNat 0
set_option maxHeartbeats 1000000 in
theorem covCmp_any (p g m : Nat) (ts : List Int) (x y : Int) (w : World) (H : TmS w p g m ts) (hx : 0 ≤ x ∧ x < m) (hy : 0 ≤ y ∧ y < m) :
    Calls Try.prog 55 #[.int .i64 x, .int .i64 y, .pointer (some ⟨p, 0, none⟩)] w fun e w' => e = .returned (.int .i64 (sgnK (tkey ts) x y)) ∧ ∃ k, w' = w.drewN k := by
  obtain ⟨i, rfl⟩ : ∃ i : Nat, x = (i : Int) := ⟨x.toNat, by omega⟩
  obtain ⟨j, rfl⟩ : ∃ j : Nat, y = (j : Int) := ⟨y.toNat, by omega⟩
  obtain ⟨_, hx1⟩ := hx
  obtain ⟨_, hy1⟩ := hy
  have c0 := H.hd
  have ci := H.cell i (by omega)
  have cj := H.cell j (by omega)
  have hlt := H.lt
  have hi0 : (0 : Int) ≤ (i : Int) := by omega
  have hj0 : (0 : Int) ≤ (j : Int) := by omega
  have hiN : i < m := by omega
  have hjN : j < m := by omega
  have HE : Hid (sgnK (tkey ts) i j = (if ts.getD i 0 < ts.getD j 0 then -1 else if ts.getD j 0 < ts.getD i 0 then 1 else 0)) := Lib.hid rfl
  have HC : Hid (∀ N, Calls Try.prog 56 #[.int .i64 (ts.getD i 0), .int .i64 (ts.getD j 0)] (w.drewN N) fun e w' => e = .returned (.int .i64 (sgnK (tkey ts) i j)) ∧ ∃ k, w' = w.drewN k) := Lib.hid fun N => (compare_any _ _ _).mono fun e w' ⟨he, hw⟩ => ⟨by rw [he, HE.out], N, hw⟩
  clear H
  go_enter Try.func55, Try.ntmps55
  go_wp2_with fail
  go_quiet ((go_at_call 56; exact (HC.out _).mono fun _ _ hh => hh))
  go_wp2_with fail
  go_ret
  exact ⟨rfl, _, rfl⟩

theorem sortS_any (pt : Option Addr) (key : Int → Int) (B g c n : Nat) (T : TypeId) (L0 : List Int) (rest : List Value) (I : World → Prop)
    (hd : ∀ w' k, I w' → I (w'.drewN k)) (hs : ∀ w' i v, I w' → I (w'.setCell ⟨g, i, none⟩ v))
    (hf : ∀ w', I w' → ∀ x ∈ L0, ∀ y ∈ L0, Calls Try.prog 55 #[.int .i64 x, .int .i64 y, .pointer pt] w' fun e w'' => e = .returned (.int .i64 (sgnK key x y)) ∧ ∃ k, w'' = w'.drewN k)
    (hn : n ≤ 19) (hl : L0.length = n) (hB : B ≤ g) (w : World) (H : SoS B g T L0 rest I w w L0) :
    Calls Try.prog 54 #[.slice (some ⟨g, 0, none⟩) n c, .func (.func 55) #[] #[.pointer pt]] w fun e w' => e = .returned (.tuple #[]) ∧ ∃ L, SoS B g T L0 rest I w w' L ∧ Srt key n n L := by
  have HI := Lib.hid (stable_any pt key B g c n T L0 rest I hd hs hf hn hl hB w H)
  clear hd hs hf H
  go_enter Try.func54, Try.ntmps54
  go_wp2_with fail
  refine HI.out.mono ?_
  rintro e w2 ⟨rfl, hL⟩
  have HL := Lib.hid hL
  clear hL
  go_wp2_with fail
  go_end0
  exact ⟨rfl, HL.out⟩

theorem stable0_any (pt : Option Addr) (A : Option Addr) (c : Nat) (w : World) :
    Calls Try.prog 91 #[.slice A 0 c, .int .i64 0, .func (.func 55) #[] #[.pointer pt]] w fun e w' => e = .returned (.tuple #[]) ∧ w' = w := by
  go_enter Try.func91, Try.ntmps91
  go_wp2_with fail
  go_loopw [7, 8] (fun a b wr => a = .int .i64 0 ∧ b = .int .i64 20 ∧ wr = w) (fun _ _ _ => 0)
  case atStart => exact ⟨rfl, rfl, rfl⟩
  case round =>
    obtain ⟨rfl, rfl, rfl⟩ := hrel
    go_wp2_with fail
    refine (insertion0_any pt A c _).mono ?_
    rintro e w2 ⟨rfl, rfl⟩
    go_wp2_with fail
    go_loopw [6, 7, 8, 9] (fun a _ _ _ wr => a = .int .i64 20 ∧ wr = w2) (fun _ _ _ _ _ => 0)
    case atStart => exact ⟨rfl, rfl⟩
    case round =>
      obtain ⟨rfl, rfl⟩ := hrel
      go_wp2_with fail
      go_end0
      exact ⟨rfl, rfl⟩
theorem sortS0_any (pt : Option Addr) (A : Option Addr) (c : Nat) (w : World) :
    Calls Try.prog 54 #[.slice A 0 c, .func (.func 55) #[] #[.pointer pt]] w fun e w' => e = .returned (.tuple #[]) ∧ w' = w := by
  go_enter Try.func54, Try.ntmps54
  go_wp2_with fail
  refine (stable0_any pt A c _).mono ?_
  rintro e w2 ⟨rfl, rfl⟩
  go_wp2_with fail
  go_end0
  exact ⟨rfl, rfl⟩
end Go.Proofs.Ythedpegaelpbdaa
