/- slices.SortStableFunc over ints, up to nineteen elements: insertion. -/
import Derived.Test.YthedpegaelpbdaaN2
import Derived.BigRegion
import Derived.BigQuiet
namespace Go.Proofs.Ythedpegaelpbdaa
open Go.ChangeShapes Go.WideShapes Go.ChangeAt Go.RowKit
set_option linter.unusedVariables false
attribute [local go_sem ↓] execOp_call_val
attribute [local go_sem] callVal_func setCell_drewN alloc_drewN

def sgnK (key : Int → Int) (x y : Int) : Int := if key x < key y then -1 else if key y < key x then 1 else 0
def Srt (key : Int → Int) (n k : Nat) (L : List Int) : Prop := ∀ a b, a < b → b < k → b < n → key (L.getD a 0) ≤ key (L.getD b 0)
def Ins (key : Int → Int) (k q : Nat) (L : List Int) : Prop :=
  (∀ a b, a < b → b ≤ k → a ≠ q → b ≠ q → key (L.getD a 0) ≤ key (L.getD b 0)) ∧ (∀ b, q < b → b ≤ k → key (L.getD q 0) ≤ key (L.getD b 0))
def swp (L : List Int) (q : Nat) : List Int := (L.set q (L.getD (q - 1) 0)).set (q - 1) (L.getD q 0)
theorem swp_len (L : List Int) (q : Nat) : (swp L q).length = L.length := by simp [swp]
theorem getD_set (L : List Int) (i j : Nat) (v : Int) (hi : i < L.length) : (L.set i v).getD j 0 = if i = j then v else L.getD j 0 := by
  rw [List.getD_eq_getElem?_getD, List.getElem?_set, List.getD_eq_getElem?_getD]
  by_cases h : i = j
  · subst h; simp [hi]
  · simp [h]
theorem swp_at {L : List Int} {q : Nat} (h0 : 0 < q) (hq : q < L.length) (j : Nat) : (swp L q).getD j 0 = if j = q then L.getD (q - 1) 0 else if j = q - 1 then L.getD q 0 else L.getD j 0 := by
  unfold swp
  rw [getD_set _ _ _ _ (by simp; omega), getD_set _ _ _ _ hq]
  by_cases h1 : j = q
  · subst h1; rw [if_neg (by omega), if_pos rfl, if_pos rfl]
  · by_cases h2 : j = q - 1
    · subst h2; rw [if_pos rfl, if_neg h1, if_pos rfl]
    · rw [if_neg (by omega), if_neg (by omega), if_neg h1, if_neg h2]
theorem swp_perm {L : List Int} {q : Nat} (h0 : 0 < q) (hq : q < L.length) : (swp L q).Perm L := by
  have h := List.set_set_perm hq (show q - 1 < L.length by omega)
  unfold swp
  rw [List.getD_eq_getElem?_getD, List.getElem?_eq_getElem (show q - 1 < L.length by omega), List.getD_eq_getElem?_getD, List.getElem?_eq_getElem hq]
  exact h
theorem ins_start {key : Int → Int} {n k : Nat} {L : List Int} (h : Srt key n k L) (hk : k < n) : Ins key k k L :=
  ⟨fun a b h1 h2 h3 h4 => h a b h1 (by omega) (by omega), fun b h1 h2 => by omega⟩
theorem ins_step {key : Int → Int} {k q : Nat} {L : List Int} (h : Ins key k q L) (h0 : 0 < q) (hk : q ≤ k) (hq : q < L.length) (hlt : key (L.getD q 0) < key (L.getD (q - 1) 0)) : Ins key k (q - 1) (swp L q) := by
  obtain ⟨i1, i2⟩ := h
  refine ⟨fun a b h1 h2 h3 h4 => ?_, fun b h1 h2 => ?_⟩
  · rw [swp_at h0 hq, swp_at h0 hq]
    by_cases ha : a = q
    · subst ha
      rw [if_pos rfl, if_neg (by omega), if_neg (by omega)]
      exact i1 (a - 1) b (by omega) h2 (by omega) (by omega)
    · rw [if_neg ha, if_neg h3]
      by_cases hb : b = q
      · subst hb
        rw [if_pos rfl]
        exact i1 a (b - 1) (by omega) (by omega) ha (by omega)
      · rw [if_neg hb, if_neg h4]
        exact i1 a b h1 h2 ha hb
  · rw [swp_at h0 hq, swp_at h0 hq, if_neg (by omega), if_pos rfl]
    by_cases hb : b = q
    · rw [if_pos hb]; omega
    · rw [if_neg hb, if_neg (by omega)]
      exact i2 b (by omega) h2
theorem ins_end {key : Int → Int} {n k q : Nat} {L : List Int} (h : Ins key k q L) (hk : q ≤ k) (hs : q = 0 ∨ key (L.getD (q - 1) 0) ≤ key (L.getD q 0)) : Srt key n (k + 1) L := by
  obtain ⟨i1, i2⟩ := h
  intro a b h1 h2 h3
  by_cases ha : a = q
  · subst ha; exact i2 b h1 (by omega)
  · by_cases hb : b = q
    · subst hb
      rcases hs with h0 | hs
      · omega
      · by_cases he : a = b - 1
        · subst he; exact hs
        · exact Int.le_trans (i1 a (b - 1) (by omega) (by omega) ha (by omega)) hs
    · exact i1 a b h1 (by omega) ha hb

structure SoS (B g : Nat) (T : TypeId) (L0 : List Int) (rest : List Value) (I : World → Prop) (w0 w : World) (L : List Int) : Prop where
  perm : L.Perm L0
  blk : Blk w g T (ints L ++ rest).toArray
  inv : I w
  low : Below B w0 w
theorem SoS.len {B g : Nat} {T : TypeId} {L0 : List Int} {rest : List Value} {I : World → Prop} {w0 w : World} {L : List Int} (h : SoS B g T L0 rest I w0 w L) : L.length = L0.length := h.perm.length_eq
theorem SoS.mem {B g : Nat} {T : TypeId} {L0 : List Int} {rest : List Value} {I : World → Prop} {w0 w : World} {L : List Int} (h : SoS B g T L0 rest I w0 w L) {i : Nat} (hi : i < L.length) : L.getD i 0 ∈ L0 := by
  rw [List.getD_eq_getElem?_getD, List.getElem?_eq_getElem hi]
  exact h.perm.mem_iff.1 (List.getElem_mem hi)
theorem SoS.cell {B g : Nat} {T : TypeId} {L0 : List Int} {rest : List Value} {I : World → Prop} {w0 w : World} {L : List Int} (h : SoS B g T L0 rest I w0 w L) {i : Nat} (hi : i < L.length) : w.cell? ⟨g, i, none⟩ = some (.int .i64 (L.getD i 0)) := by
  rw [h.blk.cell i]
  simp only [List.getElem?_toArray]
  rw [List.getElem?_append_left (by simpa [ints] using hi)]
  simp [ints, List.getD_eq_getElem?_getD, List.getElem?_eq_getElem hi]
theorem SoS.drewN {B g : Nat} {T : TypeId} {L0 : List Int} {rest : List Value} {I : World → Prop} {w0 w : World} {L : List Int} (h : SoS B g T L0 rest I w0 w L) (hd : ∀ w' k, I w' → I (w'.drewN k)) (k : Nat) : SoS B g T L0 rest I w0 (w.drewN k) L :=
  ⟨h.perm, h.blk, hd _ _ h.inv, below_drewN h.low k⟩
theorem set_front (L : List Int) (rest : List Value) (i : Nat) (v : Int) (hi : i < L.length) : (ints L ++ rest).toArray.setIfInBounds i (.int .i64 v) = (ints (L.set i v) ++ rest).toArray := by
  simp [ints, List.map_set, hi]
theorem SoS.swap {B g : Nat} {T : TypeId} {L0 : List Int} {rest : List Value} {I : World → Prop} {w0 w : World} {L : List Int} (h : SoS B g T L0 rest I w0 w L) (hB : B ≤ g) (hs : ∀ w' i v, I w' → I (w'.setCell ⟨g, i, none⟩ v)) {q : Nat} (h0 : 0 < q) (hq : q < L.length) :
    SoS B g T L0 rest I w0 ((w.setCell ⟨g, q, none⟩ (.int .i64 (L.getD (q - 1) 0))).setCell ⟨g, q - 1, none⟩ (.int .i64 (L.getD q 0))) (swp L q) := by
  refine ⟨(swp_perm h0 hq).trans h.perm, ?_, hs _ _ _ (hs _ _ _ h.inv), (h.low.setCell hB _).setCell hB _⟩
  have h1 := (h.blk.set_ q (.int .i64 (L.getD (q - 1) 0))).set_ (q - 1) (.int .i64 (L.getD q 0))
  rw [set_front L rest q _ hq, set_front _ rest (q - 1) _ (by simp; omega)] at h1
  exact h1

set_option maxRecDepth 100000 in
set_option maxHeartbeats 1000000 in
theorem insertion_any (pt : Option Addr) (key : Int → Int) (B g c n : Nat) (T : TypeId) (L0 : List Int) (rest : List Value) (I : World → Prop)
    (hd : ∀ w' k, I w' → I (w'.drewN k)) (hs : ∀ w' i v, I w' → I (w'.setCell ⟨g, i, none⟩ v))
    (hf : ∀ w', I w' → ∀ x ∈ L0, ∀ y ∈ L0, Calls Try.prog 55 #[.int .i64 x, .int .i64 y, .pointer pt] w' fun e w'' => e = .returned (.int .i64 (sgnK key x y)) ∧ ∃ k, w'' = w'.drewN k)
    (hn : n ≤ 19) (hl : L0.length = n) (hB : B ≤ g) (w : World) (H : SoS B g T L0 rest I w w L0) :
    Calls Try.prog 116 #[.slice (some ⟨g, 0, none⟩) n c, .int .i64 0, .int .i64 n, .func (.func 55) #[] #[.pointer pt]] w fun e w' => e = .returned (.tuple #[]) ∧ ∃ L, SoS B g T L0 rest I w w' L ∧ Srt key n n L := by
  have HD := Lib.hid hd
  have HS := Lib.hid hs
  have Hf := Lib.hid hf
  have HH := Lib.hid H
  clear hd hs hf H
  go_enter Try.func116, Try.ntmps116
  go_wp2_with fail
  go_loopw [8, 9] (fun i _ wr => ∃ (k : Nat) (L : List Int), 1 ≤ k ∧ k ≤ n + 1 ∧ i = .int .i64 k ∧ SoS B g T L0 rest I w wr L ∧ Srt key n k L) (fun i _ _ => n + 1 - (intOf i).toNat)
  case atStart => exact ⟨1, L0, by omega, by omega, rfl, HH.out, fun a b h1 h2 => by omega⟩
  case round =>
    obtain ⟨k, L, hk1, hk2, rfl, hso, hsrt⟩ := hrel
    have HSO := Lib.hid hso
    have HSR := Lib.hid hsrt
    clear hso hsrt
    by_cases hlt : k < n
    · have wk : IntKind.i64.wrap ((k : Int) + 1) = (k : Int) + 1 := IntWalk.i64_in _ (by omega)
      go_wp2_with fail
      go_loopw [9] (fun j wr2 => ∃ (q : Nat) (L2 : List Int), q ≤ k ∧ j = .int .i64 q ∧ SoS B g T L0 rest I w wr2 L2 ∧ Ins key k q L2) (fun j _ => (intOf j).toNat)
      case atStart => exact ⟨k, L, by omega, rfl, HSO.out, ins_start HSR.out hlt⟩
      case round =>
        obtain ⟨q, L2, hq, rfl, hso2, hins⟩ := hrel
        have hlen : L2.length = n := hso2.len.trans hl
        have hgl : g < wr.heap.size := hso2.blk.lt
        have hgf := hso2.blk.frozen
        by_cases h0 : 0 < q
        · have hkI : (1 : Int) ≤ (q : Int) := by omega
          have hk0 : (0 : Int) < (q : Int) := by omega
          have hs1 : IntKind.i64.wrap ((q : Int) - 1) = (q : Int) - 1 := IntWalk.i64_in _ (by omega)
          have hs3 : ((q : Int) - 1).toNat = q - 1 := by omega
          have hs4 : (q : Int) - 1 < (n : Int) := by omega
          have hs5 : (q : Int) < (n : Int) := by omega
          have c1 := hso2.cell (i := q) (by omega)
          have c2 := hso2.cell (i := q - 1) (by omega)
          have m1 := hso2.mem (i := q) (by omega)
          have m2 := hso2.mem (i := q - 1) (by omega)
          have HC : Hid (∀ N, Calls Try.prog 55 #[.int .i64 (L2.getD q 0), .int .i64 (L2.getD (q - 1) 0), .pointer pt] (wr.drewN N) fun e w'' => e = .returned (.int .i64 (sgnK key (L2.getD q 0) (L2.getD (q - 1) 0))) ∧ ∃ k, w'' = wr.drewN k) :=
            Lib.hid fun N => (Hf.out _ (HD.out _ _ hso2.inv) _ m1 _ m2).mono fun e w'' ⟨he, k, hk⟩ => ⟨he, N + k, by rw [hk, World.drewN_drewN]⟩
          have HS2 := Lib.hid hso2
          have HIN := Lib.hid hins
          have hgt : decide ((0 : Int) < (q : Int)) = true := by simpa using h0
          clear hso2 hins m1 m2
          by_cases hc : key (L2.getD q 0) < key (L2.getD (q - 1) 0)
          · have hsg : sgnK key (L2.getD q 0) (L2.getD (q - 1) 0) = -1 := by unfold sgnK; rw [if_pos hc]
            rw [hsg] at HC
            go_wp2_with fail
            go_quiet ((go_at_call 55; exact (HC.out _).mono fun _ _ hh => hh))
            go_wp2_with fail
            go_region
            all_goals go_wp2_with fail
            go_roundw
            case rel => exact ⟨q - 1, swp L2 q, by omega, by go_num, (HS2.out.swap hB HS.out h0 (by omega)).drewN HD.out (nq + 1), ins_step HIN.out h0 hq (by omega) hc⟩
            case measure => simp [intOf]; omega
          · have hsg : 0 ≤ sgnK key (L2.getD q 0) (L2.getD (q - 1) 0) := by
              unfold sgnK; rw [if_neg hc]; split <;> decide
            generalize sgnK key (L2.getD q 0) (L2.getD (q - 1) 0) = sg at HC hsg
            have hsd : decide (sg < 0) = false := by simpa using hsg
            have HSE : Hid (Srt key n (k + 1) L2) := Lib.hid (ins_end HIN.out hq (Or.inr (by omega)))
            clear hc
            go_wp2_with fail
            go_quiet ((go_at_call 55; exact (HC.out _).mono fun _ _ hh => hh))
            go_wp2_with fail
            go_roundw
            case rel => exact ⟨k + 1, L2, by omega, by omega, by go_num, HS2.out.drewN HD.out _, HSE.out⟩
            case measure => simp [intOf]; omega
        · have hq0 : q = 0 := by omega
          subst hq0
          have HS2 := Lib.hid hso2
          have HSE : Hid (Srt key n (k + 1) L2) := Lib.hid (ins_end hins hq (Or.inl rfl))
          clear hso2 hins
          go_wp2_with fail
          go_quiet (fail)
          go_wp2_with fail
          go_roundw
          case rel => exact ⟨k + 1, L2, by omega, by omega, by go_num, HS2.out.drewN HD.out _, HSE.out⟩
          case measure => simp [intOf]; omega
    · go_wp2_with fail
      go_end0
      exact ⟨rfl, L, HSO.out, fun a b h1 h2 h3 => HSR.out a b h1 (by omega) h3⟩
end Go.Proofs.Ythedpegaelpbdaa
