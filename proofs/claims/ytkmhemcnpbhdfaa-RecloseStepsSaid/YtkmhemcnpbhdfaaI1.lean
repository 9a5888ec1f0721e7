/- Slices of integers: IndexFunc, ContainsFunc, HasInt, SameInts, Clone. -/
import Derived.Test.YtkmhemcnpbhdfaaB0
namespace Go.Proofs.Ytkmhemcnpbhdfaa
open Go.ChangeShapes Go.WideShapes Go.ChangeAt Go.RowKit
set_option linter.unusedVariables false
attribute [local go_sem ↓] execOp_call_val
attribute [local go_sem] callVal_func setCell_drewN alloc_drewN

def ints (zs : List Int) : List Value := zs.map (Value.int .i64)
def RdI (w : World) (B : Nat) (A : Option Addr) (n : Nat) (zs : List Int) : Prop := Rd w B 1 A n (ints zs)
theorem RdI.len {w : World} {B n : Nat} {A : Option Addr} {zs : List Int} (h : RdI w B A n zs) : zs.length = n := by have := h.1; simp [ints] at this; omega
theorem RdI.below {w w' : World} {B B' n : Nat} {A : Option Addr} {zs : List Int} (h : RdI w B A n zs) (hb : Below B' w w') (hB : B ≤ B') : RdI w' B A n zs := Rd.below h hb hB
theorem RdI.more {w : World} {B B' n : Nat} {A : Option Addr} {zs : List Int} (h : RdI w B A n zs) (hB : B ≤ B') : RdI w B' A n zs := Rd.more h hB
theorem RdI.at_ {w : World} {B n : Nat} {b off : Nat} {zs : List Int} (h : RdI w B (some ⟨b, off, none⟩) n zs) {i : Nat} {z : Int} (hz : zs[i]? = some z) : w.cell? ⟨b, off + i, none⟩ = some (.int .i64 z) := by
  have hl : i < zs.length := (List.getElem?_eq_some_iff.1 hz).1
  have := h.len
  obtain ⟨b', off', e, _, hc⟩ := h.2 (by omega)
  injection e with e
  injection e with e1 e2
  subst e1; subst e2
  exact hc i _ (by simp [ints, hz])
theorem RdI.blk {w : World} {B n : Nat} {b off : Nat} {zs : List Int} (h : RdI w B (some ⟨b, off, none⟩) n zs) (h0 : 0 < n) : b < B := by
  obtain ⟨b', off', e, hlt, _⟩ := h.2 h0
  injection e with e
  injection e with e1 e2
  omega
theorem rdI_nil (w : World) (B : Nat) (A : Option Addr) : RdI w B A 0 [] := ⟨rfl, fun h => by omega⟩
theorem Rd.grownP {w w' : World} {p size n : Nat} {A : Option Addr} {xs : List Value} (h : Rd w p size A n xs) (hp : p ≤ w.heap.size) (hg : w.grownBy w' (some p)) : Rd w' p size A n xs :=
  ⟨h.1, fun hn => by
    obtain ⟨b, off, e, hlt, hc⟩ := h.2 hn
    exact ⟨b, off, e, hlt, fun j u hu => (World.cell?_of_block (a := ⟨b, off + j, none⟩) (hg.block b (by omega) (fun e => by injection e; omega))).trans (hc j u hu)⟩⟩
theorem rdI_own {w : World} {B g cap n e : Nat} {zs : List Int} (h : w.ownsRow B e 1 (.slice (some ⟨g, 0, none⟩) n cap) n (ints zs)) : RdI w w.heap.size (some ⟨g, 0, none⟩) n zs := by
  refine ⟨h.1, fun h0 => ⟨g, 0, rfl, (h.lt g (by simp [Value.ownBlock])).2, fun j u hu => ?_⟩⟩
  have hj : j < n * 1 := by have := (List.getElem?_eq_some_iff.1 hu).1; have := h.1; omega
  rw [Nat.zero_add, h.cellAt j hj]
  exact hu
theorem drop_cons {α : Type} {l : List α} {k : Nat} {x : α} (h : l[k]? = some x) : l.drop k = x :: l.drop (k + 1) := by
  obtain ⟨hl, he⟩ := List.getElem?_eq_some_iff.1 h
  rw [List.drop_eq_getElem_cons hl, he]

def idxGo {α : Type} (p : α → Bool) : List α → Nat → Int
  | [], _ => -1
  | z :: r, k => if p z then k else idxGo p r (k + 1)
theorem idxGo_any {α : Type} (p : α → Bool) : ∀ (l : List α) (k : Nat), decide (0 ≤ idxGo p l k) = l.any p
  | [], k => by simp [idxGo]
  | z :: r, k => by
    unfold idxGo
    cases h : p z with
    | true => simp [h]
    | false => simp [h, idxGo_any p r (k + 1)]
theorem idxGo_spec {α : Type} (p : α → Bool) : ∀ (l : List α) (k : Nat), (idxGo p l k = -1 ∧ ∀ x ∈ l, p x = false) ∨ (∃ (i : Nat) (x : α), idxGo p l k = ((k + i : Nat) : Int) ∧ l[i]? = some x ∧ p x = true ∧ ∀ (j : Nat) (y : α), j < i → l[j]? = some y → p y = false)
  | [], k => .inl ⟨rfl, by simp⟩
  | z :: r, k => by
    unfold idxGo
    cases h : p z with
    | true => exact .inr ⟨0, z, by simp, by simp, h, fun j y hj => by omega⟩
    | false =>
      rcases idxGo_spec p r (k + 1) with ⟨h1, h2⟩ | ⟨i, x, h1, h2, h3, h4⟩
      · left
        simp only [Bool.false_eq_true, if_false]
        exact ⟨h1, fun x hx => by rcases List.mem_cons.1 hx with rfl | hx; exact h; exact h2 x hx⟩
      · right
        simp only [Bool.false_eq_true, if_false]
        refine ⟨i + 1, x, by rw [h1]; congr 1; omega, by simpa using h2, h3, fun j y hj hy => ?_⟩
        cases j with
        | zero => simp at hy; subst hy; exact h
        | succ j => exact h4 j y (by omega) (by simpa using hy)

set_option maxHeartbeats 1000000 in
theorem indexFuncI (F : FuncId) (cap : Array Value) (A : Option Addr) (n c : Nat) (zs : List Int) (p : Int → Bool) (I : World → Prop)
    (hF : ∀ (args : Array Value) (w : World), (callFunc F args).run Try.prog w = .ok (.enter F args) w)
    (hI : ∀ w', I w' → RdI w' w'.heap.size A n zs)
    (hf : ∀ (z : Int) (w' : World), I w' → Calls Try.prog F (#[.int .i64 z] ++ cap) w' fun e w'' => e = .returned (.bool (p z)) ∧ I w'')
    (hn : n ≤ 9223372036854775807) (w : World) (hw : I w) :
    Calls Try.prog 56 #[.slice A n c, .func (.func F) #[] cap] w fun e w' => e = .returned (.int .i64 (idxGo p zs 0)) ∧ I w' := by
  have HF := Lib.hid hf
  have HII := Lib.hid hI
  have HI := Lib.hid hw
  have hlen := Lib.hid (hI w hw).len
  clear hf hw hI
  go_enter Try.func56, Try.ntmps56
  go_wp2_with fail
  go_loopw [5, 8] (fun _ i wr => ∃ k : Nat, k ≤ n ∧ i = .int .i64 k ∧ I wr ∧ idxGo p zs 0 = idxGo p (zs.drop k) k) (fun _ i _ => n - (intOf i).toNat)
  case atStart => exact ⟨0, by omega, rfl, HI.out, rfl⟩
  case round =>
    obtain ⟨k, hk, rfl, hIw, hidx⟩ := hrel
    have hrd := HII.out wr hIw
    have HIW := Lib.hid hIw
    have HIDX := Lib.hid hidx
    clear hIw hidx
    by_cases hlt : k < n
    · obtain ⟨z, hz⟩ : ∃ z, zs[k]? = some z := ⟨_, List.getElem?_eq_getElem (by have := hlen.out; omega)⟩
      obtain ⟨b, off, rfl, hblt, _⟩ := hrd.2 (by omega)
      have hcell := hrd.at_ hz
      have HZ := Lib.hid (drop_cons hz)
      clear hz
      go_wp2_with fail
      refine (HF.out z wr HIW.out).mono ?_
      cases hp : p z with
      | true =>
        rintro e w1 ⟨rfl, hI1⟩
        have HI1 := Lib.hid hI1
        have HP := Lib.hid hp
        clear hI1 hp
        go_wp2_with fail
        go_ret
        exact ⟨ret_int (by rw [HIDX.out, HZ.out]; simp [idxGo, HP.out]), HI1.out⟩
      | false =>
        rintro e w1 ⟨rfl, hI1⟩
        have HI1 := Lib.hid hI1
        have HP := Lib.hid hp
        clear hI1 hp
        go_wp2_with fail
        go_roundw
        case rel => exact ⟨k + 1, by omega, by go_num, HI1.out, by rw [HIDX.out, HZ.out]; simp [idxGo, HP.out]⟩
        case measure => simp [intOf]; omega
    · have hd : zs.drop k = [] := by rw [List.drop_eq_nil_iff]; have := hlen.out; omega
      have HD := Lib.hid hd
      clear hd hrd
      go_wp2_with fail
      go_ret
      exact ⟨ret_int (by rw [HIDX.out, HD.out]; rfl), HIW.out⟩

theorem containsFuncI (F : FuncId) (cap : Array Value) (A : Option Addr) (n c : Nat) (zs : List Int) (p : Int → Bool) (I : World → Prop)
    (hF : ∀ (args : Array Value) (w : World), (callFunc F args).run Try.prog w = .ok (.enter F args) w)
    (hI : ∀ w', I w' → RdI w' w'.heap.size A n zs)
    (hf : ∀ (z : Int) (w' : World), I w' → Calls Try.prog F (#[.int .i64 z] ++ cap) w' fun e w'' => e = .returned (.bool (p z)) ∧ I w'')
    (hn : n ≤ 9223372036854775807) (w : World) (hw : I w) :
    Calls Try.prog 46 #[.slice A n c, .func (.func F) #[] cap] w fun e w' => e = .returned (.bool (zs.any p)) ∧ I w' := by
  have HF := Lib.hid hf
  have HII := Lib.hid hI
  have HI := Lib.hid hw
  have HA := Lib.hid (idxGo_any p zs 0)
  clear hf hw hI
  go_enter Try.func46, Try.ntmps46
  go_wp2_with fail
  refine (indexFuncI F cap A n c zs p I hF HII.out HF.out hn _ HI.out).mono ?_
  rintro e w1 ⟨rfl, hI1⟩
  have HI1 := Lib.hid hI1
  clear hI1
  go_wp2_with fail
  go_ret
  exact ⟨ret_bool HA.out, HI1.out⟩

set_option maxHeartbeats 1000000 in
theorem hasInt_any (A : Option Addr) (n c : Nat) (zs : List Int) (z : Int) (w : World) (hr : RdI w w.heap.size A n zs) (hn : n ≤ 9223372036854775807) :
    Calls Try.prog 27 #[.slice A n c, .int .i64 z] w fun e w' => e = .returned (.bool (zs.any (· == z))) ∧ w = w' := by
  have hlen := Lib.hid hr.len
  go_enter Try.func27, Try.ntmps27
  go_wp2_with fail
  go_loop [6, 9] (fun _ i => ∃ k : Nat, k ≤ n ∧ i = .int .i64 k ∧ zs.any (· == z) = (zs.drop k).any (· == z)) (fun _ i => n - (intOf i).toNat)
  case atStart => exact ⟨0, by omega, rfl, rfl⟩
  case round =>
    obtain ⟨k, hk, rfl, hidx⟩ := hrel
    have HIDX := Lib.hid hidx
    clear hidx
    by_cases hlt : k < n
    · obtain ⟨y, hy⟩ : ∃ y, zs[k]? = some y := ⟨_, List.getElem?_eq_getElem (by have := hlen.out; omega)⟩
      obtain ⟨b, off, rfl, hblt, _⟩ := hr.2 (by omega)
      have hcell := hr.at_ hy
      have HZ := Lib.hid (drop_cons hy)
      clear hy
      cases hp : (y == z) with
      | true =>
        have HP := Lib.hid hp
        go_wp2_with fail
        go_ret
        exact ⟨ret_bool (by rw [HIDX.out, HZ.out]; simp [HP.out]), rfl⟩
      | false =>
        have HP := Lib.hid hp
        go_wp2_with fail
        go_round
        case rel => exact ⟨k + 1, by omega, by go_num, by rw [HIDX.out, HZ.out]; simp [HP.out]⟩
        case measure => simp [intOf]; omega
    · have hd : zs.drop k = [] := by rw [List.drop_eq_nil_iff]; have := hlen.out; omega
      have HD := Lib.hid hd
      clear hd
      go_wp2_with fail
      go_ret
      exact ⟨ret_bool (by rw [HIDX.out, HD.out]; rfl), rfl⟩

def sameI (a b : List Int) : Bool := decide (a = b)

set_option maxHeartbeats 1000000 in
theorem sameInts_any (A : Option Addr) (n c : Nat) (a : List Int) (B : Option Addr) (m d : Nat) (b : List Int) (w : World) (ha : RdI w w.heap.size A n a) (hb : RdI w w.heap.size B m b) (hn : n ≤ 9223372036854775807) :
    Calls Try.prog 26 #[.slice A n c, .slice B m d] w fun e w' => e = .returned (.bool (sameI a b)) ∧ ∃ nq, w' = w.drewN nq := by
  have hla := Lib.hid ha.len
  have hlb := Lib.hid hb.len
  by_cases hnm : n = m
  · subst hnm
    go_enter Try.func26, Try.ntmps26
    go_wp2_with fail
    go_loopw [5, 13] (fun _ i wr => ∃ k nq : Nat, k ≤ n ∧ i = .int .i64 k ∧ wr = w.drewN nq ∧ a.take k = b.take k) (fun _ i _ => n - (intOf i).toNat)
    case atStart => exact ⟨0, 0, by omega, rfl, rfl, by simp⟩
    case round =>
      obtain ⟨k, nq, hk, rfl, rfl, heq⟩ := hrel
      have HEQ := Lib.hid heq
      clear heq
      by_cases hlt : k < n
      · obtain ⟨x, hx⟩ : ∃ x, a[k]? = some x := ⟨_, List.getElem?_eq_getElem (by have := hla.out; omega)⟩
        obtain ⟨y, hy⟩ : ∃ y, b[k]? = some y := ⟨_, List.getElem?_eq_getElem (by have := hlb.out; omega)⟩
        obtain ⟨ba, oa, rfl, hablt, _⟩ := ha.2 (by omega)
        obtain ⟨bb, ob, rfl, hbblt, _⟩ := hb.2 (by omega)
        have hca := ha.at_ hx
        have hcb := hb.at_ hy
        have hltI : (k : Int) < (n : Int) := by omega
        have hkI : (0 : Int) ≤ (k : Int) := by omega
        have HX := Lib.hid hx
        have HY := Lib.hid hy
        clear hx hy
        cases hp : (x != y) with
        | true =>
          have HP := Lib.hid hp
          go_wp2_with fail
          go_quiet (fail)
          go_wp2_with fail
          go_ret
          refine ⟨ret_bool ?_, _, World.drewN_drewN _ _ _⟩
          unfold sameI
          have hne : a ≠ b := by
            intro he
            subst he
            have h1 := HX.out; rw [HY.out] at h1; injection h1 with h1
            have h2 := HP.out; simp [h1] at h2
          simp [hne]
        | false =>
          have HP := Lib.hid hp
          go_wp2_with fail
          go_quiet (fail)
          go_wp2_with fail
          go_roundw
          case rel =>
            refine ⟨k + 1, _, by omega, by go_num, rfl, ?_⟩
            have h2 := HP.out
            simp at h2
            rw [List.take_add_one, List.take_add_one, HEQ.out, HX.out, HY.out, h2]
          case measure => simp [intOf]; omega
      · have hkn : k = n := by omega
        have HKN := Lib.hid hkn
        clear hkn
        go_wp2_with fail
        go_ret
        refine ⟨ret_bool ?_, _, rfl⟩
        have h1 := HEQ.out
        rw [List.take_of_length_le (by have := hla.out; omega), List.take_of_length_le (by have := hlb.out; omega)] at h1
        simp [sameI, h1]
  · have hne : ¬ (n : Int) = (m : Int) := by omega
    go_enter Try.func26, Try.ntmps26
    go_wp2_with fail
    go_ret
    refine ⟨ret_bool ?_, 0, rfl⟩
    have : a ≠ b := by intro he; subst he; have := hla.out; have := hlb.out; omega
    simp [sameI, this]
end Go.Proofs.Ytkmhemcnpbhdfaa
