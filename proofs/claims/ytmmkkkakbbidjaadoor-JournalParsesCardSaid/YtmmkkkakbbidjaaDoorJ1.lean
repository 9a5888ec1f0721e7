/- Events: the check of one and of a list; how they are compared. -/
import Derived.Test.YtmmkkkakbbidjaaDoorJN
import Derived.StillTailTactics
namespace Go.Proofs.YtmmkkkakbbidjaaDoor
open Go.ChangeShapes Go.WideShapes Go.ChangeAt Go.RowKit
set_option linter.unusedVariables false
attribute [local go_sem ↓] execOp_call_val
attribute [local go_sem] callVal_func setCell_drewN alloc_drewN sEq_walk

def Ev.Fit (x : Ev) : Prop := x.kind.size ≤ maxLen ∧ x.name.size ≤ maxLen
def evCk (x : Ev) : Int :=
  if x.time < 0 ∨ 1000000000 < x.time then 12 else if nameB x.kind = false ∨ nameB x.name = false then 6 else if x.value < -1000000 ∨ 1000000 < x.value then 4 else 0
def ckGo : List Ev → Int
  | [] => 0
  | x :: r => if evCk x ≠ 0 then evCk x else ckGo r
def ckEv (l : List Ev) : Int := if 256 < l.length then 2 else ckGo l

set_option maxHeartbeats 1000000 in
theorem event_any (x : Ev) (hx : x.Fit) (w : World) :
    Calls Tryd.prog 23 #[.agg #[.int .i64 x.time, .string x.kind, .string x.name, .int .i64 x.value]] w fun e w' => e = .returned (.int .i64 (evCk x)) ∧ Below w.heap.size w w' := by
  have K0 : Below w.heap.size w (w.alloc (.cells #[.int .i64 x.time, .string x.kind, .string x.name, .int .i64 x.value] 31)) := (Below.refl _ _).alloc (Nat.le_refl _) _
  have HK := Lib.hid K0
  have HQ : Hid (Blk (w.alloc (.cells #[.int .i64 x.time, .string x.kind, .string x.name, .int .i64 x.value] 31)) w.heap.size 31 #[.int .i64 x.time, .string x.kind, .string x.name, .int .i64 x.value]) := Lib.hid (Blk.new _ _ _)
  have HD : Hid (evCk x = if x.time < 0 ∨ 1000000000 < x.time then 12 else if nameB x.kind = false ∨ nameB x.name = false then 6 else if x.value < -1000000 ∨ 1000000 < x.value then 4 else 0) := Lib.hid rfl
  have HX := Lib.hid hx
  clear K0 hx
  by_cases h0 : x.time < 0
  · go_enter Tryd.func23, Tryd.ntmps23
    go_wp2_with fail
    go_ret
    exact ⟨ret_int (by rw [HD.out, if_pos (.inl h0)]), HK.out⟩
  by_cases h1 : 1000000000 < x.time
  · go_enter Tryd.func23, Tryd.ntmps23
    go_wp2_with fail
    go_ret
    exact ⟨ret_int (by rw [HD.out, if_pos (.inr h1)]), HK.out⟩
  have HD2 : Hid (evCk x = if nameB x.kind = false ∨ nameB x.name = false then 6 else if x.value < -1000000 ∨ 1000000 < x.value then 4 else 0) := Lib.hid (by rw [HD.out, if_neg (by omega)])
  clear HD
  go_enter Tryd.func23, Tryd.ntmps23
  go_wp2_with fail
  refine (name_any x.kind _ HX.out.1).mono ?_
  rintro e w1 ⟨rfl, k1⟩
  have hq := HQ.out.below k1 HQ.out.lt
  obtain ⟨c0, c1, c2, c3, cf, clt⟩ := Ev.box hq
  have HQ1 := Lib.hid hq
  have HK1 := Lib.hid (HK.out.trans (k1.mono HK.out.size))
  clear k1 hq
  cases hn1 : nameB x.kind with
  | false =>
    have HN := Lib.hid hn1
    clear hn1
    go_wp2_with fail
    go_ret
    exact ⟨ret_int (by rw [HD2.out, if_pos (.inl HN.out)]), HK1.out⟩
  | true =>
    have HN := Lib.hid hn1
    clear hn1
    go_wp2_with fail
    refine (name_any x.name _ HX.out.2).mono ?_
    rintro e w2 ⟨rfl, k2⟩
    have hq := HQ1.out.below k2 HQ1.out.lt
    clear c0 c1 c2 c3 cf clt
    obtain ⟨c0, c1, c2, c3, cf, clt⟩ := Ev.box hq
    have HK2 := Lib.hid (HK1.out.trans (k2.mono HK1.out.size))
    clear k2 hq
    cases hn2 : nameB x.name with
    | false =>
      have HN2 := Lib.hid hn2
      clear hn2
      go_wp2_with fail
      go_ret
      exact ⟨ret_int (by rw [HD2.out, if_pos (.inr HN2.out)]), HK2.out⟩
    | true =>
      have HD3 : Hid (evCk x = if x.value < -1000000 ∨ 1000000 < x.value then 4 else 0) := Lib.hid (by rw [HD2.out, if_neg (by rw [HN.out, hn2]; simp)])
      clear hn2 HD2
      by_cases h2 : x.value < -1000000
      · go_wp2_with fail
        go_ret
        exact ⟨ret_int (by rw [HD3.out, if_pos (.inl h2)]), HK2.out⟩
      · by_cases h3 : 1000000 < x.value
        · go_wp2_with fail
          go_ret
          exact ⟨ret_int (by rw [HD3.out, if_pos (.inr h3)]), HK2.out⟩
        · go_wp2_with fail
          go_ret
          exact ⟨ret_int (by rw [HD3.out, if_neg (by omega)]), HK2.out⟩

def evV (x : Ev) : Array Value := #[.int .i64 x.time, .string x.kind, .string x.name, .int .i64 x.value]
set_option maxHeartbeats 1000000 in
theorem jcheck_any (A : Option Addr) (n c : Nat) (l : List Ev) (hf : ∀ x ∈ l, x.Fit) (w : World) (hR : RdEv w w.heap.size A n l) (hn : n ≤ 9223372036854775807) :
    Calls Tryd.prog 15 #[.slice A n c] w fun e w' => e = .returned (.int .i64 (ckEv l)) ∧ Below w.heap.size w w' := by
  have HLEN := Lib.hid hR.1
  have HR := Lib.hid hR
  have HF := Lib.hid hf
  have HD : Hid (ckEv l = if 256 < l.length then 2 else ckGo l) := Lib.hid rfl
  clear hR hf
  by_cases h0 : 256 < n
  · go_enter Tryd.func15, Tryd.ntmps15
    go_wp2_with fail
    go_ret
    exact ⟨ret_int (by rw [HD.out, if_pos (by have := HLEN.out; omega)]), Below.refl _ _⟩
  · go_enter Tryd.func15, Tryd.ntmps15
    go_wp2_with fail
    go_loopw [11] (fun i wr => ∃ k : Nat, k ≤ n ∧ i = .int .i64 k ∧ Below w.heap.size w wr ∧ ckGo l = ckGo (l.drop k)) (fun i _ => n - (intOf i).toNat)
    case atStart => exact ⟨0, by omega, rfl, Below.refl _ _, rfl⟩
    case round =>
      obtain ⟨k, hk, rfl, hb, hidx⟩ := hrel
      have HB := Lib.hid hb
      have HI := Lib.hid hidx
      have hrd := HR.out.up hb
      clear hb hidx
      by_cases hlt : k < n
      · obtain ⟨z, hz⟩ : ∃ z, l[k]? = some z := ⟨_, List.getElem?_eq_getElem (by have := HLEN.out; omega)⟩
        have HFZ := Lib.hid (HF.out z (List.mem_of_getElem? hz))
        obtain ⟨b, off, rfl, hblt⟩ := hrd.form (by omega)
        obtain ⟨c0, c1, c2, c3⟩ := hrd.at_ hz
        have HZ := Lib.hid (drop_cons hz)
        have hb1 : Below wr.heap.size wr (wr.alloc (.cells (evV z) 31)) := (Below.refl _ _).alloc (Nat.le_refl _) _
        have HB1 := Lib.hid (HB.out.trans (hb1.mono HB.out.size))
        clear hz hrd hb1
        go_wp2_with fail
        refine (event_any z HFZ.out _).mono ?_
        generalize hev : evCk z = ev
        have HEV := Lib.hid hev
        rintro e w1 ⟨rfl, k1⟩
        have HB2 := Lib.hid (HB1.out.trans (k1.mono HB1.out.size))
        clear k1 hev
        by_cases hp : ev = 0
        · subst hp
          go_wp2_with fail
          go_roundw
          case rel => exact ⟨k + 1, by omega, by go_num, HB2.out, by rw [HI.out, HZ.out]; simp [ckGo, HEV.out]⟩
          case measure => simp [intOf]; omega
        · have hpb : (ev != 0) = true := by simpa using hp
          have HP := Lib.hid hp
          clear hp
          go_wp2_with fail
          go_ret
          exact ⟨ret_int (by rw [HD.out, if_neg (by have := HLEN.out; omega), HI.out, HZ.out]; simp [ckGo, HEV.out, HP.out]), HB2.out⟩
      · have hd : l.drop k = [] := by rw [List.drop_eq_nil_iff]; have := HLEN.out; omega
        have HDD := Lib.hid hd
        clear hd hrd
        go_wp2_with fail
        go_ret
        exact ⟨ret_int (by rw [HD.out, if_neg (by have := HLEN.out; omega), HI.out, HDD.out]; rfl), HB.out⟩
end Go.Proofs.YtmmkkkakbbidjaaDoor
