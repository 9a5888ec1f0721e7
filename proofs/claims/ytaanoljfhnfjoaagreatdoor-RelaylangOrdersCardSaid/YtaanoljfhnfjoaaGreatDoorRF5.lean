/- slices.Grow of nothing, slices.Concat: rows of nodes. -/
import Derived.Test.YtaanoljfhnfjoaaGreatDoorD6
import Derived.Test.YtaanoljfhnfjoaaGreatDoorAR0
import Derived.Test.YtaanoljfhnfjoaaGreatDoorSh
import Derived.Lib.AppendZerosOnto
namespace Go.Proofs.YtaanoljfhnfjoaaGreatDoor
open Go.ChangeShapes Go.WideShapes Go.ChangeAt Go.RowKit
set_option linter.unusedVariables false
set_option linter.unusedSimpArgs false
attribute [local go_sem ↓] execOp_call_val
attribute [local go_sem] callVal_func setCell_drewN alloc_drewN sEq_walk

def AnyV (u : Value) : Prop := True
theorem info_Nd : (Tryz.prog.info? 41).map (fun i => (i.zero, i.size, i.bytes)) = some (some (.agg #[.int .i64 0, .string ⟨#[]⟩, .int .i64 0]), 3, 32) := by kernel_rfl
theorem wpList_app2 {P : Program} {ops : Array Oper} {rest : List Oper} {o : Oper} {a : Act} {Q : Exit → Act → World → Prop} {w w' : World} (hgd : o.guard = none) (s x : Operand) (t tn : TypeId)
    (ho : o.op = .call { callee := .builtin .append, args := #[s, x], argTypes := #[t, tn] }) (sv xv v : Value) (hs : a.eval s = sv) (hx : a.eval x = xv)
    (hrun : ∀ ty, (Builtin.append_ #[t, tn] ty #[sv, xv]).run P w = .ok v w') (h : wpList P ops Q rest (a.put o.dst v) w') : wpList P ops Q (o :: rest) a w := by
  refine wpList_plain hgd fun K hK => ?_
  unfold Oper.wp execOp
  simp only [ho, resolve, invoke, builtin, Sem.run_bind, Sem.run_pure, Result.andThen_ok, List.map_toArray, List.map_cons, List.map_nil, hs, hx, hrun]
  exact hK _ _ h
theorem run_grow_nil (w : World) (n : Nat) (h0 : 0 < n) (hn : n ≤ 1000000) :
    ∃ cs cap, n ≤ cap ∧ cap ≤ maxLen ∧ cs.size = cap * 3 ∧ ∀ ty, (Builtin.append_ #[37, 3] ty #[.slice none 0 0, .int .i64 n]).run Tryz.prog w = .ok (.slice (some ⟨w.heap.size, 0, none⟩) n cap) (w.drew.alloc (.cells cs 41)) := by
  obtain ⟨i0, hi0, hz0, hz1, hz2⟩ := info_parts info_Nd
  have hge := grownCap_ge w n 0 41
  refine ⟨#[] ++ Builtin.zeroCells (Value.agg #[.int .i64 0, .string ⟨#[]⟩, .int .i64 0]).cells n ++ Builtin.zeroCells (Value.agg #[.int .i64 0, .string ⟨#[]⟩, .int .i64 0]).cells (grownCap w n 0 41 - n), grownCap w n 0 41, hge, grownCap_le_maxLen w n 0 _ (by simp only [maxLen]; omega), ?_, fun ty => ?_⟩
  · rw [Array.size_append, Array.size_append, size_zeroCells, size_zeroCells]
    rw [show (Value.agg #[.int .i64 0, .string ⟨#[]⟩, .int .i64 0]).cells.size = 3 from rfl]
    simp only [List.size_toArray, List.length_nil]
    omega
  · have := Lib.run_append_grow_zeros w 37 3 ty 41 i0 _ .i64 .i64 Tryz.underlying37 Tryz.underlying3 hi0 hz0 none 0 0 [] (run_firstCells_none w.drew i0.size 0 0 0) n h0 (by omega) (by omega) (by omega) (by rw [hz2]; omega) (growslice_fits (by omega) (by rw [hz2]; omega))
    rw [Nat.zero_add] at this
    exact this
set_option maxRecDepth 100000 in
set_option maxHeartbeats 2000000 in
theorem growNd_any (n : Nat) (hn : n ≤ 1000000) (w : World) :
    Calls Tryz.prog 82 #[.slice none 0 0, .int .i64 n] w fun e w' => ∃ v, e = .returned v ∧ Below w.heap.size w w' ∧ OwnS AnyV w' w.heap.size 41 3 v 0 [] := by
  have h1 : ¬ ((n : Int) < 0) := by omega
  by_cases h0 : n = 0
  · subst h0
    go_enter Tryz.func82, Tryz.ntmps82
    go_wp2_with fail
    go_ret
    exact ⟨_, rfl, Below.refl _ _, ownS_none _ _ _ _ _⟩
  · have hp : (n : Int) > 0 := by omega
    obtain ⟨cs, cap, hc1, hc2, hc3, hrz⟩ := run_grow_nil w n (by omega) hn
    have HC3 := Lib.hid hc3
    have HC2 := Lib.hid hc2
    clear hc3 hc2
    go_enter Tryz.func82, Tryz.ntmps82
    go_wp2_with (at_builtin; refine wpList_app2 rfl _ _ 37 3 rfl (.slice none 0 0) (.int .i64 n) _ rfl rfl hrz ?_)
    go_ret
    exact ⟨_, rfl, below_drew ((Below.refl _ _).alloc (Nat.le_refl _) _), by simp, .inr ⟨_, cap, cs, rfl, Nat.le_refl _, (Blk.new _ _ _).drew, by omega, HC2.out, HC3.out, rfl, fun _ _ => trivial⟩⟩
/-- a row of nodes, by its head -/
structure Hn where
  A : Option Addr
  n : Nat
  c : Nat
  l : List Nd
def Hn.val (h : Hn) : Value := .slice h.A h.n h.c
def RdHn (w : World) (B : Nat) (hs : List Hn) : Prop := ∀ h ∈ hs, RdNd w B h.A h.n h.l
def hsum : List Hn → Nat
  | [] => 0
  | h :: r => h.n + hsum r
def hcat (hs : List Hn) : List Nd := hs.flatMap Hn.l
theorem hsum_app : ∀ (a b : List Hn), hsum (a ++ b) = hsum a + hsum b
  | [], b => by simp [hsum]
  | h :: r, b => by simp only [List.cons_append, hsum]; rw [hsum_app r b]; omega
theorem hsum_take {hs : List Hn} {k : Nat} {h : Hn} (hk : hs[k]? = some h) : hsum (hs.take (k + 1)) = hsum (hs.take k) + h.n := by
  rw [List.take_add_one, hk, hsum_app]; rfl
theorem hsum_le (hs : List Hn) (k : Nat) : hsum (hs.take k) ≤ hsum hs := by
  have := hsum_app (hs.take k) (hs.drop k)
  rw [List.take_append_drop] at this
  omega
theorem hcat_take {hs : List Hn} {k : Nat} {h : Hn} (hk : hs[k]? = some h) : hcat (hs.take (k + 1)) = hcat (hs.take k) ++ h.l := by
  unfold hcat
  rw [List.take_add_one, hk, List.flatMap_append]
  simp
theorem nd_any (l : List Nd) : ∀ u ∈ l.flatMap Nd.cells, u.oneCell' = true ∧ AnyV u := fun u hu => by
  obtain ⟨x, _, hx⟩ := List.mem_flatMap.1 hu
  simp only [Nd.cells, List.mem_cons, List.not_mem_nil, or_false] at hx
  rcases hx with rfl | rfl | rfl <;> exact ⟨rfl, trivial⟩
set_option maxRecDepth 100000 in
set_option maxHeartbeats 4000000 in
theorem concatNd_any (b off m c : Nat) (hs : List Hn) (w : World) (hm : hs.length = m) (hR : Rd w w.heap.size 1 (some ⟨b, off, none⟩) m (hs.map Hn.val)) (hN : RdHn w w.heap.size hs) (hsum_ : hsum hs ≤ 1000000) (h8 : m ≤ 8) :
    Calls Tryz.prog 63 #[.slice (some ⟨b, off, none⟩) m c] w fun e w' => ∃ v, e = .returned v ∧ Below w.heap.size w w' ∧ OwnS AnyV w' w.heap.size 41 3 v (hsum hs) ((hcat hs).flatMap Nd.cells) := by
  obtain ⟨i0, hi0, hz0, hz1, hz2⟩ := info_parts info_Nd
  have HRR := Lib.hid hR
  have HNN := Lib.hid hN
  have HM := Lib.hid hm
  have HAT : Hid (∀ k, k < m → ∃ h, hs[k]? = some h ∧ w.cell? ⟨b, off + k, none⟩ = some (.slice h.A h.n h.c)) := Lib.hid fun k hk => by
    have e := List.getElem?_eq_getElem (l := hs) (i := k) (by omega)
    refine ⟨_, e, ?_⟩
    obtain ⟨b', off', ea, hlt, hc⟩ := hR.2 (by omega)
    injection ea with ea
    injection ea with e1 e2
    subst e1; subst e2
    exact hc k _ (by rw [List.getElem?_map, e]; rfl)
  clear hR hN hm
  go_enter Tryz.func63, Tryz.ntmps63
  go_wp2_with fail
  go_loopw [3, 11] (fun sv iv wr => ∃ k : Nat, k ≤ m ∧ iv = .int .i64 k ∧ sv = .int .i64 (hsum (hs.take k)) ∧ w = wr) (fun _ i _ => m - (intOf i).toNat)
  case atStart => exact ⟨0, by omega, rfl, rfl, rfl⟩
  case round =>
    obtain ⟨k, hk, rfl, rfl, rfl⟩ := hrel
    by_cases hlt : k < m
    · have hltI : (k : Int) < (m : Int) := by omega
      obtain ⟨h, hh, c0⟩ := HAT.out k hlt
      have hst := hsum_take hh
      have hle := hsum_le hs (k + 1)
      rw [hst] at hle
      have HST := Lib.hid hst
      clear hst hh
      generalize hsum (hs.take k) = sk at *
      go_wp2_with fail
      go_roundw
      case rel => exact ⟨k + 1, hlt, by go_num, by rw [HST.out]; go_num, (by first | rfl | trivial)⟩
      case measure => simp [intOf]; omega
    · have hke : k = m := by omega
      have hsm : hsum (hs.take k) = hsum hs := by rw [List.take_of_length_le (by have := HM.out; omega)]
      rw [hsm]
      clear hsm hke
      go_wp2_with fail
      refine (growNd_any (hsum hs) hsum_ w).mono ?_
      rintro e w1 ⟨v0, rfl, k1, o1⟩
      have HB1 := Lib.hid k1
      have HO1 := Lib.hid o1
      have HSUM := Lib.hid hsum_
      clear k1 o1
      go_wp2_with fail
      go_loopw [6, 27] (fun sv iv w2 => ∃ k : Nat, k ≤ m ∧ iv = .int .i64 k ∧ Below w.heap.size w w2 ∧ OwnS AnyV w2 w.heap.size 41 3 sv (hsum (hs.take k)) ((hcat (hs.take k)).flatMap Nd.cells)) (fun _ i _ => m - (intOf i).toNat)
      case atStart => exact ⟨0, by omega, rfl, HB1.out, HO1.out⟩
      case round =>
        obtain ⟨k2, hk2, rfl, hb2, ho2⟩ := hrel
        have HB2 := Lib.hid hb2
        have HO2 := Lib.hid ho2
        clear hb2 ho2
        by_cases hlt2 : k2 < m
        · have hltI2 : (k2 : Int) < (m : Int) := by omega
          obtain ⟨h, hh, c0⟩ := HAT.out k2 hlt2
          have c1 := (HB2.out.cell (cell_lt c0).1).trans c0
          have hst := hsum_take hh
          have hle := hsum_le hs (k2 + 1)
          rw [hst] at hle
          have HST := Lib.hid hst
          have HCT := Lib.hid (hcat_take hh)
          have hrd := (HNN.out h (List.mem_of_getElem? hh)).below HB2.out (Nat.le_refl _)
          have HRD := Lib.hid (hrd.more HB2.out.size)
          clear hst hh c0 hrd
          generalize hsum (hs.take k2) = sk at *
          have hbs := HB2.out.size
          go_wp2_with (at_builtin; refine wpList_appR (S := AnyV) rfl _ _ 37 rfl w.heap.size 41 i0 _ 3 32 Tryz.underlying37 hi0 hz0 hz1 hz2 rfl (by omega) (fun _ _ => trivial) _ _ _ rfl HO2.out h.A h.n h.c (h.l.flatMap Nd.cells) rfl HRD.out.2 (nd_any h.l) (by simp only [maxLen]; omega) (by omega) hbs ?_)
          intro v' w3 o3 kp _ _
          have HO3 := Lib.hid o3
          have HB3 := Lib.hid (HB2.out.trans kp.low)
          clear o3 kp c1
          go_wp2_with fail
          go_roundw
          case rel => exact ⟨k2 + 1, hlt2, by go_num, HB3.out, by rw [HST.out, HCT.out, List.flatMap_append]; exact HO3.out⟩
          case measure => simp [intOf]; omega
        · have hke : hs.take k2 = hs := List.take_of_length_le (by have := HM.out; omega)
          have HO3 : Hid (OwnS AnyV wr w.heap.size 41 3 u6 (hsum hs) ((hcat hs).flatMap Nd.cells)) := Lib.hid (by have := HO2.out; rw [hke] at this; exact this)
          clear hke HO2
          go_wp2_with fail
          go_ret
          exact ⟨_, rfl, HB2.out, HO3.out⟩
end Go.Proofs.YtaanoljfhnfjoaaGreatDoor
