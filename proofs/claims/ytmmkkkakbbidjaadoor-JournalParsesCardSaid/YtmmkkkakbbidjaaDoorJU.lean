/- journal.number: strconv.Atoi at every string, and read back. -/
import Derived.Test.YtmmkkkakbbidjaaDoorJS
import Derived.Shelf.Strconv.ErrVarAll
import Derived.Lib.AtoiErrMem
namespace Go.Proofs.YtmmkkkakbbidjaaDoor
open Go.ChangeShapes Go.WideShapes Go.ChangeAt Go.RowKit
set_option linter.unusedVariables false
attribute [local go_sem ↓] execOp_call_val
attribute [local go_sem] callVal_func setCell_drewN alloc_drewN sEq_walk

def IfV (v : Value) : Prop := v = .nilIface ∨ ∃ te pe, v = .iface te pe
/-- what the library's variables hold, as the walks of Parse ask it -/
structure EnvJ (w : World) : Prop where
  tab : TabOk w
  mx : ∃ m, w.cell? ⟨1, 0, none⟩ = some (.int .i64 m)
  es : ∃ v, w.cell? ⟨2, 0, none⟩ = some v ∧ IfV v
  er : ∃ v, w.cell? ⟨3, 0, none⟩ = some v ∧ IfV v
theorem EnvJ.up {w w' : World} (h : EnvJ w) (hb : Below w.heap.size w w') : EnvJ w' := by
  obtain ⟨h1, ⟨m, h2⟩, ⟨v, h3, i3⟩, ⟨u, h4, i4⟩⟩ := h
  exact ⟨h1.up hb, ⟨m, (hb.cell (cell_lt h2).1).trans h2⟩, ⟨v, (hb.cell (cell_lt h3).1).trans h3, i3⟩, ⟨u, (hb.cell (cell_lt h4).1).trans h4, i4⟩⟩
theorem atoi_any (s : ByteArray) (hs : s.size ≤ 281474976710656) (w : World) (he : EnvJ w) :
    Calls Tryd.prog 38 #[.string s] w fun e w' => Below w.heap.size w w' ∧ ((∃ n, Lib.atoiAll (bl s) = .ok n ∧ e = .returned (.tuple #[.int .i64 n, .nilIface])) ∨
      ((∀ n, Lib.atoiAll (bl s) ≠ .ok n) ∧ ∃ n t p, e = .returned (.tuple #[.int .i64 n, .iface t p]))) := by
  obtain ⟨_, _, ⟨v, h3, i3⟩, ⟨u, h4, i4⟩⟩ := he
  cases hh : Lib.atoiAll s.data.toList
  · rename_i n
    refine (Any.strconv_Atoi_ok Tryd.laysC172 s (by omega) n hh w).mono ?_
    rintro e w' ⟨rfl, hw⟩
    refine ⟨?_, .inl ⟨n, hh, rfl⟩⟩
    rcases hw with rfl | ⟨t, rfl⟩
    · exact Below.refl _ _
    · exact Lib.bytesWorld_below _ _ _
  · refine (Any.strconv_Atoi_syntax Tryd.laysC172 s hs hh v w h3 i3).mono ?_
    rintro e w' ⟨N, rfl, _, _, hb⟩
    exact ⟨hb, .inr ⟨(fun n hn => by unfold bl at hn; rw [hh] at hn; cases hn), _, _, _, rfl⟩⟩
  · refine (Any.strconv_Atoi_range Tryd.laysC172 s hs hh u w h4 i4).mono ?_
    rintro e w' ⟨N, rfl, _, _, hb⟩
    exact ⟨hb, .inr ⟨(fun n hn => by unfold bl at hn; rw [hh] at hn; cases hn), _, _, _, rfl⟩⟩
def numF (s : ByteArray) : Option Int :=
  match Lib.atoiAll (bl s) with
  | .ok n => if (Lib.trimPrefix (bl s) [45]).length ≤ 10 ∧ itoaB n = s then some n else none
  | _ => none
theorem numF_ok {s : ByteArray} {n : Int} (h : Lib.atoiAll (bl s) = .ok n) : numF s = if (Lib.trimPrefix (bl s) [45]).length ≤ 10 ∧ itoaB n = s then some n else none := by
  unfold numF; rw [h]
theorem numF_bad {s : ByteArray} (h : ∀ n, Lib.atoiAll (bl s) ≠ .ok n) : numF s = none := by
  unfold numF
  split
  · rename_i n hn; exact absurd hn (h n)
  · rfl
def NumP (s : ByteArray) (w : World) (e : Ending) (w' : World) : Prop :=
  Below w.heap.size w w' ∧ ∃ n b, e = .returned (.tuple #[.int .i64 n, .bool b]) ∧ ((b = true ∧ numF s = some n) ∨ (b = false ∧ numF s = none))
set_option maxHeartbeats 4000000 in
theorem number_any (s : ByteArray) (hs : s.size ≤ 281474976710656) (w : World) (he : EnvJ w) :
    Calls Tryd.prog 27 #[.string s] w (NumP s w) := by
  have HE := Lib.hid he
  have HP : Hid (∀ e w', NumP s w e w' = (Below w.heap.size w w' ∧ ∃ n b, e = .returned (.tuple #[.int .i64 n, .bool b]) ∧ ((b = true ∧ numF s = some n) ∨ (b = false ∧ numF s = none)))) := Lib.hid fun _ _ => rfl
  clear he
  go_enter Tryd.func27, Tryd.ntmps27
  go_wp2_with fail
  refine (atoi_any s hs w HE.out).mono ?_
  rintro e w1 ⟨k1, h1⟩
  have HB := Lib.hid k1
  have HE1 := Lib.hid (HE.out.up k1)
  clear k1
  rcases h1 with ⟨n, hn, rfl⟩ | ⟨hn, n, t, p, rfl⟩
  · have HN := Lib.hid (numF_ok hn)
    obtain ⟨hn0, hn1⟩ := Lib.atoiAll_bounds hn
    clear hn
    go_wp2_with fail
    refine (Tryd.strings_TrimPrefix s ⟨#[45]⟩ w1).mono ?_
    rintro e w2 ⟨rfl, rfl⟩
    have HT : Hid ((⟨(Lib.trimPrefix s.data.toList [45]).toArray⟩ : ByteArray).size = (Lib.trimPrefix (bl s) [45]).length) := Lib.hid rfl
    generalize hts : (⟨(Lib.trimPrefix s.data.toList [45]).toArray⟩ : ByteArray) = ts at *
    clear hts
    by_cases hle : ts.size ≤ 10
    · have hleI : (ts.size : Int) ≤ 10 := by omega
      go_wp2_with fail
      refine (itoa_any n hn0 hn1 _ HE1.out.tab).mono ?_
      rintro e w3 ⟨rfl, k3⟩
      have HB3 := Lib.hid (HB.out.trans (k3.mono HB.out.size))
      clear k3
      cases hq : sEq (itoaB n) s with
      | true =>
        go_wp2_with fail
        go_ret2
        rw [HP.out]
        exact ⟨HB3.out, _, _, rfl, .inl ⟨rfl, by rw [HN.out, if_pos ⟨by rw [← HT.out]; exact hle, sEq_iff.1 hq⟩]⟩⟩
      | false =>
        go_wp2_with fail
        go_ret2
        rw [HP.out]
        exact ⟨HB3.out, _, _, rfl, .inr ⟨rfl, by rw [HN.out, if_neg (fun h => sEq_ff.1 hq h.2)]⟩⟩
    · have hleI : ¬ (ts.size : Int) ≤ 10 := by omega
      go_wp2_with fail
      go_ret2
      rw [HP.out]
      exact ⟨HB.out, _, _, rfl, .inr ⟨rfl, by rw [HN.out, if_neg (fun h => hle (by rw [HT.out]; exact h.1))]⟩⟩
  · have HN := Lib.hid (numF_bad hn)
    clear hn
    go_wp2_with fail
    go_ret2
    rw [HP.out]
    exact ⟨HB.out, _, _, rfl, .inr ⟨rfl, HN.out⟩⟩
end Go.Proofs.YtmmkkkakbbidjaaDoor
