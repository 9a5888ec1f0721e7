/- The fixed example of the journals: journalWorks. -/
import Derived.Test.YtmmkkkakbbidjaaDoorJ9
import Derived.Test.YtmmkkkakbbidjaaDoorJ4
namespace Go.Proofs.YtmmkkkakbbidjaaDoor
open Go.ChangeShapes Go.WideShapes Go.ChangeAt Go.RowKit
set_option linter.unusedVariables false
attribute [local go_sem ↓] execOp_call_val
attribute [local go_sem] callVal_func setCell_drewN alloc_drewN sEq_walk

def jl0 : Ev := ⟨30, ⟨#[84, 82, 73, 80]⟩, ⟨#[66]⟩, 0⟩
def jl1 : Ev := ⟨5, ⟨#[84, 82, 73, 80]⟩, ⟨#[65]⟩, -1⟩
theorem jl_ck : ckEv [jl0, jl1] = 0 := by decide +kernel
theorem jl_sort : evSort [jl0, jl1] = [jl1, jl0] := perm_sorted_eq ((evSort_perm _).trans (List.Perm.swap _ _ _)) (evSort_le _) (by
  have h : ordE jl1 jl0 ≤ 0 := by decide +kernel
  simp [h])
theorem jl_grp : grpTo [jl1, jl0] 10 2 = [[jl1], [jl0]] := by
  have h0 : cuts [jl1, jl0] 10 0 = true := by decide +kernel
  have h1 : cuts [jl1, jl0] 10 1 = true := by decide +kernel
  simp [grpTo, h0, h1, pushLast, evAt]
theorem jl_text : prtB [jl0, jl1] = ⟨#[51, 48, 32, 84, 82, 73, 80, 32, 66, 32, 48, 10, 53, 32, 84, 82, 73, 80, 32, 65, 32, 45, 49, 10]⟩ := by
  have a1 : itoaB 30 = ⟨#[51, 48]⟩ := by
    unfold itoaB Lib.itoa
    rw [if_neg (by decide), show (30 : Int).toNat = 30 from rfl, Lib.decDigits_two (by decide) (by decide)]; rfl
  have a2 : itoaB 0 = ⟨#[48]⟩ := by
    unfold itoaB Lib.itoa
    rw [if_neg (by decide), show (0 : Int).toNat = 0 from rfl, Lib.decDigits_one (by decide)]; rfl
  have a3 : itoaB 5 = ⟨#[53]⟩ := by
    unfold itoaB Lib.itoa
    rw [if_neg (by decide), show (5 : Int).toNat = 5 from rfl, Lib.decDigits_one (by decide)]; rfl
  have a4 : itoaB (-1) = ⟨#[45, 49]⟩ := by
    unfold itoaB Lib.itoa
    rw [if_pos (by decide), show (-1 : Int).natAbs = 1 from rfl, Lib.decDigits_one (by decide)]; rfl
  unfold prtB prtGo prtGo prtGo lineB jl0 jl1
  rw [a1, a2, a3, a4]
  decide +kernel
theorem rd_lit {w : World} {B g size n : Nat} {T : TypeId} {vs : List Value} (h : Blk w g T vs.toArray) (hl : vs.length = n * size) (hg : g < B) : Rd w B size (some ⟨g, 0, none⟩) n vs :=
  ⟨hl, fun _ => ⟨g, 0, rfl, hg, fun j u hu => by
    rw [show (⟨g, 0 + j, none⟩ : Addr) = ⟨g, j, none⟩ from by simp]
    rw [h.cell j]
    simpa using hu⟩⟩

set_option maxRecDepth 100000 in
set_option maxHeartbeats 4000000 in
theorem jworks_any (w : World) (ht : TabOk w) : Calls Tryd.prog 8 #[] w fun e w' => e = .returned (.bool true) ∧ Below w.heap.size w w' := by
  have hB0 : Below w.heap.size w (w.alloc (.cells #[.int .i64 30, .string ⟨#[84, 82, 73, 80]⟩, .string ⟨#[66]⟩, .int .i64 0, .int .i64 5, .string ⟨#[84, 82, 73, 80]⟩, .string ⟨#[65]⟩, .int .i64 (-1)] 31)) := (Below.refl _ _).alloc (Nat.le_refl _) _
  have HB0 := Lib.hid hB0
  have HR0 : Hid (RdEv (w.alloc (.cells #[.int .i64 30, .string ⟨#[84, 82, 73, 80]⟩, .string ⟨#[66]⟩, .int .i64 0, .int .i64 5, .string ⟨#[84, 82, 73, 80]⟩, .string ⟨#[65]⟩, .int .i64 (-1)] 31)) (w.alloc (.cells #[.int .i64 30, .string ⟨#[84, 82, 73, 80]⟩, .string ⟨#[66]⟩, .int .i64 0, .int .i64 5, .string ⟨#[84, 82, 73, 80]⟩, .string ⟨#[65]⟩, .int .i64 (-1)] 31)).heap.size (some ⟨w.heap.size, 0, none⟩) 2 [jl0, jl1]) := Lib.hid ⟨rfl, rd_lit (vs := [jl0, jl1].flatMap Ev.cells) (T := 31) (Blk.new _ _ _) rfl (by simp)⟩
  have HT0 := Lib.hid (ht.up hB0)
  have hfit : ∀ x ∈ [jl0, jl1], x.Fit := fun x hx => by
    simp only [List.mem_cons, List.mem_nil_iff, or_false] at hx
    rcases hx with rfl | rfl <;> exact ⟨by decide +kernel, by decide +kernel⟩
  have HFIT := Lib.hid hfit
  clear hB0 ht hfit
  go_enter Tryd.func8, Tryd.ntmps8
  go_wp2_with fail
  refine (jprint_any (some ⟨w.heap.size, 0, none⟩) 2 2 [jl0, jl1] HFIT.out _ HR0.out (by omega) HT0.out).mono ?_
  rintro e w1 ⟨k1, h1⟩
  have HB1 := Lib.hid (HB0.out.trans (k1.mono HB0.out.size))
  have HR1 := Lib.hid (HR0.out.up k1)
  clear k1
  rcases h1 with ⟨hc, _⟩ | ⟨_, rfl⟩
  · exact absurd jl_ck hc
  rw [jl_text]
  go_wp2_with fail
  refine (sorted_any (some ⟨w.heap.size, 0, none⟩) 2 2 [jl0, jl1] HFIT.out _ HR1.out (by omega)).mono ?_
  rintro e w2 ⟨k2, h1⟩
  have HB2 := Lib.hid (HB1.out.trans (k2.mono HB1.out.size))
  have HR2 := Lib.hid (HR1.out.up k2)
  clear k2
  rcases h1 with ⟨hc, _⟩ | ⟨_, SA, sn, sc, rfl, _, _, hs⟩
  · exact absurd jl_ck hc
  rw [jl_sort] at hs
  have hsn : sn = 2 := hs.1.symm
  subst hsn
  have HS2 := Lib.hid hs
  clear hs
  go_wp2_with fail
  refine (jgroups_any (some ⟨w.heap.size, 0, none⟩) 2 2 [jl0, jl1] 10 HFIT.out _ HR2.out (by omega)).mono ?_
  rintro e w3 ⟨k3, h1⟩
  have HB3 := Lib.hid (HB2.out.trans (k3.mono HB2.out.size))
  have hr3 := HR2.out.up k3
  have hs3 := HS2.out.up k3
  clear k3
  rcases h1 with ⟨hc, _⟩ | ⟨_, hc, _⟩ | ⟨_, _, _, v, gs, rfl, hG, hgs⟩
  · exact absurd jl_ck hc
  · omega
  rw [jl_sort] at hgs
  rw [show [jl0, jl1].length = 2 from rfl, jl_grp] at hgs
  have hgl : gs.length = 2 := by have := congrArg List.length hgs; simpa using this
  have ho := hG.out
  rw [hgl] at ho
  obtain ⟨g, cap, rfl, _, _⟩ := ho.form (by omega)
  obtain ⟨sb, so, hA, hsb⟩ := hs3.form (by omega)
  subst hA
  obtain ⟨c0, c1, c2, c3⟩ := hs3.at_ (i := 0) (x := jl1) rfl
  obtain ⟨d0, d1, d2, d3⟩ := hr3.at_ (i := 1) (x := jl1) rfl
  have hgd := grd_ev
  have hel := fun w' => eql_ev jl1 jl1 w'
  rw [evB_self] at hel
  simp only [evV] at hel
  have hlt : w.heap.size < w3.heap.size := by have := HB3.out.size; have h := HB0.out; exact Nat.lt_of_lt_of_le (by simp : w.heap.size < (w.alloc (.cells #[.int .i64 30, .string ⟨#[84, 82, 73, 80]⟩, .string ⟨#[66]⟩, .int .i64 0, .int .i64 5, .string ⟨#[84, 82, 73, 80]⟩, .string ⟨#[65]⟩, .int .i64 (-1)] 31)).heap.size) (by have := hr3.2.2 (by omega); obtain ⟨b, off, e, hl, _⟩ := this; injection e with e; injection e with e1; subst e1; simp; omega)
  have hse : sEq (⟨#[51, 48, 32, 84, 82, 73, 80, 32, 66, 32, 48, 10, 53, 32, 84, 82, 73, 80, 32, 65, 32, 45, 49, 10]⟩ : ByteArray) ⟨#[51, 48, 32, 84, 82, 73, 80, 32, 66, 32, 48, 10, 53, 32, 84, 82, 73, 80, 32, 65, 32, 45, 49, 10]⟩ = true := sEq_iff.2 rfl
  clear hr3 hs3 hG hgs hgl ho
  dsimp only [jl1] at c0 c1 c2 c3 d0 d1 d2 d3 hel
  simp only [Nat.zero_mul, Nat.add_zero, Nat.zero_add, Nat.one_mul] at c0 c1 c2 c3 d0 d1 d2 d3
  go_wp2_with fail
  go_quiet (fail)
  go_wp2_with fail
  go_ret
  exact ⟨rfl, below_drewN HB3.out _⟩
end Go.Proofs.YtmmkkkakbbidjaaDoor
