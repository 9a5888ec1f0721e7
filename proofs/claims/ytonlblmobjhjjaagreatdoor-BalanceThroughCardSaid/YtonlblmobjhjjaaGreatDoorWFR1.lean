/- The law BalanceThrough: for the flows of a network, what enters a part is what is used in it. -/
import Derived.Test.YtonlblmobjhjjaaGreatDoorW17
import Derived.Test.YtonlblmobjhjjaaGreatDoorCards
import Derived.Test.YtonlblmobjhjjaaGreatDoorTie
import Derived.SevenTiedAt
import Derived.ChangeVars
import Derived.JoinedOf
import Derived.RowKitTokens
import Derived.LaidHandle
import Derived.Stop.Joined
namespace Go.Proofs.YtonlblmobjhjjaaGreatDoor.balanceThrough
open Go.ChangeShapes Go.WideShapes Go.ChangeAt Go.RowKit Go.Joins
set_option linter.unusedVariables false

theorem own : ownKnob Tryz.prog.godebug = none := by kernel_rfl

theorem reads5 : (Tryz.f5.params.toList.all fun t => Tryz.prog.readableRec t && decide (t < Tryz.prog.types.size)) = true := by kernel_rfl

set_option maxRecDepth 100000 in
set_option maxHeartbeats 2000000 in
theorem lifted (os : Os) (started : os.Started) (H : Type) (enc : TypeId × Value → H) :
    ReturnsInHanded {} Tryz.checked os 5 .any (fun w args => (Rows.balanceThroughSpec.pre enc Tryz.prog Tryz.f5 Rows.balanceThroughRow.domain false w args ∧ laidMetH Tryz.prog Rows.balanceThroughRow.laid w) ∧ sizedMet enc Tryz.prog Tryz.f5 (OpenSpec.ofChange Rows.balanceThroughSpec) false w args) (Rows.balanceThroughSpec.post enc Tryz.prog Tryz.f5 false true false false) := by
  refine returnsInHanded_of_change_and (C := Tryz.checked) (X := fun w _ => laidMetH Tryz.prog Rows.balanceThroughRow.laid w) (fun _ _ _ hh h => h.of_heap hh) own started (by kernel_rfl) Tryz.func5
    (ChangeSpec.witness_at (enc := enc) (C := Tryz.checked) (os := os) (X := fun w _ => laidMetH Tryz.prog Rows.balanceThroughRow.laid w) false (AX os) #[.agg #[.slice none 0 0, .slice none 0 0, .slice none 0 0, .slice none 0 0, .slice none 0 0, .slice none 0 0], .slice none 0 0, .slice none 0 0] 8 (World.laidAll_os _ _ _) (by kernel_rfl) (by kernel_rfl) (by kernel_rfl) (by kernel_rfl) (by kernel_rfl) (WS os _)) ?_
  intro W base args ds gs before hval0 hW _ hSZ0 hL _
  have hTAB := aAq hL
  have hval : ∀ (j : Nat) t v, Tryz.f5.params[j]? = some t → args[j]? = some v → Value.okWide Tryz.prog W .any base t v := hval0
  have hW' := hW
  obtain ⟨p, q, hA0, hV, rfl, hfz, hnd⟩ := hW
  have hA : DataW.TrodAll enc Tryz.prog W 0 (fun _ => true) true Tryz.f5.params.toList args.toList ds p := hA0
  rw [Tryz.params5] at hA hval
  obtain ⟨v0, vs0, d0, ds0, p0, q0, hargs, rfl, rfl, h0, r0⟩ := trodAll_cons hA
  obtain ⟨v1, vs1, d1, ds1, p1, q1, rfl, rfl, rfl, h1, r1⟩ := trodAll_cons r0
  obtain ⟨v2, vs2, d2, ds2, p2, q2, rfl, rfl, rfl, h2, r2⟩ := trodAll_cons r1
  obtain ⟨rfl, rfl, rfl⟩ := trodAll_nil r2
  obtain rfl : args = #[v0, v1, v2] := by cases args; simp_all
  obtain ⟨rfl, rfl⟩ := trodVars_none hV
  obtain ⟨hh0, x0, rfl, hR0⟩ := aHk (hval 0 29 v0 rfl rfl) h0
  obtain ⟨A1, n1, c1, l1, rfl, hnc1, hcm1, hf1, hR1⟩ := aF3 (hval 1 22 v1 rfl rfl) h1
  obtain ⟨A2, n2, c2, zs2, rfl, hnc2, hcm2, hwf2, hr2⟩ := aAp (okWide_slice Tryz.underlying47 (hval 2 47 v2 rfl rfl)) h2

  refine (aGG hh0 x0 A1 n1 c1 l1 A2 n2 c2 zs2 _ hR0 hR1 (by simp only [maxLen] at hcm1; omega) hnc1 (by simp only [maxLen] at hcm1; omega) hr2 (by simp only [maxLen] at hcm2; omega) hTAB).mono fun e W' ⟨he, hb⟩ => ?_
  subst he
  exact ⟨_, rfl, aHn (by kernel_rfl) rfl rfl (fun t ht => by have h := List.all_eq_true.1 reads5 t ht; rw [Bool.and_eq_true, decide_eq_true_eq] at h; exact h) (by kernel_rfl) Tryz.underlying4 hW' hb⟩

theorem stands : (Tryz.f5.params.toList.all fun t => !Tryz.prog.wantsStandIn t) = true := by kernel_rfl

theorem j1 : (Rows.balanceThroughRow.inPlace == Tryz.prog.inPlace 5) = true := by kernel_rfl
theorem j2 : (Rows.balanceThroughRow.unfollowed == Tryz.prog.unfollowed 5) = true := by kernel_rfl
theorem j3 : (Rows.balanceThroughRow.recurses == Tryz.prog.recurses 5) = true := by kernel_rfl
theorem j4 : (Rows.balanceThroughRow.named == Tryz.prog.varsNamed 5) = true := by kernel_rfl
theorem closed : joinedFacts Tryz.prog 5 Tryz.f5 Rows.balanceThroughSpec Rows.balanceThroughRow = true := by
  unfold joinedFacts
  rw [aKy, aKx, aHo, aHq, j1, j2, j3, j4, show Rows.balanceThroughRow.plainKeys = Rows.faultStrongerRow.plainKeys from rfl, aKz, aHr, aHs, show Rows.balanceThroughRow.lifted = Rows.faultStrongerRow.lifted from rfl, aHp]
  kernel_rfl

theorem over : Rows.balanceThroughRow.holds Tryz.pinned (OpenSpec.ofChange Rows.balanceThroughSpec) :=
  OpenClaim.holds_of_wide 5 Tryz.f5 rfl rfl rfl rfl rfl rfl rfl ⟨rfl, rfl, rfl, rfl, rfl⟩ rfl rfl rfl rfl rfl (by kernel_rfl) Tryz.func5 closed
    (of_decide_eq_true (by kernel_rfl)) (by unfold Func.isWrapper; first | (rw [if_pos (by decide +kernel)]; kernel_rfl) | (rw [if_neg (by decide +kernel)]; exact ⟨rfl, rfl⟩))
    (fun os started H enc _ => lifted os started H enc)

set_option maxRecDepth 100000 in
theorem proved : Rows.BalanceThroughCardSaid :=
  Claim7.holds_tied_plain_at .later [] [.data, .data, .data, .sentinel, .sentinel] true (true, "2f881f9a87db2170264d8f1323f6fa0f9bb16c9172e81407e792d401affb71ce") true
    over (fun _ h => by cases h) (by kernel_rfl) (fun _ h => by cases h) balanceThrough_row_tie rfl ⟨rfl, rfl⟩ (by kernel_rfl) rfl
    (fun f fn hf hfn => by
      obtain rfl : f = 5 := Option.some.inj ((show Tryz.prog.funcNamed Rows.balanceThroughRow.func = some 5 by kernel_rfl).symm.trans hf) |>.symm
      obtain rfl : fn = Tryz.f5 := (Option.some.inj (Tryz.func5.symm.trans hfn)).symm
      exact ⟨by kernel_rfl, fun j t ht => by
        have h := List.all_eq_true.1 stands t (by
          have h2 := Array.mem_of_getElem? ht
          exact Array.mem_def.1 h2)
        have h3 : Tryz.prog.wantsStandIn t = false := by simpa using h
        exact h3⟩)
    (by kernel_rfl)
#print axioms proved
end Go.Proofs.YtonlblmobjhjjaaGreatDoor.balanceThrough
