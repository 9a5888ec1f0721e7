/- The law SuspectOne: one wrong meter whose spread is not 0 is not less suspicious than any other one. -/
import Derived.Test.YthgdchffeigkbaaGreatDoorV18
import Derived.Test.YthgdchffeigkbaaGreatDoorV37
import Derived.Test.YthgdchffeigkbaaGreatDoorCards
import Derived.Test.YthgdchffeigkbaaGreatDoorTie
import Derived.SevenTiedAt
import Derived.ChangeVars
import Derived.JoinedOf
import Derived.RowKitTokens
import Derived.LaidHandle
import Derived.Stop.Joined
namespace Go.Proofs.YthgdchffeigkbaaGreatDoor.suspectOne
open Go.ChangeShapes Go.WideShapes Go.ChangeAt Go.RowKit Go.Joins
set_option linter.unusedVariables false

theorem own : ownKnob Tryz.prog.godebug = none := by kernel_rfl

theorem reads13 : (Tryz.f13.params.toList.all fun t => Tryz.prog.readableRec t && decide (t < Tryz.prog.types.size)) = true := by kernel_rfl

set_option maxRecDepth 100000 in
set_option maxHeartbeats 2000000 in
theorem lifted (os : Os) (started : os.Started) (H : Type) (enc : TypeId × Value → H) :
    ReturnsInHanded {} Tryz.checked os 13 .any (fun w args => (Rows.suspectOneSpec.pre enc Tryz.prog Tryz.f13 Rows.suspectOneRow.domain false w args ∧ laidMetH Tryz.prog Rows.suspectOneRow.laid w) ∧ sizedMet enc Tryz.prog Tryz.f13 (OpenSpec.ofChange Rows.suspectOneSpec) false w args) (Rows.suspectOneSpec.post enc Tryz.prog Tryz.f13 false true false false) := by
  refine returnsInHanded_of_change_and (C := Tryz.checked) (X := fun w _ => laidMetH Tryz.prog Rows.suspectOneRow.laid w) (fun _ _ _ hh h => h.of_heap hh) own started (by kernel_rfl) Tryz.func13
    (ChangeSpec.witness_at (enc := enc) (C := Tryz.checked) (os := os) (X := fun w _ => laidMetH Tryz.prog Rows.suspectOneRow.laid w) false (JN os) #[.agg #[.slice none 0 0, .slice none 0 0, .slice none 0 0, .slice none 0 0, .slice none 0 0, .slice none 0 0], .slice none 0 0, .slice none 0 0, .int .i64 0, .string ⟨#[]⟩] 8 (World.laidAll_os _ _ _) (by kernel_rfl) (by kernel_rfl) (by kernel_rfl) (by kernel_rfl) (by kernel_rfl) (aFn os _)) ?_
  intro W base args ds gs before hval0 hW _ hSZ0 hL _
  have hTAB := aH4 hL
  have hval : ∀ (j : Nat) t v, Tryz.f13.params[j]? = some t → args[j]? = some v → Value.okWide Tryz.prog W .any base t v := hval0
  have hW' := hW
  obtain ⟨p, q, hA0, hV, rfl, hfz, hnd⟩ := hW
  have hA : DataW.TrodAll enc Tryz.prog W 0 (fun _ => true) true Tryz.f13.params.toList args.toList ds p := hA0
  rw [Tryz.params13] at hA hval
  obtain ⟨v0, vs0, d0, ds0, p0, q0, hargs, rfl, rfl, h0, r0⟩ := trodAll_cons hA
  obtain ⟨v1, vs1, d1, ds1, p1, q1, rfl, rfl, rfl, h1, r1⟩ := trodAll_cons r0
  obtain ⟨v2, vs2, d2, ds2, p2, q2, rfl, rfl, rfl, h2, r2⟩ := trodAll_cons r1
  obtain ⟨v3, vs3, d3, ds3, p3, q3, rfl, rfl, rfl, h3, r3⟩ := trodAll_cons r2
  obtain ⟨v4, vs4, d4, ds4, p4, q4, rfl, rfl, rfl, h4, r4⟩ := trodAll_cons r3
  obtain ⟨rfl, rfl, rfl⟩ := trodAll_nil r4
  obtain rfl : args = #[v0, v1, v2, v3, v4] := by cases args; simp_all
  obtain ⟨rfl, rfl⟩ := trodVars_none hV
  obtain ⟨hh0, x0, rfl, hR0⟩ := aRr (hval 0 29 v0 rfl rfl) h0
  obtain ⟨A1, n1, c1, l1, rfl, hnc1, hcm1, hf1, hR1⟩ := aRs (hval 1 31 v1 rfl rfl) h1
  obtain ⟨A2, n2, c2, l2, rfl, hnc2, hcm2, hf2, hR2⟩ := aRq (hval 2 35 v2 rfl rfl) h2
  obtain ⟨a3, rfl, rfl, rfl, w3⟩ := open_int Tryz.underlying3 (hval 3 3 v3 rfl rfl) h3
  obtain ⟨s4, rfl, hs4⟩ := aI7 Tryz.underlying55 (hval 4 55 v4 rfl rfl) h4

  refine (aRo hh0 x0 A1 n1 c1 l1 _ hR0 hR1 A2 n2 c2 l2 a3 s4 hR2 (bounds_i64 w3).1 (bounds_i64 w3).2 (aQc (j := 2) hSZ0 rfl rfl h2) hnc1 (by simp only [maxLen] at hcm1; omega) hTAB).mono fun e W' ⟨he, hb⟩ => ?_
  subst he
  exact ⟨_, rfl, aRx (by kernel_rfl) rfl rfl (fun t ht => by have h := List.all_eq_true.1 reads13 t ht; rw [Bool.and_eq_true, decide_eq_true_eq] at h; exact h) (by kernel_rfl) Tryz.underlying4 hW' hb⟩

theorem stands : (Tryz.f13.params.toList.all fun t => !Tryz.prog.wantsStandIn t) = true := by kernel_rfl

theorem j1 : (Rows.suspectOneRow.inPlace == Tryz.prog.inPlace 13) = true := by kernel_rfl
theorem j2 : (Rows.suspectOneRow.unfollowed == Tryz.prog.unfollowed 13) = true := by kernel_rfl
theorem j3 : (Rows.suspectOneRow.recurses == Tryz.prog.recurses 13) = true := by kernel_rfl
theorem j4 : (Rows.suspectOneRow.named == Tryz.prog.varsNamed 13) = true := by kernel_rfl
theorem closed : joinedFacts Tryz.prog 13 Tryz.f13 Rows.suspectOneSpec Rows.suspectOneRow = true := by
  unfold joinedFacts
  rw [aVP, aVO, aRy, aRA, j1, j2, j3, j4, show Rows.suspectOneRow.plainKeys = Rows.topEstimatedRow.plainKeys from rfl, aVQ, aRB, aRC, show Rows.suspectOneRow.lifted = Rows.topEstimatedRow.lifted from rfl, aRz]
  kernel_rfl

theorem over : Rows.suspectOneRow.holds Tryz.pinned (OpenSpec.ofChange Rows.suspectOneSpec) :=
  OpenClaim.holds_of_wide 13 Tryz.f13 rfl rfl rfl rfl rfl rfl rfl ⟨rfl, rfl, rfl, rfl, rfl⟩ rfl rfl rfl rfl rfl (by kernel_rfl) Tryz.func13 closed
    (of_decide_eq_true (by kernel_rfl)) (by unfold Func.isWrapper; first | (rw [if_pos (by decide +kernel)]; kernel_rfl) | (rw [if_neg (by decide +kernel)]; exact ⟨rfl, rfl⟩))
    (fun os started H enc _ => lifted os started H enc)

set_option maxRecDepth 100000 in
theorem proved : Rows.SuspectOneCardSaid :=
  Claim7.holds_tied_plain_at .later [] [.data, .data, .data, .sentinel, .sentinel] true (true, "46f6f235a91c592a7d4ba81642b18d9d511421fd6310b4e5d62350f925362646") true
    over (fun _ h => by cases h) (by kernel_rfl) (fun _ h => by cases h) suspectOne_row_tie rfl ⟨rfl, rfl⟩ (by kernel_rfl) rfl
    (fun f fn hf hfn => by
      obtain rfl : f = 13 := Option.some.inj ((show Tryz.prog.funcNamed Rows.suspectOneRow.func = some 13 by kernel_rfl).symm.trans hf) |>.symm
      obtain rfl : fn = Tryz.f13 := (Option.some.inj (Tryz.func13.symm.trans hfn)).symm
      exact ⟨by kernel_rfl, fun j t ht => by
        have h := List.all_eq_true.1 stands t (by
          have h2 := Array.mem_of_getElem? ht
          exact Array.mem_def.1 h2)
        have h3 : Tryz.prog.wantsStandIn t = false := by simpa using h
        exact h3⟩)
    (by kernel_rfl)
#print axioms proved
end Go.Proofs.YthgdchffeigkbaaGreatDoor.suspectOne
