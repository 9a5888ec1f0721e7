/- The law TopPseudo: exact meters, completed by exact pseudo meters, yield the exact state. -/
import Derived.Test.YthgdchffeigkbaaGreatDoorW23
import Derived.Test.YthgdchffeigkbaaGreatDoorCards
import Derived.Test.YthgdchffeigkbaaGreatDoorTie
import Derived.SevenTiedAt
import Derived.ChangeVars
import Derived.JoinedOf
import Derived.RowKitTokens
import Derived.LaidHandle
import Derived.Stop.Joined
namespace Go.Proofs.YthgdchffeigkbaaGreatDoor.topPseudo
open Go.ChangeShapes Go.WideShapes Go.ChangeAt Go.RowKit Go.Joins
set_option linter.unusedVariables false
theorem own:ownKnob Tryz.prog.godebug=none:=by kernel_rfl
theorem reads4:(Tryz.f4.params.toList.all fun t=>Tryz.prog.readableRec t && decide (t < Tryz.prog.types.size))=true:=by kernel_rfl
set_option maxRecDepth 100000 in
set_option maxHeartbeats 2000000 in
theorem lifted (os:Os) (started:os.Started) (H:Type) (enc:TypeId × Value → H) :
    ReturnsInHanded {} Tryz.checked os 4 .any (fun w args=>(Rows.topPseudoSpec.pre enc Tryz.prog Tryz.f4 Rows.topPseudoRow.domain false w args ∧ laidMetH Tryz.prog Rows.topPseudoRow.laid w) ∧ sizedMet enc Tryz.prog Tryz.f4 (OpenSpec.ofChange Rows.topPseudoSpec) false w args) (Rows.topPseudoSpec.post enc Tryz.prog Tryz.f4 false true false false):=by
  refine returnsInHanded_of_change_and (C:=Tryz.checked) (X:=fun w _=>laidMetH Tryz.prog Rows.topPseudoRow.laid w) (fun _ _ _ hh h=>h.of_heap hh) own started (by kernel_rfl) Tryz.func4
    (ChangeSpec.witness_at (enc:=enc) (C:=Tryz.checked) (os:=os) (X:=fun w _=>laidMetH Tryz.prog Rows.topPseudoRow.laid w) false (IB os) #[.agg #[.slice none 0 0,.slice none 0 0,.slice none 0 0,.slice none 0 0,.slice none 0 0,.slice none 0 0],.slice none 0 0,.slice none 0 0,.slice none 0 0] 8 (World.laidAll_os _ _ _) (by kernel_rfl) (by kernel_rfl) (by kernel_rfl) (by kernel_rfl) (by kernel_rfl) (aEj os _)) ?_
  intro W base args ds gs before hval0 hW _ hSZ0 hL _
  have hTAB:=aG0 hL
  have hval:∀ (j:Nat) t v,Tryz.f4.params[j]?=some t → args[j]?=some v → Value.okWide Tryz.prog W .any base t v:=hval0
  have hW':=hW
  obtain ⟨p,q,hA0,hV,rfl,hfz,hnd⟩:=hW
  have hA:DataW.TrodAll enc Tryz.prog W 0 (fun _=>true) true Tryz.f4.params.toList args.toList ds p:=hA0
  rw [Tryz.params4] at hA hval
  obtain ⟨v0,vs0,d0,ds0,p0,q0,hargs,rfl,rfl,h0,r0⟩:=trodAll_cons hA
  obtain ⟨v1,vs1,d1,ds1,p1,q1,rfl,rfl,rfl,h1,r1⟩:=trodAll_cons r0
  obtain ⟨v2,vs2,d2,ds2,p2,q2,rfl,rfl,rfl,h2,r2⟩:=trodAll_cons r1
  obtain ⟨v3,vs3,d3,ds3,p3,q3,rfl,rfl,rfl,h3,r3⟩:=trodAll_cons r2
  obtain ⟨rfl,rfl,rfl⟩:=trodAll_nil r3
  obtain rfl:args=#[v0,v1,v2,v3]:=by cases args;simp_all
  obtain ⟨rfl,rfl⟩:=trodVars_none hV
  obtain ⟨hh0,x0,rfl,hR0⟩:=aPt (hval 0 29 v0 rfl rfl) h0
  obtain ⟨A1,n1,c1,zs1,rfl,hnc1,hcm1,hwf1,hr1⟩:=aGZ (okWide_slice Tryz.underlying30 (hval 1 30 v1 rfl rfl)) h1
  obtain ⟨A2,n2,c2,l2,rfl,hnc2,hcm2,hf2,hR2⟩:=aPu (hval 2 31 v2 rfl rfl) h2
  obtain ⟨A3,n3,c3,l3,rfl,hnc3,hcm3,hf3,hR3⟩:=aPu (hval 3 31 v3 rfl rfl) h3
  refine (aLF hh0 x0 A1 n1 c1 zs1 A2 n2 c2 l2 A3 n3 c3 l3 _ hR0 hr1 (by simp only [maxLen] at hcm1;omega) hR2 hR3 hnc2 (by simp only [maxLen] at hcm2;omega) hnc3 (by simp only [maxLen] at hcm3;omega) hTAB).mono fun e W' ⟨he,hb⟩=>?_
  subst he
  exact ⟨_,rfl,aPy (by kernel_rfl) rfl rfl (fun t ht=>by have h:=List.all_eq_true.1 reads4 t ht;rw [Bool.and_eq_true,decide_eq_true_eq] at h;exact h) (by kernel_rfl) Tryz.underlying4 hW' hb⟩
theorem stands:(Tryz.f4.params.toList.all fun t=>!Tryz.prog.wantsStandIn t)=true:=by kernel_rfl
theorem j1:(Rows.topPseudoRow.inPlace == Tryz.prog.inPlace 4)=true:=by kernel_rfl
theorem j2:(Rows.topPseudoRow.unfollowed == Tryz.prog.unfollowed 4)=true:=by kernel_rfl
theorem j3:(Rows.topPseudoRow.recurses == Tryz.prog.recurses 4)=true:=by kernel_rfl
theorem j4:(Rows.topPseudoRow.named == Tryz.prog.varsNamed 4)=true:=by kernel_rfl
theorem closed:joinedFacts Tryz.prog 4 Tryz.f4 Rows.topPseudoSpec Rows.topPseudoRow=true:=by
  unfold joinedFacts
  rw [aTq,aTp,aPz,aPB,j1,j2,j3,j4,show Rows.topPseudoRow.plainKeys=Rows.topEstimatedRow.plainKeys from rfl,aTr,aPC,aPD,show Rows.topPseudoRow.lifted=Rows.topEstimatedRow.lifted from rfl,aPA]
  kernel_rfl
theorem over:Rows.topPseudoRow.holds Tryz.pinned (OpenSpec.ofChange Rows.topPseudoSpec) :=
  OpenClaim.holds_of_wide 4 Tryz.f4 rfl rfl rfl rfl rfl rfl rfl ⟨rfl,rfl,rfl,rfl,rfl⟩ rfl rfl rfl rfl rfl (by kernel_rfl) Tryz.func4 closed
    (of_decide_eq_true (by kernel_rfl)) (by unfold Func.isWrapper;first | (rw [if_pos (by decide +kernel)];kernel_rfl) | (rw [if_neg (by decide +kernel)];exact ⟨rfl,rfl⟩))
    (fun os started H enc _=>lifted os started H enc)
set_option maxRecDepth 100000 in
theorem proved:Rows.TopPseudoCardSaid :=
  Claim7.holds_tied_plain_at .later [] [.data, .data, .data, .sentinel, .sentinel] true (true, "46f6f235a91c592a7d4ba81642b18d9d511421fd6310b4e5d62350f925362646") true
    over (fun _ h=>by cases h) (by kernel_rfl) (fun _ h=>by cases h) topPseudo_row_tie rfl ⟨rfl,rfl⟩ (by kernel_rfl) rfl
    (fun f fn hf hfn=>by
      obtain rfl:f=4:=Option.some.inj ((show Tryz.prog.funcNamed Rows.topPseudoRow.func=some 4 by kernel_rfl).symm.trans hf) |>.symm
      obtain rfl:fn=Tryz.f4:=(Option.some.inj (Tryz.func4.symm.trans hfn)).symm
      exact ⟨by kernel_rfl,fun j t ht=>by
        have h:=List.all_eq_true.1 stands t (by
          have h2:=Array.mem_of_getElem? ht
          exact Array.mem_def.1 h2)
        have h3:Tryz.prog.wantsStandIn t=false:=by simpa using h
        exact h3⟩)
    (by kernel_rfl)
#print axioms proved
end Go.Proofs.YthgdchffeigkbaaGreatDoor.topPseudo
