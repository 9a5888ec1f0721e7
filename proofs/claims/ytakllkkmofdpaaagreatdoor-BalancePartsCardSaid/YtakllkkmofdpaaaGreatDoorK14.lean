/- Parts of the proof, put together into one file. -/
import Derived.Test.YtakllkkmofdpaaaGreatDoorK10
import Derived.Test.YtakllkkmofdpaaaGreatDoorK11
import Derived.Test.YtakllkkmofdpaaaGreatDoorK13
import Derived.Laws.MakeOwn
import Derived.Deep.AppendSrc
import Derived.Deep.Upon
/- The text of a rational number. -/
namespace Go.Proofs.YtakllkkmofdpaaaGreatDoor
open Go.ChangeShapes Go.WideShapes Go.ChangeAt Go.RowKit
set_option linter.unusedVariables false
set_option linter.unusedSimpArgs false
attribute [local go_sem ↓] execOp_call_val
attribute [local go_sem] callVal_func setCell_drewN alloc_drewN sEq_walk

def textQ (q : Rat) : List UInt8 := textL q.num ++ (if q.den = 1 then [] else 47 :: Lib.decDigits q.den)
/-- numerator and denominator have at most 2000 digits -/
def Fits (q : Rat) : Prop := ndg q.num.natAbs ≤ 2000 ∧ ndg q.den ≤ 2000
instance (q : Rat) : Decidable (Fits q) := by unfold Fits; infer_instance
/-- what Text hands back -/
def RtxP (q : Rat) (w : World) (e : Ending) (w' : World) : Prop := Below w.heap.size w w' ∧ ∃ s, e = .returned (.tuple #[.string s, .bool (decide (Fits q))]) ∧ (Fits q → s = ⟨(textQ q).toArray⟩)
theorem textL_nat (n : Nat) : textL (n : Int) = Lib.decDigits n := by unfold textL; rw [if_neg (Int.not_lt.2 (Int.natCast_nonneg n)), Int.natAbs_natCast, List.nil_append]
theorem sz_text {z : Int} (h : ndg z.natAbs ≤ 2000) : (textL z).length ≤ 2001 := by
  unfold textL
  unfold ndg at h
  rw [List.length_append]
  split <;> simp <;> omega
set_option maxRecDepth 100000 in
set_option maxHeartbeats 4000000 in
theorem rtext_any (q : Rat) (b1 : Bool) (A : Option Addr) (n c : Nat) (b2 : Bool) (A2 : Option Addr) (n2 c2 : Nat) (w : World) (h1 : RtIs w w.heap.size q b1 A n c b2 A2 n2 c2) (ht : TabOk w) :
    Calls Tryz.prog 54 #[.agg #[.bool b1, .slice A n c, .bool b2, .slice A2 n2 c2]] w (RtxP q w) := by
  have HB0 : Hid (Below w.heap.size w (w.alloc (.cells #[.bool b1, .slice A n c, .bool b2, .slice A2 n2 c2] 93))) := Lib.hid ((Below.refl _ _).alloc (Nat.le_refl _) _)
  have HX1 := Lib.hid (Blk.new w 93 #[.bool b1, .slice A n c, .bool b2, .slice A2 n2 c2])
  have H1 := Lib.hid (h1.up HB0.out)
  have HT := Lib.hid (ht.up HB0.out)
  clear h1 ht
  go_enter Tryz.func54, Tryz.ntmps54
  go_upto_region 1 with fail
  generalize w.alloc (.cells #[.bool b1, .slice A n c, .bool b2, .slice A2 n2 c2] 93) = W at *
  have p0 := HX1.out.cell 0
  have p1 := HX1.out.cell 1
  have pl := HX1.out.lt
  go_wp2_with fail
  refine (itext_any q.num b1 A n c W H1.out.num HT.out).mono ?_
  rintro e w1 ⟨hb1, s1, rfl, hs1, hz1⟩
  have HB1 := Lib.hid (HB0.out.trans (hb1.mono HB0.out.size))
  have HX2 := Lib.hid (HX1.out.below hb1 HX1.out.lt)
  have H2 := Lib.hid (H1.out.up hb1)
  have HT2 := Lib.hid (HT.out.up hb1)
  have HS1 := Lib.hid hs1
  clear hb1 p0 p1 pl hs1 HB0 HX1 H1 HT
  by_cases hf1 : ndg q.num.natAbs ≤ 2000
  · have hd1 : decide (ndg q.num.natAbs ≤ 2000) = true := decide_eq_true hf1
    have he1 := HS1.out hf1
    subst he1
    rw [hd1]
    have HF1 := Lib.hid hf1
    clear hd1 hf1
    have p2 := HX2.out.cell 2
    have p3 := HX2.out.cell 3
    have pl := HX2.out.lt
    go_wp2_with fail
    refine (itext_any (q.den : Int) b2 A2 n2 c2 w1 H2.out.den HT2.out).mono ?_
    rintro e w2 ⟨hb2, s2, he, hs2, hz2⟩
    rw [Int.natAbs_natCast] at he hs2
    rw [textL_nat] at hs2
    subst he
    have HB2 := Lib.hid (HB1.out.trans (hb2.mono HB1.out.size))
    clear hb2 p2 p3 pl
    by_cases hf2 : ndg q.den ≤ 2000
    · have hd2 : decide (ndg q.den ≤ 2000) = true := decide_eq_true hf2
      have he2 := hs2 hf2
      subst he2
      have hF : Fits q := ⟨HF1.out, hf2⟩
      have hFd : decide (Fits q) = true := decide_eq_true hF
      have HFD := Lib.hid hFd
      have hq : ((⟨(Lib.decDigits q.den).toArray⟩ : ByteArray).toList == [49]) = decide (q.den = 1) := by
        rw [ByteArray.toList_eq, Bool.eq_iff_iff, beq_iff_eq, decide_eq_true_eq]
        exact dec_one
      rw [hd2]
      have hl1 : (⟨(textL q.num).toArray⟩ : ByteArray).size ≤ 2001 := by rw [sz_arr]; exact sz_text HF1.out
      have hl2 : (⟨(Lib.decDigits q.den).toArray⟩ : ByteArray).size ≤ 2000 := by rw [sz_arr]; exact hf2
      obtain ⟨t1, ht1⟩ : ∃ t : ByteArray, ⟨(textL q.num).toArray⟩ = t := ⟨_, rfl⟩
      obtain ⟨t2, ht2⟩ : ∃ t : ByteArray, ⟨(Lib.decDigits q.den).toArray⟩ = t := ⟨_, rfl⟩
      have HT1 := Lib.hid ht1
      have HT2' := Lib.hid ht2
      rw [ht1] at hl1 ⊢
      rw [ht2] at hl2 hq ⊢
      clear hd2 hF hFd hf2 hs2 ht1 ht2
      by_cases hone : q.den = 1
      · have hd : decide (q.den = 1) = true := decide_eq_true hone
        rw [hd] at hq
        have HTX : Hid (t1 = ⟨(textQ q).toArray⟩) := Lib.hid (by unfold textQ; rw [if_pos hone, List.append_nil]; exact HT1.out.symm)
        clear hd hone
        go_wp2_with fail
        go_ret2
        exact ⟨HB2.out, _, by rw [HFD.out]; rfl, fun _ => HTX.out⟩
      · have hd : decide (q.den = 1) = false := decide_eq_false hone
        rw [hd] at hq
        have HTX : Hid (t1 ++ ⟨#[47]⟩ ++ t2 = ⟨(textQ q).toArray⟩) := Lib.hid (by
          unfold textQ
          rw [if_neg hone, ← HT1.out, ← HT2'.out]
          apply ByteArray.ext
          simp)
        have hz1 : ¬ 9223372036854775807 < t1.size + 1 := by omega
        have hz3 : (t1 ++ ⟨#[47]⟩ : ByteArray).size = t1.size + 1 := by rw [ByteArray.size_append]; rfl
        have hz2 : ¬ 9223372036854775807 < t1.size + 1 + t2.size := by omega
        clear hd hone hl1 hl2
        go_wp2_with fail
        go_ret2
        exact ⟨HB2.out, _, by rw [HFD.out]; rfl, fun _ => HTX.out⟩
    · have hd2 : decide (ndg q.den ≤ 2000) = false := decide_eq_false hf2
      have hFd : decide (Fits q) = false := decide_eq_false fun h => hf2 h.2
      have HFD := Lib.hid hFd
      have HNF : Hid (¬ Fits q) := Lib.hid fun h => hf2 h.2
      rw [hd2]
      obtain ⟨t1, ht1⟩ : ∃ t : ByteArray, ⟨(textL q.num).toArray⟩ = t := ⟨_, rfl⟩
      have hl1 : t1.size ≤ 3000 := by rw [← ht1]; exact hz1
      rw [ht1]
      clear hd2 hFd hf2 hs2 ht1 hz1
      have hzz1 : ¬ 9223372036854775807 < t1.size + 1 := by omega
      have hzz3 : (t1 ++ ⟨#[47]⟩ : ByteArray).size = t1.size + 1 := by rw [ByteArray.size_append]; rfl
      have hzz2 : ¬ 9223372036854775807 < t1.size + 1 + s2.size := by omega
      cases hq : (s2.toList == [49]) with
      | true =>
        go_wp2_with fail
        go_ret2
        exact ⟨HB2.out, _, by rw [HFD.out]; rfl, fun h => absurd h HNF.out⟩
      | false =>
        go_wp2_with fail
        go_ret2
        exact ⟨HB2.out, _, by rw [HFD.out]; rfl, fun h => absurd h HNF.out⟩
  · have hd1 : decide (ndg q.num.natAbs ≤ 2000) = false := decide_eq_false hf1
    have hFd : decide (Fits q) = false := decide_eq_false fun h => hf1 h.1
    have HFD := Lib.hid hFd
    have HNF : Hid (¬ Fits q) := Lib.hid fun h => hf1 h.1
    rw [hd1]
    clear hd1 hFd hf1
    go_wp2_with fail
    go_ret2
    exact ⟨HB1.out, _, by rw [HFD.out]; rfl, fun h => absurd h HNF.out⟩
end Go.Proofs.YtakllkkmofdpaaaGreatDoor
/- Valid texts are the texts of rational numbers, plain. -/
namespace Go.Proofs.YtakllkkmofdpaaaGreatDoor
set_option linter.unusedVariables false
set_option linter.unusedSimpArgs false

def negL (l : List UInt8) : Bool := Lib.hasPrefix l [45]
def denL (l : List UInt8) : Nat := if rtI l then dv (rtD l) else 1
/-- the number of a valid text -/
def parseQ (l : List UInt8) : Rat := Rat.divInt (rdZ (negL l) (rtN l)) (denL l : Int)
theorem ratCk_split {l : List UInt8} (h : ratCk l = 0) : ¬ rtP5 l ∧ ¬ rtP2 l ∧ ¬ (rtI l = true ∧ rtP3 l) := by
  unfold ratCk at h
  by_cases h5 : rtP5 l
  · rw [if_pos h5] at h; cases h
  · rw [if_neg h5] at h
    by_cases h2 : rtP2 l
    · rw [if_pos h2] at h; cases h
    · rw [if_neg h2] at h
      by_cases h3 : rtI l = true ∧ rtP3 l
      · rw [if_pos h3] at h; cases h
      · exact ⟨h5, h2, h3⟩
theorem pre_split (l : List UInt8) : l = (if negL l then [45] else []) ++ rtS l := by
  unfold negL rtS Lib.trimPrefix
  cases hp : Lib.hasPrefix l [45] with
  | false => simp
  | true =>
    unfold Lib.hasPrefix at hp
    cases l with
    | nil => cases hp
    | cons c r =>
      have : c = 45 := by
        simp [List.isPrefixOf] at hp
        exact hp.symm
      subst this
      simp
theorem cut_split (l : List UInt8) : l = (cutR 47 l).1 ++ (if (cutR 47 l).2.2 then 47 :: (cutR 47 l).2.1 else []) := by
  cases h : (cutR 47 l).2.2 with
  | true =>
    have := (cutR_eq h).1
    simpa using this
  | false =>
    obtain ⟨_, h2⟩ := cutR_none h
    rw [h2]; simp
theorem rtS_split (l : List UInt8) : rtS l = rtN l ++ (if rtI l then 47 :: rtD l else []) := cut_split (rtS l)
theorem canon_zero {l : List UInt8} (h : Canon l) (h0 : dv l = 0) : l = [48] := by
  have := dec_canon h
  rw [h0, dec_small (by decide)] at this
  exact this.symm
theorem canon_one {l : List UInt8} (h : Canon l) (h0 : dv l = 1) : l = [49] := by
  have := dec_canon h
  rw [h0, dec_small (by decide)] at this
  exact this.symm
theorem rdZ_abs (b : Bool) (l : List UInt8) : (rdZ b l).natAbs = dv l := by unfold rdZ; cases b <;> simp
/-- a valid text: its number -/
theorem valid_parse {l : List UInt8} (h : ratCk l = 0) : (parseQ l).num = rdZ (negL l) (rtN l) ∧ (parseQ l).den = denL l ∧ textQ (parseQ l) = l ∧ Fits (parseQ l) ∧ AllDg (rtN l) ∧ AllDg (rtD l) ∧ (rtN l).length ≤ 2000 ∧ (rtD l).length ≤ 2000 := by
  obtain ⟨h5, h2, h3⟩ := ratCk_split h
  have hn : natCk (rtN l) = 0 := Classical.byContradiction fun e => h2 (.inl e)
  have hb : rtB l = 0 := Classical.byContradiction fun e => h2 (.inr e)
  obtain ⟨hcn, hln⟩ := natCk_ok.1 hn
  have hnz : rtN l = [48] → negL l = false := fun e => by
    cases hg : negL l with
    | false => rfl
    | true =>
      refine absurd (.inr (.inr ⟨e, ?_⟩)) h5
      have := congrArg List.length (pre_split l)
      rw [hg, List.length_append] at this
      simp at this
      omega
  have hneg : rdZ (negL l) (rtN l) < 0 ↔ negL l = true := by
    cases hg : negL l with
    | false => simp [rdZ]
    | true =>
      have : dv (rtN l) ≠ 0 := fun e => by
        have := hnz (canon_zero hcn e)
        rw [hg] at this; cases this
      simp [rdZ]; omega
  have hD : (rtI l = true → Canon (rtD l) ∧ (rtD l).length ≤ 2000 ∧ dv (rtD l) ≠ 0 ∧ dv (rtD l) ≠ 1 ∧ (dv (rtN l)).gcd (dv (rtD l)) = 1) ∧ (rtI l = false → rtD l = []) := by
    refine ⟨fun hi => ?_, fun hi => ?_⟩
    · have hd : natCk (rtD l) = 0 := by unfold rtB at hb; rw [hi] at hb; exact hb
      obtain ⟨hcd, hld⟩ := natCk_ok.1 hd
      have h33 : ¬ rtP3 l := fun g => h3 ⟨hi, g⟩
      exact ⟨hcd, hld, fun e => h33 (.inl (canon_zero hcd e)), fun e => h33 (.inr (.inl (canon_one hcd e))), Classical.byContradiction fun g => h33 (.inr (.inr g))⟩
    · have := (cutR_none (l := rtS l) hi).2
      unfold rtD
      rw [this]
  have hg : (rdZ (negL l) (rtN l)).natAbs.gcd (denL l) = 1 := by
    rw [rdZ_abs]
    unfold denL
    cases hi : rtI l with
    | true => exact (hD.1 hi).2.2.2.2
    | false => exact Nat.gcd_one_right _
  have hd0 : denL l ≠ 0 := by
    unfold denL
    cases hi : rtI l with
    | true => exact (hD.1 hi).2.2.1
    | false => exact Nat.one_ne_zero
  obtain ⟨e1, e2⟩ := ratio_one hd0 hg
  have e1' : (parseQ l).num = rdZ (negL l) (rtN l) := e1
  have e2' : (parseQ l).den = denL l := e2
  have hdd : AllDg (rtD l) ∧ (rtD l).length ≤ 2000 := by
    cases hi : rtI l with
    | true => exact ⟨(hD.1 hi).1.2.1, (hD.1 hi).2.1⟩
    | false => rw [hD.2 hi]; exact ⟨fun c hc => (by cases hc), by simp⟩
  refine ⟨e1', e2', ?_, ⟨?_, ?_⟩, hcn.2.1, hdd.1, hln, hdd.2⟩
  · unfold textQ textL
    rw [e1', e2', rdZ_abs, dec_canon hcn]
    conv => rhs; rw [pre_split l, rtS_split l]
    have hif : (if rdZ (negL l) (rtN l) < 0 then [45] else ([] : List UInt8)) = if negL l = true then [45] else [] := by
      cases hg2 : negL l with
      | true => rw [hg2] at hneg; rw [if_pos (hneg.2 rfl)]; rfl
      | false => rw [hg2] at hneg; rw [if_neg (fun g => by have := hneg.1 g; cases this)]; rfl
    rw [hif, List.append_assoc]
    congr 2
    unfold denL
    cases hi : rtI l with
    | true =>
      obtain ⟨g1, _, _, g4, _⟩ := hD.1 hi
      simp only [if_true]
      rw [if_neg g4, dec_canon g1]
    | false => simp
  · rw [e1', rdZ_abs]; unfold ndg; rw [dec_canon hcn]; exact hln
  · rw [e2']
    unfold denL
    cases hi : rtI l with
    | true => unfold ndg; simp only [if_true]; rw [dec_canon (hD.1 hi).1]; exact (hD.1 hi).2.1
    | false => show ndg 1 ≤ 2000; decide +kernel
/-- the text of a number that has not too many digits is valid, and stands for the number -/
theorem text_parts (q : Rat) : negL (textQ q) = decide (q.num < 0) ∧ rtN (textQ q) = Lib.decDigits q.num.natAbs ∧ rtI (textQ q) = decide (q.den ≠ 1) ∧ rtD (textQ q) = if q.den = 1 then [] else Lib.decDigits q.den := by
  have hS : negL (textQ q) = decide (q.num < 0) ∧ rtS (textQ q) = Lib.decDigits q.num.natAbs ++ (if q.den = 1 then [] else 47 :: Lib.decDigits q.den) := by
    unfold negL rtS textQ textL Lib.trimPrefix
    by_cases h : q.num < 0
    · have hp : Lib.hasPrefix ((if q.num < 0 then [45] else []) ++ Lib.decDigits q.num.natAbs ++ (if q.den = 1 then [] else 47 :: Lib.decDigits q.den)) [45] = true := by rw [if_pos h]; simp [Lib.hasPrefix]
      rw [hp, decide_eq_true h, if_pos h]
      simp
    · have hp : Lib.hasPrefix ((if q.num < 0 then [45] else []) ++ Lib.decDigits q.num.natAbs ++ (if q.den = 1 then [] else 47 :: Lib.decDigits q.den)) [45] = false := by
        rw [if_neg h, List.nil_append]
        cases hl : Lib.decDigits q.num.natAbs with
        | nil => have := dec_len_pos q.num.natAbs; rw [hl] at this; simp at this
        | cons c r =>
          have hc := dec_dg q.num.natAbs c (by rw [hl]; exact List.mem_cons_self ..)
          have : ((45 : UInt8) == c) = false := by
            cases hb : ((45 : UInt8) == c) with
            | false => rfl
            | true => have := eq_of_beq hb; subst this; exact absurd hc.1 (by decide)
          simp [Lib.hasPrefix, List.isPrefixOf, this]
      rw [hp, decide_eq_false h, if_neg h]
      simp
  have hno : (47 : UInt8) ∉ Lib.decDigits q.num.natAbs := fun h => by
    have := (dec_dg _ _ h).1
    exact absurd this (by decide)
  unfold rtN rtI rtD
  rw [hS.2]
  refine ⟨hS.1, ?_⟩
  by_cases h1 : q.den = 1
  · rw [if_pos h1, List.append_nil, cutR_no hno, if_pos h1, decide_eq_false (by simpa using h1)]
    exact ⟨rfl, rfl, rfl⟩
  · rw [if_neg h1, cutR_app hno, if_neg h1, decide_eq_true h1]
    exact ⟨rfl, rfl, rfl⟩
theorem dec_ck {n : Nat} (h : ndg n ≤ 2000) : natCk (Lib.decDigits n) = 0 := natCk_ok.2 ⟨canon_dec n, h⟩
theorem text_valid {q : Rat} (h : Fits q) : ratCk (textQ q) = 0 ∧ parseQ (textQ q) = q := by
  obtain ⟨h1, h2, h3, h4⟩ := text_parts q
  have hn := dec_ck h.1
  have hd := dec_ck h.2
  have hB : rtB (textQ q) = 0 := by
    unfold rtB
    rw [h3, h4]
    by_cases g : q.den = 1
    · rw [decide_eq_false (by simpa using g)]; rfl
    · rw [decide_eq_true g, if_neg g]; exact hd
  have h5 : ¬ rtP5 (textQ q) := by
    unfold rtP5
    rw [h2, hB, hn]
    rintro (g | g | ⟨g1, g2⟩)
    · cases g
    · cases g
    · have : q.num.natAbs = 0 := dec_inj (g1.trans (show [48] = Lib.decDigits 0 by rw [dec_small (by decide)]; rfl))
      have hn0 : ¬ q.num < 0 := by omega
      have h6 := congrArg List.length (pre_split (textQ q))
      rw [h1, decide_eq_false hn0, List.length_append] at h6
      simp at h6
      omega
  have hp2 : ¬ rtP2 (textQ q) := by
    unfold rtP2
    rw [h2, hB, hn]
    simp
  have hp3 : ¬ (rtI (textQ q) = true ∧ rtP3 (textQ q)) := by
    rintro ⟨g, g3⟩
    rw [h3, decide_eq_true_eq] at g
    unfold rtP3 at g3
    rw [h2, h4, if_neg g, dv_dec, dv_dec] at g3
    rcases g3 with g3 | g3 | g3
    · have := dec_inj (g3.trans (show [48] = Lib.decDigits 0 by rw [dec_small (by decide)]; rfl))
      exact q.den_nz this
    · exact g (dec_one.1 g3)
    · exact g3 q.reduced
  refine ⟨by unfold ratCk; rw [if_neg h5, if_neg hp2, if_neg hp3], ?_⟩
  unfold parseQ denL
  rw [h1, h2, h3, h4]
  have e1 : rdZ (decide (q.num < 0)) (Lib.decDigits q.num.natAbs) = q.num := by
    unfold rdZ
    rw [dv_dec]
    by_cases g : q.num < 0
    · rw [decide_eq_true g]; simp only [if_true]; omega
    · rw [decide_eq_false g]; simp only [Bool.false_eq_true, if_false]; omega
  rw [e1]
  by_cases g : q.den = 1
  · rw [decide_eq_false (by simpa using g)]
    have := rat_eta q
    rw [g] at this
    exact this
  · rw [decide_eq_true g, if_neg g, dv_dec]
    exact rat_eta q
theorem text_inj {p q : Rat} (hp : Fits p) (hq : Fits q) (h : textQ p = textQ q) : p = q := by
  rw [← (text_valid hp).2, h, (text_valid hq).2]
end Go.Proofs.YtakllkkmofdpaaaGreatDoor
/- The number of a valid text. -/
namespace Go.Proofs.YtakllkkmofdpaaaGreatDoor
open Go.ChangeShapes Go.WideShapes Go.ChangeAt Go.RowKit
set_option linter.unusedVariables false
set_option linter.unusedSimpArgs false
attribute [local go_sem ↓] execOp_call_val
attribute [local go_sem] callVal_func setCell_drewN alloc_drewN

theorem cutR_pre (b : Bool) (s : List UInt8) : cutR 47 ((if b then [45] else []) ++ s) = ((if b then [45] else []) ++ (cutR 47 s).1, (cutR 47 s).2.1, (cutR 47 s).2.2) := by
  cases b with
  | false => simp
  | true => simp [cutR]
theorem cut_whole (l : List UInt8) : cutR 47 l = ((if negL l then [45] else []) ++ rtN l, rtD l, rtI l) := by
  have := cutR_pre (negL l) (rtS l)
  rwa [← pre_split l] at this
set_option maxRecDepth 100000 in
set_option maxHeartbeats 4000000 in
theorem parse_any (l : List UInt8) (h : ratCk l = 0) (w : World) :
    Calls Tryz.prog 94 #[.string ⟨l.toArray⟩] w (RtP (parseQ l) w) := by
  obtain ⟨v1, v2, _, _, v3, v4, v5, v6⟩ := valid_parse h
  have HV1 := Lib.hid v1
  have HV2 := Lib.hid v2
  have HV3 := Lib.hid v3
  have HV4 := Lib.hid v4
  have HV5 : Hid ((rtN l).length ≤ 1000000) := Lib.hid (by omega)
  have HV6 : Hid ((rtD l).length ≤ 1000000) := Lib.hid (by omega)
  have hll : l.length ≤ 9223372036854775807 := by
    have h1 := congrArg List.length (pre_split l)
    have h2 := congrArg List.length (rtS_split l)
    rw [List.length_append] at h1 h2
    have h3 : (if negL l then [45] else ([] : List UInt8)).length ≤ 1 := by split <;> simp
    have h4 : (if rtI l then 47 :: rtD l else []).length ≤ (rtD l).length + 1 := by split <;> simp
    omega
  have HB0 : Hid (Below w.heap.size w (w.alloc (.cells #[.bool false, .slice none 0 0, .bool false, .slice none 0 0] 93))) := Lib.hid ((Below.refl _ _).alloc (Nat.le_refl _) _)
  have HR : Hid (Blk (w.alloc (.cells #[.bool false, .slice none 0 0, .bool false, .slice none 0 0] 93)) w.heap.size 93 #[.bool false, .slice none 0 0, .bool false, .slice none 0 0]) := Lib.hid (Blk.new w _ _)
  have hgs : w.heap.size ≤ w.heap.size := Nat.le_refl _
  clear v1 v2 v3 v4 v5 v6 h
  go_enter Tryz.func94, Tryz.ntmps94
  go_upto_region 1 with fail
  generalize (w.alloc (.cells #[.bool false, .slice none 0 0, .bool false, .slice none 0 0] 93)) = W at *
  go_wp2_with fail
  refine (cut_any 47 l hll W).mono ?_
  rintro e w1 ⟨he, hb1⟩
  rw [cut_whole l] at he
  have HB1 := Lib.hid (HB0.out.trans (hb1.mono HB0.out.size))
  have HR1 := Lib.hid (HR.out.below hb1 HR.out.lt)
  obtain ⟨is, his⟩ : ∃ i, rtI l = i := ⟨_, rfl⟩
  have HI := Lib.hid his
  simp only [his] at he
  subst he
  clear hb1 HB0 HR his hll
  obtain ⟨tn, htn⟩ : ∃ t : ByteArray, rdT (negL l) (rtN l) = t := ⟨_, rfl⟩
  obtain ⟨td, htd⟩ : ∃ t : ByteArray, rdT false (rtD l) = t := ⟨_, rfl⟩
  have c1 : ∀ w, Calls Tryz.prog 126 #[.string tn] w (LgP (rdZ (negL l) (rtN l)) w) := fun w => by rw [← htn]; exact read_any _ _ HV3.out HV5.out w
  have c2 : ∀ w, Calls Tryz.prog 126 #[.string td] w (LgP (rdZ false (rtD l)) w) := fun w => by rw [← htd]; exact read_any _ _ HV4.out HV6.out w
  have e1 : (⟨((if negL l = true then [45] else []) ++ rtN l).toArray⟩ : ByteArray) = tn := htn
  have e2 : (⟨(rtD l).toArray⟩ : ByteArray) = td := htd
  rw [e1, e2]
  clear e1 e2
  have C1 := Lib.hid c1
  have C2 := Lib.hid c2
  clear htn htd c1 c2
  cases is with
  | false =>
    have HD : Hid ((parseQ l).den = 1) := Lib.hid (by rw [HV2.out]; unfold denL; rw [HI.out]; rfl)
    go_wp2_with fail
    refine (C1.out w1).mono ?_
    rintro e w2 ⟨hb2, f5, C5, i5, j5, rfl, h5⟩
    have HB2 := Lib.hid (HB1.out.trans (hb2.mono HB1.out.size))
    have HR2 := Lib.hid (HR1.out.below hb2 HR1.out.lt)
    have H5 := Lib.hid h5
    clear hb2 h5 HB1 HR1
    go_wp2_with fail
    refine (of_any 1 w2 (by decide) (by decide)).mono ?_
    rintro e w3 ⟨hb3, f6, C6, i6, j6, rfl, h6⟩
    have HB3 := Lib.hid (HB2.out.trans (hb3.mono HB2.out.size))
    have HR3 := Lib.hid (HR2.out.below hb3 HR2.out.lt)
    have HQ : Hid (RtIs w3 w3.heap.size (parseQ l) f5 C5 i5 j5 f6 C6 i6 j6) := Lib.hid ⟨by rw [HV1.out]; exact H5.out.up hb3, by rw [HD.out]; exact h6⟩
    clear hb3 h6 HB2 HR2 H5
    have z0 := HR3.out.cell 0
    have z1 := HR3.out.cell 1
    have z2 := HR3.out.cell 2
    have z3 := HR3.out.cell 3
    have zf := HR3.out.frozen
    have zl := HR3.out.lt
    go_wp2_with fail
    generalize hW9 : (((w3.setCell ⟨_, 0, none⟩ _).setCell ⟨_, 1, none⟩ _).setCell ⟨_, 2, none⟩ _).setCell ⟨_, 3, none⟩ _ = W9
    have HP9 := Lib.hid (rt_put (e := .returned (.agg #[.bool f5, .slice C5 i5 j5, .bool f6, .slice C6 i6 j6])) HB3.out hgs HR3.out (by simp) (by simp) (by simp) (by simp) HQ.out rfl)
    rw [hW9] at HP9
    have HB9 : Hid (Blk W9 _ 93 #[.bool f5, .slice C5 i5 j5, .bool f6, .slice C6 i6 j6]) := Lib.hid (by rw [← hW9]; exact blk_set4 HR3.out)
    clear hW9 z0 z1 z2 z3 zf zl
    have q0 := HB9.out.cell 0
    have q1 := HB9.out.cell 1
    have q2 := HB9.out.cell 2
    have q3 := HB9.out.cell 3
    exact bodyPost_ret (v := .agg #[.bool f5, .slice C5 i5 j5, .bool f6, .slice C6 i6 j6]) (by simp [results, Tryz.results94, go_sem, q0, q1, q2, q3]) rfl HP9.out
  | true =>
    have HD : Hid (((parseQ l).den : Int) = rdZ false (rtD l)) := Lib.hid (by rw [HV2.out]; unfold denL; rw [HI.out]; rfl)
    go_wp2_with fail
    refine (C1.out w1).mono ?_
    rintro e w2 ⟨hb2, f5, C5, i5, j5, rfl, h5⟩
    have HB2 := Lib.hid (HB1.out.trans (hb2.mono HB1.out.size))
    have HR2 := Lib.hid (HR1.out.below hb2 HR1.out.lt)
    have H5 := Lib.hid h5
    clear hb2 h5 HB1 HR1
    go_wp2_with fail
    refine (C2.out w2).mono ?_
    rintro e w3 ⟨hb3, f6, C6, i6, j6, rfl, h6⟩
    have HB3 := Lib.hid (HB2.out.trans (hb3.mono HB2.out.size))
    have HR3 := Lib.hid (HR2.out.below hb3 HR2.out.lt)
    have HQ : Hid (RtIs w3 w3.heap.size (parseQ l) f5 C5 i5 j5 f6 C6 i6 j6) := Lib.hid ⟨by rw [HV1.out]; exact H5.out.up hb3, by rw [HD.out]; exact h6⟩
    clear hb3 h6 HB2 HR2 H5
    have z0 := HR3.out.cell 0
    have z1 := HR3.out.cell 1
    have z2 := HR3.out.cell 2
    have z3 := HR3.out.cell 3
    have zf := HR3.out.frozen
    have zl := HR3.out.lt
    go_wp2_with fail
    generalize hW9 : (((w3.setCell ⟨_, 0, none⟩ _).setCell ⟨_, 1, none⟩ _).setCell ⟨_, 2, none⟩ _).setCell ⟨_, 3, none⟩ _ = W9
    have HP9 := Lib.hid (rt_put (e := .returned (.agg #[.bool f5, .slice C5 i5 j5, .bool f6, .slice C6 i6 j6])) HB3.out hgs HR3.out (by simp) (by simp) (by simp) (by simp) HQ.out rfl)
    rw [hW9] at HP9
    have HB9 : Hid (Blk W9 _ 93 #[.bool f5, .slice C5 i5 j5, .bool f6, .slice C6 i6 j6]) := Lib.hid (by rw [← hW9]; exact blk_set4 HR3.out)
    clear hW9 z0 z1 z2 z3 zf zl
    have q0 := HB9.out.cell 0
    have q1 := HB9.out.cell 1
    have q2 := HB9.out.cell 2
    have q3 := HB9.out.cell 3
    exact bodyPost_ret (v := .agg #[.bool f5, .slice C5 i5 j5, .bool f6, .slice C6 i6 j6]) (by simp [results, Tryz.results94, go_sem, q0, q1, q2, q3]) rfl HP9.out
end Go.Proofs.YtakllkkmofdpaaaGreatDoor
/- Vectors of rational numbers in memory; validity of texts in a list. -/
namespace Go.Proofs.YtakllkkmofdpaaaGreatDoor
open Go.ChangeShapes Go.WideShapes Go.ChangeAt Go.RowKit
set_option linter.unusedVariables false
set_option linter.unusedSimpArgs false
attribute [local go_sem ↓] execOp_call_val
attribute [local go_sem] callVal_func setCell_drewN alloc_drewN sEq_walk

/-- where the parts of a rational number lie -/
structure Rv where
  b1 : Bool
  A : Option Addr
  n : Nat
  c : Nat
  b2 : Bool
  A2 : Option Addr
  m : Nat
  d : Nat
def Rv.cells (v : Rv) : List Value := [.bool v.b1, .slice v.A v.n v.c, .bool v.b2, .slice v.A2 v.m v.d]
def rv0 : Rv := ⟨false, none, 0, 0, false, none, 0, 0⟩
def RtV (w : World) (B : Nat) (q : Rat) (v : Rv) : Prop := RtIs w B q v.b1 v.A v.n v.c v.b2 v.A2 v.m v.d
theorem Rv.len (v : Rv) : v.cells.length = 4 := rfl
def rvs (vs : List Rv) : List Value := vs.flatMap Rv.cells
theorem rvs_len (vs : List Rv) : (rvs vs).length = vs.length * 4 := flat_len Rv.len vs
theorem rvs_at {vs : List Rv} {i : Nat} {v : Rv} (h : vs[i]? = some v) (k : Nat) (hk : k < 4) : (rvs vs)[i * 4 + k]? = v.cells[k]? := flat_at Rv.len vs i v h k hk
theorem rvs_set : ∀ (vs : List Rv) (i : Nat) (v : Rv), i < vs.length → ((((rvs vs).set (i * 4) (.bool v.b1)).set (i * 4 + 1) (.slice v.A v.n v.c)).set (i * 4 + 2) (.bool v.b2)).set (i * 4 + 3) (.slice v.A2 v.m v.d) = rvs (vs.set i v)
  | [], i, v, h => by simp at h
  | x :: r, 0, v, _ => by simp [rvs, Rv.cells]
  | x :: r, i + 1, v, h => by
    have ih := rvs_set r i v (by simpa using h)
    have e : rvs (x :: r) = x.cells ++ rvs r := by simp [rvs]
    have e2 : rvs ((x :: r).set (i + 1) v) = x.cells ++ rvs (r.set i v) := by simp [rvs]
    have st : ∀ (l : List Value) (k : Nat) (u : Value), (x.cells ++ l).set (k + 4) u = x.cells ++ l.set k u := fun l k u => by
      rw [List.set_append_right _ _ (by rw [Rv.len]; omega), Rv.len, Nat.add_sub_cancel]
    rw [e, e2, ← ih, show (i + 1) * 4 = i * 4 + 4 from by omega, show i * 4 + 4 + 1 = i * 4 + 1 + 4 from by omega, show i * 4 + 4 + 2 = i * 4 + 2 + 4 from by omega, show i * 4 + 4 + 3 = i * 4 + 3 + 4 from by omega, st, st, st, st]
theorem rvs_rep : ∀ n : Nat, rvs (List.replicate n rv0) = (List.replicate n rv0.cells).flatten
  | 0 => rfl
  | n + 1 => by
    rw [List.replicate_succ, List.replicate_succ, List.flatten_cons, ← rvs_rep n]
    simp [rvs]
/-- a store of a rational number into a row -/
theorem blk_rv {w : World} {g t i : Nat} {vs : List Rv} (h : Blk w g t (rvs vs).toArray) (hi : i < vs.length) (v : Rv) : Blk ((((w.setCell ⟨g, i * 4, none⟩ (.bool v.b1)).setCell ⟨g, i * 4 + 1, none⟩ (.slice v.A v.n v.c)).setCell ⟨g, i * 4 + 2, none⟩ (.bool v.b2)).setCell ⟨g, i * 4 + 3, none⟩ (.slice v.A2 v.m v.d)) g t (rvs (vs.set i v)).toArray := by
  have key : ∀ (w : World) (l : List Value) (k : Nat) (u : Value), Blk w g t l.toArray → Blk (w.setCell ⟨g, k, none⟩ u) g t (l.set k u).toArray := fun w l k u hb => hb.set_at u (by simp)
  rw [← rvs_set vs i v hi]
  exact key _ _ _ _ (key _ _ _ _ (key _ _ _ _ (key _ _ _ _ h)))
theorem rv_cell {w : World} {g t i : Nat} {vs : List Rv} {v : Rv} (h : Blk w g t (rvs vs).toArray) (hv : vs[i]? = some v) : w.cell? ⟨g, i * 4, none⟩ = some (.bool v.b1) ∧ w.cell? ⟨g, i * 4 + 1, none⟩ = some (.slice v.A v.n v.c) ∧ w.cell? ⟨g, i * 4 + 2, none⟩ = some (.bool v.b2) ∧ w.cell? ⟨g, i * 4 + 3, none⟩ = some (.slice v.A2 v.m v.d) := by
  have k := fun j hj => rvs_at hv j hj
  refine ⟨?_, ?_, ?_, ?_⟩ <;> rw [h.cell]
  · have := k 0 (by decide); simpa [Rv.cells] using this
  · have := k 1 (by decide); simpa [Rv.cells] using this
  · have := k 2 (by decide); simpa [Rv.cells] using this
  · have := k 3 (by decide); simpa [Rv.cells] using this
/-- such a store leaves other rational numbers as they are -/
theorem RtIs.keep4 {w : World} {q : Rat} {b1 : Bool} {A : Option Addr} {n c : Nat} {b2 : Bool} {A2 : Option Addr} {m d : Nat} (h : RtIs w w.heap.size q b1 A n c b2 A2 m d) {g t i : Nat} {vs : List Rv} {x v : Rv} (hb : Blk w g t (rvs vs).toArray) (hx : vs[i]? = some x) :
    RtIs ((((w.setCell ⟨g, i * 4, none⟩ (.bool v.b1)).setCell ⟨g, i * 4 + 1, none⟩ (.slice v.A v.n v.c)).setCell ⟨g, i * 4 + 2, none⟩ (.bool v.b2)).setCell ⟨g, i * 4 + 3, none⟩ (.slice v.A2 v.m v.d)) ((((w.setCell ⟨g, i * 4, none⟩ (.bool v.b1)).setCell ⟨g, i * 4 + 1, none⟩ (.slice v.A v.n v.c)).setCell ⟨g, i * 4 + 2, none⟩ (.bool v.b2)).setCell ⟨g, i * 4 + 3, none⟩ (.slice v.A2 v.m v.d)).heap.size q b1 A n c b2 A2 m d := by
  obtain ⟨c0, c1, c2, c3⟩ := rv_cell hb hx
  have ne : ∀ (a b : Nat), a ≠ b → (⟨g, a, none⟩ : Addr) ≠ ⟨g, b, none⟩ := fun a b h e => h (by injection e)
  have off : ∀ (w : World) (a b : Nat) (u v : Value), a ≠ b → w.cell? ⟨g, b, none⟩ = some v → (w.setCell ⟨g, a, none⟩ u).cell? ⟨g, b, none⟩ = some v := fun w a b u v hab hv => by
    rw [World.cell?_setCell_other _ _ _ _ (ne a b hab)]; exact hv
  refine (((h.keep c0 (by simp) _).keep (off _ _ _ _ _ (by omega) c1) (by simp) _).keep (off _ _ _ _ _ (by omega) (off _ _ _ _ _ (by omega) c2)) (by simp) _).keep (off _ _ _ _ _ (by omega) (off _ _ _ _ _ (by omega) (off _ _ _ _ _ (by omega) c3))) (by simp) _
/-- a slice of rational numbers -/
def RdQ (w : World) (B : Nat) (A : Option Addr) (n : Nat) (qs : List Rat) : Prop := ∃ vs : List Rv, vs.length = n ∧ qs.length = n ∧ Rd w B 4 A n (rvs vs) ∧ ∀ (i : Nat) (q : Rat) (v : Rv), qs[i]? = some q → vs[i]? = some v → RtV w B q v
section
variable {w w' : World} {B B' n : Nat} {A : Option Addr} {qs : List Rat}
theorem RdQ.below (h : RdQ w B A n qs) (hb : Below B' w w') (hB : B ≤ B') : RdQ w' B A n qs := by
  obtain ⟨vs, h1, h2, h3, h4⟩ := h
  exact ⟨vs, h1, h2, h3.below hb hB, fun i q v hq hv => RtIs.below (h4 i q v hq hv) hb hB⟩
theorem RdQ.more (h : RdQ w B A n qs) (hB : B ≤ B') : RdQ w B' A n qs := by
  obtain ⟨vs, h1, h2, h3, h4⟩ := h
  exact ⟨vs, h1, h2, h3.more hB, fun i q v hq hv => RtIs.more (h4 i q v hq hv) hB⟩
theorem RdQ.up (h : RdQ w w.heap.size A n qs) (hb : Below w.heap.size w w') : RdQ w' w'.heap.size A n qs := (h.below hb (Nat.le_refl _)).more hb.size
theorem RdQ.len (h : RdQ w B A n qs) : qs.length = n := by obtain ⟨_, _, h, _⟩ := h; exact h
theorem RdQ.form (h : RdQ w B A n qs) (h0 : 0 < n) : ∃ b off, A = some ⟨b, off, none⟩ ∧ b < B := by
  obtain ⟨vs, _, _, h3, _⟩ := h
  obtain ⟨b, off, e, hlt, _⟩ := h3.2 h0
  exact ⟨b, off, e, hlt⟩
theorem RdQ.at_ {b off i : Nat} {q : Rat} (h : RdQ w B (some ⟨b, off, none⟩) n qs) (hq : qs[i]? = some q) : ∃ v : Rv, w.cell? ⟨b, off + i * 4, none⟩ = some (.bool v.b1) ∧ w.cell? ⟨b, off + i * 4 + 1, none⟩ = some (.slice v.A v.n v.c) ∧ w.cell? ⟨b, off + i * 4 + 2, none⟩ = some (.bool v.b2) ∧ w.cell? ⟨b, off + i * 4 + 3, none⟩ = some (.slice v.A2 v.m v.d) ∧ RtV w B q v := by
  obtain ⟨vs, h1, h2, h3, h4⟩ := h
  have hi := (List.getElem?_eq_some_iff.1 hq).1
  obtain ⟨v, hv⟩ : ∃ v, vs[i]? = some v := ⟨_, List.getElem?_eq_getElem (by omega)⟩
  obtain ⟨b', off', e, _, hc⟩ := h3.2 (by omega)
  injection e with e
  injection e with e1 e2
  subst e1; subst e2
  have k := fun j hj => rvs_at hv j hj
  refine ⟨v, ?_, ?_, ?_, ?_, h4 i q v hq hv⟩
  · have := hc (i * 4) (.bool v.b1) (by have := k 0 (by decide); simpa [Rv.cells] using this); exact this
  · have := hc (i * 4 + 1) (.slice v.A v.n v.c) (by have := k 1 (by decide); simpa [Rv.cells] using this); exact this
  · have := hc (i * 4 + 2) (.bool v.b2) (by have := k 2 (by decide); simpa [Rv.cells] using this); exact this
  · have := hc (i * 4 + 3) (.slice v.A2 v.m v.d) (by have := k 3 (by decide); simpa [Rv.cells] using this); exact this
theorem rdQ_nil (w : World) (B : Nat) (A : Option Addr) : RdQ w B A 0 [] := ⟨[], rfl, rfl, ⟨rfl, fun h => by omega⟩, fun i q v h => by simp at h⟩
theorem rdQ_blk {g t : Nat} {vs : List Rv} (h : Blk w g t (rvs vs).toArray) (hn : vs.length = n) (hq : qs.length = n) (hv : ∀ (i : Nat) (q : Rat) (v : Rv), qs[i]? = some q → vs[i]? = some v → RtV w w.heap.size q v) : RdQ w w.heap.size (some ⟨g, 0, none⟩) n qs :=
  ⟨vs, hn, hq, ⟨by rw [rvs_len, hn], fun _ => ⟨g, 0, rfl, h.lt, fun j u hu => by
    rw [show (⟨g, 0 + j, none⟩ : Addr) = ⟨g, j, none⟩ from by simp, h.cell j]
    simpa using hu⟩⟩, hv⟩
end
theorem info_rat : (Tryz.prog.info? 93).map (fun i => (i.zero, i.size, i.bytes)) = some (some (.agg #[.bool false, .slice none 0 0, .bool false, .slice none 0 0]), 4, 64) := by kernel_rfl
theorem made4 (n : Nat) : madeCells #[Value.bool false, .slice none 0 0, .bool false, .slice none 0 0] (n * 4) = (rvs (List.replicate n rv0)).toArray := by
  apply Array.ext'
  rw [List.toList_toArray, rvs_rep]
  apply List.ext_getElem?
  intro j
  by_cases hj : j < n * 4
  · have h1 : (madeCells #[Value.bool false, .slice none 0 0, .bool false, .slice none 0 0] (n * 4)).toList[j]? = some (#[Value.bool false, .slice none 0 0, .bool false, .slice none 0 0][j % 4]!) := by
      simp [madeCells, hj]
    have h2 : (rvs (List.replicate n rv0))[j / 4 * 4 + j % 4]? = rv0.cells[j % 4]? := rvs_at (by rw [List.getElem?_replicate, if_pos (by omega)]) _ (by omega)
    rw [Nat.div_add_mod' j 4, rvs_rep] at h2
    rw [h1, h2]
    have : j % 4 = 0 ∨ j % 4 = 1 ∨ j % 4 = 2 ∨ j % 4 = 3 := by omega
    rcases this with e | e | e | e <;> rw [e] <;> rfl
  · rw [List.getElem?_eq_none (by simp [madeCells]; omega), List.getElem?_eq_none (by rw [← rvs_rep, rvs_len, List.length_replicate]; omega)]
theorem make_rat (n : Nat) (hn : n ≤ 1000000) (w : World) : (Instr.makeSlice 103 (.int .i64 (n : Int)) (.int .i64 (n : Int))).run Tryz.prog w = .ok (.slice (some ⟨w.heap.size, 0, none⟩) n n) (w.alloc (.cells (rvs (List.replicate n rv0)).toArray 93)) := by
  obtain ⟨i0, hi0, hz0, hz1, hz2⟩ := info_parts info_rat
  rw [run_make w 103 93 i0 _ Tryz.underlying103 hi0 hz0 .i64 .i64 (n : Int) (n : Int) (by omega) (Int.le_refl _) (by rw [hz2]; omega) (by omega), Int.toNat_natCast, hz1]
  rw [show (Value.agg #[Value.bool false, .slice none 0 0, .bool false, .slice none 0 0]).cells = #[Value.bool false, .slice none 0 0, .bool false, .slice none 0 0] from rfl, made4]
/-- the first fault of texts -/
def ckAllR : List ByteArray → Int
  | [] => 0
  | s :: r => if ratCk s.data.toList = 0 then ckAllR r else ratCk s.data.toList
theorem ckAllR_ok : ∀ {l : List ByteArray}, ckAllR l = 0 ↔ ∀ s ∈ l, ratCk s.data.toList = 0
  | [] => by simp [ckAllR]
  | s :: r => by
    unfold ckAllR
    by_cases h : ratCk s.data.toList = 0
    · rw [if_pos h, ckAllR_ok]
      simp [h]
    · rw [if_neg h]
      simp [h]
theorem ckAllR_drop {l : List ByteArray} {k : Nat} {s : ByteArray} (h : l[k]? = some s) : ckAllR (l.drop k) = if ratCk s.data.toList = 0 then ckAllR (l.drop (k + 1)) else ratCk s.data.toList := by
  rw [drop_cons h]; rfl
set_option maxRecDepth 100000 in
set_option maxHeartbeats 4000000 in
theorem ckall_any (A : Option Addr) (n c : Nat) (ss : List ByteArray) (w : World) (hR : RdStr w w.heap.size A n ss) (hs : ∀ s ∈ ss, s.size ≤ maxLen) (hn : n ≤ 9223372036854775807) (ht : TabOk w) :
    Calls Tryz.prog 58 #[.slice A n c] w fun e w' => e = .returned (.int .i64 (ckAllR ss)) ∧ Below w.heap.size w w' := by
  have HR := Lib.hid hR
  have HS := Lib.hid hs
  have HT := Lib.hid ht
  have HL := Lib.hid hR.1
  clear hR hs ht
  go_enter Tryz.func58, Tryz.ntmps58
  go_wp2_with fail
  go_loopw [4, 5, 8] (fun _ _ i wr => ∃ k : Nat, k ≤ n ∧ i = .int .i64 k ∧ ckAllR ss = ckAllR (ss.drop k) ∧ Below w.heap.size w wr) (fun _ _ i _ => n - (intOf i).toNat)
  case atStart => exact ⟨0, by omega, rfl, rfl, Below.refl _ _⟩
  case round =>
    obtain ⟨k, hk, rfl, hgo, hb⟩ := hrel
    have HG := Lib.hid hgo
    have HB := Lib.hid hb
    clear hgo hb
    by_cases hlt : k < n
    · obtain ⟨s, hs⟩ : ∃ s, ss[k]? = some s := ⟨_, List.getElem?_eq_getElem (by have := HL.out; omega)⟩
      obtain ⟨b, o, hA, hb⟩ := (HR.out.below HB.out (Nat.le_refl _)).form (by omega)
      subst hA
      have hc := (HR.out.below HB.out (Nat.le_refl _)).at_ hs
      have HD := Lib.hid (ckAllR_drop hs)
      have HSZ := Lib.hid (HS.out s (List.mem_of_getElem? hs))
      have hkI : (k : Int) < (n : Int) := by omega
      have HN1 : Hid ((k : Int) + 1 = ((k + 1 : Nat) : Int)) := Lib.hid (by omega)
      have HN2 : Hid (n - (k + 1) < n - k) := Lib.hid (by omega)
      have HSE : (⟨s.data.toList.toArray⟩ : ByteArray) = s := by cases s; simp
      have HC1 := ratck_any s.data.toList (by have := HSZ.out; rw [Lib.size_eq] at this; exact this) wr (HT.out.up HB.out)
      rw [HSE] at HC1
      replace HC1 := Lib.hid HC1
      clear HSE
      clear hs
      go_wp2_with fail
      refine HC1.out.mono ?_
      clear hc HC1
      rintro e w1 ⟨rfl, hb1⟩
      have HB1 := Lib.hid (HB.out.trans (hb1.mono HB.out.size))
      clear hb1 HB
      obtain ⟨r, hr⟩ : ∃ r, ratCk s.data.toList = r := ⟨_, rfl⟩
      rw [hr] at HD ⊢
      clear hr
      by_cases h0 : r = 0
      · subst h0
        have HE : Hid (ckAllR ss = ckAllR (ss.drop (k + 1))) := Lib.hid (by rw [HG.out, HD.out, if_pos rfl])
        go_wp2_with fail
        go_roundw
        case rel => exact ⟨k + 1, hlt, val_int HN1.out, HE.out, HB1.out⟩
        case measure => exact HN2.out
      · have HE : Hid (ckAllR ss = r) := Lib.hid (by rw [HG.out, HD.out, if_neg h0])
        have h0b : (r != 0) = true := by simp [h0]
        clear h0
        go_wp2_with fail
        go_ret
        exact ⟨ret_int HE.out.symm, HB1.out⟩
    · have HE : Hid (ckAllR ss = 0) := Lib.hid (by rw [HG.out, List.drop_eq_nil_of_le (by have := HL.out; omega)]; rfl)
      have hkI : ¬ (k : Int) < (n : Int) := by omega
      go_wp2_with fail
      go_ret
      exact ⟨ret_int HE.out.symm, HB.out⟩
end Go.Proofs.YtakllkkmofdpaaaGreatDoor
/- Vectors of rational numbers: read from texts, and their texts. -/
namespace Go.Proofs.YtakllkkmofdpaaaGreatDoor
open Go.ChangeShapes Go.WideShapes Go.ChangeAt Go.RowKit
set_option linter.unusedVariables false
set_option linter.unusedSimpArgs false
attribute [local go_sem ↓] execOp_call_val
attribute [local go_sem] callVal_func setCell_drewN alloc_drewN sEq_walk

/-- the numbers of which the parts lie at vs -/
def RvOk (w : World) (vs : List Rv) (qs : List Rat) : Prop := ∀ (i : Nat) (q : Rat) (v : Rv), qs[i]? = some q → vs[i]? = some v → RtV w w.heap.size q v
theorem RvOk.up {w w' : World} {vs : List Rv} {qs : List Rat} (h : RvOk w vs qs) (hb : Below w.heap.size w w') : RvOk w' vs qs := fun i q v hq hv => RtIs.up (h i q v hq hv) hb
/-- the world after a store of a rational number -/
def putV (w : World) (g i : Nat) (v : Rv) : World := (((w.setCell ⟨g, i * 4, none⟩ (.bool v.b1)).setCell ⟨g, i * 4 + 1, none⟩ (.slice v.A v.n v.c)).setCell ⟨g, i * 4 + 2, none⟩ (.bool v.b2)).setCell ⟨g, i * 4 + 3, none⟩ (.slice v.A2 v.m v.d)
theorem RvOk.put {w : World} {g t i : Nat} {vs us : List Rv} {qs qs' : List Rat} {q : Rat} {v x : Rv} (h : RvOk w us qs) (hb : Blk w g t (rvs vs).toArray) (hx : vs[i]? = some x) (hv : RtV w w.heap.size q v) (hq : ∀ (j : Nat) (q' : Rat), qs'[j]? = some q' → (j = i ∧ q' = q) ∨ (j ≠ i ∧ qs[j]? = some q')) : RvOk (putV w g i v) (us.set i v) qs' := by
  intro j q' v' hq' hv'
  rcases hq j q' hq' with ⟨rfl, rfl⟩ | ⟨hne, hq0⟩
  · rw [List.getElem?_set_self'] at hv'
    obtain ⟨_, _, e⟩ := Option.map_eq_some_iff.1 hv'
    subst e
    exact RtIs.keep4 hv hb hx
  · rw [List.getElem?_set_ne (by omega)] at hv'
    exact RtIs.keep4 (h j q' v' hq0 hv') hb hx
theorem RvOk.stay {w : World} {g t i : Nat} {vs us : List Rv} {qs : List Rat} {v x : Rv} (h : RvOk w us qs) (hb : Blk w g t (rvs vs).toArray) (hx : vs[i]? = some x) : RvOk (putV w g i v) us qs := fun j q' v' hq' hv' => RtIs.keep4 (h j q' v' hq' hv') hb hx
theorem below_putV {a w : World} {B g i : Nat} {v : Rv} (h : Below B a w) (hg : B ≤ g) : Below B a (putV w g i v) := (((h.setCell hg _).setCell hg _).setCell hg _).setCell hg _
theorem snoc_at {qs : List Rat} {k : Nat} {q : Rat} (hk : qs.length = k) : ∀ (j : Nat) (q' : Rat), (qs ++ [q])[j]? = some q' → (j = k ∧ q' = q) ∨ (j ≠ k ∧ qs[j]? = some q') := by
  intro j q' h
  by_cases hj : j < k
  · right
    rw [List.getElem?_append_left (by omega)] at h
    exact ⟨by omega, h⟩
  · left
    rw [List.getElem?_append_right (by omega)] at h
    have h1 := (List.getElem?_eq_some_iff.1 h).1
    simp at h1
    have : j = k := by omega
    subst this
    rw [hk] at h
    simp at h
    exact ⟨rfl, h.symm⟩
def qOf (s : ByteArray) : Rat := parseQ s.data.toList
/-- a vector of rational numbers that a function has made -/
def OutQ (qs : List Rat) (w : World) (e : Ending) (w' : World) : Prop := Below w.heap.size w w' ∧ ∃ A n c, e = .returned (.slice A n c) ∧ RdQ w' w'.heap.size A n qs ∧ n ≤ c ∧ c ≤ maxLen ∧ (0 < n → ∃ b off, A = some ⟨b, off, none⟩ ∧ w.heap.size ≤ b)
theorem take_snoc {α : Type} {l : List α} {k : Nat} {x : α} (h : l[k]? = some x) : l.take (k + 1) = l.take k ++ [x] := by
  rw [List.take_add_one, h]; rfl
set_option maxRecDepth 100000 in
set_option maxHeartbeats 4000000 in
theorem parseall_any (A : Option Addr) (n c : Nat) (ss : List ByteArray) (w : World) (hR : RdStr w w.heap.size A n ss) (hs : ∀ s ∈ ss, ratCk s.data.toList = 0) (hn : n ≤ 1000000) :
    Calls Tryz.prog 62 #[.slice A n c] w (OutQ (ss.map qOf) w) := by
  have HR := Lib.hid hR
  have HS := Lib.hid hs
  have HL := Lib.hid hR.1
  have HNN := Lib.hid hn
  clear hR hs
  have hmk : ∀ w : World, (Instr.makeSlice 103 (.int .i64 (n : Int)) (.int .i64 (n : Int))).run Tryz.prog w = .ok (.slice (some ⟨w.heap.size, 0, none⟩) n n) (w.alloc (.cells (rvs (List.replicate n rv0)).toArray 93)) := fun w => make_rat n hn w
  have HK := Lib.hid ((Below.refl w.heap.size w).alloc (Nat.le_refl _) (.cells (rvs (List.replicate n rv0)).toArray 93))
  have HG := Lib.hid (Blk.new w 93 (rvs (List.replicate n rv0)).toArray)
  go_enter Tryz.func62, Tryz.ntmps62
  go_wp2_with fail
  clear hmk
  generalize w.alloc (.cells (rvs (List.replicate n rv0)).toArray 93) = W at *
  generalize hg : w.heap.size = g at *
  have HGS := Lib.hid hg
  clear hg
  go_loopw [11] (fun v11 wr => ∃ (k : Nat) (vs : List Rv), k ≤ n ∧ v11 = .int .i64 k ∧ vs.length = n ∧ Below g w wr ∧ Blk wr g 93 (rvs vs).toArray ∧ RvOk wr vs ((ss.map qOf).take k)) (fun v11 _ => n - (intOf v11).toNat)
  case atStart => exact ⟨0, _, by omega, rfl, List.length_replicate, HK.out, HG.out, fun i q v h => by simp at h⟩
  case round =>
    clear HK HG
    obtain ⟨k, vs, hk, rfl, hvl, hb, hg, hI⟩ := hrel
    have HK := Lib.hid hb
    have HG := Lib.hid hg
    have HI := Lib.hid hI
    have HVL := Lib.hid hvl
    clear hb hg hI hvl
    by_cases hlt : k < n
    · obtain ⟨s, hs⟩ : ∃ s, ss[k]? = some s := ⟨_, List.getElem?_eq_getElem (by have := HL.out; omega)⟩
      obtain ⟨b, o, hA, hb⟩ := (HR.out.below HK.out (by have := HGS.out; omega)).form (by omega)
      subst hA
      have hc := (HR.out.below HK.out (by have := HGS.out; omega)).at_ hs
      have hkI : (k : Int) < (n : Int) := by omega
      have HN1 : Hid ((k : Int) + 1 = ((k + 1 : Nat) : Int)) := Lib.hid (by omega)
      have HN2 : Hid (n - (k + 1) < n - k) := Lib.hid (by omega)
      have HSE : (⟨s.data.toList.toArray⟩ : ByteArray) = s := by cases s; simp
      have HC1 := fun w => parse_any s.data.toList (HS.out s (List.mem_of_getElem? hs)) w
      rw [HSE] at HC1
      replace HC1 := Lib.hid HC1
      have HQ : Hid ((ss.map qOf).take (k + 1) = (ss.map qOf).take k ++ [parseQ s.data.toList]) := Lib.hid (take_snoc (by rw [List.getElem?_map, hs]; rfl))
      clear HSE hs
      have hbl : b < wr.heap.size := by have := HK.out.size; have := HGS.out; omega
      go_wp2_with fail
      refine (HC1.out wr).mono ?_
      clear hc HC1
      rintro e w1 ⟨hb1, f, C, i, j, f2, C2, i2, j2, rfl, h1⟩
      have HK1 := Lib.hid (HK.out.trans (hb1.mono (Nat.le_of_lt HG.out.lt)))
      have HG1 := Lib.hid (HG.out.below hb1 HG.out.lt)
      have HI1 := Lib.hid (HI.out.up hb1)
      have HV := Lib.hid h1
      clear hb1 h1 HK HG HI
      obtain ⟨x, hx⟩ : ∃ x, vs[k]? = some x := ⟨_, List.getElem?_eq_getElem (by have := HVL.out; omega)⟩
      obtain ⟨c0, c1, c2, c3⟩ := rv_cell HG1.out hx
      have hgf := HG1.out.frozen
      have hgl := HG1.out.lt
      have HX := Lib.hid hx
      clear hx
      go_wp2_with fail
      go_roundw
      case rel => exact ⟨k + 1, vs.set k ⟨f, C, i, j, f2, C2, i2, j2⟩, hlt, val_int HN1.out, by rw [List.length_set]; exact HVL.out, below_putV (v := ⟨f, C, i, j, f2, C2, i2, j2⟩) HK1.out (Nat.le_refl _), blk_rv HG1.out (List.getElem?_eq_some_iff.1 HX.out).1 ⟨f, C, i, j, f2, C2, i2, j2⟩, by
        rw [HQ.out]
        exact RvOk.put (v := ⟨f, C, i, j, f2, C2, i2, j2⟩) HI1.out HG1.out HX.out HV.out (snoc_at (by rw [List.length_take, List.length_map, HL.out]; omega))⟩
      case measure => exact HN2.out
    · have hke : k = n := by omega
      subst hke
      have hkI : ¬ (k : Int) < (k : Int) := by omega
      go_wp2_with fail
      go_ret
      exact ⟨by rw [HGS.out]; exact HK.out, _, _, _, rfl, by
        have h := HI.out
        rw [List.take_of_length_le (by rw [List.length_map, HL.out]; exact Nat.le_refl _)] at h
        exact rdQ_blk HG.out HVL.out (by rw [List.length_map, HL.out]) h, Nat.le_refl _, by have := HNN.out; unfold maxLen; omega, fun _ => ⟨_, _, rfl, by rw [HGS.out]; exact Nat.le_refl _⟩⟩
theorem info_ratt : (Tryz.prog.info? 37).map (fun i => (i.zero, i.size, i.bytes)) = some (some (.string ⟨#[]⟩), 1, 16) := by kernel_rfl
theorem str_made (n : Nat) : madeCells #[Value.string ⟨#[]⟩] n = (strsV (List.replicate n ⟨#[]⟩)).toArray := by
  apply Array.ext'
  rw [toList_madeCells_one]
  unfold strsV; simp
theorem make_ratt (n : Nat) (hn : n ≤ 1000000) (w : World) : (Instr.makeSlice 22 (.int .i64 (n : Int)) (.int .i64 (n : Int))).run Tryz.prog w = .ok (.slice (some ⟨w.heap.size, 0, none⟩) n n) (w.alloc (.cells (strsV (List.replicate n ⟨#[]⟩)).toArray 37)) := by
  rw [run_make_row' (P := Tryz.prog) 22 37 (.string ⟨#[]⟩) 16 Tryz.underlying22 info_ratt rfl .i64 .i64 n (by omega) (by omega) w, str_made]
/-- texts of numbers -/
def txtQ (q : Rat) : ByteArray := ⟨(textQ q).toArray⟩
/-- what Texts hands back -/
def TxtsP (qs : List Rat) (w : World) (e : Ending) (w' : World) : Prop := Below w.heap.size w w' ∧ ((∀ q ∈ qs, Fits q) → ∃ A n c, e = .returned (.tuple #[.slice A n c, .bool true]) ∧ RdStr w' w'.heap.size A n (qs.map txtQ) ∧ n ≤ c ∧ c ≤ maxLen) ∧ (¬ (∀ q ∈ qs, Fits q) → e = .returned (.tuple #[.slice none 0 0, .bool false]))
set_option maxRecDepth 100000 in
set_option maxHeartbeats 4000000 in
theorem texts_any (A : Option Addr) (n c : Nat) (qs : List Rat) (w : World) (hR : RdQ w w.heap.size A n qs) (hn : n ≤ 1000000) (ht : TabOk w) :
    Calls Tryz.prog 95 #[.slice A n c] w (TxtsP qs w) := by
  have HR := Lib.hid hR
  have HL := Lib.hid hR.len
  have HNN := Lib.hid hn
  have HT := Lib.hid ht
  clear hR ht
  have hmk : ∀ w : World, (Instr.makeSlice 22 (.int .i64 (n : Int)) (.int .i64 (n : Int))).run Tryz.prog w = .ok (.slice (some ⟨w.heap.size, 0, none⟩) n n) (w.alloc (.cells (strsV (List.replicate n ⟨#[]⟩)).toArray 37)) := fun w => make_ratt n hn w
  have HK := Lib.hid ((Below.refl w.heap.size w).alloc (Nat.le_refl _) (.cells (strsV (List.replicate n ⟨#[]⟩)).toArray 37))
  have HG := Lib.hid (Blk.new w 37 (strsV (List.replicate n ⟨#[]⟩)).toArray)
  go_enter Tryz.func95, Tryz.ntmps95
  go_wp2_with fail
  clear hmk
  generalize w.alloc (.cells (strsV (List.replicate n ⟨#[]⟩)).toArray 37) = W at *
  generalize hg : w.heap.size = g at *
  have HGS := Lib.hid hg
  clear hg
  go_loopw [14] (fun v14 wr => ∃ (k : Nat) (ts : List ByteArray), k ≤ n ∧ v14 = .int .i64 k ∧ ts.length = n ∧ Below g w wr ∧ Blk wr g 37 (strsV ts).toArray ∧ (∀ (i : Nat) (q : Rat), i < k → qs[i]? = some q → Fits q ∧ ts[i]? = some (txtQ q))) (fun v14 _ => n - (intOf v14).toNat)
  case atStart => exact ⟨0, _, by omega, rfl, List.length_replicate, HK.out, HG.out, fun i q h => by omega⟩
  case round =>
    clear HK HG
    obtain ⟨k, ts, hk, rfl, hvl, hb, hg, hI⟩ := hrel
    have HK := Lib.hid hb
    have HG := Lib.hid hg
    have HI := Lib.hid hI
    have HVL := Lib.hid hvl
    clear hb hg hI hvl
    by_cases hlt : k < n
    · obtain ⟨q, hq⟩ : ∃ q, qs[k]? = some q := ⟨_, List.getElem?_eq_getElem (by have := HL.out; omega)⟩
      obtain ⟨b, o, hA, hb⟩ := (HR.out.below HK.out (by have := HGS.out; omega)).form (by omega)
      subst hA
      obtain ⟨v, c0, c1, c2, c3, hV⟩ := (HR.out.below HK.out (by have := HGS.out; omega)).at_ hq
      have HQ := Lib.hid hq
      have HV := Lib.hid hV
      have hkI : (k : Int) < (n : Int) := by omega
      have HN1 : Hid ((k : Int) + 1 = ((k + 1 : Nat) : Int)) := Lib.hid (by omega)
      have HN2 : Hid (n - (k + 1) < n - k) := Lib.hid (by omega)
      have hbl : b < wr.heap.size := by have := HK.out.size; have := HGS.out; omega
      clear hq hV
      go_wp2_with fail
      generalize hwa : wr.alloc (.cells #[.bool v.b1, .slice v.A v.n v.c, .bool v.b2, .slice v.A2 v.m v.d] 93) = wa at *
      have hb0 : Below wr.heap.size wr wa := by rw [← hwa]; exact (Below.refl _ _).alloc (Nat.le_refl _) _
      clear hwa
      refine (rtext_any q v.b1 v.A v.n v.c v.b2 v.A2 v.m v.d wa ((RtIs.below HV.out hb0 (by have := HGS.out; have := HG.out.lt; omega)).more (by have := hb0.size; have := HGS.out; have := HG.out.lt; omega)) (HT.out.up (by rw [HGS.out]; exact HK.out.trans (hb0.mono (Nat.le_of_lt HG.out.lt))))).mono ?_
      clear c0 c1 c2 c3
      rintro e w1 ⟨hb1, s, rfl, hs⟩
      have hb2 := hb0.trans (hb1.mono hb0.size)
      have HK1 := Lib.hid (HK.out.trans (hb2.mono (Nat.le_of_lt HG.out.lt)))
      have HG1 := Lib.hid (HG.out.below hb2 HG.out.lt)
      have HS := Lib.hid hs
      clear hb0 hb1 hb2 hs HK HG
      have hgf := HG1.out.frozen
      have hgl := HG1.out.lt
      obtain ⟨y, hy⟩ : ∃ y, ts[k]? = some y := ⟨_, List.getElem?_eq_getElem (by have := HVL.out; omega)⟩
      have hgc : w1.cell? ⟨g, k, none⟩ = some (.string y) := by rw [HG1.out.cell k]; unfold strsV; simp [hy]
      clear hy
      by_cases hf : Fits q
      · have HF := Lib.hid hf
        rw [decide_eq_true hf]
        clear hf
        go_wp2_with fail
        go_roundw
        case rel => exact ⟨k + 1, ts.set k s, hlt, val_int HN1.out, by rw [List.length_set]; exact HVL.out, HK1.out.setCell (Nat.le_refl _) _, HG1.out.set_at _ (by unfold strsV; rw [List.map_set]; simp), fun i q' hi hq' => by
          by_cases hik : i = k
          · subst hik
            rw [HQ.out] at hq'
            injection hq' with hq'
            subst hq'
            refine ⟨HF.out, ?_⟩
            rw [List.getElem?_set_self (by have := HVL.out; omega), HS.out HF.out]
            rfl
          · rw [List.getElem?_set_ne (by omega)]
            exact HI.out i q' (by omega) hq'⟩
        case measure => exact HN2.out
      · have HF := Lib.hid hf
        rw [decide_eq_false hf]
        clear hf
        go_wp2_with fail
        go_ret2
        exact ⟨by rw [HGS.out]; exact HK1.out, fun h => absurd (h q (List.mem_of_getElem? HQ.out)) HF.out, fun _ => rfl⟩
    · have hke : k = n := by omega
      subst hke
      have hkI : ¬ (k : Int) < (k : Int) := by omega
      go_wp2_with fail
      go_ret2
      have hts : ts = qs.map txtQ := by
        apply List.ext_getElem?
        intro i
        by_cases hi : i < k
        · obtain ⟨q, hq⟩ : ∃ q, qs[i]? = some q := ⟨_, List.getElem?_eq_getElem (by have := HL.out; omega)⟩
          rw [(HI.out i q hi hq).2, List.getElem?_map, hq]; rfl
        · rw [List.getElem?_eq_none (by have := HVL.out; omega), List.getElem?_eq_none (by rw [List.length_map, HL.out]; omega)]
      have hfit : ∀ q ∈ qs, Fits q := fun q hq => by
        obtain ⟨i, hi⟩ := List.getElem?_of_mem hq
        exact (HI.out i q (by have := (List.getElem?_eq_some_iff.1 hi).1; have := HL.out; omega) hi).1
      exact ⟨by rw [HGS.out]; exact HK.out, fun _ => ⟨_, _, _, rfl, by rw [← hts]; have h := rdStr_lit HG.out HG.out.lt; rw [HVL.out] at h; exact h, Nat.le_refl _, by have := HNN.out; unfold maxLen; omega⟩, fun h => absurd hfit h⟩
end Go.Proofs.YtakllkkmofdpaaaGreatDoor
/- Appends of any row; rows of rational numbers that a function owns. -/
namespace Go.Proofs.YtakllkkmofdpaaaGreatDoor
open Go.ChangeShapes Go.WideShapes Go.ChangeAt Go.RowKit Go.Joins
set_option linter.unusedVariables false
set_option linter.unusedSimpArgs false

section
variable {P : Program}
theorem Keeps.refl (S : Value → Prop) (base : Nat) (e : TypeId) (w : World) : Keeps S base e w w := ⟨Below.refl _ _, Nat.le_refl _, fun _ _ h _ => h, fun _ _ _ h _ => h⟩
theorem OwnS.shape {S : Value → Prop} {w : World} {base e size n : Nat} {v : Value} {xs : List Value} (h : OwnS S w base e size v n xs) : ∃ A c, v = .slice A n c ∧ n ≤ c ∧ c ≤ maxLen := by
  rcases h.2 with ⟨h1, h2⟩ | ⟨g, cap, cur, h1, h2, h3, h4, h5, h6⟩
  · subst h2; exact ⟨none, 0, h1, Nat.le_refl _, by simp [maxLen]⟩
  · exact ⟨_, cap, h1, h4, h5⟩
/-- an append of any row that can be read, be it nothing -/
theorem run_append_rd {S : Value → Prop} (w : World) (base : Nat) (t ty e : TypeId) (i : TypeInfo) (z : Value) (size bytes : Nat) (ht : P.underlying t = some (.slice e)) (hi : P.info? e = some i) (hz : i.zero = some z)
    (hsize : i.size = size) (hby : i.bytes = bytes) (hzs : z.cells.size = size) (hsz : 0 < size) (hzS : ∀ u ∈ z.cells.toList, S u)
    (v : Value) (n : Nat) (xs : List Value) (hown : OwnS S w base e size v n xs)
    (A : Option Addr) (m c : Nat) (news : List Value) (hr : Rd w w.heap.size size A m news) (h1 : ∀ u ∈ news, u.oneCell' = true ∧ S u)
    (h63 : n + m ≤ maxLen) (hbytes : (n + m) * bytes ≤ 140737488355328) (hbase : base ≤ w.heap.size) :
    ∃ v' w', (Builtin.append_ #[t, t] ty #[v, .slice A m c]).run P w = .ok v' w' ∧ OwnS S w' base e size v' (n + m) (xs ++ news) ∧ Keeps S base e w w' ∧ (v = .slice none 0 0 → Below w.heap.size w w' ∧ OwnS S w' w.heap.size e size v' (n + m) (xs ++ news)) ∧ (v'.ownBlock = v.ownBlock ∨ v'.ownBlock = some w.heap.size) := by
  rcases Nat.eq_zero_or_pos m with rfl | h0
  · have hn : news = [] := List.eq_nil_of_length_eq_zero (by simpa using hr.1)
    subst hn
    obtain ⟨A1, c1, rfl, hc, hc2⟩ := hown.shape
    have hsrc : Src P i.size t (.slice A 0 c) 0 [] w := by
      cases A with
      | none => exact Src.ofNil w ht c
      | some ad => exact Src.ofSlice w ht ad 0 c [] (by simp) (fun j u hu => by simp at hu) (fun u hu => by cases hu)
    refine ⟨_, w, run_append_nothing (P := P) w t t ty e i ht hi A1 n c1 hc (.slice A 0 c) hsrc, by rw [List.append_nil]; exact hown, Keeps.refl _ _ _ _, fun hv => ⟨Below.refl _ _, ?_⟩, .inl rfl⟩
    injection hv with a1 a2 a3
    subst a1; subst a2; subst a3
    rw [List.append_nil]
    exact ⟨hown.1, .inl ⟨rfl, rfl⟩⟩
  · obtain ⟨b, off, rfl, hb, hc⟩ := hr.2 h0
    by_cases hv : v = .slice none 0 0
    · subst hv
      have hown2 : OwnS S w w.heap.size e size (.slice none 0 0) n xs := by
        refine ⟨hown.1, ?_⟩
        rcases hown.2 with h | ⟨g, cap, cur, h, _⟩
        · exact .inl h
        · cases h
      obtain ⟨v', w', g1, g2, g3, g4⟩ := run_append_S (P := P) w w.heap.size t ty e i z size bytes ht hi hz hsize hby hzs hsz hzS _ n xs hown2 ⟨b, off, none⟩ m c news hr.1 (fun j u hu => by rw [Addr.add_lit]; exact hc j u hu) h1 h63 hbytes (Nat.le_refl _) h0
      refine ⟨v', w', g1, ⟨g2.1, ?_⟩, ⟨⟨g3.low.os, g3.low.tape, g3.low.output, g3.low.size, fun k hk => g3.low.block k (Nat.lt_of_lt_of_le hk hbase)⟩, g3.size, g3.cell, g3.blk⟩, fun _ => ⟨g3.low, g2⟩, g4⟩
      exact g2.2.imp id fun ⟨g, cap, cur, k1, k2, k3⟩ => ⟨g, cap, cur, k1, Nat.le_trans hbase k2, k3⟩
    · obtain ⟨v', w', g1, g2, g3, g4⟩ := run_append_S (P := P) w base t ty e i z size bytes ht hi hz hsize hby hzs hsz hzS v n xs hown ⟨b, off, none⟩ m c news hr.1 (fun j u hu => by rw [Addr.add_lit]; exact hc j u hu) h1 h63 hbytes hbase h0
      exact ⟨v', w', g1, g2, g3, fun h => absurd h hv, g4⟩
theorem wp_appR {S : Value → Prop} {o : Oper} {a : Act} {w : World} {K : Act → World → Prop} {Q : Exit → Act → World → Prop} (s x : Operand) (t : TypeId)
    (ho : o.op = .call { callee := .builtin .append, args := #[s, x], argTypes := #[t, t] })
    (base : Nat) (e : TypeId) (i : TypeInfo) (z : Value) (size bytes : Nat) (ht : P.underlying t = some (.slice e)) (hi : P.info? e = some i) (hz : i.zero = some z)
    (hsize : i.size = size) (hby : i.bytes = bytes) (hzs : z.cells.size = size) (hsz : 0 < size) (hzS : ∀ u ∈ z.cells.toList, S u)
    (v : Value) (n : Nat) (xs : List Value) (hs : a.eval s = v) (hown : OwnS S w base e size v n xs)
    (A : Option Addr) (m c : Nat) (news : List Value) (hx : a.eval x = .slice A m c) (hr : Rd w w.heap.size size A m news) (h1 : ∀ u ∈ news, u.oneCell' = true ∧ S u)
    (h63 : n + m ≤ maxLen) (hbytes : (n + m) * bytes ≤ 140737488355328) (hbase : base ≤ w.heap.size)
    (h : ∀ v' w', OwnS S w' base e size v' (n + m) (xs ++ news) → Keeps S base e w w' → (v = .slice none 0 0 → Below w.heap.size w w' ∧ OwnS S w' w.heap.size e size v' (n + m) (xs ++ news)) → (v'.ownBlock = v.ownBlock ∨ v'.ownBlock = some w.heap.size) → K (a.put o.dst v') w') :
    o.wp P a w K Q := by
  obtain ⟨v', w', g1, g2, g3, g4, g5⟩ := run_append_rd (P := P) w base t o.type e i z size bytes ht hi hz hsize hby hzs hsz hzS v n xs hown A m c news hr h1 h63 hbytes hbase
  unfold Oper.wp execOp
  simp only [ho, resolve, invoke, builtin, Sem.run_bind, Sem.run_pure, Result.andThen_ok, List.map_toArray, List.map_cons, List.map_nil, hs, hx, g1]
  exact h v' w' g2 g3 g4 g5
theorem wpList_appR {S : Value → Prop} {ops : Array Oper} {rest : List Oper} {o : Oper} {a : Act} {Q : Exit → Act → World → Prop} {w : World} (hgd : o.guard = none) (s x : Operand) (t : TypeId)
    (ho : o.op = .call { callee := .builtin .append, args := #[s, x], argTypes := #[t, t] })
    (base : Nat) (e : TypeId) (i : TypeInfo) (z : Value) (size bytes : Nat) (ht : P.underlying t = some (.slice e)) (hi : P.info? e = some i) (hz : i.zero = some z)
    (hsize : i.size = size) (hby : i.bytes = bytes) (hzs : z.cells.size = size) (hsz : 0 < size) (hzS : ∀ u ∈ z.cells.toList, S u)
    (v : Value) (n : Nat) (xs : List Value) (hs : a.eval s = v) (hown : OwnS S w base e size v n xs)
    (A : Option Addr) (m c : Nat) (news : List Value) (hx : a.eval x = .slice A m c) (hr : Rd w w.heap.size size A m news) (h1 : ∀ u ∈ news, u.oneCell' = true ∧ S u)
    (h63 : n + m ≤ maxLen) (hbytes : (n + m) * bytes ≤ 140737488355328) (hbase : base ≤ w.heap.size)
    (h : ∀ v' w', OwnS S w' base e size v' (n + m) (xs ++ news) → Keeps S base e w w' → (v = .slice none 0 0 → Below w.heap.size w w' ∧ OwnS S w' w.heap.size e size v' (n + m) (xs ++ news)) → (v'.ownBlock = v.ownBlock ∨ v'.ownBlock = some w.heap.size) → wpList P ops Q rest (a.put o.dst v') w') :
    wpList P ops Q (o :: rest) a w := by
  refine wpList_plain hgd fun K hK => ?_
  exact wp_appR s x t ho base e i z size bytes ht hi hz hsize hby hzs hsz hzS v n xs hs hown A m c news hx hr h1 h63 hbytes hbase fun v' w' a1 a2 a3 a4 => hK _ _ (h v' w' a1 a2 a3 a4)
end

def NoI (u : Value) : Prop := ∀ k x, u ≠ .int k x
theorem RtV.keeps {w w' : World} {base e : Nat} {q : Rat} {v : Rv} (h : RtV w w.heap.size q v) (k : Keeps NoI base e w w') : RtV w' w'.heap.size q v := by
  have key : ∀ {A : Option Addr} {n : Nat} {l : List Nat}, RdW w w.heap.size A n l → RdW w' w'.heap.size A n l := fun h => ⟨h.1, fun hn => by
    obtain ⟨b, off, e, hlt, hc⟩ := h.2 hn
    refine ⟨b, off, e, Nat.lt_of_lt_of_le hlt k.size, fun j u hu => k.cell _ _ (hc j u hu) ?_⟩
    obtain ⟨x, rfl⟩ := u32_int hu
    exact fun hno => hno _ _ rfl⟩
  exact ⟨⟨h.num.eb, h.num.en, key h.num.rd, h.num.nc, h.num.cm⟩, ⟨h.den.eb, h.den.en, key h.den.rd, h.den.nc, h.den.cm⟩⟩
/-- a row of rational numbers that is owned -/
structure OwnQ (w : World) (base : Nat) (v : Value) (vs : List Rv) (qs : List Rat) : Prop where
  own : OwnS NoI w base 93 4 v vs.length (rvs vs)
  len : vs.length = qs.length
  ok : RvOk w vs qs
theorem OwnQ.keep {w w' : World} {base : Nat} {v : Value} {vs : List Rv} {qs : List Rat} (h : OwnQ w base v vs qs) (hb : Below w.heap.size w w') : OwnQ w' base v vs qs := ⟨h.own.keep hb, h.len, h.ok.up hb⟩
theorem ownQ_none (w : World) (base : Nat) : OwnQ w base (.slice none 0 0) [] [] := ⟨ownS_none _ _ _ _ _, rfl, fun i q v h => by simp at h⟩
theorem rv_noI (v : Rv) : ∀ u ∈ v.cells, u.oneCell' = true ∧ NoI u := fun u hu => by
  simp [Rv.cells] at hu
  rcases hu with rfl | rfl | rfl | rfl <;> exact ⟨rfl, fun k x h => by cases h⟩
theorem OwnQ.app {w w' : World} {base : Nat} {v v' : Value} {vs : List Rv} {qs : List Rat} {u : Rv} {q : Rat} (h : OwnQ w base v vs qs) (hq : RtV w w.heap.size q u) (h2 : OwnS NoI w' base 93 4 v' (vs.length + 1) (rvs vs ++ u.cells)) (hk : Keeps NoI base 93 w w') : OwnQ w' base v' (vs ++ [u]) (qs ++ [q]) := by
  refine ⟨by rw [List.length_append, List.length_singleton]; simpa [rvs] using h2, by rw [List.length_append, List.length_append, h.len]; rfl, fun i p x hp hx => ?_⟩
  by_cases hi : i < qs.length
  · rw [List.getElem?_append_left hi] at hp
    rw [List.getElem?_append_left (by rw [h.len]; exact hi)] at hx
    exact (h.ok i p x hp hx).keeps hk
  · rw [List.getElem?_append_right (by omega)] at hp
    rw [List.getElem?_append_right (by rw [h.len]; omega), h.len] at hx
    have hi2 := (List.getElem?_eq_some_iff.1 hp).1
    rw [List.length_singleton] at hi2
    have : i - qs.length = 0 := by omega
    rw [this] at hp hx
    simp at hp hx
    subst hp; subst hx
    exact RtV.keeps hq hk
theorem OwnQ.rd {w : World} {base : Nat} {v : Value} {vs : List Rv} {qs : List Rat} (h : OwnQ w base v vs qs) : ∃ A c, v = .slice A qs.length c ∧ RdQ w w.heap.size A qs.length qs ∧ qs.length ≤ c ∧ c ≤ maxLen ∧ (0 < qs.length → ∃ b off, A = some ⟨b, off, none⟩ ∧ base ≤ b) := by
  obtain ⟨A, c, hv, hr, h1, h2, h3⟩ := own_rd h.own.own
  rw [h.len] at hv hr h1 h3
  exact ⟨A, c, hv, ⟨vs, h.len, rfl, hr, h.ok⟩, h1, h2, h3⟩
theorem rat_parts : ∃ i, Tryz.prog.info? 93 = some i ∧ i.zero = some (.agg #[.bool false, .slice none 0 0, .bool false, .slice none 0 0]) ∧ i.size = 4 ∧ i.bytes = 64 := info_parts info_rat
theorem zr_noI : ∀ u ∈ (Value.agg #[.bool false, .slice none 0 0, .bool false, .slice none 0 0]).cells.toList, NoI u := fun u hu => by
  have hu' : u ∈ [Value.bool false, .slice none 0 0, .bool false, .slice none 0 0] := hu
  simp only [List.mem_cons, List.not_mem_nil, or_false] at hu'
  rcases hu' with rfl | rfl | rfl | rfl <;> exact fun k x h => by cases h
end Go.Proofs.YtakllkkmofdpaaaGreatDoor
