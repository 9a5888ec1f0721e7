import Derived.Test.YtakllkkmofdpaaaGreatDoorU21
import Derived.Test.YtakllkkmofdpaaaGreatDoorU30
set_option linter.unusedVariables false
set_option linter.unusedSimpArgs false
namespace Go.Proofs.YtakllkkmofdpaaaGreatDoor
section
open Go.ChangeShapes Go.WideShapes Go.ChangeAt Go.RowKit Go.Joins Go.Deep
section
variable {H : Type} {enc : TypeId × Value → H} {w : World} {sp : Nat → Bool}
set_option maxRecDepth 100000 in
theorem open_vec1 {fuel : Nat} {cs : List Value} {x : DataW H × List MemPlace} (h : DataW.trod enc Tryz.prog w 0 sp true fuel 23 cs = some x) :
    ∃ (A : Option Addr) (n c : Nat) (ss : List ByteArray), cs = [.slice A n c] ∧ n ≤ c ∧ c ≤ maxLen ∧ (∀ s ∈ ss, s.size ≤ maxLen) ∧ RdStr w w.heap.size A n ss := by
 obtain ⟨A, n, c, xs, h1, h2, h3, hl, hq, h4⟩ := open_list (fun s : ByteArray => [.string s]) 1 (fun s => s.size ≤ maxLen) Tryz.underlying23 (by kernel_rfl) (by omega) (fun _ => rfl) (fun fu cs' y hy => open_str1 Tryz.underlying37 hy) h
 exact ⟨A, n, c, xs, h1, h2, h3, hq, hl, by unfold strsV; rw [List.map_eq_flatMap]; exact h4⟩
set_option maxRecDepth 100000 in
theorem open_vec {r : Reach} {b0 : Nat} {v : Value} {d : DataW H} {p : List MemPlace} (hv : Value.okWide Tryz.prog w r b0 23 v) (h : DataW.Trod enc Tryz.prog w 0 sp true 23 v d p) :
    ∃ (A : Option Addr) (n c : Nat) (ss : List ByteArray), v = .slice A n c ∧ n ≤ c ∧ c ≤ maxLen ∧ (∀ s ∈ ss, s.size ≤ maxLen) ∧ RdStr w w.heap.size A n ss := by
 obtain ⟨A, n, c, rfl⟩ := okWide_slice Tryz.underlying23 hv
 obtain ⟨fuel, hf⟩ := h
 obtain ⟨A', n', c', ss, he, h1, h2, h3, h4⟩ := open_vec1 hf
 simp [Value.cells] at he
 obtain ⟨rfl, rfl, rfl⟩ := he
 exact ⟨_, _, _, ss, rfl, h1, h2, h3, h4⟩
end
end
section
open Go
theorem dec_head (u : Nat) : 0 < u → (Lib.decDigits u).head? ≠ some 48 := by
 induction u using Nat.strongRecOn with
 | _ u ih =>
  intro hu
  by_cases h : u < 10
  ·rw [dec_small h]
   intro he
   have he : UInt8.ofNat (48 + u) = 48 := Option.some.inj he
   have : (UInt8.ofNat (48 + u)).toNat = 48 + u := by rw [UInt8.toNat_ofNat']; omega
   rw [he] at this
   have h48 : (48 : UInt8).toNat = 48 := rfl
   omega
  ·rw [dec_big h, List.head?_append]
   have h1 := ih (u / 10) (by omega) (by omega)
   have h2 := dec_len_pos (u / 10)
   cases hd : Lib.decDigits (u / 10) with
   | nil => rw [hd] at h2; simp at h2
   | cons c t => rw [hd] at h1; simpa using h1
theorem canon_dec (u : Nat) : Canon (Lib.decDigits u) := by
 refine ⟨fun h => ?_, dec_dg u, fun h => ?_⟩
 ·have := dec_len_pos u
  rw [h] at this
  simp at this
 ·by_cases h0 : u = 0
  ·subst h0
   rw [dec_small (by decide)] at h
   simp at h
  ·exact dec_head u (by omega)
theorem dv_pos : ∀ {l : List UInt8}, l ≠ [] → (∀ c ∈ l, IsDg c) → l.head? ≠ some 48 → 0 < dv l
 | [], h, _, _ => absurd rfl h
 | c :: r, _, hd, hh => by
  obtain ⟨d, hd1, rfl⟩ := isDg_of (hd c (by simp))
  have h1 := dvg_acc r (0 * 10 + ((UInt8.ofNat (48 + d)).toNat - 48))
  have h2 : dv (UInt8.ofNat (48 + d) :: r) = dvg (0 * 10 + ((UInt8.ofNat (48 + d)).toNat - 48)) r := rfl
  rw [h2, h1, dg_val hd1]
  have hd0 : d ≠ 0 := fun e => by subst e; exact hh rfl
  have : 1 * 10 ^ r.length ≤ (0 * 10 + d) * 10 ^ r.length := Nat.mul_le_mul_right _ (by omega)
  have : 1 ≤ 10 ^ r.length := Nat.one_le_pow _ _ (by decide)
  omega
theorem dec_canon {l : List UInt8} (h : Canon l) : Lib.decDigits (dv l) = l := by
 obtain ⟨n, hn⟩ : ∃ n, l.length = n := ⟨_, rfl⟩
 induction n generalizing l with
 | zero => exact absurd (List.eq_nil_of_length_eq_zero hn) h.1
 | succ n ih =>
  obtain ⟨a, c, rfl⟩ : ∃ a c, l = a ++ [c] := ⟨l.dropLast, l.getLast h.1, (List.dropLast_concat_getLast h.1).symm⟩
  obtain ⟨d, hd, rfl⟩ := isDg_of (h.2.1 c (by simp))
  rw [dv_append, dv_one hd]
  by_cases ha : a = []
  ·subst ha
   rw [List.nil_append, show dv [] = 0 from rfl]
   simp only [List.length_singleton, Nat.pow_one, Nat.zero_mul, Nat.zero_add]
   exact dec_small hd
  ·have hal : 1 ≤ a.length := by cases a with | nil => exact absurd rfl ha | cons _ _ => simp
   have hh : a.head? ≠ some 48 := by
    have := h.2.2 (by simp; omega)
    cases a with
    | nil => exact absurd rfl ha
    | cons x t => simpa using this
   have hdg : ∀ c ∈ a, IsDg c := fun c hc => h.2.1 c (List.mem_append_left _ hc)
   have hp := dv_pos ha hdg hh
   have hca : Canon a := ⟨ha, hdg, fun _ => hh⟩
   have := ih hca (by simp at hn; omega)
   simp only [List.length_singleton, Nat.pow_one]
   rw [dec_big (by omega), show (dv a * 10 + d) / 10 = dv a from by omega, show (dv a * 10 + d) % 10 = d from by omega, this]
end
section
open Go.ChangeShapes Go.WideShapes Go.ChangeAt Go.RowKit
attribute [local go_sem ↓] execOp_call_val
attribute [local go_sem] callVal_func setCell_drewN alloc_drewN
theorem cutR_no {c : UInt8} : ∀ {l : List UInt8}, c ∉ l → cutR c l = (l, [], false)
 | [], _ => rfl
 | x :: r, h => by
  have h1 : x ≠ c := fun e => h (by rw [e]; exact List.mem_cons_self ..)
  unfold cutR
  rw [if_neg h1, cutR_no fun hm => h (List.mem_cons_of_mem _ hm)]
theorem cutR_app {c : UInt8} : ∀ {a b : List UInt8}, c ∉ a → cutR c (a ++ c :: b) = (a, b, true)
 | [], b, _ => by simp [cutR]
 | x :: r, b, h => by
  have h1 : x ≠ c := fun e => h (by rw [e]; exact List.mem_cons_self ..)
  rw [List.cons_append, cutR, if_neg h1, cutR_app fun hm => h (List.mem_cons_of_mem _ hm)]
theorem cutR_eq {c : UInt8} : ∀ {l : List UInt8}, (cutR c l).2.2 = true → l = (cutR c l).1 ++ c :: (cutR c l).2.1 ∧ c ∉ (cutR c l).1
 | [], h => by cases h
 | x :: r, h => by
  unfold cutR at h ⊢
  by_cases hx : x = c
  ·subst hx; simp
  ·rw [if_neg hx] at h ⊢
   obtain ⟨h1, h2⟩ := cutR_eq (l := r) h
   refine ⟨by simp only [List.cons_append]; rw [← h1], fun hm => ?_⟩
   rcases List.mem_cons.1 hm with e | hm
   ·exact hx e.symm
   ·exact h2 hm
theorem cutR_none {c : UInt8} : ∀ {l : List UInt8}, (cutR c l).2.2 = false → c ∉ l ∧ cutR c l = (l, [], false)
 | [], _ => ⟨by simp, rfl⟩
 | x :: r, h => by
  by_cases hx : x = c
  ·unfold cutR at h; rw [if_pos hx] at h; cases h
  ·have h' : (cutR c r).2.2 = false := by unfold cutR at h; rw [if_neg hx] at h; exact h
   obtain ⟨h1, h2⟩ := cutR_none h'
   have h3 : c ∉ x :: r := fun hm => (List.mem_cons.1 hm).elim (fun e => hx e.symm) h1
   exact ⟨h3, cutR_no h3⟩
end
section
open Go.ChangeShapes Go.WideShapes Go.ChangeAt Go.RowKit
attribute [local go_sem ↓] execOp_call_val
attribute [local go_sem] callVal_func setCell_drewN alloc_drewN sEq_walk
def RtxP (q : Rat) (w : World) (e : Ending) (w' : World) : Prop := Below w.heap.size w w' ∧ ∃ s, e = .returned (.tuple #[.string s, .bool (decide (Fits q))]) ∧ (Fits q → s = ⟨(textQ q).toArray⟩)
theorem textL_nat (n : Nat) : textL (n : Int) = Lib.decDigits n := by unfold textL; rw [if_neg (Int.not_lt.2 (Int.natCast_nonneg n)), Int.natAbs_natCast, List.nil_append]
theorem sz_text {z : Int} (h : ndg z.natAbs ≤ 2000) : (textL z).length ≤ 2001 := by
 unfold textL
 unfold ndg at h
 rw [List.length_append]
 split <;> simp <;> omega
set_option maxRecDepth 100000 in
set_option maxHeartbeats 4000000 in
theorem rtext_any (q : Rat) (b1 : Bool) (A : Option Addr) (n c : Nat) (b2 : Bool) (A2 : Option Addr) (n2 c2 : Nat) (w : World) (h1 : RtIs w w.heap.size q b1 A n c b2 A2 n2 c2) (ht : TabOk w) :
    Calls Tryz.prog 54 #[.agg #[.bool b1, .slice A n c, .bool b2, .slice A2 n2 c2]] w (RtxP q w) := by
 have HB0 : Hid (Below w.heap.size w (w.alloc (.cells #[.bool b1, .slice A n c, .bool b2, .slice A2 n2 c2] 93))) := Lib.hid ((Below.refl _ _).alloc (Nat.le_refl _) _)
 have HX1 := Lib.hid (Blk.new w 93 #[.bool b1, .slice A n c, .bool b2, .slice A2 n2 c2])
 have H1 := Lib.hid (h1.up HB0.out)
 have HT := Lib.hid (ht.up HB0.out)
 clear h1 ht
 go_enter Tryz.func54, Tryz.ntmps54
 go_upto_region 1 with fail
 generalize w.alloc (.cells #[.bool b1, .slice A n c, .bool b2, .slice A2 n2 c2] 93) = W at *
 have p0 := HX1.out.cell 0
 have p1 := HX1.out.cell 1
 have pl := HX1.out.lt
 go_wp2_with fail
 refine (itext_any q.num b1 A n c W H1.out.num HT.out).mono ?_
 rintro e w1 ⟨hb1, s1, rfl, hs1, hz1⟩
 have HB1 := Lib.hid (HB0.out.trans (hb1.mono HB0.out.size))
 have HX2 := Lib.hid (HX1.out.below hb1 HX1.out.lt)
 have H2 := Lib.hid (H1.out.up hb1)
 have HT2 := Lib.hid (HT.out.up hb1)
 have HS1 := Lib.hid hs1
 clear hb1 p0 p1 pl hs1 HB0 HX1 H1 HT
 by_cases hf1 : ndg q.num.natAbs ≤ 2000
 ·have hd1 : decide (ndg q.num.natAbs ≤ 2000) = true := decide_eq_true hf1
  have he1 := HS1.out hf1
  subst he1
  rw [hd1]
  have HF1 := Lib.hid hf1
  clear hd1 hf1
  have p2 := HX2.out.cell 2
  have p3 := HX2.out.cell 3
  have pl := HX2.out.lt
  go_wp2_with fail
  refine (itext_any (q.den : Int) b2 A2 n2 c2 w1 H2.out.den HT2.out).mono ?_
  rintro e w2 ⟨hb2, s2, he, hs2, hz2⟩
  rw [Int.natAbs_natCast] at he hs2
  rw [textL_nat] at hs2
  subst he
  have HB2 := Lib.hid (HB1.out.trans (hb2.mono HB1.out.size))
  clear hb2 p2 p3 pl
  by_cases hf2 : ndg q.den ≤ 2000
  ·have hd2 : decide (ndg q.den ≤ 2000) = true := decide_eq_true hf2
   have he2 := hs2 hf2
   subst he2
   have hF : Fits q := ⟨HF1.out, hf2⟩
   have hFd : decide (Fits q) = true := decide_eq_true hF
   have HFD := Lib.hid hFd
   have hq : ((⟨(Lib.decDigits q.den).toArray⟩ : ByteArray).toList == [49]) = decide (q.den = 1) := by
    rw [ByteArray.toList_eq, Bool.eq_iff_iff, beq_iff_eq, decide_eq_true_eq]
    exact dec_one
   rw [hd2]
   have hl1 : (⟨(textL q.num).toArray⟩ : ByteArray).size ≤ 2001 := by rw [sz_arr]; exact sz_text HF1.out
   have hl2 : (⟨(Lib.decDigits q.den).toArray⟩ : ByteArray).size ≤ 2000 := by rw [sz_arr]; exact hf2
   obtain ⟨t1, ht1⟩ : ∃ t : ByteArray, ⟨(textL q.num).toArray⟩ = t := ⟨_, rfl⟩
   obtain ⟨t2, ht2⟩ : ∃ t : ByteArray, ⟨(Lib.decDigits q.den).toArray⟩ = t := ⟨_, rfl⟩
   have HT1 := Lib.hid ht1
   have HT2' := Lib.hid ht2
   rw [ht1] at hl1 ⊢
   rw [ht2] at hl2 hq ⊢
   clear hd2 hF hFd hf2 hs2 ht1 ht2
   by_cases hone : q.den = 1
   ·have hd : decide (q.den = 1) = true := decide_eq_true hone
    rw [hd] at hq
    have HTX : Hid (t1 = ⟨(textQ q).toArray⟩) := Lib.hid (by unfold textQ; rw [if_pos hone, List.append_nil]; exact HT1.out.symm)
    clear hd hone
    go_wp2_with fail
    go_ret2
    exact ⟨HB2.out, _, by rw [HFD.out]; rfl, fun _ => HTX.out⟩
   ·have hd : decide (q.den = 1) = false := decide_eq_false hone
    rw [hd] at hq
    have HTX : Hid (t1 ++ ⟨#[47]⟩ ++ t2 = ⟨(textQ q).toArray⟩) := Lib.hid (by
     unfold textQ
     rw [if_neg hone, ← HT1.out, ← HT2'.out]
     apply ByteArray.ext
     simp)
    have hz1 : ¬ 9223372036854775807 < t1.size + 1 := by omega
    have hz3 : (t1 ++ ⟨#[47]⟩ : ByteArray).size = t1.size + 1 := by rw [ByteArray.size_append]; rfl
    have hz2 : ¬ 9223372036854775807 < t1.size + 1 + t2.size := by omega
    clear hd hone hl1 hl2
    go_wp2_with fail
    go_ret2
    exact ⟨HB2.out, _, by rw [HFD.out]; rfl, fun _ => HTX.out⟩
  ·have hd2 : decide (ndg q.den ≤ 2000) = false := decide_eq_false hf2
   have hFd : decide (Fits q) = false := decide_eq_false fun h => hf2 h.2
   have HFD := Lib.hid hFd
   have HNF : Hid (¬ Fits q) := Lib.hid fun h => hf2 h.2
   rw [hd2]
   obtain ⟨t1, ht1⟩ : ∃ t : ByteArray, ⟨(textL q.num).toArray⟩ = t := ⟨_, rfl⟩
   have hl1 : t1.size ≤ 3000 := by rw [← ht1]; exact hz1
   rw [ht1]
   clear hd2 hFd hf2 hs2 ht1 hz1
   have hzz1 : ¬ 9223372036854775807 < t1.size + 1 := by omega
   have hzz3 : (t1 ++ ⟨#[47]⟩ : ByteArray).size = t1.size + 1 := by rw [ByteArray.size_append]; rfl
   have hzz2 : ¬ 9223372036854775807 < t1.size + 1 + s2.size := by omega
   cases hq : (s2.toList == [49]) with
   | true =>
    go_wp2_with fail
    go_ret2
    exact ⟨HB2.out, _, by rw [HFD.out]; rfl, fun h => absurd h HNF.out⟩
   | false =>
    go_wp2_with fail
    go_ret2
    exact ⟨HB2.out, _, by rw [HFD.out]; rfl, fun h => absurd h HNF.out⟩
 ·have hd1 : decide (ndg q.num.natAbs ≤ 2000) = false := decide_eq_false hf1
  have hFd : decide (Fits q) = false := decide_eq_false fun h => hf1 h.1
  have HFD := Lib.hid hFd
  have HNF : Hid (¬ Fits q) := Lib.hid fun h => hf1 h.1
  rw [hd1]
  clear hd1 hFd hf1
  go_wp2_with fail
  go_ret2
  exact ⟨HB1.out, _, by rw [HFD.out]; rfl, fun h => absurd h HNF.out⟩
end
section
theorem ratCk_split {l : List UInt8} (h : ratCk l = 0) : ¬ rtP5 l ∧ ¬ rtP2 l ∧ ¬ (rtI l = true ∧ rtP3 l) := by
 unfold ratCk at h
 by_cases h5 : rtP5 l
 ·rw [if_pos h5] at h; cases h
 ·rw [if_neg h5] at h
  by_cases h2 : rtP2 l
  ·rw [if_pos h2] at h; cases h
  ·rw [if_neg h2] at h
   by_cases h3 : rtI l = true ∧ rtP3 l
   ·rw [if_pos h3] at h; cases h
   ·exact ⟨h5, h2, h3⟩
theorem pre_split (l : List UInt8) : l = (if negL l then [45] else []) ++ rtS l := by
 unfold negL rtS Lib.trimPrefix
 cases hp : Lib.hasPrefix l [45] with
 | false => simp
 | true =>
  unfold Lib.hasPrefix at hp
  cases l with
  | nil => cases hp
  | cons c r =>
   have : c = 45 := by
    simp [List.isPrefixOf] at hp
    exact hp.symm
   subst this
   simp
theorem cut_split (l : List UInt8) : l = (cutR 47 l).1 ++ (if (cutR 47 l).2.2 then 47 :: (cutR 47 l).2.1 else []) := by
 cases h : (cutR 47 l).2.2 with
 | true =>
  have := (cutR_eq h).1
  simpa using this
 | false =>
  obtain ⟨_, h2⟩ := cutR_none h
  rw [h2]; simp
theorem rtS_split (l : List UInt8) : rtS l = rtN l ++ (if rtI l then 47 :: rtD l else []) := cut_split (rtS l)
theorem canon_zero {l : List UInt8} (h : Canon l) (h0 : dv l = 0) : l = [48] := by
 have := dec_canon h
 rw [h0, dec_small (by decide)] at this
 exact this.symm
theorem canon_one {l : List UInt8} (h : Canon l) (h0 : dv l = 1) : l = [49] := by
 have := dec_canon h
 rw [h0, dec_small (by decide)] at this
 exact this.symm
theorem rdZ_abs (b : Bool) (l : List UInt8) : (rdZ b l).natAbs = dv l := by unfold rdZ; cases b <;> simp
theorem valid_parse {l : List UInt8} (h : ratCk l = 0) : (parseQ l).num = rdZ (negL l) (rtN l) ∧ (parseQ l).den = denL l ∧ textQ (parseQ l) = l ∧ Fits (parseQ l) ∧ AllDg (rtN l) ∧ AllDg (rtD l) ∧ (rtN l).length ≤ 2000 ∧ (rtD l).length ≤ 2000 := by
 obtain ⟨h5, h2, h3⟩ := ratCk_split h
 have hn : natCk (rtN l) = 0 := Classical.byContradiction fun e => h2 (.inl e)
 have hb : rtB l = 0 := Classical.byContradiction fun e => h2 (.inr e)
 obtain ⟨hcn, hln⟩ := natCk_ok.1 hn
 have hnz : rtN l = [48] → negL l = false := fun e => by
  cases hg : negL l with
  | false => rfl
  | true =>
   refine absurd (.inr (.inr ⟨e, ?_⟩)) h5
   have := congrArg List.length (pre_split l)
   rw [hg, List.length_append] at this
   simp at this
   omega
 have hneg : rdZ (negL l) (rtN l) < 0 ↔ negL l = true := by
  cases hg : negL l with
  | false => simp [rdZ]
  | true =>
   have : dv (rtN l) ≠ 0 := fun e => by
    have := hnz (canon_zero hcn e)
    rw [hg] at this; cases this
   simp [rdZ]; omega
 have hD : (rtI l = true → Canon (rtD l) ∧ (rtD l).length ≤ 2000 ∧ dv (rtD l) ≠ 0 ∧ dv (rtD l) ≠ 1 ∧ (dv (rtN l)).gcd (dv (rtD l)) = 1) ∧ (rtI l = false → rtD l = []) := by
  refine ⟨fun hi => ?_, fun hi => ?_⟩
  ·have hd : natCk (rtD l) = 0 := by unfold rtB at hb; rw [hi] at hb; exact hb
   obtain ⟨hcd, hld⟩ := natCk_ok.1 hd
   have h33 : ¬ rtP3 l := fun g => h3 ⟨hi, g⟩
   exact ⟨hcd, hld, fun e => h33 (.inl (canon_zero hcd e)), fun e => h33 (.inr (.inl (canon_one hcd e))), Classical.byContradiction fun g => h33 (.inr (.inr g))⟩
  ·have := (cutR_none (l := rtS l) hi).2
   unfold rtD
   rw [this]
 have hg : (rdZ (negL l) (rtN l)).natAbs.gcd (denL l) = 1 := by
  rw [rdZ_abs]
  unfold denL
  cases hi : rtI l with
  | true => exact (hD.1 hi).2.2.2.2
  | false => exact Nat.gcd_one_right _
 have hd0 : denL l ≠ 0 := by
  unfold denL
  cases hi : rtI l with
  | true => exact (hD.1 hi).2.2.1
  | false => exact Nat.one_ne_zero
 obtain ⟨e1, e2⟩ := ratio_one hd0 hg
 have e1' : (parseQ l).num = rdZ (negL l) (rtN l) := e1
 have e2' : (parseQ l).den = denL l := e2
 have hdd : AllDg (rtD l) ∧ (rtD l).length ≤ 2000 := by
  cases hi : rtI l with
  | true => exact ⟨(hD.1 hi).1.2.1, (hD.1 hi).2.1⟩
  | false => rw [hD.2 hi]; exact ⟨fun c hc => (by cases hc), by simp⟩
 refine ⟨e1', e2', ?_, ⟨?_, ?_⟩, hcn.2.1, hdd.1, hln, hdd.2⟩
 ·unfold textQ textL
  rw [e1', e2', rdZ_abs, dec_canon hcn]
  conv => rhs; rw [pre_split l, rtS_split l]
  have hif : (if rdZ (negL l) (rtN l) < 0 then [45] else ([] : List UInt8)) = if negL l = true then [45] else [] := by
   cases hg2 : negL l with
   | true => rw [hg2] at hneg; rw [if_pos (hneg.2 rfl)]; rfl
   | false => rw [hg2] at hneg; rw [if_neg (fun g => by have := hneg.1 g; cases this)]; rfl
  rw [hif, List.append_assoc]
  congr 2
  unfold denL
  cases hi : rtI l with
  | true =>
   obtain ⟨g1, _, _, g4, _⟩ := hD.1 hi
   simp only [if_true]
   rw [if_neg g4, dec_canon g1]
  | false => simp
 ·rw [e1', rdZ_abs]; unfold ndg; rw [dec_canon hcn]; exact hln
 ·rw [e2']
  unfold denL
  cases hi : rtI l with
  | true => unfold ndg; simp only [if_true]; rw [dec_canon (hD.1 hi).1]; exact (hD.1 hi).2.1
  | false => show ndg 1 ≤ 2000; decide +kernel
theorem text_parts (q : Rat) : negL (textQ q) = decide (q.num < 0) ∧ rtN (textQ q) = Lib.decDigits q.num.natAbs ∧ rtI (textQ q) = decide (q.den ≠ 1) ∧ rtD (textQ q) = if q.den = 1 then [] else Lib.decDigits q.den := by
 have hS : negL (textQ q) = decide (q.num < 0) ∧ rtS (textQ q) = Lib.decDigits q.num.natAbs ++ (if q.den = 1 then [] else 47 :: Lib.decDigits q.den) := by
  unfold negL rtS textQ textL Lib.trimPrefix
  by_cases h : q.num < 0
  ·have hp : Lib.hasPrefix ((if q.num < 0 then [45] else []) ++ Lib.decDigits q.num.natAbs ++ (if q.den = 1 then [] else 47 :: Lib.decDigits q.den)) [45] = true := by rw [if_pos h]; simp [Lib.hasPrefix]
   rw [hp, decide_eq_true h, if_pos h]
   simp
  ·have hp : Lib.hasPrefix ((if q.num < 0 then [45] else []) ++ Lib.decDigits q.num.natAbs ++ (if q.den = 1 then [] else 47 :: Lib.decDigits q.den)) [45] = false := by
    rw [if_neg h, List.nil_append]
    cases hl : Lib.decDigits q.num.natAbs with
    | nil => have := dec_len_pos q.num.natAbs; rw [hl] at this; simp at this
    | cons c r =>
     have hc := dec_dg q.num.natAbs c (by rw [hl]; exact List.mem_cons_self ..)
     have : ((45 : UInt8) == c) = false := by
      cases hb : ((45 : UInt8) == c) with
      | false => rfl
      | true => have := eq_of_beq hb; subst this; exact absurd hc.1 (by decide)
     simp [Lib.hasPrefix, List.isPrefixOf, this]
   rw [hp, decide_eq_false h, if_neg h]
   simp
 have hno : (47 : UInt8) ∉ Lib.decDigits q.num.natAbs := fun h => by
  have := (dec_dg _ _ h).1
  exact absurd this (by decide)
 unfold rtN rtI rtD
 rw [hS.2]
 refine ⟨hS.1, ?_⟩
 by_cases h1 : q.den = 1
 ·rw [if_pos h1, List.append_nil, cutR_no hno, if_pos h1, decide_eq_false (by simpa using h1)]
  exact ⟨rfl, rfl, rfl⟩
 ·rw [if_neg h1, cutR_app hno, if_neg h1, decide_eq_true h1]
  exact ⟨rfl, rfl, rfl⟩
theorem dec_ck {n : Nat} (h : ndg n ≤ 2000) : natCk (Lib.decDigits n) = 0 := natCk_ok.2 ⟨canon_dec n, h⟩
theorem text_valid {q : Rat} (h : Fits q) : ratCk (textQ q) = 0 ∧ parseQ (textQ q) = q := by
 obtain ⟨h1, h2, h3, h4⟩ := text_parts q
 have hn := dec_ck h.1
 have hd := dec_ck h.2
 have hB : rtB (textQ q) = 0 := by
  unfold rtB
  rw [h3, h4]
  by_cases g : q.den = 1
  ·rw [decide_eq_false (by simpa using g)]; rfl
  ·rw [decide_eq_true g, if_neg g]; exact hd
 have h5 : ¬ rtP5 (textQ q) := by
  unfold rtP5
  rw [h2, hB, hn]
  rintro (g | g | ⟨g1, g2⟩)
  ·cases g
  ·cases g
  ·have : q.num.natAbs = 0 := dec_inj (g1.trans (show [48] = Lib.decDigits 0 by rw [dec_small (by decide)]; rfl))
   have hn0 : ¬ q.num < 0 := by omega
   have h6 := congrArg List.length (pre_split (textQ q))
   rw [h1, decide_eq_false hn0, List.length_append] at h6
   simp at h6
   omega
 have hp2 : ¬ rtP2 (textQ q) := by
  unfold rtP2
  rw [h2, hB, hn]
  simp
 have hp3 : ¬ (rtI (textQ q) = true ∧ rtP3 (textQ q)) := by
  rintro ⟨g, g3⟩
  rw [h3, decide_eq_true_eq] at g
  unfold rtP3 at g3
  rw [h2, h4, if_neg g, dv_dec, dv_dec] at g3
  rcases g3 with g3 | g3 | g3
  ·have := dec_inj (g3.trans (show [48] = Lib.decDigits 0 by rw [dec_small (by decide)]; rfl))
   exact q.den_nz this
  ·exact g (dec_one.1 g3)
  ·exact g3 q.reduced
 refine ⟨by unfold ratCk; rw [if_neg h5, if_neg hp2, if_neg hp3], ?_⟩
 unfold parseQ denL
 rw [h1, h2, h3, h4]
 have e1 : rdZ (decide (q.num < 0)) (Lib.decDigits q.num.natAbs) = q.num := by
  unfold rdZ
  rw [dv_dec]
  by_cases g : q.num < 0
  ·rw [decide_eq_true g]; simp only [if_true]; omega
  ·rw [decide_eq_false g]; simp only [Bool.false_eq_true, if_false]; omega
 rw [e1]
 by_cases g : q.den = 1
 ·rw [decide_eq_false (by simpa using g)]
  have := rat_eta q
  rw [g] at this
  exact this
 ·rw [decide_eq_true g, if_neg g, dv_dec]
  exact rat_eta q
end
section
open Go.ChangeShapes Go.WideShapes Go.ChangeAt Go.RowKit
attribute [local go_sem ↓] execOp_call_val
attribute [local go_sem] callVal_func setCell_drewN alloc_drewN
theorem cutR_pre (b : Bool) (s : List UInt8) : cutR 47 ((if b then [45] else []) ++ s) = ((if b then [45] else []) ++ (cutR 47 s).1, (cutR 47 s).2.1, (cutR 47 s).2.2) := by
 cases b with
 | false => simp
 | true => simp [cutR]
theorem cut_whole (l : List UInt8) : cutR 47 l = ((if negL l then [45] else []) ++ rtN l, rtD l, rtI l) := by
 have := cutR_pre (negL l) (rtS l)
 rwa [← pre_split l] at this
set_option maxRecDepth 100000 in
set_option maxHeartbeats 4000000 in
theorem parse_any (l : List UInt8) (h : ratCk l = 0) (w : World) :
    Calls Tryz.prog 94 #[.string ⟨l.toArray⟩] w (RtP (parseQ l) w) := by
 obtain ⟨v1, v2, _, _, v3, v4, v5, v6⟩ := valid_parse h
 have HV1 := Lib.hid v1
 have HV2 := Lib.hid v2
 have HV3 := Lib.hid v3
 have HV4 := Lib.hid v4
 have HV5 : Hid ((rtN l).length ≤ 1000000) := Lib.hid (by omega)
 have HV6 : Hid ((rtD l).length ≤ 1000000) := Lib.hid (by omega)
 have hll : l.length ≤ 9223372036854775807 := by
  have h1 := congrArg List.length (pre_split l)
  have h2 := congrArg List.length (rtS_split l)
  rw [List.length_append] at h1 h2
  have h3 : (if negL l then [45] else ([] : List UInt8)).length ≤ 1 := by split <;> simp
  have h4 : (if rtI l then 47 :: rtD l else []).length ≤ (rtD l).length + 1 := by split <;> simp
  omega
 have HB0 : Hid (Below w.heap.size w (w.alloc (.cells #[.bool false, .slice none 0 0, .bool false, .slice none 0 0] 93))) := Lib.hid ((Below.refl _ _).alloc (Nat.le_refl _) _)
 have HR : Hid (Blk (w.alloc (.cells #[.bool false, .slice none 0 0, .bool false, .slice none 0 0] 93)) w.heap.size 93 #[.bool false, .slice none 0 0, .bool false, .slice none 0 0]) := Lib.hid (Blk.new w _ _)
 have hgs : w.heap.size ≤ w.heap.size := Nat.le_refl _
 clear v1 v2 v3 v4 v5 v6 h
 go_enter Tryz.func94, Tryz.ntmps94
 go_upto_region 1 with fail
 generalize (w.alloc (.cells #[.bool false, .slice none 0 0, .bool false, .slice none 0 0] 93)) = W at *
 go_wp2_with fail
 refine (cut_any 47 l hll W).mono ?_
 rintro e w1 ⟨he, hb1⟩
 rw [cut_whole l] at he
 have HB1 := Lib.hid (HB0.out.trans (hb1.mono HB0.out.size))
 have HR1 := Lib.hid (HR.out.below hb1 HR.out.lt)
 obtain ⟨is, his⟩ : ∃ i, rtI l = i := ⟨_, rfl⟩
 have HI := Lib.hid his
 simp only [his] at he
 subst he
 clear hb1 HB0 HR his hll
 obtain ⟨tn, htn⟩ : ∃ t : ByteArray, rdT (negL l) (rtN l) = t := ⟨_, rfl⟩
 obtain ⟨td, htd⟩ : ∃ t : ByteArray, rdT false (rtD l) = t := ⟨_, rfl⟩
 have c1 : ∀ w, Calls Tryz.prog 126 #[.string tn] w (LgP (rdZ (negL l) (rtN l)) w) := fun w => by rw [← htn]; exact read_any _ _ HV3.out HV5.out w
 have c2 : ∀ w, Calls Tryz.prog 126 #[.string td] w (LgP (rdZ false (rtD l)) w) := fun w => by rw [← htd]; exact read_any _ _ HV4.out HV6.out w
 have e1 : (⟨((if negL l = true then [45] else []) ++ rtN l).toArray⟩ : ByteArray) = tn := htn
 have e2 : (⟨(rtD l).toArray⟩ : ByteArray) = td := htd
 rw [e1, e2]
 clear e1 e2
 have C1 := Lib.hid c1
 have C2 := Lib.hid c2
 clear htn htd c1 c2
 cases is with
 | false =>
  have HD : Hid ((parseQ l).den = 1) := Lib.hid (by rw [HV2.out]; unfold denL; rw [HI.out]; rfl)
  go_wp2_with fail
  refine (C1.out w1).mono ?_
  rintro e w2 ⟨hb2, f5, C5, i5, j5, rfl, h5⟩
  have HB2 := Lib.hid (HB1.out.trans (hb2.mono HB1.out.size))
  have HR2 := Lib.hid (HR1.out.below hb2 HR1.out.lt)
  have H5 := Lib.hid h5
  clear hb2 h5 HB1 HR1
  go_wp2_with fail
  refine (of_any 1 w2 (by decide) (by decide)).mono ?_
  rintro e w3 ⟨hb3, f6, C6, i6, j6, rfl, h6⟩
  have HB3 := Lib.hid (HB2.out.trans (hb3.mono HB2.out.size))
  have HR3 := Lib.hid (HR2.out.below hb3 HR2.out.lt)
  have HQ : Hid (RtIs w3 w3.heap.size (parseQ l) f5 C5 i5 j5 f6 C6 i6 j6) := Lib.hid ⟨by rw [HV1.out]; exact H5.out.up hb3, by rw [HD.out]; exact h6⟩
  clear hb3 h6 HB2 HR2 H5
  have z0 := HR3.out.cell 0
  have z1 := HR3.out.cell 1
  have z2 := HR3.out.cell 2
  have z3 := HR3.out.cell 3
  have zf := HR3.out.frozen
  have zl := HR3.out.lt
  go_wp2_with fail
  generalize hW9 : (((w3.setCell ⟨_, 0, none⟩ _).setCell ⟨_, 1, none⟩ _).setCell ⟨_, 2, none⟩ _).setCell ⟨_, 3, none⟩ _ = W9
  have HP9 := Lib.hid (rt_put (e := .returned (.agg #[.bool f5, .slice C5 i5 j5, .bool f6, .slice C6 i6 j6])) HB3.out hgs HR3.out (by simp) (by simp) (by simp) (by simp) HQ.out rfl)
  rw [hW9] at HP9
  have HB9 : Hid (Blk W9 _ 93 #[.bool f5, .slice C5 i5 j5, .bool f6, .slice C6 i6 j6]) := Lib.hid (by rw [← hW9]; exact blk_set4 HR3.out)
  clear hW9 z0 z1 z2 z3 zf zl
  have q0 := HB9.out.cell 0
  have q1 := HB9.out.cell 1
  have q2 := HB9.out.cell 2
  have q3 := HB9.out.cell 3
  exact bodyPost_ret (v := .agg #[.bool f5, .slice C5 i5 j5, .bool f6, .slice C6 i6 j6]) (by simp [results, Tryz.results94, go_sem, q0, q1, q2, q3]) rfl HP9.out
 | true =>
  have HD : Hid (((parseQ l).den : Int) = rdZ false (rtD l)) := Lib.hid (by rw [HV2.out]; unfold denL; rw [HI.out]; rfl)
  go_wp2_with fail
  refine (C1.out w1).mono ?_
  rintro e w2 ⟨hb2, f5, C5, i5, j5, rfl, h5⟩
  have HB2 := Lib.hid (HB1.out.trans (hb2.mono HB1.out.size))
  have HR2 := Lib.hid (HR1.out.below hb2 HR1.out.lt)
  have H5 := Lib.hid h5
  clear hb2 h5 HB1 HR1
  go_wp2_with fail
  refine (C2.out w2).mono ?_
  rintro e w3 ⟨hb3, f6, C6, i6, j6, rfl, h6⟩
  have HB3 := Lib.hid (HB2.out.trans (hb3.mono HB2.out.size))
  have HR3 := Lib.hid (HR2.out.below hb3 HR2.out.lt)
  have HQ : Hid (RtIs w3 w3.heap.size (parseQ l) f5 C5 i5 j5 f6 C6 i6 j6) := Lib.hid ⟨by rw [HV1.out]; exact H5.out.up hb3, by rw [HD.out]; exact h6⟩
  clear hb3 h6 HB2 HR2 H5
  have z0 := HR3.out.cell 0
  have z1 := HR3.out.cell 1
  have z2 := HR3.out.cell 2
  have z3 := HR3.out.cell 3
  have zf := HR3.out.frozen
  have zl := HR3.out.lt
  go_wp2_with fail
  generalize hW9 : (((w3.setCell ⟨_, 0, none⟩ _).setCell ⟨_, 1, none⟩ _).setCell ⟨_, 2, none⟩ _).setCell ⟨_, 3, none⟩ _ = W9
  have HP9 := Lib.hid (rt_put (e := .returned (.agg #[.bool f5, .slice C5 i5 j5, .bool f6, .slice C6 i6 j6])) HB3.out hgs HR3.out (by simp) (by simp) (by simp) (by simp) HQ.out rfl)
  rw [hW9] at HP9
  have HB9 : Hid (Blk W9 _ 93 #[.bool f5, .slice C5 i5 j5, .bool f6, .slice C6 i6 j6]) := Lib.hid (by rw [← hW9]; exact blk_set4 HR3.out)
  clear hW9 z0 z1 z2 z3 zf zl
  have q0 := HB9.out.cell 0
  have q1 := HB9.out.cell 1
  have q2 := HB9.out.cell 2
  have q3 := HB9.out.cell 3
  exact bodyPost_ret (v := .agg #[.bool f5, .slice C5 i5 j5, .bool f6, .slice C6 i6 j6]) (by simp [results, Tryz.results94, go_sem, q0, q1, q2, q3]) rfl HP9.out
end
section
open Go.ChangeShapes Go.WideShapes Go.ChangeAt Go.RowKit
attribute [local go_sem ↓] execOp_call_val
attribute [local go_sem] callVal_func setCell_drewN alloc_drewN sEq_walk
theorem blk_rv {w : World} {g t i : Nat} {vs : List Rv} (h : Blk w g t (rvs vs).toArray) (hi : i < vs.length) (v : Rv) : Blk ((((w.setCell ⟨g, i * 4, none⟩ (.bool v.b1)).setCell ⟨g, i * 4 + 1, none⟩ (.slice v.A v.n v.c)).setCell ⟨g, i * 4 + 2, none⟩ (.bool v.b2)).setCell ⟨g, i * 4 + 3, none⟩ (.slice v.A2 v.m v.d)) g t (rvs (vs.set i v)).toArray := by
 have key : ∀ (w : World) (l : List Value) (k : Nat) (u : Value), Blk w g t l.toArray → Blk (w.setCell ⟨g, k, none⟩ u) g t (l.set k u).toArray := fun w l k u hb => hb.set_at u (by simp)
 rw [← rvs_set vs i v hi]
 exact key _ _ _ _ (key _ _ _ _ (key _ _ _ _ (key _ _ _ _ h)))
section
variable {w w' : World} {B B' n : Nat} {A : Option Addr} {qs : List Rat}
theorem rdQ_blk {g t : Nat} {vs : List Rv} (h : Blk w g t (rvs vs).toArray) (hn : vs.length = n) (hq : qs.length = n) (hv : ∀ (i : Nat) (q : Rat) (v : Rv), qs[i]? = some q → vs[i]? = some v → RtV w w.heap.size q v) : RdQ w w.heap.size (some ⟨g, 0, none⟩) n qs :=
 ⟨vs, hn, hq, ⟨by rw [rvs_len, hn], fun _ => ⟨g, 0, rfl, h.lt, fun j u hu => by
  rw [show (⟨g, 0 + j, none⟩ : Addr) = ⟨g, j, none⟩ from by simp, h.cell j]
  simpa using hu⟩⟩, hv⟩
end
theorem ckAllR_ok : ∀ {l : List ByteArray}, ckAllR l = 0 ↔ ∀ s ∈ l, ratCk s.data.toList = 0
 | [] => by simp [ckAllR]
 | s :: r => by
  unfold ckAllR
  by_cases h : ratCk s.data.toList = 0
  ·rw [if_pos h, ckAllR_ok]
   simp [h]
  ·rw [if_neg h]
   simp [h]
theorem ckAllR_drop {l : List ByteArray} {k : Nat} {s : ByteArray} (h : l[k]? = some s) : ckAllR (l.drop k) = if ratCk s.data.toList = 0 then ckAllR (l.drop (k + 1)) else ratCk s.data.toList := by
 rw [drop_cons h]; rfl
set_option maxRecDepth 100000 in
set_option maxHeartbeats 4000000 in
theorem ckall_any (A : Option Addr) (n c : Nat) (ss : List ByteArray) (w : World) (hR : RdStr w w.heap.size A n ss) (hs : ∀ s ∈ ss, s.size ≤ maxLen) (hn : n ≤ 9223372036854775807) (ht : TabOk w) :
    Calls Tryz.prog 58 #[.slice A n c] w fun e w' => e = .returned (.int .i64 (ckAllR ss)) ∧ Below w.heap.size w w' := by
 have HR := Lib.hid hR
 have HS := Lib.hid hs
 have HT := Lib.hid ht
 have HL := Lib.hid hR.1
 clear hR hs ht
 go_enter Tryz.func58, Tryz.ntmps58
 go_wp2_with fail
 go_loopw [4, 5, 8] (fun _ _ i wr => ∃ k : Nat, k ≤ n ∧ i = .int .i64 k ∧ ckAllR ss = ckAllR (ss.drop k) ∧ Below w.heap.size w wr) (fun _ _ i _ => n - (intOf i).toNat)
 case atStart => exact ⟨0, by omega, rfl, rfl, Below.refl _ _⟩
 case round =>
  obtain ⟨k, hk, rfl, hgo, hb⟩ := hrel
  have HG := Lib.hid hgo
  have HB := Lib.hid hb
  clear hgo hb
  by_cases hlt : k < n
  ·obtain ⟨s, hs⟩ : ∃ s, ss[k]? = some s := ⟨_, List.getElem?_eq_getElem (by have := HL.out; omega)⟩
   obtain ⟨b, o, hA, hb⟩ := (HR.out.below HB.out (Nat.le_refl _)).form (by omega)
   subst hA
   have hc := (HR.out.below HB.out (Nat.le_refl _)).at_ hs
   have HD := Lib.hid (ckAllR_drop hs)
   have HSZ := Lib.hid (HS.out s (List.mem_of_getElem? hs))
   have hkI : (k : Int) < (n : Int) := by omega
   have HN1 : Hid ((k : Int) + 1 = ((k + 1 : Nat) : Int)) := Lib.hid (by omega)
   have HN2 : Hid (n - (k + 1) < n - k) := Lib.hid (by omega)
   have HSE : (⟨s.data.toList.toArray⟩ : ByteArray) = s := by cases s; simp
   have HC1 := ratck_any s.data.toList (by have := HSZ.out; rw [Lib.size_eq] at this; exact this) wr (HT.out.up HB.out)
   rw [HSE] at HC1
   replace HC1 := Lib.hid HC1
   clear HSE
   clear hs
   go_wp2_with fail
   refine HC1.out.mono ?_
   clear hc HC1
   rintro e w1 ⟨rfl, hb1⟩
   have HB1 := Lib.hid (HB.out.trans (hb1.mono HB.out.size))
   clear hb1 HB
   obtain ⟨r, hr⟩ : ∃ r, ratCk s.data.toList = r := ⟨_, rfl⟩
   rw [hr] at HD ⊢
   clear hr
   by_cases h0 : r = 0
   ·subst h0
    have HE : Hid (ckAllR ss = ckAllR (ss.drop (k + 1))) := Lib.hid (by rw [HG.out, HD.out, if_pos rfl])
    go_wp2_with fail
    go_roundw
    case rel => exact ⟨k + 1, hlt, val_int HN1.out, HE.out, HB1.out⟩
    case measure => exact HN2.out
   ·have HE : Hid (ckAllR ss = r) := Lib.hid (by rw [HG.out, HD.out, if_neg h0])
    have h0b : (r != 0) = true := by simp [h0]
    clear h0
    go_wp2_with fail
    go_ret
    exact ⟨ret_int HE.out.symm, HB1.out⟩
  ·have HE : Hid (ckAllR ss = 0) := Lib.hid (by rw [HG.out, List.drop_eq_nil_of_le (by have := HL.out; omega)]; rfl)
   have hkI : ¬ (k : Int) < (n : Int) := by omega
   go_wp2_with fail
   go_ret
   exact ⟨ret_int HE.out.symm, HB.out⟩
end
section
open Go.ChangeShapes Go.WideShapes Go.ChangeAt Go.RowKit
attribute [local go_sem ↓] execOp_call_val
attribute [local go_sem] callVal_func setCell_drewN alloc_drewN sEq_walk
theorem snoc_at {qs : List Rat} {k : Nat} {q : Rat} (hk : qs.length = k) : ∀ (j : Nat) (q' : Rat), (qs ++ [q])[j]? = some q' → (j = k ∧ q' = q) ∨ (j ≠ k ∧ qs[j]? = some q') := by
 intro j q' h
 by_cases hj : j < k
 ·right
  rw [List.getElem?_append_left (by omega)] at h
  exact ⟨by omega, h⟩
 ·left
  rw [List.getElem?_append_right (by omega)] at h
  have h1 := (List.getElem?_eq_some_iff.1 h).1
  simp at h1
  have : j = k := by omega
  subst this
  rw [hk] at h
  simp at h
  exact ⟨rfl, h.symm⟩
def OutQ (qs : List Rat) (w : World) (e : Ending) (w' : World) : Prop := Below w.heap.size w w' ∧ ∃ A n c, e = .returned (.slice A n c) ∧ RdQ w' w'.heap.size A n qs ∧ n ≤ c ∧ c ≤ maxLen ∧ (0 < n → ∃ b off, A = some ⟨b, off, none⟩ ∧ w.heap.size ≤ b)
set_option maxRecDepth 100000 in
set_option maxHeartbeats 4000000 in
theorem parseall_any (A : Option Addr) (n c : Nat) (ss : List ByteArray) (w : World) (hR : RdStr w w.heap.size A n ss) (hs : ∀ s ∈ ss, ratCk s.data.toList = 0) (hn : n ≤ 1000000) :
    Calls Tryz.prog 62 #[.slice A n c] w (OutQ (ss.map qOf) w) := by
 have HR := Lib.hid hR
 have HS := Lib.hid hs
 have HL := Lib.hid hR.1
 have HNN := Lib.hid hn
 clear hR hs
 have hmk : ∀ w : World, (Instr.makeSlice 103 (.int .i64 (n : Int)) (.int .i64 (n : Int))).run Tryz.prog w = .ok (.slice (some ⟨w.heap.size, 0, none⟩) n n) (w.alloc (.cells (rvs (List.replicate n rv0)).toArray 93)) := fun w => make_rat n hn w
 have HK := Lib.hid ((Below.refl w.heap.size w).alloc (Nat.le_refl _) (.cells (rvs (List.replicate n rv0)).toArray 93))
 have HG := Lib.hid (Blk.new w 93 (rvs (List.replicate n rv0)).toArray)
 go_enter Tryz.func62, Tryz.ntmps62
 go_wp2_with fail
 clear hmk
 generalize w.alloc (.cells (rvs (List.replicate n rv0)).toArray 93) = W at *
 generalize hg : w.heap.size = g at *
 have HGS := Lib.hid hg
 clear hg
 go_loopw [11] (fun v11 wr => ∃ (k : Nat) (vs : List Rv), k ≤ n ∧ v11 = .int .i64 k ∧ vs.length = n ∧ Below g w wr ∧ Blk wr g 93 (rvs vs).toArray ∧ RvOk wr vs ((ss.map qOf).take k)) (fun v11 _ => n - (intOf v11).toNat)
 case atStart => exact ⟨0, _, by omega, rfl, List.length_replicate, HK.out, HG.out, fun i q v h => by simp at h⟩
 case round =>
  clear HK HG
  obtain ⟨k, vs, hk, rfl, hvl, hb, hg, hI⟩ := hrel
  have HK := Lib.hid hb
  have HG := Lib.hid hg
  have HI := Lib.hid hI
  have HVL := Lib.hid hvl
  clear hb hg hI hvl
  by_cases hlt : k < n
  ·obtain ⟨s, hs⟩ : ∃ s, ss[k]? = some s := ⟨_, List.getElem?_eq_getElem (by have := HL.out; omega)⟩
   obtain ⟨b, o, hA, hb⟩ := (HR.out.below HK.out (by have := HGS.out; omega)).form (by omega)
   subst hA
   have hc := (HR.out.below HK.out (by have := HGS.out; omega)).at_ hs
   have hkI : (k : Int) < (n : Int) := by omega
   have HN1 : Hid ((k : Int) + 1 = ((k + 1 : Nat) : Int)) := Lib.hid (by omega)
   have HN2 : Hid (n - (k + 1) < n - k) := Lib.hid (by omega)
   have HSE : (⟨s.data.toList.toArray⟩ : ByteArray) = s := by cases s; simp
   have HC1 := fun w => parse_any s.data.toList (HS.out s (List.mem_of_getElem? hs)) w
   rw [HSE] at HC1
   replace HC1 := Lib.hid HC1
   have HQ : Hid ((ss.map qOf).take (k + 1) = (ss.map qOf).take k ++ [parseQ s.data.toList]) := Lib.hid (take_snoc (by rw [List.getElem?_map, hs]; rfl))
   clear HSE hs
   have hbl : b < wr.heap.size := by have := HK.out.size; have := HGS.out; omega
   go_wp2_with fail
   refine (HC1.out wr).mono ?_
   clear hc HC1
   rintro e w1 ⟨hb1, f, C, i, j, f2, C2, i2, j2, rfl, h1⟩
   have HK1 := Lib.hid (HK.out.trans (hb1.mono (Nat.le_of_lt HG.out.lt)))
   have HG1 := Lib.hid (HG.out.below hb1 HG.out.lt)
   have HI1 := Lib.hid (HI.out.up hb1)
   have HV := Lib.hid h1
   clear hb1 h1 HK HG HI
   obtain ⟨x, hx⟩ : ∃ x, vs[k]? = some x := ⟨_, List.getElem?_eq_getElem (by have := HVL.out; omega)⟩
   obtain ⟨c0, c1, c2, c3⟩ := rv_cell HG1.out hx
   have hgf := HG1.out.frozen
   have hgl := HG1.out.lt
   have HX := Lib.hid hx
   clear hx
   go_wp2_with fail
   go_roundw
   case rel => exact ⟨k + 1, vs.set k ⟨f, C, i, j, f2, C2, i2, j2⟩, hlt, val_int HN1.out, by rw [List.length_set]; exact HVL.out, below_putV (v := ⟨f, C, i, j, f2, C2, i2, j2⟩) HK1.out (Nat.le_refl _), blk_rv HG1.out (List.getElem?_eq_some_iff.1 HX.out).1 ⟨f, C, i, j, f2, C2, i2, j2⟩, by
    rw [HQ.out]
    exact RvOk.put (v := ⟨f, C, i, j, f2, C2, i2, j2⟩) HI1.out HG1.out HX.out HV.out (snoc_at (by rw [List.length_take, List.length_map, HL.out]; omega))⟩
   case measure => exact HN2.out
  ·have hke : k = n := by omega
   subst hke
   have hkI : ¬ (k : Int) < (k : Int) := by omega
   go_wp2_with fail
   go_ret
   exact ⟨by rw [HGS.out]; exact HK.out, _, _, _, rfl, by
    have h := HI.out
    rw [List.take_of_length_le (by rw [List.length_map, HL.out]; exact Nat.le_refl _)] at h
    exact rdQ_blk HG.out HVL.out (by rw [List.length_map, HL.out]) h, Nat.le_refl _, by have := HNN.out; unfold maxLen; omega, fun _ => ⟨_, _, rfl, by rw [HGS.out]; exact Nat.le_refl _⟩⟩
theorem info_ratt : (Tryz.prog.info? 37).map (fun i => (i.zero, i.size, i.bytes)) = some (some (.string ⟨#[]⟩), 1, 16) := by kernel_rfl
theorem str_made (n : Nat) : madeCells #[Value.string ⟨#[]⟩] n = (strsV (List.replicate n ⟨#[]⟩)).toArray := by
 apply Array.ext'
 rw [toList_madeCells_one]
 unfold strsV; simp
theorem make_ratt (n : Nat) (hn : n ≤ 1000000) (w : World) : (Instr.makeSlice 22 (.int .i64 (n : Int)) (.int .i64 (n : Int))).run Tryz.prog w = .ok (.slice (some ⟨w.heap.size, 0, none⟩) n n) (w.alloc (.cells (strsV (List.replicate n ⟨#[]⟩)).toArray 37)) := by
 rw [run_make_row' (P := Tryz.prog) 22 37 (.string ⟨#[]⟩) 16 Tryz.underlying22 info_ratt rfl .i64 .i64 n (by omega) (by omega) w, str_made]
def TxtsP (qs : List Rat) (w : World) (e : Ending) (w' : World) : Prop := Below w.heap.size w w' ∧ ((∀ q ∈ qs, Fits q) → ∃ A n c, e = .returned (.tuple #[.slice A n c, .bool true]) ∧ RdStr w' w'.heap.size A n (qs.map txtQ) ∧ n ≤ c ∧ c ≤ maxLen) ∧ (¬ (∀ q ∈ qs, Fits q) → e = .returned (.tuple #[.slice none 0 0, .bool false]))
set_option maxRecDepth 100000 in
set_option maxHeartbeats 4000000 in
theorem texts_any (A : Option Addr) (n c : Nat) (qs : List Rat) (w : World) (hR : RdQ w w.heap.size A n qs) (hn : n ≤ 1000000) (ht : TabOk w) :
    Calls Tryz.prog 95 #[.slice A n c] w (TxtsP qs w) := by
 have HR := Lib.hid hR
 have HL := Lib.hid hR.len
 have HNN := Lib.hid hn
 have HT := Lib.hid ht
 clear hR ht
 have hmk : ∀ w : World, (Instr.makeSlice 22 (.int .i64 (n : Int)) (.int .i64 (n : Int))).run Tryz.prog w = .ok (.slice (some ⟨w.heap.size, 0, none⟩) n n) (w.alloc (.cells (strsV (List.replicate n ⟨#[]⟩)).toArray 37)) := fun w => make_ratt n hn w
 have HK := Lib.hid ((Below.refl w.heap.size w).alloc (Nat.le_refl _) (.cells (strsV (List.replicate n ⟨#[]⟩)).toArray 37))
 have HG := Lib.hid (Blk.new w 37 (strsV (List.replicate n ⟨#[]⟩)).toArray)
 go_enter Tryz.func95, Tryz.ntmps95
 go_wp2_with fail
 clear hmk
 generalize w.alloc (.cells (strsV (List.replicate n ⟨#[]⟩)).toArray 37) = W at *
 generalize hg : w.heap.size = g at *
 have HGS := Lib.hid hg
 clear hg
 go_loopw [14] (fun v14 wr => ∃ (k : Nat) (ts : List ByteArray), k ≤ n ∧ v14 = .int .i64 k ∧ ts.length = n ∧ Below g w wr ∧ Blk wr g 37 (strsV ts).toArray ∧ (∀ (i : Nat) (q : Rat), i < k → qs[i]? = some q → Fits q ∧ ts[i]? = some (txtQ q))) (fun v14 _ => n - (intOf v14).toNat)
 case atStart => exact ⟨0, _, by omega, rfl, List.length_replicate, HK.out, HG.out, fun i q h => by omega⟩
 case round =>
  clear HK HG
  obtain ⟨k, ts, hk, rfl, hvl, hb, hg, hI⟩ := hrel
  have HK := Lib.hid hb
  have HG := Lib.hid hg
  have HI := Lib.hid hI
  have HVL := Lib.hid hvl
  clear hb hg hI hvl
  by_cases hlt : k < n
  ·obtain ⟨q, hq⟩ : ∃ q, qs[k]? = some q := ⟨_, List.getElem?_eq_getElem (by have := HL.out; omega)⟩
   obtain ⟨b, o, hA, hb⟩ := (HR.out.below HK.out (by have := HGS.out; omega)).form (by omega)
   subst hA
   obtain ⟨v, c0, c1, c2, c3, hV⟩ := (HR.out.below HK.out (by have := HGS.out; omega)).at_ hq
   have HQ := Lib.hid hq
   have HV := Lib.hid hV
   have hkI : (k : Int) < (n : Int) := by omega
   have HN1 : Hid ((k : Int) + 1 = ((k + 1 : Nat) : Int)) := Lib.hid (by omega)
   have HN2 : Hid (n - (k + 1) < n - k) := Lib.hid (by omega)
   have hbl : b < wr.heap.size := by have := HK.out.size; have := HGS.out; omega
   clear hq hV
   go_wp2_with fail
   generalize hwa : wr.alloc (.cells #[.bool v.b1, .slice v.A v.n v.c, .bool v.b2, .slice v.A2 v.m v.d] 93) = wa at *
   have hb0 : Below wr.heap.size wr wa := by rw [← hwa]; exact (Below.refl _ _).alloc (Nat.le_refl _) _
   clear hwa
   refine (rtext_any q v.b1 v.A v.n v.c v.b2 v.A2 v.m v.d wa ((RtIs.below HV.out hb0 (by have := HGS.out; have := HG.out.lt; omega)).more (by have := hb0.size; have := HGS.out; have := HG.out.lt; omega)) (HT.out.up (by rw [HGS.out]; exact HK.out.trans (hb0.mono (Nat.le_of_lt HG.out.lt))))).mono ?_
   clear c0 c1 c2 c3
   rintro e w1 ⟨hb1, s, rfl, hs⟩
   have hb2 := hb0.trans (hb1.mono hb0.size)
   have HK1 := Lib.hid (HK.out.trans (hb2.mono (Nat.le_of_lt HG.out.lt)))
   have HG1 := Lib.hid (HG.out.below hb2 HG.out.lt)
   have HS := Lib.hid hs
   clear hb0 hb1 hb2 hs HK HG
   have hgf := HG1.out.frozen
   have hgl := HG1.out.lt
   obtain ⟨y, hy⟩ : ∃ y, ts[k]? = some y := ⟨_, List.getElem?_eq_getElem (by have := HVL.out; omega)⟩
   have hgc : w1.cell? ⟨g, k, none⟩ = some (.string y) := by rw [HG1.out.cell k]; unfold strsV; simp [hy]
   clear hy
   by_cases hf : Fits q
   ·have HF := Lib.hid hf
    rw [decide_eq_true hf]
    clear hf
    go_wp2_with fail
    go_roundw
    case rel => exact ⟨k + 1, ts.set k s, hlt, val_int HN1.out, by rw [List.length_set]; exact HVL.out, HK1.out.setCell (Nat.le_refl _) _, HG1.out.set_at _ (by unfold strsV; rw [List.map_set]; simp), fun i q' hi hq' => by
     by_cases hik : i = k
     ·subst hik
      rw [HQ.out] at hq'
      injection hq' with hq'
      subst hq'
      refine ⟨HF.out, ?_⟩
      rw [List.getElem?_set_self (by have := HVL.out; omega), HS.out HF.out]
      rfl
     ·rw [List.getElem?_set_ne (by omega)]
      exact HI.out i q' (by omega) hq'⟩
    case measure => exact HN2.out
   ·have HF := Lib.hid hf
    rw [decide_eq_false hf]
    clear hf
    go_wp2_with fail
    go_ret2
    exact ⟨by rw [HGS.out]; exact HK1.out, fun h => absurd (h q (List.mem_of_getElem? HQ.out)) HF.out, fun _ => rfl⟩
  ·have hke : k = n := by omega
   subst hke
   have hkI : ¬ (k : Int) < (k : Int) := by omega
   go_wp2_with fail
   go_ret2
   have hts : ts = qs.map txtQ := by
    apply List.ext_getElem?
    intro i
    by_cases hi : i < k
    ·obtain ⟨q, hq⟩ : ∃ q, qs[i]? = some q := ⟨_, List.getElem?_eq_getElem (by have := HL.out; omega)⟩
     rw [(HI.out i q hi hq).2, List.getElem?_map, hq]; rfl
    ·rw [List.getElem?_eq_none (by have := HVL.out; omega), List.getElem?_eq_none (by rw [List.length_map, HL.out]; omega)]
   have hfit : ∀ q ∈ qs, Fits q := fun q hq => by
    obtain ⟨i, hi⟩ := List.getElem?_of_mem hq
    exact (HI.out i q (by have := (List.getElem?_eq_some_iff.1 hi).1; have := HL.out; omega) hi).1
   exact ⟨by rw [HGS.out]; exact HK.out, fun _ => ⟨_, _, _, rfl, by rw [← hts]; have h := rdStr_lit HG.out HG.out.lt; rw [HVL.out] at h; exact h, Nat.le_refl _, by have := HNN.out; unfold maxLen; omega⟩, fun h => absurd hfit h⟩
end
section
open Go.ChangeShapes Go.WideShapes Go.ChangeAt Go.RowKit
attribute [local go_sem ↓] execOp_call_val
attribute [local go_sem] callVal_func setCell_drewN alloc_drewN sEq_walk
def TvP (qs : List Rat) (w : World) (e : Ending) (w' : World) : Prop := Below w.heap.size w w' ∧ ((∀ q ∈ qs, Fits q) → ∃ A n c, e = .returned (.tuple #[.slice A n c, .int .i64 0]) ∧ RdStr w' w'.heap.size A n (qs.map txtQ) ∧ n ≤ c ∧ c ≤ maxLen) ∧ (¬ (∀ q ∈ qs, Fits q) → e = .returned (.tuple #[.slice none 0 0, .int .i64 2]))
set_option maxRecDepth 100000 in
set_option maxHeartbeats 4000000 in
theorem textvec_any (A : Option Addr) (n c : Nat) (qs : List Rat) (w : World) (hR : RdQ w w.heap.size A n qs) (hn : n ≤ 1000000) (ht : TabOk w) :
    Calls Tryz.prog 56 #[.slice A n c] w (TvP qs w) := by
 have HC := Lib.hid (texts_any A n c qs w hR hn ht)
 clear hR ht
 go_enter Tryz.func56, Tryz.ntmps56
 go_wp2_with fail
 refine HC.out.mono ?_
 rintro e w1 ⟨hb, h1, h2⟩
 have HB := Lib.hid hb
 by_cases hf : ∀ q ∈ qs, Fits q
 ·obtain ⟨C, m, d, rfl, h3, h4, h5⟩ := h1 hf
  have H3 := Lib.hid h3
  have HF := Lib.hid hf
  clear hf h1 h2 h3 hb HC
  go_wp2_with fail
  go_ret2
  exact ⟨HB.out, fun _ => ⟨_, _, _, rfl, H3.out, h4, h5⟩, fun h => absurd HF.out h⟩
 ·have he := h2 hf
  subst he
  have HF := Lib.hid hf
  clear hf h1 h2 hb HC
  go_wp2_with fail
  go_ret2
  exact ⟨HB.out, fun h => absurd h HF.out, fun _ => rfl⟩
set_option maxRecDepth 100000 in
set_option maxHeartbeats 4000000 in
theorem rattext_any (q : Rat) (b1 : Bool) (A : Option Addr) (n c : Nat) (b2 : Bool) (A2 : Option Addr) (n2 c2 : Nat) (w : World) (h1 : RtIs w w.heap.size q b1 A n c b2 A2 n2 c2) (ht : TabOk w) :
    Calls Tryz.prog 127 #[.agg #[.bool b1, .slice A n c, .bool b2, .slice A2 n2 c2]] w (RnP q w) := by
 have HB0 : Hid (Below w.heap.size w (w.alloc (.cells #[.bool b1, .slice A n c, .bool b2, .slice A2 n2 c2] 93))) := Lib.hid ((Below.refl _ _).alloc (Nat.le_refl _) _)
 have HX1 := Lib.hid (Blk.new w 93 #[.bool b1, .slice A n c, .bool b2, .slice A2 n2 c2])
 have HC := Lib.hid (rtext_any q b1 A n c b2 A2 n2 c2 _ (h1.up HB0.out) (ht.up HB0.out))
 clear h1 ht
 go_enter Tryz.func127, Tryz.ntmps127
 go_upto_region 1 with fail
 generalize w.alloc (.cells #[.bool b1, .slice A n c, .bool b2, .slice A2 n2 c2] 93) = W at *
 have c0 := HX1.out.cell 0
 have c1 := HX1.out.cell 1
 have c2' := HX1.out.cell 2
 have c3 := HX1.out.cell 3
 go_wp2_with fail
 refine HC.out.mono ?_
 clear c0 c1 c2' c3 HC
 rintro e w1 ⟨hb, s, rfl, hs⟩
 have HB := Lib.hid (HB0.out.trans (hb.mono HB0.out.size))
 have HS := Lib.hid hs
 clear hb hs HB0
 by_cases hf : Fits q
 ·have HF := Lib.hid hf
  rw [decide_eq_true hf]
  clear hf
  go_wp2_with fail
  go_ret2
  exact ⟨HB.out, fun h => by rw [HS.out h]; rfl, fun h => absurd HF.out h⟩
 ·have HF := Lib.hid hf
  rw [decide_eq_false hf]
  clear hf
  go_wp2_with fail
  go_ret2
  exact ⟨HB.out, fun h => absurd h HF.out, fun _ => rfl⟩
end
section
open Go.ChangeShapes Go.WideShapes Go.ChangeAt Go.RowKit
attribute [local go_sem ↓] execOp_call_val
attribute [local go_sem] callVal_func setCell_drewN alloc_drewN sEq_walk
theorem dlen_ndg {n K : Nat} (h : ndg n ≤ K) : dlen n ≤ K := by
 refine dlen_le (Nat.lt_of_lt_of_le (lt_ndg n) ?_)
 refine Nat.le_trans (pow_mono10 h) ?_
 unfold BB
 exact Nat.pow_le_pow_left (by decide) _
theorem dlen_dec {n : Nat} (h : ndg n ≤ 2000) : dlen n ≤ 2000 := dlen_ndg h
theorem fits_qsz {q : Rat} (h : Fits q) : qsz q ≤ 2000 := Nat.max_le.2 ⟨dlen_dec h.1, dlen_dec h.2⟩
theorem valid_fits {s : ByteArray} (h : ratCk s.data.toList = 0) : Fits (qOf s) := (valid_parse h).2.2.2.1
theorem valid_txt {s : ByteArray} (h : ratCk s.data.toList = 0) : txtQ (qOf s) = s := by
 unfold txtQ qOf
 rw [(valid_parse h).2.2.1]
theorem data_list (s : ByteArray) : (⟨s.data.toList.toArray⟩ : ByteArray) = s := by cases s; simp
theorem parse_str {s : ByteArray} (h : ratCk s.data.toList = 0) (w : World) : Calls Tryz.prog 94 #[.string s] w (RtP (qOf s) w) := by
 have := parse_any s.data.toList h w
 rwa [data_list] at this
set_option maxRecDepth 100000 in
set_option maxHeartbeats 4000000 in
theorem ratop_any (F : FuncId) (f : Rat → Rat → Rat) (hF : ∀ (args : Array Value) (w : World), (callFunc F args).run Tryz.prog w = .ok (.enter F args) w)
    (hf : ∀ (p q : Rat) (b1 : Bool) (A : Option Addr) (n c : Nat) (b2 : Bool) (A2 : Option Addr) (n2 c2 : Nat) (b3 : Bool) (B : Option Addr) (m d : Nat) (b4 : Bool) (B2 : Option Addr) (m2 d2 : Nat) (w : World), RtIs w w.heap.size p b1 A n c b2 A2 n2 c2 → RtIs w w.heap.size q b3 B m d b4 B2 m2 d2 → Fits p → Fits q →
     Calls Tryz.prog F #[.agg #[.bool b1, .slice A n c, .bool b2, .slice A2 n2 c2], .agg #[.bool b3, .slice B m d, .bool b4, .slice B2 m2 d2]] w (RtP (f p q) w))
    (a b : ByteArray) (ha : a.size ≤ maxLen) (hb : b.size ≤ maxLen) (w : World) (ht : TabOk w) :
    Calls Tryz.prog 96 #[.string a, .string b, .func (.func F) #[] #[]] w (OpP f a b w) := by
 have HF := Lib.hid hf
 have HB0 : Hid (Below w.heap.size w (w.alloc (.cells #[.string a, .string b] 37))) := Lib.hid ((Below.refl _ _).alloc (Nat.le_refl _) _)
 have HX1 := Lib.hid (Blk.new w 37 #[.string a, .string b])
 have HA := Lib.hid (show ∀ s ∈ [a, b], s.size ≤ maxLen from fun s hs => by simp at hs; rcases hs with rfl | rfl <;> assumption)
 have HT := Lib.hid ht
 clear hf ha hb ht
 go_enter Tryz.func96, Tryz.ntmps96
 go_wp2_with fail
 generalize hwa : w.alloc (.cells #[.string a, .string b] 37) = wa at *
 have HTA := Lib.hid (HT.out.up HB0.out)
 have hrd : RdStr wa wa.heap.size (some ⟨w.heap.size, 0, none⟩) 2 [a, b] := rdStr_lit HX1.out HX1.out.lt
 clear hwa
 refine (ckall_any (some ⟨w.heap.size, 0, none⟩) 2 2 [a, b] wa hrd HA.out (by decide) HTA.out).mono ?_
 clear hrd
 rintro e w1 ⟨he, hb1⟩
 have HB1 := Lib.hid (HB0.out.trans (hb1.mono HB0.out.size))
 have HT1 := Lib.hid (HTA.out.up hb1)
 clear hb1 HB0 HTA HX1
 by_cases h0 : ckAllR [a, b] = 0
 ·have hv := ckAllR_ok.1 h0
  have HVA := Lib.hid (hv a (by simp))
  have HVB := Lib.hid (hv b (by simp))
  have H0 := Lib.hid h0
  rw [h0] at he
  subst he
  clear hv h0
  go_wp2_with fail
  refine (parse_str HVA.out w1).mono ?_
  rintro e w2 ⟨hb2, f1, C1, i1, j1, g1, D1, k1, l1, rfl, h1⟩
  have HB2 := Lib.hid (HB1.out.trans (hb2.mono HB1.out.size))
  have HT2 := Lib.hid (HT1.out.up hb2)
  have H1 := Lib.hid h1
  clear hb2 h1 HB1 HT1
  go_wp2_with fail
  refine (parse_str HVB.out w2).mono ?_
  rintro e w3 ⟨hb3, f2, C2, i2, j2, g2, D2, k2, l2, rfl, h2⟩
  have HB3 := Lib.hid (HB2.out.trans (hb3.mono HB2.out.size))
  have HT3 := Lib.hid (HT2.out.up hb3)
  have H1 := Lib.hid (H1.out.up hb3)
  have H2 := Lib.hid h2
  clear hb3 h2 HB2 HT2
  go_wp2_with fail
  refine (HF.out _ _ f1 C1 i1 j1 g1 D1 k1 l1 f2 C2 i2 j2 g2 D2 k2 l2 w3 H1.out H2.out (valid_fits HVA.out) (valid_fits HVB.out)).mono ?_
  rintro e w4 ⟨hb4, f3, C3, i3, j3, g3, D3, k3, l3, rfl, h3⟩
  have HB4 := Lib.hid (HB3.out.trans (hb4.mono HB3.out.size))
  have HT4 := Lib.hid (HT3.out.up hb4)
  have H3 := Lib.hid h3
  clear hb4 h3 HB3 HT3 H1 H2
  go_wp2_with fail
  refine (rattext_any _ f3 C3 i3 j3 g3 D3 k3 l3 w4 H3.out HT4.out).mono ?_
  rintro e w5 ⟨hb5, hy, hn⟩
  have HB5 := Lib.hid (HB4.out.trans (hb5.mono HB4.out.size))
  clear hb5 HB4 HT4 H3
  by_cases hf : Fits (f (qOf a) (qOf b))
  ·have he := hy hf
   have HFI := Lib.hid hf
   subst he
   clear hy hn hf
   go_wp2_with fail
   go_ret2
   exact ⟨HB5.out, fun h => absurd H0.out h, fun _ => ⟨HB5.out, fun _ => rfl, fun h => absurd HFI.out h⟩⟩
  ·have he := hn hf
   have HFI := Lib.hid hf
   subst he
   clear hy hn hf
   go_wp2_with fail
   go_ret2
   exact ⟨HB5.out, fun h => absurd H0.out h, fun _ => ⟨HB5.out, fun h => absurd h HFI.out, fun _ => rfl⟩⟩
 ·obtain ⟨z, hz⟩ : ∃ z, ckAllR [a, b] = z := ⟨_, rfl⟩
  have HZ := Lib.hid hz
  rw [hz] at he h0
  subst he
  have H0 := Lib.hid h0
  have h0b : (z != 0) = true := by simp [h0]
  clear hz h0
  go_wp2_with fail
  go_ret2
  exact ⟨HB1.out, fun _ => by rw [HZ.out]; rfl, fun h => absurd (HZ.out.symm.trans h) H0.out⟩
theorem fits_two {p q : Rat} (hp : Fits p) (hq : Fits q) : qsz p + qsz q + 1 ≤ 35184372088832 := by
 have := fits_qsz hp
 have := fits_qsz hq
 omega
set_option maxRecDepth 100000 in
set_option maxHeartbeats 4000000 in
theorem ratadd_any (a b : ByteArray) (ha : a.size ≤ maxLen) (hb : b.size ≤ maxLen) (w : World) (ht : TabOk w) :
    Calls Tryz.prog 57 #[.string a, .string b] w (OpP (fun p q => p + q) a b w) := by
 have HC := Lib.hid (ratop_any 51 (fun p q => p + q) (callFunc_enter Tryz.func51 (by kernel_rfl) rfl) (fun p q b1 A n c b2 A2 n2 c2 b3 B m d b4 B2 m2 d2 w h1 h2 hp hq => radd_any p q b1 A n c b2 A2 n2 c2 b3 B m d b4 B2 m2 d2 w h1 h2 (fits_two hp hq)) a b ha hb w ht)
 clear ha hb ht
 go_enter Tryz.func57, Tryz.ntmps57
 go_wp2_with fail
 refine HC.out.mono ?_
 rintro e w1 ⟨hb, h1, h2⟩
 have HB := Lib.hid hb
 clear hb HC
 by_cases h0 : ckAllR [a, b] = 0
 ·have hr := h2 h0
  have H0 := Lib.hid h0
  clear h1 h2 h0
  obtain ⟨_, hy, hn⟩ := hr
  by_cases hf : Fits ((fun p q : Rat => p + q) (qOf a) (qOf b))
  ·have he := hy hf
   have HFI := Lib.hid hf
   subst he
   clear hy hn hf
   go_wp2_with fail
   go_ret2
   exact ⟨HB.out, fun h => absurd H0.out h, fun _ => ⟨HB.out, fun _ => rfl, fun h => absurd HFI.out h⟩⟩
  ·have he := hn hf
   have HFI := Lib.hid hf
   subst he
   clear hy hn hf
   go_wp2_with fail
   go_ret2
   exact ⟨HB.out, fun h => absurd H0.out h, fun _ => ⟨HB.out, fun h => absurd h HFI.out, fun _ => rfl⟩⟩
 ·have he := h1 h0
  have H0 := Lib.hid h0
  subst he
  clear h0 h1 h2
  go_wp2_with fail
  go_ret2
  exact ⟨HB.out, fun _ => rfl, fun h => absurd h H0.out⟩
set_option maxRecDepth 100000 in
set_option maxHeartbeats 4000000 in
theorem ratmul_any (a b : ByteArray) (ha : a.size ≤ maxLen) (hb : b.size ≤ maxLen) (w : World) (ht : TabOk w) :
    Calls Tryz.prog 65 #[.string a, .string b] w (OpP (fun p q => p * q) a b w) := by
 have HC := Lib.hid (ratop_any 53 (fun p q => p * q) (callFunc_enter Tryz.func53 (by kernel_rfl) rfl) (fun p q b1 A n c b2 A2 n2 c2 b3 B m d b4 B2 m2 d2 w h1 h2 hp hq => rmul_any p q b1 A n c b2 A2 n2 c2 b3 B m d b4 B2 m2 d2 w h1 h2 (fits_two hp hq)) a b ha hb w ht)
 clear ha hb ht
 go_enter Tryz.func65, Tryz.ntmps65
 go_wp2_with fail
 refine HC.out.mono ?_
 rintro e w1 ⟨hb, h1, h2⟩
 have HB := Lib.hid hb
 clear hb HC
 by_cases h0 : ckAllR [a, b] = 0
 ·have hr := h2 h0
  have H0 := Lib.hid h0
  clear h1 h2 h0
  obtain ⟨_, hy, hn⟩ := hr
  by_cases hf : Fits ((fun p q : Rat => p * q) (qOf a) (qOf b))
  ·have he := hy hf
   have HFI := Lib.hid hf
   subst he
   clear hy hn hf
   go_wp2_with fail
   go_ret2
   exact ⟨HB.out, fun h => absurd H0.out h, fun _ => ⟨HB.out, fun _ => rfl, fun h => absurd HFI.out h⟩⟩
  ·have he := hn hf
   have HFI := Lib.hid hf
   subst he
   clear hy hn hf
   go_wp2_with fail
   go_ret2
   exact ⟨HB.out, fun h => absurd H0.out h, fun _ => ⟨HB.out, fun h => absurd h HFI.out, fun _ => rfl⟩⟩
 ·have he := h1 h0
  have H0 := Lib.hid h0
  subst he
  clear h0 h1 h2
  go_wp2_with fail
  go_ret2
  exact ⟨HB.out, fun _ => rfl, fun h => absurd h H0.out⟩
end
section
open Go.ChangeShapes Go.WideShapes Go.ChangeAt Go.RowKit
attribute [local go_sem ↓] execOp_call_val
attribute [local go_sem] callVal_func setCell_drewN alloc_drewN sEq_walk
theorem two_valid {a b : ByteArray} (ha : ratCk a.data.toList = 0) (hb : ratCk b.data.toList = 0) : ckAllR [a, b] = 0 := ckAllR_ok.2 fun s hs => by
 simp at hs; rcases hs with rfl | rfl <;> assumption
theorem opS_ok {f : Rat → Rat → Rat} {a b : ByteArray} (ha : ratCk a.data.toList = 0) (hb : ratCk b.data.toList = 0) : opS f a b = rnS (f (qOf a) (qOf b)) := by unfold opS; rw [if_pos (two_valid ha hb)]
theorem txt_valid {q : Rat} (h : Fits q) : ratCk (txtQ q).data.toList = 0 ∧ qOf (txtQ q) = q := by
 have := text_valid h
 unfold txtQ qOf
 simpa using this
theorem textL_le (z : Int) : (textL z).length ≤ ndg z.natAbs + 1 := by
 unfold textL ndg
 rw [List.length_append]
 split <;> simp <;> omega
theorem txt_size {q : Rat} (h : Fits q) : (txtQ q).size ≤ 4002 := by
 rw [Lib.size_eq]
 unfold txtQ textQ
 have h1 := textL_le q.num
 obtain ⟨h2, h3⟩ := h
 unfold ndg at h3
 simp only [List.length_append]
 split <;> simp <;> omega
set_option maxRecDepth 100000 in
set_option maxHeartbeats 4000000 in
theorem plus_any (a b : ByteArray) (ha : a.size ≤ maxLen) (hb : b.size ≤ maxLen) (w : World) (ht : TabOk w) :
    Calls Tryz.prog 20 #[.string a, .string b] w (fun e w' => e = .returned (.string (opS (fun p q => p + q) a b)) ∧ Below w.heap.size w w') := by
 have HC := Lib.hid (ratadd_any a b ha hb w ht)
 clear ha hb ht
 go_enter Tryz.func20, Tryz.ntmps20
 go_wp2_with fail
 refine HC.out.mono ?_
 intro e w1 h
 obtain ⟨rfl, hb⟩ := h.out
 clear h HC
 have HB := Lib.hid hb
 clear hb
 generalize hs : opS (fun p q => p + q) a b = s
 have HS := Lib.hid hs
 clear hs
 generalize opE (fun p q => p + q) a b = z
 go_wp2_with fail
 go_ret
 exact ⟨by rw [HS.out]; rfl, HB.out⟩
set_option maxRecDepth 100000 in
set_option maxHeartbeats 4000000 in
theorem times_any (a b : ByteArray) (ha : a.size ≤ maxLen) (hb : b.size ≤ maxLen) (w : World) (ht : TabOk w) :
    Calls Tryz.prog 25 #[.string a, .string b] w (fun e w' => e = .returned (.string (opS (fun p q => p * q) a b)) ∧ Below w.heap.size w w') := by
 have HC := Lib.hid (ratmul_any a b ha hb w ht)
 clear ha hb ht
 go_enter Tryz.func25, Tryz.ntmps25
 go_wp2_with fail
 refine HC.out.mono ?_
 intro e w1 h
 obtain ⟨rfl, hb⟩ := h.out
 clear h HC
 have HB := Lib.hid hb
 clear hb
 generalize hs : opS (fun p q => p * q) a b = s
 have HS := Lib.hid hs
 clear hs
 generalize opE (fun p q => p * q) a b = z
 go_wp2_with fail
 go_ret
 exact ⟨by rw [HS.out]; rfl, HB.out⟩
end
end Go.Proofs.YtakllkkmofdpaaaGreatDoor
