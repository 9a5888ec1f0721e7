/- The parser of package relaylang: factor. -/
import Derived.Test.YtaanoljfhnfjoaaGreatDoorRF7
namespace Go.Proofs.YtaanoljfhnfjoaaGreatDoor
open Go.ChangeShapes Go.WideShapes Go.ChangeAt Go.RowKit
set_option linter.unusedVariables false
set_option linter.unusedSimpArgs false
attribute [local go_sem ↓] execOp_call_val
attribute [local go_sem] callVal_func setCell_drewN alloc_drewN sEq_walk

/-- what is still to be read, or that all is bad -/
def Stg {α : Type} (b : Bool) (fin K : Option α) : Prop := (b = false ∧ fin = K) ∨ (b = true ∧ fin = none)
theorem Stg.need {α : Type} {b : Bool} {fin : Option α} {X : Bs → Option α} {k s : ByteArray} {g : Nat} {w : World} (h : Stg b fin (match takeP (bbs k) (bbs s) with | none => none | some r => X r)) (hn : NeedE k s g b w) : ∃ s' b', Par w g s' b' ∧ s'.size ≤ s.size ∧ Stg b' fin (X (bbs s')) := by
  rcases hn with ⟨h1, h2⟩ | ⟨r, h1, h2⟩
  · refine ⟨s, true, h2, Nat.le_refl _, .inr ⟨rfl, ?_⟩⟩
    rcases h with ⟨_, h⟩ | ⟨_, h⟩
    · rw [h, h1]
    · exact h
  · have hl := takeP_len h1
    refine ⟨bsB r, b, h2, (by show r.length ≤ (bbs s).length; omega), ?_⟩
    rcases h with ⟨h0, h⟩ | h
    · exact .inl ⟨h0, by rw [h, h1]; rfl⟩
    · exact .inr h
theorem Stg.num {α : Type} {b b' : Bool} {fin : Option α} {X : Int × Bs → Option α} {s : ByteArray} {v : Int} (h : Stg b fin (match numP NM (bbs s) with | none => none | some u => X u)) (hn : (b' = b ∧ numP NM (bbs s) = some (v, (bbs s).dropWhile dch)) ∨ (b' = true ∧ numP NM (bbs s) = none)) : Stg b' fin (X (v, (bbs s).dropWhile dch)) := by
  rcases hn with ⟨rfl, h1⟩ | ⟨rfl, h1⟩
  · rcases h with ⟨h0, h⟩ | h
    · exact .inl ⟨h0, by rw [h, h1]⟩
    · exact .inr h
  · refine .inr ⟨rfl, ?_⟩
    rcases h with ⟨_, h⟩ | ⟨_, h⟩
    · rw [h, h1]
    · exact h
theorem Stg.part {α : Type} {b b' : Bool} {fin : Option α} {X : List Nd × Bs → Option α} {ex : Part} {s s' : ByteArray} {l : List Nd} (h : Stg b fin (match ex (bbs s) with | none => none | some u => X u)) (hn : (b = false ∧ b' = false ∧ ex (bbs s) = some (l, bbs s')) ∨ (b' = true ∧ (b = true ∨ ex (bbs s) = none))) : Stg b' fin (X (l, bbs s')) := by
  rcases hn with ⟨h0, rfl, h1⟩ | ⟨rfl, h1⟩
  · rcases h with ⟨_, h⟩ | ⟨h2, h⟩
    · exact .inl ⟨rfl, by rw [h, h1]⟩
    · rw [h0] at h2; cases h2
  · refine .inr ⟨rfl, ?_⟩
    rcases h with ⟨h2, h⟩ | ⟨_, h⟩
    · rcases h1 with h1 | h1
      · rw [h2] at h1; cases h1
      · rw [h, h1]
    · exact h
theorem Stg.fin {b : Bool} {p : Part} {s s' : ByteArray} {l : List Nd} (h : Stg b (p (bbs s)) (some (l, bbs s'))) : (false = false ∧ b = false ∧ p (bbs s) = some (l, bbs s')) ∨ (b = true ∧ (false = true ∨ p (bbs s) = none)) := by
  rcases h with ⟨h1, h2⟩ | ⟨h1, h2⟩
  · exact .inl ⟨rfl, h1, h2⟩
  · exact .inr ⟨h1, .inr h2⟩
theorem Stg.fin2 {b : Bool} {p : Part} {s s' : ByteArray} {l : List Nd} (h : Stg b (p (bbs s)) (some (l, bbs s'))) : (True ∧ b = false ∧ p (bbs s) = some (l, bbs s')) ∨ (b = true ∧ (false = true ∨ p (bbs s) = none)) := by
  rcases h with ⟨h1, h2⟩ | ⟨h1, h2⟩
  · exact .inl ⟨trivial, h1, h2⟩
  · exact .inr ⟨h1, .inr h2⟩
theorem bl_bbs (s : ByteArray) : bbs s = s.data.toList := rfl
/-- a literal of one node -/
theorem ownN_lit {w : World} {b base : Nat} {x : Nd} (h : Blk w b 41 #[.int .i64 x.op, .string x.name, .int .i64 x.value]) (hb : base ≤ b) : OwnN w base (.slice (some ⟨b, 0, none⟩) 1 1) [x] :=
  ⟨rfl, .inr ⟨b, 1, _, rfl, hb, h, Nat.le_refl _, by simp [maxLen], rfl, rfl, fun _ _ => trivial⟩⟩
theorem app_grown {a b c : World} {g : Nat} (h : a.grownBy b (some g)) (k : Below a.heap.size b c) : a.grownBy c (some g) := ⟨k.os.trans h.os, k.tape.trans h.tape, k.output.trans h.output, Nat.le_trans h.size k.size, fun i hi hn => (k.block i hi).trans (h.block i hi hn)⟩
/-- behind a name -/
def atomQ (q : ByteArray × Bs) : Option (List Nd × Bs) :=
  match takeP kGT q.2 with
  | some r => match numP NM r with | none => none | some u => some ([⟨1, q.1, u.1⟩], u.2)
  | none =>
    match takeP kLT q.2 with
    | some r => match numP NM r with | none => none | some u => some ([⟨2, q.1, u.1⟩], u.2)
    | none => some ([⟨0, q.1, 0⟩], q.2)
theorem atomP_q (s : Bs) : atomP NM s = match nameP s with | none => none | some q => atomQ q := rfl
set_option maxRecDepth 100000 in
set_option maxHeartbeats 2000000 in
theorem factor_step (n : Nat) (fac ex : Part) (hF : PartOk 64 n fac) (hX : PartOk 31 n ex) : PartOk 64 (n + 1) (facS NM fac ex) := fun g s bad w hB hn hs hE => by
  obtain ⟨i0, hi0, hz0, hz1, hz2⟩ := info_parts info_Nd
  have HP : Hid (∀ e w', PartE (facS NM fac ex) g s bad w e w' = (w.grownBy w' (some g) ∧ ∃ l v s' bad', e = .returned v ∧ OwnN w' w.heap.size v l ∧ Par w' g s' bad' ∧ s'.size ≤ s.size ∧ l.length + 2 * s'.size ≤ 2 * s.size + 1 ∧
    ((bad = false ∧ bad' = false ∧ facS NM fac ex (bbs s) = some (l, bbs s')) ∨ (bad' = true ∧ (bad = true ∨ facS NM fac ex (bbs s) = none))))) := Lib.hid fun _ _ => rfl
  have HE := Lib.hid hE
  have HFF := Lib.hid hF
  have HXX := Lib.hid hX
  have HB0 := Lib.hid hB
  have HGB := Lib.hid hB.lt
  have HN := Lib.hid hn
  have HS := Lib.hid (show s.size ≤ 8192 from hs)
  have c1 := hB.cell 1
  have cl := hB.lt
  have cf := hB.frozen
  clear hE hF hX hn hB
  go_enter Tryz.func64, Tryz.ntmps64
  cases bad with
  | true =>
    go_wp2_with fail
    go_ret
    rw [HP.out]
    exact ⟨only_of_below (Below.refl _ _) _, [], _, s, true, rfl, ownS_none _ _ _ _ _, HB0.out, Nat.le_refl _, by simp, .inr ⟨rfl, by simp⟩⟩
  | false =>
  go_wp2_with fail
  refine (take_any g s ⟨#[78, 79, 84, 32]⟩ false w HB0.out hs).mono ?_
  rintro e w1 ⟨hg1, hcs⟩
  have HG1 := Lib.hid hg1
  clear hg1 c1 cl cf
  rcases hcs with ⟨hn1, rfl, hp1⟩ | ⟨r1, hr1, rfl, hp1⟩
  rotate_left
  · have HP1 := Lib.hid hp1
    have hrl : s.size = 4 + (bsB r1).size := takeP_len hr1
    have hst1 : Stg false (facS NM fac ex (bbs s)) (match fac (bbs (bsB r1)) with | none => none | some q => some (nd0 3 :: q.1, q.2)) := .inl ⟨rfl, by unfold facS; skip; rw [show takeP kNOT (bbs s) = some r1 from hr1]; rfl⟩
    obtain ⟨s1, hse⟩ : ∃ q, q = bsB r1 := ⟨_, rfl⟩
    rw [← hse] at hrl hst1 HP1
    obtain ⟨b1, hb1⟩ : ∃ q, q = false := ⟨_, rfl⟩
    rw [← hb1] at hst1 HP1
    have HST1 := Lib.hid hst1
    have HRL := Lib.hid hrl
    have HQ1 : Hid (s1.size + 1 ≤ s.size) := Lib.hid (by omega)
    clear hr1 hp1 hrl hb1 hst1 hse
    go_wp2_with fail
    have hb10 : Below w1.heap.size w1 (w1.alloc (.cells #[.int .i64 3, .string ⟨#[]⟩, .int .i64 0] 41)) := (Below.refl _ _).alloc (Nat.le_refl _) _
    have hlt10 : Blk (w1.alloc (.cells #[.int .i64 3, .string ⟨#[]⟩, .int .i64 0] 41)) w1.heap.size 41 #[.int .i64 3, .string ⟨#[]⟩, .int .i64 0] := Blk.new _ _ _
    generalize (w1.alloc (.cells #[.int .i64 3, .string ⟨#[]⟩, .int .i64 0] 41)) = w10 at *
    have HG10 := Lib.hid (only_trans HG1.out (only_of_below hb10 (some g)))
    have HP10 := Lib.hid (HP1.out.below hb10 HP1.out.lt)
    have hgi10 : g < w1.heap.size ∧ w.heap.size ≤ w1.heap.size := ⟨HP1.out.lt, HG1.out.size⟩
    obtain ⟨b4, hb4e⟩ : ∃ q, q = w1.heap.size := ⟨_, rfl⟩
    rw [← hb4e] at hlt10 hgi10 ⊢
    have HLT10 := Lib.hid hlt10
    have HGI := Lib.hid hgi10
    clear hb4e hb10 hlt10 hgi10
    refine (HFF.out g s1 b1 w10 HP10.out (by have := HQ1.out; have := HN.out; omega) (by have := HQ1.out; have := HS.out; omega) (HE.out.grown HG10.out)).mono ?_
    rintro e w11 ⟨hg11, l11, v11, s11, b11, rfl, ho11, hp11, hs11, hl11, hc11⟩
    have HG11 := Lib.hid (only_trans HG10.out hg11)
    have HO11 : Hid (OwnN w11 w.heap.size v11 l11) := Lib.hid (OwnS.base ho11 HG10.out.size)
    have HP11 := Lib.hid hp11
    have HL11 := Lib.hid hl11
    have HQ11 : Hid (s11.size + 1 ≤ s.size) := Lib.hid (by have := HQ1.out; omega)
    have HST11 : Hid (Stg b11 (facS NM fac ex (bbs s)) (some (nd0 3 :: l11, bbs s11))) := Lib.hid (HST1.out.part hc11)
    have HLT11 := Lib.hid (HLT10.out.grown hg11 (by intro e; injection e with e; have := HGI.out.1; omega))
    clear hg11 ho11 hp11 hs11 hl11 hc11
    have HLO11 : Hid (OwnN w11 w.heap.size (.slice (some ⟨b4, 0, none⟩) 1 1) [nd0 3]) := Lib.hid (ownN_lit HLT11.out HGI.out.2)
    obtain ⟨A5, k5, rfl, hrd5, hk5, _⟩ := OwnS.rdNd HO11.out
    have HRD5 := Lib.hid hrd5
    have HLL : Hid (l11.length ≤ 100000) := Lib.hid (by have := HRL.out; have := HL11.out; have := HS.out; omega)
    clear hrd5 hk5
    go_wp2_with (at_builtin; refine wpList_appR (S := AnyV) rfl _ _ 37 rfl w.heap.size 41 i0 _ 3 32 Tryz.underlying37 hi0 hz0 hz1 hz2 rfl (by omega) (fun _ _ => trivial) _ 1 (([nd0 3] : List Nd).flatMap Nd.cells) rfl HLO11.out A5 l11.length k5 (l11.flatMap Nd.cells) rfl HRD5.out.2 (nd_any l11) (by have := HLL.out; simp only [maxLen]; omega) (by have := HLL.out; omega) HG11.out.size ?_)
    intro v9 w9 ho9 kp9 _
    have HG9 := Lib.hid (app_grown HG11.out kp9.low)
    have HO9 : Hid (OwnN w9 w.heap.size v9 (nd0 3 :: l11)) := Lib.hid (by
      have h1 : (nd0 3 :: l11).length = 1 + l11.length := by simp; omega
      have h2 : (nd0 3 :: l11).flatMap Nd.cells = (nd0 3).cells ++ l11.flatMap Nd.cells := by simp
      unfold OwnN
      rw [h1, h2]
      exact ho9)
    have HP9 := Lib.hid (HP11.out.below kp9.low HGB.out)
    clear ho9 kp9
    go_wp2_with fail
    go_ret
    rw [HP.out]
    exact ⟨HG9.out, nd0 3 :: l11, _, s11, b11, rfl, HO9.out, HP9.out, by have := HQ11.out; omega, by rw [List.length_cons]; have := HRL.out; have := HL11.out; omega, by first | exact Stg.fin HST11.out | exact Stg.fin2 HST11.out⟩
  have HP1 := Lib.hid hp1
  have HM1 : Hid (takeP kNOT (bbs s) = none) := Lib.hid hn1
  clear hn1 hp1
  go_wp2_with fail
  refine (take_any g s ⟨#[40]⟩ false w1 HP1.out hs).mono ?_
  rintro e w2 ⟨hg2, hcs2⟩
  have HG2 := Lib.hid (only_trans HG1.out hg2)
  clear hg2
  rcases hcs2 with ⟨hn2, rfl, hp2⟩ | ⟨r2, hr2, rfl, hp2⟩
  rotate_left
  · have HP2 := Lib.hid hp2
    have hrl : s.size = 1 + (bsB r2).size := takeP_len hr2
    have hst2 : Stg false (facS NM fac ex (bbs s)) (match ex (bbs (bsB r2)) with | none => none | some q => needP kR q) := .inl ⟨rfl, by unfold facS; rw [HM1.out]; simp only; rw [show takeP kL (bbs s) = some r2 from hr2]; rfl⟩
    obtain ⟨s2, hse⟩ : ∃ q, q = bsB r2 := ⟨_, rfl⟩
    rw [← hse] at hrl hst2 HP2
    obtain ⟨b2, hb2⟩ : ∃ q, q = false := ⟨_, rfl⟩
    rw [← hb2] at hst2 HP2
    have HST2 := Lib.hid hst2
    have HRL := Lib.hid hrl
    have HQ2 : Hid (s2.size + 1 ≤ s.size) := Lib.hid (by omega)
    clear hr2 hp2 hrl hb2 hst2 hse
    go_wp2_with fail
    refine (HXX.out g s2 b2 w2 HP2.out (by have := HQ2.out; have := HN.out; omega) (by have := HQ2.out; have := HS.out; omega) (HE.out.grown HG2.out)).mono ?_
    rintro e w10 ⟨hg10, l10, v10, s10, b10, rfl, ho10, hp10, hs10, hl10, hc10⟩
    have HG10 := Lib.hid (only_trans HG2.out hg10)
    have HO10 : Hid (OwnN w10 w.heap.size v10 l10) := Lib.hid (OwnS.base ho10 HG2.out.size)
    have HP10 := Lib.hid hp10
    have HL10 := Lib.hid hl10
    have HQ10 : Hid (s10.size + 1 ≤ s.size) := Lib.hid (by have := HQ2.out; omega)
    have HST10 : Hid (Stg b10 (facS NM fac ex (bbs s)) (match takeP (bbs ⟨#[41]⟩) (bbs s10) with | none => none | some r => some (l10, r))) := Lib.hid (HST2.out.part hc10)
    clear hg10 ho10 hp10 hs10 hl10 hc10
    go_wp2_with fail
    refine (need_any g s10 ⟨#[41]⟩ b10 w10 HP10.out (by have := HQ10.out; have := HS.out; omega)).mono ?_
    rintro e w11 ⟨rfl, hg11, hne11⟩
    have HG11 := Lib.hid (only_trans HG10.out hg11)
    have HO11 := Lib.hid (HO10.out.grown hg11 HGB.out)
    obtain ⟨s11, b11, hp11, hz11, hst11⟩ := HST10.out.need hne11
    have HP11 := Lib.hid hp11
    have HQ11 : Hid (s11.size + 1 ≤ s.size) := Lib.hid (by have := HQ10.out; omega)
    have HZ11 := Lib.hid hz11
    have HST11 : Hid (Stg b11 (facS NM fac ex (bbs s)) (some (l10, bbs s11))) := Lib.hid hst11
    clear hg11 hne11 hp11 hz11 hst11
    go_wp2_with fail
    go_ret
    rw [HP.out]
    exact ⟨HG11.out, l10, _, s11, b11, rfl, HO11.out, HP11.out, by have := HQ11.out; omega, by have := HL10.out; have := HZ11.out; have := HRL.out; omega, by first | exact Stg.fin HST11.out | exact Stg.fin2 HST11.out⟩
  have HP2 := Lib.hid hp2
  have HM2 : Hid (takeP kL (bbs s) = none) := Lib.hid hn2
  clear hn2 hp2
  go_wp2_with fail
  refine (take_any g s ⟨#[68, 69, 76, 65, 89, 40]⟩ false w2 HP2.out hs).mono ?_
  rintro e w3 ⟨hg3, hcs3⟩
  have HG3 := Lib.hid (only_trans HG2.out hg3)
  clear hg3
  rcases hcs3 with ⟨hn3, rfl, hp3⟩ | ⟨r3, hr3, rfl, hp3⟩
  rotate_left
  · have HP3 := Lib.hid hp3
    have hrl : s.size = 6 + (bsB r3).size := takeP_len hr3
    have hst3 : Stg false (facS NM fac ex (bbs s)) (match ex (bbs (bsB r3)) with | none => none | some q => (match takeP kC q.2 with | none => none | some r => (match numP NM r with | none => none | some u => needP kR (⟨6, ⟨#[]⟩, u.1⟩ :: q.1, u.2)))) := .inl ⟨rfl, by unfold facS; rw [HM1.out, HM2.out]; simp only; rw [show takeP kDELAY (bbs s) = some r3 from hr3]; rfl⟩
    obtain ⟨s3, hse⟩ : ∃ q, q = bsB r3 := ⟨_, rfl⟩
    rw [← hse] at hrl hst3 HP3
    obtain ⟨b3, hb3⟩ : ∃ q, q = false := ⟨_, rfl⟩
    rw [← hb3] at hst3 HP3
    have HST3 := Lib.hid hst3
    have HRL := Lib.hid hrl
    have HQ3 : Hid (s3.size + 1 ≤ s.size) := Lib.hid (by omega)
    clear hr3 hp3 hrl hb3 hst3 hse
    go_wp2_with fail
    refine (HXX.out g s3 b3 w3 HP3.out (by have := HQ3.out; have := HN.out; omega) (by have := HQ3.out; have := HS.out; omega) (HE.out.grown HG3.out)).mono ?_
    rintro e w10 ⟨hg10, l10, v10, s10, b10, rfl, ho10, hp10, hs10, hl10, hc10⟩
    have HG10 := Lib.hid (only_trans HG3.out hg10)
    have HO10 : Hid (OwnN w10 w.heap.size v10 l10) := Lib.hid (OwnS.base ho10 HG3.out.size)
    have HP10 := Lib.hid hp10
    have HL10 := Lib.hid hl10
    have HQ10 : Hid (s10.size + 1 ≤ s.size) := Lib.hid (by have := HQ3.out; omega)
    have HST10 : Hid (Stg b10 (facS NM fac ex (bbs s)) (match takeP (bbs ⟨#[44, 32]⟩) (bbs s10) with | none => none | some r => (match numP NM r with | none => none | some u => needP kR (⟨6, ⟨#[]⟩, u.1⟩ :: l10, u.2)))) := Lib.hid (HST3.out.part hc10)
    clear hg10 ho10 hp10 hs10 hl10 hc10
    go_wp2_with fail
    refine (need_any g s10 ⟨#[44, 32]⟩ b10 w10 HP10.out (by have := HQ10.out; have := HS.out; omega)).mono ?_
    rintro e w11 ⟨rfl, hg11, hne11⟩
    have HG11 := Lib.hid (only_trans HG10.out hg11)
    have HO11 := Lib.hid (HO10.out.grown hg11 HGB.out)
    obtain ⟨s11, b11, hp11, hz11, hst11⟩ := HST10.out.need hne11
    have HP11 := Lib.hid hp11
    have HQ11 : Hid (s11.size + 1 ≤ s.size) := Lib.hid (by have := HQ10.out; omega)
    have HZ11 := Lib.hid hz11
    have HST11 : Hid (Stg b11 (facS NM fac ex (bbs s)) (match numP NM (bbs s11) with | none => none | some u => needP kR (⟨6, ⟨#[]⟩, u.1⟩ :: l10, u.2))) := Lib.hid hst11
    clear hg11 hne11 hp11 hz11 hst11
    go_wp2_with fail
    refine (num_any g s11 b11 w11 HP11.out (by have := HQ11.out; have := HS.out; omega) (HE.out.grown HG11.out)).mono ?_
    rintro e w12 hne12
    obtain ⟨hg12, nv, b12, rfl, hp12, hc12⟩ := hne12
    have hz12 : (bsB ((bbs s11).dropWhile dch)).size ≤ s11.size := by
      have h1 := dropWhile_len (p := dch) (bbs s11)
      show ((bbs s11).dropWhile dch).length ≤ (bbs s11).length
      omega
    have HG12 := Lib.hid (only_trans HG11.out hg12)
    have HO12 := Lib.hid (HO11.out.grown hg12 HGB.out)
    have hst12 : Stg b12 (facS NM fac ex (bbs s)) (match takeP (bbs ⟨#[41]⟩) (bbs (bsB ((bbs s11).dropWhile dch))) with | none => none | some r => some (⟨6, ⟨#[]⟩, nv⟩ :: l10, r)) := HST11.out.num hc12
    generalize bsB ((bbs s11).dropWhile dch) = s12 at *
    have HP12 := Lib.hid hp12
    have HQ12 : Hid (s12.size + 1 ≤ s.size) := Lib.hid (by have := HQ11.out; omega)
    have HZ12 := Lib.hid hz12
    have HST12 := Lib.hid hst12
    clear hg12 hp12 hc12 hz12 hst12
    go_wp2_with fail
    refine (need_any g s12 ⟨#[41]⟩ b12 w12 HP12.out (by have := HQ12.out; have := HS.out; omega)).mono ?_
    rintro e w13 ⟨rfl, hg13, hne13⟩
    have HG13 := Lib.hid (only_trans HG12.out hg13)
    have HO13 := Lib.hid (HO12.out.grown hg13 HGB.out)
    obtain ⟨s13, b13, hp13, hz13, hst13⟩ := HST12.out.need hne13
    have HP13 := Lib.hid hp13
    have HQ13 : Hid (s13.size + 1 ≤ s.size) := Lib.hid (by have := HQ12.out; omega)
    have HZ13 := Lib.hid hz13
    have HST13 : Hid (Stg b13 (facS NM fac ex (bbs s)) (some (⟨6, ⟨#[]⟩, nv⟩ :: l10, bbs s13))) := Lib.hid hst13
    clear hg13 hne13 hp13 hz13 hst13
    obtain ⟨A5, k5, rfl, hrd5, hk5, _⟩ := OwnS.rdNd HO13.out
    have HRD3 := Lib.hid hrd5
    clear hrd5 hk5
    have HLL : Hid (l10.length ≤ 100000) := Lib.hid (by have := HRL.out; have := HL10.out; have := HS.out; omega)
    have hal : ∀ wn, wn = w13.alloc (.cells #[.int .i64 6, .string ⟨#[]⟩, .int .i64 nv] 41) → Below w13.heap.size w13 wn ∧ OwnN wn w.heap.size (.slice (some ⟨w13.heap.size, 0, none⟩) 1 1) [⟨6, ⟨#[]⟩, nv⟩] := fun wn hwn => by
      subst hwn
      exact ⟨(Below.refl _ _).alloc (Nat.le_refl _) _, ownN_lit (x := ⟨6, ⟨#[]⟩, nv⟩) (Blk.new _ _ _) HG13.out.size⟩
    have HAL := Lib.hid (hal _ rfl)
    clear hal
    go_wp2_with (at_builtin; refine wpList_appR (S := AnyV) rfl _ _ 37 rfl w.heap.size 41 i0 _ 3 32 Tryz.underlying37 hi0 hz0 hz1 hz2 rfl (by omega) (fun _ _ => trivial) _ 1 (([⟨6, ⟨#[]⟩, nv⟩] : List Nd).flatMap Nd.cells) rfl HAL.out.2 A5 l10.length k5 (l10.flatMap Nd.cells) rfl (HRD3.out.up HAL.out.1).2 (nd_any l10) (by have := HLL.out; simp only [maxLen]; omega) (by have := HLL.out; omega) (Nat.le_trans HG13.out.size HAL.out.1.size) ?_)
    intro v9 w9 ho9 kp9 _
    have HG9 := Lib.hid (app_grown (only_trans HG13.out (only_of_below HAL.out.1 (some g))) kp9.low)
    have HO9 : Hid (OwnN w9 w.heap.size v9 (⟨6, ⟨#[]⟩, nv⟩ :: l10)) := Lib.hid (by
      have h1 : ((⟨6, ⟨#[]⟩, nv⟩ : Nd) :: l10).length = 1 + l10.length := by simp; omega
      have h2 : ((⟨6, ⟨#[]⟩, nv⟩ : Nd) :: l10).flatMap Nd.cells = (⟨6, ⟨#[]⟩, nv⟩ : Nd).cells ++ l10.flatMap Nd.cells := by simp
      unfold OwnN
      rw [h1, h2]
      exact ho9)
    have HP9 := Lib.hid ((HP13.out.below HAL.out.1 HP13.out.lt).below kp9.low HGB.out)
    clear ho9 kp9
    go_wp2_with fail
    go_ret
    rw [HP.out]
    exact ⟨HG9.out, ⟨6, ⟨#[]⟩, nv⟩ :: l10, _, s13, b13, rfl, HO9.out, HP9.out, by have := HQ13.out; omega, by rw [List.length_cons]; have := HRL.out; have := HL10.out; have := HZ11.out; have := HZ12.out; have := HZ13.out; omega, by first | exact Stg.fin HST13.out | exact Stg.fin2 HST13.out⟩
  have HP3 := Lib.hid hp3
  have HM3 : Hid (takeP kDELAY (bbs s) = none) := Lib.hid hn3
  clear hn3 hp3
  go_wp2_with fail
  refine (take_any g s ⟨#[76, 65, 84, 67, 72, 40]⟩ false w3 HP3.out hs).mono ?_
  rintro e w4 ⟨hg4, hcs4⟩
  have HG4 := Lib.hid (only_trans HG3.out hg4)
  clear hg4
  rcases hcs4 with ⟨hn4, rfl, hp4⟩ | ⟨r4, hr4, rfl, hp4⟩
  rotate_left
  · have HP4 := Lib.hid hp4
    have hrl : s.size = 6 + (bsB r4).size := takeP_len hr4
    have hst4 : Stg false (facS NM fac ex (bbs s)) (match ex (bbs (bsB r4)) with | none => none | some q => (match takeP kC q.2 with | none => none | some r => (match ex r with | none => none | some u => needP kR (⟨7, ⟨#[]⟩, 0⟩ :: (q.1 ++ u.1), u.2)))) := .inl ⟨rfl, by unfold facS; rw [HM1.out, HM2.out, HM3.out]; simp only; rw [show takeP kLATCH (bbs s) = some r4 from hr4]; rfl⟩
    obtain ⟨s4, hse⟩ : ∃ q, q = bsB r4 := ⟨_, rfl⟩
    rw [← hse] at hrl hst4 HP4
    obtain ⟨b4, hb4⟩ : ∃ q, q = false := ⟨_, rfl⟩
    rw [← hb4] at hst4 HP4
    have HST4 := Lib.hid hst4
    have HRL := Lib.hid hrl
    have HQ4 : Hid (s4.size + 1 ≤ s.size) := Lib.hid (by omega)
    clear hr4 hp4 hrl hb4 hst4 hse
    go_wp2_with fail
    refine (HXX.out g s4 b4 w4 HP4.out (by have := HQ4.out; have := HN.out; omega) (by have := HQ4.out; have := HS.out; omega) (HE.out.grown HG4.out)).mono ?_
    rintro e w10 ⟨hg10, l10, v10, s10, b10, rfl, ho10, hp10, hs10, hl10, hc10⟩
    have HG10 := Lib.hid (only_trans HG4.out hg10)
    have HO10 : Hid (OwnN w10 w.heap.size v10 l10) := Lib.hid (OwnS.base ho10 HG4.out.size)
    have HP10 := Lib.hid hp10
    have HL10 := Lib.hid hl10
    have HQ10 : Hid (s10.size + 1 ≤ s.size) := Lib.hid (by have := HQ4.out; omega)
    have HST10 : Hid (Stg b10 (facS NM fac ex (bbs s)) (match takeP (bbs ⟨#[44, 32]⟩) (bbs s10) with | none => none | some r => (match ex r with | none => none | some u => needP kR (⟨7, ⟨#[]⟩, 0⟩ :: (l10 ++ u.1), u.2)))) := Lib.hid (HST4.out.part hc10)
    clear hg10 ho10 hp10 hs10 hl10 hc10
    go_wp2_with fail
    refine (need_any g s10 ⟨#[44, 32]⟩ b10 w10 HP10.out (by have := HQ10.out; have := HS.out; omega)).mono ?_
    rintro e w11 ⟨rfl, hg11, hne11⟩
    have HG11 := Lib.hid (only_trans HG10.out hg11)
    have HO11 := Lib.hid (HO10.out.grown hg11 HGB.out)
    obtain ⟨s11, b11, hp11, hz11, hst11⟩ := HST10.out.need hne11
    have HP11 := Lib.hid hp11
    have HQ11 : Hid (s11.size + 1 ≤ s.size) := Lib.hid (by have := HQ10.out; omega)
    have HZ11 := Lib.hid hz11
    have HST11 : Hid (Stg b11 (facS NM fac ex (bbs s)) (match ex (bbs s11) with | none => none | some u => needP kR (⟨7, ⟨#[]⟩, 0⟩ :: (l10 ++ u.1), u.2))) := Lib.hid hst11
    clear hg11 hne11 hp11 hz11 hst11
    go_wp2_with fail
    have HV11 := HO11
    clear HO11
    refine (HXX.out g s11 b11 w11 HP11.out (by have := HQ11.out; have := HN.out; omega) (by have := HQ11.out; have := HS.out; omega) (HE.out.grown HG11.out)).mono ?_
    rintro e w12 ⟨hg12, l12, v12, s12, b12, rfl, ho12, hp12, hs12, hl12, hc12⟩
    have HG12 := Lib.hid (only_trans HG11.out hg12)
    have HO12 : Hid (OwnN w12 w.heap.size v12 l12) := Lib.hid (OwnS.base ho12 HG11.out.size)
    have HP12 := Lib.hid hp12
    have HL12 := Lib.hid hl12
    have HQ12 : Hid (s12.size + 1 ≤ s.size) := Lib.hid (by have := HQ11.out; omega)
    have HST12 : Hid (Stg b12 (facS NM fac ex (bbs s)) (match takeP (bbs ⟨#[41]⟩) (bbs s12) with | none => none | some r => some (⟨7, ⟨#[]⟩, 0⟩ :: (l10 ++ l12), r))) := Lib.hid (HST11.out.part hc12)
    have HV12 := Lib.hid (HV11.out.grown hg12 HGB.out)
    clear hg12 ho12 hp12 hs12 hl12 hc12
    go_wp2_with fail
    refine (need_any g s12 ⟨#[41]⟩ b12 w12 HP12.out (by have := HQ12.out; have := HS.out; omega)).mono ?_
    rintro e w13 ⟨rfl, hg13, hne13⟩
    have HG13 := Lib.hid (only_trans HG12.out hg13)
    have HO13 := Lib.hid (HO12.out.grown hg13 HGB.out)
    have HV13 := Lib.hid (HV12.out.grown hg13 HGB.out)
    obtain ⟨s13, b13, hp13, hz13, hst13⟩ := HST12.out.need hne13
    have HP13 := Lib.hid hp13
    have HQ13 : Hid (s13.size + 1 ≤ s.size) := Lib.hid (by have := HQ12.out; omega)
    have HZ13 := Lib.hid hz13
    have HST13 : Hid (Stg b13 (facS NM fac ex (bbs s)) (some (⟨7, ⟨#[]⟩, 0⟩ :: (l10 ++ l12), bbs s13))) := Lib.hid hst13
    clear hg13 hne13 hp13 hz13 hst13
    obtain ⟨A5, k5, rfl, hrd5, hk5, _⟩ := OwnS.rdNd HV13.out
    obtain ⟨A6, k6, rfl, hrd6, hk6, _⟩ := OwnS.rdNd HO13.out
    have HRD5 := Lib.hid hrd5
    have HRD6 := Lib.hid hrd6
    clear hrd5 hk5 hrd6 hk6
    have HLL : Hid (l10.length + l12.length + 1 + 2 * s13.size ≤ 2 * s.size + 1) := Lib.hid (by have := HRL.out; have := HL10.out; have := HL12.out; have := HZ11.out; have := HZ13.out; omega)
    go_wp2_with fail
    have hb14 : Below w13.heap.size w13 (w13.alloc (.cells #[.int .i64 7, .string ⟨#[]⟩, .int .i64 0] 41)) := (Below.refl _ _).alloc (Nat.le_refl _) _
    have hlt14 : Blk (w13.alloc (.cells #[.int .i64 7, .string ⟨#[]⟩, .int .i64 0] 41)) w13.heap.size 41 #[.int .i64 7, .string ⟨#[]⟩, .int .i64 0] := Blk.new _ _ _
    have hsz : (w13.alloc (.cells #[.int .i64 7, .string ⟨#[]⟩, .int .i64 0] 41)).heap.size = w13.heap.size + 1 := by simp
    generalize (w13.alloc (.cells #[.int .i64 7, .string ⟨#[]⟩, .int .i64 0] 41)) = w14 at *
    have HG14 := Lib.hid (only_trans HG13.out (only_of_below hb14 (some g)))
    have HP14 := Lib.hid (HP13.out.below hb14 HP13.out.lt)
    have hgi14 : g < w13.heap.size ∧ w.heap.size ≤ w13.heap.size := ⟨HP13.out.lt, HG13.out.size⟩
    obtain ⟨b4, hb4e⟩ : ∃ q, q = w13.heap.size := ⟨_, rfl⟩
    rw [← hb4e] at hlt14 hgi14 hsz ⊢
    rw [← hsz]
    clear hsz
    have HLT14 := Lib.hid hlt14
    have HGI := Lib.hid hgi14
    have HB14 := Lib.hid hb14
    clear hb4e hb14 hlt14 hgi14
    refine (concat3_any w14 b4 (nd0 7) A5 A6 k5 k6 l10 l12 HLT14.out ((HRD5.out.below HB14.out (Nat.le_refl _)).more HB14.out.size) ((HRD6.out.below HB14.out (Nat.le_refl _)).more HB14.out.size) (by have := HLL.out; have := HS.out; omega)).mono ?_
    rintro e w9 ⟨v9, rfl, hb9, ho9⟩
    have HG9 := Lib.hid (only_trans HG14.out (only_of_below hb9 (some g)))
    have HO9 : Hid (OwnN w9 w.heap.size v9 (⟨7, ⟨#[]⟩, 0⟩ :: (l10 ++ l12))) := Lib.hid (ho9.base HG14.out.size)
    have HP9 := Lib.hid (HP14.out.below hb9 HP14.out.lt)
    clear hb9 ho9
    go_wp2_with fail
    go_ret
    rw [HP.out]
    exact ⟨HG9.out, ⟨7, ⟨#[]⟩, 0⟩ :: (l10 ++ l12), _, s13, b13, rfl, HO9.out, HP9.out, by have := HQ13.out; omega, by rw [List.length_cons, List.length_append]; have := HLL.out; omega, by first | exact Stg.fin HST13.out | exact Stg.fin2 HST13.out⟩
  have HP4 := Lib.hid hp4
  have HM4 : Hid (takeP kLATCH (bbs s) = none) := Lib.hid hn4
  clear hn4 hp4
  go_wp2_with fail
  refine (pname_any g s false w4 HP4.out hs).mono ?_
  rintro e w5 ⟨rfl, hg5, hp5⟩
  have HG5 := Lib.hid (only_trans HG4.out hg5)
  have hz5 : (bsB ((bbs s).dropWhile wch)).size ≤ s.size := by
    have h1 := dropWhile_len (p := wch) (bbs s)
    show ((bbs s).dropWhile wch).length ≤ (bbs s).length
    omega
  have hst5 : Stg (false || !rnameB (bsB ((bbs s).takeWhile wch))) (facS NM fac ex (bbs s)) (atomQ (bsB ((bbs s).takeWhile wch), bbs (bsB ((bbs s).dropWhile wch)))) := by
    have hfs : (facS NM fac ex (bbs s)) = atomP NM (bbs s) := by unfold facS; rw [HM1.out, HM2.out, HM3.out, HM4.out]
    rw [hfs, atomP_q]
    unfold nameP
    cases hrn : rnameB (bsB ((bbs s).takeWhile wch)) with
    | true => exact .inl ⟨rfl, by simp [bbs_bsB]⟩
    | false => exact .inr ⟨rfl, by simp⟩
  generalize (false || !rnameB (bsB ((bbs s).takeWhile wch))) = b5 at *
  generalize bsB ((bbs s).takeWhile wch) = nm at *
  generalize bsB ((bbs s).dropWhile wch) = s5 at *
  have HP5 := Lib.hid hp5
  have HZZ5 := Lib.hid hz5
  have HSA := Lib.hid hst5
  clear hg5 hp5 hz5 hst5
  go_wp2_with fail
  refine (take_any g s5 ⟨#[32, 62, 32]⟩ b5 w5 HP5.out (Nat.le_trans HZZ5.out hs)).mono ?_
  rintro e w6 ⟨hg6, hcs6⟩
  have HG6 := Lib.hid (only_trans HG5.out hg6)
  clear hg6
  rcases hcs6 with ⟨hn6, rfl, hp6⟩ | ⟨r6, hr6, rfl, hp6⟩
  rotate_left
  · have hl6 := takeP_len hr6
    have hz6 : (bsB r6).size + 1 ≤ s.size := by
      have h1 : s5.size = 3 + (bsB r6).size := hl6
      have h2 := HZZ5.out
      omega
    have hst6 : Stg b5 (facS NM fac ex (bbs s)) (match numP NM (bbs (bsB r6)) with | none => none | some u => some ([⟨1, nm, u.1⟩], u.2)) := by
      have h := HSA.out
      unfold atomQ at h
      rw [show takeP kGT (bbs s5) = some r6 from hr6] at h
      exact h
    generalize bsB r6 = s60 at *
    have HP60 := Lib.hid hp6
    have HQ60 := Lib.hid hz6
    have HST60 := Lib.hid hst6
    have HG60 := HG6
    clear hr6 hp6 hz6 hst6 hl6
    go_wp2_with fail
    refine (num_any g s60 b5 w6 HP60.out (by have := HQ60.out; have := HS.out; omega) (HE.out.grown HG60.out)).mono ?_
    rintro e w61 hne61
    obtain ⟨hg61, nv, b61, rfl, hp61, hc61⟩ := hne61
    have hz61 : (bsB ((bbs s60).dropWhile dch)).size ≤ s60.size := by
      have h1 := dropWhile_len (p := dch) (bbs s60)
      show ((bbs s60).dropWhile dch).length ≤ (bbs s60).length
      omega
    have HG61 := Lib.hid (only_trans HG60.out hg61)
    have hst61 : Stg b61 (facS NM fac ex (bbs s)) (some ([⟨1, nm, nv⟩], (bbs (bsB ((bbs s60).dropWhile dch))))) := HST60.out.num hc61
    generalize bsB ((bbs s60).dropWhile dch) = s61 at *
    have HP61 := Lib.hid hp61
    have HQ61 : Hid (s61.size + 1 ≤ s.size) := Lib.hid (by have := HQ60.out; omega)
    have HZ61 := Lib.hid hz61
    have HST61 := Lib.hid hst61
    clear hg61 hp61 hc61 hz61 hst61
    have HZZ61 : Hid (s61.size ≤ s.size) := Lib.hid (by have := HQ61.out; omega)
    go_wp2_with fail
    go_ret
    rw [HP.out]
    exact ⟨only_alloc HG61.out _, [⟨1, nm, nv⟩], _, s61, b61, rfl, ownN_lit (x := ⟨1, nm, nv⟩) (Blk.new _ _ _) HG61.out.size, HP61.out.alloc _, by have := HZZ61.out; omega, by have := HZZ61.out; simp; omega, by first | exact Stg.fin HST61.out | exact Stg.fin2 HST61.out⟩
  have HP6 := Lib.hid hp6
  have HN6 : Hid (takeP kGT (bbs s5) = none) := Lib.hid hn6
  clear hn6 hp6
  go_wp2_with fail
  refine (take_any g s5 ⟨#[32, 60, 32]⟩ b5 w6 HP6.out (Nat.le_trans HZZ5.out hs)).mono ?_
  rintro e w7 ⟨hg7, hcs7⟩
  have HG7 := Lib.hid (only_trans HG6.out hg7)
  clear hg7
  rcases hcs7 with ⟨hn7, rfl, hp7⟩ | ⟨r7, hr7, rfl, hp7⟩
  rotate_left
  · have hl7 := takeP_len hr7
    have hz7 : (bsB r7).size + 1 ≤ s.size := by
      have h1 : s5.size = 3 + (bsB r7).size := hl7
      have h2 := HZZ5.out
      omega
    have hst7 : Stg b5 (facS NM fac ex (bbs s)) (match numP NM (bbs (bsB r7)) with | none => none | some u => some ([⟨2, nm, u.1⟩], u.2)) := by
      have h := HSA.out
      unfold atomQ at h
      rw [show takeP kGT (bbs s5) = none from HN6.out] at h; simp only at h; rw [show takeP kLT (bbs s5) = some r7 from hr7] at h
      exact h
    generalize bsB r7 = s70 at *
    have HP70 := Lib.hid hp7
    have HQ70 := Lib.hid hz7
    have HST70 := Lib.hid hst7
    have HG70 := HG7
    clear hr7 hp7 hz7 hst7 hl7
    go_wp2_with fail
    refine (num_any g s70 b5 w7 HP70.out (by have := HQ70.out; have := HS.out; omega) (HE.out.grown HG70.out)).mono ?_
    rintro e w71 hne71
    obtain ⟨hg71, nv, b71, rfl, hp71, hc71⟩ := hne71
    have hz71 : (bsB ((bbs s70).dropWhile dch)).size ≤ s70.size := by
      have h1 := dropWhile_len (p := dch) (bbs s70)
      show ((bbs s70).dropWhile dch).length ≤ (bbs s70).length
      omega
    have HG71 := Lib.hid (only_trans HG70.out hg71)
    have hst71 : Stg b71 (facS NM fac ex (bbs s)) (some ([⟨2, nm, nv⟩], (bbs (bsB ((bbs s70).dropWhile dch))))) := HST70.out.num hc71
    generalize bsB ((bbs s70).dropWhile dch) = s71 at *
    have HP71 := Lib.hid hp71
    have HQ71 : Hid (s71.size + 1 ≤ s.size) := Lib.hid (by have := HQ70.out; omega)
    have HZ71 := Lib.hid hz71
    have HST71 := Lib.hid hst71
    clear hg71 hp71 hc71 hz71 hst71
    have HZZ71 : Hid (s71.size ≤ s.size) := Lib.hid (by have := HQ71.out; omega)
    go_wp2_with fail
    go_ret
    rw [HP.out]
    exact ⟨only_alloc HG71.out _, [⟨2, nm, nv⟩], _, s71, b71, rfl, ownN_lit (x := ⟨2, nm, nv⟩) (Blk.new _ _ _) HG71.out.size, HP71.out.alloc _, by have := HZZ71.out; omega, by have := HZZ71.out; simp; omega, by first | exact Stg.fin HST71.out | exact Stg.fin2 HST71.out⟩
  have HP7 := Lib.hid hp7
  have HN7 : Hid (takeP kLT (bbs s5) = none) := Lib.hid hn7
  clear hn7 hp7
  have HST7 : Hid (Stg b5 (facS NM fac ex (bbs s)) (some ([⟨0, nm, 0⟩], bbs s5))) := Lib.hid (by
    have h := HSA.out
    unfold atomQ at h
    rw [HN6.out] at h
    simp only at h
    rw [HN7.out] at h
    exact h)
  go_wp2_with fail
  go_ret
  rw [HP.out]
  exact ⟨only_alloc HG7.out _, [⟨0, nm, 0⟩], _, s5, b5, rfl, ownN_lit (x := ⟨0, nm, 0⟩) (Blk.new _ _ _) HG7.out.size, HP7.out.alloc _, by have := HZZ5.out; omega, by have := HZZ5.out; simp; omega, by first | exact Stg.fin HST7.out | exact Stg.fin2 HST7.out⟩
theorem factor_ok : ∀ n : Nat, PartOk 64 n (factorP NM n)
  | 0 => fun g s bad w _ h _ _ => absurd h (Nat.not_lt_zero _)
  | n + 1 => by
    have h := factor_ok n
    have hS := factorP_shr NM n
    rw [factorP_succ]
    exact factor_step n (factorP NM n) (exprP NM n) h (expr_ok n _ (term_ok n _ h hS) (chainP_shr hS))
/-- parser.expr -/
theorem expr_any (n : Nat) : PartOk 31 n (exprP NM n) := expr_ok n _ (term_ok n _ (factor_ok n) (factorP_shr NM n)) (chainP_shr (factorP_shr NM n))
end Go.Proofs.YtaanoljfhnfjoaaGreatDoor
