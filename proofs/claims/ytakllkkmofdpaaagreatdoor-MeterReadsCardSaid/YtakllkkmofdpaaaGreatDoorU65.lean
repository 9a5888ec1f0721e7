import Derived.Test.YtakllkkmofdpaaaGreatDoorU46
import Derived.Test.YtakllkkmofdpaaaGreatDoorU52
import Derived.Test.YtakllkkmofdpaaaGreatDoorU64
set_option linter.unusedVariables false
set_option linter.unusedSimpArgs false
namespace Go.Proofs.YtakllkkmofdpaaaGreatDoor
section
open Go.ChangeShapes Go.WideShapes Go.ChangeAt Go.RowKit
attribute [local go_sem ↓] execOp_call_val
attribute [local go_sem] callVal_func setCell_drewN alloc_drewN sEq_walk
theorem fits_sm {q : Rat} (h : q.num.natAbs < 10 ^ 5 ∧ q.den < 10 ^ 5) : Fits q := Tn.fits (k := 5) h (by decide)
def mwB : Mi := ⟨1, ⟨#[66]⟩, ⟨#[48]⟩, 1⟩
def mwL : List Mi := [⟨0, ⟨#[76]⟩, ⟨#[48]⟩, 1⟩]
def mwA : List ByteArray := [⟨#[48]⟩, ⟨#[45, 53]⟩, ⟨#[45, 55]⟩]
theorem mw_form : formR pnNet mwB = ([-1, 3, -2], 0) := by decide +kernel
theorem mw_ck : mtCk pnNet [mwB] = 0 ∧ readE pnNet mwL mwA = 0 ∧ busN pnNet = 3 ∧ freeL pnNet = [1, 2] ∧ netCk pnNet = 0 := by decide +kernel
theorem mw_val : mvals pnNet mwL mwA = [5] := by decide +kernel
theorem mw_txt : txtQ (-1) = ⟨#[45, 49]⟩ ∧ txtQ 3 = ⟨#[51]⟩ ∧ txtQ (-2) = ⟨#[45, 50]⟩ ∧ txtQ 0 = ⟨#[48]⟩ ∧ txtQ 5 = ⟨#[53]⟩ := by decide +kernel
theorem mw_fit : (∀ q ∈ (formR pnNet mwB).1, Fits q) ∧ Fits (formR pnNet mwB).2 := by
 rw [mw_form]
 refine ⟨fun q hq => ?_, fits_sm (by decide +kernel)⟩
 simp only [List.mem_cons, List.not_mem_nil, or_false] at hq
 rcases hq with rfl | rfl | rfl <;> exact fits_sm (by decide +kernel)
theorem mw_vfit : ∀ q ∈ mvals pnNet mwL mwA, Fits q := by
 rw [mw_val]
 intro q hq
 rw [List.mem_singleton.1 hq]
 exact fits_sm (by decide +kernel)
theorem mw_vec : (formR pnNet mwB).1.map txtQ = [⟨#[45, 49]⟩, ⟨#[51]⟩, ⟨#[45, 50]⟩] ∧ txtQ (formR pnNet mwB).2 = ⟨#[48]⟩ ∧ (mvals pnNet mwL mwA).map txtQ = [⟨#[53]⟩] := by
 rw [mw_form, mw_val]
 obtain ⟨h1, h2, h3, h4, h5⟩ := mw_txt
 simp only [List.map_cons, List.map_nil, h1, h2, h3, h4, h5, and_self]
theorem mw_sz : (∀ m ∈ mwL, m.txt.size ≤ maxLen) ∧ ∀ s ∈ mwA, s.size ≤ maxLen := by decide +kernel
set_option maxRecDepth 100000 in
set_option maxHeartbeats 4000000 in
theorem mworks_any (w : World) (ht : TabOk w) : Calls Tryz.prog 36 #[] w fun e w' => e = .returned (.bool true) ∧ Below w.heap.size w w' := by
 have HT := Lib.hid ht
 clear ht
 go_enter Tryz.func36, Tryz.ntmps36
 go_wp2_with fail
 refine (pairNet_any w).mono ?_
 rintro e w1 ⟨h1, rfl, hr1, hb1⟩
 have HB1 := Lib.hid hb1
 have HR1 := Lib.hid hr1
 have HT1 := Lib.hid (HT.out.up hb1)
 clear hb1 hr1
 go_wp2_with fail
 refine (mof_any h1 pnNet (by decide) mwB w1 HR1.out (by decide) HT1.out (fun _ => mw_fit)).mono ?_
 rintro e w2 ⟨hb2, hh⟩
 rcases hh with ⟨h0, _⟩ | ⟨_, A2, c2, rfl, hs2⟩
 ·exact absurd mw_ck.1 h0
 rw [mw_vec.1, mw_ck.2.2.1] at hs2
 rw [mw_vec.2.1, mw_ck.2.2.1]
 have HB2 := Lib.hid (HB1.out.trans (hb2.mono HB1.out.size))
 have HV := Lib.hid hs2
 clear hb2 hs2 HR1 HT1 HB1
 go_wp2_with fail
 refine (pairNet_any w2).mono ?_
 rintro e w3 ⟨h3, rfl, hr3, hb3⟩
 have HB3 := Lib.hid (HB2.out.trans (hb3.mono HB2.out.size))
 have HR3 := Lib.hid hr3
 replace HV := Lib.hid ((HV.out.below hb3 (Nat.le_refl _)).more hb3.size)
 clear hb3 hr3 HB2
 go_wp2_with fail
 refine (flowMeter_any ⟨#[76]⟩ ⟨#[48]⟩ w3).mono ?_
 rintro e w4 ⟨rfl, hb4⟩
 have HB4 := Lib.hid (HB3.out.trans (hb4.mono HB3.out.size))
 replace HR3 := Lib.hid (HR3.out.up hb4)
 replace HV := Lib.hid ((HV.out.below hb4 (Nat.le_refl _)).more hb4.size)
 clear hb4 HB3
 go_wp2_with fail
 have hz : Below w4.heap.size w4 ((w4.alloc (.cells #[.int .i64 0, .string ⟨#[76]⟩, .string ⟨#[48]⟩, .int .i64 1] 57)).alloc (.cells #[.string ⟨#[48]⟩, .string ⟨#[45, 53]⟩, .string ⟨#[45, 55]⟩] 37)) := ((Below.refl _ _).alloc (Nat.le_refl _) _).alloc (by simp) _
 have HM : Hid (RdMi ((w4.alloc (.cells #[.int .i64 0, .string ⟨#[76]⟩, .string ⟨#[48]⟩, .int .i64 1] 57)).alloc (.cells #[.string ⟨#[48]⟩, .string ⟨#[45, 53]⟩, .string ⟨#[45, 55]⟩] 37)) ((w4.alloc (.cells #[.int .i64 0, .string ⟨#[76]⟩, .string ⟨#[48]⟩, .int .i64 1] 57)).alloc (.cells #[.string ⟨#[48]⟩, .string ⟨#[45, 53]⟩, .string ⟨#[45, 55]⟩] 37)).heap.size (some ⟨w4.heap.size, 0, none⟩) 1 mwL) := Lib.hid ⟨rfl, rd_lit (vs := mwL.flatMap Mi.cells) (T := 57) ((Blk.new w4 _ _).alloc _) rfl (by simp; omega)⟩
 have HA : Hid (RdStr ((w4.alloc (.cells #[.int .i64 0, .string ⟨#[76]⟩, .string ⟨#[48]⟩, .int .i64 1] 57)).alloc (.cells #[.string ⟨#[48]⟩, .string ⟨#[45, 53]⟩, .string ⟨#[45, 55]⟩] 37)) ((w4.alloc (.cells #[.int .i64 0, .string ⟨#[76]⟩, .string ⟨#[48]⟩, .int .i64 1] 57)).alloc (.cells #[.string ⟨#[48]⟩, .string ⟨#[45, 53]⟩, .string ⟨#[45, 55]⟩] 37)).heap.size (some ⟨w4.heap.size + 1, 0, none⟩) 3 mwA) := Lib.hid (rdStr_lit (zs := mwA) (T := 37) (Blk.new_ (w := (w4.alloc (.cells #[.int .i64 0, .string ⟨#[76]⟩, .string ⟨#[48]⟩, .int .i64 1] 57))) (by simp)) (by simp))
 have HB5 := Lib.hid (HB4.out.trans (hz.mono HB4.out.size))
 replace HR3 := Lib.hid (HR3.out.up hz)
 replace HV := Lib.hid ((HV.out.below hz (Nat.le_refl _)).more hz.size)
 have HT5 := Lib.hid (HT.out.up HB5.out)
 clear hz HB4
 generalize (w4.alloc (.cells #[.int .i64 0, .string ⟨#[76]⟩, .string ⟨#[48]⟩, .int .i64 1] 57)).alloc (.cells #[.string ⟨#[48]⟩, .string ⟨#[45, 53]⟩, .string ⟨#[45, 55]⟩] 37) = w5 at *
 refine (mread_any h3 pnNet (by decide) _ 1 1 mwL _ 3 3 mwA w5 HR3.out HM.out HA.out mw_sz.1 mw_sz.2 (by decide) (by decide) HT5.out).mono ?_
 rintro e w6 ⟨hb6, hh⟩
 rcases hh with ⟨h0, _⟩ | ⟨_, hh, -⟩
 ·exact absurd mw_ck.2.1 h0
 obtain ⟨A6, n6, c6, rfl, hs6, -, -⟩ := hh mw_vfit
 rw [mw_vec.2.2] at hs6
 have hn6 : n6 = 1 := hs6.1.symm
 subst hn6
 have HB6 := Lib.hid (HB5.out.trans (hb6.mono HB5.out.size))
 have HW := Lib.hid hs6
 replace HV := Lib.hid ((HV.out.below hb6 (Nat.le_refl _)).more hb6.size)
 clear hb6 hs6 HB5 HR3 HM HA HT5 hh
 go_wp2_with fail
 refine (pairNet_any w6).mono ?_
 rintro e w7 ⟨h7, rfl, hr7, hb7⟩
 have HB7 := Lib.hid (HB6.out.trans (hb7.mono HB6.out.size))
 have HR7 := Lib.hid hr7
 replace HV := Lib.hid ((HV.out.below hb7 (Nat.le_refl _)).more hb7.size)
 replace HW := Lib.hid ((HW.out.below hb7 (Nat.le_refl _)).more hb7.size)
 clear hb7 hr7 HB6
 go_wp2_with fail
 refine (free_any h7 pnNet (by decide) w7 HR7.out).mono ?_
 rintro e w8 ⟨hb8, hh⟩
 rcases hh with ⟨h0, _⟩ | ⟨_, A8, c8, rfl, hi8⟩
 ·exact absurd mw_ck.2.2.2.2 h0
 rw [mw_ck.2.2.2.1] at hi8 ⊢
 have HB8 := Lib.hid (HB7.out.trans (hb8.mono HB7.out.size))
 have HI : Hid (RdI w8 w8.heap.size A8 2 [1, 2]) := Lib.hid hi8
 replace HV := Lib.hid ((HV.out.below hb8 (Nat.le_refl _)).more hb8.size)
 replace HW := Lib.hid ((HW.out.below hb8 (Nat.le_refl _)).more hb8.size)
 clear hb8 hi8 HB7 HR7
 simp only [List.length_cons, List.length_nil, Nat.zero_add]
 go_wp2_with fail
 have hz : Below w8.heap.size w8 (w8.alloc (.cells #[.string ⟨#[45, 49]⟩, .string ⟨#[51]⟩, .string ⟨#[45, 50]⟩] 37)) := (Below.refl _ _).alloc (Nat.le_refl _) _
 have HLa : Hid (RdStr (w8.alloc (.cells #[.string ⟨#[45, 49]⟩, .string ⟨#[51]⟩, .string ⟨#[45, 50]⟩] 37)) (w8.alloc (.cells #[.string ⟨#[45, 49]⟩, .string ⟨#[51]⟩, .string ⟨#[45, 50]⟩] 37)).heap.size (some ⟨w8.heap.size, 0, none⟩) 3 [⟨#[45, 49]⟩, ⟨#[51]⟩, ⟨#[45, 50]⟩]) := Lib.hid (rdStr_lit (zs := [⟨#[45, 49]⟩, ⟨#[51]⟩, ⟨#[45, 50]⟩]) (T := 37) (Blk.new_ (w := w8) (by simp)) (by simp))
 have HB9 := Lib.hid (HB8.out.trans (hz.mono HB8.out.size))
 replace HV := Lib.hid ((HV.out.below hz (Nat.le_refl _)).more hz.size)
 replace HW := Lib.hid ((HW.out.below hz (Nat.le_refl _)).more hz.size)
 replace HI := Lib.hid ((HI.out.below hz (Nat.le_refl _)).more hz.size)
 clear hz HB8
 generalize w8.alloc (.cells #[.string ⟨#[45, 49]⟩, .string ⟨#[51]⟩, .string ⟨#[45, 50]⟩] 37) = w9 at *
 refine (samevec_any A2 3 c2 _ _ 3 3 _ w9 HV.out HLa.out (by decide) (by decide)).mono ?_
 rintro e w10 ⟨rfl, hb10⟩
 rw [decide_eq_true rfl]
 have HB10 := Lib.hid (HB9.out.trans (hb10.mono HB9.out.size))
 replace HW := Lib.hid ((HW.out.below hb10 (Nat.le_refl _)).more hb10.size)
 replace HI := Lib.hid ((HI.out.below hb10 (Nat.le_refl _)).more hb10.size)
 clear hb10 HB9 HV HLa
 go_wp2_with fail
 have hz : Below w10.heap.size w10 (w10.alloc (.cells #[.string ⟨#[53]⟩] 37)) := (Below.refl _ _).alloc (Nat.le_refl _) _
 have HLb : Hid (RdStr (w10.alloc (.cells #[.string ⟨#[53]⟩] 37)) (w10.alloc (.cells #[.string ⟨#[53]⟩] 37)).heap.size (some ⟨w10.heap.size, 0, none⟩) 1 [⟨#[53]⟩]) := Lib.hid (rdStr_lit (zs := [⟨#[53]⟩]) (T := 37) (Blk.new_ (w := w10) (by simp)) (by simp))
 have HB11 := Lib.hid (HB10.out.trans (hz.mono HB10.out.size))
 replace HW := Lib.hid ((HW.out.below hz (Nat.le_refl _)).more hz.size)
 replace HI := Lib.hid ((HI.out.below hz (Nat.le_refl _)).more hz.size)
 clear hz HB10
 generalize w10.alloc (.cells #[.string ⟨#[53]⟩] 37) = w11 at *
 refine (samevec_any A6 1 c6 _ _ 1 1 _ w11 HW.out HLb.out (by decide) (by decide)).mono ?_
 rintro e w12 ⟨rfl, hb12⟩
 rw [decide_eq_true rfl]
 have HB12 := Lib.hid (HB11.out.trans (hb12.mono HB11.out.size))
 replace HI := Lib.hid ((HI.out.below hb12 (Nat.le_refl _)).more hb12.size)
 clear hb12 HB11 HW HLb
 go_wp2_with fail
 have hz : Below w12.heap.size w12 (w12.alloc (.cells #[.int .i64 1, .int .i64 2] 3)) := (Below.refl _ _).alloc (Nat.le_refl _) _
 have HJ : Hid (RdI (w12.alloc (.cells #[.int .i64 1, .int .i64 2] 3)) (w12.alloc (.cells #[.int .i64 1, .int .i64 2] 3)).heap.size (some ⟨w12.heap.size, 0, none⟩) 2 [1, 2]) := Lib.hid (rd_lit (vs := ints [1, 2]) (T := 3) (Blk.new w12 _ _) rfl (by simp))
 have HB13 := Lib.hid (HB12.out.trans (hz.mono HB12.out.size))
 replace HI := Lib.hid ((HI.out.below hz (Nat.le_refl _)).more hz.size)
 clear hz HB12
 generalize w12.alloc (.cells #[.int .i64 1, .int .i64 2] 3) = w13 at *
 refine (sameInts_any A8 2 c8 [1, 2] _ 2 2 [1, 2] w13 HI.out HJ.out (by decide)).mono ?_
 rintro e w14 ⟨rfl, nq, rfl⟩
 have HB14 := Lib.hid (below_drewN HB13.out nq)
 rw [show sameI [1, 2] [1, 2] = true from by decide]
 generalize w13.drewN nq = w14 at *
 go_wp2_with fail
 go_ret
 exact ⟨rfl, HB14.out⟩
end
section
theorem ot_mul {D E B C : Nat} {p q : Rat} (hp : Ot D B p) (hq : Ot E C q) : Ot (D * E) (B * C) (p * q) := by
 obtain ⟨a, h1, h2⟩ := hp
 obtain ⟨b, h3, h4⟩ := hq
 refine ⟨a * b, ?_, ?_⟩
 ·rw [Rat.intCast_mul, ← h1, ← h3, Int.natCast_mul, Rat.intCast_mul]; grind
 ·rw [Int.natAbs_mul]
  have := Nat.mul_le_mul h2 h4
  have e : B * D * (C * E) = B * C * (D * E) := by grind
  omega
theorem ot_zero (D : Nat) : Ot D 0 0 := ⟨0, by rw [Rat.zero_mul]; rfl, by simp⟩
theorem ot_one {D : Nat} : Ot D 1 1 := ⟨(D : Int), by rw [Rat.one_mul], by simp⟩
theorem ot_dvd {D E B : Nat} {q : Rat} (h : Ot D B q) (hd : D ∣ E) : Ot E B q := by
 obtain ⟨a, h1, h2⟩ := h
 obtain ⟨k, rfl⟩ := hd
 refine ⟨a * k, ?_, ?_⟩
 ·rw [Rat.intCast_mul, ← h1, Int.natCast_mul, Rat.intCast_mul, Rat.mul_assoc]
 ·rw [Int.natAbs_mul, Int.natAbs_natCast, ← Nat.mul_assoc]
  exact Nat.mul_le_mul h2 (Nat.le_refl _)
theorem ot_div {n : Int} {d B : Nat} (hd : d ≠ 0) (h : n.natAbs ≤ B * d) : Ot d B (Rat.divInt n d) := by
 refine ⟨n, ?_, h⟩
 rw [Rat.divInt_eq_div, Rat.div_mul_cancel]
 intro e
 have : ((d : Int) : Rat) = ((0 : Int) : Rat) := e
 rw [Rat.intCast_inj] at this
 omega
theorem ot_tn {k : Nat} {q : Rat} (h : Tn k q) : Ot q.den (10 ^ k) q := by
 have h1 := ot_div (n := q.num) (d := q.den) (B := 10 ^ k) q.den_nz (Nat.le_trans (Nat.le_of_lt h.1) (Nat.le_mul_of_pos_right _ (Nat.pos_of_ne_zero q.den_nz)))
 rwa [Rat.num_divInt_den] at h1
theorem tn_ot {D B k : Nat} {q : Rat} (h : Ot D B q) (h0 : D ≠ 0) (h1 : B * D < 10 ^ k) (h2 : D < 10 ^ k) : Tn k q := by
 obtain ⟨a, h3, h4⟩ := h
 have hne : ((D : Int) : Rat) ≠ 0 := by
  intro e
  have : ((D : Int) : Rat) = ((0 : Int) : Rat) := e
  rw [Rat.intCast_inj] at this
  omega
 have e : q = Rat.divInt a D := by
  rw [Rat.divInt_eq_div, ← h3, Rat.mul_div_cancel hne]
 rw [e]
 exact tn_divInt h0 (Nat.lt_of_le_of_lt h4 h1) h2
theorem ot_sum {D B : Nat} : ∀ (n : Nat) (qs : List Rat), qs.length = n → (∀ q ∈ qs, Ot D B q) → Ot D (n * B) (sumR qs)
 | 0, qs, h, _ => by
  rw [List.length_eq_zero_iff] at h
  subst h
  rw [Nat.zero_mul]; exact ot_zero D
 | n + 1, qs, h, hq => by
  obtain ⟨r, q, rfl⟩ : ∃ r q, qs = r ++ [q] := ⟨qs.dropLast, qs.getLast (by rintro rfl; simp at h), (List.dropLast_concat_getLast _).symm⟩
  rw [sumR_snoc, Nat.add_mul, Nat.one_mul]
  exact ot_add (ot_sum n r (by simpa using h) fun q hm => hq q (List.mem_append_left _ hm)) (hq q (by simp))
end
section
open Go.ChangeShapes Go.WideShapes Go.ChangeAt Go.RowKit
def denB (l : List Br) : Nat := l.foldr (fun b d => (b.x * b.tap).toNat * d) 1
theorem denB_dvd : ∀ {l : List Br} {b : Br}, b ∈ l → (b.x * b.tap).toNat ∣ denB l
 | a :: r, b, h => by
  rcases List.mem_cons.1 h with h | h
  ·subst h; exact Nat.dvd_mul_right _ _
  ·exact Nat.dvd_trans (denB_dvd h) (Nat.dvd_mul_left _ _)
theorem br_den {b : Br} (h : b.bad = false) : 500 ≤ (b.x * b.tap).toNat ∧ (b.x * b.tap).toNat < 10 ^ 8 ∧ b.x * b.tap = ((b.x * b.tap).toNat : Int) := by
 have h1 := br_bnd h
 have hk1 : b.x * b.tap ≤ 10000 * 1500 := Int.mul_le_mul h1.2.1 h1.2.2.2.1 (by omega) (by omega)
 have hk2 : 1 * 500 ≤ b.x * b.tap := Int.mul_le_mul h1.1 h1.2.2.1 (by omega) (by omega)
 omega
theorem denB_lt : ∀ {l : List Br}, (∀ b ∈ l, b.bad = false) → denB l ≠ 0 ∧ denB l ≤ (10 ^ 8) ^ l.length
 | [], _ => by simp [denB]
 | a :: r, h => by
  obtain ⟨h1, h2⟩ := denB_lt fun b hb => h b (List.mem_cons_of_mem _ hb)
  have h3 := br_den (h a List.mem_cons_self)
  have e : denB (a :: r) = (a.x * a.tap).toNat * denB r := rfl
  rw [e, List.length_cons, Nat.pow_succ, Nat.mul_comm ((10 ^ 8) ^ r.length)]
  exact ⟨Nat.mul_ne_zero (by omega) h1, Nat.mul_le_mul (by omega) h2⟩
theorem ot_sus {l : List Br} {b : Br} (hb : b ∈ l) (h : b.bad = false) : Ot (denB l) 2000 (susR b) := by
 obtain ⟨h1, h2, h3⟩ := br_den h
 unfold susR
 rw [h3]
 exact ot_dvd (ot_div (by omega) (by show (1000000 : Int).natAbs ≤ _; simp; omega)) (denB_dvd hb)
theorem ot_con {l : List Br} {b : Br} (hb : b ∈ l) (h : b.bad = false) : Ot (denB l * 1000) 2000 (conR b) := by
 have h1 := br_bnd h
 unfold conR
 exact ot_mul (C := 1) (ot_sus hb h) (ot_div (d := 1000) (by decide) (by rw [Int.natAbs_neg]; omega))
theorem zrs_ot (n D : Nat) : FOt n D 0 (zrs n, 0) := by
 refine ⟨by simp [zrs], fun p hp => ?_, ot_zero _⟩
 rw [List.eq_of_mem_replicate hp]
 exact ot_zero _
theorem addx_ot {x : Net} (ok : NetOk x) {n B : Nat} {s : List Rat × Rat} (hs : FOt n (denB x.brs) B s) (hn : n = busN x) {b : Br} (hb : b ∈ x.brs) (mi : Bool) : FOt n (denB x.brs) (B + 4000) (addF (sg mi (susR b)) (busAt x b.fr) (busAt x b.to) s.1, s.2 + sg mi (conR b)) := by
 have hm := ok.br b hb
 exact hs.add mi (by rw [hn]; exact (busAt_ok ok hm.1).2.1) (by rw [hn]; exact (busAt_ok ok hm.2.1).2.1) (ot_sus hb hm.2.2.2) (ot_con hb hm.2.2.2)
theorem injStep_ot {x : Net} (ok : NetOk x) {n B bus : Nat} {s : List Rat × Rat} (hs : FOt n (denB x.brs) B s) (hn : n = busN x) {b : Br} (hb : b ∈ x.brs) : FOt n (denB x.brs) (B + 8000) (injStep bus (busAt x b.fr) (busAt x b.to) (susR b) (conR b) s) := by
 unfold injStep
 dsimp only
 have h1 : FOt n (denB x.brs) (B + 4000) (if busAt x b.fr = bus then (addF (sg false (susR b)) (busAt x b.fr) (busAt x b.to) s.1, s.2 + sg false (conR b)) else s) := by
  split
  ·exact addx_ot ok hs hn hb false
  ·exact hs.mono (by omega)
 split
 ·exact addx_ot ok h1 hn hb true
 ·exact h1.mono (by omega)
theorem injGo_ot {x : Net} (ok : NetOk x) {n bus : Nat} (hn : n = busN x) : ∀ (bs : List Br) (B : Nat) (s : List Rat × Rat), (∀ b ∈ bs, b ∈ x.brs) → FOt n (denB x.brs) B s → FOt n (denB x.brs) (B + 8000 * bs.length) (injGo bus (bs.map susR) (bs.map conR) (bs.map fun b => busAt x b.fr) (bs.map fun b => busAt x b.to) s)
 | [], B, s, _, hs => hs
 | b :: bs, B, s, h, hs => by
  have h1 := injGo_ot ok (bus := bus) hn bs (B + 8000) _ (fun a ha => h a (List.mem_cons_of_mem _ ha)) (injStep_ot ok (bus := bus) hs hn (h b List.mem_cons_self))
  refine FOt.mono (B := B + 8000 + 8000 * bs.length) h1 ?_
  rw [List.length_cons]; omega
theorem inj_maps (x : Net) : mFrom x = (x.brs.map fun b => busAt x b.fr) ∧ mTo x = x.brs.map fun b => busAt x b.to := by
 refine ⟨?_, ?_⟩
 ·unfold mFrom brE; rw [List.map_map]; rfl
 ·unfold mTo brE; rw [List.map_map]; rfl
theorem formR_ot {x : Net} (ok : NetOk x) (hl : x.brs.length ≤ 10) {m : Mi} (hm : MiOk x m) : FOt (busN x) (denB x.brs) 80000 (formR x m) := by
 have hz := zrs_ot (busN x) (denB x.brs)
 unfold formR
 split
 ·rename_i h0
  have h1 := hm.1 h0
  rcases brIdx_spec x m.name with ⟨e, _⟩ | ⟨i, b, e, hb, _⟩
  ·omega
  ·obtain ⟨a1, a2, a3, a4⟩ := mFrom_at hb
   have h2 := addx_ot ok hz rfl (List.mem_of_getElem? hb) false
   simp only [e, Int.toNat_natCast, List.getD_eq_getElem?_getD, vf, a1, a2, a3, a4]
   exact h2.mono (by omega)
 ·split
  ·rename_i h0 h2
   refine ⟨by rw [List.length_set]; exact hz.len, fun p hp => ?_, ot_more hz.fr (by omega)⟩
   rcases List.mem_or_eq_of_mem_set hp with e | e
   ·exact ot_more (hz.cf p e) (by omega)
   ·rw [e]; exact ot_more ot_one (by omega)
  ·have h := injGo_ot ok (bus := busAt x m.name) rfl x.brs 0 _ (fun b hb => hb) hz
   rw [(inj_maps x).1, (inj_maps x).2]
   exact h.mono (by omega)
theorem den_small {x : Net} (ok : NetOk x) (hl : x.brs.length ≤ 10) : denB x.brs ≠ 0 ∧ denB x.brs ≤ 10 ^ 80 := by
 obtain ⟨h1, h2⟩ := denB_lt (l := x.brs) fun b hb => (ok.br b hb).2.2.2
 refine ⟨h1, Nat.le_trans h2 ?_⟩
 rw [← Nat.pow_mul]
 exact Nat.pow_le_pow_right (by decide) (by omega)
theorem ten_le {a b : Nat} (h : a ≤ b) : 10 ^ a ≤ 10 ^ b := Nat.pow_le_pow_right (by decide) h
theorem ten_add {a b c : Nat} (h : a + b ≤ c) : 10 ^ a * 10 ^ b ≤ 10 ^ c := by rw [← Nat.pow_add]; exact ten_le h
theorem ot_fits {D B a b : Nat} {q : Rat} (h : Ot D B q) (h0 : D ≠ 0) (h1 : B ≤ 10 ^ a) (h2 : D ≤ 10 ^ b) (h3 : a + b + 1 ≤ 2000) : Fits q := by
 refine (tn_ot (k := a + b + 1) h h0 ?_ ?_).fits h3
 ·refine Nat.lt_of_le_of_lt (Nat.mul_le_mul h1 h2) ?_
  rw [← Nat.pow_add]
  exact Nat.pow_lt_pow_right (by decide) (by omega)
 ·exact Nat.lt_of_le_of_lt h2 (Nat.pow_lt_pow_right (by decide) (by omega))
theorem form_fits {x : Net} (ok : NetOk x) (hl : x.brs.length ≤ 10) {m : Mi} (hm : MiOk x m) : (∀ q ∈ (formR x m).1, Fits q) ∧ Fits (formR x m).2 := by
 have h := formR_ot ok hl hm
 obtain ⟨h1, h2⟩ := den_small ok hl
 have hD : denB x.brs * 1000 ≤ 10 ^ 83 := by
  have := Nat.mul_le_mul_right 1000 h2
  exact Nat.le_trans this (by decide)
 exact ⟨fun q hq => ot_fits (h.cf q hq) h1 (a := 5) (by decide) h2 (by decide), ot_fits h.fr (Nat.mul_ne_zero h1 (by decide)) (a := 5) (by decide) hD (by decide)⟩
def denQ (l : List Rat) : Nat := l.foldr (fun q d => q.den * d) 1
theorem denQ_dvd : ∀ {l : List Rat} {q : Rat}, q ∈ l → q.den ∣ denQ l
 | a :: r, b, h => by
  rcases List.mem_cons.1 h with h | h
  ·subst h; exact Nat.dvd_mul_right _ _
  ·exact Nat.dvd_trans (denQ_dvd h) (Nat.dvd_mul_left _ _)
theorem denQ_lt {k : Nat} : ∀ {l : List Rat}, (∀ q ∈ l, Tn k q) → denQ l ≠ 0 ∧ denQ l ≤ (10 ^ k) ^ l.length
 | [], _ => by simp [denQ]
 | a :: r, h => by
  obtain ⟨h1, h2⟩ := denQ_lt fun b hb => h b (List.mem_cons_of_mem _ hb)
  have e : denQ (a :: r) = a.den * denQ r := rfl
  rw [e, List.length_cons, Nat.pow_succ, Nat.mul_comm ((10 ^ k) ^ r.length)]
  exact ⟨Nat.mul_ne_zero a.den_nz h1, Nat.mul_le_mul (Nat.le_of_lt (h a List.mem_cons_self).2) h2⟩
def denM (x : Net) (al : List Rat) : Nat := denB x.brs * denQ al * 1000
theorem term_ot {x : Net} {n : Nat} {s : List Rat × Rat} {al : List Rat} (h : FOt n (denB x.brs) 80000 s) (ha : ∀ q ∈ al, Tn 25 q) : ∀ q ∈ List.zipWith (· * ·) s.1 al, Ot (denM x al) (80000 * 10 ^ 25) q := fun q hq => by
 obtain ⟨i, hi⟩ := List.mem_iff_getElem?.1 hq
 rw [List.getElem?_zipWith] at hi
 split at hi
 ·rename_i a b h1 h2
  injection hi with hi
  subst hi
  have hb := List.mem_of_getElem? h2
  exact ot_dvd (ot_mul (h.cf a (List.mem_of_getElem? h1)) (ot_dvd (ot_tn (ha b hb)) (denQ_dvd hb))) (Nat.dvd_mul_right _ _)
 ·cases hi
theorem part_ot {x : Net} {n : Nat} {s : List Rat × Rat} {al : List Rat} (h : FOt n (denB x.brs) 80000 s) (hn : n ≤ 8) (ha : ∀ q ∈ al, Tn 25 q) (k : Nat) : Ot (denM x al) (10 ^ 32) (s.2 + sumR ((List.zipWith (· * ·) s.1 al).take k)) := by
 have h1 : Ot (denM x al) 80000 s.2 := ot_dvd h.fr (by unfold denM; exact Nat.mul_dvd_mul (Nat.dvd_mul_right _ _) (Nat.dvd_refl _))
 have h2 := ot_sum (D := denM x al) (B := 80000 * 10 ^ 25) _ ((List.zipWith (· * ·) s.1 al).take k) rfl fun q hq => term_ot h ha q (List.mem_of_mem_take hq)
 have hl : ((List.zipWith (· * ·) s.1 al).take k).length ≤ 8 := by
  rw [List.length_take, List.length_zipWith, h.len]; omega
 refine ot_more (ot_add h1 h2) ?_
 have := Nat.mul_le_mul_right (80000 * 10 ^ 25) hl
 refine Nat.le_trans (Nat.add_le_add_left this _) (by decide)
theorem denM_small {x : Net} (ok : NetOk x) (hl : x.brs.length ≤ 10) {al : List Rat} (ha : ∀ q ∈ al, Tn 25 q) (hn : al.length ≤ 8) : denM x al ≠ 0 ∧ denM x al ≤ 10 ^ 283 := by
 obtain ⟨h1, h2⟩ := den_small ok hl
 obtain ⟨h3, h4⟩ := denQ_lt ha
 have h5 : denQ al ≤ 10 ^ 200 := by
  refine Nat.le_trans h4 ?_
  rw [← Nat.pow_mul]
  exact ten_le (by omega)
 unfold denM
 refine ⟨Nat.mul_ne_zero (Nat.mul_ne_zero h1 h3) (by decide), ?_⟩
 have h6 := ten_add (a := 80) (b := 200) (c := 280) (by decide)
 have h7 := ten_add (a := 280) (b := 3) (c := 283) (by decide)
 have h8 := Nat.mul_le_mul_right (10 ^ 3) (Nat.le_trans (Nat.mul_le_mul h2 h5) h6)
 exact Nat.le_trans h8 h7
theorem part_fits {x : Net} (ok : NetOk x) (hl : x.brs.length ≤ 10) (hb : busN x ≤ 8) {m : Mi} (hm : MiOk x m) {al : List Rat} (ha : ∀ q ∈ al, Tn 25 q) (hn : al.length ≤ 8) (k : Nat) : Fits ((formR x m).2 + sumR ((List.zipWith (· * ·) (formR x m).1 al).take k)) := by
 obtain ⟨h1, h2⟩ := denM_small ok hl ha hn
 exact ot_fits (part_ot (formR_ot ok hl hm) hb ha k) h1 (a := 32) (Nat.le_refl _) h2 (by decide)
theorem term_fits {x : Net} (ok : NetOk x) (hl : x.brs.length ≤ 10) {m : Mi} (hm : MiOk x m) {al : List Rat} (ha : ∀ q ∈ al, Tn 25 q) (hn : al.length ≤ 8) : ∀ q ∈ List.zipWith (· * ·) (formR x m).1 al, Fits q := fun q hq => by
 obtain ⟨h1, h2⟩ := denM_small ok hl ha hn
 exact ot_fits (term_ot (formR_ot ok hl hm) ha q hq) h1 (a := 30) (by decide) h2 (by decide)
theorem mval_part {x : Net} {m : Mi} {al : List Rat} : mval x al m = (formR x m).2 + sumR ((List.zipWith (· * ·) (formR x m).1 al).take (formR x m).1.length) := by
 unfold mval dotR
 rw [List.take_of_length_le (by rw [List.length_zipWith]; exact Nat.min_le_left _ _), Rat.add_comm]
end
section
open Go.ChangeShapes Go.WideShapes Go.ChangeAt Go.RowKit
attribute [local go_sem ↓] execOp_call_val
attribute [local go_sem] callVal_func setCell_drewN alloc_drewN sEq_walk
theorem txt_mx {q : Rat} (h : Fits q) : (txtQ q).size ≤ maxLen := by have := txt_size h; unfold maxLen; omega
theorem small_all {x : Net} {ms : List Mi} {v : Vc} (h : smallR x ms [v] = true) : x.nodes.length ≤ 8 ∧ x.brs.length ≤ 10 ∧ (∀ m ∈ ms, m.txt.size ≤ maxLen) ∧ ∀ s ∈ v.ss, s.size ≤ 24 := by
 unfold smallR tinyV at h
 simp only [Bool.and_eq_true, decide_eq_true_eq, List.all_eq_true, List.mem_singleton, forall_eq] at h
 exact ⟨h.1.1.1, h.1.1.2, fun m hm => Nat.le_trans (h.1.2 m hm) (by decide), h.2⟩
theorem rdVc_v {w : World} {T : Nat} {A : Option Addr} {n c : Nat} {ss : List ByteArray} (h : RdStr w w.heap.size A n ss) (hn : n ≤ 9223372036854775807) : RdVc (w.alloc (.cells #[.slice A n c] T)) (w.alloc (.cells #[.slice A n c] T)).heap.size (some ⟨w.heap.size, 0, none⟩) 1 [⟨A, n, c, ss⟩] := by
 have hb : Below w.heap.size w (w.alloc (.cells #[.slice A n c] T)) := (Below.refl _ _).alloc (Nat.le_refl _) _
 refine ⟨rfl, ⟨rfl, fun _ => ⟨w.heap.size, 0, rfl, (Blk.new w T _).lt, fun j u hu => ?_⟩⟩, fun v hv => ?_⟩
 ·rw [Nat.zero_add, (Blk.new w T #[.slice A n c]).cell j]
  simpa [Vc.cells] using hu
 ·rw [List.mem_singleton.1 hv]
  exact ⟨(h.below hb (Nat.le_refl _)).more hb.size, hn⟩
def partR (x : Net) (m : Mi) (al : List Rat) (k : Nat) : Rat := (formR x m).2 + sumR ((List.zipWith (· * ·) (formR x m).1 al).take k)
theorem partR_step {x : Net} {m : Mi} {al : List Rat} {k : Nat} {a b : Rat} (h1 : (formR x m).1[k]? = some a) (h2 : al[k]? = some b) : partR x m al (k + 1) = partR x m al k + a * b := by
 unfold partR
 rw [dotR_step h1 h2, Rat.add_assoc]
set_option maxRecDepth 100000 in
set_option maxHeartbeats 4000000 in
theorem mreads_any (h : NetH) (x : Net) (A : Option Addr) (n c : Nat) (ms0 : List Mi) (B : Option Addr) (q d : Nat) (ss : List ByteArray) (w : World) (r : RdNet w w.heap.size h x) (hm : RdMi w w.heap.size A n ms0) (hR : RdStr w w.heap.size B q ss) (hnc : n ≤ c) (hc : c ≤ 9223372036854775807) (hq : q ≤ 9223372036854775807) (ht : TabOk w) :
    Calls Tryz.prog 9 #[.agg h.cells, .slice A n c, .slice B q d] w fun e w' => e = .returned (.bool true) ∧ Below w.heap.size w w' := by
 obtain ⟨k, hk8, hkn, hmin⟩ : ∃ k : Nat, k ≤ 8 ∧ k ≤ n ∧ min (n : Int) 8 = (k : Int) := by
  by_cases h : (8 : Int) < (n : Int)
  ·exact ⟨8, by omega, by omega, by omega⟩
  ·exact ⟨n, by omega, by omega, by omega⟩
 have hkc : (k : Int) ≤ (c : Int) := by omega
 have HK8 := Lib.hid hk8
 have hm1 := hm.take hkn
 generalize hms : ms0.take k = ms at *
 clear hms hm
 have K0 : Below w.heap.size w (w.alloc (.cells h.cells 33)) := (Below.refl _ _).alloc (Nat.le_refl _) _
 have HK := Lib.hid K0
 have P0 := Lib.hid (Blk.new w 33 h.cells)
 have HX := Lib.hid (r.up K0)
 have HM := Lib.hid ((hm1.below K0 (Nat.le_refl _)).more K0.size)
 have HS := Lib.hid ((hR.below K0 (Nat.le_refl _)).more K0.size)
 have HT := Lib.hid (ht.up K0)
 have HML : Hid (ms.length = k) := Lib.hid hm1.1
 have HSL : Hid (ss.length = q) := Lib.hid hR.1
 clear K0 hm1 r ht hR
 obtain ⟨D0, r0, s0, D1, r1, s1, D2, r2, s2, D3, r3, s3, D4, r4, s4, D5, r5, s5⟩ := h
 go_enter Tryz.func9, Tryz.ntmps9
 go_wp2_with fail
 have HSZ : Hid (w.heap.size ≤ (w.alloc (.cells (NetH.cells ⟨D0, r0, s0, D1, r1, s1, D2, r2, s2, D3, r3, s3, D4, r4, s4, D5, r5, s5⟩) 33)).heap.size) := Lib.hid HK.out.size
 generalize w.alloc (.cells (NetH.cells ⟨D0, r0, s0, D1, r1, s1, D2, r2, s2, D3, r3, s3, D4, r4, s4, D5, r5, s5⟩) 33) = W at *
 refine (mworks_any W HT.out).mono ?_
 rintro e w1 ⟨rfl, hb1⟩
 have HB1 := Lib.hid (HK.out.trans (hb1.mono HSZ.out))
 replace HX := Lib.hid (HX.out.up hb1)
 replace HM := Lib.hid ((HM.out.below hb1 (Nat.le_refl _)).more hb1.size)
 replace HS := Lib.hid ((HS.out.below hb1 (Nat.le_refl _)).more hb1.size)
 replace P0 := Lib.hid (P0.out.below hb1 P0.out.lt)
 replace HT := Lib.hid (HT.out.up hb1)
 clear hb1 HK HSZ
 have PNX := P0.out
 obtain ⟨y0, y1, y2, y3, y4, y5, nf, nlt⟩ := net_box (h := ⟨D0, r0, s0, D1, r1, s1, D2, r2, s2, D3, r3, s3, D4, r4, s4, D5, r5, s5⟩) PNX
 dsimp only at y0 y1 y2 y3 y4 y5
 clear PNX
 go_wp2_with fail
 clear y0 y1 y2 y3 y4 y5 nf nlt
 have hz : Below w1.heap.size w1 (w1.alloc (.cells #[.slice B q d] 23)) := (Below.refl _ _).alloc (Nat.le_refl _) _
 have HVC := Lib.hid (rdVc_v (T := 23) (c := d) HS.out hq)
 have HB1b := Lib.hid (HB1.out.trans (hz.mono HB1.out.size))
 replace HX := Lib.hid (HX.out.up hz)
 replace HM := Lib.hid ((HM.out.below hz (Nat.le_refl _)).more hz.size)
 replace HS := Lib.hid ((HS.out.below hz (Nat.le_refl _)).more hz.size)
 replace P0 := Lib.hid (P0.out.below hz P0.out.lt)
 replace HT := Lib.hid (HT.out.up hz)
 clear hz HB1
 generalize w1.alloc (.cells #[.slice B q d] 23) = w1b at *
 refine (small_any ⟨D0, r0, s0, D1, r1, s1, D2, r2, s2, D3, r3, s3, D4, r4, s4, D5, r5, s5⟩ x A k c ms _ 1 1 [⟨B, q, d, ss⟩] w1b HX.out HM.out HVC.out (by omega) (by decide)).mono ?_
 rintro e w2 ⟨rfl, hb2⟩
 have HB2 := Lib.hid (HB1b.out.trans (hb2.mono HB1b.out.size))
 replace HX := Lib.hid (HX.out.up hb2)
 replace HM := Lib.hid ((HM.out.below hb2 (Nat.le_refl _)).more hb2.size)
 replace HS := Lib.hid ((HS.out.below hb2 (Nat.le_refl _)).more hb2.size)
 replace P0 := Lib.hid (P0.out.below hb2 P0.out.lt)
 replace HT := Lib.hid (HT.out.up hb2)
 clear HVC
 clear hb2 HB1b
 cases hsm : smallR x ms [⟨B, q, d, ss⟩] with
 | false =>
  go_wp2_with fail
  go_ret
  exact ⟨rfl, HB2.out⟩
 | true =>
  obtain ⟨h8, h10, hz, hs24⟩ := small_all hsm
  have HZ := Lib.hid hz
  have HS24 : Hid (∀ s ∈ ss, s.size ≤ 24) := Lib.hid hs24
  have HSM : Hid (∀ s ∈ ss, s.size ≤ maxLen) := Lib.hid fun s hs => Nat.le_trans (hs24 s hs) (by decide)
  have H10 := Lib.hid h10
  clear hsm hz hs24 h10
  have PNX := P0.out
  obtain ⟨y0, y1, y2, y3, y4, y5, nf, nlt⟩ := net_box (h := ⟨D0, r0, s0, D1, r1, s1, D2, r2, s2, D3, r3, s3, D4, r4, s4, D5, r5, s5⟩) PNX
  dsimp only at y0 y1 y2 y3 y4 y5
  clear PNX
  go_wp2_with fail
  clear y0 y1 y2 y3 y4 y5 nf nlt
  refine (mread_any ⟨D0, r0, s0, D1, r1, s1, D2, r2, s2, D3, r3, s3, D4, r4, s4, D5, r5, s5⟩ x h8 A k c ms B q d ss w2 HX.out HM.out HS.out HZ.out HSM.out (by omega) hq HT.out).mono ?_
  rintro e w3 ⟨hb3, hh⟩
  have HB3 := Lib.hid (HB2.out.trans (hb3.mono HB2.out.size))
  replace HX := Lib.hid (HX.out.up hb3)
  replace HM := Lib.hid ((HM.out.below hb3 (Nat.le_refl _)).more hb3.size)
  replace HS := Lib.hid ((HS.out.below hb3 (Nat.le_refl _)).more hb3.size)
  replace P0 := Lib.hid (P0.out.below hb3 P0.out.lt)
  replace HT := Lib.hid (HT.out.up hb3)
  clear hb3 HB2
  rcases hh with ⟨hre, rfl⟩ | ⟨hre, hf1, -⟩
  ·have hB : (readE x ms ss != 0) = true := by simp [hre]
   go_wp2_with fail
   go_ret
   exact ⟨rfl, HB3.out⟩
  ·obtain ⟨hck, hsl, hsv⟩ := readE_parts hre
   have HCK := Lib.hid hck
   have HSV := Lib.hid hsv
   have HOK := Lib.hid (mtCk_ok hck).1
   have HMI := Lib.hid (mtCk_ok hck).2.2
   have HNB : Hid (busN x ≤ 8) := Lib.hid (Nat.le_trans (busN_ok HOK.out).2 h8)
   have HQB : Hid (q = busN x) := Lib.hid (HSL.out.symm.trans hsl)
   have HAT : Hid (∀ t ∈ ss.map qOf, Tn 25 t) := Lib.hid fun t ht => by
    obtain ⟨s, hs, rfl⟩ := List.mem_map.1 ht
    exact tn_tiny (HSV.out s hs) (HS24.out s hs)
   have HAL : Hid ((ss.map qOf).length ≤ 8) := Lib.hid (by rw [List.length_map, HSL.out, HQB.out]; exact HNB.out)
   have HFI : Hid (∀ t ∈ mvals x ms ss, Fits t) := Lib.hid fun t ht => by
    unfold mvals at ht
    obtain ⟨m, hm, rfl⟩ := List.mem_map.1 ht
    rw [mval_part]
    exact part_fits HOK.out H10.out HNB.out (HMI.out m hm) HAT.out HAL.out _
   obtain ⟨A3, n3, c3, rfl, hr3, -, -⟩ := hf1 HFI.out
   have hn3 : n3 = k := by rw [← hr3.1, List.length_map]; unfold mvals; rw [List.length_map]; exact HML.out
   subst hn3
   have HR3 := Lib.hid hr3
   clear hck hsl hsv hf1 hr3 hre
   go_wp2_with fail
   go_loopw [47] (fun v47 wr => ∃ j : Nat, j ≤ n3 ∧ v47 = .int .i64 j ∧ Below w3.heap.size w3 wr) (fun v47 _ => n3 - (intOf v47).toNat)
   case atStart => exact ⟨0, by omega, rfl, Below.refl _ _⟩
   case round =>
    obtain ⟨j, hj, rfl, hb⟩ := hrel
    have HB := Lib.hid hb
    clear hb
    by_cases hlt : j < n3
    ·obtain ⟨m, hm⟩ : ∃ m, ms[j]? = some m := ⟨_, List.getElem?_eq_getElem (by have := HML.out; omega)⟩
     have HMM := Lib.hid (List.mem_of_getElem? hm)
     have HMJ := Lib.hid hm
     have hmm := (HM.out.below HB.out (Nat.le_refl _)).more HB.out.size
     obtain ⟨mb, mo, hA, hmb, -⟩ := hmm.2.2 (by omega)
     subst hA
     obtain ⟨a0, a1, a2, a3⟩ := hmm.at_ hm
     have hjI : (j : Int) < (n3 : Int) := by omega
     have hj0 : (0 : Int) ≤ (j : Int) := by omega
     have hjn : (j : Int).toNat = j := Int.toNat_natCast j
     have HNX : Hid ((j : Int) + 1 = ((j + 1 : Nat) : Int)) := Lib.hid (by omega)
     have HNM : Hid (n3 - (j + 1) < n3 - j) := Lib.hid (by omega)
     have HLT := Lib.hid hlt
     clear hm hmm
     go_upto_region 14 with fail
     clear a0 a1 a2 a3 hmb hjI hj0 hjn
     have hz : Below wr.heap.size wr (wr.alloc (.cells #[.int .i64 m.kind, .string m.name, .string m.txt, .int .i64 m.wt] 57)) := (Below.refl _ _).alloc (Nat.le_refl _) _
     have HMB := Lib.hid (Blk.new wr 57 #[.int .i64 m.kind, .string m.name, .string m.txt, .int .i64 m.wt])
     have HBA : Hid (Below w3.heap.size w3 (wr.alloc (.cells #[.int .i64 m.kind, .string m.name, .string m.txt, .int .i64 m.wt] 57))) := Lib.hid (HB.out.trans (hz.mono HB.out.size))
     clear hz HB
     generalize wr.alloc (.cells #[.int .i64 m.kind, .string m.name, .string m.txt, .int .i64 m.wt] 57) = wa at *
     generalize wr.heap.size = gm at *
     have PNX := P0.out.below HBA.out P0.out.lt
     obtain ⟨y0, y1, y2, y3, y4, y5, nf, nlt⟩ := net_box (h := ⟨D0, r0, s0, D1, r1, s1, D2, r2, s2, D3, r3, s3, D4, r4, s4, D5, r5, s5⟩) PNX
     dsimp only at y0 y1 y2 y3 y4 y5
     clear PNX
     have x0 := HMB.out.cell 0
     have x1 := HMB.out.cell 1
     have x2 := HMB.out.cell 2
     have x3 := HMB.out.cell 3
     have xl := HMB.out.lt
     go_wp2_with fail
     clear y0 y1 y2 y3 y4 y5 nf nlt x0 x1 x2 x3 xl
     refine (mof_any ⟨D0, r0, s0, D1, r1, s1, D2, r2, s2, D3, r3, s3, D4, r4, s4, D5, r5, s5⟩ x h8 m wa (HX.out.up HBA.out) (HZ.out m HMM.out) (HT.out.up HBA.out) (fun _ => form_fits HOK.out H10.out (HMI.out m HMM.out))).mono ?_
     rintro e w5 ⟨hb5, hh⟩
     have HB5 := Lib.hid (HBA.out.trans (hb5.mono HBA.out.size))
     clear hb5 HBA HMB
     rcases hh with ⟨h0, _⟩ | ⟨_, A5, c5, rfl, hr5⟩
     ·exact absurd (mtCk_sub HCK.out (fun a ha => by rw [List.mem_singleton.1 ha]; exact HMM.out) (by simp)) h0
     have HR5 := Lib.hid hr5
     clear hr5
     have HFL : Hid ((formR x m).1.length = q) := Lib.hid (by rw [HQB.out]; exact (formR_ok HOK.out (HMI.out m HMM.out)).len)
     have HPF : Hid (∀ k, Fits (partR x m (ss.map qOf) k)) := Lib.hid fun k => part_fits HOK.out H10.out HNB.out (HMI.out m HMM.out) HAT.out HAL.out k
     have HCF := Lib.hid (form_fits HOK.out H10.out (HMI.out m HMM.out)).1
     have HTF := Lib.hid (term_fits HOK.out H10.out (HMI.out m HMM.out) HAT.out HAL.out)
     have HP0 : Hid (partR x m (ss.map qOf) 0 = (formR x m).2) := Lib.hid (by unfold partR; rw [List.take_zero]; exact Rat.add_zero _)
     have HPE : Hid (partR x m (ss.map qOf) q = mval x (ss.map qOf) m) := Lib.hid (by rw [mval_part, HFL.out]; rfl)
     have HPS : Hid (∀ i a b, (formR x m).1[i]? = some a → (ss.map qOf)[i]? = some b → partR x m (ss.map qOf) (i + 1) = partR x m (ss.map qOf) i + a * b) := Lib.hid fun i a b h1 h2 => partR_step h1 h2
     have HTM : Hid (∀ i a b, (formR x m).1[i]? = some a → (ss.map qOf)[i]? = some b → Fits (a * b)) := Lib.hid fun i a b h1 h2 => HTF.out _ (List.mem_of_getElem? (i := i) (by rw [List.getElem?_zipWith, h1, h2]))
     rw [← HP0.out]
     rw [← HQB.out] at HR5 ⊢
     generalize partR x m (ss.map qOf) = pr at *
     generalize (formR x m).1 = co at *
     clear HTF HP0
     have hqB : ((q : Int) != (q : Int)) = false := by simp
     have hq8 : q ≤ 8 := by rw [HQB.out]; exact HNB.out
     go_wp2_with fail
     go_loopw [12, 70] (fun v12 v70 wr => ∃ i : Nat, i ≤ q ∧ v70 = .int .i64 i ∧ v12 = .string (txtQ (pr i)) ∧ Below w5.heap.size w5 wr) (fun _ v70 _ => q - (intOf v70).toNat)
     case atStart => exact ⟨0, by omega, rfl, rfl, Below.refl _ _⟩
     case round =>
      obtain ⟨i, hi, rfl, rfl, hb⟩ := hrel
      have HB6 := Lib.hid hb
      clear hb
      by_cases hlt2 : i < q
      ·obtain ⟨a, ha⟩ : ∃ a, co[i]? = some a := ⟨_, List.getElem?_eq_getElem (by rw [HFL.out]; exact hlt2)⟩
       obtain ⟨s, hs⟩ : ∃ s, ss[i]? = some s := ⟨_, List.getElem?_eq_getElem (by rw [HSL.out]; exact hlt2)⟩
       have hsq : (ss.map qOf)[i]? = some (qOf s) := by rw [List.getElem?_map, hs]; rfl
       have HSV2 := Lib.hid (HSV.out s (List.mem_of_getElem? hs))
       have HSZ2 := Lib.hid (HSM.out s (List.mem_of_getElem? hs))
       have HAF := Lib.hid (HCF.out a (List.mem_of_getElem? ha))
       have HST := Lib.hid (HPS.out i a _ ha hsq)
       have HTT := Lib.hid (HTM.out i a _ ha hsq)
       have hv5 := (HR5.out.below HB6.out (Nat.le_refl _))
       obtain ⟨vb, vo, hA, hvb⟩ := hv5.form (by omega)
       subst hA
       have cv := hv5.at_ (x := txtQ a) (by rw [List.getElem?_map, ha]; rfl)
       have hbx := HB5.out.trans (HB6.out.mono HB5.out.size)
       have hss := HS.out.below hbx (Nat.le_refl _)
       obtain ⟨sb, so, hA, hsb⟩ := hss.form (by omega)
       subst hA
       have cs := hss.at_ hs
       have hvl : vb < wr.heap.size := Nat.lt_of_lt_of_le hvb HB6.out.size
       have hsl : sb < wr.heap.size := Nat.lt_of_lt_of_le hsb hbx.size
       have hiI : (i : Int) < (q : Int) := by omega
       have hi0 : (0 : Int) ≤ (i : Int) := by omega
       have hin : (i : Int).toNat = i := Int.toNat_natCast i
       have HNY : Hid ((i : Int) + 1 = ((i + 1 : Nat) : Int)) := Lib.hid (by omega)
       have HNZ : Hid (q - (i + 1) < q - i) := Lib.hid (by omega)
       have HLI := Lib.hid hlt2
       have HT6 := Lib.hid (HT.out.up hbx)
       clear ha hs hsq hv5 hss hvb hsb hbx
       go_upto_region 20 with fail
       refine wp_region_last (S := fun w' => Below wr.heap.size wr w') 11 _ (by kernel_rfl) (by kernel_rfl) rfl (below_drew (Below.refl _ _)) (fun hHeld => ?_)
       simp only [List.take_succ_cons, List.take_zero]
       refine tkH 0 rfl (by intro w' _ hcc; go_simp <;> with_reducible rfl) hHeld ?_
       try simp only [Act.put, sA_, sB_, sC_]
       refine tkH 1 rfl (by intro w' _ hcc; go_simp <;> with_reducible rfl) hHeld ?_
       try simp only [Act.put, sA_, sB_, sC_]
       refine tkH 2 rfl (by intro w' _ hcc; go_simp <;> with_reducible rfl) hHeld ?_
       try simp only [Act.put, sA_, sB_, sC_]
       refine tkH 3 rfl (by intro w' _ hcc; go_simp <;> with_reducible rfl) hHeld ?_
       try simp only [Act.put, sA_, sB_, sC_]
       refine tkH 4 rfl (by intro w' _ hcc; go_simp <;> with_reducible rfl) hHeld ?_
       try simp only [Act.put, sA_, sB_, sC_]
       refine tkH 5 rfl (by intro w' _ hcc; go_simp <;> with_reducible rfl) hHeld ?_
       try simp only [Act.put, sA_, sB_, sC_]
       refine tkH 6 rfl (by intro w' _ hcc; go_simp <;> with_reducible rfl) hHeld ?_
       try simp only [Act.put, sA_, sB_, sC_]
       refine tkH 7 rfl (by intro w' _ hcc; go_simp <;> with_reducible rfl) hHeld ?_
       try simp only [Act.put, sA_, sB_, sC_]
       refine tkH 8 rfl (by intro w' _ hcc; go_simp <;> with_reducible rfl) hHeld ?_
       try simp only [Act.put, sA_, sB_, sC_]
       clear cv cs hvl hsl hiI hi0 hin
       have HV0 := Lib.hid (below_drew (Below.refl wr.heap.size wr))
       generalize wr.drew = v0 at *
       refine stepH 9 (by kernel_rfl) rfl (fun K hK => ?_)
       go_simp
       refine (times_any (txtQ a) s (txt_mx HAF.out) HSZ2.out v0 (HT6.out.up HV0.out)).mono ?_
       rintro e v1 ⟨rfl, hb1⟩
       have hto : opS (fun p q => p * q) (txtQ a) s = txtQ (a * qOf s) := by
        have h := txt_op (f := fun p q => p * q) HAF.out (valid_fits HSV2.out) HTT.out
        rw [valid_txt HSV2.out] at h
        exact h
       rw [hto]
       have HV1 : Hid (Below wr.heap.size wr v1) := Lib.hid (HV0.out.trans (hb1.mono HV0.out.size))
       clear hb1 HV0 hto
       go_simp
       refine hK.out _ _ ?_ (fun hHeld => ?_)
       ·exact HV1.out
       clear hK K
       try simp only [Act.put, sA_, sB_, sC_]
       refine stepH 10 (by kernel_rfl) rfl (fun K hK => ?_)
       go_simp
       refine (plus_any (txtQ (pr i)) (txtQ (a * qOf s)) (txt_mx (HPF.out i)) (txt_mx HTT.out) v1 (HT6.out.up HV1.out)).mono ?_
       rintro e v2 ⟨rfl, hb2⟩
       have hto : opS (fun p q => p + q) (txtQ (pr i)) (txtQ (a * qOf s)) = txtQ (pr (i + 1)) := by
        have h := txt_op (f := fun p q => p + q) (HPF.out i) HTT.out (by rw [← HST.out]; exact HPF.out _)
        rw [HST.out]
        exact h
       rw [hto]
       have HV2 : Hid (Below wr.heap.size wr v2) := Lib.hid (HV1.out.trans (hb2.mono HV1.out.size))
       clear hb2 HV1 hto
       go_simp
       refine hK.out _ _ ?_ (fun hHeld => ?_)
       ·exact HV2.out
       clear hK K
       try simp only [Act.put, sA_, sB_, sC_]
       refine wpAnyH_done (by kernel_rfl) ?_ _
       refine lastQ_go (by rfl) ?_
       clear hHeld
       have hlt2 : i < q := HLI.out
       go_wp2_with fail
       go_roundw
       case rel => exact ⟨i + 1, HLI.out, val_int HNY.out, rfl, HB6.out.trans (HV2.out.mono HB6.out.size)⟩
       case measure => exact HNZ.out
      ·have hie : i = q := by omega
       subst hie
       have hiI : ¬ (i : Int) < (i : Int) := by omega
       have hbx := HB5.out.trans (HB6.out.mono HB5.out.size)
       have hr := HR3.out.below hbx (Nat.le_refl _)
       obtain ⟨rb, ro, hA, hrb⟩ := hr.form (by have := HLT.out; omega)
       subst hA
       have cr := hr.at_ (i := j) (x := txtQ (pr i)) (by rw [List.getElem?_map]; unfold mvals; rw [List.getElem?_map, HMJ.out]; exact congrArg (fun t => some (txtQ t)) HPE.out.symm)
       have hrl : rb < wr.heap.size := Nat.lt_of_lt_of_le hrb hbx.size
       have hjI : (j : Int) < (n3 : Int) := by have := HLT.out; omega
       have hj0 : (0 : Int) ≤ (j : Int) := by omega
       have hjn : (j : Int).toNat = j := Int.toNat_natCast j
       have HBX := Lib.hid hbx
       have hn8 : n3 ≤ 8 := HK8.out
       have hlt : j < n3 := HLT.out
       clear hr hrb hbx
       generalize txtQ (pr i) = tt at *
       go_wp2_with fail
       go_roundw
       case rel => exact ⟨j + 1, HLT.out, val_int HNX.out, HBX.out⟩
       case measure => exact HNM.out
    ·have hje : j = n3 := by omega
     subst hje
     have hjI : ¬ (j : Int) < (j : Int) := by omega
     go_wp2_with fail
     go_ret
     exact ⟨rfl, HB3.out.trans (HB.out.mono HB3.out.size)⟩
end
section
open Go.ChangeShapes Go.WideShapes Go.ChangeAt Go.RowKit
theorem ck_nodup {nodes : List ByteArray} : ∀ (l seen : List ByteArray), (ckList (fNode nodes) id seen l).1 = 0 → l.Nodup ∧ ∀ a ∈ l, a ∉ seen
 | [], seen, _ => ⟨List.nodup_nil, fun a h => by cases h⟩
 | y :: r, seen, h => by
  unfold ckList at h
  split at h
  ·rename_i h0; exact absurd h h0
  ·rename_i h0
   have hd := (devR_ok (Decidable.not_not.1 h0)).2.2.2
   have hy : y ∉ seen := fun hm => hd (List.any_eq_true.2 ⟨y, hm, sEq_iff.2 rfl⟩)
   obtain ⟨h1, h2⟩ := ck_nodup r (y :: seen) h
   refine ⟨List.nodup_cons.2 ⟨fun hm => h2 y hm List.mem_cons_self, h1⟩, fun a ha => ?_⟩
   rcases List.mem_cons.1 ha with e | e
   ·rw [e]; exact hy
   ·exact fun hm => h2 a e (List.mem_cons_of_mem _ hm)
theorem nodes_nodup {x : Net} (h : netCk x = 0) : x.nodes.Nodup := by
 unfold netCk at h
 split at h
 ·omega
 ·unfold ck0 at h
  split at h
  ·rename_i h0; exact absurd h h0
  ·rename_i h0
   exact (ck_nodup _ _ (Decidable.not_not.1 h0)).1
theorem ndIdx_at {nodes : List ByteArray} (hn : nodes.Nodup) {i : Nat} {s : ByteArray} (h : nodes[i]? = some s) : ndIdx nodes s = i := by
 rcases idxGo_spec (fun y => sEq s y) nodes 0 with ⟨_, h2⟩ | ⟨j, y, h1, h2, h3, _⟩
 ·exact absurd rfl (sEq_ff.1 (h2 s (List.mem_of_getElem? h)))
 ·have hy : y = s := (sEq_iff.1 h3).symm
  subst hy
  have e := (List.getElem?_inj (List.getElem?_eq_some_iff.1 h2).1 hn).1 (h2.trans h.symm)
  unfold ndIdx
  rw [h1]
  simp; omega
def lsum : List Rat → Rat
 | [] => 0
 | a :: r => a + lsum r
theorem foldl_lsum : ∀ (l : List Rat) (a : Rat), l.foldl (· + ·) a = a + lsum l
 | [], a => (Rat.add_zero a).symm
 | b :: r, a => by
  rw [List.foldl_cons, foldl_lsum r (a + b)]
  show a + b + lsum r = a + (b + lsum r)
  rw [Rat.add_assoc]
theorem sumR_lsum (l : List Rat) : sumR l = lsum l := by
 unfold sumR
 rw [foldl_lsum, Rat.zero_add]
theorem lsum_add {α : Type} (f g : α → Rat) : ∀ l : List α, lsum (l.map fun a => f a + g a) = lsum (l.map f) + lsum (l.map g)
 | [] => (Rat.add_zero 0).symm
 | a :: r => by
  have := lsum_add f g r
  show f a + g a + lsum (r.map fun a => f a + g a) = f a + lsum (r.map f) + (g a + lsum (r.map g))
  rw [this]; grind
theorem lsum_neg {α : Type} (f : α → Rat) : ∀ l : List α, lsum (l.map fun a => -(f a)) = -(lsum (l.map f))
 | [] => by show (0 : Rat) = -0; decide +kernel
 | a :: r => by
  have := lsum_neg f r
  show -(f a) + lsum (r.map fun a => -(f a)) = -(f a + lsum (r.map f))
  rw [this]; grind
theorem lsum_none (t : Rat) (u : Nat) : ∀ l : List Nat, u ∉ l → lsum (l.map fun a => if u = a then t else 0) = 0
 | [], _ => rfl
 | a :: r, h => by
  have h1 : ¬ u = a := fun e => h (by rw [e]; exact List.mem_cons_self)
  have h2 := lsum_none t u r fun hm => h (List.mem_cons_of_mem _ hm)
  show (if u = a then t else 0) + lsum (r.map fun a => if u = a then t else 0) = 0
  rw [if_neg h1, h2]; decide +kernel
theorem lsum_one (t : Rat) (u : Nat) : ∀ l : List Nat, l.Nodup → u ∈ l → lsum (l.map fun a => if u = a then t else 0) = t
 | a :: r, hn, h => by
  obtain ⟨hn1, hn2⟩ := List.nodup_cons.1 hn
  show (if u = a then t else 0) + lsum (r.map fun a => if u = a then t else 0) = t
  by_cases e : u = a
  ·subst e
   rw [if_pos rfl, lsum_none t u r hn1]; exact Rat.add_zero t
  ·rw [if_neg e, lsum_one t u r hn2 ((List.mem_cons.1 h).resolve_left e), Rat.zero_add]
def flowT (x : Net) (al : List Rat) (b : Br) : Rat := susR b * (vf al (busAt x b.fr) - vf al (busAt x b.to)) + conR b
def gsum (x : Net) (al : List Rat) (bus : Nat) : List Br → Rat
 | [] => 0
 | b :: r => ((if busAt x b.fr = bus then flowT x al b else 0) + -(if busAt x b.to = bus then flowT x al b else 0)) + gsum x al bus r
def valF (al : List Rat) (s : List Rat × Rat) : Rat := dotR s.1 al + s.2
theorem dotR_sum {q al : List Rat} {n : Nat} (h1 : q.length = n) (h2 : al.length = n) : dotR q al = sumTo n fun i => vf q i * vf al i := by
 have key : ∀ k, k ≤ n → sumR ((List.zipWith (· * ·) q al).take k) = sumTo k fun i => vf q i * vf al i := fun k => by
  induction k with
  | zero => intro _; rfl
  | succ k ih =>
   intro hk
   rw [dotR_step (vf_get (i := k) (by omega)) (vf_get (l := al) (i := k) (by omega)), ih (by omega)]
   rfl
 have := key n (Nat.le_refl _)
 rw [List.take_of_length_le (by rw [List.length_zipWith]; omega)] at this
 exact this
theorem addF_at {q : List Rat} {b : Rat} {u v : Nat} (hu : u < q.length) (hv : v < q.length) (j : Nat) : vf (addF b u v q) j = vf q j + b * two u v j := by
 unfold addF two
 rw [vf_set (by rw [List.length_set]; exact hv), vf_set hu, vf_set hu]
 by_cases h1 : j = v
 ·subst h1
  by_cases h2 : j = u
  ·subst h2
   simp only [if_true]; grind
  ·simp only [if_true, if_neg h2]; grind
 ·by_cases h2 : j = u
  ·subst h2
   simp only [if_neg h1, if_true]; grind
  ·simp only [if_neg h1, if_neg h2]; grind
theorem valF_add {al q : List Rat} {z b c : Rat} {u v n : Nat} (h1 : q.length = n) (h2 : al.length = n) (hu : u < n) (hv : v < n) : valF al (addF b u v q, z + c) = valF al (q, z) + (b * (vf al u - vf al v) + c) := by
 unfold valF
 simp only
 rw [dotR_sum (n := n) (by rw [addF_len]; exact h1) h2, dotR_sum h1 h2, sumTo_congr (g := fun i => vf q i * vf al i + b * (two u v i * vf al i)) (fun i _ => by rw [addF_at (by omega) (by omega)]; grind), sumTo_add, sumTo_mul, two_sum hu hv]
 grind
theorem injStep_val {x : Net} (ok : NetOk x) {al : List Rat} (h2 : al.length = busN x) {b : Br} (hb : b ∈ x.brs) {bus : Nat} {s : List Rat × Rat} (h1 : s.1.length = busN x) :
    (injStep bus (busAt x b.fr) (busAt x b.to) (susR b) (conR b) s).1.length = busN x ∧ valF al (injStep bus (busAt x b.fr) (busAt x b.to) (susR b) (conR b) s) = valF al s + ((if busAt x b.fr = bus then flowT x al b else 0) + -(if busAt x b.to = bus then flowT x al b else 0)) := by
 have hu := (busAt_ok ok (ok.br b hb).1).2.1
 have hv := (busAt_ok ok (ok.br b hb).2.1).2.1
 have e1 : valF al (addF (sg false (susR b)) (busAt x b.fr) (busAt x b.to) s.1, s.2 + sg false (conR b)) = valF al s + flowT x al b := valF_add h1 h2 hu hv
 have step : ∀ {s : List Rat × Rat}, s.1.length = busN x → valF al (addF (sg true (susR b)) (busAt x b.fr) (busAt x b.to) s.1, s.2 + sg true (conR b)) = valF al s + -(flowT x al b) := fun {s} hs => by
  have := valF_add (z := s.2) (b := sg true (susR b)) (c := sg true (conR b)) hs h2 hu hv
  rw [this]
  unfold flowT sg valF
  simp only [if_true]
  grind
 unfold injStep
 dsimp only
 by_cases c1 : busAt x b.fr = bus
 ·by_cases c2 : busAt x b.to = bus
  ·rw [if_pos c1, if_pos c1, if_pos c2, if_pos c2]
   refine ⟨by rw [addF_len, addF_len]; exact h1, ?_⟩
   rw [step (by rw [addF_len]; exact h1), e1, Rat.add_assoc]
  ·rw [if_pos c1, if_pos c1, if_neg c2, if_neg c2]
   refine ⟨by rw [addF_len]; exact h1, ?_⟩
   rw [e1]; grind
 ·by_cases c2 : busAt x b.to = bus
  ·rw [if_neg c1, if_neg c1, if_pos c2, if_pos c2]
   refine ⟨by rw [addF_len]; exact h1, ?_⟩
   rw [step h1]; grind
  ·rw [if_neg c1, if_neg c1, if_neg c2, if_neg c2]
   exact ⟨h1, by grind⟩
theorem injGo_val {x : Net} (ok : NetOk x) {al : List Rat} (h2 : al.length = busN x) {bus : Nat} : ∀ (bs : List Br) (s : List Rat × Rat), (∀ b ∈ bs, b ∈ x.brs) → s.1.length = busN x →
    valF al (injGo bus (bs.map susR) (bs.map conR) (bs.map fun b => busAt x b.fr) (bs.map fun b => busAt x b.to) s) = valF al s + gsum x al bus bs
 | [], s, _, _ => (Rat.add_zero _).symm
 | b :: r, s, h, h1 => by
  obtain ⟨k1, k2⟩ := injStep_val ok h2 (bus := bus) (h b List.mem_cons_self) h1
  have := injGo_val ok h2 (bus := bus) r _ (fun a ha => h a (List.mem_cons_of_mem _ ha)) k1
  show valF al (injGo bus (r.map susR) (r.map conR) (r.map fun b => busAt x b.fr) (r.map fun b => busAt x b.to) (injStep bus (busAt x b.fr) (busAt x b.to) (susR b) (conR b) s)) = _
  rw [this, k2, Rat.add_assoc]
  rfl
theorem zrs_val {al : List Rat} {n : Nat} (h : al.length = n) : valF al (zrs n, 0) = 0 := by
 unfold valF
 rw [dotR_sum (n := n) (by simp [zrs]) h, sumTo_zero fun i _ => by rw [show (zrs n, (0 : Rat)).1 = zrs n from rfl, vf_zrs, Rat.zero_mul]]
 exact Rat.add_zero 0
theorem mval_inj {x : Net} (ok : NetOk x) {al : List Rat} (h2 : al.length = busN x) {m : Mi} (hm : m.kind = 1) : mval x al m = gsum x al (busAt x m.name) x.brs := by
 have e : formR x m = injGo (busAt x m.name) (mB x) (mC x) (mFrom x) (mTo x) (zrs (busN x), 0) := by
  unfold formR
  rw [if_neg (by omega), if_neg (by omega)]
 have h := injGo_val ok h2 (bus := busAt x m.name) x.brs (zrs (busN x), 0) (fun b hb => hb) (by simp [zrs])
 rw [zrs_val h2, Rat.zero_add] at h
 rw [← (inj_maps x).1, ← (inj_maps x).2] at h
 unfold mval
 rw [e]
 exact h
theorem gsum_zero {x : Net} {al : List Rat} {bl : List Nat} (hn : bl.Nodup) : ∀ (bs : List Br), (∀ b ∈ bs, busAt x b.fr ∈ bl ∧ busAt x b.to ∈ bl) → lsum (bl.map fun bus => gsum x al bus bs) = 0
 | [], _ => by
  have : ∀ l : List Nat, lsum (l.map fun _ => (0 : Rat)) = 0 := fun l => by
   induction l with
   | nil => rfl
   | cons a r ih =>
    show (0 : Rat) + lsum (r.map fun _ => (0 : Rat)) = 0
    rw [ih]; decide +kernel
  exact this bl
 | b :: r, h => by
  obtain ⟨h1, h2⟩ := h b List.mem_cons_self
  have ih := gsum_zero (al := al) hn r fun a ha => h a (List.mem_cons_of_mem _ ha)
  show lsum (bl.map fun bus => ((if busAt x b.fr = bus then flowT x al b else 0) + -(if busAt x b.to = bus then flowT x al b else 0)) + gsum x al bus r) = 0
  rw [lsum_add (fun bus => (if busAt x b.fr = bus then flowT x al b else 0) + -(if busAt x b.to = bus then flowT x al b else 0)) (fun bus => gsum x al bus r), ih, lsum_add (fun bus => if busAt x b.fr = bus then flowT x al b else 0) (fun bus => -(if busAt x b.to = bus then flowT x al b else 0)), lsum_neg (fun bus => if busAt x b.to = bus then flowT x al b else 0), lsum_one _ _ bl hn h1, lsum_one _ _ bl hn h2]
  grind
def firstB (x : Net) (i : Nat) : Bool := !((busR x).take i).any fun a => a == (busR x).getD i 0
def injM (s : ByteArray) : Mi := ⟨1, s, ⟨#[48]⟩, 1⟩
def selI (x : Net) (k : Nat) : List Nat := (List.range k).filter (firstB x)
def selM (x : Net) (k : Nat) : List Mi := (selI x k).map fun i => injM (x.nodes.getD i ⟨#[]⟩)
theorem selM_yes {x : Net} {k : Nat} {s : ByteArray} (h : firstB x k = true) (hs : x.nodes[k]? = some s) : selM x (k + 1) = selM x k ++ [injM s] := by
 unfold selM selI
 rw [List.range_succ, List.filter_append, List.map_append]
 simp [h, List.getD_eq_getElem?_getD, hs]
theorem selM_no {x : Net} {k : Nat} (h : firstB x k = false) : selM x (k + 1) = selM x k := by
 unfold selM selI
 rw [List.range_succ, List.filter_append, List.map_append]
 simp [h]
theorem selM_len (x : Net) (k : Nat) : (selM x k).length ≤ k := by
 unfold selM selI
 rw [List.length_map]
 exact Nat.le_trans (List.length_filter_le _ _) (by rw [List.length_range]; exact Nat.le_refl _)
def busI (x : Net) (i : Nat) : Nat := ((busR x).getD i 0).toNat
theorem busI_at {x : Net} (hk : netCk x = 0) {i : Nat} {s : ByteArray} (h : x.nodes[i]? = some s) : busAt x s = busI x i := by
 unfold busAt busI
 rw [ndIdx_at (nodes_nodup hk) h]
theorem busI_eq {x : Net} (ok : NetOk x) {i j : Nat} (hi : i < x.nodes.length) (hj : j < x.nodes.length) : busI x i = busI x j ↔ (busR x).getD i 0 = (busR x).getD j 0 := by
 obtain ⟨h1, h2⟩ := busR_ok ok
 have key : ∀ k, k < x.nodes.length → 0 ≤ (busR x).getD k 0 := fun k hk => by
  rw [List.getD_eq_getElem?_getD, List.getElem?_eq_getElem (by omega)]
  exact (h2 _ (List.getElem_mem (by omega))).1
 have a := key i hi
 have b := key j hj
 unfold busI
 omega
theorem first_iff {x : Net} (ok : NetOk x) {i : Nat} (hi : i < x.nodes.length) : firstB x i = true ↔ ∀ j, j < i → busI x j ≠ busI x i := by
 have hl := (busR_ok ok).1
 unfold firstB
 rw [Bool.not_eq_true', List.any_eq_false]
 constructor
 ·intro h j hj e
  rw [busI_eq ok (by omega) hi] at e
  refine h ((busR x).getD j 0) ?_ (by rw [e]; simp)
  rw [List.getD_eq_getElem?_getD, List.getElem?_eq_getElem (by omega)]
  exact List.mem_iff_getElem?.2 ⟨j, by rw [List.getElem?_take_of_lt hj, List.getElem?_eq_getElem (by omega)]; rfl⟩
 ·intro h a ha e
  obtain ⟨j, hj⟩ := List.mem_iff_getElem?.1 ha
  have hji : j < i := by have := (List.getElem?_eq_some_iff.1 hj).1; rw [List.length_take] at this; omega
  rw [List.getElem?_take_of_lt hji] at hj
  refine h j hji ?_
  rw [busI_eq ok (by omega) hi, List.getD_eq_getElem?_getD, hj]
  simpa using e
theorem selI_nodup {x : Net} (ok : NetOk x) : ∀ k, k ≤ x.nodes.length → ((selI x k).map (busI x)).Nodup ∧ ∀ i, i < k → busI x i ∈ (selI x k).map (busI x)
 | 0, _ => ⟨List.nodup_nil, fun i h => by omega⟩
 | k + 1, hk => by
  obtain ⟨h1, h2⟩ := selI_nodup ok k (by omega)
  have e : selI x (k + 1) = selI x k ++ (if firstB x k then [k] else []) := by
   unfold selI
   rw [List.range_succ, List.filter_append]
   congr 1
   by_cases h : firstB x k = true
   ·simp [h]
   ·simp [h]
  have hsub : ∀ b ∈ (selI x k).map (busI x), ∃ j, j < k ∧ busI x j = b := fun b hb => by
   obtain ⟨j, hj, rfl⟩ := List.mem_map.1 hb
   unfold selI at hj
   exact ⟨j, List.mem_range.1 (List.mem_filter.1 hj).1, rfl⟩
  rw [e, List.map_append]
  by_cases h : firstB x k = true
  ·rw [if_pos h]
   have hf := (first_iff ok (by omega)).1 h
   refine ⟨List.nodup_append.2 ⟨h1, by simp, fun a ha b hb => ?_⟩, fun i hi => ?_⟩
   ·rw [List.map_cons, List.map_nil, List.mem_singleton] at hb
    obtain ⟨j, hj, rfl⟩ := hsub a ha
    rw [hb]
    exact hf j hj
   ·by_cases hik : i < k
    ·exact List.mem_append_left _ (h2 i hik)
    ·have : i = k := by omega
     rw [this]
     exact List.mem_append_right _ (by simp)
  ·rw [if_neg h, List.map_nil, List.append_nil]
   refine ⟨h1, fun i hi => ?_⟩
   by_cases hik : i < k
   ·exact h2 i hik
   ·have : i = k := by omega
    subst this
    have hf : ¬ ∀ j, j < i → busI x j ≠ busI x i := fun hall => h ((first_iff ok (by omega)).2 hall)
    simp only [Classical.not_forall] at hf
    obtain ⟨j, hj, hne⟩ := hf
    have : busI x j = busI x i := Decidable.not_not.1 hne
    rw [← this]
    exact h2 j hj
theorem sums_zero {x : Net} (hk : netCk x = 0) {al : List Rat} (h2 : al.length = busN x) : sumR ((selM x x.nodes.length).map (mval x al)) = 0 := by
 have ok := netCk_ok hk
 obtain ⟨h3, h4⟩ := selI_nodup ok x.nodes.length (Nat.le_refl _)
 have hlt : ∀ i ∈ selI x x.nodes.length, i < x.nodes.length := fun i hi => by
  unfold selI at hi
  exact List.mem_range.1 (List.mem_filter.1 hi).1
 have e : (selM x x.nodes.length).map (mval x al) = ((selI x x.nodes.length).map (busI x)).map fun bus => gsum x al bus x.brs := by
  unfold selM
  rw [List.map_map, List.map_map]
  refine List.map_congr_left fun i hi => ?_
  have hs : x.nodes[i]? = some (x.nodes.getD i ⟨#[]⟩) := by rw [List.getD_eq_getElem?_getD, List.getElem?_eq_getElem (hlt i hi)]; rfl
  show mval x al (injM (x.nodes.getD i ⟨#[]⟩)) = gsum x al (busI x i) x.brs
  rw [mval_inj ok h2 rfl]
  show gsum x al (busAt x (x.nodes.getD i ⟨#[]⟩)) x.brs = _
  rw [busI_at hk hs]
 rw [e, sumR_lsum]
 refine gsum_zero h3 x.brs fun b hb => ?_
 have key : ∀ s ∈ x.nodes, busAt x s ∈ (selI x x.nodes.length).map (busI x) := fun s hs => by
  obtain ⟨i, hi⟩ := List.mem_iff_getElem?.1 hs
  rw [busI_at hk hi]
  exact h4 i (List.getElem?_eq_some_iff.1 hi).1
 exact ⟨key _ (ok.br b hb).1, key _ (ok.br b hb).2.1⟩
theorem sums_fits {x : Net} (ok : NetOk x) (hl : x.brs.length ≤ 10) (hb : busN x ≤ 8) {ms : List Mi} (hm : ∀ m ∈ ms, MiOk x m) (hn : ms.length ≤ 8) {al : List Rat} (ha : ∀ q ∈ al, Tn 25 q) (hal : al.length ≤ 8) (k : Nat) : Fits (sumR ((ms.map (mval x al)).take k)) := by
 obtain ⟨h1, h2⟩ := denM_small ok hl ha hal
 have h3 := ot_sum (D := denM x al) (B := 10 ^ 32) _ ((ms.map (mval x al)).take k) rfl fun q hq => by
  obtain ⟨m, hm', rfl⟩ := List.mem_map.1 (List.mem_of_mem_take hq)
  rw [mval_part]
  exact part_ot (formR_ot ok hl (hm m hm')) hb ha _
 have hlen : ((ms.map (mval x al)).take k).length ≤ 10 ^ 1 := by rw [List.length_take, List.length_map]; omega
 exact ot_fits h3 h1 (a := 33) (Nat.le_trans (Nat.mul_le_mul_right _ hlen) (ten_add (by decide))) h2 (by decide)
end
end Go.Proofs.YtakllkkmofdpaaaGreatDoor
