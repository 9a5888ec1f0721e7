/- The law ZoneCovered: the walk. -/
import Derived.Test.YthedpegaelpbdaaVB
import Derived.Test.YthedpegaelpbdaaVP
import Derived.Test.YthedpegaelpbdaaIb
namespace Go.Proofs.Ythedpegaelpbdaa
open Go.ChangeShapes Go.WideShapes Go.ChangeAt Go.RowKit Go.Joins Go.Deep
set_option linter.unusedVariables false
attribute [local go_sem ↓] execOp_call_val
attribute [local go_sem] callVal_func setCell_drewN alloc_drewN sEq_walk NetH.cells

theorem RdZh.take {w : World} {B n m : Nat} {A : Option Addr} {xs : List Zh} (h : RdZh w B A n xs) (hm : m ≤ n) : RdZh w B A m (xs.take m) := by
  have hl := h.len
  refine ⟨by simp; omega, ⟨by rw [flat_len Zh.len]; simp; omega, fun h0 => ?_⟩, fun z hz => h.zs z (List.mem_of_mem_take hz)⟩
  obtain ⟨b, off, e, hlt, hc⟩ := h.rd.2 (by omega)
  refine ⟨b, off, e, hlt, fun j u hu => hc j u ?_⟩
  have h1 : xs.flatMap Zh.cells = (xs.take m).flatMap Zh.cells ++ (xs.drop m).flatMap Zh.cells := by rw [← List.flatMap_append, List.take_append_drop]
  rw [h1, List.getElem?_append_left (List.getElem?_eq_some_iff.1 hu).1]
  exact hu
theorem timR_nn {x : Net} {r : Zr} {p : Fp} (h : (timR x r p).2 = 0) : 0 ≤ (timR x r p).1 := by
  rw [timR_e] at h
  obtain ⟨h0, _, i, z, h1, h2⟩ := fndR_ok h
  have h3 := zckR_zones (chkR_ok (disR_ok h0)).1
  have h4 := zBad_ff (zsGo_good _ _ h3.1 z (List.mem_of_getElem? h2))
  unfold timR
  rw [if_neg (by rw [h]; simp), h1]
  unfold zAt
  simp [h2]
  exact h4.2.2.1
def LastAt (key : Int → Int) (L : List Int) (k : Nat) (last : Int) : Prop := (k = 0 ∧ last = -1) ∨ (0 < k ∧ last = key (L.getD (k - 1) 0))
theorem cov_at {x : Net} {l : List Zh} {p : Fp} {L : List Int} (hp : L.Perm (outsTo x l p l.length)) {j : Nat} (hj : j < L.length) :
    ∃ (i : Nat) (z : Zh) (t : Int), L[j]? = some (i : Int) ∧ l[i]? = some z ∧ timR x z.r p = (t, 0) ∧ 0 ≤ t ∧ tmV x l p i = t := by
  have h1 : L[j]? = some L[j] := List.getElem?_eq_getElem hj
  have h2 : L[j] ∈ outsTo x l p l.length := hp.mem_iff.1 (List.getElem_mem hj)
  obtain ⟨i, h3, h4, h5⟩ := (outsTo_mem x l p _ _).1 h2
  have h6 : l[i]? = some l[i] := List.getElem?_eq_getElem h4
  have h7 : tmAt x l p i = timR x (l[i]).r p := by unfold tmAt; rw [h6]
  rw [h7] at h5
  refine ⟨i, l[i], (timR x (l[i]).r p).1, by rw [h1, h3], h6, by rw [← h5], timR_nn h5, ?_⟩
  unfold tmV
  rw [h7, if_pos h5]
theorem cov_next {x : Net} {l : List Zh} {p : Fp} {L : List Int} {n : Nat} {last : Int} {j : Nat} (hs : Srt (fun y => tmV x l p y.toNat) n n L) (hj : j < n) {i : Nat} {t : Int} (hi : L[j]? = some (i : Int)) (ht : tmV x l p i = t) (h0 : 0 ≤ t) (hl : LastAt (fun y => tmV x l p y.toNat) L j last) :
    ¬ t < last ∧ LastAt (fun y => tmV x l p y.toNat) L (j + 1) t := by
  have hg : L.getD j 0 = (i : Int) := by rw [List.getD_eq_getElem?_getD, hi]; rfl
  refine ⟨?_, .inr ⟨by omega, by rw [show j + 1 - 1 = j from by omega]; dsimp only; rw [hg]; simp [ht]⟩⟩
  rcases hl with ⟨_, h⟩ | ⟨h1, h⟩
  · omega
  · have := hs (j - 1) j (by omega) hj hj
    dsimp only at this h
    rw [hg, show ((i : Int)).toNat = i from rfl, ht] at this
    omega
theorem cov_has {x : Net} {l : List Zh} {p : Fp} {L : List Int} (hp : L.Perm (outsTo x l p l.length)) {k : Nat} {z : Zh} (hz : l[k]? = some z) : L.any (· == (k : Int)) = decide ((timR x z.r p).2 = 0) := by
  have h7 : tmAt x l p k = timR x z.r p := by unfold tmAt; rw [hz]
  have hk : k < l.length := (List.getElem?_eq_some_iff.1 hz).1
  rw [Bool.eq_iff_iff, List.any_eq_true]
  simp only [decide_eq_true_eq, beq_iff_eq, exists_eq_right]
  rw [hp.mem_iff, outsTo_mem]
  constructor
  · rintro ⟨i, h1, _, h3⟩
    have : i = k := by omega
    subst this
    rwa [h7] at h3
  · intro h
    exact ⟨k, rfl, hk, by rw [h7]; exact h⟩

set_option maxRecDepth 100000 in
set_option maxHeartbeats 8000000 in
theorem zcovered_small (h : NetH) (x : Net) (p : Fp) (l : List Zh) (A : Option Addr) (n c : Nat) (w : World) (hR : RdNet w w.heap.size h x) (hL0 : RdZh w w.heap.size A n l) (hnc : n ≤ c) (hc : c ≤ 9223372036854775807) (hm : n ≤ 6) :
    Calls Try.prog 9 #[.agg h.cells, .slice A n c, .agg #[.string p.branch, .int .i64 p.part]] w fun e w' => e = .returned (.bool true) ∧ Below w.heap.size w w' := by
  have hL : RdZh w w.heap.size A n l := hL0
  have hB0 : Below w.heap.size w ((w.alloc (.cells h.cells 29)).alloc (.cells #[.string p.branch, .int .i64 p.part] 31)) := ((Below.refl _ _).alloc (Nat.le_refl _) _).alloc (by simp) _
  have HB0 := Lib.hid hB0
  have HR0 := Lib.hid (hR.up hB0)
  have HL0 := Lib.hid (hL.up hB0)
  have HQ0_0 : Hid (Blk ((w.alloc (.cells h.cells 29)).alloc (.cells #[.string p.branch, .int .i64 p.part] 31)) w.heap.size 29 h.cells) := Lib.hid ((Blk.new_ rfl).alloc _)
  have HQ1_0 : Hid (Blk ((w.alloc (.cells h.cells 29)).alloc (.cells #[.string p.branch, .int .i64 p.part] 31)) (w.heap.size + 1) 31 #[.string p.branch, .int .i64 p.part]) := Lib.hid (Blk.new_ (by simp))
  clear hB0 hR hL hL0
  go_enter Try.func9, Try.ntmps9
  go_wp2_with fail
  refine (zworks_any _).mono ?_
  rintro e w1 ⟨rfl, k1⟩
  have HB1 := Lib.hid (HB0.out.trans (k1.mono HB0.out.size))
  have HR1 := Lib.hid (HR0.out.up k1)
  have HL1 := Lib.hid (HL0.out.up k1)
  have HQ0_1 := Lib.hid (HQ0_0.out.below k1 HQ0_0.out.lt)
  have HQ1_1 := Lib.hid (HQ1_0.out.below k1 HQ1_0.out.lt)
  clear k1
  obtain ⟨y0, y1, y2, y3, y4, y5, nf, nlt⟩ := net_box HQ0_1.out
  obtain ⟨v0, v1, vf, vlt⟩ := check_box HQ1_1.out
  go_wp2_with fail
  refine (covered_any h x p l A n c _ HR1.out HL1.out (by omega)).mono ?_
  rintro e w2 ⟨k2, h1⟩
  have HB2 := Lib.hid (HB1.out.trans (k2.mono HB1.out.size))
  have HR2 := Lib.hid (HR1.out.up k2)
  have HL2 := Lib.hid (HL1.out.up k2)
  have HQ0_2 := Lib.hid (HQ0_1.out.below k2 HQ0_1.out.lt)
  have HQ1_2 := Lib.hid (HQ1_1.out.below k2 HQ1_1.out.lt)
  clear k2 y0 y1 y2 y3 y4 y5 nf nlt v0 v1 vf vlt
  have HLL := Lib.hid HL2.out.len
  generalize l = ls at *
  rcases h1 with ⟨he, rfl⟩ | ⟨he, cA, cn, cc, L, rfl, hr, hp, hs⟩
  · generalize covE x ls p = ee at *
    have heb : (ee != 0) = true := by simpa using he
    clear he
    go_wp2_with fail
    go_ret
    exact ⟨rfl, HB2.out⟩
  · have HCL := Lib.hid hr.len
    have HCR := Lib.hid hr
    have HP := Lib.hid hp
    have HS := Lib.hid hs
    have hcn : cn ≤ 6 := by
      have h1 := hp.length_eq
      have h2 := outsTo_len x ls p ls.length
      have h3 := HLL.out
      have h4 := HCL.out
      omega
    clear he hr hp hs
    obtain ⟨y0, y1, y2, y3, y4, y5, nf, nlt⟩ := net_box HQ0_2.out
    obtain ⟨v0, v1, vf, vlt⟩ := check_box HQ1_2.out
    go_wp2_with fail
    go_loopw [9, 39] (fun a i wr => ∃ (k : Nat) (last : Int), k ≤ cn ∧ i = .int .i64 k ∧ a = .int .i64 last ∧ Below w2.heap.size w2 wr ∧ LastAt (fun y => tmV x ls p y.toNat) L k last) (fun _ i _ => cn - (intOf i).toNat)
    case atStart => exact ⟨0, -1, by omega, rfl, rfl, Below.refl _ _, .inl ⟨rfl, rfl⟩⟩
    case round =>
      obtain ⟨k, last, hk, rfl, rfl, hb, hla⟩ := hrel
      have HB := Lib.hid hb
      have HQ0_3 := Lib.hid (HQ0_2.out.below hb HQ0_2.out.lt)
      have HQ1_3 := Lib.hid (HQ1_2.out.below hb HQ1_2.out.lt)
      have HR3 := Lib.hid (HR2.out.up hb)
      have HL3 := Lib.hid (HL2.out.up hb)
      have hcr := (RdI.below HCR.out hb (Nat.le_refl _)).more hb.size
      have HCR3 := Lib.hid hcr
      have HLA := Lib.hid hla
      clear hb hla y0 y1 y2 y3 y4 y5 nf nlt v0 v1 vf vlt
      obtain ⟨y0, y1, y2, y3, y4, y5, nf, nlt⟩ := net_box HQ0_3.out
      obtain ⟨v0, v1, vf, vlt⟩ := check_box HQ1_3.out
      by_cases hlt : k < cn
      · obtain ⟨i, z, t, hLk, hz, htm, ht0, htv⟩ := cov_at HP.out (j := k) (by have := HCL.out; omega)
        obtain ⟨hnl, hla2⟩ := cov_next HS.out hlt hLk htv ht0 HLA.out
        have HLA2 := Lib.hid hla2
        have HTM := Lib.hid htm
        have him : i < n := by have := (List.getElem?_eq_some_iff.1 hz).1; have := HLL.out; omega
        obtain ⟨cb, coff, rfl, hcb, _⟩ := hcr.2 (by omega)
        have hci := hcr.at_ hLk
        obtain ⟨lb, loff, hA, hlb⟩ := HL3.out.form (by omega)
        subst hA
        obtain ⟨l0, l1, l2⟩ := HL3.out.at_ hz
        obtain ⟨hzr, hzn⟩ := HL3.out.zs z (List.mem_of_getElem? hz)
        have HZR := Lib.hid hzr
        have hiI : (i : Int) < ((n : Nat) : Int) := by omega
        have hiI0 : (0 : Int) ≤ (i : Int) := by omega
        have hkI : (k : Int) < (cn : Int) := by omega
        have hnl2 : decide (t < last) = false := by simpa using hnl
        have hgi : decide (((n : Nat) : Int) ≤ (i : Int)) = false := by simp; omega
        have hgi2 : decide ((n : Nat) ≤ i) = false := by simp; omega
        clear hla2 htm hLk hz htv hcr hzr hnl ht0
        go_wp2_with fail
        have hrule : ∀ w' : World, Below wr.heap.size wr w' → ∀ b o, b < wr.heap.size → w'.cell? ⟨b, o, none⟩ = wr.cell? ⟨b, o, none⟩ := fun w' hb b o h => hb.cell (p := ⟨b, o, none⟩) h
        go_region_held (fun w' => Below wr.heap.size wr w')
          (repeat' (first | with_reducible exact hKp | with_reducible exact Below.refl _ _ | with_reducible assumption | with_reducible refine below_drew ?_ | with_reducible refine Below.alloc ?_ ?_ _ | with_reducible refine Below.setCell ?_ ?_ _ | omega | (simp <;> omega) | (simp; done)))
          (first
            | (go_at_call 23; refine (ztim_any h x z.r p z.A z.n z.c _ (HR3.out.up (by assumption)) ((HZR.out.below (by assumption) (Nat.le_refl _)).more (Below.size (by assumption))) hzn).mono ?_
               rw [HTM.out]; rintro e wp' ⟨rfl, hbp⟩; have hKp := bnext (by assumption) hbp))
        all_goals
          go_wp2_with fail
          go_roundw
          case rel =>
            refine ⟨k + 1, t, by omega, by go_num, rfl, HB.out.trans (Below.mono ?_ HB.out.size), HLA2.out⟩
            (repeat' (first | with_reducible exact hKp | with_reducible exact Below.refl _ _ | with_reducible assumption | with_reducible refine below_drew ?_ | with_reducible refine Below.alloc ?_ ?_ _ | with_reducible refine Below.setCell ?_ ?_ _ | omega | (simp <;> omega) | (simp; done)))
          case measure => simp [intOf]; omega
      · have hkc : k = cn := by omega
        subst hkc
        clear hk hlt
        obtain ⟨wo, rfl⟩ : ∃ wo : World, wo = wr := ⟨_, rfl⟩
        go_wp2_with fail
        go_loopw [72] (fun i wr2 => ∃ (k2 : Nat), k2 ≤ n ∧ i = .int .i64 k2 ∧ Below wo.heap.size wo wr2) (fun i _ => n - (intOf i).toNat)
        case atStart => exact ⟨0, by omega, rfl, Below.refl _ _⟩
        case round =>
          obtain ⟨k2, hk2, rfl, hb2⟩ := hrel
          have HBB := Lib.hid hb2
          have HQ0_4 := Lib.hid (HQ0_3.out.below hb2 HQ0_3.out.lt)
          have HQ1_4 := Lib.hid (HQ1_3.out.below hb2 HQ1_3.out.lt)
          have HR4 := Lib.hid (HR3.out.up hb2)
          have HL4 := Lib.hid (HL3.out.up hb2)
          have HCR4 := Lib.hid ((RdI.below HCR3.out hb2 (Nat.le_refl _)).more hb2.size)
          clear hb2 hcr y0 y1 y2 y3 y4 y5 nf nlt v0 v1 vf vlt
          obtain ⟨y0, y1, y2, y3, y4, y5, nf, nlt⟩ := net_box HQ0_4.out
          obtain ⟨v0, v1, vf, vlt⟩ := check_box HQ1_4.out
          by_cases hlt : k2 < n
          · obtain ⟨z, hz⟩ : ∃ z, ls[k2]? = some z := ⟨_, List.getElem?_eq_getElem (by have := HLL.out; omega)⟩
            have HHAS := Lib.hid (cov_has HP.out hz)
            obtain ⟨lb, loff, hA, hlb⟩ := HL4.out.form (by omega)
            subst hA
            obtain ⟨l0, l1, l2⟩ := HL4.out.at_ hz
            obtain ⟨hzr, hzn⟩ := HL4.out.zs z (List.mem_of_getElem? hz)
            have hb5 : Below wr.heap.size wr (wr.alloc (.cells #[.string z.r.node, .string z.r.branch, .slice z.A z.n z.c] 57)) := (Below.refl _ _).alloc (Nat.le_refl _) _
            have HB5 := Lib.hid hb5
            have HR5 := Lib.hid (HR4.out.up hb5)
            have HZR := Lib.hid ((hzr.below hb5 (Nat.le_refl _)).more hb5.size)
            have HCR5 := Lib.hid ((RdI.below HCR4.out hb5 (Nat.le_refl _)).more hb5.size)
            clear hb5 hzr hz
            go_wp2_with fail
            refine (ztim_any h x z.r p z.A z.n z.c _ HR5.out HZR.out hzn).mono ?_
            generalize timR x z.r p = tt at *
            obtain ⟨a, ee⟩ := tt
            rintro e w6 ⟨rfl, k6⟩
            have hb6 := HB5.out.trans (k6.mono HB5.out.size)
            have hc6 := (RdI.below HCR5.out k6 (Nat.le_refl _)).more k6.size
            have HB6 := Lib.hid hb6
            have HC6 := Lib.hid hc6
            clear k6 hb6 hc6 l0 l1 l2 y0 y1 y2 y3 y4 y5 nf nlt v0 v1 vf vlt
            go_wp2_with fail
            refine (hasInt_any cA _ cc L (k2 : Int) _ HC6.out (by omega)).mono ?_
            rw [HHAS.out]
            rintro e w7 ⟨rfl, rfl⟩
            by_cases c0 : ee = 0
            · subst c0
              go_wp2_with fail
              go_roundw
              case rel => exact ⟨k2 + 1, by omega, by go_num, HBB.out.trans (HB6.out.mono HBB.out.size)⟩
              case measure => simp [intOf]; omega
            · have c0b : (ee == 0) = false := by simpa using c0
              have c0c : decide (ee = 0) = false := by simpa using c0
              clear c0
              go_wp2_with fail
              go_roundw
              case rel => exact ⟨k2 + 1, by omega, by go_num, HBB.out.trans (HB6.out.mono HBB.out.size)⟩
              case measure => simp [intOf]; omega
          · go_wp2_with fail
            go_ret
            exact ⟨rfl, HB2.out.trans ((HB.out.trans (HBB.out.mono HB.out.size)).mono HB2.out.size)⟩


set_option maxRecDepth 100000 in
set_option maxHeartbeats 8000000 in
theorem zcovered_big (h : NetH) (x : Net) (p : Fp) (l : List Zh) (A : Option Addr) (n c : Nat) (w : World) (hR : RdNet w w.heap.size h x) (hL0 : RdZh w w.heap.size A n l) (hnc : n ≤ c) (hc : c ≤ 9223372036854775807) (hm : 6 < n) :
    Calls Try.prog 9 #[.agg h.cells, .slice A n c, .agg #[.string p.branch, .int .i64 p.part]] w fun e w' => e = .returned (.bool true) ∧ Below w.heap.size w w' := by
  have hL : RdZh w w.heap.size A 6 (l.take 6) := hL0.take (by omega)
  have hB0 : Below w.heap.size w ((w.alloc (.cells h.cells 29)).alloc (.cells #[.string p.branch, .int .i64 p.part] 31)) := ((Below.refl _ _).alloc (Nat.le_refl _) _).alloc (by simp) _
  have HB0 := Lib.hid hB0
  have HR0 := Lib.hid (hR.up hB0)
  have HL0 := Lib.hid (hL.up hB0)
  have HQ0_0 : Hid (Blk ((w.alloc (.cells h.cells 29)).alloc (.cells #[.string p.branch, .int .i64 p.part] 31)) w.heap.size 29 h.cells) := Lib.hid ((Blk.new_ rfl).alloc _)
  have HQ1_0 : Hid (Blk ((w.alloc (.cells h.cells 29)).alloc (.cells #[.string p.branch, .int .i64 p.part] 31)) (w.heap.size + 1) 31 #[.string p.branch, .int .i64 p.part]) := Lib.hid (Blk.new_ (by simp))
  clear hB0 hR hL hL0
  go_enter Try.func9, Try.ntmps9
  go_wp2_with fail
  refine (zworks_any _).mono ?_
  rintro e w1 ⟨rfl, k1⟩
  have HB1 := Lib.hid (HB0.out.trans (k1.mono HB0.out.size))
  have HR1 := Lib.hid (HR0.out.up k1)
  have HL1 := Lib.hid (HL0.out.up k1)
  have HQ0_1 := Lib.hid (HQ0_0.out.below k1 HQ0_0.out.lt)
  have HQ1_1 := Lib.hid (HQ1_0.out.below k1 HQ1_0.out.lt)
  clear k1
  obtain ⟨y0, y1, y2, y3, y4, y5, nf, nlt⟩ := net_box HQ0_1.out
  obtain ⟨v0, v1, vf, vlt⟩ := check_box HQ1_1.out
  go_wp2_with fail
  refine (covered_any h x p (l.take 6) A 6 c _ HR1.out HL1.out (by omega)).mono ?_
  rintro e w2 ⟨k2, h1⟩
  have HB2 := Lib.hid (HB1.out.trans (k2.mono HB1.out.size))
  have HR2 := Lib.hid (HR1.out.up k2)
  have HL2 := Lib.hid (HL1.out.up k2)
  have HQ0_2 := Lib.hid (HQ0_1.out.below k2 HQ0_1.out.lt)
  have HQ1_2 := Lib.hid (HQ1_1.out.below k2 HQ1_1.out.lt)
  clear k2 y0 y1 y2 y3 y4 y5 nf nlt v0 v1 vf vlt
  have HLL := Lib.hid HL2.out.len
  generalize (l.take 6) = ls at *
  rcases h1 with ⟨he, rfl⟩ | ⟨he, cA, cn, cc, L, rfl, hr, hp, hs⟩
  · generalize covE x ls p = ee at *
    have heb : (ee != 0) = true := by simpa using he
    clear he
    go_wp2_with fail
    go_ret
    exact ⟨rfl, HB2.out⟩
  · have HCL := Lib.hid hr.len
    have HCR := Lib.hid hr
    have HP := Lib.hid hp
    have HS := Lib.hid hs
    have hcn : cn ≤ 6 := by
      have h1 := hp.length_eq
      have h2 := outsTo_len x ls p ls.length
      have h3 := HLL.out
      have h4 := HCL.out
      omega
    clear he hr hp hs
    obtain ⟨y0, y1, y2, y3, y4, y5, nf, nlt⟩ := net_box HQ0_2.out
    obtain ⟨v0, v1, vf, vlt⟩ := check_box HQ1_2.out
    go_wp2_with fail
    go_loopw [9, 39] (fun a i wr => ∃ (k : Nat) (last : Int), k ≤ cn ∧ i = .int .i64 k ∧ a = .int .i64 last ∧ Below w2.heap.size w2 wr ∧ LastAt (fun y => tmV x ls p y.toNat) L k last) (fun _ i _ => cn - (intOf i).toNat)
    case atStart => exact ⟨0, -1, by omega, rfl, rfl, Below.refl _ _, .inl ⟨rfl, rfl⟩⟩
    case round =>
      obtain ⟨k, last, hk, rfl, rfl, hb, hla⟩ := hrel
      have HB := Lib.hid hb
      have HQ0_3 := Lib.hid (HQ0_2.out.below hb HQ0_2.out.lt)
      have HQ1_3 := Lib.hid (HQ1_2.out.below hb HQ1_2.out.lt)
      have HR3 := Lib.hid (HR2.out.up hb)
      have HL3 := Lib.hid (HL2.out.up hb)
      have hcr := (RdI.below HCR.out hb (Nat.le_refl _)).more hb.size
      have HCR3 := Lib.hid hcr
      have HLA := Lib.hid hla
      clear hb hla y0 y1 y2 y3 y4 y5 nf nlt v0 v1 vf vlt
      obtain ⟨y0, y1, y2, y3, y4, y5, nf, nlt⟩ := net_box HQ0_3.out
      obtain ⟨v0, v1, vf, vlt⟩ := check_box HQ1_3.out
      by_cases hlt : k < cn
      · obtain ⟨i, z, t, hLk, hz, htm, ht0, htv⟩ := cov_at HP.out (j := k) (by have := HCL.out; omega)
        obtain ⟨hnl, hla2⟩ := cov_next HS.out hlt hLk htv ht0 HLA.out
        have HLA2 := Lib.hid hla2
        have HTM := Lib.hid htm
        have him : i < 6 := by have := (List.getElem?_eq_some_iff.1 hz).1; have := HLL.out; omega
        obtain ⟨cb, coff, rfl, hcb, _⟩ := hcr.2 (by omega)
        have hci := hcr.at_ hLk
        obtain ⟨lb, loff, hA, hlb⟩ := HL3.out.form (by omega)
        subst hA
        obtain ⟨l0, l1, l2⟩ := HL3.out.at_ hz
        obtain ⟨hzr, hzn⟩ := HL3.out.zs z (List.mem_of_getElem? hz)
        have HZR := Lib.hid hzr
        have hiI : (i : Int) < ((6 : Nat) : Int) := by omega
        have hiI0 : (0 : Int) ≤ (i : Int) := by omega
        have hkI : (k : Int) < (cn : Int) := by omega
        have hnl2 : decide (t < last) = false := by simpa using hnl
        have hgi : decide (((6 : Nat) : Int) ≤ (i : Int)) = false := by simp; omega
        have hgi2 : decide ((6 : Nat) ≤ i) = false := by simp; omega
        clear hla2 htm hLk hz htv hcr hzr hnl ht0
        go_wp2_with fail
        have hrule : ∀ w' : World, Below wr.heap.size wr w' → ∀ b o, b < wr.heap.size → w'.cell? ⟨b, o, none⟩ = wr.cell? ⟨b, o, none⟩ := fun w' hb b o h => hb.cell (p := ⟨b, o, none⟩) h
        go_region_held (fun w' => Below wr.heap.size wr w')
          (repeat' (first | with_reducible exact hKp | with_reducible exact Below.refl _ _ | with_reducible assumption | with_reducible refine below_drew ?_ | with_reducible refine Below.alloc ?_ ?_ _ | with_reducible refine Below.setCell ?_ ?_ _ | omega | (simp <;> omega) | (simp; done)))
          (first
            | (go_at_call 23; refine (ztim_any h x z.r p z.A z.n z.c _ (HR3.out.up (by assumption)) ((HZR.out.below (by assumption) (Nat.le_refl _)).more (Below.size (by assumption))) hzn).mono ?_
               rw [HTM.out]; rintro e wp' ⟨rfl, hbp⟩; have hKp := bnext (by assumption) hbp))
        all_goals
          go_wp2_with fail
          go_roundw
          case rel =>
            refine ⟨k + 1, t, by omega, by go_num, rfl, HB.out.trans (Below.mono ?_ HB.out.size), HLA2.out⟩
            (repeat' (first | with_reducible exact hKp | with_reducible exact Below.refl _ _ | with_reducible assumption | with_reducible refine below_drew ?_ | with_reducible refine Below.alloc ?_ ?_ _ | with_reducible refine Below.setCell ?_ ?_ _ | omega | (simp <;> omega) | (simp; done)))
          case measure => simp [intOf]; omega
      · have hkc : k = cn := by omega
        subst hkc
        clear hk hlt
        obtain ⟨wo, rfl⟩ : ∃ wo : World, wo = wr := ⟨_, rfl⟩
        go_wp2_with fail
        go_loopw [72] (fun i wr2 => ∃ (k2 : Nat), k2 ≤ 6 ∧ i = .int .i64 k2 ∧ Below wo.heap.size wo wr2) (fun i _ => 6 - (intOf i).toNat)
        case atStart => exact ⟨0, by omega, rfl, Below.refl _ _⟩
        case round =>
          obtain ⟨k2, hk2, rfl, hb2⟩ := hrel
          have HBB := Lib.hid hb2
          have HQ0_4 := Lib.hid (HQ0_3.out.below hb2 HQ0_3.out.lt)
          have HQ1_4 := Lib.hid (HQ1_3.out.below hb2 HQ1_3.out.lt)
          have HR4 := Lib.hid (HR3.out.up hb2)
          have HL4 := Lib.hid (HL3.out.up hb2)
          have HCR4 := Lib.hid ((RdI.below HCR3.out hb2 (Nat.le_refl _)).more hb2.size)
          clear hb2 hcr y0 y1 y2 y3 y4 y5 nf nlt v0 v1 vf vlt
          obtain ⟨y0, y1, y2, y3, y4, y5, nf, nlt⟩ := net_box HQ0_4.out
          obtain ⟨v0, v1, vf, vlt⟩ := check_box HQ1_4.out
          by_cases hlt : k2 < 6
          · obtain ⟨z, hz⟩ : ∃ z, ls[k2]? = some z := ⟨_, List.getElem?_eq_getElem (by have := HLL.out; omega)⟩
            have HHAS := Lib.hid (cov_has HP.out hz)
            obtain ⟨lb, loff, hA, hlb⟩ := HL4.out.form (by omega)
            subst hA
            obtain ⟨l0, l1, l2⟩ := HL4.out.at_ hz
            obtain ⟨hzr, hzn⟩ := HL4.out.zs z (List.mem_of_getElem? hz)
            have hb5 : Below wr.heap.size wr (wr.alloc (.cells #[.string z.r.node, .string z.r.branch, .slice z.A z.n z.c] 57)) := (Below.refl _ _).alloc (Nat.le_refl _) _
            have HB5 := Lib.hid hb5
            have HR5 := Lib.hid (HR4.out.up hb5)
            have HZR := Lib.hid ((hzr.below hb5 (Nat.le_refl _)).more hb5.size)
            have HCR5 := Lib.hid ((RdI.below HCR4.out hb5 (Nat.le_refl _)).more hb5.size)
            clear hb5 hzr hz
            go_wp2_with fail
            refine (ztim_any h x z.r p z.A z.n z.c _ HR5.out HZR.out hzn).mono ?_
            generalize timR x z.r p = tt at *
            obtain ⟨a, ee⟩ := tt
            rintro e w6 ⟨rfl, k6⟩
            have hb6 := HB5.out.trans (k6.mono HB5.out.size)
            have hc6 := (RdI.below HCR5.out k6 (Nat.le_refl _)).more k6.size
            have HB6 := Lib.hid hb6
            have HC6 := Lib.hid hc6
            clear k6 hb6 hc6 l0 l1 l2 y0 y1 y2 y3 y4 y5 nf nlt v0 v1 vf vlt
            go_wp2_with fail
            refine (hasInt_any cA _ cc L (k2 : Int) _ HC6.out (by omega)).mono ?_
            rw [HHAS.out]
            rintro e w7 ⟨rfl, rfl⟩
            by_cases c0 : ee = 0
            · subst c0
              go_wp2_with fail
              go_roundw
              case rel => exact ⟨k2 + 1, by omega, by go_num, HBB.out.trans (HB6.out.mono HBB.out.size)⟩
              case measure => simp [intOf]; omega
            · have c0b : (ee == 0) = false := by simpa using c0
              have c0c : decide (ee = 0) = false := by simpa using c0
              clear c0
              go_wp2_with fail
              go_roundw
              case rel => exact ⟨k2 + 1, by omega, by go_num, HBB.out.trans (HB6.out.mono HBB.out.size)⟩
              case measure => simp [intOf]; omega
          · go_wp2_with fail
            go_ret
            exact ⟨rfl, HB2.out.trans ((HB.out.trans (HBB.out.mono HB.out.size)).mono HB2.out.size)⟩

theorem zcovered_any (h : NetH) (x : Net) (p : Fp) (l : List Zh) (A : Option Addr) (n c : Nat) (w : World) (hR : RdNet w w.heap.size h x) (hL0 : RdZh w w.heap.size A n l) (hnc : n ≤ c) (hc : c ≤ 9223372036854775807) :
    Calls Try.prog 9 #[.agg h.cells, .slice A n c, .agg #[.string p.branch, .int .i64 p.part]] w fun e w' => e = .returned (.bool true) ∧ Below w.heap.size w w' := by
  by_cases h6 : n ≤ 6
  · exact zcovered_small h x p l A n c w hR hL0 hnc hc h6
  · exact zcovered_big h x p l A n c w hR hL0 hnc hc (by omega)
end Go.Proofs.Ythedpegaelpbdaa
