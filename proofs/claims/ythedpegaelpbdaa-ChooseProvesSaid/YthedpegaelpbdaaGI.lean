/- choose.Isolated, choose.Least, choose.Ways: the walks. -/
import Derived.Test.YthedpegaelpbdaaGY
import Derived.Test.YthedpegaelpbdaaF1
namespace Go.Proofs.Ythedpegaelpbdaa
open Go.ChangeShapes Go.WideShapes Go.ChangeAt Go.RowKit
set_option linter.unusedVariables false
attribute [local go_sem ↓] execOp_call_val
attribute [local go_sem] callVal_func setCell_drewN alloc_drewN sEq_walk NetH.cells

theorem cp_net {x : Net} {p : Fp} (h : cpR x p = 0) : netCk x = 0 := by
  unfold cpR at h
  by_cases h0 : netCk x = 0
  · exact h0
  · rw [if_pos h0] at h; exact absurd h h0
theorem kind_sw (k : ByteArray) : (k.toList == [115, 119, 105, 116, 99, 104]) = sEq k ⟨#[115, 119, 105, 116, 99, 104]⟩ := by
  rw [← sEq_walk, ByteArray.toList_eq ⟨#[115, 119, 105, 116, 99, 104]⟩]
def swOk (x : Net) (s : ByteArray) : Prop := ixN x s < 0 ∧ 0 ≤ ix1 x s
def isoB (x : Net) (opens : List ByteArray) (p : Fp) : Bool := decide ((bfsR goR (fdEs x opens p) (fdSrc x) (fdSrc x).length (fdPl x p)).2 < 0)
def IsoP (x : Net) (opens : List ByteArray) (p : Fp) (w : World) (e : Ending) (w' : World) : Prop :=
  Below w.heap.size w w' ∧ ∃ (b : Bool) (j : Int), e = .returned (.tuple #[.bool b, .int .i64 j]) ∧
    ((cpR x p ≠ 0 ∧ b = false ∧ j = cpR x p) ∨ (cpR x p = 0 ∧ (∃ s ∈ opens, ¬ swOk x s) ∧ b = false ∧ j = 6) ∨ (cpR x p = 0 ∧ (∀ s ∈ opens, swOk x s) ∧ b = isoB x opens p ∧ j = 0))
set_option maxRecDepth 100000 in
set_option maxHeartbeats 8000000 in
theorem isolated_any (h : NetH) (x : Net) (p : Fp) (O : Option Addr) (on oc : Nat) (opens : List ByteArray) (w : World) (hR : RdNet w w.heap.size h x) (hO : RdStr w w.heap.size O on opens) (hon : on ≤ 9223372036854775807) :
    Calls Try.prog 16 #[.agg h.cells, .slice O on oc, .agg #[.string p.branch, .int .i64 p.part]] w (IsoP x opens p w) := by
  have HP : Hid (∀ e w', IsoP x opens p w e w' = (Below w.heap.size w w' ∧ ∃ (b : Bool) (j : Int), e = .returned (.tuple #[.bool b, .int .i64 j]) ∧
    ((cpR x p ≠ 0 ∧ b = false ∧ j = cpR x p) ∨ (cpR x p = 0 ∧ (∃ s ∈ opens, ¬ swOk x s) ∧ b = false ∧ j = 6) ∨ (cpR x p = 0 ∧ (∀ s ∈ opens, swOk x s) ∧ b = isoB x opens p ∧ j = 0)))) := Lib.hid fun _ _ => rfl
  obtain ⟨A0, n0, c0, A1, n1, c1, A2, n2, c2, A3, n3, c3, A4, n4, c4, A5, n5, c5⟩ := h
  dsimp only [NetH.cells] at *
  have HR := Lib.hid hR
  have HO := Lib.hid hO
  have HON := Lib.hid hO.1
  have HB0 : Hid (Below w.heap.size w ((w.alloc (.cells #[.slice A0 n0 c0, .slice A1 n1 c1, .slice A2 n2 c2, .slice A3 n3 c3, .slice A4 n4 c4, .slice A5 n5 c5] 29)).alloc (.cells #[.string p.branch, .int .i64 p.part] 31))) := Lib.hid (((Below.refl _ _).alloc (Nat.le_refl _) _).alloc (by simp) _)
  have HQ1 : Hid (Blk ((w.alloc (.cells #[.slice A0 n0 c0, .slice A1 n1 c1, .slice A2 n2 c2, .slice A3 n3 c3, .slice A4 n4 c4, .slice A5 n5 c5] 29)).alloc (.cells #[.string p.branch, .int .i64 p.part] 31)) w.heap.size 29 #[.slice A0 n0 c0, .slice A1 n1 c1, .slice A2 n2 c2, .slice A3 n3 c3, .slice A4 n4 c4, .slice A5 n5 c5]) := Lib.hid ((Blk.new w _ _).alloc _)
  have HQ3 : Hid (Blk ((w.alloc (.cells #[.slice A0 n0 c0, .slice A1 n1 c1, .slice A2 n2 c2, .slice A3 n3 c3, .slice A4 n4 c4, .slice A5 n5 c5] 29)).alloc (.cells #[.string p.branch, .int .i64 p.part] 31)) (w.heap.size + 1) 31 #[.string p.branch, .int .i64 p.part]) := Lib.hid (Blk.new_ (by simp))
  clear hR hO
  go_enter Try.func16, Try.ntmps16
  go_wp2_with fail
  generalize (w.alloc (.cells #[.slice A0 n0 c0, .slice A1 n1 c1, .slice A2 n2 c2, .slice A3 n3 c3, .slice A4 n4 c4, .slice A5 n5 c5] 29)).alloc (.cells #[.string p.branch, .int .i64 p.part] 31) = W0 at *
  refine (checkPlace_any ⟨A0, n0, c0, A1, n1, c1, A2, n2, c2, A3, n3, c3, A4, n4, c4, A5, n5, c5⟩ x p W0 (HR.out.up HB0.out)).mono ?_
  rintro e w1 ⟨rfl, k1⟩
  have HB1 := Lib.hid (HB0.out.trans (k1.mono HB0.out.size))
  have HQ1 := Lib.hid (HQ1.out.below k1 HQ1.out.lt)
  have HQ3 := Lib.hid (HQ3.out.below k1 HQ3.out.lt)
  have HPC := HP
  generalize hcp : cpR x p = cp at HPC ⊢
  have HCP := Lib.hid hcp
  clear k1 hcp
  by_cases h0 : cp = 0
  · subst h0
    have HNET := Lib.hid (cp_net HCP.out)
    go_wp2_with fail
    go_loopw [24] (fun i wr => ∃ k : Nat, k ≤ on ∧ i = .int .i64 k ∧ Below w.heap.size w wr ∧ Blk wr w.heap.size 29 #[.slice A0 n0 c0, .slice A1 n1 c1, .slice A2 n2 c2, .slice A3 n3 c3, .slice A4 n4 c4, .slice A5 n5 c5] ∧ Blk wr (w.heap.size + 1) 31 #[.string p.branch, .int .i64 p.part] ∧ ∀ s ∈ opens.take k, swOk x s) (fun i _ => on - (intOf i).toNat)
    case atStart => exact ⟨0, by omega, rfl, HB1.out, HQ1.out, HQ3.out, by simp⟩
    case round =>
      clear HQ1 HQ3
      obtain ⟨k, hk, rfl, hb, hq1, hq3, hall⟩ := hrel
      have HB := Lib.hid hb
      have HQ1 := Lib.hid hq1
      have HQ3 := Lib.hid hq3
      have HALL := Lib.hid hall
      obtain ⟨y0, y1, y2, y3, y4, y5, nf, nlt⟩ := net_box (h := ⟨A0, n0, c0, A1, n1, c1, A2, n2, c2, A3, n3, c3, A4, n4, c4, A5, n5, c5⟩) hq1
      have p0 := hq3.cell 0
      have p1 := hq3.cell 1
      have HRw := Lib.hid (HR.out.up hb)
      have hRO := (HO.out.below hb (Nat.le_refl _)).more hb.size
      clear hb hq1 hq3 hall
      by_cases hlt : k < on
      · obtain ⟨s, hs⟩ : ∃ s, opens[k]? = some s := ⟨_, List.getElem?_eq_getElem (by have := HON.out; omega)⟩
        obtain ⟨bz, oz, rfl, hbz⟩ := hRO.form (by omega)
        have e0 := hRO.at_ hs
        have HTK : Hid (∀ t ∈ opens.take (k + 1), t ∈ opens.take k ∨ t = s) := Lib.hid (fun t ht => by
          rw [List.take_add_one, hs] at ht
          rcases List.mem_append.1 ht with h | h
          · exact .inl h
          · exact .inr (by simpa using h))
        have HMS := Lib.hid (List.mem_of_getElem? hs)
        have hkI : (k : Int) < (on : Int) := by omega
        clear hs hRO
        go_wp2_with fail
        refine (netFind_any ⟨A0, n0, c0, A1, n1, c1, A2, n2, c2, A3, n3, c3, A4, n4, c4, A5, n5, c5⟩ x s wr HRw.out HNET.out).mono ?_
        rintro e w2 ⟨k2, kind, i, j, rfl, hiff⟩
        have HB2 := Lib.hid (HB.out.trans (k2.mono HB.out.size))
        have HQ12 := Lib.hid (HQ1.out.below k2 HQ1.out.lt)
        have HQ32 := Lib.hid (HQ3.out.below k2 HQ3.out.lt)
        have HIFF := Lib.hid hiff
        clear k2 hiff
        by_cases hj : j = 0
        · subst hj
          by_cases hkd : kind = ⟨#[115, 119, 105, 116, 99, 104]⟩
          · subst hkd
            have hsw : swOk x s := by
              refine Classical.byContradiction fun hn => ?_
              rcases (HIFF.out.2 hn) with h | h
              · exact h rfl
              · exact h rfl
            have HSW := Lib.hid hsw
            clear hsw
            go_wp2_with fail
            go_roundw
            case rel => exact ⟨k + 1, by omega, by go_num, HB2.out, HQ12.out, HQ32.out, fun t ht => (HTK.out t ht).elim (fun h => HALL.out t h) (fun h => h ▸ HSW.out)⟩
            case measure => simp [intOf]; omega
          · have hkb : (kind.toList == [115, 119, 105, 116, 99, 104]) = false := by rw [kind_sw]; exact sEq_ff.2 hkd
            have hsw : ¬ swOk x s := HIFF.out.1 (.inr hkd)
            have HSW := Lib.hid hsw
            clear hsw hkd
            go_wp2_with fail
            go_ret2
            rw [HP.out]
            exact ⟨HB2.out, _, _, rfl, .inr (.inl ⟨HCP.out, ⟨s, HMS.out, HSW.out⟩, rfl, rfl⟩)⟩
        · have hsw : ¬ swOk x s := HIFF.out.1 (.inl hj)
          have HSW := Lib.hid hsw
          have hjb : (j != 0) = true := by simpa using hj
          clear hsw hj
          go_wp2_with fail
          go_ret2
          rw [HP.out]
          exact ⟨HB2.out, _, _, rfl, .inr (.inl ⟨HCP.out, ⟨s, HMS.out, HSW.out⟩, rfl, rfl⟩)⟩
      · have hkk : k = on := by omega
        subst hkk
        have HALL2 : Hid (∀ s ∈ opens, swOk x s) := Lib.hid (by have h := HALL.out; rw [List.take_of_length_le (by have := HON.out; omega)] at h; exact h)
        have HRO := Lib.hid hRO
        have HOK := Lib.hid (netCk_ok HNET.out)
        clear hRO
        go_wp2_with fail
        refine (fieldOf_any ⟨A0, n0, c0, A1, n1, c1, A2, n2, c2, A3, n3, c3, A4, n4, c4, A5, n5, c5⟩ x HOK.out O k oc opens p wr HRw.out HRO.out hon).mono ?_
        rintro e w3 ⟨k3, q, g, v, rfl, hq, hF⟩
        have HB3 := Lib.hid (HB.out.trans (k3.mono HB.out.size))
        obtain ⟨A, c, hv, hI⟩ := hF.is
        have HI := Lib.hid hI
        have hpl := fd_place HOK.out p
        have hsl : (fdSrc x).length ≤ 25 := by rw [fdSrc_len]; have := HOK.out.l0; omega
        have hel := fd_len HOK.out opens p
        clear k3 hF hI hv
        go_wp2_with fail
        refine (search_any q A c (fdEs x opens p) (fdPl x p) (some ⟨g, 0, none⟩) (fdSrc x).length (fdSrc x) w3 HI.out (fd_ok HOK.out opens p) hpl (by omega) (by omega) (fun e he => by rw [fd_zero x opens p e he]; omega)).mono ?_
        rintro e w4 ⟨k4, gq, he4, hgq, hbq⟩
        have HIB : Hid (isoB x opens p = decide ((bfsR goR (fdEs x opens p) (fdSrc x) (fdSrc x).length (fdPl x p)).2 < 0)) := Lib.hid rfl
        generalize bfsR goR (fdEs x opens p) (fdSrc x) (fdSrc x).length (fdPl x p) = R at *
        obtain ⟨by_, at_⟩ := R
        dsimp only at he4 HIB
        subst he4
        have HB4 := Lib.hid (HB3.out.trans (k4.mono HB3.out.size))
        clear k4 hbq
        go_wp2_with fail
        go_ret2
        rw [HP.out]
        exact ⟨HB4.out, _, _, rfl, .inr (.inr ⟨HCP.out, HALL2.out, HIB.out.symm, rfl⟩)⟩
  · have hcb : (cp != 0) = true := by simpa using h0
    have H0 := Lib.hid h0
    clear h0
    go_wp2_with fail
    go_ret2
    rw [HP.out]
    exact ⟨HB1.out, _, _, rfl, .inl ⟨by rw [HCP.out]; exact H0.out, rfl, HCP.out.symm⟩⟩
end Go.Proofs.Ythedpegaelpbdaa
