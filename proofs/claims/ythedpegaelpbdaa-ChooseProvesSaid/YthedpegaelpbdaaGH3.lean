/- The law ChooseProves: the walk. -/
import Derived.Test.YthedpegaelpbdaaGH
import Derived.Test.YthedpegaelpbdaaGHQ
namespace Go.Proofs.Ythedpegaelpbdaa
open Go.ChangeShapes Go.WideShapes Go.ChangeAt Go.RowKit
set_option linter.unusedVariables false
attribute [local go_sem ↓] execOp_call_val
attribute [local go_sem] callVal_func setCell_drewN alloc_drewN sEq_walk NetH.cells

theorem least_prf {x : Net} {p : Fp} {w : World} {e : Ending} {w' : World} (h : LstP x p w e w') : Below w.heap.size w w' ∧ ((∃ j : Int, j ≠ 0 ∧ e = .returned (.tuple #[.slice none 0 0, .int .i64 j]) ∧ ∀ (u : World) (e' : Ending) (u' : World), WaysP x p u e' u' → e' = .returned (.tuple #[.slice none 0 0, .int .i64 j])) ∨
    (cpR x p = 0 ∧ ∃ l A c, e = .returned (.tuple #[.slice A l.length c, .int .i64 0]) ∧ RdStr w' w'.heap.size A l.length l ∧ l.length ≤ c ∧ l.length ≤ 80 ∧ (∀ s ∈ l, swOk x s) ∧ isoB x l p = true ∧
      ∀ (u : World) (e' : Ending) (u' : World), WaysP x p u e' u' → ∃ V vc xs, e' = .returned (.tuple #[.slice V xs.length vc, .int .i64 0]) ∧ RdWy u' V xs.length xs ∧ xs.length ≤ vc ∧ PrfOk x p l (xs.map Wy.ss))) := by
  obtain ⟨hb, ⟨h1, h2⟩ | ⟨h1, h2, h3⟩ | ⟨h1, es, l, j, A, c, h2, h3, h4, h5⟩⟩ := h
  · refine ⟨hb, .inl ⟨_, h1, h2, fun u e' u' hw => ?_⟩⟩
    obtain ⟨_, ⟨_, k2⟩ | ⟨k1, _⟩ | ⟨k1, _⟩⟩ := hw
    · exact k2
    · exact absurd k1 h1
    · exact absurd k1 h1
  · refine ⟨hb, .inl ⟨8, by decide, h3, fun u e' u' hw => ?_⟩⟩
    obtain ⟨_, ⟨k1, _⟩ | ⟨_, _, k2⟩ | ⟨_, es, l, j, vo, xs, k1, _⟩⟩ := hw
    · exact absurd h1 k1
    · exact k2
    · have := k1.lst
      rw [h2.1] at this; cases this
  · have hprf := prf_law h1 h2
    have hjl := h2.le
    have hl80 := fd_len (netCk_ok (cp_net h1)) [] p
    have hlj := ls_len h1 h2
    refine ⟨hb, .inr ⟨h1, l, A, c, h3, h4, h5, by omega, hprf.sw, hprf.iso, fun u e' u' hw => ?_⟩⟩
    obtain ⟨_, ⟨k1, _⟩ | ⟨_, k1, _⟩ | ⟨_, es', l', j', vo, xs, k1, k2, k3, k4, k5⟩⟩ := hw
    · exact absurd h1 k1
    · have := h2.lst
      rw [k1.1] at this; cases this
    · have he := h2.lst
      rw [k1.lst] at he
      injection he with he
      injection he with e1 e2
      subst e1; subst e2
      obtain ⟨V, vc, rfl, hv, hc⟩ := rdWy_own k3 k4
      exact ⟨V, vc, xs, k2, hv, hc, by rw [k5]; exact hprf⟩
set_option maxRecDepth 100000 in
set_option maxHeartbeats 1600000 in
theorem chproves_any (h : NetH) (x : Net) (p : Fp) (w : World) (hR : RdNet w w.heap.size h x) :
    Calls Try.prog 3 #[.agg h.cells, .agg #[.string p.branch, .int .i64 p.part]] w fun e w' => e = .returned (.bool true) ∧ Below w.heap.size w w' := by
  have hB0 : Below w.heap.size w ((w.alloc (.cells h.cells 29)).alloc (.cells #[.string p.branch, .int .i64 p.part] 31)) := ((Below.refl _ _).alloc (Nat.le_refl _) _).alloc (by simp) _
  have HB0 := Lib.hid hB0
  have HR0 := Lib.hid hR
  have HQ0 : Hid (Blk ((w.alloc (.cells h.cells 29)).alloc (.cells #[.string p.branch, .int .i64 p.part] 31)) w.heap.size 29 h.cells) := Lib.hid ((Blk.new w _ _).alloc _)
  have HP0 : Hid (Blk ((w.alloc (.cells h.cells 29)).alloc (.cells #[.string p.branch, .int .i64 p.part] 31)) (w.heap.size + 1) 31 #[.string p.branch, .int .i64 p.part]) := Lib.hid (Blk.new_ (by simp))
  obtain ⟨A0, n0, c0, A1, n1, c1, A2, n2, c2, A3, n3, c3, A4, n4, c4, A5, n5, c5⟩ := h
  dsimp only [NetH.cells] at *
  clear hB0 hR
  go_enter Try.func3, Try.ntmps3
  go_wp2_with fail
  generalize (w.alloc (.cells #[.slice A0 n0 c0, .slice A1 n1 c1, .slice A2 n2 c2, .slice A3 n3 c3, .slice A4 n4 c4, .slice A5 n5 c5] 29)).alloc (.cells #[.string p.branch, .int .i64 p.part] 31) = W0 at *
  refine (cworks_any _).mono ?_
  rintro e w1 ⟨rfl, k1⟩
  have HB1 := Lib.hid (HB0.out.trans (k1.mono HB0.out.size))
  have HQ1 := Lib.hid (HQ0.out.below k1 HQ0.out.lt)
  have HP1 := Lib.hid (HP0.out.below k1 HP0.out.lt)
  clear k1
  obtain ⟨y0, y1, y2, y3, y4, y5, nf, nlt⟩ := net_box (h := ⟨A0, n0, c0, A1, n1, c1, A2, n2, c2, A3, n3, c3, A4, n4, c4, A5, n5, c5⟩) HQ1.out
  obtain ⟨p0, p1, pf, plt⟩ := check_box HP1.out
  go_wp2_with fail
  clear y0 y1 y2 y3 y4 y5 nf nlt p0 p1 pf plt
  refine (cleast_any ⟨A0, n0, c0, A1, n1, c1, A2, n2, c2, A3, n3, c3, A4, n4, c4, A5, n5, c5⟩ x p w1 (HR0.out.up HB1.out)).mono ?_
  intro e w2 hp
  obtain ⟨k2, ⟨j, hj, rfl, hways⟩ | ⟨hcp, l, A, c, rfl, hrd, hlc, hl80, hsw, hiso, hways⟩⟩ := least_prf hp
  · have HB2 := Lib.hid (HB1.out.trans (k2.mono HB1.out.size))
    have HQ2 := Lib.hid (HQ1.out.below k2 HQ1.out.lt)
    have HP2 := Lib.hid (HP1.out.below k2 HP1.out.lt)
    have HW := Lib.hid hways
    have HJ := Lib.hid hj
    clear k2 hp hways hj
    obtain ⟨y0, y1, y2, y3, y4, y5, nf, nlt⟩ := net_box (h := ⟨A0, n0, c0, A1, n1, c1, A2, n2, c2, A3, n3, c3, A4, n4, c4, A5, n5, c5⟩) HQ2.out
    obtain ⟨p0, p1, pf, plt⟩ := check_box HP2.out
    go_wp2_with fail
    clear y0 y1 y2 y3 y4 y5 nf nlt p0 p1 pf plt
    refine (ways_any ⟨A0, n0, c0, A1, n1, c1, A2, n2, c2, A3, n3, c3, A4, n4, c4, A5, n5, c5⟩ x p w2 (HR0.out.up HB2.out)).mono ?_
    intro e w3 hp
    have hee := HW.out _ _ _ hp
    subst hee
    have HB3 := Lib.hid (HB2.out.trans (hp.1.mono HB2.out.size))
    have hj := HJ.out
    clear hp
    go_wp2_with fail
    go_ret
    exact ⟨rfl, HB3.out⟩
  · have HB2 := Lib.hid (HB1.out.trans (k2.mono HB1.out.size))
    have HQ2 := Lib.hid (HQ1.out.below k2 HQ1.out.lt)
    have HP2 := Lib.hid (HP1.out.below k2 HP1.out.lt)
    have HW := Lib.hid hways
    have HCP := Lib.hid hcp
    have HRD := Lib.hid hrd
    have HLC := Lib.hid hlc
    have HL80 := Lib.hid hl80
    have HSW := Lib.hid hsw
    have HISO := Lib.hid hiso
    have HLN := Lib.hid hrd.1
    clear k2 hp hways hcp hrd hlc hl80 hsw hiso
    obtain ⟨y0, y1, y2, y3, y4, y5, nf, nlt⟩ := net_box (h := ⟨A0, n0, c0, A1, n1, c1, A2, n2, c2, A3, n3, c3, A4, n4, c4, A5, n5, c5⟩) HQ2.out
    obtain ⟨p0, p1, pf, plt⟩ := check_box HP2.out
    go_wp2_with fail
    clear y0 y1 y2 y3 y4 y5 nf nlt p0 p1 pf plt
    refine (ways_any ⟨A0, n0, c0, A1, n1, c1, A2, n2, c2, A3, n3, c3, A4, n4, c4, A5, n5, c5⟩ x p w2 (HR0.out.up HB2.out)).mono ?_
    intro e w3 hp
    obtain ⟨V, vc, xs, rfl, hwy, hvc, hprf⟩ := HW.out _ _ _ hp
    have k3 := hp.1
    have HB3 := Lib.hid (HB2.out.trans (k3.mono HB2.out.size))
    have HQ3 := Lib.hid (HQ2.out.below k3 HQ2.out.lt)
    have HP3 := Lib.hid (HP2.out.below k3 HP2.out.lt)
    have HRD3 := Lib.hid ((HRD.out.below k3 (Nat.le_refl _)).more k3.size)
    have HWY := Lib.hid hwy
    have HPRF := Lib.hid hprf
    clear k3 hp hwy hprf hvc HW
    obtain ⟨y0, y1, y2, y3, y4, y5, nf, nlt⟩ := net_box (h := ⟨A0, n0, c0, A1, n1, c1, A2, n2, c2, A3, n3, c3, A4, n4, c4, A5, n5, c5⟩) HQ3.out
    obtain ⟨p0, p1, pf, plt⟩ := check_box HP3.out
    go_wp2_with fail
    clear y0 y1 y2 y3 y4 y5 nf nlt p0 p1 pf plt
    refine (isolated_any ⟨A0, n0, c0, A1, n1, c1, A2, n2, c2, A3, n3, c3, A4, n4, c4, A5, n5, c5⟩ x p A l.length c l w3 (HR0.out.up HB3.out) HRD3.out (by have := HL80.out; omega)).mono ?_
    rintro e w4 ⟨k4, b, jj, rfl, halt⟩
    obtain ⟨rfl, rfl⟩ : b = true ∧ jj = 0 := by
      rcases halt with ⟨a, _⟩ | ⟨_, ⟨s, hs, hn⟩, _⟩ | ⟨_, _, a, b⟩
      · exact absurd HCP.out a
      · exact absurd (HSW.out s hs) hn
      · exact ⟨a.trans HISO.out, b⟩
    have HB4 := Lib.hid (HB3.out.trans (k4.mono HB3.out.size))
    have HQ4 := Lib.hid (HQ3.out.below k4 HQ3.out.lt)
    have HP4 := Lib.hid (HP3.out.below k4 HP3.out.lt)
    have HRD4 := Lib.hid ((HRD3.out.below k4 (Nat.le_refl _)).more k4.size)
    have HWY4 := Lib.hid (HWY.out.up k4)
    clear k4 halt
    obtain ⟨y0, y1, y2, y3, y4, y5, nf, nlt⟩ := net_box (h := ⟨A0, n0, c0, A1, n1, c1, A2, n2, c2, A3, n3, c3, A4, n4, c4, A5, n5, c5⟩) HQ4.out
    obtain ⟨p0, p1, pf, plt⟩ := check_box HP4.out
    go_wp2_with fail
    clear y0 y1 y2 y3 y4 y5 nf nlt p0 p1 pf plt
    refine (proves_yes ⟨A0, n0, c0, A1, n1, c1, A2, n2, c2, A3, n3, c3, A4, n4, c4, A5, n5, c5⟩ x p A l.length c l V xs.length vc xs w4 (HR0.out.up HB4.out) HRD4.out HLC.out HWY4.out HPRF.out).mono ?_
    rintro e w5 ⟨rfl, k5⟩
    have HB5 := Lib.hid (HB4.out.trans (k5.mono HB4.out.size))
    clear k5
    go_wp2_with fail
    go_ret
    exact ⟨rfl, HB5.out⟩
end Go.Proofs.Ythedpegaelpbdaa
