/- choose.Least and choose.Ways: the walks. -/
import Derived.Test.YthedpegaelpbdaaGI
import Derived.Test.YthedpegaelpbdaaGN
namespace Go.Proofs.Ythedpegaelpbdaa
open Go.ChangeShapes Go.WideShapes Go.ChangeAt Go.RowKit
set_option linter.unusedVariables false
attribute [local go_sem ↓] execOp_call_val
attribute [local go_sem] callVal_func setCell_drewN alloc_drewN sEq_walk NetH.cells

/-- nothing cuts the place off -/
def NoCut (x : Net) (p : Fp) : Prop := lst x p = none ∧ ∃ es, Fl (fdEs x [] p) (fdSrc x) (fdSrc x).length (fdPl x p) es (1 + (fdEs x [] p).length)
/-- a least set -/
structure LsOk (x : Net) (p : Fp) (es : List Ed) (l : List ByteArray) (j : Nat) : Prop where
  lst : lst x p = some (es, l)
  fl : Fl (fdEs x [] p) (fdSrc x) (fdSrc x).length (fdPl x p) es j
  le : j ≤ (fdEs x [] p).length
  neg : (bfsR goR es (fdSrc x) (fdSrc x).length (fdPl x p)).2 < 0
  eq : l = borderR (bfsR goR es (fdSrc x) (fdSrc x).length (fdPl x p)).1 es
def LstP (x : Net) (p : Fp) (w : World) (e : Ending) (w' : World) : Prop :=
  Below w.heap.size w w' ∧ ((cpR x p ≠ 0 ∧ e = .returned (.tuple #[.slice none 0 0, .int .i64 (cpR x p)])) ∨ (cpR x p = 0 ∧ NoCut x p ∧ e = .returned (.tuple #[.slice none 0 0, .int .i64 8])) ∨
    (cpR x p = 0 ∧ ∃ es l j A c, LsOk x p es l j ∧ e = .returned (.tuple #[.slice A l.length c, .int .i64 0]) ∧ RdStr w' w'.heap.size A l.length l ∧ l.length ≤ c))
set_option maxRecDepth 100000 in
set_option maxHeartbeats 8000000 in
theorem cleast_any (h : NetH) (x : Net) (p : Fp) (w : World) (hR : RdNet w w.heap.size h x) :
    Calls Try.prog 14 #[.agg h.cells, .agg #[.string p.branch, .int .i64 p.part]] w (LstP x p w) := by
  have HP : Hid (∀ e w', LstP x p w e w' = (Below w.heap.size w w' ∧ ((cpR x p ≠ 0 ∧ e = .returned (.tuple #[.slice none 0 0, .int .i64 (cpR x p)])) ∨ (cpR x p = 0 ∧ NoCut x p ∧ e = .returned (.tuple #[.slice none 0 0, .int .i64 8])) ∨
    (cpR x p = 0 ∧ ∃ es l j A c, LsOk x p es l j ∧ e = .returned (.tuple #[.slice A l.length c, .int .i64 0]) ∧ RdStr w' w'.heap.size A l.length l ∧ l.length ≤ c)))) := Lib.hid fun _ _ => rfl
  obtain ⟨A0, n0, c0, A1, n1, c1, A2, n2, c2, A3, n3, c3, A4, n4, c4, A5, n5, c5⟩ := h
  dsimp only [NetH.cells] at *
  have HR := Lib.hid hR
  have HB0 : Hid (Below w.heap.size w ((w.alloc (.cells #[.slice A0 n0 c0, .slice A1 n1 c1, .slice A2 n2 c2, .slice A3 n3 c3, .slice A4 n4 c4, .slice A5 n5 c5] 29)).alloc (.cells #[.string p.branch, .int .i64 p.part] 31))) := Lib.hid (((Below.refl _ _).alloc (Nat.le_refl _) _).alloc (by simp) _)
  have HQ1 : Hid (Blk ((w.alloc (.cells #[.slice A0 n0 c0, .slice A1 n1 c1, .slice A2 n2 c2, .slice A3 n3 c3, .slice A4 n4 c4, .slice A5 n5 c5] 29)).alloc (.cells #[.string p.branch, .int .i64 p.part] 31)) w.heap.size 29 #[.slice A0 n0 c0, .slice A1 n1 c1, .slice A2 n2 c2, .slice A3 n3 c3, .slice A4 n4 c4, .slice A5 n5 c5]) := Lib.hid ((Blk.new w _ _).alloc _)
  have HQ3 : Hid (Blk ((w.alloc (.cells #[.slice A0 n0 c0, .slice A1 n1 c1, .slice A2 n2 c2, .slice A3 n3 c3, .slice A4 n4 c4, .slice A5 n5 c5] 29)).alloc (.cells #[.string p.branch, .int .i64 p.part] 31)) (w.heap.size + 1) 31 #[.string p.branch, .int .i64 p.part]) := Lib.hid (Blk.new_ (by simp))
  clear hR
  go_enter Try.func14, Try.ntmps14
  go_wp2_with fail
  generalize (w.alloc (.cells #[.slice A0 n0 c0, .slice A1 n1 c1, .slice A2 n2 c2, .slice A3 n3 c3, .slice A4 n4 c4, .slice A5 n5 c5] 29)).alloc (.cells #[.string p.branch, .int .i64 p.part] 31) = W0 at *
  refine (checkPlace_any ⟨A0, n0, c0, A1, n1, c1, A2, n2, c2, A3, n3, c3, A4, n4, c4, A5, n5, c5⟩ x p W0 (HR.out.up HB0.out)).mono ?_
  rintro e w1 ⟨rfl, k1⟩
  have HB1 := Lib.hid (HB0.out.trans (k1.mono HB0.out.size))
  have hq1 := HQ1.out.below k1 HQ1.out.lt
  have hq3 := HQ3.out.below k1 HQ3.out.lt
  obtain ⟨y0, y1, y2, y3, y4, y5, nf, nlt⟩ := net_box (h := ⟨A0, n0, c0, A1, n1, c1, A2, n2, c2, A3, n3, c3, A4, n4, c4, A5, n5, c5⟩) hq1
  have p0 := hq3.cell 0
  have p1 := hq3.cell 1
  have HR1 := Lib.hid (HR.out.up HB1.out)
  generalize hcp : cpR x p = cp at HP ⊢
  have HCP := Lib.hid hcp
  clear k1 hcp hq1 hq3
  by_cases h0 : cp = 0
  · subst h0
    have HOK := Lib.hid (netCk_ok (cp_net HCP.out))
    go_wp2_with fail
    refine (least_any ⟨A0, n0, c0, A1, n1, c1, A2, n2, c2, A3, n3, c3, A4, n4, c4, A5, n5, c5⟩ x HOK.out p w1 HR1.out).mono ?_
    rintro e w2 ⟨k2, ⟨hn, hfl, rfl⟩ | ⟨es, l, q, g, v, A, c, j, h1, rfl, h3, h4, h5, h6, h7, h8, h9, h10⟩⟩
    · have HB2 := Lib.hid (HB1.out.trans (k2.mono HB1.out.size))
      have HN : Hid (NoCut x p) := Lib.hid ⟨hn, _, hfl⟩
      clear k2 hn hfl
      go_wp2_with fail
      go_ret2
      rw [HP.out]
      exact ⟨HB2.out, .inr (.inl ⟨by first | rfl | trivial, HN.out, rfl⟩)⟩
    · have HB2 := Lib.hid (HB1.out.trans (k2.mono HB1.out.size))
      have HLS : Hid (LsOk x p es l j) := Lib.hid ⟨h1, h6, h7, h8, h9⟩
      have H5 := Lib.hid h5
      have H10 := Lib.hid h10
      clear k2 h1 h3 h4 h5 h6 h7 h8 h9 h10
      go_wp2_with fail
      go_ret2
      rw [HP.out]
      exact ⟨HB2.out, .inr (.inr ⟨by first | rfl | trivial, es, l, j, A, c, HLS.out, rfl, H5.out, H10.out⟩)⟩
  · have hcb : (cp != 0) = true := by simpa using h0
    have H0 := Lib.hid h0
    clear h0
    go_wp2_with fail
    go_ret2
    rw [HP.out]
    exact ⟨HB1.out, .inl ⟨H0.out, rfl⟩⟩
end Go.Proofs.Ythedpegaelpbdaa
