/- choose.Ways: the walk. -/
import Derived.Test.YthedpegaelpbdaaGT
namespace Go.Proofs.Ythedpegaelpbdaa
open Go.ChangeShapes Go.WideShapes Go.ChangeAt Go.RowKit
set_option linter.unusedVariables false
attribute [local go_sem ↓] execOp_call_val
attribute [local go_sem] callVal_func setCell_drewN alloc_drewN sEq_walk NetH.cells

theorem own_ne {w : World} {b1 b2 e1 e2 s1 s2 m1 m2 : Nat} {v1 v2 : Value} {x1 x2 : List Value} (h1 : w.ownsRow b1 e1 s1 v1 m1 x1) (h2 : w.ownsRow b2 e2 s2 v2 m2 x2) (he : e1 ≠ e2) : v1.ownBlock = none ∨ v1.ownBlock ≠ v2.ownBlock := by
  rcases h1.2 with h | ⟨g1, c1, cu1, q1, _, q2, _⟩
  · left; rw [h.1]; rfl
  · right
    rcases h2.2 with h | ⟨g2, c2, cu2, r1, _, r2, _⟩
    · rw [q1, h.1]; simp [Value.ownBlock]
    · rw [q1, r1]
      intro hc
      have hg : g1 = g2 := by simpa [Value.ownBlock] using hc
      subst hg
      rw [q2] at r2
      injection r2 with r2
      injection r2 with _ r3 _
      exact he r3
structure Wy where
  v : Value
  ss : List ByteArray
def WyIs (w : World) (base : Nat) (xs : List Wy) : Prop := ∀ z ∈ xs, w.ownsRow base 9 1 z.v z.ss.length (strsV z.ss)
def WaysP (x : Net) (p : Fp) (w : World) (e : Ending) (w' : World) : Prop :=
  Below w.heap.size w w' ∧ ((cpR x p ≠ 0 ∧ e = .returned (.tuple #[.slice none 0 0, .int .i64 (cpR x p)])) ∨ (cpR x p = 0 ∧ NoCut x p ∧ e = .returned (.tuple #[.slice none 0 0, .int .i64 8])) ∨
    (cpR x p = 0 ∧ ∃ es l j vo xs, LsOk x p es l j ∧ e = .returned (.tuple #[vo, .int .i64 0]) ∧ w'.ownsRow w.heap.size 22 1 vo xs.length (xs.map Wy.v) ∧ WyIs w' w.heap.size xs ∧ xs.map Wy.ss = waysR (fdSrc x) (fdSrc x).length (fdPl x p) l.length es []))
theorem info_ss : (Try.prog.info? 22).map (fun i => (i.zero, i.size, i.bytes)) = some (some (.slice none 0 0), 1, 24) := by kernel_rfl
set_option maxRecDepth 100000 in
set_option maxHeartbeats 8000000 in
theorem ways_any (h : NetH) (x : Net) (p : Fp) (w : World) (hR : RdNet w w.heap.size h x) :
    Calls Try.prog 15 #[.agg h.cells, .agg #[.string p.branch, .int .i64 p.part]] w (WaysP x p w) := by
  have HP : Hid (∀ e w', WaysP x p w e w' = (Below w.heap.size w w' ∧ ((cpR x p ≠ 0 ∧ e = .returned (.tuple #[.slice none 0 0, .int .i64 (cpR x p)])) ∨ (cpR x p = 0 ∧ NoCut x p ∧ e = .returned (.tuple #[.slice none 0 0, .int .i64 8])) ∨
    (cpR x p = 0 ∧ ∃ es l j vo xs, LsOk x p es l j ∧ e = .returned (.tuple #[vo, .int .i64 0]) ∧ w'.ownsRow w.heap.size 22 1 vo xs.length (xs.map Wy.v) ∧ WyIs w' w.heap.size xs ∧ xs.map Wy.ss = waysR (fdSrc x) (fdSrc x).length (fdPl x p) l.length es [])))) := Lib.hid fun _ _ => rfl
  obtain ⟨A0, n0, c0, A1, n1, c1, A2, n2, c2, A3, n3, c3, A4, n4, c4, A5, n5, c5⟩ := h
  dsimp only [NetH.cells] at *
  obtain ⟨i0, hi0, hi1, hi2, hi3⟩ := info_parts info_ss
  have HI0 := Lib.hid hi0
  have HI1 := Lib.hid hi1
  have HI2 := Lib.hid hi2
  have HI3 := Lib.hid hi3
  have HR := Lib.hid hR
  have HB0 : Hid (Below w.heap.size w ((w.alloc (.cells #[.slice A0 n0 c0, .slice A1 n1 c1, .slice A2 n2 c2, .slice A3 n3 c3, .slice A4 n4 c4, .slice A5 n5 c5] 29)).alloc (.cells #[.string p.branch, .int .i64 p.part] 31))) := Lib.hid (((Below.refl _ _).alloc (Nat.le_refl _) _).alloc (by simp) _)
  have HQ1 : Hid (Blk ((w.alloc (.cells #[.slice A0 n0 c0, .slice A1 n1 c1, .slice A2 n2 c2, .slice A3 n3 c3, .slice A4 n4 c4, .slice A5 n5 c5] 29)).alloc (.cells #[.string p.branch, .int .i64 p.part] 31)) w.heap.size 29 #[.slice A0 n0 c0, .slice A1 n1 c1, .slice A2 n2 c2, .slice A3 n3 c3, .slice A4 n4 c4, .slice A5 n5 c5]) := Lib.hid ((Blk.new w _ _).alloc _)
  have HQ3 : Hid (Blk ((w.alloc (.cells #[.slice A0 n0 c0, .slice A1 n1 c1, .slice A2 n2 c2, .slice A3 n3 c3, .slice A4 n4 c4, .slice A5 n5 c5] 29)).alloc (.cells #[.string p.branch, .int .i64 p.part] 31)) (w.heap.size + 1) 31 #[.string p.branch, .int .i64 p.part]) := Lib.hid (Blk.new_ (by simp))
  clear hR hi0 hi1 hi2 hi3
  go_enter Try.func15, Try.ntmps15
  go_wp2_with fail
  generalize (w.alloc (.cells #[.slice A0 n0 c0, .slice A1 n1 c1, .slice A2 n2 c2, .slice A3 n3 c3, .slice A4 n4 c4, .slice A5 n5 c5] 29)).alloc (.cells #[.string p.branch, .int .i64 p.part] 31) = W0 at *
  refine (checkPlace_any ⟨A0, n0, c0, A1, n1, c1, A2, n2, c2, A3, n3, c3, A4, n4, c4, A5, n5, c5⟩ x p W0 (HR.out.up HB0.out)).mono ?_
  rintro e w1 ⟨rfl, k1⟩
  have HB1 := Lib.hid (HB0.out.trans (k1.mono HB0.out.size))
  have hq1 := HQ1.out.below k1 HQ1.out.lt
  have hq3 := HQ3.out.below k1 HQ3.out.lt
  obtain ⟨y0, y1, y2, y3, y4, y5, nf, nlt⟩ := net_box (h := ⟨A0, n0, c0, A1, n1, c1, A2, n2, c2, A3, n3, c3, A4, n4, c4, A5, n5, c5⟩) hq1
  have p0 := hq3.cell 0
  have p1 := hq3.cell 1
  have HR1 := Lib.hid (HR.out.up HB1.out)
  generalize hcp : cpR x p = cp at HP ⊢
  have HCP := Lib.hid hcp
  clear k1 hcp hq1 hq3
  by_cases h0 : cp = 0
  · subst h0
    have HOK := Lib.hid (netCk_ok (cp_net HCP.out))
    go_wp2_with fail
    refine (least_any ⟨A0, n0, c0, A1, n1, c1, A2, n2, c2, A3, n3, c3, A4, n4, c4, A5, n5, c5⟩ x HOK.out p w1 HR1.out).mono ?_
    rintro e w2 ⟨k2, ⟨hn, hfl, rfl⟩ | ⟨es, l, q, g, v, A, c, j, h1, rfl, h3, h4, h5, h6, h7, h8, h9, h10⟩⟩
    · have HB2 := Lib.hid (HB1.out.trans (k2.mono HB1.out.size))
      have HN : Hid (NoCut x p) := Lib.hid ⟨hn, _, hfl⟩
      clear k2 hn hfl
      go_wp2_with fail
      go_ret2
      rw [HP.out]
      exact ⟨HB2.out, .inr (.inl ⟨by first | rfl | trivial, HN.out, rfl⟩)⟩
    · have HB2 := Lib.hid (HB1.out.trans (k2.mono HB1.out.size))
      have HLS : Hid (LsOk x p es l j) := Lib.hid ⟨h1, h6, h7, h8, h9⟩
      have HF2 := Lib.hid h4
      have hqw : w.heap.size ≤ q := Nat.le_trans HB1.out.size h3
      have hpl := fd_place HOK.out p
      have hsl : (fdSrc x).length ≤ 25 := by rw [fdSrc_len]; have := HOK.out.l0; omega
      have hel := fd_len HOK.out [] p
      have hesl : es.length ≤ 80 := by have := h6.same.1; omega
      have hll : l.length ≤ 80 := by have := borderR_len (bfsR goR es (fdSrc x) (fdSrc x).length (fdPl x p)).1 es; rw [← h9] at this; omega
      have HLIM : Hid (∀ e ∈ es, -(100 + ((0 : Nat) : Int)) ≤ e.fl ∧ e.fl ≤ 100 + ((0 : Nat) : Int)) := Lib.hid (fun e he => by have := h6.lim e he; omega)
      have hqlt := h4.qf.lt
      have hglt := h4.qg.lt
      have HVB : Hid (∀ r, v.ownBlock = some r → w.heap.size ≤ r ∧ r < w2.heap.size) := Lib.hid (fun r hr => by have := h4.own.lt r hr; omega)
      have hw2 := HB2.out.size
      clear k2 h1 h3 h4 h5 h6 h7 h8 h9 h10
      go_wp2_with fail
      go_loopw [28, 10] (fun i vo wr => ∃ (k : Nat) (ek : List Ed) (xs : List Wy), k ≤ l.length ∧ i = .int .i64 k ∧ xs.length = k ∧ Below w.heap.size w wr ∧ w2.heap.size ≤ wr.heap.size ∧ FdW wr q g ek (fdPl x p) v (fdSrc x) ∧ SameG ek es ∧ (∀ e ∈ ek, -(100 + (k : Int)) ≤ e.fl ∧ e.fl ≤ 100 + (k : Int)) ∧ wr.ownsRow w2.heap.size 22 1 vo xs.length (xs.map Wy.v) ∧ WyIs wr w2.heap.size xs ∧ waysR (fdSrc x) (fdSrc x).length (fdPl x p) (l.length - k) ek (xs.map Wy.ss) = waysR (fdSrc x) (fdSrc x).length (fdPl x p) l.length es []) (fun i _ _ => l.length - (intOf i).toNat)
      case atStart => exact ⟨0, es, [], by omega, rfl, rfl, HB2.out, Nat.le_refl _, HF2.out, SameG.refl _, HLIM.out, World.ownsRow_nil _ _ _ _, fun z hz => by simp at hz, rfl⟩
      case round =>
        clear HF2 HLIM
        obtain ⟨k, ek, xs, hk, rfl, hxk, hb, hsz, hF, hsame, hlim, hown, hwy, hway⟩ := hrel
        have HB := Lib.hid hb
        have HF := Lib.hid hF
        have HSM := Lib.hid hsame
        have HLM := Lib.hid hlim
        have HOW := Lib.hid hown
        have HWY := Lib.hid hwy
        have HWA := Lib.hid hway
        have HXK := Lib.hid hxk
        clear hb hF hsame hlim hown hwy hway hxk
        by_cases hlt : k < l.length
        · have HEO := Lib.hid ((HSM.out.trans HLS.out.fl.same).ok (fd_ok HOK.out [] p))
          have hekl : ek.length ≤ 100 := by have := HSM.out.1; omega
          go_wp2_with fail
          refine (way_any q g ek (fdPl x p) v (fdSrc x) wr HF.out HEO.out (fun e he => by have := HLM.out e he; omega) hpl (by omega) hekl).mono ?_
          rintro e w3 ⟨hg3, hF3, vo, rfl, hown3⟩
          have hs := wayR_same (src := fdSrc x) HEO.out hpl (L := 100 + (k : Int)) (by omega) HLM.out
          have HB3 := Lib.hid (below_grown HB.out hg3 (Nat.le_refl _) (fun r hr => (HVB.out r hr).1))
          have hs3 : w2.heap.size ≤ w3.heap.size := Nat.le_trans hsz hg3.size
          have hfarv : ∀ (b e s m : Nat) (v1 : Value) (x1 : List Value), w2.heap.size ≤ b → wr.ownsRow b e s v1 m x1 → w3.ownsRow b e s v1 m x1 := fun b e s m v1 x1 hb1 ho =>
            ho.kept hg3 (by
              cases hv1 : v1.ownBlock with
              | none => exact .inl rfl
              | some r => exact .inr (fun e => by have := (HVB.out r e.symm).2; have := (ho.lt r hv1).1; omega))
          have HOW3 := Lib.hid (hfarv _ _ _ _ _ _ (Nat.le_refl _) HOW.out)
          have HWY3 : Hid (WyIs w3 w2.heap.size xs) := Lib.hid (fun z hz => hfarv _ _ _ _ _ _ (Nat.le_refl _) (HWY.out z hz))
          have HF3 := Lib.hid hF3
          have HV3 := Lib.hid (own_lower hown3 hsz)
          have HS := Lib.hid hs
          have hll2 : xs.length + 1 ≤ 100 := by have := HXK.out; omega
          clear hg3 hF3 hown3 hs hfarv
          obtain ⟨vA, vn, vc, hvo⟩ : ∃ A n c, vo = .slice A n c := by
            rcases HV3.out.2 with h | ⟨g', cap, cur, h, _⟩
            · exact ⟨_, _, _, h.1⟩
            · exact ⟨_, _, _, h⟩
          subst hvo
          have h1c : ∀ u ∈ [Value.slice vA vn vc], u.oneCell' = true := fun u hu => by rw [List.mem_singleton.1 hu]; rfl
          go_wp2_with (at_builtin; refine wpList_append_own_at _ rfl (.tmp 30) (.tmp 33) _ rfl w2.heap.size 22 i0 _ 1 24 Try.underlying36 HI0.out HI1.out HI2.out HI3.out rfl (by omega) u10 _ _ rfl (HOW3.out.alloc _) ⟨_, 0, none⟩ 1 1 [.slice vA vn vc] rfl rfl (cell_one_new _ _ _) h1c ?k2 ?k3 ?k4 ?_)
          case k2 => simp only [maxLen]; omega
          case k3 => omega
          case k4 => simp; omega
          intro v' w6 hown6 hgrow6 hnil6 hat6
          have hA6 : w3.grownBy w6 u10.ownBlock := grown_trans (World.grownBy_alloc w3 _ _) hgrow6
          have hub : ∀ r, u10.ownBlock = some r → w2.heap.size ≤ r := fun r hr => (HOW3.out.lt r hr).1
          have HB6 : Hid (Below w.heap.size w w6) := Lib.hid (below_grown HB3.out hA6 (Nat.le_refl _) (fun r hr => by have := hub r hr; omega))
          have HF6 := Lib.hid (HF3.out.grown hA6 (fun e => by have := hub _ e; omega) (fun e => by have := hub _ e; omega) (by
            cases hv1 : v.ownBlock with
            | none => exact .inl rfl
            | some r => exact .inr (fun e => by have := hub r e.symm; have := (HVB.out r hv1).2; omega)))
          have hkeep : ∀ (b m : Nat) (v1 : Value) (x1 : List Value), w3.ownsRow b 9 1 v1 m x1 → w6.ownsRow b 9 1 v1 m x1 := fun b m v1 x1 ho => ho.kept hA6 (own_ne ho HOW3.out (by decide))
          have HWY6 : Hid (WyIs w6 w2.heap.size (xs ++ [⟨.slice vA vn vc, (wayR (fdSrc x) (fdSrc x).length (fdPl x p) ek).2⟩])) := Lib.hid (fun z hz => by
            rcases List.mem_append.1 hz with h | h
            · exact hkeep _ _ _ _ (HWY3.out z h)
            · rw [List.mem_singleton.1 h]; exact hkeep _ _ _ _ HV3.out)
          have HO6 : Hid (w6.ownsRow w2.heap.size 22 1 v' (xs ++ [(⟨.slice vA vn vc, (wayR (fdSrc x) (fdSrc x).length (fdPl x p) ek).2⟩ : Wy)]).length ((xs ++ [(⟨.slice vA vn vc, (wayR (fdSrc x) (fdSrc x).length (fdPl x p) ek).2⟩ : Wy)]).map Wy.v)) := Lib.hid (by
            rw [List.length_append, List.map_append]; exact hown6)
          have hs6 : w2.heap.size ≤ w6.heap.size := Nat.le_trans hs3 hA6.size
          have HW6 : Hid (waysR (fdSrc x) (fdSrc x).length (fdPl x p) (l.length - (k + 1)) (wayR (fdSrc x) (fdSrc x).length (fdPl x p) ek).1 ((xs ++ [(⟨.slice vA vn vc, (wayR (fdSrc x) (fdSrc x).length (fdPl x p) ek).2⟩ : Wy)]).map Wy.ss) = waysR (fdSrc x) (fdSrc x).length (fdPl x p) l.length es []) := Lib.hid (by
            rw [← HWA.out, show l.length - k = (l.length - (k + 1)) + 1 from by omega, waysR_snoc, List.map_append]; rfl)
          clear hown6 hgrow6 hnil6 hat6 hA6 hub hkeep
          go_wp2_with fail
          go_roundw
          case rel => exact ⟨k + 1, _, _, by omega, by go_num, by rw [List.length_append, HXK.out]; rfl, HB6.out, hs6, HF6.out, HS.out.1.trans HSM.out, fun e he => by have := HS.out.2 e he; omega, HO6.out, HWY6.out, HW6.out⟩
          case measure => simp [intOf]; omega
        · have hkk : k = l.length := by omega
          subst hkk
          have HWE : Hid (xs.map Wy.ss = waysR (fdSrc x) (fdSrc x).length (fdPl x p) l.length es []) := Lib.hid (by
            have h := HWA.out
            rw [Nat.sub_self] at h
            exact h)
          go_wp2_with fail
          go_ret2
          rw [HP.out]
          exact ⟨HB.out, .inr (.inr ⟨by first | rfl | trivial, es, l, j, _, xs, HLS.out, rfl, own_lower HOW.out hw2, fun z hz => own_lower (HWY.out z hz) hw2, HWE.out⟩)⟩
  · have hcb : (cp != 0) = true := by simpa using h0
    have H0 := Lib.hid h0
    clear h0
    go_wp2_with fail
    go_ret2
    rw [HP.out]
    exact ⟨HB1.out, .inl ⟨H0.out, rfl⟩⟩
end Go.Proofs.Ythedpegaelpbdaa
