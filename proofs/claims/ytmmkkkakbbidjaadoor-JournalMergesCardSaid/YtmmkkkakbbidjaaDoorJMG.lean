/- journal.Merge: the walk. -/
import Derived.Test.YtmmkkkakbbidjaaDoorJM
import Derived.Test.YtmmkkkakbbidjaaDoorJ9
import Derived.StillTailTactics
namespace Go.Proofs.YtmmkkkakbbidjaaDoor
open Go.ChangeShapes Go.WideShapes Go.ChangeAt Go.RowKit
set_option linter.unusedVariables false
attribute [local go_sem ↓] execOp_call_val
attribute [local go_sem] callVal_func setCell_drewN alloc_drewN sEq_walk

theorem cell_q {w : World} {a : Addr} {v : Option Value} (h : w.cell? a = v) (n : Nat) : (w.drewN n).cell? a = v := h
theorem RdEv.frame {w w1 w' : World} {B n : Nat} {A : Option Addr} {xs : List Ev} (h : RdEv w1 B A n xs) (hb1 : Below B w w1) (hb : Below B w w') : RdEv w' B A n xs :=
  ⟨h.1, h.2.1, fun h0 => by
    obtain ⟨b, off, e, hlt, hc⟩ := h.2.2 h0
    exact ⟨b, off, e, hlt, fun j u hu => by rw [hb.cell hlt, ← hb1.cell hlt]; exact hc j u hu⟩⟩

set_option maxRecDepth 100000 in
set_option maxHeartbeats 8000000 in
theorem jmerge_any (A : Option Addr) (n c : Nat) (a : List Ev) (B : Option Addr) (m d : Nat) (b : List Ev) (hfa : ∀ x ∈ a, x.Fit) (hfb : ∀ x ∈ b, x.Fit) (w : World) (hA : RdEv w w.heap.size A n a) (hB : RdEv w w.heap.size B m b) (hn : n ≤ 9223372036854775807) (hm : m ≤ 9223372036854775807) :
    Calls Tryd.prog 13 #[.slice A n c, .slice B m d] w (MrgP a b w) := by
  obtain ⟨iE, hiE, hE0, hE1, hE2⟩ := info_parts info_ev
  have HA := Lib.hid hA
  have HB0 := Lib.hid hB
  have HFA := Lib.hid hfa
  have HFB := Lib.hid hfb
  have HP : Hid (∀ e w', MrgP a b w e w' = (Below w.heap.size w w' ∧ (((ckEv a ≠ 0 ∨ ckEv b ≠ 0 ∨ 256 < (mrg (evSort a) (evSort b)).length) ∧ ∃ k : Int, k ≠ 0 ∧ e = .returned (.tuple #[.slice none 0 0, .int .i64 k])) ∨
    (ckEv a = 0 ∧ ckEv b = 0 ∧ (mrg (evSort a) (evSort b)).length ≤ 256 ∧ ∃ v, e = .returned (.tuple #[v, .int .i64 0]) ∧ w'.ownsRow w.heap.size 31 4 v (mrg (evSort a) (evSort b)).length ((mrg (evSort a) (evSort b)).flatMap Ev.cells))))) := Lib.hid fun _ _ => rfl
  clear hA hB hfa hfb
  go_enter Tryd.func13, Tryd.ntmps13
  go_wp2_with fail
  refine (sorted_any A n c a HFA.out w HA.out hn).mono ?_
  rintro e w1 ⟨k1, h1⟩
  have HB1 := Lib.hid k1
  have HBB1 := Lib.hid (HB0.out.up k1)
  clear k1
  rcases h1 with ⟨hck, rfl⟩ | ⟨hck, SA, sn, sc, rfl, hsc, hscm, hrs⟩
  · have HCK := Lib.hid hck
    generalize hcv : ckEv a = ck at *
    have hcb : (ck != 0) = true := by simpa using hck
    clear hck hcv
    go_wp2_with fail
    go_ret2
    rw [HP.out]
    exact ⟨HB1.out, .inl ⟨.inl HCK.out, _, HCK.out, rfl⟩⟩
  have HCA := Lib.hid hck
  have HLA : Hid ((evSort a).length ≤ 256) := Lib.hid (by rw [evSort_len]; exact ckEv_len hck)
  have HRS := Lib.hid hrs
  clear hck hrs
  go_wp2_with fail
  refine (sorted_any B m d b HFB.out w1 HBB1.out hm).mono ?_
  rintro e w2 ⟨k2, h2⟩
  have HB2 := Lib.hid (HB1.out.trans (k2.mono HB1.out.size))
  have HRS2 := Lib.hid (HRS.out.up k2)
  clear k2
  rcases h2 with ⟨hck, rfl⟩ | ⟨hck, TA, tn, tc, rfl, htc, htcm, hrt⟩
  · have HCK := Lib.hid hck
    generalize hcv : ckEv b = ck at *
    have hcb : (ck != 0) = true := by simpa using hck
    clear hck hcv
    go_wp2_with fail
    go_ret2
    rw [HP.out]
    exact ⟨HB2.out, .inl ⟨.inr (.inl HCK.out), _, HCK.out, rfl⟩⟩
  have HCB := Lib.hid hck
  have HLB : Hid ((evSort b).length ≤ 256) := Lib.hid (by rw [evSort_len]; exact ckEv_len hck)
  have HRT := Lib.hid hrt
  clear hck hrt
  generalize evSort a = s at *
  generalize evSort b = t at *
  have hb2 := HB2.out.size
  go_wp2_with fail
  go_loopw [6, 8, 9] (fun vx vy vo wr => ∃ (A : Option Addr) (n c : Nat) (B : Option Addr) (m d : Nat) (xs ys os : List Ev), vx = .slice A n c ∧ vy = .slice B m d ∧ n ≤ c ∧ m ≤ d ∧ RdEv wr w2.heap.size A n xs ∧ RdEv wr w2.heap.size B m ys ∧ Below w2.heap.size w2 wr ∧ wr.ownsRow w2.heap.size 31 4 vo os.length (os.flatMap Ev.cells) ∧ os ++ mrg xs ys = mrg s t) (fun vx vy _ _ => lenV vx + lenV vy)
  case atStart => exact ⟨SA, sn, sc, TA, tn, tc, s, t, [], rfl, rfl, hsc, htc, HRS2.out, HRT.out, Below.refl _ _, World.ownsRow_nil _ _ _ _, rfl⟩
  case round =>
    obtain ⟨A, n, c, B, m, d, xs, ys, os, rfl, rfl, hnc, hmd, hrx, hry, hb, hown, hos⟩ := hrel
    have HRX := Lib.hid hrx
    have HRY := Lib.hid hry
    have HB := Lib.hid hb
    have HBX := Lib.hid hb
    have HOW := Lib.hid hown
    have HOS := Lib.hid hos
    have HLE : Hid (os.length + (mrg xs ys).length ≤ 512) := Lib.hid (by
      have h1 := congrArg List.length hos
      rw [List.length_append] at h1
      have := (mrg_len s t).2.2
      have := HLA.out
      have := HLB.out
      omega)
    have hxn := hrx.1
    have hyn := hry.1
    clear hrx hry hb hown hos
    cases xs with
    | nil =>
      simp only [List.length_nil] at hxn
      subst hxn
      cases ys with
      | nil =>
        simp only [List.length_nil] at hyn
        subst hyn
        rw [mrg_nil_l, List.append_nil] at HOS
        obtain ⟨oA, oc, hov, hro⟩ := rdEv_own' HOW.out
        subst hov
        by_cases hgt : 256 < os.length
        · go_wp2_with fail
          go_ret2
          rw [HP.out]
          exact ⟨HB2.out.trans (HB.out.mono hb2), .inl ⟨.inr (.inr (by rw [← HOS.out]; exact hgt)), _, by decide, rfl⟩⟩
        · go_wp2_with fail
          go_ret2
          rw [HP.out]
          exact ⟨HB2.out.trans (HB.out.mono hb2), .inr ⟨HCA.out, HCB.out, by rw [← HOS.out]; omega, _, rfl, by rw [← HOS.out]; exact own_mono HOW.out hb2⟩⟩
      | cons y ys =>
        simp only [List.length_cons] at hyn
        have hm0 : 0 < m := by omega
        have hmI : (0 : Int) < (m : Int) := by omega
        have hmd_ : decide (0 < m) = true := by simp; omega
        have hme : ((m : Int) == 0) = false := by simp; omega
        have hmd1 : 1 ≤ m := by omega
        obtain ⟨by_, oy, hay, hby_⟩ := HRY.out.form hm0
        subst hay
        obtain ⟨y0, y1, y2, y3⟩ := HRY.out.at_ (i := 0) (x := y) rfl
        simp only [Nat.zero_mul, Nat.add_zero] at y0 y1 y2 y3
        have HTY := Lib.hid (HRY.out.tail hmd)
        go_wp2_with fail
        go_quiet (fail)
        have HBq := Lib.hid (below_drewN HB.out nq)
        have HOWq := Lib.hid (own_up HOW.out (below_drewN (Below.refl _ _) nq))
        have y0 := cell_q y0 nq
        have y1 := cell_q y1 nq
        have y2 := cell_q y2 nq
        have y3 := cell_q y3 nq
        generalize hWq : wr.drewN nq = W at *
        have HWQ := Lib.hid hWq
        clear hWq HB HOW
        have HB := HBq
        have HOW := HOWq
        clear HBq HOWq
        go_wp2_with fail
        go_quiet (fail)
        have HBq := Lib.hid (below_drewN HB.out nq)
        have HOWq := Lib.hid (own_up HOW.out (below_drewN (Below.refl _ _) nq))
        have y0 := cell_q y0 nq
        have y1 := cell_q y1 nq
        have y2 := cell_q y2 nq
        have y3 := cell_q y3 nq
        generalize hWq : W.drewN nq = W1 at *
        have HWQ := Lib.hid hWq
        clear hWq HB HOW
        have HB := HBq
        have HOW := HOWq
        clear HBq HOWq
        clear HWQ
        have HWQ : Hid True := Lib.hid trivial
        obtain ⟨W, rfl⟩ : ∃ W : World, W = W1 := ⟨_, rfl⟩
        go_wp2_with (at_builtin; refine wpList_append_own _ rfl (.tmp 85) (.tmp 89) _ rfl w2.heap.size 31 iE _ 4 48 Tryd.underlying22 hiE hE0 hE1 hE2 rfl (by omega) u9 os.length (os.flatMap Ev.cells) rfl (HOW.out.alloc _) ⟨W.heap.size, 0, none⟩ 1 1 y.cells rfl rfl ?j0 ?j1 ?j2 ?j3 ?j4 ?_)
        case j0 => intro j u hu; rw [Addr.add_lit, Nat.zero_add, (Blk.new W _ _).cell j]; simpa [Ev.cells] using hu
        case j1 => intro u hu; simp [Ev.cells] at hu; rcases hu with rfl | rfl | rfl | rfl <;> rfl
        case j2 => simp only [maxLen]; have := HLE.out; omega
        case j3 => have := HLE.out; omega
        case j4 => have := HB.out.size; simp; omega
        intro v5 w5 hown5 hgr5 hnil5
        have hb5 : Below w2.heap.size w2 w5 := (HB.out.alloc HB.out.size _).grown hgr5 (by have := HB.out.size; simp; omega) (fun k hk => (HOW.out.lt k hk).1)
        have HB5 := Lib.hid hb5
        have HO5 : Hid (w5.ownsRow w2.heap.size 31 4 v5 (os ++ [y]).length ((os ++ [y]).flatMap Ev.cells)) := Lib.hid (by rw [List.length_append, List.flatMap_append]; simpa using hown5)
        clear hb5 hown5 hgr5 hnil5
        go_wp2_with fail
        go_roundw
        case rel => exact ⟨A, 0, c, _, m - 1, d - 1, [], ys, os ++ [y], by go_num, by go_num, by omega, by omega, HRX.out.frame HBX.out HB5.out, HTY.out.frame HBX.out HB5.out, HB5.out, HO5.out, by rw [List.append_assoc, mrg_nil_l]; rw [← HOS.out, mrg_nil_l]; rfl⟩
        case measure => simp [lenV]; omega
    | cons x xs =>
      cases ys with
      | nil =>
        simp only [List.length_nil] at hyn
        subst hyn
        simp only [List.length_cons] at hxn
        have hn0 : 0 < n := by omega
        have hnI : (0 : Int) < (n : Int) := by omega
        have hnd : decide (0 < n) = true := by simp; omega
        have hne : ((n : Int) == 0) = false := by simp; omega
        have hnc1 : 1 ≤ n := by omega
        obtain ⟨bx, ox, hax, hbx⟩ := HRX.out.form hn0
        subst hax
        obtain ⟨x0, x1, x2, x3⟩ := HRX.out.at_ (i := 0) (x := x) rfl
        simp only [Nat.zero_mul, Nat.add_zero] at x0 x1 x2 x3
        have HTX := Lib.hid (HRX.out.tail hnc)
        go_wp2_with fail
        go_quiet (fail)
        have HBq := Lib.hid (below_drewN HB.out nq)
        have HOWq := Lib.hid (own_up HOW.out (below_drewN (Below.refl _ _) nq))
        have x0 := cell_q x0 nq
        have x1 := cell_q x1 nq
        have x2 := cell_q x2 nq
        have x3 := cell_q x3 nq
        generalize hWq : wr.drewN nq = W at *
        have HWQ := Lib.hid hWq
        clear hWq HB HOW
        have HB := HBq
        have HOW := HOWq
        clear HBq HOWq
        go_wp2_with (at_builtin; refine wpList_append_own _ rfl (.tmp 63) (.tmp 67) _ rfl w2.heap.size 31 iE _ 4 48 Tryd.underlying22 hiE hE0 hE1 hE2 rfl (by omega) u9 os.length (os.flatMap Ev.cells) rfl (HOW.out.alloc _) ⟨W.heap.size, 0, none⟩ 1 1 x.cells rfl rfl ?j0 ?j1 ?j2 ?j3 ?j4 ?_)
        case j0 => intro j u hu; rw [Addr.add_lit, Nat.zero_add, (Blk.new W _ _).cell j]; simpa [Ev.cells] using hu
        case j1 => intro u hu; simp [Ev.cells] at hu; rcases hu with rfl | rfl | rfl | rfl <;> rfl
        case j2 => simp only [maxLen]; have := HLE.out; omega
        case j3 => have := HLE.out; omega
        case j4 => have := HB.out.size; simp; omega
        intro v5 w5 hown5 hgr5 hnil5
        have hb5 : Below w2.heap.size w2 w5 := (HB.out.alloc HB.out.size _).grown hgr5 (by have := HB.out.size; simp; omega) (fun k hk => (HOW.out.lt k hk).1)
        have HB5 := Lib.hid hb5
        have HO5 : Hid (w5.ownsRow w2.heap.size 31 4 v5 (os ++ [x]).length ((os ++ [x]).flatMap Ev.cells)) := Lib.hid (by rw [List.length_append, List.flatMap_append]; simpa using hown5)
        clear hb5 hown5 hgr5 hnil5
        go_wp2_with fail
        go_roundw
        case rel => exact ⟨_, n - 1, c - 1, B, 0, d, xs, [], os ++ [x], by go_num, by go_num, by omega, by omega, HTX.out.frame HBX.out HB5.out, HRY.out.frame HBX.out HB5.out, HB5.out, HO5.out, by rw [List.append_assoc, mrg_nil_r]; rw [← HOS.out, mrg_nil_r]; rfl⟩
        case measure => simp [lenV]; omega
      | cons y ys =>
        simp only [List.length_cons] at hxn
        have hn0 : 0 < n := by omega
        have hnI : (0 : Int) < (n : Int) := by omega
        have hnd : decide (0 < n) = true := by simp; omega
        have hne : ((n : Int) == 0) = false := by simp; omega
        have hnc1 : 1 ≤ n := by omega
        obtain ⟨bx, ox, hax, hbx⟩ := HRX.out.form hn0
        subst hax
        obtain ⟨x0, x1, x2, x3⟩ := HRX.out.at_ (i := 0) (x := x) rfl
        simp only [Nat.zero_mul, Nat.add_zero] at x0 x1 x2 x3
        have HTX := Lib.hid (HRX.out.tail hnc)
        simp only [List.length_cons] at hyn
        have hm0 : 0 < m := by omega
        have hmI : (0 : Int) < (m : Int) := by omega
        have hmd_ : decide (0 < m) = true := by simp; omega
        have hme : ((m : Int) == 0) = false := by simp; omega
        have hmd1 : 1 ≤ m := by omega
        obtain ⟨by_, oy, hay, hby_⟩ := HRY.out.form hm0
        subst hay
        obtain ⟨y0, y1, y2, y3⟩ := HRY.out.at_ (i := 0) (x := y) rfl
        simp only [Nat.zero_mul, Nat.add_zero] at y0 y1 y2 y3
        have HTY := Lib.hid (HRY.out.tail hmd)
        go_wp2_with fail
        go_still_tail 14, (by kernel_rfl)
        change wpList _ _ _ _ _ wr.drew
        have HBq := Lib.hid (below_drewN HB.out 1)
        have HOWq := Lib.hid (own_up HOW.out (below_drewN (Below.refl _ _) 1))
        have x0 : wr.drew.cell? _ = some _ := x0
        have x1 : wr.drew.cell? _ = some _ := x1
        have x2 : wr.drew.cell? _ = some _ := x2
        have x3 : wr.drew.cell? _ = some _ := x3
        have y0 : wr.drew.cell? _ = some _ := y0
        have y1 : wr.drew.cell? _ = some _ := y1
        have y2 : wr.drew.cell? _ = some _ := y2
        have y3 : wr.drew.cell? _ = some _ := y3
        change Hid (Below w2.heap.size w2 wr.drew) at HBq
        change Hid (wr.drew.ownsRow _ _ _ _ _ _) at HOWq
        generalize hWq : wr.drew = V1 at *
        have HWQ1 := Lib.hid hWq
        clear hWq HB HOW
        go_wp2_with fail
        refine (ecmp_below x y V1).mono ?_
        rintro e W ⟨rfl, k3⟩
        have hVs := HBq.out.size
        have HB := Lib.hid (HBq.out.trans (k3.mono hVs))
        have HOW := Lib.hid (own_up HOWq.out k3)
        replace x0 := (k3.cell (Nat.lt_of_lt_of_le hbx hVs)).trans x0
        replace x1 := (k3.cell (Nat.lt_of_lt_of_le hbx hVs)).trans x1
        replace x2 := (k3.cell (Nat.lt_of_lt_of_le hbx hVs)).trans x2
        replace x3 := (k3.cell (Nat.lt_of_lt_of_le hbx hVs)).trans x3
        replace y0 := (k3.cell (Nat.lt_of_lt_of_le hby_ hVs)).trans y0
        replace y1 := (k3.cell (Nat.lt_of_lt_of_le hby_ hVs)).trans y1
        replace y2 := (k3.cell (Nat.lt_of_lt_of_le hby_ hVs)).trans y2
        replace y3 := (k3.cell (Nat.lt_of_lt_of_le hby_ hVs)).trans y3
        clear k3 HBq HOWq hVs
        by_cases hlt : ordE x y < 0
        · have HLT := Lib.hid hlt
          go_wp2_with (at_builtin; refine wpList_append_own _ rfl (.tmp 63) (.tmp 67) _ rfl w2.heap.size 31 iE _ 4 48 Tryd.underlying22 hiE hE0 hE1 hE2 rfl (by omega) u9 os.length (os.flatMap Ev.cells) rfl (HOW.out.alloc _) ⟨W.heap.size, 0, none⟩ 1 1 x.cells rfl rfl ?j0 ?j1 ?j2 ?j3 ?j4 ?_)
          case j0 => intro j u hu; rw [Addr.add_lit, Nat.zero_add, (Blk.new W _ _).cell j]; simpa [Ev.cells] using hu
          case j1 => intro u hu; simp [Ev.cells] at hu; rcases hu with rfl | rfl | rfl | rfl <;> rfl
          case j2 => simp only [maxLen]; have := HLE.out; omega
          case j3 => have := HLE.out; omega
          case j4 => have := HB.out.size; simp; omega
          intro v5 w5 hown5 hgr5 hnil5
          have hb5 : Below w2.heap.size w2 w5 := (HB.out.alloc HB.out.size _).grown hgr5 (by have := HB.out.size; simp; omega) (fun k hk => (HOW.out.lt k hk).1)
          have HB5 := Lib.hid hb5
          have HO5 : Hid (w5.ownsRow w2.heap.size 31 4 v5 (os ++ [x]).length ((os ++ [x]).flatMap Ev.cells)) := Lib.hid (by rw [List.length_append, List.flatMap_append]; simpa using hown5)
          clear hb5 hown5 hgr5 hnil5
          go_wp2_with fail
          go_roundw
          case rel => exact ⟨_, n - 1, c - 1, _, m, d, xs, y :: ys, os ++ [x], by go_num, by go_num, by omega, by omega, HTX.out.frame HBX.out HB5.out, HRY.out.frame HBX.out HB5.out, HB5.out, HO5.out, by rw [List.append_assoc]; rw [← HOS.out, mrg_cons, if_pos (by have := HLT.out; omega)]; rfl⟩
          case measure => simp [lenV]; omega
        have hge : decide (ordE x y < 0) = false := by simp; omega
        obtain ⟨W1, rfl⟩ : ∃ W1 : World, W1 = W := ⟨_, rfl⟩
        go_wp2_with fail
        go_still_tail 10, (by kernel_rfl)
        change wpList _ _ _ _ _ W1.drew
        have HBq := Lib.hid (below_drewN HB.out 1)
        have HOWq := Lib.hid (own_up HOW.out (below_drewN (Below.refl _ _) 1))
        have x0 : W1.drew.cell? _ = some _ := x0
        have x1 : W1.drew.cell? _ = some _ := x1
        have x2 : W1.drew.cell? _ = some _ := x2
        have x3 : W1.drew.cell? _ = some _ := x3
        have y0 : W1.drew.cell? _ = some _ := y0
        have y1 : W1.drew.cell? _ = some _ := y1
        have y2 : W1.drew.cell? _ = some _ := y2
        have y3 : W1.drew.cell? _ = some _ := y3
        change Hid (Below w2.heap.size w2 W1.drew) at HBq
        change Hid (W1.drew.ownsRow _ _ _ _ _ _) at HOWq
        generalize hWq : W1.drew = V2 at *
        have HWQ2 := Lib.hid hWq
        clear hWq HB HOW
        go_wp2_with fail
        refine (ecmp_below x y V2).mono ?_
        rintro e W ⟨rfl, k3⟩
        have hVs := HBq.out.size
        have HB := Lib.hid (HBq.out.trans (k3.mono hVs))
        have HOW := Lib.hid (own_up HOWq.out k3)
        replace x0 := (k3.cell (Nat.lt_of_lt_of_le hbx hVs)).trans x0
        replace x1 := (k3.cell (Nat.lt_of_lt_of_le hbx hVs)).trans x1
        replace x2 := (k3.cell (Nat.lt_of_lt_of_le hbx hVs)).trans x2
        replace x3 := (k3.cell (Nat.lt_of_lt_of_le hbx hVs)).trans x3
        replace y0 := (k3.cell (Nat.lt_of_lt_of_le hby_ hVs)).trans y0
        replace y1 := (k3.cell (Nat.lt_of_lt_of_le hby_ hVs)).trans y1
        replace y2 := (k3.cell (Nat.lt_of_lt_of_le hby_ hVs)).trans y2
        replace y3 := (k3.cell (Nat.lt_of_lt_of_le hby_ hVs)).trans y3
        clear k3 HBq HOWq hVs
        by_cases hgt : 0 < ordE x y
        · have HLT := Lib.hid hlt
          have HGT := Lib.hid hgt
          go_wp2_with (at_builtin; refine wpList_append_own _ rfl (.tmp 85) (.tmp 89) _ rfl w2.heap.size 31 iE _ 4 48 Tryd.underlying22 hiE hE0 hE1 hE2 rfl (by omega) u9 os.length (os.flatMap Ev.cells) rfl (HOW.out.alloc _) ⟨W.heap.size, 0, none⟩ 1 1 y.cells rfl rfl ?j0 ?j1 ?j2 ?j3 ?j4 ?_)
          case j0 => intro j u hu; rw [Addr.add_lit, Nat.zero_add, (Blk.new W _ _).cell j]; simpa [Ev.cells] using hu
          case j1 => intro u hu; simp [Ev.cells] at hu; rcases hu with rfl | rfl | rfl | rfl <;> rfl
          case j2 => simp only [maxLen]; have := HLE.out; omega
          case j3 => have := HLE.out; omega
          case j4 => have := HB.out.size; simp; omega
          intro v5 w5 hown5 hgr5 hnil5
          have hb5 : Below w2.heap.size w2 w5 := (HB.out.alloc HB.out.size _).grown hgr5 (by have := HB.out.size; simp; omega) (fun k hk => (HOW.out.lt k hk).1)
          have HB5 := Lib.hid hb5
          have HO5 : Hid (w5.ownsRow w2.heap.size 31 4 v5 (os ++ [y]).length ((os ++ [y]).flatMap Ev.cells)) := Lib.hid (by rw [List.length_append, List.flatMap_append]; simpa using hown5)
          clear hb5 hown5 hgr5 hnil5
          go_wp2_with fail
          go_roundw
          case rel => exact ⟨_, n, c, _, m - 1, d - 1, x :: xs, ys, os ++ [y], by go_num, by go_num, by omega, by omega, HRX.out.frame HBX.out HB5.out, HTY.out.frame HBX.out HB5.out, HB5.out, HO5.out, by rw [List.append_assoc]; rw [← HOS.out, mrg_cons, if_neg (by have := HLT.out; omega), if_pos (by have := HGT.out; omega)]; rfl⟩
          case measure => simp [lenV]; omega
        have hle : decide (0 < ordE x y) = false := by simp; omega
        have HLT := Lib.hid hlt
        have HGT := Lib.hid hgt
        go_wp2_with (at_builtin; refine wpList_append_own _ rfl (.tmp 34) (.tmp 38) _ rfl w2.heap.size 31 iE _ 4 48 Tryd.underlying22 hiE hE0 hE1 hE2 rfl (by omega) u9 os.length (os.flatMap Ev.cells) rfl (HOW.out.alloc _) ⟨W.heap.size, 0, none⟩ 1 1 x.cells rfl rfl ?j0 ?j1 ?j2 ?j3 ?j4 ?_)
        case j0 => intro j u hu; rw [Addr.add_lit, Nat.zero_add, (Blk.new W _ _).cell j]; simpa [Ev.cells] using hu
        case j1 => intro u hu; simp [Ev.cells] at hu; rcases hu with rfl | rfl | rfl | rfl <;> rfl
        case j2 => simp only [maxLen]; have := HLE.out; omega
        case j3 => have := HLE.out; omega
        case j4 => have := HB.out.size; simp; omega
        intro v5 w5 hown5 hgr5 hnil5
        have hb5 : Below w2.heap.size w2 w5 := (HB.out.alloc HB.out.size _).grown hgr5 (by have := HB.out.size; simp; omega) (fun k hk => (HOW.out.lt k hk).1)
        have HB5 := Lib.hid hb5
        have HO5 : Hid (w5.ownsRow w2.heap.size 31 4 v5 (os ++ [x]).length ((os ++ [x]).flatMap Ev.cells)) := Lib.hid (by rw [List.length_append, List.flatMap_append]; simpa using hown5)
        clear hb5 hown5 hgr5 hnil5
        go_wp2_with fail
        go_quiet (fail)
        have HB5 := Lib.hid (below_drewN HB5.out nq)
        have HO5 := Lib.hid (own_up HO5.out (below_drewN (Below.refl _ _) nq))
        go_wp2_with fail
        go_roundw
        case rel => exact ⟨_, n - 1, c - 1, _, m - 1, d - 1, xs, ys, os ++ [x], by go_num, by go_num, by omega, by omega, HTX.out.frame HBX.out HB5.out, HTY.out.frame HBX.out HB5.out, HB5.out, HO5.out, by rw [List.append_assoc]; rw [← HOS.out, mrg_cons, if_neg (by have := HLT.out; omega), if_neg (by have := HGT.out; omega)]; rfl⟩
        case measure => simp [lenV]; omega
end Go.Proofs.YtmmkkkakbbidjaaDoor
