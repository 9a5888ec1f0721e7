/- clear.Check: the walk. -/
import Derived.Test.YthedpegaelpbdaaE2
import Derived.Test.YthedpegaelpbdaaRL2
namespace Go.Proofs.Ythedpegaelpbdaa
open Go.ChangeShapes Go.WideShapes Go.ChangeAt Go.RowKit Go.Joins Go.Deep
set_option linter.unusedVariables false
attribute [local go_sem ↓] execOp_call_val
attribute [local go_sem] callVal_func setCell_drewN alloc_drewN sEq_walk NetH.cells

theorem bcell' {W w1 : World} (hb : Below W.heap.size W w1) : (∀ b o, b < W.heap.size → w1.cell? ⟨b, o, none⟩ = W.cell? ⟨b, o, none⟩) ∧ (∀ b o, b < W.heap.size → w1.frozen? ⟨b, o, none⟩ = W.frozen? ⟨b, o, none⟩) :=
  ⟨fun b o h => hb.cell (p := ⟨b, o, none⟩) h, fun b o h => hb.frozen (p := ⟨b, o, none⟩) h⟩
/-- the form of a relay: its breaker is one, and its node is at its branch -/
def crForm (x : Net) (z : Cr) : Bool := match x.sws[(cbrkR x z).toNat]?, x.brs[(cbraR x z).toNat]? with
  | some s, some b => !s.breaker || (!sEq z.node b.fr && !sEq z.node b.to)
  | _, _ => true
def crR (x : Net) (z : Cr) : Int :=
  if cbrkR x z < 0 ∨ cbraR x z < 0 then 6 else if crForm x z = true then 3 else if ckC z.curve ≠ 0 then ckC z.curve
  else if z.pick < 1 ∨ 1000000 < z.pick ∨ z.opn < 1 ∨ 10000 < z.opn then 4 else 0
def crGo (x : Net) : List Cr → Int
  | [] => 0
  | z :: t => if crR x z ≠ 0 then crR x z else crGo x t
/-- what clear.Check answers -/
def cckR (x : Net) (l : List Fs) (r : List Cr) : Int := if fckR x l ≠ 0 then fckR x l else if 24 < r.length then 2 else crGo x r
theorem cbrk_spec (x : Net) (z : Cr) : (cbrkR x z = -1) ∨ ∃ (i : Nat) (s : Sw), cbrkR x z = (i : Int) ∧ x.sws[i]? = some s ∧ s.name = z.brk := by
  rcases idxGo_spec (fun y : Sw => sEq y.name z.brk) x.sws 0 with ⟨h1, _⟩ | ⟨i, b, h1, h2, h3, _⟩
  · exact .inl h1
  · exact .inr ⟨i, b, by unfold cbrkR; rw [h1]; simp, h2, sEq_iff.1 h3⟩
theorem cbra_spec (x : Net) (z : Cr) : (cbraR x z = -1) ∨ ∃ (i : Nat) (b : Br), cbraR x z = (i : Int) ∧ x.brs[i]? = some b ∧ b.name = z.branch := by
  rcases idxGo_spec (fun y : Br => sEq y.name z.branch) x.brs 0 with ⟨h1, _⟩ | ⟨i, b, h1, h2, h3, _⟩
  · exact .inl h1
  · exact .inr ⟨i, b, by unfold cbraR; rw [h1]; simp, h2, sEq_iff.1 h3⟩
theorem crGo_stop {x : Net} {z : Cr} {t : List Cr} {e : Int} (h : crR x z = e) (h0 : e ≠ 0) : crGo x (z :: t) = e := by
  show (if _ then _ else _) = _
  rw [if_pos (by rw [h]; exact h0), h]
theorem crGo_on {x : Net} {z : Cr} {t : List Cr} (h : crR x z = 0) : crGo x (z :: t) = crGo x t := by
  show (if _ then _ else _) = _
  rw [if_neg (by rw [h]; simp)]
set_option maxRecDepth 100000 in
set_option maxHeartbeats 8000000 in
theorem ccheck_any (h : NetH) (x : Net) (A : Option Addr) (n c : Nat) (l : List Fs) (RA : Option Addr) (rn rc : Nat) (r : List Ch) (w : World) (hR : RdNet w w.heap.size h x) (hL : RdFs w w.heap.size A n l) (hnc : n ≤ c) (hn : n ≤ 9223372036854775807)
    (hC : RdCh w w.heap.size RA rn r) (hrn : rn ≤ 9223372036854775807) :
    Calls Try.prog 66 #[.agg h.cells, .slice A n c, .slice RA rn rc] w fun e w' => e = .returned (.int .i64 (cckR x l (r.map Ch.r))) ∧ Below w.heap.size w w' := by
  obtain ⟨A0, n0, c0, A1, n1, c1, A2, n2, c2, A3, n3, c3, A4, n4, c4, A5, n5, c5⟩ := h
  dsimp only [NetH.cells] at *
  have HB0 : Hid (Below w.heap.size w (w.alloc (.cells #[.slice A0 n0 c0, .slice A1 n1 c1, .slice A2 n2 c2, .slice A3 n3 c3, .slice A4 n4 c4, .slice A5 n5 c5] 29))) := Lib.hid ((Below.refl _ _).alloc (Nat.le_refl _) _)
  have HQ0 : Hid (Blk (w.alloc (.cells #[.slice A0 n0 c0, .slice A1 n1 c1, .slice A2 n2 c2, .slice A3 n3 c3, .slice A4 n4 c4, .slice A5 n5 c5] 29)) w.heap.size 29 #[.slice A0 n0 c0, .slice A1 n1 c1, .slice A2 n2 c2, .slice A3 n3 c3, .slice A4 n4 c4, .slice A5 n5 c5]) := Lib.hid (Blk.new w _ _)
  have HR := Lib.hid (hR.up HB0.out)
  have HL := Lib.hid (hL.up HB0.out)
  have HC := Lib.hid (hC.up HB0.out)
  have HN : Hid (r.length = rn) := Lib.hid hC.len
  have HN1 : Hid (x.sws.length = n1) := Lib.hid hR.r1.1
  have HN2 : Hid (x.brs.length = n2) := Lib.hid hR.r2.1
  have HD : Hid (cckR x l (r.map Ch.r) = if fckR x l ≠ 0 then fckR x l else if 24 < r.length then 2 else crGo x (r.map Ch.r)) := Lib.hid (by unfold cckR; rw [List.length_map])
  clear hR hL hC
  obtain ⟨y0, y1, y2, y3, y4, y5, nf, nlt⟩ := net_box (h := ⟨A0, n0, c0, A1, n1, c1, A2, n2, c2, A3, n3, c3, A4, n4, c4, A5, n5, c5⟩) HQ0.out
  go_enter Try.func66, Try.ntmps66
  go_wp2_with fail
  generalize w.alloc (.cells #[.slice A0 n0 c0, .slice A1 n1 c1, .slice A2 n2 c2, .slice A3 n3 c3, .slice A4 n4 c4, .slice A5 n5 c5] 29) = w1 at *
  clear y0 y1 y2 y3 y4 y5 nf nlt
  refine (fcheck_any ⟨A0, n0, c0, A1, n1, c1, A2, n2, c2, A3, n3, c3, A4, n4, c4, A5, n5, c5⟩ x A n c l w1 HR.out HL.out hnc hn).mono ?_
  generalize hck : fckR x l = ck at HD
  rintro e w2 ⟨rfl, hb⟩
  have HCK := Lib.hid hck
  have HB2 := Lib.hid (HB0.out.trans (hb.mono HB0.out.size))
  have HQ2 := Lib.hid (HQ0.out.below hb HQ0.out.lt)
  have HR2 := Lib.hid (HR.out.up hb)
  have HC2 := Lib.hid (HC.out.up hb)
  clear hb hck
  by_cases h0 : ck = 0
  · subst h0
    by_cases h24 : 24 < rn
    · have h24I : (24 : Int) < (rn : Int) := by omega
      have HE : Hid (cckR x l (r.map Ch.r) = 2) := Lib.hid (by rw [HD.out, if_neg (by simp), if_pos (by have := HN.out; omega)])
      go_wp2_with fail
      go_ret
      exact ⟨ret_int HE.out.symm, HB2.out⟩
    have h24I : ¬ (24 : Int) < (rn : Int) := by omega
    have HD0 : Hid (cckR x l (r.map Ch.r) = crGo x (r.map Ch.r)) := Lib.hid (by rw [HD.out, if_neg (by simp), if_neg (by have := HN.out; omega)])
    go_wp2_with fail
    go_loopw [24] (fun i wr => ∃ k : Nat, k ≤ rn ∧ i = .int .i64 k ∧ Below w2.heap.size w2 wr ∧ crGo x (r.map Ch.r) = crGo x ((r.drop k).map Ch.r)) (fun i _ => rn - (intOf i).toNat)
    case atStart => exact ⟨0, by omega, rfl, Below.refl _ _, rfl⟩
    case round =>
      obtain ⟨k, hk, rfl, hb, hf⟩ := hrel
      have HB := Lib.hid hb
      have HF := Lib.hid hf
      clear hb hf
      have HQ := Lib.hid (HQ2.out.below HB.out HQ2.out.lt)
      have HRW := Lib.hid (HR2.out.up HB.out)
      have HCW := Lib.hid (HC2.out.up HB.out)
      by_cases hlt : k < rn
      · obtain ⟨z, hz⟩ : ∃ z, r[k]? = some z := ⟨_, List.getElem?_eq_getElem (by have := HN.out; omega)⟩
        obtain ⟨b, off, hA, hblt⟩ := HCW.out.form (by omega)
        subst hA
        obtain ⟨e0, e1, e2, e3, e4, e5⟩ := HCW.out.at_ hz
        have HZM := Lib.hid (HCW.out.zs z (List.mem_of_getElem? hz))
        have HDC : Hid ((r.drop k).map Ch.r = z.r :: (r.drop (k + 1)).map Ch.r) := Lib.hid (by rw [drop_cons hz]; rfl)
        have HK0 := Lib.hid ((Below.refl wr.heap.size wr).alloc (Nat.le_refl _) (.cells #[.string z.r.brk, .string z.r.branch, .string z.r.node, .slice z.A z.n z.c, .int .i64 z.r.pick, .int .i64 z.r.opn] 68))
        have HQ3 := Lib.hid (HQ.out.alloc (.cells #[.string z.r.brk, .string z.r.branch, .string z.r.node, .slice z.A z.n z.c, .int .i64 z.r.pick, .int .i64 z.r.opn] 68))
        have HSB : Hid (Blk (wr.alloc (.cells #[.string z.r.brk, .string z.r.branch, .string z.r.node, .slice z.A z.n z.c, .int .i64 z.r.pick, .int .i64 z.r.opn] 68)) wr.heap.size 68 #[.string z.r.brk, .string z.r.branch, .string z.r.node, .slice z.A z.n z.c, .int .i64 z.r.pick, .int .i64 z.r.opn]) := Lib.hid (Blk.new wr _ _)
        have HR3 := Lib.hid (HRW.out.up HK0.out)
        have HB3 := Lib.hid (HB.out.trans (HK0.out.mono HB.out.size))
        have HZ3 := Lib.hid (((HZM.out.1).below HK0.out (Nat.le_refl _)).more HK0.out.size)
        have HZN := Lib.hid HZM.out.2
        obtain ⟨y0, y1, y2, y3, y4, y5, nf, nlt⟩ := net_box (h := ⟨A0, n0, c0, A1, n1, c1, A2, n2, c2, A3, n3, c3, A4, n4, c4, A5, n5, c5⟩) HQ3.out
        obtain ⟨z0, z1, z2, z3, z4, z5, zf, zlt⟩ := Ch.box HSB.out
        have hkI : (k : Int) < (rn : Int) := by omega
        clear hz HZM
        go_wp2_with fail
        clear e0 e1 e2 e3 e4 e5
        generalize wr.alloc (.cells #[.string z.r.brk, .string z.r.branch, .string z.r.node, .slice z.A z.n z.c, .int .i64 z.r.pick, .int .i64 z.r.opn] 68) = W at *
        generalize wr.heap.size = sb at *
        refine wp_region_last (S := fun w' => Below W.heap.size W w') 7 _ (by kernel_rfl) (by kernel_rfl) rfl (below_drew (Below.refl _ _)) (fun hHeld => ?_)
        simp only [List.take_succ_cons, List.take_zero]
        refine takeH 0 (v := ?_) rfl (by kernel_rfl) (fun _ _ _ h => h) (by rfl) ?_ hHeld ?_
        rotate_left 1
        · intro w' hSw; obtain ⟨hcc, -⟩ := bcell' hSw; go_simp <;> with_reducible rfl
        try simp only [Act.put, List.setIfInBounds_toArray, List.set_cons_zero, List.set_cons_succ]
        refine takeH 1 (v := ?_) rfl (by kernel_rfl) (fun _ _ _ h => h) (by rfl) ?_ hHeld ?_
        rotate_left 1
        · intro w' hSw; obtain ⟨hcc, -⟩ := bcell' hSw; go_simp <;> with_reducible rfl
        try simp only [Act.put, List.setIfInBounds_toArray, List.set_cons_zero, List.set_cons_succ]
        refine takeH 3 (v := ?_) rfl (by kernel_rfl) (fun _ _ _ h => h) (by rfl) ?_ hHeld ?_
        rotate_left 1
        · intro w' hSw; obtain ⟨hcc, -⟩ := bcell' hSw; go_simp <;> with_reducible rfl
        try simp only [Act.put, List.setIfInBounds_toArray, List.set_cons_zero, List.set_cons_succ]
        refine takeH 4 (v := ?_) rfl (by kernel_rfl) (fun _ _ _ h => h) (by rfl) ?_ hHeld ?_
        rotate_left 1
        · intro w' hSw; obtain ⟨hcc, -⟩ := bcell' hSw; go_simp <;> with_reducible rfl
        try simp only [Act.put, List.setIfInBounds_toArray, List.set_cons_zero, List.set_cons_succ]
        refine stepH 2 (by kernel_rfl) rfl (fun K hK => ?_)
        go_simp
        refine (cbrk_any ⟨A0, n0, c0, A1, n1, c1, A2, n2, c2, A3, n3, c3, A4, n4, c4, A5, n5, c5⟩ x z W.drew (HR3.out.up (below_drew (Below.refl _ _)))).mono ?_
        rintro e w4 ⟨rfl, hb4⟩
        have HB4 : Hid (Below W.heap.size W w4) := Lib.hid ((below_drew (Below.refl _ _)).trans hb4)
        clear hb4
        go_simp
        refine hK.out _ _ ?_ (fun hHeld => ?_)
        · exact HB4.out
        clear hK K
        try simp only [Act.put, List.setIfInBounds_toArray, List.set_cons_zero, List.set_cons_succ]
        refine stepH 5 (by kernel_rfl) rfl (fun K hK => ?_)
        go_simp
        refine (cbra_any ⟨A0, n0, c0, A1, n1, c1, A2, n2, c2, A3, n3, c3, A4, n4, c4, A5, n5, c5⟩ x z w4 (HR3.out.up HB4.out)).mono ?_
        rintro e w5 ⟨rfl, hb5⟩
        have HB5 : Hid (Below W.heap.size W w5) := Lib.hid (HB4.out.trans (hb5.mono HB4.out.size))
        clear hb5
        go_simp
        refine hK.out _ _ ?_ (fun hHeld => ?_)
        · exact HB5.out
        clear hK K
        try simp only [Act.put, List.setIfInBounds_toArray, List.set_cons_zero, List.set_cons_succ]
        refine takeH 6 (v := ?_) rfl (by kernel_rfl) (fun _ _ _ h => h) (by rfl) ?_ hHeld ?_
        rotate_left 1
        · intro w' hSw; obtain ⟨hcc, -⟩ := bcell' hSw; go_simp <;> with_reducible rfl
        try simp only [Act.put, List.setIfInBounds_toArray, List.set_cons_zero, List.set_cons_succ]
        refine wpAnyH_done (by kernel_rfl) ?_ _
        refine lastQ_go (by rfl) ?_

        have HQ5 := Lib.hid (HQ3.out.below HB5.out HQ3.out.lt)
        have HS5 := Lib.hid (HSB.out.below HB5.out HSB.out.lt)
        have HR5 := Lib.hid (HR3.out.up HB5.out)
        have HBB := Lib.hid (HB2.out.trans ((HB3.out.trans (HB5.out.mono HB3.out.size)).mono HB2.out.size))
        have HB5w := Lib.hid (HB3.out.trans (HB5.out.mono HB3.out.size))
        have HZ5 := Lib.hid ((HZ3.out.below HB5.out (Nat.le_refl _)).more HB5.out.size)
        clear y0 y1 y2 y3 y4 y5 nf nlt z0 z1 z2 z3 z4 z5 zf zlt hHeld
        obtain ⟨y0, y1, y2, y3, y4, y5, nf, nlt⟩ := net_box (h := ⟨A0, n0, c0, A1, n1, c1, A2, n2, c2, A3, n3, c3, A4, n4, c4, A5, n5, c5⟩) HQ5.out
        obtain ⟨z0, z1, z2, z3, z4, z5, zf, zlt⟩ := Ch.box HS5.out
        go_simp
        rcases cbrk_spec x z.r with hn1 | ⟨i, s, hi, hs, hsn⟩
        · have HE : Hid (crR x z.r = 6) := Lib.hid (by unfold crR; rw [if_pos (.inl (by omega))])
          rw [hn1]
          clear hn1
          go_wp2_with fail
          go_ret
          exact ⟨ret_int (by rw [HD0.out, HF.out, HDC.out, crGo_stop HE.out (by decide)]), HBB.out⟩
        rcases cbra_spec x z.r with hn1 | ⟨j, b', hj, hb', hbn⟩
        · have HE : Hid (crR x z.r = 6) := Lib.hid (by unfold crR; rw [if_pos (.inr (by omega))])
          rw [hn1, hi]
          clear hn1 hi
          go_wp2_with fail
          go_ret
          exact ⟨ret_int (by rw [HD0.out, HF.out, HDC.out, crGo_stop HE.out (by decide)]), HBB.out⟩
        have HFM : Hid (crForm x z.r = (!s.breaker || (!sEq z.r.node b'.fr && !sEq z.r.node b'.to))) := Lib.hid (by unfold crForm; rw [hi, hj, Int.toNat_natCast, Int.toNat_natCast, hs, hb'])
        have HCR : Hid (crR x z.r = if crForm x z.r = true then 3 else if ckC z.r.curve ≠ 0 then ckC z.r.curve else if z.r.pick < 1 ∨ 1000000 < z.r.pick ∨ z.r.opn < 1 ∨ 10000 < z.r.opn then 4 else 0) := Lib.hid (by unfold crR; rw [if_neg (by omega)])
        rw [hi, hj]
        have hil : i < n1 := by have := (List.getElem?_eq_some_iff.1 hs).1; have := HN1.out; omega
        have hjl : j < n2 := by have := (List.getElem?_eq_some_iff.1 hb').1; have := HN2.out; omega
        have hrd1 := HR5.out.r1
        have hrd2 := HR5.out.r2
        obtain ⟨sb1, so1, hA1, hs1lt⟩ := hrd1.form (by show 0 < n1; omega)
        obtain ⟨sb2, so2, hA2, hs2lt⟩ := hrd2.form (by show 0 < n2; omega)
        dsimp only at hA1 hA2
        subst hA1 hA2
        obtain ⟨s0, s1, s2, s3, s4⟩ := hrd1.at_ hs
        obtain ⟨t0, t1, t2, t3, t4, t5, t6, t7, t8⟩ := hrd2.at_ hb'
        have hilI : (i : Int) < (n1 : Int) := by omega
        have hjlI : (j : Int) < (n2 : Int) := by omega
        clear hi hj hs hb' hrd1 hrd2 hsn hbn s0 s1 s2 s4 t0 t3 t4 t5 t6 t7 t8
        go_wp2_with fail
        cases hbk : s.breaker with
        | false =>
          rw [hbk] at s3 HFM
          clear hbk
          have HE : Hid (crR x z.r = 3) := Lib.hid (by rw [HCR.out, if_pos (by rw [HFM.out]; rfl)])
          go_quiet (fail)
          go_wp2_with fail
          go_ret
          exact ⟨ret_int (by rw [HD0.out, HF.out, HDC.out, crGo_stop HE.out (by decide)]), below_drewN HBB.out _⟩
        | true =>
          rw [hbk] at s3 HFM
          clear hbk
          cases hq1 : sEq z.r.node b'.fr with
          | true =>
            have HG : Hid (crForm x z.r = false) := Lib.hid (by rw [HFM.out]; rw [hq1]; rfl)
            have HZN' := HZN.out
            go_quiet (fail)
            go_wp2_with fail
            refine (checkC_any z.A z.n z.c z.r.curve (w5.drewN nq) HZ5.out HZN').mono ?_
            generalize hcv : ckC z.r.curve = cv
            rintro e w6 ⟨rfl, hb6⟩
            have HCV := Lib.hid hcv
            have HBB6 := Lib.hid ((below_drewN HBB.out nq).trans (hb6.mono HBB.out.size))
            have HB6w := Lib.hid ((below_drewN HB5w.out nq).trans (hb6.mono HB5w.out.size))
            have HS6 := Lib.hid ((HS5.out.drewN nq).below hb6 HS5.out.lt)
            clear hb6 hcv z0 z1 z2 z3 z4 z5 zf zlt y0 y1 y2 y3 y4 y5 nf nlt
            obtain ⟨z0, z1, z2, z3, z4, z5, zf, zlt⟩ := Ch.box HS6.out
            by_cases hv : cv = 0
            · subst hv
              have HCR2 : Hid (crR x z.r = if z.r.pick < 1 ∨ 1000000 < z.r.pick ∨ z.r.opn < 1 ∨ 10000 < z.r.opn then 4 else 0) := Lib.hid (by rw [HCR.out, if_neg (by rw [HG.out]; simp), if_neg (by rw [HCV.out]; simp)])
              by_cases hall : z.r.pick < 1 ∨ 1000000 < z.r.pick ∨ z.r.opn < 1 ∨ 10000 < z.r.opn
              · have HE : Hid (crR x z.r = 4) := Lib.hid (by rw [HCR2.out, if_pos hall])
                have HALL := Lib.hid hall
                clear hall
                by_cases g1 : z.r.pick < 1
                · go_wp2_with fail
                  go_ret
                  exact ⟨ret_int (by rw [HD0.out, HF.out, HDC.out, crGo_stop HE.out (by decide)]), HBB6.out⟩
                by_cases g2 : 1000000 < z.r.pick
                · go_wp2_with fail
                  go_ret
                  exact ⟨ret_int (by rw [HD0.out, HF.out, HDC.out, crGo_stop HE.out (by decide)]), HBB6.out⟩
                by_cases g3 : z.r.opn < 1
                · go_wp2_with fail
                  go_ret
                  exact ⟨ret_int (by rw [HD0.out, HF.out, HDC.out, crGo_stop HE.out (by decide)]), HBB6.out⟩
                have g4 : 10000 < z.r.opn := by have := HALL.out; omega
                go_wp2_with fail
                go_ret
                exact ⟨ret_int (by rw [HD0.out, HF.out, HDC.out, crGo_stop HE.out (by decide)]), HBB6.out⟩
              · have HE : Hid (crR x z.r = 0) := Lib.hid (by rw [HCR2.out, if_neg hall])
                have g1 : ¬ z.r.pick < 1 := by omega
                have g2 : ¬ 1000000 < z.r.pick := by omega
                have g3 : ¬ z.r.opn < 1 := by omega
                have g4 : ¬ 10000 < z.r.opn := by omega
                clear hall
                go_wp2_with fail
                go_roundw
                case rel => exact ⟨k + 1, by omega, by go_num, HB6w.out, by rw [HF.out, HDC.out, crGo_on HE.out]⟩
                case measure => simp [intOf]; omega
            · have HE : Hid (crR x z.r = cv) := Lib.hid (by rw [HCR.out, if_neg (by rw [HG.out]; simp), if_pos (by rw [HCV.out]; exact hv), HCV.out])
              have HV := Lib.hid hv
              have hv' : (cv != 0) = true := by simpa using hv
              go_wp2_with fail
              go_ret
              exact ⟨ret_int (by rw [HD0.out, HF.out, HDC.out, crGo_stop HE.out HV.out]), HBB6.out⟩
          | false =>
            cases hq2 : sEq z.r.node b'.to with
            | true =>
              have HG : Hid (crForm x z.r = false) := Lib.hid (by rw [HFM.out]; rw [hq1, hq2]; rfl)
              have HZN' := HZN.out
              go_quiet (fail)
              go_wp2_with fail
              refine (checkC_any z.A z.n z.c z.r.curve (w5.drewN nq) HZ5.out HZN').mono ?_
              generalize hcv : ckC z.r.curve = cv
              rintro e w6 ⟨rfl, hb6⟩
              have HCV := Lib.hid hcv
              have HBB6 := Lib.hid ((below_drewN HBB.out nq).trans (hb6.mono HBB.out.size))
              have HB6w := Lib.hid ((below_drewN HB5w.out nq).trans (hb6.mono HB5w.out.size))
              have HS6 := Lib.hid ((HS5.out.drewN nq).below hb6 HS5.out.lt)
              clear hb6 hcv z0 z1 z2 z3 z4 z5 zf zlt y0 y1 y2 y3 y4 y5 nf nlt
              obtain ⟨z0, z1, z2, z3, z4, z5, zf, zlt⟩ := Ch.box HS6.out
              by_cases hv : cv = 0
              · subst hv
                have HCR2 : Hid (crR x z.r = if z.r.pick < 1 ∨ 1000000 < z.r.pick ∨ z.r.opn < 1 ∨ 10000 < z.r.opn then 4 else 0) := Lib.hid (by rw [HCR.out, if_neg (by rw [HG.out]; simp), if_neg (by rw [HCV.out]; simp)])
                by_cases hall : z.r.pick < 1 ∨ 1000000 < z.r.pick ∨ z.r.opn < 1 ∨ 10000 < z.r.opn
                · have HE : Hid (crR x z.r = 4) := Lib.hid (by rw [HCR2.out, if_pos hall])
                  have HALL := Lib.hid hall
                  clear hall
                  by_cases g1 : z.r.pick < 1
                  · go_wp2_with fail
                    go_ret
                    exact ⟨ret_int (by rw [HD0.out, HF.out, HDC.out, crGo_stop HE.out (by decide)]), HBB6.out⟩
                  by_cases g2 : 1000000 < z.r.pick
                  · go_wp2_with fail
                    go_ret
                    exact ⟨ret_int (by rw [HD0.out, HF.out, HDC.out, crGo_stop HE.out (by decide)]), HBB6.out⟩
                  by_cases g3 : z.r.opn < 1
                  · go_wp2_with fail
                    go_ret
                    exact ⟨ret_int (by rw [HD0.out, HF.out, HDC.out, crGo_stop HE.out (by decide)]), HBB6.out⟩
                  have g4 : 10000 < z.r.opn := by have := HALL.out; omega
                  go_wp2_with fail
                  go_ret
                  exact ⟨ret_int (by rw [HD0.out, HF.out, HDC.out, crGo_stop HE.out (by decide)]), HBB6.out⟩
                · have HE : Hid (crR x z.r = 0) := Lib.hid (by rw [HCR2.out, if_neg hall])
                  have g1 : ¬ z.r.pick < 1 := by omega
                  have g2 : ¬ 1000000 < z.r.pick := by omega
                  have g3 : ¬ z.r.opn < 1 := by omega
                  have g4 : ¬ 10000 < z.r.opn := by omega
                  clear hall
                  go_wp2_with fail
                  go_roundw
                  case rel => exact ⟨k + 1, by omega, by go_num, HB6w.out, by rw [HF.out, HDC.out, crGo_on HE.out]⟩
                  case measure => simp [intOf]; omega
              · have HE : Hid (crR x z.r = cv) := Lib.hid (by rw [HCR.out, if_neg (by rw [HG.out]; simp), if_pos (by rw [HCV.out]; exact hv), HCV.out])
                have HV := Lib.hid hv
                have hv' : (cv != 0) = true := by simpa using hv
                go_wp2_with fail
                go_ret
                exact ⟨ret_int (by rw [HD0.out, HF.out, HDC.out, crGo_stop HE.out HV.out]), HBB6.out⟩
            | false =>
              have HE : Hid (crR x z.r = 3) := Lib.hid (by rw [HCR.out, if_pos (by rw [HFM.out]; rw [hq1, hq2]; rfl)])
              go_quiet (fail)
              go_wp2_with fail
              go_ret
              exact ⟨ret_int (by rw [HD0.out, HF.out, HDC.out, crGo_stop HE.out (by decide)]), below_drewN HBB.out _⟩
      · have hkk : rn = k := by omega
        subst hkk
        go_wp2_with fail
        go_ret
        exact ⟨ret_int (by rw [HD0.out, HF.out, List.drop_of_length_le (by have := HN.out; omega)]; rfl), HB2.out.trans (HB.out.mono HB2.out.size)⟩
  · have HH0 := Lib.hid h0
    have h0' : (ck != 0) = true := by simpa using h0
    go_wp2_with fail
    go_ret
    exact ⟨ret_int (by rw [HD.out, if_pos HH0.out]), HB2.out⟩
end Go.Proofs.Ythedpegaelpbdaa
