/- settings.Wrong: the walk. -/
import Derived.Test.YthedpegaelpbdaaE6
import Derived.Test.YthedpegaelpbdaaE4
import Derived.Deep.DeepCutAuto
namespace Go.Proofs.Ythedpegaelpbdaa
open Go.ChangeShapes Go.WideShapes Go.ChangeAt Go.RowKit Go.Joins Go.Deep
set_option linter.unusedVariables false
attribute [local go_sem ↓] execOp_call_val
attribute [local go_sem] callVal_func setCell_drewN alloc_drewN sEq_walk NetH.cells

/-- the conflict of two relays -/
def cfl (m l h : Int) (a b : Cr) : Int × Int := conC a.curve a.pick b.curve b.pick m l h
def wrGo (m l h : Int) (r : List Cr) : List (Nat × Nat) → Nat → Int × Int → Int × Int × Int
  | [], _, at_ => if at_.1 < 0 then (0, 0, 8) else (at_.1, at_.2, 0)
  | p :: t, i, at_ => match r[p.1]?, r[p.2]? with
    | some a, some b => if (cfl m l h a b).2 = 0 then wrGo m l h r t (i + 1) (if at_.1 < 0 then ((i : Int), (cfl m l h a b).1) else at_) else if (cfl m l h a b).2 = 8 then wrGo m l h r t (i + 1) at_ else (0, 0, (cfl m l h a b).2)
    | _, _ => (0, 0, 1)
def wrongR (r : List Cr) (ps : List (Nat × Nat)) (m l h : Int) : Int × Int × Int := if sckR r ≠ 0 then (0, 0, sckR r) else wrGo m l h r ps 0 (-1, 0)
theorem wrGo_cons {m l h : Int} {r : List Cr} {p : Nat × Nat} {t : List (Nat × Nat)} {i : Nat} {at_ : Int × Int} {a b : Cr} (ha : r[p.1]? = some a) (hb : r[p.2]? = some b) :
    wrGo m l h r (p :: t) i at_ = if (cfl m l h a b).2 = 0 then wrGo m l h r t (i + 1) (if at_.1 < 0 then ((i : Int), (cfl m l h a b).1) else at_) else if (cfl m l h a b).2 = 8 then wrGo m l h r t (i + 1) at_ else (0, 0, (cfl m l h a b).2) := by
  conv => lhs; unfold wrGo
  rw [ha, hb]
set_option maxRecDepth 100000 in
set_option maxHeartbeats 4000000 in
theorem wrong_any (RA : Option Addr) (rn rc : Nat) (r : List Ch) (PA : Option Addr) (pc : Nat) (ps : List (Nat × Nat)) (m l h : Int) (w : World) (hC : RdCh w w.heap.size RA rn r) (hrn : rn ≤ 9223372036854775807) (hP : RdE w w.heap.size PA ps.length ps) (hok : PrOk rn ps) :
    Calls Try.prog 33 #[.slice RA rn rc, .slice PA ps.length pc, .int .i64 m, .int .i64 l, .int .i64 h] w fun e w' => e = .returned (.tuple #[.int .i64 (wrongR (r.map Ch.r) ps m l h).1, .int .i64 (wrongR (r.map Ch.r) ps m l h).2.1, .int .i64 (wrongR (r.map Ch.r) ps m l h).2.2]) ∧ Below w.heap.size w w' := by
  have HC := Lib.hid hC
  have HP := Lib.hid hP
  have HOK := Lib.hid hok
  have HN : Hid (r.length = rn) := Lib.hid hC.len
  have hpl := hok.1
  have HD : Hid (wrongR (r.map Ch.r) ps m l h = if sckR (r.map Ch.r) ≠ 0 then (0, 0, sckR (r.map Ch.r)) else wrGo m l h (r.map Ch.r) ps 0 (-1, 0)) := Lib.hid rfl
  generalize hwr : wrongR (r.map Ch.r) ps m l h = R0 at HD ⊢
  clear hC hP hok hwr
  go_enter Try.func33, Try.ntmps33
  go_wp2_with fail
  refine (scheck_any RA rn rc r PA pc ps w HC.out hrn HP.out HOK.out).mono ?_
  generalize hck : sckR (r.map Ch.r) = ck at HD
  rintro e w2 ⟨rfl, hb⟩
  have HB2 := Lib.hid hb
  have HC2 := Lib.hid (HC.out.up hb)
  have HP2 := Lib.hid ((HP.out.below hb (Nat.le_refl _)).more hb.size)
  clear hb hck
  by_cases h0 : ck = 0
  · subst h0
    have HD0 : Hid (R0 = wrGo m l h (r.map Ch.r) ps 0 (-1, 0)) := Lib.hid (by rw [HD.out, if_neg (by simp)])
    go_wp2_with fail
    go_loopw [14, 15, 30] (fun v14 v15 v30 wr => ∃ (k : Nat) (at_ : Int × Int), k ≤ ps.length ∧ v30 = .int .i64 k ∧ v14 = .int .i64 at_.1 ∧ v15 = .int .i64 at_.2 ∧ Below w2.heap.size w2 wr ∧ R0 = wrGo m l h (r.map Ch.r) (ps.drop k) k at_) (fun _ _ v30 _ => ps.length - (intOf v30).toNat)
    case atStart => exact ⟨0, (-1, 0), by omega, rfl, rfl, rfl, Below.refl _ _, HD0.out⟩
    case round =>
      obtain ⟨k, ⟨a1, a2⟩, hk, rfl, rfl, rfl, hb, hf⟩ := hrel
      dsimp only
      have HB := Lib.hid hb
      have HF := Lib.hid hf
      clear hb hf
      have HCW := Lib.hid (HC2.out.up HB.out)
      by_cases hlt : k < ps.length
      · obtain ⟨⟨xa, xb⟩, hx⟩ : ∃ x, ps[k]? = some x := ⟨_, List.getElem?_eq_getElem hlt⟩
        have hE := (HP2.out.below HB.out (Nat.le_refl _)).more HB.out.size
        obtain ⟨eb, eo, heA, heb⟩ := hE.form (by omega)
        subst heA
        obtain ⟨e0, e1⟩ := hE.at_ hx
        dsimp only at e0 e1
        obtain ⟨hxa, hxb, _⟩ := HOK.out.2 _ (List.mem_of_getElem? hx)
        dsimp only at hxa hxb
        obtain ⟨z1, hz1⟩ : ∃ z, r[xa]? = some z := ⟨_, List.getElem?_eq_getElem (by have := HN.out; omega)⟩
        obtain ⟨z2, hz2⟩ : ∃ z, r[xb]? = some z := ⟨_, List.getElem?_eq_getElem (by have := HN.out; omega)⟩
        obtain ⟨b1, off1, hA1, hblt⟩ := HCW.out.form (by omega)
        subst hA1
        obtain ⟨c0, c1, c2, c3, c4, c5⟩ := HCW.out.at_ hz1
        obtain ⟨d0, d1, d2, d3, d4, d5⟩ := HCW.out.at_ hz2
        have HM1 := Lib.hid (HCW.out.zs z1 (List.mem_of_getElem? hz1))
        have HM2 := Lib.hid (HCW.out.zs z2 (List.mem_of_getElem? hz2))
        have HDC : Hid (ps.drop k = (xa, xb) :: ps.drop (k + 1)) := Lib.hid (drop_cons hx)
        have HW := Lib.hid (wrGo_cons (m := m) (l := l) (h := h) (r := r.map Ch.r) (p := (xa, xb)) (t := ps.drop (k + 1)) (i := k) (at_ := (a1, a2)) (a := z1.r) (b := z2.r) (by rw [List.getElem?_map, hz1]; rfl) (by rw [List.getElem?_map, hz2]; rfl))
        have hkI : (k : Int) < (ps.length : Int) := by omega
        have hI1 : (xa : Int) < (rn : Int) := by omega
        have hI2 : (xb : Int) < (rn : Int) := by omega
        have HK0 := Lib.hid ((Below.refl wr.heap.size wr).alloc (Nat.le_refl _) (.cells #[.int .i64 xa, .int .i64 xb] 83))
        have HB3 := Lib.hid (HB.out.trans (HK0.out.mono HB.out.size))
        have hp0 := (Blk.new wr 83 #[.int .i64 xa, .int .i64 xb]).cell 0
        have hp1 := (Blk.new wr 83 #[.int .i64 xa, .int .i64 xb]).cell 1
        have HC3 := Lib.hid (HCW.out.up HK0.out)
        have hwl : wr.heap.size < (wr.alloc (.cells #[.int .i64 xa, .int .i64 xb] 83)).heap.size := by simp
        have hblt' : b1 < (wr.alloc (.cells #[.int .i64 xa, .int .i64 xb] 83)).heap.size := by simp; omega
        clear hx hE hz1 hz2
        go_wp2_with fail
        have HCE := Lib.hid ((bcell' HK0.out).1)
        have c0 := (HCE.out b1 (off1 + xa * 6) hblt).trans c0
        have c1 := (HCE.out b1 (off1 + xa * 6 + 1) hblt).trans c1
        have c2 := (HCE.out b1 (off1 + xa * 6 + 2) hblt).trans c2
        have c3 := (HCE.out b1 (off1 + xa * 6 + 3) hblt).trans c3
        have c4 := (HCE.out b1 (off1 + xa * 6 + 4) hblt).trans c4
        have c5 := (HCE.out b1 (off1 + xa * 6 + 5) hblt).trans c5
        have d0 := (HCE.out b1 (off1 + xb * 6) hblt).trans d0
        have d1 := (HCE.out b1 (off1 + xb * 6 + 1) hblt).trans d1
        have d2 := (HCE.out b1 (off1 + xb * 6 + 2) hblt).trans d2
        have d3 := (HCE.out b1 (off1 + xb * 6 + 3) hblt).trans d3
        have d4 := (HCE.out b1 (off1 + xb * 6 + 4) hblt).trans d4
        have d5 := (HCE.out b1 (off1 + xb * 6 + 5) hblt).trans d5
        clear e0 e1
        generalize wr.alloc (.cells #[.int .i64 xa, .int .i64 xb] 83) = W at *
        generalize hyb : wr.heap.size = yb at *
        have HYB := Lib.hid hyb
        clear hyb
        go_cut [18, 19] (fun v18 v19 wc => ∃ q1 q2, v18 = .pointer (some ⟨q1, 0, none⟩) ∧ v19 = .pointer (some ⟨q2, 0, none⟩) ∧ Blk wc q1 68 #[.string z1.r.brk, .string z1.r.branch, .string z1.r.node, .slice z1.A z1.n z1.c, .int .i64 z1.r.pick, .int .i64 z1.r.opn] ∧ Blk wc q2 68 #[.string z2.r.brk, .string z2.r.branch, .string z2.r.node, .slice z2.A z2.n z2.c, .int .i64 z2.r.pick, .int .i64 z2.r.opn] ∧ Below W.heap.size W wc)
        case first =>
          refine wp_region_last (S := fun w' => Below W.heap.size W w') 13 _ (by kernel_rfl) (by kernel_rfl) rfl (below_drew (Below.refl _ _)) (fun hHeld => ?_)
          simp only [List.take_succ_cons, List.take_zero]
          refine takeH 0 (v := ?_) rfl (by kernel_rfl) (fun _ _ _ h => h) (by rfl) ?_ hHeld ?_
          rotate_left 1
          · intro w' hSw; obtain ⟨hcc, -⟩ := bcell' hSw; go_simp <;> with_reducible rfl
          try simp only [Act.put, List.setIfInBounds_toArray, List.set_cons_zero, List.set_cons_succ]
          refine takeH 1 (v := ?_) rfl (by kernel_rfl) (fun _ _ _ h => h) (by rfl) ?_ hHeld ?_
          rotate_left 1
          · intro w' hSw; obtain ⟨hcc, -⟩ := bcell' hSw; go_simp <;> with_reducible rfl
          try simp only [Act.put, List.setIfInBounds_toArray, List.set_cons_zero, List.set_cons_succ]
          refine takeH 2 (v := ?_) rfl (by kernel_rfl) (fun _ _ _ h => h) (by rfl) ?_ hHeld ?_
          rotate_left 1
          · intro w' hSw; obtain ⟨hcc, -⟩ := bcell' hSw; go_simp <;> with_reducible rfl
          try simp only [Act.put, List.setIfInBounds_toArray, List.set_cons_zero, List.set_cons_succ]
          refine takeH 3 (v := ?_) rfl (by kernel_rfl) (fun _ _ _ h => h) (by rfl) ?_ hHeld ?_
          rotate_left 1
          · intro w' hSw; obtain ⟨hcc, -⟩ := bcell' hSw; go_simp <;> with_reducible rfl
          try simp only [Act.put, List.setIfInBounds_toArray, List.set_cons_zero, List.set_cons_succ]
          refine takeH 4 (v := ?_) rfl (by kernel_rfl) (fun _ _ _ h => h) (by rfl) ?_ hHeld ?_
          rotate_left 1
          · intro w' hSw; obtain ⟨hcc, -⟩ := bcell' hSw; go_simp <;> with_reducible rfl
          try simp only [Act.put, List.setIfInBounds_toArray, List.set_cons_zero, List.set_cons_succ]
          refine takeH 5 (v := ?_) rfl (by kernel_rfl) (fun _ _ _ h => h) (by rfl) ?_ hHeld ?_
          rotate_left 1
          · intro w' hSw; obtain ⟨hcc, -⟩ := bcell' hSw; go_simp <;> with_reducible rfl
          try simp only [Act.put, List.setIfInBounds_toArray, List.set_cons_zero, List.set_cons_succ]
          refine takeH 6 (v := ?_) rfl (by kernel_rfl) (fun _ _ _ h => h) (by rfl) ?_ hHeld ?_
          rotate_left 1
          · intro w' hSw; obtain ⟨hcc, -⟩ := bcell' hSw; go_simp <;> with_reducible rfl
          try simp only [Act.put, List.setIfInBounds_toArray, List.set_cons_zero, List.set_cons_succ]
          refine takeH 7 (v := ?_) rfl (by kernel_rfl) (fun _ _ _ h => h) (by rfl) ?_ hHeld ?_
          rotate_left 1
          · intro w' hSw; obtain ⟨hcc, -⟩ := bcell' hSw; go_simp <;> with_reducible rfl
          try simp only [Act.put, List.setIfInBounds_toArray, List.set_cons_zero, List.set_cons_succ]
          refine takeH 8 (v := ?_) rfl (by kernel_rfl) (fun _ _ _ h => h) (by rfl) ?_ hHeld ?_
          rotate_left 1
          · intro w' hSw; obtain ⟨hcc, -⟩ := bcell' hSw; go_simp <;> with_reducible rfl
          try simp only [Act.put, List.setIfInBounds_toArray, List.set_cons_zero, List.set_cons_succ]
          refine takeH 9 (v := ?_) rfl (by kernel_rfl) (fun _ _ _ h => h) (by rfl) ?_ hHeld ?_
          rotate_left 1
          · intro w' hSw; obtain ⟨hcc, -⟩ := bcell' hSw; go_simp <;> with_reducible rfl
          try simp only [Act.put, List.setIfInBounds_toArray, List.set_cons_zero, List.set_cons_succ]
          refine stepHH 10 11 (by kernel_rfl) rfl rfl (fun K hK => ?_) (fun K hK => ?_)
          · go_simp
            refine hK.out _ _ ?_ (fun hHeld => ?_)
            · exact (below_drew (Below.refl _ _)).alloc (Nat.le_refl _) _
            clear hK K
            try simp only [Act.put, List.setIfInBounds_toArray, List.set_cons_zero, List.set_cons_succ]
            refine stepH 11 (by kernel_rfl) rfl (fun K hK => ?_)
            go_simp
            refine hK.out _ _ ?_ (fun hHeld => ?_)
            · exact ((below_drew (Below.refl _ _)).alloc (Nat.le_refl _) _).alloc (by simp) _
            clear hK K
            try simp only [Act.put, List.setIfInBounds_toArray, List.set_cons_zero, List.set_cons_succ]
            refine stepH 12 (by kernel_rfl) rfl (fun K hK => ?_)
            go_simp
            refine hK.out _ _ ?_ (fun hHeld => ?_)
            · exact below_drew (((Below.refl _ _).alloc (Nat.le_refl _) _).alloc (by simp) _)
            clear hK K
            try simp only [Act.put, List.setIfInBounds_toArray, List.set_cons_zero, List.set_cons_succ]
            refine wpAnyH_done (by kernel_rfl) ?_ _
            refine lastQ_go (by rfl) ?_
            go_simp
            go_wp2_with fail
            go_meet
            case rel => exact ⟨_, _, rfl, rfl, ((Blk.new W _ _).alloc _).drew, (Blk.new_ (by simp)).drew, below_drew (((Below.refl _ _).alloc (Nat.le_refl _) _).alloc (by simp) _)⟩
          · go_simp
            refine hK.out _ _ ?_ (fun hHeld => ?_)
            · exact (below_drew (Below.refl _ _)).alloc (Nat.le_refl _) _
            clear hK K
            try simp only [Act.put, List.setIfInBounds_toArray, List.set_cons_zero, List.set_cons_succ]
            refine stepH 10 (by kernel_rfl) rfl (fun K hK => ?_)
            go_simp
            refine hK.out _ _ ?_ (fun hHeld => ?_)
            · exact ((below_drew (Below.refl _ _)).alloc (Nat.le_refl _) _).alloc (by simp) _
            clear hK K
            try simp only [Act.put, List.setIfInBounds_toArray, List.set_cons_zero, List.set_cons_succ]
            refine stepH 12 (by kernel_rfl) rfl (fun K hK => ?_)
            go_simp
            refine hK.out _ _ ?_ (fun hHeld => ?_)
            · exact below_drew (((Below.refl _ _).alloc (Nat.le_refl _) _).alloc (by simp) _)
            clear hK K
            try simp only [Act.put, List.setIfInBounds_toArray, List.set_cons_zero, List.set_cons_succ]
            refine wpAnyH_done (by kernel_rfl) ?_ _
            refine lastQ_go (by rfl) ?_
            go_simp
            go_wp2_with fail
            go_meet
            case rel => exact ⟨_, _, rfl, rfl, (Blk.new_ (by simp)).drew, ((Blk.new W _ _).alloc _).drew, below_drew (((Below.refl _ _).alloc (Nat.le_refl _) _).alloc (by simp) _)⟩
        obtain ⟨q1, q2, rfl, rfl, hq1, hq2, hbw⟩ := hcut
        have HQ1 := Lib.hid hq1
        have HQ2 := Lib.hid hq2
        have HBC := Lib.hid (HB3.out.trans (hbw.mono HB3.out.size))
        have HKC := Lib.hid (HK0.out.trans (hbw.mono (by have := HK0.out.size; have := HYB.out; omega)))
        have HZ1 := Lib.hid ((HM1.out.1.below HKC.out (Nat.le_refl _)).more (B' := wc.heap.size) (by have := HKC.out.size; have := HYB.out; omega))
        have HZ2 := Lib.hid ((HM2.out.1.below HKC.out (Nat.le_refl _)).more (B' := wc.heap.size) (by have := HKC.out.size; have := HYB.out; omega))
        have hzn1 := HM1.out.2
        have hzn2 := HM2.out.2
        obtain ⟨y0, y1, y2, y3, y4, y5, yf, ylt⟩ := Ch.box hq1
        obtain ⟨x0, x1, x2, x3, x4, x5, xf, xlt⟩ := Ch.box hq2
        clear hq1 hq2 hbw c0 c1 c2 c3 c4 c5 d0 d1 d2 d3 d4 d5 hp0 hp1
        go_wp2_with fail
        refine (con_any z1.A z1.n z1.c z1.r.curve z1.r.pick z2.A z2.n z2.c z2.r.curve z2.r.pick m l h wc HZ1.out HZ2.out hzn1 hzn2).mono ?_
        rw [show conC z1.r.curve z1.r.pick z2.r.curve z2.r.pick m l h = cfl m l h z1.r z2.r from rfl]
        generalize hcf : cfl m l h z1.r z2.r = cf at HW
        obtain ⟨cn, ce⟩ := cf
        rintro e w5 ⟨rfl, hb5⟩
        dsimp only at HW ⊢
        have HB5 := Lib.hid (HBC.out.trans (hb5.mono HBC.out.size))
        clear hb5 hcf y0 y1 y2 y3 y4 y5 yf ylt x0 x1 x2 x3 x4 x5 xf xlt
        by_cases hce : ce = 0
        · subst hce
          by_cases ha1 : a1 < 0
          · have HW2 : Hid (R0 = wrGo m l h (r.map Ch.r) (ps.drop (k + 1)) (k + 1) ((k : Int), cn)) := Lib.hid (by rw [HF.out, HDC.out, HW.out, if_pos rfl, if_pos ha1])
            go_wp2_with fail
            go_roundw
            case rel => exact ⟨k + 1, ((k : Int), cn), by omega, by go_num, rfl, rfl, HB5.out, HW2.out⟩
            case measure => simp [intOf]; omega
          · have HW2 : Hid (R0 = wrGo m l h (r.map Ch.r) (ps.drop (k + 1)) (k + 1) (a1, a2)) := Lib.hid (by rw [HF.out, HDC.out, HW.out, if_pos rfl, if_neg ha1])
            go_wp2_with fail
            go_roundw
            case rel => exact ⟨k + 1, (a1, a2), by omega, by go_num, rfl, rfl, HB5.out, HW2.out⟩
            case measure => simp [intOf]; omega
        · by_cases hce8 : ce = 8
          · subst hce8
            have HW2 : Hid (R0 = wrGo m l h (r.map Ch.r) (ps.drop (k + 1)) (k + 1) (a1, a2)) := Lib.hid (by rw [HF.out, HDC.out, HW.out, if_neg (by decide), if_pos rfl])
            clear hce
            go_wp2_with fail
            go_roundw
            case rel => exact ⟨k + 1, (a1, a2), by omega, by go_num, rfl, rfl, HB5.out, HW2.out⟩
            case measure => simp [intOf]; omega
          · have HW2 : Hid (R0 = (0, 0, ce)) := Lib.hid (by rw [HF.out, HDC.out, HW.out, if_neg hce, if_neg hce8])
            have hce' : (ce == 0) = false := by simpa using hce
            have hce8' : (ce == 8) = false := by simpa using hce8
            clear hce hce8
            go_wp2_with fail
            refine bodyPost_ret (v := .tuple #[.int .i64 0, .int .i64 0, .int .i64 ce]) (by simp [results, Try.results33, go_sem]) rfl ⟨?_, HB2.out.trans (HB5.out.mono HB2.out.size)⟩
            rw [HW2.out]
      · have hkk : k = ps.length := by omega
        subst hkk
        have HR : Hid (R0 = if a1 < 0 then (0, 0, 8) else (a1, a2, 0)) := Lib.hid (by rw [HF.out, List.drop_length]; rfl)
        by_cases ha1 : a1 < 0
        · have HR2 : Hid (R0 = (0, 0, 8)) := Lib.hid (by rw [HR.out, if_pos ha1])
          go_wp2_with fail
          refine bodyPost_ret (v := .tuple #[.int .i64 0, .int .i64 0, .int .i64 8]) (by simp [results, Try.results33, go_sem]) rfl ⟨?_, HB2.out.trans (HB.out.mono HB2.out.size)⟩
          rw [HR2.out]
        · have HR2 : Hid (R0 = (a1, a2, 0)) := Lib.hid (by rw [HR.out, if_neg ha1])
          go_wp2_with fail
          refine bodyPost_ret (v := .tuple #[.int .i64 a1, .int .i64 a2, .int .i64 0]) (by simp [results, Try.results33, go_sem]) rfl ⟨?_, HB2.out.trans (HB.out.mono HB2.out.size)⟩
          rw [HR2.out]
  · have HH0 : Hid (R0 = (0, 0, ck)) := Lib.hid (by rw [HD.out, if_pos h0])
    have h0' : (ck != 0) = true := by simpa using h0
    go_wp2_with fail
    refine bodyPost_ret (v := .tuple #[.int .i64 0, .int .i64 0, .int .i64 ck]) (by simp [results, Try.results33, go_sem]) rfl ⟨?_, HB2.out⟩
    rw [HH0.out]
end Go.Proofs.Ythedpegaelpbdaa
