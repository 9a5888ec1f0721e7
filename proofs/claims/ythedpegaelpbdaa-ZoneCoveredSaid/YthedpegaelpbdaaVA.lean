/- The relays that operate: zone.Covered, the walk. -/
import Derived.Test.YthedpegaelpbdaaV9
namespace Go.Proofs.Ythedpegaelpbdaa
open Go.ChangeShapes Go.WideShapes Go.ChangeAt Go.RowKit
set_option linter.unusedVariables false
attribute [local go_sem ↓] execOp_call_val
attribute [local go_sem] callVal_func setCell_drewN alloc_drewN sEq_walk NetH.cells

def CovP (x : Net) (l : List Zh) (p : Fp) (w : World) (e : Ending) (w' : World) : Prop :=
  Below w.heap.size w w' ∧ ((covE x l p ≠ 0 ∧ e = .returned (.tuple #[.slice none 0 0, .int .i64 (covE x l p)])) ∨
    (covE x l p = 0 ∧ ∃ A n c L, e = .returned (.tuple #[.slice A n c, .int .i64 0]) ∧ RdI w' w'.heap.size A n L ∧ L.Perm (outsTo x l p l.length) ∧ Srt (fun y => tmV x l p y.toNat) n n L))

theorem made_ints (n : Nat) : madeCells #[.int .i64 0] n = (ints (List.replicate n 0)).toArray := by
  apply Array.ext'
  simp [madeCells, ints, Nat.mod_one, List.map_const']

set_option maxRecDepth 100000 in
set_option maxHeartbeats 4000000 in
theorem covered_any (h : NetH) (x : Net) (p : Fp) (l : List Zh) (A : Option Addr) (n c : Nat) (w : World) (hR : RdNet w w.heap.size h x) (hL : RdZh w w.heap.size A n l) (hn : n ≤ 19) :
    Calls Try.prog 24 #[.agg h.cells, .slice A n c, .agg #[.string p.branch, .int .i64 p.part]] w (CovP x l p w) := by
  have hB0 : Below w.heap.size w ((w.alloc (.cells h.cells 29)).alloc (.cells #[.string p.branch, .int .i64 p.part] 31)) := ((Below.refl _ _).alloc (Nat.le_refl _) _).alloc (by simp) _
  have HB0 := Lib.hid hB0
  have HR := Lib.hid hR
  have HL := Lib.hid hL
  have HQ1 : Hid (Blk ((w.alloc (.cells h.cells 29)).alloc (.cells #[.string p.branch, .int .i64 p.part] 31)) w.heap.size 29 h.cells) := Lib.hid ((Blk.new w _ _).alloc _)
  have HQ3 : Hid (Blk ((w.alloc (.cells h.cells 29)).alloc (.cells #[.string p.branch, .int .i64 p.part] 31)) (w.heap.size + 1) 31 #[.string p.branch, .int .i64 p.part]) := Lib.hid (Blk.new_ (by simp))
  have h24 : ¬ ((24 : Int) < (n : Int)) := by omega
  have HE : Hid (covE x l p = if cpR x p ≠ 0 then cpR x p else covCk x l) := Lib.hid rfl
  have hmk : ∀ w : World, (Instr.makeSlice 61 (.int .i64 (n : Int)) (.int .i64 (n : Int))).run Try.prog w = .ok (.slice (some ⟨w.heap.size, 0, none⟩) n n) (w.alloc (.cells (madeCells #[.int .i64 0] n) 3)) :=
    fun w => run_make_row' (P := Try.prog) 61 3 (.int .i64 0) 8 Try.underlying61 info_int rfl .i64 .i64 n (by omega) (by omega) w
  obtain ⟨i0, hi0, hz0, hz1, hz2⟩ := info_parts info_int
  have HLEN := Lib.hid hL.len
  clear hB0 hR hL
  go_enter Try.func24, Try.ntmps24
  go_wp2_with fail
  refine (checkPlace_any h x p _ (HR.out.up HB0.out)).mono ?_
  rintro e w1 ⟨rfl, k1⟩
  have HB1 := Lib.hid (HB0.out.trans (k1.mono HB0.out.size))
  have HQ11 := Lib.hid (HQ1.out.below k1 HQ1.out.lt)
  have HQ31 := Lib.hid (HQ3.out.below k1 HQ3.out.lt)
  clear k1
  by_cases h0 : cpR x p = 0
  · have h0b : (cpR x p != 0) = false := by simpa using h0
    have HF : Hid (covE x l p = covCk x l) := Lib.hid (by rw [HE.out, if_neg (by rw [h0]; simp)])
    clear h0
    go_wp2_with fail
    go_loopw [29] (fun i wr => ∃ k : Nat, k ≤ n ∧ i = .int .i64 k ∧ Below w.heap.size w wr ∧ Blk wr w.heap.size 29 h.cells ∧ Blk wr (w.heap.size + 1) 31 #[.string p.branch, .int .i64 p.part] ∧ covCk x l = covCk x (l.drop k)) (fun i _ => n - (intOf i).toNat)
    case atStart => exact ⟨0, by omega, rfl, HB1.out, HQ11.out, HQ31.out, rfl⟩
    case round =>
      obtain ⟨k, hk, rfl, hb, q1, q3, hck⟩ := hrel
      have HB := Lib.hid hb
      have HQ1r := Lib.hid q1
      have HQ3r := Lib.hid q3
      have HCK := Lib.hid hck
      have hrd := HL.out.up hb
      have HRr := Lib.hid (HR.out.up hb)
      by_cases hlt : k < n
      · obtain ⟨z, hz⟩ : ∃ z, l[k]? = some z := ⟨_, List.getElem?_eq_getElem (by have := HLEN.out; omega)⟩
        obtain ⟨b, off, rfl, hblt⟩ := hrd.form (by omega)
        obtain ⟨c0, c1, c2⟩ := hrd.at_ hz
        obtain ⟨y0, y1, y2, y3, y4, y5, nf, nlt⟩ := net_box q1
        have HZ := Lib.hid (hrd.zs z (List.mem_of_getElem? hz))
        have HD := Lib.hid (drop_cons hz)
        have hW := (Below.refl wr.heap.size wr).alloc (Nat.le_refl _) (.cells #[.string z.r.node, .string z.r.branch, .slice z.A z.n z.c] 57)
        have HW := Lib.hid hW
        clear hz hrd hb q1 q3 hck hW
        go_wp2_with fail
        refine (zcheck_any h x z.r z.A z.n z.c _ (HRr.out.up HW.out) ((HZ.out.1.below HW.out (Nat.le_refl _)).more HW.out.size) HZ.out.2).mono ?_
        rintro e w2 ⟨rfl, k2⟩
        have k3 := HW.out.trans (k2.mono HW.out.size)
        have HB3 := Lib.hid (HB.out.trans (k3.mono HB.out.size))
        have HQ13 := Lib.hid (HQ1r.out.below k3 HQ1r.out.lt)
        have HQ33 := Lib.hid (HQ3r.out.below k3 HQ3r.out.lt)
        clear k2 k3
        by_cases h1 : zckR x z.r = 0
        · have h1b : (zckR x z.r != 0) = false := by simpa using h1
          have HX : Hid (covCk x (l.drop k) = covCk x (l.drop (k + 1))) := Lib.hid (by rw [HD.out]; simp only [covCk]; rw [if_neg (by rw [h1]; simp)])
          clear h1
          go_wp2_with fail
          go_roundw
          case rel => exact ⟨k + 1, by omega, by go_num, HB3.out, HQ13.out, HQ33.out, by rw [HCK.out, HX.out]⟩
          case measure => simp [intOf]; omega
        · have h1b : (zckR x z.r != 0) = true := by simpa using h1
          have HX : Hid (covE x l p = zckR x z.r) := Lib.hid (by rw [HF.out, HCK.out, HD.out]; simp only [covCk]; rw [if_pos h1])
          have HN := Lib.hid h1
          clear h1
          go_wp2_with fail
          go_ret2
          exact ⟨HB3.out, .inl ⟨by rw [HX.out]; exact HN.out, by rw [HX.out]; rfl⟩⟩
      · have hkn : k = n := by omega
        have hd : l.drop k = [] := by rw [List.drop_eq_nil_iff]; have := HLEN.out; omega
        have HOK : Hid (covE x l p = 0) := Lib.hid (by rw [HF.out, hck, hd]; rfl)
        clear hd hrd hb q1 q3 hck
        obtain ⟨w5, hw5⟩ : ∃ w5, w5 = wr := ⟨_, rfl⟩
        subst hw5
        go_wp2_with fail
        have hs0 : CvS w (w5.heap.size + 1 + 1) w5.heap.size (w5.heap.size + 1) h p n ((w5.alloc (.cells (madeCells #[.int .i64 0] n) 3)).alloc (.cells #[.slice (some ⟨w5.heap.size, 0, none⟩) n n] 61)) (List.replicate n 0) (.slice none 0 0) [] := by
          have e1 := HB.out.size
          have e2 := HQ3r.out.lt
          refine ⟨(HB.out.alloc e1 _).alloc (by simp; omega) _, (HQ1r.out.alloc _).alloc _, (HQ3r.out.alloc _).alloc _, Blk.new_ (by simp), ?_, ⟨rfl, .inl ⟨rfl, rfl⟩⟩, e2, by omega, by omega, by omega, by omega, by simp⟩
          rw [made_ints]
          exact (Blk.new _ _ _).alloc _
        have HS0 := Lib.hid hs0
        clear hs0
        go_loopw [45, 12] (fun i v wr => ∃ (k : Nat) (cur : List Int), k ≤ n ∧ i = .int .i64 k ∧ CvS w (w5.heap.size + 1 + 1) w5.heap.size (w5.heap.size + 1) h p n wr cur v (outsTo x l p k) ∧ cur.length = n ∧ ∀ j, cur.getD j 0 = if j < k then tmV x l p j else 0) (fun i _ _ => n - (intOf i).toNat)
        case atStart => exact ⟨0, List.replicate n 0, by omega, rfl, HS0.out, by simp, fun j => by rw [if_neg (by omega), List.getD_eq_getElem?_getD, List.getElem?_replicate]; split <;> rfl⟩
        case round =>
          clear HB HQ1r HQ3r HRr HCK hlt HS0 hkn HB1 HQ11 HQ31 h0b
          clear hk
          obtain ⟨k, cur, hk, rfl, hs, hcl, hcv⟩ := hrel
          have HS := Lib.hid hs
          have HCV := Lib.hid hcv
          have hrd := HL.out.up hs.low
          have HRr := Lib.hid (HR.out.up hs.low)
          by_cases hlt : k < n
          · obtain ⟨z, hz⟩ : ∃ z, l[k]? = some z := ⟨_, List.getElem?_eq_getElem (by have := HLEN.out; omega)⟩
            obtain ⟨b, off, rfl, hblt⟩ := hrd.form (by omega)
            obtain ⟨c0, c1, c2⟩ := hrd.at_ hz
            obtain ⟨y0, y1, y2, y3, y4, y5, nf, nlt⟩ := net_box hs.q1
            obtain ⟨v0, v1, vf, vlt⟩ := check_box hs.q3
            have HZ := Lib.hid (hrd.zs z (List.mem_of_getElem? hz))
            have hW := (Below.refl wr.heap.size wr).alloc (Nat.le_refl _) (.cells #[.string z.r.node, .string z.r.branch, .slice z.A z.n z.c] 57)
            have HW := Lib.hid hW
            have HT : Hid (tmAt x l p k = timR x z.r p) := Lib.hid (by unfold tmAt; rw [hz])
            have hkI : (k : Int) < (n : Int) := by omega
            clear hz hrd hs hcv hW
            go_wp2_with fail
            refine (ztim_any h x z.r p z.A z.n z.c _ (HRr.out.up HW.out) ((HZ.out.1.below HW.out (Nat.le_refl _)).more HW.out.size) HZ.out.2).mono ?_
            generalize timR x z.r p = tt at *
            obtain ⟨tv, te⟩ := tt
            rintro e w2 ⟨rfl, k2⟩
            have k3 := HW.out.trans (k2.mono HW.out.size)
            have HS3 := Lib.hid (HS.out.up k3)
            clear k2 k3 y0 y1 y2 y3 y4 y5 nf nlt v0 v1 vf vlt c0 c1 c2
            by_cases h1 : te = 0
            · subst h1
              have hb0 := HS3.out.qb.cell 0
              have hblt := HS3.out.qb.lt
              have hg0 : w2.cell? ⟨w5.heap.size, k, none⟩ = some (.int .i64 (cur.getD k 0)) := by
                rw [HS3.out.qg.cell k]
                simp [ints, List.getD_eq_getElem?_getD, List.getElem?_eq_getElem (show k < cur.length by omega)]
              have hgf := HS3.out.qg.frozen
              have hglt := HS3.out.qg.lt
              have HS4 := Lib.hid (HS3.out.put k tv)
              have hol := outsTo_len x l p k
              have hsz : (w2.setCell ⟨w5.heap.size, k, none⟩ (.int .i64 tv)).heap.size = w2.heap.size := by simp
              have hc1 : ∀ (j : Nat) (u : Value), [Value.int .i64 (k : Int)][j]? = some u → ((w2.setCell ⟨w5.heap.size, k, none⟩ (.int .i64 tv)).alloc (.cells #[.int .i64 (k : Int)] 3)).cell? ((⟨w2.heap.size, 0, none⟩ : Addr).add j) = some u := by
                rw [← hsz]; exact cell_one_new _ _ _
              have HC1 := Lib.hid hc1
              have ho6 := HS4.out.o6
              clear hsz hc1
              go_wp2_with (at_builtin; refine wpList_append_own_at _ rfl (.tmp 63) (.tmp 65) _ rfl (w5.heap.size + 1 + 1) 3 i0 _ 1 8 Try.underlying61 hi0 hz0 hz1 hz2 rfl (by omega) u12 (outsTo x l p k).length (ints (outsTo x l p k)) rfl (HS4.out.own.alloc _) ⟨_, 0, none⟩ 1 1 [.int .i64 (k : Int)] rfl rfl HC1.out ?k1 ?k2 ?k3 ?k4 ?_)
              case k2 => simp only [maxLen]; omega
              case k3 => omega
              case k1 => simp [Value.oneCell']
              case k4 => simp; omega
              intro v' w6 hown6 hgrow6 hnil6 hat6
              obtain ⟨g', cap', hv', _, _⟩ := World.ownsRow.form hown6 (by omega)
              subst hv'
              have k6 : Below (w5.heap.size + 1 + 1) (w2.setCell ⟨w5.heap.size, k, none⟩ (.int .i64 tv)) w6 := ((Below.refl _ _).alloc ho6 (.cells #[.int .i64 (k : Int)] 3)).grown hgrow6 (by simp at ho6 ⊢; omega) (fun kk hk => (HS4.out.own.lt kk hk).1)
              have hO : outsTo x l p (k + 1) = outsTo x l p k ++ [(k : Int)] := by
                show outsTo x l p k ++ (if (tmAt x l p k).2 = 0 then [(k : Int)] else []) = _
                rw [HT.out]; rfl
              have hown7 : w6.ownsRow (w5.heap.size + 1 + 1) 3 1 (.slice (some ⟨g', 0, none⟩) ((outsTo x l p k).length + 1) cap') (outsTo x l p (k + 1)).length (ints (outsTo x l p (k + 1))) := by rw [hO]; simpa [ints] using hown6
              have HS6 := Lib.hid (HS4.out.app k6 hown7)
              clear k6 hO hown7 hown6 hgrow6 hnil6 hat6 hb0 hg0 hgf
              go_wp2_with fail
              go_roundw
              case rel =>
                refine ⟨k + 1, cur.set k tv, by omega, by go_num, HS6.out, by simp [hcl], fun j => ?_⟩
                rw [getD_set _ _ _ _ (by omega)]
                by_cases hj : k = j
                · subst hj
                  rw [if_pos rfl, if_pos (by omega)]
                  unfold tmV; rw [HT.out]; rfl
                · rw [if_neg hj, HCV.out j]
                  by_cases hj2 : j < k
                  · rw [if_pos hj2, if_pos (by omega)]
                  · rw [if_neg hj2, if_neg (by omega)]
              case measure => simp [intOf]; omega
            · have h1b : (te == 0) = false := by simpa using h1
              have hO : outsTo x l p (k + 1) = outsTo x l p k := by
                show outsTo x l p k ++ (if (tmAt x l p k).2 = 0 then [(k : Int)] else []) = _
                rw [HT.out, if_neg h1]; simp
              have hV : tmV x l p k = 0 := by unfold tmV; rw [HT.out, if_neg h1]
              have HO := Lib.hid hO
              have HV := Lib.hid hV
              clear h1 hO hV
              go_wp2_with fail
              go_roundw
              case rel =>
                refine ⟨k + 1, cur, by omega, by go_num, by rw [HO.out]; exact HS3.out, hcl, fun j => ?_⟩
                rw [HCV.out j]
                by_cases hj : j = k
                · subst hj; rw [if_neg (by omega), if_pos (by omega), HV.out]
                · by_cases hj2 : j < k
                  · rw [if_pos hj2, if_pos (by omega)]
                  · rw [if_neg hj2, if_neg (by omega)]
              case measure => simp [intOf]; omega
          · have hkn : k = n := by omega
            subst hkn
            have hlow := hs.low
            have htm : TmS wr (w5.heap.size + 1) w5.heap.size k cur := ⟨hs.qb.cell 0, fun j hj => by
              rw [hs.qg.cell j]
              simp [ints, List.getD_eq_getElem?_getD, List.getElem?_eq_getElem (show j < cur.length by omega)], hs.qg.lt⟩
            have HTM := Lib.hid htm
            have hown := hs.own
            have hol := outsTo_len x l p k
            have hor := hs.o3
            have ho4 := hs.o4
            have ho5 := hs.o5
            have ho1 := hs.o1
            clear hs hcv hrd htm
            rcases hown.2 with ⟨hv, hn0⟩ | ⟨g', cap', cl, hv, hbg, hheap, hc1, hc2, hc3, hc4⟩
            · subst hv
              go_wp2_with fail
              refine (sortS0_any (some ⟨w5.heap.size + 1, 0, none⟩) none 0 _).mono ?_
              rintro e w8 ⟨rfl, rfl⟩
              go_wp2_with fail
              go_ret2
              refine ⟨hlow, .inr ⟨HOK.out, none, 0, 0, [], rfl, rdI_nil _ _ _, ?_, fun a b h1 h2 => by omega⟩⟩
              rw [HLEN.out, List.length_eq_zero_iff.1 hn0]
            · subst hv
              have hblk : Blk wr g' 3 (ints (outsTo x l p k) ++ cl.toList.drop (outsTo x l p k).length).toArray := by
                rw [← hc4, Nat.mul_one, List.take_append_drop]; exact hheap
              have hso : SoS (w5.heap.size + 1 + 1) g' 3 (outsTo x l p k) (cl.toList.drop (outsTo x l p k).length) (fun w' => TmS w' (w5.heap.size + 1) w5.heap.size k cur) wr wr (outsTo x l p k) := ⟨List.Perm.refl _, hblk, HTM.out, Below.refl _ _⟩
              have HSO := Lib.hid hso
              have HLOW := Lib.hid hlow
              have HCV2 := HCV
              clear hblk hso hlow hown hheap hc4
              go_wp2_with fail
              refine (sortS_any (some ⟨w5.heap.size + 1, 0, none⟩) (fun y => tmV x l p y.toNat) (w5.heap.size + 1 + 1) g' cap' (outsTo x l p k).length 3 (outsTo x l p k) (cl.toList.drop (outsTo x l p k).length) (fun w' => TmS w' (w5.heap.size + 1) w5.heap.size k cur)
                (fun w' j hh => ⟨hh.hd, hh.cell, hh.lt⟩) (fun w' i v hh => ⟨(World.cell?_setCell_other _ _ _ _ (fun e => by injection e; omega)).trans hh.hd, fun j hj => (World.cell?_setCell_other _ _ _ _ (fun e => by injection e; omega)).trans (hh.cell j hj), by simpa using hh.lt⟩)
                (fun w' hh y hy z hz => ?_) (by omega) rfl hbg _ HSO.out).mono ?_
              · obtain ⟨i, rfl, hi, _⟩ := (outsTo_mem x l p k y).1 hy
                obtain ⟨j, rfl, hj, _⟩ := (outsTo_mem x l p k z).1 hz
                refine (covCmp_any (w5.heap.size + 1) w5.heap.size k cur i j w' hh ⟨by omega, by omega⟩ ⟨by omega, by omega⟩).mono fun e w'' ⟨he, hw⟩ => ⟨?_, hw⟩
                rw [he]
                simp only [sgnK, tkey, Int.toNat_natCast, HCV2.out, if_pos hi, if_pos hj]
              · rintro e w8 ⟨rfl, L, hs8, hsrt⟩
                have HS8 := Lib.hid hs8
                have HSR := Lib.hid hsrt
                clear hs8 hsrt
                go_wp2_with fail
                go_ret2
                refine ⟨HLOW.out.trans (HS8.out.low.mono (by have := HLOW.out.size; omega)), .inr ⟨HOK.out, some ⟨g', 0, none⟩, (outsTo x l p k).length, cap', L, rfl, ⟨by have := HS8.out.len; simp [ints, this], fun h0 => ⟨g', 0, rfl, HS8.out.blk.lt, fun j u hu => ?_⟩⟩, by rw [HLEN.out]; exact HS8.out.perm, HSR.out⟩⟩
                have hj : j < L.length := by
                  have := (List.getElem?_eq_some_iff.1 hu).1
                  simpa [ints] using this
                rw [show (⟨g', 0 + j, none⟩ : Addr) = ⟨g', j, none⟩ from by simp, HS8.out.cell hj, ← hu]
                simp [ints, List.getD_eq_getElem?_getD, List.getElem?_eq_getElem hj]
  · have h0b : (cpR x p != 0) = true := by simpa using h0
    have HF : Hid (covE x l p = cpR x p) := Lib.hid (by rw [HE.out, if_pos h0])
    have HN := Lib.hid h0
    clear h0
    go_wp2_with fail
    go_ret2
    exact ⟨HB1.out, .inl ⟨by rw [HF.out]; exact HN.out, by rw [HF.out]; rfl⟩⟩
end Go.Proofs.Ythedpegaelpbdaa
