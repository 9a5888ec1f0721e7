/- Parts of the proof, put together into one file. -/
import Derived.Test.YtakllkkmofdpaaaGreatDoorK02
import Derived.Test.YtakllkkmofdpaaaGreatDoorK15
import Derived.Test.YtakllkkmofdpaaaGreatDoorK17
/- What enters a part. -/
namespace Go.Proofs.YtakllkkmofdpaaaGreatDoor
open Go.ChangeShapes Go.WideShapes Go.ChangeAt Go.RowKit
set_option linter.unusedVariables false
set_option linter.unusedSimpArgs false
attribute [local go_sem ↓] execOp_call_val
attribute [local go_sem] callVal_func setCell_drewN alloc_drewN sEq_walk NetH.cells

theorem crGo_mem {part : List ByteArray} : ∀ (l : List Br) (k : Nat) (i : Int), i ∈ crGo part l k → ∃ j : Nat, i = ((k + j : Nat) : Int) ∧ j < l.length
  | [], _, _, h => by simp [crGo] at h
  | b :: r, k, i, h => by
    unfold crGo at h
    have key : i ∈ crGo part r (k + 1) → ∃ j : Nat, i = ((k + j : Nat) : Int) ∧ j < (b :: r).length := fun h => by
      obtain ⟨j, h1, h2⟩ := crGo_mem r (k + 1) i h
      exact ⟨j + 1, by rw [h1]; congr 1; omega, by simp; omega⟩
    split at h
    · rcases List.mem_cons.1 h with h | h
      · exact ⟨0, by rw [h]; rfl, by simp⟩
      · exact key h
    · exact key h
theorem bdR_mem {x : Net} {part : List ByteArray} {i : Int} (h : i ∈ bdR x part) : ∃ j : Nat, i = (j : Int) ∧ j < x.brs.length := by
  unfold bdR at h
  split at h
  · obtain ⟨j, h1, h2⟩ := crGo_mem _ _ _ h
    exact ⟨j, by rw [h1, Nat.zero_add], h2⟩
  · simp at h
/-- what enters by a branch -/
def enF (x : Net) (part fl : List ByteArray) (i : Int) : Rat := match fl[i.toNat]?, x.brs[i.toNat]? with
  | some s, some b => if ct part b.to then qOf s else -(qOf s)
  | _, _ => 0
def enE (x : Net) (part fl : List ByteArray) : Int := if bdE x part = 0 then (if fl.length = x.brs.length then ckAllR fl else 3) else bdE x part
def enR (x : Net) (part fl : List ByteArray) : List Rat := if enE x part fl = 0 then (bdR x part).map (enF x part fl) else []
/-- what entering hands back -/
def EnP (qs : List Rat) (z : Int) (w : World) (e : Ending) (w' : World) : Prop := Below w.heap.size w w' ∧ ∃ A n c, e = .returned (.tuple #[.slice A n c, .int .i64 z]) ∧ RdQ w' w'.heap.size A n qs ∧ n ≤ c ∧ c ≤ maxLen
theorem enP_none {z : Int} {w w' : World} {e : Ending} (hb : Below w.heap.size w w') (he : e = .returned (.tuple #[.slice none 0 0, .int .i64 z])) : EnP [] z w e w' := ⟨hb, none, 0, 0, he, rdQ_nil _ _ _, Nat.le_refl _, by simp [maxLen]⟩
theorem bdE_net0 {x : Net} {part : List ByteArray} (h : bdE x part = 0) : netCk x = 0 := by
  refine Classical.byContradiction fun hc => ?_
  unfold bdE at h
  rw [if_neg hc] at h
  exact hc h
theorem ckAllR_big {l : List ByteArray} : True := trivial
set_option maxRecDepth 100000 in
set_option maxHeartbeats 4000000 in
theorem entering0_any (h : NetH) (x : Net) (A : Option Addr) (n c : Nat) (part : List ByteArray) (F : Option Addr) (f fc : Nat) (fl : List ByteArray) (w : World) (r : RdNet w w.heap.size h x) (hp : RdStr w w.heap.size A n part) (hf : RdStr w w.heap.size F f fl) (hfs : ∀ s ∈ fl, s.size ≤ maxLen) (hn : n ≤ 9223372036854775807) (hnc : n ≤ c) (hc : c ≤ 9223372036854775807) (hfn : f ≤ 9223372036854775807) (ht : TabOk w) :
    Calls Tryz.prog 55 #[.agg h.cells, .slice A n c, .slice F f fc] w (EnP (enR x part fl) (enE x part fl) w) := by
  have K0 : Below w.heap.size w (w.alloc (.cells h.cells 33)) := (Below.refl _ _).alloc (Nat.le_refl _) _
  have HK := Lib.hid K0
  have HR := Lib.hid r
  have HP := Lib.hid hp
  have HPL := Lib.hid hp.1
  have HF := Lib.hid hf
  have HFL := Lib.hid hf.1
  have HFS := Lib.hid hfs
  have HT := Lib.hid ht
  have HX := Lib.hid (Blk.new w 33 h.cells)
  have HRW := Lib.hid r
  have HC := Lib.hid (boundary_any h x A n c part _ (r.up K0) ((hp.below K0 (Nat.le_refl _)).more K0.size) hn hnc hc)
  have HLB : Hid (x.brs.length = h.n2) := Lib.hid r.r2.1
  have bm2 := r.m2
  obtain ⟨i0, hi0, hz0, hz1, hz2⟩ := rat_parts
  have HI0 := Lib.hid hi0
  have HI1 := Lib.hid hz0
  have HI2 := Lib.hid hz1
  have HI3 := Lib.hid hz2
  clear K0 r hp hf hfs ht hi0 hz0 hz1 hz2
  obtain ⟨A0, m0, c0, A1, m1, c1, A2, m2, c2, A3, m3, c3, A4, m4, c4, A5, m5, c5⟩ := h
  simp only [NetH.cells] at HK HX HC HLB bm2 ⊢
  go_enter Tryz.func55, Tryz.ntmps55
  go_upto_region 1 with fail
  generalize w.alloc (.cells #[.slice A0 m0 c0, .slice A1 m1 c1, .slice A2 m2 c2, .slice A3 m3 c3, .slice A4 m4 c4, .slice A5 m5 c5] 33) = W at *
  have hgl := HX.out.lt
  have y0 := HX.out.cell 0
  have y1 := HX.out.cell 1
  have y2 := HX.out.cell 2
  have y3 := HX.out.cell 3
  have y4 := HX.out.cell 4
  have y5 := HX.out.cell 5
  go_wp2_with fail
  refine HC.out.mono ?_
  clear y0 y1 y2 y3 y4 y5 hgl HC
  rintro e w1 ⟨hb1, L, ln, lc, rfl, hl, hlc, hlm⟩
  have HB1 := Lib.hid (HK.out.trans (hb1.mono HK.out.size))
  have HX1 := Lib.hid (HX.out.below hb1 HX.out.lt)
  have HL := Lib.hid hl
  have HLL := Lib.hid hl.len
  clear hb1 HK HX hl
  by_cases h0 : bdE x part = 0
  · have H0 := Lib.hid h0
    rw [h0]
    clear h0
    have y2 := HX1.out.cell 2
    have yl := HX1.out.lt
    by_cases h1 : f = m2
    · subst h1
      have HE0 : Hid (enE x part fl = ckAllR fl) := Lib.hid (by unfold enE; rw [if_pos H0.out, if_pos (by rw [HFL.out, HLB.out])])
      have HCK := Lib.hid (ckall_any F f fc fl w1 ((HF.out.below HB1.out (Nat.le_refl _)).more HB1.out.size) HFS.out hfn (HT.out.up HB1.out))
      go_wp2_with fail
      clear y2 yl
      refine HCK.out.mono ?_
      clear HCK
      rintro e w2 ⟨he, hb2⟩
      have HB2 := Lib.hid (HB1.out.trans (hb2.mono HB1.out.size))
      have HX2 := Lib.hid (HX1.out.below hb2 HX1.out.lt)
      have HL2 : Hid (RdI w2 w2.heap.size L ln (bdR x part)) := Lib.hid ((HL.out.below hb2 (Nat.le_refl _)).more hb2.size)
      clear hb2 HB1 HX1 HL
      by_cases h2 : ckAllR fl = 0
      · have HV := Lib.hid (ckAllR_ok.1 h2)
        have HE1 : Hid (enE x part fl = 0) := Lib.hid (by rw [HE0.out, h2])
        rw [h2] at he
        subst he
        clear h2
        go_wp2_with fail
        generalize hg0 : w2.heap.size = g0 at *
        have HG0 := Lib.hid hg0
        clear hg0
        go_loopw [11, 37] (fun v11 v37 wr => ∃ (k : Nat) (vs : List Rv), k ≤ ln ∧ v37 = .int .i64 k ∧ OwnQ wr g0 v11 vs (((bdR x part).take k).map (enF x part fl)) ∧ Below g0 w2 wr) (fun _ v37 _ => ln - (intOf v37).toNat)
        case atStart => exact ⟨0, [], by omega, rfl, by rw [List.take_zero]; exact ownQ_none _ _, Below.refl _ _⟩
        case round =>
          obtain ⟨k, vs, hk, rfl, ho, hb⟩ := hrel
          have HO := Lib.hid ho
          have HOL : Hid (vs.length = k) := Lib.hid (by have := ho.len; rw [List.length_map, List.length_take, HLL.out] at this; omega)
          have HB := Lib.hid hb
          have HBW := Lib.hid (HB2.out.trans (hb.mono (by rw [← HG0.out]; exact HB2.out.size)))
          clear ho hb
          by_cases hlt : k < ln
          · obtain ⟨i, hi⟩ : ∃ i, (bdR x part)[k]? = some i := ⟨_, List.getElem?_eq_getElem (by have := HLL.out; omega)⟩
            obtain ⟨j, hj, hjl⟩ := bdR_mem (List.mem_of_getElem? hi)
            subst hj
            have hjf : j < f := by rw [← HLB.out]; exact hjl
            obtain ⟨s, hs⟩ : ∃ s, fl[j]? = some s := ⟨_, List.getElem?_eq_getElem (by have := HFL.out; omega)⟩
            obtain ⟨bb, hbb⟩ : ∃ bb, x.brs[j]? = some bb := ⟨_, List.getElem?_eq_getElem hjl⟩
            have HEF : Hid (enF x part fl (j : Int) = if ct part bb.to then qOf s else -(qOf s)) := Lib.hid (by unfold enF; rw [Int.toNat_natCast, hs, hbb])
            have HTK : Hid (((bdR x part).take (k + 1)).map (enF x part fl) = ((bdR x part).take k).map (enF x part fl) ++ [enF x part fl (j : Int)]) := Lib.hid (by rw [take_snoc hi, List.map_append]; rfl)
            obtain ⟨lb, lo, hA, hlb, -⟩ := HL2.out.2 (by omega)
            subst hA
            have hci := (HL2.out.below HB.out (Nat.le_refl _)).at_ hi
            have hlbl : lb < wr.heap.size := by have := HB.out.size; have := HG0.out; omega
            obtain ⟨fb, fo, hA, hfb⟩ := HF.out.form (by omega)
            subst hA
            have hcf := (HF.out.below HBW.out (Nat.le_refl _)).at_ hs
            have hfbl : fb < wr.heap.size := Nat.lt_of_lt_of_le hfb HBW.out.size
            have HBB := Lib.hid hbb
            have HSV := Lib.hid (HV.out s (List.mem_of_getElem? hs))
            have hkI : (k : Int) < (ln : Int) := by omega
            have hjI : (j : Int) < (f : Int) := by omega
            have hj0 : (0 : Int) ≤ (j : Int) := by omega
            have hjn : (j : Int).toNat = j := Int.toNat_natCast j
            have HN1 : Hid ((k : Int) + 1 = ((k + 1 : Nat) : Int)) := Lib.hid (by omega)
            have HN2 : Hid (ln - (k + 1) < ln - k) := Lib.hid (by omega)
            clear hi hs hbb hjl hlb hfb
            go_wp2_with fail
            refine (parseV HSV.out wr).mono ?_
            rintro e w3 ⟨hb3, v3, rfl, h3⟩
            have HGW : Hid (g0 ≤ wr.heap.size) := Lib.hid (by have := HB.out.size; have := HG0.out; omega)
            have HB3 := Lib.hid (HB.out.trans (hb3.mono HGW.out))
            have HO3 := Lib.hid (HO.out.keep hb3)
            have H3 := Lib.hid h3
            have HGW3 : Hid (g0 ≤ w3.heap.size) := Lib.hid (Nat.le_trans HGW.out hb3.size)
            clear hb3 h3 hci hcf HO HB HBW HGW hlbl hfbl
            go_upto_region 14 with fail
            have hb4 : Below w3.heap.size w3 (w3.alloc (.cells #[.bool v3.b1, .slice v3.A v3.n v3.c, .bool v3.b2, .slice v3.A2 v3.m v3.d] 93)) := (Below.refl _ _).alloc (Nat.le_refl _) _
            have HZ : Hid (Blk (w3.alloc (.cells #[.bool v3.b1, .slice v3.A v3.n v3.c, .bool v3.b2, .slice v3.A2 v3.m v3.d] 93)) w3.heap.size 93 #[.bool v3.b1, .slice v3.A v3.n v3.c, .bool v3.b2, .slice v3.A2 v3.m v3.d]) := Lib.hid (Blk.new w3 _ _)
            have HB4 := Lib.hid (HB3.out.trans (hb4.mono HGW3.out))
            have HB34 := Lib.hid hb4
            have H4 := Lib.hid (H3.out.up hb4)
            have HGW4 : Hid (g0 ≤ (w3.alloc (.cells #[.bool v3.b1, .slice v3.A v3.n v3.c, .bool v3.b2, .slice v3.A2 v3.m v3.d] 93)).heap.size) := Lib.hid (Nat.le_trans HGW3.out hb4.size)
            clear hb4 HB3 H3
            generalize w3.alloc (.cells #[.bool v3.b1, .slice v3.A v3.n v3.c, .bool v3.b2, .slice v3.A2 v3.m v3.d] 93) = w4 at *
            have HGB : Hid (g0 ≤ w3.heap.size) := HGW3
            generalize hgb : w3.heap.size = gb at *
            have HGE := Lib.hid hgb
            clear hgb
            have HBW4 : Hid (Below w.heap.size w w4) := Lib.hid (HB2.out.trans (HB4.out.mono (by rw [← HG0.out]; exact HB2.out.size)))
            have HX4 := Lib.hid (HX2.out.below HB4.out (by rw [← HG0.out]; exact HX2.out.lt))
            have HN4 := Lib.hid (HRW.out.below HBW4.out (Nat.le_refl _))
            obtain ⟨nb, no, hA, hnb⟩ := HN4.out.r2.form (show 0 < f by omega)
            simp only at hA
            subst hA
            obtain ⟨a0, a1, a2, a3, a4, a5, a6, a7, a8⟩ := HN4.out.r2.at_ HBB.out
            obtain ⟨nm, fr, tn, b1, b2, b3, b4, b5, b6⟩ := bb
            simp only at a2 HEF
            have HRP := Lib.hid ((HP.out.below HBW4.out (Nat.le_refl _)).more HBW4.out.size)
            obtain ⟨cb, hcb⟩ : ∃ cb, ct part tn = cb := ⟨_, rfl⟩
            have HLN : Hid (ln ≤ 1000000) := Lib.hid (by
              have := HLL.out
              rw [← this]
              unfold bdR
              rw [if_pos H0.out]
              have := crGo_len part x.brs 0
              have := (netCk_ok (bdE_net0 H0.out)).l2
              omega)
            have hln9 : ln ≤ 1000000 := HLN.out
            have y2 := HX4.out.cell 2
            have yl := HX4.out.lt
            have hnl : nb < w4.heap.size := Nat.lt_of_lt_of_le hnb HBW4.out.size
            clear a0 a1 a3 a4 a5 a6 a7 a8 hnb
            go_wp2_with fail
            refine (contains_str A n c part tn w4 HRP.out hn).mono ?_
            rintro e w5 ⟨he, hw⟩
            subst hw
            have he2 : e = .returned (.bool cb) := by rw [he, ← hcb]; rfl
            subst he2
            rw [hcb] at HEF
            clear he hcb y2 yl hnl a2
            cases cb with
            | true =>
              have HQ7 : Hid (enF x part fl (j : Int) = qOf s) := Lib.hid (by rw [HEF.out]; rfl)
              have HBG : Hid (Below gb w3 w4) := Lib.hid (by have h := HB34.out; exact h)
              have HB3Z := HB4
              have HZ7 := HZ
              clear HEF
              have HOW := Lib.hid (HO3.out.keep (by rw [HGE.out]; exact HBG.out))
              have HBZ := Lib.hid (HB3Z.out)
              have HG7 : Hid (g0 ≤ w4.heap.size) := Lib.hid (Nat.le_trans HGB.out (by have := HBG.out.size; have := HGE.out; omega))
              have z0 := HZ7.out.cell 0
              have z1 := HZ7.out.cell 1
              have z2 := HZ7.out.cell 2
              have z3 := HZ7.out.cell 3
              have zl := HZ7.out.lt
              go_wp2_with (at_builtin; refine wpList_appQ rfl (.tmp 57) (.tmp 59) _ rfl g0 Tryz.underlying103 u11 vs _ rfl HOW.out v3 _ H4.out rfl ?k1 HG7.out ?_)
              case k1 => rw [List.length_map, List.length_take]; have := HLN.out; omega
              intro v' w8 hown hkeep hb8
              have HO8 := Lib.hid hown
              have HB8 := Lib.hid (HBZ.out.trans hb8)
              clear hown hkeep hb8 z0 z1 z2 z3 zl
              go_wp2_with fail
              go_roundw
              case rel => exact ⟨k + 1, vs ++ [v3], hlt, val_int HN1.out, by rw [HTK.out, HQ7.out]; have h := HO8.out; rw [← List.map_take] at h; exact h, HB8.out⟩
              case measure => exact HN2.out
            | false =>
              have HQ7 : Hid (enF x part fl (j : Int) = -(qOf s)) := Lib.hid (by rw [HEF.out]; rfl)
              have z0 := HZ.out.cell 0
              have z1 := HZ.out.cell 1
              have z2 := HZ.out.cell 2
              have z3 := HZ.out.cell 3
              have zl := HZ.out.lt
              clear HEF
              go_wp2_with fail
              refine (negV H4.out).mono ?_
              rintro e w6 ⟨hb6, v6, rfl, h6⟩
              clear z0 z1 z2 z3 zl
              have HBG6 : Hid (Below gb w3 w6) := Lib.hid (by have h := HB34.out; exact h.trans (hb6.mono (Nat.le_of_lt HZ.out.lt)))
              have HB36 := Lib.hid (HB4.out.trans (hb6.mono HGW4.out))
              have HZ6 := Lib.hid (HZ.out.below hb6 HZ.out.lt)
              have H6 := Lib.hid h6
              clear hb6 h6 H4 HZ HB4 HN4 HX4 HBW4 HGW4
              have p0 := HZ6.out.cell 0
              have p1 := HZ6.out.cell 1
              have p2 := HZ6.out.cell 2
              have p3 := HZ6.out.cell 3
              have pl := HZ6.out.lt
              have pf := HZ6.out.frozen
              go_upto_region 16 with fail
              have HBG : Hid (Below gb w3 (putQ w6 gb v6)) := Lib.hid (below_putQ HBG6.out (Nat.le_refl _))
              have HB3Z : Hid (Below g0 w2 (putQ w6 gb v6)) := Lib.hid (below_putQ HB36.out HGB.out)
              have HZ7 : Hid (Blk (putQ w6 gb v6) gb 93 #[.bool v6.b1, .slice v6.A v6.n v6.c, .bool v6.b2, .slice v6.A2 v6.m v6.d]) := Lib.hid (qput HZ6.out)
              have H7 : Hid (RtV (putQ w6 gb v6) (putQ w6 gb v6).heap.size (-(qOf s)) v6) := Lib.hid (RtV.keepq H6.out HZ6.out)
              unfold putQ at HBG HB3Z HZ7 H7
              clear p0 p1 p2 p3 pl pf HZ6 H6 HBG6 HB36
              generalize (((w6.setCell ⟨gb, 0, none⟩ _).setCell ⟨gb, 1, none⟩ _).setCell ⟨gb, 2, none⟩ _).setCell ⟨gb, 3, none⟩ _ = w7 at *
              have HOW := Lib.hid (HO3.out.keep (by rw [HGE.out]; exact HBG.out))
              have HBZ := Lib.hid (HB3Z.out)
              have HG7 : Hid (g0 ≤ w7.heap.size) := Lib.hid (Nat.le_trans HGB.out (by have := HBG.out.size; have := HGE.out; omega))
              have z0 := HZ7.out.cell 0
              have z1 := HZ7.out.cell 1
              have z2 := HZ7.out.cell 2
              have z3 := HZ7.out.cell 3
              have zl := HZ7.out.lt
              go_wp2_with (at_builtin; refine wpList_appQ rfl (.tmp 57) (.tmp 59) _ rfl g0 Tryz.underlying103 u11 vs _ rfl HOW.out v6 _ H7.out rfl ?k1 HG7.out ?_)
              case k1 => rw [List.length_map, List.length_take]; have := HLN.out; omega
              intro v' w8 hown hkeep hb8
              have HO8 := Lib.hid hown
              have HB8 := Lib.hid (HBZ.out.trans hb8)
              clear hown hkeep hb8 z0 z1 z2 z3 zl
              go_wp2_with fail
              go_roundw
              case rel => exact ⟨k + 1, vs ++ [v6], hlt, val_int HN1.out, by rw [HTK.out, HQ7.out]; have h := HO8.out; rw [← List.map_take] at h; exact h, HB8.out⟩
              case measure => exact HN2.out
          · have hke : k = ln := by omega
            subst hke
            have hkI : ¬ (k : Int) < (k : Int) := by omega
            have HTK : Hid (((bdR x part).take k).map (enF x part fl) = enR x part fl) := Lib.hid (by
              unfold enR
              rw [if_pos HE1.out, List.take_of_length_le (by rw [HLL.out]; exact Nat.le_refl _)])
            obtain ⟨A9, c9, hv, hrd, h1, h2, -⟩ := HO.out.rd
            subst hv
            have HRD := Lib.hid hrd
            clear hrd
            generalize hqn : (((bdR x part).take k).map (enF x part fl)).length = qn at *
            go_wp2_with fail
            go_ret2
            refine ⟨HBW.out, A9, qn, c9, by rw [HE1.out]; rfl, by rw [← HTK.out]; exact HRD.out, h1, h2⟩
      · have HE1 : Hid (enR x part fl = []) := Lib.hid (by unfold enR; rw [if_neg (by rw [HE0.out]; exact h2)])
        generalize hz : ckAllR fl = z at *
        subst he
        have h0b : (z != 0) = true := by simp [h2]
        clear h2
        go_wp2_with fail
        go_ret2
        rw [HE0.out, HE1.out]
        exact enP_none HB2.out rfl
    · have HE0 : Hid (enE x part fl = 3) := Lib.hid (by unfold enE; rw [if_pos H0.out, if_neg (by rw [HFL.out, HLB.out]; exact h1)])
      have HE1 : Hid (enR x part fl = []) := Lib.hid (by unfold enR; rw [if_neg (by rw [HE0.out]; decide)])
      have h1I : ((f : Int) != (m2 : Int)) = true := by simp; omega
      go_wp2_with fail
      go_ret2
      rw [HE0.out, HE1.out]
      exact enP_none HB1.out rfl
  · have HE0 : Hid (enE x part fl = bdE x part) := Lib.hid (by unfold enE; rw [if_neg h0])
    have HE1 : Hid (enR x part fl = []) := Lib.hid (by unfold enR; rw [if_neg (by rw [HE0.out]; exact h0)])
    generalize bdE x part = z at *
    have h0b : (z != 0) = true := by simp [h0]
    clear h0
    go_wp2_with fail
    go_ret2
    rw [HE0.out, HE1.out]
    exact enP_none HB1.out rfl
end Go.Proofs.YtakllkkmofdpaaaGreatDoor
/- Sums of currents and whether protection operates; plain. -/
namespace Go.Proofs.YtakllkkmofdpaaaGreatDoor
set_option linter.unusedVariables false
set_option linter.unusedSimpArgs false

theorem cmpQ_pos {p q : Rat} : 0 < cmpQ p q ↔ q < p := by
  unfold cmpQ
  rw [Int.sign_pos_iff, ← (cmp_rat q p).1]
  omega
theorem cmpQ_le {p q : Rat} : cmpQ p q ≤ 0 ↔ p ≤ q := by
  rw [← Rat.not_lt, ← cmpQ_pos]
  omega
theorem rat_add_le {a b c d : Rat} (h : a ≤ b) (h2 : c ≤ d) : a + c ≤ b + d := Rat.le_trans (Rat.add_le_add_right.2 h) (Rat.add_le_add_left.2 h2)
theorem num_neg {q : Rat} : q.num < 0 ↔ q < 0 := by rw [← Int.not_le, Rat.num_nonneg, Rat.not_le]
theorem rabs_nonneg (q : Rat) : 0 ≤ rabs q := by
  unfold rabs
  split
  · rename_i h
    have := Rat.neg_le_neg (Rat.le_of_lt (num_neg.1 h))
    rwa [Rat.neg_zero] at this
  · rename_i h; exact Rat.not_lt.1 fun h2 => h (num_neg.2 h2)
theorem rabs_le (q : Rat) : q ≤ rabs q ∧ -q ≤ rabs q := by
  unfold rabs
  split
  · rename_i h
    refine ⟨?_, Rat.le_refl⟩
    have := Rat.neg_le_neg (Rat.le_of_lt (num_neg.1 h))
    rw [Rat.neg_zero] at this
    exact Rat.le_trans (Rat.le_of_lt (num_neg.1 h)) this
  · rename_i h
    refine ⟨Rat.le_refl, ?_⟩
    have h2 := Rat.not_lt.1 fun h2 => h (num_neg.2 h2)
    have := Rat.neg_le_neg h2
    rw [Rat.neg_zero] at this
    exact Rat.le_trans this h2
theorem rabs_zero {q : Rat} : rabs q = 0 ↔ q = 0 := by
  constructor
  · intro h
    obtain ⟨h1, h2⟩ := rabs_le q
    rw [h] at h1 h2
    have := Rat.neg_le_neg h2
    rw [Rat.neg_neg, Rat.neg_zero] at this
    exact Rat.le_antisymm h1 this
  · rintro rfl; rfl
theorem sumR_le : ∀ (n : Nat) (qs : List Rat), qs.length = n → rabs (sumR qs) ≤ sumR (qs.map rabs) ∧ 0 ≤ sumR (qs.map rabs) ∧ ∀ q ∈ qs, rabs q ≤ sumR (qs.map rabs)
  | 0, qs, h => by
    have := List.eq_nil_of_length_eq_zero h
    subst this
    exact ⟨by decide, by decide, fun q h => by cases h⟩
  | n + 1, qs, h => by
    obtain ⟨r, q, rfl⟩ : ∃ r q, qs = r ++ [q] := ⟨qs.dropLast, qs.getLast (by rintro rfl; simp at h), (List.dropLast_concat_getLast _).symm⟩
    obtain ⟨h1, h2, h3⟩ := sumR_le n r (by simpa using h)
    rw [List.map_append, List.map_singleton, sumR_snoc, sumR_snoc]
    have h0 := rabs_nonneg q
    refine ⟨?_, Rat.add_nonneg h2 h0, fun x hx => ?_⟩
    · have a1 := rabs_le (sumR r)
      have a2 := rabs_le q
      have b1 : sumR r + q ≤ sumR (r.map rabs) + rabs q := rat_add_le (Rat.le_trans a1.1 h1) a2.1
      have b2 : -(sumR r + q) ≤ sumR (r.map rabs) + rabs q := by
        rw [Rat.neg_add]
        exact rat_add_le (Rat.le_trans a1.2 h1) a2.2
      unfold rabs
      split
      · exact b2
      · exact b1
    · rcases List.mem_append.1 hx with hx | hx
      · have := rat_add_le (h3 x hx) h0
        rwa [Rat.add_zero] at this
      · rw [List.mem_singleton.1 hx]
        have := rat_add_le h2 (Rat.le_refl (a := rabs q))
        rwa [Rat.zero_add] at this
theorem halfR_nonneg (qs : List Rat) : 0 ≤ halfR qs := by
  unfold halfR
  rw [Rat.div_def]
  exact Rat.mul_nonneg (sumR_le _ qs rfl).2.1 (by decide +kernel)
/-- what operates also does so with a lower threshold and a flatter slope; nothing operates at the sum 0 -/
theorem opB_law (ss : List ByteArray) (x y x' y' : Int) :
    (opF ss x y ≠ 0 → opB ss x y = false) ∧ (opF ss x y = 0 → opF ss (min x x') (min y y') = 0 → bsE ss = 0 ∧ (opB ss x y = true → opB ss (min x x') (min y y') = true) ∧ (bsS ss = ⟨#[48]⟩ → opB ss x y = false ∧ opB ss (min x x') (min y y') = false)) := by
  have key : ∀ x y, opF ss x y = 0 → bsE ss = 0 ∧ 0 ≤ x ∧ x ≤ 1000000 ∧ 0 ≤ y ∧ y ≤ 2000 := fun x y h => by
    unfold opF at h
    by_cases h1 : ckLim 256 ss = 0
    · rw [if_pos h1] at h
      by_cases h2 : 0 ≤ x ∧ x ≤ 1000000 ∧ 0 ≤ y ∧ y ≤ 2000
      · rw [if_pos h2] at h; exact ⟨h, h2⟩
      · rw [if_neg h2] at h; cases h
    · rw [if_neg h1] at h; exact absurd h h1
  have key2 : ∀ x y, opF ss x y ≠ 0 → opB ss x y = false := fun x y h => by
    unfold opB
    refine if_neg fun h2 => h ?_
    unfold opF
    rw [if_pos (bsE_ok h2.1).1, if_pos h2.2, h2.1]
  refine ⟨key2 x y, fun h1 h2 => ?_⟩
  obtain ⟨a0, a1⟩ := key _ _ h1
  obtain ⟨b0, b1⟩ := key _ _ h2
  have hh := halfR_nonneg (ss.map qOf)
  have mono : ∀ {y y' : Int}, y' ≤ y → Rat.divInt y' 1000 * halfR (ss.map qOf) ≤ Rat.divInt y 1000 * halfR (ss.map qOf) := fun {y y'} h => by
    refine Rat.mul_le_mul_of_nonneg_right ?_ hh
    rw [Rat.divInt_eq_div, Rat.divInt_eq_div, Rat.div_def, Rat.div_def]
    exact Rat.mul_le_mul_of_nonneg_right (Rat.intCast_le_intCast.2 h) (by decide +kernel)
  have rhs : ∀ {x y : Int}, 0 ≤ x → 0 ≤ y → 0 ≤ (x : Rat) + Rat.divInt y 1000 * halfR (ss.map qOf) := fun {x y} hx hy => by
    refine Rat.add_nonneg (Rat.intCast_nonneg.2 hx) ?_
    have := mono hy
    rwa [Rat.zero_divInt, Rat.zero_mul] at this
  refine ⟨a0, ?_, ?_⟩
  · unfold opB
    rw [if_pos ⟨a0, a1⟩, if_pos ⟨b0, b1⟩, decide_eq_true_iff, decide_eq_true_iff, cmpQ_pos, cmpQ_pos]
    intro h
    refine Rat.not_le.1 fun hc => Rat.not_le.2 h (Rat.le_trans hc ?_)
    exact rat_add_le (Rat.intCast_le_intCast.2 (Int.min_le_left x x')) (mono (Int.min_le_left y y'))
  · intro h0
    obtain ⟨c1, c2, c3⟩ := bsE_ok a0
    rw [(bs_ok c1 c2 c3).1] at h0
    have hz : sumR (ss.map qOf) = 0 := by
      refine txt_inj c2 ?_ (h0.trans txt_zero.symm)
      unfold Fits; decide +kernel
    unfold opB
    rw [if_pos ⟨a0, a1⟩, if_pos ⟨b0, b1⟩, hz, decide_eq_false_iff_not, decide_eq_false_iff_not, cmpQ_pos, cmpQ_pos, Rat.not_lt, Rat.not_lt]
    have h3 : rabs 0 = 0 := rabs_zero.2 rfl
    rw [h3]
    exact ⟨rhs a1.1 a1.2.2.1, rhs b1.1 b1.2.2.1⟩
end Go.Proofs.YtakllkkmofdpaaaGreatDoor
/- Numbers of few digits fit; the law of the sums of currents; plain. -/
namespace Go.Proofs.YtakllkkmofdpaaaGreatDoor
set_option linter.unusedVariables false
set_option linter.unusedSimpArgs false

/-- numerator and denominator have at most k digits -/
def Tn (k : Nat) (q : Rat) : Prop := q.num.natAbs < 10 ^ k ∧ q.den < 10 ^ k
theorem Tn.mono {k m : Nat} {q : Rat} (h : Tn k q) (hm : k ≤ m) : Tn m q :=
  ⟨Nat.lt_of_lt_of_le h.1 (Nat.pow_le_pow_right (by decide) hm), Nat.lt_of_lt_of_le h.2 (Nat.pow_le_pow_right (by decide) hm)⟩
theorem Tn.fits {k : Nat} {q : Rat} (h : Tn k q) (hk : k ≤ 2000) : Fits q := by
  have h2 := h.mono hk
  exact ⟨ndg_le (by decide) h2.1, ndg_le (by decide) h2.2⟩
theorem tn_divInt {k : Nat} {n : Int} {d : Nat} (hd : d ≠ 0) (h1 : n.natAbs < 10 ^ k) (h2 : d < 10 ^ k) : Tn k (Rat.divInt n d) := by
  have h3 := (ratio_abs n hd).1
  have h4 := (ratio_num n hd).2
  unfold Tn
  rw [h3, h4]
  exact ⟨Nat.lt_of_le_of_lt (Nat.div_le_self ..) h1, Nat.lt_of_le_of_lt (Nat.div_le_self ..) h2⟩
theorem tn_add {a b : Nat} {p q : Rat} (hp : Tn a p) (hq : Tn b q) : Tn (a + b + 1) (p + q) := by
  rw [← add_ratio p q]
  have hd : p.den * q.den ≠ 0 := Nat.mul_ne_zero p.den_nz q.den_nz
  refine tn_divInt hd ?_ ?_
  · have h1 : (p.num * (q.den : Int) + q.num * (p.den : Int)).natAbs ≤ p.num.natAbs * q.den + q.num.natAbs * p.den := by
      refine Nat.le_trans (Int.natAbs_add_le _ _) ?_
      rw [Int.natAbs_mul, Int.natAbs_mul]
      exact Nat.le_refl _
    have h2 : p.num.natAbs * q.den ≤ 10 ^ a * 10 ^ b := Nat.mul_le_mul (Nat.le_of_lt hp.1) (Nat.le_of_lt hq.2)
    have h3 : q.num.natAbs * p.den ≤ 10 ^ b * 10 ^ a := Nat.mul_le_mul (Nat.le_of_lt hq.1) (Nat.le_of_lt hp.2)
    have h4 : 0 < 10 ^ a * 10 ^ b := Nat.mul_pos (Nat.pow_pos (by decide)) (Nat.pow_pos (by decide))
    rw [Nat.pow_succ, Nat.pow_add]
    rw [Nat.mul_comm (10 ^ b)] at h3
    omega
  · have h2 : p.den * q.den < 10 ^ a * 10 ^ b := Nat.mul_lt_mul'' hp.2 hq.2
    rw [Nat.pow_succ, Nat.pow_add]
    omega
theorem tn_mul {a b : Nat} {p q : Rat} (hp : Tn a p) (hq : Tn b q) : Tn (a + b) (p * q) := by
  rw [← mul_ratio p q]
  have hd : p.den * q.den ≠ 0 := Nat.mul_ne_zero p.den_nz q.den_nz
  refine tn_divInt hd ?_ ?_
  · rw [Int.natAbs_mul, Nat.pow_add]
    exact Nat.mul_lt_mul'' hp.1 hq.1
  · rw [Nat.pow_add]
    exact Nat.mul_lt_mul'' hp.2 hq.2
theorem tn_neg {k : Nat} {q : Rat} (h : Tn k q) : Tn k (-q) := by
  unfold Tn
  rw [Rat.neg_num, Rat.neg_den, Int.natAbs_neg]
  exact h
theorem tn_abs {k : Nat} {q : Rat} (h : Tn k q) : Tn k (rabs q) := by
  unfold rabs
  split
  · exact tn_neg h
  · exact h
theorem tn_zero : Tn 1 0 := ⟨by decide, by decide⟩
theorem tn_sum {b : Nat} : ∀ (n : Nat) (qs : List Rat), qs.length = n → (∀ q ∈ qs, Tn b q) → Tn (n * (b + 1) + 1) (sumR qs)
  | 0, qs, h, hb => by
    have := List.eq_nil_of_length_eq_zero h
    subst this
    exact tn_zero.mono (by omega)
  | n + 1, qs, h, hb => by
    obtain ⟨r, q, rfl⟩ : ∃ r q, qs = r ++ [q] := ⟨qs.dropLast, qs.getLast (by rintro rfl; simp at h), (List.dropLast_concat_getLast _).symm⟩
    have h1 := tn_sum n r (by simpa using h) fun q hq => hb q (List.mem_append_left _ hq)
    have h2 := hb q (by simp)
    rw [sumR_snoc]
    refine (tn_add h1 h2).mono ?_
    rw [Nat.succ_mul]
    omega
theorem tn_valid {s : ByteArray} (h : ratCk s.data.toList = 0) : Tn (s.size + 1) (qOf s) := by
  obtain ⟨h1, h2, -, -, h5, h6, -, -⟩ := valid_parse h
  have hs : s.data.toList.length = s.size := by rw [Array.length_toList]; rfl
  have hl := congrArg List.length (rtS_split s.data.toList)
  have hl2 := congrArg List.length (pre_split s.data.toList)
  rw [List.length_append] at hl hl2
  have k1 : (rtN s.data.toList).length ≤ s.size := by omega
  refine ⟨?_, ?_⟩
  · show (parseQ s.data.toList).num.natAbs < _
    rw [h1, rdZ_abs]
    exact Nat.lt_of_lt_of_le (dv_lt h5) (Nat.pow_le_pow_right (by decide) (by omega))
  · show (parseQ s.data.toList).den < _
    rw [h2]
    unfold denL
    split
    · rename_i hi
      rw [if_pos hi, List.length_cons] at hl
      exact Nat.lt_of_lt_of_le (dv_lt h6) (Nat.pow_le_pow_right (by decide) (by omega))
    · rw [Nat.pow_succ]
      have : 0 < 10 ^ s.size := Nat.pow_pos (by decide)
      omega
theorem tn_tiny {s : ByteArray} (h : ratCk s.data.toList = 0) (hs : s.size ≤ 24) : Tn 25 (qOf s) := (tn_valid h).mono (by omega)
theorem tns {ss : List ByteArray} (h : ∀ s ∈ ss, ratCk s.data.toList = 0) (hs : ∀ s ∈ ss, s.size ≤ 24) : ∀ q ∈ ss.map qOf, Tn 25 q := fun q hq => by
  obtain ⟨s, h1, rfl⟩ := List.mem_map.1 hq
  exact tn_tiny (h s h1) (hs s h1)
/-- the scalar product of a vector with itself is 0 exactly for zeros -/
theorem sum_sq : ∀ (qs : List Rat), 0 ≤ sumR (qs.map fun q => q * q) ∧ (sumR (qs.map fun q => q * q) = 0 ↔ ∀ q ∈ qs, q = 0) := by
  intro qs
  generalize hn : qs.length = n
  induction n generalizing qs with
  | zero =>
    have := List.eq_nil_of_length_eq_zero hn
    subst this
    exact ⟨by decide +kernel, ⟨fun _ q h => (List.not_mem_nil h).elim, fun _ => by decide +kernel⟩⟩
  | succ n ih =>
    obtain ⟨r, q, rfl⟩ : ∃ r q, qs = r ++ [q] := ⟨qs.dropLast, qs.getLast (by rintro rfl; simp at hn), (List.dropLast_concat_getLast _).symm⟩
    obtain ⟨h1, h2⟩ := ih r (by simpa using hn)
    rw [List.map_append, List.map_singleton, sumR_snoc]
    have h3 : 0 ≤ q * q := by
      rcases Rat.le_total (a := 0) (b := q) with h | h
      · exact Rat.mul_nonneg h h
      · have h := Rat.neg_le_neg h
        rw [Rat.neg_zero] at h
        have := Rat.mul_nonneg h h
        rwa [Rat.neg_mul, Rat.mul_neg, Rat.neg_neg] at this
    refine ⟨Rat.add_nonneg h1 h3, ?_⟩
    constructor
    · intro h0 x hx
      have e1 : sumR (r.map fun q => q * q) = 0 := Rat.le_antisymm (by
        have := Rat.add_le_add_left (c := sumR (r.map fun q => q * q)).2 h3
        rwa [h0, Rat.add_zero] at this) h1
      have e2 : q * q = 0 := by rwa [e1, Rat.zero_add] at h0
      rcases List.mem_append.1 hx with hx | hx
      · exact h2.1 e1 x hx
      · rw [List.mem_singleton.1 hx]
        rcases Rat.mul_eq_zero.1 e2 with h | h <;> exact h
    · intro h
      rw [h2.2 fun x hx => h x (List.mem_append_left _ hx), h q (by simp)]
      decide +kernel
theorem dot_self (qs : List Rat) : dotR qs qs = sumR (qs.map fun q => q * q) := by
  unfold dotR
  rw [List.zipWith_self]
theorem half_zero (qs : List Rat) : halfR qs = 0 ↔ ∀ q ∈ qs, q = 0 := by
  obtain ⟨h1, h2, h3⟩ := sumR_le _ qs rfl
  unfold halfR
  constructor
  · intro h q hq
    have h0 : sumR (qs.map rabs) = 0 := by
      have e : sumR (qs.map rabs) / 2 * 2 = sumR (qs.map rabs) := Rat.div_mul_cancel (by decide)
      rw [h, Rat.zero_mul] at e
      exact e.symm
    have h4 := h3 q hq
    rw [h0] at h4
    exact rabs_zero.1 (Rat.le_antisymm h4 (rabs_nonneg q))
  · intro h
    have h0 : sumR (qs.map rabs) = 0 := by
      have : qs.map rabs = qs.map fun _ => (0 : Rat) := List.map_congr_left fun q hq => rabs_zero.2 (h q hq)
      rw [this]
      have key : ∀ l : List Rat, sumR (l.map fun _ => (0 : Rat)) = 0 := fun l => by
        unfold sumR
        induction l with
        | nil => rfl
        | cons a r ih => rw [List.map_cons, List.foldl_cons, Rat.add_zero]; exact ih
      exact key qs
    rw [h0]
    decide +kernel
theorem two_txt : (⟨#[50]⟩ : ByteArray) = txtQ 2 := by
  have h : ratCk [50] = 0 := by decide +kernel
  have h2 : qOf ⟨#[50]⟩ = 2 := by decide +kernel
  rw [← h2]
  exact (valid_txt (s := ⟨#[50]⟩) h).symm
theorem fits_zero : Fits 0 := Tn.fits tn_zero (by decide)
theorem fits_twoQ : Fits 2 := Tn.fits (k := 1) ⟨by decide, by decide⟩ (by decide)
theorem txt_cmp {p q : Rat} (hp : Fits p) (hq : Fits q) : cmpS (txtQ p) (txtQ q) = cmpQ p q := by
  unfold cmpS
  rw [if_pos (two_valid (txt_valid hp).1 (txt_valid hq).1), (txt_valid hp).2, (txt_valid hq).2]
theorem txt_op {f : Rat → Rat → Rat} {p q : Rat} (hp : Fits p) (hq : Fits q) (h : Fits (f p q)) : opS f (txtQ p) (txtQ q) = txtQ (f p q) := by
  rw [opS_ok (txt_valid hp).1 (txt_valid hq).1, (txt_valid hp).2, (txt_valid hq).2, rnS_of h]
theorem fits_neg {q : Rat} (h : Fits q) : Fits (-q) := by
  unfold Fits
  rw [Rat.neg_num, Rat.neg_den, Int.natAbs_neg]
  exact h
theorem txt_size2 {q : Rat} (h : Fits q) : sizeS (txtQ q) = txtQ (rabs q) := by
  unfold sizeS
  rw [← txt_zero, txt_cmp h fits_zero]
  have h0 : cmpQ q 0 < 0 ↔ q.num < 0 := by
    rw [num_neg, ← Rat.not_le, ← Int.not_le]
    refine not_congr ?_
    rw [← Rat.not_lt (a := q), ← (cmp_rat q 0).1]
    unfold cmpQ
    rw [← Int.not_lt, Int.sign_neg_iff]
    omega
  unfold rabs
  by_cases hc : q.num < 0
  · rw [if_pos (h0.2 hc), if_pos hc, txt_op fits_zero h (f := fun p q => p - q) (by show Fits (0 - q); rw [Rat.sub_eq_add_neg, Rat.zero_add]; exact fits_neg h)]
    show txtQ (0 - q) = _
    rw [Rat.sub_eq_add_neg, Rat.zero_add]
  · rw [if_neg (fun h => hc (h0.1 h)), if_neg hc]
/-- the law of the sums -/
theorem bsum_law {ss : List ByteArray} (hl : ss.length ≤ 8) (hs : ∀ s ∈ ss, s.size ≤ 24) :
    (bsE ss ≠ 0 → bsS ss = ⟨#[]⟩ ∧ bsR ss = ⟨#[]⟩) ∧ (bsE ss = 0 → ckLim 256 ss = 0 ∧ ckLim 40 ss = 0 ∧ (∀ k, k ≤ ss.length → Fits (sumR ((ss.map qOf).take k))) ∧ bsS ss = rnS (sumR (ss.map qOf)) ∧ rnE (sumR (ss.map qOf)) = 0 ∧ cmpS (sizeS (bsS ss)) (opS (fun p q => p * q) (bsR ss) ⟨#[50]⟩) ≤ 0 ∧ rnE (dotR (ss.map qOf) (ss.map qOf)) = 0 ∧ (rnS (dotR (ss.map qOf) (ss.map qOf)) = ⟨#[48]⟩ ↔ bsR ss = ⟨#[48]⟩)) := by
  constructor
  · intro h
    by_cases h1 : ckLim 256 ss = 0
    · have h2 : ¬ (Fits (sumR (ss.map qOf)) ∧ Fits (halfR (ss.map qOf))) := fun h2 => h (by unfold bsE; rw [if_pos h1, if_pos h2])
      exact ⟨(bs_big h1 h2).1, (bs_big h1 h2).2.1⟩
    · exact ⟨(bs_bad h1).1, (bs_bad h1).2.1⟩
  · intro h
    obtain ⟨c1, c2, c3⟩ := bsE_ok h
    obtain ⟨b1, b2, b3⟩ := bs_ok c1 c2 c3
    have hv := (ckLim_ok.1 c1).2
    have ht := tns hv hs
    have hd : Tn 500 (dotR (ss.map qOf) (ss.map qOf)) := by
      rw [dot_self]
      refine (tn_sum (b := 50) _ _ rfl fun q hq => ?_).mono ?_
      · obtain ⟨x, hx, rfl⟩ := List.mem_map.1 hq
        exact tn_mul (ht x hx) (ht x hx)
      · rw [List.length_map, List.length_map]
        omega
    have ha : Tn 300 (sumR ((ss.map qOf).map rabs)) := by
      refine (tn_sum (b := 25) _ _ rfl fun q hq => ?_).mono ?_
      · obtain ⟨x, hx, rfl⟩ := List.mem_map.1 hq
        exact tn_abs (ht x hx)
      · rw [List.length_map, List.length_map]
        omega
    have hh : halfR (ss.map qOf) * 2 = sumR ((ss.map qOf).map rabs) := Rat.div_mul_cancel (by decide)
    have hfa := ha.fits (by decide)
    have hfd := hd.fits (by decide)
    have hfr : Fits (rabs (sumR (ss.map qOf))) := by
      unfold rabs
      split
      · exact fits_neg c2
      · exact c2
    refine ⟨c1, ckLim_ok.2 ⟨by omega, hv⟩, fun k hk => ?_, by rw [b1, rnS_of c2], rnE_of c2, ?_, rnE_of hfd, ?_⟩
    · refine ((tn_sum (b := 25) _ _ rfl fun q hq => ht q (List.mem_of_mem_take hq)).mono ?_ : Tn 300 _).fits (by decide)
      rw [List.length_take, List.length_map]
      omega
    · rw [b1, b2, two_txt, txt_size2 c2, txt_op c3 fits_twoQ (f := fun p q => p * q) (by show Fits (_ * 2); rw [hh]; exact hfa)]
      show cmpS _ (txtQ (_ * 2)) ≤ 0
      rw [hh, txt_cmp hfr hfa, cmpQ_le]
      exact (sumR_le _ _ rfl).1
    · rw [rnS_of hfd, b2, ← txt_zero]
      constructor
      · intro e
        have := txt_inj hfd fits_zero e
        rw [dot_self, (sum_sq _).2] at this
        rw [(half_zero _).2 this]
      · intro e
        have := txt_inj c3 fits_zero e
        rw [half_zero] at this
        rw [dot_self, (sum_sq _).2.2 this]
end Go.Proofs.YtakllkkmofdpaaaGreatDoor
/- The plain law of BalanceParts: what enters the part of all other nodes is what leaves a part. -/
namespace Go.Proofs.YtakllkkmofdpaaaGreatDoor
set_option linter.unusedVariables false
set_option linter.unusedSimpArgs false

/-- all other nodes -/
def restR (x : Net) (part : List ByteArray) : List ByteArray := x.nodes.filter fun s => !ct part s
theorem ct_rest {x : Net} {part : List ByteArray} {s : ByteArray} (h : s ∈ x.nodes) : ct (restR x part) s = !ct part s := by
  rw [Bool.eq_iff_iff, ct_iff]
  unfold restR
  rw [List.mem_filter]
  exact ⟨fun a => a.2, fun a => ⟨h, a⟩⟩
theorem ptE_ok {nodes part : List ByteArray} (hn : part.Nodup) (hm : ∀ s ∈ part, s ∈ nodes) : ∀ (l : List ByteArray) (k : Nat), part.drop k = l → ptE nodes part l k = 0
  | [], _, _ => rfl
  | s :: r, k, h => by
    have hk : part[k]? = some s := by
      have := congrArg (fun l => l[0]?) h
      simpa using this
    have hs := List.mem_of_getElem? hk
    have hr : part.drop (k + 1) = r := by rw [← List.drop_drop, h]; rfl
    unfold ptE
    rw [if_pos (ct_iff.2 (hm s hs)), if_neg, ptE_ok hn hm r (k + 1) hr]
    intro hc
    have ht := ct_iff.1 hc
    rw [← List.take_append_drop k part, h, List.nodup_append] at hn
    exact hn.2.2 s ht s (List.mem_cons_self ..) rfl
theorem bdE_net {x : Net} {part : List ByteArray} (h : bdE x part = 0) : netCk x = 0 ∧ ¬ (x.sws.any (swX part) = true) := by
  unfold bdE at h
  split at h
  · rename_i h1
    refine ⟨h1, ?_⟩
    split at h
    · split at h
      · cases h
      · assumption
    · exact absurd h (by assumption)
  · exact absurd h (by assumption)
theorem bdE_rest {x : Net} {part : List ByteArray} (h : bdE x part = 0) : bdE x (restR x part) = 0 := by
  obtain ⟨h1, h2⟩ := bdE_net h
  have hok := netCk_ok h1
  have hnm := netCk_nm h1
  have h3 : ptE x.nodes (restR x part) (restR x part) 0 = 0 := ptE_ok (hnm.nd.sublist List.filter_sublist) (fun s hs => (List.mem_filter.1 hs).1) _ 0 rfl
  have h4 : ¬ (x.sws.any (swX (restR x part)) = true) := by
    intro ha
    apply h2
    obtain ⟨s, hs, hx⟩ := List.any_eq_true.1 ha
    refine List.any_eq_true.2 ⟨s, hs, ?_⟩
    unfold swX at hx ⊢
    rw [ct_rest (hok.sw s hs).1, ct_rest (hok.sw s hs).2.1] at hx
    revert hx
    cases s.opn <;> cases ct part s.a <;> cases ct part s.b <;> decide
  unfold bdE
  rw [if_pos h1, if_pos h3, if_neg h4]
theorem brX_rest {x : Net} {part : List ByteArray} {b : Br} (h1 : b.fr ∈ x.nodes) (h2 : b.to ∈ x.nodes) : brX (restR x part) b = brX part b := by
  unfold brX
  rw [ct_rest h1, ct_rest h2]
  cases ct part b.fr <;> cases ct part b.to <;> rfl
theorem crGo_rest {x : Net} {part : List ByteArray} : ∀ (l : List Br) (k : Nat), (∀ b ∈ l, b.fr ∈ x.nodes ∧ b.to ∈ x.nodes) → crGo (restR x part) l k = crGo part l k
  | [], _, _ => rfl
  | b :: r, k, h => by
    have hb := h b (List.mem_cons_self ..)
    unfold crGo
    rw [brX_rest hb.1 hb.2, crGo_rest r (k + 1) fun y hy => h y (List.mem_cons_of_mem _ hy)]
theorem bdR_rest {x : Net} {part : List ByteArray} (h : bdE x part = 0) : bdR x (restR x part) = bdR x part := by
  have hok := netCk_ok (bdE_net h).1
  unfold bdR
  rw [if_pos h, if_pos (bdE_rest h), crGo_rest _ _ fun b hb => ⟨(hok.br b hb).1, (hok.br b hb).2.1⟩]
theorem enE_parts {x : Net} {part fl : List ByteArray} (h : enE x part fl = 0) : bdE x part = 0 ∧ fl.length = x.brs.length ∧ ckAllR fl = 0 := by
  unfold enE at h
  split at h
  · rename_i h1
    refine ⟨h1, ?_⟩
    split at h
    · exact ⟨by assumption, h⟩
    · cases h
  · exact absurd h (by assumption)
theorem enF_rest {x : Net} {part fl : List ByteArray} (h : enE x part fl = 0) {i : Int} (hi : i ∈ bdR x part) : enF x (restR x part) fl i = -enF x part fl i ∧ Fits (enF x part fl i) := by
  obtain ⟨h1, h2, h3⟩ := enE_parts h
  have hok := netCk_ok (bdE_net h1).1
  obtain ⟨j, hj, hjl⟩ := bdR_mem hi
  subst hj
  obtain ⟨s, hs⟩ : ∃ s, fl[j]? = some s := ⟨_, List.getElem?_eq_getElem (by omega)⟩
  obtain ⟨b, hb⟩ : ∃ b, x.brs[j]? = some b := ⟨_, List.getElem?_eq_getElem hjl⟩
  have hv := valid_fits (ckAllR_ok.1 h3 s (List.mem_of_getElem? hs))
  unfold enF
  rw [Int.toNat_natCast, hs, hb]
  simp only
  rw [ct_rest (hok.br b (List.mem_of_getElem? hb)).2.1]
  cases ct part b.to
  · refine ⟨?_, fits_neg hv⟩
    simp [Rat.neg_neg]
  · exact ⟨by simp, hv⟩
theorem parts_law {x : Net} {part fl : List ByteArray} (h : enE x part fl = 0) :
    enE x (restR x part) fl = 0 ∧ enR x (restR x part) fl = (enR x part fl).map (fun q => -q) ∧ (∀ q ∈ enR x part fl, Fits q) ∧ (∀ q ∈ enR x (restR x part) fl, Fits q) := by
  obtain ⟨h1, h2, h3⟩ := enE_parts h
  have h4 : enE x (restR x part) fl = 0 := by unfold enE; rw [if_pos (bdE_rest h1), if_pos h2, h3]
  have h5 : enR x (restR x part) fl = (enR x part fl).map (fun q => -q) := by
    unfold enR
    rw [if_pos h, if_pos h4, bdR_rest h1, List.map_map]
    exact List.map_congr_left fun i hi => (enF_rest h hi).1
  have h6 : ∀ q ∈ enR x part fl, Fits q := fun q hq => by
    unfold enR at hq
    rw [if_pos h] at hq
    obtain ⟨i, hi, e⟩ := List.mem_map.1 hq
    rw [← e]
    exact (enF_rest h hi).2
  refine ⟨h4, h5, h6, fun q hq => ?_⟩
  rw [h5] at hq
  obtain ⟨p, hp, e⟩ := List.mem_map.1 hq
  rw [← e]
  exact fits_neg (h6 p hp)
/-- what leaves cancels what enters -/
theorem parts_zero {q : Rat} (h : Fits q) : opS (fun p q => p + q) (txtQ q) (txtQ (-q)) = ⟨#[48]⟩ := by
  rw [txt_op (f := fun p q => p + q) h (fits_neg h) (by rw [Rat.add_neg_cancel]; exact fits_zero), Rat.add_neg_cancel, txt_zero]
end Go.Proofs.YtakllkkmofdpaaaGreatDoor
/- What is small. -/
namespace Go.Proofs.YtakllkkmofdpaaaGreatDoor
open Go.ChangeShapes Go.WideShapes Go.ChangeAt Go.RowKit
set_option linter.unusedVariables false
set_option linter.unusedSimpArgs false
attribute [local go_sem ↓] execOp_call_val
attribute [local go_sem] callVal_func setCell_drewN alloc_drewN sEq_walk NetH.cells

def tinyV (v : Vc) : Bool := v.ss.all fun s => decide (s.size ≤ 24)
def smallR (x : Net) (ms : List Mi) (vs : List Vc) : Bool := decide (x.nodes.length ≤ 8) && decide (x.brs.length ≤ 10) && ms.all (fun m => decide (m.txt.size ≤ 24)) && vs.all tinyV
theorem all_drop {α : Type} {l : List α} {k : Nat} {x : α} (f : α → Bool) (h : l[k]? = some x) : (l.drop k).all f = (f x && (l.drop (k + 1)).all f) := by rw [drop_cons h]; rfl
set_option maxRecDepth 100000 in
set_option maxHeartbeats 4000000 in
theorem small_any (h : NetH) (x : Net) (A : Option Addr) (n c : Nat) (ms : List Mi) (B : Option Addr) (m d : Nat) (vs : List Vc) (w : World) (r : RdNet w w.heap.size h x) (hm : RdMi w w.heap.size A n ms) (hv : RdVc w w.heap.size B m vs) (hn : n ≤ 9223372036854775807) (hmm : m ≤ 9223372036854775807) :
    Calls Tryz.prog 15 #[.agg h.cells, .slice A n c, .slice B m d] w fun e w' => e = .returned (.bool (smallR x ms vs)) ∧ Below w.heap.size w w' := by
  have K0 : Below w.heap.size w (w.alloc (.cells h.cells 33)) := (Below.refl _ _).alloc (Nat.le_refl _) _
  have HK := Lib.hid K0
  have HM := Lib.hid hm
  have HML := Lib.hid hm.1
  have HV := Lib.hid hv
  have HVL := Lib.hid hv.1
  have l0 := r.r0.1
  have l2 := r.r2.1
  have m0 := r.m0
  have m2 := r.m2
  obtain ⟨y0, y1, y2, y3, y4, y5, nf, nlt⟩ := net_box (Blk.new w 33 h.cells)
  simp only [NetH.cells] at HK y0 y1 y2 y3 y4 y5 nf nlt
  clear K0 r hm hv
  go_enter Tryz.func15, Tryz.ntmps15
  go_upto_region 1 with fail
  generalize w.alloc (.cells #[.slice h.A0 h.n0 h.c0, .slice h.A1 h.n1 h.c1, .slice h.A2 h.n2 h.c2, .slice h.A3 h.n3 h.c3, .slice h.A4 h.n4 h.c4, .slice h.A5 h.n5 h.c5] 33) = W at *
  by_cases g0 : 8 < h.n0
  · have g0I : (8 : Int) < (h.n0 : Int) := by omega
    have HE : Hid (smallR x ms vs = false) := Lib.hid (by unfold smallR; rw [decide_eq_false (by rw [l0]; omega)]; rfl)
    go_wp2_with fail
    go_ret
    exact ⟨by rw [HE.out]; rfl, HK.out⟩
  · by_cases g2 : 10 < h.n2
    · have g0I : ¬ (8 : Int) < (h.n0 : Int) := by omega
      have g2I : (10 : Int) < (h.n2 : Int) := by omega
      have HE : Hid (smallR x ms vs = false) := Lib.hid (by unfold smallR; rw [decide_eq_false (p := x.brs.length ≤ 10) (by rw [l2]; omega), Bool.and_false]; rfl)
      go_wp2_with fail
      go_ret
      exact ⟨by rw [HE.out]; rfl, HK.out⟩
    · have g0I : ¬ (8 : Int) < (h.n0 : Int) := by omega
      have g2I : ¬ (10 : Int) < (h.n2 : Int) := by omega
      have HS : Hid (smallR x ms vs = (ms.all (fun m => decide (m.txt.size ≤ 24)) && vs.all tinyV)) := Lib.hid (by unfold smallR; rw [decide_eq_true (by rw [l0]; omega), decide_eq_true (by rw [l2]; omega)]; rfl)
      clear g0 g2 m0 m2
      go_wp2_with fail
      clear g0I g2I y0 y1 y2 y3 y4 y5 nf nlt l0 l2
      go_loopw [25] (fun v25 wr => ∃ k : Nat, k ≤ n ∧ v25 = .int .i64 k ∧ ms.all (fun m => decide (m.txt.size ≤ 24)) = (ms.drop k).all (fun m => decide (m.txt.size ≤ 24)) ∧ Below w.heap.size w wr) (fun v25 _ => n - (intOf v25).toNat)
      case atStart => exact ⟨0, by omega, rfl, rfl, HK.out⟩
      case round =>
        clear HK
        obtain ⟨k, hk, rfl, hgo, hb⟩ := hrel
        have HG := Lib.hid hgo
        have HB := Lib.hid hb
        clear hgo hb
        by_cases hlt : k < n
        · obtain ⟨z, hz⟩ : ∃ z, ms[k]? = some z := ⟨_, List.getElem?_eq_getElem (by have := HML.out; omega)⟩
          obtain ⟨b, off, hA, hb⟩ := (HM.out.below HB.out (Nat.le_refl _)).form (by omega)
          subst hA
          obtain ⟨c0, c1, c2, c3⟩ := (HM.out.below HB.out (Nat.le_refl _)).at_ hz
          have hbl : b < wr.heap.size := Nat.lt_of_lt_of_le hb HB.out.size
          have HD := Lib.hid (all_drop (fun m : Mi => decide (m.txt.size ≤ 24)) hz)
          have hkI : (k : Int) < (n : Int) := by omega
          have HN1 : Hid ((k : Int) + 1 = ((k + 1 : Nat) : Int)) := Lib.hid (by omega)
          have HN2 : Hid (n - (k + 1) < n - k) := Lib.hid (by omega)
          clear hz hb
          go_upto_region 6 with fail
          clear c0 c1 c2 c3
          generalize hwa : wr.alloc (.cells #[.int .i64 z.kind, .string z.name, .string z.txt, .int .i64 z.wt] 57) = wa
          have hba : Below wr.heap.size wr wa := by rw [← hwa]; exact (Below.refl _ _).alloc (Nat.le_refl _) _
          have HZ : Hid (Blk wa wr.heap.size 57 #[.int .i64 z.kind, .string z.name, .string z.txt, .int .i64 z.wt]) := Lib.hid (by rw [← hwa]; exact Blk.new wr _ _)
          have HBA := Lib.hid (HB.out.trans (hba.mono HB.out.size))
          clear hwa hba hbl HB
          obtain ⟨c0, c1, c2, c3, cf, cl⟩ := Mi.box HZ.out
          clear HZ
          by_cases hs : 24 < z.txt.size
          · have hsI : (24 : Int) < (z.txt.size : Int) := by omega
            have HE : Hid (smallR x ms vs = false) := Lib.hid (by rw [HS.out, HG.out, HD.out, decide_eq_false (by omega)]; rfl)
            go_wp2_with fail
            go_ret
            exact ⟨by rw [HE.out]; rfl, HBA.out⟩
          · have hsI : ¬ (24 : Int) < (z.txt.size : Int) := by omega
            have HE : Hid (ms.all (fun m => decide (m.txt.size ≤ 24)) = (ms.drop (k + 1)).all (fun m => decide (m.txt.size ≤ 24))) := Lib.hid (by rw [HG.out, HD.out, decide_eq_true (by omega), Bool.true_and])
            clear hs
            go_wp2_with fail
            go_roundw
            case rel => exact ⟨k + 1, hlt, val_int HN1.out, HE.out, HBA.out⟩
            case measure => exact HN2.out
        · have hkI : ¬ (k : Int) < (n : Int) := by omega
          have HS2 : Hid (smallR x ms vs = vs.all tinyV) := Lib.hid (by rw [HS.out, HG.out, List.drop_eq_nil_of_le (by have := HML.out; omega)]; rfl)
          clear HS HG
          go_wp2_with fail
          clear hkI hk hlt
          generalize wr = wz at *
          go_loopw [36] (fun v36 wr => ∃ k : Nat, k ≤ m ∧ v36 = .int .i64 k ∧ vs.all tinyV = (vs.drop k).all tinyV ∧ Below w.heap.size w wr) (fun v36 _ => m - (intOf v36).toNat)
          case atStart => exact ⟨0, by omega, rfl, rfl, HB.out⟩
          case round =>
            clear HB
            obtain ⟨i, hi, rfl, hgo, hb⟩ := hrel
            have HG := Lib.hid hgo
            have HB := Lib.hid hb
            clear hgo hb
            by_cases hlt : i < m
            · obtain ⟨v, hv⟩ : ∃ v, vs[i]? = some v := ⟨_, List.getElem?_eq_getElem (by have := HVL.out; omega)⟩
              obtain ⟨b, off, hA, hb⟩ := (HV.out.below HB.out (Nat.le_refl _)).form (by omega)
              subst hA
              have c0 := (HV.out.below HB.out (Nat.le_refl _)).at_ hv
              have hbl : b < wr.heap.size := Nat.lt_of_lt_of_le hb HB.out.size
              have HD := Lib.hid (all_drop tinyV hv)
              have HVV := Lib.hid (HV.out.2.2 v (List.mem_of_getElem? hv)).1
              have hvn := (HV.out.2.2 v (List.mem_of_getElem? hv)).2
              have hiI : (i : Int) < (m : Int) := by omega
              have HM1 : Hid ((i : Int) + 1 = ((i + 1 : Nat) : Int)) := Lib.hid (by omega)
              have HM2 : Hid (m - (i + 1) < m - i) := Lib.hid (by omega)
              clear hv hb
              go_wp2_with fail
              clear c0 hbl
              generalize wr = wy at *
              go_loopw [42] (fun v42 wr => ∃ k : Nat, k ≤ v.n ∧ v42 = .int .i64 k ∧ tinyV v = (v.ss.drop k).all (fun s => decide (s.size ≤ 24)) ∧ Below w.heap.size w wr) (fun v42 _ => v.n - (intOf v42).toNat)
              case atStart => exact ⟨0, by omega, rfl, rfl, HB.out⟩
              case round =>
                clear HB
                obtain ⟨k, hk, rfl, hgo, hb⟩ := hrel
                have HG2 := Lib.hid hgo
                have HB := Lib.hid hb
                clear hgo hb
                have HVN := Lib.hid HVV.out.1
                by_cases hlt2 : k < v.n
                · obtain ⟨s, hs⟩ : ∃ s, v.ss[k]? = some s := ⟨_, List.getElem?_eq_getElem (by have := HVN.out; omega)⟩
                  obtain ⟨b2, off2, hA2, hb⟩ := (HVV.out.below HB.out (Nat.le_refl _)).form (by omega)
                  have c0 := HVV.out.below HB.out (Nat.le_refl _)
                  rw [hA2] at c0
                  replace c0 := c0.at_ hs
                  have hbl : b2 < wr.heap.size := Nat.lt_of_lt_of_le hb HB.out.size
                  have HD2 := Lib.hid (all_drop (fun s : ByteArray => decide (s.size ≤ 24)) hs)
                  have hkI : (k : Int) < (v.n : Int) := by omega
                  have HN1 : Hid ((k : Int) + 1 = ((k + 1 : Nat) : Int)) := Lib.hid (by omega)
                  have HN2 : Hid (v.n - (k + 1) < v.n - k) := Lib.hid (by omega)
                  clear hs hb
                  by_cases hz : 24 < s.size
                  · have hsI : (24 : Int) < (s.size : Int) := by omega
                    have HE : Hid (smallR x ms vs = false) := Lib.hid (by rw [HS2.out, HG.out, HD.out, HG2.out, HD2.out, decide_eq_false (by omega)]; rfl)
                    go_wp2_with fail
                    go_ret
                    exact ⟨by rw [HE.out]; rfl, HB.out⟩
                  · have hsI : ¬ (24 : Int) < (s.size : Int) := by omega
                    have HE : Hid (tinyV v = (v.ss.drop (k + 1)).all (fun s => decide (s.size ≤ 24))) := Lib.hid (by rw [HG2.out, HD2.out, decide_eq_true (by omega), Bool.true_and])
                    clear hz
                    go_wp2_with fail
                    go_roundw
                    case rel => exact ⟨k + 1, hlt2, val_int HN1.out, HE.out, HB.out⟩
                    case measure => exact HN2.out
                · have hkI : ¬ (k : Int) < (v.n : Int) := by omega
                  have HT : Hid (tinyV v = true) := Lib.hid (by rw [HG2.out, List.drop_eq_nil_of_le (by have := HVN.out; omega)]; rfl)
                  have HE : Hid (vs.all tinyV = (vs.drop (i + 1)).all tinyV) := Lib.hid (by rw [HG.out, HD.out, HT.out, Bool.true_and])
                  go_wp2_with fail
                  go_roundw
                  case rel => exact ⟨i + 1, hlt, val_int HM1.out, HE.out, HB.out⟩
                  case measure => exact HM2.out
            · have hiI : ¬ (i : Int) < (m : Int) := by omega
              have HE : Hid (smallR x ms vs = true) := Lib.hid (by rw [HS2.out, HG.out, List.drop_eq_nil_of_le (by have := HVL.out; omega)]; rfl)
              go_wp2_with fail
              go_ret
              exact ⟨by rw [HE.out]; rfl, HB.out⟩
end Go.Proofs.YtakllkkmofdpaaaGreatDoor
