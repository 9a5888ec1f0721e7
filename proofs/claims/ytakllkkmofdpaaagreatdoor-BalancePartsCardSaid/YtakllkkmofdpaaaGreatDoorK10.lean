/- Parts of the proof, put together into one file. -/
import Derived.Test.YtakllkkmofdpaaaGreatDoorK01
import Derived.Test.YtakllkkmofdpaaaGreatDoorK05
import Derived.Test.YtakllkkmofdpaaaGreatDoorK09
import Derived.Deep.LoopGhost
import Derived.Test.YtakllkkmofdpaaaGreatDoorRows
import Derived.Lib.LaidTab
import Derived.LaidLaws
import Derived.LaidHandle
import Derived.RowKitTokens
import Derived.Stop.Joined
import Derived.Stop.LaidErr
import Derived.Lay
import Derived.Handed
import Derived.Lib.ParseIntB
/- The decimal text of an integer. -/
namespace Go.Proofs.YtakllkkmofdpaaaGreatDoor
open Go.ChangeShapes Go.WideShapes Go.ChangeAt Go.RowKit
set_option linter.unusedVariables false
set_option linter.unusedSimpArgs false
attribute [local go_sem ↓] execOp_call_val
attribute [local go_sem] callVal_func setCell_drewN alloc_drewN

theorem ownL_up {w w' : World} {base e size n : Nat} {v : Value} {xs : List Value} (h : w.ownsRow base e size v n xs) (hb : Below w.heap.size w w') : w'.ownsRow base e size v n xs := by
  refine ⟨h.1, ?_⟩
  rcases h.2 with h1 | ⟨g, cap, cur, h1, h2, h3, h4⟩
  · exact .inl h1
  · refine .inr ⟨g, cap, cur, h1, h2, ?_, h4⟩
    have hg : g < w.heap.size := by
      rcases Nat.lt_or_ge g w.heap.size with hlt | hge
      · exact hlt
      · rw [Array.getElem?_eq_none hge] at h3; cases h3
    exact (hb.block g hg).trans h3
theorem rdW_grown {w w' : World} {B n g o : Nat} {l : List Nat} {row : Option Nat} {ob : Obj} (h : RdW w B (some ⟨g, o, none⟩) n l) (hB : B ≤ w.heap.size) (hg : (w.alloc ob).grownBy w' row) (hne : some g ≠ row) : RdW w' w'.heap.size (some ⟨g, o, none⟩) n l :=
  ⟨h.1, fun hn => by
    obtain ⟨b, off, e, hlt, hc⟩ := h.2 hn
    injection e with e
    injection e with e1 e2
    subst e1; subst e2
    have hs := hg.size
    simp at hs
    exact ⟨g, o, rfl, by omega, fun j u hu => hg.cell (Lib.cell?_alloc_some _ (hc j u hu)) hne⟩⟩
theorem zeros_at : ∀ L : Nat, 1 ≤ L → L ≤ 9 → ∀ W, (Instr.sliceAt 9 (.string ⟨#[48, 48, 48, 48, 48, 48, 48, 48, 48]⟩) (some (.int .i64 (L : Int))) none none).run Tryz.prog W = .ok (.string ⟨(List.replicate (9 - L) 48).toArray⟩) W := by
  intro L h1 h9 W
  rw [run_sliceAt_string W 9 _ _ _ _ Tryz.underlying9, run_slice_string_l W 9 _ Tryz.underlying9 .i64 (L : Int) (by omega) (by show _ ≤ (9 : Int); omega)]
  have : L = 1 ∨ L = 2 ∨ L = 3 ∨ L = 4 ∨ L = 5 ∨ L = 6 ∨ L = 7 ∨ L = 8 ∨ L = 9 := by omega
  rcases this with rfl | rfl | rfl | rfl | rfl | rfl | rfl | rfl | rfl <;> rfl
theorem bld_up {T e : TypeId} {B b : Nat} {bs : List Value} {w w' : World} (h : Lib.IsBuilder T e B b bs w) (hb : Below w.heap.size w w') : Lib.IsBuilder T e B b bs w' := by
  have key : ∀ p, Lib.BuilderAt T e B b p bs w → Lib.BuilderAt T e B b p bs w' := fun p h => by
    have hlt := h.lt
    obtain ⟨h1, v, h2, h3, h4⟩ := h
    exact ⟨h1, v, (hb.block b hlt).trans h2, ownL_up h3 hb, h4⟩
  exact h.elim (fun h => .inl (key _ h)) fun h => .inr (key _ h)
theorem sz_arr (l : List UInt8) : (⟨l.toArray⟩ : ByteArray).size = l.length := by simp [ByteArray.size]
/-- what Text hands back -/
def ItP (z : Int) (w : World) (e : Ending) (w' : World) : Prop := Below w.heap.size w w' ∧ ∃ s, e = .returned (.tuple #[.string s, .bool (decide (ndg z.natAbs ≤ 2000))]) ∧ (ndg z.natAbs ≤ 2000 → s = ⟨(textL z).toArray⟩) ∧ s.size ≤ 3000
def TxI (T : TypeId) (w wr : World) (V k : Nat) (v4 v5 : Value) : Prop := ∃ (ps : List Nat) (A : Option Addr) (n c : Nat), v5 = .slice A n c ∧ RdW wr wr.heap.size A n (dig k) ∧ n ≤ c ∧ c ≤ 9223372036854775807 ∧ wr.ownsRow w.heap.size T 1 v4 ps.length (u32s ps) ∧ Below w.heap.size w wr ∧ V = pv ps + k * 1000000000 ^ ps.length ∧ PsOk ps ∧ (k = 0 → ps ≠ [] ∧ PsTop ps) ∧ ps.length ≤ 225
set_option maxRecDepth 100000 in
set_option maxHeartbeats 8000000 in
theorem itext_any (z : Int) (b : Bool) (A : Option Addr) (n c : Nat) (w : World) (h : LgIs w w.heap.size z b A n c) (ht : TabOk w) :
    Calls Tryz.prog 93 #[.agg #[.bool b, .slice A n c]] w (ItP z w) := by
  have HB0 : Hid (Below w.heap.size w (w.alloc (.cells #[.bool b, .slice A n c] 91))) := Lib.hid ((Below.refl _ _).alloc (Nat.le_refl _) _)
  have HX1 := Lib.hid (Blk.new w 91 #[.bool b, .slice A n c])
  have H1 := Lib.hid (h.up HB0.out)
  have HT := Lib.hid (ht.up HB0.out)
  have HEN := Lib.hid h.en
  have HEB := Lib.hid h.eb
  have hnc := h.nc
  have hcm := h.cm
  obtain ⟨i0, hi0, hz0, hz1, hz2⟩ := info_parts info_u32
  have HI0 := Lib.hid hi0
  have HI1 := Lib.hid hz0
  have HI2 := Lib.hid hz1
  have HI3 := Lib.hid hz2
  clear h ht hi0 hz0 hz1 hz2
  go_enter Tryz.func93, Tryz.ntmps93
  go_upto_region 1 with fail
  generalize w.alloc (.cells #[.bool b, .slice A n c] 91) = W at *
  have p0 := HX1.out.cell 0
  have p1 := HX1.out.cell 1
  have pl := HX1.out.lt
  by_cases h0 : n = 0
  · subst h0
    have hz : z = 0 := by
      have h := HEN.out
      refine Classical.byContradiction fun hne => ?_
      rw [dlen_pos (by omega)] at h
      omega
    subst hz
    go_wp2_with fail
    go_ret2
    have hd : decide (ndg (0 : Int).natAbs ≤ 2000) = true := by decide +kernel
    have ht0 : textL 0 = [48] := by unfold textL; rw [show (0 : Int).natAbs = 0 from rfl, dec_small (by decide)]; rfl
    exact ⟨HB0.out, ⟨#[48]⟩, by rw [hd]; rfl, fun _ => by rw [ht0], by decide⟩
  · have hn0b : ((n : Int) == 0) = false := by simp; omega
    by_cases h210 : 210 < n
    · have hfit : ¬ ndg z.natAbs ≤ 2000 := Nat.not_le.2 (many_words (by rw [← HEN.out]; exact h210))
      have hnI : (210 : Int) < (n : Int) := by omega
      go_wp2_with fail
      go_ret2
      exact ⟨HB0.out, _, by rw [decide_eq_false hfit]; rfl, fun h => absurd h hfit, by decide⟩
    · have hnI : (n : Int) ≤ 210 := by omega
      have hz0 : z.natAbs ≠ 0 := fun e => h0 (by rw [HEN.out, e]; exact dlen_zero)
      clear h0
      go_wp2_with fail
      clear p0 p1 pl hn0b hnI
      go_loopg [4, 5] z.natAbs (fun k v4 v5 wr => TxI 171 W wr z.natAbs k v4 v5)
      case atStart => exact ⟨[], A, n, c, rfl, H1.out.rd, hnc, hcm, World.ownsRow_nil _ _ _ _, Below.refl _ _, by simp [pv], fun x hx => (by cases hx), fun e => absurd e hz0, by simp⟩
      case round =>
        obtain ⟨ps, A5, n5, c5, rfl, hr5, hn5, hc5, ho4, hb5, hv5, hps, htop, hlen⟩ := hrel
        have HR5 := Lib.hid hr5
        have HO4 := Lib.hid ho4
        have HB5 := Lib.hid hb5
        have HV5 := Lib.hid hv5
        have HPS := Lib.hid hps
        have HTP := Lib.hid htop
        have HL5 : Hid (n5 = dlen gk) := Lib.hid (by rw [← hr5.len]; rfl)
        clear hr5 ho4 hb5 hv5 hps htop
        by_cases hk : gk = 0
        · subst hk
          have hn5 : n5 = 0 := by rw [HL5.out, dlen_zero]
          subst hn5
          have hk0' : (0 : Nat) = 0 := rfl
          obtain ⟨hne, htp⟩ := HTP.out hk0'
          have HTOP := Lib.hid htp
          obtain ⟨L, hL⟩ : ∃ L, ps.length = L := ⟨_, rfl⟩
          have HLN := Lib.hid hL
          rw [hL] at HO4 hlen
          have hL0 : 0 < L := by rw [← hL]; exact List.length_pos_iff.2 hne
          have HD0 : Hid (Dg ps 0 = Lib.decDigits z.natAbs) := Lib.hid (by rw [dg_all hne, HV5.out, Nat.zero_mul, Nat.add_zero])
          have hde : Dg ps L = [] := by rw [← hL]; exact dg_end ps
          have HDE := Lib.hid hde
          clear hL hk0' hne htp
          obtain ⟨A4, c4, e4, hr4, hn4, hc4⟩ := rdW_own HO4.out
          subst e4
          have HR4 := Lib.hid hr4
          have HXr := Lib.hid (HX1.out.below HB5.out HX1.out.lt)
          have HTr := Lib.hid (HT.out.up (HB5.out))
          have HBr := Lib.hid (HB0.out.trans (HB5.out.mono HB0.out.size))
          have HB6 := Lib.hid ((Below.refl wr.heap.size wr).alloc (Nat.le_refl _) (.cells #[.pointer none, .slice none 0 0] 185))
          have HBL : Hid (Lib.IsBuilder 185 5 wr.heap.size wr.heap.size (Lib.byteCells (Dg ps L)) (wr.alloc (.cells #[.pointer none, .slice none 0 0] 185))) := Lib.hid (.inl ⟨Nat.le_refl _, .slice none 0 0, heap_alloc_new wr _, by rw [hde]; exact World.ownsRow_nil _ _ _ _, by simp [Value.ownBlock]⟩)
          clear hr4 hn4 hc4 HR5 HO4 HV5 HL5 HTP hde
          have hLI : (1 : Int) ≤ (L : Int) := by omega
          have hLI2 : (L : Int) ≤ 225 := by omega
          go_wp2_with fail
          clear hLI hLI2
          generalize wr = Wp at *
          have hBP : Wp.heap.size ≤ Wp.heap.size := Nat.le_refl _
          go_loopw [9, 10] (fun v9 v10 wr => ∃ k : Nat, k ≤ L ∧ v9 = .int .i64 ((k : Int) - 1) ∧ Lib.IsBuilder 185 5 Wp.heap.size Wp.heap.size (Lib.byteCells (Dg ps k)) wr ∧ Below Wp.heap.size Wp wr ∧ (Dg ps k).length + 9 * k ≤ 9 * L) (fun v9 _ _ => (intOf v9 + 1).toNat)
          case atStart => exact ⟨L, Nat.le_refl _, rfl, HBL.out, HB6.out, by rw [HDE.out]; simp⟩
          case round =>
            clear HBL HB6
            obtain ⟨k, hkL, rfl, hbl, hb2, hdl⟩ := hrel
            have HBL := Lib.hid hbl
            have HB2 := Lib.hid hb2
            have hWs : Wp.heap.size ≤ wr.heap.size := hb2.size
            clear hbl hb2
            by_cases hk : k = 0
            · subst hk
              have e : (((0 : Nat) : Int) - 1) = -1 := rfl
              rw [e]
              clear e
              rw [HD0.out] at HBL
              have hne : Lib.decDigits z.natAbs ≠ [] := fun e => by have := dec_len_pos z.natAbs; rw [e] at this; simp at this
              go_wp2_with fail
              refine (Tryz.Builder_String Wp.heap.size Wp.heap.size (Lib.decDigits z.natAbs) wr HBL.out hne).mono ?_
              rintro e w3 ⟨rfl, hb3⟩
              have HB3 : Hid (Below Wp.heap.size Wp w3) := Lib.hid (HB2.out.trans hb3)
              have HX3 := Lib.hid (HXr.out.below HB3.out HXr.out.lt)
              have HBF := Lib.hid (HBr.out.trans (HB3.out.mono HBr.out.size))
              obtain ⟨sb, hsb⟩ : ∃ sb : ByteArray, ⟨(Lib.decDigits z.natAbs).toArray⟩ = sb := ⟨_, rfl⟩
              have HSB := Lib.hid hsb
              rw [hsb]
              obtain ⟨N, hN⟩ : ∃ N, sb.size = N := ⟨_, rfl⟩
              have HNN : Hid (ndg z.natAbs = N) := Lib.hid (by rw [← hN, ← hsb, sz_arr]; rfl)
              have hNb2 : N ≤ 2025 := by
                have : N = (Lib.decDigits z.natAbs).length := by rw [← hN, ← hsb, sz_arr]
                rw [HD0.out, ← this] at hdl
                omega
              have hNb : ¬ 9223372036854775807 < 1 + N := by omega
              clear hb3 HB2 HBL hsb hne hdl
              have p0 := HX3.out.cell 0
              have pl := HX3.out.lt
              have hfd : decide (ndg z.natAbs ≤ 2000) = decide ((N : Int) ≤ 2000) := by rw [HNN.out]; exact decide_eq_decide.2 (by omega)
              have HFD := Lib.hid hfd
              clear hfd
              have HNB := Lib.hid hNb2
              have HEND : Hid (∀ s, s = (⟨(textL z).toArray⟩ : ByteArray) → ItP z w (.returned (.tuple #[.string s, .bool (decide ((N : Int) ≤ 2000))])) w3) := Lib.hid fun s hs => ⟨HBF.out, s, by rw [HFD.out], fun _ => hs, by
                rw [hs, sz_arr]
                have h1 := HNB.out
                have h2 := HNN.out
                unfold ndg at h2
                unfold textL
                rw [List.length_append]
                split <;> simp <;> omega⟩
              cases b with
              | true =>
                have hz : z < 0 := by simpa using HEB.out.symm
                have HTX : Hid ((⟨#[45]⟩ : ByteArray) ++ sb = ⟨(textL z).toArray⟩) := Lib.hid (by
                  rw [← HSB.out]
                  apply ByteArray.ext
                  unfold textL
                  rw [if_pos hz]
                  simp)
                go_wp2_with fail
                go_ret2
                exact HEND.out _ HTX.out
              | false =>
                have hz : ¬ z < 0 := by simpa using HEB.out.symm
                have HTX : Hid (sb = ⟨(textL z).toArray⟩) := Lib.hid (by
                  rw [← HSB.out]
                  unfold textL
                  rw [if_neg hz, List.nil_append])
                go_wp2_with fail
                go_ret2
                exact HEND.out _ HTX.out
            · obtain ⟨j, rfl⟩ : ∃ j, k = j + 1 := ⟨k - 1, by omega⟩
              have e : (((j + 1 : Nat) : Int) - 1) = (j : Int) := by omega
              rw [e]
              clear e hk
              have hjL : j < L := hkL
              obtain ⟨x, hx⟩ : ∃ x, ps[j]? = some x := ⟨_, List.getElem?_eq_getElem (by have := HLN.out; omega)⟩
              have hx9 := HPS.out x (List.mem_of_getElem? hx)
              have hxd : ps.getD j 0 = x := by rw [List.getD_eq_getElem?_getD, hx]; rfl
              obtain ⟨b4, o4, hA4, hb4⟩ := HR4.out.form (by omega)
              subst hA4
              have hc := (HR4.out.below HB2.out (Nat.le_refl _)).at_ (i := j) (by omega)
              rw [hxd] at hc
              have hjI : (j : Int) < (L : Int) := by omega
              have hx64 : (x : Int) % 18446744073709551616 = (x : Int) := by omega
              have HXJ := Lib.hid hx
              have HDL := Lib.hid (dg_len hx HPS.out)
              have HRM : Hid ((intOf (Value.int .i64 ((j : Int) - 1)) + 1).toNat < (intOf (Value.int .i64 (j : Int)) + 1).toNat) := Lib.hid (by simp [intOf])
              clear hxd hx
              go_wp2_with fail
              refine (fmt_any x (by omega) wr (HTr.out.up (HB2.out.mono (Nat.le_refl _)))).mono ?_
              rintro e w3 ⟨rfl, hb3⟩
              have HB3 := Lib.hid (HB2.out.trans (hb3.mono hWs))
              have HBL3 := Lib.hid (bld_up HBL.out hb3)
              have hW3 : Wp.heap.size ≤ w3.heap.size := HB3.out.size
              obtain ⟨ds, hds⟩ : ∃ ds, Lib.decDigits x = ds := ⟨_, rfl⟩
              have HDS := Lib.hid hds
              rw [hds] at HDL
              rw [hds]
              have hds1 := HDL.out.1
              have hds9 := HDL.out.2
              clear hb3 hc HB2 HBL hds
              by_cases hjt : j + 1 = L
              · have hjI2 : ¬ (j : Int) < (L : Int) - 1 := by omega
                have HDJ : Hid (Dg ps j = ds) := Lib.hid (by rw [← HDS.out]; exact dg_top HXJ.out (by rw [HLN.out]; exact hjt))
                have HD1 : Hid (Dg ps (j + 1) = []) := Lib.hid (by rw [hjt, ← HLN.out]; exact dg_end ps)
                rw [HD1.out] at HBL3
                go_wp2_with fail
                refine (wrStr_any Wp.heap.size Wp.heap.size _ ⟨ds.toArray⟩ w3 HBL3.out (by rw [sz_arr, Lib.byteCells_length]; simp; omega) hW3).mono ?_
                rintro e w4 ⟨⟨v4, rfl⟩, hbl4, hb4⟩
                have HBL4 : Hid (Lib.IsBuilder 185 5 Wp.heap.size Wp.heap.size (Lib.byteCells (Dg ps j)) w4) := Lib.hid (.inr (by rw [HDJ.out]; exact hbl4))
                have HB4 := Lib.hid (HB3.out.trans hb4)
                have HLL : Hid ((Dg ps j).length + 9 * j ≤ 9 * L) := Lib.hid (by rw [HDJ.out]; omega)
                clear hbl4 hb4 HBL3 HB3
                go_wp2_with fail
                go_roundw
                case rel => exact ⟨j, Nat.le_of_lt hjL, rfl, HBL4.out, HB4.out, HLL.out⟩
                case measure => exact HRM.out
              · have hjI2 : (j : Int) < (L : Int) - 1 := by omega
                have HDJ : Hid (Dg ps j = Dg ps (j + 1) ++ List.replicate (9 - ds.length) 48 ++ ds) := Lib.hid (by rw [← HDS.out]; exact dg_low HXJ.out (by rw [HLN.out]; omega) HPS.out HTOP.out)
                have hsl : ∀ W, (Instr.sliceAt 9 (.string ⟨#[48, 48, 48, 48, 48, 48, 48, 48, 48]⟩) (some (.int .i64 (ds.length : Int))) none none).run Tryz.prog W = .ok (.string ⟨(List.replicate (9 - ds.length) 48).toArray⟩) W := zeros_at ds.length hds1 hds9
                have hss : (⟨ds.toArray⟩ : ByteArray).size = ds.length := sz_arr ds
                go_wp2_with fail
                refine (wrStr_any Wp.heap.size Wp.heap.size _ ⟨Array.replicate (9 - ds.length) 48⟩ w3 HBL3.out (by rw [Lib.byteCells_length]; simp [ByteArray.size]; omega) hW3).mono ?_
                rintro e w4 ⟨⟨v4, rfl⟩, hbl4, hb4⟩
                have HBL4 : Hid (Lib.IsBuilder 185 5 Wp.heap.size Wp.heap.size (Lib.byteCells (Dg ps (j + 1) ++ List.replicate (9 - ds.length) 48)) w4) := Lib.hid (.inr (by
                  rw [Lib.byteCells_append]
                  have e : Lib.strCells ⟨Array.replicate (9 - ds.length) 48⟩ = Lib.byteCells (List.replicate (9 - ds.length) 48) := by rw [Lib.strCells_eq]; simp
                  rw [← e]; exact hbl4))
                have HB4 := Lib.hid (HB3.out.trans hb4)
                have hW4 : Wp.heap.size ≤ w4.heap.size := HB4.out.size
                clear hbl4 hb4 HBL3 HB3 hsl hss
                go_wp2_with fail
                refine (wrStr_any Wp.heap.size Wp.heap.size _ ⟨ds.toArray⟩ w4 HBL4.out (by rw [sz_arr, Lib.byteCells_length, List.length_append, List.length_replicate]; omega) hW4).mono ?_
                rintro e w5 ⟨⟨v5, rfl⟩, hbl5, hb5⟩
                have HBL5 : Hid (Lib.IsBuilder 185 5 Wp.heap.size Wp.heap.size (Lib.byteCells (Dg ps j)) w5) := Lib.hid (.inr (by rw [HDJ.out, Lib.byteCells_append]; exact hbl5))
                have HB5 := Lib.hid (HB4.out.trans hb5)
                have HLL : Hid ((Dg ps j).length + 9 * j ≤ 9 * L) := Lib.hid (by rw [HDJ.out, List.length_append, List.length_append, List.length_replicate]; omega)
                clear hbl5 hb5 HBL4 HB4
                go_wp2_with fail
                go_roundw
                case rel => exact ⟨j, Nat.le_of_lt hjL, rfl, HBL5.out, HB5.out, HLL.out⟩
                case measure => exact HRM.out
        · have hn5p : 0 < n5 := by rw [HL5.out, dlen_pos hk]; omega
          have hk0 : 0 < gk := by omega
          have hfew : ps.length < 225 := few_parts (v := z.natAbs) (by rw [← HEN.out]; omega) hk0 (by rw [HV5.out]; omega)
          have hn5l : n5 ≤ 35184372088832 := by
            rw [HL5.out]
            refine Nat.le_trans (dlen_mono (n := z.natAbs) ?_) (by rw [← HEN.out]; omega)
            have h1 : 1 ≤ 1000000000 ^ ps.length := Nat.one_le_pow _ _ (by decide)
            have h2 : gk * 1 ≤ gk * 1000000000 ^ ps.length := Nat.mul_le_mul_left _ h1
            rw [HV5.out]; omega
          go_wp2_with fail
          refine (sdivW A5 n5 c5 1000000000 (dig gk) wr HR5.out (wd_dig _) hn5l (by decide) (by decide)).mono ?_
          rw [wv_dig]
          rintro e w6 ⟨hb6, g6, n6, l6, rfl, hr6, hd6, hv6, hn6, hg6⟩
          have HB6 := Lib.hid (HB5.out.trans (hb6.mono HB5.out.size))
          have HO6 := Lib.hid (ownL_up HO4.out hb6)
          have HR6 := Lib.hid hr6
          have HD6 := Lib.hid hd6
          have HV6 := Lib.hid hv6
          obtain ⟨r, hr⟩ : ∃ r, gk % 1000000000 = r := ⟨_, rfl⟩
          have HR := Lib.hid hr
          rw [hr]
          have hr9 : r < 1000000000 := by rw [← hr]; exact Nat.mod_lt _ (by decide)
          have HNE : Hid (some g6 ≠ u4.ownBlock) := Lib.hid fun e => by have := (HO4.out.lt g6 e.symm).2; omega
          have HC6 := Lib.hid (cell_one_new w6 (.int .u32 (r : Int)) 171)
          clear hb6 hr6 hd6 hv6 HR5 HO4 HB5 hr
          go_wp2_with (at_builtin; refine wpList_append_own_at _ rfl (.tmp 31) (.tmp 33) _ rfl W.heap.size 171 i0 _ 1 4 Tryz.underlying89 HI0.out HI1.out HI2.out HI3.out rfl (by omega) u4 _ _ rfl (HO6.out.alloc _) ⟨_, 0, none⟩ 1 1 [.int .u32 (r : Int)] rfl rfl HC6.out ?k1 ?k2 ?k3 ?k4 ?_)
          case k1 => intro u hu; rw [List.mem_singleton.1 hu]; rfl
          case k2 => simp only [maxLen]; omega
          case k3 => omega
          case k4 => have := HB6.out.size; simp; omega
          intro v7 w7 hown7 hg7 hnil7 hat7
          have hlt6 : ∀ g, u4.ownBlock = some g → W.heap.size ≤ g := fun g hg => ((HO6.out.lt g hg).1)
          have HB7 := Lib.hid ((HB6.out.alloc HB6.out.size (.cells #[.int .u32 (r : Int)] 171)).grown hg7 (by have := HB6.out.size; simp; omega) hlt6)
          have HR7 := Lib.hid (rdW_grown HR6.out (Nat.le_refl _) hg7 HNE.out)
          have HO7 : Hid (w7.ownsRow W.heap.size 171 1 v7 (ps ++ [r]).length (u32s (ps ++ [r]))) := Lib.hid (by
            rw [List.length_append, List.length_singleton]
            unfold u32s at hown7 ⊢
            rw [List.map_append]
            exact hown7)
          clear hown7 hg7 hnil7 hat7 hlt6 HB6 HO6 HR6 HC6 HNE
          go_wp2_with fail
          refine (norm_any false (some ⟨g6, 0, none⟩) n6 n6 l6 w7 HR7.out HD6.out (Nat.le_refl _) (by omega)).mono ?_
          rw [HV6.out]
          rintro e w8 ⟨hb8, b8, A8, n8, c8, rfl, h8⟩
          have HB8 := Lib.hid (HB7.out.trans (hb8.mono HB7.out.size))
          have HO8 := Lib.hid (ownL_up HO7.out hb8)
          have HRD : Hid (RdW w8 w8.heap.size A8 n8 (dig (gk / 1000000000))) := Lib.hid h8.rd
          have hn8 := h8.nc
          have hc8 := h8.cm
          clear hb8 h8 HB7 HO7
          have HVV : Hid (z.natAbs = pv (ps ++ [r]) + gk / 1000000000 * 1000000000 ^ (ps ++ [r]).length) := Lib.hid (by
            rw [HV5.out, pv_snoc, List.length_append, List.length_singleton, Nat.pow_succ]
            have h := Nat.div_add_mod gk 1000000000
            rw [HR.out] at h
            generalize gk / 1000000000 = q at *
            generalize 1000000000 ^ ps.length = X at *
            rw [← h]
            grind)
          have HTT : Hid (gk / 1000000000 = 0 → ps ++ [r] ≠ [] ∧ PsTop (ps ++ [r])) := Lib.hid fun h0 => ⟨by simp, fun x hx => by
            have h := Nat.div_add_mod gk 1000000000
            rw [HR.out, h0] at h
            have : x = r := by simpa using hx.symm
            omega⟩
          have HLL : Hid ((ps ++ [r]).length ≤ 225) := Lib.hid (by rw [List.length_append, List.length_singleton]; omega)
          have hfd : ∀ w, (Instr.field 91 (.agg #[.bool b8, .slice A8 n8 c8]) 1).run Tryz.prog w = .ok (.slice A8 n8 c8) w := fun _ => by kernel_rfl
          have HMM : Hid (gk / 1000000000 < gk) := Lib.hid (by omega)
          go_wp2_with fail
          go_roundg (gk / 1000000000)
          case rel => exact ⟨ps ++ [r], A8, n8, c8, rfl, HRD.out, hn8, hc8, HO8.out, HB8.out, HVV.out, psOk_snoc HPS.out hr9, HTT.out, HLL.out⟩
          case measure => exact HMM.out
end Go.Proofs.YtakllkkmofdpaaaGreatDoor
/- The tables of Go's library that the rows list: a world that holds them; what a row's condition gives a walk. -/
namespace Go.Proofs.YtakllkkmofdpaaaGreatDoor
open Go.ChangeShapes Go.WideShapes Go.ChangeAt Go.RowKit
set_option linter.unusedVariables false

theorem laid_tail {P : Program} {W : World} {x : String × DataW Unit} {rest : List (String × DataW Unit)} (h : laidMet P (x :: rest) W) : laidMet P rest W := by
  obtain ⟨ps, ⟨g, t, cs, fuel, p, q, _, _, _, _, hr, hps⟩, hn, hz⟩ := h
  subst hps
  exact ⟨q, hr, (List.nodup_append.1 hn).2.1, fun b off hp => hz b off (List.mem_append_right _ hp)⟩
theorem tab_of {W : World} {x y : String × DataW Unit} {rest : List (String × DataW Unit)} (h : laidMet Tryz.prog (x :: y :: ("internal/strconv.uint64pow10", Lib.tabData .u64 Lib.pow10Tab) :: rest) W) : TabOk W :=
  Lib.tabIs_of_head (t := 248) (n := 20) (show Tryz.prog.globalNamed "internal/strconv.uint64pow10" = some 0 by kernel_rfl) (by kernel_rfl) (by kernel_rfl) Tryz.underlying172 (by kernel_rfl) (by kernel_rfl) (laid_tail (laid_tail h))
noncomputable def laidWorld5 (os : Os) : World := World.laidAll Tryz.prog os Rows.balanceSumsRow.laid
theorem laidWorld5_met0 (os : Os) (args : Array Value) : laidMet Tryz.prog Rows.balanceSumsRow.laid ((laidWorld5 os).forCall (fun _ _ => 0) ⟨#[], args, []⟩).memory :=
  laidMet_laidAll args (by kernel_rfl) (by kernel_rfl)
theorem laidWorld5_met (os : Os) (args : Array Value) : laidMetH Tryz.prog Rows.balanceSumsRow.laid ((laidWorld5 os).forCall (fun _ _ => 0) ⟨#[], args, []⟩).memory :=
  laidWorld5_met0 os args
theorem laidWorld5_ok {W : World} (h : laidMetH Tryz.prog Rows.balanceSumsRow.laid W) : TabOk W := tab_of h
end Go.Proofs.YtakllkkmofdpaaaGreatDoor
/- An append of one element; rows that a function owns. -/
namespace Go.Proofs.YtakllkkmofdpaaaGreatDoor
open Go.ChangeShapes Go.WideShapes Go.ChangeAt Go.RowKit
set_option linter.unusedVariables false
section
variable {P : Program}
/-- an append of a literal of one element to a row that is owned -/
theorem wpList_app1 {ops : Array Oper} {rest : List Oper} {o : Oper} {a : Act} {Q : Exit → Act → World → Prop} {w : World} {lit : Array Value} {T : TypeId} (hgd : o.guard = none) (s x : Operand) (t : TypeId)
    (ho : o.op = .call { callee := .builtin .append, args := #[s, x], argTypes := #[t, t] })
    (base : Nat) (e : TypeId) (i : TypeInfo) (z : Value) (size bytes : Nat) (ht : P.underlying t = some (.slice e)) (hi : P.info? e = some i) (hz : i.zero = some z)
    (hsize : i.size = size) (hby : i.bytes = bytes) (hzs : z.cells.size = size) (hsz : 0 < size)
    (v : Value) (n : Nat) (xs : List Value) (hs : a.eval s = v) (hown : w.ownsRow base e size v n xs)
    (hx : a.eval x = .slice (some ⟨w.heap.size, 0, none⟩) 1 1) (hl : lit.size = size) (h1 : ∀ u ∈ lit.toList, u.oneCell' = true)
    (h63 : n + 1 ≤ maxLen) (hbytes : (n + 1) * bytes ≤ 140737488355328) (hbase : base ≤ w.heap.size)
    (h : ∀ v' w', w'.ownsRow base e size v' (n + 1) (xs ++ lit.toList) → Below base w w' → (w.alloc (.cells lit T)).grownBy w' v.ownBlock → wpList P ops Q rest (a.put o.dst v') w') :
    wpList P ops Q (o :: rest) a (w.alloc (.cells lit T)) := by
  refine wpList_append_own_at _ hgd s x t ho base e i z size bytes ht hi hz hsize hby hzs hsz v n xs hs (hown.alloc _) ⟨w.heap.size, 0, none⟩ 1 1 lit.toList hx (by rw [Array.length_toList, hl, Nat.one_mul]) (fun j u hu => ?_) h1 h63 hbytes (Nat.le_trans hbase (by simp)) fun v' w' h2 h3 _ _ => ?_
  · rw [Addr.add_lit, Nat.zero_add, (Blk.new w T lit).cell j]
    simpa using hu
  · exact h v' w' h2 (((Below.refl base w).alloc hbase (.cells lit T)).grown h3 (Nat.le_trans hbase (by simp)) fun k hk => (hown.lt k hk).1) h3
end
theorem own_keep {w w' : World} {base e size n : Nat} {v : Value} {xs : List Value} (h : w.ownsRow base e size v n xs) (hb : Below w.heap.size w w') : w'.ownsRow base e size v n xs := by
  refine ⟨h.1, ?_⟩
  rcases h.2 with h1 | ⟨g, cap, cur, h1, h2, h3, h4⟩
  · exact .inl h1
  · refine .inr ⟨g, cap, cur, h1, h2, ?_, h4⟩
    exact (hb.block g (Array.getElem?_eq_some_iff.1 h3).1).trans h3
theorem own_none (w : World) (base e size : Nat) : w.ownsRow base e size (.slice none 0 0) 0 [] := ⟨by simp, .inl ⟨rfl, rfl⟩⟩
theorem own_rd {w : World} {base e size n : Nat} {v : Value} {xs : List Value} (h : w.ownsRow base e size v n xs) : ∃ A c, v = .slice A n c ∧ Rd w w.heap.size size A n xs ∧ n ≤ c ∧ c ≤ maxLen ∧ (0 < n → ∃ b off, A = some ⟨b, off, none⟩ ∧ base ≤ b) := by
  have hl := h.1
  rcases h.2 with ⟨h1, h2⟩ | ⟨g, cap, cur, h1, h2, h3, h4, h5, h6, h7⟩
  · subst h2
    exact ⟨none, 0, h1, ⟨hl, fun h => by omega⟩, Nat.le_refl _, by simp [maxLen], fun h => by omega⟩
  · refine ⟨some ⟨g, 0, none⟩, cap, h1, ⟨hl, fun _ => ⟨g, 0, rfl, (Array.getElem?_eq_some_iff.1 h3).1, fun j u hu => ?_⟩⟩, h4, h5, fun _ => ⟨g, 0, rfl, h2⟩⟩
    have hb : Blk w g e cur := h3
    rw [Nat.zero_add, hb.cell j]
    rw [← h7] at hu
    have hj := (List.getElem?_eq_some_iff.1 hu).1
    rw [List.length_take] at hj
    rw [List.getElem?_take_of_lt (by omega)] at hu
    simpa using hu
end Go.Proofs.YtakllkkmofdpaaaGreatDoor
/- Rows that a function owns, of which every cell has a property: an append leaves other cells as they are. -/
namespace Go.Proofs.YtakllkkmofdpaaaGreatDoor
open Go.ChangeShapes Go.WideShapes Go.ChangeAt Go.RowKit
set_option linter.unusedVariables false

/-- a row that is owned; each cell of its block has the property S -/
def OwnS (S : Value → Prop) (w : World) (base : Nat) (e : TypeId) (size : Nat) (v : Value) (n : Nat) (xs : List Value) : Prop :=
  xs.length = n * size ∧ ((v = .slice none 0 0 ∧ n = 0) ∨ ∃ g cap cur, v = .slice (some ⟨g, 0, none⟩) n cap ∧ base ≤ g ∧ Blk w g e cur ∧ n ≤ cap ∧ cap ≤ maxLen ∧ cur.size = cap * size ∧ cur.toList.take (n * size) = xs ∧ ∀ u ∈ cur.toList, S u)
/-- cells without the property, and blocks of other types, are left as they are -/
structure Keeps (S : Value → Prop) (base : Nat) (e : TypeId) (w w' : World) : Prop where
  low : Below base w w'
  size : w.heap.size ≤ w'.heap.size
  cell : ∀ p u, w.cell? p = some u → ¬ S u → w'.cell? p = some u
  blk : ∀ b t cs, Blk w b t cs → t ≠ e → Blk w' b t cs
section
variable {S : Value → Prop} {w w' : World} {base e size n : Nat} {v : Value} {xs : List Value}
theorem OwnS.own (h : OwnS S w base e size v n xs) : w.ownsRow base e size v n xs := by
  refine ⟨h.1, ?_⟩
  rcases h.2 with h1 | ⟨g, cap, cur, h1, h2, h3, h4, h5, h6, h7, _⟩
  · exact .inl h1
  · exact .inr ⟨g, cap, cur, h1, h2, h3, h4, h5, h6, h7⟩
theorem OwnS.keep (h : OwnS S w base e size v n xs) (hb : Below w.heap.size w w') : OwnS S w' base e size v n xs := by
  refine ⟨h.1, ?_⟩
  rcases h.2 with h1 | ⟨g, cap, cur, h1, h2, h3, h4⟩
  · exact .inl h1
  · exact .inr ⟨g, cap, cur, h1, h2, h3.below hb h3.lt, h4⟩
theorem ownS_none (S : Value → Prop) (w : World) (base e size : Nat) : OwnS S w base e size (.slice none 0 0) 0 [] := ⟨by simp, .inl ⟨rfl, rfl⟩⟩
theorem Keeps.old (h : ∀ i, i < w.heap.size → w'.heap[i]? = w.heap[i]?) (hs : w.heap.size ≤ w'.heap.size) (ho : w'.os = w.os) (ht : w'.tape = w.tape) (hp : w'.output = w.output) (hbs : base ≤ w.heap.size) : Keeps S base e w w' :=
  ⟨⟨ho, ht, hp, hs, fun i hi => h i (Nat.lt_of_lt_of_le hi hbs)⟩, hs, fun p u hu _ => (World.cell?_of_block (h _ (World.block_lt_of_cell? w p hu))).trans hu, fun b t cs hb _ => (h b hb.lt).trans hb⟩
theorem zero_mem {z : Array Value} {k : Nat} {u : Value} (h : u ∈ (Builtin.zeroCells z k).toList) : u ∈ z.toList := by
  unfold Builtin.zeroCells at h
  rw [Array.mem_toList_iff, Array.mem_map] at h
  obtain ⟨i, hi, rfl⟩ := h
  rw [Array.mem_range] at hi
  have hz : 0 < z.size := by
    rcases Nat.eq_zero_or_pos z.size with e | e
    · rw [e] at hi; simp at hi
    · exact e
  have hm : i % z.size < z.size := Nat.mod_lt _ hz
  rw [getElem!_pos z _ hm]
  exact Array.mem_toList_iff.2 (Array.getElem_mem hm)
end
section
variable {P : Program}
theorem run_append_S {S : Value → Prop} (w : World) (base : Nat) (t ty e : TypeId) (i : TypeInfo) (z : Value) (size bytes : Nat) (ht : P.underlying t = some (.slice e)) (hi : P.info? e = some i) (hz : i.zero = some z)
    (hsize : i.size = size) (hby : i.bytes = bytes) (hzs : z.cells.size = size) (hsz : 0 < size) (hzS : ∀ u ∈ z.cells.toList, S u)
    (v : Value) (n : Nat) (xs : List Value) (hown : OwnS S w base e size v n xs)
    (a : Addr) (m c : Nat) (news : List Value) (hl : news.length = m * size) (hnews : ∀ j u, news[j]? = some u → w.cell? (a.add j) = some u) (h1 : ∀ u ∈ news, u.oneCell' = true ∧ S u)
    (h63 : n + m ≤ maxLen) (hbytes : (n + m) * bytes ≤ 140737488355328) (hbase : base ≤ w.heap.size) (hm : 0 < m) :
    ∃ v' w', (Builtin.append_ #[t, t] ty #[v, .slice (some a) m c]).run P w = .ok v' w' ∧ OwnS S w' base e size v' (n + m) (xs ++ news) ∧ Keeps S base e w w' ∧ (v'.ownBlock = v.ownBlock ∨ v'.ownBlock = some w.heap.size) := by
  subst hsize
  subst hby
  have hsmall : n + m ≤ 9223372036854775807 := by simp only [maxLen] at h63; omega
  have hlen : (xs ++ news).length = (n + m) * i.size := by rw [List.length_append, hown.1, hl, Nat.add_mul]
  have fresh : ∀ (old : Nat), (∀ u ∈ xs, S u) →
      OwnS S (w.drew.alloc (.cells (xs.toArray ++ news.toArray ++ Builtin.zeroCells z.cells (grownCap w (n + m) old e - (n + m))) e)) base e i.size (.slice (some ⟨w.heap.size, 0, none⟩) (n + m) (grownCap w (n + m) old e)) (n + m) (xs ++ news) ∧
      Keeps S base e w (w.drew.alloc (.cells (xs.toArray ++ news.toArray ++ Builtin.zeroCells z.cells (grownCap w (n + m) old e - (n + m))) e)) := by
    intro old hx
    have hge := grownCap_ge w (n + m) old e
    refine ⟨⟨hlen, .inr ⟨w.heap.size, _, _, rfl, hbase, Blk.new w.drew _ _, hge, grownCap_le_maxLen w (n + m) old e h63, ?_, ?_, ?_⟩⟩, Keeps.old (fun k hk => heap_alloc_old w.drew _ hk) (by simp) rfl rfl rfl hbase⟩
    · rw [Array.size_append, Array.size_append, List.size_toArray, List.size_toArray, size_zeroCells, hzs, hown.1, hl, ← Nat.add_mul, ← Nat.add_mul, Nat.add_sub_cancel' hge]
    · rw [Array.toList_append, Array.toList_append, ← hlen]
      exact List.take_left
    · intro u hu
      rw [Array.toList_append, Array.toList_append, List.mem_append, List.mem_append] at hu
      rcases hu with (hu | hu) | hu
      · exact hx u (by simpa using hu)
      · exact (h1 u (by simpa using hu)).2
      · exact hzS u (zero_mem hu)
  rcases hown.2 with ⟨rfl, rfl⟩ | ⟨g, cap, cur, rfl, hbg, hg, hnc, hcm, hcs, htake, hS⟩
  · have hx : xs = [] := List.eq_nil_of_length_eq_zero (by simpa using hown.1)
    subst hx
    have hr := run_append_nil (P := P) w t ty e i z ht hi hz a m c news hl hnews hm (by omega) (by have hb := hbytes; rw [Nat.zero_add] at hb; omega)
    obtain ⟨f1, f2⟩ := fresh 0 (by simp)
    simp only [Nat.zero_add, List.nil_append, Array.empty_append] at f1 f2 ⊢
    exact ⟨_, _, hr, f1, f2, .inr rfl⟩
  · have hxS : ∀ u ∈ xs, S u := fun u hu => hS u (List.mem_of_mem_take (by rw [htake]; exact hu))
    by_cases hroom : n + m ≤ cap
    · have hfit : n * i.size + news.length ≤ cur.size := by rw [hl, hcs, ← Nat.add_mul]; exact Nat.mul_le_mul_right _ hroom
      have hr := run_append_room (P := P) w t ty e i ht hi g n cap cur hg a m c news hl hnews (fun u hu => (h1 u hu).1) hroom hfit
      have hoth : ∀ k, k ≠ g → (w.setRow g (cur.toList.take (n * i.size) ++ news ++ cur.toList.drop (n * i.size + news.length)).toArray).heap[k]? = w.heap[k]? := fun k hk => setRow_other w g k _ hk
      refine ⟨_, _, hr, ⟨hlen, .inr ⟨g, cap, _, rfl, hbg, setRow_heap w g cur _ e _ hg, hroom, hcm, ?_, ?_, ?_⟩⟩, ⟨⟨rfl, rfl, rfl, by simp, fun k hk => hoth k (by omega)⟩, by simp, fun p u hu hn => ?_, fun b t' cs hb hne => ?_⟩, .inl rfl⟩
      · rw [List.size_toArray, List.length_append, List.length_append, List.length_take, List.length_drop, Array.length_toList]
        omega
      · rw [htake, ← hlen]
        exact List.take_left
      · intro u hu
        rw [List.mem_append, List.mem_append] at hu
        rcases hu with (hu | hu) | hu
        · exact hS u (List.mem_of_mem_take hu)
        · exact (h1 u hu).2
        · exact hS u (List.mem_of_mem_drop hu)
      · have hpg : p.block ≠ g := by
          intro e
          obtain ⟨b, off, sp⟩ := p
          simp only at e
          subst e
          cases sp with
          | none =>
            have := hg.cell off
            rw [this] at hu
            exact hn (hS u (Array.mem_toList_iff.2 (Array.mem_of_getElem? hu)))
          | some s =>
            unfold World.cell? at hu
            rw [show w.heap[b]? = some (.cells cur _ (0, 0)) from hg] at hu
            simp at hu
        exact (World.cell?_of_block (hoth _ hpg)).trans hu
      · have hbg' : b ≠ g := by
          rintro rfl
          have h2 : some (Obj.cells cs t' (0, 0)) = some (Obj.cells cur e (0, 0)) := hb.symm.trans hg
          injection h2 with h2
          injection h2 with _ h2
          exact hne h2
        exact (hoth b hbg').trans hb
    · have holds : ∀ j u, xs[j]? = some u → w.cell? ((⟨g, 0, none⟩ : Addr).add j) = some u := hown.own.cells (g := g) rfl
      have hr := run_append_grow (P := P) w t ty e i z ht hi hz ⟨g, 0, none⟩ n cap xs hown.1 holds a m c news hl hnews (by omega) (by omega) (growslice_fits (by omega) hbytes)
      obtain ⟨f1, f2⟩ := fresh cap hxS
      exact ⟨_, _, hr, f1, f2, .inr rfl⟩
/-- an append of a literal of one element -/
theorem wpList_appS {S : Value → Prop} {ops : Array Oper} {rest : List Oper} {o : Oper} {a : Act} {Q : Exit → Act → World → Prop} {w : World} {lit : Array Value} {T : TypeId} (hgd : o.guard = none) (s x : Operand) (t : TypeId)
    (ho : o.op = .call { callee := .builtin .append, args := #[s, x], argTypes := #[t, t] })
    (base : Nat) (e : TypeId) (i : TypeInfo) (z : Value) (size bytes : Nat) (ht : P.underlying t = some (.slice e)) (hi : P.info? e = some i) (hz : i.zero = some z)
    (hsize : i.size = size) (hby : i.bytes = bytes) (hzs : z.cells.size = size) (hsz : 0 < size) (hzS : ∀ u ∈ z.cells.toList, S u)
    (v : Value) (n : Nat) (xs : List Value) (hs : a.eval s = v) (hown : OwnS S w base e size v n xs)
    (hx : a.eval x = .slice (some ⟨w.heap.size, 0, none⟩) 1 1) (hl : lit.size = size) (h1 : ∀ u ∈ lit.toList, u.oneCell' = true ∧ S u)
    (h63 : n + 1 ≤ maxLen) (hbytes : (n + 1) * bytes ≤ 140737488355328) (hbase : base ≤ w.heap.size)
    (h : ∀ v' w', OwnS S w' base e size v' (n + 1) (xs ++ lit.toList) → Keeps S base e (w.alloc (.cells lit T)) w' → (v'.ownBlock = v.ownBlock ∨ v'.ownBlock = some (w.heap.size + 1)) → wpList P ops Q rest (a.put o.dst v') w') :
    wpList P ops Q (o :: rest) a (w.alloc (.cells lit T)) := by
  refine wpList_plain hgd fun K hK => ?_
  obtain ⟨v', w', hr, h2, h3, h4⟩ := run_append_S (P := P) (w.alloc (.cells lit T)) base t o.type e i z size bytes ht hi hz hsize hby hzs hsz hzS v n xs (hown.keep ((Below.refl _ _).alloc (Nat.le_refl _) _)) ⟨w.heap.size, 0, none⟩ 1 1 lit.toList (by rw [Array.length_toList, hl, Nat.one_mul]) (fun j u hu => by
    rw [Addr.add_lit, Nat.zero_add, (Blk.new w T lit).cell j]
    simpa using hu) h1 h63 hbytes (Nat.le_trans hbase (by simp)) (by decide)
  unfold Oper.wp execOp
  simp only [ho, resolve, invoke, builtin, Sem.run_bind, Sem.run_pure, Result.andThen_ok, List.map_toArray, List.map_cons, List.map_nil, hs, hx, hr]
  exact hK _ _ (h v' w' h2 h3 (by simpa using h4))
end
end Go.Proofs.YtakllkkmofdpaaaGreatDoor
/- Reading decimal digits in parts, plain. -/
namespace Go.Proofs.YtakllkkmofdpaaaGreatDoor
set_option linter.unusedVariables false
set_option linter.unusedSimpArgs false

def AllDg (l : List UInt8) : Prop := ∀ c ∈ l, IsDg c
theorem AllDg.take {l : List UInt8} (h : AllDg l) (n : Nat) : AllDg (l.take n) := fun c hc => h c (List.mem_of_mem_take hc)
theorem AllDg.drop {l : List UInt8} (h : AllDg l) (n : Nat) : AllDg (l.drop n) := fun c hc => h c (List.mem_of_mem_drop hc)
theorem puM : ∀ (l : List UInt8) (mx acc : Nat), AllDg l → mx ≤ 4294967295 → dvg acc l ≤ mx → Lib.parseUintM mx acc l = .ok (dvg acc l)
  | [], mx, acc, _, _, _ => rfl
  | c :: r, mx, acc, h, h4, hm => by
    have hc := h c (List.mem_cons_self ..)
    have hr : AllDg r := fun x hx => h x (List.mem_cons_of_mem _ hx)
    have e : dvg acc (c :: r) = dvg (acc * 10 + (c.toNat - 48)) r := rfl
    rw [e] at hm ⊢
    have hle : acc * 10 + (c.toNat - 48) ≤ dvg (acc * 10 + (c.toNat - 48)) r := by
      rw [dvg_acc]
      have : 1 ≤ 10 ^ r.length := Nat.one_le_pow _ _ (by decide)
      have := Nat.mul_le_mul_left (acc * 10 + (c.toNat - 48)) this
      omega
    have ih := puM r mx _ hr h4 hm
    unfold Lib.parseUintM
    rw [if_pos (show 48 ≤ c.toNat ∧ c.toNat ≤ 57 from hc), if_neg (by omega), if_neg (by omega)]
    exact ih
theorem pu32 {l : List UInt8} (h : AllDg l) (h0 : l ≠ []) (h9 : l.length ≤ 9) : Lib.parseUintB 32 l = .ok (dv l) := by
  unfold Lib.parseUintB
  rw [if_neg h0]
  refine puM l _ 0 h (by decide) ?_
  have h1 := dv_lt h
  have h2 : 10 ^ l.length ≤ 10 ^ 9 := Nat.pow_le_pow_right (by decide) h9
  show dv l ≤ _
  omega
/-- the value of a part and of what follows -/
theorem dv_part (l m : List UInt8) (h : l = [] ∨ m.length = 9) : dv (l ++ m) = dv l * 1000000000 + dv m := by
  rw [dv_append]
  rcases h with rfl | h
  · simp [dv, dvg]
  · rw [h]
theorem dv_dlen {l : List UInt8} (h : AllDg l) : dlen (dv l) ≤ l.length := by
  refine dlen_le (Nat.lt_of_lt_of_le (dv_lt h) ?_)
  exact Nat.pow_le_pow_left (by decide) _
end Go.Proofs.YtakllkkmofdpaaaGreatDoor
/- The integer of a decimal text. -/
namespace Go.Proofs.YtakllkkmofdpaaaGreatDoor
open Go.ChangeShapes Go.WideShapes Go.ChangeAt Go.RowKit
set_option linter.unusedVariables false
set_option linter.unusedSimpArgs false
attribute [local go_sem ↓] execOp_call_val
attribute [local go_sem] callVal_func setCell_drewN alloc_drewN

theorem hp_minus (l : List UInt8) : Lib.hasPrefix (45 :: l) [45] = true := by simp [Lib.hasPrefix]
theorem tp_minus (l : List UInt8) : Lib.trimPrefix (45 :: l) [45] = l := by unfold Lib.trimPrefix; rw [if_pos (hp_minus l)]; rfl
theorem hp_dg {l : List UInt8} (h : AllDg l) : Lib.hasPrefix l [45] = false := by
  cases l with
  | nil => rfl
  | cons c r =>
    have hc := (h c (List.mem_cons_self ..)).1
    have : ((45 : UInt8) == c) = false := by
      cases hb : ((45 : UInt8) == c) with
      | false => rfl
      | true => have := eq_of_beq hb; subst this; exact absurd hc (by decide)
    simp [Lib.hasPrefix, List.isPrefixOf, this]
theorem tp_dg {l : List UInt8} (h : AllDg l) : Lib.trimPrefix l [45] = l := by unfold Lib.trimPrefix; rw [hp_dg h]; rfl
theorem ext_take (l : List UInt8) (n : Nat) (h : n ≤ l.length) : (⟨l.toArray⟩ : ByteArray).extract 0 n = ⟨(l.take n).toArray⟩ := by
  apply ByteArray.ext
  rw [ByteArray.data_extract]
  simp
theorem ext_drop (l : List UInt8) (n : Nat) : (⟨l.toArray⟩ : ByteArray).extract n l.length = ⟨(l.drop n).toArray⟩ := by
  apply ByteArray.ext
  rw [ByteArray.data_extract]
  apply Array.ext'
  simp
  exact List.take_of_length_le (by simp)
/-- the number that a text stands for -/
def rdZ (neg : Bool) (l : List UInt8) : Int := if neg then -(dv l : Int) else dv l
def rdT (neg : Bool) (l : List UInt8) : ByteArray := ⟨((if neg then [45] else []) ++ l).toArray⟩
theorem lg_zero (w : World) (B : Nat) : LgIs w B 0 false none 0 0 := ⟨by simp, by rw [Int.natAbs_zero, dlen_zero], by rw [Int.natAbs_zero, dig_zero]; exact rdW_nil _ _ _, Nat.le_refl _, by decide⟩
theorem lg_sign {w : World} {B v : Nat} {A : Option Addr} {n c : Nat} (h : LgIs w B (v : Int) false A n c) (m : Bool) : LgIs w B (sgn m v) (m && decide (0 < n)) A n c := by
  have hn : n = dlen v := by rw [h.en, Int.natAbs_natCast]
  refine ⟨?_, by rw [sgn_abs]; exact hn, by rw [sgn_abs]; have := h.rd; rwa [Int.natAbs_natCast] at this, h.nc, h.cm⟩
  rw [sgn_neg]
  congr 1
  refine decide_eq_decide.2 ?_
  rw [hn]
  by_cases h0 : v = 0
  · subst h0; rw [dlen_zero]
  · rw [dlen_pos h0]; omega
theorem str_to (l : List UInt8) (k : Nat) (h : k ≤ l.length) (W : World) : (Instr.sliceAt 9 (.string ⟨l.toArray⟩) none (some (.int .i64 (k : Int))) none).run Tryz.prog W = .ok (.string ⟨(l.take k).toArray⟩) W := by
  rw [run_sliceAt_string W 9 _ _ _ _ Tryz.underlying9, run_slice_string_h W 9 _ Tryz.underlying9 .i64 (k : Int) (by omega) (by rw [sz_arr]; omega), Int.toNat_natCast, ext_take l k h]
theorem str_from (l : List UInt8) (k : Nat) (h : k ≤ l.length) (W : World) : (Instr.sliceAt 9 (.string ⟨l.toArray⟩) (some (.int .i64 (k : Int))) none none).run Tryz.prog W = .ok (.string ⟨(l.drop k).toArray⟩) W := by
  rw [run_sliceAt_string W 9 _ _ _ _ Tryz.underlying9, run_slice_string_l W 9 _ Tryz.underlying9 .i64 (k : Int) (by omega) (by rw [sz_arr]; omega), Int.toNat_natCast, sz_arr, ext_drop l k]
def RdI1 (g2 g4 : Nat) (l : List UInt8) (w wr : World) (k : Nat) (v0 : Value) : Prop := ∃ (dn rs : List UInt8) (A : Option Addr) (n c : Nat), v0 = .string ⟨rs.toArray⟩ ∧ l = dn ++ rs ∧ k = rs.length ∧ (dn = [] ∨ rs.length % 9 = 0) ∧ Below w.heap.size w wr ∧ Blk wr g2 91 #[.bool false, .slice none 0 0] ∧ Blk wr g4 91 #[.bool false, .slice A n c] ∧ LgIs wr wr.heap.size (dv dn : Int) false A n c
set_option maxRecDepth 100000 in
set_option maxHeartbeats 2000000 in
theorem read_any (neg : Bool) (l : List UInt8) (hd : AllDg l) (hl : l.length ≤ 1000000) (w : World) :
    Calls Tryz.prog 126 #[.string (rdT neg l)] w (LgP (rdZ neg l) w) := by
  have HP : Hid (Lib.hasPrefix (rdT neg l).data.toList [45] = neg) := Lib.hid (by cases neg; exact hp_dg hd; exact hp_minus l)
  have HT : Hid (Lib.trimPrefix (rdT neg l).data.toList [45] = l) := Lib.hid (by cases neg; exact tp_dg hd; exact tp_minus l)
  have HD := Lib.hid hd
  have HB0 : Hid (Below w.heap.size w ((w.alloc (.cells #[.bool false, .slice none 0 0] 91)).alloc (.cells #[.bool false, .slice none 0 0] 91))) := Lib.hid (((Below.refl _ _).alloc (Nat.le_refl _) _).alloc (by simp) _)
  have HX1 : Hid (Blk ((w.alloc (.cells #[.bool false, .slice none 0 0] 91)).alloc (.cells #[.bool false, .slice none 0 0] 91)) w.heap.size 91 #[.bool false, .slice none 0 0]) := Lib.hid ((Blk.new w _ _).alloc _)
  have HX2 : Hid (Blk ((w.alloc (.cells #[.bool false, .slice none 0 0] 91)).alloc (.cells #[.bool false, .slice none 0 0] 91)) (w.heap.size + 1) 91 #[.bool false, .slice none 0 0]) := Lib.hid (Blk.new_ (by simp))
  generalize rdT neg l = s at *
  clear hd
  go_enter Tryz.func126, Tryz.ntmps126
  go_wp2_with fail
  refine (Tryz.strings_HasPrefix s ⟨#[45]⟩ _).mono ?_
  rintro e w1 ⟨he, hw⟩
  subst hw
  rw [show (⟨#[45]⟩ : ByteArray).data.toList = [45] from rfl, HP.out] at he
  subst he
  go_wp2_with fail
  refine (Tryz.strings_TrimPrefix s ⟨#[45]⟩ _).mono ?_
  rintro e w1 ⟨he, hw⟩
  subst hw
  rw [show (⟨#[45]⟩ : ByteArray).data.toList = [45] from rfl, HT.out] at he
  subst he
  go_wp2_with fail
  generalize ((w.alloc (.cells #[.bool false, .slice none 0 0] 91)).alloc (.cells #[.bool false, .slice none 0 0] 91)) = W at *
  obtain ⟨g4, hg4⟩ : ∃ g, w.heap.size + 1 = g := ⟨_, rfl⟩
  rw [hg4] at HX2
  have HG4 := Lib.hid hg4
  rw [hg4]
  clear hg4
  have hne24 : w.heap.size ≠ g4 := by have := HG4.out; omega
  have hg4l : w.heap.size ≤ g4 := by have := HG4.out; omega
  go_loopg [0] l.length (fun k v0 wr => RdI1 w.heap.size g4 l w wr k v0)
  case atStart => exact ⟨[], l, none, 0, 0, rfl, rfl, rfl, .inl rfl, HB0.out, HX1.out, HX2.out, lg_zero _ _⟩
  case round =>
    clear HB0 HX1 HX2 HP HT
    obtain ⟨dn, rs, A, n, c, rfl, hlr, hgk, hmd, hbr, hp2, hp4, ha⟩ := hrel
    have HLR := Lib.hid hlr
    have HGK := Lib.hid hgk
    have HMD := Lib.hid hmd
    have HBR := Lib.hid hbr
    have HP2 := Lib.hid hp2
    have HP4 := Lib.hid hp4
    have HA := Lib.hid ha
    have HAN : Hid (n = dlen (dv dn)) := Lib.hid (by rw [ha.en, Int.natAbs_natCast])
    have HSR : Hid ((⟨rs.toArray⟩ : ByteArray).size = rs.length) := Lib.hid (sz_arr rs)
    clear hlr hgk hmd hbr hp2 hp4 ha
    by_cases hrs : rs.length = 0
    · have hs0 : (⟨rs.toArray⟩ : ByteArray).size = 0 := by rw [HSR.out, hrs]
      have hdn : dn = l := by rw [HLR.out, List.eq_nil_of_length_eq_zero hrs, List.append_nil]
      rw [hdn] at HA HAN
      clear hdn hrs
      have z0 := HP4.out.cell 0
      have z1 := HP4.out.cell 1
      have zf := HP4.out.frozen
      have zl := HP4.out.lt
      have HEND : Hid (∀ b, b = (neg && decide (0 < n)) → LgIs (wr.setCell ⟨g4, 0, none⟩ (.bool b)) (wr.setCell ⟨g4, 0, none⟩ (.bool b)).heap.size (rdZ neg l) b A n c) := Lib.hid fun b hb => by
        rw [hb]
        exact (lg_sign HA.out neg).keep (HP4.out.cell 0) (by simp) _
      have HPX : Hid (∀ b, Blk (wr.setCell ⟨g4, 0, none⟩ (.bool b)) g4 91 #[.bool b, .slice A n c] ∧ Blk (wr.setCell ⟨g4, 0, none⟩ (.bool b)) w.heap.size 91 #[.bool false, .slice none 0 0] ∧ Below w.heap.size w (wr.setCell ⟨g4, 0, none⟩ (.bool b))) := Lib.hid fun b => ⟨HP4.out.set_at (i := 0) (.bool b) (by simp), HP2.out.far hne24 _, HBR.out.setCell hg4l _⟩
      have hgs : w.heap.size ≤ w.heap.size := Nat.le_refl _
      have hc3 : neg = false ∨ (neg = true ∧ n = 0) ∨ (neg = true ∧ 0 < n) := by cases neg <;> simp <;> omega
      rcases hc3 with rfl | ⟨rfl, rfl⟩ | ⟨rfl, hn0⟩
      · have hq0 := hs0
        go_upto_region 10 with fail
        clear z0 z1 zf zl
        obtain ⟨hx1, hx2, hx3⟩ := HPX.out false
        have hx4 := HEND.out false rfl
        have HX1 := Lib.hid hx1
        have HX2 := Lib.hid hx2
        have HX3 := Lib.hid hx3
        have HX4 := Lib.hid hx4
        clear hx1 hx2 hx3 hx4 HEND HPX
        generalize wr.setCell ⟨g4, 0, none⟩ (.bool false) = V at *
        have y0 := HX1.out.cell 0
        have y1 := HX1.out.cell 1
        have yl := HX1.out.lt
        have z0 := HX2.out.cell 0
        have z1 := HX2.out.cell 1
        have zf := HX2.out.frozen
        have zl := HX2.out.lt
        go_wp2_with fail
        generalize hW9 : (V.setCell ⟨_, 0, none⟩ _).setCell ⟨_, 1, none⟩ _ = W9
        have HP9 := Lib.hid (lg_put (e := .returned (.agg #[.bool false, .slice A n c])) HX3.out hgs HX2.out (by simp) (by simp) HX4.out rfl)
        rw [hW9] at HP9
        have HB9 : Hid (Blk W9 _ 91 #[.bool false, .slice A n c]) := Lib.hid (by rw [← hW9]; exact blk_set2 HX2.out)
        clear hW9 z0 z1 zf zl
        have q0 := HB9.out.cell 0
        have q1 := HB9.out.cell 1
        exact bodyPost_ret (v := .agg #[.bool false, .slice A n c]) (by simp [results, Tryz.results126, go_sem, q0, q1]) rfl HP9.out
      · have h00 := hs0
        go_upto_region 10 with fail
        clear z0 z1 zf zl
        obtain ⟨hx1, hx2, hx3⟩ := HPX.out false
        have hx4 := HEND.out false (by simp)
        have HX1 := Lib.hid hx1
        have HX2 := Lib.hid hx2
        have HX3 := Lib.hid hx3
        have HX4 := Lib.hid hx4
        clear hx1 hx2 hx3 hx4 HEND HPX
        generalize wr.setCell ⟨g4, 0, none⟩ (.bool false) = V at *
        have y0 := HX1.out.cell 0
        have y1 := HX1.out.cell 1
        have yl := HX1.out.lt
        have z0 := HX2.out.cell 0
        have z1 := HX2.out.cell 1
        have zf := HX2.out.frozen
        have zl := HX2.out.lt
        go_wp2_with fail
        generalize hW9 : (V.setCell ⟨_, 0, none⟩ _).setCell ⟨_, 1, none⟩ _ = W9
        have HP9 := Lib.hid (lg_put (e := .returned (.agg #[.bool false, .slice A 0 c])) HX3.out hgs HX2.out (by simp) (by simp) HX4.out rfl)
        rw [hW9] at HP9
        have HB9 : Hid (Blk W9 _ 91 #[.bool false, .slice A 0 c]) := Lib.hid (by rw [← hW9]; exact blk_set2 HX2.out)
        clear hW9 z0 z1 zf zl
        have q0 := HB9.out.cell 0
        have q1 := HB9.out.cell 1
        exact bodyPost_ret (v := .agg #[.bool false, .slice A 0 c]) (by simp [results, Tryz.results126, go_sem, q0, q1]) rfl HP9.out
      · have hn0I : (0 : Int) < (n : Int) := by omega
        go_upto_region 10 with fail
        clear z0 z1 zf zl
        obtain ⟨hx1, hx2, hx3⟩ := HPX.out true
        have hx4 := HEND.out true (by simp [hn0])
        have HX1 := Lib.hid hx1
        have HX2 := Lib.hid hx2
        have HX3 := Lib.hid hx3
        have HX4 := Lib.hid hx4
        clear hx1 hx2 hx3 hx4 HEND HPX
        generalize wr.setCell ⟨g4, 0, none⟩ (.bool true) = V at *
        have y0 := HX1.out.cell 0
        have y1 := HX1.out.cell 1
        have yl := HX1.out.lt
        have z0 := HX2.out.cell 0
        have z1 := HX2.out.cell 1
        have zf := HX2.out.frozen
        have zl := HX2.out.lt
        go_wp2_with fail
        generalize hW9 : (V.setCell ⟨_, 0, none⟩ _).setCell ⟨_, 1, none⟩ _ = W9
        have HP9 := Lib.hid (lg_put (e := .returned (.agg #[.bool true, .slice A n c])) HX3.out hgs HX2.out (by simp) (by simp) HX4.out rfl)
        rw [hW9] at HP9
        have HB9 : Hid (Blk W9 _ 91 #[.bool true, .slice A n c]) := Lib.hid (by rw [← hW9]; exact blk_set2 HX2.out)
        clear hW9 z0 z1 zf zl
        have q0 := HB9.out.cell 0
        have q1 := HB9.out.cell 1
        exact bodyPost_ret (v := .agg #[.bool true, .slice A n c]) (by simp [results, Tryz.results126, go_sem, q0, q1]) rfl HP9.out
    · have hs0 : (0 : Int) < ((⟨rs.toArray⟩ : ByteArray).size : Int) := by rw [HSR.out]; omega
      obtain ⟨L, hL⟩ : ∃ L, rs.length = L := ⟨_, rfl⟩
      rw [hL] at hrs HSR HMD HGK
      have HLL := Lib.hid hL
      obtain ⟨q, hq⟩ : ∃ q, (L - 1) % 9 = q := ⟨_, rfl⟩
      have HQ := Lib.hid hq
      have hqL : q + 1 ≤ L := by omega
      have hq9 : q + 1 ≤ 9 := by omega
      have hLl : L ≤ 1000000 := by rw [← hL]; refine Nat.le_trans ?_ hl; rw [HLR.out, List.length_append]; omega
      have hdl : dn.length ≤ 1000000 := by refine Nat.le_trans ?_ hl; rw [HLR.out, List.length_append]; omega
      obtain ⟨ch, hch⟩ : ∃ ch, rs.take (q + 1) = ch := ⟨_, rfl⟩
      obtain ⟨rt, hrt⟩ : ∃ rt, rs.drop (q + 1) = rt := ⟨_, rfl⟩
      have hsl1 : ∀ W, (Instr.sliceAt 9 (.string ⟨rs.toArray⟩) none (some (.int .i64 ((q : Int) + 1))) none).run Tryz.prog W = .ok (.string ⟨ch.toArray⟩) W := fun W => by
        have := str_to rs (q + 1) (by omega) W
        rw [hch] at this
        exact this
      have hsl2 : ∀ W, (Instr.sliceAt 9 (.string ⟨rs.toArray⟩) (some (.int .i64 ((q : Int) + 1))) none none).run Tryz.prog W = .ok (.string ⟨rt.toArray⟩) W := fun W => by
        have := str_from rs (q + 1) (by omega) W
        rw [hrt] at this
        exact this
      have HSL2 := Lib.hid hsl2
      have hadc : AllDg ch := by
        rw [← hch]
        exact AllDg.take (fun x hx => HD.out x (by rw [HLR.out]; exact List.mem_append_right _ hx)) _
      have hadd : AllDg dn := fun x hx => HD.out x (by rw [HLR.out]; exact List.mem_append_left _ hx)
      have hcl : ch.length = q + 1 := by rw [← hch, List.length_take]; omega
      have HPU : Hid (Lib.parseUintB 32 (⟨ch.toArray⟩ : ByteArray).data.toList = .ok (dv ch)) := Lib.hid (by rw [show (⟨ch.toArray⟩ : ByteArray).data.toList = ch from by simp]; exact pu32 hadc (fun e => by rw [e] at hcl; simp at hcl) (by omega))
      have hdc : dv ch < 1000000000 := by
        have h1 := dv_lt hadc
        have h2 : 10 ^ ch.length ≤ 10 ^ 9 := Nat.pow_le_pow_right (by decide) (by omega)
        omega
      have HSC : Hid ((⟨ch.toArray⟩ : ByteArray).size ≤ 9223372036854775806) := Lib.hid (by rw [sz_arr]; omega)
      have HVA : Hid ((dv dn : Int) * 1000000000 + (dv ch : Int) = (dv (dn ++ ch) : Int)) := Lib.hid (by
        rw [dv_part dn ch (HMD.out.imp id fun h => by omega), Int.natCast_add, Int.natCast_mul]; rfl)
      have HLR2 : Hid (l = (dn ++ ch) ++ rt) := Lib.hid (by rw [HLR.out, List.append_assoc, ← hch, ← hrt, List.take_append_drop])
      have HRTL : Hid (rt.length = L - (q + 1)) := Lib.hid (by rw [← hrt, List.length_drop]; omega)
      have HR9 : Hid (rt.length % 9 = 0) := Lib.hid (by rw [HRTL.out]; omega)
      have HMS : Hid (rt.length < gk) := Lib.hid (by rw [HRTL.out, HGK.out]; omega)
      have hdd := dv_dlen hadd
      have HS6 : Hid (dlen ((dv dn : Int) * 1000000000).natAbs ≤ 35184372088832) := Lib.hid (by
        refine Nat.le_trans (dlen_mulZ _ _) ?_
        rw [Int.natAbs_natCast, show (1000000000 : Int).natAbs = 1000000000 from rfl, dlen_one (n := 1000000000) (by decide) (by decide)]
        omega)
      have HS7 : Hid (dlen (dv ch : Int).natAbs ≤ 35184372088832) := Lib.hid (by
        rw [Int.natAbs_natCast]
        have := dv_dlen hadc
        omega)
      have HNN : Hid (n ≤ 1000000) := Lib.hid (by rw [HAN.out]; omega)
      have hrem : ((L : Int) - 1).tmod 9 = (q : Int) := by
        rw [← hq, show ((L : Int) - 1) = ((L - 1 : Nat) : Int) from by omega]; rfl
      have hsz := HSR.out
      have hL1 : (1 : Int) ≤ (L : Int) := by omega
      clear hq hch hrt hsl2 hadc hadd hcl hL
      go_wp2_with fail
      refine (Tryz.strconv_ParseUint_10_at32_ok ⟨ch.toArray⟩ HSC.out (dv ch) HPU.out wr).mono ?_
      rintro e w3 ⟨rfl, hw3⟩
      have hb3 : Below wr.heap.size wr w3 := by
        rcases hw3 with rfl | rfl
        · exact Below.refl _ _
        · exact Lib.bytesWorld_below _ _ _
      have HBR3 := Lib.hid (HBR.out.trans (hb3.mono HBR.out.size))
      have HP23 := Lib.hid (HP2.out.below hb3 HP2.out.lt)
      have HP43 := Lib.hid (HP4.out.below hb3 HP4.out.lt)
      have HA3 := Lib.hid (HA.out.up hb3)
      clear hb3 hw3 HBR HP2 HP4 HA hsl1 hrem hsz hL1 hs0
      have HBR := HBR3
      have HP2 := HP23
      have HP4 := HP43
      have HA := HA3
      clear HBR3 HP23 HP43 HA3
      generalize wr = wq at *
      generalize w3 = wr at *
      have z0 := HP4.out.cell 0
      have z1 := HP4.out.cell 1
      have zl := HP4.out.lt
      have hcv : (dv ch : Int) % 18446744073709551616 = (dv ch : Int) := by omega
      have hcv2 : IntKind.i64.wrap (dv ch : Int) = (dv ch : Int) := Go.IntWalk.i64_in _ (by omega)
      go_upto_region 7 with fail
      refine wp_region_last (S := fun w' => w'.cell? ⟨g4, 0, none⟩ = some (.bool false) ∧ w'.cell? ⟨g4, 1, none⟩ = some (.slice A n c)) 7 _ (by kernel_rfl) (by kernel_rfl) rfl ⟨z0, z1⟩ (fun hHeld => ?_)
      simp only [List.take_succ_cons, List.take_zero]
      refine takeH 0 (v := ?_) rfl (by kernel_rfl) (fun _ _ _ h => h) (by rfl) ?_ hHeld ?_
      rotate_left 1
      · intro w' hSw; obtain ⟨s0, s1⟩ := hSw; go_simp <;> with_reducible rfl
      try simp only [Act.put, List.setIfInBounds_toArray, List.set_cons_zero, List.set_cons_succ]
      refine takeH 3 (v := ?_) rfl (by kernel_rfl) (fun _ _ _ h => h) (by rfl) ?_ hHeld ?_
      rotate_left 1
      · intro w' hSw; obtain ⟨s0, s1⟩ := hSw; go_simp <;> with_reducible rfl
      try simp only [Act.put, List.setIfInBounds_toArray, List.set_cons_zero, List.set_cons_succ]
      refine takeH 4 (v := ?_) rfl (by kernel_rfl) (fun _ _ _ h => h) (by rfl) ?_ hHeld ?_
      rotate_left 1
      · intro w' hSw; obtain ⟨s0, s1⟩ := hSw; go_simp <;> with_reducible rfl
      try simp only [Act.put, List.setIfInBounds_toArray, List.set_cons_zero, List.set_cons_succ]
      clear z0 z1
      refine stepH 1 (by kernel_rfl) rfl (fun K hK => ?_)
      go_simp
      refine (of_any 1000000000 _ (by decide) (by decide)).mono ?_
      rintro e w5 ⟨hb5, f5, C5, i5, j5, rfl, h5⟩
      have HB5 := Lib.hid ((below_drew (Below.refl wr.heap.size wr)).trans hb5)
      obtain ⟨M, hM, h5⟩ : ∃ M : Int, M = 1000000000 ∧ LgIs w5 w5.heap.size M f5 C5 i5 j5 := ⟨_, rfl, h5⟩
      have HM := Lib.hid hM
      have hi5 : i5 ≤ 1 := by rw [h5.en, hM]; exact dlen_le (show (1000000000 : Nat) < 4294967296 ^ 1 by decide)
      have H5 := Lib.hid h5
      clear hb5 h5 hM
      go_simp
      refine hK.out _ _ ?_ (fun hHeld => ?_)
      · exact ⟨(HP4.out.below HB5.out HP4.out.lt).cell 0, (HP4.out.below HB5.out HP4.out.lt).cell 1⟩
      clear hK K
      try simp only [Act.put, List.setIfInBounds_toArray, List.set_cons_zero, List.set_cons_succ]
      refine stepH 2 (by kernel_rfl) rfl (fun K hK => ?_)
      go_simp
      refine (lgmul_any (dv dn : Int) M false A n c f5 C5 i5 j5 w5 (HA.out.up HB5.out) H5.out (Nat.le_trans (Nat.add_le_add HNN.out hi5) (by decide))).mono ?_
      rintro e w6 ⟨hb6, f6, C6, i6, j6, rfl, h6⟩
      have HB6 := Lib.hid (HB5.out.trans (hb6.mono HB5.out.size))
      have H6 := Lib.hid h6
      clear hb6 h6 H5
      go_simp
      refine hK.out _ _ ?_ (fun hHeld => ?_)
      · exact ⟨(HP4.out.below HB6.out HP4.out.lt).cell 0, (HP4.out.below HB6.out HP4.out.lt).cell 1⟩
      clear hK K
      try simp only [Act.put, List.setIfInBounds_toArray, List.set_cons_zero, List.set_cons_succ]
      refine stepH 5 (by kernel_rfl) rfl (fun K hK => ?_)
      go_simp
      refine (of_any (dv ch : Int) _ (by omega) (by omega)).mono ?_
      rintro e w7 ⟨hb7, f7, C7, i7, j7, rfl, h7⟩
      have HB7 := Lib.hid (HB6.out.trans (hb7.mono HB6.out.size))
      have H7 := Lib.hid h7
      have H67 := Lib.hid (H6.out.up hb7)
      clear hb7 h7 H6
      go_simp
      refine hK.out _ _ ?_ (fun hHeld => ?_)
      · exact ⟨(HP4.out.below HB7.out HP4.out.lt).cell 0, (HP4.out.below HB7.out HP4.out.lt).cell 1⟩
      clear hK K
      try simp only [Act.put, List.setIfInBounds_toArray, List.set_cons_zero, List.set_cons_succ]
      refine stepH 6 (by kernel_rfl) rfl (fun K hK => ?_)
      go_simp
      refine (add_any ((dv dn : Int) * M) (dv ch : Int) f6 C6 i6 j6 f7 C7 i7 j7 w7 H67.out H7.out (by rw [H67.out.en, HM.out]; exact HS6.out) (by rw [H7.out.en]; exact HS7.out)).mono ?_
      rw [HM.out, HVA.out]
      rintro e w8 ⟨hb8, f8, C8, i8, j8, rfl, h8⟩
      have HB8 := Lib.hid (HB7.out.trans (hb8.mono HB7.out.size))
      have H8 := Lib.hid h8
      clear hb8 h8 H67 H7
      go_simp
      refine hK.out _ _ ?_ (fun hHeld => ?_)
      · exact ⟨(HP4.out.below HB8.out HP4.out.lt).cell 0, (HP4.out.below HB8.out HP4.out.lt).cell 1⟩
      clear hK K
      try simp only [Act.put, List.setIfInBounds_toArray, List.set_cons_zero, List.set_cons_succ]
      refine wpAnyH_done (by kernel_rfl) ?_ _
      refine lastQ_go (by rfl) ?_
      have hf8 : f8 = false := by rw [H8.out.eb]; exact decide_eq_false (Int.not_lt.2 (Int.natCast_nonneg _))
      subst hf8
      have HP48 := Lib.hid (HP4.out.below HB8.out HP4.out.lt)
      have HP28 := Lib.hid (HP2.out.below HB8.out HP2.out.lt)
      have HBB8 := Lib.hid (HBR.out.trans (HB8.out.mono HBR.out.size))
      have HLR3 := HLR2
      have z0 := HP48.out.cell 0
      have z1 := HP48.out.cell 1
      have zf := HP48.out.frozen
      have zl := HP48.out.lt
      go_upto_region 8 with fail
      clear z0 z1 zf zl
      generalize hw9 : (w8.setCell ⟨g4, 0, none⟩ _).setCell ⟨g4, 1, none⟩ _ = w9
      have HP49 : Hid (Blk w9 g4 91 #[.bool false, .slice C8 i8 j8]) := Lib.hid (by rw [← hw9]; exact blk_set2 HP48.out)
      have HP29 : Hid (Blk w9 w.heap.size 91 #[.bool false, .slice none 0 0]) := Lib.hid (by rw [← hw9]; exact (HP28.out.far hne24 _).far hne24 _)
      have HB9 : Hid (Below w.heap.size w w9) := Lib.hid (by rw [← hw9]; exact below_set2 HBB8.out hg4l)
      have H9 : Hid (LgIs w9 w9.heap.size (dv (dn ++ ch) : Int) false C8 i8 j8) := Lib.hid (by rw [← hw9]; exact (H8.out.keep (HP48.out.cell 0) (by simp) _).keep ((HP48.out.set_ 0 (.bool false)).cell 1) (by simp) _)
      clear hw9
      have hsl2 := HSL2.out
      go_wp2_with fail
      go_roundg rt.length
      case rel => exact ⟨dn ++ ch, rt, C8, i8, j8, rfl, HLR2.out, rfl, .inr HR9.out, HB9.out, HP29.out, HP49.out, H9.out⟩
      case measure => exact HMS.out
end Go.Proofs.YtakllkkmofdpaaaGreatDoor
