/- The law ZoneFinds: the walk. -/
import Derived.Test.YthedpegaelpbdaaVB
import Derived.Test.YthedpegaelpbdaaVP
namespace Go.Proofs.Ythedpegaelpbdaa
open Go.ChangeShapes Go.WideShapes Go.ChangeAt Go.RowKit
set_option linter.unusedVariables false
attribute [local go_sem ↓] execOp_call_val
attribute [local go_sem] callVal_func setCell_drewN alloc_drewN sEq_walk NetH.cells

set_option maxRecDepth 100000 in
set_option maxHeartbeats 4000000 in
theorem zfinds_any (h : NetH) (x : Net) (r : Zr) (p : Fp) (ZA : Option Addr) (zn zc : Nat) (w : World) (hR : RdNet w w.heap.size h x) (hZ : RdZs w w.heap.size ZA zn r.zones) (hzn : zn ≤ 9223372036854775807) :
    Calls Try.prog 8 #[.agg h.cells, .agg #[.string r.node, .string r.branch, .slice ZA zn zc], .agg #[.string p.branch, .int .i64 p.part]] w fun e w' => e = .returned (.bool true) ∧ Below w.heap.size w w' := by
  have HLZ := Lib.hid hZ.1
  have hB0 : Below w.heap.size w (((w.alloc (.cells h.cells 29)).alloc (.cells #[.string r.node, .string r.branch, .slice ZA zn zc] 57)).alloc (.cells #[.string p.branch, .int .i64 p.part] 31)) := (((Below.refl _ _).alloc (Nat.le_refl _) _).alloc (by simp) _).alloc (by simp; omega) _
  have HB0 := Lib.hid hB0
  have HR0 := Lib.hid (hR.up hB0)
  have HZ0 := Lib.hid ((hZ.below hB0 (Nat.le_refl _)).more hB0.size)
  have HQ0_0 : Hid (Blk (((w.alloc (.cells h.cells 29)).alloc (.cells #[.string r.node, .string r.branch, .slice ZA zn zc] 57)).alloc (.cells #[.string p.branch, .int .i64 p.part] 31)) (w.heap.size) 29 h.cells) := Lib.hid (((Blk.new_ rfl).alloc _).alloc _)
  have HQ1_0 : Hid (Blk (((w.alloc (.cells h.cells 29)).alloc (.cells #[.string r.node, .string r.branch, .slice ZA zn zc] 57)).alloc (.cells #[.string p.branch, .int .i64 p.part] 31)) (w.heap.size + 1) 57 #[.string r.node, .string r.branch, .slice ZA zn zc]) := Lib.hid ((Blk.new_ (by simp)).alloc _)
  have HQ2_0 : Hid (Blk (((w.alloc (.cells h.cells 29)).alloc (.cells #[.string r.node, .string r.branch, .slice ZA zn zc] 57)).alloc (.cells #[.string p.branch, .int .i64 p.part] 31)) (w.heap.size + 1 + 1) 31 #[.string p.branch, .int .i64 p.part]) := Lib.hid (Blk.new_ (by simp))
  clear hB0 hR hZ
  have HDZ : Hid ((disR x r p).2 ≠ 0 → (disR x r p).1 = 0) := Lib.hid disR_0
  have HFE : Hid ((disR x r p).2 ≠ 0 → fndR x r p = (0, (disR x r p).2)) := Lib.hid fndR_e
  have HFN : Hid ((disR x r p).2 = 0 → (fndR x r p).2 ≠ 0 → fndR x r p = (0, 8) ∧ ∀ z ∈ r.zones, z.reach * 1000 < (disR x r p).1) := Lib.hid fun a b => fndR_none a b
  have HFS : Hid ((fndR x r p).2 = 0 → ∃ (i : Nat) (z : Zs), fndR x r p = ((i : Int), 0) ∧ r.zones[i]? = some z ∧ (disR x r p).1 ≤ z.reach * 1000 ∧ ∀ (j : Nat) (y : Zs), j < i → r.zones[j]? = some y → y.reach * 1000 < (disR x r p).1) := Lib.hid fndR_some
  have HGOOD : Hid ((disR x r p).2 = 0 → 1 ≤ r.zones.length ∧ r.zones.length ≤ 4 ∧ ∀ z ∈ r.zones, zBad z = false) := Lib.hid fun h0 => by
    have h1 := zckR_zones (chkR_ok (disR_ok h0)).1
    exact ⟨h1.2.1, h1.2.2.1, zsGo_good _ _ h1.1⟩
  go_enter Try.func8, Try.ntmps8
  go_wp2_with fail
  refine (zworks_any _).mono ?_
  rintro e w1 ⟨rfl, k1⟩
  have HB1 := Lib.hid (HB0.out.trans (k1.mono HB0.out.size))
  have HR1 := Lib.hid (HR0.out.up k1)
  have HZ1 := Lib.hid ((HZ0.out.below k1 (Nat.le_refl _)).more k1.size)
  have HQ0_1 := Lib.hid (HQ0_0.out.below k1 HQ0_0.out.lt)
  have HQ1_1 := Lib.hid (HQ1_0.out.below k1 HQ1_0.out.lt)
  have HQ2_1 := Lib.hid (HQ2_0.out.below k1 HQ2_0.out.lt)
  clear k1
  obtain ⟨y0, y1, y2, y3, y4, y5, nf, nlt⟩ := net_box HQ0_1.out
  obtain ⟨z0, z1, z2, zf, zlt⟩ := zr_box HQ1_1.out
  obtain ⟨v20, v21, vf2, vlt2⟩ := check_box HQ2_1.out
  go_wp2_with fail
  refine (zdis_any h x r p ZA zn zc _ HR1.out HZ1.out hzn).mono ?_
  generalize disR x r p = d0 at *
  obtain ⟨a0, e0⟩ := d0
  rintro e w2 ⟨rfl, k2⟩
  have HB2 := Lib.hid (HB1.out.trans (k2.mono HB1.out.size))
  have HR2 := Lib.hid (HR1.out.up k2)
  have HZ2 := Lib.hid ((HZ1.out.below k2 (Nat.le_refl _)).more k2.size)
  have HQ0_2 := Lib.hid (HQ0_1.out.below k2 HQ0_1.out.lt)
  have HQ1_2 := Lib.hid (HQ1_1.out.below k2 HQ1_1.out.lt)
  have HQ2_2 := Lib.hid (HQ2_1.out.below k2 HQ2_1.out.lt)
  clear k2 y0 y1 y2 y3 y4 y5 nf nlt z0 z1 z2 zf zlt v20 v21 vf2 vlt2
  obtain ⟨y0, y1, y2, y3, y4, y5, nf, nlt⟩ := net_box HQ0_2.out
  obtain ⟨z0, z1, z2, zf, zlt⟩ := zr_box HQ1_2.out
  obtain ⟨v20, v21, vf2, vlt2⟩ := check_box HQ2_2.out
  go_wp2_with fail
  refine (zfnd_any h x r p ZA zn zc _ HR2.out HZ2.out hzn).mono ?_
  generalize fndR x r p = d1 at *
  obtain ⟨a1, e1⟩ := d1
  rintro e w3 ⟨rfl, k3⟩
  have HB3 := Lib.hid (HB2.out.trans (k3.mono HB2.out.size))
  have HR3 := Lib.hid (HR2.out.up k3)
  have HZ3 := Lib.hid ((HZ2.out.below k3 (Nat.le_refl _)).more k3.size)
  have HQ0_3 := Lib.hid (HQ0_2.out.below k3 HQ0_2.out.lt)
  have HQ1_3 := Lib.hid (HQ1_2.out.below k3 HQ1_2.out.lt)
  have HQ2_3 := Lib.hid (HQ2_2.out.below k3 HQ2_2.out.lt)
  clear k3 y0 y1 y2 y3 y4 y5 nf nlt z0 z1 z2 zf zlt v20 v21 vf2 vlt2
  obtain ⟨y0, y1, y2, y3, y4, y5, nf, nlt⟩ := net_box HQ0_3.out
  obtain ⟨z0, z1, z2, zf, zlt⟩ := zr_box HQ1_3.out
  obtain ⟨v20, v21, vf2, vlt2⟩ := check_box HQ2_3.out
  by_cases c0 : e0 = 0
  · subst c0
    obtain ⟨g1, g2, g3⟩ := HGOOD.out rfl
    have hzl := HLZ.out
    obtain ⟨b, off, hA, hblt⟩ := HZ3.out.form (by omega)
    have hzz := HZ3.out
    subst hA
    by_cases c1 : e1 = 0
    · subst c1
      obtain ⟨i, z, f1, f2, f3, f4⟩ := HFS.out rfl
      injection f1 with f1 _
      subst f1
      have hi : i < zn := by have := (List.getElem?_eq_some_iff.1 f2).1; omega
      obtain ⟨s0, s1⟩ := hzz.at_ f2
      obtain ⟨b1, b2, _, _⟩ := zBad_ff (g3 z (List.mem_of_getElem? f2))
      have w1' : IntKind.i64.wrap (1000 * z.reach) = 1000 * z.reach := IntWalk.i64_in _ (by omega)
      have t1 : a0 ≤ 1000 * z.reach := by omega
      have t2 : (i : Int) < (zn : Int) := by omega
      have t3 : (0 : Int) ≤ (i : Int) := by omega
      by_cases hi0 : i = 0
      · subst hi0
        have s2 : w3.cell? ⟨b, off, none⟩ = some (.int .i64 z.reach) := by simpa using s0
        have t4 : (0 : Int) < (zn : Int) := by omega
        clear hzz f2 f4 s0 s1 t2 t3
        go_wp2_with fail
        go_ret
        exact ⟨rfl, HB3.out⟩
      · obtain ⟨y, hy⟩ : ∃ y, r.zones[i - 1]? = some y := ⟨_, List.getElem?_eq_getElem (by omega)⟩
        obtain ⟨s2, s3⟩ := hzz.at_ hy
        obtain ⟨b3, b4, _, _⟩ := zBad_ff (g3 y (List.mem_of_getElem? hy))
        have h4 := f4 (i - 1) y (by omega) hy
        have u1 : IntKind.i64.wrap ((i : Int) - 1) = (i : Int) - 1 := IntWalk.i64_in _ (by omega)
        have u2 : ((i : Int) - 1).toNat = i - 1 := by omega
        have u3 : (i : Int) - 1 < (zn : Int) := by omega
        have u4 : (1 : Int) ≤ (i : Int) := by omega
        have u5 : IntKind.i64.wrap (1000 * y.reach) = 1000 * y.reach := IntWalk.i64_in _ (by omega)
        have u6 : 1000 * y.reach < a0 := by omega
        have u7 : ((i : Int) == 0) = false := by simpa using hi0
        clear hzz f2 f4 hy h4
        go_wp2_with fail
        go_ret
        exact ⟨rfl, HB3.out⟩
    · have c1b : (e1 != 0) = true := by simpa using c1
      obtain ⟨f1, f2⟩ := HFN.out rfl c1
      injection f1 with f1 f3
      subst f1; subst f3
      obtain ⟨y, hy⟩ : ∃ y, r.zones[zn - 1]? = some y := ⟨_, List.getElem?_eq_getElem (by omega)⟩
      obtain ⟨s2, s3⟩ := hzz.at_ hy
      obtain ⟨b3, b4, _, _⟩ := zBad_ff (g3 y (List.mem_of_getElem? hy))
      have h4 := f2 y (List.mem_of_getElem? hy)
      have u1 : IntKind.i64.wrap ((zn : Int) - 1) = (zn : Int) - 1 := IntWalk.i64_in _ (by omega)
      have u2 : ((zn : Int) - 1).toNat = zn - 1 := by omega
      have u3 : (zn : Int) - 1 < (zn : Int) := by omega
      have u4 : (1 : Int) ≤ (zn : Int) := by omega
      have u5 : IntKind.i64.wrap (1000 * y.reach) = 1000 * y.reach := IntWalk.i64_in _ (by omega)
      have u6 : 1000 * y.reach < a0 := by omega
      clear hzz hy h4 f2
      go_wp2_with fail
      go_ret
      exact ⟨rfl, HB3.out⟩
  · have c0b : (e0 != 0) = true := by simpa using c0
    have h1 := HDZ.out c0
    have h2 := HFE.out c0
    injection h2 with h2 h3
    subst h1; subst h2; subst h3
    go_wp2_with fail
    go_ret
    exact ⟨rfl, HB3.out⟩
end Go.Proofs.Ythedpegaelpbdaa
