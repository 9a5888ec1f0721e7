/- One step towards the shortest ways: the closure of reach. -/
import Derived.Test.YthedpegaelpbdaaV3
import Derived.Test.YthedpegaelpbdaaN2
import Derived.Deep.RegionWith
namespace Go.Proofs.Ythedpegaelpbdaa
open Go.ChangeShapes Go.WideShapes Go.ChangeAt Go.RowKit
set_option linter.unusedVariables false
attribute [local go_sem ↓] execOp_call_val
attribute [local go_sem] callVal_func setCell_drewN alloc_drewN sEq_walk NetH.cells

structure RS (w : World) (B bn bf ba g : Nat) (h : NetH) (x : Net) (st : FS) : Prop where
  qn : Blk w bn 29 h.cells
  qf : Blk w bf 61 #[.slice (some ⟨g, 0, none⟩) x.nodes.length x.nodes.length]
  qa : Blk w ba 4 #[.bool st.2]
  qg : Blk w g 3 (ints st.1).toArray
  net : RdNet w B h x
  ok : FarOk x.nodes.length st.1
  bB : B ≤ bn ∧ B ≤ bf ∧ B ≤ ba ∧ B ≤ g
  ne : bn ≠ bf ∧ bn ≠ ba ∧ bn ≠ g ∧ bf ≠ ba ∧ bf ≠ g ∧ ba ≠ g
theorem RS.drewN {w : World} {B bn bf ba g : Nat} {h : NetH} {x : Net} {st : FS} (r : RS w B bn bf ba g h x st) (n : Nat) : RS (w.drewN n) B bn bf ba g h x st :=
  ⟨r.qn, r.qf, r.qa, r.qg, r.net.below (below_drewN (Below.refl B w) n) (Nat.le_refl _), r.ok, r.bB, r.ne⟩
theorem RS.gcell {w : World} {B bn bf ba g : Nat} {h : NetH} {x : Net} {st : FS} (r : RS w B bn bf ba g h x st) {i : Nat} (hi : i < x.nodes.length) : w.cell? ⟨g, i, none⟩ = some (.int .i64 (st.1.getD i 0)) := by
  rw [r.qg.cell i]
  have hl := r.ok.len
  simp [ints, List.getD_eq_getElem?_getD, List.getElem?_eq_getElem (show i < st.1.length by omega)]
/-- far[k] and again are stored -/
theorem RS.put {w : World} {B bn bf ba g : Nat} {h : NetH} {x : Net} {st : FS} (r : RS w B bn bf ba g h x st) {k : Nat} {v : Int} (ok : FarOk x.nodes.length (st.1.set k v)) :
    RS ((w.setCell ⟨g, k, none⟩ (.int .i64 v)).setCell ⟨ba, 0, none⟩ (.bool true)) B bn bf ba g h x (st.1.set k v, true) := by
  obtain ⟨n1, n2, n3, n4, n5, n6⟩ := r.ne
  obtain ⟨b1, b2, b3, b4⟩ := r.bB
  refine ⟨(r.qn.far (by simpa using n3) _).far (by simpa using n2) _, (r.qf.far (by simpa using n5) _).far (by simpa using n4) _, ?_, ?_, ?_, ok, r.bB, r.ne⟩
  · exact (r.qa.far (by simpa using n6) _).set_ 0 _
  · have h1 := r.qg.set_ k (.int .i64 v)
    have h2 : (ints st.1).toArray.setIfInBounds k (.int .i64 v) = (ints (st.1.set k v)).toArray := by
      simp [ints, List.map_set]
    rw [h2] at h1
    exact h1.far (by simpa using Ne.symm n6) _
  · exact r.net.below (((Below.refl B w).setCell (by simpa using b4) _).setCell (by simpa using b3) _) (Nat.le_refl _)

set_option maxRecDepth 100000 in
set_option maxHeartbeats 400000 in
theorem zstep_any (B bn bf ba g : Nat) (h : NetH) (x : Net) (st0 : FS) (a b : ByteArray) (long : Int) (w : World) (H : RS w B bn bf ba g h x st0) (ha : a ∈ x.nodes) (hb : b ∈ x.nodes) (hl0 : 0 ≤ long) (hl1 : long ≤ 10000000) (hBw : B ≤ w.heap.size) (hN24 : x.nodes.length ≤ 24) :
    Calls Try.prog 115 #[.string a, .string b, .int .i64 long, .pointer (some ⟨bn, 0, none⟩), .pointer (some ⟨bf, 0, none⟩), .pointer (some ⟨ba, 0, none⟩)] w fun e w' => e = .returned (.tuple #[]) ∧ RS w' B bn bf ba g h x (hs long 2 (ndIdx x.nodes a) (ndIdx x.nodes b) st0) ∧ Below B w w' := by
  obtain ⟨hai, hal⟩ := ndIdx_ok ha
  obtain ⟨hbi, hbl⟩ := ndIdx_ok hb
  have hm0 := H.net.m0
  have HA : Hid (∀ N, Calls Try.prog 69 #[.slice h.A0 h.n0 h.c0, .string a] (w.drewN N) fun e w' => e = .returned (.int .i64 (ndIdx x.nodes a : Int)) ∧ w' = w.drewN N) := Lib.hid fun N => by
    have h0 : RdStr (w.drewN N) (w.drewN N).heap.size h.A0 h.n0 x.nodes := (H.net.r0.below (below_drewN (Below.refl B w) N) (Nat.le_refl _)).more hBw
    exact (index_str _ _ h.c0 x.nodes a _ h0 hm0).mono fun e w' ⟨he, hw⟩ => ⟨by rw [he, hai], hw.symm⟩
  have HB : Hid (∀ N, Calls Try.prog 69 #[.slice h.A0 h.n0 h.c0, .string b] (w.drewN N) fun e w' => e = .returned (.int .i64 (ndIdx x.nodes b : Int)) ∧ w' = w.drewN N) := Lib.hid fun N => by
    have h0 : RdStr (w.drewN N) (w.drewN N).heap.size h.A0 h.n0 x.nodes := (H.net.r0.below (below_drewN (Below.refl B w) N) (Nat.le_refl _)).more hBw
    exact (index_str _ _ h.c0 x.nodes b _ h0 hm0).mono fun e w' ⟨he, hw⟩ => ⟨by rw [he, hbi], hw.symm⟩
  obtain ⟨y0, y1, y2, y3, y4, y5, nf, nlt⟩ := net_box H.qn
  have HH := Lib.hid H
  clear hai hbi H
  generalize hI : ndIdx x.nodes a = ia at *
  generalize hK : ndIdx x.nodes b = ib at *
  clear hI hK
  go_enter Try.func115, Try.ntmps115
  go_wp2_with fail
  go_quiet ((first | (go_at_call_of 69 (Value.string a); exact (HA.out _).mono (fun _ _ hh => ⟨hh.1, _, hh.2⟩)) | (go_at_call_of 69 (Value.string b); exact (HB.out _).mono (fun _ _ hh => ⟨hh.1, _, hh.2⟩))))
  have HH1 := Lib.hid (HH.out.drewN nq)
  have HB0 := Lib.hid (below_drewN (Below.refl B w) nq)
  clear y0 y1 y2 y3 y4 y5 nf nlt HA HB
  generalize hw1 : w.drewN nq = w1 at *
  have hBw1 : B ≤ w1.heap.size := by rw [← hw1]; exact hBw
  clear hw1
  go_wp2_with fail
  go_loopw [9, 10, 19] (fun p q j wr => ∃ (c i k : Nat) (st : FS), c ≤ 2 ∧ j = .int .i64 c ∧ p = .int .i64 i ∧ q = .int .i64 k ∧ i < x.nodes.length ∧ k < x.nodes.length ∧ RS wr B bn bf ba g h x st ∧ Below B w wr ∧ hs long (2 - c) i k st = hs long 2 ia ib st0) (fun _ _ j _ => 2 - (intOf j).toNat)
  case atStart => exact ⟨0, ia, ib, st0, by omega, rfl, rfl, rfl, hal, hbl, HH1.out, HB0.out, rfl⟩
  case round =>
    obtain ⟨c, i, k, st, hc, rfl, rfl, rfl, hi, hk, hR, hbel, hhs⟩ := hrel
    have HR := Lib.hid hR
    have HBEL := Lib.hid hbel
    have HS := Lib.hid hhs
    clear hR hbel hhs
    by_cases hlt : c < 2
    · have hci := HR.out.gcell hi
      have hck := HR.out.gcell hk
      have hcf : wr.cell? ⟨bf, 0, none⟩ = some (.slice (some ⟨g, 0, none⟩) x.nodes.length x.nodes.length) := HR.out.qf.cell 0
      have hca : wr.cell? ⟨ba, 0, none⟩ = some (.bool st.2) := HR.out.qa.cell 0
      have hfa := HR.out.qa.frozen 0
      have hfg := HR.out.qg.frozen k
      have hbl1 := HR.out.qg.lt
      have hbl2 := HR.out.qf.lt
      have hbl3 := HR.out.qa.lt
      have hiI : (i : Int) < (x.nodes.length : Int) := by omega
      have hkI : (k : Int) < (x.nodes.length : Int) := by omega
      have hiI0 : (0 : Int) ≤ (i : Int) := by omega
      have hkI0 : (0 : Int) ≤ (k : Int) := by omega
      have vi := HR.out.ok.val _ (getD_mem (l := st.1) (k := i) (by have := HR.out.ok.len; omega))
      have vk := HR.out.ok.val _ (getD_mem (l := st.1) (k := k) (by have := HR.out.ok.len; omega))
      have hcl0 : cnt st.1 ≤ 24 := by
        have := List.countP_le_length (p := fun v => decide (0 ≤ v)) (l := st.1); have := HR.out.ok.len; unfold cnt; omega
      have hhalf := half_ok (long := long) HR.out.ok hi hk hl0 hl1
      have hnext : Hid (hs long (2 - c) i k st = hs long (2 - (c + 1)) k i (half i k long st)) := Lib.hid (by
        have : 2 - c = (2 - (c + 1)) + 1 := by omega
        rw [this]; rfl)
      have HHF := Lib.hid hhalf
      have hbi : -1 ≤ st.1.getD i 0 ∧ st.1.getD i 0 ≤ 240000000 := by omega
      have hbk : -1 ≤ st.1.getD k 0 ∧ st.1.getD k 0 ≤ 240000000 := by omega
      have hhd : Hid (half i k long st = if 0 ≤ st.1.getD i 0 ∧ (st.1.getD k 0 < 0 ∨ st.1.getD i 0 + long < st.1.getD k 0) then (st.1.set k (st.1.getD i 0 + long), true) else st) := Lib.hid rfl
      obtain ⟨hbi1, hbi2⟩ := hbi
      obtain ⟨hbk1, hbk2⟩ := hbk
      clear hhalf vi vk hcl0
      generalize hVI : st.1.getD i 0 = vi at *
      generalize hVK : st.1.getD k 0 = vk at *
      have HVI := Lib.hid hVI
      have HVK := Lib.hid hVK
      clear hVI hVK
      have hwr : IntKind.i64.wrap (vi + long) = vi + long := IntWalk.i64_in _ (by omega)
      have hbag : (wr.setCell ⟨g, k, none⟩ (.int .i64 (vi + long))).cell? ⟨ba, 0, none⟩ = some (.bool st.2) := (World.cell?_setCell_other _ _ _ _ (fun e => by injection e with e1 e2; exact HR.out.ne.2.2.2.2.2 e1.symm)).trans hca
      by_cases h1 : vi < 0
      · have g1 : decide (0 ≤ vi) = false := by simp; omega
        have hst : half i k long st = st := by rw [hhd.out, if_neg (by omega)]
        have HST := Lib.hid hst
        clear hst h1
        go_wp2_with fail
        go_quiet (fail)
        go_wp2_with fail
        go_roundw
        case rel => exact ⟨c + 1, k, i, st, by omega, by go_num, rfl, rfl, hk, hi, HR.out.drewN _, below_drewN HBEL.out _, by rw [← HS.out, hnext.out, HST.out]⟩
        case measure => simp [intOf]; omega
      · have g1 : decide (0 ≤ vi) = true := by simp; omega
        by_cases h2 : vk < 0
        · have g2 : decide (vk < 0) = true := by simpa using h2
          have hst : half i k long st = (st.1.set k (vi + long), true) := by rw [hhd.out, if_pos ⟨by omega, .inl h2⟩]
          have HOK : FarOk x.nodes.length (st.1.set k (vi + long)) := by have := HHF.out.1; rw [hst] at this; exact this
          have HOKH := Lib.hid HOK
          have HST := Lib.hid hst
          clear hst h1 HOK
          go_wp2_with fail
          go_quiet (fail)
          go_wp2_with fail
          go_region
          go_wp2_with fail
          go_roundw
          case rel => exact ⟨c + 1, k, i, (st.1.set k (vi + long), true), by omega, by go_num, rfl, rfl, hk, hi, (HR.out.put HOKH.out).drewN _, below_drewN ((HBEL.out.setCell (by simpa using HR.out.bB.2.2.2) _).setCell (by simpa using HR.out.bB.2.2.1) _) _, by rw [← HS.out, hnext.out, HST.out]⟩
          case measure => simp [intOf]; omega
        · have g2 : decide (vk < 0) = false := by simpa using h2
          by_cases h3 : vi + long < vk
          · have g3 : decide (vi + long < vk) = true := by simpa using h3
            have hst : half i k long st = (st.1.set k (vi + long), true) := by rw [hhd.out, if_pos ⟨by omega, .inr h3⟩]
            have HOK : FarOk x.nodes.length (st.1.set k (vi + long)) := by have := HHF.out.1; rw [hst] at this; exact this
            have HOKH := Lib.hid HOK
            have HST := Lib.hid hst
            clear hst h1 HOK h2 h3
            go_wp2_with fail
            go_quiet (fail)
            go_wp2_with fail
            go_region
            go_wp2_with fail
            go_roundw
            case rel => exact ⟨c + 1, k, i, (st.1.set k (vi + long), true), by omega, by go_num, rfl, rfl, hk, hi, (HR.out.put HOKH.out).drewN _, below_drewN ((HBEL.out.setCell (by simpa using HR.out.bB.2.2.2) _).setCell (by simpa using HR.out.bB.2.2.1) _) _, by rw [← HS.out, hnext.out, HST.out]⟩
            case measure => simp [intOf]; omega
          · have g3 : decide (vi + long < vk) = false := by simpa using h3
            have hst : half i k long st = st := by rw [hhd.out, if_neg (by omega)]
            have HST := Lib.hid hst
            clear hst h1 h2 h3
            go_wp2_with fail
            go_quiet (fail)
            go_wp2_with fail
            go_roundw
            case rel => exact ⟨c + 1, k, i, st, by omega, by go_num, rfl, rfl, hk, hi, HR.out.drewN _, below_drewN HBEL.out _, by rw [← HS.out, hnext.out, HST.out]⟩
            case measure => simp [intOf]; omega
    · have hc2 : c = 2 := by omega
      subst hc2
      go_wp2_with fail
      go_end0
      exact ⟨rfl, by rw [← HS.out]; exact HR.out, HBEL.out⟩
end Go.Proofs.Ythedpegaelpbdaa
