/- The check of a distance relay. -/
import Derived.Test.YthedpegaelpbdaaV1
import Derived.Test.YthedpegaelpbdaaN6
import Derived.Deep.LoopGhost
namespace Go.Proofs.Ythedpegaelpbdaa
open Go.ChangeShapes Go.WideShapes Go.ChangeAt Go.RowKit
set_option linter.unusedVariables false
attribute [local go_sem ↓] execOp_call_val
attribute [local go_sem] callVal_func setCell_drewN alloc_drewN sEq_walk NetH.cells

theorem sNe_walk (z y : ByteArray) : (z.toList != y.toList) = !sEq z y := by rw [← sEq_walk]; rfl
attribute [local go_sem] sNe_walk

structure Zr where
  node : ByteArray
  branch : ByteArray
  zones : List Zs
def zBad (z : Zs) : Bool := decide (z.reach < 1 ∨ 1000000 < z.reach ∨ z.delay < 0 ∨ 100000 < z.delay)
def zsGo : Option Zs → List Zs → Int
  | _, [] => 0
  | none, z :: r => if zBad z then 4 else zsGo (some z) r
  | some q, z :: r => if zBad z then 4 else if z.reach ≤ q.reach ∨ z.delay < q.delay then 3 else zsGo (some z) r
theorem zsGo_bad (o : Option Zs) {z : Zs} (r : List Zs) (h : zBad z = true) : zsGo o (z :: r) = 4 := by
  cases o <;> (unfold zsGo; rw [if_pos h])
theorem zsGo_first {z : Zs} {r : List Zs} (h : zBad z = false) : zsGo none (z :: r) = zsGo (some z) r := by
  show (if zBad z then 4 else zsGo (some z) r) = _
  rw [if_neg (by rw [h]; simp)]
theorem zsGo_form {q z : Zs} {r : List Zs} (h : zBad z = false) (h2 : z.reach ≤ q.reach ∨ z.delay < q.delay) : zsGo (some q) (z :: r) = 3 := by
  unfold zsGo
  rw [if_neg (by rw [h]; simp), if_pos h2]
theorem zsGo_next {q z : Zs} {r : List Zs} (h : zBad z = false) (h2 : ¬ (z.reach ≤ q.reach ∨ z.delay < q.delay)) : zsGo (some q) (z :: r) = zsGo (some z) r := by
  show (if zBad z then 4 else if z.reach ≤ q.reach ∨ z.delay < q.delay then 3 else zsGo (some z) r) = _
  rw [if_neg (by rw [h]; simp), if_neg h2]
def brAt (x : Net) (s : ByteArray) : Br := (x.brs[(brIdx x s).toNat]?).getD ⟨⟨#[]⟩, ⟨#[]⟩, ⟨#[]⟩, 0, 0, 0, 0, 0, 0⟩
def zckR (x : Net) (r : Zr) : Int :=
  if netCk x ≠ 0 then netCk x else if brIdx x r.branch < 0 then 6
  else if (sEq r.node (brAt x r.branch).fr = false ∧ sEq r.node (brAt x r.branch).to = false) ∨ r.zones.length < 1 ∨ 4 < r.zones.length then 3 else zsGo none r.zones
theorem brAt_ok {x : Net} {s : ByteArray} (h : 0 ≤ brIdx x s) : ∃ i : Nat, brIdx x s = (i : Int) ∧ x.brs[i]? = some (brAt x s) ∧ (brAt x s).name = s := by
  rcases brIdx_spec x s with ⟨h1, _⟩ | ⟨i, b, h1, h2, h3⟩
  · omega
  · have hb : brAt x s = b := by unfold brAt; rw [h1]; simp [h2]
    exact ⟨i, h1, by rw [hb]; exact h2, by rw [hb]; exact h3⟩
theorem zr_box {w : World} {p : Nat} {t : TypeId} {u v z : Value} (h : Blk w p t #[u, v, z]) : w.cell? ⟨p, 0, none⟩ = some u ∧ w.cell? ⟨p, 1, none⟩ = some v ∧ w.cell? ⟨p, 2, none⟩ = some z ∧ (∀ i, w.frozen? ⟨p, i, none⟩ = false) ∧ p < w.heap.size := ⟨h.cell 0, h.cell 1, h.cell 2, h.frozen, h.lt⟩

set_option maxRecDepth 100000 in
set_option maxHeartbeats 4000000 in
theorem zcheck_any (h : NetH) (x : Net) (r : Zr) (ZA : Option Addr) (zn zc : Nat) (w : World) (hR : RdNet w w.heap.size h x) (hZ : RdZs w w.heap.size ZA zn r.zones) (hzn : zn ≤ 9223372036854775807) :
    Calls Try.prog 53 #[.agg h.cells, .agg #[.string r.node, .string r.branch, .slice ZA zn zc]] w fun e w' => e = .returned (.int .i64 (zckR x r)) ∧ Below w.heap.size w w' := by
  have K0 : Below w.heap.size w ((w.alloc (.cells h.cells 29)).alloc (.cells #[.string r.node, .string r.branch, .slice ZA zn zc] 57)) := ((Below.refl _ _).alloc (Nat.le_refl _) _).alloc (by simp) _
  have HK := Lib.hid K0
  have HR := Lib.hid (hR.up K0)
  have HZ := Lib.hid ((hZ.below K0 (Nat.le_refl _)).more K0.size)
  have HQ1 : Hid (Blk ((w.alloc (.cells h.cells 29)).alloc (.cells #[.string r.node, .string r.branch, .slice ZA zn zc] 57)) w.heap.size 29 h.cells) := Lib.hid ((Blk.new w _ _).alloc _)
  have HQ2 : Hid (Blk ((w.alloc (.cells h.cells 29)).alloc (.cells #[.string r.node, .string r.branch, .slice ZA zn zc] 57)) (w.heap.size + 1) 57 #[.string r.node, .string r.branch, .slice ZA zn zc]) := Lib.hid (Blk.new_ (by simp))
  have HD : Hid (zckR x r = if netCk x ≠ 0 then netCk x else if brIdx x r.branch < 0 then 6
    else if (sEq r.node (brAt x r.branch).fr = false ∧ sEq r.node (brAt x r.branch).to = false) ∨ r.zones.length < 1 ∨ 4 < r.zones.length then 3 else zsGo none r.zones) := Lib.hid rfl
  have hzl := Lib.hid hZ.1
  clear K0 hR hZ
  go_enter Try.func53, Try.ntmps53
  go_wp2_with fail
  refine (check_any h x _ HR.out).mono ?_
  rintro e w1 ⟨rfl, k1⟩
  have hq1 := HQ1.out.below k1 HQ1.out.lt
  have hq2 := HQ2.out.below k1 HQ2.out.lt
  obtain ⟨y0, y1, y2, y3, y4, y5, nf, nlt⟩ := net_box hq1
  obtain ⟨z0, z1, z2, zf, zlt⟩ := zr_box hq2
  have HQ3 := Lib.hid hq1
  have HQ4 := Lib.hid hq2
  have HK1 := Lib.hid (HK.out.trans (k1.mono HK.out.size))
  have HR1 := Lib.hid (HR.out.up k1)
  have HZ1 := Lib.hid ((HZ.out.below k1 (Nat.le_refl _)).more k1.size)
  clear k1 hq1 hq2
  by_cases h0 : netCk x = 0
  · have h0b : (netCk x != 0) = false := by simpa using h0
    have H0 := Lib.hid h0
    clear h0
    go_wp2_with fail
    refine (zbranch_any h x r.branch _ HR1.out).mono ?_
    rintro e w2 ⟨rfl, k2⟩
    have hq1 := HQ3.out.below k2 HQ3.out.lt
    have hq2 := HQ4.out.below k2 HQ4.out.lt
    clear y0 y1 y2 y3 y4 y5 nf nlt z0 z1 z2 zf zlt
    obtain ⟨y0, y1, y2, y3, y4, y5, nf, nlt⟩ := net_box hq1
    obtain ⟨z0, z1, z2, zf, zlt⟩ := zr_box hq2
    have HK2 := Lib.hid (HK1.out.trans (k2.mono HK1.out.size))
    have HR2 := Lib.hid (HR1.out.up k2)
    have HZ2 := Lib.hid ((HZ1.out.below k2 (Nat.le_refl _)).more k2.size)
    have HQ5 := Lib.hid hq2
    clear k2 hq1 hq2
    by_cases h1 : brIdx x r.branch < 0
    · have HF : Hid (zckR x r = 6) := Lib.hid (by rw [HD.out, H0.out, if_neg (by simp), if_pos h1])
      go_wp2_with fail
      go_ret
      exact ⟨ret_int HF.out.symm, HK2.out⟩
    · obtain ⟨i, hi, hbr, hbn⟩ := brAt_ok (x := x) (s := r.branch) (by omega)
      have HF : Hid (zckR x r = if (sEq r.node (brAt x r.branch).fr = false ∧ sEq r.node (brAt x r.branch).to = false) ∨ r.zones.length < 1 ∨ 4 < r.zones.length then 3 else zsGo none r.zones) := Lib.hid (by rw [HD.out, H0.out, if_neg (by simp), if_neg h1])
      rw [hi] at h1 ⊢
      generalize brAt x r.branch = bb at *
      have hil : i < h.n2 := by have := (List.getElem?_eq_some_iff.1 hbr).1; have := HR2.out.r2.1; omega
      obtain ⟨bz, oz, hA, hbz⟩ := HR2.out.r2.form (by omega)
      have hrr := HR2.out.r2
      rw [hA] at hrr y2
      obtain ⟨e0, e1, e2, e3, e4, e5, e6, e7, e8⟩ := hrr.at_ hbr
      have hiI : (i : Int) < (h.n2 : Int) := by omega
      clear hrr hA hbr hi hbn
      have hrn : Hid (0 = 0) := Lib.hid rfl
      cases hf : sEq r.node bb.fr with
      | true =>
        have HSF := Lib.hid hf
        by_cases h3 : zn < 1
        · obtain rfl : zn = 0 := by omega
          have HF2 : Hid (zckR x r = 3) := Lib.hid (by rw [HF.out, if_pos (.inr (.inl (by have := hzl.out; omega)))])
          go_wp2_with fail
          go_ret
          exact ⟨ret_int HF2.out.symm, HK2.out.alloc HK2.out.size _⟩
        · by_cases h4 : 4 < zn
          · have HF2 : Hid (zckR x r = 3) := Lib.hid (by rw [HF.out, if_pos (.inr (.inr (by have := hzl.out; omega)))])
            go_wp2_with fail
            go_ret
            exact ⟨ret_int HF2.out.symm, HK2.out.alloc HK2.out.size _⟩
          · have HF2 : Hid (zckR x r = zsGo none r.zones) := Lib.hid (by rw [HF.out, if_neg (fun h => by rcases h with ⟨h5, h6⟩ | h | h <;> first | (rw [HSF.out] at h5; cases h5) | (rw [HSF.out] at h6; cases h6) | (have := hzl.out; omega))])
            go_wp2_with fail
            go_loopg [53] zn (fun n i wq => ∃ k : Nat, n + k ≤ zn ∧ zn ≤ n + k ∧ i = .int .i64 k ∧ Below w2.heap.size w2 wq ∧ zsGo none r.zones = zsGo (if k = 0 then none else r.zones[k - 1]?) (r.zones.drop k))
            case atStart => exact ⟨0, by omega, by omega, rfl, (Below.refl _ _).alloc (Nat.le_refl _) _, by simp⟩
            case round =>
              obtain ⟨k, hk1, hk2, rfl, hbel, hgo⟩ := hrel
              have HBEL := Lib.hid hbel
              have HGO := Lib.hid hgo
              have hzb := HQ5.out.below hbel HQ5.out.lt
              obtain ⟨z0, z1, z2, zf, zlt⟩ := zr_box hzb
              have HKF := Lib.hid (HK2.out.trans (hbel.mono HK2.out.size))
              have HZ3 := Lib.hid ((HZ2.out.below hbel (Nat.le_refl _)).more hbel.size)
              clear hbel hgo hzb
              by_cases hlt : k < zn
              · obtain ⟨z, hz⟩ : ∃ z, r.zones[k]? = some z := ⟨_, List.getElem?_eq_getElem (by have := hzl.out; omega)⟩
                obtain ⟨bs, os, hA, hbs⟩ := HZ3.out.form (by omega)
                subst hA
                obtain ⟨e0, e1⟩ := HZ3.out.at_ hz
                have HZZ := Lib.hid (drop_cons hz)
                have HZK := Lib.hid hz
                clear hz
                have HK5 := Lib.hid (HKF.out.alloc HKF.out.size (.cells #[.int .i64 z.reach, .int .i64 z.delay] 52))
                have hbzw : bs < wr.heap.size := hbs
                by_cases t0 : z.reach < 1
                · have hzb : zBad z = true := by unfold zBad; rw [decide_eq_true_eq]; omega
                  have HF3 : Hid (zckR x r = 4) := Lib.hid (by rw [HF2.out, HGO.out, HZZ.out]; exact zsGo_bad _ _ hzb)
                  clear hzb
                  go_wp2_with fail
                  go_ret
                  exact ⟨ret_int HF3.out.symm, HK5.out⟩
                · skip
                  by_cases t1 : 1000000 < z.reach
                  · have hzb : zBad z = true := by unfold zBad; rw [decide_eq_true_eq]; omega
                    have HF3 : Hid (zckR x r = 4) := Lib.hid (by rw [HF2.out, HGO.out, HZZ.out]; exact zsGo_bad _ _ hzb)
                    clear hzb
                    go_wp2_with fail
                    go_ret
                    exact ⟨ret_int HF3.out.symm, HK5.out⟩
                  · skip
                    by_cases t2 : z.delay < 0
                    · have hzb : zBad z = true := by unfold zBad; rw [decide_eq_true_eq]; omega
                      have HF3 : Hid (zckR x r = 4) := Lib.hid (by rw [HF2.out, HGO.out, HZZ.out]; exact zsGo_bad _ _ hzb)
                      clear hzb
                      go_wp2_with fail
                      go_ret
                      exact ⟨ret_int HF3.out.symm, HK5.out⟩
                    · skip
                      by_cases t3 : 100000 < z.delay
                      · have hzb : zBad z = true := by unfold zBad; rw [decide_eq_true_eq]; omega
                        have HF3 : Hid (zckR x r = 4) := Lib.hid (by rw [HF2.out, HGO.out, HZZ.out]; exact zsGo_bad _ _ hzb)
                        clear hzb
                        go_wp2_with fail
                        go_ret
                        exact ⟨ret_int HF3.out.symm, HK5.out⟩
                      · skip
                        have hzb : zBad z = false := by unfold zBad; rw [decide_eq_false_iff_not]; omega
                        have HZB := Lib.hid hzb
                        clear hzb
                        by_cases hk0 : k = 0
                        · subst hk0
                          simp only [Nat.zero_mul, Nat.add_zero] at e0 e1
                          have HN : Hid (zsGo none r.zones = zsGo (some z) (r.zones.drop (0 + 1))) := Lib.hid (by rw [HGO.out, HZZ.out, if_pos rfl]; exact zsGo_first HZB.out)
                          go_wp2_with fail
                          go_quiet (fail)
                          go_wp2_with fail
                          go_roundg (gk - 1)
                          case measure => omega
                          case rel => exact ⟨0 + 1, by omega, by omega, by go_num, below_drewN (HBEL.out.alloc HBEL.out.size _) _, by rw [HN.out, if_neg (by omega)]; simp [HZK.out]⟩
                        · obtain ⟨q, hq⟩ : ∃ q, r.zones[k - 1]? = some q := ⟨_, List.getElem?_eq_getElem (by have := hzl.out; omega)⟩
                          obtain ⟨d0, d1⟩ := HZ3.out.at_ hq
                          have hk0' : decide ((0 : Int) < (k : Int)) = true := by simp; omega
                          have hkp : 1 ≤ k := by omega
                          have hkN : 0 < k := by omega
                          have hs1 : IntKind.i64.wrap ((k : Int) - 1) = (k : Int) - 1 := IntWalk.i64_in _ (by omega)
                          have hs2 : 0 ≤ (k : Int) - 1 := by omega
                          have hs3 : ((k : Int) - 1).toNat = k - 1 := by omega
                          have hkI : (1 : Int) ≤ (k : Int) := by omega
                          have hs4 : (k : Int) - 1 < (zn : Int) := by omega
                          have hkD : decide (0 < k) = true := by simp; omega
                          have HN : Hid (zsGo none r.zones = zsGo (some q) (z :: r.zones.drop (k + 1))) := Lib.hid (by rw [HGO.out, HZZ.out, if_neg hk0, hq])
                          clear hk0 hq
                          by_cases b3 : z.reach ≤ q.reach
                          · have b3' : decide (z.reach ≤ q.reach) = true := by simpa using b3
                            have HF3 : Hid (zckR x r = 3) := Lib.hid (by rw [HF2.out, HN.out]; exact zsGo_form HZB.out (.inl b3))
                            go_wp2_with fail
                            go_quiet (fail)
                            go_wp2_with fail
                            go_ret
                            exact ⟨ret_int HF3.out.symm, below_drewN HK5.out _⟩
                          · have b3' : decide (z.reach ≤ q.reach) = false := by simpa using b3
                            by_cases b4 : z.delay < q.delay
                            · have b4' : decide (z.delay < q.delay) = true := by simpa using b4
                              have HF3 : Hid (zckR x r = 3) := Lib.hid (by rw [HF2.out, HN.out]; exact zsGo_form HZB.out (.inr b4))
                              go_wp2_with fail
                              go_quiet (fail)
                              go_wp2_with fail
                              go_ret
                              exact ⟨ret_int HF3.out.symm, below_drewN HK5.out _⟩
                            · have b4' : decide (z.delay < q.delay) = false := by simpa using b4
                              have HN2 : Hid (zsGo none r.zones = zsGo (some z) (r.zones.drop (k + 1))) := Lib.hid (by rw [HN.out]; exact zsGo_next HZB.out (by omega))
                              clear b3 b4
                              go_wp2_with fail
                              go_quiet (fail)
                              go_wp2_with fail
                              go_roundg (gk - 1)
                              case measure => omega
                              case rel => exact ⟨k + 1, by omega, by omega, by go_num, below_drewN (HBEL.out.alloc HBEL.out.size _) _, by rw [HN2.out, if_neg (by omega), Nat.add_sub_cancel, HZK.out]⟩
              · have hd : r.zones.drop k = [] := by rw [List.drop_eq_nil_iff]; have := hzl.out; omega
                have HF3 : Hid (zckR x r = 0) := Lib.hid (by rw [HF2.out, HGO.out, hd]; unfold zsGo; rfl)
                clear hd
                go_wp2_with fail
                go_ret
                exact ⟨ret_int HF3.out.symm, HKF.out⟩
      | false =>
        have HSF := Lib.hid hf
        cases ht : sEq r.node bb.to with
        | false =>
          have HST := Lib.hid ht
          have HF2 : Hid (zckR x r = 3) := Lib.hid (by rw [HF.out, if_pos (.inl ⟨HSF.out, HST.out⟩)])
          go_wp2_with fail
          go_ret
          exact ⟨ret_int HF2.out.symm, HK2.out.alloc HK2.out.size _⟩
        | true =>
          have HST := Lib.hid ht
          by_cases h3 : zn < 1
          · obtain rfl : zn = 0 := by omega
            have HF2 : Hid (zckR x r = 3) := Lib.hid (by rw [HF.out, if_pos (.inr (.inl (by have := hzl.out; omega)))])
            go_wp2_with fail
            go_ret
            exact ⟨ret_int HF2.out.symm, HK2.out.alloc HK2.out.size _⟩
          · by_cases h4 : 4 < zn
            · have HF2 : Hid (zckR x r = 3) := Lib.hid (by rw [HF.out, if_pos (.inr (.inr (by have := hzl.out; omega)))])
              go_wp2_with fail
              go_ret
              exact ⟨ret_int HF2.out.symm, HK2.out.alloc HK2.out.size _⟩
            · have HF2 : Hid (zckR x r = zsGo none r.zones) := Lib.hid (by rw [HF.out, if_neg (fun h => by rcases h with ⟨h5, h6⟩ | h | h <;> first | (rw [HST.out] at h5; cases h5) | (rw [HST.out] at h6; cases h6) | (have := hzl.out; omega))])
              go_wp2_with fail
              go_loopg [53] zn (fun n i wq => ∃ k : Nat, n + k ≤ zn ∧ zn ≤ n + k ∧ i = .int .i64 k ∧ Below w2.heap.size w2 wq ∧ zsGo none r.zones = zsGo (if k = 0 then none else r.zones[k - 1]?) (r.zones.drop k))
              case atStart => exact ⟨0, by omega, by omega, rfl, (Below.refl _ _).alloc (Nat.le_refl _) _, by simp⟩
              case round =>
                obtain ⟨k, hk1, hk2, rfl, hbel, hgo⟩ := hrel
                have HBEL := Lib.hid hbel
                have HGO := Lib.hid hgo
                have hzb := HQ5.out.below hbel HQ5.out.lt
                obtain ⟨z0, z1, z2, zf, zlt⟩ := zr_box hzb
                have HKF := Lib.hid (HK2.out.trans (hbel.mono HK2.out.size))
                have HZ3 := Lib.hid ((HZ2.out.below hbel (Nat.le_refl _)).more hbel.size)
                clear hbel hgo hzb
                by_cases hlt : k < zn
                · obtain ⟨z, hz⟩ : ∃ z, r.zones[k]? = some z := ⟨_, List.getElem?_eq_getElem (by have := hzl.out; omega)⟩
                  obtain ⟨bs, os, hA, hbs⟩ := HZ3.out.form (by omega)
                  subst hA
                  obtain ⟨e0, e1⟩ := HZ3.out.at_ hz
                  have HZZ := Lib.hid (drop_cons hz)
                  have HZK := Lib.hid hz
                  clear hz
                  have HK5 := Lib.hid (HKF.out.alloc HKF.out.size (.cells #[.int .i64 z.reach, .int .i64 z.delay] 52))
                  have hbzw : bs < wr.heap.size := hbs
                  by_cases t0 : z.reach < 1
                  · have hzb : zBad z = true := by unfold zBad; rw [decide_eq_true_eq]; omega
                    have HF3 : Hid (zckR x r = 4) := Lib.hid (by rw [HF2.out, HGO.out, HZZ.out]; exact zsGo_bad _ _ hzb)
                    clear hzb
                    go_wp2_with fail
                    go_ret
                    exact ⟨ret_int HF3.out.symm, HK5.out⟩
                  · skip
                    by_cases t1 : 1000000 < z.reach
                    · have hzb : zBad z = true := by unfold zBad; rw [decide_eq_true_eq]; omega
                      have HF3 : Hid (zckR x r = 4) := Lib.hid (by rw [HF2.out, HGO.out, HZZ.out]; exact zsGo_bad _ _ hzb)
                      clear hzb
                      go_wp2_with fail
                      go_ret
                      exact ⟨ret_int HF3.out.symm, HK5.out⟩
                    · skip
                      by_cases t2 : z.delay < 0
                      · have hzb : zBad z = true := by unfold zBad; rw [decide_eq_true_eq]; omega
                        have HF3 : Hid (zckR x r = 4) := Lib.hid (by rw [HF2.out, HGO.out, HZZ.out]; exact zsGo_bad _ _ hzb)
                        clear hzb
                        go_wp2_with fail
                        go_ret
                        exact ⟨ret_int HF3.out.symm, HK5.out⟩
                      · skip
                        by_cases t3 : 100000 < z.delay
                        · have hzb : zBad z = true := by unfold zBad; rw [decide_eq_true_eq]; omega
                          have HF3 : Hid (zckR x r = 4) := Lib.hid (by rw [HF2.out, HGO.out, HZZ.out]; exact zsGo_bad _ _ hzb)
                          clear hzb
                          go_wp2_with fail
                          go_ret
                          exact ⟨ret_int HF3.out.symm, HK5.out⟩
                        · skip
                          have hzb : zBad z = false := by unfold zBad; rw [decide_eq_false_iff_not]; omega
                          have HZB := Lib.hid hzb
                          clear hzb
                          by_cases hk0 : k = 0
                          · subst hk0
                            simp only [Nat.zero_mul, Nat.add_zero] at e0 e1
                            have HN : Hid (zsGo none r.zones = zsGo (some z) (r.zones.drop (0 + 1))) := Lib.hid (by rw [HGO.out, HZZ.out, if_pos rfl]; exact zsGo_first HZB.out)
                            go_wp2_with fail
                            go_quiet (fail)
                            go_wp2_with fail
                            go_roundg (gk - 1)
                            case measure => omega
                            case rel => exact ⟨0 + 1, by omega, by omega, by go_num, below_drewN (HBEL.out.alloc HBEL.out.size _) _, by rw [HN.out, if_neg (by omega)]; simp [HZK.out]⟩
                          · obtain ⟨q, hq⟩ : ∃ q, r.zones[k - 1]? = some q := ⟨_, List.getElem?_eq_getElem (by have := hzl.out; omega)⟩
                            obtain ⟨d0, d1⟩ := HZ3.out.at_ hq
                            have hk0' : decide ((0 : Int) < (k : Int)) = true := by simp; omega
                            have hkp : 1 ≤ k := by omega
                            have hkN : 0 < k := by omega
                            have hs1 : IntKind.i64.wrap ((k : Int) - 1) = (k : Int) - 1 := IntWalk.i64_in _ (by omega)
                            have hs2 : 0 ≤ (k : Int) - 1 := by omega
                            have hs3 : ((k : Int) - 1).toNat = k - 1 := by omega
                            have hkI : (1 : Int) ≤ (k : Int) := by omega
                            have hs4 : (k : Int) - 1 < (zn : Int) := by omega
                            have hkD : decide (0 < k) = true := by simp; omega
                            have HN : Hid (zsGo none r.zones = zsGo (some q) (z :: r.zones.drop (k + 1))) := Lib.hid (by rw [HGO.out, HZZ.out, if_neg hk0, hq])
                            clear hk0 hq
                            by_cases b3 : z.reach ≤ q.reach
                            · have b3' : decide (z.reach ≤ q.reach) = true := by simpa using b3
                              have HF3 : Hid (zckR x r = 3) := Lib.hid (by rw [HF2.out, HN.out]; exact zsGo_form HZB.out (.inl b3))
                              go_wp2_with fail
                              go_quiet (fail)
                              go_wp2_with fail
                              go_ret
                              exact ⟨ret_int HF3.out.symm, below_drewN HK5.out _⟩
                            · have b3' : decide (z.reach ≤ q.reach) = false := by simpa using b3
                              by_cases b4 : z.delay < q.delay
                              · have b4' : decide (z.delay < q.delay) = true := by simpa using b4
                                have HF3 : Hid (zckR x r = 3) := Lib.hid (by rw [HF2.out, HN.out]; exact zsGo_form HZB.out (.inr b4))
                                go_wp2_with fail
                                go_quiet (fail)
                                go_wp2_with fail
                                go_ret
                                exact ⟨ret_int HF3.out.symm, below_drewN HK5.out _⟩
                              · have b4' : decide (z.delay < q.delay) = false := by simpa using b4
                                have HN2 : Hid (zsGo none r.zones = zsGo (some z) (r.zones.drop (k + 1))) := Lib.hid (by rw [HN.out]; exact zsGo_next HZB.out (by omega))
                                clear b3 b4
                                go_wp2_with fail
                                go_quiet (fail)
                                go_wp2_with fail
                                go_roundg (gk - 1)
                                case measure => omega
                                case rel => exact ⟨k + 1, by omega, by omega, by go_num, below_drewN (HBEL.out.alloc HBEL.out.size _) _, by rw [HN2.out, if_neg (by omega), Nat.add_sub_cancel, HZK.out]⟩
                · have hd : r.zones.drop k = [] := by rw [List.drop_eq_nil_iff]; have := hzl.out; omega
                  have HF3 : Hid (zckR x r = 0) := Lib.hid (by rw [HF2.out, HGO.out, hd]; unfold zsGo; rfl)
                  clear hd
                  go_wp2_with fail
                  go_ret
                  exact ⟨ret_int HF3.out.symm, HKF.out⟩
  · have hb : (netCk x != 0) = true := by simpa using h0
    have HF : Hid (zckR x r = netCk x) := Lib.hid (by rw [HD.out, if_pos h0])
    clear h0
    go_wp2_with fail
    go_ret
    exact ⟨ret_int HF.out.symm, HK1.out⟩
end Go.Proofs.Ythedpegaelpbdaa
