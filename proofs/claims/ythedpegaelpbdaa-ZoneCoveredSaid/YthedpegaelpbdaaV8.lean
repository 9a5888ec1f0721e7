/- Distance, zone and time of a place. -/
import Derived.Test.YthedpegaelpbdaaV7
namespace Go.Proofs.Ythedpegaelpbdaa
open Go.ChangeShapes Go.WideShapes Go.ChangeAt Go.RowKit Go.Joins Go.Deep
set_option linter.unusedVariables false
attribute [local go_sem ↓] execOp_call_val
attribute [local go_sem] callVal_func setCell_drewN alloc_drewN sEq_walk sNe_walk NetH.cells


def chkR (x : Net) (r : Zr) (p : Fp) : Int := if zckR x r ≠ 0 then zckR x r else cpR x p
theorem chkR_ok {x : Net} {r : Zr} {p : Fp} (h : chkR x r p = 0) : zckR x r = 0 ∧ cpR x p = 0 := by
  unfold chkR at h
  by_cases h0 : zckR x r = 0
  · rw [if_neg (by rw [h0]; simp)] at h; exact ⟨h0, h⟩
  · rw [if_pos h0] at h; exact absurd h h0
set_option maxHeartbeats 1000000 in
theorem zchk_any (h : NetH) (x : Net) (r : Zr) (p : Fp) (ZA : Option Addr) (zn zc : Nat) (w : World) (hR : RdNet w w.heap.size h x) (hZ : RdZs w w.heap.size ZA zn r.zones) (hzn : zn ≤ 9223372036854775807) :
    Calls Try.prog 49 #[.agg h.cells, .agg #[.string r.node, .string r.branch, .slice ZA zn zc], .agg #[.string p.branch, .int .i64 p.part]] w fun e w' => e = .returned (.int .i64 (chkR x r p)) ∧ Below w.heap.size w w' := by
  have hB0 : Below w.heap.size w (((w.alloc (.cells h.cells 29)).alloc (.cells #[.string r.node, .string r.branch, .slice ZA zn zc] 57)).alloc (.cells #[.string p.branch, .int .i64 p.part] 31)) := (((Below.refl _ _).alloc (Nat.le_refl _) _).alloc (by simp) _).alloc (by simp; omega) _
  have HB0 := Lib.hid hB0
  have HR0 := Lib.hid (hR.up hB0)
  have HZ0 := Lib.hid ((hZ.below hB0 (Nat.le_refl _)).more hB0.size)
  have HQ1 : Hid (Blk (((w.alloc (.cells h.cells 29)).alloc (.cells #[.string r.node, .string r.branch, .slice ZA zn zc] 57)).alloc (.cells #[.string p.branch, .int .i64 p.part] 31)) w.heap.size 29 h.cells) := Lib.hid (((Blk.new w _ _).alloc _).alloc _)
  have HQ2 : Hid (Blk (((w.alloc (.cells h.cells 29)).alloc (.cells #[.string r.node, .string r.branch, .slice ZA zn zc] 57)).alloc (.cells #[.string p.branch, .int .i64 p.part] 31)) (w.heap.size + 1) 57 #[.string r.node, .string r.branch, .slice ZA zn zc]) := Lib.hid ((Blk.new_ (by simp)).alloc _)
  have HQ3 : Hid (Blk (((w.alloc (.cells h.cells 29)).alloc (.cells #[.string r.node, .string r.branch, .slice ZA zn zc] 57)).alloc (.cells #[.string p.branch, .int .i64 p.part] 31)) (w.heap.size + 1 + 1) 31 #[.string p.branch, .int .i64 p.part]) := Lib.hid (Blk.new_ (by simp))
  clear hB0 hR hZ
  go_enter Try.func49, Try.ntmps49
  go_wp2_with fail
  refine (zcheck_any h x r ZA zn zc _ HR0.out HZ0.out hzn).mono ?_
  have HD : Hid (chkR x r p = if zckR x r ≠ 0 then zckR x r else cpR x p) := Lib.hid rfl
  rintro e w1 ⟨rfl, k1⟩
  have HB1 := Lib.hid (HB0.out.trans (k1.mono HB0.out.size))
  have HR1 := Lib.hid (HR0.out.up k1)
  have HZ1 := Lib.hid ((HZ0.out.below k1 (Nat.le_refl _)).more k1.size)
  have hq1 := HQ1.out.below k1 HQ1.out.lt
  have hq2 := HQ2.out.below k1 HQ2.out.lt
  have hq3 := HQ3.out.below k1 HQ3.out.lt
  obtain ⟨y0, y1, y2, y3, y4, y5, nf, nlt⟩ := net_box hq1
  obtain ⟨z0, z1, z2, zf, zlt⟩ := zr_box hq2
  obtain ⟨v0, v1, vf, vlt⟩ := check_box hq3
  have HQ4 := Lib.hid hq2
  clear k1 hq1 hq2 hq3
  by_cases h0 : zckR x r = 0
  · have h0b : (zckR x r != 0) = false := by simpa using h0
    have HF : Hid (chkR x r p = cpR x p) := Lib.hid (by rw [HD.out, if_neg (by rw [h0]; simp)])
    clear h0
    go_wp2_with fail
    refine (checkPlace_any h x p _ HR1.out).mono ?_
    rintro e w2 ⟨rfl, k2⟩
    have HB2 := Lib.hid (HB1.out.trans (k2.mono HB1.out.size))
    clear k2
    go_wp2_with fail
    go_ret
    exact ⟨ret_int HF.out.symm, HB2.out⟩
  · have h0b : (zckR x r != 0) = true := by simpa using h0
    have HF : Hid (chkR x r p = zckR x r) := Lib.hid (by rw [HD.out, if_pos h0])
    clear h0
    go_wp2_with fail
    go_ret
    exact ⟨ret_int HF.out.symm, HB1.out⟩

def disR (x : Net) (r : Zr) (p : Fp) : Int × Int := if chkR x r p ≠ 0 then (0, chkR x r p) else if (distR x r p).2 then ((distR x r p).1, 0) else (0, 8)
def RetII (S : Int × Int) (w0 : World) (e : Ending) (w : World) : Prop := e = .returned (.tuple #[.int .i64 S.1, .int .i64 S.2]) ∧ Below w0.heap.size w0 w
set_option maxHeartbeats 1000000 in
theorem zdis_any (h : NetH) (x : Net) (r : Zr) (p : Fp) (ZA : Option Addr) (zn zc : Nat) (w : World) (hR : RdNet w w.heap.size h x) (hZ : RdZs w w.heap.size ZA zn r.zones) (hzn : zn ≤ 9223372036854775807) :
    Calls Try.prog 21 #[.agg h.cells, .agg #[.string r.node, .string r.branch, .slice ZA zn zc], .agg #[.string p.branch, .int .i64 p.part]] w (RetII (disR x r p) w) := by
  have hB0 : Below w.heap.size w (((w.alloc (.cells h.cells 29)).alloc (.cells #[.string r.node, .string r.branch, .slice ZA zn zc] 57)).alloc (.cells #[.string p.branch, .int .i64 p.part] 31)) := (((Below.refl _ _).alloc (Nat.le_refl _) _).alloc (by simp) _).alloc (by simp; omega) _
  have HB0 := Lib.hid hB0
  have HR0 := Lib.hid (hR.up hB0)
  have HZ0 := Lib.hid ((hZ.below hB0 (Nat.le_refl _)).more hB0.size)
  have HQ1 : Hid (Blk (((w.alloc (.cells h.cells 29)).alloc (.cells #[.string r.node, .string r.branch, .slice ZA zn zc] 57)).alloc (.cells #[.string p.branch, .int .i64 p.part] 31)) w.heap.size 29 h.cells) := Lib.hid (((Blk.new w _ _).alloc _).alloc _)
  have HQ2 : Hid (Blk (((w.alloc (.cells h.cells 29)).alloc (.cells #[.string r.node, .string r.branch, .slice ZA zn zc] 57)).alloc (.cells #[.string p.branch, .int .i64 p.part] 31)) (w.heap.size + 1) 57 #[.string r.node, .string r.branch, .slice ZA zn zc]) := Lib.hid ((Blk.new_ (by simp)).alloc _)
  have HQ3 : Hid (Blk (((w.alloc (.cells h.cells 29)).alloc (.cells #[.string r.node, .string r.branch, .slice ZA zn zc] 57)).alloc (.cells #[.string p.branch, .int .i64 p.part] 31)) (w.heap.size + 1 + 1) 31 #[.string p.branch, .int .i64 p.part]) := Lib.hid (Blk.new_ (by simp))
  clear hB0 hR hZ
  have HD : Hid (disR x r p = if chkR x r p ≠ 0 then (0, chkR x r p) else if (distR x r p).2 then ((distR x r p).1, 0) else (0, 8)) := Lib.hid rfl
  go_enter Try.func21, Try.ntmps21
  go_wp2_with fail
  refine (zchk_any h x r p ZA zn zc _ HR0.out HZ0.out hzn).mono ?_
  rintro e w1 ⟨rfl, k1⟩
  have HB1 := Lib.hid (HB0.out.trans (k1.mono HB0.out.size))
  have HR1 := Lib.hid (HR0.out.up k1)
  have HZ1 := Lib.hid ((HZ0.out.below k1 (Nat.le_refl _)).more k1.size)
  have hq1 := HQ1.out.below k1 HQ1.out.lt
  have hq2 := HQ2.out.below k1 HQ2.out.lt
  have hq3 := HQ3.out.below k1 HQ3.out.lt
  obtain ⟨y0, y1, y2, y3, y4, y5, nf, nlt⟩ := net_box hq1
  obtain ⟨z0, z1, z2, zf, zlt⟩ := zr_box hq2
  obtain ⟨v0, v1, vf, vlt⟩ := check_box hq3
  have HQ4 := Lib.hid hq2
  clear k1 hq1 hq2 hq3
  by_cases h0 : chkR x r p = 0
  · obtain ⟨c1, c2⟩ := chkR_ok h0
    have h0b : (chkR x r p != 0) = false := by simpa using h0
    have HF : Hid (disR x r p = if (distR x r p).2 then ((distR x r p).1, 0) else (0, 8)) := Lib.hid (by rw [HD.out, if_neg (by rw [h0]; simp)])
    have HC1 := Lib.hid c1
    have HC2 := Lib.hid c2
    clear h0 c1 c2
    go_wp2_with fail
    refine (distance_any h x r p ZA zn zc _ HR1.out HC1.out HC2.out).mono ?_
    generalize hdd : distR x r p = dd at *
    obtain ⟨dv, db⟩ := dd
    rintro e w2 ⟨rfl, k2⟩
    have HB2 := Lib.hid (HB1.out.trans (k2.mono HB1.out.size))
    clear k2
    cases db with
    | true =>
      have HF2 : Hid (disR x r p = (dv, 0)) := Lib.hid (by rw [HF.out]; rfl)
      go_wp2_with fail
      go_ret2
      exact ⟨by rw [HF2.out]; rfl, HB2.out⟩
    | false =>
      have HF2 : Hid (disR x r p = (0, 8)) := Lib.hid (by rw [HF.out]; rfl)
      go_wp2_with fail
      go_ret2
      exact ⟨by rw [HF2.out]; rfl, HB2.out⟩
  · have h0b : (chkR x r p != 0) = true := by simpa using h0
    have HF : Hid (disR x r p = (0, chkR x r p)) := Lib.hid (by rw [HD.out, if_pos h0])
    clear h0
    go_wp2_with fail
    go_ret2
    exact ⟨by rw [HF.out]; rfl, HB1.out⟩

theorem zsGo_good : ∀ (l : List Zs) (o : Option Zs), zsGo o l = 0 → ∀ z ∈ l, zBad z = false
  | [], _, _, z, hz => by simp at hz
  | y :: t, o, h, z, hz => by
    cases hb : zBad y with
    | true => rw [zsGo_bad o t hb] at h; omega
    | false =>
      have hn : zsGo (some y) t = 0 := by
        cases o with
        | none => rw [zsGo_first hb] at h; exact h
        | some q =>
          by_cases hq : y.reach ≤ q.reach ∨ y.delay < q.delay
          · rw [zsGo_form hb hq] at h; omega
          · rw [zsGo_next hb hq] at h; exact h
      rcases List.mem_cons.1 hz with rfl | hz
      · exact hb
      · exact zsGo_good t _ hn z hz
theorem zckR_zones {x : Net} {r : Zr} (h : zckR x r = 0) : zsGo none r.zones = 0 ∧ 1 ≤ r.zones.length ∧ r.zones.length ≤ 4 ∧ netCk x = 0 := by
  unfold zckR at h
  by_cases h0 : netCk x = 0
  · rw [if_neg (by rw [h0]; simp)] at h
    by_cases h1 : brIdx x r.branch < 0
    · rw [if_pos h1] at h; omega
    · rw [if_neg h1] at h
      by_cases h2 : (sEq r.node (brAt x r.branch).fr = false ∧ sEq r.node (brAt x r.branch).to = false) ∨ r.zones.length < 1 ∨ 4 < r.zones.length
      · rw [if_pos h2] at h; omega
      · rw [if_neg h2] at h
        exact ⟨h, by omega, by omega, h0⟩
  · rw [if_pos h0] at h; exact absurd h h0
theorem zBad_ff {z : Zs} (h : zBad z = false) : 1 ≤ z.reach ∧ z.reach ≤ 1000000 ∧ 0 ≤ z.delay ∧ z.delay ≤ 100000 := by
  unfold zBad at h; rw [decide_eq_false_iff_not] at h; omega

theorem zfind1 (z : Zs) (d : Int) (g : Nat) (w : World) (hg : w.cell? ⟨g, 0, none⟩ = some (.int .i64 d)) (hz : zBad z = false) :
    Calls Try.prog 52 (#[.agg #[.int .i64 z.reach, .int .i64 z.delay]] ++ #[.pointer (some ⟨g, 0, none⟩)]) w fun e w' => e = .returned (.bool (decide (d ≤ z.reach * 1000))) ∧ Below w.heap.size w w' := by
  have hlt := World.block_lt_of_cell? w ⟨g, 0, none⟩ hg
  obtain ⟨b1, b2, _, _⟩ := zBad_ff hz
  show Calls Try.prog 52 #[.agg #[.int .i64 z.reach, .int .i64 z.delay], .pointer (some ⟨g, 0, none⟩)] w _
  go_enter Try.func52, Try.ntmps52
  go_wp2_with fail
  go_ret
  exact ⟨rfl, (Below.refl _ _).alloc (Nat.le_refl _) _⟩
theorem enter_zfind1 (args : Array Value) (w : World) : (callFunc 52 args).run Try.prog w = .ok (.enter 52 args) w :=
  callFunc_enter Try.func52 (by kernel_rfl) rfl args w

def fndI (r : Zr) (d : Int) : Int := idxGo (fun z : Zs => decide (d ≤ z.reach * 1000)) r.zones 0
def fndR (x : Net) (r : Zr) (p : Fp) : Int × Int := if (disR x r p).2 ≠ 0 then (0, (disR x r p).2) else if fndI r (disR x r p).1 < 0 then (0, 8) else (fndI r (disR x r p).1, 0)
theorem disR_ok {x : Net} {r : Zr} {p : Fp} (h : (disR x r p).2 = 0) : chkR x r p = 0 := by
  unfold disR at h
  by_cases h0 : chkR x r p = 0
  · exact h0
  · rw [if_pos h0] at h; exact absurd h h0
set_option maxHeartbeats 1000000 in
theorem zfnd_any (h : NetH) (x : Net) (r : Zr) (p : Fp) (ZA : Option Addr) (zn zc : Nat) (w : World) (hR : RdNet w w.heap.size h x) (hZ : RdZs w w.heap.size ZA zn r.zones) (hzn : zn ≤ 9223372036854775807) :
    Calls Try.prog 22 #[.agg h.cells, .agg #[.string r.node, .string r.branch, .slice ZA zn zc], .agg #[.string p.branch, .int .i64 p.part]] w (RetII (fndR x r p) w) := by
  have hB0 : Below w.heap.size w (((w.alloc (.cells h.cells 29)).alloc (.cells #[.string r.node, .string r.branch, .slice ZA zn zc] 57)).alloc (.cells #[.string p.branch, .int .i64 p.part] 31)) := (((Below.refl _ _).alloc (Nat.le_refl _) _).alloc (by simp) _).alloc (by simp; omega) _
  have HB0 := Lib.hid hB0
  have HR0 := Lib.hid (hR.up hB0)
  have HZ0 := Lib.hid ((hZ.below hB0 (Nat.le_refl _)).more hB0.size)
  have HQ1 : Hid (Blk (((w.alloc (.cells h.cells 29)).alloc (.cells #[.string r.node, .string r.branch, .slice ZA zn zc] 57)).alloc (.cells #[.string p.branch, .int .i64 p.part] 31)) w.heap.size 29 h.cells) := Lib.hid (((Blk.new w _ _).alloc _).alloc _)
  have HQ2 : Hid (Blk (((w.alloc (.cells h.cells 29)).alloc (.cells #[.string r.node, .string r.branch, .slice ZA zn zc] 57)).alloc (.cells #[.string p.branch, .int .i64 p.part] 31)) (w.heap.size + 1) 57 #[.string r.node, .string r.branch, .slice ZA zn zc]) := Lib.hid ((Blk.new_ (by simp)).alloc _)
  have HQ3 : Hid (Blk (((w.alloc (.cells h.cells 29)).alloc (.cells #[.string r.node, .string r.branch, .slice ZA zn zc] 57)).alloc (.cells #[.string p.branch, .int .i64 p.part] 31)) (w.heap.size + 1 + 1) 31 #[.string p.branch, .int .i64 p.part]) := Lib.hid (Blk.new_ (by simp))
  clear hB0 hR hZ
  have HD : Hid (fndR x r p = if (disR x r p).2 ≠ 0 then (0, (disR x r p).2) else if fndI r (disR x r p).1 < 0 then (0, 8) else (fndI r (disR x r p).1, 0)) := Lib.hid rfl
  have HDK : Hid ((disR x r p).2 = 0 → chkR x r p = 0) := Lib.hid disR_ok
  go_enter Try.func22, Try.ntmps22
  go_wp2_with fail
  refine (zdis_any h x r p ZA zn zc _ HR0.out HZ0.out hzn).mono ?_
  generalize disR x r p = dd at *
  obtain ⟨dv, de⟩ := dd
  rintro e w1 ⟨rfl, k1⟩
  have HB1 := Lib.hid (HB0.out.trans (k1.mono HB0.out.size))
  have HR1 := Lib.hid (HR0.out.up k1)
  have HZ1 := Lib.hid ((HZ0.out.below k1 (Nat.le_refl _)).more k1.size)
  have hq1 := HQ1.out.below k1 HQ1.out.lt
  have hq2 := HQ2.out.below k1 HQ2.out.lt
  have hq3 := HQ3.out.below k1 HQ3.out.lt
  obtain ⟨y0, y1, y2, y3, y4, y5, nf, nlt⟩ := net_box hq1
  obtain ⟨z0, z1, z2, zf, zlt⟩ := zr_box hq2
  obtain ⟨v0, v1, vf, vlt⟩ := check_box hq3
  have HQ4 := Lib.hid hq2
  clear k1 hq1 hq2 hq3
  by_cases h0 : de = 0
  · subst h0
    have hzk := zckR_zones (chkR_ok (HDK.out rfl)).1
    have hgood := Lib.hid (zsGo_good _ _ hzk.1)
    have HF : Hid (fndR x r p = if fndI r dv < 0 then (0, 8) else (fndI r dv, 0)) := Lib.hid (by rw [HD.out, if_neg (by simp)])
    have hb3 := (Below.refl w1.heap.size w1).alloc (Nat.le_refl _) (.cells #[.int .i64 dv] 3)
    have HB3 := Lib.hid hb3
    have HC : Hid ((w1.alloc (.cells #[.int .i64 dv] 3)).cell? ⟨w1.heap.size, 0, none⟩ = some (.int .i64 dv)) := Lib.hid ((Blk.new w1 _ _).cell 0)
    clear hb3 hzk
    go_wp2_with fail
    refine (indexFuncZs _ _ ZA zn zc r.zones (fun z => decide (dv ≤ z.reach * 1000)) (fun w' => Below (w1.alloc (.cells #[.int .i64 dv] 3)).heap.size (w1.alloc (.cells #[.int .i64 dv] 3)) w') enter_zfind1
      (fun w' hb => (((HZ1.out.below HB3.out (Nat.le_refl _)).more HB3.out.size).below hb (Nat.le_refl _)).more hb.size) (fun z w' hz hb => (zfind1 z dv w1.heap.size w' ((hb.cell (p := ⟨w1.heap.size, 0, none⟩) (by simp)).trans HC.out) (hgood.out z hz)).mono fun e w'' ⟨he, hb2⟩ => ⟨he, hb.trans (hb2.mono hb.size)⟩) hzn _ (Below.refl _ _)).mono ?_
    rintro e w2 ⟨rfl, hb⟩
    have HB2 := Lib.hid (HB1.out.trans ((HB3.out.trans (hb.mono HB3.out.size)).mono HB1.out.size))
    clear hb
    have HFI : Hid (fndI r dv = idxGo (fun z : Zs => decide (dv ≤ z.reach * 1000)) r.zones 0) := Lib.hid rfl
    rw [← HFI.out]
    generalize fndI r dv = fi at *
    by_cases h1 : fi < 0
    · have HF2 : Hid (fndR x r p = (0, 8)) := Lib.hid (by rw [HF.out, if_pos h1])
      go_wp2_with fail
      go_ret2
      exact ⟨by rw [HF2.out]; rfl, HB2.out⟩
    · have HF2 : Hid (fndR x r p = (fi, 0)) := Lib.hid (by rw [HF.out, if_neg h1])
      go_wp2_with fail
      go_ret2
      exact ⟨by rw [HF2.out]; rfl, HB2.out⟩
  · have h0b : (de != 0) = true := by simpa using h0
    have HF : Hid (fndR x r p = (0, de)) := Lib.hid (by rw [HD.out, if_pos h0])
    clear h0
    go_wp2_with fail
    go_ret2
    exact ⟨by rw [HF.out]; rfl, HB1.out.alloc HB1.out.size _⟩

theorem fndR_ok {x : Net} {r : Zr} {p : Fp} (h : (fndR x r p).2 = 0) : (disR x r p).2 = 0 ∧ (fndR x r p).1 = fndI r (disR x r p).1 ∧ ∃ (i : Nat) (z : Zs), (fndR x r p).1 = (i : Int) ∧ r.zones[i]? = some z := by
  unfold fndR at h
  by_cases h0 : (disR x r p).2 = 0
  · rw [if_neg (by rw [h0]; simp)] at h
    by_cases h1 : fndI r (disR x r p).1 < 0
    · rw [if_pos h1] at h; cases h
    · have hf : fndR x r p = (fndI r (disR x r p).1, 0) := by unfold fndR; rw [if_neg (by rw [h0]; simp), if_neg h1]
      rw [hf]
      refine ⟨h0, rfl, ?_⟩
      rcases idxGo_spec (fun z : Zs => decide ((disR x r p).1 ≤ z.reach * 1000)) r.zones 0 with ⟨h2, _⟩ | ⟨i, z, h2, h3, _⟩
      · exact absurd (show fndI r (disR x r p).1 < 0 by unfold fndI; rw [h2]; decide) h1
      · exact ⟨i, z, by show fndI r _ = _; unfold fndI; rw [h2]; simp, h3⟩
  · rw [if_pos h0] at h; exact absurd h h0
def zAt (r : Zr) (i : Int) : Zs := (r.zones[i.toNat]?).getD ⟨0, 0⟩
def timR (x : Net) (r : Zr) (p : Fp) : Int × Int := if (fndR x r p).2 ≠ 0 then (0, (fndR x r p).2) else ((zAt r (fndR x r p).1).delay, 0)
set_option maxHeartbeats 1000000 in
theorem ztim_any (h : NetH) (x : Net) (r : Zr) (p : Fp) (ZA : Option Addr) (zn zc : Nat) (w : World) (hR : RdNet w w.heap.size h x) (hZ : RdZs w w.heap.size ZA zn r.zones) (hzn : zn ≤ 9223372036854775807) :
    Calls Try.prog 23 #[.agg h.cells, .agg #[.string r.node, .string r.branch, .slice ZA zn zc], .agg #[.string p.branch, .int .i64 p.part]] w (RetII (timR x r p) w) := by
  have hB0 : Below w.heap.size w (((w.alloc (.cells h.cells 29)).alloc (.cells #[.string r.node, .string r.branch, .slice ZA zn zc] 57)).alloc (.cells #[.string p.branch, .int .i64 p.part] 31)) := (((Below.refl _ _).alloc (Nat.le_refl _) _).alloc (by simp) _).alloc (by simp; omega) _
  have HB0 := Lib.hid hB0
  have HR0 := Lib.hid (hR.up hB0)
  have HZ0 := Lib.hid ((hZ.below hB0 (Nat.le_refl _)).more hB0.size)
  have HQ1 : Hid (Blk (((w.alloc (.cells h.cells 29)).alloc (.cells #[.string r.node, .string r.branch, .slice ZA zn zc] 57)).alloc (.cells #[.string p.branch, .int .i64 p.part] 31)) w.heap.size 29 h.cells) := Lib.hid (((Blk.new w _ _).alloc _).alloc _)
  have HQ2 : Hid (Blk (((w.alloc (.cells h.cells 29)).alloc (.cells #[.string r.node, .string r.branch, .slice ZA zn zc] 57)).alloc (.cells #[.string p.branch, .int .i64 p.part] 31)) (w.heap.size + 1) 57 #[.string r.node, .string r.branch, .slice ZA zn zc]) := Lib.hid ((Blk.new_ (by simp)).alloc _)
  have HQ3 : Hid (Blk (((w.alloc (.cells h.cells 29)).alloc (.cells #[.string r.node, .string r.branch, .slice ZA zn zc] 57)).alloc (.cells #[.string p.branch, .int .i64 p.part] 31)) (w.heap.size + 1 + 1) 31 #[.string p.branch, .int .i64 p.part]) := Lib.hid (Blk.new_ (by simp))
  clear hB0 hR hZ
  have HD : Hid (timR x r p = if (fndR x r p).2 ≠ 0 then (0, (fndR x r p).2) else ((zAt r (fndR x r p).1).delay, 0)) := Lib.hid rfl
  have HDK : Hid ((fndR x r p).2 = 0 → ∃ (i : Nat) (z : Zs), (fndR x r p).1 = (i : Int) ∧ r.zones[i]? = some z) := Lib.hid fun h => (fndR_ok h).2.2
  have hzl := Lib.hid HZ0.out.1
  go_enter Try.func23, Try.ntmps23
  go_wp2_with fail
  refine (zfnd_any h x r p ZA zn zc _ HR0.out HZ0.out hzn).mono ?_
  generalize fndR x r p = dd at *
  obtain ⟨dv, de⟩ := dd
  rintro e w1 ⟨rfl, k1⟩
  have HB1 := Lib.hid (HB0.out.trans (k1.mono HB0.out.size))
  have HR1 := Lib.hid (HR0.out.up k1)
  have HZ1 := Lib.hid ((HZ0.out.below k1 (Nat.le_refl _)).more k1.size)
  have hq1 := HQ1.out.below k1 HQ1.out.lt
  have hq2 := HQ2.out.below k1 HQ2.out.lt
  have hq3 := HQ3.out.below k1 HQ3.out.lt
  obtain ⟨y0, y1, y2, y3, y4, y5, nf, nlt⟩ := net_box hq1
  obtain ⟨z0, z1, z2, zf, zlt⟩ := zr_box hq2
  obtain ⟨v0, v1, vf, vlt⟩ := check_box hq3
  have HQ4 := Lib.hid hq2
  clear k1 hq1 hq2 hq3
  by_cases h0 : de = 0
  · subst h0
    obtain ⟨i, z, hi, hz⟩ := HDK.out rfl
    dsimp only at hi
    subst hi
    have HF : Hid (timR x r p = (z.delay, 0)) := Lib.hid (by rw [HD.out, if_neg (by simp)]; unfold zAt; simp [hz])
    have hin : i < zn := by have := (List.getElem?_eq_some_iff.1 hz).1; have := hzl.out; omega
    obtain ⟨bz, oz, hA, hbz⟩ := HZ1.out.form (by omega)
    subst hA
    obtain ⟨e0, e1⟩ := HZ1.out.at_ hz
    have hiI : (i : Int) < (zn : Int) := by omega
    clear hz
    go_wp2_with fail
    go_ret2
    exact ⟨by rw [HF.out]; rfl, HB1.out⟩
  · have h0b : (de != 0) = true := by simpa using h0
    have HF : Hid (timR x r p = (0, de)) := Lib.hid (by rw [HD.out, if_pos h0])
    clear h0
    go_wp2_with fail
    go_ret2
    exact ⟨by rw [HF.out]; rfl, HB1.out⟩
end Go.Proofs.Ythedpegaelpbdaa
