/- The distance of a place from a relay. -/
import Derived.Test.YthedpegaelpbdaaV6
import Derived.Test.YthedpegaelpbdaaV5
import Derived.Deep.RegionHeld
namespace Go.Proofs.Ythedpegaelpbdaa
open Go.ChangeShapes Go.WideShapes Go.ChangeAt Go.RowKit Go.Joins Go.Deep
set_option linter.unusedVariables false
attribute [local go_sem ↓] execOp_call_val
attribute [local go_sem] callVal_func setCell_drewN alloc_drewN sEq_walk sNe_walk NetH.cells


theorem blk_set9 {w : World} {p t : Nat} {v0 v1 v2 v3 v4 v5 v6 v7 v8 x0 x1 x2 x3 x4 x5 x6 x7 x8 : Value} (h : Blk w p t #[x0, x1, x2, x3, x4, x5, x6, x7, x8]) : Blk (((((((((w.setCell ⟨p, 0, none⟩ v0).setCell ⟨p, 1, none⟩ v1).setCell ⟨p, 2, none⟩ v2).setCell ⟨p, 3, none⟩ v3).setCell ⟨p, 4, none⟩ v4).setCell ⟨p, 5, none⟩ v5).setCell ⟨p, 6, none⟩ v6).setCell ⟨p, 7, none⟩ v7).setCell ⟨p, 8, none⟩ v8) p t #[v0, v1, v2, v3, v4, v5, v6, v7, v8] := by
  have h0 : Blk _ p t #[v0, x1, x2, x3, x4, x5, x6, x7, x8] := h.set_at (i := 0) v0 (by simp)
  have h1 : Blk _ p t #[v0, v1, x2, x3, x4, x5, x6, x7, x8] := h0.set_at (i := 1) v1 (by simp)
  have h2 : Blk _ p t #[v0, v1, v2, x3, x4, x5, x6, x7, x8] := h1.set_at (i := 2) v2 (by simp)
  have h3 : Blk _ p t #[v0, v1, v2, v3, x4, x5, x6, x7, x8] := h2.set_at (i := 3) v3 (by simp)
  have h4 : Blk _ p t #[v0, v1, v2, v3, v4, x5, x6, x7, x8] := h3.set_at (i := 4) v4 (by simp)
  have h5 : Blk _ p t #[v0, v1, v2, v3, v4, v5, x6, x7, x8] := h4.set_at (i := 5) v5 (by simp)
  have h6 : Blk _ p t #[v0, v1, v2, v3, v4, v5, v6, x7, x8] := h5.set_at (i := 6) v6 (by simp)
  have h7 : Blk _ p t #[v0, v1, v2, v3, v4, v5, v6, v7, x8] := h6.set_at (i := 7) v7 (by simp)
  exact h7.set_at (i := 8) v8 (by simp)
theorem blk_far9 {w : World} {g p t : Nat} {v0 v1 v2 v3 v4 v5 v6 v7 v8 : Value} {cs : Array Value} (h : Blk w g t cs) (hne : g ≠ p) : Blk (((((((((w.setCell ⟨p, 0, none⟩ v0).setCell ⟨p, 1, none⟩ v1).setCell ⟨p, 2, none⟩ v2).setCell ⟨p, 3, none⟩ v3).setCell ⟨p, 4, none⟩ v4).setCell ⟨p, 5, none⟩ v5).setCell ⟨p, 6, none⟩ v6).setCell ⟨p, 7, none⟩ v7).setCell ⟨p, 8, none⟩ v8) g t cs :=
  ((((((((h.far hne v0).far hne v1).far hne v2).far hne v3).far hne v4).far hne v5).far hne v6).far hne v7).far hne v8
theorem blk_set9e {w : World} {p g t : Nat} {v0 v1 v2 v3 v4 v5 v6 v7 v8 : Value} (he : p = g) (h : Blk w g t #[.string ⟨#[]⟩, .string ⟨#[]⟩, .string ⟨#[]⟩, .int .i64 0, .int .i64 0, .int .i64 0, .int .i64 0, .int .i64 0, .int .i64 0]) : Blk (((((((((w.setCell ⟨p, 0, none⟩ v0).setCell ⟨p, 1, none⟩ v1).setCell ⟨p, 2, none⟩ v2).setCell ⟨p, 3, none⟩ v3).setCell ⟨p, 4, none⟩ v4).setCell ⟨p, 5, none⟩ v5).setCell ⟨p, 6, none⟩ v6).setCell ⟨p, 7, none⟩ v7).setCell ⟨p, 8, none⟩ v8) g t #[v0, v1, v2, v3, v4, v5, v6, v7, v8] := by
  subst he; exact blk_set9 h

theorem bnext {W0 W w' : World} (h : Below W0.heap.size W0 W) (k : Below W.heap.size W w') : Below W0.heap.size W0 w' := h.trans (k.mono h.size)
theorem bcell2 {W w1 : World} (hb : Below W.heap.size W w1) : (∀ b o, b < W.heap.size → w1.cell? ⟨b, o, none⟩ = W.cell? ⟨b, o, none⟩) ∧ (∀ b o, b < W.heap.size → w1.frozen? ⟨b, o, none⟩ = W.frozen? ⟨b, o, none⟩) ∧ W.heap.size ≤ w1.heap.size :=
  ⟨fun b o h => hb.cell (p := ⟨b, o, none⟩) h, fun b o h => hb.frozen (p := ⟨b, o, none⟩) h, hb.size⟩

def distR (x : Net) (r : Zr) (p : Fp) : Int × Bool :=
  if sEq (brAt x r.branch).name (brAt x p.branch).name then (if sEq r.node (brAt x r.branch).fr then (brAt x r.branch).x * p.part else (brAt x r.branch).x * (1000 - p.part), true)
  else
    (fun (far : List Int) => (fun (d1 d2 u1 u2 : Int) => (fun (b1 : Int) => (fun (b2 : Int) => (1000 * (brAt x r.branch).x + b2, decide (0 ≤ b2)))
      (if 0 ≤ d2 ∧ (b1 < 0 ∨ d2 + u2 < b1) then d2 + u2 else b1)) (if 0 ≤ d1 then d1 + u1 else -1))
      (far.getD (ndIdx x.nodes (brAt x p.branch).fr) 0) (far.getD (ndIdx x.nodes (brAt x p.branch).to) 0) ((brAt x p.branch).x * p.part) ((brAt x p.branch).x * (1000 - p.part)))
      (reachR x (if sEq r.node (brAt x r.branch).to then (brAt x r.branch).fr else (brAt x r.branch).to) [(brAt x r.branch).name, (brAt x p.branch).name])

set_option maxRecDepth 100000 in
set_option maxHeartbeats 20000000 in
theorem distance_any (h : NetH) (x : Net) (r : Zr) (p : Fp) (ZA : Option Addr) (zn zc : Nat) (w : World) (hR : RdNet w w.heap.size h x) (hc1 : zckR x r = 0) (hc2 : cpR x p = 0) :
    Calls Try.prog 50 #[.agg h.cells, .agg #[.string r.node, .string r.branch, .slice ZA zn zc], .agg #[.string p.branch, .int .i64 p.part]] w fun e w' => e = .returned (.tuple #[.int .i64 (distR x r p).1, .bool (distR x r p).2]) ∧ Below w.heap.size w w' := by
  have hnc : netCk x = 0 := by unfold cpR at hc2; exact Decidable.byContradiction fun h0 => by rw [if_pos h0] at hc2; exact h0 hc2
  have ok := netCk_ok hnc
  have hp0 : 0 ≤ brIdx x p.branch ∧ 0 ≤ p.part ∧ p.part ≤ 1000 := by unfold cpR at hc2; rw [if_neg (by rw [hnc]; simp)] at hc2; refine Decidable.byContradiction fun h0 => ?_; by_cases h1 : brIdx x p.branch < 0 <;> by_cases h2 : p.part < 0 ∨ 1000 < p.part <;> simp [h1, h2] at hc2 <;> omega
  have hr0 : 0 ≤ brIdx x r.branch := by unfold zckR at hc1; rw [if_neg (by rw [hnc]; simp)] at hc1; refine Decidable.byContradiction fun h0 => ?_; rw [if_pos (by omega)] at hc1; omega
  obtain ⟨hp1, hp2, hp3⟩ := hp0
  obtain ⟨i, hi, hbr, hbn⟩ := brAt_ok hr0
  obtain ⟨k, hk, hbk, hbkn⟩ := brAt_ok hp1
  obtain ⟨A0, m0, c0, A1, m1, c1, A2, m2, c2, A3, m3, c3, A4, m4, c4, A5, m5, c5⟩ := h
  have hl2 := hR.r2.1
  dsimp only at hl2
  have him : i < m2 := by have := (List.getElem?_eq_some_iff.1 hbr).1; omega
  have hkm : k < m2 := by have := (List.getElem?_eq_some_iff.1 hbk).1; omega
  obtain ⟨bz, oz, hA, hbz⟩ := hR.r2.form (by dsimp only; omega)
  dsimp only at hA
  subst hA
  dsimp only [NetH.cells] at *
  obtain ⟨q1, q2, q3, q4⟩ := ok.br _ (List.mem_of_getElem? hbr)
  obtain ⟨s1, s2, s3, s4⟩ := ok.br _ (List.mem_of_getElem? hbk)
  have g1 := Br.good q4
  have g2 := Br.good s4
  obtain ⟨gx1, gx2, _⟩ := g1
  obtain ⟨gy1, gy2, _⟩ := g2
  have hB0 : Below w.heap.size w (((w.alloc (.cells #[.slice A0 m0 c0, .slice A1 m1 c1, .slice (some ⟨bz, oz, none⟩) m2 c2, .slice A3 m3 c3, .slice A4 m4 c4, .slice A5 m5 c5] 29)).alloc (.cells #[.string r.node, .string r.branch, .slice ZA zn zc] 57)).alloc (.cells #[.string p.branch, .int .i64 p.part] 31)) := (((Below.refl _ _).alloc (Nat.le_refl _) _).alloc (by simp) _).alloc (by simp; omega) _
  have HB0 := Lib.hid hB0
  have HR0 := Lib.hid (hR.up hB0)
  have ho := HR0.out.r2.at_ hbr
  have ht := HR0.out.r2.at_ hbk
  have HD : Hid (∀ own tt, brAt x r.branch = own → brAt x p.branch = tt → distR x r p =
    if sEq own.name tt.name then (if sEq r.node own.fr then own.x * p.part else own.x * (1000 - p.part), true)
    else (fun (far : List Int) => (fun (d1 d2 u1 u2 : Int) => (fun (b1 : Int) => (fun (b2 : Int) => (1000 * own.x + b2, decide (0 ≤ b2)))
      (if 0 ≤ d2 ∧ (b1 < 0 ∨ d2 + u2 < b1) then d2 + u2 else b1)) (if 0 ≤ d1 then d1 + u1 else -1))
      (far.getD (ndIdx x.nodes tt.fr) 0) (far.getD (ndIdx x.nodes tt.to) 0) (tt.x * p.part) (tt.x * (1000 - p.part)))
      (reachR x (if sEq r.node own.to then own.fr else own.to) [own.name, tt.name])) := Lib.hid (by rintro own tt rfl rfl; rfl)
  generalize hOwn : brAt x r.branch = own at *
  generalize hTt : brAt x p.branch = tt at *
  have hQ1 : Blk (((w.alloc (.cells #[.slice A0 m0 c0, .slice A1 m1 c1, .slice (some ⟨bz, oz, none⟩) m2 c2, .slice A3 m3 c3, .slice A4 m4 c4, .slice A5 m5 c5] 29)).alloc (.cells #[.string r.node, .string r.branch, .slice ZA zn zc] 57)).alloc (.cells #[.string p.branch, .int .i64 p.part] 31)) w.heap.size 29 #[.slice A0 m0 c0, .slice A1 m1 c1, .slice (some ⟨bz, oz, none⟩) m2 c2, .slice A3 m3 c3, .slice A4 m4 c4, .slice A5 m5 c5] := ((Blk.new w _ _).alloc _).alloc _
  have hQ2 : Blk (((w.alloc (.cells #[.slice A0 m0 c0, .slice A1 m1 c1, .slice (some ⟨bz, oz, none⟩) m2 c2, .slice A3 m3 c3, .slice A4 m4 c4, .slice A5 m5 c5] 29)).alloc (.cells #[.string r.node, .string r.branch, .slice ZA zn zc] 57)).alloc (.cells #[.string p.branch, .int .i64 p.part] 31)) (w.heap.size + 1) 57 #[.string r.node, .string r.branch, .slice ZA zn zc] := (Blk.new_ (by simp)).alloc _
  have hQ3 : Blk (((w.alloc (.cells #[.slice A0 m0 c0, .slice A1 m1 c1, .slice (some ⟨bz, oz, none⟩) m2 c2, .slice A3 m3 c3, .slice A4 m4 c4, .slice A5 m5 c5] 29)).alloc (.cells #[.string r.node, .string r.branch, .slice ZA zn zc] 57)).alloc (.cells #[.string p.branch, .int .i64 p.part] 31)) (w.heap.size + 1 + 1) 31 #[.string p.branch, .int .i64 p.part] := Blk.new_ (by simp)
  have HQ1 := Lib.hid hQ1
  have HQ2 := Lib.hid hQ2
  have HQ3 := Lib.hid hQ3
  obtain ⟨y0, y1, y2, y3, y4, y5, nf, nlt⟩ := net_box (h := ⟨A0, m0, c0, A1, m1, c1, some ⟨bz, oz, none⟩, m2, c2, A3, m3, c3, A4, m4, c4, A5, m5, c5⟩) hQ1
  dsimp only at y0 y1 y2 y3 y4 y5
  obtain ⟨z0, z1, z2, zf, zlt⟩ := zr_box hQ2
  obtain ⟨v0, v1, vf, vlt⟩ := check_box hQ3
  have HI := Lib.hid hi
  have HBN := Lib.hid hbn
  have HBKN := Lib.hid hbkn
  have HK := Lib.hid hk
  have HOK := Lib.hid ok
  have HOWN := Lib.hid hOwn
  have HTT := Lib.hid hTt
  have hiI : (i : Int) < (m2 : Int) := by omega
  have hkI : (k : Int) < (m2 : Int) := by omega
  have hiI0 : (0 : Int) ≤ (i : Int) := by omega
  have hkI0 : (0 : Int) ≤ (k : Int) := by omega
  have hN0 : w.heap.size < (((w.alloc (.cells #[.slice A0 m0 c0, .slice A1 m1 c1, .slice (some ⟨bz, oz, none⟩) m2 c2, .slice A3 m3 c3, .slice A4 m4 c4, .slice A5 m5 c5] 29)).alloc (.cells #[.string r.node, .string r.branch, .slice ZA zn zc] 57)).alloc (.cells #[.string p.branch, .int .i64 p.part] 31)).heap.size := by simp; omega
  have hN1 : w.heap.size + 1 < (((w.alloc (.cells #[.slice A0 m0 c0, .slice A1 m1 c1, .slice (some ⟨bz, oz, none⟩) m2 c2, .slice A3 m3 c3, .slice A4 m4 c4, .slice A5 m5 c5] 29)).alloc (.cells #[.string r.node, .string r.branch, .slice ZA zn zc] 57)).alloc (.cells #[.string p.branch, .int .i64 p.part] 31)).heap.size := by simp
  have hN2 : w.heap.size + 1 + 1 < (((w.alloc (.cells #[.slice A0 m0 c0, .slice A1 m1 c1, .slice (some ⟨bz, oz, none⟩) m2 c2, .slice A3 m3 c3, .slice A4 m4 c4, .slice A5 m5 c5] 29)).alloc (.cells #[.string r.node, .string r.branch, .slice ZA zn zc] 57)).alloc (.cells #[.string p.branch, .int .i64 p.part] 31)).heap.size := by simp
  have hN3 : bz < (((w.alloc (.cells #[.slice A0 m0 c0, .slice A1 m1 c1, .slice (some ⟨bz, oz, none⟩) m2 c2, .slice A3 m3 c3, .slice A4 m4 c4, .slice A5 m5 c5] 29)).alloc (.cells #[.string r.node, .string r.branch, .slice ZA zn zc] 57)).alloc (.cells #[.string p.branch, .int .i64 p.part] 31)).heap.size := by simp; omega
  obtain ⟨ho0, ho1, ho2, ho3, ho4, ho5, ho6, ho7, ho8⟩ := ho
  obtain ⟨ht0, ht1, ht2, ht3, ht4, ht5, ht6, ht7, ht8⟩ := ht
  clear hi hk hbn hbkn ok hc1 hc2 hnc hr0 hp1 hbr hbk hB0 hR hQ1 hQ2 hQ3 nf nlt z0 z2 zf zlt v1 vf vlt hOwn hTt q4 s4 hl2
  go_enter Try.func50, Try.ntmps50
  go_wp2_with fail
  generalize hW0 : (((w.alloc (.cells #[.slice A0 m0 c0, .slice A1 m1 c1, .slice (some ⟨bz, oz, none⟩) m2 c2, .slice A3 m3 c3, .slice A4 m4 c4, .slice A5 m5 c5] 29)).alloc (.cells #[.string r.node, .string r.branch, .slice ZA zn zc] 57)).alloc (.cells #[.string p.branch, .int .i64 p.part] 31)) = W0 at *
  have HW0 := Lib.hid hW0
  clear hW0
  go_cut [8, 9] (fun a b wc => ∃ b1 b2, a = .pointer (some ⟨b1, 0, none⟩) ∧ b = .pointer (some ⟨b2, 0, none⟩) ∧ Blk wc b1 49 #[.string own.name, .string own.fr, .string own.to, .int .i64 own.x, .int .i64 own.tap, .int .i64 own.shift, .int .i64 own.limit, .int .i64 own.short, .int .i64 own.hold] ∧ Blk wc b2 49 #[.string tt.name, .string tt.fr, .string tt.to, .int .i64 tt.x, .int .i64 tt.tap, .int .i64 tt.shift, .int .i64 tt.limit, .int .i64 tt.short, .int .i64 tt.hold] ∧ Below W0.heap.size W0 wc)
  case first =>
    have hrule : ∀ w' : World, Below W0.heap.size W0 w' → ∀ b o, b < W0.heap.size → w'.cell? ⟨b, o, none⟩ = W0.cell? ⟨b, o, none⟩ := fun w' hb b o h => hb.cell (p := ⟨b, o, none⟩) h
    go_region_held (fun w' => Below W0.heap.size W0 w')
      (repeat' (first | with_reducible exact hKp | with_reducible exact hKr | with_reducible exact Below.refl _ _ | with_reducible assumption | with_reducible refine below_drew ?_ | with_reducible refine Below.alloc ?_ ?_ _ | with_reducible refine Below.setCell ?_ ?_ _ | omega | (simp <;> omega) | (simp; done)))
      (first
        | (go_at_call_of 48 (Value.string r.branch); refine (zbranch_any ⟨A0, m0, c0, A1, m1, c1, some ⟨bz, oz, none⟩, m2, c2, A3, m3, c3, A4, m4, c4, A5, m5, c5⟩ x r.branch _ (HR0.out.up (by assumption))).mono ?_
           rw [HI.out]; rintro e wr' ⟨rfl, hbr⟩; have hKr := bnext (by assumption) hbr; obtain ⟨hcr, hfr, hzr⟩ := bcell2 hbr; (try simp at hzr); (try (have hl1 : W0.heap.size < wr'.heap.size := by omega)); (try (have hl2 : W0.heap.size + 1 < wr'.heap.size := by omega)))
        | (go_at_call_of 48 (Value.string p.branch); refine (zbranch_any ⟨A0, m0, c0, A1, m1, c1, some ⟨bz, oz, none⟩, m2, c2, A3, m3, c3, A4, m4, c4, A5, m5, c5⟩ x p.branch _ (HR0.out.up (by assumption))).mono ?_
           rw [HK.out]; rintro e wp' ⟨rfl, hbp⟩; have hKp := bnext (by assumption) hbp; obtain ⟨hcp, hfp, hzp⟩ := bcell2 hbp; (try simp at hzp); (try (have hl3 : W0.heap.size < wp'.heap.size := by omega)); (try (have hl4 : W0.heap.size + 1 < wp'.heap.size := by omega)); (try (have hl5 : wr'.heap.size < wp'.heap.size := by omega)); (try (have hl6 : wr'.heap.size + 1 < wp'.heap.size := by omega))))
    all_goals
      go_wp2_with fail
      go_meet
      case rel =>
        refine ⟨_, _, rfl, rfl, ?_, ?_, ?_⟩
        · repeat' (first | (with_reducible refine Blk.new_ ?_; first | rfl | (simp; done)) | with_reducible refine blk_set9e (by first | rfl | (simp; done)) ?_ | with_reducible refine blk_far9 ?_ ?_ | with_reducible refine Blk.alloc ?_ _ | with_reducible refine Blk.drew ?_ | with_reducible refine Blk.below ?_ hbp ?_ | with_reducible refine Blk.below ?_ hbr ?_ | omega | (simp <;> omega) | (simp; done))
        · repeat' (first | (with_reducible refine Blk.new_ ?_; first | rfl | (simp; done)) | with_reducible refine blk_set9e (by first | rfl | (simp; done)) ?_ | with_reducible refine blk_far9 ?_ ?_ | with_reducible refine Blk.alloc ?_ _ | with_reducible refine Blk.drew ?_ | with_reducible refine Blk.below ?_ hbp ?_ | with_reducible refine Blk.below ?_ hbr ?_ | omega | (simp <;> omega) | (simp; done))
        · repeat' (first | with_reducible exact hKp | with_reducible exact hKr | with_reducible exact Below.refl _ _ | with_reducible assumption | with_reducible refine below_drew ?_ | with_reducible refine Below.alloc ?_ ?_ _ | with_reducible refine Below.setCell ?_ ?_ _ | omega | (simp <;> omega) | (simp; done))
  case rest =>
    obtain ⟨b1, b2, rfl, rfl, hbo, hbt, hbel⟩ := hcut
    have HD2 := Lib.hid (HD.out own tt rfl rfl)
    have HBEL := Lib.hid hbel
    have hK : Below w.heap.size w wc := HB0.out.trans (hbel.mono HB0.out.size)
    have HKK := Lib.hid hK
    obtain ⟨e0, e1, e2, e3, e4, e5, e6, e7, e8, ef, elt⟩ := Br.box (x := own) hbo
    obtain ⟨t0, t1, t2, t3, t4, t5, t6, t7, t8, tf, tlt⟩ := Br.box (x := tt) hbt
    have hq3 := HQ3.out.below hbel hN2
    obtain ⟨v0, v1, vf, vlt⟩ := check_box hq3
    have hq2 := HQ2.out.below hbel hN1
    obtain ⟨z0, z1, z2, zf, zlt⟩ := zr_box hq2
    have hq1 := HQ1.out.below hbel hN0
    obtain ⟨y0, y1, y2, y3, y4, y5, nf, nlt⟩ := net_box (h := ⟨A0, m0, c0, A1, m1, c1, some ⟨bz, oz, none⟩, m2, c2, A3, m3, c3, A4, m4, c4, A5, m5, c5⟩) hq1
    dsimp only at y0 y1 y2 y3 y4 y5
    have HRc := Lib.hid (HR0.out.up hbel)
    have hmul : 0 ≤ own.x * p.part ∧ own.x * p.part ≤ 10000 * 1000 := ⟨Int.mul_nonneg (by omega) (by omega), Int.mul_le_mul (by omega) (by omega) (by omega) (by omega)⟩
    have hmul2 : 0 ≤ own.x * (1000 - p.part) ∧ own.x * (1000 - p.part) ≤ 10000 * 1000 := ⟨Int.mul_nonneg (by omega) (by omega), Int.mul_le_mul (by omega) (by omega) (by omega) (by omega)⟩
    have hmul3 : 0 ≤ tt.x * p.part ∧ tt.x * p.part ≤ 10000 * 1000 := ⟨Int.mul_nonneg (by omega) (by omega), Int.mul_le_mul (by omega) (by omega) (by omega) (by omega)⟩
    have hmul4 : 0 ≤ tt.x * (1000 - p.part) ∧ tt.x * (1000 - p.part) ≤ 10000 * 1000 := ⟨Int.mul_nonneg (by omega) (by omega), Int.mul_le_mul (by omega) (by omega) (by omega) (by omega)⟩
    obtain ⟨ma1, ma2⟩ := hmul
    obtain ⟨mb1, mb2⟩ := hmul2
    obtain ⟨mc1, mc2⟩ := hmul3
    obtain ⟨md1, md2⟩ := hmul4
    have hwa : IntKind.i64.wrap (own.x * p.part) = own.x * p.part := IntWalk.i64_in _ (by omega)
    have hwb : IntKind.i64.wrap (own.x * (1000 - p.part)) = own.x * (1000 - p.part) := IntWalk.i64_in _ (by omega)
    clear hbel hK hq1 hq2 hq3 ho0 ho1 ho2 ho3 ho4 ho5 ho6 ho7 ho8 ht0 ht1 ht2 ht3 ht4 ht5 ht6 ht7 ht8
    cases hsame : sEq own.name tt.name with
    | true =>
      cases hfr : sEq r.node own.fr with
      | true =>
        have HF : Hid (distR x r p = (own.x * p.part, true)) := Lib.hid (by rw [HD2.out, hsame, hfr]; rfl)
        go_wp2_with fail
        go_ret2
        exact ⟨by rw [HF.out]; rfl, HKK.out⟩
      | false =>
        have HF : Hid (distR x r p = (own.x * (1000 - p.part), true)) := Lib.hid (by rw [HD2.out, hsame, hfr]; rfl)
        go_wp2_with fail
        go_ret2
        exact ⟨by rw [HF.out]; rfl, HKK.out⟩
    | false =>
      cases hto : sEq r.node own.to with
      | true =>
        have HDO : Hid (distR x r p = (fun (far : List Int) => (fun (d1 d2 u1 u2 : Int) => (fun (b1 : Int) => (fun (b2 : Int) => (1000 * own.x + b2, decide (0 ≤ b2)))
          (if 0 ≤ d2 ∧ (b1 < 0 ∨ d2 + u2 < b1) then d2 + u2 else b1)) (if 0 ≤ d1 then d1 + u1 else -1))
          (far.getD (ndIdx x.nodes tt.fr) 0) (far.getD (ndIdx x.nodes tt.to) 0) (tt.x * p.part) (tt.x * (1000 - p.part))) (reachR x own.fr [own.name, tt.name])) := Lib.hid (by rw [HD2.out, hsame, hto]; rfl)
        have hW6 := (Below.refl wc.heap.size wc).alloc (Nat.le_refl _) (.cells #[.string own.name, .string tt.name] 9)
        have HW6 := Lib.hid hW6
        have hst : RdStr (wc.alloc (.cells #[.string own.name, .string tt.name] 9)) (wc.alloc (.cells #[.string own.name, .string tt.name] 9)).heap.size (some ⟨wc.heap.size, 0, none⟩) 2 [own.name, tt.name] := rdStr_lit (zs := [own.name, tt.name]) (Blk.new_ rfl) (by simp)
        have HST := Lib.hid hst
        clear hW6 hst
        go_wp2_with fail
        refine (reach_any ⟨A0, m0, c0, A1, m1, c1, some ⟨bz, oz, none⟩, m2, c2, A3, m3, c3, A4, m4, c4, A5, m5, c5⟩ x own.fr _ 2 2 [own.name, tt.name] _ (HRc.out.up HW6.out) HOK.out q1 HST.out (by omega)).mono ?_
        rintro e w5 ⟨g, rfl, hg, hqg, k5⟩
        have hfok := reachR_ok HOK.out q1 [own.name, tt.name]
        generalize reachR x own.fr [own.name, tt.name] = far at *
        have hb5 := HW6.out.trans (k5.mono HW6.out.size)
        have hk5 := HKK.out.trans (hb5.mono HKK.out.size)
        have HK5 := Lib.hid hk5
        have hq1 := (HQ1.out.below (HBEL.out.trans (hb5.mono HBEL.out.size)) hN0)
        have hqo := hbo.below hb5 elt
        have hqt := hbt.below hb5 tlt
        have hqp := HQ3.out.below (HBEL.out.trans (hb5.mono HBEL.out.size)) hN2
        have HQ1' := Lib.hid hq1
        have HQO' := Lib.hid hqo
        have HQG := Lib.hid hqg
        have HR5 := Lib.hid (HRc.out.up hb5)
        clear e0 e1 e2 e3 e4 e5 e6 e7 e8 ef elt t0 t1 t2 t3 t4 t5 t6 t7 t8 tf tlt v0 v1 vf vlt z0 z1 z2 zf zlt y0 y1 y2 y3 y4 y5 nf nlt hbo hbt
        obtain ⟨e0, e1, e2, e3, e4, e5, e6, e7, e8, ef, elt⟩ := Br.box (x := own) hqo
        obtain ⟨t0, t1, t2, t3, t4, t5, t6, t7, t8, tf, tlt⟩ := Br.box (x := tt) hqt
        obtain ⟨v0, v1, vf, vlt⟩ := check_box hqp
        obtain ⟨ha1, ha2⟩ := ndIdx_ok s1
        obtain ⟨hb1, hb2⟩ := ndIdx_ok s2
        have HA1 := Lib.hid ha1
        have HB1 := Lib.hid hb1
        have hgl := hqg.lt
        have hwm1 : IntKind.i64.wrap (tt.x * p.part) = tt.x * p.part := IntWalk.i64_in _ (by omega)
        have hwm2 : IntKind.i64.wrap (tt.x * (1000 - p.part)) = tt.x * (1000 - p.part) := IntWalk.i64_in _ (by omega)
        have vi := hfok.val _ (getD_mem (l := far) (k := ndIdx x.nodes tt.fr) (by have := hfok.len; omega))
        have vk := hfok.val _ (getD_mem (l := far) (k := ndIdx x.nodes tt.to) (by have := hfok.len; omega))
        have hcn : cnt far ≤ 24 := by
          have := List.countP_le_length (p := fun v => decide (0 ≤ v)) (l := far); have := hfok.len; have := HOK.out.l0; unfold cnt; omega
        have hc1 : w5.cell? ⟨g, ndIdx x.nodes tt.fr, none⟩ = some (.int .i64 (far.getD (ndIdx x.nodes tt.fr) 0)) := by
          rw [hqg.cell]; simp [ints, List.getD_eq_getElem?_getD, List.getElem?_eq_getElem (show ndIdx x.nodes tt.fr < far.length by have := hfok.len; omega)]
        have hc2 : w5.cell? ⟨g, ndIdx x.nodes tt.to, none⟩ = some (.int .i64 (far.getD (ndIdx x.nodes tt.to) 0)) := by
          rw [hqg.cell]; simp [ints, List.getD_eq_getElem?_getD, List.getElem?_eq_getElem (show ndIdx x.nodes tt.to < far.length by have := hfok.len; omega)]
        have hd1 : -1 ≤ far.getD (ndIdx x.nodes tt.fr) 0 ∧ far.getD (ndIdx x.nodes tt.fr) 0 ≤ 240000000 := by omega
        have hd2 : -1 ≤ far.getD (ndIdx x.nodes tt.to) 0 ∧ far.getD (ndIdx x.nodes tt.to) 0 ≤ 240000000 := by omega
        obtain ⟨hd1a, hd1b⟩ := hd1
        obtain ⟨hd2a, hd2b⟩ := hd2
        have hN24 := HOK.out.l0
        clear vi vk hcn hb5 hk5 hq1 hqo hqt hqp hqg k5 ha1 hb1 hfok
        generalize hD1 : far.getD (ndIdx x.nodes tt.fr) 0 = d1 at *
        generalize hD2 : far.getD (ndIdx x.nodes tt.to) 0 = d2 at *
        generalize hU1 : tt.x * p.part = u1 at *
        generalize hU2 : tt.x * (1000 - p.part) = u2 at *
        generalize hI1 : ndIdx x.nodes tt.fr = i1 at *
        generalize hI2 : ndIdx x.nodes tt.to = i2 at *
        have hE1 := Lib.hid hU1
        have hE2 := Lib.hid hU2
        clear hD1 hD2 hI1 hI2
        go_wp2_with fail
        obtain ⟨B1, hB1⟩ : ∃ b, b = if 0 ≤ d1 then d1 + u1 else -1 := ⟨_, rfl⟩
        obtain ⟨B2, hB2⟩ : ∃ b, b = if 0 ≤ d2 ∧ (B1 < 0 ∨ d2 + u2 < B1) then d2 + u2 else B1 := ⟨_, rfl⟩
        have hBb1 : -1 ≤ B1 ∧ B1 ≤ 260000000 := by rw [hB1]; split <;> omega
        have hBb2 : -1 ≤ B2 ∧ B2 ≤ 260000000 := by rw [hB2]; split <;> omega
        have HF : Hid (distR x r p = (1000 * own.x + B2, decide (0 ≤ B2))) := Lib.hid (by rw [HDO.out, ← hB1, ← hB2])
        have HB1e := Lib.hid hB1
        have HB2e := Lib.hid hB2
        obtain ⟨hBb11, hBb12⟩ := hBb1
        obtain ⟨hBb21, hBb22⟩ := hBb2
        clear hB1 hB2
        have HWE := Lib.hid e3
        have HC1 := Lib.hid hc1
        have HC2 := Lib.hid hc2
        clear e0 e1 e2 e4 e5 e6 e7 e8 ef t0 t1 t2 t3 t4 t5 t6 t7 t8 tf v0 v1 vf vlt tlt e3 hc1 hc2
        have hix0 : ∀ w : World, (Instr.index 162 (.agg #[.string tt.fr, .int .i64 u1, .string tt.to, .int .i64 u2]) (.int .i64 0)).run Try.prog w = .ok (.agg #[.string tt.fr, .int .i64 u1]) w := fun w => by kernel_rfl
        have hix1 : ∀ w : World, (Instr.index 162 (.agg #[.string tt.fr, .int .i64 u1, .string tt.to, .int .i64 u2]) (.int .i64 1)).run Try.prog w = .ok (.agg #[.string tt.to, .int .i64 u2]) w := fun w => by kernel_rfl
        go_loopg [12, 88] 2 (fun n bv cv wr => ∃ (k : Nat) (v : Int), n + k ≤ 2 ∧ 2 ≤ n + k ∧ cv = .int .i64 k ∧ bv = .int .i64 v ∧ Below w5.heap.size w5 wr ∧ (k = 0 ∧ v = -1 ∨ k = 1 ∧ v = B1 ∨ k = 2 ∧ v = B2))
        case atStart => exact ⟨0, -1, by omega, by omega, rfl, rfl, Below.refl _ _, .inl ⟨rfl, rfl⟩⟩
        case round =>
          obtain ⟨k, v, hk1, hk2, rfl, rfl, hbel, hcase⟩ := hrel
          have HBL := Lib.hid hbel
          obtain ⟨y0, y1, y2, y3, y4, y5, nf, nlt⟩ := net_box (h := ⟨A0, m0, c0, A1, m1, c1, some ⟨bz, oz, none⟩, m2, c2, A3, m3, c3, A4, m4, c4, A5, m5, c5⟩) (HQ1'.out.below hbel HQ1'.out.lt)
          dsimp only at y0 y1 y2 y3 y4 y5
          have hc1 := (hbel.cell (p := ⟨g, i1, none⟩) hgl).trans HC1.out
          have hc2 := (hbel.cell (p := ⟨g, i2, none⟩) hgl).trans HC2.out
          have hgl2 : g < wr.heap.size := Nat.lt_of_lt_of_le hgl hbel.size
          have hb6 := (Below.refl wr.heap.size wr).alloc (Nat.le_refl _) (.cells #[.string tt.fr, .int .i64 u1] 161)
          have hb7 := (Below.refl wr.heap.size wr).alloc (Nat.le_refl _) (.cells #[.string tt.to, .int .i64 u2] 161)
          have HRN := Lib.hid ((((HR5.out.r0.below hbel (Nat.le_refl _)).more hbel.size).below hb6 (Nat.le_refl _)).more hb6.size)
          have HRN2 := Lib.hid ((((HR5.out.r0.below hbel (Nat.le_refl _)).more hbel.size).below hb7 (Nat.le_refl _)).more hb7.size)
          have HZ := Lib.hid ((hbel.cell (p := ⟨b1, 3, none⟩) elt).trans HWE.out)
          have hm0 := HR5.out.m0
          clear hbel hb6 hb7
          have hi1I : (i1 : Int) < (x.nodes.length : Int) := by omega
          have hi2I : (i2 : Int) < (x.nodes.length : Int) := by omega
          have hi1J : (0 : Int) ≤ (i1 : Int) := by omega
          have hi2J : (0 : Int) ≤ (i2 : Int) := by omega
          have hw1 : IntKind.i64.wrap (d1 + u1) = d1 + u1 := IntWalk.i64_in _ (by omega)
          have hw2 : IntKind.i64.wrap (d2 + u2) = d2 + u2 := IntWalk.i64_in _ (by omega)
          rcases hcase with ⟨rfl, rfl⟩ | ⟨rfl, rfl⟩ | ⟨rfl, rfl⟩
          · by_cases h1 : 0 ≤ d1
            · have g1 : decide (0 ≤ d1) = true := by simpa using h1
              go_wp2_with fail
              refine (index_str A0 m0 c0 x.nodes tt.fr _ HRN.out hm0).mono ?_
              rw [HA1.out]
              rintro e w6 ⟨rfl, rfl⟩
              go_wp2_with fail
              go_roundg (gk - 1)
              case measure => omega
              case rel => exact ⟨0 + 1, d1 + u1, by omega, by omega, by go_num, rfl, HBL.out.alloc HBL.out.size _, .inr (.inl ⟨rfl, by rw [HB1e.out, if_pos h1]⟩)⟩
            · have g1 : decide (0 ≤ d1) = false := by simpa using h1
              go_wp2_with fail
              refine (index_str A0 m0 c0 x.nodes tt.fr _ HRN.out hm0).mono ?_
              rw [HA1.out]
              rintro e w6 ⟨rfl, rfl⟩
              go_wp2_with fail
              go_roundg (gk - 1)
              case measure => omega
              case rel => exact ⟨0 + 1, -1, by omega, by omega, by go_num, rfl, HBL.out.alloc HBL.out.size _, .inr (.inl ⟨rfl, by rw [HB1e.out, if_neg (by omega)]⟩)⟩
          · by_cases h1 : 0 ≤ d2
            · have g1 : decide (0 ≤ d2) = true := by simpa using h1
              by_cases h2 : v < 0
              · have g2 : decide (v < 0) = true := by simpa using h2
                go_wp2_with fail
                refine (index_str A0 m0 c0 x.nodes tt.to _ HRN2.out hm0).mono ?_
                rw [HB1.out]
                rintro e w6 ⟨rfl, rfl⟩
                go_wp2_with fail
                go_roundg (gk - 1)
                case measure => omega
                case rel => exact ⟨1 + 1, d2 + u2, by omega, by omega, by go_num, rfl, HBL.out.alloc HBL.out.size _, .inr (.inr ⟨rfl, by rw [HB2e.out, if_pos ⟨h1, .inl h2⟩]⟩)⟩
              · have g2 : decide (v < 0) = false := by simpa using h2
                by_cases h3 : d2 + u2 < v
                · have g3 : decide (d2 + u2 < v) = true := by simpa using h3
                  go_wp2_with fail
                  refine (index_str A0 m0 c0 x.nodes tt.to _ HRN2.out hm0).mono ?_
                  rw [HB1.out]
                  rintro e w6 ⟨rfl, rfl⟩
                  go_wp2_with fail
                  go_roundg (gk - 1)
                  case measure => omega
                  case rel => exact ⟨1 + 1, d2 + u2, by omega, by omega, by go_num, rfl, HBL.out.alloc HBL.out.size _, .inr (.inr ⟨rfl, by rw [HB2e.out, if_pos ⟨h1, .inr h3⟩]⟩)⟩
                · have g3 : decide (d2 + u2 < v) = false := by simpa using h3
                  go_wp2_with fail
                  refine (index_str A0 m0 c0 x.nodes tt.to _ HRN2.out hm0).mono ?_
                  rw [HB1.out]
                  rintro e w6 ⟨rfl, rfl⟩
                  go_wp2_with fail
                  go_roundg (gk - 1)
                  case measure => omega
                  case rel => exact ⟨1 + 1, v, by omega, by omega, by go_num, rfl, HBL.out.alloc HBL.out.size _, .inr (.inr ⟨rfl, by rw [HB2e.out, if_neg (by omega)]⟩)⟩
            · have g1 : decide (0 ≤ d2) = false := by simpa using h1
              go_wp2_with fail
              refine (index_str A0 m0 c0 x.nodes tt.to _ HRN2.out hm0).mono ?_
              rw [HB1.out]
              rintro e w6 ⟨rfl, rfl⟩
              go_wp2_with fail
              go_roundg (gk - 1)
              case measure => omega
              case rel => exact ⟨1 + 1, v, by omega, by omega, by go_num, rfl, HBL.out.alloc HBL.out.size _, .inr (.inr ⟨rfl, by rw [HB2e.out, if_neg (by omega)]⟩)⟩
          · have hz := HZ.out
            have hw3 : IntKind.i64.wrap (1000 * own.x) = 1000 * own.x := IntWalk.i64_in _ (by omega)
            have hw4 : IntKind.i64.wrap (1000 * own.x + v) = 1000 * own.x + v := IntWalk.i64_in _ (by omega)
            go_wp2_with fail
            go_ret2
            exact ⟨by rw [HF.out]; rfl, HK5.out.trans (HBL.out.mono HK5.out.size)⟩
      | false =>
        have HDO : Hid (distR x r p = (fun (far : List Int) => (fun (d1 d2 u1 u2 : Int) => (fun (b1 : Int) => (fun (b2 : Int) => (1000 * own.x + b2, decide (0 ≤ b2)))
          (if 0 ≤ d2 ∧ (b1 < 0 ∨ d2 + u2 < b1) then d2 + u2 else b1)) (if 0 ≤ d1 then d1 + u1 else -1))
          (far.getD (ndIdx x.nodes tt.fr) 0) (far.getD (ndIdx x.nodes tt.to) 0) (tt.x * p.part) (tt.x * (1000 - p.part))) (reachR x own.to [own.name, tt.name])) := Lib.hid (by rw [HD2.out, hsame, hto]; rfl)
        have hW6 := (Below.refl wc.heap.size wc).alloc (Nat.le_refl _) (.cells #[.string own.name, .string tt.name] 9)
        have HW6 := Lib.hid hW6
        have hst : RdStr (wc.alloc (.cells #[.string own.name, .string tt.name] 9)) (wc.alloc (.cells #[.string own.name, .string tt.name] 9)).heap.size (some ⟨wc.heap.size, 0, none⟩) 2 [own.name, tt.name] := rdStr_lit (zs := [own.name, tt.name]) (Blk.new_ rfl) (by simp)
        have HST := Lib.hid hst
        clear hW6 hst
        go_wp2_with fail
        refine (reach_any ⟨A0, m0, c0, A1, m1, c1, some ⟨bz, oz, none⟩, m2, c2, A3, m3, c3, A4, m4, c4, A5, m5, c5⟩ x own.to _ 2 2 [own.name, tt.name] _ (HRc.out.up HW6.out) HOK.out q2 HST.out (by omega)).mono ?_
        rintro e w5 ⟨g, rfl, hg, hqg, k5⟩
        have hfok := reachR_ok HOK.out q2 [own.name, tt.name]
        generalize reachR x own.to [own.name, tt.name] = far at *
        have hb5 := HW6.out.trans (k5.mono HW6.out.size)
        have hk5 := HKK.out.trans (hb5.mono HKK.out.size)
        have HK5 := Lib.hid hk5
        have hq1 := (HQ1.out.below (HBEL.out.trans (hb5.mono HBEL.out.size)) hN0)
        have hqo := hbo.below hb5 elt
        have hqt := hbt.below hb5 tlt
        have hqp := HQ3.out.below (HBEL.out.trans (hb5.mono HBEL.out.size)) hN2
        have HQ1' := Lib.hid hq1
        have HQO' := Lib.hid hqo
        have HQG := Lib.hid hqg
        have HR5 := Lib.hid (HRc.out.up hb5)
        clear e0 e1 e2 e3 e4 e5 e6 e7 e8 ef elt t0 t1 t2 t3 t4 t5 t6 t7 t8 tf tlt v0 v1 vf vlt z0 z1 z2 zf zlt y0 y1 y2 y3 y4 y5 nf nlt hbo hbt
        obtain ⟨e0, e1, e2, e3, e4, e5, e6, e7, e8, ef, elt⟩ := Br.box (x := own) hqo
        obtain ⟨t0, t1, t2, t3, t4, t5, t6, t7, t8, tf, tlt⟩ := Br.box (x := tt) hqt
        obtain ⟨v0, v1, vf, vlt⟩ := check_box hqp
        obtain ⟨ha1, ha2⟩ := ndIdx_ok s1
        obtain ⟨hb1, hb2⟩ := ndIdx_ok s2
        have HA1 := Lib.hid ha1
        have HB1 := Lib.hid hb1
        have hgl := hqg.lt
        have hwm1 : IntKind.i64.wrap (tt.x * p.part) = tt.x * p.part := IntWalk.i64_in _ (by omega)
        have hwm2 : IntKind.i64.wrap (tt.x * (1000 - p.part)) = tt.x * (1000 - p.part) := IntWalk.i64_in _ (by omega)
        have vi := hfok.val _ (getD_mem (l := far) (k := ndIdx x.nodes tt.fr) (by have := hfok.len; omega))
        have vk := hfok.val _ (getD_mem (l := far) (k := ndIdx x.nodes tt.to) (by have := hfok.len; omega))
        have hcn : cnt far ≤ 24 := by
          have := List.countP_le_length (p := fun v => decide (0 ≤ v)) (l := far); have := hfok.len; have := HOK.out.l0; unfold cnt; omega
        have hc1 : w5.cell? ⟨g, ndIdx x.nodes tt.fr, none⟩ = some (.int .i64 (far.getD (ndIdx x.nodes tt.fr) 0)) := by
          rw [hqg.cell]; simp [ints, List.getD_eq_getElem?_getD, List.getElem?_eq_getElem (show ndIdx x.nodes tt.fr < far.length by have := hfok.len; omega)]
        have hc2 : w5.cell? ⟨g, ndIdx x.nodes tt.to, none⟩ = some (.int .i64 (far.getD (ndIdx x.nodes tt.to) 0)) := by
          rw [hqg.cell]; simp [ints, List.getD_eq_getElem?_getD, List.getElem?_eq_getElem (show ndIdx x.nodes tt.to < far.length by have := hfok.len; omega)]
        have hd1 : -1 ≤ far.getD (ndIdx x.nodes tt.fr) 0 ∧ far.getD (ndIdx x.nodes tt.fr) 0 ≤ 240000000 := by omega
        have hd2 : -1 ≤ far.getD (ndIdx x.nodes tt.to) 0 ∧ far.getD (ndIdx x.nodes tt.to) 0 ≤ 240000000 := by omega
        obtain ⟨hd1a, hd1b⟩ := hd1
        obtain ⟨hd2a, hd2b⟩ := hd2
        have hN24 := HOK.out.l0
        clear vi vk hcn hb5 hk5 hq1 hqo hqt hqp hqg k5 ha1 hb1 hfok
        generalize hD1 : far.getD (ndIdx x.nodes tt.fr) 0 = d1 at *
        generalize hD2 : far.getD (ndIdx x.nodes tt.to) 0 = d2 at *
        generalize hU1 : tt.x * p.part = u1 at *
        generalize hU2 : tt.x * (1000 - p.part) = u2 at *
        generalize hI1 : ndIdx x.nodes tt.fr = i1 at *
        generalize hI2 : ndIdx x.nodes tt.to = i2 at *
        have hE1 := Lib.hid hU1
        have hE2 := Lib.hid hU2
        clear hD1 hD2 hI1 hI2
        go_wp2_with fail
        obtain ⟨B1, hB1⟩ : ∃ b, b = if 0 ≤ d1 then d1 + u1 else -1 := ⟨_, rfl⟩
        obtain ⟨B2, hB2⟩ : ∃ b, b = if 0 ≤ d2 ∧ (B1 < 0 ∨ d2 + u2 < B1) then d2 + u2 else B1 := ⟨_, rfl⟩
        have hBb1 : -1 ≤ B1 ∧ B1 ≤ 260000000 := by rw [hB1]; split <;> omega
        have hBb2 : -1 ≤ B2 ∧ B2 ≤ 260000000 := by rw [hB2]; split <;> omega
        have HF : Hid (distR x r p = (1000 * own.x + B2, decide (0 ≤ B2))) := Lib.hid (by rw [HDO.out, ← hB1, ← hB2])
        have HB1e := Lib.hid hB1
        have HB2e := Lib.hid hB2
        obtain ⟨hBb11, hBb12⟩ := hBb1
        obtain ⟨hBb21, hBb22⟩ := hBb2
        clear hB1 hB2
        have HWE := Lib.hid e3
        have HC1 := Lib.hid hc1
        have HC2 := Lib.hid hc2
        clear e0 e1 e2 e4 e5 e6 e7 e8 ef t0 t1 t2 t3 t4 t5 t6 t7 t8 tf v0 v1 vf vlt tlt e3 hc1 hc2
        have hix0 : ∀ w : World, (Instr.index 162 (.agg #[.string tt.fr, .int .i64 u1, .string tt.to, .int .i64 u2]) (.int .i64 0)).run Try.prog w = .ok (.agg #[.string tt.fr, .int .i64 u1]) w := fun w => by kernel_rfl
        have hix1 : ∀ w : World, (Instr.index 162 (.agg #[.string tt.fr, .int .i64 u1, .string tt.to, .int .i64 u2]) (.int .i64 1)).run Try.prog w = .ok (.agg #[.string tt.to, .int .i64 u2]) w := fun w => by kernel_rfl
        go_loopg [12, 88] 2 (fun n bv cv wr => ∃ (k : Nat) (v : Int), n + k ≤ 2 ∧ 2 ≤ n + k ∧ cv = .int .i64 k ∧ bv = .int .i64 v ∧ Below w5.heap.size w5 wr ∧ (k = 0 ∧ v = -1 ∨ k = 1 ∧ v = B1 ∨ k = 2 ∧ v = B2))
        case atStart => exact ⟨0, -1, by omega, by omega, rfl, rfl, Below.refl _ _, .inl ⟨rfl, rfl⟩⟩
        case round =>
          obtain ⟨k, v, hk1, hk2, rfl, rfl, hbel, hcase⟩ := hrel
          have HBL := Lib.hid hbel
          obtain ⟨y0, y1, y2, y3, y4, y5, nf, nlt⟩ := net_box (h := ⟨A0, m0, c0, A1, m1, c1, some ⟨bz, oz, none⟩, m2, c2, A3, m3, c3, A4, m4, c4, A5, m5, c5⟩) (HQ1'.out.below hbel HQ1'.out.lt)
          dsimp only at y0 y1 y2 y3 y4 y5
          have hc1 := (hbel.cell (p := ⟨g, i1, none⟩) hgl).trans HC1.out
          have hc2 := (hbel.cell (p := ⟨g, i2, none⟩) hgl).trans HC2.out
          have hgl2 : g < wr.heap.size := Nat.lt_of_lt_of_le hgl hbel.size
          have hb6 := (Below.refl wr.heap.size wr).alloc (Nat.le_refl _) (.cells #[.string tt.fr, .int .i64 u1] 161)
          have hb7 := (Below.refl wr.heap.size wr).alloc (Nat.le_refl _) (.cells #[.string tt.to, .int .i64 u2] 161)
          have HRN := Lib.hid ((((HR5.out.r0.below hbel (Nat.le_refl _)).more hbel.size).below hb6 (Nat.le_refl _)).more hb6.size)
          have HRN2 := Lib.hid ((((HR5.out.r0.below hbel (Nat.le_refl _)).more hbel.size).below hb7 (Nat.le_refl _)).more hb7.size)
          have HZ := Lib.hid ((hbel.cell (p := ⟨b1, 3, none⟩) elt).trans HWE.out)
          have hm0 := HR5.out.m0
          clear hbel hb6 hb7
          have hi1I : (i1 : Int) < (x.nodes.length : Int) := by omega
          have hi2I : (i2 : Int) < (x.nodes.length : Int) := by omega
          have hi1J : (0 : Int) ≤ (i1 : Int) := by omega
          have hi2J : (0 : Int) ≤ (i2 : Int) := by omega
          have hw1 : IntKind.i64.wrap (d1 + u1) = d1 + u1 := IntWalk.i64_in _ (by omega)
          have hw2 : IntKind.i64.wrap (d2 + u2) = d2 + u2 := IntWalk.i64_in _ (by omega)
          rcases hcase with ⟨rfl, rfl⟩ | ⟨rfl, rfl⟩ | ⟨rfl, rfl⟩
          · by_cases h1 : 0 ≤ d1
            · have g1 : decide (0 ≤ d1) = true := by simpa using h1
              go_wp2_with fail
              refine (index_str A0 m0 c0 x.nodes tt.fr _ HRN.out hm0).mono ?_
              rw [HA1.out]
              rintro e w6 ⟨rfl, rfl⟩
              go_wp2_with fail
              go_roundg (gk - 1)
              case measure => omega
              case rel => exact ⟨0 + 1, d1 + u1, by omega, by omega, by go_num, rfl, HBL.out.alloc HBL.out.size _, .inr (.inl ⟨rfl, by rw [HB1e.out, if_pos h1]⟩)⟩
            · have g1 : decide (0 ≤ d1) = false := by simpa using h1
              go_wp2_with fail
              refine (index_str A0 m0 c0 x.nodes tt.fr _ HRN.out hm0).mono ?_
              rw [HA1.out]
              rintro e w6 ⟨rfl, rfl⟩
              go_wp2_with fail
              go_roundg (gk - 1)
              case measure => omega
              case rel => exact ⟨0 + 1, -1, by omega, by omega, by go_num, rfl, HBL.out.alloc HBL.out.size _, .inr (.inl ⟨rfl, by rw [HB1e.out, if_neg (by omega)]⟩)⟩
          · by_cases h1 : 0 ≤ d2
            · have g1 : decide (0 ≤ d2) = true := by simpa using h1
              by_cases h2 : v < 0
              · have g2 : decide (v < 0) = true := by simpa using h2
                go_wp2_with fail
                refine (index_str A0 m0 c0 x.nodes tt.to _ HRN2.out hm0).mono ?_
                rw [HB1.out]
                rintro e w6 ⟨rfl, rfl⟩
                go_wp2_with fail
                go_roundg (gk - 1)
                case measure => omega
                case rel => exact ⟨1 + 1, d2 + u2, by omega, by omega, by go_num, rfl, HBL.out.alloc HBL.out.size _, .inr (.inr ⟨rfl, by rw [HB2e.out, if_pos ⟨h1, .inl h2⟩]⟩)⟩
              · have g2 : decide (v < 0) = false := by simpa using h2
                by_cases h3 : d2 + u2 < v
                · have g3 : decide (d2 + u2 < v) = true := by simpa using h3
                  go_wp2_with fail
                  refine (index_str A0 m0 c0 x.nodes tt.to _ HRN2.out hm0).mono ?_
                  rw [HB1.out]
                  rintro e w6 ⟨rfl, rfl⟩
                  go_wp2_with fail
                  go_roundg (gk - 1)
                  case measure => omega
                  case rel => exact ⟨1 + 1, d2 + u2, by omega, by omega, by go_num, rfl, HBL.out.alloc HBL.out.size _, .inr (.inr ⟨rfl, by rw [HB2e.out, if_pos ⟨h1, .inr h3⟩]⟩)⟩
                · have g3 : decide (d2 + u2 < v) = false := by simpa using h3
                  go_wp2_with fail
                  refine (index_str A0 m0 c0 x.nodes tt.to _ HRN2.out hm0).mono ?_
                  rw [HB1.out]
                  rintro e w6 ⟨rfl, rfl⟩
                  go_wp2_with fail
                  go_roundg (gk - 1)
                  case measure => omega
                  case rel => exact ⟨1 + 1, v, by omega, by omega, by go_num, rfl, HBL.out.alloc HBL.out.size _, .inr (.inr ⟨rfl, by rw [HB2e.out, if_neg (by omega)]⟩)⟩
            · have g1 : decide (0 ≤ d2) = false := by simpa using h1
              go_wp2_with fail
              refine (index_str A0 m0 c0 x.nodes tt.to _ HRN2.out hm0).mono ?_
              rw [HB1.out]
              rintro e w6 ⟨rfl, rfl⟩
              go_wp2_with fail
              go_roundg (gk - 1)
              case measure => omega
              case rel => exact ⟨1 + 1, v, by omega, by omega, by go_num, rfl, HBL.out.alloc HBL.out.size _, .inr (.inr ⟨rfl, by rw [HB2e.out, if_neg (by omega)]⟩)⟩
          · have hz := HZ.out
            have hw3 : IntKind.i64.wrap (1000 * own.x) = 1000 * own.x := IntWalk.i64_in _ (by omega)
            have hw4 : IntKind.i64.wrap (1000 * own.x + v) = 1000 * own.x + v := IntWalk.i64_in _ (by omega)
            go_wp2_with fail
            go_ret2
            exact ⟨by rw [HF.out]; rfl, HK5.out.trans (HBL.out.mono HK5.out.size)⟩
end Go.Proofs.Ythedpegaelpbdaa
