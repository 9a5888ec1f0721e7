/- The fixed example of the zones: the network and zoneWorks. -/
import Derived.Test.YthedpegaelpbdaaVA
import Derived.Deep.RegionHeld
import Derived.Deep.DeepCutAuto
namespace Go.Proofs.Ythedpegaelpbdaa
open Go.ChangeShapes Go.WideShapes Go.ChangeAt Go.RowKit Go.Joins Go.Deep
set_option linter.unusedVariables false
attribute [local go_sem ↓] execOp_call_val
attribute [local go_sem] callVal_func setCell_drewN alloc_drewN sEq_walk NetH.cells

def fdNet : Net where
  nodes := [⟨#[65]⟩, ⟨#[66]⟩, ⟨#[67]⟩, ⟨#[68]⟩, ⟨#[69]⟩]
  sws := [⟨⟨#[83]⟩, ⟨#[65]⟩, ⟨#[66]⟩, true, false⟩, ⟨⟨#[84]⟩, ⟨#[67]⟩, ⟨#[68]⟩, true, false⟩]
  brs := [⟨⟨#[76]⟩, ⟨#[66]⟩, ⟨#[67]⟩, 1000, 1000, 0, 0, 0, 0⟩, ⟨⟨#[77]⟩, ⟨#[68]⟩, ⟨#[69]⟩, 1000, 1000, 0, 0, 0, 0⟩]
  gns := [⟨⟨#[71]⟩, ⟨#[65]⟩, 0, 9, 0⟩]
  lds := []
  sts := []
def fdZr : Zr := ⟨⟨#[66]⟩, ⟨#[76]⟩, [⟨800, 0⟩, ⟨1500, 400⟩]⟩
theorem fd1 : disR fdNet fdZr ⟨⟨#[77]⟩, 250⟩ = (1250000, 0) := by decide +kernel
theorem fd2 : fndR fdNet fdZr ⟨⟨#[76]⟩, 900⟩ = (1, 0) := by decide +kernel
theorem fd3 : timR fdNet fdZr ⟨⟨#[76]⟩, 900⟩ = (400, 0) := by decide +kernel
theorem fd4 (A : Option Addr) (n c : Nat) : covE fdNet [⟨fdZr, A, n, c⟩] ⟨⟨#[77]⟩, 600⟩ = 0 ∧ outsTo fdNet [⟨fdZr, A, n, c⟩] ⟨⟨#[77]⟩, 600⟩ 1 = [] := by
  have h : covE fdNet [⟨fdZr, none, 0, 0⟩] ⟨⟨#[77]⟩, 600⟩ = 0 ∧ outsTo fdNet [⟨fdZr, none, 0, 0⟩] ⟨⟨#[77]⟩, 600⟩ 1 = [] := by decide +kernel
  exact h
theorem rd_lit {w : World} {B g size n : Nat} {T : TypeId} {vs : List Value} (h : Blk w g T vs.toArray) (hl : vs.length = n * size) (hg : g < B) : Rd w B size (some ⟨g, 0, none⟩) n vs :=
  ⟨hl, fun _ => ⟨g, 0, rfl, hg, fun j u hu => by
    rw [show (⟨g, 0 + j, none⟩ : Addr) = ⟨g, j, none⟩ from by simp]
    rw [h.cell j]
    simpa using hu⟩⟩

set_option maxHeartbeats 1000000 in
theorem feeder_any (w : World) :
    Calls Try.prog 34 #[] w fun e w' => ∃ h : NetH, e = .returned (.agg h.cells) ∧ RdNet w' w'.heap.size h fdNet ∧ Below w.heap.size w w' := by
  go_enter Try.func34, Try.ntmps34
  go_wp2_with fail
  refine bodyPost_ret (v := .agg (NetH.cells ⟨some ⟨w.heap.size + 1, 0, none⟩, 5, 5, some ⟨w.heap.size + 1 + 1, 0, none⟩, 2, 2, some ⟨w.heap.size + 1 + 1 + 1, 0, none⟩, 2, 2, some ⟨w.heap.size + 1 + 1 + 1 + 1, 0, none⟩, 1, 1, none, 0, 0, none, 0, 0⟩)) (by simp [results, Try.results34, go_sem]) rfl ⟨_, rfl, ?_, ?_⟩
  · have f4 : ∀ (W : World), RdLd W W.heap.size none 0 [] := fun W => ⟨rfl, rfl, fun h => absurd h (by decide)⟩
    have f5 : ∀ (W : World), RdSt W W.heap.size none 0 [] := fun W => ⟨rfl, rfl, fun h => absurd h (by decide)⟩
    have hz0 : ∀ s ∈ fdNet.nodes, s.size ≤ maxLen := by decide +kernel
    have hz1 : ∀ s ∈ fdNet.sws, s.name.size ≤ maxLen := by decide +kernel
    have hz2 : ∀ s ∈ fdNet.brs, s.name.size ≤ maxLen := by decide +kernel
    have hz3 : ∀ s ∈ fdNet.gns, s.name.size ≤ maxLen := by decide +kernel
    have hz4 : ∀ s ∈ fdNet.lds, s.name.size ≤ maxLen := by decide +kernel
    have hz5 : ∀ s ∈ fdNet.sts, s.name.size ≤ maxLen := by decide +kernel
    refine ⟨rdStr_lit (zs := fdNet.nodes) (T := 9) ?_ (by simp), ⟨rfl, rd_lit (vs := fdNet.sws.flatMap Sw.cells) (T := 44) ?_ rfl (by simp)⟩, ⟨rfl, rd_lit (vs := fdNet.brs.flatMap Br.cells) (T := 49) ?_ rfl (by simp)⟩, ⟨rfl, rd_lit (vs := fdNet.gns.flatMap Gn.cells) (T := 145) ?_ rfl (by simp)⟩, f4 _, f5 _,
      by simp, by simp, by simp, by simp, by simp, by simp, hz0, hz1, hz2, hz3, hz4, hz5⟩
    · exact (((Blk.new_ (by simp)).alloc _).alloc _).alloc _
    · exact ((Blk.new_ (by simp)).alloc _).alloc _
    · exact (Blk.new_ (by simp)).alloc _
    · exact Blk.new_ (by simp)
  · exact (((((Below.refl _ _).alloc (Nat.le_refl _) _).alloc (by simp) _).alloc (by simp; omega) _).alloc (by simp; omega) _).alloc (by simp; omega) _


theorem covEx (hh : NetH) (g : Nat) (zA : Option Addr) (w : World) (hrf : RdNet w w.heap.size hh fdNet) (hq : Blk w g 57 #[.string ⟨#[66]⟩, .string ⟨#[76]⟩, .slice zA 2 2]) (hz : RdZs w w.heap.size zA 2 fdZr.zones) :
    Calls Try.prog 24 #[.agg hh.cells, .slice (some ⟨g, 0, none⟩) 1 1, .agg #[.string ⟨#[77]⟩, .int .i64 600]] w fun e w'' => (∃ A c, e = .returned (.tuple #[.slice A 0 c, .int .i64 0])) ∧ Below w.heap.size w w'' := by
  have hl : RdZh w w.heap.size (some ⟨g, 0, none⟩) 1 [⟨fdZr, zA, 2, 2⟩] := ⟨rfl, rd_lit (vs := [(⟨fdZr, zA, 2, 2⟩ : Zh)].flatMap Zh.cells) (T := 57) hq rfl hq.lt, fun z hz' => by
    rw [List.mem_singleton] at hz'; subst hz'; exact ⟨hz, by simp⟩⟩
  refine (covered_any hh fdNet ⟨⟨#[77]⟩, 600⟩ [⟨fdZr, zA, 2, 2⟩] (some ⟨g, 0, none⟩) 1 1 w hrf hl (by omega)).mono ?_
  rintro e w2 ⟨hb, h1 | ⟨_, A, n, c, L, he, hr, hp, _⟩⟩
  · exact absurd (fd4 _ _ _).1 h1.1
  · have h2 := hp.length_eq
    rw [show outsTo fdNet [⟨fdZr, zA, 2, 2⟩] ⟨⟨#[77]⟩, 600⟩ [(⟨fdZr, zA, 2, 2⟩ : Zh)].length = [] from (fd4 _ _ _).2] at h2
    have h3 := hr.len
    obtain rfl : n = 0 := by rw [List.length_nil] at h2; omega
    exact ⟨⟨A, c, he⟩, hb⟩

set_option maxRecDepth 100000 in
set_option maxHeartbeats 4000000 in
theorem zworks_any (w : World) : Calls Try.prog 18 #[] w fun e w' => e = .returned (.bool true) ∧ Below w.heap.size w w' := by
  have hB0 : Below w.heap.size w ((w.alloc (.cells #[.int .i64 800, .int .i64 0, .int .i64 1500, .int .i64 400] 52)).alloc (.cells #[.string ⟨#[66]⟩, .string ⟨#[76]⟩, .slice (some ⟨w.heap.size, 0, none⟩) 2 2] 57)) := ((Below.refl _ _).alloc (Nat.le_refl _) _).alloc (by simp) _
  have hQ : Blk ((w.alloc (.cells #[.int .i64 800, .int .i64 0, .int .i64 1500, .int .i64 400] 52)).alloc (.cells #[.string ⟨#[66]⟩, .string ⟨#[76]⟩, .slice (some ⟨w.heap.size, 0, none⟩) 2 2] 57)) (w.heap.size + 1) 57 #[.string ⟨#[66]⟩, .string ⟨#[76]⟩, .slice (some ⟨w.heap.size, 0, none⟩) 2 2] := Blk.new_ (by simp)
  have hZ : RdZs ((w.alloc (.cells #[.int .i64 800, .int .i64 0, .int .i64 1500, .int .i64 400] 52)).alloc (.cells #[.string ⟨#[66]⟩, .string ⟨#[76]⟩, .slice (some ⟨w.heap.size, 0, none⟩) 2 2] 57)) ((w.alloc (.cells #[.int .i64 800, .int .i64 0, .int .i64 1500, .int .i64 400] 52)).alloc (.cells #[.string ⟨#[66]⟩, .string ⟨#[76]⟩, .slice (some ⟨w.heap.size, 0, none⟩) 2 2] 57)).heap.size (some ⟨w.heap.size, 0, none⟩) 2 fdZr.zones := ⟨rfl, rd_lit (vs := fdZr.zones.flatMap Zs.cells) (T := 52) ((Blk.new_ rfl).alloc _) rfl (by simp; omega)⟩
  have HB0 := Lib.hid hB0
  have HZ := Lib.hid hZ
  have HQ := Lib.hid hQ
  clear hB0 hQ hZ
  go_enter Try.func18, Try.ntmps18
  go_wp2_with fail
  generalize hW0 : ((w.alloc (.cells #[.int .i64 800, .int .i64 0, .int .i64 1500, .int .i64 400] 52)).alloc (.cells #[.string ⟨#[66]⟩, .string ⟨#[76]⟩, .slice (some ⟨w.heap.size, 0, none⟩) 2 2] 57)) = W0 at *
  have HW0 := Lib.hid hW0
  clear hW0
  have hlt := HQ.out.lt
  have c0 : W0.cell? ⟨w.heap.size + 1, 0, none⟩ = some (.string ⟨#[66]⟩) := HQ.out.cell 0
  have c1 : W0.cell? ⟨w.heap.size + 1, 1, none⟩ = some (.string ⟨#[76]⟩) := HQ.out.cell 1
  have c2 : W0.cell? ⟨w.heap.size + 1, 2, none⟩ = some (.slice (some ⟨w.heap.size, 0, none⟩) 2 2) := HQ.out.cell 2
  have hrule : ∀ w' : World, Below W0.heap.size W0 w' → ∀ b o, b < W0.heap.size → w'.cell? ⟨b, o, none⟩ = W0.cell? ⟨b, o, none⟩ := fun w' hb b o h => hb.cell (p := ⟨b, o, none⟩) h
  go_cut [2, 3] (fun a b wc => a = .int .i64 1250000 ∧ b = .int .i64 0 ∧ Below W0.heap.size W0 wc)
  case first =>
    go_region_held (fun w' => Below W0.heap.size W0 w')
      (repeat' (first | with_reducible exact hKf | with_reducible exact hKd | with_reducible exact Below.refl _ _ | with_reducible assumption | with_reducible refine below_drew ?_ | with_reducible refine Below.alloc ?_ ?_ _ | omega | (simp <;> omega) | (simp; done)))
      (first
        | (go_at_call 34; refine (feeder_any _).mono ?_
           rintro e wf ⟨hh, rfl, hrf, hbf⟩; have hKf := bnext (by assumption) hbf)
        | (go_at_call 21; refine (zdis_any hh fdNet fdZr ⟨⟨#[77]⟩, 250⟩ (some ⟨w.heap.size, 0, none⟩) 2 2 _ (by repeat' (first | exact hrf | refine hrf.up ?_ | exact Below.refl _ _ | refine below_drew ?_)) ((HZ.out.below (by assumption) (Nat.le_refl _)).more (Below.size (by assumption))) (by omega)).mono ?_
           rw [fd1]; rintro e wd ⟨rfl, hbd⟩; have hKd := bnext (by assumption) hbd))
    all_goals
      go_wp2_with fail
      go_meet
      case rel =>
        refine ⟨rfl, rfl, ?_⟩
        repeat' (first | with_reducible exact hKf | with_reducible exact hKd | with_reducible exact Below.refl _ _ | with_reducible assumption | with_reducible refine below_drew ?_ | with_reducible refine Below.alloc ?_ ?_ _ | omega | (simp <;> omega) | (simp; done))
  obtain ⟨rfl, rfl, hb1⟩ := hcut
  go_wp2_with fail
  go_cut [4, 5] (fun a b wc => a = .int .i64 1 ∧ b = .int .i64 0 ∧ Below W0.heap.size W0 wc)
  case first =>
    go_region_held (fun w' => Below W0.heap.size W0 w')
      (repeat' (first | with_reducible exact hKf | with_reducible exact hKd | with_reducible exact Below.refl _ _ | with_reducible assumption | with_reducible refine below_drew ?_ | with_reducible refine Below.alloc ?_ ?_ _ | omega | (simp <;> omega) | (simp; done)))
      (first
        | (go_at_call 34; refine (feeder_any _).mono ?_
           rintro e wf ⟨hh, rfl, hrf, hbf⟩; have hKf := bnext (by assumption) hbf)
        | (go_at_call 22; refine (zfnd_any hh fdNet fdZr ⟨⟨#[76]⟩, 900⟩ (some ⟨w.heap.size, 0, none⟩) 2 2 _ (by repeat' (first | exact hrf | refine hrf.up ?_ | exact Below.refl _ _ | refine below_drew ?_)) ((HZ.out.below (by assumption) (Nat.le_refl _)).more (Below.size (by assumption))) (by omega)).mono ?_
           rw [fd2]; rintro e wd ⟨rfl, hbd⟩; have hKd := bnext (by assumption) hbd))
    all_goals
      go_wp2_with fail
      go_meet
      case rel =>
        refine ⟨rfl, rfl, ?_⟩
        repeat' (first | with_reducible exact hKf | with_reducible exact hKd | with_reducible exact Below.refl _ _ | with_reducible assumption | with_reducible refine below_drew ?_ | with_reducible refine Below.alloc ?_ ?_ _ | omega | (simp <;> omega) | (simp; done))
  obtain ⟨rfl, rfl, hb2⟩ := hcut
  go_wp2_with fail
  go_cut [6, 7] (fun a b wc => a = .int .i64 400 ∧ b = .int .i64 0 ∧ Below W0.heap.size W0 wc)
  case first =>
    go_region_held (fun w' => Below W0.heap.size W0 w')
      (repeat' (first | with_reducible exact hKf | with_reducible exact hKd | with_reducible exact Below.refl _ _ | with_reducible assumption | with_reducible refine below_drew ?_ | with_reducible refine Below.alloc ?_ ?_ _ | omega | (simp <;> omega) | (simp; done)))
      (first
        | (go_at_call 34; refine (feeder_any _).mono ?_
           rintro e wf ⟨hh, rfl, hrf, hbf⟩; have hKf := bnext (by assumption) hbf)
        | (go_at_call 23; refine (ztim_any hh fdNet fdZr ⟨⟨#[76]⟩, 900⟩ (some ⟨w.heap.size, 0, none⟩) 2 2 _ (by repeat' (first | exact hrf | refine hrf.up ?_ | exact Below.refl _ _ | refine below_drew ?_)) ((HZ.out.below (by assumption) (Nat.le_refl _)).more (Below.size (by assumption))) (by omega)).mono ?_
           rw [fd3]; rintro e wd ⟨rfl, hbd⟩; have hKd := bnext (by assumption) hbd))
    all_goals
      go_wp2_with fail
      go_meet
      case rel =>
        refine ⟨rfl, rfl, ?_⟩
        repeat' (first | with_reducible exact hKf | with_reducible exact hKd | with_reducible exact Below.refl _ _ | with_reducible assumption | with_reducible refine below_drew ?_ | with_reducible refine Below.alloc ?_ ?_ _ | omega | (simp <;> omega) | (simp; done))
  obtain ⟨rfl, rfl, hb3⟩ := hcut
  go_wp2_with fail
  have hs3 := hb3.size
  go_cut [8, 9] (fun a b wc => (∃ A c, a = .slice A 0 c) ∧ b = .int .i64 0 ∧ Below W0.heap.size W0 wc)
  case first =>
    go_region_held (fun w' => Below W0.heap.size W0 w')
      (repeat' (first | with_reducible exact hKf | with_reducible exact hKd | with_reducible exact Below.refl _ _ | with_reducible assumption | with_reducible refine below_drew ?_ | with_reducible refine Below.alloc ?_ ?_ _ | omega | (simp <;> omega) | (simp; done)))
      (first
        | (go_at_call 34; refine (feeder_any _).mono ?_
           rintro e wf ⟨hh, rfl, hrf, hbf⟩; have hKf := bnext (by assumption) hbf; have hsf := hKf.size)
        | (go_at_call 24
           go_loud (refine (covEx hh _ (some ⟨w.heap.size, 0, none⟩) _ ?_ ?_ ?_).mono ?_
                    · repeat' (first | with_reducible exact hrf | with_reducible refine hrf.up ?_ | with_reducible exact Below.refl _ _ | with_reducible refine below_drew ?_ | with_reducible refine Below.alloc ?_ ?_ _ | omega | (simp; done))
                    · repeat' (first | (with_reducible refine Blk.new_ ?_; first | rfl | (simp; done)) | with_reducible refine Blk.alloc ?_ _ | with_reducible refine Blk.drew ?_ | with_reducible refine Blk.below ?_ hbf ?_ | (simp; done) | omega)
                    · exact (HZ.out.below (by assumption) (Nat.le_refl _)).more (Below.size (by assumption))
                    rintro e wd ⟨⟨sA, sc, rfl⟩, hbd⟩; have hKd := bnext (by assumption) hbd)))
    all_goals
      go_wp2_with fail
      go_meet
      case rel =>
        refine ⟨⟨_, _, rfl⟩, rfl, ?_⟩
        repeat' (first | with_reducible exact hKf | with_reducible exact hKd | with_reducible exact Below.refl _ _ | with_reducible assumption | with_reducible refine below_drew ?_ | with_reducible refine Below.alloc ?_ ?_ _ | omega | (simp <;> omega) | (simp; done))
  obtain ⟨⟨sA, sc, rfl⟩, rfl, hb4⟩ := hcut
  go_wp2_with fail
  go_ret
  exact ⟨rfl, HB0.out.trans (hb4.mono HB0.out.size)⟩
end Go.Proofs.Ythedpegaelpbdaa
