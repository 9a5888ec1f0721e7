/- The fixed example: a feeder. -/
import Derived.Test.YthedpegaelpbdaaV1
import Derived.Test.YthedpegaelpbdaaO1
import Derived.Deep.RegionHeld
namespace Go.Proofs.Ythedpegaelpbdaa
open Go.ChangeShapes Go.WideShapes Go.ChangeAt Go.RowKit Go.Joins Go.Deep
set_option linter.unusedVariables false
attribute [local go_sem ↓] execOp_call_val
attribute [local go_sem] callVal_func setCell_drewN alloc_drewN sEq_walk NetH.cells

def fdNet : Net where
  nodes := [⟨#[65]⟩, ⟨#[66]⟩, ⟨#[67]⟩, ⟨#[68]⟩, ⟨#[69]⟩]
  sws := [⟨⟨#[83]⟩, ⟨#[65]⟩, ⟨#[66]⟩, true, false⟩, ⟨⟨#[84]⟩, ⟨#[67]⟩, ⟨#[68]⟩, true, false⟩]
  brs := [⟨⟨#[76]⟩, ⟨#[66]⟩, ⟨#[67]⟩, 1000, 1000, 0, 0, 0, 0⟩, ⟨⟨#[77]⟩, ⟨#[68]⟩, ⟨#[69]⟩, 1000, 1000, 0, 0, 0, 0⟩]
  gns := [⟨⟨#[71]⟩, ⟨#[65]⟩, 0, 9, 0⟩]
  lds := []
  sts := []
theorem rd_lit {w : World} {B g size n : Nat} {T : TypeId} {vs : List Value} (h : Blk w g T vs.toArray) (hl : vs.length = n * size) (hg : g < B) : Rd w B size (some ⟨g, 0, none⟩) n vs :=
  ⟨hl, fun _ => ⟨g, 0, rfl, hg, fun j u hu => by
    rw [show (⟨g, 0 + j, none⟩ : Addr) = ⟨g, j, none⟩ from by simp]
    rw [h.cell j]
    simpa using hu⟩⟩

set_option maxHeartbeats 1000000 in
theorem feeder_any (w : World) :
    Calls Try.prog 34 #[] w fun e w' => ∃ h : NetH, e = .returned (.agg h.cells) ∧ RdNet w' w'.heap.size h fdNet ∧ Below w.heap.size w w' := by
  go_enter Try.func34, Try.ntmps34
  go_wp2_with fail
  refine bodyPost_ret (v := .agg (NetH.cells ⟨some ⟨w.heap.size + 1, 0, none⟩, 5, 5, some ⟨w.heap.size + 1 + 1, 0, none⟩, 2, 2, some ⟨w.heap.size + 1 + 1 + 1, 0, none⟩, 2, 2, some ⟨w.heap.size + 1 + 1 + 1 + 1, 0, none⟩, 1, 1, none, 0, 0, none, 0, 0⟩)) (by simp [results, Try.results34, go_sem]) rfl ⟨_, rfl, ?_, ?_⟩
  · have f4 : ∀ (W : World), RdLd W W.heap.size none 0 [] := fun W => ⟨rfl, rfl, fun h => absurd h (by decide)⟩
    have f5 : ∀ (W : World), RdSt W W.heap.size none 0 [] := fun W => ⟨rfl, rfl, fun h => absurd h (by decide)⟩
    have hz0 : ∀ s ∈ fdNet.nodes, s.size ≤ maxLen := by decide +kernel
    have hz1 : ∀ s ∈ fdNet.sws, s.name.size ≤ maxLen := by decide +kernel
    have hz2 : ∀ s ∈ fdNet.brs, s.name.size ≤ maxLen := by decide +kernel
    have hz3 : ∀ s ∈ fdNet.gns, s.name.size ≤ maxLen := by decide +kernel
    have hz4 : ∀ s ∈ fdNet.lds, s.name.size ≤ maxLen := by decide +kernel
    have hz5 : ∀ s ∈ fdNet.sts, s.name.size ≤ maxLen := by decide +kernel
    refine ⟨rdStr_lit (zs := fdNet.nodes) (T := 9) ?_ (by simp), ⟨rfl, rd_lit (vs := fdNet.sws.flatMap Sw.cells) (T := 44) ?_ rfl (by simp)⟩, ⟨rfl, rd_lit (vs := fdNet.brs.flatMap Br.cells) (T := 49) ?_ rfl (by simp)⟩, ⟨rfl, rd_lit (vs := fdNet.gns.flatMap Gn.cells) (T := 145) ?_ rfl (by simp)⟩, f4 _, f5 _,
      by simp, by simp, by simp, by simp, by simp, by simp, hz0, hz1, hz2, hz3, hz4, hz5⟩
    · exact (((Blk.new_ (by simp)).alloc _).alloc _).alloc _
    · exact ((Blk.new_ (by simp)).alloc _).alloc _
    · exact (Blk.new_ (by simp)).alloc _
    · exact Blk.new_ (by simp)
  · exact (((((Below.refl _ _).alloc (Nat.le_refl _) _).alloc (by simp) _).alloc (by simp; omega) _).alloc (by simp; omega) _).alloc (by simp; omega) _


end Go.Proofs.Ythedpegaelpbdaa
