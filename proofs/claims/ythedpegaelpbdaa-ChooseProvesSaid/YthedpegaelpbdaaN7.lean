/- The names of a checked network are all different. -/
import Derived.Test.YthedpegaelpbdaaN6
namespace Go.Proofs.Ythedpegaelpbdaa
open Go.ChangeShapes Go.WideShapes Go.ChangeAt Go.RowKit
set_option linter.unusedVariables false

theorem not_seen {seen : List ByteArray} {s : ByteArray} (h : ¬ (seen.any (fun x => sEq s x) = true)) : s ∉ seen := fun hm => h (List.any_eq_true.2 ⟨s, hm, sEq_iff.2 rfl⟩)
theorem ckList_nodup {α : Type} {f : List ByteArray → α → Int} {nm : α → ByteArray} (hf : ∀ seen x, f seen x = 0 → nm x ∉ seen) : ∀ (l : List α) (seen : List ByteArray), (ckList f nm seen l).1 = 0 → (ckList f nm seen l).2 = (l.map nm).reverse ++ seen ∧ (seen.Nodup → (ckList f nm seen l).2.Nodup)
  | [], seen, _ => ⟨rfl, fun h => h⟩
  | x :: l, seen, h => by
    unfold ckList at h ⊢
    by_cases h0 : f seen x = 0
    · rw [if_neg (by simp [h0])] at h ⊢
      obtain ⟨h1, h2⟩ := ckList_nodup hf l (nm x :: seen) h
      exact ⟨by rw [h1]; simp, fun hn => h2 (List.nodup_cons.2 ⟨hf seen x h0, hn⟩)⟩
    · rw [if_pos h0] at h; exact absurd h h0
theorem fNode_seen {nodes : List ByteArray} (seen : List ByteArray) (x : ByteArray) (h : fNode nodes seen x = 0) : id x ∉ seen := not_seen (devR_ok h).2.2.2
theorem fSw_seen {nodes : List ByteArray} (seen : List ByteArray) (x : Sw) (h : fSw nodes seen x = 0) : x.name ∉ seen := by
  unfold fSw at h
  split at h
  · rename_i h0; exact absurd h h0
  · rename_i h0; exact not_seen (devR_ok (Decidable.not_not.1 h0)).2.2.2
theorem fBr_seen {nodes : List ByteArray} (seen : List ByteArray) (x : Br) (h : fBr nodes seen x = 0) : x.name ∉ seen := by
  unfold fBr at h
  split at h
  · rename_i h0; exact absurd h h0
  · rename_i h0; exact not_seen (devR_ok (Decidable.not_not.1 h0)).2.2.2
theorem nodup_rev {l : List ByteArray} (h : l.reverse.Nodup) : l.Nodup := (List.Perm.nodup_iff (List.reverse_perm l)).1 h
/-- nodes, switches and branches have different names -/
theorem netCk_names {x : Net} (h : netCk x = 0) : ((x.brs.map Br.name).reverse ++ ((x.sws.map Sw.name).reverse ++ (x.nodes.reverse ++ []))).Nodup := by
  unfold netCk at h
  split at h
  · omega
  · unfold ck0 at h
    split at h
    · rename_i h0; exact absurd h h0
    · rename_i h0
      obtain ⟨a1, a2⟩ := ckList_nodup (fNode_seen (nodes := x.nodes)) x.nodes [] (Decidable.not_not.1 h0)
      unfold ck1 at h
      split at h
      · rename_i h0; exact absurd h h0
      · rename_i h1
        obtain ⟨b1, b2⟩ := ckList_nodup (fSw_seen (nodes := x.nodes)) x.sws _ (Decidable.not_not.1 h1)
        unfold ck2 at h
        split at h
        · rename_i h0; exact absurd h h0
        · rename_i h2
          obtain ⟨c1, c2⟩ := ckList_nodup (fBr_seen (nodes := x.nodes)) x.brs _ (Decidable.not_not.1 h2)
          have h3 := c2 (b2 (a2 .nil))
          rw [c1, b1, a1, List.map_id] at h3
          exact h3
structure Names (x : Net) : Prop where
  sws : (x.sws.map Sw.name).Nodup
  brs : (x.brs.map Br.name).Nodup
  sb : ∀ s ∈ x.sws, ∀ b ∈ x.brs, s.name ≠ b.name
  sn : ∀ s ∈ x.sws, s.name ∉ x.nodes
  nd : x.nodes.Nodup
theorem netCk_nm {x : Net} (h : netCk x = 0) : Names x := by
  have h1 := netCk_names h
  rw [List.nodup_append] at h1
  obtain ⟨h2, h3, h4⟩ := h1
  rw [List.nodup_append] at h3
  obtain ⟨h5, h6, h7⟩ := h3
  refine ⟨nodup_rev h5, nodup_rev h2, fun s hs b hb e => ?_, fun s hs hn => ?_, nodup_rev (by rw [List.append_nil] at h6; exact h6)⟩
  · exact h4 b.name (by simp; exact ⟨b, hb, rfl⟩) s.name (List.mem_append_left _ (by simp; exact ⟨s, hs, rfl⟩)) e.symm
  · exact h7 s.name (by simp; exact ⟨s, hs, rfl⟩) s.name (by simpa using hn) rfl
end Go.Proofs.Ythedpegaelpbdaa
