/- A breaker's name is no other edge's. No walk in this text. -/
import Derived.Test.YthedpegaelpbdaaGD
import Derived.Test.YthedpegaelpbdaaG6
import Derived.Test.YthedpegaelpbdaaN7
namespace Go.Proofs.Ythedpegaelpbdaa
open Go.ChangeShapes Go.WideShapes Go.ChangeAt Go.RowKit
set_option linter.unusedVariables false

theorem swEd_names (nodes opens : List ByteArray) : ∀ l : List Sw, ((l.flatMap (swEd nodes opens)).map Ed.name).Sublist (l.map Sw.name)
  | [] => by simp
  | s :: l => by
    have ih := swEd_names nodes opens l
    rw [List.flatMap_cons, List.map_append, List.map_cons]
    have h1 : swEd nodes opens s = [] ∨ swEd nodes opens s = [⟨ndIdx nodes s.a, ndIdx nodes s.b, s.name, s.breaker, 0⟩] := by
      unfold swEd
      split
      · exact .inl rfl
      · exact .inr rfl
    rcases h1 with h1 | h1 <;> rw [h1]
    · exact ih.cons s.name
    · exact ih.cons_cons s.name
theorem fd_one {x : Net} (hn : Names x) (opens : List ByteArray) (p : Fp) : OneName (fdEs x opens p) := by
  intro k m e f he hf hne hbk
  have hB : ∀ (k : Nat) (e : Ed), (fdEs x opens p)[k]? = some e → k < (x.sws.flatMap (swEd x.nodes opens)).length ∨ ∃ b ∈ x.brs, e.name = b.name ∧ e.brk = false := by
    intro k e he
    rcases Nat.lt_or_ge k (x.sws.flatMap (swEd x.nodes opens)).length with h | h
    · exact .inl h
    · right
      unfold fdEs at he
      rw [List.getElem?_append_right h] at he
      obtain ⟨b, hb, hx⟩ := List.mem_flatMap.1 (List.mem_of_getElem? he)
      refine ⟨b, hb, ?_⟩
      unfold brEd at hx
      split at hx
      · rcases List.mem_cons.1 hx with hx | hx
        · subst hx; exact ⟨rfl, rfl⟩
        · rw [List.mem_singleton.1 hx]; exact ⟨rfl, rfl⟩
      · rw [List.mem_singleton.1 hx]; exact ⟨rfl, rfl⟩
  have hA : ∀ (k : Nat) (e : Ed), (fdEs x opens p)[k]? = some e → k < (x.sws.flatMap (swEd x.nodes opens)).length → ((x.sws.flatMap (swEd x.nodes opens)).map Ed.name)[k]? = some e.name ∧ ∃ s ∈ x.sws, e.name = s.name := by
    intro k e he hk
    unfold fdEs at he
    rw [List.getElem?_append_left hk] at he
    refine ⟨by rw [List.getElem?_map, he]; rfl, ?_⟩
    obtain ⟨s, hs, hx⟩ := List.mem_flatMap.1 (List.mem_of_getElem? he)
    unfold swEd at hx
    split at hx
    · simp at hx
    · rw [List.mem_singleton.1 hx]; exact ⟨s, hs, rfl⟩
  have hnd : ((x.sws.flatMap (swEd x.nodes opens)).map Ed.name).Nodup := (swEd_names x.nodes opens x.sws).nodup hn.sws
  rcases hB k e he with hk | ⟨b, _, _, h2⟩
  · obtain ⟨e1, s, hs, hes⟩ := hA k e he hk
    rcases hB m f hf with hm | ⟨b, hb, h1, _⟩
    · obtain ⟨e2, _⟩ := hA m f hf hm
      rw [← hne] at e2
      have hp := List.pairwise_iff_getElem.1 hnd
      obtain ⟨l1, q1⟩ := List.getElem?_eq_some_iff.1 e1
      obtain ⟨l2, q2⟩ := List.getElem?_eq_some_iff.1 e2
      rcases Nat.lt_trichotomy k m with hl | hl | hl
      · exact absurd (q1.trans q2.symm) (hp k m l1 l2 hl)
      · exact hl
      · exact absurd (q2.trans q1.symm) (hp m k l2 l1 hl)
    · exact absurd (hes.symm.trans (hne.trans h1)) (hn.sb s hs b hb)
  · rw [hbk] at h2; cases h2
end Go.Proofs.Ythedpegaelpbdaa
