/- A map from names to numbers of the call's own. -/
import Derived.Test.YthedpegaelpbdaaN3
namespace Go.Proofs.Ythedpegaelpbdaa
open Go.ChangeShapes Go.WideShapes Go.ChangeAt Go.RowKit Go.Maps
set_option linter.unusedVariables false

def UsedM (w : World) (b n : Nat) (f : ByteArray → Option Int) : Prop :=
  ∃ D : DataW Unit, w.ownsMap Try.prog 9 (plainElem Try.prog 3) b n D ∧ IsMap D ∧ ∀ s : ByteArray, Maps.has D (.string s.data.toList) = (f s).isSome ∧ ∀ i, f s = some i → D.atKey (.string s.data.toList) (.lit (.int .i64 0)) = .lit (.int .i64 i)
theorem UsedM.lt {w : World} {b n : Nat} {f : ByteArray → Option Int} (h : UsedM w b n f) : b < w.heap.size := by obtain ⟨D, h1, _⟩ := h; exact h1.lt
theorem UsedM.kept {w w' : World} {row : Option Nat} {b n : Nat} {f : ByteArray → Option Int} (h : UsedM w b n f) (hg : w.grownBy w' row) (hne : some b ≠ row) : UsedM w' b n f := by
  obtain ⟨D, h1, h2⟩ := h; exact ⟨D, h1.kept hg hne, h2⟩
theorem UsedM.below {w w' : World} {b n : Nat} {f : ByteArray → Option Int} (h : UsedM w b n f) (hb : Below w.heap.size w w') : UsedM w' b n f := h.kept (row := none) ⟨hb.os, hb.tape, hb.output, hb.size, fun k hk _ => hb.block k hk⟩ (by simp)
theorem UsedM.made (w : World) : UsedM (w.alloc (.map #[] 0)) w.heap.size 0 (fun _ => none) :=
  ⟨.map [], World.ownsMap_made _ _ _ _, ⟨[], rfl⟩, fun s => ⟨rfl, fun i h => by cases h⟩⟩
theorem zero_int (w : World) : (zeroValue 3).run Try.prog w = .ok (.int .i64 0) w := by kernel_rfl
theorem UsedM.put {w : World} {b n : Nat} {f : ByteArray → Option Int} {D : DataW Unit} (s : ByteArray) (i : Int) (h1 : w.ownsMap Try.prog 9 (plainElem Try.prog 3) b n (D.put (.string s.data.toList) (.lit (.int .i64 i)))) (h2 : IsMap D)
    (h3 : ∀ s : ByteArray, Maps.has D (.string s.data.toList) = (f s).isSome ∧ ∀ i, f s = some i → D.atKey (.string s.data.toList) (.lit (.int .i64 0)) = .lit (.int .i64 i)) : UsedM w b n (fun t => if t = s then some i else f t) := by
  refine ⟨_, h1, ?_, fun t => ?_⟩
  · obtain ⟨es, rfl⟩ := h2
    exact ⟨_, rfl⟩
  · by_cases hts : t = s
    · subst hts
      rw [has_put_same h2 (k := .string t.data.toList) trivial, atKey_put_same h2 (k := .string t.data.toList) trivial]
      simp
    · have hne : Lit.string t.data.toList ≠ Lit.string s.data.toList := fun e => hts (by injection e with e; cases t; cases s; simp at e; rw [e])
      rw [has_put_other hne, atKey_put_other hne]
      simp only [hts, if_false]
      exact h3 t
end Go.Proofs.Ythedpegaelpbdaa
