/- Appending events that lie anywhere. -/
import Derived.Test.YtmmkkkakbbidjaaDoorJM
import Derived.Test.YtmmkkkakbbidjaaDoorJ4
import Derived.Deep.AppendSrc
namespace Go.Proofs.YtmmkkkakbbidjaaDoor
open Go.ChangeShapes Go.WideShapes Go.ChangeAt Go.RowKit Go.Deep
set_option linter.unusedVariables false

theorem wpList_append_evs {P : Program} (w : World) {ops : Array Oper} {rest : List Oper} {o : Oper} {a : Act} {Q : Exit → Act → World → Prop} (hgd : o.guard = none) (s x : Operand) (t : TypeId)
    (ho : o.op = .call { callee := .builtin .append, args := #[s, x], argTypes := #[t, t] })
    (base : Nat) (i : TypeInfo) (z : Value) (ht : P.underlying t = some (.slice 31)) (hi : P.info? 31 = some i) (hz : i.zero = some z)
    (hsize : i.size = 4) (hby : i.bytes = 48) (hzs : z.cells.size = 4)
    (v : Value) (n : Nat) (xs : List Value) (hs : a.eval s = v) (hown : w.ownsRow base 31 4 v n xs) (hv : v ≠ .slice none 0 0)
    (A : Option Addr) (m c K : Nat) (l : List Ev) (hx : a.eval x = .slice A m c) (hR : RdEv w K A m l)
    (h63 : n + m ≤ 1000000) (hbase : base ≤ w.heap.size)
    (h : ∀ v' w', w'.ownsRow base 31 4 v' (n + m) (xs ++ l.flatMap Ev.cells) → w.grownBy w' v.ownBlock → v' ≠ .slice none 0 0 → wpList P ops Q rest (a.put o.dst v') w') : wpList P ops Q (o :: rest) a w := by
  cases A with
  | some ad =>
    refine wpList_append_own w hgd s x t ho base 31 i z 4 48 ht hi hz hsize hby hzs (by omega) v n xs hs hown ad m c (l.flatMap Ev.cells) hx (by rw [flat_len Ev.len, hR.1]) ?_ (one_ev l) (by simp only [maxLen]; omega) (by omega) hbase fun v' w' h1 h2 h3 => h v' w' h1 h2 (fun he => hv (h3.1 he).1)
    intro j u hu
    by_cases hm : 0 < m
    · obtain ⟨b, off, e, _, hc⟩ := hR.2.2 hm
      injection e with e
      subst e
      rw [Addr.add_lit]
      exact hc j u hu
    · have hl : l = [] := List.eq_nil_of_length_eq_zero (by have := hR.1; omega)
      subst hl
      simp at hu
  | none =>
    have hm : m = 0 := by
      rcases Nat.eq_zero_or_pos m with h | h
      · exact h
      · obtain ⟨b, off, e, _⟩ := hR.2.2 h
        cases e
    subst hm
    have hl : l = [] := List.eq_nil_of_length_eq_zero hR.1
    subst hl
    rcases hown.2 with ⟨h1, _⟩ | ⟨g, cap, cur, h1, _, _, hnc, _⟩
    · exact absurd h1 hv
    · subst h1
      have hsrc : Src P i.size t (.slice none 0 c) 0 [] w := Src.ofNil w ht c
      have hr := run_append_room_src w t t o.type 31 i ht hi g 0 n cap (.slice none 0 c) 0 [] hsrc (by omega) (fun j hj => by simp at hj) (fun j hj => by simp at hj)
      refine wpList_plain hgd fun _ hK => ?_
      unfold Oper.wp execOp
      simp only [ho, resolve, invoke, builtin, Sem.run_bind, Sem.run_pure, Result.andThen_ok, List.map_toArray, List.map_cons, List.map_nil, hs, hx, hr]
      refine hK _ _ ?_
      have hw : w.setCells g (0 + n * i.size) [] = w := by first | rfl | simp [World.setCells]
      rw [hw]
      exact h _ _ (by simpa using hown) ⟨rfl, rfl, rfl, Nat.le_refl _, fun _ _ _ => rfl⟩ hv
theorem made_row (w : World) (base : Nat) (hb : base ≤ w.heap.size) : (w.alloc (.cells #[] 31)).ownsRow base 31 4 (.slice (some ⟨w.heap.size, 0, none⟩) 0 0) 0 [] :=
  World.ownsRow_made w #[] 0 hb (by simp only [maxLen]; omega) rfl
def hasEv (xs : List Ev) (z : Ev) : Bool := xs.any fun x => evB x z
theorem hasEv_iff {xs : List Ev} {z : Ev} : hasEv xs z = true ↔ z ∈ xs := by
  unfold hasEv
  rw [List.any_eq_true]
  constructor
  · rintro ⟨x, hx, h⟩; rw [← evB_iff.1 h]; exact hx
  · exact fun h => ⟨z, h, evB_self z⟩
theorem hasEv_step {xs : List Ev} {z x : Ev} {k : Nat} (h : xs[k]? = some x) : hasEv (xs.take (k + 1)) z = (hasEv (xs.take k) z || evB x z) := by
  unfold hasEv
  rw [List.take_add_one, h]
  simp
end Go.Proofs.YtmmkkkakbbidjaaDoor
