import Derived.Test.YtakllkkmofdpaaaGreatDoorU37
set_option linter.unusedVariables false
set_option linter.unusedSimpArgs false
namespace Go.Proofs.YtakllkkmofdpaaaGreatDoor
section
open Go.ChangeShapes Go.WideShapes Go.ChangeAt Go.RowKit Go.Joins
attribute [local go_sem ↓] execOp_call_val
attribute [local go_sem] callVal_func setCell_drewN alloc_drewN sEq_walk
theorem info_mi : (Tryz.prog.info? 57).map (fun i => (i.zero, i.size, i.bytes)) = some (some (.agg #[.int .i64 0, .string ⟨#[]⟩, .string ⟨#[]⟩, .int .i64 0]), 4, 48) := by kernel_rfl
theorem OwnMi.rd2 {w : World} {base : Nat} {A : Option Addr} {n c : Nat} {ms : List Mi} (h : OwnMi w base (.slice A n c) ms) : RdMi w w.heap.size A n ms ∧ n ≤ c ∧ c ≤ maxLen := by
 obtain ⟨A', c', e, h1, h2, h3⟩ := h.rd
 injection e with e1 e2 e3
 subst e1; subst e2; subst e3
 exact ⟨h1, h2, h3⟩
theorem mi_cells1 (ms : List Mi) : ∀ u ∈ ms.flatMap Mi.cells, u.oneCell' = true := fun u hu => by
 obtain ⟨m, _, hm⟩ := List.mem_flatMap.1 hu
 simp [Mi.cells] at hm
 rcases hm with rfl | rfl | rfl | rfl <;> rfl
section
variable {o : Oper} {a : Act} {w : World} {Q : Exit → Act → World → Prop}
theorem wp_appMi {K : Act → World → Prop} (s x : Operand) (t : TypeId)
    (ho : o.op = .call { callee := .builtin .append, args := #[s, x], argTypes := #[t, t] }) (base : Nat) (ht : Tryz.prog.underlying t = some (.slice 57))
    (v : Value) (xs : List Mi) (hsv : a.eval s = v) (hown : OwnMi w base v xs)
    (A : Option Addr) (m c : Nat) (ys : List Mi) (hx : a.eval x = .slice A m c) (hr : RdMi w w.heap.size A m ys) (h63 : xs.length + m ≤ 1000000000) (hbase : base ≤ w.heap.size) (N : Nat) (hN : (xs ++ ys).length = N)
    (h : ∀ A' c' w', OwnMi w' base (.slice A' N c') (xs ++ ys) → Below base w w' → w.grownBy w' v.ownBlock → K (a.put o.dst (.slice A' N c')) w') : o.wp Tryz.prog a w K Q := by
 obtain ⟨i0, hi0, hz0, hz1, hz2⟩ := info_parts info_mi
 obtain ⟨hm, hr⟩ := hr
 have hlow : ∀ w', w.grownBy w' v.ownBlock → Below base w w' := fun w' hg => (Below.refl _ _).grown hg hbase fun k hk => by
  rcases hown.2 with ⟨e1, _⟩ | ⟨g, cap, cur, e1, e2, _⟩
  ·rw [e1] at hk; simp [Value.ownBlock] at hk
  ·rw [e1] at hk
   simp [Value.ownBlock] at hk
   omega
 have fin : ∀ v' w', w'.ownsRow base 57 4 v' (xs.length + m) (xs.flatMap Mi.cells ++ ys.flatMap Mi.cells) → w.grownBy w' v.ownBlock → K (a.put o.dst v') w' := fun v' w' k1 k2 => by
  have k3 : OwnMi w' base v' (xs ++ ys) := by
   unfold OwnMi
   rw [List.flatMap_append, List.length_append, hm]
   exact k1
  obtain ⟨A', c', e, _⟩ := k3.rd
  subst e
  subst hN
  exact h A' c' w' k3 (hlow _ k2) k2
 rcases Nat.eq_zero_or_pos m with rfl | h0
 ·have hys : ys = [] := List.eq_nil_of_length_eq_zero hm
  subst hys
  obtain ⟨A1, c1, hv, _, hc1, _⟩ := hown.rd
  have hsrc : Src Tryz.prog i0.size t (.slice A 0 c) 0 [] w := by
   cases A with
   | none => exact Src.ofNil w ht c
   | some ad => exact Src.ofSlice w ht ad 0 c [] (by simp) (fun j u hu => by simp at hu) (fun u hu => by cases hu)
  have hrun := run_append_nothing (P := Tryz.prog) w t t o.type 57 i0 ht hi0 A1 xs.length c1 hc1 (.slice A 0 c) hsrc
  unfold Oper.wp execOp
  simp only [ho, resolve, invoke, builtin, Sem.run_bind, Sem.run_pure, Result.andThen_ok, List.map_toArray, List.map_cons, List.map_nil, hsv, hx, hv, hrun]
  have := fin v w (by have h := hown; unfold OwnMi at h; simpa using h) (World.grownBy.refl _ _)
  rw [hv] at this
  exact this
 ·obtain ⟨b, off, rfl, hb, hc⟩ := hr.2 h0
  exact wp_append_own w s x t ho base 57 i0 _ 4 48 ht hi0 hz0 hz1 hz2 rfl (by omega) v _ _ hsv hown ⟨b, off, none⟩ m c (ys.flatMap Mi.cells) hx (by rw [flat_len Mi.len, hm]) (fun j u hu => by rw [Addr.add_lit]; exact hc j u hu) (mi_cells1 ys) (by simp only [maxLen]; omega) (by omega) hbase fun v' w' k1 k2 _ => fin v' w' k1 k2
end
theorem rdMi_blk {w : World} {g : Nat} {T : TypeId} {m : Mi} (h : Blk w g T #[.int .i64 m.kind, .string m.name, .string m.txt, .int .i64 m.wt]) : RdMi w w.heap.size (some ⟨g, 0, none⟩) 1 [m] := by
 refine ⟨rfl, ⟨rfl, fun _ => ⟨g, 0, rfl, h.lt, fun j u hu => ?_⟩⟩⟩
 rw [Nat.zero_add, h.cell j]
 simpa [Mi.cells] using hu
end
end Go.Proofs.YtakllkkmofdpaaaGreatDoor
