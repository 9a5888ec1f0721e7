/- Appends of any row. -/
import Derived.Test.YtaanoljfhnfjoaaGreatDoorAQ
import Derived.Deep.AppendSrc
import Derived.Deep.Upon
import Derived.Lib.SmallJoins
namespace Go.Proofs.YtaanoljfhnfjoaaGreatDoor
open Go.ChangeShapes Go.WideShapes Go.ChangeAt Go.RowKit Go.Joins
set_option linter.unusedVariables false
set_option linter.unusedSimpArgs false

section
variable {P : Program}
theorem Keeps.refl (S : Value → Prop) (base : Nat) (e : TypeId) (w : World) : Keeps S base e w w := ⟨Below.refl _ _, Nat.le_refl _, fun _ _ h _ => h, fun _ _ _ h _ => h⟩
theorem OwnS.shape {S : Value → Prop} {w : World} {base e size n : Nat} {v : Value} {xs : List Value} (h : OwnS S w base e size v n xs) : ∃ A c, v = .slice A n c ∧ n ≤ c ∧ c ≤ maxLen := by
  rcases h.2 with ⟨h1, h2⟩ | ⟨g, cap, cur, h1, h2, h3, h4, h5, h6⟩
  · subst h2; exact ⟨none, 0, h1, Nat.le_refl _, by simp [maxLen]⟩
  · exact ⟨_, cap, h1, h4, h5⟩
/-- an append of any row that can be read, be it nothing -/
theorem run_append_rd {S : Value → Prop} (w : World) (base : Nat) (t ty e : TypeId) (i : TypeInfo) (z : Value) (size bytes : Nat) (ht : P.underlying t = some (.slice e)) (hi : P.info? e = some i) (hz : i.zero = some z)
    (hsize : i.size = size) (hby : i.bytes = bytes) (hzs : z.cells.size = size) (hsz : 0 < size) (hzS : ∀ u ∈ z.cells.toList, S u)
    (v : Value) (n : Nat) (xs : List Value) (hown : OwnS S w base e size v n xs)
    (A : Option Addr) (m c : Nat) (news : List Value) (hr : Rd w w.heap.size size A m news) (h1 : ∀ u ∈ news, u.oneCell' = true ∧ S u)
    (h63 : n + m ≤ maxLen) (hbytes : (n + m) * bytes ≤ 140737488355328) (hbase : base ≤ w.heap.size) :
    ∃ v' w', (Builtin.append_ #[t, t] ty #[v, .slice A m c]).run P w = .ok v' w' ∧ OwnS S w' base e size v' (n + m) (xs ++ news) ∧ Keeps S base e w w' ∧ (v = .slice none 0 0 → Below w.heap.size w w' ∧ OwnS S w' w.heap.size e size v' (n + m) (xs ++ news)) ∧ (v'.ownBlock = v.ownBlock ∨ v'.ownBlock = some w.heap.size) := by
  rcases Nat.eq_zero_or_pos m with rfl | h0
  · have hn : news = [] := List.eq_nil_of_length_eq_zero (by simpa using hr.1)
    subst hn
    obtain ⟨A1, c1, rfl, hc, hc2⟩ := hown.shape
    have hsrc : Src P i.size t (.slice A 0 c) 0 [] w := by
      cases A with
      | none => exact Src.ofNil w ht c
      | some ad => exact Src.ofSlice w ht ad 0 c [] (by simp) (fun j u hu => by simp at hu) (fun u hu => by cases hu)
    refine ⟨_, w, run_append_nothing (P := P) w t t ty e i ht hi A1 n c1 hc (.slice A 0 c) hsrc, by rw [List.append_nil]; exact hown, Keeps.refl _ _ _ _, fun hv => ⟨Below.refl _ _, ?_⟩, .inl rfl⟩
    injection hv with a1 a2 a3
    subst a1; subst a2; subst a3
    rw [List.append_nil]
    exact ⟨hown.1, .inl ⟨rfl, rfl⟩⟩
  · obtain ⟨b, off, rfl, hb, hc⟩ := hr.2 h0
    by_cases hv : v = .slice none 0 0
    · subst hv
      have hown2 : OwnS S w w.heap.size e size (.slice none 0 0) n xs := by
        refine ⟨hown.1, ?_⟩
        rcases hown.2 with h | ⟨g, cap, cur, h, _⟩
        · exact .inl h
        · cases h
      obtain ⟨v', w', g1, g2, g3, g4⟩ := run_append_S (P := P) w w.heap.size t ty e i z size bytes ht hi hz hsize hby hzs hsz hzS _ n xs hown2 ⟨b, off, none⟩ m c news hr.1 (fun j u hu => by rw [Addr.add_lit]; exact hc j u hu) h1 h63 hbytes (Nat.le_refl _) h0
      refine ⟨v', w', g1, ⟨g2.1, ?_⟩, ⟨⟨g3.low.os, g3.low.tape, g3.low.output, g3.low.size, fun k hk => g3.low.block k (Nat.lt_of_lt_of_le hk hbase)⟩, g3.size, g3.cell, g3.blk⟩, fun _ => ⟨g3.low, g2⟩, g4⟩
      exact g2.2.imp id fun ⟨g, cap, cur, k1, k2, k3⟩ => ⟨g, cap, cur, k1, Nat.le_trans hbase k2, k3⟩
    · obtain ⟨v', w', g1, g2, g3, g4⟩ := run_append_S (P := P) w base t ty e i z size bytes ht hi hz hsize hby hzs hsz hzS v n xs hown ⟨b, off, none⟩ m c news hr.1 (fun j u hu => by rw [Addr.add_lit]; exact hc j u hu) h1 h63 hbytes hbase h0
      exact ⟨v', w', g1, g2, g3, fun h => absurd h hv, g4⟩
theorem wp_appR {S : Value → Prop} {o : Oper} {a : Act} {w : World} {K : Act → World → Prop} {Q : Exit → Act → World → Prop} (s x : Operand) (t : TypeId)
    (ho : o.op = .call { callee := .builtin .append, args := #[s, x], argTypes := #[t, t] })
    (base : Nat) (e : TypeId) (i : TypeInfo) (z : Value) (size bytes : Nat) (ht : P.underlying t = some (.slice e)) (hi : P.info? e = some i) (hz : i.zero = some z)
    (hsize : i.size = size) (hby : i.bytes = bytes) (hzs : z.cells.size = size) (hsz : 0 < size) (hzS : ∀ u ∈ z.cells.toList, S u)
    (v : Value) (n : Nat) (xs : List Value) (hs : a.eval s = v) (hown : OwnS S w base e size v n xs)
    (A : Option Addr) (m c : Nat) (news : List Value) (hx : a.eval x = .slice A m c) (hr : Rd w w.heap.size size A m news) (h1 : ∀ u ∈ news, u.oneCell' = true ∧ S u)
    (h63 : n + m ≤ maxLen) (hbytes : (n + m) * bytes ≤ 140737488355328) (hbase : base ≤ w.heap.size)
    (h : ∀ v' w', OwnS S w' base e size v' (n + m) (xs ++ news) → Keeps S base e w w' → (v = .slice none 0 0 → Below w.heap.size w w' ∧ OwnS S w' w.heap.size e size v' (n + m) (xs ++ news)) → (v'.ownBlock = v.ownBlock ∨ v'.ownBlock = some w.heap.size) → K (a.put o.dst v') w') :
    o.wp P a w K Q := by
  obtain ⟨v', w', g1, g2, g3, g4, g5⟩ := run_append_rd (P := P) w base t o.type e i z size bytes ht hi hz hsize hby hzs hsz hzS v n xs hown A m c news hr h1 h63 hbytes hbase
  unfold Oper.wp execOp
  simp only [ho, resolve, invoke, builtin, Sem.run_bind, Sem.run_pure, Result.andThen_ok, List.map_toArray, List.map_cons, List.map_nil, hs, hx, g1]
  exact h v' w' g2 g3 g4 g5
theorem wpList_appR {S : Value → Prop} {ops : Array Oper} {rest : List Oper} {o : Oper} {a : Act} {Q : Exit → Act → World → Prop} {w : World} (hgd : o.guard = none) (s x : Operand) (t : TypeId)
    (ho : o.op = .call { callee := .builtin .append, args := #[s, x], argTypes := #[t, t] })
    (base : Nat) (e : TypeId) (i : TypeInfo) (z : Value) (size bytes : Nat) (ht : P.underlying t = some (.slice e)) (hi : P.info? e = some i) (hz : i.zero = some z)
    (hsize : i.size = size) (hby : i.bytes = bytes) (hzs : z.cells.size = size) (hsz : 0 < size) (hzS : ∀ u ∈ z.cells.toList, S u)
    (v : Value) (n : Nat) (xs : List Value) (hs : a.eval s = v) (hown : OwnS S w base e size v n xs)
    (A : Option Addr) (m c : Nat) (news : List Value) (hx : a.eval x = .slice A m c) (hr : Rd w w.heap.size size A m news) (h1 : ∀ u ∈ news, u.oneCell' = true ∧ S u)
    (h63 : n + m ≤ maxLen) (hbytes : (n + m) * bytes ≤ 140737488355328) (hbase : base ≤ w.heap.size)
    (h : ∀ v' w', OwnS S w' base e size v' (n + m) (xs ++ news) → Keeps S base e w w' → (v = .slice none 0 0 → Below w.heap.size w w' ∧ OwnS S w' w.heap.size e size v' (n + m) (xs ++ news)) → (v'.ownBlock = v.ownBlock ∨ v'.ownBlock = some w.heap.size) → wpList P ops Q rest (a.put o.dst v') w') :
    wpList P ops Q (o :: rest) a w := by
  refine wpList_plain hgd fun K hK => ?_
  exact wp_appR s x t ho base e i z size bytes ht hi hz hsize hby hzs hsz hzS v n xs hs hown A m c news hx hr h1 h63 hbytes hbase fun v' w' a1 a2 a3 a4 => hK _ _ (h v' w' a1 a2 a3 a4)
end

end Go.Proofs.YtaanoljfhnfjoaaGreatDoor
