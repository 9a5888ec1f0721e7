/- Rows that a function owns, of which every cell has a property: an append leaves other cells as they are. -/
import Derived.Test.YtaanoljfhnfjoaaGreatDoorAP
namespace Go.Proofs.YtaanoljfhnfjoaaGreatDoor
open Go.ChangeShapes Go.WideShapes Go.ChangeAt Go.RowKit
set_option linter.unusedVariables false

/-- a row that is owned; each cell of its block has the property S -/
def OwnS (S : Value → Prop) (w : World) (base : Nat) (e : TypeId) (size : Nat) (v : Value) (n : Nat) (xs : List Value) : Prop :=
  xs.length = n * size ∧ ((v = .slice none 0 0 ∧ n = 0) ∨ ∃ g cap cur, v = .slice (some ⟨g, 0, none⟩) n cap ∧ base ≤ g ∧ Blk w g e cur ∧ n ≤ cap ∧ cap ≤ maxLen ∧ cur.size = cap * size ∧ cur.toList.take (n * size) = xs ∧ ∀ u ∈ cur.toList, S u)
/-- cells without the property, and blocks of other types, are left as they are -/
structure Keeps (S : Value → Prop) (base : Nat) (e : TypeId) (w w' : World) : Prop where
  low : Below base w w'
  size : w.heap.size ≤ w'.heap.size
  cell : ∀ p u, w.cell? p = some u → ¬ S u → w'.cell? p = some u
  blk : ∀ b t cs, Blk w b t cs → t ≠ e → Blk w' b t cs
section
variable {S : Value → Prop} {w w' : World} {base e size n : Nat} {v : Value} {xs : List Value}
theorem OwnS.own (h : OwnS S w base e size v n xs) : w.ownsRow base e size v n xs := by
  refine ⟨h.1, ?_⟩
  rcases h.2 with h1 | ⟨g, cap, cur, h1, h2, h3, h4, h5, h6, h7, _⟩
  · exact .inl h1
  · exact .inr ⟨g, cap, cur, h1, h2, h3, h4, h5, h6, h7⟩
theorem OwnS.keep (h : OwnS S w base e size v n xs) (hb : Below w.heap.size w w') : OwnS S w' base e size v n xs := by
  refine ⟨h.1, ?_⟩
  rcases h.2 with h1 | ⟨g, cap, cur, h1, h2, h3, h4⟩
  · exact .inl h1
  · exact .inr ⟨g, cap, cur, h1, h2, h3.below hb h3.lt, h4⟩
theorem ownS_none (S : Value → Prop) (w : World) (base e size : Nat) : OwnS S w base e size (.slice none 0 0) 0 [] := ⟨by simp, .inl ⟨rfl, rfl⟩⟩
theorem Keeps.old (h : ∀ i, i < w.heap.size → w'.heap[i]? = w.heap[i]?) (hs : w.heap.size ≤ w'.heap.size) (ho : w'.os = w.os) (ht : w'.tape = w.tape) (hp : w'.output = w.output) (hbs : base ≤ w.heap.size) : Keeps S base e w w' :=
  ⟨⟨ho, ht, hp, hs, fun i hi => h i (Nat.lt_of_lt_of_le hi hbs)⟩, hs, fun p u hu _ => (World.cell?_of_block (h _ (World.block_lt_of_cell? w p hu))).trans hu, fun b t cs hb _ => (h b hb.lt).trans hb⟩
theorem zero_mem {z : Array Value} {k : Nat} {u : Value} (h : u ∈ (Builtin.zeroCells z k).toList) : u ∈ z.toList := by
  unfold Builtin.zeroCells at h
  rw [Array.mem_toList_iff, Array.mem_map] at h
  obtain ⟨i, hi, rfl⟩ := h
  rw [Array.mem_range] at hi
  have hz : 0 < z.size := by
    rcases Nat.eq_zero_or_pos z.size with e | e
    · rw [e] at hi; simp at hi
    · exact e
  have hm : i % z.size < z.size := Nat.mod_lt _ hz
  rw [getElem!_pos z _ hm]
  exact Array.mem_toList_iff.2 (Array.getElem_mem hm)
end
section
variable {P : Program}
theorem run_append_S {S : Value → Prop} (w : World) (base : Nat) (t ty e : TypeId) (i : TypeInfo) (z : Value) (size bytes : Nat) (ht : P.underlying t = some (.slice e)) (hi : P.info? e = some i) (hz : i.zero = some z)
    (hsize : i.size = size) (hby : i.bytes = bytes) (hzs : z.cells.size = size) (hsz : 0 < size) (hzS : ∀ u ∈ z.cells.toList, S u)
    (v : Value) (n : Nat) (xs : List Value) (hown : OwnS S w base e size v n xs)
    (a : Addr) (m c : Nat) (news : List Value) (hl : news.length = m * size) (hnews : ∀ j u, news[j]? = some u → w.cell? (a.add j) = some u) (h1 : ∀ u ∈ news, u.oneCell' = true ∧ S u)
    (h63 : n + m ≤ maxLen) (hbytes : (n + m) * bytes ≤ 140737488355328) (hbase : base ≤ w.heap.size) (hm : 0 < m) :
    ∃ v' w', (Builtin.append_ #[t, t] ty #[v, .slice (some a) m c]).run P w = .ok v' w' ∧ OwnS S w' base e size v' (n + m) (xs ++ news) ∧ Keeps S base e w w' ∧ (v'.ownBlock = v.ownBlock ∨ v'.ownBlock = some w.heap.size) := by
  subst hsize
  subst hby
  have hsmall : n + m ≤ 9223372036854775807 := by simp only [maxLen] at h63; omega
  have hlen : (xs ++ news).length = (n + m) * i.size := by rw [List.length_append, hown.1, hl, Nat.add_mul]
  have fresh : ∀ (old : Nat), (∀ u ∈ xs, S u) →
      OwnS S (w.drew.alloc (.cells (xs.toArray ++ news.toArray ++ Builtin.zeroCells z.cells (grownCap w (n + m) old e - (n + m))) e)) base e i.size (.slice (some ⟨w.heap.size, 0, none⟩) (n + m) (grownCap w (n + m) old e)) (n + m) (xs ++ news) ∧
      Keeps S base e w (w.drew.alloc (.cells (xs.toArray ++ news.toArray ++ Builtin.zeroCells z.cells (grownCap w (n + m) old e - (n + m))) e)) := by
    intro old hx
    have hge := grownCap_ge w (n + m) old e
    refine ⟨⟨hlen, .inr ⟨w.heap.size, _, _, rfl, hbase, Blk.new w.drew _ _, hge, grownCap_le_maxLen w (n + m) old e h63, ?_, ?_, ?_⟩⟩, Keeps.old (fun k hk => heap_alloc_old w.drew _ hk) (by simp) rfl rfl rfl hbase⟩
    · rw [Array.size_append, Array.size_append, List.size_toArray, List.size_toArray, size_zeroCells, hzs, hown.1, hl, ← Nat.add_mul, ← Nat.add_mul, Nat.add_sub_cancel' hge]
    · rw [Array.toList_append, Array.toList_append, ← hlen]
      exact List.take_left
    · intro u hu
      rw [Array.toList_append, Array.toList_append, List.mem_append, List.mem_append] at hu
      rcases hu with (hu | hu) | hu
      · exact hx u (by simpa using hu)
      · exact (h1 u (by simpa using hu)).2
      · exact hzS u (zero_mem hu)
  rcases hown.2 with ⟨rfl, rfl⟩ | ⟨g, cap, cur, rfl, hbg, hg, hnc, hcm, hcs, htake, hS⟩
  · have hx : xs = [] := List.eq_nil_of_length_eq_zero (by simpa using hown.1)
    subst hx
    have hr := run_append_nil (P := P) w t ty e i z ht hi hz a m c news hl hnews hm (by omega) (by have hb := hbytes; rw [Nat.zero_add] at hb; omega)
    obtain ⟨f1, f2⟩ := fresh 0 (by simp)
    simp only [Nat.zero_add, List.nil_append, Array.empty_append] at f1 f2 ⊢
    exact ⟨_, _, hr, f1, f2, .inr rfl⟩
  · have hxS : ∀ u ∈ xs, S u := fun u hu => hS u (List.mem_of_mem_take (by rw [htake]; exact hu))
    by_cases hroom : n + m ≤ cap
    · have hfit : n * i.size + news.length ≤ cur.size := by rw [hl, hcs, ← Nat.add_mul]; exact Nat.mul_le_mul_right _ hroom
      have hr := run_append_room (P := P) w t ty e i ht hi g n cap cur hg a m c news hl hnews (fun u hu => (h1 u hu).1) hroom hfit
      have hoth : ∀ k, k ≠ g → (w.setRow g (cur.toList.take (n * i.size) ++ news ++ cur.toList.drop (n * i.size + news.length)).toArray).heap[k]? = w.heap[k]? := fun k hk => setRow_other w g k _ hk
      refine ⟨_, _, hr, ⟨hlen, .inr ⟨g, cap, _, rfl, hbg, setRow_heap w g cur _ e _ hg, hroom, hcm, ?_, ?_, ?_⟩⟩, ⟨⟨rfl, rfl, rfl, by simp, fun k hk => hoth k (by omega)⟩, by simp, fun p u hu hn => ?_, fun b t' cs hb hne => ?_⟩, .inl rfl⟩
      · rw [List.size_toArray, List.length_append, List.length_append, List.length_take, List.length_drop, Array.length_toList]
        omega
      · rw [htake, ← hlen]
        exact List.take_left
      · intro u hu
        rw [List.mem_append, List.mem_append] at hu
        rcases hu with (hu | hu) | hu
        · exact hS u (List.mem_of_mem_take hu)
        · exact (h1 u hu).2
        · exact hS u (List.mem_of_mem_drop hu)
      · have hpg : p.block ≠ g := by
          intro e
          obtain ⟨b, off, sp⟩ := p
          simp only at e
          subst e
          cases sp with
          | none =>
            have := hg.cell off
            rw [this] at hu
            exact hn (hS u (Array.mem_toList_iff.2 (Array.mem_of_getElem? hu)))
          | some s =>
            unfold World.cell? at hu
            rw [show w.heap[b]? = some (.cells cur _ (0, 0)) from hg] at hu
            simp at hu
        exact (World.cell?_of_block (hoth _ hpg)).trans hu
      · have hbg' : b ≠ g := by
          rintro rfl
          have h2 : some (Obj.cells cs t' (0, 0)) = some (Obj.cells cur e (0, 0)) := hb.symm.trans hg
          injection h2 with h2
          injection h2 with _ h2
          exact hne h2
        exact (hoth b hbg').trans hb
    · have holds : ∀ j u, xs[j]? = some u → w.cell? ((⟨g, 0, none⟩ : Addr).add j) = some u := hown.own.cells (g := g) rfl
      have hr := run_append_grow (P := P) w t ty e i z ht hi hz ⟨g, 0, none⟩ n cap xs hown.1 holds a m c news hl hnews (by omega) (by omega) (growslice_fits (by omega) hbytes)
      obtain ⟨f1, f2⟩ := fresh cap hxS
      exact ⟨_, _, hr, f1, f2, .inr rfl⟩
/-- an append of a literal of one element -/
theorem wpList_appS {S : Value → Prop} {ops : Array Oper} {rest : List Oper} {o : Oper} {a : Act} {Q : Exit → Act → World → Prop} {w : World} {lit : Array Value} {T : TypeId} (hgd : o.guard = none) (s x : Operand) (t : TypeId)
    (ho : o.op = .call { callee := .builtin .append, args := #[s, x], argTypes := #[t, t] })
    (base : Nat) (e : TypeId) (i : TypeInfo) (z : Value) (size bytes : Nat) (ht : P.underlying t = some (.slice e)) (hi : P.info? e = some i) (hz : i.zero = some z)
    (hsize : i.size = size) (hby : i.bytes = bytes) (hzs : z.cells.size = size) (hsz : 0 < size) (hzS : ∀ u ∈ z.cells.toList, S u)
    (v : Value) (n : Nat) (xs : List Value) (hs : a.eval s = v) (hown : OwnS S w base e size v n xs)
    (hx : a.eval x = .slice (some ⟨w.heap.size, 0, none⟩) 1 1) (hl : lit.size = size) (h1 : ∀ u ∈ lit.toList, u.oneCell' = true ∧ S u)
    (h63 : n + 1 ≤ maxLen) (hbytes : (n + 1) * bytes ≤ 140737488355328) (hbase : base ≤ w.heap.size)
    (h : ∀ v' w', OwnS S w' base e size v' (n + 1) (xs ++ lit.toList) → Keeps S base e (w.alloc (.cells lit T)) w' → (v'.ownBlock = v.ownBlock ∨ v'.ownBlock = some (w.heap.size + 1)) → wpList P ops Q rest (a.put o.dst v') w') :
    wpList P ops Q (o :: rest) a (w.alloc (.cells lit T)) := by
  refine wpList_plain hgd fun K hK => ?_
  obtain ⟨v', w', hr, h2, h3, h4⟩ := run_append_S (P := P) (w.alloc (.cells lit T)) base t o.type e i z size bytes ht hi hz hsize hby hzs hsz hzS v n xs (hown.keep ((Below.refl _ _).alloc (Nat.le_refl _) _)) ⟨w.heap.size, 0, none⟩ 1 1 lit.toList (by rw [Array.length_toList, hl, Nat.one_mul]) (fun j u hu => by
    rw [Addr.add_lit, Nat.zero_add, (Blk.new w T lit).cell j]
    simpa using hu) h1 h63 hbytes (Nat.le_trans hbase (by simp)) (by decide)
  unfold Oper.wp execOp
  simp only [ho, resolve, invoke, builtin, Sem.run_bind, Sem.run_pure, Result.andThen_ok, List.map_toArray, List.map_cons, List.map_nil, hs, hx, hr]
  exact hK _ _ (h v' w' h2 h3 (by simpa using h4))
end
end Go.Proofs.YtaanoljfhnfjoaaGreatDoor
