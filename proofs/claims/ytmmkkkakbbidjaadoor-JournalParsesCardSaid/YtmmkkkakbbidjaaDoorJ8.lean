/- Groups of events in memory. -/
import Derived.Test.YtmmkkkakbbidjaaDoorJ7
import Derived.Deep.RegionHeldLaw
import Derived.Deep.AppendLies
import Derived.OneCell
namespace Go.Proofs.YtmmkkkakbbidjaaDoor
open Go.ChangeShapes Go.WideShapes Go.ChangeAt Go.RowKit
set_option linter.unusedVariables false

/-- step_append_lies with the destination written out -/
theorem step_app_d {P : Program} {ops : Array Oper} {o : Oper} {a : Act} (w : World) {K : Act → World → Prop} {Q : Exit → Act → World → Prop} {E : Prop} (hgd : o.guard = none) (s x : Operand) (t : TypeId)
    (ho : o.op = .call { callee := .builtin .append, args := #[s, x], argTypes := #[t, t] }) (dd : Nat) (hdd : o.dst = some dd)
    (base : Nat) (e : TypeId) (i : TypeInfo) (z : Value) (size bytes : Nat) (ht : P.underlying t = some (.slice e)) (hi : P.info? e = some i) (hz : i.zero = some z)
    (hsize : i.size = size) (hby : i.bytes = bytes) (hzs : z.cells.size = size) (hsz : 0 < size)
    (v : Value) (n : Nat) (xs : List Value) (hs : a.eval s = v) (hown : w.ownsRow base e size v n xs)
    (ad : Addr) (m c : Nat) (news : List Value) (hx : a.eval x = .slice (some ad) m c) (hl : news.length = m * size) (hnews : ∀ j u, news[j]? = some u → w.cell? (ad.add j) = some u) (h1 : ∀ u ∈ news, u.oneCell' = true)
    (hm : 0 < m) (h63 : n + m ≤ maxLen) (hbytes : (n + m) * bytes ≤ 140737488355328) (hbase : base ≤ w.heap.size)
    (h : ∀ g cap w', w'.ownsRow base e size (.slice (some ⟨g, 0, none⟩) (n + m) cap) (n + m) (xs ++ news) → w.grownBy w' v.ownBlock → (v.ownBlock = some g ∨ g = w.heap.size) → g < w'.heap.size → K (a.put (some dd) (.slice (some ⟨g, 0, none⟩) (n + m) cap)) w') :
    if Region.wanted o (yielded ops a.tmps) = true then Oper.wp P o a w K Q else E :=
  step_append_lies w hgd s x t ho base e i z size bytes ht hi hz hsize hby hzs hsz v n xs hs hown ad m c news hx hl hnews h1 hm h63 hbytes hbase _ rfl fun g cap w' a1 a2 a3 a4 => by rw [hdd]; exact h g cap w' a1 a2 a3 a4

structure Ge where
  val : Value
  evs : List Ev
/-- a slice of slices of events, all of the call's own, no two in one block -/
structure GS (base : Nat) (w : World) (v : Value) (gs : List Ge) : Prop where
  out : w.ownsRow base 22 1 v gs.length (gs.map Ge.val)
  inn : ∀ x ∈ gs, w.ownsRow base 31 4 x.val x.evs.length (x.evs.flatMap Ev.cells)
  sep : ∀ x ∈ gs, ∀ g, x.val.ownBlock = some g → v.ownBlock ≠ some g
  dis : gs.Pairwise fun x y => ∀ g, x.val.ownBlock = some g → y.val.ownBlock ≠ some g
theorem own_block_of {v : Value} : v.ownBlock = none ∨ ∃ g, v.ownBlock = some g := by cases h : v.ownBlock <;> simp
theorem own_up {w w' : World} {base e size n : Nat} {v : Value} {xs : List Value} (h : w.ownsRow base e size v n xs) (hb : Below w.heap.size w w') : w'.ownsRow base e size v n xs :=
  h.kept (row := none) ⟨hb.os, hb.tape, hb.output, hb.size, fun k hk _ => hb.block k hk⟩ (by cases v.ownBlock <;> simp)
theorem own_mono {w : World} {base base' e size n : Nat} {v : Value} {xs : List Value} (h : w.ownsRow base e size v n xs) (hb : base' ≤ base) : w.ownsRow base' e size v n xs :=
  ⟨h.1, h.2.imp id fun ⟨g, cap, cur, h1, h2, h3⟩ => ⟨g, cap, cur, h1, Nat.le_trans hb h2, h3⟩⟩
theorem GS.up {base : Nat} {w w' : World} {v : Value} {gs : List Ge} (h : GS base w v gs) (hb : Below w.heap.size w w') : GS base w' v gs :=
  ⟨own_up h.out hb, fun x hx => own_up (h.inn x hx) hb, h.sep, h.dis⟩
theorem GS.nil (base : Nat) (w : World) : GS base w (.slice none 0 0) [] := ⟨World.ownsRow_nil _ _ _ _, fun x hx => by simp at hx, fun x hx => by simp at hx, .nil⟩

/-- a further group, still empty -/
theorem GS.more {base : Nat} {w w' : World} {v v' : Value} {gs : List Ge} (h : GS base w v gs) (hown : w'.ownsRow base 22 1 v' (gs.length + 1) (gs.map Ge.val ++ [.slice none 0 0])) (hgr : w.grownBy w' v.ownBlock) (hat : v'.ownBlock = v.ownBlock ∨ v'.ownBlock = some w.heap.size) :
    GS base w' v' (gs ++ [⟨.slice none 0 0, []⟩]) := by
  refine ⟨by simpa using hown, fun x hx => ?_, fun x hx g hg => ?_, ?_⟩
  · rcases List.mem_append.1 hx with hx | hx
    · refine (h.inn x hx).kept hgr ?_
      rcases own_block_of (v := x.val) with h1 | ⟨g, h1⟩
      · exact .inl h1
      · exact .inr (by rw [h1]; exact fun e => h.sep x hx g h1 e.symm)
    · rw [List.mem_singleton.1 hx]; exact World.ownsRow_nil _ _ _ _
  · rcases List.mem_append.1 hx with hx | hx
    · rcases hat with h1 | h1
      · rw [h1]; exact h.sep x hx g hg
      · rw [h1]
        have := ((h.inn x hx).lt g hg).2
        intro e; injection e with e; omega
    · rw [List.mem_singleton.1 hx] at hg; simp [Value.ownBlock] at hg
  · rw [List.pairwise_append]
    exact ⟨h.dis, by simp, fun x _ y hy g _ => by rw [List.mem_singleton.1 hy]; simp [Value.ownBlock]⟩
theorem oneCell_slice (a : Option Addr) (n c : Nat) : (Value.slice a n c).oneCell' = true := rfl
/-- the cell of the last group -/
theorem GS.last_cell {base : Nat} {w : World} {v : Value} {gs : List Ge} {x : Ge} (h : GS base w v (gs ++ [x])) : ∃ g0 c0, v = .slice (some ⟨g0, 0, none⟩) (gs.length + 1) c0 ∧ base ≤ g0 ∧ g0 < w.heap.size ∧ gs.length + 1 ≤ c0 ∧ c0 ≤ maxLen ∧ w.cell? ⟨g0, gs.length, none⟩ = some x.val ∧ w.frozen? ⟨g0, gs.length, none⟩ = false := by
  have ho := h.out
  rw [List.length_append] at ho
  simp only [List.length_singleton] at ho
  rcases ho.2 with ⟨_, h0⟩ | ⟨g0, cap, cur, hv, hb, hg, hn, hm, _, _⟩
  · omega
  · have hlt : g0 < w.heap.size := by
      rcases Nat.lt_or_ge g0 w.heap.size with h1 | h1
      · exact h1
      · rw [Array.getElem?_eq_none h1] at hg; cases hg
    refine ⟨g0, cap, hv, hb, hlt, hn, hm, ?_, ?_⟩
    · have ho2 := ho
      rw [hv] at ho2
      rw [ho2.cellAt gs.length (by omega)]
      simp
    · have ho2 := ho
      rw [hv] at ho2
      exact ho2.frozenAt gs.length
/-- the last group grows by an event: its slice is appended to, and stored back -/
theorem GS.push {base : Nat} {w w' : World} {g0 c0 : Nat} {gs : List Ge} {x : Ge} {g cap : Nat} {z : Ev} (h : GS base w (.slice (some ⟨g0, 0, none⟩) (gs.length + 1) c0) (gs ++ [x])) (hown : w'.ownsRow base 31 4 (.slice (some ⟨g, 0, none⟩) (x.evs.length + 1) cap) (x.evs.length + 1) (x.evs.flatMap Ev.cells ++ z.cells)) (hgr : w.grownBy w' x.val.ownBlock) (hat : x.val.ownBlock = some g ∨ g = w.heap.size) :
    GS base (w'.setCell ⟨g0, gs.length, none⟩ (.slice (some ⟨g, 0, none⟩) (x.evs.length + 1) cap)) (.slice (some ⟨g0, 0, none⟩) (gs.length + 1) c0) (gs ++ [⟨.slice (some ⟨g, 0, none⟩) (x.evs.length + 1) cap, x.evs ++ [z]⟩]) := by
  have hg0 : ∀ y ∈ gs ++ [x], ∀ k, y.val.ownBlock = some k → k ≠ g0 := fun y hy k hk e => h.sep y hy k hk (by simp [Value.ownBlock, e])
  have hx0 : x ∈ gs ++ [x] := by simp
  have hgg : g ≠ g0 := by
    rcases hat with h1 | h1
    · exact hg0 x hx0 g h1
    · have hl := (h.out.lt g0 (by simp [Value.ownBlock])).2
      omega
  have hout := h.out
  have hk0 : w'.ownsRow base 22 1 (.slice (some ⟨g0, 0, none⟩) (gs.length + 1) c0) (gs ++ [x]).length ((gs ++ [x]).map Ge.val) := by
    refine hout.kept hgr ?_
    refine .inr (fun e => ?_)
    have e' : x.val.ownBlock = some g0 := by rw [← e]; simp [Value.ownBlock]
    exact hg0 x hx0 g0 e' rfl
  have hdis := List.pairwise_append.1 h.dis
  refine ⟨?_, fun y hy => ?_, fun y hy k hk => ?_, ?_⟩
  · have hk1 : w'.ownsRow base 22 1 (.slice (some ⟨g0, 0, none⟩) (gs.length + 1) c0) (gs.length + 1) ((gs ++ [x]).map Ge.val) := by simpa using hk0
    have h1 := hk1.stored gs.length (.slice (some ⟨g, 0, none⟩) (x.evs.length + 1) cap)
    have e1 : ((gs ++ [x]).map Ge.val).set gs.length (.slice (some ⟨g, 0, none⟩) (x.evs.length + 1) cap) = gs.map Ge.val ++ [.slice (some ⟨g, 0, none⟩) (x.evs.length + 1) cap] := by simp
    rw [e1] at h1
    simpa using h1.1
  · rcases List.mem_append.1 hy with hy | hy
    · have h1 : w'.ownsRow base 31 4 y.val y.evs.length (y.evs.flatMap Ev.cells) := by
        refine (h.inn y (by simp [hy])).kept hgr ?_
        rcases own_block_of (v := y.val) with h2 | ⟨k, h2⟩
        · exact .inl h2
        · exact .inr (by rw [h2]; exact fun e => hdis.2.2 y hy x (by simp) k h2 e.symm)
      refine ownsRow_setCell_other h1 ?_ _
      exact fun e => hg0 y (by simp [hy]) g0 e rfl
    · rw [List.mem_singleton.1 hy]
      have h1 : w'.ownsRow base 31 4 (.slice (some ⟨g, 0, none⟩) (x.evs.length + 1) cap) (x.evs ++ [z]).length ((x.evs ++ [z]).flatMap Ev.cells) := by simpa using hown
      exact ownsRow_setCell_other h1 (by simpa [Value.ownBlock] using hgg) _
  · rcases List.mem_append.1 hy with hy | hy
    · exact h.sep y (by simp [hy]) k hk
    · rw [List.mem_singleton.1 hy] at hk
      simp [Value.ownBlock] at hk ⊢
      omega
  · rw [List.pairwise_append]
    refine ⟨hdis.1, by simp, fun y hy u hu k hk => ?_⟩
    rw [List.mem_singleton.1 hu]
    simp only [Value.ownBlock]
    rcases hat with h1 | h1
    · intro e; simp at e; subst e
      exact hdis.2.2 y hy x (by simp) _ hk h1
    · have := ((h.inn y (by simp [hy])).lt k hk).2
      intro e; simp at e; omega
end Go.Proofs.YtmmkkkakbbidjaaDoor
