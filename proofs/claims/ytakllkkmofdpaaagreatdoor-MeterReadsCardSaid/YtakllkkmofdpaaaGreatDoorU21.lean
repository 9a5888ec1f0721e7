import Derived.Test.YtakllkkmofdpaaaGreatDoorU18
import Derived.Test.YtakllkkmofdpaaaGreatDoorU20
import Derived.Laws.MakeOwn
import Derived.Deep.AppendSrc
import Derived.Deep.Upon
set_option linter.unusedVariables false
set_option linter.unusedSimpArgs false
namespace Go.Proofs.YtakllkkmofdpaaaGreatDoor
section
open Go.ChangeShapes Go.WideShapes Go.ChangeAt Go.RowKit
attribute [local go_sem ↓] execOp_call_val
attribute [local go_sem] callVal_func setCell_drewN alloc_drewN sEq_walk
def textQ (q : Rat) : List UInt8 := textL q.num ++ (if q.den = 1 then [] else 47 :: Lib.decDigits q.den)
def Fits (q : Rat) : Prop := ndg q.num.natAbs ≤ 2000 ∧ ndg q.den ≤ 2000
instance (q : Rat) : Decidable (Fits q) := by unfold Fits; infer_instance
end
section
def negL (l : List UInt8) : Bool := Lib.hasPrefix l [45]
def denL (l : List UInt8) : Nat := if rtI l then dv (rtD l) else 1
def parseQ (l : List UInt8) : Rat := Rat.divInt (rdZ (negL l) (rtN l)) (denL l : Int)
end
section
open Go.ChangeShapes Go.WideShapes Go.ChangeAt Go.RowKit
attribute [local go_sem ↓] execOp_call_val
attribute [local go_sem] callVal_func setCell_drewN alloc_drewN sEq_walk
structure Rv where
 b1 : Bool
 A : Option Addr
 n : Nat
 c : Nat
 b2 : Bool
 A2 : Option Addr
 m : Nat
 d : Nat
def Rv.cells (v : Rv) : List Value := [.bool v.b1, .slice v.A v.n v.c, .bool v.b2, .slice v.A2 v.m v.d]
def rv0 : Rv := ⟨false, none, 0, 0, false, none, 0, 0⟩
def RtV (w : World) (B : Nat) (q : Rat) (v : Rv) : Prop := RtIs w B q v.b1 v.A v.n v.c v.b2 v.A2 v.m v.d
theorem Rv.len (v : Rv) : v.cells.length = 4 := rfl
def rvs (vs : List Rv) : List Value := vs.flatMap Rv.cells
theorem rvs_len (vs : List Rv) : (rvs vs).length = vs.length * 4 := flat_len Rv.len vs
theorem rvs_at {vs : List Rv} {i : Nat} {v : Rv} (h : vs[i]? = some v) (k : Nat) (hk : k < 4) : (rvs vs)[i * 4 + k]? = v.cells[k]? := flat_at Rv.len vs i v h k hk
theorem rvs_set : ∀ (vs : List Rv) (i : Nat) (v : Rv), i < vs.length → ((((rvs vs).set (i * 4) (.bool v.b1)).set (i * 4 + 1) (.slice v.A v.n v.c)).set (i * 4 + 2) (.bool v.b2)).set (i * 4 + 3) (.slice v.A2 v.m v.d) = rvs (vs.set i v)
 | [], i, v, h => by simp at h
 | x :: r, 0, v, _ => by simp [rvs, Rv.cells]
 | x :: r, i + 1, v, h => by
  have ih := rvs_set r i v (by simpa using h)
  have e : rvs (x :: r) = x.cells ++ rvs r := by simp [rvs]
  have e2 : rvs ((x :: r).set (i + 1) v) = x.cells ++ rvs (r.set i v) := by simp [rvs]
  have st : ∀ (l : List Value) (k : Nat) (u : Value), (x.cells ++ l).set (k + 4) u = x.cells ++ l.set k u := fun l k u => by
   rw [List.set_append_right _ _ (by rw [Rv.len]; omega), Rv.len, Nat.add_sub_cancel]
  rw [e, e2, ← ih, show (i + 1) * 4 = i * 4 + 4 from by omega, show i * 4 + 4 + 1 = i * 4 + 1 + 4 from by omega, show i * 4 + 4 + 2 = i * 4 + 2 + 4 from by omega, show i * 4 + 4 + 3 = i * 4 + 3 + 4 from by omega, st, st, st, st]
theorem rvs_rep : ∀ n : Nat, rvs (List.replicate n rv0) = (List.replicate n rv0.cells).flatten
 | 0 => rfl
 | n + 1 => by
  rw [List.replicate_succ, List.replicate_succ, List.flatten_cons, ← rvs_rep n]
  simp [rvs]
theorem rv_cell {w : World} {g t i : Nat} {vs : List Rv} {v : Rv} (h : Blk w g t (rvs vs).toArray) (hv : vs[i]? = some v) : w.cell? ⟨g, i * 4, none⟩ = some (.bool v.b1) ∧ w.cell? ⟨g, i * 4 + 1, none⟩ = some (.slice v.A v.n v.c) ∧ w.cell? ⟨g, i * 4 + 2, none⟩ = some (.bool v.b2) ∧ w.cell? ⟨g, i * 4 + 3, none⟩ = some (.slice v.A2 v.m v.d) := by
 have k := fun j hj => rvs_at hv j hj
 refine ⟨?_, ?_, ?_, ?_⟩ <;> rw [h.cell]
 ·have := k 0 (by decide); simpa [Rv.cells] using this
 ·have := k 1 (by decide); simpa [Rv.cells] using this
 ·have := k 2 (by decide); simpa [Rv.cells] using this
 ·have := k 3 (by decide); simpa [Rv.cells] using this
theorem RtIs.keep4 {w : World} {q : Rat} {b1 : Bool} {A : Option Addr} {n c : Nat} {b2 : Bool} {A2 : Option Addr} {m d : Nat} (h : RtIs w w.heap.size q b1 A n c b2 A2 m d) {g t i : Nat} {vs : List Rv} {x v : Rv} (hb : Blk w g t (rvs vs).toArray) (hx : vs[i]? = some x) :
    RtIs ((((w.setCell ⟨g, i * 4, none⟩ (.bool v.b1)).setCell ⟨g, i * 4 + 1, none⟩ (.slice v.A v.n v.c)).setCell ⟨g, i * 4 + 2, none⟩ (.bool v.b2)).setCell ⟨g, i * 4 + 3, none⟩ (.slice v.A2 v.m v.d)) ((((w.setCell ⟨g, i * 4, none⟩ (.bool v.b1)).setCell ⟨g, i * 4 + 1, none⟩ (.slice v.A v.n v.c)).setCell ⟨g, i * 4 + 2, none⟩ (.bool v.b2)).setCell ⟨g, i * 4 + 3, none⟩ (.slice v.A2 v.m v.d)).heap.size q b1 A n c b2 A2 m d := by
 obtain ⟨c0, c1, c2, c3⟩ := rv_cell hb hx
 have ne : ∀ (a b : Nat), a ≠ b → (⟨g, a, none⟩ : Addr) ≠ ⟨g, b, none⟩ := fun a b h e => h (by injection e)
 have off : ∀ (w : World) (a b : Nat) (u v : Value), a ≠ b → w.cell? ⟨g, b, none⟩ = some v → (w.setCell ⟨g, a, none⟩ u).cell? ⟨g, b, none⟩ = some v := fun w a b u v hab hv => by
  rw [World.cell?_setCell_other _ _ _ _ (ne a b hab)]; exact hv
 refine (((h.keep c0 (by simp) _).keep (off _ _ _ _ _ (by omega) c1) (by simp) _).keep (off _ _ _ _ _ (by omega) (off _ _ _ _ _ (by omega) c2)) (by simp) _).keep (off _ _ _ _ _ (by omega) (off _ _ _ _ _ (by omega) (off _ _ _ _ _ (by omega) c3))) (by simp) _
def RdQ (w : World) (B : Nat) (A : Option Addr) (n : Nat) (qs : List Rat) : Prop := ∃ vs : List Rv, vs.length = n ∧ qs.length = n ∧ Rd w B 4 A n (rvs vs) ∧ ∀ (i : Nat) (q : Rat) (v : Rv), qs[i]? = some q → vs[i]? = some v → RtV w B q v
section
variable {w w' : World} {B B' n : Nat} {A : Option Addr} {qs : List Rat}
theorem RdQ.below (h : RdQ w B A n qs) (hb : Below B' w w') (hB : B ≤ B') : RdQ w' B A n qs := by
 obtain ⟨vs, h1, h2, h3, h4⟩ := h
 exact ⟨vs, h1, h2, h3.below hb hB, fun i q v hq hv => RtIs.below (h4 i q v hq hv) hb hB⟩
theorem RdQ.more (h : RdQ w B A n qs) (hB : B ≤ B') : RdQ w B' A n qs := by
 obtain ⟨vs, h1, h2, h3, h4⟩ := h
 exact ⟨vs, h1, h2, h3.more hB, fun i q v hq hv => RtIs.more (h4 i q v hq hv) hB⟩
theorem RdQ.up (h : RdQ w w.heap.size A n qs) (hb : Below w.heap.size w w') : RdQ w' w'.heap.size A n qs := (h.below hb (Nat.le_refl _)).more hb.size
theorem RdQ.len (h : RdQ w B A n qs) : qs.length = n := by obtain ⟨_, _, h, _⟩ := h; exact h
theorem RdQ.form (h : RdQ w B A n qs) (h0 : 0 < n) : ∃ b off, A = some ⟨b, off, none⟩ ∧ b < B := by
 obtain ⟨vs, _, _, h3, _⟩ := h
 obtain ⟨b, off, e, hlt, _⟩ := h3.2 h0
 exact ⟨b, off, e, hlt⟩
theorem RdQ.at_ {b off i : Nat} {q : Rat} (h : RdQ w B (some ⟨b, off, none⟩) n qs) (hq : qs[i]? = some q) : ∃ v : Rv, w.cell? ⟨b, off + i * 4, none⟩ = some (.bool v.b1) ∧ w.cell? ⟨b, off + i * 4 + 1, none⟩ = some (.slice v.A v.n v.c) ∧ w.cell? ⟨b, off + i * 4 + 2, none⟩ = some (.bool v.b2) ∧ w.cell? ⟨b, off + i * 4 + 3, none⟩ = some (.slice v.A2 v.m v.d) ∧ RtV w B q v := by
 obtain ⟨vs, h1, h2, h3, h4⟩ := h
 have hi := (List.getElem?_eq_some_iff.1 hq).1
 obtain ⟨v, hv⟩ : ∃ v, vs[i]? = some v := ⟨_, List.getElem?_eq_getElem (by omega)⟩
 obtain ⟨b', off', e, _, hc⟩ := h3.2 (by omega)
 injection e with e
 injection e with e1 e2
 subst e1; subst e2
 have k := fun j hj => rvs_at hv j hj
 refine ⟨v, ?_, ?_, ?_, ?_, h4 i q v hq hv⟩
 ·have := hc (i * 4) (.bool v.b1) (by have := k 0 (by decide); simpa [Rv.cells] using this); exact this
 ·have := hc (i * 4 + 1) (.slice v.A v.n v.c) (by have := k 1 (by decide); simpa [Rv.cells] using this); exact this
 ·have := hc (i * 4 + 2) (.bool v.b2) (by have := k 2 (by decide); simpa [Rv.cells] using this); exact this
 ·have := hc (i * 4 + 3) (.slice v.A2 v.m v.d) (by have := k 3 (by decide); simpa [Rv.cells] using this); exact this
end
theorem info_rat : (Tryz.prog.info? 93).map (fun i => (i.zero, i.size, i.bytes)) = some (some (.agg #[.bool false, .slice none 0 0, .bool false, .slice none 0 0]), 4, 64) := by kernel_rfl
theorem made4 (n : Nat) : madeCells #[Value.bool false, .slice none 0 0, .bool false, .slice none 0 0] (n * 4) = (rvs (List.replicate n rv0)).toArray := by
 apply Array.ext'
 rw [List.toList_toArray, rvs_rep]
 apply List.ext_getElem?
 intro j
 by_cases hj : j < n * 4
 ·have h1 : (madeCells #[Value.bool false, .slice none 0 0, .bool false, .slice none 0 0] (n * 4)).toList[j]? = some (#[Value.bool false, .slice none 0 0, .bool false, .slice none 0 0][j % 4]!) := by
   simp [madeCells, hj]
  have h2 : (rvs (List.replicate n rv0))[j / 4 * 4 + j % 4]? = rv0.cells[j % 4]? := rvs_at (by rw [List.getElem?_replicate, if_pos (by omega)]) _ (by omega)
  rw [Nat.div_add_mod' j 4, rvs_rep] at h2
  rw [h1, h2]
  have : j % 4 = 0 ∨ j % 4 = 1 ∨ j % 4 = 2 ∨ j % 4 = 3 := by omega
  rcases this with e | e | e | e <;> rw [e] <;> rfl
 ·rw [List.getElem?_eq_none (by simp [madeCells]; omega), List.getElem?_eq_none (by rw [← rvs_rep, rvs_len, List.length_replicate]; omega)]
theorem make_rat (n : Nat) (hn : n ≤ 1000000) (w : World) : (Instr.makeSlice 103 (.int .i64 (n : Int)) (.int .i64 (n : Int))).run Tryz.prog w = .ok (.slice (some ⟨w.heap.size, 0, none⟩) n n) (w.alloc (.cells (rvs (List.replicate n rv0)).toArray 93)) := by
 obtain ⟨i0, hi0, hz0, hz1, hz2⟩ := info_parts info_rat
 rw [run_make w 103 93 i0 _ Tryz.underlying103 hi0 hz0 .i64 .i64 (n : Int) (n : Int) (by omega) (Int.le_refl _) (by rw [hz2]; omega) (by omega), Int.toNat_natCast, hz1]
 rw [show (Value.agg #[Value.bool false, .slice none 0 0, .bool false, .slice none 0 0]).cells = #[Value.bool false, .slice none 0 0, .bool false, .slice none 0 0] from rfl, made4]
def ckAllR : List ByteArray → Int
 | [] => 0
 | s :: r => if ratCk s.data.toList = 0 then ckAllR r else ratCk s.data.toList
end
section
open Go.ChangeShapes Go.WideShapes Go.ChangeAt Go.RowKit
attribute [local go_sem ↓] execOp_call_val
attribute [local go_sem] callVal_func setCell_drewN alloc_drewN sEq_walk
def RvOk (w : World) (vs : List Rv) (qs : List Rat) : Prop := ∀ (i : Nat) (q : Rat) (v : Rv), qs[i]? = some q → vs[i]? = some v → RtV w w.heap.size q v
theorem RvOk.up {w w' : World} {vs : List Rv} {qs : List Rat} (h : RvOk w vs qs) (hb : Below w.heap.size w w') : RvOk w' vs qs := fun i q v hq hv => RtIs.up (h i q v hq hv) hb
def putV (w : World) (g i : Nat) (v : Rv) : World := (((w.setCell ⟨g, i * 4, none⟩ (.bool v.b1)).setCell ⟨g, i * 4 + 1, none⟩ (.slice v.A v.n v.c)).setCell ⟨g, i * 4 + 2, none⟩ (.bool v.b2)).setCell ⟨g, i * 4 + 3, none⟩ (.slice v.A2 v.m v.d)
theorem RvOk.put {w : World} {g t i : Nat} {vs us : List Rv} {qs qs' : List Rat} {q : Rat} {v x : Rv} (h : RvOk w us qs) (hb : Blk w g t (rvs vs).toArray) (hx : vs[i]? = some x) (hv : RtV w w.heap.size q v) (hq : ∀ (j : Nat) (q' : Rat), qs'[j]? = some q' → (j = i ∧ q' = q) ∨ (j ≠ i ∧ qs[j]? = some q')) : RvOk (putV w g i v) (us.set i v) qs' := by
 intro j q' v' hq' hv'
 rcases hq j q' hq' with ⟨rfl, rfl⟩ | ⟨hne, hq0⟩
 ·rw [List.getElem?_set_self'] at hv'
  obtain ⟨_, _, e⟩ := Option.map_eq_some_iff.1 hv'
  subst e
  exact RtIs.keep4 hv hb hx
 ·rw [List.getElem?_set_ne (by omega)] at hv'
  exact RtIs.keep4 (h j q' v' hq0 hv') hb hx
theorem below_putV {a w : World} {B g i : Nat} {v : Rv} (h : Below B a w) (hg : B ≤ g) : Below B a (putV w g i v) := (((h.setCell hg _).setCell hg _).setCell hg _).setCell hg _
def qOf (s : ByteArray) : Rat := parseQ s.data.toList
theorem take_snoc {α : Type} {l : List α} {k : Nat} {x : α} (h : l[k]? = some x) : l.take (k + 1) = l.take k ++ [x] := by
 rw [List.take_add_one, h]; rfl
def txtQ (q : Rat) : ByteArray := ⟨(textQ q).toArray⟩
end
section
open Go.ChangeShapes Go.WideShapes Go.ChangeAt Go.RowKit Go.Joins
section
variable {P : Program}
theorem Keeps.refl (S : Value → Prop) (base : Nat) (e : TypeId) (w : World) : Keeps S base e w w := ⟨Below.refl _ _, Nat.le_refl _, fun _ _ h _ => h, fun _ _ _ h _ => h⟩
theorem OwnS.shape {S : Value → Prop} {w : World} {base e size n : Nat} {v : Value} {xs : List Value} (h : OwnS S w base e size v n xs) : ∃ A c, v = .slice A n c ∧ n ≤ c ∧ c ≤ maxLen := by
 rcases h.2 with ⟨h1, h2⟩ | ⟨g, cap, cur, h1, h2, h3, h4, h5, h6⟩
 ·subst h2; exact ⟨none, 0, h1, Nat.le_refl _, by simp [maxLen]⟩
 ·exact ⟨_, cap, h1, h4, h5⟩
theorem run_append_rd {S : Value → Prop} (w : World) (base : Nat) (t ty e : TypeId) (i : TypeInfo) (z : Value) (size bytes : Nat) (ht : P.underlying t = some (.slice e)) (hi : P.info? e = some i) (hz : i.zero = some z)
    (hsize : i.size = size) (hby : i.bytes = bytes) (hzs : z.cells.size = size) (hsz : 0 < size) (hzS : ∀ u ∈ z.cells.toList, S u)
    (v : Value) (n : Nat) (xs : List Value) (hown : OwnS S w base e size v n xs)
    (A : Option Addr) (m c : Nat) (news : List Value) (hr : Rd w w.heap.size size A m news) (h1 : ∀ u ∈ news, u.oneCell' = true ∧ S u)
    (h63 : n + m ≤ maxLen) (hbytes : (n + m) * bytes ≤ 140737488355328) (hbase : base ≤ w.heap.size) :
    ∃ v' w', (Builtin.append_ #[t, t] ty #[v, .slice A m c]).run P w = .ok v' w' ∧ OwnS S w' base e size v' (n + m) (xs ++ news) ∧ Keeps S base e w w' ∧ (v = .slice none 0 0 → Below w.heap.size w w' ∧ OwnS S w' w.heap.size e size v' (n + m) (xs ++ news)) ∧ (v'.ownBlock = v.ownBlock ∨ v'.ownBlock = some w.heap.size) := by
 rcases Nat.eq_zero_or_pos m with rfl | h0
 ·have hn : news = [] := List.eq_nil_of_length_eq_zero (by simpa using hr.1)
  subst hn
  obtain ⟨A1, c1, rfl, hc, hc2⟩ := hown.shape
  have hsrc : Src P i.size t (.slice A 0 c) 0 [] w := by
   cases A with
   | none => exact Src.ofNil w ht c
   | some ad => exact Src.ofSlice w ht ad 0 c [] (by simp) (fun j u hu => by simp at hu) (fun u hu => by cases hu)
  refine ⟨_, w, run_append_nothing (P := P) w t t ty e i ht hi A1 n c1 hc (.slice A 0 c) hsrc, by rw [List.append_nil]; exact hown, Keeps.refl _ _ _ _, fun hv => ⟨Below.refl _ _, ?_⟩, .inl rfl⟩
  injection hv with a1 a2 a3
  subst a1; subst a2; subst a3
  rw [List.append_nil]
  exact ⟨hown.1, .inl ⟨rfl, rfl⟩⟩
 ·obtain ⟨b, off, rfl, hb, hc⟩ := hr.2 h0
  by_cases hv : v = .slice none 0 0
  ·subst hv
   have hown2 : OwnS S w w.heap.size e size (.slice none 0 0) n xs := by
    refine ⟨hown.1, ?_⟩
    rcases hown.2 with h | ⟨g, cap, cur, h, _⟩
    ·exact .inl h
    ·cases h
   obtain ⟨v', w', g1, g2, g3, g4⟩ := run_append_S (P := P) w w.heap.size t ty e i z size bytes ht hi hz hsize hby hzs hsz hzS _ n xs hown2 ⟨b, off, none⟩ m c news hr.1 (fun j u hu => by rw [Addr.add_lit]; exact hc j u hu) h1 h63 hbytes (Nat.le_refl _) h0
   refine ⟨v', w', g1, ⟨g2.1, ?_⟩, ⟨⟨g3.low.os, g3.low.tape, g3.low.output, g3.low.size, fun k hk => g3.low.block k (Nat.lt_of_lt_of_le hk hbase)⟩, g3.size, g3.cell, g3.blk⟩, fun _ => ⟨g3.low, g2⟩, g4⟩
   exact g2.2.imp id fun ⟨g, cap, cur, k1, k2, k3⟩ => ⟨g, cap, cur, k1, Nat.le_trans hbase k2, k3⟩
  ·obtain ⟨v', w', g1, g2, g3, g4⟩ := run_append_S (P := P) w base t ty e i z size bytes ht hi hz hsize hby hzs hsz hzS v n xs hown ⟨b, off, none⟩ m c news hr.1 (fun j u hu => by rw [Addr.add_lit]; exact hc j u hu) h1 h63 hbytes hbase h0
   exact ⟨v', w', g1, g2, g3, fun h => absurd h hv, g4⟩
theorem wp_appR {S : Value → Prop} {o : Oper} {a : Act} {w : World} {K : Act → World → Prop} {Q : Exit → Act → World → Prop} (s x : Operand) (t : TypeId)
    (ho : o.op = .call { callee := .builtin .append, args := #[s, x], argTypes := #[t, t] })
    (base : Nat) (e : TypeId) (i : TypeInfo) (z : Value) (size bytes : Nat) (ht : P.underlying t = some (.slice e)) (hi : P.info? e = some i) (hz : i.zero = some z)
    (hsize : i.size = size) (hby : i.bytes = bytes) (hzs : z.cells.size = size) (hsz : 0 < size) (hzS : ∀ u ∈ z.cells.toList, S u)
    (v : Value) (n : Nat) (xs : List Value) (hs : a.eval s = v) (hown : OwnS S w base e size v n xs)
    (A : Option Addr) (m c : Nat) (news : List Value) (hx : a.eval x = .slice A m c) (hr : Rd w w.heap.size size A m news) (h1 : ∀ u ∈ news, u.oneCell' = true ∧ S u)
    (h63 : n + m ≤ maxLen) (hbytes : (n + m) * bytes ≤ 140737488355328) (hbase : base ≤ w.heap.size)
    (h : ∀ v' w', OwnS S w' base e size v' (n + m) (xs ++ news) → Keeps S base e w w' → (v = .slice none 0 0 → Below w.heap.size w w' ∧ OwnS S w' w.heap.size e size v' (n + m) (xs ++ news)) → (v'.ownBlock = v.ownBlock ∨ v'.ownBlock = some w.heap.size) → K (a.put o.dst v') w') :
    o.wp P a w K Q := by
 obtain ⟨v', w', g1, g2, g3, g4, g5⟩ := run_append_rd (P := P) w base t o.type e i z size bytes ht hi hz hsize hby hzs hsz hzS v n xs hown A m c news hr h1 h63 hbytes hbase
 unfold Oper.wp execOp
 simp only [ho, resolve, invoke, builtin, Sem.run_bind, Sem.run_pure, Result.andThen_ok, List.map_toArray, List.map_cons, List.map_nil, hs, hx, g1]
 exact h v' w' g2 g3 g4 g5
theorem wpList_appR {S : Value → Prop} {ops : Array Oper} {rest : List Oper} {o : Oper} {a : Act} {Q : Exit → Act → World → Prop} {w : World} (hgd : o.guard = none) (s x : Operand) (t : TypeId)
    (ho : o.op = .call { callee := .builtin .append, args := #[s, x], argTypes := #[t, t] })
    (base : Nat) (e : TypeId) (i : TypeInfo) (z : Value) (size bytes : Nat) (ht : P.underlying t = some (.slice e)) (hi : P.info? e = some i) (hz : i.zero = some z)
    (hsize : i.size = size) (hby : i.bytes = bytes) (hzs : z.cells.size = size) (hsz : 0 < size) (hzS : ∀ u ∈ z.cells.toList, S u)
    (v : Value) (n : Nat) (xs : List Value) (hs : a.eval s = v) (hown : OwnS S w base e size v n xs)
    (A : Option Addr) (m c : Nat) (news : List Value) (hx : a.eval x = .slice A m c) (hr : Rd w w.heap.size size A m news) (h1 : ∀ u ∈ news, u.oneCell' = true ∧ S u)
    (h63 : n + m ≤ maxLen) (hbytes : (n + m) * bytes ≤ 140737488355328) (hbase : base ≤ w.heap.size)
    (h : ∀ v' w', OwnS S w' base e size v' (n + m) (xs ++ news) → Keeps S base e w w' → (v = .slice none 0 0 → Below w.heap.size w w' ∧ OwnS S w' w.heap.size e size v' (n + m) (xs ++ news)) → (v'.ownBlock = v.ownBlock ∨ v'.ownBlock = some w.heap.size) → wpList P ops Q rest (a.put o.dst v') w') :
    wpList P ops Q (o :: rest) a w := by
 refine wpList_plain hgd fun K hK => ?_
 exact wp_appR s x t ho base e i z size bytes ht hi hz hsize hby hzs hsz hzS v n xs hs hown A m c news hx hr h1 h63 hbytes hbase fun v' w' a1 a2 a3 a4 => hK _ _ (h v' w' a1 a2 a3 a4)
end
def NoI (u : Value) : Prop := ∀ k x, u ≠ .int k x
theorem RtV.keeps {w w' : World} {base e : Nat} {q : Rat} {v : Rv} (h : RtV w w.heap.size q v) (k : Keeps NoI base e w w') : RtV w' w'.heap.size q v := by
 have key : ∀ {A : Option Addr} {n : Nat} {l : List Nat}, RdW w w.heap.size A n l → RdW w' w'.heap.size A n l := fun h => ⟨h.1, fun hn => by
  obtain ⟨b, off, e, hlt, hc⟩ := h.2 hn
  refine ⟨b, off, e, Nat.lt_of_lt_of_le hlt k.size, fun j u hu => k.cell _ _ (hc j u hu) ?_⟩
  obtain ⟨x, rfl⟩ := u32_int hu
  exact fun hno => hno _ _ rfl⟩
 exact ⟨⟨h.num.eb, h.num.en, key h.num.rd, h.num.nc, h.num.cm⟩, ⟨h.den.eb, h.den.en, key h.den.rd, h.den.nc, h.den.cm⟩⟩
structure OwnQ (w : World) (base : Nat) (v : Value) (vs : List Rv) (qs : List Rat) : Prop where
 own : OwnS NoI w base 93 4 v vs.length (rvs vs)
 len : vs.length = qs.length
 ok : RvOk w vs qs
theorem OwnQ.keep {w w' : World} {base : Nat} {v : Value} {vs : List Rv} {qs : List Rat} (h : OwnQ w base v vs qs) (hb : Below w.heap.size w w') : OwnQ w' base v vs qs := ⟨h.own.keep hb, h.len, h.ok.up hb⟩
theorem ownQ_none (w : World) (base : Nat) : OwnQ w base (.slice none 0 0) [] [] := ⟨ownS_none _ _ _ _ _, rfl, fun i q v h => by simp at h⟩
theorem rv_noI (v : Rv) : ∀ u ∈ v.cells, u.oneCell' = true ∧ NoI u := fun u hu => by
 simp [Rv.cells] at hu
 rcases hu with rfl | rfl | rfl | rfl <;> exact ⟨rfl, fun k x h => by cases h⟩
theorem OwnQ.app {w w' : World} {base : Nat} {v v' : Value} {vs : List Rv} {qs : List Rat} {u : Rv} {q : Rat} (h : OwnQ w base v vs qs) (hq : RtV w w.heap.size q u) (h2 : OwnS NoI w' base 93 4 v' (vs.length + 1) (rvs vs ++ u.cells)) (hk : Keeps NoI base 93 w w') : OwnQ w' base v' (vs ++ [u]) (qs ++ [q]) := by
 refine ⟨by rw [List.length_append, List.length_singleton]; simpa [rvs] using h2, by rw [List.length_append, List.length_append, h.len]; rfl, fun i p x hp hx => ?_⟩
 by_cases hi : i < qs.length
 ·rw [List.getElem?_append_left hi] at hp
  rw [List.getElem?_append_left (by rw [h.len]; exact hi)] at hx
  exact (h.ok i p x hp hx).keeps hk
 ·rw [List.getElem?_append_right (by omega)] at hp
  rw [List.getElem?_append_right (by rw [h.len]; omega), h.len] at hx
  have hi2 := (List.getElem?_eq_some_iff.1 hp).1
  rw [List.length_singleton] at hi2
  have : i - qs.length = 0 := by omega
  rw [this] at hp hx
  simp at hp hx
  subst hp; subst hx
  exact RtV.keeps hq hk
theorem OwnQ.rd {w : World} {base : Nat} {v : Value} {vs : List Rv} {qs : List Rat} (h : OwnQ w base v vs qs) : ∃ A c, v = .slice A qs.length c ∧ RdQ w w.heap.size A qs.length qs ∧ qs.length ≤ c ∧ c ≤ maxLen ∧ (0 < qs.length → ∃ b off, A = some ⟨b, off, none⟩ ∧ base ≤ b) := by
 obtain ⟨A, c, hv, hr, h1, h2, h3⟩ := own_rd h.own.own
 rw [h.len] at hv hr h1 h3
 exact ⟨A, c, hv, ⟨vs, h.len, rfl, hr, h.ok⟩, h1, h2, h3⟩
theorem rat_parts : ∃ i, Tryz.prog.info? 93 = some i ∧ i.zero = some (.agg #[.bool false, .slice none 0 0, .bool false, .slice none 0 0]) ∧ i.size = 4 ∧ i.bytes = 64 := info_parts info_rat
theorem zr_noI : ∀ u ∈ (Value.agg #[.bool false, .slice none 0 0, .bool false, .slice none 0 0]).cells.toList, NoI u := fun u hu => by
 have hu' : u ∈ [Value.bool false, .slice none 0 0, .bool false, .slice none 0 0] := hu
 simp only [List.mem_cons, List.not_mem_nil, or_false] at hu'
 rcases hu' with rfl | rfl | rfl | rfl <;> exact fun k x h => by cases h
end
section
open Go.ChangeShapes Go.WideShapes Go.ChangeAt Go.RowKit
attribute [local go_sem ↓] execOp_call_val
attribute [local go_sem] callVal_func setCell_drewN alloc_drewN sEq_walk
def RnP (q : Rat) (w : World) (e : Ending) (w' : World) : Prop := Below w.heap.size w w' ∧ (Fits q → e = .returned (.tuple #[.string (txtQ q), .int .i64 0])) ∧ (¬ Fits q → e = .returned (.tuple #[.string ⟨#[]⟩, .int .i64 2]))
end
section
open Go.ChangeShapes Go.WideShapes Go.ChangeAt Go.RowKit
structure Hd where
 A : Option Addr
 n : Nat
 c : Nat
def Hd.val (h : Hd) : Value := .slice h.A h.n h.c
def Hd.cells (h : Hd) : List Value := [h.val]
theorem Hd.len (h : Hd) : h.cells.length = 1 := rfl
def RdM (w : World) (B : Nat) (A : Option Addr) (n : Nat) (M : List (List Rat)) : Prop := ∃ hs : List Hd, hs.length = n ∧ M.length = n ∧ Rd w B 1 A n (hs.map Hd.val) ∧ ∀ (i : Nat) (h : Hd) (q : List Rat), hs[i]? = some h → M[i]? = some q → RdQ w B h.A h.n q ∧ h.n ≤ h.c ∧ h.c ≤ maxLen
section
variable {w w' : World} {B B' n : Nat} {A : Option Addr} {M : List (List Rat)}
theorem RdM.below (h : RdM w B A n M) (hb : Below B' w w') (hB : B ≤ B') : RdM w' B A n M := by
 obtain ⟨hs, h1, h2, h3, h4⟩ := h
 exact ⟨hs, h1, h2, h3.below hb hB, fun i h q hq hv => ⟨(h4 i h q hq hv).1.below hb hB, (h4 i h q hq hv).2⟩⟩
theorem RdM.more (h : RdM w B A n M) (hB : B ≤ B') : RdM w B' A n M := by
 obtain ⟨hs, h1, h2, h3, h4⟩ := h
 exact ⟨hs, h1, h2, h3.more hB, fun i h q hq hv => ⟨(h4 i h q hq hv).1.more hB, (h4 i h q hq hv).2⟩⟩
theorem RdM.up (h : RdM w w.heap.size A n M) (hb : Below w.heap.size w w') : RdM w' w'.heap.size A n M := (h.below hb (Nat.le_refl _)).more hb.size
theorem RdM.len (h : RdM w B A n M) : M.length = n := by obtain ⟨_, _, h, _⟩ := h; exact h
theorem RdM.form (h : RdM w B A n M) (h0 : 0 < n) : ∃ b off, A = some ⟨b, off, none⟩ ∧ b < B := by
 obtain ⟨hs, _, _, h3, _⟩ := h
 obtain ⟨b, off, e, hlt, _⟩ := h3.2 h0
 exact ⟨b, off, e, hlt⟩
theorem RdM.at_ {b off i : Nat} {q : List Rat} (h : RdM w B (some ⟨b, off, none⟩) n M) (hq : M[i]? = some q) : ∃ h : Hd, w.cell? ⟨b, off + i, none⟩ = some (.slice h.A h.n h.c) ∧ RdQ w B h.A h.n q ∧ h.n ≤ h.c ∧ h.c ≤ maxLen := by
 obtain ⟨hs, h1, h2, h3, h4⟩ := h
 have hi := (List.getElem?_eq_some_iff.1 hq).1
 obtain ⟨v, hv⟩ : ∃ v, hs[i]? = some v := ⟨_, List.getElem?_eq_getElem (by omega)⟩
 obtain ⟨b', off', e, _, hc⟩ := h3.2 (by omega)
 injection e with e
 injection e with e1 e2
 subst e1; subst e2
 exact ⟨v, hc i _ (by rw [List.getElem?_map, hv]; rfl), h4 i v q hv hq⟩
theorem RdM.take {m : Nat} (h : RdM w B A n M) (hm : m ≤ n) : RdM w B A m (M.take m) := by
 obtain ⟨hs, h1, h2, h3, h4⟩ := h
 refine ⟨hs.take m, by rw [List.length_take, h1]; omega, by rw [List.length_take, h2]; omega, ⟨by simp; omega, fun h0 => ?_⟩, fun j h q hh hq => ?_⟩
 ·obtain ⟨b', off', e, hlt, hc⟩ := h3.2 (by omega)
  refine ⟨b', off', e, hlt, fun j u hu => hc j u ?_⟩
  rw [List.map_take] at hu
  have hj := (List.getElem?_eq_some_iff.1 hu).1
  rw [List.length_take] at hj
  rwa [List.getElem?_take_of_lt (by omega)] at hu
 ·have hj := (List.getElem?_eq_some_iff.1 hh).1
  rw [List.length_take] at hj
  rw [List.getElem?_take_of_lt (by omega)] at hh hq
  exact h4 _ _ _ hh hq
end
structure Mh where
 A : Option Addr
 g : Nat
 c : Nat
 vs : List Rv
def Mh.hd (h : Mh) : Value := .slice h.A h.vs.length h.c
structure MRow (w : World) (base g : Nat) (h : Mh) (q : List Rat) : Prop where
 len : h.vs.length = q.length
 cap : h.vs.length ≤ h.c
 cm : h.c ≤ maxLen
 ok : RvOk w h.vs q
 lies : 0 < q.length → h.A = some ⟨h.g, 0, none⟩ ∧ base ≤ h.g ∧ h.g ≠ g ∧ ∃ cs, Blk w h.g 93 cs ∧ cs.toList.take (q.length * 4) = rvs h.vs
theorem Blk.row_cell {w : World} {g t i m : Nat} {cs : Array Value} {vs : List Rv} {v : Rv} (h : Blk w g t cs) (ht : cs.toList.take m = rvs vs) (hv : vs[i]? = some v) : w.cell? ⟨g, i * 4, none⟩ = some (.bool v.b1) ∧ w.cell? ⟨g, i * 4 + 1, none⟩ = some (.slice v.A v.n v.c) ∧ w.cell? ⟨g, i * 4 + 2, none⟩ = some (.bool v.b2) ∧ w.cell? ⟨g, i * 4 + 3, none⟩ = some (.slice v.A2 v.m v.d) := by
 have hk := fun k (hk : k < 4) => rvs_at hv k hk
 have key : ∀ k, k < 4 → ∀ u, v.cells[k]? = some u → w.cell? ⟨g, i * 4 + k, none⟩ = some u := fun k h4 u hu => by
  rw [h.cell]
  have h1 := hk k h4
  rw [hu, ← ht] at h1
  have h2 := (List.getElem?_eq_some_iff.1 h1).1
  rw [List.length_take] at h2
  rw [List.getElem?_take_of_lt (by omega)] at h1
  simpa using h1
 exact ⟨key 0 (by decide) _ rfl, key 1 (by decide) _ rfl, key 2 (by decide) _ rfl, key 3 (by decide) _ rfl⟩
theorem RtV.keep4 {w : World} {q : Rat} {u : Rv} (h : RtV w w.heap.size q u) {g t i m : Nat} {cs : Array Value} {vs : List Rv} {x : Rv} (v : Rv) (hb : Blk w g t cs) (ht : cs.toList.take m = rvs vs) (hx : vs[i]? = some x) : RtV (putV w g i v) (putV w g i v).heap.size q u := by
 obtain ⟨c0, c1, c2, c3⟩ := hb.row_cell ht hx
 have ne : ∀ (a b : Nat), a ≠ b → (⟨g, a, none⟩ : Addr) ≠ ⟨g, b, none⟩ := fun a b h e => h (by injection e)
 have off : ∀ (w : World) (a b : Nat) (u v : Value), a ≠ b → w.cell? ⟨g, b, none⟩ = some v → (w.setCell ⟨g, a, none⟩ u).cell? ⟨g, b, none⟩ = some v := fun w a b u v hab hv => by
  rw [World.cell?_setCell_other _ _ _ _ (ne a b hab)]; exact hv
 have h' : RtIs w w.heap.size q u.b1 u.A u.n u.c u.b2 u.A2 u.m u.d := h
 exact (((h'.keep c0 (by simp) _).keep (off _ _ _ _ _ (by omega) c1) (by simp) _).keep (off _ _ _ _ _ (by omega) (off _ _ _ _ _ (by omega) c2)) (by simp) _).keep (off _ _ _ _ _ (by omega) (off _ _ _ _ _ (by omega) (off _ _ _ _ _ (by omega) c3))) (by simp) _
theorem Blk.far4 {w : World} {g g' t i : Nat} {cs : Array Value} (v : Rv) (h : Blk w g' t cs) (hg : g' ≠ g) : Blk (putV w g i v) g' t cs := (((h.far hg _).far hg _).far hg _).far hg _
theorem take_set {α : Type} (l : List α) (m k : Nat) (u : α) (hk : k < m) : (l.set k u).take m = (l.take m).set k u := by
 apply List.ext_getElem?
 intro j
 by_cases hj : j < m
 ·rw [List.getElem?_take_of_lt hj, List.getElem?_set, List.getElem?_set, List.getElem?_take_of_lt hj, List.length_take]
  by_cases h1 : k = j
  ·subst h1
   rw [if_pos rfl, if_pos rfl]
   split <;> split <;> first | rfl | omega
  ·simp [h1]
 ·rw [List.getElem?_eq_none (by simp; omega), List.getElem?_eq_none (by simp; omega)]
theorem Blk.row_put {w : World} {g t i n : Nat} {cs : Array Value} {vs : List Rv} (v : Rv) (h : Blk w g t cs) (ht : cs.toList.take (n * 4) = rvs vs) (hn : vs.length = n) (hi : i < n) : ∃ cs', Blk (putV w g i v) g t cs' ∧ cs'.toList.take (n * 4) = rvs (vs.set i v) := by
 refine ⟨_, (((h.set_ (i * 4) (.bool v.b1)).set_ (i * 4 + 1) (.slice v.A v.n v.c)).set_ (i * 4 + 2) (.bool v.b2)).set_ (i * 4 + 3) (.slice v.A2 v.m v.d), ?_⟩
 rw [← rvs_set vs i v (by omega), ← ht]
 simp only [Array.toList_setIfInBounds]
 rw [take_set _ _ _ _ (by omega), take_set _ _ _ _ (by omega), take_set _ _ _ _ (by omega), take_set _ _ _ _ (by omega)]
section
variable {w w' : World} {base g : Nat} {h : Mh} {q : List Rat}
theorem MRow.up (r : MRow w base g h q) (hb : Below w.heap.size w w') : MRow w' base g h q :=
 ⟨r.len, r.cap, r.cm, r.ok.up hb, fun h0 => by
  obtain ⟨h1, h2, h3, cs, h4, h5⟩ := r.lies h0
  exact ⟨h1, h2, h3, cs, h4.below hb h4.lt, h5⟩⟩
theorem mrow_nil (w : World) (base g g' : Nat) (A : Option Addr) (c : Nat) (hc : c ≤ maxLen) : MRow w base g ⟨A, g', c, []⟩ [] :=
 ⟨rfl, Nat.zero_le _, hc, fun i q v h => by simp at h, fun h => by simp at h⟩
theorem MRow.rd (r : MRow w base g h q) : RdQ w w.heap.size h.A q.length q := by
 refine ⟨h.vs, r.len, rfl, ⟨by rw [rvs_len, r.len], fun h0 => ?_⟩, r.ok⟩
 obtain ⟨h1, h2, h3, cs, h4, h5⟩ := r.lies h0
 refine ⟨h.g, 0, h1, h4.lt, fun j u hu => ?_⟩
 rw [Nat.zero_add, h4.cell j]
 rw [← h5] at hu
 have hj := (List.getElem?_eq_some_iff.1 hu).1
 rw [List.length_take] at hj
 rw [List.getElem?_take_of_lt (by omega)] at hu
 simpa using hu
end
structure OwnM (w : World) (base g : Nat) (hs : List Mh) (M : List (List Rat)) : Prop where
 top : Blk w g 103 (hs.map Mh.hd).toArray
 len : hs.length = M.length
 gb : base ≤ g
 row : ∀ (i : Nat) (h : Mh) (q : List Rat), hs[i]? = some h → M[i]? = some q → MRow w base g h q
 dis : ∀ (i j : Nat) (h h' : Mh), i ≠ j → hs[i]? = some h → hs[j]? = some h' → 0 < h.vs.length → 0 < h'.vs.length → h.g ≠ h'.g
section
variable {w w' : World} {base g : Nat} {hs : List Mh} {M : List (List Rat)}
theorem OwnM.up (o : OwnM w base g hs M) (hb : Below w.heap.size w w') : OwnM w' base g hs M :=
 ⟨o.top.below hb o.top.lt, o.len, o.gb, fun i h q hh hq => (o.row i h q hh hq).up hb, o.dis⟩
theorem OwnM.get (o : OwnM w base g hs M) {i : Nat} {q : List Rat} (hq : M[i]? = some q) : ∃ h, hs[i]? = some h ∧ w.cell? ⟨g, i, none⟩ = some (.slice h.A q.length h.c) ∧ MRow w base g h q := by
 obtain ⟨h, hh⟩ : ∃ h, hs[i]? = some h := ⟨_, List.getElem?_eq_getElem (by rw [o.len]; exact (List.getElem?_eq_some_iff.1 hq).1)⟩
 have hr := o.row i h q hh hq
 refine ⟨h, hh, ?_, hr⟩
 rw [o.top.cell, List.getElem?_toArray, List.getElem?_map, hh, ← hr.len]
 rfl
theorem OwnM.rd (o : OwnM w base g hs M) : RdM w w.heap.size (some ⟨g, 0, none⟩) M.length M := by
 refine ⟨hs.map fun h => ⟨h.A, h.vs.length, h.c⟩, by rw [List.length_map, o.len], rfl, ⟨by simp [o.len], fun _ => ⟨g, 0, rfl, o.top.lt, fun j u hu => ?_⟩⟩, fun i h q hh hq => ?_⟩
 ·rw [Nat.zero_add, o.top.cell j, List.getElem?_toArray]
  rw [List.map_map] at hu
  exact hu
 ·rw [List.getElem?_map] at hh
  obtain ⟨h', hh', rfl⟩ := Option.map_eq_some_iff.1 hh
  have hr := o.row i h' q hh' hq
  refine ⟨?_, hr.cap, hr.cm⟩
  have := hr.rd
  rw [← hr.len] at this
  exact this
theorem OwnM.put (o : OwnM w base g hs M) {i j : Nat} {h : Mh} {q : List Rat} {v : Rv} {x : Rat} (hh : hs[i]? = some h) (hq : M[i]? = some q) (hj : j < q.length) (hv : RtV w w.heap.size x v) :
    OwnM (putV w h.g j v) base g (hs.set i ⟨h.A, h.g, h.c, h.vs.set j v⟩) (M.set i (q.set j x)) := by
 have hr := o.row i h q hh hq
 obtain ⟨h1, h2, h3, cs, h4, h5⟩ := hr.lies (by omega)
 obtain ⟨y, hy⟩ : ∃ y, h.vs[j]? = some y := ⟨_, List.getElem?_eq_getElem (by rw [hr.len]; exact hj)⟩
 have hil := (List.getElem?_eq_some_iff.1 hh).1
 have hok : ∀ {us : List Rv} {ps : List Rat}, RvOk w us ps → RvOk (putV w h.g j v) us ps := fun H k p u hp hu => RtV.keep4 (H k p u hp hu) v h4 h5 hy
 refine ⟨?_, by rw [List.length_set, List.length_set, o.len], o.gb, fun k h' q' hk hkq => ?_, fun a b ha hb hab hga hgb l1 l2 => ?_⟩
 ·have e : (hs.set i ⟨h.A, h.g, h.c, h.vs.set j v⟩).map Mh.hd = hs.map Mh.hd := by
   rw [List.map_set]
   apply List.ext_getElem?
   intro k
   rw [List.getElem?_set]
   by_cases hk : i = k
   ·subst hk
    rw [List.length_map, List.getElem?_map, hh]
    simp [hil, Mh.hd]
   ·rw [if_neg hk]
  rw [e]
  exact o.top.far4 v (fun e => h3 e.symm)
 ·rw [List.getElem?_set] at hk hkq
  by_cases hik : i = k
  ·subst hik
   rw [if_pos rfl, if_pos hil] at hk
   rw [if_pos rfl, if_pos (by rw [← o.len]; exact hil)] at hkq
   injection hk with hk
   injection hkq with hkq
   subst hk; subst hkq
   obtain ⟨cs', k1, k2⟩ := h4.row_put v h5 hr.len hj
   refine ⟨by simp [hr.len], by simpa using hr.cap, hr.cm, fun a p u hp hu => ?_, fun _ => ⟨h1, h2, h3, cs', k1, by rw [List.length_set]; exact k2⟩⟩
   simp only at hu
   rw [List.getElem?_set] at hp hu
   by_cases hja : j = a
   ·subst hja
    rw [if_pos rfl, if_pos hj] at hp
    rw [if_pos rfl, if_pos (by rw [hr.len]; exact hj)] at hu
    injection hp with hp
    injection hu with hu
    subst hp; subst hu
    exact RtV.keep4 hv v h4 h5 hy
   ·rw [if_neg hja] at hp hu
    exact hok hr.ok a p u hp hu
  ·rw [if_neg hik] at hk hkq
   have hr' := o.row k h' q' hk hkq
   refine ⟨hr'.len, hr'.cap, hr'.cm, hok hr'.ok, fun h0 => ?_⟩
   obtain ⟨a1, a2, a3, cs', a4, a5⟩ := hr'.lies h0
   exact ⟨a1, a2, a3, cs', a4.far4 v (o.dis k i h' h (fun e => hik e.symm) hk hh (by rw [hr'.len]; exact h0) (by rw [hr.len]; omega)), a5⟩
 ·rw [List.getElem?_set] at hga hgb
  have key : ∀ (k : Nat) (z : Mh), (if i = k then (if i < hs.length then some (⟨h.A, h.g, h.c, h.vs.set j v⟩ : Mh) else none) else hs[k]?) = some z → ∃ z', hs[k]? = some z' ∧ z'.g = z.g ∧ z'.vs.length = z.vs.length := fun k z hz => by
   by_cases hik : i = k
   ·subst hik
    rw [if_pos rfl, if_pos hil] at hz
    injection hz with hz
    subst hz
    exact ⟨h, hh, rfl, by simp⟩
   ·rw [if_neg hik] at hz
    exact ⟨z, hz, rfl, rfl⟩
  obtain ⟨z1, k1, k2, k3⟩ := key a ha hga
  obtain ⟨z2, k4, k5, k6⟩ := key b hb hgb
  rw [← k2, ← k5]
  exact o.dis a b z1 z2 hab k1 k4 (by omega) (by omega)
theorem OwnM.setRow (o : OwnM w base g hs M) {i : Nat} {h : Mh} {q : List Rat} (hi : i < M.length) (hr : MRow w base g h q) (hd : ∀ (j : Nat) (h' : Mh), j ≠ i → hs[j]? = some h' → 0 < h'.vs.length → 0 < h.vs.length → h'.g ≠ h.g) :
    OwnM (w.setCell ⟨g, i, none⟩ (.slice h.A q.length h.c)) base g (hs.set i h) (M.set i q) := by
 have hil : i < hs.length := by rw [o.len]; exact hi
 have hok : ∀ {us : List Rv} {ps : List Rat} (u : Value), RvOk w us ps → RvOk (w.setCell ⟨g, i, none⟩ u) us ps := fun u H k p v hp hv => by
  have h0 : RtIs w w.heap.size p v.b1 v.A v.n v.c v.b2 v.A2 v.m v.d := H k p v hp hv
  refine RtIs.keep h0 (v := (hs.map Mh.hd)[i]'(by simpa using hil)) ?_ (fun a b e => ?_) u
  ·rw [o.top.cell]; simp [hil]
  ·simp [Mh.hd] at e
 have hrow : ∀ {h : Mh} {q : List Rat} (u : Value), MRow w base g h q → MRow (w.setCell ⟨g, i, none⟩ u) base g h q := fun u r =>
  ⟨r.len, r.cap, r.cm, hok u r.ok, fun h0 => by
   obtain ⟨h1, h2, h3, cs, h4, h5⟩ := r.lies h0
   exact ⟨h1, h2, h3, cs, h4.far h3 u, h5⟩⟩
 refine ⟨?_, by rw [List.length_set, List.length_set, o.len], o.gb, fun k h' q' hk hkq => ?_, fun a b ha hb hab hga hgb l1 l2 => ?_⟩
 ·have := o.top.set_ i (.slice h.A q.length h.c)
  rw [List.map_set]
  rw [← hr.len] at this ⊢
  simpa [Mh.hd] using this
 ·rw [List.getElem?_set] at hk hkq
  by_cases hik : i = k
  ·subst hik
   rw [if_pos rfl, if_pos hil] at hk
   rw [if_pos rfl, if_pos hi] at hkq
   injection hk with hk
   injection hkq with hkq
   subst hk; subst hkq
   exact hrow _ hr
  ·rw [if_neg hik] at hk hkq
   exact hrow _ (o.row k h' q' hk hkq)
 ·rw [List.getElem?_set] at hga hgb
  by_cases hia : i = a
  ·subst hia
   rw [if_pos rfl, if_pos hil] at hga
   injection hga with hga
   subst hga
   rw [if_neg hab] at hgb
   exact fun e => hd b hb (fun e => hab e.symm) hgb l2 l1 e.symm
  ·rw [if_neg hia] at hga
   by_cases hib : i = b
   ·subst hib
    rw [if_pos rfl, if_pos hil] at hgb
    injection hgb with hgb
    subst hgb
    exact hd a ha (fun e => hia e.symm) hga l1 l2
   ·rw [if_neg hib] at hgb
    exact o.dis a b ha hb hab hga hgb l1 l2
theorem OwnM.swap (o : OwnM w base g hs M) {r p : Nat} {a b : List Rat} {ha hb : Mh} (h1 : hs[r]? = some ha) (h2 : hs[p]? = some hb) (h3 : M[r]? = some a) (h4 : M[p]? = some b) :
    OwnM ((w.setCell ⟨g, r, none⟩ (.slice hb.A b.length hb.c)).setCell ⟨g, p, none⟩ (.slice ha.A a.length ha.c)) base g ((hs.set r hb).set p ha) ((M.set r b).set p a) := by
 have hrl := (List.getElem?_eq_some_iff.1 h1).1
 have hpl := (List.getElem?_eq_some_iff.1 h2).1
 have ra := o.row r ha a h1 h3
 have rb := o.row p hb b h2 h4
 have hok : ∀ {w : World} {cs : Array Value} {us : List Rv} {ps : List Rat} {i : Nat} {x : Value} (u : Value), Blk w g 103 cs → cs[i]? = some x → (∀ k y, x ≠ .int k y) → RvOk w us ps → RvOk (w.setCell ⟨g, i, none⟩ u) us ps := fun {w cs us ps i x} u hb hc hx H k p v hp hv => by
  have h0 : RtIs w w.heap.size p v.b1 v.A v.n v.c v.b2 v.A2 v.m v.d := H k p v hp hv
  refine RtIs.keep h0 (v := x) ?_ hx u
  rw [hb.cell]; exact hc
 have hB1 := o.top.set_ r (.slice hb.A b.length hb.c)
 have hd1 : ∀ (i : Nat) (z : Mh), hs[i]? = some z → (hs.map Mh.hd).toArray[i]? = some z.hd := fun i z hz => by rw [List.getElem?_toArray, List.getElem?_map, hz]; rfl
 have hrow : ∀ {h : Mh} {q : List Rat}, MRow w base g h q → MRow ((w.setCell ⟨g, r, none⟩ (.slice hb.A b.length hb.c)).setCell ⟨g, p, none⟩ (.slice ha.A a.length ha.c)) base g h q := fun R =>
  ⟨R.len, R.cap, R.cm, by
   have k1 := hok (.slice hb.A b.length hb.c) o.top (hd1 r ha h1) (fun k y e => by cases e) R.ok
   by_cases hrp : r = p
   ·subst hrp
    exact hok _ hB1 (x := .slice hb.A b.length hb.c) (by simp [hrl]) (fun k y e => by cases e) k1
   ·exact hok _ hB1 (x := hb.hd) (by rw [Array.getElem?_setIfInBounds_ne hrp]; exact hd1 p hb h2) (fun k y e => by cases e) k1, fun h0 => by
   obtain ⟨k1, k2, k3, cs, k4, k5⟩ := R.lies h0
   exact ⟨k1, k2, k3, cs, (k4.far k3 _).far k3 _, k5⟩⟩
 have hnew : ∀ (i : Nat) (z : Mh), ((hs.set r hb).set p ha)[i]? = some z → ∃ i' , hs[i']? = some z ∧ ((i' = i ∧ i ≠ r ∧ i ≠ p) ∨ (i = r ∧ i ≠ p ∧ i' = p) ∨ (i = p ∧ i' = r)) ∧ ∀ q, ((M.set r b).set p a)[i]? = some q → M[i']? = some q := fun i z hz => by
  rw [List.getElem?_set, List.getElem?_set, List.length_set] at hz
  by_cases hp : p = i
  ·subst hp
   rw [if_pos rfl, if_pos hpl] at hz
   injection hz with hz
   subst hz
   refine ⟨r, h1, .inr (.inr ⟨rfl, rfl⟩), fun q hq => ?_⟩
   rw [List.getElem?_set, if_pos rfl, if_pos (by rw [List.length_set, ← o.len]; exact hpl)] at hq
   rw [h3]; exact hq
  ·rw [if_neg hp] at hz
   by_cases hr : r = i
   ·subst hr
    rw [if_pos rfl, if_pos hrl] at hz
    injection hz with hz
    subst hz
    refine ⟨p, h2, .inr (.inl ⟨rfl, fun e => hp e.symm, rfl⟩), fun q hq => ?_⟩
    rw [List.getElem?_set, if_neg hp, List.getElem?_set, if_pos rfl, if_pos (by rw [← o.len]; exact hrl)] at hq
    rw [h4]; exact hq
   ·rw [if_neg hr] at hz
    refine ⟨i, hz, .inl ⟨rfl, fun e => hr e.symm, fun e => hp e.symm⟩, fun q hq => ?_⟩
    rw [List.getElem?_set, if_neg hp, List.getElem?_set, if_neg hr] at hq
    exact hq
 refine ⟨?_, by simp [o.len], o.gb, fun i z q hz hq => ?_, fun i j z z' hij hz hz' l1 l2 => ?_⟩
 ·have := hB1.set_ p (.slice ha.A a.length ha.c)
  rw [List.map_set, List.map_set]
  rw [← ra.len, ← rb.len] at this ⊢
  simpa [Mh.hd] using this
 ·obtain ⟨i', k1, _, k3⟩ := hnew i z hz
  exact hrow (o.row i' z q k1 (k3 q hq))
 ·obtain ⟨i', k1, k2, _⟩ := hnew i z hz
  obtain ⟨j', m1, m2, _⟩ := hnew j z' hz'
  by_cases hne : i' = j'
  ·subst hne
   omega
  ·exact o.dis i' j' z z' hne k1 m1 l1 l2
end
theorem info_row : (Tryz.prog.info? 103).map (fun i => (i.zero, i.size, i.bytes)) = some (some (.slice none 0 0), 1, 24) := by kernel_rfl
def nilRows (n : Nat) : Array Value := (List.replicate n (Value.slice none 0 0)).toArray
theorem make_rows (n : Nat) (hn : n ≤ 1000000) (w : World) : (Instr.makeSlice 117 (.int .i64 (n : Int)) (.int .i64 (n : Int))).run Tryz.prog w = .ok (.slice (some ⟨w.heap.size, 0, none⟩) n n) (w.alloc (.cells (nilRows n) 103)) := by
 obtain ⟨i0, hi0, hz0, hz1, hz2⟩ := info_parts info_row
 rw [run_make w 117 103 i0 _ Tryz.underlying117 hi0 hz0 .i64 .i64 (n : Int) (n : Int) (by omega) (Int.le_refl _) (by rw [hz2]; omega) (by omega), Int.toNat_natCast, hz1, Nat.mul_one]
 rw [show (Value.slice none 0 0).cells = #[Value.slice none 0 0] from rfl]
 rw [show madeCells #[Value.slice none 0 0] n = (List.replicate n (Value.slice none 0 0)).toArray from by
  apply Array.ext'
  rw [toList_madeCells_one]]
 rfl
theorem ownM_made {w : World} {g n : Nat} (h : Blk w g 103 (nilRows n)) {base : Nat} (hb : base ≤ g) : OwnM w base g (List.replicate n ⟨none, 0, 0, []⟩) (List.replicate n []) := by
 unfold nilRows at h
 refine ⟨by rw [List.map_replicate]; exact h, by simp, hb, fun i h q hh hq => ?_, fun i j h h' _ hh _ l => ?_⟩
 ·rw [List.getElem?_replicate] at hh hq
  split at hh
  ·rw [if_pos ‹_›] at hq
   injection hh with hh
   injection hq with hq
   subst hh; subst hq
   exact mrow_nil _ _ _ _ _ _ (by simp [maxLen])
  ·cases hh
 ·rw [List.getElem?_replicate] at hh
  split at hh
  ·injection hh with hh
   subst hh
   simp at l
  ·cases hh
theorem mrow_own {w w' : World} {base g : Nat} {v : Value} {vs : List Rv} {qs : List Rat} (h : OwnQ w base v vs qs) (hg : g < base) : ∃ h : Mh, v = .slice h.A qs.length h.c ∧ h.vs = vs ∧ MRow w base g h qs := by
 obtain ⟨hl, h1⟩ := h.own
 rcases h1 with ⟨h1, h2⟩ | ⟨b, cap, cur, h1, h2, h3, h4, h5, h6, h7, _⟩
 ·have hq : qs = [] := List.eq_nil_of_length_eq_zero (by rw [← h.len]; exact h2)
  have hv : vs = [] := List.eq_nil_of_length_eq_zero h2
  subst hq; subst hv
  exact ⟨⟨none, 0, 0, []⟩, h1, rfl, mrow_nil _ _ _ _ _ _ (by simp [maxLen])⟩
 ·refine ⟨⟨some ⟨b, 0, none⟩, b, cap, vs⟩, by rw [← h.len]; exact h1, rfl, h.len, h4, h5, h.ok, fun _ => ⟨rfl, h2, by simp only; omega, cur, h3, by rw [← h.len]; exact h7⟩⟩
end
section
open Go.ChangeShapes Go.WideShapes Go.ChangeAt Go.RowKit
attribute [local go_sem ↓] execOp_call_val
attribute [local go_sem] callVal_func setCell_drewN alloc_drewN sEq_walk
def OpP (f : Rat → Rat → Rat) (a b : ByteArray) (w : World) (e : Ending) (w' : World) : Prop := Below w.heap.size w w' ∧ (ckAllR [a, b] ≠ 0 → e = .returned (.tuple #[.string ⟨#[]⟩, .int .i64 (ckAllR [a, b])])) ∧ (ckAllR [a, b] = 0 → RnP (f (qOf a) (qOf b)) w e w')
end
section
open Go.ChangeShapes Go.WideShapes Go.ChangeAt Go.RowKit
attribute [local go_sem ↓] execOp_call_val
attribute [local go_sem] callVal_func setCell_drewN alloc_drewN sEq_walk
def rnS (q : Rat) : ByteArray := if Fits q then txtQ q else ⟨#[]⟩
def rnE (q : Rat) : Int := if Fits q then 0 else 2
theorem RnP.out {q : Rat} {w w' : World} {e : Ending} (h : RnP q w e w') : e = .returned (.tuple #[.string (rnS q), .int .i64 (rnE q)]) ∧ Below w.heap.size w w' := by
 obtain ⟨hb, h1, h2⟩ := h
 unfold rnS rnE
 by_cases hf : Fits q
 ·rw [if_pos hf, if_pos hf]; exact ⟨h1 hf, hb⟩
 ·rw [if_neg hf, if_neg hf]; exact ⟨h2 hf, hb⟩
def opS (f : Rat → Rat → Rat) (a b : ByteArray) : ByteArray := if ckAllR [a, b] = 0 then rnS (f (qOf a) (qOf b)) else ⟨#[]⟩
def opE (f : Rat → Rat → Rat) (a b : ByteArray) : Int := if ckAllR [a, b] = 0 then rnE (f (qOf a) (qOf b)) else ckAllR [a, b]
theorem OpP.out {f : Rat → Rat → Rat} {a b : ByteArray} {w w' : World} {e : Ending} (h : OpP f a b w e w') : e = .returned (.tuple #[.string (opS f a b), .int .i64 (opE f a b)]) ∧ Below w.heap.size w w' := by
 obtain ⟨hb, h1, h2⟩ := h
 unfold opS opE
 by_cases hf : ckAllR [a, b] = 0
 ·rw [if_pos hf, if_pos hf]; exact (h2 hf).out
 ·rw [if_neg hf, if_neg hf]; exact ⟨h1 hf, hb⟩
end
section
open Go.ChangeShapes Go.WideShapes Go.ChangeAt Go.RowKit
attribute [local go_sem ↓] execOp_call_val
attribute [local go_sem] callVal_func setCell_drewN alloc_drewN sEq_walk
def QP (q : Rat) (w : World) (e : Ending) (w' : World) : Prop := Below w.heap.size w w' ∧ ∃ v : Rv, e = .returned (.agg #[.bool v.b1, .slice v.A v.n v.c, .bool v.b2, .slice v.A2 v.m v.d]) ∧ RtV w' w'.heap.size q v
theorem RtP.qp {q : Rat} {w w' : World} {e : Ending} (h : RtP q w e w') : QP q w e w' := by
 obtain ⟨hb, b1, A, n, c, b2, A2, m, d, he, h⟩ := h
 exact ⟨hb, ⟨b1, A, n, c, b2, A2, m, d⟩, he, h⟩
section
variable {w w' : World} {B B' : Nat} {q : Rat} {v : Rv}
theorem RtV.below (h : RtV w B q v) (hb : Below B' w w') (hB : B ≤ B') : RtV w' B q v := RtIs.below h hb hB
theorem RtV.more (h : RtV w B q v) (hB : B ≤ B') : RtV w B' q v := RtIs.more h hB
theorem RtV.up (h : RtV w w.heap.size q v) (hb : Below w.heap.size w w') : RtV w' w'.heap.size q v := RtIs.up h hb
end
theorem mulV {p q : Rat} {v u : Rv} {w : World} (h1 : RtV w w.heap.size p v) (h2 : RtV w w.heap.size q u) (hs : qsz p + qsz q + 1 ≤ 35184372088832) : Calls Tryz.prog 53 #[.agg #[.bool v.b1, .slice v.A v.n v.c, .bool v.b2, .slice v.A2 v.m v.d], .agg #[.bool u.b1, .slice u.A u.n u.c, .bool u.b2, .slice u.A2 u.m u.d]] w (QP (p * q) w) :=
 (rmul_any p q v.b1 v.A v.n v.c v.b2 v.A2 v.m v.d u.b1 u.A u.n u.c u.b2 u.A2 u.m u.d w h1 h2 hs).mono fun _ _ h => h.qp
theorem addV {p q : Rat} {v u : Rv} {w : World} (h1 : RtV w w.heap.size p v) (h2 : RtV w w.heap.size q u) (hs : qsz p + qsz q + 1 ≤ 35184372088832) : Calls Tryz.prog 51 #[.agg #[.bool v.b1, .slice v.A v.n v.c, .bool v.b2, .slice v.A2 v.m v.d], .agg #[.bool u.b1, .slice u.A u.n u.c, .bool u.b2, .slice u.A2 u.m u.d]] w (QP (p + q) w) :=
 (radd_any p q v.b1 v.A v.n v.c v.b2 v.A2 v.m v.d u.b1 u.A u.n u.c u.b2 u.A2 u.m u.d w h1 h2 hs).mono fun _ _ h => h.qp
theorem subV {p q : Rat} {v u : Rv} {w : World} (h1 : RtV w w.heap.size p v) (h2 : RtV w w.heap.size q u) (hs : qsz p + qsz q + 1 ≤ 35184372088832) : Calls Tryz.prog 111 #[.agg #[.bool v.b1, .slice v.A v.n v.c, .bool v.b2, .slice v.A2 v.m v.d], .agg #[.bool u.b1, .slice u.A u.n u.c, .bool u.b2, .slice u.A2 u.m u.d]] w (QP (p - q) w) :=
 (rsub_any p q v.b1 v.A v.n v.c v.b2 v.A2 v.m v.d u.b1 u.A u.n u.c u.b2 u.A2 u.m u.d w h1 h2 hs).mono fun _ _ h => h.qp
theorem divV {p q : Rat} {v u : Rv} {w : World} (h1 : RtV w w.heap.size p v) (h2 : RtV w w.heap.size q u) (hq : q ≠ 0) (hs : qsz p + qsz q + 1 ≤ 35184372088832) : Calls Tryz.prog 85 #[.agg #[.bool v.b1, .slice v.A v.n v.c, .bool v.b2, .slice v.A2 v.m v.d], .agg #[.bool u.b1, .slice u.A u.n u.c, .bool u.b2, .slice u.A2 u.m u.d]] w (QP (p / q) w) :=
 (rdiv_any p q v.b1 v.A v.n v.c v.b2 v.A2 v.m v.d u.b1 u.A u.n u.c u.b2 u.A2 u.m u.d w h1 h2 hq hs).mono fun _ _ h => h.qp
theorem negV {p : Rat} {v : Rv} {w : World} (h1 : RtV w w.heap.size p v) : Calls Tryz.prog 87 #[.agg #[.bool v.b1, .slice v.A v.n v.c, .bool v.b2, .slice v.A2 v.m v.d]] w (QP (-p) w) :=
 (rneg_any p v.b1 v.A v.n v.c v.b2 v.A2 v.m v.d w h1).mono fun _ _ h => h.qp
theorem signV {p : Rat} {v : Rv} {w : World} (h1 : RtV w w.heap.size p v) : Calls Tryz.prog 86 #[.agg #[.bool v.b1, .slice v.A v.n v.c, .bool v.b2, .slice v.A2 v.m v.d]] w fun e w' => e = .returned (.int .i64 p.num.sign) ∧ Below w.heap.size w w' := rsign_any p v.b1 v.A v.n v.c v.b2 v.A2 v.m v.d w h1
theorem wholeV (k : Int) (w : World) (h0 : -9223372036854775808 ≤ k) (h1 : k ≤ 9223372036854775807) : Calls Tryz.prog 50 #[.int .i64 k] w (QP (k : Rat) w) := (whole_any k w h0 h1).mono fun _ _ h => h.qp
theorem fracV (k d : Int) (w : World) (h0 : -9223372036854775808 ≤ k) (h1 : k ≤ 9223372036854775807) (h2 : -9223372036854775808 ≤ d) (h3 : d ≤ 9223372036854775807) (hd : d ≠ 0) : Calls Tryz.prog 52 #[.int .i64 k, .int .i64 d] w (QP (Rat.divInt k d) w) := (frac_any k d w h0 h1 h2 h3 hd).mono fun _ _ h => h.qp
theorem RtV.keepq {w : World} {g T : Nat} {x v u : Rv} {q : Rat} (h : RtV w w.heap.size q u) (hb : Blk w g T #[.bool x.b1, .slice x.A x.n x.c, .bool x.b2, .slice x.A2 x.m x.d]) : RtV ((((w.setCell ⟨g, 0, none⟩ (.bool v.b1)).setCell ⟨g, 1, none⟩ (.slice v.A v.n v.c)).setCell ⟨g, 2, none⟩ (.bool v.b2)).setCell ⟨g, 3, none⟩ (.slice v.A2 v.m v.d)) ((((w.setCell ⟨g, 0, none⟩ (.bool v.b1)).setCell ⟨g, 1, none⟩ (.slice v.A v.n v.c)).setCell ⟨g, 2, none⟩ (.bool v.b2)).setCell ⟨g, 3, none⟩ (.slice v.A2 v.m v.d)).heap.size q u := by
 have B1 := hb.set_at (i := 0) (cs' := #[.bool v.b1, .slice x.A x.n x.c, .bool x.b2, .slice x.A2 x.m x.d]) (.bool v.b1) (by simp)
 have B2 := B1.set_at (i := 1) (cs' := #[.bool v.b1, .slice v.A v.n v.c, .bool x.b2, .slice x.A2 x.m x.d]) (.slice v.A v.n v.c) (by simp)
 have B3 := B2.set_at (i := 2) (cs' := #[.bool v.b1, .slice v.A v.n v.c, .bool v.b2, .slice x.A2 x.m x.d]) (.bool v.b2) (by simp)
 exact (((RtIs.keep h (hb.cell 0) (by simp) _).keep (B1.cell 1) (by simp) _).keep (B2.cell 2) (by simp) _).keep (B3.cell 3) (by simp) _
def putQ (w : World) (g : Nat) (v : Rv) : World := (((w.setCell ⟨g, 0, none⟩ (.bool v.b1)).setCell ⟨g, 1, none⟩ (.slice v.A v.n v.c)).setCell ⟨g, 2, none⟩ (.bool v.b2)).setCell ⟨g, 3, none⟩ (.slice v.A2 v.m v.d)
theorem below_putQ {a w : World} {B g : Nat} {v : Rv} (h : Below B a w) (hg : B ≤ g) : Below B a (putQ w g v) := below_set4 h hg
theorem RdQ.keepq {w : World} {g T n : Nat} {A : Option Addr} {x v : Rv} {qs : List Rat} {B : Nat} (h : RdQ w B A n qs) (hB : B ≤ g) : RdQ (putQ w g v) B A n qs := h.below (below_putQ (Below.refl B w) hB) (Nat.le_refl _)
theorem qsz_whole (k : Int) (h0 : -9223372036854775808 ≤ k) (h1 : k ≤ 9223372036854775807) : qsz (k : Rat) ≤ 2 := by
 unfold qsz
 rw [Rat.num_intCast, Rat.den_intCast]
 exact Nat.max_le.2 ⟨dlen_le (by show _ < 4294967296 ^ 2; omega), by decide +kernel⟩
end
section
open Go.ChangeShapes Go.WideShapes Go.ChangeAt Go.RowKit
attribute [local go_sem ↓] execOp_call_val
attribute [local go_sem] callVal_func setCell_drewN alloc_drewN sEq_walk
theorem MRow.mono {w : World} {base base' g : Nat} {h : Mh} {q : List Rat} (r : MRow w base g h q) (hb : base' ≤ base) : MRow w base' g h q :=
 ⟨r.len, r.cap, r.cm, r.ok, fun h0 => by
  obtain ⟨h1, h2, h3⟩ := r.lies h0
  exact ⟨h1, Nat.le_trans hb h2, h3⟩⟩
theorem OwnM.lt {w : World} {base g : Nat} {hs : List Mh} {M : List (List Rat)} (o : OwnM w base g hs M) {j : Nat} {h : Mh} (hh : hs[j]? = some h) (h0 : 0 < h.vs.length) : h.g < w.heap.size := by
 obtain ⟨q, hq⟩ : ∃ q, M[j]? = some q := ⟨_, List.getElem?_eq_getElem (by rw [← o.len]; exact (List.getElem?_eq_some_iff.1 hh).1)⟩
 have r := o.row j h q hh hq
 obtain ⟨_, _, _, cs, hb, _⟩ := r.lies (by rw [← r.len]; exact h0)
 exact hb.lt
theorem fill_set {M : List (List Rat)} {n k : Nat} {q : List Rat} (hn : M.length = n) (hq : M[k]? = some q) : (M.take k ++ List.replicate (n - k) []).set k q = M.take (k + 1) ++ List.replicate (n - (k + 1)) [] := by
 have hk := (List.getElem?_eq_some_iff.1 hq).1
 rw [List.set_append_right _ _ (by rw [List.length_take]; omega), List.length_take, Nat.min_eq_left (by omega), Nat.sub_self, take_snoc hq]
 rw [show n - k = (n - (k + 1)) + 1 from by omega, List.replicate_succ]
 simp
def OutM (M : List (List Rat)) (w : World) (e : Ending) (w' : World) : Prop := Below w.heap.size w w' ∧ ∃ g hs, e = .returned (.slice (some ⟨g, 0, none⟩) M.length M.length) ∧ OwnM w' w.heap.size g hs M
theorem rdQ_parts {w : World} {B n : Nat} {A : Option Addr} {q : List Rat} (h : RdQ w B A n q) : ∃ vs : List Rv, vs.length = n ∧ q.length = n ∧ Rd w B 4 A n (rvs vs) ∧ ∀ (i : Nat) (x : Rat) (v : Rv), q[i]? = some x → vs[i]? = some v → RtV w B x v := h
theorem rvs_noI (vs : List Rv) : ∀ u ∈ rvs vs, u.oneCell' = true ∧ NoI u := fun u hu => by
 unfold rvs at hu
 obtain ⟨v, _, hv⟩ := List.mem_flatMap.1 hu
 exact rv_noI v u hv
set_option maxRecDepth 100000 in
set_option maxHeartbeats 4000000 in
theorem copy_m (A : Option Addr) (n c : Nat) (M : List (List Rat)) (w : World) (hR : RdM w w.heap.size A n M) (hn : n ≤ 1000000) (hw : ∀ a ∈ M, a.length ≤ 1000000) :
    Calls Tryz.prog 135 #[.slice A n c] w (OutM M w) := by
 have HR := Lib.hid hR
 have HL := Lib.hid hR.len
 have HWD := Lib.hid hw
 have HNN := Lib.hid hn
 obtain ⟨i0, hi0, hz0, hz1, hz2⟩ := rat_parts
 have HI0 := Lib.hid hi0
 have HI1 := Lib.hid hz0
 have HI2 := Lib.hid hz1
 have HI3 := Lib.hid hz2
 clear hR hw hi0 hz0 hz1 hz2
 have hmk : ∀ w : World, (Instr.makeSlice 117 (.int .i64 (n : Int)) (.int .i64 (n : Int))).run Tryz.prog w = .ok (.slice (some ⟨w.heap.size, 0, none⟩) n n) (w.alloc (.cells (nilRows n) 103)) := fun w => make_rows n hn w
 have HK := Lib.hid ((Below.refl w.heap.size w).alloc (Nat.le_refl _) (.cells (nilRows n) 103))
 have HG := Lib.hid (Blk.new w 103 (nilRows n))
 go_enter Tryz.func135, Tryz.ntmps135
 go_wp2_with fail
 clear hmk
 generalize w.alloc (.cells (nilRows n) 103) = W at *
 have HO := Lib.hid (ownM_made HG.out (Nat.le_refl _))
 generalize hg : w.heap.size = g at *
 have HGS := Lib.hid hg
 clear hg HG
 go_loopw [11] (fun v11 wr => ∃ (k : Nat) (hs : List Mh), k ≤ n ∧ v11 = .int .i64 k ∧ Below g w wr ∧ OwnM wr g g hs (M.take k ++ List.replicate (n - k) [])) (fun v11 _ => n - (intOf v11).toNat)
 case atStart => exact ⟨0, _, by omega, rfl, HK.out, by rw [List.take_zero, List.nil_append, Nat.sub_zero]; exact HO.out⟩
 case round =>
  clear HK HO
  obtain ⟨k, hs, hk, rfl, hb, ho⟩ := hrel
  have HK := Lib.hid hb
  have HO := Lib.hid ho
  clear hb ho
  by_cases hlt : k < n
  ·obtain ⟨q, hq⟩ : ∃ q, M[k]? = some q := ⟨_, List.getElem?_eq_getElem (by have := HL.out; omega)⟩
   obtain ⟨b, o, hA, hb⟩ := (HR.out.below HK.out (by have := HGS.out; omega)).form (by omega)
   subst hA
   obtain ⟨h, hc, hrq, hh1, hh2⟩ := (HR.out.below HK.out (by have := HGS.out; omega)).at_ hq
   have HGL : Hid (g < wr.heap.size) := Lib.hid HO.out.top.lt
   have HRQ := Lib.hid (hrq.more (B' := wr.heap.size) (by have := HGS.out; have := HGL.out; omega))
   have HQ := Lib.hid hq
   have HQW := Lib.hid (HWD.out q (List.mem_of_getElem? hq))
   have HF := Lib.hid (fill_set HL.out hq)
   have hkI : (k : Int) < (n : Int) := by omega
   have HN1 : Hid ((k : Int) + 1 = ((k + 1 : Nat) : Int)) := Lib.hid (by omega)
   have HN2 : Hid (n - (k + 1) < n - k) := Lib.hid (by omega)
   have hbl : b < wr.heap.size := by have := HK.out.size; have := HGS.out; omega
   obtain ⟨vs, hv1, hv2, hv3, hv4⟩ := rdQ_parts HRQ.out
   obtain ⟨hA0, hn0, hc0⟩ := h
   simp only at hc hv1 hv2 hv3 hv4 hh1 hh2
   have HV1 := Lib.hid hv1
   have HV2 := Lib.hid hv2
   have HV3 := Lib.hid hv3
   have HV4 := Lib.hid hv4
   have hn00 : hn0 ≤ 1000000 := by have := HQW.out; omega
   clear hv1 hv2 hv3 hv4 hq hrq hb HR
   go_wp2_with (at_builtin; refine wpList_appR (S := NoI) rfl (.const (.slice none 0 0)) (.tmp 18) _ rfl g 93 i0 _ 4 64 Tryz.underlying103 HI0.out HI1.out HI2.out HI3.out rfl (by omega) zr_noI (.slice none 0 0) 0 [] rfl (ownS_none _ _ _ _ _) hA0 hn0 hc0 (rvs vs) rfl HV3.out (rvs_noI vs) ?k1 ?k2 ?k3 ?_)
   case k1 => simp only [maxLen]; omega
   case k2 => omega
   case k3 => have := HGL.out; omega
   intro v' w6 hown hkeep hb6 how6 hblk
   have hvn : vs.length = hn0 := HV1.out
   rw [← hvn] at how6
   have hoq : OwnQ w6 wr.heap.size v' vs q := ⟨how6, by rw [HV1.out, HV2.out], RvOk.up (w := wr) (w' := w6) HV4.out hb6⟩
   obtain ⟨h2, hv, hvs, hrow⟩ := mrow_own (w' := w6) (g := g) hoq HGL.out
   clear hoq
   subst hv
   have HRW := Lib.hid (hrow.mono (base' := g) (Nat.le_of_lt HGL.out))
   have HB6 := Lib.hid (HK.out.trans (hb6.mono (Nat.le_of_lt HGL.out)))
   have HO6 := Lib.hid (HO.out.up hb6)
   have HFR : Hid (∀ j (h' : Mh), j ≠ k → hs[j]? = some h' → 0 < h'.vs.length → 0 < h2.vs.length → h'.g ≠ h2.g) := Lib.hid fun j h' _ hh l1 l2 => by
    have h3 := HO.out.lt hh l1
    have h4 := (hrow.lies (by rw [← hrow.len]; exact l2)).2.1
    omega
   clear hown hkeep hb6 how6 hblk hvn hvs hrow hc HK HO
   have gl := HO6.out.top.lt
   have gf := HO6.out.top.frozen
   obtain ⟨gv, gc⟩ : ∃ gv, w6.cell? ⟨g, k, none⟩ = some gv := by
    rw [HO6.out.top.cell]
    exact ⟨_, Array.getElem?_eq_getElem (by simp; rw [HO6.out.len]; simp; have := HL.out; omega)⟩
   generalize hql : q.length = ql at *
   have HQL := Lib.hid hql
   clear hql
   go_wp2_with fail
   go_roundw
   case rel => exact ⟨k + 1, hs.set k h2, hlt, val_int HN1.out, HB6.out.setCell (Nat.le_refl _) _, by rw [← HF.out, ← HQL.out]; exact HO6.out.setRow (by simp; have := HL.out; omega) HRW.out HFR.out⟩
   case measure => exact HN2.out
  ·have hke : k = n := by omega
   subst hke
   have hkI : ¬ (k : Int) < (k : Int) := by omega
   go_wp2_with fail
   go_ret
   refine ⟨by rw [HGS.out]; exact HK.out, g, hs, by rw [HL.out]; rfl, ?_⟩
   have h := HO.out
   rw [Nat.sub_self, List.replicate_zero, List.append_nil, List.take_of_length_le (by rw [HL.out]; exact Nat.le_refl _)] at h
   rw [HGS.out]
   exact h
end
end Go.Proofs.YtakllkkmofdpaaaGreatDoor
