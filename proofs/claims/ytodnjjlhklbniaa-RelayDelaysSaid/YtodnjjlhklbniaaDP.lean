/- A relay between steps. -/
import Derived.Test.YtodnjjlhklbniaaDN
namespace Go.Proofs.Ytodnjjlhklbniaa
open Go.ChangeShapes Go.WideShapes Go.ChangeAt Go.RowKit
set_option linter.unusedVariables false
set_option linter.unusedSimpArgs false
attribute [local go_sem ↓] execOp_call_val
attribute [local go_sem] callVal_func setCell_drewN alloc_drewN sEq_walk


/-- where the parts of a relay lie, and its program -/
structure Rel where
  lo : Nat
  r : Nat
  m : Nat
  gv : Nat
  A : Option Addr
  n : Nat
  c : Nat
  hs : List Rh
  Ao : Option Addr
  no : Nat
  co : Nat
  p : List Rl
  ord : List Nat
structure RelOk (y : Rel) : Prop where
  p : y.p = rls y.hs
  hn : y.n ≤ 16
  len : y.hs.length = y.n
  no : y.no = y.ord.length
  olt : ∀ i ∈ y.ord, i < y.n
  on : y.ord.length ≤ 16
  r : y.lo ≤ y.r
  gv : y.lo ≤ y.gv
  m : y.lo ≤ y.m
  rg : y.r ≠ y.gv
  ex : ∀ (i : Nat) (r : Rl), y.p[i]? = some r → r.expr.length ≤ 64 ∧ endR r.expr 0 = (r.expr.length : Int) ∧ ∀ x ∈ r.expr, nodeCk x = 0
structure RelW (y : Rel) (w : World) (vals : List Bool) (kept : Nat → Nat → Bool × Int) : Prop where
  bR : Blk w y.r 57 #[.slice y.A y.n y.c, .slice y.Ao y.no y.co, .slice (some ⟨y.gv, 0, none⟩) y.n y.n, .map (some y.m)]
  rules : RdRh w y.lo y.A y.n y.hs
  order : RdI w y.lo y.Ao y.no (natJ y.ord)
  vb : Blk w y.gv 4 (bools vals).toArray
  vl : vals.length = y.n
  ki : KeptI w y.m kept
  ko : KOk kept
def RelX (y : Rel) (k : Nat) : Prop := k = y.gv ∨ k = y.m
section
variable {y : Rel} {w w' : World} {vals : List Bool} {kept : Nat → Nat → Bool × Int}
theorem RelW.lo_le (h : RelW y w vals kept) (ok : RelOk y) : y.lo ≤ w.heap.size := Nat.le_trans ok.r (Nat.le_of_lt h.bR.lt)
theorem RelW.up (h : RelW y w vals kept) (ok : RelOk y) (hb : Below w.heap.size w w') : RelW y w' vals kept :=
  ⟨h.bR.below hb h.bR.lt, h.rules.below hb (h.lo_le ok), RdI.below h.order hb (h.lo_le ok), h.vb.below hb h.vb.lt, h.vl, h.ki.at_ (hb.block _ h.ki.lt), h.ko⟩
/-- the context of a step -/
def ctxOf (y : Rel) (s : Nat) (vals : List Bool) (Af : Option Addr) (nf cf : Nat) (flags : List ByteArray) (Ai : Option Addr) (ni ci : Nat) (ins : List Iv) (ms : Int) : Ctx :=
  { s := s, r := y.r, m := y.m, gv := y.gv, A := y.A, n := y.n, c := y.c, hs := y.hs, Ao := y.Ao, no := y.no, co := y.co, Af := Af, nf := nf, cf := cf, Ai := Ai, ni := ni, ci := ci, v := ⟨y.p, vals, flags, ins, ms⟩ }
end
theorem EvW.set_later {x : Ctx} {w : World} {st : Rst} {lv lv' : Value} {l : List (Nat × Nat)} (h : EvW x w st lv) (ok : CtxOk x) (hq : Qp w (x.s + 1) lv' l) : EvW x (w.setCell ⟨x.s, 4, none⟩ lv') ⟨st.kept, l⟩ lv' := by
  have hF : Fr (fun k => k = x.s) w (w.setCell ⟨x.s, 4, none⟩ lv') := (Fr.refl _ w).set_ (.inl rfl)
  have hlow : ∀ B k, B ≤ x.s → k < B → k = x.s → ∃ es c, w.heap[k]? = some (.map es c) := fun B k hB hk hc => by omega
  have hr := ok.r
  have hgv := ok.gv
  have hm := ok.m
  exact ⟨by have := h.bS.set_ 4 lv'; simpa using this, hF.blk h.bR (by omega), h.rules.fr hF (hlow _ · (Nat.le_refl _)), hF.blk h.vals (by omega), h.flags.fr hF (hlow _ · (Nat.le_refl _)), h.ins.fr hF (hlow _ · (Nat.le_refl _)), h.kept.at_ (hF.block _ h.kept.lt (by omega)), h.ko, hq.at_ (fun k hk => hF.block k (hq.lt hk).2 (fun e => by have := (hq.lt hk).1; have e2 : k = x.s := e; omega)) hF.size⟩
theorem Rd.setb {w : World} {B size n : Nat} {A : Option Addr} {xs : List Value} (h : Rd w B size A n xs) {g t : Nat} {vals : List Bool} (hv : Blk w g t (bools vals).toArray) (hno : ∀ u ∈ xs, ∀ b : Bool, u ≠ .bool b) (i : Nat) (b : Bool) : Rd (w.setCell ⟨g, i, none⟩ (.bool b)) B size A n xs :=
  ⟨h.1, fun hn => by
    obtain ⟨b1, off, e, hlt, hc⟩ := h.2 hn
    refine ⟨b1, off, e, hlt, fun j u hu => ?_⟩
    have h1 := hc j u hu
    have hne : b1 ≠ g := by
      rintro rfl
      rw [hv.cell (off + j), List.getElem?_toArray] at h1
      unfold bools at h1
      rw [List.getElem?_map] at h1
      cases hq : vals[off + j]? with
      | none => rw [hq] at h1; cases h1
      | some x => rw [hq] at h1; exact hno u (List.mem_of_getElem? hu) x (by injection h1 with h1; exact h1.symm)
    exact (World.cell?_of_block (a := ⟨b1, off + j, none⟩) (Below.heap_setCell w ⟨g, i, none⟩ (.bool b) b1 hne)).trans h1⟩
theorem no_str (l : List ByteArray) : ∀ u ∈ strsV l, ∀ b : Bool, u ≠ .bool b := fun u hu b e => by
  obtain ⟨s, _, rfl⟩ := List.mem_map.1 hu; cases e
theorem no_nd (l : List Nd) : ∀ u ∈ l.flatMap Nd.cells, ∀ b : Bool, u ≠ .bool b := fun u hu b e => by
  obtain ⟨s, _, hs⟩ := List.mem_flatMap.1 hu; subst e; simp [Nd.cells] at hs
theorem no_iv (l : List Iv) : ∀ u ∈ l.flatMap Iv.cells, ∀ b : Bool, u ≠ .bool b := fun u hu b e => by
  obtain ⟨s, _, hs⟩ := List.mem_flatMap.1 hu; subst e; simp [Iv.cells] at hs
theorem no_rh (l : List Rh) : ∀ u ∈ l.flatMap Rh.cells, ∀ b : Bool, u ≠ .bool b := fun u hu b e => by
  obtain ⟨s, _, hs⟩ := List.mem_flatMap.1 hu; subst e; simp [Rh.cells] at hs
/-- a value of a rule is set -/
theorem EvW.set_val {y : Rel} {s : Nat} {vals : List Bool} {Af : Option Addr} {nf cf : Nat} {flags : List ByteArray} {Ai : Option Addr} {ni ci : Nat} {ins : List Iv} {ms : Int} {w : World} {st : Rst} {lv : Value} (h : EvW (ctxOf y s vals Af nf cf flags Ai ni ci ins ms) w st lv) (ok : CtxOk (ctxOf y s vals Af nf cf flags Ai ni ci ins ms)) (hne : y.r ≠ y.gv) (i : Nat) (b : Bool) :
    EvW (ctxOf y s (vals.set i b) Af nf cf flags Ai ni ci ins ms) (w.setCell ⟨y.gv, i, none⟩ (.bool b)) st lv := by
  have hF : Fr (fun k => k = y.gv) w (w.setCell ⟨y.gv, i, none⟩ (.bool b)) := (Fr.refl _ w).set_ (.inl rfl)
  have hgs : y.gv < s := ok.gv
  obtain ⟨es, c, hm⟩ := h.kept.isMap
  have hv := h.vals
  have hgm : y.m ≠ y.gv := fun e => by
    have h1 : w.heap[y.gv]? = some (.cells (bools vals).toArray 4 (0, 0)) := hv
    have h2 : w.heap[y.m]? = some (.map es c) := hm
    rw [e, h1] at h2
    cases h2
  exact ⟨hF.blk h.bS (fun e => by have e2 : s = y.gv := e; omega), hF.blk h.bR hne, ⟨h.rules.len, h.rules.rd.setb hv (no_rh _) i b, fun z hz => ⟨⟨(h.rules.zs z hz).1.1, (h.rules.zs z hz).1.2.setb hv (no_nd _) i b⟩, (h.rules.zs z hz).2⟩⟩, blk_bset hv i b, ⟨h.flags.1, h.flags.2.setb hv (no_str _) i b⟩, ⟨h.ins.1, h.ins.2.setb hv (no_iv _) i b⟩, h.kept.at_ (hF.block _ h.kept.lt hgm), h.ko, h.later.at_ (fun k hk => hF.block k (h.later.lt hk).2 (fun e => by have := (h.later.lt hk).1; have e2 : k = y.gv := e; have e3 : (ctxOf y s vals Af nf cf flags Ai ni ci ins ms).s = s := rfl; omega)) hF.size⟩
theorem Qp.slice2 {w : World} {base : Nat} {v : Value} {xs : List (Nat × Nat)} (h : Qp w base v xs) : ∃ A c, v = .slice A xs.length c := by
  rcases h with ⟨h, h2⟩ | ⟨g, off, cap, h, _⟩
  · subst h2; exact ⟨_, _, h⟩
  · exact ⟨_, _, h⟩
theorem outGo_cons {r : Rl} {p : List Rl} {b : Bool} {t : List Bool} : outGo (r :: p) (b :: t) = (if b then [r.name] else []) ++ outGo p t := by
  show (if b then r.name :: outGo p t else outGo p t) = _
  cases b <;> rfl
theorem outGo_len : ∀ (p : List Rl) (l : List Bool), (outGo p l).length ≤ p.length
  | [], _ => by simp [outGo]
  | _ :: _, [] => by simp [outGo]
  | r :: p, b :: t => by rw [outGo_cons, List.length_append]; have := outGo_len p t; cases b <;> simp <;> omega
end Go.Proofs.Ytodnjjlhklbniaa
