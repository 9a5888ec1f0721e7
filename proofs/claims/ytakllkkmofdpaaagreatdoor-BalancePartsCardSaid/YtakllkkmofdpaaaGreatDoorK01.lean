/- Parts of the proof, put together into one file. -/
import Derived.Test.YtakllkkmofdpaaaGreatDoorRows
import Derived.WalkKit
import Derived.ProofKit
import Derived.OpenShut
import Derived.Below
import Derived.ChangeSame
import Derived.Carry
import Derived.Lib.SmallJoins
import Derived.Outline
import Derived.Deep.Draws
import Derived.Deep.QuietTactic
import Derived.BigQuiet
import Derived.Laws.OwnMore
import Derived.Laws.Rows
import Derived.Lib.Hide
import Derived.RegionTactic
import Derived.BigRegion
import Derived.Maps.AppendAt
import Derived.Lib.LazyBuf
import Derived.OwnWalk
import Derived.Deep.AppendLies
import Derived.WalkSpells
import Derived.WalkLawsBesides
import Derived.Deep.Slices
import Derived.Deep.Fields
import Derived.Laws.Strings
import Derived.Laws.IdiomStrings
namespace Go.Proofs.YtakllkkmofdpaaaGreatDoor
open Go.ChangeShapes Go.WideShapes Go.ChangeAt Go.RowKit Go.Joins

section
variable {H : Type} {enc : TypeId × Value → H} {P : Program}
theorem post_of_below {f : Func} {s : ChangeSpec} {apart fresh handsOn again : Bool} {W W' : World} {args : Array Value} {v : Value} {ds gs : List (DataW H)} {before pa pv : List MemPlace}
    (hW : DataW.Whole enc P f.params.toList s.vars apart W args.toList ds gs before)
    (hres : ∀ (b : Nat) (sp : Nat → Bool) (hd : Bool), DataW.TrodAll enc P W' b sp hd f.resultTypes.toList (v.resultList f.resultTypes.size) (s.fn H (ds ++ gs)).results [])
    (hargs : ∀ sp : Nat → Bool, (∀ p ∈ before, sp p.block = true) → DataW.TrodAll enc P W' 0 sp true f.params.toList args.toList (s.fn H (ds ++ gs)).args pa)
    (hvars : ∀ sp : Nat → Bool, (∀ p ∈ before, sp p.block = true) → DataW.TrodVars enc P W' sp s.vars (s.fn H (ds ++ gs)).vars pv)
    (hps : before = pa ++ pv) (hb : Below W.heap.size W W')
    (hok : ∀ (j : Nat) (t : TypeId) (r : Value), f.resultTypes[j]? = some t → (v.resultList f.resultTypes.size)[j]? = some r → Value.okWide P W' .any 0 t r) :
    s.post enc P f apart fresh handsOn again W args v W' := by
  have hlt : ∀ p ∈ before, p.block < W.heap.size := fun p hp => hW.lt p hp
  have hold : ∀ p ∈ before, (fun b => decide (b < W.heap.size)) p.block = true := fun p hp => by simpa using hlt p hp
  refine ⟨ds, gs, before, [], pa, pv, hW, hres _ _ _, hargs _ hold, hvars _ hold, World.keptBut_mono (fun p hp => ⟨hp, ?_⟩) (hb.frame (· ∈ before)), fun _ => ?_⟩
  · rw [hps, List.mem_append] at hp
    exact Or.inr hp
  · obtain ⟨_, _, _, _, _, hz, hn⟩ := hW
    refine ⟨hok, _, _, ([] ++ pa) ++ pv, ⟨[] ++ pa, pv, trodAll_append (hargs _ (fun _ _ => rfl)) (hres _ _ _), hvars _ (fun _ _ => rfl), rfl, ?_, ?_⟩, ?_⟩
    · intro b off hp
      have hin : MemPlace.cell b off ∈ before := by rw [hps]; simpa using hp
      rw [hb.frozen (hlt _ hin)]
      exact hz b off hin
    · intro ha
      have := hn ha
      rw [hps] at this
      simpa using this
    · intro p hp _
      rw [hps]
      simpa using hp

theorem trodAll_below (hl : laidOutB P = true) {W W' : World} (hb : Below W.heap.size W W') (sp : Nat → Bool) :
    ∀ {ts : List TypeId} {vs : List Value} {ds : List (DataW H)} {p : List MemPlace}, (∀ t ∈ ts, P.readableRec t = true ∧ t < P.types.size) → DataW.TrodAll enc P W 0 (fun _ => true) true ts vs ds p →
      (∀ x ∈ p, x.block < W.heap.size) → (∀ x ∈ p, sp x.block = true) → DataW.TrodAll enc P W' 0 sp true ts vs ds p
  | [], [], [], _, _, h, _, _ => h
  | [], [], _ :: _, _, _, h, _, _ => h.elim
  | [], _ :: _, _, _, _, h, _, _ => h.elim
  | _ :: _, [], _, _, _, h, _, _ => h.elim
  | _ :: _, _ :: _, [], _, _, h, _, _ => h.elim
  | t :: ts, v :: vs, d :: ds, ps, hr, h, hlt, hsp => by
    obtain ⟨p, q, h1, h2, rfl⟩ := h
    refine ⟨p, q, ?_, trodAll_below hl hb sp (fun t ht => hr t (List.mem_cons_of_mem _ ht)) h2 (fun x hx => hlt x (List.mem_append_right _ hx)) (fun x hx => hsp x (List.mem_append_right _ hx)), rfl⟩
    exact WideElems.Trod_stays hl (hr t (List.mem_cons_self ..)).1 (hr t (List.mem_cons_self ..)).2 h1 (fun x hx => hb.same (hlt x (List.mem_append_left _ hx))) (fun x hx => hsp x (List.mem_append_left _ hx))

theorem law_post (hl : laidOutB P = true) {f : Func} {s : ChangeSpec} {apart fresh handsOn again : Bool} {W W' : World} {args : Array Value} {ds : List (DataW H)} {before : List MemPlace} {tb : TypeId}
    (hvars : s.vars = []) (hfn : s.fn H ds = { results := [.lit (.bool true)], args := ds })
    (hread : ∀ t ∈ f.params.toList, P.readableRec t = true ∧ t < P.types.size) (hrt : f.resultTypes = #[tb]) (htb : P.underlying tb = some .bool)
    (hW : DataW.Whole enc P f.params.toList s.vars apart W args.toList ds [] before) (hb : Below W.heap.size W W') :
    s.post enc P f apart fresh handsOn again W args (.bool true) W' := by
  have hW0 := hW
  obtain ⟨p, q, hA, hV, hpq, _, _⟩ := hW
  rw [hvars] at hV
  have hq : q = [] := hV
  subst hq
  refine post_of_below (pa := p) (pv := []) hW0 ?_ ?_ ?_ hpq hb ?_
  · intro b sp hd
    rw [List.append_nil, hfn, hrt]
    exact ⟨[], [], shut_bool htb true, rfl, rfl⟩
  · intro sp hsp
    rw [List.append_nil, hfn]
    exact trodAll_below hl hb sp hread hA (fun x hx => hW0.lt x (by rw [hpq]; simpa using hx)) (fun x hx => hsp x (by rw [hpq]; simpa using hx))
  · intro sp hsp
    rw [List.append_nil, hfn, hvars]
    rfl
  · intro j t r h1 h2
    rw [hrt] at h1 h2
    match j with
    | 0 =>
      simp [Value.resultList] at h1 h2
      subst h1
      subst h2
      exact okWide_bool_mk htb true
    | j + 1 => simp at h1
end
end Go.Proofs.YtakllkkmofdpaaaGreatDoor
/- Words for memory and laws for the walk that every text of this seat uses. -/
namespace Go.Proofs.YtakllkkmofdpaaaGreatDoor
open Go.ChangeShapes Go.WideShapes Go.ChangeAt Go.RowKit
set_option linter.unusedVariables false

theorem ret_bool {a b : Bool} (h : a = b) : Ending.returned (.bool a) = .returned (.bool b) := by rw [h]
theorem ret_int {k : IntKind} {a b : Int} (h : a = b) : Ending.returned (.int k a) = .returned (.int k b) := by rw [h]

def callVal (v : Value) (args : Array Value) : Sem Next := do let d ← Deferred.ofValue v args; invoke d.target d.args
theorem execOp_call_val (a : Act) (dst : Option Tmp) (t : Nat) (xs : Array Operand) (ats : Array TypeId) (ty : TypeId) (pos : String) (after : Array Edge) (guard : Option (Nat × Bool)) :
    execOp a.eval { dst, op := .call { callee := .value (.tmp t), args := xs, argTypes := ats }, type := ty, pos, after, guard } = callVal (a.eval (.tmp t)) (xs.map a.eval) := rfl
theorem callVal_func (f : FuncId) (first cap args : Array Value) : callVal (.func (.func f) first cap) args = callFunc f (first ++ args ++ cap) := by
  rfl
theorem setCell_drewN (w : World) (n : Nat) (a : Addr) (v : Value) : (w.drewN n).setCell a v = (w.setCell a v).drewN n := rfl
theorem alloc_drewN (w : World) (n : Nat) (o : Obj) : (w.drewN n).alloc o = (w.alloc o).drewN n := rfl

def Blk (w : World) (g : Nat) (t : TypeId) (cs : Array Value) : Prop := w.heap[g]? = some (.cells cs t (0, 0))

section
variable {w w' : World} {g : Nat} {t : TypeId} {cs : Array Value}
theorem Blk.lt (h : Blk w g t cs) : g < w.heap.size := by
  rcases Nat.lt_or_ge g w.heap.size with hlt | hge
  · exact hlt
  · unfold Blk at h; rw [Array.getElem?_eq_none hge] at h; cases h
theorem Blk.cell (h : Blk w g t cs) (i : Nat) : w.cell? ⟨g, i, none⟩ = cs[i]? := cell_of_row w g i cs t (0, 0) h
theorem Blk.frozen (h : Blk w g t cs) (i : Nat) : w.frozen? ⟨g, i, none⟩ = false := by
  unfold Blk at h
  simp [World.frozen?, h]
theorem Blk.new (w : World) (t : TypeId) (cs : Array Value) : Blk (w.alloc (.cells cs t)) w.heap.size t cs := heap_alloc_new w _
theorem Blk.drew (h : Blk w g t cs) : Blk w.drew g t cs := h
theorem Blk.drewN (h : Blk w g t cs) (n : Nat) : Blk (w.drewN n) g t cs := h
theorem Blk.alloc (h : Blk w g t cs) (o : Obj) : Blk (w.alloc o) g t cs := (Below.heap_alloc w o g h.lt).trans h
theorem Blk.set_ (h : Blk w g t cs) (i : Nat) (u : Value) : Blk (w.setCell ⟨g, i, none⟩ u) g t (cs.setIfInBounds i u) := by
  unfold Blk at h ⊢
  simp [World.setCell, Array.getElem?_modify, h]
theorem Blk.far (h : Blk w g t cs) {p : Addr} (hp : g ≠ p.block) (u : Value) : Blk (w.setCell p u) g t cs := (Below.heap_setCell w p u g hp).trans h
theorem Blk.below {B : Nat} (h : Blk w g t cs) (hb : Below B w w') (hg : g < B) : Blk w' g t cs := (hb.block g hg).trans h
theorem Blk.grown {row : Option Nat} (h : Blk w g t cs) (hb : w.grownBy w' row) (hg : some g ≠ row) : Blk w' g t cs := (hb.block g h.lt hg).trans h
end

theorem below_drewN {B : Nat} {a w : World} (h : Below B a w) (n : Nat) : Below B a (w.drewN n) := ⟨h.os, h.tape, h.output, h.size, h.block⟩

theorem Blk.new_ {w : World} {t : TypeId} {cs : Array Value} {g : Nat} (h : g = w.heap.size) : Blk (w.alloc (.cells cs t)) g t cs := by subst h; exact Blk.new w t cs

theorem only_drewN {a w : World} {row : Option Nat} (h : a.grownBy w row) (n : Nat) : a.grownBy (w.drewN n) row := ⟨h.os, h.tape, h.output, h.size, h.block⟩

theorem only_setCell {a w : World} {g : Nat} (h : a.grownBy w (some g)) {p : Addr} (hp : p.block = g ∨ a.heap.size ≤ p.block) (u : Value) : a.grownBy (w.setCell p u) (some g) :=
  ⟨h.os, h.tape, h.output, by simpa [World.setCell] using h.size, fun i hi hne => (Below.heap_setCell w p u i (by
    rintro rfl
    rcases hp with hp | hp
    · exact hne (by rw [hp])
    · omega)).trans (h.block i hi hne)⟩
theorem only_set {a w : World} {p : Nat} (i : Nat) (u : Value) (h : a.grownBy w (some p)) : a.grownBy (w.setCell ⟨p, i, none⟩ u) (some p) := only_setCell h (.inl rfl) u
theorem Blk.set_at {w : World} {p t i : Nat} {cs cs' : Array Value} (u : Value) (hc : cs.setIfInBounds i u = cs') (h : Blk w p t cs) : Blk (w.setCell ⟨p, i, none⟩ u) p t cs' := by
  subst hc; exact h.set_ i u
theorem blk_set10 {w : World} {p t : Nat} {v0 v1 v2 v3 v4 v5 v6 v7 v8 v9 x0 x1 x2 x3 x4 x5 x6 x7 x8 x9 : Value} (h : Blk w p t #[x0, x1, x2, x3, x4, x5, x6, x7, x8, x9]) :
    Blk ((((((((((w.setCell ⟨p, 0, none⟩ v0).setCell ⟨p, 1, none⟩ v1).setCell ⟨p, 2, none⟩ v2).setCell ⟨p, 3, none⟩ v3).setCell ⟨p, 4, none⟩ v4).setCell ⟨p, 5, none⟩ v5).setCell ⟨p, 6, none⟩ v6).setCell ⟨p, 7, none⟩ v7).setCell ⟨p, 8, none⟩ v8).setCell ⟨p, 9, none⟩ v9) p t #[v0, v1, v2, v3, v4, v5, v6, v7, v8, v9] := by
  have h0 : Blk _ p t #[v0, x1, x2, x3, x4, x5, x6, x7, x8, x9] := h.set_at (i := 0) v0 (by simp)
  have h1 : Blk _ p t #[v0, v1, x2, x3, x4, x5, x6, x7, x8, x9] := h0.set_at (i := 1) v1 (by simp)
  have h2 : Blk _ p t #[v0, v1, v2, x3, x4, x5, x6, x7, x8, x9] := h1.set_at (i := 2) v2 (by simp)
  have h3 : Blk _ p t #[v0, v1, v2, v3, x4, x5, x6, x7, x8, x9] := h2.set_at (i := 3) v3 (by simp)
  have h4 : Blk _ p t #[v0, v1, v2, v3, v4, x5, x6, x7, x8, x9] := h3.set_at (i := 4) v4 (by simp)
  have h5 : Blk _ p t #[v0, v1, v2, v3, v4, v5, x6, x7, x8, x9] := h4.set_at (i := 5) v5 (by simp)
  have h6 : Blk _ p t #[v0, v1, v2, v3, v4, v5, v6, x7, x8, x9] := h5.set_at (i := 6) v6 (by simp)
  have h7 : Blk _ p t #[v0, v1, v2, v3, v4, v5, v6, v7, x8, x9] := h6.set_at (i := 7) v7 (by simp)
  have h8 : Blk _ p t #[v0, v1, v2, v3, v4, v5, v6, v7, v8, x9] := h7.set_at (i := 8) v8 (by simp)
  exact h8.set_at (i := 9) v9 (by simp)
theorem only_set10 {a w : World} {p : Nat} {v0 v1 v2 v3 v4 v5 v6 v7 v8 v9 : Value} (h : a.grownBy w (some p)) :
    a.grownBy ((((((((((w.setCell ⟨p, 0, none⟩ v0).setCell ⟨p, 1, none⟩ v1).setCell ⟨p, 2, none⟩ v2).setCell ⟨p, 3, none⟩ v3).setCell ⟨p, 4, none⟩ v4).setCell ⟨p, 5, none⟩ v5).setCell ⟨p, 6, none⟩ v6).setCell ⟨p, 7, none⟩ v7).setCell ⟨p, 8, none⟩ v8).setCell ⟨p, 9, none⟩ v9) (some p) :=
  only_set 9 _ (only_set 8 _ (only_set 7 _ (only_set 6 _ (only_set 5 _ (only_set 4 _ (only_set 3 _ (only_set 2 _ (only_set 1 _ (only_set 0 _ h)))))))))
theorem only_alloc {a w : World} {row : Option Nat} (h : a.grownBy w row) (o : Obj) : a.grownBy (w.alloc o) row :=
  ⟨h.os, h.tape, h.output, Nat.le_trans h.size (by simp), fun i hi hne => (Below.heap_alloc w o i (Nat.lt_of_lt_of_le hi h.size)).trans (h.block i hi hne)⟩
theorem only_of_below {a w : World} (h : Below a.heap.size a w) (row : Option Nat) : a.grownBy w row := ⟨h.os, h.tape, h.output, h.size, fun i hi _ => h.block i hi⟩
theorem only_trans {a b c : World} {g : Nat} (h : a.grownBy b (some g)) (k : b.grownBy c (some g)) : a.grownBy c (some g) :=
  ⟨k.os.trans h.os, k.tape.trans h.tape, k.output.trans h.output, Nat.le_trans h.size k.size, fun i hi hne => (k.block i (Nat.lt_of_lt_of_le hi h.size) hne).trans (h.block i hi hne)⟩
theorem below_only {a b c : World} {B g : Nat} (h : Below B a b) (k : b.grownBy c (some g)) (hg : B ≤ g) (hB : B ≤ a.heap.size) : Below B a c :=
  ⟨k.os.trans h.os, k.tape.trans h.tape, k.output.trans h.output, Nat.le_trans h.size k.size, fun i hi => (k.block i (Nat.lt_of_lt_of_le (Nat.lt_of_lt_of_le hi hB) h.size) (fun e => by injection e; omega)).trans (h.block i hi)⟩

/-- the slice value .slice A n c holds the cells xs (size cells an element), below block B -/
def Rd (w : World) (B size : Nat) (A : Option Addr) (n : Nat) (xs : List Value) : Prop :=
  xs.length = n * size ∧ (0 < n → ∃ b off, A = some ⟨b, off, none⟩ ∧ b < B ∧ ∀ j u, xs[j]? = some u → w.cell? ⟨b, off + j, none⟩ = some u)

theorem Rd.below {w w' : World} {B B' size n : Nat} {A : Option Addr} {xs : List Value} (h : Rd w B size A n xs) (hb : Below B' w w') (hB : B ≤ B') : Rd w' B size A n xs :=
  ⟨h.1, fun hn => by
    obtain ⟨b, off, e, hlt, hc⟩ := h.2 hn
    exact ⟨b, off, e, hlt, fun j u hu => (hb.cell (p := ⟨b, off + j, none⟩) (Nat.lt_of_lt_of_le hlt hB)).trans (hc j u hu)⟩⟩
theorem Rd.more {w : World} {B B' size n : Nat} {A : Option Addr} {xs : List Value} (h : Rd w B size A n xs) (hB : B ≤ B') : Rd w B' size A n xs :=
  ⟨h.1, fun hn => by
    obtain ⟨b, off, e, hlt, hc⟩ := h.2 hn
    exact ⟨b, off, e, Nat.lt_of_lt_of_le hlt hB, hc⟩⟩

theorem below_drew {B : Nat} {a w : World} (h : Below B a w) : Below B a w.drew := ⟨h.os, h.tape, h.output, h.size, h.block⟩

theorem callFunc_enter {P : Program} {F : FuncId} {fn : Func} {c : Code} (hf : P.funcs[F]? = some fn) (h1 : (fn.name == "runtime.NumGoroutine") = false) (hb : fn.body = some c) (args : Array Value) (w : World) :
    (callFunc F args).run P w = .ok (.enter F args) w := by
  simp only [callFunc, Sem.run_bind, run_program, Result.andThen_ok, hf]
  simp [h1, hb, Option.isNone]

theorem boxes3 (w : World) (v1 v2 v3 : Value) (t1 t2 t3 : TypeId) :
    Below w.heap.size w (((w.alloc (.cells #[v1] t1)).alloc (.cells #[v2] t2)).alloc (.cells #[v3] t3)) ∧ Blk (((w.alloc (.cells #[v1] t1)).alloc (.cells #[v2] t2)).alloc (.cells #[v3] t3)) w.heap.size t1 #[v1] ∧
    Blk (((w.alloc (.cells #[v1] t1)).alloc (.cells #[v2] t2)).alloc (.cells #[v3] t3)) (w.heap.size + 1) t2 #[v2] ∧ Blk (((w.alloc (.cells #[v1] t1)).alloc (.cells #[v2] t2)).alloc (.cells #[v3] t3)) (w.heap.size + 1 + 1) t3 #[v3] :=
  ⟨(((Below.refl _ _).alloc (Nat.le_refl _) _).alloc (by simp) _).alloc (by simp; omega) _, ((Blk.new w t1 _).alloc _).alloc _, (Blk.new_ (by simp)).alloc _, Blk.new_ (by simp)⟩

theorem one_facts {w : World} {g : Nat} {t : TypeId} {v : Value} (h : Blk w g t #[v]) : w.cell? ⟨g, 0, none⟩ = some v ∧ w.frozen? ⟨g, 0, none⟩ = false ∧ g < w.heap.size := ⟨h.cell 0, h.frozen 0, h.lt⟩

theorem own_nil (w : World) (t : TypeId) (size : Nat) : (w.alloc (.cells #[] t)).ownsRow w.heap.size t size (.slice (some ⟨w.heap.size, 0, none⟩) 0 0) 0 [] :=
  ⟨by simp, .inr ⟨w.heap.size, 0, #[], rfl, Nat.le_refl _, heap_alloc_new w _, Nat.le_refl _, by simp [maxLen], by simp, by simp⟩⟩

theorem tmodB (a n : Int) (h : 0 < n) : -n < a.tmod n ∧ a.tmod n < n := ⟨Int.lt_tmod_of_pos a h, Int.tmod_lt_of_pos a h⟩
end Go.Proofs.YtakllkkmofdpaaaGreatDoor
/- A slice that came in, opened to its cells; a struct that came in, opened to its fields. -/
namespace Go.Proofs.YtakllkkmofdpaaaGreatDoor
open Go.ChangeShapes Go.WideShapes Go.ChangeAt Go.RowKit Go.Joins Go.Deep
set_option linter.unusedVariables false

theorem flat_len {α β : Type} {el : α → List β} {sz : Nat} (hlen : ∀ a, (el a).length = sz) (xs : List α) : (xs.flatMap el).length = xs.length * sz := by
  induction xs with
  | nil => simp
  | cons x r ih => simp [ih, hlen, Nat.succ_mul, Nat.add_comm]
theorem flat_at {α β : Type} {el : α → List β} {sz : Nat} (hlen : ∀ a, (el a).length = sz) : ∀ (xs : List α) (i : Nat) (x : α), xs[i]? = some x → ∀ k, k < sz → (xs.flatMap el)[i * sz + k]? = (el x)[k]?
  | [], i, x, h, k, hk => by simp at h
  | y :: r, 0, x, h, k, hk => by
    simp at h; subst h
    rw [List.flatMap_cons, List.getElem?_append_left (by rw [hlen]; omega)]
    simp
  | y :: r, i + 1, x, h, k, hk => by
    rw [List.flatMap_cons, List.getElem?_append_right (by rw [hlen, Nat.succ_mul]; omega), hlen]
    rw [show (i + 1) * sz + k - sz = i * sz + k from by rw [Nat.succ_mul]; omega]
    exact flat_at hlen r i x (by simpa using h) k hk

theorem cell_lt {w : World} {a : Addr} {v : Value} (h : w.cell? a = some v) : a.block < w.heap.size ∧ a.spot = none := by
  unfold World.cell? at h
  cases hb : w.heap[a.block]? with
  | none => rw [hb] at h; cases h
  | some o =>
    rw [hb] at h
    refine ⟨(Array.getElem?_eq_some_iff.1 hb).1, ?_⟩
    cases o with
    | cells c t f =>
      simp only at h
      split at h
      · cases h
      · rename_i hs; simpa using hs
    | _ => cases h

theorem choose_list {α : Type} (n : Nat) {Q : Nat → α → Prop} (h : ∀ i, i < n → ∃ a, Q i a) : ∃ xs : List α, xs.length = n ∧ ∀ (i : Nat) (a : α), xs[i]? = some a → Q i a := by
  induction n with
  | zero => exact ⟨[], rfl, by simp⟩
  | succ n ih =>
    obtain ⟨xs, hl, hx⟩ := ih fun i hi => h i (by omega)
    obtain ⟨a, ha⟩ := h n (by omega)
    refine ⟨xs ++ [a], by simp [hl], fun i b hb => ?_⟩
    by_cases hi : i < n
    · rw [List.getElem?_append_left (by omega)] at hb; exact hx i b hb
    · rw [List.getElem?_append_right (by omega)] at hb
      have hin : i = n := by
        have := (List.getElem?_eq_some_iff.1 hb).1; simp at this; omega
      subst hin
      simp [hl] at hb
      subst hb
      exact ha

section
variable {H : Type} {enc : TypeId × Value → H} {P : Program} {w : World} {spare : Nat → Bool} {held : Bool}
theorem open_list {α : Type} (el : α → List Value) (sz : Nat) (Q : α → Prop) {t e : TypeId} {fuel : Nat} {cs : List Value} {x : DataW H × List MemPlace} (ht : P.underlying t = some (.slice e)) (hC : P.cellsOf e = sz) (hpos : 0 < sz)
    (hlen : ∀ a, (el a).length = sz) (hel : ∀ (fu : Nat) (cs' : List Value) (y : DataW H × List MemPlace), DataW.trod enc P w 0 spare held fu e cs' = some y → ∃ a, cs' = el a ∧ Q a)
    (h : DataW.trod enc P w 0 spare held fuel t cs = some x) :
    ∃ (A : Option Addr) (n c : Nat) (xs : List α), cs = [.slice A n c] ∧ n ≤ c ∧ c ≤ maxLen ∧ xs.length = n ∧ (∀ a ∈ xs, Q a) ∧ Rd w w.heap.size sz A n (xs.flatMap el) := by
  rcases open_slice ht h with ⟨rfl, _⟩ | ⟨a, len, cap, m, fu, D, Pl, rfl, hb, hl, hm, hmm, _, hi⟩
  · exact ⟨none, 0, 0, [], rfl, Nat.le_refl _, by simp [maxLen], rfl, by simp, by simp, fun h => by omega⟩
  · have hlm : len ≤ m := by rw [hmm]; split <;> omega
    have key : ∀ i, i < len → ∃ y : α, w.cells? 0 (a.add (i * sz)) sz = some (el y) ∧ Q y := by
      intro i hin
      obtain ⟨cs', hc, ht'⟩ := hi i (by omega)
      obtain ⟨y, rfl, hq⟩ := hel _ _ _ ht'
      exact ⟨y, by rw [hC] at hc; exact hc, hq⟩
    obtain ⟨xs, hxl, hx⟩ := choose_list len key
    refine ⟨some a, len, cap, xs, rfl, hl, hm, hxl, fun y hy => ?_, by rw [flat_len hlen, hxl], fun h0 => ?_⟩
    · obtain ⟨i, hi⟩ := List.getElem?_of_mem hy
      exact (hx i y hi).2
    · obtain ⟨y0, hy0⟩ : ∃ y, xs[0]? = some y := ⟨_, List.getElem?_eq_getElem (by omega)⟩
      obtain ⟨_, _, hat0⟩ := World.cells?_some (hx 0 y0 hy0).1
      have hc0 := hat0 0 hpos
      have hv0 : (el y0)[0]? = some ((el y0)[0]'(by rw [hlen]; omega)) := List.getElem?_eq_getElem (by rw [hlen]; omega)
      rw [hv0] at hc0
      obtain ⟨hlt, hsp⟩ := cell_lt hc0
      have hs : a.spot = none := by simpa [Addr.add] using hsp
      have hadd : ∀ j, (a.add j) = ⟨a.block, a.off + j, none⟩ := by
        intro j
        unfold Addr.add
        split
        · rename_i hj; subst hj; cases a; simp at hs; subst hs; rfl
        · rfl
      refine ⟨a.block, a.off, by cases a; simp at hs; subst hs; rfl, by simpa [Addr.add] using hlt, fun j u hu => ?_⟩
      have hjl : j < len * sz := by have := (List.getElem?_eq_some_iff.1 hu).1; rw [flat_len hlen, hxl] at this; exact this
      have hq : j / sz < len := Nat.div_lt_of_lt_mul (by rw [Nat.mul_comm]; exact hjl)
      obtain ⟨y, hy⟩ : ∃ y, xs[j / sz]? = some y := ⟨_, List.getElem?_eq_getElem (by omega)⟩
      have hm' : j % sz < sz := Nat.mod_lt _ hpos
      have hdm : j / sz * sz + j % sz = j := by have := Nat.div_add_mod j sz; rw [Nat.mul_comm] at this; exact this
      have h1 := flat_at hlen xs _ y hy _ hm'
      rw [hdm, hu] at h1
      obtain ⟨_, _, hat⟩ := World.cells?_some (hx _ y hy).1
      have h2 := hat _ hm'
      rw [Go.Deep.add_add, hdm] at h2
      rw [← hadd, h2, ← h1]

/-- a field of a struct that came in, one cell wide -/
theorem open_flat {t : TypeId} {fs : Array Field} {fuel : Nat} {cs : List Value} {x : DataW H × List MemPlace} (ht : P.underlying t = some (.struct fs)) (hone : oneCellFields P fs = true) (hC : P.cellsOf t = fs.size)
    (h : DataW.trod enc P w 0 spare held fuel t cs = some x) : cs.length = fs.size ∧ ∀ (j : Nat) (f : Field), fs[j]? = some f → ∃ (v : Value) (n : Nat) (y : DataW H × List MemPlace), cs[j]? = some v ∧ DataW.trod enc P w 0 spare held n f.type [v] = some y := by
  obtain ⟨ys, n', hn', hy, hlen, hyl, hf⟩ := DataW.trod_struct ht h
  rw [hC] at hlen
  refine ⟨hlen, fun j f hj => ?_⟩
  obtain ⟨ho, hk⟩ := hone_of hone j f hj
  have hjl : j < fs.size := (Array.getElem?_eq_some_iff.1 hj).1
  have h1 := hf j f hj
  rw [ho, hk] at h1
  have hone' : (cs.drop j).take 1 = [cs[j]'(by omega)] := by
    rw [List.drop_eq_getElem_cons (by omega)]
    rfl
  rw [hone'] at h1
  exact ⟨_, n', _, List.getElem?_eq_getElem (by omega), h1.trans (List.getElem?_eq_getElem (by omega))⟩
theorem open_int1 {t : TypeId} {k : IntKind} {fuel : Nat} {cs : List Value} {x : DataW H × List MemPlace} (ht : P.underlying t = some (.int k)) (h : DataW.trod enc P w 0 spare held fuel t cs = some x) : ∃ n : Int, cs = [.int k n] ∧ (Lit.int k n).wf = true := by
  obtain ⟨n, h1, _, h2⟩ := DataW.trod_int ht h; exact ⟨n, h1, h2⟩
theorem open_str1 {t : TypeId} {fuel : Nat} {cs : List Value} {x : DataW H × List MemPlace} (ht : P.underlying t = some .string) (h : DataW.trod enc P w 0 spare held fuel t cs = some x) : ∃ s : ByteArray, cs = [.string s] ∧ s.size ≤ maxLen := by
  obtain ⟨n, h1, _, h2⟩ := DataW.trod_string ht h; exact ⟨n, h1, h2⟩
end
end Go.Proofs.YtakllkkmofdpaaaGreatDoor
/- Slices of integers in memory. -/
namespace Go.Proofs.YtakllkkmofdpaaaGreatDoor
open Go.ChangeShapes Go.WideShapes Go.ChangeAt Go.RowKit
set_option linter.unusedVariables false
attribute [local go_sem ↓] execOp_call_val
attribute [local go_sem] callVal_func setCell_drewN alloc_drewN

def ints (zs : List Int) : List Value := zs.map (Value.int .i64)
def RdI (w : World) (B : Nat) (A : Option Addr) (n : Nat) (zs : List Int) : Prop := Rd w B 1 A n (ints zs)
theorem RdI.len {w : World} {B n : Nat} {A : Option Addr} {zs : List Int} (h : RdI w B A n zs) : zs.length = n := by have := h.1; simp [ints] at this; omega
theorem RdI.below {w w' : World} {B B' n : Nat} {A : Option Addr} {zs : List Int} (h : RdI w B A n zs) (hb : Below B' w w') (hB : B ≤ B') : RdI w' B A n zs := Rd.below h hb hB
theorem RdI.more {w : World} {B B' n : Nat} {A : Option Addr} {zs : List Int} (h : RdI w B A n zs) (hB : B ≤ B') : RdI w B' A n zs := Rd.more h hB
theorem RdI.at_ {w : World} {B n : Nat} {b off : Nat} {zs : List Int} (h : RdI w B (some ⟨b, off, none⟩) n zs) {i : Nat} {z : Int} (hz : zs[i]? = some z) : w.cell? ⟨b, off + i, none⟩ = some (.int .i64 z) := by
  have hl : i < zs.length := (List.getElem?_eq_some_iff.1 hz).1
  have := h.len
  obtain ⟨b', off', e, _, hc⟩ := h.2 (by omega)
  injection e with e
  injection e with e1 e2
  subst e1; subst e2
  exact hc i _ (by simp [ints, hz])
theorem RdI.blk {w : World} {B n : Nat} {b off : Nat} {zs : List Int} (h : RdI w B (some ⟨b, off, none⟩) n zs) (h0 : 0 < n) : b < B := by
  obtain ⟨b', off', e, hlt, _⟩ := h.2 h0
  injection e with e
  injection e with e1 e2
  omega
theorem rdI_nil (w : World) (B : Nat) (A : Option Addr) : RdI w B A 0 [] := ⟨rfl, fun h => by omega⟩
theorem Rd.grownP {w w' : World} {p size n : Nat} {A : Option Addr} {xs : List Value} (h : Rd w p size A n xs) (hp : p ≤ w.heap.size) (hg : w.grownBy w' (some p)) : Rd w' p size A n xs :=
  ⟨h.1, fun hn => by
    obtain ⟨b, off, e, hlt, hc⟩ := h.2 hn
    exact ⟨b, off, e, hlt, fun j u hu => (World.cell?_of_block (a := ⟨b, off + j, none⟩) (hg.block b (by omega) (fun e => by injection e; omega))).trans (hc j u hu)⟩⟩
theorem rdI_own {w : World} {B g cap n e : Nat} {zs : List Int} (h : w.ownsRow B e 1 (.slice (some ⟨g, 0, none⟩) n cap) n (ints zs)) : RdI w w.heap.size (some ⟨g, 0, none⟩) n zs := by
  refine ⟨h.1, fun h0 => ⟨g, 0, rfl, (h.lt g (by simp [Value.ownBlock])).2, fun j u hu => ?_⟩⟩
  have hj : j < n * 1 := by have := (List.getElem?_eq_some_iff.1 hu).1; have := h.1; omega
  rw [Nat.zero_add, h.cellAt j hj]
  exact hu
theorem drop_cons {α : Type} {l : List α} {k : Nat} {x : α} (h : l[k]? = some x) : l.drop k = x :: l.drop (k + 1) := by
  obtain ⟨hl, he⟩ := List.getElem?_eq_some_iff.1 h
  rw [List.drop_eq_getElem_cons hl, he]

def idxGo {α : Type} (p : α → Bool) : List α → Nat → Int
  | [], _ => -1
  | z :: r, k => if p z then k else idxGo p r (k + 1)
theorem idxGo_any {α : Type} (p : α → Bool) : ∀ (l : List α) (k : Nat), decide (0 ≤ idxGo p l k) = l.any p
  | [], k => by simp [idxGo]
  | z :: r, k => by
    unfold idxGo
    cases h : p z with
    | true => simp [h]
    | false => simp [h, idxGo_any p r (k + 1)]
theorem idxGo_spec {α : Type} (p : α → Bool) : ∀ (l : List α) (k : Nat), (idxGo p l k = -1 ∧ ∀ x ∈ l, p x = false) ∨ (∃ (i : Nat) (x : α), idxGo p l k = ((k + i : Nat) : Int) ∧ l[i]? = some x ∧ p x = true ∧ ∀ (j : Nat) (y : α), j < i → l[j]? = some y → p y = false)
  | [], k => .inl ⟨rfl, by simp⟩
  | z :: r, k => by
    unfold idxGo
    cases h : p z with
    | true => exact .inr ⟨0, z, by simp, by simp, h, fun j y hj => by omega⟩
    | false =>
      rcases idxGo_spec p r (k + 1) with ⟨h1, h2⟩ | ⟨i, x, h1, h2, h3, h4⟩
      · left
        simp only [Bool.false_eq_true, if_false]
        exact ⟨h1, fun x hx => by rcases List.mem_cons.1 hx with rfl | hx; exact h; exact h2 x hx⟩
      · right
        simp only [Bool.false_eq_true, if_false]
        refine ⟨i + 1, x, by rw [h1]; congr 1; omega, by simpa using h2, h3, fun j y hj hy => ?_⟩
        cases j with
        | zero => simp at hy; subst hy; exact h
        | succ j => exact h4 j y (by omega) (by simpa using hy)

end Go.Proofs.YtakllkkmofdpaaaGreatDoor
/- The data of a network in memory. -/
namespace Go.Proofs.YtakllkkmofdpaaaGreatDoor
open Go.ChangeShapes Go.WideShapes Go.ChangeAt Go.RowKit Go.Joins Go.Deep
set_option linter.unusedVariables false
attribute [local go_sem ↓] execOp_call_val
attribute [local go_sem] callVal_func setCell_drewN alloc_drewN

def sEq (z y : ByteArray) : Bool := decide (z = y)
theorem sEq_walk (z y : ByteArray) : (z.toList == y.toList) = sEq z y := by
  unfold sEq
  rw [ByteArray.toList_eq, ByteArray.toList_eq, Bool.eq_iff_iff, beq_iff_eq, decide_eq_true_eq]
  constructor
  · intro h
    cases z; cases y
    simp at h
    rw [h]
  · rintro rfl; rfl
theorem sEq_iff {z y : ByteArray} : sEq z y = true ↔ z = y := by unfold sEq; exact decide_eq_true_iff
theorem sEq_ff {z y : ByteArray} : sEq z y = false ↔ z ≠ y := by unfold sEq; exact decide_eq_false_iff_not
def strsV (ss : List ByteArray) : List Value := ss.map Value.string
def RdStr (w : World) (B : Nat) (A : Option Addr) (n : Nat) (ss : List ByteArray) : Prop := ss.length = n ∧ Rd w B 1 A n (strsV ss)
theorem RdStr.below {w w' : World} {B B' n : Nat} {A : Option Addr} {xs : List ByteArray} (h : RdStr w B A n xs) (hb : Below B' w w') (hB : B ≤ B') : RdStr w' B A n xs := ⟨h.1, h.2.below hb hB⟩
theorem RdStr.more {w : World} {B B' n : Nat} {A : Option Addr} {xs : List ByteArray} (h : RdStr w B A n xs) (hB : B ≤ B') : RdStr w B' A n xs := ⟨h.1, h.2.more hB⟩
theorem RdStr.form {w : World} {B n : Nat} {A : Option Addr} {xs : List ByteArray} (h : RdStr w B A n xs) (h0 : 0 < n) : ∃ b off, A = some ⟨b, off, none⟩ ∧ b < B := by
  obtain ⟨b, off, e, hlt, _⟩ := h.2.2 h0
  exact ⟨b, off, e, hlt⟩
theorem RdStr.at_ {w : World} {B n : Nat} {b off : Nat} {xs : List ByteArray} (h : RdStr w B (some ⟨b, off, none⟩) n xs) {i : Nat} {x : ByteArray} (hx : xs[i]? = some x) : w.cell? ⟨b, off + i, none⟩ = some (.string x) := by
  have hl : i < xs.length := (List.getElem?_eq_some_iff.1 hx).1
  have h1 := h.1
  obtain ⟨b', off', e, _, hc⟩ := h.2.2 (by omega)
  injection e with e
  injection e with e1 e2
  subst e1; subst e2
  exact hc i _ (by simp [strsV, hx])
theorem rdStr_nil (w : World) (B : Nat) (A : Option Addr) : RdStr w B A 0 [] := ⟨rfl, rfl, fun h => by omega⟩
theorem rdStr_lit {w : World} {B g : Nat} {T : TypeId} {zs : List ByteArray} (h : Blk w g T (strsV zs).toArray) (hg : g < B) : RdStr w B (some ⟨g, 0, none⟩) zs.length zs :=
  ⟨rfl, by simp [strsV], fun _ => ⟨g, 0, rfl, hg, fun j u hu => by
    rw [show (⟨g, 0 + j, none⟩ : Addr) = ⟨g, j, none⟩ from by simp]
    rw [h.cell j]
    simpa using hu⟩⟩
theorem RdStr.take {w : World} {B n m : Nat} {A : Option Addr} {zs : List ByteArray} (h : RdStr w B A n zs) (hm : m ≤ n) : RdStr w B A m (zs.take m) := by
  have hl := h.1
  refine ⟨by simp; omega, by simp [strsV]; omega, fun h0 => ?_⟩
  obtain ⟨b, off, e, hlt, hc⟩ := h.2.2 (by omega)
  refine ⟨b, off, e, hlt, fun j u hu => hc j u ?_⟩
  simp only [strsV, List.map_take] at hu ⊢
  rw [List.getElem?_take] at hu
  split at hu
  · exact hu
  · cases hu
theorem rdStr_own {w : World} {B g cap n e : Nat} {zs : List ByteArray} (h : w.ownsRow B e 1 (.slice (some ⟨g, 0, none⟩) n cap) n (strsV zs)) : RdStr w w.heap.size (some ⟨g, 0, none⟩) n zs := by
  refine ⟨by have := h.1; simp [strsV] at this; omega, h.1, fun h0 => ⟨g, 0, rfl, (h.lt g (by simp [Value.ownBlock])).2, fun j u hu => ?_⟩⟩
  have hj : j < n * 1 := by have := (List.getElem?_eq_some_iff.1 hu).1; have := h.1; omega
  rw [Nat.zero_add, h.cellAt j hj]
  exact hu

structure Sw where
  name : ByteArray
  a : ByteArray
  b : ByteArray
  breaker : Bool
  opn : Bool
def Sw.cells (x : Sw) : List Value := [.string x.name, .string x.a, .string x.b, .bool x.breaker, .bool x.opn]
def Sw.val (x : Sw) : Value := .agg #[.string x.name, .string x.a, .string x.b, .bool x.breaker, .bool x.opn]
theorem Sw.len (x : Sw) : x.cells.length = 5 := rfl
def RdSw (w : World) (B : Nat) (A : Option Addr) (n : Nat) (xs : List Sw) : Prop := xs.length = n ∧ Rd w B 5 A n (xs.flatMap Sw.cells)
theorem RdSw.below {w w' : World} {B B' n : Nat} {A : Option Addr} {xs : List Sw} (h : RdSw w B A n xs) (hb : Below B' w w') (hB : B ≤ B') : RdSw w' B A n xs := ⟨h.1, h.2.below hb hB⟩
theorem RdSw.more {w : World} {B B' n : Nat} {A : Option Addr} {xs : List Sw} (h : RdSw w B A n xs) (hB : B ≤ B') : RdSw w B' A n xs := ⟨h.1, h.2.more hB⟩
theorem RdSw.at_ {w : World} {B n : Nat} {b off : Nat} {xs : List Sw} (h : RdSw w B (some ⟨b, off, none⟩) n xs) {i : Nat} {x : Sw} (hx : xs[i]? = some x) :
    w.cell? ⟨b, off + i * 5, none⟩ = some (.string x.name) ∧ w.cell? ⟨b, off + i * 5 + 1, none⟩ = some (.string x.a) ∧ w.cell? ⟨b, off + i * 5 + 2, none⟩ = some (.string x.b) ∧ w.cell? ⟨b, off + i * 5 + 3, none⟩ = some (.bool x.breaker) ∧ w.cell? ⟨b, off + i * 5 + 4, none⟩ = some (.bool x.opn) := by
  have hl : i < xs.length := (List.getElem?_eq_some_iff.1 hx).1
  have h1 := h.1
  obtain ⟨b', off', e, _, hc⟩ := h.2.2 (by omega)
  injection e with e
  injection e with e1 e2
  subst e1; subst e2
  have key : ∀ k, k < 5 → ∀ u, x.cells[k]? = some u → w.cell? ⟨b, off + i * 5 + k, none⟩ = some u := fun k hk u hu => by
    have := hc (i * 5 + k) u (by rw [flat_at Sw.len xs i x hx k hk]; exact hu)
    rwa [← Nat.add_assoc] at this
  exact ⟨key 0 (by omega) _ rfl, key 1 (by omega) _ rfl, key 2 (by omega) _ rfl, key 3 (by omega) _ rfl, key 4 (by omega) _ rfl⟩
theorem RdSw.form {w : World} {B n : Nat} {A : Option Addr} {xs : List Sw} (h : RdSw w B A n xs) (h0 : 0 < n) : ∃ b off, A = some ⟨b, off, none⟩ ∧ b < B := by
  obtain ⟨b, off, e, hlt, _⟩ := h.2.2 h0
  exact ⟨b, off, e, hlt⟩
theorem Sw.box {w : World} {p : Nat} {t : TypeId} {x : Sw} (h : Blk w p t #[.string x.name, .string x.a, .string x.b, .bool x.breaker, .bool x.opn]) : w.cell? ⟨p, 0, none⟩ = some (.string x.name) ∧ w.cell? ⟨p, 1, none⟩ = some (.string x.a) ∧ w.cell? ⟨p, 2, none⟩ = some (.string x.b) ∧ w.cell? ⟨p, 3, none⟩ = some (.bool x.breaker) ∧ w.cell? ⟨p, 4, none⟩ = some (.bool x.opn) ∧ (∀ i, w.frozen? ⟨p, i, none⟩ = false) ∧ p < w.heap.size :=
  ⟨h.cell 0, h.cell 1, h.cell 2, h.cell 3, h.cell 4, h.frozen, h.lt⟩

structure Br where
  name : ByteArray
  fr : ByteArray
  to : ByteArray
  x : Int
  tap : Int
  shift : Int
  limit : Int
  short : Int
  hold : Int
def Br.cells (x : Br) : List Value := [.string x.name, .string x.fr, .string x.to, .int .i64 x.x, .int .i64 x.tap, .int .i64 x.shift, .int .i64 x.limit, .int .i64 x.short, .int .i64 x.hold]
def Br.val (x : Br) : Value := .agg #[.string x.name, .string x.fr, .string x.to, .int .i64 x.x, .int .i64 x.tap, .int .i64 x.shift, .int .i64 x.limit, .int .i64 x.short, .int .i64 x.hold]
theorem Br.len (x : Br) : x.cells.length = 9 := rfl
def RdBr (w : World) (B : Nat) (A : Option Addr) (n : Nat) (xs : List Br) : Prop := xs.length = n ∧ Rd w B 9 A n (xs.flatMap Br.cells)
theorem RdBr.below {w w' : World} {B B' n : Nat} {A : Option Addr} {xs : List Br} (h : RdBr w B A n xs) (hb : Below B' w w') (hB : B ≤ B') : RdBr w' B A n xs := ⟨h.1, h.2.below hb hB⟩
theorem RdBr.more {w : World} {B B' n : Nat} {A : Option Addr} {xs : List Br} (h : RdBr w B A n xs) (hB : B ≤ B') : RdBr w B' A n xs := ⟨h.1, h.2.more hB⟩
theorem RdBr.at_ {w : World} {B n : Nat} {b off : Nat} {xs : List Br} (h : RdBr w B (some ⟨b, off, none⟩) n xs) {i : Nat} {x : Br} (hx : xs[i]? = some x) :
    w.cell? ⟨b, off + i * 9, none⟩ = some (.string x.name) ∧ w.cell? ⟨b, off + i * 9 + 1, none⟩ = some (.string x.fr) ∧ w.cell? ⟨b, off + i * 9 + 2, none⟩ = some (.string x.to) ∧ w.cell? ⟨b, off + i * 9 + 3, none⟩ = some (.int .i64 x.x) ∧ w.cell? ⟨b, off + i * 9 + 4, none⟩ = some (.int .i64 x.tap) ∧ w.cell? ⟨b, off + i * 9 + 5, none⟩ = some (.int .i64 x.shift) ∧ w.cell? ⟨b, off + i * 9 + 6, none⟩ = some (.int .i64 x.limit) ∧ w.cell? ⟨b, off + i * 9 + 7, none⟩ = some (.int .i64 x.short) ∧ w.cell? ⟨b, off + i * 9 + 8, none⟩ = some (.int .i64 x.hold) := by
  have hl : i < xs.length := (List.getElem?_eq_some_iff.1 hx).1
  have h1 := h.1
  obtain ⟨b', off', e, _, hc⟩ := h.2.2 (by omega)
  injection e with e
  injection e with e1 e2
  subst e1; subst e2
  have key : ∀ k, k < 9 → ∀ u, x.cells[k]? = some u → w.cell? ⟨b, off + i * 9 + k, none⟩ = some u := fun k hk u hu => by
    have := hc (i * 9 + k) u (by rw [flat_at Br.len xs i x hx k hk]; exact hu)
    rwa [← Nat.add_assoc] at this
  exact ⟨key 0 (by omega) _ rfl, key 1 (by omega) _ rfl, key 2 (by omega) _ rfl, key 3 (by omega) _ rfl, key 4 (by omega) _ rfl, key 5 (by omega) _ rfl, key 6 (by omega) _ rfl, key 7 (by omega) _ rfl, key 8 (by omega) _ rfl⟩
theorem RdBr.form {w : World} {B n : Nat} {A : Option Addr} {xs : List Br} (h : RdBr w B A n xs) (h0 : 0 < n) : ∃ b off, A = some ⟨b, off, none⟩ ∧ b < B := by
  obtain ⟨b, off, e, hlt, _⟩ := h.2.2 h0
  exact ⟨b, off, e, hlt⟩
theorem Br.box {w : World} {p : Nat} {t : TypeId} {x : Br} (h : Blk w p t #[.string x.name, .string x.fr, .string x.to, .int .i64 x.x, .int .i64 x.tap, .int .i64 x.shift, .int .i64 x.limit, .int .i64 x.short, .int .i64 x.hold]) : w.cell? ⟨p, 0, none⟩ = some (.string x.name) ∧ w.cell? ⟨p, 1, none⟩ = some (.string x.fr) ∧ w.cell? ⟨p, 2, none⟩ = some (.string x.to) ∧ w.cell? ⟨p, 3, none⟩ = some (.int .i64 x.x) ∧ w.cell? ⟨p, 4, none⟩ = some (.int .i64 x.tap) ∧ w.cell? ⟨p, 5, none⟩ = some (.int .i64 x.shift) ∧ w.cell? ⟨p, 6, none⟩ = some (.int .i64 x.limit) ∧ w.cell? ⟨p, 7, none⟩ = some (.int .i64 x.short) ∧ w.cell? ⟨p, 8, none⟩ = some (.int .i64 x.hold) ∧ (∀ i, w.frozen? ⟨p, i, none⟩ = false) ∧ p < w.heap.size :=
  ⟨h.cell 0, h.cell 1, h.cell 2, h.cell 3, h.cell 4, h.cell 5, h.cell 6, h.cell 7, h.cell 8, h.frozen, h.lt⟩

structure Gn where
  name : ByteArray
  node : ByteArray
  least : Int
  most : Int
  ramp : Int
def Gn.cells (x : Gn) : List Value := [.string x.name, .string x.node, .int .i64 x.least, .int .i64 x.most, .int .i64 x.ramp]
def Gn.val (x : Gn) : Value := .agg #[.string x.name, .string x.node, .int .i64 x.least, .int .i64 x.most, .int .i64 x.ramp]
theorem Gn.len (x : Gn) : x.cells.length = 5 := rfl
def RdGn (w : World) (B : Nat) (A : Option Addr) (n : Nat) (xs : List Gn) : Prop := xs.length = n ∧ Rd w B 5 A n (xs.flatMap Gn.cells)
theorem RdGn.below {w w' : World} {B B' n : Nat} {A : Option Addr} {xs : List Gn} (h : RdGn w B A n xs) (hb : Below B' w w') (hB : B ≤ B') : RdGn w' B A n xs := ⟨h.1, h.2.below hb hB⟩
theorem RdGn.more {w : World} {B B' n : Nat} {A : Option Addr} {xs : List Gn} (h : RdGn w B A n xs) (hB : B ≤ B') : RdGn w B' A n xs := ⟨h.1, h.2.more hB⟩
theorem RdGn.at_ {w : World} {B n : Nat} {b off : Nat} {xs : List Gn} (h : RdGn w B (some ⟨b, off, none⟩) n xs) {i : Nat} {x : Gn} (hx : xs[i]? = some x) :
    w.cell? ⟨b, off + i * 5, none⟩ = some (.string x.name) ∧ w.cell? ⟨b, off + i * 5 + 1, none⟩ = some (.string x.node) ∧ w.cell? ⟨b, off + i * 5 + 2, none⟩ = some (.int .i64 x.least) ∧ w.cell? ⟨b, off + i * 5 + 3, none⟩ = some (.int .i64 x.most) ∧ w.cell? ⟨b, off + i * 5 + 4, none⟩ = some (.int .i64 x.ramp) := by
  have hl : i < xs.length := (List.getElem?_eq_some_iff.1 hx).1
  have h1 := h.1
  obtain ⟨b', off', e, _, hc⟩ := h.2.2 (by omega)
  injection e with e
  injection e with e1 e2
  subst e1; subst e2
  have key : ∀ k, k < 5 → ∀ u, x.cells[k]? = some u → w.cell? ⟨b, off + i * 5 + k, none⟩ = some u := fun k hk u hu => by
    have := hc (i * 5 + k) u (by rw [flat_at Gn.len xs i x hx k hk]; exact hu)
    rwa [← Nat.add_assoc] at this
  exact ⟨key 0 (by omega) _ rfl, key 1 (by omega) _ rfl, key 2 (by omega) _ rfl, key 3 (by omega) _ rfl, key 4 (by omega) _ rfl⟩
theorem RdGn.form {w : World} {B n : Nat} {A : Option Addr} {xs : List Gn} (h : RdGn w B A n xs) (h0 : 0 < n) : ∃ b off, A = some ⟨b, off, none⟩ ∧ b < B := by
  obtain ⟨b, off, e, hlt, _⟩ := h.2.2 h0
  exact ⟨b, off, e, hlt⟩
theorem Gn.box {w : World} {p : Nat} {t : TypeId} {x : Gn} (h : Blk w p t #[.string x.name, .string x.node, .int .i64 x.least, .int .i64 x.most, .int .i64 x.ramp]) : w.cell? ⟨p, 0, none⟩ = some (.string x.name) ∧ w.cell? ⟨p, 1, none⟩ = some (.string x.node) ∧ w.cell? ⟨p, 2, none⟩ = some (.int .i64 x.least) ∧ w.cell? ⟨p, 3, none⟩ = some (.int .i64 x.most) ∧ w.cell? ⟨p, 4, none⟩ = some (.int .i64 x.ramp) ∧ (∀ i, w.frozen? ⟨p, i, none⟩ = false) ∧ p < w.heap.size :=
  ⟨h.cell 0, h.cell 1, h.cell 2, h.cell 3, h.cell 4, h.frozen, h.lt⟩

structure Ld where
  name : ByteArray
  node : ByteArray
  demand : Int
def Ld.cells (x : Ld) : List Value := [.string x.name, .string x.node, .int .i64 x.demand]
def Ld.val (x : Ld) : Value := .agg #[.string x.name, .string x.node, .int .i64 x.demand]
theorem Ld.len (x : Ld) : x.cells.length = 3 := rfl
def RdLd (w : World) (B : Nat) (A : Option Addr) (n : Nat) (xs : List Ld) : Prop := xs.length = n ∧ Rd w B 3 A n (xs.flatMap Ld.cells)
theorem RdLd.below {w w' : World} {B B' n : Nat} {A : Option Addr} {xs : List Ld} (h : RdLd w B A n xs) (hb : Below B' w w') (hB : B ≤ B') : RdLd w' B A n xs := ⟨h.1, h.2.below hb hB⟩
theorem RdLd.more {w : World} {B B' n : Nat} {A : Option Addr} {xs : List Ld} (h : RdLd w B A n xs) (hB : B ≤ B') : RdLd w B' A n xs := ⟨h.1, h.2.more hB⟩
theorem RdLd.at_ {w : World} {B n : Nat} {b off : Nat} {xs : List Ld} (h : RdLd w B (some ⟨b, off, none⟩) n xs) {i : Nat} {x : Ld} (hx : xs[i]? = some x) :
    w.cell? ⟨b, off + i * 3, none⟩ = some (.string x.name) ∧ w.cell? ⟨b, off + i * 3 + 1, none⟩ = some (.string x.node) ∧ w.cell? ⟨b, off + i * 3 + 2, none⟩ = some (.int .i64 x.demand) := by
  have hl : i < xs.length := (List.getElem?_eq_some_iff.1 hx).1
  have h1 := h.1
  obtain ⟨b', off', e, _, hc⟩ := h.2.2 (by omega)
  injection e with e
  injection e with e1 e2
  subst e1; subst e2
  have key : ∀ k, k < 3 → ∀ u, x.cells[k]? = some u → w.cell? ⟨b, off + i * 3 + k, none⟩ = some u := fun k hk u hu => by
    have := hc (i * 3 + k) u (by rw [flat_at Ld.len xs i x hx k hk]; exact hu)
    rwa [← Nat.add_assoc] at this
  exact ⟨key 0 (by omega) _ rfl, key 1 (by omega) _ rfl, key 2 (by omega) _ rfl⟩
theorem RdLd.form {w : World} {B n : Nat} {A : Option Addr} {xs : List Ld} (h : RdLd w B A n xs) (h0 : 0 < n) : ∃ b off, A = some ⟨b, off, none⟩ ∧ b < B := by
  obtain ⟨b, off, e, hlt, _⟩ := h.2.2 h0
  exact ⟨b, off, e, hlt⟩
theorem Ld.box {w : World} {p : Nat} {t : TypeId} {x : Ld} (h : Blk w p t #[.string x.name, .string x.node, .int .i64 x.demand]) : w.cell? ⟨p, 0, none⟩ = some (.string x.name) ∧ w.cell? ⟨p, 1, none⟩ = some (.string x.node) ∧ w.cell? ⟨p, 2, none⟩ = some (.int .i64 x.demand) ∧ (∀ i, w.frozen? ⟨p, i, none⟩ = false) ∧ p < w.heap.size :=
  ⟨h.cell 0, h.cell 1, h.cell 2, h.frozen, h.lt⟩

structure St where
  name : ByteArray
  node : ByteArray
  charge : Int
  discharge : Int
  capacity : Int
def St.cells (x : St) : List Value := [.string x.name, .string x.node, .int .i64 x.charge, .int .i64 x.discharge, .int .i64 x.capacity]
def St.val (x : St) : Value := .agg #[.string x.name, .string x.node, .int .i64 x.charge, .int .i64 x.discharge, .int .i64 x.capacity]
theorem St.len (x : St) : x.cells.length = 5 := rfl
def RdSt (w : World) (B : Nat) (A : Option Addr) (n : Nat) (xs : List St) : Prop := xs.length = n ∧ Rd w B 5 A n (xs.flatMap St.cells)
theorem RdSt.below {w w' : World} {B B' n : Nat} {A : Option Addr} {xs : List St} (h : RdSt w B A n xs) (hb : Below B' w w') (hB : B ≤ B') : RdSt w' B A n xs := ⟨h.1, h.2.below hb hB⟩
theorem RdSt.more {w : World} {B B' n : Nat} {A : Option Addr} {xs : List St} (h : RdSt w B A n xs) (hB : B ≤ B') : RdSt w B' A n xs := ⟨h.1, h.2.more hB⟩
theorem RdSt.at_ {w : World} {B n : Nat} {b off : Nat} {xs : List St} (h : RdSt w B (some ⟨b, off, none⟩) n xs) {i : Nat} {x : St} (hx : xs[i]? = some x) :
    w.cell? ⟨b, off + i * 5, none⟩ = some (.string x.name) ∧ w.cell? ⟨b, off + i * 5 + 1, none⟩ = some (.string x.node) ∧ w.cell? ⟨b, off + i * 5 + 2, none⟩ = some (.int .i64 x.charge) ∧ w.cell? ⟨b, off + i * 5 + 3, none⟩ = some (.int .i64 x.discharge) ∧ w.cell? ⟨b, off + i * 5 + 4, none⟩ = some (.int .i64 x.capacity) := by
  have hl : i < xs.length := (List.getElem?_eq_some_iff.1 hx).1
  have h1 := h.1
  obtain ⟨b', off', e, _, hc⟩ := h.2.2 (by omega)
  injection e with e
  injection e with e1 e2
  subst e1; subst e2
  have key : ∀ k, k < 5 → ∀ u, x.cells[k]? = some u → w.cell? ⟨b, off + i * 5 + k, none⟩ = some u := fun k hk u hu => by
    have := hc (i * 5 + k) u (by rw [flat_at St.len xs i x hx k hk]; exact hu)
    rwa [← Nat.add_assoc] at this
  exact ⟨key 0 (by omega) _ rfl, key 1 (by omega) _ rfl, key 2 (by omega) _ rfl, key 3 (by omega) _ rfl, key 4 (by omega) _ rfl⟩
theorem RdSt.form {w : World} {B n : Nat} {A : Option Addr} {xs : List St} (h : RdSt w B A n xs) (h0 : 0 < n) : ∃ b off, A = some ⟨b, off, none⟩ ∧ b < B := by
  obtain ⟨b, off, e, hlt, _⟩ := h.2.2 h0
  exact ⟨b, off, e, hlt⟩
theorem St.box {w : World} {p : Nat} {t : TypeId} {x : St} (h : Blk w p t #[.string x.name, .string x.node, .int .i64 x.charge, .int .i64 x.discharge, .int .i64 x.capacity]) : w.cell? ⟨p, 0, none⟩ = some (.string x.name) ∧ w.cell? ⟨p, 1, none⟩ = some (.string x.node) ∧ w.cell? ⟨p, 2, none⟩ = some (.int .i64 x.charge) ∧ w.cell? ⟨p, 3, none⟩ = some (.int .i64 x.discharge) ∧ w.cell? ⟨p, 4, none⟩ = some (.int .i64 x.capacity) ∧ (∀ i, w.frozen? ⟨p, i, none⟩ = false) ∧ p < w.heap.size :=
  ⟨h.cell 0, h.cell 1, h.cell 2, h.cell 3, h.cell 4, h.frozen, h.lt⟩


structure Net where
  nodes : List ByteArray
  sws : List Sw
  brs : List Br
  gns : List Gn
  lds : List Ld
  sts : List St
/-- the headers of the six slices of a network -/
structure NetH where
  A0 : Option Addr
  n0 : Nat
  c0 : Nat
  A1 : Option Addr
  n1 : Nat
  c1 : Nat
  A2 : Option Addr
  n2 : Nat
  c2 : Nat
  A3 : Option Addr
  n3 : Nat
  c3 : Nat
  A4 : Option Addr
  n4 : Nat
  c4 : Nat
  A5 : Option Addr
  n5 : Nat
  c5 : Nat
def NetH.cells (h : NetH) : Array Value := #[.slice h.A0 h.n0 h.c0, .slice h.A1 h.n1 h.c1, .slice h.A2 h.n2 h.c2, .slice h.A3 h.n3 h.c3, .slice h.A4 h.n4 h.c4, .slice h.A5 h.n5 h.c5]
structure RdNet (w : World) (B : Nat) (h : NetH) (x : Net) : Prop where
  r0 : RdStr w B h.A0 h.n0 x.nodes
  r1 : RdSw w B h.A1 h.n1 x.sws
  r2 : RdBr w B h.A2 h.n2 x.brs
  r3 : RdGn w B h.A3 h.n3 x.gns
  r4 : RdLd w B h.A4 h.n4 x.lds
  r5 : RdSt w B h.A5 h.n5 x.sts
  m0 : h.n0 ≤ 9223372036854775807
  m1 : h.n1 ≤ 9223372036854775807
  m2 : h.n2 ≤ 9223372036854775807
  m3 : h.n3 ≤ 9223372036854775807
  m4 : h.n4 ≤ 9223372036854775807
  m5 : h.n5 ≤ 9223372036854775807
  /-- every string is as long as a string can be -/
  z0 : ∀ s ∈ x.nodes, s.size ≤ maxLen
  z1 : ∀ s ∈ x.sws, s.name.size ≤ maxLen
  z2 : ∀ s ∈ x.brs, s.name.size ≤ maxLen
  z3 : ∀ s ∈ x.gns, s.name.size ≤ maxLen
  z4 : ∀ s ∈ x.lds, s.name.size ≤ maxLen
  z5 : ∀ s ∈ x.sts, s.name.size ≤ maxLen
theorem RdNet.below {w w' : World} {B B' : Nat} {h : NetH} {x : Net} (r : RdNet w B h x) (hb : Below B' w w') (hB : B ≤ B') : RdNet w' B h x :=
  ⟨r.r0.below hb hB, r.r1.below hb hB, r.r2.below hb hB, r.r3.below hb hB, r.r4.below hb hB, r.r5.below hb hB, r.m0, r.m1, r.m2, r.m3, r.m4, r.m5, r.z0, r.z1, r.z2, r.z3, r.z4, r.z5⟩
theorem RdNet.more {w : World} {B B' : Nat} {h : NetH} {x : Net} (r : RdNet w B h x) (hB : B ≤ B') : RdNet w B' h x :=
  ⟨r.r0.more hB, r.r1.more hB, r.r2.more hB, r.r3.more hB, r.r4.more hB, r.r5.more hB, r.m0, r.m1, r.m2, r.m3, r.m4, r.m5, r.z0, r.z1, r.z2, r.z3, r.z4, r.z5⟩
theorem RdNet.up {w w' : World} {h : NetH} {x : Net} (r : RdNet w w.heap.size h x) (hb : Below w.heap.size w w') : RdNet w' w'.heap.size h x := (r.below hb (Nat.le_refl _)).more hb.size
theorem net_box {w : World} {p : Nat} {t : TypeId} {h : NetH} (q : Blk w p t h.cells) : w.cell? ⟨p, 0, none⟩ = some (.slice h.A0 h.n0 h.c0) ∧ w.cell? ⟨p, 1, none⟩ = some (.slice h.A1 h.n1 h.c1) ∧ w.cell? ⟨p, 2, none⟩ = some (.slice h.A2 h.n2 h.c2) ∧
    w.cell? ⟨p, 3, none⟩ = some (.slice h.A3 h.n3 h.c3) ∧ w.cell? ⟨p, 4, none⟩ = some (.slice h.A4 h.n4 h.c4) ∧ w.cell? ⟨p, 5, none⟩ = some (.slice h.A5 h.n5 h.c5) ∧ (∀ i, w.frozen? ⟨p, i, none⟩ = false) ∧ p < w.heap.size :=
  ⟨q.cell 0, q.cell 1, q.cell 2, q.cell 3, q.cell 4, q.cell 5, q.frozen, q.lt⟩
end Go.Proofs.YtakllkkmofdpaaaGreatDoor
/- Names. -/
namespace Go.Proofs.YtakllkkmofdpaaaGreatDoor
open Go.ChangeShapes Go.WideShapes Go.ChangeAt Go.RowKit
set_option linter.unusedVariables false
attribute [local go_sem ↓] execOp_call_val
attribute [local go_sem] callVal_func setCell_drewN alloc_drewN sEq_walk

def nmCh (i c : Nat) : Bool := decide ((65 ≤ c ∧ c ≤ 90) ∨ (0 < i ∧ 48 ≤ c ∧ c ≤ 57))
def nmGo : Nat → List UInt8 → Bool
  | _, [] => true
  | i, c :: r => nmCh i c.toNat && nmGo (i + 1) r
def nameB (s : ByteArray) : Bool := nmGo 0 s.data.toList && decide (1 ≤ s.size ∧ s.size ≤ 8)

set_option maxRecDepth 100000 in
set_option maxHeartbeats 2000000 in
theorem name_any (s : ByteArray) (w : World) (hs : s.size ≤ maxLen) :
    Calls Tryz.prog 136 #[.string s] w fun e w' => e = .returned (.bool (nameB s)) ∧ Below w.heap.size w w' := by
  have hcv := fun w => run_bytes_of_string (P := Tryz.prog) w 9 183 5 s Tryz.underlying9 Tryz.underlying183 Tryz.underlying5
  unfold maxLen at hs
  go_enter Tryz.func136, Tryz.ntmps136
  go_wp2_with fail
  clear hcv
  generalize grownCap w s.size 0 5 = cap
  have hcell : ∀ k (h : k < s.data.size), (w.alloc (.cells (bytesRow s cap) 5 ((bytesRow s cap).size, (bytesRow s cap).size + 1))).cell? ⟨w.heap.size, k, none⟩ = some (.int .u8 (s.data[k].toNat : Int)) := fun k h => by
    rw [World.cell?_alloc_mark, bytesRow_at s cap k h]
  have HC := Lib.hid hcell
  have K0 : Below w.heap.size w (w.alloc (.cells (bytesRow s cap) 5 ((bytesRow s cap).size, (bytesRow s cap).size + 1))).drew := below_drew ((Below.refl _ _).alloc (Nat.le_refl _) _)
  have HK := Lib.hid K0
  have hlt0 : w.heap.size < (w.alloc (.cells (bytesRow s cap) 5 ((bytesRow s cap).size, (bytesRow s cap).size + 1))).heap.size := by simp
  clear hcell K0
  generalize (w.alloc (.cells (bytesRow s cap) 5 ((bytesRow s cap).size, (bytesRow s cap).size + 1))) = w1 at *
  go_loop [3, 4, 8] (fun _ _ i => ∃ k : Nat, k ≤ s.size ∧ i = .int .i64 k ∧ nmGo 0 s.data.toList = nmGo k (s.data.toList.drop k)) (fun _ _ i => s.size - (intOf i).toNat)
  case atStart => exact ⟨0, by omega, rfl, rfl⟩
  case round =>
    obtain ⟨k, hk, rfl, hgo⟩ := hrel
    have HG := Lib.hid hgo
    clear hgo
    by_cases hlt : k < s.size
    · obtain ⟨n, hn, hn2⟩ : ∃ n : Nat, n < 256 ∧ n = (s.data[k]'hlt).toNat := ⟨_, UInt8.toNat_lt _, rfl⟩
      have hc := HC.out k hlt
      rw [← hn2] at hc
      have hd : s.data.toList.drop k = s.data[k]'hlt :: s.data.toList.drop (k + 1) := drop_cons (by simp [hlt])
      have HD := Lib.hid (show nmGo k (s.data.toList.drop k) = (nmCh k n && nmGo (k + 1) (s.data.toList.drop (k + 1))) by rw [hd, hn2]; rfl)
      clear hd hn2
      go_wp2_with fail
      all_goals
        first
          | (have hx : nmCh k n = true := by
               clear HC HG HD HK hlt0
               simp at *
               unfold nmCh
               rw [decide_eq_true_eq]
               omega
             have HX := Lib.hid hx
             clear hx
             go_round
             case rel => exact ⟨k + 1, by omega, by go_num, by rw [HG.out, HD.out, HX.out]; rfl⟩
             case measure => simp [intOf]; omega)
          | (have hx : nmCh k n = false := by
               clear HC HG HD HK hlt0
               simp at *
               unfold nmCh
               rw [decide_eq_false_iff_not]
               omega
             go_ret
             exact ⟨ret_bool (by unfold nameB; rw [HG.out, HD.out, hx]; rfl), HK.out⟩)
    · have hd : s.data.toList.drop k = [] := by rw [List.drop_eq_nil_iff]; simp; exact Nat.le_of_not_lt hlt
      have HD := Lib.hid (show nmGo k (s.data.toList.drop k) = true by rw [hd]; rfl)
      have hs8 : Hid (nameB s = decide (1 ≤ s.size ∧ s.size ≤ 8)) := Lib.hid (by unfold nameB; rw [HG.out, HD.out]; rfl)
      clear hd
      by_cases h1 : 1 ≤ s.size
      · by_cases h8 : s.size ≤ 8
        · go_wp2_with fail
          go_ret
          exact ⟨ret_bool (by rw [hs8.out]; first | (rw [decide_eq_decide]; omega) | (rw [eq_comm, decide_eq_false_iff_not]; omega) | (rw [eq_comm, decide_eq_true_eq]; omega)), HK.out⟩
        · go_wp2_with fail
          go_ret
          exact ⟨ret_bool (by rw [hs8.out]; first | (rw [decide_eq_decide]; omega) | (rw [eq_comm, decide_eq_false_iff_not]; omega) | (rw [eq_comm, decide_eq_true_eq]; omega)), HK.out⟩
      · go_wp2_with fail
        go_ret
        exact ⟨ret_bool (by rw [hs8.out]; first | (rw [decide_eq_decide]; omega) | (rw [eq_comm, decide_eq_false_iff_not]; omega) | (rw [eq_comm, decide_eq_true_eq]; omega)), HK.out⟩
end Go.Proofs.YtakllkkmofdpaaaGreatDoor
/- Branches' numbers; a list of strings is asked for a string. -/
namespace Go.Proofs.YtakllkkmofdpaaaGreatDoor
open Go.ChangeShapes Go.WideShapes Go.ChangeAt Go.RowKit
set_option linter.unusedVariables false
attribute [local go_sem ↓] execOp_call_val
attribute [local go_sem] callVal_func setCell_drewN alloc_drewN sEq_walk

def outB (n low high : Int) : Bool := decide (n < low ∨ high < n)
theorem nout_any (n low high : Int) (w : World) :
    Calls Tryz.prog 137 #[.int .i64 n, .int .i64 low, .int .i64 high] w fun e w' => e = .returned (.bool (outB n low high)) ∧ w = w' := by
  go_enter Tryz.func137, Tryz.ntmps137
  go_wp2
  all_goals
    go_ret
    exact ⟨ret_bool (by simp [outB] <;> omega), rfl⟩
theorem npermitted_any (n : Int) (w : World) :
    Calls Tryz.prog 138 #[.int .i64 n] w fun e w' => e = .returned (.bool (!outB n 0 100000)) ∧ w = w' := by
  go_enter Tryz.func138, Tryz.ntmps138
  go_wp2_with fail
  refine (nout_any _ _ _ _).mono ?_
  rintro e w1 ⟨rfl, rfl⟩
  go_wp2_with fail
  go_ret
  exact ⟨rfl, rfl⟩

def Br.bad (x : Br) : Bool := outB x.x 1 10000 || outB x.tap 500 1500 || outB x.shift (-1000) 1000 || outB x.limit 0 100000 || outB x.short x.limit 100000 || outB x.hold 0 200000
def Br.ck (x : Br) : Int := if x.bad then 4 else 0
set_option maxHeartbeats 2000000 in
theorem nbranch_any (x : Br) (w : World) :
    Calls Tryz.prog 105 #[.agg #[.string x.name, .string x.fr, .string x.to, .int .i64 x.x, .int .i64 x.tap, .int .i64 x.shift, .int .i64 x.limit, .int .i64 x.short, .int .i64 x.hold]] w fun e w' => e = .returned (.int .i64 x.ck) ∧ Below w.heap.size w w' := by
  have K0 : ∀ cs t, Below w.heap.size w (w.alloc (.cells cs t)) := fun cs t => (Below.refl _ _).alloc (Nat.le_refl _) _
  have HK := Lib.hid K0
  clear K0
  have HCK := Lib.hid (show x.ck = if x.bad then 4 else 0 from rfl)
  cases h0 : outB x.x 1 10000 with
  | true =>
    have HB : Hid (x.ck = 4) := Lib.hid (by rw [HCK.out]; unfold Br.bad; rw [h0]; rfl)
    go_enter Tryz.func105, Tryz.ntmps105
    go_wp2_with (go_at_call 137; refine (nout_any _ _ _ _).mono ?_; rintro e w' ⟨rfl, rfl⟩)
    go_ret
    exact ⟨ret_int (by rw [HB.out]), HK.out _ _⟩
  | false =>
    cases h1 : outB x.tap 500 1500 with
    | true =>
      have HB : Hid (x.ck = 4) := Lib.hid (by rw [HCK.out]; unfold Br.bad; rw [h0, h1]; rfl)
      go_enter Tryz.func105, Tryz.ntmps105
      go_wp2_with (go_at_call 137; refine (nout_any _ _ _ _).mono ?_; rintro e w' ⟨rfl, rfl⟩)
      go_ret
      exact ⟨ret_int (by rw [HB.out]), HK.out _ _⟩
    | false =>
      cases h2 : outB x.shift (-1000) 1000 with
      | true =>
        have HB : Hid (x.ck = 4) := Lib.hid (by rw [HCK.out]; unfold Br.bad; rw [h0, h1, h2]; rfl)
        go_enter Tryz.func105, Tryz.ntmps105
        go_wp2_with (go_at_call 137; refine (nout_any _ _ _ _).mono ?_; rintro e w' ⟨rfl, rfl⟩)
        go_ret
        exact ⟨ret_int (by rw [HB.out]), HK.out _ _⟩
      | false =>
        cases h3 : outB x.limit 0 100000 with
        | true =>
          have HB : Hid (x.ck = 4) := Lib.hid (by rw [HCK.out]; unfold Br.bad; rw [h0, h1, h2, h3]; rfl)
          go_enter Tryz.func105, Tryz.ntmps105
          go_wp2_with (go_at_call 137; refine (nout_any _ _ _ _).mono ?_; rintro e w' ⟨rfl, rfl⟩)
          go_ret
          exact ⟨ret_int (by rw [HB.out]), HK.out _ _⟩
        | false =>
          cases h4 : outB x.short x.limit 100000 with
          | true =>
            have HB : Hid (x.ck = 4) := Lib.hid (by rw [HCK.out]; unfold Br.bad; rw [h0, h1, h2, h3, h4]; rfl)
            go_enter Tryz.func105, Tryz.ntmps105
            go_wp2_with (go_at_call 137; refine (nout_any _ _ _ _).mono ?_; rintro e w' ⟨rfl, rfl⟩)
            go_ret
            exact ⟨ret_int (by rw [HB.out]), HK.out _ _⟩
          | false =>
            cases h5 : outB x.hold 0 200000 with
            | true =>
              have HB : Hid (x.ck = 4) := Lib.hid (by rw [HCK.out]; unfold Br.bad; rw [h0, h1, h2, h3, h4, h5]; rfl)
              go_enter Tryz.func105, Tryz.ntmps105
              go_wp2_with (go_at_call 137; refine (nout_any _ _ _ _).mono ?_; rintro e w' ⟨rfl, rfl⟩)
              go_ret
              exact ⟨ret_int (by rw [HB.out]), HK.out _ _⟩
            | false =>
              have HB : Hid (x.ck = 0) := Lib.hid (by rw [HCK.out]; unfold Br.bad; rw [h0, h1, h2, h3, h4, h5]; rfl)
              go_enter Tryz.func105, Tryz.ntmps105
              go_wp2_with (go_at_call 137; refine (nout_any _ _ _ _).mono ?_; rintro e w' ⟨rfl, rfl⟩)
              go_ret
              exact ⟨ret_int (by rw [HB.out]), HK.out _ _⟩

set_option maxHeartbeats 1000000 in
theorem index_str (A : Option Addr) (n c : Nat) (zs : List ByteArray) (z : ByteArray) (w : World) (hr : RdStr w w.heap.size A n zs) (hn : n ≤ 9223372036854775807) :
    Calls Tryz.prog 100 #[.slice A n c, .string z] w fun e w' => e = .returned (.int .i64 (idxGo (fun x => sEq z x) zs 0)) ∧ w = w' := by
  have hlen := Lib.hid hr.1
  go_enter Tryz.func100, Tryz.ntmps100
  go_wp2_with fail
  go_loop [5, 8] (fun _ i => ∃ k : Nat, k ≤ n ∧ i = .int .i64 k ∧ idxGo (fun x => sEq z x) zs 0 = idxGo (fun x => sEq z x) (zs.drop k) k) (fun _ i => n - (intOf i).toNat)
  case atStart => exact ⟨0, by omega, rfl, rfl⟩
  case round =>
    obtain ⟨k, hk, rfl, hidx⟩ := hrel
    have HIDX := Lib.hid hidx
    clear hidx
    by_cases hlt : k < n
    · obtain ⟨y, hy⟩ : ∃ y, zs[k]? = some y := ⟨_, List.getElem?_eq_getElem (by have := hlen.out; omega)⟩
      obtain ⟨b, off, rfl, hblt⟩ := hr.form (by omega)
      have hcell := hr.at_ hy
      have HZ := Lib.hid (drop_cons hy)
      clear hy
      cases hp : sEq z y with
      | true =>
        have HP := Lib.hid hp
        go_wp2_with fail
        go_ret
        exact ⟨ret_int (by rw [HIDX.out, HZ.out]; simp [idxGo, HP.out]), rfl⟩
      | false =>
        have HP := Lib.hid hp
        go_wp2_with fail
        go_round
        case rel => exact ⟨k + 1, by omega, by go_num, by rw [HIDX.out, HZ.out]; simp [idxGo, HP.out]⟩
        case measure => simp [intOf]; omega
    · have hd : zs.drop k = [] := by rw [List.drop_eq_nil_iff]; have := hlen.out; omega
      have HD := Lib.hid hd
      clear hd
      go_wp2_with fail
      go_ret
      exact ⟨ret_int (by rw [HIDX.out, HD.out]; rfl), rfl⟩

theorem contains_str (A : Option Addr) (n c : Nat) (ss : List ByteArray) (z : ByteArray) (w : World) (hr : RdStr w w.heap.size A n ss) (hn : n ≤ 9223372036854775807) :
    Calls Tryz.prog 84 #[.slice A n c, .string z] w fun e w' => e = .returned (.bool (ss.any (fun x => sEq z x))) ∧ w = w' := by
  have HA := Lib.hid (idxGo_any (fun x => sEq z x) ss 0)
  go_enter Tryz.func84, Tryz.ntmps84
  go_wp2_with fail
  refine (index_str A n c ss z w hr hn).mono ?_
  rintro e w1 ⟨rfl, rfl⟩
  go_wp2_with fail
  go_ret
  exact ⟨ret_bool HA.out, rfl⟩
end Go.Proofs.YtakllkkmofdpaaaGreatDoor
