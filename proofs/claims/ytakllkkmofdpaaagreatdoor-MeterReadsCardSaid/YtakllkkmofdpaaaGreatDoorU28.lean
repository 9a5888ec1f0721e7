import Derived.Test.YtakllkkmofdpaaaGreatDoorU26
import Derived.Test.YtakllkkmofdpaaaGreatDoorU27
set_option linter.unusedVariables false
set_option linter.unusedSimpArgs false
namespace Go.Proofs.YtakllkkmofdpaaaGreatDoor
section
open Go.ChangeShapes Go.WideShapes Go.ChangeAt Go.RowKit
def NotInt (y : Value) : Prop := ∀ k x, y ≠ .int k x
theorem slice_ni {A : Option Addr} {n c : Nat} : NotInt (.slice A n c) := fun k x h => by cases h
theorem RtV.keep1 {w : World} {g T i : Nat} {cs : Array Value} {q : Rat} {x : Rv} {y : Value} (h : RtV w w.heap.size q x) (hb : Blk w g T cs) (hy : cs[i]? = some y) (hn : NotInt y) (u : Value) : RtV (w.setCell ⟨g, i, none⟩ u) (w.setCell ⟨g, i, none⟩ u).heap.size q x := by
 have h0 : RtIs w w.heap.size q x.b1 x.A x.n x.c x.b2 x.A2 x.m x.d := h
 exact RtIs.keep h0 (v := y) (by rw [hb.cell]; exact hy) hn u
section
variable {S : Value → Prop} {w w' : World} {base e size n : Nat} {v : Value} {xs : List Value}
theorem OwnS.blk (h : OwnS S w base e size v n xs) {S' : Value → Prop} {e' : TypeId} {b' : Nat} (k : Keeps S' b' e' w w') (hne : e ≠ e') : OwnS S w' base e size v n xs := by
 refine ⟨h.1, ?_⟩
 rcases h.2 with h1 | ⟨g, cap, cur, h1, h2, h3, h4⟩
 ·exact .inl h1
 ·exact .inr ⟨g, cap, cur, h1, h2, k.blk _ _ _ h3 hne, h4⟩
theorem OwnS.ni (h : OwnS S w base e size v n xs) : NotInt v := by
 obtain ⟨A, c, rfl, _⟩ := h.shape
 exact slice_ni
end
structure MdS (g : Nat) (w0 wr : World) (b0 b1 vF vT vB vC : Value) (F T : List Nat) (uB uC : List Rv) (B C : List Rat) : Prop where
 blk : Blk wr g 123 #[b0, b1, vF, vT, vB, vC, .slice none 0 0, .slice none 0 0]
 oF : OwnS IsI wr (g + 1) 3 1 vF F.length (natI F)
 oT : OwnS IsI wr (g + 1) 3 1 vT T.length (natI T)
 oB : OwnQ wr (g + 1) vB uB B
 oC : OwnQ wr (g + 1) vC uC C
 ap : ∀ k, vF.ownBlock = some k → vT.ownBlock ≠ some k
 aq : ∀ k, vB.ownBlock = some k → vC.ownBlock ≠ some k
 low : Below g w0 wr
section
variable {g : Nat} {w0 wr w' : World} {b0 b1 vF vT vB vC v' : Value} {F T : List Nat} {uB uC : List Rv} {B C : List Rat}
theorem MdS.up (m : MdS g w0 wr b0 b1 vF vT vB vC F T uB uC B C) (hb : Below wr.heap.size wr w') : MdS g w0 w' b0 b1 vF vT vB vC F T uB uC B C :=
 ⟨m.blk.below hb m.blk.lt, m.oF.keep hb, m.oT.keep hb, m.oB.keep hb, m.oC.keep hb, m.ap, m.aq, m.low.trans (hb.mono (Nat.le_of_lt m.blk.lt))⟩
theorem OwnQ.keepsI {vs : List Rv} {qs : List Rat} {v : Value} {base b' : Nat} (h : OwnQ wr base v vs qs) (k : Keeps IsI b' 3 wr w') : OwnQ w' base v vs qs :=
 ⟨h.own.blk k (by decide), h.len, fun i q x hq hx => (h.ok i q x hq hx).keepsI k⟩
theorem OwnQ.far {vs : List Rv} {qs : List Rat} {v y u : Value} {base g T i : Nat} {cs : Array Value} (h : OwnQ wr base v vs qs) (hb : Blk wr g T cs) (ht : 93 ≠ T) (hy : cs[i]? = some y) (hn : NotInt y) : OwnQ (wr.setCell ⟨g, i, none⟩ u) base v vs qs :=
 ⟨h.own.far hb ht, h.len, fun i q x hq hx => (h.ok i q x hq hx).keep1 hb hy hn u⟩
theorem OwnQ.apart {vs : List Rv} {qs : List Rat} {v u : Value} {base b' : Nat} (h : OwnQ wr base u vs qs) (k : Keeps NoI b' 93 wr w') (ho : ∀ k, k < wr.heap.size → v.ownBlock ≠ some k → w'.heap[k]? = wr.heap[k]?) (hne : ∀ k, u.ownBlock = some k → v.ownBlock ≠ some k) : OwnQ w' base u vs qs :=
 ⟨h.own.apart ho hne, h.len, fun i q x hq hx => (h.ok i q x hq hx).keeps k⟩
theorem ap_new {S : Value → Prop} {v v' u : Value} {base e size n : Nat} {xs : List Value} (h : ∀ k, v.ownBlock = some k → u.ownBlock ≠ some k) (hu : OwnS S wr base e size u n xs) (hv : v'.ownBlock = v.ownBlock ∨ v'.ownBlock = some wr.heap.size) : ∀ k, v'.ownBlock = some k → u.ownBlock ≠ some k := fun k hk hc => by
 rcases hv with hv | hv
 ·rw [hv] at hk; exact h k hk hc
 ·rw [hv] at hk
  injection hk with hk
  subst hk
  exact absurd (hu.lt hc).2 (Nat.lt_irrefl _)
theorem MdS.appF (m : MdS g w0 wr b0 b1 vF vT vB vC F T uB uC B C) {u : Nat} (h1 : OwnS IsI w' (g + 1) 3 1 v' (F.length + 1) (natI F ++ [.int .i64 (u : Int)])) (h2 : Keeps IsI (g + 1) 3 wr w') (h3 : v'.ownBlock = vF.ownBlock ∨ v'.ownBlock = some wr.heap.size) (h4 : ∀ k, k < wr.heap.size → vF.ownBlock ≠ some k → w'.heap[k]? = wr.heap[k]?) :
    MdS g w0 (w'.setCell ⟨g, 2, none⟩ v') b0 b1 v' vT vB vC (F ++ [u]) T uB uC B C := by
 have hb := h2.blk _ _ _ m.blk (by decide)
 have hT := m.oT.apart h4 fun k hk hc => m.ap k hc hk
 have hB := m.oB.keepsI h2
 have hC := m.oC.keepsI h2
 have hlen : F.length + 1 = (F ++ [u]).length := by simp
 have hnat : natI F ++ [.int .i64 (u : Int)] = natI (F ++ [u]) := by unfold natI; rw [List.map_append]; rfl
 rw [hlen, hnat] at h1
 exact ⟨by have := hb.set_ 2 v'; simpa using this, h1.far hb (by decide), hT.far hb (by decide), hB.far hb (by decide) (y := vF) rfl m.oF.ni, hC.far hb (by decide) (y := vF) rfl m.oF.ni, ap_new m.ap m.oT h3, m.aq, (m.low.trans (h2.low.mono (Nat.le_succ g))).setCell (Nat.le_refl _) _⟩
theorem MdS.appT (m : MdS g w0 wr b0 b1 vF vT vB vC F T uB uC B C) {u : Nat} (h1 : OwnS IsI w' (g + 1) 3 1 v' (T.length + 1) (natI T ++ [.int .i64 (u : Int)])) (h2 : Keeps IsI (g + 1) 3 wr w') (h3 : v'.ownBlock = vT.ownBlock ∨ v'.ownBlock = some wr.heap.size) (h4 : ∀ k, k < wr.heap.size → vT.ownBlock ≠ some k → w'.heap[k]? = wr.heap[k]?) :
    MdS g w0 (w'.setCell ⟨g, 3, none⟩ v') b0 b1 vF v' vB vC F (T ++ [u]) uB uC B C := by
 have hb := h2.blk _ _ _ m.blk (by decide)
 have hF := m.oF.apart h4 fun k hk hc => m.ap k hk hc
 have hB := m.oB.keepsI h2
 have hC := m.oC.keepsI h2
 have hlen : T.length + 1 = (T ++ [u]).length := by simp
 have hnat : natI T ++ [.int .i64 (u : Int)] = natI (T ++ [u]) := by unfold natI; rw [List.map_append]; rfl
 rw [hlen, hnat] at h1
 have hap : ∀ k, vF.ownBlock = some k → v'.ownBlock ≠ some k := fun k hk hc => ap_new (v := vT) (fun k h1 h2 => m.ap k h2 h1) m.oF h3 k hc hk
 exact ⟨by have := hb.set_ 3 v'; simpa using this, hF.far hb (by decide), h1.far hb (by decide), hB.far hb (by decide) (y := vT) rfl m.oT.ni, hC.far hb (by decide) (y := vT) rfl m.oT.ni, hap, m.aq, (m.low.trans (h2.low.mono (Nat.le_succ g))).setCell (Nat.le_refl _) _⟩
theorem MdS.appB (m : MdS g w0 wr b0 b1 vF vT vB vC F T uB uC B C) {u : Rv} {q : Rat} (hq : RtV wr wr.heap.size q u) (h1 : OwnS NoI w' (g + 1) 93 4 v' (uB.length + 1) (rvs uB ++ u.cells)) (h2 : Keeps NoI (g + 1) 93 wr w') (h3 : v'.ownBlock = vB.ownBlock ∨ v'.ownBlock = some wr.heap.size) (h4 : ∀ k, k < wr.heap.size → vB.ownBlock ≠ some k → w'.heap[k]? = wr.heap[k]?) :
    MdS g w0 (w'.setCell ⟨g, 4, none⟩ v') b0 b1 vF vT v' vC F T (uB ++ [u]) uC (B ++ [q]) C := by
 have hb := h2.blk _ _ _ m.blk (by decide)
 have hB := m.oB.app hq h1 h2
 have hC := m.oC.apart h2 h4 fun k hk hc => m.aq k hc hk
 exact ⟨by have := hb.set_ 4 v'; simpa using this, (m.oF.blk h2 (by decide)).far hb (by decide), (m.oT.blk h2 (by decide)).far hb (by decide), hB.far hb (by decide) (y := vB) rfl m.oB.own.ni, hC.far hb (by decide) (y := vB) rfl m.oB.own.ni, m.ap, ap_new m.aq m.oC.own h3, (m.low.trans (h2.low.mono (Nat.le_succ g))).setCell (Nat.le_refl _) _⟩
theorem MdS.appC (m : MdS g w0 wr b0 b1 vF vT vB vC F T uB uC B C) {u : Rv} {q : Rat} (hq : RtV wr wr.heap.size q u) (h1 : OwnS NoI w' (g + 1) 93 4 v' (uC.length + 1) (rvs uC ++ u.cells)) (h2 : Keeps NoI (g + 1) 93 wr w') (h3 : v'.ownBlock = vC.ownBlock ∨ v'.ownBlock = some wr.heap.size) (h4 : ∀ k, k < wr.heap.size → vC.ownBlock ≠ some k → w'.heap[k]? = wr.heap[k]?) :
    MdS g w0 (w'.setCell ⟨g, 5, none⟩ v') b0 b1 vF vT vB v' F T uB (uC ++ [u]) B (C ++ [q]) := by
 have hb := h2.blk _ _ _ m.blk (by decide)
 have hC := m.oC.app hq h1 h2
 have hB := m.oB.apart h2 h4 fun k hk hc => m.aq k hk hc
 have haq : ∀ k, vB.ownBlock = some k → v'.ownBlock ≠ some k := fun k hk hc => ap_new (v := vC) (fun k h1 h2 => m.aq k h2 h1) m.oB.own h3 k hc hk
 exact ⟨by have := hb.set_ 5 v'; simpa using this, (m.oF.blk h2 (by decide)).far hb (by decide), (m.oT.blk h2 (by decide)).far hb (by decide), hB.far hb (by decide) (y := vC) rfl m.oC.own.ni, hC.far hb (by decide) (y := vC) rfl m.oC.own.ni, m.ap, haq, (m.low.trans (h2.low.mono (Nat.le_succ g))).setCell (Nat.le_refl _) _⟩
theorem mdS_start {w : World} (b0 b1 : Value) : MdS w.heap.size w (w.alloc (.cells #[b0, b1, .slice none 0 0, .slice none 0 0, .slice none 0 0, .slice none 0 0, .slice none 0 0, .slice none 0 0] 123)) b0 b1 (.slice none 0 0) (.slice none 0 0) (.slice none 0 0) (.slice none 0 0) [] [] [] [] [] [] :=
 ⟨Blk.new _ _ _, ownS_none _ _ _ _ _, ownS_none _ _ _ _ _, ownQ_none _ _, ownQ_none _ _, fun k h => (by cases h), fun k h => (by cases h), (Below.refl _ _).alloc (Nat.le_refl _) _⟩
end
end
section
open Go.ChangeShapes Go.WideShapes Go.ChangeAt Go.RowKit Go.Maps
def SeenI (w : World) (b n : Nat) (l : List Nat) : Prop :=
 ∃ D : DataW Unit, w.ownsMap Tryz.prog 3 (plainElem Tryz.prog 4) b n D ∧ IsMap D ∧ ∀ s : Nat, D.atKey (.int .i64 (s : Int)) (.lit (.bool false)) = .lit (.bool (l.any fun x => x == s))
theorem SeenI.lt {w : World} {b n : Nat} {l : List Nat} (h : SeenI w b n l) : b < w.heap.size := by obtain ⟨D, h1, _⟩ := h; exact h1.lt
theorem SeenI.kept {w w' : World} {row : Option Nat} {b n : Nat} {l : List Nat} (h : SeenI w b n l) (hg : w.grownBy w' row) (hne : some b ≠ row) : SeenI w' b n l := by
 obtain ⟨D, h1, h2⟩ := h; exact ⟨D, h1.kept hg hne, h2⟩
theorem SeenI.below {w w' : World} {b n : Nat} {l : List Nat} (h : SeenI w b n l) (hb : Below w.heap.size w w') : SeenI w' b n l := h.kept (row := none) ⟨hb.os, hb.tape, hb.output, hb.size, fun k hk _ => hb.block k hk⟩ (by simp)
theorem SeenI.made (w : World) : SeenI (w.alloc (.map #[] 0)) w.heap.size 0 [] := ⟨.map [], World.ownsMap_made _ _ _ _, ⟨[], rfl⟩, fun s => rfl⟩
theorem law_int : Keyed Tryz.prog 3 := int_keyed Tryz.underlying3
theorem SeenI.put {w : World} {b n : Nat} {l : List Nat} {D : DataW Unit} (s : Nat) (h1 : w.ownsMap Tryz.prog 3 (plainElem Tryz.prog 4) b (n + 1) (D.put (.int .i64 (s : Int)) (.lit (.bool true)))) (h2 : IsMap D)
    (h3 : ∀ s : Nat, D.atKey (.int .i64 (s : Int)) (.lit (.bool false)) = .lit (.bool (l.any fun x => x == s))) : SeenI w b (n + 1) (l ++ [s]) := by
 refine ⟨_, h1, ?_, fun t => ?_⟩
 ·obtain ⟨es, rfl⟩ := h2
  exact ⟨_, rfl⟩
 ·by_cases hts : t = s
  ·subst hts
   rw [atKey_put_same h2 (k := .int .i64 (t : Int)) trivial]
   simp
  ·rw [atKey_put_other (fun e => hts (by injection e with _ e; omega)), h3, List.any_append]
   have : (s == t) = false := by simp; omega
   simp [this]
theorem seen_free {l : List Nat} {k : Nat} (hk : k < l.length) : ((l.take k).any fun x => x == l.getD k 0) = freeB l k := by
 unfold freeB newS sameIs
 rw [Bool.not_not, Bool.eq_iff_iff, List.any_eq_true, List.any_eq_true]
 constructor
 ·rintro ⟨y, hy, he⟩
  obtain ⟨i, hi⟩ := List.mem_iff_getElem?.1 hy
  have hik : i < k := by have := (List.getElem?_eq_some_iff.1 hi).1; rw [List.length_take] at this; omega
  rw [List.getElem?_take_of_lt hik] at hi
  refine ⟨i, List.mem_range.2 hik, ?_⟩
  rw [List.getD_eq_getElem?_getD, hi]
  exact he
 ·rintro ⟨a, ha, he⟩
  have hak := List.mem_range.1 ha
  obtain ⟨y, hy⟩ : ∃ y, l[a]? = some y := ⟨_, List.getElem?_eq_getElem (by omega)⟩
  refine ⟨y, List.mem_of_getElem? (i := a) (by rw [List.getElem?_take_of_lt hak]; exact hy), ?_⟩
  rw [List.getD_eq_getElem?_getD, hy] at he
  exact he
theorem pick_succ (p : Nat → Bool) (n : Nat) : pick p (n + 1) = pick p n ++ if p n then [n] else [] := by
 unfold pick
 rw [List.range_succ, List.filter_append]
 cases h : p n <;> simp [h]
theorem natJ_isl {x : Net} (ok : NetOk x) : natJ (islN x) = islR x ∧ (islN x).length = busN x := by
 have h := parts_ok (brE_ok ok).1
 refine ⟨?_, by unfold islN; rw [List.length_map]; exact h.1⟩
 unfold natJ islN
 rw [List.map_map]
 have : ∀ l : List Int, (∀ z ∈ l, 0 ≤ z) → l.map ((fun (v : Nat) => (v : Int)) ∘ Int.toNat) = l := fun l => by
  induction l with
  | nil => intro _; rfl
  | cons a r ih =>
   intro hl
   rw [List.map_cons, ih fun z hz => hl z (List.mem_cons_of_mem _ hz)]
   have := hl a (List.mem_cons_self ..)
   simp [Int.toNat_of_nonneg this]
 exact this _ fun z hz => (h.2 z hz).1
section
variable {P : Program}
theorem wpList_app_blk2 {S : Value → Prop} {ops : Array Oper} {rest : List Oper} {o : Oper} {a : Act} {Q : Exit → Act → World → Prop} {w : World} (hgd : o.guard = none) (s x : Operand) (t : TypeId)
    (ho : o.op = .call { callee := .builtin .append, args := #[s, x], argTypes := #[t, t] })
    (base : Nat) (e : TypeId) (i : TypeInfo) (z : Value) (size bytes : Nat) (ht : P.underlying t = some (.slice e)) (hi : P.info? e = some i) (hz : i.zero = some z)
    (hsize : i.size = size) (hby : i.bytes = bytes) (hzs : z.cells.size = size) (hsz : 0 < size) (hzS : ∀ u ∈ z.cells.toList, S u)
    (v : Value) (n : Nat) (xs : List Value) (hs : a.eval s = v) (hown : OwnS S w base e size v n xs)
    (g T : Nat) (lit : Array Value) (hx : a.eval x = .slice (some ⟨g, 0, none⟩) 1 1) (hg : Blk w g T lit) (hl : lit.size = size) (h1 : ∀ u ∈ lit.toList, u.oneCell' = true ∧ S u)
    (h63 : n + 1 ≤ maxLen) (hbytes : (n + 1) * bytes ≤ 140737488355328) (hbase : base ≤ w.heap.size)
    (h : ∀ A m c w', OwnS S w' base e size (.slice A m c) (n + 1) (xs ++ lit.toList) → Keeps S base e w w' → ((Value.slice A m c).ownBlock = v.ownBlock ∨ (Value.slice A m c).ownBlock = some w.heap.size) → (∀ k, k < w.heap.size → v.ownBlock ≠ some k → w'.heap[k]? = w.heap[k]?) → wpList P ops Q rest (a.put o.dst (.slice A m c)) w') :
    wpList P ops Q (o :: rest) a w := by
 refine wpList_plain hgd fun K hK => ?_
 exact wp_app_blk2 s x t ho base e i z size bytes ht hi hz hsize hby hzs hsz hzS v n xs hs hown g T lit hx hg hl h1 h63 hbytes hbase fun A m c w' q1 q2 q3 q4 => hK _ _ (h A m c w' q1 q2 q3 q4)
end
structure MdZ (g : Nat) (w0 wr : World) (b0 b1 vF vT vB vC vZ : Value) (F T : List Nat) (uB uC : List Rv) (B C : List Rat) (Z : List Nat) : Prop where
 blk : Blk wr g 123 #[b0, b1, vF, vT, vB, vC, vZ, .slice none 0 0]
 oF : OwnS IsI wr (g + 1) 3 1 vF F.length (natI F)
 oT : OwnS IsI wr (g + 1) 3 1 vT T.length (natI T)
 oB : OwnQ wr (g + 1) vB uB B
 oC : OwnQ wr (g + 1) vC uC C
 oZ : OwnS IsI wr (g + 1) 3 1 vZ Z.length (natI Z)
 zF : ∀ k, vF.ownBlock = some k → vZ.ownBlock ≠ some k
 zT : ∀ k, vT.ownBlock = some k → vZ.ownBlock ≠ some k
 low : Below g w0 wr
section
variable {g : Nat} {w0 wr w' : World} {b0 b1 vF vT vB vC vZ v' : Value} {F T Z : List Nat} {uB uC : List Rv} {B C : List Rat}
theorem MdS.z (m : MdS g w0 wr b0 b1 vF vT vB vC F T uB uC B C) : MdZ g w0 wr b0 b1 vF vT vB vC (.slice none 0 0) F T uB uC B C [] :=
 ⟨m.blk, m.oF, m.oT, m.oB, m.oC, ownS_none _ _ _ _ _, fun k _ h => (by cases h), fun k _ h => (by cases h), m.low⟩
theorem MdZ.up (m : MdZ g w0 wr b0 b1 vF vT vB vC vZ F T uB uC B C Z) (hb : Below wr.heap.size wr w') : MdZ g w0 w' b0 b1 vF vT vB vC vZ F T uB uC B C Z :=
 ⟨m.blk.below hb m.blk.lt, m.oF.keep hb, m.oT.keep hb, m.oB.keep hb, m.oC.keep hb, m.oZ.keep hb, m.zF, m.zT, m.low.trans (hb.mono (Nat.le_of_lt m.blk.lt))⟩
theorem MdZ.app (m : MdZ g w0 wr b0 b1 vF vT vB vC vZ F T uB uC B C Z) {u : Nat} (h1 : OwnS IsI w' (g + 1) 3 1 v' (Z.length + 1) (natI Z ++ [.int .i64 (u : Int)])) (h2 : Keeps IsI (g + 1) 3 wr w') (h3 : v'.ownBlock = vZ.ownBlock ∨ v'.ownBlock = some wr.heap.size) (h4 : ∀ k, k < wr.heap.size → vZ.ownBlock ≠ some k → w'.heap[k]? = wr.heap[k]?) :
    MdZ g w0 (w'.setCell ⟨g, 6, none⟩ v') b0 b1 vF vT vB vC v' F T uB uC B C (Z ++ [u]) := by
 have hb := h2.blk _ _ _ m.blk (by decide)
 have hF := m.oF.apart h4 m.zF
 have hT := m.oT.apart h4 m.zT
 have hB := m.oB.keepsI h2
 have hC := m.oC.keepsI h2
 have hlen : Z.length + 1 = (Z ++ [u]).length := by simp
 have hnat : natI Z ++ [.int .i64 (u : Int)] = natI (Z ++ [u]) := by unfold natI; rw [List.map_append]; rfl
 rw [hlen, hnat] at h1
 have hzF : ∀ k, vF.ownBlock = some k → v'.ownBlock ≠ some k := fun k hk hc => ap_new (v := vZ) (fun k h1 h2 => m.zF k h2 h1) m.oF h3 k hc hk
 have hzT : ∀ k, vT.ownBlock = some k → v'.ownBlock ≠ some k := fun k hk hc => ap_new (v := vZ) (fun k h1 h2 => m.zT k h2 h1) m.oT h3 k hc hk
 exact ⟨by have := hb.set_ 6 v'; simpa using this, hF.far hb (by decide), hT.far hb (by decide), hB.far hb (by decide) (y := vZ) rfl m.oZ.ni, hC.far hb (by decide) (y := vZ) rfl m.oZ.ni, h1.far hb (by decide), hzF, hzT, (m.low.trans (h2.low.mono (Nat.le_succ g))).setCell (Nat.le_refl _) _⟩
theorem OwnS.mapped {S : Value → Prop} {w w' : World} {base e size n b m : Nat} {v : Value} {xs : List Value} {l : List Nat} (h : OwnS S w base e size v n xs) (hs : SeenI w b m l) (hg : w.grownBy w' (some b)) : OwnS S w' base e size v n xs := by
 refine ⟨h.1, ?_⟩
 rcases h.2 with h1 | ⟨g, cap, cur, h1, h2, h3, h4⟩
 ·exact .inl h1
 ·refine .inr ⟨g, cap, cur, h1, h2, h3.grown hg (fun e => ?_), h4⟩
  injection e with e
  subst e
  obtain ⟨D, ⟨es, clock, hb, _⟩, _⟩ := hs
  have h5 : some (Obj.cells cur _ (0, 0)) = some (Obj.map es clock) := h3.symm.trans hb
  cases h5
theorem SeenI.apart {S : Value → Prop} {w : World} {b n base e size m : Nat} {l : List Nat} {v : Value} {xs : List Value} (hs : SeenI w b n l) (h : OwnS S w base e size v m xs) : some b ≠ v.ownBlock := by
 intro hb
 rcases h.2 with ⟨h1, _⟩ | ⟨g, cap, cur, h1, h2, h3, h4⟩
 ·rw [h1] at hb; cases hb
 ·rw [h1] at hb
  injection hb with hb
  subst hb
  obtain ⟨D, ⟨es, clock, hq, _⟩, _⟩ := hs
  have h5 : some (Obj.cells cur _ (0, 0)) = some (Obj.map es clock) := h3.symm.trans hq
  cases h5
theorem rdI_blk {w : World} {g t n : Nat} {zs : List Int} (h : Blk w g t (ints zs).toArray) (hn : zs.length = n) : RdI w w.heap.size (some ⟨g, 0, none⟩) n zs :=
 ⟨by unfold ints; rw [List.length_map, Nat.mul_one]; exact hn, fun _ => ⟨g, 0, rfl, h.lt, fun j u hu => by rw [Nat.zero_add, h.cell j]; simpa using hu⟩⟩
theorem Blk.mapped {w w' : World} {g t b m : Nat} {cs : Array Value} {l : List Nat} (h : Blk w g t cs) (hs : SeenI w b m l) (hg : w.grownBy w' (some b)) : Blk w' g t cs := by
 refine h.grown hg (fun e => ?_)
 injection e with e
 subst e
 obtain ⟨D, ⟨es, clock, hb, _⟩, _⟩ := hs
 have h5 : some (Obj.cells cs t (0, 0)) = some (Obj.map es clock) := h.symm.trans hb
 cases h5
theorem RtV.mappedI {w w' : World} {b m : Nat} {l : List Nat} {q : Rat} {x : Rv} (h : RtV w w.heap.size q x) (hs : SeenI w b m l) (hg : w.grownBy w' (some b)) : RtV w' w'.heap.size q x := by
 have key : ∀ {A : Option Addr} {n : Nat} {l : List Nat}, RdW w w.heap.size A n l → RdW w' w'.heap.size A n l := fun {A n l'} h => ⟨h.1, fun hn => by
  obtain ⟨b', off, e, hlt, hc⟩ := h.2 hn
  have hne : b' ≠ b := by
   rintro rfl
   have hx : 0 < (u32s l').length := by have := h.1; omega
   have h0 := hc 0 _ (List.getElem?_eq_getElem hx)
   obtain ⟨D, ⟨es, clock, hb, _⟩, _⟩ := hs
   unfold World.cell? at h0
   rw [hb] at h0
   cases h0
  exact ⟨b', off, e, Nat.lt_of_lt_of_le hlt hg.size, fun j u hu => (World.cell?_of_block (a := ⟨b', off + j, none⟩) (hg.block b' hlt (fun e => by injection e; omega))).trans (hc j u hu)⟩⟩
 exact ⟨⟨h.num.eb, h.num.en, key h.num.rd, h.num.nc, h.num.cm⟩, ⟨h.den.eb, h.den.en, key h.den.rd, h.den.nc, h.den.cm⟩⟩
theorem MdZ.mapped {b n : Nat} {l : List Nat} (m : MdZ g w0 wr b0 b1 vF vT vB vC vZ F T uB uC B C Z) (hs : SeenI wr b n l) (hg : wr.grownBy w' (some b)) (hb : g < b) (h0 : g ≤ w0.heap.size) : MdZ g w0 w' b0 b1 vF vT vB vC vZ F T uB uC B C Z :=
 ⟨m.blk.mapped hs hg, m.oF.mapped hs hg, m.oT.mapped hs hg, ⟨m.oB.own.mapped hs hg, m.oB.len, fun i q x hq hx => (m.oB.ok i q x hq hx).mappedI hs hg⟩, ⟨m.oC.own.mapped hs hg, m.oC.len, fun i q x hq hx => (m.oC.ok i q x hq hx).mappedI hs hg⟩, m.oZ.mapped hs hg, m.zF, m.zT, below_only m.low hg (Nat.le_of_lt hb) h0⟩
theorem rdI_ownS {w : World} {base : Nat} {v : Value} {l : List Nat} (h : OwnS IsI w base 3 1 v l.length (natI l)) : ∃ A c, v = .slice A l.length c ∧ RdI w w.heap.size A l.length (natJ l) := by
 obtain ⟨A, c, hv, hr, _⟩ := own_rd h.own
 refine ⟨A, c, hv, ?_⟩
 have : ints (natJ l) = natI l := by unfold ints natJ natI; rw [List.map_map]; rfl
 unfold RdI
 rw [this]
 exact hr
end
end
end Go.Proofs.YtakllkkmofdpaaaGreatDoor
