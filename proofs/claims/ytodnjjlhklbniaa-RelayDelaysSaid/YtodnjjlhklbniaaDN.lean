/- The evaluation of an operation. -/
import Derived.Test.YtodnjjlhklbniaaDM
import Derived.Test.YtodnjjlhklbniaaRL3
import Derived.IntWalk
namespace Go.Proofs.Ytodnjjlhklbniaa
open Go.ChangeShapes Go.WideShapes Go.ChangeAt Go.RowKit
set_option linter.unusedVariables false
set_option linter.unusedSimpArgs false
attribute [local go_sem ↓] execOp_call_val
attribute [local go_sem] callVal_func setCell_drewN alloc_drewN sEq_walk


def EvX (x : Ctx) (lv : Value) (k : Nat) : Prop := k = x.m ∨ k = x.s ∨ lv.ownBlock = some k
def EvP (x : Ctx) (f r a : Nat) (st : Rst) (lv : Value) (w : World) (e : Ending) (w' : World) : Prop :=
  ∃ lv', e = .returned (.bool (evR x.v f r a st).1) ∧ EvW x w' (evR x.v f r a st).2 lv' ∧ Fr (EvX x lv) w w' ∧ ∀ k, lv'.ownBlock = some k → lv.ownBlock = some k ∨ w.heap.size ≤ k
/-- the boxes of an evaluation -/
structure Fm (x : Ctx) (w : World) (b2 b3 b5 b6 b7 r a : Nat) (z : Rh) (y : Nd) : Prop where
  q2 : Blk w b2 60 #[.pointer (some ⟨x.s, 0, none⟩)]
  q3 : Blk w b3 66 #[.int .i64 (r : Int), .int .i64 (a : Int)]
  q5 : Blk w b5 30 #[.slice z.A z.n z.c]
  q6 : Blk w b6 29 #[.int .i64 y.op, .string y.name, .int .i64 y.value]
  q7 : Blk w b7 66 #[.int .i64 (r : Int), .int .i64 ((a + 1 : Nat) : Int)]
theorem Fm.up {x : Ctx} {w w' : World} {b2 b3 b5 b6 b7 r a : Nat} {z : Rh} {y : Nd} (h : Fm x w b2 b3 b5 b6 b7 r a z y) (hb : Below w.heap.size w w') : Fm x w' b2 b3 b5 b6 b7 r a z y :=
  ⟨h.q2.below hb h.q2.lt, h.q3.below hb h.q3.lt, h.q5.below hb h.q5.lt, h.q6.below hb h.q6.lt, h.q7.below hb h.q7.lt⟩

section
variable {v : Rin} {f r a : Nat} {s : Rst} {y : Nd}
theorem ev_0 (hy : (expr v r)[a]? = some y) (h : y.op = 0) : evR v (f + 1) r a s = (flagB v y.name, s) := by unfold evR; rw [hy]; simp only; rw [if_pos h]
theorem ev_1 (hy : (expr v r)[a]? = some y) (h : y.op = 1) : evR v (f + 1) r a s = (decide (inputI v.ins y.name > y.value), s) := by unfold evR; rw [hy]; simp only; rw [if_neg (by omega), if_pos h]
theorem ev_2 (hy : (expr v r)[a]? = some y) (h : y.op = 2) : evR v (f + 1) r a s = (decide (inputI v.ins y.name < y.value), s) := by unfold evR; rw [hy]; simp only; rw [if_neg (by omega), if_neg (by omega), if_pos h]
theorem ev_3 (hy : (expr v r)[a]? = some y) (h : y.op = 3) : evR v (f + 1) r a s = (!(evR v f r (a + 1) s).1, (evR v f r (a + 1) s).2) := by
  conv => lhs; unfold evR
  rw [hy]; simp only; rw [if_neg (by omega), if_neg (by omega), if_neg (by omega), if_pos h]
theorem ev_4 (hy : (expr v r)[a]? = some y) (h : y.op = 4) {m : Nat} (hm : Sub (expr v r) (a + 1) m) : evR v (f + 1) r a s = ((evR v f r (a + 1) s).1 && (evR v f r m (evR v f r (a + 1) s).2).1, (evR v f r m (evR v f r (a + 1) s).2).2) := by
  conv => lhs; unfold evR
  rw [hy]; simp only; rw [if_neg (by omega), if_neg (by omega), if_neg (by omega), if_neg (by omega), if_pos h, hm.2.2]; rfl
theorem ev_5 (hy : (expr v r)[a]? = some y) (h : y.op = 5) {m : Nat} (hm : Sub (expr v r) (a + 1) m) : evR v (f + 1) r a s = ((evR v f r (a + 1) s).1 || (evR v f r m (evR v f r (a + 1) s).2).1, (evR v f r m (evR v f r (a + 1) s).2).2) := by
  conv => lhs; unfold evR
  rw [hy]; simp only; rw [if_neg (by omega), if_neg (by omega), if_neg (by omega), if_neg (by omega), if_neg (by omega), if_pos h, hm.2.2]; rfl
def latB (v : Rin) (f r a m : Nat) (s : Rst) : Bool := (((evR v f r m (evR v f r (a + 1) s).2).2.kept r a).1 || (evR v f r (a + 1) s).1) && !(evR v f r m (evR v f r (a + 1) s).2).1
theorem ev_7 (hy : (expr v r)[a]? = some y) (h : y.op = 7) {m : Nat} (hm : Sub (expr v r) (a + 1) m) : evR v (f + 1) r a s = (latB v f r a m s, ⟨updK (evR v f r m (evR v f r (a + 1) s).2).2.kept r a (latB v f r a m s, 0), (evR v f r m (evR v f r (a + 1) s).2).2.later⟩) := by
  conv => lhs; unfold evR
  rw [hy]; simp only; rw [if_neg (by omega), if_neg (by omega), if_neg (by omega), if_neg (by omega), if_neg (by omega), if_neg (by omega), if_pos h, hm.2.2]; rfl
theorem ev_6 (hy : (expr v r)[a]? = some y) (h : y.op = 6) : evR v (f + 1) r a s = ((s.kept r a).1 && decide (y.value ≤ tick (s.kept r a) v.ms), ⟨updK s.kept r a ((s.kept r a).1, tick (s.kept r a) v.ms), s.later ++ [(r, a)]⟩) := by
  conv => lhs; unfold evR
  rw [hy]; simp only; rw [if_neg (by omega), if_neg (by omega), if_neg (by omega), if_neg (by omega), if_neg (by omega), if_neg (by omega), if_neg (by omega)]
end
def EvAll (x : Ctx) (f : Nat) : Prop := ∀ (r a e : Nat) (st : Rst) (lv : Value) (w : World), EvW x w st lv → Sub (expr x.v r) a e → e - a ≤ f → st.later.length + (e - a) ≤ 1000000 →
    Calls Try.prog 19 #[.pointer (some ⟨x.s, 0, none⟩), .agg #[.int .i64 (r : Int), .int .i64 (a : Int)]] w (EvP x f r a st lv w)
theorem wt_len (v : Rin) : ∀ (l : List (Nat × Nat)), (∀ q ∈ l, Dly v q) → l.length ≤ wt v l
  | [], _ => by simp
  | q :: r, h => by
    have := (h q (List.mem_cons_self ..)).pos
    have := wt_len v r fun y hy => h y (List.mem_cons_of_mem _ hy)
    simp only [List.length_cons, wt]; omega
theorem ev_len {x : Ctx} (ok : CtxOk x) {f r a e : Nat} {s : Rst} (h : Sub (expr x.v r) a e) (hf : e - a ≤ f) (hk : KOk s.kept) : (evR x.v f r a s).2.later.length ≤ s.later.length + (e - a) := by
  obtain ⟨more, m1, m2, m3, _⟩ := ev_more x.v ok.op (by have := ok.ms; omega) f r a e s h hf hk
  have := wt_len x.v more m2
  rw [m1, List.length_append]; omega
theorem evX_not {x : Ctx} (ok : CtxOk x) {w : World} {st : Rst} {lv : Value} (h : EvW x w st lv) {b : Nat} (hb : w.heap.size ≤ b) : ¬ EvX x lv b := fun hx => by
  have h1 := h.bS.lt
  have h2 := ok.m
  rcases hx with hx | hx | hx
  · omega
  · omega
  · have := (h.later.lt hx).2; omega
theorem Fm.fr {x : Ctx} {X : Nat → Prop} {w w' : World} {b2 b3 b5 b6 b7 r a : Nat} {z : Rh} {y : Nd} (h : Fm x w b2 b3 b5 b6 b7 r a z y) (hf : Fr X w w') (hx : ∀ b, b = b2 ∨ b = b3 ∨ b = b5 ∨ b = b6 ∨ b = b7 → ¬ X b) : Fm x w' b2 b3 b5 b6 b7 r a z y :=
  ⟨hf.blk h.q2 (hx _ (by simp)), hf.blk h.q3 (hx _ (by simp)), hf.blk h.q5 (hx _ (by simp)), hf.blk h.q6 (hx _ (by simp)), hf.blk h.q7 (hx _ (by simp))⟩
theorem evP_up {x : Ctx} {f r a : Nat} {st st' : Rst} {lv lv' : Value} {b : Bool} {w w' : World} (hv : evR x.v f r a st = (b, st')) (hE : EvW x w' st' lv') (hF : Fr (EvX x lv) w w') (ho : ∀ k, lv'.ownBlock = some k → lv.ownBlock = some k ∨ w.heap.size ≤ k) : EvP x f r a st lv w (.returned (.bool b)) w' :=
  ⟨lv', by rw [hv], by rw [hv]; exact hE, hF, ho⟩
theorem evX_sub {x : Ctx} {lv lv1 : Value} {n : Nat} (ho : ∀ k, lv1.ownBlock = some k → lv.ownBlock = some k ∨ n ≤ k) (i : Nat) (h : EvX x lv1 i) : EvX x lv i ∨ n ≤ i := by
  rcases h with h | h | h
  · exact .inl (.inl h)
  · exact .inl (.inr (.inl h))
  · exact (ho i h).imp (fun h => .inr (.inr h)) id

set_option maxRecDepth 100000 in
set_option maxHeartbeats 8000000 in
theorem second_any (x : Ctx) (ok : CtxOk x) (f : Nat) (ih : EvAll x f) (r a m e : Nat) (st : Rst) (lv : Value) (w : World) (h : EvW x w st lv) (b2 b3 b5 b6 b7 : Nat) (z : Rh) (y : Nd) (hF : Fm x w b2 b3 b5 b6 b7 r a z y) (h1 : Sub (expr x.v r) (a + 1) m) (h2 : Sub (expr x.v r) m e) (hf : e - m ≤ f) (hll : st.later.length + (e - m) ≤ 1000000)
    (hz : RdNd w w.heap.size z.A z.n (expr x.v r)) (hz64 : z.n ≤ 64) :
    Calls Try.prog 24 #[.pointer (some ⟨b2, 0, none⟩), .pointer (some ⟨b3, 0, none⟩), .pointer (some ⟨b5, 0, none⟩), .pointer (some ⟨b7, 0, none⟩)] w (EvP x f r m st lv w) := by
  have IH := Lib.hid ih
  have HE := Lib.hid h
  have HZ := Lib.hid hz
  have HEND := Lib.hid h1.2.2
  have HS2 := Lib.hid h2
  have p2 := hF.q2.cell 0
  have p2l := hF.q2.lt
  have p3 := hF.q3.cell 0
  have p3l := hF.q3.lt
  have p5 := hF.q5.cell 0
  have p5l := hF.q5.lt
  have p7 := hF.q7.cell 1
  have p7l := hF.q7.lt
  have ha1 : a + 1 ≤ z.n := by have := hz.1; have := h1.2.1; have := h1.1; omega
  have HB4 := Lib.hid (below_drew (Below.refl w.heap.size w))
  clear ih h hF h1 h2 hz
  go_enter Try.func24, Try.ntmps24
  go_upto_region 1 with fail
  refine wp_region_last2 (S := fun w' => Below w.heap.size w w') 8 _ _ (by kernel_rfl) (by kernel_rfl) (by kernel_rfl) rfl rfl (below_drew (Below.refl _ _)) (fun hHeld => ?_)
  simp only [List.take_succ_cons, List.take_zero]
  refine takeH 0 (v := ?_) rfl (by kernel_rfl) (fun _ _ _ h => h) (by rfl) ?_ hHeld ?_
  rotate_left 1
  · intro w' hSw; obtain ⟨hcc, -⟩ := bcellW hSw; go_simp <;> with_reducible rfl
  try simp only [Act.put, List.setIfInBounds_toArray, List.set_cons_zero, List.set_cons_succ]
  refine takeH 1 (v := ?_) rfl (by kernel_rfl) (fun _ _ _ h => h) (by rfl) ?_ hHeld ?_
  rotate_left 1
  · intro w' hSw; obtain ⟨hcc, -⟩ := bcellW hSw; go_simp <;> with_reducible rfl
  try simp only [Act.put, List.setIfInBounds_toArray, List.set_cons_zero, List.set_cons_succ]
  refine takeH 2 (v := ?_) rfl (by kernel_rfl) (fun _ _ _ h => h) (by rfl) ?_ hHeld ?_
  rotate_left 1
  · intro w' hSw; obtain ⟨hcc, -⟩ := bcellW hSw; go_simp <;> with_reducible rfl
  try simp only [Act.put, List.setIfInBounds_toArray, List.set_cons_zero, List.set_cons_succ]
  refine takeH 3 (v := ?_) rfl (by kernel_rfl) (fun _ _ _ h => h) (by rfl) ?_ hHeld ?_
  rotate_left 1
  · intro w' hSw; obtain ⟨hcc, -⟩ := bcellW hSw; go_simp <;> with_reducible rfl
  try simp only [Act.put, List.setIfInBounds_toArray, List.set_cons_zero, List.set_cons_succ]
  refine takeH 4 (v := ?_) rfl (by kernel_rfl) (fun _ _ _ h => h) (by rfl) ?_ hHeld ?_
  rotate_left 1
  · intro w' hSw; obtain ⟨hcc, -⟩ := bcellW hSw; go_simp <;> with_reducible rfl
  try simp only [Act.put, List.setIfInBounds_toArray, List.set_cons_zero, List.set_cons_succ]
  refine takeH 5 (v := ?_) rfl (by kernel_rfl) (fun _ _ _ h => h) (by rfl) ?_ hHeld ?_
  rotate_left 1
  · intro w' hSw; obtain ⟨hcc, -⟩ := bcellW hSw; go_simp <;> with_reducible rfl
  try simp only [Act.put, List.setIfInBounds_toArray, List.set_cons_zero, List.set_cons_succ]
  refine stepH 6 (by kernel_rfl) rfl (fun K hK => ?_)
  go_simp
  refine (end_any z.A z.n z.c (expr x.v r) (a + 1) _ (HZ.out.up HB4.out) (by omega) ha1).mono ?_
  rw [HEND.out]
  rintro e' w1 ⟨rfl, rfl⟩
  go_simp
  refine hK.out _ _ ?_ (fun hHeld => ?_)
  · exact HB4.out
  clear hK K
  try simp only [Act.put, List.setIfInBounds_toArray, List.set_cons_zero, List.set_cons_succ]
  refine takeH 7 (v := ?_) rfl (by kernel_rfl) (fun _ _ _ h => h) (by rfl) ?_ hHeld ?_
  rotate_left 1
  · intro w' hSw; obtain ⟨hcc, -⟩ := bcellW hSw; go_simp <;> with_reducible rfl
  try simp only [Act.put, List.setIfInBounds_toArray, List.set_cons_zero, List.set_cons_succ]
  refine wpAnyH_done (by kernel_rfl) ?_ _
  refine lastQ_go (by rfl) ?_
  go_simp
  refine (IH.out r m e st lv _ (HE.out.up HB4.out) HS2.out hf hll).mono ?_
  rintro e' w2 ⟨lv2, rfl, hE2, hF2, ho2⟩
  have HR : Hid (EvP x f r m st lv w (.returned (.bool (evR x.v f r m st).1)) w2) := Lib.hid ⟨lv2, rfl, hE2, (Fr.of HB4.out).trans hF2 (fun i hi => .inl hi), ho2⟩
  clear hE2 hF2 ho2 hHeld
  refine lastQ_go (by rfl) ?_
  go_wp2_with fail
  go_ret
  exact HR.out

section
variable {P : Program}
theorem wp_mapput {o : Oper} {a : Act} {w w' : World} {K : Act → World → Prop} {Q : Exit → Act → World → Prop} (m x v : Operand) (t : TypeId) (hop : o.op = Op.mapUpdate t m x v) (mv key val : Value) (hm : a.eval m = mv) (hx : a.eval x = key) (hv : a.eval v = val)
    (hrun : (Instr.mapUpdate t mv key val).run P w = .ok () w') (hK : K (a.put o.dst undef) w') : Oper.wp P o a w K Q := by
  unfold Oper.wp
  simp [execOp, hop, hm, hx, hv, hrun, Result.andThen]
  exact hK
theorem wp_append_qp {o : Oper} {a : Act} {w : World} {K : Act → World → Prop} {Q : Exit → Act → World → Prop} (s x : Operand) (t : TypeId) (ho : o.op = .call { callee := .builtin .append, args := #[s, x], argTypes := #[t, t] })
    (base : Nat) (e : TypeId) (i : TypeInfo) (z : Value) (ht : P.underlying t = some (.slice e)) (hi : P.info? e = some i) (hz : i.zero = some z) (hsize : i.size = 2) (hby : i.bytes ≤ 16) (hzs : z.cells.size = 2)
    (v : Value) (xs : List (Nat × Nat)) (hs : a.eval s = v) (h : Qp w base v xs) (b c : Nat) (q : Nat × Nat) (hx : a.eval x = .slice (some ⟨b, 0, none⟩) 1 c) (hu : w.cell? ⟨b, 0, none⟩ = some (.int .i64 (q.1 : Int))) (hu2 : w.cell? ⟨b, 1, none⟩ = some (.int .i64 (q.2 : Int))) (hlen : xs.length ≤ 1000000) (hbase : base ≤ w.heap.size)
    (hk : ∀ v' w', Qp w' base v' (xs ++ [q]) → w.grownBy w' v.ownBlock → (v'.ownBlock = v.ownBlock ∨ v'.ownBlock = some w.heap.size) → K (a.put o.dst v') w') : Oper.wp P o a w K Q := by
  obtain ⟨v', w', hr, h2, h3, h4⟩ := run_append_qp (P := P) w base t o.type e i z ht hi hz hsize hby hzs v xs h b c q hu hu2 hlen hbase
  unfold Oper.wp execOp
  simp only [ho, resolve, invoke, builtin, Sem.run_bind, Sem.run_pure, Result.andThen_ok, List.map_toArray, List.map_cons, List.map_nil, hs, hx, hr]
  exact hk _ _ h2 h3 h4
end
theorem info_pl : (Try.prog.info? 66).map (fun i => (i.zero, i.size, i.bytes)) = some (some (.agg #[.int .i64 0, .int .i64 0]), 2, 16) := by kernel_rfl
theorem Qp.slice {w : World} {base : Nat} {v : Value} {xs : List (Nat × Nat)} (h : Qp w base v xs) : ∃ A n c, v = .slice A n c := by
  rcases h with ⟨h, _⟩ | ⟨g, off, cap, h, _⟩
  · exact ⟨_, _, _, h⟩
  · exact ⟨_, _, _, h⟩
/-- a place is added -/
theorem EvW.added {x : Ctx} {w w' : World} {st : Rst} {lv lv' : Value} {q : Nat × Nat} (h : EvW x w st lv) (ok : CtxOk x) (hq : Qp w' (x.s + 1) lv' (st.later ++ [q])) (hg : w.grownBy w' lv.ownBlock) : EvW x (w'.setCell ⟨x.s, 4, none⟩ lv') ⟨st.kept, st.later ++ [q]⟩ lv' := by
  have hX : Fr (fun k => lv.ownBlock = some k) w w' := ⟨hg.os, hg.tape, hg.output, hg.size, fun k hk hn => hg.block k hk fun e => hn e.symm⟩
  have hlo : ∀ k, lv.ownBlock = some k → x.s < k := fun k hk => by have := (h.later.lt hk).1; omega
  have hF : Fr (fun k => lv.ownBlock = some k ∨ k = x.s) w (w'.setCell ⟨x.s, 4, none⟩ lv') := (hX.mono (fun i hi => .inl (.inl hi))).set_ (.inl (.inr rfl))
  have hlow : ∀ B k, B ≤ x.s → k < B → (lv.ownBlock = some k ∨ k = x.s) → ∃ es c, w.heap[k]? = some (.map es c) := fun B k hB hk hc => by
    rcases hc with hc | hc
    · have := hlo k hc; omega
    · omega
  have ne : ∀ {g : Nat}, g < x.s → ¬ (lv.ownBlock = some g ∨ g = x.s) := fun {g} hg hc => by
    rcases hc with hc | hc
    · have := hlo g hc; omega
    · omega
  have bS' : Blk w' x.s 63 #[.pointer (some ⟨x.r, 0, none⟩), .int .i64 x.v.ms, .slice x.Af x.nf x.cf, .slice x.Ai x.ni x.ci, lv] := hX.blk h.bS (fun hc => by have := hlo _ hc; omega)
  refine ⟨by have := bS'.set_ 4 lv'; simpa using this, hF.blk h.bR (ne ok.r), h.rules.fr hF (hlow _ · (Nat.le_refl _)), hF.blk h.vals (ne ok.gv), h.flags.fr hF (hlow _ · (Nat.le_refl _)), h.ins.fr hF (hlow _ · (Nat.le_refl _)), h.kept.at_ (hF.block _ h.kept.lt (ne ok.m)), h.ko, hq.at_ (fun k hk => ?_) (by simp)⟩
  have := (hq.lt hk).1
  exact Below.heap_setCell w' ⟨x.s, 4, none⟩ lv' k (by show k ≠ x.s; omega)

theorem ite_go {c : Bool} {p q : Prop} (h : c = true) (hp : p) : if c = true then p else q := by rw [if_pos h]; exact hp
theorem EvW.far {x : Ctx} {w : World} {st : Rst} {lv : Value} (h : EvW x w st lv) (ok : CtxOk x) {g : Nat} (hg : x.s < g) (hl : lv.ownBlock ≠ some g) (i : Nat) (u : Value) : EvW x (w.setCell ⟨g, i, none⟩ u) st lv := by
  have hF : Fr (fun k => k = g) w (w.setCell ⟨g, i, none⟩ u) := (Fr.refl _ w).set_ (.inl rfl)
  have hlow : ∀ B k, B ≤ x.s → k < B → k = g → ∃ es c, w.heap[k]? = some (.map es c) := fun B k hB hk e => by omega
  have hr := ok.r
  have hgv := ok.gv
  have hm := ok.m
  exact ⟨hF.blk h.bS (by omega), hF.blk h.bR (by omega), h.rules.fr hF (hlow _ · (Nat.le_refl _)), hF.blk h.vals (by omega), h.flags.fr hF (hlow _ · (Nat.le_refl _)), h.ins.fr hF (hlow _ · (Nat.le_refl _)), h.kept.at_ (hF.block _ h.kept.lt (by omega)), h.ko, h.later.at_ (fun k hk => hF.block k (h.later.lt hk).2 (fun e => hl (by rw [hk, show k = g from e]))) hF.size⟩
theorem Fm.far {x : Ctx} {w : World} {b2 b3 b5 b6 b7 r a : Nat} {z : Rh} {y : Nd} (h : Fm x w b2 b3 b5 b6 b7 r a z y) {g : Nat} (hne : ∀ b, b = b2 ∨ b = b3 ∨ b = b5 ∨ b = b6 ∨ b = b7 → b ≠ g) (i : Nat) (u : Value) : Fm x (w.setCell ⟨g, i, none⟩ u) b2 b3 b5 b6 b7 r a z y :=
  h.fr ((Fr.refl (fun k => k = g) w).set_ (.inl rfl)) (fun b hb e => hne b hb e)
def S30 (b2 b3 s r a : Nat) (lv : Value) (w : World) : Prop := w.cell? ⟨b2, 0, none⟩ = some (.pointer (some ⟨s, 0, none⟩)) ∧ w.cell? ⟨s, 4, none⟩ = some lv ∧ w.cell? ⟨b3, 0, none⟩ = some (.int .i64 (r : Int)) ∧ w.cell? ⟨b3, 1, none⟩ = some (.int .i64 (a : Int))
theorem S30.at_ {b2 b3 s r a : Nat} {lv : Value} {w w' : World} (h : S30 b2 b3 s r a lv w) (hb : ∀ b, b = b2 ∨ b = b3 ∨ b = s → w'.heap[b]? = w.heap[b]?) : S30 b2 b3 s r a lv w' :=
  ⟨(World.cell?_of_block (a := ⟨b2, 0, none⟩) (hb _ (.inl rfl))).trans h.1, (World.cell?_of_block (a := ⟨s, 4, none⟩) (hb _ (.inr (.inr rfl)))).trans h.2.1, (World.cell?_of_block (a := ⟨b3, 0, none⟩) (hb _ (.inr (.inl rfl)))).trans h.2.2.1, (World.cell?_of_block (a := ⟨b3, 1, none⟩) (hb _ (.inr (.inl rfl)))).trans h.2.2.2⟩

set_option maxRecDepth 100000 in
set_option maxHeartbeats 8000000 in
theorem eval_step (x : Ctx) (ok : CtxOk x) (f : Nat) (ih : EvAll x f) : EvAll x (f + 1) := by
  intro r a e st lv w h hs hf hll
  have IH := Lib.hid ih
  clear ih
  obtain ⟨y, hy⟩ := hs.get
  have hA0 : EvW x w st lv := h
  obtain ⟨z, hz, hze, hrn, hzn, hz64, hrd⟩ := h.expr ok hs
  have hal : a < z.n := by rw [hzn]; exact (List.getElem?_eq_some_iff.1 hy).1
  have K2 : Below w.heap.size w ((w.alloc (.cells #[.pointer (some ⟨x.s, 0, none⟩)] 60)).alloc (.cells #[.int .i64 (r : Int), .int .i64 (a : Int)] 66)) := ((Below.refl _ _).alloc (Nat.le_refl _) _).alloc (by simp) _
  have HE := Lib.hid (h.up K2)
  have HK2 := Lib.hid K2
  have Q2 : Blk ((w.alloc (.cells #[.pointer (some ⟨x.s, 0, none⟩)] 60)).alloc (.cells #[.int .i64 (r : Int), .int .i64 (a : Int)] 66)) w.heap.size 60 #[.pointer (some ⟨x.s, 0, none⟩)] := (Blk.new w _ _).alloc _
  have Q3 : Blk ((w.alloc (.cells #[.pointer (some ⟨x.s, 0, none⟩)] 60)).alloc (.cells #[.int .i64 (r : Int), .int .i64 (a : Int)] 66)) (w.heap.size + 1) 66 #[.int .i64 (r : Int), .int .i64 (a : Int)] := Blk.new_ (by simp)
  have HQ2 := Lib.hid Q2
  have HQ3 := Lib.hid Q3
  have HZ := Lib.hid hz
  have HY := Lib.hid hy
  have HB3 : w.heap.size + 1 < ((w.alloc (.cells #[.pointer (some ⟨x.s, 0, none⟩)] 60)).alloc (.cells #[.int .i64 (r : Int), .int .i64 (a : Int)] 66)).heap.size := by simp
  clear h K2 Q2 Q3 hz hze hy hrd hzn
  go_enter Try.func19, Try.ntmps19
  go_upto_region 1 with fail
  generalize (w.alloc (.cells #[.pointer (some ⟨x.s, 0, none⟩)] 60)).alloc (.cells #[.int .i64 (r : Int), .int .i64 (a : Int)] 66) = wa at *
  generalize hb3 : w.heap.size + 1 = b3 at *
  generalize hb2 : w.heap.size = b2 at *
  have HW2 := Lib.hid hb2
  have HW3 := Lib.hid hb3
  clear hb2 hb3
  have hru := HE.out.rules
  obtain ⟨bA, off, hA, hblt⟩ := hru.form (by omega)
  rw [hA] at hru
  obtain ⟨c0, c1⟩ := hru.at_ HZ.out
  have s0 := HE.out.bS.cell 0
  have r0 := HE.out.bR.cell 0
  rw [hA] at r0
  have p2 := HQ2.out.cell 0
  have p3 := HQ3.out.cell 0
  have sl := HE.out.bS.lt
  have rl := HE.out.bR.lt
  have l2 := HQ2.out.lt
  have hbl : bA < wa.heap.size := Nat.lt_trans hblt sl
  have hrI : (r : Int) < (x.n : Int) := by omega
  obtain ⟨z', hz', e1, e2, e3, e4, hrd⟩ := HE.out.expr ok hs
  clear e1 e2 e3 e4
  obtain rfl : z' = z := by have := hz'.symm.trans HZ.out; injection this
  obtain ⟨bE, offE, hA2, hbE⟩ := hrd.form (by omega)
  rw [hA2] at c1 hrd
  obtain ⟨d0, d1, d2⟩ := hrd.at_ HY.out
  have p31 := HQ3.out.cell 1
  have hbe : bE < wa.heap.size := Nat.lt_trans hbE sl
  have HA2 := Lib.hid hA2
  have haI : (a : Int) < (z'.n : Int) := by omega
  clear hru hblt c0 hz' hrd hbE hA2
  refine wp_region_last (S := fun w' => Below wa.heap.size wa w') 13 _ (by kernel_rfl) (by kernel_rfl) rfl (below_drew (Below.refl _ _)) (fun hHeld => ?_)
  simp only [List.take_succ_cons, List.take_zero]
  refine takeH 0 (v := ?_) rfl (by kernel_rfl) (fun _ _ _ h => h) (by rfl) ?_ hHeld ?_
  rotate_left 1
  · intro w' hSw; obtain ⟨hcc, -⟩ := bcellW hSw; go_simp <;> with_reducible rfl
  try simp only [Act.put, List.setIfInBounds_toArray, List.set_cons_zero, List.set_cons_succ]
  refine takeH 1 (v := ?_) rfl (by kernel_rfl) (fun _ _ _ h => h) (by rfl) ?_ hHeld ?_
  rotate_left 1
  · intro w' hSw; obtain ⟨hcc, -⟩ := bcellW hSw; go_simp <;> with_reducible rfl
  try simp only [Act.put, List.setIfInBounds_toArray, List.set_cons_zero, List.set_cons_succ]
  refine takeH 2 (v := ?_) rfl (by kernel_rfl) (fun _ _ _ h => h) (by rfl) ?_ hHeld ?_
  rotate_left 1
  · intro w' hSw; obtain ⟨hcc, -⟩ := bcellW hSw; go_simp <;> with_reducible rfl
  try simp only [Act.put, List.setIfInBounds_toArray, List.set_cons_zero, List.set_cons_succ]
  refine takeH 3 (v := ?_) rfl (by kernel_rfl) (fun _ _ _ h => h) (by rfl) ?_ hHeld ?_
  rotate_left 1
  · intro w' hSw; obtain ⟨hcc, -⟩ := bcellW hSw; go_simp <;> with_reducible rfl
  try simp only [Act.put, List.setIfInBounds_toArray, List.set_cons_zero, List.set_cons_succ]
  refine takeH 4 (v := ?_) rfl (by kernel_rfl) (fun _ _ _ h => h) (by rfl) ?_ hHeld ?_
  rotate_left 1
  · intro w' hSw; obtain ⟨hcc, -⟩ := bcellW hSw; go_simp <;> with_reducible rfl
  try simp only [Act.put, List.setIfInBounds_toArray, List.set_cons_zero, List.set_cons_succ]
  refine takeH 5 (v := ?_) rfl (by kernel_rfl) (fun _ _ _ h => h) (by rfl) ?_ hHeld ?_
  rotate_left 1
  · intro w' hSw; obtain ⟨hcc, -⟩ := bcellW hSw; go_simp <;> with_reducible rfl
  try simp only [Act.put, List.setIfInBounds_toArray, List.set_cons_zero, List.set_cons_succ]
  refine takeH 6 (v := ?_) rfl (by kernel_rfl) (fun _ _ _ h => h) (by rfl) ?_ hHeld ?_
  rotate_left 1
  · intro w' hSw; obtain ⟨hcc, -⟩ := bcellW hSw; go_simp <;> with_reducible rfl
  try simp only [Act.put, List.setIfInBounds_toArray, List.set_cons_zero, List.set_cons_succ]
  refine takeH 7 (v := ?_) rfl (by kernel_rfl) (fun _ _ _ h => h) (by rfl) ?_ hHeld ?_
  rotate_left 1
  · intro w' hSw; obtain ⟨hcc, -⟩ := bcellW hSw; go_simp <;> with_reducible rfl
  try simp only [Act.put, List.setIfInBounds_toArray, List.set_cons_zero, List.set_cons_succ]
  refine takeH 8 (v := ?_) rfl (by kernel_rfl) (fun _ _ _ h => h) (by rfl) ?_ hHeld ?_
  rotate_left 1
  · intro w' hSw; obtain ⟨hcc, -⟩ := bcellW hSw; go_simp <;> with_reducible rfl
  try simp only [Act.put, List.setIfInBounds_toArray, List.set_cons_zero, List.set_cons_succ]
  refine takeH 9 (v := ?_) rfl (by kernel_rfl) (fun _ _ _ h => h) (by rfl) ?_ hHeld ?_
  rotate_left 1
  · intro w' hSw; obtain ⟨hcc, -⟩ := bcellW hSw; go_simp <;> with_reducible rfl
  try simp only [Act.put, List.setIfInBounds_toArray, List.set_cons_zero, List.set_cons_succ]
  refine takeH 10 (v := ?_) rfl (by kernel_rfl) (fun _ _ _ h => h) (by rfl) ?_ hHeld ?_
  rotate_left 1
  · intro w' hSw; obtain ⟨hcc, -⟩ := bcellW hSw; go_simp <;> with_reducible rfl
  try simp only [Act.put, List.setIfInBounds_toArray, List.set_cons_zero, List.set_cons_succ]
  refine takeH 11 (v := ?_) rfl (by kernel_rfl) (fun _ _ _ h => h) (by rfl) ?_ hHeld ?_
  rotate_left 1
  · intro w' hSw; obtain ⟨hcc, -⟩ := bcellW hSw; go_simp <;> with_reducible rfl
  try simp only [Act.put, List.setIfInBounds_toArray, List.set_cons_zero, List.set_cons_succ]
  refine stepH 12 (by kernel_rfl) rfl (fun K hK => ?_)
  go_simp
  refine hK.out _ _ ?_ (fun hHeld => ?_)
  · exact (below_drew (Below.refl wa.heap.size wa)).alloc (Nat.le_refl _) _
  clear hK K
  try simp only [Act.put, List.setIfInBounds_toArray, List.set_cons_zero, List.set_cons_succ]
  refine wpAnyH_done (by kernel_rfl) ?_ _
  refine lastQ_go (by rfl) ?_
  clear hHeld
  go_upto_region 5 with fail
  have hW0 : Below wa.heap.size wa (((wa.alloc (.cells #[.slice (some ⟨bE, offE, none⟩) z'.n z'.c] 30)).alloc (.cells #[.int .i64 y.op, .string y.name, .int .i64 y.value] 29)).alloc (.cells #[.int .i64 (r : Int), .int .i64 ((a : Int) + 1)] 66)).drew := below_drew ((((Below.refl _ _).alloc (Nat.le_refl _) _).alloc (by simp) _).alloc (by simp; omega) _)
  have HFM : Hid (Fm x (((wa.alloc (.cells #[.slice (some ⟨bE, offE, none⟩) z'.n z'.c] 30)).alloc (.cells #[.int .i64 y.op, .string y.name, .int .i64 y.value] 29)).alloc (.cells #[.int .i64 (r : Int), .int .i64 ((a : Int) + 1)] 66)).drew b2 b3 wa.heap.size (wa.heap.size + 1) (wa.heap.size + 1 + 1) r a z' y) := Lib.hid
    ⟨HQ2.out.below hW0 HQ2.out.lt, HQ3.out.below hW0 HQ3.out.lt, by rw [HA2.out]; exact (((Blk.new wa _ _).alloc _).alloc _).drew, ((Blk.new_ (by simp)).alloc _).drew, (Blk.new_ (by simp)).drew⟩
  have HEW := Lib.hid (HE.out.up hW0)
  have HBB : Hid (Below w.heap.size w (((wa.alloc (.cells #[.slice (some ⟨bE, offE, none⟩) z'.n z'.c] 30)).alloc (.cells #[.int .i64 y.op, .string y.name, .int .i64 y.value] 29)).alloc (.cells #[.int .i64 (r : Int), .int .i64 ((a : Int) + 1)] 66)).drew) := Lib.hid (by
    rw [HW2.out]
    exact HK2.out.trans (hW0.mono (by have := HK2.out.size; rw [HW2.out] at this; exact this)))
  have HWS : Hid (w.heap.size ≤ wa.heap.size) := Lib.hid HK2.out.size
  have HOPS := Lib.hid (ok.op r y (List.mem_of_getElem? HY.out))
  have HB2 : Hid (w.heap.size ≤ b2 ∧ w.heap.size ≤ b3) := Lib.hid ⟨by rw [HW2.out]; exact Nat.le_refl _, by rw [HW2.out, ← HW3.out]; exact Nat.le_succ _⟩
  clear hW0 s0 r0 p2 p3 p31 sl rl l2 hbl hbe hrI haI c1 d0 d1 d2 HE HQ2 HQ3 HB3 hA
  generalize (((wa.alloc (.cells #[.slice (some ⟨bE, offE, none⟩) z'.n z'.c] 30)).alloc (.cells #[.int .i64 y.op, .string y.name, .int .i64 y.value] 29)).alloc (.cells #[.int .i64 (r : Int), .int .i64 ((a : Int) + 1)] 66)).drew = wb at *
  have HNB : Hid (∀ b, b = b2 ∨ b = b3 ∨ b = wa.heap.size ∨ b = wa.heap.size + 1 ∨ b = wa.heap.size + 1 + 1 → w.heap.size ≤ b) := Lib.hid (fun b hb => by
    have h1 := HB2.out.1
    have h2 := HB2.out.2
    have h3 := HWS.out
    rcases hb with rfl | rfl | rfl | rfl | rfl <;> omega)
  generalize hb7 : wa.heap.size + 1 + 1 = b7 at *
  generalize hb6 : wa.heap.size + 1 = b6 at *
  generalize hb5 : wa.heap.size = b5 at *
  clear hb5 hb6 hb7 HWS HW2 HW3 HB2 HK2
  have HA0 := Lib.hid hA0
  clear hA0
  have y0 := HFM.out.q6.cell 0
  have y0l := HFM.out.q6.lt
  by_cases h0 : y.op = 0
  · skip
    rw [h0] at y0
    have y1 := HFM.out.q6.cell 1
    have p2 := HFM.out.q2.cell 0
    have p2l := HFM.out.q2.lt
    have HV := Lib.hid (ev_0 (v := x.v) (f := f) (s := st) HY.out h0)
    clear h0
    go_wp2_with fail
    refine (flag_any x ok st lv y.name wb HEW.out).mono ?_
    rintro e' w1 ⟨rfl, k1⟩
    have HR : Hid (EvP x (f + 1) r a st lv w (.returned (.bool (flagB x.v y.name))) w1) := Lib.hid (evP_up HV.out (HEW.out.up k1) (Fr.of (HBB.out.trans (k1.mono HBB.out.size))) (fun k hk => .inl hk))
    clear k1
    go_wp2_with fail
    go_ret
    exact HR.out
  by_cases h1 : y.op = 1
  · skip
    rw [h1] at y0
    have y1 := HFM.out.q6.cell 1
    have y2 := HFM.out.q6.cell 2
    have p2 := HFM.out.q2.cell 0
    have p2l := HFM.out.q2.lt
    have HV := Lib.hid (ev_1 (v := x.v) (f := f) (s := st) HY.out h1)
    have HB4 := Lib.hid (below_drew (Below.refl wb.heap.size wb))
    clear h1
    go_upto_region 9 with fail
    refine wp_region_last (S := fun w' => Below wb.heap.size wb w') 7 _ (by kernel_rfl) (by kernel_rfl) rfl (below_drew (Below.refl _ _)) (fun hHeld => ?_)
    simp only [List.take_succ_cons, List.take_zero]
    refine takeH 0 (v := ?_) rfl (by kernel_rfl) (fun _ _ _ h => h) (by rfl) ?_ hHeld ?_
    rotate_left 1
    · intro w' hSw; obtain ⟨hcc, -⟩ := bcellW hSw; go_simp <;> with_reducible rfl
    try simp only [Act.put, List.setIfInBounds_toArray, List.set_cons_zero, List.set_cons_succ]
    refine takeH 1 (v := ?_) rfl (by kernel_rfl) (fun _ _ _ h => h) (by rfl) ?_ hHeld ?_
    rotate_left 1
    · intro w' hSw; obtain ⟨hcc, -⟩ := bcellW hSw; go_simp <;> with_reducible rfl
    try simp only [Act.put, List.setIfInBounds_toArray, List.set_cons_zero, List.set_cons_succ]
    refine takeH 2 (v := ?_) rfl (by kernel_rfl) (fun _ _ _ h => h) (by rfl) ?_ hHeld ?_
    rotate_left 1
    · intro w' hSw; obtain ⟨hcc, -⟩ := bcellW hSw; go_simp <;> with_reducible rfl
    try simp only [Act.put, List.setIfInBounds_toArray, List.set_cons_zero, List.set_cons_succ]
    refine takeH 4 (v := ?_) rfl (by kernel_rfl) (fun _ _ _ h => h) (by rfl) ?_ hHeld ?_
    rotate_left 1
    · intro w' hSw; obtain ⟨hcc, -⟩ := bcellW hSw; go_simp <;> with_reducible rfl
    try simp only [Act.put, List.setIfInBounds_toArray, List.set_cons_zero, List.set_cons_succ]
    refine takeH 5 (v := ?_) rfl (by kernel_rfl) (fun _ _ _ h => h) (by rfl) ?_ hHeld ?_
    rotate_left 1
    · intro w' hSw; obtain ⟨hcc, -⟩ := bcellW hSw; go_simp <;> with_reducible rfl
    try simp only [Act.put, List.setIfInBounds_toArray, List.set_cons_zero, List.set_cons_succ]
    refine stepH 3 (by kernel_rfl) rfl (fun K hK => ?_)
    go_simp
    refine (input_any x ok st lv y.name _ (HEW.out.up HB4.out)).mono ?_
    rintro e' w1 ⟨rfl, k1⟩
    have HB8 := Lib.hid (HB4.out.trans (k1.mono HB4.out.size))
    clear k1
    go_simp
    refine hK.out _ _ ?_ (fun hHeld => ?_)
    · exact HB8.out
    clear hK K
    try simp only [Act.put, List.setIfInBounds_toArray, List.set_cons_zero, List.set_cons_succ]
    refine takeH 6 (v := ?_) rfl (by kernel_rfl) (fun _ _ _ h => h) (by rfl) ?_ hHeld ?_
    rotate_left 1
    · intro w' hSw; obtain ⟨hcc, -⟩ := bcellW hSw; go_simp <;> with_reducible rfl
    try simp only [Act.put, List.setIfInBounds_toArray, List.set_cons_zero, List.set_cons_succ]
    refine wpAnyH_done (by kernel_rfl) ?_ _
    refine lastQ_go (by rfl) ?_
    clear hHeld
    have HR : Hid (EvP x (f + 1) r a st lv w (.returned (.bool (decide (inputI x.v.ins y.name > y.value)))) w1) := Lib.hid (evP_up HV.out (HEW.out.up HB8.out) (Fr.of (HBB.out.trans (HB8.out.mono HBB.out.size))) (fun k hk => .inl hk))
    clear HB8
    go_wp2_with fail
    go_ret
    exact HR.out
  by_cases h2 : y.op = 2
  · skip
    rw [h2] at y0
    have y1 := HFM.out.q6.cell 1
    have y2 := HFM.out.q6.cell 2
    have p2 := HFM.out.q2.cell 0
    have p2l := HFM.out.q2.lt
    have HV := Lib.hid (ev_2 (v := x.v) (f := f) (s := st) HY.out h2)
    have HB4 := Lib.hid (below_drew (Below.refl wb.heap.size wb))
    clear h2
    go_upto_region 11 with fail
    refine wp_region_last (S := fun w' => Below wb.heap.size wb w') 7 _ (by kernel_rfl) (by kernel_rfl) rfl (below_drew (Below.refl _ _)) (fun hHeld => ?_)
    simp only [List.take_succ_cons, List.take_zero]
    refine takeH 0 (v := ?_) rfl (by kernel_rfl) (fun _ _ _ h => h) (by rfl) ?_ hHeld ?_
    rotate_left 1
    · intro w' hSw; obtain ⟨hcc, -⟩ := bcellW hSw; go_simp <;> with_reducible rfl
    try simp only [Act.put, List.setIfInBounds_toArray, List.set_cons_zero, List.set_cons_succ]
    refine takeH 1 (v := ?_) rfl (by kernel_rfl) (fun _ _ _ h => h) (by rfl) ?_ hHeld ?_
    rotate_left 1
    · intro w' hSw; obtain ⟨hcc, -⟩ := bcellW hSw; go_simp <;> with_reducible rfl
    try simp only [Act.put, List.setIfInBounds_toArray, List.set_cons_zero, List.set_cons_succ]
    refine takeH 2 (v := ?_) rfl (by kernel_rfl) (fun _ _ _ h => h) (by rfl) ?_ hHeld ?_
    rotate_left 1
    · intro w' hSw; obtain ⟨hcc, -⟩ := bcellW hSw; go_simp <;> with_reducible rfl
    try simp only [Act.put, List.setIfInBounds_toArray, List.set_cons_zero, List.set_cons_succ]
    refine takeH 4 (v := ?_) rfl (by kernel_rfl) (fun _ _ _ h => h) (by rfl) ?_ hHeld ?_
    rotate_left 1
    · intro w' hSw; obtain ⟨hcc, -⟩ := bcellW hSw; go_simp <;> with_reducible rfl
    try simp only [Act.put, List.setIfInBounds_toArray, List.set_cons_zero, List.set_cons_succ]
    refine takeH 5 (v := ?_) rfl (by kernel_rfl) (fun _ _ _ h => h) (by rfl) ?_ hHeld ?_
    rotate_left 1
    · intro w' hSw; obtain ⟨hcc, -⟩ := bcellW hSw; go_simp <;> with_reducible rfl
    try simp only [Act.put, List.setIfInBounds_toArray, List.set_cons_zero, List.set_cons_succ]
    refine stepH 3 (by kernel_rfl) rfl (fun K hK => ?_)
    go_simp
    refine (input_any x ok st lv y.name _ (HEW.out.up HB4.out)).mono ?_
    rintro e' w1 ⟨rfl, k1⟩
    have HB8 := Lib.hid (HB4.out.trans (k1.mono HB4.out.size))
    clear k1
    go_simp
    refine hK.out _ _ ?_ (fun hHeld => ?_)
    · exact HB8.out
    clear hK K
    try simp only [Act.put, List.setIfInBounds_toArray, List.set_cons_zero, List.set_cons_succ]
    refine takeH 6 (v := ?_) rfl (by kernel_rfl) (fun _ _ _ h => h) (by rfl) ?_ hHeld ?_
    rotate_left 1
    · intro w' hSw; obtain ⟨hcc, -⟩ := bcellW hSw; go_simp <;> with_reducible rfl
    try simp only [Act.put, List.setIfInBounds_toArray, List.set_cons_zero, List.set_cons_succ]
    refine wpAnyH_done (by kernel_rfl) ?_ _
    refine lastQ_go (by rfl) ?_
    clear hHeld
    have HR : Hid (EvP x (f + 1) r a st lv w (.returned (.bool (decide (inputI x.v.ins y.name < y.value)))) w1) := Lib.hid (evP_up HV.out (HEW.out.up HB8.out) (Fr.of (HBB.out.trans (HB8.out.mono HBB.out.size))) (fun k hk => .inl hk))
    clear HB8
    go_wp2_with fail
    go_ret
    exact HR.out
  by_cases h3 : y.op = 3
  · skip
    rw [h3] at y0
    have p2 := HFM.out.q2.cell 0
    have p2l := HFM.out.q2.lt
    have p70 := HFM.out.q7.cell 0
    have p71 := HFM.out.q7.cell 1
    have p7l := HFM.out.q7.lt
    have HV := Lib.hid (ev_3 (v := x.v) (f := f) (s := st) HY.out h3)
    have HS1 := Lib.hid (hs.one HY.out (by rw [h3]; rfl))
    clear h3
    go_wp2_with fail
    refine (IH.out r (a + 1) e st lv wb HEW.out HS1.out (by omega) (by omega)).mono ?_
    rintro e' w1 ⟨lv1, rfl, hE1, hF1, ho1⟩
    have HR : Hid (EvP x (f + 1) r a st lv w (.returned (.bool (!(evR x.v f r (a + 1) st).1))) w1) := Lib.hid (evP_up HV.out hE1 ((Fr.of HBB.out).trans hF1 (fun i hi => .inl hi)) (fun k hk => (ho1 k hk).imp id fun h => Nat.le_trans HBB.out.size h))
    clear hE1 hF1 ho1
    go_wp2_with fail
    go_ret
    exact HR.out
  by_cases h4 : y.op = 4
  · skip
    rw [h4] at y0
    have p2 := HFM.out.q2.cell 0
    have p2l := HFM.out.q2.lt
    have p70 := HFM.out.q7.cell 0
    have p71 := HFM.out.q7.cell 1
    have p7l := HFM.out.q7.lt
    obtain ⟨m, hs1, hs2⟩ := hs.two HY.out (by rw [h4]; rfl)
    have HV := Lib.hid (ev_4 (v := x.v) (f := f) (s := st) HY.out h4 hs1)
    have HS1 := Lib.hid hs1
    have HS2 := Lib.hid hs2
    have ham := hs1.2.1
    have hme := hs2.2.1
    have HL1 := Lib.hid (ev_len ok (s := st) hs1 (f := f) (by omega) HEW.out.ko)
    clear h4 hs1 hs2
    go_wp2_with fail
    refine (IH.out r (a + 1) m st lv wb HEW.out HS1.out (by omega) (by omega)).mono ?_
    rintro e' w1 ⟨lv1, rfl, hE1, hF1, ho1⟩
    have HE1 := Lib.hid hE1
    have HF1 := Lib.hid ((Fr.of HBB.out).trans hF1 (fun i hi => .inl hi))
    have HO1 : Hid (∀ k, lv1.ownBlock = some k → lv.ownBlock = some k ∨ w.heap.size ≤ k) := Lib.hid (fun k hk => (ho1 k hk).imp id fun h => Nat.le_trans HBB.out.size h)
    have HFM1 := Lib.hid (HFM.out.fr hF1 (fun b hb => evX_not ok HA0.out (HNB.out b hb)))
    have HRD : Hid (RdNd w1 w1.heap.size z'.A z'.n (expr x.v r)) := Lib.hid (by
      obtain ⟨z2, hz2, _, _, _, _, hrd⟩ := HE1.out.expr ok hs
      obtain rfl : z2 = z' := by have := hz2.symm.trans HZ.out; injection this
      exact hrd.more (Nat.le_of_lt HE1.out.bS.lt))
    have HN1 : Hid (∀ b, b = b2 ∨ b = b3 ∨ b = b5 ∨ b = b6 ∨ b = b7 → ¬ EvX x lv1 b) := Lib.hid (fun b hb hx => by
      have h1 := HNB.out b hb
      have h2 : b < wb.heap.size := by
        rcases hb with rfl | rfl | rfl | rfl | rfl
        · exact HFM.out.q2.lt
        · exact HFM.out.q3.lt
        · exact HFM.out.q5.lt
        · exact HFM.out.q6.lt
        · exact HFM.out.q7.lt
      rcases hx with hx | hx | hx
      · exact evX_not ok HA0.out h1 (.inl hx)
      · exact evX_not ok HA0.out h1 (.inr (.inl hx))
      · rcases ho1 b hx with h3 | h3
        · exact evX_not ok HA0.out h1 (.inr (.inr h3))
        · omega)
    clear hE1 hF1 ho1 p2 p2l p70 p71 p7l
    generalize hb1 : (evR x.v f r (a + 1) st).1 = v1 at *
    go_wp2_with fail
    refine (second_any x ok f IH.out r a m e (evR x.v f r (a + 1) st).2 lv1 w1 HE1.out b2 b3 b5 b6 b7 z' y HFM1.out HS1.out HS2.out (by omega) (by have := HL1.out; omega) HRD.out hz64).mono ?_
    rintro e' w2 ⟨lv2, rfl, hE2, hF2, ho2⟩
    have HR : Hid (EvP x (f + 1) r a st lv w (.returned (.bool (v1 && (evR x.v f r m (evR x.v f r (a + 1) st).2).1))) w2) := Lib.hid (evP_up HV.out hE2 (HF1.out.trans hF2 (evX_sub HO1.out)) (fun k hk => (ho2 k hk).elim (fun h => HO1.out k h) fun h => .inr (Nat.le_trans HF1.out.size h)))
    clear hE2 hF2 ho2 hb1
    generalize (evR x.v f r m (evR x.v f r (a + 1) st).2).1 = v2 at *
    cases v1 <;> cases v2
    all_goals
      go_wp2_with fail
      go_ret
      exact HR.out
  by_cases h5 : y.op = 5
  · skip
    rw [h5] at y0
    have p2 := HFM.out.q2.cell 0
    have p2l := HFM.out.q2.lt
    have p70 := HFM.out.q7.cell 0
    have p71 := HFM.out.q7.cell 1
    have p7l := HFM.out.q7.lt
    obtain ⟨m, hs1, hs2⟩ := hs.two HY.out (by rw [h5]; rfl)
    have HV := Lib.hid (ev_5 (v := x.v) (f := f) (s := st) HY.out h5 hs1)
    have HS1 := Lib.hid hs1
    have HS2 := Lib.hid hs2
    have ham := hs1.2.1
    have hme := hs2.2.1
    have HL1 := Lib.hid (ev_len ok (s := st) hs1 (f := f) (by omega) HEW.out.ko)
    clear h5 hs1 hs2
    go_wp2_with fail
    refine (IH.out r (a + 1) m st lv wb HEW.out HS1.out (by omega) (by omega)).mono ?_
    rintro e' w1 ⟨lv1, rfl, hE1, hF1, ho1⟩
    have HE1 := Lib.hid hE1
    have HF1 := Lib.hid ((Fr.of HBB.out).trans hF1 (fun i hi => .inl hi))
    have HO1 : Hid (∀ k, lv1.ownBlock = some k → lv.ownBlock = some k ∨ w.heap.size ≤ k) := Lib.hid (fun k hk => (ho1 k hk).imp id fun h => Nat.le_trans HBB.out.size h)
    have HFM1 := Lib.hid (HFM.out.fr hF1 (fun b hb => evX_not ok HA0.out (HNB.out b hb)))
    have HRD : Hid (RdNd w1 w1.heap.size z'.A z'.n (expr x.v r)) := Lib.hid (by
      obtain ⟨z2, hz2, _, _, _, _, hrd⟩ := HE1.out.expr ok hs
      obtain rfl : z2 = z' := by have := hz2.symm.trans HZ.out; injection this
      exact hrd.more (Nat.le_of_lt HE1.out.bS.lt))
    have HN1 : Hid (∀ b, b = b2 ∨ b = b3 ∨ b = b5 ∨ b = b6 ∨ b = b7 → ¬ EvX x lv1 b) := Lib.hid (fun b hb hx => by
      have h1 := HNB.out b hb
      have h2 : b < wb.heap.size := by
        rcases hb with rfl | rfl | rfl | rfl | rfl
        · exact HFM.out.q2.lt
        · exact HFM.out.q3.lt
        · exact HFM.out.q5.lt
        · exact HFM.out.q6.lt
        · exact HFM.out.q7.lt
      rcases hx with hx | hx | hx
      · exact evX_not ok HA0.out h1 (.inl hx)
      · exact evX_not ok HA0.out h1 (.inr (.inl hx))
      · rcases ho1 b hx with h3 | h3
        · exact evX_not ok HA0.out h1 (.inr (.inr h3))
        · omega)
    clear hE1 hF1 ho1 p2 p2l p70 p71 p7l
    generalize hb1 : (evR x.v f r (a + 1) st).1 = v1 at *
    go_wp2_with fail
    refine (second_any x ok f IH.out r a m e (evR x.v f r (a + 1) st).2 lv1 w1 HE1.out b2 b3 b5 b6 b7 z' y HFM1.out HS1.out HS2.out (by omega) (by have := HL1.out; omega) HRD.out hz64).mono ?_
    rintro e' w2 ⟨lv2, rfl, hE2, hF2, ho2⟩
    have HR : Hid (EvP x (f + 1) r a st lv w (.returned (.bool (v1 || (evR x.v f r m (evR x.v f r (a + 1) st).2).1))) w2) := Lib.hid (evP_up HV.out hE2 (HF1.out.trans hF2 (evX_sub HO1.out)) (fun k hk => (ho2 k hk).elim (fun h => HO1.out k h) fun h => .inr (Nat.le_trans HF1.out.size h)))
    clear hE2 hF2 ho2 hb1
    generalize (evR x.v f r m (evR x.v f r (a + 1) st).2).1 = v2 at *
    cases v1 <;> cases v2
    all_goals
      go_wp2_with fail
      go_ret
      exact HR.out
  by_cases h7 : y.op = 7
  · skip
    rw [h7] at y0
    have p2 := HFM.out.q2.cell 0
    have p2l := HFM.out.q2.lt
    have p70 := HFM.out.q7.cell 0
    have p71 := HFM.out.q7.cell 1
    have p7l := HFM.out.q7.lt
    obtain ⟨m, hs1, hs2⟩ := hs.two HY.out (by rw [h7]; rfl)
    have HV := Lib.hid (ev_7 (v := x.v) (f := f) (s := st) HY.out h7 hs1)
    have HS1 := Lib.hid hs1
    have HS2 := Lib.hid hs2
    have ham := hs1.2.1
    have hme := hs2.2.1
    have HL1 := Lib.hid (ev_len ok (s := st) hs1 (f := f) (by omega) HEW.out.ko)
    clear h7 hs1 hs2
    go_wp2_with fail
    refine (IH.out r (a + 1) m st lv wb HEW.out HS1.out (by omega) (by omega)).mono ?_
    rintro e' w1 ⟨lv1, rfl, hE1, hF1, ho1⟩
    have HE1 := Lib.hid hE1
    have HF1 := Lib.hid ((Fr.of HBB.out).trans hF1 (fun i hi => .inl hi))
    have HO1 : Hid (∀ k, lv1.ownBlock = some k → lv.ownBlock = some k ∨ w.heap.size ≤ k) := Lib.hid (fun k hk => (ho1 k hk).imp id fun h => Nat.le_trans HBB.out.size h)
    have HFM1 := Lib.hid (HFM.out.fr hF1 (fun b hb => evX_not ok HA0.out (HNB.out b hb)))
    have HRD : Hid (RdNd w1 w1.heap.size z'.A z'.n (expr x.v r)) := Lib.hid (by
      obtain ⟨z2, hz2, _, _, _, _, hrd⟩ := HE1.out.expr ok hs
      obtain rfl : z2 = z' := by have := hz2.symm.trans HZ.out; injection this
      exact hrd.more (Nat.le_of_lt HE1.out.bS.lt))
    have HN1 : Hid (∀ b, b = b2 ∨ b = b3 ∨ b = b5 ∨ b = b6 ∨ b = b7 → ¬ EvX x lv1 b) := Lib.hid (fun b hb hx => by
      have h1 := HNB.out b hb
      have h2 : b < wb.heap.size := by
        rcases hb with rfl | rfl | rfl | rfl | rfl
        · exact HFM.out.q2.lt
        · exact HFM.out.q3.lt
        · exact HFM.out.q5.lt
        · exact HFM.out.q6.lt
        · exact HFM.out.q7.lt
      rcases hx with hx | hx | hx
      · exact evX_not ok HA0.out h1 (.inl hx)
      · exact evX_not ok HA0.out h1 (.inr (.inl hx))
      · rcases ho1 b hx with h3 | h3
        · exact evX_not ok HA0.out h1 (.inr (.inr h3))
        · omega)
    clear hE1 hF1 ho1 p2 p2l p70 p71 p7l
    generalize hb1 : (evR x.v f r (a + 1) st).1 = v1 at *
    go_wp2_with fail
    refine (second_any x ok f IH.out r a m e (evR x.v f r (a + 1) st).2 lv1 w1 HE1.out b2 b3 b5 b6 b7 z' y HFM1.out HS1.out HS2.out (by omega) (by have := HL1.out; omega) HRD.out hz64).mono ?_
    rintro e' w2 ⟨lv2, rfl, hE2, hF2, ho2⟩
    have HE2 := Lib.hid hE2
    have HF2 := Lib.hid (HF1.out.trans hF2 (evX_sub HO1.out))
    have HO2 : Hid (∀ k, lv2.ownBlock = some k → lv.ownBlock = some k ∨ w.heap.size ≤ k) := Lib.hid (fun k hk => (ho2 k hk).elim (fun h => HO1.out k h) fun h => .inr (Nat.le_trans HF1.out.size h))
    have HFM2 := Lib.hid (HFM1.out.fr hF2 HN1.out)
    have HB1V := Lib.hid hb1
    clear hE2 hF2 ho2 hb1
    generalize hb2 : (evR x.v f r m (evR x.v f r (a + 1) st).2).1 = v2 at *
    have HB2V := Lib.hid hb2
    clear hb2
    generalize hs22 : (evR x.v f r m (evR x.v f r (a + 1) st).2).2 = st2 at *
    have HS22 := Lib.hid hs22
    have hn16 := ok.hn
    clear hs22
    obtain ⟨mb, mt, hmm⟩ : ∃ mb mt, st2.kept r a = (mb, mt) := ⟨_, _, rfl⟩
    have HMM := Lib.hid hmm
    have HLK : Hid (∀ w', Below w2.heap.size w2 w' → (Instr.lookup 55 (.map (some x.m)) (.agg #[.int .i64 (r : Int), .int .i64 (a : Int)]) false).run Try.prog w' = .ok (.agg #[.bool mb, .int .i64 mt]) w') := Lib.hid (fun w' hb => by
      have := (HE2.out.kept.at_ (hb.block _ HE2.out.kept.lt)).look (r := r) (a := a) (by omega) (by omega)
      rw [hmm] at this
      exact this)
    have hfld : ∀ (w : World) (b : Bool) (t : Int), (Instr.field 68 (.agg #[.bool b, .int .i64 t]) 0).run Try.prog w = .ok (.bool b) w := fun w b t => by kernel_rfl
    have p2 := HFM2.out.q2.cell 0
    have p3 := HFM2.out.q3.cell 0
    have p31 := HFM2.out.q3.cell 1
    have s0 := HE2.out.bS.cell 0
    have r3 := HE2.out.bR.cell 3
    have p2l := HFM2.out.q2.lt
    have p3l := HFM2.out.q3.lt
    have sl := HE2.out.bS.lt
    have rl := HE2.out.bR.lt
    clear hmm HL1 HRD HN1
    go_upto_region 22 with fail
    cases mb with
    | true =>
      refine wp_region_last (S := fun w' => Below w2.heap.size w2 w') 17 _ (by kernel_rfl) (by kernel_rfl) rfl (below_drew (Below.refl _ _)) (fun hHeld => ?_)
      simp only [List.take_succ_cons, List.take_zero]
      refine takeH 0 (v := ?_) rfl (by kernel_rfl) (fun _ _ _ h => h) (by rfl) ?_ hHeld ?_
      rotate_left 1
      · intro w' hSw; obtain ⟨hcc, -⟩ := bcellW hSw; have hlk := HLK.out w' hSw; go_simp <;> with_reducible rfl
      try simp only [Act.put, List.setIfInBounds_toArray, List.set_cons_zero, List.set_cons_succ]
      refine takeH 1 (v := ?_) rfl (by kernel_rfl) (fun _ _ _ h => h) (by rfl) ?_ hHeld ?_
      rotate_left 1
      · intro w' hSw; obtain ⟨hcc, -⟩ := bcellW hSw; have hlk := HLK.out w' hSw; go_simp <;> with_reducible rfl
      try simp only [Act.put, List.setIfInBounds_toArray, List.set_cons_zero, List.set_cons_succ]
      refine takeH 2 (v := ?_) rfl (by kernel_rfl) (fun _ _ _ h => h) (by rfl) ?_ hHeld ?_
      rotate_left 1
      · intro w' hSw; obtain ⟨hcc, -⟩ := bcellW hSw; have hlk := HLK.out w' hSw; go_simp <;> with_reducible rfl
      try simp only [Act.put, List.setIfInBounds_toArray, List.set_cons_zero, List.set_cons_succ]
      refine takeH 3 (v := ?_) rfl (by kernel_rfl) (fun _ _ _ h => h) (by rfl) ?_ hHeld ?_
      rotate_left 1
      · intro w' hSw; obtain ⟨hcc, -⟩ := bcellW hSw; have hlk := HLK.out w' hSw; go_simp <;> with_reducible rfl
      try simp only [Act.put, List.setIfInBounds_toArray, List.set_cons_zero, List.set_cons_succ]
      refine takeH 4 (v := ?_) rfl (by kernel_rfl) (fun _ _ _ h => h) (by rfl) ?_ hHeld ?_
      rotate_left 1
      · intro w' hSw; obtain ⟨hcc, -⟩ := bcellW hSw; have hlk := HLK.out w' hSw; go_simp <;> with_reducible rfl
      try simp only [Act.put, List.setIfInBounds_toArray, List.set_cons_zero, List.set_cons_succ]
      refine takeH 5 (v := ?_) rfl (by kernel_rfl) (fun _ _ _ h => h) (by rfl) ?_ hHeld ?_
      rotate_left 1
      · intro w' hSw; obtain ⟨hcc, -⟩ := bcellW hSw; have hlk := HLK.out w' hSw; go_simp <;> with_reducible rfl
      try simp only [Act.put, List.setIfInBounds_toArray, List.set_cons_zero, List.set_cons_succ]
      refine takeH 6 (v := ?_) rfl (by kernel_rfl) (fun _ _ _ h => h) (by rfl) ?_ hHeld ?_
      rotate_left 1
      · intro w' hSw; obtain ⟨hcc, -⟩ := bcellW hSw; have hlk := HLK.out w' hSw; go_simp <;> with_reducible rfl
      try simp only [Act.put, List.setIfInBounds_toArray, List.set_cons_zero, List.set_cons_succ]
      refine takeH 7 (v := ?_) rfl (by kernel_rfl) (fun _ _ _ h => h) (by rfl) ?_ hHeld ?_
      rotate_left 1
      · intro w' hSw; obtain ⟨hcc, -⟩ := bcellW hSw; have hlk := HLK.out w' hSw; go_simp <;> with_reducible rfl
      try simp only [Act.put, List.setIfInBounds_toArray, List.set_cons_zero, List.set_cons_succ]
      refine takeH 8 (v := ?_) rfl (by kernel_rfl) (fun _ _ _ h => h) (by rfl) ?_ hHeld ?_
      rotate_left 1
      · intro w' hSw; obtain ⟨hcc, -⟩ := bcellW hSw; have hlk := HLK.out w' hSw; go_simp <;> with_reducible rfl
      try simp only [Act.put, List.setIfInBounds_toArray, List.set_cons_zero, List.set_cons_succ]
      refine takeH 9 (v := ?_) rfl (by kernel_rfl) (fun _ _ _ h => h) (by rfl) ?_ hHeld ?_
      rotate_left 1
      · intro w' hSw; obtain ⟨hcc, -⟩ := bcellW hSw; have hlk := HLK.out w' hSw; go_simp <;> with_reducible rfl
      try simp only [Act.put, List.setIfInBounds_toArray, List.set_cons_zero, List.set_cons_succ]
      refine takeH 10 (v := ?_) rfl (by kernel_rfl) (fun _ _ _ h => h) (by rfl) ?_ hHeld ?_
      rotate_left 1
      · intro w' hSw; obtain ⟨hcc, -⟩ := bcellW hSw; have hlk := HLK.out w' hSw; go_simp <;> with_reducible rfl
      try simp only [Act.put, List.setIfInBounds_toArray, List.set_cons_zero, List.set_cons_succ]
      refine skipH 11 rfl (by kernel_rfl) (fun _ _ _ h => h) (by rfl) hHeld ?_
      try simp only [Act.put, List.setIfInBounds_toArray, List.set_cons_zero, List.set_cons_succ]
      refine takeH 12 (v := ?_) rfl (by kernel_rfl) (fun _ _ _ h => h) (by rfl) ?_ hHeld ?_
      rotate_left 1
      · intro w' hSw; obtain ⟨hcc, -⟩ := bcellW hSw; have hlk := HLK.out w' hSw; go_simp <;> with_reducible rfl
      try simp only [Act.put, List.setIfInBounds_toArray, List.set_cons_zero, List.set_cons_succ]
      refine takeH 13 (v := ?_) rfl (by kernel_rfl) (fun _ _ _ h => h) (by rfl) ?_ hHeld ?_
      rotate_left 1
      · intro w' hSw; obtain ⟨hcc, -⟩ := bcellW hSw; have hlk := HLK.out w' hSw; go_simp <;> with_reducible rfl
      try simp only [Act.put, List.setIfInBounds_toArray, List.set_cons_zero, List.set_cons_succ]
      refine takeH 14 (v := ?_) rfl (by kernel_rfl) (fun _ _ _ h => h) (by rfl) ?_ hHeld ?_
      rotate_left 1
      · intro w' hSw; obtain ⟨hcc, -⟩ := bcellW hSw; have hlk := HLK.out w' hSw; go_simp <;> with_reducible rfl
      try simp only [Act.put, List.setIfInBounds_toArray, List.set_cons_zero, List.set_cons_succ]
      refine takeH 15 (v := ?_) rfl (by kernel_rfl) (fun _ _ _ h => h) (by rfl) ?_ hHeld ?_
      rotate_left 1
      · intro w' hSw; obtain ⟨hcc, -⟩ := bcellW hSw; have hlk := HLK.out w' hSw; go_simp <;> with_reducible rfl
      try simp only [Act.put, List.setIfInBounds_toArray, List.set_cons_zero, List.set_cons_succ]
      refine takeH 16 (v := ?_) rfl (by kernel_rfl) (fun _ _ _ h => h) (by rfl) ?_ hHeld ?_
      rotate_left 1
      · intro w' hSw; obtain ⟨hcc, -⟩ := bcellW hSw; have hlk := HLK.out w' hSw; go_simp <;> with_reducible rfl
      try simp only [Act.put, List.setIfInBounds_toArray, List.set_cons_zero, List.set_cons_succ]
      refine wpAnyH_done (by kernel_rfl) ?_ _
      refine lastQ_go (by rfl) ?_
      clear hHeld
      go_upto_region 23 with fail
      have HON : Hid (latB x.v f r a m st = (!v2)) := Lib.hid (by unfold latB; rw [HB1V.out, HB2V.out, HS22.out, HMM.out]; cases v2 <;> rfl)
      have hb3 : Below w2.heap.size w2 w2.drew := below_drew (Below.refl _ _)
      replace HE2 := Lib.hid (HE2.out.up hb3)
      replace HFM2 := Lib.hid (HFM2.out.up hb3)
      replace HF2 := Lib.hid (HF2.out.trans_below hb3)
      clear p2 p3 p31 s0 r3 p2l p3l sl rl HLK hfld hb3
      generalize w2.drew = w3 at *
      have p2 := HFM2.out.q2.cell 0
      have p3 := HFM2.out.q3.cell 0
      have p31 := HFM2.out.q3.cell 1
      have s0 := HE2.out.bS.cell 0
      have r3 := HE2.out.bR.cell 3
      have p2l := HFM2.out.q2.lt
      have p3l := HFM2.out.q3.lt
      have sl := HE2.out.bS.lt
      have rl := HE2.out.bR.lt
      refine wp_region_last (S := fun w' => Below w3.heap.size w3 w') 10 _ (by kernel_rfl) (by kernel_rfl) rfl (below_drew (Below.refl _ _)) (fun hHeld => ?_)
      simp only [List.take_succ_cons, List.take_zero]
      refine takeH 0 (v := ?_) rfl (by kernel_rfl) (fun _ _ _ h => h) (by rfl) ?_ hHeld ?_
      rotate_left 1
      · intro w' hSw; obtain ⟨hcc, -⟩ := bcellW hSw; go_simp <;> with_reducible rfl
      try simp only [Act.put, List.setIfInBounds_toArray, List.set_cons_zero, List.set_cons_succ]
      refine takeH 1 (v := ?_) rfl (by kernel_rfl) (fun _ _ _ h => h) (by rfl) ?_ hHeld ?_
      rotate_left 1
      · intro w' hSw; obtain ⟨hcc, -⟩ := bcellW hSw; go_simp <;> with_reducible rfl
      try simp only [Act.put, List.setIfInBounds_toArray, List.set_cons_zero, List.set_cons_succ]
      refine takeH 2 (v := ?_) rfl (by kernel_rfl) (fun _ _ _ h => h) (by rfl) ?_ hHeld ?_
      rotate_left 1
      · intro w' hSw; obtain ⟨hcc, -⟩ := bcellW hSw; go_simp <;> with_reducible rfl
      try simp only [Act.put, List.setIfInBounds_toArray, List.set_cons_zero, List.set_cons_succ]
      refine takeH 3 (v := ?_) rfl (by kernel_rfl) (fun _ _ _ h => h) (by rfl) ?_ hHeld ?_
      rotate_left 1
      · intro w' hSw; obtain ⟨hcc, -⟩ := bcellW hSw; go_simp <;> with_reducible rfl
      try simp only [Act.put, List.setIfInBounds_toArray, List.set_cons_zero, List.set_cons_succ]
      refine takeH 4 (v := ?_) rfl (by kernel_rfl) (fun _ _ _ h => h) (by rfl) ?_ hHeld ?_
      rotate_left 1
      · intro w' hSw; obtain ⟨hcc, -⟩ := bcellW hSw; go_simp <;> with_reducible rfl
      try simp only [Act.put, List.setIfInBounds_toArray, List.set_cons_zero, List.set_cons_succ]
      refine takeH 5 (v := ?_) rfl (by kernel_rfl) (fun _ _ _ h => h) (by rfl) ?_ hHeld ?_
      rotate_left 1
      · intro w' hSw; obtain ⟨hcc, -⟩ := bcellW hSw; go_simp <;> with_reducible rfl
      try simp only [Act.put, List.setIfInBounds_toArray, List.set_cons_zero, List.set_cons_succ]
      refine takeH 6 (v := ?_) rfl (by kernel_rfl) (fun _ _ _ h => h) (by rfl) ?_ hHeld ?_
      rotate_left 1
      · intro w' hSw; obtain ⟨hcc, -⟩ := bcellW hSw; go_simp <;> with_reducible rfl
      try simp only [Act.put, List.setIfInBounds_toArray, List.set_cons_zero, List.set_cons_succ]
      refine takeH 7 (v := ?_) rfl (by kernel_rfl) (fun _ _ _ h => h) (by rfl) ?_ hHeld ?_
      rotate_left 1
      · intro w' hSw; obtain ⟨hcc, -⟩ := bcellW hSw; go_simp <;> with_reducible rfl
      try simp only [Act.put, List.setIfInBounds_toArray, List.set_cons_zero, List.set_cons_succ]
      refine takeH 8 (v := ?_) rfl (by kernel_rfl) (fun _ _ _ h => h) (by rfl) ?_ hHeld ?_
      rotate_left 1
      · intro w' hSw; obtain ⟨hcc, -⟩ := bcellW hSw; go_simp <;> with_reducible rfl
      try simp only [Act.put, List.setIfInBounds_toArray, List.set_cons_zero, List.set_cons_succ]
      refine takeH 9 (v := ?_) rfl (by kernel_rfl) (fun _ _ _ h => h) (by rfl) ?_ hHeld ?_
      rotate_left 1
      · intro w' hSw; obtain ⟨hcc, -⟩ := bcellW hSw; go_simp <;> with_reducible rfl
      try simp only [Act.put, List.setIfInBounds_toArray, List.set_cons_zero, List.set_cons_succ]
      refine wpAnyH_done (by kernel_rfl) ?_ _
      refine lastQ_go (by rfl) ?_
      obtain ⟨w4, hrun, hk4, hg4⟩ := (HE2.out.up (below_drew (Below.refl _ _))).kept.put (r := r) (a := a) (by omega) (by omega) (!v2, 0)
      have hb4 : Below w3.heap.size w3 w3.drew := below_drew (Below.refl _ _)
      refine wp_mapput (.tmp 125) (.tmp 126) (.tmp 128) 55 rfl (.map (some x.m)) (plK r a) (memV (!v2, 0)) (by rfl) (by rfl) (by rfl) hrun ?_
      have HR : Hid (EvP x (f + 1) r a st lv w (.returned (.bool (!v2))) w4) := Lib.hid (by
        have hv := HV.out
        rw [HON.out] at hv
        exact evP_up hv ((HE2.out.up hb4).mapped ok hk4 ((HE2.out.ko).upd r a (by simp)) hg4) ((HF2.out.trans_below hb4).trans (Fr.grownB (X := fun i => i = x.m) hg4 rfl) (fun i hi => .inl (.inl hi))) HO2.out)
      clear hrun hk4 hg4 hb4 hHeld
      go_wp2_with fail
      go_ret
      exact HR.out
    | false =>
      cases v1 with
      | true =>
        refine wp_region_last (S := fun w' => Below w2.heap.size w2 w') 17 _ (by kernel_rfl) (by kernel_rfl) rfl (below_drew (Below.refl _ _)) (fun hHeld => ?_)
        simp only [List.take_succ_cons, List.take_zero]
        refine takeH 0 (v := ?_) rfl (by kernel_rfl) (fun _ _ _ h => h) (by rfl) ?_ hHeld ?_
        rotate_left 1
        · intro w' hSw; obtain ⟨hcc, -⟩ := bcellW hSw; have hlk := HLK.out w' hSw; go_simp <;> with_reducible rfl
        try simp only [Act.put, List.setIfInBounds_toArray, List.set_cons_zero, List.set_cons_succ]
        refine takeH 1 (v := ?_) rfl (by kernel_rfl) (fun _ _ _ h => h) (by rfl) ?_ hHeld ?_
        rotate_left 1
        · intro w' hSw; obtain ⟨hcc, -⟩ := bcellW hSw; have hlk := HLK.out w' hSw; go_simp <;> with_reducible rfl
        try simp only [Act.put, List.setIfInBounds_toArray, List.set_cons_zero, List.set_cons_succ]
        refine takeH 2 (v := ?_) rfl (by kernel_rfl) (fun _ _ _ h => h) (by rfl) ?_ hHeld ?_
        rotate_left 1
        · intro w' hSw; obtain ⟨hcc, -⟩ := bcellW hSw; have hlk := HLK.out w' hSw; go_simp <;> with_reducible rfl
        try simp only [Act.put, List.setIfInBounds_toArray, List.set_cons_zero, List.set_cons_succ]
        refine takeH 3 (v := ?_) rfl (by kernel_rfl) (fun _ _ _ h => h) (by rfl) ?_ hHeld ?_
        rotate_left 1
        · intro w' hSw; obtain ⟨hcc, -⟩ := bcellW hSw; have hlk := HLK.out w' hSw; go_simp <;> with_reducible rfl
        try simp only [Act.put, List.setIfInBounds_toArray, List.set_cons_zero, List.set_cons_succ]
        refine takeH 4 (v := ?_) rfl (by kernel_rfl) (fun _ _ _ h => h) (by rfl) ?_ hHeld ?_
        rotate_left 1
        · intro w' hSw; obtain ⟨hcc, -⟩ := bcellW hSw; have hlk := HLK.out w' hSw; go_simp <;> with_reducible rfl
        try simp only [Act.put, List.setIfInBounds_toArray, List.set_cons_zero, List.set_cons_succ]
        refine takeH 5 (v := ?_) rfl (by kernel_rfl) (fun _ _ _ h => h) (by rfl) ?_ hHeld ?_
        rotate_left 1
        · intro w' hSw; obtain ⟨hcc, -⟩ := bcellW hSw; have hlk := HLK.out w' hSw; go_simp <;> with_reducible rfl
        try simp only [Act.put, List.setIfInBounds_toArray, List.set_cons_zero, List.set_cons_succ]
        refine takeH 6 (v := ?_) rfl (by kernel_rfl) (fun _ _ _ h => h) (by rfl) ?_ hHeld ?_
        rotate_left 1
        · intro w' hSw; obtain ⟨hcc, -⟩ := bcellW hSw; have hlk := HLK.out w' hSw; go_simp <;> with_reducible rfl
        try simp only [Act.put, List.setIfInBounds_toArray, List.set_cons_zero, List.set_cons_succ]
        refine takeH 7 (v := ?_) rfl (by kernel_rfl) (fun _ _ _ h => h) (by rfl) ?_ hHeld ?_
        rotate_left 1
        · intro w' hSw; obtain ⟨hcc, -⟩ := bcellW hSw; have hlk := HLK.out w' hSw; go_simp <;> with_reducible rfl
        try simp only [Act.put, List.setIfInBounds_toArray, List.set_cons_zero, List.set_cons_succ]
        refine takeH 8 (v := ?_) rfl (by kernel_rfl) (fun _ _ _ h => h) (by rfl) ?_ hHeld ?_
        rotate_left 1
        · intro w' hSw; obtain ⟨hcc, -⟩ := bcellW hSw; have hlk := HLK.out w' hSw; go_simp <;> with_reducible rfl
        try simp only [Act.put, List.setIfInBounds_toArray, List.set_cons_zero, List.set_cons_succ]
        refine takeH 9 (v := ?_) rfl (by kernel_rfl) (fun _ _ _ h => h) (by rfl) ?_ hHeld ?_
        rotate_left 1
        · intro w' hSw; obtain ⟨hcc, -⟩ := bcellW hSw; have hlk := HLK.out w' hSw; go_simp <;> with_reducible rfl
        try simp only [Act.put, List.setIfInBounds_toArray, List.set_cons_zero, List.set_cons_succ]
        refine takeH 10 (v := ?_) rfl (by kernel_rfl) (fun _ _ _ h => h) (by rfl) ?_ hHeld ?_
        rotate_left 1
        · intro w' hSw; obtain ⟨hcc, -⟩ := bcellW hSw; have hlk := HLK.out w' hSw; go_simp <;> with_reducible rfl
        try simp only [Act.put, List.setIfInBounds_toArray, List.set_cons_zero, List.set_cons_succ]
        refine takeH 11 (v := ?_) rfl (by kernel_rfl) (fun _ _ _ h => h) (by rfl) ?_ hHeld ?_
        rotate_left 1
        · intro w' hSw; obtain ⟨hcc, -⟩ := bcellW hSw; have hlk := HLK.out w' hSw; go_simp <;> with_reducible rfl
        try simp only [Act.put, List.setIfInBounds_toArray, List.set_cons_zero, List.set_cons_succ]
        refine takeH 12 (v := ?_) rfl (by kernel_rfl) (fun _ _ _ h => h) (by rfl) ?_ hHeld ?_
        rotate_left 1
        · intro w' hSw; obtain ⟨hcc, -⟩ := bcellW hSw; have hlk := HLK.out w' hSw; go_simp <;> with_reducible rfl
        try simp only [Act.put, List.setIfInBounds_toArray, List.set_cons_zero, List.set_cons_succ]
        refine takeH 13 (v := ?_) rfl (by kernel_rfl) (fun _ _ _ h => h) (by rfl) ?_ hHeld ?_
        rotate_left 1
        · intro w' hSw; obtain ⟨hcc, -⟩ := bcellW hSw; have hlk := HLK.out w' hSw; go_simp <;> with_reducible rfl
        try simp only [Act.put, List.setIfInBounds_toArray, List.set_cons_zero, List.set_cons_succ]
        refine takeH 14 (v := ?_) rfl (by kernel_rfl) (fun _ _ _ h => h) (by rfl) ?_ hHeld ?_
        rotate_left 1
        · intro w' hSw; obtain ⟨hcc, -⟩ := bcellW hSw; have hlk := HLK.out w' hSw; go_simp <;> with_reducible rfl
        try simp only [Act.put, List.setIfInBounds_toArray, List.set_cons_zero, List.set_cons_succ]
        refine takeH 15 (v := ?_) rfl (by kernel_rfl) (fun _ _ _ h => h) (by rfl) ?_ hHeld ?_
        rotate_left 1
        · intro w' hSw; obtain ⟨hcc, -⟩ := bcellW hSw; have hlk := HLK.out w' hSw; go_simp <;> with_reducible rfl
        try simp only [Act.put, List.setIfInBounds_toArray, List.set_cons_zero, List.set_cons_succ]
        refine takeH 16 (v := ?_) rfl (by kernel_rfl) (fun _ _ _ h => h) (by rfl) ?_ hHeld ?_
        rotate_left 1
        · intro w' hSw; obtain ⟨hcc, -⟩ := bcellW hSw; have hlk := HLK.out w' hSw; go_simp <;> with_reducible rfl
        try simp only [Act.put, List.setIfInBounds_toArray, List.set_cons_zero, List.set_cons_succ]
        refine wpAnyH_done (by kernel_rfl) ?_ _
        refine lastQ_go (by rfl) ?_
        clear hHeld
        go_upto_region 23 with fail
        have HON : Hid (latB x.v f r a m st = (!v2)) := Lib.hid (by unfold latB; rw [HB1V.out, HB2V.out, HS22.out, HMM.out]; cases v2 <;> rfl)
        have hb3 : Below w2.heap.size w2 w2.drew := below_drew (Below.refl _ _)
        replace HE2 := Lib.hid (HE2.out.up hb3)
        replace HFM2 := Lib.hid (HFM2.out.up hb3)
        replace HF2 := Lib.hid (HF2.out.trans_below hb3)
        clear p2 p3 p31 s0 r3 p2l p3l sl rl HLK hfld hb3
        generalize w2.drew = w3 at *
        have p2 := HFM2.out.q2.cell 0
        have p3 := HFM2.out.q3.cell 0
        have p31 := HFM2.out.q3.cell 1
        have s0 := HE2.out.bS.cell 0
        have r3 := HE2.out.bR.cell 3
        have p2l := HFM2.out.q2.lt
        have p3l := HFM2.out.q3.lt
        have sl := HE2.out.bS.lt
        have rl := HE2.out.bR.lt
        refine wp_region_last (S := fun w' => Below w3.heap.size w3 w') 10 _ (by kernel_rfl) (by kernel_rfl) rfl (below_drew (Below.refl _ _)) (fun hHeld => ?_)
        simp only [List.take_succ_cons, List.take_zero]
        refine takeH 0 (v := ?_) rfl (by kernel_rfl) (fun _ _ _ h => h) (by rfl) ?_ hHeld ?_
        rotate_left 1
        · intro w' hSw; obtain ⟨hcc, -⟩ := bcellW hSw; go_simp <;> with_reducible rfl
        try simp only [Act.put, List.setIfInBounds_toArray, List.set_cons_zero, List.set_cons_succ]
        refine takeH 1 (v := ?_) rfl (by kernel_rfl) (fun _ _ _ h => h) (by rfl) ?_ hHeld ?_
        rotate_left 1
        · intro w' hSw; obtain ⟨hcc, -⟩ := bcellW hSw; go_simp <;> with_reducible rfl
        try simp only [Act.put, List.setIfInBounds_toArray, List.set_cons_zero, List.set_cons_succ]
        refine takeH 2 (v := ?_) rfl (by kernel_rfl) (fun _ _ _ h => h) (by rfl) ?_ hHeld ?_
        rotate_left 1
        · intro w' hSw; obtain ⟨hcc, -⟩ := bcellW hSw; go_simp <;> with_reducible rfl
        try simp only [Act.put, List.setIfInBounds_toArray, List.set_cons_zero, List.set_cons_succ]
        refine takeH 3 (v := ?_) rfl (by kernel_rfl) (fun _ _ _ h => h) (by rfl) ?_ hHeld ?_
        rotate_left 1
        · intro w' hSw; obtain ⟨hcc, -⟩ := bcellW hSw; go_simp <;> with_reducible rfl
        try simp only [Act.put, List.setIfInBounds_toArray, List.set_cons_zero, List.set_cons_succ]
        refine takeH 4 (v := ?_) rfl (by kernel_rfl) (fun _ _ _ h => h) (by rfl) ?_ hHeld ?_
        rotate_left 1
        · intro w' hSw; obtain ⟨hcc, -⟩ := bcellW hSw; go_simp <;> with_reducible rfl
        try simp only [Act.put, List.setIfInBounds_toArray, List.set_cons_zero, List.set_cons_succ]
        refine takeH 5 (v := ?_) rfl (by kernel_rfl) (fun _ _ _ h => h) (by rfl) ?_ hHeld ?_
        rotate_left 1
        · intro w' hSw; obtain ⟨hcc, -⟩ := bcellW hSw; go_simp <;> with_reducible rfl
        try simp only [Act.put, List.setIfInBounds_toArray, List.set_cons_zero, List.set_cons_succ]
        refine takeH 6 (v := ?_) rfl (by kernel_rfl) (fun _ _ _ h => h) (by rfl) ?_ hHeld ?_
        rotate_left 1
        · intro w' hSw; obtain ⟨hcc, -⟩ := bcellW hSw; go_simp <;> with_reducible rfl
        try simp only [Act.put, List.setIfInBounds_toArray, List.set_cons_zero, List.set_cons_succ]
        refine takeH 7 (v := ?_) rfl (by kernel_rfl) (fun _ _ _ h => h) (by rfl) ?_ hHeld ?_
        rotate_left 1
        · intro w' hSw; obtain ⟨hcc, -⟩ := bcellW hSw; go_simp <;> with_reducible rfl
        try simp only [Act.put, List.setIfInBounds_toArray, List.set_cons_zero, List.set_cons_succ]
        refine takeH 8 (v := ?_) rfl (by kernel_rfl) (fun _ _ _ h => h) (by rfl) ?_ hHeld ?_
        rotate_left 1
        · intro w' hSw; obtain ⟨hcc, -⟩ := bcellW hSw; go_simp <;> with_reducible rfl
        try simp only [Act.put, List.setIfInBounds_toArray, List.set_cons_zero, List.set_cons_succ]
        refine takeH 9 (v := ?_) rfl (by kernel_rfl) (fun _ _ _ h => h) (by rfl) ?_ hHeld ?_
        rotate_left 1
        · intro w' hSw; obtain ⟨hcc, -⟩ := bcellW hSw; go_simp <;> with_reducible rfl
        try simp only [Act.put, List.setIfInBounds_toArray, List.set_cons_zero, List.set_cons_succ]
        refine wpAnyH_done (by kernel_rfl) ?_ _
        refine lastQ_go (by rfl) ?_
        obtain ⟨w4, hrun, hk4, hg4⟩ := (HE2.out.up (below_drew (Below.refl _ _))).kept.put (r := r) (a := a) (by omega) (by omega) (!v2, 0)
        have hb4 : Below w3.heap.size w3 w3.drew := below_drew (Below.refl _ _)
        refine wp_mapput (.tmp 125) (.tmp 126) (.tmp 128) 55 rfl (.map (some x.m)) (plK r a) (memV (!v2, 0)) (by rfl) (by rfl) (by rfl) hrun ?_
        have HR : Hid (EvP x (f + 1) r a st lv w (.returned (.bool (!v2))) w4) := Lib.hid (by
          have hv := HV.out
          rw [HON.out] at hv
          exact evP_up hv ((HE2.out.up hb4).mapped ok hk4 ((HE2.out.ko).upd r a (by simp)) hg4) ((HF2.out.trans_below hb4).trans (Fr.grownB (X := fun i => i = x.m) hg4 rfl) (fun i hi => .inl (.inl hi))) HO2.out)
        clear hrun hk4 hg4 hb4 hHeld
        go_wp2_with fail
        go_ret
        exact HR.out
      | false =>
        refine wp_region_last (S := fun w' => Below w2.heap.size w2 w') 17 _ (by kernel_rfl) (by kernel_rfl) rfl (below_drew (Below.refl _ _)) (fun hHeld => ?_)
        simp only [List.take_succ_cons, List.take_zero]
        refine takeH 0 (v := ?_) rfl (by kernel_rfl) (fun _ _ _ h => h) (by rfl) ?_ hHeld ?_
        rotate_left 1
        · intro w' hSw; obtain ⟨hcc, -⟩ := bcellW hSw; have hlk := HLK.out w' hSw; go_simp <;> with_reducible rfl
        try simp only [Act.put, List.setIfInBounds_toArray, List.set_cons_zero, List.set_cons_succ]
        refine takeH 1 (v := ?_) rfl (by kernel_rfl) (fun _ _ _ h => h) (by rfl) ?_ hHeld ?_
        rotate_left 1
        · intro w' hSw; obtain ⟨hcc, -⟩ := bcellW hSw; have hlk := HLK.out w' hSw; go_simp <;> with_reducible rfl
        try simp only [Act.put, List.setIfInBounds_toArray, List.set_cons_zero, List.set_cons_succ]
        refine takeH 2 (v := ?_) rfl (by kernel_rfl) (fun _ _ _ h => h) (by rfl) ?_ hHeld ?_
        rotate_left 1
        · intro w' hSw; obtain ⟨hcc, -⟩ := bcellW hSw; have hlk := HLK.out w' hSw; go_simp <;> with_reducible rfl
        try simp only [Act.put, List.setIfInBounds_toArray, List.set_cons_zero, List.set_cons_succ]
        refine takeH 3 (v := ?_) rfl (by kernel_rfl) (fun _ _ _ h => h) (by rfl) ?_ hHeld ?_
        rotate_left 1
        · intro w' hSw; obtain ⟨hcc, -⟩ := bcellW hSw; have hlk := HLK.out w' hSw; go_simp <;> with_reducible rfl
        try simp only [Act.put, List.setIfInBounds_toArray, List.set_cons_zero, List.set_cons_succ]
        refine takeH 4 (v := ?_) rfl (by kernel_rfl) (fun _ _ _ h => h) (by rfl) ?_ hHeld ?_
        rotate_left 1
        · intro w' hSw; obtain ⟨hcc, -⟩ := bcellW hSw; have hlk := HLK.out w' hSw; go_simp <;> with_reducible rfl
        try simp only [Act.put, List.setIfInBounds_toArray, List.set_cons_zero, List.set_cons_succ]
        refine takeH 5 (v := ?_) rfl (by kernel_rfl) (fun _ _ _ h => h) (by rfl) ?_ hHeld ?_
        rotate_left 1
        · intro w' hSw; obtain ⟨hcc, -⟩ := bcellW hSw; have hlk := HLK.out w' hSw; go_simp <;> with_reducible rfl
        try simp only [Act.put, List.setIfInBounds_toArray, List.set_cons_zero, List.set_cons_succ]
        refine takeH 6 (v := ?_) rfl (by kernel_rfl) (fun _ _ _ h => h) (by rfl) ?_ hHeld ?_
        rotate_left 1
        · intro w' hSw; obtain ⟨hcc, -⟩ := bcellW hSw; have hlk := HLK.out w' hSw; go_simp <;> with_reducible rfl
        try simp only [Act.put, List.setIfInBounds_toArray, List.set_cons_zero, List.set_cons_succ]
        refine takeH 7 (v := ?_) rfl (by kernel_rfl) (fun _ _ _ h => h) (by rfl) ?_ hHeld ?_
        rotate_left 1
        · intro w' hSw; obtain ⟨hcc, -⟩ := bcellW hSw; have hlk := HLK.out w' hSw; go_simp <;> with_reducible rfl
        try simp only [Act.put, List.setIfInBounds_toArray, List.set_cons_zero, List.set_cons_succ]
        refine takeH 8 (v := ?_) rfl (by kernel_rfl) (fun _ _ _ h => h) (by rfl) ?_ hHeld ?_
        rotate_left 1
        · intro w' hSw; obtain ⟨hcc, -⟩ := bcellW hSw; have hlk := HLK.out w' hSw; go_simp <;> with_reducible rfl
        try simp only [Act.put, List.setIfInBounds_toArray, List.set_cons_zero, List.set_cons_succ]
        refine takeH 9 (v := ?_) rfl (by kernel_rfl) (fun _ _ _ h => h) (by rfl) ?_ hHeld ?_
        rotate_left 1
        · intro w' hSw; obtain ⟨hcc, -⟩ := bcellW hSw; have hlk := HLK.out w' hSw; go_simp <;> with_reducible rfl
        try simp only [Act.put, List.setIfInBounds_toArray, List.set_cons_zero, List.set_cons_succ]
        refine takeH 10 (v := ?_) rfl (by kernel_rfl) (fun _ _ _ h => h) (by rfl) ?_ hHeld ?_
        rotate_left 1
        · intro w' hSw; obtain ⟨hcc, -⟩ := bcellW hSw; have hlk := HLK.out w' hSw; go_simp <;> with_reducible rfl
        try simp only [Act.put, List.setIfInBounds_toArray, List.set_cons_zero, List.set_cons_succ]
        refine takeH 11 (v := ?_) rfl (by kernel_rfl) (fun _ _ _ h => h) (by rfl) ?_ hHeld ?_
        rotate_left 1
        · intro w' hSw; obtain ⟨hcc, -⟩ := bcellW hSw; have hlk := HLK.out w' hSw; go_simp <;> with_reducible rfl
        try simp only [Act.put, List.setIfInBounds_toArray, List.set_cons_zero, List.set_cons_succ]
        refine takeH 12 (v := ?_) rfl (by kernel_rfl) (fun _ _ _ h => h) (by rfl) ?_ hHeld ?_
        rotate_left 1
        · intro w' hSw; obtain ⟨hcc, -⟩ := bcellW hSw; have hlk := HLK.out w' hSw; go_simp <;> with_reducible rfl
        try simp only [Act.put, List.setIfInBounds_toArray, List.set_cons_zero, List.set_cons_succ]
        refine takeH 13 (v := ?_) rfl (by kernel_rfl) (fun _ _ _ h => h) (by rfl) ?_ hHeld ?_
        rotate_left 1
        · intro w' hSw; obtain ⟨hcc, -⟩ := bcellW hSw; have hlk := HLK.out w' hSw; go_simp <;> with_reducible rfl
        try simp only [Act.put, List.setIfInBounds_toArray, List.set_cons_zero, List.set_cons_succ]
        refine skipH 14 rfl (by kernel_rfl) (fun _ _ _ h => h) (by rfl) hHeld ?_
        try simp only [Act.put, List.setIfInBounds_toArray, List.set_cons_zero, List.set_cons_succ]
        refine skipH 15 rfl (by kernel_rfl) (fun _ _ _ h => h) (by rfl) hHeld ?_
        try simp only [Act.put, List.setIfInBounds_toArray, List.set_cons_zero, List.set_cons_succ]
        refine takeH 16 (v := ?_) rfl (by kernel_rfl) (fun _ _ _ h => h) (by rfl) ?_ hHeld ?_
        rotate_left 1
        · intro w' hSw; obtain ⟨hcc, -⟩ := bcellW hSw; have hlk := HLK.out w' hSw; go_simp <;> with_reducible rfl
        try simp only [Act.put, List.setIfInBounds_toArray, List.set_cons_zero, List.set_cons_succ]
        refine wpAnyH_done (by kernel_rfl) ?_ _
        refine lastQ_go (by rfl) ?_
        clear hHeld
        go_upto_region 23 with fail
        have HON : Hid (latB x.v f r a m st = (false)) := Lib.hid (by unfold latB; rw [HB1V.out, HB2V.out, HS22.out, HMM.out]; cases v2 <;> rfl)
        have hb3 : Below w2.heap.size w2 w2.drew := below_drew (Below.refl _ _)
        replace HE2 := Lib.hid (HE2.out.up hb3)
        replace HFM2 := Lib.hid (HFM2.out.up hb3)
        replace HF2 := Lib.hid (HF2.out.trans_below hb3)
        clear p2 p3 p31 s0 r3 p2l p3l sl rl HLK hfld hb3
        generalize w2.drew = w3 at *
        have p2 := HFM2.out.q2.cell 0
        have p3 := HFM2.out.q3.cell 0
        have p31 := HFM2.out.q3.cell 1
        have s0 := HE2.out.bS.cell 0
        have r3 := HE2.out.bR.cell 3
        have p2l := HFM2.out.q2.lt
        have p3l := HFM2.out.q3.lt
        have sl := HE2.out.bS.lt
        have rl := HE2.out.bR.lt
        refine wp_region_last (S := fun w' => Below w3.heap.size w3 w') 10 _ (by kernel_rfl) (by kernel_rfl) rfl (below_drew (Below.refl _ _)) (fun hHeld => ?_)
        simp only [List.take_succ_cons, List.take_zero]
        refine takeH 0 (v := ?_) rfl (by kernel_rfl) (fun _ _ _ h => h) (by rfl) ?_ hHeld ?_
        rotate_left 1
        · intro w' hSw; obtain ⟨hcc, -⟩ := bcellW hSw; go_simp <;> with_reducible rfl
        try simp only [Act.put, List.setIfInBounds_toArray, List.set_cons_zero, List.set_cons_succ]
        refine takeH 1 (v := ?_) rfl (by kernel_rfl) (fun _ _ _ h => h) (by rfl) ?_ hHeld ?_
        rotate_left 1
        · intro w' hSw; obtain ⟨hcc, -⟩ := bcellW hSw; go_simp <;> with_reducible rfl
        try simp only [Act.put, List.setIfInBounds_toArray, List.set_cons_zero, List.set_cons_succ]
        refine takeH 2 (v := ?_) rfl (by kernel_rfl) (fun _ _ _ h => h) (by rfl) ?_ hHeld ?_
        rotate_left 1
        · intro w' hSw; obtain ⟨hcc, -⟩ := bcellW hSw; go_simp <;> with_reducible rfl
        try simp only [Act.put, List.setIfInBounds_toArray, List.set_cons_zero, List.set_cons_succ]
        refine takeH 3 (v := ?_) rfl (by kernel_rfl) (fun _ _ _ h => h) (by rfl) ?_ hHeld ?_
        rotate_left 1
        · intro w' hSw; obtain ⟨hcc, -⟩ := bcellW hSw; go_simp <;> with_reducible rfl
        try simp only [Act.put, List.setIfInBounds_toArray, List.set_cons_zero, List.set_cons_succ]
        refine takeH 4 (v := ?_) rfl (by kernel_rfl) (fun _ _ _ h => h) (by rfl) ?_ hHeld ?_
        rotate_left 1
        · intro w' hSw; obtain ⟨hcc, -⟩ := bcellW hSw; go_simp <;> with_reducible rfl
        try simp only [Act.put, List.setIfInBounds_toArray, List.set_cons_zero, List.set_cons_succ]
        refine takeH 5 (v := ?_) rfl (by kernel_rfl) (fun _ _ _ h => h) (by rfl) ?_ hHeld ?_
        rotate_left 1
        · intro w' hSw; obtain ⟨hcc, -⟩ := bcellW hSw; go_simp <;> with_reducible rfl
        try simp only [Act.put, List.setIfInBounds_toArray, List.set_cons_zero, List.set_cons_succ]
        refine takeH 6 (v := ?_) rfl (by kernel_rfl) (fun _ _ _ h => h) (by rfl) ?_ hHeld ?_
        rotate_left 1
        · intro w' hSw; obtain ⟨hcc, -⟩ := bcellW hSw; go_simp <;> with_reducible rfl
        try simp only [Act.put, List.setIfInBounds_toArray, List.set_cons_zero, List.set_cons_succ]
        refine takeH 7 (v := ?_) rfl (by kernel_rfl) (fun _ _ _ h => h) (by rfl) ?_ hHeld ?_
        rotate_left 1
        · intro w' hSw; obtain ⟨hcc, -⟩ := bcellW hSw; go_simp <;> with_reducible rfl
        try simp only [Act.put, List.setIfInBounds_toArray, List.set_cons_zero, List.set_cons_succ]
        refine takeH 8 (v := ?_) rfl (by kernel_rfl) (fun _ _ _ h => h) (by rfl) ?_ hHeld ?_
        rotate_left 1
        · intro w' hSw; obtain ⟨hcc, -⟩ := bcellW hSw; go_simp <;> with_reducible rfl
        try simp only [Act.put, List.setIfInBounds_toArray, List.set_cons_zero, List.set_cons_succ]
        refine takeH 9 (v := ?_) rfl (by kernel_rfl) (fun _ _ _ h => h) (by rfl) ?_ hHeld ?_
        rotate_left 1
        · intro w' hSw; obtain ⟨hcc, -⟩ := bcellW hSw; go_simp <;> with_reducible rfl
        try simp only [Act.put, List.setIfInBounds_toArray, List.set_cons_zero, List.set_cons_succ]
        refine wpAnyH_done (by kernel_rfl) ?_ _
        refine lastQ_go (by rfl) ?_
        obtain ⟨w4, hrun, hk4, hg4⟩ := (HE2.out.up (below_drew (Below.refl _ _))).kept.put (r := r) (a := a) (by omega) (by omega) (false, 0)
        have hb4 : Below w3.heap.size w3 w3.drew := below_drew (Below.refl _ _)
        refine wp_mapput (.tmp 125) (.tmp 126) (.tmp 128) 55 rfl (.map (some x.m)) (plK r a) (memV (false, 0)) (by rfl) (by rfl) (by rfl) hrun ?_
        have HR : Hid (EvP x (f + 1) r a st lv w (.returned (.bool (false))) w4) := Lib.hid (by
          have hv := HV.out
          rw [HON.out] at hv
          exact evP_up hv ((HE2.out.up hb4).mapped ok hk4 ((HE2.out.ko).upd r a (by simp)) hg4) ((HF2.out.trans_below hb4).trans (Fr.grownB (X := fun i => i = x.m) hg4 rfl) (fun i hi => .inl (.inl hi))) HO2.out)
        clear hrun hk4 hg4 hb4 hHeld
        go_wp2_with fail
        go_ret
        exact HR.out
  have hn16 := ok.hn
  have h6 : y.op = 6 := by have := HOPS.out; omega
  rw [h6] at y0
  have HV := Lib.hid (ev_6 (v := x.v) (f := f) (s := st) HY.out h6)
  obtain ⟨mb, mt, hmm⟩ : ∃ mb mt, st.kept r a = (mb, mt) := ⟨_, _, rfl⟩
  have HMM := Lib.hid hmm
  have hmt : 0 ≤ mt ∧ mt ≤ 1000000 := by have := HEW.out.ko r a; rw [hmm] at this; exact this
  have hms := ok.ms
  have HLK : Hid (∀ w', Below wb.heap.size wb w' → (Instr.lookup 55 (.map (some x.m)) (.agg #[.int .i64 (r : Int), .int .i64 (a : Int)]) false).run Try.prog w' = .ok (.agg #[.bool mb, .int .i64 mt]) w') := Lib.hid (fun w' hb => by
    have := (HEW.out.kept.at_ (hb.block _ HEW.out.kept.lt)).look (r := r) (a := a) (by omega) (by omega)
    rw [hmm] at this
    exact this)
  have p2 := HFM.out.q2.cell 0
  have p3 := HFM.out.q3.cell 0
  have p31 := HFM.out.q3.cell 1
  have s0 := HEW.out.bS.cell 0
  have r3 := HEW.out.bR.cell 3
  have p2l := HFM.out.q2.lt
  have p3l := HFM.out.q3.lt
  have sl := HEW.out.bS.lt
  have rl := HEW.out.bR.lt
  clear hmm h0 h1 h2 h3 h4 h5 h7 h6
  go_upto_region 25 with fail
  refine wp_region_last (S := fun w' => Below wb.heap.size wb w') 10 _ (by kernel_rfl) (by kernel_rfl) rfl (below_drew (Below.refl _ _)) (fun hHeld => ?_)
  simp only [List.take_succ_cons, List.take_zero]
  refine takeH 0 (v := ?_) rfl (by kernel_rfl) (fun _ _ _ h => h) (by rfl) ?_ hHeld ?_
  rotate_left 1
  · intro w' hSw; obtain ⟨hcc, -⟩ := bcellW hSw; have hlk := HLK.out w' hSw; go_simp <;> with_reducible rfl
  try simp only [Act.put, List.setIfInBounds_toArray, List.set_cons_zero, List.set_cons_succ]
  refine takeH 1 (v := ?_) rfl (by kernel_rfl) (fun _ _ _ h => h) (by rfl) ?_ hHeld ?_
  rotate_left 1
  · intro w' hSw; obtain ⟨hcc, -⟩ := bcellW hSw; have hlk := HLK.out w' hSw; go_simp <;> with_reducible rfl
  try simp only [Act.put, List.setIfInBounds_toArray, List.set_cons_zero, List.set_cons_succ]
  refine takeH 2 (v := ?_) rfl (by kernel_rfl) (fun _ _ _ h => h) (by rfl) ?_ hHeld ?_
  rotate_left 1
  · intro w' hSw; obtain ⟨hcc, -⟩ := bcellW hSw; have hlk := HLK.out w' hSw; go_simp <;> with_reducible rfl
  try simp only [Act.put, List.setIfInBounds_toArray, List.set_cons_zero, List.set_cons_succ]
  refine takeH 3 (v := ?_) rfl (by kernel_rfl) (fun _ _ _ h => h) (by rfl) ?_ hHeld ?_
  rotate_left 1
  · intro w' hSw; obtain ⟨hcc, -⟩ := bcellW hSw; have hlk := HLK.out w' hSw; go_simp <;> with_reducible rfl
  try simp only [Act.put, List.setIfInBounds_toArray, List.set_cons_zero, List.set_cons_succ]
  refine takeH 4 (v := ?_) rfl (by kernel_rfl) (fun _ _ _ h => h) (by rfl) ?_ hHeld ?_
  rotate_left 1
  · intro w' hSw; obtain ⟨hcc, -⟩ := bcellW hSw; have hlk := HLK.out w' hSw; go_simp <;> with_reducible rfl
  try simp only [Act.put, List.setIfInBounds_toArray, List.set_cons_zero, List.set_cons_succ]
  refine takeH 5 (v := ?_) rfl (by kernel_rfl) (fun _ _ _ h => h) (by rfl) ?_ hHeld ?_
  rotate_left 1
  · intro w' hSw; obtain ⟨hcc, -⟩ := bcellW hSw; have hlk := HLK.out w' hSw; go_simp <;> with_reducible rfl
  try simp only [Act.put, List.setIfInBounds_toArray, List.set_cons_zero, List.set_cons_succ]
  refine takeH 6 (v := ?_) rfl (by kernel_rfl) (fun _ _ _ h => h) (by rfl) ?_ hHeld ?_
  rotate_left 1
  · intro w' hSw; obtain ⟨hcc, -⟩ := bcellW hSw; have hlk := HLK.out w' hSw; go_simp <;> with_reducible rfl
  try simp only [Act.put, List.setIfInBounds_toArray, List.set_cons_zero, List.set_cons_succ]
  refine takeH 7 (v := ?_) rfl (by kernel_rfl) (fun _ _ _ h => h) (by rfl) ?_ hHeld ?_
  rotate_left 1
  · intro w' hSw; obtain ⟨hcc, -⟩ := bcellW hSw; have hlk := HLK.out w' hSw; go_simp <;> with_reducible rfl
  try simp only [Act.put, List.setIfInBounds_toArray, List.set_cons_zero, List.set_cons_succ]
  refine takeH 8 (v := ?_) rfl (by kernel_rfl) (fun _ _ _ h => h) (by rfl) ?_ hHeld ?_
  rotate_left 1
  · intro w' hSw; obtain ⟨hcc, -⟩ := bcellW hSw; have hlk := HLK.out w' hSw; go_simp <;> with_reducible rfl
  try simp only [Act.put, List.setIfInBounds_toArray, List.set_cons_zero, List.set_cons_succ]
  refine stepH 9 (by kernel_rfl) rfl (fun K hK => ?_)
  go_simp
  refine hK.out _ _ ?_ (fun hHeld => ?_)
  · exact (below_drew (Below.refl wb.heap.size wb)).alloc (Nat.le_refl _) _
  clear hK K
  try simp only [Act.put, List.setIfInBounds_toArray, List.set_cons_zero, List.set_cons_succ]
  refine wpAnyH_done (by kernel_rfl) ?_ _
  refine lastQ_go (by rfl) ?_
  clear hHeld
  go_upto_region 26 with fail
  have hbc : Below wb.heap.size wb (wb.alloc (.cells #[.bool mb, .int .i64 mt] 68)).drew := below_drew ((Below.refl _ _).alloc (Nat.le_refl _) _)
  have HQ6 : Hid (Blk (wb.alloc (.cells #[.bool mb, .int .i64 mt] 68)).drew wb.heap.size 68 #[.bool mb, .int .i64 mt]) := Lib.hid (Blk.new wb _ _).drew
  replace HEW := Lib.hid (HEW.out.up hbc)
  have HFM0 := HFM
  replace HFM := Lib.hid (HFM.out.up hbc)
  replace HBB := Lib.hid (HBB.out.trans (hbc.mono HBB.out.size))
  have HNG : Hid (x.s < wb.heap.size ∧ wb.heap.size ≠ b2 ∧ wb.heap.size ≠ b3 ∧ wb.heap.size ≠ b6) := Lib.hid ⟨sl, fun e => by have := HFM0.out.q2.lt; omega, fun e => by have := HFM0.out.q3.lt; omega, fun e => by have := HFM0.out.q6.lt; omega⟩
  have HGW : Hid (w.heap.size ≤ wb.heap.size) := Lib.hid (by rcases Nat.lt_or_ge wb.heap.size w.heap.size with hh | hh; (have := HFM0.out.q2.lt; have := HNB.out b2 (.inl rfl); omega); exact hh)
  have HNMM : Hid (∀ b, b = b2 ∨ b = b3 ∨ b = b5 ∨ b = b6 ∨ b = b7 → b ≠ wb.heap.size) := Lib.hid (fun b hb e => by
    have h2 : b < wb.heap.size := by
      rcases hb with rfl | rfl | rfl | rfl | rfl
      · exact HFM0.out.q2.lt
      · exact HFM0.out.q3.lt
      · exact HFM0.out.q5.lt
      · exact HFM0.out.q6.lt
      · exact HFM0.out.q7.lt
    omega)
  clear p2 p3 p31 s0 r3 p2l p3l sl rl HLK hbc y0 y0l HFM0
  generalize (wb.alloc (.cells #[.bool mb, .int .i64 mt] 68)).drew = wc at *
  generalize wb.heap.size = bm at *
  have HNM : Hid (∀ b, b = b2 ∨ b = b3 ∨ b = b5 ∨ b = b6 ∨ b = b7 → b ≠ bm) := HNMM
  have HLB : Hid (lv.ownBlock ≠ some bm) := Lib.hid (fun hc => by have := (HA0.out.later.lt hc).2; have := HGW.out; omega)
  cases mb with
  | true =>
    have c0 := HQ6.out.cell 0
    have c1 := HQ6.out.cell 1
    have cl := HQ6.out.lt
    have cf := HQ6.out.frozen 1
    have p2 := HFM.out.q2.cell 0
    have p2l := HFM.out.q2.lt
    have s1 := HEW.out.bS.cell 1
    have sl := HEW.out.bS.lt
    obtain ⟨T, hT⟩ : ∃ T, min (mt + x.v.ms) 1000000 = T := ⟨_, rfl⟩
    have HTT : Hid (tick (true, mt) x.v.ms = T) := Lib.hid (by unfold tick; rw [if_pos rfl]; exact hT)
    have HTB : Hid (0 ≤ T ∧ T ≤ 1000000) := Lib.hid (by omega)
    have hwr : IntKind.i64.wrap (mt + x.v.ms) = mt + x.v.ms := IntWalk.i64_in _ (by omega)
    go_upto_region 27 with fail
    refine wp_region_last (S := fun w' => Below wc.heap.size wc w') 9 _ (by kernel_rfl) (by kernel_rfl) rfl (below_drew (Below.refl _ _)) (fun hHeld => ?_)
    simp only [List.take_succ_cons, List.take_zero]
    refine takeH 0 (v := ?_) rfl (by kernel_rfl) (fun _ _ _ h => h) (by rfl) ?_ hHeld ?_
    rotate_left 1
    · intro w' hSw; obtain ⟨hcc, -⟩ := bcellW hSw; go_simp <;> with_reducible rfl
    try simp only [Act.put, List.setIfInBounds_toArray, List.set_cons_zero, List.set_cons_succ]
    refine takeH 1 (v := ?_) rfl (by kernel_rfl) (fun _ _ _ h => h) (by rfl) ?_ hHeld ?_
    rotate_left 1
    · intro w' hSw; obtain ⟨hcc, -⟩ := bcellW hSw; go_simp <;> with_reducible rfl
    try simp only [Act.put, List.setIfInBounds_toArray, List.set_cons_zero, List.set_cons_succ]
    refine takeH 2 (v := ?_) rfl (by kernel_rfl) (fun _ _ _ h => h) (by rfl) ?_ hHeld ?_
    rotate_left 1
    · intro w' hSw; obtain ⟨hcc, -⟩ := bcellW hSw; go_simp <;> with_reducible rfl
    try simp only [Act.put, List.setIfInBounds_toArray, List.set_cons_zero, List.set_cons_succ]
    refine takeH 3 (v := ?_) rfl (by kernel_rfl) (fun _ _ _ h => h) (by rfl) ?_ hHeld ?_
    rotate_left 1
    · intro w' hSw; obtain ⟨hcc, -⟩ := bcellW hSw; go_simp <;> with_reducible rfl
    try simp only [Act.put, List.setIfInBounds_toArray, List.set_cons_zero, List.set_cons_succ]
    refine takeH 4 (v := ?_) rfl (by kernel_rfl) (fun _ _ _ h => h) (by rfl) ?_ hHeld ?_
    rotate_left 1
    · intro w' hSw; obtain ⟨hcc, -⟩ := bcellW hSw; go_simp <;> with_reducible rfl
    try simp only [Act.put, List.setIfInBounds_toArray, List.set_cons_zero, List.set_cons_succ]
    refine takeH 5 (v := ?_) rfl (by kernel_rfl) (fun _ _ _ h => h) (by rfl) ?_ hHeld ?_
    rotate_left 1
    · intro w' hSw; obtain ⟨hcc, -⟩ := bcellW hSw; go_simp <;> with_reducible rfl
    try simp only [Act.put, List.setIfInBounds_toArray, List.set_cons_zero, List.set_cons_succ]
    refine takeH 6 (v := ?_) rfl (by kernel_rfl) (fun _ _ _ h => h) (by rfl) ?_ hHeld ?_
    rotate_left 1
    · intro w' hSw; obtain ⟨hcc, -⟩ := bcellW hSw; go_simp <;> with_reducible rfl
    try simp only [Act.put, List.setIfInBounds_toArray, List.set_cons_zero, List.set_cons_succ]
    refine takeH 7 (v := ?_) rfl (by kernel_rfl) (fun _ _ _ h => h) (by rfl) ?_ hHeld ?_
    rotate_left 1
    · intro w' hSw; obtain ⟨hcc, -⟩ := bcellW hSw; go_simp <;> with_reducible rfl
    try simp only [Act.put, List.setIfInBounds_toArray, List.set_cons_zero, List.set_cons_succ]
    refine takeH 8 (v := ?_) rfl (by kernel_rfl) (fun _ _ _ h => h) (by rfl) ?_ hHeld ?_
    rotate_left 1
    · intro w' hSw; obtain ⟨hcc, -⟩ := bcellW hSw; go_simp <;> with_reducible rfl
    try simp only [Act.put, List.setIfInBounds_toArray, List.set_cons_zero, List.set_cons_succ]
    refine wpAnyH_done (by kernel_rfl) ?_ _
    refine lastQ_go (by rfl) ?_
    clear hHeld
    go_upto_region 29 with fail
    clear hT hwr c0 c1 cl cf p2 p2l s1 sl
    have hbd : Below wc.heap.size wc wc.drew := below_drew (Below.refl _ _)
    replace HQ6 : Hid (Blk ((wc.setCell ⟨bm, 1, none⟩ (.int .i64 T)).drew) bm 68 #[.bool true, .int .i64 T]) := Lib.hid (by
      have := HQ6.out.set_ 1 (.int .i64 T)
      have h2 : Blk (wc.setCell ⟨bm, 1, none⟩ (.int .i64 T)) bm 68 #[.bool true, .int .i64 T] := by simpa using this
      exact h2.drew)
    replace HEW : Hid (EvW x (wc.setCell ⟨bm, 1, none⟩ (.int .i64 T)).drew st lv) := Lib.hid ((HEW.out.up hbd).far ok HNG.out.1 HLB.out 1 (.int .i64 T))
    replace HFM : Hid (Fm x (wc.setCell ⟨bm, 1, none⟩ (.int .i64 T)).drew b2 b3 b5 b6 b7 r a z' y) := Lib.hid ((HFM.out.up hbd).far HNM.out 1 (.int .i64 T))
    replace HBB : Hid (Below w.heap.size w ((wc.setCell ⟨bm, 1, none⟩ (.int .i64 T)).drew)) := Lib.hid ((below_drew HBB.out).setCell HGW.out _)
    clear hbd
    generalize (wc.setCell ⟨bm, 1, none⟩ (.int .i64 T)).drew = wd at *
    go_upto_region 29 with fail
    have p2 := HFM.out.q2.cell 0
    have p3 := HFM.out.q3.cell 0
    have p31 := HFM.out.q3.cell 1
    have s0 := HEW.out.bS.cell 0
    have r3 := HEW.out.bR.cell 3
    have c0 := HQ6.out.cell 0
    have c1 := HQ6.out.cell 1
    have cl := HQ6.out.lt
    have p2l := HFM.out.q2.lt
    have p3l := HFM.out.q3.lt
    have sl := HEW.out.bS.lt
    have rl := HEW.out.bR.lt
    refine wp_region_last (S := fun w' => Below wd.heap.size wd w') 9 _ (by kernel_rfl) (by kernel_rfl) rfl (below_drew (Below.refl _ _)) (fun hHeld => ?_)
    simp only [List.take_succ_cons, List.take_zero]
    refine takeH 0 (v := ?_) rfl (by kernel_rfl) (fun _ _ _ h => h) (by rfl) ?_ hHeld ?_
    rotate_left 1
    · intro w' hSw; obtain ⟨hcc, -⟩ := bcellW hSw; go_simp <;> with_reducible rfl
    try simp only [Act.put, List.setIfInBounds_toArray, List.set_cons_zero, List.set_cons_succ]
    refine takeH 1 (v := ?_) rfl (by kernel_rfl) (fun _ _ _ h => h) (by rfl) ?_ hHeld ?_
    rotate_left 1
    · intro w' hSw; obtain ⟨hcc, -⟩ := bcellW hSw; go_simp <;> with_reducible rfl
    try simp only [Act.put, List.setIfInBounds_toArray, List.set_cons_zero, List.set_cons_succ]
    refine takeH 2 (v := ?_) rfl (by kernel_rfl) (fun _ _ _ h => h) (by rfl) ?_ hHeld ?_
    rotate_left 1
    · intro w' hSw; obtain ⟨hcc, -⟩ := bcellW hSw; go_simp <;> with_reducible rfl
    try simp only [Act.put, List.setIfInBounds_toArray, List.set_cons_zero, List.set_cons_succ]
    refine takeH 3 (v := ?_) rfl (by kernel_rfl) (fun _ _ _ h => h) (by rfl) ?_ hHeld ?_
    rotate_left 1
    · intro w' hSw; obtain ⟨hcc, -⟩ := bcellW hSw; go_simp <;> with_reducible rfl
    try simp only [Act.put, List.setIfInBounds_toArray, List.set_cons_zero, List.set_cons_succ]
    refine takeH 4 (v := ?_) rfl (by kernel_rfl) (fun _ _ _ h => h) (by rfl) ?_ hHeld ?_
    rotate_left 1
    · intro w' hSw; obtain ⟨hcc, -⟩ := bcellW hSw; go_simp <;> with_reducible rfl
    try simp only [Act.put, List.setIfInBounds_toArray, List.set_cons_zero, List.set_cons_succ]
    refine takeH 5 (v := ?_) rfl (by kernel_rfl) (fun _ _ _ h => h) (by rfl) ?_ hHeld ?_
    rotate_left 1
    · intro w' hSw; obtain ⟨hcc, -⟩ := bcellW hSw; go_simp <;> with_reducible rfl
    try simp only [Act.put, List.setIfInBounds_toArray, List.set_cons_zero, List.set_cons_succ]
    refine takeH 6 (v := ?_) rfl (by kernel_rfl) (fun _ _ _ h => h) (by rfl) ?_ hHeld ?_
    rotate_left 1
    · intro w' hSw; obtain ⟨hcc, -⟩ := bcellW hSw; go_simp <;> with_reducible rfl
    try simp only [Act.put, List.setIfInBounds_toArray, List.set_cons_zero, List.set_cons_succ]
    refine takeH 7 (v := ?_) rfl (by kernel_rfl) (fun _ _ _ h => h) (by rfl) ?_ hHeld ?_
    rotate_left 1
    · intro w' hSw; obtain ⟨hcc, -⟩ := bcellW hSw; go_simp <;> with_reducible rfl
    try simp only [Act.put, List.setIfInBounds_toArray, List.set_cons_zero, List.set_cons_succ]
    refine takeH 8 (v := ?_) rfl (by kernel_rfl) (fun _ _ _ h => h) (by rfl) ?_ hHeld ?_
    rotate_left 1
    · intro w' hSw; obtain ⟨hcc, -⟩ := bcellW hSw; go_simp <;> with_reducible rfl
    try simp only [Act.put, List.setIfInBounds_toArray, List.set_cons_zero, List.set_cons_succ]
    refine wpAnyH_done (by kernel_rfl) ?_ _
    refine lastQ_go (by rfl) ?_
    obtain ⟨we, hrun, hk4, hg4⟩ := (HEW.out.up (below_drew (Below.refl _ _))).kept.put (r := r) (a := a) (by omega) (by omega) (true, T)
    have hb4 : Below wd.heap.size wd wd.drew := below_drew (Below.refl _ _)
    refine wp_mapput (.tmp 157) (.tmp 158) (.tmp 159) 55 rfl (.map (some x.m)) (plK r a) (memV (true, T)) (by rfl) (by rfl) (by rfl) hrun ?_
    have hmne : ∀ b, w.heap.size ≤ b → b ≠ x.m := fun b hb e => by have := ok.m; have := HA0.out.bS.lt; omega
    have hFm : Fr (fun i => i = x.m) wd we := Fr.grownB (w := wd) ⟨hg4.os, hg4.tape, hg4.output, hg4.size, hg4.block⟩ rfl
    have HE5 := Lib.hid ((HEW.out.up hb4).mapped ok hk4 ((HEW.out.ko).upd r a HTB.out) hg4)
    have HFM5 := Lib.hid (HFM.out.fr hFm (fun b hb => hmne b (HNB.out b hb)))
    have HQ65 := Lib.hid (hFm.blk HQ6.out (hmne bm HGW.out))
    have HF5 : Hid (Fr (EvX x lv) w we) := Lib.hid ((Fr.of HBB.out).trans hFm (fun i hi => .inl (.inl hi)))
    clear hrun hk4 hg4 hb4 hmne hFm hHeld
    clear p2 p3 p31 s0 r3 c0 c1 cl p2l p3l sl rl
    clear HEW HFM HQ6 HBB
    go_upto_region 30 with fail
    obtain ⟨lA, ln, lc, hlv⟩ := HE5.out.later.slice
    subst hlv
    have s4 := HE5.out.bS.cell 4
    have sl := HE5.out.bS.lt
    have sf := HE5.out.bS.frozen 4
    have p2 := HFM5.out.q2.cell 0
    have p2l := HFM5.out.q2.lt
    have p3l := HFM5.out.q3.lt
    have hS0 : S30 b2 b3 x.s r a (.slice lA ln lc) we := ⟨p2, s4, HFM5.out.q3.cell 0, HFM5.out.q3.cell 1⟩
    have hbl : Below we.heap.size we (we.drew.alloc (.cells #[.int .i64 (r : Int), .int .i64 (a : Int)] 66)) := (below_drew (Below.refl _ _)).alloc (Nat.le_refl _) _
    have HS0 := Lib.hid hS0
    have HS6 : Hid (S30 b2 b3 x.s r a (.slice lA ln lc) (we.drew.alloc (.cells #[.int .i64 (r : Int), .int .i64 (a : Int)] 66))) := Lib.hid (hS0.at_ (fun b hb => hbl.block b (by rcases hb with rfl | rfl | rfl <;> assumption)))
    have HLQ := Lib.hid (HE5.out.later.up hbl)
    have HNL : Hid (∀ b, b = b2 ∨ b = b3 ∨ b = x.s ∨ b = bm ∨ b = b6 → (Value.slice lA ln lc).ownBlock ≠ some b) := Lib.hid (fun b hb hc => by
      have h1 := (HA0.out.later.lt hc).2
      have h2 := (HA0.out.later.lt hc).1
      rcases hb with rfl | rfl | rfl | rfl | rfl
      · have := HNB.out _ (.inl rfl); omega
      · have := HNB.out _ (.inr (.inl rfl)); omega
      · omega
      · have := HGW.out; omega
      · have := HNB.out _ (.inr (.inr (.inr (.inl rfl)))); omega)
    have HBL := Lib.hid hbl
    clear s4 p2 hS0 hbl
    refine wp_region_last (S := S30 b2 b3 x.s r a (.slice lA ln lc)) 10 _ (by kernel_rfl) (by kernel_rfl) rfl HS0.out (fun hHeld => ?_)
    simp only [List.take_succ_cons, List.take_zero]
    refine takeH 0 (v := ?_) rfl (by kernel_rfl) (fun _ _ _ h => h) (by rfl) ?_ hHeld ?_
    rotate_left 1
    · intro w' hSw; obtain ⟨g1, g2, g3, g4⟩ := hSw; go_simp <;> with_reducible rfl
    try simp only [Act.put, List.setIfInBounds_toArray, List.set_cons_zero, List.set_cons_succ]
    refine takeH 1 (v := ?_) rfl (by kernel_rfl) (fun _ _ _ h => h) (by rfl) ?_ hHeld ?_
    rotate_left 1
    · intro w' hSw; obtain ⟨g1, g2, g3, g4⟩ := hSw; go_simp <;> with_reducible rfl
    try simp only [Act.put, List.setIfInBounds_toArray, List.set_cons_zero, List.set_cons_succ]
    refine takeH 2 (v := ?_) rfl (by kernel_rfl) (fun _ _ _ h => h) (by rfl) ?_ hHeld ?_
    rotate_left 1
    · intro w' hSw; obtain ⟨g1, g2, g3, g4⟩ := hSw; go_simp <;> with_reducible rfl
    try simp only [Act.put, List.setIfInBounds_toArray, List.set_cons_zero, List.set_cons_succ]
    refine takeH 3 (v := ?_) rfl (by kernel_rfl) (fun _ _ _ h => h) (by rfl) ?_ hHeld ?_
    rotate_left 1
    · intro w' hSw; obtain ⟨g1, g2, g3, g4⟩ := hSw; go_simp <;> with_reducible rfl
    try simp only [Act.put, List.setIfInBounds_toArray, List.set_cons_zero, List.set_cons_succ]
    refine takeH 4 (v := ?_) rfl (by kernel_rfl) (fun _ _ _ h => h) (by rfl) ?_ hHeld ?_
    rotate_left 1
    · intro w' hSw; obtain ⟨g1, g2, g3, g4⟩ := hSw; go_simp <;> with_reducible rfl
    try simp only [Act.put, List.setIfInBounds_toArray, List.set_cons_zero, List.set_cons_succ]
    refine takeH 5 (v := ?_) rfl (by kernel_rfl) (fun _ _ _ h => h) (by rfl) ?_ hHeld ?_
    rotate_left 1
    · intro w' hSw; obtain ⟨g1, g2, g3, g4⟩ := hSw; go_simp <;> with_reducible rfl
    try simp only [Act.put, List.setIfInBounds_toArray, List.set_cons_zero, List.set_cons_succ]
    refine stepH 6 (by kernel_rfl) rfl (fun K hK => ?_)
    go_simp
    refine hK.out _ _ ?_ (fun hHeld => ?_)
    · exact HS6.out
    clear hK K
    try simp only [Act.put, List.setIfInBounds_toArray, List.set_cons_zero, List.set_cons_succ]
    refine stepH 7 (by kernel_rfl) rfl (fun K hK => ?_)
    refine ite_go (by rfl) ?_
    obtain ⟨i0, hi0, hz0, hz1, hz2⟩ := info_parts info_pl
    refine wp_append_qp (.tmp 164) (.tmp 166) 61 rfl (x.s + 1) 66 i0 _ Try.underlying61 hi0 hz0 hz1 (by rw [hz2]; exact Nat.le_refl _) rfl (.slice lA ln lc) st.later (by rfl) HLQ.out we.heap.size 1 (r, a) (by rfl) ((Blk.new we.drew _ _).cell 0) ((Blk.new we.drew _ _).cell 1) (by omega) (by have := sl; simp; omega) ?_
    intro lv' w7 hq7 hg7 ho7
    obtain ⟨lA', ln', lc', hlv'⟩ := hq7.slice
    subst hlv'
    have HQ7 := Lib.hid hq7
    have HG7 := Lib.hid hg7
    have HS7 : Hid (S30 b2 b3 x.s r a (.slice lA ln lc) w7) := Lib.hid (HS6.out.at_ (fun b hb => hg7.block b (by simp; rcases hb with rfl | rfl | rfl <;> omega) (fun e => HNL.out b (by rcases hb with rfl | rfl | rfl <;> simp) e.symm)))
    have HO7 : Hid (∀ k, (Value.slice lA' ln' lc').ownBlock = some k → (Value.slice lA ln lc).ownBlock = some k ∨ w.heap.size ≤ k) := Lib.hid (fun k hk => by
      rcases ho7 with h | h
      · exact .inl (h ▸ hk)
      · right
        rw [h] at hk
        injection hk with hk
        have := HF5.out.size
        simp at hk
        omega)
    clear hq7 hg7 ho7 hi0 hz0 hz1 hz2
    refine hK.out _ _ ?_ (fun hHeld => ?_)
    · exact HS7.out
    clear hK K
    try simp only [Act.put, List.setIfInBounds_toArray, List.set_cons_zero, List.set_cons_succ]
    refine takeH 8 (v := ?_) rfl (by kernel_rfl) (fun _ _ _ h => h) (by rfl) ?_ hHeld ?_
    rotate_left 1
    · intro w' hSw; obtain ⟨g1, g2, g3, g4⟩ := hSw; go_simp <;> with_reducible rfl
    try simp only [Act.put, List.setIfInBounds_toArray, List.set_cons_zero, List.set_cons_succ]
    refine takeH 9 (v := ?_) rfl (by kernel_rfl) (fun _ _ _ h => h) (by rfl) ?_ hHeld ?_
    rotate_left 1
    · intro w' hSw; obtain ⟨g1, g2, g3, g4⟩ := hSw; go_simp <;> with_reducible rfl
    try simp only [Act.put, List.setIfInBounds_toArray, List.set_cons_zero, List.set_cons_succ]
    have s4 : w7.cell? ⟨x.s, 4, none⟩ = some (.slice lA ln lc) := HS7.out.2.1
    have sl7 : x.s < w7.heap.size := Nat.lt_of_lt_of_le sl (Nat.le_trans HBL.out.size HG7.out.size)
    have sf7 : w7.frozen? ⟨x.s, 4, none⟩ = false := by
      have h1 := (HE5.out.up HBL.out).bS
      exact (h1.grown HG7.out (fun e => HNL.out x.s (by simp) e.symm)).frozen 4
    refine wpAnyH_done (by kernel_rfl) ?_ _
    refine lastQ_go (by rfl) ?_
    clear hHeld
    go_upto_region 31 with fail
    have hb6 := ((HFM5.out.up HBL.out).q6.grown HG7.out (fun e => HNL.out b6 (by simp) e.symm)).far (p := ⟨x.s, 4, none⟩) (by have := HNB.out b6 (by simp); have := HA0.out.bS.lt; show b6 ≠ x.s; omega) (.slice lA' ln' lc')
    have hbm := ((HQ65.out.below HBL.out HQ65.out.lt).grown HG7.out (fun e => HNL.out bm (by simp) e.symm)).far (p := ⟨x.s, 4, none⟩) (by have := HNG.out.1; show bm ≠ x.s; omega) (.slice lA' ln' lc')
    have HR : Hid (EvP x (f + 1) r a st (.slice lA ln lc) w (.returned (.bool (decide (y.value ≤ T)))) (w7.setCell ⟨x.s, 4, none⟩ (.slice lA' ln' lc'))) := Lib.hid (by
      have hv := HV.out
      rw [HMM.out, HTT.out] at hv
      refine evP_up hv ((HE5.out.up HBL.out).added ok HQ7.out HG7.out) (Fr.set_ ?_ (.inl (.inr (.inl rfl)))) HO7.out
      exact (HF5.out.trans_below HBL.out).trans (Fr.grown (X := fun k => (Value.slice lA ln lc).ownBlock = some k) HG7.out (fun k hk => .inl hk)) (fun i hi => .inl (.inr (.inr hi))))
    clear s4 sl7 sf7 sf HS0 HS6 HS7 HLQ HNL HBL HQ7 HG7 HO7 HE5 HFM5 HQ65 HF5
    generalize w7.setCell ⟨x.s, 4, none⟩ (.slice lA' ln' lc') = wf at *
    have d0 := hbm.cell 0
    have d1 := hbm.cell 1
    have dl := hbm.lt
    have y2 := hb6.cell 2
    have y2l := hb6.lt
    clear hb6 hbm
    go_wp2_with fail
    go_ret
    exact HR.out
  | false =>
    have c0 := HQ6.out.cell 0
    have c1 := HQ6.out.cell 1
    have cl := HQ6.out.lt
    have cf := HQ6.out.frozen 1
    obtain ⟨T, hT⟩ : ∃ T : Int, T = 0 := ⟨_, rfl⟩
    have HTT : Hid (tick (false, mt) x.v.ms = T) := Lib.hid (by rw [hT]; rfl)
    have HTB : Hid (0 ≤ T ∧ T ≤ 1000000) := Lib.hid (by omega)
    have HT0 := Lib.hid hT
    clear hT
    go_upto_region 29 with fail
    clear c0 c1 cl cf
    replace HQ6 : Hid (Blk (wc.setCell ⟨bm, 1, none⟩ (.int .i64 0)) bm 68 #[.bool false, .int .i64 T]) := Lib.hid (by have := HQ6.out.set_ 1 (.int .i64 0); rw [HT0.out]; simpa using this)
    replace HEW := Lib.hid (HEW.out.far ok HNG.out.1 HLB.out 1 (.int .i64 0))
    replace HFM := Lib.hid (HFM.out.far HNM.out 1 (.int .i64 0))
    replace HBB : Hid (Below w.heap.size w (wc.setCell ⟨bm, 1, none⟩ (.int .i64 0))) := Lib.hid (HBB.out.setCell HGW.out _)
    generalize wc.setCell ⟨bm, 1, none⟩ (.int .i64 0) = wd at *
    go_upto_region 29 with fail
    have p2 := HFM.out.q2.cell 0
    have p3 := HFM.out.q3.cell 0
    have p31 := HFM.out.q3.cell 1
    have s0 := HEW.out.bS.cell 0
    have r3 := HEW.out.bR.cell 3
    have c0 := HQ6.out.cell 0
    have c1 := HQ6.out.cell 1
    have cl := HQ6.out.lt
    have p2l := HFM.out.q2.lt
    have p3l := HFM.out.q3.lt
    have sl := HEW.out.bS.lt
    have rl := HEW.out.bR.lt
    refine wp_region_last (S := fun w' => Below wd.heap.size wd w') 9 _ (by kernel_rfl) (by kernel_rfl) rfl (below_drew (Below.refl _ _)) (fun hHeld => ?_)
    simp only [List.take_succ_cons, List.take_zero]
    refine takeH 0 (v := ?_) rfl (by kernel_rfl) (fun _ _ _ h => h) (by rfl) ?_ hHeld ?_
    rotate_left 1
    · intro w' hSw; obtain ⟨hcc, -⟩ := bcellW hSw; go_simp <;> with_reducible rfl
    try simp only [Act.put, List.setIfInBounds_toArray, List.set_cons_zero, List.set_cons_succ]
    refine takeH 1 (v := ?_) rfl (by kernel_rfl) (fun _ _ _ h => h) (by rfl) ?_ hHeld ?_
    rotate_left 1
    · intro w' hSw; obtain ⟨hcc, -⟩ := bcellW hSw; go_simp <;> with_reducible rfl
    try simp only [Act.put, List.setIfInBounds_toArray, List.set_cons_zero, List.set_cons_succ]
    refine takeH 2 (v := ?_) rfl (by kernel_rfl) (fun _ _ _ h => h) (by rfl) ?_ hHeld ?_
    rotate_left 1
    · intro w' hSw; obtain ⟨hcc, -⟩ := bcellW hSw; go_simp <;> with_reducible rfl
    try simp only [Act.put, List.setIfInBounds_toArray, List.set_cons_zero, List.set_cons_succ]
    refine takeH 3 (v := ?_) rfl (by kernel_rfl) (fun _ _ _ h => h) (by rfl) ?_ hHeld ?_
    rotate_left 1
    · intro w' hSw; obtain ⟨hcc, -⟩ := bcellW hSw; go_simp <;> with_reducible rfl
    try simp only [Act.put, List.setIfInBounds_toArray, List.set_cons_zero, List.set_cons_succ]
    refine takeH 4 (v := ?_) rfl (by kernel_rfl) (fun _ _ _ h => h) (by rfl) ?_ hHeld ?_
    rotate_left 1
    · intro w' hSw; obtain ⟨hcc, -⟩ := bcellW hSw; go_simp <;> with_reducible rfl
    try simp only [Act.put, List.setIfInBounds_toArray, List.set_cons_zero, List.set_cons_succ]
    refine takeH 5 (v := ?_) rfl (by kernel_rfl) (fun _ _ _ h => h) (by rfl) ?_ hHeld ?_
    rotate_left 1
    · intro w' hSw; obtain ⟨hcc, -⟩ := bcellW hSw; go_simp <;> with_reducible rfl
    try simp only [Act.put, List.setIfInBounds_toArray, List.set_cons_zero, List.set_cons_succ]
    refine takeH 6 (v := ?_) rfl (by kernel_rfl) (fun _ _ _ h => h) (by rfl) ?_ hHeld ?_
    rotate_left 1
    · intro w' hSw; obtain ⟨hcc, -⟩ := bcellW hSw; go_simp <;> with_reducible rfl
    try simp only [Act.put, List.setIfInBounds_toArray, List.set_cons_zero, List.set_cons_succ]
    refine takeH 7 (v := ?_) rfl (by kernel_rfl) (fun _ _ _ h => h) (by rfl) ?_ hHeld ?_
    rotate_left 1
    · intro w' hSw; obtain ⟨hcc, -⟩ := bcellW hSw; go_simp <;> with_reducible rfl
    try simp only [Act.put, List.setIfInBounds_toArray, List.set_cons_zero, List.set_cons_succ]
    refine takeH 8 (v := ?_) rfl (by kernel_rfl) (fun _ _ _ h => h) (by rfl) ?_ hHeld ?_
    rotate_left 1
    · intro w' hSw; obtain ⟨hcc, -⟩ := bcellW hSw; go_simp <;> with_reducible rfl
    try simp only [Act.put, List.setIfInBounds_toArray, List.set_cons_zero, List.set_cons_succ]
    refine wpAnyH_done (by kernel_rfl) ?_ _
    refine lastQ_go (by rfl) ?_
    obtain ⟨we, hrun, hk4, hg4⟩ := (HEW.out.up (below_drew (Below.refl _ _))).kept.put (r := r) (a := a) (by omega) (by omega) (false, T)
    have hb4 : Below wd.heap.size wd wd.drew := below_drew (Below.refl _ _)
    refine wp_mapput (.tmp 157) (.tmp 158) (.tmp 159) 55 rfl (.map (some x.m)) (plK r a) (memV (false, T)) (by rfl) (by rfl) (by rfl) hrun ?_
    have hmne : ∀ b, w.heap.size ≤ b → b ≠ x.m := fun b hb e => by have := ok.m; have := HA0.out.bS.lt; omega
    have hFm : Fr (fun i => i = x.m) wd we := Fr.grownB (w := wd) ⟨hg4.os, hg4.tape, hg4.output, hg4.size, hg4.block⟩ rfl
    have HE5 := Lib.hid ((HEW.out.up hb4).mapped ok hk4 ((HEW.out.ko).upd r a HTB.out) hg4)
    have HFM5 := Lib.hid (HFM.out.fr hFm (fun b hb => hmne b (HNB.out b hb)))
    have HQ65 := Lib.hid (hFm.blk HQ6.out (hmne bm HGW.out))
    have HF5 : Hid (Fr (EvX x lv) w we) := Lib.hid ((Fr.of HBB.out).trans hFm (fun i hi => .inl (.inl hi)))
    clear hrun hk4 hg4 hb4 hmne hFm hHeld
    clear p2 p3 p31 s0 r3 c0 c1 cl p2l p3l sl rl
    clear HEW HFM HQ6 HBB
    go_upto_region 30 with fail
    obtain ⟨lA, ln, lc, hlv⟩ := HE5.out.later.slice
    subst hlv
    have s4 := HE5.out.bS.cell 4
    have sl := HE5.out.bS.lt
    have sf := HE5.out.bS.frozen 4
    have p2 := HFM5.out.q2.cell 0
    have p2l := HFM5.out.q2.lt
    have p3l := HFM5.out.q3.lt
    have hS0 : S30 b2 b3 x.s r a (.slice lA ln lc) we := ⟨p2, s4, HFM5.out.q3.cell 0, HFM5.out.q3.cell 1⟩
    have hbl : Below we.heap.size we (we.drew.alloc (.cells #[.int .i64 (r : Int), .int .i64 (a : Int)] 66)) := (below_drew (Below.refl _ _)).alloc (Nat.le_refl _) _
    have HS0 := Lib.hid hS0
    have HS6 : Hid (S30 b2 b3 x.s r a (.slice lA ln lc) (we.drew.alloc (.cells #[.int .i64 (r : Int), .int .i64 (a : Int)] 66))) := Lib.hid (hS0.at_ (fun b hb => hbl.block b (by rcases hb with rfl | rfl | rfl <;> assumption)))
    have HLQ := Lib.hid (HE5.out.later.up hbl)
    have HNL : Hid (∀ b, b = b2 ∨ b = b3 ∨ b = x.s ∨ b = bm ∨ b = b6 → (Value.slice lA ln lc).ownBlock ≠ some b) := Lib.hid (fun b hb hc => by
      have h1 := (HA0.out.later.lt hc).2
      have h2 := (HA0.out.later.lt hc).1
      rcases hb with rfl | rfl | rfl | rfl | rfl
      · have := HNB.out _ (.inl rfl); omega
      · have := HNB.out _ (.inr (.inl rfl)); omega
      · omega
      · have := HGW.out; omega
      · have := HNB.out _ (.inr (.inr (.inr (.inl rfl)))); omega)
    have HBL := Lib.hid hbl
    clear s4 p2 hS0 hbl
    refine wp_region_last (S := S30 b2 b3 x.s r a (.slice lA ln lc)) 10 _ (by kernel_rfl) (by kernel_rfl) rfl HS0.out (fun hHeld => ?_)
    simp only [List.take_succ_cons, List.take_zero]
    refine takeH 0 (v := ?_) rfl (by kernel_rfl) (fun _ _ _ h => h) (by rfl) ?_ hHeld ?_
    rotate_left 1
    · intro w' hSw; obtain ⟨g1, g2, g3, g4⟩ := hSw; go_simp <;> with_reducible rfl
    try simp only [Act.put, List.setIfInBounds_toArray, List.set_cons_zero, List.set_cons_succ]
    refine takeH 1 (v := ?_) rfl (by kernel_rfl) (fun _ _ _ h => h) (by rfl) ?_ hHeld ?_
    rotate_left 1
    · intro w' hSw; obtain ⟨g1, g2, g3, g4⟩ := hSw; go_simp <;> with_reducible rfl
    try simp only [Act.put, List.setIfInBounds_toArray, List.set_cons_zero, List.set_cons_succ]
    refine takeH 2 (v := ?_) rfl (by kernel_rfl) (fun _ _ _ h => h) (by rfl) ?_ hHeld ?_
    rotate_left 1
    · intro w' hSw; obtain ⟨g1, g2, g3, g4⟩ := hSw; go_simp <;> with_reducible rfl
    try simp only [Act.put, List.setIfInBounds_toArray, List.set_cons_zero, List.set_cons_succ]
    refine takeH 3 (v := ?_) rfl (by kernel_rfl) (fun _ _ _ h => h) (by rfl) ?_ hHeld ?_
    rotate_left 1
    · intro w' hSw; obtain ⟨g1, g2, g3, g4⟩ := hSw; go_simp <;> with_reducible rfl
    try simp only [Act.put, List.setIfInBounds_toArray, List.set_cons_zero, List.set_cons_succ]
    refine takeH 4 (v := ?_) rfl (by kernel_rfl) (fun _ _ _ h => h) (by rfl) ?_ hHeld ?_
    rotate_left 1
    · intro w' hSw; obtain ⟨g1, g2, g3, g4⟩ := hSw; go_simp <;> with_reducible rfl
    try simp only [Act.put, List.setIfInBounds_toArray, List.set_cons_zero, List.set_cons_succ]
    refine takeH 5 (v := ?_) rfl (by kernel_rfl) (fun _ _ _ h => h) (by rfl) ?_ hHeld ?_
    rotate_left 1
    · intro w' hSw; obtain ⟨g1, g2, g3, g4⟩ := hSw; go_simp <;> with_reducible rfl
    try simp only [Act.put, List.setIfInBounds_toArray, List.set_cons_zero, List.set_cons_succ]
    refine stepH 6 (by kernel_rfl) rfl (fun K hK => ?_)
    go_simp
    refine hK.out _ _ ?_ (fun hHeld => ?_)
    · exact HS6.out
    clear hK K
    try simp only [Act.put, List.setIfInBounds_toArray, List.set_cons_zero, List.set_cons_succ]
    refine stepH 7 (by kernel_rfl) rfl (fun K hK => ?_)
    refine ite_go (by rfl) ?_
    obtain ⟨i0, hi0, hz0, hz1, hz2⟩ := info_parts info_pl
    refine wp_append_qp (.tmp 164) (.tmp 166) 61 rfl (x.s + 1) 66 i0 _ Try.underlying61 hi0 hz0 hz1 (by rw [hz2]; exact Nat.le_refl _) rfl (.slice lA ln lc) st.later (by rfl) HLQ.out we.heap.size 1 (r, a) (by rfl) ((Blk.new we.drew _ _).cell 0) ((Blk.new we.drew _ _).cell 1) (by omega) (by have := sl; simp; omega) ?_
    intro lv' w7 hq7 hg7 ho7
    obtain ⟨lA', ln', lc', hlv'⟩ := hq7.slice
    subst hlv'
    have HQ7 := Lib.hid hq7
    have HG7 := Lib.hid hg7
    have HS7 : Hid (S30 b2 b3 x.s r a (.slice lA ln lc) w7) := Lib.hid (HS6.out.at_ (fun b hb => hg7.block b (by simp; rcases hb with rfl | rfl | rfl <;> omega) (fun e => HNL.out b (by rcases hb with rfl | rfl | rfl <;> simp) e.symm)))
    have HO7 : Hid (∀ k, (Value.slice lA' ln' lc').ownBlock = some k → (Value.slice lA ln lc).ownBlock = some k ∨ w.heap.size ≤ k) := Lib.hid (fun k hk => by
      rcases ho7 with h | h
      · exact .inl (h ▸ hk)
      · right
        rw [h] at hk
        injection hk with hk
        have := HF5.out.size
        simp at hk
        omega)
    clear hq7 hg7 ho7 hi0 hz0 hz1 hz2
    refine hK.out _ _ ?_ (fun hHeld => ?_)
    · exact HS7.out
    clear hK K
    try simp only [Act.put, List.setIfInBounds_toArray, List.set_cons_zero, List.set_cons_succ]
    refine takeH 8 (v := ?_) rfl (by kernel_rfl) (fun _ _ _ h => h) (by rfl) ?_ hHeld ?_
    rotate_left 1
    · intro w' hSw; obtain ⟨g1, g2, g3, g4⟩ := hSw; go_simp <;> with_reducible rfl
    try simp only [Act.put, List.setIfInBounds_toArray, List.set_cons_zero, List.set_cons_succ]
    refine takeH 9 (v := ?_) rfl (by kernel_rfl) (fun _ _ _ h => h) (by rfl) ?_ hHeld ?_
    rotate_left 1
    · intro w' hSw; obtain ⟨g1, g2, g3, g4⟩ := hSw; go_simp <;> with_reducible rfl
    try simp only [Act.put, List.setIfInBounds_toArray, List.set_cons_zero, List.set_cons_succ]
    have s4 : w7.cell? ⟨x.s, 4, none⟩ = some (.slice lA ln lc) := HS7.out.2.1
    have sl7 : x.s < w7.heap.size := Nat.lt_of_lt_of_le sl (Nat.le_trans HBL.out.size HG7.out.size)
    have sf7 : w7.frozen? ⟨x.s, 4, none⟩ = false := by
      have h1 := (HE5.out.up HBL.out).bS
      exact (h1.grown HG7.out (fun e => HNL.out x.s (by simp) e.symm)).frozen 4
    refine wpAnyH_done (by kernel_rfl) ?_ _
    refine lastQ_go (by rfl) ?_
    clear hHeld
    go_upto_region 31 with fail
    have hb6 := ((HFM5.out.up HBL.out).q6.grown HG7.out (fun e => HNL.out b6 (by simp) e.symm)).far (p := ⟨x.s, 4, none⟩) (by have := HNB.out b6 (by simp); have := HA0.out.bS.lt; show b6 ≠ x.s; omega) (.slice lA' ln' lc')
    have hbm := ((HQ65.out.below HBL.out HQ65.out.lt).grown HG7.out (fun e => HNL.out bm (by simp) e.symm)).far (p := ⟨x.s, 4, none⟩) (by have := HNG.out.1; show bm ≠ x.s; omega) (.slice lA' ln' lc')
    have HR : Hid (EvP x (f + 1) r a st (.slice lA ln lc) w (.returned (.bool (false))) (w7.setCell ⟨x.s, 4, none⟩ (.slice lA' ln' lc'))) := Lib.hid (by
      have hv := HV.out
      rw [HMM.out, HTT.out] at hv
      refine evP_up hv ((HE5.out.up HBL.out).added ok HQ7.out HG7.out) (Fr.set_ ?_ (.inl (.inr (.inl rfl)))) HO7.out
      exact (HF5.out.trans_below HBL.out).trans (Fr.grown (X := fun k => (Value.slice lA ln lc).ownBlock = some k) HG7.out (fun k hk => .inl hk)) (fun i hi => .inl (.inr (.inr hi))))
    clear s4 sl7 sf7 sf HS0 HS6 HS7 HLQ HNL HBL HQ7 HG7 HO7 HE5 HFM5 HQ65 HF5
    generalize w7.setCell ⟨x.s, 4, none⟩ (.slice lA' ln' lc') = wf at *
    have d0 := hbm.cell 0
    have d1 := hbm.cell 1
    have dl := hbm.lt
    have y2 := hb6.cell 2
    have y2l := hb6.lt
    clear hb6 hbm
    go_wp2_with fail
    go_ret
    exact HR.out

theorem eval_any (x : Ctx) (ok : CtxOk x) : ∀ f, EvAll x f
  | 0 => fun r a e st lv w _ hs hf _ => by have := hs.2.1; omega
  | f + 1 => eval_step x ok f (eval_any x ok f)
end Go.Proofs.Ytodnjjlhklbniaa
