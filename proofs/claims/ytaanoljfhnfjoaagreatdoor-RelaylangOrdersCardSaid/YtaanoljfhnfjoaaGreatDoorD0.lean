/- Programs of relays and what a relay does, in plain words. -/
namespace Go.Proofs.YtaanoljfhnfjoaaGreatDoor
set_option linter.unusedVariables false
set_option linter.unusedSimpArgs false

structure Nd where
  op : Int
  name : ByteArray
  value : Int
structure Iv where
  name : ByteArray
  value : Int
structure Rl where
  name : ByteArray
  expr : List Nd

def opn (op : Int) : Nat := if op = 3 ∨ op = 6 then 1 else if op = 4 ∨ op = 5 ∨ op = 7 then 2 else 0
def endGo : List Nd → Nat → Nat → Int
  | [], need, a => if need = 0 then (a : Int) else -1
  | x :: r, need, a => if need = 0 then (a : Int) else endGo r (need - 1 + opn x.op) (a + 1)
def endR (l : List Nd) (a : Nat) : Int := endGo (l.drop a) 1 a
theorem endGo_zero (l : List Nd) (a : Nat) : endGo l 0 a = a := by cases l <;> simp [endGo]
theorem endGo_succ (x : Nd) (r : List Nd) (n a : Nat) : endGo (x :: r) (n + 1) a = endGo r (n + opn x.op) (a + 1) := by simp [endGo]
theorem endGo_bd : ∀ (l : List Nd) (n a : Nat), endGo l n a = -1 ∨ ∃ k : Nat, k ≤ l.length ∧ endGo l n a = ((a + k : Nat) : Int) ∧ (0 < n → 0 < k)
  | [], n, a => by
    by_cases h : n = 0
    · subst h; exact .inr ⟨0, by simp, by simp [endGo], by omega⟩
    · exact .inl (by simp [endGo, h])
  | x :: r, n, a => by
    cases n with
    | zero => exact .inr ⟨0, by simp, by simp [endGo], by omega⟩
    | succ n =>
      rw [endGo_succ]
      rcases endGo_bd r (n + opn x.op) (a + 1) with h | ⟨k, h1, h2, _⟩
      · exact .inl h
      · exact .inr ⟨k + 1, by simp; omega, by rw [h2]; congr 1; omega, by omega⟩
theorem endGo_add : ∀ (l : List Nd) (m n a : Nat), endGo l (m + n) a ≠ -1 → ∃ k : Nat, k ≤ l.length ∧ endGo l m a = ((a + k : Nat) : Int) ∧ endGo (l.drop k) n (a + k) = endGo l (m + n) a
  | l, 0, n, a, _ => ⟨0, by omega, by rw [endGo_zero]; simp, by simp⟩
  | [], m + 1, n, a, h => by exact absurd (by simp [endGo]) h
  | x :: r, m + 1, n, a, h => by
    have e : m + 1 + n = (m + n) + 1 := by omega
    rw [e, endGo_succ] at h
    have e2 : m + n + opn x.op = (m + opn x.op) + n := by omega
    rw [e2] at h
    obtain ⟨k, h1, h2, h3⟩ := endGo_add r (m + opn x.op) n (a + 1) h
    refine ⟨k + 1, by simp; omega, by rw [endGo_succ, h2]; congr 1; omega, ?_⟩
    rw [e, endGo_succ, e2, ← h3, List.drop_succ_cons]
    congr 1
    omega
/-- an expression stands from a up to e -/
def Sub (l : List Nd) (a e : Nat) : Prop := e ≤ l.length ∧ a < e ∧ endR l a = (e : Int)
theorem Sub.get {l : List Nd} {a e : Nat} (h : Sub l a e) : ∃ x, l[a]? = some x := ⟨_, List.getElem?_eq_getElem (by have := h.1; have := h.2.1; omega)⟩
theorem sub_of {l : List Nd} {a : Nat} (h : endR l a ≠ -1) : ∃ e, Sub l a e := by
  unfold endR at h
  rcases endGo_bd (l.drop a) 1 a with h1 | ⟨k, h1, h2, h3⟩
  · exact absurd h1 h
  · rw [List.length_drop] at h1
    have := h3 (by omega)
    exact ⟨a + k, by omega, by omega, h2⟩
theorem endR_cons {l : List Nd} {a : Nat} {x : Nd} (hx : l[a]? = some x) : endR l a = endGo (l.drop (a + 1)) (opn x.op) (a + 1) := by
  obtain ⟨hl, he⟩ := List.getElem?_eq_some_iff.1 hx
  unfold endR
  rw [List.drop_eq_getElem_cons hl, he, endGo_succ, Nat.zero_add]
theorem Sub.leaf {l : List Nd} {a e : Nat} {x : Nd} (h : Sub l a e) (hx : l[a]? = some x) (h0 : opn x.op = 0) : e = a + 1 := by
  have := h.2.2
  rw [endR_cons hx, h0, endGo_zero] at this
  omega
theorem Sub.one {l : List Nd} {a e : Nat} {x : Nd} (h : Sub l a e) (hx : l[a]? = some x) (h0 : opn x.op = 1) : Sub l (a + 1) e := by
  have h1 := h.2.2
  rw [endR_cons hx, h0] at h1
  have h2 : endR l (a + 1) = (e : Int) := h1
  obtain ⟨e', h3⟩ := sub_of (l := l) (a := a + 1) (by rw [h2]; omega)
  have := h3.2.2
  rw [h2] at this
  have : e = e' := by omega
  subst this
  exact h3
theorem Sub.two {l : List Nd} {a e : Nat} {x : Nd} (h : Sub l a e) (hx : l[a]? = some x) (h0 : opn x.op = 2) : ∃ m, Sub l (a + 1) m ∧ Sub l m e := by
  have h1 := h.2.2
  rw [endR_cons hx, h0] at h1
  have hne : endGo (l.drop (a + 1)) (1 + 1) (a + 1) ≠ -1 := by rw [h1]; omega
  obtain ⟨k, k1, k2, k3⟩ := endGo_add (l.drop (a + 1)) 1 1 (a + 1) hne
  have hm : endR l (a + 1) = ((a + 1 + k : Nat) : Int) := k2
  obtain ⟨m, hm1⟩ := sub_of (l := l) (a := a + 1) (by rw [hm]; omega)
  have hme : m = a + 1 + k := by have := hm1.2.2; rw [hm] at this; omega
  rw [List.drop_drop] at k3
  have k4 : endR l (a + 1 + k) = (e : Int) := by unfold endR; rw [k3]; exact h1
  obtain ⟨e', he⟩ := sub_of (l := l) (a := a + 1 + k) (by rw [k4]; omega)
  have hee : e' = e := by have := he.2.2; rw [k4] at this; omega
  subst hme; subst hee
  exact ⟨_, hm1, he⟩
theorem Sub.fun_ {l : List Nd} {a e e' : Nat} (h : Sub l a e) (h' : Sub l a e') : e = e' := by have := h.2.2.symm.trans h'.2.2; omega
theorem wf_all : ∀ (l : List Nd) (n a : Nat), endGo l n a = ((a + l.length : Nat) : Int) → ∀ k, k < l.length → endGo (l.drop k) 1 (a + k) ≠ -1
  | [], n, a, h, k, hk => by simp at hk
  | x :: r, n, a, h, 0, hk => by
    have hn : n ≠ 0 := by
      rintro rfl
      rw [endGo_zero] at h
      simp at h
      omega
    obtain ⟨m, rfl⟩ : ∃ m, n = 1 + m := ⟨n - 1, by omega⟩
    obtain ⟨k, _, h2, _⟩ := endGo_add (x :: r) 1 m a (by rw [h]; omega)
    simp only [List.drop_zero, Nat.add_zero]
    rw [h2]
    omega
  | x :: r, n, a, h, k + 1, hk => by
    have hn : n ≠ 0 := by
      rintro rfl
      rw [endGo_zero] at h
      simp at h
      omega
    obtain ⟨m, rfl⟩ : ∃ m, n = m + 1 := ⟨n - 1, by omega⟩
    rw [endGo_succ] at h
    have := wf_all r (m + opn x.op) (a + 1) (by rw [h]; simp; omega) k (by simpa using hk)
    rw [List.drop_succ_cons]
    rw [show a + (k + 1) = a + 1 + k from by omega]
    exact this
theorem sub_at {l : List Nd} (h : endR l 0 = (l.length : Int)) {a : Nat} (ha : a < l.length) : ∃ e, Sub l a e := by
  refine sub_of ?_
  have := wf_all l 1 0 (by simpa [endR] using h) a ha
  simpa [endR] using this

def ruleGo : List Rl → ByteArray → Nat → Int
  | [], _, _ => -1
  | x :: r, s, k => if x.name = s then (k : Int) else ruleGo r s (k + 1)
def ruleR (p : List Rl) (s : ByteArray) : Int := ruleGo p s 0
theorem ruleGo_bd : ∀ (p : List Rl) (s : ByteArray) (k : Nat), ruleGo p s k = -1 ∧ (∀ x ∈ p, x.name ≠ s) ∨ ∃ (i : Nat) (x : Rl), ruleGo p s k = ((k + i : Nat) : Int) ∧ p[i]? = some x ∧ x.name = s
  | [], s, k => .inl ⟨rfl, by simp⟩
  | x :: r, s, k => by
    unfold ruleGo
    by_cases h : x.name = s
    · rw [if_pos h]; exact .inr ⟨0, x, by simp, by simp, h⟩
    · rw [if_neg h]
      rcases ruleGo_bd r s (k + 1) with ⟨h1, h2⟩ | ⟨i, y, h1, h2, h3⟩
      · exact .inl ⟨h1, fun y hy => by rcases List.mem_cons.1 hy with rfl | hy; exact h; exact h2 y hy⟩
      · exact .inr ⟨i + 1, y, by rw [h1]; congr 1; omega, by simpa using h2, h3⟩
theorem ruleR_bd (p : List Rl) (s : ByteArray) : ruleR p s = -1 ∧ (∀ x ∈ p, x.name ≠ s) ∨ ∃ (i : Nat) (x : Rl), ruleR p s = (i : Int) ∧ p[i]? = some x ∧ x.name = s := by
  rcases ruleGo_bd p s 0 with h | ⟨i, x, h1, h2⟩
  · exact .inl h
  · exact .inr ⟨i, x, by unfold ruleR; rw [h1]; simp, h2⟩

/-- what is given in a step -/
structure Rin where
  p : List Rl
  vals : List Bool
  flags : List ByteArray
  ins : List Iv
  ms : Int
/-- what delays and latches keep, and the delays whose operands come later -/
structure Rst where
  kept : Nat → Nat → Bool × Int
  later : List (Nat × Nat)
def updK (k : Nat → Nat → Bool × Int) (r a : Nat) (v : Bool × Int) : Nat → Nat → Bool × Int := fun r' a' => if r' = r ∧ a' = a then v else k r' a'
theorem updK_same (k : Nat → Nat → Bool × Int) (r a : Nat) (v : Bool × Int) : updK k r a v r a = v := by simp [updK]
def hasS (l : List ByteArray) (s : ByteArray) : Bool := l.any fun x => decide (s = x)
def flagB (v : Rin) (s : ByteArray) : Bool := if 0 ≤ ruleR v.p s then v.vals.getD (ruleR v.p s).toNat false else hasS v.flags s
def inputI : List Iv → ByteArray → Int
  | [], _ => 0
  | x :: r, s => if x.name = s then x.value else inputI r s
def expr (v : Rin) (r : Nat) : List Nd := match v.p[r]? with | some x => x.expr | none => []
def tick (m : Bool × Int) (ms : Int) : Int := if m.1 then min (m.2 + ms) 1000000 else 0
def evR (v : Rin) : Nat → Nat → Nat → Rst → Bool × Rst
  | 0, _, _, s => (false, s)
  | f + 1, r, a, s =>
    match (expr v r)[a]? with
    | none => (false, s)
    | some x =>
      if x.op = 0 then (flagB v x.name, s)
      else if x.op = 1 then (decide (inputI v.ins x.name > x.value), s)
      else if x.op = 2 then (decide (inputI v.ins x.name < x.value), s)
      else if x.op = 3 then
        let q := evR v f r (a + 1) s
        (!q.1, q.2)
      else if x.op = 4 then
        let q := evR v f r (a + 1) s
        let t := evR v f r (endR (expr v r) (a + 1)).toNat q.2
        (q.1 && t.1, t.2)
      else if x.op = 5 then
        let q := evR v f r (a + 1) s
        let t := evR v f r (endR (expr v r) (a + 1)).toNat q.2
        (q.1 || t.1, t.2)
      else if x.op = 7 then
        let q := evR v f r (a + 1) s
        let t := evR v f r (endR (expr v r) (a + 1)).toNat q.2
        let on := ((t.2.kept r a).1 || q.1) && !t.1
        (on, ⟨updK t.2.kept r a (on, 0), t.2.later⟩)
      else
        let m := s.kept r a
        (m.1 && decide (x.value ≤ tick m v.ms), ⟨updK s.kept r a (m.1, tick m v.ms), s.later ++ [(r, a)]⟩)

/-- how much a place that comes later can still cost -/
def wz (v : Rin) (q : Nat × Nat) : Nat := (endR (expr v q.1) (q.2 + 1)).toNat - (q.2 + 1)
def wt (v : Rin) : List (Nat × Nat) → Nat
  | [] => 0
  | q :: r => wz v q + wt v r
theorem wt_app (v : Rin) : ∀ (a b : List (Nat × Nat)), wt v (a ++ b) = wt v a + wt v b
  | [], b => by simp [wt]
  | q :: r, b => by simp [wt, wt_app v r b]; omega
/-- places of delays -/
def Dly (v : Rin) (q : Nat × Nat) : Prop := q.1 < v.p.length ∧ ∃ e, Sub (expr v q.1) (q.2 + 1) e
theorem Dly.pos {v : Rin} {q : Nat × Nat} (h : Dly v q) : 0 < wz v q := by
  obtain ⟨_, e, h⟩ := h
  unfold wz
  rw [h.2.2]
  have := h.2.1
  omega
def opOk (v : Rin) : Prop := ∀ r x, x ∈ expr v r → 0 ≤ x.op ∧ x.op ≤ 7
theorem Sub.exp {v : Rin} {r a e : Nat} (h : Sub (expr v r) a e) : r < v.p.length := by
  rcases Nat.lt_or_ge r v.p.length with hr | hr
  · exact hr
  · have h1 := h.1
    have h2 := h.2.1
    unfold expr at h1
    rw [List.getElem?_eq_none hr] at h1
    simp at h1
    omega
def KOk (k : Nat → Nat → Bool × Int) : Prop := ∀ r a, 0 ≤ (k r a).2 ∧ (k r a).2 ≤ 1000000
theorem KOk.upd {k : Nat → Nat → Bool × Int} (h : KOk k) (r a : Nat) {v : Bool × Int} (hv : 0 ≤ v.2 ∧ v.2 ≤ 1000000) : KOk (updK k r a v) := fun r' a' => by
  unfold updK
  split
  · exact hv
  · exact h r' a'
theorem tick_bd {m : Bool × Int} {ms : Int} (h : 0 ≤ m.2) (h0 : 0 ≤ ms) : 0 ≤ tick m ms ∧ tick m ms ≤ 1000000 := by
  unfold tick
  split <;> omega
/-- what an evaluation adds -/
theorem ev_more (v : Rin) (hop : opOk v) (hms : 0 ≤ v.ms) : ∀ (f r a e : Nat) (s : Rst), Sub (expr v r) a e → e - a ≤ f → KOk s.kept → ∃ more, (evR v f r a s).2.later = s.later ++ more ∧ (∀ q ∈ more, Dly v q) ∧ wt v more + 1 ≤ e - a ∧ KOk (evR v f r a s).2.kept
  | 0, r, a, e, s, h, hf, _ => by have := h.2.1; omega
  | f + 1, r, a, e, s, h, hf, hk => by
    obtain ⟨x, hx⟩ := h.get
    have ho := hop r x (List.mem_of_getElem? hx)
    have hlt := h.2.1
    unfold evR
    rw [hx]
    simp only
    split
    · exact ⟨[], by simp, by simp, by simp [wt]; omega, hk⟩
    split
    · exact ⟨[], by simp, by simp, by simp [wt]; omega, hk⟩
    split
    · exact ⟨[], by simp, by simp, by simp [wt]; omega, hk⟩
    split
    · rename_i h3
      have h1 := h.one hx (by rw [h3]; rfl)
      obtain ⟨more, m1, m2, m3, m4⟩ := ev_more v hop hms f r (a + 1) e s h1 (by omega) hk
      exact ⟨more, m1, m2, by omega, m4⟩
    split
    · rename_i h3
      obtain ⟨m, h1, h2⟩ := h.two hx (by rw [h3]; rfl)
      obtain ⟨q, q1, q2, q3, q4⟩ := ev_more v hop hms f r (a + 1) m s h1 (by have := h2.2.1; omega) hk
      obtain ⟨t, t1, t2, t3, t4⟩ := ev_more v hop hms f r m e _ h2 (by have := h1.2.1; omega) q4
      rw [h1.2.2, Int.toNat_natCast]
      refine ⟨q ++ t, by rw [t1, q1, List.append_assoc], fun y hy => (List.mem_append.1 hy).elim (q2 y) (t2 y), ?_, t4⟩
      rw [wt_app]; have := h1.2.1; have := h2.2.1; omega
    split
    · rename_i h3
      obtain ⟨m, h1, h2⟩ := h.two hx (by rw [h3]; rfl)
      obtain ⟨q, q1, q2, q3, q4⟩ := ev_more v hop hms f r (a + 1) m s h1 (by have := h2.2.1; omega) hk
      obtain ⟨t, t1, t2, t3, t4⟩ := ev_more v hop hms f r m e _ h2 (by have := h1.2.1; omega) q4
      rw [h1.2.2, Int.toNat_natCast]
      refine ⟨q ++ t, by rw [t1, q1, List.append_assoc], fun y hy => (List.mem_append.1 hy).elim (q2 y) (t2 y), ?_, t4⟩
      rw [wt_app]; have := h1.2.1; have := h2.2.1; omega
    split
    · rename_i h3
      obtain ⟨m, h1, h2⟩ := h.two hx (by rw [h3]; rfl)
      obtain ⟨q, q1, q2, q3, q4⟩ := ev_more v hop hms f r (a + 1) m s h1 (by have := h2.2.1; omega) hk
      obtain ⟨t, t1, t2, t3, t4⟩ := ev_more v hop hms f r m e _ h2 (by have := h1.2.1; omega) q4
      rw [h1.2.2, Int.toNat_natCast]
      refine ⟨q ++ t, by rw [t1, q1, List.append_assoc], fun y hy => (List.mem_append.1 hy).elim (q2 y) (t2 y), ?_, t4.upd r a (by simp)⟩
      rw [wt_app]; have := h1.2.1; have := h2.2.1; omega
    · have h6 : x.op = 6 := by omega
      have h1 := h.one hx (by rw [h6]; rfl)
      refine ⟨[(r, a)], rfl, ?_, ?_, hk.upd r a (tick_bd (hk r a).1 hms)⟩
      · intro q hq
        rw [List.mem_singleton.1 hq]
        exact ⟨h.exp, e, h1⟩
      · simp only [wt, wz]
        rw [h1.2.2]
        have := h1.2.1
        omega

/-- all rules, in their order -/
def mainGo (v : Rin) : List Nat → List Bool → Rst → List Bool × Rst
  | [], vals, s => (vals, s)
  | i :: r, vals, s =>
    let q := evR { v with vals := vals } 64 i 0 s
    mainGo v r (vals.set i q.1) q.2
/-- the delays whose operands come later -/
def laterGo (v : Rin) : Nat → Rst → Rst
  | 0, s => s
  | f + 1, s =>
    match s.later with
    | [] => s
    | q :: r =>
      let t := evR v 64 q.1 (q.2 + 1) ⟨s.kept, r⟩
      laterGo v f ⟨updK t.2.kept q.1 q.2 (t.1, (t.2.kept q.1 q.2).2), t.2.later⟩
def outGo : List Rl → List Bool → List ByteArray
  | [], _ => []
  | _ :: _, [] => []
  | x :: r, b :: t => if b then x.name :: outGo r t else outGo r t
structure Rres where
  vals : List Bool
  kept : Nat → Nat → Bool × Int
  out : List ByteArray
def stepR (v : Rin) (ord : List Nat) (kept : Nat → Nat → Bool × Int) : Rres :=
  let m := mainGo v ord v.vals ⟨kept, []⟩
  let w : Rin := { v with vals := m.1 }
  let t := laterGo w (wt w m.2.later) m.2
  ⟨m.1, t.kept, outGo v.p m.1⟩
def LOk (v : Rin) (l : List (Nat × Nat)) : Prop := ∀ q ∈ l, Dly v q
def exOk (v : Rin) : Prop := ∀ x ∈ v.p, x.expr.length ≤ 64 ∧ endR x.expr 0 = (x.expr.length : Int)
theorem expr_len {v : Rin} (h : exOk v) (r : Nat) : (expr v r).length ≤ 64 := by
  unfold expr
  split
  · rename_i x hx; exact (h x (List.mem_of_getElem? hx)).1
  · simp
/-- a round of what comes later -/
theorem later_step (v : Rin) (hop : opOk v) (hms : 0 ≤ v.ms) (hex : exOk v) {q : Nat × Nat} {r : List (Nat × Nat)} {k : Nat → Nat → Bool × Int} (hl : LOk v (q :: r)) (hk : KOk k) :
    LOk v (evR v 64 q.1 (q.2 + 1) ⟨k, r⟩).2.later ∧ KOk (evR v 64 q.1 (q.2 + 1) ⟨k, r⟩).2.kept ∧ wt v (evR v 64 q.1 (q.2 + 1) ⟨k, r⟩).2.later + 1 ≤ wt v (q :: r) := by
  obtain ⟨h1, e, h2⟩ := hl q (List.mem_cons_self ..)
  obtain ⟨more, m1, m2, m3, m4⟩ := ev_more v hop hms 64 q.1 (q.2 + 1) e ⟨k, r⟩ h2 (by have := expr_len hex q.1; have := h2.1; omega) hk
  rw [m1]
  refine ⟨fun y hy => (List.mem_append.1 hy).elim (fun h => hl y (List.mem_cons_of_mem _ h)) (m2 y), m4, ?_⟩
  rw [wt_app]
  have : wz v q = e - (q.2 + 1) := by unfold wz; rw [h2.2.2]; simp
  simp only [wt, this]
  have := h2.2.1
  omega
theorem laterGo_fuel (v : Rin) (hop : opOk v) (hms : 0 ≤ v.ms) (hex : exOk v) : ∀ (f : Nat) (s : Rst), LOk v s.later → KOk s.kept → wt v s.later ≤ f → laterGo v f s = laterGo v (wt v s.later) s
  | 0, s, _, _, h => by rw [Nat.le_zero.1 h]
  | f + 1, ⟨k, l⟩, hl, hk, h => by
    cases l with
    | nil => simp [laterGo, wt]
    | cons q r =>
      obtain ⟨s1, s2, s3⟩ := later_step v hop hms hex (q := q) (r := r) (k := k) hl hk
      have hpos := (hl q (List.mem_cons_self ..)).pos
      obtain ⟨g, hg⟩ : ∃ g, wt v (q :: r) = g + 1 := ⟨wt v (q :: r) - 1, by simp only [wt]; omega⟩
      simp only at h
      have hgf : g ≤ f := by omega
      rw [hg]
      simp only [laterGo]
      have hk2 : KOk (updK (evR v 64 q.1 (q.2 + 1) ⟨k, r⟩).2.kept q.1 q.2 ((evR v 64 q.1 (q.2 + 1) ⟨k, r⟩).1, ((evR v 64 q.1 (q.2 + 1) ⟨k, r⟩).2.kept q.1 q.2).2)) := s2.upd _ _ (s2 _ _)
      have h1 := laterGo_fuel v hop hms hex f ⟨updK (evR v 64 q.1 (q.2 + 1) ⟨k, r⟩).2.kept q.1 q.2 ((evR v 64 q.1 (q.2 + 1) ⟨k, r⟩).1, ((evR v 64 q.1 (q.2 + 1) ⟨k, r⟩).2.kept q.1 q.2).2), (evR v 64 q.1 (q.2 + 1) ⟨k, r⟩).2.later⟩ s1 hk2 (by simp only; omega)
      have h2 := laterGo_fuel v hop hms hex g ⟨updK (evR v 64 q.1 (q.2 + 1) ⟨k, r⟩).2.kept q.1 q.2 ((evR v 64 q.1 (q.2 + 1) ⟨k, r⟩).1, ((evR v 64 q.1 (q.2 + 1) ⟨k, r⟩).2.kept q.1 q.2).2), (evR v 64 q.1 (q.2 + 1) ⟨k, r⟩).2.later⟩ s1 hk2 (by simp only; omega)
      exact h1.trans h2.symm
  termination_by f => f
  decreasing_by all_goals omega
end Go.Proofs.YtaanoljfhnfjoaaGreatDoor
