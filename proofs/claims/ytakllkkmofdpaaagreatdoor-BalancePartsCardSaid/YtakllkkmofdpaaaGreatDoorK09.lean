/- Parts of the proof, put together into one file. -/
import Derived.Test.YtakllkkmofdpaaaGreatDoorK06
import Derived.Test.YtakllkkmofdpaaaGreatDoorK07
import Derived.Test.YtakllkkmofdpaaaGreatDoorK08
import Derived.Deep.DeepAppendWide
import Derived.Lib.Hide
import Derived.Lib.ItoaNum
/- A region whose order is drawn, with calls that make memory: what each operation yields is told by a condition that no other operation breaks; then one order serves all. -/
namespace Go.Proofs.YtakllkkmofdpaaaGreatDoor
open Go
set_option linter.unusedVariables false
set_option linter.unusedSimpArgs false
section
variable {P : Program} {Q : Exit → Act → World → Prop} {md : Region.Mode}
/-- what an operation yields, and the world that it leaves -/
def relyUpon (P : Program) (K : Value → World → Prop) : Result Next → Prop
  | .ok (.value v) w' => K v w'
  | .ok .skip w' => K undef w'
  | .ok (.enter f args) w' => Calls P f args w' fun e w'' => ∃ v, e = .returned v ∧ K v w''
  | _ => False
def relyOp (P : Program) (o : Oper) (a : Act) (w : World) (K : Value → World → Prop) : Prop := relyUpon P K ((execOp a.eval o).run P w)
theorem wp_of_rely {o : Oper} {a : Act} {w : World} {K : Value → World → Prop} {N : Act → World → Prop} (h : relyOp P o a w K) (hN : ∀ v w', K v w' → N (a.put o.dst v) w') : o.wp P a w N Q := by
  unfold relyOp at h
  unfold Oper.wp
  generalize (execOp a.eval o).run P w = r at *
  cases r with
  | ok n w' =>
    cases n <;> simp only [relyUpon] at h <;> simp only [Oper.upon]
    case value v => exact hN _ _ h
    case skip => exact hN _ _ h
    case enter f args => exact h.mono fun e w'' ⟨v, he, hk⟩ => by subst he; exact hN _ _ hk
  | halt x w' => simp only [relyUpon] at h
theorem rely_mono {o : Oper} {a : Act} {w : World} {K K' : Value → World → Prop} (h : relyOp P o a w K) (hK : ∀ v w', K v w' → K' v w') : relyOp P o a w K' := by
  unfold relyOp at *
  generalize (execOp a.eval o).run P w = r at *
  cases r with
  | ok n w' =>
    cases n <;> simp only [relyUpon] at h ⊢
    case value v => exact hK _ _ h
    case skip => exact hK _ _ h
    case enter f args => exact h.mono fun e w'' ⟨v, he, hk⟩ => ⟨v, he, hK _ _ hk⟩
  | halt x w' => simp only [relyUpon] at h
/-- an operation waits for another one -/
def waitsB (md : Region.Mode) (o : Oper) (k : Nat) : Bool := o.after.any fun e => Region.binds md e && e.on == k
theorem waits_spec {o : Oper} {k : Nat} (h : waitsB md o k = true) : ∃ e ∈ o.after, Region.binds md e = true ∧ e.on = k := by
  unfold waitsB at h
  obtain ⟨e, he, hb⟩ := Array.any_eq_true'.1 h
  simp only [Bool.and_eq_true, beq_iff_eq] at hb
  exact ⟨e, he, hb.1, hb.2⟩
/-- the values of the operations that have come up -/
abbrev Vals := Nat → Option Value
def upv (s : Vals) (i : Nat) (v : Value) : Vals := fun k => bif Nat.beq k i then some v else s k
theorem upv_self (s : Vals) (i : Nat) (v : Value) : upv s i v i = some v := by unfold upv; rw [Nat.beq_refl]; rfl
theorem upv_off {s : Vals} {i k : Nat} {v : Value} (h : k ≠ i) : upv s i v k = s k := by
  unfold upv
  have : Nat.beq k i = false := by
    cases h' : Nat.beq k i with
    | false => rfl
    | true => exact absurd (Nat.eq_of_beq_eq_true h') h
  rw [this]; rfl
/-- what is known of them -/
abbrev Known := Nat → Vals → World → Prop
def upd (K : Known) (i : Nat) (p : Vals → World → Prop) : Known := fun k => bif Nat.beq k i then p else K k
theorem upd_self (K : Known) (i : Nat) (p : Vals → World → Prop) : upd K i p i = p := by unfold upd; rw [Nat.beq_refl]; rfl
theorem upd_off {K : Known} {i k : Nat} {p : Vals → World → Prop} (h : k ≠ i) : upd K i p k = K k := by
  unfold upd
  have : Nat.beq k i = false := by
    cases h' : Nat.beq k i with
    | false => rfl
    | true => exact absurd (Nat.eq_of_beq_eq_true h') h
  rw [this]; rfl
theorem upd_comm {K : Known} {i j : Nat} {p q : Vals → World → Prop} (h : i ≠ j) : upd (upd K i p) j q = upd (upd K j q) i p := by
  funext k
  by_cases h1 : k = i
  · subst h1; rw [upd_off h, upd_self, upd_self]
  · by_cases h2 : k = j
    · subst h2; rw [upd_self, upd_off h1, upd_self]
    · rw [upd_off h2, upd_off h1, upd_off h1, upd_off h2]
/-- the operations in the order of the text: each yields a value of its condition in every world of C that has what the operation waits for -/
def relyL (P : Program) (md : Region.Mode) (ops : Array Oper) (C : Vals → World → Prop) (G : World → World → Prop) (Fin : Act → World → Prop) : List (Nat × (Value → World → Prop)) → Act → Known → Prop
  | [], a, K => ∀ s w, C s w → (∀ k, K k s w) → Fin a w
  | (i, p) :: rs, a, K => ∃ o, ops[i]? = some o ∧ (∀ s w, C s w → s i = none → (∀ k, waitsB md o k = true → K k s w) → relyOp P o a w fun v w' => p v w' ∧ C (upv s i v) w' ∧ G w w') ∧ ∀ v, relyL P md ops C G Fin rs (a.put o.dst v) (upd K i fun s w => s i = some v ∧ p v w)
/-- the list without one -/
def cutAt (j : Nat) : List (Nat × (Value → World → Prop)) → List (Nat × (Value → World → Prop))
  | [] => []
  | p :: r => bif Nat.beq p.1 j then r else p :: cutAt j r
theorem cutAt_self {p : Nat × (Value → World → Prop)} {r : List (Nat × (Value → World → Prop))} : cutAt p.1 (p :: r) = r := by unfold cutAt; rw [Nat.beq_refl]; rfl
theorem cutAt_off {p : Nat × (Value → World → Prop)} {j : Nat} {r : List (Nat × (Value → World → Prop))} (h : p.1 ≠ j) : cutAt j (p :: r) = p :: cutAt j r := by
  have : Nat.beq p.1 j = false := by
    cases h' : Nat.beq p.1 j with
    | false => rfl
    | true => exact absurd (Nat.eq_of_beq_eq_true h') h
  conv => lhs; unfold cutAt
  rw [this]; rfl
theorem cutAt_sub (j : Nat) : ∀ r : List (Nat × (Value → World → Prop)), (cutAt j r).Sublist r
  | [] => List.Sublist.refl _
  | p :: r => by
    by_cases h : p.1 = j
    · subst h; rw [cutAt_self]; exact List.sublist_cons_self ..
    · rw [cutAt_off h]; exact (cutAt_sub j r).cons_cons _
theorem cutAt_len {j : Nat} : ∀ {r : List (Nat × (Value → World → Prop))}, j ∈ r.map (·.1) → (cutAt j r).length + 1 = r.length
  | [], h => by cases h
  | p :: r, h => by
    by_cases hp : p.1 = j
    · subst hp; rw [cutAt_self]; rfl
    · rw [cutAt_off hp, List.length_cons, List.length_cons, cutAt_len ((List.mem_cons.1 h).resolve_left fun e => hp e.symm)]
theorem cutAt_mem {j k : Nat} (hk : k ≠ j) : ∀ {r : List (Nat × (Value → World → Prop))}, k ∈ r.map (·.1) → k ∈ (cutAt j r).map (·.1)
  | [], h => by cases h
  | p :: r, h => by
    by_cases hp : p.1 = j
    · subst hp; rw [cutAt_self]; exact (List.mem_cons.1 h).resolve_left hk
    · rw [cutAt_off hp, List.map_cons]
      rcases List.mem_cons.1 h with e | h
      · rw [e]; exact List.mem_cons_self ..
      · exact List.mem_cons_of_mem _ (cutAt_mem hk h)
theorem cutAt_not {j : Nat} : ∀ {r : List (Nat × (Value → World → Prop))}, (r.map (·.1)).Pairwise (· < ·) → j ∉ (cutAt j r).map (·.1)
  | [], _ => by simp [cutAt]
  | p :: r, h => by
    rw [List.map_cons, List.pairwise_cons] at h
    by_cases hp : p.1 = j
    · subst hp
      rw [cutAt_self]
      intro hm
      have := h.1 _ hm
      omega
    · rw [cutAt_off hp, List.map_cons]
      intro hm
      rcases List.mem_cons.1 hm with e | hm
      · exact hp e.symm
      · exact cutAt_not h.2 hm
/-- the operations that are left: unguarded, they wait for earlier ones alone, and two of them wait for each other or have nothing to do with each other -/
structure RelyOk (md : Region.Mode) (ops : Array Oper) (idx : List Nat) : Prop where
  one : ∀ j ∈ idx, ∃ o, ops[j]? = some o ∧ o.guard = none ∧ ∀ e ∈ o.after, Region.binds md e = true → e.on < j
  two : ∀ i ∈ idx, ∀ j ∈ idx, i < j → ∀ oi oj, ops[i]? = some oi → ops[j]? = some oj → waitsB md oj i = false → oi.apart ops oj = true
theorem RelyOk.sub {ops : Array Oper} {l m : List Nat} (h : RelyOk md ops l) (hs : ∀ x ∈ m, x ∈ l) : RelyOk md ops m := ⟨fun j hj => h.one j (hs j hj), fun i hi j hj => h.two i (hs i hi) j (hs j hj)⟩
variable {ops : Array Oper} {C : Vals → World → Prop} {G : World → World → Prop} {Fin : Act → World → Prop}
/-- one that waits for none of those before it may come up first -/
theorem rely_pick (hsel : ∀ (j : Nat) (o : Oper) cs b, ops[j]? = some o → o.op ≠ .select cs b) {j : Nat} {oj : Oper} {q : Value → World → Prop} (hoj : ops[j]? = some oj) : ∀ (rs : List (Nat × (Value → World → Prop))) (a : Act) (K : Known),
    (rs.map (·.1)).Pairwise (· < ·) → RelyOk md ops (rs.map (·.1)) → (j, q) ∈ rs → (∀ i ∈ rs.map (·.1), i < j → waitsB md oj i = false) → relyL P md ops C G Fin rs a K →
    (∀ s w, C s w → s j = none → (∀ k, waitsB md oj k = true → K k s w) → relyOp P oj a w fun v w' => q v w' ∧ C (upv s j v) w' ∧ G w w') ∧ ∀ v, relyL P md ops C G Fin (cutAt j rs) (a.put oj.dst v) (upd K j fun s w => s j = some v ∧ q v w)
  | [], a, K, _, _, hm, _, _ => by cases hm
  | (i, p) :: rs, a, K, hp, hok, hm, hw, h => by
    rw [List.map_cons, List.pairwise_cons] at hp
    obtain ⟨oi, hoi, h1, h2⟩ := h
    by_cases hij : i = j
    · subst hij
      have hpq : p = q := by
        rcases List.mem_cons.1 hm with e | hm
        · injection e with _ e; exact e.symm
        · have := hp.1 _ (List.mem_map.2 ⟨_, hm, rfl⟩)
          dsimp only at this
          omega
      subst hpq
      rw [hoi] at hoj; injection hoj with hoj; subst hoj
      rw [cutAt_self (p := (i, p))]
      exact ⟨h1, h2⟩
    · have hm' : (j, q) ∈ rs := (List.mem_cons.1 hm).resolve_left fun e => hij (by injection e with e _; exact e.symm)
      have hlt : i < j := hp.1 _ (List.mem_map.2 ⟨_, hm', rfl⟩)
      have hmi : i ∈ ((i, p) :: rs).map (·.1) := List.mem_cons_self ..
      have hmj : j ∈ ((i, p) :: rs).map (·.1) := List.mem_cons_of_mem _ (List.mem_map.2 ⟨_, hm', rfl⟩)
      have hwi := hw i hmi hlt
      have hap := Oper.apart_spec (hok.two i hmi j hmj hlt oi oj hoi hoj hwi)
      have hok' := hok.sub (m := rs.map (·.1)) fun x hx => List.mem_cons_of_mem _ hx
      have hw' : ∀ k ∈ rs.map (·.1), k < j → waitsB md oj k = false := fun k hk => hw k (List.mem_cons_of_mem _ hk)
      have ih := fun v => rely_pick hsel hoj rs (a.put oi.dst v) (upd K i fun s w => s i = some v ∧ p v w) hp.2 hok' hm' hw' (h2 v)
      refine ⟨fun s w hC hn hK => ?_, fun v => ?_⟩
      · have h3 := (ih undef).1 s w hC hn fun k hk => by
          have hki : k ≠ i := fun e => by rw [e, hwi] at hk; cases hk
          rw [upd_off hki]; exact hK k hk
        unfold relyOp at h3 ⊢
        rwa [execOp_put oj (fun cs b => hsel j oj cs b hoj) a oi.dst undef hap.1] at h3
      · rw [cutAt_off (p := (i, p)) hij]
        refine ⟨oi, hoi, fun s w hC hn hK => ?_, fun v' => ?_⟩
        · have hnj : waitsB md oi j = false := by
            cases hb : waitsB md oi j with
            | false => rfl
            | true =>
              obtain ⟨e, he, hb1, hb2⟩ := waits_spec hb
              obtain ⟨o', ho', _, hlt'⟩ := hok.one i hmi
              rw [hoi] at ho'; injection ho' with ho'; subst ho'
              have := hlt' e he hb1
              omega
          have h3 := h1 s w hC hn fun k hk => by
            have hkj : k ≠ j := fun e => by rw [e, hnj] at hk; cases hk
            have := hK k hk
            rwa [upd_off hkj] at this
          unfold relyOp at h3 ⊢
          rwa [execOp_put oi (fun cs b => hsel i oi cs b hoi) a oj.dst v hap.2.2]
        · have h3 := (ih v').2 v
          rw [Act.put_comm a v' v hap.2.1, upd_comm hij] at h3
          exact h3
theorem wpAny_rely {S : World → Prop} (hCS : ∀ s w, C s w → S w) (hsel : ∀ (j : Nat) (o : Oper) cs b, ops[j]? = some o → o.op ≠ .select cs b) : ∀ (fuel : Nat) (rs : List (Nat × (Value → World → Prop))) (listed : Array Bool) (a : Act) (w : World) (K : Known) (s : Vals),
    rs.length = fuel → listed.size = ops.size → (rs.map (·.1)).Pairwise (· < ·) → RelyOk md ops (rs.map (·.1)) → (∀ j, j < ops.size → listed.getD j true = false → j ∈ rs.map (·.1)) → (∀ j ∈ rs.map (·.1), listed.getD j true = false) →
    (∀ p ∈ rs, ∀ v w w', p.2 v w → G w w' → p.2 v w') → (∀ k s w j v w', j ∈ rs.map (·.1) → K k s w → G w w' → K k (upv s j v) w') → relyL P md ops C G (Q .normal) rs a K → C s w → (∀ k, K k s w) → (∀ j ∈ rs.map (·.1), s j = none) → wpAnyH P md ops Q S fuel listed a w := by
  intro fuel
  induction fuel with
  | zero =>
    intro rs listed a w K s hl hsz hp hok hcov hun hst hKs h hC hK hnn
    have : rs = [] := List.eq_nil_of_length_eq_zero hl
    subst this
    refine ⟨?_, h s w hC hK⟩
    rw [List.eq_nil_iff_forall_not_mem]
    intro j hj
    obtain ⟨h0, o, ho, _⟩ := mem_ready.1 hj
    have := hcov j (Array.getElem?_eq_some_iff.1 ho).1 h0
    cases this
  | succ fuel ih =>
    intro rs listed a w K s hl hsz hp hok hcov hun hst hKs h hC hK hnn
    refine ⟨fun h0 => ?_, fun j hj => ?_⟩
    · exfalso
      cases rs with
      | nil => simp at hl
      | cons p r =>
        have hmi : p.1 ∈ (p :: r).map (·.1) := List.mem_cons_self ..
        obtain ⟨o, ho, _, hlt⟩ := hok.one p.1 hmi
        have : p.1 ∈ Region.ready md ops listed := by
          refine mem_ready.2 ⟨hun _ hmi, o, ho, fun e he hb => ?_⟩
          have hel := hlt e he hb
          have hps := (Array.getElem?_eq_some_iff.1 ho).1
          cases hg : listed.getD e.on true with
          | true => rw [← getD_tf (by omega)]; exact hg
          | false =>
            have := hcov e.on (by omega) hg
            rw [List.map_cons] at this
            rcases List.mem_cons.1 this with e1 | hm
            · omega
            · rw [List.map_cons, List.pairwise_cons] at hp
              have := hp.1 _ hm
              omega
        rw [h0] at this
        cases this
    · obtain ⟨h0, oj, hoj, hall⟩ := mem_ready.1 hj
      have hjs := (Array.getElem?_eq_some_iff.1 hoj).1
      have hmj := hcov j hjs h0
      obtain ⟨⟨j', q⟩, hq, rfl⟩ := List.mem_map.1 hmj
      dsimp only at *
      have hwn : ∀ i ∈ rs.map (·.1), i < j' → waitsB md oj i = false := fun i hi _ => by
        cases hb : waitsB md oj i with
        | false => rfl
        | true =>
          obtain ⟨e, he, hb1, hb2⟩ := waits_spec hb
          have h3 := hall e he hb1
          have h4 := hun i hi
          have hil : i < listed.size := by
            rw [hb2] at h3
            exact getD_out h3
          rw [hb2, ← getD_tf hil, h4] at h3
          cases h3
      obtain ⟨h1, h2⟩ := rely_pick hsel hoj rs a K hp hok hq hwn h
      obtain ⟨o', ho', hg, _⟩ := hok.one j' hmj
      rw [hoj] at ho'; injection ho' with ho'; subst ho'
      unfold wpOp
      rw [hoj]
      have hwant : Region.wanted oj (yielded ops a.tmps) = true := by simp [Region.wanted, hg]
      simp only [hwant, if_true]
      have hsub := cutAt_sub j' rs
      have hsub' : ∀ x ∈ (cutAt j' rs).map (·.1), x ∈ rs.map (·.1) := fun x hx => (hsub.map (·.1)).subset hx
      refine .inl (wp_of_rely (h1 s w hC (hnn j' hmj) fun k _ => hK k) fun v w' ⟨g1, g2, g3⟩ => ⟨hCS _ _ g2, ?_⟩)
      refine ih (cutAt j' rs) _ _ w' (upd K j' fun s w => s j' = some v ∧ q v w) (upv s j' v) (by have := cutAt_len hmj; omega) (by simp [hsz]) (hp.sublist (hsub.map (·.1))) (hok.sub hsub') (fun k hk hu => ?_) (fun k hk => ?_) (fun p hp => hst p (hsub.subset hp)) (fun k s1 w1 j1 v1 w2 hj1 hk hG => ?_) (h2 v) g2 (fun k => ?_) fun k hk => ?_
      · by_cases hkj : j' = k
        · subst hkj
          simp [hsz, hjs] at hu
        · rw [getD_set_ne true hkj] at hu
          exact cutAt_mem (fun e => hkj e.symm) (hcov k hk hu)
      · have hkj : j' ≠ k := fun e => by subst e; exact cutAt_not hp hk
        rw [getD_set_ne true hkj]
        exact hun k (hsub' k hk)
      · by_cases hkj : k = j'
        · subst hkj
          rw [upd_self] at hk ⊢
          exact ⟨by rw [upv_off (fun e => by subst e; exact cutAt_not hp hj1)]; exact hk.1, hst _ hq v w1 w2 hk.2 hG⟩
        · rw [upd_off hkj] at hk ⊢; exact hKs k s1 w1 j1 v1 w2 (hsub' _ hj1) hk hG
      · by_cases hkj : k = j'
        · subst hkj; rw [upd_self]; exact ⟨upv_self .., g1⟩
        · rw [upd_off hkj]; exact hKs k s w j' v w' hmj (hK k) g3
      · rw [upv_off (fun e => by subst e; exact cutAt_not hp hk)]
        exact hnn k (hsub' k hk)
def relyB (md : Region.Mode) (ops : Array Oper) (listed : Array Bool) (idx : List Nat) : Bool :=
  Region.noSelect ops && (listed.size == ops.size) && ((List.range ops.size).filter (fun j => !listed.getD j true) == idx) &&
  idx.all (fun j => match ops[j]? with
    | some oj => oj.guard.isNone && oj.after.all (fun e => !Region.binds md e || decide (e.on < j)) && idx.all fun i => !decide (i < j) || match ops[i]? with
      | some oi => waitsB md oj i || oi.apart ops oj
      | none => false
    | none => false)
theorem relyB_spec {listed : Array Bool} {idx : List Nat} (h : relyB md ops listed idx = true) : (∀ (j : Nat) (o : Oper) cs b, ops[j]? = some o → o.op ≠ .select cs b) ∧ listed.size = ops.size ∧ (List.range ops.size).filter (fun j => !listed.getD j true) = idx ∧ RelyOk md ops idx := by
  unfold relyB at h
  simp only [Bool.and_eq_true, beq_iff_eq, List.all_eq_true] at h
  obtain ⟨⟨⟨h1, h2⟩, h3⟩, h4⟩ := h
  refine ⟨Region.noSelect_spec h1, h2, h3, fun j hj => ?_, fun i hi j hj hij oi oj hoi hoj hw => ?_⟩
  · have := h4 j hj
    cases ho : ops[j]? with
    | none => rw [ho] at this; cases this
    | some o =>
      rw [ho] at this
      simp only [Bool.and_eq_true, Option.isNone_iff_eq_none, Array.all_eq_true_iff_forall_mem, Bool.or_eq_true, Bool.not_eq_true', decide_eq_true_eq] at this
      exact ⟨o, rfl, this.1.1, fun e he hb => (this.1.2 e he).resolve_left (by simp [hb])⟩
  · have := h4 j hj
    rw [hoj] at this
    simp only [Bool.and_eq_true, List.all_eq_true] at this
    have h5 := this.2 i hi
    rw [hoi] at h5
    simp only [Bool.or_eq_true, Bool.not_eq_true', decide_eq_false_iff_not, hw, Bool.false_eq_true, false_or] at h5
    exact h5.resolve_left fun h => h hij
/-- the law, at any state of a drawn region -/
theorem relyH {S : World → Prop} {L : List Oper} {fuel : Nat} {listed : Array Bool} {a : Act} {w : World} (C : Vals → World → Prop) (G : World → World → Prop) (rs : List (Nat × (Value → World → Prop))) (hl : rs.length = fuel) (hB : relyB md L.toArray listed (rs.map (·.1)) = true)
    (hst : ∀ p ∈ rs, ∀ v w w', p.2 v w → G w w' → p.2 v w') (hCS : ∀ s w, C s w → S w) (hC : C (fun _ => none) w) (h : relyL P md L.toArray C G (Q .normal) rs a fun _ _ _ => True) : wpAnyH P md L.toArray Q S fuel listed a w := by
  obtain ⟨h1, h2, h3, h4⟩ := relyB_spec hB
  refine wpAny_rely hCS h1 fuel rs listed a w (fun _ _ _ => True) (fun _ => none) hl h2 ?_ h4 (fun j hj hu => ?_) (fun j hj => ?_) hst (fun _ _ _ _ _ _ _ _ _ => trivial) h hC (fun _ => trivial) fun _ _ => rfl
  · rw [← h3]; exact List.Pairwise.filter _ List.pairwise_lt_range
  · rw [← h3, List.mem_filter, List.mem_range]
    exact ⟨hj, by simp only [hu]; rfl⟩
  · rw [← h3, List.mem_filter] at hj
    simpa using hj.2
theorem relyL_cons {i : Nat} {p : Value → World → Prop} {rs : List (Nat × (Value → World → Prop))} {L : List Oper} {a : Act} {K : Known} {o : Oper} (ho : L[i]? = some o) (h1 : ∀ s w, C s w → s i = none → (∀ k, waitsB md o k = true → K k s w) → relyOp P o a w fun v w' => p v w' ∧ C (upv s i v) w' ∧ G w w')
    (h2 : ∀ v, relyL P md L.toArray C G Fin rs (a.put o.dst v) (upd K i fun s w => s i = some v ∧ p v w)) : relyL P md L.toArray C G Fin ((i, p) :: rs) a K := ⟨o, by rw [List.getElem?_toArray]; exact ho, h1, h2⟩
theorem relyL_nil {a : Act} {K : Known} (h : ∀ s w, C s w → (∀ k, K k s w) → Fin a w) : relyL P md ops C G Fin [] a K := h
/-- two new blocks -/
def Sep (i j : Nat) (s : Vals) (w : World) : Prop := (∀ v, s i = some v → ∃ g, v = .pointer (some ⟨g, 0, none⟩) ∧ g < w.heap.size) ∧ (∀ v, s j = some v → ∃ g, v = .pointer (some ⟨g, 0, none⟩) ∧ g < w.heap.size) ∧ ∀ g h, s i = some (.pointer (some ⟨g, 0, none⟩)) → s j = some (.pointer (some ⟨h, 0, none⟩)) → g ≠ h
theorem sep_start (i j : Nat) (w : World) : Sep i j (fun _ => none) w := ⟨fun v h => (by cases h), fun v h => (by cases h), fun g h h1 => (by cases h1)⟩
theorem Sep.other {i j k : Nat} {s : Vals} {w w' : World} (h : Sep i j s w) (hi : i ≠ k) (hj : j ≠ k) (hs : w.heap.size ≤ w'.heap.size) (v : Value) : Sep i j (upv s k v) w' := by
  unfold Sep
  rw [upv_off hi, upv_off hj]
  refine ⟨fun v hv => ?_, fun v hv => ?_, h.2.2⟩
  · obtain ⟨g, e, hl⟩ := h.1 v hv
    exact ⟨g, e, by omega⟩
  · obtain ⟨g, e, hl⟩ := h.2.1 v hv
    exact ⟨g, e, by omega⟩
theorem Sep.left {i j : Nat} {s : Vals} {w w' : World} (h : Sep i j s w) (hij : j ≠ i) (hs : w.heap.size < w'.heap.size) : Sep i j (upv s i (.pointer (some ⟨w.heap.size, 0, none⟩))) w' := by
  unfold Sep
  rw [upv_self, upv_off hij]
  refine ⟨fun v hv => ?_, fun v hv => ?_, fun g k h1 h2 => ?_⟩
  · injection hv with hv
    exact ⟨_, hv.symm, hs⟩
  · obtain ⟨g, e, hl⟩ := h.2.1 v hv
    exact ⟨g, e, by omega⟩
  · injection h1 with h1
    injection h1 with h1
    injection h1 with h1
    injection h1 with h1
    obtain ⟨g', e, hl⟩ := h.2.1 _ h2
    injection e with e
    injection e with e
    injection e with e
    omega
theorem Sep.right {i j : Nat} {s : Vals} {w w' : World} (h : Sep i j s w) (hij : i ≠ j) (hs : w.heap.size < w'.heap.size) : Sep i j (upv s j (.pointer (some ⟨w.heap.size, 0, none⟩))) w' := by
  unfold Sep
  rw [upv_self, upv_off hij]
  refine ⟨fun v hv => ?_, fun v hv => ?_, fun g k h1 h2 => ?_⟩
  · obtain ⟨g, e, hl⟩ := h.1 v hv
    exact ⟨g, e, by omega⟩
  · injection hv with hv
    exact ⟨_, hv.symm, hs⟩
  · injection h2 with h2
    injection h2 with h2
    injection h2 with h2
    injection h2 with h2
    obtain ⟨g', e, hl⟩ := h.1 _ h1
    injection e with e
    injection e with e
    injection e with e
    omega
/-- a region whose last two operations wait for all before them -/
theorem wp_region_last2 {S : World → Prop} {id : Nat} {a : Act} {w : World} {L : List Oper} (n : Nat) (oM oN : Oper) (hm : P.follows .mixedOrders = true) (hs : lastB .any L (n + 1) = true) (hs2 : lastB .any (L.take (n + 1)) n = true) (hM : L[n]? = some oM) (hN : L[n + 1]? = some oN) (hS : S w.drew)
    (h : S w.drew → wpAnyH P .any (L.take n).toArray (lastQ P (L.take (n + 1)).toArray oM (lastQ P L.toArray oN Q)) S n (Array.replicate n false) a w.drew) : (Code.region id L.toArray true).wp P Q a w := by
  obtain ⟨h1, h2, h3⟩ := lastB_spec hs
  have ht : (L.take (n + 1)).take n = L.take n := by rw [List.take_take, Nat.min_eq_left (by omega)]
  refine wp_region_any hm ?_
  rw [show L.toArray.size = n + 1 + 1 from by simpa using h1, Array.replicate_succ]
  have hcl : ∀ (F : List Oper) (k : Nat), ClosedL .any F (Array.replicate k false) := fun F k j o ho hj => by
    rcases Nat.lt_or_ge j k with h' | h' <;> simp [h'] at hj
  refine wpAny_last hs hN (n + 1) _ a _ (by simp) (hcl _ _) ?_
  rw [Array.replicate_succ]
  refine wpAny_last hs2 (by rw [List.getElem?_take_of_lt (by omega)]; exact hM) n _ a _ (by simp) (hcl _ _) ?_
  rw [ht]
  exact wpAny_of_held _ _ _ _ (h hS)
end
end Go.Proofs.YtakllkkmofdpaaaGreatDoor
/- Words copied; quotient and remainder of numbers that are not negative. -/
namespace Go.Proofs.YtakllkkmofdpaaaGreatDoor
open Go.ChangeShapes Go.WideShapes Go.ChangeAt Go.RowKit
set_option linter.unusedVariables false
set_option linter.unusedSimpArgs false
attribute [local go_sem ↓] execOp_call_val
attribute [local go_sem] callVal_func setCell_drewN alloc_drewN

/-- words, as a slice -/
def SlQ (l : List Nat) : Value → World → Prop := fun v w => ∃ A n c, v = .slice A n c ∧ RdW w w.heap.size A n l ∧ n ≤ c ∧ c ≤ 9223372036854775807
theorem SlQ.up {l : List Nat} {v : Value} {w w' : World} (h : SlQ l v w) (hb : Below w.heap.size w w') : SlQ l v w' := by
  obtain ⟨A, n, c, e, h1, h2⟩ := h
  exact ⟨A, n, c, e, h1.up hb, h2⟩
/-- an integer, as a value -/
def LgQ (z : Int) : Value → World → Prop := fun v w => ∃ b A n c, v = .agg #[.bool b, .slice A n c] ∧ LgIs w w.heap.size z b A n c
theorem LgQ.up {z : Int} {v : Value} {w w' : World} (h : LgQ z v w) (hb : Below w.heap.size w w') : LgQ z v w' := by
  obtain ⟨b, A, n, c, e, h1⟩ := h
  exact ⟨b, A, n, c, e, h1.up hb⟩
/-- a new block -/
def NewQ (B : Nat) (T : TypeId) (cs : Array Value) : Value → World → Prop := fun v w => ∃ g, v = .pointer (some ⟨g, 0, none⟩) ∧ B ≤ g ∧ Blk w g T cs
theorem NewQ.up {B : Nat} {T : TypeId} {cs : Array Value} {v : Value} {w w' : World} (h : NewQ B T cs v w) (hb : Below w.heap.size w w') : NewQ B T cs v w' := by
  obtain ⟨g, e, h1, h2⟩ := h
  exact ⟨g, e, h1, h2.below hb h2.lt⟩
theorem u32_one (l : List Nat) : ∀ u ∈ u32s l, u.oneCell' = true := by
  intro u hu
  unfold u32s at hu
  obtain ⟨x, _, rfl⟩ := List.mem_map.1 hu
  rfl
theorem rdW_own {w : World} {B n : Nat} {v : Value} {l : List Nat} (h : w.ownsRow B 171 1 v n (u32s l)) : ∃ A c, v = .slice A n c ∧ RdW w w.heap.size A n l ∧ n ≤ c ∧ c ≤ 9223372036854775807 := by
  rcases h.2 with ⟨h1, h2⟩ | ⟨g, cap, cur, h1, h2, h3, h4, h5, h6, h7⟩
  · refine ⟨none, 0, by rw [h2]; exact h1, ⟨h.1, fun h0 => by omega⟩, by omega, by omega⟩
  · refine ⟨_, _, h1, ⟨h.1, fun h0 => ⟨g, 0, rfl, ?_, fun j u hu => ?_⟩⟩, h4, by simpa [maxLen] using h5⟩
    · rcases Nat.lt_or_ge g w.heap.size with hlt | hge
      · exact hlt
      · rw [Array.getElem?_eq_none hge] at h3; cases h3
    · rw [Nat.zero_add, cell_of_row w g j cur 171 (0, 0) h3]
      rw [← h7] at hu
      have hjl := (List.getElem?_eq_some_iff.1 hu).1
      rw [List.getElem?_take_of_lt (by rw [List.length_take] at hjl; omega)] at hu
      simpa using hu
set_option maxRecDepth 20000 in
set_option maxHeartbeats 1000000 in
theorem cloneW (A : Option Addr) (n c : Nat) (l : List Nat) (w : World) (hr : RdW w w.heap.size A n l) (hn : n ≤ 35184372088833) :
    Calls Tryz.prog 144 #[.slice A n c] w fun e w' => Below w.heap.size w w' ∧ ∃ A' c', e = .returned (.slice A' n c') ∧ RdW w' w'.heap.size A' n l ∧ n ≤ c' ∧ c' ≤ 9223372036854775807 := by
  have q22 : ∀ (w : World) (a : Option Addr) (n c n' c' : Nat), (binOp .eql 89 (.slice a n c) (.slice none n' c')).run Tryz.prog w = .ok (.bool a.isNone) w := fun w a n c n' c' => Lib.run_eql_slice_nil w _ _ a n c n' c' Tryz.underlying89
  cases A with
  | none =>
    have h0 : n = 0 := by
      refine Nat.eq_zero_of_not_pos fun h => ?_
      obtain ⟨b, off, e, _⟩ := hr.form h
      cases e
    subst h0
    have hl : l = [] := List.eq_nil_of_length_eq_zero hr.len
    subst hl
    go_enter Tryz.func144, Tryz.ntmps144
    go_wp2_with fail
    go_ret
    exact ⟨Below.refl _ _, none, 0, rfl, rdW_nil _ _ _, Nat.le_refl _, by decide⟩
  | some ad =>
    obtain ⟨i0, hi0, hz0, hz1, hz2⟩ := info_parts info_u32
    have HL := Lib.hid hr.len
    have HC : Hid (∀ j u, (u32s l)[j]? = some u → w.cell? (ad.add j) = some u) := Lib.hid fun j u hu => by
      have hj := (List.getElem?_eq_some_iff.1 hu).1
      have hn0 : 0 < n := by have := hr.len; unfold u32s at hj; rw [List.length_map] at hj; omega
      obtain ⟨b, off, e, hlt, hc⟩ := hr.2 hn0
      injection e with e
      subst e
      have := hc j u hu
      unfold Addr.add
      by_cases hj0 : j = 0
      · subst hj0; simpa using this
      · simpa [hj0] using this
    have HN : Hid ((u32s l).length = n * 1) := Lib.hid hr.1
    clear hr
    go_enter Tryz.func144, Tryz.ntmps144
    go_wp2_with (at_builtin; refine wpList_append_own_wide _ rfl _ _ 89 rfl w.heap.size 171 i0 _ 1 4 Tryz.underlying89 hi0 hz0 hz1 hz2 rfl (by omega) _ _ _ rfl (own_nil _ _ _) ad n c (u32s l) rfl ?qc1 ?qc2 (u32_one l) ?qc4 ?qc5 ?qc6 ?_)
    case qc1 => exact HN.out
    case qc2 => exact fun j u hj => Lib.cell?_alloc_some _ (HC.out j u hj)
    case qc4 => simp only [maxLen]; omega
    case qc5 => omega
    case qc6 => simp
    intro v' w1 hown hgrow hnil
    go_wp2
    go_ret
    obtain ⟨A', c', e, h1, h2, h3⟩ := rdW_own hown
    subst e
    exact ⟨((Below.refl _ w).alloc (Nat.le_refl _) _).grown hgrow (by simp) (by intro k hk; simp [Value.ownBlock] at hk; omega), A', c', rfl, h1, h2, h3⟩
/-- two integers handed back -/
def DmP (y z : Int) (w : World) (e : Ending) (w' : World) : Prop := Below w.heap.size w w' ∧ ∃ b A n c b2 B m d, e = .returned (.tuple #[.agg #[.bool b, .slice A n c], .agg #[.bool b2, .slice B m d]]) ∧ LgIs w' w'.heap.size y b A n c ∧ LgIs w' w'.heap.size z b2 B m d
set_option maxRecDepth 100000 in
set_option maxHeartbeats 4000000 in
theorem dm_any (x y : Nat) (b1 : Bool) (A : Option Addr) (n c : Nat) (b2 : Bool) (B : Option Addr) (m d : Nat) (w : World) (h1 : LgIs w w.heap.size (x : Int) b1 A n c) (h2 : LgIs w w.heap.size (y : Int) b2 B m d) (hy0 : 0 < y) (hn : n ≤ 35184372088832) (hm : m ≤ 35184372088832) :
    Calls Tryz.prog 117 #[.agg #[.bool b1, .slice A n c], .agg #[.bool b2, .slice B m d]] w (DmP ((x / y : Nat) : Int) ((x % y : Nat) : Int) w) := by
  have hb1 : b1 = false := by rw [h1.eb]; simp
  subst hb1
  have HB0 : Hid (Below w.heap.size w ((((w.alloc (.cells #[.bool false, .slice A n c] 91)).alloc (.cells #[.bool b2, .slice B m d] 91)).alloc (.cells #[.bool false, .slice none 0 0] 91)).alloc (.cells #[.bool false, .slice none 0 0] 91))) := Lib.hid (((((Below.refl _ _).alloc (Nat.le_refl _) _).alloc (by simp) _).alloc (by simp; omega) _).alloc (by simp; omega) _)
  have HX1 : Hid (Blk ((((w.alloc (.cells #[.bool false, .slice A n c] 91)).alloc (.cells #[.bool b2, .slice B m d] 91)).alloc (.cells #[.bool false, .slice none 0 0] 91)).alloc (.cells #[.bool false, .slice none 0 0] 91)) w.heap.size 91 #[.bool false, .slice A n c]) := Lib.hid ((((Blk.new w _ _).alloc _).alloc _).alloc _)
  have HX2 : Hid (Blk ((((w.alloc (.cells #[.bool false, .slice A n c] 91)).alloc (.cells #[.bool b2, .slice B m d] 91)).alloc (.cells #[.bool false, .slice none 0 0] 91)).alloc (.cells #[.bool false, .slice none 0 0] 91)) (w.heap.size + 1) 91 #[.bool b2, .slice B m d]) := Lib.hid (((Blk.new_ (by simp)).alloc _).alloc _)
  have HR0 : Hid (Blk ((((w.alloc (.cells #[.bool false, .slice A n c] 91)).alloc (.cells #[.bool b2, .slice B m d] 91)).alloc (.cells #[.bool false, .slice none 0 0] 91)).alloc (.cells #[.bool false, .slice none 0 0] 91)) (w.heap.size + 1 + 1) 91 #[.bool false, .slice none 0 0]) := Lib.hid ((Blk.new_ (by simp)).alloc _)
  have HR1 : Hid (Blk ((((w.alloc (.cells #[.bool false, .slice A n c] 91)).alloc (.cells #[.bool b2, .slice B m d] 91)).alloc (.cells #[.bool false, .slice none 0 0] 91)).alloc (.cells #[.bool false, .slice none 0 0] 91)) (w.heap.size + 1 + 1 + 1) 91 #[.bool false, .slice none 0 0]) := Lib.hid (Blk.new_ (by simp))
  have HD1 : Hid (RdW ((((w.alloc (.cells #[.bool false, .slice A n c] 91)).alloc (.cells #[.bool b2, .slice B m d] 91)).alloc (.cells #[.bool false, .slice none 0 0] 91)).alloc (.cells #[.bool false, .slice none 0 0] 91)) (((((w.alloc (.cells #[.bool false, .slice A n c] 91)).alloc (.cells #[.bool b2, .slice B m d] 91)).alloc (.cells #[.bool false, .slice none 0 0] 91)).alloc (.cells #[.bool false, .slice none 0 0] 91))).heap.size A n (dig x)) := Lib.hid (h1.up HB0.out).rd
  have HD2 : Hid (RdW ((((w.alloc (.cells #[.bool false, .slice A n c] 91)).alloc (.cells #[.bool b2, .slice B m d] 91)).alloc (.cells #[.bool false, .slice none 0 0] 91)).alloc (.cells #[.bool false, .slice none 0 0] 91)) (((((w.alloc (.cells #[.bool false, .slice A n c] 91)).alloc (.cells #[.bool b2, .slice B m d] 91)).alloc (.cells #[.bool false, .slice none 0 0] 91)).alloc (.cells #[.bool false, .slice none 0 0] 91))).heap.size B m (dig y)) := Lib.hid (h2.up HB0.out).rd
  have hnc := h1.nc
  have hcm := h1.cm
  clear h1 h2
  go_enter Tryz.func117, Tryz.ntmps117
  go_wp2_with fail
  generalize ((((w.alloc (.cells #[.bool false, .slice A n c] 91)).alloc (.cells #[.bool b2, .slice B m d] 91)).alloc (.cells #[.bool false, .slice none 0 0] 91)).alloc (.cells #[.bool false, .slice none 0 0] 91)) = V at *
  have p0 := HX1.out.cell 0
  have p1 := HX1.out.cell 1
  have q1 := HX2.out.cell 1
  have pl := HX1.out.lt
  have ql := HX2.out.lt
  go_wp2_with fail
  refine (divW_any A n c B m d x y V HD1.out HD2.out hy0 hnc hcm hn hm).mono ?_
  rintro e W ⟨hb1, Aq, nq, cq, lq, Ar, nr, cr, lr, rfl, ⟨hq1, hq2, hq3, hq4, hq5⟩, ⟨hr1, hr2, hr3, hr4, hr5⟩, HQRn, HRRn⟩
  have HB1 := Lib.hid (HB0.out.trans (hb1.mono HB0.out.size))
  have HX1b := Lib.hid (HX1.out.below hb1 HX1.out.lt)
  have HX2b := Lib.hid (HX2.out.below hb1 HX2.out.lt)
  have HR0b := Lib.hid (HR0.out.below hb1 HR0.out.lt)
  have HR1b := Lib.hid (HR1.out.below hb1 HR1.out.lt)
  have HQR := Lib.hid hq1
  have HQD := Lib.hid hq2
  have HQV : Hid (sgn false (wv lq) = ((x / y : Nat) : Int)) := Lib.hid (by rw [hq3]; rfl)
  have HRR := Lib.hid hr1
  have HRD := Lib.hid hr2
  have HRV : Hid (sgn false (wv lr) = ((x % y : Nat) : Int)) := Lib.hid (by rw [hr3]; rfl)
  have hgs : w.heap.size ≤ V.heap.size := HB0.out.size
  clear hb1 hq1 hq2 hq3 hq4 hq5 hr1 hr2 hr3 hr4 hr5 p0 p1 q1 pl ql HX1 HX2 HR0 HR1 HD1 HD2
  have hgs1 : w.heap.size ≤ W.heap.size := HB1.out.size
  clear HB0 hgs
  have p0 := HX1b.out.cell 0
  have pl := HX1b.out.lt
  go_wp2_with fail
  refine wp_region_last2 (S := fun w' => Below W.heap.size W w') 12 _ _ (by kernel_rfl) (by kernel_rfl) (by kernel_rfl) rfl rfl (below_drew (Below.refl _ _)) (fun hHeld => ?_)
  simp only [List.take_succ_cons, List.take_zero]
  refine takeH 0 (v := ?_) rfl (by kernel_rfl) (fun _ _ _ h => h) (by rfl) ?_ hHeld ?_
  rotate_left 1
  · intro w' hSw; obtain ⟨hcc, -⟩ := bcellW hSw; go_simp <;> with_reducible rfl
  try simp only [Act.put, List.setIfInBounds_toArray, List.set_cons_zero, List.set_cons_succ]
  refine takeH 1 (v := ?_) rfl (by kernel_rfl) (fun _ _ _ h => h) (by rfl) ?_ hHeld ?_
  rotate_left 1
  · intro w' hSw; obtain ⟨hcc, -⟩ := bcellW hSw; go_simp <;> with_reducible rfl
  try simp only [Act.put, List.setIfInBounds_toArray, List.set_cons_zero, List.set_cons_succ]
  refine takeH 2 (v := ?_) rfl (by kernel_rfl) (fun _ _ _ h => h) (by rfl) ?_ hHeld ?_
  rotate_left 1
  · intro w' hSw; obtain ⟨hcc, -⟩ := bcellW hSw; go_simp <;> with_reducible rfl
  try simp only [Act.put, List.setIfInBounds_toArray, List.set_cons_zero, List.set_cons_succ]
  refine takeH 5 (v := ?_) rfl (by kernel_rfl) (fun _ _ _ h => h) (by rfl) ?_ hHeld ?_
  rotate_left 1
  · intro w' hSw; obtain ⟨hcc, -⟩ := bcellW hSw; go_simp <;> with_reducible rfl
  try simp only [Act.put, List.setIfInBounds_toArray, List.set_cons_zero, List.set_cons_succ]
  refine takeH 6 (v := ?_) rfl (by kernel_rfl) (fun _ _ _ h => h) (by rfl) ?_ hHeld ?_
  rotate_left 1
  · intro w' hSw; obtain ⟨hcc, -⟩ := bcellW hSw; go_simp <;> with_reducible rfl
  try simp only [Act.put, List.setIfInBounds_toArray, List.set_cons_zero, List.set_cons_succ]
  refine takeH 7 (v := ?_) rfl (by kernel_rfl) (fun _ _ _ h => h) (by rfl) ?_ hHeld ?_
  rotate_left 1
  · intro w' hSw; obtain ⟨hcc, -⟩ := bcellW hSw; go_simp <;> with_reducible rfl
  try simp only [Act.put, List.setIfInBounds_toArray, List.set_cons_zero, List.set_cons_succ]
  refine relyH (C := fun s w' => Below W.heap.size W w' ∧ Sep 10 11 s w') (G := fun w' w'' => Below w'.heap.size w' w'') [(3, SlQ lq), (4, LgQ ((x / y : Nat) : Int)), (8, SlQ lr), (9, LgQ ((x % y : Nat) : Int)), (10, NewQ W.heap.size 91 #[.bool false, .slice none 0 0]), (11, NewQ W.heap.size 91 #[.bool false, .slice none 0 0])] rfl (by kernel_rfl) (List.forall_mem_cons.2 ⟨fun _ _ _ h g => h.up g, List.forall_mem_cons.2 ⟨fun _ _ _ h g => h.up g, List.forall_mem_cons.2 ⟨fun _ _ _ h g => h.up g, List.forall_mem_cons.2 ⟨fun _ _ _ h g => h.up g, List.forall_mem_cons.2 ⟨fun _ _ _ h g => h.up g, List.forall_mem_cons.2 ⟨fun _ _ _ h g => h.up g, List.forall_mem_nil _⟩⟩⟩⟩⟩⟩) (fun _ _ h => h.1) ⟨hHeld, sep_start _ _ _⟩ ?_
  refine relyL_cons (i := 3) rfl (fun s w3 hC hn hK => ?_) (fun v3 => ?_)
  · unfold relyOp; go_simp; simp only [relyUpon]
    refine (cloneW Aq nq cq lq w3 (HQR.out.lift hC.1 hC.1.size) (by have := HQRn; omega)).mono ?_
    rintro e w4 ⟨hb4, hq4⟩
    obtain ⟨A4, c4, rfl, hr4, hn4, hc4⟩ := hq4
    exact ⟨_, rfl, ⟨A4, nq, c4, rfl, hr4, hn4, hc4⟩, ⟨hC.1.trans (hb4.mono hC.1.size), hC.2.other (by decide) (by decide) hb4.size _⟩, hb4⟩
  try simp only [Act.put, List.setIfInBounds_toArray, List.set_cons_zero, List.set_cons_succ]
  refine relyL_cons (i := 4) rfl (fun s w3 hC hn hK => ?_) (fun v4 => ?_)
  · have k3 : s 3 = some v3 ∧ SlQ lq v3 w3 := hK 3 (by kernel_rfl)
    obtain ⟨-, A3, n3, c3, rfl, hr3, hn3, hc3⟩ := k3
    unfold relyOp; go_simp; simp only [relyUpon]
    refine (norm_any false A3 n3 c3 lq w3 hr3 HQD.out hn3 hc3).mono ?_
    rw [HQV.out]
    rintro e w4 ⟨hb4, b4, A4, n4, c4, rfl, h4⟩
    exact ⟨_, rfl, ⟨b4, A4, n4, c4, rfl, h4⟩, ⟨hC.1.trans (hb4.mono hC.1.size), hC.2.other (by decide) (by decide) hb4.size _⟩, hb4⟩
  try simp only [Act.put, List.setIfInBounds_toArray, List.set_cons_zero, List.set_cons_succ]
  refine relyL_cons (i := 8) rfl (fun s w3 hC hn hK => ?_) (fun v8 => ?_)
  · unfold relyOp; go_simp; simp only [relyUpon]
    refine (cloneW Ar nr cr lr w3 (HRR.out.lift hC.1 hC.1.size) (by have := HRRn; omega)).mono ?_
    rintro e w4 ⟨hb4, hq4⟩
    obtain ⟨A4, c4, rfl, hr4, hn4, hc4⟩ := hq4
    exact ⟨_, rfl, ⟨A4, nr, c4, rfl, hr4, hn4, hc4⟩, ⟨hC.1.trans (hb4.mono hC.1.size), hC.2.other (by decide) (by decide) hb4.size _⟩, hb4⟩
  try simp only [Act.put, List.setIfInBounds_toArray, List.set_cons_zero, List.set_cons_succ]
  refine relyL_cons (i := 9) rfl (fun s w3 hC hn hK => ?_) (fun v9 => ?_)
  · have k8 : s 8 = some v8 ∧ SlQ lr v8 w3 := hK 8 (by kernel_rfl)
    obtain ⟨-, A3, n3, c3, rfl, hr3, hn3, hc3⟩ := k8
    unfold relyOp; go_simp; simp only [relyUpon]
    refine (norm_any false A3 n3 c3 lr w3 hr3 HRD.out hn3 hc3).mono ?_
    rw [HRV.out]
    rintro e w4 ⟨hb4, b4, A4, n4, c4, rfl, h4⟩
    exact ⟨_, rfl, ⟨b4, A4, n4, c4, rfl, h4⟩, ⟨hC.1.trans (hb4.mono hC.1.size), hC.2.other (by decide) (by decide) hb4.size _⟩, hb4⟩
  try simp only [Act.put, List.setIfInBounds_toArray, List.set_cons_zero, List.set_cons_succ]
  refine relyL_cons (i := 10) rfl (fun s w3 hC hn hK => ?_) (fun v10 => ?_)
  · unfold relyOp; go_simp; simp only [relyUpon]
    exact ⟨⟨_, rfl, hC.1.size, Blk.new _ _ _⟩, ⟨hC.1.alloc hC.1.size _, hC.2.left (by decide) (by simp)⟩, (Below.refl _ _).alloc (Nat.le_refl _) _⟩
  try simp only [Act.put, List.setIfInBounds_toArray, List.set_cons_zero, List.set_cons_succ]
  refine relyL_cons (i := 11) rfl (fun s w3 hC hn hK => ?_) (fun v11 => ?_)
  · unfold relyOp; go_simp; simp only [relyUpon]
    exact ⟨⟨_, rfl, hC.1.size, Blk.new _ _ _⟩, ⟨hC.1.alloc hC.1.size _, hC.2.right (by decide) (by simp)⟩, (Below.refl _ _).alloc (Nat.le_refl _) _⟩
  try simp only [Act.put, List.setIfInBounds_toArray, List.set_cons_zero, List.set_cons_succ]
  refine relyL_nil (fun s w5 hC hK => ?_)
  have k4 : s 4 = some v4 ∧ LgQ ((x / y : Nat) : Int) v4 w5 := hK 4
  have k9 : s 9 = some v9 ∧ LgQ ((x % y : Nat) : Int) v9 w5 := hK 9
  have k10 : s 10 = some v10 ∧ NewQ W.heap.size 91 #[.bool false, .slice none 0 0] v10 w5 := hK 10
  have k11 : s 11 = some v11 ∧ NewQ W.heap.size 91 #[.bool false, .slice none 0 0] v11 w5 := hK 11
  obtain ⟨-, bq, Aq2, nq2, cq2, rfl, hq2⟩ := k4
  obtain ⟨-, br, Ar2, nr2, cr2, rfl, hr2⟩ := k9
  obtain ⟨s10, g10, rfl, hg10, HG10⟩ := k10
  obtain ⟨s11, g11, rfl, hg11, HG11⟩ := k11
  have hne : g10 ≠ g11 := hC.2.2.2 g10 g11 s10 s11
  have HB5 := Lib.hid hC.1
  have HQ2 := Lib.hid hq2
  have HR2 := Lib.hid hr2
  have HG10 := Lib.hid HG10
  have HG11 := Lib.hid HG11
  clear hC hK s10 s11 hq2 hr2 hHeld
  have hbr : br = false := by rw [HR2.out.eb]; exact decide_eq_false (by omega)
  subst hbr
  have z0 := HG10.out.cell 0
  have z1 := HG10.out.cell 1
  have zf := HG10.out.frozen
  have zl := HG10.out.lt
  have HR0c := Lib.hid (HR0b.out.below HB5.out HR0b.out.lt)
  have HR1c := Lib.hid (HR1b.out.below HB5.out HR1b.out.lt)
  clear p0 pl
  have e0 : w.heap.size + 1 + 1 ≠ g10 := by have := HR0b.out.lt; omega
  have e1 : w.heap.size + 1 + 1 ≠ g11 := by have := HR0b.out.lt; omega
  have e2 : w.heap.size + 1 + 1 + 1 ≠ g10 := by have := HR1b.out.lt; omega
  have e3 : w.heap.size + 1 + 1 + 1 ≠ g11 := by have := HR1b.out.lt; omega
  have hr0l : w.heap.size + 1 + 1 < W.heap.size := HR0b.out.lt
  have hr1l : w.heap.size + 1 + 1 + 1 < W.heap.size := HR1b.out.lt
  refine lastQ_go (by rfl) ?_
  go_simp
  clear z0 z1 zf zl
  generalize hw6 : (w5.setCell ⟨g10, 0, none⟩ _).setCell ⟨g10, 1, none⟩ _ = w6
  have HG10b : Hid (Blk w6 g10 91 #[.bool bq, .slice Aq2 nq2 cq2]) := Lib.hid (by rw [← hw6]; exact blk_set2 HG10.out)
  have HG11b : Hid (Blk w6 g11 91 #[.bool false, .slice none 0 0]) := Lib.hid (by rw [← hw6]; exact (HG11.out.far hne.symm _).far hne.symm _)
  have HR0d : Hid (Blk w6 (w.heap.size + 1 + 1) 91 #[.bool false, .slice none 0 0]) := Lib.hid (by rw [← hw6]; exact (HR0c.out.far e0 _).far e0 _)
  have HR1d : Hid (Blk w6 (w.heap.size + 1 + 1 + 1) 91 #[.bool false, .slice none 0 0]) := Lib.hid (by rw [← hw6]; exact (HR1c.out.far e2 _).far e2 _)
  have HB6 : Hid (Below W.heap.size W w6) := Lib.hid (by rw [← hw6]; exact below_set2 HB5.out hg10)
  have HQ6 : Hid (LgIs w6 w6.heap.size ((x / y : Nat) : Int) bq Aq2 nq2 cq2) := Lib.hid (by rw [← hw6]; exact (HQ2.out.keep (HG10.out.cell 0) (by simp) _).keep ((HG10.out.set_ 0 (.bool bq)).cell 1) (by simp) _)
  have HR6 : Hid (LgIs w6 w6.heap.size ((x % y : Nat) : Int) false Ar2 nr2 cr2) := Lib.hid (by rw [← hw6]; exact (HR2.out.keep (HG10.out.cell 0) (by simp) _).keep ((HG10.out.set_ 0 (.bool bq)).cell 1) (by simp) _)
  clear hw6 HG10 HG11 HB5 HQ2 HR2 HR0c HR1c
  have z0 := HG11b.out.cell 0
  have z1 := HG11b.out.cell 1
  have zf := HG11b.out.frozen
  have zl := HG11b.out.lt
  refine lastQ_go (by rfl) ?_
  go_simp
  clear z0 z1 zf zl
  generalize hw7 : (w6.setCell ⟨g11, 0, none⟩ _).setCell ⟨g11, 1, none⟩ _ = w7
  have HG10c : Hid (Blk w7 g10 91 #[.bool bq, .slice Aq2 nq2 cq2]) := Lib.hid (by rw [← hw7]; exact (HG10b.out.far hne _).far hne _)
  have HG11c : Hid (Blk w7 g11 91 #[.bool false, .slice Ar2 nr2 cr2]) := Lib.hid (by rw [← hw7]; exact blk_set2 HG11b.out)
  have HR0e : Hid (Blk w7 (w.heap.size + 1 + 1) 91 #[.bool false, .slice none 0 0]) := Lib.hid (by rw [← hw7]; exact (HR0d.out.far e1 _).far e1 _)
  have HR1e : Hid (Blk w7 (w.heap.size + 1 + 1 + 1) 91 #[.bool false, .slice none 0 0]) := Lib.hid (by rw [← hw7]; exact (HR1d.out.far e3 _).far e3 _)
  have HB7 : Hid (Below W.heap.size W w7) := Lib.hid (by rw [← hw7]; exact below_set2 HB6.out hg11)
  have HQ7 : Hid (LgIs w7 w7.heap.size ((x / y : Nat) : Int) bq Aq2 nq2 cq2) := Lib.hid (by rw [← hw7]; exact (HQ6.out.keep (HG11b.out.cell 0) (by simp) _).keep ((HG11b.out.set_ 0 (.bool false)).cell 1) (by simp) _)
  have HR7 : Hid (LgIs w7 w7.heap.size ((x % y : Nat) : Int) false Ar2 nr2 cr2) := Lib.hid (by rw [← hw7]; exact (HR6.out.keep (HG11b.out.cell 0) (by simp) _).keep ((HG11b.out.set_ 0 (.bool false)).cell 1) (by simp) _)
  clear hw7 HG10b HG11b HB6 HQ6 HR6 HR0d HR1d
  have HBW : Hid (Below w.heap.size w w7) := Lib.hid (HB1.out.trans (HB7.out.mono HB1.out.size))
  have a0 := HG10c.out.cell 0
  have a1 := HG10c.out.cell 1
  have al := HG10c.out.lt
  have b0 := HG11c.out.cell 0
  have b1 := HG11c.out.cell 1
  have bl := HG11c.out.lt
  have c0 := HR0e.out.cell 0
  have c1 := HR0e.out.cell 1
  have cf := HR0e.out.frozen
  have cl := HR0e.out.lt
  have d0 := HR1e.out.cell 0
  have d1 := HR1e.out.cell 1
  have df := HR1e.out.frozen
  have dl := HR1e.out.lt
  go_wp2_with fail
  refine wp_region_last (S := fun w' => w'.cell? ⟨g10, 0, none⟩ = some (.bool bq) ∧ w'.cell? ⟨g10, 1, none⟩ = some (.slice Aq2 nq2 cq2) ∧ w'.cell? ⟨g11, 0, none⟩ = some (.bool false) ∧ w'.cell? ⟨g11, 1, none⟩ = some (.slice Ar2 nr2 cr2)) 3 _ (by kernel_rfl) (by kernel_rfl) rfl ⟨a0, a1, b0, b1⟩ (fun hHeld => ?_)
  simp only [List.take_succ_cons, List.take_zero]
  refine takeH 0 (v := ?_) rfl (by kernel_rfl) (fun _ _ _ h => h) (by rfl) ?_ hHeld ?_
  rotate_left 1
  · intro w' hSw; obtain ⟨s0, s1, s2, s3⟩ := hSw; go_simp <;> with_reducible rfl
  try simp only [Act.put, List.setIfInBounds_toArray, List.set_cons_zero, List.set_cons_succ]
  refine takeH 1 (v := ?_) rfl (by kernel_rfl) (fun _ _ _ h => h) (by rfl) ?_ hHeld ?_
  rotate_left 1
  · intro w' hSw; obtain ⟨s0, s1, s2, s3⟩ := hSw; go_simp <;> with_reducible rfl
  try simp only [Act.put, List.setIfInBounds_toArray, List.set_cons_zero, List.set_cons_succ]
  clear a0 a1 b0 b1 d0 d1 df dl al bl
  have e4 : g10 ≠ w.heap.size + 1 + 1 := e0.symm
  have e5 : g11 ≠ w.heap.size + 1 + 1 := e1.symm
  have e6 : w.heap.size + 1 + 1 + 1 ≠ w.heap.size + 1 + 1 := by omega
  have hgs2 : w.heap.size ≤ w.heap.size + 1 + 1 := by omega
  have hgs3 : w.heap.size ≤ w.heap.size + 1 + 1 + 1 := by omega
  refine stepH 2 (by kernel_rfl) rfl (fun K hK => ?_)
  go_simp
  clear c0 c1 cf cl
  generalize hw8 : (w7.setCell ⟨w.heap.size + 1 + 1, 0, none⟩ _).setCell ⟨w.heap.size + 1 + 1, 1, none⟩ _ = w8
  have HG10d : Hid (Blk w8 g10 91 #[.bool bq, .slice Aq2 nq2 cq2]) := Lib.hid (by rw [← hw8]; exact (HG10c.out.far e4 _).far e4 _)
  have HG11d : Hid (Blk w8 g11 91 #[.bool false, .slice Ar2 nr2 cr2]) := Lib.hid (by rw [← hw8]; exact (HG11c.out.far e5 _).far e5 _)
  have HR0f : Hid (Blk w8 (w.heap.size + 1 + 1) 91 #[.bool bq, .slice Aq2 nq2 cq2]) := Lib.hid (by rw [← hw8]; exact blk_set2 HR0e.out)
  have HR1f : Hid (Blk w8 (w.heap.size + 1 + 1 + 1) 91 #[.bool false, .slice none 0 0]) := Lib.hid (by rw [← hw8]; exact (HR1e.out.far e6 _).far e6 _)
  have HB8 : Hid (Below w.heap.size w w8) := Lib.hid (by rw [← hw8]; exact below_set2 HBW.out hgs2)
  have HQ8 : Hid (LgIs w8 w8.heap.size ((x / y : Nat) : Int) bq Aq2 nq2 cq2) := Lib.hid (by rw [← hw8]; exact (HQ7.out.keep (HR0e.out.cell 0) (by simp) _).keep ((HR0e.out.set_ 0 (.bool bq)).cell 1) (by simp) _)
  have HR8 : Hid (LgIs w8 w8.heap.size ((x % y : Nat) : Int) false Ar2 nr2 cr2) := Lib.hid (by rw [← hw8]; exact (HR7.out.keep (HR0e.out.cell 0) (by simp) _).keep ((HR0e.out.set_ 0 (.bool bq)).cell 1) (by simp) _)
  clear hw8
  refine hK.out _ _ ?_ (fun hHeld => ?_)
  · exact ⟨HG10d.out.cell 0, HG10d.out.cell 1, HG11d.out.cell 0, HG11d.out.cell 1⟩
  clear hK K
  try simp only [Act.put, List.setIfInBounds_toArray, List.set_cons_zero, List.set_cons_succ]
  refine wpAnyH_done (by kernel_rfl) ?_ _
  refine lastQ_go (by rfl) ?_
  clear HBW HG10c HG11c HR0e HR1e HQ7 HR7
  have d0 := HR1f.out.cell 0
  have d1 := HR1f.out.cell 1
  have df := HR1f.out.frozen
  have dl := HR1f.out.lt
  go_wp2_with fail
  clear d0 d1 df dl
  generalize hw9 : (w8.setCell ⟨w.heap.size + 1 + 1 + 1, 0, none⟩ _).setCell ⟨w.heap.size + 1 + 1 + 1, 1, none⟩ _ = w9
  have HR0g : Hid (Blk w9 (w.heap.size + 1 + 1) 91 #[.bool bq, .slice Aq2 nq2 cq2]) := Lib.hid (by rw [← hw9]; exact (HR0f.out.far e6.symm _).far e6.symm _)
  have HR1g : Hid (Blk w9 (w.heap.size + 1 + 1 + 1) 91 #[.bool false, .slice Ar2 nr2 cr2]) := Lib.hid (by rw [← hw9]; exact blk_set2 HR1f.out)
  have HB9 : Hid (Below w.heap.size w w9) := Lib.hid (by rw [← hw9]; exact below_set2 HB8.out hgs3)
  have HQ9 : Hid (LgIs w9 w9.heap.size ((x / y : Nat) : Int) bq Aq2 nq2 cq2) := Lib.hid (by rw [← hw9]; exact (HQ8.out.keep (HR1f.out.cell 0) (by simp) _).keep ((HR1f.out.set_ 0 (.bool false)).cell 1) (by simp) _)
  have HR9 : Hid (LgIs w9 w9.heap.size ((x % y : Nat) : Int) false Ar2 nr2 cr2) := Lib.hid (by rw [← hw9]; exact (HR8.out.keep (HR1f.out.cell 0) (by simp) _).keep ((HR1f.out.set_ 0 (.bool false)).cell 1) (by simp) _)
  clear hw9
  have q0 := HR0g.out.cell 0
  have q1 := HR0g.out.cell 1
  have q2 := HR1g.out.cell 0
  have q3 := HR1g.out.cell 1
  exact bodyPost_ret (v := .tuple #[.agg #[.bool bq, .slice Aq2 nq2 cq2], .agg #[.bool false, .slice Ar2 nr2 cr2]]) (by simp [results, Tryz.results117, go_sem, q0, q1, q2, q3]) rfl ⟨below_drew HB9.out, bq, Aq2, nq2, cq2, false, Ar2, nr2, cr2, rfl, HQ9.out.up (below_drew (Below.refl _ _)), HR9.out.up (below_drew (Below.refl _ _))⟩

end Go.Proofs.YtakllkkmofdpaaaGreatDoor
/- Decimal numerals of any size: made from groups of nine digits, and read back. -/
namespace Go.Proofs.YtakllkkmofdpaaaGreatDoor
set_option linter.unusedVariables false
set_option linter.unusedSimpArgs false
open Go

/-- the lowest k digits -/
def fixd : Nat → Nat → List UInt8
  | 0, _ => []
  | k + 1, r => fixd k (r / 10) ++ [UInt8.ofNat (48 + r % 10)]
theorem fixd_len : ∀ (k r : Nat), (fixd k r).length = k
  | 0, _ => rfl
  | k + 1, r => by rw [fixd, List.length_append, fixd_len k]; rfl
theorem dec_small {u : Nat} (h : u < 10) : Lib.decDigits u = [UInt8.ofNat (48 + u)] := by rw [Lib.decDigits, dif_pos h]
theorem dec_big {u : Nat} (h : ¬ u < 10) : Lib.decDigits u = Lib.decDigits (u / 10) ++ [UInt8.ofNat (48 + u % 10)] := by rw [Lib.decDigits, dif_neg h]
theorem dec_split : ∀ (k q r : Nat), 0 < q → r < 10 ^ k → Lib.decDigits (q * 10 ^ k + r) = Lib.decDigits q ++ fixd k r
  | 0, q, r, _, hr => by
    rw [Nat.pow_zero] at hr ⊢
    rw [fixd, List.append_nil, Nat.mul_one, show q + r = q from by omega]
  | k + 1, q, r, hq, hr => by
    have h1 : 1 ≤ 10 ^ k := Nat.one_le_pow _ _ (by decide)
    have h2 : 10 ^ (k + 1) = 10 ^ k * 10 := Nat.pow_succ ..
    have h3 : q * 10 ^ (k + 1) = q * 10 ^ k * 10 := by rw [h2, Nat.mul_assoc]
    have h4 : 1 * 10 ^ k ≤ q * 10 ^ k := Nat.mul_le_mul_right _ hq
    rw [dec_big (by omega), fixd, show (q * 10 ^ (k + 1) + r) / 10 = q * 10 ^ k + r / 10 from by omega, show (q * 10 ^ (k + 1) + r) % 10 = r % 10 from by omega,
      dec_split k q (r / 10) hq (by rw [h2] at hr; omega), List.append_assoc]
theorem fixd_zero : ∀ k : Nat, fixd k 0 = List.replicate k 48
  | 0 => rfl
  | k + 1 => by
    rw [fixd, Nat.zero_div, fixd_zero k, List.replicate_succ']; rfl
theorem dec_len_pos (u : Nat) : 1 ≤ (Lib.decDigits u).length := by
  by_cases h : u < 10
  · rw [dec_small h]; exact Nat.le_refl _
  · rw [dec_big h, List.length_append]; simp
theorem fixd_pad : ∀ (k r : Nat), 1 ≤ k → r < 10 ^ k → fixd k r = List.replicate (k - (Lib.decDigits r).length) 48 ++ Lib.decDigits r
  | 0, _, h, _ => absurd h (by decide)
  | k + 1, r, _, hr => by
    by_cases h : r < 10
    · rw [dec_small h, fixd, Nat.div_eq_of_lt h, fixd_zero, Nat.mod_eq_of_lt h]
      rfl
    · have hk : 1 ≤ k := by
        rcases Nat.eq_zero_or_pos k with rfl | h'
        · simp at hr; omega
        · exact h'
      rw [dec_big h, fixd, fixd_pad k (r / 10) hk (by rw [Nat.pow_succ] at hr; omega), List.append_assoc, List.length_append, List.length_singleton, Nat.add_sub_add_right]
theorem dec_len9 {k r : Nat} (hk : 1 ≤ k) (hr : r < 10 ^ k) : (Lib.decDigits r).length ≤ k := by
  have h := congrArg List.length (fixd_pad k r hk hr)
  rw [fixd_len, List.length_append] at h
  omega

/-- the value of digits -/
def dvg (acc : Nat) (l : List UInt8) : Nat := l.foldl (fun a c => a * 10 + (c.toNat - 48)) acc
def dv (l : List UInt8) : Nat := dvg 0 l
theorem dvg_acc : ∀ (l : List UInt8) (acc : Nat), dvg acc l = acc * 10 ^ l.length + dv l
  | [], acc => by simp [dvg, dv]
  | c :: r, acc => by
    have h1 := dvg_acc r (acc * 10 + (c.toNat - 48))
    have h2 := dvg_acc r (0 * 10 + (c.toNat - 48))
    unfold dv dvg at *
    rw [List.foldl_cons, List.foldl_cons, h1, h2, List.length_cons, Nat.pow_succ]
    grind
theorem dv_append (a b : List UInt8) : dv (a ++ b) = dv a * 10 ^ b.length + dv b := by
  have h : dv (a ++ b) = dvg (dv a) b := by unfold dv dvg; rw [List.foldl_append]
  rw [h, dvg_acc]
theorem dg_val {d : Nat} (h : d < 10) : (UInt8.ofNat (48 + d)).toNat - 48 = d := by
  have : (UInt8.ofNat (48 + d)).toNat = 48 + d := by rw [UInt8.toNat_ofNat']; omega
  omega
theorem dv_one {d : Nat} (h : d < 10) : dv [UInt8.ofNat (48 + d)] = d := by
  show 0 * 10 + ((UInt8.ofNat (48 + d)).toNat - 48) = d
  rw [dg_val h]; omega
theorem dv_dec (u : Nat) : dv (Lib.decDigits u) = u := by
  induction u using Nat.strongRecOn with
  | _ u ih =>
    by_cases h : u < 10
    · rw [dec_small h, dv_one h]
    · rw [dec_big h, dv_append, ih (u / 10) (by omega), dv_one (by omega)]
      simp; omega
def IsDg (c : UInt8) : Prop := 48 ≤ c.toNat ∧ c.toNat ≤ 57
theorem dec_dg (u : Nat) : ∀ c ∈ Lib.decDigits u, IsDg c := by
  induction u using Nat.strongRecOn with
  | _ u ih =>
    intro c hc
    have key : ∀ d, d < 10 → IsDg (UInt8.ofNat (48 + d)) := fun d hd => by
      have : (UInt8.ofNat (48 + d)).toNat = 48 + d := by rw [UInt8.toNat_ofNat']; omega
      exact ⟨by omega, by omega⟩
    by_cases h : u < 10
    · rw [dec_small h, List.mem_singleton] at hc
      subst hc; exact key u h
    · rw [dec_big h, List.mem_append, List.mem_singleton] at hc
      rcases hc with hc | rfl
      · exact ih (u / 10) (by omega) c hc
      · exact key _ (by omega)
/-- digits without a zero ahead -/
def Canon (l : List UInt8) : Prop := l ≠ [] ∧ (∀ c ∈ l, IsDg c) ∧ (1 < l.length → l.head? ≠ some 48)
theorem dec_head (u : Nat) : 0 < u → (Lib.decDigits u).head? ≠ some 48 := by
  induction u using Nat.strongRecOn with
  | _ u ih =>
    intro hu
    by_cases h : u < 10
    · rw [dec_small h]
      intro he
      have he : UInt8.ofNat (48 + u) = 48 := Option.some.inj he
      have : (UInt8.ofNat (48 + u)).toNat = 48 + u := by rw [UInt8.toNat_ofNat']; omega
      rw [he] at this
      have h48 : (48 : UInt8).toNat = 48 := rfl
      omega
    · rw [dec_big h, List.head?_append]
      have h1 := ih (u / 10) (by omega) (by omega)
      have h2 := dec_len_pos (u / 10)
      cases hd : Lib.decDigits (u / 10) with
      | nil => rw [hd] at h2; simp at h2
      | cons c t => rw [hd] at h1; simpa using h1
theorem canon_dec (u : Nat) : Canon (Lib.decDigits u) := by
  refine ⟨fun h => ?_, dec_dg u, fun h => ?_⟩
  · have := dec_len_pos u
    rw [h] at this
    simp at this
  · by_cases h0 : u = 0
    · subst h0
      rw [dec_small (by decide)] at h
      simp at h
    · exact dec_head u (by omega)
theorem isDg_of {c : UInt8} (h : IsDg c) : ∃ d, d < 10 ∧ c = UInt8.ofNat (48 + d) := by
  refine ⟨c.toNat - 48, by have := h.2; omega, ?_⟩
  apply UInt8.toNat_inj.1
  rw [UInt8.toNat_ofNat']
  have := h.1
  have := h.2
  omega
theorem dv_pos : ∀ {l : List UInt8}, l ≠ [] → (∀ c ∈ l, IsDg c) → l.head? ≠ some 48 → 0 < dv l
  | [], h, _, _ => absurd rfl h
  | c :: r, _, hd, hh => by
    obtain ⟨d, hd1, rfl⟩ := isDg_of (hd c (by simp))
    have h1 := dvg_acc r (0 * 10 + ((UInt8.ofNat (48 + d)).toNat - 48))
    have h2 : dv (UInt8.ofNat (48 + d) :: r) = dvg (0 * 10 + ((UInt8.ofNat (48 + d)).toNat - 48)) r := rfl
    rw [h2, h1, dg_val hd1]
    have hd0 : d ≠ 0 := fun e => by subst e; exact hh rfl
    have : 1 * 10 ^ r.length ≤ (0 * 10 + d) * 10 ^ r.length := Nat.mul_le_mul_right _ (by omega)
    have : 1 ≤ 10 ^ r.length := Nat.one_le_pow _ _ (by decide)
    omega
theorem dec_canon {l : List UInt8} (h : Canon l) : Lib.decDigits (dv l) = l := by
  obtain ⟨n, hn⟩ : ∃ n, l.length = n := ⟨_, rfl⟩
  induction n generalizing l with
  | zero => exact absurd (List.eq_nil_of_length_eq_zero hn) h.1
  | succ n ih =>
    obtain ⟨a, c, rfl⟩ : ∃ a c, l = a ++ [c] := ⟨l.dropLast, l.getLast h.1, (List.dropLast_concat_getLast h.1).symm⟩
    obtain ⟨d, hd, rfl⟩ := isDg_of (h.2.1 c (by simp))
    rw [dv_append, dv_one hd]
    by_cases ha : a = []
    · subst ha
      rw [List.nil_append, show dv [] = 0 from rfl]
      simp only [List.length_singleton, Nat.pow_one, Nat.zero_mul, Nat.zero_add]
      exact dec_small hd
    · have hal : 1 ≤ a.length := by cases a with | nil => exact absurd rfl ha | cons _ _ => simp
      have hh : a.head? ≠ some 48 := by
        have := h.2.2 (by simp; omega)
        cases a with
        | nil => exact absurd rfl ha
        | cons x t => simpa using this
      have hdg : ∀ c ∈ a, IsDg c := fun c hc => h.2.1 c (List.mem_append_left _ hc)
      have hp := dv_pos ha hdg hh
      have hca : Canon a := ⟨ha, hdg, fun _ => hh⟩
      have := ih hca (by simp at hn; omega)
      simp only [List.length_singleton, Nat.pow_one]
      rw [dec_big (by omega), show (dv a * 10 + d) / 10 = dv a from by omega, show (dv a * 10 + d) % 10 = d from by omega, this]
theorem dec_inj {m n : Nat} (h : Lib.decDigits m = Lib.decDigits n) : m = n := by rw [← dv_dec m, ← dv_dec n, h]
theorem dv_lt : ∀ {l : List UInt8}, (∀ c ∈ l, IsDg c) → dv l < 10 ^ l.length := by
  intro l
  obtain ⟨n, hn⟩ : ∃ n, l.length = n := ⟨_, rfl⟩
  induction n generalizing l with
  | zero => intro _; rw [List.eq_nil_of_length_eq_zero hn]; decide
  | succ n ih =>
    intro h
    have hne : l ≠ [] := fun e => by subst e; simp at hn
    obtain ⟨a, c, rfl⟩ : ∃ a c, l = a ++ [c] := ⟨l.dropLast, l.getLast hne, (List.dropLast_concat_getLast hne).symm⟩
    obtain ⟨d, hd, rfl⟩ := isDg_of (h c (by simp))
    have := ih (l := a) (by simp at hn; omega) (fun c hc => h c (List.mem_append_left _ hc))
    rw [dv_append, dv_one hd, List.length_append, List.length_singleton, Nat.pow_succ]
    omega
/-- how many digits a number has -/
def ndg (n : Nat) : Nat := (Lib.decDigits n).length
theorem ndg_le {n k : Nat} (hk : 1 ≤ k) (h : n < 10 ^ k) : ndg n ≤ k := dec_len9 hk h
theorem lt_ndg (n : Nat) : n < 10 ^ ndg n := by
  have := dv_lt (dec_dg n)
  rwa [dv_dec] at this
end Go.Proofs.YtakllkkmofdpaaaGreatDoor
/- Numbers in parts of nine decimal digits, plain. -/
namespace Go.Proofs.YtakllkkmofdpaaaGreatDoor
set_option linter.unusedVariables false
set_option linter.unusedSimpArgs false

/-- the value of parts, the lowest one first -/
def pv : List Nat → Nat
  | [] => 0
  | x :: r => x + 1000000000 * pv r
def PsOk (ps : List Nat) : Prop := ∀ x ∈ ps, x < 1000000000
theorem pv_snoc : ∀ (ps : List Nat) (r : Nat), pv (ps ++ [r]) = pv ps + r * 1000000000 ^ ps.length
  | [], r => by simp [pv]
  | x :: t, r => by
    rw [List.cons_append, pv, pv_snoc t r, pv, List.length_cons, Nat.pow_succ]
    grind
theorem psOk_snoc {ps : List Nat} {r : Nat} (h : PsOk ps) (hr : r < 1000000000) : PsOk (ps ++ [r]) := fun x hx => (List.mem_append.1 hx).elim (h x) fun h => by rw [List.mem_singleton.1 h]; exact hr
theorem pv_drop {ps : List Nat} {k x : Nat} (h : ps[k]? = some x) : pv (ps.drop k) = x + 1000000000 * pv (ps.drop (k + 1)) := by
  obtain ⟨hl, he⟩ := List.getElem?_eq_some_iff.1 h
  rw [List.drop_eq_getElem_cons hl, he, pv]
/-- the highest part is not 0 -/
def PsTop (ps : List Nat) : Prop := ∀ x, ps.getLast? = some x → 0 < x
theorem pv_pos : ∀ {ps : List Nat}, PsTop ps → ps ≠ [] → 0 < pv ps
  | [x], h, _ => by
    have := h x rfl
    simp only [pv]; omega
  | x :: y :: r, h, _ => by
    have := pv_pos (ps := y :: r) (fun z hz => h z (by rw [List.getLast?_cons_cons]; exact hz)) (by simp)
    rw [pv]; omega
theorem psTop_drop {ps : List Nat} (h : PsTop ps) {k : Nat} (hk : k < ps.length) : 0 < pv (ps.drop k) := by
  refine pv_pos (fun x hx => h x ?_) (fun e => by have := congrArg List.length e; rw [List.length_drop] at this; simp at this; omega)
  rw [List.getLast?_drop, if_neg (by omega)] at hx
  exact hx
/-- the digits of the parts from k on -/
def Dg (ps : List Nat) (k : Nat) : List UInt8 := if k < ps.length then Lib.decDigits (pv (ps.drop k)) else []
theorem dg_end (ps : List Nat) : Dg ps ps.length = [] := by unfold Dg; rw [if_neg (Nat.lt_irrefl _)]
theorem dg_top {ps : List Nat} {k x : Nat} (h : ps[k]? = some x) (hk : k + 1 = ps.length) : Dg ps k = Lib.decDigits x := by
  unfold Dg
  rw [if_pos (by omega), pv_drop h, List.drop_eq_nil_of_le (by omega), pv, Nat.mul_zero, Nat.add_zero]
theorem dg_low {ps : List Nat} {k x : Nat} (h : ps[k]? = some x) (hk : k + 1 < ps.length) (hok : PsOk ps) (ht : PsTop ps) : Dg ps k = Dg ps (k + 1) ++ List.replicate (9 - (Lib.decDigits x).length) 48 ++ Lib.decDigits x := by
  unfold Dg
  have hx := hok x (List.mem_of_getElem? h)
  have hp := psTop_drop ht hk
  rw [if_pos (by omega), if_pos hk, pv_drop h, Nat.add_comm x, Nat.mul_comm, show 1000000000 = 10 ^ 9 from rfl, dec_split 9 _ x hp hx, fixd_pad 9 x (by decide) hx, List.append_assoc]
theorem dg_all {ps : List Nat} (h : ps ≠ []) : Dg ps 0 = Lib.decDigits (pv ps) := by
  unfold Dg
  rw [if_pos (List.length_pos_iff.2 h), List.drop_zero]
theorem dg_len {ps : List Nat} {k x : Nat} (h : ps[k]? = some x) (hok : PsOk ps) : 1 ≤ (Lib.decDigits x).length ∧ (Lib.decDigits x).length ≤ 9 :=
  ⟨dec_len_pos x, dec_len9 (by decide) (hok x (List.mem_of_getElem? h))⟩
theorem pow_mono10 {a b : Nat} (h : a ≤ b) : 10 ^ a ≤ 10 ^ b := Nat.pow_le_pow_right (by decide) h
theorem bb_lo : 10 ^ 2000 ≤ BB 210 := by unfold BB; decide +kernel
theorem bb_hi : BB 210 ≤ 1000000000 ^ 225 := by unfold BB; decide +kernel
/-- more than 210 words: more than 2000 digits -/
theorem many_words {n : Nat} (h : 210 < dlen n) : 2000 < ndg n := by
  have h0 : n ≠ 0 := fun e => by rw [e, dlen_zero] at h; omega
  have h1 := le_dlen h0
  have h2 : BB 210 ≤ n := Nat.le_trans (BB_le (by omega)) h1
  refine Nat.lt_of_not_le fun hle => ?_
  have h3 := lt_ndg n
  have h4 := pow_mono10 hle
  have h5 := bb_lo
  omega
/-- as long as something is left there are few parts -/
theorem few_parts {v g L : Nat} (hv : dlen v ≤ 210) (hg : 0 < g) (h : g * 1000000000 ^ L ≤ v) : L < 225 := by
  have h1 := lt_dlen v
  have h2 : v < 1000000000 ^ 225 := Nat.lt_of_lt_of_le h1 (Nat.le_trans (BB_le hv) bb_hi)
  have h3 : 1 * 1000000000 ^ L ≤ g * 1000000000 ^ L := Nat.mul_le_mul_right _ hg
  exact (Nat.pow_lt_pow_iff_right (a := 1000000000) (by decide)).1 (by omega)
/-- the text of an integer -/
def textL (z : Int) : List UInt8 := (if z < 0 then [45] else []) ++ Lib.decDigits z.natAbs
end Go.Proofs.YtakllkkmofdpaaaGreatDoor
