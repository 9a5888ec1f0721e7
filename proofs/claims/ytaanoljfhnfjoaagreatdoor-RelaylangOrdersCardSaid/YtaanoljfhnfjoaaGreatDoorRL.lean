/- A region whose last operation waits for all others. -/
import Derived.OrdersHeld
import Derived.Deep.RegionHeld
namespace Go.Proofs.YtaanoljfhnfjoaaGreatDoor
open Go
set_option linter.unusedVariables false

def lastB (md : Region.Mode) (L : List Oper) (n : Nat) : Bool :=
  decide (L.length = n + 1) &&
  (List.range (n + 1)).all (fun j => match L[j]? with
    | some o => o.after.all (fun e => !Region.binds md e || decide (e.on < j)) && (match o.guard with | none => true | some (g, _) => decide (g < n))
    | none => false) &&
  (List.range n).all (fun j => (List.range (n + 1)).any fun k => decide (j < k) && match L[k]? with
    | some o => o.after.any (fun e => Region.binds md e && e.on == j)
    | none => false)
def lastQ (P : Program) (ops : Array Oper) (o : Oper) (Q : Exit → Act → World → Prop) : Exit → Act → World → Prop
  | .normal, a, w => if Region.wanted o (yielded ops a.tmps) = true then Oper.wp P o a w (Q .normal) Q else Q .normal (a.put o.dst undef) w
  | e, a, w => Q e a w

section
variable {P : Program} {Q : Exit → Act → World → Prop} {md : Region.Mode}
theorem wp_lastQ {ops : Array Oper} {oN o : Oper} {a : Act} {w : World} {K K' : Act → World → Prop} (h : ∀ a w, K a w → K' a w) (hh : o.wp P a w K (lastQ P ops oN Q)) : o.wp P a w K' Q := by
  unfold Oper.wp at *
  generalize (execOp a.eval o).run P w = r at *
  cases r with
  | ok n w' =>
    cases n <;> simp only [Oper.upon] at hh ⊢ <;>
      first
        | exact h _ _ hh
        | exact Calls.mono hh (fun e w'' he => by cases e <;> first | exact h _ _ he | exact he)
        | exact Rows.mono hh (fun _ _ he => h _ _ he)
  | halt x w' => cases x <;> simp only [Oper.upon] at hh ⊢ <;> exact hh
theorem wpOp_lastQ {L F : List Oper} {i : Nat} {oN : Oper} {a : Act} {w : World} {K K' : Act → World → Prop} (hi : L[i]? = F[i]?) (hg : ∀ o, F[i]? = some o → ∀ g b, o.guard = some (g, b) → L[g]? = F[g]?) (h : ∀ a w, K a w → K' a w)
    (hh : wpOp P F.toArray (lastQ P L.toArray oN Q) i K a w) : wpOp P L.toArray Q i K' a w := by
  unfold wpOp at *
  rw [List.getElem?_toArray] at *
  rw [hi]
  cases ho : F[i]? with
  | none => rw [ho] at hh; exact h _ _ hh
  | some o =>
    rw [ho] at hh
    simp only at hh ⊢
    have hw : Region.wanted o (yielded L.toArray a.tmps) = Region.wanted o (yielded F.toArray a.tmps) := by
      unfold Region.wanted
      cases hgd : o.guard with
      | none => rfl
      | some gb =>
        obtain ⟨g, b⟩ := gb
        simp only
        unfold yielded
        rw [List.getElem?_toArray, List.getElem?_toArray, hg o ho g b hgd]
    rw [hw]
    split
    · rename_i h1
      rw [if_pos h1] at hh
      exact hh.imp (wp_lastQ h) id
    · rename_i h1
      rw [if_neg h1] at hh
      exact h _ _ hh
theorem lastB_spec {L : List Oper} {n : Nat} (h : lastB md L n = true) : L.length = n + 1 ∧
    (∀ j o, L[j]? = some o → (∀ e ∈ o.after, Region.binds md e = true → e.on < j) ∧ ∀ g b, o.guard = some (g, b) → g < n) ∧
    (∀ j, j < n → ∃ k o e, j < k ∧ L[k]? = some o ∧ e ∈ o.after ∧ Region.binds md e = true ∧ e.on = j) := by
  unfold lastB at h
  simp only [Bool.and_eq_true, decide_eq_true_eq, List.all_eq_true, List.mem_range, List.any_eq_true] at h
  obtain ⟨⟨h1, h2⟩, h3⟩ := h
  refine ⟨h1, fun j o ho => ?_, fun j hj => ?_⟩
  · have hj : j < n + 1 := by rw [← h1]; exact (List.getElem?_eq_some_iff.1 ho).1
    have := h2 j hj
    rw [ho] at this
    simp only [Bool.and_eq_true, Array.all_eq_true_iff_forall_mem, Bool.or_eq_true, Bool.not_eq_true', decide_eq_true_eq] at this
    refine ⟨fun e he hb => (this.1 e he).resolve_left (by simp [hb]), fun g b hg => ?_⟩
    have h4 := this.2
    rw [hg] at h4
    simpa using h4
  · obtain ⟨k, hk, hjk, h4⟩ := h3 j hj
    cases ho : L[k]? with
    | none => rw [ho] at h4; cases h4
    | some o =>
      rw [ho] at h4
      simp only [Array.any_eq_true'] at h4
      obtain ⟨e, he, h5⟩ := h4
      simp only [Bool.and_eq_true, beq_iff_eq] at h5
      exact ⟨k, o, e, hjk, ho, he, h5.1, h5.2⟩
def ClosedL (md : Region.Mode) (F : List Oper) (listed : Array Bool) : Prop := ∀ (j : Nat) (o : Oper), F[j]? = some o → listed.getD j false = true → ∀ e ∈ o.after, Region.binds md e = true → listed.getD e.on false = true
theorem getD_tf {l : Array Bool} {j : Nat} (h : j < l.size) : l.getD j true = l.getD j false := by simp [h]
theorem all_listed {L : List Oper} {n : Nat} {oN : Oper} {listed : Array Bool} (hs : lastB md L n = true) (hN : L[n]? = some oN) (hsz : listed.size = n) (hc : ClosedL md (L.take n) listed)
    (hr : ∀ e ∈ oN.after, Region.binds md e = true → (listed.push false).getD e.on false = true) : ∀ d j, j + d = n → 0 < d → listed.getD j false = true := by
  obtain ⟨h1, h2, h3⟩ := lastB_spec hs
  intro d
  induction d using Nat.strongRecOn with
  | _ d ih =>
    intro j hj hd
    obtain ⟨k, o, e, hjk, hk, he, hb, hej⟩ := h3 j (by omega)
    have hkl : k < n + 1 := by rw [← h1]; exact (List.getElem?_eq_some_iff.1 hk).1
    by_cases hkn : k = n
    · subst hkn
      rw [hN] at hk; injection hk with hk; subst hk
      have := hr e he hb
      rw [hej] at this
      rwa [Array.getD_eq_getD_getElem?, Array.getElem?_push_lt (by omega), ← Array.getElem?_eq_getElem (by omega), ← Array.getD_eq_getD_getElem?] at this
    · have hl := ih (n - k) (by omega) k (by omega) (by omega)
      have := hc k o (by rw [List.getElem?_take_of_lt (by omega)]; exact hk) hl e he hb
      rwa [hej] at this
theorem push_set {l : Array Bool} {i : Nat} (hi : i < l.size) : (l.push false).setIfInBounds i true = (l.setIfInBounds i true).push false := by
  apply Array.ext
  · simp
  · intro j h1 h2
    simp only [Array.size_setIfInBounds, Array.size_push] at h1
    rw [Array.getElem_setIfInBounds (by simpa using h1), Array.getElem_push]
    by_cases hij : i = j
    · subst hij
      rw [if_pos rfl, Array.getElem_push]
      simp only [Array.size_setIfInBounds, hi, dif_pos, Array.getElem_setIfInBounds, if_true]
    · simp only [hij, if_false]
      rw [Array.getElem_push]
      simp only [Array.size_setIfInBounds]
      split
      · rename_i h3
        rw [Array.getElem_setIfInBounds (by simpa using h3), if_neg hij]
      · rfl
theorem getD_push {l : Array Bool} {j : Nat} (hj : j < l.size) (d : Bool) : (l.push false).getD j d = l.getD j d := by
  rw [Array.getD_eq_getD_getElem?, Array.getElem?_push_lt hj, ← Array.getElem?_eq_getElem hj, ← Array.getD_eq_getD_getElem?]
theorem getD_out {l : Array Bool} {j : Nat} (h : l.getD j false = true) : j < l.size := by
  rcases Nat.lt_or_ge j l.size with h' | h'
  · exact h'
  · simp [Array.getElem?_eq_none h'] at h
/-- what may come up in the front may come up in the whole, and nothing else till all of the front have -/
theorem ready_front {L : List Oper} {n : Nat} {listed : Array Bool} (hs : lastB md L n = true) (hsz : listed.size = n) {i : Nat} (hi : i < n) : i ∈ Region.ready md L.toArray (listed.push false) ↔ i ∈ Region.ready md (L.take n).toArray listed := by
  obtain ⟨h1, h2, h3⟩ := lastB_spec hs
  rw [mem_ready, mem_ready, List.getElem?_toArray, List.getElem?_toArray, List.getElem?_take_of_lt hi, getD_push (by omega)]
  refine and_congr Iff.rfl ⟨?_, ?_⟩
  · rintro ⟨o, ho, h⟩
    exact ⟨o, ho, fun e he hb => by rw [← getD_push (by have := (h2 i o ho).1 e he hb; omega)]; exact h e he hb⟩
  · rintro ⟨o, ho, h⟩
    exact ⟨o, ho, fun e he hb => by rw [getD_push (by have := (h2 i o ho).1 e he hb; omega)]; exact h e he hb⟩
theorem closed_set {F : List Oper} {listed : Array Bool} {i : Nat} (hc : ClosedL md F listed) (hr : i ∈ Region.ready md F.toArray listed) : ClosedL md F (listed.setIfInBounds i true) := by
  intro j o ho hj e he hb
  by_cases hij : i = j
  · subst hij
    obtain ⟨_, o', ho', hall⟩ := mem_ready.1 hr
    rw [List.getElem?_toArray, ho] at ho'
    injection ho' with ho'
    subst ho'
    exact getD_set_true (hall e he hb)
  · rw [getD_set_ne false hij] at hj
    exact getD_set_true (hc j o ho hj e he hb)
theorem done_of_all {L : List Oper} {n : Nat} {listed : Array Bool} (h1 : L.length = n + 1) (hsz : listed.size = n) (hall : ∀ j, j < n → listed.getD j false = true) : Region.ready md L.toArray ((listed.push false).setIfInBounds n true) = [] := by
  rw [List.eq_nil_iff_forall_not_mem]
  intro j hj
  obtain ⟨h0, o, ho, _⟩ := mem_ready.1 hj
  rw [List.getElem?_toArray] at ho
  have hjl := (List.getElem?_eq_some_iff.1 ho).1
  by_cases hjn : n = j
  · subst hjn
    simp [hsz] at h0
  · rw [getD_set_ne true hjn, getD_push (by omega), getD_tf (by omega), hall j (by omega)] at h0
    cases h0
/-- all others first, then the last one -/
theorem wpAny_last {L : List Oper} {n : Nat} {oN : Oper} (hs : lastB md L n = true) (hN : L[n]? = some oN) : ∀ (fuel : Nat) (listed : Array Bool) (a : Act) (w : World), listed.size = n → ClosedL md (L.take n) listed →
    wpAny P md (L.take n).toArray (lastQ P L.toArray oN Q) fuel listed a w → wpAny P md L.toArray Q (fuel + 1) (listed.push false) a w := by
  obtain ⟨h1, h2, h3⟩ := lastB_spec hs
  -- nothing more of the front may come up
  have key : ∀ (fuel : Nat) (listed : Array Bool) (a : Act) (w : World), listed.size = n → ClosedL md (L.take n) listed → Region.ready md (L.take n).toArray listed = [] → lastQ P L.toArray oN Q .normal a w → wpAny P md L.toArray Q (fuel + 1) (listed.push false) a w := by
    intro fuel listed a w hsz hc hr hq
    have hall : ∀ m j, j < m → j < n → listed.getD j false = true := by
      intro m
      induction m with
      | zero => intro j hj; omega
      | succ m ih =>
        intro j hj hjn
        cases hl : listed.getD j false with
        | true => rfl
        | false =>
          exfalso
          have hjl : j < L.length := by omega
          have hmem : j ∈ Region.ready md (L.take n).toArray listed := by
            rw [mem_ready, List.getElem?_toArray, List.getElem?_take_of_lt hjn, getD_tf (by omega), hl]
            refine ⟨rfl, L[j], List.getElem?_eq_getElem hjl, fun e he hb => ih _ ?_ ?_⟩
            · have := (h2 j _ (List.getElem?_eq_getElem hjl)).1 e he hb; omega
            · have := (h2 j _ (List.getElem?_eq_getElem hjl)).1 e he hb; omega
          rw [hr] at hmem
          cases hmem
    have hall' := fun j hj => hall n j hj hj
    have hnr : n ∈ Region.ready md L.toArray (listed.push false) := by
      rw [mem_ready, List.getElem?_toArray]
      refine ⟨by simp [← hsz], oN, hN, fun e he hb => ?_⟩
      have := (h2 n oN hN).1 e he hb
      rw [getD_push (by omega)]
      exact hall' _ this
    refine ⟨fun h0 => by rw [h0] at hnr; exact absurd hnr (by simp), fun j hj => ?_⟩
    have hjn : j = n := by
      obtain ⟨h0, o, ho, _⟩ := mem_ready.1 hj
      rw [List.getElem?_toArray] at ho
      have hjl := (List.getElem?_eq_some_iff.1 ho).1
      refine Decidable.byContradiction fun hne => ?_
      rw [getD_push (by omega), getD_tf (by omega), hall' j (by omega)] at h0
      cases h0
    subst hjn
    unfold wpOp
    rw [List.getElem?_toArray, hN]
    simp only
    have hd := done_of_all (md := md) h1 hsz hall'
    unfold lastQ at hq
    dsimp only at hq
    split
    · rename_i hw
      rw [if_pos hw] at hq
      exact .inl (Oper.wp_mono (fun a' w' h => wpAny_done hd h fuel) hq)
    · rename_i hw
      rw [if_neg hw] at hq
      exact wpAny_done hd hq fuel
  intro fuel
  induction fuel with
  | zero => intro listed a w hsz hc h; exact key 0 listed a w hsz hc h.1 h.2
  | succ fuel ih =>
    intro listed a w hsz hc h
    by_cases hr : Region.ready md (L.take n).toArray listed = []
    · exact key (fuel + 1) listed a w hsz hc hr (h.1 hr)
    · have hnn : n ∉ Region.ready md L.toArray (listed.push false) := by
        intro hn
        obtain ⟨_, o, ho, hall⟩ := mem_ready.1 hn
        rw [List.getElem?_toArray, hN] at ho
        injection ho with ho
        subst ho
        have hl := all_listed hs hN hsz hc hall
        apply hr
        rw [List.eq_nil_iff_forall_not_mem]
        intro j hj
        obtain ⟨h0, o, ho, _⟩ := mem_ready.1 hj
        rw [List.getElem?_toArray] at ho
        have hjl := (List.getElem?_eq_some_iff.1 ho).1
        have hjn : j < n := by simp at hjl; omega
        have := hl (n - j) j (by omega) (by omega)
        rw [getD_tf (by omega), this] at h0
        cases h0
      have hlt : ∀ j, j ∈ Region.ready md L.toArray (listed.push false) → j < n := fun j hj => by
        obtain ⟨_, o, ho, _⟩ := mem_ready.1 hj
        rw [List.getElem?_toArray] at ho
        have := (List.getElem?_eq_some_iff.1 ho).1
        have hne : j ≠ n := fun e => hnn (e ▸ hj)
        omega
      refine ⟨fun h0 => ?_, fun j hj => ?_⟩
      · exfalso
        obtain ⟨j, hj⟩ := List.exists_mem_of_ne_nil _ hr
        have hjn : j < n := by
          obtain ⟨_, o, ho, _⟩ := mem_ready.1 hj
          rw [List.getElem?_toArray] at ho
          have := (List.getElem?_eq_some_iff.1 ho).1
          simp at this; omega
        have := (ready_front hs hsz hjn).2 hj
        rw [h0] at this
        cases this
      · have hjn := hlt j hj
        have hjr := (ready_front hs hsz hjn).1 hj
        refine wpOp_lastQ (L := L) (F := L.take n) (by rw [List.getElem?_take_of_lt hjn]) (fun o ho g b hg => ?_) (fun a' w' hh => ?_) (h.2 j hjr)
        · rw [List.getElem?_take_of_lt hjn] at ho
          rw [List.getElem?_take_of_lt ((h2 j o ho).2 g b hg)]
        · rw [push_set (by omega)]
          exact ih _ a' w' (by simpa using hsz) (closed_set hc hjr) hh
/-- a region that draws: all but the last operation under a condition on the world, then the last -/
theorem wp_region_last {S : World → Prop} {id : Nat} {a : Act} {w : World} {L : List Oper} (n : Nat) (oN : Oper) (hm : P.follows .mixedOrders = true) (hs : lastB .any L n = true) (hN : L[n]? = some oN) (hS : S w.drew)
    (h : S w.drew → wpAnyH P .any (L.take n).toArray (lastQ P L.toArray oN Q) S n (Array.replicate n false) a w.drew) : (Code.region id L.toArray true).wp P Q a w := by
  obtain ⟨h1, h2, h3⟩ := lastB_spec hs
  refine wp_region_any hm ?_
  rw [show L.toArray.size = n + 1 from by simpa using h1, Array.replicate_succ]
  refine wpAny_last hs hN n _ a _ (by simp) (fun j o ho hj => ?_) (wpAny_of_held _ _ _ _ (h hS))
  rcases Nat.lt_or_ge j n with h' | h' <;> simp [h'] at hj
def takeB (md : Region.Mode) (ops : Array Oper) (listed : Array Bool) (i : Nat) : Bool := Region.noSelect ops && Region.free md ops listed i && (Region.ready md ops listed).contains i
/-- an operation that yields its value in every world of the region is taken first -/
theorem takeH {L : List Oper} {S : World → Prop} (i : Nat) {oi : Oper} {v : Value} {fuel : Nat} {listed : Array Bool} {a : Act} {w : World} (hi : L[i]? = some oi) (hB : takeB md L.toArray listed i = true)
    (hQ : ∀ c a w, Q (.panic c) (a.put oi.dst v) w → Q (.panic c) a w) (hw : Region.wanted oi (yielded L.toArray a.tmps) = true) (hy : ∀ w, S w → (execOp a.eval oi).run P w = .ok (.value v) w) (hS : S w)
    (h : wpAnyH P md L.toArray Q S fuel (listed.setIfInBounds i true) (a.put oi.dst v) w) : wpAnyH P md L.toArray Q S (fuel + 1) listed a w := by
  unfold takeB at hB
  rw [Bool.and_eq_true, Bool.and_eq_true] at hB
  exact wpAnyH_take (by rw [List.getElem?_toArray]; exact hi) hB.1.1 hB.1.2 hB.2 hQ (.inl ⟨hw, hy⟩) hS h
/-- the only one that may come up -/
theorem stepH {L : List Oper} {S : World → Prop} (i : Nat) {o : Oper} {fuel : Nat} {listed : Array Bool} {a : Act} {w : World} (hr : Region.ready md L.toArray listed = [i]) (ho : L[i]? = some o)
    (h : ∀ K' : Act → World → Prop, Shut (∀ a w, S w → (S w → wpAnyH P md L.toArray Q S fuel (listed.setIfInBounds i true) a w) → K' a w) → if Region.wanted o (yielded L.toArray a.tmps) = true then Oper.wp P o a w K' Q else K' (a.put o.dst undef) w) : wpAnyH P md L.toArray Q S (fuel + 1) listed a w :=
  wpAnyH_ready hr (by simp) (AllReadyH.cons (by rw [List.getElem?_toArray]; exact ho) h AllReadyH.nil)
theorem lastQ_go {ops : Array Oper} {o : Oper} {a : Act} {w : World} (hw : Region.wanted o (yielded ops a.tmps) = true) (h : Oper.wp P o a w (Q .normal) Q) : lastQ P ops o Q .normal a w := by
  unfold lastQ
  dsimp only
  rw [if_pos hw]
  exact h
end
end Go.Proofs.YtaanoljfhnfjoaaGreatDoor
