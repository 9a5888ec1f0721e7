/- A program without timers and latches: what a step answers does not depend on what was before. -/
import Derived.Test.YtaanoljfhnfjoaaGreatDoorD0
import Derived.Test.YtaanoljfhnfjoaaGreatDoorD4
namespace Go.Proofs.YtaanoljfhnfjoaaGreatDoor
set_option linter.unusedVariables false
set_option linter.unusedSimpArgs false

def Pure (l : List Nd) : Prop := ∀ x ∈ l, x.op ≠ 6 ∧ x.op ≠ 7 ∧ 0 ≤ x.op ∧ x.op ≤ 7
theorem ev_pure (v : Rin) (r : Nat) (h : Pure (expr v r)) : ∀ (f a : Nat) (s : Rst), (evR v f r a s).2 = s
  | 0, a, s => rfl
  | f + 1, a, s => by
    unfold evR
    cases hx : (expr v r)[a]? with
    | none => rfl
    | some x =>
      obtain ⟨h6, h7, h0, h8⟩ := h x (List.mem_of_getElem? hx)
      simp only
      split
      · rfl
      split
      · rfl
      split
      · rfl
      split
      · exact ev_pure v r h f _ s
      split
      · show (evR v f r _ (evR v f r (a + 1) s).2).2 = s
        rw [ev_pure v r h f, ev_pure v r h f]
      split
      · show (evR v f r _ (evR v f r (a + 1) s).2).2 = s
        rw [ev_pure v r h f, ev_pure v r h f]
      all_goals first | exact absurd (by omega) h6 | (exfalso; omega) | (split <;> first | (exfalso; omega) | exact absurd (by omega) h6)
theorem ev_same (v1 v2 : Rin) (r : Nat) (hp : v1.p = v2.p) (hi : v1.ins = v2.ins) (h : Pure (expr v1 r)) (hf : ∀ x ∈ expr v1 r, x.op = 0 → flagB v1 x.name = flagB v2 x.name) : ∀ (f a : Nat) (s1 s2 : Rst), (evR v1 f r a s1).1 = (evR v2 f r a s2).1
  | 0, a, s1, s2 => rfl
  | f + 1, a, s1, s2 => by
    have he : expr v2 r = expr v1 r := by unfold expr; rw [hp]
    unfold evR
    rw [he]
    cases hx : (expr v1 r)[a]? with
    | none => rfl
    | some x =>
      have hm := List.mem_of_getElem? hx
      obtain ⟨h6, h7, h0, h8⟩ := h x hm
      have ih := ev_same v1 v2 r hp hi h hf f
      simp only
      split
      · rename_i h0; exact hf x hm h0
      split
      · rw [hi]
      split
      · rw [hi]
      split
      · show (!(evR v1 f r (a + 1) s1).1) = (!(evR v2 f r (a + 1) s2).1)
        rw [ih _ s1 s2]
      split
      · show ((evR v1 f r (a + 1) s1).1 && (evR v1 f r _ (evR v1 f r (a + 1) s1).2).1) = ((evR v2 f r (a + 1) s2).1 && (evR v2 f r _ (evR v2 f r (a + 1) s2).2).1)
        rw [ih _ s1 s2, ih _ (evR v1 f r (a + 1) s1).2 (evR v2 f r (a + 1) s2).2]
      split
      · show ((evR v1 f r (a + 1) s1).1 || (evR v1 f r _ (evR v1 f r (a + 1) s1).2).1) = ((evR v2 f r (a + 1) s2).1 || (evR v2 f r _ (evR v2 f r (a + 1) s2).2).1)
        rw [ih _ s1 s2, ih _ (evR v1 f r (a + 1) s1).2 (evR v2 f r (a + 1) s2).2]
      all_goals first | exact absurd (by omega) h6 | (exfalso; omega) | (split <;> first | (exfalso; omega) | exact absurd (by omega) h6)
theorem needs_mem (p : List Rl) (l : List Nd) (h : ∀ x ∈ l, x.op ≠ 6) : ∀ (f a k : Nat) (x : Nd), l.length ≤ f + a → a ≤ k → l[k]? = some x → x.op = 0 → 0 ≤ ruleR p x.name → (ruleR p x.name).toNat ∈ ndP p l f a
  | 0, a, k, x, hl, hk, hx, h0, hr => by have := (List.getElem?_eq_some_iff.1 hx).1; omega
  | f + 1, a, k, x, hl, hk, hx, h0, hr => by
    have hkl := (List.getElem?_eq_some_iff.1 hx).1
    have ha : l[a]? = some (l[a]'(by omega)) := List.getElem?_eq_getElem (by omega)
    unfold ndP
    rw [ha]
    simp only
    rw [if_neg (h _ (List.mem_of_getElem? ha))]
    rw [List.mem_append]
    by_cases hak : a = k
    · subst hak
      rw [ha] at hx
      injection hx with hx
      left
      rw [hx, if_pos ⟨h0, hr⟩]; simp
    · exact .inr (needs_mem p l h f (a + 1) k x (by omega) (by omega) hx h0 hr)
theorem getD_set_ (l : List Bool) (i j : Nat) (b : Bool) (hi : i < l.length) : (l.set i b).getD j false = if j = i then b else l.getD j false := by
  rw [List.getD_eq_getElem?_getD, List.getElem?_set]
  by_cases h : i = j
  · subst h; rw [if_pos rfl, if_pos hi, if_pos rfl]; rfl
  · rw [if_neg h, if_neg (fun e => h e.symm), List.getD_eq_getElem?_getD]
theorem main_same (p : List Rl) (flags : List ByteArray) (ins : List Iv) (ms : Int) (hpure : ∀ r ∈ p, Pure r.expr) (V1 V2 : Rin) (h1 : V1.p = p) (h2 : V2.p = p) (f1 : V1.flags = flags) (f2 : V2.flags = flags) (i1 : V1.ins = ins) (i2 : V2.ins = ins) :
    ∀ (rest done : List Nat) (vals1 vals2 : List Bool) (s1 s2 : Rst), OrdOk p (done ++ rest) → vals1.length = p.length → vals2.length = p.length → (∀ i ∈ done, vals1.getD i false = vals2.getD i false) →
      (∀ i ∈ done ++ rest, (mainGo V1 rest vals1 s1).1.getD i false = (mainGo V2 rest vals2 s2).1.getD i false) ∧ (mainGo V1 rest vals1 s1).1.length = p.length ∧ (mainGo V2 rest vals2 s2).1.length = p.length
  | [], done, vals1, vals2, s1, s2, ho, l1, l2, ha => ⟨by rw [List.append_nil]; exact ha, l1, l2⟩
  | i :: r, done, vals1, vals2, s1, s2, ho, l1, l2, ha => by
    have hil : i < p.length := ho.lt i (by simp)
    have hpi : p[i]? = some (p[i]'hil) := List.getElem?_eq_getElem hil
    have he1 : ∀ V : Rin, V.p = p → expr V i = (p[i]'hil).expr := fun V hV => by unfold expr; rw [hV, hpi]
    have hpu : Pure (p[i]'hil).expr := hpure _ (List.getElem_mem hil)
    have hE1 : expr { V1 with vals := vals1 } i = (p[i]'hil).expr := he1 _ h1
    have hneed := ho.needs done.length i (p[i]'hil) (by rw [List.getElem?_append_right (Nat.le_refl _)]; simp) hpi
    rw [List.take_left] at hneed
    have hb : (evR { V1 with vals := vals1 } 64 i 0 s1).1 = (evR { V2 with vals := vals2 } 64 i 0 s2).1 := by
      refine ev_same { V1 with vals := vals1 } { V2 with vals := vals2 } i (h1.trans h2.symm) (i1.trans i2.symm) (by rw [hE1]; exact hpu) (fun x hx h0 => ?_) 64 0 s1 s2
      rw [hE1] at hx
      unfold flagB
      show (if 0 ≤ ruleR V1.p x.name then vals1.getD (ruleR V1.p x.name).toNat false else hasS V1.flags x.name) = (if 0 ≤ ruleR V2.p x.name then vals2.getD (ruleR V2.p x.name).toNat false else hasS V2.flags x.name)
      rw [h1, h2, f1, f2]
      by_cases hr : 0 ≤ ruleR p x.name
      · rw [if_pos hr, if_pos hr]
        obtain ⟨k, hk⟩ := List.mem_iff_getElem?.1 hx
        exact ha _ (hneed _ (needs_mem p _ (fun y hy => (hpu y hy).1) _ 0 k x (by omega) (by omega) hk h0 hr))
      · rw [if_neg hr, if_neg hr]
    have hoo : OrdOk p ((done ++ [i]) ++ r) := by rw [List.append_assoc]; exact ho
    have := main_same p flags ins ms hpure V1 V2 h1 h2 f1 f2 i1 i2 r (done ++ [i]) (vals1.set i (evR { V1 with vals := vals1 } 64 i 0 s1).1) (vals2.set i (evR { V2 with vals := vals2 } 64 i 0 s2).1) (evR { V1 with vals := vals1 } 64 i 0 s1).2 (evR { V2 with vals := vals2 } 64 i 0 s2).2 hoo (by rw [List.length_set]; exact l1) (by rw [List.length_set]; exact l2) (fun j hj => by
      rw [getD_set_ _ _ _ _ (by omega), getD_set_ _ _ _ _ (by omega)]
      by_cases hji : j = i
      · rw [if_pos hji, if_pos hji, hb]
      · rw [if_neg hji, if_neg hji]
        rcases List.mem_append.1 hj with hj | hj
        · exact ha j hj
        · exact absurd (List.mem_singleton.1 hj) hji)
    rw [List.append_assoc] at this
    exact this
theorem nodupLen {α : Type} [DecidableEq α] : ∀ {l m : List α}, l.Nodup → (∀ x ∈ l, x ∈ m) → l.length ≤ m.length
  | [], m, _, _ => by simp
  | x :: l, m, h, hs => by
    rw [List.nodup_cons] at h
    have hx := hs x (by simp)
    have h1 := nodupLen (l := l) (m := m.erase x) h.2 fun y hy => by
      have hne : y ≠ x := fun e => h.1 (e ▸ hy)
      exact (List.mem_erase_of_ne hne).2 (hs y (List.mem_cons_of_mem _ hy))
    rw [List.length_erase_of_mem hx] at h1
    have := List.length_pos_of_mem hx
    simp only [List.length_cons]; omega
theorem ord_all {p : List Rl} {o : List Nat} (h : OrdOk p o) (hl : o.length = p.length) : ∀ j, j < p.length → j ∈ o := fun j hj => by
  rcases Classical.em (j ∈ o) with hm | hm
  · exact hm
  · have := nodupLen (l := j :: o) (m := List.range p.length) (List.nodup_cons.2 ⟨hm, h.nodup⟩) (fun x hx => by
      rw [List.mem_range]
      rcases List.mem_cons.1 hx with rfl | hx
      · exact hj
      · exact h.lt x hx)
    rw [List.length_range, List.length_cons] at this
    omega
/-- the values after a step do not depend on those before -/
theorem step_same {p : List Rl} {o : List Nat} (ho : orderR p = some o) (hpure : ∀ r ∈ p, Pure r.expr) (fl : List ByteArray) (ins : List Iv) (ms : Int) (v1 v2 : List Bool) (k1 k2 : Nat → Nat → Bool × Int) (l1 : v1.length = p.length) (l2 : v2.length = p.length) :
    (stepR ⟨p, v1, fl, ins, ms⟩ o k1).vals = (stepR ⟨p, v2, fl, ins, ms⟩ o k2).vals ∧ (stepR ⟨p, v1, fl, ins, ms⟩ o k1).vals.length = p.length ∧ (stepR ⟨p, v1, fl, ins, ms⟩ o k1).out = (stepR ⟨p, v2, fl, ins, ms⟩ o k2).out := by
  obtain ⟨hok, hlen⟩ := orderR_ok ho
  obtain ⟨h1, h2, h3⟩ := main_same p fl ins ms hpure ⟨p, v1, fl, ins, ms⟩ ⟨p, v2, fl, ins, ms⟩ rfl rfl rfl rfl rfl rfl o [] v1 v2 ⟨k1, []⟩ ⟨k2, []⟩ hok l1 l2 (by simp)
  have he : (mainGo ⟨p, v1, fl, ins, ms⟩ o v1 ⟨k1, []⟩).1 = (mainGo ⟨p, v2, fl, ins, ms⟩ o v2 ⟨k2, []⟩).1 := by
    apply List.ext_getElem
    · rw [h2, h3]
    · intro i hi1 hi2
      have := h1 i (by rw [List.nil_append]; exact ord_all hok hlen i (by omega))
      rw [List.getD_eq_getElem?_getD, List.getD_eq_getElem?_getD, List.getElem?_eq_getElem hi1, List.getElem?_eq_getElem hi2] at this
      exact this
  refine ⟨he, h2, ?_⟩
  show outGo p (mainGo ⟨p, v1, fl, ins, ms⟩ o v1 ⟨k1, []⟩).1 = outGo p (mainGo ⟨p, v2, fl, ins, ms⟩ o v2 ⟨k2, []⟩).1
  rw [he]
end Go.Proofs.YtaanoljfhnfjoaaGreatDoor
