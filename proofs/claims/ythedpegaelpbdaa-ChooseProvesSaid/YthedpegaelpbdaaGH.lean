/- What the walks of the three laws of choose need: an argument that is a list of strings, an append of a list that may be empty. -/
import Derived.Test.YthedpegaelpbdaaGKW
import Derived.Test.YthedpegaelpbdaaO5
import Derived.Test.YthedpegaelpbdaaRL
import Derived.Test.YthedpegaelpbdaaRL2
import Derived.Deep.AppendSrc
import Derived.Deep.Upon
namespace Go.Proofs.Ythedpegaelpbdaa
open Go.ChangeShapes Go.WideShapes Go.ChangeAt Go.RowKit Go.Joins
set_option linter.unusedVariables false

section
variable {H : Type} {enc : TypeId × Value → H} {w : World} {sp : Nat → Bool}
theorem open_strs0 {v : Value} {d : DataW H} {p : List MemPlace} (hv : ∃ A n c, v = .slice A n c) (h : DataW.Trod enc Try.prog w 0 sp true 22 v d p) :
    ∃ (A : Option Addr) (n c : Nat) (ss : List ByteArray), v = .slice A n c ∧ n ≤ c ∧ c ≤ maxLen ∧ RdStr w w.heap.size A n ss := by
  obtain ⟨A, n, c, rfl⟩ := hv
  obtain ⟨fuel, hf⟩ := h
  obtain ⟨A', n', c', ss, he, h1, h2, _, h4⟩ := open_strs1 hf
  simp [Value.cells] at he
  obtain ⟨rfl, rfl, rfl⟩ := he
  exact ⟨_, _, _, ss, rfl, h1, h2, h4⟩
set_option maxRecDepth 100000 in
theorem open_strs2 {r : Reach} {b0 : Nat} {v : Value} {d : DataW H} {p : List MemPlace} (hv : Value.okWide Try.prog w r b0 22 v) (h : DataW.Trod enc Try.prog w 0 sp true 22 v d p) :
    ∃ (A : Option Addr) (n c : Nat) (ss : List ByteArray), v = .slice A n c ∧ n ≤ c ∧ c ≤ maxLen ∧ RdStr w w.heap.size A n ss := open_strs0 (okWide_slice Try.underlying22 hv) h
end

/-- a list that may be empty goes onto a row of the call's own -/
theorem step_app_str {P : Program} {ops : Array Oper} {o : Oper} {a : Act} (w : World) {K : Act → World → Prop} {Q : Exit → Act → World → Prop} {E : Prop} (hgd : o.guard = none) (s x : Operand) (t : TypeId)
    (ho : o.op = .call { callee := .builtin .append, args := #[s, x], argTypes := #[t, t] }) (dd : Nat) (hdd : o.dst = some dd)
    (base : Nat) (e : TypeId) (i : TypeInfo) (z : Value) (ht : P.underlying t = some (.slice e)) (hi : P.info? e = some i) (hz : i.zero = some z)
    (hsize : i.size = 1) (hby : i.bytes = 16) (hzs : z.cells.size = 1)
    (v : Value) (xs : List ByteArray) (hs : a.eval s = v) (hown : w.ownsRow base e 1 v xs.length (strsV xs))
    (A : Option Addr) (m c : Nat) (ys : List ByteArray) (hx : a.eval x = .slice A m c) (hr : RdStr w w.heap.size A m ys)
    (hl : xs.length + m ≤ 1000000) (hbase : base ≤ w.heap.size)
    (h : ∀ v' w', w'.ownsRow base e 1 v' (xs ++ ys).length (strsV (xs ++ ys)) → Below base w w' → w.grownBy w' v.ownBlock → K (a.put (some dd) v') w') :
    if Region.wanted o (yielded ops a.tmps) = true then Oper.wp P o a w K Q else E := by
  have hw : Region.wanted o (yielded ops a.tmps) = true := by simp [Region.wanted, hgd]
  rw [if_pos hw]
  have hm := hr.1
  rcases Nat.eq_zero_or_pos m with rfl | h0
  · have hys : ys = [] := List.eq_nil_of_length_eq_zero hm
    subst hys
    rw [List.append_nil] at h
    obtain ⟨A1, c1, hv, _, hc1⟩ := rdStr_own' hown
    have hsrc : Src P i.size t (.slice A 0 c) 0 [] w := by
      cases A with
      | none => exact Src.ofNil w ht c
      | some ad => exact Src.ofSlice w ht ad 0 c [] (by simp) (fun j u hu => by simp at hu) (fun u hu => by cases hu)
    have hrun := run_append_nothing (P := P) w t t o.type e i ht hi A1 xs.length c1 hc1 (.slice A 0 c) hsrc
    unfold Oper.wp execOp
    simp only [ho, resolve, invoke, builtin, Sem.run_bind, Sem.run_pure, Result.andThen_ok, List.map_toArray, List.map_cons, List.map_nil, hs, hx, hv, hrun]
    rw [hv] at hown
    have := h _ _ hown (Below.refl _ _) (World.grownBy.refl _ _)
    rw [← hdd] at this
    exact this
  · obtain ⟨b, off, rfl, hb⟩ := hr.form h0
    refine wp_append_own w s x t ho base e i z 1 16 ht hi hz hsize hby hzs (by omega) v _ _ hs hown ⟨b, off, none⟩ m c (strsV ys) hx (by unfold strsV; rw [List.length_map, hm]; omega) (fun j u hu => ?_) (fun u hu => ?_) (by simp only [maxLen]; omega) (by omega) hbase (fun v' w' h1 h2 _ => ?_)
    · obtain ⟨y, hy, rfl⟩ : ∃ y, ys[j]? = some y ∧ Value.string y = u := by
        unfold strsV at hu
        rw [List.getElem?_map] at hu
        cases hg : ys[j]? with
        | none => rw [hg] at hu; cases hu
        | some y => rw [hg] at hu; injection hu with hu; exact ⟨y, rfl, hu⟩
      have := hr.at_ hy
      rwa [Addr.add_lit]
    · unfold strsV at hu
      obtain ⟨y, _, rfl⟩ := List.mem_map.1 hu
      rfl
    · rw [hdd]
      refine h v' w' (by rw [List.length_append, hm]; unfold strsV at *; rw [List.map_append]; exact h1) ?_ h2
      refine (Below.refl _ _).grown h2 hbase fun k hk => ?_
      rcases hown.2 with ⟨e1, _⟩ | ⟨g, cap, cur, e1, e2, _⟩
      · rw [e1] at hk; simp [Value.ownBlock] at hk
      · rw [e1] at hk
        simp [Value.ownBlock] at hk
        omega
theorem ownUp {w w' : World} {base e size n : Nat} {v : Value} {xs : List Value} (h : w.ownsRow base e size v n xs) (hb : Below w.heap.size w w') : w'.ownsRow base e size v n xs :=
  h.kept (row := none) ⟨hb.os, hb.tape, hb.output, hb.size, fun k hk _ => hb.block k hk⟩ (by cases v.ownBlock <;> simp)
theorem ownMono {w : World} {base base' e size n : Nat} {v : Value} {xs : List Value} (h : w.ownsRow base e size v n xs) (hb : base' ≤ base) : w.ownsRow base' e size v n xs :=
  ⟨h.1, h.2.imp id fun ⟨g, cap, cur, h1, h2, h3⟩ => ⟨g, cap, cur, h1, Nat.le_trans hb h2, h3⟩⟩
theorem own_nil1 (w : World) (t : TypeId) (size : Nat) {g : Nat} (h : g = w.heap.size) : (w.alloc (.cells #[] t)).ownsRow g t size (.slice (some ⟨g, 0, none⟩) 0 0) 0 [] := by subst h; exact own_nil w t size
/-- two may come up -/
theorem stepH2 {P : Program} {md : Region.Mode} {Q : Exit → Act → World → Prop} {L : List Oper} {S : World → Prop} (i j : Nat) {o o' : Oper} {fuel : Nat} {listed : Array Bool} {a : Act} {w : World} (hr : Region.ready md L.toArray listed = [i, j]) (ho : L[i]? = some o) (ho' : L[j]? = some o')
    (h : ∀ K' : Act → World → Prop, Shut (∀ a w, S w → (S w → wpAnyH P md L.toArray Q S fuel (listed.setIfInBounds i true) a w) → K' a w) → if Region.wanted o (yielded L.toArray a.tmps) = true then Oper.wp P o a w K' Q else K' (a.put o.dst undef) w)
    (h' : ∀ K' : Act → World → Prop, Shut (∀ a w, S w → (S w → wpAnyH P md L.toArray Q S fuel (listed.setIfInBounds j true) a w) → K' a w) → if Region.wanted o' (yielded L.toArray a.tmps) = true then Oper.wp P o' a w K' Q else K' (a.put o'.dst undef) w) : wpAnyH P md L.toArray Q S (fuel + 1) listed a w :=
  wpAnyH_ready hr (by simp) (AllReadyH.cons (by rw [List.getElem?_toArray]; exact ho) h (AllReadyH.cons (by rw [List.getElem?_toArray]; exact ho') h' AllReadyH.nil))
end Go.Proofs.Ythedpegaelpbdaa
