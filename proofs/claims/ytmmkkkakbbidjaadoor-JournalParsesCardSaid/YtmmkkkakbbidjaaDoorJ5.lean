/- The events in their order: journal.Sorted. -/
import Derived.Test.YtmmkkkakbbidjaaDoorJ3
import Derived.Test.YtmmkkkakbbidjaaDoorSh
import Derived.Lib.OwnBridge
import Derived.Laws.OwnMore
namespace Go.Proofs.YtmmkkkakbbidjaaDoor
open Go.ChangeShapes Go.WideShapes Go.ChangeAt Go.RowKit Go.Sort Go.Shelf
set_option linter.unusedVariables false
attribute [local go_sem ↓] execOp_call_val
attribute [local go_sem] callVal_func setCell_drewN alloc_drewN sEq_walk

instance : Inhabited Ev := ⟨⟨0, ⟨#[]⟩, ⟨#[]⟩, 0⟩⟩
theorem ltE_iff {a b : Ev} : ltOf ordE a b = true ↔ ordE a b < 0 := by unfold ltOf; exact decide_eq_true_iff
theorem ltE_ff {a b : Ev} : ltOf ordE a b = false ↔ ordE b a ≤ 0 := by
  unfold ltOf
  rw [decide_eq_false_iff_not]
  have := pre_ordE.anti a b
  omega
theorem swoE : SWO (ltOf ordE) where
  irrefl x := by rw [ltE_ff, ordE_0.2 rfl]; decide
  trans x y z h1 h2 := by
    rw [ltE_iff] at *
    exact pre_ordE.lt h1 (by omega)
  ntrans x y z h1 h2 := by
    rw [ltE_ff] at *
    exact pre_ordE.tr _ _ _ h2 h1
theorem cmpLaysE (blk off size : Nat) (w : World) : CmpLays Tryd.prog 19 #[] Ev.cells 4 ordE blk off size w := fun m os dk _ x y => by
  refine (ecompare_any x y _).mono ?_
  rintro e w' ⟨he, cs, rfl⟩
  exact ⟨he, 1, #[.cells (evV x) 31, .cells (evV y) 31, .cells cs 3], by rw [alloc_eq_grow, alloc_eq_grow, alloc_eq_grow, grow_grow, grow_grow]; rfl⟩
def evSort (l : List Ev) : List Ev := l.mergeSort fun x y => !(ltOf ordE) y x
theorem evSort_perm (l : List Ev) : (evSort l).Perm l := List.mergeSort_perm _ _
theorem evSort_len (l : List Ev) : (evSort l).length = l.length := (evSort_perm l).length_eq
theorem evSort_le (l : List Ev) : (evSort l).Pairwise fun a b => ordE a b ≤ 0 := by
  have h := List.pairwise_mergeSort (le := fun x y : Ev => !(ltOf ordE) y x) (fun a b c h1 h2 => by
    simp only [Bool.not_eq_true', ltE_ff] at *
    exact pre_ordE.tr _ _ _ h1 h2) (fun a b => by
    have := pre_ordE.anti a b
    by_cases hab : ordE a b ≤ 0
    · simp [ltE_ff.2 hab]
    · simp [ltE_ff.2 (show ordE b a ≤ 0 by omega)]) l
  exact h.imp (fun hab => by simpa only [Bool.not_eq_true', ltE_ff] using hab)
theorem perm_sorted_eq : ∀ {a b : List Ev}, a.Perm b → (a.Pairwise fun a b => ordE a b ≤ 0) → (b.Pairwise fun a b => ordE a b ≤ 0) → a = b
  | [], b, h, _, _ => (List.Perm.eq_nil h.symm).symm ▸ rfl
  | x :: a, [], h, _, _ => absurd (List.Perm.eq_nil h) (by simp)
  | x :: a, y :: b, h, h1, h2 => by
    have hx : x ∈ y :: b := h.mem_iff.1 (by simp)
    have hy : y ∈ x :: a := h.mem_iff.2 (by simp)
    have e1 : ordE x y ≤ 0 := by
      rcases List.mem_cons.1 hy with e | e
      · rw [e, ordE_0.2 rfl]; decide
      · exact List.rel_of_pairwise_cons h1 e
    have e2 : ordE y x ≤ 0 := by
      rcases List.mem_cons.1 hx with e | e
      · rw [e, ordE_0.2 rfl]; decide
      · exact List.rel_of_pairwise_cons h2 e
    have hxy : x = y := ordE_0.1 (by have := pre_ordE.anti x y; omega)
    subst hxy
    rw [perm_sorted_eq ((List.perm_cons x).1 h) h1.tail h2.tail]
theorem evSort_of_perm {a b : List Ev} (h : a.Perm b) : evSort a = evSort b := perm_sorted_eq ((evSort_perm a).trans (h.trans (evSort_perm b).symm)) (evSort_le a) (evSort_le b)

theorem flatE (l : List Ev) : flatK Ev.cells 4 l.toArray = (l.flatMap Ev.cells).toArray := by
  have hs : (l.flatMap Ev.cells).length = l.length * 4 := flat_len Ev.len l
  refine ext_get! (by simp [hs]) fun t ht => ?_
  have ht' : t < l.length * 4 := by simpa using ht
  rw [get_flatK _ _ _ _ (by simpa using ht')]
  have hq : t / 4 < l.length := by omega
  have h1 := flat_at Ev.len l (t / 4) l[t / 4] (List.getElem?_eq_getElem hq) (t % 4) (by omega)
  have h2 : t / 4 * 4 + t % 4 = t := by omega
  rw [h2] at h1
  have h3 : (l.toArray)[t / 4]! = l[t / 4] := by rw [getElem!_pos _ _ (by simpa using hq)]; simp
  rw [h3, getElem!_pos _ t (by simp [hs]; omega), getElem!_pos _ (t % 4) (by rw [Ev.len]; omega)]
  rw [List.getElem?_eq_getElem (by omega), List.getElem?_eq_getElem (by rw [Ev.len]; omega)] at h1
  injection h1 with h1
  rw [← h1]
  simp
theorem holdsE {w : World} {base T g n cap : Nat} {l : List Ev} (h : w.ownsRow base T 4 (.slice (some ⟨g, 0, none⟩) n cap) n (l.flatMap Ev.cells)) (hl : l.length = n) : HoldsK Ev.cells 4 w g 0 l.toArray := by
  unfold HoldsK
  rw [flatE]
  intro j hj
  have hj' : j < n * 4 := by simp [flat_len Ev.len] at hj; omega
  refine ⟨?_, by rw [Nat.zero_add]; exact h.frozenAt j⟩
  rw [Nat.zero_add, h.cellAt j hj']
  rw [List.getElem?_eq_getElem (by rw [flat_len Ev.len]; omega), getElem!_pos _ j hj]
  simp
theorem rdEv_holds {w : World} {B g : Nat} {l : List Ev} (h : HoldsK Ev.cells 4 w g 0 l.toArray) (hg : g < B) : RdEv w B (some ⟨g, 0, none⟩) l.length l := by
  refine ⟨rfl, flat_len Ev.len l, fun _ => ⟨g, 0, rfl, hg, fun j u hu => ?_⟩⟩
  unfold HoldsK at h
  rw [flatE] at h
  have hj : j < (l.flatMap Ev.cells).length := (List.getElem?_eq_some_iff.1 hu).1
  have h1 := (h j (by simpa using hj)).1
  rw [h1, getElem!_pos _ j (by simpa using hj)]
  have : (l.flatMap Ev.cells)[j] = u := by rw [List.getElem?_eq_getElem hj] at hu; injection hu
  simp [this]
theorem below_sortK {B g k : Nat} {w0 w : World} {d : Array Ev} {os : Array Obj} (h : Below B w0 w) (hg : B ≤ g) (hB : B ≤ w.heap.size) : Below B w0 (sortWorldK Ev.cells 4 w g 0 k d os) := by
  have h1 := Lib.below_putRow (enc := id) (q := k) (d := flatK Ev.cells 4 d) h hg
  have hz : w.heap.size = (putRow id (Sort.ahead w k) g 0 (flatK Ev.cells 4 d)).heap.size := by simp [putRow, mapBlock, Sort.ahead]
  refine ⟨h1.os, h1.tape, h1.output, Nat.le_trans h1.size ?_, fun j hj => ?_⟩
  · show _ ≤ ((putRow id (Sort.ahead w k) g 0 (flatK Ev.cells 4 d)).heap ++ os).size
    rw [Array.size_append]; omega
  · rw [← h1.block j hj]
    have hlt : j < (putRow id (Sort.ahead w k) g 0 (flatK Ev.cells 4 d)).heap.size := by omega
    exact Array.getElem?_append_left hlt

theorem info_ev : (Tryd.prog.info? 31).map (fun i => (i.zero, i.size, i.bytes)) = some (some (.agg #[.int .i64 0, .string ⟨#[]⟩, .string ⟨#[]⟩, .int .i64 0]), 4, 48) := by kernel_rfl
theorem one_ev (l : List Ev) : ∀ u ∈ l.flatMap Ev.cells, u.oneCell' = true := fun u hu => by
  obtain ⟨x, _, hx⟩ := List.mem_flatMap.1 hu
  simp [Ev.cells] at hx
  rcases hx with rfl | rfl | rfl | rfl <;> rfl
set_option maxRecDepth 100000 in
set_option maxHeartbeats 1000000 in
theorem cloneE_any (A : Addr) (n c : Nat) (l : List Ev) (w : World) (hl : l.length = n) (hn : n ≤ 1000000) (hc : ∀ j u, (l.flatMap Ev.cells)[j]? = some u → w.cell? (A.add j) = some u) :
    Calls Tryd.prog 17 #[.slice (some A) n c] w fun e w' => ∃ v', e = .returned v' ∧ w'.ownsRow w.heap.size 31 4 v' n (l.flatMap Ev.cells) ∧ v' ≠ .slice none 0 0 ∧ Below w.heap.size w w' := by
  obtain ⟨i0, hi0, hz0, hz1, hz2⟩ := info_parts info_ev
  have HC := Lib.hid hc
  clear hc
  have hl4 : (l.flatMap Ev.cells).length = n * 4 := by rw [flat_len Ev.len, hl]
  have h1 := one_ev l
  generalize l.flatMap Ev.cells = news at *
  have HL := Lib.hid hl4
  have H1 := Lib.hid h1
  clear hl4 h1
  have q22 : ∀ (w : World) (a : Option Addr) (n c n' c' : Nat), (binOp .eql 22 (.slice a n c) (.slice none n' c')).run Tryd.prog w = .ok (.bool a.isNone) w := fun w a n c n' c' => Lib.run_eql_slice_nil w _ _ a n c n' c' Tryd.underlying22
  go_enter Tryd.func17, Tryd.ntmps17
  go_wp2_with (at_builtin; refine wpList_append_own _ rfl _ _ 22 rfl w.heap.size 31 i0 _ 4 48 Tryd.underlying22 hi0 hz0 hz1 hz2 rfl (by omega) _ _ _ rfl (World.ownsRow_made w #[] 0 (Nat.le_refl _) (Nat.zero_le _) (by simp)) A n c news rfl ?qc1 ?qc2 ?qc3 ?qc4 ?qc5 ?qc6 ?_)
  case qc1 => exact HL.out
  case qc2 => exact fun j u hj => Lib.cell?_alloc_some _ (HC.out j u hj)
  case qc3 => exact H1.out
  case qc4 => simp only [maxLen]; omega
  case qc5 => omega
  case qc6 => simp
  intro v' w1 hown hgrow hnil
  go_wp2
  go_ret
  refine ⟨v', rfl, by simpa using hown, ?_, ?_⟩
  · exact hnil
  · exact ((Below.refl _ w).alloc (Nat.le_refl _) _).grown hgrow (by simp) (by intro k hk; simp [Value.ownBlock] at hk; omega)

/-- a slice handed back, with an error -/
def SrtP (l : List Ev) (w : World) (e : Ending) (w' : World) : Prop :=
  Below w.heap.size w w' ∧ ((ckEv l ≠ 0 ∧ e = .returned (.tuple #[.slice none 0 0, .int .i64 (ckEv l)])) ∨
    (ckEv l = 0 ∧ ∃ A n c, e = .returned (.tuple #[.slice A n c, .int .i64 0]) ∧ n ≤ c ∧ c ≤ maxLen ∧ RdEv w' w'.heap.size A n (evSort l)))
theorem ckEv_len {l : List Ev} (h : ckEv l = 0) : l.length ≤ 256 := by
  unfold ckEv at h
  by_cases h0 : 256 < l.length
  · rw [if_pos h0] at h; omega
  · omega
theorem evSort_nil : evSort [] = [] := List.eq_nil_of_length_eq_zero (evSort_len [])

set_option maxRecDepth 100000 in
set_option maxHeartbeats 1000000 in
theorem sorted_any (A : Option Addr) (n c : Nat) (l : List Ev) (hf : ∀ x ∈ l, x.Fit) (w : World) (hR : RdEv w w.heap.size A n l) (hn : n ≤ 9223372036854775807) :
    Calls Tryd.prog 10 #[.slice A n c] w (SrtP l w) := by
  have HLEN := Lib.hid hR.1
  have HR := Lib.hid hR
  have HF := Lib.hid hf
  have HP : Hid (∀ e w', SrtP l w e w' = (Below w.heap.size w w' ∧ ((ckEv l ≠ 0 ∧ e = .returned (.tuple #[.slice none 0 0, .int .i64 (ckEv l)])) ∨
    (ckEv l = 0 ∧ ∃ A n c, e = .returned (.tuple #[.slice A n c, .int .i64 0]) ∧ n ≤ c ∧ c ≤ maxLen ∧ RdEv w' w'.heap.size A n (evSort l))))) := Lib.hid fun _ _ => rfl
  have HC : Hid (ckEv l = 0 → n ≤ 256) := Lib.hid fun h => by have := ckEv_len h; have := hR.1; omega
  clear hR hf
  go_enter Tryd.func10, Tryd.ntmps10
  go_wp2_with fail
  refine (jcheck_any A n c l HF.out w HR.out hn).mono ?_
  generalize hck : ckEv l = ck at *
  have HK := Lib.hid hck
  clear hck
  rintro e w1 ⟨rfl, k1⟩
  have HB1 := Lib.hid k1
  have HR1 := Lib.hid (HR.out.up k1)
  clear k1
  by_cases hp : ck = 0
  · subst hp
    have h256 := HC.out rfl
    cases A with
    | none =>
      have hn0 : n = 0 := by
        rcases Nat.eq_zero_or_pos n with h | h
        · exact h
        · obtain ⟨b, off, e, _⟩ := HR.out.form h; cases e
      subst hn0
      have hl0 : l = [] := List.eq_nil_of_length_eq_zero HLEN.out
      have HL0 := Lib.hid hl0
      clear hl0
      go_wp2_with fail
      refine (show Calls Tryd.prog 17 _ _ _ from AnyE.slices_Clone_nil Tryd.cloneEv 0 c w1).mono ?_
      rintro e w2 ⟨rfl, rfl⟩
      go_wp2_with fail
      refine (show Calls Tryd.prog 18 _ _ _ from AnyF.slices_SortFunc_none Tryd.sortEv none 0 _ _).mono ?_
      rintro e w2 ⟨rfl, rfl⟩
      go_wp2_with fail
      go_ret2
      rw [HP.out]
      refine ⟨HB1.out, .inr ⟨by trivial, none, 0, 0, rfl, Nat.le_refl _, by simp [maxLen], ?_⟩⟩
      rw [HL0.out, evSort_nil]
      exact ⟨rfl, rfl, fun h => by omega⟩
    | some A =>
      have hcl : ∀ j u, (l.flatMap Ev.cells)[j]? = some u → w1.cell? (A.add j) = some u := by
        rcases Nat.eq_zero_or_pos n with h | h
        · have hl0 : l = [] := List.eq_nil_of_length_eq_zero (by have := HLEN.out; omega)
          subst hl0
          intro j u hu; simp at hu
        · obtain ⟨b, off, e, _, hc⟩ := HR1.out.2.2 h
          injection e with e
          subst e
          intro j u hu
          rw [Addr.add_lit]; exact hc j u hu
      have HCL := Lib.hid hcl
      clear hcl
      go_wp2_with fail
      refine (cloneE_any A n c l w1 HLEN.out (by omega) HCL.out).mono ?_
      rintro e w2 ⟨v', rfl, hown, hnn, k2⟩
      have HB2 := Lib.hid (HB1.out.trans (k2.mono HB1.out.size))
      have hle := HB1.out.size
      clear k2
      rcases hown.2 with ⟨hv, _⟩ | ⟨g, cap, cur, rfl, hbg, hheap, hnc, hcm, _, _⟩
      · exact absurd hv hnn
      · have hglt : g < w2.heap.size := by
          rcases Nat.lt_or_ge g w2.heap.size with h | h
          · exact h
          · rw [Array.getElem?_eq_none h] at hheap; cases hheap
        have HO := Lib.hid hown
        clear hown hheap hnn
        by_cases hn0 : n = 0
        · subst hn0
          have HL0 : Hid (l = []) := Lib.hid (List.eq_nil_of_length_eq_zero HLEN.out)
          go_wp2_with fail
          refine (show Calls Tryd.prog 18 _ _ _ from AnyF.slices_SortFunc_none Tryd.sortEv _ cap _ _).mono ?_
          rintro e w3 ⟨rfl, rfl⟩
          go_wp2_with fail
          go_ret2
          rw [HP.out]
          refine ⟨HB2.out, .inr ⟨by trivial, _, 0, cap, rfl, hnc, hcm, ?_⟩⟩
          rw [HL0.out, evSort_nil]
          exact ⟨rfl, rfl, fun h => by omega⟩
        · have hH := Lib.hid (holdsE HO.out HLEN.out)
          have hsz : l.toArray.size = n := by simpa using HLEN.out
          have HSZ := Lib.hid hsz
          clear hsz
          go_wp2_with fail
          refine (show Calls Tryd.prog 18 #[.slice (some ⟨g, 0, none⟩) n cap, .func (.func 19) #[] #[]] w2 (fun e w' => e = .returned (.tuple #[]) ∧ ∃ q os, w' = sortWorldK Ev.cells 4 w2 g 0 q (evSort l).toArray os) from by
            have h := AnyQ.slices_SortFunc_total Tryd.sortEv 4 Tryd.isAgg31 Tryd.sizeOf31 Ev.cells Ev.len (fun x v hv => one_ev [x] v (by simpa using hv)) ordE swoE 19 #[] g 0 cap l.toArray w2 (enters_of Tryd.func19 (by kernel_rfl) rfl) (cmpLaysE g 0 _ w2) hH.out hglt (by rw [HSZ.out]; omega) (fun x y h1 h2 => ordE_0.1 (by
              rw [ltE_ff] at h1 h2
              have := pre_ordE.anti x y
              omega))
            rw [HSZ.out] at h
            exact h).mono ?_
          rintro e w3 ⟨rfl, q, os, hw3⟩
          have hH3 : HoldsK Ev.cells 4 w3 g 0 (evSort l).toArray := by
            rw [hw3]
            exact holdsK_grow Ev.cells 4 _ os g 0 _ (by simpa [putRow, mapBlock, Sort.ahead, putRowK] using hglt) (holdsK_putRowK Ev.cells 4 _ g 0 l.toArray _ (holdsK_ahead Ev.cells 4 w2 q g 0 _ hH.out) (by simp [evSort_len]))
          have hB3 : Below w.heap.size w w3 := by rw [hw3]; exact below_sortK HB2.out (by omega) HB2.out.size
          have hg3 : g < w3.heap.size := by
            rw [hw3]
            show g < ((putRow id (Sort.ahead w2 q) g 0 _).heap ++ os).size
            simp [putRow, mapBlock, Sort.ahead]; omega
          have HH3 := Lib.hid hH3
          have HB3 := Lib.hid hB3
          have HES : Hid ((evSort l).length = n) := Lib.hid (by rw [evSort_len]; exact HLEN.out)
          clear hw3 hH3 hB3
          go_wp2_with fail
          go_ret2
          rw [HP.out]
          refine ⟨HB3.out, .inr ⟨by trivial, _, n, cap, rfl, hnc, hcm, ?_⟩⟩
          have h := rdEv_holds HH3.out hg3
          rw [HES.out] at h
          exact h
  · have hpb : (ck != 0) = true := by simpa using hp
    go_wp2_with fail
    go_ret2
    rw [HP.out]
    exact ⟨HB1.out, .inl ⟨hp, rfl⟩⟩
end Go.Proofs.YtmmkkkakbbidjaaDoor
