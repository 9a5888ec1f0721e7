/- The plain law of ChooseProves: the smallest set and its ways prove each other. -/
import Derived.Test.YthedpegaelpbdaaGHP
import Derived.Test.YthedpegaelpbdaaGV
import Derived.Test.YthedpegaelpbdaaN7
namespace Go.Proofs.Ythedpegaelpbdaa
open Go
set_option linter.unusedVariables false

theorem ckList_each {α : Type} {f : List ByteArray → α → Int} {nm : α → ByteArray} : ∀ (l : List α) (seen : List ByteArray), (ckList f nm seen l).1 = 0 → ∀ x ∈ l, ∃ s', f s' x = 0
  | [], _, _, _, hx => by cases hx
  | y :: l, seen, h, x, hx => by
    unfold ckList at h
    by_cases h0 : f seen y = 0
    · rw [if_neg (by simp [h0])] at h
      rcases List.mem_cons.1 hx with rfl | hx
      · exact ⟨_, h0⟩
      · exact ckList_each l _ h x hx
    · rw [if_pos h0] at h; exact absurd h h0
theorem nameB_len {s : ByteArray} (h : nameB s = true) : s.size ≤ 8 := by
  unfold nameB at h
  rw [Bool.and_eq_true] at h
  exact (of_decide_eq_true h.2).2
theorem names_short {x : Net} (h : netCk x = 0) : (∀ s ∈ x.sws, s.name.size ≤ 8) ∧ ∀ b ∈ x.brs, b.name.size ≤ 8 := by
  unfold netCk at h
  split at h
  · omega
  · unfold ck0 at h
    split at h
    · rename_i h0; exact absurd h h0
    · unfold ck1 at h
      split at h
      · rename_i h0; exact absurd h h0
      · rename_i h1
        unfold ck2 at h
        split at h
        · rename_i h0; exact absurd h h0
        · rename_i h2
          refine ⟨fun s hs => ?_, fun b hb => ?_⟩
          · obtain ⟨s', h3⟩ := ckList_each _ _ (Decidable.not_not.1 h1) s hs
            unfold fSw at h3
            split at h3
            · rename_i h0; exact absurd h3 h0
            · rename_i h0; exact nameB_len (devR_ok (Decidable.not_not.1 h0)).1
          · obtain ⟨s', h3⟩ := ckList_each _ _ (Decidable.not_not.1 h2) b hb
            unfold fBr at h3
            split at h3
            · rename_i h0; exact absurd h3 h0
            · rename_i h0; exact nameB_len (devR_ok (Decidable.not_not.1 h0)).1
theorem WP.names {es : List Ed} {u v : Nat} {l : List ByteArray} (h : WP es u l v) : ∀ s ∈ l, ∃ e ∈ es, e.name = s := by
  induction h with
  | nil u => intro s hs; cases hs
  | cons e u v r h1 h2 t ih =>
    intro s hs
    rcases List.mem_cons.1 hs with rfl | hs
    · exact ⟨e, h1, rfl⟩
    · exact ih s hs
theorem back_len (s : Int) (by_ : List Int) (place : Nat) : ∀ (f : Nat) (es : List Ed) (a : Nat) (out : List ByteArray), (back s by_ place f es a out).2.length ≤ out.length + f
  | 0, es, a, out => by show out.length ≤ _; omega
  | f + 1, es, a, out => by
    unfold back
    split
    · show out.length ≤ _; omega
    · split
      · show out.length ≤ _; omega
      · split
        · refine Nat.le_trans (back_len s by_ place f _ _ _) ?_
          simp; omega
        · refine Nat.le_trans (back_len s by_ place f _ _ _) ?_
          simp; omega
theorem wayR_short (src : List Bool) (n place : Nat) (es : List Ed) : (wayR src n place es).2.length ≤ n := by
  unfold wayR
  split
  · exact Nat.zero_le _
  · have := back_len (-1) (bfsR goW es src n place).1 place n es (bfsR goW es src n place).2.toNat []
    simpa using this
theorem waysR_short (src : List Bool) (n place : Nat) : ∀ (m : Nat) (es : List Ed) (ws : List (List ByteArray)), (∀ l ∈ ws, l.length ≤ n) → ∀ l ∈ waysR src n place m es ws, l.length ≤ n
  | 0, es, ws, h => h
  | m + 1, es, ws, h => by
    unfold waysR
    refine waysR_short src n place m _ _ fun l hl => ?_
    rcases List.mem_append.1 hl with hl | hl
    · exact h l hl
    · rw [List.mem_singleton.1 hl]; exact wayR_short src n place es
theorem map_inj_of {α β : Type} {f : α → β} : ∀ {l : List α}, (l.map f).Nodup → ∀ a ∈ l, ∀ b ∈ l, f a = f b → a = b
  | [], _, _, ha, _, _, _ => by cases ha
  | x :: l, h, a, ha, b, hb, e => by
    rw [List.map_cons, List.nodup_cons] at h
    rcases List.mem_cons.1 ha with h1 | h1
    · rcases List.mem_cons.1 hb with h2 | h2
      · rw [h1, h2]
      · refine absurd ?_ h.1
        rw [← h1, e]; exact List.mem_map_of_mem h2
    · rcases List.mem_cons.1 hb with h2 | h2
      · refine absurd ?_ h.1
        rw [← h2, ← e]; exact List.mem_map_of_mem h1
      · exact map_inj_of h.2 a h1 b h2 e
theorem ix1_of {x : Net} (hn : Names x) {y : Sw} (hy : y ∈ x.sws) : ∃ i : Nat, ix1 x y.name = (i : Int) ∧ x.sws[i]? = some y := by
  unfold ix1
  rcases idxGo_spec (fun z : Sw => sEq z.name y.name) x.sws 0 with ⟨_, h⟩ | ⟨i, z, h1, h2, h3, _⟩
  · have := h y hy
    simp [sEq] at this
  · have hz := List.mem_of_getElem? h2
    have he : z.name = y.name := by simpa [sEq] using h3
    rw [map_inj_of hn.sws z hz y hy he] at h2
    exact ⟨i, by rw [h1]; simp, h2⟩
theorem ixN_of {x : Net} (hn : Names x) {y : Sw} (hy : y ∈ x.sws) : ixN x y.name < 0 := by
  unfold ixN
  rcases idxGo_spec (fun z => sEq y.name z) x.nodes 0 with ⟨h, _⟩ | ⟨i, z, h1, h2, h3, _⟩
  · rw [h]; decide
  · have : y.name = z := by simpa [sEq] using h3
    exact absurd (this ▸ List.mem_of_getElem? h2) (hn.sn y hy)
theorem ls_cut {x : Net} {p : Fp} (hcp : cpR x p = 0) {es : List Ed} {l : List ByteArray} {j : Nat} (h : LsOk x p es l j) :
    ∃ S, Cut (fdSrc x) (fdSrc x).length (fdPl x p) S ∧ (∀ e ∈ fdEs x [] p, cross S e = true → e.brk = true) ∧ l = ((fdEs x [] p).filter (cross S)).map Ed.name := by
  have ok := netCk_ok (cp_net hcp)
  have ok0 := fd_ok ok [] p
  have ok1 := h.fl.same.ok ok0
  have hj := h.le
  have hl := fd_len ok [] p
  have hf := bfsR_found (src := fdSrc x) (go := goR) ok1 (fd_place ok p)
  obtain ⟨h1, h2, h3⟩ := h.fl.fin ok0 (fd_place ok p) (by omega) hf h.neg
  refine ⟨_, h1, fun e0 he hx => ?_, ?_⟩
  · obtain ⟨k, hk⟩ := List.mem_iff_getElem?.1 he
    have hkl : k < es.length := by rw [h.fl.same.1]; exact (List.getElem?_eq_some_iff.1 hk).1
    obtain ⟨e', g1, g2, g3, _, g5⟩ := h.fl.same.at_ (List.getElem?_eq_getElem hkl)
    rw [hk] at g1
    injection g1 with g1
    subst g1
    rw [← g5]
    exact h2 _ (List.getElem_mem hkl) (by unfold cross at hx ⊢; rw [g2, g3]; exact hx)
  · rw [h.eq, borderR_eq (place := 0) ok1 h2, cross_names _ h.fl.same]
theorem prf_law {x : Net} {p : Fp} (hcp : cpR x p = 0) {es : List Ed} {l : List ByteArray} {j : Nat} (h : LsOk x p es l j) : PrfOk x p l (waysR (fdSrc x) (fdSrc x).length (fdPl x p) l.length es []) := by
  have hnet := cp_net hcp
  have ok := netCk_ok hnet
  have nm := netCk_nm hnet
  have ok0 := fd_ok ok [] p
  have hpl := fd_place ok p
  have hone := fd_one nm [] p
  obtain ⟨S, hS, hbk, hl⟩ := ls_cut hcp h
  have hlj := ls_len hcp h
  have hjl := h.le
  have hl80 := fd_len ok [] p
  have hsrc : (fdSrc x).length ≤ 25 := by rw [fdSrc_len]; have := ok.l0; omega
  obtain ⟨es', hw⟩ := Wf.all ok0 hpl hone j es [] h.fl.ways
  have hsw : ∀ s ∈ l, ∃ y ∈ x.sws, y.name = s ∧ y.breaker = true ∧ y.opn = false := fun s hs => by
    rw [hl] at hs
    obtain ⟨e, he, rfl⟩ := List.mem_map.1 hs
    obtain ⟨he, hx⟩ := List.mem_filter.1 he
    have hb := hbk e he hx
    rcases fdEs_mem he with ⟨y, hy, ho, _, rfl⟩ | ⟨b, _, _, h2, _⟩
    · exact ⟨y, hy, rfl, hb, ho⟩
    · rw [h2] at hb; cases hb
  have hlen : (waysR (fdSrc x) (fdSrc x).length (fdPl x p) l.length es []).length = l.length := by rw [waysR_len]; simp
  rw [hlj] at hlen ⊢
  refine ⟨hcp, fun s hs => ?_, ?_, fun s hs => ?_, ?_, by rw [hlen, hlj], fun w hwm => ?_, hw.dis, by rw [hlen]; omega, fun w hwm => ?_⟩
  · obtain ⟨y, hy, rfl, h1, h2⟩ := hsw s hs
    obtain ⟨i, h3, h4⟩ := ix1_of nm hy
    exact ⟨i, y, h3, h4, h1, h2⟩
  · rw [hl]; exact names_nodup hone hbk
  · obtain ⟨y, hy, rfl, h1, h2⟩ := hsw s hs
    obtain ⟨i, h3, h4⟩ := ix1_of nm hy
    exact ⟨ixN_of nm hy, by rw [h3]; omega⟩
  · unfold isoB
    have hf := bfsR_found (src := fdSrc x) (go := goR) (fd_ok ok l p) hpl
    have := found_sound hf (S := S) (fun e he u hu hg hs => ?_) hS.1 hS.2
    · rw [this]; decide
    · refine Classical.byContradiction fun hn => ?_
      rw [Bool.not_eq_true] at hn
      have hx : cross S e = true := by
        unfold cross
        rcases Ed.oth_cases hu with ⟨a, b⟩ | ⟨a, b⟩
        · rw [b] at hn; rw [← a] at hs; rw [hs, hn]; rfl
        · rw [b] at hn; rw [← a] at hs; rw [hs, hn]; rfl
      have he0 : e ∈ fdEs x [] p := fdEs_sub (fun s hs => by cases hs) e he
      have hml : e.name ∈ l := by rw [hl]; exact List.mem_map.2 ⟨e, List.mem_filter.2 ⟨he0, hx⟩, rfl⟩
      rcases fdEs_mem he with ⟨y, hy, _, ho, rfl⟩ | ⟨b, _, _, h2, _⟩
      · have := List.any_eq_false.1 ho _ hml
        simp [sEq] at this
      · have := hbk e he0 hx
        rw [h2] at this; cases this
  · obtain ⟨at0, h1, h2, h3⟩ := hw.way w hwm
    exact wgo_way ok0 h3 _ h2
  · refine ⟨Nat.le_trans (waysR_short _ _ _ _ _ _ (fun _ h => by cases h) w hwm) (by omega), fun s hs => ?_⟩
    obtain ⟨at0, h1, h2, h3⟩ := hw.way w hwm
    obtain ⟨e, he, rfl⟩ := h3.names s hs
    obtain ⟨k1, k2⟩ := names_short hnet
    rcases fdEs_mem he with ⟨y, hy, _, _, rfl⟩ | ⟨b, hb, h2, _⟩
    · have := k1 y hy
      show y.name.size ≤ _
      omega
    · rw [h2]; have := k2 b hb; omega
end Go.Proofs.Ythedpegaelpbdaa
