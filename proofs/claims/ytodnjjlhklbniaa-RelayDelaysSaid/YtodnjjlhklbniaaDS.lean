/- Copies of rules. -/
import Derived.Test.YtodnjjlhklbniaaDR
namespace Go.Proofs.Ytodnjjlhklbniaa
open Go.ChangeShapes Go.WideShapes Go.ChangeAt Go.RowKit
set_option linter.unusedVariables false
set_option linter.unusedSimpArgs false
attribute [local go_sem ↓] execOp_call_val
attribute [local go_sem] callVal_func setCell_drewN alloc_drewN sEq_walk


theorem made_bools (n : Nat) : madeCells #[.bool false] n = (bools (List.replicate n false)).toArray := by
  apply Array.ext'
  simp [bools, madeCells, Nat.mod_one, List.map_const']
def CloneP (hs : List Rh) (n : Nat) (w : World) (e : Ending) (w' : World) : Prop :=
  ∃ A' c', e = .returned (.slice A' n c') ∧ Below w.heap.size w w' ∧ (0 < n → ∃ g cur, A' = some ⟨g, 0, none⟩ ∧ w.heap.size ≤ g ∧ Blk w' g 32 cur ∧ ∀ (j : Nat) (u : Value), (hs.flatMap Rh.cells)[j]? = some u → cur[j]? = some u)
theorem one_rh (l : List Rh) : ∀ u ∈ l.flatMap Rh.cells, u.oneCell' = true := fun u hu => by
  obtain ⟨z, _, h⟩ := List.mem_flatMap.1 hu
  simp [Rh.cells] at h
  rcases h with rfl | rfl <;> rfl
theorem one_nd (l : List Nd) : ∀ u ∈ l.flatMap Nd.cells, u.oneCell' = true := fun u hu => by
  obtain ⟨z, _, h⟩ := List.mem_flatMap.1 hu
  simp [Nd.cells] at h
  rcases h with rfl | rfl | rfl <;> rfl
theorem own_cur {w : World} {base e size n : Nat} {v : Value} {xs : List Value} (h : w.ownsRow base e size v n xs) (hne : v ≠ .slice none 0 0) : ∃ g cap cur, v = .slice (some ⟨g, 0, none⟩) n cap ∧ base ≤ g ∧ Blk w g e cur ∧ ∀ (j : Nat) (u : Value), xs[j]? = some u → cur[j]? = some u := by
  rcases h.2 with ⟨h1, _⟩ | ⟨g, cap, cur, h1, h2, h3, _, _, h6, h7⟩
  · exact absurd h1 hne
  · refine ⟨g, cap, cur, h1, h2, h3, fun j u hu => ?_⟩
    rw [← h7] at hu
    have hj := (List.getElem?_eq_some_iff.1 hu).1
    rw [List.length_take] at hj
    rw [List.getElem?_take_of_lt (by omega)] at hu
    simpa using hu
theorem cloneRules (A : Option Addr) (n c : Nat) (hs : List Rh) (w : World) (hR : RdRh w w.heap.size A n hs) (hn : n ≤ 16) (hnil : A = none → c = 0) :
    Calls Try.prog 15 #[.slice A n c] w (CloneP hs n w) := by
  cases A with
  | none =>
    have hn0 : n = 0 := by
      rcases Nat.eq_zero_or_pos n with h | h
      · exact h
      · obtain ⟨b, off, he, _⟩ := hR.form h; cases he
    have hc0 := hnil rfl
    subst hn0; subst hc0
    refine (cloneRh_nil w).mono ?_
    rintro e w1 ⟨rfl, rfl⟩
    exact ⟨none, 0, rfl, Below.refl _ _, fun h => by omega⟩
  | some a =>
    refine (cloneRh a n c (hs.flatMap Rh.cells) w hR.rd.1 (by omega) (one_rh hs) (fun j u hj => ?_)).mono ?_
    · have hjl := (List.getElem?_eq_some_iff.1 hj).1
      have hl := hR.rd.1
      obtain ⟨b, off, he, hlt, hc⟩ := hR.rd.2 (by omega)
      injection he with he
      subst he
      rw [Addr.add_lit]
      exact hc j u hj
    · rintro e w1 ⟨v', rfl, hown, hne, hb⟩
      obtain ⟨g, cap, cur, rfl, h1, h2, h3⟩ := own_cur hown hne
      exact ⟨some ⟨g, 0, none⟩, cap, rfl, hb, fun _ => ⟨g, cur, rfl, h1, h2, h3⟩⟩
/-- the rules of a new relay while their expressions are copied -/
structure NewS (w : World) (n g : Nat) (A' : Option Addr) (hs hs1 : List Rh) (wr : World) : Prop where
  len : hs1.length = n
  rl : rls hs1 = rls hs
  low : Below w.heap.size w wr
  pos : 0 < n → A' = some ⟨g, 0, none⟩ ∧ w.heap.size ≤ g ∧ ∃ cur, Blk wr g 32 cur ∧ ∀ (j : Nat) (u : Value), (hs1.flatMap Rh.cells)[j]? = some u → cur[j]? = some u
  ex : ∀ z ∈ hs1, RdNd wr wr.heap.size z.A z.n z.r.expr ∧ z.n ≤ 64 ∧ ∀ b o s, z.A = some ⟨b, o, s⟩ → b ≠ g
theorem NewS.cells {w : World} {n g : Nat} {A' : Option Addr} {hs hs1 : List Rh} {wr : World} (h : NewS w n g A' hs hs1 wr) {k : Nat} {z : Rh} (hz : hs1[k]? = some z) (hn : 0 < n) : wr.cell? ⟨g, k * 2, none⟩ = some (.string z.r.name) ∧ wr.cell? ⟨g, k * 2 + 1, none⟩ = some (.slice z.A z.n z.c) ∧ wr.frozen? ⟨g, k * 2 + 1, none⟩ = false ∧ g < wr.heap.size := by
  obtain ⟨_, _, cur, hb, hc⟩ := h.pos hn
  refine ⟨?_, ?_, hb.frozen _, hb.lt⟩
  · rw [hb.cell]
    exact hc _ _ (by have := flat_at Rh.len hs1 k z hz 0 (by omega); rw [Nat.add_zero] at this; rw [this]; rfl)
  · rw [hb.cell]
    exact hc _ _ (by rw [flat_at Rh.len hs1 k z hz 1 (by omega)]; rfl)
theorem NewS.put {w : World} {n g : Nat} {A' : Option Addr} {hs hs1 : List Rh} {wr w2 : World} (h : NewS w n g A' hs hs1 wr) {k : Nat} {z : Rh} (hz : hs1[k]? = some z) (hn : 0 < n) (hb : Below wr.heap.size wr w2) {g2 c2 : Nat} (hg2 : wr.heap.size ≤ g2) (hr : RdNd w2 w2.heap.size (some ⟨g2, 0, none⟩) z.n z.r.expr) :
    NewS w n g A' hs (hs1.set k ⟨z.r, some ⟨g2, 0, none⟩, z.n, c2⟩) (w2.setCell ⟨g, k * 2 + 1, none⟩ (.slice (some ⟨g2, 0, none⟩) z.n c2)) := by
  obtain ⟨p1, p2, cur, hbk, hc⟩ := h.pos hn
  have hkl := (List.getElem?_eq_some_iff.1 hz).1
  have hgw := hbk.lt
  have hfar : ∀ b o, b ≠ g → (w2.setCell ⟨g, k * 2 + 1, none⟩ (.slice (some ⟨g2, 0, none⟩) z.n c2)).cell? ⟨b, o, none⟩ = w2.cell? ⟨b, o, none⟩ := fun b o hbg => World.cell?_of_block (a := ⟨b, o, none⟩) (Below.heap_setCell w2 _ _ b hbg)
  refine ⟨by rw [List.length_set]; exact h.len, ?_, (h.low.trans (hb.mono h.low.size)).setCell p2 _, fun _ => ⟨p1, p2, _, (hbk.below hb hgw).set_ (k * 2 + 1) _, ?_⟩, ?_⟩
  · rw [← h.rl]
    unfold rls
    rw [List.map_set]
    apply List.ext_getElem?
    intro i
    rw [List.getElem?_set]
    by_cases hi : k = i
    · subst hi
      rw [if_pos rfl, List.getElem?_map, hz, if_pos (by simpa using hkl)]; rfl
    · rw [if_neg hi]
  · intro j u hu
    have hjl := (List.getElem?_eq_some_iff.1 hu).1
    rw [flat_len Rh.len, List.length_set] at hjl
    have hi : j / 2 < hs1.length := by omega
    have hj2 : j = j / 2 * 2 + j % 2 := by omega
    have hm : j % 2 < 2 := Nat.mod_lt _ (by omega)
    have hx : (hs1.set k ⟨z.r, some ⟨g2, 0, none⟩, z.n, c2⟩)[j / 2]? = some (if k = j / 2 then ⟨z.r, some ⟨g2, 0, none⟩, z.n, c2⟩ else hs1[j / 2]'hi) := by
      rw [List.getElem?_set]
      by_cases hk : k = j / 2
      · rw [if_pos hk, if_pos hk, if_pos hkl]
      · rw [if_neg hk, if_neg hk, List.getElem?_eq_getElem hi]
    have hf := flat_at Rh.len _ _ _ hx (j % 2) hm
    rw [← hj2, hu] at hf
    have hx1 : hs1[j / 2]? = some (hs1[j / 2]'hi) := List.getElem?_eq_getElem hi
    have hf1 := flat_at Rh.len _ _ _ hx1 (j % 2) hm
    rw [← hj2] at hf1
    rw [Array.getElem?_setIfInBounds]
    by_cases hk : k = j / 2
    · rw [if_pos hk] at hf
      have hzz : hs1[j / 2]'hi = z := by have := hz; rw [hk, hx1] at this; injection this
      rw [hzz] at hf1
      have hor : j % 2 = 0 ∨ j % 2 = 1 := by omega
      rcases hor with h0 | h0
      · rw [if_neg (by omega)]
        rw [h0] at hf hf1
        have : u = .string z.r.name := by have := hf; simpa [Rh.cells] using this
        exact hc j u (by rw [hf1, this]; rfl)
      · rw [if_pos (by omega)]
        rw [h0] at hf hf1
        have hu2 : u = .slice (some ⟨g2, 0, none⟩) z.n c2 := by have := hf; simpa [Rh.cells] using this
        have hin : k * 2 + 1 < cur.size := by
          have := hc j (.slice z.A z.n z.c) (by rw [hf1]; rfl)
          have := (Array.getElem?_eq_some_iff.1 this).1
          omega
        rw [if_pos hin, hu2]
    · rw [if_neg hk] at hf
      rw [if_neg (by omega)]
      exact hc j u (by rw [hf1, ← hf])
  · intro x hx
    rcases List.mem_or_eq_of_mem_set hx with hx | rfl
    · obtain ⟨h1, h2, h3⟩ := h.ex x hx
      refine ⟨⟨h1.1, h1.2.1, fun hn => ?_⟩, h2, h3⟩
      obtain ⟨b, off, e, hlt, hcc⟩ := h1.2.2 hn
      refine ⟨b, off, e, by simp; exact Nat.lt_of_lt_of_le hlt hb.size, fun j u hu => ?_⟩
      rw [hfar b _ (h3 b off none e), hb.cell hlt]
      exact hcc j u hu
    · obtain ⟨h1, h2, _⟩ := h.ex z (List.mem_of_getElem? hz)
      refine ⟨⟨hr.1, hr.2.1, fun hn => ?_⟩, h2, fun b o s e => by injection e with e; injection e with e _; subst e; omega⟩
      obtain ⟨b, off, e, hlt, hcc⟩ := hr.2.2 hn
      injection e with e
      injection e with e1 e2
      subst e1; subst e2
      refine ⟨_, _, rfl, by simpa using hlt, fun j u hu => ?_⟩
      rw [hfar _ _ (by omega)]
      exact hcc j u hu
theorem NewS.rd {w : World} {n g : Nat} {A' : Option Addr} {hs hs1 : List Rh} {wr : World} (h : NewS w n g A' hs hs1 wr) : RdRh wr wr.heap.size A' n hs1 :=
  ⟨h.len, ⟨by rw [flat_len Rh.len, h.len], fun hn => by
    obtain ⟨p1, _, cur, hb, hc⟩ := h.pos hn
    refine ⟨g, 0, p1, hb.lt, fun j u hu => ?_⟩
    rw [Nat.zero_add, hb.cell]
    exact hc j u hu⟩, fun z hz => ⟨(h.ex z hz).1, by have := (h.ex z hz).2.1; omega⟩⟩
end Go.Proofs.Ytodnjjlhklbniaa
