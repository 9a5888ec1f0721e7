/- The relays that operate: zone.Covered. -/
import Derived.Test.YthedpegaelpbdaaV8
import Derived.Test.YthedpegaelpbdaaS2
import Derived.Deep.AppendLies
import Derived.Maps.AppendAt
namespace Go.Proofs.Ythedpegaelpbdaa
open Go.ChangeShapes Go.WideShapes Go.ChangeAt Go.RowKit
set_option linter.unusedVariables false
attribute [local go_sem ↓] execOp_call_val
attribute [local go_sem] callVal_func setCell_drewN alloc_drewN sEq_walk NetH.cells

structure Zh where
  r : Zr
  A : Option Addr
  n : Nat
  c : Nat
def Zh.cells (z : Zh) : List Value := [.string z.r.node, .string z.r.branch, .slice z.A z.n z.c]
theorem Zh.len (x : Zh) : x.cells.length = 3 := rfl
structure RdZh (w : World) (B : Nat) (A : Option Addr) (n : Nat) (xs : List Zh) : Prop where
  len : xs.length = n
  rd : Rd w B 3 A n (xs.flatMap Zh.cells)
  zs : ∀ z ∈ xs, RdZs w B z.A z.n z.r.zones ∧ z.n ≤ 9223372036854775807
theorem RdZh.below {w w' : World} {B B' n : Nat} {A : Option Addr} {xs : List Zh} (h : RdZh w B A n xs) (hb : Below B' w w') (hB : B ≤ B') : RdZh w' B A n xs := ⟨h.len, h.rd.below hb hB, fun z hz => ⟨(h.zs z hz).1.below hb hB, (h.zs z hz).2⟩⟩
theorem RdZh.more {w : World} {B B' n : Nat} {A : Option Addr} {xs : List Zh} (h : RdZh w B A n xs) (hB : B ≤ B') : RdZh w B' A n xs := ⟨h.len, h.rd.more hB, fun z hz => ⟨(h.zs z hz).1.more hB, (h.zs z hz).2⟩⟩
theorem RdZh.up {w w' : World} {n : Nat} {A : Option Addr} {xs : List Zh} (h : RdZh w w.heap.size A n xs) (hb : Below w.heap.size w w') : RdZh w' w'.heap.size A n xs := (h.below hb (Nat.le_refl _)).more hb.size
theorem RdZh.form {w : World} {B n : Nat} {A : Option Addr} {xs : List Zh} (h : RdZh w B A n xs) (h0 : 0 < n) : ∃ b off, A = some ⟨b, off, none⟩ ∧ b < B := by
  obtain ⟨b, off, e, hlt, _⟩ := h.rd.2 h0
  exact ⟨b, off, e, hlt⟩
theorem RdZh.at_ {w : World} {B n : Nat} {b off : Nat} {xs : List Zh} (h : RdZh w B (some ⟨b, off, none⟩) n xs) {i : Nat} {x : Zh} (hx : xs[i]? = some x) :
    w.cell? ⟨b, off + i * 3, none⟩ = some (.string x.r.node) ∧ w.cell? ⟨b, off + i * 3 + 1, none⟩ = some (.string x.r.branch) ∧ w.cell? ⟨b, off + i * 3 + 2, none⟩ = some (.slice x.A x.n x.c) := by
  have hl : i < xs.length := (List.getElem?_eq_some_iff.1 hx).1
  have h1 := h.len
  obtain ⟨b', off', e, _, hc⟩ := h.rd.2 (by omega)
  injection e with e
  injection e with e1 e2
  subst e1; subst e2
  have key : ∀ k, k < 3 → ∀ u, x.cells[k]? = some u → w.cell? ⟨b, off + i * 3 + k, none⟩ = some u := fun k hk u hu => by
    have := hc (i * 3 + k) u (by rw [flat_at Zh.len xs i x hx k hk]; exact hu)
    rwa [← Nat.add_assoc] at this
  exact ⟨key 0 (by omega) _ rfl, key 1 (by omega) _ rfl, key 2 (by omega) _ rfl⟩

/-- the first fault of the relays -/
def covCk (x : Net) : List Zh → Int
  | [] => 0
  | z :: t => if zckR x z.r ≠ 0 then zckR x z.r else covCk x t
def covE (x : Net) (l : List Zh) (p : Fp) : Int := if cpR x p ≠ 0 then cpR x p else covCk x l
def tmAt (x : Net) (l : List Zh) (p : Fp) (i : Nat) : Int × Int := match l[i]? with | some z => timR x z.r p | none => (0, 1)
def tmV (x : Net) (l : List Zh) (p : Fp) (i : Nat) : Int := if (tmAt x l p i).2 = 0 then (tmAt x l p i).1 else 0
def outsTo (x : Net) (l : List Zh) (p : Fp) : Nat → List Int
  | 0 => []
  | k + 1 => outsTo x l p k ++ (if (tmAt x l p k).2 = 0 then [(k : Int)] else [])
theorem outsTo_len (x : Net) (l : List Zh) (p : Fp) : ∀ k, (outsTo x l p k).length ≤ k
  | 0 => by simp [outsTo]
  | k + 1 => by
    have := outsTo_len x l p k
    simp only [outsTo, List.length_append]
    split <;> simp <;> omega
theorem outsTo_mem (x : Net) (l : List Zh) (p : Fp) : ∀ k (y : Int), y ∈ outsTo x l p k ↔ ∃ i : Nat, y = (i : Int) ∧ i < k ∧ (tmAt x l p i).2 = 0
  | 0, y => by simp [outsTo]
  | k + 1, y => by
    simp only [outsTo, List.mem_append, outsTo_mem x l p k y]
    constructor
    · rintro (⟨i, h1, h2, h3⟩ | h)
      · exact ⟨i, h1, by omega, h3⟩
      · by_cases h0 : (tmAt x l p k).2 = 0
        · rw [if_pos h0] at h
          simp at h
          exact ⟨k, h, by omega, h0⟩
        · rw [if_neg h0] at h; simp at h
    · rintro ⟨i, h1, h2, h3⟩
      by_cases hi : i = k
      · subst hi; rw [if_pos h3]; right; simp [h1]
      · exact .inl ⟨i, h1, by omega, h3⟩

theorem own_below {w w' : World} {base e size n : Nat} {v : Value} {xs : List Value} (h : w.ownsRow base e size v n xs) (hb : Below w.heap.size w w') : w'.ownsRow base e size v n xs := by
  refine ⟨h.1, ?_⟩
  rcases h.2 with h1 | ⟨g, cap, cur, h1, h2, h3, h4⟩
  · exact .inl h1
  · refine .inr ⟨g, cap, cur, h1, h2, ?_, h4⟩
    have hg : g < w.heap.size := by
      rcases Nat.lt_or_ge g w.heap.size with h | h
      · exact h
      · rw [Array.getElem?_eq_none h] at h3; cases h3
    exact (hb.block g hg).trans h3

structure CvS (w0 : World) (base gt bt : Nat) (h : NetH) (p : Fp) (n : Nat) (w : World) (cur : List Int) (v : Value) (outs : List Int) : Prop where
  low : Below w0.heap.size w0 w
  q1 : Blk w w0.heap.size 29 h.cells
  q3 : Blk w (w0.heap.size + 1) 31 #[.string p.branch, .int .i64 p.part]
  qb : Blk w bt 61 #[.slice (some ⟨gt, 0, none⟩) n n]
  qg : Blk w gt 3 (ints cur).toArray
  own : w.ownsRow base 3 1 v outs.length (ints outs)
  o1 : w0.heap.size + 1 < gt
  o2 : w0.heap.size + 1 < bt
  o3 : gt ≠ bt
  o4 : gt < base
  o5 : bt < base
  o6 : base ≤ w.heap.size
theorem CvS.up {w0 : World} {base gt bt : Nat} {h : NetH} {p : Fp} {n : Nat} {w w' : World} {cur : List Int} {v : Value} {outs : List Int} (s : CvS w0 base gt bt h p n w cur v outs) (hb : Below w.heap.size w w') : CvS w0 base gt bt h p n w' cur v outs :=
  ⟨s.low.trans (hb.mono s.low.size), s.q1.below hb s.q1.lt, s.q3.below hb s.q3.lt, s.qb.below hb s.qb.lt, s.qg.below hb s.qg.lt, own_below s.own hb, s.o1, s.o2, s.o3, s.o4, s.o5, Nat.le_trans s.o6 hb.size⟩
theorem CvS.put {w0 : World} {base gt bt : Nat} {h : NetH} {p : Fp} {n : Nat} {w : World} {cur : List Int} {v : Value} {outs : List Int} (s : CvS w0 base gt bt h p n w cur v outs) (k : Nat) (t : Int) : CvS w0 base gt bt h p n (w.setCell ⟨gt, k, none⟩ (.int .i64 t)) (cur.set k t) v outs := by
  have h1 := s.o1
  have h3 := s.o3
  have h4 := s.o4
  refine ⟨s.low.setCell (by simp; omega) _, s.q1.far (by simp; omega) _, s.q3.far (by simp; omega) _, s.qb.far (by simpa using Ne.symm h3) _, ?_, ?_, s.o1, s.o2, s.o3, s.o4, s.o5, by simpa using s.o6⟩
  · have h2 := s.qg.set_ k (.int .i64 t)
    have e : (ints cur).toArray.setIfInBounds k (.int .i64 t) = (ints (cur.set k t)).toArray := by simp [ints, List.map_set]
    rwa [e] at h2
  · exact ownsRow_setCell_below s.own (a := ⟨gt, k, none⟩) (by simpa using h4) _
theorem CvS.app {w0 : World} {base gt bt : Nat} {h : NetH} {p : Fp} {n : Nat} {w w' : World} {cur : List Int} {v v' : Value} {outs outs' : List Int} (s : CvS w0 base gt bt h p n w cur v outs) (hb : Below base w w') (hown : w'.ownsRow base 3 1 v' outs'.length (ints outs')) : CvS w0 base gt bt h p n w' cur v' outs' := by
  have h1 := s.o1
  have h4 := s.o4
  exact ⟨s.low.trans (hb.mono (by omega)), s.q1.below hb (by omega), s.q3.below hb (by omega), s.qb.below hb s.o5, s.qg.below hb s.o4, hown, s.o1, s.o2, s.o3, s.o4, s.o5, Nat.le_trans s.o6 hb.size⟩
end Go.Proofs.Ythedpegaelpbdaa
