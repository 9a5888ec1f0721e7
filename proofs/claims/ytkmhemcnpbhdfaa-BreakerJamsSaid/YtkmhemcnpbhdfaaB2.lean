import Derived.Test.YtkmhemcnpbhdfaaB1
namespace Go.Proofs.Ytkmhemcnpbhdfaa
open Go.ChangeShapes Go.WideShapes Go.ChangeAt Go.RowKit
attribute [local go_sem ↓] execOp_call_val
attribute [local go_sem] callVal_func setCell_drewN alloc_drewN Br.cells





structure EInv (o c ch st k : Int) (B : Br) : Prop where
  io : B.o = o
  ic : B.c = c
  ich : B.ch = ch
  ist : B.st = st
  ij : B.jam = false
  ig : B.charged = 0
  ie : B.stored = st - k
  ok : B.Ok
  is : (k = 0 ∧ B.state = 2 ∧ B.now = 0 ∧ B.since = 0) ∨ (1 ≤ k ∧ B.state = 1 ∧ B.since = (k - 1) * (o + 1) + 1 ∧ B.now = B.since)

/-- nothing is stored before ch -/
theorem at_nocharge (b : Br) (t : Int) (h1 : b.charged = 0) (h2 : 0 ≤ t) (h3 : t < b.ch) : (b.at_ t).stored = b.stored ∧ (b.at_ t).charged = 0 := by
  unfold Br.at_ Br.withState Br.pre
  have : (t - b.charged) / b.ch = 0 := by rw [h1]; exact Int.ediv_eq_zero_of_lt (by omega) (by omega)
  rw [if_neg (by omega)]
  exact ⟨rfl, h1⟩

theorem EInv.open_ {o c ch st k : Int} {B : Br} (h : EInv o c ch st k B) (t : Int) (ht : k * (o + 1) ≤ t) (hk : 0 ≤ k) (hch : t < ch) :
    B.now ≤ t ∧ (B.at_ t).state = 2 ∧ (B.at_ t).stored = st - k ∧ (B.at_ t).charged = 0 ∧ 0 ≤ t := by
  obtain ⟨ho, hc, hch', hst, hj, hg, he, hok, hs⟩ := h
  have h1 := hok.o1
  have hexp : (k - 1) * (o + 1) = k * (o + 1) - (o + 1) := by rw [Int.sub_mul]; omega
  have hkk : 0 ≤ k * (o + 1) := Int.mul_nonneg hk (by omega)
  have ht0 : 0 ≤ t := by omega
  obtain ⟨e1, e2⟩ := at_nocharge B t hg ht0 (by omega)
  refine ⟨?_, ?_, by omega, e2, ht0⟩
  · rcases hs with ⟨_, _, _, _⟩ | ⟨_, _, _, _⟩ <;> omega
  · rw [at_state, hj]
    rcases hs with ⟨_, h2, _, _⟩ | ⟨_, h2, h3, _⟩
    · rw [h2]; rfl
    · rw [if_neg (by simp), if_pos ⟨h2, by omega⟩]

theorem EInv.next_ {o c ch st k : Int} {B : Br} (h : EInv o c ch st k B) (hk : 0 ≤ k) (hlt : k < st) (hch : 3 * (o + 1) < ch) (hst : st ≤ 3) (t : Int) (ht : k * (o + 1) = t) (t2 : t ≤ 2 * (o + 1)) :
    B.now ≤ t ∧ t ≤ 1000000000 ∧ (B.at_ t).state = 2 ∧ 1 ≤ (B.at_ t).stored ∧ (B.close t).Ok ∧ (B.close t).now = t ∧ (((B.close t).at_ (t + 1)).state = 0 ∨ ((B.close t).at_ (t + 1)).state = 3) ∧ EInv o c ch st (k + 1) ((B.close t).trip (t + 1)) := by
  have ho := h.ok.o1
  have ho2 := h.ok.o2
  have hio := h.io
  obtain ⟨a1, a2, a3, a4, a5⟩ := h.open_ t (by omega) hk (by omega)
  have ht9 : t ≤ 1000000000 := by omega
  have okc := h.ok.close a1 ht9 (by omega)
  obtain ⟨c1, c2, c3, c4, c5, c6, c7, c8, c9, c10⟩ := close_fields B t
  have hg : (B.close t).charged = 0 := by
    rw [c10]
    split
    · rename_i hq
      rw [a3, (at_fields B t).2.2.2.1, h.ist] at hq
      have : k = 0 := by omega
      subst this
      omega
    · exact a4
  have hn := at_nocharge (B.close t) (t + 1) hg (by omega) (by rw [c3, h.ich]; omega)
  have hstate : ((B.close t).at_ (t + 1)).state = 0 ∨ ((B.close t).at_ (t + 1)).state = 3 := by
    rw [at_state, c8, c6, h.ij]
    simp
    omega
  obtain ⟨t1, t2', t3, t4, t5, t6, t7, t8, t9, t10⟩ := trip_fields (B.close t) (t + 1)
  refine ⟨a1, ht9, a2, by omega, okc, c7, hstate, ⟨by rw [t1, c1, h.io], by rw [t2', c2, h.ic], by rw [t3, c3, h.ich], by rw [t4, c4, h.ist], by rw [t6, c6, h.ij], by rw [t10, hn.2], by rw [t9, hn.1, c9, a3]; omega, okc.trip (by omega) (by omega), .inr ⟨by omega, t8, ?_, by rw [t7, t5]⟩⟩⟩
  rw [t5, show k + 1 - 1 = k from by omega, ht]

theorem at_stored (b : Br) (t : Int) : (b.at_ t).stored = (b.pre t).stored := rfl
theorem at_charged (b : Br) (t : Int) : (b.at_ t).charged = (b.pre t).charged := rfl

theorem EInv.end_ {o c ch st : Int} {B : Br} (h : EInv o c ch st st B) (hch : 3 * (o + 1) < ch) (hst : st ≤ 3) (hst1 : 1 ≤ st) :
    B.now ≤ ch - 1 ∧ (B.at_ (ch - 1)).stored = 0 ∧ (B.at_ (ch - 1)).Ok ∧ (B.at_ (ch - 1)).now = ch - 1 ∧ ((B.at_ (ch - 1)).at_ (ch - 1)).state = 2 ∧ ((B.at_ (ch - 1)).at_ (ch - 1)).stored = 0 ∧
    ((B.at_ (ch - 1)).at_ ch).stored = 1 ∧ ((B.at_ (ch - 1)).at_ ch).Ok ∧ ((B.at_ (ch - 1)).at_ ch).now = ch ∧ (((B.at_ (ch - 1)).at_ ch).at_ ch).state = 2 ∧ (((B.at_ (ch - 1)).at_ ch).at_ ch).stored = 1 := by
  have ho := h.ok.o1
  have hch2 := h.ok.ch2
  have hio := h.io
  have hich := h.ich
  have hist := h.ist
  have hm : st * (o + 1) ≤ 3 * (o + 1) := Int.mul_le_mul_of_nonneg_right hst (by omega)
  obtain ⟨a1, a2, a3, a4, a5⟩ := h.open_ (ch - 1) (by omega) (by omega) (by omega)
  obtain ⟨f1, f2, f3, f4, f5, f6, f7⟩ := at_fields B (ch - 1)
  have okA := h.ok.at_ (t := ch - 1) a1 (by omega)
  obtain ⟨b1, b2⟩ := at_nocharge (B.at_ (ch - 1)) (ch - 1) a4 a5 (by omega)
  have hst2 : ((B.at_ (ch - 1)).at_ (ch - 1)).state = 2 := by rw [at_state, a2, f6, h.ij]; rfl
  have okC := okA.at_ (t := ch) (by omega) (by omega)
  have hpre : ((B.at_ (ch - 1)).pre ch) = { B.at_ (ch - 1) with now := ch, stored := 1, charged := ch } := by
    unfold Br.pre
    have hd : (ch - (B.at_ (ch - 1)).charged) / (B.at_ (ch - 1)).ch = 1 := by rw [a4, f3, hich]; rw [Int.sub_zero]; exact Int.ediv_self (by omega)
    rw [hd, if_pos ⟨by omega, by omega⟩, if_pos (by omega), a3, a4, f3, hich]
    simp [f3, hich]
  have hs1 : ((B.at_ (ch - 1)).at_ ch).stored = 1 := by rw [at_stored, hpre]
  have hs2 : ((B.at_ (ch - 1)).at_ ch).charged = ch := by rw [at_charged, hpre]
  obtain ⟨g1, g2, g3, g4, g5, g6, g7⟩ := at_fields (B.at_ (ch - 1)) ch
  have hst3 : ((B.at_ (ch - 1)).at_ ch).state = 2 := by rw [at_state, a2, f6, h.ij]; rfl
  have hst4 : (((B.at_ (ch - 1)).at_ ch).at_ ch).state = 2 := by rw [at_state, hst3, g6, f6, h.ij]; rfl
  have hpre2 : (((B.at_ (ch - 1)).at_ ch).pre ch) = { (B.at_ (ch - 1)).at_ ch with now := ch } := by
    unfold Br.pre
    rw [hs2, Int.sub_self, Int.zero_ediv, if_neg (by omega)]
    simp [hs2]
  have hs3 : (((B.at_ (ch - 1)).at_ ch).at_ ch).stored = 1 := by
    rw [at_stored, hpre2]
    exact hs1
  exact ⟨a1, by omega, okA, f7, hst2, by omega, hs1, okC, g7, hst4, hs3⟩
end Go.Proofs.Ytkmhemcnpbhdfaa
