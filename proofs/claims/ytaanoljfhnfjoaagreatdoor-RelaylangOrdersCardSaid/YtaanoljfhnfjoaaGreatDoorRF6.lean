/- The parser of package relaylang: chain. -/
import Derived.Test.YtaanoljfhnfjoaaGreatDoorRF4
import Derived.Test.YtaanoljfhnfjoaaGreatDoorRF5
import Derived.Deep.LoopGhost
namespace Go.Proofs.YtaanoljfhnfjoaaGreatDoor
open Go.ChangeShapes Go.WideShapes Go.ChangeAt Go.RowKit
set_option linter.unusedVariables false
set_option linter.unusedSimpArgs false
attribute [local go_sem ↓] execOp_call_val
attribute [local go_sem] callVal_func setCell_drewN alloc_drewN sEq_walk

theorem OwnS.grown {S : Value → Prop} {w w' : World} {base e size n g : Nat} {v : Value} {xs : List Value} (h : OwnS S w base e size v n xs) (k : w.grownBy w' (some g)) (hg : g < base) : OwnS S w' base e size v n xs := by
  refine ⟨h.1, ?_⟩
  rcases h.2 with h1 | ⟨b, cap, cur, h1, h2, h3, h4⟩
  · exact .inl h1
  · exact .inr ⟨b, cap, cur, h1, h2, h3.grown k (by intro e; injection e with e; omega), h4⟩
theorem OwnS.base {S : Value → Prop} {w : World} {base base' e size n : Nat} {v : Value} {xs : List Value} (h : OwnS S w base e size v n xs) (hb : base' ≤ base) : OwnS S w base' e size v n xs := by
  refine ⟨h.1, ?_⟩
  rcases h.2 with h1 | ⟨b, cap, cur, h1, h2, h4⟩
  · exact .inl h1
  · exact .inr ⟨b, cap, cur, h1, Nat.le_trans hb h2, h4⟩
theorem OwnS.rdNd {S : Value → Prop} {w : World} {base : Nat} {v : Value} {l : List Nd} (h : OwnS S w base 41 3 v l.length (l.flatMap Nd.cells)) : ∃ A c, v = .slice A l.length c ∧ RdNd w w.heap.size A l.length l ∧ l.length ≤ c ∧ c ≤ maxLen := by
  obtain ⟨A, c, h1, h2, h3, h4, _⟩ := own_rd h.own
  exact ⟨A, c, h1, ⟨rfl, h2⟩, h3, h4⟩
/-- a row of nodes that is owned -/
def OwnN (w : World) (base : Nat) (v : Value) (l : List Nd) : Prop := OwnS AnyV w base 41 3 v l.length (l.flatMap Nd.cells)
/-- what a part of the parser does -/
def PartE (p : Part) (g : Nat) (s : ByteArray) (bad : Bool) (w : World) (e : Ending) (w' : World) : Prop :=
  w.grownBy w' (some g) ∧ ∃ l v s' bad', e = .returned v ∧ OwnN w' w.heap.size v l ∧ Par w' g s' bad' ∧ s'.size ≤ s.size ∧ l.length + 2 * s'.size ≤ 2 * s.size + 1 ∧
    ((bad = false ∧ bad' = false ∧ p (bbs s) = some (l, bbs s')) ∨ (bad' = true ∧ (bad = true ∨ p (bbs s) = none)))
def PartOk (F : FuncId) (n : Nat) (p : Part) : Prop := ∀ (g : Nat) (s : ByteArray) (bad : Bool) (w : World), Par w g s bad → s.size < n → s.size ≤ 8192 → EnvG w g → Calls Tryz.prog F #[.pointer (some ⟨g, 0, none⟩)] w (PartE p g s bad w)

def nd0 (op : Int) : Nd := ⟨op, ⟨#[]⟩, 0⟩
theorem chain_none {w : Bs} {op : Int} {p : Part} {l : List Nd} {s : Bs} (h : takeP w s = none) : chainGo w op p s.length l s = some (l, s) := by
  cases hs : s.length with
  | zero => rfl
  | succ k => simp only [chainGo, h]
theorem chain_bad {w : Bs} {op : Int} {p : Part} {l : List Nd} {s r : Bs} (hw : 1 ≤ w.length) (h : takeP w s = some r) (hp : p r = none) : chainGo w op p s.length l s = none := by
  have := takeP_len h
  obtain ⟨k, hk⟩ : ∃ k, s.length = k + 1 := ⟨s.length - 1, by omega⟩
  rw [hk]
  simp only [chainGo, h, hp]
theorem chain_step {w : Bs} {op : Int} {p : Part} {l : List Nd} {s r : Bs} {q : List Nd × Bs} (hS : Shr p) (hw : 1 ≤ w.length) (h : takeP w s = some r) (hp : p r = some q) : chainGo w op p s.length l s = chainGo w op p q.2.length (nd0 op :: (l ++ q.1)) q.2 := by
  have h1 := takeP_len h
  have h2 := hS _ _ hp
  obtain ⟨k, hk⟩ : ∃ k, s.length = k + 1 := ⟨s.length - 1, by omega⟩
  rw [hk]
  simp only [chainGo, h, hp]
  exact chain_fuel hS hw _ _ _ _ (by omega) (Nat.le_refl _)
theorem chainP_of {w : Bs} {op : Int} {p : Part} {s : Bs} {q : List Nd × Bs} (h : p s = some q) : chainP w op p s = chainGo w op p q.2.length q.1 q.2 := by unfold chainP; rw [h]
theorem chainP_no {w : Bs} {op : Int} {p : Part} {s : Bs} (h : p s = none) : chainP w op p s = none := by unfold chainP; rw [h]
theorem concat3_any (w : World) (b4 : Nat) (x : Nd) (A2 A5 : Option Addr) (k2 k5 : Nat) (l l5 : List Nd) (hlt : Blk w b4 41 #[.int .i64 x.op, .string x.name, .int .i64 x.value]) (h2 : RdNd w w.heap.size A2 l.length l) (h5 : RdNd w w.heap.size A5 l5.length l5) (hl : l.length + l5.length ≤ 100000) :
    Calls Tryz.prog 63 #[.slice (some ⟨w.heap.size, 0, none⟩) 3 3] (w.alloc (.cells #[.slice (some ⟨b4, 0, none⟩) 1 1, .slice A2 l.length k2, .slice A5 l5.length k5] 37)) fun e w' => ∃ v, e = .returned v ∧ Below w.heap.size w w' ∧ OwnN w' w.heap.size v (x :: (l ++ l5)) := by
  have hb : Below w.heap.size w (w.alloc (.cells #[.slice (some ⟨b4, 0, none⟩) 1 1, .slice A2 l.length k2, .slice A5 l5.length k5] 37)) := (Below.refl _ _).alloc (Nat.le_refl _) _
  have hg : Blk (w.alloc (.cells #[.slice (some ⟨b4, 0, none⟩) 1 1, .slice A2 l.length k2, .slice A5 l5.length k5] 37)) w.heap.size 37 #[.slice (some ⟨b4, 0, none⟩) 1 1, .slice A2 l.length k2, .slice A5 l5.length k5] := Blk.new _ _ _
  have hl4 := hlt.below hb hlt.lt
  have e1 : RdNd (w.alloc (.cells #[.slice (some ⟨b4, 0, none⟩) 1 1, .slice A2 l.length k2, .slice A5 l5.length k5] 37)) (w.alloc (.cells #[.slice (some ⟨b4, 0, none⟩) 1 1, .slice A2 l.length k2, .slice A5 l5.length k5] 37)).heap.size (some ⟨b4, 0, none⟩) 1 [x] := ⟨rfl, rfl, fun _ => ⟨b4, 0, rfl, hl4.lt, fun j u hu => by
    rw [Nat.zero_add, hl4.cell j]
    simpa [Nd.cells] using hu⟩⟩
  have e2 := h2.up hb
  have e5 := h5.up hb
  generalize hw : (w.alloc (.cells #[.slice (some ⟨b4, 0, none⟩) 1 1, .slice A2 l.length k2, .slice A5 l5.length k5] 37)) = w1 at *
  refine (concatNd_any w.heap.size 0 3 3 [⟨some ⟨b4, 0, none⟩, 1, 1, [x]⟩, ⟨A2, l.length, k2, l⟩, ⟨A5, l5.length, k5, l5⟩] w1 rfl ⟨rfl, fun _ => ⟨w.heap.size, 0, rfl, hg.lt, fun j u hu => ?_⟩⟩ ?_ ?_ (by omega)).mono ?_
  · rw [Nat.zero_add, hg.cell j]
    simpa [Hn.val] using hu
  · intro h hh
    simp only [List.mem_cons, List.not_mem_nil, or_false] at hh
    rcases hh with rfl | rfl | rfl
    · exact e1
    · exact e2
    · exact e5
  · simp only [hsum]; omega
  · rintro e w' ⟨v, rfl, hb2, ho⟩
    refine ⟨v, rfl, hb.trans (hb2.mono hb.size), ?_⟩
    have hl : hsum [⟨some ⟨b4, 0, none⟩, 1, 1, [x]⟩, ⟨A2, l.length, k2, l⟩, ⟨A5, l5.length, k5, l5⟩] = (x :: (l ++ l5)).length := by simp [hsum]; omega
    have hc : hcat [⟨some ⟨b4, 0, none⟩, 1, 1, [x]⟩, ⟨A2, l.length, k2, l⟩, ⟨A5, l5.length, k5, l5⟩] = x :: (l ++ l5) := by simp [hcat]
    rw [hl, hc] at ho
    exact ho.base hb.size
set_option maxRecDepth 100000 in
set_option maxHeartbeats 4000000 in
theorem chain_any (F : FuncId) (hF : ∀ (args : Array Value) (w : World), (callFunc F args).run Tryz.prog w = .ok (.enter F args) w) (n : Nat) (p : Part) (hP : PartOk F n p) (hS : Shr p) (k : ByteArray) (op : Int) (hk : 1 ≤ k.size) (ho : 0 ≤ op ∧ op ≤ 100) (g : Nat) (s : ByteArray) (bad : Bool) (w : World) (hB : Par w g s bad) (hn : s.size < n) (hs : s.size ≤ 8192) (hE : EnvG w g) :
    Calls Tryz.prog 51 #[.pointer (some ⟨g, 0, none⟩), .string k, .int .i64 op, .func (.func F) #[.pointer (some ⟨g, 0, none⟩)] #[]] w (PartE (chainP (bbs k) op p) g s bad w) := by
  have HP : Hid (∀ e w', PartE (chainP (bbs k) op p) g s bad w e w' = (w.grownBy w' (some g) ∧ ∃ l v s' bad', e = .returned v ∧ OwnN w' w.heap.size v l ∧ Par w' g s' bad' ∧ s'.size ≤ s.size ∧ l.length + 2 * s'.size ≤ 2 * s.size + 1 ∧
    ((bad = false ∧ bad' = false ∧ chainP (bbs k) op p (bbs s) = some (l, bbs s')) ∨ (bad' = true ∧ (bad = true ∨ chainP (bbs k) op p (bbs s) = none))))) := Lib.hid fun _ _ => rfl
  have HE := Lib.hid hE
  have HPK := Lib.hid hP
  have HSS := Lib.hid hS
  have HB0 := Lib.hid hB
  have hgl := hB.lt
  have HK1 := Lib.hid hk
  clear hE hP hS hB hk
  go_enter Tryz.func51, Tryz.ntmps51
  go_wp2_with fail
  refine (HPK.out g s bad w HB0.out hn hs HE.out).mono ?_
  rintro e w1 ⟨hg1, l1, v1, s1, b1, rfl, ho1, hp1, hs1, hl1, hc1⟩
  have HG1 := Lib.hid hg1
  have HO1 := Lib.hid ho1
  have HP1 := Lib.hid hp1
  have HC1 : Hid ((bad = false ∧ b1 = false ∧ chainP (bbs k) op p (bbs s) = chainGo (bbs k) op p (bbs s1).length l1 (bbs s1)) ∨ (b1 = true ∧ (bad = true ∨ chainP (bbs k) op p (bbs s) = none))) := Lib.hid (by
    rcases hc1 with ⟨a, b, c⟩ | ⟨a, b⟩
    · exact .inl ⟨a, b, chainP_of c⟩
    · exact .inr ⟨a, b.elim .inl fun c => .inr (chainP_no c)⟩)
  have HL1 := Lib.hid hl1
  have HS1 := Lib.hid hs1
  clear hg1 ho1 hp1 hc1 hl1 hs1
  have HSS1 := Lib.hid (show s.size ≤ 8192 from hs)
  have HN1 := Lib.hid hn
  have hgB := HB0.out.lt
  have HGB := Lib.hid hgB
  clear hs hn hgB
  go_wp2_with fail
  go_loopg [9] s1.size (fun f v9 wr => ∃ (l : List Nd) (s2 : ByteArray) (b2 : Bool), f = s2.size ∧ w.grownBy wr (some g) ∧ OwnN wr w.heap.size v9 l ∧ Par wr g s2 b2 ∧ s2.size ≤ s.size ∧ l.length + 2 * s2.size ≤ 2 * s.size + 1 ∧
    ((bad = false ∧ b2 = false ∧ chainP (bbs k) op p (bbs s) = chainGo (bbs k) op p (bbs s2).length l (bbs s2)) ∨ (b2 = true ∧ (bad = true ∨ chainP (bbs k) op p (bbs s) = none))))
  case atStart => exact ⟨l1, s1, b1, rfl, HG1.out, HO1.out, HP1.out, HS1.out, HL1.out, HC1.out⟩
  case round =>
    obtain ⟨l, s2, b2, rfl, hg2, ho2, hp2, hs2, hl2, hc2⟩ := hrel
    have c1 := hp2.cell 1
    have cl := hp2.lt
    have cf := hp2.frozen
    have HG2 := Lib.hid hg2
    have HO2 := Lib.hid ho2
    have HP2 := Lib.hid hp2
    have HS2 := Lib.hid hs2
    have HL2 := Lib.hid hl2
    have HC2 := Lib.hid hc2
    clear hg2 ho2 hp2 hs2 hl2 hc2
    cases b2 with
    | true =>
      have HC3 : Hid (bad = true ∨ chainP (bbs k) op p (bbs s) = none) := Lib.hid (by
        rcases HC2.out with ⟨_, h, _⟩ | ⟨_, h⟩
        · cases h
        · exact h)
      go_wp2_with fail
      go_ret
      rw [HP.out]
      exact ⟨HG2.out, l, _, s2, true, rfl, HO2.out, HP2.out, HS2.out, HL2.out, .inr ⟨rfl, HC3.out⟩⟩
    | false =>
      have HC3 : Hid (bad = false ∧ chainP (bbs k) op p (bbs s) = chainGo (bbs k) op p (bbs s2).length l (bbs s2)) := Lib.hid (by
        rcases HC2.out with ⟨h1, _, h⟩ | ⟨h, _⟩
        · exact ⟨h1, h⟩
        · cases h)
      clear HC2
      go_wp2_with fail
      refine (take_any g s2 k false wr HP2.out (Nat.le_trans HS2.out HSS1.out)).mono ?_
      rintro e w3 ⟨hg3, hcs⟩
      have HG3 := Lib.hid (only_trans HG2.out hg3)
      have HO3 := Lib.hid (HO2.out.grown hg3 HGB.out)
      clear hg3
      rcases hcs with ⟨hn, rfl, hp3⟩ | ⟨r, hr, rfl, hp3⟩
      · have HP3 := Lib.hid hp3
        have HCN : Hid (chainP (bbs k) op p (bbs s) = some (l, bbs s2)) := Lib.hid (by rw [HC3.out.2]; exact chain_none hn)
        clear hn hp3
        go_wp2_with fail
        go_ret
        rw [HP.out]
        exact ⟨HG3.out, l, _, s2, false, rfl, HO3.out, HP3.out, HS2.out, HL2.out, .inl ⟨HC3.out.1, rfl, HCN.out⟩⟩
      · have HP3 := Lib.hid hp3
        have HR := Lib.hid hr
        have htl := takeP_len hr
        have hrs : (bbs s2).length = k.size + (bsB r).size := htl
        have hrs2 : s2.size = k.size + (bsB r).size := hrs
        have HRS := Lib.hid hrs2
        obtain ⟨A2, k2, rfl, hrd2, hk2, _⟩ := HO3.out.rdNd
        clear hr hp3 htl hrs hrs2 hrd2 hk2 c1 cl cf
        go_wp2_with fail
        have hb4 : Below w3.heap.size w3 (w3.alloc (.cells #[.int .i64 op, .string ⟨#[]⟩, .int .i64 0] 41)) := (Below.refl _ _).alloc (Nat.le_refl _) _
        have HLT : Hid (Blk (w3.alloc (.cells #[.int .i64 op, .string ⟨#[]⟩, .int .i64 0] 41)) w3.heap.size 41 #[.int .i64 op, .string ⟨#[]⟩, .int .i64 0]) := Lib.hid (Blk.new _ _ _)
        generalize (w3.alloc (.cells #[.int .i64 op, .string ⟨#[]⟩, .int .i64 0] 41)) = w4 at *
        have HG4 := Lib.hid (only_trans HG3.out (only_of_below hb4 (some g)))
        have HO4 := Lib.hid (HO3.out.keep hb4)
        have HP4 := Lib.hid (HP3.out.below hb4 HP3.out.lt)
        have HGL3 : Hid (g < w3.heap.size) := Lib.hid HP3.out.lt
        obtain ⟨b4, hb4e⟩ : ∃ q, q = w3.heap.size := ⟨_, rfl⟩
        rw [← hb4e] at HLT HGL3 ⊢
        clear hb4 hb4e HO3 HP3
        refine (HPK.out g (bsB r) false w4 HP4.out (by have := HRS.out; have := HS2.out; have := HN1.out; omega) (by have := HRS.out; have := HS2.out; have := HSS1.out; omega) (HE.out.grown HG4.out)).mono ?_
        rintro e w5 ⟨hg5, l5, v5, s5, b5, rfl, ho5, hp5, hs5, hl5, hc5⟩
        have HG5 := Lib.hid (only_trans HG4.out hg5)
        have HO5 := Lib.hid (HO4.out.grown hg5 HGB.out)
        have HLT5 := Lib.hid (HLT.out.grown hg5 (by intro e; injection e with e; have := HGL3.out; omega))
        have HP5 := Lib.hid hp5
        have HS5 := Lib.hid hs5
        have HL5 := Lib.hid hl5
        have HC5 : Hid ((bad = false ∧ b5 = false ∧ chainP (bbs k) op p (bbs s) = chainGo (bbs k) op p (bbs s5).length (nd0 op :: (l ++ l5)) (bbs s5)) ∨ (b5 = true ∧ (bad = true ∨ chainP (bbs k) op p (bbs s) = none))) := Lib.hid (by
          rcases hc5 with ⟨_, h2, h3⟩ | ⟨h1, h2⟩
          · exact .inl ⟨HC3.out.1, h2, by rw [HC3.out.2]; exact chain_step HSS.out HK1.out HR.out h3⟩
          · refine .inr ⟨h1, .inr ?_⟩
            rcases h2 with h2 | h2
            · cases h2
            · rw [HC3.out.2]; exact chain_bad HK1.out HR.out h2)
        have HRN5 : Hid (w4.heap.size ≤ w5.heap.size ∧ w.heap.size ≤ w4.heap.size) := Lib.hid ⟨hg5.size, HG4.out.size⟩
        obtain ⟨A5, k5, rfl, hrd5, hk5, _⟩ := OwnS.rdNd ho5
        have HRD5 := Lib.hid hrd5
        have HRD2 : Hid (RdNd w5 w5.heap.size A2 l.length l) := Lib.hid (by
          obtain ⟨A', c', e1, e2, _⟩ := HO5.out.rdNd
          injection e1 with e1 e3 e4
          subst e1
          exact e2)
        clear hg5 ho5 hp5 hs5 hl5 hc5 hrd5 hk5 HO4 HP4 HG4 HLT HC3 HR HG3
        go_wp2_with fail
        refine (concat3_any w5 b4 (nd0 op) A2 A5 k2 k5 l l5 HLT5.out HRD2.out HRD5.out (by have := HL2.out; have := HL5.out; have := HRS.out; have := HS2.out; have := HSS1.out; omega)).mono ?_
        rintro e w6 ⟨v6, rfl, hb6, ho6⟩
        have HG6 := Lib.hid (only_trans HG5.out (only_of_below hb6 (some g)))
        have HO6 : Hid (OwnN w6 w.heap.size v6 (nd0 op :: (l ++ l5))) := Lib.hid (ho6.base HG5.out.size)
        have HP6 := Lib.hid (HP5.out.below hb6 HP5.out.lt)
        clear hb6 ho6
        go_wp2_with fail
        go_roundg s5.size
        case rel =>
          have h1 := HS5.out
          have h2 := HL5.out
          have h3 := HRS.out
          have h4 := HS2.out
          have h5 := HL2.out
          have h6 := HK1.out
          refine ⟨nd0 op :: (l ++ l5), s5, b5, rfl, HG6.out, HO6.out, HP6.out, by omega, ?_, HC5.out⟩
          rw [List.length_cons, List.length_append]
          omega
        case measure => have h1 := HS5.out; have h3 := HRS.out; have h6 := HK1.out; omega
end Go.Proofs.YtaanoljfhnfjoaaGreatDoor
