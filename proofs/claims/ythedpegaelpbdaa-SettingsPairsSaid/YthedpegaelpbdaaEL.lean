/- The law SettingsPairs: the walk. -/
import Derived.Test.YthedpegaelpbdaaEH
import Derived.Deep.DeepCutAuto
namespace Go.Proofs.Ythedpegaelpbdaa
open Go.ChangeShapes Go.WideShapes Go.ChangeAt Go.RowKit Go.Joins Go.Deep
set_option linter.unusedVariables false
attribute [local go_sem ↓] execOp_call_val
attribute [local go_sem] callVal_func setCell_drewN alloc_drewN sEq_walk NetH.cells

def lexB (p q : Nat × Nat) : Prop := p.1 < q.1 ∨ (p.1 = q.1 ∧ p.2 < q.2)
def PrIn (r : List Cr) (q : Nat × Nat) : Prop := ∃ a b, r[q.1]? = some a ∧ r[q.2]? = some b ∧ a.branch ≠ b.branch
theorem pr1_mem {x : Net} {r : List Cr} {i k : Nat} {q : Nat × Nat} (h : q ∈ pr1 x r i k) : q = (i, k) ∧ PrIn r q := by
  unfold pr1 at h
  split at h
  · rename_i a b ha hb
    split at h
    · rename_i hp
      obtain rfl := List.mem_singleton.1 h
      unfold prB at hp
      rw [Bool.and_eq_true] at hp
      exact ⟨rfl, a, b, ha, hb, sEq_ff.1 (by simpa using hp.1)⟩
    · cases h
  · cases h
theorem pr1_pw (x : Net) (r : List Cr) (i k : Nat) : (pr1 x r i k).Pairwise lexB := by
  unfold pr1
  split
  · split
    · exact List.pairwise_singleton _ _
    · exact List.Pairwise.nil
  · exact List.Pairwise.nil
theorem prRow_ok (x : Net) (r : List Cr) (i : Nat) : ∀ m, (prRow x r i m).Pairwise lexB ∧ ∀ q ∈ prRow x r i m, q.1 = i ∧ q.2 < m ∧ PrIn r q
  | 0 => ⟨List.Pairwise.nil, fun q h => by cases h⟩
  | m + 1 => by
    obtain ⟨h1, h2⟩ := prRow_ok x r i m
    rw [prRow_succ]
    refine ⟨List.pairwise_append.2 ⟨h1, pr1_pw x r i m, fun a ha b hb => ?_⟩, fun q hq => ?_⟩
    · obtain ⟨ha1, ha2, _⟩ := h2 a ha
      obtain ⟨rfl, _⟩ := pr1_mem hb
      exact .inr ⟨ha1, ha2⟩
    · rcases List.mem_append.1 hq with h | h
      · obtain ⟨a1, a2, a3⟩ := h2 q h
        exact ⟨a1, by omega, a3⟩
      · obtain ⟨rfl, h3⟩ := pr1_mem h
        exact ⟨rfl, by simp, h3⟩
theorem prAll_ok (x : Net) (r : List Cr) : ∀ m, (prAll x r m).Pairwise lexB ∧ ∀ q ∈ prAll x r m, q.1 < m ∧ PrIn r q
  | 0 => ⟨List.Pairwise.nil, fun q h => by cases h⟩
  | m + 1 => by
    obtain ⟨h1, h2⟩ := prAll_ok x r m
    obtain ⟨g1, g2⟩ := prRow_ok x r m r.length
    rw [prAll_succ]
    refine ⟨List.pairwise_append.2 ⟨h1, g1, fun a ha b hb => ?_⟩, fun q hq => ?_⟩
    · have := (h2 a ha).1
      have := (g2 b hb).1
      exact .inl (by omega)
    · rcases List.mem_append.1 hq with h | h
      · obtain ⟨a1, a3⟩ := h2 q h
        exact ⟨by omega, a3⟩
      · obtain ⟨a1, _, a3⟩ := g2 q h
        exact ⟨by omega, a3⟩
theorem pairs_lex {x : Net} {r : List Cr} {k : Nat} {q p : Nat × Nat} (hq : (pairsR x r)[k]? = some q) (hp : (pairsR x r)[k + 1]? = some p) : lexB q p := by
  obtain ⟨h1, e1⟩ := List.getElem?_eq_some_iff.1 hq
  obtain ⟨h2, e2⟩ := List.getElem?_eq_some_iff.1 hp
  have h := List.pairwise_iff_getElem.1 (prAll_ok x r r.length).1 k (k + 1) h1 h2 (by omega)
  have e1' : (prAll x r r.length)[k] = q := e1
  have e2' : (prAll x r r.length)[k + 1] = p := e2
  rwa [e1', e2'] at h
set_option maxRecDepth 100000 in
set_option maxHeartbeats 8000000 in
theorem spairs_any (h : NetH) (x : Net) (RA : Option Addr) (rn rc : Nat) (r : List Ch) (w : World) (hR : RdNet w w.heap.size h x) (hC : RdCh w w.heap.size RA rn r) (hrc : rn ≤ rc) (hrcm : rc ≤ 9223372036854775807) :
    Calls Try.prog 12 #[.agg h.cells, .slice RA rn rc] w fun e w' => e = .returned (.bool true) ∧ Below w.heap.size w w' := by
  have HB0 : Hid (Below w.heap.size w (w.alloc (.cells h.cells 29))) := Lib.hid ((Below.refl _ _).alloc (Nat.le_refl _) _)
  have HR0 := Lib.hid (hR.up HB0.out)
  have HQ0 : Hid (Blk (w.alloc (.cells h.cells 29)) w.heap.size 29 h.cells) := Lib.hid (Blk.new w _ _)
  obtain ⟨k6, hk6, hkn, hm⟩ : ∃ k : Nat, k ≤ 6 ∧ k ≤ rn ∧ (if (6 : Int) < (rn : Int) then (6 : Int) else (rn : Int)) = (k : Int) := by
    by_cases h : (6 : Int) < (rn : Int)
    · exact ⟨6, by omega, by omega, by rw [if_pos h]; rfl⟩
    · exact ⟨rn, by omega, by omega, by rw [if_neg h]⟩
  have hkc : (k6 : Int) ≤ (rc : Int) := by omega
  have HC0 := Lib.hid (((hC.take hkn).below HB0.out (Nat.le_refl _)).more HB0.out.size)
  generalize r.take k6 = rr at HC0
  obtain ⟨A0, n0, c0, A1, n1, c1, A2, n2, c2, A3, n3, c3, A4, n4, c4, A5, n5, c5⟩ := h
  dsimp only [NetH.cells] at *
  clear hR hC
  go_enter Try.func12, Try.ntmps12
  go_wp2_with fail
  generalize w.alloc (.cells #[.slice A0 n0 c0, .slice A1 n1 c1, .slice A2 n2 c2, .slice A3 n3 c3, .slice A4 n4 c4, .slice A5 n5 c5] 29) = W0 at *
  refine (sworks_any W0).mono ?_
  rintro e w1 ⟨rfl, hb1⟩
  have HB1 := Lib.hid (HB0.out.trans (hb1.mono HB0.out.size))
  have HR1 := Lib.hid (HR0.out.up hb1)
  have HQ1 := Lib.hid (HQ0.out.below hb1 HQ0.out.lt)
  have HC1 := Lib.hid (HC0.out.up hb1)
  clear hb1
  obtain ⟨y0, y1, y2, y3, y4, y5, nf, nlt⟩ := net_box (h := ⟨A0, n0, c0, A1, n1, c1, A2, n2, c2, A3, n3, c3, A4, n4, c4, A5, n5, c5⟩) HQ1.out
  go_wp2_with fail
  clear y0 y1 y2 y3 y4 y5 nf nlt
  refine (pairs_any ⟨A0, n0, c0, A1, n1, c1, A2, n2, c2, A3, n3, c3, A4, n4, c4, A5, n5, c5⟩ x RA k6 rc rr w1 HR1.out HC1.out (by omega)).mono ?_
  rintro e w2 ⟨hb, ⟨hne, rfl⟩ | ⟨hz, PA, pc, rfl, hE⟩⟩
  · have HB2 := Lib.hid (HB1.out.trans (hb.mono HB1.out.size))
    generalize cckR x [] (rr.map Ch.r) = ck at *
    have h1 : (ck == 0) = false := by simpa using hne
    have h2 : (ck != 0) = true := by simpa using hne
    clear hb hne
    go_wp2_with fail
    go_ret
    exact ⟨rfl, HB2.out⟩
  · have HB2 := Lib.hid (HB1.out.trans (hb.mono HB1.out.size))
    have HC2 := Lib.hid (HC1.out.up hb)
    have HL := Lib.hid (fun k q p => pairs_lex (x := x) (r := rr.map Ch.r) (k := k) (q := q) (p := p))
    have HI := Lib.hid (fun q hq => ((prAll_ok x (rr.map Ch.r) (rr.map Ch.r).length).2 q hq).2)
    have HI : Hid (∀ q ∈ pairsR x (rr.map Ch.r), PrIn (rr.map Ch.r) q) := HI
    have HPL : Hid ((pairsR x (rr.map Ch.r)).length ≤ 36) := Lib.hid (by
      have h1 := prAll_len x (rr.map Ch.r) (rr.map Ch.r).length
      have h2 : (rr.map Ch.r).length ≤ 6 := by rw [List.length_map, HC2.out.len]; exact hk6
      have h3 := Nat.mul_le_mul h2 h2
      exact Nat.le_trans h1 h3)
    generalize pairsR x (rr.map Ch.r) = ps at *
    have HE2 := Lib.hid hE
    clear hb hz hE
    obtain ⟨pn, hpn⟩ : ∃ pn, ps.length = pn := ⟨_, rfl⟩
    have HPN := Lib.hid hpn
    rw [hpn] at HE2 HPL ⊢
    have hpl := HPL.out
    clear hpn hm hkc
    go_wp2_with fail
    go_loopw [29] (fun v29 wr => ∃ k : Nat, k ≤ pn ∧ v29 = .int .i64 k ∧ Below w2.heap.size w2 wr) (fun v29 _ => pn - (intOf v29).toNat)
    case atStart => exact ⟨0, by omega, rfl, Below.refl _ _⟩
    case round =>
      obtain ⟨k, hk, rfl, hb⟩ := hrel
      have HB := Lib.hid hb
      clear hb
      by_cases hlt : k < pn
      · obtain ⟨⟨xa, xb⟩, hx⟩ : ∃ y, ps[k]? = some y := ⟨_, List.getElem?_eq_getElem (by have := HPN.out; omega)⟩
        have hE := (HE2.out.below HB.out (Nat.le_refl _)).more HB.out.size
        obtain ⟨eb, eo, heA, heb⟩ := hE.form (by omega)
        subst heA
        obtain ⟨e0, e1⟩ := hE.at_ hx
        dsimp only at e0 e1
        obtain ⟨ra, rb, hra, hrb, hne⟩ := HI.out _ (List.mem_of_getElem? hx)
        dsimp only at hra hrb
        rw [List.getElem?_map] at hra hrb
        obtain ⟨z1, hz1, rfl⟩ := Option.map_eq_some_iff.1 hra
        obtain ⟨z2, hz2, rfl⟩ := Option.map_eq_some_iff.1 hrb
        have hl1 := (List.getElem?_eq_some_iff.1 hz1).1
        have hl2 := (List.getElem?_eq_some_iff.1 hz2).1
        rw [HC2.out.len] at hl1 hl2
        have hab : xa ≠ xb := fun h => by subst h; rw [hz1] at hz2; injection hz2 with h; subst h; exact hne rfl
        have hnB := sEq_ff.2 hne
        have HCW := Lib.hid (HC2.out.up HB.out)
        obtain ⟨b1, off1, hA1, hblt⟩ := HCW.out.form (by omega)
        subst hA1
        have hwl : wr.heap.size < (wr.alloc (.cells #[.int .i64 xa, .int .i64 xb] 83)).heap.size := by simp
        have HK0 := Lib.hid ((Below.refl wr.heap.size wr).alloc (Nat.le_refl _) (.cells #[.int .i64 xa, .int .i64 xb] 83))
        have HB3 := Lib.hid (HB.out.trans (HK0.out.mono HB.out.size))
        have HP3 := Lib.hid (Blk.new wr 83 #[.int .i64 xa, .int .i64 xb])
        have hkI : (k : Int) < (pn : Int) := by omega
        have HX := Lib.hid hx
        have HZ1 := Lib.hid hz1
        have HZ2 := Lib.hid hz2
        clear hx hE hra hrb hz1 hz2 hne
        go_wp2_with fail
        clear e0 e1
        have HC3 := Lib.hid (HCW.out.up HK0.out)
        have HE3 := Lib.hid (((HE2.out.below HB.out (Nat.le_refl _)).more HB.out.size).below HK0.out (Nat.le_refl _) |>.more HK0.out.size)
        generalize wr.alloc (.cells #[.int .i64 xa, .int .i64 xb] 83) = W at *
        generalize wr.heap.size = yb at *
        have hp0 := HP3.out.cell 0
        have hp1 := HP3.out.cell 1
        obtain ⟨c0, c1, c2, c3, c4, c5⟩ := HC3.out.at_ HZ1.out
        obtain ⟨d0, d1, d2, d3, d4, d5⟩ := HC3.out.at_ HZ2.out
        have hI1 : (xa : Int) < (k6 : Int) := by omega
        have hI2 : (xb : Int) < (k6 : Int) := by omega
        have hN1 : decide (k6 ≤ xa) = false := by simpa using hl1
        have hN2 : decide (k6 ≤ xb) = false := by simpa using hl2
        have hyl := HP3.out.lt
        have hbl : b1 < W.heap.size := by omega
        have hz1 : decide ((xa : Int) < 0) = false := by simp
        have hz2 : decide ((xb : Int) < 0) = false := by simp
        go_cut [64] (fun v wc => v = .bool false ∧ ∃ nq, wc = W.drewN nq)
        case first =>
          rcases Nat.lt_or_gt_of_ne hab with hab1 | hab1
          · have hq : ¬ xb < xa := by omega
            have hq2 : xa ≤ xb := by omega
            clear hab
            go_quiet (fail)
            go_wp2_with fail
            go_meet
            case rel => exact ⟨rfl, _, rfl⟩
          · have hq : ¬ xa < xb := by omega
            have hq2 : xb ≤ xa := by omega
            clear hab
            go_quiet (fail)
            go_wp2_with fail
            go_meet
            case rel => exact ⟨rfl, _, rfl⟩
        obtain ⟨rfl, nq, rfl⟩ := hcut
        clear c0 c1 c2 c3 c4 c5 d0 d1 d2 d3 d4 d5 hN1 hN2 hz1 hz2 hI1 hI2 hab hnB
        go_wp2_with fail
        by_cases hk0 : k = 0
        · subst hk0
          go_quiet (fail)
          go_wp2_with fail
          go_roundw
          case rel => exact ⟨1, by omega, rfl, below_drewN HB3.out _⟩
          case measure => simp [intOf]; omega
        · obtain ⟨⟨qa, qb⟩, hqx⟩ : ∃ y, ps[k - 1]? = some y := ⟨_, List.getElem?_eq_getElem (by have := HPN.out; omega)⟩
          have hlex := HL.out (k - 1) (qa, qb) (xa, xb) hqx (by rw [show k - 1 + 1 = k from by omega]; exact HX.out)
          have HLEX := Lib.hid hlex
          obtain ⟨f0, f1⟩ := HE3.out.at_ hqx
          dsimp only at f0 f1
          have g1 : 0 < k := by omega
          have g2 : (1 : Int) ≤ (k : Int) := by omega
          have g3 : IntKind.i64.wrap ((k : Int) - 1) = (k : Int) - 1 := Go.IntWalk.i64_in _ (by omega)
          have g4 : ((k : Int) - 1).toNat = k - 1 := by omega
          have g5 : (k : Int) - 1 < (pn : Int) := by omega
          have g6 : eb < W.heap.size := by omega
          have HLX : (qa < xa) ∨ (qa = xa ∧ qb < xb) := HLEX.out
          have HKS := Lib.hid hk0
          clear hqx hlex hk0
          rcases HLX with hlx | ⟨rfl, hlx⟩
          · have i1 : decide (xa < qa) = false := by simp; omega
            have i2 : ((qa : Int) == (xa : Int)) = false := by simp; omega
            go_quiet (fail)
            go_wp2_with fail
            go_roundw
            case rel => exact ⟨k + 1, by omega, by go_num, below_drewN HB3.out _⟩
            case measure => simp [intOf]; omega
          · have i1 : decide (xb ≤ qb) = false := by simp; omega
            go_quiet (fail)
            go_wp2_with fail
            go_roundw
            case rel => exact ⟨k + 1, by omega, by go_num, below_drewN HB3.out _⟩
            case measure => simp [intOf]; omega
      · go_wp2_with fail
        go_ret
        exact ⟨rfl, HB2.out.trans (HB.out.mono HB2.out.size)⟩
end Go.Proofs.Ythedpegaelpbdaa
