/- The law ChooseSmallest: the walk. -/
import Derived.Test.YthedpegaelpbdaaGH
import Derived.Test.YthedpegaelpbdaaGHP
namespace Go.Proofs.Ythedpegaelpbdaa
open Go.ChangeShapes Go.WideShapes Go.ChangeAt Go.RowKit
set_option linter.unusedVariables false
attribute [local go_sem ↓] execOp_call_val
attribute [local go_sem] callVal_func setCell_drewN alloc_drewN sEq_walk NetH.cells

/-- what Least answers, as ChooseSmallest needs it -/
theorem least_small {x : Net} {p : Fp} {w : World} {e : Ending} {w' : World} (h : LstP x p w e w') : Below w.heap.size w w' ∧ ∃ A ln c jl, e = .returned (.tuple #[.slice A ln c, .int .i64 jl]) ∧
    ∀ os : List ByteArray, cpR x p = 0 → isoB x os p = true → (∀ s ∈ os, ∀ z ∈ x.sws, z.name = s → z.breaker = true) → jl = 0 ∧ ln ≤ os.length := by
  obtain ⟨hb, ⟨h1, h2⟩ | ⟨h1, h2, h3⟩ | ⟨h1, es, l, j, A, c, h2, h3, _⟩⟩ := h
  · exact ⟨hb, _, _, _, _, h2, fun os a _ _ => absurd a h1⟩
  · exact ⟨hb, _, _, _, _, h3, fun os a b c => absurd h2 (small_law a b c).1⟩
  · exact ⟨hb, _, _, _, _, h3, fun os a b c => ⟨rfl, (small_law a b c).2 _ _ _ h2⟩⟩
theorem iso_alts {x : Net} {p : Fp} {o1 : List ByteArray} {b1 : Bool} {j1 : Int}
    (h1 : (cpR x p ≠ 0 ∧ b1 = false ∧ j1 = cpR x p) ∨ (cpR x p = 0 ∧ (∃ s ∈ o1, ¬ swOk x s) ∧ b1 = false ∧ j1 = 6) ∨ (cpR x p = 0 ∧ (∀ s ∈ o1, swOk x s) ∧ b1 = isoB x o1 p ∧ j1 = 0)) :
    (b1 = false ∧ j1 ≠ 0) ∨ (b1 = false ∧ j1 = 0) ∨ (j1 = 0 ∧ b1 = true ∧ cpR x p = 0 ∧ isoB x o1 p = true) := by
  rcases h1 with ⟨a, b, c⟩ | ⟨a, b, c, d⟩ | ⟨a, b, c, d⟩
  · exact .inl ⟨b, by rw [c]; exact a⟩
  · exact .inl ⟨c, by rw [d]; decide⟩
  · cases hb : b1 with
    | false => exact .inr (.inl ⟨rfl, d⟩)
    | true => exact .inr (.inr ⟨d, rfl, a, by rw [← c, hb]⟩)
set_option maxRecDepth 100000 in
set_option maxHeartbeats 1600000 in
theorem chsmall_any (h : NetH) (x : Net) (p : Fp) (O : Option Addr) (on oc : Nat) (opens : List ByteArray) (w : World) (hR : RdNet w w.heap.size h x) (hO : RdStr w w.heap.size O on opens) (hon : on ≤ oc) (hoc : oc ≤ 9223372036854775807) :
    Calls Try.prog 4 #[.agg h.cells, .agg #[.string p.branch, .int .i64 p.part], .slice O on oc] w fun e w' => e = .returned (.bool true) ∧ Below w.heap.size w w' := by
  have hB0 : Below w.heap.size w ((w.alloc (.cells h.cells 29)).alloc (.cells #[.string p.branch, .int .i64 p.part] 31)) := ((Below.refl _ _).alloc (Nat.le_refl _) _).alloc (by simp) _
  have HB0 := Lib.hid hB0
  have HR0 := Lib.hid hR
  have HQ0 : Hid (Blk ((w.alloc (.cells h.cells 29)).alloc (.cells #[.string p.branch, .int .i64 p.part] 31)) w.heap.size 29 h.cells) := Lib.hid ((Blk.new w _ _).alloc _)
  have HP0 : Hid (Blk ((w.alloc (.cells h.cells 29)).alloc (.cells #[.string p.branch, .int .i64 p.part] 31)) (w.heap.size + 1) 31 #[.string p.branch, .int .i64 p.part]) := Lib.hid (Blk.new_ (by simp))
  obtain ⟨A0, n0, c0, A1, n1, c1, A2, n2, c2, A3, n3, c3, A4, n4, c4, A5, n5, c5⟩ := h
  dsimp only [NetH.cells] at *
  obtain ⟨k, hk8, hkn, hm⟩ : ∃ k : Nat, k ≤ 8 ∧ k ≤ on ∧ (if (8 : Int) < (on : Int) then (8 : Int) else (on : Int)) = (k : Int) := by
    by_cases h : (8 : Int) < (on : Int)
    · exact ⟨8, by omega, by omega, by rw [if_pos h]; rfl⟩
    · exact ⟨on, by omega, by omega, by rw [if_neg h]⟩
  have hkc : (k : Int) ≤ (oc : Int) := by omega
  have HK8 := Lib.hid hk8
  have hot := hO.take hkn
  generalize opens.take k = os at hot
  have HOT0 := Lib.hid hot
  have HLO := Lib.hid hot.1
  have HL1 : Hid (x.sws.length = n1) := Lib.hid hR.r1.1
  have hn1 : (n1 : Int) ≤ 9223372036854775807 := by have h : n1 ≤ 9223372036854775807 := hR.m1; omega
  clear hB0 hR hO hot
  go_enter Try.func4, Try.ntmps4
  go_wp2_with fail
  generalize (w.alloc (.cells #[.slice A0 n0 c0, .slice A1 n1 c1, .slice A2 n2 c2, .slice A3 n3 c3, .slice A4 n4 c4, .slice A5 n5 c5] 29)).alloc (.cells #[.string p.branch, .int .i64 p.part] 31) = W0 at *
  refine (cworks_any _).mono ?_
  rintro e w1 ⟨rfl, k1⟩
  have HB1 := Lib.hid (HB0.out.trans (k1.mono HB0.out.size))
  have HQ1 := Lib.hid (HQ0.out.below k1 HQ0.out.lt)
  have HP1 := Lib.hid (HP0.out.below k1 HP0.out.lt)
  clear k1
  obtain ⟨y0, y1, y2, y3, y4, y5, nf, nlt⟩ := net_box (h := ⟨A0, n0, c0, A1, n1, c1, A2, n2, c2, A3, n3, c3, A4, n4, c4, A5, n5, c5⟩) HQ1.out
  obtain ⟨p0, p1, pf, plt⟩ := check_box HP1.out
  go_wp2_with fail
  clear y0 y1 y2 y3 y4 y5 nf nlt p0 p1 pf plt
  refine (cleast_any ⟨A0, n0, c0, A1, n1, c1, A2, n2, c2, A3, n3, c3, A4, n4, c4, A5, n5, c5⟩ x p w1 (HR0.out.up HB1.out)).mono ?_
  intro e w2 hp
  obtain ⟨k2, L, ln, lc, jl, rfl, hls⟩ := least_small hp
  have HB2 := Lib.hid (HB1.out.trans (k2.mono HB1.out.size))
  have HQ2 := Lib.hid (HQ1.out.below k2 HQ1.out.lt)
  have HP2 := Lib.hid (HP1.out.below k2 HP1.out.lt)
  have HLS := Lib.hid (hls os)
  clear k2 hp hls
  obtain ⟨y0, y1, y2, y3, y4, y5, nf, nlt⟩ := net_box (h := ⟨A0, n0, c0, A1, n1, c1, A2, n2, c2, A3, n3, c3, A4, n4, c4, A5, n5, c5⟩) HQ2.out
  obtain ⟨p0, p1, pf, plt⟩ := check_box HP2.out
  go_wp2_with fail
  clear y0 y1 y2 y3 y4 y5 nf nlt p0 p1 pf plt
  refine (isolated_any ⟨A0, n0, c0, A1, n1, c1, A2, n2, c2, A3, n3, c3, A4, n4, c4, A5, n5, c5⟩ x p O k oc os w2 (HR0.out.up HB2.out) ((HOT0.out.below HB2.out (Nat.le_refl _)).more HB2.out.size) (by have := HK8.out; omega)).mono ?_
  rintro e w3 ⟨k3, b1, j1, rfl, halt⟩
  have HB3 := Lib.hid (HB2.out.trans (k3.mono HB2.out.size))
  have HQ3 := Lib.hid (HQ2.out.below k3 HQ2.out.lt)
  clear k3 HP2 HP1 HP0 HQ2 HQ1 HQ0
  rcases iso_alts halt with ⟨rfl, hj⟩ | ⟨rfl, rfl⟩ | ⟨rfl, rfl, hcp, hio⟩
  · clear halt
    go_wp2_with fail
    go_ret
    exact ⟨rfl, HB3.out⟩
  · clear halt
    go_wp2_with fail
    go_ret
    exact ⟨rfl, HB3.out⟩
  · have HCP := Lib.hid hcp
    have HIO := Lib.hid hio
    clear halt hcp hio
    go_wp2_with fail
    go_loopw [45] (fun i wr => ∃ m : Nat, m ≤ k ∧ i = .int .i64 m ∧ Below w.heap.size w wr ∧ Blk wr w.heap.size 29 #[.slice A0 n0 c0, .slice A1 n1 c1, .slice A2 n2 c2, .slice A3 n3 c3, .slice A4 n4 c4, .slice A5 n5 c5] ∧ ∀ s ∈ os.take m, ∀ z ∈ x.sws, z.name = s → z.breaker = true) (fun i _ => k - (intOf i).toNat)
    case atStart => exact ⟨0, by omega, rfl, HB3.out, HQ3.out, by simp⟩
    case round =>
      clear HQ3 HB3
      obtain ⟨m, hmk, rfl, hb, hq, hall⟩ := hrel
      have HB := Lib.hid hb
      have HQ := Lib.hid hq
      have HALL := Lib.hid hall
      obtain ⟨y0, y1, y2, y3, y4, y5, nf, nlt⟩ := net_box (h := ⟨A0, n0, c0, A1, n1, c1, A2, n2, c2, A3, n3, c3, A4, n4, c4, A5, n5, c5⟩) hq
      have hRO := (HOT0.out.below hb (Nat.le_refl _)).more hb.size
      clear hb hq hall
      by_cases hlt : m < k
      · obtain ⟨s, hs⟩ : ∃ s, os[m]? = some s := ⟨_, List.getElem?_eq_getElem (by have := HLO.out; omega)⟩
        obtain ⟨bz, oz, rfl, hbz⟩ := hRO.form (by omega)
        have e0 := hRO.at_ hs
        have HTK : Hid (∀ t ∈ os.take (m + 1), t ∈ os.take m ∨ t = s) := Lib.hid (fun t ht => by
          rw [List.take_add_one, hs] at ht
          rcases List.mem_append.1 ht with h | h
          · exact .inl h
          · exact .inr (by simpa using h))
        have hkI : (m : Int) < (k : Int) := by omega
        clear hs hRO
        go_wp2_with fail
        clear y0 y1 y2 y3 y4 y5 nf nlt e0
        go_loopw [52] (fun i wr => ∃ q : Nat, q ≤ n1 ∧ i = .int .i64 q ∧ Below w.heap.size w wr ∧ Blk wr w.heap.size 29 #[.slice A0 n0 c0, .slice A1 n1 c1, .slice A2 n2 c2, .slice A3 n3 c3, .slice A4 n4 c4, .slice A5 n5 c5] ∧ ∀ z ∈ x.sws.take q, z.name = s → z.breaker = true) (fun i _ => n1 - (intOf i).toNat)
        case atStart => exact ⟨0, by omega, rfl, HB.out, HQ.out, by simp⟩
        case round =>
          clear HQ HB
          obtain ⟨q, hqn, rfl, hb, hq, hall2⟩ := hrel
          have HB := Lib.hid hb
          have HQ := Lib.hid hq
          have HALL2 := Lib.hid hall2
          have hrd := (HR0.out.up hb).r1
          clear hb hq hall2
          by_cases hltq : q < n1
          · obtain ⟨z, hz⟩ : ∃ z, x.sws[q]? = some z := ⟨_, List.getElem?_eq_getElem (by have := HL1.out; omega)⟩
            obtain ⟨b, off, hA, hblt⟩ := hrd.form (by show 0 < n1; omega)
            dsimp only at hA
            subst hA
            obtain ⟨z0, z1, z2, z3, z4⟩ := hrd.at_ hz
            have HTQ : Hid (∀ t ∈ x.sws.take (q + 1), t ∈ x.sws.take q ∨ t = z) := Lib.hid (fun t ht => by
              rw [List.take_add_one, hz] at ht
              rcases List.mem_append.1 ht with h | h
              · exact .inl h
              · exact .inr (by simpa using h))
            have HBX := Lib.hid (HB.out.alloc HB.out.size (.cells #[.string z.name, .string z.a, .string z.b, .bool z.breaker, .bool z.opn] 44))
            have HQX := Lib.hid (HQ.out.alloc (.cells #[.string z.name, .string z.a, .string z.b, .bool z.breaker, .bool z.opn] 44))
            have hqI : (q : Int) < (n1 : Int) := by omega
            clear hz hrd
            by_cases hp : sEq z.name s = true
            · cases hbk : z.breaker with
              | false =>
                rw [hbk] at z3 HBX
                go_wp2_with fail
                go_ret
                exact ⟨rfl, HBX.out⟩
              | true =>
                have HBK := Lib.hid hbk
                rw [hbk] at z3 HBX HQX
                go_wp2_with fail
                go_roundw
                case rel => exact ⟨q + 1, by omega, by go_num, HBX.out, HQX.out, fun t ht hn => (HTQ.out t ht).elim (fun h => HALL2.out t h hn) (fun h => h ▸ HBK.out)⟩
                case measure => simp [intOf]; omega
            · have hp2 : sEq z.name s = false := by simpa using hp
              have HNE : Hid (z.name ≠ s) := Lib.hid (by simpa [sEq] using hp2)
              clear hp
              go_wp2_with fail
              go_roundw
              case rel => exact ⟨q + 1, by omega, by go_num, HBX.out, HQX.out, fun t ht hn => (HTQ.out t ht).elim (fun h => HALL2.out t h hn) (fun h => absurd (h ▸ hn) HNE.out)⟩
              case measure => simp [intOf]; omega
          · obtain rfl : q = n1 := by omega
            have HAQ : Hid (∀ z ∈ x.sws, z.name = s → z.breaker = true) := Lib.hid (fun z hz => HALL2.out z (by rw [List.take_of_length_le (by have := HL1.out; omega)]; exact hz))
            clear hrd
            go_wp2_with fail
            go_roundw
            case rel => exact ⟨m + 1, by omega, by go_num, HB.out, HQ.out, fun t ht => (HTK.out t ht).elim (fun h => HALL.out t h) (fun h => h ▸ HAQ.out)⟩
            case measure => simp [intOf]; omega
      · obtain rfl : m = k := by omega
        obtain ⟨rfl, hle⟩ := HLS.out HCP.out HIO.out (fun s hs => HALL.out s (by rw [List.take_of_length_le (by have := HLO.out; omega)]; exact hs))
        have hle2 : (ln : Int) ≤ (m : Int) := by have := HLO.out; omega
        clear hRO
        go_wp2_with fail
        go_ret
        exact ⟨rfl, HB.out⟩
end Go.Proofs.Ythedpegaelpbdaa
