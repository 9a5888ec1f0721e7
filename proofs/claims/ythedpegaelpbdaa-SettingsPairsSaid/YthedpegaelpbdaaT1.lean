/- graph.parts: the walk. -/
import Derived.Test.YthedpegaelpbdaaT0
import Derived.Test.YthedpegaelpbdaaGQ
import Derived.Test.YthedpegaelpbdaaV2
import Derived.StillTailTactics
import Derived.Deep.LoopGhost
namespace Go.Proofs.Ythedpegaelpbdaa
open Go.ChangeShapes Go.WideShapes Go.ChangeAt Go.RowKit
set_option linter.unusedVariables false
attribute [local go_sem ↓] execOp_call_val
attribute [local go_sem] callVal_func setCell_drewN alloc_drewN

theorem Qu.away {w : World} {base : Nat} {v : Value} {xs : List Value} (h : Qu w base v xs) {q : Addr} (hq : q.block < base) (u : Value) : Qu (w.setCell q u) base v xs := by
  obtain ⟨g, off, cap, h1, h2, h3, h4, h5, h6, h7⟩ := h.ex
  have hb : Below q.block w (w.setCell q u) := (Below.refl _ w).setCell (Nat.le_refl _) u
  have hc : ∀ j, (w.setCell q u).cell? ⟨g, off + j, none⟩ = w.cell? ⟨g, off + j, none⟩ := fun j => World.cell?_setCell_other _ _ _ _ (fun e => by subst e; simp at hq; omega)
  have hfz : ∀ j, (w.setCell q u).frozen? ⟨g, off + j, none⟩ = w.frozen? ⟨g, off + j, none⟩ := fun j => by
    obtain ⟨qb, qo, qs⟩ := q
    cases qs with
    | none => exact World.frozen?_setCells qb [u] qo w _
    | some s => simp
  exact ⟨g, off, cap, h1, h2, Nat.lt_of_lt_of_le h3 hb.size, h4, h5, fun j hj => by rw [hc, hfz]; exact h6 j hj, fun j x hx => by rw [hc]; exact h7 j x hx⟩
def natJ (l : List Nat) : List Int := l.map fun (v : Nat) => (v : Int)
theorem infoIn : (Try.prog.info? 3).map (fun i => (i.zero, i.size, i.bytes)) = some (some (.int .i64 0), 1, 8) := by kernel_rfl
/-- pairs of indices in memory -/
def edC (p : Nat × Nat) : List Value := [.int .i64 p.1, .int .i64 p.2]
def RdE (w : World) (B : Nat) (A : Option Addr) (n : Nat) (es : List (Nat × Nat)) : Prop := es.length = n ∧ Rd w B 2 A n (es.flatMap edC)
theorem RdE.below {w w' : World} {B B' n : Nat} {A : Option Addr} {xs : List (Nat × Nat)} (h : RdE w B A n xs) (hb : Below B' w w') (hB : B ≤ B') : RdE w' B A n xs := ⟨h.1, h.2.below hb hB⟩
theorem RdE.more {w : World} {B B' n : Nat} {A : Option Addr} {xs : List (Nat × Nat)} (h : RdE w B A n xs) (hB : B ≤ B') : RdE w B' A n xs := ⟨h.1, h.2.more hB⟩
theorem RdE.form {w : World} {B n : Nat} {A : Option Addr} {xs : List (Nat × Nat)} (h : RdE w B A n xs) (h0 : 0 < n) : ∃ b off, A = some ⟨b, off, none⟩ ∧ b < B := by
  obtain ⟨b, off, e, hlt, _⟩ := h.2.2 h0
  exact ⟨b, off, e, hlt⟩
theorem RdE.at_ {w : World} {B n : Nat} {b off : Nat} {xs : List (Nat × Nat)} (h : RdE w B (some ⟨b, off, none⟩) n xs) {i : Nat} {x : Nat × Nat} (hx : xs[i]? = some x) :
    w.cell? ⟨b, off + i * 2, none⟩ = some (.int .i64 x.1) ∧ w.cell? ⟨b, off + i * 2 + 1, none⟩ = some (.int .i64 x.2) := by
  have hl : i < xs.length := (List.getElem?_eq_some_iff.1 hx).1
  have h1 := h.1
  obtain ⟨b', off', e, _, hc⟩ := h.2.2 (by omega)
  injection e with e
  injection e with e1 e2
  subst e1; subst e2
  have hf := fun k hk => flat_at (el := edC) (sz := 2) (fun _ => rfl) xs i x hx k hk
  exact ⟨hc _ _ (hf 0 (by omega)), by rw [Nat.add_assoc]; exact hc _ _ (hf 1 (by omega))⟩
theorem pgo_skip {n i : Nat} {es : List (Nat × Nat)} {out : List Int} {m : Int} (hi : i < n) (h : 0 ≤ out.getD i 0) : pgo n es (n - i) i (out, m) = pgo n es (n - (i + 1)) (i + 1) (out, m) := by
  obtain ⟨k, hk⟩ : ∃ k, n - i = k + 1 := ⟨n - i - 1, by omega⟩
  rw [hk, show n - (i + 1) = k from by omega]
  show (if 0 ≤ out.getD i 0 then _ else _) = _
  rw [if_pos h]
theorem pgo_take {n i : Nat} {es : List (Nat × Nat)} {out : List Int} {m : Int} (hi : i < n) (h : ¬ 0 ≤ out.getD i 0) : pgo n es (n - i) i (out, m) = pgo n es (n - (i + 1)) (i + 1) (pbfs m es (n + 1) (out.set i m) [i], m + 1) := by
  obtain ⟨k, hk⟩ : ∃ k, n - i = k + 1 := ⟨n - i - 1, by omega⟩
  rw [hk, show n - (i + 1) = k from by omega]
  show (if 0 ≤ out.getD i 0 then _ else _) = _
  rw [if_neg h]
theorem pbfs_nil {m : Int} {es : List (Nat × Nat)} {f : Nat} {out : List Int} : pbfs m es f out [] = out := by cases f <;> rfl
theorem pbfs_on {m : Int} {es : List (Nat × Nat)} {f u : Nat} {out : List Int} {q : List Nat} (hf : 0 < f) : pbfs m es f out (u :: q) = pbfs m es (f - 1) (pscan u m es (out, q)).1 (pscan u m es (out, q)).2 := by
  obtain ⟨k, rfl⟩ : ∃ k, f = k + 1 := ⟨f - 1, by omega⟩
  rfl
theorem pscan_cons {u : Nat} {m : Int} {es : List (Nat × Nat)} {k : Nat} {x : Nat × Nat} {s : List Int × List Nat} (h : es[k]? = some x) : pscan u m (es.drop k) s = pscan u m (es.drop (k + 1)) (pstep u m s x) := by
  rw [drop_cons h]; rfl
theorem set_get {l : List Int} {g i : Nat} {w : World} (h : Blk w g 3 (ints l).toArray) (hi : i < l.length) : w.cell? ⟨g, i, none⟩ = some (.int .i64 (l.getD i 0)) := by
  rw [h.cell, List.getElem?_toArray]
  unfold ints
  rw [List.getElem?_map, List.getD_eq_getElem?_getD, List.getElem?_eq_getElem hi]; rfl
theorem set_ints {l : List Int} {g i : Nat} {w : World} (h : Blk w g 3 (ints l).toArray) (v : Int) : Blk (w.setCell ⟨g, i, none⟩ (.int .i64 v)) g 3 (ints (l.set i v)).toArray := by
  have h := h.set_ i (.int .i64 v)
  rw [show (ints l).toArray.setIfInBounds i (.int .i64 v) = (ints (l.set i v)).toArray from by unfold ints; rw [List.setIfInBounds_toArray, List.map_set]] at h
  exact h
theorem natJ_snoc (q : List Nat) (a : Nat) : ints (natJ q) ++ [Value.int .i64 (a : Int)] = ints (natJ (q ++ [a])) := by
  unfold ints natJ; rw [List.map_append, List.map_append]; rfl
def PartsP (n : Nat) (es : List (Nat × Nat)) (w : World) (e : Ending) (w' : World) : Prop :=
  Below w.heap.size w w' ∧ ∃ g : Nat, e = .returned (.slice (some ⟨g, 0, none⟩) n n) ∧ w.heap.size ≤ g ∧ Blk w' g 3 (ints (partsR n es)).toArray
theorem partsP_eq (n : Nat) (es : List (Nat × Nat)) (w : World) (e : Ending) (w' : World) (h : Below w.heap.size w w' ∧ ∃ g : Nat, e = .returned (.slice (some ⟨g, 0, none⟩) n n) ∧ w.heap.size ≤ g ∧ Blk w' g 3 (ints (partsR n es)).toArray) : PartsP n es w e w' := h
set_option maxRecDepth 100000 in
set_option maxHeartbeats 8000000 in
theorem parts_any (A : Option Addr) (c n : Nat) (es : List (Nat × Nat)) (w : World) (hE : RdE w w.heap.size A es.length es) (ok : ∀ x ∈ es, x.1 < n ∧ x.2 < n) (hn : n ≤ 1000) (he : es.length ≤ 1000) :
    Calls Try.prog 126 #[.int .i64 n, .slice A es.length c, .int .i64 (-1)] w (PartsP n es w) := by
  have HE := Lib.hid hE
  have HOK := Lib.hid ok
  have HP := Lib.hid (partsP_eq n es w)
  clear hE ok
  obtain ⟨i0, hi0, hi1, hi2, hi3⟩ := info_parts infoIn
  have HI0 := Lib.hid hi0
  have HI1 := Lib.hid hi1
  have HI2 := Lib.hid hi2
  have HI3 : Hid (i0.bytes ≤ 16) := Lib.hid (by rw [hi3]; decide)
  clear hi0 hi1 hi2 hi3
  have HB1 : Hid (Below w.heap.size w (w.alloc (.cells #[.int .i64 (-1)] 3))) := Lib.hid ((Below.refl _ _).alloc (Nat.le_refl _) _)
  have hm1 : (w.alloc (.cells #[.int .i64 (-1)] 3)).cell? ⟨w.heap.size, 0, none⟩ = some (.int .i64 (-1)) := (Blk.new w 3 #[.int .i64 (-1)]).cell 0
  go_enter Try.func126, Try.ntmps126
  generalize hW1 : w.alloc (.cells #[.int .i64 (-1)] 3) = w1 at *
  go_wp2_with fail
  refine (repeat_int (-1) w.heap.size n w1 hm1 hn).mono ?_
  rintro e w2 ⟨g, rfl, hg, hblk, k2⟩
  have HB2 := Lib.hid (HB1.out.trans (k2.mono HB1.out.size))
  have HG2 : Hid (Blk w2 g 3 (ints (List.replicate n (-1))).toArray) := Lib.hid (by unfold ints; rw [List.map_replicate]; exact hblk)
  have hwg : w.heap.size ≤ g := Nat.le_trans HB1.out.size hg
  clear hblk k2 hm1 hW1 hg HB1
  go_wp2_with fail
  go_loopw [8, 19] (fun v8 v19 wr => ∃ (i : Nat) (out : List Int) (m : Int), i ≤ n ∧ v19 = .int .i64 i ∧ v8 = .int .i64 m ∧ pgo n es (n - i) i (out, m) = pgo n es n 0 (List.replicate n (-1), 0) ∧ Ps n m out [] ∧ 0 ≤ m ∧ m ≤ i ∧ Below w.heap.size w wr ∧ Blk wr g 3 (ints out).toArray) (fun _ v19 _ => n - (intOf v19).toNat)
  case atStart => exact ⟨0, List.replicate n (-1), 0, by omega, rfl, rfl, rfl, ⟨by simp, fun _ h => (by cases h), fun x hx => (by rw [List.eq_of_mem_replicate hx]; omega)⟩, by omega, by omega, HB2.out, HG2.out⟩
  case round =>
    clear HB2 HG2
    obtain ⟨i, out, m, hi, rfl, rfl, hf, hps, hm0, hmi, hb, hblk⟩ := hrel
    have HF := Lib.hid hf
    have HPS := Lib.hid hps
    have HB := Lib.hid hb
    have HG := Lib.hid hblk
    have hol := hps.len
    have hgl := hblk.lt
    clear hf hps hb hblk
    by_cases hlt : i < n
    · have hcell := set_get HG.out (by rw [hol]; exact hlt)
      have hfz := HG.out.frozen i
      have hiI : (i : Int) < (n : Int) := by omega
      by_cases hz : 0 ≤ out.getD i 0
      · have HZ := Lib.hid hz
        have HGE : decide (out.getD i 0 < 0) = false := decide_eq_false (by omega)
        generalize out.getD i 0 = z at hcell hz HGE
        have HOL := Lib.hid hol
        clear hol HGE
        go_wp2_with fail
        go_roundw
        case rel => exact ⟨i + 1, out, m, by omega, by go_num, rfl, by rw [← HF.out, pgo_skip hlt HZ.out], HPS.out, hm0, by omega, HB.out, HG.out⟩
        case measure => simp [intOf]; omega
      · have HZ := Lib.hid hz
        have HSETL : Hid (i < out.length) := Lib.hid (by rw [hol]; exact hlt)
        have HOL := Lib.hid hol
        have HNEG : Hid (out.getD i 0 < 0) := Lib.hid (by omega)
        generalize out.getD i 0 = z at hcell hz
        have hz' : z < 0 := by omega
        have HB3 := Lib.hid (HB.out.setCell (p := ⟨g, i, none⟩) (by simp; omega) (.int .i64 m))
        have HG3 := Lib.hid (set_ints (i := i) HG.out m)
        clear hz hol
        go_wp2_with fail
        have HB4 := Lib.hid (HB3.out.alloc HB3.out.size (.cells #[.int .i64 i] 3))
        have HG4 := Lib.hid (HG3.out.alloc (.cells #[.int .i64 i] 3))
        have HQ4 : Hid (Qu ((wr.setCell ⟨g, i, none⟩ (.int .i64 m)).alloc (.cells #[.int .i64 i] 3)) (g + 1) (.slice (some ⟨wr.heap.size, 0, none⟩) 1 1) (ints (natJ [i]))) := Lib.hid (by
          have hb := Blk.new (wr.setCell ⟨g, i, none⟩ (.int .i64 m)) 3 #[.int .i64 i]
          have hsz : (wr.setCell ⟨g, i, none⟩ (.int .i64 m)).heap.size = wr.heap.size := by simp
          rw [hsz] at hb
          refine ⟨wr.heap.size, 0, 1, rfl, by omega, hb.lt, Nat.le_refl _, by simp only [maxLen]; omega, fun j hj => ?_, fun j u hu => ?_⟩
          · have hj0 : j = 0 := by omega
            subst hj0
            exact ⟨by rw [hb.cell 0]; rfl, hb.frozen 0⟩
          · have hj0 : j = 0 := by have := (List.getElem?_eq_some_iff.1 hu).1; simpa [ints, natJ] using this
            subst hj0
            rw [Nat.add_zero, hb.cell 0]
            simpa [ints, natJ] using hu)
        have hs4 : g + 1 ≤ ((wr.setCell ⟨g, i, none⟩ (.int .i64 m)).alloc (.cells #[.int .i64 i] 3)).heap.size := by simp; omega
        have HPS4 : Hid (Ps n m (out.set i m) [i]) := Lib.hid ⟨by simp [HOL.out], fun v hv => by rw [List.mem_singleton.1 hv]; exact hlt, fun x hx => by
          rcases List.mem_or_eq_of_mem_set hx with hx | rfl
          · exact HPS.out.bd x hx
          · omega⟩
        have HM4 : Hid (([i] : List Nat).length + negs (out.set i m) ≤ n + 1) := Lib.hid (by
          have h1 := negs_set out i m hm0 HSETL.out HNEG.out
          have h2 := negs_le out
          have h3 := HOL.out
          simp; omega)
        generalize hW4 : (wr.setCell ⟨g, i, none⟩ (.int .i64 m)).alloc (.cells #[.int .i64 i] 3) = w4 at *
        obtain ⟨R0, hR0⟩ : ∃ R0, R0 = pbfs m es (n + 1) (out.set i m) [i] := ⟨_, rfl⟩
        have HR0 := Lib.hid hR0
        clear hW4 hcell hfz HB3 HG3 HSETL HNEG hR0
        go_loopg [10] (n + 1) (fun f v10 wr => ∃ (out : List Int) (q : List Nat), Ps n m out q ∧ pbfs m es f out q = R0 ∧ q.length + negs out ≤ f ∧ f ≤ n + 1 ∧ Below w.heap.size w wr ∧ Blk wr g 3 (ints out).toArray ∧ Qu wr (g + 1) v10 (ints (natJ q)) ∧ g + 1 ≤ wr.heap.size)
        case atStart => exact ⟨out.set i m, [i], HPS4.out, HR0.out.symm, HM4.out, by omega, HB4.out, HG4.out, HQ4.out, hs4⟩
        case round =>
          clear HB4 HG4 HQ4 HPS4 HM4 hs4 hgl HPS HG HB HOL
          obtain ⟨out2, q2, hps, hfun, hmm, hgn, hb, hblk, hq, hs⟩ := hrel
          have HPS := Lib.hid hps
          have HFUN := Lib.hid hfun
          have HB := Lib.hid hb
          have HG := Lib.hid hblk
          have HMM := Lib.hid hmm
          obtain ⟨qb, qo, qc, rfl, hqg, hqlt, hqc, hqm, hqh, hqx⟩ := hq.ex
          have hql : (ints (natJ q2)).length = q2.length := by simp [ints, natJ]
          rw [hql] at hqc hq ⊢
          have HQ := Lib.hid hq
          clear hps hb hblk hq hfun hmm hql
          cases q2 with
          | nil =>
            clear hqx hqh
            simp only [List.length_nil] at *
            go_wp2_with fail
            go_roundw
            case rel => exact ⟨i + 1, out2, m + 1, by omega, by go_num, by go_num, by rw [← HF.out, pgo_take hlt (by have := HZ.out; omega), ← HR0.out, ← HFUN.out, pbfs_nil], ⟨HPS.out.len, HPS.out.lt, fun x hx => by have := HPS.out.bd x hx; omega⟩, by omega, by omega, HB.out, HG.out⟩
            case measure => simp [intOf]; omega
          | cons u q =>
            have hul := HPS.out.lt u (List.mem_cons_self ..)
            have hq0 := hqx 0 (.int .i64 u) rfl
            rw [Nat.add_zero] at hq0
            have hqt := HQ.out
            rw [show ints (natJ (u :: q)) = .int .i64 u :: ints (natJ q) from rfl] at hqt
            have hqt := hqt.tail
            rw [List.length_cons, Nat.add_sub_cancel] at hqt
            have hqlI : (0 : Int) < ((q.length + 1 : Nat) : Int) := by omega
            have hq1 : 1 ≤ q.length + 1 := by omega
            have hqd : decide (0 < q.length + 1) = true := by simp
            have hsub : q.length + 1 - 1 = q.length := by omega
            have hqc1 : 1 ≤ qc := by rw [List.length_cons] at hqc; omega
            have hqc2 : q.length + 1 ≤ qc := by rw [List.length_cons] at hqc; exact hqc
            generalize hqa : (if qc = 1 then some (⟨qb, qo, none⟩ : Addr) else some ⟨qb, qo + 1, none⟩) = qa at hqt
            have HQT := Lib.hid hqt
            have hln : (u :: q).length = q.length + 1 := rfl
            rw [hln] at hqc ⊢
            have HLQ := Lib.hid hln
            clear hqt hqx hqh hln
            generalize hql : q.length + 1 = ql at *
            have HQL := Lib.hid hql
            clear hql
            go_wp2_with fail
            have hwo := HB.out.size
            obtain ⟨S0, hS0⟩ : ∃ S0, S0 = pscan u m es (out2, q) := ⟨_, rfl⟩
            have HS0 := Lib.hid hS0
            obtain ⟨C0, hC0⟩ : ∃ C0, C0 = q.length + negs out2 := ⟨_, rfl⟩
            have HC0 := Lib.hid hC0
            have HPSq : Hid (Ps n m out2 q) := Lib.hid ⟨HPS.out.len, fun v hv => HPS.out.lt v (List.mem_cons_of_mem _ hv), HPS.out.bd⟩
            have HFUN2 : Hid (0 < gk → pbfs m es (gk - 1) S0.1 S0.2 = R0) := Lib.hid (fun h => by rw [← HFUN.out, pbfs_on h, ← HS0.out])
            have HMM2 : Hid (1 + C0 ≤ gk) := Lib.hid (by have := HMM.out; rw [List.length_cons] at this; omega)
            clear HFUN HMM hS0 hC0 HPS
            go_loopw [10, 43] (fun v10 v43 wr => ∃ (k : Nat) (out : List Int) (q : List Nat), k ≤ es.length ∧ v43 = .int .i64 k ∧ Ps n m out q ∧ pscan u m (es.drop k) (out, q) = S0 ∧ q.length + negs out = C0 ∧ Below w.heap.size w wr ∧ Blk wr g 3 (ints out).toArray ∧ Qu wr (g + 1) v10 (ints (natJ q)) ∧ g + 1 ≤ wr.heap.size) (fun _ v43 _ => es.length - (intOf v43).toNat)
            case atStart => exact ⟨0, out2, q, by omega, rfl, HPSq.out, HS0.out.symm, HC0.out.symm, HB.out, HG.out, by have h := HQT.out; rw [← hqa] at h; first | exact h | (rw [hqa] at h; exact h), hs⟩
            case round =>
              clear HPSq HB HG HQT HQ
              obtain ⟨k, out3, q3, hk, rfl, hps, hsc, hcc, hb, hblk, hq3, hs3⟩ := hrel
              have HPS := Lib.hid hps
              have HSC := Lib.hid hsc
              have HCC := Lib.hid hcc
              have HB := Lib.hid hb
              have HG := Lib.hid hblk
              have HQ := Lib.hid hq3
              have hol3 := Lib.hid hps.len
              clear hps hsc hcc hb hblk hq3
              by_cases hlt3 : k < es.length
              · obtain ⟨⟨xa, xb⟩, hx⟩ : ∃ x, es[k]? = some x := ⟨_, List.getElem?_eq_getElem hlt3⟩
                have hE := (HE.out.below HB.out (Nat.le_refl _)).more HB.out.size
                obtain ⟨eb, eo, heA, heb⟩ := hE.form (by omega)
                subst heA
                obtain ⟨e0, e1⟩ := hE.at_ hx
                dsimp only at e0 e1
                obtain ⟨hxa, hxb⟩ := HOK.out _ (List.mem_of_getElem? hx)
                dsimp only at hxa hxb
                have hkI : (k : Int) < (es.length : Int) := by omega
                have hkm : ((k : Int) == -1) = false := by simp
                have HST := Lib.hid (pstep_ok (u := u) (s := (out3, q3)) hm0 (HOK.out _ (List.mem_of_getElem? hx)) HPS.out)
                have HSC2 : Hid (pscan u m (es.drop (k + 1)) (pstep u m (out3, q3) (xa, xb)) = S0) := Lib.hid (by rw [← HSC.out, pscan_cons hx])
                have HBA := Lib.hid (HB.out.alloc HB.out.size (.cells #[.int .i64 xa, .int .i64 xb] 83))
                have HGA := Lib.hid (HG.out.alloc (.cells #[.int .i64 xa, .int .i64 xb] 83))
                have HQA := Lib.hid (HQ.out.up ((Below.refl _ _).alloc (Nat.le_refl _) (.cells #[.int .i64 xa, .int .i64 xb] 83)))
                have hbox := Blk.new wr 83 #[.int .i64 xa, .int .i64 xb]
                have b0 := hbox.cell 0
                have b1 := hbox.cell 1
                have hgl3 : g < wr.heap.size := by omega
                clear hE hx hbox
                unfold pstep at HST HSC2
                by_cases hh : xa = u ∨ xb = u
                · by_cases ha : xa = u
                  · subst ha
                    have hna : ((xa : Int) != (xa : Int)) = false := by simp
                    have ho : xa + xb - xa = xb := by omega
                    dsimp only at HST HSC2
                    rw [ho] at HST HSC2
                    have hby : (wr.alloc (.cells #[.int .i64 xa, .int .i64 xb] 83)).cell? ⟨g, xb, none⟩ = some (.int .i64 (out3.getD xb 0)) := set_get HGA.out (by rw [hol3.out]; omega)
                    have hoI : (xb : Int) < (n : Int) := by omega
                    have hfz := HGA.out.frozen xb
                    by_cases hz : out3.getD xb 0 < 0
                    · have HZ := Lib.hid hz
                      rw [if_pos ⟨hh, hz⟩] at HST HSC2
                      generalize out3.getD xb 0 = z at hby hz
                      have hlen3 : (ints (natJ q3)).length ≤ 1000000 := by
                        have h1 := HCC.out
                        have h2 := HMM2.out
                        simp only [ints, natJ, List.length_map]; omega
                      have HB7 := Lib.hid ((HB.out.setCell (p := ⟨g, xb, none⟩) (by simp; omega) (.int .i64 m)).alloc (by simp; omega) (.cells #[.int .i64 xa, .int .i64 xb] 83))
                      have HG7 := Lib.hid ((set_ints (i := xb) HG.out m).alloc (.cells #[.int .i64 xa, .int .i64 xb] 83))
                      have HQ7 := Lib.hid ((HQ.out.away (q := ⟨g, xb, none⟩) (by simp) (.int .i64 m)).up ((Below.refl _ _).alloc (Nat.le_refl _) (.cells #[.int .i64 xa, .int .i64 xb] 83)))
                      generalize hw7 : (wr.setCell ⟨g, xb, none⟩ (.int .i64 m)).alloc (.cells #[.int .i64 xa, .int .i64 xb] 83) = w7 at HB7 HG7 HQ7
                      have hs7 : wr.heap.size + 1 = w7.heap.size := by rw [← hw7]; simp
                      have HB8 : Hid (Below w.heap.size w (((wr.setCell ⟨g, xb, none⟩ (.int .i64 m)).alloc (.cells #[.int .i64 xa, .int .i64 xb] 83)).alloc (.cells #[.int .i64 ((xa : Int) + xb - xa)] 3))) := Lib.hid (by rw [hw7]; exact HB7.out.alloc HB7.out.size (.cells #[.int .i64 ((xa : Int) + xb - xa)] 3))
                      have HG8 : Hid (Blk (((wr.setCell ⟨g, xb, none⟩ (.int .i64 m)).alloc (.cells #[.int .i64 xa, .int .i64 xb] 83)).alloc (.cells #[.int .i64 ((xa : Int) + xb - xa)] 3)) g 3 (ints (out3.set xb m)).toArray) := Lib.hid (by rw [hw7]; exact HG7.out.alloc (.cells #[.int .i64 ((xa : Int) + xb - xa)] 3))
                      have HQ8 : Hid (Qu (((wr.setCell ⟨g, xb, none⟩ (.int .i64 m)).alloc (.cells #[.int .i64 xa, .int .i64 xb] 83)).alloc (.cells #[.int .i64 ((xa : Int) + xb - xa)] 3)) (g + 1) u10 (ints (natJ q3))) := Lib.hid (by rw [hw7]; exact HQ7.out.up ((Below.refl _ _).alloc (Nat.le_refl _) (.cells #[.int .i64 ((xa : Int) + xb - xa)] 3)))
                      have HC8 : Hid ((((wr.setCell ⟨g, xb, none⟩ (.int .i64 m)).alloc (.cells #[.int .i64 xa, .int .i64 xb] 83)).alloc (.cells #[.int .i64 ((xa : Int) + xb - xa)] 3)).cell? ⟨wr.heap.size + 1, 0, none⟩ = some (.int .i64 ((xa : Int) + xb - xa))) := Lib.hid (by
                        rw [hw7]
                        have h := (Blk.new w7 3 #[.int .i64 ((xa : Int) + xb - xa)]).cell 0
                        rw [← hs7] at h
                        simpa using h)
                      have hs8 : g + 1 ≤ (((wr.setCell ⟨g, xb, none⟩ (.int .i64 m)).alloc (.cells #[.int .i64 xa, .int .i64 xb] 83)).alloc (.cells #[.int .i64 ((xa : Int) + xb - xa)] 3)).heap.size := by simp; omega
                      clear hs7 hw7 HB7 HG7 HQ7
                      go_wp2_with (at_builtin; refine wpList_append_q _ rfl (.tmp 79) (.tmp 81) 61 rfl (g + 1) 3 i0 (.int .i64 0) Try.underlying61 HI0.out HI1.out HI2.out HI3.out rfl u10 _ rfl HQ8.out ⟨wr.heap.size + 1, 0, none⟩ 1 _ rfl HC8.out rfl rfl hlen3 hs8 ?_; intro v' w9 hq9 hb9)
                      go_roundw
                      case rel =>
                        have hq : ints (natJ q3) ++ [Value.int .i64 ((xa : Int) + xb - xa)] = ints (natJ (q3 ++ [xb])) := by
                          first | exact natJ_snoc _ _ | (rw [← natJ_snoc]; congr 1 <;> first | rfl | (congr 2; omega))
                        rw [hq] at hq9
                        have h1 := HST.out
                        exact ⟨k + 1, _, _, by omega, by go_num, h1.1, HSC2.out, h1.2.1.trans HCC.out, HB8.out.trans (hb9.mono (by omega)), HG8.out.below hb9 (by omega), hq9, Nat.le_trans hs8 hb9.size⟩
                      case measure => simp [intOf]; omega
                    · rw [if_neg (fun h => hz h.2)] at HST HSC2
                      have hzz : decide (out3.getD xb 0 < 0) = false := decide_eq_false hz
                      generalize out3.getD xb 0 = z at hby hz hzz
                      go_wp2_with fail
                      go_roundw
                      case rel => exact ⟨k + 1, out3, q3, by omega, by go_num, HPS.out, HSC2.out, HCC.out, HBA.out, HGA.out, HQA.out, by simp; omega⟩
                      case measure => simp [intOf]; omega
                  · have hb : xb = u := hh.resolve_left ha
                    subst hb
                    have hna : ((xa : Int) != (xb : Int)) = true := by simp; omega
                    have hnb0 : ((xb : Int) != (xb : Int)) = false := by simp
                    have ho : xa + xb - xb = xa := by omega
                    dsimp only at HST HSC2
                    rw [ho] at HST HSC2
                    have hby : (wr.alloc (.cells #[.int .i64 xa, .int .i64 xb] 83)).cell? ⟨g, xa, none⟩ = some (.int .i64 (out3.getD xa 0)) := set_get HGA.out (by rw [hol3.out]; omega)
                    have hoI : (xa : Int) < (n : Int) := by omega
                    have hfz := HGA.out.frozen xa
                    by_cases hz : out3.getD xa 0 < 0
                    · have HZ := Lib.hid hz
                      rw [if_pos ⟨hh, hz⟩] at HST HSC2
                      generalize out3.getD xa 0 = z at hby hz
                      have hlen3 : (ints (natJ q3)).length ≤ 1000000 := by
                        have h1 := HCC.out
                        have h2 := HMM2.out
                        simp only [ints, natJ, List.length_map]; omega
                      have HB7 := Lib.hid ((HB.out.setCell (p := ⟨g, xa, none⟩) (by simp; omega) (.int .i64 m)).alloc (by simp; omega) (.cells #[.int .i64 xa, .int .i64 xb] 83))
                      have HG7 := Lib.hid ((set_ints (i := xa) HG.out m).alloc (.cells #[.int .i64 xa, .int .i64 xb] 83))
                      have HQ7 := Lib.hid ((HQ.out.away (q := ⟨g, xa, none⟩) (by simp) (.int .i64 m)).up ((Below.refl _ _).alloc (Nat.le_refl _) (.cells #[.int .i64 xa, .int .i64 xb] 83)))
                      generalize hw7 : (wr.setCell ⟨g, xa, none⟩ (.int .i64 m)).alloc (.cells #[.int .i64 xa, .int .i64 xb] 83) = w7 at HB7 HG7 HQ7
                      have hs7 : wr.heap.size + 1 = w7.heap.size := by rw [← hw7]; simp
                      have HB8 : Hid (Below w.heap.size w (((wr.setCell ⟨g, xa, none⟩ (.int .i64 m)).alloc (.cells #[.int .i64 xa, .int .i64 xb] 83)).alloc (.cells #[.int .i64 (xa : Int)] 3))) := Lib.hid (by rw [hw7]; exact HB7.out.alloc HB7.out.size (.cells #[.int .i64 (xa : Int)] 3))
                      have HG8 : Hid (Blk (((wr.setCell ⟨g, xa, none⟩ (.int .i64 m)).alloc (.cells #[.int .i64 xa, .int .i64 xb] 83)).alloc (.cells #[.int .i64 (xa : Int)] 3)) g 3 (ints (out3.set xa m)).toArray) := Lib.hid (by rw [hw7]; exact HG7.out.alloc (.cells #[.int .i64 (xa : Int)] 3))
                      have HQ8 : Hid (Qu (((wr.setCell ⟨g, xa, none⟩ (.int .i64 m)).alloc (.cells #[.int .i64 xa, .int .i64 xb] 83)).alloc (.cells #[.int .i64 (xa : Int)] 3)) (g + 1) u10 (ints (natJ q3))) := Lib.hid (by rw [hw7]; exact HQ7.out.up ((Below.refl _ _).alloc (Nat.le_refl _) (.cells #[.int .i64 (xa : Int)] 3)))
                      have HC8 : Hid ((((wr.setCell ⟨g, xa, none⟩ (.int .i64 m)).alloc (.cells #[.int .i64 xa, .int .i64 xb] 83)).alloc (.cells #[.int .i64 (xa : Int)] 3)).cell? ⟨wr.heap.size + 1, 0, none⟩ = some (.int .i64 (xa : Int))) := Lib.hid (by
                        rw [hw7]
                        have h := (Blk.new w7 3 #[.int .i64 (xa : Int)]).cell 0
                        rw [← hs7] at h
                        simpa using h)
                      have hs8 : g + 1 ≤ (((wr.setCell ⟨g, xa, none⟩ (.int .i64 m)).alloc (.cells #[.int .i64 xa, .int .i64 xb] 83)).alloc (.cells #[.int .i64 (xa : Int)] 3)).heap.size := by simp; omega
                      clear hs7 hw7 HB7 HG7 HQ7
                      go_wp2_with (at_builtin; refine wpList_append_q _ rfl (.tmp 79) (.tmp 81) 61 rfl (g + 1) 3 i0 (.int .i64 0) Try.underlying61 HI0.out HI1.out HI2.out HI3.out rfl u10 _ rfl HQ8.out ⟨wr.heap.size + 1, 0, none⟩ 1 _ rfl HC8.out rfl rfl hlen3 hs8 ?_; intro v' w9 hq9 hb9)
                      go_roundw
                      case rel =>
                        have hq : ints (natJ q3) ++ [Value.int .i64 (xa : Int)] = ints (natJ (q3 ++ [xa])) := by
                          first | exact natJ_snoc _ _ | (rw [← natJ_snoc]; congr 1 <;> first | rfl | (congr 2; omega))
                        rw [hq] at hq9
                        have h1 := HST.out
                        exact ⟨k + 1, _, _, by omega, by go_num, h1.1, HSC2.out, h1.2.1.trans HCC.out, HB8.out.trans (hb9.mono (by omega)), HG8.out.below hb9 (by omega), hq9, Nat.le_trans hs8 hb9.size⟩
                      case measure => simp [intOf]; omega
                    · rw [if_neg (fun h => hz h.2)] at HST HSC2
                      have hzz : decide (out3.getD xa 0 < 0) = false := decide_eq_false hz
                      generalize out3.getD xa 0 = z at hby hz hzz
                      go_wp2_with fail
                      go_roundw
                      case rel => exact ⟨k + 1, out3, q3, by omega, by go_num, HPS.out, HSC2.out, HCC.out, HBA.out, HGA.out, HQA.out, by simp; omega⟩
                      case measure => simp [intOf]; omega
                · have hna : ((xa : Int) != (u : Int)) = true := by have : xa ≠ u := fun h => hh (.inl h)
                                                                    simp; omega
                  have hnb : ((xb : Int) != (u : Int)) = true := by have : xb ≠ u := fun h => hh (.inr h)
                                                                    simp; omega
                  rw [if_neg (fun h => hh h.1)] at HST HSC2
                  go_wp2_with fail
                  go_roundw
                  case rel => exact ⟨k + 1, out3, q3, by omega, by go_num, HPS.out, HSC2.out, HCC.out, HBA.out, HGA.out, HQA.out, by simp; omega⟩
                  case measure => simp [intOf]; omega
              · have hkk : k = es.length := by omega
                subst hkk
                go_wp2_with fail
                go_roundg (gk - 1)
                case rel =>
                  have hS : (out3, q3) = S0 := by rw [← HSC.out, List.drop_length]; rfl
                  exact ⟨out3, q3, HPS.out, by rw [← HFUN2.out (by have := HMM2.out; omega), ← hS], by have := HMM2.out; have := HCC.out; omega, by omega, HB.out, HG.out, HQ.out, hs3⟩
                case measure => have := HMM2.out; omega
    · have hin : i = n := by omega
      subst hin
      go_wp2_with fail
      go_ret
      exact HP.out _ _ ⟨HB.out, g, rfl, hwg, by
        have h := HG.out
        have e : out = partsR i es := by unfold partsR; rw [← HF.out, Nat.sub_self]; rfl
        rw [e] at h; exact h⟩
end Go.Proofs.Ythedpegaelpbdaa
