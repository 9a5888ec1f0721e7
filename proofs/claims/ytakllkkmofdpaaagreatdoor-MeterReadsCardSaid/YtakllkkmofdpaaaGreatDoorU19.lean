import Derived.Test.YtakllkkmofdpaaaGreatDoorU14
import Derived.Test.YtakllkkmofdpaaaGreatDoorU16
import Derived.StillTailTactics
import Derived.Deep.LoopGhost
set_option linter.unusedVariables false
set_option linter.unusedSimpArgs false
namespace Go.Proofs.YtakllkkmofdpaaaGreatDoor
section
open Go.ChangeShapes Go.WideShapes Go.ChangeAt Go.RowKit
attribute [local go_sem ↓] execOp_call_val
attribute [local go_sem] callVal_func setCell_drewN alloc_drewN
theorem Qu.away {w : World} {base : Nat} {v : Value} {xs : List Value} (h : Qu w base v xs) {q : Addr} (hq : q.block < base) (u : Value) : Qu (w.setCell q u) base v xs := by
 obtain ⟨g, off, cap, h1, h2, h3, h4, h5, h6, h7⟩ := h.ex
 have hb : Below q.block w (w.setCell q u) := (Below.refl _ w).setCell (Nat.le_refl _) u
 have hc : ∀ j, (w.setCell q u).cell? ⟨g, off + j, none⟩ = w.cell? ⟨g, off + j, none⟩ := fun j => World.cell?_setCell_other _ _ _ _ (fun e => by subst e; simp at hq; omega)
 have hfz : ∀ j, (w.setCell q u).frozen? ⟨g, off + j, none⟩ = w.frozen? ⟨g, off + j, none⟩ := fun j => by
  obtain ⟨qb, qo, qs⟩ := q
  cases qs with
  | none => exact World.frozen?_setCells qb [u] qo w _
  | some s => simp
 exact ⟨g, off, cap, h1, h2, Nat.lt_of_lt_of_le h3 hb.size, h4, h5, fun j hj => by rw [hc, hfz]; exact h6 j hj, fun j x hx => by rw [hc]; exact h7 j x hx⟩
def natJ (l : List Nat) : List Int := l.map fun (v : Nat) => (v : Int)
theorem infoIn : (Tryz.prog.info? 3).map (fun i => (i.zero, i.size, i.bytes)) = some (some (.int .i64 0), 1, 8) := by kernel_rfl
def edC (p : Nat × Nat) : List Value := [.int .i64 p.1, .int .i64 p.2]
def RdE (w : World) (B : Nat) (A : Option Addr) (n : Nat) (es : List (Nat × Nat)) : Prop := es.length = n ∧ Rd w B 2 A n (es.flatMap edC)
theorem RdE.below {w w' : World} {B B' n : Nat} {A : Option Addr} {xs : List (Nat × Nat)} (h : RdE w B A n xs) (hb : Below B' w w') (hB : B ≤ B') : RdE w' B A n xs := ⟨h.1, h.2.below hb hB⟩
theorem RdE.more {w : World} {B B' n : Nat} {A : Option Addr} {xs : List (Nat × Nat)} (h : RdE w B A n xs) (hB : B ≤ B') : RdE w B' A n xs := ⟨h.1, h.2.more hB⟩
theorem RdE.form {w : World} {B n : Nat} {A : Option Addr} {xs : List (Nat × Nat)} (h : RdE w B A n xs) (h0 : 0 < n) : ∃ b off, A = some ⟨b, off, none⟩ ∧ b < B := by
 obtain ⟨b, off, e, hlt, _⟩ := h.2.2 h0
 exact ⟨b, off, e, hlt⟩
theorem RdE.at_ {w : World} {B n : Nat} {b off : Nat} {xs : List (Nat × Nat)} (h : RdE w B (some ⟨b, off, none⟩) n xs) {i : Nat} {x : Nat × Nat} (hx : xs[i]? = some x) :
    w.cell? ⟨b, off + i * 2, none⟩ = some (.int .i64 x.1) ∧ w.cell? ⟨b, off + i * 2 + 1, none⟩ = some (.int .i64 x.2) := by
 have hl : i < xs.length := (List.getElem?_eq_some_iff.1 hx).1
 have h1 := h.1
 obtain ⟨b', off', e, _, hc⟩ := h.2.2 (by omega)
 injection e with e
 injection e with e1 e2
 subst e1; subst e2
 have hf := fun k hk => flat_at (el := edC) (sz := 2) (fun _ => rfl) xs i x hx k hk
 exact ⟨hc _ _ (hf 0 (by omega)), by rw [Nat.add_assoc]; exact hc _ _ (hf 1 (by omega))⟩
theorem pgo_skip {n i : Nat} {es : List (Nat × Nat)} {out : List Int} {m : Int} (hi : i < n) (h : 0 ≤ out.getD i 0) : pgo n es (n - i) i (out, m) = pgo n es (n - (i + 1)) (i + 1) (out, m) := by
 obtain ⟨k, hk⟩ : ∃ k, n - i = k + 1 := ⟨n - i - 1, by omega⟩
 rw [hk, show n - (i + 1) = k from by omega]
 show (if 0 ≤ out.getD i 0 then _ else _) = _
 rw [if_pos h]
theorem pgo_take {n i : Nat} {es : List (Nat × Nat)} {out : List Int} {m : Int} (hi : i < n) (h : ¬ 0 ≤ out.getD i 0) : pgo n es (n - i) i (out, m) = pgo n es (n - (i + 1)) (i + 1) (pbfs m es (n + 1) (out.set i m) [i], m + 1) := by
 obtain ⟨k, hk⟩ : ∃ k, n - i = k + 1 := ⟨n - i - 1, by omega⟩
 rw [hk, show n - (i + 1) = k from by omega]
 show (if 0 ≤ out.getD i 0 then _ else _) = _
 rw [if_neg h]
theorem pbfs_nil {m : Int} {es : List (Nat × Nat)} {f : Nat} {out : List Int} : pbfs m es f out [] = out := by cases f <;> rfl
theorem pbfs_on {m : Int} {es : List (Nat × Nat)} {f u : Nat} {out : List Int} {q : List Nat} (hf : 0 < f) : pbfs m es f out (u :: q) = pbfs m es (f - 1) (pscan u m es (out, q)).1 (pscan u m es (out, q)).2 := by
 obtain ⟨k, rfl⟩ : ∃ k, f = k + 1 := ⟨f - 1, by omega⟩
 rfl
theorem pscan_cons {u : Nat} {m : Int} {es : List (Nat × Nat)} {k : Nat} {x : Nat × Nat} {s : List Int × List Nat} (h : es[k]? = some x) : pscan u m (es.drop k) s = pscan u m (es.drop (k + 1)) (pstep u m s x) := by
 rw [drop_cons h]; rfl
theorem set_get {l : List Int} {g i : Nat} {w : World} (h : Blk w g 3 (ints l).toArray) (hi : i < l.length) : w.cell? ⟨g, i, none⟩ = some (.int .i64 (l.getD i 0)) := by
 rw [h.cell, List.getElem?_toArray]
 unfold ints
 rw [List.getElem?_map, List.getD_eq_getElem?_getD, List.getElem?_eq_getElem hi]; rfl
theorem set_ints {l : List Int} {g i : Nat} {w : World} (h : Blk w g 3 (ints l).toArray) (v : Int) : Blk (w.setCell ⟨g, i, none⟩ (.int .i64 v)) g 3 (ints (l.set i v)).toArray := by
 have h := h.set_ i (.int .i64 v)
 rw [show (ints l).toArray.setIfInBounds i (.int .i64 v) = (ints (l.set i v)).toArray from by unfold ints; rw [List.setIfInBounds_toArray, List.map_set]] at h
 exact h
theorem natJ_snoc (q : List Nat) (a : Nat) : ints (natJ q) ++ [Value.int .i64 (a : Int)] = ints (natJ (q ++ [a])) := by
 unfold ints natJ; rw [List.map_append, List.map_append]; rfl
def PartsP (n : Nat) (es : List (Nat × Nat)) (w : World) (e : Ending) (w' : World) : Prop :=
 Below w.heap.size w w' ∧ ∃ g : Nat, e = .returned (.slice (some ⟨g, 0, none⟩) n n) ∧ w.heap.size ≤ g ∧ Blk w' g 3 (ints (partsR n es)).toArray
theorem partsP_eq (n : Nat) (es : List (Nat × Nat)) (w : World) (e : Ending) (w' : World) (h : Below w.heap.size w w' ∧ ∃ g : Nat, e = .returned (.slice (some ⟨g, 0, none⟩) n n) ∧ w.heap.size ≤ g ∧ Blk w' g 3 (ints (partsR n es)).toArray) : PartsP n es w e w' := h
set_option maxRecDepth 100000 in
set_option maxHeartbeats 8000000 in
theorem parts_any (A : Option Addr) (c n : Nat) (es : List (Nat × Nat)) (w : World) (hE : RdE w w.heap.size A es.length es) (ok : ∀ x ∈ es, x.1 < n ∧ x.2 < n) (hn : n ≤ 1000) (he : es.length ≤ 1000) :
    Calls Tryz.prog 142 #[.int .i64 n, .slice A es.length c, .int .i64 (-1)] w (PartsP n es w) := by
 have HE := Lib.hid hE
 have HOK := Lib.hid ok
 have HP := Lib.hid (partsP_eq n es w)
 clear hE ok
 obtain ⟨i0, hi0, hi1, hi2, hi3⟩ := info_parts infoIn
 have HI0 := Lib.hid hi0
 have HI1 := Lib.hid hi1
 have HI2 := Lib.hid hi2
 have HI3 : Hid (i0.bytes ≤ 16) := Lib.hid (by rw [hi3]; decide)
 clear hi0 hi1 hi2 hi3
 have HB1 : Hid (Below w.heap.size w (w.alloc (.cells #[.int .i64 (-1)] 3))) := Lib.hid ((Below.refl _ _).alloc (Nat.le_refl _) _)
 have hm1 : (w.alloc (.cells #[.int .i64 (-1)] 3)).cell? ⟨w.heap.size, 0, none⟩ = some (.int .i64 (-1)) := (Blk.new w 3 #[.int .i64 (-1)]).cell 0
 go_enter Tryz.func142, Tryz.ntmps142
 generalize hW1 : w.alloc (.cells #[.int .i64 (-1)] 3) = w1 at *
 go_wp2_with fail
 refine (repeat_int (-1) w.heap.size n w1 hm1 hn).mono ?_
 rintro e w2 ⟨g, rfl, hg, hblk, k2⟩
 have HB2 := Lib.hid (HB1.out.trans (k2.mono HB1.out.size))
 have HG2 : Hid (Blk w2 g 3 (ints (List.replicate n (-1))).toArray) := Lib.hid (by unfold ints; rw [List.map_replicate]; exact hblk)
 have hwg : w.heap.size ≤ g := Nat.le_trans HB1.out.size hg
 clear hblk k2 hm1 hW1 hg HB1
 go_wp2_with fail
 go_loopw [8, 19] (fun v8 v19 wr => ∃ (i : Nat) (out : List Int) (m : Int), i ≤ n ∧ v19 = .int .i64 i ∧ v8 = .int .i64 m ∧ pgo n es (n - i) i (out, m) = pgo n es n 0 (List.replicate n (-1), 0) ∧ Ps n m out [] ∧ 0 ≤ m ∧ m ≤ i ∧ Below w.heap.size w wr ∧ Blk wr g 3 (ints out).toArray) (fun _ v19 _ => n - (intOf v19).toNat)
 case atStart => exact ⟨0, List.replicate n (-1), 0, by omega, rfl, rfl, rfl, ⟨by simp, fun _ h => (by cases h), fun x hx => (by rw [List.eq_of_mem_replicate hx]; omega)⟩, by omega, by omega, HB2.out, HG2.out⟩
 case round =>
  clear HB2 HG2
  obtain ⟨i, out, m, hi, rfl, rfl, hf, hps, hm0, hmi, hb, hblk⟩ := hrel
  have HF := Lib.hid hf
  have HPS := Lib.hid hps
  have HB := Lib.hid hb
  have HG := Lib.hid hblk
  have hol := hps.len
  have hgl := hblk.lt
  clear hf hps hb hblk
  by_cases hlt : i < n
  ·have hcell := set_get HG.out (by rw [hol]; exact hlt)
   have hfz := HG.out.frozen i
   have hiI : (i : Int) < (n : Int) := by omega
   by_cases hz : 0 ≤ out.getD i 0
   ·have HZ := Lib.hid hz
    have HGE : decide (out.getD i 0 < 0) = false := decide_eq_false (by omega)
    generalize out.getD i 0 = z at hcell hz HGE
    have HOL := Lib.hid hol
    clear hol HGE
    go_wp2_with fail
    go_roundw
    case rel => exact ⟨i + 1, out, m, by omega, by go_num, rfl, by rw [← HF.out, pgo_skip hlt HZ.out], HPS.out, hm0, by omega, HB.out, HG.out⟩
    case measure => simp [intOf]; omega
   ·have HZ := Lib.hid hz
    have HSETL : Hid (i < out.length) := Lib.hid (by rw [hol]; exact hlt)
    have HOL := Lib.hid hol
    have HNEG : Hid (out.getD i 0 < 0) := Lib.hid (by omega)
    generalize out.getD i 0 = z at hcell hz
    have hz' : z < 0 := by omega
    have HB3 := Lib.hid (HB.out.setCell (p := ⟨g, i, none⟩) (by simp; omega) (.int .i64 m))
    have HG3 := Lib.hid (set_ints (i := i) HG.out m)
    clear hz hol
    go_wp2_with fail
    have HB4 := Lib.hid (HB3.out.alloc HB3.out.size (.cells #[.int .i64 i] 3))
    have HG4 := Lib.hid (HG3.out.alloc (.cells #[.int .i64 i] 3))
    have HQ4 : Hid (Qu ((wr.setCell ⟨g, i, none⟩ (.int .i64 m)).alloc (.cells #[.int .i64 i] 3)) (g + 1) (.slice (some ⟨wr.heap.size, 0, none⟩) 1 1) (ints (natJ [i]))) := Lib.hid (by
     have hb := Blk.new (wr.setCell ⟨g, i, none⟩ (.int .i64 m)) 3 #[.int .i64 i]
     have hsz : (wr.setCell ⟨g, i, none⟩ (.int .i64 m)).heap.size = wr.heap.size := by simp
     rw [hsz] at hb
     refine ⟨wr.heap.size, 0, 1, rfl, by omega, hb.lt, Nat.le_refl _, by simp only [maxLen]; omega, fun j hj => ?_, fun j u hu => ?_⟩
     ·have hj0 : j = 0 := by omega
      subst hj0
      exact ⟨by rw [hb.cell 0]; rfl, hb.frozen 0⟩
     ·have hj0 : j = 0 := by have := (List.getElem?_eq_some_iff.1 hu).1; simpa [ints, natJ] using this
      subst hj0
      rw [Nat.add_zero, hb.cell 0]
      simpa [ints, natJ] using hu)
    have hs4 : g + 1 ≤ ((wr.setCell ⟨g, i, none⟩ (.int .i64 m)).alloc (.cells #[.int .i64 i] 3)).heap.size := by simp; omega
    have HPS4 : Hid (Ps n m (out.set i m) [i]) := Lib.hid ⟨by simp [HOL.out], fun v hv => by rw [List.mem_singleton.1 hv]; exact hlt, fun x hx => by
     rcases List.mem_or_eq_of_mem_set hx with hx | rfl
     ·exact HPS.out.bd x hx
     ·omega⟩
    have HM4 : Hid (([i] : List Nat).length + negs (out.set i m) ≤ n + 1) := Lib.hid (by
     have h1 := negs_set out i m hm0 HSETL.out HNEG.out
     have h2 := negs_le out
     have h3 := HOL.out
     simp; omega)
    generalize hW4 : (wr.setCell ⟨g, i, none⟩ (.int .i64 m)).alloc (.cells #[.int .i64 i] 3) = w4 at *
    obtain ⟨R0, hR0⟩ : ∃ R0, R0 = pbfs m es (n + 1) (out.set i m) [i] := ⟨_, rfl⟩
    have HR0 := Lib.hid hR0
    clear hW4 hcell hfz HB3 HG3 HSETL HNEG hR0
    go_loopg [10] (n + 1) (fun f v10 wr => ∃ (out : List Int) (q : List Nat), Ps n m out q ∧ pbfs m es f out q = R0 ∧ q.length + negs out ≤ f ∧ f ≤ n + 1 ∧ Below w.heap.size w wr ∧ Blk wr g 3 (ints out).toArray ∧ Qu wr (g + 1) v10 (ints (natJ q)) ∧ g + 1 ≤ wr.heap.size)
    case atStart => exact ⟨out.set i m, [i], HPS4.out, HR0.out.symm, HM4.out, by omega, HB4.out, HG4.out, HQ4.out, hs4⟩
    case round =>
     clear HB4 HG4 HQ4 HPS4 HM4 hs4 hgl HPS HG HB HOL
     obtain ⟨out2, q2, hps, hfun, hmm, hgn, hb, hblk, hq, hs⟩ := hrel
     have HPS := Lib.hid hps
     have HFUN := Lib.hid hfun
     have HB := Lib.hid hb
     have HG := Lib.hid hblk
     have HMM := Lib.hid hmm
     obtain ⟨qb, qo, qc, rfl, hqg, hqlt, hqc, hqm, hqh, hqx⟩ := hq.ex
     have hql : (ints (natJ q2)).length = q2.length := by simp [ints, natJ]
     rw [hql] at hqc hq ⊢
     have HQ := Lib.hid hq
     clear hps hb hblk hq hfun hmm hql
     cases q2 with
     | nil =>
      clear hqx hqh
      simp only [List.length_nil] at *
      go_wp2_with fail
      go_roundw
      case rel => exact ⟨i + 1, out2, m + 1, by omega, by go_num, by go_num, by rw [← HF.out, pgo_take hlt (by have := HZ.out; omega), ← HR0.out, ← HFUN.out, pbfs_nil], ⟨HPS.out.len, HPS.out.lt, fun x hx => by have := HPS.out.bd x hx; omega⟩, by omega, by omega, HB.out, HG.out⟩
      case measure => simp [intOf]; omega
     | cons u q =>
      have hul := HPS.out.lt u (List.mem_cons_self ..)
      have hq0 := hqx 0 (.int .i64 u) rfl
      rw [Nat.add_zero] at hq0
      have hqt := HQ.out
      rw [show ints (natJ (u :: q)) = .int .i64 u :: ints (natJ q) from rfl] at hqt
      have hqt := hqt.tail
      rw [List.length_cons, Nat.add_sub_cancel] at hqt
      have hqlI : (0 : Int) < ((q.length + 1 : Nat) : Int) := by omega
      have hq1 : 1 ≤ q.length + 1 := by omega
      have hqd : decide (0 < q.length + 1) = true := by simp
      have hsub : q.length + 1 - 1 = q.length := by omega
      have hqc1 : 1 ≤ qc := by rw [List.length_cons] at hqc; omega
      have hqc2 : q.length + 1 ≤ qc := by rw [List.length_cons] at hqc; exact hqc
      generalize hqa : (if qc = 1 then some (⟨qb, qo, none⟩ : Addr) else some ⟨qb, qo + 1, none⟩) = qa at hqt
      have HQT := Lib.hid hqt
      have hln : (u :: q).length = q.length + 1 := rfl
      rw [hln] at hqc ⊢
      have HLQ := Lib.hid hln
      clear hqt hqx hqh hln
      generalize hql : q.length + 1 = ql at *
      have HQL := Lib.hid hql
      clear hql
      go_wp2_with fail
      have hwo := HB.out.size
      obtain ⟨S0, hS0⟩ : ∃ S0, S0 = pscan u m es (out2, q) := ⟨_, rfl⟩
      have HS0 := Lib.hid hS0
      obtain ⟨C0, hC0⟩ : ∃ C0, C0 = q.length + negs out2 := ⟨_, rfl⟩
      have HC0 := Lib.hid hC0
      have HPSq : Hid (Ps n m out2 q) := Lib.hid ⟨HPS.out.len, fun v hv => HPS.out.lt v (List.mem_cons_of_mem _ hv), HPS.out.bd⟩
      have HFUN2 : Hid (0 < gk → pbfs m es (gk - 1) S0.1 S0.2 = R0) := Lib.hid (fun h => by rw [← HFUN.out, pbfs_on h, ← HS0.out])
      have HMM2 : Hid (1 + C0 ≤ gk) := Lib.hid (by have := HMM.out; rw [List.length_cons] at this; omega)
      clear HFUN HMM hS0 hC0 HPS
      go_loopw [10, 43] (fun v10 v43 wr => ∃ (k : Nat) (out : List Int) (q : List Nat), k ≤ es.length ∧ v43 = .int .i64 k ∧ Ps n m out q ∧ pscan u m (es.drop k) (out, q) = S0 ∧ q.length + negs out = C0 ∧ Below w.heap.size w wr ∧ Blk wr g 3 (ints out).toArray ∧ Qu wr (g + 1) v10 (ints (natJ q)) ∧ g + 1 ≤ wr.heap.size) (fun _ v43 _ => es.length - (intOf v43).toNat)
      case atStart => exact ⟨0, out2, q, by omega, rfl, HPSq.out, HS0.out.symm, HC0.out.symm, HB.out, HG.out, by have h := HQT.out; rw [← hqa] at h; first | exact h | (rw [hqa] at h; exact h), hs⟩
      case round =>
       clear HPSq HB HG HQT HQ
       obtain ⟨k, out3, q3, hk, rfl, hps, hsc, hcc, hb, hblk, hq3, hs3⟩ := hrel
       have HPS := Lib.hid hps
       have HSC := Lib.hid hsc
       have HCC := Lib.hid hcc
       have HB := Lib.hid hb
       have HG := Lib.hid hblk
       have HQ := Lib.hid hq3
       have hol3 := Lib.hid hps.len
       clear hps hsc hcc hb hblk hq3
       by_cases hlt3 : k < es.length
       ·obtain ⟨⟨xa, xb⟩, hx⟩ : ∃ x, es[k]? = some x := ⟨_, List.getElem?_eq_getElem hlt3⟩
        have hE := (HE.out.below HB.out (Nat.le_refl _)).more HB.out.size
        obtain ⟨eb, eo, heA, heb⟩ := hE.form (by omega)
        subst heA
        obtain ⟨e0, e1⟩ := hE.at_ hx
        dsimp only at e0 e1
        obtain ⟨hxa, hxb⟩ := HOK.out _ (List.mem_of_getElem? hx)
        dsimp only at hxa hxb
        have hkI : (k : Int) < (es.length : Int) := by omega
        have hkm : ((k : Int) == -1) = false := by simp
        have HST := Lib.hid (pstep_ok (u := u) (s := (out3, q3)) hm0 (HOK.out _ (List.mem_of_getElem? hx)) HPS.out)
        have HSC2 : Hid (pscan u m (es.drop (k + 1)) (pstep u m (out3, q3) (xa, xb)) = S0) := Lib.hid (by rw [← HSC.out, pscan_cons hx])
        have HBA := Lib.hid (HB.out.alloc HB.out.size (.cells #[.int .i64 xa, .int .i64 xb] 167))
        have HGA := Lib.hid (HG.out.alloc (.cells #[.int .i64 xa, .int .i64 xb] 167))
        have HQA := Lib.hid (HQ.out.up ((Below.refl _ _).alloc (Nat.le_refl _) (.cells #[.int .i64 xa, .int .i64 xb] 167)))
        have hbox := Blk.new wr 167 #[.int .i64 xa, .int .i64 xb]
        have b0 := hbox.cell 0
        have b1 := hbox.cell 1
        have hgl3 : g < wr.heap.size := by omega
        clear hE hx hbox
        unfold pstep at HST HSC2
        by_cases hh : xa = u ∨ xb = u
        ·by_cases ha : xa = u
         ·subst ha
          have hna : ((xa : Int) != (xa : Int)) = false := by simp
          have ho : xa + xb - xa = xb := by omega
          dsimp only at HST HSC2
          rw [ho] at HST HSC2
          have hby : (wr.alloc (.cells #[.int .i64 xa, .int .i64 xb] 167)).cell? ⟨g, xb, none⟩ = some (.int .i64 (out3.getD xb 0)) := set_get HGA.out (by rw [hol3.out]; omega)
          have hoI : (xb : Int) < (n : Int) := by omega
          have hfz := HGA.out.frozen xb
          by_cases hz : out3.getD xb 0 < 0
          ·have HZ := Lib.hid hz
           rw [if_pos ⟨hh, hz⟩] at HST HSC2
           generalize out3.getD xb 0 = z at hby hz
           have hlen3 : (ints (natJ q3)).length ≤ 1000000 := by
            have h1 := HCC.out
            have h2 := HMM2.out
            simp only [ints, natJ, List.length_map]; omega
           have HB7 := Lib.hid ((HB.out.setCell (p := ⟨g, xb, none⟩) (by simp; omega) (.int .i64 m)).alloc (by simp; omega) (.cells #[.int .i64 xa, .int .i64 xb] 167))
           have HG7 := Lib.hid ((set_ints (i := xb) HG.out m).alloc (.cells #[.int .i64 xa, .int .i64 xb] 167))
           have HQ7 := Lib.hid ((HQ.out.away (q := ⟨g, xb, none⟩) (by simp) (.int .i64 m)).up ((Below.refl _ _).alloc (Nat.le_refl _) (.cells #[.int .i64 xa, .int .i64 xb] 167)))
           generalize hw7 : (wr.setCell ⟨g, xb, none⟩ (.int .i64 m)).alloc (.cells #[.int .i64 xa, .int .i64 xb] 167) = w7 at HB7 HG7 HQ7
           have hs7 : wr.heap.size + 1 = w7.heap.size := by rw [← hw7]; simp
           have HB8 : Hid (Below w.heap.size w (((wr.setCell ⟨g, xb, none⟩ (.int .i64 m)).alloc (.cells #[.int .i64 xa, .int .i64 xb] 167)).alloc (.cells #[.int .i64 ((xa : Int) + xb - xa)] 3))) := Lib.hid (by rw [hw7]; exact HB7.out.alloc HB7.out.size (.cells #[.int .i64 ((xa : Int) + xb - xa)] 3))
           have HG8 : Hid (Blk (((wr.setCell ⟨g, xb, none⟩ (.int .i64 m)).alloc (.cells #[.int .i64 xa, .int .i64 xb] 167)).alloc (.cells #[.int .i64 ((xa : Int) + xb - xa)] 3)) g 3 (ints (out3.set xb m)).toArray) := Lib.hid (by rw [hw7]; exact HG7.out.alloc (.cells #[.int .i64 ((xa : Int) + xb - xa)] 3))
           have HQ8 : Hid (Qu (((wr.setCell ⟨g, xb, none⟩ (.int .i64 m)).alloc (.cells #[.int .i64 xa, .int .i64 xb] 167)).alloc (.cells #[.int .i64 ((xa : Int) + xb - xa)] 3)) (g + 1) u10 (ints (natJ q3))) := Lib.hid (by rw [hw7]; exact HQ7.out.up ((Below.refl _ _).alloc (Nat.le_refl _) (.cells #[.int .i64 ((xa : Int) + xb - xa)] 3)))
           have HC8 : Hid ((((wr.setCell ⟨g, xb, none⟩ (.int .i64 m)).alloc (.cells #[.int .i64 xa, .int .i64 xb] 167)).alloc (.cells #[.int .i64 ((xa : Int) + xb - xa)] 3)).cell? ⟨wr.heap.size + 1, 0, none⟩ = some (.int .i64 ((xa : Int) + xb - xa))) := Lib.hid (by
            rw [hw7]
            have h := (Blk.new w7 3 #[.int .i64 ((xa : Int) + xb - xa)]).cell 0
            rw [← hs7] at h
            simpa using h)
           have hs8 : g + 1 ≤ (((wr.setCell ⟨g, xb, none⟩ (.int .i64 m)).alloc (.cells #[.int .i64 xa, .int .i64 xb] 167)).alloc (.cells #[.int .i64 ((xa : Int) + xb - xa)] 3)).heap.size := by simp; omega
           clear hs7 hw7 HB7 HG7 HQ7
           go_wp2_with (at_builtin; refine wpList_append_q _ rfl (.tmp 79) (.tmp 81) 53 rfl (g + 1) 3 i0 (.int .i64 0) Tryz.underlying53 HI0.out HI1.out HI2.out HI3.out rfl u10 _ rfl HQ8.out ⟨wr.heap.size + 1, 0, none⟩ 1 _ rfl HC8.out rfl rfl hlen3 hs8 ?_; intro v' w9 hq9 hb9)
           go_roundw
           case rel =>
            have hq : ints (natJ q3) ++ [Value.int .i64 ((xa : Int) + xb - xa)] = ints (natJ (q3 ++ [xb])) := by
             first | exact natJ_snoc _ _ | (rw [← natJ_snoc]; congr 1 <;> first | rfl | (congr 2; omega))
            rw [hq] at hq9
            have h1 := HST.out
            exact ⟨k + 1, _, _, by omega, by go_num, h1.1, HSC2.out, h1.2.1.trans HCC.out, HB8.out.trans (hb9.mono (by omega)), HG8.out.below hb9 (by omega), hq9, Nat.le_trans hs8 hb9.size⟩
           case measure => simp [intOf]; omega
          ·rw [if_neg (fun h => hz h.2)] at HST HSC2
           have hzz : decide (out3.getD xb 0 < 0) = false := decide_eq_false hz
           generalize out3.getD xb 0 = z at hby hz hzz
           go_wp2_with fail
           go_roundw
           case rel => exact ⟨k + 1, out3, q3, by omega, by go_num, HPS.out, HSC2.out, HCC.out, HBA.out, HGA.out, HQA.out, by simp; omega⟩
           case measure => simp [intOf]; omega
         ·have hb : xb = u := hh.resolve_left ha
          subst hb
          have hna : ((xa : Int) != (xb : Int)) = true := by simp; omega
          have hnb0 : ((xb : Int) != (xb : Int)) = false := by simp
          have ho : xa + xb - xb = xa := by omega
          dsimp only at HST HSC2
          rw [ho] at HST HSC2
          have hby : (wr.alloc (.cells #[.int .i64 xa, .int .i64 xb] 167)).cell? ⟨g, xa, none⟩ = some (.int .i64 (out3.getD xa 0)) := set_get HGA.out (by rw [hol3.out]; omega)
          have hoI : (xa : Int) < (n : Int) := by omega
          have hfz := HGA.out.frozen xa
          by_cases hz : out3.getD xa 0 < 0
          ·have HZ := Lib.hid hz
           rw [if_pos ⟨hh, hz⟩] at HST HSC2
           generalize out3.getD xa 0 = z at hby hz
           have hlen3 : (ints (natJ q3)).length ≤ 1000000 := by
            have h1 := HCC.out
            have h2 := HMM2.out
            simp only [ints, natJ, List.length_map]; omega
           have HB7 := Lib.hid ((HB.out.setCell (p := ⟨g, xa, none⟩) (by simp; omega) (.int .i64 m)).alloc (by simp; omega) (.cells #[.int .i64 xa, .int .i64 xb] 167))
           have HG7 := Lib.hid ((set_ints (i := xa) HG.out m).alloc (.cells #[.int .i64 xa, .int .i64 xb] 167))
           have HQ7 := Lib.hid ((HQ.out.away (q := ⟨g, xa, none⟩) (by simp) (.int .i64 m)).up ((Below.refl _ _).alloc (Nat.le_refl _) (.cells #[.int .i64 xa, .int .i64 xb] 167)))
           generalize hw7 : (wr.setCell ⟨g, xa, none⟩ (.int .i64 m)).alloc (.cells #[.int .i64 xa, .int .i64 xb] 167) = w7 at HB7 HG7 HQ7
           have hs7 : wr.heap.size + 1 = w7.heap.size := by rw [← hw7]; simp
           have HB8 : Hid (Below w.heap.size w (((wr.setCell ⟨g, xa, none⟩ (.int .i64 m)).alloc (.cells #[.int .i64 xa, .int .i64 xb] 167)).alloc (.cells #[.int .i64 (xa : Int)] 3))) := Lib.hid (by rw [hw7]; exact HB7.out.alloc HB7.out.size (.cells #[.int .i64 (xa : Int)] 3))
           have HG8 : Hid (Blk (((wr.setCell ⟨g, xa, none⟩ (.int .i64 m)).alloc (.cells #[.int .i64 xa, .int .i64 xb] 167)).alloc (.cells #[.int .i64 (xa : Int)] 3)) g 3 (ints (out3.set xa m)).toArray) := Lib.hid (by rw [hw7]; exact HG7.out.alloc (.cells #[.int .i64 (xa : Int)] 3))
           have HQ8 : Hid (Qu (((wr.setCell ⟨g, xa, none⟩ (.int .i64 m)).alloc (.cells #[.int .i64 xa, .int .i64 xb] 167)).alloc (.cells #[.int .i64 (xa : Int)] 3)) (g + 1) u10 (ints (natJ q3))) := Lib.hid (by rw [hw7]; exact HQ7.out.up ((Below.refl _ _).alloc (Nat.le_refl _) (.cells #[.int .i64 (xa : Int)] 3)))
           have HC8 : Hid ((((wr.setCell ⟨g, xa, none⟩ (.int .i64 m)).alloc (.cells #[.int .i64 xa, .int .i64 xb] 167)).alloc (.cells #[.int .i64 (xa : Int)] 3)).cell? ⟨wr.heap.size + 1, 0, none⟩ = some (.int .i64 (xa : Int))) := Lib.hid (by
            rw [hw7]
            have h := (Blk.new w7 3 #[.int .i64 (xa : Int)]).cell 0
            rw [← hs7] at h
            simpa using h)
           have hs8 : g + 1 ≤ (((wr.setCell ⟨g, xa, none⟩ (.int .i64 m)).alloc (.cells #[.int .i64 xa, .int .i64 xb] 167)).alloc (.cells #[.int .i64 (xa : Int)] 3)).heap.size := by simp; omega
           clear hs7 hw7 HB7 HG7 HQ7
           go_wp2_with (at_builtin; refine wpList_append_q _ rfl (.tmp 79) (.tmp 81) 53 rfl (g + 1) 3 i0 (.int .i64 0) Tryz.underlying53 HI0.out HI1.out HI2.out HI3.out rfl u10 _ rfl HQ8.out ⟨wr.heap.size + 1, 0, none⟩ 1 _ rfl HC8.out rfl rfl hlen3 hs8 ?_; intro v' w9 hq9 hb9)
           go_roundw
           case rel =>
            have hq : ints (natJ q3) ++ [Value.int .i64 (xa : Int)] = ints (natJ (q3 ++ [xa])) := by
             first | exact natJ_snoc _ _ | (rw [← natJ_snoc]; congr 1 <;> first | rfl | (congr 2; omega))
            rw [hq] at hq9
            have h1 := HST.out
            exact ⟨k + 1, _, _, by omega, by go_num, h1.1, HSC2.out, h1.2.1.trans HCC.out, HB8.out.trans (hb9.mono (by omega)), HG8.out.below hb9 (by omega), hq9, Nat.le_trans hs8 hb9.size⟩
           case measure => simp [intOf]; omega
          ·rw [if_neg (fun h => hz h.2)] at HST HSC2
           have hzz : decide (out3.getD xa 0 < 0) = false := decide_eq_false hz
           generalize out3.getD xa 0 = z at hby hz hzz
           go_wp2_with fail
           go_roundw
           case rel => exact ⟨k + 1, out3, q3, by omega, by go_num, HPS.out, HSC2.out, HCC.out, HBA.out, HGA.out, HQA.out, by simp; omega⟩
           case measure => simp [intOf]; omega
        ·have hna : ((xa : Int) != (u : Int)) = true := by have : xa ≠ u := fun h => hh (.inl h)
                                                           simp; omega
         have hnb : ((xb : Int) != (u : Int)) = true := by have : xb ≠ u := fun h => hh (.inr h)
                                                           simp; omega
         rw [if_neg (fun h => hh h.1)] at HST HSC2
         go_wp2_with fail
         go_roundw
         case rel => exact ⟨k + 1, out3, q3, by omega, by go_num, HPS.out, HSC2.out, HCC.out, HBA.out, HGA.out, HQA.out, by simp; omega⟩
         case measure => simp [intOf]; omega
       ·have hkk : k = es.length := by omega
        subst hkk
        go_wp2_with fail
        go_roundg (gk - 1)
        case rel =>
         have hS : (out3, q3) = S0 := by rw [← HSC.out, List.drop_length]; rfl
         exact ⟨out3, q3, HPS.out, by rw [← HFUN2.out (by have := HMM2.out; omega), ← hS], by have := HMM2.out; have := HCC.out; omega, by omega, HB.out, HG.out, HQ.out, hs3⟩
        case measure => have := HMM2.out; omega
  ·have hin : i = n := by omega
   subst hin
   go_wp2_with fail
   go_ret
   exact HP.out _ _ ⟨HB.out, g, rfl, hwg, by
    have h := HG.out
    have e : out = partsR i es := by unfold partsR; rw [← HF.out, Nat.sub_self]; rfl
    rw [e] at h; exact h⟩
end
section
open Go.ChangeShapes Go.WideShapes Go.ChangeAt Go.RowKit
attribute [local go_sem ↓] execOp_call_val
attribute [local go_sem] callVal_func setCell_drewN alloc_drewN sEq_walk NetH.cells
set_option maxHeartbeats 1000000 in
theorem gcheck_ok (A : Option Addr) (c n : Nat) (es : List (Nat × Nat)) (w : World) (hE : RdE w w.heap.size A es.length es) (ok : ∀ x ∈ es, x.1 < n ∧ x.2 < n) (hn : n ≤ 24) (he : es.length ≤ 64) :
    Calls Tryz.prog 141 #[.int .i64 n, .slice A es.length c] w fun e w' => e = .returned (.int .i64 0) ∧ Below w.heap.size w w' := by
 have HE := Lib.hid hE
 have HOK := Lib.hid ok
 have HB0 := Lib.hid (Below.refl w.heap.size w)
 clear hE ok
 go_enter Tryz.func141, Tryz.ntmps141
 go_wp2_with fail
 go_loopw [20] (fun v wr => ∃ k : Nat, k ≤ es.length ∧ v = .int .i64 k ∧ Below w.heap.size w wr) (fun v _ => es.length - (intOf v).toNat)
 case atStart => exact ⟨0, by omega, rfl, HB0.out⟩
 case round =>
  clear HB0
  obtain ⟨k, hk, rfl, hb⟩ := hrel
  have HB := Lib.hid hb
  clear hb
  by_cases hlt : k < es.length
  ·obtain ⟨⟨xa, xb⟩, hx⟩ : ∃ x, es[k]? = some x := ⟨_, List.getElem?_eq_getElem hlt⟩
   have hE := (HE.out.below HB.out (Nat.le_refl _)).more HB.out.size
   obtain ⟨eb, eo, heA, heb⟩ := hE.form (by omega)
   subst heA
   obtain ⟨e0, e1⟩ := hE.at_ hx
   dsimp only at e0 e1
   obtain ⟨hxa, hxb⟩ := HOK.out _ (List.mem_of_getElem? hx)
   dsimp only at hxa hxb
   have hkI : (k : Int) < (es.length : Int) := by omega
   have hI1 : (xa : Int) < (n : Int) := by omega
   have hI2 : (xb : Int) < (n : Int) := by omega
   have HBA := Lib.hid (HB.out.alloc HB.out.size (.cells #[.int .i64 xa, .int .i64 xb] 167))
   clear hE hx
   go_wp2_with fail
   go_roundw
   case rel => exact ⟨k + 1, by omega, by go_num, HBA.out⟩
   case measure => simp [intOf]; omega
  ·have hkk : k = es.length := by omega
   subst hkk
   go_wp2_with fail
   go_ret
   exact ⟨rfl, HB.out⟩
def CompP (n : Nat) (es : List (Nat × Nat)) (w : World) (e : Ending) (w' : World) : Prop :=
 Below w.heap.size w w' ∧ ∃ g : Nat, e = .returned (.tuple #[.slice (some ⟨g, 0, none⟩) n n, .int .i64 0]) ∧ w.heap.size ≤ g ∧ Blk w' g 3 (ints (partsR n es)).toArray
theorem compP_of (n : Nat) (es : List (Nat × Nat)) (w : World) (e : Ending) (w' : World) (h : Below w.heap.size w w' ∧ ∃ g : Nat, e = .returned (.tuple #[.slice (some ⟨g, 0, none⟩) n n, .int .i64 0]) ∧ w.heap.size ≤ g ∧ Blk w' g 3 (ints (partsR n es)).toArray) : CompP n es w e w' := h
theorem comp_any (A : Option Addr) (c n : Nat) (es : List (Nat × Nat)) (w : World) (hE : RdE w w.heap.size A es.length es) (ok : ∀ x ∈ es, x.1 < n ∧ x.2 < n) (hn : n ≤ 24) (he : es.length ≤ 64) :
    Calls Tryz.prog 109 #[.int .i64 n, .slice A es.length c] w (CompP n es w) := by
 have HE := Lib.hid hE
 have HOK := Lib.hid ok
 have HP := Lib.hid (compP_of n es w)
 clear hE ok
 go_enter Tryz.func109, Tryz.ntmps109
 go_wp2_with fail
 refine (gcheck_ok A c n es w HE.out HOK.out hn he).mono ?_
 rintro e w1 ⟨rfl, hb⟩
 have HB := Lib.hid hb
 clear hb
 go_wp2_with fail
 refine (parts_any A c n es w1 ((HE.out.below HB.out (Nat.le_refl _)).more HB.out.size) HOK.out (by omega) (by omega)).mono ?_
 rintro e w2 ⟨hb2, g, rfl, hg, hblk⟩
 have HB2 := Lib.hid (HB.out.trans (hb2.mono HB.out.size))
 have HG := Lib.hid hg
 have HBL := Lib.hid hblk
 clear hb2 hg hblk
 go_wp2_with fail
 go_ret2
 exact HP.out _ _ ⟨HB2.out, g, rfl, Nat.le_trans HB.out.size HG.out, HBL.out⟩
def swE1 (nodes : List ByteArray) (op : Bool) (s : Sw) : List (Nat × Nat) := if s.opn = op then [(ndIdx nodes s.a, ndIdx nodes s.b)] else []
def swE (x : Net) (op : Bool) : List (Nat × Nat) := x.sws.flatMap (swE1 x.nodes op)
theorem takeFM {α β : Type} (f : α → List β) {l : List α} {k : Nat} {x : α} (h : l[k]? = some x) : (l.take (k + 1)).flatMap f = (l.take k).flatMap f ++ f x := by
 rw [List.take_add_one, h, List.flatMap_append]; simp
theorem lenFM {α β : Type} (f : α → List β) (m : Nat) (h : ∀ a, (f a).length ≤ m) : ∀ l : List α, (l.flatMap f).length ≤ m * l.length
 | [] => by simp
 | a :: l => by
  have h1 := lenFM f m h l
  have h2 := h a
  rw [List.flatMap_cons, List.length_append, List.length_cons, Nat.mul_succ]; omega
theorem swE1_len (nodes : List ByteArray) (op : Bool) (s : Sw) : (swE1 nodes op s).length ≤ 1 := by unfold swE1; split <;> simp
theorem infoP2 : (Tryz.prog.info? 167).map (fun i => (i.zero, i.size, i.bytes)) = some (some (.agg #[.int .i64 0, .int .i64 0]), 2, 16) := by kernel_rfl
structure EgS (w0 W : World) (h : NetH) (v6 v7 : Value) (es : List (Nat × Nat)) (ws : List Value) : Prop where
 low : Below w0.heap.size w0 W
 q1 : Blk W w0.heap.size 33 h.cells
 o6 : W.ownsRow (w0.heap.size + 1) 167 2 v6 es.length (es.flatMap edC)
 o7 : W.ownsRow (w0.heap.size + 1) 3 1 v7 ws.length ws
 ap : v7.ownBlock = none ∨ v7.ownBlock ≠ v6.ownBlock
 sz : w0.heap.size + 1 ≤ W.heap.size
theorem own_up {w w' : World} {base e size n : Nat} {v : Value} {xs : List Value} (h : w.ownsRow base e size v n xs) (hb : Below w.heap.size w w') : w'.ownsRow base e size v n xs := by
 refine ⟨h.1, ?_⟩
 rcases h.2 with h1 | ⟨g, cap, cur, h1, h2, h3, h4⟩
 ·exact .inl h1
 ·refine .inr ⟨g, cap, cur, h1, h2, ?_, h4⟩
  have hg : g < w.heap.size := by
   rcases Nat.lt_or_ge g w.heap.size with hlt | hge
   ·exact hlt
   ·rw [Array.getElem?_eq_none hge] at h3; cases h3
  exact (hb.block g hg).trans h3
theorem EgS.up {w0 W W' : World} {h : NetH} {v6 v7 : Value} {es : List (Nat × Nat)} {ws : List Value} (H : EgS w0 W h v6 v7 es ws) (hb : Below W.heap.size W W') : EgS w0 W' h v6 v7 es ws :=
 ⟨H.low.trans (hb.mono H.low.size), H.q1.below hb H.q1.lt, own_up H.o6 hb, own_up H.o7 hb, H.ap, Nat.le_trans H.sz hb.size⟩
theorem own_far {w : World} {B e size n g : Nat} {v : Value} {xs : List Value} (h : w.ownsRow B e size v n xs) (hg : v.ownBlock = some g) : B ≤ g ∧ g < w.heap.size := h.lt g hg
theorem EgS.app6 {w0 W W' W1 : World} {h : NetH} {v6 v7 : Value} {es : List (Nat × Nat)} {ws : List Value} (H : EgS w0 W h v6 v7 es ws) (hb : Below W.heap.size W W') {p : Nat × Nat} {g cap : Nat}
    (ho : W1.ownsRow (w0.heap.size + 1) 167 2 (.slice (some ⟨g, 0, none⟩) (es.length + 1) cap) (es.length + 1) (es.flatMap edC ++ edC p)) (hg : W'.grownBy W1 v6.ownBlock) (hat : v6.ownBlock = some g ∨ g = W'.heap.size) :
    EgS w0 W1 h (.slice (some ⟨g, 0, none⟩) (es.length + 1) cap) v7 (es ++ [p]) ws := by
 have H' := H.up hb
 have hne : v7.ownBlock = none ∨ v7.ownBlock ≠ v6.ownBlock := H'.ap
 have hlow : Below w0.heap.size w0 W1 := by
  refine ⟨hg.os.trans H'.low.os, hg.tape.trans H'.low.tape, hg.output.trans H'.low.output, Nat.le_trans H'.low.size hg.size, fun i hi => ?_⟩
  have hne : some i ≠ v6.ownBlock := fun e => by have := (own_far H'.o6 e.symm).1; omega
  exact (hg.block i (by have := H'.sz; omega) hne).trans (H'.low.block i hi)
 refine ⟨hlow, H'.q1.grown hg (fun e => ?_), ?_, H'.o7.kept hg hne, ?_, Nat.le_trans H'.sz hg.size⟩
 ·have := (own_far H'.o6 e.symm).1; omega
 ·rw [List.length_append, List.flatMap_append]
  simpa [edC] using ho
 ·rcases hne with h1 | h1
  ·exact .inl h1
  ·right
   intro e
   rcases hat with h2 | h2
   ·rw [h2] at h1; exact h1 e
   ·have h3 : v7.ownBlock = some g := e
    have := (own_far H'.o7 h3).2; omega
theorem EgS.app7 {w0 W W' W1 : World} {h : NetH} {v6 v7 : Value} {es : List (Nat × Nat)} {ws : List Value} (H : EgS w0 W h v6 v7 es ws) (hb : Below W.heap.size W W') {u : Value} {g cap : Nat}
    (ho : W1.ownsRow (w0.heap.size + 1) 3 1 (.slice (some ⟨g, 0, none⟩) (ws.length + 1) cap) (ws.length + 1) (ws ++ [u])) (hg : W'.grownBy W1 v7.ownBlock) (hat : v7.ownBlock = some g ∨ g = W'.heap.size) :
    EgS w0 W1 h v6 (.slice (some ⟨g, 0, none⟩) (ws.length + 1) cap) es (ws ++ [u]) := by
 have H' := H.up hb
 have hap := H'.ap
 have hne : v6.ownBlock = none ∨ v6.ownBlock ≠ v7.ownBlock := by
  rcases hap with h1 | h1
  ·rw [h1]
   cases h6 : v6.ownBlock with
   | none => exact .inl rfl
   | some k => exact .inr (by simp)
  ·exact .inr (Ne.symm h1)
 have hlow : Below w0.heap.size w0 W1 := by
  refine ⟨hg.os.trans H'.low.os, hg.tape.trans H'.low.tape, hg.output.trans H'.low.output, Nat.le_trans H'.low.size hg.size, fun i hi => ?_⟩
  have hne : some i ≠ v7.ownBlock := fun e => by have := (own_far H'.o7 e.symm).1; omega
  exact (hg.block i (by have := H'.sz; omega) hne).trans (H'.low.block i hi)
 refine ⟨hlow, H'.q1.grown hg (fun e => ?_), H'.o6.kept hg hne, by rw [List.length_append]; exact ho, ?_, Nat.le_trans H'.sz hg.size⟩
 ·have := (own_far H'.o7 e.symm).1; omega
 ·right
  intro e
  rcases hat with h2 | h2
  ·rcases hap with h1 | h1
   ·rw [h1] at h2; cases h2
   ·rw [h2] at h1; exact h1 e
  ·have h3 : v6.ownBlock = some g := e.symm
   have := (own_far H'.o6 h3).2; omega
theorem nodeIx {nodes : List ByteArray} {s : ByteArray} (hs : s ∈ nodes) : idxGo (fun x => sEq s x) nodes 0 = ((ndIdx nodes s : Nat) : Int) := (ndIdx_ok hs).1
theorem pr_news (w : World) (p : Nat × Nat) (t : TypeId) : ∀ (j : Nat) (u : Value), (edC p)[j]? = some u → ((w.alloc (.cells #[.int .i64 p.1, .int .i64 p.2] t)).drew).cell? ((⟨w.heap.size, 0, none⟩ : Addr).add j) = some u :=
 World.news_of_block (w := (w.alloc (.cells #[.int .i64 p.1, .int .i64 p.2] t)).drew) (B := w.heap.size) (cs := #[.int .i64 p.1, .int .i64 p.2]) (t := t) (fr := (0, 0)) (Blk.new w t _)
theorem pr_one (p : Nat × Nat) : ∀ u ∈ edC p, u.oneCell' = true := by
 intro u hu
 unfold edC at hu
 simp at hu
 rcases hu with rfl | rfl <;> rfl
theorem cellAl {w : World} {b o : Nat} {v : Value} {ob : Obj} (h : w.cell? ⟨b, o, none⟩ = some v) (hb : b < w.heap.size) : (w.alloc ob).cell? ⟨b, o, none⟩ = some v := by
 rw [((Below.refl w.heap.size w).alloc (Nat.le_refl _) ob).cell (p := ⟨b, o, none⟩) hb]; exact h
def EdgP (x : Net) (op : Bool) (w : World) (e : Ending) (w' : World) : Prop :=
 Below w.heap.size w w' ∧ ∃ (v6 v7 : Value), e = .returned (.tuple #[v6, v7]) ∧ w'.ownsRow (w.heap.size + 1) 167 2 v6 (swE x op).length ((swE x op).flatMap edC)
theorem edgP_of (x : Net) (op : Bool) (w : World) (e : Ending) (w' : World) (h : Below w.heap.size w w' ∧ ∃ (v6 v7 : Value), e = .returned (.tuple #[v6, v7]) ∧ w'.ownsRow (w.heap.size + 1) 167 2 v6 (swE x op).length ((swE x op).flatMap edC)) : EdgP x op w e w' := h
set_option maxRecDepth 100000 in
set_option maxHeartbeats 8000000 in
theorem edges_any (h : NetH) (x : Net) (ok : NetOk x) (op : Bool) (w : World) (hR : RdNet w w.heap.size h x) :
    Calls Tryz.prog 140 #[.agg h.cells, .bool op] w (EdgP x op w) := by
 obtain ⟨A0, n0, c0, A1, n1, c1, A2, n2, c2, A3, n3, c3, A4, n4, c4, A5, n5, c5⟩ := h
 dsimp only [NetH.cells] at *
 have HOK := Lib.hid ok
 have HR := Lib.hid hR
 have HP := Lib.hid (edgP_of x op w)
 obtain ⟨i0, hi0, hi1, hi2, hi3⟩ := info_parts infoP2
 have HI0 := Lib.hid hi0
 have HI1 := Lib.hid hi1
 have HI2 := Lib.hid hi2
 have HI3 := Lib.hid hi3
 obtain ⟨j0, hj0, hj1, hj2, hj3⟩ := info_parts infoIn
 have HJ0 := Lib.hid hj0
 have HJ1 := Lib.hid hj1
 have HJ2 := Lib.hid hj2
 have HJ3 := Lib.hid hj3
 have HN1 : Hid (x.sws.length = n1) := Lib.hid hR.r1.1
 have hn132 : n1 ≤ 32 := by have := ok.l1; have := HN1.out; omega
 have hn63 : n0 ≤ 9223372036854775807 := hR.m0
 have HS0 : Hid (EgS w (w.alloc (.cells #[.slice A0 n0 c0, .slice A1 n1 c1, .slice A2 n2 c2, .slice A3 n3 c3, .slice A4 n4 c4, .slice A5 n5 c5] 33)) ⟨A0, n0, c0, A1, n1, c1, A2, n2, c2, A3, n3, c3, A4, n4, c4, A5, n5, c5⟩ (.slice none 0 0) (.slice none 0 0) [] []) := Lib.hid
  ⟨(Below.refl _ _).alloc (Nat.le_refl _) _, Blk.new w _ _, World.ownsRow_nil _ _ _ _, World.ownsRow_nil _ _ _ _, .inl rfl, by simp⟩
 clear hi0 hi1 hi2 hi3 hj0 hj1 hj2 hj3 ok hR
 obtain ⟨y0, y1, y2, y3, y4, y5, nf, nlt⟩ := net_box (h := ⟨A0, n0, c0, A1, n1, c1, A2, n2, c2, A3, n3, c3, A4, n4, c4, A5, n5, c5⟩) HS0.out.q1
 go_enter Tryz.func140, Tryz.ntmps140
 go_wp2_with fail
 generalize w.alloc (.cells #[.slice A0 n0 c0, .slice A1 n1 c1, .slice A2 n2 c2, .slice A3 n3 c3, .slice A4 n4 c4, .slice A5 n5 c5] 33) = w1 at *
 clear y0 y1 y2 y3 y4 y5 nf nlt
 go_loopw [6, 7, 13] (fun v6 v7 i wr => ∃ (k : Nat) (ws : List Value), k ≤ n1 ∧ i = .int .i64 k ∧ ws.length ≤ k ∧ EgS w wr ⟨A0, n0, c0, A1, n1, c1, A2, n2, c2, A3, n3, c3, A4, n4, c4, A5, n5, c5⟩ v6 v7 ((x.sws.take k).flatMap (swE1 x.nodes op)) ws) (fun _ _ i _ => n1 - (intOf i).toNat)
 case atStart => exact ⟨0, [], by omega, rfl, by simp, HS0.out⟩
 case round =>
  clear HS0
  obtain ⟨k, ws, hk, rfl, hwl, hs⟩ := hrel
  have HS := Lib.hid hs
  have HWL := Lib.hid hwl
  obtain ⟨y0, y1, y2, y3, y4, y5, nf, nlt⟩ := net_box hs.q1
  clear hs hwl
  by_cases hlt : k < n1
  ·obtain ⟨z, hz⟩ : ∃ z, x.sws[k]? = some z := ⟨_, List.getElem?_eq_getElem (by have := HN1.out; omega)⟩
   have hrw := HR.out.up HS.out.low
   obtain ⟨bz, oz, hA, hbz⟩ := hrw.r1.form (by dsimp only; omega)
   dsimp only at hA
   subst hA
   obtain ⟨e0, e1, e2, e3, e4⟩ := hrw.r1.at_ hz
   have HRN := Lib.hid hrw.r0
   have HZS := Lib.hid (HOK.out.sw z (List.mem_of_getElem? hz))
   have HZ := Lib.hid (takeFM (swE1 x.nodes op) hz)
   have HZL : Hid (((x.sws.take k).flatMap (swE1 x.nodes op)).length ≤ 1000) := Lib.hid (by
    have h1 := lenFM (swE1 x.nodes op) 1 (swE1_len x.nodes op) (x.sws.take k)
    have := HN1.out
    rw [List.length_take] at h1; omega)
   have HWB := Lib.hid ((Below.refl wr.heap.size wr).alloc (Nat.le_refl _) (.cells #[.string z.name, .string z.a, .string z.b, .bool z.breaker, .bool z.opn] 139))
   have HS2 := Lib.hid (HS.out.up HWB.out)
   have HBX : Hid (Blk (wr.alloc (.cells #[.string z.name, .string z.a, .string z.b, .bool z.breaker, .bool z.opn] 139)) wr.heap.size 139 #[.string z.name, .string z.a, .string z.b, .bool z.breaker, .bool z.opn]) := Lib.hid (Blk.new wr _ _)
   have hkI : (k : Int) < (n1 : Int) := by omega
   clear hz hrw
   by_cases hop : z.opn = op
   ·have HE1 : Hid (swE1 x.nodes op z = [(ndIdx x.nodes z.a, ndIdx x.nodes z.b)]) := Lib.hid (by unfold swE1; rw [if_pos hop])
    have hop' : (z.opn == op) = true := by simp [hop]
    have HRN2 : Hid (RdStr (wr.alloc (.cells #[.string z.name, .string z.a, .string z.b, .bool z.breaker, .bool z.opn] 139)) (wr.alloc (.cells #[.string z.name, .string z.a, .string z.b, .bool z.breaker, .bool z.opn] 139)).heap.size A0 n0 x.nodes) := Lib.hid ((HRN.out.below HWB.out (Nat.le_refl _)).more HWB.out.size)
    rw [hop] at HS2 HBX HRN2 HWB e4
    clear hop hop'
    go_wp2_with fail
    have hzw : wr.heap.size < (wr.alloc (.cells #[.string z.name, .string z.a, .string z.b, .bool z.breaker, .bool op] 139)).heap.size := by simp
    have hv1 : u6.ownBlock ≠ some w.heap.size := fun e => by have := (HS.out.o6.lt _ e).1; omega
    have hv2 : u6.ownBlock ≠ some wr.heap.size := fun e => by have := (HS.out.o6.lt _ e).2; omega
    clear HWB HS HRN y0 y1 y2 y3 y4 y5 nf nlt e0 e1 e2 e3 e4
    generalize hWW : wr.alloc (.cells #[.string z.name, .string z.a, .string z.b, .bool z.breaker, .bool op] 139) = W at *
    generalize hzb : wr.heap.size = zb at *
    have q0 : W.cell? ⟨w.heap.size, 0, none⟩ = some (.slice A0 n0 c0) := HS2.out.q1.cell 0
    have b1 : W.cell? ⟨zb, 1, none⟩ = some (.string z.a) := HBX.out.cell 1
    have b2 : W.cell? ⟨zb, 2, none⟩ = some (.string z.b) := HBX.out.cell 2
    have hsa : z.a ∈ x.nodes := HZS.out.1
    have hsb : z.b ∈ x.nodes := HZS.out.2.1
    generalize hE0 : (x.sws.take k).flatMap (swE1 x.nodes op) = E0 at *
    have HEE := Lib.hid hE0
    clear hE0 hWW hzb
    have hbase : w.heap.size + 1 ≤ W.heap.size := HS2.out.sz
    generalize u6 = v6 at *
    refine wp_region_last (S := fun w' => w'.cell? ⟨w.heap.size, 0, none⟩ = some (.slice A0 n0 c0) ∧ w'.cell? ⟨zb, 1, none⟩ = some (.string z.a) ∧ w'.cell? ⟨zb, 2, none⟩ = some (.string z.b)) 14 _ (by kernel_rfl) (by kernel_rfl) rfl ⟨q0, b1, b2⟩ (fun hHeld => ?_)
    simp only [List.take_succ_cons, List.take_zero]
    refine takeH 0 (v := ?_) rfl (by kernel_rfl) (fun _ _ _ h => h) (by rfl) ?_ hHeld ?_
    rotate_left 1
    ·intro w' hSw; (try dsimp only at hSw); go_simp <;> with_reducible rfl
    try simp only [Act.put, List.setIfInBounds_toArray, List.set_cons_zero, List.set_cons_succ]
    refine takeH 1 (v := ?_) rfl (by kernel_rfl) (fun _ _ _ h => h) (by rfl) ?_ hHeld ?_
    rotate_left 1
    ·intro w' hSw; (try dsimp only at hSw); go_simp <;> with_reducible rfl
    try simp only [Act.put, List.setIfInBounds_toArray, List.set_cons_zero, List.set_cons_succ]
    refine takeH 2 (v := ?_) rfl (by kernel_rfl) (fun _ _ _ h => h) (by rfl) ?_ hHeld ?_
    rotate_left 1
    ·intro w' hSw; (try dsimp only at hSw); go_simp <;> with_reducible rfl
    try simp only [Act.put, List.setIfInBounds_toArray, List.set_cons_zero, List.set_cons_succ]
    refine takeH 3 (v := ?_) rfl (by kernel_rfl) (fun _ _ _ h => h) (by rfl) ?_ hHeld ?_
    rotate_left 1
    ·intro w' hSw; (try dsimp only at hSw); go_simp <;> with_reducible rfl
    try simp only [Act.put, List.setIfInBounds_toArray, List.set_cons_zero, List.set_cons_succ]
    refine takeH 4 (v := ?_) rfl (by kernel_rfl) (fun _ _ _ h => h) (by rfl) ?_ hHeld ?_
    rotate_left 1
    ·intro w' hSw; (try dsimp only at hSw); go_simp <;> with_reducible rfl
    try simp only [Act.put, List.setIfInBounds_toArray, List.set_cons_zero, List.set_cons_succ]
    refine takeH 6 (v := ?_) rfl (by kernel_rfl) (fun _ _ _ h => h) (by rfl) ?_ hHeld ?_
    rotate_left 1
    ·intro w' hSw; (try dsimp only at hSw); go_simp <;> with_reducible rfl
    try simp only [Act.put, List.setIfInBounds_toArray, List.set_cons_zero, List.set_cons_succ]
    refine takeH 7 (v := ?_) rfl (by kernel_rfl) (fun _ _ _ h => h) (by rfl) ?_ hHeld ?_
    rotate_left 1
    ·intro w' hSw; (try dsimp only at hSw); go_simp <;> with_reducible rfl
    try simp only [Act.put, List.setIfInBounds_toArray, List.set_cons_zero, List.set_cons_succ]
    refine takeH 8 (v := ?_) rfl (by kernel_rfl) (fun _ _ _ h => h) (by rfl) ?_ hHeld ?_
    rotate_left 1
    ·intro w' hSw; (try dsimp only at hSw); go_simp <;> with_reducible rfl
    try simp only [Act.put, List.setIfInBounds_toArray, List.set_cons_zero, List.set_cons_succ]
    refine takeH 9 (v := ?_) rfl (by kernel_rfl) (fun _ _ _ h => h) (by rfl) ?_ hHeld ?_
    rotate_left 1
    ·intro w' hSw; (try dsimp only at hSw); go_simp <;> with_reducible rfl
    try simp only [Act.put, List.setIfInBounds_toArray, List.set_cons_zero, List.set_cons_succ]
    refine stepH 5 (by kernel_rfl) rfl (fun K hK => ?_)
    go_simp
    refine (index_str A0 n0 c0 x.nodes z.a W.drew HRN2.out hn63).mono ?_
    rw [nodeIx hsa]
    rintro e w' ⟨rfl, rfl⟩
    go_simp
    refine hK.out _ _ ?_ (fun hHeld => ?_)
    ·exact hHeld
    clear hK K
    try simp only [Act.put, List.setIfInBounds_toArray, List.set_cons_zero, List.set_cons_succ]
    refine stepH 10 (by kernel_rfl) rfl (fun K hK => ?_)
    go_simp
    refine (index_str A0 n0 c0 x.nodes z.b W.drew HRN2.out hn63).mono ?_
    rw [nodeIx hsb]
    rintro e w' ⟨rfl, rfl⟩
    go_simp
    refine hK.out _ _ ?_ (fun hHeld => ?_)
    ·exact hHeld
    clear hK K
    try simp only [Act.put, List.setIfInBounds_toArray, List.set_cons_zero, List.set_cons_succ]
    refine takeH 11 (v := ?_) rfl (by kernel_rfl) (fun _ _ _ h => h) (by rfl) ?_ hHeld ?_
    rotate_left 1
    ·intro w' hSw; (try dsimp only at hSw); go_simp <;> with_reducible rfl
    try simp only [Act.put, List.setIfInBounds_toArray, List.set_cons_zero, List.set_cons_succ]
    refine stepH 12 (by kernel_rfl) rfl (fun K hK => ?_)
    go_simp
    refine hK.out _ _ ?_ (fun hHeld => ?_)
    ·exact ⟨cellAl q0 (by omega), cellAl b1 (by omega), cellAl b2 (by omega)⟩
    clear hK K
    try simp only [Act.put, List.setIfInBounds_toArray, List.set_cons_zero, List.set_cons_succ]
    refine stepH 13 (by kernel_rfl) rfl (fun K hK => ?_)
    refine step_append_lies _ (by rfl) _ _ _ (by rfl) (w.heap.size + 1) 167 i0 _ 2 16 Tryz.underlying166 HI0.out HI1.out HI2.out HI3.out rfl (by omega) v6 _ _ (by rfl) ((HS2.out.o6.alloc _).drew) ⟨W.heap.size, 0, none⟩ 1 1 (edC (ndIdx x.nodes z.a, ndIdx x.nodes z.b)) (by rfl) (by rfl) (pr_news W (ndIdx x.nodes z.a, ndIdx x.nodes z.b) 167) (pr_one _) (by omega) (by have := HZL.out; simp only [maxLen]; omega) (by have := HZL.out; omega) (by simp; omega) (W.heap.size + 1) (by simp) ?_
    intro gg cap w1 hown1 hgrow hat hlt1
    refine hK.out _ _ ?_ (fun hHeld => ?_)
    ·exact ⟨(hgrow.cell_far ⟨w.heap.size, 0, none⟩ (by simp; omega) (Ne.symm hv1)).trans (cellAl q0 (by omega)), (hgrow.cell_far ⟨zb, 1, none⟩ (by simp; omega) (Ne.symm hv2)).trans (cellAl b1 (by omega)), (hgrow.cell_far ⟨zb, 2, none⟩ (by simp; omega) (Ne.symm hv2)).trans (cellAl b2 (by omega))⟩
    clear hK K
    try simp only [Act.put, List.setIfInBounds_toArray, List.set_cons_zero, List.set_cons_succ]
    refine wpAnyH_done (by kernel_rfl) ?_ _
    refine lastQ_go (by rfl) ?_
    have HS5 := Lib.hid (HS2.out.app6 (below_drew ((Below.refl _ _).alloc (Nat.le_refl _) _)) hown1 hgrow (by simpa using hat))
    clear hgrow hat hown1 hHeld
    have hJL : ws.length ≤ 1000 := by have := HWL.out; omega
    generalize hv6 : (Value.slice (some (⟨gg, 0, none⟩ : Addr)) (E0.length + 1) cap) = v6' at HS5 ⊢
    have HV6 := Lib.hid hv6
    clear hv6
    have hb5 : w.heap.size + 1 ≤ w1.heap.size := HS5.out.sz
    have HN5 : Hid (∀ (j : Nat) (u : Value), ([Value.int .i64 k] : List Value)[j]? = some u → ((w1.alloc (.cells #[.int .i64 k] 3))).cell? ((⟨w1.heap.size, 0, none⟩ : Addr).add j) = some u) := Lib.hid (World.news_of_block (B := w1.heap.size) (cs := #[.int .i64 k]) (t := 3) (fr := (0, 0)) (Blk.new w1 _ _))
    go_simp
    go_wp2_with (at_builtin; refine wpList_append_lies _ rfl (.tmp 36) (.tmp 38) 53 rfl (w.heap.size + 1) 3 j0 _ 1 8 Tryz.underlying53 HJ0.out HJ1.out HJ2.out HJ3.out rfl (by omega) u7 _ _ rfl (HS5.out.o7.alloc _) ⟨w1.heap.size, 0, none⟩ 1 1 [.int .i64 k] rfl rfl HN5.out (by intro u hu; rw [List.mem_singleton.1 hu]; rfl) (by omega) (by simp only [maxLen]; omega) (by omega) (by simp; omega) (w1.heap.size + 1) (by simp) ?_; intro g2 cap2 w2 hown2 hgrow2 hat2 hlt2)
    have HS6 := Lib.hid (HS5.out.app7 ((Below.refl _ _).alloc (Nat.le_refl _) _) hown2 hgrow2 (by simpa using hat2))
    clear hown2 hgrow2 hat2
    go_roundw
    case rel => exact ⟨k + 1, ws ++ [.int .i64 k], by omega, by go_num, by rw [List.length_append, List.length_singleton]; have := HWL.out; omega, by rw [HZ.out, HE1.out]; exact HS6.out⟩
    case measure => simp [intOf]; omega
   ·have HE1 : Hid (swE1 x.nodes op z = []) := Lib.hid (by unfold swE1; rw [if_neg hop])
    have hop' : (z.opn == op) = false := by simpa using hop
    generalize z.opn = zo at *
    clear hop
    go_wp2_with fail
    go_roundw
    case rel => exact ⟨k + 1, ws, by omega, by go_num, by have := HWL.out; omega, by rw [HZ.out, HE1.out, List.append_nil]; exact HS2.out⟩
    case measure => simp [intOf]; omega
  ·have hkk : n1 = k := by omega
   subst hkk
   have HFIN : Hid (x.sws.take n1 = x.sws) := Lib.hid (List.take_of_length_le (by have := HN1.out; omega))
   go_wp2_with fail
   go_ret2
   have h := HS.out
   rw [HFIN.out] at h
   exact HP.out _ _ ⟨h.low, _, _, rfl, h.o6⟩
end
section
def addR : List (List Rat) → List (List Rat) → Nat → List (List Rat) × List Nat
 | rows, [], _ => (rows, [])
 | rows, a :: r, i => if rankR rows < rankR (rows ++ [a]) then ((addR (rows ++ [a]) r (i + 1)).1, i :: (addR (rows ++ [a]) r (i + 1)).2) else addR rows r (i + 1)
end
section
def cnt (p : Nat → Bool) (b : Nat) : Nat := ((List.range b).filter p).length
theorem cnt_succ (p : Nat → Bool) (b : Nat) : cnt p (b + 1) = cnt p b + if p b then 1 else 0 := by
 unfold cnt
 rw [List.range_succ, List.filter_append, List.length_append]
 congr 1
 cases h : p b <;> simp [h]
def pick (p : Nat → Bool) (n : Nat) : List Nat := (List.range n).filter p
theorem pick_len (p : Nat → Bool) (n : Nat) : (pick p n).length = cnt p n := rfl
def ext (p : Nat → Bool) (x : Fn) (b : Nat) : Rat := if p b then x (cnt p b) else 0
theorem vf_app_lt {l m : List Rat} {i : Nat} (h : i < l.length) : vf (l ++ m) i = vf l i := by
 unfold vf
 rw [List.getD_eq_getElem?_getD, List.getD_eq_getElem?_getD, List.getElem?_append_left h]
theorem vf_app_at (l : List Rat) (y : Rat) : vf (l ++ [y]) l.length = y := vf_at (by simp)
theorem pick_dot (p : Nat → Bool) (c : Nat → Rat) (x : Fn) : ∀ n : Nat, dotn (cnt p n) (vf ((pick p n).map c)) x = sumTo n fun b => c b * ext p x b
 | 0 => rfl
 | n + 1 => by
  have ih := pick_dot p c x n
  rw [sumTo, ← ih]
  have hl : ((pick p n).map c).length = cnt p n := by rw [List.length_map, pick_len]
  cases hp : p n with
  | false =>
   have e1 : cnt p (n + 1) = cnt p n := by rw [cnt_succ, hp]; rfl
   have e2 : pick p (n + 1) = pick p n := by unfold pick; rw [List.range_succ, List.filter_append]; simp [hp]
   rw [e1, e2]
   unfold ext
   rw [hp]
   simp only [Bool.false_eq_true, if_false]
   rw [Rat.mul_zero, Rat.add_zero]
  | true =>
   have e1 : cnt p (n + 1) = cnt p n + 1 := by rw [cnt_succ, hp]; rfl
   have e2 : pick p (n + 1) = pick p n ++ [n] := by unfold pick; rw [List.range_succ, List.filter_append]; simp [hp]
   rw [e1, e2, List.map_append, List.map_singleton]
   unfold dotn
   rw [sumTo]
   have e3 : vf ((pick p n).map c ++ [c n]) (cnt p n) = c n := by rw [← hl]; exact vf_app_at _ _
   rw [e3]
   congr 1
   ·refine sumTo_congr fun i hi => ?_
    rw [vf_app_lt (by rw [hl]; exact hi)]
   ·unfold ext
    rw [hp]
    simp
def two (a b : Nat) (k : Nat) : Rat := (if k = a then 1 else 0) - (if k = b then 1 else 0)
def arR (S : Nat → Nat → Bool) : Nat → List Nat × Nat
 | 0 => ([], 0)
 | b + 1 => match (List.range b).find? (fun a => S a b) with
  | some a => ((arR S b).1 ++ [(arR S b).1.getD a 0], (arR S b).2)
  | none => ((arR S b).1 ++ [(arR S b).2], (arR S b).2 + 1)
theorem arR_succ (S : Nat → Nat → Bool) (b : Nat) : arR S (b + 1) = match (List.range b).find? (fun a => S a b) with
    | some a => ((arR S b).1 ++ [(arR S b).1.getD a 0], (arR S b).2)
    | none => ((arR S b).1 ++ [(arR S b).2], (arR S b).2 + 1) := rfl
def newS (S : Nat → Nat → Bool) (b : Nat) : Bool := !(List.range b).any fun a => S a b
theorem arR_len (S : Nat → Nat → Bool) : ∀ n : Nat, (arR S n).1.length = n
 | 0 => rfl
 | n + 1 => by
  have := arR_len S n
  rw [arR_succ]
  split <;> simp [this]
def sameIs (l : List Nat) (a b : Nat) : Bool := l.getD a 0 == l.getD b 0
def freeB (l : List Nat) (b : Nat) : Bool := !newS (sameIs l) b
end
end Go.Proofs.YtakllkkmofdpaaaGreatDoor
