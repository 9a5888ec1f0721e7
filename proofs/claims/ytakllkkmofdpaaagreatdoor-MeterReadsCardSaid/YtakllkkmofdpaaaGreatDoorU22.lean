import Derived.Test.YtakllkkmofdpaaaGreatDoorU19
set_option linter.unusedVariables false
set_option linter.unusedSimpArgs false
namespace Go.Proofs.YtakllkkmofdpaaaGreatDoor
section
open Go.ChangeShapes Go.WideShapes Go.ChangeAt Go.RowKit
attribute [local go_sem ↓] execOp_call_val
attribute [local go_sem] callVal_func setCell_drewN alloc_drewN sEq_walk NetH.cells
theorem rdE_own {w : World} {B : Nat} {v : Value} {es : List (Nat × Nat)} (h : w.ownsRow B 167 2 v es.length (es.flatMap edC)) : ∃ A c, v = .slice A es.length c ∧ RdE w w.heap.size A es.length es := by
 rcases h.2 with ⟨h1, h2⟩ | ⟨g, cap, cur, h1, h2, h3, h4, h5, h6, h7⟩
 ·refine ⟨none, 0, by rw [h2]; exact h1, rfl, h.1, fun h0 => by omega⟩
 ·refine ⟨_, _, h1, rfl, h.1, fun h0 => ⟨g, 0, rfl, ?_, fun j u hu => ?_⟩⟩
  ·rcases Nat.lt_or_ge g w.heap.size with hlt | hge
   ·exact hlt
   ·rw [Array.getElem?_eq_none hge] at h3; cases h3
  ·rw [Nat.zero_add, cell_of_row w g j cur 167 (0, 0) h3]
   rw [← h7] at hu
   have hjl := (List.getElem?_eq_some_iff.1 hu).1
   rw [List.getElem?_take_of_lt (by rw [List.length_take] at hjl; omega)] at hu
   simpa using hu
def busR (x : Net) : List Int := partsR x.nodes.length (swE x false)
theorem swE_ok {x : Net} (ok : NetOk x) (op : Bool) : (∀ p ∈ swE x op, p.1 < x.nodes.length ∧ p.2 < x.nodes.length) ∧ (swE x op).length ≤ 32 := by
 refine ⟨fun p hp => ?_, ?_⟩
 ·obtain ⟨s, hs, h1⟩ := List.mem_flatMap.1 hp
  unfold swE1 at h1
  split at h1
  ·rw [List.mem_singleton.1 h1]
   exact ⟨(ndIdx_ok (ok.sw s hs).1).2, (ndIdx_ok (ok.sw s hs).2.1).2⟩
  ·cases h1
 ·have h := lenFM (swE1 x.nodes op) 1 (swE1_len x.nodes op) x.sws
  have := ok.l1
  unfold swE; omega
theorem busR_ok {x : Net} (ok : NetOk x) : (busR x).length = x.nodes.length ∧ ∀ b ∈ busR x, 0 ≤ b ∧ b < x.nodes.length := parts_ok (swE_ok ok false).1
def BusP (x : Net) (n0 : Nat) (w : World) (e : Ending) (w' : World) : Prop :=
 Below w.heap.size w w' ∧ ∃ g : Nat, e = .returned (.slice (some ⟨g, 0, none⟩) n0 n0) ∧ w.heap.size ≤ g ∧ Blk w' g 3 (ints (busR x)).toArray
theorem busP_of (x : Net) (n0 : Nat) (w : World) (e : Ending) (w' : World) (h : Below w.heap.size w w' ∧ ∃ g : Nat, e = .returned (.slice (some ⟨g, 0, none⟩) n0 n0) ∧ w.heap.size ≤ g ∧ Blk w' g 3 (ints (busR x)).toArray) : BusP x n0 w e w' := h
set_option maxHeartbeats 1000000 in
theorem buses_any (h : NetH) (x : Net) (ok : NetOk x) (w : World) (hR : RdNet w w.heap.size h x) :
    Calls Tryz.prog 108 #[.agg h.cells] w (BusP x h.n0 w) := by
 obtain ⟨A0, n0, c0, A1, n1, c1, A2, n2, c2, A3, n3, c3, A4, n4, c4, A5, n5, c5⟩ := h
 dsimp only [NetH.cells] at *
 have HOK := Lib.hid ok
 have HP := Lib.hid (busP_of x n0 w)
 have HB0 : Hid (Below w.heap.size w (w.alloc (.cells #[.slice A0 n0 c0, .slice A1 n1 c1, .slice A2 n2 c2, .slice A3 n3 c3, .slice A4 n4 c4, .slice A5 n5 c5] 33))) := Lib.hid ((Below.refl _ _).alloc (Nat.le_refl _) _)
 have HQ0 : Hid (Blk (w.alloc (.cells #[.slice A0 n0 c0, .slice A1 n1 c1, .slice A2 n2 c2, .slice A3 n3 c3, .slice A4 n4 c4, .slice A5 n5 c5] 33)) w.heap.size 33 #[.slice A0 n0 c0, .slice A1 n1 c1, .slice A2 n2 c2, .slice A3 n3 c3, .slice A4 n4 c4, .slice A5 n5 c5]) := Lib.hid (Blk.new w _ _)
 have HR := Lib.hid (hR.up HB0.out)
 have HN0 : Hid (x.nodes.length = n0) := Lib.hid hR.r0.1
 have hn0 : n0 ≤ 24 := by have := ok.l0; have := HN0.out; omega
 clear ok hR
 obtain ⟨y0, y1, y2, y3, y4, y5, nf, nlt⟩ := net_box (h := ⟨A0, n0, c0, A1, n1, c1, A2, n2, c2, A3, n3, c3, A4, n4, c4, A5, n5, c5⟩) HQ0.out
 go_enter Tryz.func108, Tryz.ntmps108
 go_wp2_with fail
 generalize w.alloc (.cells #[.slice A0 n0 c0, .slice A1 n1 c1, .slice A2 n2 c2, .slice A3 n3 c3, .slice A4 n4 c4, .slice A5 n5 c5] 33) = w1 at *
 clear y0 y1 y2 y3 y4 y5 nf nlt
 refine (edges_any ⟨A0, n0, c0, A1, n1, c1, A2, n2, c2, A3, n3, c3, A4, n4, c4, A5, n5, c5⟩ x HOK.out false w1 HR.out).mono ?_
 rintro e w2 ⟨hb, v6, v7, rfl, ho⟩
 have HB2 := Lib.hid (HB0.out.trans (hb.mono HB0.out.size))
 have HQ2 := Lib.hid (HQ0.out.below hb HQ0.out.lt)
 obtain ⟨A, c, rfl, hE⟩ := rdE_own ho
 have HE := Lib.hid hE
 clear hb ho hE
 obtain ⟨y0, y1, y2, y3, y4, y5, nf, nlt⟩ := net_box (h := ⟨A0, n0, c0, A1, n1, c1, A2, n2, c2, A3, n3, c3, A4, n4, c4, A5, n5, c5⟩) HQ2.out
 have HSL := Lib.hid (swE_ok HOK.out false).2
 have HSO : Hid (∀ p ∈ swE x false, p.1 < n0 ∧ p.2 < n0) := Lib.hid (by have h := (swE_ok HOK.out false).1; rw [HN0.out] at h; exact h)
 have HBE : Hid (partsR n0 (swE x false) = busR x) := Lib.hid (by unfold busR; rw [HN0.out])
 generalize swE x false = es at *
 go_wp2_with fail
 clear y0 y1 y2 y3 y4 y5 nf nlt
 refine (comp_any A c n0 es w2 HE.out HSO.out hn0 (by have := HSL.out; omega)).mono ?_
 rintro e w3 ⟨hb, g, rfl, hg, hblk⟩
 have HB3 := Lib.hid (HB2.out.trans (hb.mono HB2.out.size))
 have HG := Lib.hid (Nat.le_trans HB2.out.size hg)
 have HBL := Lib.hid hblk
 clear hb hg hblk
 go_wp2_with fail
 go_ret
 exact HP.out _ _ ⟨HB3.out, g, rfl, HG.out, by rw [← HBE.out]; exact HBL.out⟩
def busAt (x : Net) (s : ByteArray) : Nat := ((busR x).getD (ndIdx x.nodes s) 0).toNat
def busN (x : Net) : Nat := (topR (busR x)).toNat
def brE (x : Net) : List (Nat × Nat) := x.brs.map fun b => (busAt x b.fr, busAt x b.to)
def islR (x : Net) : List Int := partsR (busN x) (brE x)
theorem busN_ok {x : Net} (ok : NetOk x) : (busN x : Int) = topR (busR x) ∧ busN x ≤ x.nodes.length := by
 obtain ⟨h1, h2, h3⟩ := topR_ok (busR x)
 have h4 := h3 x.nodes.length (by omega) fun b hb => ((busR_ok ok).2 b hb).2
 unfold busN; omega
theorem busAt_ok {x : Net} (ok : NetOk x) {s : ByteArray} (hs : s ∈ x.nodes) : (busR x).getD (ndIdx x.nodes s) 0 = (busAt x s : Int) ∧ busAt x s < busN x ∧ ndIdx x.nodes s < (busR x).length := by
 have hi := (ndIdx_ok hs).2
 rw [← (busR_ok ok).1] at hi
 have hm : (busR x).getD (ndIdx x.nodes s) 0 ∈ busR x := by rw [List.getD_eq_getElem?_getD, List.getElem?_eq_getElem hi]; exact List.getElem_mem hi
 have h1 := (busR_ok ok).2 _ hm
 have h2 := (topR_ok (busR x)).2.1 _ hm
 have h3 := (busN_ok ok).1
 refine ⟨?_, ?_, hi⟩ <;> unfold busAt <;> omega
theorem brE_ok {x : Net} (ok : NetOk x) : (∀ p ∈ brE x, p.1 < busN x ∧ p.2 < busN x) ∧ (brE x).length ≤ 24 := by
 refine ⟨fun p hp => ?_, by unfold brE; rw [List.length_map]; exact ok.l2⟩
 obtain ⟨b, hb, rfl⟩ := List.mem_map.1 hp
 exact ⟨(busAt_ok ok (ok.br b hb).1).2.1, (busAt_ok ok (ok.br b hb).2.1).2.1⟩
theorem take_map' {α β : Type} (f : α → β) {l : List α} {k : Nat} {x : α} (h : l[k]? = some x) : (l.take (k + 1)).map f = (l.take k).map f ++ [f x] := by
 rw [List.take_add_one, h, List.map_append]; rfl
theorem take_fold' {l : List Int} {k : Nat} {x : Int} (h : l[k]? = some x) : topR (l.take (k + 1)) = max (topR (l.take k)) (x + 1) := by
 unfold topR
 rw [List.take_add_one, h, List.foldl_append]; rfl
theorem intsGet {l : List Int} {g i : Nat} {w : World} (h : Blk w g 3 (ints l).toArray) {x : Int} (hx : l[i]? = some x) : w.cell? ⟨g, i, none⟩ = some (.int .i64 x) := by
 rw [h.cell, List.getElem?_toArray]
 unfold ints
 rw [List.getElem?_map, hx]; rfl
def TopP (x : Net) (n0 : Nat) (w : World) (e : Ending) (w' : World) : Prop :=
 Below w.heap.size w w' ∧ ∃ g1 g2 : Nat, e = .returned (.agg #[.slice (some ⟨g1, 0, none⟩) n0 n0, .slice (some ⟨g2, 0, none⟩) (busN x) (busN x)]) ∧ w.heap.size ≤ g1 ∧ w.heap.size ≤ g2 ∧ Blk w' g1 3 (ints (busR x)).toArray ∧ Blk w' g2 3 (ints (islR x)).toArray
theorem topP_of (x : Net) (n0 : Nat) (w : World) (e : Ending) (w' : World) (h : Below w.heap.size w w' ∧ ∃ g1 g2 : Nat, e = .returned (.agg #[.slice (some ⟨g1, 0, none⟩) n0 n0, .slice (some ⟨g2, 0, none⟩) (busN x) (busN x)]) ∧ w.heap.size ≤ g1 ∧ w.heap.size ≤ g2 ∧ Blk w' g1 3 (ints (busR x)).toArray ∧ Blk w' g2 3 (ints (islR x)).toArray) : TopP x n0 w e w' := h
set_option maxRecDepth 100000 in
set_option maxHeartbeats 8000000 in
theorem get_any (h : NetH) (x : Net) (ok : NetOk x) (w : World) (hR : RdNet w w.heap.size h x) :
    Calls Tryz.prog 78 #[.agg h.cells] w (TopP x h.n0 w) := by
 obtain ⟨A0, n0, c0, A1, n1, c1, A2, n2, c2, A3, n3, c3, A4, n4, c4, A5, n5, c5⟩ := h
 dsimp only [NetH.cells] at *
 have HOK := Lib.hid ok
 have HP := Lib.hid (topP_of x n0 w)
 obtain ⟨i0, hi0, hi1, hi2, hi3⟩ := info_parts infoP2
 have HI0 := Lib.hid hi0
 have HI1 := Lib.hid hi1
 have HI2 := Lib.hid hi2
 have HI3 := Lib.hid hi3
 have HB0 : Hid (Below w.heap.size w ((w.alloc (.cells #[.slice A0 n0 c0, .slice A1 n1 c1, .slice A2 n2 c2, .slice A3 n3 c3, .slice A4 n4 c4, .slice A5 n5 c5] 33)).alloc (.cells #[.slice none 0 0, .slice none 0 0] 65))) := Lib.hid (((Below.refl _ _).alloc (Nat.le_refl _) _).alloc (by simp) _)
 have HQ0 : Hid (Blk ((w.alloc (.cells #[.slice A0 n0 c0, .slice A1 n1 c1, .slice A2 n2 c2, .slice A3 n3 c3, .slice A4 n4 c4, .slice A5 n5 c5] 33)).alloc (.cells #[.slice none 0 0, .slice none 0 0] 65)) w.heap.size 33 #[.slice A0 n0 c0, .slice A1 n1 c1, .slice A2 n2 c2, .slice A3 n3 c3, .slice A4 n4 c4, .slice A5 n5 c5]) := Lib.hid ((Blk.new w _ _).alloc _)
 have HT0 : Hid (Blk ((w.alloc (.cells #[.slice A0 n0 c0, .slice A1 n1 c1, .slice A2 n2 c2, .slice A3 n3 c3, .slice A4 n4 c4, .slice A5 n5 c5] 33)).alloc (.cells #[.slice none 0 0, .slice none 0 0] 65)) (w.heap.size + 1) 65 #[.slice none 0 0, .slice none 0 0]) := Lib.hid (Blk.new_ (by simp))
 have HR := Lib.hid (hR.up HB0.out)
 have HN0 : Hid (x.nodes.length = n0) := Lib.hid hR.r0.1
 have HN2 : Hid (x.brs.length = n2) := Lib.hid hR.r2.1
 have hn0 : n0 ≤ 24 := by have := ok.l0; have := HN0.out; omega
 have hn2 : n2 ≤ 24 := by have := ok.l2; have := HN2.out; omega
 have hn63 : n0 ≤ 9223372036854775807 := by omega
 have HS0 : Hid (w.heap.size + 2 ≤ ((w.alloc (.cells #[.slice A0 n0 c0, .slice A1 n1 c1, .slice A2 n2 c2, .slice A3 n3 c3, .slice A4 n4 c4, .slice A5 n5 c5] 33)).alloc (.cells #[.slice none 0 0, .slice none 0 0] 65)).heap.size) := Lib.hid (by simp)
 clear hi0 hi1 hi2 hi3 ok hR
 obtain ⟨y0, y1, y2, y3, y4, y5, nf, nlt⟩ := net_box (h := ⟨A0, n0, c0, A1, n1, c1, A2, n2, c2, A3, n3, c3, A4, n4, c4, A5, n5, c5⟩) HQ0.out
 go_enter Tryz.func78, Tryz.ntmps78
 go_wp2_with fail
 generalize (w.alloc (.cells #[.slice A0 n0 c0, .slice A1 n1 c1, .slice A2 n2 c2, .slice A3 n3 c3, .slice A4 n4 c4, .slice A5 n5 c5] 33)).alloc (.cells #[.slice none 0 0, .slice none 0 0] 65) = w1 at *
 clear y0 y1 y2 y3 y4 y5 nf nlt
 refine (buses_any ⟨A0, n0, c0, A1, n1, c1, A2, n2, c2, A3, n3, c3, A4, n4, c4, A5, n5, c5⟩ x HOK.out w1 HR.out).mono ?_
 rintro e w2 ⟨hb, gb, rfl, hg, hblk⟩
 dsimp only
 have hgs : w.heap.size + 2 ≤ gb := Nat.le_trans HS0.out hg
 have HB2 := Lib.hid ((HB0.out.trans (hb.mono HB0.out.size)).alloc (by have := hb.size; have := HS0.out; omega) (.cells #[.slice (some ⟨gb, 0, none⟩) n0 n0, .slice none 0 0] 65))
 have HQ2 := Lib.hid ((HQ0.out.below hb HQ0.out.lt).alloc (.cells #[.slice (some ⟨gb, 0, none⟩) n0 n0, .slice none 0 0] 65))
 have HT2 := Lib.hid ((HT0.out.below hb HT0.out.lt).alloc (.cells #[.slice (some ⟨gb, 0, none⟩) n0 n0, .slice none 0 0] 65))
 have HG2 := Lib.hid (hblk.alloc (.cells #[.slice (some ⟨gb, 0, none⟩) n0 n0, .slice none 0 0] 65))
 have HX2 : Hid (Blk (w2.alloc (.cells #[.slice (some ⟨gb, 0, none⟩) n0 n0, .slice none 0 0] 65)) w2.heap.size 65 #[.slice (some ⟨gb, 0, none⟩) n0 n0, .slice none 0 0]) := Lib.hid (Blk.new w2 _ _)
 have hgb : gb < w2.heap.size := hblk.lt
 have HR4 : Hid (RdNet (w2.alloc (.cells #[.slice (some ⟨gb, 0, none⟩) n0 n0, .slice none 0 0] 65)) (w2.heap.size + 1) ⟨A0, n0, c0, A1, n1, c1, A2, n2, c2, A3, n3, c3, A4, n4, c4, A5, n5, c5⟩ x) := Lib.hid (((HR.out.up hb).below ((Below.refl _ _).alloc (Nat.le_refl _) _) (Nat.le_refl _)).more (by omega))
 have hwt : w.heap.size + 2 ≤ w2.heap.size := by omega
 have t0' := HX2.out.cell 0
 clear hb hg hblk HT0 HQ0 HB0 HS0
 go_wp2_with fail
 have HTB : Hid (w2.heap.size < (w2.alloc (.cells #[.slice (some ⟨gb, 0, none⟩) n0 n0, .slice none 0 0] 65)).heap.size) := Lib.hid (by simp)
 generalize w2.alloc (.cells #[.slice (some ⟨gb, 0, none⟩) n0 n0, .slice none 0 0] 65) = w3 at *
 generalize w2.heap.size = tb at *
 have hbl := Lib.hid (busR_ok HOK.out).1
 have HBLE : Hid ((busR x).length = n0) := Lib.hid (hbl.out.trans HN0.out)
 go_loop [4, 16] (fun v4 v16 => ∃ k : Nat, k ≤ n0 ∧ v16 = .int .i64 k ∧ v4 = .int .i64 (topR ((busR x).take k))) (fun _ v16 => n0 - (intOf v16).toNat)
 case atStart => exact ⟨0, by omega, rfl, rfl⟩
 case round =>
  obtain ⟨k, hk, rfl, rfl⟩ := hrel
  by_cases hlt : k < n0
  ·obtain ⟨b, hb⟩ : ∃ b, (busR x)[k]? = some b := ⟨_, List.getElem?_eq_getElem (by have := HBLE.out; omega)⟩
   have hc := intsGet HG2.out hb
   have HTK := Lib.hid (take_fold' hb)
   have hbd := (busR_ok HOK.out).2 b (List.mem_of_getElem? hb)
   have hb1 := hbd.1
   have hb2 : b ≤ 24 := by have := hbd.2; have := HN0.out; omega
   have ht0 := (topR_ok ((busR x).take k)).1
   clear hb hbd
   generalize topR ((busR x).take k) = tk at *
   have hkI : (k : Int) < (n0 : Int) := by omega
   go_wp2_with fail
   go_round
   case rel => exact ⟨k + 1, by omega, by go_num, by rw [HTK.out]; first | done | (congr 1; split <;> omega)⟩
   case measure => simp [intOf]; omega
  ·have hkk : n0 = k := by omega
   subst hkk
   have HTOP : Hid (topR ((busR x).take n0) = (busN x : Int)) := Lib.hid (by rw [List.take_of_length_le (by have := HBLE.out; omega)]; exact (busN_ok HOK.out).1.symm)
   have hbn : busN x ≤ 24 := by have := (busN_ok HOK.out).2; have := HN0.out; omega
   rw [HTOP.out]
   obtain ⟨y0, y1, y2, y3, y4, y5, nf, nlt⟩ := net_box (h := ⟨A0, n0, c0, A1, n1, c1, A2, n2, c2, A3, n3, c3, A4, n4, c4, A5, n5, c5⟩) HQ2.out
   obtain ⟨w4, hw4⟩ : ∃ w4 : World, w4 = w3 := ⟨_, rfl⟩
   have HQ2 : Hid (Blk w4 w.heap.size 33 #[.slice A0 n0 c0, .slice A1 n1 c1, .slice A2 n2 c2, .slice A3 n3 c3, .slice A4 n4 c4, .slice A5 n5 c5]) := Lib.hid (by rw [hw4]; exact HQ2.out)
   have HB2 : Hid (Below w.heap.size w w4) := Lib.hid (by rw [hw4]; exact HB2.out)
   have HT2 : Hid (Blk w4 (w.heap.size + 1) 65 #[.slice none 0 0, .slice none 0 0]) := Lib.hid (by rw [hw4]; exact HT2.out)
   have HG2 : Hid (Blk w4 gb 3 (ints (busR x)).toArray) := Lib.hid (by rw [hw4]; exact HG2.out)
   have HX2 : Hid (Blk w4 tb 65 #[.slice (some ⟨gb, 0, none⟩) n0 n0, .slice none 0 0]) := Lib.hid (by rw [hw4]; exact HX2.out)
   have HRF : Hid (RdNet w4 (tb + 1) ⟨A0, n0, c0, A1, n1, c1, A2, n2, c2, A3, n3, c3, A4, n4, c4, A5, n5, c5⟩ x) := Lib.hid (by rw [hw4]; exact HR4.out)
   have HLO : Hid (Below (tb + 1) w4 w3) := Lib.hid (by rw [hw4]; exact Below.refl _ _)
   have HSZ : Hid (tb + 1 ≤ w3.heap.size) := Lib.hid (by have := HTB.out; omega)
   clear hw4 hlt t0'
   go_wp2_with fail
   clear y0 y1 y2 y3 y4 y5 nf nlt
   go_loopw [7, 28] (fun v7 i wr => ∃ k : Nat, k ≤ n2 ∧ i = .int .i64 k ∧ Below (tb + 1) w4 wr ∧ tb + 1 ≤ wr.heap.size ∧ wr.ownsRow (tb + 1) 167 2 v7 k (((x.brs.take k).map fun b => (busAt x b.fr, busAt x b.to)).flatMap edC)) (fun _ i _ => n2 - (intOf i).toNat)
   case atStart => exact ⟨0, by omega, rfl, HLO.out, HSZ.out, World.ownsRow_nil _ _ _ _⟩
   case round =>
    clear HLO HSZ
    obtain ⟨k, hk, rfl, hlo, hsz, hown⟩ := hrel
    have HLO := Lib.hid hlo
    have HOW := Lib.hid hown
    have HQ := Lib.hid (HQ2.out.below hlo (by omega))
    obtain ⟨y0, y1, y2, y3, y4, y5, nf, nlt⟩ := net_box (h := ⟨A0, n0, c0, A1, n1, c1, A2, n2, c2, A3, n3, c3, A4, n4, c4, A5, n5, c5⟩) HQ.out
    clear hlo hown
    by_cases hlt : k < n2
    ·obtain ⟨z, hz⟩ : ∃ z, x.brs[k]? = some z := ⟨_, List.getElem?_eq_getElem (by have := HN2.out; omega)⟩
     have hrw := HRF.out.below HLO.out (Nat.le_refl _)
     obtain ⟨bz, oz, hA, hbz⟩ := hrw.r2.form (by dsimp only; omega)
     dsimp only at hA
     subst hA
     obtain ⟨e0, e1, e2, e3, e4, e5, e6, e7, e8⟩ := hrw.r2.at_ hz
     have HRN := Lib.hid hrw.r0
     have HZS := Lib.hid (HOK.out.br z (List.mem_of_getElem? hz))
     have HZ := Lib.hid (take_map' (fun b : Br => (busAt x b.fr, busAt x b.to)) hz)
     have HZL : Hid (k ≤ 1000) := Lib.hid (by omega)
     have HEL : Hid (((x.brs.take k).map fun b : Br => (busAt x b.fr, busAt x b.to)).length = k) := Lib.hid (by simp; have := HN2.out; omega)
     have HWB := Lib.hid ((Below.refl wr.heap.size wr).alloc (Nat.le_refl _) (.cells #[.string z.name, .string z.fr, .string z.to, .int .i64 z.x, .int .i64 z.tap, .int .i64 z.shift, .int .i64 z.limit, .int .i64 z.short, .int .i64 z.hold] 70))
     have HO := Lib.hid (own_up HOW.out HWB.out)
     have HQB := Lib.hid (HQ.out.below HWB.out (by omega))
     have HXB := Lib.hid ((HX2.out.below HLO.out (by omega)).below HWB.out (by omega))
     have HGB := Lib.hid ((HG2.out.below HLO.out (by omega)).below HWB.out (by omega))
     have HLB := Lib.hid (HLO.out.alloc hsz (.cells #[.string z.name, .string z.fr, .string z.to, .int .i64 z.x, .int .i64 z.tap, .int .i64 z.shift, .int .i64 z.limit, .int .i64 z.short, .int .i64 z.hold] 70))
     have HBX : Hid (Blk (wr.alloc (.cells #[.string z.name, .string z.fr, .string z.to, .int .i64 z.x, .int .i64 z.tap, .int .i64 z.shift, .int .i64 z.limit, .int .i64 z.short, .int .i64 z.hold] 70)) wr.heap.size 70 #[.string z.name, .string z.fr, .string z.to, .int .i64 z.x, .int .i64 z.tap, .int .i64 z.shift, .int .i64 z.limit, .int .i64 z.short, .int .i64 z.hold]) := Lib.hid (Blk.new wr _ _)
     have HRN2 : Hid (RdStr (wr.alloc (.cells #[.string z.name, .string z.fr, .string z.to, .int .i64 z.x, .int .i64 z.tap, .int .i64 z.shift, .int .i64 z.limit, .int .i64 z.short, .int .i64 z.hold] 70)) (wr.alloc (.cells #[.string z.name, .string z.fr, .string z.to, .int .i64 z.x, .int .i64 z.tap, .int .i64 z.shift, .int .i64 z.limit, .int .i64 z.short, .int .i64 z.hold] 70)).heap.size A0 n0 x.nodes) := Lib.hid ((HRN.out.below HWB.out (by omega)).more (by simp; omega))
     have hkI : (k : Int) < (n2 : Int) := by omega
     clear hz hrw
     go_wp2_with fail
     have hzw : wr.heap.size < (wr.alloc (.cells #[.string z.name, .string z.fr, .string z.to, .int .i64 z.x, .int .i64 z.tap, .int .i64 z.shift, .int .i64 z.limit, .int .i64 z.short, .int .i64 z.hold] 70)).heap.size := by simp
     have hv1 : u7.ownBlock ≠ some w.heap.size := fun e => by have := (HOW.out.lt _ e).1; omega
     have hv2 : u7.ownBlock ≠ some wr.heap.size := fun e => by have := (HOW.out.lt _ e).2; omega
     have hv3 : u7.ownBlock ≠ some tb := fun e => by have := (HOW.out.lt _ e).1; omega
     have hv4 : u7.ownBlock ≠ some gb := fun e => by have := (HOW.out.lt _ e).1; omega
     clear HWB HRN HOW HQ y0 y1 y2 y3 y4 y5 nf nlt e0 e1 e2 e3 e4 e5 e6 e7 e8
     generalize hWW : wr.alloc (.cells #[.string z.name, .string z.fr, .string z.to, .int .i64 z.x, .int .i64 z.tap, .int .i64 z.shift, .int .i64 z.limit, .int .i64 z.short, .int .i64 z.hold] 70) = W at *
     generalize hzb : wr.heap.size = zb at *
     have q0 : W.cell? ⟨w.heap.size, 0, none⟩ = some (.slice A0 n0 c0) := HQB.out.cell 0
     have t0 : W.cell? ⟨tb, 0, none⟩ = some (.slice (some ⟨gb, 0, none⟩) n0 n0) := HXB.out.cell 0
     have b1 : W.cell? ⟨zb, 1, none⟩ = some (.string z.fr) := HBX.out.cell 1
     have b2 : W.cell? ⟨zb, 2, none⟩ = some (.string z.to) := HBX.out.cell 2
     have hsa : z.fr ∈ x.nodes := HZS.out.1
     have hsb : z.to ∈ x.nodes := HZS.out.2.1
     have cf : W.cell? ⟨gb, ndIdx x.nodes z.fr, none⟩ = some (.int .i64 (busAt x z.fr)) := by rw [← (busAt_ok HOK.out hsa).1]; exact set_get HGB.out (busAt_ok HOK.out hsa).2.2
     have ct : W.cell? ⟨gb, ndIdx x.nodes z.to, none⟩ = some (.int .i64 (busAt x z.to)) := by rw [← (busAt_ok HOK.out hsb).1]; exact set_get HGB.out (busAt_ok HOK.out hsb).2.2
     have hif : ndIdx x.nodes z.fr < n0 := by have := (busAt_ok HOK.out hsa).2.2; have := HBLE.out; omega
     have hit : ndIdx x.nodes z.to < n0 := by have := (busAt_ok HOK.out hsb).2.2; have := HBLE.out; omega
     have hifI : (ndIdx x.nodes z.fr : Int) < (n0 : Int) := by omega
     have hitI : (ndIdx x.nodes z.to : Int) < (n0 : Int) := by omega
     generalize hE0 : ((x.brs.take k).map fun b : Br => (busAt x b.fr, busAt x b.to)) = E0 at *
     have HEE := Lib.hid hE0
     have hbase : tb + 1 ≤ W.heap.size := by omega
     clear hE0 hWW hzb
     generalize u7 = v7 at *
     refine wp_region_last (S := fun w' => w'.cell? ⟨w.heap.size, 0, none⟩ = some (.slice A0 n0 c0) ∧ w'.cell? ⟨tb, 0, none⟩ = some (.slice (some ⟨gb, 0, none⟩) n0 n0) ∧ w'.cell? ⟨zb, 1, none⟩ = some (.string z.fr) ∧ w'.cell? ⟨zb, 2, none⟩ = some (.string z.to) ∧ w'.cell? ⟨gb, ndIdx x.nodes z.fr, none⟩ = some (.int .i64 (busAt x z.fr)) ∧ w'.cell? ⟨gb, ndIdx x.nodes z.to, none⟩ = some (.int .i64 (busAt x z.to))) 22 _ (by kernel_rfl) (by kernel_rfl) rfl ⟨q0, t0, b1, b2, cf, ct⟩ (fun hHeld => ?_)
     simp only [List.take_succ_cons, List.take_zero]
     refine takeH 0 (v := ?_) rfl (by kernel_rfl) (fun _ _ _ h => h) (by rfl) ?_ hHeld ?_
     rotate_left 1
     ·intro w' hSw; (try dsimp only at hSw); go_simp <;> with_reducible rfl
     try simp only [Act.put, List.setIfInBounds_toArray, List.set_cons_zero, List.set_cons_succ]
     refine takeH 1 (v := ?_) rfl (by kernel_rfl) (fun _ _ _ h => h) (by rfl) ?_ hHeld ?_
     rotate_left 1
     ·intro w' hSw; (try dsimp only at hSw); go_simp <;> with_reducible rfl
     try simp only [Act.put, List.setIfInBounds_toArray, List.set_cons_zero, List.set_cons_succ]
     refine takeH 2 (v := ?_) rfl (by kernel_rfl) (fun _ _ _ h => h) (by rfl) ?_ hHeld ?_
     rotate_left 1
     ·intro w' hSw; (try dsimp only at hSw); go_simp <;> with_reducible rfl
     try simp only [Act.put, List.setIfInBounds_toArray, List.set_cons_zero, List.set_cons_succ]
     refine takeH 3 (v := ?_) rfl (by kernel_rfl) (fun _ _ _ h => h) (by rfl) ?_ hHeld ?_
     rotate_left 1
     ·intro w' hSw; (try dsimp only at hSw); go_simp <;> with_reducible rfl
     try simp only [Act.put, List.setIfInBounds_toArray, List.set_cons_zero, List.set_cons_succ]
     refine takeH 4 (v := ?_) rfl (by kernel_rfl) (fun _ _ _ h => h) (by rfl) ?_ hHeld ?_
     rotate_left 1
     ·intro w' hSw; (try dsimp only at hSw); go_simp <;> with_reducible rfl
     try simp only [Act.put, List.setIfInBounds_toArray, List.set_cons_zero, List.set_cons_succ]
     refine takeH 5 (v := ?_) rfl (by kernel_rfl) (fun _ _ _ h => h) (by rfl) ?_ hHeld ?_
     rotate_left 1
     ·intro w' hSw; (try dsimp only at hSw); go_simp <;> with_reducible rfl
     try simp only [Act.put, List.setIfInBounds_toArray, List.set_cons_zero, List.set_cons_succ]
     refine takeH 6 (v := ?_) rfl (by kernel_rfl) (fun _ _ _ h => h) (by rfl) ?_ hHeld ?_
     rotate_left 1
     ·intro w' hSw; (try dsimp only at hSw); go_simp <;> with_reducible rfl
     try simp only [Act.put, List.setIfInBounds_toArray, List.set_cons_zero, List.set_cons_succ]
     refine takeH 10 (v := ?_) rfl (by kernel_rfl) (fun _ _ _ h => h) (by rfl) ?_ hHeld ?_
     rotate_left 1
     ·intro w' hSw; (try dsimp only at hSw); go_simp <;> with_reducible rfl
     try simp only [Act.put, List.setIfInBounds_toArray, List.set_cons_zero, List.set_cons_succ]
     refine takeH 11 (v := ?_) rfl (by kernel_rfl) (fun _ _ _ h => h) (by rfl) ?_ hHeld ?_
     rotate_left 1
     ·intro w' hSw; (try dsimp only at hSw); go_simp <;> with_reducible rfl
     try simp only [Act.put, List.setIfInBounds_toArray, List.set_cons_zero, List.set_cons_succ]
     refine takeH 12 (v := ?_) rfl (by kernel_rfl) (fun _ _ _ h => h) (by rfl) ?_ hHeld ?_
     rotate_left 1
     ·intro w' hSw; (try dsimp only at hSw); go_simp <;> with_reducible rfl
     try simp only [Act.put, List.setIfInBounds_toArray, List.set_cons_zero, List.set_cons_succ]
     refine takeH 13 (v := ?_) rfl (by kernel_rfl) (fun _ _ _ h => h) (by rfl) ?_ hHeld ?_
     rotate_left 1
     ·intro w' hSw; (try dsimp only at hSw); go_simp <;> with_reducible rfl
     try simp only [Act.put, List.setIfInBounds_toArray, List.set_cons_zero, List.set_cons_succ]
     refine takeH 14 (v := ?_) rfl (by kernel_rfl) (fun _ _ _ h => h) (by rfl) ?_ hHeld ?_
     rotate_left 1
     ·intro w' hSw; (try dsimp only at hSw); go_simp <;> with_reducible rfl
     try simp only [Act.put, List.setIfInBounds_toArray, List.set_cons_zero, List.set_cons_succ]
     refine takeH 15 (v := ?_) rfl (by kernel_rfl) (fun _ _ _ h => h) (by rfl) ?_ hHeld ?_
     rotate_left 1
     ·intro w' hSw; (try dsimp only at hSw); go_simp <;> with_reducible rfl
     try simp only [Act.put, List.setIfInBounds_toArray, List.set_cons_zero, List.set_cons_succ]
     refine stepH 7 (by kernel_rfl) rfl (fun K hK => ?_)
     go_simp
     refine (index_str A0 n0 c0 x.nodes z.fr W.drew HRN2.out hn63).mono ?_
     rw [nodeIx hsa]
     rintro e w' ⟨rfl, rfl⟩
     go_simp
     refine hK.out _ _ ?_ (fun hHeld => ?_)
     ·exact hHeld
     clear hK K
     try simp only [Act.put, List.setIfInBounds_toArray, List.set_cons_zero, List.set_cons_succ]
     refine takeH 8 (v := ?_) rfl (by kernel_rfl) (fun _ _ _ h => h) (by rfl) ?_ hHeld ?_
     rotate_left 1
     ·intro w' hSw; (try dsimp only at hSw); go_simp <;> with_reducible rfl
     try simp only [Act.put, List.setIfInBounds_toArray, List.set_cons_zero, List.set_cons_succ]
     refine takeH 9 (v := ?_) rfl (by kernel_rfl) (fun _ _ _ h => h) (by rfl) ?_ hHeld ?_
     rotate_left 1
     ·intro w' hSw; (try dsimp only at hSw); go_simp <;> with_reducible rfl
     try simp only [Act.put, List.setIfInBounds_toArray, List.set_cons_zero, List.set_cons_succ]
     refine stepH 16 (by kernel_rfl) rfl (fun K hK => ?_)
     go_simp
     refine (index_str A0 n0 c0 x.nodes z.to W.drew HRN2.out hn63).mono ?_
     rw [nodeIx hsb]
     rintro e w' ⟨rfl, rfl⟩
     go_simp
     refine hK.out _ _ ?_ (fun hHeld => ?_)
     ·exact hHeld
     clear hK K
     try simp only [Act.put, List.setIfInBounds_toArray, List.set_cons_zero, List.set_cons_succ]
     refine takeH 17 (v := ?_) rfl (by kernel_rfl) (fun _ _ _ h => h) (by rfl) ?_ hHeld ?_
     rotate_left 1
     ·intro w' hSw; (try dsimp only at hSw); go_simp <;> with_reducible rfl
     try simp only [Act.put, List.setIfInBounds_toArray, List.set_cons_zero, List.set_cons_succ]
     refine takeH 18 (v := ?_) rfl (by kernel_rfl) (fun _ _ _ h => h) (by rfl) ?_ hHeld ?_
     rotate_left 1
     ·intro w' hSw; (try dsimp only at hSw); go_simp <;> with_reducible rfl
     try simp only [Act.put, List.setIfInBounds_toArray, List.set_cons_zero, List.set_cons_succ]
     refine takeH 19 (v := ?_) rfl (by kernel_rfl) (fun _ _ _ h => h) (by rfl) ?_ hHeld ?_
     rotate_left 1
     ·intro w' hSw; (try dsimp only at hSw); go_simp <;> with_reducible rfl
     try simp only [Act.put, List.setIfInBounds_toArray, List.set_cons_zero, List.set_cons_succ]
     refine stepH 20 (by kernel_rfl) rfl (fun K hK => ?_)
     go_simp
     refine hK.out _ _ ?_ (fun hHeld => ?_)
     ·exact ⟨cellAl q0 (by omega), cellAl t0 (by omega), cellAl b1 (by omega), cellAl b2 (by omega), cellAl cf (by omega), cellAl ct (by omega)⟩
     clear hK K
     try simp only [Act.put, List.setIfInBounds_toArray, List.set_cons_zero, List.set_cons_succ]
     refine stepH 21 (by kernel_rfl) rfl (fun K hK => ?_)
     refine step_append_lies _ (by rfl) _ _ _ (by rfl) (tb + 1) 167 i0 _ 2 16 Tryz.underlying166 HI0.out HI1.out HI2.out HI3.out rfl (by omega) v7 _ _ (by rfl) ((HO.out.alloc _).drew) ⟨W.heap.size, 0, none⟩ 1 1 (edC (busAt x z.fr, busAt x z.to)) (by rfl) (by rfl) (pr_news W (busAt x z.fr, busAt x z.to) 167) (pr_one _) (by omega) (by have := HZL.out; simp only [maxLen]; omega) (by have := HZL.out; omega) (by simp; omega) (W.heap.size + 1) (by simp) ?_
     intro gg cap w1 hown1 hgrow hat hlt1
     refine hK.out _ _ ?_ (fun hHeld => ?_)
     ·exact ⟨(hgrow.cell_far ⟨w.heap.size, 0, none⟩ (by simp; omega) (Ne.symm hv1)).trans (cellAl q0 (by omega)), (hgrow.cell_far ⟨tb, 0, none⟩ (by simp; omega) (Ne.symm hv3)).trans (cellAl t0 (by omega)), (hgrow.cell_far ⟨zb, 1, none⟩ (by simp; omega) (Ne.symm hv2)).trans (cellAl b1 (by omega)), (hgrow.cell_far ⟨zb, 2, none⟩ (by simp; omega) (Ne.symm hv2)).trans (cellAl b2 (by omega)), (hgrow.cell_far ⟨gb, ndIdx x.nodes z.fr, none⟩ (by simp; omega) (Ne.symm hv4)).trans (cellAl cf (by omega)), (hgrow.cell_far ⟨gb, ndIdx x.nodes z.to, none⟩ (by simp; omega) (Ne.symm hv4)).trans (cellAl ct (by omega))⟩
     clear hK K
     try simp only [Act.put, List.setIfInBounds_toArray, List.set_cons_zero, List.set_cons_succ]
     refine wpAnyH_done (by kernel_rfl) ?_ _
     refine lastQ_go (by rfl) ?_
     have HS5 : Hid (w1.ownsRow (tb + 1) 167 2 (.slice (some ⟨gg, 0, none⟩) (k + 1) cap) (k + 1) (((x.brs.take (k + 1)).map fun b => (busAt x b.fr, busAt x b.to)).flatMap edC)) := Lib.hid (by rw [HZ.out, List.flatMap_append]; simpa [edC] using hown1)
     have HB5 : Hid (Below (tb + 1) w4 w1) := Lib.hid (HLB.out.trans ((below_drew ((Below.refl _ _).alloc hbase _)).grown hgrow (by simp; omega) (fun k hk => (HO.out.lt k hk).1)))
     clear hgrow hat hown1 hHeld
     go_simp
     go_wp2_with fail
     go_roundw
     case rel => exact ⟨k + 1, by omega, by go_num, HB5.out, by have := HB5.out.size; have := HX2.out.lt; omega, HS5.out⟩
     case measure => simp [intOf]; omega
    ·have hkk : n2 = k := by omega
     subst hkk
     have HO2 : Hid (wr.ownsRow (tb + 1) 167 2 u7 (brE x).length ((brE x).flatMap edC)) := Lib.hid (by
      have h := HOW.out
      rw [List.take_of_length_le (by have := HN2.out; omega)] at h
      have e : (brE x).length = n2 := by unfold brE; rw [List.length_map]; exact HN2.out
      rw [e]; exact h)
     obtain ⟨A, c, hu7, hE⟩ := rdE_own HO2.out
     subst hu7
     have HE := Lib.hid hE
     have HT3 := Lib.hid (HT2.out.below HLO.out (by omega))
     have HX3 := Lib.hid (HX2.out.below HLO.out (by omega))
     have HG3 := Lib.hid (HG2.out.below HLO.out (by omega))
     have HB3 := Lib.hid (HB2.out.trans (HLO.out.mono (by omega)))
     have HBO := Lib.hid (brE_ok HOK.out)
     have HIS : Hid (islR x = partsR (busN x) (brE x)) := Lib.hid rfl
     clear HO2 HOW hE
     generalize brE x = es at *
     go_wp2_with fail
     clear y0 y1 y2 y3 y4 y5 nf nlt
     refine (comp_any A c (busN x) es wr HE.out HBO.out.1 hbn (by have := HBO.out.2; omega)).mono ?_
     rintro e w5 ⟨hb, g2, rfl, hg, hblk⟩
     have HT5 := Lib.hid (HT3.out.below hb HT3.out.lt)
     have HX5 := Lib.hid (HX3.out.below hb HX3.out.lt)
     have HG5 := Lib.hid (HG3.out.below hb HG3.out.lt)
     have HB5 := Lib.hid (HB3.out.trans (hb.mono HB3.out.size))
     have HBK := Lib.hid hblk
     have hg2 : tb + 1 ≤ g2 := by omega
     have x0 := HX5.out.cell 0
     have x1 := HX5.out.cell 1
     have xf0 := HX5.out.frozen 0
     have xf1 := HX5.out.frozen 1
     have t0 := HT5.out.cell 0
     have t1 := HT5.out.cell 1
     have tf0 := HT5.out.frozen 0
     have tf1 := HT5.out.frozen 1
     have hlt5 := HX5.out.lt
     have hltt := HT5.out.lt
     have hne : tb ≠ w.heap.size + 1 := by omega
     have hne' : w.heap.size + 1 ≠ tb := by omega
     clear hb hg hblk
     go_wp2_with fail
     have HT9 : Hid (Blk (((w5.setCell ⟨tb, 1, none⟩ (.slice (some ⟨g2, 0, none⟩) (busN x) (busN x))).setCell ⟨w.heap.size + 1, 0, none⟩ (.slice (some ⟨gb, 0, none⟩) n0 n0)).setCell ⟨w.heap.size + 1, 1, none⟩ (.slice (some ⟨g2, 0, none⟩) (busN x) (busN x))) (w.heap.size + 1) 65 #[.slice (some ⟨gb, 0, none⟩) n0 n0, .slice (some ⟨g2, 0, none⟩) (busN x) (busN x)]) := Lib.hid (((HT5.out.far (by simp; omega) _).set_at (i := 0) _ (by simp; rfl)).set_at (i := 1) _ (by simp))
     have HB9 : Hid (Below w.heap.size w (((w5.setCell ⟨tb, 1, none⟩ (.slice (some ⟨g2, 0, none⟩) (busN x) (busN x))).setCell ⟨w.heap.size + 1, 0, none⟩ (.slice (some ⟨gb, 0, none⟩) n0 n0)).setCell ⟨w.heap.size + 1, 1, none⟩ (.slice (some ⟨g2, 0, none⟩) (busN x) (busN x)))) := Lib.hid (((HB5.out.setCell (by simp; omega) _).setCell (by simp) _).setCell (by simp) _)
     have HG9 : Hid (Blk (((w5.setCell ⟨tb, 1, none⟩ (.slice (some ⟨g2, 0, none⟩) (busN x) (busN x))).setCell ⟨w.heap.size + 1, 0, none⟩ (.slice (some ⟨gb, 0, none⟩) n0 n0)).setCell ⟨w.heap.size + 1, 1, none⟩ (.slice (some ⟨g2, 0, none⟩) (busN x) (busN x))) gb 3 (ints (busR x)).toArray) := Lib.hid (((HG5.out.far (by simp; omega) _).far (by simp; omega) _).far (by simp; omega) _)
     have HK9 : Hid (Blk (((w5.setCell ⟨tb, 1, none⟩ (.slice (some ⟨g2, 0, none⟩) (busN x) (busN x))).setCell ⟨w.heap.size + 1, 0, none⟩ (.slice (some ⟨gb, 0, none⟩) n0 n0)).setCell ⟨w.heap.size + 1, 1, none⟩ (.slice (some ⟨g2, 0, none⟩) (busN x) (busN x))) g2 3 (ints (partsR (busN x) es)).toArray) := Lib.hid (((HBK.out.far (by simp; omega) _).far (by simp; omega) _).far (by simp; omega) _)
     generalize ((w5.setCell ⟨tb, 1, none⟩ (.slice (some ⟨g2, 0, none⟩) (busN x) (busN x))).setCell ⟨w.heap.size + 1, 0, none⟩ (.slice (some ⟨gb, 0, none⟩) n0 n0)).setCell ⟨w.heap.size + 1, 1, none⟩ (.slice (some ⟨g2, 0, none⟩) (busN x) (busN x)) = w9 at *
     have f0 := HT9.out.cell 0
     have f1 := HT9.out.cell 1
     refine bodyPost_ret (v := .agg #[.slice (some ⟨gb, 0, none⟩) n0 n0, .slice (some ⟨g2, 0, none⟩) (busN x) (busN x)]) (by simp [results, Tryz.results78, go_sem, f0, f1]) rfl ?_
     exact HP.out _ _ ⟨HB9.out, gb, g2, rfl, by omega, by omega, HG9.out, by rw [HIS.out]; exact HK9.out⟩
end
section
open Go
def lastX (md : Region.Mode) (L : List Oper) (n : Nat) (ex : List Nat) : Bool :=
 decide (L.length = n + 1) &&
 (List.range (n + 1)).all (fun j => match L[j]? with
  | some o => o.after.all (fun e => !Region.binds md e || decide (e.on < j)) && (match o.guard with | none => true | some (g, _) => decide (g < n))
  | none => false) &&
 (List.range n).all (fun j => ex.contains j || (List.range (n + 1)).any fun k => decide (j < k) && match L[k]? with
  | some o => o.after.any (fun e => Region.binds md e && e.on == j)
  | none => false)
section
variable {P : Program} {Q : Exit → Act → World → Prop} {md : Region.Mode}
theorem lastX_spec {L : List Oper} {n : Nat} {ex : List Nat} (h : lastX md L n ex = true) : L.length = n + 1 ∧
    (∀ j o, L[j]? = some o → (∀ e ∈ o.after, Region.binds md e = true → e.on < j) ∧ ∀ g b, o.guard = some (g, b) → g < n) ∧
    (∀ j, j < n → j ∈ ex ∨ ∃ k o e, j < k ∧ L[k]? = some o ∧ e ∈ o.after ∧ Region.binds md e = true ∧ e.on = j) := by
 unfold lastX at h
 simp only [Bool.and_eq_true, decide_eq_true_eq, List.all_eq_true, List.mem_range, List.any_eq_true, Bool.or_eq_true, List.contains_iff_mem] at h
 obtain ⟨⟨h1, h2⟩, h3⟩ := h
 refine ⟨h1, fun j o ho => ?_, fun j hj => ?_⟩
 ·have hj : j < n + 1 := by rw [← h1]; exact (List.getElem?_eq_some_iff.1 ho).1
  have := h2 j hj
  rw [ho] at this
  simp only [Bool.and_eq_true, Array.all_eq_true_iff_forall_mem, Bool.or_eq_true, Bool.not_eq_true', decide_eq_true_eq] at this
  refine ⟨fun e he hb => (this.1 e he).resolve_left (by simp [hb]), fun g b hg => ?_⟩
  have h4 := this.2
  rw [hg] at h4
  simpa using h4
 ·rcases h3 j hj with h3 | ⟨k, hk, hjk, h4⟩
  ·exact .inl h3
  refine .inr ?_
  cases ho : L[k]? with
  | none => rw [ho] at h4; cases h4
  | some o =>
   rw [ho] at h4
   simp only [Array.any_eq_true'] at h4
   obtain ⟨e, he, h5⟩ := h4
   simp only [Bool.and_eq_true, beq_iff_eq] at h5
   exact ⟨k, o, e, hjk, ho, he, h5.1, h5.2⟩
theorem all_listedX {L : List Oper} {n : Nat} {ex : List Nat} {oN : Oper} {listed : Array Bool} (hs : lastX md L n ex = true) (hx : ∀ j ∈ ex, listed.getD j false = true) (hN : L[n]? = some oN) (hsz : listed.size = n) (hc : ClosedL md (L.take n) listed)
    (hr : ∀ e ∈ oN.after, Region.binds md e = true → (listed.push false).getD e.on false = true) : ∀ d j, j + d = n → 0 < d → listed.getD j false = true := by
 obtain ⟨h1, h2, h3⟩ := lastX_spec hs
 intro d
 induction d using Nat.strongRecOn with
 | _ d ih =>
  intro j hj hd
  rcases h3 j (by omega) with h3 | ⟨k, o, e, hjk, hk, he, hb, hej⟩
  ·exact hx j h3
  have hkl : k < n + 1 := by rw [← h1]; exact (List.getElem?_eq_some_iff.1 hk).1
  by_cases hkn : k = n
  ·subst hkn
   rw [hN] at hk; injection hk with hk; subst hk
   have := hr e he hb
   rw [hej] at this
   rwa [Array.getD_eq_getD_getElem?, Array.getElem?_push_lt (by omega), ← Array.getElem?_eq_getElem (by omega), ← Array.getD_eq_getD_getElem?] at this
  ·have hl := ih (n - k) (by omega) k (by omega) (by omega)
   have := hc k o (by rw [List.getElem?_take_of_lt (by omega)]; exact hk) hl e he hb
   rwa [hej] at this
theorem ready_frontX {L : List Oper} {n : Nat} {ex : List Nat} {listed : Array Bool} (hs : lastX md L n ex = true) (hsz : listed.size = n) {i : Nat} (hi : i < n) : i ∈ Region.ready md L.toArray (listed.push false) ↔ i ∈ Region.ready md (L.take n).toArray listed := by
 obtain ⟨h1, h2, h3⟩ := lastX_spec hs
 rw [mem_ready, mem_ready, List.getElem?_toArray, List.getElem?_toArray, List.getElem?_take_of_lt hi, getD_push (by omega)]
 refine and_congr Iff.rfl ⟨?_, ?_⟩
 ·rintro ⟨o, ho, h⟩
  exact ⟨o, ho, fun e he hb => by rw [← getD_push (by have := (h2 i o ho).1 e he hb; omega)]; exact h e he hb⟩
 ·rintro ⟨o, ho, h⟩
  exact ⟨o, ho, fun e he hb => by rw [getD_push (by have := (h2 i o ho).1 e he hb; omega)]; exact h e he hb⟩
theorem wpAny_lastX {L : List Oper} {n : Nat} {ex : List Nat} {oN : Oper} (hs : lastX md L n ex = true) (hN : L[n]? = some oN) : ∀ (fuel : Nat) (listed : Array Bool) (a : Act) (w : World), listed.size = n → ClosedL md (L.take n) listed → (∀ j ∈ ex, listed.getD j false = true) →
    wpAny P md (L.take n).toArray (lastQ P L.toArray oN Q) fuel listed a w → wpAny P md L.toArray Q (fuel + 1) (listed.push false) a w := by
 obtain ⟨h1, h2, h3⟩ := lastX_spec hs
 have key : ∀ (fuel : Nat) (listed : Array Bool) (a : Act) (w : World), listed.size = n → ClosedL md (L.take n) listed → Region.ready md (L.take n).toArray listed = [] → lastQ P L.toArray oN Q .normal a w → wpAny P md L.toArray Q (fuel + 1) (listed.push false) a w := by
  intro fuel listed a w hsz hc hr hq
  have hall : ∀ m j, j < m → j < n → listed.getD j false = true := by
   intro m
   induction m with
   | zero => intro j hj; omega
   | succ m ih =>
    intro j hj hjn
    cases hl : listed.getD j false with
    | true => rfl
    | false =>
     exfalso
     have hjl : j < L.length := by omega
     have hmem : j ∈ Region.ready md (L.take n).toArray listed := by
      rw [mem_ready, List.getElem?_toArray, List.getElem?_take_of_lt hjn, getD_tf (by omega), hl]
      refine ⟨rfl, L[j], List.getElem?_eq_getElem hjl, fun e he hb => ih _ ?_ ?_⟩
      ·have := (h2 j _ (List.getElem?_eq_getElem hjl)).1 e he hb; omega
      ·have := (h2 j _ (List.getElem?_eq_getElem hjl)).1 e he hb; omega
     rw [hr] at hmem
     cases hmem
  have hall' := fun j hj => hall n j hj hj
  have hnr : n ∈ Region.ready md L.toArray (listed.push false) := by
   rw [mem_ready, List.getElem?_toArray]
   refine ⟨by simp [← hsz], oN, hN, fun e he hb => ?_⟩
   have := (h2 n oN hN).1 e he hb
   rw [getD_push (by omega)]
   exact hall' _ this
  refine ⟨fun h0 => by rw [h0] at hnr; exact absurd hnr (by simp), fun j hj => ?_⟩
  have hjn : j = n := by
   obtain ⟨h0, o, ho, _⟩ := mem_ready.1 hj
   rw [List.getElem?_toArray] at ho
   have hjl := (List.getElem?_eq_some_iff.1 ho).1
   refine Decidable.byContradiction fun hne => ?_
   rw [getD_push (by omega), getD_tf (by omega), hall' j (by omega)] at h0
   cases h0
  subst hjn
  unfold wpOp
  rw [List.getElem?_toArray, hN]
  simp only
  have hd := done_of_all (md := md) h1 hsz hall'
  unfold lastQ at hq
  dsimp only at hq
  split
  ·rename_i hw
   rw [if_pos hw] at hq
   exact .inl (Oper.wp_mono (fun a' w' h => wpAny_done hd h fuel) hq)
  ·rename_i hw
   rw [if_neg hw] at hq
   exact wpAny_done hd hq fuel
 intro fuel
 induction fuel with
 | zero => intro listed a w hsz hc hx h; exact key 0 listed a w hsz hc h.1 h.2
 | succ fuel ih =>
  intro listed a w hsz hc hx h
  by_cases hr : Region.ready md (L.take n).toArray listed = []
  ·exact key (fuel + 1) listed a w hsz hc hr (h.1 hr)
  ·have hnn : n ∉ Region.ready md L.toArray (listed.push false) := by
    intro hn
    obtain ⟨_, o, ho, hall⟩ := mem_ready.1 hn
    rw [List.getElem?_toArray, hN] at ho
    injection ho with ho
    subst ho
    have hl := all_listedX hs hx hN hsz hc hall
    apply hr
    rw [List.eq_nil_iff_forall_not_mem]
    intro j hj
    obtain ⟨h0, o, ho, _⟩ := mem_ready.1 hj
    rw [List.getElem?_toArray] at ho
    have hjl := (List.getElem?_eq_some_iff.1 ho).1
    have hjn : j < n := by simp at hjl; omega
    have := hl (n - j) j (by omega) (by omega)
    rw [getD_tf (by omega), this] at h0
    cases h0
   have hlt : ∀ j, j ∈ Region.ready md L.toArray (listed.push false) → j < n := fun j hj => by
    obtain ⟨_, o, ho, _⟩ := mem_ready.1 hj
    rw [List.getElem?_toArray] at ho
    have := (List.getElem?_eq_some_iff.1 ho).1
    have hne : j ≠ n := fun e => hnn (e ▸ hj)
    omega
   refine ⟨fun h0 => ?_, fun j hj => ?_⟩
   ·exfalso
    obtain ⟨j, hj⟩ := List.exists_mem_of_ne_nil _ hr
    have hjn : j < n := by
     obtain ⟨_, o, ho, _⟩ := mem_ready.1 hj
     rw [List.getElem?_toArray] at ho
     have := (List.getElem?_eq_some_iff.1 ho).1
     simp at this; omega
    have := (ready_frontX hs hsz hjn).2 hj
    rw [h0] at this
    cases this
   ·have hjn := hlt j hj
    have hjr := (ready_frontX hs hsz hjn).1 hj
    refine wpOp_lastQ (L := L) (F := L.take n) (by rw [List.getElem?_take_of_lt hjn]) (fun o ho g b hg => ?_) (fun a' w' hh => ?_) (h.2 j hjr)
    ·rw [List.getElem?_take_of_lt hjn] at ho
     rw [List.getElem?_take_of_lt ((h2 j o ho).2 g b hg)]
    ·rw [push_set (by omega)]
     exact ih _ a' w' (by simpa using hsz) (closed_set hc hjr) (fun y hy => getD_set_true (hx y hy)) hh
theorem wp_region_last3X {S : World → Prop} {id : Nat} {a : Act} {w : World} {L : List Oper} (m p : Nat) (op oK oM oN : Oper) (v : Value) (hm : P.follows .mixedOrders = true) (hs : lastB .any L (m + 3) = true) (hs2 : lastB .any (L.take (m + 3)) (m + 2) = true) (hs3 : lastX .any (L.take (m + 2)) (m + 1) [p] = true)
    (hp : L[p]? = some op) (hpm : p < m + 1) (hpa : op.after.all (fun e => !Region.binds .any e) = true) (hK : L[m + 1]? = some oK) (hM : L[m + 2]? = some oM) (hN : L[m + 3]? = some oN) (hP : takeB .any L.toArray (Array.replicate (m + 4) false) p = true)
    (hQ : ∀ c a w, Q (.panic c) (a.put op.dst v) w → Q (.panic c) a w) (hw : Region.wanted op (yielded L.toArray a.tmps) = true) (hy : ∀ w, (execOp a.eval op).run P w = .ok (.value v) w) (hS : S w.drew)
    (h : S w.drew → wpAnyH P .any (L.take (m + 1)).toArray (lastQ P (L.take (m + 2)).toArray oK (lastQ P (L.take (m + 3)).toArray oM (lastQ P L.toArray oN Q))) S m ((Array.replicate (m + 1) false).setIfInBounds p true) (a.put op.dst v) w.drew) : (Code.region id L.toArray true).wp P Q a w := by
 obtain ⟨h1, h2, h3⟩ := lastB_spec hs
 have ht1 : (L.take (m + 3)).take (m + 2) = L.take (m + 2) := by rw [List.take_take, Nat.min_eq_left (by omega)]
 have ht2 : (L.take (m + 2)).take (m + 1) = L.take (m + 1) := by rw [List.take_take, Nat.min_eq_left (by omega)]
 refine wp_region_any hm ?_
 rw [show L.toArray.size = m + 3 + 1 from by simpa using h1]
 unfold takeB at hP
 rw [Bool.and_eq_true, Bool.and_eq_true] at hP
 refine wpAny_take (by rw [List.getElem?_toArray]; exact hp) hP.1.1 hP.1.2 hP.2 hQ (.inl ⟨hw, hy⟩) ?_
 have hcl : ∀ (F : List Oper) (k : Nat), F[p]? = some op ∨ F[p]? = none → ClosedL .any F ((Array.replicate k false).setIfInBounds p true) := fun F k hF j o ho hj e he hb => by
  by_cases hpj : p = j
  ·subst hpj
   rcases hF with hF | hF
   ·rw [hF] at ho; injection ho with ho; subst ho
    have := Array.all_eq_true_iff_forall_mem.1 hpa e he
    rw [hb] at this
    cases this
   ·rw [hF] at ho; cases ho
  ·rw [getD_set_ne false hpj] at hj
   exact absurd hj (by rcases Nat.lt_or_ge j k with h' | h' <;> simp [h'])
 have htk : ∀ k, (L.take k)[p]? = some op ∨ (L.take k)[p]? = none := fun k => by
  rw [List.getElem?_take]
  split
  ·exact .inl hp
  ·exact .inr rfl
 rw [Array.replicate_succ, push_set (by simp; omega)]
 refine wpAny_last hs hN (m + 2) _ _ _ (by simp) (hcl _ _ (htk _)) ?_
 rw [Array.replicate_succ, push_set (by simp; omega)]
 refine wpAny_last hs2 (by rw [List.getElem?_take_of_lt (by omega)]; exact hM) (m + 1) _ _ _ (by simp) (hcl _ _ (by rw [ht1]; exact htk _)) ?_
 rw [ht1, Array.replicate_succ, push_set (by simp; omega)]
 refine wpAny_lastX hs3 (by rw [List.getElem?_take_of_lt (by omega)]; exact hK) m _ _ _ (by simp) (hcl _ _ (by rw [ht2]; exact htk _)) (fun j hj => by rw [List.mem_singleton.1 hj]; simp; omega) ?_
 rw [ht2]
 exact wpAny_of_held _ _ _ _ (h hS)
end
end
section
open Go
section
variable {P : Program} {Q : Exit → Act → World → Prop}
theorem wp_region_last4X {S : World → Prop} {id : Nat} {a : Act} {w : World} {L : List Oper} (m p : Nat) (op oJ oK oM oN : Oper) (v : Value) (hm : P.follows .mixedOrders = true) (hs : lastB .any L (m + 4) = true) (hs2 : lastB .any (L.take (m + 4)) (m + 3) = true) (hs3 : lastB .any (L.take (m + 3)) (m + 2) = true) (hs4 : lastX .any (L.take (m + 2)) (m + 1) [p] = true)
    (hp : L[p]? = some op) (hpm : p < m + 1) (hpa : op.after.all (fun e => !Region.binds .any e) = true) (hJ : L[m + 1]? = some oJ) (hK : L[m + 2]? = some oK) (hM : L[m + 3]? = some oM) (hN : L[m + 4]? = some oN) (hP : takeB .any L.toArray (Array.replicate (m + 5) false) p = true)
    (hQ : ∀ c a w, Q (.panic c) (a.put op.dst v) w → Q (.panic c) a w) (hw : Region.wanted op (yielded L.toArray a.tmps) = true) (hy : ∀ w, (execOp a.eval op).run P w = .ok (.value v) w) (hS : S w.drew)
    (h : S w.drew → wpAnyH P .any (L.take (m + 1)).toArray (lastQ P (L.take (m + 2)).toArray oJ (lastQ P (L.take (m + 3)).toArray oK (lastQ P (L.take (m + 4)).toArray oM (lastQ P L.toArray oN Q)))) S m ((Array.replicate (m + 1) false).setIfInBounds p true) (a.put op.dst v) w.drew) : (Code.region id L.toArray true).wp P Q a w := by
 obtain ⟨h1, h2, h3⟩ := lastB_spec hs
 have ht0 : (L.take (m + 4)).take (m + 3) = L.take (m + 3) := by rw [List.take_take, Nat.min_eq_left (by omega)]
 have ht1 : (L.take (m + 3)).take (m + 2) = L.take (m + 2) := by rw [List.take_take, Nat.min_eq_left (by omega)]
 have ht2 : (L.take (m + 2)).take (m + 1) = L.take (m + 1) := by rw [List.take_take, Nat.min_eq_left (by omega)]
 refine wp_region_any hm ?_
 rw [show L.toArray.size = m + 4 + 1 from by simpa using h1]
 unfold takeB at hP
 rw [Bool.and_eq_true, Bool.and_eq_true] at hP
 refine wpAny_take (by rw [List.getElem?_toArray]; exact hp) hP.1.1 hP.1.2 hP.2 hQ (.inl ⟨hw, hy⟩) ?_
 have hcl : ∀ (F : List Oper) (k : Nat), F[p]? = some op ∨ F[p]? = none → ClosedL .any F ((Array.replicate k false).setIfInBounds p true) := fun F k hF j o ho hj e he hb => by
  by_cases hpj : p = j
  ·subst hpj
   rcases hF with hF | hF
   ·rw [hF] at ho; injection ho with ho; subst ho
    have := Array.all_eq_true_iff_forall_mem.1 hpa e he
    rw [hb] at this
    cases this
   ·rw [hF] at ho; cases ho
  ·rw [getD_set_ne false hpj] at hj
   exact absurd hj (by rcases Nat.lt_or_ge j k with h' | h' <;> simp [h'])
 have htk : ∀ k, (L.take k)[p]? = some op ∨ (L.take k)[p]? = none := fun k => by
  rw [List.getElem?_take]
  split
  ·exact .inl hp
  ·exact .inr rfl
 rw [Array.replicate_succ, push_set (by simp; omega)]
 refine wpAny_last hs hN (m + 3) _ _ _ (by simp) (hcl _ _ (htk _)) ?_
 rw [Array.replicate_succ, push_set (by simp; omega)]
 refine wpAny_last hs2 (by rw [List.getElem?_take_of_lt (by omega)]; exact hM) (m + 2) _ _ _ (by simp) (hcl _ _ (by rw [ht0]; exact htk _)) ?_
 rw [ht0, Array.replicate_succ, push_set (by simp; omega)]
 refine wpAny_last hs3 (by rw [List.getElem?_take_of_lt (by omega)]; exact hK) (m + 1) _ _ _ (by simp) (hcl _ _ (by rw [ht1]; exact htk _)) ?_
 rw [ht1, Array.replicate_succ, push_set (by simp; omega)]
 refine wpAny_lastX hs4 (by rw [List.getElem?_take_of_lt (by omega)]; exact hJ) m _ _ _ (by simp) (hcl _ _ (by rw [ht2]; exact htk _)) (fun j hj => by rw [List.mem_singleton.1 hj]; simp; omega) ?_
 rw [ht2]
 exact wpAny_of_held _ _ _ _ (h hS)
end
end
end Go.Proofs.YtakllkkmofdpaaaGreatDoor
