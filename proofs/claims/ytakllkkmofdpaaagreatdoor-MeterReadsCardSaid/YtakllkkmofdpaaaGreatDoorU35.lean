import Derived.Test.YtakllkkmofdpaaaGreatDoorU29
import Derived.Test.YtakllkkmofdpaaaGreatDoorU34
set_option linter.unusedVariables false
set_option linter.unusedSimpArgs false
namespace Go.Proofs.YtakllkkmofdpaaaGreatDoor
section
open Go.ChangeShapes Go.WideShapes Go.ChangeAt Go.RowKit
attribute [local go_sem ↓] execOp_call_val
attribute [local go_sem] callVal_func setCell_drewN alloc_drewN sEq_walk
def injStep (bus u v : Nat) (b c : Rat) (s : List Rat × Rat) : List Rat × Rat :=
 let s1 := if u = bus then (addF (sg false b) u v s.1, s.2 + sg false c) else s
 if v = bus then (addF (sg true b) u v s1.1, s1.2 + sg true c) else s1
def injGo (bus : Nat) : List Rat → List Rat → List Nat → List Nat → List Rat × Rat → List Rat × Rat
 | b :: bs, c :: cs, u :: us, v :: vs, s => injGo bus bs cs us vs (injStep bus u v b c s)
 | _, _, _, _, s => s
def zrs (n : Nat) : List Rat := List.replicate n 0
def formR (x : Net) (m : Mi) : List Rat × Rat :=
 if m.kind = 0 then (addF (sg false (vf (mB x) (brIdx x m.name).toNat)) ((mFrom x).getD (brIdx x m.name).toNat 0) ((mTo x).getD (brIdx x m.name).toNat 0) (zrs (busN x)), 0 + sg false (vf (mC x) (brIdx x m.name).toNat))
 else if m.kind = 2 then ((zrs (busN x)).set (busAt x m.name) 1, 0)
 else injGo (busAt x m.name) (mB x) (mC x) (mFrom x) (mTo x) (zrs (busN x), 0)
def FormP (x : Net) (m : Mi) (w : World) (e : Ending) (w' : World) : Prop := Below w.heap.size w w' ∧ ∃ (gc : Nat) (u : Rv), e = .returned (.agg #[.slice (some ⟨gc, 0, none⟩) (busN x) (busN x), .bool u.b1, .slice u.A u.n u.c, .bool u.b2, .slice u.A2 u.m u.d]) ∧ RdQ w' w'.heap.size (some ⟨gc, 0, none⟩) (busN x) (formR x m).1 ∧ RtV w' w'.heap.size (formR x m).2 u
theorem islR_len {x : Net} (ok : NetOk x) : (islR x).length = busN x := by
 have h := (natJ_isl ok).2
 unfold islN at h
 rwa [List.length_map] at h
theorem mbuses_any (g : Nat) (m : ModH) (y : Value) (w : World) (hg : Blk w g 123 (m.cells y)) : Calls Tryz.prog 76 #[.pointer (some ⟨g, 0, none⟩)] w fun e w' => e = .returned (.int .i64 (m.n1 : Int)) ∧ w = w' := by
 have y1 := hg.cell 1
 have yl := hg.lt
 obtain ⟨A0, n0, c0, A1, n1, c1, A2, n2, c2, A3, n3, c3, A4, n4, c4, A5, n5, c5, A6, n6, c6⟩ := m
 simp only [ModH.cells] at y1
 clear hg
 go_enter Tryz.func76, Tryz.ntmps76
 go_wp2_with fail
 go_ret
 exact ⟨rfl, rfl⟩
def mkF (w : World) (gc n : Nat) (u : Rv) : World := w.alloc (.cells #[.slice (some ⟨gc, 0, none⟩) n n, .bool u.b1, .slice u.A u.n u.c, .bool u.b2, .slice u.A2 u.m u.d] 128)
theorem below_mkF {w : World} {gc n : Nat} {u : Rv} : Below w.heap.size w (mkF w gc n u) := (Below.refl _ w).alloc (Nat.le_refl _) _
theorem form_made {w : World} {gc n : Nat} {v u : Rv} (hc : Blk w gc 93 (rvs (List.replicate n v)).toArray) (hv : RtV w w.heap.size 0 v) (hu : RtV w w.heap.size 0 u) : FmS (mkF w gc n u) w.heap.size gc (List.replicate n v) u (zrs n) 0 := by
 refine ⟨?_, ⟨_, hc.below below_mkF hc.lt, ?_⟩, by simp [zrs], fun i p x hp hx => ?_, hu.up below_mkF⟩
 ·unfold mkF zrs
  rw [List.length_replicate]
  exact Blk.new w _ _
 ·have hl : (rvs (List.replicate n v)).length = n * 4 := (rvs_len _).trans (by rw [List.length_replicate])
  rw [zrs, List.length_replicate]
  exact List.take_of_length_le (Nat.le_of_eq hl)
 ·unfold zrs at hp
  rw [List.getElem?_replicate] at hp hx
  split at hp
  ·rename_i h
   rw [if_pos h] at hx
   rw [← Option.some.inj hp, ← Option.some.inj hx]
   exact hv.up below_mkF
  ·cases hp
def put5 (w : World) (p gc n : Nat) (u : Rv) : World := ((((w.setCell ⟨p, 0, none⟩ (.slice (some ⟨gc, 0, none⟩) n n)).setCell ⟨p, 1, none⟩ (.bool u.b1)).setCell ⟨p, 2, none⟩ (.slice u.A u.n u.c)).setCell ⟨p, 3, none⟩ (.bool u.b2)).setCell ⟨p, 4, none⟩ (.slice u.A2 u.m u.d)
theorem put5_size (w : World) (p gc n : Nat) (u : Rv) : (put5 w p gc n u).heap.size = w.heap.size := by simp [put5]
theorem below_put5 {a w : World} {B p gc n : Nat} {u : Rv} (h : Below B a w) (hp : B ≤ p) : Below B a (put5 w p gc n u) := ((((h.setCell hp _).setCell hp _).setCell hp _).setCell hp _).setCell hp _
theorem RtV.keep5 {w : World} {p gc n T : Nat} {u y : Rv} {t : Rat} (h : RtV w w.heap.size t y) (hb : Blk w p T #[.slice none 0 0, .bool false, .slice none 0 0, .bool false, .slice none 0 0]) : RtV (put5 w p gc n u) (put5 w p gc n u).heap.size t y := by
 have B0 := hb.set_at (i := 0) (cs' := #[.slice (some ⟨gc, 0, none⟩) n n, .bool false, .slice none 0 0, .bool false, .slice none 0 0]) (.slice (some ⟨gc, 0, none⟩) n n) (by simp)
 have B1 := B0.set_at (i := 1) (cs' := #[.slice (some ⟨gc, 0, none⟩) n n, .bool u.b1, .slice none 0 0, .bool false, .slice none 0 0]) (.bool u.b1) (by simp)
 have B2 := B1.set_at (i := 2) (cs' := #[.slice (some ⟨gc, 0, none⟩) n n, .bool u.b1, .slice u.A u.n u.c, .bool false, .slice none 0 0]) (.slice u.A u.n u.c) (by simp)
 have B3 := B2.set_at (i := 3) (cs' := #[.slice (some ⟨gc, 0, none⟩) n n, .bool u.b1, .slice u.A u.n u.c, .bool u.b2, .slice none 0 0]) (.bool u.b2) (by simp)
 exact (((((h.keep1 hb (i := 0) (y := .slice none 0 0) rfl slice_ni _).keep1 B0 (i := 1) (y := .bool false) rfl (fun k x h => by cases h) _).keep1 B1 (i := 2) (y := .slice none 0 0) rfl slice_ni _).keep1 B2 (i := 3) (y := .bool false) rfl (fun k x h => by cases h) _).keep1 B3 (i := 4) (y := .slice none 0 0) rfl slice_ni _)
theorem put5_blk {w : World} {p gc n T : Nat} {u : Rv} (hb : Blk w p T #[.slice none 0 0, .bool false, .slice none 0 0, .bool false, .slice none 0 0]) : Blk (put5 w p gc n u) p T #[.slice (some ⟨gc, 0, none⟩) n n, .bool u.b1, .slice u.A u.n u.c, .bool u.b2, .slice u.A2 u.m u.d] := by
 have B0 := hb.set_at (i := 0) (cs' := #[.slice (some ⟨gc, 0, none⟩) n n, .bool false, .slice none 0 0, .bool false, .slice none 0 0]) (.slice (some ⟨gc, 0, none⟩) n n) (by simp)
 have B1 := B0.set_at (i := 1) (cs' := #[.slice (some ⟨gc, 0, none⟩) n n, .bool u.b1, .slice none 0 0, .bool false, .slice none 0 0]) (.bool u.b1) (by simp)
 have B2 := B1.set_at (i := 2) (cs' := #[.slice (some ⟨gc, 0, none⟩) n n, .bool u.b1, .slice u.A u.n u.c, .bool false, .slice none 0 0]) (.slice u.A u.n u.c) (by simp)
 have B3 := B2.set_at (i := 3) (cs' := #[.slice (some ⟨gc, 0, none⟩) n n, .bool u.b1, .slice u.A u.n u.c, .bool u.b2, .slice none 0 0]) (.bool u.b2) (by simp)
 exact B3.set_at (i := 4) (.slice u.A2 u.m u.d) (by simp)
theorem FmS.rdq {w : World} {gf gc : Nat} {vs : List Rv} {u : Rv} {q : List Rat} {z : Rat} (f : FmS w gf gc vs u q z) {p n T : Nat} {y : Rv} (hb : Blk w p T #[.slice none 0 0, .bool false, .slice none 0 0, .bool false, .slice none 0 0]) (hp : gc ≠ p) : RdQ (put5 w p gc n y) (put5 w p gc n y).heap.size (some ⟨gc, 0, none⟩) q.length q := by
 obtain ⟨cs, h1, h2⟩ := f.row
 have hf : Blk (put5 w p gc n y) gc 93 cs := ((((h1.far hp _).far hp _).far hp _).far hp _).far hp _
 refine ⟨vs, f.len, rfl, ⟨by rw [rvs_len, f.len], fun hn => ⟨gc, 0, rfl, hf.lt, fun i v hv => ?_⟩⟩, fun i t v ht hv => (f.ok i t v ht hv).keep5 hb⟩
 rw [Nat.zero_add, hf.cell]
 rw [← h2] at hv
 rw [List.getElem?_take] at hv
 split at hv
 ·rwa [Array.getElem?_toList] at hv
 ·cases hv
theorem sg_qsz {m : Bool} {b : Rat} : qsz (sg m b) = qsz b := by
 unfold sg
 cases m
 ·rfl
 ·rw [if_pos rfl, neg_qsz]
structure FOk (n K : Nat) (s : List Rat × Rat) : Prop where
 len : s.1.length = n
 cf : ∀ p ∈ s.1, qsz p ≤ K
 fr : qsz s.2 ≤ K
theorem zrs_ok (n : Nat) : FOk n 2 (zrs n, 0) := by
 have h : qsz (0 : Rat) ≤ 2 := qsz_whole 0 (by decide) (by decide)
 refine ⟨by simp [zrs], fun p hp => ?_, h⟩
 rw [List.eq_of_mem_replicate hp]
 exact h
theorem FOk.mono {n K K' : Nat} {s : List Rat × Rat} (h : FOk n K s) (hk : K ≤ K') : FOk n K' s := ⟨h.len, fun p hp => Nat.le_trans (h.cf p hp) hk, Nat.le_trans h.fr hk⟩
theorem FOk.add {n K u v : Nat} {s : List Rat × Rat} {b c : Rat} (mi : Bool) (h : FOk n K s) (hu : u < n) (hv : v < n) (hb : qsz b ≤ 1) (hc : qsz c ≤ 2) : FOk n (K + 6) (addF (sg mi b) u v s.1, s.2 + sg mi c) := by
 have hb' : qsz (sg mi b) ≤ 1 := by rw [sg_qsz]; exact hb
 have h1 : qsz (vf s.1 u + sg mi b) ≤ K + 2 := by
  have a := add_qsz (vf s.1 u) (sg mi b)
  have c := h.cf _ (List.mem_of_getElem? (vf_get (i := u) (by rw [h.len]; exact hu)))
  omega
 have h2 : ∀ p ∈ s.1.set u (vf s.1 u + sg mi b), qsz p ≤ K + 2 := fun p hp => by
  rcases List.mem_or_eq_of_mem_set hp with e | e
  ·exact Nat.le_trans (h.cf p e) (by omega)
  ·rw [e]; exact h1
 refine ⟨by rw [addF_len]; exact h.len, fun p hp => ?_, ?_⟩
 ·unfold addF at hp
  rcases List.mem_or_eq_of_mem_set hp with e | e
  ·exact Nat.le_trans (h2 p e) (by omega)
  ·have a := add_qsz (vf (s.1.set u (vf s.1 u + sg mi b)) v) (-(sg mi b))
   have c := h2 _ (List.mem_of_getElem? (vf_get (i := v) (by rw [List.length_set, h.len]; exact hv)))
   rw [neg_qsz] at a
   rw [e, Rat.sub_eq_add_neg]
   omega
 ·have a := add_qsz s.2 (sg mi c)
  rw [sg_qsz (b := c)] at a
  have := h.fr
  show qsz (s.2 + sg mi c) ≤ _
  omega
theorem injGo_cons {bus : Nat} {B C : List Rat} {F G : List Nat} {s : List Rat × Rat} {k u v : Nat} {b c : Rat} (h1 : B[k]? = some b) (h0 : C[k]? = some c) (h2 : F[k]? = some u) (h3 : G[k]? = some v) : injGo bus (B.drop k) (C.drop k) (F.drop k) (G.drop k) s = injGo bus (B.drop (k + 1)) (C.drop (k + 1)) (F.drop (k + 1)) (G.drop (k + 1)) (injStep bus u v b c s) := by
 rw [drop_cons h1, drop_cons h0, drop_cons h2, drop_cons h3]
 rfl
theorem con_qsz {b : Br} (h : b.bad = false) : qsz (conR b) ≤ 2 := by
 have a := mul_qsz (susR b) (Rat.divInt (-b.shift) 1000)
 have c := sus_qsz h
 have d := shift_qsz h
 unfold conR
 omega
structure FEnv (w : World) (B gb g : Nat) (m : ModH) (y : Value) (x : Net) (gf gc : Nat) : Prop where
 b1 : B ≤ gf
 b2 : B ≤ gc
 lb : gb < B
 lg : g < B
 hs : B ≤ w.heap.size
 box : Blk w gb 119 #[.pointer (some ⟨g, 0, none⟩)]
 md : Blk w g 123 (m.cells y)
 rd : RdMod w B m x
theorem FEnv.oth {w w' : World} {B gb g gf gc : Nat} {m : ModH} {y : Value} {x : Net} (h : FEnv w B gb g m y x gf gc) (o : Oth gf gc w w') : FEnv w' B gb g m y x gf gc := by
 have hb := o.below h.b1 h.b2 h.hs
 exact ⟨h.b1, h.b2, h.lb, h.lg, Nat.le_trans h.hs o.size, h.box.below hb h.lb, h.md.below hb h.lg, h.rd.below hb (Nat.le_refl _)⟩
theorem addx_any {w : World} {B gb g gf gc : Nat} {m : ModH} {y : Value} {x : Net} (E : FEnv w B gb g m y x gf gc) {vs : List Rv} {u : Rv} {s : List Rat × Rat} (f : FmS w gf gc vs u s.1 s.2) {n K : Nat} (hs : FOk n K s) (hK : K ≤ 1000000) (hn : n = busN x) (h8 : x.nodes.length ≤ 8) (ok : NetOk x) {k : Nat} {b : Br} (hb : x.brs[k]? = some b) (minus : Bool) :
    Calls Tryz.prog 110 #[.int .i64 (k : Int), .bool minus, .pointer (some ⟨gb, 0, none⟩), .pointer (some ⟨gf, 0, none⟩)] w (AddP gf gc (susR b) (conR b) minus (busAt x b.fr) (busAt x b.to) s.1 s.2 w) := by
 obtain ⟨a1, a2, a3, a4⟩ := mFrom_at hb
 have hm := ok.br b (List.mem_of_getElem? hb)
 have hB := (busN_ok ok).2
 have l1 := (busAt_ok ok hm.1).2.1
 have l2 := (busAt_ok ok hm.2.1).2.1
 have hl := hs.len
 exact addm_any gb g m y x gf gc vs u s.1 s.2 k minus _ _ _ _ w B E.b1 E.b2 E.lb E.lg E.box E.md E.rd f a3 a4 a1 a2 (by omega) (by omega) (by have := ok.l2; omega) (by omega) (fun p hp => Nat.le_trans (hs.cf p hp) hK) (Nat.le_trans (sus_qsz hm.2.2.2) (by decide)) (Nat.le_trans (con_qsz hm.2.2.2) (by decide)) (Nat.le_trans hs.fr hK)
theorem addx_ok {x : Net} (ok : NetOk x) {n K k : Nat} {s : List Rat × Rat} (hs : FOk n K s) (hn : n = busN x) {b : Br} (hb : x.brs[k]? = some b) (minus : Bool) : FOk n (K + 6) (addF (sg minus (susR b)) (busAt x b.fr) (busAt x b.to) s.1, s.2 + sg minus (conR b)) := by
 have hm := ok.br b (List.mem_of_getElem? hb)
 exact hs.add minus (by rw [hn]; exact (busAt_ok ok hm.1).2.1) (by rw [hn]; exact (busAt_ok ok hm.2.1).2.1) (sus_qsz hm.2.2.2) (con_qsz hm.2.2.2)
end
section
open Go.ChangeShapes Go.WideShapes Go.ChangeAt Go.RowKit
attribute [local go_sem ↓] execOp_call_val
attribute [local go_sem] callVal_func setCell_drewN alloc_drewN sEq_walk
def rowR (x : Net) (q : List Rat) : List Rat := (freeL x).map (vf q)
end
section
open Go.ChangeShapes Go.WideShapes Go.ChangeAt Go.RowKit
attribute [local go_sem ↓] execOp_call_val
attribute [local go_sem] callVal_func setCell_drewN alloc_drewN sEq_walk
set_option maxRecDepth 100000 in
set_option maxHeartbeats 4000000 in
theorem formOf_any (h : NetH) (x : Net) (ok : NetOk x) (h8 : x.nodes.length ≤ 8) (g : Nat) (m : ModH) (y : Value) (mi : Mi) (w : World) (r : RdNet w w.heap.size h x) (hg : Blk w g 123 (m.cells y)) (hr : RdMod w w.heap.size m x) (h0 : mi.kind = 0 → 0 ≤ brIdx x mi.name) (h1 : mi.kind ≠ 0 → mi.name ∈ x.nodes) :
    Calls Tryz.prog 80 #[.agg h.cells, .pointer (some ⟨g, 0, none⟩), mi.val] w (FormP x mi w) := by
 have HN1 : Hid (busN x = m.n1) := Lib.hid (by rw [← islR_len ok]; exact hr.r1.len)
 have HX := Lib.hid r
 have HG := Lib.hid hg
 have HR := Lib.hid hr
 have H0 := Lib.hid h0
 have H1 := Lib.hid h1
 have HOK := Lib.hid ok
 have hnb : m.n1 ≤ 8 := by rw [← HN1.out]; exact Nat.le_trans (busN_ok ok).2 h8
 have HNB := Lib.hid hnb
 obtain ⟨kind, name, txt, wt⟩ := mi
 simp only [Mi.val]
 have Q0 : Below w.heap.size w ((((w.alloc (.cells h.cells 33)).alloc (.cells #[.pointer (some ⟨g, 0, none⟩)] 119)).alloc (.cells #[.int .i64 kind, .string name, .string txt, .int .i64 wt] 57)).alloc (.cells #[.slice none 0 0, .bool false, .slice none 0 0, .bool false, .slice none 0 0] 128)) := (((Below.alloc (Below.refl _ w) (Nat.le_refl _) _).alloc (by simp <;> omega) _).alloc (by simp <;> omega) _).alloc (by simp <;> omega) _
 have HW := Lib.hid Q0
 have P0 := Lib.hid (((Blk.new w 33 h.cells).alloc (.cells #[.pointer (some ⟨g, 0, none⟩)] 119)).alloc (.cells #[.int .i64 kind, .string name, .string txt, .int .i64 wt] 57) |>.alloc (.cells #[.slice none 0 0, .bool false, .slice none 0 0, .bool false, .slice none 0 0] 128))
 have P1 : Hid (Blk ((((w.alloc (.cells h.cells 33)).alloc (.cells #[.pointer (some ⟨g, 0, none⟩)] 119)).alloc (.cells #[.int .i64 kind, .string name, .string txt, .int .i64 wt] 57)).alloc (.cells #[.slice none 0 0, .bool false, .slice none 0 0, .bool false, .slice none 0 0] 128)) (w.heap.size + 1) 119 #[.pointer (some ⟨g, 0, none⟩)]) := Lib.hid (((Blk.new_ (by simp)).alloc _).alloc _)
 have P2 : Hid (Blk ((((w.alloc (.cells h.cells 33)).alloc (.cells #[.pointer (some ⟨g, 0, none⟩)] 119)).alloc (.cells #[.int .i64 kind, .string name, .string txt, .int .i64 wt] 57)).alloc (.cells #[.slice none 0 0, .bool false, .slice none 0 0, .bool false, .slice none 0 0] 128)) (w.heap.size + 1 + 1) 57 #[.int .i64 kind, .string name, .string txt, .int .i64 wt]) := Lib.hid ((Blk.new_ (by simp)).alloc _)
 have P3 : Hid (Blk ((((w.alloc (.cells h.cells 33)).alloc (.cells #[.pointer (some ⟨g, 0, none⟩)] 119)).alloc (.cells #[.int .i64 kind, .string name, .string txt, .int .i64 wt] 57)).alloc (.cells #[.slice none 0 0, .bool false, .slice none 0 0, .bool false, .slice none 0 0] 128)) (w.heap.size + 1 + 1 + 1) 128 #[.slice none 0 0, .bool false, .slice none 0 0, .bool false, .slice none 0 0]) := Lib.hid (Blk.new_ (by simp))
 clear r hg hr h0 h1 ok Q0 hnb
 obtain ⟨A0, n0, c0, A1, n1, c1, A2, n2, c2, A3, n3, c3, A4, n4, c4, A5, n5, c5, A6, n6, c6⟩ := m
 simp only [ModH.cells] at HG HN1 HNB
 go_enter Tryz.func80, Tryz.ntmps80
 go_upto_region 1 with fail
 have HSZ : Hid (((((w.alloc (.cells h.cells 33)).alloc (.cells #[.pointer (some ⟨g, 0, none⟩)] 119)).alloc (.cells #[.int .i64 kind, .string name, .string txt, .int .i64 wt] 57)).alloc (.cells #[.slice none 0 0, .bool false, .slice none 0 0, .bool false, .slice none 0 0] 128)).heap.size = w.heap.size + 1 + 1 + 1 + 1) := Lib.hid (by simp)
 generalize ((((w.alloc (.cells h.cells 33)).alloc (.cells #[.pointer (some ⟨g, 0, none⟩)] 119)).alloc (.cells #[.int .i64 kind, .string name, .string txt, .int .i64 wt] 57)).alloc (.cells #[.slice none 0 0, .bool false, .slice none 0 0, .bool false, .slice none 0 0] 128)) = wa at *
 have b0 := P1.out.cell 0
 have bl := P1.out.lt
 go_wp2_with fail
 refine (mbuses_any g ⟨A0, n0, c0, A1, n1, c1, A2, n2, c2, A3, n3, c3, A4, n4, c4, A5, n5, c5, A6, n6, c6⟩ y wa (HG.out.below HW.out HG.out.lt)).mono ?_
 rintro e w1 ⟨rfl, rfl⟩
 go_wp2_with fail
 refine (zeros_any n1 wa (by have := HNB.out; omega)).mono ?_
 rintro e w1 ⟨hb1, gc, v, rfl, hgc, hbc, hv⟩
 go_wp2_with fail
 refine (wholeV 0 w1 (by decide) (by decide)).mono ?_
 rintro e w2 ⟨hb2, u, rfl, hu⟩
 have HF0 := Lib.hid (form_made (gc := gc) (n := n1) (hbc.below hb2 hbc.lt) (hv.up hb2) hu)
 have HB2 := Lib.hid (HW.out.trans ((hb1.trans (hb2.mono hb1.size)).mono HW.out.size))
 have HBM := Lib.hid (below_mkF (w := w2) (gc := gc) (n := n1) (u := u))
 have HGC : Hid (wa.heap.size ≤ gc ∧ gc < w2.heap.size) := Lib.hid ⟨hgc, Nat.lt_of_lt_of_le hbc.lt hb2.size⟩
 have HS2 : Hid (wa.heap.size ≤ w2.heap.size) := Lib.hid (Nat.le_trans hb1.size hb2.size)
 have hz : Below wa.heap.size wa w2 := hb1.trans (hb2.mono hb1.size)
 replace P0 := Lib.hid (P0.out.below hz P0.out.lt)
 replace P1 := Lib.hid (P1.out.below hz P1.out.lt)
 replace P2 := Lib.hid (P2.out.below hz P2.out.lt)
 replace P3 := Lib.hid (P3.out.below hz P3.out.lt)
 clear hb1 hb2 hgc hbc hv hu hz b0 bl
 go_upto_region 2 with fail
 unfold mkF at HF0 HBM
 generalize hwb : w2.alloc (.cells #[.slice (some ⟨gc, 0, none⟩) n1 n1, .bool u.b1, .slice u.A u.n u.c, .bool u.b2, .slice u.A2 u.m u.d] 128) = wb at *
 clear hwb
 have HW3 := Lib.hid (HB2.out.trans (HBM.out.mono HB2.out.size))
 have EV : Hid (FEnv wb wa.heap.size (w.heap.size + 1) g ⟨A0, n0, c0, A1, n1, c1, A2, n2, c2, A3, n3, c3, A4, n4, c4, A5, n5, c5, A6, n6, c6⟩ y x w2.heap.size gc) := Lib.hid ⟨HS2.out, HGC.out.1, by have := HSZ.out; omega, by have := HSZ.out; have := HG.out.lt; omega, by have := HBM.out.size; have := HS2.out; omega, P1.out.below HBM.out P1.out.lt, HG.out.below HW3.out HG.out.lt, (HR.out.below HW3.out (Nat.le_refl _)).more (by have := HSZ.out; omega)⟩
 replace P0 := Lib.hid (P0.out.below HBM.out P0.out.lt)
 replace P2 := Lib.hid (P2.out.below HBM.out P2.out.lt)
 replace P3 := Lib.hid (P3.out.below HBM.out P3.out.lt)
 generalize hgf : w2.heap.size = gf at *
 have HGF : Hid (wa.heap.size ≤ gf) := Lib.hid (by have := HS2.out; omega)
 clear hgf HBM HB2 P1 HS2 HG
 have k0 := P2.out.cell 0
 have kl := P2.out.lt
 go_upto_if 19 with fail
 clear k0 kl
 obtain ⟨D0, r0, s0, D1, r1, s1, D2, r2, s2, D3, r3, s3, D4, r4, s4, D5, r5, s5⟩ := h
 by_cases hk : kind = 0
 ·subst hk
  have hbi := H0.out rfl
  rcases brIdx_spec x name with ⟨h1, _⟩ | ⟨i, b, h1, h2, h3⟩
  ·exact absurd (show 0 ≤ brIdx x name from hbi) (by omega)
  clear hbi h3
  have HBI := Lib.hid h1
  have HBR := Lib.hid h2
  clear h1 h2
  obtain ⟨y0, y1, y2, y3, y4, y5, nf, nlt⟩ := net_box (h := ⟨D0, r0, s0, D1, r1, s1, D2, r2, s2, D3, r3, s3, D4, r4, s4, D5, r5, s5⟩) P0.out
  dsimp only at y0 y1 y2 y3 y4 y5
  have k1 := P2.out.cell 1
  have kl := P2.out.lt
  go_wp2_with fail
  refine (mbranch_any ⟨D0, r0, s0, D1, r1, s1, D2, r2, s2, D3, r3, s3, D4, r4, s4, D5, r5, s5⟩ x name wb (HX.out.up HW3.out)).mono ?_
  rintro e w5 ⟨rfl, hb5⟩
  rw [HBI.out]
  go_wp2_with fail
  refine (addx_any (s := (zrs n1, 0)) (EV.out.oth (oth_below hb5)) (HF0.out.up hb5) (zrs_ok n1) (by decide) HN1.out.symm h8 HOK.out HBR.out false).mono ?_
  rintro e w6 ⟨rfl, ho, vs2, u2, hf⟩
  have HO : Hid (Oth gf gc wb w6) := Lib.hid ((oth_below hb5).trans ho)
  have HF := Lib.hid hf
  clear hb5 ho hf k1 kl
  clear y0 y1 y2 y3 y4 y5 nf nlt
  have HFE : Hid (formR x ⟨0, name, txt, wt⟩ = (addF (sg false (susR b)) (busAt x b.fr) (busAt x b.to) (zrs n1), 0 + sg false (conR b))) := Lib.hid (by
   obtain ⟨a1, a2, a3, a4⟩ := mFrom_at HBR.out
   unfold formR
   rw [if_pos rfl]
   simp only [HBI.out, Int.toNat_natCast, HN1.out, List.getD_eq_getElem?_getD, vf, a1, a2, a3, a4]
   rfl)
  have HQL : Hid ((addF (sg false (susR b)) (busAt x b.fr) (busAt x b.to) (zrs n1)).length = n1) := Lib.hid (by rw [addF_len]; simp [zrs])
  have HL : Hid (Below w.heap.size w w6) := Lib.hid (HW3.out.trans (HO.out.below (by have := HSZ.out; have := HGF.out; omega) (by have := HSZ.out; have := HGC.out.1; omega) HW3.out.size))
  have P3b : Hid (Blk w6 (w.heap.size + 1 + 1 + 1) 128 #[.slice none 0 0, .bool false, .slice none 0 0, .bool false, .slice none 0 0]) := Lib.hid (HO.out.blk P3.out (by have := HSZ.out; have := HGF.out; omega) (by have := HSZ.out; have := HGC.out.1; omega))
  have HPC : Hid (gc ≠ w.heap.size + 1 + 1 + 1) := Lib.hid (by have := HSZ.out; have := HGC.out.1; omega)
  have q0 := HF.out.blk.cell 0
  have q1 := HF.out.blk.cell 1
  have q2 := HF.out.blk.cell 2
  have q3 := HF.out.blk.cell 3
  have q4 := HF.out.blk.cell 4
  rw [HQL.out] at q0
  have z0 := P3b.out.cell 0
  have z1 := P3b.out.cell 1
  have z2 := P3b.out.cell 2
  have z3 := P3b.out.cell 3
  have z4 := P3b.out.cell 4
  have ql := HF.out.blk.lt
  have zl := P3b.out.lt
  have zf := P3b.out.frozen
  go_wp2_with fail
  have HPB := Lib.hid (put5_blk (gc := gc) (n := n1) (u := u2) P3b.out)
  clear q0 z0 q1 z1 q2 z2 q3 z3 q4 z4 ql zl zf
  have p0 := HPB.out.cell 0
  have p1 := HPB.out.cell 1
  have p2 := HPB.out.cell 2
  have p3 := HPB.out.cell 3
  have p4 := HPB.out.cell 4
  unfold put5 at p0 p1 p2 p3 p4
  refine bodyPost_ret (v := .agg #[.slice (some ⟨gc, 0, none⟩) n1 n1, .bool u2.b1, .slice u2.A u2.n u2.c, .bool u2.b2, .slice u2.A2 u2.m u2.d]) (by simp [results, Tryz.results80, go_sem, p0, p1, p2, p3, p4]) rfl ?_
  refine ⟨below_put5 (gc := gc) (n := n1) (u := u2) HL.out (by omega), gc, u2, by rw [HN1.out], ?_, ?_⟩
  ·have h := HF.out.rdq P3b.out HPC.out (n := n1) (y := u2)
   rw [HN1.out, HFE.out]
   rw [HQL.out] at h
   exact h
  ·rw [HFE.out]
   exact HF.out.val.keep5 P3b.out (gc := gc) (n := n1) (u := u2)
 ·have hkB : (kind == 0) = false := by simp [hk]
  rw [hkB]
  have hm := H1.out hk
  obtain ⟨ha1, ha2, ha3⟩ := busAt_ok HOK.out hm
  obtain ⟨hi1, hi2⟩ := ndIdx_ok hm
  have HA : Hid (∀ N, Calls Tryz.prog 100 #[.slice D0 r0 s0, .string name] (wb.drewN N) fun e w' => e = .returned (.int .i64 (ndIdx x.nodes name : Int)) ∧ w' = wb.drewN N) := Lib.hid fun N => by
   have hx := HX.out.up (below_drewN HW3.out N)
   exact (index_str _ _ s0 x.nodes name _ hx.r0 hx.m0).mono fun e w' ⟨he, hw⟩ => ⟨by rw [he, hi1], hw.symm⟩
  have HBN : Hid (busAt x name < n1) := Lib.hid (by rw [← HN1.out]; exact ha2)
  have hr0 := EV.out.rd.r0
  simp only at hr0
  have hr1 := hr0.2 (by have := hr0.len; omega)
  obtain ⟨tb, to2, hA, htb, -⟩ := hr1
  subst hA
  have f0 := hr0.at_ (i := ndIdx x.nodes name) (z := (busAt x name : Int)) (by rw [List.getD_eq_getElem?_getD] at ha1; rw [List.getElem?_eq_getElem ha3] at ha1 ⊢; simpa using ha1)
  have hiI : ((ndIdx x.nodes name : Nat) : Int) < (n0 : Int) := by have := hr0.len; omega
  have hi0 : (0 : Int) ≤ ((ndIdx x.nodes name : Nat) : Int) := by omega
  have hin : ((ndIdx x.nodes name : Nat) : Int).toNat = ndIdx x.nodes name := Int.toNat_natCast _
  have htl : tb < wb.heap.size := Nat.lt_of_lt_of_le htb EV.out.hs
  obtain ⟨y0, y1, y2, y3, y4, y5, nf, nlt⟩ := net_box (h := ⟨D0, r0, s0, D1, r1, s1, D2, r2, s2, D3, r3, s3, D4, r4, s4, D5, r5, s5⟩) P0.out
  dsimp only at y0 y1 y2 y3 y4 y5
  have k1 := P2.out.cell 1
  have k0 := P2.out.cell 0
  have kl := P2.out.lt
  have b0 := EV.out.box.cell 0
  have bl := EV.out.box.lt
  have g0 : wb.cell? ⟨g, 0, none⟩ = some (.slice (some ⟨tb, to2, none⟩) n0 c0) := EV.out.md.cell 0
  have gl := EV.out.md.lt
  clear hi1 hi2 ha1 ha2 ha3 hm hr0 htb
  generalize ndIdx x.nodes name = ia at *
  generalize hK : busAt x name = bus at *
  have HBUS := Lib.hid hK
  clear hK
  go_wp2_with fail
  go_quiet ((go_at_call_of 100 (Value.string name); exact (HA.out _).mono (fun _ _ hh => ⟨hh.1, _, hh.2⟩)))
  have hd := below_drewN (Below.refl wb.heap.size wb) nq
  replace EV := Lib.hid (EV.out.oth (oth_below hd))
  replace HF0 := Lib.hid (HF0.out.up hd)
  replace P2 := Lib.hid (P2.out.below hd P2.out.lt)
  replace P3 := Lib.hid (P3.out.below hd P3.out.lt)
  replace HW3 := Lib.hid (below_drewN HW3.out nq)
  clear y0 y1 y2 y3 y4 y5 nf nlt
  clear hd k0 k1 kl b0 bl g0 gl f0 HA hiI hi0 hin htl hkB P0 HX
  generalize wb.drewN nq = wd at *
  have k0 := P2.out.cell 0
  have kl := P2.out.lt
  have HZL : Hid ((zrs n1).length = n1) := Lib.hid (by simp [zrs])
  by_cases hk2 : kind = 2
  ·subst hk2
   obtain ⟨xe, hx, c0, c1, c2', c3', hv, l1, f1⟩ := HF0.out.elem (j := bus) (by rw [HZL.out]; exact HBN.out)
   have HXX := Lib.hid hx
   have q0 := HF0.out.blk.cell 0
   rw [HZL.out] at q0
   have ql := HF0.out.blk.lt
   have hixI : (bus : Int) < (n1 : Int) := by have := HBN.out; omega
   have hix0 : (0 : Int) ≤ (bus : Int) := by omega
   have hixn : (bus : Int).toNat = bus := Int.toNat_natCast bus
   have HB4 := Lib.hid (below_drew (Below.refl wd.heap.size wd))
   clear hx hv
   go_upto_region 8 with fail
   clear k0 kl
   refine wp_region_last (S := fun w' => Below wd.heap.size wd w') 5 _ (by kernel_rfl) (by kernel_rfl) rfl (below_drew (Below.refl _ _)) (fun hHeld => ?_)
   simp only [List.take_succ_cons, List.take_zero]
   refine tkH 0 rfl (by intro w' _ hcc; go_simp <;> with_reducible rfl) hHeld ?_
   try simp only [Act.put, sA_, sB_, sC_]
   refine tkH 1 rfl (by intro w' _ hcc; go_simp <;> with_reducible rfl) hHeld ?_
   try simp only [Act.put, sA_, sB_, sC_]
   refine tkH 2 rfl (by intro w' _ hcc; go_simp <;> with_reducible rfl) hHeld ?_
   try simp only [Act.put, sA_, sB_, sC_]
   refine stepH 3 (by kernel_rfl) rfl (fun K hK => ?_)
   go_simp
   refine (wholeV 1 wd.drew (by decide) (by decide)).mono ?_
   rintro e w8 ⟨hb8, v8, rfl, h8⟩
   have HB8 : Hid (Below wd.heap.size wd w8) := Lib.hid (HB4.out.trans (hb8.mono HB4.out.size))
   have H8 : Hid (RtV w8 w8.heap.size 1 v8) := Lib.hid h8
   clear hb8 h8
   go_simp
   refine hK.out _ _ ?_ (fun hHeld => ?_)
   ·exact HB8.out
   clear hK K
   try simp only [Act.put, sA_, sB_, sC_]
   refine tkH 4 rfl (by intro w' _ hcc; go_simp <;> with_reducible rfl) hHeld ?_
   try simp only [Act.put, sA_, sB_, sC_]
   refine wpAnyH_done (by kernel_rfl) ?_ _
   refine lastQ_go (by rfl) ?_
   clear hHeld
   have HF8 := Lib.hid (HF0.out.up HB8.out)
   have HO8 : Hid (Oth gf gc wd w8) := Lib.hid (oth_below HB8.out)
   clear c0 c1 c2' c3' l1 f1 q0 ql HF0 HB4 HB8
   obtain ⟨c0, c1, c2', c3', l1, f1⟩ := HF8.out.elem2 HXX.out
   go_upto_region 9 with fail
   clear c0 c1 c2' c3' l1 f1
   have HF := Lib.hid (HF8.out.put (j := bus) (by rw [HZL.out]; exact HBN.out) H8.out)
   have HO : Hid (Oth gf gc wd (putV w8 gc bus v8)) := Lib.hid (HO8.out.trans oth_putV)
   clear HF8 HO8 H8 HXX hixI hix0 hixn
   simp only [putV] at HF HO
   generalize (((w8.setCell ⟨gc, bus * 4, none⟩ _).setCell ⟨gc, bus * 4 + 1, none⟩ _).setCell ⟨gc, bus * 4 + 2, none⟩ _).setCell ⟨gc, bus * 4 + 3, none⟩ _ = we at *
   replace HW3 := Lib.hid HW3.out
   have HFE : Hid (formR x ⟨2, name, txt, wt⟩ = ((zrs n1).set bus 1, 0)) := Lib.hid (by unfold formR; rw [if_neg (show ¬ (2 : Int) = 0 by decide), if_pos rfl, HN1.out]; simp only [HBUS.out])
   have HQL : Hid (((zrs n1).set bus 1).length = n1) := Lib.hid (by rw [List.length_set]; exact HZL.out)
   have HL : Hid (Below w.heap.size w we) := Lib.hid (HW3.out.trans (HO.out.below (by have := HSZ.out; have := HGF.out; omega) (by have := HSZ.out; have := HGC.out.1; omega) HW3.out.size))
   have P3b : Hid (Blk we (w.heap.size + 1 + 1 + 1) 128 #[.slice none 0 0, .bool false, .slice none 0 0, .bool false, .slice none 0 0]) := Lib.hid (HO.out.blk P3.out (by have := HSZ.out; have := HGF.out; omega) (by have := HSZ.out; have := HGC.out.1; omega))
   have HPC : Hid (gc ≠ w.heap.size + 1 + 1 + 1) := Lib.hid (by have := HSZ.out; have := HGC.out.1; omega)
   have q0 := HF.out.blk.cell 0
   have q1 := HF.out.blk.cell 1
   have q2 := HF.out.blk.cell 2
   have q3 := HF.out.blk.cell 3
   have q4 := HF.out.blk.cell 4
   rw [HQL.out] at q0
   have z0 := P3b.out.cell 0
   have z1 := P3b.out.cell 1
   have z2 := P3b.out.cell 2
   have z3 := P3b.out.cell 3
   have z4 := P3b.out.cell 4
   have ql := HF.out.blk.lt
   have zl := P3b.out.lt
   have zf := P3b.out.frozen
   go_wp2_with fail
   have HPB := Lib.hid (put5_blk (gc := gc) (n := n1) (u := u) P3b.out)
   clear q0 z0 q1 z1 q2 z2 q3 z3 q4 z4 ql zl zf
   have p0 := HPB.out.cell 0
   have p1 := HPB.out.cell 1
   have p2 := HPB.out.cell 2
   have p3 := HPB.out.cell 3
   have p4 := HPB.out.cell 4
   unfold put5 at p0 p1 p2 p3 p4
   refine bodyPost_ret (v := .agg #[.slice (some ⟨gc, 0, none⟩) n1 n1, .bool u.b1, .slice u.A u.n u.c, .bool u.b2, .slice u.A2 u.m u.d]) (by simp [results, Tryz.results80, go_sem, p0, p1, p2, p3, p4]) rfl ?_
   refine ⟨below_put5 (gc := gc) (n := n1) (u := u) HL.out (by omega), gc, u, by rw [HN1.out], ?_, ?_⟩
   ·have h := HF.out.rdq P3b.out HPC.out (n := n1) (y := u)
    rw [HN1.out, HFE.out]
    rw [HQL.out] at h
    exact h
   ·rw [HFE.out]
    exact HF.out.val.keep5 P3b.out (gc := gc) (n := n1) (u := u)
  ·have hkB2 : (kind == 2) = false := by simp [hk2]
   have b0 := EV.out.box.cell 0
   have bl := EV.out.box.lt
   have g4 : wd.cell? ⟨g, 4, none⟩ = some (.slice A4 n4 c4) := EV.out.md.cell 4
   have gl := EV.out.md.lt
   have HFE : Hid (formR x ⟨kind, name, txt, wt⟩ = injGo bus (mB x) (mC x) (mFrom x) (mTo x) (zrs n1, 0)) := Lib.hid (by unfold formR; rw [if_neg (show ¬ kind = 0 from hk), if_neg (show ¬ kind = 2 from hk2), HN1.out]; simp only [HBUS.out])
   generalize hRR : injGo bus (mB x) (mC x) (mFrom x) (mTo x) (zrs n1, 0) = RR at *
   have HRR := Lib.hid hRR
   clear hRR
   have HN4 : Hid (x.brs.length = n4) := Lib.hid (by rw [← mB_len]; exact EV.out.rd.r4.len)
   have HN2 : Hid (x.brs.length = n2) := Lib.hid (by rw [← mFrom_len, ← natJ_len]; exact EV.out.rd.r2.len)
   have HN3 : Hid (x.brs.length = n3) := Lib.hid (by rw [← mTo_len, ← natJ_len]; exact EV.out.rd.r3.len)
   have hn4 : n4 ≤ 24 := by have := HOK.out.l2; have := HN4.out; omega
   go_wp2_with fail
   clear k0 kl hkB2 b0 bl g4 gl
   go_loopw [53] (fun v53 wr => ∃ (k : Nat) (vs : List Rv) (u2 : Rv) (s : List Rat × Rat), k ≤ n4 ∧ v53 = .int .i64 k ∧ Oth gf gc wd wr ∧ FmS wr gf gc vs u2 s.1 s.2 ∧ FOk n1 (2 + 12 * k) s ∧ injGo bus ((mB x).drop k) ((mC x).drop k) ((mFrom x).drop k) ((mTo x).drop k) s = RR) (fun v53 _ => n4 - (intOf v53).toNat)
   case atStart => exact ⟨0, _, _, (zrs n1, 0), by omega, rfl, oth_below (Below.refl _ _), HF0.out, zrs_ok n1, HRR.out⟩
   case round =>
    clear HF0 HRR
    obtain ⟨k, vs, u2, s, hk, rfl, ho, hf, hok, hgo⟩ := hrel
    have HO := Lib.hid ho
    have HF := Lib.hid hf
    have HFK := Lib.hid hok
    have HGO := Lib.hid hgo
    clear ho hf hok hgo
    by_cases hlt : k < n4
    ·obtain ⟨b, hb⟩ : ∃ b, x.brs[k]? = some b := ⟨_, List.getElem?_eq_getElem (by have := HN4.out; omega)⟩
     have HBR := Lib.hid hb
     obtain ⟨a1, a2, a3, a4⟩ := mFrom_at hb
     have HST := Lib.hid ((injGo_cons (s := s) (bus := bus) a3 a4 a1 a2).symm.trans HGO.out)
     have HFR := Lib.hid a1
     have HTO := Lib.hid a2
     clear hb a1 a2 a3 a4 HGO
     have hkI : (k : Int) < (n4 : Int) := by omega
     have hk2I : (k : Int) < (n2 : Int) := by have := HN2.out; have := HN4.out; omega
     have hk3I : (k : Int) < (n3 : Int) := by have := HN3.out; have := HN4.out; omega
     have hk0 : (0 : Int) ≤ (k : Int) := by omega
     have hkn : (k : Int).toNat = k := Int.toNat_natCast k
     have HNX : Hid ((k : Int) + 1 = ((k + 1 : Nat) : Int)) := Lib.hid (by omega)
     have HNM : Hid (n4 - (k + 1) < n4 - k) := Lib.hid (by omega)
     have HK6 : Hid (2 + 12 * k + 6 ≤ 1000000) := Lib.hid (by omega)
     generalize hbu : busAt x b.fr = bu at *
     generalize hbv : busAt x b.to = bv at *
     have HBU := Lib.hid hbu
     have HBV := Lib.hid hbv
     clear hbu hbv
     have HE := Lib.hid (EV.out.oth HO.out)
     have hrI := HE.out.rd.r2
     simp only at hrI
     have hrI2 := hrI.2 (by have := HN2.out; have := HN4.out; omega)
     obtain ⟨fb2, fo2, hA, hfb, -⟩ := hrI2
     subst hA
     have f0 := hrI.at_ (natJ_at HFR.out)
     have hfl : fb2 < wr.heap.size := Nat.lt_of_lt_of_le hfb HE.out.hs
     have b0 := HE.out.box.cell 0
     have bl := HE.out.box.lt
     have g0 : wr.cell? ⟨g, 2, none⟩ = some (.slice (some ⟨fb2, fo2, none⟩) n2 c2) := HE.out.md.cell 2
     have gl := HE.out.md.lt
     clear hrI hfb
     unfold injStep at HST
     dsimp only at HST
     by_cases hu : bu = bus
     ·have huB : ((bu : Int) == (bus : Int)) = true := by simp [hu]
      rw [if_pos hu] at HST
      go_wp2_with fail
      refine (addx_any (s := s) HE.out HF.out HFK.out (by have := HK6.out; omega) HN1.out.symm h8 HOK.out HBR.out false).mono ?_
      rintro e w7 ⟨rfl, ho7, vs7, u7, hf7⟩
      rw [HBU.out, HBV.out] at hf7
      replace HFK := Lib.hid (addx_ok HOK.out (s := s) HFK.out HN1.out.symm HBR.out false)
      rw [HBU.out, HBV.out] at HFK
      replace HO := Lib.hid (HO.out.trans ho7)
      replace HF := Lib.hid hf7
      clear ho7 hf7 huB
      clear f0 hfl b0 bl g0 gl HE
      have HE := Lib.hid (EV.out.oth HO.out)
      have hrI := HE.out.rd.r3
      simp only at hrI
      have hrI2 := hrI.2 (by have := HN3.out; have := HN4.out; omega)
      obtain ⟨fb3, fo3, hA, hfb, -⟩ := hrI2
      subst hA
      have f0 := hrI.at_ (natJ_at HTO.out)
      have hfl : fb3 < w7.heap.size := Nat.lt_of_lt_of_le hfb HE.out.hs
      have b0 := HE.out.box.cell 0
      have bl := HE.out.box.lt
      have g0 : w7.cell? ⟨g, 3, none⟩ = some (.slice (some ⟨fb3, fo3, none⟩) n3 c3) := HE.out.md.cell 3
      have gl := HE.out.md.lt
      clear hrI hfb
      by_cases hv : bv = bus
      ·have hvB : ((bv : Int) == (bus : Int)) = true := by simp [hv]
       go_wp2_with fail
       refine (addx_any (s := (addF (sg false (susR b)) bu bv s.1, s.2 + sg false (conR b))) HE.out HF.out HFK.out (by have := HK6.out; omega) HN1.out.symm h8 HOK.out HBR.out true).mono ?_
       rintro e w9 ⟨rfl, ho9, vs9, u9, hf9⟩
       rw [HBU.out, HBV.out] at hf9
       have HFK9 := Lib.hid (addx_ok HOK.out (s := (addF (sg false (susR b)) bu bv s.1, s.2 + sg false (conR b))) HFK.out HN1.out.symm HBR.out true)
       rw [HBU.out, HBV.out] at HFK9
       have HO9 := Lib.hid (HO.out.trans ho9)
       have HF9 := Lib.hid hf9
       clear ho9 hf9 f0 hfl b0 bl g0 gl
       rw [if_pos hv] at HST
       go_wp2_with fail
       go_roundw
       case rel => exact ⟨k + 1, _, _, _, hlt, val_int HNX.out, HO9.out, HF9.out, HFK9.out.mono (by omega), HST.out⟩
       case measure => exact HNM.out
      ·have hvB : ((bv : Int) == (bus : Int)) = false := by simp; omega
       rw [if_neg hv] at HST
       go_wp2_with fail
       go_roundw
       case rel => exact ⟨k + 1, _, _, _, hlt, val_int HNX.out, HO.out, HF.out, HFK.out.mono (by omega), HST.out⟩
       case measure => exact HNM.out
     ·have huB : ((bu : Int) == (bus : Int)) = false := by simp; omega
      rw [if_neg hu] at HST
      go_upto_region 15 with fail
      clear huB
      clear f0 hfl b0 bl g0 gl HE
      have HE := Lib.hid (EV.out.oth HO.out)
      have hrI := HE.out.rd.r3
      simp only at hrI
      have hrI2 := hrI.2 (by have := HN3.out; have := HN4.out; omega)
      obtain ⟨fb3, fo3, hA, hfb, -⟩ := hrI2
      subst hA
      have f0 := hrI.at_ (natJ_at HTO.out)
      have hfl : fb3 < wr.heap.size := Nat.lt_of_lt_of_le hfb HE.out.hs
      have b0 := HE.out.box.cell 0
      have bl := HE.out.box.lt
      have g0 : wr.cell? ⟨g, 3, none⟩ = some (.slice (some ⟨fb3, fo3, none⟩) n3 c3) := HE.out.md.cell 3
      have gl := HE.out.md.lt
      clear hrI hfb
      by_cases hv : bv = bus
      ·have hvB : ((bv : Int) == (bus : Int)) = true := by simp [hv]
       go_wp2_with fail
       refine (addx_any (s := s) HE.out HF.out HFK.out (by have := HK6.out; omega) HN1.out.symm h8 HOK.out HBR.out true).mono ?_
       rintro e w9 ⟨rfl, ho9, vs9, u9, hf9⟩
       rw [HBU.out, HBV.out] at hf9
       have HFK9 := Lib.hid (addx_ok HOK.out (s := s) HFK.out HN1.out.symm HBR.out true)
       rw [HBU.out, HBV.out] at HFK9
       have HO9 := Lib.hid (HO.out.trans ho9)
       have HF9 := Lib.hid hf9
       clear ho9 hf9 f0 hfl b0 bl g0 gl
       rw [if_pos hv] at HST
       go_wp2_with fail
       go_roundw
       case rel => exact ⟨k + 1, _, _, _, hlt, val_int HNX.out, HO9.out, HF9.out, HFK9.out.mono (by omega), HST.out⟩
       case measure => exact HNM.out
      ·have hvB : ((bv : Int) == (bus : Int)) = false := by simp; omega
       rw [if_neg hv] at HST
       go_wp2_with fail
       go_roundw
       case rel => exact ⟨k + 1, _, _, _, hlt, val_int HNX.out, HO.out, HF.out, HFK.out.mono (by omega), HST.out⟩
       case measure => exact HNM.out
    ·have hke : k = n4 := by omega
     have HS : Hid (s = RR) := Lib.hid (by have h := HGO.out; rw [List.drop_eq_nil_of_le (by rw [mB_len]; have := HN4.out; omega)] at h; exact h)
     have HQL : Hid (s.1.length = n1) := Lib.hid HFK.out.len
     replace HFE : Hid (formR x ⟨kind, name, txt, wt⟩ = (s.1, s.2)) := Lib.hid (by rw [HFE.out, ← HS.out])
     have hkI : ¬ (k : Int) < (n4 : Int) := by omega
     clear HGO HS hke hlt hk
     have HL : Hid (Below w.heap.size w wr) := Lib.hid (HW3.out.trans (HO.out.below (by have := HSZ.out; have := HGF.out; omega) (by have := HSZ.out; have := HGC.out.1; omega) HW3.out.size))
     have P3b : Hid (Blk wr (w.heap.size + 1 + 1 + 1) 128 #[.slice none 0 0, .bool false, .slice none 0 0, .bool false, .slice none 0 0]) := Lib.hid (HO.out.blk P3.out (by have := HSZ.out; have := HGF.out; omega) (by have := HSZ.out; have := HGC.out.1; omega))
     have HPC : Hid (gc ≠ w.heap.size + 1 + 1 + 1) := Lib.hid (by have := HSZ.out; have := HGC.out.1; omega)
     have q0 := HF.out.blk.cell 0
     have q1 := HF.out.blk.cell 1
     have q2 := HF.out.blk.cell 2
     have q3 := HF.out.blk.cell 3
     have q4 := HF.out.blk.cell 4
     rw [HQL.out] at q0
     have z0 := P3b.out.cell 0
     have z1 := P3b.out.cell 1
     have z2 := P3b.out.cell 2
     have z3 := P3b.out.cell 3
     have z4 := P3b.out.cell 4
     have ql := HF.out.blk.lt
     have zl := P3b.out.lt
     have zf := P3b.out.frozen
     go_wp2_with fail
     have HPB := Lib.hid (put5_blk (gc := gc) (n := n1) (u := u2) P3b.out)
     clear q0 z0 q1 z1 q2 z2 q3 z3 q4 z4 ql zl zf
     have p0 := HPB.out.cell 0
     have p1 := HPB.out.cell 1
     have p2 := HPB.out.cell 2
     have p3 := HPB.out.cell 3
     have p4 := HPB.out.cell 4
     unfold put5 at p0 p1 p2 p3 p4
     refine bodyPost_ret (v := .agg #[.slice (some ⟨gc, 0, none⟩) n1 n1, .bool u2.b1, .slice u2.A u2.n u2.c, .bool u2.b2, .slice u2.A2 u2.m u2.d]) (by simp [results, Tryz.results80, go_sem, p0, p1, p2, p3, p4]) rfl ?_
     refine ⟨below_put5 (gc := gc) (n := n1) (u := u2) HL.out (by omega), gc, u2, by rw [HN1.out], ?_, ?_⟩
     ·have h := HF.out.rdq P3b.out HPC.out (n := n1) (y := u2)
      rw [HN1.out, HFE.out]
      rw [HQL.out] at h
      exact h
     ·rw [HFE.out]
      exact HF.out.val.keep5 P3b.out (gc := gc) (n := n1) (u := u2)
end
section
open Go.ChangeShapes Go.WideShapes Go.ChangeAt Go.RowKit
attribute [local go_sem ↓] execOp_call_val
attribute [local go_sem] callVal_func setCell_drewN alloc_drewN sEq_walk
structure RowsS (w : World) (base : Nat) (v : Value) (hs : List Hd) (M : List (List Rat)) : Prop where
 own : OwnS NoI w base 103 1 v hs.length (hs.map Hd.val)
 len : hs.length = M.length
 rows : ∀ (i : Nat) (h : Hd) (q : List Rat), hs[i]? = some h → M[i]? = some q → ∃ B us, OwnQ w B h.val us q
theorem OwnQ.blkS {w w' : World} {B b : Nat} {v : Value} {us : List Rv} {q : List Rat} (h : OwnQ w B v us q) (k : Keeps NoI b 103 w w') : OwnQ w' B v us q := ⟨h.own.blk k (by decide), h.len, fun i p x hp hx => (h.ok i p x hp hx).keeps k⟩
theorem RowsS.keep {w w' : World} {base : Nat} {v : Value} {hs : List Hd} {M : List (List Rat)} (m : RowsS w base v hs M) (hb : Below w.heap.size w w') : RowsS w' base v hs M := ⟨m.own.keep hb, m.len, fun i h q hh hq => by
 obtain ⟨B, us, k⟩ := m.rows i h q hh hq
 exact ⟨B, us, k.keep hb⟩⟩
theorem RowsS.app {w w' : World} {base B : Nat} {v v' : Value} {hs : List Hd} {M : List (List Rat)} {z : Hd} {us : List Rv} {p : List Rat} (m : RowsS w base v hs M) (hp : OwnQ w B z.val us p) (h1 : OwnS NoI w' base 103 1 v' (hs.length + 1) (hs.map Hd.val ++ [z.val])) (k : Keeps NoI base 103 w w') : RowsS w' base v' (hs ++ [z]) (M ++ [p]) := by
 refine ⟨by rw [List.length_append, List.length_singleton, List.map_append]; exact h1, by rw [List.length_append, List.length_append, m.len]; rfl, fun i h q hh hq => ?_⟩
 by_cases hi : i < M.length
 ·rw [List.getElem?_append_left hi] at hq
  rw [List.getElem?_append_left (by rw [m.len]; exact hi)] at hh
  obtain ⟨B, us, r⟩ := m.rows i h q hh hq
  exact ⟨B, us, r.blkS k⟩
 ·rw [List.getElem?_append_right (by omega)] at hq
  rw [List.getElem?_append_right (by rw [m.len]; omega), m.len] at hh
  have hi2 := (List.getElem?_eq_some_iff.1 hq).1
  rw [List.length_singleton] at hi2
  have : i - M.length = 0 := by omega
  rw [this] at hq hh
  simp at hq hh
  subst hq; subst hh
  exact ⟨B, us, hp.blkS k⟩
theorem RowsS.rd {w : World} {base : Nat} {v : Value} {hs : List Hd} {M : List (List Rat)} (m : RowsS w base v hs M) : ∃ A c, v = .slice A M.length c ∧ RdM w w.heap.size A M.length M ∧ M.length ≤ c ∧ c ≤ maxLen := by
 obtain ⟨A, c, hv, hr, h1, h2, h3⟩ := own_rd m.own.own
 rw [m.len] at hv hr h1
 refine ⟨A, c, hv, ⟨hs, m.len, rfl, hr, fun i h q hh hq => ?_⟩, h1, h2⟩
 obtain ⟨B, us, k⟩ := m.rows i h q hh hq
 obtain ⟨A', c', e, r, k1, k2, _⟩ := k.rd
 unfold Hd.val at e
 injection e with e1 e2 e3
 rw [e1, e2, e3]
 exact ⟨r, k1, k2⟩
def rowsR (x : Net) (ms : List Mi) : List (List Rat) := ms.map fun m => rowR x (formR x m).1
def MiOk (x : Net) (m : Mi) : Prop := (m.kind = 0 → 0 ≤ brIdx x m.name) ∧ (m.kind ≠ 0 → m.name ∈ x.nodes)
end
section
open Go.ChangeShapes Go.WideShapes Go.ChangeAt Go.RowKit
attribute [local go_sem ↓] execOp_call_val
attribute [local go_sem] callVal_func setCell_drewN alloc_drewN sEq_walk
theorem injStep_ok {x : Net} (ok : NetOk x) {n K bus : Nat} {s : List Rat × Rat} (hs : FOk n K s) (hn : n = busN x) {b : Br} (hb : b ∈ x.brs) : FOk n (K + 12) (injStep bus (busAt x b.fr) (busAt x b.to) (susR b) (conR b) s) := by
 obtain ⟨k, hk⟩ := List.getElem?_of_mem hb
 unfold injStep
 dsimp only
 have h1 : FOk n (K + 6) (if busAt x b.fr = bus then (addF (sg false (susR b)) (busAt x b.fr) (busAt x b.to) s.1, s.2 + sg false (conR b)) else s) := by
  split
  ·exact addx_ok ok hs hn hk false
  ·exact hs.mono (by omega)
 split
 ·exact addx_ok ok h1 hn hk true
 ·exact h1.mono (by omega)
theorem injGo_ok {x : Net} (ok : NetOk x) {n bus : Nat} (hn : n = busN x) : ∀ (bs : List Br) (K : Nat) (s : List Rat × Rat), (∀ b ∈ bs, b ∈ x.brs) → FOk n K s → FOk n (K + 12 * bs.length) (injGo bus (bs.map susR) (bs.map conR) (bs.map fun b => busAt x b.fr) (bs.map fun b => busAt x b.to) s)
 | [], K, s, _, hs => hs
 | b :: bs, K, s, h, hs => by
  have h1 := injGo_ok ok (bus := bus) hn bs (K + 12) _ (fun a ha => h a (List.mem_cons_of_mem _ ha)) (injStep_ok ok (bus := bus) hs hn (h b List.mem_cons_self))
  refine FOk.mono (K := K + 12 + 12 * bs.length) h1 ?_
  rw [List.length_cons]; omega
theorem formR_ok {x : Net} (ok : NetOk x) {m : Mi} (hm : MiOk x m) : FOk (busN x) 300 (formR x m) := by
 have hz := zrs_ok (busN x)
 have hl := ok.l2
 unfold formR
 split
 ·rename_i h0
  have h1 := hm.1 h0
  rcases brIdx_spec x m.name with ⟨e, _⟩ | ⟨i, b, e, hb, _⟩
  ·omega
  ·obtain ⟨a1, a2, a3, a4⟩ := mFrom_at hb
   have h2 := addx_ok ok hz rfl hb false
   simp only [e, Int.toNat_natCast, List.getD_eq_getElem?_getD, vf, a1, a2, a3, a4]
   exact h2.mono (by omega)
 ·split
  ·rename_i h0 h2
   have hq : qsz (1 : Rat) ≤ 2 := qsz_whole 1 (by decide) (by decide)
   refine ⟨by rw [List.length_set]; exact hz.len, fun p hp => ?_, Nat.le_trans hz.fr (by decide)⟩
   rcases List.mem_or_eq_of_mem_set hp with e | e
   ·exact Nat.le_trans (hz.cf p e) (by decide)
   ·rw [e]; exact Nat.le_trans hq (by decide)
  ·have h := injGo_ok ok (bus := busAt x m.name) rfl x.brs 2 _ (fun b hb => hb) hz
   have e1 : mFrom x = x.brs.map fun b => busAt x b.fr := by unfold mFrom brE; rw [List.map_map]; rfl
   have e2 : mTo x = x.brs.map fun b => busAt x b.to := by unfold mTo brE; rw [List.map_map]; rfl
   rw [e1, e2]
   exact h.mono (by omega)
end
section
open Go.ChangeShapes Go.WideShapes Go.ChangeAt Go.RowKit
def cutAtK {α : Type} (l : List α) (k : Nat) : List α := l.take k ++ l.drop (k + 1)
theorem cutAtK_get {α : Type} {l : List α} {k i : Nat} : (cutAtK l k)[i]? = if i < k then l[i]? else if k < l.length then l[i + 1]? else none := by
 unfold cutAtK
 by_cases h : i < k
 ·rw [if_pos h]
  by_cases hi : i < l.length
  ·rw [List.getElem?_append_left (by rw [List.length_take]; omega), List.getElem?_take_of_lt h]
  ·rw [List.getElem?_eq_none (by rw [List.length_append, List.length_take, List.length_drop]; omega), List.getElem?_eq_none (by omega)]
 ·rw [if_neg h]
  split
  ·rename_i hk
   rw [List.getElem?_append_right (by rw [List.length_take]; omega), List.length_take, List.getElem?_drop]
   congr 1
   omega
  ·rename_i hk
   exact List.getElem?_eq_none (by rw [List.length_append, List.length_take, List.length_drop]; omega)
end
section
open Go.ChangeShapes Go.WideShapes Go.ChangeAt Go.RowKit
attribute [local go_sem ↓] execOp_call_val
attribute [local go_sem] callVal_func setCell_drewN alloc_drewN sEq_walk
theorem mtCk_ok {x : Net} {ms : List Mi} (h : mtCk x ms = 0) : NetOk x ∧ ms.length ≤ 64 ∧ ∀ m ∈ ms, MiOk x m := by
 unfold mtCk at h
 split at h
 ·exact absurd h (by assumption)
 ·rename_i hn
  have hn : netCk x = 0 := by omega
  split at h
  ·omega
  ·refine ⟨netCk_ok hn, by omega, fun m hm => ?_⟩
   have h1 := misGo_ok h m hm
   unfold miCk at h1
   split at h1
   ·omega
   ·split at h1
    ·omega
    ·rename_i hb
     refine ⟨fun h0 => ?_, fun h0 => ?_⟩
     ·exact Int.not_lt.1 fun e => hb (.inl ⟨h0, e⟩)
     ·have h2 : ¬ (x.nodes.any fun y => sEq m.name y) = false := fun e => hb (.inr ⟨h0, e⟩)
      have h3 : (x.nodes.any fun y => sEq m.name y) = true := by simpa using h2
      obtain ⟨y, hy, he⟩ := List.any_eq_true.1 h3
      rw [sEq_iff.1 he]
      exact hy
end
section
open Go.ChangeShapes Go.WideShapes Go.ChangeAt Go.RowKit
theorem rowsR_len {x : Net} {a : List Mi} : (rowsR x a).length = a.length := by unfold rowsR; rw [List.length_map]
theorem rowsR_get {x : Net} {a : List Mi} {k : Nat} {m : Mi} (h : a[k]? = some m) : (rowsR x a)[k]? = some (rowR x (formR x m).1) := by unfold rowsR; rw [List.getElem?_map, h]; rfl
end
section
open Go.ChangeShapes Go.WideShapes Go.ChangeAt Go.RowKit
theorem hd_noI (hs : List Hd) : ∀ u ∈ hs.map Hd.val, u.oneCell' = true ∧ NoI u := fun u hu => by
 obtain ⟨h, _, rfl⟩ := List.mem_map.1 hu
 exact ⟨rfl, fun k x e => by cases e⟩
theorem Rd.heads {w : World} {B : Nat} {b off n : Nat} {hs : List Hd} (h : Rd w B 1 (some ⟨b, off, none⟩) n (hs.map Hd.val)) (i m : Nat) (him : i + m ≤ n) : Rd w B 1 (some ⟨b, off + i, none⟩) m (((hs.drop i).take m).map Hd.val) := by
 have hl := h.1
 rw [List.length_map] at hl
 refine ⟨by rw [List.length_map, List.length_take, List.length_drop]; omega, fun h0 => ?_⟩
 obtain ⟨b', off', e, hlt, hc⟩ := h.2 (by omega)
 injection e with e
 injection e with e1 e2
 subst e1; subst e2
 refine ⟨b, off + i, rfl, hlt, fun j u hu => ?_⟩
 rw [List.map_take, List.map_drop] at hu
 have hj := (List.getElem?_eq_some_iff.1 hu).1
 rw [List.length_take] at hj
 rw [List.getElem?_take_of_lt (by omega), List.getElem?_drop] at hu
 have := hc (i + j) u hu
 rwa [← Nat.add_assoc] at this
theorem Rd.tail {w : World} {B : Nat} {b off n c : Nat} {hs : List Hd} (h : Rd w B 1 (some ⟨b, off, none⟩) n (hs.map Hd.val)) (hc : n ≤ c) {i : Nat} (hi : i ≤ n) : Rd w B 1 (if c = i then some ⟨b, off, none⟩ else some ⟨b, off + i, none⟩) (n - i) ((hs.drop i).map Hd.val) := by
 have hl := h.1
 rw [List.length_map] at hl
 have h2 := h.heads i (n - i) (by omega)
 rw [List.take_of_length_le (by rw [List.length_drop]; omega)] at h2
 by_cases hci : c = i
 ·refine ⟨h2.1, fun h0 => by omega⟩
 ·rw [if_neg hci]; exact h2
def Hds (w : World) (hs : List Hd) (M : List (List Rat)) : Prop := hs.length = M.length ∧ ∀ (i : Nat) (h : Hd) (q : List Rat), hs[i]? = some h → M[i]? = some q → RdQ w w.heap.size h.A h.n q ∧ h.n ≤ h.c ∧ h.c ≤ maxLen
theorem Hds.up {w w' : World} {hs : List Hd} {M : List (List Rat)} (h : Hds w hs M) (hb : Below w.heap.size w w') : Hds w' hs M := ⟨h.1, fun i a q hh hq => ⟨((h.2 i a q hh hq).1.below hb (Nat.le_refl _)).more hb.size, (h.2 i a q hh hq).2⟩⟩
theorem Hds.cut {w : World} {hs : List Hd} {M : List (List Rat)} (h : Hds w hs M) (k : Nat) : Hds w (cutAtK hs k) (cutAtK M k) := by
 refine ⟨by unfold cutAtK; simp [h.1], fun i a q hh hq => ?_⟩
 rw [cutAtK_get] at hh hq
 rw [h.1] at hh
 split at hh
 ·rw [if_pos ‹_›] at hq; exact h.2 _ _ _ hh hq
 ·rw [if_neg ‹_›] at hq
  split at hh
  ·rw [if_pos ‹_›] at hq; exact h.2 _ _ _ hh hq
  ·cases hh
theorem RdM.hds {w : World} {A : Option Addr} {n : Nat} {M : List (List Rat)} (h : RdM w w.heap.size A n M) : ∃ hs : List Hd, hs.length = n ∧ Rd w w.heap.size 1 A n (hs.map Hd.val) ∧ Hds w hs M := by
 obtain ⟨hs, h1, h2, h3, h4⟩ := h
 exact ⟨hs, h1, h3, h1.trans h2.symm, h4⟩
end
section
open Go.ChangeShapes Go.WideShapes Go.ChangeAt Go.RowKit
attribute [local go_sem ↓] execOp_call_val
attribute [local go_sem] callVal_func setCell_drewN alloc_drewN sEq_walk
structure Cf (w : World) (gc : Nat) (vs : List Rv) (q : List Rat) : Prop where
 row : ∃ cs, Blk w gc 93 cs ∧ cs.toList.take (q.length * 4) = rvs vs
 len : vs.length = q.length
 ok : RvOk w vs q
section
variable {w w' : World} {gc : Nat} {vs : List Rv} {q : List Rat}
theorem Cf.up (f : Cf w gc vs q) (hb : Below w.heap.size w w') : Cf w' gc vs q := by
 obtain ⟨cs, h1, h2⟩ := f.row
 exact ⟨⟨cs, h1.below hb h1.lt, h2⟩, f.len, f.ok.up hb⟩
theorem Cf.elem (f : Cf w gc vs q) {j : Nat} (hj : j < q.length) : ∃ x, vs[j]? = some x ∧ w.cell? ⟨gc, j * 4, none⟩ = some (.bool x.b1) ∧ w.cell? ⟨gc, j * 4 + 1, none⟩ = some (.slice x.A x.n x.c) ∧ w.cell? ⟨gc, j * 4 + 2, none⟩ = some (.bool x.b2) ∧ w.cell? ⟨gc, j * 4 + 3, none⟩ = some (.slice x.A2 x.m x.d) ∧ gc < w.heap.size ∧ (∀ o, w.frozen? ⟨gc, o, none⟩ = false) := by
 obtain ⟨cs, h1, h2⟩ := f.row
 obtain ⟨x, hx⟩ : ∃ x, vs[j]? = some x := ⟨_, List.getElem?_eq_getElem (by rw [f.len]; exact hj)⟩
 obtain ⟨c0, c1, c2, c3⟩ := h1.row_cell h2 hx
 exact ⟨x, hx, c0, c1, c2, c3, h1.lt, h1.frozen⟩
theorem Cf.keep (f : Cf w gc vs q) {j : Nat} (hj : j < q.length) {x y : Rv} {p : Rat} (hy : RtV w w.heap.size p y) : RtV (putV w gc j x) (putV w gc j x).heap.size p y := by
 obtain ⟨cs, h1, h2⟩ := f.row
 obtain ⟨x0, hx⟩ : ∃ x, vs[j]? = some x := ⟨_, List.getElem?_eq_getElem (by rw [f.len]; exact hj)⟩
 exact RtV.keep4 hy x h1 h2 hx
theorem Cf.put (f : Cf w gc vs q) {j : Nat} (hj : j < q.length) {x : Rv} {p : Rat} (hx : RtV w w.heap.size p x) : Cf (putV w gc j x) gc (vs.set j x) (q.set j p) := by
 obtain ⟨cs, h1, h2⟩ := f.row
 obtain ⟨cs', k1, k2⟩ := h1.row_put x h2 f.len hj
 refine ⟨⟨cs', k1, by rw [List.length_set]; exact k2⟩, by simp [f.len], fun i p' y hp hy => ?_⟩
 rw [List.getElem?_set] at hp hy
 by_cases hij : j = i
 ·subst hij
  rw [if_pos rfl, if_pos hj] at hp
  rw [if_pos rfl, if_pos (by rw [f.len]; exact hj)] at hy
  injection hp with hp
  injection hy with hy
  subst hp; subst hy
  exact f.keep hj hx
 ·rw [if_neg hij] at hp hy
  exact f.keep hj (f.ok i p' y hp hy)
theorem Cf.rdq (f : Cf w gc vs q) : RdQ w w.heap.size (some ⟨gc, 0, none⟩) q.length q := by
 obtain ⟨cs, h1, h2⟩ := f.row
 refine ⟨vs, f.len, rfl, ⟨by rw [rvs_len, f.len], fun hn => ⟨gc, 0, rfl, h1.lt, fun i v hv => ?_⟩⟩, f.ok⟩
 rw [Nat.zero_add, h1.cell]
 rw [← h2] at hv
 rw [List.getElem?_take] at hv
 split at hv
 ·rwa [Array.getElem?_toList] at hv
 ·cases hv
end
structure SEnv (w : World) (p7 p8 p9 g : Nat) (m : ModH) (y : Value) (x : Net) (A : Option Addr) (n c : Nat) (M : List (List Rat)) : Prop where
 b7 : Blk w p7 119 #[.pointer (some ⟨g, 0, none⟩)]
 b8 : Blk w p8 117 #[.slice A n c]
 b9 : Blk w p9 3 #[.int .i64 (rankR M : Int)]
 md : Blk w g 123 (m.cells y)
 rd : RdMod w w.heap.size m x
 rm : RdM w w.heap.size A n M
theorem SEnv.up {w w' : World} {p7 p8 p9 g n c : Nat} {m : ModH} {y : Value} {x : Net} {A : Option Addr} {M : List (List Rat)} (h : SEnv w p7 p8 p9 g m y x A n c M) (hb : Below w.heap.size w w') : SEnv w' p7 p8 p9 g m y x A n c M :=
 ⟨h.b7.below hb h.b7.lt, h.b8.below hb h.b8.lt, h.b9.below hb h.b9.lt, h.md.below hb h.md.lt, h.rd.up hb, h.rm.up hb⟩
end
section
open Go.ChangeShapes Go.WideShapes Go.ChangeAt Go.RowKit
attribute [local go_sem ↓] execOp_call_val
attribute [local go_sem] callVal_func setCell_drewN alloc_drewN sEq_walk
structure ArS (S : Nat → Nat → Bool) (nb b : Nat) (L : List Int) : Prop where
 len : L.length = nb
 at_ : ∀ k, k < b → L.getD k 0 = ((arR S b).1.getD k 0 : Nat)
theorem ArS.start (S : Nat → Nat → Bool) (nb : Nat) : ArS S nb 0 (List.replicate nb 0) := ⟨List.length_replicate, fun k h => by omega⟩
theorem ArS.old {S : Nat → Nat → Bool} {nb b a : Nat} {L : List Int} (h : ArS S nb b L) (hb : b < nb) (hf : (List.range b).find? (fun a => S a b) = some a) : ArS S nb (b + 1) (L.set b (L.getD a 0)) := by
 have ha : a < b := by simpa using List.mem_of_find?_eq_some hf
 refine ⟨by rw [List.length_set]; exact h.len, fun k hk => ?_⟩
 have e : (arR S (b + 1)).1 = (arR S b).1 ++ [(arR S b).1.getD a 0] := by rw [arR_succ, hf]
 have hl := arR_len S b
 rw [e, List.getD_eq_getElem?_getD, List.getD_eq_getElem?_getD (l := (arR S b).1 ++ _), List.getElem?_set]
 by_cases hkb : k = b
 ·subst hkb
  rw [if_pos rfl, if_pos (by rw [h.len]; exact hb), List.getElem?_append_right (by omega), hl, Nat.sub_self, h.at_ a ha]
  rfl
 ·rw [if_neg (fun e => hkb e.symm), List.getElem?_append_left (by omega), ← List.getD_eq_getElem?_getD, ← List.getD_eq_getElem?_getD]
  exact h.at_ k (by omega)
theorem ArS.new {S : Nat → Nat → Bool} {nb b : Nat} {L : List Int} (h : ArS S nb b L) (hb : b < nb) (hf : (List.range b).find? (fun a => S a b) = none) : ArS S nb (b + 1) (L.set b ((arR S b).2 : Nat)) ∧ (arR S (b + 1)).2 = (arR S b).2 + 1 := by
 have e : arR S (b + 1) = ((arR S b).1 ++ [(arR S b).2], (arR S b).2 + 1) := by rw [arR_succ, hf]
 refine ⟨⟨by rw [List.length_set]; exact h.len, fun k hk => ?_⟩, by rw [e]⟩
 have hl := arR_len S b
 rw [e, List.getD_eq_getElem?_getD, List.getD_eq_getElem?_getD (l := (arR S b).1 ++ _), List.getElem?_set]
 by_cases hkb : k = b
 ·subst hkb
  rw [if_pos rfl, if_pos (by rw [h.len]; exact hb), List.getElem?_append_right (by omega), hl, Nat.sub_self]
  rfl
 ·rw [if_neg (fun e => hkb e.symm), List.getElem?_append_left (by omega), ← List.getD_eq_getElem?_getD, ← List.getD_eq_getElem?_getD]
  exact h.at_ k (by omega)
theorem ArS.fin {S : Nat → Nat → Bool} {nb : Nat} {L : List Int} (h : ArS S nb nb L) : L = natJ (arR S nb).1 := by
 have hl := arR_len S nb
 apply List.ext_getElem?
 intro k
 unfold natJ
 rw [List.getElem?_map]
 by_cases hk : k < nb
 ·have := h.at_ k hk
  rw [List.getD_eq_getElem?_getD, List.getD_eq_getElem?_getD, List.getElem?_eq_getElem (by rw [h.len]; exact hk), List.getElem?_eq_getElem (l := (arR S nb).1) (by omega)] at this
  rw [List.getElem?_eq_getElem (by rw [h.len]; exact hk), List.getElem?_eq_getElem (by omega)]
  simpa using this
 ·rw [List.getElem?_eq_none (by rw [h.len]; omega), List.getElem?_eq_none (by omega)]; rfl
end
section
open Go.ChangeShapes Go.WideShapes Go.ChangeAt Go.RowKit
structure FOt (n D B : Nat) (s : List Rat × Rat) : Prop where
 len : s.1.length = n
 cf : ∀ p ∈ s.1, Ot D B p
 fr : Ot (D * 1000) B s.2
theorem FOt.mono {n D B C : Nat} {s : List Rat × Rat} (h : FOt n D B s) (hb : B ≤ C) : FOt n D C s := ⟨h.len, fun p hp => ot_more (h.cf p hp) hb, ot_more h.fr hb⟩
theorem ot_sg {D B : Nat} {q : Rat} (mi : Bool) (h : Ot D B q) : Ot D B (sg mi q) := by
 unfold sg
 cases mi
 ·exact h
 ·exact ot_neg h
theorem FOt.add {n D B u v : Nat} {s : List Rat × Rat} {b c : Rat} (mi : Bool) (h : FOt n D B s) (hu : u < n) (hv : v < n) (hb : Ot D 2000 b) (hc : Ot (D * 1000) 2000 c) : FOt n D (B + 4000) (addF (sg mi b) u v s.1, s.2 + sg mi c) := by
 have hb' := ot_sg mi hb
 have h1 : Ot D (B + 2000) (vf s.1 u + sg mi b) := ot_add (h.cf _ (List.mem_of_getElem? (vf_get (i := u) (by rw [h.len]; exact hu)))) hb'
 have h2 : ∀ p ∈ s.1.set u (vf s.1 u + sg mi b), Ot D (B + 2000) p := fun p hp => by
  rcases List.mem_or_eq_of_mem_set hp with e | e
  ·exact ot_more (h.cf p e) (by omega)
  ·rw [e]; exact h1
 refine ⟨by rw [addF_len]; exact h.len, fun p hp => ?_, ot_more (ot_add h.fr (ot_sg mi hc)) (by omega)⟩
 unfold addF at hp
 rcases List.mem_or_eq_of_mem_set hp with e | e
 ·exact ot_more (h2 p e) (by omega)
 ·rw [e, Rat.sub_eq_add_neg]
  exact ot_more (ot_add (h2 _ (List.mem_of_getElem? (vf_get (i := v) (by rw [List.length_set, h.len]; exact hv)))) (ot_neg hb')) (by omega)
end
end Go.Proofs.YtakllkkmofdpaaaGreatDoor
