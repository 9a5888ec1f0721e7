import Derived.Test.YtakllkkmofdpaaaGreatDoorU09
import Derived.Test.YtakllkkmofdpaaaGreatDoorU11
import Derived.Deep.DeepAppendWide
import Derived.Deep.LoopGhost
set_option linter.unusedVariables false
set_option linter.unusedSimpArgs false
namespace Go.Proofs.YtakllkkmofdpaaaGreatDoor
section
open Go.ChangeShapes Go.WideShapes Go.ChangeAt Go.RowKit
attribute [local go_sem ↓] execOp_call_val
attribute [local go_sem] callVal_func setCell_drewN alloc_drewN
def SlQ (l : List Nat) : Value → World → Prop := fun v w => ∃ A n c, v = .slice A n c ∧ RdW w w.heap.size A n l ∧ n ≤ c ∧ c ≤ 9223372036854775807
theorem SlQ.up {l : List Nat} {v : Value} {w w' : World} (h : SlQ l v w) (hb : Below w.heap.size w w') : SlQ l v w' := by
 obtain ⟨A, n, c, e, h1, h2⟩ := h
 exact ⟨A, n, c, e, h1.up hb, h2⟩
def LgQ (z : Int) : Value → World → Prop := fun v w => ∃ b A n c, v = .agg #[.bool b, .slice A n c] ∧ LgIs w w.heap.size z b A n c
theorem LgQ.up {z : Int} {v : Value} {w w' : World} (h : LgQ z v w) (hb : Below w.heap.size w w') : LgQ z v w' := by
 obtain ⟨b, A, n, c, e, h1⟩ := h
 exact ⟨b, A, n, c, e, h1.up hb⟩
def NewQ (B : Nat) (T : TypeId) (cs : Array Value) : Value → World → Prop := fun v w => ∃ g, v = .pointer (some ⟨g, 0, none⟩) ∧ B ≤ g ∧ Blk w g T cs
theorem NewQ.up {B : Nat} {T : TypeId} {cs : Array Value} {v : Value} {w w' : World} (h : NewQ B T cs v w) (hb : Below w.heap.size w w') : NewQ B T cs v w' := by
 obtain ⟨g, e, h1, h2⟩ := h
 exact ⟨g, e, h1, h2.below hb h2.lt⟩
theorem u32_one (l : List Nat) : ∀ u ∈ u32s l, u.oneCell' = true := by
 intro u hu
 unfold u32s at hu
 obtain ⟨x, _, rfl⟩ := List.mem_map.1 hu
 rfl
theorem rdW_own {w : World} {B n : Nat} {v : Value} {l : List Nat} (h : w.ownsRow B 171 1 v n (u32s l)) : ∃ A c, v = .slice A n c ∧ RdW w w.heap.size A n l ∧ n ≤ c ∧ c ≤ 9223372036854775807 := by
 rcases h.2 with ⟨h1, h2⟩ | ⟨g, cap, cur, h1, h2, h3, h4, h5, h6, h7⟩
 ·refine ⟨none, 0, by rw [h2]; exact h1, ⟨h.1, fun h0 => by omega⟩, by omega, by omega⟩
 ·refine ⟨_, _, h1, ⟨h.1, fun h0 => ⟨g, 0, rfl, ?_, fun j u hu => ?_⟩⟩, h4, by simpa [maxLen] using h5⟩
  ·rcases Nat.lt_or_ge g w.heap.size with hlt | hge
   ·exact hlt
   ·rw [Array.getElem?_eq_none hge] at h3; cases h3
  ·rw [Nat.zero_add, cell_of_row w g j cur 171 (0, 0) h3]
   rw [← h7] at hu
   have hjl := (List.getElem?_eq_some_iff.1 hu).1
   rw [List.getElem?_take_of_lt (by rw [List.length_take] at hjl; omega)] at hu
   simpa using hu
set_option maxRecDepth 20000 in
set_option maxHeartbeats 1000000 in
theorem cloneW (A : Option Addr) (n c : Nat) (l : List Nat) (w : World) (hr : RdW w w.heap.size A n l) (hn : n ≤ 35184372088833) :
    Calls Tryz.prog 144 #[.slice A n c] w fun e w' => Below w.heap.size w w' ∧ ∃ A' c', e = .returned (.slice A' n c') ∧ RdW w' w'.heap.size A' n l ∧ n ≤ c' ∧ c' ≤ 9223372036854775807 := by
 have q22 : ∀ (w : World) (a : Option Addr) (n c n' c' : Nat), (binOp .eql 89 (.slice a n c) (.slice none n' c')).run Tryz.prog w = .ok (.bool a.isNone) w := fun w a n c n' c' => Lib.run_eql_slice_nil w _ _ a n c n' c' Tryz.underlying89
 cases A with
 | none =>
  have h0 : n = 0 := by
   refine Nat.eq_zero_of_not_pos fun h => ?_
   obtain ⟨b, off, e, _⟩ := hr.form h
   cases e
  subst h0
  have hl : l = [] := List.eq_nil_of_length_eq_zero hr.len
  subst hl
  go_enter Tryz.func144, Tryz.ntmps144
  go_wp2_with fail
  go_ret
  exact ⟨Below.refl _ _, none, 0, rfl, rdW_nil _ _ _, Nat.le_refl _, by decide⟩
 | some ad =>
  obtain ⟨i0, hi0, hz0, hz1, hz2⟩ := info_parts info_u32
  have HL := Lib.hid hr.len
  have HC : Hid (∀ j u, (u32s l)[j]? = some u → w.cell? (ad.add j) = some u) := Lib.hid fun j u hu => by
   have hj := (List.getElem?_eq_some_iff.1 hu).1
   have hn0 : 0 < n := by have := hr.len; unfold u32s at hj; rw [List.length_map] at hj; omega
   obtain ⟨b, off, e, hlt, hc⟩ := hr.2 hn0
   injection e with e
   subst e
   have := hc j u hu
   unfold Addr.add
   by_cases hj0 : j = 0
   ·subst hj0; simpa using this
   ·simpa [hj0] using this
  have HN : Hid ((u32s l).length = n * 1) := Lib.hid hr.1
  clear hr
  go_enter Tryz.func144, Tryz.ntmps144
  go_wp2_with (at_builtin; refine wpList_append_own_wide _ rfl _ _ 89 rfl w.heap.size 171 i0 _ 1 4 Tryz.underlying89 hi0 hz0 hz1 hz2 rfl (by omega) _ _ _ rfl (own_nil _ _ _) ad n c (u32s l) rfl ?qc1 ?qc2 (u32_one l) ?qc4 ?qc5 ?qc6 ?_)
  case qc1 => exact HN.out
  case qc2 => exact fun j u hj => Lib.cell?_alloc_some _ (HC.out j u hj)
  case qc4 => simp only [maxLen]; omega
  case qc5 => omega
  case qc6 => simp
  intro v' w1 hown hgrow hnil
  go_wp2
  go_ret
  obtain ⟨A', c', e, h1, h2, h3⟩ := rdW_own hown
  subst e
  exact ⟨((Below.refl _ w).alloc (Nat.le_refl _) _).grown hgrow (by simp) (by intro k hk; simp [Value.ownBlock] at hk; omega), A', c', rfl, h1, h2, h3⟩
def DmP (y z : Int) (w : World) (e : Ending) (w' : World) : Prop := Below w.heap.size w w' ∧ ∃ b A n c b2 B m d, e = .returned (.tuple #[.agg #[.bool b, .slice A n c], .agg #[.bool b2, .slice B m d]]) ∧ LgIs w' w'.heap.size y b A n c ∧ LgIs w' w'.heap.size z b2 B m d
set_option maxRecDepth 100000 in
set_option maxHeartbeats 4000000 in
theorem dm_any (x y : Nat) (b1 : Bool) (A : Option Addr) (n c : Nat) (b2 : Bool) (B : Option Addr) (m d : Nat) (w : World) (h1 : LgIs w w.heap.size (x : Int) b1 A n c) (h2 : LgIs w w.heap.size (y : Int) b2 B m d) (hy0 : 0 < y) (hn : n ≤ 35184372088832) (hm : m ≤ 35184372088832) :
    Calls Tryz.prog 117 #[.agg #[.bool b1, .slice A n c], .agg #[.bool b2, .slice B m d]] w (DmP ((x / y : Nat) : Int) ((x % y : Nat) : Int) w) := by
 have hb1 : b1 = false := by rw [h1.eb]; simp
 subst hb1
 have HB0 : Hid (Below w.heap.size w ((((w.alloc (.cells #[.bool false, .slice A n c] 91)).alloc (.cells #[.bool b2, .slice B m d] 91)).alloc (.cells #[.bool false, .slice none 0 0] 91)).alloc (.cells #[.bool false, .slice none 0 0] 91))) := Lib.hid (((((Below.refl _ _).alloc (Nat.le_refl _) _).alloc (by simp) _).alloc (by simp; omega) _).alloc (by simp; omega) _)
 have HX1 : Hid (Blk ((((w.alloc (.cells #[.bool false, .slice A n c] 91)).alloc (.cells #[.bool b2, .slice B m d] 91)).alloc (.cells #[.bool false, .slice none 0 0] 91)).alloc (.cells #[.bool false, .slice none 0 0] 91)) w.heap.size 91 #[.bool false, .slice A n c]) := Lib.hid ((((Blk.new w _ _).alloc _).alloc _).alloc _)
 have HX2 : Hid (Blk ((((w.alloc (.cells #[.bool false, .slice A n c] 91)).alloc (.cells #[.bool b2, .slice B m d] 91)).alloc (.cells #[.bool false, .slice none 0 0] 91)).alloc (.cells #[.bool false, .slice none 0 0] 91)) (w.heap.size + 1) 91 #[.bool b2, .slice B m d]) := Lib.hid (((Blk.new_ (by simp)).alloc _).alloc _)
 have HR0 : Hid (Blk ((((w.alloc (.cells #[.bool false, .slice A n c] 91)).alloc (.cells #[.bool b2, .slice B m d] 91)).alloc (.cells #[.bool false, .slice none 0 0] 91)).alloc (.cells #[.bool false, .slice none 0 0] 91)) (w.heap.size + 1 + 1) 91 #[.bool false, .slice none 0 0]) := Lib.hid ((Blk.new_ (by simp)).alloc _)
 have HR1 : Hid (Blk ((((w.alloc (.cells #[.bool false, .slice A n c] 91)).alloc (.cells #[.bool b2, .slice B m d] 91)).alloc (.cells #[.bool false, .slice none 0 0] 91)).alloc (.cells #[.bool false, .slice none 0 0] 91)) (w.heap.size + 1 + 1 + 1) 91 #[.bool false, .slice none 0 0]) := Lib.hid (Blk.new_ (by simp))
 have HD1 : Hid (RdW ((((w.alloc (.cells #[.bool false, .slice A n c] 91)).alloc (.cells #[.bool b2, .slice B m d] 91)).alloc (.cells #[.bool false, .slice none 0 0] 91)).alloc (.cells #[.bool false, .slice none 0 0] 91)) (((((w.alloc (.cells #[.bool false, .slice A n c] 91)).alloc (.cells #[.bool b2, .slice B m d] 91)).alloc (.cells #[.bool false, .slice none 0 0] 91)).alloc (.cells #[.bool false, .slice none 0 0] 91))).heap.size A n (dig x)) := Lib.hid (h1.up HB0.out).rd
 have HD2 : Hid (RdW ((((w.alloc (.cells #[.bool false, .slice A n c] 91)).alloc (.cells #[.bool b2, .slice B m d] 91)).alloc (.cells #[.bool false, .slice none 0 0] 91)).alloc (.cells #[.bool false, .slice none 0 0] 91)) (((((w.alloc (.cells #[.bool false, .slice A n c] 91)).alloc (.cells #[.bool b2, .slice B m d] 91)).alloc (.cells #[.bool false, .slice none 0 0] 91)).alloc (.cells #[.bool false, .slice none 0 0] 91))).heap.size B m (dig y)) := Lib.hid (h2.up HB0.out).rd
 have hnc := h1.nc
 have hcm := h1.cm
 clear h1 h2
 go_enter Tryz.func117, Tryz.ntmps117
 go_wp2_with fail
 generalize ((((w.alloc (.cells #[.bool false, .slice A n c] 91)).alloc (.cells #[.bool b2, .slice B m d] 91)).alloc (.cells #[.bool false, .slice none 0 0] 91)).alloc (.cells #[.bool false, .slice none 0 0] 91)) = V at *
 have p0 := HX1.out.cell 0
 have p1 := HX1.out.cell 1
 have q1 := HX2.out.cell 1
 have pl := HX1.out.lt
 have ql := HX2.out.lt
 go_wp2_with fail
 refine (divW_any A n c B m d x y V HD1.out HD2.out hy0 hnc hcm hn hm).mono ?_
 rintro e W ⟨hb1, Aq, nq, cq, lq, Ar, nr, cr, lr, rfl, ⟨hq1, hq2, hq3, hq4, hq5⟩, ⟨hr1, hr2, hr3, hr4, hr5⟩, HQRn, HRRn⟩
 have HB1 := Lib.hid (HB0.out.trans (hb1.mono HB0.out.size))
 have HX1b := Lib.hid (HX1.out.below hb1 HX1.out.lt)
 have HX2b := Lib.hid (HX2.out.below hb1 HX2.out.lt)
 have HR0b := Lib.hid (HR0.out.below hb1 HR0.out.lt)
 have HR1b := Lib.hid (HR1.out.below hb1 HR1.out.lt)
 have HQR := Lib.hid hq1
 have HQD := Lib.hid hq2
 have HQV : Hid (sgn false (wv lq) = ((x / y : Nat) : Int)) := Lib.hid (by rw [hq3]; rfl)
 have HRR := Lib.hid hr1
 have HRD := Lib.hid hr2
 have HRV : Hid (sgn false (wv lr) = ((x % y : Nat) : Int)) := Lib.hid (by rw [hr3]; rfl)
 have hgs : w.heap.size ≤ V.heap.size := HB0.out.size
 clear hb1 hq1 hq2 hq3 hq4 hq5 hr1 hr2 hr3 hr4 hr5 p0 p1 q1 pl ql HX1 HX2 HR0 HR1 HD1 HD2
 have hgs1 : w.heap.size ≤ W.heap.size := HB1.out.size
 clear HB0 hgs
 have p0 := HX1b.out.cell 0
 have pl := HX1b.out.lt
 go_wp2_with fail
 refine wp_region_last2 (S := fun w' => Below W.heap.size W w') 12 _ _ (by kernel_rfl) (by kernel_rfl) (by kernel_rfl) rfl rfl (below_drew (Below.refl _ _)) (fun hHeld => ?_)
 simp only [List.take_succ_cons, List.take_zero]
 refine tkH 0 rfl (by intro w' _ hcc; go_simp <;> with_reducible rfl) hHeld ?_
 try simp only [Act.put, sA_, sB_, sC_]
 refine tkH 1 rfl (by intro w' _ hcc; go_simp <;> with_reducible rfl) hHeld ?_
 try simp only [Act.put, sA_, sB_, sC_]
 refine tkH 2 rfl (by intro w' _ hcc; go_simp <;> with_reducible rfl) hHeld ?_
 try simp only [Act.put, sA_, sB_, sC_]
 refine tkH 5 rfl (by intro w' _ hcc; go_simp <;> with_reducible rfl) hHeld ?_
 try simp only [Act.put, sA_, sB_, sC_]
 refine tkH 6 rfl (by intro w' _ hcc; go_simp <;> with_reducible rfl) hHeld ?_
 try simp only [Act.put, sA_, sB_, sC_]
 refine tkH 7 rfl (by intro w' _ hcc; go_simp <;> with_reducible rfl) hHeld ?_
 try simp only [Act.put, sA_, sB_, sC_]
 refine relyH (C := fun s w' => Below W.heap.size W w' ∧ Sep 10 11 s w') (G := fun w' w'' => Below w'.heap.size w' w'') [(3, SlQ lq), (4, LgQ ((x / y : Nat) : Int)), (8, SlQ lr), (9, LgQ ((x % y : Nat) : Int)), (10, NewQ W.heap.size 91 #[.bool false, .slice none 0 0]), (11, NewQ W.heap.size 91 #[.bool false, .slice none 0 0])] rfl (by kernel_rfl) (List.forall_mem_cons.2 ⟨fun _ _ _ h g => h.up g, List.forall_mem_cons.2 ⟨fun _ _ _ h g => h.up g, List.forall_mem_cons.2 ⟨fun _ _ _ h g => h.up g, List.forall_mem_cons.2 ⟨fun _ _ _ h g => h.up g, List.forall_mem_cons.2 ⟨fun _ _ _ h g => h.up g, List.forall_mem_cons.2 ⟨fun _ _ _ h g => h.up g, List.forall_mem_nil _⟩⟩⟩⟩⟩⟩) (fun _ _ h => h.1) ⟨hHeld, sep_start _ _ _⟩ ?_
 refine relyL_cons (i := 3) rfl (fun s w3 hC hn hK => ?_) (fun v3 => ?_)
 ·unfold relyOp; go_simp; simp only [relyUpon]
  refine (cloneW Aq nq cq lq w3 (HQR.out.lift hC.1 hC.1.size) (by have := HQRn; omega)).mono ?_
  rintro e w4 ⟨hb4, hq4⟩
  obtain ⟨A4, c4, rfl, hr4, hn4, hc4⟩ := hq4
  exact ⟨_, rfl, ⟨A4, nq, c4, rfl, hr4, hn4, hc4⟩, ⟨hC.1.trans (hb4.mono hC.1.size), hC.2.other (by decide) (by decide) hb4.size _⟩, hb4⟩
 try simp only [Act.put, sA_, sB_, sC_]
 refine relyL_cons (i := 4) rfl (fun s w3 hC hn hK => ?_) (fun v4 => ?_)
 ·have k3 : s 3 = some v3 ∧ SlQ lq v3 w3 := hK 3 (by kernel_rfl)
  obtain ⟨-, A3, n3, c3, rfl, hr3, hn3, hc3⟩ := k3
  unfold relyOp; go_simp; simp only [relyUpon]
  refine (norm_any false A3 n3 c3 lq w3 hr3 HQD.out hn3 hc3).mono ?_
  rw [HQV.out]
  rintro e w4 ⟨hb4, b4, A4, n4, c4, rfl, h4⟩
  exact ⟨_, rfl, ⟨b4, A4, n4, c4, rfl, h4⟩, ⟨hC.1.trans (hb4.mono hC.1.size), hC.2.other (by decide) (by decide) hb4.size _⟩, hb4⟩
 try simp only [Act.put, sA_, sB_, sC_]
 refine relyL_cons (i := 8) rfl (fun s w3 hC hn hK => ?_) (fun v8 => ?_)
 ·unfold relyOp; go_simp; simp only [relyUpon]
  refine (cloneW Ar nr cr lr w3 (HRR.out.lift hC.1 hC.1.size) (by have := HRRn; omega)).mono ?_
  rintro e w4 ⟨hb4, hq4⟩
  obtain ⟨A4, c4, rfl, hr4, hn4, hc4⟩ := hq4
  exact ⟨_, rfl, ⟨A4, nr, c4, rfl, hr4, hn4, hc4⟩, ⟨hC.1.trans (hb4.mono hC.1.size), hC.2.other (by decide) (by decide) hb4.size _⟩, hb4⟩
 try simp only [Act.put, sA_, sB_, sC_]
 refine relyL_cons (i := 9) rfl (fun s w3 hC hn hK => ?_) (fun v9 => ?_)
 ·have k8 : s 8 = some v8 ∧ SlQ lr v8 w3 := hK 8 (by kernel_rfl)
  obtain ⟨-, A3, n3, c3, rfl, hr3, hn3, hc3⟩ := k8
  unfold relyOp; go_simp; simp only [relyUpon]
  refine (norm_any false A3 n3 c3 lr w3 hr3 HRD.out hn3 hc3).mono ?_
  rw [HRV.out]
  rintro e w4 ⟨hb4, b4, A4, n4, c4, rfl, h4⟩
  exact ⟨_, rfl, ⟨b4, A4, n4, c4, rfl, h4⟩, ⟨hC.1.trans (hb4.mono hC.1.size), hC.2.other (by decide) (by decide) hb4.size _⟩, hb4⟩
 try simp only [Act.put, sA_, sB_, sC_]
 refine relyL_cons (i := 10) rfl (fun s w3 hC hn hK => ?_) (fun v10 => ?_)
 ·unfold relyOp; go_simp; simp only [relyUpon]
  exact ⟨⟨_, rfl, hC.1.size, Blk.new _ _ _⟩, ⟨hC.1.alloc hC.1.size _, hC.2.left (by decide) (by simp)⟩, (Below.refl _ _).alloc (Nat.le_refl _) _⟩
 try simp only [Act.put, sA_, sB_, sC_]
 refine relyL_cons (i := 11) rfl (fun s w3 hC hn hK => ?_) (fun v11 => ?_)
 ·unfold relyOp; go_simp; simp only [relyUpon]
  exact ⟨⟨_, rfl, hC.1.size, Blk.new _ _ _⟩, ⟨hC.1.alloc hC.1.size _, hC.2.right (by decide) (by simp)⟩, (Below.refl _ _).alloc (Nat.le_refl _) _⟩
 try simp only [Act.put, sA_, sB_, sC_]
 refine relyL_nil (fun s w5 hC hK => ?_)
 have k4 : s 4 = some v4 ∧ LgQ ((x / y : Nat) : Int) v4 w5 := hK 4
 have k9 : s 9 = some v9 ∧ LgQ ((x % y : Nat) : Int) v9 w5 := hK 9
 have k10 : s 10 = some v10 ∧ NewQ W.heap.size 91 #[.bool false, .slice none 0 0] v10 w5 := hK 10
 have k11 : s 11 = some v11 ∧ NewQ W.heap.size 91 #[.bool false, .slice none 0 0] v11 w5 := hK 11
 obtain ⟨-, bq, Aq2, nq2, cq2, rfl, hq2⟩ := k4
 obtain ⟨-, br, Ar2, nr2, cr2, rfl, hr2⟩ := k9
 obtain ⟨s10, g10, rfl, hg10, HG10⟩ := k10
 obtain ⟨s11, g11, rfl, hg11, HG11⟩ := k11
 have hne : g10 ≠ g11 := hC.2.2.2 g10 g11 s10 s11
 have HB5 := Lib.hid hC.1
 have HQ2 := Lib.hid hq2
 have HR2 := Lib.hid hr2
 have HG10 := Lib.hid HG10
 have HG11 := Lib.hid HG11
 clear hC hK s10 s11 hq2 hr2 hHeld
 have hbr : br = false := by rw [HR2.out.eb]; exact decide_eq_false (by omega)
 subst hbr
 have z0 := HG10.out.cell 0
 have z1 := HG10.out.cell 1
 have zf := HG10.out.frozen
 have zl := HG10.out.lt
 have HR0c := Lib.hid (HR0b.out.below HB5.out HR0b.out.lt)
 have HR1c := Lib.hid (HR1b.out.below HB5.out HR1b.out.lt)
 clear p0 pl
 have e0 : w.heap.size + 1 + 1 ≠ g10 := by have := HR0b.out.lt; omega
 have e1 : w.heap.size + 1 + 1 ≠ g11 := by have := HR0b.out.lt; omega
 have e2 : w.heap.size + 1 + 1 + 1 ≠ g10 := by have := HR1b.out.lt; omega
 have e3 : w.heap.size + 1 + 1 + 1 ≠ g11 := by have := HR1b.out.lt; omega
 have hr0l : w.heap.size + 1 + 1 < W.heap.size := HR0b.out.lt
 have hr1l : w.heap.size + 1 + 1 + 1 < W.heap.size := HR1b.out.lt
 refine lastQ_go (by rfl) ?_
 go_simp
 clear z0 z1 zf zl
 generalize hw6 : (w5.setCell ⟨g10, 0, none⟩ _).setCell ⟨g10, 1, none⟩ _ = w6
 have HG10b : Hid (Blk w6 g10 91 #[.bool bq, .slice Aq2 nq2 cq2]) := Lib.hid (by rw [← hw6]; exact blk_set2 HG10.out)
 have HG11b : Hid (Blk w6 g11 91 #[.bool false, .slice none 0 0]) := Lib.hid (by rw [← hw6]; exact (HG11.out.far hne.symm _).far hne.symm _)
 have HR0d : Hid (Blk w6 (w.heap.size + 1 + 1) 91 #[.bool false, .slice none 0 0]) := Lib.hid (by rw [← hw6]; exact (HR0c.out.far e0 _).far e0 _)
 have HR1d : Hid (Blk w6 (w.heap.size + 1 + 1 + 1) 91 #[.bool false, .slice none 0 0]) := Lib.hid (by rw [← hw6]; exact (HR1c.out.far e2 _).far e2 _)
 have HB6 : Hid (Below W.heap.size W w6) := Lib.hid (by rw [← hw6]; exact below_set2 HB5.out hg10)
 have HQ6 : Hid (LgIs w6 w6.heap.size ((x / y : Nat) : Int) bq Aq2 nq2 cq2) := Lib.hid (by rw [← hw6]; exact (HQ2.out.keep (HG10.out.cell 0) (by simp) _).keep ((HG10.out.set_ 0 (.bool bq)).cell 1) (by simp) _)
 have HR6 : Hid (LgIs w6 w6.heap.size ((x % y : Nat) : Int) false Ar2 nr2 cr2) := Lib.hid (by rw [← hw6]; exact (HR2.out.keep (HG10.out.cell 0) (by simp) _).keep ((HG10.out.set_ 0 (.bool bq)).cell 1) (by simp) _)
 clear hw6 HG10 HG11 HB5 HQ2 HR2 HR0c HR1c
 have z0 := HG11b.out.cell 0
 have z1 := HG11b.out.cell 1
 have zf := HG11b.out.frozen
 have zl := HG11b.out.lt
 refine lastQ_go (by rfl) ?_
 go_simp
 clear z0 z1 zf zl
 generalize hw7 : (w6.setCell ⟨g11, 0, none⟩ _).setCell ⟨g11, 1, none⟩ _ = w7
 have HG10c : Hid (Blk w7 g10 91 #[.bool bq, .slice Aq2 nq2 cq2]) := Lib.hid (by rw [← hw7]; exact (HG10b.out.far hne _).far hne _)
 have HG11c : Hid (Blk w7 g11 91 #[.bool false, .slice Ar2 nr2 cr2]) := Lib.hid (by rw [← hw7]; exact blk_set2 HG11b.out)
 have HR0e : Hid (Blk w7 (w.heap.size + 1 + 1) 91 #[.bool false, .slice none 0 0]) := Lib.hid (by rw [← hw7]; exact (HR0d.out.far e1 _).far e1 _)
 have HR1e : Hid (Blk w7 (w.heap.size + 1 + 1 + 1) 91 #[.bool false, .slice none 0 0]) := Lib.hid (by rw [← hw7]; exact (HR1d.out.far e3 _).far e3 _)
 have HB7 : Hid (Below W.heap.size W w7) := Lib.hid (by rw [← hw7]; exact below_set2 HB6.out hg11)
 have HQ7 : Hid (LgIs w7 w7.heap.size ((x / y : Nat) : Int) bq Aq2 nq2 cq2) := Lib.hid (by rw [← hw7]; exact (HQ6.out.keep (HG11b.out.cell 0) (by simp) _).keep ((HG11b.out.set_ 0 (.bool false)).cell 1) (by simp) _)
 have HR7 : Hid (LgIs w7 w7.heap.size ((x % y : Nat) : Int) false Ar2 nr2 cr2) := Lib.hid (by rw [← hw7]; exact (HR6.out.keep (HG11b.out.cell 0) (by simp) _).keep ((HG11b.out.set_ 0 (.bool false)).cell 1) (by simp) _)
 clear hw7 HG10b HG11b HB6 HQ6 HR6 HR0d HR1d
 have HBW : Hid (Below w.heap.size w w7) := Lib.hid (HB1.out.trans (HB7.out.mono HB1.out.size))
 have a0 := HG10c.out.cell 0
 have a1 := HG10c.out.cell 1
 have al := HG10c.out.lt
 have b0 := HG11c.out.cell 0
 have b1 := HG11c.out.cell 1
 have bl := HG11c.out.lt
 have c0 := HR0e.out.cell 0
 have c1 := HR0e.out.cell 1
 have cf := HR0e.out.frozen
 have cl := HR0e.out.lt
 have d0 := HR1e.out.cell 0
 have d1 := HR1e.out.cell 1
 have df := HR1e.out.frozen
 have dl := HR1e.out.lt
 go_wp2_with fail
 refine wp_region_last (S := fun w' => w'.cell? ⟨g10, 0, none⟩ = some (.bool bq) ∧ w'.cell? ⟨g10, 1, none⟩ = some (.slice Aq2 nq2 cq2) ∧ w'.cell? ⟨g11, 0, none⟩ = some (.bool false) ∧ w'.cell? ⟨g11, 1, none⟩ = some (.slice Ar2 nr2 cr2)) 3 _ (by kernel_rfl) (by kernel_rfl) rfl ⟨a0, a1, b0, b1⟩ (fun hHeld => ?_)
 simp only [List.take_succ_cons, List.take_zero]
 refine takeH 0 (v := ?_) rfl (by kernel_rfl) (fun _ _ _ h => h) (by rfl) ?_ hHeld ?_
 rotate_left 1
 ·intro w' hSw; obtain ⟨s0, s1, s2, s3⟩ := hSw; go_simp <;> with_reducible rfl
 try simp only [Act.put, sA_, sB_, sC_]
 refine takeH 1 (v := ?_) rfl (by kernel_rfl) (fun _ _ _ h => h) (by rfl) ?_ hHeld ?_
 rotate_left 1
 ·intro w' hSw; obtain ⟨s0, s1, s2, s3⟩ := hSw; go_simp <;> with_reducible rfl
 try simp only [Act.put, sA_, sB_, sC_]
 clear a0 a1 b0 b1 d0 d1 df dl al bl
 have e4 : g10 ≠ w.heap.size + 1 + 1 := e0.symm
 have e5 : g11 ≠ w.heap.size + 1 + 1 := e1.symm
 have e6 : w.heap.size + 1 + 1 + 1 ≠ w.heap.size + 1 + 1 := by omega
 have hgs2 : w.heap.size ≤ w.heap.size + 1 + 1 := by omega
 have hgs3 : w.heap.size ≤ w.heap.size + 1 + 1 + 1 := by omega
 refine stepH 2 (by kernel_rfl) rfl (fun K hK => ?_)
 go_simp
 clear c0 c1 cf cl
 generalize hw8 : (w7.setCell ⟨w.heap.size + 1 + 1, 0, none⟩ _).setCell ⟨w.heap.size + 1 + 1, 1, none⟩ _ = w8
 have HG10d : Hid (Blk w8 g10 91 #[.bool bq, .slice Aq2 nq2 cq2]) := Lib.hid (by rw [← hw8]; exact (HG10c.out.far e4 _).far e4 _)
 have HG11d : Hid (Blk w8 g11 91 #[.bool false, .slice Ar2 nr2 cr2]) := Lib.hid (by rw [← hw8]; exact (HG11c.out.far e5 _).far e5 _)
 have HR0f : Hid (Blk w8 (w.heap.size + 1 + 1) 91 #[.bool bq, .slice Aq2 nq2 cq2]) := Lib.hid (by rw [← hw8]; exact blk_set2 HR0e.out)
 have HR1f : Hid (Blk w8 (w.heap.size + 1 + 1 + 1) 91 #[.bool false, .slice none 0 0]) := Lib.hid (by rw [← hw8]; exact (HR1e.out.far e6 _).far e6 _)
 have HB8 : Hid (Below w.heap.size w w8) := Lib.hid (by rw [← hw8]; exact below_set2 HBW.out hgs2)
 have HQ8 : Hid (LgIs w8 w8.heap.size ((x / y : Nat) : Int) bq Aq2 nq2 cq2) := Lib.hid (by rw [← hw8]; exact (HQ7.out.keep (HR0e.out.cell 0) (by simp) _).keep ((HR0e.out.set_ 0 (.bool bq)).cell 1) (by simp) _)
 have HR8 : Hid (LgIs w8 w8.heap.size ((x % y : Nat) : Int) false Ar2 nr2 cr2) := Lib.hid (by rw [← hw8]; exact (HR7.out.keep (HR0e.out.cell 0) (by simp) _).keep ((HR0e.out.set_ 0 (.bool bq)).cell 1) (by simp) _)
 clear hw8
 refine hK.out _ _ ?_ (fun hHeld => ?_)
 ·exact ⟨HG10d.out.cell 0, HG10d.out.cell 1, HG11d.out.cell 0, HG11d.out.cell 1⟩
 clear hK K
 try simp only [Act.put, sA_, sB_, sC_]
 refine wpAnyH_done (by kernel_rfl) ?_ _
 refine lastQ_go (by rfl) ?_
 clear HBW HG10c HG11c HR0e HR1e HQ7 HR7
 have d0 := HR1f.out.cell 0
 have d1 := HR1f.out.cell 1
 have df := HR1f.out.frozen
 have dl := HR1f.out.lt
 go_wp2_with fail
 clear d0 d1 df dl
 generalize hw9 : (w8.setCell ⟨w.heap.size + 1 + 1 + 1, 0, none⟩ _).setCell ⟨w.heap.size + 1 + 1 + 1, 1, none⟩ _ = w9
 have HR0g : Hid (Blk w9 (w.heap.size + 1 + 1) 91 #[.bool bq, .slice Aq2 nq2 cq2]) := Lib.hid (by rw [← hw9]; exact (HR0f.out.far e6.symm _).far e6.symm _)
 have HR1g : Hid (Blk w9 (w.heap.size + 1 + 1 + 1) 91 #[.bool false, .slice Ar2 nr2 cr2]) := Lib.hid (by rw [← hw9]; exact blk_set2 HR1f.out)
 have HB9 : Hid (Below w.heap.size w w9) := Lib.hid (by rw [← hw9]; exact below_set2 HB8.out hgs3)
 have HQ9 : Hid (LgIs w9 w9.heap.size ((x / y : Nat) : Int) bq Aq2 nq2 cq2) := Lib.hid (by rw [← hw9]; exact (HQ8.out.keep (HR1f.out.cell 0) (by simp) _).keep ((HR1f.out.set_ 0 (.bool false)).cell 1) (by simp) _)
 have HR9 : Hid (LgIs w9 w9.heap.size ((x % y : Nat) : Int) false Ar2 nr2 cr2) := Lib.hid (by rw [← hw9]; exact (HR8.out.keep (HR1f.out.cell 0) (by simp) _).keep ((HR1f.out.set_ 0 (.bool false)).cell 1) (by simp) _)
 clear hw9
 have q0 := HR0g.out.cell 0
 have q1 := HR0g.out.cell 1
 have q2 := HR1g.out.cell 0
 have q3 := HR1g.out.cell 1
 exact bodyPost_ret (v := .tuple #[.agg #[.bool bq, .slice Aq2 nq2 cq2], .agg #[.bool false, .slice Ar2 nr2 cr2]]) (by simp [results, Tryz.results117, go_sem, q0, q1, q2, q3]) rfl ⟨below_drew HB9.out, bq, Aq2, nq2, cq2, false, Ar2, nr2, cr2, rfl, HQ9.out.up (below_drew (Below.refl _ _)), HR9.out.up (below_drew (Below.refl _ _))⟩
end
section
open Go.ChangeShapes Go.WideShapes Go.ChangeAt Go.RowKit
attribute [local go_sem ↓] execOp_call_val
attribute [local go_sem] callVal_func setCell_drewN alloc_drewN
theorem lg_abs {w : World} {B : Nat} {z : Int} {b : Bool} {A : Option Addr} {n c : Nat} (h : LgIs w B z b A n c) : LgIs w B (z.natAbs : Int) false A n c :=
 ⟨by simp, by rw [Int.natAbs_natCast]; exact h.en, by rw [Int.natAbs_natCast]; exact h.rd, h.nc, h.cm⟩
set_option maxRecDepth 100000 in
set_option maxHeartbeats 4000000 in
theorem gcd_any (y0 z0 : Int) (b1 : Bool) (A : Option Addr) (n c : Nat) (b2 : Bool) (B : Option Addr) (m d : Nat) (w : World) (h1 : LgIs w w.heap.size y0 b1 A n c) (h2 : LgIs w w.heap.size z0 b2 B m d) (hn : n ≤ 35184372088832) (hm : m ≤ 35184372088832) :
    Calls Tryz.prog 116 #[.agg #[.bool b1, .slice A n c], .agg #[.bool b2, .slice B m d]] w (LgP ((y0.natAbs.gcd z0.natAbs : Nat) : Int) w) := by
 have HB0 : Hid (Below w.heap.size w (((w.alloc (.cells #[.bool false, .slice A n c] 91)).alloc (.cells #[.bool false, .slice B m d] 91)).alloc (.cells #[.bool false, .slice none 0 0] 91))) := Lib.hid ((((Below.refl _ _).alloc (Nat.le_refl _) _).alloc (by simp) _).alloc (by simp; omega) _)
 have HX1 : Hid (Blk (((w.alloc (.cells #[.bool false, .slice A n c] 91)).alloc (.cells #[.bool false, .slice B m d] 91)).alloc (.cells #[.bool false, .slice none 0 0] 91)) w.heap.size 91 #[.bool false, .slice A n c]) := Lib.hid (((Blk.new w _ _).alloc _).alloc _)
 have HX2 : Hid (Blk (((w.alloc (.cells #[.bool false, .slice A n c] 91)).alloc (.cells #[.bool false, .slice B m d] 91)).alloc (.cells #[.bool false, .slice none 0 0] 91)) (w.heap.size + 1) 91 #[.bool false, .slice B m d]) := Lib.hid ((Blk.new_ (by simp)).alloc _)
 have HR : Hid (Blk (((w.alloc (.cells #[.bool false, .slice A n c] 91)).alloc (.cells #[.bool false, .slice B m d] 91)).alloc (.cells #[.bool false, .slice none 0 0] 91)) (w.heap.size + 1 + 1) 91 #[.bool false, .slice none 0 0]) := Lib.hid (Blk.new_ (by simp))
 have H1b := Lib.hid (lg_abs (h1.up HB0.out))
 have H2b := Lib.hid (lg_abs (h2.up HB0.out))
 clear h1 h2
 have e01 : w.heap.size ≠ w.heap.size + 1 := by omega
 have e10 : w.heap.size + 1 ≠ w.heap.size := by omega
 have e20 : w.heap.size + 1 + 1 ≠ w.heap.size := by omega
 have e21 : w.heap.size + 1 + 1 ≠ w.heap.size + 1 := by omega
 obtain ⟨GG, hG⟩ : ∃ g, y0.natAbs.gcd z0.natAbs = g := ⟨_, rfl⟩
 rw [hG]
 go_enter Tryz.func116, Tryz.ntmps116
 go_wp2_with fail
 generalize (((w.alloc (.cells #[.bool false, .slice A n c] 91)).alloc (.cells #[.bool false, .slice B m d] 91)).alloc (.cells #[.bool false, .slice none 0 0] 91)) = W1 at *
 go_loopg [5] z0.natAbs (fun k v5 wr => ∃ (x y : Nat) (A : Option Addr) (n c : Nat) (B : Option Addr) (m d : Nat), k = y ∧ x.gcd y = GG ∧ Below w.heap.size w wr ∧ Blk wr w.heap.size 91 #[.bool false, .slice A n c] ∧ Blk wr (w.heap.size + 1) 91 #[.bool false, .slice B m d] ∧ Blk wr (w.heap.size + 1 + 1) 91 #[.bool false, .slice none 0 0] ∧ LgIs wr wr.heap.size (x : Int) false A n c ∧ LgIs wr wr.heap.size (y : Int) false B m d ∧ n ≤ 35184372088832 ∧ m ≤ 35184372088832)
 case atStart => exact ⟨_, _, A, n, c, B, m, d, rfl, hG, HB0.out, HX1.out, HX2.out, HR.out, H1b.out, H2b.out, hn, hm⟩
 case round =>
  clear HB0 HX1 HX2 HR H1b H2b hn hm hG
  obtain ⟨x, y, A, n, c, B, m, d, hk, hg, hbr, hp2, hp3, hp4, hx, hy, hn, hm⟩ := hrel
  have HKY := Lib.hid hk
  clear hk
  have HG := Lib.hid hg
  have HBR := Lib.hid hbr
  have HP2 := Lib.hid hp2
  have HP3 := Lib.hid hp3
  have HP4 := Lib.hid hp4
  have HX := Lib.hid hx
  have HY := Lib.hid hy
  have HML := Lib.hid hm
  have z0 := HP3.out.cell 0
  have z1 := HP3.out.cell 1
  have zl := HP3.out.lt
  clear hg hbr hp2 hp3 hp4 hx hy hm
  go_wp2_with fail
  refine (lsign_any (y : Int) false B m d wr HY.out).mono ?_
  rintro e w1 ⟨rfl, hb1⟩
  clear z0 z1 zl
  have HBR1 := Lib.hid (HBR.out.trans (hb1.mono HBR.out.size))
  have HP21 := Lib.hid (HP2.out.below hb1 HP2.out.lt)
  have HP31 := Lib.hid (HP3.out.below hb1 HP3.out.lt)
  have HP41 := Lib.hid (HP4.out.below hb1 HP4.out.lt)
  have HX1 := Lib.hid (HX.out.up hb1)
  have HY1 := Lib.hid (HY.out.up hb1)
  clear hb1 HBR HP2 HP3 HP4 HX HY
  by_cases hy : y = 0
  ·subst hy
   have hs : ((0 : Nat) : Int).sign = 0 := rfl
   rw [hs]
   clear hs
   have hgx : x = GG := by rw [← HG.out, Nat.gcd_zero_right]
   subst hgx
   have a0 := HP21.out.cell 0
   have a1 := HP21.out.cell 1
   have al := HP21.out.lt
   have hgs : w.heap.size ≤ w.heap.size + 1 + 1 := by omega
   have z0 := HP41.out.cell 0
   have z1 := HP41.out.cell 1
   have zf := HP41.out.frozen
   have zl := HP41.out.lt
   go_wp2_with fail
   generalize hW9 : (w1.setCell ⟨_, 0, none⟩ _).setCell ⟨_, 1, none⟩ _ = W9
   have HP9 := Lib.hid (lg_put (e := .returned (.agg #[.bool false, .slice A n c])) HBR1.out hgs HP41.out (by simp) (by simp) HX1.out rfl)
   rw [hW9] at HP9
   have HB9 : Hid (Blk W9 _ 91 #[.bool false, .slice A n c]) := Lib.hid (by rw [← hW9]; exact blk_set2 HP41.out)
   clear hW9 z0 z1 zf zl
   have q0 := HB9.out.cell 0
   have q1 := HB9.out.cell 1
   exact bodyPost_ret (v := .agg #[.bool false, .slice A n c]) (by simp [results, Tryz.results116, go_sem, q0, q1]) rfl HP9.out
  ·have hs : (y : Int).sign = 1 := Int.sign_eq_one_of_pos (by omega)
   rw [hs]
   clear hs
   have hy0 : 0 < y := by omega
   clear hy
   have a0 := HP21.out.cell 0
   have a1 := HP21.out.cell 1
   have al := HP21.out.lt
   have z0 := HP31.out.cell 0
   have z1 := HP31.out.cell 1
   have zl := HP31.out.lt
   have hxn : n = dlen x := by rw [HX1.out.en, Int.natAbs_natCast]
   have hyn : m = dlen y := by rw [HY1.out.en, Int.natAbs_natCast]
   have hnc := HX1.out.nc
   have hcm := HX1.out.cm
   clear hxn hyn
   go_wp2_with fail
   refine (divW_any A n c B m d x y w1 (by have := HX1.out.rd; exact this) (by have := HY1.out.rd; exact this) hy0 hnc hcm hn HML.out).mono ?_
   rintro e W2 ⟨hb2, Aq, nq, cq, lq, Ar, nr, cr, lr, rfl, -, ⟨hr1, hr2, hr3, hr4, hr5⟩, -, hnr⟩
   clear a0 a1 al z0 z1 zl
   have HBr := Lib.hid (HBR1.out.trans (hb2.mono HBR1.out.size))
   have HP2 := Lib.hid (HP21.out.below hb2 HP21.out.lt)
   have HP3 := Lib.hid (HP31.out.below hb2 HP31.out.lt)
   have HP4 := Lib.hid (HP41.out.below hb2 HP41.out.lt)
   have HY2 := Lib.hid (HY1.out.up hb2)
   have HRR : Hid (RdW W2.drew W2.drew.heap.size Ar nr lr) := Lib.hid hr1
   have HRD := Lib.hid hr2
   have HRV : Hid (sgn false (wv lr) = ((x % y : Nat) : Int)) := Lib.hid (by rw [hr3]; rfl)
   clear hb2 hr1 hr2 hr3 hr4 hr5 HBR1 HP21 HP31 HP41 HX1 HY1 hnc hcm
   have z0 := HP3.out.cell 0
   have z1 := HP3.out.cell 1
   have zl := HP3.out.lt
   go_wp2_with fail
   refine wp_region_last (S := fun w' => w'.cell? ⟨w.heap.size + 1, 0, none⟩ = some (.bool false) ∧ w'.cell? ⟨w.heap.size + 1, 1, none⟩ = some (.slice B m d)) 5 _ (by kernel_rfl) (by kernel_rfl) rfl ⟨z0, z1⟩ (fun hHeld => ?_)
   simp only [List.take_succ_cons, List.take_zero]
   refine takeH 0 (v := ?_) rfl (by kernel_rfl) (fun _ _ _ h => h) (by rfl) ?_ hHeld ?_
   rotate_left 1
   ·intro w' hSw; obtain ⟨s0, s1⟩ := hSw; go_simp <;> with_reducible rfl
   try simp only [Act.put, sA_, sB_, sC_]
   refine takeH 1 (v := ?_) rfl (by kernel_rfl) (fun _ _ _ h => h) (by rfl) ?_ hHeld ?_
   rotate_left 1
   ·intro w' hSw; obtain ⟨s0, s1⟩ := hSw; go_simp <;> with_reducible rfl
   try simp only [Act.put, sA_, sB_, sC_]
   clear z0 z1
   refine stepH 2 (by kernel_rfl) rfl (fun K hK => ?_)
   go_simp
   refine (cloneW Ar nr cr lr W2.drew HRR.out (by omega)).mono ?_
   rintro e w3 ⟨hb3, A3, c3, rfl, hr3, hn3, hc3⟩
   have HB3 := Lib.hid ((below_drew (Below.refl W2.heap.size W2)).trans hb3)
   have HR3 := Lib.hid hr3
   clear hb3 hr3
   go_simp
   refine hK.out _ _ ?_ (fun hHeld => ?_)
   ·exact ⟨(HP3.out.below HB3.out HP3.out.lt).cell 0, (HP3.out.below HB3.out HP3.out.lt).cell 1⟩
   clear hK K
   try simp only [Act.put, sA_, sB_, sC_]
   refine stepH 3 (by kernel_rfl) rfl (fun K hK => ?_)
   go_simp
   refine (norm_any false A3 nr c3 lr w3 HR3.out HRD.out hn3 hc3).mono ?_
   rw [HRV.out]
   rintro e w4 ⟨hb4, b4, A4, n4, c4, rfl, h4⟩
   have HB4 := Lib.hid (HB3.out.trans (hb4.mono HB3.out.size))
   have H4 := Lib.hid h4
   clear hb4 h4 hn3 hc3 HR3
   go_simp
   refine hK.out _ _ ?_ (fun hHeld => ?_)
   ·exact ⟨(HP3.out.below HB4.out HP3.out.lt).cell 0, (HP3.out.below HB4.out HP3.out.lt).cell 1⟩
   clear hK K
   try simp only [Act.put, sA_, sB_, sC_]
   have hb40 : b4 = false := by rw [H4.out.eb]; exact decide_eq_false (by omega)
   subst hb40
   have HP2b := Lib.hid (HP2.out.below HB4.out HP2.out.lt)
   have HP3b := Lib.hid (HP3.out.below HB4.out HP3.out.lt)
   have HP4b := Lib.hid (HP4.out.below HB4.out HP4.out.lt)
   have z0 := HP2b.out.cell 0
   have z1 := HP2b.out.cell 1
   have zf := HP2b.out.frozen
   have zl := HP2b.out.lt
   refine stepH 4 (by kernel_rfl) rfl (fun K hK => ?_)
   go_simp
   clear z0 z1 zf zl
   generalize hw5 : (w4.setCell ⟨w.heap.size, 0, none⟩ _).setCell ⟨w.heap.size, 1, none⟩ _ = w5
   have HP2c : Hid (Blk w5 w.heap.size 91 #[.bool false, .slice B m d]) := Lib.hid (by rw [← hw5]; exact blk_set2 HP2b.out)
   have HP3c : Hid (Blk w5 (w.heap.size + 1) 91 #[.bool false, .slice B m d]) := Lib.hid (by rw [← hw5]; exact (HP3b.out.far e10 _).far e10 _)
   have HP4c : Hid (Blk w5 (w.heap.size + 1 + 1) 91 #[.bool false, .slice none 0 0]) := Lib.hid (by rw [← hw5]; exact (HP4b.out.far e20 _).far e20 _)
   have HBc : Hid (Below w.heap.size w w5) := Lib.hid (by rw [← hw5]; exact below_set2 (HBr.out.trans (HB4.out.mono HBr.out.size)) (Nat.le_refl _))
   have HYc : Hid (LgIs w5 w5.heap.size (y : Int) false B m d) := Lib.hid (by rw [← hw5]; exact ((HY2.out.up HB4.out).keep (HP2b.out.cell 0) (by simp) _).keep ((HP2b.out.set_ 0 (.bool false)).cell 1) (by simp) _)
   have HRc : Hid (LgIs w5 w5.heap.size ((x % y : Nat) : Int) false A4 n4 c4) := Lib.hid (by rw [← hw5]; exact (H4.out.keep (HP2b.out.cell 0) (by simp) _).keep ((HP2b.out.set_ 0 (.bool false)).cell 1) (by simp) _)
   clear hw5
   refine hK.out _ _ ?_ (fun hHeld => ?_)
   ·exact ⟨HP3c.out.cell 0, HP3c.out.cell 1⟩
   clear hK K
   try simp only [Act.put, sA_, sB_, sC_]
   refine wpAnyH_done (by kernel_rfl) ?_ _
   refine lastQ_go (by rfl) ?_
   have z0 := HP3c.out.cell 0
   have z1 := HP3c.out.cell 1
   have zf := HP3c.out.frozen
   have zl := HP3c.out.lt
   go_wp2_with fail
   clear z0 z1 zf zl
   generalize hw6 : (w5.setCell ⟨w.heap.size + 1, 0, none⟩ _).setCell ⟨w.heap.size + 1, 1, none⟩ _ = w6
   have HP2d : Hid (Blk w6 w.heap.size 91 #[.bool false, .slice B m d]) := Lib.hid (by rw [← hw6]; exact (HP2c.out.far e01 _).far e01 _)
   have HP3d : Hid (Blk w6 (w.heap.size + 1) 91 #[.bool false, .slice A4 n4 c4]) := Lib.hid (by rw [← hw6]; exact blk_set2 HP3c.out)
   have HP4d : Hid (Blk w6 (w.heap.size + 1 + 1) 91 #[.bool false, .slice none 0 0]) := Lib.hid (by rw [← hw6]; exact (HP4c.out.far e21 _).far e21 _)
   have HBd : Hid (Below w.heap.size w w6) := Lib.hid (by rw [← hw6]; exact below_set2 HBc.out (Nat.le_succ _))
   have HYd : Hid (LgIs w6 w6.heap.size (y : Int) false B m d) := Lib.hid (by rw [← hw6]; exact (HYc.out.keep (HP3c.out.cell 0) (by simp) _).keep ((HP3c.out.set_ 0 (.bool false)).cell 1) (by simp) _)
   have HRd : Hid (LgIs w6 w6.heap.size ((x % y : Nat) : Int) false A4 n4 c4) := Lib.hid (by rw [← hw6]; exact (HRc.out.keep (HP3c.out.cell 0) (by simp) _).keep ((HP3c.out.set_ 0 (.bool false)).cell 1) (by simp) _)
   clear hw6
   have HM4 : Hid (n4 ≤ 35184372088832) := Lib.hid (by rw [HRc.out.en]; refine Nat.le_trans ?_ HML.out; rw [HYc.out.en]; exact dlen_mono (by rw [Int.natAbs_natCast, Int.natAbs_natCast]; exact Nat.le_of_lt (Nat.mod_lt _ hy0)))
   have HGC : Hid (y.gcd (x % y) = GG) := Lib.hid (by rw [← HG.out, Nat.gcd_comm x y, Nat.gcd_rec y x, Nat.gcd_comm])
   have HMS : Hid (x % y < gk) := Lib.hid (by rw [HKY.out]; exact Nat.mod_lt _ hy0)
   go_roundg (x % y)
   case rel => exact ⟨y, x % y, B, m, d, A4, n4, c4, rfl, HGC.out, HBd.out, HP2d.out, HP3d.out, HP4d.out, HYd.out, HRd.out, HML.out, HM4.out⟩
   case measure => exact HMS.out
end
section
open Go.ChangeShapes Go.WideShapes Go.ChangeAt Go.RowKit
attribute [local go_sem ↓] execOp_call_val
attribute [local go_sem] callVal_func setCell_drewN alloc_drewN
theorem ownL_up {w w' : World} {base e size n : Nat} {v : Value} {xs : List Value} (h : w.ownsRow base e size v n xs) (hb : Below w.heap.size w w') : w'.ownsRow base e size v n xs := by
 refine ⟨h.1, ?_⟩
 rcases h.2 with h1 | ⟨g, cap, cur, h1, h2, h3, h4⟩
 ·exact .inl h1
 ·refine .inr ⟨g, cap, cur, h1, h2, ?_, h4⟩
  have hg : g < w.heap.size := by
   rcases Nat.lt_or_ge g w.heap.size with hlt | hge
   ·exact hlt
   ·rw [Array.getElem?_eq_none hge] at h3; cases h3
  exact (hb.block g hg).trans h3
theorem rdW_grown {w w' : World} {B n g o : Nat} {l : List Nat} {row : Option Nat} {ob : Obj} (h : RdW w B (some ⟨g, o, none⟩) n l) (hB : B ≤ w.heap.size) (hg : (w.alloc ob).grownBy w' row) (hne : some g ≠ row) : RdW w' w'.heap.size (some ⟨g, o, none⟩) n l :=
 ⟨h.1, fun hn => by
  obtain ⟨b, off, e, hlt, hc⟩ := h.2 hn
  injection e with e
  injection e with e1 e2
  subst e1; subst e2
  have hs := hg.size
  simp at hs
  exact ⟨g, o, rfl, by omega, fun j u hu => hg.cell (Lib.cell?_alloc_some _ (hc j u hu)) hne⟩⟩
theorem zeros_at : ∀ L : Nat, 1 ≤ L → L ≤ 9 → ∀ W, (Instr.sliceAt 9 (.string ⟨#[48, 48, 48, 48, 48, 48, 48, 48, 48]⟩) (some (.int .i64 (L : Int))) none none).run Tryz.prog W = .ok (.string ⟨(List.replicate (9 - L) 48).toArray⟩) W := by
 intro L h1 h9 W
 rw [run_sliceAt_string W 9 _ _ _ _ Tryz.underlying9, run_slice_string_l W 9 _ Tryz.underlying9 .i64 (L : Int) (by omega) (by show _ ≤ (9 : Int); omega)]
 have : L = 1 ∨ L = 2 ∨ L = 3 ∨ L = 4 ∨ L = 5 ∨ L = 6 ∨ L = 7 ∨ L = 8 ∨ L = 9 := by omega
 rcases this with rfl | rfl | rfl | rfl | rfl | rfl | rfl | rfl | rfl <;> rfl
theorem bld_up {T e : TypeId} {B b : Nat} {bs : List Value} {w w' : World} (h : Lib.IsBuilder T e B b bs w) (hb : Below w.heap.size w w') : Lib.IsBuilder T e B b bs w' := by
 have key : ∀ p, Lib.BuilderAt T e B b p bs w → Lib.BuilderAt T e B b p bs w' := fun p h => by
  have hlt := h.lt
  obtain ⟨h1, v, h2, h3, h4⟩ := h
  exact ⟨h1, v, (hb.block b hlt).trans h2, ownL_up h3 hb, h4⟩
 exact h.elim (fun h => .inl (key _ h)) fun h => .inr (key _ h)
theorem sz_arr (l : List UInt8) : (⟨l.toArray⟩ : ByteArray).size = l.length := by simp [ByteArray.size]
def ItP (z : Int) (w : World) (e : Ending) (w' : World) : Prop := Below w.heap.size w w' ∧ ∃ s, e = .returned (.tuple #[.string s, .bool (decide (ndg z.natAbs ≤ 2000))]) ∧ (ndg z.natAbs ≤ 2000 → s = ⟨(textL z).toArray⟩) ∧ s.size ≤ 3000
def TxI (T : TypeId) (w wr : World) (V k : Nat) (v4 v5 : Value) : Prop := ∃ (ps : List Nat) (A : Option Addr) (n c : Nat), v5 = .slice A n c ∧ RdW wr wr.heap.size A n (dig k) ∧ n ≤ c ∧ c ≤ 9223372036854775807 ∧ wr.ownsRow w.heap.size T 1 v4 ps.length (u32s ps) ∧ Below w.heap.size w wr ∧ V = pv ps + k * 1000000000 ^ ps.length ∧ PsOk ps ∧ (k = 0 → ps ≠ [] ∧ PsTop ps) ∧ ps.length ≤ 225
set_option maxRecDepth 100000 in
set_option maxHeartbeats 8000000 in
theorem itext_any (z : Int) (b : Bool) (A : Option Addr) (n c : Nat) (w : World) (h : LgIs w w.heap.size z b A n c) (ht : TabOk w) :
    Calls Tryz.prog 93 #[.agg #[.bool b, .slice A n c]] w (ItP z w) := by
 have HB0 : Hid (Below w.heap.size w (w.alloc (.cells #[.bool b, .slice A n c] 91))) := Lib.hid ((Below.refl _ _).alloc (Nat.le_refl _) _)
 have HX1 := Lib.hid (Blk.new w 91 #[.bool b, .slice A n c])
 have H1 := Lib.hid (h.up HB0.out)
 have HT := Lib.hid (ht.up HB0.out)
 have HEN := Lib.hid h.en
 have HEB := Lib.hid h.eb
 have hnc := h.nc
 have hcm := h.cm
 obtain ⟨i0, hi0, hz0, hz1, hz2⟩ := info_parts info_u32
 have HI0 := Lib.hid hi0
 have HI1 := Lib.hid hz0
 have HI2 := Lib.hid hz1
 have HI3 := Lib.hid hz2
 clear h ht hi0 hz0 hz1 hz2
 go_enter Tryz.func93, Tryz.ntmps93
 go_upto_region 1 with fail
 generalize w.alloc (.cells #[.bool b, .slice A n c] 91) = W at *
 have p0 := HX1.out.cell 0
 have p1 := HX1.out.cell 1
 have pl := HX1.out.lt
 by_cases h0 : n = 0
 ·subst h0
  have hz : z = 0 := by
   have h := HEN.out
   refine Classical.byContradiction fun hne => ?_
   rw [dlen_pos (by omega)] at h
   omega
  subst hz
  go_wp2_with fail
  go_ret2
  have hd : decide (ndg (0 : Int).natAbs ≤ 2000) = true := by decide +kernel
  have ht0 : textL 0 = [48] := by unfold textL; rw [show (0 : Int).natAbs = 0 from rfl, dec_small (by decide)]; rfl
  exact ⟨HB0.out, ⟨#[48]⟩, by rw [hd]; rfl, fun _ => by rw [ht0], by decide⟩
 ·have hn0b : ((n : Int) == 0) = false := by simp; omega
  by_cases h210 : 210 < n
  ·have hfit : ¬ ndg z.natAbs ≤ 2000 := Nat.not_le.2 (many_words (by rw [← HEN.out]; exact h210))
   have hnI : (210 : Int) < (n : Int) := by omega
   go_wp2_with fail
   go_ret2
   exact ⟨HB0.out, _, by rw [decide_eq_false hfit]; rfl, fun h => absurd h hfit, by decide⟩
  ·have hnI : (n : Int) ≤ 210 := by omega
   have hz0 : z.natAbs ≠ 0 := fun e => h0 (by rw [HEN.out, e]; exact dlen_zero)
   clear h0
   go_wp2_with fail
   clear p0 p1 pl hn0b hnI
   go_loopg [4, 5] z.natAbs (fun k v4 v5 wr => TxI 171 W wr z.natAbs k v4 v5)
   case atStart => exact ⟨[], A, n, c, rfl, H1.out.rd, hnc, hcm, World.ownsRow_nil _ _ _ _, Below.refl _ _, by simp [pv], fun x hx => (by cases hx), fun e => absurd e hz0, by simp⟩
   case round =>
    obtain ⟨ps, A5, n5, c5, rfl, hr5, hn5, hc5, ho4, hb5, hv5, hps, htop, hlen⟩ := hrel
    have HR5 := Lib.hid hr5
    have HO4 := Lib.hid ho4
    have HB5 := Lib.hid hb5
    have HV5 := Lib.hid hv5
    have HPS := Lib.hid hps
    have HTP := Lib.hid htop
    have HL5 : Hid (n5 = dlen gk) := Lib.hid (by rw [← hr5.len]; rfl)
    clear hr5 ho4 hb5 hv5 hps htop
    by_cases hk : gk = 0
    ·subst hk
     have hn5 : n5 = 0 := by rw [HL5.out, dlen_zero]
     subst hn5
     have hk0' : (0 : Nat) = 0 := rfl
     obtain ⟨hne, htp⟩ := HTP.out hk0'
     have HTOP := Lib.hid htp
     obtain ⟨L, hL⟩ : ∃ L, ps.length = L := ⟨_, rfl⟩
     have HLN := Lib.hid hL
     rw [hL] at HO4 hlen
     have hL0 : 0 < L := by rw [← hL]; exact List.length_pos_iff.2 hne
     have HD0 : Hid (Dg ps 0 = Lib.decDigits z.natAbs) := Lib.hid (by rw [dg_all hne, HV5.out, Nat.zero_mul, Nat.add_zero])
     have hde : Dg ps L = [] := by rw [← hL]; exact dg_end ps
     have HDE := Lib.hid hde
     clear hL hk0' hne htp
     obtain ⟨A4, c4, e4, hr4, hn4, hc4⟩ := rdW_own HO4.out
     subst e4
     have HR4 := Lib.hid hr4
     have HXr := Lib.hid (HX1.out.below HB5.out HX1.out.lt)
     have HTr := Lib.hid (HT.out.up (HB5.out))
     have HBr := Lib.hid (HB0.out.trans (HB5.out.mono HB0.out.size))
     have HB6 := Lib.hid ((Below.refl wr.heap.size wr).alloc (Nat.le_refl _) (.cells #[.pointer none, .slice none 0 0] 185))
     have HBL : Hid (Lib.IsBuilder 185 5 wr.heap.size wr.heap.size (Lib.byteCells (Dg ps L)) (wr.alloc (.cells #[.pointer none, .slice none 0 0] 185))) := Lib.hid (.inl ⟨Nat.le_refl _, .slice none 0 0, heap_alloc_new wr _, by rw [hde]; exact World.ownsRow_nil _ _ _ _, by simp [Value.ownBlock]⟩)
     clear hr4 hn4 hc4 HR5 HO4 HV5 HL5 HTP hde
     have hLI : (1 : Int) ≤ (L : Int) := by omega
     have hLI2 : (L : Int) ≤ 225 := by omega
     go_wp2_with fail
     clear hLI hLI2
     generalize wr = Wp at *
     have hBP : Wp.heap.size ≤ Wp.heap.size := Nat.le_refl _
     go_loopw [9, 10] (fun v9 v10 wr => ∃ k : Nat, k ≤ L ∧ v9 = .int .i64 ((k : Int) - 1) ∧ Lib.IsBuilder 185 5 Wp.heap.size Wp.heap.size (Lib.byteCells (Dg ps k)) wr ∧ Below Wp.heap.size Wp wr ∧ (Dg ps k).length + 9 * k ≤ 9 * L) (fun v9 _ _ => (intOf v9 + 1).toNat)
     case atStart => exact ⟨L, Nat.le_refl _, rfl, HBL.out, HB6.out, by rw [HDE.out]; simp⟩
     case round =>
      clear HBL HB6
      obtain ⟨k, hkL, rfl, hbl, hb2, hdl⟩ := hrel
      have HBL := Lib.hid hbl
      have HB2 := Lib.hid hb2
      have hWs : Wp.heap.size ≤ wr.heap.size := hb2.size
      clear hbl hb2
      by_cases hk : k = 0
      ·subst hk
       have e : (((0 : Nat) : Int) - 1) = -1 := rfl
       rw [e]
       clear e
       rw [HD0.out] at HBL
       have hne : Lib.decDigits z.natAbs ≠ [] := fun e => by have := dec_len_pos z.natAbs; rw [e] at this; simp at this
       go_wp2_with fail
       refine (Tryz.Builder_String Wp.heap.size Wp.heap.size (Lib.decDigits z.natAbs) wr HBL.out hne).mono ?_
       rintro e w3 ⟨rfl, hb3⟩
       have HB3 : Hid (Below Wp.heap.size Wp w3) := Lib.hid (HB2.out.trans hb3)
       have HX3 := Lib.hid (HXr.out.below HB3.out HXr.out.lt)
       have HBF := Lib.hid (HBr.out.trans (HB3.out.mono HBr.out.size))
       obtain ⟨sb, hsb⟩ : ∃ sb : ByteArray, ⟨(Lib.decDigits z.natAbs).toArray⟩ = sb := ⟨_, rfl⟩
       have HSB := Lib.hid hsb
       rw [hsb]
       obtain ⟨N, hN⟩ : ∃ N, sb.size = N := ⟨_, rfl⟩
       have HNN : Hid (ndg z.natAbs = N) := Lib.hid (by rw [← hN, ← hsb, sz_arr]; rfl)
       have hNb2 : N ≤ 2025 := by
        have : N = (Lib.decDigits z.natAbs).length := by rw [← hN, ← hsb, sz_arr]
        rw [HD0.out, ← this] at hdl
        omega
       have hNb : ¬ 9223372036854775807 < 1 + N := by omega
       clear hb3 HB2 HBL hsb hne hdl
       have p0 := HX3.out.cell 0
       have pl := HX3.out.lt
       have hfd : decide (ndg z.natAbs ≤ 2000) = decide ((N : Int) ≤ 2000) := by rw [HNN.out]; exact decide_eq_decide.2 (by omega)
       have HFD := Lib.hid hfd
       clear hfd
       have HNB := Lib.hid hNb2
       have HEND : Hid (∀ s, s = (⟨(textL z).toArray⟩ : ByteArray) → ItP z w (.returned (.tuple #[.string s, .bool (decide ((N : Int) ≤ 2000))])) w3) := Lib.hid fun s hs => ⟨HBF.out, s, by rw [HFD.out], fun _ => hs, by
        rw [hs, sz_arr]
        have h1 := HNB.out
        have h2 := HNN.out
        unfold ndg at h2
        unfold textL
        rw [List.length_append]
        split <;> simp <;> omega⟩
       cases b with
       | true =>
        have hz : z < 0 := by simpa using HEB.out.symm
        have HTX : Hid ((⟨#[45]⟩ : ByteArray) ++ sb = ⟨(textL z).toArray⟩) := Lib.hid (by
         rw [← HSB.out]
         apply ByteArray.ext
         unfold textL
         rw [if_pos hz]
         simp)
        go_wp2_with fail
        go_ret2
        exact HEND.out _ HTX.out
       | false =>
        have hz : ¬ z < 0 := by simpa using HEB.out.symm
        have HTX : Hid (sb = ⟨(textL z).toArray⟩) := Lib.hid (by
         rw [← HSB.out]
         unfold textL
         rw [if_neg hz, List.nil_append])
        go_wp2_with fail
        go_ret2
        exact HEND.out _ HTX.out
      ·obtain ⟨j, rfl⟩ : ∃ j, k = j + 1 := ⟨k - 1, by omega⟩
       have e : (((j + 1 : Nat) : Int) - 1) = (j : Int) := by omega
       rw [e]
       clear e hk
       have hjL : j < L := hkL
       obtain ⟨x, hx⟩ : ∃ x, ps[j]? = some x := ⟨_, List.getElem?_eq_getElem (by have := HLN.out; omega)⟩
       have hx9 := HPS.out x (List.mem_of_getElem? hx)
       have hxd : ps.getD j 0 = x := by rw [List.getD_eq_getElem?_getD, hx]; rfl
       obtain ⟨b4, o4, hA4, hb4⟩ := HR4.out.form (by omega)
       subst hA4
       have hc := (HR4.out.below HB2.out (Nat.le_refl _)).at_ (i := j) (by omega)
       rw [hxd] at hc
       have hjI : (j : Int) < (L : Int) := by omega
       have hx64 : (x : Int) % 18446744073709551616 = (x : Int) := by omega
       have HXJ := Lib.hid hx
       have HDL := Lib.hid (dg_len hx HPS.out)
       have HRM : Hid ((intOf (Value.int .i64 ((j : Int) - 1)) + 1).toNat < (intOf (Value.int .i64 (j : Int)) + 1).toNat) := Lib.hid (by simp [intOf])
       clear hxd hx
       go_wp2_with fail
       refine (fmt_any x (by omega) wr (HTr.out.up (HB2.out.mono (Nat.le_refl _)))).mono ?_
       rintro e w3 ⟨rfl, hb3⟩
       have HB3 := Lib.hid (HB2.out.trans (hb3.mono hWs))
       have HBL3 := Lib.hid (bld_up HBL.out hb3)
       have hW3 : Wp.heap.size ≤ w3.heap.size := HB3.out.size
       obtain ⟨ds, hds⟩ : ∃ ds, Lib.decDigits x = ds := ⟨_, rfl⟩
       have HDS := Lib.hid hds
       rw [hds] at HDL
       rw [hds]
       have hds1 := HDL.out.1
       have hds9 := HDL.out.2
       clear hb3 hc HB2 HBL hds
       by_cases hjt : j + 1 = L
       ·have hjI2 : ¬ (j : Int) < (L : Int) - 1 := by omega
        have HDJ : Hid (Dg ps j = ds) := Lib.hid (by rw [← HDS.out]; exact dg_top HXJ.out (by rw [HLN.out]; exact hjt))
        have HD1 : Hid (Dg ps (j + 1) = []) := Lib.hid (by rw [hjt, ← HLN.out]; exact dg_end ps)
        rw [HD1.out] at HBL3
        go_wp2_with fail
        refine (wrStr_any Wp.heap.size Wp.heap.size _ ⟨ds.toArray⟩ w3 HBL3.out (by rw [sz_arr, Lib.byteCells_length]; simp; omega) hW3).mono ?_
        rintro e w4 ⟨⟨v4, rfl⟩, hbl4, hb4⟩
        have HBL4 : Hid (Lib.IsBuilder 185 5 Wp.heap.size Wp.heap.size (Lib.byteCells (Dg ps j)) w4) := Lib.hid (.inr (by rw [HDJ.out]; exact hbl4))
        have HB4 := Lib.hid (HB3.out.trans hb4)
        have HLL : Hid ((Dg ps j).length + 9 * j ≤ 9 * L) := Lib.hid (by rw [HDJ.out]; omega)
        clear hbl4 hb4 HBL3 HB3
        go_wp2_with fail
        go_roundw
        case rel => exact ⟨j, Nat.le_of_lt hjL, rfl, HBL4.out, HB4.out, HLL.out⟩
        case measure => exact HRM.out
       ·have hjI2 : (j : Int) < (L : Int) - 1 := by omega
        have HDJ : Hid (Dg ps j = Dg ps (j + 1) ++ List.replicate (9 - ds.length) 48 ++ ds) := Lib.hid (by rw [← HDS.out]; exact dg_low HXJ.out (by rw [HLN.out]; omega) HPS.out HTOP.out)
        have hsl : ∀ W, (Instr.sliceAt 9 (.string ⟨#[48, 48, 48, 48, 48, 48, 48, 48, 48]⟩) (some (.int .i64 (ds.length : Int))) none none).run Tryz.prog W = .ok (.string ⟨(List.replicate (9 - ds.length) 48).toArray⟩) W := zeros_at ds.length hds1 hds9
        have hss : (⟨ds.toArray⟩ : ByteArray).size = ds.length := sz_arr ds
        go_wp2_with fail
        refine (wrStr_any Wp.heap.size Wp.heap.size _ ⟨Array.replicate (9 - ds.length) 48⟩ w3 HBL3.out (by rw [Lib.byteCells_length]; simp [ByteArray.size]; omega) hW3).mono ?_
        rintro e w4 ⟨⟨v4, rfl⟩, hbl4, hb4⟩
        have HBL4 : Hid (Lib.IsBuilder 185 5 Wp.heap.size Wp.heap.size (Lib.byteCells (Dg ps (j + 1) ++ List.replicate (9 - ds.length) 48)) w4) := Lib.hid (.inr (by
         rw [Lib.byteCells_append]
         have e : Lib.strCells ⟨Array.replicate (9 - ds.length) 48⟩ = Lib.byteCells (List.replicate (9 - ds.length) 48) := by rw [Lib.strCells_eq]; simp
         rw [← e]; exact hbl4))
        have HB4 := Lib.hid (HB3.out.trans hb4)
        have hW4 : Wp.heap.size ≤ w4.heap.size := HB4.out.size
        clear hbl4 hb4 HBL3 HB3 hsl hss
        go_wp2_with fail
        refine (wrStr_any Wp.heap.size Wp.heap.size _ ⟨ds.toArray⟩ w4 HBL4.out (by rw [sz_arr, Lib.byteCells_length, List.length_append, List.length_replicate]; omega) hW4).mono ?_
        rintro e w5 ⟨⟨v5, rfl⟩, hbl5, hb5⟩
        have HBL5 : Hid (Lib.IsBuilder 185 5 Wp.heap.size Wp.heap.size (Lib.byteCells (Dg ps j)) w5) := Lib.hid (.inr (by rw [HDJ.out, Lib.byteCells_append]; exact hbl5))
        have HB5 := Lib.hid (HB4.out.trans hb5)
        have HLL : Hid ((Dg ps j).length + 9 * j ≤ 9 * L) := Lib.hid (by rw [HDJ.out, List.length_append, List.length_append, List.length_replicate]; omega)
        clear hbl5 hb5 HBL4 HB4
        go_wp2_with fail
        go_roundw
        case rel => exact ⟨j, Nat.le_of_lt hjL, rfl, HBL5.out, HB5.out, HLL.out⟩
        case measure => exact HRM.out
    ·have hn5p : 0 < n5 := by rw [HL5.out, dlen_pos hk]; omega
     have hk0 : 0 < gk := by omega
     have hfew : ps.length < 225 := few_parts (v := z.natAbs) (by rw [← HEN.out]; omega) hk0 (by rw [HV5.out]; omega)
     have hn5l : n5 ≤ 35184372088832 := by
      rw [HL5.out]
      refine Nat.le_trans (dlen_mono (n := z.natAbs) ?_) (by rw [← HEN.out]; omega)
      have h1 : 1 ≤ 1000000000 ^ ps.length := Nat.one_le_pow _ _ (by decide)
      have h2 : gk * 1 ≤ gk * 1000000000 ^ ps.length := Nat.mul_le_mul_left _ h1
      rw [HV5.out]; omega
     go_wp2_with fail
     refine (sdivW A5 n5 c5 1000000000 (dig gk) wr HR5.out (wd_dig _) hn5l (by decide) (by decide)).mono ?_
     rw [wv_dig]
     rintro e w6 ⟨hb6, g6, n6, l6, rfl, hr6, hd6, hv6, hn6, hg6⟩
     have HB6 := Lib.hid (HB5.out.trans (hb6.mono HB5.out.size))
     have HO6 := Lib.hid (ownL_up HO4.out hb6)
     have HR6 := Lib.hid hr6
     have HD6 := Lib.hid hd6
     have HV6 := Lib.hid hv6
     obtain ⟨r, hr⟩ : ∃ r, gk % 1000000000 = r := ⟨_, rfl⟩
     have HR := Lib.hid hr
     rw [hr]
     have hr9 : r < 1000000000 := by rw [← hr]; exact Nat.mod_lt _ (by decide)
     have HNE : Hid (some g6 ≠ u4.ownBlock) := Lib.hid fun e => by have := (HO4.out.lt g6 e.symm).2; omega
     have HC6 := Lib.hid (cell_one_new w6 (.int .u32 (r : Int)) 171)
     clear hb6 hr6 hd6 hv6 HR5 HO4 HB5 hr
     go_wp2_with (at_builtin; refine wpList_append_own_at _ rfl (.tmp 31) (.tmp 33) _ rfl W.heap.size 171 i0 _ 1 4 Tryz.underlying89 HI0.out HI1.out HI2.out HI3.out rfl (by omega) u4 _ _ rfl (HO6.out.alloc _) ⟨_, 0, none⟩ 1 1 [.int .u32 (r : Int)] rfl rfl HC6.out ?k1 ?k2 ?k3 ?k4 ?_)
     case k1 => intro u hu; rw [List.mem_singleton.1 hu]; rfl
     case k2 => simp only [maxLen]; omega
     case k3 => omega
     case k4 => have := HB6.out.size; simp; omega
     intro v7 w7 hown7 hg7 hnil7 hat7
     have hlt6 : ∀ g, u4.ownBlock = some g → W.heap.size ≤ g := fun g hg => ((HO6.out.lt g hg).1)
     have HB7 := Lib.hid ((HB6.out.alloc HB6.out.size (.cells #[.int .u32 (r : Int)] 171)).grown hg7 (by have := HB6.out.size; simp; omega) hlt6)
     have HR7 := Lib.hid (rdW_grown HR6.out (Nat.le_refl _) hg7 HNE.out)
     have HO7 : Hid (w7.ownsRow W.heap.size 171 1 v7 (ps ++ [r]).length (u32s (ps ++ [r]))) := Lib.hid (by
      rw [List.length_append, List.length_singleton]
      unfold u32s at hown7 ⊢
      rw [List.map_append]
      exact hown7)
     clear hown7 hg7 hnil7 hat7 hlt6 HB6 HO6 HR6 HC6 HNE
     go_wp2_with fail
     refine (norm_any false (some ⟨g6, 0, none⟩) n6 n6 l6 w7 HR7.out HD6.out (Nat.le_refl _) (by omega)).mono ?_
     rw [HV6.out]
     rintro e w8 ⟨hb8, b8, A8, n8, c8, rfl, h8⟩
     have HB8 := Lib.hid (HB7.out.trans (hb8.mono HB7.out.size))
     have HO8 := Lib.hid (ownL_up HO7.out hb8)
     have HRD : Hid (RdW w8 w8.heap.size A8 n8 (dig (gk / 1000000000))) := Lib.hid h8.rd
     have hn8 := h8.nc
     have hc8 := h8.cm
     clear hb8 h8 HB7 HO7
     have HVV : Hid (z.natAbs = pv (ps ++ [r]) + gk / 1000000000 * 1000000000 ^ (ps ++ [r]).length) := Lib.hid (by
      rw [HV5.out, pv_snoc, List.length_append, List.length_singleton, Nat.pow_succ]
      have h := Nat.div_add_mod gk 1000000000
      rw [HR.out] at h
      generalize gk / 1000000000 = q at *
      generalize 1000000000 ^ ps.length = X at *
      rw [← h]
      grind)
     have HTT : Hid (gk / 1000000000 = 0 → ps ++ [r] ≠ [] ∧ PsTop (ps ++ [r])) := Lib.hid fun h0 => ⟨by simp, fun x hx => by
      have h := Nat.div_add_mod gk 1000000000
      rw [HR.out, h0] at h
      have : x = r := by simpa using hx.symm
      omega⟩
     have HLL : Hid ((ps ++ [r]).length ≤ 225) := Lib.hid (by rw [List.length_append, List.length_singleton]; omega)
     have hfd : ∀ w, (Instr.field 91 (.agg #[.bool b8, .slice A8 n8 c8]) 1).run Tryz.prog w = .ok (.slice A8 n8 c8) w := fun _ => by kernel_rfl
     have HMM : Hid (gk / 1000000000 < gk) := Lib.hid (by omega)
     go_wp2_with fail
     go_roundg (gk / 1000000000)
     case rel => exact ⟨ps ++ [r], A8, n8, c8, rfl, HRD.out, hn8, hc8, HO8.out, HB8.out, HVV.out, psOk_snoc HPS.out hr9, HTT.out, HLL.out⟩
     case measure => exact HMM.out
end
end Go.Proofs.YtakllkkmofdpaaaGreatDoor
