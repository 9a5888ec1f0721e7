/- The law SettingsCoordinates: the walk. -/
import Derived.Test.YthedpegaelpbdaaEH
import Derived.Test.YthedpegaelpbdaaEL
import Derived.Deep.DeepCutAuto
import Derived.Deep.AppendSrc
namespace Go.Proofs.Ythedpegaelpbdaa
open Go.ChangeShapes Go.WideShapes Go.ChangeAt Go.RowKit Go.Joins Go.Deep
set_option linter.unusedVariables false
attribute [local go_sem ↓] execOp_call_val
attribute [local go_sem] callVal_func setCell_drewN alloc_drewN sEq_walk NetH.cells

theorem wrGo_8 {m l h : Int} {r : List Cr} : ∀ (ps : List (Nat × Nat)) (i : Nat), (∀ p ∈ ps, ∃ a b, r[p.1]? = some a ∧ r[p.2]? = some b ∧ (cfl m l h a b).2 = 8) → wrGo m l h r ps i (-1, 0) = (0, 0, 8)
  | [], _, _ => by unfold wrGo; rfl
  | p :: t, i, H => by
    obtain ⟨a, b, ha, hb, hc⟩ := H p (List.mem_cons_self ..)
    rw [wrGo_cons ha hb, if_neg (by rw [hc]; decide), if_pos hc]
    exact wrGo_8 t (i + 1) fun q hq => H q (List.mem_cons_of_mem _ hq)
theorem cvGo_zero : ∀ {l : List Cr}, (∀ z ∈ l, ckC z.curve = 0) → cvGo l = 0
  | [], _ => rfl
  | z :: t, h => by rw [cvGo_on (h z (List.mem_cons_self ..))]; exact cvGo_zero fun y hy => h y (List.mem_cons_of_mem _ hy)
/-- the relays, the first k of them scaled -/
def sclR (r : List Cr) (dials : List Int) (k : Nat) : List Cr := r.mapIdx fun j z => if j < k then { z with curve := (scaleC z.curve (dials.getD j 0)).1 } else z
theorem sclR_zero (r : List Cr) (dials : List Int) : sclR r dials 0 = r := by
  unfold sclR
  apply List.ext_getElem?
  intro j
  simp
theorem sclR_len (r : List Cr) (dials : List Int) (k : Nat) : (sclR r dials k).length = r.length := by unfold sclR; simp
theorem sclR_at {r : List Cr} {dials : List Int} {k j : Nat} {z : Cr} (h : r[j]? = some z) : (sclR r dials k)[j]? = some (if j < k then { z with curve := (scaleC z.curve (dials.getD j 0)).1 } else z) := by
  unfold sclR; simp [h]
theorem sclR_succ {r : List Cr} {dials : List Int} {k : Nat} {z : Cr} (h : r[k]? = some z) : sclR r dials (k + 1) = (sclR r dials k).set k { z with curve := (scaleC z.curve (dials.getD k 0)).1 } := by
  have hk := (List.getElem?_eq_some_iff.1 h).1
  apply List.ext_getElem?
  intro j
  rw [List.getElem?_set]
  cases hj : r[j]? with
  | none =>
    have : r.length ≤ j := List.getElem?_eq_none_iff.1 hj
    rw [List.getElem?_eq_none (by rw [sclR_len]; exact this), if_neg (by omega), List.getElem?_eq_none (by rw [sclR_len]; exact this)]
  | some y =>
    rw [sclR_at hj, sclR_at hj]
    by_cases hkj : k = j
    · subst hkj
      rw [h] at hj; injection hj with hj; subst hj
      rw [if_pos (Nat.lt_succ_self k), if_pos rfl, if_pos (by rw [sclR_len]; exact hk)]
    · rw [if_neg hkj]
      by_cases hl : j < k
      · rw [if_pos hl, if_pos (by omega)]
      · rw [if_neg hl, if_neg (by omega)]
theorem wrong_8 {m l h : Int} {r : List Cr} {ps : List (Nat × Nat)} {dials : List Int} (H : CooS m l h r ps r.length dials) (hck : sckR r = 0) (hnz : ∀ k, k < r.length → dials.getD k 0 ≠ 0) (hps : ∀ p ∈ ps, p.1 < r.length ∧ p.2 < r.length) : wrongR (sclR r dials r.length) ps m l h = (0, 0, 8) := by
  obtain ⟨h24, hall⟩ := sck_ok hck
  obtain ⟨hA, hB⟩ := coo_law H rfl hall hnz hps
  unfold wrongR
  rw [if_neg, wrGo_8]
  · intro p hp
    obtain ⟨h1, h2⟩ := hps p hp
    have e1 := List.getElem?_eq_getElem h1
    have e2 := List.getElem?_eq_getElem h2
    refine ⟨_, _, sclR_at e1, sclR_at e2, ?_⟩
    rw [if_pos h1, if_pos h2]
    exact hB p hp _ _ e1 e2
  · unfold sckR
    rw [sclR_len, if_neg (by omega)]
    intro hne
    apply hne
    apply cvGo_zero
    intro z hz
    obtain ⟨j, hj⟩ := List.mem_iff_getElem?.1 hz
    have hjl := (List.getElem?_eq_some_iff.1 hj).1
    rw [sclR_len] at hjl
    have e1 := List.getElem?_eq_getElem hjl
    rw [sclR_at e1, if_pos hjl] at hj
    injection hj with hj
    subst hj
    obtain ⟨hg, hd1, hsc⟩ := scale_ok (hA j _ e1)
    exact ckC_good.2 (scGo_good hd1 hg hsc).1
theorem sc_ok {m l h : Int} {r : List Cr} {ps : List (Nat × Nat)} {dials : List Int} (H : CooS m l h r ps r.length dials) (hck : sckR r = 0) (hnz : ∀ k, k < r.length → dials.getD k 0 ≠ 0) (hps : ∀ p ∈ ps, p.1 < r.length ∧ p.2 < r.length) (k : Nat) (z : Cr) (hz : r[k]? = some z) : scaleC z.curve (dials.getD k 0) = ((scaleC z.curve (dials.getD k 0)).1, 0) := by
  obtain ⟨h24, hall⟩ := sck_ok hck
  have h := (coo_law H rfl hall hnz hps).1 k z hz
  exact Prod.ext rfl h
/-- relays in a block of the call's own -/
structure OwnCh (w : World) (g : Nat) (n : Nat) (xs : List Ch) : Prop where
  len : xs.length = n
  blk : ∃ cur : Array Value, Blk w g 68 cur ∧ ∀ (j : Nat) (u : Value), (xs.flatMap Ch.cells)[j]? = some u → cur[j]? = some u
  zs : ∀ z ∈ xs, RdP w w.heap.size z.A z.n z.r.curve ∧ z.n ≤ 9223372036854775807
theorem OwnCh.rd {w : World} {g n : Nat} {xs : List Ch} (h : OwnCh w g n xs) : RdCh w w.heap.size (some ⟨g, 0, none⟩) n xs := by
  obtain ⟨cur, hb, hc⟩ := h.blk
  refine ⟨h.len, ⟨by rw [flat_len Ch.len, h.len], fun _ => ⟨g, 0, rfl, hb.lt, fun j u hu => ?_⟩⟩, h.zs⟩
  rw [show (⟨g, 0 + j, none⟩ : Addr) = ⟨g, j, none⟩ from by simp, hb.cell j]
  exact hc j u hu
theorem OwnCh.up {w w' : World} {g n : Nat} {xs : List Ch} (h : OwnCh w g n xs) (hb : Below w.heap.size w w') : OwnCh w' g n xs := by
  obtain ⟨cur, hk, hc⟩ := h.blk
  exact ⟨h.len, ⟨cur, hk.below hb hk.lt, hc⟩, fun z hz => ⟨((h.zs z hz).1.below hb (Nat.le_refl _)).more hb.size, (h.zs z hz).2⟩⟩
theorem OwnCh.fz {w : World} {g n : Nat} {xs : List Ch} (h : OwnCh w g n xs) (i : Nat) : w.frozen? ⟨g, i, none⟩ = false := by
  obtain ⟨cur, hk, _⟩ := h.blk
  exact hk.frozen i
theorem pt_int {l : List (Int × Int)} {j : Nat} {u : Value} (h : (ptCells l)[j]? = some u) : ∃ z, u = .int .i64 z := by
  have hm := List.mem_of_getElem? h
  unfold ptCells at hm
  simp only [List.mem_flatMap] at hm
  obtain ⟨p, _, hp⟩ := hm
  simp at hp
  rcases hp with rfl | rfl <;> exact ⟨_, rfl⟩
theorem rdP_keep {w : World} {B n : Nat} {A : Option Addr} {l : List (Int × Int)} (h : RdP w B A n l) {p : Addr} {X : Option Addr} {x y : Nat} (hp : w.cell? p = some (.slice X x y)) (u : Value) : RdP (w.setCell p u) B A n l :=
  ⟨h.1, fun hn => by
    obtain ⟨b, off, e, hlt, hc⟩ := h.2 hn
    refine ⟨b, off, e, hlt, fun j v hv => ?_⟩
    have hcv := hc j v hv
    have hne : (⟨b, off + j, none⟩ : Addr) ≠ p := by
      intro he
      rw [he, hp] at hcv
      obtain ⟨z, rfl⟩ := pt_int hv
      cases hcv
    rw [World.cell?_setCell_other _ _ _ _ (Ne.symm hne)]
    exact hcv⟩
theorem ch_flat_set (xs : List Ch) (k : Nat) (y : Ch) (z : Ch) (hz : xs[k]? = some z) (hy : y.cells = z.cells.set 3 (.slice y.A y.n y.c)) : (xs.set k y).flatMap Ch.cells = (xs.flatMap Ch.cells).set (k * 6 + 3) (.slice y.A y.n y.c) := by
  induction xs generalizing k with
  | nil => cases hz
  | cons a t ih =>
    cases k with
    | zero =>
      simp at hz
      subst hz
      simp only [List.set_cons_zero, List.flatMap_cons, hy, Nat.zero_mul, Nat.zero_add]
      rw [List.set_append_left _ _ (by rw [Ch.len]; omega)]
    | succ k =>
      simp only [List.set_cons_succ, List.flatMap_cons]
      rw [ih k (by simpa using hz), List.set_append_right _ _ (by rw [Ch.len]; omega), Ch.len]
      congr 2
      omega
theorem OwnCh.put {w : World} {g n : Nat} {xs : List Ch} (h : OwnCh w g n xs) {k : Nat} {z : Ch} (hz : xs[k]? = some z) {A : Option Addr} {m c : Nat} {cv : List (Int × Int)} (hcv : RdP w w.heap.size A m cv) (hm : m ≤ 9223372036854775807) :
    OwnCh (w.setCell ⟨g, k * 6 + 3, none⟩ (.slice A m c)) g n (xs.set k ⟨{ z.r with curve := cv }, A, m, c⟩) := by
  obtain ⟨cur, hk, hc⟩ := h.blk
  have hcell : w.cell? ⟨g, k * 6 + 3, none⟩ = some (.slice z.A z.n z.c) := by
    rw [hk.cell]
    refine hc _ _ ?_
    rw [flat_at Ch.len xs k z hz 3 (by omega)]; rfl
  refine ⟨by rw [List.length_set]; exact h.len, ⟨_, hk.set_ _ _, fun j u hu => ?_⟩, fun y hy => ?_⟩
  · rw [ch_flat_set xs k ⟨{ z.r with curve := cv }, A, m, c⟩ z hz rfl, List.getElem?_set] at hu
    rw [Array.getElem?_setIfInBounds]
    split at hu
    · rename_i he
      subst he
      split at hu
      · rename_i hl
        rw [if_pos rfl]
        have := hc (k * 6 + 3) _ (List.getElem?_eq_getElem hl)
        have hsz := (Array.getElem?_eq_some_iff.1 this).1
        rw [if_pos hsz]
        exact hu
      · cases hu
    · rename_i he
      rw [if_neg he]
      exact hc j u hu
  · have hsz : (w.setCell ⟨g, k * 6 + 3, none⟩ (.slice A m c)).heap.size = w.heap.size := by simp
    rw [hsz]
    rcases List.mem_or_eq_of_mem_set hy with hy | rfl
    · exact ⟨rdP_keep (h.zs y hy).1 hcell _, (h.zs y hy).2⟩
    · exact ⟨rdP_keep hcv hcell _, hm⟩
theorem ownCh_of {w : World} {base n : Nat} {v : Value} {xs : List Ch} (h : w.ownsRow base 68 6 v n (xs.flatMap Ch.cells)) (hv : v ≠ .slice none 0 0) (hn : xs.length = n) (hz : ∀ z ∈ xs, RdP w w.heap.size z.A z.n z.r.curve ∧ z.n ≤ 9223372036854775807) : ∃ g cap, v = .slice (some ⟨g, 0, none⟩) n cap ∧ base ≤ g ∧ OwnCh w g n xs := by
  rcases h.2 with ⟨h1, _⟩ | ⟨g, cap, cur, h1, hb, hk, _, _, hs, ht⟩
  · exact absurd h1 hv
  · refine ⟨g, cap, h1, hb, hn, ⟨cur, hk, fun j u hu => ?_⟩, hz⟩
    rw [← ht] at hu
    obtain ⟨hl, _⟩ := List.getElem?_eq_some_iff.1 hu
    have : j < n * 6 := by rw [List.length_take] at hl; omega
    rw [List.getElem?_take_of_lt this] at hu
    first | exact hu | (rw [← Array.getElem?_toList]; exact hu)
theorem info_cr : (Try.prog.info? 68).map (fun i => (i.zero, i.size, i.bytes)) = some (some (.agg #[.string ⟨#[]⟩, .string ⟨#[]⟩, .string ⟨#[]⟩, .slice none 0 0, .int .i64 0, .int .i64 0]), 6, 88) := by kernel_rfl
theorem one_cr (l : List Ch) : ∀ u ∈ l.flatMap Ch.cells, u.oneCell' = true := fun u hu => by
  simp only [List.mem_flatMap] at hu
  obtain ⟨x, _, hx⟩ := hu
  simp [Ch.cells] at hx
  rcases hx with rfl | rfl | rfl | rfl | rfl | rfl <;> rfl
theorem wpList_append_crs {P : Program} (w : World) {ops : Array Oper} {rest : List Oper} {o : Oper} {a : Act} {Q : Exit → Act → World → Prop} (hgd : o.guard = none) (s x : Operand) (t : TypeId)
    (ho : o.op = .call { callee := .builtin .append, args := #[s, x], argTypes := #[t, t] })
    (base : Nat) (i : TypeInfo) (z : Value) (ht : P.underlying t = some (.slice 68)) (hi : P.info? 68 = some i) (hz : i.zero = some z)
    (hsize : i.size = 6) (hby : i.bytes = 88) (hzs : z.cells.size = 6)
    (v : Value) (n : Nat) (xs : List Value) (hs : a.eval s = v) (hown : w.ownsRow base 68 6 v n xs) (hv : v ≠ .slice none 0 0)
    (A : Option Addr) (m c K : Nat) (l : List Ch) (hx : a.eval x = .slice A m c) (hR : RdCh w K A m l)
    (h63 : n + m ≤ 1000000) (hbase : base ≤ w.heap.size)
    (h : ∀ v' w', w'.ownsRow base 68 6 v' (n + m) (xs ++ l.flatMap Ch.cells) → w.grownBy w' v.ownBlock → v' ≠ .slice none 0 0 → wpList P ops Q rest (a.put o.dst v') w') : wpList P ops Q (o :: rest) a w := by
  cases A with
  | some ad =>
    refine wpList_append_own w hgd s x t ho base 68 i z 6 88 ht hi hz hsize hby hzs (by omega) v n xs hs hown ad m c (l.flatMap Ch.cells) hx (by rw [flat_len Ch.len, hR.len]) ?_ (one_cr l) (by simp only [maxLen]; omega) (by omega) hbase fun v' w' h1 h2 h3 => h v' w' h1 h2 (fun he => hv (h3.1 he).1)
    intro j u hu
    by_cases hm : 0 < m
    · obtain ⟨b, off, e, _, hc⟩ := hR.rd.2 hm
      injection e with e
      subst e
      rw [Addr.add_lit]
      exact hc j u hu
    · have hl : l = [] := List.eq_nil_of_length_eq_zero (by have := hR.len; omega)
      subst hl
      simp at hu
  | none =>
    have hm : m = 0 := by
      rcases Nat.eq_zero_or_pos m with h | h
      · exact h
      · obtain ⟨b, off, e, _⟩ := hR.rd.2 h
        cases e
    subst hm
    have hl : l = [] := List.eq_nil_of_length_eq_zero hR.len
    subst hl
    rcases hown.2 with ⟨h1, _⟩ | ⟨g, cap, cur, h1, _, _, hnc, _⟩
    · exact absurd h1 hv
    · subst h1
      have hsrc : Src P i.size t (.slice none 0 c) 0 [] w := Src.ofNil w ht c
      have hr := run_append_room_src w t t o.type 68 i ht hi g 0 n cap (.slice none 0 c) 0 [] hsrc (by omega) (fun j hj => by simp at hj) (fun j hj => by simp at hj)
      refine wpList_plain hgd fun _ hK => ?_
      unfold Oper.wp execOp
      simp only [ho, resolve, invoke, builtin, Sem.run_bind, Sem.run_pure, Result.andThen_ok, List.map_toArray, List.map_cons, List.map_nil, hs, hx, hr]
      refine hK _ _ ?_
      have hw : w.setCells g (0 + n * i.size) [] = w := by first | rfl | simp [World.setCells]
      rw [hw]
      exact h _ _ (by simpa using hown) ⟨rfl, rfl, rfl, Nat.le_refl _, fun _ _ _ => rfl⟩ hv
set_option maxRecDepth 100000 in
set_option maxHeartbeats 8000000 in
theorem scoo_any (h : NetH) (x : Net) (RA : Option Addr) (rn rc : Nat) (r : List Ch) (m l hi : Int) (w : World) (hR : RdNet w w.heap.size h x) (hC : RdCh w w.heap.size RA rn r) (hrc : rn ≤ rc) (hrcm : rc ≤ 9223372036854775807) :
    Calls Try.prog 11 #[.agg h.cells, .slice RA rn rc, .int .i64 m, .int .i64 l, .int .i64 hi] w fun e w' => e = .returned (.bool true) ∧ Below w.heap.size w w' := by
  have HB0 : Hid (Below w.heap.size w (w.alloc (.cells h.cells 29))) := Lib.hid ((Below.refl _ _).alloc (Nat.le_refl _) _)
  have HR0 := Lib.hid (hR.up HB0.out)
  have HQ0 : Hid (Blk (w.alloc (.cells h.cells 29)) w.heap.size 29 h.cells) := Lib.hid (Blk.new w _ _)
  obtain ⟨k4, hk4, hkn, hm⟩ : ∃ k : Nat, k ≤ 4 ∧ k ≤ rn ∧ (if (4 : Int) < (rn : Int) then (4 : Int) else (rn : Int)) = (k : Int) := by
    by_cases h : (4 : Int) < (rn : Int)
    · exact ⟨4, by omega, by omega, by rw [if_pos h]; rfl⟩
    · exact ⟨rn, by omega, by omega, by rw [if_neg h]⟩
  have hkc : (k4 : Int) ≤ (rc : Int) := by omega
  have HC0 := Lib.hid (((hC.take hkn).below HB0.out (Nat.le_refl _)).more HB0.out.size)
  generalize r.take k4 = rr at HC0
  have HLR : Hid ((rr.map Ch.r).length = k4) := Lib.hid (by rw [List.length_map]; exact HC0.out.len)
  obtain ⟨i0, ii0, ii1, ii2, ii3⟩ := info_parts info_cr
  have HI0 := Lib.hid ii0
  have HI1 := Lib.hid ii1
  have HI2 := Lib.hid ii2
  have HI3 := Lib.hid ii3
  obtain ⟨A0, n0, c0, A1, n1, c1, A2, n2, c2, A3, n3, c3, A4, n4, c4, A5, n5, c5⟩ := h
  dsimp only [NetH.cells] at *
  clear hR hC ii0 ii1 ii2 ii3
  go_enter Try.func11, Try.ntmps11
  go_wp2_with fail
  generalize w.alloc (.cells #[.slice A0 n0 c0, .slice A1 n1 c1, .slice A2 n2 c2, .slice A3 n3 c3, .slice A4 n4 c4, .slice A5 n5 c5] 29) = W0 at *
  refine (sworks_any W0).mono ?_
  rintro e w1 ⟨rfl, hb1⟩
  have HB1 := Lib.hid (HB0.out.trans (hb1.mono HB0.out.size))
  have HR1 := Lib.hid (HR0.out.up hb1)
  have HQ1 := Lib.hid (HQ0.out.below hb1 HQ0.out.lt)
  have HC1 := Lib.hid (HC0.out.up hb1)
  clear hb1
  go_upto_region 4 with fail
  go_cut [40] (fun v wc => wc = w1 ∧ ∃ c, v = .bool c)
  case first =>
    go_wp2_with fail
    all_goals (go_meet; case rel => exact ⟨rfl, _, rfl⟩)
  obtain ⟨rfl, c, rfl⟩ := hcut
  go_upto_if 40 with fail
  go_cut [4] (fun v wd => wd = wc ∧ ∃ h' : Int, v = .int .i64 h')
  case first =>
    cases c with
    | true =>
      go_wp2_with fail
      go_meet
      case rel => exact ⟨rfl, _, rfl⟩
    | false =>
      go_wp2_with fail
      go_meet
      case rel => exact ⟨rfl, _, rfl⟩
  obtain ⟨rfl, h', rfl⟩ := hcut
  generalize wc = w1 at *
  obtain ⟨y0, y1, y2, y3, y4, y5, nf, nlt⟩ := net_box (h := ⟨A0, n0, c0, A1, n1, c1, A2, n2, c2, A3, n3, c3, A4, n4, c4, A5, n5, c5⟩) HQ1.out
  go_wp2_with fail
  clear y0 y1 y2 y3 y4 y5 nf nlt
  refine (pairs_any ⟨A0, n0, c0, A1, n1, c1, A2, n2, c2, A3, n3, c3, A4, n4, c4, A5, n5, c5⟩ x RA k4 rc rr w1 HR1.out HC1.out (by omega)).mono ?_
  rintro e w2 ⟨hb, ⟨hne, rfl⟩ | ⟨hz, PA, pc, rfl, hE⟩⟩
  · have HB2 := Lib.hid (HB1.out.trans (hb.mono HB1.out.size))
    have HC2 := Lib.hid (HC1.out.up hb)
    have HNE := Lib.hid hne
    clear hb hne
    go_wp2_with fail
    refine (coo_any RA k4 rc rr none 0 [] m l h' w2 HC2.out (by omega) ⟨rfl, rfl, fun h => absurd h (by decide)⟩ ⟨by simp, fun p hp => by cases hp⟩).mono ?_
    rintro e w3 ⟨hb, ⟨j, hj, _, rfl⟩ | ⟨_, _, g, dials, rfl, hg, _⟩⟩
    · have HB3 := Lib.hid (HB2.out.trans (hb.mono HB2.out.size))
      generalize cckR x [] (rr.map Ch.r) = ck at *
      have h1 : (ck == 0) = false := by have := HNE.out; simpa using this
      have h2 : (ck != 0) = true := by have := HNE.out; simpa using this
      have h3 : (j == 0) = false := by simpa using hj
      have h4 : (j != 0) = true := by simpa using hj
      clear hb hj
      go_wp2_with fail
      go_ret
      exact ⟨rfl, HB3.out⟩
    · have HB3 := Lib.hid (HB2.out.trans (hb.mono HB2.out.size))
      generalize cckR x [] (rr.map Ch.r) = ck at *
      have h1 : (ck == 0) = false := by have := HNE.out; simpa using this
      have h2 : (ck != 0) = true := by have := HNE.out; simpa using this
      have hkl := HLR.out
      clear hb hg
      rw [hkl]
      clear hkl
      by_cases hk0 : k4 = 0
      · have hkb : ((k4 : Int) == 0) = true := by simp [hk0]
        clear hk0
        go_wp2_with fail
        go_ret
        exact ⟨rfl, HB3.out⟩
      · have hkb : ((k4 : Int) == 0) = false := by simp [hk0]
        clear hk0
        go_wp2_with fail
        go_ret
        exact ⟨rfl, HB3.out⟩
  · have HB2 := Lib.hid (HB1.out.trans (hb.mono HB1.out.size))
    have HC2 := Lib.hid (HC1.out.up hb)
    have hprs : ∀ q ∈ pairsR x (rr.map Ch.r), PrIn (rr.map Ch.r) q := fun q hq => ((prAll_ok x (rr.map Ch.r) (rr.map Ch.r).length).2 q hq).2
    have hpl : (pairsR x (rr.map Ch.r)).length ≤ 16 := by
      have h1 := prAll_len x (rr.map Ch.r) (rr.map Ch.r).length
      have h2 : (rr.map Ch.r).length ≤ 4 := by rw [HLR.out]; exact hk4
      have h3 := Nat.mul_le_mul h2 h2
      exact Nat.le_trans h1 h3
    generalize pairsR x (rr.map Ch.r) = ps at *
    have HOK : Hid (PrOk k4 ps) := Lib.hid ⟨by omega, fun p hp => by
      obtain ⟨a, b, ha, hb, hne⟩ := hprs p hp
      have h1 := (List.getElem?_eq_some_iff.1 ha).1
      have h2 := (List.getElem?_eq_some_iff.1 hb).1
      rw [HLR.out] at h1 h2
      exact ⟨h1, h2, fun h => by rw [h, hb] at ha; injection ha with ha; rw [ha] at hne; exact hne rfl⟩⟩
    have HE2 := Lib.hid hE
    clear hb hz hE hprs
    go_wp2_with fail
    refine (coo_any RA k4 rc rr PA pc ps m l h' w2 HC2.out (by omega) HE2.out HOK.out).mono ?_
    rintro e w3 ⟨hb, ⟨j, hj, _, rfl⟩ | ⟨hck, _, g, dials, rfl, hg, hS, hnz⟩⟩
    · have HB3 := Lib.hid (HB2.out.trans (hb.mono HB2.out.size))
      have h3 : (j == 0) = false := by simpa using hj
      have h4 : (j != 0) = true := by simpa using hj
      clear hb hj
      go_wp2_with fail
      go_ret
      exact ⟨rfl, HB3.out⟩
    · have HB3 := Lib.hid (HB2.out.trans (hb.mono HB2.out.size))
      have HC3 := Lib.hid (HC2.out.up hb)
      have HE3 := Lib.hid ((HE2.out.below hb (Nat.le_refl _)).more hb.size)
      have HD3 := Lib.hid hg
      have hps : ∀ p ∈ ps, p.1 < (rr.map Ch.r).length ∧ p.2 < (rr.map Ch.r).length := fun p hp => by rw [HLR.out]; exact ⟨(HOK.out.2 p hp).1, (HOK.out.2 p hp).2.1⟩
      have HW8 := Lib.hid (wrong_8 hS hck hnz hps)
      have HSC := Lib.hid (sc_ok hS hck hnz hps)
      have HDL : Hid (dials.length = k4) := Lib.hid (by rw [hS.len, HLR.out])
      have hkl := HLR.out
      clear hb hg hS hnz hps hck
      rw [hkl] at HW8 ⊢
      clear hkl
      have HM0 : Hid ((w3.alloc (.cells #[] 68)).ownsRow w3.heap.size 68 6 (.slice (some ⟨w3.heap.size, 0, none⟩) 0 0) 0 []) := Lib.hid (World.ownsRow_made w3 #[] 0 (Nat.le_refl _) (by simp only [maxLen]; omega) rfl)
      have HCA := Lib.hid (HC3.out.up ((Below.refl _ _).alloc (Nat.le_refl _) (.cells #[] 68)))
      go_wp2_with (at_builtin; refine wpList_append_crs _ rfl (.tmp 76) (.tmp 77) _ rfl w3.heap.size i0 _ Try.underlying75 HI0.out HI1.out HI2.out HI3.out rfl (.slice (some ⟨w3.heap.size, 0, none⟩) 0 0) 0 [] rfl HM0.out (fun h => by cases h) RA k4 rc _ rr rfl HCA.out (by omega) (by simp) ?_)
      intro v1 u1 hown1 hgr1 hnn1
      have hb1 : Below w3.heap.size w3 u1 := ((Below.refl _ w3).alloc (Nat.le_refl _) _).grown hgr1 (by simp) (by intro k hk; simp [Value.ownBlock] at hk; omega)
      have hcr := HC3.out.up hb1
      obtain ⟨go, gcap, rfl, hgo, hoc⟩ := ownCh_of hown1 hnn1 hcr.len hcr.zs
      have HOC := Lib.hid hoc
      have HB4 := Lib.hid (HB3.out.trans (hb1.mono HB3.out.size))
      have HE4 := Lib.hid ((HE3.out.below hb1 (Nat.le_refl _)).more hb1.size)
      have HD4 := Lib.hid (HD3.out.below hb1 HD3.out.lt)
      have hgw : w.heap.size ≤ go := Nat.le_trans HB3.out.size hgo
      have HGO : Hid (g < go) := Lib.hid (Nat.lt_of_lt_of_le HD3.out.lt hgo)
      have HE3G := Lib.hid hgo
      have HB34 := Lib.hid hb1
      clear hown1 hgr1 hnn1 hb1 hcr hoc hgo HM0 HCA
      have HK4 := Lib.hid ((Below.refl w3.heap.size w3))
      have HB34 : Hid (Below w3.heap.size w3 u1) := HB34
      go_wp2_with fail
      go_loopw [81] (fun v81 wr => ∃ (k : Nat) (ow : List Ch), k ≤ k4 ∧ v81 = .int .i64 k ∧ Below w3.heap.size w3 wr ∧ OwnCh wr go k4 ow ∧ ow.map Ch.r = sclR (rr.map Ch.r) dials k) (fun v81 _ => k4 - (intOf v81).toNat)
      case atStart => exact ⟨0, rr, by omega, rfl, HB34.out, HOC.out, (sclR_zero _ _).symm⟩
      case round =>
        obtain ⟨k, ow, hk, rfl, hb, ho, hmp⟩ := hrel
        clear HOC HB4 HE4 HD4 HB34 HK4
        have HB := Lib.hid hb
        have HO := Lib.hid ho
        have HMP := Lib.hid hmp
        clear hb ho hmp
        by_cases hlt : k < k4
        · obtain ⟨z, hz⟩ : ∃ y, ow[k]? = some y := ⟨_, List.getElem?_eq_getElem (by rw [HO.out.len]; exact hlt)⟩
          obtain ⟨y0, hy0⟩ : ∃ y, (rr.map Ch.r)[k]? = some y := ⟨_, List.getElem?_eq_getElem (by rw [HLR.out]; exact hlt)⟩
          have hzy : z.r = y0 := by
            have h1 : (ow.map Ch.r)[k]? = some z.r := by rw [List.getElem?_map, hz]; rfl
            rw [HMP.out, sclR_at hy0, if_neg (Nat.lt_irrefl k)] at h1
            injection h1 with h1
            exact h1.symm
          have HSK : Hid (scaleC z.r.curve (dials.getD k 0) = ((scaleC z.r.curve (dials.getD k 0)).1, 0)) := Lib.hid (by rw [hzy]; exact HSC.out k y0 hy0)
          have HZR : Hid (RdP wr.drew wr.drew.heap.size z.A z.n z.r.curve ∧ z.n ≤ 9223372036854775807) := Lib.hid (HO.out.zs z (List.mem_of_getElem? hz))
          have HPUT : Hid (∀ (w6 : World) (A : Option Addr) (mm c : Nat), Below wr.heap.size wr w6 → RdP w6 w6.heap.size A mm (scaleC z.r.curve (dials.getD k 0)).1 → mm ≤ 9223372036854775807 → OwnCh (w6.setCell ⟨go, k * 6 + 3, none⟩ (.slice A mm c)) go k4 (ow.set k ⟨{ z.r with curve := (scaleC z.r.curve (dials.getD k 0)).1 }, A, mm, c⟩)) := Lib.hid (fun w6 A mm c hb hr hm => (HO.out.up hb).put hz hr hm)
          have HMP2 : Hid (∀ (A : Option Addr) (mm c : Nat), (ow.set k ⟨{ z.r with curve := (scaleC z.r.curve (dials.getD k 0)).1 }, A, mm, c⟩).map Ch.r = sclR (rr.map Ch.r) dials (k + 1)) := Lib.hid (fun A mm c => by rw [List.map_set, HMP.out, sclR_succ hy0, hzy])
          have hrd := HO.out.rd.at_ hz
          simp only [Nat.zero_add] at hrd
          obtain ⟨_, _, _, t3, _, _⟩ := hrd
          have hdl := (HD3.out.below HB.out HD3.out.lt)
          have hd0 := set_get hdl (i := k) (by have := HDL.out; omega)
          have hglt : g < wr.heap.size := hdl.lt
          have holt : go < wr.heap.size := by obtain ⟨cur, hc, _⟩ := HO.out.blk; exact hc.lt
          have HFZ := Lib.hid HO.out.fz
          have hkI : (k : Int) < (k4 : Int) := by omega
          clear hz hy0 hzy hdl
          go_wp2_with fail
          generalize hsc : scaleC z.r.curve (dials.getD k 0) = sc at HSK HPUT HMP2
          obtain ⟨sl, se⟩ := sc
          have hse : se = 0 := by have := HSK.out; simp at this; exact this
          subst hse
          have HSC2 := Lib.hid hsc
          clear hsc HSK
          dsimp only at HPUT HMP2
          refine wp_region_last (S := fun w' => Below wr.heap.size wr w') 14 _ (by kernel_rfl) (by kernel_rfl) rfl (below_drew (Below.refl _ _)) (fun hHeld => ?_)
          simp only [List.take_succ_cons, List.take_zero]
          refine takeH 0 (v := ?_) rfl (by kernel_rfl) (fun _ _ _ h => h) (by rfl) ?_ hHeld ?_
          rotate_left 1
          · intro w' hSw; obtain ⟨hcc, -⟩ := bcell' hSw; go_simp <;> with_reducible rfl
          try simp only [Act.put, List.setIfInBounds_toArray, List.set_cons_zero, List.set_cons_succ]
          refine takeH 1 (v := ?_) rfl (by kernel_rfl) (fun _ _ _ h => h) (by rfl) ?_ hHeld ?_
          rotate_left 1
          · intro w' hSw; obtain ⟨hcc, -⟩ := bcell' hSw; go_simp <;> with_reducible rfl
          try simp only [Act.put, List.setIfInBounds_toArray, List.set_cons_zero, List.set_cons_succ]
          refine takeH 2 (v := ?_) rfl (by kernel_rfl) (fun _ _ _ h => h) (by rfl) ?_ hHeld ?_
          rotate_left 1
          · intro w' hSw; obtain ⟨hcc, -⟩ := bcell' hSw; go_simp <;> with_reducible rfl
          try simp only [Act.put, List.setIfInBounds_toArray, List.set_cons_zero, List.set_cons_succ]
          refine takeH 3 (v := ?_) rfl (by kernel_rfl) (fun _ _ _ h => h) (by rfl) ?_ hHeld ?_
          rotate_left 1
          · intro w' hSw; obtain ⟨hcc, -⟩ := bcell' hSw; go_simp <;> with_reducible rfl
          try simp only [Act.put, List.setIfInBounds_toArray, List.set_cons_zero, List.set_cons_succ]
          refine takeH 4 (v := ?_) rfl (by kernel_rfl) (fun _ _ _ h => h) (by rfl) ?_ hHeld ?_
          rotate_left 1
          · intro w' hSw; obtain ⟨hcc, -⟩ := bcell' hSw; go_simp <;> with_reducible rfl
          try simp only [Act.put, List.setIfInBounds_toArray, List.set_cons_zero, List.set_cons_succ]
          refine takeH 5 (v := ?_) rfl (by kernel_rfl) (fun _ _ _ h => h) (by rfl) ?_ hHeld ?_
          rotate_left 1
          · intro w' hSw; obtain ⟨hcc, -⟩ := bcell' hSw; go_simp <;> with_reducible rfl
          try simp only [Act.put, List.setIfInBounds_toArray, List.set_cons_zero, List.set_cons_succ]
          refine takeH 6 (v := ?_) rfl (by kernel_rfl) (fun _ _ _ h => h) (by rfl) ?_ hHeld ?_
          rotate_left 1
          · intro w' hSw; obtain ⟨hcc, -⟩ := bcell' hSw; go_simp <;> with_reducible rfl
          try simp only [Act.put, List.setIfInBounds_toArray, List.set_cons_zero, List.set_cons_succ]
          refine takeH 7 (v := ?_) rfl (by kernel_rfl) (fun _ _ _ h => h) (by rfl) ?_ hHeld ?_
          rotate_left 1
          · intro w' hSw; obtain ⟨hcc, -⟩ := bcell' hSw; go_simp <;> with_reducible rfl
          try simp only [Act.put, List.setIfInBounds_toArray, List.set_cons_zero, List.set_cons_succ]
          refine takeH 8 (v := ?_) rfl (by kernel_rfl) (fun _ _ _ h => h) (by rfl) ?_ hHeld ?_
          rotate_left 1
          · intro w' hSw; obtain ⟨hcc, -⟩ := bcell' hSw; go_simp <;> with_reducible rfl
          try simp only [Act.put, List.setIfInBounds_toArray, List.set_cons_zero, List.set_cons_succ]
          refine stepH 9 (by kernel_rfl) rfl (fun K hK => ?_)
          go_simp
          refine (scale_any z.A z.n z.c z.r.curve (dials.getD k 0) wr.drew HZR.out.1 HZR.out.2).mono ?_
          rw [HSC2.out]
          rintro e w6 ⟨⟨v6, rfl, ⟨CA, cn, cc, rfl, hcn, hcr⟩⟩, hbw⟩
          have HB6 := Lib.hid ((below_drew (Below.refl wr.heap.size wr)).trans hbw)
          have HCR := Lib.hid hcr
          have hcn2 : cn ≤ 9223372036854775807 := by omega
          clear hbw hcr
          dsimp only at HCR ⊢
          go_simp
          refine hK.out _ _ ?_ (fun hHeld => ?_)
          · exact HB6.out
          clear hK K
          try simp only [Act.put, List.setIfInBounds_toArray, List.set_cons_zero, List.set_cons_succ]
          refine takeH 10 (v := ?_) rfl (by kernel_rfl) (fun _ _ _ h => h) (by rfl) ?_ hHeld ?_
          rotate_left 1
          · intro w' hSw; go_simp <;> with_reducible rfl
          try simp only [Act.put, List.setIfInBounds_toArray, List.set_cons_zero, List.set_cons_succ]
          refine takeH 11 (v := ?_) rfl (by kernel_rfl) (fun _ _ _ h => h) (by rfl) ?_ hHeld ?_
          rotate_left 1
          · intro w' hSw; go_simp <;> with_reducible rfl
          try simp only [Act.put, List.setIfInBounds_toArray, List.set_cons_zero, List.set_cons_succ]
          refine takeH 12 (v := ?_) rfl (by kernel_rfl) (fun _ _ _ h => h) (by rfl) ?_ hHeld ?_
          rotate_left 1
          · intro w' hSw; go_simp <;> with_reducible rfl
          try simp only [Act.put, List.setIfInBounds_toArray, List.set_cons_zero, List.set_cons_succ]
          refine takeH 13 (v := ?_) rfl (by kernel_rfl) (fun _ _ _ h => h) (by rfl) ?_ hHeld ?_
          rotate_left 1
          · intro w' hSw; go_simp <;> with_reducible rfl
          try simp only [Act.put, List.setIfInBounds_toArray, List.set_cons_zero, List.set_cons_succ]
          refine wpAnyH_done (by kernel_rfl) ?_ _
          refine lastQ_go (by rfl) ?_
          go_simp

          have t6 := (HB6.out.cell (p := ⟨go, k * 6 + 3, none⟩) holt).trans t3
          have f6 := (HB6.out.frozen (p := ⟨go, k * 6 + 3, none⟩) holt).trans (HFZ.out _)
          have l6 : go < w6.heap.size := Nat.lt_of_lt_of_le holt HB6.out.size
          have HP6 := Lib.hid (HPUT.out w6 CA cn cc HB6.out HCR.out hcn2)
          have HM6 := Lib.hid (HMP2.out CA cn cc)
          have HBN : Hid (Below w3.heap.size w3 (w6.setCell ⟨go, k * 6 + 3, none⟩ (.slice CA cn cc))) := Lib.hid ((HB.out.trans (HB6.out.mono HB.out.size)).setCell (by have := HE3G.out; simp; omega) _)
          clear t3 hd0 HPUT HMP2 HZR HFZ
          go_wp2_with fail
          go_roundw
          case rel => exact ⟨k + 1, _, by omega, by go_num, HBN.out, HP6.out, HM6.out⟩
          case measure => simp [intOf]; omega
        · have HRD := Lib.hid HO.out.rd
          have hke : k = k4 := by omega
          subst hke
          have HPW := Lib.hid ((HE3.out.below HB.out (Nat.le_refl _)).more HB.out.size)
          have HB9 := Lib.hid (HB3.out.trans (HB.out.mono HB3.out.size))
          go_wp2_with fail
          refine (wrong_any (some ⟨go, 0, none⟩) k gcap ow PA pc ps m l h' wr HRD.out (by omega) HPW.out HOK.out).mono ?_
          rw [HMP.out, HW8.out]
          rintro e w9 ⟨rfl, hb9⟩
          have HB10 := Lib.hid (HB9.out.trans (hb9.mono HB9.out.size))
          clear hb9
          go_wp2_with fail
          go_ret
          exact ⟨rfl, HB10.out⟩
end Go.Proofs.Ythedpegaelpbdaa
