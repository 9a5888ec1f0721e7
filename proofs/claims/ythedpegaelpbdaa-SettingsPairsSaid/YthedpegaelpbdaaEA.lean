/- settings.dialOf: the walk. -/
import Derived.Test.YthedpegaelpbdaaE9
namespace Go.Proofs.Ythedpegaelpbdaa
open Go.ChangeShapes Go.WideShapes Go.ChangeAt Go.RowKit Go.Joins Go.Deep
set_option linter.unusedVariables false
attribute [local go_sem ↓] execOp_call_val
attribute [local go_sem] callVal_func setCell_drewN alloc_drewN sEq_walk NetH.cells

/-- what the dial of relay k must meet -/
theorem rdP_far {w : World} {B n b off g t : Nat} {ps : List (Int × Int)} {s1 s2 s3 : ByteArray} {A : Option Addr} {n' c' : Nat} {i1 i2 : Int} (h : RdP w B (some ⟨b, off, none⟩) n ps) (h2 : 2 ≤ n) (hx : Blk w g t #[.string s1, .string s2, .string s3, .slice A n' c', .int .i64 i1, .int .i64 i2]) : b ≠ g := by
  rintro rfl
  have hl := h.len
  obtain ⟨p, hp⟩ : ∃ p, ps[0]? = some p := ⟨_, List.getElem?_eq_getElem (by omega)⟩
  obtain ⟨q, hq⟩ : ∃ q, ps[1]? = some q := ⟨_, List.getElem?_eq_getElem (by omega)⟩
  have h0 := (h.at_ hp).1
  have h3 := (h.at_ hq).2
  rw [hx.cell] at h0 h3
  have hlt : off + 1 * 2 + 1 < 6 := (Array.getElem?_eq_some_iff.1 h3).1
  have : off = 0 ∨ off = 1 ∨ off = 2 := by omega
  rcases this with rfl | rfl | rfl <;> simp at h0
theorem rdP_set {w : World} {B n b off g i : Nat} {ps : List (Int × Int)} (h : RdP w B (some ⟨b, off, none⟩) n ps) (hne : b ≠ g) (v : Value) : RdP (w.setCell ⟨g, i, none⟩ v) B (some ⟨b, off, none⟩) n ps :=
  ⟨h.1, fun h0 => by
    obtain ⟨b', off', e, hlt, hc⟩ := h.2 h0
    injection e with e
    injection e with e1 e2
    subst e1; subst e2
    exact ⟨b, off, rfl, hlt, fun j u hu => by rw [World.cell?_setCell_other _ _ _ _ (fun e => hne (by injection e with e _; exact e.symm))]; exact hc j u hu⟩⟩
def DofC (m l h : Int) (r : List Cr) (dials : List Int) (k : Nat) (p : Nat × Nat) (dp : Int) : Prop := ∃ a b c, r[p.1]? = some a ∧ r[k]? = some b ∧ scaleC a.curve (dials.getD p.1 0) = (c, 0) ∧ DialOk m l h ⟨a.brk, a.branch, a.node, c, a.pick, a.opn⟩ b dp 0
def DofI (m l h : Int) (r : List Cr) (dials : List Int) (k : Nat) (ps : List (Nat × Nat)) (d : Int) : Prop :=
  (∀ p ∈ ps, p.2 = k → ∃ dp, DofC m l h r dials k p dp ∧ dp ≤ d) ∧ (((∀ p ∈ ps, p.2 ≠ k) ∧ d = 0) ∨ ∃ p ∈ ps, p.2 = k ∧ DofC m l h r dials k p d)
theorem DialOk.pos {m l h : Int} {a b : Cr} {d : Int} (h0 : DialOk m l h a b d 0) : 1 ≤ d := by
  rcases h0 with ⟨h1, _, _, h2⟩ | ⟨_, most, k, _, _, ⟨_, _, h3⟩ | ⟨_, h3, _⟩⟩
  · exact absurd h2.symm h1
  · cases h3
  · omega
theorem DofI.skip {m l h : Int} {r : List Cr} {dials : List Int} {k : Nat} {ps : List (Nat × Nat)} {d : Int} (H : DofI m l h r dials k ps d) {p : Nat × Nat} (hp : p.2 ≠ k) : DofI m l h r dials k (ps ++ [p]) d := by
  refine ⟨fun q hq hk => ?_, ?_⟩
  · rcases List.mem_append.1 hq with hq | hq
    · exact H.1 q hq hk
    · rw [List.mem_singleton.1 hq] at hk; exact absurd hk hp
  · rcases H.2 with ⟨h1, h2⟩ | ⟨q, hq, h1⟩
    · refine .inl ⟨fun q hq => ?_, h2⟩
      rcases List.mem_append.1 hq with hq | hq
      · exact h1 q hq
      · rw [List.mem_singleton.1 hq]; exact hp
    · exact .inr ⟨q, List.mem_append_left _ hq, h1⟩
theorem DofI.take {m l h : Int} {r : List Cr} {dials : List Int} {k : Nat} {ps : List (Nat × Nat)} {d dp : Int} (H : DofI m l h r dials k ps d) (h0 : 0 ≤ d) {p : Nat × Nat} (hp : p.2 = k) (hc : DofC m l h r dials k p dp) : DofI m l h r dials k (ps ++ [p]) (if d < dp then dp else d) := by
  have hpos : 1 ≤ dp := by obtain ⟨a, b, c, _, _, _, h4⟩ := hc; exact h4.pos
  refine ⟨fun q hq hk => ?_, ?_⟩
  · rcases List.mem_append.1 hq with hq | hq
    · obtain ⟨e, h1, h2⟩ := H.1 q hq hk
      exact ⟨e, h1, by split <;> omega⟩
    · rw [List.mem_singleton.1 hq]
      exact ⟨dp, hc, by split <;> omega⟩
  · right
    split
    · exact ⟨p, by simp, hp, hc⟩
    · rcases H.2 with ⟨h1, h2⟩ | ⟨q, hq, h1⟩
      · omega
      · exact ⟨q, List.mem_append_left _ hq, h1⟩
/-- why there is no dial -/
def DofBad (m l h : Int) (r : List Cr) (dials : List Int) (k : Nat) (ps : List (Nat × Nat)) (j : Int) : Prop := ∃ p ∈ ps, p.2 = k ∧ ((∃ a, r[p.1]? = some a ∧ (scaleC a.curve (dials.getD p.1 0)).2 ≠ 0) ∨ ∃ a b c dp, r[p.1]? = some a ∧ r[k]? = some b ∧ scaleC a.curve (dials.getD p.1 0) = (c, 0) ∧ DialOk m l h ⟨a.brk, a.branch, a.node, c, a.pick, a.opn⟩ b dp j ∧ j ≠ 0)
def DofP (m l h : Int) (r : List Cr) (dials : List Int) (k : Nat) (ps : List (Nat × Nat)) (w : World) (e : Ending) (w' : World) : Prop :=
  Below w.heap.size w w' ∧ ∃ d j : Int, e = .returned (.tuple #[.int .i64 d, .int .i64 j]) ∧ ((j ≠ 0 ∧ d = 0 ∧ DofBad m l h r dials k ps j) ∨ (j = 0 ∧ ∃ d0, 0 ≤ d0 ∧ DofI m l h r dials k ps d0 ∧ d = if d0 = 0 then 1000 else d0))
theorem dofP_of (m l h : Int) (r : List Cr) (dials : List Int) (k : Nat) (ps : List (Nat × Nat)) (w : World) (e : Ending) (w' : World) (hb : Below w.heap.size w w') (d j : Int) (he : e = .returned (.tuple #[.int .i64 d, .int .i64 j])) (h0 : (j ≠ 0 ∧ d = 0 ∧ DofBad m l h r dials k ps j) ∨ (j = 0 ∧ ∃ d0, 0 ≤ d0 ∧ DofI m l h r dials k ps d0 ∧ d = if d0 = 0 then 1000 else d0)) : DofP m l h r dials k ps w e w' := ⟨hb, d, j, he, h0⟩
set_option maxRecDepth 100000 in
set_option maxHeartbeats 8000000 in
theorem dialOf_any (RA : Option Addr) (rn rc : Nat) (r : List Ch) (PA : Option Addr) (pc : Nat) (ps : List (Nat × Nat)) (g gn : Nat) (dials : List Int) (k : Nat) (m l h : Int) (w : World) (hC : RdCh w w.heap.size RA rn r) (hrn : rn ≤ 24) (hP : RdE w w.heap.size PA ps.length ps) (hok : PrOk rn ps)
    (hG : Blk w g 3 (ints dials).toArray) (hdl : dials.length = rn) (hk : k < rn) :
    Calls Try.prog 78 #[.slice RA rn rc, .slice PA ps.length pc, .slice (some ⟨g, 0, none⟩) rn gn, .int .i64 k, .int .i64 m, .int .i64 l, .int .i64 h] w (DofP m l h (r.map Ch.r) dials k ps w) := by
  have HC := Lib.hid hC
  have HP := Lib.hid hP
  have HG := Lib.hid hG
  have HOK := Lib.hid hok
  have HDL := Lib.hid hdl
  have HN : Hid (r.length = rn) := Lib.hid hC.len
  have hpl := hok.1
  have HDP := Lib.hid (dofP_of m l h (r.map Ch.r) dials k ps w)
  have HB0 := Lib.hid (Below.refl w.heap.size w)
  clear hC hP hok hG hdl
  go_enter Try.func78, Try.ntmps78
  go_wp2_with fail
  go_loopw [16, 25] (fun v16 v25 wr => ∃ (j : Nat) (d : Int), j ≤ ps.length ∧ v25 = .int .i64 j ∧ v16 = .int .i64 d ∧ 0 ≤ d ∧ Below w.heap.size w wr ∧ DofI m l h (r.map Ch.r) dials k (ps.take j) d) (fun _ v25 _ => ps.length - (intOf v25).toNat)
  case atStart => exact ⟨0, 0, by omega, rfl, rfl, by omega, HB0.out, ⟨fun p hp => (by simp at hp), .inl ⟨fun p hp => (by simp at hp), rfl⟩⟩⟩
  case round =>
    clear HB0
    obtain ⟨j, d, hj, rfl, rfl, hd0, hb, hI⟩ := hrel
    have HB := Lib.hid hb
    have HI := Lib.hid hI
    have HD0 := Lib.hid hd0
    clear hb hI
    have HCW := Lib.hid (HC.out.up HB.out)
    by_cases hlt : j < ps.length
    · obtain ⟨⟨xa, xb⟩, hx⟩ : ∃ x, ps[j]? = some x := ⟨_, List.getElem?_eq_getElem hlt⟩
      have hE := (HP.out.below HB.out (Nat.le_refl _)).more HB.out.size
      obtain ⟨eb, eo, heA, heb⟩ := hE.form (by omega)
      subst heA
      obtain ⟨e0, e1⟩ := hE.at_ hx
      dsimp only at e0 e1
      obtain ⟨hxa, hxb, _⟩ := HOK.out.2 _ (List.mem_of_getElem? hx)
      dsimp only at hxa hxb
      have HTK : Hid (ps.take (j + 1) = ps.take j ++ [(xa, xb)]) := Lib.hid (by rw [List.take_add_one, hx]; rfl)
      have hjI : (j : Int) < (ps.length : Int) := by omega
      have HK0 := Lib.hid ((Below.refl wr.heap.size wr).alloc (Nat.le_refl _) (.cells #[.int .i64 xa, .int .i64 xb] 83))
      have HB3 := Lib.hid (HB.out.alloc HB.out.size (.cells #[.int .i64 xa, .int .i64 xb] 83))
      have hp0 := (Blk.new wr 83 #[.int .i64 xa, .int .i64 xb]).cell 0
      have hp1 := (Blk.new wr 83 #[.int .i64 xa, .int .i64 xb]).cell 1
      have HXM := Lib.hid (List.mem_of_getElem? hx)
      clear hx hE
      by_cases hxk : xb = k
      · have HXK := Lib.hid hxk
        have hne : ((xb : Int) != (k : Int)) = false := by simp; omega
        obtain ⟨z1, hz1⟩ : ∃ z, r[xa]? = some z := ⟨_, List.getElem?_eq_getElem (by have := HN.out; omega)⟩
        obtain ⟨b1, off1, hA1, hblt⟩ := HCW.out.form (by omega)
        subst hA1
        obtain ⟨c0, c1, c2, c3, c4, c5⟩ := HCW.out.at_ hz1
        have HR1 := Lib.hid hz1
        have HM1 := Lib.hid (HCW.out.zs z1 (List.mem_of_getElem? hz1))
        have hI1 : (xa : Int) < (rn : Int) := by omega
        have hbl1 : b1 < (wr.alloc (.cells #[.int .i64 xa, .int .i64 xb] 83)).heap.size := by simp; omega
        have HCE := Lib.hid ((bcell' HK0.out).1)
        clear hz1 hxk
        go_wp2_with fail
        have HBW : Hid (Below w.heap.size w ((wr.alloc (.cells #[.int .i64 xa, .int .i64 xb] 83)).alloc (.cells #[.string z1.r.brk, .string z1.r.branch, .string z1.r.node, .slice z1.A z1.n z1.c, .int .i64 z1.r.pick, .int .i64 z1.r.opn] 68))) := Lib.hid ((HB.out.alloc HB.out.size _).alloc (by have := HB.out.size; simp; omega) _)
        have HPB : Hid (Blk ((wr.alloc (.cells #[.int .i64 xa, .int .i64 xb] 83)).alloc (.cells #[.string z1.r.brk, .string z1.r.branch, .string z1.r.node, .slice z1.A z1.n z1.c, .int .i64 z1.r.pick, .int .i64 z1.r.opn] 68)) wr.heap.size 83 #[.int .i64 xa, .int .i64 xb]) := Lib.hid ((Blk.new wr _ _).alloc _)
        have HXB : Hid (Blk ((wr.alloc (.cells #[.int .i64 xa, .int .i64 xb] 83)).alloc (.cells #[.string z1.r.brk, .string z1.r.branch, .string z1.r.node, .slice z1.A z1.n z1.c, .int .i64 z1.r.pick, .int .i64 z1.r.opn] 68)) (wr.heap.size + 1) 68 #[.string z1.r.brk, .string z1.r.branch, .string z1.r.node, .slice z1.A z1.n z1.c, .int .i64 z1.r.pick, .int .i64 z1.r.opn]) := Lib.hid (Blk.new_ (by simp))
        have HZ1 : Hid (RdP ((wr.alloc (.cells #[.int .i64 xa, .int .i64 xb] 83)).alloc (.cells #[.string z1.r.brk, .string z1.r.branch, .string z1.r.node, .slice z1.A z1.n z1.c, .int .i64 z1.r.pick, .int .i64 z1.r.opn] 68)) ((wr.alloc (.cells #[.int .i64 xa, .int .i64 xb] 83)).alloc (.cells #[.string z1.r.brk, .string z1.r.branch, .string z1.r.node, .slice z1.A z1.n z1.c, .int .i64 z1.r.pick, .int .i64 z1.r.opn] 68)).heap.size z1.A z1.n z1.r.curve) := Lib.hid ((HM1.out.1.below (((Below.refl wr.heap.size wr).alloc (Nat.le_refl _) (.cells #[.int .i64 xa, .int .i64 xb] 83)).alloc (by simp) (.cells #[.string z1.r.brk, .string z1.r.branch, .string z1.r.node, .slice z1.A z1.n z1.c, .int .i64 z1.r.pick, .int .i64 z1.r.opn] 68)) (Nat.le_refl _)).more (by simp; omega))
        have hzn1 := HM1.out.2
        clear c0 c1 c2 c3 c4 c5 hp0 hp1 e0 e1 hbl1 HCE HK0 HB3
        generalize ((wr.alloc (.cells #[.int .i64 xa, .int .i64 xb] 83)).alloc (.cells #[.string z1.r.brk, .string z1.r.branch, .string z1.r.node, .slice z1.A z1.n z1.c, .int .i64 z1.r.pick, .int .i64 z1.r.opn] 68)) = W at *
        generalize hyb : wr.heap.size = yb at *
        have HWS := Lib.hid HBW.out.size
        have p0 := HPB.out.cell 0
        have plt := HPB.out.lt
        have x3 := HXB.out.cell 3
        have xlt := HXB.out.lt
        have HGW := Lib.hid (HG.out.below HBW.out HG.out.lt)
        have gx := set_get HGW.out (i := xa) (by have := HDL.out; omega)
        have glt := HGW.out.lt
        generalize hsc : scaleC z1.r.curve (dials.getD xa 0) = sc
        obtain ⟨sl, se⟩ := sc
        have HSCE := Lib.hid hsc
        have HYB := Lib.hid hyb
        clear hsc hyb
        refine wp_region_last (S := fun w' => Below W.heap.size W w') 12 _ (by kernel_rfl) (by kernel_rfl) rfl (below_drew (Below.refl _ _)) (fun hHeld => ?_)
        simp only [List.take_succ_cons, List.take_zero]
        refine takeH 0 (v := ?_) rfl (by kernel_rfl) (fun _ _ _ h => h) (by rfl) ?_ hHeld ?_
        rotate_left 1
        · intro w' hSw; obtain ⟨hcc, -⟩ := bcell' hSw; go_simp <;> with_reducible rfl
        try simp only [Act.put, List.setIfInBounds_toArray, List.set_cons_zero, List.set_cons_succ]
        refine takeH 1 (v := ?_) rfl (by kernel_rfl) (fun _ _ _ h => h) (by rfl) ?_ hHeld ?_
        rotate_left 1
        · intro w' hSw; obtain ⟨hcc, -⟩ := bcell' hSw; go_simp <;> with_reducible rfl
        try simp only [Act.put, List.setIfInBounds_toArray, List.set_cons_zero, List.set_cons_succ]
        refine takeH 2 (v := ?_) rfl (by kernel_rfl) (fun _ _ _ h => h) (by rfl) ?_ hHeld ?_
        rotate_left 1
        · intro w' hSw; obtain ⟨hcc, -⟩ := bcell' hSw; go_simp <;> with_reducible rfl
        try simp only [Act.put, List.setIfInBounds_toArray, List.set_cons_zero, List.set_cons_succ]
        refine takeH 3 (v := ?_) rfl (by kernel_rfl) (fun _ _ _ h => h) (by rfl) ?_ hHeld ?_
        rotate_left 1
        · intro w' hSw; obtain ⟨hcc, -⟩ := bcell' hSw; go_simp <;> with_reducible rfl
        try simp only [Act.put, List.setIfInBounds_toArray, List.set_cons_zero, List.set_cons_succ]
        refine takeH 4 (v := ?_) rfl (by kernel_rfl) (fun _ _ _ h => h) (by rfl) ?_ hHeld ?_
        rotate_left 1
        · intro w' hSw; obtain ⟨hcc, -⟩ := bcell' hSw; go_simp <;> with_reducible rfl
        try simp only [Act.put, List.setIfInBounds_toArray, List.set_cons_zero, List.set_cons_succ]
        refine takeH 5 (v := ?_) rfl (by kernel_rfl) (fun _ _ _ h => h) (by rfl) ?_ hHeld ?_
        rotate_left 1
        · intro w' hSw; obtain ⟨hcc, -⟩ := bcell' hSw; go_simp <;> with_reducible rfl
        try simp only [Act.put, List.setIfInBounds_toArray, List.set_cons_zero, List.set_cons_succ]
        refine takeH 6 (v := ?_) rfl (by kernel_rfl) (fun _ _ _ h => h) (by rfl) ?_ hHeld ?_
        rotate_left 1
        · intro w' hSw; obtain ⟨hcc, -⟩ := bcell' hSw; go_simp <;> with_reducible rfl
        try simp only [Act.put, List.setIfInBounds_toArray, List.set_cons_zero, List.set_cons_succ]
        refine stepH 7 (by kernel_rfl) rfl (fun K hK => ?_)
        go_simp
        refine (scale_any z1.A z1.n z1.c z1.r.curve (dials.getD xa 0) W.drew HZ1.out hzn1).mono ?_
        rw [HSCE.out]
        rintro e w5 ⟨⟨v, rfl, ⟨CA, cn, cc, rfl, hcn, hcr⟩⟩, hb5⟩
        have HB5 : Hid (Below W.heap.size W w5) := Lib.hid ((below_drew (Below.refl _ _)).trans hb5)
        have HCR := Lib.hid hcr
        clear hb5 hcr
        go_simp
        refine hK.out _ _ ?_ (fun hHeld => ?_)
        · exact HB5.out
        clear hK K
        try simp only [Act.put, List.setIfInBounds_toArray, List.set_cons_zero, List.set_cons_succ]
        refine takeH 8 (v := ?_) rfl (by kernel_rfl) (fun _ _ _ h => h) (by rfl) ?_ hHeld ?_
        rotate_left 1
        · intro w' hSw; obtain ⟨hcc, -⟩ := bcell' hSw; go_simp <;> with_reducible rfl
        try simp only [Act.put, List.setIfInBounds_toArray, List.set_cons_zero, List.set_cons_succ]
        refine takeH 9 (v := ?_) rfl (by kernel_rfl) (fun _ _ _ h => h) (by rfl) ?_ hHeld ?_
        rotate_left 1
        · intro w' hSw; obtain ⟨hcc, -⟩ := bcell' hSw; go_simp <;> with_reducible rfl
        try simp only [Act.put, List.setIfInBounds_toArray, List.set_cons_zero, List.set_cons_succ]
        refine takeH 10 (v := ?_) rfl (by kernel_rfl) (fun _ _ _ h => h) (by rfl) ?_ hHeld ?_
        rotate_left 1
        · intro w' hSw; obtain ⟨hcc, -⟩ := bcell' hSw; go_simp <;> with_reducible rfl
        try simp only [Act.put, List.setIfInBounds_toArray, List.set_cons_zero, List.set_cons_succ]
        refine takeH 11 (v := ?_) rfl (by kernel_rfl) (fun _ _ _ h => h) (by rfl) ?_ hHeld ?_
        rotate_left 1
        · intro w' hSw; obtain ⟨hcc, -⟩ := bcell' hSw; go_simp <;> with_reducible rfl
        try simp only [Act.put, List.setIfInBounds_toArray, List.set_cons_zero, List.set_cons_succ]
        refine wpAnyH_done (by kernel_rfl) ?_ _
        refine lastQ_go (by rfl) ?_
        have HX5 := Lib.hid (HXB.out.below HB5.out HXB.out.lt)
        have HBW5 := Lib.hid (HBW.out.trans (HB5.out.mono HBW.out.size))
        clear p0 plt x3 xlt gx glt hHeld
        go_simp
        by_cases hse : se = 0
        · subst hse
          obtain ⟨hg1, _, hsg⟩ := scale_ok (d := dials.getD xa 0) (ps := z1.r.curve) (by rw [HSCE.out])
          rw [HSCE.out] at hsg
          have hgood := scGo_good (by assumption) hg1 hsg
          have hl2 := hgood.1.len.1
          have hcl := HCR.out.len
          obtain ⟨cb, co, hCA, hcblt, _⟩ := HCR.out.2 (by omega)
          subst hCA
          have hne := rdP_far HCR.out (by omega) HX5.out
          have HXV : Hid (Blk (w5.setCell ⟨yb + 1, 3, none⟩ (.slice (some ⟨cb, co, none⟩) cn cc)) (yb + 1) 68 #[.string z1.r.brk, .string z1.r.branch, .string z1.r.node, .slice (some ⟨cb, co, none⟩) cn cc, .int .i64 z1.r.pick, .int .i64 z1.r.opn]) := Lib.hid (HX5.out.set_at (i := 3) _ (by simp))
          have HCV : Hid (RdP (w5.setCell ⟨yb + 1, 3, none⟩ (.slice (some ⟨cb, co, none⟩) cn cc)) (w5.setCell ⟨yb + 1, 3, none⟩ (.slice (some ⟨cb, co, none⟩) cn cc)).heap.size (some ⟨cb, co, none⟩) cn sl) := Lib.hid (by
            have h := rdP_set (i := 3) HCR.out hne (.slice (some ⟨cb, co, none⟩) cn cc)
            rw [show (w5.setCell ⟨yb + 1, 3, none⟩ (.slice (some ⟨cb, co, none⟩) cn cc)).heap.size = w5.heap.size from by simp]
            exact h)
          have hwy : w.heap.size ≤ yb := by have := HB.out.size; have := HYB.out; omega
          have HBV : Hid (Below w.heap.size w (w5.setCell ⟨yb + 1, 3, none⟩ (.slice (some ⟨cb, co, none⟩) cn cc))) := Lib.hid (HBW5.out.setCell (by simp; omega) _)
          have x3 := HX5.out.cell 3
          have xf3 := HX5.out.frozen 3
          have xlt := HX5.out.lt
          clear hg1 hsg hgood hl2 hne hcblt
          go_wp2_with fail
          clear x3 xf3 xlt
          generalize (w5.setCell ⟨yb + 1, 3, none⟩ (.slice (some ⟨cb, co, none⟩) cn cc)) = V at *
          obtain ⟨zk, hzk⟩ : ∃ z, r[k]? = some z := ⟨_, List.getElem?_eq_getElem (by have := HN.out; omega)⟩
          have HCK := Lib.hid (HC.out.up HBV.out)
          obtain ⟨k0, k1, k2, k3, k4, k5⟩ := HCK.out.at_ hzk
          have HZK := Lib.hid (HCK.out.zs zk (List.mem_of_getElem? hzk)).1
          have hznk := (HCK.out.zs zk (List.mem_of_getElem? hzk)).2
          have HRK := Lib.hid hzk
          obtain ⟨v0, v1, v2, v3, v4, v5, vf, vlt⟩ := Ch.box (x := ⟨⟨z1.r.brk, z1.r.branch, z1.r.node, sl, z1.r.pick, z1.r.opn⟩, some ⟨cb, co, none⟩, cn, cc⟩) HXV.out
          have hkI : (k : Int) < (rn : Int) := by omega
          obtain ⟨bk, ok, hAk, hbk⟩ := HCK.out.form (by omega)
          injection hAk with hAk
          injection hAk with hAk1 hAk2 _
          subst hAk1 hAk2
          clear hzk
          refine wp_region_last (S := fun w' => Below V.heap.size V w') 13 _ (by kernel_rfl) (by kernel_rfl) rfl (below_drew (Below.refl _ _)) (fun hHeld => ?_)
          simp only [List.take_succ_cons, List.take_zero]
          refine takeH 0 (v := ?_) rfl (by kernel_rfl) (fun _ _ _ h => h) (by rfl) ?_ hHeld ?_
          rotate_left 1
          · intro w' hSw; obtain ⟨hcc, -⟩ := bcell' hSw; go_simp <;> with_reducible rfl
          try simp only [Act.put, List.setIfInBounds_toArray, List.set_cons_zero, List.set_cons_succ]
          refine takeH 1 (v := ?_) rfl (by kernel_rfl) (fun _ _ _ h => h) (by rfl) ?_ hHeld ?_
          rotate_left 1
          · intro w' hSw; obtain ⟨hcc, -⟩ := bcell' hSw; go_simp <;> with_reducible rfl
          try simp only [Act.put, List.setIfInBounds_toArray, List.set_cons_zero, List.set_cons_succ]
          refine takeH 2 (v := ?_) rfl (by kernel_rfl) (fun _ _ _ h => h) (by rfl) ?_ hHeld ?_
          rotate_left 1
          · intro w' hSw; obtain ⟨hcc, -⟩ := bcell' hSw; go_simp <;> with_reducible rfl
          try simp only [Act.put, List.setIfInBounds_toArray, List.set_cons_zero, List.set_cons_succ]
          refine takeH 3 (v := ?_) rfl (by kernel_rfl) (fun _ _ _ h => h) (by rfl) ?_ hHeld ?_
          rotate_left 1
          · intro w' hSw; obtain ⟨hcc, -⟩ := bcell' hSw; go_simp <;> with_reducible rfl
          try simp only [Act.put, List.setIfInBounds_toArray, List.set_cons_zero, List.set_cons_succ]
          refine takeH 4 (v := ?_) rfl (by kernel_rfl) (fun _ _ _ h => h) (by rfl) ?_ hHeld ?_
          rotate_left 1
          · intro w' hSw; obtain ⟨hcc, -⟩ := bcell' hSw; go_simp <;> with_reducible rfl
          try simp only [Act.put, List.setIfInBounds_toArray, List.set_cons_zero, List.set_cons_succ]
          refine takeH 5 (v := ?_) rfl (by kernel_rfl) (fun _ _ _ h => h) (by rfl) ?_ hHeld ?_
          rotate_left 1
          · intro w' hSw; obtain ⟨hcc, -⟩ := bcell' hSw; go_simp <;> with_reducible rfl
          try simp only [Act.put, List.setIfInBounds_toArray, List.set_cons_zero, List.set_cons_succ]
          refine takeH 6 (v := ?_) rfl (by kernel_rfl) (fun _ _ _ h => h) (by rfl) ?_ hHeld ?_
          rotate_left 1
          · intro w' hSw; obtain ⟨hcc, -⟩ := bcell' hSw; go_simp <;> with_reducible rfl
          try simp only [Act.put, List.setIfInBounds_toArray, List.set_cons_zero, List.set_cons_succ]
          refine takeH 7 (v := ?_) rfl (by kernel_rfl) (fun _ _ _ h => h) (by rfl) ?_ hHeld ?_
          rotate_left 1
          · intro w' hSw; obtain ⟨hcc, -⟩ := bcell' hSw; go_simp <;> with_reducible rfl
          try simp only [Act.put, List.setIfInBounds_toArray, List.set_cons_zero, List.set_cons_succ]
          refine stepH 8 (by kernel_rfl) rfl (fun K hK => ?_)
          go_simp
          refine (dial_any m l h ⟨⟨z1.r.brk, z1.r.branch, z1.r.node, sl, z1.r.pick, z1.r.opn⟩, some ⟨cb, co, none⟩, cn, cc⟩ zk V.drew HCV.out HZK.out (by show cn ≤ _; omega) hznk).mono ?_
          intro e w7 hp
          obtain ⟨hb7, dp, je, rfl, hdok⟩ := hp
          have HB7 : Hid (Below V.heap.size V w7) := Lib.hid ((below_drew (Below.refl _ _)).trans hb7)
          have HDOK := Lib.hid hdok
          clear hb7 hdok
          go_simp
          refine hK.out _ _ ?_ (fun hHeld => ?_)
          · exact HB7.out
          clear hK K
          try simp only [Act.put, List.setIfInBounds_toArray, List.set_cons_zero, List.set_cons_succ]
          refine takeH 9 (v := ?_) rfl (by kernel_rfl) (fun _ _ _ h => h) (by rfl) ?_ hHeld ?_
          rotate_left 1
          · intro w' hSw; obtain ⟨hcc, -⟩ := bcell' hSw; go_simp <;> with_reducible rfl
          try simp only [Act.put, List.setIfInBounds_toArray, List.set_cons_zero, List.set_cons_succ]
          refine takeH 10 (v := ?_) rfl (by kernel_rfl) (fun _ _ _ h => h) (by rfl) ?_ hHeld ?_
          rotate_left 1
          · intro w' hSw; obtain ⟨hcc, -⟩ := bcell' hSw; go_simp <;> with_reducible rfl
          try simp only [Act.put, List.setIfInBounds_toArray, List.set_cons_zero, List.set_cons_succ]
          refine takeH 11 (v := ?_) rfl (by kernel_rfl) (fun _ _ _ h => h) (by rfl) ?_ hHeld ?_
          rotate_left 1
          · intro w' hSw; obtain ⟨hcc, -⟩ := bcell' hSw; go_simp <;> with_reducible rfl
          try simp only [Act.put, List.setIfInBounds_toArray, List.set_cons_zero, List.set_cons_succ]
          refine takeH 12 (v := ?_) rfl (by kernel_rfl) (fun _ _ _ h => h) (by rfl) ?_ hHeld ?_
          rotate_left 1
          · intro w' hSw; obtain ⟨hcc, -⟩ := bcell' hSw; go_simp <;> with_reducible rfl
          try simp only [Act.put, List.setIfInBounds_toArray, List.set_cons_zero, List.set_cons_succ]
          refine wpAnyH_done (by kernel_rfl) ?_ _
          refine lastQ_go (by rfl) ?_
          have HBV7 := Lib.hid (HBV.out.trans (HB7.out.mono HBV.out.size))
          clear k0 k1 k2 k3 k4 k5 v0 v1 v2 v3 v4 v5 vf vlt hHeld
          go_simp
          by_cases hje : je = 0
          · subst hje
            have HCC : Hid (DofC m l h (r.map Ch.r) dials k (xa, xb) dp) := Lib.hid ⟨z1.r, zk.r, sl, by rw [List.getElem?_map, HR1.out]; rfl, by rw [List.getElem?_map, HRK.out]; rfl, HSCE.out, HDOK.out⟩
            go_wp2_with fail
            go_roundw
            case rel => exact ⟨j + 1, if d < dp then dp else d, by omega, by go_num, rfl, by have := HD0.out; split <;> omega, HBV7.out, by rw [HTK.out]; exact HI.out.take HD0.out HXK.out HCC.out⟩
            case measure => simp [intOf]; omega
          · have HJE := Lib.hid hje
            have hje' : (je != 0) = true := by simpa using hje
            clear hje
            go_wp2_with fail
            go_ret2
            exact HDP.out _ _ HBV7.out _ _ rfl (.inl ⟨HJE.out, rfl, (xa, xb), HXM.out, HXK.out, .inr ⟨z1.r, zk.r, sl, dp, by rw [List.getElem?_map, HR1.out]; rfl, by rw [List.getElem?_map, HRK.out]; rfl, HSCE.out, HDOK.out, HJE.out⟩⟩)
        · have HSE := Lib.hid hse
          have hse' : (se != 0) = true := by simpa using hse
          clear hse
          go_wp2_with fail
          go_ret2
          exact HDP.out _ _ HBW5.out _ _ rfl (.inl ⟨by decide, rfl, (xa, xb), HXM.out, HXK.out, .inl ⟨z1.r, by rw [List.getElem?_map, HR1.out]; rfl, by rw [HSCE.out]; exact HSE.out⟩⟩)
      · have hne : ((xb : Int) != (k : Int)) = true := by simp; omega
        have HXK := Lib.hid hxk
        clear hxk
        go_wp2_with fail
        go_roundw
        case rel => exact ⟨j + 1, d, by omega, by go_num, rfl, HD0.out, HB3.out, by rw [HTK.out]; exact HI.out.skip HXK.out⟩
        case measure => simp [intOf]; omega
    · have hkk : j = ps.length := by omega
      subst hkk
      have HFIN : Hid (DofI m l h (r.map Ch.r) dials k ps d) := Lib.hid (by have h := HI.out; rw [List.take_length] at h; exact h)
      by_cases hdz : d = 0
      · subst hdz
        go_wp2_with fail
        go_ret2
        exact HDP.out _ _ HB.out _ _ rfl (.inr ⟨rfl, 0, by omega, HFIN.out, by simp⟩)
      · have HDZ := Lib.hid hdz
        have hdz' : (d == 0) = false := by simpa using hdz
        clear hdz
        go_wp2_with fail
        go_ret2
        exact HDP.out _ _ HB.out _ _ rfl (.inr ⟨rfl, d, HD0.out, HFIN.out, by rw [if_neg HDZ.out]⟩)
end Go.Proofs.Ythedpegaelpbdaa
