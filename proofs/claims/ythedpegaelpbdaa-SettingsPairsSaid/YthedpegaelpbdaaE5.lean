/- settings.Pairs: the walk. -/
import Derived.Test.YthedpegaelpbdaaE4
import Derived.Deep.DeepCutAuto
namespace Go.Proofs.Ythedpegaelpbdaa
open Go.ChangeShapes Go.WideShapes Go.ChangeAt Go.RowKit Go.Joins Go.Deep
set_option linter.unusedVariables false
attribute [local go_sem ↓] execOp_call_val
attribute [local go_sem] callVal_func setCell_drewN alloc_drewN sEq_walk NetH.cells

/-- what Pairs answers -/
def pairsR (x : Net) (r : List Cr) : List (Nat × Nat) := prAll x r r.length
def PairsP (x : Net) (r : List Cr) (w : World) (e : Ending) (w' : World) : Prop :=
  Below w.heap.size w w' ∧ ((cckR x [] r ≠ 0 ∧ e = .returned (.tuple #[.slice none 0 0, .int .i64 (cckR x [] r)])) ∨
    (cckR x [] r = 0 ∧ ∃ A c, e = .returned (.tuple #[.slice A (pairsR x r).length c, .int .i64 0]) ∧ RdE w' w'.heap.size A (pairsR x r).length (pairsR x r)))
theorem pairsP_bad {x : Net} {r : List Cr} {w : World} {w' : World} (hb : Below w.heap.size w w') (h : cckR x [] r ≠ 0) {e : Ending} (he : e = .returned (.tuple #[.slice none 0 0, .int .i64 (cckR x [] r)])) : PairsP x r w e w' := ⟨hb, .inl ⟨h, he⟩⟩
theorem pairsP_ok {x : Net} {r : List Cr} {w : World} {w' : World} (hb : Below w.heap.size w w') (h : cckR x [] r = 0) {A : Option Addr} {c : Nat} {e : Ending} (he : e = .returned (.tuple #[.slice A (pairsR x r).length c, .int .i64 0])) (hr : RdE w' w'.heap.size A (pairsR x r).length (pairsR x r)) : PairsP x r w e w' := ⟨hb, .inr ⟨h, A, c, he, hr⟩⟩
set_option maxRecDepth 100000 in
set_option maxHeartbeats 8000000 in
theorem pairs_any (h : NetH) (x : Net) (RA : Option Addr) (rn rc : Nat) (r : List Ch) (w : World) (hR : RdNet w w.heap.size h x) (hC : RdCh w w.heap.size RA rn r) (hrn : rn ≤ 9223372036854775807) :
    Calls Try.prog 31 #[.agg h.cells, .slice RA rn rc] w (PairsP x (r.map Ch.r) w) := by
  obtain ⟨A0, n0, c0, A1, n1, c1, A2, n2, c2, A3, n3, c3, A4, n4, c4, A5, n5, c5⟩ := h
  dsimp only [NetH.cells] at *
  have HB0 : Hid (Below w.heap.size w (w.alloc (.cells #[.slice A0 n0 c0, .slice A1 n1 c1, .slice A2 n2 c2, .slice A3 n3 c3, .slice A4 n4 c4, .slice A5 n5 c5] 29))) := Lib.hid ((Below.refl _ _).alloc (Nat.le_refl _) _)
  have HQ0 : Hid (Blk (w.alloc (.cells #[.slice A0 n0 c0, .slice A1 n1 c1, .slice A2 n2 c2, .slice A3 n3 c3, .slice A4 n4 c4, .slice A5 n5 c5] 29)) w.heap.size 29 #[.slice A0 n0 c0, .slice A1 n1 c1, .slice A2 n2 c2, .slice A3 n3 c3, .slice A4 n4 c4, .slice A5 n5 c5]) := Lib.hid (Blk.new w _ _)
  have HR := Lib.hid (hR.up HB0.out)
  have HC := Lib.hid (hC.up HB0.out)
  have HN : Hid (r.length = rn) := Lib.hid hC.len
  have HN0 : Hid (x.nodes.length = n0) := Lib.hid hR.r0.1
  have HN2 : Hid (x.brs.length = n2) := Lib.hid hR.r2.1
  have HM2 : Hid (n2 ≤ 9223372036854775807) := Lib.hid hR.m2
  have HBAD := fun w' hb hn e he => Lib.hid (@pairsP_bad x (r.map Ch.r) w w' hb hn e he)
  have HGOOD := fun w' hb hn A c e he hr => Lib.hid (@pairsP_ok x (r.map Ch.r) w w' hb hn A c e he hr)
  have HBAD := Lib.hid HBAD
  have HGOOD := Lib.hid HGOOD
  have HFS : Hid (∀ u : World, RdFs u u.heap.size none 0 []) := Lib.hid fun u => ⟨rfl, rfl, fun h => absurd h (by decide)⟩
  clear hR hC
  obtain ⟨i0, hi0, hi1, hi2, hi3⟩ := info_parts infoP2
  have HI0 := Lib.hid hi0
  have HI1 := Lib.hid hi1
  have HI2 := Lib.hid hi2
  have HI3 := Lib.hid hi3
  clear hi0 hi1 hi2 hi3
  obtain ⟨y0, y1, y2, y3, y4, y5, nf, nlt⟩ := net_box (h := ⟨A0, n0, c0, A1, n1, c1, A2, n2, c2, A3, n3, c3, A4, n4, c4, A5, n5, c5⟩) HQ0.out
  go_enter Try.func31, Try.ntmps31
  go_wp2_with fail
  generalize w.alloc (.cells #[.slice A0 n0 c0, .slice A1 n1 c1, .slice A2 n2 c2, .slice A3 n3 c3, .slice A4 n4 c4, .slice A5 n5 c5] 29) = w1 at *
  clear y0 y1 y2 y3 y4 y5 nf nlt
  refine (ccheck_any ⟨A0, n0, c0, A1, n1, c1, A2, n2, c2, A3, n3, c3, A4, n4, c4, A5, n5, c5⟩ x none 0 0 [] RA rn rc r w1 HR.out (HFS.out w1) (Nat.le_refl _) (by omega) HC.out hrn).mono ?_
  generalize hck : cckR x [] (r.map Ch.r) = ck at HBAD HGOOD
  rintro e w2 ⟨rfl, hb⟩
  have HCK := Lib.hid hck
  have HB2 := Lib.hid (HB0.out.trans (hb.mono HB0.out.size))
  have HQ2 := Lib.hid (HQ0.out.below hb HQ0.out.lt)
  have HR2 := Lib.hid (HR.out.up hb)
  have HC2 := Lib.hid (HC.out.up hb)
  clear hb hck HQ0 HB0 HR HC
  by_cases h0 : ck = 0
  · subst h0
    have HOKR := Lib.hid (cck_ok HCK.out)
    have HOK := Lib.hid (netCk_ok (fck_net HOKR.out.1))
    have hr24 : rn ≤ 24 := by have h := HOKR.out.2.1; rw [List.length_map] at h; have := HN.out; omega
    obtain ⟨y0, y1, y2, y3, y4, y5, nf, nlt⟩ := net_box (h := ⟨A0, n0, c0, A1, n1, c1, A2, n2, c2, A3, n3, c3, A4, n4, c4, A5, n5, c5⟩) HQ2.out
    go_wp2_with fail
    clear y0 y1 y2 y3 y4 y5 nf nlt
    refine (get_any ⟨A0, n0, c0, A1, n1, c1, A2, n2, c2, A3, n3, c3, A4, n4, c4, A5, n5, c5⟩ x HOK.out w2 HR2.out).mono ?_
    rintro e w3 ⟨hb, gb, g2, rfl, hg, _, hblk, _⟩
    have HB3 := Lib.hid ((HB2.out.trans (hb.mono HB2.out.size)).alloc (Nat.le_trans HB2.out.size hb.size) (.cells #[.slice (some ⟨gb, 0, none⟩) n0 n0] 61))
    have HQ3 := Lib.hid ((HQ2.out.below hb HQ2.out.lt).alloc (.cells #[.slice (some ⟨gb, 0, none⟩) n0 n0] 61))
    have HG3 := Lib.hid (hblk.alloc (.cells #[.slice (some ⟨gb, 0, none⟩) n0 n0] 61))
    have hbb := Lib.hid (Blk.new w3 61 #[.slice (some ⟨gb, 0, none⟩) n0 n0])
    have HK3 := Lib.hid (hb.alloc hb.size (.cells #[.slice (some ⟨gb, 0, none⟩) n0 n0] 61))
    have HR3 := Lib.hid (HR2.out.up HK3.out)
    have HC3 := Lib.hid (HC2.out.up HK3.out)
    have hgl : gb < w3.heap.size := hblk.lt
    have hql : w.heap.size < w3.heap.size := by have := HQ2.out.lt; have := hb.size; omega
    have hfld : ∀ u, (Instr.field 131 (.agg #[.slice (some ⟨gb, 0, none⟩) n0 n0, .slice (some ⟨g2, 0, none⟩) (busN x) (busN x)]) 0).run Try.prog u = .ok (.slice (some ⟨gb, 0, none⟩) n0 n0) u := fun _ => by kernel_rfl
    clear hb hg hblk HK3
    go_wp2_with fail
    clear hfld
    have HSZ : Hid (w3.heap.size + 1 = (w3.alloc (.cells #[.slice (some ⟨gb, 0, none⟩) n0 n0] 61)).heap.size) := Lib.hid (by simp)
    generalize w3.alloc (.cells #[.slice (some ⟨gb, 0, none⟩) n0 n0] 61) = W3 at *
    generalize w3.heap.size = bb at *
    go_loopw [9, 28] (fun v9 v28 wr => ∃ i : Nat, i ≤ rn ∧ v28 = .int .i64 i ∧ Below W3.heap.size W3 wr ∧ wr.ownsRow W3.heap.size 83 2 v9 (prAll x (r.map Ch.r) i).length ((prAll x (r.map Ch.r) i).flatMap edC)) (fun _ v28 _ => rn - (intOf v28).toNat)
    case atStart => exact ⟨0, by omega, rfl, Below.refl _ _, World.ownsRow_nil _ _ _ _⟩
    case round =>
      obtain ⟨i, hi, rfl, hb, hown⟩ := hrel
      have HB := Lib.hid hb
      have HOW := Lib.hid hown
      clear hb hown
      have HCW := Lib.hid (HC3.out.up HB.out)
      by_cases hlt : i < rn
      · obtain ⟨z1, hz1⟩ : ∃ z, r[i]? = some z := ⟨_, List.getElem?_eq_getElem (by have := HN.out; omega)⟩
        obtain ⟨b1, off1, hA, hblt⟩ := HCW.out.form (by omega)
        subst hA
        obtain ⟨e0, e1, e2, e3, e4, e5⟩ := HCW.out.at_ hz1
        have HZ1 := Lib.hid hz1
        have HKA := Lib.hid ((Below.refl wr.heap.size wr).alloc (Nat.le_refl _) (.cells #[.string z1.r.brk, .string z1.r.branch, .string z1.r.node, .slice z1.A z1.n z1.c, .int .i64 z1.r.pick, .int .i64 z1.r.opn] 68))
        have HBA := Lib.hid (HB.out.alloc HB.out.size (.cells #[.string z1.r.brk, .string z1.r.branch, .string z1.r.node, .slice z1.A z1.n z1.c, .int .i64 z1.r.pick, .int .i64 z1.r.opn] 68))
        have HAB := Lib.hid (Blk.new wr 68 #[.string z1.r.brk, .string z1.r.branch, .string z1.r.node, .slice z1.A z1.n z1.c, .int .i64 z1.r.pick, .int .i64 z1.r.opn])
        have HOA := Lib.hid (own_up HOW.out HKA.out)
        have HAN : Hid (∀ g, u9.ownBlock = some g → g ≠ wr.heap.size) := Lib.hid (fun g e => by have := (HOW.out.lt g e).2; omega)
        have hiI : (i : Int) < (rn : Int) := by omega
        have hws : W3.heap.size ≤ wr.heap.size := HB.out.size
        clear hz1
        go_wp2_with fail
        clear e0 e1 e2 e3 e4 e5
        have HAL : Hid (wr.heap.size < (wr.alloc (.cells #[.string z1.r.brk, .string z1.r.branch, .string z1.r.node, .slice z1.A z1.n z1.c, .int .i64 z1.r.pick, .int .i64 z1.r.opn] 68)).heap.size) := Lib.hid (by simp)
        generalize wr.alloc (.cells #[.string z1.r.brk, .string z1.r.branch, .string z1.r.node, .slice z1.A z1.n z1.c, .int .i64 z1.r.pick, .int .i64 z1.r.opn] 68) = Wa at *
        generalize wr.heap.size = ab at *
        go_loopw [9, 35] (fun v9 v35 wq => ∃ k : Nat, k ≤ rn ∧ v35 = .int .i64 k ∧ Below W3.heap.size W3 wq ∧ wq.ownsRow W3.heap.size 83 2 v9 (prAll x (r.map Ch.r) i ++ prRow x (r.map Ch.r) i k).length ((prAll x (r.map Ch.r) i ++ prRow x (r.map Ch.r) i k).flatMap edC) ∧ Blk wq ab 68 #[.string z1.r.brk, .string z1.r.branch, .string z1.r.node, .slice z1.A z1.n z1.c, .int .i64 z1.r.pick, .int .i64 z1.r.opn] ∧ ∀ g, v9.ownBlock = some g → g ≠ ab) (fun _ v35 _ => rn - (intOf v35).toNat)
        case atStart => exact ⟨0, by omega, rfl, HBA.out, by rw [show prRow x (r.map Ch.r) i 0 = [] from rfl, List.append_nil]; exact HOA.out, HAB.out, HAN.out⟩
        case round =>
          clear HOA HAB HAN HBA HOW HB HKA HAL HCW
          obtain ⟨k, hk, rfl, hb, hown, hab, han⟩ := hrel
          have HB := Lib.hid hb
          have HOW := Lib.hid hown
          have HAB := Lib.hid hab
          have HAN := Lib.hid han
          have habl := hab.lt
          clear hb hown hab han
          have HCW := Lib.hid (HC3.out.up HB.out)
          by_cases hltk : k < rn
          · obtain ⟨z2, hz2⟩ : ∃ z, r[k]? = some z := ⟨_, List.getElem?_eq_getElem (by have := HN.out; omega)⟩
            obtain ⟨e0, e1, e2, e3, e4, e5⟩ := HCW.out.at_ hz2
            have HZ2 := Lib.hid hz2
            obtain ⟨j, b, hj, hbj, hbn, hnode, _, _⟩ := crR_ok (HOKR.out.2.2 z2.r (List.mem_map_of_mem (List.mem_of_getElem? hz2)))
            have HJ : Hid (idxGo (fun y : Br => sEq y.name z2.r.branch) x.brs 0 = (j : Int)) := Lib.hid hj
            have HBJ := Lib.hid hbj
            have HND := Lib.hid hnode
            have hjl : j < n2 := by have := (List.getElem?_eq_some_iff.1 hbj).1; have := HN2.out; omega
            have hjI : (j : Int) < (n2 : Int) := by omega
            have HKY := Lib.hid ((Below.refl wr.heap.size wr).alloc (Nat.le_refl _) (.cells #[.string z2.r.brk, .string z2.r.branch, .string z2.r.node, .slice z2.A z2.n z2.c, .int .i64 z2.r.pick, .int .i64 z2.r.opn] 68))
            have HBY := Lib.hid (HB.out.alloc HB.out.size (.cells #[.string z2.r.brk, .string z2.r.branch, .string z2.r.node, .slice z2.A z2.n z2.c, .int .i64 z2.r.pick, .int .i64 z2.r.opn] 68))
            have HYB := Lib.hid (Blk.new wr 68 #[.string z2.r.brk, .string z2.r.branch, .string z2.r.node, .slice z2.A z2.n z2.c, .int .i64 z2.r.pick, .int .i64 z2.r.opn])
            have HOY := Lib.hid (own_up HOW.out HKY.out)
            have HAY := Lib.hid (HAB.out.alloc (.cells #[.string z2.r.brk, .string z2.r.branch, .string z2.r.node, .slice z2.A z2.n z2.c, .int .i64 z2.r.pick, .int .i64 z2.r.opn] 68))
            have HQY := Lib.hid (HQ3.out.below HBY.out HQ3.out.lt)
            have HRW := Lib.hid (HR3.out.up HBY.out)
            have hkI : (k : Int) < (rn : Int) := by omega
            have HYN : Hid (∀ g, u9.ownBlock = some g → g ≠ wr.heap.size) := Lib.hid (fun g e => by have := (HOW.out.lt g e).2; omega)
            clear hz2 hj hbj hbn hnode
            go_wp2_with fail
            clear e0 e1 e2 e3 e4 e5
            have HYL : Hid (wr.heap.size < (wr.alloc (.cells #[.string z2.r.brk, .string z2.r.branch, .string z2.r.node, .slice z2.A z2.n z2.c, .int .i64 z2.r.pick, .int .i64 z2.r.opn] 68)).heap.size) := Lib.hid (by simp)
            generalize wr.alloc (.cells #[.string z2.r.brk, .string z2.r.branch, .string z2.r.node, .slice z2.A z2.n z2.c, .int .i64 z2.r.pick, .int .i64 z2.r.opn] 68) = W at *
            generalize wr.heap.size = yb at *
            obtain ⟨sb2, so2, hA2, hs2lt⟩ := HRW.out.r2.form (by show 0 < n2; omega)
            dsimp only at hA2
            subst hA2
            obtain ⟨t0, t1, t2, t3, t4, t5, t6, t7, t8⟩ := HRW.out.r2.at_ HBJ.out
            obtain ⟨y0, y1, y2, y3, y4, y5, nf, nlt⟩ := net_box (h := ⟨A0, n0, c0, A1, n1, c1, some ⟨sb2, so2, none⟩, n2, c2, A3, n3, c3, A4, n4, c4, A5, n5, c5⟩) HQY.out
            go_cut [14] (fun v14 wc => ∃ xb, v14 = .pointer (some ⟨xb, 0, none⟩) ∧ Blk wc xb 49 #[.string b.name, .string b.fr, .string b.to, .int .i64 b.x, .int .i64 b.tap, .int .i64 b.shift, .int .i64 b.limit, .int .i64 b.short, .int .i64 b.hold] ∧ Below W.heap.size W wc)
            case first =>
              refine wp_region_last (S := fun w' => Below W.heap.size W w') 9 _ (by kernel_rfl) (by kernel_rfl) rfl (below_drew (Below.refl _ _)) (fun hHeld => ?_)
              simp only [List.take_succ_cons, List.take_zero]
              refine takeH 0 (v := ?_) rfl (by kernel_rfl) (fun _ _ _ h => h) (by rfl) ?_ hHeld ?_
              rotate_left 1
              · intro w' hSw; obtain ⟨hcc, -⟩ := bcell' hSw; go_simp <;> with_reducible rfl
              try simp only [Act.put, List.setIfInBounds_toArray, List.set_cons_zero, List.set_cons_succ]
              refine takeH 1 (v := ?_) rfl (by kernel_rfl) (fun _ _ _ h => h) (by rfl) ?_ hHeld ?_
              rotate_left 1
              · intro w' hSw; obtain ⟨hcc, -⟩ := bcell' hSw; go_simp <;> with_reducible rfl
              try simp only [Act.put, List.setIfInBounds_toArray, List.set_cons_zero, List.set_cons_succ]
              refine takeH 2 (v := ?_) rfl (by kernel_rfl) (fun _ _ _ h => h) (by rfl) ?_ hHeld ?_
              rotate_left 1
              · intro w' hSw; obtain ⟨hcc, -⟩ := bcell' hSw; go_simp <;> with_reducible rfl
              try simp only [Act.put, List.setIfInBounds_toArray, List.set_cons_zero, List.set_cons_succ]
              refine takeH 3 (v := ?_) rfl (by kernel_rfl) (fun _ _ _ h => h) (by rfl) ?_ hHeld ?_
              rotate_left 1
              · intro w' hSw; obtain ⟨hcc, -⟩ := bcell' hSw; go_simp <;> with_reducible rfl
              try simp only [Act.put, List.setIfInBounds_toArray, List.set_cons_zero, List.set_cons_succ]
              refine takeH 4 (v := ?_) rfl (by kernel_rfl) (fun _ _ _ h => h) (by rfl) ?_ hHeld ?_
              rotate_left 1
              · intro w' hSw; obtain ⟨hcc, -⟩ := bcell' hSw; go_simp <;> with_reducible rfl
              try simp only [Act.put, List.setIfInBounds_toArray, List.set_cons_zero, List.set_cons_succ]
              refine stepHH 5 8 (by kernel_rfl) rfl rfl (fun K hK => ?_) (fun K hK => ?_)
              · go_simp
                refine (indexFuncBr _ _ (some ⟨sb2, so2, none⟩) n2 c2 x.brs (fun y => sEq y.name z2.r.branch) (fun w' => Below W.heap.size W w') enter_pclo (fun w' hb => (HRW.out.up hb).r2) (fun b w' _ hb => (pclo_any b z2.r.branch yb w' ((hb.cell (p := ⟨yb, 1, none⟩) HYB.out.lt).trans (HYB.out.cell 1))).mono fun e w'' ⟨he, hb2⟩ => ⟨he, hb.trans (hb2.mono hb.size)⟩) HM2.out W.drew (below_drew (Below.refl _ _))).mono ?_
                rw [HJ.out]
                rintro e w5 ⟨rfl, hb5⟩
                have HB5 := Lib.hid hb5
                clear hb5
                go_simp
                refine hK.out _ _ ?_ (fun hHeld => ?_)
                · exact HB5.out
                clear hK K
                try simp only [Act.put, List.setIfInBounds_toArray, List.set_cons_zero, List.set_cons_succ]
                refine takeH 6 (v := ?_) rfl (by kernel_rfl) (fun _ _ _ h => h) (by rfl) ?_ hHeld ?_
                rotate_left 1
                · intro w' hSw; obtain ⟨hcc, -⟩ := bcell' hSw; go_simp <;> with_reducible rfl
                try simp only [Act.put, List.setIfInBounds_toArray, List.set_cons_zero, List.set_cons_succ]
                refine takeH 7 (v := ?_) rfl (by kernel_rfl) (fun _ _ _ h => h) (by rfl) ?_ hHeld ?_
                rotate_left 1
                · intro w' hSw; obtain ⟨hcc, -⟩ := bcell' hSw; go_simp <;> with_reducible rfl
                try simp only [Act.put, List.setIfInBounds_toArray, List.set_cons_zero, List.set_cons_succ]
                refine stepH 8 (by kernel_rfl) rfl (fun K hK => ?_)
                go_simp
                refine hK.out _ _ ?_ (fun hHeld => ?_)
                · exact HB5.out.alloc HB5.out.size _
                clear hK K
                try simp only [Act.put, List.setIfInBounds_toArray, List.set_cons_zero, List.set_cons_succ]
                refine wpAnyH_done (by kernel_rfl) ?_ _
                refine lastQ_go (by rfl) ?_
                go_simp
                go_wp2_with fail
                go_meet
                case rel => exact ⟨_, rfl, Blk.new w5 _ _, HB5.out.alloc HB5.out.size _⟩
              · go_simp
                have HZ9 : Hid (Below W.heap.size W (W.drew.alloc (.cells #[.string ⟨#[]⟩, .string ⟨#[]⟩, .string ⟨#[]⟩, .int .i64 0, .int .i64 0, .int .i64 0, .int .i64 0, .int .i64 0, .int .i64 0] 49))) := Lib.hid ((below_drew (Below.refl _ _)).alloc (Nat.le_refl _) _)
                have HZB : Hid (Blk (W.drew.alloc (.cells #[.string ⟨#[]⟩, .string ⟨#[]⟩, .string ⟨#[]⟩, .int .i64 0, .int .i64 0, .int .i64 0, .int .i64 0, .int .i64 0, .int .i64 0] 49)) W.heap.size 49 #[.string ⟨#[]⟩, .string ⟨#[]⟩, .string ⟨#[]⟩, .int .i64 0, .int .i64 0, .int .i64 0, .int .i64 0, .int .i64 0, .int .i64 0]) := Lib.hid (Blk.new W.drew _ _)
                refine hK.out _ _ ?_ (fun hHeld => ?_)
                · exact HZ9.out
                clear hK K
                try simp only [Act.put, List.setIfInBounds_toArray, List.set_cons_zero, List.set_cons_succ]
                refine stepH 5 (by kernel_rfl) rfl (fun K hK => ?_)
                go_simp
                refine (indexFuncBr _ _ (some ⟨sb2, so2, none⟩) n2 c2 x.brs (fun y => sEq y.name z2.r.branch) (fun w' => Below (W.drew.alloc (.cells #[.string ⟨#[]⟩, .string ⟨#[]⟩, .string ⟨#[]⟩, .int .i64 0, .int .i64 0, .int .i64 0, .int .i64 0, .int .i64 0, .int .i64 0] 49)).heap.size (W.drew.alloc (.cells #[.string ⟨#[]⟩, .string ⟨#[]⟩, .string ⟨#[]⟩, .int .i64 0, .int .i64 0, .int .i64 0, .int .i64 0, .int .i64 0, .int .i64 0] 49)) w') enter_pclo (fun w' hb => ((HRW.out.up HZ9.out).up hb).r2) (fun b w' _ hb => (pclo_any b z2.r.branch yb w' ((hb.cell (p := ⟨yb, 1, none⟩) (Nat.lt_of_lt_of_le HYB.out.lt HZ9.out.size)).trans ((HZ9.out.cell (p := ⟨yb, 1, none⟩) HYB.out.lt).trans (HYB.out.cell 1)))).mono fun e w'' ⟨he, hb2⟩ => ⟨he, hb.trans (hb2.mono hb.size)⟩) HM2.out _ (Below.refl _ _)).mono ?_
                rw [HJ.out]
                rintro e w5 ⟨rfl, hb5⟩
                have HB5 := Lib.hid (HZ9.out.trans (hb5.mono HZ9.out.size))
                have HZ5 := Lib.hid (HZB.out.below hb5 HZB.out.lt)
                clear hb5
                go_simp
                refine hK.out _ _ ?_ (fun hHeld => ?_)
                · exact HB5.out
                clear hK K
                try simp only [Act.put, List.setIfInBounds_toArray, List.set_cons_zero, List.set_cons_succ]
                refine takeH 6 (v := ?_) rfl (by kernel_rfl) (fun _ _ _ h => h) (by rfl) ?_ hHeld ?_
                rotate_left 1
                · intro w' hSw; obtain ⟨hcc, -⟩ := bcell' hSw; go_simp <;> with_reducible rfl
                try simp only [Act.put, List.setIfInBounds_toArray, List.set_cons_zero, List.set_cons_succ]
                refine takeH 7 (v := ?_) rfl (by kernel_rfl) (fun _ _ _ h => h) (by rfl) ?_ hHeld ?_
                rotate_left 1
                · intro w' hSw; obtain ⟨hcc, -⟩ := bcell' hSw; go_simp <;> with_reducible rfl
                try simp only [Act.put, List.setIfInBounds_toArray, List.set_cons_zero, List.set_cons_succ]
                refine wpAnyH_done (by kernel_rfl) ?_ _
                refine lastQ_go (by rfl) ?_
                have zlt5 := HZ5.out.lt
                have zfz := HZ5.out.frozen
                have zc0 := HZ5.out.cell 0
                have zc1 := HZ5.out.cell 1
                have zc2 := HZ5.out.cell 2
                have zc3 := HZ5.out.cell 3
                have zc4 := HZ5.out.cell 4
                have zc5 := HZ5.out.cell 5
                have zc6 := HZ5.out.cell 6
                have zc7 := HZ5.out.cell 7
                have zc8 := HZ5.out.cell 8
                go_simp
                go_wp2_with fail
                go_meet
                case rel =>
                  refine ⟨_, rfl, blkSet9e rfl HZ5.out, ?_⟩
                  repeat' (first | with_reducible exact HB5.out | refine Below.setCell ?_ (by simp) _)
            obtain ⟨xb, rfl, hxb, hbw⟩ := hcut
            have HBX6 := Lib.hid hxb
            have HBW6 := Lib.hid hbw
            clear hxb hbw
            have HB6 := Lib.hid (HBY.out.trans (HBW6.out.mono HBY.out.size))
            have HO6 := Lib.hid (own_up HOY.out HBW6.out)
            have HA6 := Lib.hid (HAY.out.below HBW6.out HAY.out.lt)
            have HY6 := Lib.hid (HYB.out.below HBW6.out HYB.out.lt)
            have HQ6 := Lib.hid (HQY.out.below HBW6.out HQY.out.lt)
            have HG6 := Lib.hid (HG3.out.below HB6.out HG3.out.lt)
            have hb6 := (hbb.out.below HB6.out hbb.out.lt).cell 0
            have HR6 := Lib.hid (HRW.out.up HBW6.out)
            have hq6 := HQ6.out.cell 0
            have a1 := HA6.out.cell 1
            have a2 := HA6.out.cell 2
            have w1' := HY6.out.cell 1
            have w2' := HY6.out.cell 2
            have x1 := HBX6.out.cell 1
            have x2 := HBX6.out.cell 2
            have hal := HA6.out.lt
            have hyl := HY6.out.lt
            have hxl := HBX6.out.lt
            have hbl := (hbb.out.below HB6.out hbb.out.lt).lt
            have hql6 := HQ6.out.lt
            clear y0 y1 y2 y3 y4 y5 nf nlt t0 t1 t2 t3 t4 t5 t6 t7 t8
            have HOTH : Hid (othR x z2.r = if sEq z2.r.node b.fr = true then b.to else b.fr) := Lib.hid (by unfold othR; rw [show cbraR x z2.r = (j : Int) from HJ.out, Int.toNat_natCast, HBJ.out])
            have HBN := Lib.hid (HOK.out.br b (List.mem_of_getElem? HBJ.out))
            have HN1M : Hid (z1.r.node ∈ x.nodes) := Lib.hid (by
              obtain ⟨j', b', _, hbj', _, hnode', _, _⟩ := crR_ok (HOKR.out.2.2 z1.r (List.mem_map_of_mem (List.mem_of_getElem? HZ1.out)))
              have h := HOK.out.br b' (List.mem_of_getElem? hbj')
              rcases hnode' with h1 | h1 <;> rw [h1]
              · exact h.1
              · exact h.2.1)
            have HPR : Hid (pr1 x (r.map Ch.r) i k = if prB x z1.r z2.r = true then [(i, k)] else []) := Lib.hid (by unfold pr1; rw [List.getElem?_map, List.getElem?_map, HZ1.out, HZ2.out]; rfl)
            cases hq : sEq z2.r.node b.fr with
            | true =>
              have HO' : Hid (othR x z2.r = b.to) := Lib.hid (by rw [HOTH.out, hq]; rfl)
              go_wp2_with fail
              cases hbr : sEq z1.r.branch z2.r.branch with
              | true =>
                have HPB : Hid (prB x z1.r z2.r = false) := Lib.hid (by unfold prB; rw [hbr]; rfl)
                refine wp_region_last (S := fun w' => Below wc.heap.size wc w') 14 _ (by kernel_rfl) (by kernel_rfl) rfl (below_drew (Below.refl _ _)) (fun hHeld => ?_)
                simp only [List.take_succ_cons, List.take_zero]
                refine takeH 0 (v := ?_) rfl (by kernel_rfl) (fun _ _ _ h => h) (by rfl) ?_ hHeld ?_
                rotate_left 1
                · intro w' hSw; obtain ⟨hcc, -⟩ := bcell' hSw; go_simp <;> with_reducible rfl
                try simp only [Act.put, List.setIfInBounds_toArray, List.set_cons_zero, List.set_cons_succ]
                refine takeH 1 (v := ?_) rfl (by kernel_rfl) (fun _ _ _ h => h) (by rfl) ?_ hHeld ?_
                rotate_left 1
                · intro w' hSw; obtain ⟨hcc, -⟩ := bcell' hSw; go_simp <;> with_reducible rfl
                try simp only [Act.put, List.setIfInBounds_toArray, List.set_cons_zero, List.set_cons_succ]
                refine takeH 2 (v := ?_) rfl (by kernel_rfl) (fun _ _ _ h => h) (by rfl) ?_ hHeld ?_
                rotate_left 1
                · intro w' hSw; obtain ⟨hcc, -⟩ := bcell' hSw; go_simp <;> with_reducible rfl
                try simp only [Act.put, List.setIfInBounds_toArray, List.set_cons_zero, List.set_cons_succ]
                refine takeH 3 (v := ?_) rfl (by kernel_rfl) (fun _ _ _ h => h) (by rfl) ?_ hHeld ?_
                rotate_left 1
                · intro w' hSw; obtain ⟨hcc, -⟩ := bcell' hSw; go_simp <;> with_reducible rfl
                try simp only [Act.put, List.setIfInBounds_toArray, List.set_cons_zero, List.set_cons_succ]
                refine takeH 4 (v := ?_) rfl (by kernel_rfl) (fun _ _ _ h => h) (by rfl) ?_ hHeld ?_
                rotate_left 1
                · intro w' hSw; obtain ⟨hcc, -⟩ := bcell' hSw; go_simp <;> with_reducible rfl
                try simp only [Act.put, List.setIfInBounds_toArray, List.set_cons_zero, List.set_cons_succ]
                refine takeH 5 (v := ?_) rfl (by kernel_rfl) (fun _ _ _ h => h) (by rfl) ?_ hHeld ?_
                rotate_left 1
                · intro w' hSw; obtain ⟨hcc, -⟩ := bcell' hSw; go_simp <;> with_reducible rfl
                try simp only [Act.put, List.setIfInBounds_toArray, List.set_cons_zero, List.set_cons_succ]
                refine skipH 6 rfl (by kernel_rfl) (fun _ _ _ h => h) (by rfl) hHeld ?_
                try simp only [Act.put, List.setIfInBounds_toArray, List.set_cons_zero, List.set_cons_succ]
                refine skipH 7 rfl (by kernel_rfl) (fun _ _ _ h => h) (by rfl) hHeld ?_
                try simp only [Act.put, List.setIfInBounds_toArray, List.set_cons_zero, List.set_cons_succ]
                refine skipH 9 rfl (by kernel_rfl) (fun _ _ _ h => h) (by rfl) hHeld ?_
                try simp only [Act.put, List.setIfInBounds_toArray, List.set_cons_zero, List.set_cons_succ]
                refine skipH 10 rfl (by kernel_rfl) (fun _ _ _ h => h) (by rfl) hHeld ?_
                try simp only [Act.put, List.setIfInBounds_toArray, List.set_cons_zero, List.set_cons_succ]
                refine skipH 11 rfl (by kernel_rfl) (fun _ _ _ h => h) (by rfl) hHeld ?_
                try simp only [Act.put, List.setIfInBounds_toArray, List.set_cons_zero, List.set_cons_succ]
                refine skipH 8 rfl (by kernel_rfl) (fun _ _ _ h => h) (by rfl) hHeld ?_
                try simp only [Act.put, List.setIfInBounds_toArray, List.set_cons_zero, List.set_cons_succ]
                refine skipH 12 rfl (by kernel_rfl) (fun _ _ _ h => h) (by rfl) hHeld ?_
                try simp only [Act.put, List.setIfInBounds_toArray, List.set_cons_zero, List.set_cons_succ]
                refine skipH 13 rfl (by kernel_rfl) (fun _ _ _ h => h) (by rfl) hHeld ?_
                try simp only [Act.put, List.setIfInBounds_toArray, List.set_cons_zero, List.set_cons_succ]
                refine wpAnyH_done (by kernel_rfl) ?_ _
                refine lastQ_go (by rfl) ?_
                have HP1 : Hid (pr1 x (r.map Ch.r) i k = []) := Lib.hid (by rw [HPR.out, if_neg (by rw [HPB.out]; simp)])
                go_simp
                go_wp2_with fail
                go_roundw
                case rel => exact ⟨k + 1, by omega, by go_num, below_drew HB6.out, by rw [prRow_succ, HP1.out, List.append_nil]; exact HO6.out.drew, HA6.out.drew, HAN.out⟩
                case measure => simp [intOf]; omega
              | false =>
                refine wp_region_last (S := fun w' => Below wc.heap.size wc w') 14 _ (by kernel_rfl) (by kernel_rfl) rfl (below_drew (Below.refl _ _)) (fun hHeld => ?_)
                simp only [List.take_succ_cons, List.take_zero]
                refine takeH 0 (v := ?_) rfl (by kernel_rfl) (fun _ _ _ h => h) (by rfl) ?_ hHeld ?_
                rotate_left 1
                · intro w' hSw; obtain ⟨hcc, -⟩ := bcell' hSw; go_simp <;> with_reducible rfl
                try simp only [Act.put, List.setIfInBounds_toArray, List.set_cons_zero, List.set_cons_succ]
                refine takeH 1 (v := ?_) rfl (by kernel_rfl) (fun _ _ _ h => h) (by rfl) ?_ hHeld ?_
                rotate_left 1
                · intro w' hSw; obtain ⟨hcc, -⟩ := bcell' hSw; go_simp <;> with_reducible rfl
                try simp only [Act.put, List.setIfInBounds_toArray, List.set_cons_zero, List.set_cons_succ]
                refine takeH 2 (v := ?_) rfl (by kernel_rfl) (fun _ _ _ h => h) (by rfl) ?_ hHeld ?_
                rotate_left 1
                · intro w' hSw; obtain ⟨hcc, -⟩ := bcell' hSw; go_simp <;> with_reducible rfl
                try simp only [Act.put, List.setIfInBounds_toArray, List.set_cons_zero, List.set_cons_succ]
                refine takeH 3 (v := ?_) rfl (by kernel_rfl) (fun _ _ _ h => h) (by rfl) ?_ hHeld ?_
                rotate_left 1
                · intro w' hSw; obtain ⟨hcc, -⟩ := bcell' hSw; go_simp <;> with_reducible rfl
                try simp only [Act.put, List.setIfInBounds_toArray, List.set_cons_zero, List.set_cons_succ]
                refine takeH 4 (v := ?_) rfl (by kernel_rfl) (fun _ _ _ h => h) (by rfl) ?_ hHeld ?_
                rotate_left 1
                · intro w' hSw; obtain ⟨hcc, -⟩ := bcell' hSw; go_simp <;> with_reducible rfl
                try simp only [Act.put, List.setIfInBounds_toArray, List.set_cons_zero, List.set_cons_succ]
                refine takeH 5 (v := ?_) rfl (by kernel_rfl) (fun _ _ _ h => h) (by rfl) ?_ hHeld ?_
                rotate_left 1
                · intro w' hSw; obtain ⟨hcc, -⟩ := bcell' hSw; go_simp <;> with_reducible rfl
                try simp only [Act.put, List.setIfInBounds_toArray, List.set_cons_zero, List.set_cons_succ]
                refine takeH 6 (v := ?_) rfl (by kernel_rfl) (fun _ _ _ h => h) (by rfl) ?_ hHeld ?_
                rotate_left 1
                · intro w' hSw; obtain ⟨hcc, -⟩ := bcell' hSw; go_simp <;> with_reducible rfl
                try simp only [Act.put, List.setIfInBounds_toArray, List.set_cons_zero, List.set_cons_succ]
                refine takeH 7 (v := ?_) rfl (by kernel_rfl) (fun _ _ _ h => h) (by rfl) ?_ hHeld ?_
                rotate_left 1
                · intro w' hSw; obtain ⟨hcc, -⟩ := bcell' hSw; go_simp <;> with_reducible rfl
                try simp only [Act.put, List.setIfInBounds_toArray, List.set_cons_zero, List.set_cons_succ]
                refine takeH 9 (v := ?_) rfl (by kernel_rfl) (fun _ _ _ h => h) (by rfl) ?_ hHeld ?_
                rotate_left 1
                · intro w' hSw; obtain ⟨hcc, -⟩ := bcell' hSw; go_simp <;> with_reducible rfl
                try simp only [Act.put, List.setIfInBounds_toArray, List.set_cons_zero, List.set_cons_succ]
                refine takeH 10 (v := ?_) rfl (by kernel_rfl) (fun _ _ _ h => h) (by rfl) ?_ hHeld ?_
                rotate_left 1
                · intro w' hSw; obtain ⟨hcc, -⟩ := bcell' hSw; go_simp <;> with_reducible rfl
                try simp only [Act.put, List.setIfInBounds_toArray, List.set_cons_zero, List.set_cons_succ]
                refine takeH 11 (v := ?_) rfl (by kernel_rfl) (fun _ _ _ h => h) (by rfl) ?_ hHeld ?_
                rotate_left 1
                · intro w' hSw; obtain ⟨hcc, -⟩ := bcell' hSw; go_simp <;> with_reducible rfl
                try simp only [Act.put, List.setIfInBounds_toArray, List.set_cons_zero, List.set_cons_succ]
                refine stepH 8 (by kernel_rfl) rfl (fun K hK => ?_)
                go_simp
                refine (pat_any x HOK.out A0 n0 c0 w.heap.size bb gb b.to wc.drew HBN.out.2.1 HN0.out (HR6.out.up (below_drew (Below.refl wc.heap.size wc))).r0 (((below_drew (Below.refl wc.heap.size wc)).cell (p := ⟨w.heap.size, 0, none⟩) hql6).trans hq6) (((below_drew (Below.refl wc.heap.size wc)).cell (p := ⟨bb, 0, none⟩) hbl).trans hb6) (HG6.out.below (below_drew (Below.refl wc.heap.size wc)) HG6.out.lt)).mono ?_
                rintro e w7 ⟨rfl, hb7⟩
                have HB7 : Hid (Below wc.heap.size wc w7) := Lib.hid ((below_drew (Below.refl _ _)).trans hb7)
                clear hb7
                go_simp
                refine hK.out _ _ ?_ (fun hHeld => ?_)
                · exact HB7.out
                clear hK K
                try simp only [Act.put, List.setIfInBounds_toArray, List.set_cons_zero, List.set_cons_succ]
                refine stepH 12 (by kernel_rfl) rfl (fun K hK => ?_)
                go_simp
                refine (pat_any x HOK.out A0 n0 c0 w.heap.size bb gb z1.r.node w7 HN1M.out HN0.out (HR6.out.up HB7.out).r0 ((HB7.out.cell (p := ⟨w.heap.size, 0, none⟩) hql6).trans hq6) ((HB7.out.cell (p := ⟨bb, 0, none⟩) hbl).trans hb6) (HG6.out.below HB7.out HG6.out.lt)).mono ?_
                rintro e w8 ⟨rfl, hb8⟩
                have HB8 : Hid (Below wc.heap.size wc w8) := Lib.hid (HB7.out.trans (hb8.mono HB7.out.size))
                clear hb8
                go_simp
                refine hK.out _ _ ?_ (fun hHeld => ?_)
                · exact HB8.out
                clear hK K
                try simp only [Act.put, List.setIfInBounds_toArray, List.set_cons_zero, List.set_cons_succ]
                refine takeH 13 (v := ?_) rfl (by kernel_rfl) (fun _ _ _ h => h) (by rfl) ?_ hHeld ?_
                rotate_left 1
                · intro w' hSw; obtain ⟨hcc, -⟩ := bcell' hSw; go_simp <;> with_reducible rfl
                try simp only [Act.put, List.setIfInBounds_toArray, List.set_cons_zero, List.set_cons_succ]
                refine wpAnyH_done (by kernel_rfl) ?_ _
                refine lastQ_go (by rfl) ?_
                have HB8w := Lib.hid (HB6.out.trans (HB8.out.mono HB6.out.size))
                have HO8 := Lib.hid (own_up HO6.out HB8.out)
                have HA8 := Lib.hid (HA6.out.below HB8.out HA6.out.lt)
                have hal8 := HA8.out.lt
                have hs8 : W3.heap.size ≤ w8.heap.size := HB8w.out.size
                have HLN : Hid ((prAll x (r.map Ch.r) i ++ prRow x (r.map Ch.r) i k).length ≤ 1000) := Lib.hid (by
                  have h1 := prAll_len x (r.map Ch.r) i
                  have h2 := prRow_len x (r.map Ch.r) i k
                  have h3 : (r.map Ch.r).length * i ≤ 24 * 24 := Nat.mul_le_mul (by rw [List.length_map]; have := HN.out; omega) (by omega)
                  rw [List.length_append]; omega)
                clear HO6 HA6 HY6 HQ6 HG6 hHeld
                go_simp
                by_cases hbe : busAt x b.to = busAt x z1.r.node
                · have HP1 : Hid (pr1 x (r.map Ch.r) i k = [(i, k)]) := Lib.hid (by rw [HPR.out, if_pos (by unfold prB; rw [hbr, HO'.out, hbe]; simp)])
                  have HNW : Hid (∀ (j : Nat) (u : Value), (edC (i, k))[j]? = some u → (w8.alloc (.cells #[.int .i64 i, .int .i64 k] 83)).cell? ((⟨w8.heap.size, 0, none⟩ : Addr).add j) = some u) := Lib.hid (World.news_of_block (B := w8.heap.size) (cs := #[.int .i64 i, .int .i64 k]) (t := 83) (fr := (0, 0)) (Blk.new w8 _ _))
                  rw [hbe]
                  generalize hes : prAll x (r.map Ch.r) i ++ prRow x (r.map Ch.r) i k = es at *
                  have HES := Lib.hid hes
                  have hln := HLN.out
                  clear hes hbe
                  go_wp2_with (at_builtin; refine wpList_append_lies _ rfl (.tmp 72) (.tmp 76) 76 rfl W3.heap.size 83 i0 _ 2 16 Try.underlying76 HI0.out HI1.out HI2.out HI3.out rfl (by omega) u9 _ _ rfl (HO8.out.alloc _) ⟨w8.heap.size, 0, none⟩ 1 1 (edC (i, k)) rfl rfl HNW.out (pr_one _) (by omega) (by simp only [maxLen]; omega) (by omega) (by simp; omega) (w8.heap.size + 1) (by simp) ?_; intro gg cap w9 hown hgrow hat hlt9)
                  have HB9 : Hid (Below W3.heap.size W3 w9) := Lib.hid (HB8w.out.trans (((Below.refl _ _).alloc hs8 _).grown hgrow (by simp; omega) (fun k hk => (HO8.out.lt k hk).1)))
                  have HA9 : Hid (Blk w9 ab 68 #[.string z1.r.brk, .string z1.r.branch, .string z1.r.node, .slice z1.A z1.n z1.c, .int .i64 z1.r.pick, .int .i64 z1.r.opn]) := Lib.hid ((HA8.out.alloc _).grown hgrow (fun e => HAN.out ab e.symm rfl))
                  have HO9 := Lib.hid hown
                  have HG9 : Hid (gg ≠ ab) := Lib.hid (by
                    rcases hat with h1 | h1
                    · exact HAN.out gg h1
                    · omega)
                  clear hown hgrow hat
                  go_roundw
                  case rel => exact ⟨k + 1, by omega, by go_num, HB9.out, by rw [prRow_succ, HP1.out, ← List.append_assoc, HES.out, List.length_append, List.flatMap_append]; simpa [edC] using HO9.out, HA9.out, fun g e => by injection e with e; rw [← e]; exact HG9.out⟩
                  case measure => simp [intOf]; omega
                · have HP1 : Hid (pr1 x (r.map Ch.r) i k = []) := Lib.hid (by rw [HPR.out, if_neg (by unfold prB; rw [hbr, HO'.out]; simp; omega)])
                  have hbe' : ((busAt x b.to : Int) == (busAt x z1.r.node : Int)) = false := by simp; omega
                  generalize (busAt x b.to : Int) = bi1 at *
                  generalize (busAt x z1.r.node : Int) = bi2 at *
                  clear hbe
                  go_wp2_with fail
                  go_roundw
                  case rel => exact ⟨k + 1, by omega, by go_num, HB8w.out, by rw [prRow_succ, HP1.out, List.append_nil]; exact HO8.out, HA8.out, HAN.out⟩
                  case measure => simp [intOf]; omega
            | false =>
              have HO' : Hid (othR x z2.r = b.fr) := Lib.hid (by rw [HOTH.out, hq]; rfl)
              go_wp2_with fail
              cases hbr : sEq z1.r.branch z2.r.branch with
              | true =>
                have HPB : Hid (prB x z1.r z2.r = false) := Lib.hid (by unfold prB; rw [hbr]; rfl)
                refine wp_region_last (S := fun w' => Below wc.heap.size wc w') 14 _ (by kernel_rfl) (by kernel_rfl) rfl (below_drew (Below.refl _ _)) (fun hHeld => ?_)
                simp only [List.take_succ_cons, List.take_zero]
                refine takeH 0 (v := ?_) rfl (by kernel_rfl) (fun _ _ _ h => h) (by rfl) ?_ hHeld ?_
                rotate_left 1
                · intro w' hSw; obtain ⟨hcc, -⟩ := bcell' hSw; go_simp <;> with_reducible rfl
                try simp only [Act.put, List.setIfInBounds_toArray, List.set_cons_zero, List.set_cons_succ]
                refine takeH 1 (v := ?_) rfl (by kernel_rfl) (fun _ _ _ h => h) (by rfl) ?_ hHeld ?_
                rotate_left 1
                · intro w' hSw; obtain ⟨hcc, -⟩ := bcell' hSw; go_simp <;> with_reducible rfl
                try simp only [Act.put, List.setIfInBounds_toArray, List.set_cons_zero, List.set_cons_succ]
                refine takeH 2 (v := ?_) rfl (by kernel_rfl) (fun _ _ _ h => h) (by rfl) ?_ hHeld ?_
                rotate_left 1
                · intro w' hSw; obtain ⟨hcc, -⟩ := bcell' hSw; go_simp <;> with_reducible rfl
                try simp only [Act.put, List.setIfInBounds_toArray, List.set_cons_zero, List.set_cons_succ]
                refine takeH 3 (v := ?_) rfl (by kernel_rfl) (fun _ _ _ h => h) (by rfl) ?_ hHeld ?_
                rotate_left 1
                · intro w' hSw; obtain ⟨hcc, -⟩ := bcell' hSw; go_simp <;> with_reducible rfl
                try simp only [Act.put, List.setIfInBounds_toArray, List.set_cons_zero, List.set_cons_succ]
                refine takeH 4 (v := ?_) rfl (by kernel_rfl) (fun _ _ _ h => h) (by rfl) ?_ hHeld ?_
                rotate_left 1
                · intro w' hSw; obtain ⟨hcc, -⟩ := bcell' hSw; go_simp <;> with_reducible rfl
                try simp only [Act.put, List.setIfInBounds_toArray, List.set_cons_zero, List.set_cons_succ]
                refine takeH 5 (v := ?_) rfl (by kernel_rfl) (fun _ _ _ h => h) (by rfl) ?_ hHeld ?_
                rotate_left 1
                · intro w' hSw; obtain ⟨hcc, -⟩ := bcell' hSw; go_simp <;> with_reducible rfl
                try simp only [Act.put, List.setIfInBounds_toArray, List.set_cons_zero, List.set_cons_succ]
                refine skipH 6 rfl (by kernel_rfl) (fun _ _ _ h => h) (by rfl) hHeld ?_
                try simp only [Act.put, List.setIfInBounds_toArray, List.set_cons_zero, List.set_cons_succ]
                refine skipH 7 rfl (by kernel_rfl) (fun _ _ _ h => h) (by rfl) hHeld ?_
                try simp only [Act.put, List.setIfInBounds_toArray, List.set_cons_zero, List.set_cons_succ]
                refine skipH 9 rfl (by kernel_rfl) (fun _ _ _ h => h) (by rfl) hHeld ?_
                try simp only [Act.put, List.setIfInBounds_toArray, List.set_cons_zero, List.set_cons_succ]
                refine skipH 10 rfl (by kernel_rfl) (fun _ _ _ h => h) (by rfl) hHeld ?_
                try simp only [Act.put, List.setIfInBounds_toArray, List.set_cons_zero, List.set_cons_succ]
                refine skipH 11 rfl (by kernel_rfl) (fun _ _ _ h => h) (by rfl) hHeld ?_
                try simp only [Act.put, List.setIfInBounds_toArray, List.set_cons_zero, List.set_cons_succ]
                refine skipH 8 rfl (by kernel_rfl) (fun _ _ _ h => h) (by rfl) hHeld ?_
                try simp only [Act.put, List.setIfInBounds_toArray, List.set_cons_zero, List.set_cons_succ]
                refine skipH 12 rfl (by kernel_rfl) (fun _ _ _ h => h) (by rfl) hHeld ?_
                try simp only [Act.put, List.setIfInBounds_toArray, List.set_cons_zero, List.set_cons_succ]
                refine skipH 13 rfl (by kernel_rfl) (fun _ _ _ h => h) (by rfl) hHeld ?_
                try simp only [Act.put, List.setIfInBounds_toArray, List.set_cons_zero, List.set_cons_succ]
                refine wpAnyH_done (by kernel_rfl) ?_ _
                refine lastQ_go (by rfl) ?_
                have HP1 : Hid (pr1 x (r.map Ch.r) i k = []) := Lib.hid (by rw [HPR.out, if_neg (by rw [HPB.out]; simp)])
                go_simp
                go_wp2_with fail
                go_roundw
                case rel => exact ⟨k + 1, by omega, by go_num, below_drew HB6.out, by rw [prRow_succ, HP1.out, List.append_nil]; exact HO6.out.drew, HA6.out.drew, HAN.out⟩
                case measure => simp [intOf]; omega
              | false =>
                refine wp_region_last (S := fun w' => Below wc.heap.size wc w') 14 _ (by kernel_rfl) (by kernel_rfl) rfl (below_drew (Below.refl _ _)) (fun hHeld => ?_)
                simp only [List.take_succ_cons, List.take_zero]
                refine takeH 0 (v := ?_) rfl (by kernel_rfl) (fun _ _ _ h => h) (by rfl) ?_ hHeld ?_
                rotate_left 1
                · intro w' hSw; obtain ⟨hcc, -⟩ := bcell' hSw; go_simp <;> with_reducible rfl
                try simp only [Act.put, List.setIfInBounds_toArray, List.set_cons_zero, List.set_cons_succ]
                refine takeH 1 (v := ?_) rfl (by kernel_rfl) (fun _ _ _ h => h) (by rfl) ?_ hHeld ?_
                rotate_left 1
                · intro w' hSw; obtain ⟨hcc, -⟩ := bcell' hSw; go_simp <;> with_reducible rfl
                try simp only [Act.put, List.setIfInBounds_toArray, List.set_cons_zero, List.set_cons_succ]
                refine takeH 2 (v := ?_) rfl (by kernel_rfl) (fun _ _ _ h => h) (by rfl) ?_ hHeld ?_
                rotate_left 1
                · intro w' hSw; obtain ⟨hcc, -⟩ := bcell' hSw; go_simp <;> with_reducible rfl
                try simp only [Act.put, List.setIfInBounds_toArray, List.set_cons_zero, List.set_cons_succ]
                refine takeH 3 (v := ?_) rfl (by kernel_rfl) (fun _ _ _ h => h) (by rfl) ?_ hHeld ?_
                rotate_left 1
                · intro w' hSw; obtain ⟨hcc, -⟩ := bcell' hSw; go_simp <;> with_reducible rfl
                try simp only [Act.put, List.setIfInBounds_toArray, List.set_cons_zero, List.set_cons_succ]
                refine takeH 4 (v := ?_) rfl (by kernel_rfl) (fun _ _ _ h => h) (by rfl) ?_ hHeld ?_
                rotate_left 1
                · intro w' hSw; obtain ⟨hcc, -⟩ := bcell' hSw; go_simp <;> with_reducible rfl
                try simp only [Act.put, List.setIfInBounds_toArray, List.set_cons_zero, List.set_cons_succ]
                refine takeH 5 (v := ?_) rfl (by kernel_rfl) (fun _ _ _ h => h) (by rfl) ?_ hHeld ?_
                rotate_left 1
                · intro w' hSw; obtain ⟨hcc, -⟩ := bcell' hSw; go_simp <;> with_reducible rfl
                try simp only [Act.put, List.setIfInBounds_toArray, List.set_cons_zero, List.set_cons_succ]
                refine takeH 6 (v := ?_) rfl (by kernel_rfl) (fun _ _ _ h => h) (by rfl) ?_ hHeld ?_
                rotate_left 1
                · intro w' hSw; obtain ⟨hcc, -⟩ := bcell' hSw; go_simp <;> with_reducible rfl
                try simp only [Act.put, List.setIfInBounds_toArray, List.set_cons_zero, List.set_cons_succ]
                refine takeH 7 (v := ?_) rfl (by kernel_rfl) (fun _ _ _ h => h) (by rfl) ?_ hHeld ?_
                rotate_left 1
                · intro w' hSw; obtain ⟨hcc, -⟩ := bcell' hSw; go_simp <;> with_reducible rfl
                try simp only [Act.put, List.setIfInBounds_toArray, List.set_cons_zero, List.set_cons_succ]
                refine takeH 9 (v := ?_) rfl (by kernel_rfl) (fun _ _ _ h => h) (by rfl) ?_ hHeld ?_
                rotate_left 1
                · intro w' hSw; obtain ⟨hcc, -⟩ := bcell' hSw; go_simp <;> with_reducible rfl
                try simp only [Act.put, List.setIfInBounds_toArray, List.set_cons_zero, List.set_cons_succ]
                refine takeH 10 (v := ?_) rfl (by kernel_rfl) (fun _ _ _ h => h) (by rfl) ?_ hHeld ?_
                rotate_left 1
                · intro w' hSw; obtain ⟨hcc, -⟩ := bcell' hSw; go_simp <;> with_reducible rfl
                try simp only [Act.put, List.setIfInBounds_toArray, List.set_cons_zero, List.set_cons_succ]
                refine takeH 11 (v := ?_) rfl (by kernel_rfl) (fun _ _ _ h => h) (by rfl) ?_ hHeld ?_
                rotate_left 1
                · intro w' hSw; obtain ⟨hcc, -⟩ := bcell' hSw; go_simp <;> with_reducible rfl
                try simp only [Act.put, List.setIfInBounds_toArray, List.set_cons_zero, List.set_cons_succ]
                refine stepH 8 (by kernel_rfl) rfl (fun K hK => ?_)
                go_simp
                refine (pat_any x HOK.out A0 n0 c0 w.heap.size bb gb b.fr wc.drew HBN.out.1 HN0.out (HR6.out.up (below_drew (Below.refl wc.heap.size wc))).r0 (((below_drew (Below.refl wc.heap.size wc)).cell (p := ⟨w.heap.size, 0, none⟩) hql6).trans hq6) (((below_drew (Below.refl wc.heap.size wc)).cell (p := ⟨bb, 0, none⟩) hbl).trans hb6) (HG6.out.below (below_drew (Below.refl wc.heap.size wc)) HG6.out.lt)).mono ?_
                rintro e w7 ⟨rfl, hb7⟩
                have HB7 : Hid (Below wc.heap.size wc w7) := Lib.hid ((below_drew (Below.refl _ _)).trans hb7)
                clear hb7
                go_simp
                refine hK.out _ _ ?_ (fun hHeld => ?_)
                · exact HB7.out
                clear hK K
                try simp only [Act.put, List.setIfInBounds_toArray, List.set_cons_zero, List.set_cons_succ]
                refine stepH 12 (by kernel_rfl) rfl (fun K hK => ?_)
                go_simp
                refine (pat_any x HOK.out A0 n0 c0 w.heap.size bb gb z1.r.node w7 HN1M.out HN0.out (HR6.out.up HB7.out).r0 ((HB7.out.cell (p := ⟨w.heap.size, 0, none⟩) hql6).trans hq6) ((HB7.out.cell (p := ⟨bb, 0, none⟩) hbl).trans hb6) (HG6.out.below HB7.out HG6.out.lt)).mono ?_
                rintro e w8 ⟨rfl, hb8⟩
                have HB8 : Hid (Below wc.heap.size wc w8) := Lib.hid (HB7.out.trans (hb8.mono HB7.out.size))
                clear hb8
                go_simp
                refine hK.out _ _ ?_ (fun hHeld => ?_)
                · exact HB8.out
                clear hK K
                try simp only [Act.put, List.setIfInBounds_toArray, List.set_cons_zero, List.set_cons_succ]
                refine takeH 13 (v := ?_) rfl (by kernel_rfl) (fun _ _ _ h => h) (by rfl) ?_ hHeld ?_
                rotate_left 1
                · intro w' hSw; obtain ⟨hcc, -⟩ := bcell' hSw; go_simp <;> with_reducible rfl
                try simp only [Act.put, List.setIfInBounds_toArray, List.set_cons_zero, List.set_cons_succ]
                refine wpAnyH_done (by kernel_rfl) ?_ _
                refine lastQ_go (by rfl) ?_
                have HB8w := Lib.hid (HB6.out.trans (HB8.out.mono HB6.out.size))
                have HO8 := Lib.hid (own_up HO6.out HB8.out)
                have HA8 := Lib.hid (HA6.out.below HB8.out HA6.out.lt)
                have hal8 := HA8.out.lt
                have hs8 : W3.heap.size ≤ w8.heap.size := HB8w.out.size
                have HLN : Hid ((prAll x (r.map Ch.r) i ++ prRow x (r.map Ch.r) i k).length ≤ 1000) := Lib.hid (by
                  have h1 := prAll_len x (r.map Ch.r) i
                  have h2 := prRow_len x (r.map Ch.r) i k
                  have h3 : (r.map Ch.r).length * i ≤ 24 * 24 := Nat.mul_le_mul (by rw [List.length_map]; have := HN.out; omega) (by omega)
                  rw [List.length_append]; omega)
                clear HO6 HA6 HY6 HQ6 HG6 hHeld
                go_simp
                by_cases hbe : busAt x b.fr = busAt x z1.r.node
                · have HP1 : Hid (pr1 x (r.map Ch.r) i k = [(i, k)]) := Lib.hid (by rw [HPR.out, if_pos (by unfold prB; rw [hbr, HO'.out, hbe]; simp)])
                  have HNW : Hid (∀ (j : Nat) (u : Value), (edC (i, k))[j]? = some u → (w8.alloc (.cells #[.int .i64 i, .int .i64 k] 83)).cell? ((⟨w8.heap.size, 0, none⟩ : Addr).add j) = some u) := Lib.hid (World.news_of_block (B := w8.heap.size) (cs := #[.int .i64 i, .int .i64 k]) (t := 83) (fr := (0, 0)) (Blk.new w8 _ _))
                  rw [hbe]
                  generalize hes : prAll x (r.map Ch.r) i ++ prRow x (r.map Ch.r) i k = es at *
                  have HES := Lib.hid hes
                  have hln := HLN.out
                  clear hes hbe
                  go_wp2_with (at_builtin; refine wpList_append_lies _ rfl (.tmp 72) (.tmp 76) 76 rfl W3.heap.size 83 i0 _ 2 16 Try.underlying76 HI0.out HI1.out HI2.out HI3.out rfl (by omega) u9 _ _ rfl (HO8.out.alloc _) ⟨w8.heap.size, 0, none⟩ 1 1 (edC (i, k)) rfl rfl HNW.out (pr_one _) (by omega) (by simp only [maxLen]; omega) (by omega) (by simp; omega) (w8.heap.size + 1) (by simp) ?_; intro gg cap w9 hown hgrow hat hlt9)
                  have HB9 : Hid (Below W3.heap.size W3 w9) := Lib.hid (HB8w.out.trans (((Below.refl _ _).alloc hs8 _).grown hgrow (by simp; omega) (fun k hk => (HO8.out.lt k hk).1)))
                  have HA9 : Hid (Blk w9 ab 68 #[.string z1.r.brk, .string z1.r.branch, .string z1.r.node, .slice z1.A z1.n z1.c, .int .i64 z1.r.pick, .int .i64 z1.r.opn]) := Lib.hid ((HA8.out.alloc _).grown hgrow (fun e => HAN.out ab e.symm rfl))
                  have HO9 := Lib.hid hown
                  have HG9 : Hid (gg ≠ ab) := Lib.hid (by
                    rcases hat with h1 | h1
                    · exact HAN.out gg h1
                    · omega)
                  clear hown hgrow hat
                  go_roundw
                  case rel => exact ⟨k + 1, by omega, by go_num, HB9.out, by rw [prRow_succ, HP1.out, ← List.append_assoc, HES.out, List.length_append, List.flatMap_append]; simpa [edC] using HO9.out, HA9.out, fun g e => by injection e with e; rw [← e]; exact HG9.out⟩
                  case measure => simp [intOf]; omega
                · have HP1 : Hid (pr1 x (r.map Ch.r) i k = []) := Lib.hid (by rw [HPR.out, if_neg (by unfold prB; rw [hbr, HO'.out]; simp; omega)])
                  have hbe' : ((busAt x b.fr : Int) == (busAt x z1.r.node : Int)) = false := by simp; omega
                  generalize (busAt x b.fr : Int) = bi1 at *
                  generalize (busAt x z1.r.node : Int) = bi2 at *
                  clear hbe
                  go_wp2_with fail
                  go_roundw
                  case rel => exact ⟨k + 1, by omega, by go_num, HB8w.out, by rw [prRow_succ, HP1.out, List.append_nil]; exact HO8.out, HA8.out, HAN.out⟩
                  case measure => simp [intOf]; omega
          · have hkk : k = rn := by omega
            subst hkk
            have HRL : Hid ((r.map Ch.r).length = k) := Lib.hid (by rw [List.length_map]; exact HN.out)
            go_wp2_with fail
            go_roundw
            case rel => exact ⟨i + 1, by omega, by go_num, HB.out, by rw [prAll_succ, HRL.out]; exact HOW.out⟩
            case measure => simp [intOf]; omega
      · have hkk : i = rn := by omega
        subst hkk
        have HRL : Hid ((r.map Ch.r).length = i) := Lib.hid (by rw [List.length_map]; exact HN.out)
        obtain ⟨A, c, hu9, hE⟩ := rdE_own HOW.out
        subst hu9
        have HE := Lib.hid hE
        have HBF := Lib.hid (HB3.out.trans (HB.out.mono HB3.out.size))
        clear hE
        go_wp2_with fail
        go_ret2
        refine (HGOOD.out _ HBF.out trivial A c _ ?_ ?_).out
        · show Ending.returned (.tuple #[.slice A (prAll x (r.map Ch.r) i).length c, .int .i64 0]) = _
          unfold pairsR; rw [HRL.out]
        · unfold pairsR; rw [HRL.out]; exact HE.out
  · have HH0 := Lib.hid h0
    have h0' : (ck != 0) = true := by simpa using h0
    go_wp2_with fail
    go_ret2
    exact (HBAD.out _ HB2.out HH0.out _ rfl).out
end Go.Proofs.Ythedpegaelpbdaa
