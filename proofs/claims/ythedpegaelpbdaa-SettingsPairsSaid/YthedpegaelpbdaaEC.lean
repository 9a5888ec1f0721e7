/- settings.Coordinate: the walk. -/
import Derived.Test.YthedpegaelpbdaaEB
import Derived.Laws.OwnMore
namespace Go.Proofs.Ythedpegaelpbdaa
open Go.ChangeShapes Go.WideShapes Go.ChangeAt Go.RowKit Go.Joins Go.Deep
set_option linter.unusedVariables false
attribute [local go_sem ↓] execOp_call_val
attribute [local go_sem] callVal_func setCell_drewN alloc_drewN sEq_walk NetH.cells

theorem kclo1 (z : Ch) (w : World) : Calls Try.prog 75 (#[.agg #[.string z.r.brk, .string z.r.branch, .string z.r.node, .slice z.A z.n z.c, .int .i64 z.r.pick, .int .i64 z.r.opn]] ++ #[]) w fun e w' => e = .returned (.bool false) ∧ Below w.heap.size w w' := by
  show Calls Try.prog 75 #[.agg #[.string z.r.brk, .string z.r.branch, .string z.r.node, .slice z.A z.n z.c, .int .i64 z.r.pick, .int .i64 z.r.opn]] w _
  go_enter Try.func75, Try.ntmps75
  go_wp2_with fail
  go_ret
  exact ⟨rfl, (Below.refl _ _).alloc (Nat.le_refl _) _⟩
theorem enter_kclo1 (args : Array Value) (w : World) : (callFunc 75 args).run Try.prog w = .ok (.enter 75 args) w :=
  callFunc_enter Try.func75 (by kernel_rfl) rfl args w
theorem idxGo_none {α : Type} : ∀ (l : List α) (k : Nat), idxGo (fun _ => false) l k = -1
  | [], _ => rfl
  | _ :: r, k => by show idxGo _ r (k + 1) = -1; exact idxGo_none r (k + 1)
theorem kclo2 (p : Nat × Nat) (kb tb g n j : Nat) (out : List Int) (w : World) (hp : p.1 < n) (hl : out.length = n) (hk : w.cell? ⟨kb, 0, none⟩ = some (.int .i64 j)) (ht : w.cell? ⟨tb, 0, none⟩ = some (.slice (some ⟨g, 0, none⟩) n n)) (hg : Blk w g 3 (ints out).toArray) :
    Calls Try.prog 77 (#[.agg #[.int .i64 p.1, .int .i64 p.2]] ++ #[.pointer (some ⟨kb, 0, none⟩), .pointer (some ⟨tb, 0, none⟩)]) w fun e w' => e = .returned (.bool (decide (p.2 = j) && (out.getD p.1 0 == 0))) ∧ Below w.heap.size w w' := by
  have hc := set_get hg (i := p.1) (by omega)
  have hkl := World.block_lt_of_cell? w ⟨kb, 0, none⟩ hk
  have htl := World.block_lt_of_cell? w ⟨tb, 0, none⟩ ht
  have hgl := hg.lt
  have hpI : (p.1 : Int) < (n : Int) := by omega
  clear hg
  obtain ⟨xa, xb⟩ := p
  dsimp only at *
  generalize out.getD xa 0 = lv at *
  show Calls Try.prog 77 #[.agg #[.int .i64 xa, .int .i64 xb], .pointer (some ⟨kb, 0, none⟩), .pointer (some ⟨tb, 0, none⟩)] w _
  by_cases hx : xb = j
  · subst hx
    go_enter Try.func77, Try.ntmps77
    go_wp2_with fail
    go_ret
    exact ⟨ret_bool (by simp), (Below.refl _ _).alloc (Nat.le_refl _) _⟩
  · have hxI : ((xb : Int) == (j : Int)) = false := by simp; omega
    have HX := Lib.hid hx
    clear hx
    go_enter Try.func77, Try.ntmps77
    go_wp2_with fail
    go_ret
    exact ⟨ret_bool (by simp [HX.out]), (Below.refl _ _).alloc (Nat.le_refl _) _⟩
theorem enter_kclo2 (args : Array Value) (w : World) : (callFunc 77 args).run Try.prog w = .ok (.enter 77 args) w :=
  callFunc_enter Try.func77 (by kernel_rfl) rfl args w
/-- what Coordinate answers -/
def CooBad (m l h : Int) (r : List Cr) (ps : List (Nat × Nat)) (n : Nat) (j : Int) : Prop := sckR r ≠ 0 ∨ cirB ps n = true ∨ ∃ out k, k < n ∧ CooS m l h r ps n out ∧ (∀ p ∈ ps, p.2 = k → out.getD p.1 0 ≠ 0) ∧ DofBad m l h r out k ps j
def CooP (m l h : Int) (r : List Cr) (ps : List (Nat × Nat)) (w : World) (e : Ending) (w' : World) : Prop :=
  Below w.heap.size w w' ∧ ((∃ j : Int, j ≠ 0 ∧ CooBad m l h r ps r.length j ∧ e = .returned (.tuple #[.slice none 0 0, .int .i64 j])) ∨
    (sckR r = 0 ∧ cirB ps r.length = false ∧ ∃ (g : Nat) (dials : List Int), e = .returned (.tuple #[.slice (some ⟨g, 0, none⟩) r.length r.length, .int .i64 0]) ∧ Blk w' g 3 (ints dials).toArray ∧ CooS m l h r ps r.length dials ∧ ∀ k, k < r.length → dials.getD k 0 ≠ 0))
theorem cooP_bad (m l h : Int) (r : List Cr) (ps : List (Nat × Nat)) (w : World) (e : Ending) (w' : World) (hb : Below w.heap.size w w') (n : Nat) (hn : r.length = n) (j : Int) (hj : j ≠ 0) (hw : CooBad m l h r ps n j) (he : e = .returned (.tuple #[.slice none 0 0, .int .i64 j])) : CooP m l h r ps w e w' := by subst hn; exact ⟨hb, .inl ⟨j, hj, hw, he⟩⟩
theorem cooP_ok (m l h : Int) (r : List Cr) (ps : List (Nat × Nat)) (w : World) (n : Nat) (hn : r.length = n) (hs : sckR r = 0) (hc : cirB ps n = false) (e : Ending) (w' : World) (hb : Below w.heap.size w w') (g : Nat) (dials : List Int) (he : e = .returned (.tuple #[.slice (some ⟨g, 0, none⟩) n n, .int .i64 0])) (hg : Blk w' g 3 (ints dials).toArray) (hS : CooS m l h r ps n dials) (hnz : ∀ k, k < n → dials.getD k 0 ≠ 0) : CooP m l h r ps w e w' := by
  subst hn; exact ⟨hb, .inr ⟨hs, hc, g, dials, he, hg, hS, hnz⟩⟩
def rdyB (ps : List (Nat × Nat)) (out : List Int) (k : Nat) : Bool := (out.getD k 0 == 0) && !(ps.any fun p => decide (p.2 = k) && (out.getD p.1 0 == 0))
theorem rdy_ex {ps : List (Nat × Nat)} {n : Nat} (hps : ∀ p ∈ ps, p.1 < n) (hB : cirB ps n = false) {out : List Int} (hl : out.length = n) (hn : nzs out < n) : ∃ k, k < n ∧ rdyB ps out k = true := by
  obtain ⟨k0, h1, h2⟩ := nzs_zero out (by omega)
  obtain ⟨k, hk, h3, h4⟩ := cir_next hps hB (fun k => out.getD k 0 != 0) ⟨k0, by omega, by rw [h2]; rfl⟩
  refine ⟨k, hk, ?_⟩
  unfold rdyB
  have h5 : (out.getD k 0 == 0) = true := by simpa using h3
  rw [h5, Bool.true_and, Bool.not_eq_true', List.any_eq_false]
  intro p hp hc
  rw [Bool.and_eq_true, decide_eq_true_eq] at hc
  have := h4 p hp hc.1
  simp at this hc
  exact this hc.2
set_option maxRecDepth 100000 in
set_option maxHeartbeats 8000000 in
theorem coo_any (RA : Option Addr) (rn rc : Nat) (r : List Ch) (PA : Option Addr) (pc : Nat) (ps : List (Nat × Nat)) (m l h : Int) (w : World) (hC : RdCh w w.heap.size RA rn r) (hrn : rn ≤ 9223372036854775807) (hP : RdE w w.heap.size PA ps.length ps) (hok : PrOk rn ps) :
    Calls Try.prog 32 #[.slice RA rn rc, .slice PA ps.length pc, .int .i64 m, .int .i64 l, .int .i64 h] w (CooP m l h (r.map Ch.r) ps w) := by
  have HC := Lib.hid hC
  have HP := Lib.hid hP
  have HOK := Lib.hid hok
  have HN : Hid ((r.map Ch.r).length = rn) := Lib.hid (by rw [List.length_map]; exact hC.len)
  have hpl := hok.1
  have HBAD := Lib.hid (cooP_bad m l h (r.map Ch.r) ps w)
  have HGOOD := Lib.hid (cooP_ok m l h (r.map Ch.r) ps w)
  clear hC hP hok
  go_enter Try.func32, Try.ntmps32
  go_wp2_with fail
  refine (scheck_any RA rn rc r PA pc ps w HC.out hrn HP.out HOK.out).mono ?_
  generalize hck : sckR (r.map Ch.r) = ck
  rintro e w1 ⟨rfl, hb⟩
  have HCK := Lib.hid hck
  have HB1 := Lib.hid hb
  have HC1 := Lib.hid (HC.out.up hb)
  have HP1 := Lib.hid ((HP.out.below hb (Nat.le_refl _)).more hb.size)
  clear hb hck
  by_cases h0 : ck = 0
  · subst h0
    have hr24 : rn ≤ 24 := by have h := (sck_ok HCK.out).1; have := HN.out; omega
    go_wp2_with fail
    refine (circle_any rn PA pc ps w1 HP1.out hr24 (fun p hp => (HOK.out.2 p hp).1) hpl).mono ?_
    generalize hcb : cirB ps rn = cb
    rintro e w2 ⟨rfl, hb⟩
    have HCB := Lib.hid hcb
    have HB2 := Lib.hid (HB1.out.trans (hb.mono HB1.out.size))
    have HC2 := Lib.hid (HC1.out.up hb)
    have HP2 := Lib.hid ((HP1.out.below hb (Nat.le_refl _)).more hb.size)
    clear hb hcb
    cases cb with
    | true =>
      go_wp2_with fail
      go_ret2
      exact HBAD.out _ _ HB2.out rn HN.out 11 (by decide) (.inr (.inl HCB.out)) rfl
    | false =>
      have hmk : ∀ w : World, (Instr.makeSlice 61 (.int .i64 (rn : Int)) (.int .i64 (rn : Int))).run Try.prog w = .ok (.slice (some ⟨w.heap.size, 0, none⟩) rn rn) (w.alloc (.cells (madeCells #[.int .i64 0] rn) 3)) :=
        fun w => run_make_row' (P := Try.prog) 61 3 (.int .i64 0) 8 Try.underlying61 info_int rfl .i64 .i64 rn (by omega) (by omega) w
      have HB3 : Hid (Below w.heap.size w ((w2.alloc (.cells (madeCells #[.int .i64 0] rn) 3)).alloc (.cells #[.slice (some ⟨w2.heap.size, 0, none⟩) rn rn] 61))) := Lib.hid ((HB2.out.alloc HB2.out.size _).alloc (by have := HB2.out.size; simp; omega) _)
      have HG3 : Hid (Blk ((w2.alloc (.cells (madeCells #[.int .i64 0] rn) 3)).alloc (.cells #[.slice (some ⟨w2.heap.size, 0, none⟩) rn rn] 61)) w2.heap.size 3 (ints (List.replicate rn 0)).toArray) := Lib.hid (by
        have h := (Blk.new w2 3 (madeCells #[.int .i64 0] rn)).alloc (.cells #[.slice (some ⟨w2.heap.size, 0, none⟩) rn rn] 61)
        have e : madeCells #[.int .i64 0] rn = (ints (List.replicate rn 0)).toArray := by
          apply Array.ext'
          rw [toList_madeCells_one]
          unfold ints; simp
        rw [e] at h ⊢
        exact h)
      have HT3 : Hid (Blk ((w2.alloc (.cells (madeCells #[.int .i64 0] rn) 3)).alloc (.cells #[.slice (some ⟨w2.heap.size, 0, none⟩) rn rn] 61)) (w2.heap.size + 1) 61 #[.slice (some ⟨w2.heap.size, 0, none⟩) rn rn]) := Lib.hid (Blk.new_ (by simp))
      have HK3 := Lib.hid (((Below.refl w2.heap.size w2).alloc (Nat.le_refl _) (.cells (madeCells #[.int .i64 0] rn) 3)).alloc (by simp) (.cells #[.slice (some ⟨w2.heap.size, 0, none⟩) rn rn] 61))
      have HC3 := HC2
      have HP3 := HP2
      have hgw : w.heap.size ≤ w2.heap.size := HB2.out.size
      go_wp2_with fail
      clear hmk
      generalize (w2.alloc (.cells (madeCells #[.int .i64 0] rn) 3)).alloc (.cells #[.slice (some ⟨w2.heap.size, 0, none⟩) rn rn] 61) = w3 at *
      generalize w2.heap.size = g at *
      go_loopw [33] (fun v33 wr => ∃ (mm : Nat) (out : List Int), mm ≤ rn ∧ v33 = .int .i64 mm ∧ Below g w2 wr ∧ Below w.heap.size w wr ∧ Blk wr (g + 1) 61 #[.slice (some ⟨g, 0, none⟩) rn rn] ∧ Blk wr g 3 (ints out).toArray ∧ CooS m l h (r.map Ch.r) ps rn out ∧ nzs out = mm) (fun v33 _ => rn - (intOf v33).toNat)
      case atStart => exact ⟨0, List.replicate rn 0, by omega, rfl, HK3.out, HB3.out, HT3.out, HG3.out, ⟨by simp, fun k hk hn => absurd (by rw [List.getD_eq_getElem?_getD, List.getElem?_replicate, if_pos hk]; rfl) hn⟩, by unfold nzs; rw [List.length_eq_zero_iff, List.filter_eq_nil_iff]; intro a ha; rw [List.eq_of_mem_replicate ha]; simp⟩
      case round =>
        clear HB3 HG3 HT3 HK3
        obtain ⟨mm, out, hmm, rfl, hb3, hb, ht, hg, hS, hnz⟩ := hrel
        have HB3 := Lib.hid hb3
        have HB := Lib.hid hb
        have HT := Lib.hid ht
        have HG := Lib.hid hg
        have HS := Lib.hid hS
        have HNZ := Lib.hid hnz
        have hol := Lib.hid hS.len
        clear hb3 hb ht hg hS hnz
        by_cases hlt : mm < rn
        · have HCW := Lib.hid ((HC3.out.below HB3.out (Nat.le_refl _)).more (B' := wr.heap.size) (by have := HG.out.lt; omega))
          have hmI : (mm : Int) < (rn : Int) := by omega
          go_wp2_with fail
          refine (indexFuncCh _ _ RA rn rc r (fun _ => false) (fun w' => Below wr.heap.size wr w') enter_kclo1 (fun w' hb => HCW.out.up hb) (fun z w' _ hb => (kclo1 z w').mono fun e w'' ⟨he, hb2⟩ => ⟨he, hb.trans (hb2.mono hb.size)⟩) hrn wr (Below.refl _ _)).mono ?_
          rw [idxGo_none]
          rintro e w5 ⟨rfl, hb5⟩
          have HB5w := Lib.hid (HB3.out.trans (hb5.mono (by have := HG.out.lt; omega)))
          have HB5 := Lib.hid (HB.out.trans (hb5.mono HB.out.size))
          have HT5 := Lib.hid (HT.out.below hb5 HT.out.lt)
          have HG5 := Lib.hid (HG.out.below hb5 HG.out.lt)
          clear hb5
          go_wp2_with fail
          go_loopw [14, 39] (fun v14 v39 wr => ∃ j : Nat, j ≤ rn ∧ v39 = .int .i64 j ∧ v14 = .int .i64 (-1) ∧ Below g w2 wr ∧ Below w.heap.size w wr ∧ Blk wr (g + 1) 61 #[.slice (some ⟨g, 0, none⟩) rn rn] ∧ Blk wr g 3 (ints out).toArray ∧ ∀ k, k < j → rdyB ps out k = false) (fun _ v39 _ => rn - (intOf v39).toNat)
          case atStart => exact ⟨0, by omega, rfl, rfl, HB5w.out, HB5.out, HT5.out, HG5.out, fun k hk => by omega⟩
          case round =>
            clear HB5w HB5 HT5 HG5 HB3 HB HT HG HCW
            obtain ⟨j, hj, rfl, rfl, hb3, hb, ht, hg, hno⟩ := hrel
            have HB3 := Lib.hid hb3
            have HB := Lib.hid hb
            have HT := Lib.hid ht
            have HG := Lib.hid hg
            have HNO := Lib.hid hno
            clear hb3 hb ht hg hno
            by_cases hltj : j < rn
            · have HKA := Lib.hid ((Below.refl wr.heap.size wr).alloc (Nat.le_refl _) (.cells #[.int .i64 j] 3))
              have HB3A := Lib.hid (HB3.out.alloc (by have := HG.out.lt; omega) (.cells #[.int .i64 j] 3))
              have HBA := Lib.hid (HB.out.alloc HB.out.size (.cells #[.int .i64 j] 3))
              have HTA := Lib.hid (HT.out.alloc (.cells #[.int .i64 j] 3))
              have HGA := Lib.hid (HG.out.alloc (.cells #[.int .i64 j] 3))
              have HJA := Lib.hid (Blk.new wr 3 #[.int .i64 j])
              have t0 := HTA.out.cell 0
              have tlt := HTA.out.lt
              have j0 := HJA.out.cell 0
              have hc := set_get HGA.out (i := j) (by have := hol.out; omega)
              have hjI : (j : Int) < (rn : Int) := by omega
              have HPW := Lib.hid ((HP3.out.below HB3A.out (Nat.le_refl _)).more (B' := (wr.alloc (.cells #[.int .i64 j] 3)).heap.size) (by have := HGA.out.lt; omega))
              have HNS : Hid (rdyB ps out j = false → ∀ k, k < j + 1 → rdyB ps out k = false) := Lib.hid (fun h k hk => by
                by_cases hkj : k = j
                · rw [hkj]; exact h
                · exact HNO.out k (by omega))
              by_cases hv : out.getD j 0 = 0
              · rw [hv] at hc
                have HV := Lib.hid hv
                clear hv
                go_wp2_with fail
                generalize wr.alloc (.cells #[.int .i64 j] 3) = W at *
                generalize wr.heap.size = kb at *
                refine (containsFuncPP _ _ PA ps.length pc ps (fun p => decide (p.2 = j) && (out.getD p.1 0 == 0)) (fun w' => Below W.heap.size W w') enter_kclo2 (fun w' hb => (HPW.out.below hb (Nat.le_refl _)).more hb.size)
                  (fun z w' hz hb => (kclo2 z kb (g + 1) g rn j out w' (HOK.out.2 z hz).1 hol.out ((hb.cell (p := ⟨kb, 0, none⟩) HJA.out.lt).trans (HJA.out.cell 0)) ((hb.cell (p := ⟨g + 1, 0, none⟩) HTA.out.lt).trans (HTA.out.cell 0)) (HGA.out.below hb HGA.out.lt)).mono fun e w'' ⟨he, hb2⟩ => ⟨he, hb.trans (hb2.mono hb.size)⟩) (by omega) W (Below.refl _ _)).mono ?_
                generalize hq : (ps.any fun p => decide (p.2 = j) && (out.getD p.1 0 == 0)) = q
                rintro e w5 ⟨rfl, hb5⟩
                have HQ := Lib.hid hq
                have HB3b := Lib.hid (HB3A.out.trans (hb5.mono (by have := HGA.out.lt; omega)))
                have HBb := Lib.hid (HBA.out.trans (hb5.mono HBA.out.size))
                have HTb := Lib.hid (HTA.out.below hb5 HTA.out.lt)
                have HGb := Lib.hid (HGA.out.below hb5 HGA.out.lt)
                have HJb := Lib.hid (HJA.out.below hb5 HJA.out.lt)
                have HPb := Lib.hid ((HPW.out.below hb5 (Nat.le_refl _)).more hb5.size)
                clear hb5 hq t0 tlt j0 hc
                have t0 := HTb.out.cell 0
                have tlt := HTb.out.lt
                have j0 := HJb.out.cell 0
                have jlt := HJb.out.lt
                cases q with
                | true =>
                  have HRF : Hid (rdyB ps out j = false) := Lib.hid (by unfold rdyB; rw [HQ.out]; simp)
                  go_wp2_with fail
                  go_roundw
                  case rel => exact ⟨j + 1, by omega, by go_num, rfl, HB3b.out, HBb.out, HTb.out, HGb.out, HNS.out HRF.out⟩
                  case measure => simp [intOf]; omega
                | false =>
                  have HMN : Hid (∀ p ∈ ps, p.2 = j → out.getD p.1 0 ≠ 0) := Lib.hid (fun p hp hpj h => by
                    have := List.any_eq_false.1 HQ.out p hp
                    simp only [hpj, decide_true, Bool.true_and] at this
                    rw [h] at this; simp at this)
                  go_wp2_with fail
                  refine (dialOf_any RA rn rc r PA pc ps g rn out j m l h w5 ((HC3.out.below HB3b.out (Nat.le_refl _)).more (by have := HGb.out.lt; omega)) hr24 HPb.out HOK.out HGb.out hol.out hltj).mono ?_
                  intro e w6 hp
                  obtain ⟨hb6, d, je, rfl, hres⟩ := hp
                  have HRES := Lib.hid hres
                  have HB3c := Lib.hid (HB3b.out.trans (hb6.mono (by have := HGb.out.lt; omega)))
                  have HBc := Lib.hid (HBb.out.trans (hb6.mono HBb.out.size))
                  have HTc := Lib.hid (HTb.out.below hb6 HTb.out.lt)
                  have HGc := Lib.hid (HGb.out.below hb6 HGb.out.lt)
                  clear hb6 hres t0 tlt j0 jlt
                  have t0 := HTc.out.cell 0
                  have tlt := HTc.out.lt
                  have hc := set_get HGc.out (i := j) (by have := hol.out; omega)
                  have hf := HGc.out.frozen j
                  have glt := HGc.out.lt
                  by_cases hje : je = 0
                  · subst hje
                    obtain ⟨d0, hd0, hI, hd⟩ : ∃ d0, 0 ≤ d0 ∧ DofI m l h (r.map Ch.r) out j ps d0 ∧ d = if d0 = 0 then 1000 else d0 := by
                      rcases HRES.out with ⟨h1, _, _⟩ | ⟨_, h2⟩
                      · exact absurd rfl h1
                      · exact h2
                    have HPUT := Lib.hid (HS.out.put hltj HV.out HMN.out hd0 hI hd)
                    have HNZ2 : Hid (nzs (out.set j d) = mm + 1) := Lib.hid (by rw [nzs_set out j d HPUT.out.2 (by have := hol.out; omega) HV.out, HNZ.out])
                    clear hd0 hI hd
                    go_wp2_with fail
                    go_roundw
                    case rel => exact ⟨mm + 1, out.set j d, by omega, by go_num, HB3c.out.setCell (by simp) _, HBc.out.setCell (by simp; omega) _, HTc.out.far (by simp) _, set_ints HGc.out d, HPUT.out.1, HNZ2.out⟩
                    case measure => simp [intOf]; omega
                  · have HJE := Lib.hid hje
                    have hje' : (je != 0) = true := by simpa using hje
                    clear hje
                    go_wp2_with fail
                    go_ret2
                    exact HBAD.out _ _ HBc.out rn HN.out je HJE.out (.inr (.inr ⟨out, j, hltj, HS.out, HMN.out, by rcases HRES.out with ⟨_, _, h⟩ | ⟨h, _⟩; exact h; exact absurd h HJE.out⟩)) rfl
              · have HRF : Hid (rdyB ps out j = false) := Lib.hid (by unfold rdyB; rw [show (out.getD j 0 == 0) = false from by simpa using hv]; rfl)
                have hv' : (out.getD j 0 == 0) = false := by simpa using hv
                generalize out.getD j 0 = ov at *
                clear hv
                go_wp2_with fail
                go_roundw
                case rel => exact ⟨j + 1, by omega, by go_num, rfl, HB3A.out, HBA.out, HTA.out, HGA.out, HNS.out HRF.out⟩
                case measure => simp [intOf]; omega
            · exfalso
              obtain ⟨k, hk, hr⟩ := rdy_ex (fun p hp => (HOK.out.2 p hp).1) HCB.out hol.out (by rw [HNZ.out]; exact hlt)
              have := HNO.out k (by omega)
              rw [hr] at this; cases this
        · have hkk : mm = rn := by omega
          subst hkk
          have HALL : Hid (∀ k, k < mm → out.getD k 0 ≠ 0) := Lib.hid (fun k hk => nzs_all out (by rw [HNZ.out, hol.out]) k (by rw [hol.out]; exact hk))
          have t0 := HT.out.cell 0
          have tlt := HT.out.lt
          go_wp2_with fail
          go_ret2
          exact HGOOD.out mm HN.out HCK.out HCB.out _ _ HB.out g out rfl HG.out HS.out HALL.out
  · have HH0 := Lib.hid h0
    have h0' : (ck != 0) = true := by simpa using h0
    go_wp2_with fail
    go_ret2
    exact HBAD.out _ _ HB1.out rn HN.out ck HH0.out (.inl (by rw [HCK.out]; exact HH0.out)) rfl
end Go.Proofs.Ythedpegaelpbdaa
