/- relay.Step. -/
import Derived.Test.YtodnjjlhklbniaaDP
import Derived.Deep.LoopGhost
namespace Go.Proofs.Ytodnjjlhklbniaa
open Go.ChangeShapes Go.WideShapes Go.ChangeAt Go.RowKit
set_option linter.unusedVariables false
set_option linter.unusedSimpArgs false
attribute [local go_sem ↓] execOp_call_val
attribute [local go_sem] callVal_func setCell_drewN alloc_drewN sEq_walk


theorem ctxOk_of {y : Rel} (ok : RelOk y) {s : Nat} {vals : List Bool} {Af : Option Addr} {nf cf : Nat} {flags : List ByteArray} {Ai : Option Addr} {ni ci : Nat} {ins : List Iv} {ms : Int} (hv : vals.length = y.n) (hnf : nf ≤ 256) (hni : ni ≤ 256) (hms : 1 ≤ ms ∧ ms ≤ 100000) (h1 : y.r < s) (h2 : y.gv < s) (h3 : y.m < s) : CtxOk (ctxOf y s vals Af nf cf flags Ai ni ci ins ms) :=
  ⟨ok.p, ok.hn, ok.len, hv, Nat.le_trans hnf (by omega), Nat.le_trans hni (by omega), hms, h1, h2, h3, ok.ex⟩
theorem eval0 (x : Ctx) (ok : CtxOk x) (i : Nat) (st : Rst) (lv : Value) (w : World) (h : EvW x w st lv) (hi : i < x.v.p.length) (hll : st.later.length ≤ 900000) :
    Calls Try.prog 19 #[.pointer (some ⟨x.s, 0, none⟩), .agg #[.int .i64 (i : Int), .int .i64 0]] w (EvP x 64 i 0 st lv w) := by
  have hp : x.v.p[i]? = some (x.v.p[i]'hi) := List.getElem?_eq_getElem hi
  have he := ok.ex i _ hp
  have hee : expr x.v i = (x.v.p[i]'hi).expr := by unfold expr; rw [hp]
  obtain ⟨e, hsub⟩ := sub_of (l := expr x.v i) (a := 0) (by rw [hee, he.2.1]; omega)
  have hl : (expr x.v i).length ≤ 64 := by rw [hee]; exact he.1
  have := hsub.1
  exact eval_any x ok 64 i 0 e st lv w h hsub (by omega) (by omega)
theorem sub0 {x : Ctx} (ok : CtxOk x) {i : Nat} (hi : i < x.v.p.length) : ∃ e, Sub (expr x.v i) 0 e ∧ e ≤ 64 := by
  have hp : x.v.p[i]? = some (x.v.p[i]'hi) := List.getElem?_eq_getElem hi
  have he := ok.ex i _ hp
  have hee : expr x.v i = (x.v.p[i]'hi).expr := by unfold expr; rw [hp]
  obtain ⟨e, hsub⟩ := sub_of (l := expr x.v i) (a := 0) (by rw [hee, he.2.1]; omega)
  have hl : (expr x.v i).length ≤ 64 := by rw [hee]; exact he.1
  exact ⟨e, hsub, by have := hsub.1; omega⟩
theorem eval1 (x : Ctx) (ok : CtxOk x) (q : Nat × Nat) (st : Rst) (lv : Value) (w : World) (h : EvW x w st lv) (hd : Dly x.v q) (hll : st.later.length ≤ 900000) :
    Calls Try.prog 19 #[.pointer (some ⟨x.s, 0, none⟩), .agg #[.int .i64 (q.1 : Int), .int .i64 ((q.2 : Int) + 1)]] w (EvP x 64 q.1 (q.2 + 1) st lv w) := by
  obtain ⟨h1, e, h2⟩ := hd
  have hl := expr_len ok.exOk q.1
  have := h2.1
  exact eval_any x ok 64 q.1 (q.2 + 1) e st lv w h h2 (by omega) (by omega)
theorem step_large (a0 : Value) (ms : Int) (Af : Option Addr) (nf cf : Nat) (Ai : Option Addr) (ni ci : Nat) (w : World) (hms : 1 ≤ ms ∧ ms ≤ 100000) (hnf : 256 < nf) :
    Calls Try.prog 9 #[a0, .int .i64 ms, .slice Af nf cf, .slice Ai ni ci] w fun e w' => e = .returned (.tuple #[.slice none 0 0, .int .i64 2]) ∧ w = w' := by
  obtain ⟨h1, h2⟩ := hms
  go_enter Try.func9, Try.ntmps9
  go_wp2_with fail
  go_ret2
  exact ⟨rfl, rfl⟩

theorem main_cons (V : Rin) (i : Nat) (r : List Nat) (vs : List Bool) (s : Rst) : mainGo V (i :: r) vs s = mainGo V r (vs.set i (evR { V with vals := vs } 64 i 0 s).1) (evR { V with vals := vs } 64 i 0 s).2 := rfl
theorem later_nil (v : Rin) (k : Nat → Nat → Bool × Int) : ∀ f, laterGo v f ⟨k, []⟩ = ⟨k, []⟩
  | 0 => rfl
  | f + 1 => rfl
theorem later_cons (v : Rin) (f : Nat) (k : Nat → Nat → Bool × Int) (q : Nat × Nat) (r : List (Nat × Nat)) : laterGo v (f + 1) ⟨k, q :: r⟩ = laterGo v f ⟨updK (evR v 64 q.1 (q.2 + 1) ⟨k, r⟩).2.kept q.1 q.2 ((evR v 64 q.1 (q.2 + 1) ⟨k, r⟩).1, ((evR v 64 q.1 (q.2 + 1) ⟨k, r⟩).2.kept q.1 q.2).2), (evR v 64 q.1 (q.2 + 1) ⟨k, r⟩).2.later⟩ := rfl
theorem wt_le (v : Rin) (h : exOk v) : ∀ (l : List (Nat × Nat)), LOk v l → wt v l ≤ 64 * l.length
  | [], _ => by simp [wt]
  | q :: r, hl => by
    have h1 := wt_le v h r fun y hy => hl y (List.mem_cons_of_mem _ hy)
    obtain ⟨_, e, h2⟩ := hl q (List.mem_cons_self ..)
    have h3 := h2.1
    have h4 := expr_len h q.1
    have h5 : wz v q ≤ 64 := by unfold wz; rw [h2.2.2]; simp; omega
    simp only [wt, List.length_cons]; omega
def StepP (y : Rel) (v : Rin) (kept : Nat → Nat → Bool × Int) (w : World) (e : Ending) (w' : World) : Prop :=
  ∃ u, e = .returned (.tuple #[u, .int .i64 0]) ∧ RelW y w' (stepR v y.ord kept).vals (stepR v y.ord kept).kept ∧ Fr (RelX y) w w' ∧ w'.ownsRow w.heap.size 9 1 u (stepR v y.ord kept).out.length (strsV (stepR v y.ord kept).out)
set_option maxRecDepth 100000 in
set_option maxHeartbeats 8000000 in
theorem step_any (y : Rel) (ok : RelOk y) (vals : List Bool) (kept : Nat → Nat → Bool × Int) (ms : Int) (Af : Option Addr) (nf cf : Nat) (flags : List ByteArray) (Ai : Option Addr) (ni ci : Nat) (ins : List Iv) (w : World)
    (h : RelW y w vals kept) (hF : RdStr w w.heap.size Af nf flags) (hI : RdIv w w.heap.size Ai ni ins) (hnf : nf ≤ 256) (hni : ni ≤ 1) (hms : 1 ≤ ms ∧ ms ≤ 100000) :
    Calls Try.prog 9 #[.pointer (some ⟨y.r, 0, none⟩), .int .i64 ms, .slice Af nf cf, .slice Ai ni ci] w (StepP y ⟨y.p, vals, flags, ins, ms⟩ kept w) := by
  obtain ⟨i0, hi0, hz0, hz1, hz2⟩ := info_parts info_str
  have HI0 := Lib.hid hi0
  have HI1 := Lib.hid hz0
  have HI2 := Lib.hid hz1
  have HI3 := Lib.hid hz2
  have HW := Lib.hid h
  have HFL := Lib.hid hF
  have HIN := Lib.hid hI
  have HMS := Lib.hid hms
  have HLI := Lib.hid hI.1
  have HPL : Hid (y.p.length = y.n) := Lib.hid (by rw [ok.p]; unfold rls; rw [List.length_map]; exact ok.len)
  obtain ⟨hm1, hm2⟩ := hms
  clear hi0 hz0 hz1 hz2 h hF hI
  go_enter Try.func9, Try.ntmps9
  go_wp2_with fail
  go_loopw [39] (fun i wr => ∃ k : Nat, k ≤ ni ∧ i = .int .i64 k ∧ Below w.heap.size w wr) (fun i _ => ni - (intOf i).toNat)
  case atStart => exact ⟨0, by omega, rfl, Below.refl _ _⟩
  case round =>
    obtain ⟨k, hk, rfl, hb⟩ := hrel
    have HB := Lib.hid hb
    have hrd := HIN.out.up hb
    clear hb
    by_cases hlt : k < ni
    · obtain ⟨z, hz⟩ : ∃ z, ins[k]? = some z := ⟨_, List.getElem?_eq_getElem (by have := HLI.out; omega)⟩
      obtain ⟨b, off, hA, hblt⟩ := hrd.form (by omega)
      rw [hA] at hrd
      obtain ⟨c0, c1⟩ := hrd.at_ hz
      have hk0 : k = 0 := by omega
      have hni1 : ni = 1 := by omega
      subst hk0
      rw [Nat.zero_mul, Nat.add_zero] at c0 c1
      rw [hA]
      have hW0 : Below wr.heap.size wr (wr.alloc (.cells #[.string z.name, .int .i64 z.value] 47)) := (Below.refl _ _).alloc (Nat.le_refl _) _
      have HB1 := Lib.hid (HB.out.trans (hW0.mono HB.out.size))
      have hcz : (wr.alloc (.cells #[.string z.name, .int .i64 z.value] 47)).cell? ⟨wr.heap.size, 0, none⟩ = some (.string z.name) := (Blk.new wr _ _).cell 0
      have HCZ := Lib.hid hcz
      clear hz hrd hA hblt hW0 hcz hni1
      go_wp2_with fail
      refine (containsFuncIv _ _ (some ⟨b, off, none⟩) 0 ci [] (fun x => sEq x.name z.name) (fun w' => Below (wr.alloc (.cells #[.string z.name, .int .i64 z.value] 47)).heap.size (wr.alloc (.cells #[.string z.name, .int .i64 z.value] 47)) w') enter_step1
        (fun w' hb => ⟨rfl, by simp, fun h => by omega⟩) (fun x w' hx => by simp at hx) (by omega) _ (Below.refl _ _)).mono ?_
      rintro e w1 ⟨rfl, hb⟩
      have HB2 := Lib.hid (HB1.out.trans (hb.mono HB1.out.size))
      clear hb
      go_wp2_with fail
      go_roundw
      case rel => exact ⟨1, by omega, by go_num, HB2.out⟩
      case measure => simp [intOf]; omega
    · clear hrd
      have HWR := Lib.hid (HW.out.up ok HB.out)
      obtain ⟨s, hs⟩ : ∃ s, s = wr.heap.size := ⟨_, rfl⟩
      have hWS : Below wr.heap.size wr (wr.alloc (.cells #[.pointer (some ⟨y.r, 0, none⟩), .int .i64 ms, .slice Af nf cf, .slice Ai ni ci, .slice none 0 0] 63)) := (Below.refl _ _).alloc (Nat.le_refl _) _
      have HE0 : Hid (EvW (ctxOf y s vals Af nf cf flags Ai ni ci ins ms) (wr.alloc (.cells #[.pointer (some ⟨y.r, 0, none⟩), .int .i64 ms, .slice Af nf cf, .slice Ai ni ci, .slice none 0 0] 63)) ⟨kept, []⟩ (.slice none 0 0)) := Lib.hid (by
        have hw := HWR.out.up ok hWS
        have hlo : y.lo ≤ s := by rw [hs]; exact HWR.out.lo_le ok
        have hws : w.heap.size ≤ s := by rw [hs]; exact HB.out.size
        have hb0 := HB.out.trans (hWS.mono HB.out.size)
        refine ⟨?_, hw.bR, hw.rules.more hlo, hw.vb, (HFL.out.below hb0 (Nat.le_refl _)).more hws, (HIN.out.below hb0 (Nat.le_refl _)).more hws, hw.ki, hw.ko, Qp.nil _ _⟩
        show Blk _ s _ _
        rw [hs]; exact Blk.new wr _ _)
      have HSL : Hid (y.r < s ∧ y.gv < s ∧ y.m < s ∧ w.heap.size ≤ s) := Lib.hid ⟨by rw [hs]; exact HWR.out.bR.lt, by rw [hs]; exact HWR.out.vb.lt, by rw [hs]; exact HWR.out.ki.lt, by rw [hs]; exact HB.out.size⟩
      have HORD := Lib.hid (RdI.below HWR.out.order hWS (HWR.out.lo_le ok))
      have HF0 : Hid (Fr (RelX y) w (wr.alloc (.cells #[.pointer (some ⟨y.r, 0, none⟩), .int .i64 ms, .slice Af nf cf, .slice Ai ni ci, .slice none 0 0] 63))) := Lib.hid ((Fr.of HB.out).trans_below hWS)
      have hVL : vals.length = y.n := HWR.out.vl
      have HVL := Lib.hid hVL
      have r1 := (HWR.out.up ok hWS).bR.cell 1
      have rl := (HWR.out.up ok hWS).bR.lt
      clear hWS hVL HWR HIN HFL
      go_upto_region 12 with fail
      rw [← hs]
      generalize wr.alloc (.cells #[.pointer (some ⟨y.r, 0, none⟩), .int .i64 ms, .slice Af nf cf, .slice Ai ni ci, .slice none 0 0] 63) = ws at *
      clear hs HB
      go_wp2_with fail
      have HNO : Hid (y.ord.length = y.no) := Lib.hid ok.no.symm
      have hno16 : y.no ≤ 16 := by have := ok.on; have := HNO.out; omega
      have hlos : y.lo ≤ s := by have := ok.r; have := HSL.out.1; omega
      go_loopw [61] (fun i wr => ∃ (k : Nat) (vs : List Bool) (st : Rst) (lv : Value), k ≤ y.no ∧ i = .int .i64 k ∧ EvW (ctxOf y s vs Af nf cf flags Ai ni ci ins ms) wr st lv ∧ vs.length = y.n ∧ LOk ⟨y.p, vs, flags, ins, ms⟩ st.later ∧ st.later.length ≤ 64 * k ∧ mainGo ⟨y.p, vals, flags, ins, ms⟩ y.ord vals ⟨kept, []⟩ = mainGo ⟨y.p, vals, flags, ins, ms⟩ (y.ord.drop k) vs st ∧ Fr (RelX y) w wr ∧ Fr (fun j => y.lo ≤ j) ws wr) (fun i _ => y.no - (intOf i).toNat)
      case atStart => exact ⟨0, vals, ⟨kept, []⟩, .slice none 0 0, by omega, rfl, HE0.out, HVL.out, fun q hq => (by simp at hq), by simp, rfl, HF0.out, Fr.refl _ _⟩
      case round =>
        clear r1 rl hk
        obtain ⟨k, vs, st, lv, hk, rfl, hE, hvl, hlo, hll, hmn, hf1, hf2⟩ := hrel
        have HE := Lib.hid hE
        have HVL2 := Lib.hid hvl
        have HLO := Lib.hid hlo
        have HMN := Lib.hid hmn
        have HF1 := Lib.hid hf1
        have HF2 := Lib.hid hf2
        have HOK : Hid (CtxOk (ctxOf y s vs Af nf cf flags Ai ni ci ins ms)) := Lib.hid (ctxOk_of ok hvl hnf (by omega) HMS.out HSL.out.1 HSL.out.2.1 HSL.out.2.2.1)
        have hord : RdI wr y.lo y.Ao y.no (natJ y.ord) := RdI.fr HORD.out hf2 (fun k hk hx => absurd hx (Nat.not_le.2 hk))
        clear hE hvl hlo hmn hf1 hf2
        by_cases hlt : k < y.no
        · obtain ⟨i, hi⟩ : ∃ i, y.ord[k]? = some i := ⟨_, List.getElem?_eq_getElem (by have := HNO.out; omega)⟩
          have hin : i < y.n := ok.olt i (List.mem_of_getElem? hi)
          have HIN2 : Hid (i < y.p.length) := Lib.hid (by rw [HPL.out]; exact hin)
          have hinI : (i : Int) < (y.n : Int) := by omega
          obtain ⟨b, off, hA, hblt, -⟩ := hord.2 (by omega)
          rw [hA] at hord
          have c0 := hord.at_ (i := k) (z := (i : Int)) (by unfold natJ; rw [List.getElem?_map, hi]; rfl)
          have HDC := Lib.hid (drop_cons hi)
          have hbl : b < wr.heap.size := by have := HE.out.bS.lt; have e : ((ctxOf y s vs Af nf cf flags Ai ni ci ins ms)).s = s := rfl; omega
          rw [hA]
          clear hi hord hA hblt
          have r2 : wr.cell? ⟨y.r, 2, none⟩ = some (.slice (some ⟨y.gv, 0, none⟩) y.n y.n) := HE.out.bR.cell 2
          go_upto_region 15 with fail
          clear c0 hbl
          refine wp_region_last (S := fun w' => w'.cell? ⟨y.r, 2, none⟩ = some (.slice (some ⟨y.gv, 0, none⟩) y.n y.n)) 10 _ (by kernel_rfl) (by kernel_rfl) rfl r2 (fun hHeld => ?_)
          simp only [List.take_succ_cons, List.take_zero]
          refine takeH 0 (v := ?_) rfl (by kernel_rfl) (fun _ _ _ h => h) (by rfl) ?_ hHeld ?_
          rotate_left 1
          · intro w' hSw; have g1 := hSw; go_simp <;> with_reducible rfl
          try simp only [Act.put, List.setIfInBounds_toArray, List.set_cons_zero, List.set_cons_succ]
          refine takeH 1 (v := ?_) rfl (by kernel_rfl) (fun _ _ _ h => h) (by rfl) ?_ hHeld ?_
          rotate_left 1
          · intro w' hSw; have g1 := hSw; go_simp <;> with_reducible rfl
          try simp only [Act.put, List.setIfInBounds_toArray, List.set_cons_zero, List.set_cons_succ]
          refine takeH 2 (v := ?_) rfl (by kernel_rfl) (fun _ _ _ h => h) (by rfl) ?_ hHeld ?_
          rotate_left 1
          · intro w' hSw; have g1 := hSw; go_simp <;> with_reducible rfl
          try simp only [Act.put, List.setIfInBounds_toArray, List.set_cons_zero, List.set_cons_succ]
          refine takeH 3 (v := ?_) rfl (by kernel_rfl) (fun _ _ _ h => h) (by rfl) ?_ hHeld ?_
          rotate_left 1
          · intro w' hSw; have g1 := hSw; go_simp <;> with_reducible rfl
          try simp only [Act.put, List.setIfInBounds_toArray, List.set_cons_zero, List.set_cons_succ]
          refine takeH 4 (v := ?_) rfl (by kernel_rfl) (fun _ _ _ h => h) (by rfl) ?_ hHeld ?_
          rotate_left 1
          · intro w' hSw; have g1 := hSw; go_simp <;> with_reducible rfl
          try simp only [Act.put, List.setIfInBounds_toArray, List.set_cons_zero, List.set_cons_succ]
          refine takeH 5 (v := ?_) rfl (by kernel_rfl) (fun _ _ _ h => h) (by rfl) ?_ hHeld ?_
          rotate_left 1
          · intro w' hSw; have g1 := hSw; go_simp <;> with_reducible rfl
          try simp only [Act.put, List.setIfInBounds_toArray, List.set_cons_zero, List.set_cons_succ]
          refine takeH 6 (v := ?_) rfl (by kernel_rfl) (fun _ _ _ h => h) (by rfl) ?_ hHeld ?_
          rotate_left 1
          · intro w' hSw; have g1 := hSw; go_simp <;> with_reducible rfl
          try simp only [Act.put, List.setIfInBounds_toArray, List.set_cons_zero, List.set_cons_succ]
          refine takeH 7 (v := ?_) rfl (by kernel_rfl) (fun _ _ _ h => h) (by rfl) ?_ hHeld ?_
          rotate_left 1
          · intro w' hSw; have g1 := hSw; go_simp <;> with_reducible rfl
          try simp only [Act.put, List.setIfInBounds_toArray, List.set_cons_zero, List.set_cons_succ]
          refine stepH 8 (by kernel_rfl) rfl (fun K hK => ?_)
          go_simp
          refine (eval0 (ctxOf y s vs Af nf cf flags Ai ni ci ins ms) HOK.out i st lv _ (HE.out.up (below_drew (Below.refl _ _))) HIN2.out (by omega)).mono ?_
          rintro e' w1 ⟨lv1, rfl, hE1, hF1, ho1⟩
          have HE1 := Lib.hid hE1
          have HFE := Lib.hid ((Fr.of (below_drew (Below.refl _ wr))).trans hF1 (fun i hi => .inl hi))
          have r21 : w1.cell? ⟨y.r, 2, none⟩ = some (.slice (some ⟨y.gv, 0, none⟩) y.n y.n) := hE1.bR.cell 2
          have g0 := bool_at (show Blk w1 y.gv 4 (bools vs).toArray from hE1.vals) (i := i) (by rw [HVL2.out]; exact hin)
          have gf : w1.frozen? ⟨y.gv, i, none⟩ = false := Blk.frozen (show Blk w1 y.gv 4 (bools vs).toArray from hE1.vals) i
          have gl : y.gv < w1.heap.size := hE1.vals.lt
          clear hE1 hF1 ho1 r2
          go_simp
          refine hK.out _ _ ?_ (fun hHeld => ?_)
          · exact r21
          clear hK K
          try simp only [Act.put, List.setIfInBounds_toArray, List.set_cons_zero, List.set_cons_succ]
          refine takeH 9 (v := ?_) rfl (by kernel_rfl) (fun _ _ _ h => h) (by rfl) ?_ hHeld ?_
          rotate_left 1
          · intro w' hSw; have g1 := hSw; go_simp <;> with_reducible rfl
          try simp only [Act.put, List.setIfInBounds_toArray, List.set_cons_zero, List.set_cons_succ]
          refine wpAnyH_done (by kernel_rfl) ?_ _
          refine lastQ_go (by rfl) ?_
          clear hHeld
          go_upto_region 16 with fail
          have HEV := HE1.out.set_val HOK.out ok.rg i (evR (ctxOf y s vs Af nf cf flags Ai ni ci ins ms).v 64 i 0 st).1
          obtain ⟨e0, hs0, he0⟩ := sub0 HOK.out (i := i) HIN2.out
          obtain ⟨more, m1, m2, m3, m4⟩ := ev_more (ctxOf y s vs Af nf cf flags Ai ni ci ins ms).v HOK.out.op (by have := HMS.out; show (0 : Int) ≤ ms; omega) 64 i 0 e0 st hs0 (by omega) HE.out.ko
          have hmoreL := wt_len _ more m2
          have hfs : Fr (fun j => EvX (ctxOf y s vs Af nf cf flags Ai ni ci ins ms) lv j ∨ j = y.gv) wr (w1.setCell ⟨y.gv, i, none⟩ (.bool (evR (ctxOf y s vs Af nf cf flags Ai ni ci ins ms).v 64 i 0 st).1)) := (HFE.out.mono (fun i hi => .inl (.inl hi))).set_ (.inl (.inr rfl))
          have hlvb : ∀ j, EvX (ctxOf y s vs Af nf cf flags Ai ni ci ins ms) lv j → j = y.m ∨ s ≤ j := fun j hj => by
            rcases hj with hj | hj | hj
            · exact .inl hj
            · exact .inr (Nat.le_of_eq hj.symm)
            · exact .inr (Nat.le_of_lt (Nat.lt_of_lt_of_le (Nat.lt_succ_self _) (HE.out.later.lt hj).1))
          have HR1 : Hid (Fr (RelX y) w (w1.setCell ⟨y.gv, i, none⟩ (.bool (evR (ctxOf y s vs Af nf cf flags Ai ni ci ins ms).v 64 i 0 st).1))) := Lib.hid (HF1.out.trans hfs (fun j hj => by
            rcases hj with hj | hj
            · exact (hlvb j hj).elim (fun h => .inl (.inr h)) fun h => .inr (Nat.le_trans HSL.out.2.2.2 h)
            · exact .inl (.inl hj)))
          have HR2 : Hid (Fr (fun j => y.lo ≤ j) ws (w1.setCell ⟨y.gv, i, none⟩ (.bool (evR (ctxOf y s vs Af nf cf flags Ai ni ci ins ms).v 64 i 0 st).1))) := Lib.hid (HF2.out.trans hfs (fun j hj => .inl (by
            rcases hj with hj | hj
            · exact (hlvb j hj).elim (fun h => by rw [h]; exact ok.m) fun h => Nat.le_trans hlos h
            · rw [show j = y.gv from hj]; exact ok.gv)))
          have HL2 : Hid (LOk ⟨y.p, vs.set i (evR (ctxOf y s vs Af nf cf flags Ai ni ci ins ms).v 64 i 0 st).1, flags, ins, ms⟩ (evR (ctxOf y s vs Af nf cf flags Ai ni ci ins ms).v 64 i 0 st).2.later) := Lib.hid (fun q hq => by
            rw [m1] at hq
            rcases List.mem_append.1 hq with hq | hq
            · exact HLO.out q hq
            · exact m2 q hq)
          have HLL2 : Hid ((evR (ctxOf y s vs Af nf cf flags Ai ni ci ins ms).v 64 i 0 st).2.later.length ≤ 64 * (k + 1)) := Lib.hid (by rw [m1, List.length_append]; omega)
          have HMN2 : Hid (mainGo ⟨y.p, vals, flags, ins, ms⟩ y.ord vals ⟨kept, []⟩ = mainGo ⟨y.p, vals, flags, ins, ms⟩ (y.ord.drop (k + 1)) (vs.set i (evR (ctxOf y s vs Af nf cf flags Ai ni ci ins ms).v 64 i 0 st).1) (evR (ctxOf y s vs Af nf cf flags Ai ni ci ins ms).v 64 i 0 st).2) := Lib.hid (by rw [HMN.out, HDC.out, main_cons]; rfl)
          have HEVV := Lib.hid HEV
          clear HEV hs0 m1 m2 m3 m4 hmoreL hfs hlvb r21 g0 gf gl
          go_wp2_with fail
          go_roundw
          case rel => exact ⟨k + 1, _, _, lv1, hlt, by go_num, HEVV.out, by rw [List.length_set]; exact HVL2.out, HL2.out, HLL2.out, HMN2.out, HR1.out, HR2.out⟩
          case measure => simp [intOf]; omega
        · have hkn : k = y.no := by omega
          subst hkn
          have HMAIN : Hid (mainGo ⟨y.p, vals, flags, ins, ms⟩ y.ord vals ⟨kept, []⟩ = (vs, st)) := Lib.hid (by rw [HMN.out, List.drop_eq_nil_iff.2 (by rw [HNO.out]; exact Nat.le_refl _)]; rfl)
          have hwt := wt_le (ctxOf y s vs Af nf cf flags Ai ni ci ins ms).v HOK.out.exOk st.later HLO.out
          clear HMN hord HF2 HORD HE0 HF0 HVL
          go_wp2_with fail
          obtain ⟨LT, hLT⟩ : ∃ LT, laterGo (ctxOf y s vs Af nf cf flags Ai ni ci ins ms).v (wt (ctxOf y s vs Af nf cf flags Ai ni ci ins ms).v st.later) st = LT := ⟨_, rfl⟩
          have HLT := Lib.hid hLT
          have HLT0 := Lib.hid hLT
          have HL6 : Hid (wt (ctxOf y s vs Af nf cf flags Ai ni ci ins ms).v st.later ≤ 65536) := Lib.hid (by omega)
          clear hLT hwt hll
          go_loopg [15] (wt (ctxOf y s vs Af nf cf flags Ai ni ci ins ms).v st.later) (fun f v15 wr => ∃ (st : Rst) (lv : Value), EvW (ctxOf y s vs Af nf cf flags Ai ni ci ins ms) wr st lv ∧ LOk (ctxOf y s vs Af nf cf flags Ai ni ci ins ms).v st.later ∧ wt (ctxOf y s vs Af nf cf flags Ai ni ci ins ms).v st.later ≤ f ∧ f ≤ 65536 ∧ laterGo (ctxOf y s vs Af nf cf flags Ai ni ci ins ms).v f st = LT ∧ Fr (RelX y) w wr)
          case atStart => exact ⟨st, lv, HE.out, HLO.out, Nat.le_refl _, HL6.out, HLT.out, HF1.out⟩
          case round =>
            clear HE HLO HF1 HLT HL6
            obtain ⟨⟨kp, l⟩, lv, hE, hlo, hwt, hf6, hlt, hfr⟩ := hrel
            have HE := Lib.hid hE
            have HLO := Lib.hid hlo
            have HLT := Lib.hid hlt
            have HFR := Lib.hid hfr
            have HWT := Lib.hid hwt
            have HK6 := Lib.hid hf6
            clear hE hlo hlt hfr hwt hf6
            have sl : s < wr.heap.size := HE.out.bS.lt
            have sf : wr.frozen? ⟨s, 4, none⟩ = false := HE.out.bS.frozen 4
            cases l with
            | nil =>
              obtain ⟨lA, lc, hlv⟩ := HE.out.later.slice2
              simp only [List.length_nil] at hlv
              subst hlv
              have s4 : wr.cell? ⟨s, 4, none⟩ = some (.slice lA 0 lc) := HE.out.bS.cell 4
              have HKP : Hid (LT = ⟨kp, []⟩) := Lib.hid (by rw [← HLT.out, later_nil])
              have HST : Hid (stepR ⟨y.p, vals, flags, ins, ms⟩ y.ord kept = ⟨vs, kp, outGo y.p vs⟩) := Lib.hid (by
                have h1 := HLT0.out
                rw [HKP.out] at h1
                unfold stepR
                rw [show mainGo ⟨y.p, vals, flags, ins, ms⟩ y.ord (Rin.vals ⟨y.p, vals, flags, ins, ms⟩) ⟨kept, []⟩ = (vs, st) from HMAIN.out]
                show (⟨vs, (laterGo (ctxOf y s vs Af nf cf flags Ai ni ci ins ms).v (wt (ctxOf y s vs Af nf cf flags Ai ni ci ins ms).v st.later) st).kept, outGo y.p vs⟩ : Rres) = _
                rw [h1])
              have r0 : wr.cell? ⟨y.r, 0, none⟩ = some (.slice y.A y.n y.c) := HE.out.bR.cell 0
              have rl : y.r < wr.heap.size := HE.out.bR.lt
              obtain ⟨wx, hwx⟩ : ∃ wx, wx = wr := ⟨_, rfl⟩
              subst hwx
              clear HLT HLT0 HMAIN HWT HK6 HLO
              go_wp2_with fail
              clear s4 sf
              go_loopw [18, 123] (fun u i wr => ∃ (j : Nat) (out : List ByteArray), j ≤ y.n ∧ i = .int .i64 j ∧ out.length ≤ j ∧ Below wx.heap.size wx wr ∧ wr.ownsRow wx.heap.size 9 1 u out.length (strsV out) ∧ outGo y.p vs = out ++ outGo (y.p.drop j) (vs.drop j)) (fun _ i _ => y.n - (intOf i).toNat)
              case atStart => exact ⟨0, [], by omega, rfl, by simp, Below.refl _ _, own_none _ _ _ _, rfl⟩
              case round =>
                clear r0 rl sl
                obtain ⟨j, out, hj, rfl, hol, hb, hown, hog⟩ := hrel
                have HBX := Lib.hid hb
                have HO := Lib.hid hown
                have HOG := Lib.hid hog
                have HEX := Lib.hid (HE.out.up hb)
                clear hb hown hog
                by_cases hjl : j < y.n
                · obtain ⟨z, hz⟩ : ∃ z, y.hs[j]? = some z := ⟨_, List.getElem?_eq_getElem (by rw [ok.len]; exact hjl)⟩
                  obtain ⟨bv, hbv⟩ : ∃ bv, vs[j]? = some bv := ⟨_, List.getElem?_eq_getElem (by rw [HVL2.out]; exact hjl)⟩
                  have hpz : y.p[j]? = some z.r := by rw [ok.p]; unfold rls; rw [List.getElem?_map, hz]; rfl
                  have HDC : Hid (outGo (y.p.drop j) (vs.drop j) = (if bv then [z.r.name] else []) ++ outGo (y.p.drop (j + 1)) (vs.drop (j + 1))) := Lib.hid (by rw [drop_cons hpz, drop_cons hbv, outGo_cons])
                  have hru : RdRh wr s y.A y.n y.hs := HEX.out.rules
                  obtain ⟨b, off, hA, hblt⟩ := hru.form (by omega)
                  rw [hA] at hru
                  obtain ⟨c0, c1⟩ := hru.at_ hz
                  have slr : s < wr.heap.size := HEX.out.bS.lt
                  have hbl : b < wr.heap.size := by omega
                  have r2 : wr.cell? ⟨y.r, 2, none⟩ = some (.slice (some ⟨y.gv, 0, none⟩) y.n y.n) := HEX.out.bR.cell 2
                  have rl : y.r < wr.heap.size := HEX.out.bR.lt
                  have g0 := bool_at (show Blk wr y.gv 4 (bools vs).toArray from HEX.out.vals) (i := j) (by rw [HVL2.out]; exact hjl)
                  rw [show vs.getD j false = bv from by rw [List.getD_eq_getElem?_getD, hbv]; rfl] at g0
                  have gl : y.gv < wr.heap.size := HEX.out.vals.lt
                  have hjI : (j : Int) < (y.n : Int) := by omega
                  have hBZ : Below wr.heap.size wr (wr.alloc (.cells #[.string z.r.name, .slice z.A z.n z.c] 32)) := (Below.refl _ _).alloc (Nat.le_refl _) _
                  have HBZ := Lib.hid (HBX.out.trans (hBZ.mono HBX.out.size))
                  have HOZ := Lib.hid (own_keep HO.out hBZ)
                  have hbase : wx.heap.size ≤ (wr.alloc (.cells #[.string z.r.name, .slice z.A z.n z.c] 32)).heap.size := HBZ.out.size
                  have hn16 := ok.hn
                  rw [hA]
                  clear hz hbv hpz hru hA hblt hBZ slr
                  cases bv with
                  | true =>
                    have HE1 : Hid (outGo y.p vs = (out ++ [z.r.name]) ++ outGo (y.p.drop (j + 1)) (vs.drop (j + 1))) := Lib.hid (by rw [HOG.out, HDC.out, List.append_assoc]; rfl)
                    go_wp2_with (at_builtin; refine wpList_app1 rfl (.tmp 135) (.tmp 138) _ rfl wx.heap.size 9 i0 _ 1 16 Try.underlying34 HI0.out HI1.out HI2.out HI3.out rfl (by omega) u18 out.length (strsV out) rfl HOZ.out (congrArg (fun k => Value.slice (some ⟨k, 0, none⟩) 1 1) (Array.size_push (xs := wr.heap) _).symm) rfl ?k1 ?k2 ?k3 hbase ?_)
                    case k1 => simp [Value.oneCell']
                    case k2 => simp only [maxLen]; omega
                    case k3 => omega
                    intro v' w6 hown6 hb6 hg6
                    have HO6 : Hid (w6.ownsRow wx.heap.size 9 1 v' (out ++ [z.r.name]).length (strsV (out ++ [z.r.name]))) := Lib.hid (by rw [List.length_append, List.length_singleton, strsV_snoc]; exact hown6)
                    have HB6 := Lib.hid (HBZ.out.trans hb6)
                    clear hown6 hb6 hg6
                    go_wp2_with fail
                    go_roundw
                    case rel => exact ⟨j + 1, out ++ [z.r.name], hjl, by go_num, by rw [List.length_append, List.length_singleton]; omega, HB6.out, HO6.out, HE1.out⟩
                    case measure => simp [intOf]; omega
                  | false =>
                    have HE1 : Hid (outGo y.p vs = out ++ outGo (y.p.drop (j + 1)) (vs.drop (j + 1))) := Lib.hid (by rw [HOG.out, HDC.out]; rfl)
                    go_wp2_with fail
                    go_roundw
                    case rel => exact ⟨j + 1, out, hjl, by go_num, by omega, HBZ.out, HOZ.out, HE1.out⟩
                    case measure => simp [intOf]; omega
                · have hd : y.p.drop j = [] := by rw [List.drop_eq_nil_iff, HPL.out]; omega
                  have HE1 : Hid (outGo y.p vs = out) := Lib.hid (by rw [HOG.out, hd]; simp [outGo])
                  have HFX : Hid (Fr (RelX y) w wr) := Lib.hid (HFR.out.trans_below HBX.out)
                  have hlow : ∀ k, k < y.lo → RelX y k → ∃ es c, w.heap[k]? = some (.map es c) := fun k hk hx => by
                    rcases hx with hx | hx
                    · have := ok.gv; omega
                    · have := ok.m; omega
                  have HRW : Hid (RelW y wr vs kp) := Lib.hid ⟨HEX.out.bR, HW.out.rules.fr HFX.out hlow, RdI.fr HW.out.order HFX.out hlow, HEX.out.vals, HVL2.out, HEX.out.kept, HEX.out.ko⟩
                  have HOM := Lib.hid (own_mono HO.out (show w.heap.size ≤ wx.heap.size from HFR.out.size))
                  clear hd hlow
                  go_wp2_with fail
                  go_ret2
                  refine ⟨_, rfl, ?_, HFX.out, ?_⟩
                  · rw [HST.out]; exact HRW.out
                  · rw [HST.out]
                    show World.ownsRow _ _ _ _ _ (outGo y.p vs).length (strsV (outGo y.p vs))
                    rw [HE1.out]; exact HOM.out
            | cons q rest =>
              obtain ⟨g, off, cap, rfl, hg1, hg2, hg3, q0, q1⟩ := HE.out.later.form
              have s4 : wr.cell? ⟨s, 4, none⟩ = some (.slice (some ⟨g, off, none⟩) (rest.length + 1) cap) := HE.out.bS.cell 4
              have hpos := (HLO.out q (List.mem_cons_self ..)).pos
              obtain ⟨f, rfl⟩ : ∃ f, gk = f + 1 := ⟨gk - 1, by have := HWT.out; simp only [wt] at this; omega⟩
              have h0 : 0 < rest.length + 1 := by omega
              have hqs := (HLO.out q (List.mem_cons_self ..)).1
              clear hpos
              go_upto_region 20 with fail
              have HD := Lib.hid (HLO.out q (List.mem_cons_self ..))
              have hq1 : q.1 ≤ 16 := by have h1 := HD.out.1; have h2 : ((ctxOf y s vs Af nf cf flags Ai ni ci ins ms).v).p.length = y.n := HPL.out; have := ok.hn; omega
              have hq2 : q.2 ≤ 64 := by obtain ⟨_, e, h2⟩ := HD.out; have := h2.1; have := h2.2.1; have := expr_len HOK.out.exOk q.1; omega
              have hrl : rest.length ≤ 70000 := by have := wt_len _ (q :: rest) HLO.out; have := HWT.out; have := HK6.out; simp only [List.length_cons] at *; omega
              have hqt := HE.out.later.tail
              rw [Nat.add_sub_cancel] at hqt
              have hsx : ((ctxOf y s vs Af nf cf flags Ai ni ci ins ms)).s = s := rfl
              generalize hlv1 : Value.slice (if cap = 1 then some (⟨g, off, none⟩ : Addr) else some ⟨g, off + 2, none⟩) rest.length (cap - 1) = lv1 at *
              have hset := HE.out.set_later HOK.out hqt
              have hbb : Below (wr.setCell ⟨s, 4, none⟩ lv1).heap.size (wr.setCell ⟨s, 4, none⟩ lv1) ((wr.setCell ⟨s, 4, none⟩ lv1).alloc (.cells #[.int .i64 (q.1 : Int), .int .i64 (q.2 : Int)] 66)) := (Below.refl _ _).alloc (Nat.le_refl _) _
              have HEQ := Lib.hid (hset.up hbb)
              have HQB : Hid (Blk ((wr.setCell ⟨s, 4, none⟩ lv1).alloc (.cells #[.int .i64 (q.1 : Int), .int .i64 (q.2 : Int)] 66)) wr.heap.size 66 #[.int .i64 (q.1 : Int), .int .i64 (q.2 : Int)]) := Lib.hid (Blk.new_ (by simp))
              have HFQ : Hid (Fr (RelX y) w ((wr.setCell ⟨s, 4, none⟩ lv1).alloc (.cells #[.int .i64 (q.1 : Int), .int .i64 (q.2 : Int)] 66))) := Lib.hid ((Fr.set_ HFR.out (.inr HSL.out.2.2.2)).trans_below hbb)
              have HGQ : Hid (s < wr.heap.size ∧ w.heap.size ≤ wr.heap.size) := Lib.hid ⟨sl, Nat.le_trans HSL.out.2.2.2 (Nat.le_of_lt sl)⟩
              have HLT2 : Hid (laterGo (ctxOf y s vs Af nf cf flags Ai ni ci ins ms).v f ⟨updK (evR (ctxOf y s vs Af nf cf flags Ai ni ci ins ms).v 64 q.1 (q.2 + 1) ⟨kp, rest⟩).2.kept q.1 q.2 ((evR (ctxOf y s vs Af nf cf flags Ai ni ci ins ms).v 64 q.1 (q.2 + 1) ⟨kp, rest⟩).1, ((evR (ctxOf y s vs Af nf cf flags Ai ni ci ins ms).v 64 q.1 (q.2 + 1) ⟨kp, rest⟩).2.kept q.1 q.2).2), (evR (ctxOf y s vs Af nf cf flags Ai ni ci ins ms).v 64 q.1 (q.2 + 1) ⟨kp, rest⟩).2.later⟩ = LT) := Lib.hid (by rw [← later_cons]; exact HLT.out)
              have HLQ : Hid (∀ k, lv1.ownBlock = some k → k < wr.heap.size) := Lib.hid (fun k hk => (hqt.lt hk).2)
              have HKO : Hid (KOk kp) := Lib.hid HE.out.ko
              clear hqt hlv1 hset hbb s4 q0 q1 hg1 hg2 hg3 h0 hqs HE HFR sl sf HLT
              generalize (wr.setCell ⟨s, 4, none⟩ lv1).alloc (.cells #[.int .i64 (q.1 : Int), .int .i64 (q.2 : Int)] 66) = wq at *
              generalize wr.heap.size = bq at *
              have q0 := HQB.out.cell 0
              have q1 := HQB.out.cell 1
              have ql := HQB.out.lt
              go_wp2_with fail
              refine (eval1 (ctxOf y s vs Af nf cf flags Ai ni ci ins ms) HOK.out q ⟨kp, rest⟩ lv1 wq HEQ.out HD.out (by show rest.length ≤ 900000; omega)).mono ?_
              rintro e' w1 ⟨lv2, rfl, hE1, hF1, ho1⟩
              have hlst := later_step (ctxOf y s vs Af nf cf flags Ai ni ci ins ms).v HOK.out.op (by have := HMS.out; show (0 : Int) ≤ ms; omega) HOK.out.exOk (q := q) (r := rest) (k := kp) HLO.out HKO.out
              have HLST := Lib.hid hlst
              have hnb : ¬ EvX (ctxOf y s vs Af nf cf flags Ai ni ci ins ms) lv1 bq := fun hx => by
                rcases hx with hx | hx | hx
                · have h1 : bq = y.m := hx; have := HSL.out.2.2.1; have := HGQ.out.1; omega
                · have h1 : bq = s := hx; have := HGQ.out.1; omega
                · have := HLQ.out bq hx; omega
              have HE1 := Lib.hid hE1
              have HQ1 : Hid (Blk w1 bq 66 #[.int .i64 (q.1 : Int), .int .i64 (q.2 : Int)]) := Lib.hid (hF1.blk HQB.out hnb)
              have HF1 : Hid (Fr (RelX y) w w1) := Lib.hid (HFQ.out.trans hF1 (fun j hj => by
                rcases hj with hj | hj | hj
                · exact .inl (.inr hj)
                · exact .inr (by rw [show j = s from hj]; exact HSL.out.2.2.2)
                · have := (HEQ.out.later.lt hj).1
                  exact .inr (by have := HSL.out.2.2.2; omega)))
              have HB1S : Hid (s < w1.heap.size) := Lib.hid HE1.out.bS.lt
              clear hE1 hF1 ho1 hlst hnb q0 q1 ql HEQ HQB HFQ HLQ HGQ
              generalize (evR (ctxOf y s vs Af nf cf flags Ai ni ci ins ms).v 64 q.1 (q.2 + 1) ⟨kp, rest⟩).1 = on at *
              generalize (evR (ctxOf y s vs Af nf cf flags Ai ni ci ins ms).v 64 q.1 (q.2 + 1) ⟨kp, rest⟩).2 = st1 at *
              obtain ⟨mb, mt, hmm⟩ : ∃ mb mt, st1.kept q.1 q.2 = (mb, mt) := ⟨_, _, rfl⟩
              have HMM := Lib.hid hmm
              have HMT : Hid (0 ≤ mt ∧ mt ≤ 1000000) := Lib.hid (by have := HE1.out.ko q.1 q.2; rw [hmm] at this; exact this)
              have HLK : Hid (∀ w', Below w1.heap.size w1 w' → (Instr.lookup 55 (.map (some y.m)) (.agg #[.int .i64 (q.1 : Int), .int .i64 (q.2 : Int)]) false).run Try.prog w' = .ok (.agg #[.bool mb, .int .i64 mt]) w') := Lib.hid (fun w' hb => by
                have := (HE1.out.kept.at_ (hb.block _ HE1.out.kept.lt)).look (r := q.1) (a := q.2) (by omega) (by omega)
                rw [hmm] at this
                exact this)
              have r3 : w1.cell? ⟨y.r, 3, none⟩ = some (.map (some y.m)) := HE1.out.bR.cell 3
              have rl : y.r < w1.heap.size := HE1.out.bR.lt
              have q0 := HQ1.out.cell 0
              have q1 := HQ1.out.cell 1
              have ql := HQ1.out.lt
              clear hmm
              go_upto_region 21 with fail
              refine wp_region_last (S := fun w' => Below w1.heap.size w1 w') 7 _ (by kernel_rfl) (by kernel_rfl) rfl (below_drew (Below.refl _ _)) (fun hHeld => ?_)
              simp only [List.take_succ_cons, List.take_zero]
              refine takeH 0 (v := ?_) rfl (by kernel_rfl) (fun _ _ _ h => h) (by rfl) ?_ hHeld ?_
              rotate_left 1
              · intro w' hSw; obtain ⟨hcc, -⟩ := bcellW hSw; have hlk := HLK.out w' hSw; go_simp <;> with_reducible rfl
              try simp only [Act.put, List.setIfInBounds_toArray, List.set_cons_zero, List.set_cons_succ]
              refine takeH 1 (v := ?_) rfl (by kernel_rfl) (fun _ _ _ h => h) (by rfl) ?_ hHeld ?_
              rotate_left 1
              · intro w' hSw; obtain ⟨hcc, -⟩ := bcellW hSw; have hlk := HLK.out w' hSw; go_simp <;> with_reducible rfl
              try simp only [Act.put, List.setIfInBounds_toArray, List.set_cons_zero, List.set_cons_succ]
              refine takeH 2 (v := ?_) rfl (by kernel_rfl) (fun _ _ _ h => h) (by rfl) ?_ hHeld ?_
              rotate_left 1
              · intro w' hSw; obtain ⟨hcc, -⟩ := bcellW hSw; have hlk := HLK.out w' hSw; go_simp <;> with_reducible rfl
              try simp only [Act.put, List.setIfInBounds_toArray, List.set_cons_zero, List.set_cons_succ]
              refine takeH 3 (v := ?_) rfl (by kernel_rfl) (fun _ _ _ h => h) (by rfl) ?_ hHeld ?_
              rotate_left 1
              · intro w' hSw; obtain ⟨hcc, -⟩ := bcellW hSw; have hlk := HLK.out w' hSw; go_simp <;> with_reducible rfl
              try simp only [Act.put, List.setIfInBounds_toArray, List.set_cons_zero, List.set_cons_succ]
              refine takeH 4 (v := ?_) rfl (by kernel_rfl) (fun _ _ _ h => h) (by rfl) ?_ hHeld ?_
              rotate_left 1
              · intro w' hSw; obtain ⟨hcc, -⟩ := bcellW hSw; have hlk := HLK.out w' hSw; go_simp <;> with_reducible rfl
              try simp only [Act.put, List.setIfInBounds_toArray, List.set_cons_zero, List.set_cons_succ]
              refine takeH 5 (v := ?_) rfl (by kernel_rfl) (fun _ _ _ h => h) (by rfl) ?_ hHeld ?_
              rotate_left 1
              · intro w' hSw; obtain ⟨hcc, -⟩ := bcellW hSw; have hlk := HLK.out w' hSw; go_simp <;> with_reducible rfl
              try simp only [Act.put, List.setIfInBounds_toArray, List.set_cons_zero, List.set_cons_succ]
              refine stepH 6 (by kernel_rfl) rfl (fun K hK => ?_)
              go_simp
              refine hK.out _ _ ?_ (fun hHeld => ?_)
              · exact (below_drew (Below.refl w1.heap.size w1)).alloc (Nat.le_refl _) _
              clear hK K
              try simp only [Act.put, List.setIfInBounds_toArray, List.set_cons_zero, List.set_cons_succ]
              refine wpAnyH_done (by kernel_rfl) ?_ _
              refine lastQ_go (by rfl) ?_
              clear hHeld
              go_upto_region 23 with fail
              have hbd : Below w1.heap.size w1 (w1.alloc (.cells #[.bool on, .int .i64 mt] 68)).drew := below_drew ((Below.refl _ _).alloc (Nat.le_refl _) _)
              have HQM : Hid (Blk (w1.alloc (.cells #[.bool on, .int .i64 mt] 68)).drew w1.heap.size 68 #[.bool on, .int .i64 mt]) := Lib.hid (Blk.new w1 _ _).drew
              replace HE1 := Lib.hid (HE1.out.up hbd)
              replace HQ1 := Lib.hid (HQ1.out.below hbd HQ1.out.lt)
              replace HF1 := Lib.hid (HF1.out.trans_below hbd)
              clear r3 rl q0 q1 ql HLK hbd HB1S
              generalize (w1.alloc (.cells #[.bool on, .int .i64 mt] 68)).drew = wd at *
              generalize w1.heap.size = bm at *
              have r3 : wd.cell? ⟨y.r, 3, none⟩ = some (.map (some y.m)) := HE1.out.bR.cell 3
              have rl : y.r < wd.heap.size := HE1.out.bR.lt
              have q0 := HQ1.out.cell 0
              have q1 := HQ1.out.cell 1
              have ql := HQ1.out.lt
              have m0 := HQM.out.cell 0
              have m1 := HQM.out.cell 1
              have ml := HQM.out.lt
              refine wp_region_last (S := fun w' => Below wd.heap.size wd w') 6 _ (by kernel_rfl) (by kernel_rfl) rfl (below_drew (Below.refl _ _)) (fun hHeld => ?_)
              simp only [List.take_succ_cons, List.take_zero]
              refine takeH 0 (v := ?_) rfl (by kernel_rfl) (fun _ _ _ h => h) (by rfl) ?_ hHeld ?_
              rotate_left 1
              · intro w' hSw; obtain ⟨hcc, -⟩ := bcellW hSw; go_simp <;> with_reducible rfl
              try simp only [Act.put, List.setIfInBounds_toArray, List.set_cons_zero, List.set_cons_succ]
              refine takeH 1 (v := ?_) rfl (by kernel_rfl) (fun _ _ _ h => h) (by rfl) ?_ hHeld ?_
              rotate_left 1
              · intro w' hSw; obtain ⟨hcc, -⟩ := bcellW hSw; go_simp <;> with_reducible rfl
              try simp only [Act.put, List.setIfInBounds_toArray, List.set_cons_zero, List.set_cons_succ]
              refine takeH 2 (v := ?_) rfl (by kernel_rfl) (fun _ _ _ h => h) (by rfl) ?_ hHeld ?_
              rotate_left 1
              · intro w' hSw; obtain ⟨hcc, -⟩ := bcellW hSw; go_simp <;> with_reducible rfl
              try simp only [Act.put, List.setIfInBounds_toArray, List.set_cons_zero, List.set_cons_succ]
              refine takeH 3 (v := ?_) rfl (by kernel_rfl) (fun _ _ _ h => h) (by rfl) ?_ hHeld ?_
              rotate_left 1
              · intro w' hSw; obtain ⟨hcc, -⟩ := bcellW hSw; go_simp <;> with_reducible rfl
              try simp only [Act.put, List.setIfInBounds_toArray, List.set_cons_zero, List.set_cons_succ]
              refine takeH 4 (v := ?_) rfl (by kernel_rfl) (fun _ _ _ h => h) (by rfl) ?_ hHeld ?_
              rotate_left 1
              · intro w' hSw; obtain ⟨hcc, -⟩ := bcellW hSw; go_simp <;> with_reducible rfl
              try simp only [Act.put, List.setIfInBounds_toArray, List.set_cons_zero, List.set_cons_succ]
              refine takeH 5 (v := ?_) rfl (by kernel_rfl) (fun _ _ _ h => h) (by rfl) ?_ hHeld ?_
              rotate_left 1
              · intro w' hSw; obtain ⟨hcc, -⟩ := bcellW hSw; go_simp <;> with_reducible rfl
              try simp only [Act.put, List.setIfInBounds_toArray, List.set_cons_zero, List.set_cons_succ]
              refine wpAnyH_done (by kernel_rfl) ?_ _
              refine lastQ_go (by rfl) ?_
              clear hHeld
              have hb4 : Below wd.heap.size wd wd.drew := below_drew (Below.refl _ _)
              obtain ⟨we, hrun, hk4, hg4⟩ := (HE1.out.up hb4).kept.put (r := q.1) (a := q.2) (by omega) (by omega) (on, mt)
              refine wp_mapput (.tmp 115) (.tmp 116) (.tmp 117) 55 rfl (.map (some y.m)) (plK q.1 q.2) (memV (on, mt)) (by rfl) (by rfl) (by rfl) hrun ?_
              have HE5 := Lib.hid ((HE1.out.up hb4).mapped HOK.out hk4 ((HE1.out.ko).upd q.1 q.2 (v := (on, mt)) HMT.out) hg4)
              have HF5 : Hid (Fr (RelX y) w we) := Lib.hid ((HF1.out.trans_below hb4).trans (Fr.grownB (X := fun i => i = y.m) hg4 rfl) (fun i hi => .inl (.inr hi)))
              have HLT5 : Hid (laterGo (ctxOf y s vs Af nf cf flags Ai ni ci ins ms).v f ⟨updK st1.kept q.1 q.2 (on, mt), st1.later⟩ = LT) := Lib.hid (by have := HLT2.out; rw [HMM.out] at this; exact this)
              clear hrun hk4 hg4 hb4 r3 rl q0 q1 ql m0 m1 ml HE1 HF1 HQ1 HQM
              go_wp2_with fail
              go_roundg f
              case rel => exact ⟨_, lv2, HE5.out, HLST.out.1, by have := HLST.out.2.2; have := HWT.out; show wt (ctxOf y s vs Af nf cf flags Ai ni ci ins ms).v st1.later ≤ f; omega, by have := HK6.out; omega, HLT5.out, HF5.out⟩
              case measure => omega
end Go.Proofs.Ytodnjjlhklbniaa
