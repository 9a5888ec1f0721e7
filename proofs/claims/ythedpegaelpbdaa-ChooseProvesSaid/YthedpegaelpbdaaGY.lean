/- choose.way: the walk. -/
import Derived.Test.YthedpegaelpbdaaGL
namespace Go.Proofs.Ythedpegaelpbdaa
open Go.ChangeShapes Go.WideShapes Go.ChangeAt Go.RowKit
set_option linter.unusedVariables false
attribute [local go_sem ↓] execOp_call_val
attribute [local go_sem] callVal_func setCell_drewN alloc_drewN

theorem grown_app {a b c : World} {row row2 : Option Nat} (h : a.grownBy b row) (hg : b.grownBy c row2) (hr : ∀ r, row2 = some r → a.heap.size ≤ r) : a.grownBy c row :=
  ⟨hg.os.trans h.os, hg.tape.trans h.tape, hg.output.trans h.output, Nat.le_trans h.size hg.size, fun i hi hir => (hg.block i (Nat.lt_of_lt_of_le hi h.size) (fun e => by have := hr i e.symm; omega)).trans (h.block i hi hir)⟩
def WayP (es : List Ed) (src : List Bool) (place p g : Nat) (v : Value) (w : World) (e : Ending) (w' : World) : Prop :=
  w.grownBy w' v.ownBlock ∧ FdW w' p g (wayR src src.length place es).1 place v src ∧ ∃ vo, e = .returned vo ∧ w'.ownsRow w.heap.size 9 1 vo (wayR src src.length place es).2.length (strsV (wayR src src.length place es).2)
theorem own_lower {w : World} {base base' e size n : Nat} {v : Value} {xs : List Value} (h : w.ownsRow base e size v n xs) (hb : base' ≤ base) : w.ownsRow base' e size v n xs :=
  ⟨h.1, h.2.imp id fun ⟨g, cap, cur, h1, h2, h3⟩ => ⟨g, cap, cur, h1, Nat.le_trans hb h2, h3⟩⟩
theorem wayR_none {src : List Bool} {n place : Nat} {es : List Ed} {by_ : List Int} (h : bfsR goW es src n place = (by_, -1)) : wayR src n place es = (es, []) := by unfold wayR; rw [h]; rfl
theorem wayR_some {src : List Bool} {n place u : Nat} {es : List Ed} {by_ : List Int} (h : bfsR goW es src n place = (by_, (u : Int))) : wayR src n place es = back (-1) by_ place n es u [] := by
  unfold wayR
  rw [h, if_neg (by show ¬ ((u : Int) < 0); omega)]
  rfl
theorem goW_a {e : Ed} {u : Nat} (h : e.a = u) (h2 : e.a ≠ e.b) : goW e u = decide (0 < e.fl) := by unfold goW; subst h; simp [Ne.symm h2]
theorem goW_b {e : Ed} {u : Nat} (h : e.b = u) (h2 : e.a ≠ e.b) : goW e u = decide (e.fl < 0) := by unfold goW; subst h; simp [h2]
set_option maxRecDepth 100000 in
set_option maxHeartbeats 8000000 in
theorem way_any (p gs : Nat) (es : List Ed) (place : Nat) (v : Value) (src : List Bool) (w : World) (hF : FdW w p gs es place v src)
    (ok : ∀ e ∈ es, EdOk src.length e) (hfl : ∀ e ∈ es, -1000 ≤ e.fl ∧ e.fl ≤ 1000) (hp : place < src.length) (hn : src.length ≤ 100) (he : es.length ≤ 100) :
    Calls Try.prog 37 #[.pointer (some ⟨p, 0, none⟩)] w (WayP es src place p gs v w) := by
  have HP : Hid (∀ e w', WayP es src place p gs v w e w' = (w.grownBy w' v.ownBlock ∧ FdW w' p gs (wayR src src.length place es).1 place v src ∧ ∃ vo, e = .returned vo ∧ w'.ownsRow w.heap.size 9 1 vo (wayR src src.length place es).2.length (strsV (wayR src src.length place es).2))) := Lib.hid fun _ _ => rfl
  have HF := Lib.hid hF
  have HOK := Lib.hid ok
  have HFL := Lib.hid hfl
  obtain ⟨i0, hi0, hi1, hi2, hi3⟩ := info_parts infoInt
  have HI0 := Lib.hid hi0
  have HI1 := Lib.hid hi1
  have HI2 := Lib.hid hi2
  have HI3 : Hid (i0.bytes ≤ 16) := Lib.hid (by rw [hi3]; decide)
  obtain ⟨j0, hj0, hj1, hj2, hj3⟩ := info_parts info_str'
  have HJ0 := Lib.hid hj0
  have HJ1 := Lib.hid hj1
  have HJ2 := Lib.hid hj2
  have HJ3 := Lib.hid hj3
  obtain ⟨A, c, hv, hI⟩ := hF.is
  subst hv
  have hplt := hI.blk.lt
  have HB1 : Hid (Below w.heap.size w (w.alloc (.cells #[.int .i64 (-1)] 3))) := Lib.hid ((Below.refl _ _).alloc (Nat.le_refl _) _)
  have hF1 := HF.out.up HB1.out
  have f1 := hF1.qf.cell 1
  have f3 := hF1.qf.cell 3
  have HF1 := Lib.hid hF1
  have hm1 : (w.alloc (.cells #[.int .i64 (-1)] 3)).cell? ⟨w.heap.size, 0, none⟩ = some (.int .i64 (-1)) := (Blk.new w 3 #[.int .i64 (-1)]).cell 0
  have hlt1 : p < (w.alloc (.cells #[.int .i64 (-1)] 3)).heap.size := by simp; omega
  clear hF ok hfl hi0 hi1 hi2 hi3 hj0 hj1 hj2 hj3 hI hF1
  go_enter Try.func37, Try.ntmps37
  generalize hW1 : w.alloc (.cells #[.int .i64 (-1)] 3) = w1 at *
  go_wp2_with fail
  refine (repeat_int (-1) w.heap.size src.length w1 hm1 (by omega)).mono ?_
  rintro e w2 ⟨g, rfl, hg, hblk, k2⟩
  have HB2 := Lib.hid (HB1.out.trans (k2.mono HB1.out.size))
  have hF2 := HF1.out.up k2
  have f1' := hF2.qf.cell 1
  have HG := Lib.hid hblk
  have hglt := hblk.lt
  have hp2 := Nat.lt_of_lt_of_le hlt1 k2.size
  have hpI : (place : Int) < (src.length : Int) := by omega
  have hwg : w.heap.size < g := by have h := HB1.out.size; have : w.heap.size < w1.heap.size := by rw [← hW1]; simp
                                   omega
  have hcg : w2.cell? ⟨g, place, none⟩ = some (.int .i64 (-1)) := by rw [hblk.cell place]; simp [hp]
  have hfg := hblk.frozen place
  have hne : p ≠ g := by omega
  have hne' : g ≠ p := by omega
  clear hF2 hblk k2 hm1 f1 f3
  have f1s : (w2.setCell ⟨g, place, none⟩ (.int .i64 (-2))).cell? ⟨p, 1, none⟩ = some (.int .i64 place) := by
    rw [World.cell?_setCell_other _ _ _ _ (fun e => hne' (by injection e))]; exact f1'
  have HB3 := Lib.hid (HB2.out.setCell (p := ⟨g, place, none⟩) (by simp; omega) (.int .i64 (-2)))
  have HG3 : Hid (Blk (w2.setCell ⟨g, place, none⟩ (.int .i64 (-2))) g 3 (ints (start src.length place)).toArray) := Lib.hid (by
    have h := HG.out.set_ place (.int .i64 (-2))
    have e : (List.replicate src.length (Value.int .i64 (-1))).toArray.setIfInBounds place (.int .i64 (-2)) = (ints (start src.length place)).toArray := by
      unfold ints start
      rw [List.setIfInBounds_toArray, List.map_set, List.map_replicate]
    rw [e] at h; exact h)
  go_wp2_with fail
  have HQ0 : Hid (Qu ((w2.setCell ⟨g, place, none⟩ (.int .i64 (-2))).alloc (.cells #[.int .i64 place] 3)) (g + 1) (.slice (some ⟨w2.heap.size, 0, none⟩) 1 1) (ints (natI [place]))) := Lib.hid (by
    have hb := Blk.new (w2.setCell ⟨g, place, none⟩ (.int .i64 (-2))) 3 #[.int .i64 place]
    have hsz : (w2.setCell ⟨g, place, none⟩ (.int .i64 (-2))).heap.size = w2.heap.size := by simp
    rw [hsz] at hb
    refine ⟨w2.heap.size, 0, 1, rfl, by omega, hb.lt, Nat.le_refl _, by simp only [maxLen]; omega, fun j hj => ?_, fun j u hu => ?_⟩
    · have hj0 : j = 0 := by omega
      subst hj0
      exact ⟨by rw [hb.cell 0]; rfl, hb.frozen 0⟩
    · have hj0 : j = 0 := by have := (List.getElem?_eq_some_iff.1 hu).1; simpa [ints, natI] using this
      subst hj0
      rw [Nat.add_zero, hb.cell 0]
      simpa [ints, natI] using hu)
  have HB4 := Lib.hid (HB3.out.alloc HB3.out.size (.cells #[.int .i64 place] 3))
  have HG4 := Lib.hid (HG3.out.alloc (.cells #[.int .i64 place] 3))
  have hs4 : g + 1 ≤ ((w2.setCell ⟨g, place, none⟩ (.int .i64 (-2))).alloc (.cells #[.int .i64 place] 3)).heap.size := by simp; omega
  generalize hW4 : (w2.setCell ⟨g, place, none⟩ (.int .i64 (-2))).alloc (.cells #[.int .i64 place] 3) = w4 at *
  have HW4 := Lib.hid hW4
  have HW1 := Lib.hid hW1
  clear hW4 hW1 f1s f1' hcg hfg HG HG3 HB3 HF1
  go_loopg [4] (src.length + 1) (fun m v5 wr => ∃ (by_ : List Int) (vis : List Nat) (d : Nat), BI goW es src src.length place by_ vis d ∧ bfs goW es src m by_ (vis.drop d) = bfsR goW es src src.length place ∧ m + d ≤ src.length + 1 ∧ src.length + 1 ≤ m + d ∧ Below w.heap.size w wr ∧ Blk wr g 3 (ints by_).toArray ∧ Qu wr (g + 1) v5 (ints (natI (vis.drop d))) ∧ g + 1 ≤ wr.heap.size)
  case atStart => exact ⟨start src.length place, [place], 0, BI.start hp, rfl, by omega, by omega, HB4.out, HG4.out, HQ0.out, hs4⟩
  case round =>
    clear HB4 HG4 HQ0 HW4 HW1 hs4 HB2 HB1
    obtain ⟨by_, vis, d, hBI, hfun, hm1, hm2, hb, hblk, hq, hs⟩ := hrel
    have HBI := Lib.hid hBI
    have HFUN := Lib.hid hfun
    have HB := Lib.hid hb
    have HG := Lib.hid hblk
    have hvl := hBI.len_le
    have hbl := hBI.len
    obtain ⟨q, qo, qc, rfl, hqg, hqlt, hqc, hqm, hqh, hqx⟩ := hq.ex
    have hql : (ints (natI (vis.drop d))).length = vis.length - d := by simp [ints, natI]
    rw [hql] at hqc hq ⊢
    have HQ := Lib.hid hq
    clear hBI hb hblk hq hfun
    by_cases hd : d < vis.length
    · obtain ⟨u, hu⟩ : ∃ u, vis[d]? = some u := ⟨_, List.getElem?_eq_getElem hd⟩
      have hdr : vis.drop d = u :: vis.drop (d + 1) := by
        rw [List.drop_eq_getElem_cons hd]
        rw [List.getElem?_eq_getElem hd] at hu; injection hu with hu; rw [hu]
      have hul := HBI.out.lt u (List.mem_of_getElem? hu)
      have hq0 := hqx 0 (.int .i64 u) (by rw [hdr]; rfl)
      rw [Nat.add_zero] at hq0
      have HF4 := Lib.hid (HF.out.up HB.out)
      have f2 := HF4.out.qf.cell 2
      have f0 := HF4.out.qf.cell 0
      have f1 := HF4.out.qf.cell 1
      have hsu : wr.cell? ⟨gs, u, none⟩ = some (.bool (src.getD u false)) := by
        rw [HF4.out.qg.cell u, List.getElem?_toArray, List.getElem?_map, List.getD_eq_getElem?_getD, List.getElem?_eq_getElem hul]; rfl
      have hpw : p < wr.heap.size := Nat.lt_of_lt_of_le hplt HB.out.size
      have hqlI : (0 : Int) < ((vis.length - d : Nat) : Int) := by omega
      have hq1 : 1 ≤ vis.length - d := by omega
      have hqd : decide (0 < vis.length - d) = true := by simp; omega
      have huI : (u : Int) < (src.length : Int) := by omega
      have hqt : Qu wr (g + 1) (.slice (if qc = 1 then some ⟨q, qo, none⟩ else some ⟨q, qo + 1, none⟩) (vis.length - d - 1) (qc - 1)) (ints (natI (vis.drop (d + 1)))) := by
        have h := HQ.out
        rw [hdr] at h
        exact h.tail
      generalize hqa : (if qc = 1 then some (⟨q, qo, none⟩ : Addr) else some ⟨q, qo + 1, none⟩) = qa at hqt
      have HQT := Lib.hid hqt
      have HU := Lib.hid hu
      have HDR := Lib.hid hdr
      clear hqt hu hqx hqh hdr
      cases hsv : src.getD u false with
      | true =>
        rw [hsv] at hsu
        have HSV := Lib.hid hsv
        clear hsv
        have hR : bfsR goW es src src.length place = (by_, (u : Int)) := by rw [← HFUN.out, HDR.out, bfs_src (by omega) HSV.out]
        have HWY := Lib.hid (wayR_some hR)
        have hdv : d < src.length := by omega
        have HFI0 := Lib.hid (FI.start (go := goW) (s := -1) (es0 := es) (n := src.length) (place := place) (by_ := by_) HU.out)
        have HBK : Hid (back (-1) by_ place d es u [] = back (-1) by_ place src.length es u []) := Lib.hid (back_fuel HBI.out HOK.out (by decide) d d (Nat.le_refl _) u es [] HFI0.out d src.length (Nat.le_refl _) (by omega))
        have HB0 : Hid (w.grownBy wr (Value.slice A es.length c).ownBlock) := Lib.hid (only_of_below HB.out _)
        have hwo := HB.out.size
        clear hR
        go_wp2_with fail
        obtain ⟨wo, hwo2⟩ : ∃ wo : World, wo = wr := ⟨_, rfl⟩
        have HOU : Hid (wr.ownsRow wo.heap.size 9 1 (.slice none 0 0) ([] : List ByteArray).length (strsV [])) := Lib.hid (World.ownsRow_nil _ _ _ _)
        have HWO : Hid (wo.heap.size = wr.heap.size) := Lib.hid (by rw [hwo2])
        have hwo3 : wo.heap.size ≤ wr.heap.size := by rw [hwo2]; exact Nat.le_refl _
        have hwo4 : w.heap.size ≤ wo.heap.size := by rw [hwo2]; exact hwo
        have hpwo : p < wo.heap.size := by omega
        have hgwo : g < wo.heap.size := by rw [hwo2]; omega
        have hgswo : gs < wo.heap.size := by rw [hwo2]; exact HF4.out.qg.lt
        have hebwo : ∀ r, (Value.slice A es.length c).ownBlock = some r → r < wo.heap.size := fun r hr => by rw [hwo2]; exact (HF4.out.own.lt r hr).2
        have HEBW := Lib.hid hebwo
        have hsl0 : 1 ≤ src.length := by omega
        clear hwo2 hwo hebwo
        go_loopg [5, 6] d (fun m v4 vo wr => ∃ (a : Nat) (es2 : List Ed) (out : List ByteArray), FI goW (-1) es src.length place by_ vis u m a es2 out ∧ v4 = .int .i64 a ∧ m + out.length ≤ d ∧ w.grownBy wr (Value.slice A es.length c).ownBlock ∧ FdW wr p gs es2 place (.slice A es.length c) src ∧ Blk wr g 3 (ints by_).toArray ∧ wr.ownsRow wo.heap.size 9 1 vo out.length (strsV out) ∧ wo.heap.size ≤ wr.heap.size ∧ back (-1) by_ place m es2 a out = back (-1) by_ place src.length es u [])
        case atStart => exact ⟨u, es, [], HFI0.out, rfl, by simp, HB0.out, HF4.out, HG.out, HOU.out, hwo3, HBK.out⟩
        case round =>
          clear HFI0 HF4 HG HBK HB0 HOU HWO hwo3 f0 f1 f2 hsu hq0
          obtain ⟨a, es2, out, hFI, rfl, hml, hg2, hF2, hbq, hown, hsz2, hbk⟩ := hrel
          have HFI := Lib.hid hFI
          have HG2 := Lib.hid hg2
          have HF2 := Lib.hid hF2
          have HBQ := Lib.hid hbq
          have HBK := Lib.hid hbk
          have HOUT := Lib.hid hown
          have f1 := hF2.qf.cell 1
          have f0 := hF2.qf.cell 0
          have hplt2 := hF2.qf.lt
          have hal : a < src.length := HBI.out.lt a (List.mem_of_getElem? hFI.pos)
          have hel2 : es2.length = es.length := hFI.len
          clear hg2 hF2 hbq hbk hown
          by_cases hpl : a = place
          · have hne1 : ((a : Int) != (place : Int)) = false := by simp; omega
            subst hpl
            have hres : wayR src src.length a es = (es2, out) := by
              rw [HWY.out, ← HBK.out, back_place]
            have HRES := Lib.hid hres
            clear hFI hel2 hres
            go_wp2_with fail
            go_ret
            rw [HP.out, HRES.out]
            exact ⟨HG2.out, HF2.out, _, rfl, own_lower HOUT.out hwo4⟩
          · obtain ⟨k, e, j, q1, q2, q3, q4, q5, q6⟩ := hFI.step HBI.out HOK.out (by decide) hpl
            have hne1 : ((a : Int) != (place : Int)) = true := by simp; omega
            have hkl : k < es.length := by have := (List.getElem?_eq_some_iff.1 q2).1; omega
            have hcb := int_at HBQ.out (i := a) (by omega)
            rw [q1] at hcb
            have Q1 := Lib.hid q1
            have Q2 := Lib.hid q2
            have Q6 := Lib.hid q6
            have HEL2 := Lib.hid hel2
            have hlim : -1000 ≤ e.fl ∧ e.fl ≤ 1000 := HFL.out e (List.mem_of_getElem? q3)
            obtain ⟨A2, c2, hv, hI⟩ := HF2.out.is
            have hv' := Value.slice.inj hv
            obtain ⟨rfl, -, rfl⟩ := hv'
            obtain ⟨eb, eo, rfl, heb⟩ := hI.eds.form (by omega)
            obtain ⟨e0, e1, e2, e3, e4⟩ := hI.eds.at_ q2
            have heo : eo = 0 := by
              rcases HF2.out.own.2 with h | ⟨g', cap, cur, h1, _⟩
              · cases h.1
              · have := Value.slice.inj h1
                have h2 := this.1
                injection h2 with h2
                injection h2
            subst heo
            simp only [Nat.zero_add] at e0 e1 e2 e3 e4
            have hfz : ∀ o, wr.frozen? ⟨eb, o, none⟩ = false := fun o => by have h := HF2.out.own; rw [HEL2.out] at h; exact h.frozenAt o
            have hf4 := hfz (k * 5 + 4)
            have hkI : (k : Int) < (es.length : Int) := by omega
            have haI : (a : Int) < (src.length : Int) := by omega
            have hebo : eb < wo.heap.size := HEBW.out eb rfl
            clear hv hI hfz q1 q2 q3 q6 hel2 hFI
            go_wp2_with fail
            go_quiet (fail)
            have HFQ := Lib.hid (HF2.out.up (below_drewN (Below.refl _ _) nq))
            have HGQ := Lib.hid (only_drewN HG2.out nq)
            have HBQQ := Lib.hid (HBQ.out.drewN nq)
            have HOQ := Lib.hid (own_below HOUT.out (below_drewN (Below.refl _ _) nq))
            have e0 : (wr.drewN nq).cell? ⟨eb, k * 5, none⟩ = _ := e0
            have e1 : (wr.drewN nq).cell? ⟨eb, k * 5 + 1, none⟩ = _ := e1
            have e2 : (wr.drewN nq).cell? ⟨eb, k * 5 + 2, none⟩ = _ := e2
            have e4 : (wr.drewN nq).cell? ⟨eb, k * 5 + 4, none⟩ = _ := e4
            have hf4 : (wr.drewN nq).frozen? ⟨eb, k * 5 + 4, none⟩ = false := hf4
            have hszq : wo.heap.size ≤ (wr.drewN nq).heap.size := hsz2
            clear f0 f1 hcb
            generalize wr.drewN nq = W at *
            go_wp2_with (at_builtin; refine wpList_append_own_at _ rfl (.tmp 57) (.tmp 62) _ rfl wo.heap.size 9 j0 _ 1 16 Try.underlying22 HJ0.out HJ1.out HJ2.out HJ3.out rfl (by omega) u6 _ _ rfl (HOQ.out.alloc _) ⟨_, 0, none⟩ 1 1 [.string e.name] rfl rfl (cell_one_new _ _ _) ?k1 ?k2 ?k3 ?k4 ?_)
            case k1 => simp [Value.oneCell']
            case k2 => simp only [maxLen]; omega
            case k3 => omega
            case k4 => simp; omega
            intro v' w6 hown6 hgrow6 hnil6 hat6
            have hA6 : W.grownBy w6 u6.ownBlock := grown_trans (World.grownBy_alloc W _ _) hgrow6
            have hub : ∀ r, u6.ownBlock = some r → wo.heap.size ≤ r := fun r hr => (HOQ.out.lt r hr).1
            have HG6 := Lib.hid (grown_app HGQ.out hA6 (fun r hr => by have := hub r hr; omega))
            have HF6 := Lib.hid (HFQ.out.grown hA6 (fun e => by have := hub _ e; omega) (fun e => by have := hub _ e; omega) (.inr (fun e => by have := hub eb e.symm; omega)))
            have HBQ6 := Lib.hid (HBQQ.out.grown hA6 (fun e => by have := hub _ e.symm; omega))
            have HO6 : Hid (w6.ownsRow wo.heap.size 9 1 v' (out ++ [e.name]).length (strsV (out ++ [e.name]))) := Lib.hid (by
              rw [List.length_append]; unfold strsV at hown6 ⊢; rw [List.map_append]; exact hown6)
            have hfar : ∀ (o : Nat) (x : Value), W.cell? ⟨eb, o, none⟩ = some x → w6.cell? ⟨eb, o, none⟩ = some x := fun o x hx => (hA6.cell_far ⟨eb, o, none⟩ (by have := World.block_lt_of_cell? W _ hx; exact this) (fun e => by have := hub _ e.symm; simp at this; omega)).trans hx
            have e0 := hfar _ _ e0
            have e1 := hfar _ _ e1
            have e4 := hfar _ _ e4
            have hf4 : w6.frozen? ⟨eb, k * 5 + 4, none⟩ = false := by have h := HF6.out.own; rw [HEL2.out] at h; exact h.frozenAt _
            have hsz6 : wo.heap.size ≤ w6.heap.size := Nat.le_trans hszq hA6.size
            have hub6 : ∀ r, v'.ownBlock = some r → wo.heap.size ≤ r := fun r hr => (HO6.out.lt r hr).1
            have HUB6 := Lib.hid hub6
            clear hown6 hgrow6 hnil6 hat6 hA6 hub hfar hub6 e2 HFQ HGQ HBQQ HOQ HG2 HF2 HBQ HOUT
            by_cases hb : e.b = a
            · have hbI : ((e.b : Int) == (a : Int)) = true := by simp; omega
              have h3 := HF6.out
              rw [← HEL2.out] at h3
              have h4 := h3.put Q2.out (-1)
              rw [HEL2.out] at h4
              have HF3 := Lib.hid h4.1
              have HG3 : Hid (w.grownBy (w6.setCell ⟨eb, k * 5 + 4, none⟩ (.int .i64 (e.fl + (-1)))) (Value.slice (some ⟨eb, 0, none⟩) es.length c).ownBlock) := Lib.hid (grown_trans HG6.out h4.2)
              have hge : g ≠ eb := fun e => by have h := HF.out.own.lt eb rfl; omega
              have HBQ3 := Lib.hid (HBQ6.out.far (p := ⟨eb, k * 5 + 4, none⟩) hge (.int .i64 (e.fl + (-1))))
              have HO3 := Lib.hid (HO6.out.kept h4.2 (.inr (fun e => by have := HUB6.out _ e; omega)))
              clear h3 h4
              have hfl : e.fl + (-1) = e.fl - 1 := by omega
              rw [hfl] at HF3 HG3 HBQ3 HO3
              have eo : (w6.setCell ⟨eb, k * 5 + 4, none⟩ (.int .i64 (e.fl - 1))).cell? ⟨eb, k * 5, none⟩ = some (.int .i64 e.a) := by
                rw [World.cell?_setCell_other _ _ _ _ (fun h => by injection h; omega)]; exact e0
              clear hfl
              go_wp2_with fail
              go_roundg j
              case rel =>
                rcases Q6.out with ⟨h1, h2⟩ | ⟨h1, h2⟩
                · refine ⟨e.a, es2.set k (e.add (-1)), out ++ [e.name], h2, rfl, by rw [List.length_append]; simp; omega, HG3.out, HF3.out, HBQ3.out, HO3.out, by simp; omega, ?_⟩
                  obtain ⟨m', rfl⟩ : ∃ m', gk = m' + 1 := ⟨gk - 1, by omega⟩
                  rw [← HBK.out, back_b hpl Q1.out Q2.out h1]
                  exact back_fuel HBI.out HOK.out (by decide) j j (Nat.le_refl _) _ _ _ h2 _ _ (Nat.le_refl _) (by omega)
                · exact absurd hb h1
              case measure => omega
            · have hbI : ((e.b : Int) == (a : Int)) = false := by simp; omega
              have h3 := HF6.out
              rw [← HEL2.out] at h3
              have h4 := h3.put Q2.out 1
              rw [HEL2.out] at h4
              have HF3 := Lib.hid h4.1
              have HG3 : Hid (w.grownBy (w6.setCell ⟨eb, k * 5 + 4, none⟩ (.int .i64 (e.fl + 1))) (Value.slice (some ⟨eb, 0, none⟩) es.length c).ownBlock) := Lib.hid (grown_trans HG6.out h4.2)
              have hge : g ≠ eb := fun e => by have h := HF.out.own.lt eb rfl; omega
              have HBQ3 := Lib.hid (HBQ6.out.far (p := ⟨eb, k * 5 + 4, none⟩) hge (.int .i64 (e.fl + 1)))
              have HO3 := Lib.hid (HO6.out.kept h4.2 (.inr (fun e => by have := HUB6.out _ e; omega)))
              clear h3 h4
              have hfl : e.fl + 1 = e.fl + 1 := by omega
              rw [hfl] at HF3 HG3 HBQ3 HO3
              have eo : (w6.setCell ⟨eb, k * 5 + 4, none⟩ (.int .i64 (e.fl + 1))).cell? ⟨eb, k * 5 + 1, none⟩ = some (.int .i64 e.b) := by
                rw [World.cell?_setCell_other _ _ _ _ (fun h => by injection h; omega)]; exact e1
              clear hfl
              go_wp2_with fail
              go_roundg j
              case rel =>
                rcases Q6.out with ⟨h1, h2⟩ | ⟨h1, h2⟩
                · exact absurd h1 hb
                · refine ⟨e.b, es2.set k (e.add 1), out ++ [e.name], h2, rfl, by rw [List.length_append]; simp; omega, HG3.out, HF3.out, HBQ3.out, HO3.out, by simp; omega, ?_⟩
                  obtain ⟨m', rfl⟩ : ∃ m', gk = m' + 1 := ⟨gk - 1, by omega⟩
                  rw [← HBK.out, back_a hpl Q1.out Q2.out h1]
                  exact back_fuel HBI.out HOK.out (by decide) j j (Nat.le_refl _) _ _ _ h2 _ _ (Nat.le_refl _) (by omega)
              case measure => omega
      | false =>
        rw [hsv] at hsu
        have HSV := Lib.hid hsv
        clear hsv
        go_wp2_with fail
        have hwo := HB.out.size
        obtain ⟨S0, hS0⟩ : ∃ S0, S0 = scan goW u 0 es (by_, vis.drop (d + 1)) := ⟨_, rfl⟩
        have HS0 := Lib.hid hS0
        clear hS0
        go_loopw [4, 98] (fun v5 kv wr => ∃ (k : Nat) (by_ : List Int) (vis : List Nat), k ≤ es.length ∧ kv = .int .i64 k ∧ BI goW es src src.length place by_ vis d ∧ vis[d]? = some u ∧ Seen goW es u k vis ∧ scan goW u k (es.drop k) (by_, vis.drop (d + 1)) = S0 ∧ Below w.heap.size w wr ∧ Blk wr g 3 (ints by_).toArray ∧ Qu wr (g + 1) v5 (ints (natI (vis.drop (d + 1)))) ∧ g + 1 ≤ wr.heap.size) (fun _ kv _ => es.length - (intOf kv).toNat)
        case atStart => exact ⟨0, by_, vis, by omega, rfl, HBI.out, HU.out, fun j e hj => by omega, HS0.out.symm, HB.out, HG.out, HQT.out, hs⟩
        case round =>
          clear HF4 f0 f1 f2 hsu hq0
          obtain ⟨k, by2, vis2, hk, rfl, hBI2, hu2, hseen, hsc, hb2, hblk2, hq2, hs2⟩ := hrel
          have HBI2 := Lib.hid hBI2
          have HU2 := Lib.hid hu2
          have HSN := Lib.hid hseen
          have HSC := Lib.hid hsc
          have HB2 := Lib.hid hb2
          have HG2 := Lib.hid hblk2
          have HQ2 := Lib.hid hq2
          have hvl2 := hBI2.len_le
          have hdl2 := (List.getElem?_eq_some_iff.1 hu2).1
          clear hBI2 hu2 hseen hsc hb2 hblk2 hq2
          by_cases hlt : k < es.length
          · obtain ⟨e, hek⟩ : ∃ e, es[k]? = some e := ⟨_, List.getElem?_eq_getElem hlt⟩
            have hF5 := HF.out.up HB2.out
            obtain ⟨A2, c2, hv, hI⟩ := hF5.is
            have hv' := Value.slice.inj hv
            obtain ⟨rfl, -, rfl⟩ := hv'
            obtain ⟨eb, eo, rfl, heb⟩ := hI.eds.form (by omega)
            obtain ⟨e0, e1, e2, e3, e4⟩ := hI.eds.at_ hek
            have hok := HOK.out e (List.mem_of_getElem? hek)
            obtain ⟨hea, heb2, hab⟩ := hok
            have hkI : (k : Int) < (es.length : Int) := by omega
            have HBI3 := HBI2.out.scan1 HU2.out hek HOK.out HSN.out
            have HEK := Lib.hid hek
            have HSC2 : Hid (scan goW u (k + 1) (es.drop (k + 1)) (scan1 goW u k e (by2, vis2.drop (d + 1))) = S0) := Lib.hid (by
              rw [← HSC.out, drop_cons hek]; rfl)
            have HBA := Lib.hid (HB2.out.alloc HB2.out.size (.cells #[.int .i64 e.a, .int .i64 e.b, .string e.name, .bool e.brk, .int .i64 e.fl] 104))
            have HGA := Lib.hid (HG2.out.alloc (.cells #[.int .i64 e.a, .int .i64 e.b, .string e.name, .bool e.brk, .int .i64 e.fl] 104))
            have HQA := Lib.hid (HQ2.out.up ((Below.refl _ _).alloc (Nat.le_refl _) (.cells #[.int .i64 e.a, .int .i64 e.b, .string e.name, .bool e.brk, .int .i64 e.fl] 104)))
            have HEX : Hid (Blk (wr.alloc (.cells #[.int .i64 e.a, .int .i64 e.b, .string e.name, .bool e.brk, .int .i64 e.fl] 104)) wr.heap.size 104 #[.int .i64 e.a, .int .i64 e.b, .string e.name, .bool e.brk, .int .i64 e.fl]) := Lib.hid (Blk.new wr _ _)
            have HQL : Hid (∀ gq off n cap, u4 = .slice (some ⟨gq, off, none⟩) n cap → gq < wr.heap.size) := Lib.hid (fun gq off n cap e => by
              obtain ⟨g', o', c', h1, _, h3, _⟩ := HQ2.out.ex
              rw [e] at h1
              injection h1 with h1
              injection h1 with h1
              injection h1 with h1
              omega)
            clear hF5 hek hv hI
            unfold scan1 at HBI3 HSC2
            by_cases hh : e.hits u
            · by_cases ha : e.a = u
              · subst ha
                have hna : ((e.a : Int) == (e.a : Int)) = true := by simp
                have hnb : ((e.b : Int) == (e.a : Int)) = false := by simp; omega
                have ho : e.oth e.a = e.b := by unfold Ed.oth; omega
                rw [ho] at HBI3 HSC2
                have hgl : g < wr.heap.size := by omega
                have hby : (wr.alloc (.cells #[.int .i64 e.a, .int .i64 e.b, .string e.name, .bool e.brk, .int .i64 e.fl] 104)).cell? ⟨g, e.b, none⟩ = some (.int .i64 (by2.getD e.b 0)) := int_at HGA.out (by have := HBI2.out.len; omega)
                have hoI : (e.b : Int) < (src.length : Int) := by omega
                by_cases hgo : 0 < e.fl
                · have hgw : goW e e.a = true := by rw [goW_a rfl hab]; simpa using hgo
                  have hgt : decide (0 < e.fl) = true := by simpa using hgo
                  generalize hz : by2.getD e.b 0 = z at hby
                  by_cases hz1 : z = -1
                  · subst hz1
                    rw [if_pos ⟨hh, hz, hgw⟩] at HBI3
                    rw [if_pos ⟨hh, hz, hgw⟩] at HSC2
                    obtain ⟨by3, vis3, h1, h2, h3, h4⟩ := HBI3
                    obtain ⟨q1, q2⟩ := Prod.mk.inj h1
                    subst q1
                    have HQ2' := Lib.hid q2
                    clear h1 q2 hz
                    have hlen3 : (ints (natI (vis2.drop (d + 1)))).length ≤ 1000000 := by simp [ints, natI]; omega
                    have hfz := HGA.out.frozen e.b
                    have hs6 : g + 1 ≤ (wr.alloc (.cells #[.int .i64 e.a, .int .i64 e.b, .string e.name, .bool e.brk, .int .i64 e.fl] 104)).heap.size := by simp; omega
                    have hxq : wr.heap.size < (wr.alloc (.cells #[.int .i64 e.a, .int .i64 e.b, .string e.name, .bool e.brk, .int .i64 e.fl] 104)).heap.size := by simp
                    have x0 := HEX.out.cell 0
                    have x1 := HEX.out.cell 1
                    have x4 := HEX.out.cell 4
                    have HBs : Hid (Below w.heap.size w ((wr.setCell ⟨g, e.b, none⟩ (.int .i64 k)).alloc (.cells #[.int .i64 e.a, .int .i64 e.b, .string e.name, .bool e.brk, .int .i64 e.fl] 104))) := Lib.hid ((HB2.out.setCell (p := ⟨g, e.b, none⟩) (by simp; omega) _).alloc (by have := HB2.out.size; simp; omega) _)
                    have HGs : Hid (Blk ((wr.setCell ⟨g, e.b, none⟩ (.int .i64 k)).alloc (.cells #[.int .i64 e.a, .int .i64 e.b, .string e.name, .bool e.brk, .int .i64 e.fl] 104)) g 3 (ints (by2.set e.b k)).toArray) := Lib.hid (by
                      have h := HG2.out.set_ e.b (.int .i64 k)
                      rw [show (ints by2).toArray.setIfInBounds e.b (.int .i64 k) = (ints (by2.set e.b k)).toArray from by unfold ints; rw [List.setIfInBounds_toArray, List.map_set]] at h
                      exact h.alloc _)
                    have HQs : Hid (Qu ((wr.setCell ⟨g, e.b, none⟩ (.int .i64 k)).alloc (.cells #[.int .i64 e.a, .int .i64 e.b, .string e.name, .bool e.brk, .int .i64 e.fl] 104)) (g + 1) u4 (ints (natI (vis2.drop (d + 1))))) := Lib.hid ((HQ2.out.far (q := ⟨g, e.b, none⟩) (by simp) (.int .i64 k)).up ((Below.refl _ _).alloc (Nat.le_refl _) _))
                    have HXs : Hid (Blk ((wr.setCell ⟨g, e.b, none⟩ (.int .i64 k)).alloc (.cells #[.int .i64 e.a, .int .i64 e.b, .string e.name, .bool e.brk, .int .i64 e.fl] 104)) wr.heap.size 104 #[.int .i64 e.a, .int .i64 e.b, .string e.name, .bool e.brk, .int .i64 e.fl]) := Lib.hid (Blk.new_ (by simp))
                    have hss : ((wr.setCell ⟨g, e.b, none⟩ (.int .i64 k)).alloc (.cells #[.int .i64 e.a, .int .i64 e.b, .string e.name, .bool e.brk, .int .i64 e.fl] 104)).heap.size = wr.heap.size + 1 := by simp
                    have HB8 := Lib.hid (HBs.out.alloc HBs.out.size (.cells #[.int .i64 e.b] 3))
                    have HG8 := Lib.hid (HGs.out.alloc (.cells #[.int .i64 e.b] 3))
                    have HQ8 := Lib.hid (HQs.out.up ((Below.refl _ _).alloc (Nat.le_refl _) (.cells #[.int .i64 e.b] 3)))
                    have HX8 := Lib.hid (HXs.out.alloc (.cells #[.int .i64 e.b] 3))
                    have HC8 : Hid ((((wr.setCell ⟨g, e.b, none⟩ (.int .i64 k)).alloc (.cells #[.int .i64 e.a, .int .i64 e.b, .string e.name, .bool e.brk, .int .i64 e.fl] 104)).alloc (.cells #[.int .i64 e.b] 3)).cell? ⟨wr.heap.size + 1, 0, none⟩ = some (.int .i64 e.b)) := Lib.hid (by
                      have h := (Blk.new ((wr.setCell ⟨g, e.b, none⟩ (.int .i64 k)).alloc (.cells #[.int .i64 e.a, .int .i64 e.b, .string e.name, .bool e.brk, .int .i64 e.fl] 104)) 3 #[.int .i64 e.b]).cell 0
                      rw [hss] at h; exact h)
                    have hs8 : g + 1 ≤ (((wr.setCell ⟨g, e.b, none⟩ (.int .i64 k)).alloc (.cells #[.int .i64 e.a, .int .i64 e.b, .string e.name, .bool e.brk, .int .i64 e.fl] 104)).alloc (.cells #[.int .i64 e.b] 3)).heap.size := by simp; omega
                    have HXQ : Hid (∀ w9, (∀ g' off n cap, u4 = .slice (some ⟨g', off, none⟩) n cap → (((wr.setCell ⟨g, e.b, none⟩ (.int .i64 k)).alloc (.cells #[.int .i64 e.a, .int .i64 e.b, .string e.name, .bool e.brk, .int .i64 e.fl] 104)).alloc (.cells #[.int .i64 e.b] 3)).grownBy w9 (some g')) → w9.cell? ⟨wr.heap.size, 1, none⟩ = some (.int .i64 e.b)) := Lib.hid (fun w9 hg9 => by
                      obtain ⟨gq, off, cap, h1, _, h3, _⟩ := HQ2.out.ex
                      have h4 := hg9 gq off _ cap h1
                      exact (h4.cell_far ⟨wr.heap.size, 1, none⟩ (by simp; omega) (fun e => by injection e with e; simp at e; omega)).trans (HX8.out.cell 1))
                    clear hss
                    go_wp2_with (at_builtin; refine wpList_append_qg _ rfl (.tmp 125) (.tmp 128) 61 rfl (g + 1) 3 i0 (.int .i64 0) Try.underlying61 HI0.out HI1.out HI2.out HI3.out rfl u4 _ rfl HQ8.out ⟨wr.heap.size + 1, 0, none⟩ 1 _ rfl HC8.out rfl rfl hlen3 hs8 ?_; intro v' w9 hq9 hb9 hg9; have hxx := HXQ.out w9 hg9)
                    have hq : ints (natI (vis2.drop (d + 1))) ++ [Value.int .i64 e.b] = ints (natI (vis3.drop (d + 1))) := by
                      rw [← HQ2'.out]
                      unfold ints natI
                      rw [List.map_append, List.map_append]; rfl
                    rw [hq] at hq9
                    have HQ9 := Lib.hid hq9
                    have HB9 := Lib.hid (HB8.out.trans (hb9.mono (by omega)))
                    have HG9 := Lib.hid (HG8.out.below hb9 (by omega))
                    have hs9 := Nat.le_trans hs8 hb9.size
                    clear hq hq9 hb9 hg9
                    go_wp2_with fail
                    go_roundw
                    case rel => exact ⟨k + 1, _, vis3, by omega, by go_num, h2, h3, h4, by rw [← HQ2'.out]; exact HSC2.out, HB9.out, HG9.out, HQ9.out, hs9⟩
                    case measure => simp [intOf]; omega
                  · have hnz : (z == -1) = false := by simpa using hz1
                    rw [if_neg (fun h => hz1 (hz ▸ h.2.1))] at HBI3
                    rw [if_neg (fun h => hz1 (hz ▸ h.2.1))] at HSC2
                    clear hz
                    obtain ⟨by3, vis3, h1, h2, h3, h4⟩ := HBI3
                    have H1 := Lib.hid h1
                    obtain ⟨q1, q2⟩ := Prod.mk.inj h1
                    have Q1 := Lib.hid q1
                    have Q2 := Lib.hid q2
                    clear h1 q1 q2
                    go_wp2_with fail
                    go_roundw
                    case rel => exact ⟨k + 1, by3, vis3, by omega, by go_num, h2, h3, h4, by rw [← H1.out]; exact HSC2.out, HBA.out, by rw [← Q1.out]; exact HGA.out, by rw [← Q2.out]; exact HQA.out, by simp; omega⟩
                    case measure => simp [intOf]; omega
                · have hgw : goW e e.a = false := by rw [goW_a rfl hab]; simpa using hgo
                  have hgt : decide (0 < e.fl) = false := by simpa using hgo
                  rw [if_neg (fun h => by rw [hgw] at h; exact absurd h.2.2 (by simp))] at HBI3
                  rw [if_neg (fun h => by rw [hgw] at h; exact absurd h.2.2 (by simp))] at HSC2
                  obtain ⟨by3, vis3, h1, h2, h3, h4⟩ := HBI3
                  have H1 := Lib.hid h1
                  obtain ⟨q1, q2⟩ := Prod.mk.inj h1
                  have Q1 := Lib.hid q1
                  have Q2 := Lib.hid q2
                  clear h1 q1 q2
                  go_wp2_with fail
                  go_roundw
                  case rel => exact ⟨k + 1, by3, vis3, by omega, by go_num, h2, h3, h4, by rw [← H1.out]; exact HSC2.out, HBA.out, by rw [← Q1.out]; exact HGA.out, by rw [← Q2.out]; exact HQA.out, by simp; omega⟩
                  case measure => simp [intOf]; omega
              · have hb : e.b = u := hh.resolve_left ha
                subst hb
                have hna : ((e.b : Int) == (e.b : Int)) = true := by simp
                have hnb : ((e.a : Int) == (e.b : Int)) = false := by simp; omega
                have ho : e.oth e.b = e.a := by unfold Ed.oth; omega
                rw [ho] at HBI3 HSC2
                have hgl : g < wr.heap.size := by omega
                have hby : (wr.alloc (.cells #[.int .i64 e.a, .int .i64 e.b, .string e.name, .bool e.brk, .int .i64 e.fl] 104)).cell? ⟨g, e.a, none⟩ = some (.int .i64 (by2.getD e.a 0)) := int_at HGA.out (by have := HBI2.out.len; omega)
                have hoI : (e.a : Int) < (src.length : Int) := by omega
                by_cases hgo : e.fl < 0
                · have hgw : goW e e.b = true := by rw [goW_b rfl hab]; simpa using hgo
                  have hgt : decide (e.fl < 0) = true := by simpa using hgo
                  generalize hz : by2.getD e.a 0 = z at hby
                  by_cases hz1 : z = -1
                  · subst hz1
                    rw [if_pos ⟨hh, hz, hgw⟩] at HBI3
                    rw [if_pos ⟨hh, hz, hgw⟩] at HSC2
                    obtain ⟨by3, vis3, h1, h2, h3, h4⟩ := HBI3
                    obtain ⟨q1, q2⟩ := Prod.mk.inj h1
                    subst q1
                    have HQ2' := Lib.hid q2
                    clear h1 q2 hz
                    have hlen3 : (ints (natI (vis2.drop (d + 1)))).length ≤ 1000000 := by simp [ints, natI]; omega
                    have hfz := HGA.out.frozen e.a
                    have hs6 : g + 1 ≤ (wr.alloc (.cells #[.int .i64 e.a, .int .i64 e.b, .string e.name, .bool e.brk, .int .i64 e.fl] 104)).heap.size := by simp; omega
                    have hxq : wr.heap.size < (wr.alloc (.cells #[.int .i64 e.a, .int .i64 e.b, .string e.name, .bool e.brk, .int .i64 e.fl] 104)).heap.size := by simp
                    have x0 := HEX.out.cell 0
                    have x1 := HEX.out.cell 1
                    have x4 := HEX.out.cell 4
                    have HBs : Hid (Below w.heap.size w ((wr.setCell ⟨g, e.a, none⟩ (.int .i64 k)).alloc (.cells #[.int .i64 e.a, .int .i64 e.b, .string e.name, .bool e.brk, .int .i64 e.fl] 104))) := Lib.hid ((HB2.out.setCell (p := ⟨g, e.a, none⟩) (by simp; omega) _).alloc (by have := HB2.out.size; simp; omega) _)
                    have HGs : Hid (Blk ((wr.setCell ⟨g, e.a, none⟩ (.int .i64 k)).alloc (.cells #[.int .i64 e.a, .int .i64 e.b, .string e.name, .bool e.brk, .int .i64 e.fl] 104)) g 3 (ints (by2.set e.a k)).toArray) := Lib.hid (by
                      have h := HG2.out.set_ e.a (.int .i64 k)
                      rw [show (ints by2).toArray.setIfInBounds e.a (.int .i64 k) = (ints (by2.set e.a k)).toArray from by unfold ints; rw [List.setIfInBounds_toArray, List.map_set]] at h
                      exact h.alloc _)
                    have HQs : Hid (Qu ((wr.setCell ⟨g, e.a, none⟩ (.int .i64 k)).alloc (.cells #[.int .i64 e.a, .int .i64 e.b, .string e.name, .bool e.brk, .int .i64 e.fl] 104)) (g + 1) u4 (ints (natI (vis2.drop (d + 1))))) := Lib.hid ((HQ2.out.far (q := ⟨g, e.a, none⟩) (by simp) (.int .i64 k)).up ((Below.refl _ _).alloc (Nat.le_refl _) _))
                    have HXs : Hid (Blk ((wr.setCell ⟨g, e.a, none⟩ (.int .i64 k)).alloc (.cells #[.int .i64 e.a, .int .i64 e.b, .string e.name, .bool e.brk, .int .i64 e.fl] 104)) wr.heap.size 104 #[.int .i64 e.a, .int .i64 e.b, .string e.name, .bool e.brk, .int .i64 e.fl]) := Lib.hid (Blk.new_ (by simp))
                    have hss : ((wr.setCell ⟨g, e.a, none⟩ (.int .i64 k)).alloc (.cells #[.int .i64 e.a, .int .i64 e.b, .string e.name, .bool e.brk, .int .i64 e.fl] 104)).heap.size = wr.heap.size + 1 := by simp
                    have HB8 := Lib.hid (HBs.out.alloc HBs.out.size (.cells #[.int .i64 e.a] 3))
                    have HG8 := Lib.hid (HGs.out.alloc (.cells #[.int .i64 e.a] 3))
                    have HQ8 := Lib.hid (HQs.out.up ((Below.refl _ _).alloc (Nat.le_refl _) (.cells #[.int .i64 e.a] 3)))
                    have HX8 := Lib.hid (HXs.out.alloc (.cells #[.int .i64 e.a] 3))
                    have HC8 : Hid ((((wr.setCell ⟨g, e.a, none⟩ (.int .i64 k)).alloc (.cells #[.int .i64 e.a, .int .i64 e.b, .string e.name, .bool e.brk, .int .i64 e.fl] 104)).alloc (.cells #[.int .i64 e.a] 3)).cell? ⟨wr.heap.size + 1, 0, none⟩ = some (.int .i64 e.a)) := Lib.hid (by
                      have h := (Blk.new ((wr.setCell ⟨g, e.a, none⟩ (.int .i64 k)).alloc (.cells #[.int .i64 e.a, .int .i64 e.b, .string e.name, .bool e.brk, .int .i64 e.fl] 104)) 3 #[.int .i64 e.a]).cell 0
                      rw [hss] at h; exact h)
                    have hs8 : g + 1 ≤ (((wr.setCell ⟨g, e.a, none⟩ (.int .i64 k)).alloc (.cells #[.int .i64 e.a, .int .i64 e.b, .string e.name, .bool e.brk, .int .i64 e.fl] 104)).alloc (.cells #[.int .i64 e.a] 3)).heap.size := by simp; omega
                    have HXQ : Hid (∀ w9, (∀ g' off n cap, u4 = .slice (some ⟨g', off, none⟩) n cap → (((wr.setCell ⟨g, e.a, none⟩ (.int .i64 k)).alloc (.cells #[.int .i64 e.a, .int .i64 e.b, .string e.name, .bool e.brk, .int .i64 e.fl] 104)).alloc (.cells #[.int .i64 e.a] 3)).grownBy w9 (some g')) → w9.cell? ⟨wr.heap.size, 1, none⟩ = some (.int .i64 e.b)) := Lib.hid (fun w9 hg9 => by
                      obtain ⟨gq, off, cap, h1, _, h3, _⟩ := HQ2.out.ex
                      have h4 := hg9 gq off _ cap h1
                      exact (h4.cell_far ⟨wr.heap.size, 1, none⟩ (by simp; omega) (fun e => by injection e with e; simp at e; omega)).trans (HX8.out.cell 1))
                    clear hss
                    go_wp2_with (at_builtin; refine wpList_append_qg _ rfl (.tmp 152) (.tmp 155) 61 rfl (g + 1) 3 i0 (.int .i64 0) Try.underlying61 HI0.out HI1.out HI2.out HI3.out rfl u4 _ rfl HQ8.out ⟨wr.heap.size + 1, 0, none⟩ 1 _ rfl HC8.out rfl rfl hlen3 hs8 ?_; intro v' w9 hq9 hb9 hg9; have hxx := HXQ.out w9 hg9)
                    have hq : ints (natI (vis2.drop (d + 1))) ++ [Value.int .i64 e.a] = ints (natI (vis3.drop (d + 1))) := by
                      rw [← HQ2'.out]
                      unfold ints natI
                      rw [List.map_append, List.map_append]; rfl
                    rw [hq] at hq9
                    have HQ9 := Lib.hid hq9
                    have HB9 := Lib.hid (HB8.out.trans (hb9.mono (by omega)))
                    have HG9 := Lib.hid (HG8.out.below hb9 (by omega))
                    have hs9 := Nat.le_trans hs8 hb9.size
                    clear hq hq9 hb9 hg9
                    go_wp2_with fail
                    go_roundw
                    case rel => exact ⟨k + 1, _, vis3, by omega, by go_num, h2, h3, h4, by rw [← HQ2'.out]; exact HSC2.out, HB9.out, HG9.out, HQ9.out, hs9⟩
                    case measure => simp [intOf]; omega
                  · have hnz : (z == -1) = false := by simpa using hz1
                    rw [if_neg (fun h => hz1 (hz ▸ h.2.1))] at HBI3
                    rw [if_neg (fun h => hz1 (hz ▸ h.2.1))] at HSC2
                    clear hz
                    obtain ⟨by3, vis3, h1, h2, h3, h4⟩ := HBI3
                    have H1 := Lib.hid h1
                    obtain ⟨q1, q2⟩ := Prod.mk.inj h1
                    have Q1 := Lib.hid q1
                    have Q2 := Lib.hid q2
                    clear h1 q1 q2
                    go_wp2_with fail
                    go_roundw
                    case rel => exact ⟨k + 1, by3, vis3, by omega, by go_num, h2, h3, h4, by rw [← H1.out]; exact HSC2.out, HBA.out, by rw [← Q1.out]; exact HGA.out, by rw [← Q2.out]; exact HQA.out, by simp; omega⟩
                    case measure => simp [intOf]; omega
                · have hgw : goW e e.b = false := by rw [goW_b rfl hab]; simpa using hgo
                  have hgt : decide (e.fl < 0) = false := by simpa using hgo
                  rw [if_neg (fun h => by rw [hgw] at h; exact absurd h.2.2 (by simp))] at HBI3
                  rw [if_neg (fun h => by rw [hgw] at h; exact absurd h.2.2 (by simp))] at HSC2
                  obtain ⟨by3, vis3, h1, h2, h3, h4⟩ := HBI3
                  have H1 := Lib.hid h1
                  obtain ⟨q1, q2⟩ := Prod.mk.inj h1
                  have Q1 := Lib.hid q1
                  have Q2 := Lib.hid q2
                  clear h1 q1 q2
                  go_wp2_with fail
                  go_roundw
                  case rel => exact ⟨k + 1, by3, vis3, by omega, by go_num, h2, h3, h4, by rw [← H1.out]; exact HSC2.out, HBA.out, by rw [← Q1.out]; exact HGA.out, by rw [← Q2.out]; exact HQA.out, by simp; omega⟩
                  case measure => simp [intOf]; omega
            · rw [if_neg (fun h => hh h.1)] at HBI3
              rw [if_neg (fun h => hh h.1)] at HSC2
              obtain ⟨by3, vis3, h1, h2, h3, h4⟩ := HBI3
              have hna : ((e.a : Int) == (u : Int)) = false := by have : e.a ≠ u := fun h => hh (.inl h)
                                                                  simp; omega
              have hnb : ((e.b : Int) == (u : Int)) = false := by have : e.b ≠ u := fun h => hh (.inr h)
                                                                  simp; omega
              have H1 := Lib.hid h1
              obtain ⟨q1, q2⟩ := Prod.mk.inj h1
              have Q1 := Lib.hid q1
              have Q2 := Lib.hid q2
              clear h1 q1 q2
              go_wp2_with fail
              go_roundw
              case rel => exact ⟨k + 1, by3, vis3, by omega, by go_num, h2, h3, h4, by rw [← H1.out]; exact HSC2.out, HBA.out, by rw [← Q1.out]; exact HGA.out, by rw [← Q2.out]; exact HQA.out, by simp; omega⟩
              case measure => simp [intOf]; omega
          · have hkk : k = es.length := by omega
            subst hkk
            go_wp2_with fail
            go_roundg (gk - 1)
            case rel => exact ⟨by2, vis2, d + 1, HBI2.out.next HU2.out HSN.out HSV.out, by rw [← HFUN.out, HDR.out, bfs_on (by omega) HSV.out, ← HS0.out, ← HSC.out, List.drop_length]; rfl, by omega, by omega, HB2.out, HG2.out, HQ2.out, hs2⟩
            case measure => omega
    · have hdv : d = vis.length := by have := HBI.out.dle; omega
      have hz : vis.length - d = 0 := by omega
      rw [hz]
      clear hqx hqh
      have hR : bfsR goW es src src.length place = (by_, -1) := by rw [← HFUN.out, List.drop_eq_nil_iff.2 (by omega), bfs_nil]
      have HWY := Lib.hid (wayR_none hR)
      have HFE := Lib.hid (HF.out.up HB.out)
      clear hR
      go_wp2_with fail
      go_ret
      rw [HP.out, HWY.out]
      exact ⟨only_of_below HB.out _, HFE.out, _, rfl, World.ownsRow_nil _ _ _ _⟩
end Go.Proofs.Ythedpegaelpbdaa
