/- The law JournalGroups: the walk. -/
import Derived.Test.YtmmkkkakbbidjaaDoorJB
namespace Go.Proofs.YtmmkkkakbbidjaaDoor
open Go.ChangeShapes Go.WideShapes Go.ChangeAt Go.RowKit
set_option linter.unusedVariables false
attribute [local go_sem ↓] execOp_call_val
attribute [local go_sem] callVal_func setCell_drewN alloc_drewN sEq_walk

theorem rdEv_own {w : World} {base g cap n : Nat} {l : List Ev} (h : w.ownsRow base 31 4 (.slice (some ⟨g, 0, none⟩) n cap) n (l.flatMap Ev.cells)) (hl : l.length = n) : RdEv w w.heap.size (some ⟨g, 0, none⟩) n l :=
  ⟨hl, by rw [flat_len Ev.len]; omega, fun h0 => ⟨g, 0, rfl, (h.lt g (by simp [Value.ownBlock])).2, fun j u hu => by
    have hj : j < n * 4 := by have := (List.getElem?_eq_some_iff.1 hu).1; rw [flat_len Ev.len] at this; omega
    rw [Nat.zero_add, h.cellAt j hj]; exact hu⟩⟩
theorem rdEv_own' {w : World} {base : Nat} {v : Value} {l : List Ev} (h : w.ownsRow base 31 4 v l.length (l.flatMap Ev.cells)) : ∃ A c, v = .slice A l.length c ∧ RdEv w w.heap.size A l.length l := by
  rcases h.2 with ⟨hv, h0⟩ | ⟨g, cap, cur, hv, _⟩
  · have hl : l = [] := List.eq_nil_of_length_eq_zero h0
    subst hl
    exact ⟨none, 0, hv, rfl, rfl, fun h => by simp at h⟩
  · subst hv
    exact ⟨_, cap, rfl, rdEv_own h rfl⟩
theorem GS.form {base : Nat} {w : World} {v : Value} {gs : List Ge} (h : GS base w v gs) : ∃ A c, v = .slice A gs.length c := by
  rcases h.out.2 with ⟨hv, h0⟩ | ⟨g, cap, cur, hv, _⟩
  · exact ⟨none, 0, by rw [hv, h0]⟩
  · exact ⟨_, cap, hv⟩

set_option maxRecDepth 100000 in
set_option maxHeartbeats 8000000 in
theorem jgroupslaw_any (A : Option Addr) (n c : Nat) (l : List Ev) (gap : Int) (hf : ∀ x ∈ l, x.Fit) (w : World) (hR : RdEv w w.heap.size A n l) (hn : n ≤ 9223372036854775807) (ht : TabOk w) :
    Calls Tryd.prog 3 #[.slice A n c, .int .i64 gap] w fun e w' => e = .returned (.bool true) ∧ Below w.heap.size w w' := by
  obtain ⟨iE, hiE, hE0, hE1, hE2⟩ := info_parts info_ev
  have HR := Lib.hid hR
  have HT := Lib.hid ht
  have HF := Lib.hid hf
  have HC : Hid (ckEv l = 0 → l.length ≤ 256 ∧ ∀ x ∈ l, evCk x = 0) := Lib.hid fun h => ⟨ckEv_len h, ckEv_all h⟩
  clear hR ht hf
  go_enter Tryd.func3, Tryd.ntmps3
  go_wp2_with fail
  refine (jworks_any _ HT.out).mono ?_
  rintro e w1 ⟨rfl, k1⟩
  have HB1 := Lib.hid k1
  have HR1 := Lib.hid (HR.out.up k1)
  clear k1
  go_wp2_with fail
  refine (jgroups_any A n c l gap HF.out _ HR1.out hn).mono ?_
  rintro e w2 ⟨k2, h1⟩
  have HB2 := Lib.hid (HB1.out.trans (k2.mono HB1.out.size))
  have HR2 := Lib.hid (HR1.out.up k2)
  clear k2
  rcases h1 with ⟨hck, rfl⟩ | ⟨hck, hgap, rfl⟩ | ⟨hck, hg0, hg1, v, gs, rfl, hG, hgs⟩
  · have HCK := Lib.hid hck
    generalize hcv : ckEv l = ck at *
    have hcb : (ck != 0) = true := by simpa using hck
    clear hck hcv
    go_wp2_with fail
    refine (sorted_any A n c l HF.out _ HR2.out hn).mono ?_
    rintro e w3 ⟨k3, h1⟩
    have HB3 := Lib.hid (HB2.out.trans (k3.mono HB2.out.size))
    clear k3
    rcases h1 with ⟨_, rfl⟩ | ⟨_, SA, sn, sc, rfl, _, _, _⟩
    · go_wp2_with fail
      go_ret
      exact ⟨rfl, HB3.out⟩
    · go_wp2_with fail
      go_ret
      exact ⟨rfl, HB3.out⟩
  · go_wp2_with fail
    refine (sorted_any A n c l HF.out _ HR2.out hn).mono ?_
    rintro e w3 ⟨k3, h1⟩
    have HB3 := Lib.hid (HB2.out.trans (k3.mono HB2.out.size))
    clear k3
    rcases h1 with ⟨_, rfl⟩ | ⟨_, SA, sn, sc, rfl, _, _, _⟩
    · go_wp2_with fail
      go_ret
      exact ⟨rfl, HB3.out⟩
    · go_wp2_with fail
      go_ret
      exact ⟨rfl, HB3.out⟩
  · have HCK := Lib.hid hck
    have HG2 := Lib.hid hG
    have HGS := Lib.hid hgs
    have h256 := (HC.out hck).1
    have HEV := Lib.hid (HC.out hck).2
    obtain ⟨vA, vc, rfl⟩ := hG.form
    clear hck hG hgs
    go_wp2_with fail
    refine (sorted_any A n c l HF.out _ HR2.out hn).mono ?_
    rintro e w3 ⟨k3, h1⟩
    have HB3 := Lib.hid (HB2.out.trans (k3.mono HB2.out.size))
    have HG3 := Lib.hid (HG2.out.up k3)
    clear k3
    rcases h1 with ⟨hne, _⟩ | ⟨_, SA, sn, sc, rfl, _, hscm, hrs⟩
    · exact absurd HCK.out hne
    have HRS := Lib.hid hrs
    have hsn : sn = l.length := by rw [← hrs.1, evSort_len]
    subst hsn
    have HOK : Hid (GrpOk gap (gs.map Ge.evs)) := Lib.hid (by rw [HGS.out]; exact grpTo_ok _ _ _ (by rw [evSort_len]; exact Nat.le_refl _))
    have HFL : Hid ((gs.map Ge.evs).flatten = evSort l) := Lib.hid (by rw [HGS.out, grpTo_flat _ _ _ (by rw [evSort_len]; exact Nat.le_refl _), ← evSort_len l, List.take_length])
    have HPE : Hid (∀ x ∈ evSort l, 0 ≤ x.time ∧ x.time ≤ 1000000000) := Lib.hid fun x hx => by
      have := evCk_ok (HEV.out x ((evSort_perm l).mem_iff.1 hx)); omega
    have HSL : Hid ((evSort l).length ≤ 256) := Lib.hid (by rw [evSort_len]; omega)
    clear hrs
    have hgl : gs.length ≤ 1000000 := by
      have h1 := congrArg List.length HGS.out
      rw [List.length_map] at h1
      have h2 := (grpTo_len (evSort l) gap l.length).1
      omega
    generalize evSort l = s at *
    go_wp2_with fail
    go_loopw [9, 33] (fun a iv wr => ∃ i : Nat, i ≤ gs.length ∧ iv = .int .i64 i ∧ Below w3.heap.size w3 wr ∧ wr.ownsRow w3.heap.size 31 4 a ((gs.take i).flatMap Ge.evs).length (((gs.take i).flatMap Ge.evs).flatMap Ev.cells)) (fun _ iv _ => gs.length - (intOf iv).toNat)
    case atStart => exact ⟨0, by omega, rfl, Below.refl _ _, World.ownsRow_nil _ _ _ _⟩
    case round =>
      obtain ⟨i, hi, rfl, hb, hown⟩ := hrel
      have HB := Lib.hid hb
      have HOW := Lib.hid hown
      clear hb hown
      by_cases hlt : i < gs.length
      · obtain ⟨x, hx⟩ : ∃ x, gs[i]? = some x := ⟨_, List.getElem?_eq_getElem hlt⟩
        have hxm : (gs.map Ge.evs)[i]? = some x.evs := by rw [List.getElem?_map, hx]; rfl
        obtain ⟨hxne, hx0, hxin⟩ := HOK.out i x.evs hxm
        have hxl : 0 < x.evs.length := by
          cases hh : x.evs with
          | nil => exact absurd hh hxne
          | cons a r => simp
        have HIN := Lib.hid hxin
        obtain ⟨gx, cx, hxv, _, hgx⟩ := (HG3.out.inn x (List.mem_of_getElem? hx)).form hxl
        have hxo := HG3.out.inn x (List.mem_of_getElem? hx)
        rw [hxv] at hxo
        have hrx3 := rdEv_own hxo rfl
        have HRX := Lib.hid (hrx3.up HB.out)
        have hvo := HG3.out.out
        obtain ⟨g0, c0, hv0, _, hg0⟩ := hvo.form (by omega)
        injection hv0 with e1 _ e3
        subst e1; subst e3
        have hcell3 : w3.cell? ⟨g0, i, none⟩ = some x.val := by
          rw [hvo.cellAt i (by omega), List.getElem?_map, hx]; rfl
        have hcell := (HB.out.cell (p := ⟨g0, i, none⟩) hg0).trans hcell3
        rw [hxv] at hcell
        have hsub : ∀ p ∈ x.evs, p ∈ s := fun p hp => by rw [← HFL.out]; exact List.mem_flatten.2 ⟨x.evs, List.mem_of_getElem? hxm, hp⟩
        have HTM : Hid (∀ p ∈ x.evs, 0 ≤ p.time ∧ p.time ≤ 1000000000) := Lib.hid fun p hp => HPE.out p (hsub p hp)
        obtain ⟨pre, hpre⟩ : ∃ pre, pre = (gs.take i).flatMap Ge.evs := ⟨_, rfl⟩
        rw [← hpre] at HOW
        have HPN : Hid ((gs.take (i + 1)).flatMap Ge.evs = pre ++ x.evs) := Lib.hid (by
          rw [List.take_add_one, hx, List.flatMap_append, ← hpre]; simp)
        have hflm : ((gs.map Ge.evs).take i).flatten = pre := by rw [hpre, ← List.map_take, List.flatMap_def]
        have hpsub : ∀ p ∈ pre, p ∈ s := fun p hp => by
          rw [← HFL.out, ← List.take_append_drop i (gs.map Ge.evs), List.flatten_append, hflm]
          exact List.mem_append_left _ hp
        have HSUM : Hid (pre.length + x.evs.length ≤ 256) := Lib.hid (by
          have h1 := congrArg List.length HFL.out
          rw [← List.take_append_drop (i + 1) (gs.map Ge.evs), List.flatten_append, List.length_append, ← List.map_take, ← List.flatMap_def, HPN.out, List.length_append] at h1
          have := HSL.out
          omega)
        have HXL : Hid (x.evs.length ≤ 256) := Lib.hid (by have := HSUM.out; omega)
        have hiI : (i : Int) < (gs.length : Int) := by omega
        have hxl2 : ((x.evs.length : Int) == 0) = false := by simp; omega
        have hxlI : (0 : Int) < (x.evs.length : Int) := by omega
        clear hx hxm hxne hxin hrx3 hxo hvo hcell3 hsub hxv
        by_cases hi0 : i = 0
        · have hi1 : ¬ (0 < i) := by omega
          have hi2 : decide (0 < i) = false := by simp; omega
          clear hx0 hi0 hpre hflm hpsub
          go_wp2_with fail
          go_quiet (fail)
          clear hi1 hi2 hcell hxl2
          have HB' := Lib.hid (below_drewN HB.out nq)
          have HOW' := Lib.hid (own_up HOW.out (below_drewN (Below.refl _ _) nq))
          have HRX' := Lib.hid (HRX.out.up (below_drewN (Below.refl _ _) nq))
          generalize hwq : wr.drewN nq = wq at *
          have HWQ := Lib.hid hwq
          clear hwq HB HOW HRX
          have HB := HB'
          have HOW := HOW'
          have HRX := HRX'
          clear HB' HOW' HRX'
          go_wp2_with fail
          obtain ⟨wo, rfl⟩ : ∃ wo : World, wo = wq := ⟨_, rfl⟩
          go_loopw [12] (fun kv wr2 => ∃ (kk q : Nat), 1 ≤ kk ∧ kk ≤ x.evs.length ∧ kv = .int .i64 kk ∧ wr2 = wo.drewN q) (fun kv _ => x.evs.length - (intOf kv).toNat)
          case atStart => exact ⟨1, 0, by omega, by omega, rfl, rfl⟩
          case round =>
            obtain ⟨kk, q, hk1, hk2, rfl, rfl⟩ := hrel
            have hxl := HXL.out
            by_cases hlt2 : kk < x.evs.length
            · obtain ⟨p1, hp1⟩ : ∃ p, x.evs[kk]? = some p := ⟨_, List.getElem?_eq_getElem hlt2⟩
              obtain ⟨p0, hp0⟩ : ∃ p, x.evs[kk - 1]? = some p := ⟨_, List.getElem?_eq_getElem (by omega)⟩
              have hin := HIN.out kk (by omega) hlt2
              rw [List.getD_eq_getElem?_getD, List.getD_eq_getElem?_getD, hp1, hp0] at hin
              simp only [Option.getD_some] at hin
              obtain ⟨m1, _, _, _⟩ := HRX.out.at_ hp1
              obtain ⟨m0, _, _, _⟩ := HRX.out.at_ hp0
              have ht1 := HTM.out p1 (List.mem_of_getElem? hp1)
              have ht0 := HTM.out p0 (List.mem_of_getElem? hp0)
              simp only [Nat.zero_add] at m1 m0
              have hw1 : IntKind.i64.wrap ((kk : Int) - 1) = (kk : Int) - 1 := wrapK kk (by omega) (by have := HXL.out; omega)
              have hw2 : ((kk : Int) - 1).toNat = kk - 1 := by omega
              have hw3 : (kk : Int) - 1 < (x.evs.length : Int) := by omega
              have hw4 : (kk : Int) < (x.evs.length : Int) := by omega
              have hw5 : IntKind.i64.wrap (p1.time - p0.time) = p1.time - p0.time := IntWalk.i64_in _ (by omega)
              have hw6 : decide (gap < p1.time - p0.time) = false := by simp; omega
              have hkI : (1 : Int) ≤ (kk : Int) := by omega
              clear hp1 hp0 hin ht1 ht0
              go_wp2_with fail
              go_quiet (fail)
              go_wp2_with fail
              go_roundw
              case rel => exact ⟨kk + 1, _, by omega, by omega, by go_num, rfl⟩
              case measure => simp [intOf]; omega
            · have hkk : kk = x.evs.length := by omega
              subst hkk
              have hsum := HSUM.out
              go_wp2_with (at_builtin; refine wpList_append_own _ rfl (.tmp 81) (.tmp 82) _ rfl w3.heap.size 31 iE _ 4 48 Tryd.underlying22 hiE hE0 hE1 hE2 rfl (by omega) u9 pre.length (pre.flatMap Ev.cells) rfl (own_up HOW.out (below_drewN (Below.refl _ _) _)) ⟨gx, 0, none⟩ x.evs.length cx (x.evs.flatMap Ev.cells) rfl (flat_len Ev.len _) ?j0 ?j1 ?j2 ?j3 ?j4 ?_)
              case j0 => exact fun j u hu => by rw [Addr.add_lit]; exact (HRX.out.2.2 (by omega)).elim fun b h => by obtain ⟨off, e, _, hc⟩ := h; injection e with e; injection e with e1 e2; subst e1; subst e2; exact hc j u hu
              case j1 => exact one_ev x.evs
              case j2 => simp only [maxLen]; omega
              case j3 => omega
              case j4 => exact HB.out.size
              intro v5 w5 hown5 hgr5 hnil5
              have hb5 : Below w3.heap.size w3 w5 := (below_drewN HB.out q).grown hgr5 HB.out.size (fun k hk => (HOW.out.lt k hk).1)
              have HB5 := Lib.hid hb5
              have HO5 := Lib.hid hown5
              clear hb5 hown5 hgr5 hnil5
              go_wp2_with fail
              go_roundw
              case rel =>
                refine ⟨i + 1, by omega, by go_num, HB5.out, ?_⟩
                rw [HPN.out, List.length_append, List.flatMap_append]
                exact HO5.out
              case measure => simp [intOf]; omega
        · obtain ⟨y, hy, hyx⟩ := hx0 (by omega)
          rw [hflm] at hy
          have hpl : 0 < pre.length := by
            cases hh : pre with
            | nil => rw [hh] at hy; simp at hy
            | cons a r => simp
          have hyt := HPE.out y (hpsub y (List.mem_of_getLast? hy))
          rw [List.getLast?_eq_getElem?] at hy
          obtain ⟨ga, ca, hva, _, hga⟩ := HOW.out.form hpl
          subst hva
          have hra := rdEv_own HOW.out rfl
          obtain ⟨y0, _, _, _⟩ := hra.at_ hy
          obtain ⟨x0, hx0'⟩ : ∃ p, x.evs[0]? = some p := ⟨_, List.getElem?_eq_getElem hxl⟩
          obtain ⟨f0, _, _, _⟩ := HRX.out.at_ hx0'
          rw [List.getD_eq_getElem?_getD, hx0'] at hyx
          simp only [Option.getD_some] at hyx
          have hx0t := HTM.out x0 (List.mem_of_getElem? hx0')
          simp only [Nat.zero_add, Nat.zero_mul] at y0 f0
          have hw1 : IntKind.i64.wrap ((pre.length : Int) - 1) = (pre.length : Int) - 1 := wrapK pre.length hpl (by have := HSUM.out; omega)
          have hw2 : ((pre.length : Int) - 1).toNat = pre.length - 1 := by omega
          have hw3 : (pre.length : Int) - 1 < (pre.length : Int) := by omega
          have hw4 : (1 : Int) ≤ (pre.length : Int) := by omega
          have hw5 : IntKind.i64.wrap (x0.time - y.time) = x0.time - y.time := IntWalk.i64_in _ (by omega)
          have hw6 : decide (x0.time - y.time ≤ gap) = false := by simp; omega
          have hi1 : 0 < i := by omega
          have hi2 : decide (0 < i) = true := by simp; omega
          clear hx0 hi0 hpre hflm hpsub hy hra hx0' hyx hx0t hyt
          go_wp2_with fail
          go_quiet (fail)
          clear hi1 hi2 hcell hxl2 hw1 hw2 hw3 hw4 hw5 hw6 y0 f0
          have HB' := Lib.hid (below_drewN HB.out nq)
          have HOW' := Lib.hid (own_up HOW.out (below_drewN (Below.refl _ _) nq))
          have HRX' := Lib.hid (HRX.out.up (below_drewN (Below.refl _ _) nq))
          generalize hwq : wr.drewN nq = wq at *
          have HWQ := Lib.hid hwq
          clear hwq HB HOW HRX
          have HB := HB'
          have HOW := HOW'
          have HRX := HRX'
          clear HB' HOW' HRX'
          go_wp2_with fail
          obtain ⟨wo, rfl⟩ : ∃ wo : World, wo = wq := ⟨_, rfl⟩
          go_loopw [12] (fun kv wr2 => ∃ (kk q : Nat), 1 ≤ kk ∧ kk ≤ x.evs.length ∧ kv = .int .i64 kk ∧ wr2 = wo.drewN q) (fun kv _ => x.evs.length - (intOf kv).toNat)
          case atStart => exact ⟨1, 0, by omega, by omega, rfl, rfl⟩
          case round =>
            obtain ⟨kk, q, hk1, hk2, rfl, rfl⟩ := hrel
            have hxl := HXL.out
            by_cases hlt2 : kk < x.evs.length
            · obtain ⟨p1, hp1⟩ : ∃ p, x.evs[kk]? = some p := ⟨_, List.getElem?_eq_getElem hlt2⟩
              obtain ⟨p0, hp0⟩ : ∃ p, x.evs[kk - 1]? = some p := ⟨_, List.getElem?_eq_getElem (by omega)⟩
              have hin := HIN.out kk (by omega) hlt2
              rw [List.getD_eq_getElem?_getD, List.getD_eq_getElem?_getD, hp1, hp0] at hin
              simp only [Option.getD_some] at hin
              obtain ⟨m1, _, _, _⟩ := HRX.out.at_ hp1
              obtain ⟨m0, _, _, _⟩ := HRX.out.at_ hp0
              have ht1 := HTM.out p1 (List.mem_of_getElem? hp1)
              have ht0 := HTM.out p0 (List.mem_of_getElem? hp0)
              simp only [Nat.zero_add] at m1 m0
              have hw1 : IntKind.i64.wrap ((kk : Int) - 1) = (kk : Int) - 1 := wrapK kk (by omega) (by have := HXL.out; omega)
              have hw2 : ((kk : Int) - 1).toNat = kk - 1 := by omega
              have hw3 : (kk : Int) - 1 < (x.evs.length : Int) := by omega
              have hw4 : (kk : Int) < (x.evs.length : Int) := by omega
              have hw5 : IntKind.i64.wrap (p1.time - p0.time) = p1.time - p0.time := IntWalk.i64_in _ (by omega)
              have hw6 : decide (gap < p1.time - p0.time) = false := by simp; omega
              have hkI : (1 : Int) ≤ (kk : Int) := by omega
              clear hp1 hp0 hin ht1 ht0
              go_wp2_with fail
              go_quiet (fail)
              go_wp2_with fail
              go_roundw
              case rel => exact ⟨kk + 1, _, by omega, by omega, by go_num, rfl⟩
              case measure => simp [intOf]; omega
            · have hkk : kk = x.evs.length := by omega
              subst hkk
              have hsum := HSUM.out
              go_wp2_with (at_builtin; refine wpList_append_own _ rfl (.tmp 81) (.tmp 82) _ rfl w3.heap.size 31 iE _ 4 48 Tryd.underlying22 hiE hE0 hE1 hE2 rfl (by omega) (.slice (some ⟨ga, 0, none⟩) pre.length ca) pre.length (pre.flatMap Ev.cells) rfl (own_up HOW.out (below_drewN (Below.refl _ _) _)) ⟨gx, 0, none⟩ x.evs.length cx (x.evs.flatMap Ev.cells) rfl (flat_len Ev.len _) ?j0 ?j1 ?j2 ?j3 ?j4 ?_)
              case j0 => exact fun j u hu => by rw [Addr.add_lit]; exact (HRX.out.2.2 (by omega)).elim fun b h => by obtain ⟨off, e, _, hc⟩ := h; injection e with e; injection e with e1 e2; subst e1; subst e2; exact hc j u hu
              case j1 => exact one_ev x.evs
              case j2 => simp only [maxLen]; omega
              case j3 => omega
              case j4 => exact HB.out.size
              intro v5 w5 hown5 hgr5 hnil5
              have hb5 : Below w3.heap.size w3 w5 := (below_drewN HB.out q).grown hgr5 HB.out.size (fun k hk => (HOW.out.lt k hk).1)
              have HB5 := Lib.hid hb5
              have HO5 := Lib.hid hown5
              clear hb5 hown5 hgr5 hnil5
              go_wp2_with fail
              go_roundw
              case rel =>
                refine ⟨i + 1, by omega, by go_num, HB5.out, ?_⟩
                rw [HPN.out, List.length_append, List.flatMap_append]
                exact HO5.out
              case measure => simp [intOf]; omega
      · have hil : i = gs.length := by omega
        subst hil
        have hown := HOW.out
        rw [List.take_length, List.flatMap_def, HFL.out] at hown
        obtain ⟨rA, rc, rfl, hra⟩ := rdEv_own' hown
        have hrs := HRS.out.up HB.out
        have HSG : Hid (sameGo s s = true) := Lib.hid (sameGo_iff.2 rfl)
        have hsl := HSL.out
        have hslI : s.length ≤ 9223372036854775807 := by omega
        have hsnI : l.length ≤ 9223372036854775807 := by omega
        have HRA := Lib.hid hra
        have HRS2 := Lib.hid hrs
        clear hown hra hrs
        go_wp2_with fail
        refine (sameEv_any rA _ rc s SA _ sc s wr HRA.out HRS2.out hslI hsnI).mono ?_
        rw [HSG.out]
        rintro e w6 ⟨rfl, q, rfl⟩
        go_wp2_with fail
        go_ret
        exact ⟨rfl, below_drewN (HB3.out.trans (HB.out.mono HB3.out.size)) _⟩
end Go.Proofs.YtmmkkkakbbidjaaDoor
