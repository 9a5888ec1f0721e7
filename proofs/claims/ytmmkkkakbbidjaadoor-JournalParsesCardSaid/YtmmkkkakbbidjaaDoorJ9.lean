/- Groups of events: journal.Groups. -/
import Derived.Test.YtmmkkkakbbidjaaDoorJ8
namespace Go.Proofs.YtmmkkkakbbidjaaDoor
open Go.ChangeShapes Go.WideShapes Go.ChangeAt Go.RowKit
set_option linter.unusedVariables false
attribute [local go_sem ↓] execOp_call_val
attribute [local go_sem] callVal_func setCell_drewN alloc_drewN sEq_walk

def evAt (s : List Ev) (k : Nat) : Ev := s.getD k evZ
def cuts (s : List Ev) (gap : Int) (k : Nat) : Bool := decide (k = 0 ∨ (evAt s (k - 1)).time + gap < (evAt s k).time)
def pushLast (gs : List (List Ev)) (z : Ev) : List (List Ev) := gs.dropLast ++ [gs.getLastD [] ++ [z]]
def grpTo (s : List Ev) (gap : Int) : Nat → List (List Ev)
  | 0 => []
  | k + 1 => pushLast (if cuts s gap k then grpTo s gap k ++ [[]] else grpTo s gap k) (evAt s k)
theorem pushLast_snoc (gs : List (List Ev)) (x : List Ev) (z : Ev) : pushLast (gs ++ [x]) z = gs ++ [x ++ [z]] := by simp [pushLast]
theorem grpTo_len (s : List Ev) (gap : Int) : ∀ k, (grpTo s gap k).length ≤ k ∧ (0 < k → 0 < (grpTo s gap k).length)
  | 0 => by simp [grpTo]
  | k + 1 => by
    have ih := grpTo_len s gap k
    simp only [grpTo, pushLast, List.length_append, List.length_dropLast, List.length_singleton]
    by_cases hc : cuts s gap k = true
    · rw [if_pos hc, List.length_append, List.length_singleton]; omega
    · rw [if_neg hc]
      have : 0 < k := by
        rcases Nat.eq_zero_or_pos k with h | h
        · subst h; exact absurd (by simp [cuts]) hc
        · exact h
      omega
theorem pushLast_flat (gs : List (List Ev)) (z : Ev) : (pushLast gs z).flatten = gs.flatten ++ [z] := by
  rcases List.eq_nil_or_concat gs with h | ⟨r, x, h⟩
  · subst h; simp [pushLast]
  · subst h
    rw [List.concat_eq_append, pushLast_snoc]; simp
theorem take_evAt (s : List Ev) (k : Nat) (h : k < s.length) : s.take (k + 1) = s.take k ++ [evAt s k] := by
  rw [List.take_succ_eq_append_getElem h]
  unfold evAt
  rw [List.getD_eq_getElem?_getD, List.getElem?_eq_getElem h]; rfl
theorem grpTo_flat (s : List Ev) (gap : Int) : ∀ k, k ≤ s.length → (grpTo s gap k).flatten = s.take k
  | 0, _ => by simp [grpTo]
  | k + 1, h => by
    have ih := grpTo_flat s gap k (by omega)
    simp only [grpTo]
    rw [pushLast_flat, take_evAt s k (by omega), ← ih]
    split <;> simp
theorem grpTo_mem (s : List Ev) (gap : Int) (k : Nat) (h : k ≤ s.length) {x : List Ev} (hx : x ∈ grpTo s gap k) : x.length ≤ k := by
  have h1 := congrArg List.length (grpTo_flat s gap k h)
  rw [List.length_take, List.length_flatten] at h1
  have h2 : x.length ≤ ((grpTo s gap k).map List.length).sum := by
    clear h1
    generalize grpTo s gap k = gs at *
    induction gs with
    | nil => simp at hx
    | cons y r ih =>
      rcases List.mem_cons.1 hx with rfl | hx
      · simp
      · have := ih hx; simp; omega
  omega
theorem info_sl : (Tryd.prog.info? 22).map (fun i => (i.zero, i.size, i.bytes)) = some (some (.slice none 0 0), 1, 24) := by kernel_rfl
theorem wrapK (k : Nat) (h0 : 0 < k) (h : k ≤ 1000000) : IntKind.i64.wrap ((k : Int) - 1) = (k : Int) - 1 := IntWalk.i64_in _ (by omega)

def GrpP (l : List Ev) (gap : Int) (w : World) (e : Ending) (w' : World) : Prop :=
  Below w.heap.size w w' ∧ ((ckEv l ≠ 0 ∧ e = .returned (.tuple #[.slice none 0 0, .int .i64 (ckEv l)])) ∨ (ckEv l = 0 ∧ (gap < 0 ∨ 1000000 < gap) ∧ e = .returned (.tuple #[.slice none 0 0, .int .i64 4])) ∨
    (ckEv l = 0 ∧ 0 ≤ gap ∧ gap ≤ 1000000 ∧ ∃ v gs, e = .returned (.tuple #[v, .int .i64 0]) ∧ GS w.heap.size w' v gs ∧ gs.map Ge.evs = grpTo (evSort l) gap l.length))

set_option maxRecDepth 100000 in
set_option maxHeartbeats 8000000 in
theorem jgroups_any (A : Option Addr) (n c : Nat) (l : List Ev) (gap : Int) (hf : ∀ x ∈ l, x.Fit) (w : World) (hR : RdEv w w.heap.size A n l) (hn : n ≤ 9223372036854775807) :
    Calls Tryd.prog 9 #[.slice A n c, .int .i64 gap] w (GrpP l gap w) := by
  obtain ⟨iE, hiE, hE0, hE1, hE2⟩ := info_parts info_ev
  obtain ⟨iS, hiS, hS0, hS1, hS2⟩ := info_parts info_sl
  have HR := Lib.hid hR
  have HF := Lib.hid hf
  have HP : Hid (∀ e w', GrpP l gap w e w' = (Below w.heap.size w w' ∧ ((ckEv l ≠ 0 ∧ e = .returned (.tuple #[.slice none 0 0, .int .i64 (ckEv l)])) ∨ (ckEv l = 0 ∧ (gap < 0 ∨ 1000000 < gap) ∧ e = .returned (.tuple #[.slice none 0 0, .int .i64 4])) ∨
    (ckEv l = 0 ∧ 0 ≤ gap ∧ gap ≤ 1000000 ∧ ∃ v gs, e = .returned (.tuple #[v, .int .i64 0]) ∧ GS w.heap.size w' v gs ∧ gs.map Ge.evs = grpTo (evSort l) gap l.length)))) := Lib.hid fun _ _ => rfl
  have HC : Hid (ckEv l = 0 → l.length ≤ 256 ∧ ∀ x ∈ l, evCk x = 0) := Lib.hid fun h => ⟨ckEv_len h, ckEv_all h⟩
  clear hR hf
  go_enter Tryd.func9, Tryd.ntmps9
  go_wp2_with fail
  refine (sorted_any A n c l HF.out w HR.out hn).mono ?_
  rintro e w1 ⟨k1, h1⟩
  have HB1 := Lib.hid k1
  clear k1
  rcases h1 with ⟨hck, rfl⟩ | ⟨hck, SA, sn, sc, rfl, hnc, hcm, hrs⟩
  · generalize ckEv l = ck at *
    have hcb : (ck != 0) = true := by simpa using hck
    have HCK := Lib.hid hck
    clear hck
    go_wp2_with fail
    go_ret2
    rw [HP.out]
    exact ⟨HB1.out, .inl ⟨HCK.out, rfl⟩⟩
  · have HRS := Lib.hid hrs
    have HCK := Lib.hid hck
    have h256 := (HC.out hck).1
    have hev : ∀ x ∈ evSort l, evCk x = 0 := fun x hx => (HC.out hck).2 x ((evSort_perm l).mem_iff.1 hx)
    have HEV := Lib.hid hev
    have HSL : Hid ((evSort l).length = l.length) := Lib.hid (evSort_len l)
    have hsn : sn ≤ 256 := by have := hrs.1; have := HSL.out; omega
    have HLN : Hid ((evSort l).length = sn) := Lib.hid hrs.1
    clear hrs hck hev
    by_cases hg0 : gap < 0
    · go_wp2_with fail
      go_ret2
      rw [HP.out]
      exact ⟨HB1.out, .inr (.inl ⟨HCK.out, .inl hg0, rfl⟩)⟩
    by_cases hg1 : 1000000 < gap
    · go_wp2_with fail
      go_ret2
      rw [HP.out]
      exact ⟨HB1.out, .inr (.inl ⟨HCK.out, .inr hg1, rfl⟩)⟩
    generalize hS : evSort l = s at *
    have HS := Lib.hid hS
    have hbase := HB1.out.size
    clear hS
    go_wp2_with fail
    go_loopw [8, 27] (fun v i wr => ∃ (k : Nat) (gs : List Ge), k ≤ sn ∧ i = .int .i64 k ∧ Below w1.heap.size w1 wr ∧ GS w1.heap.size wr v gs ∧ gs.map Ge.evs = grpTo s gap k) (fun _ i _ => sn - (intOf i).toNat)
    case atStart => exact ⟨0, [], by omega, rfl, Below.refl _ _, GS.nil _ _, rfl⟩
    case round =>
      obtain ⟨k, gs, hk, rfl, hb, hGS, hidx⟩ := hrel
      have HB := Lib.hid hb
      have HG := Lib.hid hGS
      have HI := Lib.hid hidx
      have hrd := HRS.out.up hb
      have hgl : gs.length ≤ k := by have := congrArg List.length hidx; rw [List.length_map] at this; have := (grpTo_len s gap k).1; omega
      have hgp : 0 < k → 0 < gs.length := fun h => by have := congrArg List.length hidx; rw [List.length_map] at this; have := (grpTo_len s gap k).2 h; omega
      have HGP := Lib.hid hgp
      clear hb hGS hidx hgp
      by_cases hlt : k < sn
      · obtain ⟨z, hz⟩ : ∃ z, s[k]? = some z := ⟨_, List.getElem?_eq_getElem (by have := HLN.out; omega)⟩
        have hAt : evAt s k = z := by unfold evAt; rw [List.getD_eq_getElem?_getD, hz]; rfl
        have HAT := Lib.hid hAt
        obtain ⟨b, off, hA, hblt⟩ := hrd.form (by omega)
        subst hA
        obtain ⟨c0, c1, c2, c3⟩ := hrd.at_ hz
        have hzt := evCk_ok (HEV.out z (List.mem_of_getElem? hz))
        obtain ⟨hz1, hz2, _, _, _, _⟩ := hzt
        have HB1' : Hid (Below w1.heap.size w1 (wr.alloc (.cells #[.int .i64 z.time, .string z.kind, .string z.name, .int .i64 z.value] 31))) := Lib.hid (HB.out.alloc HB.out.size _)
        have HQ : Hid (Blk (wr.alloc (.cells #[.int .i64 z.time, .string z.kind, .string z.name, .int .i64 z.value] 31)) wr.heap.size 31 #[.int .i64 z.time, .string z.kind, .string z.name, .int .i64 z.value]) := Lib.hid (Blk.new _ _ _)
        have HGA : Hid (GS w1.heap.size (wr.alloc (.cells #[.int .i64 z.time, .string z.kind, .string z.name, .int .i64 z.value] 31)) u8 gs) := Lib.hid (HG.out.up ((Below.refl _ _).alloc (Nat.le_refl _) _))
        have hwz : w1.heap.size ≤ wr.heap.size := HB.out.size
        have hsu : ∀ g, u8.ownBlock = some g → g < wr.heap.size := fun g hg => (HG.out.out.lt g hg).2
        have hsx : ∀ x ∈ gs, ∀ g, x.val.ownBlock = some g → g < wr.heap.size := fun x hx g hg => ((HG.out.inn x hx).lt g hg).2
        have HSU := Lib.hid hsu
        have HSX := Lib.hid hsx
        have hkI : (k : Int) < (sn : Int) := by omega
        clear hsu hsx hAt
        by_cases hc : cuts s gap k = true
        · have HGN : Hid (grpTo s gap (k + 1) = pushLast (grpTo s gap k ++ [[]]) z) := Lib.hid (by simp only [grpTo]; rw [if_pos hc, HAT.out])
          have HCC := Lib.hid hc
          clear hc
          by_cases hk0 : k = 0
          · have hkn : ((k : Int) == 0) = true := by simp; omega
            clear hk0
            go_wp2_with fail
            go_quiet (fail)
            clear hkn c0 c1 c2 c3
            have HGQ : Hid (GS w1.heap.size ((wr.alloc (.cells #[.int .i64 z.time, .string z.kind, .string z.name, .int .i64 z.value] 31)).drewN nq) u8 gs) := Lib.hid (HGA.out.up (below_drewN (Below.refl _ _) _))
            have HQQ : Hid (Blk ((wr.alloc (.cells #[.int .i64 z.time, .string z.kind, .string z.name, .int .i64 z.value] 31)).drewN nq) wr.heap.size 31 #[.int .i64 z.time, .string z.kind, .string z.name, .int .i64 z.value]) := Lib.hid (HQ.out.drewN nq)
            have HBQ : Hid (Below w1.heap.size w1 ((wr.alloc (.cells #[.int .i64 z.time, .string z.kind, .string z.name, .int .i64 z.value] 31)).drewN nq)) := Lib.hid (below_drewN HB1'.out _)
            have hwq : wr.heap.size < ((wr.alloc (.cells #[.int .i64 z.time, .string z.kind, .string z.name, .int .i64 z.value] 31)).drewN nq).heap.size := by simp
            generalize hWq : (wr.alloc (.cells #[.int .i64 z.time, .string z.kind, .string z.name, .int .i64 z.value] 31)).drewN nq = Wq at *
            have HWq := Lib.hid hWq
            have hbq := HBQ.out.size
            clear hWq
            go_wp2_with (at_builtin; refine wpList_append_own_at _ rfl (.tmp 47) (.tmp 48) _ rfl w1.heap.size 22 iS _ 1 24 Tryd.underlying24 hiS hS0 hS1 hS2 rfl (by omega) u8 gs.length (gs.map Ge.val) rfl (HGQ.out.out.alloc _) ⟨_, 0, none⟩ 1 1 [.slice none 0 0] rfl rfl (cell_one_new _ _ _) ?j1 ?j2 ?j3 ?j4 ?_)
            case j1 => simp [Value.oneCell']
            case j2 => simp only [maxLen]; omega
            case j3 => omega
            case j4 => simp; omega
            intro v' W hown2 hgr2 hnil2 hat2
            obtain ⟨x, hxe⟩ : ∃ x : Ge, x = ⟨.slice none 0 0, []⟩ := ⟨_, rfl⟩
            have hVB : Below Wq.heap.size Wq (Wq.alloc (.cells #[.slice none 0 0] 22)) := (Below.refl _ _).alloc (Nat.le_refl _) _
            have hG2 := GS.more (HGQ.out.up hVB) hown2 hgr2 (by simpa using hat2)
            rw [← hxe] at hG2
            have HGX := Lib.hid hG2
            have hnu : some wr.heap.size ≠ u8.ownBlock := fun e => by have := HSU.out _ e.symm; omega
            have HQW : Hid (Blk W wr.heap.size 31 #[.int .i64 z.time, .string z.kind, .string z.name, .int .i64 z.value]) := Lib.hid ((HQQ.out.alloc _).grown hgr2 hnu)
            have HBW : Hid (Below w1.heap.size w1 W) := Lib.hid ((HBQ.out.trans (hVB.mono hbq)).grown hgr2 (by simp; omega) (fun kk hkk => (HGQ.out.out.lt kk hkk).1))
            have HNE : Hid (some wr.heap.size ≠ x.val.ownBlock) := Lib.hid (by rw [hxe]; simp [Value.ownBlock])
            have HEL : Hid (x.evs.length ≤ 256) := Lib.hid (by rw [hxe]; simp)
            have HXE : Hid (x.evs = []) := Lib.hid (by rw [hxe])
            clear hxe hVB hG2 hown2 hgr2 hat2 hnil2 hnu
            obtain ⟨g0, c0v, hv0, hg0b, hg0l, hg0c, hg0m, hcell0, hfr0⟩ := GS.last_cell HGX.out
            subst hv0
            obtain ⟨e0, e1, e2, e3, ef, elt⟩ := Ev.box (x := z) HQW.out
            have hown := HGX.out.inn x (by simp)
            have HOW := Lib.hid hown
            have hx0 : some g0 ≠ x.val.ownBlock := fun e => HGX.out.sep x (by simp) g0 e.symm (by simp [Value.ownBlock])
            have hx1 : some wr.heap.size ≠ x.val.ownBlock := HNE.out
            have hevl : x.evs.length ≤ 256 := HEL.out
            have hlast : IntKind.i64.wrap ((((gs.length + 1 : Nat)) : Int) - 1) = (gs.length : Int) := by
              rw [wrapK _ (by omega) (by omega)]; omega
            have hlast2 : IntKind.i64.wrap (((gs.length : Int) + 1) - 1) = (gs.length : Int) := by
              rw [show ((gs.length : Int) + 1) - 1 = (gs.length : Int) from by omega]; exact IntWalk.i64_in _ (by omega)
            have hlast3 : IntKind.i64.wrap (gs.length : Int) = (gs.length : Int) := IntWalk.i64_in _ (by omega)
            have hlI : (gs.length : Int) < ((gs.length + 1 : Nat) : Int) := by omega
            have hlI2 : (gs.length : Int) < (gs.length : Int) + 1 := by omega
            have hlI0 : (0 : Int) ≤ (gs.length : Int) := by omega
            have hbW := HBW.out.size
            clear hown
            go_wp2_with fail
            go_region_law
              (first
                | (refine step_app_d _ rfl (.tmp 59) (.tmp 61) 22 rfl 62 rfl w1.heap.size 31 iE _ 4 48 Tryd.underlying22 hiE hE0 hE1 hE2 rfl (by omega) x.val x.evs.length (x.evs.flatMap Ev.cells) rfl ?_ ⟨W.heap.size, 0, none⟩ 1 1 z.cells rfl rfl ?_ ?_ (by omega) ?_ ?_ ?_ ?_
                   · exact (HOW.out.alloc _)
                   · exact World.news_of_block (cs := z.cells.toArray) (t := 31) (fr := (0, 0)) (by exact heap_alloc_new W _)
                   · (intro u hu; exact one_ev [z] u (by simpa using hu))
                   · (simp only [maxLen]; omega)
                   · omega
                   · (simp; omega)
                   intro gA capA wA hownA hgrA hatA hltA
                   have y0 := (hgrA.cell_far ⟨g0, gs.length, none⟩ (by simp; omega) hx0)
                   have y1 := fun i => (hgrA.cell_far ⟨wr.heap.size, i, none⟩ (by simp; omega) hx1)
                   have y2 := (hgrA.frozen_far ⟨g0, gs.length, none⟩ (by simp; omega) hx0)))
            all_goals
              have hVB : Below W.heap.size W (W.alloc (.cells #[.int .i64 z.time, .string z.kind, .string z.name, .int .i64 z.value] 31)).drew := below_drew ((Below.refl _ _).alloc (Nat.le_refl _) _)
              have hp := GS.push (z := z) (HGX.out.up hVB) hownA hgrA hatA
              have hq : Below w1.heap.size w1 (wA.setCell ⟨g0, gs.length, none⟩ (.slice (some ⟨gA, 0, none⟩) (x.evs.length + 1) capA)) := ((HBW.out.trans (hVB.mono hbW)).grown hgrA (by simp; omega) (fun k hk => (HOW.out.lt k hk).1)).setCell hg0b _
              have HPP := Lib.hid hp
              have HQQ := Lib.hid hq
              clear hVB hp hq y0 y1 y2 hgrA hownA hatA
              go_wp2_with fail
              go_roundw
              case rel =>
                refine ⟨k + 1, gs ++ [⟨.slice (some ⟨gA, 0, none⟩) (x.evs.length + 1) capA, x.evs ++ [z]⟩], by omega, by go_num, HQQ.out, HPP.out, ?_⟩
                rw [HGN.out, ← HI.out]
                rw [HXE.out]; simp [pushLast]
              case measure => simp [intOf]; omega
          · have hk0' : 0 < k := by omega
            have hk1 : (1 : Int) ≤ (k : Int) := by omega
            have hkn : ((k : Int) == 0) = false := by simp; omega
            have hw1 : IntKind.i64.wrap ((k : Int) - 1) = (k : Int) - 1 := wrapK k hk0' (by omega)
            have hw2 : ((k : Int) - 1).toNat = k - 1 := by omega
            have hw3 : (k : Int) - 1 < (sn : Int) := by omega
            obtain ⟨y, hy⟩ : ∃ y, s[k - 1]? = some y := ⟨_, List.getElem?_eq_getElem (by have := HLN.out; omega)⟩
            have hAy : evAt s (k - 1) = y := by unfold evAt; rw [List.getD_eq_getElem?_getD, hy]; rfl
            have hyt := evCk_ok (HEV.out y (List.mem_of_getElem? hy))
            obtain ⟨hy1, hy2, _, _, _, _⟩ := hyt
            have hcmp : y.time + gap < z.time := by
              have := HCC.out
              unfold cuts at this
              rw [decide_eq_true_eq, hAy, HAT.out] at this
              exact this.resolve_left hk0
            obtain ⟨d0, _, _, _⟩ := hrd.at_ hy
            have hw4 : IntKind.i64.wrap (y.time + gap) = y.time + gap := IntWalk.i64_in _ (by omega)
            have hcmp2 : decide (y.time + gap < z.time) = true := by simpa using hcmp
            clear hy hAy
            go_wp2_with fail
            go_quiet (fail)
            clear c0 c1 c2 c3 d0 hw1 hw2 hw3 hw4 hkn hk1 hcmp hcmp2
            have HGQ : Hid (GS w1.heap.size ((wr.alloc (.cells #[.int .i64 z.time, .string z.kind, .string z.name, .int .i64 z.value] 31)).drewN nq) u8 gs) := Lib.hid (HGA.out.up (below_drewN (Below.refl _ _) _))
            have HQQ : Hid (Blk ((wr.alloc (.cells #[.int .i64 z.time, .string z.kind, .string z.name, .int .i64 z.value] 31)).drewN nq) wr.heap.size 31 #[.int .i64 z.time, .string z.kind, .string z.name, .int .i64 z.value]) := Lib.hid (HQ.out.drewN nq)
            have HBQ : Hid (Below w1.heap.size w1 ((wr.alloc (.cells #[.int .i64 z.time, .string z.kind, .string z.name, .int .i64 z.value] 31)).drewN nq)) := Lib.hid (below_drewN HB1'.out _)
            have hwq : wr.heap.size < ((wr.alloc (.cells #[.int .i64 z.time, .string z.kind, .string z.name, .int .i64 z.value] 31)).drewN nq).heap.size := by simp
            generalize hWq : (wr.alloc (.cells #[.int .i64 z.time, .string z.kind, .string z.name, .int .i64 z.value] 31)).drewN nq = Wq at *
            have HWq := Lib.hid hWq
            have hbq := HBQ.out.size
            clear hWq
            go_wp2_with (at_builtin; refine wpList_append_own_at _ rfl (.tmp 47) (.tmp 48) _ rfl w1.heap.size 22 iS _ 1 24 Tryd.underlying24 hiS hS0 hS1 hS2 rfl (by omega) u8 gs.length (gs.map Ge.val) rfl (HGQ.out.out.alloc _) ⟨_, 0, none⟩ 1 1 [.slice none 0 0] rfl rfl (cell_one_new _ _ _) ?j1 ?j2 ?j3 ?j4 ?_)
            case j1 => simp [Value.oneCell']
            case j2 => simp only [maxLen]; omega
            case j3 => omega
            case j4 => simp; omega
            intro v' W hown2 hgr2 hnil2 hat2
            obtain ⟨x, hxe⟩ : ∃ x : Ge, x = ⟨.slice none 0 0, []⟩ := ⟨_, rfl⟩
            have hVB : Below Wq.heap.size Wq (Wq.alloc (.cells #[.slice none 0 0] 22)) := (Below.refl _ _).alloc (Nat.le_refl _) _
            have hG2 := GS.more (HGQ.out.up hVB) hown2 hgr2 (by simpa using hat2)
            rw [← hxe] at hG2
            have HGX := Lib.hid hG2
            have hnu : some wr.heap.size ≠ u8.ownBlock := fun e => by have := HSU.out _ e.symm; omega
            have HQW : Hid (Blk W wr.heap.size 31 #[.int .i64 z.time, .string z.kind, .string z.name, .int .i64 z.value]) := Lib.hid ((HQQ.out.alloc _).grown hgr2 hnu)
            have HBW : Hid (Below w1.heap.size w1 W) := Lib.hid ((HBQ.out.trans (hVB.mono hbq)).grown hgr2 (by simp; omega) (fun kk hkk => (HGQ.out.out.lt kk hkk).1))
            have HNE : Hid (some wr.heap.size ≠ x.val.ownBlock) := Lib.hid (by rw [hxe]; simp [Value.ownBlock])
            have HEL : Hid (x.evs.length ≤ 256) := Lib.hid (by rw [hxe]; simp)
            have HXE : Hid (x.evs = []) := Lib.hid (by rw [hxe])
            clear hxe hVB hG2 hown2 hgr2 hat2 hnil2 hnu
            obtain ⟨g0, c0v, hv0, hg0b, hg0l, hg0c, hg0m, hcell0, hfr0⟩ := GS.last_cell HGX.out
            subst hv0
            obtain ⟨e0, e1, e2, e3, ef, elt⟩ := Ev.box (x := z) HQW.out
            have hown := HGX.out.inn x (by simp)
            have HOW := Lib.hid hown
            have hx0 : some g0 ≠ x.val.ownBlock := fun e => HGX.out.sep x (by simp) g0 e.symm (by simp [Value.ownBlock])
            have hx1 : some wr.heap.size ≠ x.val.ownBlock := HNE.out
            have hevl : x.evs.length ≤ 256 := HEL.out
            have hlast : IntKind.i64.wrap ((((gs.length + 1 : Nat)) : Int) - 1) = (gs.length : Int) := by
              rw [wrapK _ (by omega) (by omega)]; omega
            have hlast2 : IntKind.i64.wrap (((gs.length : Int) + 1) - 1) = (gs.length : Int) := by
              rw [show ((gs.length : Int) + 1) - 1 = (gs.length : Int) from by omega]; exact IntWalk.i64_in _ (by omega)
            have hlast3 : IntKind.i64.wrap (gs.length : Int) = (gs.length : Int) := IntWalk.i64_in _ (by omega)
            have hlI : (gs.length : Int) < ((gs.length + 1 : Nat) : Int) := by omega
            have hlI2 : (gs.length : Int) < (gs.length : Int) + 1 := by omega
            have hlI0 : (0 : Int) ≤ (gs.length : Int) := by omega
            have hbW := HBW.out.size
            clear hown
            go_wp2_with fail
            go_region_law
              (first
                | (refine step_app_d _ rfl (.tmp 59) (.tmp 61) 22 rfl 62 rfl w1.heap.size 31 iE _ 4 48 Tryd.underlying22 hiE hE0 hE1 hE2 rfl (by omega) x.val x.evs.length (x.evs.flatMap Ev.cells) rfl ?_ ⟨W.heap.size, 0, none⟩ 1 1 z.cells rfl rfl ?_ ?_ (by omega) ?_ ?_ ?_ ?_
                   · exact (HOW.out.alloc _)
                   · exact World.news_of_block (cs := z.cells.toArray) (t := 31) (fr := (0, 0)) (by exact heap_alloc_new W _)
                   · (intro u hu; exact one_ev [z] u (by simpa using hu))
                   · (simp only [maxLen]; omega)
                   · omega
                   · (simp; omega)
                   intro gA capA wA hownA hgrA hatA hltA
                   have y0 := (hgrA.cell_far ⟨g0, gs.length, none⟩ (by simp; omega) hx0)
                   have y1 := fun i => (hgrA.cell_far ⟨wr.heap.size, i, none⟩ (by simp; omega) hx1)
                   have y2 := (hgrA.frozen_far ⟨g0, gs.length, none⟩ (by simp; omega) hx0)))
            all_goals
              have hVB : Below W.heap.size W (W.alloc (.cells #[.int .i64 z.time, .string z.kind, .string z.name, .int .i64 z.value] 31)).drew := below_drew ((Below.refl _ _).alloc (Nat.le_refl _) _)
              have hp := GS.push (z := z) (HGX.out.up hVB) hownA hgrA hatA
              have hq : Below w1.heap.size w1 (wA.setCell ⟨g0, gs.length, none⟩ (.slice (some ⟨gA, 0, none⟩) (x.evs.length + 1) capA)) := ((HBW.out.trans (hVB.mono hbW)).grown hgrA (by simp; omega) (fun k hk => (HOW.out.lt k hk).1)).setCell hg0b _
              have HPP := Lib.hid hp
              have HQQ := Lib.hid hq
              clear hVB hp hq y0 y1 y2 hgrA hownA hatA
              go_wp2_with fail
              go_roundw
              case rel =>
                refine ⟨k + 1, gs ++ [⟨.slice (some ⟨gA, 0, none⟩) (x.evs.length + 1) capA, x.evs ++ [z]⟩], by omega, by go_num, HQQ.out, HPP.out, ?_⟩
                rw [HGN.out, ← HI.out]
                rw [HXE.out]; simp [pushLast]
              case measure => simp [intOf]; omega
        · have hk0 : 0 < k := by
            rcases Nat.eq_zero_or_pos k with h | h
            · subst h; exact absurd (by simp [cuts]) hc
            · exact h
          have HGN : Hid (grpTo s gap (k + 1) = pushLast (grpTo s gap k) z) := Lib.hid (by simp only [grpTo]; rw [if_neg hc, HAT.out])
          obtain ⟨y, hy⟩ : ∃ y, s[k - 1]? = some y := ⟨_, List.getElem?_eq_getElem (by have := HLN.out; omega)⟩
          have hAy : evAt s (k - 1) = y := by unfold evAt; rw [List.getD_eq_getElem?_getD, hy]; rfl
          have hyt := evCk_ok (HEV.out y (List.mem_of_getElem? hy))
          obtain ⟨hy1, hy2, _, _, _, _⟩ := hyt
          have hcmp : ¬ (y.time + gap < z.time) := fun h => hc (by unfold cuts; rw [decide_eq_true_eq, hAy, HAT.out]; exact .inr h)
          obtain ⟨d0, _, _, _⟩ := hrd.at_ hy
          have hk1 : (1 : Int) ≤ (k : Int) := by omega
          have hkn : ((k : Int) == 0) = false := by simp; omega
          have hw1 : IntKind.i64.wrap ((k : Int) - 1) = (k : Int) - 1 := wrapK k hk0 (by omega)
          have hw2 : ((k : Int) - 1).toNat = k - 1 := by omega
          have hw3 : (k : Int) - 1 < (sn : Int) := by omega
          have hw4 : IntKind.i64.wrap (y.time + gap) = y.time + gap := IntWalk.i64_in _ (by omega)
          have hcmp2 : decide (y.time + gap < z.time) = false := by simpa using hcmp
          obtain ⟨gsn, x, hgx⟩ : ∃ gsn x, gs = gsn ++ [x] := ⟨gs.dropLast, gs.getLast (by have := HGP.out hk0; intro h; rw [h] at this; simp at this), (List.dropLast_concat_getLast _).symm⟩
          subst hgx
          have hgl1 : gsn.length + 1 ≤ k := by simpa using hgl
          clear hgl
          clear hy hcmp hc hAy
          go_wp2_with fail
          go_quiet (fail)
          have HGX : Hid (GS w1.heap.size ((wr.alloc (.cells #[.int .i64 z.time, .string z.kind, .string z.name, .int .i64 z.value] 31)).drewN nq) u8 (gsn ++ [x])) := Lib.hid (HGA.out.up (below_drewN (Below.refl _ _) _))
          have HQW : Hid (Blk ((wr.alloc (.cells #[.int .i64 z.time, .string z.kind, .string z.name, .int .i64 z.value] 31)).drewN nq) wr.heap.size 31 #[.int .i64 z.time, .string z.kind, .string z.name, .int .i64 z.value]) := Lib.hid (HQ.out.drewN nq)
          have HBW : Hid (Below w1.heap.size w1 ((wr.alloc (.cells #[.int .i64 z.time, .string z.kind, .string z.name, .int .i64 z.value] 31)).drewN nq)) := Lib.hid (below_drewN HB1'.out _)
          have HNE : Hid (some wr.heap.size ≠ x.val.ownBlock) := Lib.hid fun e => by have := HSX.out x (by simp) _ e.symm; omega
          have HEL : Hid (x.evs.length ≤ 256) := Lib.hid (by
            have h1 : x.evs ∈ grpTo s gap k := by rw [← HI.out]; simp
            have := grpTo_mem s gap k (by have := HLN.out; omega) h1
            omega)
          generalize hW : (wr.alloc (.cells #[.int .i64 z.time, .string z.kind, .string z.name, .int .i64 z.value] 31)).drewN nq = W at *
          have HW := Lib.hid hW
          clear hW c0 c1 c2 c3 d0 hw1 hw2 hw3 hw4 hkn hk1
          obtain ⟨g0, c0v, hv0, hg0b, hg0l, hg0c, hg0m, hcell0, hfr0⟩ := GS.last_cell HGX.out
          subst hv0
          obtain ⟨e0, e1, e2, e3, ef, elt⟩ := Ev.box (x := z) HQW.out
          have hown := HGX.out.inn x (by simp)
          have HOW := Lib.hid hown
          have hx0 : some g0 ≠ x.val.ownBlock := fun e => HGX.out.sep x (by simp) g0 e.symm (by simp [Value.ownBlock])
          have hx1 : some wr.heap.size ≠ x.val.ownBlock := HNE.out
          have hevl : x.evs.length ≤ 256 := HEL.out
          have hlast : IntKind.i64.wrap ((((gsn.length + 1 : Nat)) : Int) - 1) = (gsn.length : Int) := by
            rw [wrapK _ (by omega) (by omega)]; omega
          have hlast2 : IntKind.i64.wrap (((gsn.length : Int) + 1) - 1) = (gsn.length : Int) := by
            rw [show ((gsn.length : Int) + 1) - 1 = (gsn.length : Int) from by omega]; exact IntWalk.i64_in _ (by omega)
          have hlast3 : IntKind.i64.wrap (gsn.length : Int) = (gsn.length : Int) := IntWalk.i64_in _ (by omega)
          have hlI : (gsn.length : Int) < ((gsn.length + 1 : Nat) : Int) := by omega
          have hlI2 : (gsn.length : Int) < (gsn.length : Int) + 1 := by omega
          have hlI0 : (0 : Int) ≤ (gsn.length : Int) := by omega
          have hbW := HBW.out.size
          clear hown
          go_wp2_with fail
          go_region_law
            (first
              | (refine step_app_d _ rfl (.tmp 59) (.tmp 61) 22 rfl 62 rfl w1.heap.size 31 iE _ 4 48 Tryd.underlying22 hiE hE0 hE1 hE2 rfl (by omega) x.val x.evs.length (x.evs.flatMap Ev.cells) rfl ?_ ⟨W.heap.size, 0, none⟩ 1 1 z.cells rfl rfl ?_ ?_ (by omega) ?_ ?_ ?_ ?_
                 · exact (HOW.out.alloc _)
                 · exact World.news_of_block (cs := z.cells.toArray) (t := 31) (fr := (0, 0)) (by exact heap_alloc_new W _)
                 · (intro u hu; exact one_ev [z] u (by simpa using hu))
                 · (simp only [maxLen]; omega)
                 · omega
                 · (simp; omega)
                 intro gA capA wA hownA hgrA hatA hltA
                 have y0 := (hgrA.cell_far ⟨g0, gsn.length, none⟩ (by simp; omega) hx0)
                 have y1 := fun i => (hgrA.cell_far ⟨wr.heap.size, i, none⟩ (by simp; omega) hx1)
                 have y2 := (hgrA.frozen_far ⟨g0, gsn.length, none⟩ (by simp; omega) hx0)))
          all_goals
            have hVB : Below W.heap.size W (W.alloc (.cells #[.int .i64 z.time, .string z.kind, .string z.name, .int .i64 z.value] 31)).drew := below_drew ((Below.refl _ _).alloc (Nat.le_refl _) _)
            have hp := GS.push (z := z) (HGX.out.up hVB) hownA hgrA hatA
            have hq : Below w1.heap.size w1 (wA.setCell ⟨g0, gsn.length, none⟩ (.slice (some ⟨gA, 0, none⟩) (x.evs.length + 1) capA)) := ((HBW.out.trans (hVB.mono hbW)).grown hgrA (by simp; omega) (fun k hk => (HOW.out.lt k hk).1)).setCell hg0b _
            have HPP := Lib.hid hp
            have HQQ := Lib.hid hq
            clear hVB hp hq y0 y1 y2 hgrA hownA hatA
            go_wp2_with fail
            go_roundw
            case rel =>
              refine ⟨k + 1, gsn ++ [⟨.slice (some ⟨gA, 0, none⟩) (x.evs.length + 1) capA, x.evs ++ [z]⟩], by omega, by go_num, HQQ.out, HPP.out, ?_⟩
              rw [HGN.out, ← HI.out]
              simp [pushLast]
            case measure => simp [intOf]; omega
      · have hkk : k = sn := by omega
        subst hkk
        clear hrd
        go_wp2_with fail
        go_ret2
        rw [HP.out]
        refine ⟨HB1.out.trans (HB.out.mono HB1.out.size), .inr (.inr ⟨HCK.out, by omega, by omega, u8, gs, rfl, ?_, ?_⟩)⟩
        · have hg := HG.out
          exact ⟨own_mono hg.out hbase, fun x hx => own_mono (hg.inn x hx) hbase, hg.sep, hg.dis⟩
        · rw [HI.out]; congr 1; have := HSL.out; have := HLN.out; omega
end Go.Proofs.YtmmkkkakbbidjaaDoor
