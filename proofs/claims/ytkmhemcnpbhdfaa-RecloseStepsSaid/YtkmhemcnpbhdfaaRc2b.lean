/- Automatic reclosing: Tick. -/
import Derived.Test.YtkmhemcnpbhdfaaRc2
namespace Go.Proofs.Ytkmhemcnpbhdfaa
open Go.ChangeShapes Go.WideShapes Go.ChangeAt Go.RowKit
set_option linter.unusedVariables false
attribute [local go_sem ↓] execOp_call_val
attribute [local go_sem] callVal_func setCell_drewN alloc_drewN Rc.cells

/-! Tick -/
def Rc.ticks (x : Rc) (dead : List Int) (t : Int) : Bool := decide ((x.at_ t).state = 1 ∧ (x.at_ t).since + dead.getD (x.at_ t).att 0 ≤ t)
def Rc.tick (x : Rc) (dead : List Int) (t : Int) : Rc := if x.ticks dead t then { x.at_ t with att := (x.at_ t).att + 1, state := 2, since := t } else x.at_ t
theorem Rc.Ok.tick {x : Rc} {dead : List Int} (ok : x.Ok dead) {t : Int} (h1 : x.now ≤ t) (h2 : t ≤ 1000000000) : (x.tick dead t).Ok dead := by
  have hn := at_now x t
  have h0 : 0 ≤ t := by have := ok.s0; have := ok.sn; omega
  have okt := ok.at_ h1 h2
  unfold Rc.tick
  split
  · rename_i hk
    unfold Rc.ticks at hk
    simp at hk
    have hw := okt.wt hk.1
    obtain ⟨_, _, hd, _, _, _, _, _, ha, _⟩ := okt
    exact ⟨by assumption, by assumption, hd, by assumption, by assumption, h0, (by dsimp only; omega), (by dsimp only; omega), hw, fun h => by cases h⟩
  · exact okt

set_option maxHeartbeats 1000000 in
theorem rtick_any (p : Nat) (x : Rc) (A : Option Addr) (n c : Nat) (dead : List Int) (w : World) (hD : Dev w p x A n c dead) (t : Int) (ht : x.now ≤ t) (ht2 : t ≤ 1000000000) :
    Calls Try.prog 37 #[.pointer (some ⟨p, 0, none⟩), .int .i64 t] w fun e w' => e = .returned (.tuple #[.int .i64 (tickAct (x.ticks dead t)), .int .i64 0]) ∧ w.grownBy w' (some p) ∧ Dev w' p (x.tick dead t) A n c dead := by
  have hlt := hD.blk.lt
  have okt := Lib.hid (hD.ok.tick ht ht2)
  have oka := hD.ok.at_ ht ht2
  obtain ⟨_, hn4, hln⟩ := hD.n4
  obtain ⟨b, off, rfl, hbp⟩ := hD.form
  have hD0 := Lib.hid hD
  by_cases hs : (x.at_ t).state = 1
  · have hw := oka.wt hs
    have hs1 : ((x.at_ t).state == 1) = true := by simpa using hs
    obtain ⟨d, hd⟩ : ∃ d, dead[(x.at_ t).att]? = some d := ⟨_, List.getElem?_eq_getElem hw⟩
    have hdb := oka.ds d (List.mem_of_getElem? hd)
    have hgd : dead.getD (x.at_ t).att 0 = d := by rw [List.getD_eq_getElem?_getD, hd]; rfl
    have hs0 := oka.s0
    have hs2 := oka.sn
    have hs3 := oka.n1
    have hwn : (x.at_ t).att < n := by omega
    obtain ⟨hdb1, hdb2⟩ := hdb
    have HD := Lib.hid hd
    have HG := Lib.hid hgd
    have HS := Lib.hid hs
    have HLN := Lib.hid hln
    clear hd hgd hs hD hln oka
    have hwr : IntKind.i64.wrap ((x.at_ t).since + d) = (x.at_ t).since + d := IntWalk.i64_in _ (by omega)
    have hwI : ((x.at_ t).att : Int) < (n : Int) := by omega
    have hwI0 : (0 : Int) ≤ ((x.at_ t).att : Int) := by omega
    by_cases hr : (x.at_ t).since + d ≤ t
    · have htk : Hid (x.ticks dead t = true) := Lib.hid (by unfold Rc.ticks; rw [HG.out, HS.out]; simpa using hr)
      have hfin : Hid (x.tick dead t = { x.at_ t with att := (x.at_ t).att + 1, state := 2, since := t }) := Lib.hid (by unfold Rc.tick; rw [if_pos htk.out])
      go_enter Try.func37, Try.ntmps37
      go_wp2_with fail
      refine (rat_any p x _ n c dead _ hD0.out _ ht ht2).mono ?_
      rintro e w1 ⟨rfl, hb1⟩
      have hB1 := hD0.out.blk.below hb1 hlt
      obtain ⟨c0, c1, c2, c3, c4, c5, cf, hlt1⟩ := rc_facts hB1
      have hcell := (hD0.out.below hb1).rd.at_ HD.out
      have hb1lt : b < w1.heap.size := by omega
      have HB1 := Lib.hid hB1
      clear hB1
      go_wp2_with fail
      go_quiet (fail)
      go_wp2_with fail
      go_ret2
      have hg := only_alloc (only_set6 (v0 := .slice (some ⟨b, off, none⟩) n c) (v1 := .int .i64 (x.at_ t).reclaim) (v2 := .int .i64 2) (v3 := .int .i64 t) (v4 := .int .i64 ((x.at_ t).att + 1)) (v5 := .int .i64 (x.at_ t).now) (only_of_below hb1 (some p))) (.cells #[.slice (some ⟨b, off, none⟩) n c, .int .i64 (x.at_ t).reclaim, .int .i64 2, .int .i64 t, .int .i64 ((x.at_ t).att + 1), .int .i64 (x.at_ t).now] 85)
      refine ⟨by rw [htk.out]; rfl, only_drewN hg nq, hD0.out.upd (only_drewN hg nq) ?_ okt.out⟩
      rw [hfin.out]
      exact ((blk_set6 HB1.out).alloc _).drewN nq
    · have htk : Hid (x.ticks dead t = false) := Lib.hid (by unfold Rc.ticks; rw [HG.out, HS.out]; simpa using hr)
      have hfin : Hid (x.tick dead t = x.at_ t) := Lib.hid (by unfold Rc.tick; rw [htk.out]; rfl)
      go_enter Try.func37, Try.ntmps37
      go_wp2_with fail
      refine (rat_any p x _ n c dead _ hD0.out _ ht ht2).mono ?_
      rintro e w1 ⟨rfl, hb1⟩
      have hB1 := hD0.out.blk.below hb1 hlt
      obtain ⟨c0, c1, c2, c3, c4, c5, cf, hlt1⟩ := rc_facts hB1
      have hcell := (hD0.out.below hb1).rd.at_ HD.out
      have hb1lt : b < w1.heap.size := by omega
      have HB1 := Lib.hid hB1
      clear hB1
      go_wp2_with fail
      go_quiet (fail)
      go_wp2_with fail
      go_ret2
      have hg := only_alloc (only_set6 (v0 := .slice (some ⟨b, off, none⟩) n c) (v1 := .int .i64 (x.at_ t).reclaim) (v2 := .int .i64 (x.at_ t).state) (v3 := .int .i64 (x.at_ t).since) (v4 := .int .i64 (x.at_ t).att) (v5 := .int .i64 (x.at_ t).now) (only_of_below hb1 (some p))) (.cells #[.slice (some ⟨b, off, none⟩) n c, .int .i64 (x.at_ t).reclaim, .int .i64 (x.at_ t).state, .int .i64 (x.at_ t).since, .int .i64 (x.at_ t).att, .int .i64 (x.at_ t).now] 85)
      refine ⟨by rw [htk.out]; rfl, only_drewN hg nq, hD0.out.upd (only_drewN hg nq) ?_ okt.out⟩
      rw [hfin.out]
      exact ((blk_set6 HB1.out).alloc _).drewN nq
  · have hs1 : ((x.at_ t).state == 1) = false := by simpa using hs
    have htk : Hid (x.ticks dead t = false) := Lib.hid (by unfold Rc.ticks; simp [hs])
    have hfin : Hid (x.tick dead t = x.at_ t) := Lib.hid (by unfold Rc.tick; rw [htk.out]; rfl)
    have HS := Lib.hid hs
    clear hs oka hD hln
    go_enter Try.func37, Try.ntmps37
    go_wp2_with fail
    refine (rat_any p x _ n c dead _ hD0.out _ ht ht2).mono ?_
    rintro e w1 ⟨rfl, hb1⟩
    have hB1 := hD0.out.blk.below hb1 hlt
    obtain ⟨c0, c1, c2, c3, c4, c5, cf, hlt1⟩ := rc_facts hB1
    have HB1 := Lib.hid hB1
    clear hB1
    go_wp2_with fail
    go_quiet (fail)
    go_wp2_with fail
    go_ret2
    have hg := only_alloc (only_set6 (v0 := .slice (some ⟨b, off, none⟩) n c) (v1 := .int .i64 (x.at_ t).reclaim) (v2 := .int .i64 (x.at_ t).state) (v3 := .int .i64 (x.at_ t).since) (v4 := .int .i64 (x.at_ t).att) (v5 := .int .i64 (x.at_ t).now) (only_of_below hb1 (some p))) (.cells #[.slice (some ⟨b, off, none⟩) n c, .int .i64 (x.at_ t).reclaim, .int .i64 (x.at_ t).state, .int .i64 (x.at_ t).since, .int .i64 (x.at_ t).att, .int .i64 (x.at_ t).now] 85)
    refine ⟨by rw [htk.out]; rfl, only_drewN hg nq, hD0.out.upd (only_drewN hg nq) ?_ okt.out⟩
    rw [hfin.out]
    exact ((blk_set6 HB1.out).alloc _).drewN nq

end Go.Proofs.Ytkmhemcnpbhdfaa
