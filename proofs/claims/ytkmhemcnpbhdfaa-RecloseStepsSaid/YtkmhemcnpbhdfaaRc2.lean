/- Automatic reclosing: New, Trip, Tick, Reset, Next. -/
import Derived.Test.YtkmhemcnpbhdfaaRc1
namespace Go.Proofs.Ytkmhemcnpbhdfaa
open Go.ChangeShapes Go.WideShapes Go.ChangeAt Go.RowKit
set_option linter.unusedVariables false
attribute [local go_sem ↓] execOp_call_val
attribute [local go_sem] callVal_func setCell_drewN alloc_drewN Rc.cells

theorem Dev.upd {w w' : World} {p : Nat} {x y : Rc} {A : Option Addr} {n c : Nat} {dead : List Int} (h : Dev w p x A n c dead) (hg : w.grownBy w' (some p)) (hB : Blk w' p 85 (y.cells A n c)) (ok : y.Ok dead) : Dev w' p y A n c dead :=
  ⟨hB, Rd.grownP h.rd (Nat.le_of_lt h.blk.lt) hg, ok⟩

set_option maxHeartbeats 1000000 in
theorem rnew_err (A : Option Addr) (n c : Nat) (dead : List Int) (reclaim : Int) (w : World) (hr : RdI w w.heap.size A n dead) (hn : n ≤ 9223372036854775807) (h : ckR dead reclaim ≠ 0) :
    Calls Try.prog 35 #[.agg #[.slice A n c, .int .i64 reclaim]] w fun e w' => e = .returned (.tuple #[.pointer none, .int .i64 (ckR dead reclaim)]) ∧ Below w.heap.size w w' := by
  have h1 : (ckR dead reclaim != 0) = true := by simpa using h
  clear h
  have K0 : Below w.heap.size w (w.alloc (.cells #[.slice A n c, .int .i64 reclaim] 41)) := (Below.refl _ _).alloc (Nat.le_refl _) _
  go_enter Try.func35, Try.ntmps35
  go_wp2_with fail
  refine (ckR_any _ _ _ _ _ _ ((hr.below K0 (Nat.le_refl _)).more K0.size) hn).mono ?_
  rintro e w1 ⟨rfl, hb1⟩
  go_wp2_with fail
  go_ret2
  exact ⟨rfl, K0.trans (hb1.mono K0.size)⟩

set_option maxHeartbeats 1000000 in
theorem rnew_any (A : Option Addr) (n c : Nat) (dead : List Int) (reclaim : Int) (w : World) (hr : RdI w w.heap.size A n dead) (hn : n ≤ 9223372036854775807) (h : ckR dead reclaim = 0) :
    Calls Try.prog 35 #[.agg #[.slice A n c, .int .i64 reclaim]] w fun e w' => ∃ p g cap, e = .returned (.tuple #[.pointer (some ⟨p, 0, none⟩), .int .i64 0]) ∧ w.heap.size ≤ p ∧ Dev w' p ⟨reclaim, 0, 0, 0, 0⟩ (some ⟨g, 0, none⟩) n cap dead ∧ Below w.heap.size w w' := by
  obtain ⟨q1, q2, q3, q4, q5⟩ := ckR_ok h
  have hlen := hr.len
  have H := Lib.hid h
  clear h
  have K0 : Below w.heap.size w (w.alloc (.cells #[.slice A n c, .int .i64 reclaim] 41)) := (Below.refl _ _).alloc (Nat.le_refl _) _
  have HR := Lib.hid ((hr.below K0 (Nat.le_refl _)).more K0.size)
  have HK0 := Lib.hid K0
  have HL := Lib.hid hlen
  have hn4 : n ≤ 4 := by omega
  have hn1 : 0 < n := by omega
  obtain ⟨b, off, rfl, hblt, _⟩ := hr.2 hn1
  clear K0 hlen
  go_enter Try.func35, Try.ntmps35
  go_wp2_with fail
  refine (ckR_any _ _ _ dead _ _ HR.out hn).mono ?_
  rw [H.out]
  rintro e w1 ⟨rfl, k1⟩
  have K1 := HK0.out.trans (k1.mono HK0.out.size)
  have q1' := (Blk.new _ _ _).below k1 (by simp)
  obtain ⟨c0, c1, cf, hlt1⟩ := rule_facts q1'
  have Q1 := Lib.hid q1'
  clear k1 q1'
  go_wp2_with fail
  go_region_with (go_at_call 54; refine (cloneI b off n c dead _ ((hr.below (below_drew K1) (Nat.le_refl _)).more K1.size) hn1 (by omega)).mono ?_; rintro e w2 ⟨v, rfl, hown, k2⟩; have K2 := (below_drew K1).trans (k2.mono K1.size); obtain ⟨g, cap, hv, hg1, hg2⟩ := World.ownsRow.form hown hn1; subst hv; have q2' := Q1.out.drew.below k2 hlt1; obtain ⟨d0, d1, df, hlt2⟩ := rule_facts q2'; have HO := Lib.hid hown; clear q2' hown)
  all_goals
    go_wp2_with fail
    go_ret2
    refine ⟨_, g, cap, rfl, K2.size, ⟨Blk.new _ _ _, ?_, ⟨q1, q2, q3, q4, q5, by simp, by simp, by simp, by simp, fun h => by cases h⟩⟩, K2.alloc K2.size _⟩
    exact (rdI_own HO.out).below ((Below.refl _ _).alloc (Nat.le_refl _) _) (Nat.le_refl _)

/-! Trip -/
def tripAct (a L : Nat) : Int := if a = L then 2 else 0
def tickAct (b : Bool) : Int := if b then 1 else 0
def Rc.trip (x : Rc) (L : Nat) (t : Int) : Rc := { x.at_ t with since := t, state := if (x.at_ t).att = L then 3 else 1 }
theorem at_now (x : Rc) (t : Int) : (x.at_ t).now = t := by unfold Rc.at_; split <;> rfl
theorem Rc.Ok.trip {x : Rc} {dead : List Int} (ok : x.Ok dead) {t : Int} (h1 : x.now ≤ t) (h2 : t ≤ 1000000000) : (x.trip dead.length t).Ok dead := by
  have hn := at_now x t
  have h0 : 0 ≤ t := by have := ok.s0; have := ok.sn; omega
  obtain ⟨_, _, hd, _, _, _, _, _, ha, _⟩ := ok.at_ h1 h2
  refine ⟨by assumption, by assumption, hd, by assumption, by assumption, h0, (by unfold Rc.trip; dsimp only; omega), (by unfold Rc.trip; dsimp only; omega), ha, fun h => ?_⟩
  unfold Rc.trip at h ⊢
  dsimp only at h ⊢
  split at h
  · cases h
  · omega

theorem rtrip_early (p : Nat) (x : Rc) (A : Option Addr) (n c : Nat) (dead : List Int) (w : World) (hD : Dev w p x A n c dead) (t : Int) (ht : t < x.now ∨ 1000000000 < t) :
    Calls Try.prog 36 #[.pointer (some ⟨p, 0, none⟩), .int .i64 t] w fun e w' => e = .returned (.tuple #[.int .i64 0, .int .i64 12]) ∧ Below w.heap.size w w' := by
  have hlt := hD.blk.lt
  go_enter Try.func36, Try.ntmps36
  go_wp2_with fail
  refine (rat_early p x A n c dead _ hD _ ht).mono ?_
  rintro e w1 ⟨rfl, hb1⟩
  go_wp2_with fail
  go_ret2
  exact ⟨rfl, hb1.alloc hb1.size _⟩

theorem rtrip_state (p : Nat) (x : Rc) (A : Option Addr) (n c : Nat) (dead : List Int) (w : World) (hD : Dev w p x A n c dead) (t : Int) (ht : x.now ≤ t) (ht2 : t ≤ 1000000000) (hs : (x.at_ t).state = 1 ∨ (x.at_ t).state = 3) :
    Calls Try.prog 36 #[.pointer (some ⟨p, 0, none⟩), .int .i64 t] w fun e w' => e = .returned (.tuple #[.int .i64 0, .int .i64 11]) ∧ Below w.heap.size w w' := by
  have hlt := hD.blk.lt
  rcases hs with hs | hs
  · have hs1 : ((x.at_ t).state == 1) = true := by simpa using hs
    have HS := Lib.hid hs
    clear hs
    go_enter Try.func36, Try.ntmps36
    go_wp2_with fail
    refine (rat_any p x A n c dead _ hD _ ht ht2).mono ?_
    rintro e w1 ⟨rfl, hb1⟩
    go_wp2_with fail
    go_ret2
    exact ⟨rfl, hb1.alloc hb1.size _⟩
  · have hs1 : ((x.at_ t).state == 1) = false := by rw [hs]; rfl
    have hs3 : ((x.at_ t).state == 3) = true := by simpa using hs
    have HS := Lib.hid hs
    clear hs
    go_enter Try.func36, Try.ntmps36
    go_wp2_with fail
    refine (rat_any p x A n c dead _ hD _ ht ht2).mono ?_
    rintro e w1 ⟨rfl, hb1⟩
    go_wp2_with fail
    go_ret2
    exact ⟨rfl, hb1.alloc hb1.size _⟩

set_option maxHeartbeats 1000000 in
theorem rtrip_any (p : Nat) (x : Rc) (A : Option Addr) (n c : Nat) (dead : List Int) (w : World) (hD : Dev w p x A n c dead) (t : Int) (ht : x.now ≤ t) (ht2 : t ≤ 1000000000) (hs : (x.at_ t).state = 0 ∨ (x.at_ t).state = 2) :
    Calls Try.prog 36 #[.pointer (some ⟨p, 0, none⟩), .int .i64 t] w fun e w' => e = .returned (.tuple #[.int .i64 (tripAct (x.at_ t).att dead.length), .int .i64 0]) ∧ w.grownBy w' (some p) ∧ Dev w' p (x.trip dead.length t) A n c dead := by
  have hlt := hD.blk.lt
  have hs1 : ((x.at_ t).state == 1) = false := by rcases hs with h | h <;> rw [h] <;> rfl
  have hs3 : ((x.at_ t).state == 3) = false := by rcases hs with h | h <;> rw [h] <;> rfl
  have okt := Lib.hid (hD.ok.trip ht ht2)
  obtain ⟨_, _, hln⟩ := hD.n4
  have hD0 := Lib.hid hD
  have HLN := Lib.hid hln
  clear hs hD hln
  by_cases ha : (x.at_ t).att = n
  · have ha1 : (((x.at_ t).att : Int) == (n : Int)) = true := by rw [ha]; simp
    have ha2 : ((x.at_ t).att == n) = true := by rw [ha]; simp
    have hfin : Hid (x.trip dead.length t = { x.at_ t with since := t, state := 3 }) := Lib.hid (by unfold Rc.trip; rw [HLN.out, if_pos ha])
    have HA := Lib.hid ha
    clear ha
    go_enter Try.func36, Try.ntmps36
    go_wp2_with fail
    refine (rat_any p x A n c dead _ hD0.out _ ht ht2).mono ?_
    rintro e w1 ⟨rfl, hb1⟩
    have hB1 := hD0.out.blk.below hb1 hlt
    obtain ⟨c0, c1, c2, c3, c4, c5, cf, hlt1⟩ := rc_facts hB1
    have HB1 := Lib.hid hB1
    clear hB1
    go_wp2_with fail
    go_ret2
    have hg := only_alloc (only_set6 (v0 := .slice A n c) (v1 := .int .i64 (x.at_ t).reclaim) (v2 := .int .i64 3) (v3 := .int .i64 t) (v4 := .int .i64 (x.at_ t).att) (v5 := .int .i64 (x.at_ t).now) (only_of_below hb1 (some p))) (.cells #[.slice A n c, .int .i64 (x.at_ t).reclaim, .int .i64 3, .int .i64 t, .int .i64 (x.at_ t).att, .int .i64 (x.at_ t).now] 85)
    refine ⟨?_, hg, hD0.out.upd hg ?_ okt.out⟩
    · rw [show tripAct (x.at_ t).att dead.length = 2 from by unfold tripAct; rw [HLN.out, if_pos HA.out]]
      rfl
    rw [hfin.out]
    exact (blk_set6 HB1.out).alloc _
  · have ha1 : (((x.at_ t).att : Int) == (n : Int)) = false := by rw [beq_eq_false_iff_ne]; omega
    have ha2 : ((x.at_ t).att == n) = false := by rw [beq_eq_false_iff_ne]; exact ha
    have hfin : Hid (x.trip dead.length t = { x.at_ t with since := t, state := 1 }) := Lib.hid (by unfold Rc.trip; rw [HLN.out, if_neg ha])
    have HA := Lib.hid ha
    clear ha
    go_enter Try.func36, Try.ntmps36
    go_wp2_with fail
    refine (rat_any p x A n c dead _ hD0.out _ ht ht2).mono ?_
    rintro e w1 ⟨rfl, hb1⟩
    have hB1 := hD0.out.blk.below hb1 hlt
    obtain ⟨c0, c1, c2, c3, c4, c5, cf, hlt1⟩ := rc_facts hB1
    have HB1 := Lib.hid hB1
    clear hB1
    go_wp2_with fail
    go_ret2
    have hg := only_alloc (only_set6 (v0 := .slice A n c) (v1 := .int .i64 (x.at_ t).reclaim) (v2 := .int .i64 1) (v3 := .int .i64 t) (v4 := .int .i64 (x.at_ t).att) (v5 := .int .i64 (x.at_ t).now) (only_of_below hb1 (some p))) (.cells #[.slice A n c, .int .i64 (x.at_ t).reclaim, .int .i64 1, .int .i64 t, .int .i64 (x.at_ t).att, .int .i64 (x.at_ t).now] 85)
    refine ⟨?_, hg, hD0.out.upd hg ?_ okt.out⟩
    · rw [show tripAct (x.at_ t).att dead.length = 0 from by unfold tripAct; rw [HLN.out, if_neg HA.out]]
      rfl
    rw [hfin.out]
    exact (blk_set6 HB1.out).alloc _

/-! Reset -/
def Rc.reset (x : Rc) (t : Int) : Rc := { x.at_ t with state := 0, att := 0 }
theorem Rc.Ok.reset {x : Rc} {dead : List Int} (ok : x.Ok dead) {t : Int} (h1 : x.now ≤ t) (h2 : t ≤ 1000000000) : (x.reset t).Ok dead := by
  obtain ⟨_, _, hd, _, _, _, _, _, ha, _⟩ := ok.at_ h1 h2
  exact ⟨by assumption, by assumption, hd, by assumption, by assumption, by assumption, by assumption, by assumption, Nat.zero_le _, fun h => by cases h⟩
theorem rreset_any (p : Nat) (x : Rc) (A : Option Addr) (n c : Nat) (dead : List Int) (w : World) (hD : Dev w p x A n c dead) (t : Int) (ht : x.now ≤ t) (ht2 : t ≤ 1000000000) :
    Calls Try.prog 38 #[.pointer (some ⟨p, 0, none⟩), .int .i64 t] w fun e w' => e = .returned (.int .i64 0) ∧ w.grownBy w' (some p) ∧ Dev w' p (x.reset t) A n c dead := by
  have hlt := hD.blk.lt
  have okt := Lib.hid (hD.ok.reset ht ht2)
  have hD0 := Lib.hid hD
  clear hD
  go_enter Try.func38, Try.ntmps38
  go_wp2_with fail
  refine (rat_any p x A n c dead _ hD0.out _ ht ht2).mono ?_
  rintro e w1 ⟨rfl, hb1⟩
  have hB1 := hD0.out.blk.below hb1 hlt
  obtain ⟨c0, c1, c2, c3, c4, c5, cf, hlt1⟩ := rc_facts hB1
  have HB1 := Lib.hid hB1
  clear hB1
  go_wp2_with fail
  go_ret
  have hg := only_alloc (only_set6 (v0 := .slice A n c) (v1 := .int .i64 (x.at_ t).reclaim) (v2 := .int .i64 0) (v3 := .int .i64 (x.at_ t).since) (v4 := .int .i64 0) (v5 := .int .i64 (x.at_ t).now) (only_of_below hb1 (some p))) (.cells #[.slice A n c, .int .i64 (x.at_ t).reclaim, .int .i64 0, .int .i64 (x.at_ t).since, .int .i64 0, .int .i64 (x.at_ t).now] 85)
  refine ⟨rfl, hg, hD0.out.upd hg ?_ okt.out⟩
  exact (blk_set6 HB1.out).alloc _

/-! Next -/
theorem rnext_none (p : Nat) (x : Rc) (A : Option Addr) (n c : Nat) (dead : List Int) (w : World) (hD : Dev w p x A n c dead) (hs : ¬ x.state = 1) :
    Calls Try.prog 44 #[.pointer (some ⟨p, 0, none⟩)] w fun e w' => e = .returned (.tuple #[.int .i64 0, .bool false]) ∧ ∃ nq, w' = w.drewN nq := by
  obtain ⟨h0, h1, h2, h3, h4, h5, hf, hlt⟩ := rc_facts hD.blk
  have hs1 : (x.state != 1) = true := by simpa using hs
  clear hs hD
  go_enter Try.func44, Try.ntmps44
  go_wp2_with fail
  go_ret2
  exact ⟨rfl, 0, rfl⟩

set_option maxHeartbeats 1000000 in
theorem rnext_some (p : Nat) (x : Rc) (A : Option Addr) (n c : Nat) (dead : List Int) (w : World) (hD : Dev w p x A n c dead) (hs : x.state = 1) :
    Calls Try.prog 44 #[.pointer (some ⟨p, 0, none⟩)] w fun e w' => e = .returned (.tuple #[.int .i64 (x.since + dead.getD x.att 0), .bool true]) ∧ ∃ nq, w' = w.drewN nq := by
  obtain ⟨h0, h1, h2, h3, h4, h5, hf, hlt⟩ := rc_facts hD.blk
  have hs1 : (x.state != 1) = false := by simpa using hs
  have hw := hD.ok.wt hs
  obtain ⟨_, hn4, hln⟩ := hD.n4
  obtain ⟨b, off, rfl, hbp⟩ := hD.form
  obtain ⟨d, hd⟩ : ∃ d, dead[x.att]? = some d := ⟨_, List.getElem?_eq_getElem hw⟩
  have hdb := hD.ok.ds d (List.mem_of_getElem? hd)
  obtain ⟨hdb1, hdb2⟩ := hdb
  have hgd : dead.getD x.att 0 = d := by rw [List.getD_eq_getElem?_getD, hd]; rfl
  have hs0 := hD.ok.s0
  have hs2 := hD.ok.sn
  have hs3 := hD.ok.n1
  have hwn : x.att < n := by omega
  have hwI : (x.att : Int) < (n : Int) := by omega
  have hwI0 : (0 : Int) ≤ (x.att : Int) := by omega
  have hcell := hD.rd.at_ hd
  have hwr : IntKind.i64.wrap (x.since + d) = x.since + d := IntWalk.i64_in _ (by omega)
  have HG := Lib.hid hgd
  have HS := Lib.hid hs
  clear hd hgd hs hD hln
  go_enter Try.func44, Try.ntmps44
  go_wp2_with fail
  go_quiet (fail)
  go_wp2_with fail
  go_ret2
  exact ⟨by rw [HG.out]; rfl, _, rfl⟩
end Go.Proofs.Ytkmhemcnpbhdfaa
