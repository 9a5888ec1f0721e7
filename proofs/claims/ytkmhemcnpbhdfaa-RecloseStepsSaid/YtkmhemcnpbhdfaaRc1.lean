/- Automatic reclosing: the check of a rule, and the device. -/
import Derived.Test.YtkmhemcnpbhdfaaI1
namespace Go.Proofs.Ytkmhemcnpbhdfaa
open Go.ChangeShapes Go.WideShapes Go.ChangeAt Go.RowKit
set_option linter.unusedVariables false
attribute [local go_sem ↓] execOp_call_val
attribute [local go_sem] callVal_func setCell_drewN alloc_drewN

def outR (n : Int) : Bool := decide (n < 1 ∨ 600000 < n)
theorem outR_any (n : Int) (w : World) : Calls Try.prog 45 #[.int .i64 n] w fun e w' => e = .returned (.bool (outR n)) ∧ w = w' := by
  go_enter Try.func45, Try.ntmps45
  go_wp2
  all_goals
    go_ret
    exact ⟨ret_bool (by simp [outR] <;> omega), rfl⟩
theorem enterOutR (args : Array Value) (w : World) : (callFunc 45 args).run Try.prog w = .ok (.enter 45 args) w :=
  callFunc_enter Try.func45 (by kernel_rfl) rfl args w

def ckR (dead : List Int) (reclaim : Int) : Int := if 4 < dead.length then 2 else if dead.length = 0 then 3 else if dead.any outR || outR reclaim then 4 else 0

theorem rule_facts {w : World} {p : Nat} {u v : Value} (hB : Blk w p 41 #[u, v]) :
    w.cell? ⟨p, 0, none⟩ = some u ∧ w.cell? ⟨p, 1, none⟩ = some v ∧ (∀ i, w.frozen? ⟨p, i, none⟩ = false) ∧ p < w.heap.size := ⟨hB.cell 0, hB.cell 1, hB.frozen, hB.lt⟩

set_option maxHeartbeats 1000000 in
theorem ckR_any (A : Option Addr) (n c : Nat) (dead : List Int) (reclaim : Int) (w : World) (hr : RdI w w.heap.size A n dead) (hn : n ≤ 9223372036854775807) :
    Calls Try.prog 24 #[.agg #[.slice A n c, .int .i64 reclaim]] w fun e w' => e = .returned (.int .i64 (ckR dead reclaim)) ∧ Below w.heap.size w w' := by
  have hlen := hr.len
  have hck : Hid (ckR dead reclaim = if 4 < n then 2 else if n = 0 then 3 else if dead.any outR || outR reclaim then 4 else 0) := Lib.hid (by unfold ckR; rw [hlen])
  have HL := Lib.hid hlen
  clear hlen
  have K0 : Below w.heap.size w (w.alloc (.cells #[.slice A n c, .int .i64 reclaim] 41)) := (Below.refl _ _).alloc (Nat.le_refl _) _
  have HK0 := Lib.hid K0
  have HR := Lib.hid ((hr.below K0 (Nat.le_refl _)).more K0.size)
  clear K0
  by_cases h1 : 4 < n
  · go_enter Try.func24, Try.ntmps24
    go_wp2_with fail
    go_ret
    exact ⟨ret_int (by rw [hck.out, if_pos h1]), HK0.out⟩
  · by_cases h2 : n = 0
    · subst h2
      go_enter Try.func24, Try.ntmps24
      go_wp2_with fail
      go_ret
      exact ⟨ret_int (by rw [hck.out]; rfl), HK0.out⟩
    · have hn0 : ((n : Int) == 0) = false := by rw [beq_eq_false_iff_ne]; omega
      have hn1 : (n == 0) = false := by rw [beq_eq_false_iff_ne]; omega
      have HN := Lib.hid h2
      clear h2
      have hw4 : n ≤ 4 := by omega
      cases ha : dead.any outR with
      | true =>
        have HA := Lib.hid ha
        go_enter Try.func24, Try.ntmps24
        go_wp2_with fail
        refine (containsFuncI _ #[] A n c dead outR (fun w' => Below (w.alloc (.cells #[.slice A n c, .int .i64 reclaim] 41)).heap.size (w.alloc (.cells #[.slice A n c, .int .i64 reclaim] 41)) w') enterOutR (fun w' hb => (HR.out.below hb (Nat.le_refl _)).more hb.size) (fun z w' hb => (outR_any z w').mono fun e w'' ⟨he, hw⟩ => ⟨he, hw ▸ hb⟩) hn _ (Below.refl _ _)).mono ?_
        rw [ha]
        rintro e w1 ⟨rfl, k1⟩
        have K1 := HK0.out.trans (k1.mono HK0.out.size)
        clear ha k1
        go_wp2_with fail
        go_ret
        exact ⟨ret_int (by rw [hck.out, if_neg h1, if_neg HN.out, HA.out]; rfl), K1⟩
      | false =>
        have HA := Lib.hid ha
        go_enter Try.func24, Try.ntmps24
        go_wp2_with fail
        refine (containsFuncI _ #[] A n c dead outR (fun w' => Below (w.alloc (.cells #[.slice A n c, .int .i64 reclaim] 41)).heap.size (w.alloc (.cells #[.slice A n c, .int .i64 reclaim] 41)) w') enterOutR (fun w' hb => (HR.out.below hb (Nat.le_refl _)).more hb.size) (fun z w' hb => (outR_any z w').mono fun e w'' ⟨he, hw⟩ => ⟨he, hw ▸ hb⟩) hn _ (Below.refl _ _)).mono ?_
        rw [ha]
        rintro e w1 ⟨rfl, k1⟩
        have K1 := HK0.out.trans (k1.mono HK0.out.size)
        have q1 := (Blk.new _ _ _).below k1 (by simp)
        obtain ⟨c0, c1, cf, hlt1⟩ := rule_facts q1
        clear ha k1 q1
        cases hb : outR reclaim with
        | true =>
          have HB := Lib.hid hb
          go_wp2_with fail
          refine (outR_any _ _).mono ?_
          rw [hb]
          clear hb
          rintro e w2 ⟨rfl, rfl⟩
          go_wp2_with fail
          go_ret
          exact ⟨ret_int (by rw [hck.out, if_neg h1, if_neg HN.out, HA.out, HB.out]; rfl), K1⟩
        | false =>
          have HB := Lib.hid hb
          go_wp2_with fail
          refine (outR_any _ _).mono ?_
          rw [hb]
          clear hb
          rintro e w2 ⟨rfl, rfl⟩
          go_wp2_with fail
          go_ret
          exact ⟨ret_int (by rw [hck.out, if_neg h1, if_neg HN.out, HA.out, HB.out]; rfl), K1⟩

theorem ckR_ok {dead : List Int} {reclaim : Int} (h : ckR dead reclaim = 0) : 1 ≤ dead.length ∧ dead.length ≤ 4 ∧ (∀ d ∈ dead, 1 ≤ d ∧ d ≤ 600000) ∧ 1 ≤ reclaim ∧ reclaim ≤ 600000 := by
  unfold ckR at h
  split at h
  · omega
  · split at h
    · omega
    · split at h
      · omega
      · rename_i h1
        rw [Bool.or_eq_true, not_or] at h1
        obtain ⟨h2, h3⟩ := h1
        refine ⟨by omega, by omega, fun d hd => ?_, ?_⟩
        · have : ¬ outR d = true := fun hh => h2 (List.any_eq_true.2 ⟨d, hd, hh⟩)
          simp [outR] at this
          omega
        · simp [outR] at h3
          omega

/-! slices.Clone of integers -/
theorem infoInt : (Try.prog.info? 3).map (fun i => (i.zero, i.size, i.bytes)) = some (some (.int .i64 0), 1, 8) := by kernel_rfl
theorem ints_one (zs : List Int) : ∀ u ∈ ints zs, u.oneCell' = true := by
  intro u hu
  simp only [ints, List.mem_map] at hu
  obtain ⟨z, _, rfl⟩ := hu
  rfl

set_option maxHeartbeats 1000000 in
theorem cloneI (b off n c : Nat) (zs : List Int) (w : World) (hr : RdI w w.heap.size (some ⟨b, off, none⟩) n zs) (h0 : 0 < n) (hn : n ≤ 65536) :
    Calls Try.prog 54 #[.slice (some ⟨b, off, none⟩) n c] w fun e w' => ∃ v, e = .returned v ∧ w'.ownsRow w.heap.size 3 1 v n (ints zs) ∧ Below w.heap.size w w' := by
  obtain ⟨i0, hi0, hz0, hz1, hz2⟩ := info_parts infoInt
  have h1 := fun (w : World) => Go.run_eql_slice_nil (P := Try.prog) w 39 3 (some ⟨b, off, none⟩) n c Try.underlying39
  obtain ⟨b', off', he, hlt, hc⟩ := hr.2 h0
  injection he with he
  injection he with e1 e2
  subst e1; subst e2
  have HR := Lib.hid hr
  have HC := Lib.hid hc
  clear hr hc
  go_enter Try.func54, Try.ntmps54
  go_wp2_with (at_builtin; refine wpList_append_own_at _ rfl (.tmp 5) (.tmp 6) _ rfl w.heap.size 3 i0 _ 1 8 Try.underlying39 hi0 hz0 hz1 hz2 rfl (by omega) (.slice (some ⟨w.heap.size, 0, none⟩) 0 0) 0 [] rfl (own_nil _ _ _) ⟨b, off, none⟩ n c (ints zs) rfl ?c0 ?c1 (ints_one zs) ?c2 ?c3 ?c4 ?_)
  case c0 => have := HR.out.len; simp [ints]; omega
  case c1 => intro j u hu; exact HC.out j u hu
  case c2 => simp only [maxLen]; omega
  case c3 => omega
  intro v1 w1 hown1 hg1 hnil1 hat1
  go_wp2
  go_ret
  refine ⟨v1, rfl, by simpa using hown1, ?_⟩
  have k1 : Below w.heap.size w (w.alloc (.cells #[] 3)) := (Below.refl _ _).alloc (Nat.le_refl _) _
  exact k1.grown hg1 (by simp) (fun k hk => by simp [Value.ownBlock] at hk; omega)

/-! the device -/
structure Rc where
  reclaim : Int
  state : Int
  since : Int
  att : Nat
  now : Int

def Rc.cells (x : Rc) (A : Option Addr) (n c : Nat) : Array Value := #[.slice A n c, .int .i64 x.reclaim, .int .i64 x.state, .int .i64 x.since, .int .i64 x.att, .int .i64 x.now]

structure Rc.Ok (x : Rc) (dead : List Int) : Prop where
  l1 : 1 ≤ dead.length
  l2 : dead.length ≤ 4
  ds : ∀ d ∈ dead, 1 ≤ d ∧ d ≤ 600000
  r1 : 1 ≤ x.reclaim
  r2 : x.reclaim ≤ 600000
  s0 : 0 ≤ x.since
  sn : x.since ≤ x.now
  n1 : x.now ≤ 1000000000
  a1 : x.att ≤ dead.length
  wt : x.state = 1 → x.att < dead.length

/-- the device in memory: its block p, the dead times below it -/
structure Dev (w : World) (p : Nat) (x : Rc) (A : Option Addr) (n c : Nat) (dead : List Int) : Prop where
  blk : Blk w p 85 (x.cells A n c)
  rd : RdI w p A n dead
  ok : x.Ok dead
theorem Dev.below {w w' : World} {p : Nat} {x : Rc} {A : Option Addr} {n c : Nat} {dead : List Int} (h : Dev w p x A n c dead) (hb : Below w.heap.size w w') : Dev w' p x A n c dead :=
  ⟨h.blk.below hb h.blk.lt, Rd.below h.rd hb (Nat.le_of_lt h.blk.lt), h.ok⟩
theorem Dev.n4 {w : World} {p : Nat} {x : Rc} {A : Option Addr} {n c : Nat} {dead : List Int} (h : Dev w p x A n c dead) : 1 ≤ n ∧ n ≤ 4 ∧ dead.length = n := by
  have := h.rd.len; have := h.ok.l1; have := h.ok.l2; omega
theorem Dev.form {w : World} {p : Nat} {x : Rc} {A : Option Addr} {n c : Nat} {dead : List Int} (h : Dev w p x A n c dead) : ∃ b off, A = some ⟨b, off, none⟩ ∧ b < p := by
  obtain ⟨b, off, e, hlt, _⟩ := h.rd.2 (by have := h.n4; omega)
  exact ⟨b, off, e, hlt⟩
theorem rc_facts {w : World} {p : Nat} {x : Rc} {A : Option Addr} {n c : Nat} (hB : Blk w p 85 (x.cells A n c)) :
    w.cell? ⟨p, 0, none⟩ = some (.slice A n c) ∧ w.cell? ⟨p, 1, none⟩ = some (.int .i64 x.reclaim) ∧ w.cell? ⟨p, 2, none⟩ = some (.int .i64 x.state) ∧ w.cell? ⟨p, 3, none⟩ = some (.int .i64 x.since) ∧
    w.cell? ⟨p, 4, none⟩ = some (.int .i64 x.att) ∧ w.cell? ⟨p, 5, none⟩ = some (.int .i64 x.now) ∧ (∀ i, w.frozen? ⟨p, i, none⟩ = false) ∧ p < w.heap.size :=
  ⟨hB.cell 0, hB.cell 1, hB.cell 2, hB.cell 3, hB.cell 4, hB.cell 5, hB.frozen, hB.lt⟩
theorem blk_set6 {w : World} {p t : Nat} {v0 v1 v2 v3 v4 v5 x0 x1 x2 x3 x4 x5 : Value} (h : Blk w p t #[x0, x1, x2, x3, x4, x5]) :
    Blk ((((((w.setCell ⟨p, 0, none⟩ v0).setCell ⟨p, 1, none⟩ v1).setCell ⟨p, 2, none⟩ v2).setCell ⟨p, 3, none⟩ v3).setCell ⟨p, 4, none⟩ v4).setCell ⟨p, 5, none⟩ v5) p t #[v0, v1, v2, v3, v4, v5] := by
  have h0 : Blk _ p t #[v0, x1, x2, x3, x4, x5] := h.set_at (i := 0) v0 (by simp)
  have h1 : Blk _ p t #[v0, v1, x2, x3, x4, x5] := h0.set_at (i := 1) v1 (by simp)
  have h2 : Blk _ p t #[v0, v1, v2, x3, x4, x5] := h1.set_at (i := 2) v2 (by simp)
  have h3 : Blk _ p t #[v0, v1, v2, v3, x4, x5] := h2.set_at (i := 3) v3 (by simp)
  have h4 : Blk _ p t #[v0, v1, v2, v3, v4, x5] := h3.set_at (i := 4) v4 (by simp)
  exact h4.set_at (i := 5) v5 (by simp)
theorem only_set6 {a w : World} {p : Nat} {v0 v1 v2 v3 v4 v5 : Value} (h : a.grownBy w (some p)) :
    a.grownBy ((((((w.setCell ⟨p, 0, none⟩ v0).setCell ⟨p, 1, none⟩ v1).setCell ⟨p, 2, none⟩ v2).setCell ⟨p, 3, none⟩ v3).setCell ⟨p, 4, none⟩ v4).setCell ⟨p, 5, none⟩ v5) (some p) :=
  only_set 5 _ (only_set 4 _ (only_set 3 _ (only_set 2 _ (only_set 1 _ (only_set 0 _ h)))))

def Rc.at_ (x : Rc) (t : Int) : Rc := if x.state = 2 ∧ x.since + x.reclaim ≤ t then { x with now := t, state := 0, att := 0 } else { x with now := t }
theorem Rc.Ok.at_ {x : Rc} {dead : List Int} (ok : x.Ok dead) {t : Int} (h1 : x.now ≤ t) (h2 : t ≤ 1000000000) : (x.at_ t).Ok dead := by
  obtain ⟨_, _, hd, _, _, _, _, _, _, hw⟩ := ok
  unfold Rc.at_
  split
  · exact ⟨by assumption, by assumption, hd, by assumption, by assumption, by assumption, (by dsimp only; omega), h2, Nat.zero_le _, fun h => by cases h⟩
  · exact ⟨by assumption, by assumption, hd, by assumption, by assumption, by assumption, (by dsimp only; omega), h2, by assumption, hw⟩

theorem rat_early (p : Nat) (x : Rc) (A : Option Addr) (n c : Nat) (dead : List Int) (w : World) (hD : Dev w p x A n c dead) (t : Int) (ht : t < x.now ∨ 1000000000 < t) :
    Calls Try.prog 55 #[.pointer (some ⟨p, 0, none⟩), .int .i64 t] w fun e w' => e = .returned (.tuple #[.agg #[.slice none 0 0, .int .i64 0, .int .i64 0, .int .i64 0, .int .i64 0, .int .i64 0], .int .i64 12]) ∧ Below w.heap.size w w' := by
  obtain ⟨h0, h1, h2, h3, h4, h5, hf, hlt⟩ := rc_facts hD.blk
  clear hD
  by_cases h1 : t < x.now
  · go_enter Try.func55, Try.ntmps55
    go_wp2_with fail
    refine bodyPost_ret (v := .tuple #[.agg #[.slice none 0 0, .int .i64 0, .int .i64 0, .int .i64 0, .int .i64 0, .int .i64 0], .int .i64 12]) (by simp [results, Try.results55, go_sem]) rfl ⟨rfl, ?_⟩
    exact (Below.refl _ _).alloc (Nat.le_refl _) _
  · have h2 : 1000000000 < t := by omega
    clear ht
    go_enter Try.func55, Try.ntmps55
    go_wp2_with fail
    refine bodyPost_ret (v := .tuple #[.agg #[.slice none 0 0, .int .i64 0, .int .i64 0, .int .i64 0, .int .i64 0, .int .i64 0], .int .i64 12]) (by simp [results, Try.results55, go_sem]) rfl ⟨rfl, ?_⟩
    exact (Below.refl _ _).alloc (Nat.le_refl _) _

set_option maxHeartbeats 1000000 in
theorem rat_any (p : Nat) (x : Rc) (A : Option Addr) (n c : Nat) (dead : List Int) (w : World) (hD : Dev w p x A n c dead) (t : Int) (ht : x.now ≤ t) (ht2 : t ≤ 1000000000) :
    Calls Try.prog 55 #[.pointer (some ⟨p, 0, none⟩), .int .i64 t] w fun e w' => e = .returned (.tuple #[.agg ((x.at_ t).cells A n c), .int .i64 0]) ∧ Below w.heap.size w w' := by
  obtain ⟨h0, h1, h2, h3, h4, h5, hf, hlt⟩ := rc_facts hD.blk
  obtain ⟨_, _, _, r1, r2, s0, sn, n1, a1, _⟩ := hD.ok
  clear hD
  by_cases hs : x.state = 2
  · have hs1 : (x.state == 2) = true := by simpa using hs
    by_cases hr : x.since + x.reclaim ≤ t
    · have hfin : Hid (x.at_ t = { x with now := t, state := 0, att := 0 }) := Lib.hid (by unfold Rc.at_; rw [if_pos ⟨hs, hr⟩])
      have HS := Lib.hid hs
      clear hs
      go_enter Try.func55, Try.ntmps55
      go_wp2_with fail
      refine bodyPost_ret (v := .tuple #[.agg ((x.at_ t).cells A n c), .int .i64 0]) (by rw [hfin.out]; simp [results, Try.results55, go_sem, Rc.cells]) rfl ⟨rfl, ?_⟩
      exact ((Below.refl _ _).alloc (Nat.le_refl _) _).alloc (by simp) _
    · have hfin : Hid (x.at_ t = { x with now := t }) := Lib.hid (by unfold Rc.at_; rw [if_neg (by omega)])
      have HS := Lib.hid hs
      clear hs
      go_enter Try.func55, Try.ntmps55
      go_wp2_with fail
      refine bodyPost_ret (v := .tuple #[.agg ((x.at_ t).cells A n c), .int .i64 0]) (by rw [hfin.out]; simp [results, Try.results55, go_sem, Rc.cells]) rfl ⟨rfl, ?_⟩
      exact ((Below.refl _ _).alloc (Nat.le_refl _) _).alloc (by simp) _
  · have hs1 : (x.state == 2) = false := by simpa using hs
    have hfin : Hid (x.at_ t = { x with now := t }) := Lib.hid (by unfold Rc.at_; rw [if_neg (fun h => hs h.1)])
    have HS := Lib.hid hs
    clear hs
    go_enter Try.func55, Try.ntmps55
    go_wp2_with fail
    refine bodyPost_ret (v := .tuple #[.agg ((x.at_ t).cells A n c), .int .i64 0]) (by rw [hfin.out]; simp [results, Try.results55, go_sem, Rc.cells]) rfl ⟨rfl, ?_⟩
    exact ((Below.refl _ _).alloc (Nat.le_refl _) _).alloc (by simp) _
end Go.Proofs.Ytkmhemcnpbhdfaa
