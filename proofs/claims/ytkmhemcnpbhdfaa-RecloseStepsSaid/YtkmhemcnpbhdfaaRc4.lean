/- Automatic reclosing: Shots as a whole. -/
import Derived.Test.YtkmhemcnpbhdfaaRc3
namespace Go.Proofs.Ytkmhemcnpbhdfaa
open Go.ChangeShapes Go.WideShapes Go.ChangeAt Go.RowKit
set_option linter.unusedVariables false
attribute [local go_sem ↓] execOp_call_val
attribute [local go_sem] callVal_func setCell_drewN alloc_drewN

def Rc.att1 (x : Rc) (dead : List Int) (before : Int) : Rc := if x.fires dead before then x.tick dead (x.nextT dead) else x
def Rc.out1 (x : Rc) (dead out : List Int) (before : Int) : List Int := if x.fires dead before then out ++ [x.nextT dead] else out
/-- in Shots: while it waits, nothing has happened since the trip -/
def Rc.Iv (x : Rc) : Prop := (x.state = 1 → x.now = x.since) ∧ 0 ≤ x.state ∧ x.state ≤ 3
theorem Rc.Iv.next_ {x : Rc} {dead : List Int} (h : x.Iv) (ok : x.Ok dead) {before : Int} (hf : x.fires dead before = true) : x.now ≤ x.nextT dead ∧ x.nextT dead < before := by
  simp [Rc.fires] at hf
  have := next_bd ok hf.1
  have := h.1 hf.1
  omega
theorem Sh.drewN {w : World} {base p b1 b2 : Nat} {x : Rc} {A : Option Addr} {n c : Nat} {dead out : List Int} {v : Value} (h : Sh w base p b1 b2 x A n c dead out v) (nq : Nat) : Sh (w.drewN nq) base p b1 b2 x A n c dead out v :=
  ⟨⟨h.dev.blk, h.dev.rd, h.dev.ok⟩, h.q1, h.q2, h.own, h.pb, h.bb, h.b2b, h.bs⟩
theorem Sh.devd {w w' : World} {base p b1 b2 : Nat} {x y : Rc} {A : Option Addr} {n c : Nat} {dead out : List Int} {v : Value} (h : Sh w base p b1 b2 x A n c dead out v) (hg : w.grownBy w' (some p)) (hD : Dev w' p y A n c dead) : Sh w' base p b1 b2 y A n c dead out v := by
  have hps := h.pb
  have hbb := h.bb
  have hb2b := h.b2b
  refine ⟨hD, Blk.grown h.q1 hg (fun e => by injection e; omega), Blk.grown h.q2 hg (fun e => by injection e; omega), World.ownsRow.kept h.own hg ?_, hps, hbb, hb2b, Nat.le_trans h.bs hg.size⟩
  cases hv : v.ownBlock with
  | none => exact .inl rfl
  | some k => exact .inr (fun e => by injection e with e; have := (h.own.lt k hv).1; omega)
theorem tick_state {x : Rc} {dead : List Int} {before : Int} (h : x.Iv) (ok : x.Ok dead) (hf : x.fires dead before = true) : (x.tick dead (x.nextT dead)).state = 2 ∧ (x.tick dead (x.nextT dead)).now = x.nextT dead ∧ (x.tick dead (x.nextT dead)).since = x.nextT dead ∧ (x.tick dead (x.nextT dead)).att = x.att + 1 ∧ (x.tick dead (x.nextT dead)).reclaim = x.reclaim := by
  simp [Rc.fires] at hf
  have hat : x.at_ (x.nextT dead) = { x with now := x.nextT dead } := by unfold Rc.at_; rw [if_neg (by omega)]
  have hk : x.ticks dead (x.nextT dead) = true := by unfold Rc.ticks; rw [hat]; simp [hf.1, Rc.nextT]
  unfold Rc.tick
  rw [if_pos hk, hat]
  exact ⟨rfl, rfl, rfl, rfl, rfl⟩
theorem Rc.Iv.att1 {x : Rc} {dead : List Int} (h : x.Iv) (ok : x.Ok dead) (before : Int) : (x.att1 dead before).Iv := by
  unfold Rc.att1
  split
  · rename_i hf
    have := (tick_state h ok hf).1
    exact ⟨fun hs => by omega, by omega, by omega⟩
  · exact h
theorem trip_iv (x : Rc) (L : Nat) (t : Int) : (x.trip L t).Iv := ⟨fun _ => at_now x t, by unfold Rc.trip; dsimp only; split <;> omega, by unfold Rc.trip; dsimp only; split <;> omega⟩
theorem at_rng {x : Rc} (h : x.Iv) (t : Int) : 0 ≤ (x.at_ t).state ∧ (x.at_ t).state ≤ 3 := by
  have := h.2
  unfold Rc.at_
  split <;> dsimp only <;> omega

theorem att_any (B0 base p b1 b2 : Nat) (x : Rc) (A : Option Addr) (n c : Nat) (dead out : List Int) (v : Value) (before : Int) (w : World) (h : Sh w base p b1 b2 x A n c dead out v) (hB : B0 ≤ p) (hiv : x.Iv) (hb4 : before ≤ 1000000001) (hol : out.length ≤ 65536) :
    Calls Try.prog 47 #[.int .i64 before, .pointer (some ⟨b1, 0, none⟩), .pointer (some ⟨b2, 0, none⟩)] w fun e w' => e = .returned (.tuple #[]) ∧ ∃ v', Sh w' base p b1 b2 (x.att1 dead before) A n c dead (x.out1 dead out before) v' ∧ Below B0 w w' := by
  cases hf : x.fires dead before with
  | true =>
    rw [show x.att1 dead before = x.tick dead (x.nextT dead) from by unfold Rc.att1; rw [if_pos hf], show x.out1 dead out before = out ++ [x.nextT dead] from by unfold Rc.out1; rw [if_pos hf]]
    exact att_some B0 base p b1 b2 x A n c dead out v before w h hB hf (hiv.next_ h.dev.ok hf).1 hb4 hol
  | false =>
    rw [show x.att1 dead before = x from by unfold Rc.att1; rw [hf]; rfl, show x.out1 dead out before = out from by unfold Rc.out1; rw [hf]; rfl]
    exact (att_none base p b1 b2 x A n c dead out v before w h hf).mono fun e w' ⟨he, nq, hw⟩ => ⟨he, v, hw ▸ h.drewN nq, hw ▸ below_drewN (Below.refl _ _) nq⟩

def shGo (dead : List Int) : Rc → List Int → List Int → Nat → List Int × Int × Int
  | x, out, [], _ => (x.out1 dead out 1000000001, 0, 0)
  | x, out, t :: r, i =>
    if t < (x.att1 dead t).now ∨ 1000000000 < t then ([], 0, 12)
    else if ((x.att1 dead t).at_ t).state = 1 ∨ ((x.att1 dead t).at_ t).state = 3 then ([], 0, 11)
    else if ((x.att1 dead t).at_ t).att = dead.length then (x.out1 dead out t, ((i : Nat) : Int) + 1, 0)
    else shGo dead ((x.att1 dead t).trip dead.length t) (x.out1 dead out t) r (i + 1)
def shotsR (dead : List Int) (reclaim : Int) (trips : List Int) : List Int × Int × Int :=
  if ckR dead reclaim ≠ 0 then ([], 0, ckR dead reclaim) else if 256 < trips.length then ([], 0, 2) else shGo dead ⟨reclaim, 0, 0, 0, 0⟩ [] trips 0

def OutI (w : World) (v : Value) (l : List Int) : Prop := ∃ A n c, v = .slice A n c ∧ n ≤ 65536 ∧ RdI w w.heap.size A n l
theorem outI_nil (w : World) : OutI w (.slice none 0 0) [] := ⟨none, 0, 0, rfl, by omega, rfl, fun h => by omega⟩
theorem outI_own {w : World} {B e n : Nat} {v : Value} {l : List Int} (h : w.ownsRow B e 1 v n (ints l)) (hn : n ≤ 65536) : OutI w v l := by
  by_cases h0 : 0 < n
  · obtain ⟨g, cap, hv, _⟩ := World.ownsRow.form h h0
    subst hv
    exact ⟨_, _, _, rfl, hn, rdI_own h⟩
  · have hn0 : n = 0 := by omega
    subst hn0
    have hl : l = [] := by have := h.1; simp [ints] at this; exact this
    subst hl
    rcases h.2 with ⟨rfl, _⟩ | ⟨g, cap, cur, rfl, _⟩
    · exact outI_nil w
    · exact ⟨_, _, _, rfl, by omega, rdI_nil w _ _⟩
theorem OutI.below {w w' : World} {v : Value} {l : List Int} (h : OutI w v l) (hb : Below w.heap.size w w') : OutI w' v l := by
  obtain ⟨A, n, c, hv, hn, hr⟩ := h
  exact ⟨A, n, c, hv, hn, (hr.below hb (Nat.le_refl _)).more hb.size⟩

theorem out1_len (x : Rc) (dead out : List Int) (before : Int) : (x.out1 dead out before).length ≤ out.length + 1 := by
  unfold Rc.out1; split <;> simp

def RetS (S : List Int × Int × Int) (e : Ending) (w : World) : Prop := ∃ v, e = .returned (.tuple #[v, .int .i64 S.2.1, .int .i64 S.2.2]) ∧ OutI w v S.1

set_option maxHeartbeats 4000000 in
theorem shots_any (A : Option Addr) (n c : Nat) (dead : List Int) (reclaim : Int) (T : Option Addr) (m d : Nat) (trips : List Int) (w : World) (hr : RdI w w.heap.size A n dead) (hn : n ≤ 9223372036854775807) (ht : RdI w w.heap.size T m trips) (hm : m ≤ 9223372036854775807) (hc : ckR dead reclaim = 0) (hall : ∀ t ∈ trips, t ≤ 1000000000) :
    Calls Try.prog 25 #[.agg #[.slice A n c, .int .i64 reclaim], .slice T m d] w fun e w' => RetS (shotsR dead reclaim trips) e w' ∧ Below w.heap.size w w' := by
  have K0 : Below w.heap.size w (w.alloc (.cells #[.slice A n c, .int .i64 reclaim] 41)) := (Below.refl _ _).alloc (Nat.le_refl _) _
  have HR := Lib.hid ((hr.below K0 (Nat.le_refl _)).more K0.size)
  have HK0 := Lib.hid K0
  have hlt := Lib.hid ht.len
  clear K0
  by_cases hm2 : 256 < m
  · have hS : Hid (shotsR dead reclaim trips = ([], 0, 2)) := Lib.hid (by unfold shotsR; rw [if_neg (by rw [hc]; simp), if_pos (by rw [hlt.out]; exact hm2)])
    have HC := Lib.hid hc
    clear hc
    go_enter Try.func25, Try.ntmps25
    go_wp2_with fail
    refine (rnew_any A n c dead reclaim _ HR.out hn HC.out).mono ?_
    rintro e w1 ⟨p, g, cap, rfl, hp, hD, k1⟩
    have K1 := HK0.out.trans (k1.mono HK0.out.size)
    clear hD k1
    go_wp2_with fail
    go_ret3
    exact ⟨⟨.slice none 0 0, by rw [hS.out]; rfl, by rw [hS.out]; exact outI_nil _⟩, K1.alloc K1.size _⟩
  · have hS : Hid (shotsR dead reclaim trips = shGo dead ⟨reclaim, 0, 0, 0, 0⟩ [] trips 0) := Lib.hid (by unfold shotsR; rw [if_neg (by rw [hc]; simp), if_neg (by rw [hlt.out]; exact hm2)])
    have HC := Lib.hid hc
    clear hc
    go_enter Try.func25, Try.ntmps25
    go_wp2_with fail
    refine (rnew_any A n c dead reclaim _ HR.out hn HC.out).mono ?_
    rintro e w1 ⟨p, g, cap, rfl, hp, hD, k1⟩
    have K1 := HK0.out.trans (k1.mono HK0.out.size)
    have HD := Lib.hid hD
    have hpw : w.heap.size ≤ p := by simp at hp; omega
    have hpl := hD.blk.lt
    clear hD k1
    go_wp2_with fail
    have hSh : Sh ((w1.alloc (.cells #[.pointer (some ⟨p, 0, none⟩)] 62)).alloc (.cells #[.slice none 0 0] 39)) (w1.heap.size + 1 + 1) p w1.heap.size (w1.heap.size + 1) ⟨reclaim, 0, 0, 0, 0⟩ (some ⟨g, 0, none⟩) n cap dead [] (.slice none 0 0) :=
      ⟨HD.out.below (((Below.refl _ _).alloc (Nat.le_refl _) _).alloc (by simp) _), (Blk.new w1 _ _).alloc _, Blk.new_ (by simp), ⟨rfl, .inl ⟨rfl, rfl⟩⟩, hpl, by omega, by omega, by simp⟩
    have K2 : Below w.heap.size w ((w1.alloc (.cells #[.pointer (some ⟨p, 0, none⟩)] 62)).alloc (.cells #[.slice none 0 0] 39)) := (K1.alloc K1.size _).alloc (by simp; have := K1.size; omega) _
    have HSH := Lib.hid hSh
    have HK2 := Lib.hid K2
    clear hSh K2
    go_loopw [11, 12, 13, 14, 29] (fun _ _ _ _ i wr => ∃ (k : Nat) (x : Rc) (out : List Int) (v : Value), k ≤ m ∧ i = .int .i64 k ∧ Sh wr (w1.heap.size + 1 + 1) p w1.heap.size (w1.heap.size + 1) x (some ⟨g, 0, none⟩) n cap dead out v ∧ x.Iv ∧ out.length ≤ k ∧ Below w.heap.size w wr ∧
      shGo dead ⟨reclaim, 0, 0, 0, 0⟩ [] trips 0 = shGo dead x out (trips.drop k) k) (fun _ _ _ _ i _ => m - (intOf i).toNat)
    case atStart => exact ⟨0, _, [], _, by omega, rfl, HSH.out, ⟨(fun h => by cases h), by simp, by simp⟩, by simp, HK2.out, rfl⟩
    case round =>
      obtain ⟨k, x, out, v, hk, rfl, hSw, hiv, hol, K, hgo⟩ := hrel
      have HSW := Lib.hid hSw
      have HGO := Lib.hid hgo
      have HIV := Lib.hid hiv
      clear hSw hgo hiv
      by_cases hltk : k < m
      · obtain ⟨t, htk⟩ : ∃ t, trips[k]? = some t := ⟨_, List.getElem?_eq_getElem (by have := hlt.out; omega)⟩
        obtain ⟨tb, to, rfl, htlt, _⟩ := (ht.below K (Nat.le_refl _)).2 (by omega)
        have hcell := (ht.below K (Nat.le_refl _)).at_ htk
        have HDR := Lib.hid (drop_cons htk)
        have htmax := hall t (List.mem_of_getElem? htk)
        clear htk
        have htb : t ≤ 1000000001 := by omega
        · go_wp2_with fail
          refine (att_any w.heap.size _ p _ _ x _ n cap dead out v t wr HSW.out hpw HIV.out htb (by omega)).mono ?_
          rintro e w2 ⟨rfl, v', hS2, k2⟩
          have K2 := K.trans k2
          have c7 : w2.cell? ⟨w1.heap.size, 0, none⟩ = some (.pointer (some ⟨p, 0, none⟩)) := hS2.q1.cell 0
          have hiv2 := Lib.hid (HIV.out.att1 HSW.out.dev.ok t)
          have hstep : Hid (shGo dead ⟨reclaim, 0, 0, 0, 0⟩ [] trips 0 = if t < (x.att1 dead t).now ∨ 1000000000 < t then ([], 0, 12)
            else if ((x.att1 dead t).at_ t).state = 1 ∨ ((x.att1 dead t).at_ t).state = 3 then ([], 0, 11)
            else if ((x.att1 dead t).at_ t).att = dead.length then (x.out1 dead out t, ((k : Nat) : Int) + 1, 0)
            else shGo dead ((x.att1 dead t).trip dead.length t) (x.out1 dead out t) (trips.drop (k + 1)) (k + 1)) := Lib.hid (by rw [HGO.out, HDR.out]; rfl)
          have hol2 := out1_len x dead out t
          have hpl2 := hS2.dev.blk.lt
          have HS2 := Lib.hid hS2
          clear hS2 k2
          generalize x.att1 dead t = y at *
          generalize hO : x.out1 dead out t = out2 at *
          have HO := Lib.hid hO
          clear hO
          by_cases hearly : t < y.now ∨ 1000000000 < t
          · go_wp2_with fail
            refine (rtrip_early p y _ n cap dead _ HS2.out.dev t hearly).mono ?_
            rintro e w3 ⟨rfl, k3⟩
            have K3 := K2.trans (k3.mono K2.size)
            go_wp2_with fail
            go_ret3
            refine ⟨⟨.slice none 0 0, ?_, ?_⟩, K3⟩
            · rw [hS.out, hstep.out, if_pos hearly]; rfl
            · rw [hS.out, hstep.out, if_pos hearly]; exact outI_nil _
          · have hn1 : y.now ≤ t := by omega
            have hn2 : t ≤ 1000000000 := by omega
            by_cases hst : (y.at_ t).state = 1 ∨ (y.at_ t).state = 3
            · have HST := Lib.hid hst
              clear hst
              go_wp2_with fail
              refine (rtrip_state p y _ n cap dead _ HS2.out.dev t hn1 hn2 HST.out).mono ?_
              rintro e w3 ⟨rfl, k3⟩
              have K3 := K2.trans (k3.mono K2.size)
              go_wp2_with fail
              go_ret3
              refine ⟨⟨.slice none 0 0, ?_, ?_⟩, K3⟩
              · rw [hS.out, hstep.out, if_neg hearly, if_pos HST.out]; rfl
              · rw [hS.out, hstep.out, if_neg hearly, if_pos HST.out]; exact outI_nil _
            · have hst2 : (y.at_ t).state = 0 ∨ (y.at_ t).state = 2 := by have := at_rng hiv2.out t; omega
              have HST := Lib.hid hst
              have HST2 := Lib.hid hst2
              clear hst hst2
              by_cases hl : (y.at_ t).att = dead.length
              · have hL : tripAct (y.at_ t).att dead.length = 2 := by unfold tripAct; rw [if_pos hl]
                have HL := Lib.hid hl
                clear hl
                go_wp2_with fail
                refine (rtrip_any p y _ n cap dead _ HS2.out.dev t hn1 hn2 HST2.out).mono ?_
                rw [hL]
                rintro e w3 ⟨rfl, hg3, hD3⟩
                have k3 : Below w.heap.size w2 w3 := below_dev hpw K2.size hg3
                have K3 := K2.trans k3
                have hS3 : Sh w3 (w1.heap.size + 1 + 1) p w1.heap.size (w1.heap.size + 1) (y.trip dead.length t) (some ⟨g, 0, none⟩) n cap dead out2 v' := HS2.out.devd hg3 hD3
                have c9 : w3.cell? ⟨w1.heap.size + 1, 0, none⟩ = some v' := hS3.q2.cell 0
                have HS3 := Lib.hid hS3
                clear hS3 hg3 hD3 k3
                go_wp2_with fail
                go_ret3
                refine ⟨⟨v', ?_, ?_⟩, K3⟩
                · rw [hS.out, hstep.out, if_neg hearly, if_neg HST.out, if_pos HL.out]; rfl
                · rw [hS.out, hstep.out, if_neg hearly, if_neg HST.out, if_pos HL.out]
                  exact outI_own HS3.out.own (by omega)
              · have hL : tripAct (y.at_ t).att dead.length = 0 := by unfold tripAct; rw [if_neg hl]
                have HL := Lib.hid hl
                clear hl
                go_wp2_with fail
                refine (rtrip_any p y _ n cap dead _ HS2.out.dev t hn1 hn2 HST2.out).mono ?_
                rw [hL]
                rintro e w3 ⟨rfl, hg3, hD3⟩
                have k3 : Below w.heap.size w2 w3 := below_dev hpw K2.size hg3
                have K3 := K2.trans k3
                have hS3 : Sh w3 (w1.heap.size + 1 + 1) p w1.heap.size (w1.heap.size + 1) (y.trip dead.length t) (some ⟨g, 0, none⟩) n cap dead out2 v' := HS2.out.devd hg3 hD3
                have HS3 := Lib.hid hS3
                clear hS3 hg3 hD3 k3
                go_wp2_with fail
                go_roundw
                case rel =>
                  refine ⟨k + 1, _, out2, v', by omega, rfl, HS3.out, trip_iv _ _ _, by omega, K3, ?_⟩
                  rw [hstep.out, if_neg hearly, if_neg HST.out, if_neg HL.out]
                case measure => simp [intOf]; omega
      · have hd0 : trips.drop k = [] := by rw [List.drop_eq_nil_iff]; have := hlt.out; omega
        have HD0 := Lib.hid hd0
        clear hd0
        go_wp2_with fail
        refine (att_any w.heap.size _ p _ _ x _ n cap dead out v 1000000001 wr HSW.out hpw HIV.out (by omega) (by omega)).mono ?_
        rintro e w2 ⟨rfl, v', hS2, k2⟩
        have K2 := K.trans k2
        have c9 : w2.cell? ⟨w1.heap.size + 1, 0, none⟩ = some v' := hS2.q2.cell 0
        have HS2 := Lib.hid hS2
        clear hS2 k2
        go_wp2_with fail
        go_ret3
        refine ⟨⟨v', ?_, ?_⟩, K2⟩
        · rw [hS.out, HGO.out, HD0.out]; rfl
        · rw [hS.out, HGO.out, HD0.out]
          exact outI_own HS2.out.own (by have := out1_len x dead out 1000000001; omega)
end Go.Proofs.Ytkmhemcnpbhdfaa
