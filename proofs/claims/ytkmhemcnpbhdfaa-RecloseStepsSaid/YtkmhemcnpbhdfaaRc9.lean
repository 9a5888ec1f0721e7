/- Automatic reclosing: Shots for every rule and every list of trips. -/
import Derived.Test.YtkmhemcnpbhdfaaRc4
namespace Go.Proofs.Ytkmhemcnpbhdfaa
open Go.ChangeShapes Go.WideShapes Go.ChangeAt Go.RowKit
set_option linter.unusedVariables false
attribute [local go_sem ↓] execOp_call_val
attribute [local go_sem] callVal_func setCell_drewN alloc_drewN

theorem rtick_early (p : Nat) (x : Rc) (A : Option Addr) (n c : Nat) (dead : List Int) (w : World) (hD : Dev w p x A n c dead) (t : Int) (ht : t < x.now ∨ 1000000000 < t) :
    Calls Try.prog 37 #[.pointer (some ⟨p, 0, none⟩), .int .i64 t] w fun e w' => e = .returned (.tuple #[.int .i64 0, .int .i64 12]) ∧ Below w.heap.size w w' := by
  have hlt := hD.blk.lt
  go_enter Try.func37, Try.ntmps37
  go_wp2_with fail
  refine (rat_early p x A n c dead _ hD _ ht).mono ?_
  rintro e w1 ⟨rfl, hb1⟩
  go_wp2_with fail
  go_ret2
  exact ⟨rfl, hb1.alloc hb1.size _⟩

set_option maxHeartbeats 2000000 in
theorem att_some2 (B0 base p b1 b2 : Nat) (x : Rc) (A : Option Addr) (n c : Nat) (dead out : List Int) (v : Value) (before : Int) (w : World) (h : Sh w base p b1 b2 x A n c dead out v) (hB : B0 ≤ p) (hf : x.fires dead before = true)
    (hnow : x.now ≤ x.nextT dead) (hT4 : x.nextT dead ≤ 1000000000) (hol : out.length ≤ 65536) :
    Calls Try.prog 47 #[.int .i64 before, .pointer (some ⟨b1, 0, none⟩), .pointer (some ⟨b2, 0, none⟩)] w fun e w' => e = .returned (.tuple #[]) ∧ ∃ v', Sh w' base p b1 b2 (x.tick dead (x.nextT dead)) A n c dead (out ++ [x.nextT dead]) v' ∧ Below B0 w w' := by
  obtain ⟨i0, hi0, hz0, hz1, hz2⟩ := info_parts infoInt
  have hs : x.state = 1 := by simp [Rc.fires] at hf; exact hf.1
  have hlt : x.nextT dead < before := by simp [Rc.fires] at hf; exact hf.2
  have c1 : w.cell? ⟨b1, 0, none⟩ = some (.pointer (some ⟨p, 0, none⟩)) := h.q1.cell 0
  have HH := Lib.hid h
  have HS := Lib.hid hs
  have hnx : Hid (x.nextT dead = x.since + dead.getD x.att 0) := Lib.hid rfl
  clear h hs hf
  go_enter Try.func47, Try.ntmps47
  go_wp2_with fail
  refine (rnext_some p x A n c dead _ HH.out.dev HS.out).mono ?_
  rw [← hnx.out]
  rintro e w1 ⟨rfl, nq, rfl⟩
  generalize hT : x.nextT dead = T at *
  have HT := Lib.hid hT
  clear hT
  go_wp2_with fail
  refine (rtick_any p x A n c dead (w.drewN nq) ⟨HH.out.dev.blk, HH.out.dev.rd, HH.out.dev.ok⟩ T hnow (by omega)).mono ?_
  generalize tickAct (x.ticks dead T) = ta
  rintro e w2 ⟨rfl, hg2, hD2⟩
  have hps := HH.out.pb
  have hbb := HH.out.bb
  have hb2b := HH.out.b2b
  have hbs := HH.out.bs
  have q1 : Blk w2 b1 62 #[.pointer (some ⟨p, 0, none⟩)] := Blk.grown (w := w.drewN nq) HH.out.q1 hg2 (fun e => by injection e; omega)
  have q2 : Blk w2 b2 39 #[v] := Blk.grown (w := w.drewN nq) HH.out.q2 hg2 (fun e => by injection e; omega)
  have own2 : w2.ownsRow base 3 1 v out.length (ints out) := World.ownsRow.kept (w := w.drewN nq) HH.out.own hg2 (by
    cases hv : v.ownBlock with
    | none => exact .inl rfl
    | some k => exact .inr (fun e => by injection e with e; have := (HH.out.own.lt k hv).1; omega))
  obtain ⟨e1, e2, e3⟩ : w2.cell? ⟨b2, 0, none⟩ = some v ∧ w2.frozen? ⟨b2, 0, none⟩ = false ∧ b2 < w2.heap.size := ⟨q2.cell 0, q2.frozen 0, q2.lt⟩
  have hsz : w.heap.size ≤ w2.heap.size := hg2.size
  have HQ1 := Lib.hid q1
  have HQ2 := Lib.hid q2
  have HO2 := Lib.hid own2
  have HD2 := Lib.hid hD2
  have HG2 := Lib.hid hg2
  clear q1 q2 own2 hD2 hg2 hlt hnow
  go_wp2_with (at_builtin; refine wpList_append_own_at _ rfl (.tmp 20) (.tmp 22) _ rfl base 3 i0 _ 1 8 Try.underlying39 hi0 hz0 hz1 hz2 rfl (by omega) v out.length (ints out) rfl (HO2.out.alloc _) ⟨w2.heap.size, 0, none⟩ 1 1 [.int .i64 T] rfl rfl (cell_one_new _ _ _) ?k1 ?k2 ?k3 ?k4 ?_)
  case k2 => simp only [maxLen]; omega
  case k3 => omega
  case k1 => simp [Value.oneCell']
  case k4 => simp; omega
  intro v' w3 hown3 hgrow3 hnil3 hat3
  obtain ⟨g', cap', hv', _, _⟩ := World.ownsRow.form hown3 (by omega)
  subst hv'
  have hvb : ∀ k, v.ownBlock = some k → base ≤ k := fun k hk => (HO2.out.lt k hk).1
  have k3 : Below base w2 w3 := ((Below.refl _ _).alloc (Nat.le_trans hbs hsz) (.cells #[.int .i64 T] 3)).grown hgrow3 (by simp; omega) (fun k hk => hvb k hk)
  have q2 : Blk w3 b2 39 #[v] := HQ2.out.below k3 hb2b
  obtain ⟨f1, f2, f3⟩ : w3.cell? ⟨b2, 0, none⟩ = some v ∧ w3.frozen? ⟨b2, 0, none⟩ = false ∧ b2 < w3.heap.size := ⟨q2.cell 0, q2.frozen 0, q2.lt⟩
  have HQ2' := Lib.hid q2
  have HO3 := Lib.hid hown3
  have HK3 := Lib.hid k3
  have HAT := Lib.hid hat3
  clear q2 hown3 k3 hgrow3 hnil3 hat3 hvb e1 e2 e3
  go_wp2_with fail
  go_end0
  have hx : ints (out ++ [T]) = ints out ++ [.int .i64 T] := by simp [ints]
  rw [HT.out]
  refine ⟨rfl, .slice (some ⟨g', 0, none⟩) (out.length + 1) cap', ⟨⟨?_, ?_, HD2.out.ok⟩, ?_, ?_, ?_, hps, hbb, hb2b, ?_⟩, ?_⟩
  · exact (HD2.out.blk.below HK3.out (by omega)).far (by simp; omega) _
  · have h1 : RdI w3 p A n dead := Rd.below HD2.out.rd HK3.out (by omega)
    exact ⟨h1.1, fun hn => by
      obtain ⟨b, off, e, hlt, hc⟩ := h1.2 hn
      exact ⟨b, off, e, hlt, fun j u hu => (World.cell?_setCell_other _ _ _ _ (fun e => by injection e; omega)).trans (hc j u hu)⟩⟩
  · exact (HQ1.out.below HK3.out (by omega)).far (by simp; omega) _
  · exact HQ2'.out.set_ 0 _
  · rw [hx]
    have h2 := ownsRow_setCell_below HO3.out (a := ⟨b2, 0, none⟩) (by simpa using hb2b) (.slice (some ⟨g', 0, none⟩) (out.length + 1) cap')
    simpa using h2
  · have := HK3.out.size
    simp
    omega
  · have k1 : Below B0 (w.drewN nq) w2 := below_dev hB (by show B0 ≤ w.heap.size; omega) HG2.out
    have k2 : Below B0 w w2 := ⟨k1.os, k1.tape, k1.output, k1.size, k1.block⟩
    have k4 : Below B0 w w3 := k2.trans (HK3.out.mono (by omega))
    exact k4.setCell (by simp; omega) _
set_option maxHeartbeats 2000000 in
theorem att_late (B0 base p b1 b2 : Nat) (x : Rc) (A : Option Addr) (n c : Nat) (dead out : List Int) (v : Value) (before : Int) (w : World) (h : Sh w base p b1 b2 x A n c dead out v) (hB : B0 ≤ p) (hf : x.fires dead before = true)
    (hnow : x.now ≤ x.nextT dead) (hT4 : 1000000000 < x.nextT dead) (hol : out.length ≤ 65536) :
    Calls Try.prog 47 #[.int .i64 before, .pointer (some ⟨b1, 0, none⟩), .pointer (some ⟨b2, 0, none⟩)] w fun e w' => e = .returned (.tuple #[]) ∧ ∃ v', Sh w' base p b1 b2 x A n c dead (out ++ [x.nextT dead]) v' ∧ Below B0 w w' := by
  obtain ⟨i0, hi0, hz0, hz1, hz2⟩ := info_parts infoInt
  have hs : x.state = 1 := by simp [Rc.fires] at hf; exact hf.1
  have hlt : x.nextT dead < before := by simp [Rc.fires] at hf; exact hf.2
  have c1 : w.cell? ⟨b1, 0, none⟩ = some (.pointer (some ⟨p, 0, none⟩)) := h.q1.cell 0
  have HH := Lib.hid h
  have HS := Lib.hid hs
  have hnx : Hid (x.nextT dead = x.since + dead.getD x.att 0) := Lib.hid rfl
  clear h hs hf
  go_enter Try.func47, Try.ntmps47
  go_wp2_with fail
  refine (rnext_some p x A n c dead _ HH.out.dev HS.out).mono ?_
  rw [← hnx.out]
  rintro e w1 ⟨rfl, nq, rfl⟩
  generalize hT : x.nextT dead = T at *
  have HT := Lib.hid hT
  clear hT
  go_wp2_with fail
  refine (rtick_early p x A n c dead (w.drewN nq) ⟨HH.out.dev.blk, HH.out.dev.rd, HH.out.dev.ok⟩ T (.inr hT4)).mono ?_
  rintro e w2 ⟨rfl, hg2⟩
  have hps := HH.out.pb
  have hbb := HH.out.bb
  have hb2b := HH.out.b2b
  have hbs := HH.out.bs
  have hSh2 := (HH.out.drewN nq).below hg2
  have hD2 := hSh2.dev
  have q1 := hSh2.q1
  have q2 := hSh2.q2
  have own2 := hSh2.own
  clear hSh2
  obtain ⟨e1, e2, e3⟩ : w2.cell? ⟨b2, 0, none⟩ = some v ∧ w2.frozen? ⟨b2, 0, none⟩ = false ∧ b2 < w2.heap.size := ⟨q2.cell 0, q2.frozen 0, q2.lt⟩
  have hsz : w.heap.size ≤ w2.heap.size := hg2.size
  have HQ1 := Lib.hid q1
  have HQ2 := Lib.hid q2
  have HO2 := Lib.hid own2
  have HD2 := Lib.hid hD2
  have HG2 := Lib.hid hg2
  clear q1 q2 own2 hD2 hg2 hlt hnow
  go_wp2_with (at_builtin; refine wpList_append_own_at _ rfl (.tmp 20) (.tmp 22) _ rfl base 3 i0 _ 1 8 Try.underlying39 hi0 hz0 hz1 hz2 rfl (by omega) v out.length (ints out) rfl (HO2.out.alloc _) ⟨w2.heap.size, 0, none⟩ 1 1 [.int .i64 T] rfl rfl (cell_one_new _ _ _) ?k1 ?k2 ?k3 ?k4 ?_)
  case k2 => simp only [maxLen]; omega
  case k3 => omega
  case k1 => simp [Value.oneCell']
  case k4 => simp; omega
  intro v' w3 hown3 hgrow3 hnil3 hat3
  obtain ⟨g', cap', hv', _, _⟩ := World.ownsRow.form hown3 (by omega)
  subst hv'
  have hvb : ∀ k, v.ownBlock = some k → base ≤ k := fun k hk => (HO2.out.lt k hk).1
  have k3 : Below base w2 w3 := ((Below.refl _ _).alloc (Nat.le_trans hbs hsz) (.cells #[.int .i64 T] 3)).grown hgrow3 (by simp; omega) (fun k hk => hvb k hk)
  have q2 : Blk w3 b2 39 #[v] := HQ2.out.below k3 hb2b
  obtain ⟨f1, f2, f3⟩ : w3.cell? ⟨b2, 0, none⟩ = some v ∧ w3.frozen? ⟨b2, 0, none⟩ = false ∧ b2 < w3.heap.size := ⟨q2.cell 0, q2.frozen 0, q2.lt⟩
  have HQ2' := Lib.hid q2
  have HO3 := Lib.hid hown3
  have HK3 := Lib.hid k3
  have HAT := Lib.hid hat3
  clear q2 hown3 k3 hgrow3 hnil3 hat3 hvb e1 e2 e3
  go_wp2_with fail
  go_end0
  have hx : ints (out ++ [T]) = ints out ++ [.int .i64 T] := by simp [ints]
  rw [HT.out]
  refine ⟨rfl, .slice (some ⟨g', 0, none⟩) (out.length + 1) cap', ⟨⟨?_, ?_, HD2.out.ok⟩, ?_, ?_, ?_, hps, hbb, hb2b, ?_⟩, ?_⟩
  · exact (HD2.out.blk.below HK3.out (by omega)).far (by simp; omega) _
  · have h1 : RdI w3 p A n dead := Rd.below HD2.out.rd HK3.out (by omega)
    exact ⟨h1.1, fun hn => by
      obtain ⟨b, off, e, hlt, hc⟩ := h1.2 hn
      exact ⟨b, off, e, hlt, fun j u hu => (World.cell?_setCell_other _ _ _ _ (fun e => by injection e; omega)).trans (hc j u hu)⟩⟩
  · exact (HQ1.out.below HK3.out (by omega)).far (by simp; omega) _
  · exact HQ2'.out.set_ 0 _
  · rw [hx]
    have h2 := ownsRow_setCell_below HO3.out (a := ⟨b2, 0, none⟩) (by simpa using hb2b) (.slice (some ⟨g', 0, none⟩) (out.length + 1) cap')
    simpa using h2
  · have := HK3.out.size
    simp
    omega
  · have k1 : Below B0 (w.drewN nq) w2 := HG2.out.mono (by show B0 ≤ w.heap.size; have := HH.out.dev.blk.lt; omega)
    have k2 : Below B0 w w2 := ⟨k1.os, k1.tape, k1.output, k1.size, k1.block⟩
    have k4 : Below B0 w w3 := k2.trans (HK3.out.mono (by omega))
    exact k4.setCell (by simp; omega) _

theorem att_wild (B0 base p b1 b2 : Nat) (x : Rc) (A : Option Addr) (n c : Nat) (dead out : List Int) (v : Value) (before : Int) (w : World) (h : Sh w base p b1 b2 x A n c dead out v) (hB : B0 ≤ p) (hiv : x.Iv) (hol : out.length ≤ 65536) :
    Calls Try.prog 47 #[.int .i64 before, .pointer (some ⟨b1, 0, none⟩), .pointer (some ⟨b2, 0, none⟩)] w fun e w' => e = .returned (.tuple #[]) ∧ ∃ v' x' out', Sh w' base p b1 b2 x' A n c dead out' v' ∧ Below B0 w w' := by
  cases hf : x.fires dead before with
  | true =>
    have hx := hiv.next_ h.dev.ok hf
    by_cases hT : x.nextT dead ≤ 1000000000
    · exact (att_some2 B0 base p b1 b2 x A n c dead out v before w h hB hf hx.1 hT hol).mono fun e w' ⟨he, v', hs, hb⟩ => ⟨he, v', _, _, hs, hb⟩
    · exact (att_late B0 base p b1 b2 x A n c dead out v before w h hB hf hx.1 (by omega) hol).mono fun e w' ⟨he, v', hs, hb⟩ => ⟨he, v', _, _, hs, hb⟩
  | false =>
    exact (att_none base p b1 b2 x A n c dead out v before w h hf).mono fun e w' ⟨he, nq, hw⟩ => ⟨he, v, _, _, hw ▸ h.drewN nq, hw ▸ below_drewN (Below.refl _ _) nq⟩

set_option maxHeartbeats 4000000 in
theorem shots_all2 (A : Option Addr) (n c : Nat) (dead : List Int) (reclaim : Int) (T : Option Addr) (m d : Nat) (trips : List Int) (w : World) (hr : RdI w w.heap.size A n dead) (hn : n ≤ 9223372036854775807) (ht : RdI w w.heap.size T m trips) (hm : m ≤ 9223372036854775807) (hc : ckR dead reclaim = 0) :
    Calls Try.prog 25 #[.agg #[.slice A n c, .int .i64 reclaim], .slice T m d] w fun e w' => RetS (shotsR dead reclaim trips) e w' ∧ Below w.heap.size w w' := by
  have K0 : Below w.heap.size w (w.alloc (.cells #[.slice A n c, .int .i64 reclaim] 41)) := (Below.refl _ _).alloc (Nat.le_refl _) _
  have HR := Lib.hid ((hr.below K0 (Nat.le_refl _)).more K0.size)
  have HK0 := Lib.hid K0
  have hlt := Lib.hid ht.len
  clear K0
  by_cases hm2 : 256 < m
  · have hS : Hid (shotsR dead reclaim trips = ([], 0, 2)) := Lib.hid (by unfold shotsR; rw [if_neg (by rw [hc]; simp), if_pos (by rw [hlt.out]; exact hm2)])
    have HC := Lib.hid hc
    clear hc
    go_enter Try.func25, Try.ntmps25
    go_wp2_with fail
    refine (rnew_any A n c dead reclaim _ HR.out hn HC.out).mono ?_
    rintro e w1 ⟨p, g, cap, rfl, hp, hD, k1⟩
    have K1 := HK0.out.trans (k1.mono HK0.out.size)
    clear hD k1
    go_wp2_with fail
    go_ret3
    exact ⟨⟨.slice none 0 0, by rw [hS.out]; rfl, by rw [hS.out]; exact outI_nil _⟩, K1.alloc K1.size _⟩
  · have hS : Hid (shotsR dead reclaim trips = shGo dead ⟨reclaim, 0, 0, 0, 0⟩ [] trips 0) := Lib.hid (by unfold shotsR; rw [if_neg (by rw [hc]; simp), if_neg (by rw [hlt.out]; exact hm2)])
    have HC := Lib.hid hc
    clear hc
    go_enter Try.func25, Try.ntmps25
    go_wp2_with fail
    refine (rnew_any A n c dead reclaim _ HR.out hn HC.out).mono ?_
    rintro e w1 ⟨p, g, cap, rfl, hp, hD, k1⟩
    have K1 := HK0.out.trans (k1.mono HK0.out.size)
    have HD := Lib.hid hD
    have hpw : w.heap.size ≤ p := by simp at hp; omega
    have hpl := hD.blk.lt
    clear hD k1
    go_wp2_with fail
    have hSh : Sh ((w1.alloc (.cells #[.pointer (some ⟨p, 0, none⟩)] 62)).alloc (.cells #[.slice none 0 0] 39)) (w1.heap.size + 1 + 1) p w1.heap.size (w1.heap.size + 1) ⟨reclaim, 0, 0, 0, 0⟩ (some ⟨g, 0, none⟩) n cap dead [] (.slice none 0 0) :=
      ⟨HD.out.below (((Below.refl _ _).alloc (Nat.le_refl _) _).alloc (by simp) _), (Blk.new w1 _ _).alloc _, Blk.new_ (by simp), ⟨rfl, .inl ⟨rfl, rfl⟩⟩, hpl, by omega, by omega, by simp⟩
    have K2 : Below w.heap.size w ((w1.alloc (.cells #[.pointer (some ⟨p, 0, none⟩)] 62)).alloc (.cells #[.slice none 0 0] 39)) := (K1.alloc K1.size _).alloc (by simp; have := K1.size; omega) _
    have HSH := Lib.hid hSh
    have HK2 := Lib.hid K2
    clear hSh K2
    go_loopw [11, 12, 13, 14, 29] (fun _ _ _ _ i wr => ∃ (k : Nat) (x : Rc) (out : List Int) (v : Value), k ≤ m ∧ i = .int .i64 k ∧ Sh wr (w1.heap.size + 1 + 1) p w1.heap.size (w1.heap.size + 1) x (some ⟨g, 0, none⟩) n cap dead out v ∧ x.Iv ∧ out.length ≤ k ∧ Below w.heap.size w wr ∧
      shGo dead ⟨reclaim, 0, 0, 0, 0⟩ [] trips 0 = shGo dead x out (trips.drop k) k) (fun _ _ _ _ i _ => m - (intOf i).toNat)
    case atStart => exact ⟨0, _, [], _, by omega, rfl, HSH.out, ⟨(fun h => by cases h), by simp, by simp⟩, by simp, HK2.out, rfl⟩
    case round =>
      obtain ⟨k, x, out, v, hk, rfl, hSw, hiv, hol, K, hgo⟩ := hrel
      have HSW := Lib.hid hSw
      have HGO := Lib.hid hgo
      have HIV := Lib.hid hiv
      clear hSw hgo hiv
      by_cases hltk : k < m
      · obtain ⟨t, htk⟩ : ∃ t, trips[k]? = some t := ⟨_, List.getElem?_eq_getElem (by have := hlt.out; omega)⟩
        obtain ⟨tb, to, rfl, htlt, _⟩ := (ht.below K (Nat.le_refl _)).2 (by omega)
        have hcell := (ht.below K (Nat.le_refl _)).at_ htk
        have HDR := Lib.hid (drop_cons htk)
        clear htk
        by_cases htmax : t ≤ 1000000000
        · have htb : t ≤ 1000000001 := by omega
          go_wp2_with fail
          refine (att_any w.heap.size _ p _ _ x _ n cap dead out v t wr HSW.out hpw HIV.out htb (by omega)).mono ?_
          rintro e w2 ⟨rfl, v', hS2, k2⟩
          have K2 := K.trans k2
          have c7 : w2.cell? ⟨w1.heap.size, 0, none⟩ = some (.pointer (some ⟨p, 0, none⟩)) := hS2.q1.cell 0
          have hiv2 := Lib.hid (HIV.out.att1 HSW.out.dev.ok t)
          have hstep : Hid (shGo dead ⟨reclaim, 0, 0, 0, 0⟩ [] trips 0 = if t < (x.att1 dead t).now ∨ 1000000000 < t then ([], 0, 12)
            else if ((x.att1 dead t).at_ t).state = 1 ∨ ((x.att1 dead t).at_ t).state = 3 then ([], 0, 11)
            else if ((x.att1 dead t).at_ t).att = dead.length then (x.out1 dead out t, ((k : Nat) : Int) + 1, 0)
            else shGo dead ((x.att1 dead t).trip dead.length t) (x.out1 dead out t) (trips.drop (k + 1)) (k + 1)) := Lib.hid (by rw [HGO.out, HDR.out]; rfl)
          have hol2 := out1_len x dead out t
          have hpl2 := hS2.dev.blk.lt
          have HS2 := Lib.hid hS2
          clear hS2 k2
          generalize x.att1 dead t = y at *
          generalize hO : x.out1 dead out t = out2 at *
          have HO := Lib.hid hO
          clear hO
          by_cases hearly : t < y.now ∨ 1000000000 < t
          · go_wp2_with fail
            refine (rtrip_early p y _ n cap dead _ HS2.out.dev t hearly).mono ?_
            rintro e w3 ⟨rfl, k3⟩
            have K3 := K2.trans (k3.mono K2.size)
            go_wp2_with fail
            go_ret3
            refine ⟨⟨.slice none 0 0, ?_, ?_⟩, K3⟩
            · rw [hS.out, hstep.out, if_pos hearly]; rfl
            · rw [hS.out, hstep.out, if_pos hearly]; exact outI_nil _
          · have hn1 : y.now ≤ t := by omega
            have hn2 : t ≤ 1000000000 := by omega
            by_cases hst : (y.at_ t).state = 1 ∨ (y.at_ t).state = 3
            · have HST := Lib.hid hst
              clear hst
              go_wp2_with fail
              refine (rtrip_state p y _ n cap dead _ HS2.out.dev t hn1 hn2 HST.out).mono ?_
              rintro e w3 ⟨rfl, k3⟩
              have K3 := K2.trans (k3.mono K2.size)
              go_wp2_with fail
              go_ret3
              refine ⟨⟨.slice none 0 0, ?_, ?_⟩, K3⟩
              · rw [hS.out, hstep.out, if_neg hearly, if_pos HST.out]; rfl
              · rw [hS.out, hstep.out, if_neg hearly, if_pos HST.out]; exact outI_nil _
            · have hst2 : (y.at_ t).state = 0 ∨ (y.at_ t).state = 2 := by have := at_rng hiv2.out t; omega
              have HST := Lib.hid hst
              have HST2 := Lib.hid hst2
              clear hst hst2
              by_cases hl : (y.at_ t).att = dead.length
              · have hL : tripAct (y.at_ t).att dead.length = 2 := by unfold tripAct; rw [if_pos hl]
                have HL := Lib.hid hl
                clear hl
                go_wp2_with fail
                refine (rtrip_any p y _ n cap dead _ HS2.out.dev t hn1 hn2 HST2.out).mono ?_
                rw [hL]
                rintro e w3 ⟨rfl, hg3, hD3⟩
                have k3 : Below w.heap.size w2 w3 := below_dev hpw K2.size hg3
                have K3 := K2.trans k3
                have hS3 : Sh w3 (w1.heap.size + 1 + 1) p w1.heap.size (w1.heap.size + 1) (y.trip dead.length t) (some ⟨g, 0, none⟩) n cap dead out2 v' := HS2.out.devd hg3 hD3
                have c9 : w3.cell? ⟨w1.heap.size + 1, 0, none⟩ = some v' := hS3.q2.cell 0
                have HS3 := Lib.hid hS3
                clear hS3 hg3 hD3 k3
                go_wp2_with fail
                go_ret3
                refine ⟨⟨v', ?_, ?_⟩, K3⟩
                · rw [hS.out, hstep.out, if_neg hearly, if_neg HST.out, if_pos HL.out]; rfl
                · rw [hS.out, hstep.out, if_neg hearly, if_neg HST.out, if_pos HL.out]
                  exact outI_own HS3.out.own (by omega)
              · have hL : tripAct (y.at_ t).att dead.length = 0 := by unfold tripAct; rw [if_neg hl]
                have HL := Lib.hid hl
                clear hl
                go_wp2_with fail
                refine (rtrip_any p y _ n cap dead _ HS2.out.dev t hn1 hn2 HST2.out).mono ?_
                rw [hL]
                rintro e w3 ⟨rfl, hg3, hD3⟩
                have k3 : Below w.heap.size w2 w3 := below_dev hpw K2.size hg3
                have K3 := K2.trans k3
                have hS3 : Sh w3 (w1.heap.size + 1 + 1) p w1.heap.size (w1.heap.size + 1) (y.trip dead.length t) (some ⟨g, 0, none⟩) n cap dead out2 v' := HS2.out.devd hg3 hD3
                have HS3 := Lib.hid hS3
                clear hS3 hg3 hD3 k3
                go_wp2_with fail
                go_roundw
                case rel =>
                  refine ⟨k + 1, _, out2, v', by omega, rfl, HS3.out, trip_iv _ _ _, by omega, K3, ?_⟩
                  rw [hstep.out, if_neg hearly, if_neg HST.out, if_neg HL.out]
                case measure => simp [intOf]; omega
        · have hstep : Hid (shGo dead ⟨reclaim, 0, 0, 0, 0⟩ [] trips 0 = ([], 0, 12)) := Lib.hid (by rw [HGO.out, HDR.out]; show (if t < (x.att1 dead t).now ∨ 1000000000 < t then _ else _) = _; rw [if_pos (by omega)])
          have hbig : ∀ y : Rc, t < y.now ∨ 1000000000 < t := fun y => .inr (by omega)
          have HBIG := Lib.hid hbig
          clear hbig
          go_wp2_with fail
          refine (att_wild w.heap.size _ p _ _ x _ n cap dead out v t wr HSW.out hpw HIV.out (by omega)).mono ?_
          rintro e w2 ⟨rfl, v', y, out2, hS2, k2⟩
          have K2 := K.trans k2
          have c7 : w2.cell? ⟨w1.heap.size, 0, none⟩ = some (.pointer (some ⟨p, 0, none⟩)) := hS2.q1.cell 0
          have HS2 := Lib.hid hS2
          clear hS2 k2
          go_wp2_with fail
          refine (rtrip_early p y _ n cap dead _ HS2.out.dev t (HBIG.out y)).mono ?_
          rintro e w3 ⟨rfl, k3⟩
          have K3 := K2.trans (k3.mono K2.size)
          go_wp2_with fail
          go_ret3
          refine ⟨⟨.slice none 0 0, ?_, ?_⟩, K3⟩
          · rw [hS.out, hstep.out]; rfl
          · rw [hS.out, hstep.out]; exact outI_nil _
      · have hd0 : trips.drop k = [] := by rw [List.drop_eq_nil_iff]; have := hlt.out; omega
        have HD0 := Lib.hid hd0
        clear hd0
        go_wp2_with fail
        refine (att_any w.heap.size _ p _ _ x _ n cap dead out v 1000000001 wr HSW.out hpw HIV.out (by omega) (by omega)).mono ?_
        rintro e w2 ⟨rfl, v', hS2, k2⟩
        have K2 := K.trans k2
        have c9 : w2.cell? ⟨w1.heap.size + 1, 0, none⟩ = some v' := hS2.q2.cell 0
        have HS2 := Lib.hid hS2
        clear hS2 k2
        go_wp2_with fail
        go_ret3
        refine ⟨⟨v', ?_, ?_⟩, K2⟩
        · rw [hS.out, HGO.out, HD0.out]; rfl
        · rw [hS.out, HGO.out, HD0.out]
          exact outI_own HS2.out.own (by have := out1_len x dead out 1000000001; omega)

set_option maxHeartbeats 1000000 in
theorem shots_err (A : Option Addr) (n c : Nat) (dead : List Int) (reclaim : Int) (T : Option Addr) (m d : Nat) (trips : List Int) (w : World) (hr : RdI w w.heap.size A n dead) (hn : n ≤ 9223372036854775807) (hc : ckR dead reclaim ≠ 0) :
    Calls Try.prog 25 #[.agg #[.slice A n c, .int .i64 reclaim], .slice T m d] w fun e w' => RetS (shotsR dead reclaim trips) e w' ∧ Below w.heap.size w w' := by
  have K0 : Below w.heap.size w (w.alloc (.cells #[.slice A n c, .int .i64 reclaim] 41)) := (Below.refl _ _).alloc (Nat.le_refl _) _
  have HR := Lib.hid ((hr.below K0 (Nat.le_refl _)).more K0.size)
  have HK0 := Lib.hid K0
  clear K0
  have hS : Hid (shotsR dead reclaim trips = ([], 0, ckR dead reclaim)) := Lib.hid (by unfold shotsR; rw [if_pos hc])
  have hcb : (ckR dead reclaim != 0) = true := by simpa using hc
  have HC := Lib.hid hc
  clear hc
  go_enter Try.func25, Try.ntmps25
  go_wp2_with fail
  refine (rnew_err A n c dead reclaim _ HR.out hn HC.out).mono ?_
  rintro e w1 ⟨rfl, k1⟩
  have K1 := HK0.out.trans (k1.mono HK0.out.size)
  clear k1
  go_wp2_with fail
  go_ret3
  refine ⟨⟨.slice none 0 0, ?_, ?_⟩, K1.alloc K1.size _⟩
  · rw [hS.out]; rfl
  · rw [hS.out]; exact outI_nil _

theorem shots_all (A : Option Addr) (n c : Nat) (dead : List Int) (reclaim : Int) (T : Option Addr) (m d : Nat) (trips : List Int) (w : World) (hr : RdI w w.heap.size A n dead) (hn : n ≤ 9223372036854775807) (ht : RdI w w.heap.size T m trips) (hm : m ≤ 9223372036854775807) :
    Calls Try.prog 25 #[.agg #[.slice A n c, .int .i64 reclaim], .slice T m d] w fun e w' => RetS (shotsR dead reclaim trips) e w' ∧ Below w.heap.size w w' := by
  by_cases hc : ckR dead reclaim = 0
  · exact shots_all2 A n c dead reclaim T m d trips w hr hn ht hm hc
  · exact shots_err A n c dead reclaim T m d trips w hr hn hc
end Go.Proofs.Ytkmhemcnpbhdfaa
