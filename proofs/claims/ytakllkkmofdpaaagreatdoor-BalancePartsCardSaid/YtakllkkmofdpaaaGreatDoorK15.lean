/- Parts of the proof, put together into one file. -/
import Derived.Test.YtakllkkmofdpaaaGreatDoorK02
import Derived.Test.YtakllkkmofdpaaaGreatDoorK14
/- An append of one rational number onto an owned row. -/
namespace Go.Proofs.YtakllkkmofdpaaaGreatDoor
open Go.ChangeShapes Go.WideShapes Go.ChangeAt Go.RowKit Go.Joins
set_option linter.unusedVariables false
set_option linter.unusedSimpArgs false

theorem wpList_appQ {ops : Array Oper} {rest : List Oper} {o : Oper} {a : Act} {Q : Exit → Act → World → Prop} {w : World} {T : TypeId} (hgd : o.guard = none) (s x : Operand) (t : TypeId)
    (ho : o.op = .call { callee := .builtin .append, args := #[s, x], argTypes := #[t, t] }) (base : Nat)
    (ht : Tryz.prog.underlying t = some (.slice 93))
    (v : Value) (vs : List Rv) (qs : List Rat) (hs : a.eval s = v) (hown : OwnQ w base v vs qs) (u : Rv) (q : Rat) (hq : RtV w w.heap.size q u)
    (hx : a.eval x = .slice (some ⟨w.heap.size, 0, none⟩) 1 1) (h63 : qs.length ≤ 1000000000000) (hbase : base ≤ w.heap.size)
    (h : ∀ v' w', OwnQ w' base v' (vs ++ [u]) (qs ++ [q]) → Keeps NoI base 93 (w.alloc (.cells #[.bool u.b1, .slice u.A u.n u.c, .bool u.b2, .slice u.A2 u.m u.d] T)) w' → Below base w w' → wpList Tryz.prog ops Q rest (a.put o.dst v') w') :
    wpList Tryz.prog ops Q (o :: rest) a (w.alloc (.cells #[.bool u.b1, .slice u.A u.n u.c, .bool u.b2, .slice u.A2 u.m u.d] T)) := by
  obtain ⟨i0, hi0, hz0, hz1, hz2⟩ := rat_parts
  have hl := hown.len
  refine wpList_appS (S := NoI) hgd s x t ho base 93 i0 _ 4 64 ht hi0 hz0 hz1 hz2 rfl (by omega) zr_noI v vs.length (rvs vs) hs hown.own hx rfl (rv_noI u) (by simp only [maxLen]; omega) (by omega) hbase fun v' w' h1 h2 _ => ?_
  have hb : Below w.heap.size w (w.alloc (.cells #[.bool u.b1, .slice u.A u.n u.c, .bool u.b2, .slice u.A2 u.m u.d] T)) := (Below.refl _ _).alloc (Nat.le_refl _) _
  exact h v' w' (OwnQ.app (hown.keep hb) (hq.up hb) h1 h2) h2 ((hb.mono hbase).trans h2.low)
end Go.Proofs.YtakllkkmofdpaaaGreatDoor
/- The check of a network, as a whole. -/
namespace Go.Proofs.YtakllkkmofdpaaaGreatDoor
open Go.ChangeShapes Go.WideShapes Go.ChangeAt Go.RowKit Go.Joins Go.Deep Go.Maps
set_option linter.unusedVariables false
attribute [local go_sem ↓] execOp_call_val
attribute [local go_sem] callVal_func setCell_drewN alloc_drewN sEq_walk


theorem grown_refl (w : World) (row : Option Nat) : w.grownBy w row := ⟨rfl, rfl, rfl, Nat.le_refl _, fun _ _ _ => rfl⟩
theorem Ck.start {w : World} {b : Nat} {h : NetH} {x : Net} (hS : SeenM w b 0 []) (r : RdNet w w.heap.size h x) : Ck w w b h.A0 h.n0 x.nodes h x [] := ⟨grown_refl _ _, hS, r.r0, r⟩

set_option maxRecDepth 100000 in
set_option maxHeartbeats 2000000 in
theorem check_large (h : NetH) (x : Net) (w : World) (r : RdNet w w.heap.size h x) (hl : netLarge x) :
    Calls Tryz.prog 73 #[.agg h.cells] w fun e w' => e = .returned (.int .i64 (netCk x)) ∧ Below w.heap.size w w' := by
  have HR := Lib.hid (show netCk x = 2 by unfold netCk; rw [if_pos hl])
  have K0 : Below w.heap.size w (w.alloc (.cells h.cells 33)) := (Below.refl _ _).alloc (Nat.le_refl _) _
  have HK := Lib.hid K0
  have l0 := r.r0.1; have l1 := r.r1.1; have l2 := r.r2.1; have l3 := r.r3.1; have l4 := r.r4.1; have l5 := r.r5.1
  have i0 := r.m0; have i1 := r.m1; have i2 := r.m2; have i3 := r.m3; have i4 := r.m4; have i5 := r.m5
  unfold netLarge at hl
  rw [l0, l1, l2, l3, l4, l5] at hl
  clear K0 l0 l1 l2 l3 l4 l5 r
  obtain ⟨A0, m0, c0, A1, m1, c1, A2, m2, c2, A3, m3, c3, A4, m4, c4, A5, m5, c5⟩ := h
  dsimp only [NetH.cells] at *
  by_cases h0 : 24 < m0
  · clear hl
    go_enter Tryz.func73, Tryz.ntmps73
    go_wp2_with fail
    go_ret
    exact ⟨ret_int HR.out.symm, HK.out⟩
  · skip
    by_cases h1 : 32 < m1
    · clear hl
      go_enter Tryz.func73, Tryz.ntmps73
      go_wp2_with fail
      go_ret
      exact ⟨ret_int HR.out.symm, HK.out⟩
    · skip
      by_cases h2 : 24 < m2
      · clear hl
        go_enter Tryz.func73, Tryz.ntmps73
        go_wp2_with fail
        go_ret
        exact ⟨ret_int HR.out.symm, HK.out⟩
      · skip
        by_cases h3 : 10 < m3
        · clear hl
          go_enter Tryz.func73, Tryz.ntmps73
          go_wp2_with fail
          go_ret
          exact ⟨ret_int HR.out.symm, HK.out⟩
        · skip
          by_cases h4 : 12 < m4
          · clear hl
            go_enter Tryz.func73, Tryz.ntmps73
            go_wp2_with fail
            go_ret
            exact ⟨ret_int HR.out.symm, HK.out⟩
          · skip
            have h5 : 4 < m5 := by omega
            clear hl
            go_enter Tryz.func73, Tryz.ntmps73
            go_wp2_with fail
            go_ret
            exact ⟨ret_int HR.out.symm, HK.out⟩

set_option maxRecDepth 100000 in
set_option maxHeartbeats 8000000 in
theorem check_small (h : NetH) (x : Net) (w : World) (r : RdNet w w.heap.size h x) (hl : ¬ netLarge x) :
    Calls Tryz.prog 73 #[.agg h.cells] w fun e w' => e = .returned (.int .i64 (netCk x)) ∧ Below w.heap.size w w' := by
  have HW0 : Hid (netCk x = ck0 x) := Lib.hid (by unfold netCk; rw [if_neg hl])
  have l0 := r.r0.1; have l1 := r.r1.1; have l2 := r.r2.1; have l3 := r.r3.1; have l4 := r.r4.1; have l5 := r.r5.1
  unfold netLarge at hl
  rw [l0, l1, l2, l3, l4, l5] at hl
  obtain ⟨A0, m0, c0, A1, m1, c1, A2, m2, c2, A3, m3, c3, A4, m4, c4, A5, m5, c5⟩ := h
  dsimp only [NetH.cells] at *
  have hm0' : m0 ≤ 24 := by omega
  have hm1 : m1 ≤ 32 := by omega
  have hm2 : m2 ≤ 24 := by omega
  have hm3 : m3 ≤ 10 := by omega
  have hm4 : m4 ≤ 12 := by omega
  have hm5 : m5 ≤ 4 := by omega
  have hm0 : m0 ≤ 9223372036854775807 := by omega
  clear hl l0 l1 l2 l3 l4 l5
  generalize hnd : x.nodes = nodes
  have HND := Lib.hid hnd
  have K1 : Below w.heap.size w (((w.alloc (.cells #[.slice A0 m0 c0, .slice A1 m1 c1, .slice A2 m2 c2, .slice A3 m3 c3, .slice A4 m4 c4, .slice A5 m5 c5] 33)).alloc (.map #[] 0)).alloc (.cells #[.map (some (w.heap.size + 1)), .slice A0 m0 c0] 161)) := (((Below.refl _ _).alloc (Nat.le_refl _) _).alloc (by simp) _).alloc (by simp; omega) _
  have hb2 : Below (w.heap.size + 1 + 1) ((w.alloc (.cells #[.slice A0 m0 c0, .slice A1 m1 c1, .slice A2 m2 c2, .slice A3 m3 c3, .slice A4 m4 c4, .slice A5 m5 c5] 33)).alloc (.map #[] 0)) (((w.alloc (.cells #[.slice A0 m0 c0, .slice A1 m1 c1, .slice A2 m2 c2, .slice A3 m3 c3, .slice A4 m4 c4, .slice A5 m5 c5] 33)).alloc (.map #[] 0)).alloc (.cells #[.map (some (w.heap.size + 1)), .slice A0 m0 c0] 161)) := (Below.refl _ _).alloc (by simp) _
  have hS0 : SeenM (((w.alloc (.cells #[.slice A0 m0 c0, .slice A1 m1 c1, .slice A2 m2 c2, .slice A3 m3 c3, .slice A4 m4 c4, .slice A5 m5 c5] 33)).alloc (.map #[] 0)).alloc (.cells #[.map (some (w.heap.size + 1)), .slice A0 m0 c0] 161)) (w.heap.size + 1) 0 [] := by
    have h0 := SeenM.made (w.alloc (.cells #[.slice A0 m0 c0, .slice A1 m1 c1, .slice A2 m2 c2, .slice A3 m3 c3, .slice A4 m4 c4, .slice A5 m5 c5] 33))
    have h1 := h0.below ((Below.refl _ _).alloc (Nat.le_refl _) (.cells #[.map (some (w.heap.size + 1)), .slice A0 m0 c0] 161))
    simpa using h1
  have HC := Lib.hid (Ck.start hS0 (r.up K1))
  have HQ2 : Hid (Blk (((w.alloc (.cells #[.slice A0 m0 c0, .slice A1 m1 c1, .slice A2 m2 c2, .slice A3 m3 c3, .slice A4 m4 c4, .slice A5 m5 c5] 33)).alloc (.map #[] 0)).alloc (.cells #[.map (some (w.heap.size + 1)), .slice A0 m0 c0] 161)) w.heap.size 33 #[.slice A0 m0 c0, .slice A1 m1 c1, .slice A2 m2 c2, .slice A3 m3 c3, .slice A4 m4 c4, .slice A5 m5 c5]) := Lib.hid (((Blk.new w _ _).alloc _).alloc _)
  have HQ1 : Hid (Blk (((w.alloc (.cells #[.slice A0 m0 c0, .slice A1 m1 c1, .slice A2 m2 c2, .slice A3 m3 c3, .slice A4 m4 c4, .slice A5 m5 c5] 33)).alloc (.map #[] 0)).alloc (.cells #[.map (some (w.heap.size + 1)), .slice A0 m0 c0] 161)) (w.heap.size + 1 + 1) 161 #[.map (some (w.heap.size + 1)), .slice A0 m0 c0]) := Lib.hid (Blk.new_ (by simp))
  have HNET := Lib.hid HC.out.net
  have HBELOW : Hid (∀ {w' : World}, (((w.alloc (.cells #[.slice A0 m0 c0, .slice A1 m1 c1, .slice A2 m2 c2, .slice A3 m3 c3, .slice A4 m4 c4, .slice A5 m5 c5] 33)).alloc (.map #[] 0)).alloc (.cells #[.map (some (w.heap.size + 1)), .slice A0 m0 c0] 161)).grownBy w' (some (w.heap.size + 1)) → Below w.heap.size w w') :=
    Lib.hid fun hg => below_only K1 hg (by omega) (Nat.le_refl _)
  obtain ⟨y0, y1, y2, y3, y4, y5, nf, nlt⟩ := net_box (h := ⟨A0, m0, c0, A1, m1, c1, A2, m2, c2, A3, m3, c3, A4, m4, c4, A5, m5, c5⟩) HQ2.out
  rw [hnd] at HC
  clear r hnd K1 hb2 hS0
  have hmake := @run_makeMap Tryz.prog
  go_enter Tryz.func73, Tryz.ntmps73
  go_wp2_with fail
  clear hmake
  generalize hWW : (((w.alloc (.cells #[.slice A0 m0 c0, .slice A1 m1 c1, .slice A2 m2 c2, .slice A3 m3 c3, .slice A4 m4 c4, .slice A5 m5 c5] 33)).alloc (.map #[] 0)).alloc (.cells #[.map (some (w.heap.size + 1)), .slice A0 m0 c0] 161)) = W0 at *
  clear hWW
  have hlen0 : Hid (x.nodes.length = m0) := Lib.hid HNET.out.r0.1
  go_loopw [55] (fun i wr => ∃ (k : Nat) (seen0 : List ByteArray), k ≤ m0 ∧ i = .int .i64 k ∧ Ck W0 wr (w.heap.size + 1) A0 m0 nodes ⟨A0, m0, c0, A1, m1, c1, A2, m2, c2, A3, m3, c3, A4, m4, c4, A5, m5, c5⟩ x seen0 ∧ Blk wr (w.heap.size + 1 + 1) 161 #[.map (some (w.heap.size + 1)), .slice A0 m0 c0] ∧ Blk wr w.heap.size 33 #[.slice A0 m0 c0, .slice A1 m1 c1, .slice A2 m2 c2, .slice A3 m3 c3, .slice A4 m4 c4, .slice A5 m5 c5] ∧ seen0.length ≤ k ∧ ckList (fNode nodes) id [] x.nodes = ckList (fNode nodes) id seen0 (x.nodes.drop k)) (fun i _ => m0 - (intOf i).toNat)
  case atStart => exact ⟨0, [], by omega, rfl, HC.out, HQ1.out, HQ2.out, by simp, rfl⟩
  case round =>
    clear HC HQ1 HQ2 HNET
    obtain ⟨k, seen0, hk, rfl, hC, hq1, hq2, hcnt, hgo⟩ := hrel
    have HC := Lib.hid hC
    have HQ1 := Lib.hid hq1
    have HQ2 := Lib.hid hq2
    have HGO := Lib.hid hgo
    obtain ⟨g0, g1, gf, glt⟩ := check_box hq1
    obtain ⟨y0, y1, y2, y3, y4, y5, nf, nlt⟩ := net_box (h := ⟨A0, m0, c0, A1, m1, c1, A2, m2, c2, A3, m3, c3, A4, m4, c4, A5, m5, c5⟩) hq2
    have hbw := hC.sn.lt
    have HNET := Lib.hid hC.net
    clear hC hq1 hq2 hgo
    by_cases hlt : k < m0
    · obtain ⟨z, hz⟩ : ∃ z, x.nodes[k]? = some z := ⟨_, List.getElem?_eq_getElem (by have := hlen0.out; omega)⟩
      obtain ⟨bz, oz, hA, hbz⟩ := HC.out.net.r0.form (by dsimp only; omega)
      dsimp only at hA
      subst hA
      have e0 := HC.out.net.r0.at_ hz
      have hzn := HC.out.net.z0 z (List.mem_of_getElem? hz)
      have HZ := Lib.hid (drop_cons hz)
      clear hz
      go_wp2_with fail
      refine (device_any (w.heap.size + 1) _ _ m0 c0 nodes seen0 z _ 0 0 [] _ HC.out.rn hm0 HC.out.sn (by omega) hzn (rdStr_nil _ _ _) (by omega)).mono ?_
      generalize hR : devR nodes seen0 z [] = r
      rintro e w2 ⟨rfl, hg2, hS2⟩
      have hq1 := Blk.grown HQ1.out hg2 (fun e => by injection e; omega)
      have hq2 := Blk.grown HQ2.out hg2 (fun e => by injection e; omega)
      have HG2 := Lib.hid (only_trans HC.out.gr hg2)
      have HS2 := Lib.hid hS2
      have Hg2 := Lib.hid hg2
      have HQ1' := Lib.hid hq1
      have HQ2' := Lib.hid hq2
      have HRR := Lib.hid hR
      clear hg2 hS2 hq1 hq2 hR e0
      by_cases hr0 : r = 0
      · subst hr0
        have HC3 := Lib.hid (HC.out.put Hg2.out (HS2.out rfl))
        have hf : fNode nodes seen0 z = 0 := HRR.out
        have HF := Lib.hid hf
        clear hf
        go_wp2_with fail
        go_roundw
        case rel => exact ⟨k + 1, z :: seen0, by omega, by go_num, HC3.out, HQ1'.out, HQ2'.out, by simp; omega, by rw [HGO.out]; exact ckList_ok HZ.out HF.out⟩
        case measure => simp [intOf]; omega
      · have hrb : (r != 0) = true := by simpa using hr0
        have hr : (ckList (fNode nodes) id [] x.nodes).1 = r := by rw [HGO.out]; exact ckList_bad HZ.out HRR.out hr0
        have HR4 := Lib.hid hr
        have HR0 := Lib.hid hr0
        clear hr hr0
        go_wp2_with fail
        go_ret
        exact ⟨ret_int (by rw [HW0.out]; unfold ck0; rw [(show fNode x.nodes = fNode nodes by rw [HND.out]), if_pos (by rw [HR4.out]; exact HR0.out), HR4.out]), HBELOW.out HG2.out⟩
    · have hd : x.nodes.drop k = [] := by rw [List.drop_eq_nil_iff]; have := hlen0.out; omega
      have hr : ckList (fNode nodes) id [] x.nodes = (0, seen0) := by rw [HGO.out, hd]; rfl
      have HL0 := Lib.hid hr
      have hcnt0 : seen0.length ≤ m0 := by omega
      clear hd hr hcnt
      have HW1 : Hid (netCk x = ck1 x seen0) := Lib.hid (by rw [HW0.out]; unfold ck0; rw [show fNode x.nodes = fNode nodes by rw [HND.out], HL0.out]; rfl)
      go_wp2_with fail
      have hlen1 : Hid (x.sws.length = m1) := Lib.hid HNET.out.r1.1
      go_loopw [69] (fun i wr => ∃ (k : Nat) (seen1 : List ByteArray), k ≤ m1 ∧ i = .int .i64 k ∧ Ck W0 wr (w.heap.size + 1) A0 m0 nodes ⟨A0, m0, c0, A1, m1, c1, A2, m2, c2, A3, m3, c3, A4, m4, c4, A5, m5, c5⟩ x seen1 ∧ Blk wr (w.heap.size + 1 + 1) 161 #[.map (some (w.heap.size + 1)), (.slice A0 m0 c0)] ∧ Blk wr w.heap.size 33 #[.slice A0 m0 c0, .slice A1 m1 c1, .slice A2 m2 c2, .slice A3 m3 c3, .slice A4 m4 c4, .slice A5 m5 c5] ∧ seen1.length ≤ seen0.length + k ∧ ckList (fSw nodes) Sw.name seen0 x.sws = ckList (fSw nodes) Sw.name seen1 (x.sws.drop k)) (fun i _ => m1 - (intOf i).toNat)
      case atStart => exact ⟨0, seen0, by omega, rfl, HC.out, HQ1.out, HQ2.out, by omega, rfl⟩
      case round =>
        clear HC HQ1 HQ2 HNET
        obtain ⟨k, seen1, hk, rfl, hC, hq1, hq2, hcnt, hgo⟩ := hrel
        have HC := Lib.hid hC
        have HQ1 := Lib.hid hq1
        have HQ2 := Lib.hid hq2
        have HGO := Lib.hid hgo
        obtain ⟨g0, g1, gf, glt⟩ := check_box hq1
        obtain ⟨y0, y1, y2, y3, y4, y5, nf, nlt⟩ := net_box (h := ⟨A0, m0, c0, A1, m1, c1, A2, m2, c2, A3, m3, c3, A4, m4, c4, A5, m5, c5⟩) hq2
        have hbw := hC.sn.lt
        have HNET := Lib.hid hC.net
        clear hC hq1 hq2 hgo
        by_cases hlt : k < m1
        · obtain ⟨z, hz⟩ : ∃ z, x.sws[k]? = some z := ⟨_, List.getElem?_eq_getElem (by have := hlen1.out; omega)⟩
          obtain ⟨bz, oz, hA, hbz⟩ := HC.out.net.r1.form (by dsimp only; omega)
          dsimp only at hA
          subst hA
          obtain ⟨e0, e1, e2, e3, e4⟩ := HC.out.net.r1.at_ hz
          have hzn := HC.out.net.z1 z (List.mem_of_getElem? hz)
          have HZ := Lib.hid (drop_cons hz)
          clear hz
          go_wp2_with fail
          have hB := below2 wr (.cells #[.string z.name, .string z.a, .string z.b, .bool z.breaker, .bool z.opn] 139) (.cells #[.string z.a, .string z.b] 9)
          have hE : RdStr ((wr.alloc (.cells #[.string z.name, .string z.a, .string z.b, .bool z.breaker, .bool z.opn] 139)).alloc (.cells #[.string z.a, .string z.b] 9)) ((wr.alloc (.cells #[.string z.name, .string z.a, .string z.b, .bool z.breaker, .bool z.opn] 139)).alloc (.cells #[.string z.a, .string z.b] 9)).heap.size (some ⟨wr.heap.size + 1, 0, none⟩) 2 [z.a, z.b] := rdStr_lit (zs := [z.a, z.b]) (Blk.new_ (by simp)) (by simp)
          have hC2 := HC.out.below hB
          refine (device_any (w.heap.size + 1) _ _ m0 c0 nodes seen1 z.name _ 2 2 [z.a, z.b] _ hC2.rn hm0 hC2.sn (by omega) hzn hE (by omega)).mono ?_
          generalize hR : devR nodes seen1 z.name [z.a, z.b] = r
          rintro e w2 ⟨rfl, hg2, hS2⟩
          have hq3 : Blk w2 wr.heap.size 139 #[.string z.name, .string z.a, .string z.b, .bool z.breaker, .bool z.opn] := Blk.grown ((Blk.new wr _ _).alloc _) hg2 (fun e => by injection e; omega)
          have hq1 : Blk w2 (w.heap.size + 1 + 1) 161 #[.map (some (w.heap.size + 1)), (.slice A0 m0 c0)] := Blk.grown (HQ1.out.below hB HQ1.out.lt) hg2 (fun e => by injection e; omega)
          have hq2 := Blk.grown (HQ2.out.below hB HQ2.out.lt) hg2 (fun e => by injection e; omega)
          have HG2 := Lib.hid (only_trans hC2.gr hg2)
          have HS2 := Lib.hid hS2
          have HC2 := Lib.hid hC2
          have Hg2 := Lib.hid hg2
          obtain ⟨f0, f1, f2, f3, f4, ff, flt⟩ := Sw.box hq3
          have HQ1' := Lib.hid hq1
          have HQ2' := Lib.hid hq2
          have HRR := Lib.hid hR
          clear hB hE hC2 hg2 hS2 hq3 hq1 hq2 hR e0 e1 e2 e3 e4
          by_cases hr0 : r = 0
          · subst hr0
            have HC3 := Lib.hid (HC2.out.put Hg2.out (HS2.out rfl))
            have hf : fSw nodes seen1 z = 0 := by unfold fSw Sw.bad; rw [HRR.out]; simp []
            have HF := Lib.hid hf
            clear hf
            go_wp2_with (first | (go_at_call 138; refine (npermitted_any _ _).mono ?_; rintro e w' ⟨rfl, rfl⟩) | (go_at_call 137; refine (nout_any _ _ _ _).mono ?_; rintro e w' ⟨rfl, rfl⟩))
            go_roundw
            case rel => exact ⟨k + 1, z.name :: seen1, by omega, by go_num, HC3.out, HQ1'.out, HQ2'.out, by simp; omega, by rw [HGO.out]; exact ckList_ok HZ.out HF.out⟩
            case measure => simp [intOf]; omega
          · have hrb : (r != 0) = true := by simpa using hr0
            have hf : fSw nodes seen1 z = r := by unfold fSw; rw [HRR.out, if_pos hr0]
            have hr : (ckList (fSw nodes) Sw.name seen0 x.sws).1 = r := by rw [HGO.out]; exact ckList_bad HZ.out hf hr0
            have HR4 := Lib.hid hr
            have HR0 := Lib.hid hr0
            clear hf hr hr0
            go_wp2_with fail
            go_ret
            exact ⟨ret_int (by rw [HW1.out]; unfold ck1; rw [HND.out, if_pos (by rw [HR4.out]; exact HR0.out), HR4.out]), HBELOW.out HG2.out⟩
        · have hd : x.sws.drop k = [] := by rw [List.drop_eq_nil_iff]; have := hlen1.out; omega
          have hr : ckList (fSw nodes) Sw.name seen0 x.sws = (0, seen1) := by rw [HGO.out, hd]; rfl
          have HL1 := Lib.hid hr
          have hcnt1 : seen1.length ≤ seen0.length + m1 := by omega
          clear hd hr hcnt
          have hlenx := HNET
          have HW2 : Hid (netCk x = ck2 x seen1) := Lib.hid (by rw [HW1.out]; unfold ck1; rw [HND.out, HL1.out]; rfl)
          go_wp2_with fail
          have hlen2 : Hid (x.brs.length = m2) := Lib.hid HNET.out.r2.1
          go_loopw [89] (fun i wr => ∃ (k : Nat) (seen2 : List ByteArray), k ≤ m2 ∧ i = .int .i64 k ∧ Ck W0 wr (w.heap.size + 1) A0 m0 nodes ⟨A0, m0, c0, A1, m1, c1, A2, m2, c2, A3, m3, c3, A4, m4, c4, A5, m5, c5⟩ x seen2 ∧ Blk wr (w.heap.size + 1 + 1) 161 #[.map (some (w.heap.size + 1)), (.slice A0 m0 c0)] ∧ Blk wr w.heap.size 33 #[.slice A0 m0 c0, .slice A1 m1 c1, .slice A2 m2 c2, .slice A3 m3 c3, .slice A4 m4 c4, .slice A5 m5 c5] ∧ seen2.length ≤ seen1.length + k ∧ ckList (fBr nodes) Br.name seen1 x.brs = ckList (fBr nodes) Br.name seen2 (x.brs.drop k)) (fun i _ => m2 - (intOf i).toNat)
          case atStart => exact ⟨0, seen1, by omega, rfl, HC.out, HQ1.out, HQ2.out, by omega, rfl⟩
          case round =>
            clear HC HQ1 HQ2 HNET
            obtain ⟨k, seen2, hk, rfl, hC, hq1, hq2, hcnt, hgo⟩ := hrel
            have HC := Lib.hid hC
            have HQ1 := Lib.hid hq1
            have HQ2 := Lib.hid hq2
            have HGO := Lib.hid hgo
            obtain ⟨g0, g1, gf, glt⟩ := check_box hq1
            obtain ⟨y0, y1, y2, y3, y4, y5, nf, nlt⟩ := net_box (h := ⟨A0, m0, c0, A1, m1, c1, A2, m2, c2, A3, m3, c3, A4, m4, c4, A5, m5, c5⟩) hq2
            have hbw := hC.sn.lt
            have HNET := Lib.hid hC.net
            clear hC hq1 hq2 hgo
            by_cases hlt : k < m2
            · obtain ⟨z, hz⟩ : ∃ z, x.brs[k]? = some z := ⟨_, List.getElem?_eq_getElem (by have := hlen2.out; omega)⟩
              obtain ⟨bz, oz, hA, hbz⟩ := HC.out.net.r2.form (by dsimp only; omega)
              dsimp only at hA
              subst hA
              obtain ⟨e0, e1, e2, e3, e4, e5, e6, e7, e8⟩ := HC.out.net.r2.at_ hz
              have hzn := HC.out.net.z2 z (List.mem_of_getElem? hz)
              have HZ := Lib.hid (drop_cons hz)
              clear hz
              go_wp2_with fail
              have hB := below2 wr (.cells #[.string z.name, .string z.fr, .string z.to, .int .i64 z.x, .int .i64 z.tap, .int .i64 z.shift, .int .i64 z.limit, .int .i64 z.short, .int .i64 z.hold] 70) (.cells #[.string z.fr, .string z.to] 9)
              have hE : RdStr ((wr.alloc (.cells #[.string z.name, .string z.fr, .string z.to, .int .i64 z.x, .int .i64 z.tap, .int .i64 z.shift, .int .i64 z.limit, .int .i64 z.short, .int .i64 z.hold] 70)).alloc (.cells #[.string z.fr, .string z.to] 9)) ((wr.alloc (.cells #[.string z.name, .string z.fr, .string z.to, .int .i64 z.x, .int .i64 z.tap, .int .i64 z.shift, .int .i64 z.limit, .int .i64 z.short, .int .i64 z.hold] 70)).alloc (.cells #[.string z.fr, .string z.to] 9)).heap.size (some ⟨wr.heap.size + 1, 0, none⟩) 2 [z.fr, z.to] := rdStr_lit (zs := [z.fr, z.to]) (Blk.new_ (by simp)) (by simp)
              have hC2 := HC.out.below hB
              refine (device_any (w.heap.size + 1) _ _ m0 c0 nodes seen2 z.name _ 2 2 [z.fr, z.to] _ hC2.rn hm0 hC2.sn (by omega) hzn hE (by omega)).mono ?_
              generalize hR : devR nodes seen2 z.name [z.fr, z.to] = r
              rintro e w2 ⟨rfl, hg2, hS2⟩
              have hq3 : Blk w2 wr.heap.size 70 #[.string z.name, .string z.fr, .string z.to, .int .i64 z.x, .int .i64 z.tap, .int .i64 z.shift, .int .i64 z.limit, .int .i64 z.short, .int .i64 z.hold] := Blk.grown ((Blk.new wr _ _).alloc _) hg2 (fun e => by injection e; omega)
              have hq1 : Blk w2 (w.heap.size + 1 + 1) 161 #[.map (some (w.heap.size + 1)), (.slice A0 m0 c0)] := Blk.grown (HQ1.out.below hB HQ1.out.lt) hg2 (fun e => by injection e; omega)
              have hq2 := Blk.grown (HQ2.out.below hB HQ2.out.lt) hg2 (fun e => by injection e; omega)
              have HG2 := Lib.hid (only_trans hC2.gr hg2)
              have HS2 := Lib.hid hS2
              have HC2 := Lib.hid hC2
              have Hg2 := Lib.hid hg2
              obtain ⟨f0, f1, f2, f3, f4, f5, f6, f7, f8, ff, flt⟩ := Br.box hq3
              have HQ1' := Lib.hid hq1
              have HQ2' := Lib.hid hq2
              have HRR := Lib.hid hR
              clear hB hE hC2 hg2 hS2 hq3 hq1 hq2 hR e0 e1 e2 e3 e4 e5 e6 e7 e8
              by_cases hr0 : r = 0
              · subst hr0
                have HC3 := Lib.hid (HC2.out.put Hg2.out (HS2.out rfl))
                go_wp2_with fail
                refine (nbranch_any z _).mono ?_
                rintro e w3 ⟨rfl, k3⟩
                have HC4 := Lib.hid (HC3.out.below k3)
                have HQ1'' := Lib.hid (HQ1'.out.below k3 HQ1'.out.lt)
                have HQ2'' := Lib.hid (HQ2'.out.below k3 HQ2'.out.lt)
                have HG3 := Lib.hid (only_trans HG2.out (only_of_below k3 _))
                clear k3
                cases hbad : z.bad with
                | true =>
                  have hck : z.ck = 4 := by unfold Br.ck; rw [hbad]; rfl
                  have hf : fBr nodes seen2 z = 4 := by unfold fBr; rw [HRR.out, hck]; rfl
                  have hr : (ckList (fBr nodes) Br.name seen1 x.brs).1 = 4 := by rw [HGO.out]; exact ckList_bad HZ.out hf (by omega)
                  have HR4 := Lib.hid hr
                  clear hf hr hbad
                  go_wp2_with fail
                  go_ret
                  exact ⟨ret_int (by rw [HW2.out]; unfold ck2; rw [HND.out, if_pos (by rw [HR4.out]; omega), HR4.out]), HBELOW.out HG3.out⟩
                | false =>
                  have hck : z.ck = 0 := by unfold Br.ck; rw [hbad]; rfl
                  have hf : fBr nodes seen2 z = 0 := by unfold fBr; rw [HRR.out, hck]; rfl
                  have HF := Lib.hid hf
                  clear hf hbad
                  go_wp2_with fail
                  go_roundw
                  case rel => exact ⟨k + 1, z.name :: seen2, by omega, by go_num, HC4.out, HQ1''.out, HQ2''.out, by simp; omega, by rw [HGO.out]; exact ckList_ok HZ.out HF.out⟩
                  case measure => simp [intOf]; omega
              · have hrb : (r != 0) = true := by simpa using hr0
                have hf : fBr nodes seen2 z = r := by unfold fBr; rw [HRR.out, if_pos hr0]
                have hr : (ckList (fBr nodes) Br.name seen1 x.brs).1 = r := by rw [HGO.out]; exact ckList_bad HZ.out hf hr0
                have HR4 := Lib.hid hr
                have HR0 := Lib.hid hr0
                clear hf hr hr0
                go_wp2_with fail
                go_ret
                exact ⟨ret_int (by rw [HW2.out]; unfold ck2; rw [HND.out, if_pos (by rw [HR4.out]; exact HR0.out), HR4.out]), HBELOW.out HG2.out⟩
            · have hd : x.brs.drop k = [] := by rw [List.drop_eq_nil_iff]; have := hlen2.out; omega
              have hr : ckList (fBr nodes) Br.name seen1 x.brs = (0, seen2) := by rw [HGO.out, hd]; rfl
              have HL2 := Lib.hid hr
              have hcnt2 : seen2.length ≤ seen1.length + m2 := by omega
              clear hd hr hcnt
              have hlenx := HNET
              have HW3 : Hid (netCk x = ck3 x seen2) := Lib.hid (by rw [HW2.out]; unfold ck2; rw [HND.out, HL2.out]; rfl)
              go_wp2_with fail
              have hCw : Ck wr wr (w.heap.size + 1) A0 m0 nodes ⟨A0, m0, c0, A1, m1, c1, A2, m2, c2, A3, m3, c3, A4, m4, c4, A5, m5, c5⟩ x seen2 := ⟨⟨rfl, rfl, rfl, Nat.le_refl _, fun _ _ _ => rfl⟩, HC.out.sn, HC.out.rn, HC.out.net⟩
              refine (ends_any (w.heap.size + 1) _ m0 c0 nodes ⟨A0, m0, c0, A1, m1, c1, A2, m2, c2, A3, m3, c3, A4, m4, c4, A5, m5, c5⟩ x seen2 _ hCw hm0 (by omega) hm3 hm4 hm5 HND.out).mono ?_
              rintro e w4 ⟨rfl, hg4⟩
              have HG4 := Lib.hid (only_trans HC.out.gr hg4)
              clear hg4 hCw
              go_wp2_with fail
              go_ret
              exact ⟨ret_int (by rw [HW3.out]), HBELOW.out HG4.out⟩

theorem check_any (h : NetH) (x : Net) (w : World) (r : RdNet w w.heap.size h x) :
    Calls Tryz.prog 73 #[.agg h.cells] w fun e w' => e = .returned (.int .i64 (netCk x)) ∧ Below w.heap.size w w' := by
  by_cases hl : netLarge x
  · exact check_large h x w r hl
  · exact check_small h x w r hl
end Go.Proofs.YtakllkkmofdpaaaGreatDoor
/- Operations on texts of rational numbers. -/
namespace Go.Proofs.YtakllkkmofdpaaaGreatDoor
open Go.ChangeShapes Go.WideShapes Go.ChangeAt Go.RowKit
set_option linter.unusedVariables false
set_option linter.unusedSimpArgs false
attribute [local go_sem ↓] execOp_call_val
attribute [local go_sem] callVal_func setCell_drewN alloc_drewN sEq_walk

/-- what TextVec hands back -/
def TvP (qs : List Rat) (w : World) (e : Ending) (w' : World) : Prop := Below w.heap.size w w' ∧ ((∀ q ∈ qs, Fits q) → ∃ A n c, e = .returned (.tuple #[.slice A n c, .int .i64 0]) ∧ RdStr w' w'.heap.size A n (qs.map txtQ) ∧ n ≤ c ∧ c ≤ maxLen) ∧ (¬ (∀ q ∈ qs, Fits q) → e = .returned (.tuple #[.slice none 0 0, .int .i64 2]))
set_option maxRecDepth 100000 in
set_option maxHeartbeats 4000000 in
theorem textvec_any (A : Option Addr) (n c : Nat) (qs : List Rat) (w : World) (hR : RdQ w w.heap.size A n qs) (hn : n ≤ 1000000) (ht : TabOk w) :
    Calls Tryz.prog 56 #[.slice A n c] w (TvP qs w) := by
  have HC := Lib.hid (texts_any A n c qs w hR hn ht)
  clear hR ht
  go_enter Tryz.func56, Tryz.ntmps56
  go_wp2_with fail
  refine HC.out.mono ?_
  rintro e w1 ⟨hb, h1, h2⟩
  have HB := Lib.hid hb
  by_cases hf : ∀ q ∈ qs, Fits q
  · obtain ⟨C, m, d, rfl, h3, h4, h5⟩ := h1 hf
    have H3 := Lib.hid h3
    have HF := Lib.hid hf
    clear hf h1 h2 h3 hb HC
    go_wp2_with fail
    go_ret2
    exact ⟨HB.out, fun _ => ⟨_, _, _, rfl, H3.out, h4, h5⟩, fun h => absurd HF.out h⟩
  · have he := h2 hf
    subst he
    have HF := Lib.hid hf
    clear hf h1 h2 hb HC
    go_wp2_with fail
    go_ret2
    exact ⟨HB.out, fun h => absurd h HF.out, fun _ => rfl⟩
/-- the text of a number, or ErrLarge -/
def RnP (q : Rat) (w : World) (e : Ending) (w' : World) : Prop := Below w.heap.size w w' ∧ (Fits q → e = .returned (.tuple #[.string (txtQ q), .int .i64 0])) ∧ (¬ Fits q → e = .returned (.tuple #[.string ⟨#[]⟩, .int .i64 2]))
set_option maxRecDepth 100000 in
set_option maxHeartbeats 4000000 in
theorem rattext_any (q : Rat) (b1 : Bool) (A : Option Addr) (n c : Nat) (b2 : Bool) (A2 : Option Addr) (n2 c2 : Nat) (w : World) (h1 : RtIs w w.heap.size q b1 A n c b2 A2 n2 c2) (ht : TabOk w) :
    Calls Tryz.prog 127 #[.agg #[.bool b1, .slice A n c, .bool b2, .slice A2 n2 c2]] w (RnP q w) := by
  have HB0 : Hid (Below w.heap.size w (w.alloc (.cells #[.bool b1, .slice A n c, .bool b2, .slice A2 n2 c2] 93))) := Lib.hid ((Below.refl _ _).alloc (Nat.le_refl _) _)
  have HX1 := Lib.hid (Blk.new w 93 #[.bool b1, .slice A n c, .bool b2, .slice A2 n2 c2])
  have HC := Lib.hid (rtext_any q b1 A n c b2 A2 n2 c2 _ (h1.up HB0.out) (ht.up HB0.out))
  clear h1 ht
  go_enter Tryz.func127, Tryz.ntmps127
  go_upto_region 1 with fail
  generalize w.alloc (.cells #[.bool b1, .slice A n c, .bool b2, .slice A2 n2 c2] 93) = W at *
  have c0 := HX1.out.cell 0
  have c1 := HX1.out.cell 1
  have c2' := HX1.out.cell 2
  have c3 := HX1.out.cell 3
  go_wp2_with fail
  refine HC.out.mono ?_
  clear c0 c1 c2' c3 HC
  rintro e w1 ⟨hb, s, rfl, hs⟩
  have HB := Lib.hid (HB0.out.trans (hb.mono HB0.out.size))
  have HS := Lib.hid hs
  clear hb hs HB0
  by_cases hf : Fits q
  · have HF := Lib.hid hf
    rw [decide_eq_true hf]
    clear hf
    go_wp2_with fail
    go_ret2
    exact ⟨HB.out, fun h => by rw [HS.out h]; rfl, fun h => absurd HF.out h⟩
  · have HF := Lib.hid hf
    rw [decide_eq_false hf]
    clear hf
    go_wp2_with fail
    go_ret2
    exact ⟨HB.out, fun h => absurd h HF.out, fun _ => rfl⟩
end Go.Proofs.YtakllkkmofdpaaaGreatDoor
/- Operations on texts of two rational numbers. -/
namespace Go.Proofs.YtakllkkmofdpaaaGreatDoor
open Go.ChangeShapes Go.WideShapes Go.ChangeAt Go.RowKit
set_option linter.unusedVariables false
set_option linter.unusedSimpArgs false
attribute [local go_sem ↓] execOp_call_val
attribute [local go_sem] callVal_func setCell_drewN alloc_drewN sEq_walk

theorem dlen_ndg {n K : Nat} (h : ndg n ≤ K) : dlen n ≤ K := by
  refine dlen_le (Nat.lt_of_lt_of_le (lt_ndg n) ?_)
  refine Nat.le_trans (pow_mono10 h) ?_
  unfold BB
  exact Nat.pow_le_pow_left (by decide) _
theorem dlen_dec {n : Nat} (h : ndg n ≤ 2000) : dlen n ≤ 2000 := dlen_ndg h
theorem fits_qsz {q : Rat} (h : Fits q) : qsz q ≤ 2000 := Nat.max_le.2 ⟨dlen_dec h.1, dlen_dec h.2⟩
theorem valid_fits {s : ByteArray} (h : ratCk s.data.toList = 0) : Fits (qOf s) := (valid_parse h).2.2.2.1
theorem valid_txt {s : ByteArray} (h : ratCk s.data.toList = 0) : txtQ (qOf s) = s := by
  unfold txtQ qOf
  rw [(valid_parse h).2.2.1]
/-- what an operation on two texts hands back -/
def OpP (f : Rat → Rat → Rat) (a b : ByteArray) (w : World) (e : Ending) (w' : World) : Prop := Below w.heap.size w w' ∧ (ckAllR [a, b] ≠ 0 → e = .returned (.tuple #[.string ⟨#[]⟩, .int .i64 (ckAllR [a, b])])) ∧ (ckAllR [a, b] = 0 → RnP (f (qOf a) (qOf b)) w e w')
theorem rnP_back {q : Rat} {w w1 w' : World} {e : Ending} (hb : Below w.heap.size w w1) (h : RnP q w1 e w') : RnP q w e w' := ⟨hb.trans (h.1.mono hb.size), h.2⟩
theorem data_list (s : ByteArray) : (⟨s.data.toList.toArray⟩ : ByteArray) = s := by cases s; simp
theorem parse_str {s : ByteArray} (h : ratCk s.data.toList = 0) (w : World) : Calls Tryz.prog 94 #[.string s] w (RtP (qOf s) w) := by
  have := parse_any s.data.toList h w
  rwa [data_list] at this
set_option maxRecDepth 100000 in
set_option maxHeartbeats 4000000 in
theorem ratop_any (F : FuncId) (f : Rat → Rat → Rat) (hF : ∀ (args : Array Value) (w : World), (callFunc F args).run Tryz.prog w = .ok (.enter F args) w)
    (hf : ∀ (p q : Rat) (b1 : Bool) (A : Option Addr) (n c : Nat) (b2 : Bool) (A2 : Option Addr) (n2 c2 : Nat) (b3 : Bool) (B : Option Addr) (m d : Nat) (b4 : Bool) (B2 : Option Addr) (m2 d2 : Nat) (w : World), RtIs w w.heap.size p b1 A n c b2 A2 n2 c2 → RtIs w w.heap.size q b3 B m d b4 B2 m2 d2 → Fits p → Fits q →
      Calls Tryz.prog F #[.agg #[.bool b1, .slice A n c, .bool b2, .slice A2 n2 c2], .agg #[.bool b3, .slice B m d, .bool b4, .slice B2 m2 d2]] w (RtP (f p q) w))
    (a b : ByteArray) (ha : a.size ≤ maxLen) (hb : b.size ≤ maxLen) (w : World) (ht : TabOk w) :
    Calls Tryz.prog 96 #[.string a, .string b, .func (.func F) #[] #[]] w (OpP f a b w) := by
  have HF := Lib.hid hf
  have HB0 : Hid (Below w.heap.size w (w.alloc (.cells #[.string a, .string b] 37))) := Lib.hid ((Below.refl _ _).alloc (Nat.le_refl _) _)
  have HX1 := Lib.hid (Blk.new w 37 #[.string a, .string b])
  have HA := Lib.hid (show ∀ s ∈ [a, b], s.size ≤ maxLen from fun s hs => by simp at hs; rcases hs with rfl | rfl <;> assumption)
  have HT := Lib.hid ht
  clear hf ha hb ht
  go_enter Tryz.func96, Tryz.ntmps96
  go_wp2_with fail
  generalize hwa : w.alloc (.cells #[.string a, .string b] 37) = wa at *
  have HTA := Lib.hid (HT.out.up HB0.out)
  have hrd : RdStr wa wa.heap.size (some ⟨w.heap.size, 0, none⟩) 2 [a, b] := rdStr_lit HX1.out HX1.out.lt
  clear hwa
  refine (ckall_any (some ⟨w.heap.size, 0, none⟩) 2 2 [a, b] wa hrd HA.out (by decide) HTA.out).mono ?_
  clear hrd
  rintro e w1 ⟨he, hb1⟩
  have HB1 := Lib.hid (HB0.out.trans (hb1.mono HB0.out.size))
  have HT1 := Lib.hid (HTA.out.up hb1)
  clear hb1 HB0 HTA HX1
  by_cases h0 : ckAllR [a, b] = 0
  · have hv := ckAllR_ok.1 h0
    have HVA := Lib.hid (hv a (by simp))
    have HVB := Lib.hid (hv b (by simp))
    have H0 := Lib.hid h0
    rw [h0] at he
    subst he
    clear hv h0
    go_wp2_with fail
    refine (parse_str HVA.out w1).mono ?_
    rintro e w2 ⟨hb2, f1, C1, i1, j1, g1, D1, k1, l1, rfl, h1⟩
    have HB2 := Lib.hid (HB1.out.trans (hb2.mono HB1.out.size))
    have HT2 := Lib.hid (HT1.out.up hb2)
    have H1 := Lib.hid h1
    clear hb2 h1 HB1 HT1
    go_wp2_with fail
    refine (parse_str HVB.out w2).mono ?_
    rintro e w3 ⟨hb3, f2, C2, i2, j2, g2, D2, k2, l2, rfl, h2⟩
    have HB3 := Lib.hid (HB2.out.trans (hb3.mono HB2.out.size))
    have HT3 := Lib.hid (HT2.out.up hb3)
    have H1 := Lib.hid (H1.out.up hb3)
    have H2 := Lib.hid h2
    clear hb3 h2 HB2 HT2
    go_wp2_with fail
    refine (HF.out _ _ f1 C1 i1 j1 g1 D1 k1 l1 f2 C2 i2 j2 g2 D2 k2 l2 w3 H1.out H2.out (valid_fits HVA.out) (valid_fits HVB.out)).mono ?_
    rintro e w4 ⟨hb4, f3, C3, i3, j3, g3, D3, k3, l3, rfl, h3⟩
    have HB4 := Lib.hid (HB3.out.trans (hb4.mono HB3.out.size))
    have HT4 := Lib.hid (HT3.out.up hb4)
    have H3 := Lib.hid h3
    clear hb4 h3 HB3 HT3 H1 H2
    go_wp2_with fail
    refine (rattext_any _ f3 C3 i3 j3 g3 D3 k3 l3 w4 H3.out HT4.out).mono ?_
    rintro e w5 ⟨hb5, hy, hn⟩
    have HB5 := Lib.hid (HB4.out.trans (hb5.mono HB4.out.size))
    clear hb5 HB4 HT4 H3
    by_cases hf : Fits (f (qOf a) (qOf b))
    · have he := hy hf
      have HFI := Lib.hid hf
      subst he
      clear hy hn hf
      go_wp2_with fail
      go_ret2
      exact ⟨HB5.out, fun h => absurd H0.out h, fun _ => ⟨HB5.out, fun _ => rfl, fun h => absurd HFI.out h⟩⟩
    · have he := hn hf
      have HFI := Lib.hid hf
      subst he
      clear hy hn hf
      go_wp2_with fail
      go_ret2
      exact ⟨HB5.out, fun h => absurd H0.out h, fun _ => ⟨HB5.out, fun h => absurd h HFI.out, fun _ => rfl⟩⟩
  · obtain ⟨z, hz⟩ : ∃ z, ckAllR [a, b] = z := ⟨_, rfl⟩
    have HZ := Lib.hid hz
    rw [hz] at he h0
    subst he
    have H0 := Lib.hid h0
    have h0b : (z != 0) = true := by simp [h0]
    clear hz h0
    go_wp2_with fail
    go_ret2
    exact ⟨HB1.out, fun _ => by rw [HZ.out]; rfl, fun h => absurd (HZ.out.symm.trans h) H0.out⟩
theorem fits_two {p q : Rat} (hp : Fits p) (hq : Fits q) : qsz p + qsz q + 1 ≤ 35184372088832 := by
  have := fits_qsz hp
  have := fits_qsz hq
  omega
set_option maxRecDepth 100000 in
set_option maxHeartbeats 4000000 in
theorem ratadd_any (a b : ByteArray) (ha : a.size ≤ maxLen) (hb : b.size ≤ maxLen) (w : World) (ht : TabOk w) :
    Calls Tryz.prog 57 #[.string a, .string b] w (OpP (fun p q => p + q) a b w) := by
  have HC := Lib.hid (ratop_any 51 (fun p q => p + q) (callFunc_enter Tryz.func51 (by kernel_rfl) rfl) (fun p q b1 A n c b2 A2 n2 c2 b3 B m d b4 B2 m2 d2 w h1 h2 hp hq => radd_any p q b1 A n c b2 A2 n2 c2 b3 B m d b4 B2 m2 d2 w h1 h2 (fits_two hp hq)) a b ha hb w ht)
  clear ha hb ht
  go_enter Tryz.func57, Tryz.ntmps57
  go_wp2_with fail
  refine HC.out.mono ?_
  rintro e w1 ⟨hb, h1, h2⟩
  have HB := Lib.hid hb
  clear hb HC
  by_cases h0 : ckAllR [a, b] = 0
  · have hr := h2 h0
    have H0 := Lib.hid h0
    clear h1 h2 h0
    obtain ⟨_, hy, hn⟩ := hr
    by_cases hf : Fits ((fun p q : Rat => p + q) (qOf a) (qOf b))
    · have he := hy hf
      have HFI := Lib.hid hf
      subst he
      clear hy hn hf
      go_wp2_with fail
      go_ret2
      exact ⟨HB.out, fun h => absurd H0.out h, fun _ => ⟨HB.out, fun _ => rfl, fun h => absurd HFI.out h⟩⟩
    · have he := hn hf
      have HFI := Lib.hid hf
      subst he
      clear hy hn hf
      go_wp2_with fail
      go_ret2
      exact ⟨HB.out, fun h => absurd H0.out h, fun _ => ⟨HB.out, fun h => absurd h HFI.out, fun _ => rfl⟩⟩
  · have he := h1 h0
    have H0 := Lib.hid h0
    subst he
    clear h0 h1 h2
    go_wp2_with fail
    go_ret2
    exact ⟨HB.out, fun _ => rfl, fun h => absurd h H0.out⟩
set_option maxRecDepth 100000 in
set_option maxHeartbeats 4000000 in
theorem ratsub_any (a b : ByteArray) (ha : a.size ≤ maxLen) (hb : b.size ≤ maxLen) (w : World) (ht : TabOk w) :
    Calls Tryz.prog 98 #[.string a, .string b] w (OpP (fun p q => p - q) a b w) := by
  have HC := Lib.hid (ratop_any 111 (fun p q => p - q) (callFunc_enter Tryz.func111 (by kernel_rfl) rfl) (fun p q b1 A n c b2 A2 n2 c2 b3 B m d b4 B2 m2 d2 w h1 h2 hp hq => rsub_any p q b1 A n c b2 A2 n2 c2 b3 B m d b4 B2 m2 d2 w h1 h2 (fits_two hp hq)) a b ha hb w ht)
  clear ha hb ht
  go_enter Tryz.func98, Tryz.ntmps98
  go_wp2_with fail
  refine HC.out.mono ?_
  rintro e w1 ⟨hb, h1, h2⟩
  have HB := Lib.hid hb
  clear hb HC
  by_cases h0 : ckAllR [a, b] = 0
  · have hr := h2 h0
    have H0 := Lib.hid h0
    clear h1 h2 h0
    obtain ⟨_, hy, hn⟩ := hr
    by_cases hf : Fits ((fun p q : Rat => p - q) (qOf a) (qOf b))
    · have he := hy hf
      have HFI := Lib.hid hf
      subst he
      clear hy hn hf
      go_wp2_with fail
      go_ret2
      exact ⟨HB.out, fun h => absurd H0.out h, fun _ => ⟨HB.out, fun _ => rfl, fun h => absurd HFI.out h⟩⟩
    · have he := hn hf
      have HFI := Lib.hid hf
      subst he
      clear hy hn hf
      go_wp2_with fail
      go_ret2
      exact ⟨HB.out, fun h => absurd H0.out h, fun _ => ⟨HB.out, fun h => absurd h HFI.out, fun _ => rfl⟩⟩
  · have he := h1 h0
    have H0 := Lib.hid h0
    subst he
    clear h0 h1 h2
    go_wp2_with fail
    go_ret2
    exact ⟨HB.out, fun _ => rfl, fun h => absurd h H0.out⟩
set_option maxRecDepth 100000 in
set_option maxHeartbeats 4000000 in
theorem ratmul_any (a b : ByteArray) (ha : a.size ≤ maxLen) (hb : b.size ≤ maxLen) (w : World) (ht : TabOk w) :
    Calls Tryz.prog 65 #[.string a, .string b] w (OpP (fun p q => p * q) a b w) := by
  have HC := Lib.hid (ratop_any 53 (fun p q => p * q) (callFunc_enter Tryz.func53 (by kernel_rfl) rfl) (fun p q b1 A n c b2 A2 n2 c2 b3 B m d b4 B2 m2 d2 w h1 h2 hp hq => rmul_any p q b1 A n c b2 A2 n2 c2 b3 B m d b4 B2 m2 d2 w h1 h2 (fits_two hp hq)) a b ha hb w ht)
  clear ha hb ht
  go_enter Tryz.func65, Tryz.ntmps65
  go_wp2_with fail
  refine HC.out.mono ?_
  rintro e w1 ⟨hb, h1, h2⟩
  have HB := Lib.hid hb
  clear hb HC
  by_cases h0 : ckAllR [a, b] = 0
  · have hr := h2 h0
    have H0 := Lib.hid h0
    clear h1 h2 h0
    obtain ⟨_, hy, hn⟩ := hr
    by_cases hf : Fits ((fun p q : Rat => p * q) (qOf a) (qOf b))
    · have he := hy hf
      have HFI := Lib.hid hf
      subst he
      clear hy hn hf
      go_wp2_with fail
      go_ret2
      exact ⟨HB.out, fun h => absurd H0.out h, fun _ => ⟨HB.out, fun _ => rfl, fun h => absurd HFI.out h⟩⟩
    · have he := hn hf
      have HFI := Lib.hid hf
      subst he
      clear hy hn hf
      go_wp2_with fail
      go_ret2
      exact ⟨HB.out, fun h => absurd H0.out h, fun _ => ⟨HB.out, fun h => absurd h HFI.out, fun _ => rfl⟩⟩
  · have he := h1 h0
    have H0 := Lib.hid h0
    subst he
    clear h0 h1 h2
    go_wp2_with fail
    go_ret2
    exact ⟨HB.out, fun _ => rfl, fun h => absurd h H0.out⟩
end Go.Proofs.YtakllkkmofdpaaaGreatDoor
/- The operations of the reference on texts. -/
namespace Go.Proofs.YtakllkkmofdpaaaGreatDoor
open Go.ChangeShapes Go.WideShapes Go.ChangeAt Go.RowKit
set_option linter.unusedVariables false
set_option linter.unusedSimpArgs false
attribute [local go_sem ↓] execOp_call_val
attribute [local go_sem] callVal_func setCell_drewN alloc_drewN sEq_walk

/-- the text of a number, or nothing -/
def rnS (q : Rat) : ByteArray := if Fits q then txtQ q else ⟨#[]⟩
def rnE (q : Rat) : Int := if Fits q then 0 else 2
theorem RnP.out {q : Rat} {w w' : World} {e : Ending} (h : RnP q w e w') : e = .returned (.tuple #[.string (rnS q), .int .i64 (rnE q)]) ∧ Below w.heap.size w w' := by
  obtain ⟨hb, h1, h2⟩ := h
  unfold rnS rnE
  by_cases hf : Fits q
  · rw [if_pos hf, if_pos hf]; exact ⟨h1 hf, hb⟩
  · rw [if_neg hf, if_neg hf]; exact ⟨h2 hf, hb⟩
def opS (f : Rat → Rat → Rat) (a b : ByteArray) : ByteArray := if ckAllR [a, b] = 0 then rnS (f (qOf a) (qOf b)) else ⟨#[]⟩
def opE (f : Rat → Rat → Rat) (a b : ByteArray) : Int := if ckAllR [a, b] = 0 then rnE (f (qOf a) (qOf b)) else ckAllR [a, b]
theorem OpP.out {f : Rat → Rat → Rat} {a b : ByteArray} {w w' : World} {e : Ending} (h : OpP f a b w e w') : e = .returned (.tuple #[.string (opS f a b), .int .i64 (opE f a b)]) ∧ Below w.heap.size w w' := by
  obtain ⟨hb, h1, h2⟩ := h
  unfold opS opE
  by_cases hf : ckAllR [a, b] = 0
  · rw [if_pos hf, if_pos hf]; exact (h2 hf).out
  · rw [if_neg hf, if_neg hf]; exact ⟨h1 hf, hb⟩
theorem two_valid {a b : ByteArray} (ha : ratCk a.data.toList = 0) (hb : ratCk b.data.toList = 0) : ckAllR [a, b] = 0 := ckAllR_ok.2 fun s hs => by
  simp at hs; rcases hs with rfl | rfl <;> assumption
theorem opS_ok {f : Rat → Rat → Rat} {a b : ByteArray} (ha : ratCk a.data.toList = 0) (hb : ratCk b.data.toList = 0) : opS f a b = rnS (f (qOf a) (qOf b)) := by unfold opS; rw [if_pos (two_valid ha hb)]
theorem txt_valid {q : Rat} (h : Fits q) : ratCk (txtQ q).data.toList = 0 ∧ qOf (txtQ q) = q := by
  have := text_valid h
  unfold txtQ qOf
  simpa using this
theorem txt_inj {p q : Rat} (hp : Fits p) (hq : Fits q) (h : txtQ p = txtQ q) : p = q := by
  rw [← (txt_valid hp).2, h, (txt_valid hq).2]
theorem textL_le (z : Int) : (textL z).length ≤ ndg z.natAbs + 1 := by
  unfold textL ndg
  rw [List.length_append]
  split <;> simp <;> omega
theorem txt_size {q : Rat} (h : Fits q) : (txtQ q).size ≤ 4002 := by
  rw [Lib.size_eq]
  unfold txtQ textQ
  have h1 := textL_le q.num
  obtain ⟨h2, h3⟩ := h
  unfold ndg at h3
  simp only [List.length_append]
  split <;> simp <;> omega
theorem rnS_size (q : Rat) : (rnS q).size ≤ 4002 := by
  unfold rnS
  split
  · rename_i h; exact txt_size h
  · decide
theorem opS_size (f : Rat → Rat → Rat) (a b : ByteArray) : (opS f a b).size ≤ 4002 := by
  unfold opS
  split
  · exact rnS_size _
  · decide
/-- the order of two numbers -/
def cmpQ (p q : Rat) : Int := (p.num * (q.den : Int) - q.num * (p.den : Int)).sign
def cmpS (a b : ByteArray) : Int := if ckAllR [a, b] = 0 then cmpQ (qOf a) (qOf b) else 0
set_option maxRecDepth 100000 in
set_option maxHeartbeats 4000000 in
theorem plus_any (a b : ByteArray) (ha : a.size ≤ maxLen) (hb : b.size ≤ maxLen) (w : World) (ht : TabOk w) :
    Calls Tryz.prog 20 #[.string a, .string b] w (fun e w' => e = .returned (.string (opS (fun p q => p + q) a b)) ∧ Below w.heap.size w w') := by
  have HC := Lib.hid (ratadd_any a b ha hb w ht)
  clear ha hb ht
  go_enter Tryz.func20, Tryz.ntmps20
  go_wp2_with fail
  refine HC.out.mono ?_
  intro e w1 h
  obtain ⟨rfl, hb⟩ := h.out
  clear h HC
  have HB := Lib.hid hb
  clear hb
  generalize hs : opS (fun p q => p + q) a b = s
  have HS := Lib.hid hs
  clear hs
  generalize opE (fun p q => p + q) a b = z
  go_wp2_with fail
  go_ret
  exact ⟨by rw [HS.out]; rfl, HB.out⟩
set_option maxRecDepth 100000 in
set_option maxHeartbeats 4000000 in
theorem minus_any (a b : ByteArray) (ha : a.size ≤ maxLen) (hb : b.size ≤ maxLen) (w : World) (ht : TabOk w) :
    Calls Tryz.prog 64 #[.string a, .string b] w (fun e w' => e = .returned (.string (opS (fun p q => p - q) a b)) ∧ Below w.heap.size w w') := by
  have HC := Lib.hid (ratsub_any a b ha hb w ht)
  clear ha hb ht
  go_enter Tryz.func64, Tryz.ntmps64
  go_wp2_with fail
  refine HC.out.mono ?_
  intro e w1 h
  obtain ⟨rfl, hb⟩ := h.out
  clear h HC
  have HB := Lib.hid hb
  clear hb
  generalize hs : opS (fun p q => p - q) a b = s
  have HS := Lib.hid hs
  clear hs
  generalize opE (fun p q => p - q) a b = z
  go_wp2_with fail
  go_ret
  exact ⟨by rw [HS.out]; rfl, HB.out⟩
set_option maxRecDepth 100000 in
set_option maxHeartbeats 4000000 in
theorem times_any (a b : ByteArray) (ha : a.size ≤ maxLen) (hb : b.size ≤ maxLen) (w : World) (ht : TabOk w) :
    Calls Tryz.prog 25 #[.string a, .string b] w (fun e w' => e = .returned (.string (opS (fun p q => p * q) a b)) ∧ Below w.heap.size w w') := by
  have HC := Lib.hid (ratmul_any a b ha hb w ht)
  clear ha hb ht
  go_enter Tryz.func25, Tryz.ntmps25
  go_wp2_with fail
  refine HC.out.mono ?_
  intro e w1 h
  obtain ⟨rfl, hb⟩ := h.out
  clear h HC
  have HB := Lib.hid hb
  clear hb
  generalize hs : opS (fun p q => p * q) a b = s
  have HS := Lib.hid hs
  clear hs
  generalize opE (fun p q => p * q) a b = z
  go_wp2_with fail
  go_ret
  exact ⟨by rw [HS.out]; rfl, HB.out⟩
set_option maxRecDepth 100000 in
set_option maxHeartbeats 4000000 in
theorem compare_any (a b : ByteArray) (ha : a.size ≤ maxLen) (hb : b.size ≤ maxLen) (w : World) (ht : TabOk w) :
    Calls Tryz.prog 63 #[.string a, .string b] w (fun e w' => e = .returned (.tuple #[.int .i64 (cmpS a b), .int .i64 (ckAllR [a, b])]) ∧ Below w.heap.size w w') := by
  have HB0 : Hid (Below w.heap.size w (w.alloc (.cells #[.string a, .string b] 37))) := Lib.hid ((Below.refl _ _).alloc (Nat.le_refl _) _)
  have HX1 := Lib.hid (Blk.new w 37 #[.string a, .string b])
  have HA := Lib.hid (show ∀ s ∈ [a, b], s.size ≤ maxLen from fun s hs => by simp at hs; rcases hs with rfl | rfl <;> assumption)
  have HT := Lib.hid ht
  clear ha hb ht
  go_enter Tryz.func63, Tryz.ntmps63
  go_wp2_with fail
  generalize hwa : w.alloc (.cells #[.string a, .string b] 37) = wa at *
  have HTA := Lib.hid (HT.out.up HB0.out)
  have hrd : RdStr wa wa.heap.size (some ⟨w.heap.size, 0, none⟩) 2 [a, b] := rdStr_lit HX1.out HX1.out.lt
  clear hwa
  refine (ckall_any (some ⟨w.heap.size, 0, none⟩) 2 2 [a, b] wa hrd HA.out (by decide) HTA.out).mono ?_
  clear hrd
  rintro e w1 ⟨he, hb1⟩
  have HB1 := Lib.hid (HB0.out.trans (hb1.mono HB0.out.size))
  clear hb1 HB0 HTA HX1
  by_cases h0 : ckAllR [a, b] = 0
  · have hv := ckAllR_ok.1 h0
    have HVA := Lib.hid (hv a (by simp))
    have HVB := Lib.hid (hv b (by simp))
    have H0 := Lib.hid h0
    rw [h0] at he
    subst he
    clear hv h0
    go_wp2_with fail
    refine (parse_str HVA.out w1).mono ?_
    rintro e w2 ⟨hb2, f1, C1, i1, j1, g1, D1, k1, l1, rfl, h1⟩
    have HB2 := Lib.hid (HB1.out.trans (hb2.mono HB1.out.size))
    have H1 := Lib.hid h1
    clear hb2 h1 HB1
    go_wp2_with fail
    refine (parse_str HVB.out w2).mono ?_
    rintro e w3 ⟨hb3, f2, C2, i2, j2, g2, D2, k2, l2, rfl, h2⟩
    have HB3 := Lib.hid (HB2.out.trans (hb3.mono HB2.out.size))
    have H1 := Lib.hid (H1.out.up hb3)
    have H2 := Lib.hid h2
    clear hb3 h2 HB2
    go_wp2_with fail
    refine (rcmp_any _ _ f1 C1 i1 j1 g1 D1 k1 l1 f2 C2 i2 j2 g2 D2 k2 l2 w3 H1.out H2.out (fits_two (valid_fits HVA.out) (valid_fits HVB.out))).mono ?_
    rintro e w4 ⟨rfl, hb4⟩
    have HB4 := Lib.hid (HB3.out.trans (hb4.mono HB3.out.size))
    have HE : Hid (cmpS a b = ((qOf a).num * ((qOf b).den : Int) - (qOf b).num * ((qOf a).den : Int)).sign) := Lib.hid (by unfold cmpS; rw [if_pos H0.out]; rfl)
    clear hb4 HB3 H1 H2
    generalize ((qOf a).num * ((qOf b).den : Int) - (qOf b).num * ((qOf a).den : Int)).sign = z at *
    go_wp2_with fail
    go_ret2
    exact ⟨by rw [HE.out, H0.out]; rfl, HB4.out⟩
  · have HE : Hid (cmpS a b = 0) := Lib.hid (by unfold cmpS; rw [if_neg h0])
    obtain ⟨z, hz⟩ : ∃ z, ckAllR [a, b] = z := ⟨_, rfl⟩
    have HZ := Lib.hid hz
    rw [hz] at he h0
    subst he
    have h0b : (z != 0) = true := by simp [h0]
    clear hz h0
    go_wp2_with fail
    go_ret2
    exact ⟨by rw [HE.out, HZ.out]; rfl, HB1.out⟩
set_option maxRecDepth 100000 in
set_option maxHeartbeats 4000000 in
theorem cmp_any2 (a b : ByteArray) (ha : a.size ≤ maxLen) (hb : b.size ≤ maxLen) (w : World) (ht : TabOk w) :
    Calls Tryz.prog 23 #[.string a, .string b] w (fun e w' => e = .returned (.int .i64 (cmpS a b)) ∧ Below w.heap.size w w') := by
  have HC := Lib.hid (compare_any a b ha hb w ht)
  clear ha hb ht
  go_enter Tryz.func23, Tryz.ntmps23
  go_wp2_with fail
  refine HC.out.mono ?_
  rintro e w1 ⟨rfl, hb⟩
  clear HC
  have HB := Lib.hid hb
  clear hb
  generalize hs : cmpS a b = s
  have HS := Lib.hid hs
  clear hs
  generalize ckAllR [a, b] = z
  go_wp2_with fail
  go_ret
  exact ⟨by rw [HS.out]; rfl, HB.out⟩
/-- the magnitude -/
def sizeS (a : ByteArray) : ByteArray := if cmpS a ⟨#[48]⟩ < 0 then opS (fun p q => p - q) ⟨#[48]⟩ a else a
set_option maxRecDepth 100000 in
set_option maxHeartbeats 4000000 in
theorem size_any (a : ByteArray) (ha : a.size ≤ maxLen) (w : World) (ht : TabOk w) :
    Calls Tryz.prog 24 #[.string a] w (fun e w' => e = .returned (.string (sizeS a)) ∧ Below w.heap.size w w') := by
  have HA := Lib.hid ha
  have HT := Lib.hid ht
  clear ha ht
  go_enter Tryz.func24, Tryz.ntmps24
  go_wp2_with fail
  refine (cmp_any2 a ⟨#[48]⟩ HA.out (by decide) w HT.out).mono ?_
  rintro e w1 ⟨rfl, hb⟩
  have HB := Lib.hid hb
  have HT1 := Lib.hid (HT.out.up hb)
  clear hb HT
  obtain ⟨z, hz⟩ : ∃ z, cmpS a ⟨#[48]⟩ = z := ⟨_, rfl⟩
  have HZ := Lib.hid hz
  rw [hz]
  clear hz
  by_cases h : z < 0
  · have HE : Hid (sizeS a = opS (fun p q => p - q) ⟨#[48]⟩ a) := Lib.hid (by unfold sizeS; rw [HZ.out, if_pos h])
    go_wp2_with fail
    refine (minus_any ⟨#[48]⟩ a (by decide) HA.out w1 HT1.out).mono ?_
    rintro e w2 ⟨rfl, hb2⟩
    have HB2 := Lib.hid (HB.out.trans (hb2.mono HB.out.size))
    clear hb2 HB
    generalize opS (fun p q => p - q) ⟨#[48]⟩ a = s at *
    go_wp2_with fail
    go_ret
    exact ⟨by rw [HE.out]; rfl, HB2.out⟩
  · have HE : Hid (sizeS a = a) := Lib.hid (by unfold sizeS; rw [HZ.out, if_neg h])
    go_wp2_with fail
    go_ret
    exact ⟨by rw [HE.out]; rfl, HB.out⟩
end Go.Proofs.YtakllkkmofdpaaaGreatDoor
/- Operations on rational numbers, with the place of their parts. -/
namespace Go.Proofs.YtakllkkmofdpaaaGreatDoor
open Go.ChangeShapes Go.WideShapes Go.ChangeAt Go.RowKit
set_option linter.unusedVariables false
set_option linter.unusedSimpArgs false
attribute [local go_sem ↓] execOp_call_val
attribute [local go_sem] callVal_func setCell_drewN alloc_drewN sEq_walk
/-- what an operation on rational numbers hands back -/
def QP (q : Rat) (w : World) (e : Ending) (w' : World) : Prop := Below w.heap.size w w' ∧ ∃ v : Rv, e = .returned (.agg #[.bool v.b1, .slice v.A v.n v.c, .bool v.b2, .slice v.A2 v.m v.d]) ∧ RtV w' w'.heap.size q v
theorem RtP.qp {q : Rat} {w w' : World} {e : Ending} (h : RtP q w e w') : QP q w e w' := by
  obtain ⟨hb, b1, A, n, c, b2, A2, m, d, he, h⟩ := h
  exact ⟨hb, ⟨b1, A, n, c, b2, A2, m, d⟩, he, h⟩
section
variable {w w' : World} {B B' : Nat} {q : Rat} {v : Rv}
theorem RtV.below (h : RtV w B q v) (hb : Below B' w w') (hB : B ≤ B') : RtV w' B q v := RtIs.below h hb hB
theorem RtV.more (h : RtV w B q v) (hB : B ≤ B') : RtV w B' q v := RtIs.more h hB
theorem RtV.up (h : RtV w w.heap.size q v) (hb : Below w.heap.size w w') : RtV w' w'.heap.size q v := RtIs.up h hb
end
theorem mulV {p q : Rat} {v u : Rv} {w : World} (h1 : RtV w w.heap.size p v) (h2 : RtV w w.heap.size q u) (hs : qsz p + qsz q + 1 ≤ 35184372088832) : Calls Tryz.prog 53 #[.agg #[.bool v.b1, .slice v.A v.n v.c, .bool v.b2, .slice v.A2 v.m v.d], .agg #[.bool u.b1, .slice u.A u.n u.c, .bool u.b2, .slice u.A2 u.m u.d]] w (QP (p * q) w) :=
  (rmul_any p q v.b1 v.A v.n v.c v.b2 v.A2 v.m v.d u.b1 u.A u.n u.c u.b2 u.A2 u.m u.d w h1 h2 hs).mono fun _ _ h => h.qp
theorem addV {p q : Rat} {v u : Rv} {w : World} (h1 : RtV w w.heap.size p v) (h2 : RtV w w.heap.size q u) (hs : qsz p + qsz q + 1 ≤ 35184372088832) : Calls Tryz.prog 51 #[.agg #[.bool v.b1, .slice v.A v.n v.c, .bool v.b2, .slice v.A2 v.m v.d], .agg #[.bool u.b1, .slice u.A u.n u.c, .bool u.b2, .slice u.A2 u.m u.d]] w (QP (p + q) w) :=
  (radd_any p q v.b1 v.A v.n v.c v.b2 v.A2 v.m v.d u.b1 u.A u.n u.c u.b2 u.A2 u.m u.d w h1 h2 hs).mono fun _ _ h => h.qp
theorem subV {p q : Rat} {v u : Rv} {w : World} (h1 : RtV w w.heap.size p v) (h2 : RtV w w.heap.size q u) (hs : qsz p + qsz q + 1 ≤ 35184372088832) : Calls Tryz.prog 111 #[.agg #[.bool v.b1, .slice v.A v.n v.c, .bool v.b2, .slice v.A2 v.m v.d], .agg #[.bool u.b1, .slice u.A u.n u.c, .bool u.b2, .slice u.A2 u.m u.d]] w (QP (p - q) w) :=
  (rsub_any p q v.b1 v.A v.n v.c v.b2 v.A2 v.m v.d u.b1 u.A u.n u.c u.b2 u.A2 u.m u.d w h1 h2 hs).mono fun _ _ h => h.qp
theorem divV {p q : Rat} {v u : Rv} {w : World} (h1 : RtV w w.heap.size p v) (h2 : RtV w w.heap.size q u) (hq : q ≠ 0) (hs : qsz p + qsz q + 1 ≤ 35184372088832) : Calls Tryz.prog 85 #[.agg #[.bool v.b1, .slice v.A v.n v.c, .bool v.b2, .slice v.A2 v.m v.d], .agg #[.bool u.b1, .slice u.A u.n u.c, .bool u.b2, .slice u.A2 u.m u.d]] w (QP (p / q) w) :=
  (rdiv_any p q v.b1 v.A v.n v.c v.b2 v.A2 v.m v.d u.b1 u.A u.n u.c u.b2 u.A2 u.m u.d w h1 h2 hq hs).mono fun _ _ h => h.qp
theorem cmpV {p q : Rat} {v u : Rv} {w : World} (h1 : RtV w w.heap.size p v) (h2 : RtV w w.heap.size q u) (hs : qsz p + qsz q + 1 ≤ 35184372088832) : Calls Tryz.prog 49 #[.agg #[.bool v.b1, .slice v.A v.n v.c, .bool v.b2, .slice v.A2 v.m v.d], .agg #[.bool u.b1, .slice u.A u.n u.c, .bool u.b2, .slice u.A2 u.m u.d]] w (fun e w' => e = .returned (.int .i64 (cmpQ p q)) ∧ Below w.heap.size w w') :=
  rcmp_any p q v.b1 v.A v.n v.c v.b2 v.A2 v.m v.d u.b1 u.A u.n u.c u.b2 u.A2 u.m u.d w h1 h2 hs
theorem negV {p : Rat} {v : Rv} {w : World} (h1 : RtV w w.heap.size p v) : Calls Tryz.prog 87 #[.agg #[.bool v.b1, .slice v.A v.n v.c, .bool v.b2, .slice v.A2 v.m v.d]] w (QP (-p) w) :=
  (rneg_any p v.b1 v.A v.n v.c v.b2 v.A2 v.m v.d w h1).mono fun _ _ h => h.qp
theorem absV {p : Rat} {v : Rv} {w : World} (h1 : RtV w w.heap.size p v) : Calls Tryz.prog 48 #[.agg #[.bool v.b1, .slice v.A v.n v.c, .bool v.b2, .slice v.A2 v.m v.d]] w (QP (rabs p) w) :=
  (rabs_any p v.b1 v.A v.n v.c v.b2 v.A2 v.m v.d w h1).mono fun _ _ h => h.qp
theorem signV {p : Rat} {v : Rv} {w : World} (h1 : RtV w w.heap.size p v) : Calls Tryz.prog 86 #[.agg #[.bool v.b1, .slice v.A v.n v.c, .bool v.b2, .slice v.A2 v.m v.d]] w fun e w' => e = .returned (.int .i64 p.num.sign) ∧ Below w.heap.size w w' := rsign_any p v.b1 v.A v.n v.c v.b2 v.A2 v.m v.d w h1
theorem wholeV (k : Int) (w : World) (h0 : -9223372036854775808 ≤ k) (h1 : k ≤ 9223372036854775807) : Calls Tryz.prog 50 #[.int .i64 k] w (QP (k : Rat) w) := (whole_any k w h0 h1).mono fun _ _ h => h.qp
theorem fracV (k d : Int) (w : World) (h0 : -9223372036854775808 ≤ k) (h1 : k ≤ 9223372036854775807) (h2 : -9223372036854775808 ≤ d) (h3 : d ≤ 9223372036854775807) (hd : d ≠ 0) : Calls Tryz.prog 52 #[.int .i64 k, .int .i64 d] w (QP (Rat.divInt k d) w) := (frac_any k d w h0 h1 h2 h3 hd).mono fun _ _ h => h.qp
theorem textV {q : Rat} {v : Rv} {w : World} (h1 : RtV w w.heap.size q v) (ht : TabOk w) : Calls Tryz.prog 54 #[.agg #[.bool v.b1, .slice v.A v.n v.c, .bool v.b2, .slice v.A2 v.m v.d]] w (RtxP q w) := rtext_any q v.b1 v.A v.n v.c v.b2 v.A2 v.m v.d w h1 ht
theorem parseV {s : ByteArray} (h : ratCk s.data.toList = 0) (w : World) : Calls Tryz.prog 94 #[.string s] w (QP (qOf s) w) := (parse_str h w).mono fun _ _ h => h.qp
/-- a store of a rational number into its block -/
theorem qput {w : World} {g T : Nat} {x v : Rv} (h : Blk w g T #[.bool x.b1, .slice x.A x.n x.c, .bool x.b2, .slice x.A2 x.m x.d]) : Blk ((((w.setCell ⟨g, 0, none⟩ (.bool v.b1)).setCell ⟨g, 1, none⟩ (.slice v.A v.n v.c)).setCell ⟨g, 2, none⟩ (.bool v.b2)).setCell ⟨g, 3, none⟩ (.slice v.A2 v.m v.d)) g T #[.bool v.b1, .slice v.A v.n v.c, .bool v.b2, .slice v.A2 v.m v.d] := blk_set4 h
theorem RtV.keepq {w : World} {g T : Nat} {x v u : Rv} {q : Rat} (h : RtV w w.heap.size q u) (hb : Blk w g T #[.bool x.b1, .slice x.A x.n x.c, .bool x.b2, .slice x.A2 x.m x.d]) : RtV ((((w.setCell ⟨g, 0, none⟩ (.bool v.b1)).setCell ⟨g, 1, none⟩ (.slice v.A v.n v.c)).setCell ⟨g, 2, none⟩ (.bool v.b2)).setCell ⟨g, 3, none⟩ (.slice v.A2 v.m v.d)) ((((w.setCell ⟨g, 0, none⟩ (.bool v.b1)).setCell ⟨g, 1, none⟩ (.slice v.A v.n v.c)).setCell ⟨g, 2, none⟩ (.bool v.b2)).setCell ⟨g, 3, none⟩ (.slice v.A2 v.m v.d)).heap.size q u := by
  have B1 := hb.set_at (i := 0) (cs' := #[.bool v.b1, .slice x.A x.n x.c, .bool x.b2, .slice x.A2 x.m x.d]) (.bool v.b1) (by simp)
  have B2 := B1.set_at (i := 1) (cs' := #[.bool v.b1, .slice v.A v.n v.c, .bool x.b2, .slice x.A2 x.m x.d]) (.slice v.A v.n v.c) (by simp)
  have B3 := B2.set_at (i := 2) (cs' := #[.bool v.b1, .slice v.A v.n v.c, .bool v.b2, .slice x.A2 x.m x.d]) (.bool v.b2) (by simp)
  exact (((RtIs.keep h (hb.cell 0) (by simp) _).keep (B1.cell 1) (by simp) _).keep (B2.cell 2) (by simp) _).keep (B3.cell 3) (by simp) _
theorem qfar {w : World} {g g' T : Nat} {cs : Array Value} {v : Rv} (h : Blk w g' T cs) (hg : g' ≠ g) : Blk ((((w.setCell ⟨g, 0, none⟩ (.bool v.b1)).setCell ⟨g, 1, none⟩ (.slice v.A v.n v.c)).setCell ⟨g, 2, none⟩ (.bool v.b2)).setCell ⟨g, 3, none⟩ (.slice v.A2 v.m v.d)) g' T cs := (((h.far hg _).far hg _).far hg _).far hg _
/-- the world after such a store -/
def putQ (w : World) (g : Nat) (v : Rv) : World := (((w.setCell ⟨g, 0, none⟩ (.bool v.b1)).setCell ⟨g, 1, none⟩ (.slice v.A v.n v.c)).setCell ⟨g, 2, none⟩ (.bool v.b2)).setCell ⟨g, 3, none⟩ (.slice v.A2 v.m v.d)
theorem below_putQ {a w : World} {B g : Nat} {v : Rv} (h : Below B a w) (hg : B ≤ g) : Below B a (putQ w g v) := below_set4 h hg
theorem putQ_size (w : World) (g : Nat) (v : Rv) : (putQ w g v).heap.size = w.heap.size := by simp [putQ]
theorem RdQ.keepq {w : World} {g T n : Nat} {A : Option Addr} {x v : Rv} {qs : List Rat} {B : Nat} (h : RdQ w B A n qs) (hB : B ≤ g) : RdQ (putQ w g v) B A n qs := h.below (below_putQ (Below.refl B w) hB) (Nat.le_refl _)
/-- a store into another block leaves a vector as it is -/
theorem RdQ.putq {w : World} {g T n : Nat} {A : Option Addr} {x v : Rv} {qs : List Rat} (h : RdQ w w.heap.size A n qs) (hb : Blk w g T #[.bool x.b1, .slice x.A x.n x.c, .bool x.b2, .slice x.A2 x.m x.d]) (hA : 0 < n → ∃ b off, A = some ⟨b, off, none⟩ ∧ b ≠ g) : RdQ (putQ w g v) (putQ w g v).heap.size A n qs := by
  obtain ⟨vs, h1, h2, h3, h4⟩ := h
  refine ⟨vs, h1, h2, ⟨h3.1, fun hn => ?_⟩, fun i q u hq hu => RtV.keepq (h4 i q u hq hu) hb⟩
  obtain ⟨b, off, e, hlt, hc⟩ := h3.2 hn
  obtain ⟨b', off', e', hne⟩ := hA hn
  rw [e] at e'
  injection e' with e'
  injection e' with e1 e2
  subst e1
  refine ⟨b, off, e, by rw [putQ_size]; exact hlt, fun j u hu => ?_⟩
  have k : ∀ (w : World) (o i : Nat) (u : Value), (w.setCell ⟨g, o, none⟩ u).cell? ⟨b, i, none⟩ = w.cell? ⟨b, i, none⟩ := fun w o i u => World.cell?_setCell_other _ _ _ _ (fun e => hne (by injection e with e; exact e.symm))
  unfold putQ
  rw [k, k, k, k]
  exact hc j u hu
theorem qsz_whole (k : Int) (h0 : -9223372036854775808 ≤ k) (h1 : k ≤ 9223372036854775807) : qsz (k : Rat) ≤ 2 := by
  unfold qsz
  rw [Rat.num_intCast, Rat.den_intCast]
  exact Nat.max_le.2 ⟨dlen_le (by show _ < 4294967296 ^ 2; omega), by decide +kernel⟩
/-- the sum of numbers -/
def sumR (qs : List Rat) : Rat := qs.foldl (· + ·) 0
theorem sumR_snoc (qs : List Rat) (q : Rat) : sumR (qs ++ [q]) = sumR qs + q := by unfold sumR; rw [List.foldl_append]; rfl
theorem sumR_qsz : ∀ (n : Nat) (qs : List Rat), qs.length = n → ∀ b, (∀ q ∈ qs, qsz q ≤ b) → qsz (sumR qs) ≤ n * (b + 1) + 1
  | 0, qs, h, b, hb => by
    rw [List.length_eq_zero_iff] at h
    subst h
    show qsz 0 ≤ _
    have : qsz 0 ≤ 1 := by decide +kernel
    omega
  | n + 1, qs, h, b, hb => by
    obtain ⟨r, q, rfl⟩ : ∃ r q, qs = r ++ [q] := ⟨qs.dropLast, qs.getLast (by intro e; subst e; simp at h), (List.dropLast_concat_getLast _).symm⟩
    rw [List.length_append, List.length_singleton] at h
    have h1 := sumR_qsz n r (by omega) b fun q hq => hb q (List.mem_append_left _ hq)
    have h2 := hb q (by simp)
    rw [sumR_snoc]
    have h3 := add_qsz (sumR r) q
    rw [Nat.succ_mul]
    omega
/-- the scalar product -/
def dotR (a b : List Rat) : Rat := sumR (List.zipWith (· * ·) a b)
end Go.Proofs.YtakllkkmofdpaaaGreatDoor
