/- The law JournalMerges: the walk. -/
import Derived.Test.YtmmkkkakbbidjaaDoorJMG
import Derived.Test.YtmmkkkakbbidjaaDoorJMA
import Derived.Test.YtmmkkkakbbidjaaDoorJ10
namespace Go.Proofs.YtmmkkkakbbidjaaDoor
open Go.ChangeShapes Go.WideShapes Go.ChangeAt Go.RowKit
set_option linter.unusedVariables false
attribute [local go_sem ↓] execOp_call_val
attribute [local go_sem] callVal_func setCell_drewN alloc_drewN sEq_walk

theorem rdEv_none (w : World) (B : Nat) : RdEv w B none 0 [] := ⟨rfl, rfl, fun h => by omega⟩
theorem evSort_nil' : evSort [] = [] := List.eq_nil_of_length_eq_zero (by rw [evSort_len]; rfl)

set_option maxRecDepth 100000 in
set_option maxHeartbeats 8000000 in
theorem jmergeslaw_any (A : Option Addr) (n c : Nat) (a : List Ev) (B : Option Addr) (m d : Nat) (b : List Ev) (hfa : ∀ x ∈ a, x.Fit) (hfb : ∀ x ∈ b, x.Fit) (w : World) (hA : RdEv w w.heap.size A n a) (hB : RdEv w w.heap.size B m b) (hn : n ≤ 9223372036854775807) (hm : m ≤ 9223372036854775807) (ht : TabOk w) :
    Calls Tryd.prog 5 #[.slice A n c, .slice B m d] w fun e w' => e = .returned (.bool true) ∧ Below w.heap.size w w' := by
  obtain ⟨iE, hiE, hE0, hE1, hE2⟩ := info_parts info_ev
  have HA := Lib.hid hA
  have HB0 := Lib.hid hB
  have HT := Lib.hid ht
  have HFA := Lib.hid hfa
  have HFB := Lib.hid hfb
  clear hA hB hfa hfb ht
  go_enter Tryd.func5, Tryd.ntmps5
  go_wp2_with fail
  refine (jworks_any _ HT.out).mono ?_
  rintro e w1 ⟨rfl, k1⟩
  have HB1 := Lib.hid k1
  have HA1 := Lib.hid (HA.out.up k1)
  have HBB1 := Lib.hid (HB0.out.up k1)
  clear k1
  go_wp2_with fail
  refine (jmerge_any A n c a B m d b HFA.out HFB.out _ HA1.out HBB1.out hn hm).mono ?_
  rintro e w2 ⟨k2, h1⟩
  have HB2 := Lib.hid (HB1.out.trans (k2.mono HB1.out.size))
  have HA2 := Lib.hid (HA1.out.up k2)
  have HBB2 := Lib.hid (HBB1.out.up k2)
  clear k2
  rcases h1 with ⟨hbad, k, hk, rfl⟩ | ⟨hca, hcb, hle, vx, rfl, hox⟩
  · have HBAD := Lib.hid hbad
    have hkb : (k != 0) = true := by simpa using hk
    clear hbad hk
    go_wp2_with fail
    refine (jmerge_any B m d b A n c a HFB.out HFA.out _ HBB2.out HA2.out hm hn).mono ?_
    rintro e w3 ⟨k3, h2⟩
    have HB3 := Lib.hid (HB2.out.trans (k3.mono HB2.out.size))
    clear k3
    rcases h2 with ⟨_, k', hk', rfl⟩ | ⟨hcb, hca, hle, _⟩
    · have hkb' : (k' != 0) = true := by simpa using hk'
      clear hk'
      go_wp2_with fail
      go_ret
      exact ⟨rfl, HB3.out⟩
    · rw [mrg_comm] at hle
      rcases HBAD.out with h | h | h
      · exact absurd hca h
      · exact absurd hcb h
      · omega
  have HCA := Lib.hid hca
  have HCB := Lib.hid hcb
  have HLE := Lib.hid hle
  have HOX := Lib.hid hox
  have HNA : Hid (n ≤ 256) := Lib.hid (by have := ckEv_len hca; have := HA.out.1; omega)
  have HNB : Hid (m ≤ 256) := Lib.hid (by have := ckEv_len hcb; have := HB0.out.1; omega)
  clear hca hcb hle hox
  go_wp2_with fail
  refine (jmerge_any B m d b A n c a HFB.out HFA.out _ HBB2.out HA2.out hm hn).mono ?_
  rintro e w3 ⟨k3, h2⟩
  have HB3 := Lib.hid (HB2.out.trans (k3.mono HB2.out.size))
  have HA3 := Lib.hid (HA2.out.up k3)
  have HBB3 := Lib.hid (HBB2.out.up k3)
  have HOX3 := Lib.hid (own_up HOX.out k3)
  clear k3
  rw [mrg_comm (evSort b) (evSort a)] at h2
  rcases h2 with ⟨hbad, _⟩ | ⟨_, _, _, vy, rfl, hoy⟩
  · rcases hbad with h | h | h
    · exact absurd HCB.out h
    · exact absurd HCA.out h
    · have := HLE.out; omega
  have HOY := Lib.hid hoy
  clear hoy
  go_wp2_with fail
  refine (jmerge_any A n c a A n c a HFA.out HFA.out _ HA3.out HA3.out hn hn).mono ?_
  rintro e w4 ⟨k4, h2⟩
  have HB4 := Lib.hid (HB3.out.trans (k4.mono HB3.out.size))
  have HA4 := Lib.hid (HA3.out.up k4)
  have HBB4 := Lib.hid (HBB3.out.up k4)
  have HOX4 := Lib.hid (own_up HOX3.out k4)
  have HOY4 := Lib.hid (own_up HOY.out k4)
  clear k4
  rw [mrg_self] at h2
  rcases h2 with ⟨hbad, _⟩ | ⟨_, _, _, vo, rfl, hoo⟩
  · rcases hbad with h | h | h
    · exact absurd HCA.out h
    · exact absurd HCA.out h
    · rw [evSort_len] at h; have := HNA.out; have := HA.out.1; omega
  have HOO := Lib.hid hoo
  clear hoo
  go_wp2_with fail
  refine (jmerge_any A n c a none 0 0 [] HFA.out (fun x hx => by simp at hx) _ HA4.out (rdEv_none _ _) hn (by omega)).mono ?_
  rintro e w5 ⟨k5, h2⟩
  have HB5 := Lib.hid (HB4.out.trans (k5.mono HB4.out.size))
  have HA5 := Lib.hid (HA4.out.up k5)
  have HBB5 := Lib.hid (HBB4.out.up k5)
  have HOX5 := Lib.hid (own_up HOX4.out k5)
  have HOY5 := Lib.hid (own_up HOY4.out k5)
  have HOO5 := Lib.hid (own_up HOO.out k5)
  clear k5
  rw [evSort_nil', mrg_nil_r] at h2
  rcases h2 with ⟨hbad, _⟩ | ⟨_, _, _, vn, rfl, hon⟩
  · rcases hbad with h | h | h
    · exact absurd HCA.out h
    · exact absurd rfl h
    · rw [evSort_len] at h; have := HNA.out; have := HA.out.1; omega
  have HON := Lib.hid hon
  clear hon
  go_wp2_with fail
  refine (sorted_any A n c a HFA.out _ HA5.out hn).mono ?_
  rintro e w6 ⟨k6, h2⟩
  have HB6 := Lib.hid (HB5.out.trans (k6.mono HB5.out.size))
  have HA6 := Lib.hid (HA5.out.up k6)
  have HBB6 := Lib.hid (HBB5.out.up k6)
  have hox := own_up HOX5.out k6
  have hoy := own_up HOY5.out k6
  have hoo := own_up HOO5.out k6
  have hon := own_up HON.out k6
  clear k6
  rcases h2 with ⟨hbad, _⟩ | ⟨_, SA, sn, sc, rfl, hsc, hscm, hrs⟩
  · exact absurd HCA.out hbad
  have HRS := Lib.hid hrs
  have hsn : sn ≤ 9223372036854775807 := by have := hrs.1; rw [evSort_len] at this; have := HA.out.1; omega
  have HMEM : Hid (∀ z, z ∈ a ++ b → z ∈ mrg (evSort a) (evSort b)) := Lib.hid fun z hz => mrg_mem (by
    rcases List.mem_append.1 hz with h | h
    · exact .inl ((evSort_perm a).mem_iff.2 h)
    · exact .inr ((evSort_perm b).mem_iff.2 h))
  have HLN : Hid (n ≤ (mrg (evSort a) (evSort b)).length ∧ m ≤ (mrg (evSort a) (evSort b)).length ∧ (mrg (evSort a) (evSort b)).length ≤ n + m) := Lib.hid (by
    have h := mrg_len (evSort a) (evSort b)
    rw [evSort_len, evSort_len, HA.out.1, HB0.out.1] at h
    exact h)
  clear hrs HOX HOX3 HOX4 HOX5 HOY HOY4 HOY5 HOO HOO5 HON HA1 HA2 HA3 HA4 HA5 HBB1 HBB2 HBB3 HBB4 HBB5
  have HSL : Hid ((evSort a).length ≤ 256) := Lib.hid (by rw [evSort_len, HA.out.1]; exact HNA.out)
  generalize evSort b = t at *
  generalize evSort a = s at *
  generalize mrg s t = x at *
  obtain ⟨xA, xc, rfl, hrx⟩ := rdEv_own' hox
  obtain ⟨yA, yc, rfl, hry⟩ := rdEv_own' hoy
  obtain ⟨oA, oc, rfl, hro⟩ := rdEv_own' hoo
  obtain ⟨nA, nc, rfl, hrn⟩ := rdEv_own' hon
  have HRX := Lib.hid hrx
  have HRY := Lib.hid hry
  have HRO := Lib.hid hro
  have HRN := Lib.hid hrn
  have hxl : x.length ≤ 9223372036854775807 := by have := HLE.out; omega
  have hsl : s.length ≤ 9223372036854775807 := by have := HSL.out; omega
  have hx1 : sameGo x x = true := sameGo_iff.2 rfl
  have hs1 : sameGo s s = true := sameGo_iff.2 rfl
  have HX1 := Lib.hid (sameEv_any xA x.length xc x yA x.length yc x)
  have HO1 := Lib.hid (sameEv_any oA s.length oc s SA sn sc s)
  have HN1 := Lib.hid (sameEv_any nA s.length nc s SA sn sc s)
  rw [hx1] at HX1
  rw [hs1] at HO1 HN1
  clear hrx hry hro hrn hox hoy hoo hon hx1 hs1
  go_wp2_with fail
  refine (HX1.out w6 HRX.out HRY.out hxl hxl).mono ?_
  rintro e w7 ⟨rfl, q7, rfl⟩
  have HRO7 := Lib.hid (HRO.out.up (below_drewN (Below.refl _ _) q7))
  have HRN7 := Lib.hid (HRN.out.up (below_drewN (Below.refl _ _) q7))
  have HRS7 := Lib.hid (HRS.out.up (below_drewN (Below.refl _ _) q7))
  go_wp2_with fail
  refine (HO1.out _ HRO7.out HRS7.out hsl hsn).mono ?_
  rintro e w8 ⟨rfl, q8, rfl⟩
  have HRN8 := Lib.hid (HRN7.out.up (below_drewN (Below.refl _ _) q8))
  have HRS8 := Lib.hid (HRS7.out.up (below_drewN (Below.refl _ _) q8))
  simp only [World.drewN_drewN] at HRN8 HRS8
  go_wp2_with fail
  refine (HN1.out _ HRN8.out HRS8.out hsl hsn).mono ?_
  rintro e w9 ⟨rfl, q9, rfl⟩
  have HB9 := Lib.hid (below_drewN HB6.out (q7 + q8 + q9))
  have HA9 := Lib.hid (HA6.out.up (below_drewN (Below.refl _ _) (q7 + q8 + q9)))
  have HBB9 := Lib.hid (HBB6.out.up (below_drewN (Below.refl _ _) (q7 + q8 + q9)))
  have HRX9 := Lib.hid (HRX.out.up (below_drewN (Below.refl _ _) (q7 + q8 + q9)))
  simp only [World.drewN_drewN, Nat.add_assoc] at HB9 HA9 HBB9 HRX9 ⊢
  generalize w6.drewN (q7 + (q8 + q9)) = v0 at *
  clear HX1 HO1 HN1 HRO HRN HRS HRY HRO7 HRN7 HRS7 HRN8 HRS8
  have hnI := HNA.out
  have hmI := HNB.out
  have HM0 := Lib.hid (made_row v0 v0.heap.size (Nat.le_refl _))
  have HA10 := Lib.hid (HA9.out.up ((Below.refl _ _).alloc (Nat.le_refl _) (.cells #[] 31)))
  go_wp2_with (at_builtin; refine wpList_append_evs _ rfl (.tmp 94) (.tmp 95) _ rfl v0.heap.size iE _ Tryd.underlying22 hiE hE0 hE1 hE2 rfl (.slice (some ⟨v0.heap.size, 0, none⟩) 0 0) 0 [] rfl HM0.out (fun h => by cases h) A n c _ a rfl HA10.out (by omega) (by simp) ?_)
  intro v1 u1 hown1 hgr1 hnn1
  have hb1 : Below v0.heap.size v0 u1 := ((Below.refl _ v0).alloc (Nat.le_refl _) _).grown hgr1 (by simp) (by intro k hk; simp [Value.ownBlock] at hk; omega)
  have HBB11 := Lib.hid (HBB9.out.up hb1)
  have HD1 := Lib.hid hb1
  have HO1 := Lib.hid hown1
  have HH1 := Lib.hid hgr1
  clear hown1 hgr1 hb1
  go_wp2_with (at_builtin; refine wpList_append_evs _ rfl (.tmp 96) (.tmp 97) _ rfl v0.heap.size iE _ Tryd.underlying22 hiE hE0 hE1 hE2 rfl _ _ _ rfl HO1.out hnn1 B m d _ b rfl HBB11.out (by omega) HD1.out.size ?_)
  intro v2 u2 hown2 hgr2 hnn2
  have hb2 : Below v0.heap.size v0 u2 := HD1.out.grown hgr2 HD1.out.size (fun k hk => (HO1.out.lt k hk).1)
  have HD2 := Lib.hid hb2
  have HL2 : Hid ((a ++ b).length = n + m) := Lib.hid (by rw [List.length_append, HA.out.1, HB0.out.1])
  rw [← List.flatMap_append, ← HL2.out] at hown2
  obtain ⟨lA, lc, rfl, hrl⟩ := rdEv_own' hown2
  have HRL := Lib.hid hrl
  have HRX2 := Lib.hid (HRX9.out.up hb2)
  clear hown2 hgr2 hnn2 hb2 hrl hnn1 HO1 HH1
  have hll : (a ++ b).length ≤ 512 := by rw [HL2.out]; omega
  generalize hlv : a ++ b = l at *
  have HLV := Lib.hid hlv
  clear hlv
  go_wp2_with fail
  go_loopw [100] (fun iv wr => ∃ i : Nat, i ≤ l.length ∧ iv = .int .i64 i ∧ Below u2.heap.size u2 wr) (fun iv _ => l.length - (intOf iv).toNat)
  case atStart => exact ⟨0, by omega, rfl, Below.refl _ _⟩
  case round =>
    obtain ⟨i, hi, rfl, hb⟩ := hrel
    obtain ⟨wo, rfl⟩ : ∃ wo : World, wo = wr := ⟨_, rfl⟩
    have HB := Lib.hid hb
    have hrl := HRL.out.up hb
    have hrx := HRX2.out.up hb
    clear hb
    by_cases hlt : i < l.length
    · obtain ⟨z, hz⟩ : ∃ z, l[i]? = some z := ⟨_, List.getElem?_eq_getElem hlt⟩
      have HZM : Hid (z ∈ x) := Lib.hid (HMEM.out z (List.mem_of_getElem? hz))
      obtain ⟨bl, ol, hlA, hbl⟩ := hrl.form (by omega)
      subst hlA
      obtain ⟨z0, z1, z2, z3⟩ := hrl.at_ hz
      have hiI : (i : Int) < (l.length : Int) := by omega
      have HBI : Hid (Below u2.heap.size u2 (wo.alloc (.cells #[.int .i64 z.time, .string z.kind, .string z.name, .int .i64 z.value] 31))) := Lib.hid (HB.out.alloc HB.out.size _)
      have HQ : Hid (Blk (wo.alloc (.cells #[.int .i64 z.time, .string z.kind, .string z.name, .int .i64 z.value] 31)) wo.heap.size 31 #[.int .i64 z.time, .string z.kind, .string z.name, .int .i64 z.value]) := Lib.hid (Blk.new _ _ _)
      have hwq : wo.heap.size < (wo.alloc (.cells #[.int .i64 z.time, .string z.kind, .string z.name, .int .i64 z.value] 31)).heap.size := by simp
      have hrx1 := hrx.up ((Below.refl _ _).alloc (Nat.le_refl _) (.cells #[.int .i64 z.time, .string z.kind, .string z.name, .int .i64 z.value] 31))
      have HRXI := Lib.hid hrx1
      clear hz hrl hrx hrx1
      go_wp2_with fail
      generalize hWq : wo.alloc (.cells #[.int .i64 z.time, .string z.kind, .string z.name, .int .i64 z.value] 31) = wi at *
      have HWQ := Lib.hid hWq
      clear hWq z0 z1 z2 z3
      have hwi := HBI.out.size
      go_loopw [17, 106] (fun fv kv wr2 => ∃ kk : Nat, kk ≤ x.length ∧ kv = .int .i64 kk ∧ fv = .bool (hasEv (x.take kk) z) ∧ Below wi.heap.size wi wr2) (fun _ kv _ => x.length - (intOf kv).toNat)
      case atStart => exact ⟨0, by omega, rfl, by simp [hasEv], Below.refl _ _⟩
      case round =>
        obtain ⟨kk, hk, rfl, rfl, hbk⟩ := hrel
        have HBK := Lib.hid hbk
        have hrx := HRXI.out.up hbk
        have hxl2 := HLE.out
        obtain ⟨e0, e1, e2, e3, ef, elt⟩ := Ev.box HQ.out
        replace e0 := (hbk.cell hwq).trans e0
        replace e1 := (hbk.cell hwq).trans e1
        replace e2 := (hbk.cell hwq).trans e2
        replace e3 := (hbk.cell hwq).trans e3
        clear hbk ef elt
        by_cases hlt2 : kk < x.length
        · obtain ⟨y, hy⟩ : ∃ y, x[kk]? = some y := ⟨_, List.getElem?_eq_getElem hlt2⟩
          have HST := Lib.hid (hasEv_step (z := z) hy)
          obtain ⟨bx, ox, hxA, hbx⟩ := hrx.form (by omega)
          subst hxA
          obtain ⟨y0, y1, y2, y3⟩ := hrx.at_ hy
          have hkI : (kk : Int) < (x.length : Int) := by omega
          have hwr := HBK.out.size
          have hw16 : wo.heap.size < wr.heap.size := by omega
          have HBK' : Hid (Below wi.heap.size wi (wr.alloc (.cells #[.int .i64 y.time, .string y.kind, .string y.name, .int .i64 y.value] 31))) := Lib.hid (HBK.out.alloc HBK.out.size _)
          have HQ2 : Hid (Blk (wr.alloc (.cells #[.int .i64 y.time, .string y.kind, .string y.name, .int .i64 y.value] 31)) wr.heap.size 31 #[.int .i64 y.time, .string y.kind, .string y.name, .int .i64 y.value]) := Lib.hid (Blk.new _ _ _)
          have hel := fun w' => eql_ev y z w'
          simp only [evV] at hel
          obtain ⟨g0, g1, g2, g3, gf, glt⟩ := Ev.box HQ2.out
          have f0 := (((Below.refl _ wr).alloc (Nat.le_refl _) (.cells #[.int .i64 y.time, .string y.kind, .string y.name, .int .i64 y.value] 31)).cell (p := ⟨wo.heap.size, 0, none⟩) hw16).trans e0
          have f1 := (((Below.refl _ wr).alloc (Nat.le_refl _) (.cells #[.int .i64 y.time, .string y.kind, .string y.name, .int .i64 y.value] 31)).cell (p := ⟨wo.heap.size, 1, none⟩) hw16).trans e1
          have f2 := (((Below.refl _ wr).alloc (Nat.le_refl _) (.cells #[.int .i64 y.time, .string y.kind, .string y.name, .int .i64 y.value] 31)).cell (p := ⟨wo.heap.size, 2, none⟩) hw16).trans e2
          have f3 := (((Below.refl _ wr).alloc (Nat.le_refl _) (.cells #[.int .i64 y.time, .string y.kind, .string y.name, .int .i64 y.value] 31)).cell (p := ⟨wo.heap.size, 3, none⟩) hw16).trans e3
          have hgd := grd_ev
          clear hy hrx e0 e1 e2 e3 gf glt
          generalize hfo : hasEv (x.take kk) z = fo at *
          have HFO := Lib.hid hfo
          clear hfo
          generalize hW2 : wr.alloc (.cells #[.int .i64 y.time, .string y.kind, .string y.name, .int .i64 y.value] 31) = W2 at *
          have HW2 := Lib.hid hW2
          cases fo with
          | true =>
            go_wp2_with fail
            go_roundw
            case rel => exact ⟨kk + 1, by omega, by go_num, by rw [HST.out]; rfl, HBK'.out⟩
            case measure => simp [intOf]; omega
          | false =>
            go_wp2_with fail
            go_roundw
            case rel => exact ⟨kk + 1, by omega, by go_num, by rw [HST.out]; simp, HBK'.out⟩
            case measure => simp [intOf]; omega
        · have hkk : kk = x.length := by omega
          subst hkk
          have hfo : hasEv (x.take x.length) z = true := by rw [List.take_length]; exact hasEv_iff.2 HZM.out
          rw [hfo]
          clear hrx e0 e1 e2 e3 hfo
          go_wp2_with fail
          go_roundw
          case rel => exact ⟨i + 1, by omega, by go_num, HBI.out.trans (HBK.out.mono HBI.out.size)⟩
          case measure => simp [intOf]; omega
    · have hil : i = l.length := by omega
      subst hil
      obtain ⟨hl1, hl2, hl3⟩ := HLN.out
      have hxl2 := HLE.out
      clear hrl hrx
      have hmx : decide (max (n : Int) (m : Int) ≤ (x.length : Int)) = true := by simp; omega
      have hmx2 : max (n : Int) (m : Int) ≤ (x.length : Int) := by omega
      have hsm : IntKind.i64.wrap ((n : Int) + (m : Int)) = (n : Int) + (m : Int) := IntWalk.i64_in _ (by omega)
      have hs2 : decide ((x.length : Int) ≤ (n : Int) + (m : Int)) = true := by simp; omega
      go_wp2_with fail
      go_ret
      exact ⟨rfl, (HB9.out.trans (HD2.out.mono HB9.out.size)).trans (HB.out.mono (Nat.le_trans HB9.out.size HD2.out.size))⟩
end Go.Proofs.YtmmkkkakbbidjaaDoor
