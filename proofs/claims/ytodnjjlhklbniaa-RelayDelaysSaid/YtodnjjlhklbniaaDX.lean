/- RelayDelays. -/
import Derived.Test.YtodnjjlhklbniaaDRn
import Derived.Test.YtodnjjlhklbniaaDV
import Derived.Test.YtodnjjlhklbniaaDH
import Derived.Deep.DeepCutAuto
namespace Go.Proofs.Ytodnjjlhklbniaa
open Go.ChangeShapes Go.WideShapes Go.ChangeAt Go.RowKit
set_option linter.unusedVariables false
set_option linter.unusedSimpArgs false
attribute [local go_sem ↓] execOp_call_val
attribute [local go_sem] callVal_func setCell_drewN alloc_drewN sEq_walk


theorem own_lit1 (w : World) (base T : Nat) (u : Value) (hb : base ≤ w.heap.size) : (w.alloc (.cells #[u] T)).ownsRow base T 1 (.slice (some ⟨w.heap.size, 0, none⟩) 1 1) 1 [u] :=
  ⟨by simp, .inr ⟨w.heap.size, 1, #[u], rfl, hb, heap_alloc_new w _, Nat.le_refl _, by simp [maxLen], by simp, by simp⟩⟩
theorem sl_of (w : World) : ∀ (us : List Value) (ls : List (List ByteArray)), us.length = ls.length → (∀ (i : Nat) (u : Value) (l : List ByteArray), us[i]? = some u → ls[i]? = some l → ∃ A c, u = .slice A l.length c ∧ RdStr w w.heap.size A l.length l ∧ l.length ≤ 9223372036854775807) →
    ∃ sl : List Sl, sl.flatMap Sl.cells = us ∧ sss sl = ls ∧ ∀ z ∈ sl, RdStr w w.heap.size z.A z.n z.ss ∧ z.n ≤ 9223372036854775807
  | [], [], _, _ => ⟨[], rfl, rfl, by simp⟩
  | u :: us, l :: ls, hl, h => by
    obtain ⟨sl, h1, h2, h3⟩ := sl_of w us ls (by simpa using hl) (fun i x y hx hy => h (i + 1) x y (by simpa using hx) (by simpa using hy))
    obtain ⟨A, c, e, hr, hm⟩ := h 0 u l rfl rfl
    refine ⟨⟨A, l.length, c, l⟩ :: sl, by rw [List.flatMap_cons, h1, e]; rfl, by unfold sss at h2 ⊢; rw [List.map_cons, h2], fun z hz => ?_⟩
    rcases List.mem_cons.1 hz with rfl | hz
    · exact ⟨hr, hm⟩
    · exact h3 z hz
  | [], _ :: _, h, _ => by simp at h
  | _ :: _, [], h, _ => by simp at h
theorem OutS.sl {base : Nat} {w : World} {v : Value} {us : List Value} {ls : List (List ByteArray)} (h : OutS base w v us ls) : ∃ A c sl, v = .slice A ls.length c ∧ sss sl = ls ∧ RdSl w w.heap.size A ls.length sl := by
  obtain ⟨A, c, hv, hr, hc, hcm, hb⟩ := own_rd h.out
  obtain ⟨sl, h1, h2, h3⟩ := sl_of w us ls h.len (fun i u l hu hl => by
    obtain ⟨B, d, he, hr2, hld, hdm, _⟩ := own_rd (h.inn i u l hu hl)
    exact ⟨B, d, he, ⟨rfl, hr2⟩, by unfold maxLen at hdm; omega⟩)
  refine ⟨A, c, sl, by rw [hv, h.len], h2, ⟨by rw [← h2]; unfold sss; rw [List.length_map], ?_, h3⟩⟩
  rw [h1, ← h.len]
  exact hr
theorem dl_run {v ms : Int} {on : Nat} (h0 : 1 ≤ ms) (h1 : ms ≤ 50) : ∀ (fs : List (List ByteArray)) (k : Nat) (b : Bool) (K : Nat → Nat → Bool × Int), (∀ (j : Nat) (l : List ByteArray), fs[j]? = some l → l = dlF on (k + j)) → k + fs.length ≤ 45 → DlS ms on k (K 0 0) →
    ∀ (j : Nat) (o : List ByteArray), (runR (prog2 v) ms [0] fs [b] K)[j]? = some o → o.length = if dlB v ms on (k + j) = true then 1 else 0
  | [], k, b, K, _, _, _, j, o, ho => by simp [runR] at ho
  | fl :: r, k, b, K, hf, hk, hs, j, o, ho => by
    have hfl : fl = dlF on k := hf 0 fl rfl
    simp only [List.length_cons] at hk
    obtain ⟨s1, s2, s3⟩ := dl_step (v := v) (b := b) h0 h1 (by omega) hs
    rw [← hfl] at s1 s2 s3
    rw [runR_cons] at ho
    cases j with
    | zero =>
      simp only [List.getElem?_cons_zero, Option.some.injEq] at ho
      rw [← ho]
      exact s3
    | succ j =>
      simp only [List.getElem?_cons_succ] at ho
      rw [s1] at ho
      have := dl_run h0 h1 r (k + 1) (dlB v ms on k) _ (fun i l hl => by have := hf (i + 1) l (by simpa using hl); rw [this]; congr 1; omega) (by omega) s2 j o ho
      rw [this, show k + 1 + j = k + (j + 1) from by omega]
def dlL (on n : Nat) : List (List ByteArray) := (List.range n).map (dlF on)
theorem dlL_len (on n : Nat) : (dlL on n).length = n := by unfold dlL; rw [List.length_map, List.length_range]
theorem dlL_succ (on n : Nat) : dlL on (n + 1) = dlL on n ++ [dlF on n] := by unfold dlL; rw [List.range_succ, List.map_append]; rfl
theorem dlL_at (on n j : Nat) (l : List ByteArray) (h : (dlL on n)[j]? = some l) : l = dlF on j := by
  have hj : j < n := by have := (List.getElem?_eq_some_iff.1 h).1; rwa [dlL_len] at this
  unfold dlL at h
  rw [List.getElem?_map, List.getElem?_range hj] at h
  exact (Option.some.inj h).symm
theorem dl_big (on n : Nat) : bigF (dlL on n) = false := by
  unfold bigF
  rw [List.any_eq_false]
  intro l hl
  obtain ⟨i, hi⟩ := List.mem_iff_getElem?.1 hl
  rw [dlL_at _ _ _ _ hi]
  unfold dlF
  split <;> simp
theorem dl_runE {v ms : Int} (on : Nat) (h1 : 1 ≤ v) (h2 : v ≤ 300) (h3 : 1 ≤ ms) (h4 : ms ≤ 50) : runE (prog2 v) ms (dlL on 45) = 0 := by
  unfold runE
  rw [prog2_ck h1 h2, if_neg (by simp), if_neg (by omega), if_neg (by rw [dlL_len]; omega), dl_big]
  rfl
theorem dl_runO {v ms : Int} (on : Nat) (h1 : 1 ≤ v) (h2 : v ≤ 300) (h3 : 1 ≤ ms) (h4 : ms ≤ 50) : (runO (prog2 v) ms (dlL on 45)).length = 45 ∧ ∀ (j : Nat) (o : List ByteArray), (runO (prog2 v) ms (dlL on 45))[j]? = some o → o.length = if dlB v ms on j = true then 1 else 0 := by
  have hr : runO (prog2 v) ms (dlL on 45) = runR (prog2 v) ms [0] (dlL on 45) [false] (fun _ _ => (false, 0)) := by unfold runO; rw [prog2_ord h1 h2]; rfl
  rw [hr]
  refine ⟨by rw [runR_len, dlL_len], fun j o ho => ?_⟩
  have := dl_run h3 h4 (dlL on 45) 0 false (fun _ _ => (false, 0)) (fun j l hl => by rw [Nat.zero_add]; exact dlL_at _ _ _ _ hl) (by rw [dlL_len]; omega) ⟨by simp, fun h => by omega⟩ j o ho
  rwa [Nat.zero_add] at this
theorem fit2 {v : Int} {hs : List Rh} (h : rls hs = prog2 v) : ∀ z ∈ hs, z.r.Fit := fun z hz => by
  have hm : z.r ∈ prog2 v := by rw [← h]; exact List.mem_map.2 ⟨z, hz, rfl⟩
  rw [List.mem_singleton.1 hm]
  refine ⟨by show (⟨#[84]⟩ : ByteArray).size ≤ maxLen; unfold maxLen; decide +kernel, fun x hx => ?_⟩
  simp only [List.mem_cons, List.not_mem_nil, or_false] at hx
  rcases hx with rfl | rfl
  · show (⟨#[]⟩ : ByteArray).size ≤ maxLen; unfold maxLen; decide +kernel
  · show (⟨#[65]⟩ : ByteArray).size ≤ maxLen; unfold maxLen; decide +kernel
set_option maxRecDepth 100000 in
set_option maxHeartbeats 8000000 in
theorem delays_any (a0 a1 a2 : Int) (w : World) :
    Calls Try.prog 6 #[.int .i64 a0, .int .i64 a1, .int .i64 a2] w fun e w' => e = .returned (.bool true) ∧ Below w.heap.size w w' := by
  obtain ⟨i0, hi0, hz0, hz1, hz2⟩ := info_parts info_strl
  have HI0 := Lib.hid hi0
  have HI1 := Lib.hid hz0
  have HI2 := Lib.hid hz1
  have HI3 := Lib.hid hz2
  clear hi0 hz0 hz1 hz2
  have t0 := tmodB a0 300 (by omega)
  have t1 := tmodB a1 50 (by omega)
  have t2 := tmodB a2 40 (by omega)
  go_enter Try.func6, Try.ntmps6
  go_upto_region 1 with fail
  go_cut [2] (fun v2 wc => w = wc ∧ ∃ on : Nat, v2 = .int .i64 (on : Int) ∧ on < 40)
  case first =>
    go_wp2_with fail
    go_meet
    case rel => exact ⟨rfl, ((a2.tmod 40 + 40) % 40).toNat, by rw [Int.toNat_of_nonneg (Int.emod_nonneg _ (by omega))], by omega⟩
  case rest =>
  obtain ⟨rfl, on, rfl, hon⟩ := hcut
  clear t2
  go_upto_region 2 with fail
  go_cut [0] (fun v0 wc => w = wc ∧ ∃ v : Int, v0 = .int .i64 v ∧ 1 ≤ v ∧ v ≤ 300)
  case first =>
    go_wp2_with fail
    go_meet
    case rel => exact ⟨rfl, _, rfl, by omega, by omega⟩
  case rest =>
  obtain ⟨rfl, v, rfl, hv1, hv2⟩ := hcut
  clear t0
  go_upto_region 3 with fail
  go_cut [1] (fun v1 wc => w = wc ∧ ∃ ms : Int, v1 = .int .i64 ms ∧ 1 ≤ ms ∧ ms ≤ 50)
  case first =>
    go_wp2_with fail
    go_meet
    case rel => exact ⟨rfl, _, rfl, by omega, by omega⟩
  case rest =>
  obtain ⟨rfl, ms, rfl, hm1, hm2⟩ := hcut
  clear t1
  go_wp2_with fail
  refine (rworks_any _).mono ?_
  rintro e w1 ⟨rfl, k1⟩
  have HB1 := Lib.hid k1
  clear k1
  have hb2 : Below w1.heap.size w1 ((w1.alloc (.cells #[.int .i64 6, .string ⟨#[]⟩, .int .i64 v, .int .i64 0, .string ⟨#[65]⟩, .int .i64 0] 29)).alloc (.cells #[.string ⟨#[84]⟩, .slice (some ⟨w1.heap.size, 0, none⟩) 2 2] 32)) := ((Below.refl _ _).alloc (Nat.le_refl _) _).alloc (by simp) _
  have HB2 := Lib.hid (HB1.out.trans (hb2.mono HB1.out.size))
  have HRD : Hid (RdRh ((w1.alloc (.cells #[.int .i64 6, .string ⟨#[]⟩, .int .i64 v, .int .i64 0, .string ⟨#[65]⟩, .int .i64 0] 29)).alloc (.cells #[.string ⟨#[84]⟩, .slice (some ⟨w1.heap.size, 0, none⟩) 2 2] 32)) ((w1.alloc (.cells #[.int .i64 6, .string ⟨#[]⟩, .int .i64 v, .int .i64 0, .string ⟨#[65]⟩, .int .i64 0] 29)).alloc (.cells #[.string ⟨#[84]⟩, .slice (some ⟨w1.heap.size, 0, none⟩) 2 2] 32)).heap.size (some ⟨w1.heap.size + 1, 0, none⟩) 1 [⟨⟨⟨#[84]⟩, [⟨6, ⟨#[]⟩, v⟩, ⟨0, ⟨#[65]⟩, 0⟩]⟩, some ⟨w1.heap.size, 0, none⟩, 2, 2⟩]) := Lib.hid (by
    refine rdRh_lit (T := 32) rfl ?_ ?_ (fun z hz => ?_)
    · exact Blk.new_ (by simp)
    · simp
    · rw [List.mem_singleton.1 hz]
      exact ⟨rdNd_lit (T := 29) rfl (l := [⟨6, ⟨#[]⟩, v⟩, ⟨0, ⟨#[65]⟩, 0⟩]) ((Blk.new w1 _ _).alloc _) (by simp; omega), by show 2 ≤ _; omega⟩)
  clear hb2
  obtain ⟨hs, hhs⟩ : ∃ q : List Rh, q = [⟨⟨⟨#[84]⟩, [⟨6, ⟨#[]⟩, v⟩, ⟨0, ⟨#[65]⟩, 0⟩]⟩, some ⟨w1.heap.size, 0, none⟩, 2, 2⟩] := ⟨_, rfl⟩
  have HHS : Hid (rls hs = prog2 v) := Lib.hid (by rw [hhs]; rfl)
  rw [← hhs] at HRD
  clear hhs
  go_wp2_with fail
  generalize ((w1.alloc (.cells #[.int .i64 6, .string ⟨#[]⟩, .int .i64 v, .int .i64 0, .string ⟨#[65]⟩, .int .i64 0] 29)).alloc (.cells #[.string ⟨#[84]⟩, .slice (some ⟨w1.heap.size, 0, none⟩) 2 2] 32)) = wp at *
  generalize w1.heap.size + 1 = g1 at *
  clear HB1
  go_loopw [8, 35] (fun v8 i wr => ∃ (k : Nat) (us : List Value), k ≤ 45 ∧ i = .int .i64 k ∧ Below wp.heap.size wp wr ∧ OutS wp.heap.size wr v8 us (dlL on k)) (fun _ i _ => 45 - (intOf i).toNat)
  case atStart => exact ⟨0, [], by omega, rfl, Below.refl _ _, OutS.nil _ _⟩
  case round =>
    obtain ⟨k, us, hk, rfl, hb, hout⟩ := hrel
    have HB := Lib.hid hb
    have HOUT := Lib.hid hout
    clear hb hout
    by_cases hlt : k < 45
    · have hul : us.length ≤ 45 := by have := HOUT.out.len; rw [dlL_len] at this; omega
      by_cases hko : k < on
      · have hW : Below wr.heap.size wr (wr.alloc (.cells #[.string ⟨#[65]⟩] 9)) := (Below.refl _ _).alloc (Nat.le_refl _) _
        have HBW := Lib.hid (HB.out.trans (hW.mono HB.out.size))
        have HOS := Lib.hid (HOUT.out.up hW)
        have HRG : Hid (dlL on (k + 1) = dlL on k ++ [[⟨#[65]⟩]]) := Lib.hid (by rw [dlL_succ]; unfold dlF; rw [if_pos hko])
        have HOU : Hid ((wr.alloc (.cells #[.string ⟨#[65]⟩] 9)).ownsRow wp.heap.size 9 1 (.slice (some ⟨wr.heap.size, 0, none⟩) 1 1) ([⟨#[65]⟩] : List ByteArray).length (strsV [⟨#[65]⟩])) := Lib.hid (own_lit1 wr _ _ _ HB.out.size)
        have HSP : Hid (∀ g, (Value.slice (some ⟨wr.heap.size, 0, none⟩) 1 1).ownBlock = some g → u8.ownBlock ≠ some g) := Lib.hid (fun g hg hc => by
          have h1 := (HOUT.out.out.lt g hc).2
          simp only [Value.ownBlock, Option.some.injEq] at hg
          omega)
        have hbase : wp.heap.size ≤ (wr.alloc (.cells #[.string ⟨#[65]⟩] 9)).heap.size := HBW.out.size
        clear hW
        go_wp2_with (at_builtin; refine wpList_app1a rfl (.tmp 41) (.tmp 43) _ rfl wp.heap.size 34 i0 _ 1 24 Try.underlying38 HI0.out HI1.out HI2.out HI3.out rfl (by omega) u8 us.length us rfl HOS.out.out (congrArg (fun k => Value.slice (some ⟨k, 0, none⟩) 1 1) (Array.size_push (xs := wr.heap) _).symm) rfl ?k1 ?k2 ?k3 hbase ?_)
        case k1 => simp [Value.oneCell']
        case k2 => simp only [maxLen]; omega
        case k3 => omega
        intro v' w6 h1 h2 h3 h4
        have HOS6 := Lib.hid (HOS.out.app HOU.out HSP.out h1 h3 (fun k hk => (h4 k hk).imp id fun h => by simpa using h))
        have HB6 : Hid (Below wp.heap.size wp w6) := Lib.hid (HBW.out.trans h2)
        rw [← HRG.out] at HOS6
        clear h1 h2 h3 h4 hbase
        go_wp2_with fail
        go_roundw
        case rel => exact ⟨k + 1, us ++ [(.slice (some ⟨wr.heap.size, 0, none⟩) 1 1)], hlt, by go_num, HB6.out, HOS6.out⟩
        case measure => simp [intOf]; omega
      · have HBW := HB
        have HOS := HOUT
        have HRG : Hid (dlL on (k + 1) = dlL on k ++ [[]]) := Lib.hid (by rw [dlL_succ]; unfold dlF; rw [if_neg hko])
        have HOU : Hid (wr.ownsRow wp.heap.size 9 1 (.slice none 0 0) ([] : List ByteArray).length (strsV [])) := Lib.hid (own_none _ _ _ _)
        have HSP : Hid (∀ g, (Value.slice none 0 0).ownBlock = some g → u8.ownBlock ≠ some g) := Lib.hid (fun g hg hc => by cases hg)
        have hbase : wp.heap.size ≤ wr.heap.size := HBW.out.size
        go_wp2_with (at_builtin; refine wpList_app1a rfl (.tmp 45) (.tmp 46) _ rfl wp.heap.size 34 i0 _ 1 24 Try.underlying38 HI0.out HI1.out HI2.out HI3.out rfl (by omega) u8 us.length us rfl HOS.out.out rfl rfl ?k1 ?k2 ?k3 hbase ?_)
        case k1 => simp [Value.oneCell']
        case k2 => simp only [maxLen]; omega
        case k3 => omega
        intro v' w6 h1 h2 h3 h4
        have HOS6 := Lib.hid (HOS.out.app HOU.out HSP.out h1 h3 h4)
        have HB6 : Hid (Below wp.heap.size wp w6) := Lib.hid (HBW.out.trans h2)
        rw [← HRG.out] at HOS6
        clear h1 h2 h3 h4 hbase
        go_wp2_with fail
        go_roundw
        case rel => exact ⟨k + 1, us ++ [.slice none 0 0], hlt, by go_num, HB6.out, HOS6.out⟩
        case measure => simp [intOf]; omega
    · obtain rfl : k = 45 := by omega
      obtain ⟨A, c, sl, rfl, hsl, hrd⟩ := HOUT.out.sl
      rw [dlL_len] at hrd ⊢
      have HSL := Lib.hid hrd
      have HRW := Lib.hid (HRD.out.up HB.out)
      have HBX := Lib.hid (HB2.out.trans (HB.out.mono HB2.out.size))
      clear hrd HOUT HRD HB HB2
      go_wp2_with fail
      refine (run_any (some ⟨g1, 0, none⟩) 1 1 hs ms A 45 c sl wr HRW.out (Nat.le_refl _) (by unfold maxLen; omega) (fun h => by cases h) (fit2 HHS.out) HSL.out (by omega)).mono ?_
      rintro e w2 ⟨k2, hcs⟩
      rw [HHS.out, hsl] at hcs
      have HB3 := Lib.hid (HBX.out.trans (k2.mono HBX.out.size))
      clear k2 hsl HSL HRW HBX
      rcases hcs with ⟨hne, -⟩ | ⟨-, v', us2, rfl, hout2⟩
      · exact absurd (dl_runE on hv1 hv2 hm1 hm2) hne
      obtain ⟨hl45, hlen⟩ := dl_runO on hv1 hv2 hm1 hm2
      generalize runO (prog2 v) ms (dlL on 45) = R at *
      obtain ⟨L1, c1, rfl, hc1, -, hg⟩ := hout2.get
      rw [hl45]
      have HG := Lib.hid hg
      have HL45 := Lib.hid hl45
      have HLEN := Lib.hid hlen
      unfold maxLen at hc1
      clear hg hl45 hlen hout2 HHS
      go_wp2_with fail
      go_loopw [65] (fun i wr => ∃ k : Nat, k ≤ 45 ∧ i = .int .i64 k ∧ Below w2.heap.size w2 wr) (fun i _ => 45 - (intOf i).toNat)
      case atStart => exact ⟨0, by omega, rfl, Below.refl _ _⟩
      case round =>
        obtain ⟨k, hk, rfl, hb⟩ := hrel
        have HB := Lib.hid hb
        clear hb
        by_cases hlt : k < 45
        · obtain ⟨l, hl⟩ : ∃ l, R[k]? = some l := ⟨_, List.getElem?_eq_getElem (by rw [HL45.out]; omega)⟩
          obtain ⟨b1, o1, B1, d1, hL1, hb1, x1, hld1, hd1, -⟩ := HG.out k l hl
          have y1 : wr.cell? ⟨b1, o1 + k, none⟩ = some (.slice B1 l.length d1) := (HB.out.cell (p := ⟨b1, o1 + k, none⟩) hb1).trans x1
          have z1 : b1 < wr.heap.size := Nat.lt_of_lt_of_le hb1 HB.out.size
          have hln := HLEN.out k l hl
          unfold dlB at hln
          have HLN := Lib.hid hln
          have m0 : 0 ≤ (k : Int) * ms := Int.mul_nonneg (by omega) (by omega)
          have m1 : (k : Int) * ms ≤ 45 * 50 := Int.mul_le_mul (by omega) (by omega) (by omega) (by omega)
          rw [hL1]
          clear hln x1 hl hL1 hb1 hld1 hd1
          generalize l.length = q at *
          by_cases p1 : 0 < k
          · by_cases p2 : k ≤ on
            · by_cases p3 : v ≤ (k : Int) * ms
              · obtain rfl : q = 1 := by rw [HLN.out]; simp [p1, p2, p3]
                clear HLN
                go_wp2_with fail
                go_roundw
                case rel => exact ⟨k + 1, hlt, by go_num, HB.out⟩
                case measure => simp [intOf]; omega
              · obtain rfl : q = 0 := by rw [HLN.out]; simp [p1, p2, p3]
                clear HLN
                go_wp2_with fail
                go_roundw
                case rel => exact ⟨k + 1, hlt, by go_num, HB.out⟩
                case measure => simp [intOf]; omega
            · have p3 : True := trivial
              obtain rfl : q = 0 := by rw [HLN.out]; simp [p1, p2, p3]
              clear HLN
              go_wp2_with fail
              go_roundw
              case rel => exact ⟨k + 1, hlt, by go_num, HB.out⟩
              case measure => simp [intOf]; omega
          · have p2 : True := trivial
            have p3 : True := trivial
            obtain rfl : q = 0 := by rw [HLN.out]; simp [p1, p2, p3]
            clear HLN
            go_wp2_with fail
            go_roundw
            case rel => exact ⟨k + 1, hlt, by go_num, HB.out⟩
            case measure => simp [intOf]; omega
        · have HBF := Lib.hid (HB3.out.trans (HB.out.mono HB3.out.size))
          go_wp2_with fail
          go_ret
          exact ⟨rfl, HBF.out⟩
end Go.Proofs.Ytodnjjlhklbniaa
