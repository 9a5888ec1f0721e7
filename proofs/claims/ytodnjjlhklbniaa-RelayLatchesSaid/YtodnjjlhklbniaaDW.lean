/- RelayLatches. -/
import Derived.Test.YtodnjjlhklbniaaDV
import Derived.Deep.DeepCutAuto
namespace Go.Proofs.Ytodnjjlhklbniaa
open Go.ChangeShapes Go.WideShapes Go.ChangeAt Go.RowKit
set_option linter.unusedVariables false
set_option linter.unusedSimpArgs false
attribute [local go_sem ↓] execOp_call_val
attribute [local go_sem] callVal_func setCell_drewN alloc_drewN sEq_walk


def prog1 : List Rl := [⟨⟨#[76]⟩, [⟨7, ⟨#[]⟩, 0⟩, ⟨0, ⟨#[83]⟩, 0⟩, ⟨0, ⟨#[82]⟩, 0⟩]⟩]
theorem prog1_ck : ckR prog1 = 0 := by decide +kernel
theorem prog1_ord : orderR prog1 = some [0] := by decide +kernel
def latX (on : Bool) (fl : List ByteArray) : Bool := (on || hasS fl ⟨#[83]⟩) && !hasS fl ⟨#[82]⟩
theorem lat_step (k : Nat → Nat → Bool × Int) (b : Bool) (fl : List ByteArray) : (stepR ⟨prog1, [b], fl, [], 1⟩ [0] k).vals = [latX (k 0 0).1 fl] ∧ ((stepR ⟨prog1, [b], fl, [], 1⟩ [0] k).kept 0 0).1 = latX (k 0 0).1 fl ∧ (stepR ⟨prog1, [b], fl, [], 1⟩ [0] k).out.length = (if latX (k 0 0).1 fl then 1 else 0) := by
  have h0 : endR [⟨7, ⟨#[]⟩, 0⟩, ⟨0, ⟨#[83]⟩, 0⟩, ⟨0, ⟨#[82]⟩, 0⟩] 1 = ((2 : Nat) : Int) := by decide +kernel
  have f1 : flagB ⟨prog1, [b], fl, [], 1⟩ ⟨#[83]⟩ = hasS fl ⟨#[83]⟩ := by
    unfold flagB; rw [if_neg (by show ¬ 0 ≤ ruleR prog1 ⟨#[83]⟩; decide +kernel)]
  have f2 : flagB ⟨prog1, [b], fl, [], 1⟩ ⟨#[82]⟩ = hasS fl ⟨#[82]⟩ := by
    unfold flagB; rw [if_neg (by show ¬ 0 ≤ ruleR prog1 ⟨#[82]⟩; decide +kernel)]
  have hev : evR ⟨prog1, [b], fl, [], 1⟩ 64 0 0 ⟨k, []⟩ = (latX (k 0 0).1 fl, ⟨updK k 0 0 (latX (k 0 0).1 fl, 0), []⟩) := by
    have hs : Sub (expr ⟨prog1, [b], fl, [], 1⟩ 0) 1 2 := ⟨by show 2 ≤ 3; omega, by omega, h0⟩
    rw [ev_7 (v := ⟨prog1, [b], fl, [], 1⟩) (f := 63) (r := 0) (a := 0) (y := ⟨7, ⟨#[]⟩, 0⟩) rfl rfl hs]
    unfold latB
    rw [ev_0 (v := ⟨prog1, [b], fl, [], 1⟩) (f := 62) (r := 0) (a := 1) (y := ⟨0, ⟨#[83]⟩, 0⟩) rfl rfl, ev_0 (v := ⟨prog1, [b], fl, [], 1⟩) (f := 62) (r := 0) (a := 2) (y := ⟨0, ⟨#[82]⟩, 0⟩) rfl rfl]
    show (((k 0 0).1 || flagB ⟨prog1, [b], fl, [], 1⟩ ⟨#[83]⟩) && !flagB ⟨prog1, [b], fl, [], 1⟩ ⟨#[82]⟩, _) = _
    rw [f1, f2]
    rfl
  have hst : stepR ⟨prog1, [b], fl, [], 1⟩ [0] k = ⟨[latX (k 0 0).1 fl], updK k 0 0 (latX (k 0 0).1 fl, 0), outGo prog1 [latX (k 0 0).1 fl]⟩ := by
    unfold stepR
    rw [main_cons]
    rw [show ({ (⟨prog1, [b], fl, [], 1⟩ : Rin) with vals := [b] } : Rin) = ⟨prog1, [b], fl, [], 1⟩ from rfl, hev]
    rfl
  rw [hst]
  refine ⟨rfl, by show (updK k 0 0 (latX (k 0 0).1 fl, 0) 0 0).1 = _; rw [updK_same], ?_⟩
  cases latX (k 0 0).1 fl <;> rfl
def latF (s r : Bool) : List ByteArray := (if s then [⟨#[83]⟩] else []) ++ (if r then [⟨#[82]⟩] else [])
theorem lat_flags (on s r : Bool) : latX on (latF s r) = (if r then false else if s then true else on) := by
  cases s <;> cases r <;> cases on <;> decide +kernel
theorem fit1 {hs : List Rh} (h : rls hs = prog1) : ∀ z ∈ hs, z.r.Fit := fun z hz => by
  have hm : z.r ∈ prog1 := by rw [← h]; exact List.mem_map.2 ⟨z, hz, rfl⟩
  have key : ∀ r ∈ prog1, r.name.size ≤ 10 ∧ ∀ x ∈ r.expr, x.name.size ≤ 10 := by decide +kernel
  obtain ⟨h1, h2⟩ := key _ hm
  exact ⟨by unfold maxLen; omega, fun x hx => by have := h2 x hx; unfold maxLen; omega⟩
theorem min3 (n m : Nat) : ∃ N : Nat, min (min (n : Int) (m : Int)) 50 = (N : Int) ∧ N ≤ n ∧ N ≤ m ∧ N ≤ 50 := ⟨min (min n m) 50, by omega, by omega, by omega, by omega⟩
set_option maxRecDepth 100000 in
set_option maxHeartbeats 8000000 in
theorem latches_any (A : Option Addr) (n c : Nat) (xs : List Bool) (B : Option Addr) (m d : Nat) (zs : List Bool) (w : World) (hx : xs.length = n ∧ Rd w w.heap.size 1 A n (bools xs)) (hz : zs.length = m ∧ Rd w w.heap.size 1 B m (bools zs)) (hn : n ≤ 9223372036854775807) (hm : m ≤ 9223372036854775807) :
    Calls Try.prog 3 #[.slice A n c, .slice B m d] w fun e w' => e = .returned (.bool true) ∧ Below w.heap.size w w' := by
  obtain ⟨i0, hi0, hz0, hz1, hz2⟩ := info_parts info_str
  have HI0 := Lib.hid hi0
  have HI1 := Lib.hid hz0
  have HI2 := Lib.hid hz1
  have HI3 := Lib.hid hz2
  have HX := Lib.hid hx
  have HZ := Lib.hid hz
  clear hi0 hz0 hz1 hz2 hx hz
  go_enter Try.func3, Try.ntmps3
  go_upto_region 1 with fail
  go_cut [5] (fun v5 wc => w = wc ∧ ∃ N : Nat, v5 = .int .i64 (N : Int) ∧ N ≤ n ∧ N ≤ m ∧ N ≤ 50)
  case first =>
    by_cases h1 : m < n
    · by_cases h2 : 50 < m
      · go_wp2_with fail
        go_meet
        case rel => exact ⟨rfl, 50, rfl, by omega, by omega, by omega⟩
      · go_wp2_with fail
        go_meet
        case rel => exact ⟨rfl, m, rfl, by omega, by omega, by omega⟩
    · by_cases h2 : 50 < n
      · go_wp2_with fail
        go_meet
        case rel => exact ⟨rfl, 50, rfl, by omega, by omega, by omega⟩
      · go_wp2_with fail
        go_meet
        case rel => exact ⟨rfl, n, rfl, by omega, by omega, by omega⟩
  case rest =>
  obtain ⟨rfl, N, rfl, hNn, hNm, hN50⟩ := hcut
  go_wp2_with fail
  refine (rworks_any _).mono ?_
  rintro e w1 ⟨rfl, k1⟩
  have HB1 := Lib.hid k1
  clear k1
  go_wp2_with fail
  have hb2 : Below w1.heap.size w1 ((w1.alloc (.cells (([⟨7, ⟨#[]⟩, 0⟩, ⟨0, ⟨#[83]⟩, 0⟩, ⟨0, ⟨#[82]⟩, 0⟩] : List Nd).flatMap Nd.cells).toArray 29)).alloc (.cells #[.string ⟨#[76]⟩, .slice (some ⟨w1.heap.size, 0, none⟩) 3 3] 32)) := ((Below.refl _ _).alloc (Nat.le_refl _) _).alloc (by simp) _
  have HB2 := Lib.hid (HB1.out.trans (hb2.mono HB1.out.size))
  have HRD : Hid (RdRh ((w1.alloc (.cells (([⟨7, ⟨#[]⟩, 0⟩, ⟨0, ⟨#[83]⟩, 0⟩, ⟨0, ⟨#[82]⟩, 0⟩] : List Nd).flatMap Nd.cells).toArray 29)).alloc (.cells #[.string ⟨#[76]⟩, .slice (some ⟨w1.heap.size, 0, none⟩) 3 3] 32)) ((w1.alloc (.cells (([⟨7, ⟨#[]⟩, 0⟩, ⟨0, ⟨#[83]⟩, 0⟩, ⟨0, ⟨#[82]⟩, 0⟩] : List Nd).flatMap Nd.cells).toArray 29)).alloc (.cells #[.string ⟨#[76]⟩, .slice (some ⟨w1.heap.size, 0, none⟩) 3 3] 32)).heap.size (some ⟨w1.heap.size + 1, 0, none⟩) 1 [⟨⟨⟨#[76]⟩, [⟨7, ⟨#[]⟩, 0⟩, ⟨0, ⟨#[83]⟩, 0⟩, ⟨0, ⟨#[82]⟩, 0⟩]⟩, some ⟨w1.heap.size, 0, none⟩, 3, 3⟩]) := Lib.hid (by
    refine rdRh_lit (T := 32) rfl ?_ ?_ (fun z hz => ?_)
    · exact Blk.new_ (by simp)
    · simp
    · rw [List.mem_singleton.1 hz]
      exact ⟨rdNd_lit (T := 29) rfl (l := [⟨7, ⟨#[]⟩, 0⟩, ⟨0, ⟨#[83]⟩, 0⟩, ⟨0, ⟨#[82]⟩, 0⟩]) ((Blk.new w1 _ _).alloc _) (by simp; omega), by show 3 ≤ _; omega⟩)
  clear hb2
  refine (new_any (some ⟨w1.heap.size + 1, 0, none⟩) 1 1 _ _ HRD.out (Nat.le_refl _) (by unfold maxLen; omega) (fun h => by cases h) (fit1 rfl)).mono ?_
  rintro e w2 ⟨hb, hcs⟩
  have HB3 := Lib.hid (HB2.out.trans (hb.mono HB2.out.size))
  have HSZ := Lib.hid HB2.out.size
  clear hb HRD
  rcases hcs with ⟨hne, -⟩ | ⟨-, y, o, ho, hyp, hyo, hok, hlo, rfl, hw⟩
  · exact absurd prog1_ck hne
  obtain rfl : o = [0] := by rw [show rls [⟨⟨⟨#[76]⟩, [⟨7, ⟨#[]⟩, 0⟩, ⟨0, ⟨#[83]⟩, 0⟩, ⟨0, ⟨#[82]⟩, 0⟩]⟩, some ⟨w1.heap.size, 0, none⟩, 3, 3⟩] = prog1 from rfl, prog1_ord] at ho; injection ho with ho; exact ho.symm
  have HOK := Lib.hid hok
  have HW2 := Lib.hid (show RelW y w2 [false] k0 from hw)
  have HYP := Lib.hid (show y.p = prog1 from hyp)
  have HYO := Lib.hid hyo
  have HLO : Hid (w.heap.size ≤ y.lo) := Lib.hid (Nat.le_trans HSZ.out hlo)
  clear ho hyp hyo hok hlo hw HSZ HB2
  go_wp2_with fail
  go_loopw [37, 8] (fun i o wr => ∃ (k : Nat) (on : Bool) (b : Bool) (kept : Nat → Nat → Bool × Int), k ≤ N ∧ i = .int .i64 k ∧ o = .bool on ∧ Below w.heap.size w wr ∧ RelW y wr [b] kept ∧ (kept 0 0).1 = on) (fun i _ _ => N - (intOf i).toNat)
  case atStart => exact ⟨0, false, false, k0, by omega, rfl, rfl, HB3.out, HW2.out, rfl⟩
  case round =>
    clear HB1 HB3 HW2
    obtain ⟨k, on, b, kept, hk, rfl, rfl, hb, hw, hon⟩ := hrel
    have HB := Lib.hid hb
    have HW := Lib.hid hw
    have HON := Lib.hid hon
    clear hb hw hon
    by_cases hlt : k < N
    · obtain ⟨sv, hsv⟩ : ∃ s, xs[k]? = some s := ⟨_, List.getElem?_eq_getElem (by have := HX.out.1; omega)⟩
      obtain ⟨rv, hrv⟩ : ∃ s, zs[k]? = some s := ⟨_, List.getElem?_eq_getElem (by have := HZ.out.1; omega)⟩
      have hrx := (HX.out.2.below HB.out (Nat.le_refl _)).more HB.out.size
      have hrz := (HZ.out.2.below HB.out (Nat.le_refl _)).more HB.out.size
      obtain ⟨bx, ox, hA, hxb, hcx⟩ := hrx.2 (by omega)
      obtain ⟨bz, oz, hB, hzb, hcz⟩ := hrz.2 (by omega)
      have xc : wr.cell? ⟨bx, ox + k, none⟩ = some (.bool sv) := hcx k _ (by unfold bools; rw [List.getElem?_map, hsv]; rfl)
      have zc : wr.cell? ⟨bz, oz + k, none⟩ = some (.bool rv) := hcz k _ (by unfold bools; rw [List.getElem?_map, hrv]; rfl)
      have hkn : (k : Int) < (n : Int) := by omega
      have hkm : (k : Int) < (m : Int) := by omega
      rw [hA, hB]
      clear hsv hrv hrx hrz hcx hcz hA hB
      cases sv with
      | true =>
        cases rv with
        | true =>
          go_wp2_with (at_builtin; refine wpList_app1 rfl (.tmp 44) (.tmp 45) _ rfl wr.heap.size 9 i0 _ 1 16 Try.underlying34 HI0.out HI1.out HI2.out HI3.out rfl (by omega) _ 0 [] rfl (own_none _ _ _ _) rfl rfl ?k1 ?k2 ?k3 (Nat.le_refl _) ?_)
          case k1 => simp [Value.oneCell']
          case k2 => simp only [maxLen]; omega
          case k3 => omega
          intro v' w6 hown6 hb6 hg6
          have HO6 : Hid (w6.ownsRow wr.heap.size 9 1 v' 1 (strsV [⟨#[83]⟩])) := Lib.hid (by simpa [strsV] using hown6)
          have HB6 : Hid (Below wr.heap.size wr w6) := Lib.hid hb6
          clear hown6 hb6 hg6
          have HX6 : Hid (wr.heap.size ≤ w6.heap.size) := Lib.hid HB6.out.size
          have hxb6 : bx < w6.heap.size := Nat.lt_of_lt_of_le hxb HB6.out.size
          have hzb6 : bz < w6.heap.size := Nat.lt_of_lt_of_le hzb HB6.out.size
          have zc6 : w6.cell? ⟨bz, oz + k, none⟩ = some (.bool true) := (HB6.out.cell (p := ⟨bz, oz + k, none⟩) hzb).trans zc
          clear zc
          obtain ⟨A6, d6, rfl, _, _, _, _⟩ := own_rd HO6.out
          go_wp2_with (at_builtin; refine wpList_app1 rfl (.tmp 51) (.tmp 52) _ rfl wr.heap.size 9 i0 _ 1 16 Try.underlying34 HI0.out HI1.out HI2.out HI3.out rfl (by omega) _ 1 (strsV [⟨#[83]⟩]) rfl HO6.out rfl rfl ?k1 ?k2 ?k3 HX6.out ?_)
          case k1 => simp [Value.oneCell']
          case k2 => simp only [maxLen]; omega
          case k3 => omega
          intro v' w7 hown6 hb6 hg6
          have HOF : Hid (w7.ownsRow wr.heap.size 9 1 v' 2 (strsV (latF true true))) := Lib.hid (by simpa [strsV, latF] using hown6)
          have HBF : Hid (Below wr.heap.size wr w7) := Lib.hid (HB6.out.trans hb6)
          clear hown6 hb6 hg6 HO6 HB6 HX6
          obtain ⟨A7, d7, rfl, _, _, _, _⟩ := own_rd HOF.out
          have HXV : Hid (latX on (latF true true) = false) := Lib.hid (lat_flags on true true)
          have HRS : Hid (RdStr w7 w7.heap.size A7 2 (latF true true)) := Lib.hid (by
            obtain ⟨A9, d9, he, hr, _⟩ := own_rd HOF.out
            injection he with e1 e2 e3
            subst e1
            exact ⟨rfl, hr⟩)
          have HWF := Lib.hid (HW.out.up HOK.out HBF.out)
          have HBFw := Lib.hid (HB.out.trans (HBF.out.mono HB.out.size))
          clear HOF
          go_wp2_with fail
          refine (step_any y HOK.out [b] kept 1 A7 2 d7 (latF true true) none 0 0 [] w7 HWF.out HRS.out ⟨rfl, by simp, fun h => by omega⟩ (by omega) (by omega) (by omega)).mono ?_
          rintro e w8 ⟨u8, rfl, hw8, hf8, ho8⟩
          rw [HYP.out, HYO.out] at hw8 ho8
          obtain ⟨q1, q2, q3⟩ := lat_step kept b (latF true true)
          rw [HON.out, HXV.out] at q1 q2 q3
          have HW8 : Hid (RelW y w8 [false] (stepR ⟨prog1, [b], latF true true, [], 1⟩ [0] kept).kept) := Lib.hid (by rw [← q1]; exact hw8)
          have HQ2 := Lib.hid q2
          have HB8 : Hid (Below w.heap.size w w8) := Lib.hid (HBFw.out.trans (hf8.below HBFw.out.size (fun k hk => by
            rcases hk with hk | hk
            · have := HOK.out.gv; have := HLO.out; omega
            · have := HOK.out.m; have := HLO.out; omega)))
          obtain ⟨A8, d8, rfl, _, _, _, _⟩ := own_rd ho8
          generalize (stepR ⟨prog1, [b], latF true true, [], 1⟩ [0] kept).out.length = ol at *
          subst q3
          clear hw8 hf8 ho8 q1 q2 HWF HRS HBFw HBF HXV
          go_wp2_with fail
          go_roundw
          case rel => exact ⟨k + 1, false, _, _, hlt, by go_num, rfl, HB8.out, HW8.out, HQ2.out⟩
          case measure => simp [intOf]; omega
        | false =>
          go_wp2_with (at_builtin; refine wpList_app1 rfl (.tmp 44) (.tmp 45) _ rfl wr.heap.size 9 i0 _ 1 16 Try.underlying34 HI0.out HI1.out HI2.out HI3.out rfl (by omega) _ 0 [] rfl (own_none _ _ _ _) rfl rfl ?k1 ?k2 ?k3 (Nat.le_refl _) ?_)
          case k1 => simp [Value.oneCell']
          case k2 => simp only [maxLen]; omega
          case k3 => omega
          intro v' w6 hown6 hb6 hg6
          have HO6 : Hid (w6.ownsRow wr.heap.size 9 1 v' 1 (strsV [⟨#[83]⟩])) := Lib.hid (by simpa [strsV] using hown6)
          have HB6 : Hid (Below wr.heap.size wr w6) := Lib.hid hb6
          clear hown6 hb6 hg6
          have HX6 : Hid (wr.heap.size ≤ w6.heap.size) := Lib.hid HB6.out.size
          have hxb6 : bx < w6.heap.size := Nat.lt_of_lt_of_le hxb HB6.out.size
          have hzb6 : bz < w6.heap.size := Nat.lt_of_lt_of_le hzb HB6.out.size
          have zc6 : w6.cell? ⟨bz, oz + k, none⟩ = some (.bool false) := (HB6.out.cell (p := ⟨bz, oz + k, none⟩) hzb).trans zc
          clear zc
          obtain ⟨A6, d6, rfl, _, _, _, _⟩ := own_rd HO6.out
          have HOF : Hid (w6.ownsRow wr.heap.size 9 1 (.slice A6 1 d6) 1 (strsV (latF true false))) := HO6
          have HBF := HB6
          have HXV : Hid (latX on (latF true false) = true) := Lib.hid (lat_flags on true false)
          have HRS : Hid (RdStr w6 w6.heap.size A6 1 (latF true false)) := Lib.hid (by
            obtain ⟨A9, d9, he, hr, _⟩ := own_rd HOF.out
            injection he with e1 e2 e3
            subst e1
            exact ⟨rfl, hr⟩)
          have HWF := Lib.hid (HW.out.up HOK.out HBF.out)
          have HBFw := Lib.hid (HB.out.trans (HBF.out.mono HB.out.size))
          clear HOF
          go_wp2_with fail
          refine (step_any y HOK.out [b] kept 1 A6 1 d6 (latF true false) none 0 0 [] w6 HWF.out HRS.out ⟨rfl, by simp, fun h => by omega⟩ (by omega) (by omega) (by omega)).mono ?_
          rintro e w8 ⟨u8, rfl, hw8, hf8, ho8⟩
          rw [HYP.out, HYO.out] at hw8 ho8
          obtain ⟨q1, q2, q3⟩ := lat_step kept b (latF true false)
          rw [HON.out, HXV.out] at q1 q2 q3
          have HW8 : Hid (RelW y w8 [true] (stepR ⟨prog1, [b], latF true false, [], 1⟩ [0] kept).kept) := Lib.hid (by rw [← q1]; exact hw8)
          have HQ2 := Lib.hid q2
          have HB8 : Hid (Below w.heap.size w w8) := Lib.hid (HBFw.out.trans (hf8.below HBFw.out.size (fun k hk => by
            rcases hk with hk | hk
            · have := HOK.out.gv; have := HLO.out; omega
            · have := HOK.out.m; have := HLO.out; omega)))
          obtain ⟨A8, d8, rfl, _, _, _, _⟩ := own_rd ho8
          generalize (stepR ⟨prog1, [b], latF true false, [], 1⟩ [0] kept).out.length = ol at *
          subst q3
          clear hw8 hf8 ho8 q1 q2 HWF HRS HBFw HBF HXV
          go_wp2_with fail
          go_roundw
          case rel => exact ⟨k + 1, true, _, _, hlt, by go_num, rfl, HB8.out, HW8.out, HQ2.out⟩
          case measure => simp [intOf]; omega
      | false =>
        cases rv with
        | true =>
          go_wp2_with (at_builtin; refine wpList_app1 rfl (.tmp 51) (.tmp 52) _ rfl wr.heap.size 9 i0 _ 1 16 Try.underlying34 HI0.out HI1.out HI2.out HI3.out rfl (by omega) _ 0 [] rfl (own_none _ _ _ _) rfl rfl ?k1 ?k2 ?k3 (Nat.le_refl _) ?_)
          case k1 => simp [Value.oneCell']
          case k2 => simp only [maxLen]; omega
          case k3 => omega
          intro v' w7 hown6 hb6 hg6
          have HOF : Hid (w7.ownsRow wr.heap.size 9 1 v' 1 (strsV (latF false true))) := Lib.hid (by simpa [strsV, latF] using hown6)
          have HBF : Hid (Below wr.heap.size wr w7) := Lib.hid hb6
          clear hown6 hb6 hg6
          obtain ⟨A7, d7, rfl, _, _, _, _⟩ := own_rd HOF.out
          have HXV : Hid (latX on (latF false true) = false) := Lib.hid (lat_flags on false true)
          have HRS : Hid (RdStr w7 w7.heap.size A7 1 (latF false true)) := Lib.hid (by
            obtain ⟨A9, d9, he, hr, _⟩ := own_rd HOF.out
            injection he with e1 e2 e3
            subst e1
            exact ⟨rfl, hr⟩)
          have HWF := Lib.hid (HW.out.up HOK.out HBF.out)
          have HBFw := Lib.hid (HB.out.trans (HBF.out.mono HB.out.size))
          clear HOF
          go_wp2_with fail
          refine (step_any y HOK.out [b] kept 1 A7 1 d7 (latF false true) none 0 0 [] w7 HWF.out HRS.out ⟨rfl, by simp, fun h => by omega⟩ (by omega) (by omega) (by omega)).mono ?_
          rintro e w8 ⟨u8, rfl, hw8, hf8, ho8⟩
          rw [HYP.out, HYO.out] at hw8 ho8
          obtain ⟨q1, q2, q3⟩ := lat_step kept b (latF false true)
          rw [HON.out, HXV.out] at q1 q2 q3
          have HW8 : Hid (RelW y w8 [false] (stepR ⟨prog1, [b], latF false true, [], 1⟩ [0] kept).kept) := Lib.hid (by rw [← q1]; exact hw8)
          have HQ2 := Lib.hid q2
          have HB8 : Hid (Below w.heap.size w w8) := Lib.hid (HBFw.out.trans (hf8.below HBFw.out.size (fun k hk => by
            rcases hk with hk | hk
            · have := HOK.out.gv; have := HLO.out; omega
            · have := HOK.out.m; have := HLO.out; omega)))
          obtain ⟨A8, d8, rfl, _, _, _, _⟩ := own_rd ho8
          generalize (stepR ⟨prog1, [b], latF false true, [], 1⟩ [0] kept).out.length = ol at *
          subst q3
          clear hw8 hf8 ho8 q1 q2 HWF HRS HBFw HBF HXV
          go_wp2_with fail
          go_roundw
          case rel => exact ⟨k + 1, false, _, _, hlt, by go_num, rfl, HB8.out, HW8.out, HQ2.out⟩
          case measure => simp [intOf]; omega
        | false =>
          have HOF : Hid (wr.ownsRow wr.heap.size 9 1 (.slice none 0 0) 0 (strsV (latF false false))) := Lib.hid (own_none _ _ _ _)
          have HBF : Hid (Below wr.heap.size wr wr) := Lib.hid (Below.refl _ _)
          have HXV : Hid (latX on (latF false false) = on) := Lib.hid (lat_flags on false false)
          have HRS : Hid (RdStr wr wr.heap.size none 0 (latF false false)) := Lib.hid (by
            obtain ⟨A9, d9, he, hr, _⟩ := own_rd HOF.out
            injection he with e1 e2 e3
            subst e1
            exact ⟨rfl, hr⟩)
          have HWF := Lib.hid (HW.out.up HOK.out HBF.out)
          have HBFw := Lib.hid (HB.out.trans (HBF.out.mono HB.out.size))
          clear HOF
          go_wp2_with fail
          refine (step_any y HOK.out [b] kept 1 none 0 0 (latF false false) none 0 0 [] wr HWF.out HRS.out ⟨rfl, by simp, fun h => by omega⟩ (by omega) (by omega) (by omega)).mono ?_
          rintro e w8 ⟨u8, rfl, hw8, hf8, ho8⟩
          rw [HYP.out, HYO.out] at hw8 ho8
          obtain ⟨q1, q2, q3⟩ := lat_step kept b (latF false false)
          rw [HON.out, HXV.out] at q1 q2 q3
          have HW8 : Hid (RelW y w8 [on] (stepR ⟨prog1, [b], latF false false, [], 1⟩ [0] kept).kept) := Lib.hid (by rw [← q1]; exact hw8)
          have HQ2 := Lib.hid q2
          have HB8 : Hid (Below w.heap.size w w8) := Lib.hid (HBFw.out.trans (hf8.below HBFw.out.size (fun k hk => by
            rcases hk with hk | hk
            · have := HOK.out.gv; have := HLO.out; omega
            · have := HOK.out.m; have := HLO.out; omega)))
          cases on with
          | true =>
            obtain ⟨A8, d8, rfl, _, _, _, _⟩ := own_rd ho8
            generalize (stepR ⟨prog1, [b], latF false false, [], 1⟩ [0] kept).out.length = ol at *
            subst q3
            clear hw8 hf8 ho8 q1 q2 HWF HRS HBFw HBF HXV
            go_wp2_with fail
            go_roundw
            case rel => exact ⟨k + 1, true, _, _, hlt, by go_num, rfl, HB8.out, HW8.out, HQ2.out⟩
            case measure => simp [intOf]; omega
          | false =>
            obtain ⟨A8, d8, rfl, _, _, _, _⟩ := own_rd ho8
            generalize (stepR ⟨prog1, [b], latF false false, [], 1⟩ [0] kept).out.length = ol at *
            subst q3
            clear hw8 hf8 ho8 q1 q2 HWF HRS HBFw HBF HXV
            go_wp2_with fail
            go_roundw
            case rel => exact ⟨k + 1, false, _, _, hlt, by go_num, rfl, HB8.out, HW8.out, HQ2.out⟩
            case measure => simp [intOf]; omega
    · go_wp2_with fail
      go_ret
      exact ⟨rfl, HB.out⟩
end Go.Proofs.Ytodnjjlhklbniaa
