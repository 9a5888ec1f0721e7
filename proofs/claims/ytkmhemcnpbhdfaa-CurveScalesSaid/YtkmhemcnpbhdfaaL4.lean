/- CurveScales: the plain law and the walk. -/
import Derived.Test.YtkmhemcnpbhdfaaKA
namespace Go.Proofs.Ytkmhemcnpbhdfaa
open Go.ChangeShapes Go.WideShapes Go.ChangeAt Go.RowKit
set_option linter.unusedVariables false
attribute [local go_sem ↓] execOp_call_val
attribute [local go_sem] callVal_func setCell_drewN alloc_drewN



theorem mid_time {pk x : Int} {m1 m2 s1 s2 t1 t2 : Int} (h1 : m1 < m2) (hs : s1 ≤ t1) (hs2 : s2 ≤ t2) (hp : 1 ≤ pk) (hx : m1 * pk ≤ x) (hy : x ≤ m2 * pk) :
    mid pk x (m1, s1) (m2, s2) ≤ mid pk x (m1, t1) (m2, t2) := by
  have hD : 0 < pk * (m2 - m1) := Int.mul_pos (by omega) (by omega)
  have hDe : pk * (m2 - m1) = m2 * pk - m1 * pk := by rw [Int.mul_sub, Int.mul_comm pk, Int.mul_comm pk]
  have hN1 : 0 ≤ x - m1 * pk := by omega
  have hN2 : x - m1 * pk ≤ pk * (m2 - m1) := by omega
  unfold mid
  dsimp only
  generalize x - m1 * pk = N at *
  generalize pk * (m2 - m1) = D at *
  have h2 : (t1 - t2) * N ≤ (s1 - s2) * N + (t1 - s1) * D := by
    have e1 : (t1 - t2) * N = (s1 - s2) * N + ((t1 - s1) - (t2 - s2)) * N := by rw [← Int.add_mul]; congr 1; omega
    have e2 : ((t1 - s1) - (t2 - s2)) * N ≤ (t1 - s1) * N := Int.mul_le_mul_of_nonneg_right (by omega) hN1
    have e3 : (t1 - s1) * N ≤ (t1 - s1) * D := Int.mul_le_mul_of_nonneg_left hN2 (by omega)
    omega
  have h3 := Int.ediv_le_ediv hD h2
  rw [Int.add_mul_ediv_right _ _ (by omega)] at h3
  omega

/-- the same multiples, and times that are no less -/
def Under : List (Int × Int) → List (Int × Int) → Prop
  | [], [] => True
  | p :: r, q :: s => p.1 = q.1 ∧ p.2 ≤ q.2 ∧ Under r s
  | _, _ => False

theorem tmGo_under {pk x : Int} (hp : 1 ≤ pk) : ∀ {r s : List (Int × Int)} {a b : Int × Int}, Chain a r → Chain b s → Under (a :: r) (b :: s) → a.1 * pk ≤ x → tmGo pk x a r ≤ tmGo pk x b s
  | [], [], a, b, _, _, hu, _ => hu.2.1
  | [], _ :: _, a, b, _, _, hu, _ => by have := hu.2.2; simp [Under] at this
  | _ :: _, [], a, b, _, _, hu, _ => by have := hu.2.2; simp [Under] at this
  | a2 :: r, b2 :: s, a, b, hc, hd, hu, hx => by
    obtain ⟨u1, u2, u3, u4, u5⟩ := hu
    simp only [tmGo]
    rw [← u3]
    by_cases hle : x ≤ a2.1 * pk
    · rw [if_pos hle, if_pos hle]
      have := mid_time (pk := pk) (x := x) (m1 := a.1) (m2 := a2.1) (s1 := a.2) (s2 := a2.2) (t1 := b.2) (t2 := b2.2) hc.1 u2 u4 hp hx hle
      rw [show mid pk x b b2 = mid pk x (a.1, b.2) (a2.1, b2.2) from by unfold mid; rw [u1, u3]]
      exact this
    · rw [if_neg hle, if_neg hle]
      exact tmGo_under hp hc.2.2.2.2.2.2 hd.2.2.2.2.2.2 ⟨u3, u4, u5⟩ (by omega)

theorem timeC_good {ps : List (Int × Int)} {pk cur : Int} (hg : Good ps) : timeC ps pk cur = if (outN pk 1 1000000 || outN cur 0 1000000) = true then ((0 : Int), (4 : Int)) else (match tmC pk cur ps with | none => ((0 : Int), (8 : Int)) | some t => (t, 0)) := by
  unfold timeC
  rw [if_neg (by rw [ckC_good.2 hg]; simp)]
  split
  · rfl
  · cases tmC pk cur ps <;> rfl

theorem time_under {ps qs : List (Int × Int)} {pk cur : Int} (hg : Good ps) (hg2 : Good qs) (hu : Under ps qs) : (timeC ps pk cur).2 = (timeC qs pk cur).2 ∧ (timeC ps pk cur).1 ≤ (timeC qs pk cur).1 := by
  rw [timeC_good hg, timeC_good hg2]
  by_cases ho : (outN pk 1 1000000 || outN cur 0 1000000) = true
  · rw [if_pos ho, if_pos ho]; simp
  · rw [if_neg ho, if_neg ho]
    have hpk : 1 ≤ pk := by simp [outN] at ho; omega
    obtain ⟨a, b, r, rfl, h1, _, _, _, hc, _⟩ := hg
    obtain ⟨a', b', r', rfl, h1', _, _, _, hc', _⟩ := hg2
    have hu1 := hu.1
    simp only [tmC]
    rw [← hu1]
    by_cases hx : 100 * cur < a.1 * pk
    · rw [if_pos hx, if_pos hx]; simp
    · rw [if_neg hx, if_neg hx]
      exact ⟨rfl, tmGo_under hpk hc hc' hu (by omega)⟩

theorem sc_mono {a b t : Int} (hab : a ≤ b) (ht : 0 ≤ t) : (t * a + 999) / 1000 ≤ (t * b + 999) / 1000 :=
  Int.ediv_le_ediv (by omega) (by have := Int.mul_le_mul_of_nonneg_left hab ht; omega)
theorem sc_time {d t u : Int} (htu : t ≤ u) (hd : 0 ≤ d) : (t * d + 999) / 1000 ≤ (u * d + 999) / 1000 :=
  Int.ediv_le_ediv (by omega) (by have := Int.mul_le_mul_of_nonneg_right htu hd; omega)

theorem scGo_chain {d : Int} (hd : 1 ≤ d) : ∀ {r l : List (Int × Int)} {a : Int × Int}, Chain a r → 0 ≤ a.2 → scGo d r = some l → Chain (a.1, (a.2 * d + 999) / 1000) l ∧ l.length = r.length
  | [], l, a, _, _, h => by simp [scGo] at h; subst h; exact ⟨trivial, rfl⟩
  | b :: r, l, a, hc, ha, h => by
    obtain ⟨h1, h2, h3, h4, h5, h6, h7⟩ := hc
    simp only [scGo] at h
    split at h
    · cases h
    · rename_i hle
      cases hr : scGo d r with
      | none => rw [hr] at h; cases h
      | some l' =>
        rw [hr] at h
        simp at h
        subst h
        have hi := scGo_chain hd h7 h5 hr
        refine ⟨⟨h1, sc_time h2 (by omega), h3, h4, ?_, by dsimp only; omega, hi.1⟩, by simp [hi.2]⟩
        have : 0 ≤ b.2 * d := Int.mul_nonneg h5 (by omega)
        dsimp only
        omega

theorem scGo_good {d : Int} (hd : 1 ≤ d) {ps l : List (Int × Int)} (hg : Good ps) (h : scGo d ps = some l) : Good l ∧ l.length = ps.length := by
  obtain ⟨a, b, r, rfl, h1, h2, h3, h4, hc, hl⟩ := hg
  rw [scGo] at h
  split at h
  · cases h
  · rename_i hle
    cases hr : scGo d (b :: r) with
    | none => rw [hr] at h; cases h
    | some l' =>
      rw [hr] at h
      simp at h
      subst h
      have hi := scGo_chain hd hc h3 hr
      match l', hi with
      | [], hi => simp at hi
      | b' :: r', hi =>
        have : 0 ≤ a.2 * d := Int.mul_nonneg h3 (by omega)
        exact ⟨⟨_, b', r', rfl, h1, h2, by dsimp only; omega, by dsimp only; omega, hi.1, by have := hi.2; simp at this; omega⟩, by simpa using hi.2⟩

theorem scGo_under {d e : Int} (hde : d ≤ e) : ∀ {ps l m : List (Int × Int)}, (∀ p ∈ ps, 0 ≤ p.2) → scGo d ps = some l → scGo e ps = some m → Under l m
  | [], l, m, _, h1, h2 => by simp [scGo] at h1 h2; subst h1; subst h2; trivial
  | p :: r, l, m, hn, h1, h2 => by
    simp only [scGo] at h1 h2
    split at h1
    · cases h1
    · split at h2
      · cases h2
      · cases hr1 : scGo d r with
        | none => rw [hr1] at h1; cases h1
        | some l' =>
          cases hr2 : scGo e r with
          | none => rw [hr2] at h2; cases h2
          | some m' =>
            rw [hr1] at h1; rw [hr2] at h2
            simp at h1 h2
            subst h1; subst h2
            exact ⟨rfl, sc_mono hde (hn p (List.mem_cons_self ..)), scGo_under hde (fun q hq => hn q (List.mem_cons_of_mem _ hq)) hr1 hr2⟩

theorem scGo_1000 : ∀ {ps : List (Int × Int)}, (∀ p ∈ ps, 0 ≤ p.2 ∧ p.2 ≤ 3600000) → scGo 1000 ps = some ps
  | [], _ => rfl
  | p :: r, h => by
    have hp := h p (List.mem_cons_self ..)
    have e : (p.2 * 1000 + 999) / 1000 = p.2 := by omega
    rw [scGo, e, if_neg (by omega), scGo_1000 (fun q hq => h q (List.mem_cons_of_mem _ hq))]
    rfl

theorem Good.all {ps : List (Int × Int)} (hg : Good ps) : ∀ p ∈ ps, 0 ≤ p.2 ∧ p.2 ≤ 3600000 := by
  intro p hp
  obtain ⟨i, hi⟩ := List.mem_iff_getElem?.1 hp
  have := hg.get hi
  omega

theorem scale_1000 {ps : List (Int × Int)} (hg : Good ps) : scaleC ps 1000 = (ps, 0) := by
  unfold scaleC
  rw [if_neg (by rw [ckC_good.2 hg]; simp), if_neg (by decide), scGo_1000 hg.all]

theorem scale_bad {ps : List (Int × Int)} (h : ckC ps ≠ 0) (d : Int) : scaleC ps d = ([], ckC ps) := by
  unfold scaleC; rw [if_pos h]

theorem scale_ok {ps : List (Int × Int)} {d : Int} (h : (scaleC ps d).2 = 0) : Good ps ∧ 1 ≤ d ∧ scGo d ps = some (scaleC ps d).1 := by
  unfold scaleC at h ⊢
  split at h
  · rename_i hc; exact absurd h hc
  · rename_i hc
    rw [if_neg hc]
    split at h
    · cases h
    · rename_i ho
      rw [if_neg ho]
      split at h
      · cases h
      · rename_i l hl
        rw [hl]
        exact ⟨ckC_good.1 (by simpa using hc), by simp [outN] at ho; omega, rfl⟩

theorem scales_law {ps : List (Int × Int)} {a b : Int} (hab : a ≤ b) (h1 : (scaleC ps a).2 = 0) (h2 : (scaleC ps b).2 = 0) (pk cur : Int) :
    (timeC (scaleC ps a).1 pk cur).2 = (timeC (scaleC ps b).1 pk cur).2 ∧ (timeC (scaleC ps a).1 pk cur).1 ≤ (timeC (scaleC ps b).1 pk cur).1 := by
  obtain ⟨hg, hd, hs⟩ := scale_ok h1
  obtain ⟨_, he, ht⟩ := scale_ok h2
  exact time_under (scGo_good hd hg hs).1 (scGo_good he hg ht).1 (scGo_under hab (fun p hp => (hg.all p hp).1) hs ht)

set_option maxHeartbeats 4000000 in
theorem scales_any (A : Option Addr) (n c : Nat) (ps : List (Int × Int)) (a b pk cur : Int) (w : World) (hr : RdP w w.heap.size A n ps) (hm : n ≤ 9223372036854775807) :
    Calls Try.prog 11 #[.slice A n c, .int .i64 a, .int .i64 b, .int .i64 pk, .int .i64 cur] w fun e w' => e = .returned (.bool true) ∧ Below w.heap.size w w' := by
  by_cases hab : b < a
  · have hle : b ≤ a := by omega
    go_enter Try.func11, Try.ntmps11
    go_wp2_with fail
    refine (cworks_any _).mono ?_
    rintro e w1 ⟨rfl, k1⟩
    go_wp2_with fail
    refine (scale_any _ _ _ ps _ _ ((hr.below k1 (Nat.le_refl _)).more k1.size) hm).mono ?_
    rintro e w2 ⟨⟨vx, rfl, Ax, nx, cx, rfl, hnx, rx⟩, k2⟩
    have K2 := k1.trans (k2.mono k1.size)
    go_wp2_with fail
    refine (scale_any _ _ _ ps _ _ ((hr.below K2 (Nat.le_refl _)).more K2.size) hm).mono ?_
    rintro e w3 ⟨⟨vy, rfl, Ay, ny, cy, rfl, hny, ry⟩, k3⟩
    have K3 := K2.trans (k3.mono K2.size)
    go_wp2_with fail
    refine (scale_any _ _ _ ps _ _ ((hr.below K3 (Nat.le_refl _)).more K3.size) hm).mono ?_
    rintro e w4 ⟨⟨vz, rfl, Az, nz, cz, rfl, hnz, rz⟩, k4⟩
    have K4 := K3.trans (k4.mono K3.size)
    go_wp2_with fail
    refine (checkC_any _ _ _ ps _ ((hr.below K4 (Nat.le_refl _)).more K4.size) hm).mono ?_
    by_cases hc : ckC ps = 0
    · rw [hc]
      rintro e w5 ⟨rfl, k5⟩
      have K5 := K4.trans (k5.mono K4.size)
      have hg := ckC_good.1 hc
      rw [scale_1000 hg] at rz
      rw [scale_1000 hg]
      dsimp only at rz
      have hlz := rz.len
      have hlen := hr.len
      have hgl := hg.len
      have rx5 := rx.below (((k3.trans (k4.mono k3.size)).trans (k5.mono (by have := k3.size; have := k4.size; omega)))) (Nat.le_refl _)
      have ry5 := ry.below (k4.trans (k5.mono k4.size)) (Nat.le_refl _)
      have rz5 := rz.below k5 (Nat.le_refl _)
      have hr5 := hr.below K5 (Nat.le_refl _)
      have hnz2 : nz = n := by omega
      subst hnz2
      obtain ⟨bz, oz, rfl, hzlt, _⟩ := rz5.2 (by omega)
      obtain ⟨bc, oc, rfl, hclt, _⟩ := hr5.2 (by omega)
      have hlaw : (scaleC ps b).2 = 0 → (scaleC ps a).2 = 0 → (timeC (scaleC ps b).1 pk cur).2 = (timeC (scaleC ps a).1 pk cur).2 ∧ (timeC (scaleC ps b).1 pk cur).1 ≤ (timeC (scaleC ps a).1 pk cur).1 := fun h1 h2 => scales_law hle h1 h2 pk cur
      generalize (scaleC ps b).2 = ex at *
      generalize (scaleC ps a).2 = ey at *
      generalize (scaleC ps b).1 = lx at *
      generalize (scaleC ps a).1 = ly at *
      have hn32 : nz ≤ 32 := by omega
      have HL := Lib.hid hlaw
      have HC := Lib.hid hc
      have HZ := Lib.hid rz5
      have HR := Lib.hid hr5
      have HRX := Lib.hid rx5
      have HRY := Lib.hid ry5
      have Hlz := Lib.hid hlz
      have Hlen := Lib.hid hlen
      clear hlaw hc rz5 hr5 rx5 ry5 rx ry rz hlz hlen hgl
      go_wp2_with fail
      go_loopw [17, 79] (fun _ i wr => ∃ k : Nat, k ≤ nz ∧ i = .int .i64 k ∧ ∃ nq, wr = w5.drewN nq) (fun _ i _ => nz - (intOf i).toNat)
      case atStart => exact ⟨0, by omega, rfl, 0, rfl⟩
      case round =>
        obtain ⟨k, hk, rfl, nq, rfl⟩ := hrel
        by_cases hlt : k < nz
        · obtain ⟨p, hp⟩ : ∃ p, ps[k]? = some p := ⟨_, List.getElem?_eq_getElem (by have := Hlen.out; omega)⟩
          obtain ⟨d0, d1⟩ := HZ.out.at_ hp
          obtain ⟨e0, e1⟩ := HR.out.at_ hp
          have hltI : (k : Int) < (nz : Int) := by omega
          have hkI : (0 : Int) ≤ (k : Int) := by omega
          have HP := Lib.hid hp
          clear hp
          go_wp2_with fail
          go_quiet (fail)
          go_wp2_with fail
          go_roundw
          case rel => exact ⟨k + 1, by omega, by go_num, _, rfl⟩
          case measure => simp [intOf]; omega
        · by_cases hx : ex = 0
          · by_cases hy : ey = 0
            · subst hx; subst hy
              have hlaw := HL.out rfl rfl
              have HL2 := Lib.hid hlaw
              clear hlaw HL
              go_wp2_with fail
              refine (time_any _ _ _ lx _ _ _ (by exact (HRX.out.more (Nat.le_trans k3.size (Nat.le_trans k4.size k5.size)))) (by omega)).mono ?_
              rintro e w6 ⟨rfl, k6⟩
              have K6 : Below w.heap.size w w6 := (below_drewN K5 nq).trans (k6.mono (by exact K5.size))
              go_wp2_with fail
              refine (time_any _ _ _ ly _ _ _ ((RdP.below (w := w5.drewN nq) HRY.out k6 (by exact Nat.le_trans k4.size k5.size)).more (by exact Nat.le_trans (Nat.le_trans k4.size k5.size) k6.size)) (by omega)).mono ?_
              rw [← HL2.out.1]
              rintro e w7 ⟨rfl, k7⟩
              have K7 := K6.trans (k7.mono K6.size)
              have hle2 := HL2.out.2
              generalize (timeC lx pk cur).1 = t at *
              generalize (timeC ly pk cur).1 = u at *
              generalize (timeC lx pk cur).2 = y at *
              have hyy : (y == y) = true := by simp
              clear HL2
              go_wp2_with fail
              go_ret
              exact ⟨ret_bool (by simp <;> omega), K7⟩
            · have hy1 : (ey != 0) = true := by simpa using hy
              clear hy HL
              subst hx
              go_wp2_with fail
              go_ret
              exact ⟨rfl, below_drewN K5 nq⟩
          · have hx1 : (ex != 0) = true := by simpa using hx
            clear hx HL
            go_wp2_with fail
            go_ret
            exact ⟨rfl, below_drewN K5 nq⟩
    · rw [scale_bad hc] at rx ry rz
      rw [scale_bad hc, scale_bad hc, scale_bad hc]
      rintro e w5 ⟨rfl, k5⟩
      have K5 := K4.trans (k5.mono K4.size)
      have hl1 : nx = 0 := by have := rx.len; simp at this; omega
      have hl2 : ny = 0 := by have := ry.len; simp at this; omega
      have hl3 : nz = 0 := by have := rz.len; simp at this; omega
      subst hl1; subst hl2; subst hl3
      have hc1 : (ckC ps != 0) = true := by simpa using hc
      generalize ckC ps = ck at *
      clear hc rx ry rz
      go_wp2_with fail
      go_ret
      exact ⟨ret_bool (by simp), K5⟩
  · have hle : a ≤ b := by omega
    go_enter Try.func11, Try.ntmps11
    go_wp2_with fail
    refine (cworks_any _).mono ?_
    rintro e w1 ⟨rfl, k1⟩
    go_wp2_with fail
    refine (scale_any _ _ _ ps _ _ ((hr.below k1 (Nat.le_refl _)).more k1.size) hm).mono ?_
    rintro e w2 ⟨⟨vx, rfl, Ax, nx, cx, rfl, hnx, rx⟩, k2⟩
    have K2 := k1.trans (k2.mono k1.size)
    go_wp2_with fail
    refine (scale_any _ _ _ ps _ _ ((hr.below K2 (Nat.le_refl _)).more K2.size) hm).mono ?_
    rintro e w3 ⟨⟨vy, rfl, Ay, ny, cy, rfl, hny, ry⟩, k3⟩
    have K3 := K2.trans (k3.mono K2.size)
    go_wp2_with fail
    refine (scale_any _ _ _ ps _ _ ((hr.below K3 (Nat.le_refl _)).more K3.size) hm).mono ?_
    rintro e w4 ⟨⟨vz, rfl, Az, nz, cz, rfl, hnz, rz⟩, k4⟩
    have K4 := K3.trans (k4.mono K3.size)
    go_wp2_with fail
    refine (checkC_any _ _ _ ps _ ((hr.below K4 (Nat.le_refl _)).more K4.size) hm).mono ?_
    by_cases hc : ckC ps = 0
    · rw [hc]
      rintro e w5 ⟨rfl, k5⟩
      have K5 := K4.trans (k5.mono K4.size)
      have hg := ckC_good.1 hc
      rw [scale_1000 hg] at rz
      rw [scale_1000 hg]
      dsimp only at rz
      have hlz := rz.len
      have hlen := hr.len
      have hgl := hg.len
      have rx5 := rx.below (((k3.trans (k4.mono k3.size)).trans (k5.mono (by have := k3.size; have := k4.size; omega)))) (Nat.le_refl _)
      have ry5 := ry.below (k4.trans (k5.mono k4.size)) (Nat.le_refl _)
      have rz5 := rz.below k5 (Nat.le_refl _)
      have hr5 := hr.below K5 (Nat.le_refl _)
      have hnz2 : nz = n := by omega
      subst hnz2
      obtain ⟨bz, oz, rfl, hzlt, _⟩ := rz5.2 (by omega)
      obtain ⟨bc, oc, rfl, hclt, _⟩ := hr5.2 (by omega)
      have hlaw : (scaleC ps a).2 = 0 → (scaleC ps b).2 = 0 → (timeC (scaleC ps a).1 pk cur).2 = (timeC (scaleC ps b).1 pk cur).2 ∧ (timeC (scaleC ps a).1 pk cur).1 ≤ (timeC (scaleC ps b).1 pk cur).1 := fun h1 h2 => scales_law hle h1 h2 pk cur
      generalize (scaleC ps a).2 = ex at *
      generalize (scaleC ps b).2 = ey at *
      generalize (scaleC ps a).1 = lx at *
      generalize (scaleC ps b).1 = ly at *
      have hn32 : nz ≤ 32 := by omega
      have HL := Lib.hid hlaw
      have HC := Lib.hid hc
      have HZ := Lib.hid rz5
      have HR := Lib.hid hr5
      have HRX := Lib.hid rx5
      have HRY := Lib.hid ry5
      have Hlz := Lib.hid hlz
      have Hlen := Lib.hid hlen
      clear hlaw hc rz5 hr5 rx5 ry5 rx ry rz hlz hlen hgl
      go_wp2_with fail
      go_loopw [17, 79] (fun _ i wr => ∃ k : Nat, k ≤ nz ∧ i = .int .i64 k ∧ ∃ nq, wr = w5.drewN nq) (fun _ i _ => nz - (intOf i).toNat)
      case atStart => exact ⟨0, by omega, rfl, 0, rfl⟩
      case round =>
        obtain ⟨k, hk, rfl, nq, rfl⟩ := hrel
        by_cases hlt : k < nz
        · obtain ⟨p, hp⟩ : ∃ p, ps[k]? = some p := ⟨_, List.getElem?_eq_getElem (by have := Hlen.out; omega)⟩
          obtain ⟨d0, d1⟩ := HZ.out.at_ hp
          obtain ⟨e0, e1⟩ := HR.out.at_ hp
          have hltI : (k : Int) < (nz : Int) := by omega
          have hkI : (0 : Int) ≤ (k : Int) := by omega
          have HP := Lib.hid hp
          clear hp
          go_wp2_with fail
          go_quiet (fail)
          go_wp2_with fail
          go_roundw
          case rel => exact ⟨k + 1, by omega, by go_num, _, rfl⟩
          case measure => simp [intOf]; omega
        · by_cases hx : ex = 0
          · by_cases hy : ey = 0
            · subst hx; subst hy
              have hlaw := HL.out rfl rfl
              have HL2 := Lib.hid hlaw
              clear hlaw HL
              go_wp2_with fail
              refine (time_any _ _ _ lx _ _ _ (by exact (HRX.out.more (Nat.le_trans k3.size (Nat.le_trans k4.size k5.size)))) (by omega)).mono ?_
              rintro e w6 ⟨rfl, k6⟩
              have K6 : Below w.heap.size w w6 := (below_drewN K5 nq).trans (k6.mono (by exact K5.size))
              go_wp2_with fail
              refine (time_any _ _ _ ly _ _ _ ((RdP.below (w := w5.drewN nq) HRY.out k6 (by exact Nat.le_trans k4.size k5.size)).more (by exact Nat.le_trans (Nat.le_trans k4.size k5.size) k6.size)) (by omega)).mono ?_
              rw [← HL2.out.1]
              rintro e w7 ⟨rfl, k7⟩
              have K7 := K6.trans (k7.mono K6.size)
              have hle2 := HL2.out.2
              generalize (timeC lx pk cur).1 = t at *
              generalize (timeC ly pk cur).1 = u at *
              generalize (timeC lx pk cur).2 = y at *
              have hyy : (y == y) = true := by simp
              clear HL2
              go_wp2_with fail
              go_ret
              exact ⟨ret_bool (by simp <;> omega), K7⟩
            · have hy1 : (ey != 0) = true := by simpa using hy
              clear hy HL
              subst hx
              go_wp2_with fail
              go_ret
              exact ⟨rfl, below_drewN K5 nq⟩
          · have hx1 : (ex != 0) = true := by simpa using hx
            clear hx HL
            go_wp2_with fail
            go_ret
            exact ⟨rfl, below_drewN K5 nq⟩
    · rw [scale_bad hc] at rx ry rz
      rw [scale_bad hc, scale_bad hc, scale_bad hc]
      rintro e w5 ⟨rfl, k5⟩
      have K5 := K4.trans (k5.mono K4.size)
      have hl1 : nx = 0 := by have := rx.len; simp at this; omega
      have hl2 : ny = 0 := by have := ry.len; simp at this; omega
      have hl3 : nz = 0 := by have := rz.len; simp at this; omega
      subst hl1; subst hl2; subst hl3
      have hc1 : (ckC ps != 0) = true := by simpa using hc
      generalize ckC ps = ck at *
      clear hc rx ry rz
      go_wp2_with fail
      go_ret
      exact ⟨ret_bool (by simp), K5⟩
end Go.Proofs.Ytkmhemcnpbhdfaa
