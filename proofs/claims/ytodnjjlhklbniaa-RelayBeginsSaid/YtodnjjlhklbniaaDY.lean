/- RelayBegins. -/
import Derived.Test.YtodnjjlhklbniaaDRn
import Derived.Test.YtodnjjlhklbniaaDV
import Derived.Deep.DeepCutAuto
namespace Go.Proofs.Ytodnjjlhklbniaa
open Go.ChangeShapes Go.WideShapes Go.ChangeAt Go.RowKit
set_option linter.unusedVariables false
set_option linter.unusedSimpArgs false
attribute [local go_sem ↓] execOp_call_val
attribute [local go_sem] callVal_func setCell_drewN alloc_drewN sEq_walk


theorem runE_zero {p : List Rl} {ms : Int} {fs : List (List ByteArray)} (h : runE p ms fs = 0) : ckR p = 0 ∧ 1 ≤ ms ∧ ms ≤ 100000 ∧ fs.length ≤ 2000 ∧ bigF fs = false := by
  unfold runE at h
  by_cases h0 : ckR p = 0
  · rw [if_neg (by simpa using h0)] at h
    by_cases h1 : ms < 1 ∨ 100000 < ms
    · rw [if_pos h1] at h; omega
    rw [if_neg h1] at h
    by_cases h2 : 2000 < fs.length
    · rw [if_pos h2] at h; omega
    rw [if_neg h2] at h
    cases hb : bigF fs with
    | true => rw [hb] at h; simp at h
    | false => exact ⟨h0, by omega, by omega, by omega, rfl⟩
  · rw [if_pos h0] at h; exact absurd h h0
theorem runE_take {p : List Rl} {ms : Int} {fs : List (List ByteArray)} (h : runE p ms fs = 0) (n : Nat) : runE p ms (fs.take n) = 0 := by
  obtain ⟨h1, h2, h3, h4, h5⟩ := runE_zero h
  unfold runE
  rw [if_neg (by simpa using h1), if_neg (by omega), if_neg (by rw [List.length_take]; omega), if_neg]
  unfold bigF at h5 ⊢
  rw [List.any_eq_true]
  rintro ⟨l, hl, hh⟩
  rw [List.any_eq_false] at h5
  exact h5 l (List.mem_of_mem_take hl) hh
theorem runO_len {p : List Rl} {ms : Int} {fs : List (List ByteArray)} (h : runE p ms fs = 0) : (runO p ms fs).length = fs.length := by
  obtain ⟨o, ho⟩ := (ckR_ok (runE_zero h).1).ord
  unfold runO
  rw [ho]
  exact runR_len _ _ _ _ _ _
theorem runO_take (p : List Rl) (ms : Int) (fs : List (List ByteArray)) (n : Nat) : runO p ms (fs.take n) = (runO p ms fs).take n := by
  unfold runO
  cases orderR p with
  | none => simp
  | some o => exact runR_take _ _ _ _ _ _ _
theorem sss_take (l : List Sl) (n : Nat) : sss (l.take n) = (sss l).take n := by unfold sss; rw [List.map_take]
set_option maxRecDepth 100000 in
set_option maxHeartbeats 8000000 in
theorem begins_any (A : Option Addr) (n c : Nat) (hs : List Rh) (ms : Int) (B : Option Addr) (m d : Nat) (ls : List Sl) (k0 : Int) (w : World) (hR : RdRh w w.heap.size A n hs) (hn : n ≤ c) (hc : c ≤ maxLen) (hnil : A = none → c = 0) (hf : ∀ z ∈ hs, z.r.Fit)
    (hL : RdSl w w.heap.size B m ls) (hm : m ≤ d) (hd : d ≤ maxLen) :
    Calls Try.prog 4 #[.slice A n c, .int .i64 ms, .slice B m d, .int .i64 k0] w fun e w' => e = .returned (.bool true) ∧ Below w.heap.size w w' := by
  have HR := Lib.hid hR
  have HL := Lib.hid hL
  have HF := Lib.hid hf
  have HC := Lib.hid hc
  have HN := Lib.hid hnil
  unfold maxLen at hd
  clear hR hL hf hc hnil
  go_enter Try.func4, Try.ntmps4
  go_upto_region 1 with fail
  go_cut [2] (fun v2 wc => w = wc ∧ ∃ M : Nat, v2 = .slice B M d ∧ M ≤ m ∧ M ≤ 30)
  case first =>
    by_cases h1 : 30 < m
    · have h2 : 30 ≤ d := by omega
      go_wp2_with fail
      go_meet
      case rel => exact ⟨rfl, _, rfl, by omega, by omega⟩
    · go_wp2_with fail
      go_meet
      case rel => exact ⟨rfl, _, rfl, by omega, by omega⟩
  case rest =>
  obtain ⟨rfl, M, rfl, hMm, hM30⟩ := hcut
  have HLM := Lib.hid (HL.out.take hMm)
  clear HL
  generalize ls.take M = lm at *
  have HLL : Hid ((sss lm).length = M) := Lib.hid (by unfold sss; rw [List.length_map]; exact HLM.out.len)
  go_wp2_with fail
  refine (rworks_any _).mono ?_
  rintro e w1 ⟨rfl, k1⟩
  have HB1 := Lib.hid k1
  clear k1
  go_wp2_with fail
  refine (run_any A n c hs ms B M d lm w1 (HR.out.up HB1.out) hn HC.out HN.out HF.out (HLM.out.up HB1.out) (by omega)).mono ?_
  rintro e w2 ⟨k2, hcs⟩
  have HB2 := Lib.hid (HB1.out.trans (k2.mono HB1.out.size))
  clear k2
  rcases hcs with ⟨hne, rfl⟩ | ⟨h0, v, us, rfl, hout⟩
  · generalize runE (rls hs) ms (sss lm) = ck at *
    have hneb : (ck != 0) = true := by simpa using hne
    clear hne
    go_wp2_with fail
    go_ret
    exact ⟨rfl, HB2.out⟩
  · have HE := Lib.hid h0
    have HOUT := Lib.hid hout
    obtain ⟨L1, c1, rfl, hc1, -, -⟩ := hout.get
    have HOL : Hid ((runO (rls hs) ms (sss lm)).length = M) := Lib.hid (by rw [runO_len h0, HLL.out])
    rw [HOL.out]
    obtain ⟨ub, hub⟩ : ∃ q, q = k0.tmod ((M : Int) + 1) := ⟨_, rfl⟩
    have htm := tmodB k0 ((M : Int) + 1) (by omega)
    rw [← hub] at htm
    clear hc1 h0 hout
    go_upto_region 7 with fail
    go_cut [3] (fun v3 wc => w2 = wc ∧ ∃ K : Nat, v3 = .int .i64 (K : Int) ∧ K ≤ M)
    case first =>
      go_wp2_with fail
      go_meet
      case rel => exact ⟨rfl, ((k0.tmod ((M : Int) + 1) + (M : Int) + 1) % ((M : Int) + 1)).toNat, by rw [Int.toNat_of_nonneg (Int.emod_nonneg _ (by omega))], by
        have h1 := Int.emod_nonneg (k0.tmod ((M : Int) + 1) + (M : Int) + 1) (show (M : Int) + 1 ≠ 0 by omega)
        have h2 := Int.emod_lt_of_pos (k0.tmod ((M : Int) + 1) + (M : Int) + 1) (show (0 : Int) < (M : Int) + 1 by omega)
        omega⟩
    case rest =>
    obtain ⟨rfl, K, rfl, hKM⟩ := hcut
    clear htm hub
    have hKd : K ≤ d := by omega
    have HTS : Hid (sss (lm.take K) = (sss lm).take K) := Lib.hid (sss_take _ _)
    go_wp2_with fail
    refine (run_any A n c hs ms B K d (lm.take K) w2 (HR.out.up HB2.out) hn HC.out HN.out HF.out ((HLM.out.take hKM).up HB2.out) (by omega)).mono ?_
    rintro e w3 ⟨k3, hcs⟩
    rw [HTS.out] at hcs
    rcases hcs with ⟨hne, -⟩ | ⟨-, v, us2, rfl, hout2⟩
    · exact absurd (runE_take HE.out K) hne
    rw [runO_take] at hout2
    have HB3 := Lib.hid (HB2.out.trans (k3.mono HB2.out.size))
    have HO1 := Lib.hid (HOUT.out.up k3)
    have HO2 := Lib.hid hout2
    clear k3 hout2 HOUT HB2 hKd HTS
    generalize runO (rls hs) ms (sss lm) = R at *
    obtain ⟨L1', c1', e1, hc1, hA1, hg1⟩ := HO1.out.get
    injection e1 with e1 e2 e3
    subst e1; subst e3
    obtain ⟨L2, c2, rfl, hc2, hA2, hg2⟩ := HO2.out.get
    have hl2 : (R.take K).length = K := by rw [List.length_take, HOL.out]; omega
    rw [hl2] at hA2 ⊢
    have HG1 := Lib.hid hg1
    have HG2 := Lib.hid hg2
    have HA1 := Lib.hid hA1
    have HA2 := Lib.hid hA2
    unfold maxLen at hc1 hc2
    clear hg1 hg2 hl2 hA1 hA2 e2 HO1 HO2
    go_wp2_with fail
    go_loopw [72] (fun i wr => ∃ k : Nat, k ≤ K ∧ i = .int .i64 k ∧ Below w3.heap.size w3 wr) (fun i _ => K - (intOf i).toNat)
    case atStart => exact ⟨0, by omega, rfl, Below.refl _ _⟩
    case round =>
      obtain ⟨k, hk, rfl, hb⟩ := hrel
      have HB := Lib.hid hb
      clear hb
      by_cases hlt : k < K
      · obtain ⟨l, hl⟩ : ∃ l, R[k]? = some l := ⟨_, List.getElem?_eq_getElem (by rw [HOL.out]; omega)⟩
        obtain ⟨b1, o1, B1, d1, hL1, hb1, x1, hld1, hd1, r1⟩ := HG1.out k l hl
        obtain ⟨b2, o2, B2, d2, hL2, hb2, x2, hld2, hd2, r2⟩ := HG2.out k l (by rw [List.getElem?_take_of_lt hlt]; exact hl)
        have HR1 := Lib.hid (r1.up HB.out)
        have HR2 := Lib.hid (r2.up HB.out)
        have y1 : wr.cell? ⟨b1, o1 + k, none⟩ = some (.slice B1 l.length d1) := (HB.out.cell (p := ⟨b1, o1 + k, none⟩) hb1).trans x1
        have y2 : wr.cell? ⟨b2, o2 + k, none⟩ = some (.slice B2 l.length d2) := (HB.out.cell (p := ⟨b2, o2 + k, none⟩) hb2).trans x2
        have z1 : b1 < wr.heap.size := Nat.lt_of_lt_of_le hb1 HB.out.size
        have z2 : b2 < wr.heap.size := Nat.lt_of_lt_of_le hb2 HB.out.size
        have HQL : Hid (l.length ≤ 9223372036854775807) := Lib.hid (by unfold maxLen at hd1; omega)
        have hkM : k < M := by omega
        have hkM1 : (k : Int) < (M : Int) := by omega
        have hkK1 : (k : Int) < (K : Int) := by omega
        rw [hL1, hL2]
        clear r1 r2 x1 x2 hl hL1 hL2 hb1 hb2 hld1 hld2 hd1 hd2
        generalize l.length = q at *
        have HB4 := Lib.hid (below_drew (Below.refl wr.heap.size wr))
        go_upto_region 14 with fail
        refine wp_region_last (S := fun w' => Below wr.heap.size wr w') 9 _ (by kernel_rfl) (by kernel_rfl) rfl (below_drew (Below.refl _ _)) (fun hHeld => ?_)
        simp only [List.take_succ_cons, List.take_zero]
        refine takeH 0 (v := ?_) rfl (by kernel_rfl) (fun _ _ _ h => h) (by rfl) ?_ hHeld ?_
        rotate_left 1
        · intro w' hSw; obtain ⟨hcc, -⟩ := bcellW hSw; go_simp <;> with_reducible rfl
        try simp only [Act.put, List.setIfInBounds_toArray, List.set_cons_zero, List.set_cons_succ]
        refine takeH 1 (v := ?_) rfl (by kernel_rfl) (fun _ _ _ h => h) (by rfl) ?_ hHeld ?_
        rotate_left 1
        · intro w' hSw; obtain ⟨hcc, -⟩ := bcellW hSw; go_simp <;> with_reducible rfl
        try simp only [Act.put, List.setIfInBounds_toArray, List.set_cons_zero, List.set_cons_succ]
        refine takeH 2 (v := ?_) rfl (by kernel_rfl) (fun _ _ _ h => h) (by rfl) ?_ hHeld ?_
        rotate_left 1
        · intro w' hSw; obtain ⟨hcc, -⟩ := bcellW hSw; go_simp <;> with_reducible rfl
        try simp only [Act.put, List.setIfInBounds_toArray, List.set_cons_zero, List.set_cons_succ]
        refine takeH 3 (v := ?_) rfl (by kernel_rfl) (fun _ _ _ h => h) (by rfl) ?_ hHeld ?_
        rotate_left 1
        · intro w' hSw; obtain ⟨hcc, -⟩ := bcellW hSw; go_simp <;> with_reducible rfl
        try simp only [Act.put, List.setIfInBounds_toArray, List.set_cons_zero, List.set_cons_succ]
        refine takeH 4 (v := ?_) rfl (by kernel_rfl) (fun _ _ _ h => h) (by rfl) ?_ hHeld ?_
        rotate_left 1
        · intro w' hSw; obtain ⟨hcc, -⟩ := bcellW hSw; go_simp <;> with_reducible rfl
        try simp only [Act.put, List.setIfInBounds_toArray, List.set_cons_zero, List.set_cons_succ]
        refine takeH 5 (v := ?_) rfl (by kernel_rfl) (fun _ _ _ h => h) (by rfl) ?_ hHeld ?_
        rotate_left 1
        · intro w' hSw; obtain ⟨hcc, -⟩ := bcellW hSw; go_simp <;> with_reducible rfl
        try simp only [Act.put, List.setIfInBounds_toArray, List.set_cons_zero, List.set_cons_succ]
        refine takeH 6 (v := ?_) rfl (by kernel_rfl) (fun _ _ _ h => h) (by rfl) ?_ hHeld ?_
        rotate_left 1
        · intro w' hSw; obtain ⟨hcc, -⟩ := bcellW hSw; go_simp <;> with_reducible rfl
        try simp only [Act.put, List.setIfInBounds_toArray, List.set_cons_zero, List.set_cons_succ]
        refine takeH 7 (v := ?_) rfl (by kernel_rfl) (fun _ _ _ h => h) (by rfl) ?_ hHeld ?_
        rotate_left 1
        · intro w' hSw; obtain ⟨hcc, -⟩ := bcellW hSw; go_simp <;> with_reducible rfl
        try simp only [Act.put, List.setIfInBounds_toArray, List.set_cons_zero, List.set_cons_succ]
        refine stepH 8 (by kernel_rfl) rfl (fun K hK => ?_)
        go_simp
        refine (sameTexts_yes B2 q d2 l B1 d1 _ (HR2.out.up HB4.out) (HR1.out.up HB4.out) HQL.out).mono ?_
        rintro e w5 ⟨rfl, nq, rfl⟩
        have HB8 := Lib.hid (below_drewN HB4.out nq)
        generalize wr.drew.drewN nq = w5 at *
        go_simp
        refine hK.out _ _ ?_ (fun hHeld => ?_)
        · exact HB8.out
        clear hK K
        try simp only [Act.put, List.setIfInBounds_toArray, List.set_cons_zero, List.set_cons_succ]
        refine wpAnyH_done (by kernel_rfl) ?_ _
        refine lastQ_go (by rfl) ?_
        clear hHeld
        have HB9 := Lib.hid (HB.out.trans (HB8.out.mono HB.out.size))
        clear y1 y2 z1 z2 HR1 HR2 HB HB4
        go_wp2_with fail
        go_roundw
        case rel => exact ⟨k + 1, hlt, by go_num, HB9.out⟩
        case measure => simp [intOf]; omega
      · have HBF := Lib.hid (HB3.out.trans (HB.out.mono HB3.out.size))
        go_wp2_with fail
        go_ret
        exact ⟨rfl, HBF.out⟩
end Go.Proofs.Ytodnjjlhklbniaa
