/- The law RelaylangInputs: the walk. -/
import Derived.Test.YtaanoljfhnfjoaaGreatDoorRG6
namespace Go.Proofs.YtaanoljfhnfjoaaGreatDoor
open Go.ChangeShapes Go.WideShapes Go.ChangeAt Go.RowKit
set_option linter.unusedVariables false
set_option linter.unusedSimpArgs false
attribute [local go_sem ↓] execOp_call_val
attribute [local go_sem] callVal_func setCell_drewN alloc_drewN sEq_walk

/-- what the law says of one of the lists -/
structure LawL (p : List Rl) (l : List ByteArray) : Prop where
  asc : Asc l
  nm : ∀ s ∈ l, rnameB s = true ∧ ∀ r ∈ p, r.name ≠ s
theorem LawL.lt {p : List Rl} {l : List ByteArray} (h : LawL p l) {i : Nat} {a b : ByteArray} (ha : l[i]? = some a) (hb : l[i + 1]? = some b) : bys a < bys b := by
  have h1 := h.asc
  unfold Asc at h1
  rw [List.pairwise_iff_getElem] at h1
  have hb2 := (List.getElem?_eq_some_iff.1 hb).1
  have := h1 i (i + 1) (by rw [List.length_map]; omega) (by rw [List.length_map]; omega) (by omega)
  rw [List.getElem_map, List.getElem_map] at this
  rw [List.getElem?_eq_getElem (by omega)] at ha
  rw [List.getElem?_eq_getElem hb2] at hb
  injection ha with ha
  injection hb with hb
  rwa [ha, hb] at this
theorem rname_size {s : ByteArray} (h : rnameB s = true) : s.size ≤ maxLen := by
  have h1 := rname_len h
  have h2 : (bbs s).length = s.size := rfl
  simp only [maxLen]; omega
set_option maxRecDepth 100000 in
set_option maxHeartbeats 8000000 in
theorem inlaw_any (A : Option Addr) (n c : Nat) (hs : List Rh) (w : World) (hR : RdRh w w.heap.size A n hs) (hn : n ≤ c) (hc : c ≤ maxLen) (hf : ∀ z ∈ hs, z.r.Fit) (hE : EnvJ w) :
    Calls Tryz.prog 6 #[.slice A n c] w fun e w' => e = .returned (.bool true) ∧ Below w.heap.size w w' := by
  have HE := Lib.hid hE
  have HR := Lib.hid hR
  have HF := Lib.hid hf
  have HC := Lib.hid hc
  have HPL : Hid ((rls hs).length = n) := Lib.hid (by unfold rls; rw [List.length_map]; exact hR.len)
  clear hE hR hf hc
  go_enter Tryz.func6, Tryz.ntmps6
  go_wp2_with fail
  refine (rlworks_any w HE.out).mono ?_
  rintro e w1 ⟨rfl, k1⟩
  have HB1 := Lib.hid k1
  have HR1 := Lib.hid (HR.out.up k1)
  clear k1
  go_wp2_with fail
  refine (inputs_any A n c hs w1 HR1.out hn HC.out HF.out).mono ?_
  rintro e w2 ⟨hb2, hcs⟩
  have HB2 := Lib.hid (HB1.out.trans (hb2.mono HB1.out.size))
  have HR2 := Lib.hid (HR1.out.up hb2)
  clear hb2
  rcases hcs with ⟨hck, rfl⟩ | ⟨hck, FA, fc, VA, vc, rfl, hrf, hrv, hfc, hfl, hvl, hvc⟩
  · generalize ckR (rls hs) = ck at *
    have h0b : (ck != 0) = true := by simpa using hck
    clear hck
    go_wp2_with fail
    go_ret
    exact ⟨rfl, HB2.out⟩
  obtain ⟨⟨ha1, ha2⟩, hl1, hl2⟩ := inputs_law hck
  have HL1 := Lib.hid (LawL.mk ha1 hl1)
  have HL2 := Lib.hid (LawL.mk ha2 hl2)
  have HPO := Lib.hid (ckR_ok hck)
  have hn16 : n ≤ 16 := by have := HPO.out.len; have := HPL.out; omega
  have HRF := Lib.hid hrf
  have HRV := Lib.hid hrv
  have HFI : Hid ((inF (rls hs)).length ≤ 9223372036854775807 ∧ (inV (rls hs)).length ≤ 9223372036854775807) := Lib.hid (by simp only [maxLen] at hfc hvc; omega)
  clear hck ha1 ha2 hl1 hl2 hrf hrv hfc hfl hvl hvc
  generalize inF (rls hs) = F at *
  generalize inV (rls hs) = V at *
  obtain ⟨nF, hnF⟩ : ∃ q, q = F.length := ⟨_, rfl⟩
  obtain ⟨nV, hnV⟩ : ∃ q, q = V.length := ⟨_, rfl⟩
  rw [← hnF] at HRF HFI ⊢
  rw [← hnV] at HRV HFI ⊢
  have HIX : Hid (∀ i : Nat, i < 2 → ∃ A' m' c' l, (∀ u, (Instr.index 45 (.agg #[.slice FA nF fc, .slice VA nV vc]) (.int .i64 (i : Int))).run Tryz.prog u = .ok (.slice A' m' c') u) ∧ RdStr w2 w2.heap.size A' m' l ∧ LawL (rls hs) l ∧ m' ≤ 9223372036854775807) := Lib.hid fun i hi => by
    rcases (show i = 0 ∨ i = 1 by omega) with rfl | rfl
    · exact ⟨FA, nF, fc, F, fun u => by kernel_rfl, HRF.out, HL1.out, HFI.out.1⟩
    · exact ⟨VA, nV, vc, V, fun u => by kernel_rfl, HRV.out, HL2.out, HFI.out.2⟩
  clear hnF hnV
  go_wp2_with fail
  go_loopw [31] (fun iv wr => ∃ i : Nat, i ≤ 2 ∧ iv = .int .i64 i ∧ Below w2.heap.size w2 wr) (fun iv _ => 2 - (intOf iv).toNat)
  case atStart => exact ⟨0, by omega, rfl, Below.refl _ _⟩
  case round =>
    obtain ⟨i, hi, rfl, hb⟩ := hrel
    have HB := Lib.hid hb
    clear hb
    by_cases hlt : i < 2
    rotate_left
    · go_wp2_with fail
      go_ret
      exact ⟨rfl, HB2.out.trans (HB.out.mono HB2.out.size)⟩
    obtain ⟨A', m', c', l, hrun, hrl, hll, hml⟩ := HIX.out i hlt
    have HRL := Lib.hid hrl
    have HLL := Lib.hid hll
    have hltI : (i : Int) < 2 := by omega
    clear hrl hll
    go_wp2_with fail
    generalize wr = wa at *
    have HRR := Lib.hid (HR2.out.up HB.out)
    have HRA := Lib.hid (HRL.out.up HB.out)
    go_loopw [36] (fun jv wr => ∃ j : Nat, j ≤ m' ∧ jv = .int .i64 j ∧ Below wa.heap.size wa wr) (fun jv _ => m' - (intOf jv).toNat)
    case atStart => exact ⟨0, by omega, rfl, Below.refl _ _⟩
    case round =>
      obtain ⟨j, hj, rfl, hbj⟩ := hrel
      have HBJ := Lib.hid hbj
      clear hbj
      by_cases hjm : j < m'
      rotate_left
      · go_wp2_with fail
        go_roundw
        case rel => exact ⟨i + 1, by omega, by go_num, HB.out.trans (HBJ.out.mono HB.out.size)⟩
        case measure => simp [intOf]; omega
      obtain ⟨s, hs1⟩ : ∃ s, l[j]? = some s := ⟨_, List.getElem?_eq_getElem (by have := HRA.out.1; omega)⟩
      obtain ⟨sb, so, hA, hsb⟩ := HRA.out.form (by omega)
      have h1 := HRA.out.up HBJ.out
      rw [hA] at h1
      have c0 := h1.at_ hs1
      have HPV : Hid (∀ t, j = t + 1 → ∃ u, wr.cell? ⟨sb, so + t, none⟩ = some (.string u) ∧ bys u < bys s) := Lib.hid fun t ht => by
        subst ht
        obtain ⟨u, hu⟩ : ∃ u, l[t]? = some u := ⟨_, List.getElem?_eq_getElem (by have := HRA.out.1; omega)⟩
        exact ⟨u, h1.at_ hu, HLL.out.lt hu hs1⟩
      obtain ⟨hnm, hno⟩ := HLL.out.nm s (List.mem_of_getElem? hs1)
      have hssz := rname_size hnm
      have hjmI : (j : Int) < (m' : Int) := by omega
      have HNM := Lib.hid hnm
      have HNO := Lib.hid hno
      rw [hA]
      clear hs1 h1 hA hnm hno
      go_wp2_with fail
      refine (rname_any s wr hssz).mono ?_
      rw [HNM.out]
      rintro e w5 ⟨rfl, k5⟩
      have hsb2 : sb < wr.heap.size := World.block_lt_of_cell? wr _ c0
      have HB5 := Lib.hid (HBJ.out.trans (k5.mono HBJ.out.size))
      have HPV5 : Hid (∀ t, j = t + 1 → ∃ u, w5.cell? ⟨sb, so + t, none⟩ = some (.string u) ∧ bys u < bys s) := Lib.hid fun t ht => by
        obtain ⟨u, h1, h2⟩ := HPV.out t ht
        exact ⟨u, (k5.cell (p := ⟨sb, so + t, none⟩) hsb2).trans h1, h2⟩
      have HRW := Lib.hid (HRR.out.up HB5.out)
      clear k5 c0 hsb2 HPV
      by_cases hj0 : 0 < j
      · obtain ⟨u, hu1, hu2⟩ := HPV5.out (j - 1) (by omega)
        have hj0I : (0 : Int) < (j : Int) := by omega
        have hj1 : (1 : Int) ≤ (j : Int) := by omega
        have hjt : ((j : Int) - 1).toNat = j - 1 := by omega
        have hjm1 : (j : Int) - 1 < (m' : Int) := by omega
        have hbl : Op.bytesLess u.toList s.toList = true := by rw [ByteArray.toList_eq, ByteArray.toList_eq, Proofs.bytesLess_eq]; exact decide_eq_true hu2
        clear HPV5 hu2
        go_wp2_with fail
        go_loopw [59] (fun kv wr => ∃ k : Nat, k ≤ n ∧ kv = .int .i64 k ∧ Below w5.heap.size w5 wr) (fun kv _ => n - (intOf kv).toNat)
        case atStart => exact ⟨0, by omega, rfl, Below.refl _ _⟩
        case round =>
          obtain ⟨k, hk, rfl, hbk⟩ := hrel
          have HBK := Lib.hid hbk
          clear hbk
          by_cases hkn : k < n
          rotate_left
          · go_wp2_with fail
            go_roundw
            case rel => exact ⟨j + 1, hjm, by go_num, HB5.out.trans (HBK.out.mono HB5.out.size)⟩
            case measure => simp [intOf]; omega
          obtain ⟨z, hz⟩ : ∃ z, hs[k]? = some z := ⟨_, List.getElem?_eq_getElem (by have := HRW.out.len; omega)⟩
          obtain ⟨b, off, hA2, hbl2⟩ := HRW.out.form (by omega)
          subst hA2
          obtain ⟨p0, p1⟩ := (HRW.out.up HBK.out).at_ hz
          have hzr : z.r ∈ rls hs := List.mem_map.2 ⟨z, List.mem_of_getElem? hz, rfl⟩
          have hnq : sEq z.r.name s = false := sEq_ff.2 (HNO.out z.r hzr)
          have hknI : (k : Int) < (n : Int) := by omega
          have hbn : Below wr.heap.size wr (wr.alloc (.cells #[.string z.r.name, .slice z.A z.n z.c] 39)) := (Below.refl _ _).alloc (Nat.le_refl _) _
          have HBN := Lib.hid (HBK.out.trans (hbn.mono HBK.out.size))
          clear hz hzr hbn
          go_wp2_with fail
          go_roundw
          case rel => exact ⟨k + 1, hkn, by go_num, HBN.out⟩
          case measure => simp [intOf]; omega
      · have hj0I : ¬ (0 : Int) < (j : Int) := by omega
        clear HPV5
        go_wp2_with fail
        go_loopw [59] (fun kv wr => ∃ k : Nat, k ≤ n ∧ kv = .int .i64 k ∧ Below w5.heap.size w5 wr) (fun kv _ => n - (intOf kv).toNat)
        case atStart => exact ⟨0, by omega, rfl, Below.refl _ _⟩
        case round =>
          obtain ⟨k, hk, rfl, hbk⟩ := hrel
          have HBK := Lib.hid hbk
          clear hbk
          by_cases hkn : k < n
          rotate_left
          · go_wp2_with fail
            go_roundw
            case rel => exact ⟨j + 1, hjm, by go_num, HB5.out.trans (HBK.out.mono HB5.out.size)⟩
            case measure => simp [intOf]; omega
          obtain ⟨z, hz⟩ : ∃ z, hs[k]? = some z := ⟨_, List.getElem?_eq_getElem (by have := HRW.out.len; omega)⟩
          obtain ⟨b, off, hA2, hbl2⟩ := HRW.out.form (by omega)
          subst hA2
          obtain ⟨p0, p1⟩ := (HRW.out.up HBK.out).at_ hz
          have hzr : z.r ∈ rls hs := List.mem_map.2 ⟨z, List.mem_of_getElem? hz, rfl⟩
          have hnq : sEq z.r.name s = false := sEq_ff.2 (HNO.out z.r hzr)
          have hknI : (k : Int) < (n : Int) := by omega
          have hbn : Below wr.heap.size wr (wr.alloc (.cells #[.string z.r.name, .slice z.A z.n z.c] 39)) := (Below.refl _ _).alloc (Nat.le_refl _) _
          have HBN := Lib.hid (HBK.out.trans (hbn.mono HBK.out.size))
          clear hz hzr hbn
          go_wp2_with fail
          go_roundw
          case rel => exact ⟨k + 1, hkn, by go_num, HBN.out⟩
          case measure => simp [intOf]; omega
end Go.Proofs.YtaanoljfhnfjoaaGreatDoor
