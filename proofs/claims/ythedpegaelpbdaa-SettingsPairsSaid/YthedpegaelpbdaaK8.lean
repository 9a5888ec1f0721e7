/- slices.Clone of points, and curve.Scale. -/
import Derived.Test.YthedpegaelpbdaaK3
namespace Go.Proofs.Ythedpegaelpbdaa
open Go.ChangeShapes Go.WideShapes Go.ChangeAt Go.RowKit
set_option linter.unusedVariables false
attribute [local go_sem ↓] execOp_call_val
attribute [local go_sem] callVal_func setCell_drewN alloc_drewN

theorem info54 : (Try.prog.info? 126).map (fun i => (i.zero, i.size, i.bytes)) = some (some (.agg #[.int .i64 0, .int .i64 0]), 2, 16) := by kernel_rfl

theorem ptCells_one (ps : List (Int × Int)) : ∀ u ∈ ptCells ps, u.oneCell' = true := by
  intro u hu
  unfold ptCells at hu
  simp only [List.mem_flatMap, List.mem_cons, List.not_mem_nil, or_false] at hu
  obtain ⟨p, _, rfl | rfl⟩ := hu <;> rfl

set_option maxHeartbeats 1000000 in
theorem clone_p (b off n c : Nat) (ps : List (Int × Int)) (w : World) (hr : RdP w w.heap.size (some ⟨b, off, none⟩) n ps) (h0 : 0 < n) (hn : n ≤ 65536) :
    Calls Try.prog 64 #[.slice (some ⟨b, off, none⟩) n c] w fun e w' => ∃ v, e = .returned v ∧ w'.ownsRow w.heap.size 126 2 v n (ptCells ps) ∧ Below w.heap.size w w' := by
  obtain ⟨i0, hi0, hz0, hz1, hz2⟩ := info_parts info54
  have h1 := fun (w : World) => Go.run_eql_slice_nil (P := Try.prog) w 66 126 (some ⟨b, off, none⟩) n c Try.underlying66
  obtain ⟨b', off', he, hlt, hc⟩ := hr.2 h0
  injection he with he
  injection he with e1 e2
  subst e1; subst e2
  have HR := Lib.hid hr
  have HC := Lib.hid hc
  clear hr hc
  go_enter Try.func64, Try.ntmps64
  go_wp2_with (at_builtin; refine wpList_append_own_at _ rfl (.tmp 5) (.tmp 6) _ rfl w.heap.size 126 i0 _ 2 16 Try.underlying66 hi0 hz0 hz1 hz2 rfl (by omega) (.slice (some ⟨w.heap.size, 0, none⟩) 0 0) 0 [] rfl (own_nil _ _ _) ⟨b, off, none⟩ n c (ptCells ps) rfl ?c0 ?c1 (ptCells_one ps) ?c2 ?c3 ?c4 ?_)
  case c0 => rw [ptCells_len, HR.out.len]
  case c1 => intro j u hu; exact HC.out j u hu
  case c2 => simp only [maxLen]; omega
  case c3 => omega
  intro v1 w1 hown1 hg1 hnil1 hat1
  go_wp2
  go_ret
  refine ⟨v1, rfl, by simpa using hown1, ?_⟩
  have k1 : Below w.heap.size w (w.alloc (.cells #[] 126)) := (Below.refl _ _).alloc (Nat.le_refl _) _
  exact k1.grown hg1 (by simp) (fun k hk => by simp [Value.ownBlock] at hk; omega)

/-! Scale -/
def scGo (dial : Int) : List (Int × Int) → Option (List (Int × Int))
  | [] => some []
  | p :: r => if 3600000 < (p.2 * dial + 999) / 1000 then none else (scGo dial r).map fun l => (p.1, (p.2 * dial + 999) / 1000) :: l
def scaleC (ps : List (Int × Int)) (dial : Int) : List (Int × Int) × Int :=
  if ckC ps ≠ 0 then ([], ckC ps) else if outN dial 1 10000 then ([], 4) else match scGo dial ps with
    | none => ([], 2)
    | some l => (l, 0)

/-- a result: a slice of points -/
def OutP (w : World) (v : Value) (l : List (Int × Int)) : Prop := ∃ A n c, v = .slice A n c ∧ n ≤ 65536 ∧ RdP w w.heap.size A n l

theorem outP_nil (w : World) : OutP w (.slice none 0 0) [] := ⟨none, 0, 0, rfl, by omega, rfl, fun h => by omega⟩
theorem outP_own {w : World} {B g cap n : Nat} {l : List (Int × Int)} (h : w.ownsRow B 126 2 (.slice (some ⟨g, 0, none⟩) n cap) n (ptCells l)) (hn : n ≤ 65536) : OutP w (.slice (some ⟨g, 0, none⟩) n cap) l := by
  refine ⟨_, n, cap, rfl, hn, h.1, fun h0 => ⟨g, 0, rfl, (h.lt g (by simp [Value.ownBlock])).2, fun j u hu => ?_⟩⟩
  have hj : j < n * 2 := by have := (List.getElem?_eq_some_iff.1 hu).1; have := h.1; omega
  rw [Nat.zero_add, h.cellAt j hj]
  exact hu

theorem ptCells_set (l1 l2 : List (Int × Int)) (p : Int × Int) (t : Int) : (ptCells (l1 ++ p :: l2)).set (l1.length * 2 + 1) (.int .i64 t) = ptCells (l1 ++ (p.1, t) :: l2) := by
  have h1 : ptCells (l1 ++ p :: l2) = ptCells l1 ++ (.int .i64 p.1 :: .int .i64 p.2 :: ptCells l2) := by simp [ptCells]
  have h2 : ptCells (l1 ++ (p.1, t) :: l2) = ptCells l1 ++ (.int .i64 p.1 :: .int .i64 t :: ptCells l2) := by simp [ptCells]
  rw [h1, h2, List.set_append, if_neg (by rw [ptCells_len]; omega)]
  rw [ptCells_len, show l1.length * 2 + 1 - l1.length * 2 = 1 from by omega]
  rfl

set_option maxHeartbeats 2000000 in
theorem scale_walk (b off n c : Nat) (ps : List (Int × Int)) (dial : Int) (w : World) (hr : RdP w w.heap.size (some ⟨b, off, none⟩) n ps) (hg : Good ps) (d1 : 1 ≤ dial) (d2 : dial ≤ 10000) :
    Calls Try.prog 29 #[.slice (some ⟨b, off, none⟩) n c, .int .i64 dial] w fun e w' => (∃ v, e = .returned (.tuple #[v, .int .i64 (scaleC ps dial).2]) ∧ OutP w' v (scaleC ps dial).1) ∧ Below w.heap.size w w' := by
  have hlen := hr.len
  have hgl := hg.len
  have hout : outN dial 1 10000 = false := by unfold outN; simp; omega
  have hck := ckC_good.2 hg
  have HS : Hid (scaleC ps dial = match scGo dial ps with | none => ([], 2) | some l => (l, 0)) := Lib.hid (by unfold scaleC; rw [if_neg (by rw [hck]; simp), if_neg (by rw [hout]; simp)])
  have HCK := Lib.hid hck
  clear hck
  go_enter Try.func29, Try.ntmps29
  go_wp2_with fail
  refine (checkC_any _ _ _ _ _ hr (by omega)).mono ?_
  rw [HCK.out]
  rintro e w1 ⟨rfl, hb1⟩
  go_wp2_with fail
  refine (outN_any _ _ _ _).mono ?_
  rintro e w' ⟨rfl, rfl⟩
  go_wp2_with fail
  refine (clone_p b off n c ps _ ((hr.below hb1 (Nat.le_refl _)).more hb1.size) (by omega) (by omega)).mono ?_
  rintro e w2 ⟨v, rfl, hown, hb2⟩
  have K2 := hb1.trans (hb2.mono hb1.size)
  obtain ⟨g, cap, hv, hg1, _⟩ := World.ownsRow.form hown (by omega)
  subst hv
  have HO := Lib.hid hown
  clear hown
  go_wp2_with fail
  go_loopw [8, 20] (fun _ i wr => ∃ (k : Nat) (done : List (Int × Int)), k ≤ n ∧ i = .int .i64 k ∧ done.length = k ∧ Below w.heap.size w wr ∧
      wr.ownsRow w1.heap.size 126 2 (.slice (some ⟨g, 0, none⟩) n cap) n (ptCells (done ++ ps.drop k)) ∧ scGo dial ps = (scGo dial (ps.drop k)).map (done ++ ·)) (fun _ i _ => n - (intOf i).toNat)
  case atStart => exact ⟨0, [], by omega, rfl, rfl, K2, HO.out, by simp⟩
  case round =>
    obtain ⟨k, done, hk, rfl, hdl, K, hown, hsc⟩ := hrel
    have HOW := Lib.hid hown
    have HSC := Lib.hid hsc
    have hlt0 := (hown.lt g (by simp [Value.ownBlock])).2
    have hgw : w.heap.size ≤ g := Nat.le_trans hb1.size hg1
    have hdone := Lib.hid hdl
    clear hown hsc hdl
    by_cases hlt : k < n
    · obtain ⟨p, hp⟩ : ∃ p, ps[k]? = some p := ⟨_, List.getElem?_eq_getElem (by omega)⟩
      have hpb := hg.get hp
      obtain ⟨hp1, hp2, hp3, hp4⟩ := hpb
      have hdrop : ps.drop k = p :: ps.drop (k + 1) := by
        obtain ⟨hl, he⟩ := List.getElem?_eq_some_iff.1 hp
        rw [List.drop_eq_getElem_cons hl, he]
      have hcell : wr.cell? ⟨g, k * 2 + 1, none⟩ = some (.int .i64 p.2) := by
        rw [HOW.out.cellAt _ (by omega)]
        exact (ptCells_at _ k p (by rw [List.getElem?_append_right (by rw [hdone.out]; exact Nat.le_refl _), hdone.out, hdrop]; simp)).2
      have hfr : wr.frozen? ⟨g, k * 2 + 1, none⟩ = false := HOW.out.frozenAt _
      have HDR := Lib.hid hdrop
      have HP := Lib.hid hp
      clear hdrop hp
      have hm1 : 0 ≤ p.2 * dial := Int.mul_nonneg (by omega) (by omega)
      have hm2 : p.2 * dial ≤ 3600000 * 10000 := Int.mul_le_mul (by omega) d2 (by omega) (by omega)
      have hstored := Lib.hid (HOW.out.stored (k * 2 + 1) (.int .i64 ((p.2 * dial + 999) / 1000)))
      by_cases hbig : 3600000 < (p.2 * dial + 999) / 1000
      · go_wp2_with fail
        go_ret2
        have hnone : scGo dial ps = none := by rw [HSC.out, HDR.out]; simp only [scGo, if_pos hbig]; rfl
        rw [hnone] at HS
        refine ⟨⟨.slice none 0 0, by rw [HS.out]; rfl, by rw [HS.out]; exact outP_nil _⟩, K.grown hstored.out.2 K.size (fun q hq => by injection hq; omega)⟩
      · go_wp2_with fail
        go_roundw
        case rel =>
          refine ⟨k + 1, done ++ [(p.1, (p.2 * dial + 999) / 1000)], by omega, by go_num, by simp [hdone.out], K.grown hstored.out.2 K.size (fun q hq => by injection hq; omega), ?_, ?_⟩
          · have h1 := hstored.out.1
            rw [HDR.out] at h1
            have h2 := ptCells_set done (ps.drop (k + 1)) p ((p.2 * dial + 999) / 1000)
            rw [hdone.out] at h2
            rw [h2] at h1
            simpa using h1
          · rw [HSC.out, HDR.out]
            simp only [scGo, if_neg (show ¬ 3600000 < (p.2 * dial + 999) / 1000 by omega)]
            cases scGo dial (ps.drop (k + 1)) with
            | none => rfl
            | some l => simp
        case measure => simp [intOf]; omega
    · have hkn : k = n := by omega
      subst hkn
      have hdrop : ps.drop k = [] := by rw [List.drop_eq_nil_iff]; omega
      have HDR := Lib.hid hdrop
      clear hdrop
      go_wp2_with fail
      go_ret2
      have hsome : scGo dial ps = some done := by rw [HSC.out, HDR.out]; simp [scGo]
      rw [hsome] at HS
      have hfin := HOW.out
      rw [HDR.out, List.append_nil] at hfin
      refine ⟨⟨.slice (some ⟨g, 0, none⟩) k cap, by rw [HS.out]; rfl, by rw [HS.out]; exact outP_own hfin (by omega)⟩, K⟩
set_option maxHeartbeats 1000000 in
theorem scale_any (A : Option Addr) (n c : Nat) (ps : List (Int × Int)) (dial : Int) (w : World) (hr : RdP w w.heap.size A n ps) (hm : n ≤ 9223372036854775807) :
    Calls Try.prog 29 #[.slice A n c, .int .i64 dial] w fun e w' => (∃ v, e = .returned (.tuple #[v, .int .i64 (scaleC ps dial).2]) ∧ OutP w' v (scaleC ps dial).1) ∧ Below w.heap.size w w' := by
  by_cases hc : ckC ps = 0
  · have hg := ckC_good.1 hc
    by_cases h1 : outN dial 1 10000 = true
    · have HS : Hid (scaleC ps dial = ([], 4)) := Lib.hid (by unfold scaleC; rw [if_neg (by rw [hc]; simp), if_pos h1])
      have HC := Lib.hid hc
      clear hc
      go_enter Try.func29, Try.ntmps29
      go_wp2_with fail
      refine (checkC_any _ _ _ _ _ hr hm).mono ?_
      rw [HC.out]
      rintro e w1 ⟨rfl, hb1⟩
      go_wp2_with fail
      refine (outN_any _ _ _ _).mono ?_
      rintro e w' ⟨rfl, rfl⟩
      go_wp2_with fail
      go_ret2
      exact ⟨⟨.slice none 0 0, by rw [HS.out]; rfl, by rw [HS.out]; exact outP_nil _⟩, hb1⟩
    · have h1' : outN dial 1 10000 = false := by simpa using h1
      have hd : 1 ≤ dial ∧ dial ≤ 10000 := by unfold outN at h1'; simp at h1'; omega
      have hgl := hg.len
      have hlen := hr.len
      obtain ⟨b, off, rfl, _, _⟩ := hr.2 (by omega)
      exact scale_walk b off n c ps dial w hr hg hd.1 hd.2
  · have HS : Hid (scaleC ps dial = ([], ckC ps)) := Lib.hid (by unfold scaleC; rw [if_pos hc])
    have hc1 : (ckC ps != 0) = true := by simpa using hc
    clear hc
    go_enter Try.func29, Try.ntmps29
    go_wp2_with fail
    refine (checkC_any _ _ _ _ _ hr hm).mono ?_
    rintro e w1 ⟨rfl, hb1⟩
    go_wp2_with fail
    go_ret2
    exact ⟨⟨.slice none 0 0, by rw [HS.out]; rfl, by rw [HS.out]; exact outP_nil _⟩, hb1⟩

end Go.Proofs.Ythedpegaelpbdaa
