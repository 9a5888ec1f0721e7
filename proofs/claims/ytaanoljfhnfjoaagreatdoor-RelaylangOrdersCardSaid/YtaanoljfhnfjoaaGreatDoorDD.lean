/- The check of a program. -/
import Derived.Test.YtaanoljfhnfjoaaGreatDoorDC
import Derived.Test.YtaanoljfhnfjoaaGreatDoorRL2
namespace Go.Proofs.YtaanoljfhnfjoaaGreatDoor
open Go.ChangeShapes Go.WideShapes Go.ChangeAt Go.RowKit
set_option linter.unusedVariables false
set_option linter.unusedSimpArgs false
attribute [local go_sem ↓] execOp_call_val
attribute [local go_sem] callVal_func setCell_drewN alloc_drewN sEq_walk


theorem bcellW {W w1 : World} (hb : Below W.heap.size W w1) : (∀ b o, b < W.heap.size → w1.cell? ⟨b, o, none⟩ = W.cell? ⟨b, o, none⟩) ∧ (∀ b o, b < W.heap.size → w1.frozen? ⟨b, o, none⟩ = W.frozen? ⟨b, o, none⟩) :=
  ⟨fun b o h => hb.cell (p := ⟨b, o, none⟩) h, fun b o h => hb.frozen (p := ⟨b, o, none⟩) h⟩
theorem rls_take (hs : List Rh) (k : Nat) : rls (hs.take k) = (rls hs).take k := by unfold rls; rw [List.map_take]
theorem mem_cmpS {l : List ByteArray} {s : ByteArray} : s ∈ cmpS l ↔ s ∈ l := by
  have key : ∀ (d : Array (List UInt8)) (m : Nat), m ≤ d.size → ∀ x, x ∈ Lib.compactUpTo d m ↔ ∃ j, j < m ∧ d[j]! = x := by
    intro d m
    induction m with
    | zero => intro _ x; simp [Lib.compactUpTo]
    | succ m ih =>
      intro hm x
      rw [Lib.compactUpTo_succ, List.mem_append, ih (by omega)]
      constructor
      · rintro (⟨j, h1, h2⟩ | h)
        · exact ⟨j, by omega, h2⟩
        · by_cases hk : Lib.keeps d m = true
          · rw [if_pos hk] at h
            exact ⟨m, by omega, (List.mem_singleton.1 h).symm⟩
          · rw [if_neg hk] at h; simp at h
      · rintro ⟨j, h1, h2⟩
        by_cases hj : j = m
        · subst hj
          by_cases hk : Lib.keeps d j = true
          · right; rw [if_pos hk, ← h2]; simp
          · left
            unfold Lib.keeps at hk
            have hk2 : ¬ (j = 0 ∨ d[j]! ≠ d[j - 1]!) := by simpa using hk
            have h0 : j ≠ 0 := fun h => hk2 (.inl h)
            have he : d[j]! = d[j - 1]! := by
              rcases Classical.em (d[j]! = d[j - 1]!) with h | h
              · exact h
              · exact absurd (.inr h) hk2
            exact ⟨j - 1, by omega, by rw [← he]; exact h2⟩
        · exact .inl ⟨j, by omega, h2⟩
  unfold cmpS Lib.compact
  rw [List.mem_map]
  constructor
  · rintro ⟨x, hx, rfl⟩
    obtain ⟨j, h1, h2⟩ := (key _ _ (by simp) x).1 hx
    rw [getElem!_pos _ j (by simpa using h1)] at h2
    have hm : x ∈ l.map bys := by rw [← h2, List.getElem_toArray]; exact List.getElem_mem _
    obtain ⟨y, hy, rfl⟩ := List.mem_map.1 hm
    rw [mkS_bys]; exact hy
  · intro h
    obtain ⟨j, hj⟩ := List.mem_iff_getElem?.1 h
    have hjl := (List.getElem?_eq_some_iff.1 hj).1
    refine ⟨bys s, (key _ _ (by simp) _).2 ⟨j, by simpa using hjl, ?_⟩, mkS_bys s⟩
    rw [getElem!_pos _ j (by simpa using hjl)]
    simp [(List.getElem?_eq_some_iff.1 hj).2]
theorem mem_srtS {l : List ByteArray} {s : ByteArray} : s ∈ srtS l ↔ s ∈ l := by
  unfold srtS
  rw [List.mem_map]
  constructor
  · rintro ⟨x, hx, rfl⟩
    rw [List.mem_mergeSort] at hx
    obtain ⟨y, hy, rfl⟩ := List.mem_map.1 hx
    rw [mkS_bys]; exact hy
  · intro h
    exact ⟨bys s, by rw [List.mem_mergeSort]; exact List.mem_map.2 ⟨s, h, rfl⟩, mkS_bys s⟩
theorem any_mem {α : Type} {l l' : List α} {p q : α → Bool} (h : ∀ x, x ∈ l ↔ x ∈ l') (hp : ∀ x, p x = q x) : l.any p = l'.any q := by
  rw [Bool.eq_iff_iff, List.any_eq_true, List.any_eq_true]
  exact ⟨fun ⟨x, h1, h2⟩ => ⟨x, (h x).1 h1, by rw [← hp]; exact h2⟩, fun ⟨x, h1, h2⟩ => ⟨x, (h x).2 h1, by rw [hp]; exact h2⟩⟩
def clashG (F : List ByteArray) (p : List Rl) (s : ByteArray) : Bool := hasS F s || decide (0 ≤ ruleR p s)
theorem clash_eq (p : List Rl) : (cmpS (srtS (namesV p))).any (clashG (cmpS (srtS (namesF p))) p) = (namesV p).any (clashB p) :=
  any_mem (fun x => mem_cmpS.trans mem_srtS) fun s => by
    unfold clashG clashB
    congr 1
    unfold hasS
    exact any_mem (fun x => mem_cmpS.trans mem_srtS) fun _ => rfl
/-- names no longer than strings can be -/
def Rl.Fit (r : Rl) : Prop := r.name.size ≤ maxLen ∧ ∀ x ∈ r.expr, x.name.size ≤ maxLen
theorem clashG_ff {F : List ByteArray} {p : List Rl} {s : ByteArray} (h1 : hasS F s = false) (h2 : ¬ 0 ≤ ruleR p s) : clashG F p s = false := by unfold clashG; rw [h1, decide_eq_false h2]; rfl
theorem wfE_of {l : List Nd} (h : endR l 0 = (l.length : Int)) : WfE l := fun a ha => sub_at h ha
theorem rules_wf {hs : List Rh} (h : ckRules (rls hs) (rls hs) 0 = 0) : ∀ z ∈ hs, z.r.expr.length ≤ 64 ∧ WfE z.r.expr := fun z hz => by
  obtain ⟨i, hi⟩ := List.mem_iff_getElem?.1 hz
  have := ckRule_ok (ckRules_ok (rls hs) h i z.r (by unfold rls; rw [List.getElem?_map, hi]; rfl))
  exact ⟨this.len, wfE_of this.form⟩
theorem ckRules_no {p : List Rl} {t : List Rl} {r : Rl} {k : Nat} (h : ckRule (p.take k) r ≠ 0) : ckRules p (r :: t) k = ckRule (p.take k) r := by show (if _ then _ else _) = _; rw [if_pos h]
theorem ckRules_yes {p : List Rl} {t : List Rl} {r : Rl} {k : Nat} (h : ckRule (p.take k) r = 0) : ckRules p (r :: t) k = ckRules p t (k + 1) := by show (if _ then _ else _) = _; rw [if_neg (by simpa using h)]
theorem ckR_rules {p : List Rl} (h1 : ¬ 16 < p.length) (h2 : ckRules p p 0 ≠ 0) : ckR p = ckRules p p 0 := by unfold ckR; rw [if_neg h1, if_pos h2]
theorem ckR_names {p : List Rl} (h1 : ¬ 16 < p.length) (h2 : ckRules p p 0 = 0) : ckR p = if (namesV p).any (clashB p) then 3 else if orderR p = none then 11 else 0 := by unfold ckR; rw [if_neg h1, if_neg (by simpa using h2)]

set_option maxRecDepth 100000 in
set_option maxHeartbeats 8000000 in
theorem rcheck_any (A : Option Addr) (n c : Nat) (hs : List Rh) (w : World) (hR : RdRh w w.heap.size A n hs) (hn : n ≤ c) (hc : c ≤ maxLen) (hf : ∀ z ∈ hs, z.r.Fit) :
    Calls Tryz.prog 9 #[.slice A n c] w fun e w' => e = .returned (.int .i64 (ckR (rls hs))) ∧ Below w.heap.size w w' := by
  have HLEN := Lib.hid hR.len
  have HR := Lib.hid hR
  have HF := Lib.hid hf
  have HPL : Hid ((rls hs).length = n) := Lib.hid (by unfold rls; rw [List.length_map]; exact hR.len)
  unfold maxLen at hc
  clear hR hf
  by_cases h16 : 16 < n
  · have HE : Hid (ckR (rls hs) = 2) := Lib.hid (by unfold ckR; rw [if_pos (by rw [HPL.out]; exact h16)])
    go_enter Tryz.func9, Tryz.ntmps9
    go_wp2_with fail
    go_ret
    exact ⟨ret_int HE.out.symm, Below.refl _ _⟩
  have HRR : Hid (ckRules (rls hs) (rls hs) 0 ≠ 0 → ckR (rls hs) = ckRules (rls hs) (rls hs) 0) := Lib.hid (ckR_rules (by rw [HPL.out]; exact h16))
  have HRN : Hid (ckRules (rls hs) (rls hs) 0 = 0 → ckR (rls hs) = if (namesV (rls hs)).any (clashB (rls hs)) then 3 else if orderR (rls hs) = none then 11 else 0) := Lib.hid (ckR_names (by rw [HPL.out]; exact h16))
  go_enter Tryz.func9, Tryz.ntmps9
  go_wp2_with fail
  go_loopw [19] (fun i wr => ∃ k : Nat, k ≤ n ∧ i = .int .i64 k ∧ Below w.heap.size w wr ∧ ckRules (rls hs) (rls hs) 0 = ckRules (rls hs) ((rls hs).drop k) k) (fun i _ => n - (intOf i).toNat)
  case atStart => exact ⟨0, by omega, rfl, Below.refl _ _, rfl⟩
  case round =>
    obtain ⟨k, hk, rfl, hb, hg⟩ := hrel
    have HB := Lib.hid hb
    have HG := Lib.hid hg
    have hrd := HR.out.up hb
    clear hb hg
    by_cases hlt : k < n
    · obtain ⟨z, hz⟩ : ∃ z, hs[k]? = some z := ⟨_, List.getElem?_eq_getElem (by have := HLEN.out; omega)⟩
      obtain ⟨b, off, rfl, hblt⟩ := hrd.form (by omega)
      obtain ⟨c0, c1⟩ := hrd.at_ hz
      have hzr : (rls hs)[k]? = some z.r := by unfold rls; rw [List.getElem?_map, hz]; rfl
      have HD := Lib.hid (drop_cons hzr)
      have HFZ := Lib.hid (HF.out z (List.mem_of_getElem? hz))
      have HZZ := Lib.hid (HR.out.zs z (List.mem_of_getElem? hz))
      have hW : Below wr.heap.size wr (wr.alloc (.cells #[.string z.r.name, .slice z.A z.n z.c] 39)) := (Below.refl _ _).alloc (Nat.le_refl _) _
      have HBX0 : Hid (Blk (wr.alloc (.cells #[.string z.r.name, .slice z.A z.n z.c] 39)) wr.heap.size 39 #[.string z.r.name, .slice z.A z.n z.c]) := Lib.hid (Blk.new _ _ _)
      have HB0 := Lib.hid (HB.out.trans (hW.mono HB.out.size))
      have HCR : Hid (ckRules (rls hs) (rls hs) 0 = ckRules (rls hs) (z.r :: (rls hs).drop (k + 1)) k) := Lib.hid (by rw [HG.out, HD.out])
      clear hz hrd hzr hW HG HD
      obtain ⟨rb, hrb⟩ : ∃ rb, rb = wr.heap.size := ⟨_, rfl⟩
      go_wp2_with fail
      refine (rname_any z.r.name _ HFZ.out.1).mono ?_
      cases hnm : rnameB z.r.name with
      | false =>
        have HE : Hid (ckR (rls hs) = 6) := Lib.hid (by
          have h1 : ckRule ((rls hs).take k) z.r = 6 := by unfold ckRule; rw [if_pos hnm]
          have h2 : ckRules (rls hs) (rls hs) 0 = 6 := by rw [HCR.out, ckRules_no (by rw [h1]; omega), h1]
          rw [HRR.out (by rw [h2]; omega), h2])
        clear hnm
        rintro e w1 ⟨rfl, k1⟩
        have HB1 := Lib.hid (HB0.out.trans (k1.mono HB0.out.size))
        clear k1
        go_wp2_with fail
        go_ret
        exact ⟨ret_int HE.out.symm, HB1.out⟩
      | true =>
        have HNM := Lib.hid hnm
        clear hnm
        rintro e w1 ⟨rfl, k1⟩
        have HB1 := Lib.hid (HB0.out.trans (k1.mono HB0.out.size))
        have hbx := HBX0.out.below k1 HBX0.out.lt
        rw [← hrb] at hbx
        have HBX := Lib.hid hbx
        obtain ⟨x0, x1, xf, xl⟩ := Rh.box hbx
        have HRT : Hid (RdRh w1 w1.heap.size (some ⟨b, off, none⟩) k (hs.take k)) := Lib.hid ((HR.out.up HB1.out).take hk)
        clear k1 hbx c0 c1 HBX0 HB0
        rw [← hrb]
        clear hrb
        have HB4 := Lib.hid (below_drew (Below.refl w1.heap.size w1))
        go_upto_region 8 with fail
        have hkc : k ≤ c := by omega
        refine wp_region_last (S := fun w' => Below w1.heap.size w1 w') 7 _ (by kernel_rfl) (by kernel_rfl) rfl (below_drew (Below.refl _ _)) (fun hHeld => ?_)
        simp only [List.take_succ_cons, List.take_zero]
        refine takeH 0 (v := ?_) rfl (by kernel_rfl) (fun _ _ _ h => h) (by rfl) ?_ hHeld ?_
        rotate_left 1
        · intro w' hSw; obtain ⟨hcc, -⟩ := bcellW hSw; go_simp <;> with_reducible rfl
        try simp only [Act.put, List.setIfInBounds_toArray, List.set_cons_zero, List.set_cons_succ]
        refine takeH 1 (v := ?_) rfl (by kernel_rfl) (fun _ _ _ h => h) (by rfl) ?_ hHeld ?_
        rotate_left 1
        · intro w' hSw; obtain ⟨hcc, -⟩ := bcellW hSw; go_simp <;> with_reducible rfl
        try simp only [Act.put, List.setIfInBounds_toArray, List.set_cons_zero, List.set_cons_succ]
        refine takeH 2 (v := ?_) rfl (by kernel_rfl) (fun _ _ _ h => h) (by rfl) ?_ hHeld ?_
        rotate_left 1
        · intro w' hSw; obtain ⟨hcc, -⟩ := bcellW hSw; go_simp <;> with_reducible rfl
        try simp only [Act.put, List.setIfInBounds_toArray, List.set_cons_zero, List.set_cons_succ]
        refine takeH 3 (v := ?_) rfl (by kernel_rfl) (fun _ _ _ h => h) (by rfl) ?_ hHeld ?_
        rotate_left 1
        · intro w' hSw; obtain ⟨hcc, -⟩ := bcellW hSw; go_simp <;> with_reducible rfl
        try simp only [Act.put, List.setIfInBounds_toArray, List.set_cons_zero, List.set_cons_succ]
        refine takeH 4 (v := ?_) rfl (by kernel_rfl) (fun _ _ _ h => h) (by rfl) ?_ hHeld ?_
        rotate_left 1
        · intro w' hSw; obtain ⟨hcc, -⟩ := bcellW hSw; go_simp <;> with_reducible rfl
        try simp only [Act.put, List.setIfInBounds_toArray, List.set_cons_zero, List.set_cons_succ]
        refine stepH 5 (by kernel_rfl) rfl (fun K hK => ?_)
        go_simp
        refine (rule_any (some ⟨b, off, none⟩) k c (hs.take k) z.r.name _ (HRT.out.up HB4.out) (by omega)).mono ?_
        rw [rls_take]
        rintro e w2 ⟨rfl, k2⟩
        have HB8 := Lib.hid (HB4.out.trans (k2.mono HB4.out.size))
        clear k2
        go_simp
        refine hK.out _ _ ?_ (fun hHeld => ?_)
        · exact HB8.out
        clear hK K
        try simp only [Act.put, List.setIfInBounds_toArray, List.set_cons_zero, List.set_cons_succ]
        refine takeH 6 (v := ?_) rfl (by kernel_rfl) (fun _ _ _ h => h) (by rfl) ?_ hHeld ?_
        rotate_left 1
        · intro w' hSw; obtain ⟨hcc, -⟩ := bcellW hSw; go_simp <;> with_reducible rfl
        try simp only [Act.put, List.setIfInBounds_toArray, List.set_cons_zero, List.set_cons_succ]
        refine wpAnyH_done (by kernel_rfl) ?_ _
        refine lastQ_go (by rfl) ?_
        clear hHeld
        have HB2 := Lib.hid (HB1.out.trans (HB8.out.mono HB1.out.size))
        have hbx := HBX.out.below HB8.out HBX.out.lt
        clear x0 x1 xf xl HBX HRT HB4 HB8 HB1
        have HBX := Lib.hid hbx
        obtain ⟨x0, x1, xf, xl⟩ := Rh.box hbx
        clear hbx
        generalize hrr : ruleR ((rls hs).take k) z.r.name = rr
        by_cases hr0 : 0 ≤ rr
        · have HE : Hid (ckR (rls hs) = 7) := Lib.hid (by
            have h1 : ckRule ((rls hs).take k) z.r = 7 := by unfold ckRule; rw [if_neg (by rw [HNM.out]; simp), if_pos (by rw [hrr]; exact hr0)]
            have h2 : ckRules (rls hs) (rls hs) 0 = 7 := by rw [HCR.out, ckRules_no (by rw [h1]; omega), h1]
            rw [HRR.out (by rw [h2]; omega), h2])
          clear hrr
          go_wp2_with fail
          go_ret
          exact ⟨ret_int HE.out.symm, HB2.out⟩
        have HNR : Hid (¬ 0 ≤ ruleR ((rls hs).take k) z.r.name) := Lib.hid (by rw [hrr]; exact hr0)
        clear hrr
        have hzl : z.r.expr.length = z.n := HZZ.out.1.1
        have HZL := Lib.hid hzl
        by_cases h64 : 64 < z.n
        · have HE : Hid (ckR (rls hs) = 2) := Lib.hid (by
            have h1 : ckRule ((rls hs).take k) z.r = 2 := by unfold ckRule; rw [if_neg (by rw [HNM.out]; simp), if_neg (by have := HNR.out; omega), if_pos (by omega)]
            have h2 : ckRules (rls hs) (rls hs) 0 = 2 := by rw [HCR.out, ckRules_no (by rw [h1]; omega), h1]
            rw [HRR.out (by rw [h2]; omega), h2])
          clear hzl
          go_wp2_with fail
          go_ret
          exact ⟨ret_int HE.out.symm, HB2.out⟩
        clear hzl
        go_wp2_with fail
        have HN0 : Hid (ckNodes z.r.expr = ckNodes (z.r.expr.drop 0)) := Lib.hid rfl
        obtain ⟨wo, hwo⟩ : ∃ wo, wo = w2 := ⟨_, rfl⟩
        subst hwo
        go_loopw [45] (fun i wr => ∃ j : Nat, j ≤ z.n ∧ i = .int .i64 j ∧ Below wo.heap.size wo wr ∧ ckNodes z.r.expr = ckNodes (z.r.expr.drop j)) (fun i _ => z.n - (intOf i).toNat)
        case atStart => exact ⟨0, by omega, rfl, Below.refl _ _, HN0.out⟩
        case round =>
          clear x0 x1 xf HN0
          obtain ⟨j, hj, rfl, hb, hnd⟩ := hrel
          have HB3 := Lib.hid (HB2.out.trans (hb.mono HB2.out.size))
          have HBO := Lib.hid hb
          have HND := Lib.hid hnd
          clear hb hnd
          by_cases hjl : j < z.n
          · obtain ⟨x, hx⟩ : ∃ x, z.r.expr[j]? = some x := ⟨_, List.getElem?_eq_getElem (by rw [HZL.out]; exact hjl)⟩
            have hrn := (HZZ.out.1.below HB3.out (Nat.le_refl _)).more HB3.out.size
            obtain ⟨b2, off2, hA, hblt2⟩ := hrn.form (by omega)
            rw [hA] at hrn
            obtain ⟨d0, d1, d2⟩ := hrn.at_ hx
            have HDC := Lib.hid (drop_cons hx)
            have HFX := Lib.hid (HFZ.out.2 x (List.mem_of_getElem? hx))
            have hW : Below wr.heap.size wr (wr.alloc (.cells #[.int .i64 x.op, .string x.name, .int .i64 x.value] 41)) := (Below.refl _ _).alloc (Nat.le_refl _) _
            have HW := Lib.hid hW
            rw [hA]
            clear hx hrn hA hW
            go_wp2_with fail
            refine (node_any x HFX.out _).mono ?_
            rintro e w4 ⟨rfl, k4⟩
            have HB4 := Lib.hid ((HBO.out.trans (HW.out.mono HBO.out.size)).trans (k4.mono (HBO.out.trans (HW.out.mono HBO.out.size)).size))
            clear k4 d0 d1 d2
            generalize hnc : nodeCk x = nc
            by_cases hn0 : nc = 0
            · subst hn0
              have HE : Hid (ckNodes z.r.expr = ckNodes (z.r.expr.drop (j + 1))) := Lib.hid (by
                rw [HND.out, HDC.out]
                show (if nodeCk x ≠ 0 then nodeCk x else ckNodes (z.r.expr.drop (j + 1))) = _
                rw [if_neg (by rw [hnc]; simp)])
              clear hnc
              go_wp2_with fail
              go_roundw
              case rel => exact ⟨j + 1, hjl, by go_num, HB4.out, HE.out⟩
              case measure => simp [intOf]; omega
            · have hn0b : (nc != 0) = true := by simpa using hn0
              have hne : ckNodes z.r.expr = nc := by
                rw [HND.out, HDC.out]
                show (if nodeCk x ≠ 0 then nodeCk x else ckNodes (z.r.expr.drop (j + 1))) = _
                rw [if_pos (by rw [hnc]; exact hn0), hnc]
              have HE : Hid (ckR (rls hs) = nc) := Lib.hid (by
                have h1 : ckRule ((rls hs).take k) z.r = nc := by unfold ckRule; rw [if_neg (by rw [HNM.out]; simp), if_neg (by have := HNR.out; omega), if_neg (by have := HZL.out; omega), if_pos (by rw [hne]; exact hn0), hne]
                have h2 : ckRules (rls hs) (rls hs) 0 = nc := by rw [HCR.out, ckRules_no (by rw [h1]; exact hn0), h1]
                rw [HRR.out (by rw [h2]; exact hn0), h2])
              have HB5 := Lib.hid (HB2.out.trans (HB4.out.mono HB2.out.size))
              clear hnc hne hn0
              go_wp2_with fail
              go_ret
              exact ⟨ret_int HE.out.symm, HB5.out⟩
          · have hd : z.r.expr.drop j = [] := by rw [List.drop_eq_nil_iff, HZL.out]; omega
            have HNO : Hid (ckNodes z.r.expr = 0) := Lib.hid (by rw [HND.out, hd]; rfl)
            clear hd HND
            have HRN3 : Hid (RdNd wr wr.heap.size z.A z.n z.r.expr) := Lib.hid ((HZZ.out.1.below HB3.out (Nat.le_refl _)).more HB3.out.size)
            have hbx := HBX.out.below HBO.out HBX.out.lt
            have HBX3 := Lib.hid hbx
            obtain ⟨x0, x1, xf, xl3⟩ := Rh.box hbx
            clear hbx
            obtain ⟨E, hE⟩ : ∃ E, E = endR z.r.expr 0 := ⟨_, rfl⟩
            have HEN := Lib.hid hE
            have HCE : Hid (∀ N, Calls Tryz.prog 22 #[.slice z.A z.n z.c, .int .i64 0] (wr.drewN N) fun e w' => e = .returned (.int .i64 E) ∧ w' = wr.drewN N) := Lib.hid fun N => (end_any z.A z.n z.c z.r.expr 0 (wr.drewN N) HRN3.out (by omega) (by omega)).mono fun e w' ⟨he, hw⟩ => ⟨by rw [he, hE], hw.symm⟩
            clear hE
            go_upto_region 19 with fail
            go_quiet ((go_at_call 22; exact (HCE.out _).mono (fun _ _ hh => ⟨hh.1, _, hh.2⟩)))
            have HB6 : Hid (Below w.heap.size w (wr.drewN nq)) := Lib.hid (below_drewN HB3.out nq)
            clear HCE x0 x1 xf xl3 xl
            generalize wr.drewN nq = wd at *
            by_cases hee : E = (z.n : Int)
            · have hneb : (E != (z.n : Int)) = false := by simp [hee]
              have HE : Hid (ckRules (rls hs) (rls hs) 0 = ckRules (rls hs) ((rls hs).drop (k + 1)) (k + 1)) := Lib.hid (by
                rw [HCR.out, ckRules_yes]
                unfold ckRule
                rw [if_neg (by rw [HNM.out]; simp), if_neg (by have := HNR.out; omega), if_neg (by have := HZL.out; omega), if_neg (by rw [HNO.out]; simp), if_neg (by rw [← HEN.out, hee, HZL.out]; simp)])
              clear hee
              go_wp2_with fail
              go_roundw
              case rel => exact ⟨k + 1, hlt, by go_num, HB6.out, HE.out⟩
              case measure => simp [intOf]; omega
            · have hneb : (E != (z.n : Int)) = true := by simpa using hee
              have HE : Hid (ckR (rls hs) = 3) := Lib.hid (by
                have h1 : ckRule ((rls hs).take k) z.r = 3 := by unfold ckRule; rw [if_neg (by rw [HNM.out]; simp), if_neg (by have := HNR.out; omega), if_neg (by have := HZL.out; omega), if_neg (by rw [HNO.out]; simp), if_pos (by rw [← HEN.out, HZL.out]; exact hee)]
                have h2 : ckRules (rls hs) (rls hs) 0 = 3 := by rw [HCR.out, ckRules_no (by rw [h1]; omega), h1]
                rw [HRR.out (by rw [h2]; omega), h2])
              clear hee
              go_wp2_with fail
              go_ret
              exact ⟨ret_int HE.out.symm, HB6.out⟩
    · have hd : (rls hs).drop k = [] := by rw [List.drop_eq_nil_iff, HPL.out]; omega
      have hok : ckRules (rls hs) (rls hs) 0 = 0 := by rw [HG.out, hd]; rfl
      have HWF := Lib.hid (rules_wf hok)
      have HCK := Lib.hid (HRN.out hok)
      have hn16 : n ≤ 16 := by omega
      clear hd hok hrd
      go_wp2_with fail
      refine (names_any A n c hs wr (HR.out.up HB.out) hn16 (fun z hz => (HWF.out z hz).1)).mono ?_
      rintro e w1 ⟨vF, vV, rfl, ht⟩
      have hcl := clash_eq (rls hs)
      obtain ⟨FA, fc, rfl, hfr, hfc, hfm, _⟩ := own_rd ht.f
      obtain ⟨VA, vc, rfl, hvr, hvc, hvm, _⟩ := own_rd ht.v
      have hb1 := HB.out.trans (ht.low.mono HB.out.size)
      have HB1 := Lib.hid hb1
      generalize cmpS (srtS (namesF (rls hs))) = F at *
      generalize cmpS (srtS (namesV (rls hs))) = V at *
      have HFR := Lib.hid (show RdStr w1 w1.heap.size FA F.length F from ⟨rfl, hfr⟩)
      have HVR := Lib.hid (show RdStr w1 w1.heap.size VA V.length V from ⟨rfl, hvr⟩)
      have HCL : Hid (ckR (rls hs) = if V.any (clashG F (rls hs)) then 3 else if orderR (rls hs) = none then 11 else 0) := Lib.hid (by rw [HCK.out, hcl])
      have hfl : F.length ≤ 9223372036854775807 := by simp only [maxLen] at hfm; omega
      have hvl : V.length ≤ 9223372036854775807 := by simp only [maxLen] at hvm; omega
      obtain ⟨nf, hnf⟩ : ∃ nf, nf = F.length := ⟨_, rfl⟩
      obtain ⟨nv, hnv⟩ : ∃ nv, nv = V.length := ⟨_, rfl⟩
      rw [← hnf] at hfl ⊢
      rw [← hnv] at hvl ⊢
      have HFR2 : Hid (RdStr w1 w1.heap.size FA nf F) := Lib.hid (by rw [hnf]; exact HFR.out)
      have HVR2 : Hid (RdStr w1 w1.heap.size VA nv V) := Lib.hid (by rw [hnv]; exact HVR.out)
      have HNV := Lib.hid hnv
      clear hcl hfr hfc hfm hvr hvc hvm hb1 ht HFR HVR hnf hnv HRN HRR HG HCK
      go_wp2_with fail
      go_loopw [70] (fun i wr => ∃ j : Nat, j ≤ nv ∧ i = .int .i64 j ∧ Below w1.heap.size w1 wr ∧ V.any (clashG F (rls hs)) = (V.drop j).any (clashG F (rls hs))) (fun i _ => nv - (intOf i).toNat)
      case atStart => exact ⟨0, by omega, rfl, Below.refl _ _, rfl⟩
      case round =>
        obtain ⟨j, hj, rfl, hb, hv⟩ := hrel
        have HBO := Lib.hid hb
        have HV := Lib.hid hv
        have HBW := Lib.hid (HB1.out.trans (hb.mono HB1.out.size))
        clear hb hv
        by_cases hjl : j < nv
        · obtain ⟨s, hs2⟩ : ∃ s, V[j]? = some s := ⟨_, List.getElem?_eq_getElem (by have := HNV.out; omega)⟩
          have hrs := HVR2.out.up HBO.out
          obtain ⟨b2, off2, hA, hblt2⟩ := hrs.form (by omega)
          rw [hA] at hrs
          have d0 := hrs.at_ hs2
          have HDC := Lib.hid (drop_cons hs2)
          rw [hA]
          clear hs2 hrs hA
          go_wp2_with fail
          refine (contains_str FA nf fc F s wr (HFR2.out.up HBO.out) hfl).mono ?_
          rw [show (F.any fun x => sEq s x) = hasS F s from rfl]
          cases hh : hasS F s with
          | true =>
            have HE : Hid (ckR (rls hs) = 3) := Lib.hid (by rw [HCL.out, HV.out, HDC.out, List.any_cons]; unfold clashG; rw [hh]; rfl)
            clear hh
            rintro e w2 ⟨rfl, rfl⟩
            go_wp2_with fail
            go_ret
            exact ⟨ret_int HE.out.symm, HBW.out⟩
          | false =>
            have HHH := Lib.hid hh
            clear hh
            rintro e w2 ⟨rfl, rfl⟩
            go_wp2_with fail
            refine (rule_any A n c hs s wr (HR.out.up HBW.out) (by omega)).mono ?_
            rintro e w2 ⟨rfl, k2⟩
            have HB2 := Lib.hid (HBW.out.trans (k2.mono HBW.out.size))
            have HBO2 := Lib.hid (HBO.out.trans (k2.mono HBO.out.size))
            clear k2 d0
            generalize hrr : ruleR (rls hs) s = rr
            by_cases hr0 : 0 ≤ rr
            · have HE : Hid (ckR (rls hs) = 3) := Lib.hid (by rw [HCL.out, HV.out, HDC.out, List.any_cons]; unfold clashG; rw [HHH.out, hrr, decide_eq_true hr0]; rfl)
              clear hrr
              go_wp2_with fail
              go_ret
              exact ⟨ret_int HE.out.symm, HB2.out⟩
            · have HE : Hid (V.any (clashG F (rls hs)) = (V.drop (j + 1)).any (clashG F (rls hs))) := Lib.hid (by rw [HV.out, HDC.out, List.any_cons, clashG_ff HHH.out (by rw [hrr]; exact hr0), Bool.false_or])
              clear hrr
              go_wp2_with fail
              go_roundw
              case rel => exact ⟨j + 1, hjl, by go_num, HBO2.out, HE.out⟩
              case measure => simp [intOf]; omega
        · have hd : V.drop j = [] := by rw [List.drop_eq_nil_iff]; have := HNV.out; omega
          have HE0 : Hid (ckR (rls hs) = if orderR (rls hs) = none then 11 else 0) := Lib.hid (by rw [HCL.out, HV.out, hd]; rfl)
          clear hd HCL HV
          go_wp2_with fail
          refine (order_any A n c hs wr (HR.out.up HBW.out) hn16 HWF.out).mono ?_
          rintro e w2 ⟨k2, ⟨ho, rfl⟩ | ⟨l, v, ho, rfl, _⟩⟩
          · have HE : Hid (ckR (rls hs) = 11) := Lib.hid (by rw [HE0.out, if_pos ho])
            have HB2 := Lib.hid (HBW.out.trans (k2.mono HBW.out.size))
            clear ho k2
            go_wp2_with fail
            go_ret
            exact ⟨ret_int HE.out.symm, HB2.out⟩
          · have HE : Hid (ckR (rls hs) = 0) := Lib.hid (by rw [HE0.out, if_neg (by rw [ho]; simp)])
            have HB2 := Lib.hid (HBW.out.trans (k2.mono HBW.out.size))
            clear ho k2
            go_wp2_with fail
            go_ret
            exact ⟨ret_int HE.out.symm, HB2.out⟩
end Go.Proofs.YtaanoljfhnfjoaaGreatDoor
