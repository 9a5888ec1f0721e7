/- RelayLogic. -/
import Derived.Test.YtodnjjlhklbniaaDRn
import Derived.Test.YtodnjjlhklbniaaDV
import Derived.Test.YtodnjjlhklbniaaDG
namespace Go.Proofs.Ytodnjjlhklbniaa
open Go.ChangeShapes Go.WideShapes Go.ChangeAt Go.RowKit
set_option linter.unusedVariables false
set_option linter.unusedSimpArgs false
attribute [local go_sem ↓] execOp_call_val
attribute [local go_sem] callVal_func setCell_drewN alloc_drewN sEq_walk


theorem rdSl_lit {w : World} {B g T n : Nat} {l : List Sl} (hl : l.length = n) (h : Blk w g T (l.flatMap Sl.cells).toArray) (hg : g < B) (hz : ∀ z ∈ l, RdStr w B z.A z.n z.ss ∧ z.n ≤ 9223372036854775807) : RdSl w B (some ⟨g, 0, none⟩) n l :=
  ⟨hl, ⟨by rw [flat_len Sl.len, hl], fun _ => ⟨g, 0, rfl, hg, fun j u hu => by rw [Nat.zero_add, h.cell j]; simpa using hu⟩⟩, hz⟩
/-- the first and the third step answer alike -/
theorem logic_law {p : List Rl} {ms : Int} {fl : List ByteArray} (h : runE p ms [fl, [], fl] = 0) (hp : ∀ r ∈ p, ∀ x ∈ r.expr, x.op ≠ 6 ∧ x.op ≠ 7) : ∃ a b : List ByteArray, runO p ms [fl, [], fl] = [a, b, a] := by
  have h0 : ckR p = 0 := (Classical.em (ckR p = 0)).elim id fun hn => by
    unfold runE at h
    rw [if_pos hn] at h
    exact h
  have hok := ckR_ok h0
  obtain ⟨o, ho⟩ := hok.ord
  have hpure : ∀ r ∈ p, Pure r.expr := fun r hr x hx => by
    obtain ⟨i, hi⟩ := List.mem_iff_getElem?.1 hr
    obtain ⟨h1, h2⟩ := hp r hr x hx
    obtain ⟨h3, h4⟩ := nodeCk_op ((hok.rule i r hi).nodes x hx)
    exact ⟨h1, h2, h3, h4⟩
  unfold runO
  rw [ho]
  simp only [runR]
  have l0 : (List.replicate p.length false).length = p.length := List.length_replicate
  have l1 := (step_same ho hpure fl [] ms (List.replicate p.length false) (List.replicate p.length false) (fun _ _ => (false, 0)) (fun _ _ => (false, 0)) l0 l0).2.1
  have l2 := (step_same ho hpure [] [] ms _ _ (stepR ⟨p, List.replicate p.length false, fl, [], ms⟩ o (fun _ _ => (false, 0))).kept (fun _ _ => (false, 0)) l1 l0).2.1
  exact ⟨_, _, by rw [(step_same ho hpure fl [] ms _ _ _ _ l2 l0).2.2]⟩
set_option maxRecDepth 100000 in
set_option maxHeartbeats 8000000 in
theorem logic_any (A : Option Addr) (n c : Nat) (hs : List Rh) (ms : Int) (B : Option Addr) (m d : Nat) (fl : List ByteArray) (w : World) (hR : RdRh w w.heap.size A n hs) (hn : n ≤ c) (hc : c ≤ maxLen) (hnil : A = none → c = 0) (hf : ∀ z ∈ hs, z.r.Fit)
    (hL : RdStr w w.heap.size B m fl) (hm : m ≤ d) (hd : d ≤ maxLen) :
    Calls Try.prog 5 #[.slice A n c, .int .i64 ms, .slice B m d] w fun e w' => e = .returned (.bool true) ∧ Below w.heap.size w w' := by
  have HR := Lib.hid hR
  have HLEN := Lib.hid hR.len
  have HL := Lib.hid hL
  have HF := Lib.hid hf
  have HC := Lib.hid hc
  have HN := Lib.hid hnil
  unfold maxLen at hd
  have hnb : n ≤ 9223372036854775807 := by unfold maxLen at hc; omega
  clear hR hL hf hc hnil
  go_enter Try.func5, Try.ntmps5
  go_wp2_with fail
  refine (rworks_any _).mono ?_
  rintro e w1 ⟨rfl, k1⟩
  have HB1 := Lib.hid k1
  clear k1
  go_wp2_with fail
  go_loopw [17] (fun i wr => ∃ k : Nat, k ≤ n ∧ i = .int .i64 k ∧ Below w.heap.size w wr ∧ ∀ z ∈ hs.take k, ∀ x ∈ z.r.expr, x.op ≠ 6 ∧ x.op ≠ 7) (fun i _ => n - (intOf i).toNat)
  case atStart => exact ⟨0, by omega, rfl, HB1.out, by simp⟩
  case round =>
    clear HB1
    obtain ⟨k, hk, rfl, hb, hpu⟩ := hrel
    have HB := Lib.hid hb
    have HPU := Lib.hid hpu
    clear hb hpu
    by_cases hlt : k < n
    · obtain ⟨z, hz⟩ : ∃ z, hs[k]? = some z := ⟨_, List.getElem?_eq_getElem (by have := HLEN.out; omega)⟩
      have hrd := HR.out.up HB.out
      obtain ⟨b, off, hA, hblt⟩ := hrd.form (by omega)
      rw [hA] at hrd
      obtain ⟨c0, c1⟩ := hrd.at_ hz
      rw [hA]
      have hzz := HR.out.zs z (List.mem_of_getElem? hz)
      have HZL : Hid (z.r.expr.length = z.n) := Lib.hid hzz.1.1
      have hzn := hzz.2
      have HTK : Hid (hs.take (k + 1) = hs.take k ++ [z]) := Lib.hid (by rw [List.take_add_one, hz]; rfl)
      have hW : Below wr.heap.size wr (wr.alloc (.cells #[.string z.r.name, .slice z.A z.n z.c] 32)) := (Below.refl _ _).alloc (Nat.le_refl _) _
      have HBW := Lib.hid (HB.out.trans (hW.mono HB.out.size))
      have HZ0 := Lib.hid hzz.1
      clear hz hrd hzz hW HB
      go_wp2_with fail
      generalize hwx : wr.alloc (.cells #[.string z.r.name, .slice z.A z.n z.c] 32) = wx at *
      clear hwx c0 c1 hA hblt
      go_loopw [24] (fun i wr => ∃ j : Nat, j ≤ z.n ∧ i = .int .i64 j ∧ Below w.heap.size w wr ∧ ∀ x ∈ z.r.expr.take j, x.op ≠ 6 ∧ x.op ≠ 7) (fun i _ => z.n - (intOf i).toNat)
      case atStart => exact ⟨0, by omega, rfl, HBW.out, by simp⟩
      case round =>
        clear HBW
        obtain ⟨j, hj, rfl, hb, hpj⟩ := hrel
        have HB := Lib.hid hb
        have HPJ := Lib.hid hpj
        clear hb hpj
        by_cases hjl : j < z.n
        · obtain ⟨⟨op, nm, vl⟩, hxx⟩ : ∃ x, z.r.expr[j]? = some x := ⟨_, List.getElem?_eq_getElem (by rw [HZL.out]; exact hjl)⟩
          have hrn := (HZ0.out.below HB.out (Nat.le_refl _)).more HB.out.size
          obtain ⟨b2, off2, hA, hblt2⟩ := hrn.form (by omega)
          rw [hA] at hrn
          obtain ⟨d0, d1, d2⟩ := hrn.at_ hxx
          simp only at d0 d1 d2
          rw [hA]
          have HTJ : Hid (z.r.expr.take (j + 1) = z.r.expr.take j ++ [⟨op, nm, vl⟩]) := Lib.hid (by rw [List.take_add_one, hxx]; rfl)
          have hW : Below wr.heap.size wr (wr.alloc (.cells #[.int .i64 op, .string nm, .int .i64 vl] 29)) := (Below.refl _ _).alloc (Nat.le_refl _) _
          have HB2 := Lib.hid (HB.out.trans (hW.mono HB.out.size))
          clear hxx hrn hA hW
          by_cases h6 : op = 6
          · subst h6
            go_wp2_with fail
            go_ret
            exact ⟨rfl, HB2.out⟩
          by_cases h7 : op = 7
          · subst h7
            clear h6
            go_wp2_with fail
            go_ret
            exact ⟨rfl, HB2.out⟩
          have HPN : Hid (∀ x ∈ z.r.expr.take (j + 1), x.op ≠ 6 ∧ x.op ≠ 7) := Lib.hid (fun x hx => by
            rw [HTJ.out] at hx
            rcases List.mem_append.1 hx with hx | hx
            · exact HPJ.out x hx
            · rw [List.mem_singleton.1 hx]; exact ⟨h6, h7⟩)
          have e6 : (op == 6) = false := by simpa using h6
          have e7 : (op == 7) = false := by simpa using h7
          go_wp2_with fail
          go_roundw
          case rel => exact ⟨j + 1, hjl, by go_num, HB2.out, HPN.out⟩
          case measure => simp [intOf]; omega
        · have HPN : Hid (∀ y ∈ hs.take (k + 1), ∀ x ∈ y.r.expr, x.op ≠ 6 ∧ x.op ≠ 7) := Lib.hid (fun y hy x hx => by
            rw [HTK.out] at hy
            rcases List.mem_append.1 hy with hy | hy
            · exact HPU.out y hy x hx
            · rw [List.mem_singleton.1 hy] at hx
              exact HPJ.out x (by rw [List.take_of_length_le (by rw [HZL.out]; omega)]; exact hx))
          go_wp2_with fail
          go_roundw
          case rel => exact ⟨k + 1, hlt, by go_num, HB.out, HPN.out⟩
          case measure => simp [intOf]; omega
    · have HPP : Hid (∀ r ∈ rls hs, ∀ x ∈ r.expr, x.op ≠ 6 ∧ x.op ≠ 7) := Lib.hid (fun r hr x hx => by
        obtain ⟨z, hz, rfl⟩ := List.mem_map.1 hr
        exact HPU.out z (by rw [List.take_of_length_le (by have := HLEN.out; omega)]; exact hz) x hx)
      have hb2 : Below wr.heap.size wr (wr.alloc (.cells #[.slice B m d, .slice none 0 0, .slice B m d] 34)) := (Below.refl _ _).alloc (Nat.le_refl _) _
      have HB2 := Lib.hid (HB.out.trans (hb2.mono HB.out.size))
      have HLW := Lib.hid ((HL.out.up HB.out).up hb2)
      have HRW := Lib.hid ((HR.out.up HB.out).up hb2)
      have HSL : Hid (RdSl (wr.alloc (.cells #[.slice B m d, .slice none 0 0, .slice B m d] 34)) (wr.alloc (.cells #[.slice B m d, .slice none 0 0, .slice B m d] 34)).heap.size (some ⟨wr.heap.size, 0, none⟩) 3 [⟨B, m, d, fl⟩, ⟨none, 0, 0, []⟩, ⟨B, m, d, fl⟩]) := Lib.hid (by
        refine rdSl_lit (T := 34) rfl (Blk.new wr _ _) (by simp) (fun z hz => ?_)
        simp only [List.mem_cons, List.not_mem_nil, or_false] at hz
        rcases hz with rfl | rfl | rfl
        · exact ⟨HLW.out, by show m ≤ _; omega⟩
        · exact ⟨rdStr_nil _ _ _, by show 0 ≤ _; omega⟩
        · exact ⟨HLW.out, by show m ≤ _; omega⟩)
      clear hb2 HB HPU
      go_wp2_with fail
      refine (run_any A n c hs ms (some ⟨wr.heap.size, 0, none⟩) 3 3 _ _ HRW.out hn HC.out HN.out HF.out HSL.out (by omega)).mono ?_
      rintro e w2 ⟨k2, hcs⟩
      have HB3 := Lib.hid (HB2.out.trans (k2.mono HB2.out.size))
      clear k2 HLW HRW HSL HB2
      have hss : sss [⟨B, m, d, fl⟩, ⟨none, 0, 0, []⟩, ⟨B, m, d, fl⟩] = [fl, [], fl] := rfl
      rw [hss] at hcs
      clear hss
      rcases hcs with ⟨hne, rfl⟩ | ⟨h0, v, us, rfl, hout⟩
      · generalize runE (rls hs) ms [fl, [], fl] = ck at *
        have hneb : (ck != 0) = true := by simpa using hne
        clear hne
        go_wp2_with fail
        go_ret
        exact ⟨rfl, HB3.out⟩
      · obtain ⟨a, b, hab⟩ := logic_law h0 HPP.out
        rw [hab] at hout
        obtain ⟨L1, c1, rfl, hc1, -, hg⟩ := hout.get
        obtain ⟨b1, o1, B1, d1, rfl, hb1, x1, hld1, hd1, r1⟩ := hg 0 a rfl
        obtain ⟨b2, o2, B2, d2, e2, hb2, x2, hld2, hd2, r2⟩ := hg 2 a rfl
        injection e2 with e2
        injection e2 with e2 e3
        subst e2; subst e3
        rw [Nat.add_zero] at x1
        have HR1 := Lib.hid r1
        have HR2 := Lib.hid r2
        have HQL : Hid (a.length ≤ 9223372036854775807) := Lib.hid (by unfold maxLen at hd1; omega)
        have hlen : ([a, b, a] : List (List ByteArray)).length = 3 := rfl
        rw [hlen]
        unfold maxLen at hc1
        clear hout hg r1 r2 hab h0 hlen hld1 hld2 hd1 hd2 hb2 HPP
        generalize a.length = q at *
        go_upto_region 16 with fail
        have HB4 := Lib.hid (below_drew (Below.refl w2.heap.size w2))
        refine wp_region_last (S := fun w' => Below w2.heap.size w2 w') 12 _ (by kernel_rfl) (by kernel_rfl) rfl (below_drew (Below.refl _ _)) (fun hHeld => ?_)
        simp only [List.take_succ_cons, List.take_zero]
        refine takeH 0 (v := ?_) rfl (by kernel_rfl) (fun _ _ _ h => h) (by rfl) ?_ hHeld ?_
        rotate_left 1
        · intro w' hSw; obtain ⟨hcc, -⟩ := bcellW hSw; go_simp <;> with_reducible rfl
        try simp only [Act.put, List.setIfInBounds_toArray, List.set_cons_zero, List.set_cons_succ]
        refine takeH 1 (v := ?_) rfl (by kernel_rfl) (fun _ _ _ h => h) (by rfl) ?_ hHeld ?_
        rotate_left 1
        · intro w' hSw; obtain ⟨hcc, -⟩ := bcellW hSw; go_simp <;> with_reducible rfl
        try simp only [Act.put, List.setIfInBounds_toArray, List.set_cons_zero, List.set_cons_succ]
        refine takeH 2 (v := ?_) rfl (by kernel_rfl) (fun _ _ _ h => h) (by rfl) ?_ hHeld ?_
        rotate_left 1
        · intro w' hSw; obtain ⟨hcc, -⟩ := bcellW hSw; go_simp <;> with_reducible rfl
        try simp only [Act.put, List.setIfInBounds_toArray, List.set_cons_zero, List.set_cons_succ]
        refine takeH 3 (v := ?_) rfl (by kernel_rfl) (fun _ _ _ h => h) (by rfl) ?_ hHeld ?_
        rotate_left 1
        · intro w' hSw; obtain ⟨hcc, -⟩ := bcellW hSw; go_simp <;> with_reducible rfl
        try simp only [Act.put, List.setIfInBounds_toArray, List.set_cons_zero, List.set_cons_succ]
        refine takeH 4 (v := ?_) rfl (by kernel_rfl) (fun _ _ _ h => h) (by rfl) ?_ hHeld ?_
        rotate_left 1
        · intro w' hSw; obtain ⟨hcc, -⟩ := bcellW hSw; go_simp <;> with_reducible rfl
        try simp only [Act.put, List.setIfInBounds_toArray, List.set_cons_zero, List.set_cons_succ]
        refine takeH 5 (v := ?_) rfl (by kernel_rfl) (fun _ _ _ h => h) (by rfl) ?_ hHeld ?_
        rotate_left 1
        · intro w' hSw; obtain ⟨hcc, -⟩ := bcellW hSw; go_simp <;> with_reducible rfl
        try simp only [Act.put, List.setIfInBounds_toArray, List.set_cons_zero, List.set_cons_succ]
        refine takeH 6 (v := ?_) rfl (by kernel_rfl) (fun _ _ _ h => h) (by rfl) ?_ hHeld ?_
        rotate_left 1
        · intro w' hSw; obtain ⟨hcc, -⟩ := bcellW hSw; go_simp <;> with_reducible rfl
        try simp only [Act.put, List.setIfInBounds_toArray, List.set_cons_zero, List.set_cons_succ]
        refine takeH 7 (v := ?_) rfl (by kernel_rfl) (fun _ _ _ h => h) (by rfl) ?_ hHeld ?_
        rotate_left 1
        · intro w' hSw; obtain ⟨hcc, -⟩ := bcellW hSw; go_simp <;> with_reducible rfl
        try simp only [Act.put, List.setIfInBounds_toArray, List.set_cons_zero, List.set_cons_succ]
        refine takeH 8 (v := ?_) rfl (by kernel_rfl) (fun _ _ _ h => h) (by rfl) ?_ hHeld ?_
        rotate_left 1
        · intro w' hSw; obtain ⟨hcc, -⟩ := bcellW hSw; go_simp <;> with_reducible rfl
        try simp only [Act.put, List.setIfInBounds_toArray, List.set_cons_zero, List.set_cons_succ]
        refine takeH 9 (v := ?_) rfl (by kernel_rfl) (fun _ _ _ h => h) (by rfl) ?_ hHeld ?_
        rotate_left 1
        · intro w' hSw; obtain ⟨hcc, -⟩ := bcellW hSw; go_simp <;> with_reducible rfl
        try simp only [Act.put, List.setIfInBounds_toArray, List.set_cons_zero, List.set_cons_succ]
        refine stepH 10 (by kernel_rfl) rfl (fun K hK => ?_)
        go_simp
        refine (sameTexts_yes B1 q d1 a B2 d2 _ (HR1.out.up HB4.out) (HR2.out.up HB4.out) HQL.out).mono ?_
        rintro e w5 ⟨rfl, nq, rfl⟩
        have HB8 := Lib.hid (below_drewN HB4.out nq)
        generalize w2.drew.drewN nq = w5 at *
        go_simp
        refine hK.out _ _ ?_ (fun hHeld => ?_)
        · exact HB8.out
        clear hK K
        try simp only [Act.put, List.setIfInBounds_toArray, List.set_cons_zero, List.set_cons_succ]
        refine takeH 11 (v := ?_) rfl (by kernel_rfl) (fun _ _ _ h => h) (by rfl) ?_ hHeld ?_
        rotate_left 1
        · intro w' hSw; obtain ⟨hcc, -⟩ := bcellW hSw; go_simp <;> with_reducible rfl
        try simp only [Act.put, List.setIfInBounds_toArray, List.set_cons_zero, List.set_cons_succ]
        refine wpAnyH_done (by kernel_rfl) ?_ _
        refine lastQ_go (by rfl) ?_
        clear hHeld
        have HB9 := Lib.hid (HB3.out.trans (HB8.out.mono HB3.out.size))
        clear x1 x2 hb1 HR1 HR2 HB3 HB4
        go_wp2_with fail
        go_ret
        exact ⟨rfl, HB9.out⟩
end Go.Proofs.Ytodnjjlhklbniaa
