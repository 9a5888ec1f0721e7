/- Automatic reclosing: the law RecloseReclaims. -/
import Derived.Test.YtkmhemcnpbhdfaaRc7
import Derived.Test.YtkmhemcnpbhdfaaRc5
import Derived.Deep.RegionHeldLaw
namespace Go.Proofs.Ytkmhemcnpbhdfaa
open Go.ChangeShapes Go.WideShapes Go.ChangeAt Go.RowKit
set_option linter.unusedVariables false
attribute [local go_sem ↓] execOp_call_val
attribute [local go_sem] callVal_func setCell_drewN alloc_drewN

theorem six_bd (a : Int) : 0 ≤ (a.tmod 6 + 6).tmod 6 ∧ (a.tmod 6 + 6).tmod 6 < 6 := by
  have h := tmodB a 6 (by omega)
  have h2 := Int.tmod_lt_of_pos (a.tmod 6 + 6) (show (0 : Int) < 6 by omega)
  have h3 := Int.tmod_nonneg 6 (show 0 ≤ a.tmod 6 + 6 by omega)
  omega

/-- two rows of integers of the call's own, apart -/
def Two (w : World) (B : Nat) (v : Value) (xs : List Int) (u : Value) (ys : List Int) : Prop :=
  w.ownsRow B 3 1 v xs.length (ints xs) ∧ w.ownsRow B 3 1 u ys.length (ints ys) ∧ (∀ x, v.ownBlock = some x → u.ownBlock ≠ some x)

theorem Two.swap {w : World} {B : Nat} {v u : Value} {xs ys : List Int} (h : Two w B v xs u ys) : Two w B u ys v xs := ⟨h.2.1, h.1, fun x hx hv => h.2.2 x hv hx⟩
theorem Two.alloc {w : World} {B : Nat} {v u : Value} {xs ys : List Int} (h : Two w B v xs u ys) (o : Obj) : Two (w.alloc o) B v xs u ys := ⟨h.1.alloc _, h.2.1.alloc _, h.2.2⟩
theorem Two.drew {w : World} {B : Nat} {v u : Value} {xs ys : List Int} (h : Two w B v xs u ys) : Two w.drew B v xs u ys := ⟨h.1.drew, h.2.1.drew, h.2.2⟩
theorem Two.below {w w' : World} {B : Nat} {v u : Value} {xs ys : List Int} (h : Two w B v xs u ys) (hb : Below w.heap.size w w') : Two w' B v xs u ys :=
  ⟨h.1.kept (row := none) ⟨hb.os, hb.tape, hb.output, hb.size, fun k hk _ => hb.block k hk⟩ (by cases v.ownBlock <;> simp), h.2.1.kept (row := none) ⟨hb.os, hb.tape, hb.output, hb.size, fun k hk _ => hb.block k hk⟩ (by cases u.ownBlock <;> simp), h.2.2⟩

/-- one element appended to the first of two rows, at a step of a region that draws its order -/
theorem step_two {ops : Array Oper} {o : Oper} {a : Act} {w : World} {K : Act → World → Prop} {Q : Exit → Act → World → Prop} {E : Prop} (s x : Nat)
    (ho : o.op = Op.call { callee := Callee.builtin Builtin.append, args := #[.tmp s, .tmp x], argTypes := #[39, 39] }) (hgd : o.guard = none) (d : Nat) (hd : o.dst = some d)
    (B : Nat) (v u : Value) (xs ys : List Int) (z : Int) (g : Nat) (hT : Two w B v xs u ys) (hs : a.eval (.tmp s) = v) (hx : a.eval (.tmp x) = .slice (some ⟨g, 0, none⟩) 1 1)
    (hg : w.cell? ⟨g, 0, none⟩ = some (.int .i64 z)) (hl : xs.length ≤ 65536) (hB : B ≤ w.heap.size)
    (h : ∀ g' cap w', Two w' B (.slice (some ⟨g', 0, none⟩) (xs.length + 1) cap) (xs ++ [z]) u ys → w.grownBy w' v.ownBlock → Below B w w' → (∀ b i, b < B → w'.cell? ⟨b, i, none⟩ = w.cell? ⟨b, i, none⟩) → (∀ b i, b < w.heap.size → some b ≠ v.ownBlock → w'.cell? ⟨b, i, none⟩ = w.cell? ⟨b, i, none⟩) → w.heap.size ≤ w'.heap.size →
      K (a.put (some d) (.slice (some ⟨g', 0, none⟩) (xs.length + 1) cap)) w') :
    if Region.wanted o (yielded ops a.tmps) = true then Oper.wp Try.prog o a w K Q else E := by
  obtain ⟨i0, hi0, hz0, hz1, hz2⟩ := info_parts infoInt
  refine step_append_lies w hgd (.tmp s) (.tmp x) 39 ho B 3 i0 _ 1 8 Try.underlying39 hi0 hz0 hz1 hz2 rfl (by omega) v xs.length (ints xs) hs hT.1 ⟨g, 0, none⟩ 1 1 [.int .i64 z] hx rfl ?_ (by simp [Value.oneCell']) (by omega) (by simp only [maxLen]; omega) (by omega) hB _ rfl ?_
  · intro j u hj
    match j, hj with
    | 0, hj => simp at hj; subst hj; simpa [Addr.add] using hg
  · intro g' cap w' hown hgr hat hlt
    have hb : Below B w w' := (Below.refl _ _).grown hgr hB (fun k hk => (hT.1.lt k hk).1)
    rw [hd]
    refine h g' cap w' ⟨by simpa [ints] using hown, hT.2.1.kept hgr ?_, ?_⟩ hgr hb (fun b i hbl => hb.cell (p := ⟨b, i, none⟩) hbl) (fun b i hbl hne => hgr.cell_far ⟨b, i, none⟩ hbl hne) hgr.size
    · cases hu : u.ownBlock with
      | none => exact .inl rfl
      | some k => exact .inr (fun e => hT.2.2 k e.symm hu)
    · intro k hk hu
      have hk' : g' = k := by simpa [Value.ownBlock] using hk
      subst hk'
      rcases hat with h1 | h1
      · exact hT.2.2 _ h1 hu
      · have := (hT.2.1.lt _ hu).2; omega

set_option maxRecDepth 100000 in
set_option maxHeartbeats 4000000 in
theorem reclaims_any (A : Option Addr) (n c : Nat) (dead : List Int) (reclaim a1 : Int) (w : World) (hr : RdI w w.heap.size A n dead) (hn : n ≤ 9223372036854775807) :
    Calls Try.prog 6 #[.agg #[.slice A n c, .int .i64 reclaim], .int .i64 a1] w fun e w' => e = .returned (.bool true) ∧ Below w.heap.size w w' := by
  obtain ⟨i0, hi0, hz0, hz1, hz2⟩ := info_parts infoInt
  have K0 : Below w.heap.size w (w.alloc (.cells #[.slice A n c, .int .i64 reclaim] 41)) := (Below.refl _ _).alloc (Nat.le_refl _) _
  have HK0 := Lib.hid K0
  clear K0
  have hb6 := six_bd a1
  have hb6' := tmodB a1 6 (by omega)
  obtain ⟨h61, h62⟩ := hb6
  obtain ⟨h63, h64⟩ := hb6'
  by_cases hc : ckR dead reclaim = 0
  · obtain ⟨q1, q2, q3, q4, q5⟩ := ckR_ok hc
    have hlen := hr.len
    have hcb : (ckR dead reclaim != 0) = false := by simpa using hc
    have HC := Lib.hid hc
    have HL := Lib.hid hlen
    clear hc
    have hn4 : n ≤ 4 := by omega
    have hn1 : 0 < n := by omega
    obtain ⟨b, off, rfl, hblt, _⟩ := hr.2 hn1
    obtain ⟨d0, hd0⟩ : ∃ d, dead[0]? = some d := ⟨_, List.getElem?_eq_getElem (by omega)⟩
    obtain ⟨hd1, hd2⟩ := q3 d0 (List.mem_of_getElem? hd0)
    have HD0 := Lib.hid hd0
    clear hlen hd0 q3
    go_enter Try.func6, Try.ntmps6
    go_wp2_with fail
    generalize hNN : 1 + a1.tmod 6 % 6 = NN
    have hN1 : 1 ≤ NN := by omega
    have hN2 : NN ≤ 6 := by omega
    clear hNN h61 h62 h63 h64
    obtain ⟨N, rfl⟩ := Int.eq_ofNat_of_zero_le (show 0 ≤ NN by omega)
    have hN1' : 1 ≤ N := by omega
    have hN2' : N ≤ 6 := by omega
    refine (rworks_any _).mono ?_
    rintro e w1 ⟨rfl, k1⟩
    have hQ : Blk w1 w.heap.size 41 #[.slice (some ⟨b, off, none⟩) n c, .int .i64 reclaim] := (Blk.new_ rfl).below k1 (by simp)
    obtain ⟨c0, c1, cf, hlt1⟩ := rule_facts hQ
    have HQ := Lib.hid hQ
    have HK1 := Lib.hid (HK0.out.trans (k1.mono HK0.out.size))
    clear hQ k1
    go_wp2_with fail
    refine (ckR_any _ n c dead reclaim _ ((hr.below HK1.out (Nat.le_refl _)).more HK1.out.size) hn).mono ?_
    rintro e w2 ⟨rfl, k2⟩
    have hQ : Blk w2 w.heap.size 41 #[.slice (some ⟨b, off, none⟩) n c, .int .i64 reclaim] := HQ.out.below k2 hlt1
    have HQ2 := Lib.hid hQ
    have HK2 := Lib.hid (HK1.out.trans (k2.mono HK1.out.size))
    clear hQ k2 c0 c1 cf
    have hsz2 : w.heap.size < w2.heap.size := HQ2.out.lt
    go_wp2_with fail
    go_loopw [5, 6, 7, 22] (fun t u now i wr => ∃ k : Nat, k ≤ N ∧ i = .int .i64 k ∧ now = .int .i64 (k * (d0 + reclaim)) ∧ Two wr w2.heap.size t (stp 0 (d0 + reclaim) k) u (stp d0 (d0 + reclaim) k) ∧ Below w2.heap.size w2 wr) (fun _ _ _ i _ => N - (intOf i).toNat)
    case atStart => exact ⟨0, by omega, rfl, by simp, ⟨⟨rfl, .inl ⟨rfl, rfl⟩⟩, ⟨rfl, .inl ⟨rfl, rfl⟩⟩, by simp [Value.ownBlock]⟩, Below.refl _ _⟩
    case round =>
      obtain ⟨k, hk, rfl, rfl, hTwo, hkw⟩ := hrel
      have HTW := Lib.hid hTwo
      have HKW := Lib.hid hkw
      by_cases hltk : k < N
      · have hm0 : 0 ≤ (k : Int) * (d0 + reclaim) := Int.mul_nonneg (by omega) (by omega)
        have hm1 : (k : Int) * (d0 + reclaim) ≤ 6 * (d0 + reclaim) := Int.mul_le_mul_of_nonneg_right (by omega) (by omega)
        have HM : Hid (((k + 1 : Nat) : Int) * (d0 + reclaim) = k * (d0 + reclaim) + (d0 + reclaim)) := Lib.hid (by rw [Int.natCast_succ, Int.add_mul]; omega)
        have HN0 : Hid (k * (d0 + reclaim) = (k : Int) * (d0 + reclaim)) := Lib.hid rfl
        have hS1 := stp_snoc (d0 + reclaim) k 0
        have hS2 := stp_snoc (d0 + reclaim) k d0
        generalize hNow : (k : Int) * (d0 + reclaim) = now at *
        have HS1 := Lib.hid hS1
        have HS2 := Lib.hid hS2
        clear hS1 hS2 hTwo hkw hNow
        have hQw : Blk wr w.heap.size 41 #[.slice (some ⟨b, off, none⟩) n c, .int .i64 reclaim] := HQ2.out.below HKW.out hsz2
        have hcell := ((hr.below (HK2.out.trans (HKW.out.mono HK2.out.size)) (Nat.le_refl _))).at_ HD0.out
        obtain ⟨c0, c1, cf, hlt2⟩ := rule_facts hQw
        have hbw : b < wr.heap.size := by omega
        have hw1 : IntKind.i64.wrap (now + d0) = now + d0 := IntWalk.i64_in _ (by omega)
        have hw2 : IntKind.i64.wrap (d0 + reclaim) = d0 + reclaim := IntWalk.i64_in _ (by omega)
        have hw3 : IntKind.i64.wrap (now + (d0 + reclaim)) = now + (d0 + reclaim) := IntWalk.i64_in _ (by omega)
        clear hQw hm0 hm1
        rw [Nat.add_zero] at hcell
        have hb2 : b < w2.heap.size := by omega
        have hsw : w2.heap.size ≤ wr.heap.size := HKW.out.size
        have hkk : (stp 0 (d0 + reclaim) k).length ≤ 65536 := by rw [stp_len]; omega
        have hkk2 : (stp d0 (d0 + reclaim) k).length ≤ 65536 := by rw [stp_len]; omega
        have hne : ∀ g, wr.heap.size ≤ g → some g ≠ u5.ownBlock := fun g hg e => by have := (HTW.out.1.lt g e.symm).2; omega
        generalize hX1 : stp 0 (d0 + reclaim) k = X1 at *
        generalize hX2 : stp d0 (d0 + reclaim) k = X2 at *
        go_wp2_with fail
        go_region_held_law (fun w' => w'.cell? ⟨w.heap.size, 0, none⟩ = some (Value.slice (some { block := b, off := off }) n c) ∧ w'.cell? ⟨b, off, none⟩ = some (.int .i64 d0)) (go_keep)
          (first
            | (refine step_two 24 26 rfl rfl 27 rfl w2.heap.size u5 u6 X1 X2 now wr.heap.size ?_ ?_ ?_ ?_ hkk ?_ ?_
               · first | exact ((HTW.out.drew).alloc _).alloc _ | exact (HTW.out.drew).alloc _
               · simp [Act.eval, Act.put]
               · simp [Act.eval, Act.put]
               · simp
               · simp; omega
               intro gA cA wA hTA hgA hbA hcA hdA hsA)
            | (refine step_two 24 26 rfl rfl 27 rfl w2.heap.size u5 u6 X1 X2 now (wr.heap.size + 1) ?_ ?_ ?_ ?_ hkk ?_ ?_
               · first | exact ((HTW.out.drew).alloc _).alloc _ | exact (HTW.out.drew).alloc _
               · simp [Act.eval, Act.put]
               · simp [Act.eval, Act.put]
               · simp
               · simp; omega
               intro gA cA wA hTA hgA hbA hcA hdA hsA)
            | (refine step_two 28 35 rfl rfl 36 rfl w2.heap.size u6 (.slice (some ⟨gA, 0, none⟩) (X1.length + 1) cA) X2 (X1 ++ [now]) (now + d0) wA.heap.size ?_ ?_ ?_ ?_ hkk2 ?_ ?_
               · first | exact hTA.swap | exact hTA.swap.alloc _
               · simp [Act.eval, Act.put]
               · simp [Act.eval, Act.put]
               · simp
               · simp at hsA ⊢; omega
               intro gB cB wB hTB hgB hbB hcB hdB hsB)
            | (refine step_two 28 35 rfl rfl 36 rfl w2.heap.size u6 (.slice (some ⟨gA, 0, none⟩) (X1.length + 1) cA) X2 (X1 ++ [now]) (now + d0) wr.heap.size ?_ ?_ ?_ ?_ hkk2 ?_ ?_
               · first | exact hTA.swap | exact hTA.swap.alloc _
               · simp [Act.eval, Act.put]
               · simp [Act.eval, Act.put]
               · (rw [hdA _ _ (by simp <;> omega) (hne _ (by omega))]; first | done | simp)
               · simp at hsA ⊢; omega
               intro gB cB wB hTB hgB hbB hcB hdB hsB)
            | (refine step_two 28 35 rfl rfl 36 rfl w2.heap.size u6 (.slice (some ⟨gA, 0, none⟩) (X1.length + 1) cA) X2 (X1 ++ [now]) (now + d0) (wr.heap.size + 1) ?_ ?_ ?_ ?_ hkk2 ?_ ?_
               · first | exact hTA.swap | exact hTA.swap.alloc _
               · simp [Act.eval, Act.put]
               · simp [Act.eval, Act.put]
               · (rw [hdA _ _ (by simp <;> omega) (hne _ (by omega))]; first | done | simp)
               · simp at hsA ⊢; omega
               intro gB cB wB hTB hgB hbB hcB hdB hsB))
        all_goals
          have hKB : Below w2.heap.size w2 wB := by
            first
              | exact (((below_drew (HKW.out.alloc hsw _)).trans hbA).alloc (by simp at hsA; omega) _).trans hbB
              | exact ((below_drew ((HKW.out.alloc hsw _).alloc (by simp; omega) _)).trans hbA).trans hbB
          have HKB := Lib.hid hKB
          have HTB := Lib.hid hTB
          rename_i hHeld
          clear hcA hdA hcB hdB hne hTA hTB hgA hgB hbA hbB hKB hHeld hcell c0 c1 cf HTW
          have hQw : Blk wB w.heap.size 41 #[.slice (some ⟨b, off, none⟩) n c, .int .i64 reclaim] := HQ2.out.below HKB.out hsz2
          have hcell := ((hr.below (HK2.out.trans (HKB.out.mono HK2.out.size)) (Nat.le_refl _))).at_ HD0.out
          obtain ⟨c0, c1, cf, hlt3⟩ := rule_facts hQw
          have hbw3 : b < wB.heap.size := by omega
          rw [Nat.add_zero] at hcell
          clear hQw
          go_wp2_with fail
          go_quiet (fail)
          go_wp2_with fail
          go_roundw
          case rel =>
            refine ⟨k + 1, by omega, by go_num, by rw [HM.out], ?_, below_drewN HKB.out _⟩
            have h1 := HTB.out.swap.below (below_drewN (Below.refl _ _) nq)
            rw [HS1.out, HS2.out, Int.zero_add, Int.add_comm d0 now]
            exact ⟨by simpa using h1.1, by simpa using h1.2.1, h1.2.2⟩
          case measure => simp [intOf]; omega
      · have hkN : k = N := by omega
        subst hkN
        clear hTwo hkw
        have hQw : Blk wr w.heap.size 41 #[.slice (some ⟨b, off, none⟩) n c, .int .i64 reclaim] := HQ2.out.below HKW.out hsz2
        obtain ⟨c0, c1, cf, hlt2⟩ := rule_facts hQw
        clear hQw
        obtain ⟨g5, cap5, rfl, _, _⟩ := World.ownsRow.form HTW.out.1 (by rw [stp_len]; omega)
        obtain ⟨g6, cap6, rfl, _, _⟩ := World.ownsRow.form HTW.out.2.1 (by rw [stp_len]; omega)
        go_wp2_with fail
        have HK3 := Lib.hid (HK2.out.trans (HKW.out.mono HK2.out.size))
        refine (shots_any _ n c dead reclaim _ _ _ (stp 0 (d0 + reclaim) k) _ ((hr.below HK3.out (Nat.le_refl _)).more HK3.out.size) hn (rdI_own HTW.out.1) (by rw [stp_len]; omega) HC.out ?_).mono ?_
        · intro t ht
          have h1 := stp_le (d0 + reclaim) (by omega) k 0 t ht
          have h2 : (k : Int) * (d0 + reclaim) ≤ 6 * (d0 + reclaim) := Int.mul_le_mul_of_nonneg_right (by omega) (by omega)
          omega
        rw [reclaims_law HC.out HD0.out k hN2' hN1']
        rintro e w3 ⟨⟨v, rfl, A3, n3, c3, rfl, hn3, ho3⟩, k3⟩
        have HK4 := Lib.hid (HK3.out.trans (k3.mono HK3.out.size))
        have HO3 := Lib.hid ho3
        have HW3 := Lib.hid ((RdI.below (rdI_own HTW.out.2.1) k3 (Nat.le_refl _)).more k3.size)
        clear k3 ho3
        go_wp2_with fail
        refine (sameInts_any _ _ _ _ _ _ _ _ _ HO3.out HW3.out (by omega)).mono ?_
        rw [show sameI (stp d0 (d0 + reclaim) k) (stp d0 (d0 + reclaim) k) = true from by simp [sameI]]
        rintro e w5 ⟨rfl, nq, rfl⟩
        go_wp2_with fail
        go_ret
        exact ⟨rfl, below_drewN HK4.out nq⟩
  · have hcb : (ckR dead reclaim != 0) = true := by simpa using hc
    have HC := Lib.hid hc
    clear hc
    go_enter Try.func6, Try.ntmps6
    go_wp2_with fail
    refine (rworks_any _).mono ?_
    rintro e w1 ⟨rfl, k1⟩
    have hQ : Blk w1 w.heap.size 41 #[.slice A n c, .int .i64 reclaim] := (Blk.new_ rfl).below k1 (by simp)
    obtain ⟨c0, c1, cf, hlt1⟩ := rule_facts hQ
    have HK1 := Lib.hid (HK0.out.trans (k1.mono HK0.out.size))
    clear hQ k1
    go_wp2_with fail
    refine (ckR_any A n c dead reclaim _ ((hr.below HK1.out (Nat.le_refl _)).more HK1.out.size) hn).mono ?_
    rintro e w2 ⟨rfl, k2⟩
    have HK2 := Lib.hid (HK1.out.trans (k2.mono HK1.out.size))
    clear k2
    go_wp2_with fail
    go_ret
    exact ⟨rfl, HK2.out⟩
end Go.Proofs.Ytkmhemcnpbhdfaa
