/- relayWorks. -/
import Derived.Test.YtodnjjlhklbniaaDU
namespace Go.Proofs.Ytodnjjlhklbniaa
open Go.ChangeShapes Go.WideShapes Go.ChangeAt Go.RowKit
set_option linter.unusedVariables false
set_option linter.unusedSimpArgs false
attribute [local go_sem ↓] execOp_call_val
attribute [local go_sem] callVal_func setCell_drewN alloc_drewN sEq_walk


theorem fit0 {hs : List Rh} (h : rls hs = prog0) : ∀ z ∈ hs, z.r.Fit := fun z hz => by
  have hm : z.r ∈ prog0 := by rw [← h]; exact List.mem_map.2 ⟨z, hz, rfl⟩
  have key : ∀ r ∈ prog0, r.name.size ≤ 10 ∧ ∀ x ∈ r.expr, x.name.size ≤ 10 := by decide +kernel
  obtain ⟨h1, h2⟩ := key _ hm
  exact ⟨by unfold maxLen; omega, fun x hx => by have := h2 x hx; unfold maxLen; omega⟩
set_option maxRecDepth 100000 in
set_option maxHeartbeats 8000000 in
theorem rworks_any (w : World) : Calls Try.prog 7 #[] w fun e w' => e = .returned (.bool true) ∧ Below w.heap.size w w' := by
  go_enter Try.func7, Try.ntmps7
  go_wp2_with fail
  refine (rules_any w).mono ?_
  rintro e w1 ⟨g, n, hs, rfl, hrl, hrd, hb⟩
  have HB1 := Lib.hid hb
  have HR := Lib.hid hrd
  have hn2 : n = 2 := by have h1 := hrd.len; have h2 : (rls hs).length = 2 := by rw [hrl]; rfl
                         unfold rls at h2; rw [List.length_map] at h2; omega
  subst hn2
  have HRL := Lib.hid hrl
  clear hb hrd hrl
  go_wp2_with fail
  refine (new_any (some ⟨g, 0, none⟩) 2 2 hs w1 HR.out (Nat.le_refl _) (by unfold maxLen; omega) (fun h => by cases h) (fit0 HRL.out)).mono ?_
  rintro e w2 ⟨hb, hcs⟩
  have HB2 := Lib.hid (HB1.out.trans (hb.mono HB1.out.size))
  clear hb
  rw [HRL.out] at hcs
  rcases hcs with ⟨hne, -⟩ | ⟨-, y, o, ho, hyp, hyo, hok, hlo, rfl, hw⟩
  · exact absurd prog0_ck hne
  obtain rfl : o = [0, 1] := by rw [prog0_ord] at ho; injection ho with ho; exact ho.symm
  have HOK := Lib.hid hok
  have HW2 := Lib.hid (show RelW y w2 [false, false] k0 from hw)
  have HYP := Lib.hid hyp
  have HYO := Lib.hid hyo
  have HLO : Hid (w.heap.size ≤ y.lo) := Lib.hid (Nat.le_trans HB1.out.size hlo)
  have HYN : Hid (y.n = 2) := Lib.hid (by have := hw.vl; rw [List.length_replicate] at this; exact this.symm)
  clear ho hyp hyo hok hlo hw
  have hI : Below w2.heap.size w2 (w2.alloc (.cells #[.string ⟨#[73]⟩, .int .i64 501] 47)) := (Below.refl _ _).alloc (Nat.le_refl _) _
  have HBI := Lib.hid (HB2.out.trans (hI.mono HB2.out.size))
  have HWI := Lib.hid (HW2.out.up HOK.out hI)
  have hII : RdIv (w2.alloc (.cells #[.string ⟨#[73]⟩, .int .i64 501] 47)) (w2.alloc (.cells #[.string ⟨#[73]⟩, .int .i64 501] 47)).heap.size (some ⟨w2.heap.size, 0, none⟩) 1 [⟨⟨#[73]⟩, 501⟩] := rdIv_lit (T := 47) rfl (Blk.new w2 _ _) (by simp)
  have HII := Lib.hid hII
  clear hI hII HW2
  go_wp2_with fail
  refine (step_any y HOK.out [false, false] k0 10 none 0 0 [] (some ⟨w2.heap.size, 0, none⟩) 1 1 [⟨⟨#[73]⟩, 501⟩] _ HWI.out (rdStr_nil _ _ _) HII.out (by omega) (by omega) (by omega)).mono ?_
  rintro e w3 ⟨u1, rfl, hw3, hf3, ho3⟩
  rw [HYP.out, HYO.out] at hw3 ho3
  have HW3 := Lib.hid (show RelW y w3 st1.vals st1.kept from hw3)
  have ho3' : w3.ownsRow (w2.alloc (.cells #[.string ⟨#[73]⟩, .int .i64 501] 47)).heap.size 9 1 u1 2 (strsV [⟨#[84]⟩, ⟨#[76]⟩]) := by
    have : w3.ownsRow _ 9 1 u1 st1.out.length (strsV st1.out) := ho3
    rw [st1_out] at this; exact this
  have hnx := fun k (hk : (w2.alloc (.cells #[.string ⟨#[73]⟩, .int .i64 501] 47)).heap.size ≤ k) => RelX.lt HWI.out hk
  have HNX := Lib.hid hnx
  have HO3 := Lib.hid ho3'
  have HF3 := Lib.hid hf3
  have HB3 : Hid (Below w.heap.size w w3) := Lib.hid (HBI.out.trans (hf3.below HBI.out.size (fun k hk => by
    rcases hk with hk | hk
    · have := HOK.out.gv; have := HLO.out; omega
    · have := HOK.out.m; have := HLO.out; omega)))
  clear hw3 hf3 ho3 ho3' hnx HWI HII
  have hS : Below w3.heap.size w3 (w3.alloc (.cells #[.string ⟨#[66]⟩] 9)) := (Below.refl _ _).alloc (Nat.le_refl _) _
  have HW4 := Lib.hid (HW3.out.up HOK.out hS)
  have HB4 := Lib.hid (HB3.out.trans (hS.mono HB3.out.size))
  have HO4 := Lib.hid (own_keep HO3.out hS)
  have hSS : RdStr (w3.alloc (.cells #[.string ⟨#[66]⟩] 9)) (w3.alloc (.cells #[.string ⟨#[66]⟩] 9)).heap.size (some ⟨w3.heap.size, 0, none⟩) 1 [⟨#[66]⟩] := rdStr_lit (T := 9) (zs := [⟨#[66]⟩]) (Blk.new w3 _ _) (by simp)
  have HSS := Lib.hid hSS
  clear hS hSS HW3 HO3
  go_wp2_with fail
  refine (step_any y HOK.out st1.vals st1.kept 10 (some ⟨w3.heap.size, 0, none⟩) 1 1 [⟨#[66]⟩] none 0 0 [] _ HW4.out HSS.out ⟨rfl, by simp, fun h => by omega⟩ (by omega) (by omega) (by omega)).mono ?_
  rintro e w5 ⟨u2, rfl, hw5, hf5, ho5⟩
  rw [HYP.out, HYO.out] at hw5 ho5
  have HW5 := Lib.hid (show RelW y w5 st2.vals st2.kept from hw5)
  have ho5' : w5.ownsRow (w3.alloc (.cells #[.string ⟨#[66]⟩] 9)).heap.size 9 1 u2 1 (strsV [⟨#[76]⟩]) := by
    have : w5.ownsRow _ 9 1 u2 st2.out.length (strsV st2.out) := ho5
    rw [st2_out] at this; exact this
  have HO5 := Lib.hid ho5'
  have HO15 := Lib.hid (own_fr HO4.out hf5 HNX.out)
  have HB5 : Hid (Below w.heap.size w w5) := Lib.hid (HB4.out.trans (hf5.below HB4.out.size (fun k hk => by
    rcases hk with hk | hk
    · have := HOK.out.gv; have := HLO.out; omega
    · have := HOK.out.m; have := HLO.out; omega)))
  clear hw5 hf5 ho5 ho5' HW4 HSS HO4
  go_wp2_with fail
  refine (values_any y HOK.out st2.vals st2.kept w5 HW5.out).mono ?_
  rintro e w6 ⟨v, rfl, hown, hb⟩
  rw [HYN.out, st2_vals] at hown
  obtain ⟨g6, c6, cur, rfl, hg6, hb6, hc6⟩ := own_cur hown (fun e => by
    rcases hown.2 with ⟨_, h⟩ | ⟨g, cap, cur, h, _⟩
    · omega
    · rw [e] at h; cases h)
  have HO16 := Lib.hid (own_keep HO15.out hb)
  have HO56 := Lib.hid (own_keep HO5.out hb)
  have HB6 := Lib.hid (HB5.out.trans (hb.mono HB5.out.size))
  have HBV : Hid (Blk w6 g6 4 cur ∧ cur[0]? = some (.bool false) ∧ cur[1]? = some (.bool true)) := Lib.hid ⟨hb6, hc6 0 _ rfl, hc6 1 _ rfl⟩
  clear hown hb hb6 hc6 hg6 HO15 HO5
  obtain ⟨A1, d1, rfl, r1, _, _, _⟩ := own_rd HO16.out
  obtain ⟨A2, d2, rfl, r2, _, _, _⟩ := own_rd HO56.out
  have HR1 := Lib.hid (show RdStr w6 w6.heap.size A1 2 [⟨#[84]⟩, ⟨#[76]⟩] from ⟨rfl, r1⟩)
  have HR2 := Lib.hid (show RdStr w6 w6.heap.size A2 1 [⟨#[76]⟩] from ⟨rfl, r2⟩)
  clear r1 r2 HO16 HO56
  have hL : Below w6.heap.size w6 (w6.alloc (.cells #[.string ⟨#[84]⟩, .string ⟨#[76]⟩] 9)) := (Below.refl _ _).alloc (Nat.le_refl _) _
  have HL1 : Hid (RdStr (w6.alloc (.cells #[.string ⟨#[84]⟩, .string ⟨#[76]⟩] 9)) (w6.alloc (.cells #[.string ⟨#[84]⟩, .string ⟨#[76]⟩] 9)).heap.size (some ⟨w6.heap.size, 0, none⟩) 2 [⟨#[84]⟩, ⟨#[76]⟩]) := Lib.hid (rdStr_lit (T := 9) (zs := [⟨#[84]⟩, ⟨#[76]⟩]) (Blk.new w6 _ _) (by simp))
  have HLB := Lib.hid hL
  clear hL
  go_wp2_with fail
  refine (sameTexts_yes A1 2 d1 [⟨#[84]⟩, ⟨#[76]⟩] (some ⟨w6.heap.size, 0, none⟩) 2 _ (HR1.out.up HLB.out) HL1.out (by omega)).mono ?_
  rintro e w7 ⟨rfl, nq, rfl⟩
  have h7 : Below w6.heap.size w6 ((w6.alloc (.cells #[.string ⟨#[84]⟩, .string ⟨#[76]⟩] 9)).drewN nq) := below_drewN HLB.out nq
  have HR27 := Lib.hid (HR2.out.up h7)
  have HBV7 := Lib.hid (HBV.out.1.below h7 HBV.out.1.lt)
  have HC7 := Lib.hid HBV.out.2
  have HB7 := Lib.hid (HB6.out.trans (h7.mono HB6.out.size))
  clear h7 HR1 HR2 HBV HLB HL1
  generalize (w6.alloc (.cells #[.string ⟨#[84]⟩, .string ⟨#[76]⟩] 9)).drewN nq = w7 at *
  have hL : Below w7.heap.size w7 (w7.alloc (.cells #[.string ⟨#[76]⟩] 9)) := (Below.refl _ _).alloc (Nat.le_refl _) _
  have HL1 : Hid (RdStr (w7.alloc (.cells #[.string ⟨#[76]⟩] 9)) (w7.alloc (.cells #[.string ⟨#[76]⟩] 9)).heap.size (some ⟨w7.heap.size, 0, none⟩) 1 [⟨#[76]⟩]) := Lib.hid (rdStr_lit (T := 9) (zs := [⟨#[76]⟩]) (Blk.new w7 _ _) (by simp))
  have HLB := Lib.hid hL
  clear hL
  go_wp2_with fail
  refine (sameTexts_yes A2 1 d2 [⟨#[76]⟩] (some ⟨w7.heap.size, 0, none⟩) 1 _ (HR27.out.up HLB.out) HL1.out (by omega)).mono ?_
  rintro e w8 ⟨rfl, nq2, rfl⟩
  have h8 : Below w7.heap.size w7 ((w7.alloc (.cells #[.string ⟨#[76]⟩] 9)).drewN nq2) := below_drewN HLB.out nq2
  have hbv := HBV7.out.below h8 HBV7.out.lt
  have HB8 := Lib.hid (HB7.out.trans (h8.mono HB7.out.size))
  generalize (w7.alloc (.cells #[.string ⟨#[76]⟩] 9)).drewN nq2 = w8 at *
  have v0 : w8.cell? ⟨g6, 0, none⟩ = some (.bool false) := by rw [hbv.cell]; exact HC7.out.1
  have v1 : w8.cell? ⟨g6, 1, none⟩ = some (.bool true) := by rw [hbv.cell]; exact HC7.out.2
  have gl := hbv.lt
  clear h8 hbv
  go_wp2_with fail
  go_ret
  exact ⟨rfl, HB8.out⟩
end Go.Proofs.Ytodnjjlhklbniaa
