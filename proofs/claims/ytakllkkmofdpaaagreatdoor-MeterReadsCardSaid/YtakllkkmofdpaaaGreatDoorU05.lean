import Derived.Test.YtakllkkmofdpaaaGreatDoorU03
import Derived.Test.YtakllkkmofdpaaaGreatDoorU04
import Derived.Deep.DeepCutAuto
set_option linter.unusedVariables false
set_option linter.unusedSimpArgs false
namespace Go.Proofs.YtakllkkmofdpaaaGreatDoor
section
section
open Go Go.RowKit
variable {P : Program} {Q : Exit → Act → World → Prop} {md : Region.Mode}
theorem sA_ {α : Type _} {l : List α} {i : Nat} {a : α} : l.toArray.setIfInBounds i a = (l.set i a).toArray := List.setIfInBounds_toArray _ _ _
theorem sB_ {α : Type _} {x : α} {xs : List α} {a : α} : (x :: xs).set 0 a = a :: xs := rfl
theorem sC_ {α : Type _} {x : α} {xs : List α} {n : Nat} {a : α} : (x :: xs).set (n + 1) a = x :: xs.set n a := rfl
theorem tkH {L : List Oper} {W : World} (i : Nat) {oi : Oper} {v : Value} {fuel : Nat} {listed : Array Bool} {a : Act} {w : World} (hi : L[i]? = some oi) (hy : ∀ w', Below W.heap.size W w' → (∀ b o, b < W.heap.size → w'.cell? ⟨b, o, none⟩ = W.cell? ⟨b, o, none⟩) → (execOp a.eval oi).run P w' = .ok (.value v) w') (hS : Below W.heap.size W w) (h : wpAnyH P md L.toArray Q (fun w' => Below W.heap.size W w') fuel (listed.setIfInBounds i true) (a.put oi.dst v) w) (hB : takeB md L.toArray listed i = true := by kernel_rfl) (hQ : ∀ c a w, Q (.panic c) (a.put oi.dst v) w → Q (.panic c) a w := by exact fun _ _ _ h => h) (hw : Region.wanted oi (yielded L.toArray a.tmps) = true := by rfl) : wpAnyH P md L.toArray Q (fun w' => Below W.heap.size W w') (fuel + 1) listed a w :=
 takeH i hi hB hQ hw (fun w' h => hy w' h (bcellW h).1) hS h
end
end
section
open Go.ChangeShapes Go.WideShapes Go.ChangeAt Go.RowKit
attribute [local go_sem ↓] execOp_call_val
attribute [local go_sem] callVal_func setCell_drewN alloc_drewN
set_option maxHeartbeats 1000000 in
theorem norm_any (m : Bool) (A : Option Addr) (n c : Nat) (ws : List Nat) (w : World) (hr : RdW w w.heap.size A n ws) (hd : Wd ws) (hn : n ≤ c) (hc : c ≤ 9223372036854775807) :
    Calls Tryz.prog 114 #[.bool m, .slice A n c] w (LgP (sgn m (wv ws)) w) := by
 have HR := Lib.hid hr
 have HD := Lib.hid hd
 have HL := Lib.hid hr.len
 have HK := Lib.hid ((Below.refl w.heap.size w).alloc (Nat.le_refl _) (.cells #[.bool false, .slice none 0 0] 91))
 clear hr hd
 go_enter Tryz.func114, Tryz.ntmps114
 go_wp2_with fail
 have HB := Lib.hid (Blk.new w 91 #[.bool false, .slice none 0 0])
 have HR1 := Lib.hid (HR.out.up HK.out)
 generalize w.alloc (.cells #[.bool false, .slice none 0 0] 91) = W at *
 generalize hg : w.heap.size = g at *
 have HG := Lib.hid hg
 clear hg
 go_loop [1] (fun v1 => ∃ k : Nat, k ≤ n ∧ v1 = .slice A k c ∧ wv (ws.take k) = wv ws) (fun v1 => match v1 with | .slice _ k _ => k | _ => 0)
 case atStart => exact ⟨n, Nat.le_refl _, rfl, by rw [List.take_of_length_le (Nat.le_of_eq HL.out)]⟩
 case round =>
  obtain ⟨k, hk, rfl, hv⟩ := hrel
  have HV := Lib.hid hv
  have HE : Hid (∀ v' e w', Below g w w' → RdW w' w'.heap.size A k (ws.take k) → (k = 0 ∨ ws.getD (k - 1) 0 ≠ 0) → v' = .agg #[.bool (m && decide (0 < k)), .slice A k c] → e = .returned v' → LgP (sgn m (wv ws)) w e w') := Lib.hid (fun v' e w' hb hr hz hv' he => lgP_mk (by rw [HG.out]; exact hb) (by rw [trim_end HD.out (by have := HL.out; omega) hz, HV.out]) (by rw [List.length_take, HL.out, Nat.min_eq_left hk]) hr (Nat.le_trans hk hn) hc (by rw [he, hv']))
  clear hv
  have b0 := HB.out.cell 0
  have b1 := HB.out.cell 1
  have bf := HB.out.frozen
  have bl := HB.out.lt
  by_cases h0 : k = 0
  ·subst h0
   cases m with
   | true =>
    go_wp2_with fail
    generalize hW2 : (W.setCell ⟨g, 0, none⟩ _).setCell ⟨g, 1, none⟩ _ = W2
    have HB2 : Hid (Blk W2 g 91 #[.bool (true && decide (0 < 0)), .slice A 0 c]) := Lib.hid (by rw [← hW2]; exact blk_set2 HB.out)
    have HK2 : Hid (Below g w W2) := Lib.hid (by rw [← hW2]; exact below_set2 HK.out (Nat.le_refl _))
    clear hW2 b0 b1
    have q0 := HB2.out.cell 0
    have q1 := HB2.out.cell 1
    refine bodyPost_ret (v := .agg #[.bool (true && decide (0 < 0)), .slice A 0 c]) (by simp [results, Tryz.results114, go_sem, q0, q1]) rfl (HE.out _ _ _ HK2.out (rdW_nil _ _ _) (.inl trivial) rfl rfl)
   | false =>
    go_wp2_with fail
    generalize hW2 : (W.setCell ⟨g, 0, none⟩ _).setCell ⟨g, 1, none⟩ _ = W2
    have HB2 : Hid (Blk W2 g 91 #[.bool (false && decide (0 < 0)), .slice A 0 c]) := Lib.hid (by rw [← hW2]; exact blk_set2 HB.out)
    have HK2 : Hid (Below g w W2) := Lib.hid (by rw [← hW2]; exact below_set2 HK.out (Nat.le_refl _))
    clear hW2 b0 b1
    have q0 := HB2.out.cell 0
    have q1 := HB2.out.cell 1
    refine bodyPost_ret (v := .agg #[.bool (false && decide (0 < 0)), .slice A 0 c]) (by simp [results, Tryz.results114, go_sem, q0, q1]) rfl (HE.out _ _ _ HK2.out (rdW_nil _ _ _) (.inl trivial) rfl rfl)
  ·have hk0 : 0 < k := by omega
   obtain ⟨b, off, hA, hbl⟩ := HR1.out.form (by omega)
   subst hA
   have hc0 := HR1.out.at_ (i := k - 1) (by omega)
   have HLT := Lib.hid (HR1.out.take hk)
   have g1 : (1 : Int) ≤ (k : Int) := by omega
   have g4 : ((k : Int) - 1).toNat = k - 1 := by omega
   have g5 : (k : Int) - 1 < (k : Int) := by omega
   have g6 : (k : Int) - 1 ≤ (c : Int) := by omega
   have g7 : (k : Int) ≤ 9223372036854775807 := by omega
   obtain ⟨x, hx⟩ : ∃ x, ws.getD (k - 1) 0 = x := ⟨_, rfl⟩
   have HX := Lib.hid hx
   rw [hx] at hc0
   clear hx
   by_cases hz : x = 0
   ·subst hz
    have hz := HX.out
    have HT := Lib.hid (trim_step hk0 (by have := HL.out; omega) hz)
    clear hz b0 b1 bf bl
    go_wp2_with fail
    go_round
    case rel => exact ⟨k - 1, by omega, rfl, by rw [HT.out, HV.out]⟩
    case measure => simp; omega
   ·have hzb : ((x : Int) == 0) = false := by simp; exact hz
    have HZ : Hid (ws.getD (k - 1) 0 ≠ 0) := Lib.hid (by rw [HX.out]; exact hz)
    clear hz
    cases m with
    | true =>
     go_wp2_with fail
     generalize hW2 : (W.setCell ⟨g, 0, none⟩ _).setCell ⟨g, 1, none⟩ _ = W2
     have HB2 : Hid (Blk W2 g 91 #[.bool true, .slice (some ⟨b, off, none⟩) k c]) := Lib.hid (by rw [← hW2]; exact blk_set2 HB.out)
     have HK2 : Hid (Below g w W2) := Lib.hid (by rw [← hW2]; exact below_set2 HK.out (Nat.le_refl _))
     clear hW2 b0 b1
     have q0 := HB2.out.cell 0
     have q1 := HB2.out.cell 1
     refine bodyPost_ret (v := .agg #[.bool true, .slice (some ⟨b, off, none⟩) k c]) (by simp [results, Tryz.results114, go_sem, q0, q1, hk0]) rfl (HE.out _ _ _ HK2.out (((HR.out.take hk).below HK2.out (Nat.le_refl _)).more (HG.out ▸ HK2.out.size)) (.inr HZ.out) (by simp [hk0]) rfl)
    | false =>
     go_wp2_with fail
     generalize hW2 : (W.setCell ⟨g, 0, none⟩ _).setCell ⟨g, 1, none⟩ _ = W2
     have HB2 : Hid (Blk W2 g 91 #[.bool (false && decide (0 < k)), .slice (some ⟨b, off, none⟩) k c]) := Lib.hid (by rw [← hW2]; exact blk_set2 HB.out)
     have HK2 : Hid (Below g w W2) := Lib.hid (by rw [← hW2]; exact below_set2 HK.out (Nat.le_refl _))
     clear hW2 b0 b1
     have q0 := HB2.out.cell 0
     have q1 := HB2.out.cell 1
     refine bodyPost_ret (v := .agg #[.bool (false && decide (0 < k)), .slice (some ⟨b, off, none⟩) k c]) (by simp [results, Tryz.results114, go_sem, q0, q1, hk0]) rfl (HE.out _ _ _ HK2.out (((HR.out.take hk).below HK2.out (Nat.le_refl _)).more (HG.out ▸ HK2.out.size)) (.inr HZ.out) rfl rfl)
end
section
open Go.ChangeShapes Go.WideShapes Go.ChangeAt Go.RowKit
attribute [local go_sem ↓] execOp_call_val
attribute [local go_sem] callVal_func setCell_drewN alloc_drewN
theorem neg_sgn (z : Int) : sgn (!decide (z < 0)) z.natAbs = -z := by
 unfold sgn
 by_cases h : z < 0
 ·simp [h]; omega
 ·simp [h]; omega
set_option maxHeartbeats 1000000 in
theorem neg_any (z : Int) (b : Bool) (A : Option Addr) (n c : Nat) (w : World) (h : LgIs w w.heap.size z b A n c) :
    Calls Tryz.prog 113 #[.agg #[.bool b, .slice A n c]] w (LgP (-z) w) := by
 have HB0 : Hid (Below w.heap.size w ((w.alloc (.cells #[.bool b, .slice A n c] 91)).alloc (.cells #[.bool false, .slice none 0 0] 91))) := Lib.hid (((Below.refl _ _).alloc (Nat.le_refl _) _).alloc (by simp) _)
 have HX := Lib.hid ((Blk.new w 91 #[.bool b, .slice A n c]).alloc (.cells #[.bool false, .slice none 0 0] 91))
 have HG : Hid (Blk ((w.alloc (.cells #[.bool b, .slice A n c] 91)).alloc (.cells #[.bool false, .slice none 0 0] 91)) (w.heap.size + 1) 91 #[.bool false, .slice none 0 0]) := Lib.hid (Blk.new_ (by simp))
 have HH := Lib.hid (h.up HB0.out)
 have hgs : w.heap.size ≤ w.heap.size + 1 := by omega
 have HE := Lib.hid h.eb
 clear h
 go_enter Tryz.func113, Tryz.ntmps113
 have x0 := HX.out.cell 0
 have x1 := HX.out.cell 1
 have xl := HX.out.lt
 go_wp2_with fail
 clear x0 x1 xl
 generalize (w.alloc (.cells #[.bool b, .slice A n c] 91)).alloc (.cells #[.bool false, .slice none 0 0] 91) = W at *
 refine (norm_any (!b) A n c (dig z.natAbs) W (by have h := HH.out.rd; have e := HH.out.en; exact h) (wd_dig _) HH.out.nc HH.out.cm).mono ?_
 rw [wv_dig, HE.out, neg_sgn]
 rintro e w2 ⟨k, b2, A2, n2, c2, rfl, h2⟩
 have HB2 := Lib.hid (HB0.out.trans (k.mono HB0.out.size))
 have HG2 := Lib.hid (HG.out.below k HG.out.lt)
 have H2 := Lib.hid h2
 clear k h2 HG HX HH
 have z0 := HG2.out.cell 0
 have z1 := HG2.out.cell 1
 have zf := HG2.out.frozen
 have zl := HG2.out.lt
 go_wp2_with fail
 generalize hW9 : (w2.setCell ⟨_, 0, none⟩ _).setCell ⟨_, 1, none⟩ _ = W9
 have HP9 := Lib.hid (lg_put (e := .returned (.agg #[.bool b2, .slice A2 n2 c2])) HB2.out hgs HG2.out (by simp) (by simp) H2.out rfl)
 rw [hW9] at HP9
 have HB9 : Hid (Blk W9 _ 91 #[.bool b2, .slice A2 n2 c2]) := Lib.hid (by rw [← hW9]; exact blk_set2 HG2.out)
 clear hW9 z0 z1 zf zl
 have q0 := HB9.out.cell 0
 have q1 := HB9.out.cell 1
 exact bodyPost_ret (v := .agg #[.bool b2, .slice A2 n2 c2]) (by simp [results, Tryz.results113, go_sem, q0, q1]) rfl HP9.out
theorem lsign_any (z : Int) (b : Bool) (A : Option Addr) (n c : Nat) (w : World) (h : LgIs w w.heap.size z b A n c) :
    Calls Tryz.prog 112 #[.agg #[.bool b, .slice A n c]] w fun e w' => e = .returned (.int .i64 z.sign) ∧ Below w.heap.size w w' := by
 have HX := Lib.hid (Blk.new w 91 #[.bool b, .slice A n c])
 have HE := Lib.hid h.eb
 have HN := Lib.hid h.en
 clear h
 go_enter Tryz.func112, Tryz.ntmps112
 have x0 := HX.out.cell 0
 have x1 := HX.out.cell 1
 have xl := HX.out.lt
 have HB0 := Lib.hid ((Below.refl w.heap.size w).alloc (Nat.le_refl _) (.cells #[.bool b, .slice A n c] 91))
 by_cases hz : z = 0
 ·have hn : n = 0 := by rw [HN.out, hz]; exact dlen_zero
  have HZ : Hid (z.sign = 0) := Lib.hid (by rw [hz]; rfl)
  clear hz
  subst hn
  go_wp2_with fail
  go_ret
  exact ⟨ret_int HZ.out.symm, HB0.out⟩
 ·have hn : ((n : Int) == 0) = false := by
   have h1 : n ≠ 0 := by rw [HN.out, dlen_pos (by omega)]; omega
   simp; omega
  cases b with
  | true =>
   have HZ : Hid (z.sign = -1) := Lib.hid (Int.sign_eq_neg_one_of_neg (by have := HE.out; simpa using this.symm))
   clear hz
   go_wp2_with fail
   go_ret
   exact ⟨ret_int HZ.out.symm, HB0.out⟩
  | false =>
   have HZ : Hid (z.sign = 1) := Lib.hid (Int.sign_eq_one_of_pos (by have := HE.out; simp at this; omega))
   clear hz
   go_wp2_with fail
   go_ret
   exact ⟨ret_int HZ.out.symm, HB0.out⟩
end
section
open Go.ChangeShapes Go.WideShapes Go.ChangeAt Go.RowKit
attribute [local go_sem ↓] execOp_call_val
attribute [local go_sem] callVal_func setCell_drewN alloc_drewN
set_option maxHeartbeats 1000000 in
theorem of_any (n : Int) (w : World) (h0 : -9223372036854775808 ≤ n) (h1 : n ≤ 9223372036854775807) :
    Calls Tryz.prog 90 #[.int .i64 n] w (LgP n w) := by
 obtain ⟨m, hm⟩ : ∃ m, n.natAbs = m := ⟨_, rfl⟩
 have hml : m < 18446744073709551616 := by omega
 have HWD : Hid (Wd [m % 4294967296, m / 4294967296]) := Lib.hid (fun x hx => by
  simp at hx
  rcases hx with rfl | rfl <;> omega)
 have HV0 : Hid (wv [m % 4294967296, m / 4294967296] = m) := Lib.hid (by simp only [wv]; omega)
 go_enter Tryz.func90, Tryz.ntmps90
 by_cases hn : n < 0
 ·have HV : Hid (sgn true (wv [m % 4294967296, m / 4294967296]) = n) := Lib.hid (by rw [HV0.out]; show -(m : Int) = n; omega)
  have hw1 : IntKind.u64.wrap n = n + 18446744073709551616 := by
   rw [u64_wrap]; omega
  have hw2 : IntKind.u64.wrap (-(n + 18446744073709551616)) = (m : Int) := by
   rw [u64_wrap]; omega
  have HM := Lib.hid hm
  have HN := Lib.hid hn
  clear hm
  have HW : Hid (Below w.heap.size w ((w.alloc (.cells #[.bool false, .slice none 0 0] 91)).alloc (.cells (u32s [m % 4294967296, m / 4294967296]).toArray 171))) := Lib.hid (((Below.refl _ _).alloc (Nat.le_refl _) _).alloc (by simp) _)
  have HG : Hid (Blk ((w.alloc (.cells #[.bool false, .slice none 0 0] 91)).alloc (.cells (u32s [m % 4294967296, m / 4294967296]).toArray 171)) w.heap.size 91 #[.bool false, .slice none 0 0]) := Lib.hid ((Blk.new w _ _).alloc _)
  have HS : Hid (Blk ((w.alloc (.cells #[.bool false, .slice none 0 0] 91)).alloc (.cells (u32s [m % 4294967296, m / 4294967296]).toArray 171)) (w.heap.size + 1) 171 (u32s [m % 4294967296, m / 4294967296]).toArray) := Lib.hid (Blk.new_ (by simp))
  have hgs : w.heap.size ≤ w.heap.size := Nat.le_refl _
  go_wp2_with fail
  clear hw1 hw2
  have hcs : #[.int .u32 ((m : Int) % 4294967296), .int .u32 ((m : Int) / 4294967296)] = (u32s [m % 4294967296, m / 4294967296]).toArray := by
   simp [u32s]
  rw [hcs]
  clear hcs
  generalize (w.alloc (.cells #[.bool false, .slice none 0 0] 91)).alloc (.cells (u32s [m % 4294967296, m / 4294967296]).toArray 171) = W at *
  refine (norm_any true (some ⟨w.heap.size + 1, 0, none⟩) 2 2 [m % 4294967296, m / 4294967296] W (rdW_blk HS.out) HWD.out (Nat.le_refl _) (by decide)).mono ?_
  rw [HV.out]
  rintro e w2 ⟨k, b2, A2, n2, c2, rfl, h2⟩
  have HB2 := Lib.hid (HW.out.trans (k.mono HW.out.size))
  have HG2 := Lib.hid (HG.out.below k HG.out.lt)
  have H2 := Lib.hid h2
  clear k h2 HG HS HW
  have z0 := HG2.out.cell 0
  have z1 := HG2.out.cell 1
  have zf := HG2.out.frozen
  have zl := HG2.out.lt
  go_wp2_with fail
  generalize hW9 : (w2.setCell ⟨_, 0, none⟩ _).setCell ⟨_, 1, none⟩ _ = W9
  have HP9 := Lib.hid (lg_put (e := .returned (.agg #[.bool b2, .slice A2 n2 c2])) HB2.out hgs HG2.out (by simp) (by simp) H2.out rfl)
  rw [hW9] at HP9
  have HB9 : Hid (Blk W9 _ 91 #[.bool b2, .slice A2 n2 c2]) := Lib.hid (by rw [← hW9]; exact blk_set2 HG2.out)
  clear hW9 z0 z1 zf zl
  have q0 := HB9.out.cell 0
  have q1 := HB9.out.cell 1
  exact bodyPost_ret (v := .agg #[.bool b2, .slice A2 n2 c2]) (by simp [results, Tryz.results90, go_sem, q0, q1]) rfl HP9.out
 ·have HV : Hid (sgn false (wv [m % 4294967296, m / 4294967296]) = n) := Lib.hid (by rw [HV0.out]; show (m : Int) = n; omega)
  have hm2 : n = (m : Int) := by omega
  subst hm2
  clear hm
  have HW : Hid (Below w.heap.size w ((w.alloc (.cells #[.bool false, .slice none 0 0] 91)).alloc (.cells (u32s [m % 4294967296, m / 4294967296]).toArray 171))) := Lib.hid (((Below.refl _ _).alloc (Nat.le_refl _) _).alloc (by simp) _)
  have HG : Hid (Blk ((w.alloc (.cells #[.bool false, .slice none 0 0] 91)).alloc (.cells (u32s [m % 4294967296, m / 4294967296]).toArray 171)) w.heap.size 91 #[.bool false, .slice none 0 0]) := Lib.hid ((Blk.new w _ _).alloc _)
  have HS : Hid (Blk ((w.alloc (.cells #[.bool false, .slice none 0 0] 91)).alloc (.cells (u32s [m % 4294967296, m / 4294967296]).toArray 171)) (w.heap.size + 1) 171 (u32s [m % 4294967296, m / 4294967296]).toArray) := Lib.hid (Blk.new_ (by simp))
  have hgs : w.heap.size ≤ w.heap.size := Nat.le_refl _
  go_wp2_with fail
  have hcs : #[.int .u32 ((m : Int) % 4294967296), .int .u32 ((m : Int) / 4294967296)] = (u32s [m % 4294967296, m / 4294967296]).toArray := by
   simp [u32s]
  rw [hcs]
  clear hcs
  generalize (w.alloc (.cells #[.bool false, .slice none 0 0] 91)).alloc (.cells (u32s [m % 4294967296, m / 4294967296]).toArray 171) = W at *
  refine (norm_any false (some ⟨w.heap.size + 1, 0, none⟩) 2 2 [m % 4294967296, m / 4294967296] W (rdW_blk HS.out) HWD.out (Nat.le_refl _) (by decide)).mono ?_
  rw [HV.out]
  rintro e w2 ⟨k, b2, A2, n2, c2, rfl, h2⟩
  have HB2 := Lib.hid (HW.out.trans (k.mono HW.out.size))
  have HG2 := Lib.hid (HG.out.below k HG.out.lt)
  have H2 := Lib.hid h2
  clear k h2 HG HS HW
  have z0 := HG2.out.cell 0
  have z1 := HG2.out.cell 1
  have zf := HG2.out.frozen
  have zl := HG2.out.lt
  go_wp2_with fail
  generalize hW9 : (w2.setCell ⟨_, 0, none⟩ _).setCell ⟨_, 1, none⟩ _ = W9
  have HP9 := Lib.hid (lg_put (e := .returned (.agg #[.bool b2, .slice A2 n2 c2])) HB2.out hgs HG2.out (by simp) (by simp) H2.out rfl)
  rw [hW9] at HP9
  have HB9 : Hid (Blk W9 _ 91 #[.bool b2, .slice A2 n2 c2]) := Lib.hid (by rw [← hW9]; exact blk_set2 HG2.out)
  clear hW9 z0 z1 zf zl
  have q0 := HB9.out.cell 0
  have q1 := HB9.out.cell 1
  exact bodyPost_ret (v := .agg #[.bool b2, .slice A2 n2 c2]) (by simp [results, Tryz.results90, go_sem, q0, q1]) rfl HP9.out
end
section
open Go.ChangeShapes Go.WideShapes Go.ChangeAt Go.RowKit
attribute [local go_sem ↓] execOp_call_val
attribute [local go_sem] callVal_func setCell_drewN alloc_drewN
def CmpIs (x y : Nat) (r : Int) : Prop := (r < 0 ↔ x < y) ∧ (r = 0 ↔ x = y)
theorem cmpIs_len {x y : Nat} (h : dlen x ≠ dlen y) : CmpIs x y ((dlen x : Int) - (dlen y : Int)) := by
 rcases Nat.lt_or_gt_of_ne h with h1 | h1
 ·have := lt_of_dlen h1
  exact ⟨by omega, by omega⟩
 ·have := lt_of_dlen h1
  exact ⟨by omega, by omega⟩
theorem cmpIs_lt {x y : Nat} (h : x < y) : CmpIs x y (-1) := ⟨by omega, by omega⟩
theorem cmpIs_gt {x y : Nat} (h : y < x) : CmpIs x y 1 := ⟨by omega, by omega⟩
theorem cmpIs_eq {x y : Nat} (h : x = y) : CmpIs x y 0 := ⟨by omega, by omega⟩
def CmpP (x y : Nat) (w : World) (e : Ending) (w' : World) : Prop := (∃ r : Int, e = .returned (.int .i64 r) ∧ CmpIs x y r) ∧ ∃ nq, w' = w.drewN nq
set_option maxHeartbeats 1000000 in
theorem cmpW_any (A : Option Addr) (n c : Nat) (B : Option Addr) (m d : Nat) (x y : Nat) (w : World) (hx : RdW w w.heap.size A n (dig x)) (hy : RdW w w.heap.size B m (dig y)) (hn : n ≤ 9223372036854775807) (hm : m ≤ 9223372036854775807) :
    Calls Tryz.prog 119 #[.slice A n c, .slice B m d] w (CmpP x y w) := by
 have hxl := hx.len
 have hyl := hy.len
 have HX := Lib.hid hx
 have HY := Lib.hid hy
 have HXL : Hid (dlen x = n) := Lib.hid hxl
 have HYL : Hid (dlen y = m) := Lib.hid hyl
 clear hx hy hxl hyl
 go_enter Tryz.func119, Tryz.ntmps119
 by_cases hnm : n = m
 ·subst hnm
  have HLL : Hid ((dig x).length = (dig y).length) := Lib.hid (by rw [dig_len, dig_len, HXL.out, HYL.out])
  go_wp2_with fail
  go_loopw [5] (fun v5 wr => ∃ k : Nat, k ≤ n ∧ v5 = .int .i64 ((k : Int) - 1) ∧ (dig x).drop k = (dig y).drop k ∧ ∃ nq, wr = w.drewN nq) (fun v5 _ => (intOf v5 + 1).toNat)
  case atStart => exact ⟨n, Nat.le_refl _, rfl, by rw [List.drop_eq_nil_of_le (by rw [dig_len, HXL.out]; exact Nat.le_refl _), List.drop_eq_nil_of_le (by rw [dig_len, HYL.out]; exact Nat.le_refl _)], 0, rfl⟩
  case round =>
   obtain ⟨k, hk, rfl, hd, nq, rfl⟩ := hrel
   have HD := Lib.hid hd
   clear hd
   by_cases h0 : k = 0
   ·subst h0
    have HE : Hid (x = y) := Lib.hid (by have := HD.out; simp at this; rw [← wv_dig x, this, wv_dig])
    have e : (((0 : Nat) : Int) - 1) = -1 := rfl
    rw [e]
    clear e
    go_wp2_with fail
    go_ret
    exact ⟨⟨0, rfl, cmpIs_eq HE.out⟩, nq, rfl⟩
   ·obtain ⟨j, rfl⟩ : ∃ j, k = j + 1 := ⟨k - 1, by omega⟩
    have e : (((j + 1 : Nat) : Int) - 1) = (j : Int) := by omega
    rw [e]
    clear e h0
    have hj : j < n := hk
    obtain ⟨b1, o1, hA1, hb1⟩ := HX.out.form (by omega)
    subst hA1
    obtain ⟨b2, o2, hA2, hb2⟩ := HY.out.form (by omega)
    subst hA2
    have hcx := HX.out.at_ hj
    have hcy := HY.out.at_ hj
    have HC := Lib.hid (fun h => wv_cmp (wd_dig x) HLL.out (i := j) (by rw [dig_len, HXL.out]; exact hj) HD.out h)
    have HC2 := Lib.hid (fun h => wv_cmp (wd_dig y) HLL.out.symm (i := j) (by rw [dig_len, HYL.out]; exact hj) HD.out.symm h)
    have HQ := Lib.hid (fun h => drop_eq_step HLL.out (i := j) (by rw [dig_len, HXL.out]; exact hj) HD.out h)
    obtain ⟨xj, hxj⟩ : ∃ v, (dig x).getD j 0 = v := ⟨_, rfl⟩
    obtain ⟨yj, hyj⟩ : ∃ v, (dig y).getD j 0 = v := ⟨_, rfl⟩
    have HXJ := Lib.hid hxj
    have HYJ := Lib.hid hyj
    rw [hxj] at hcx
    rw [hyj] at hcy
    clear hxj hyj
    have hjI : (j : Int) < (n : Int) := by omega
    rcases Nat.lt_trichotomy xj yj with h | h | h
    ·have HR : Hid (x < y) := Lib.hid (by have := HC.out (by rw [HXJ.out, HYJ.out]; exact h); rwa [wv_dig, wv_dig] at this)
     have t1 : ((xj : Int) != (yj : Int)) = true := by simp; omega
     have t1' : ((xj : Int) == (yj : Int)) = false := by simp; omega
     have t2 : decide (xj < yj) = true := by simpa using h
     clear h
     go_wp2_with fail
     go_quiet (fail)
     go_wp2_with fail
     go_quiet (fail)
     go_wp2_with fail
     go_ret
     exact ⟨⟨-1, rfl, cmpIs_lt HR.out⟩, _, by rw [World.drewN_drewN, World.drewN_drewN]⟩
    ·subst h
     have HR := Lib.hid (HQ.out (by rw [HXJ.out, HYJ.out]))
     go_wp2_with fail
     go_quiet (fail)
     go_wp2_with fail
     go_roundw
     case rel => exact ⟨j, by omega, by go_num, HR.out, _, rfl⟩
     case measure => simp [intOf]
    ·have HR : Hid (y < x) := Lib.hid (by have := HC2.out (by rw [HXJ.out, HYJ.out]; exact h); rwa [wv_dig, wv_dig] at this)
     have t1 : ((xj : Int) != (yj : Int)) = true := by simp; omega
     have t1' : ((xj : Int) == (yj : Int)) = false := by simp; omega
     have t2 : decide (xj < yj) = false := by simp; omega
     clear h
     go_wp2_with fail
     go_quiet (fail)
     go_wp2_with fail
     go_quiet (fail)
     go_wp2_with fail
     go_ret
     exact ⟨⟨1, rfl, cmpIs_gt HR.out⟩, _, by rw [World.drewN_drewN, World.drewN_drewN]⟩
 ·have HR := Lib.hid (cmpIs_len (x := x) (y := y) (by rw [HXL.out, HYL.out]; exact hnm))
  rw [HXL.out, HYL.out] at HR
  have h1 : ((n : Int) == (m : Int)) = false := by simp; omega
  have h2 : ((n : Int) != (m : Int)) = true := by simp; omega
  clear hnm
  go_wp2_with fail
  go_ret
  exact ⟨⟨_, rfl, HR.out⟩, 0, rfl⟩
end
section
open Go.ChangeShapes Go.WideShapes Go.ChangeAt Go.RowKit
attribute [local go_sem ↓] execOp_call_val
attribute [local go_sem] callVal_func setCell_drewN alloc_drewN
structure AddInv (a b : List Nat) (n k cc : Nat) (out : List Nat) : Prop where
 len : out.length = n + 1
 od : Wd out
 oz : Zf out k
 c1 : cc ≤ 1
 eq : wv out + cc * BB k = wv (a.take k) + wv (b.take k)
theorem AddInv.step {a b out : List Nat} {n k cc : Nat} (H : AddInv a b n k cc out) (ha : Wd a) (hb : Wd b) (hk : k < n) : AddInv a b n (k + 1) ((cc + a.getD k 0 + b.getD k 0) / 4294967296) (out.set k ((cc + a.getD k 0 + b.getD k 0) % 4294967296)) := by
 have hl := H.len
 obtain ⟨h1, h2⟩ := add_step ha hb (by omega) H.oz H.c1 H.eq
 exact ⟨by rw [List.length_set]; exact hl, H.od.set _ (Nat.mod_lt _ (by decide)), H.oz.put, h1, h2⟩
set_option maxHeartbeats 2000000 in
theorem addW0 (A : Option Addr) (n c : Nat) (B : Option Addr) (m d : Nat) (a0 b0 : List Nat) (w : World) (ha : RdW w w.heap.size A n a0) (hb : RdW w w.heap.size B m b0) (had : Wd a0) (hbd : Wd b0) (hn : n ≤ 35184372088832) (hm : m ≤ 35184372088832) :
    Calls Tryz.prog 118 #[.slice A n c, .slice B m d] w (OutWP (wv a0 + wv b0) w) := by
 have HA := Lib.hid ha
 have HB := Lib.hid hb
 have HAD := Lib.hid had
 have HBD := Lib.hid hbd
 clear ha hb had hbd
 go_enter Tryz.func118, Tryz.ntmps118
 go_upto_if 12 with fail
 go_cut [0, 1] (fun v0 v1 wc => wc = w ∧ ∃ A n c B m d a b, v0 = .slice A n c ∧ v1 = .slice B m d ∧ RdW w w.heap.size A n a ∧ RdW w w.heap.size B m b ∧ Wd a ∧ Wd b ∧ m ≤ n ∧ n ≤ 35184372088832 ∧ wv a + wv b = wv a0 + wv b0)
 case first =>
  by_cases hnm : n < m
  ·go_wp2_with fail
   go_meet
   case rel => exact ⟨rfl, _, _, _, _, _, _, _, _, rfl, rfl, HB.out, HA.out, HBD.out, HAD.out, by omega, hm, by omega⟩
  ·go_wp2_with fail
   go_meet
   case rel => exact ⟨rfl, _, _, _, _, _, _, _, _, rfl, rfl, HA.out, HB.out, HAD.out, HBD.out, by omega, hn, rfl⟩
 clear HA HB HAD HBD hn hm
 obtain ⟨rfl, A, n, c, B, m, d, a, b, rfl, rfl, ha, hb, had, hbd, hmn, hn, hv⟩ := hcut
 have HA := Lib.hid ha
 have HB := Lib.hid hb
 have HAD := Lib.hid had
 have HBD := Lib.hid hbd
 have HV := Lib.hid hv
 have HAL := Lib.hid ha.len
 have HBL := Lib.hid hb.len
 clear ha hb had hbd hv
 generalize wc = w at *
 have hmk : ∀ w : World, (Instr.makeSlice 89 (.int .i64 ((n : Int) + 1)) (.int .i64 ((n : Int) + 1))).run Tryz.prog w = .ok (.slice (some ⟨w.heap.size, 0, none⟩) (n + 1) (n + 1)) (w.alloc (.cells (u32s (List.replicate (n + 1) 0)).toArray 171)) := fun w => make_u32 (n + 1) (by omega) w
 have HK := Lib.hid ((Below.refl w.heap.size w).alloc (Nat.le_refl _) (.cells (u32s (List.replicate (n + 1) 0)).toArray 171))
 have HG := Lib.hid (Blk.new w 171 (u32s (List.replicate (n + 1) 0)).toArray)
 go_wp2_with fail
 clear hmk
 generalize w.alloc (.cells (u32s (List.replicate (n + 1) 0)).toArray 171) = W at *
 generalize hg : w.heap.size = g at *
 have HGS := Lib.hid hg
 clear hg
 go_loopw [6, 21] (fun v6 v21 wr => ∃ (k cc : Nat) (out : List Nat), k ≤ n ∧ v21 = .int .i64 k ∧ v6 = .int .u64 cc ∧ Below g w wr ∧ Blk wr g 171 (u32s out).toArray ∧ AddInv a b n k cc out) (fun _ v21 _ => n - (intOf v21).toNat)
 case atStart => exact ⟨0, 0, _, by omega, rfl, rfl, HK.out, HG.out, ⟨by simp, wd_zeros _, zf_zeros _ _, by omega, by rw [wv_zeros]; simp [wv]⟩⟩
 case round =>
  clear HK HG
  obtain ⟨k, cc, out, hk, rfl, rfl, hb, hg, hI⟩ := hrel
  have HK := Lib.hid hb
  have HG := Lib.hid hg
  have HI := Lib.hid hI
  clear hb hg hI
  have hcc := HI.out.c1
  have hgl := HG.out.lt
  have hgf := HG.out.frozen
  by_cases hlt : k < n
  ·obtain ⟨ab, ao, hA1, hab⟩ := HA.out.form (by omega)
   subst hA1
   have hca := (HA.out.lift HK.out (by omega)).at_ hlt
   have hcg := blkW_cell HG.out (i := k) (by rw [HI.out.len]; omega)
   have HN := Lib.hid (HI.out.step HAD.out HBD.out hlt)
   have hx := HAD.out.getD k
   have hy := HBD.out.getD k
   obtain ⟨x, hxx⟩ : ∃ x, a.getD k 0 = x := ⟨_, rfl⟩
   obtain ⟨y, hyy⟩ : ∃ y, b.getD k 0 = y := ⟨_, rfl⟩
   have HYY := Lib.hid hyy
   rw [hxx] at hca hx
   rw [hyy] at hy
   rw [hxx, hyy] at HN
   obtain ⟨z, hzz⟩ : ∃ z, out.getD k 0 = z := ⟨_, rfl⟩
   rw [hzz] at hcg
   clear hxx hyy hzz
   have hab2 : ab < wr.heap.size := by omega
   have hkI : (k : Int) < (n : Int) := by omega
   by_cases hkm : k < m
   ·obtain ⟨bb, bo, hB1, hbb⟩ := HB.out.form (by omega)
    subst hB1
    have hcb := (HB.out.lift HK.out (by omega)).at_ hkm
    rw [HYY.out] at hcb
    have hbb2 : bb < wr.heap.size := by omega
    have hkmI : (k : Int) < (m : Int) := by omega
    go_wp2_with fail
    go_roundw
    case rel => exact ⟨k + 1, (cc + x + y) / 4294967296, out.set k ((cc + x + y) % 4294967296), by omega, by go_num, val_int (by omega), HK.out.setCell (Nat.le_refl _) _, blkW_set HG.out (by omega), HN.out⟩
    case measure => simp [intOf]; omega
   ·have hy0 : y = 0 := by rw [← HYY.out]; exact wd_out (by rw [HBL.out]; omega)
    subst hy0
    have hkmI : ¬ (k : Int) < (m : Int) := by omega
    go_wp2_with fail
    go_roundw
    case rel => exact ⟨k + 1, (cc + x + 0) / 4294967296, out.set k ((cc + x + 0) % 4294967296), by omega, by go_num, val_int (by omega), HK.out.setCell (Nat.le_refl _) _, blkW_set HG.out (by omega), HN.out⟩
    case measure => simp [intOf]; omega
  ·have hke : k = n := by omega
   subst hke
   have hcg := blkW_cell HG.out (i := k) (by rw [HI.out.len]; omega)
   obtain ⟨z, hzz⟩ : ∃ z, out.getD k 0 = z := ⟨_, rfl⟩
   rw [hzz] at hcg
   clear hzz
   have g1 : (k : Int) < (k : Int) + 1 := by omega
   have HE : Hid (wv (out.set k cc) = wv a0 + wv b0) := Lib.hid (by
    rw [add_end (v := wv a0 + wv b0) (by rw [HI.out.len]; omega) HI.out.oz]
    rw [HI.out.eq, List.take_of_length_le (by rw [HAL.out]; exact Nat.le_refl _), List.take_of_length_le (by rw [HBL.out]; exact hmn)]
    exact HV.out)
   have HW : Hid (Wd (out.set k cc)) := Lib.hid (HI.out.od.set _ (by omega))
   have HLN : Hid ((out.set k cc).length = k + 1) := Lib.hid (by rw [List.length_set]; exact HI.out.len)
   go_wp2_with fail
   go_ret
   exact outWP_blk (by rw [HGS.out]; exact HK.out.setCell (Nat.le_refl _) _) (blkW_set HG.out rfl) HLN.out HW.out HE.out (by omega) rfl
end
section
open Go.ChangeShapes Go.WideShapes Go.ChangeAt Go.RowKit
attribute [local go_sem ↓] execOp_call_val
attribute [local go_sem] callVal_func setCell_drewN alloc_drewN
structure SubInv (a b : List Nat) (n k : Nat) (cc : Int) (out : List Nat) : Prop where
 len : out.length = n
 od : Wd out
 oz : Zf out k
 c1 : -1 ≤ cc
 c2 : cc ≤ 0
 eq : (wv out : Int) + cc * (BB k : Int) = (wv (a.take k) : Int) - (wv (b.take k) : Int)
theorem SubInv.step {a b out : List Nat} {n k : Nat} {cc : Int} (H : SubInv a b n k cc out) (ha : Wd a) (hb : Wd b) (hk : k < n) : SubInv a b n (k + 1) ((cc + a.getD k 0 - b.getD k 0) / 4294967296) (out.set k ((cc + a.getD k 0 - b.getD k 0) % 4294967296).toNat) := by
 have hl := H.len
 obtain ⟨h1, h2, h3⟩ := sub_step ha hb (by omega) H.oz H.c1 H.c2 H.eq
 exact ⟨by rw [List.length_set]; exact hl, H.od.set _ (by omega), H.oz.put, h1, h2, h3⟩
set_option maxHeartbeats 2000000 in
theorem subW0 (A : Option Addr) (n c : Nat) (B : Option Addr) (m d : Nat) (a b : List Nat) (w : World) (ha : RdW w w.heap.size A n a) (hb : RdW w w.heap.size B m b) (had : Wd a) (hbd : Wd b) (hn : n ≤ 35184372088832) (hmn : m ≤ n) (hle : wv b ≤ wv a) :
    Calls Tryz.prog 120 #[.slice A n c, .slice B m d] w (OutWP (wv a - wv b) w) := by
 have HA := Lib.hid ha
 have HB := Lib.hid hb
 have HAD := Lib.hid had
 have HBD := Lib.hid hbd
 have HAL := Lib.hid ha.len
 have HBL := Lib.hid hb.len
 have HLE := Lib.hid hle
 clear ha hb had hbd hle
 have hmk : ∀ w : World, (Instr.makeSlice 89 (.int .i64 (n : Int)) (.int .i64 (n : Int))).run Tryz.prog w = .ok (.slice (some ⟨w.heap.size, 0, none⟩) n n) (w.alloc (.cells (u32s (List.replicate n 0)).toArray 171)) := fun w => make_u32 n (by omega) w
 have HK := Lib.hid ((Below.refl w.heap.size w).alloc (Nat.le_refl _) (.cells (u32s (List.replicate n 0)).toArray 171))
 have HG := Lib.hid (Blk.new w 171 (u32s (List.replicate n 0)).toArray)
 go_enter Tryz.func120, Tryz.ntmps120
 go_wp2_with fail
 clear hmk
 generalize w.alloc (.cells (u32s (List.replicate n 0)).toArray 171) = W at *
 generalize hg : w.heap.size = g at *
 have HGS := Lib.hid hg
 clear hg
 go_loopw [6, 13] (fun v6 v13 wr => ∃ (k : Nat) (cc : Int) (out : List Nat), k ≤ n ∧ v13 = .int .i64 k ∧ v6 = .int .i64 cc ∧ Below g w wr ∧ Blk wr g 171 (u32s out).toArray ∧ SubInv a b n k cc out) (fun _ v13 _ => n - (intOf v13).toNat)
 case atStart => exact ⟨0, 0, _, by omega, rfl, rfl, HK.out, HG.out, ⟨by simp, wd_zeros _, zf_zeros _ _, by omega, by omega, by rw [wv_zeros]; simp [wv]⟩⟩
 case round =>
  clear HK HG
  obtain ⟨k, cc, out, hk, rfl, rfl, hb, hg, hI⟩ := hrel
  have HK := Lib.hid hb
  have HG := Lib.hid hg
  have HI := Lib.hid hI
  clear hb hg hI
  have hcc := HI.out.c1
  have hcc2 := HI.out.c2
  have hgl := HG.out.lt
  have hgf := HG.out.frozen
  by_cases hlt : k < n
  ·obtain ⟨ab, ao, hA1, hab⟩ := HA.out.form (by omega)
   subst hA1
   have hca := (HA.out.lift HK.out (by omega)).at_ hlt
   have hcg := blkW_cell HG.out (i := k) (by rw [HI.out.len]; omega)
   have HN := Lib.hid (HI.out.step HAD.out HBD.out hlt)
   have hx := HAD.out.getD k
   have hy := HBD.out.getD k
   obtain ⟨x, hxx⟩ : ∃ x, a.getD k 0 = x := ⟨_, rfl⟩
   obtain ⟨y, hyy⟩ : ∃ y, b.getD k 0 = y := ⟨_, rfl⟩
   have HYY := Lib.hid hyy
   rw [hxx] at hca hx
   rw [hyy] at hy
   rw [hxx, hyy] at HN
   obtain ⟨z, hzz⟩ : ∃ z, out.getD k 0 = z := ⟨_, rfl⟩
   rw [hzz] at hcg
   clear hxx hyy hzz
   have hab2 : ab < wr.heap.size := by omega
   have hkI : (k : Int) < (n : Int) := by omega
   by_cases hkm : k < m
   ·obtain ⟨bb, bo, hB1, hbb⟩ := HB.out.form (by omega)
    subst hB1
    have hcb := (HB.out.lift HK.out (by omega)).at_ hkm
    rw [HYY.out] at hcb
    have hbb2 : bb < wr.heap.size := by omega
    have hkmI : (k : Int) < (m : Int) := by omega
    go_wp2_with fail
    go_roundw
    case rel => exact ⟨k + 1, _, _, by omega, by go_num, val_int (by omega), HK.out.setCell (Nat.le_refl _) _, blkW_set HG.out (by omega), HN.out⟩
    case measure => simp [intOf]; omega
   ·have hy0 : y = 0 := by rw [← HYY.out]; exact wd_out (by rw [HBL.out]; omega)
    subst hy0
    have hkmI : ¬ (k : Int) < (m : Int) := by omega
    go_wp2_with fail
    go_roundw
    case rel => exact ⟨k + 1, _, _, by omega, by go_num, val_int (by omega), HK.out.setCell (Nat.le_refl _) _, blkW_set HG.out (by omega), HN.out⟩
    case measure => simp [intOf]; omega
  ·have hke : k = n := by omega
   subst hke
   have HE : Hid (wv out = wv a - wv b) := Lib.hid (by
    have h := HI.out.eq
    rw [List.take_of_length_le (by rw [HAL.out]; exact Nat.le_refl _), List.take_of_length_le (by rw [HBL.out]; exact hmn)] at h
    rw [← HI.out.len] at h
    exact sub_end HI.out.c1 HI.out.c2 HI.out.od HLE.out h)
   go_wp2_with fail
   go_ret
   exact outWP_blk (by rw [HGS.out]; exact HK.out) HG.out HI.out.len HI.out.od HE.out (by omega) rfl
end
section
open Go.ChangeShapes Go.WideShapes Go.ChangeAt Go.RowKit
attribute [local go_sem ↓] execOp_call_val
attribute [local go_sem] callVal_func setCell_drewN alloc_drewN
structure SdvInv (a : List Nat) (n d k r : Nat) (out : List Nat) : Prop where
 len : out.length = n
 od : Wd out
 rd : r < d
 eq : wv (a.drop k) = d * wv (out.drop k) + r
theorem SdvInv.step {a out : List Nat} {n d k r : Nat} (H : SdvInv a n d (k + 1) r out) (ha : Wd a) (hl : a.length = n) (hd : 0 < d) (hd2 : d < 4294967296) (hk : k < n) : (r * 4294967296 + a.getD k 0) / d < 4294967296 ∧ SdvInv a n d k ((r * 4294967296 + a.getD k 0) % d) (out.set k ((r * 4294967296 + a.getD k 0) / d)) := by
 have hl2 := H.len
 obtain ⟨h1, h2⟩ := sdiv_step ha (by omega) hd hd2 H.rd (by omega) H.eq
 exact ⟨h1, by rw [List.length_set]; exact hl2, H.od.set _ h1, Nat.mod_lt _ hd, h2⟩
def SdvP (v d : Nat) (w : World) (e : Ending) (w' : World) : Prop := Below w.heap.size w w' ∧ ∃ g n l, e = .returned (.tuple #[.slice (some ⟨g, 0, none⟩) n n, .int .u32 ((v % d : Nat) : Int)]) ∧ RdW w' w'.heap.size (some ⟨g, 0, none⟩) n l ∧ Wd l ∧ wv l = v / d ∧ n ≤ 35184372088832 ∧ w.heap.size ≤ g
theorem sdvP_mk {v d g n t : Nat} {l : List Nat} {w w' : World} {e : Ending} {r : Nat} (hb : Below w.heap.size w w') (hg : Blk w' g t (u32s l).toArray) (hl : l.length = n) (hd : Wd l) (hn : n ≤ 35184372088832) (hgw : w.heap.size ≤ g) (hr : r < d) (hv : v = d * wv l + r) (he : e = .returned (.tuple #[.slice (some ⟨g, 0, none⟩) n n, .int .u32 (r : Int)])) : SdvP v d w e w' := by
 have h1 : v / d = wv l := by rw [hv, Nat.mul_add_div (by omega), Nat.div_eq_of_lt hr, Nat.add_zero]
 have h2 : v % d = r := by rw [hv, Nat.mul_add_mod, Nat.mod_eq_of_lt hr]
 refine ⟨hb, g, n, l, by rw [he, h2], by subst hl; exact rdW_blk hg, hd, h1.symm, hn, hgw⟩
set_option maxHeartbeats 2000000 in
theorem sdivW (A : Option Addr) (n c : Nat) (d : Nat) (a : List Nat) (w : World) (ha : RdW w w.heap.size A n a) (had : Wd a) (hn : n ≤ 35184372088832) (hd : 0 < d) (hd2 : d < 4294967296) :
    Calls Tryz.prog 121 #[.slice A n c, .int .u32 (d : Int)] w (SdvP (wv a) d w) := by
 have HA := Lib.hid ha
 have HAD := Lib.hid had
 have HAL := Lib.hid ha.len
 clear ha had
 have hmk : ∀ w : World, (Instr.makeSlice 89 (.int .i64 (n : Int)) (.int .i64 (n : Int))).run Tryz.prog w = .ok (.slice (some ⟨w.heap.size, 0, none⟩) n n) (w.alloc (.cells (u32s (List.replicate n 0)).toArray 171)) := fun w => make_u32 n (by omega) w
 have HK := Lib.hid ((Below.refl w.heap.size w).alloc (Nat.le_refl _) (.cells (u32s (List.replicate n 0)).toArray 171))
 have HG := Lib.hid (Blk.new w 171 (u32s (List.replicate n 0)).toArray)
 go_enter Tryz.func121, Tryz.ntmps121
 go_wp2_with fail
 clear hmk
 generalize w.alloc (.cells (u32s (List.replicate n 0)).toArray 171) = W at *
 generalize hg : w.heap.size = g at *
 have HGS := Lib.hid hg
 clear hg
 go_loopw [7, 8] (fun v7 v8 wr => ∃ (k r : Nat) (out : List Nat), k ≤ n ∧ v8 = .int .i64 ((k : Int) - 1) ∧ v7 = .int .u64 r ∧ Below g w wr ∧ Blk wr g 171 (u32s out).toArray ∧ SdvInv a n d k r out) (fun _ v8 _ => (intOf v8 + 1).toNat)
 case atStart => exact ⟨n, 0, _, Nat.le_refl _, rfl, rfl, HK.out, HG.out, ⟨by simp, wd_zeros _, hd, by rw [List.drop_eq_nil_of_le (by rw [HAL.out]; exact Nat.le_refl _), List.drop_eq_nil_of_le (by simp)]; simp [wv]⟩⟩
 case round =>
  clear HK HG
  obtain ⟨k, r, out, hk, rfl, rfl, hb, hg, hI⟩ := hrel
  have HK := Lib.hid hb
  have HG := Lib.hid hg
  have HI := Lib.hid hI
  clear hb hg hI
  have hgl := HG.out.lt
  have hgf := HG.out.frozen
  have hrd := HI.out.rd
  by_cases h0 : k = 0
  ·subst h0
   have HE : Hid (wv a = d * wv out + r) := Lib.hid (by have := HI.out.eq; simpa using this)
   have e : (((0 : Nat) : Int) - 1) = -1 := rfl
   rw [e]
   clear e
   go_wp2_with fail
   go_ret2
   exact sdvP_mk (by rw [HGS.out]; exact HK.out) HG.out HI.out.len HI.out.od hn (by rw [HGS.out]; exact Nat.le_refl _) HI.out.rd HE.out rfl
  ·obtain ⟨j, rfl⟩ : ∃ j, k = j + 1 := ⟨k - 1, by omega⟩
   have e : (((j + 1 : Nat) : Int) - 1) = (j : Int) := by omega
   rw [e]
   clear e h0
   have hj : j < n := hk
   obtain ⟨ab, ao, hA1, hab⟩ := HA.out.form (by omega)
   subst hA1
   have hca := (HA.out.lift HK.out (by omega)).at_ hj
   have hcg := blkW_cell HG.out (i := j) (by rw [HI.out.len]; omega)
   have HN := Lib.hid (HI.out.step HAD.out HAL.out hd hd2 hj)
   have hx := HAD.out.getD j
   obtain ⟨x, hxx⟩ : ∃ x, a.getD j 0 = x := ⟨_, rfl⟩
   rw [hxx] at hca hx HN
   obtain ⟨z, hzz⟩ : ∃ z, out.getD j 0 = z := ⟨_, rfl⟩
   rw [hzz] at hcg
   clear hxx hzz
   have hab2 : ab < wr.heap.size := by omega
   have hjI : (j : Int) < (n : Int) := by omega
   have hr32 : r < 4294967296 := by omega
   have hor : bits BinOp.or IntKind.u64 ((r : Int) * 4294967296) (x : Int) = ((r * 4294967296 + x : Nat) : Int) := or_words r x 32 (by omega) hr32 hx
   have hsl : r * 4294967296 + x < 18446744073709551616 := by omega
   generalize r * 4294967296 + x = s at hor hsl HN
   have htm := tmod_nat s d
   have htd := tdiv_nat s d
   have hql := HN.out.1
   have HN2 := Lib.hid HN.out.2
   clear HN
   generalize s / d = q at *
   generalize s % d = t at *
   have hwq : IntKind.u64.wrap (q : Int) = (q : Int) := Go.IntWalk.u64_in _ (by omega)
   go_wp2_with fail
   go_roundw
   case rel => exact ⟨j, t, _, by omega, rfl, rfl, HK.out.setCell (Nat.le_refl _) _, blkW_set HG.out (by omega), HN2.out⟩
   case measure => simp [intOf]
end
section
open Go.ChangeShapes Go.WideShapes Go.ChangeAt Go.RowKit
attribute [local go_sem ↓] execOp_call_val
attribute [local go_sem] callVal_func setCell_drewN alloc_drewN
structure ShInv (a : List Nat) (n s k cc : Nat) (out : List Nat) : Prop where
 len : out.length = n + 1
 od : Wd out
 oz : Zf out k
 c1 : cc < 2 ^ s
 eq : wv out + cc * BB k = wv (a.take k) * 2 ^ s
theorem ShInv.step {a out : List Nat} {n s k cc : Nat} (H : ShInv a n s k cc out) (ha : Wd a) (hs : s ≤ 31) (hk : k < n) : cc + a.getD k 0 * 2 ^ s < 18446744073709551616 ∧ ShInv a n s (k + 1) ((cc + a.getD k 0 * 2 ^ s) / 4294967296) (out.set k ((cc + a.getD k 0 * 2 ^ s) % 4294967296)) := by
 have hl := H.len
 obtain ⟨h1, h2, h3⟩ := sh_step ha hs (by omega) H.oz H.c1 H.eq
 exact ⟨h1, by rw [List.length_set]; exact hl, H.od.set _ (Nat.mod_lt _ (by decide)), H.oz.put, h2, h3⟩
def OutLP (v n : Nat) (w : World) (e : Ending) (w' : World) : Prop := Below w.heap.size w w' ∧ ∃ g l, e = .returned (.slice (some ⟨g, 0, none⟩) n n) ∧ w.heap.size ≤ g ∧ Blk w' g 171 (u32s l).toArray ∧ Wd l ∧ wv l = v ∧ l.length = n
set_option maxHeartbeats 2000000 in
theorem shW (A : Option Addr) (n c : Nat) (s : Nat) (a : List Nat) (w : World) (ha : RdW w w.heap.size A n a) (had : Wd a) (hn : n ≤ 35184372088832) (hs : s ≤ 31) :
    Calls Tryz.prog 158 #[.slice A n c, .int .i64 (s : Int)] w (OutLP (wv a * 2 ^ s) (n + 1) w) := by
 have HA := Lib.hid ha
 have HAD := Lib.hid had
 have HAL := Lib.hid ha.len
 clear ha had
 have hmk : ∀ w : World, (Instr.makeSlice 89 (.int .i64 ((n : Int) + 1)) (.int .i64 ((n : Int) + 1))).run Tryz.prog w = .ok (.slice (some ⟨w.heap.size, 0, none⟩) (n + 1) (n + 1)) (w.alloc (.cells (u32s (List.replicate (n + 1) 0)).toArray 171)) := fun w => make_u32 (n + 1) (by omega) w
 have HK := Lib.hid ((Below.refl w.heap.size w).alloc (Nat.le_refl _) (.cells (u32s (List.replicate (n + 1) 0)).toArray 171))
 have HG := Lib.hid (Blk.new w 171 (u32s (List.replicate (n + 1) 0)).toArray)
 go_enter Tryz.func158, Tryz.ntmps158
 go_wp2_with fail
 clear hmk
 generalize w.alloc (.cells (u32s (List.replicate (n + 1) 0)).toArray 171) = W at *
 generalize hg : w.heap.size = g at *
 have HGS := Lib.hid hg
 clear hg
 have HP : Hid (0 < 2 ^ s) := Lib.hid (Nat.pow_pos (by decide))
 go_loopw [6, 15] (fun v6 v15 wr => ∃ (k cc : Nat) (out : List Nat), k ≤ n ∧ v15 = .int .i64 k ∧ v6 = .int .u64 cc ∧ Below g w wr ∧ Blk wr g 171 (u32s out).toArray ∧ ShInv a n s k cc out) (fun _ v15 _ => n - (intOf v15).toNat)
 case atStart => exact ⟨0, 0, _, by omega, rfl, rfl, HK.out, HG.out, ⟨by simp, wd_zeros _, zf_zeros _ _, HP.out, by rw [wv_zeros]; simp [wv]⟩⟩
 case round =>
  clear HK HG
  obtain ⟨k, cc, out, hk, rfl, rfl, hb, hg, hI⟩ := hrel
  have HK := Lib.hid hb
  have HG := Lib.hid hg
  have HI := Lib.hid hI
  clear hb hg hI
  have hcc := HI.out.c1
  have hgl := HG.out.lt
  have hgf := HG.out.frozen
  by_cases hlt : k < n
  ·obtain ⟨ab, ao, hA1, hab⟩ := HA.out.form (by omega)
   subst hA1
   have hca := (HA.out.lift HK.out (by omega)).at_ hlt
   have hcg := blkW_cell HG.out (i := k) (by rw [HI.out.len]; omega)
   have HN := Lib.hid (HI.out.step HAD.out hs hlt)
   have hx := HAD.out.getD k
   obtain ⟨x, hxx⟩ : ∃ x, a.getD k 0 = x := ⟨_, rfl⟩
   rw [hxx] at hca hx HN
   obtain ⟨z, hzz⟩ : ∃ z, out.getD k 0 = z := ⟨_, rfl⟩
   rw [hzz] at hcg
   clear hxx hzz
   have hab2 : ab < wr.heap.size := by omega
   have hkI : (k : Int) < (n : Int) := by omega
   have HOR := Lib.hid (or_shift cc x s hcc HN.out.1)
   have HN2 := Lib.hid HN.out.2
   clear HN hcc
   go_wp2_with fail
   rw [HOR.out]
   generalize cc + x * 2 ^ s = t at *
   go_roundw
   case rel => exact ⟨k + 1, _, _, by omega, by go_num, val_int (by omega), HK.out.setCell (Nat.le_refl _) _, blkW_set HG.out (by omega), HN2.out⟩
   case measure => simp [intOf]; omega
  ·have hke : k = n := by omega
   subst hke
   have hcg := blkW_cell HG.out (i := k) (by rw [HI.out.len]; omega)
   obtain ⟨z, hzz⟩ : ∃ z, out.getD k 0 = z := ⟨_, rfl⟩
   rw [hzz] at hcg
   clear hzz
   have hc32 : cc < 4294967296 := Nat.lt_of_lt_of_le hcc (Nat.le_trans (Nat.pow_le_pow_right (by decide) hs) (by decide))
   have HE : Hid (wv (out.set k cc) = wv a * 2 ^ s) := Lib.hid (by
    rw [add_end (v := wv a * 2 ^ s) (by rw [HI.out.len]; omega) HI.out.oz]
    rw [HI.out.eq, List.take_of_length_le (by rw [HAL.out]; exact Nat.le_refl _)])
   have HW : Hid (Wd (out.set k cc)) := Lib.hid (HI.out.od.set _ hc32)
   have HLN : Hid ((out.set k cc).length = k + 1) := Lib.hid (by rw [List.length_set]; exact HI.out.len)
   have g1 : (k : Int) < (k : Int) + 1 := by omega
   clear hcc
   go_wp2_with fail
   go_ret
   exact ⟨by rw [HGS.out]; exact HK.out.setCell (Nat.le_refl _) _, g, _, rfl, Nat.le_of_eq HGS.out, blkW_set HG.out rfl, HW.out, HE.out, HLN.out⟩
end
section
open Go.ChangeShapes Go.WideShapes Go.ChangeAt Go.RowKit
attribute [local go_sem ↓] execOp_call_val
attribute [local go_sem] callVal_func setCell_drewN alloc_drewN
structure MulInv (a b : List Nat) (n m i : Nat) (out : List Nat) : Prop where
 len : out.length = n + m
 od : Wd out
 oz : Zf out (i + m)
 eq : wv out = wv (a.take i) * wv b
structure MulIn (a b : List Nat) (n m i x k cc : Nat) (out : List Nat) : Prop where
 len : out.length = n + m
 od : Wd out
 oz : Zf out (i + m)
 cl : cc < 4294967296
 eq : wv out + cc * BB (i + k) = wv (a.take i) * wv b + x * wv (b.take k) * BB i
theorem MulIn.step {a b out : List Nat} {n m i x k cc : Nat} (H : MulIn a b n m i x k cc out) (hb : Wd b) (hx : x < 4294967296) (hi : i < n) (hk : k < m) : cc + out.getD (i + k) 0 + x * b.getD k 0 < 18446744073709551616 ∧ MulIn a b n m i x (k + 1) ((cc + out.getD (i + k) 0 + x * b.getD k 0) / 4294967296) (out.set (i + k) ((cc + out.getD (i + k) 0 + x * b.getD k 0) % 4294967296)) := by
 have hl := H.len
 obtain ⟨h1, h2, h3⟩ := mul_step hb H.od hx H.cl (by omega) H.eq
 exact ⟨h1, by rw [List.length_set]; exact hl, H.od.set _ (Nat.mod_lt _ (by decide)), H.oz.set (by omega), h2, h3⟩
theorem MulIn.done {a b out : List Nat} {n m i cc : Nat} (H : MulIn a b n m i (a.getD i 0) m cc out) (hbl : b.length = m) (hi : i < n) : MulInv a b n m (i + 1) (out.set (i + m) cc) := by
 have hl := H.len
 have he := H.eq
 refine ⟨by rw [List.length_set]; exact hl, H.od.set _ H.cl, ?_, ?_⟩
 ·have := H.oz.put (x := cc)
  rwa [show i + m + 1 = i + 1 + m from by omega] at this
 ·subst hbl
  rw [List.take_of_length_le (Nat.le_refl _)] at he
  exact mul_end (by omega) H.oz he
theorem sgn_mul (y z : Int) : sgn (decide (y < 0) != decide (z < 0)) (y.natAbs * z.natAbs) = y * z := by
 rw [← Int.natAbs_mul]
 unfold sgn
 rcases Int.lt_trichotomy y 0 with hy | hy | hy
 ·rcases Int.lt_trichotomy z 0 with hz | hz | hz
  ·have := Int.mul_pos_of_neg_of_neg hy hz
   rw [if_neg (by simp [hy, hz])]; omega
  ·subst hz; simp
  ·have := Int.mul_neg_of_neg_of_pos hy hz
   rw [if_pos (by simp [hy]; omega)]; omega
 ·subst hy; simp
 ·rcases Int.lt_trichotomy z 0 with hz | hz | hz
  ·have := Int.mul_neg_of_pos_of_neg hy hz
   rw [if_pos (by simp [hz]; omega)]; omega
  ·subst hz; simp
  ·have := Int.mul_pos hy hz
   rw [if_neg (by simp; omega)]; omega
set_option maxRecDepth 100000 in
set_option maxHeartbeats 4000000 in
theorem lgmul_any (y z : Int) (b1 : Bool) (A : Option Addr) (n c : Nat) (b2 : Bool) (B : Option Addr) (m d : Nat) (w : World) (h1 : LgIs w w.heap.size y b1 A n c) (h2 : LgIs w w.heap.size z b2 B m d) (hnm : n + m ≤ 35184372088832) :
    Calls Tryz.prog 88 #[.agg #[.bool b1, .slice A n c], .agg #[.bool b2, .slice B m d]] w (LgP (y * z) w) := by
 have HB0 : Hid (Below w.heap.size w ((((w.alloc (.cells #[.bool b1, .slice A n c] 91)).alloc (.cells #[.bool b2, .slice B m d] 91)).alloc (.cells #[.bool false, .slice none 0 0] 91)).alloc (.cells (u32s (List.replicate (n + m) 0)).toArray 171))) := Lib.hid ((((Below.refl _ _).alloc (Nat.le_refl _) _).alloc (by simp) _).alloc (by simp; omega) _ |>.alloc (by simp; omega) _)
 have HX1 : Hid (Blk ((((w.alloc (.cells #[.bool b1, .slice A n c] 91)).alloc (.cells #[.bool b2, .slice B m d] 91)).alloc (.cells #[.bool false, .slice none 0 0] 91)).alloc (.cells (u32s (List.replicate (n + m) 0)).toArray 171)) w.heap.size 91 #[.bool b1, .slice A n c]) := Lib.hid ((((Blk.new w _ _).alloc _).alloc _).alloc _)
 have HX2 : Hid (Blk ((((w.alloc (.cells #[.bool b1, .slice A n c] 91)).alloc (.cells #[.bool b2, .slice B m d] 91)).alloc (.cells #[.bool false, .slice none 0 0] 91)).alloc (.cells (u32s (List.replicate (n + m) 0)).toArray 171)) (w.heap.size + 1) 91 #[.bool b2, .slice B m d]) := Lib.hid (((Blk.new_ (by simp)).alloc _).alloc _)
 have HR : Hid (Blk ((((w.alloc (.cells #[.bool b1, .slice A n c] 91)).alloc (.cells #[.bool b2, .slice B m d] 91)).alloc (.cells #[.bool false, .slice none 0 0] 91)).alloc (.cells (u32s (List.replicate (n + m) 0)).toArray 171)) (w.heap.size + 1 + 1) 91 #[.bool false, .slice none 0 0]) := Lib.hid ((Blk.new_ (by simp)).alloc _)
 have HG : Hid (Blk ((((w.alloc (.cells #[.bool b1, .slice A n c] 91)).alloc (.cells #[.bool b2, .slice B m d] 91)).alloc (.cells #[.bool false, .slice none 0 0] 91)).alloc (.cells (u32s (List.replicate (n + m) 0)).toArray 171)) (w.heap.size + 1 + 1 + 1) 171 (u32s (List.replicate (n + m) 0)).toArray) := Lib.hid (Blk.new_ (by simp))
 have HA : Hid (RdW ((((w.alloc (.cells #[.bool b1, .slice A n c] 91)).alloc (.cells #[.bool b2, .slice B m d] 91)).alloc (.cells #[.bool false, .slice none 0 0] 91)).alloc (.cells (u32s (List.replicate (n + m) 0)).toArray 171)) w.heap.size A n (dig y.natAbs)) := Lib.hid (h1.rd.below HB0.out (Nat.le_refl _))
 have HB : Hid (RdW ((((w.alloc (.cells #[.bool b1, .slice A n c] 91)).alloc (.cells #[.bool b2, .slice B m d] 91)).alloc (.cells #[.bool false, .slice none 0 0] 91)).alloc (.cells (u32s (List.replicate (n + m) 0)).toArray 171)) w.heap.size B m (dig z.natAbs)) := Lib.hid (h2.rd.below HB0.out (Nat.le_refl _))
 have HE1 := Lib.hid h1.eb
 have HE2 := Lib.hid h2.eb
 have HAL : Hid ((dig y.natAbs).length = n) := Lib.hid h1.en.symm
 have HBL : Hid ((dig z.natAbs).length = m) := Lib.hid h2.en.symm
 have HWA : Hid (wv (dig y.natAbs) = y.natAbs) := Lib.hid (wv_dig _)
 have HWB : Hid (wv (dig z.natAbs) = z.natAbs) := Lib.hid (wv_dig _)
 have HAD := Lib.hid (wd_dig y.natAbs)
 have HBD := Lib.hid (wd_dig z.natAbs)
 generalize dig y.natAbs = a at *
 generalize dig z.natAbs = b at *
 clear h1 h2
 have hmk : ∀ w : World, (Instr.makeSlice 89 (.int .i64 ((n : Int) + (m : Int))) (.int .i64 ((n : Int) + (m : Int)))).run Tryz.prog w = .ok (.slice (some ⟨w.heap.size, 0, none⟩) (n + m) (n + m)) (w.alloc (.cells (u32s (List.replicate (n + m) 0)).toArray 171)) := fun w => by
  have := make_u32 (n + m) (by omega) w
  rwa [Int.natCast_add] at this
 go_enter Tryz.func88, Tryz.ntmps88
 go_upto_region 2 with fail
 clear hmk
 generalize ((((w.alloc (.cells #[.bool b1, .slice A n c] 91)).alloc (.cells #[.bool b2, .slice B m d] 91)).alloc (.cells #[.bool false, .slice none 0 0] 91)).alloc (.cells (u32s (List.replicate (n + m) 0)).toArray 171)) = W at *
 generalize hg : w.heap.size = g at *
 have HGS := Lib.hid hg
 clear hg
 have p0 := HX1.out.cell 0
 have p1 := HX1.out.cell 1
 have q0 := HX2.out.cell 0
 have q1 := HX2.out.cell 1
 have pl := HX1.out.lt
 have ql := HX2.out.lt
 have hG1 := HG.out.lt
 have HK0 := Lib.hid (Below.refl (g + 1 + 1 + 1) W)
 go_wp2_with fail
 clear p0 p1 q0 q1
 go_loopw [22] (fun v22 wr => ∃ (i : Nat) (out : List Nat), i ≤ n ∧ v22 = .int .i64 i ∧ Below (g + 1 + 1 + 1) W wr ∧ Blk wr (g + 1 + 1 + 1) 171 (u32s out).toArray ∧ MulInv a b n m i out) (fun v22 _ => n - (intOf v22).toNat)
 case atStart => exact ⟨0, _, by omega, rfl, HK0.out, HG.out, ⟨by simp, wd_zeros _, zf_zeros _ _, by rw [wv_zeros]; simp [wv]⟩⟩
 case round =>
  clear HK0 HG
  obtain ⟨i, out, hi, rfl, hb, hg, hI⟩ := hrel
  have HK := Lib.hid hb
  have HG := Lib.hid hg
  have HI := Lib.hid hI
  clear hb hg hI
  have hgl := HG.out.lt
  have hgf := HG.out.frozen
  have p0 := (HX1.out.below HK.out (by omega)).cell 0
  have p1 := (HX1.out.below HK.out (by omega)).cell 1
  have q0 := (HX2.out.below HK.out (by omega)).cell 0
  have q1 := (HX2.out.below HK.out (by omega)).cell 1
  have pl2 : g < wr.heap.size := by omega
  have ql2 : g + 1 < wr.heap.size := by omega
  by_cases hlt : i < n
  ·obtain ⟨ab, ao, hA1, hab⟩ := HA.out.form (by omega)
   subst hA1
   have hca := ((HA.out.more (show g ≤ g + 1 + 1 + 1 by omega)).lift HK.out (by omega)).at_ hlt
   have hx := HAD.out.getD i
   have HDN := Lib.hid (fun (cc : Nat) (out : List Nat) (H : MulIn a b n m i (a.getD i 0) m cc out) => H.done HBL.out hlt)
   obtain ⟨x, hxx⟩ : ∃ x, a.getD i 0 = x := ⟨_, rfl⟩
   rw [hxx] at hca hx HDN
   clear hxx
   have hab2 : ab < wr.heap.size := by omega
   have hiI : (i : Int) < (n : Int) := by omega
   go_wp2_with fail
   clear p0 p1 q0 q1 hca hgf
   obtain ⟨wo, rfl⟩ : ∃ wo : World, wo = wr := ⟨_, rfl⟩
   go_loopw [8, 30] (fun v8 v30 wr => ∃ (k cc : Nat) (out : List Nat), k ≤ m ∧ v30 = .int .i64 k ∧ v8 = .int .u64 cc ∧ Below (g + 1 + 1 + 1) W wr ∧ Blk wr (g + 1 + 1 + 1) 171 (u32s out).toArray ∧ MulIn a b n m i x k cc out) (fun _ v30 _ => m - (intOf v30).toNat)
   case atStart => exact ⟨0, 0, _, by omega, rfl, rfl, HK.out, HG.out, ⟨HI.out.len, HI.out.od, HI.out.oz, by decide, by rw [HI.out.eq]; simp [wv]⟩⟩
   case round =>
    clear HK HG HI
    obtain ⟨k, cc, out, hk, rfl, rfl, hb, hg, hI⟩ := hrel
    have HK := Lib.hid hb
    have HG := Lib.hid hg
    have HI := Lib.hid hI
    clear hb hg hI
    have hgl := HG.out.lt
    have hgf := HG.out.frozen
    have hcl := HI.out.cl
    by_cases hlk : k < m
    ·obtain ⟨bb, bo, hB1, hbb⟩ := HB.out.form (by omega)
     subst hB1
     have hcb := ((HB.out.more (show g ≤ g + 1 + 1 + 1 by omega)).lift HK.out (by omega)).at_ hlk
     have hy := HBD.out.getD k
     have hz := HI.out.od.getD (i + k)
     have hcg := blkW_cell HG.out (i := i + k) (by rw [HI.out.len]; omega)
     have HN := Lib.hid (HI.out.step HBD.out hx hlt hlk)
     obtain ⟨y2, hyy⟩ : ∃ y, b.getD k 0 = y := ⟨_, rfl⟩
     rw [hyy] at hcb hy HN
     obtain ⟨z2, hzz⟩ : ∃ y, out.getD (i + k) 0 = y := ⟨_, rfl⟩
     rw [hzz] at hcg hz HN
     clear hyy hzz
     have hpr : x * y2 ≤ 4294967295 * 4294967295 := Nat.mul_le_mul (by omega) (by omega)
     have hmul : IntKind.u64.wrap ((x : Int) * (y2 : Int)) = ((x * y2 : Nat) : Int) := by rw [← Int.natCast_mul]; exact Go.IntWalk.u64_in _ (by omega)
     have hs1 := HN.out.1
     have HN2 := Lib.hid HN.out.2
     clear HN
     generalize x * y2 = pr at *
     have hbb2 : bb < wr.heap.size := by omega
     have hkI : (k : Int) < (m : Int) := by omega
     have hsum : IntKind.i64.wrap ((i : Int) + (k : Int)) = ((i + k : Nat) : Int) := by rw [← Int.natCast_add]; exact Go.IntWalk.i64_in _ (by omega)
     have hikI : (i : Int) + (k : Int) < (n : Int) + (m : Int) := by omega
     have hikn : ((i : Int) + (k : Int)).toNat = i + k := by omega
     go_wp2_with fail
     go_roundw
     case rel => exact ⟨k + 1, _, _, by omega, by go_num, val_int (by omega), HK.out.setCell (Nat.le_refl _) _, blkW_set HG.out (by omega), HN2.out⟩
     case measure => simp [intOf]; omega
    ·have hke : k = m := by omega
     subst hke
     have HD2 := Lib.hid (HDN.out cc out HI.out)
     have p0 := (HX1.out.below HK.out (by omega)).cell 0
     have p1 := (HX1.out.below HK.out (by omega)).cell 1
     have q0 := (HX2.out.below HK.out (by omega)).cell 0
     have q1 := (HX2.out.below HK.out (by omega)).cell 1
     have pl2 : g < wr.heap.size := by omega
     have ql2 : g + 1 < wr.heap.size := by omega
     have hz := HI.out.od.getD (i + k)
     have hcg := blkW_cell HG.out (i := i + k) (by rw [HI.out.len]; omega)
     obtain ⟨z2, hzz⟩ : ∃ y, out.getD (i + k) 0 = y := ⟨_, rfl⟩
     rw [hzz] at hcg hz
     clear hzz
     have hikI : (i : Int) + (k : Int) < (n : Int) + (k : Int) := by omega
     have hikn : ((i : Int) + (k : Int)).toNat = i + k := by omega
     go_wp2_with fail
     clear p0 p1 q0 q1
     go_roundw
     case rel => exact ⟨i + 1, _, by omega, by go_num, HK.out.setCell (Nat.le_refl _) _, blkW_set HG.out rfl, HD2.out⟩
     case measure => simp [intOf]; omega
  ·have hie : i = n := by omega
   subst hie
   have HE : Hid (wv out = y.natAbs * z.natAbs) := Lib.hid (by rw [HI.out.eq, List.take_of_length_le (by rw [HAL.out]; exact Nat.le_refl _), HWA.out, HWB.out])
   have HLN : Hid (out.length = i + m) := Lib.hid HI.out.len
   have HRW := Lib.hid (HR.out.below HK.out (by omega))
   have HBW : Hid (Below w.heap.size w wr) := Lib.hid (by rw [HGS.out]; exact HB0.out.trans (HK.out.mono (by omega)))
   go_wp2_with fail
   clear p0 p1 q0 q1
   refine (norm_any (b1 != b2) (some ⟨g + 1 + 1 + 1, 0, none⟩) (i + m) (i + m) out wr (by have := rdW_blk HG.out; rwa [HLN.out] at this) HI.out.od (Nat.le_refl _) (by omega)).mono ?_
   rw [HE.out, HE1.out, HE2.out, sgn_mul]
   rintro e w2 ⟨k, b9, A9, n9, c9, rfl, h9⟩
   have HB2 := Lib.hid (HBW.out.trans (k.mono HBW.out.size))
   have HG2 := Lib.hid (HRW.out.below k HRW.out.lt)
   have H2 := Lib.hid h9
   have hgs : w.heap.size ≤ g + 1 + 1 := by have := HGS.out; omega
   clear k h9
   have z0 := HG2.out.cell 0
   have z1 := HG2.out.cell 1
   have zf := HG2.out.frozen
   have zl := HG2.out.lt
   go_wp2_with fail
   generalize hW9 : (w2.setCell ⟨_, 0, none⟩ _).setCell ⟨_, 1, none⟩ _ = W9
   have HP9 := Lib.hid (lg_put (e := .returned (.agg #[.bool b9, .slice A9 n9 c9])) HB2.out hgs HG2.out (by simp) (by simp) H2.out rfl)
   rw [hW9] at HP9
   have HB9 : Hid (Blk W9 _ 91 #[.bool b9, .slice A9 n9 c9]) := Lib.hid (by rw [← hW9]; exact blk_set2 HG2.out)
   clear hW9 z0 z1 zf zl
   have q0 := HB9.out.cell 0
   have q1 := HB9.out.cell 1
   exact bodyPost_ret (v := .agg #[.bool b9, .slice A9 n9 c9]) (by simp [results, Tryz.results88, go_sem, q0, q1]) rfl HP9.out
end
end Go.Proofs.YtakllkkmofdpaaaGreatDoor
