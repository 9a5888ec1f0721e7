import Derived.Test.YtakllkkmofdpaaaGreatDoorU26
set_option linter.unusedVariables false
set_option linter.unusedSimpArgs false
namespace Go.Proofs.YtakllkkmofdpaaaGreatDoor
section
open Go.ChangeShapes Go.WideShapes Go.ChangeAt Go.RowKit
attribute [local go_sem ↓] execOp_call_val
attribute [local go_sem] callVal_func setCell_drewN alloc_drewN sEq_walk NetH.cells
def tinyV (v : Vc) : Bool := v.ss.all fun s => decide (s.size ≤ 24)
def smallR (x : Net) (ms : List Mi) (vs : List Vc) : Bool := decide (x.nodes.length ≤ 8) && decide (x.brs.length ≤ 10) && ms.all (fun m => decide (m.txt.size ≤ 24)) && vs.all tinyV
theorem all_drop {α : Type} {l : List α} {k : Nat} {x : α} (f : α → Bool) (h : l[k]? = some x) : (l.drop k).all f = (f x && (l.drop (k + 1)).all f) := by rw [drop_cons h]; rfl
set_option maxRecDepth 100000 in
set_option maxHeartbeats 4000000 in
theorem small_any (h : NetH) (x : Net) (A : Option Addr) (n c : Nat) (ms : List Mi) (B : Option Addr) (m d : Nat) (vs : List Vc) (w : World) (r : RdNet w w.heap.size h x) (hm : RdMi w w.heap.size A n ms) (hv : RdVc w w.heap.size B m vs) (hn : n ≤ 9223372036854775807) (hmm : m ≤ 9223372036854775807) :
    Calls Tryz.prog 15 #[.agg h.cells, .slice A n c, .slice B m d] w fun e w' => e = .returned (.bool (smallR x ms vs)) ∧ Below w.heap.size w w' := by
 have K0 : Below w.heap.size w (w.alloc (.cells h.cells 33)) := (Below.refl _ _).alloc (Nat.le_refl _) _
 have HK := Lib.hid K0
 have HM := Lib.hid hm
 have HML := Lib.hid hm.1
 have HV := Lib.hid hv
 have HVL := Lib.hid hv.1
 have l0 := r.r0.1
 have l2 := r.r2.1
 have m0 := r.m0
 have m2 := r.m2
 obtain ⟨y0, y1, y2, y3, y4, y5, nf, nlt⟩ := net_box (Blk.new w 33 h.cells)
 simp only [NetH.cells] at HK y0 y1 y2 y3 y4 y5 nf nlt
 clear K0 r hm hv
 go_enter Tryz.func15, Tryz.ntmps15
 go_upto_region 1 with fail
 generalize w.alloc (.cells #[.slice h.A0 h.n0 h.c0, .slice h.A1 h.n1 h.c1, .slice h.A2 h.n2 h.c2, .slice h.A3 h.n3 h.c3, .slice h.A4 h.n4 h.c4, .slice h.A5 h.n5 h.c5] 33) = W at *
 by_cases g0 : 8 < h.n0
 ·have g0I : (8 : Int) < (h.n0 : Int) := by omega
  have HE : Hid (smallR x ms vs = false) := Lib.hid (by unfold smallR; rw [decide_eq_false (by rw [l0]; omega)]; rfl)
  go_wp2_with fail
  go_ret
  exact ⟨by rw [HE.out]; rfl, HK.out⟩
 ·by_cases g2 : 10 < h.n2
  ·have g0I : ¬ (8 : Int) < (h.n0 : Int) := by omega
   have g2I : (10 : Int) < (h.n2 : Int) := by omega
   have HE : Hid (smallR x ms vs = false) := Lib.hid (by unfold smallR; rw [decide_eq_false (p := x.brs.length ≤ 10) (by rw [l2]; omega), Bool.and_false]; rfl)
   go_wp2_with fail
   go_ret
   exact ⟨by rw [HE.out]; rfl, HK.out⟩
  ·have g0I : ¬ (8 : Int) < (h.n0 : Int) := by omega
   have g2I : ¬ (10 : Int) < (h.n2 : Int) := by omega
   have HS : Hid (smallR x ms vs = (ms.all (fun m => decide (m.txt.size ≤ 24)) && vs.all tinyV)) := Lib.hid (by unfold smallR; rw [decide_eq_true (by rw [l0]; omega), decide_eq_true (by rw [l2]; omega)]; rfl)
   clear g0 g2 m0 m2
   go_wp2_with fail
   clear g0I g2I y0 y1 y2 y3 y4 y5 nf nlt l0 l2
   go_loopw [25] (fun v25 wr => ∃ k : Nat, k ≤ n ∧ v25 = .int .i64 k ∧ ms.all (fun m => decide (m.txt.size ≤ 24)) = (ms.drop k).all (fun m => decide (m.txt.size ≤ 24)) ∧ Below w.heap.size w wr) (fun v25 _ => n - (intOf v25).toNat)
   case atStart => exact ⟨0, by omega, rfl, rfl, HK.out⟩
   case round =>
    clear HK
    obtain ⟨k, hk, rfl, hgo, hb⟩ := hrel
    have HG := Lib.hid hgo
    have HB := Lib.hid hb
    clear hgo hb
    by_cases hlt : k < n
    ·obtain ⟨z, hz⟩ : ∃ z, ms[k]? = some z := ⟨_, List.getElem?_eq_getElem (by have := HML.out; omega)⟩
     obtain ⟨b, off, hA, hb⟩ := (HM.out.below HB.out (Nat.le_refl _)).form (by omega)
     subst hA
     obtain ⟨c0, c1, c2, c3⟩ := (HM.out.below HB.out (Nat.le_refl _)).at_ hz
     have hbl : b < wr.heap.size := Nat.lt_of_lt_of_le hb HB.out.size
     have HD := Lib.hid (all_drop (fun m : Mi => decide (m.txt.size ≤ 24)) hz)
     have hkI : (k : Int) < (n : Int) := by omega
     have HN1 : Hid ((k : Int) + 1 = ((k + 1 : Nat) : Int)) := Lib.hid (by omega)
     have HN2 : Hid (n - (k + 1) < n - k) := Lib.hid (by omega)
     clear hz hb
     go_upto_region 6 with fail
     clear c0 c1 c2 c3
     generalize hwa : wr.alloc (.cells #[.int .i64 z.kind, .string z.name, .string z.txt, .int .i64 z.wt] 57) = wa
     have hba : Below wr.heap.size wr wa := by rw [← hwa]; exact (Below.refl _ _).alloc (Nat.le_refl _) _
     have HZ : Hid (Blk wa wr.heap.size 57 #[.int .i64 z.kind, .string z.name, .string z.txt, .int .i64 z.wt]) := Lib.hid (by rw [← hwa]; exact Blk.new wr _ _)
     have HBA := Lib.hid (HB.out.trans (hba.mono HB.out.size))
     clear hwa hba hbl HB
     obtain ⟨c0, c1, c2, c3, cf, cl⟩ := Mi.box HZ.out
     clear HZ
     by_cases hs : 24 < z.txt.size
     ·have hsI : (24 : Int) < (z.txt.size : Int) := by omega
      have HE : Hid (smallR x ms vs = false) := Lib.hid (by rw [HS.out, HG.out, HD.out, decide_eq_false (by omega)]; rfl)
      go_wp2_with fail
      go_ret
      exact ⟨by rw [HE.out]; rfl, HBA.out⟩
     ·have hsI : ¬ (24 : Int) < (z.txt.size : Int) := by omega
      have HE : Hid (ms.all (fun m => decide (m.txt.size ≤ 24)) = (ms.drop (k + 1)).all (fun m => decide (m.txt.size ≤ 24))) := Lib.hid (by rw [HG.out, HD.out, decide_eq_true (by omega), Bool.true_and])
      clear hs
      go_wp2_with fail
      go_roundw
      case rel => exact ⟨k + 1, hlt, val_int HN1.out, HE.out, HBA.out⟩
      case measure => exact HN2.out
    ·have hkI : ¬ (k : Int) < (n : Int) := by omega
     have HS2 : Hid (smallR x ms vs = vs.all tinyV) := Lib.hid (by rw [HS.out, HG.out, List.drop_eq_nil_of_le (by have := HML.out; omega)]; rfl)
     clear HS HG
     go_wp2_with fail
     clear hkI hk hlt
     generalize wr = wz at *
     go_loopw [36] (fun v36 wr => ∃ k : Nat, k ≤ m ∧ v36 = .int .i64 k ∧ vs.all tinyV = (vs.drop k).all tinyV ∧ Below w.heap.size w wr) (fun v36 _ => m - (intOf v36).toNat)
     case atStart => exact ⟨0, by omega, rfl, rfl, HB.out⟩
     case round =>
      clear HB
      obtain ⟨i, hi, rfl, hgo, hb⟩ := hrel
      have HG := Lib.hid hgo
      have HB := Lib.hid hb
      clear hgo hb
      by_cases hlt : i < m
      ·obtain ⟨v, hv⟩ : ∃ v, vs[i]? = some v := ⟨_, List.getElem?_eq_getElem (by have := HVL.out; omega)⟩
       obtain ⟨b, off, hA, hb⟩ := (HV.out.below HB.out (Nat.le_refl _)).form (by omega)
       subst hA
       have c0 := (HV.out.below HB.out (Nat.le_refl _)).at_ hv
       have hbl : b < wr.heap.size := Nat.lt_of_lt_of_le hb HB.out.size
       have HD := Lib.hid (all_drop tinyV hv)
       have HVV := Lib.hid (HV.out.2.2 v (List.mem_of_getElem? hv)).1
       have hvn := (HV.out.2.2 v (List.mem_of_getElem? hv)).2
       have hiI : (i : Int) < (m : Int) := by omega
       have HM1 : Hid ((i : Int) + 1 = ((i + 1 : Nat) : Int)) := Lib.hid (by omega)
       have HM2 : Hid (m - (i + 1) < m - i) := Lib.hid (by omega)
       clear hv hb
       go_wp2_with fail
       clear c0 hbl
       generalize wr = wy at *
       go_loopw [42] (fun v42 wr => ∃ k : Nat, k ≤ v.n ∧ v42 = .int .i64 k ∧ tinyV v = (v.ss.drop k).all (fun s => decide (s.size ≤ 24)) ∧ Below w.heap.size w wr) (fun v42 _ => v.n - (intOf v42).toNat)
       case atStart => exact ⟨0, by omega, rfl, rfl, HB.out⟩
       case round =>
        clear HB
        obtain ⟨k, hk, rfl, hgo, hb⟩ := hrel
        have HG2 := Lib.hid hgo
        have HB := Lib.hid hb
        clear hgo hb
        have HVN := Lib.hid HVV.out.1
        by_cases hlt2 : k < v.n
        ·obtain ⟨s, hs⟩ : ∃ s, v.ss[k]? = some s := ⟨_, List.getElem?_eq_getElem (by have := HVN.out; omega)⟩
         obtain ⟨b2, off2, hA2, hb⟩ := (HVV.out.below HB.out (Nat.le_refl _)).form (by omega)
         have c0 := HVV.out.below HB.out (Nat.le_refl _)
         rw [hA2] at c0
         replace c0 := c0.at_ hs
         have hbl : b2 < wr.heap.size := Nat.lt_of_lt_of_le hb HB.out.size
         have HD2 := Lib.hid (all_drop (fun s : ByteArray => decide (s.size ≤ 24)) hs)
         have hkI : (k : Int) < (v.n : Int) := by omega
         have HN1 : Hid ((k : Int) + 1 = ((k + 1 : Nat) : Int)) := Lib.hid (by omega)
         have HN2 : Hid (v.n - (k + 1) < v.n - k) := Lib.hid (by omega)
         clear hs hb
         by_cases hz : 24 < s.size
         ·have hsI : (24 : Int) < (s.size : Int) := by omega
          have HE : Hid (smallR x ms vs = false) := Lib.hid (by rw [HS2.out, HG.out, HD.out, HG2.out, HD2.out, decide_eq_false (by omega)]; rfl)
          go_wp2_with fail
          go_ret
          exact ⟨by rw [HE.out]; rfl, HB.out⟩
         ·have hsI : ¬ (24 : Int) < (s.size : Int) := by omega
          have HE : Hid (tinyV v = (v.ss.drop (k + 1)).all (fun s => decide (s.size ≤ 24))) := Lib.hid (by rw [HG2.out, HD2.out, decide_eq_true (by omega), Bool.true_and])
          clear hz
          go_wp2_with fail
          go_roundw
          case rel => exact ⟨k + 1, hlt2, val_int HN1.out, HE.out, HB.out⟩
          case measure => exact HN2.out
        ·have hkI : ¬ (k : Int) < (v.n : Int) := by omega
         have HT : Hid (tinyV v = true) := Lib.hid (by rw [HG2.out, List.drop_eq_nil_of_le (by have := HVN.out; omega)]; rfl)
         have HE : Hid (vs.all tinyV = (vs.drop (i + 1)).all tinyV) := Lib.hid (by rw [HG.out, HD.out, HT.out, Bool.true_and])
         go_wp2_with fail
         go_roundw
         case rel => exact ⟨i + 1, hlt, val_int HM1.out, HE.out, HB.out⟩
         case measure => exact HM2.out
      ·have hiI : ¬ (i : Int) < (m : Int) := by omega
       have HE : Hid (smallR x ms vs = true) := Lib.hid (by rw [HS2.out, HG.out, List.drop_eq_nil_of_le (by have := HVL.out; omega)]; rfl)
       go_wp2_with fail
       go_ret
       exact ⟨by rw [HE.out]; rfl, HB.out⟩
end
end Go.Proofs.YtakllkkmofdpaaaGreatDoor
