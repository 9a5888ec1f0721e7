/- The names of a program. -/
import Derived.Test.YtaanoljfhnfjoaaGreatDoorDB
namespace Go.Proofs.YtaanoljfhnfjoaaGreatDoor
open Go.ChangeShapes Go.WideShapes Go.ChangeAt Go.RowKit
set_option linter.unusedVariables false
set_option linter.unusedSimpArgs false
attribute [local go_sem ↓] execOp_call_val
attribute [local go_sem] callVal_func setCell_drewN alloc_drewN sEq_walk


def nmF (l : List Nd) : List ByteArray := (l.filter fun x => decide (x.op = 0)).map Nd.name
def nmV (l : List Nd) : List ByteArray := (l.filter fun x => decide (x.op = 1 ∨ x.op = 2)).map Nd.name
theorem namesF_cons (r : Rl) (p : List Rl) : namesF (r :: p) = nmF r.expr ++ namesF p := rfl
theorem namesV_cons (r : Rl) (p : List Rl) : namesV (r :: p) = nmV r.expr ++ namesV p := rfl
theorem nmF_yes {x : Nd} (h : x.op = 0) (l : List Nd) : nmF (x :: l) = x.name :: nmF l := by unfold nmF; rw [List.filter_cons, if_pos (decide_eq_true h)]; rfl
theorem nmF_no {x : Nd} (h : ¬ x.op = 0) (l : List Nd) : nmF (x :: l) = nmF l := by unfold nmF; rw [List.filter_cons, if_neg (by simpa using h)]
theorem nmV_yes {x : Nd} (h : x.op = 1 ∨ x.op = 2) (l : List Nd) : nmV (x :: l) = x.name :: nmV l := by unfold nmV; rw [List.filter_cons, if_pos (decide_eq_true h)]; rfl
theorem nmV_no {x : Nd} (h : ¬ (x.op = 1 ∨ x.op = 2)) (l : List Nd) : nmV (x :: l) = nmV l := by unfold nmV; rw [List.filter_cons, if_neg (by simpa using h)]
theorem info_str : (Tryz.prog.info? 9).map (fun i => (i.zero, i.size, i.bytes)) = some (some (.string ⟨#[]⟩), 1, 16) := by kernel_rfl
/-- two rows of strings that are owned, and lie apart -/
structure TwoS (base : Nat) (w0 w : World) (vF vV : Value) (F V : List ByteArray) : Prop where
  low : Below w0.heap.size w0 w
  f : w.ownsRow base 9 1 vF F.length (strsV F)
  v : w.ownsRow base 9 1 vV V.length (strsV V)
  apart : ∀ k, vF.ownBlock = some k → vV.ownBlock ≠ some k
section
variable {base : Nat} {w0 w w' : World} {vF vV v' : Value} {F V : List ByteArray}
theorem TwoS.up (h : TwoS base w0 w vF vV F V) (hb : Below w.heap.size w w') : TwoS base w0 w' vF vV F V := ⟨h.low.trans (hb.mono h.low.size), own_keep h.f hb, own_keep h.v hb, h.apart⟩
theorem grown_below {B : Nat} {v : Value} (h : w.grownBy w' v.ownBlock) (hv : ∀ k, v.ownBlock = some k → B ≤ k) (hB : B ≤ w.heap.size) : Below B w w' := ⟨h.os, h.tape, h.output, h.size, fun i hi => h.block i (by omega) fun e => by have := hv i e.symm; omega⟩
theorem strsV_snoc (l : List ByteArray) (s : ByteArray) : strsV (l ++ [s]) = strsV l ++ [.string s] := by unfold strsV; rw [List.map_append]; rfl
theorem TwoS.appF (h : TwoS base w0 w vF vV F V) (hB : w0.heap.size ≤ base) {s : ByteArray} (h1 : w'.ownsRow base 9 1 v' (F.length + 1) (strsV F ++ [.string s])) (h2 : Below base w w') (h3 : w.grownBy w' vF.ownBlock) (h4 : ∀ k, v'.ownBlock = some k → vF.ownBlock = some k ∨ w.heap.size ≤ k) : TwoS base w0 w' v' vV (F ++ [s]) V :=
  ⟨h.low.trans (h2.mono hB), by rw [strsV_snoc, List.length_append]; exact h1, own_apart h.v h3 h.apart, fun k hk hc => (h4 k hk).elim (fun h5 => h.apart k h5 hc) fun h5 => by have := (h.v.lt k hc).2; omega⟩
theorem TwoS.appV (h : TwoS base w0 w vF vV F V) (hB : w0.heap.size ≤ base) {s : ByteArray} (h1 : w'.ownsRow base 9 1 v' (V.length + 1) (strsV V ++ [.string s])) (h2 : Below base w w') (h3 : w.grownBy w' vV.ownBlock) (h4 : ∀ k, v'.ownBlock = some k → vV.ownBlock = some k ∨ w.heap.size ≤ k) : TwoS base w0 w' vF v' F (V ++ [s]) :=
  ⟨h.low.trans (h2.mono hB), own_apart h.f h3 (fun k hk hc => h.apart k hc hk), by rw [strsV_snoc, List.length_append]; exact h1, fun k hk hc => (h4 k hc).elim (fun h5 => h.apart k hk h5) fun h5 => by have := (h.f.lt k hk).2; omega⟩
theorem TwoS.setF (h : TwoS base w0 w vF vV F V) {F' : List ByteArray} {m : Nat} (h1 : w'.ownsRow base 9 1 v' m (strsV F')) (hm : F'.length = m) (h2 : w.grownBy w' vF.ownBlock) (h3 : v'.ownBlock = vF.ownBlock) (hB : w0.heap.size ≤ base := by exact Nat.le_refl _) : TwoS base w0 w' v' vV F' V :=
  ⟨h.low.trans (grown_below h2 (fun k hk => Nat.le_trans hB (h.f.lt k hk).1) h.low.size), by rw [hm]; exact h1, own_apart h.v h2 h.apart, fun k hk => h.apart k (h3 ▸ hk)⟩
theorem TwoS.setV (h : TwoS base w0 w vF vV F V) {V' : List ByteArray} {m : Nat} (h1 : w'.ownsRow base 9 1 v' m (strsV V')) (hm : V'.length = m) (h2 : w.grownBy w' vV.ownBlock) (h3 : v'.ownBlock = vV.ownBlock) (hB : w0.heap.size ≤ base := by exact Nat.le_refl _) : TwoS base w0 w' vF v' F V' :=
  ⟨h.low.trans (grown_below h2 (fun k hk => Nat.le_trans hB (h.v.lt k hk).1) h.low.size), own_apart h.f h2 (fun k hk hc => h.apart k hc hk), by rw [hm]; exact h1, fun k hk hc => h.apart k hk (h3 ▸ hc)⟩
end
def NamP (p : List Rl) (w : World) (e : Ending) (w' : World) : Prop := ∃ vF vV, e = .returned (.tuple #[vF, vV]) ∧ TwoS w.heap.size w w' vF vV (cmpS (srtS (namesF p))) (cmpS (srtS (namesV p)))

set_option maxRecDepth 100000 in
set_option maxHeartbeats 4000000 in
theorem names_any (A : Option Addr) (n c : Nat) (hs : List Rh) (w : World) (hR : RdRh w w.heap.size A n hs) (hn : n ≤ 16) (hx : ∀ z ∈ hs, z.r.expr.length ≤ 64) :
    Calls Tryz.prog 23 #[.slice A n c] w (NamP (rls hs) w) := by
  have HP : Hid (∀ e w', NamP (rls hs) w e w' = (∃ vF vV, e = .returned (.tuple #[vF, vV]) ∧ TwoS w.heap.size w w' vF vV (cmpS (srtS (namesF (rls hs)))) (cmpS (srtS (namesV (rls hs)))))) := Lib.hid fun _ _ => rfl
  obtain ⟨i0, hi0, hz0, hz1, hz2⟩ := info_parts info_str
  have HI0 := Lib.hid hi0
  have HI1 := Lib.hid hz0
  have HI2 := Lib.hid hz1
  have HI3 := Lib.hid hz2
  have HLEN := Lib.hid hR.len
  have HR := Lib.hid hR
  have HX := Lib.hid hx
  have HT0 : Hid (TwoS w.heap.size w w (.slice none 0 0) (.slice none 0 0) [] []) := Lib.hid ⟨Below.refl _ _, own_none _ _ _ _, own_none _ _ _ _, fun k h => (by cases h)⟩
  clear hi0 hz0 hz1 hz2 hR hx
  go_enter Tryz.func23, Tryz.ntmps23
  go_wp2_with fail
  go_loopw [2, 3, 10] (fun vF vV i wr => ∃ (k : Nat) (F V : List ByteArray), k ≤ n ∧ i = .int .i64 k ∧ F.length ≤ k * 64 ∧ V.length ≤ k * 64 ∧ TwoS w.heap.size w wr vF vV F V ∧ namesF (rls hs) = F ++ namesF ((rls hs).drop k) ∧ namesV (rls hs) = V ++ namesV ((rls hs).drop k)) (fun _ _ i _ => n - (intOf i).toNat)
  case atStart => exact ⟨0, [], [], by omega, rfl, by simp, by simp, HT0.out, rfl, rfl⟩
  case round =>
    obtain ⟨k, F, V, hk, rfl, hfl, hvl, ht, hnf, hnv⟩ := hrel
    have HT := Lib.hid ht
    have HNF := Lib.hid hnf
    have HNV := Lib.hid hnv
    have HFL := Lib.hid hfl
    have HVL := Lib.hid hvl
    clear ht hnf hnv hfl hvl
    by_cases hlt : k < n
    · obtain ⟨z, hz⟩ : ∃ z, hs[k]? = some z := ⟨_, List.getElem?_eq_getElem (by have := HLEN.out; omega)⟩
      have hrd := HR.out.up HT.out.low
      obtain ⟨b, off, rfl, hblt⟩ := hrd.form (by omega)
      obtain ⟨c0, c1⟩ := hrd.at_ hz
      have hzr : (rls hs)[k]? = some z.r := by unfold rls; rw [List.getElem?_map, hz]; rfl
      have hzz := hrd.zs z (List.mem_of_getElem? hz)
      have HZL : Hid (z.r.expr.length = z.n) := Lib.hid hzz.1.1
      have hz64 : z.n ≤ 64 := by rw [← hzz.1.1]; exact HX.out z (List.mem_of_getElem? hz)
      have HNF1 : Hid (namesF (rls hs) = F ++ (nmF (z.r.expr.drop 0) ++ namesF ((rls hs).drop (k + 1)))) := Lib.hid (by rw [HNF.out, drop_cons hzr, namesF_cons]; rfl)
      have HNV1 : Hid (namesV (rls hs) = V ++ (nmV (z.r.expr.drop 0) ++ namesV ((rls hs).drop (k + 1)))) := Lib.hid (by rw [HNV.out, drop_cons hzr, namesV_cons]; rfl)
      have hW : Below wr.heap.size wr (wr.alloc (.cells #[.string z.r.name, .slice z.A z.n z.c] 39)) := (Below.refl _ _).alloc (Nat.le_refl _) _
      have HTW := Lib.hid (HT.out.up hW)
      have HZ0 := Lib.hid (HR.out.zs z (List.mem_of_getElem? hz)).1
      clear hz hrd hzr hzz hW HT HNF HNV
      go_wp2_with fail
      generalize hwx : wr.alloc (.cells #[.string z.r.name, .slice z.A z.n z.c] 39) = wx at *
      clear hwx
      go_loopw [2, 3, 17] (fun vF vV i wr => ∃ (j : Nat) (F V : List ByteArray), j ≤ z.n ∧ i = .int .i64 j ∧ F.length ≤ k * 64 + j ∧ V.length ≤ k * 64 + j ∧ TwoS w.heap.size w wr vF vV F V ∧ namesF (rls hs) = F ++ (nmF (z.r.expr.drop j) ++ namesF ((rls hs).drop (k + 1))) ∧ namesV (rls hs) = V ++ (nmV (z.r.expr.drop j) ++ namesV ((rls hs).drop (k + 1)))) (fun _ _ i _ => z.n - (intOf i).toNat)
      case atStart => exact ⟨0, F, V, by omega, rfl, HFL.out, HVL.out, HTW.out, HNF1.out, HNV1.out⟩
      case round =>
        clear HTW HNF1 HNV1 HFL HVL c0 c1
        obtain ⟨j, F, V, hj, rfl, hfl, hvl, ht, hnf, hnv⟩ := hrel
        have HT := Lib.hid ht
        have HNF := Lib.hid hnf
        have HNV := Lib.hid hnv
        have HFL : Hid (F.length ≤ 2000) := Lib.hid (by omega)
        have HVL : Hid (V.length ≤ 2000) := Lib.hid (by omega)
        have HFL1 := Lib.hid hfl
        have HVL1 := Lib.hid hvl
        clear ht hnf hnv hfl hvl
        by_cases hjl : j < z.n
        · obtain ⟨⟨op, nm, vl⟩, hxx⟩ : ∃ x, z.r.expr[j]? = some x := ⟨_, List.getElem?_eq_getElem (by rw [HZL.out]; exact hjl)⟩
          have hrn := (HZ0.out.below HT.out.low (Nat.le_refl _)).more HT.out.low.size
          obtain ⟨b2, off2, hA, hblt2⟩ := hrn.form (by omega)
          rw [hA] at hrn
          obtain ⟨d0, d1, d2⟩ := hrn.at_ hxx
          simp only at d0 d1 d2
          rw [hA]
          have HDC := Lib.hid (drop_cons hxx)
          clear hxx hrn hA
          by_cases h0 : op = 0
          · subst h0
            have hW : Below wr.heap.size wr (wr.alloc (.cells #[.int .i64 0, .string nm, .int .i64 vl] 41)) := (Below.refl _ _).alloc (Nat.le_refl _) _
            have HTW2 := Lib.hid (HT.out.up hW)
            have hbase : w.heap.size ≤ (wr.alloc (.cells #[.int .i64 0, .string nm, .int .i64 vl] 41)).heap.size := HTW2.out.low.size
            have HEF : Hid (namesF (rls hs) = (F ++ [nm]) ++ (nmF (z.r.expr.drop (j + 1)) ++ namesF ((rls hs).drop (k + 1)))) := Lib.hid (by rw [HNF.out, HDC.out, nmF_yes (x := ⟨0, nm, vl⟩) rfl]; simp)
            have HEV : Hid (namesV (rls hs) = V ++ (nmV (z.r.expr.drop (j + 1)) ++ namesV ((rls hs).drop (k + 1)))) := Lib.hid (by rw [HNV.out, HDC.out, nmV_no (x := ⟨0, nm, vl⟩) (show ¬ ((0 : Int) = 1 ∨ (0 : Int) = 2) by omega)])
            clear hW
            go_wp2_with (at_builtin; refine wpList_app1a rfl (.tmp 25) (.tmp 28) _ rfl w.heap.size 9 i0 _ 1 16 Tryz.underlying42 HI0.out HI1.out HI2.out HI3.out rfl (by omega) u2 F.length (strsV F) rfl HTW2.out.f (congrArg (fun k => Value.slice (some ⟨k, 0, none⟩) 1 1) (Array.size_push (xs := wr.heap) _).symm) rfl ?k1 ?k2 ?k3 hbase ?_)
            case k1 => simp [Value.oneCell']
            case k2 => simp only [maxLen]; have := HFL.out; omega
            case k3 => have := HFL.out; omega
            intro v' w6 h1 h2 h3 h4
            have HT6 := Lib.hid (HTW2.out.appF (Nat.le_refl _) (s := nm) h1 h2 h3 (fun k hk => (h4 k hk).imp id fun h => by simpa using h))
            clear h1 h2 h3 h4
            go_wp2_with fail
            go_roundw
            case rel => exact ⟨j + 1, F ++ [nm], V, hjl, by go_num, by have := HFL1.out; simp; omega, by have := HVL1.out; simp; omega, HT6.out, HEF.out, HEV.out⟩
            case measure => simp [intOf]; omega
          by_cases h1 : op = 1
          · subst h1
            clear h0
            have hW : Below wr.heap.size wr (wr.alloc (.cells #[.int .i64 1, .string nm, .int .i64 vl] 41)) := (Below.refl _ _).alloc (Nat.le_refl _) _
            have HTW2 := Lib.hid (HT.out.up hW)
            have hbase : w.heap.size ≤ (wr.alloc (.cells #[.int .i64 1, .string nm, .int .i64 vl] 41)).heap.size := HTW2.out.low.size
            have HEF : Hid (namesF (rls hs) = F ++ (nmF (z.r.expr.drop (j + 1)) ++ namesF ((rls hs).drop (k + 1)))) := Lib.hid (by rw [HNF.out, HDC.out, nmF_no (x := ⟨1, nm, vl⟩) (show ¬ (1 : Int) = 0 by omega)])
            have HEV : Hid (namesV (rls hs) = (V ++ [nm]) ++ (nmV (z.r.expr.drop (j + 1)) ++ namesV ((rls hs).drop (k + 1)))) := Lib.hid (by rw [HNV.out, HDC.out, nmV_yes (x := ⟨1, nm, vl⟩) (show (1 : Int) = 1 ∨ (1 : Int) = 2 by omega)]; simp)
            clear hW
            go_wp2_with (at_builtin; refine wpList_app1a rfl (.tmp 33) (.tmp 36) _ rfl w.heap.size 9 i0 _ 1 16 Tryz.underlying42 HI0.out HI1.out HI2.out HI3.out rfl (by omega) u3 V.length (strsV V) rfl HTW2.out.v (congrArg (fun k => Value.slice (some ⟨k, 0, none⟩) 1 1) (Array.size_push (xs := wr.heap) _).symm) rfl ?k1 ?k2 ?k3 hbase ?_)
            case k1 => simp [Value.oneCell']
            case k2 => simp only [maxLen]; have := HVL.out; omega
            case k3 => have := HVL.out; omega
            intro v' w6 h1 h2 h3 h4
            have HT6 := Lib.hid (HTW2.out.appV (Nat.le_refl _) (s := nm) h1 h2 h3 (fun k hk => (h4 k hk).imp id fun h => by simpa using h))
            clear h1 h2 h3 h4
            go_wp2_with fail
            go_roundw
            case rel => exact ⟨j + 1, F, V ++ [nm], hjl, by go_num, by have := HFL1.out; simp; omega, by have := HVL1.out; simp; omega, HT6.out, HEF.out, HEV.out⟩
            case measure => simp [intOf]; omega
          by_cases h2 : op = 2
          · subst h2
            clear h0 h1
            have hW : Below wr.heap.size wr (wr.alloc (.cells #[.int .i64 2, .string nm, .int .i64 vl] 41)) := (Below.refl _ _).alloc (Nat.le_refl _) _
            have HTW2 := Lib.hid (HT.out.up hW)
            have hbase : w.heap.size ≤ (wr.alloc (.cells #[.int .i64 2, .string nm, .int .i64 vl] 41)).heap.size := HTW2.out.low.size
            have HEF : Hid (namesF (rls hs) = F ++ (nmF (z.r.expr.drop (j + 1)) ++ namesF ((rls hs).drop (k + 1)))) := Lib.hid (by rw [HNF.out, HDC.out, nmF_no (x := ⟨2, nm, vl⟩) (show ¬ (2 : Int) = 0 by omega)])
            have HEV : Hid (namesV (rls hs) = (V ++ [nm]) ++ (nmV (z.r.expr.drop (j + 1)) ++ namesV ((rls hs).drop (k + 1)))) := Lib.hid (by rw [HNV.out, HDC.out, nmV_yes (x := ⟨2, nm, vl⟩) (show (2 : Int) = 1 ∨ (2 : Int) = 2 by omega)]; simp)
            clear hW
            go_wp2_with (at_builtin; refine wpList_app1a rfl (.tmp 33) (.tmp 36) _ rfl w.heap.size 9 i0 _ 1 16 Tryz.underlying42 HI0.out HI1.out HI2.out HI3.out rfl (by omega) u3 V.length (strsV V) rfl HTW2.out.v (congrArg (fun k => Value.slice (some ⟨k, 0, none⟩) 1 1) (Array.size_push (xs := wr.heap) _).symm) rfl ?k1 ?k2 ?k3 hbase ?_)
            case k1 => simp [Value.oneCell']
            case k2 => simp only [maxLen]; have := HVL.out; omega
            case k3 => have := HVL.out; omega
            intro v' w6 h1 h2 h3 h4
            have HT6 := Lib.hid (HTW2.out.appV (Nat.le_refl _) (s := nm) h1 h2 h3 (fun k hk => (h4 k hk).imp id fun h => by simpa using h))
            clear h1 h2 h3 h4
            go_wp2_with fail
            go_roundw
            case rel => exact ⟨j + 1, F, V ++ [nm], hjl, by go_num, by have := HFL1.out; simp; omega, by have := HVL1.out; simp; omega, HT6.out, HEF.out, HEV.out⟩
            case measure => simp [intOf]; omega
          · skip
            have hW : Below wr.heap.size wr (wr.alloc (.cells #[.int .i64 op, .string nm, .int .i64 vl] 41)) := (Below.refl _ _).alloc (Nat.le_refl _) _
            have HTW2 := Lib.hid (HT.out.up hW)
            have hbase : w.heap.size ≤ (wr.alloc (.cells #[.int .i64 op, .string nm, .int .i64 vl] 41)).heap.size := HTW2.out.low.size
            have HEF : Hid (namesF (rls hs) = F ++ (nmF (z.r.expr.drop (j + 1)) ++ namesF ((rls hs).drop (k + 1)))) := Lib.hid (by rw [HNF.out, HDC.out, nmF_no (x := ⟨op, nm, vl⟩) (show ¬ (op : Int) = 0 by omega)])
            have HEV : Hid (namesV (rls hs) = V ++ (nmV (z.r.expr.drop (j + 1)) ++ namesV ((rls hs).drop (k + 1)))) := Lib.hid (by rw [HNV.out, HDC.out, nmV_no (x := ⟨op, nm, vl⟩) (show ¬ ((op : Int) = 1 ∨ (op : Int) = 2) by omega)])
            clear hW
            go_wp2_with fail
            go_roundw
            case rel => exact ⟨j + 1, F, V, hjl, by go_num, by have := HFL1.out; omega, by have := HVL1.out; omega, HTW2.out, HEF.out, HEV.out⟩
            case measure => simp [intOf]; omega
        · have hd : z.r.expr.drop j = [] := by rw [List.drop_eq_nil_iff, HZL.out]; omega
          have HEF : Hid (namesF (rls hs) = F ++ namesF ((rls hs).drop (k + 1))) := Lib.hid (by rw [HNF.out, hd]; rfl)
          have HEV : Hid (namesV (rls hs) = V ++ namesV ((rls hs).drop (k + 1))) := Lib.hid (by rw [HNV.out, hd]; rfl)
          clear hd
          go_wp2_with fail
          go_roundw
          case rel => exact ⟨k + 1, F, V, hlt, by go_num, by have := HFL1.out; omega, by have := HVL1.out; omega, HT.out, HEF.out, HEV.out⟩
          case measure => simp [intOf]; omega
    · have hd : (rls hs).drop k = [] := by rw [List.drop_eq_nil_iff]; unfold rls; rw [List.length_map, HLEN.out]; omega
      have HEF : Hid (namesF (rls hs) = F) := Lib.hid (by rw [HNF.out, hd]; simp [namesF])
      have HEV : Hid (namesV (rls hs) = V) := Lib.hid (by rw [HNV.out, hd]; simp [namesV])
      have HF2 : Hid (F.length ≤ 2000) := Lib.hid (by have := HFL.out; omega)
      have HV2 : Hid (V.length ≤ 2000) := Lib.hid (by have := HVL.out; omega)
      clear hd HNF HNV HFL HVL
      go_wp2_with fail
      refine (sortS_any w.heap.size _ F wr HT.out.f (by have := HF2.out; omega)).mono ?_
      rintro e w1 ⟨rfl, h1, h2⟩
      have HT1 := Lib.hid (HT.out.setF h1 (srtS_len F) h2 rfl)
      clear h1 h2
      go_wp2_with fail
      refine (sortS_any w.heap.size _ V w1 HT1.out.v (by have := HV2.out; omega)).mono ?_
      rintro e w2 ⟨rfl, h1, h2⟩
      have HT2 := Lib.hid (HT1.out.setV h1 (srtS_len V) h2 rfl)
      clear h1 h2
      go_wp2_with fail
      refine (compactS_any w.heap.size _ (srtS F) w2 HT2.out.f (by rw [srtS_len]; have := HF2.out; omega)).mono ?_
      rintro e w3 ⟨v3, rfl, h1, h2, h3⟩
      have HT3 := Lib.hid (HT2.out.setF h1 rfl h2 h3)
      clear h1 h2 h3
      go_wp2_with fail
      refine (compactS_any w.heap.size _ (srtS V) w3 HT3.out.v (by rw [srtS_len]; have := HV2.out; omega)).mono ?_
      rintro e w4 ⟨v4, rfl, h1, h2, h3⟩
      have HT4 := Lib.hid (HT3.out.setV h1 rfl h2 h3)
      clear h1 h2 h3
      go_wp2_with fail
      go_ret2
      rw [HP.out]
      exact ⟨v3, v4, rfl, by rw [HEF.out, HEV.out]; exact HT4.out⟩
end Go.Proofs.YtaanoljfhnfjoaaGreatDoor
