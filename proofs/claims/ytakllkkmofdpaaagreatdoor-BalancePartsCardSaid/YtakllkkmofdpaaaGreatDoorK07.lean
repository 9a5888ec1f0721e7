/- Parts of the proof, put together into one file. -/
import Derived.Test.YtakllkkmofdpaaaGreatDoorK05
import Derived.Test.YtakllkkmofdpaaaGreatDoorK06
/- Words: differences. -/
namespace Go.Proofs.YtakllkkmofdpaaaGreatDoor
open Go.ChangeShapes Go.WideShapes Go.ChangeAt Go.RowKit
set_option linter.unusedVariables false
set_option linter.unusedSimpArgs false
attribute [local go_sem ↓] execOp_call_val
attribute [local go_sem] callVal_func setCell_drewN alloc_drewN

structure SubInv (a b : List Nat) (n k : Nat) (cc : Int) (out : List Nat) : Prop where
  len : out.length = n
  od : Wd out
  oz : Zf out k
  c1 : -1 ≤ cc
  c2 : cc ≤ 0
  eq : (wv out : Int) + cc * (BB k : Int) = (wv (a.take k) : Int) - (wv (b.take k) : Int)
theorem SubInv.step {a b out : List Nat} {n k : Nat} {cc : Int} (H : SubInv a b n k cc out) (ha : Wd a) (hb : Wd b) (hk : k < n) : SubInv a b n (k + 1) ((cc + a.getD k 0 - b.getD k 0) / 4294967296) (out.set k ((cc + a.getD k 0 - b.getD k 0) % 4294967296).toNat) := by
  have hl := H.len
  obtain ⟨h1, h2, h3⟩ := sub_step ha hb (by omega) H.oz H.c1 H.c2 H.eq
  exact ⟨by rw [List.length_set]; exact hl, H.od.set _ (by omega), H.oz.put, h1, h2, h3⟩
set_option maxHeartbeats 2000000 in
theorem subW0 (A : Option Addr) (n c : Nat) (B : Option Addr) (m d : Nat) (a b : List Nat) (w : World) (ha : RdW w w.heap.size A n a) (hb : RdW w w.heap.size B m b) (had : Wd a) (hbd : Wd b) (hn : n ≤ 35184372088832) (hmn : m ≤ n) (hle : wv b ≤ wv a) :
    Calls Tryz.prog 120 #[.slice A n c, .slice B m d] w (OutWP (wv a - wv b) w) := by
  have HA := Lib.hid ha
  have HB := Lib.hid hb
  have HAD := Lib.hid had
  have HBD := Lib.hid hbd
  have HAL := Lib.hid ha.len
  have HBL := Lib.hid hb.len
  have HLE := Lib.hid hle
  clear ha hb had hbd hle
  have hmk : ∀ w : World, (Instr.makeSlice 89 (.int .i64 (n : Int)) (.int .i64 (n : Int))).run Tryz.prog w = .ok (.slice (some ⟨w.heap.size, 0, none⟩) n n) (w.alloc (.cells (u32s (List.replicate n 0)).toArray 171)) := fun w => make_u32 n (by omega) w
  have HK := Lib.hid ((Below.refl w.heap.size w).alloc (Nat.le_refl _) (.cells (u32s (List.replicate n 0)).toArray 171))
  have HG := Lib.hid (Blk.new w 171 (u32s (List.replicate n 0)).toArray)
  go_enter Tryz.func120, Tryz.ntmps120
  go_wp2_with fail
  clear hmk
  generalize w.alloc (.cells (u32s (List.replicate n 0)).toArray 171) = W at *
  generalize hg : w.heap.size = g at *
  have HGS := Lib.hid hg
  clear hg
  go_loopw [6, 13] (fun v6 v13 wr => ∃ (k : Nat) (cc : Int) (out : List Nat), k ≤ n ∧ v13 = .int .i64 k ∧ v6 = .int .i64 cc ∧ Below g w wr ∧ Blk wr g 171 (u32s out).toArray ∧ SubInv a b n k cc out) (fun _ v13 _ => n - (intOf v13).toNat)
  case atStart => exact ⟨0, 0, _, by omega, rfl, rfl, HK.out, HG.out, ⟨by simp, wd_zeros _, zf_zeros _ _, by omega, by omega, by rw [wv_zeros]; simp [wv]⟩⟩
  case round =>
    clear HK HG
    obtain ⟨k, cc, out, hk, rfl, rfl, hb, hg, hI⟩ := hrel
    have HK := Lib.hid hb
    have HG := Lib.hid hg
    have HI := Lib.hid hI
    clear hb hg hI
    have hcc := HI.out.c1
    have hcc2 := HI.out.c2
    have hgl := HG.out.lt
    have hgf := HG.out.frozen
    by_cases hlt : k < n
    · obtain ⟨ab, ao, hA1, hab⟩ := HA.out.form (by omega)
      subst hA1
      have hca := (HA.out.lift HK.out (by omega)).at_ hlt
      have hcg := blkW_cell HG.out (i := k) (by rw [HI.out.len]; omega)
      have HN := Lib.hid (HI.out.step HAD.out HBD.out hlt)
      have hx := HAD.out.getD k
      have hy := HBD.out.getD k
      obtain ⟨x, hxx⟩ : ∃ x, a.getD k 0 = x := ⟨_, rfl⟩
      obtain ⟨y, hyy⟩ : ∃ y, b.getD k 0 = y := ⟨_, rfl⟩
      have HYY := Lib.hid hyy
      rw [hxx] at hca hx
      rw [hyy] at hy
      rw [hxx, hyy] at HN
      obtain ⟨z, hzz⟩ : ∃ z, out.getD k 0 = z := ⟨_, rfl⟩
      rw [hzz] at hcg
      clear hxx hyy hzz
      have hab2 : ab < wr.heap.size := by omega
      have hkI : (k : Int) < (n : Int) := by omega
      by_cases hkm : k < m
      · obtain ⟨bb, bo, hB1, hbb⟩ := HB.out.form (by omega)
        subst hB1
        have hcb := (HB.out.lift HK.out (by omega)).at_ hkm
        rw [HYY.out] at hcb
        have hbb2 : bb < wr.heap.size := by omega
        have hkmI : (k : Int) < (m : Int) := by omega
        go_wp2_with fail
        go_roundw
        case rel => exact ⟨k + 1, _, _, by omega, by go_num, val_int (by omega), HK.out.setCell (Nat.le_refl _) _, blkW_set HG.out (by omega), HN.out⟩
        case measure => simp [intOf]; omega
      · have hy0 : y = 0 := by rw [← HYY.out]; exact wd_out (by rw [HBL.out]; omega)
        subst hy0
        have hkmI : ¬ (k : Int) < (m : Int) := by omega
        go_wp2_with fail
        go_roundw
        case rel => exact ⟨k + 1, _, _, by omega, by go_num, val_int (by omega), HK.out.setCell (Nat.le_refl _) _, blkW_set HG.out (by omega), HN.out⟩
        case measure => simp [intOf]; omega
    · have hke : k = n := by omega
      subst hke
      have HE : Hid (wv out = wv a - wv b) := Lib.hid (by
        have h := HI.out.eq
        rw [List.take_of_length_le (by rw [HAL.out]; exact Nat.le_refl _), List.take_of_length_le (by rw [HBL.out]; exact hmn)] at h
        rw [← HI.out.len] at h
        exact sub_end HI.out.c1 HI.out.c2 HI.out.od HLE.out h)
      go_wp2_with fail
      go_ret
      exact outWP_blk (by rw [HGS.out]; exact HK.out) HG.out HI.out.len HI.out.od HE.out (by omega) rfl
end Go.Proofs.YtakllkkmofdpaaaGreatDoor
/- Words: the quotient by one word. -/
namespace Go.Proofs.YtakllkkmofdpaaaGreatDoor
open Go.ChangeShapes Go.WideShapes Go.ChangeAt Go.RowKit
set_option linter.unusedVariables false
set_option linter.unusedSimpArgs false
attribute [local go_sem ↓] execOp_call_val
attribute [local go_sem] callVal_func setCell_drewN alloc_drewN

structure SdvInv (a : List Nat) (n d k r : Nat) (out : List Nat) : Prop where
  len : out.length = n
  od : Wd out
  rd : r < d
  eq : wv (a.drop k) = d * wv (out.drop k) + r
theorem SdvInv.step {a out : List Nat} {n d k r : Nat} (H : SdvInv a n d (k + 1) r out) (ha : Wd a) (hl : a.length = n) (hd : 0 < d) (hd2 : d < 4294967296) (hk : k < n) : (r * 4294967296 + a.getD k 0) / d < 4294967296 ∧ SdvInv a n d k ((r * 4294967296 + a.getD k 0) % d) (out.set k ((r * 4294967296 + a.getD k 0) / d)) := by
  have hl2 := H.len
  obtain ⟨h1, h2⟩ := sdiv_step ha (by omega) hd hd2 H.rd (by omega) H.eq
  exact ⟨h1, by rw [List.length_set]; exact hl2, H.od.set _ h1, Nat.mod_lt _ hd, h2⟩
/-- a quotient and a remainder -/
def SdvP (v d : Nat) (w : World) (e : Ending) (w' : World) : Prop := Below w.heap.size w w' ∧ ∃ g n l, e = .returned (.tuple #[.slice (some ⟨g, 0, none⟩) n n, .int .u32 ((v % d : Nat) : Int)]) ∧ RdW w' w'.heap.size (some ⟨g, 0, none⟩) n l ∧ Wd l ∧ wv l = v / d ∧ n ≤ 35184372088832 ∧ w.heap.size ≤ g
theorem sdvP_mk {v d g n t : Nat} {l : List Nat} {w w' : World} {e : Ending} {r : Nat} (hb : Below w.heap.size w w') (hg : Blk w' g t (u32s l).toArray) (hl : l.length = n) (hd : Wd l) (hn : n ≤ 35184372088832) (hgw : w.heap.size ≤ g) (hr : r < d) (hv : v = d * wv l + r) (he : e = .returned (.tuple #[.slice (some ⟨g, 0, none⟩) n n, .int .u32 (r : Int)])) : SdvP v d w e w' := by
  have h1 : v / d = wv l := by rw [hv, Nat.mul_add_div (by omega), Nat.div_eq_of_lt hr, Nat.add_zero]
  have h2 : v % d = r := by rw [hv, Nat.mul_add_mod, Nat.mod_eq_of_lt hr]
  refine ⟨hb, g, n, l, by rw [he, h2], by subst hl; exact rdW_blk hg, hd, h1.symm, hn, hgw⟩
set_option maxHeartbeats 2000000 in
theorem sdivW (A : Option Addr) (n c : Nat) (d : Nat) (a : List Nat) (w : World) (ha : RdW w w.heap.size A n a) (had : Wd a) (hn : n ≤ 35184372088832) (hd : 0 < d) (hd2 : d < 4294967296) :
    Calls Tryz.prog 121 #[.slice A n c, .int .u32 (d : Int)] w (SdvP (wv a) d w) := by
  have HA := Lib.hid ha
  have HAD := Lib.hid had
  have HAL := Lib.hid ha.len
  clear ha had
  have hmk : ∀ w : World, (Instr.makeSlice 89 (.int .i64 (n : Int)) (.int .i64 (n : Int))).run Tryz.prog w = .ok (.slice (some ⟨w.heap.size, 0, none⟩) n n) (w.alloc (.cells (u32s (List.replicate n 0)).toArray 171)) := fun w => make_u32 n (by omega) w
  have HK := Lib.hid ((Below.refl w.heap.size w).alloc (Nat.le_refl _) (.cells (u32s (List.replicate n 0)).toArray 171))
  have HG := Lib.hid (Blk.new w 171 (u32s (List.replicate n 0)).toArray)
  go_enter Tryz.func121, Tryz.ntmps121
  go_wp2_with fail
  clear hmk
  generalize w.alloc (.cells (u32s (List.replicate n 0)).toArray 171) = W at *
  generalize hg : w.heap.size = g at *
  have HGS := Lib.hid hg
  clear hg
  go_loopw [7, 8] (fun v7 v8 wr => ∃ (k r : Nat) (out : List Nat), k ≤ n ∧ v8 = .int .i64 ((k : Int) - 1) ∧ v7 = .int .u64 r ∧ Below g w wr ∧ Blk wr g 171 (u32s out).toArray ∧ SdvInv a n d k r out) (fun _ v8 _ => (intOf v8 + 1).toNat)
  case atStart => exact ⟨n, 0, _, Nat.le_refl _, rfl, rfl, HK.out, HG.out, ⟨by simp, wd_zeros _, hd, by rw [List.drop_eq_nil_of_le (by rw [HAL.out]; exact Nat.le_refl _), List.drop_eq_nil_of_le (by simp)]; simp [wv]⟩⟩
  case round =>
    clear HK HG
    obtain ⟨k, r, out, hk, rfl, rfl, hb, hg, hI⟩ := hrel
    have HK := Lib.hid hb
    have HG := Lib.hid hg
    have HI := Lib.hid hI
    clear hb hg hI
    have hgl := HG.out.lt
    have hgf := HG.out.frozen
    have hrd := HI.out.rd
    by_cases h0 : k = 0
    · subst h0
      have HE : Hid (wv a = d * wv out + r) := Lib.hid (by have := HI.out.eq; simpa using this)
      have e : (((0 : Nat) : Int) - 1) = -1 := rfl
      rw [e]
      clear e
      go_wp2_with fail
      go_ret2
      exact sdvP_mk (by rw [HGS.out]; exact HK.out) HG.out HI.out.len HI.out.od hn (by rw [HGS.out]; exact Nat.le_refl _) HI.out.rd HE.out rfl
    · obtain ⟨j, rfl⟩ : ∃ j, k = j + 1 := ⟨k - 1, by omega⟩
      have e : (((j + 1 : Nat) : Int) - 1) = (j : Int) := by omega
      rw [e]
      clear e h0
      have hj : j < n := hk
      obtain ⟨ab, ao, hA1, hab⟩ := HA.out.form (by omega)
      subst hA1
      have hca := (HA.out.lift HK.out (by omega)).at_ hj
      have hcg := blkW_cell HG.out (i := j) (by rw [HI.out.len]; omega)
      have HN := Lib.hid (HI.out.step HAD.out HAL.out hd hd2 hj)
      have hx := HAD.out.getD j
      obtain ⟨x, hxx⟩ : ∃ x, a.getD j 0 = x := ⟨_, rfl⟩
      rw [hxx] at hca hx HN
      obtain ⟨z, hzz⟩ : ∃ z, out.getD j 0 = z := ⟨_, rfl⟩
      rw [hzz] at hcg
      clear hxx hzz
      have hab2 : ab < wr.heap.size := by omega
      have hjI : (j : Int) < (n : Int) := by omega
      have hr32 : r < 4294967296 := by omega
      have hor : bits BinOp.or IntKind.u64 ((r : Int) * 4294967296) (x : Int) = ((r * 4294967296 + x : Nat) : Int) := or_words r x 32 (by omega) hr32 hx
      have hsl : r * 4294967296 + x < 18446744073709551616 := by omega
      generalize r * 4294967296 + x = s at hor hsl HN
      have htm := tmod_nat s d
      have htd := tdiv_nat s d
      have hql := HN.out.1
      have HN2 := Lib.hid HN.out.2
      clear HN
      generalize s / d = q at *
      generalize s % d = t at *
      have hwq : IntKind.u64.wrap (q : Int) = (q : Int) := Go.IntWalk.u64_in _ (by omega)
      go_wp2_with fail
      go_roundw
      case rel => exact ⟨j, t, _, by omega, rfl, rfl, HK.out.setCell (Nat.le_refl _) _, blkW_set HG.out (by omega), HN2.out⟩
      case measure => simp [intOf]
end Go.Proofs.YtakllkkmofdpaaaGreatDoor
/- Words: a shift to the left. -/
namespace Go.Proofs.YtakllkkmofdpaaaGreatDoor
open Go.ChangeShapes Go.WideShapes Go.ChangeAt Go.RowKit
set_option linter.unusedVariables false
set_option linter.unusedSimpArgs false
attribute [local go_sem ↓] execOp_call_val
attribute [local go_sem] callVal_func setCell_drewN alloc_drewN

structure ShInv (a : List Nat) (n s k cc : Nat) (out : List Nat) : Prop where
  len : out.length = n + 1
  od : Wd out
  oz : Zf out k
  c1 : cc < 2 ^ s
  eq : wv out + cc * BB k = wv (a.take k) * 2 ^ s
theorem ShInv.step {a out : List Nat} {n s k cc : Nat} (H : ShInv a n s k cc out) (ha : Wd a) (hs : s ≤ 31) (hk : k < n) : cc + a.getD k 0 * 2 ^ s < 18446744073709551616 ∧ ShInv a n s (k + 1) ((cc + a.getD k 0 * 2 ^ s) / 4294967296) (out.set k ((cc + a.getD k 0 * 2 ^ s) % 4294967296)) := by
  have hl := H.len
  obtain ⟨h1, h2, h3⟩ := sh_step ha hs (by omega) H.oz H.c1 H.eq
  exact ⟨h1, by rw [List.length_set]; exact hl, H.od.set _ (Nat.mod_lt _ (by decide)), H.oz.put, h2, h3⟩
/-- words of a given number -/
def OutLP (v n : Nat) (w : World) (e : Ending) (w' : World) : Prop := Below w.heap.size w w' ∧ ∃ g l, e = .returned (.slice (some ⟨g, 0, none⟩) n n) ∧ w.heap.size ≤ g ∧ Blk w' g 171 (u32s l).toArray ∧ Wd l ∧ wv l = v ∧ l.length = n
set_option maxHeartbeats 2000000 in
theorem shW (A : Option Addr) (n c : Nat) (s : Nat) (a : List Nat) (w : World) (ha : RdW w w.heap.size A n a) (had : Wd a) (hn : n ≤ 35184372088832) (hs : s ≤ 31) :
    Calls Tryz.prog 158 #[.slice A n c, .int .i64 (s : Int)] w (OutLP (wv a * 2 ^ s) (n + 1) w) := by
  have HA := Lib.hid ha
  have HAD := Lib.hid had
  have HAL := Lib.hid ha.len
  clear ha had
  have hmk : ∀ w : World, (Instr.makeSlice 89 (.int .i64 ((n : Int) + 1)) (.int .i64 ((n : Int) + 1))).run Tryz.prog w = .ok (.slice (some ⟨w.heap.size, 0, none⟩) (n + 1) (n + 1)) (w.alloc (.cells (u32s (List.replicate (n + 1) 0)).toArray 171)) := fun w => make_u32 (n + 1) (by omega) w
  have HK := Lib.hid ((Below.refl w.heap.size w).alloc (Nat.le_refl _) (.cells (u32s (List.replicate (n + 1) 0)).toArray 171))
  have HG := Lib.hid (Blk.new w 171 (u32s (List.replicate (n + 1) 0)).toArray)
  go_enter Tryz.func158, Tryz.ntmps158
  go_wp2_with fail
  clear hmk
  generalize w.alloc (.cells (u32s (List.replicate (n + 1) 0)).toArray 171) = W at *
  generalize hg : w.heap.size = g at *
  have HGS := Lib.hid hg
  clear hg
  have HP : Hid (0 < 2 ^ s) := Lib.hid (Nat.pow_pos (by decide))
  go_loopw [6, 15] (fun v6 v15 wr => ∃ (k cc : Nat) (out : List Nat), k ≤ n ∧ v15 = .int .i64 k ∧ v6 = .int .u64 cc ∧ Below g w wr ∧ Blk wr g 171 (u32s out).toArray ∧ ShInv a n s k cc out) (fun _ v15 _ => n - (intOf v15).toNat)
  case atStart => exact ⟨0, 0, _, by omega, rfl, rfl, HK.out, HG.out, ⟨by simp, wd_zeros _, zf_zeros _ _, HP.out, by rw [wv_zeros]; simp [wv]⟩⟩
  case round =>
    clear HK HG
    obtain ⟨k, cc, out, hk, rfl, rfl, hb, hg, hI⟩ := hrel
    have HK := Lib.hid hb
    have HG := Lib.hid hg
    have HI := Lib.hid hI
    clear hb hg hI
    have hcc := HI.out.c1
    have hgl := HG.out.lt
    have hgf := HG.out.frozen
    by_cases hlt : k < n
    · obtain ⟨ab, ao, hA1, hab⟩ := HA.out.form (by omega)
      subst hA1
      have hca := (HA.out.lift HK.out (by omega)).at_ hlt
      have hcg := blkW_cell HG.out (i := k) (by rw [HI.out.len]; omega)
      have HN := Lib.hid (HI.out.step HAD.out hs hlt)
      have hx := HAD.out.getD k
      obtain ⟨x, hxx⟩ : ∃ x, a.getD k 0 = x := ⟨_, rfl⟩
      rw [hxx] at hca hx HN
      obtain ⟨z, hzz⟩ : ∃ z, out.getD k 0 = z := ⟨_, rfl⟩
      rw [hzz] at hcg
      clear hxx hzz
      have hab2 : ab < wr.heap.size := by omega
      have hkI : (k : Int) < (n : Int) := by omega
      have HOR := Lib.hid (or_shift cc x s hcc HN.out.1)
      have HN2 := Lib.hid HN.out.2
      clear HN hcc
      go_wp2_with fail
      rw [HOR.out]
      generalize cc + x * 2 ^ s = t at *
      go_roundw
      case rel => exact ⟨k + 1, _, _, by omega, by go_num, val_int (by omega), HK.out.setCell (Nat.le_refl _) _, blkW_set HG.out (by omega), HN2.out⟩
      case measure => simp [intOf]; omega
    · have hke : k = n := by omega
      subst hke
      have hcg := blkW_cell HG.out (i := k) (by rw [HI.out.len]; omega)
      obtain ⟨z, hzz⟩ : ∃ z, out.getD k 0 = z := ⟨_, rfl⟩
      rw [hzz] at hcg
      clear hzz
      have hc32 : cc < 4294967296 := Nat.lt_of_lt_of_le hcc (Nat.le_trans (Nat.pow_le_pow_right (by decide) hs) (by decide))
      have HE : Hid (wv (out.set k cc) = wv a * 2 ^ s) := Lib.hid (by
        rw [add_end (v := wv a * 2 ^ s) (by rw [HI.out.len]; omega) HI.out.oz]
        rw [HI.out.eq, List.take_of_length_le (by rw [HAL.out]; exact Nat.le_refl _)])
      have HW : Hid (Wd (out.set k cc)) := Lib.hid (HI.out.od.set _ hc32)
      have HLN : Hid ((out.set k cc).length = k + 1) := Lib.hid (by rw [List.length_set]; exact HI.out.len)
      have g1 : (k : Int) < (k : Int) + 1 := by omega
      clear hcc
      go_wp2_with fail
      go_ret
      exact ⟨by rw [HGS.out]; exact HK.out.setCell (Nat.le_refl _) _, g, _, rfl, Nat.le_of_eq HGS.out, blkW_set HG.out rfl, HW.out, HE.out, HLN.out⟩
end Go.Proofs.YtakllkkmofdpaaaGreatDoor
/- Integers of any size: products. -/
namespace Go.Proofs.YtakllkkmofdpaaaGreatDoor
open Go.ChangeShapes Go.WideShapes Go.ChangeAt Go.RowKit
set_option linter.unusedVariables false
set_option linter.unusedSimpArgs false
attribute [local go_sem ↓] execOp_call_val
attribute [local go_sem] callVal_func setCell_drewN alloc_drewN

structure MulInv (a b : List Nat) (n m i : Nat) (out : List Nat) : Prop where
  len : out.length = n + m
  od : Wd out
  oz : Zf out (i + m)
  eq : wv out = wv (a.take i) * wv b
structure MulIn (a b : List Nat) (n m i x k cc : Nat) (out : List Nat) : Prop where
  len : out.length = n + m
  od : Wd out
  oz : Zf out (i + m)
  cl : cc < 4294967296
  eq : wv out + cc * BB (i + k) = wv (a.take i) * wv b + x * wv (b.take k) * BB i
theorem MulIn.step {a b out : List Nat} {n m i x k cc : Nat} (H : MulIn a b n m i x k cc out) (hb : Wd b) (hx : x < 4294967296) (hi : i < n) (hk : k < m) : cc + out.getD (i + k) 0 + x * b.getD k 0 < 18446744073709551616 ∧ MulIn a b n m i x (k + 1) ((cc + out.getD (i + k) 0 + x * b.getD k 0) / 4294967296) (out.set (i + k) ((cc + out.getD (i + k) 0 + x * b.getD k 0) % 4294967296)) := by
  have hl := H.len
  obtain ⟨h1, h2, h3⟩ := mul_step hb H.od hx H.cl (by omega) H.eq
  exact ⟨h1, by rw [List.length_set]; exact hl, H.od.set _ (Nat.mod_lt _ (by decide)), H.oz.set (by omega), h2, h3⟩
theorem MulIn.done {a b out : List Nat} {n m i cc : Nat} (H : MulIn a b n m i (a.getD i 0) m cc out) (hbl : b.length = m) (hi : i < n) : MulInv a b n m (i + 1) (out.set (i + m) cc) := by
  have hl := H.len
  have he := H.eq
  refine ⟨by rw [List.length_set]; exact hl, H.od.set _ H.cl, ?_, ?_⟩
  · have := H.oz.put (x := cc)
    rwa [show i + m + 1 = i + 1 + m from by omega] at this
  · subst hbl
    rw [List.take_of_length_le (Nat.le_refl _)] at he
    exact mul_end (by omega) H.oz he
theorem sgn_mul (y z : Int) : sgn (decide (y < 0) != decide (z < 0)) (y.natAbs * z.natAbs) = y * z := by
  rw [← Int.natAbs_mul]
  unfold sgn
  rcases Int.lt_trichotomy y 0 with hy | hy | hy
  · rcases Int.lt_trichotomy z 0 with hz | hz | hz
    · have := Int.mul_pos_of_neg_of_neg hy hz
      rw [if_neg (by simp [hy, hz])]; omega
    · subst hz; simp
    · have := Int.mul_neg_of_neg_of_pos hy hz
      rw [if_pos (by simp [hy]; omega)]; omega
  · subst hy; simp
  · rcases Int.lt_trichotomy z 0 with hz | hz | hz
    · have := Int.mul_neg_of_pos_of_neg hy hz
      rw [if_pos (by simp [hz]; omega)]; omega
    · subst hz; simp
    · have := Int.mul_pos hy hz
      rw [if_neg (by simp; omega)]; omega
set_option maxRecDepth 100000 in
set_option maxHeartbeats 4000000 in
theorem lgmul_any (y z : Int) (b1 : Bool) (A : Option Addr) (n c : Nat) (b2 : Bool) (B : Option Addr) (m d : Nat) (w : World) (h1 : LgIs w w.heap.size y b1 A n c) (h2 : LgIs w w.heap.size z b2 B m d) (hnm : n + m ≤ 35184372088832) :
    Calls Tryz.prog 88 #[.agg #[.bool b1, .slice A n c], .agg #[.bool b2, .slice B m d]] w (LgP (y * z) w) := by
  have HB0 : Hid (Below w.heap.size w ((((w.alloc (.cells #[.bool b1, .slice A n c] 91)).alloc (.cells #[.bool b2, .slice B m d] 91)).alloc (.cells #[.bool false, .slice none 0 0] 91)).alloc (.cells (u32s (List.replicate (n + m) 0)).toArray 171))) := Lib.hid ((((Below.refl _ _).alloc (Nat.le_refl _) _).alloc (by simp) _).alloc (by simp; omega) _ |>.alloc (by simp; omega) _)
  have HX1 : Hid (Blk ((((w.alloc (.cells #[.bool b1, .slice A n c] 91)).alloc (.cells #[.bool b2, .slice B m d] 91)).alloc (.cells #[.bool false, .slice none 0 0] 91)).alloc (.cells (u32s (List.replicate (n + m) 0)).toArray 171)) w.heap.size 91 #[.bool b1, .slice A n c]) := Lib.hid ((((Blk.new w _ _).alloc _).alloc _).alloc _)
  have HX2 : Hid (Blk ((((w.alloc (.cells #[.bool b1, .slice A n c] 91)).alloc (.cells #[.bool b2, .slice B m d] 91)).alloc (.cells #[.bool false, .slice none 0 0] 91)).alloc (.cells (u32s (List.replicate (n + m) 0)).toArray 171)) (w.heap.size + 1) 91 #[.bool b2, .slice B m d]) := Lib.hid (((Blk.new_ (by simp)).alloc _).alloc _)
  have HR : Hid (Blk ((((w.alloc (.cells #[.bool b1, .slice A n c] 91)).alloc (.cells #[.bool b2, .slice B m d] 91)).alloc (.cells #[.bool false, .slice none 0 0] 91)).alloc (.cells (u32s (List.replicate (n + m) 0)).toArray 171)) (w.heap.size + 1 + 1) 91 #[.bool false, .slice none 0 0]) := Lib.hid ((Blk.new_ (by simp)).alloc _)
  have HG : Hid (Blk ((((w.alloc (.cells #[.bool b1, .slice A n c] 91)).alloc (.cells #[.bool b2, .slice B m d] 91)).alloc (.cells #[.bool false, .slice none 0 0] 91)).alloc (.cells (u32s (List.replicate (n + m) 0)).toArray 171)) (w.heap.size + 1 + 1 + 1) 171 (u32s (List.replicate (n + m) 0)).toArray) := Lib.hid (Blk.new_ (by simp))
  have HA : Hid (RdW ((((w.alloc (.cells #[.bool b1, .slice A n c] 91)).alloc (.cells #[.bool b2, .slice B m d] 91)).alloc (.cells #[.bool false, .slice none 0 0] 91)).alloc (.cells (u32s (List.replicate (n + m) 0)).toArray 171)) w.heap.size A n (dig y.natAbs)) := Lib.hid (h1.rd.below HB0.out (Nat.le_refl _))
  have HB : Hid (RdW ((((w.alloc (.cells #[.bool b1, .slice A n c] 91)).alloc (.cells #[.bool b2, .slice B m d] 91)).alloc (.cells #[.bool false, .slice none 0 0] 91)).alloc (.cells (u32s (List.replicate (n + m) 0)).toArray 171)) w.heap.size B m (dig z.natAbs)) := Lib.hid (h2.rd.below HB0.out (Nat.le_refl _))
  have HE1 := Lib.hid h1.eb
  have HE2 := Lib.hid h2.eb
  have HAL : Hid ((dig y.natAbs).length = n) := Lib.hid h1.en.symm
  have HBL : Hid ((dig z.natAbs).length = m) := Lib.hid h2.en.symm
  have HWA : Hid (wv (dig y.natAbs) = y.natAbs) := Lib.hid (wv_dig _)
  have HWB : Hid (wv (dig z.natAbs) = z.natAbs) := Lib.hid (wv_dig _)
  have HAD := Lib.hid (wd_dig y.natAbs)
  have HBD := Lib.hid (wd_dig z.natAbs)
  generalize dig y.natAbs = a at *
  generalize dig z.natAbs = b at *
  clear h1 h2
  have hmk : ∀ w : World, (Instr.makeSlice 89 (.int .i64 ((n : Int) + (m : Int))) (.int .i64 ((n : Int) + (m : Int)))).run Tryz.prog w = .ok (.slice (some ⟨w.heap.size, 0, none⟩) (n + m) (n + m)) (w.alloc (.cells (u32s (List.replicate (n + m) 0)).toArray 171)) := fun w => by
    have := make_u32 (n + m) (by omega) w
    rwa [Int.natCast_add] at this
  go_enter Tryz.func88, Tryz.ntmps88
  go_upto_region 2 with fail
  clear hmk
  generalize ((((w.alloc (.cells #[.bool b1, .slice A n c] 91)).alloc (.cells #[.bool b2, .slice B m d] 91)).alloc (.cells #[.bool false, .slice none 0 0] 91)).alloc (.cells (u32s (List.replicate (n + m) 0)).toArray 171)) = W at *
  generalize hg : w.heap.size = g at *
  have HGS := Lib.hid hg
  clear hg
  have p0 := HX1.out.cell 0
  have p1 := HX1.out.cell 1
  have q0 := HX2.out.cell 0
  have q1 := HX2.out.cell 1
  have pl := HX1.out.lt
  have ql := HX2.out.lt
  have hG1 := HG.out.lt
  have HK0 := Lib.hid (Below.refl (g + 1 + 1 + 1) W)
  go_wp2_with fail
  clear p0 p1 q0 q1
  go_loopw [22] (fun v22 wr => ∃ (i : Nat) (out : List Nat), i ≤ n ∧ v22 = .int .i64 i ∧ Below (g + 1 + 1 + 1) W wr ∧ Blk wr (g + 1 + 1 + 1) 171 (u32s out).toArray ∧ MulInv a b n m i out) (fun v22 _ => n - (intOf v22).toNat)
  case atStart => exact ⟨0, _, by omega, rfl, HK0.out, HG.out, ⟨by simp, wd_zeros _, zf_zeros _ _, by rw [wv_zeros]; simp [wv]⟩⟩
  case round =>
    clear HK0 HG
    obtain ⟨i, out, hi, rfl, hb, hg, hI⟩ := hrel
    have HK := Lib.hid hb
    have HG := Lib.hid hg
    have HI := Lib.hid hI
    clear hb hg hI
    have hgl := HG.out.lt
    have hgf := HG.out.frozen
    have p0 := (HX1.out.below HK.out (by omega)).cell 0
    have p1 := (HX1.out.below HK.out (by omega)).cell 1
    have q0 := (HX2.out.below HK.out (by omega)).cell 0
    have q1 := (HX2.out.below HK.out (by omega)).cell 1
    have pl2 : g < wr.heap.size := by omega
    have ql2 : g + 1 < wr.heap.size := by omega
    by_cases hlt : i < n
    · obtain ⟨ab, ao, hA1, hab⟩ := HA.out.form (by omega)
      subst hA1
      have hca := ((HA.out.more (show g ≤ g + 1 + 1 + 1 by omega)).lift HK.out (by omega)).at_ hlt
      have hx := HAD.out.getD i
      have HDN := Lib.hid (fun (cc : Nat) (out : List Nat) (H : MulIn a b n m i (a.getD i 0) m cc out) => H.done HBL.out hlt)
      obtain ⟨x, hxx⟩ : ∃ x, a.getD i 0 = x := ⟨_, rfl⟩
      rw [hxx] at hca hx HDN
      clear hxx
      have hab2 : ab < wr.heap.size := by omega
      have hiI : (i : Int) < (n : Int) := by omega
      go_wp2_with fail
      clear p0 p1 q0 q1 hca hgf
      obtain ⟨wo, rfl⟩ : ∃ wo : World, wo = wr := ⟨_, rfl⟩
      go_loopw [8, 30] (fun v8 v30 wr => ∃ (k cc : Nat) (out : List Nat), k ≤ m ∧ v30 = .int .i64 k ∧ v8 = .int .u64 cc ∧ Below (g + 1 + 1 + 1) W wr ∧ Blk wr (g + 1 + 1 + 1) 171 (u32s out).toArray ∧ MulIn a b n m i x k cc out) (fun _ v30 _ => m - (intOf v30).toNat)
      case atStart => exact ⟨0, 0, _, by omega, rfl, rfl, HK.out, HG.out, ⟨HI.out.len, HI.out.od, HI.out.oz, by decide, by rw [HI.out.eq]; simp [wv]⟩⟩
      case round =>
        clear HK HG HI
        obtain ⟨k, cc, out, hk, rfl, rfl, hb, hg, hI⟩ := hrel
        have HK := Lib.hid hb
        have HG := Lib.hid hg
        have HI := Lib.hid hI
        clear hb hg hI
        have hgl := HG.out.lt
        have hgf := HG.out.frozen
        have hcl := HI.out.cl
        by_cases hlk : k < m
        · obtain ⟨bb, bo, hB1, hbb⟩ := HB.out.form (by omega)
          subst hB1
          have hcb := ((HB.out.more (show g ≤ g + 1 + 1 + 1 by omega)).lift HK.out (by omega)).at_ hlk
          have hy := HBD.out.getD k
          have hz := HI.out.od.getD (i + k)
          have hcg := blkW_cell HG.out (i := i + k) (by rw [HI.out.len]; omega)
          have HN := Lib.hid (HI.out.step HBD.out hx hlt hlk)
          obtain ⟨y2, hyy⟩ : ∃ y, b.getD k 0 = y := ⟨_, rfl⟩
          rw [hyy] at hcb hy HN
          obtain ⟨z2, hzz⟩ : ∃ y, out.getD (i + k) 0 = y := ⟨_, rfl⟩
          rw [hzz] at hcg hz HN
          clear hyy hzz
          have hpr : x * y2 ≤ 4294967295 * 4294967295 := Nat.mul_le_mul (by omega) (by omega)
          have hmul : IntKind.u64.wrap ((x : Int) * (y2 : Int)) = ((x * y2 : Nat) : Int) := by rw [← Int.natCast_mul]; exact Go.IntWalk.u64_in _ (by omega)
          have hs1 := HN.out.1
          have HN2 := Lib.hid HN.out.2
          clear HN
          generalize x * y2 = pr at *
          have hbb2 : bb < wr.heap.size := by omega
          have hkI : (k : Int) < (m : Int) := by omega
          have hsum : IntKind.i64.wrap ((i : Int) + (k : Int)) = ((i + k : Nat) : Int) := by rw [← Int.natCast_add]; exact Go.IntWalk.i64_in _ (by omega)
          have hikI : (i : Int) + (k : Int) < (n : Int) + (m : Int) := by omega
          have hikn : ((i : Int) + (k : Int)).toNat = i + k := by omega
          go_wp2_with fail
          go_roundw
          case rel => exact ⟨k + 1, _, _, by omega, by go_num, val_int (by omega), HK.out.setCell (Nat.le_refl _) _, blkW_set HG.out (by omega), HN2.out⟩
          case measure => simp [intOf]; omega
        · have hke : k = m := by omega
          subst hke
          have HD2 := Lib.hid (HDN.out cc out HI.out)
          have p0 := (HX1.out.below HK.out (by omega)).cell 0
          have p1 := (HX1.out.below HK.out (by omega)).cell 1
          have q0 := (HX2.out.below HK.out (by omega)).cell 0
          have q1 := (HX2.out.below HK.out (by omega)).cell 1
          have pl2 : g < wr.heap.size := by omega
          have ql2 : g + 1 < wr.heap.size := by omega
          have hz := HI.out.od.getD (i + k)
          have hcg := blkW_cell HG.out (i := i + k) (by rw [HI.out.len]; omega)
          obtain ⟨z2, hzz⟩ : ∃ y, out.getD (i + k) 0 = y := ⟨_, rfl⟩
          rw [hzz] at hcg hz
          clear hzz
          have hikI : (i : Int) + (k : Int) < (n : Int) + (k : Int) := by omega
          have hikn : ((i : Int) + (k : Int)).toNat = i + k := by omega
          go_wp2_with fail
          clear p0 p1 q0 q1
          go_roundw
          case rel => exact ⟨i + 1, _, by omega, by go_num, HK.out.setCell (Nat.le_refl _) _, blkW_set HG.out rfl, HD2.out⟩
          case measure => simp [intOf]; omega
    · have hie : i = n := by omega
      subst hie
      have HE : Hid (wv out = y.natAbs * z.natAbs) := Lib.hid (by rw [HI.out.eq, List.take_of_length_le (by rw [HAL.out]; exact Nat.le_refl _), HWA.out, HWB.out])
      have HLN : Hid (out.length = i + m) := Lib.hid HI.out.len
      have HRW := Lib.hid (HR.out.below HK.out (by omega))
      have HBW : Hid (Below w.heap.size w wr) := Lib.hid (by rw [HGS.out]; exact HB0.out.trans (HK.out.mono (by omega)))
      go_wp2_with fail
      clear p0 p1 q0 q1
      refine (norm_any (b1 != b2) (some ⟨g + 1 + 1 + 1, 0, none⟩) (i + m) (i + m) out wr (by have := rdW_blk HG.out; rwa [HLN.out] at this) HI.out.od (Nat.le_refl _) (by omega)).mono ?_
      rw [HE.out, HE1.out, HE2.out, sgn_mul]
      rintro e w2 ⟨k, b9, A9, n9, c9, rfl, h9⟩
      have HB2 := Lib.hid (HBW.out.trans (k.mono HBW.out.size))
      have HG2 := Lib.hid (HRW.out.below k HRW.out.lt)
      have H2 := Lib.hid h9
      have hgs : w.heap.size ≤ g + 1 + 1 := by have := HGS.out; omega
      clear k h9
      have z0 := HG2.out.cell 0
      have z1 := HG2.out.cell 1
      have zf := HG2.out.frozen
      have zl := HG2.out.lt
      go_wp2_with fail
      generalize hW9 : (w2.setCell ⟨_, 0, none⟩ _).setCell ⟨_, 1, none⟩ _ = W9
      have HP9 := Lib.hid (lg_put (e := .returned (.agg #[.bool b9, .slice A9 n9 c9])) HB2.out hgs HG2.out (by simp) (by simp) H2.out rfl)
      rw [hW9] at HP9
      have HB9 : Hid (Blk W9 _ 91 #[.bool b9, .slice A9 n9 c9]) := Lib.hid (by rw [← hW9]; exact blk_set2 HG2.out)
      clear hW9 z0 z1 zf zl
      have q0 := HB9.out.cell 0
      have q1 := HB9.out.cell 1
      exact bodyPost_ret (v := .agg #[.bool b9, .slice A9 n9 c9]) (by simp [results, Tryz.results88, go_sem, q0, q1]) rfl HP9.out
end Go.Proofs.YtakllkkmofdpaaaGreatDoor
/- Integers of any size: sums, differences, comparing. -/
namespace Go.Proofs.YtakllkkmofdpaaaGreatDoor
open Go.ChangeShapes Go.WideShapes Go.ChangeAt Go.RowKit
set_option linter.unusedVariables false
set_option linter.unusedSimpArgs false
attribute [local go_sem ↓] execOp_call_val
attribute [local go_sem] callVal_func setCell_drewN alloc_drewN

theorem sgn_add {y z : Int} (h : decide (y < 0) = decide (z < 0)) : sgn (decide (y < 0)) (y.natAbs + z.natAbs) = y + z := by
  unfold sgn
  have h2 : (y < 0) ↔ (z < 0) := by simpa using h
  by_cases hy : y < 0
  · rw [if_pos (by simpa using hy)]; omega
  · rw [if_neg (by simpa using hy)]; omega
theorem sgn_sub {y z : Int} (h : decide (y < 0) ≠ decide (z < 0)) (hle : z.natAbs ≤ y.natAbs) : sgn (decide (y < 0)) (y.natAbs - z.natAbs) = y + z := by
  unfold sgn
  by_cases hy : y < 0 <;> by_cases hz : z < 0
  · exact absurd (by simp [hy, hz]) h
  · rw [if_pos (by simpa using hy)]; omega
  · rw [if_neg (by simpa using hy)]; omega
  · exact absurd (by simp [hy, hz]) h
set_option maxRecDepth 100000 in
set_option maxHeartbeats 4000000 in
theorem add_any (y z : Int) (b1 : Bool) (A : Option Addr) (n c : Nat) (b2 : Bool) (B : Option Addr) (m d : Nat) (w : World) (h1 : LgIs w w.heap.size y b1 A n c) (h2 : LgIs w w.heap.size z b2 B m d) (hn : n ≤ 35184372088832) (hm : m ≤ 35184372088832) :
    Calls Tryz.prog 92 #[.agg #[.bool b1, .slice A n c], .agg #[.bool b2, .slice B m d]] w (LgP (y + z) w) := by
  have he1 := h1.eb
  have he2 := h2.eb
  have hny := h1.en
  have hmz := h2.en
  have HB0 : Hid (Below w.heap.size w (((w.alloc (.cells #[.bool b1, .slice A n c] 91)).alloc (.cells #[.bool b2, .slice B m d] 91)).alloc (.cells #[.bool false, .slice none 0 0] 91))) := Lib.hid ((((Below.refl _ _).alloc (Nat.le_refl _) _).alloc (by simp) _).alloc (by simp; omega) _)
  have HX1 : Hid (Blk (((w.alloc (.cells #[.bool b1, .slice A n c] 91)).alloc (.cells #[.bool b2, .slice B m d] 91)).alloc (.cells #[.bool false, .slice none 0 0] 91)) w.heap.size 91 #[.bool b1, .slice A n c]) := Lib.hid (((Blk.new w _ _).alloc _).alloc _)
  have HX2 : Hid (Blk (((w.alloc (.cells #[.bool b1, .slice A n c] 91)).alloc (.cells #[.bool b2, .slice B m d] 91)).alloc (.cells #[.bool false, .slice none 0 0] 91)) (w.heap.size + 1) 91 #[.bool b2, .slice B m d]) := Lib.hid ((Blk.new_ (by simp)).alloc _)
  have HR : Hid (Blk (((w.alloc (.cells #[.bool b1, .slice A n c] 91)).alloc (.cells #[.bool b2, .slice B m d] 91)).alloc (.cells #[.bool false, .slice none 0 0] 91)) (w.heap.size + 1 + 1) 91 #[.bool false, .slice none 0 0]) := Lib.hid (Blk.new_ (by simp))
  have H1 := Lib.hid (h1.up HB0.out)
  have H2 := Lib.hid (h2.up HB0.out)
  clear h1 h2
  have HNY := Lib.hid hny
  have HMZ := Lib.hid hmz
  clear hny hmz
  go_enter Tryz.func92, Tryz.ntmps92
  have hgs : w.heap.size ≤ w.heap.size + 1 + 1 := by omega
  by_cases hb : b1 = b2
  · have HSG : Hid (sgn b1 (wv (dig y.natAbs) + wv (dig z.natAbs)) = y + z) := Lib.hid (by rw [wv_dig, wv_dig, he1]; exact sgn_add (by rw [← he1, ← he2, hb]))
    have hbb : (b1 == b2) = true := by simp [hb]
    clear he1 he2 hb
    go_wp2_with fail
    generalize (((w.alloc (.cells #[.bool b1, .slice A n c] 91)).alloc (.cells #[.bool b2, .slice B m d] 91)).alloc (.cells #[.bool false, .slice none 0 0] 91)) = W at *
    have p0 := HX1.out.cell 0
    have p1 := HX1.out.cell 1
    have q0 := HX2.out.cell 0
    have q1 := HX2.out.cell 1
    have pl := HX1.out.lt
    have ql := HX2.out.lt
    have H1W : Hid (RdW W.drew W.drew.heap.size A n (dig y.natAbs)) := Lib.hid H1.out.rd
    have H2W : Hid (RdW W.drew W.drew.heap.size B m (dig z.natAbs)) := Lib.hid H2.out.rd
    have HBW := HB0
    have HRW := HR
    clear HB0 HR
    refine wp_region_last (S := fun w' => Below W.heap.size W w') 8 _ (by kernel_rfl) (by kernel_rfl) rfl (below_drew (Below.refl _ _)) (fun hHeld => ?_)
    simp only [List.take_succ_cons, List.take_zero]
    refine takeH 0 (v := ?_) rfl (by kernel_rfl) (fun _ _ _ h => h) (by rfl) ?_ hHeld ?_
    rotate_left 1
    · intro w' hSw; obtain ⟨hcc, -⟩ := bcellW hSw; go_simp <;> with_reducible rfl
    try simp only [Act.put, List.setIfInBounds_toArray, List.set_cons_zero, List.set_cons_succ]
    refine takeH 1 (v := ?_) rfl (by kernel_rfl) (fun _ _ _ h => h) (by rfl) ?_ hHeld ?_
    rotate_left 1
    · intro w' hSw; obtain ⟨hcc, -⟩ := bcellW hSw; go_simp <;> with_reducible rfl
    try simp only [Act.put, List.setIfInBounds_toArray, List.set_cons_zero, List.set_cons_succ]
    refine takeH 2 (v := ?_) rfl (by kernel_rfl) (fun _ _ _ h => h) (by rfl) ?_ hHeld ?_
    rotate_left 1
    · intro w' hSw; obtain ⟨hcc, -⟩ := bcellW hSw; go_simp <;> with_reducible rfl
    try simp only [Act.put, List.setIfInBounds_toArray, List.set_cons_zero, List.set_cons_succ]
    refine takeH 3 (v := ?_) rfl (by kernel_rfl) (fun _ _ _ h => h) (by rfl) ?_ hHeld ?_
    rotate_left 1
    · intro w' hSw; obtain ⟨hcc, -⟩ := bcellW hSw; go_simp <;> with_reducible rfl
    try simp only [Act.put, List.setIfInBounds_toArray, List.set_cons_zero, List.set_cons_succ]
    refine takeH 4 (v := ?_) rfl (by kernel_rfl) (fun _ _ _ h => h) (by rfl) ?_ hHeld ?_
    rotate_left 1
    · intro w' hSw; obtain ⟨hcc, -⟩ := bcellW hSw; go_simp <;> with_reducible rfl
    try simp only [Act.put, List.setIfInBounds_toArray, List.set_cons_zero, List.set_cons_succ]
    refine takeH 5 (v := ?_) rfl (by kernel_rfl) (fun _ _ _ h => h) (by rfl) ?_ hHeld ?_
    rotate_left 1
    · intro w' hSw; obtain ⟨hcc, -⟩ := bcellW hSw; go_simp <;> with_reducible rfl
    try simp only [Act.put, List.setIfInBounds_toArray, List.set_cons_zero, List.set_cons_succ]
    refine stepH 6 (by kernel_rfl) rfl (fun K hK => ?_)
    go_simp
    refine (addW0 A n c B m d (dig y.natAbs) (dig z.natAbs) W.drew H1W.out H2W.out (wd_dig _) (wd_dig _) (by omega) (by omega)).mono ?_
    rintro e w5 ⟨hb5, A5, n5, c5, l5, rfl, hr5, hd5, hv5, hn5, hc5⟩
    have HB5 := Lib.hid ((below_drew (Below.refl W.heap.size W)).trans hb5)
    have HR5 := Lib.hid hr5
    have HV5 := Lib.hid hv5
    have HD5 := Lib.hid hd5
    clear hb5 hr5 hv5 hd5
    go_simp
    refine hK.out _ _ ?_ (fun hHeld => ?_)
    · exact HB5.out
    clear hK K
    try simp only [Act.put, List.setIfInBounds_toArray, List.set_cons_zero, List.set_cons_succ]
    refine stepH 7 (by kernel_rfl) rfl (fun K hK => ?_)
    go_simp
    refine (norm_any b1 A5 n5 c5 l5 w5 HR5.out HD5.out hn5 hc5).mono ?_
    rw [HV5.out, HSG.out]
    rintro e w6 ⟨hb6, b9, A9, n9, c9, rfl, h9⟩
    have HB6 := Lib.hid (HB5.out.trans (hb6.mono HB5.out.size))
    have H9 := Lib.hid h9
    clear hb6 h9
    go_simp
    refine hK.out _ _ ?_ (fun hHeld => ?_)
    · exact HB6.out
    clear hK K
    try simp only [Act.put, List.setIfInBounds_toArray, List.set_cons_zero, List.set_cons_succ]
    refine wpAnyH_done (by kernel_rfl) ?_ _
    refine lastQ_go (by rfl) ?_
    have HBF := Lib.hid (HBW.out.trans (HB6.out.mono HBW.out.size))
    have HGF := Lib.hid (HRW.out.below HB6.out HRW.out.lt)
    clear p0 p1 q0 q1 pl ql
    have z0 := HGF.out.cell 0
    have z1 := HGF.out.cell 1
    have zf := HGF.out.frozen
    have zl := HGF.out.lt
    go_wp2_with fail
    generalize hW9 : (w6.setCell ⟨_, 0, none⟩ _).setCell ⟨_, 1, none⟩ _ = W9
    have HP9 := Lib.hid (lg_put (e := .returned (.agg #[.bool b9, .slice A9 n9 c9])) HBF.out hgs HGF.out (by simp) (by simp) H9.out rfl)
    rw [hW9] at HP9
    have HB9 : Hid (Blk W9 _ 91 #[.bool b9, .slice A9 n9 c9]) := Lib.hid (by rw [← hW9]; exact blk_set2 HGF.out)
    clear hW9 z0 z1 zf zl
    have q0 := HB9.out.cell 0
    have q1 := HB9.out.cell 1
    exact bodyPost_ret (v := .agg #[.bool b9, .slice A9 n9 c9]) (by simp [results, Tryz.results92, go_sem, q0, q1]) rfl HP9.out
  · have hbb : (b1 == b2) = false := by simpa using hb
    have HNB : Hid (decide (y < 0) ≠ decide (z < 0)) := Lib.hid (by rw [← he1, ← he2]; exact hb)
    have HEB1 := Lib.hid he1
    have HEB2 := Lib.hid he2
    clear he1 he2 hb
    go_wp2_with fail
    generalize (((w.alloc (.cells #[.bool b1, .slice A n c] 91)).alloc (.cells #[.bool b2, .slice B m d] 91)).alloc (.cells #[.bool false, .slice none 0 0] 91)) = W at *
    refine (cmpW_any A n c B m d y.natAbs z.natAbs W H1.out.rd H2.out.rd (by omega) (by omega)).mono ?_
    rintro e w4 ⟨⟨r, rfl, hr⟩, nq, rfl⟩
    have hdr : Below W.heap.size W (W.drewN nq) := below_drewN (Below.refl _ _) nq
    have HB1 := Lib.hid (HB0.out.trans (hdr.mono HB0.out.size))
    have HX1b := Lib.hid (HX1.out.below hdr HX1.out.lt)
    have HX2b := Lib.hid (HX2.out.below hdr HX2.out.lt)
    have HRb := Lib.hid (HR.out.below hdr HR.out.lt)
    have H1b := Lib.hid (H1.out.up hdr)
    have H2b := Lib.hid (H2.out.up hdr)
    clear hdr HB0 HX1 HX2 HR H1 H2
    have HB0 := HB1
    have HX1 := HX1b
    have HX2 := HX2b
    have HR := HRb
    have H1 := H1b
    have H2 := H2b
    clear HB1 HX1b HX2b HRb H1b H2b
    generalize W.drewN nq = V at *
    have p0 := HX1.out.cell 0
    have p1 := HX1.out.cell 1
    have q0 := HX2.out.cell 0
    have q1 := HX2.out.cell 1
    have pl := HX1.out.lt
    have ql := HX2.out.lt
    by_cases hr0 : r < 0
    · have HLE : Hid (y.natAbs ≤ z.natAbs) := Lib.hid (Nat.le_of_lt (hr.1.1 hr0))
      have hmn : n ≤ m := by rw [HNY.out, HMZ.out]; exact dlen_mono HLE.out
      have HSG : Hid (sgn b2 (wv (dig z.natAbs) - wv (dig y.natAbs)) = y + z) := Lib.hid (by
        rw [wv_dig, wv_dig, HEB2.out, Int.add_comm]
        exact sgn_sub (fun h => HNB.out h.symm) HLE.out)
      have hr1 : decide (0 ≤ r) = false := by simpa using hr0
      clear hr hr0
      go_wp2_with fail
      have H1W : Hid (RdW V.drew V.drew.heap.size A n (dig y.natAbs)) := Lib.hid H1.out.rd
      have H2W : Hid (RdW V.drew V.drew.heap.size B m (dig z.natAbs)) := Lib.hid H2.out.rd
      have HBW := HB0
      have HRW := HR
      clear HB0 HR
      refine wp_region_last (S := fun w' => Below V.heap.size V w') 8 _ (by kernel_rfl) (by kernel_rfl) rfl (below_drew (Below.refl _ _)) (fun hHeld => ?_)
      simp only [List.take_succ_cons, List.take_zero]
      refine takeH 0 (v := ?_) rfl (by kernel_rfl) (fun _ _ _ h => h) (by rfl) ?_ hHeld ?_
      rotate_left 1
      · intro w' hSw; obtain ⟨hcc, -⟩ := bcellW hSw; go_simp <;> with_reducible rfl
      try simp only [Act.put, List.setIfInBounds_toArray, List.set_cons_zero, List.set_cons_succ]
      refine takeH 1 (v := ?_) rfl (by kernel_rfl) (fun _ _ _ h => h) (by rfl) ?_ hHeld ?_
      rotate_left 1
      · intro w' hSw; obtain ⟨hcc, -⟩ := bcellW hSw; go_simp <;> with_reducible rfl
      try simp only [Act.put, List.setIfInBounds_toArray, List.set_cons_zero, List.set_cons_succ]
      refine takeH 2 (v := ?_) rfl (by kernel_rfl) (fun _ _ _ h => h) (by rfl) ?_ hHeld ?_
      rotate_left 1
      · intro w' hSw; obtain ⟨hcc, -⟩ := bcellW hSw; go_simp <;> with_reducible rfl
      try simp only [Act.put, List.setIfInBounds_toArray, List.set_cons_zero, List.set_cons_succ]
      refine takeH 3 (v := ?_) rfl (by kernel_rfl) (fun _ _ _ h => h) (by rfl) ?_ hHeld ?_
      rotate_left 1
      · intro w' hSw; obtain ⟨hcc, -⟩ := bcellW hSw; go_simp <;> with_reducible rfl
      try simp only [Act.put, List.setIfInBounds_toArray, List.set_cons_zero, List.set_cons_succ]
      refine takeH 4 (v := ?_) rfl (by kernel_rfl) (fun _ _ _ h => h) (by rfl) ?_ hHeld ?_
      rotate_left 1
      · intro w' hSw; obtain ⟨hcc, -⟩ := bcellW hSw; go_simp <;> with_reducible rfl
      try simp only [Act.put, List.setIfInBounds_toArray, List.set_cons_zero, List.set_cons_succ]
      refine takeH 5 (v := ?_) rfl (by kernel_rfl) (fun _ _ _ h => h) (by rfl) ?_ hHeld ?_
      rotate_left 1
      · intro w' hSw; obtain ⟨hcc, -⟩ := bcellW hSw; go_simp <;> with_reducible rfl
      try simp only [Act.put, List.setIfInBounds_toArray, List.set_cons_zero, List.set_cons_succ]
      refine stepH 6 (by kernel_rfl) rfl (fun K hK => ?_)
      go_simp
      refine (subW0 B m d A n c (dig z.natAbs) (dig y.natAbs) V.drew H2W.out H1W.out (wd_dig _) (wd_dig _) (by omega) (by omega) (by rw [wv_dig, wv_dig]; exact HLE.out)).mono ?_
      rintro e w5 ⟨hb5, A5, n5, c5, l5, rfl, hr5, hd5, hv5, hn5, hc5⟩
      have HB5 := Lib.hid ((below_drew (Below.refl V.heap.size V)).trans hb5)
      have HR5 := Lib.hid hr5
      have HV5 := Lib.hid hv5
      have HD5 := Lib.hid hd5
      clear hb5 hr5 hv5 hd5
      go_simp
      refine hK.out _ _ ?_ (fun hHeld => ?_)
      · exact HB5.out
      clear hK K
      try simp only [Act.put, List.setIfInBounds_toArray, List.set_cons_zero, List.set_cons_succ]
      refine stepH 7 (by kernel_rfl) rfl (fun K hK => ?_)
      go_simp
      refine (norm_any b2 A5 n5 c5 l5 w5 HR5.out HD5.out hn5 hc5).mono ?_
      rw [HV5.out, HSG.out]
      rintro e w6 ⟨hb6, b9, A9, n9, c9, rfl, h9⟩
      have HB6 := Lib.hid (HB5.out.trans (hb6.mono HB5.out.size))
      have H9 := Lib.hid h9
      clear hb6 h9
      go_simp
      refine hK.out _ _ ?_ (fun hHeld => ?_)
      · exact HB6.out
      clear hK K
      try simp only [Act.put, List.setIfInBounds_toArray, List.set_cons_zero, List.set_cons_succ]
      refine wpAnyH_done (by kernel_rfl) ?_ _
      refine lastQ_go (by rfl) ?_
      have HBF := Lib.hid (HBW.out.trans (HB6.out.mono HBW.out.size))
      have HGF := Lib.hid (HRW.out.below HB6.out HRW.out.lt)
      clear p0 p1 q0 q1 pl ql
      have z0 := HGF.out.cell 0
      have z1 := HGF.out.cell 1
      have zf := HGF.out.frozen
      have zl := HGF.out.lt
      go_wp2_with fail
      generalize hW9 : (w6.setCell ⟨_, 0, none⟩ _).setCell ⟨_, 1, none⟩ _ = W9
      have HP9 := Lib.hid (lg_put (e := .returned (.agg #[.bool b9, .slice A9 n9 c9])) HBF.out hgs HGF.out (by simp) (by simp) H9.out rfl)
      rw [hW9] at HP9
      have HB9 : Hid (Blk W9 _ 91 #[.bool b9, .slice A9 n9 c9]) := Lib.hid (by rw [← hW9]; exact blk_set2 HGF.out)
      clear hW9 z0 z1 zf zl
      have q0 := HB9.out.cell 0
      have q1 := HB9.out.cell 1
      exact bodyPost_ret (v := .agg #[.bool b9, .slice A9 n9 c9]) (by simp [results, Tryz.results92, go_sem, q0, q1]) rfl HP9.out
    · have HLE : Hid (z.natAbs ≤ y.natAbs) := Lib.hid (Nat.le_of_not_lt fun h => hr0 (hr.1.2 h))
      have hmn : m ≤ n := by rw [HNY.out, HMZ.out]; exact dlen_mono HLE.out
      have HSG : Hid (sgn b1 (wv (dig y.natAbs) - wv (dig z.natAbs)) = y + z) := Lib.hid (by
        rw [wv_dig, wv_dig, HEB1.out]
        exact sgn_sub HNB.out HLE.out)
      have hr1 : 0 ≤ r := by omega
      clear hr hr0
      go_wp2_with fail
      have H1W : Hid (RdW V.drew V.drew.heap.size A n (dig y.natAbs)) := Lib.hid H1.out.rd
      have H2W : Hid (RdW V.drew V.drew.heap.size B m (dig z.natAbs)) := Lib.hid H2.out.rd
      have HBW := HB0
      have HRW := HR
      clear HB0 HR
      refine wp_region_last (S := fun w' => Below V.heap.size V w') 8 _ (by kernel_rfl) (by kernel_rfl) rfl (below_drew (Below.refl _ _)) (fun hHeld => ?_)
      simp only [List.take_succ_cons, List.take_zero]
      refine takeH 0 (v := ?_) rfl (by kernel_rfl) (fun _ _ _ h => h) (by rfl) ?_ hHeld ?_
      rotate_left 1
      · intro w' hSw; obtain ⟨hcc, -⟩ := bcellW hSw; go_simp <;> with_reducible rfl
      try simp only [Act.put, List.setIfInBounds_toArray, List.set_cons_zero, List.set_cons_succ]
      refine takeH 1 (v := ?_) rfl (by kernel_rfl) (fun _ _ _ h => h) (by rfl) ?_ hHeld ?_
      rotate_left 1
      · intro w' hSw; obtain ⟨hcc, -⟩ := bcellW hSw; go_simp <;> with_reducible rfl
      try simp only [Act.put, List.setIfInBounds_toArray, List.set_cons_zero, List.set_cons_succ]
      refine takeH 2 (v := ?_) rfl (by kernel_rfl) (fun _ _ _ h => h) (by rfl) ?_ hHeld ?_
      rotate_left 1
      · intro w' hSw; obtain ⟨hcc, -⟩ := bcellW hSw; go_simp <;> with_reducible rfl
      try simp only [Act.put, List.setIfInBounds_toArray, List.set_cons_zero, List.set_cons_succ]
      refine takeH 3 (v := ?_) rfl (by kernel_rfl) (fun _ _ _ h => h) (by rfl) ?_ hHeld ?_
      rotate_left 1
      · intro w' hSw; obtain ⟨hcc, -⟩ := bcellW hSw; go_simp <;> with_reducible rfl
      try simp only [Act.put, List.setIfInBounds_toArray, List.set_cons_zero, List.set_cons_succ]
      refine takeH 4 (v := ?_) rfl (by kernel_rfl) (fun _ _ _ h => h) (by rfl) ?_ hHeld ?_
      rotate_left 1
      · intro w' hSw; obtain ⟨hcc, -⟩ := bcellW hSw; go_simp <;> with_reducible rfl
      try simp only [Act.put, List.setIfInBounds_toArray, List.set_cons_zero, List.set_cons_succ]
      refine takeH 5 (v := ?_) rfl (by kernel_rfl) (fun _ _ _ h => h) (by rfl) ?_ hHeld ?_
      rotate_left 1
      · intro w' hSw; obtain ⟨hcc, -⟩ := bcellW hSw; go_simp <;> with_reducible rfl
      try simp only [Act.put, List.setIfInBounds_toArray, List.set_cons_zero, List.set_cons_succ]
      refine stepH 6 (by kernel_rfl) rfl (fun K hK => ?_)
      go_simp
      refine (subW0 A n c B m d (dig y.natAbs) (dig z.natAbs) V.drew H1W.out H2W.out (wd_dig _) (wd_dig _) (by omega) (by omega) (by rw [wv_dig, wv_dig]; exact HLE.out)).mono ?_
      rintro e w5 ⟨hb5, A5, n5, c5, l5, rfl, hr5, hd5, hv5, hn5, hc5⟩
      have HB5 := Lib.hid ((below_drew (Below.refl V.heap.size V)).trans hb5)
      have HR5 := Lib.hid hr5
      have HV5 := Lib.hid hv5
      have HD5 := Lib.hid hd5
      clear hb5 hr5 hv5 hd5
      go_simp
      refine hK.out _ _ ?_ (fun hHeld => ?_)
      · exact HB5.out
      clear hK K
      try simp only [Act.put, List.setIfInBounds_toArray, List.set_cons_zero, List.set_cons_succ]
      refine stepH 7 (by kernel_rfl) rfl (fun K hK => ?_)
      go_simp
      refine (norm_any b1 A5 n5 c5 l5 w5 HR5.out HD5.out hn5 hc5).mono ?_
      rw [HV5.out, HSG.out]
      rintro e w6 ⟨hb6, b9, A9, n9, c9, rfl, h9⟩
      have HB6 := Lib.hid (HB5.out.trans (hb6.mono HB5.out.size))
      have H9 := Lib.hid h9
      clear hb6 h9
      go_simp
      refine hK.out _ _ ?_ (fun hHeld => ?_)
      · exact HB6.out
      clear hK K
      try simp only [Act.put, List.setIfInBounds_toArray, List.set_cons_zero, List.set_cons_succ]
      refine wpAnyH_done (by kernel_rfl) ?_ _
      refine lastQ_go (by rfl) ?_
      have HBF := Lib.hid (HBW.out.trans (HB6.out.mono HBW.out.size))
      have HGF := Lib.hid (HRW.out.below HB6.out HRW.out.lt)
      clear p0 p1 q0 q1 pl ql
      have z0 := HGF.out.cell 0
      have z1 := HGF.out.cell 1
      have zf := HGF.out.frozen
      have zl := HGF.out.lt
      go_wp2_with fail
      generalize hW9 : (w6.setCell ⟨_, 0, none⟩ _).setCell ⟨_, 1, none⟩ _ = W9
      have HP9 := Lib.hid (lg_put (e := .returned (.agg #[.bool b9, .slice A9 n9 c9])) HBF.out hgs HGF.out (by simp) (by simp) H9.out rfl)
      rw [hW9] at HP9
      have HB9 : Hid (Blk W9 _ 91 #[.bool b9, .slice A9 n9 c9]) := Lib.hid (by rw [← hW9]; exact blk_set2 HGF.out)
      clear hW9 z0 z1 zf zl
      have q0 := HB9.out.cell 0
      have q1 := HB9.out.cell 1
      exact bodyPost_ret (v := .agg #[.bool b9, .slice A9 n9 c9]) (by simp [results, Tryz.results92, go_sem, q0, q1]) rfl HP9.out
end Go.Proofs.YtakllkkmofdpaaaGreatDoor
/- Plain arithmetic of fractions: what Ratio computes, and how many words it takes. -/
namespace Go.Proofs.YtakllkkmofdpaaaGreatDoor
set_option linter.unusedVariables false
set_option linter.unusedSimpArgs false

/-- the greatest common divisor -/
def gcdZ (a b : Int) : Nat := a.natAbs.gcd b.natAbs
theorem ratio_num (n : Int) {d : Nat} (hd : d ≠ 0) : (Rat.divInt n d).num = n / (n.natAbs.gcd d : Nat) ∧ (Rat.divInt n d).den = d / n.natAbs.gcd d := by
  rw [Rat.divInt_ofNat, mkRat, dif_neg hd, Rat.normalize_eq]
  exact ⟨rfl, rfl⟩
theorem ratio_one {n : Int} {d : Nat} (hd : d ≠ 0) (h : n.natAbs.gcd d = 1) : (Rat.divInt n d).num = n ∧ (Rat.divInt n d).den = d := by
  obtain ⟨h1, h2⟩ := ratio_num n hd
  rw [h] at h1 h2
  exact ⟨by rw [h1]; simp, by rw [h2, Nat.div_one]⟩
/-- the magnitudes are divided, and the sign is set again -/
theorem ratio_abs (n : Int) {d : Nat} (hd : d ≠ 0) : (Rat.divInt n d).num.natAbs = n.natAbs / n.natAbs.gcd d ∧ (n < 0 ↔ (Rat.divInt n d).num < 0) := by
  obtain ⟨h1, _⟩ := ratio_num n hd
  have hg : (n.natAbs.gcd d : Int) ∣ n := by
    exact Int.ofNat_dvd_left.2 (Nat.gcd_dvd_left ..)
  have hp : 0 < n.natAbs.gcd d := Nat.gcd_pos_of_pos_right _ (Nat.pos_of_ne_zero hd)
  rw [h1]
  refine ⟨?_, ?_⟩
  · rw [Int.natAbs_ediv, if_pos (.inr (.inr hg)), Nat.add_zero, Int.natAbs_natCast]
  · generalize n.natAbs.gcd d = g at *
    obtain ⟨k, hk⟩ := hg
    rw [hk, Int.mul_ediv_cancel_left _ (by omega)]
    have hp2 : (0 : Int) < (g : Nat) := by omega
    constructor
    · intro h
      refine Int.lt_of_not_ge fun h2 => ?_
      have := Int.mul_nonneg (Int.le_of_lt hp2) h2
      omega
    · intro h
      have := Int.mul_neg_of_pos_of_neg hp2 h
      omega
theorem ratio_neg (n : Int) (d : Nat) : Rat.divInt n (-(d : Int)) = Rat.divInt (-n) d := by
  by_cases hd : d = 0
  · subst hd; simp
  · rw [Rat.divInt_eq_divInt_iff (by omega) (by omega)]
    grind
theorem rat_eta (q : Rat) : Rat.divInt q.num q.den = q := Rat.num_divInt_den q
theorem den_ne (q : Rat) : q.den ≠ 0 := q.den_nz
theorem add_ratio (a b : Rat) : Rat.divInt (a.num * b.den + b.num * a.den) ((a.den * b.den : Nat) : Int) = a + b := by
  rw [Rat.add_def', Rat.divInt_ofNat]
theorem mul_ratio (a b : Rat) : Rat.divInt (a.num * b.num) ((a.den * b.den : Nat) : Int) = a * b := by
  have := Rat.divInt_mul_divInt a.num b.num (d₁ := a.den) (d₂ := b.den)
  rw [rat_eta, rat_eta] at this
  rw [this, Int.natCast_mul]
theorem div_ratio (a b : Rat) : Rat.divInt (a.num * b.den) ((a.den : Int) * b.num) = a / b := by
  rw [Rat.div_def, Rat.inv_def, ← Rat.divInt_mul_divInt, rat_eta]
theorem cmp_rat (a b : Rat) : (a.num * b.den < b.num * a.den ↔ a < b) ∧ (a.num * b.den = b.num * a.den ↔ a = b) := by
  refine ⟨(Rat.lt_iff a b).symm, ?_⟩
  constructor
  · intro h
    have := (Rat.divInt_eq_divInt_iff (n₁ := a.num) (n₂ := b.num) (d₁ := a.den) (d₂ := b.den) (by have := den_ne a; omega) (by have := den_ne b; omega)).2 h
    rwa [rat_eta, rat_eta] at this
  · intro h; rw [h]

/-- how many words the numerator and the denominator of a fraction take at most -/
def qsz (q : Rat) : Nat := max (dlen q.num.natAbs) (dlen q.den)
theorem qsz_num (q : Rat) : dlen q.num.natAbs ≤ qsz q := Nat.le_max_left ..
theorem qsz_den (q : Rat) : dlen q.den ≤ qsz q := Nat.le_max_right ..
theorem qsz_pos (q : Rat) : 1 ≤ qsz q := by
  have h := qsz_den q
  have := dlen_pos (den_ne q)
  omega
theorem div_dlen (m n : Nat) : dlen (m / n) ≤ dlen m := dlen_mono (Nat.div_le_self ..)
theorem ratio_qsz (n : Int) {d : Nat} (hd : d ≠ 0) : qsz (Rat.divInt n d) ≤ max (dlen n.natAbs) (dlen d) := by
  unfold qsz
  obtain ⟨h1, h2⟩ := ratio_num n hd
  rw [(ratio_abs n hd).1, h2]
  have h3 := div_dlen n.natAbs (n.natAbs.gcd d)
  have h4 := div_dlen d (n.natAbs.gcd d)
  omega
theorem dlen_mulZ (a b : Int) : dlen (a * b).natAbs ≤ dlen a.natAbs + dlen b.natAbs := by rw [Int.natAbs_mul]; exact dlen_mul ..
theorem dlen_addZ (a b : Int) : dlen (a + b).natAbs ≤ max (dlen a.natAbs) (dlen b.natAbs) + 1 :=
  Nat.le_trans (dlen_mono (Int.natAbs_add_le ..)) (dlen_add ..)
theorem add_qsz (a b : Rat) : qsz (a + b) ≤ qsz a + qsz b + 1 := by
  rw [← add_ratio]
  refine Nat.le_trans (ratio_qsz _ (Nat.mul_ne_zero (den_ne a) (den_ne b))) ?_
  have h1 := dlen_addZ (a.num * b.den) (b.num * a.den)
  have h2 := dlen_mulZ a.num b.den
  have h3 := dlen_mulZ b.num a.den
  have h4 := dlen_mul a.den b.den
  unfold qsz
  rw [Int.natAbs_natCast] at h2 h3
  omega
theorem mul_qsz (a b : Rat) : qsz (a * b) ≤ qsz a + qsz b := by
  rw [← mul_ratio]
  refine Nat.le_trans (ratio_qsz _ (Nat.mul_ne_zero (den_ne a) (den_ne b))) ?_
  have h2 := dlen_mulZ a.num b.num
  have h4 := dlen_mul a.den b.den
  unfold qsz
  omega
theorem div_qsz (a b : Rat) : qsz (a / b) ≤ qsz a + qsz b := by
  by_cases hb : b = 0
  · subst hb
    rw [Rat.div_def, Rat.inv_zero, Rat.mul_zero]
    have h0 : qsz 0 ≤ 1 := by
      show max (dlen 0) (dlen 1) ≤ 1
      rw [dlen_zero, dlen_one (by decide) (by decide)]
      decide
    have := qsz_pos a
    omega
  · rw [← div_ratio]
    have hb0 : b.num ≠ 0 := fun h => hb (Rat.num_eq_zero.1 h)
    have key : ∀ (n : Int) (k : Nat), k ≠ 0 → n.natAbs = (a.num * b.den).natAbs → k = (a.den * b.num.natAbs) → qsz (Rat.divInt n k) ≤ qsz a + qsz b := fun n k hk hn he => by
      refine Nat.le_trans (ratio_qsz _ hk) ?_
      rw [hn, he]
      have h2 := dlen_mulZ a.num b.den
      rw [Int.natAbs_natCast] at h2
      have h4 := dlen_mul a.den b.num.natAbs
      unfold qsz
      omega
    have hk : a.den * b.num.natAbs ≠ 0 := Nat.mul_ne_zero (den_ne a) (by omega)
    by_cases hs : b.num < 0
    · have e : (a.den : Int) * b.num = -((a.den * b.num.natAbs : Nat) : Int) := by
        rw [Int.natCast_mul, Int.ofNat_natAbs_of_nonpos (by omega)]; grind
      rw [e, ratio_neg]
      exact key _ _ hk (by rw [Int.natAbs_neg]) rfl
    · have e : (a.den : Int) * b.num = ((a.den * b.num.natAbs : Nat) : Int) := by
        rw [Int.natCast_mul, Int.natAbs_of_nonneg (by omega)]
      rw [e]
      exact key _ _ hk rfl rfl
theorem neg_qsz (a : Rat) : qsz (-a) = qsz a := by
  unfold qsz
  rw [Rat.neg_num, Int.natAbs_neg, Rat.neg_den]
theorem sub_qsz (a b : Rat) : qsz (a - b) ≤ qsz a + qsz b + 1 := by
  rw [Rat.sub_eq_add_neg]
  have := add_qsz a (-b)
  rwa [neg_qsz] at this
end Go.Proofs.YtakllkkmofdpaaaGreatDoor
/- Integers of any size: differences, comparing. -/
namespace Go.Proofs.YtakllkkmofdpaaaGreatDoor
open Go.ChangeShapes Go.WideShapes Go.ChangeAt Go.RowKit
set_option linter.unusedVariables false
set_option linter.unusedSimpArgs false
attribute [local go_sem ↓] execOp_call_val
attribute [local go_sem] callVal_func setCell_drewN alloc_drewN

set_option maxRecDepth 100000 in
set_option maxHeartbeats 4000000 in
theorem sub_any (y z : Int) (b1 : Bool) (A : Option Addr) (n c : Nat) (b2 : Bool) (B : Option Addr) (m d : Nat) (w : World) (h1 : LgIs w w.heap.size y b1 A n c) (h2 : LgIs w w.heap.size z b2 B m d) (hn : n ≤ 35184372088832) (hm : m ≤ 35184372088832) :
    Calls Tryz.prog 115 #[.agg #[.bool b1, .slice A n c], .agg #[.bool b2, .slice B m d]] w (LgP (y - z) w) := by
  have HMZ := Lib.hid h2.en
  have HB0 : Hid (Below w.heap.size w (((w.alloc (.cells #[.bool b1, .slice A n c] 91)).alloc (.cells #[.bool b2, .slice B m d] 91)).alloc (.cells #[.bool false, .slice none 0 0] 91))) := Lib.hid ((((Below.refl _ _).alloc (Nat.le_refl _) _).alloc (by simp) _).alloc (by simp; omega) _)
  have HX1 : Hid (Blk (((w.alloc (.cells #[.bool b1, .slice A n c] 91)).alloc (.cells #[.bool b2, .slice B m d] 91)).alloc (.cells #[.bool false, .slice none 0 0] 91)) w.heap.size 91 #[.bool b1, .slice A n c]) := Lib.hid (((Blk.new w _ _).alloc _).alloc _)
  have HX2 : Hid (Blk (((w.alloc (.cells #[.bool b1, .slice A n c] 91)).alloc (.cells #[.bool b2, .slice B m d] 91)).alloc (.cells #[.bool false, .slice none 0 0] 91)) (w.heap.size + 1) 91 #[.bool b2, .slice B m d]) := Lib.hid ((Blk.new_ (by simp)).alloc _)
  have HR : Hid (Blk (((w.alloc (.cells #[.bool b1, .slice A n c] 91)).alloc (.cells #[.bool b2, .slice B m d] 91)).alloc (.cells #[.bool false, .slice none 0 0] 91)) (w.heap.size + 1 + 1) 91 #[.bool false, .slice none 0 0]) := Lib.hid (Blk.new_ (by simp))
  have H1 := Lib.hid (h1.up HB0.out)
  have H2 := Lib.hid (h2.up HB0.out)
  clear h1 h2
  go_enter Tryz.func115, Tryz.ntmps115
  have hgs : w.heap.size ≤ w.heap.size + 1 + 1 := by omega
  go_wp2_with fail
  generalize (((w.alloc (.cells #[.bool b1, .slice A n c] 91)).alloc (.cells #[.bool b2, .slice B m d] 91)).alloc (.cells #[.bool false, .slice none 0 0] 91)) = W at *
  have p0 := HX1.out.cell 0
  have p1 := HX1.out.cell 1
  have q0 := HX2.out.cell 0
  have q1 := HX2.out.cell 1
  have pl := HX1.out.lt
  have ql := HX2.out.lt
  have HH1 : Hid (LgIs W.drew W.drew.heap.size y b1 A n c) := Lib.hid (H1.out.up (below_drew (Below.refl _ _)))
  have HH2 : Hid (LgIs W.drew W.drew.heap.size z b2 B m d) := Lib.hid (H2.out.up (below_drew (Below.refl _ _)))
  refine wp_region_last (S := fun w' => Below W.heap.size W w') 4 _ (by kernel_rfl) (by kernel_rfl) rfl (below_drew (Below.refl _ _)) (fun hHeld => ?_)
  simp only [List.take_succ_cons, List.take_zero]
  refine takeH 0 (v := ?_) rfl (by kernel_rfl) (fun _ _ _ h => h) (by rfl) ?_ hHeld ?_
  rotate_left 1
  · intro w' hSw; obtain ⟨hcc, -⟩ := bcellW hSw; go_simp <;> with_reducible rfl
  try simp only [Act.put, List.setIfInBounds_toArray, List.set_cons_zero, List.set_cons_succ]
  refine takeH 1 (v := ?_) rfl (by kernel_rfl) (fun _ _ _ h => h) (by rfl) ?_ hHeld ?_
  rotate_left 1
  · intro w' hSw; obtain ⟨hcc, -⟩ := bcellW hSw; go_simp <;> with_reducible rfl
  try simp only [Act.put, List.setIfInBounds_toArray, List.set_cons_zero, List.set_cons_succ]
  refine stepH 2 (by kernel_rfl) rfl (fun K hK => ?_)
  go_simp
  refine (neg_any z b2 B m d W.drew HH2.out).mono ?_
  rintro e w5 ⟨hb5, b5, A5, n5, c5, rfl, h5⟩
  have HB5 := Lib.hid ((below_drew (Below.refl W.heap.size W)).trans hb5)
  have H5 := Lib.hid h5
  have HN5 : Hid (n5 = m) := Lib.hid (by rw [h5.en, Int.natAbs_neg, ← HMZ.out])
  have HH1b := Lib.hid (HH1.out.up hb5)
  clear hb5 h5
  go_simp
  refine hK.out _ _ ?_ (fun hHeld => ?_)
  · exact HB5.out
  clear hK K
  try simp only [Act.put, List.setIfInBounds_toArray, List.set_cons_zero, List.set_cons_succ]
  refine stepH 3 (by kernel_rfl) rfl (fun K hK => ?_)
  go_simp
  refine (add_any y (-z) b1 A n c b5 A5 n5 c5 w5 HH1b.out H5.out hn (by have := HN5.out; omega)).mono ?_
  rw [show y + -z = y - z from by omega]
  rintro e w6 ⟨hb6, b9, A9, n9, c9, rfl, h9⟩
  have HB6 := Lib.hid (HB5.out.trans (hb6.mono HB5.out.size))
  have H9 := Lib.hid h9
  clear hb6 h9
  go_simp
  refine hK.out _ _ ?_ (fun hHeld => ?_)
  · exact HB6.out
  clear hK K
  try simp only [Act.put, List.setIfInBounds_toArray, List.set_cons_zero, List.set_cons_succ]
  refine wpAnyH_done (by kernel_rfl) ?_ _
  refine lastQ_go (by rfl) ?_
  have HBF := Lib.hid (HB0.out.trans (HB6.out.mono HB0.out.size))
  have HGF := Lib.hid (HR.out.below HB6.out HR.out.lt)
  clear p0 p1 q0 q1 pl ql
  have z0 := HGF.out.cell 0
  have z1 := HGF.out.cell 1
  have zf := HGF.out.frozen
  have zl := HGF.out.lt
  go_wp2_with fail
  generalize hW9 : (w6.setCell ⟨_, 0, none⟩ _).setCell ⟨_, 1, none⟩ _ = W9
  have HP9 := Lib.hid (lg_put (e := .returned (.agg #[.bool b9, .slice A9 n9 c9])) HBF.out hgs HGF.out (by simp) (by simp) H9.out rfl)
  rw [hW9] at HP9
  have HB9 : Hid (Blk W9 _ 91 #[.bool b9, .slice A9 n9 c9]) := Lib.hid (by rw [← hW9]; exact blk_set2 HGF.out)
  clear hW9 z0 z1 zf zl
  have q0 := HB9.out.cell 0
  have q1 := HB9.out.cell 1
  exact bodyPost_ret (v := .agg #[.bool b9, .slice A9 n9 c9]) (by simp [results, Tryz.results115, go_sem, q0, q1]) rfl HP9.out
/- the size of a difference -/
theorem sub_size {y z : Int} {n m : Nat} (hn : n = dlen y.natAbs) (hm : m = dlen z.natAbs) : dlen (y - z).natAbs ≤ max n m + 1 := by
  have h := dlen_addZ y (-z)
  rw [Int.natAbs_neg, ← hn, ← hm] at h
  rwa [show y - z = y + -z from by omega]
set_option maxHeartbeats 1000000 in
theorem cmp_any (y z : Int) (b1 : Bool) (A : Option Addr) (n c : Nat) (b2 : Bool) (B : Option Addr) (m d : Nat) (w : World) (h1 : LgIs w w.heap.size y b1 A n c) (h2 : LgIs w w.heap.size z b2 B m d) (hn : n ≤ 35184372088832) (hm : m ≤ 35184372088832) :
    Calls Tryz.prog 89 #[.agg #[.bool b1, .slice A n c], .agg #[.bool b2, .slice B m d]] w fun e w' => e = .returned (.int .i64 (y - z).sign) ∧ Below w.heap.size w w' := by
  have HB0 : Hid (Below w.heap.size w ((w.alloc (.cells #[.bool b1, .slice A n c] 91)).alloc (.cells #[.bool b2, .slice B m d] 91))) := Lib.hid (((Below.refl _ _).alloc (Nat.le_refl _) _).alloc (by simp) _)
  have HX1 : Hid (Blk ((w.alloc (.cells #[.bool b1, .slice A n c] 91)).alloc (.cells #[.bool b2, .slice B m d] 91)) w.heap.size 91 #[.bool b1, .slice A n c]) := Lib.hid ((Blk.new w _ _).alloc _)
  have HX2 : Hid (Blk ((w.alloc (.cells #[.bool b1, .slice A n c] 91)).alloc (.cells #[.bool b2, .slice B m d] 91)) (w.heap.size + 1) 91 #[.bool b2, .slice B m d]) := Lib.hid (Blk.new_ (by simp))
  have H1 := Lib.hid (h1.up HB0.out)
  have H2 := Lib.hid (h2.up HB0.out)
  clear h1 h2
  go_enter Tryz.func89, Tryz.ntmps89
  go_wp2_with fail
  generalize ((w.alloc (.cells #[.bool b1, .slice A n c] 91)).alloc (.cells #[.bool b2, .slice B m d] 91)) = W at *
  clear HX1 HX2
  refine (sub_any y z b1 A n c b2 B m d W H1.out H2.out hn hm).mono ?_
  rintro e w5 ⟨hb5, b5, A5, n5, c5, rfl, h5⟩
  have HB5 := Lib.hid (HB0.out.trans (hb5.mono HB0.out.size))
  have H5 := Lib.hid h5
  clear hb5 h5
  go_wp2_with fail
  refine (lsign_any (y - z) b5 A5 n5 c5 w5 H5.out).mono ?_
  rintro e w6 ⟨rfl, hb6⟩
  have HB6 := Lib.hid (HB5.out.trans (hb6.mono HB5.out.size))
  clear hb6
  go_wp2_with fail
  go_ret
  exact ⟨rfl, HB6.out⟩
end Go.Proofs.YtakllkkmofdpaaaGreatDoor
