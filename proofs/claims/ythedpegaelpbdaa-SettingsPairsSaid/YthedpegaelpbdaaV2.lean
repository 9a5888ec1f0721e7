/- Multiplication of words; slices.Repeat. -/
import Derived.Test.YthedpegaelpbdaaN0
import Derived.Lib.Mul64
import Derived.Laws.Bits64b
import Derived.Laws.CopyOwn
import Derived.Deep.OwnRows
import Derived.Deep.RegionLaw
namespace Go.Proofs.Ythedpegaelpbdaa
open Go.ChangeShapes Go.WideShapes Go.ChangeAt Go.RowKit Go.Joins Go.Deep
set_option linter.unusedVariables false
attribute [local go_sem ↓] execOp_call_val
attribute [local go_sem] callVal_func setCell_drewN alloc_drewN sEq_walk


open Go.RowKit in
theorem step_copy_at {P : Program} {ops : Array Oper} {o : Oper} {a : Act} {w : World} {K : Act → World → Prop} {Q : Exit → Act → World → Prop} {E : Prop} (q : Nat) (hq : o.dst = some q) (hgd : o.guard = none) (d s : Operand) (dT sT : TypeId)
    (ho : o.op = .call { callee := .builtin .copy, args := #[d, s], argTypes := #[dT, sT] }) (elem : TypeId) (hu : P.underlying dT = some (.slice elem)) (hsz : (P.info? elem).map (·.size) = some 1)
    (dp sp : Option Addr) (dLen dCap sLen sCap : Nat) (hd : a.eval d = .slice dp dLen dCap) (hs : a.eval s = .slice sp sLen sCap)
    (g off : Nat) (cur : List Value) (t : TypeId) (hg : w.heap[g]? = some (.cells cur.toArray t (0, 0))) (cs : List Value) (hn : cs.length = Nat.min sLen dLen)
    (hpos : 0 < cs.length → dp = some ⟨g, off, none⟩ ∧ ∃ ad, sp = some ad ∧ ∀ j v, cs[j]? = some v → w.cell? (ad.add j) = some v)
    (hfit : off + cs.length ≤ cur.length) (h1 : ∀ v ∈ cs, v.oneCell' = true) (B : Nat) (w0 : World) (hb : Below B w0 w) (hBg : B ≤ g)
    (h : ∀ w', Hid (w'.heap[g]? = some (.cells (splice cur off cs).toArray t (0, 0))) → Below B w0 w' → K (a.put (some q) (goInt cs.length)) w') :
    if Region.wanted o (yielded ops a.tmps) = true then Oper.wp P o a w K Q else E :=
  step_copy_splice hgd d s dT sT ho elem hu hsz dp sp dLen dCap sLen sCap hd hs g off cur t hg cs hn hpos hfit h1 B w0 hb hBg (by rw [hq]; exact h)

namespace M64
theorem maskN (a : Nat) (ha : a < 18446744073709551616) : bits .and .u64 (a : Int) 4294967295 = ((a % 4294967296 : Nat) : Int) := by
  have h := Go.bits_and_u64_nat a 4294967295 ha (by omega)
  have e : a &&& 4294967295 = a % 4294967296 := Nat.and_two_pow_sub_one_eq_mod a 32
  rw [e] at h
  exact h
theorem divN (a : Nat) : (a : Int) / 4294967296 = ((a / 4294967296 : Nat) : Int) := by omega
theorem mulN (a b : Nat) : (a : Int) * (b : Int) = ((a * b : Nat) : Int) := (Int.natCast_mul a b).symm
theorem addN (a b : Nat) : (a : Int) + (b : Int) = ((a + b : Nat) : Int) := (Int.natCast_add a b).symm
theorem wrapN (a : Nat) (ha : a < 18446744073709551616) : IntKind.u64.wrap (a : Int) = (a : Int) := by rw [IntKind.wrap_u64]; omega
theorem wrapM (a : Nat) : IntKind.u64.wrap (a : Int) = ((a % 18446744073709551616 : Nat) : Int) := by rw [IntKind.wrap_u64]; omega
end M64

theorem mul64_any (x y : Nat) (hx : x < 18446744073709551616) (hy : y < 18446744073709551616) (w : World) :
    Calls Try.prog 129 #[.int .u64 x, .int .u64 y] w fun e w' => e = .returned (.tuple #[.int .u64 ((x * y / 18446744073709551616 : Nat) : Int), .int .u64 ((x * y % 18446744073709551616 : Nat) : Int)]) ∧ w = w' := by
  obtain ⟨bd, bt, bw, hhi⟩ := Lib.mul64_hi x y hx hy
  have ba := Lib.half_mul_le (a := x / 4294967296) (b := y / 4294967296) (by omega) (by omega)
  have bb := Lib.half_mul_le (a := x / 4294967296) (b := y % 4294967296) (by omega) (by omega)
  have bc := Lib.half_mul_le (a := x % 4294967296) (b := y / 4294967296) (by omega) (by omega)
  have ba' : x / 4294967296 * (y / 4294967296) < 18446744073709551616 := by omega
  have bb' : x / 4294967296 * (y % 4294967296) < 18446744073709551616 := by omega
  have bc' : x % 4294967296 * (y / 4294967296) < 18446744073709551616 := by omega
  have bh1 : x / 4294967296 * (y / 4294967296) + (x / 4294967296 * (y % 4294967296) + x % 4294967296 * (y % 4294967296) / 4294967296) / 4294967296 < 18446744073709551616 := by omega
  have bh : x / 4294967296 * (y / 4294967296) + (x / 4294967296 * (y % 4294967296) + x % 4294967296 * (y % 4294967296) / 4294967296) / 4294967296 + ((x / 4294967296 * (y % 4294967296) + x % 4294967296 * (y % 4294967296) / 4294967296) % 4294967296 + x % 4294967296 * (y / 4294967296)) / 4294967296 < 18446744073709551616 := by omega
  go_enter Try.func129, Try.ntmps129
  go_wp2
  simp only [M64.maskN x hx, M64.maskN y hy, M64.divN, M64.mulN, M64.addN, M64.wrapN _ bd, M64.wrapN _ bb', M64.wrapN _ bt, M64.maskN _ bt, M64.wrapN _ bc', M64.wrapN _ bw, M64.wrapN _ ba', M64.wrapN _ bh1, M64.wrapN _ bh, M64.wrapM (x * y)]
  rw [hhi]
  go_ret2
  exact ⟨rfl, rfl⟩
theorem mul_any (x y : Nat) (hx : x < 18446744073709551616) (hy : y < 18446744073709551616) (w : World) :
    Calls Try.prog 103 #[.int .u64 x, .int .u64 y] w fun e w' => e = .returned (.tuple #[.int .u64 ((x * y / 18446744073709551616 : Nat) : Int), .int .u64 ((x * y % 18446744073709551616 : Nat) : Int)]) ∧ w = w' := by
  go_enter Try.func103, Try.ntmps103
  go_wp2_with fail
  refine (mul64_any x y hx hy w).mono ?_
  rintro e w' ⟨rfl, rfl⟩
  go_wp2_with fail
  go_ret2
  exact ⟨rfl, rfl⟩

theorem info_int : (Try.prog.info? 3).map (fun i => (i.zero, i.size, i.bytes)) = some (some (.int .i64 0), 1, 8) := by kernel_rfl
theorem size_int : (Try.prog.info? 3).map (·.size) = some 1 := by kernel_rfl
set_option maxRecDepth 100000 in
set_option maxHeartbeats 2000000 in
theorem repeat_int (v : Int) (b : Nat) (n : Nat) (w : World) (hv : w.cell? ⟨b, 0, none⟩ = some (.int .i64 v)) (hn : n ≤ 1000) :
    Calls Try.prog 80 #[.slice (some ⟨b, 0, none⟩) 1 1, .int .i64 n] w fun e w' => ∃ g, e = .returned (.slice (some ⟨g, 0, none⟩) n n) ∧ w.heap.size ≤ g ∧ Blk w' g 3 (List.replicate n (.int .i64 v)).toArray ∧ Below w.heap.size w w' := by
  have hblt := World.block_lt_of_cell? w ⟨b, 0, none⟩ hv
  have hmk : ∀ w : World, (Instr.makeSlice 61 (.int .i64 (n : Int)) (.int .i64 (n : Int))).run Try.prog w = .ok (.slice (some ⟨w.heap.size, 0, none⟩) n n) (w.alloc (.cells (madeCells #[.int .i64 0] n) 3)) :=
    fun w => run_make_row' (P := Try.prog) 61 3 (.int .i64 0) 8 Try.underlying61 info_int rfl .i64 .i64 n (by omega) (by omega) w
  have hHV := Lib.hid hv
  clear hv
  go_enter Try.func80, Try.ntmps80
  go_wp2_with fail
  refine (mul_any 1 n (by omega) (by omega) _).mono ?_
  rw [show (1 * n / 18446744073709551616 : Nat) = 0 from by omega, show (1 * n % 18446744073709551616 : Nat) = n from by omega]
  rintro e w' ⟨rfl, rfl⟩
  have hmadeL : (madeCells #[.int .i64 0] n).toList.length = n := by simp [size_madeCells]
  have HML := Lib.hid hmadeL
  clear hmadeL
  have hB0 : Below w.heap.size w (w.alloc (.cells (madeCells #[.int .i64 0] n) 3)) := (Below.refl _ _).alloc (Nat.le_refl _) _
  have hblk : (w.alloc (.cells (madeCells #[.int .i64 0] n) 3)).heap[w.heap.size]? = some (.cells (madeCells #[.int .i64 0] n).toList.toArray 3 (0, 0)) := by simpa using heap_alloc_new w _
  have hsrc : (w.alloc (.cells (madeCells #[.int .i64 0] n) 3)).cell? ⟨b, 0, none⟩ = some (.int .i64 v) := (World.cell?_alloc_lt _ _ _ hblt).trans hHV.out
  have HB0 := Lib.hid hB0
  have HBLK := Lib.hid hblk
  have HSRC := Lib.hid hsrc
  have hsrc2 : ∀ j u, (List.replicate (min 1 n) (.int .i64 v))[j]? = some u → (w.alloc (.cells (madeCells #[.int .i64 0] n) 3)).cell? ((⟨b, 0, none⟩ : Addr).add j) = some u := fun j u hu => by
    have hj := (List.getElem?_eq_some_iff.1 hu).1
    simp at hj
    have : j = 0 := by omega
    subst this
    rw [List.getElem?_replicate, if_pos (by omega)] at hu
    injection hu with hu
    subst hu
    exact HSRC.out
  have HSRC2 := Lib.hid hsrc2
  clear hB0 hblk hsrc hsrc2
  go_wp2_with (refine wpList_copy_splice rfl (.tmp 31) (.tmp 32) 61 61 rfl 3 Try.underlying61 size_int (some ⟨w.heap.size, 0, none⟩) (some ⟨b, 0, none⟩) n n 1 1 rfl rfl w.heap.size 0 (madeCells #[.int .i64 0] n).toList 3 HBLK.out (List.replicate (min 1 n) (.int .i64 v)) (by simp) (fun _ => ⟨rfl, _, rfl, HSRC2.out⟩) (by simp; have := HML.out; simp at this; omega) (fun u hu => by rw [(List.mem_replicate.1 hu).2]; rfl) w.heap.size w HB0.out (Nat.le_refl _) ?_)
  intro w2 hb2 k2
  have hk0 : (splice (madeCells #[.int .i64 0] n).toList 0 (List.replicate (min 1 n) (.int .i64 v))).length = n ∧ ∀ i, i < min 1 n → (splice (madeCells #[.int .i64 0] n).toList 0 (List.replicate (min 1 n) (.int .i64 v)))[i]? = some (.int .i64 v) := by
    refine ⟨by unfold splice; have := HML.out; simp at this ⊢; omega, fun i hi => ?_⟩
    unfold splice
    rw [List.take_zero, List.nil_append, List.getElem?_append_left (by simpa using hi), List.getElem?_replicate, if_pos hi]
  generalize splice (madeCells #[.int .i64 0] n).toList 0 (List.replicate (min 1 n) (.int .i64 v)) = cur0 at hb2 hk0
  have HB2 := Lib.hid hb2.out
  have HK2 := Lib.hid k2
  have HK0 := Lib.hid hk0
  have hmin : min 1 n ≤ n := Nat.min_le_right _ _
  have hmin2 : 0 < n → 0 < min 1 n := fun h => by omega
  clear hb2 k2 hk0 hmk
  generalize min 1 n = k0 at *
  go_wp2_with fail
  go_loopw [8] (fun i wr => ∃ k : Nat, k ≤ n ∧ i = .int .i64 k ∧ (0 < n → 0 < k) ∧ Below w.heap.size w wr ∧ ∃ cur : List Value, cur.length = n ∧ (∀ i, i < k → cur[i]? = some (.int .i64 v)) ∧ Hid (wr.heap[w.heap.size]? = some (.cells cur.toArray 3 (0, 0)))) (fun i _ => n - (intOf i).toNat)
  case atStart => exact ⟨k0, hmin, rfl, hmin2, HK2.out, cur0, HK0.out.1, HK0.out.2, HB2⟩
  case round =>
    obtain ⟨k, hk, rfl, hkp, hbel, cur, hcl, hci, hblk⟩ := hrel
    have HCI := Lib.hid hci
    have HBL := Lib.hid hbel
    have HCL := Lib.hid hcl
    clear hci hbel hcl HK2 HB2 HK0
    by_cases hlt : k < n
    · have hkp' : 0 < k := hkp (by omega)
      clear hkp
      have hsrc : ∀ j u, (List.replicate (min k (n - k)) (.int .i64 v))[j]? = some u → wr.drew.cell? ((⟨w.heap.size, 0, none⟩ : Addr).add j) = some u := fun j u hu => by
        have hj := (List.getElem?_eq_some_iff.1 hu).1
        simp at hj
        rw [List.getElem?_replicate, if_pos hj] at hu
        injection hu with hu
        subst hu
        have h1 := HCI.out j (by omega)
        have h2 := cell_of_row wr w.heap.size j cur.toArray 3 (0, 0) hblk.out
        rw [show ((⟨w.heap.size, 0, none⟩ : Addr).add j) = ⟨w.heap.size, j, none⟩ from by unfold Addr.add; split <;> simp_all]
        show wr.cell? _ = _
        rw [h2]
        simpa using h1
      have HSRC3 := Lib.hid hsrc
      clear hsrc
      have hI1 : (k : Int) ≤ (n : Int) := by omega
      have hI2 : (0 : Int) ≤ (k : Int) := by omega
      have hmk1 : min k (n - k) ≤ n - k := Nat.min_le_right _ _
      have hmk2 : 0 < min k (n - k) := by omega
      have hw1 : IntKind.i64.wrap ((k : Int) + ((min k (n - k) : Nat) : Int)) = (k : Int) + ((min k (n - k) : Nat) : Int) := IntWalk.i64_in _ (by omega)
      go_wp2_with fail
      go_region_law (refine step_copy_at 45 rfl rfl (.tmp 41) (.tmp 44) 61 61 rfl 3 Try.underlying61 size_int (some ⟨w.heap.size, k, none⟩) (some ⟨w.heap.size, 0, none⟩) (n - k) (n - k) k n (by simp [Act.eval, Act.put]; omega) (by simp [Act.eval, Act.put]) w.heap.size k cur 3 hblk.out (List.replicate (min k (n - k)) (.int .i64 v)) (by simp) (fun _ => ⟨rfl, _, rfl, HSRC3.out⟩) (by rw [List.length_replicate, HCL.out]; omega) (fun u hu => by rw [(List.mem_replicate.1 hu).2]; rfl) w.heap.size w (below_drew HBL.out) (Nat.le_refl _) ?_; intro w3 hb3 k3)
      have hk3 : (splice cur k (List.replicate (min k (n - k)) (.int .i64 v))).length = n ∧ ∀ i, i < k + min k (n - k) → (splice cur k (List.replicate (min k (n - k)) (.int .i64 v)))[i]? = some (.int .i64 v) := by
        have hcl := HCL.out
        refine ⟨by unfold splice; simp; omega, fun i hi => ?_⟩
        unfold splice
        by_cases hik : i < k
        · rw [List.getElem?_append_left (by simp; omega), List.getElem?_take, if_pos hik]
          exact HCI.out i hik
        · rw [List.getElem?_append_right (by simp; omega), List.getElem?_append_left (by simp; omega), List.getElem?_replicate, if_pos (by simp; omega)]
      have HK3 := Lib.hid hk3
      have HKK3 := Lib.hid k3
      have HBB3 := Lib.hid hb3.out
      have hmk4 : k + min k (n - k) ≤ n := by omega
      clear hk3 k3 hb3 HSRC3
      generalize splice cur k (List.replicate (min k (n - k)) (.int .i64 v)) = cur3 at *
      generalize min k (n - k) = q at *
      go_wp2_with fail
      go_roundw
      case rel => exact ⟨k + q, hmk4, by go_num, fun _ => by omega, HKK3.out, cur3, HK3.out.1, HK3.out.2, HBB3⟩
      case measure => simp [intOf]; omega
    · have hkn : k = n := by omega
      subst hkn
      go_wp2_with fail
      go_ret
      refine ⟨w.heap.size, rfl, Nat.le_refl _, ?_, HBL.out⟩
      have hc : cur = List.replicate k (.int .i64 v) := by
        apply List.ext_getElem?
        intro i
        by_cases hi : i < k
        · rw [HCI.out i hi, List.getElem?_replicate, if_pos hi]
        · rw [List.getElem?_eq_none (by have := HCL.out; omega), List.getElem?_eq_none (by simp; omega)]
      have := hblk.out
      rw [hc] at this
      exact this

theorem info_bool : (Try.prog.info? 4).map (fun i => (i.zero, i.size, i.bytes)) = some (some (.bool false), 1, 1) := by kernel_rfl
theorem size_bool : (Try.prog.info? 4).map (·.size) = some 1 := by kernel_rfl
set_option maxRecDepth 100000 in
set_option maxHeartbeats 2000000 in
theorem repeat_bool (v : Bool) (b : Nat) (n : Nat) (w : World) (hv : w.cell? ⟨b, 0, none⟩ = some (.bool v)) (hn : n ≤ 1000) :
    Calls Try.prog 99 #[.slice (some ⟨b, 0, none⟩) 1 1, .int .i64 n] w fun e w' => ∃ g, e = .returned (.slice (some ⟨g, 0, none⟩) n n) ∧ w.heap.size ≤ g ∧ Blk w' g 4 (List.replicate n (.bool v)).toArray ∧ Below w.heap.size w w' := by
  have hblt := World.block_lt_of_cell? w ⟨b, 0, none⟩ hv
  have hmk : ∀ w : World, (Instr.makeSlice 105 (.int .i64 (n : Int)) (.int .i64 (n : Int))).run Try.prog w = .ok (.slice (some ⟨w.heap.size, 0, none⟩) n n) (w.alloc (.cells (madeCells #[.bool false] n) 4)) :=
    fun w => run_make_row' (P := Try.prog) 105 4 (.bool false) 1 Try.underlying105 info_bool rfl .i64 .i64 n (by omega) (by omega) w
  have hHV := Lib.hid hv
  clear hv
  go_enter Try.func99, Try.ntmps99
  go_wp2_with fail
  refine (mul_any 1 n (by omega) (by omega) _).mono ?_
  rw [show (1 * n / 18446744073709551616 : Nat) = 0 from by omega, show (1 * n % 18446744073709551616 : Nat) = n from by omega]
  rintro e w' ⟨rfl, rfl⟩
  have hmadeL : (madeCells #[.bool false] n).toList.length = n := by simp [size_madeCells]
  have HML := Lib.hid hmadeL
  clear hmadeL
  have hB0 : Below w.heap.size w (w.alloc (.cells (madeCells #[.bool false] n) 4)) := (Below.refl _ _).alloc (Nat.le_refl _) _
  have hblk : (w.alloc (.cells (madeCells #[.bool false] n) 4)).heap[w.heap.size]? = some (.cells (madeCells #[.bool false] n).toList.toArray 4 (0, 0)) := by simpa using heap_alloc_new w _
  have hsrc : (w.alloc (.cells (madeCells #[.bool false] n) 4)).cell? ⟨b, 0, none⟩ = some (.bool v) := (World.cell?_alloc_lt _ _ _ hblt).trans hHV.out
  have HB0 := Lib.hid hB0
  have HBLK := Lib.hid hblk
  have HSRC := Lib.hid hsrc
  have hsrc2 : ∀ j u, (List.replicate (min 1 n) (.bool v))[j]? = some u → (w.alloc (.cells (madeCells #[.bool false] n) 4)).cell? ((⟨b, 0, none⟩ : Addr).add j) = some u := fun j u hu => by
    have hj := (List.getElem?_eq_some_iff.1 hu).1
    simp at hj
    have : j = 0 := by omega
    subst this
    rw [List.getElem?_replicate, if_pos (by omega)] at hu
    injection hu with hu
    subst hu
    exact HSRC.out
  have HSRC2 := Lib.hid hsrc2
  clear hB0 hblk hsrc hsrc2
  go_wp2_with (refine wpList_copy_splice rfl (.tmp 31) (.tmp 32) 105 105 rfl 4 Try.underlying105 size_bool (some ⟨w.heap.size, 0, none⟩) (some ⟨b, 0, none⟩) n n 1 1 rfl rfl w.heap.size 0 (madeCells #[.bool false] n).toList 4 HBLK.out (List.replicate (min 1 n) (.bool v)) (by simp) (fun _ => ⟨rfl, _, rfl, HSRC2.out⟩) (by simp; have := HML.out; simp at this; omega) (fun u hu => by rw [(List.mem_replicate.1 hu).2]; rfl) w.heap.size w HB0.out (Nat.le_refl _) ?_)
  intro w2 hb2 k2
  have hk0 : (splice (madeCells #[.bool false] n).toList 0 (List.replicate (min 1 n) (.bool v))).length = n ∧ ∀ i, i < min 1 n → (splice (madeCells #[.bool false] n).toList 0 (List.replicate (min 1 n) (.bool v)))[i]? = some (.bool v) := by
    refine ⟨by unfold splice; have := HML.out; simp at this ⊢; omega, fun i hi => ?_⟩
    unfold splice
    rw [List.take_zero, List.nil_append, List.getElem?_append_left (by simpa using hi), List.getElem?_replicate, if_pos hi]
  generalize splice (madeCells #[.bool false] n).toList 0 (List.replicate (min 1 n) (.bool v)) = cur0 at hb2 hk0
  have HB2 := Lib.hid hb2.out
  have HK2 := Lib.hid k2
  have HK0 := Lib.hid hk0
  have hmin : min 1 n ≤ n := Nat.min_le_right _ _
  have hmin2 : 0 < n → 0 < min 1 n := fun h => by omega
  clear hb2 k2 hk0 hmk
  generalize min 1 n = k0 at *
  go_wp2_with fail
  go_loopw [8] (fun i wr => ∃ k : Nat, k ≤ n ∧ i = .int .i64 k ∧ (0 < n → 0 < k) ∧ Below w.heap.size w wr ∧ ∃ cur : List Value, cur.length = n ∧ (∀ i, i < k → cur[i]? = some (.bool v)) ∧ Hid (wr.heap[w.heap.size]? = some (.cells cur.toArray 4 (0, 0)))) (fun i _ => n - (intOf i).toNat)
  case atStart => exact ⟨k0, hmin, rfl, hmin2, HK2.out, cur0, HK0.out.1, HK0.out.2, HB2⟩
  case round =>
    obtain ⟨k, hk, rfl, hkp, hbel, cur, hcl, hci, hblk⟩ := hrel
    have HCI := Lib.hid hci
    have HBL := Lib.hid hbel
    have HCL := Lib.hid hcl
    clear hci hbel hcl HK2 HB2 HK0
    by_cases hlt : k < n
    · have hkp' : 0 < k := hkp (by omega)
      clear hkp
      have hsrc : ∀ j u, (List.replicate (min k (n - k)) (.bool v))[j]? = some u → wr.drew.cell? ((⟨w.heap.size, 0, none⟩ : Addr).add j) = some u := fun j u hu => by
        have hj := (List.getElem?_eq_some_iff.1 hu).1
        simp at hj
        rw [List.getElem?_replicate, if_pos hj] at hu
        injection hu with hu
        subst hu
        have h1 := HCI.out j (by omega)
        have h2 := cell_of_row wr w.heap.size j cur.toArray 4 (0, 0) hblk.out
        rw [show ((⟨w.heap.size, 0, none⟩ : Addr).add j) = ⟨w.heap.size, j, none⟩ from by unfold Addr.add; split <;> simp_all]
        show wr.cell? _ = _
        rw [h2]
        simpa using h1
      have HSRC3 := Lib.hid hsrc
      clear hsrc
      have hI1 : (k : Int) ≤ (n : Int) := by omega
      have hI2 : (0 : Int) ≤ (k : Int) := by omega
      have hmk1 : min k (n - k) ≤ n - k := Nat.min_le_right _ _
      have hmk2 : 0 < min k (n - k) := by omega
      have hw1 : IntKind.i64.wrap ((k : Int) + ((min k (n - k) : Nat) : Int)) = (k : Int) + ((min k (n - k) : Nat) : Int) := IntWalk.i64_in _ (by omega)
      go_wp2_with fail
      go_region_law (refine step_copy_at 45 rfl rfl (.tmp 41) (.tmp 44) 105 105 rfl 4 Try.underlying105 size_bool (some ⟨w.heap.size, k, none⟩) (some ⟨w.heap.size, 0, none⟩) (n - k) (n - k) k n (by simp [Act.eval, Act.put]; omega) (by simp [Act.eval, Act.put]) w.heap.size k cur 4 hblk.out (List.replicate (min k (n - k)) (.bool v)) (by simp) (fun _ => ⟨rfl, _, rfl, HSRC3.out⟩) (by rw [List.length_replicate, HCL.out]; omega) (fun u hu => by rw [(List.mem_replicate.1 hu).2]; rfl) w.heap.size w (below_drew HBL.out) (Nat.le_refl _) ?_; intro w3 hb3 k3)
      have hk3 : (splice cur k (List.replicate (min k (n - k)) (.bool v))).length = n ∧ ∀ i, i < k + min k (n - k) → (splice cur k (List.replicate (min k (n - k)) (.bool v)))[i]? = some (.bool v) := by
        have hcl := HCL.out
        refine ⟨by unfold splice; simp; omega, fun i hi => ?_⟩
        unfold splice
        by_cases hik : i < k
        · rw [List.getElem?_append_left (by simp; omega), List.getElem?_take, if_pos hik]
          exact HCI.out i hik
        · rw [List.getElem?_append_right (by simp; omega), List.getElem?_append_left (by simp; omega), List.getElem?_replicate, if_pos (by simp; omega)]
      have HK3 := Lib.hid hk3
      have HKK3 := Lib.hid k3
      have HBB3 := Lib.hid hb3.out
      have hmk4 : k + min k (n - k) ≤ n := by omega
      clear hk3 k3 hb3 HSRC3
      generalize splice cur k (List.replicate (min k (n - k)) (.bool v)) = cur3 at *
      generalize min k (n - k) = q at *
      go_wp2_with fail
      go_roundw
      case rel => exact ⟨k + q, hmk4, by go_num, fun _ => by omega, HKK3.out, cur3, HK3.out.1, HK3.out.2, HBB3⟩
      case measure => simp [intOf]; omega
    · have hkn : k = n := by omega
      subst hkn
      go_wp2_with fail
      go_ret
      refine ⟨w.heap.size, rfl, Nat.le_refl _, ?_, HBL.out⟩
      have hc : cur = List.replicate k (.bool v) := by
        apply List.ext_getElem?
        intro i
        by_cases hi : i < k
        · rw [HCI.out i hi, List.getElem?_replicate, if_pos hi]
        · rw [List.getElem?_eq_none (by have := HCL.out; omega), List.getElem?_eq_none (by simp; omega)]
      have := hblk.out
      rw [hc] at this
      exact this
end Go.Proofs.Ythedpegaelpbdaa
