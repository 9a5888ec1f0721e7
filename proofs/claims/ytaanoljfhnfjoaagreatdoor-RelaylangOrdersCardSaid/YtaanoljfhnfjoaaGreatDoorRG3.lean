/- A fixed program of relays; equal programs. -/
import Derived.Test.YtaanoljfhnfjoaaGreatDoorDD
import Derived.Laws.StructEq
namespace Go.Proofs.YtaanoljfhnfjoaaGreatDoor
open Go.ChangeShapes Go.WideShapes Go.ChangeAt Go.RowKit
set_option linter.unusedVariables false
set_option linter.unusedSimpArgs false
attribute [local go_sem ↓] execOp_call_val
attribute [local go_sem] callVal_func setCell_drewN alloc_drewN sEq_walk

set_option maxHeartbeats 1000000 in
theorem sameTexts_yes (A : Option Addr) (n c : Nat) (a : List ByteArray) (B : Option Addr) (d : Nat) (w : World) (ha : RdStr w w.heap.size A n a) (hb : RdStr w w.heap.size B n a) (hn : n ≤ 9223372036854775807) :
    Calls Tryz.prog 17 #[.slice A n c, .slice B n d] w fun e w' => e = .returned (.bool true) ∧ ∃ nq, w' = w.drewN nq := by
  have hla := Lib.hid ha.1
  have HA := Lib.hid ha
  have HB := Lib.hid hb
  clear ha hb
  go_enter Tryz.func17, Tryz.ntmps17
  go_wp2_with fail
  go_loopw [5, 13] (fun _ i wr => ∃ k nq : Nat, k ≤ n ∧ i = .int .i64 k ∧ wr = w.drewN nq) (fun _ i _ => n - (intOf i).toNat)
  case atStart => exact ⟨0, 0, by omega, rfl, rfl⟩
  case round =>
    obtain ⟨k, nq, hk, rfl, rfl⟩ := hrel
    by_cases hlt : k < n
    · obtain ⟨x, hx⟩ : ∃ x, a[k]? = some x := ⟨_, List.getElem?_eq_getElem (by have := hla.out; omega)⟩
      obtain ⟨ba, oa, rfl, hablt⟩ := HA.out.form (by omega)
      obtain ⟨bb, ob, rfl, hbblt⟩ := HB.out.form (by omega)
      have hca := HA.out.at_ hx
      have hcb := HB.out.at_ hx
      have hltI : (k : Int) < (n : Int) := by omega
      have hkI : (0 : Int) ≤ (k : Int) := by omega
      have hp : sEq x x = true := sEq_iff.2 rfl
      clear hx
      go_wp2_with fail
      go_quiet (fail)
      go_wp2_with fail
      go_roundw
      case rel => exact ⟨k + 1, _, by omega, by go_num, rfl⟩
      case measure => simp [intOf]; omega
    · go_wp2_with fail
      go_ret
      exact ⟨rfl, _, rfl⟩

def prog0 : List Rl := [⟨⟨#[84]⟩, [⟨4, ⟨#[]⟩, 0⟩, ⟨1, ⟨#[73]⟩, 500⟩, ⟨3, ⟨#[]⟩, 0⟩, ⟨0, ⟨#[66]⟩, 0⟩]⟩, ⟨⟨#[76]⟩, [⟨7, ⟨#[]⟩, 0⟩, ⟨0, ⟨#[84]⟩, 0⟩, ⟨0, ⟨#[82]⟩, 0⟩]⟩]
theorem prog0_ck : ckR prog0 = 0 := by decide +kernel
theorem prog0_ord : orderR prog0 = some [0, 1] := by decide +kernel
theorem rdNd_lit {w : World} {B g T n : Nat} {l : List Nd} (hl : l.length = n) (h : Blk w g T (l.flatMap Nd.cells).toArray) (hg : g < B) : RdNd w B (some ⟨g, 0, none⟩) n l :=
  ⟨hl, by rw [flat_len Nd.len, hl], fun _ => ⟨g, 0, rfl, hg, fun j u hu => by rw [Nat.zero_add, h.cell j]; simpa using hu⟩⟩
theorem rdRh_lit {w : World} {B g T n : Nat} {l : List Rh} (hl : l.length = n) (h : Blk w g T (l.flatMap Rh.cells).toArray) (hg : g < B) (hz : ∀ z ∈ l, RdNd w B z.A z.n z.r.expr ∧ z.n ≤ 9223372036854775807) : RdRh w B (some ⟨g, 0, none⟩) n l :=
  ⟨hl, ⟨by rw [flat_len Rh.len, hl], fun _ => ⟨g, 0, rfl, hg, fun j u hu => by rw [Nat.zero_add, h.cell j]; simpa using hu⟩⟩, hz⟩
def RulesP (p : List Rl) (w : World) (e : Ending) (w' : World) : Prop := ∃ (g n : Nat) (hs : List Rh), e = .returned (.slice (some ⟨g, 0, none⟩) n n) ∧ rls hs = p ∧ RdRh w' w'.heap.size (some ⟨g, 0, none⟩) n hs ∧ Below w.heap.size w w'
set_option maxRecDepth 100000 in
set_option maxHeartbeats 2000000 in
theorem rules_any (w : World) : Calls Tryz.prog 16 #[] w (RulesP prog0 w) := by
  go_enter Tryz.func16, Tryz.ntmps16
  go_wp2_with fail
  have hb : Below w.heap.size w (((w.alloc (.cells ([⟨4, ⟨#[]⟩, 0⟩, ⟨1, ⟨#[73]⟩, 500⟩, ⟨3, ⟨#[]⟩, 0⟩, ⟨0, ⟨#[66]⟩, 0⟩].flatMap Nd.cells).toArray 41)).alloc (.cells ([⟨7, ⟨#[]⟩, 0⟩, ⟨0, ⟨#[84]⟩, 0⟩, ⟨0, ⟨#[82]⟩, 0⟩].flatMap Nd.cells).toArray 41)).alloc (.cells ([⟨⟨⟨#[84]⟩, [⟨4, ⟨#[]⟩, 0⟩, ⟨1, ⟨#[73]⟩, 500⟩, ⟨3, ⟨#[]⟩, 0⟩, ⟨0, ⟨#[66]⟩, 0⟩]⟩, some ⟨w.heap.size, 0, none⟩, 4, 4⟩, ⟨⟨⟨#[76]⟩, [⟨7, ⟨#[]⟩, 0⟩, ⟨0, ⟨#[84]⟩, 0⟩, ⟨0, ⟨#[82]⟩, 0⟩]⟩, some ⟨w.heap.size + 1, 0, none⟩, 3, 3⟩].flatMap Rh.cells).toArray 39)) := (((Below.refl _ _).alloc (Nat.le_refl _) _).alloc (by simp) _).alloc (by simp; omega) _
  go_ret
  refine ⟨w.heap.size + 1 + 1, 2, [⟨⟨⟨#[84]⟩, [⟨4, ⟨#[]⟩, 0⟩, ⟨1, ⟨#[73]⟩, 500⟩, ⟨3, ⟨#[]⟩, 0⟩, ⟨0, ⟨#[66]⟩, 0⟩]⟩, some ⟨w.heap.size, 0, none⟩, 4, 4⟩, ⟨⟨⟨#[76]⟩, [⟨7, ⟨#[]⟩, 0⟩, ⟨0, ⟨#[84]⟩, 0⟩, ⟨0, ⟨#[82]⟩, 0⟩]⟩, some ⟨w.heap.size + 1, 0, none⟩, 3, 3⟩], rfl, rfl, ?_, hb⟩
  refine rdRh_lit (T := 39) rfl ?_ ?_ (fun z hz => ?_)
  · exact Blk.new_ (by simp)
  · simp
  simp only [List.mem_cons, List.mem_singleton, List.not_mem_nil, or_false] at hz
  rcases hz with rfl | rfl
  · exact ⟨rdNd_lit (T := 41) rfl (l := [⟨4, ⟨#[]⟩, 0⟩, ⟨1, ⟨#[73]⟩, 500⟩, ⟨3, ⟨#[]⟩, 0⟩, ⟨0, ⟨#[66]⟩, 0⟩]) (((Blk.new w _ _).alloc _).alloc _) (by simp; omega), by show 4 ≤ _; omega⟩
  · exact ⟨rdNd_lit (T := 41) rfl (l := [⟨7, ⟨#[]⟩, 0⟩, ⟨0, ⟨#[84]⟩, 0⟩, ⟨0, ⟨#[82]⟩, 0⟩]) ((Blk.new_ (by simp)).alloc _) (by simp), by show 3 ≤ _; omega⟩
theorem fit0 {hs : List Rh} (h : rls hs = prog0) : ∀ z ∈ hs, z.r.Fit := fun z hz => by
  have hm : z.r ∈ prog0 := by rw [← h]; exact List.mem_map.2 ⟨z, hz, rfl⟩
  have key : ∀ r ∈ prog0, r.name.size ≤ 10 ∧ ∀ x ∈ r.expr, x.name.size ≤ 10 := by decide +kernel
  obtain ⟨h1, h2⟩ := key _ hm
  exact ⟨by unfold maxLen; omega, fun x hx => by have := h2 x hx; unfold maxLen; omega⟩
def Nd.vec (x : Nd) : Array Value := #[.int .i64 x.op, .string x.name, .int .i64 x.value]
theorem eqin_nd (x : Nd) (w : World) : (Op.equalIn 10000 41 (.agg x.vec) (.agg x.vec)).run Tryz.prog w = .ok true w := by
  have u3 := Tryz.underlying3
  have u9 := Tryz.underlying9
  have a3 := Tryz.isAgg3
  have a9 := Tryz.isAgg9
  have z3 := Tryz.sizeOf3
  have z9 := Tryz.sizeOf9
  have hS : Tryz.prog.underlying 41 = some (.struct (Tryz.prog.fieldsOf 41)) := by kernel_rfl
  have hp : Tryz.prog.stoodInHeld 41 = false := by kernel_rfl
  have hs : sEq x.name x.name = true := sEq_iff.2 rfl
  simp only [Nd.vec]
  rw [show (10000 : Nat) = 9999 + 1 from rfl, run_equalIn_agg w 9999 41 _ _ hS hp]
  simp only [Program.fieldsOf, Tryz.underlying41]
  go_simp
theorem neq_nd (x : Nd) (w : World) : (binOp .neq 41 (.agg #[.int .i64 x.op, .string x.name, .int .i64 x.value]) (.agg #[.int .i64 x.op, .string x.name, .int .i64 x.value])).run Tryz.prog w = .ok (.bool false) w := by
  have h := eqin_nd x w
  unfold Nd.vec at h
  rw [run_neq_struct, h]; rfl
theorem grd_nd (op : BinOp) (a b : Operand) (xs ys : Array Value) (w : World) : (eqGuard op 41 a b (.agg xs) (.agg ys)).run Tryz.prog w = .ok () w := run_eqGuard_agg w op 41 a b xs ys (by kernel_rfl)
set_option maxRecDepth 100000 in
set_option maxHeartbeats 4000000 in
theorem sameRules_yes (A : Option Addr) (n c : Nat) (a : List Rh) (B : Option Addr) (m d : Nat) (b : List Rh) (w : World) (ha : RdRh w w.heap.size A n a) (hb : RdRh w w.heap.size B m b) (hn : n ≤ 9223372036854775807) (he : rls a = rls b) :
    Calls Tryz.prog 11 #[.slice A n c, .slice B m d] w fun e w' => e = .returned (.bool true) ∧ ∃ k, w' = w.drewN k := by
  have hlen : n = m := by have := congrArg List.length he; unfold rls at this; rw [List.length_map, List.length_map, ha.len, hb.len] at this; exact this
  subst hlen
  have RA := Lib.hid ha
  have RB := Lib.hid hb
  have HEQ := Lib.hid he
  have hgd := grd_nd
  have hne := neq_nd
  clear ha hb he
  go_enter Tryz.func11, Tryz.ntmps11
  go_wp2_with fail
  go_loopw [5, 14] (fun _ i wr => ∃ k q : Nat, k ≤ n ∧ i = .int .i64 k ∧ wr = w.drewN q) (fun _ i _ => n - (intOf i).toNat)
  case atStart => exact ⟨0, 0, by omega, rfl, rfl⟩
  case round =>
    obtain ⟨k, q, hk, rfl, rfl⟩ := hrel
    by_cases hlt : k < n
    · obtain ⟨x, hx⟩ : ∃ x, a[k]? = some x := ⟨_, List.getElem?_eq_getElem (by have := RA.out.len; omega)⟩
      obtain ⟨y, hy⟩ : ∃ y, b[k]? = some y := ⟨_, List.getElem?_eq_getElem (by have := RB.out.len; omega)⟩
      have hxy : x.r = y.r := by
        have h1 : (rls a)[k]? = some x.r := by unfold rls; rw [List.getElem?_map, hx]; rfl
        have h2 : (rls b)[k]? = some y.r := by unfold rls; rw [List.getElem?_map, hy]; rfl
        rw [HEQ.out, h2] at h1
        injection h1 with h1
        exact h1.symm
      obtain ⟨ba, oa, rfl, hablt⟩ := RA.out.form (by omega)
      obtain ⟨bb, ob, rfl, hbblt⟩ := RB.out.form (by omega)
      obtain ⟨p0, p1⟩ := RA.out.at_ hx
      obtain ⟨q0, q1⟩ := RB.out.at_ hy
      have hxz := (RA.out.zs x (List.mem_of_getElem? hx))
      have hyz := (RB.out.zs y (List.mem_of_getElem? hy))
      have hnm : x.n = y.n := by rw [← hxz.1.1, ← hyz.1.1, hxy]
      have HXZ := Lib.hid hxz.1
      have HYZ : Hid (RdNd w w.heap.size y.A y.n x.r.expr) := Lib.hid (by rw [hxy]; exact hyz.1)
      have hxn := hxz.2
      rw [← hxy] at q0
      rw [← hnm] at q1 HYZ
      have hltI : (k : Int) < (n : Int) := by omega
      have hkI : (0 : Int) ≤ (k : Int) := by omega
      have hp : sEq x.r.name x.r.name = true := sEq_iff.2 rfl
      generalize x.n = xn at *
      generalize x.r = xr at *
      clear hx hy hxy hxz hyz hnm
      go_upto_region 6 with fail
      go_quiet (fail)
      go_wp2_with fail
      go_loopw [6, 49] (fun _ i wr => ∃ j q2 : Nat, j ≤ xn ∧ i = .int .i64 j ∧ wr = w.drewN q2) (fun _ i _ => xn - (intOf i).toNat)
      case atStart => exact ⟨0, q + nq, by omega, rfl, by first | rfl | exact World.drewN_drewN _ _ _⟩
      case round =>
        obtain ⟨j, q2, hj, rfl, rfl⟩ := hrel
        by_cases hlt2 : j < xn
        · obtain ⟨z, hz⟩ : ∃ z, xr.expr[j]? = some z := ⟨_, List.getElem?_eq_getElem (by have := HXZ.out.1; omega)⟩
          obtain ⟨c1, o1, hA1, hc1⟩ := HXZ.out.form (by omega)
          obtain ⟨c2, o2, hA2, hc2⟩ := HYZ.out.form (by omega)
          have h1 := HXZ.out
          have h2 := HYZ.out
          rw [hA1] at h1
          rw [hA2] at h2
          obtain ⟨s0, s1, s2⟩ := h1.at_ hz
          obtain ⟨t0, t1, t2⟩ := h2.at_ hz
          rw [hA1] at p1
          rw [hA2] at q1
          have hlt2I : (j : Int) < (xn : Int) := by omega
          have hjI : (0 : Int) ≤ (j : Int) := by omega
          clear hz h1 h2 hA1 hA2
          go_upto_region 11 with fail
          go_quiet (fail)
          go_wp2_with fail
          go_roundw
          case rel => exact ⟨j + 1, _, by omega, by go_num, by first | rfl | exact World.drewN_drewN _ _ _⟩
          case measure => simp [intOf]; omega
        · go_wp2_with fail
          go_roundw
          case rel => exact ⟨k + 1, _, by omega, by go_num, rfl⟩
          case measure => simp [intOf]; omega
    · go_wp2_with fail
      go_ret
      exact ⟨rfl, _, rfl⟩
end Go.Proofs.YtaanoljfhnfjoaaGreatDoor
