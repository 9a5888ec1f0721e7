/- Parts of the proof, put together into one file. -/
import Derived.Test.YtakllkkmofdpaaaGreatDoorK01
import Derived.Test.YtakllkkmofdpaaaGreatDoorK05
import Derived.Deep.OwnRows
import Derived.Laws.Bits64b
import Derived.OrdersHeld
import Derived.Deep.RegionHeld
import Derived.Deep.DeepCutAuto
/- Integers of any size in memory. -/
namespace Go.Proofs.YtakllkkmofdpaaaGreatDoor
open Go.ChangeShapes Go.WideShapes Go.ChangeAt Go.RowKit
set_option linter.unusedVariables false
set_option linter.unusedSimpArgs false

theorem u64_wrap (n : Int) : IntKind.u64.wrap n = n % 18446744073709551616 := by
  simp [IntKind.wrap, IntKind.bits, IntKind.signed]
theorem u32_wrap (n : Int) : IntKind.u32.wrap n = n % 4294967296 := by
  simp [IntKind.wrap, IntKind.bits, IntKind.signed]
def u32s (l : List Nat) : List Value := l.map fun (x : Nat) => Value.int .u32 (x : Int)
/-- a slice of words -/
def RdW (w : World) (B : Nat) (A : Option Addr) (n : Nat) (l : List Nat) : Prop := Rd w B 1 A n (u32s l)
section
variable {w w' : World} {B B' n : Nat} {A : Option Addr} {l : List Nat}
theorem RdW.len (h : RdW w B A n l) : l.length = n := by have := h.1; simp [u32s] at this; omega
theorem RdW.below (h : RdW w B A n l) (hb : Below B' w w') (hB : B ≤ B') : RdW w' B A n l := Rd.below h hb hB
theorem RdW.more (h : RdW w B A n l) (hB : B ≤ B') : RdW w B' A n l := Rd.more h hB
theorem RdW.up (h : RdW w w.heap.size A n l) (hb : Below w.heap.size w w') : RdW w' w'.heap.size A n l := (h.below hb (Nat.le_refl _)).more hb.size
theorem RdW.lift {g : Nat} (h : RdW w g A n l) (hb : Below g w w') (hg : g ≤ w'.heap.size) : RdW w' w'.heap.size A n l := (h.below hb (Nat.le_refl _)).more hg
theorem RdW.form (h : RdW w B A n l) (h0 : 0 < n) : ∃ b off, A = some ⟨b, off, none⟩ ∧ b < B := by
  obtain ⟨b, off, e, hlt, _⟩ := h.2 h0
  exact ⟨b, off, e, hlt⟩
theorem RdW.at_ {b off i : Nat} (h : RdW w B (some ⟨b, off, none⟩) n l) (hi : i < n) : w.cell? ⟨b, off + i, none⟩ = some (.int .u32 ((l.getD i 0 : Nat) : Int)) := by
  have hl := h.len
  obtain ⟨b', off', e, _, hc⟩ := h.2 (by omega)
  injection e with e
  injection e with e1 e2
  subst e1; subst e2
  refine hc i _ ?_
  unfold u32s
  rw [List.getElem?_map, List.getElem?_eq_getElem (by omega), List.getD_eq_getElem?_getD, List.getElem?_eq_getElem (by omega)]
  rfl
theorem RdW.take {k : Nat} (h : RdW w B A n l) (hk : k ≤ n) : RdW w B A k (l.take k) := by
  have hl := h.len
  refine ⟨by simp [u32s]; omega, fun h0 => ?_⟩
  obtain ⟨b, off, e, hlt, hc⟩ := h.2 (by omega)
  refine ⟨b, off, e, hlt, fun j u hu => hc j u ?_⟩
  unfold u32s at hu ⊢
  rw [List.map_take] at hu
  have hj := (List.getElem?_eq_some_iff.1 hu).1
  rw [List.length_take] at hj
  rwa [List.getElem?_take_of_lt (by omega)] at hu
theorem rdW_nil (w : World) (B : Nat) (A : Option Addr) : RdW w B A 0 [] := ⟨rfl, fun h => by omega⟩
theorem rdW_blk {g : Nat} {t : TypeId} (h : Blk w g t (u32s l).toArray) : RdW w w.heap.size (some ⟨g, 0, none⟩) l.length l :=
  ⟨by simp [u32s], fun _ => ⟨g, 0, rfl, h.lt, fun j u hu => by
    rw [show (⟨g, 0 + j, none⟩ : Addr) = ⟨g, j, none⟩ from by simp, h.cell j]
    simpa using hu⟩⟩
end
theorem u32_set {l : List Nat} {i x : Nat} {v : Int} (hv : v = (x : Int)) : (u32s l).toArray.setIfInBounds i (.int .u32 v) = (u32s (l.set i x)).toArray := by
  subst hv
  unfold u32s
  rw [List.map_set]
  simp
theorem u32_made (n : Nat) : madeCells #[Value.int .u32 0] n = (u32s (List.replicate n 0)).toArray := by
  apply Array.ext'
  rw [toList_madeCells_one]
  unfold u32s; simp
theorem blkW_cell {w : World} {g t i : Nat} {l : List Nat} (h : Blk w g t (u32s l).toArray) (hi : i < l.length) : w.cell? ⟨g, i, none⟩ = some (.int .u32 ((l.getD i 0 : Nat) : Int)) := by
  rw [h.cell i]
  unfold u32s
  rw [List.getElem?_toArray, List.getElem?_map, List.getElem?_eq_getElem hi, List.getD_eq_getElem?_getD, List.getElem?_eq_getElem hi]
  rfl
theorem blkW_set {w : World} {g t i x : Nat} {l : List Nat} {v : Int} (h : Blk w g t (u32s l).toArray) (hv : v = (x : Int)) : Blk (w.setCell ⟨g, i, none⟩ (.int .u32 v)) g t (u32s (l.set i x)).toArray := h.set_at _ (u32_set hv)
theorem val_int {k : IntKind} {a b : Int} (h : a = b) : Value.int k a = Value.int k b := by rw [h]
theorem info_u32 : (Tryz.prog.info? 171).map (fun i => (i.zero, i.size, i.bytes)) = some (some (.int .u32 0), 1, 4) := by kernel_rfl
theorem make_u32 (n : Nat) (hn : n ≤ 70368744177664) (w : World) : (Instr.makeSlice 89 (.int .i64 (n : Int)) (.int .i64 (n : Int))).run Tryz.prog w = .ok (.slice (some ⟨w.heap.size, 0, none⟩) n n) (w.alloc (.cells (u32s (List.replicate n 0)).toArray 171)) := by
  rw [run_make_row' (P := Tryz.prog) 89 171 (.int .u32 0) 4 Tryz.underlying89 info_u32 rfl .i64 .i64 n (by omega) (by omega) w, u32_made]
theorem or_words (r x s : Nat) (hs : s ≤ 32) (hr : r < 4294967296) (hx : x < 2 ^ s) : bits .or .u64 ((r : Int) * ((2 ^ s : Nat) : Int)) (x : Int) = ((r * 2 ^ s + x : Nat) : Int) := by
  have hp : 2 ^ s ≤ 4294967296 := Nat.pow_le_pow_right (by decide) hs
  have h1 : r * 2 ^ s ≤ 4294967295 * 4294967296 := Nat.mul_le_mul (by omega) hp
  rw [← Int.natCast_mul, u64_or_nat _ _ (by omega) (by omega)]
  congr 1
  rw [Nat.mul_comm]
  exact (Nat.two_pow_add_eq_or_of_lt hx r).symm
theorem or_shift (c x s : Nat) (hc : c < 2 ^ s) (h : c + x * 2 ^ s < 18446744073709551616) : bits .or .u64 (c : Int) (IntKind.u64.wrap ((x : Int) * 2 ^ s)) = ((c + x * 2 ^ s : Nat) : Int) := by
  have e : (x : Int) * 2 ^ s = ((x * 2 ^ s : Nat) : Int) := by rw [Int.natCast_mul, Int.natCast_pow]; rfl
  rw [e, u64_wrap]
  rw [show ((x * 2 ^ s : Nat) : Int) % 18446744073709551616 = ((x * 2 ^ s : Nat) : Int) from by omega]
  rw [u64_or_nat _ _ (by omega) (by omega)]
  congr 1
  rw [Nat.or_comm, Nat.mul_comm x, ← Nat.two_pow_add_eq_or_of_lt hc, Nat.add_comm]
theorem and_mask (a : Nat) (h : a < 18446744073709551616) : bits .and .u64 (a : Int) 4294967295 = ((a % 4294967296 : Nat) : Int) := by
  have := u64_and_nat a 4294967295 h (by decide)
  rw [show ((4294967295 : Nat) : Int) = 4294967295 from rfl] at this
  rw [this]
  congr 1
  exact Nat.and_two_pow_sub_one_eq_mod a 32
theorem u64_pred {g : Nat} (h1 : 1 ≤ g) (h2 : g < 4294967296) : IntKind.u64.wrap ((g : Int) - 1) = (g : Int) - 1 := Go.IntWalk.u64_in _ (by omega)
theorem cast_mod2 (a b : Nat) : ((a : Int) + (b : Int)) % 4294967296 = (((a + b) % 4294967296 : Nat) : Int) := by omega
theorem tmod_nat (a b : Nat) : ((a : Int)).tmod (b : Int) = ((a % b : Nat) : Int) := rfl
theorem tdiv_nat (a b : Nat) : ((a : Int)).tdiv (b : Int) = ((a / b : Nat) : Int) := rfl
theorem bcellW {W w1 : World} (hb : Below W.heap.size W w1) : (∀ b o, b < W.heap.size → w1.cell? ⟨b, o, none⟩ = W.cell? ⟨b, o, none⟩) ∧ (∀ b o, b < W.heap.size → w1.frozen? ⟨b, o, none⟩ = W.frozen? ⟨b, o, none⟩) :=
  ⟨fun b o h => hb.cell (p := ⟨b, o, none⟩) h, fun b o h => hb.frozen (p := ⟨b, o, none⟩) h⟩
/-- words that a function has made -/
def OutWP (v : Nat) (w : World) (e : Ending) (w' : World) : Prop := Below w.heap.size w w' ∧ ∃ A n c l, e = .returned (.slice A n c) ∧ RdW w' w'.heap.size A n l ∧ Wd l ∧ wv l = v ∧ n ≤ c ∧ c ≤ 9223372036854775807
theorem outWP_blk {v : Nat} {w w' : World} {e : Ending} {g t n : Nat} {l : List Nat} (hb : Below w.heap.size w w') (h : Blk w' g t (u32s l).toArray) (hl : l.length = n) (hd : Wd l) (hv : wv l = v) (hn : n ≤ 9223372036854775807) (he : e = .returned (.slice (some ⟨g, 0, none⟩) n n)) : OutWP v w e w' :=
  ⟨hb, _, n, n, l, he, by subst hl; exact rdW_blk h, hd, hv, Nat.le_refl _, hn⟩
/-- the sign and the magnitude -/
def sgn (m : Bool) (v : Nat) : Int := if m then -(v : Int) else v
theorem sgn_abs (m : Bool) (v : Nat) : (sgn m v).natAbs = v := by unfold sgn; split <;> simp
theorem sgn_neg (m : Bool) (v : Nat) : decide (sgn m v < 0) = (m && decide (0 < v)) := by
  unfold sgn
  cases m with
  | true => simp
  | false => simp
theorem sgn_self (z : Int) : sgn (decide (z < 0)) z.natAbs = z := by
  unfold sgn
  by_cases h : z < 0
  · rw [if_pos (by simpa using h)]; omega
  · rw [if_neg (by simpa using h)]; omega
theorem blk_set2 {w : World} {p t : Nat} {v0 v1 x0 x1 : Value} (h : Blk w p t #[x0, x1]) : Blk ((w.setCell ⟨p, 0, none⟩ v0).setCell ⟨p, 1, none⟩ v1) p t #[v0, v1] :=
  (h.set_at (i := 0) (cs' := #[v0, x1]) v0 (by simp)).set_at (i := 1) v1 (by simp)
theorem below_set2 {a w : World} {B p : Nat} {v0 v1 : Value} (h : Below B a w) (hp : B ≤ p) : Below B a ((w.setCell ⟨p, 0, none⟩ v0).setCell ⟨p, 1, none⟩ v1) := (h.setCell hp _).setCell hp _
/-- an integer in memory: its sign, and where its words lie -/
structure LgIs (w : World) (B : Nat) (z : Int) (b : Bool) (A : Option Addr) (n c : Nat) : Prop where
  eb : b = decide (z < 0)
  en : n = dlen z.natAbs
  rd : RdW w B A n (dig z.natAbs)
  nc : n ≤ c
  cm : c ≤ 9223372036854775807
section
variable {w w' : World} {B B' : Nat} {z : Int} {b : Bool} {A : Option Addr} {n c : Nat}
theorem LgIs.below (h : LgIs w B z b A n c) (hb : Below B' w w') (hB : B ≤ B') : LgIs w' B z b A n c := ⟨h.eb, h.en, h.rd.below hb hB, h.nc, h.cm⟩
theorem LgIs.more (h : LgIs w B z b A n c) (hB : B ≤ B') : LgIs w B' z b A n c := ⟨h.eb, h.en, h.rd.more hB, h.nc, h.cm⟩
theorem LgIs.up (h : LgIs w w.heap.size z b A n c) (hb : Below w.heap.size w w') : LgIs w' w'.heap.size z b A n c := (h.below hb (Nat.le_refl _)).more hb.size
theorem LgIs.val (h : LgIs w B z b A n c) : sgn b (wv (dig z.natAbs)) = z := by rw [wv_dig, h.eb, sgn_self]
theorem u32_int {l : List Nat} {j : Nat} {u : Value} (h : (u32s l)[j]? = some u) : ∃ x, u = .int .u32 x := by
  unfold u32s at h
  rw [List.getElem?_map] at h
  obtain ⟨x, _, he⟩ := Option.map_eq_some_iff.1 h
  exact ⟨_, he.symm⟩
/-- a store to a cell that holds no integer leaves words as they are -/
theorem rdW_keep {l : List Nat} (h : RdW w B A n l) {p : Addr} {v : Value} (hp : w.cell? p = some v) (hv : ∀ k x, v ≠ .int k x) (u : Value) : RdW (w.setCell p u) B A n l :=
  ⟨h.1, fun hn => by
    obtain ⟨b, off, e, hlt, hc⟩ := h.2 hn
    refine ⟨b, off, e, hlt, fun j y hy => ?_⟩
    have hcv := hc j y hy
    have hne : (⟨b, off + j, none⟩ : Addr) ≠ p := by
      intro he
      rw [he, hp] at hcv
      obtain ⟨x, rfl⟩ := u32_int hy
      injection hcv with hcv
      exact hv _ _ hcv
    rw [World.cell?_setCell_other _ _ _ _ (Ne.symm hne)]
    exact hcv⟩
theorem LgIs.keep (h : LgIs w w.heap.size z b A n c) {p : Addr} {v : Value} (hp : w.cell? p = some v) (hv : ∀ k x, v ≠ .int k x) (u : Value) : LgIs (w.setCell p u) (w.setCell p u).heap.size z b A n c := by
  have hs : (w.setCell p u).heap.size = w.heap.size := by simp
  rw [hs]
  exact ⟨h.eb, h.en, rdW_keep h.rd hp hv u, h.nc, h.cm⟩
end
/-- what an operation hands back -/
def LgP (z : Int) (w : World) (e : Ending) (w' : World) : Prop := Below w.heap.size w w' ∧ ∃ b A n c, e = .returned (.agg #[.bool b, .slice A n c]) ∧ LgIs w' w'.heap.size z b A n c
theorem lgP_mk {m : Bool} {A : Option Addr} {k c v : Nat} {l : List Nat} {w w' : World} {e : Ending} (hb : Below w.heap.size w w') (hl : l = dig v) (hk : l.length = k) (hr : RdW w' w'.heap.size A k l) (hkc : k ≤ c) (hcm : c ≤ 9223372036854775807) (he : e = .returned (.agg #[.bool (m && decide (0 < k)), .slice A k c])) : LgP (sgn m v) w e w' := by
  have hk2 : k = dlen v := by rw [← hk, hl]; rfl
  have h0 : decide (0 < k) = decide (0 < v) := by
    by_cases hv : v = 0
    · subst hv; rw [hk2, dlen_zero]
    · rw [hk2, dlen_pos hv]; simp; omega
  refine ⟨hb, _, A, k, c, he, ?_, ?_, ?_, hkc, hcm⟩
  · rw [sgn_neg, h0]
  · rw [sgn_abs]; exact hk2
  · rw [sgn_abs, ← hl]; exact hr
/-- a result that was put into the result's block -/
theorem lg_put {w w2 : World} {g T : Nat} {v0 v1 : Value} {z : Int} {b : Bool} {A : Option Addr} {n c : Nat} {e : Ending} (hb : Below w.heap.size w w2) (hg : w.heap.size ≤ g) (hB : Blk w2 g T #[v0, v1]) (h0 : ∀ k x, v0 ≠ .int k x) (h1 : ∀ k x, v1 ≠ .int k x) (h : LgIs w2 w2.heap.size z b A n c) (he : e = .returned (.agg #[.bool b, .slice A n c])) :
    LgP z w e ((w2.setCell ⟨g, 0, none⟩ (.bool b)).setCell ⟨g, 1, none⟩ (.slice A n c)) :=
  ⟨below_set2 hb hg, b, A, n, c, he, (h.keep (hB.cell 0) h0 _).keep ((hB.set_ 0 (.bool b)).cell 1) (by simpa using h1) _⟩
end Go.Proofs.YtakllkkmofdpaaaGreatDoor
/- A region whose last operation waits for all others. -/
namespace Go.Proofs.YtakllkkmofdpaaaGreatDoor
open Go
set_option linter.unusedVariables false

def lastB (md : Region.Mode) (L : List Oper) (n : Nat) : Bool :=
  decide (L.length = n + 1) &&
  (List.range (n + 1)).all (fun j => match L[j]? with
    | some o => o.after.all (fun e => !Region.binds md e || decide (e.on < j)) && (match o.guard with | none => true | some (g, _) => decide (g < n))
    | none => false) &&
  (List.range n).all (fun j => (List.range (n + 1)).any fun k => decide (j < k) && match L[k]? with
    | some o => o.after.any (fun e => Region.binds md e && e.on == j)
    | none => false)
def lastQ (P : Program) (ops : Array Oper) (o : Oper) (Q : Exit → Act → World → Prop) : Exit → Act → World → Prop
  | .normal, a, w => if Region.wanted o (yielded ops a.tmps) = true then Oper.wp P o a w (Q .normal) Q else Q .normal (a.put o.dst undef) w
  | e, a, w => Q e a w

section
variable {P : Program} {Q : Exit → Act → World → Prop} {md : Region.Mode}
theorem wp_lastQ {ops : Array Oper} {oN o : Oper} {a : Act} {w : World} {K K' : Act → World → Prop} (h : ∀ a w, K a w → K' a w) (hh : o.wp P a w K (lastQ P ops oN Q)) : o.wp P a w K' Q := by
  unfold Oper.wp at *
  generalize (execOp a.eval o).run P w = r at *
  cases r with
  | ok n w' =>
    cases n <;> simp only [Oper.upon] at hh ⊢ <;>
      first
        | exact h _ _ hh
        | exact Calls.mono hh (fun e w'' he => by cases e <;> first | exact h _ _ he | exact he)
        | exact Rows.mono hh (fun _ _ he => h _ _ he)
  | halt x w' => cases x <;> simp only [Oper.upon] at hh ⊢ <;> exact hh
theorem wpOp_lastQ {L F : List Oper} {i : Nat} {oN : Oper} {a : Act} {w : World} {K K' : Act → World → Prop} (hi : L[i]? = F[i]?) (hg : ∀ o, F[i]? = some o → ∀ g b, o.guard = some (g, b) → L[g]? = F[g]?) (h : ∀ a w, K a w → K' a w)
    (hh : wpOp P F.toArray (lastQ P L.toArray oN Q) i K a w) : wpOp P L.toArray Q i K' a w := by
  unfold wpOp at *
  rw [List.getElem?_toArray] at *
  rw [hi]
  cases ho : F[i]? with
  | none => rw [ho] at hh; exact h _ _ hh
  | some o =>
    rw [ho] at hh
    simp only at hh ⊢
    have hw : Region.wanted o (yielded L.toArray a.tmps) = Region.wanted o (yielded F.toArray a.tmps) := by
      unfold Region.wanted
      cases hgd : o.guard with
      | none => rfl
      | some gb =>
        obtain ⟨g, b⟩ := gb
        simp only
        unfold yielded
        rw [List.getElem?_toArray, List.getElem?_toArray, hg o ho g b hgd]
    rw [hw]
    split
    · rename_i h1
      rw [if_pos h1] at hh
      exact hh.imp (wp_lastQ h) id
    · rename_i h1
      rw [if_neg h1] at hh
      exact h _ _ hh
theorem lastB_spec {L : List Oper} {n : Nat} (h : lastB md L n = true) : L.length = n + 1 ∧
    (∀ j o, L[j]? = some o → (∀ e ∈ o.after, Region.binds md e = true → e.on < j) ∧ ∀ g b, o.guard = some (g, b) → g < n) ∧
    (∀ j, j < n → ∃ k o e, j < k ∧ L[k]? = some o ∧ e ∈ o.after ∧ Region.binds md e = true ∧ e.on = j) := by
  unfold lastB at h
  simp only [Bool.and_eq_true, decide_eq_true_eq, List.all_eq_true, List.mem_range, List.any_eq_true] at h
  obtain ⟨⟨h1, h2⟩, h3⟩ := h
  refine ⟨h1, fun j o ho => ?_, fun j hj => ?_⟩
  · have hj : j < n + 1 := by rw [← h1]; exact (List.getElem?_eq_some_iff.1 ho).1
    have := h2 j hj
    rw [ho] at this
    simp only [Bool.and_eq_true, Array.all_eq_true_iff_forall_mem, Bool.or_eq_true, Bool.not_eq_true', decide_eq_true_eq] at this
    refine ⟨fun e he hb => (this.1 e he).resolve_left (by simp [hb]), fun g b hg => ?_⟩
    have h4 := this.2
    rw [hg] at h4
    simpa using h4
  · obtain ⟨k, hk, hjk, h4⟩ := h3 j hj
    cases ho : L[k]? with
    | none => rw [ho] at h4; cases h4
    | some o =>
      rw [ho] at h4
      simp only [Array.any_eq_true'] at h4
      obtain ⟨e, he, h5⟩ := h4
      simp only [Bool.and_eq_true, beq_iff_eq] at h5
      exact ⟨k, o, e, hjk, ho, he, h5.1, h5.2⟩
def ClosedL (md : Region.Mode) (F : List Oper) (listed : Array Bool) : Prop := ∀ (j : Nat) (o : Oper), F[j]? = some o → listed.getD j false = true → ∀ e ∈ o.after, Region.binds md e = true → listed.getD e.on false = true
theorem getD_tf {l : Array Bool} {j : Nat} (h : j < l.size) : l.getD j true = l.getD j false := by simp [h]
theorem all_listed {L : List Oper} {n : Nat} {oN : Oper} {listed : Array Bool} (hs : lastB md L n = true) (hN : L[n]? = some oN) (hsz : listed.size = n) (hc : ClosedL md (L.take n) listed)
    (hr : ∀ e ∈ oN.after, Region.binds md e = true → (listed.push false).getD e.on false = true) : ∀ d j, j + d = n → 0 < d → listed.getD j false = true := by
  obtain ⟨h1, h2, h3⟩ := lastB_spec hs
  intro d
  induction d using Nat.strongRecOn with
  | _ d ih =>
    intro j hj hd
    obtain ⟨k, o, e, hjk, hk, he, hb, hej⟩ := h3 j (by omega)
    have hkl : k < n + 1 := by rw [← h1]; exact (List.getElem?_eq_some_iff.1 hk).1
    by_cases hkn : k = n
    · subst hkn
      rw [hN] at hk; injection hk with hk; subst hk
      have := hr e he hb
      rw [hej] at this
      rwa [Array.getD_eq_getD_getElem?, Array.getElem?_push_lt (by omega), ← Array.getElem?_eq_getElem (by omega), ← Array.getD_eq_getD_getElem?] at this
    · have hl := ih (n - k) (by omega) k (by omega) (by omega)
      have := hc k o (by rw [List.getElem?_take_of_lt (by omega)]; exact hk) hl e he hb
      rwa [hej] at this
theorem push_set {l : Array Bool} {i : Nat} (hi : i < l.size) : (l.push false).setIfInBounds i true = (l.setIfInBounds i true).push false := by
  apply Array.ext
  · simp
  · intro j h1 h2
    simp only [Array.size_setIfInBounds, Array.size_push] at h1
    rw [Array.getElem_setIfInBounds (by simpa using h1), Array.getElem_push]
    by_cases hij : i = j
    · subst hij
      rw [if_pos rfl, Array.getElem_push]
      simp only [Array.size_setIfInBounds, hi, dif_pos, Array.getElem_setIfInBounds, if_true]
    · simp only [hij, if_false]
      rw [Array.getElem_push]
      simp only [Array.size_setIfInBounds]
      split
      · rename_i h3
        rw [Array.getElem_setIfInBounds (by simpa using h3), if_neg hij]
      · rfl
theorem getD_push {l : Array Bool} {j : Nat} (hj : j < l.size) (d : Bool) : (l.push false).getD j d = l.getD j d := by
  rw [Array.getD_eq_getD_getElem?, Array.getElem?_push_lt hj, ← Array.getElem?_eq_getElem hj, ← Array.getD_eq_getD_getElem?]
theorem getD_out {l : Array Bool} {j : Nat} (h : l.getD j false = true) : j < l.size := by
  rcases Nat.lt_or_ge j l.size with h' | h'
  · exact h'
  · simp [Array.getElem?_eq_none h'] at h
/-- what may come up in the front may come up in the whole, and nothing else till all of the front have -/
theorem ready_front {L : List Oper} {n : Nat} {listed : Array Bool} (hs : lastB md L n = true) (hsz : listed.size = n) {i : Nat} (hi : i < n) : i ∈ Region.ready md L.toArray (listed.push false) ↔ i ∈ Region.ready md (L.take n).toArray listed := by
  obtain ⟨h1, h2, h3⟩ := lastB_spec hs
  rw [mem_ready, mem_ready, List.getElem?_toArray, List.getElem?_toArray, List.getElem?_take_of_lt hi, getD_push (by omega)]
  refine and_congr Iff.rfl ⟨?_, ?_⟩
  · rintro ⟨o, ho, h⟩
    exact ⟨o, ho, fun e he hb => by rw [← getD_push (by have := (h2 i o ho).1 e he hb; omega)]; exact h e he hb⟩
  · rintro ⟨o, ho, h⟩
    exact ⟨o, ho, fun e he hb => by rw [getD_push (by have := (h2 i o ho).1 e he hb; omega)]; exact h e he hb⟩
theorem closed_set {F : List Oper} {listed : Array Bool} {i : Nat} (hc : ClosedL md F listed) (hr : i ∈ Region.ready md F.toArray listed) : ClosedL md F (listed.setIfInBounds i true) := by
  intro j o ho hj e he hb
  by_cases hij : i = j
  · subst hij
    obtain ⟨_, o', ho', hall⟩ := mem_ready.1 hr
    rw [List.getElem?_toArray, ho] at ho'
    injection ho' with ho'
    subst ho'
    exact getD_set_true (hall e he hb)
  · rw [getD_set_ne false hij] at hj
    exact getD_set_true (hc j o ho hj e he hb)
theorem done_of_all {L : List Oper} {n : Nat} {listed : Array Bool} (h1 : L.length = n + 1) (hsz : listed.size = n) (hall : ∀ j, j < n → listed.getD j false = true) : Region.ready md L.toArray ((listed.push false).setIfInBounds n true) = [] := by
  rw [List.eq_nil_iff_forall_not_mem]
  intro j hj
  obtain ⟨h0, o, ho, _⟩ := mem_ready.1 hj
  rw [List.getElem?_toArray] at ho
  have hjl := (List.getElem?_eq_some_iff.1 ho).1
  by_cases hjn : n = j
  · subst hjn
    simp [hsz] at h0
  · rw [getD_set_ne true hjn, getD_push (by omega), getD_tf (by omega), hall j (by omega)] at h0
    cases h0
/-- all others first, then the last one -/
theorem wpAny_last {L : List Oper} {n : Nat} {oN : Oper} (hs : lastB md L n = true) (hN : L[n]? = some oN) : ∀ (fuel : Nat) (listed : Array Bool) (a : Act) (w : World), listed.size = n → ClosedL md (L.take n) listed →
    wpAny P md (L.take n).toArray (lastQ P L.toArray oN Q) fuel listed a w → wpAny P md L.toArray Q (fuel + 1) (listed.push false) a w := by
  obtain ⟨h1, h2, h3⟩ := lastB_spec hs
  -- nothing more of the front may come up
  have key : ∀ (fuel : Nat) (listed : Array Bool) (a : Act) (w : World), listed.size = n → ClosedL md (L.take n) listed → Region.ready md (L.take n).toArray listed = [] → lastQ P L.toArray oN Q .normal a w → wpAny P md L.toArray Q (fuel + 1) (listed.push false) a w := by
    intro fuel listed a w hsz hc hr hq
    have hall : ∀ m j, j < m → j < n → listed.getD j false = true := by
      intro m
      induction m with
      | zero => intro j hj; omega
      | succ m ih =>
        intro j hj hjn
        cases hl : listed.getD j false with
        | true => rfl
        | false =>
          exfalso
          have hjl : j < L.length := by omega
          have hmem : j ∈ Region.ready md (L.take n).toArray listed := by
            rw [mem_ready, List.getElem?_toArray, List.getElem?_take_of_lt hjn, getD_tf (by omega), hl]
            refine ⟨rfl, L[j], List.getElem?_eq_getElem hjl, fun e he hb => ih _ ?_ ?_⟩
            · have := (h2 j _ (List.getElem?_eq_getElem hjl)).1 e he hb; omega
            · have := (h2 j _ (List.getElem?_eq_getElem hjl)).1 e he hb; omega
          rw [hr] at hmem
          cases hmem
    have hall' := fun j hj => hall n j hj hj
    have hnr : n ∈ Region.ready md L.toArray (listed.push false) := by
      rw [mem_ready, List.getElem?_toArray]
      refine ⟨by simp [← hsz], oN, hN, fun e he hb => ?_⟩
      have := (h2 n oN hN).1 e he hb
      rw [getD_push (by omega)]
      exact hall' _ this
    refine ⟨fun h0 => by rw [h0] at hnr; exact absurd hnr (by simp), fun j hj => ?_⟩
    have hjn : j = n := by
      obtain ⟨h0, o, ho, _⟩ := mem_ready.1 hj
      rw [List.getElem?_toArray] at ho
      have hjl := (List.getElem?_eq_some_iff.1 ho).1
      refine Decidable.byContradiction fun hne => ?_
      rw [getD_push (by omega), getD_tf (by omega), hall' j (by omega)] at h0
      cases h0
    subst hjn
    unfold wpOp
    rw [List.getElem?_toArray, hN]
    simp only
    have hd := done_of_all (md := md) h1 hsz hall'
    unfold lastQ at hq
    dsimp only at hq
    split
    · rename_i hw
      rw [if_pos hw] at hq
      exact .inl (Oper.wp_mono (fun a' w' h => wpAny_done hd h fuel) hq)
    · rename_i hw
      rw [if_neg hw] at hq
      exact wpAny_done hd hq fuel
  intro fuel
  induction fuel with
  | zero => intro listed a w hsz hc h; exact key 0 listed a w hsz hc h.1 h.2
  | succ fuel ih =>
    intro listed a w hsz hc h
    by_cases hr : Region.ready md (L.take n).toArray listed = []
    · exact key (fuel + 1) listed a w hsz hc hr (h.1 hr)
    · have hnn : n ∉ Region.ready md L.toArray (listed.push false) := by
        intro hn
        obtain ⟨_, o, ho, hall⟩ := mem_ready.1 hn
        rw [List.getElem?_toArray, hN] at ho
        injection ho with ho
        subst ho
        have hl := all_listed hs hN hsz hc hall
        apply hr
        rw [List.eq_nil_iff_forall_not_mem]
        intro j hj
        obtain ⟨h0, o, ho, _⟩ := mem_ready.1 hj
        rw [List.getElem?_toArray] at ho
        have hjl := (List.getElem?_eq_some_iff.1 ho).1
        have hjn : j < n := by simp at hjl; omega
        have := hl (n - j) j (by omega) (by omega)
        rw [getD_tf (by omega), this] at h0
        cases h0
      have hlt : ∀ j, j ∈ Region.ready md L.toArray (listed.push false) → j < n := fun j hj => by
        obtain ⟨_, o, ho, _⟩ := mem_ready.1 hj
        rw [List.getElem?_toArray] at ho
        have := (List.getElem?_eq_some_iff.1 ho).1
        have hne : j ≠ n := fun e => hnn (e ▸ hj)
        omega
      refine ⟨fun h0 => ?_, fun j hj => ?_⟩
      · exfalso
        obtain ⟨j, hj⟩ := List.exists_mem_of_ne_nil _ hr
        have hjn : j < n := by
          obtain ⟨_, o, ho, _⟩ := mem_ready.1 hj
          rw [List.getElem?_toArray] at ho
          have := (List.getElem?_eq_some_iff.1 ho).1
          simp at this; omega
        have := (ready_front hs hsz hjn).2 hj
        rw [h0] at this
        cases this
      · have hjn := hlt j hj
        have hjr := (ready_front hs hsz hjn).1 hj
        refine wpOp_lastQ (L := L) (F := L.take n) (by rw [List.getElem?_take_of_lt hjn]) (fun o ho g b hg => ?_) (fun a' w' hh => ?_) (h.2 j hjr)
        · rw [List.getElem?_take_of_lt hjn] at ho
          rw [List.getElem?_take_of_lt ((h2 j o ho).2 g b hg)]
        · rw [push_set (by omega)]
          exact ih _ a' w' (by simpa using hsz) (closed_set hc hjr) hh
/-- a region that draws: all but the last operation under a condition on the world, then the last -/
theorem wp_region_last {S : World → Prop} {id : Nat} {a : Act} {w : World} {L : List Oper} (n : Nat) (oN : Oper) (hm : P.follows .mixedOrders = true) (hs : lastB .any L n = true) (hN : L[n]? = some oN) (hS : S w.drew)
    (h : S w.drew → wpAnyH P .any (L.take n).toArray (lastQ P L.toArray oN Q) S n (Array.replicate n false) a w.drew) : (Code.region id L.toArray true).wp P Q a w := by
  obtain ⟨h1, h2, h3⟩ := lastB_spec hs
  refine wp_region_any hm ?_
  rw [show L.toArray.size = n + 1 from by simpa using h1, Array.replicate_succ]
  refine wpAny_last hs hN n _ a _ (by simp) (fun j o ho hj => ?_) (wpAny_of_held _ _ _ _ (h hS))
  rcases Nat.lt_or_ge j n with h' | h' <;> simp [h'] at hj
def takeB (md : Region.Mode) (ops : Array Oper) (listed : Array Bool) (i : Nat) : Bool := Region.noSelect ops && Region.free md ops listed i && (Region.ready md ops listed).contains i
/-- an operation that yields its value in every world of the region is taken first -/
theorem takeH {L : List Oper} {S : World → Prop} (i : Nat) {oi : Oper} {v : Value} {fuel : Nat} {listed : Array Bool} {a : Act} {w : World} (hi : L[i]? = some oi) (hB : takeB md L.toArray listed i = true)
    (hQ : ∀ c a w, Q (.panic c) (a.put oi.dst v) w → Q (.panic c) a w) (hw : Region.wanted oi (yielded L.toArray a.tmps) = true) (hy : ∀ w, S w → (execOp a.eval oi).run P w = .ok (.value v) w) (hS : S w)
    (h : wpAnyH P md L.toArray Q S fuel (listed.setIfInBounds i true) (a.put oi.dst v) w) : wpAnyH P md L.toArray Q S (fuel + 1) listed a w := by
  unfold takeB at hB
  rw [Bool.and_eq_true, Bool.and_eq_true] at hB
  exact wpAnyH_take (by rw [List.getElem?_toArray]; exact hi) hB.1.1 hB.1.2 hB.2 hQ (.inl ⟨hw, hy⟩) hS h
/-- the only one that may come up -/
theorem stepH {L : List Oper} {S : World → Prop} (i : Nat) {o : Oper} {fuel : Nat} {listed : Array Bool} {a : Act} {w : World} (hr : Region.ready md L.toArray listed = [i]) (ho : L[i]? = some o)
    (h : ∀ K' : Act → World → Prop, Shut (∀ a w, S w → (S w → wpAnyH P md L.toArray Q S fuel (listed.setIfInBounds i true) a w) → K' a w) → if Region.wanted o (yielded L.toArray a.tmps) = true then Oper.wp P o a w K' Q else K' (a.put o.dst undef) w) : wpAnyH P md L.toArray Q S (fuel + 1) listed a w :=
  wpAnyH_ready hr (by simp) (AllReadyH.cons (by rw [List.getElem?_toArray]; exact ho) h AllReadyH.nil)
theorem lastQ_go {ops : Array Oper} {o : Oper} {a : Act} {w : World} (hw : Region.wanted o (yielded ops a.tmps) = true) (h : Oper.wp P o a w (Q .normal) Q) : lastQ P ops o Q .normal a w := by
  unfold lastQ
  dsimp only
  rw [if_pos hw]
  exact h
end
end Go.Proofs.YtakllkkmofdpaaaGreatDoor
/- A region whose last operation waits for all others: operations that are not wanted. -/
namespace Go.Proofs.YtakllkkmofdpaaaGreatDoor
open Go
set_option linter.unusedVariables false
section
variable {P : Program} {Q : Exit → Act → World → Prop} {md : Region.Mode}
/-- an operation that is not wanted is passed over first -/
theorem skipH {L : List Oper} {S : World → Prop} (i : Nat) {oi : Oper} {fuel : Nat} {listed : Array Bool} {a : Act} {w : World} (hi : L[i]? = some oi) (hB : takeB md L.toArray listed i = true)
    (hQ : ∀ c a w, Q (.panic c) (a.put oi.dst undef) w → Q (.panic c) a w) (hw : Region.wanted oi (yielded L.toArray a.tmps) = false) (hS : S w)
    (h : wpAnyH P md L.toArray Q S fuel (listed.setIfInBounds i true) (a.put oi.dst undef) w) : wpAnyH P md L.toArray Q S (fuel + 1) listed a w := by
  unfold takeB at hB
  rw [Bool.and_eq_true, Bool.and_eq_true] at hB
  exact wpAnyH_take (by rw [List.getElem?_toArray]; exact hi) hB.1.1 hB.1.2 hB.2 hQ (.inr ⟨hw, rfl⟩) hS h
end
end Go.Proofs.YtakllkkmofdpaaaGreatDoor
/- Integers of any size: norm, Neg, Sign, Of. -/
namespace Go.Proofs.YtakllkkmofdpaaaGreatDoor
open Go.ChangeShapes Go.WideShapes Go.ChangeAt Go.RowKit
set_option linter.unusedVariables false
set_option linter.unusedSimpArgs false
attribute [local go_sem ↓] execOp_call_val
attribute [local go_sem] callVal_func setCell_drewN alloc_drewN

set_option maxHeartbeats 1000000 in
theorem norm_any (m : Bool) (A : Option Addr) (n c : Nat) (ws : List Nat) (w : World) (hr : RdW w w.heap.size A n ws) (hd : Wd ws) (hn : n ≤ c) (hc : c ≤ 9223372036854775807) :
    Calls Tryz.prog 114 #[.bool m, .slice A n c] w (LgP (sgn m (wv ws)) w) := by
  have HR := Lib.hid hr
  have HD := Lib.hid hd
  have HL := Lib.hid hr.len
  have HK := Lib.hid ((Below.refl w.heap.size w).alloc (Nat.le_refl _) (.cells #[.bool false, .slice none 0 0] 91))
  clear hr hd
  go_enter Tryz.func114, Tryz.ntmps114
  go_wp2_with fail
  have HB := Lib.hid (Blk.new w 91 #[.bool false, .slice none 0 0])
  have HR1 := Lib.hid (HR.out.up HK.out)
  generalize w.alloc (.cells #[.bool false, .slice none 0 0] 91) = W at *
  generalize hg : w.heap.size = g at *
  have HG := Lib.hid hg
  clear hg
  go_loop [1] (fun v1 => ∃ k : Nat, k ≤ n ∧ v1 = .slice A k c ∧ wv (ws.take k) = wv ws) (fun v1 => match v1 with | .slice _ k _ => k | _ => 0)
  case atStart => exact ⟨n, Nat.le_refl _, rfl, by rw [List.take_of_length_le (Nat.le_of_eq HL.out)]⟩
  case round =>
    obtain ⟨k, hk, rfl, hv⟩ := hrel
    have HV := Lib.hid hv
    have HE : Hid (∀ v' e w', Below g w w' → RdW w' w'.heap.size A k (ws.take k) → (k = 0 ∨ ws.getD (k - 1) 0 ≠ 0) → v' = .agg #[.bool (m && decide (0 < k)), .slice A k c] → e = .returned v' → LgP (sgn m (wv ws)) w e w') := Lib.hid (fun v' e w' hb hr hz hv' he => lgP_mk (by rw [HG.out]; exact hb) (by rw [trim_end HD.out (by have := HL.out; omega) hz, HV.out]) (by rw [List.length_take, HL.out, Nat.min_eq_left hk]) hr (Nat.le_trans hk hn) hc (by rw [he, hv']))
    clear hv
    have b0 := HB.out.cell 0
    have b1 := HB.out.cell 1
    have bf := HB.out.frozen
    have bl := HB.out.lt
    by_cases h0 : k = 0
    · subst h0
      cases m with
      | true =>
        go_wp2_with fail
        generalize hW2 : (W.setCell ⟨g, 0, none⟩ _).setCell ⟨g, 1, none⟩ _ = W2
        have HB2 : Hid (Blk W2 g 91 #[.bool (true && decide (0 < 0)), .slice A 0 c]) := Lib.hid (by rw [← hW2]; exact blk_set2 HB.out)
        have HK2 : Hid (Below g w W2) := Lib.hid (by rw [← hW2]; exact below_set2 HK.out (Nat.le_refl _))
        clear hW2 b0 b1
        have q0 := HB2.out.cell 0
        have q1 := HB2.out.cell 1
        refine bodyPost_ret (v := .agg #[.bool (true && decide (0 < 0)), .slice A 0 c]) (by simp [results, Tryz.results114, go_sem, q0, q1]) rfl (HE.out _ _ _ HK2.out (rdW_nil _ _ _) (.inl trivial) rfl rfl)
      | false =>
        go_wp2_with fail
        generalize hW2 : (W.setCell ⟨g, 0, none⟩ _).setCell ⟨g, 1, none⟩ _ = W2
        have HB2 : Hid (Blk W2 g 91 #[.bool (false && decide (0 < 0)), .slice A 0 c]) := Lib.hid (by rw [← hW2]; exact blk_set2 HB.out)
        have HK2 : Hid (Below g w W2) := Lib.hid (by rw [← hW2]; exact below_set2 HK.out (Nat.le_refl _))
        clear hW2 b0 b1
        have q0 := HB2.out.cell 0
        have q1 := HB2.out.cell 1
        refine bodyPost_ret (v := .agg #[.bool (false && decide (0 < 0)), .slice A 0 c]) (by simp [results, Tryz.results114, go_sem, q0, q1]) rfl (HE.out _ _ _ HK2.out (rdW_nil _ _ _) (.inl trivial) rfl rfl)
    · have hk0 : 0 < k := by omega
      obtain ⟨b, off, hA, hbl⟩ := HR1.out.form (by omega)
      subst hA
      have hc0 := HR1.out.at_ (i := k - 1) (by omega)
      have HLT := Lib.hid (HR1.out.take hk)
      have g1 : (1 : Int) ≤ (k : Int) := by omega
      have g4 : ((k : Int) - 1).toNat = k - 1 := by omega
      have g5 : (k : Int) - 1 < (k : Int) := by omega
      have g6 : (k : Int) - 1 ≤ (c : Int) := by omega
      have g7 : (k : Int) ≤ 9223372036854775807 := by omega
      obtain ⟨x, hx⟩ : ∃ x, ws.getD (k - 1) 0 = x := ⟨_, rfl⟩
      have HX := Lib.hid hx
      rw [hx] at hc0
      clear hx
      by_cases hz : x = 0
      · subst hz
        have hz := HX.out
        have HT := Lib.hid (trim_step hk0 (by have := HL.out; omega) hz)
        clear hz b0 b1 bf bl
        go_wp2_with fail
        go_round
        case rel => exact ⟨k - 1, by omega, rfl, by rw [HT.out, HV.out]⟩
        case measure => simp; omega
      · have hzb : ((x : Int) == 0) = false := by simp; exact hz
        have HZ : Hid (ws.getD (k - 1) 0 ≠ 0) := Lib.hid (by rw [HX.out]; exact hz)
        clear hz
        cases m with
        | true =>
          go_wp2_with fail
          generalize hW2 : (W.setCell ⟨g, 0, none⟩ _).setCell ⟨g, 1, none⟩ _ = W2
          have HB2 : Hid (Blk W2 g 91 #[.bool true, .slice (some ⟨b, off, none⟩) k c]) := Lib.hid (by rw [← hW2]; exact blk_set2 HB.out)
          have HK2 : Hid (Below g w W2) := Lib.hid (by rw [← hW2]; exact below_set2 HK.out (Nat.le_refl _))
          clear hW2 b0 b1
          have q0 := HB2.out.cell 0
          have q1 := HB2.out.cell 1
          refine bodyPost_ret (v := .agg #[.bool true, .slice (some ⟨b, off, none⟩) k c]) (by simp [results, Tryz.results114, go_sem, q0, q1, hk0]) rfl (HE.out _ _ _ HK2.out (((HR.out.take hk).below HK2.out (Nat.le_refl _)).more (HG.out ▸ HK2.out.size)) (.inr HZ.out) (by simp [hk0]) rfl)
        | false =>
          go_wp2_with fail
          generalize hW2 : (W.setCell ⟨g, 0, none⟩ _).setCell ⟨g, 1, none⟩ _ = W2
          have HB2 : Hid (Blk W2 g 91 #[.bool (false && decide (0 < k)), .slice (some ⟨b, off, none⟩) k c]) := Lib.hid (by rw [← hW2]; exact blk_set2 HB.out)
          have HK2 : Hid (Below g w W2) := Lib.hid (by rw [← hW2]; exact below_set2 HK.out (Nat.le_refl _))
          clear hW2 b0 b1
          have q0 := HB2.out.cell 0
          have q1 := HB2.out.cell 1
          refine bodyPost_ret (v := .agg #[.bool (false && decide (0 < k)), .slice (some ⟨b, off, none⟩) k c]) (by simp [results, Tryz.results114, go_sem, q0, q1, hk0]) rfl (HE.out _ _ _ HK2.out (((HR.out.take hk).below HK2.out (Nat.le_refl _)).more (HG.out ▸ HK2.out.size)) (.inr HZ.out) rfl rfl)
end Go.Proofs.YtakllkkmofdpaaaGreatDoor
/- Integers of any size: Neg, Of, Sign. -/
namespace Go.Proofs.YtakllkkmofdpaaaGreatDoor
open Go.ChangeShapes Go.WideShapes Go.ChangeAt Go.RowKit
set_option linter.unusedVariables false
set_option linter.unusedSimpArgs false
attribute [local go_sem ↓] execOp_call_val
attribute [local go_sem] callVal_func setCell_drewN alloc_drewN

theorem neg_sgn (z : Int) : sgn (!decide (z < 0)) z.natAbs = -z := by
  unfold sgn
  by_cases h : z < 0
  · simp [h]; omega
  · simp [h]; omega
set_option maxHeartbeats 1000000 in
theorem neg_any (z : Int) (b : Bool) (A : Option Addr) (n c : Nat) (w : World) (h : LgIs w w.heap.size z b A n c) :
    Calls Tryz.prog 113 #[.agg #[.bool b, .slice A n c]] w (LgP (-z) w) := by
  have HB0 : Hid (Below w.heap.size w ((w.alloc (.cells #[.bool b, .slice A n c] 91)).alloc (.cells #[.bool false, .slice none 0 0] 91))) := Lib.hid (((Below.refl _ _).alloc (Nat.le_refl _) _).alloc (by simp) _)
  have HX := Lib.hid ((Blk.new w 91 #[.bool b, .slice A n c]).alloc (.cells #[.bool false, .slice none 0 0] 91))
  have HG : Hid (Blk ((w.alloc (.cells #[.bool b, .slice A n c] 91)).alloc (.cells #[.bool false, .slice none 0 0] 91)) (w.heap.size + 1) 91 #[.bool false, .slice none 0 0]) := Lib.hid (Blk.new_ (by simp))
  have HH := Lib.hid (h.up HB0.out)
  have hgs : w.heap.size ≤ w.heap.size + 1 := by omega
  have HE := Lib.hid h.eb
  clear h
  go_enter Tryz.func113, Tryz.ntmps113
  have x0 := HX.out.cell 0
  have x1 := HX.out.cell 1
  have xl := HX.out.lt
  go_wp2_with fail
  clear x0 x1 xl
  generalize (w.alloc (.cells #[.bool b, .slice A n c] 91)).alloc (.cells #[.bool false, .slice none 0 0] 91) = W at *
  refine (norm_any (!b) A n c (dig z.natAbs) W (by have h := HH.out.rd; have e := HH.out.en; exact h) (wd_dig _) HH.out.nc HH.out.cm).mono ?_
  rw [wv_dig, HE.out, neg_sgn]
  rintro e w2 ⟨k, b2, A2, n2, c2, rfl, h2⟩
  have HB2 := Lib.hid (HB0.out.trans (k.mono HB0.out.size))
  have HG2 := Lib.hid (HG.out.below k HG.out.lt)
  have H2 := Lib.hid h2
  clear k h2 HG HX HH
  have z0 := HG2.out.cell 0
  have z1 := HG2.out.cell 1
  have zf := HG2.out.frozen
  have zl := HG2.out.lt
  go_wp2_with fail
  generalize hW9 : (w2.setCell ⟨_, 0, none⟩ _).setCell ⟨_, 1, none⟩ _ = W9
  have HP9 := Lib.hid (lg_put (e := .returned (.agg #[.bool b2, .slice A2 n2 c2])) HB2.out hgs HG2.out (by simp) (by simp) H2.out rfl)
  rw [hW9] at HP9
  have HB9 : Hid (Blk W9 _ 91 #[.bool b2, .slice A2 n2 c2]) := Lib.hid (by rw [← hW9]; exact blk_set2 HG2.out)
  clear hW9 z0 z1 zf zl
  have q0 := HB9.out.cell 0
  have q1 := HB9.out.cell 1
  exact bodyPost_ret (v := .agg #[.bool b2, .slice A2 n2 c2]) (by simp [results, Tryz.results113, go_sem, q0, q1]) rfl HP9.out

theorem lsign_any (z : Int) (b : Bool) (A : Option Addr) (n c : Nat) (w : World) (h : LgIs w w.heap.size z b A n c) :
    Calls Tryz.prog 112 #[.agg #[.bool b, .slice A n c]] w fun e w' => e = .returned (.int .i64 z.sign) ∧ Below w.heap.size w w' := by
  have HX := Lib.hid (Blk.new w 91 #[.bool b, .slice A n c])
  have HE := Lib.hid h.eb
  have HN := Lib.hid h.en
  clear h
  go_enter Tryz.func112, Tryz.ntmps112
  have x0 := HX.out.cell 0
  have x1 := HX.out.cell 1
  have xl := HX.out.lt
  have HB0 := Lib.hid ((Below.refl w.heap.size w).alloc (Nat.le_refl _) (.cells #[.bool b, .slice A n c] 91))
  by_cases hz : z = 0
  · have hn : n = 0 := by rw [HN.out, hz]; exact dlen_zero
    have HZ : Hid (z.sign = 0) := Lib.hid (by rw [hz]; rfl)
    clear hz
    subst hn
    go_wp2_with fail
    go_ret
    exact ⟨ret_int HZ.out.symm, HB0.out⟩
  · have hn : ((n : Int) == 0) = false := by
      have h1 : n ≠ 0 := by rw [HN.out, dlen_pos (by omega)]; omega
      simp; omega
    cases b with
    | true =>
      have HZ : Hid (z.sign = -1) := Lib.hid (Int.sign_eq_neg_one_of_neg (by have := HE.out; simpa using this.symm))
      clear hz
      go_wp2_with fail
      go_ret
      exact ⟨ret_int HZ.out.symm, HB0.out⟩
    | false =>
      have HZ : Hid (z.sign = 1) := Lib.hid (Int.sign_eq_one_of_pos (by have := HE.out; simp at this; omega))
      clear hz
      go_wp2_with fail
      go_ret
      exact ⟨ret_int HZ.out.symm, HB0.out⟩
end Go.Proofs.YtakllkkmofdpaaaGreatDoor
/- Integers of any size: Of. -/
namespace Go.Proofs.YtakllkkmofdpaaaGreatDoor
open Go.ChangeShapes Go.WideShapes Go.ChangeAt Go.RowKit
set_option linter.unusedVariables false
set_option linter.unusedSimpArgs false
attribute [local go_sem ↓] execOp_call_val
attribute [local go_sem] callVal_func setCell_drewN alloc_drewN

set_option maxHeartbeats 1000000 in
theorem of_any (n : Int) (w : World) (h0 : -9223372036854775808 ≤ n) (h1 : n ≤ 9223372036854775807) :
    Calls Tryz.prog 90 #[.int .i64 n] w (LgP n w) := by
  obtain ⟨m, hm⟩ : ∃ m, n.natAbs = m := ⟨_, rfl⟩
  have hml : m < 18446744073709551616 := by omega
  have HWD : Hid (Wd [m % 4294967296, m / 4294967296]) := Lib.hid (fun x hx => by
    simp at hx
    rcases hx with rfl | rfl <;> omega)
  have HV0 : Hid (wv [m % 4294967296, m / 4294967296] = m) := Lib.hid (by simp only [wv]; omega)
  go_enter Tryz.func90, Tryz.ntmps90
  by_cases hn : n < 0
  · have HV : Hid (sgn true (wv [m % 4294967296, m / 4294967296]) = n) := Lib.hid (by rw [HV0.out]; show -(m : Int) = n; omega)
    have hw1 : IntKind.u64.wrap n = n + 18446744073709551616 := by
      rw [u64_wrap]; omega
    have hw2 : IntKind.u64.wrap (-(n + 18446744073709551616)) = (m : Int) := by
      rw [u64_wrap]; omega
    have HM := Lib.hid hm
    have HN := Lib.hid hn
    clear hm
    have HW : Hid (Below w.heap.size w ((w.alloc (.cells #[.bool false, .slice none 0 0] 91)).alloc (.cells (u32s [m % 4294967296, m / 4294967296]).toArray 171))) := Lib.hid (((Below.refl _ _).alloc (Nat.le_refl _) _).alloc (by simp) _)
    have HG : Hid (Blk ((w.alloc (.cells #[.bool false, .slice none 0 0] 91)).alloc (.cells (u32s [m % 4294967296, m / 4294967296]).toArray 171)) w.heap.size 91 #[.bool false, .slice none 0 0]) := Lib.hid ((Blk.new w _ _).alloc _)
    have HS : Hid (Blk ((w.alloc (.cells #[.bool false, .slice none 0 0] 91)).alloc (.cells (u32s [m % 4294967296, m / 4294967296]).toArray 171)) (w.heap.size + 1) 171 (u32s [m % 4294967296, m / 4294967296]).toArray) := Lib.hid (Blk.new_ (by simp))
    have hgs : w.heap.size ≤ w.heap.size := Nat.le_refl _
    go_wp2_with fail
    clear hw1 hw2
    have hcs : #[.int .u32 ((m : Int) % 4294967296), .int .u32 ((m : Int) / 4294967296)] = (u32s [m % 4294967296, m / 4294967296]).toArray := by
      simp [u32s]
    rw [hcs]
    clear hcs
    generalize (w.alloc (.cells #[.bool false, .slice none 0 0] 91)).alloc (.cells (u32s [m % 4294967296, m / 4294967296]).toArray 171) = W at *
    refine (norm_any true (some ⟨w.heap.size + 1, 0, none⟩) 2 2 [m % 4294967296, m / 4294967296] W (rdW_blk HS.out) HWD.out (Nat.le_refl _) (by decide)).mono ?_
    rw [HV.out]
    rintro e w2 ⟨k, b2, A2, n2, c2, rfl, h2⟩
    have HB2 := Lib.hid (HW.out.trans (k.mono HW.out.size))
    have HG2 := Lib.hid (HG.out.below k HG.out.lt)
    have H2 := Lib.hid h2
    clear k h2 HG HS HW
    have z0 := HG2.out.cell 0
    have z1 := HG2.out.cell 1
    have zf := HG2.out.frozen
    have zl := HG2.out.lt
    go_wp2_with fail
    generalize hW9 : (w2.setCell ⟨_, 0, none⟩ _).setCell ⟨_, 1, none⟩ _ = W9
    have HP9 := Lib.hid (lg_put (e := .returned (.agg #[.bool b2, .slice A2 n2 c2])) HB2.out hgs HG2.out (by simp) (by simp) H2.out rfl)
    rw [hW9] at HP9
    have HB9 : Hid (Blk W9 _ 91 #[.bool b2, .slice A2 n2 c2]) := Lib.hid (by rw [← hW9]; exact blk_set2 HG2.out)
    clear hW9 z0 z1 zf zl
    have q0 := HB9.out.cell 0
    have q1 := HB9.out.cell 1
    exact bodyPost_ret (v := .agg #[.bool b2, .slice A2 n2 c2]) (by simp [results, Tryz.results90, go_sem, q0, q1]) rfl HP9.out
  · have HV : Hid (sgn false (wv [m % 4294967296, m / 4294967296]) = n) := Lib.hid (by rw [HV0.out]; show (m : Int) = n; omega)
    have hm2 : n = (m : Int) := by omega
    subst hm2
    clear hm
    have HW : Hid (Below w.heap.size w ((w.alloc (.cells #[.bool false, .slice none 0 0] 91)).alloc (.cells (u32s [m % 4294967296, m / 4294967296]).toArray 171))) := Lib.hid (((Below.refl _ _).alloc (Nat.le_refl _) _).alloc (by simp) _)
    have HG : Hid (Blk ((w.alloc (.cells #[.bool false, .slice none 0 0] 91)).alloc (.cells (u32s [m % 4294967296, m / 4294967296]).toArray 171)) w.heap.size 91 #[.bool false, .slice none 0 0]) := Lib.hid ((Blk.new w _ _).alloc _)
    have HS : Hid (Blk ((w.alloc (.cells #[.bool false, .slice none 0 0] 91)).alloc (.cells (u32s [m % 4294967296, m / 4294967296]).toArray 171)) (w.heap.size + 1) 171 (u32s [m % 4294967296, m / 4294967296]).toArray) := Lib.hid (Blk.new_ (by simp))
    have hgs : w.heap.size ≤ w.heap.size := Nat.le_refl _
    go_wp2_with fail
    have hcs : #[.int .u32 ((m : Int) % 4294967296), .int .u32 ((m : Int) / 4294967296)] = (u32s [m % 4294967296, m / 4294967296]).toArray := by
      simp [u32s]
    rw [hcs]
    clear hcs
    generalize (w.alloc (.cells #[.bool false, .slice none 0 0] 91)).alloc (.cells (u32s [m % 4294967296, m / 4294967296]).toArray 171) = W at *
    refine (norm_any false (some ⟨w.heap.size + 1, 0, none⟩) 2 2 [m % 4294967296, m / 4294967296] W (rdW_blk HS.out) HWD.out (Nat.le_refl _) (by decide)).mono ?_
    rw [HV.out]
    rintro e w2 ⟨k, b2, A2, n2, c2, rfl, h2⟩
    have HB2 := Lib.hid (HW.out.trans (k.mono HW.out.size))
    have HG2 := Lib.hid (HG.out.below k HG.out.lt)
    have H2 := Lib.hid h2
    clear k h2 HG HS HW
    have z0 := HG2.out.cell 0
    have z1 := HG2.out.cell 1
    have zf := HG2.out.frozen
    have zl := HG2.out.lt
    go_wp2_with fail
    generalize hW9 : (w2.setCell ⟨_, 0, none⟩ _).setCell ⟨_, 1, none⟩ _ = W9
    have HP9 := Lib.hid (lg_put (e := .returned (.agg #[.bool b2, .slice A2 n2 c2])) HB2.out hgs HG2.out (by simp) (by simp) H2.out rfl)
    rw [hW9] at HP9
    have HB9 : Hid (Blk W9 _ 91 #[.bool b2, .slice A2 n2 c2]) := Lib.hid (by rw [← hW9]; exact blk_set2 HG2.out)
    clear hW9 z0 z1 zf zl
    have q0 := HB9.out.cell 0
    have q1 := HB9.out.cell 1
    exact bodyPost_ret (v := .agg #[.bool b2, .slice A2 n2 c2]) (by simp [results, Tryz.results90, go_sem, q0, q1]) rfl HP9.out
end Go.Proofs.YtakllkkmofdpaaaGreatDoor
/- Words: comparing. -/
namespace Go.Proofs.YtakllkkmofdpaaaGreatDoor
open Go.ChangeShapes Go.WideShapes Go.ChangeAt Go.RowKit
set_option linter.unusedVariables false
set_option linter.unusedSimpArgs false
attribute [local go_sem ↓] execOp_call_val
attribute [local go_sem] callVal_func setCell_drewN alloc_drewN

/-- what a comparison says -/
def CmpIs (x y : Nat) (r : Int) : Prop := (r < 0 ↔ x < y) ∧ (r = 0 ↔ x = y)
theorem cmpIs_len {x y : Nat} (h : dlen x ≠ dlen y) : CmpIs x y ((dlen x : Int) - (dlen y : Int)) := by
  rcases Nat.lt_or_gt_of_ne h with h1 | h1
  · have := lt_of_dlen h1
    exact ⟨by omega, by omega⟩
  · have := lt_of_dlen h1
    exact ⟨by omega, by omega⟩
theorem cmpIs_lt {x y : Nat} (h : x < y) : CmpIs x y (-1) := ⟨by omega, by omega⟩
theorem cmpIs_gt {x y : Nat} (h : y < x) : CmpIs x y 1 := ⟨by omega, by omega⟩
theorem cmpIs_eq {x y : Nat} (h : x = y) : CmpIs x y 0 := ⟨by omega, by omega⟩
def CmpP (x y : Nat) (w : World) (e : Ending) (w' : World) : Prop := (∃ r : Int, e = .returned (.int .i64 r) ∧ CmpIs x y r) ∧ ∃ nq, w' = w.drewN nq
set_option maxHeartbeats 1000000 in
theorem cmpW_any (A : Option Addr) (n c : Nat) (B : Option Addr) (m d : Nat) (x y : Nat) (w : World) (hx : RdW w w.heap.size A n (dig x)) (hy : RdW w w.heap.size B m (dig y)) (hn : n ≤ 9223372036854775807) (hm : m ≤ 9223372036854775807) :
    Calls Tryz.prog 119 #[.slice A n c, .slice B m d] w (CmpP x y w) := by
  have hxl := hx.len
  have hyl := hy.len
  have HX := Lib.hid hx
  have HY := Lib.hid hy
  have HXL : Hid (dlen x = n) := Lib.hid hxl
  have HYL : Hid (dlen y = m) := Lib.hid hyl
  clear hx hy hxl hyl
  go_enter Tryz.func119, Tryz.ntmps119
  by_cases hnm : n = m
  · subst hnm
    have HLL : Hid ((dig x).length = (dig y).length) := Lib.hid (by rw [dig_len, dig_len, HXL.out, HYL.out])
    go_wp2_with fail
    go_loopw [5] (fun v5 wr => ∃ k : Nat, k ≤ n ∧ v5 = .int .i64 ((k : Int) - 1) ∧ (dig x).drop k = (dig y).drop k ∧ ∃ nq, wr = w.drewN nq) (fun v5 _ => (intOf v5 + 1).toNat)
    case atStart => exact ⟨n, Nat.le_refl _, rfl, by rw [List.drop_eq_nil_of_le (by rw [dig_len, HXL.out]; exact Nat.le_refl _), List.drop_eq_nil_of_le (by rw [dig_len, HYL.out]; exact Nat.le_refl _)], 0, rfl⟩
    case round =>
      obtain ⟨k, hk, rfl, hd, nq, rfl⟩ := hrel
      have HD := Lib.hid hd
      clear hd
      by_cases h0 : k = 0
      · subst h0
        have HE : Hid (x = y) := Lib.hid (by have := HD.out; simp at this; rw [← wv_dig x, this, wv_dig])
        have e : (((0 : Nat) : Int) - 1) = -1 := rfl
        rw [e]
        clear e
        go_wp2_with fail
        go_ret
        exact ⟨⟨0, rfl, cmpIs_eq HE.out⟩, nq, rfl⟩
      · obtain ⟨j, rfl⟩ : ∃ j, k = j + 1 := ⟨k - 1, by omega⟩
        have e : (((j + 1 : Nat) : Int) - 1) = (j : Int) := by omega
        rw [e]
        clear e h0
        have hj : j < n := hk
        obtain ⟨b1, o1, hA1, hb1⟩ := HX.out.form (by omega)
        subst hA1
        obtain ⟨b2, o2, hA2, hb2⟩ := HY.out.form (by omega)
        subst hA2
        have hcx := HX.out.at_ hj
        have hcy := HY.out.at_ hj
        have HC := Lib.hid (fun h => wv_cmp (wd_dig x) HLL.out (i := j) (by rw [dig_len, HXL.out]; exact hj) HD.out h)
        have HC2 := Lib.hid (fun h => wv_cmp (wd_dig y) HLL.out.symm (i := j) (by rw [dig_len, HYL.out]; exact hj) HD.out.symm h)
        have HQ := Lib.hid (fun h => drop_eq_step HLL.out (i := j) (by rw [dig_len, HXL.out]; exact hj) HD.out h)
        obtain ⟨xj, hxj⟩ : ∃ v, (dig x).getD j 0 = v := ⟨_, rfl⟩
        obtain ⟨yj, hyj⟩ : ∃ v, (dig y).getD j 0 = v := ⟨_, rfl⟩
        have HXJ := Lib.hid hxj
        have HYJ := Lib.hid hyj
        rw [hxj] at hcx
        rw [hyj] at hcy
        clear hxj hyj
        have hjI : (j : Int) < (n : Int) := by omega
        rcases Nat.lt_trichotomy xj yj with h | h | h
        · have HR : Hid (x < y) := Lib.hid (by have := HC.out (by rw [HXJ.out, HYJ.out]; exact h); rwa [wv_dig, wv_dig] at this)
          have t1 : ((xj : Int) != (yj : Int)) = true := by simp; omega
          have t1' : ((xj : Int) == (yj : Int)) = false := by simp; omega
          have t2 : decide (xj < yj) = true := by simpa using h
          clear h
          go_wp2_with fail
          go_quiet (fail)
          go_wp2_with fail
          go_quiet (fail)
          go_wp2_with fail
          go_ret
          exact ⟨⟨-1, rfl, cmpIs_lt HR.out⟩, _, by rw [World.drewN_drewN, World.drewN_drewN]⟩
        · subst h
          have HR := Lib.hid (HQ.out (by rw [HXJ.out, HYJ.out]))
          go_wp2_with fail
          go_quiet (fail)
          go_wp2_with fail
          go_roundw
          case rel => exact ⟨j, by omega, by go_num, HR.out, _, rfl⟩
          case measure => simp [intOf]
        · have HR : Hid (y < x) := Lib.hid (by have := HC2.out (by rw [HXJ.out, HYJ.out]; exact h); rwa [wv_dig, wv_dig] at this)
          have t1 : ((xj : Int) != (yj : Int)) = true := by simp; omega
          have t1' : ((xj : Int) == (yj : Int)) = false := by simp; omega
          have t2 : decide (xj < yj) = false := by simp; omega
          clear h
          go_wp2_with fail
          go_quiet (fail)
          go_wp2_with fail
          go_quiet (fail)
          go_wp2_with fail
          go_ret
          exact ⟨⟨1, rfl, cmpIs_gt HR.out⟩, _, by rw [World.drewN_drewN, World.drewN_drewN]⟩
  · have HR := Lib.hid (cmpIs_len (x := x) (y := y) (by rw [HXL.out, HYL.out]; exact hnm))
    rw [HXL.out, HYL.out] at HR
    have h1 : ((n : Int) == (m : Int)) = false := by simp; omega
    have h2 : ((n : Int) != (m : Int)) = true := by simp; omega
    clear hnm
    go_wp2_with fail
    go_ret
    exact ⟨⟨_, rfl, HR.out⟩, 0, rfl⟩
end Go.Proofs.YtakllkkmofdpaaaGreatDoor
/- Words: sums and differences. -/
namespace Go.Proofs.YtakllkkmofdpaaaGreatDoor
open Go.ChangeShapes Go.WideShapes Go.ChangeAt Go.RowKit
set_option linter.unusedVariables false
set_option linter.unusedSimpArgs false
attribute [local go_sem ↓] execOp_call_val
attribute [local go_sem] callVal_func setCell_drewN alloc_drewN

structure AddInv (a b : List Nat) (n k cc : Nat) (out : List Nat) : Prop where
  len : out.length = n + 1
  od : Wd out
  oz : Zf out k
  c1 : cc ≤ 1
  eq : wv out + cc * BB k = wv (a.take k) + wv (b.take k)
theorem AddInv.step {a b out : List Nat} {n k cc : Nat} (H : AddInv a b n k cc out) (ha : Wd a) (hb : Wd b) (hk : k < n) : AddInv a b n (k + 1) ((cc + a.getD k 0 + b.getD k 0) / 4294967296) (out.set k ((cc + a.getD k 0 + b.getD k 0) % 4294967296)) := by
  have hl := H.len
  obtain ⟨h1, h2⟩ := add_step ha hb (by omega) H.oz H.c1 H.eq
  exact ⟨by rw [List.length_set]; exact hl, H.od.set _ (Nat.mod_lt _ (by decide)), H.oz.put, h1, h2⟩
set_option maxHeartbeats 2000000 in
theorem addW0 (A : Option Addr) (n c : Nat) (B : Option Addr) (m d : Nat) (a0 b0 : List Nat) (w : World) (ha : RdW w w.heap.size A n a0) (hb : RdW w w.heap.size B m b0) (had : Wd a0) (hbd : Wd b0) (hn : n ≤ 35184372088832) (hm : m ≤ 35184372088832) :
    Calls Tryz.prog 118 #[.slice A n c, .slice B m d] w (OutWP (wv a0 + wv b0) w) := by
  have HA := Lib.hid ha
  have HB := Lib.hid hb
  have HAD := Lib.hid had
  have HBD := Lib.hid hbd
  clear ha hb had hbd
  go_enter Tryz.func118, Tryz.ntmps118
  go_upto_if 12 with fail
  go_cut [0, 1] (fun v0 v1 wc => wc = w ∧ ∃ A n c B m d a b, v0 = .slice A n c ∧ v1 = .slice B m d ∧ RdW w w.heap.size A n a ∧ RdW w w.heap.size B m b ∧ Wd a ∧ Wd b ∧ m ≤ n ∧ n ≤ 35184372088832 ∧ wv a + wv b = wv a0 + wv b0)
  case first =>
    by_cases hnm : n < m
    · go_wp2_with fail
      go_meet
      case rel => exact ⟨rfl, _, _, _, _, _, _, _, _, rfl, rfl, HB.out, HA.out, HBD.out, HAD.out, by omega, hm, by omega⟩
    · go_wp2_with fail
      go_meet
      case rel => exact ⟨rfl, _, _, _, _, _, _, _, _, rfl, rfl, HA.out, HB.out, HAD.out, HBD.out, by omega, hn, rfl⟩
  clear HA HB HAD HBD hn hm
  obtain ⟨rfl, A, n, c, B, m, d, a, b, rfl, rfl, ha, hb, had, hbd, hmn, hn, hv⟩ := hcut
  have HA := Lib.hid ha
  have HB := Lib.hid hb
  have HAD := Lib.hid had
  have HBD := Lib.hid hbd
  have HV := Lib.hid hv
  have HAL := Lib.hid ha.len
  have HBL := Lib.hid hb.len
  clear ha hb had hbd hv
  generalize wc = w at *
  have hmk : ∀ w : World, (Instr.makeSlice 89 (.int .i64 ((n : Int) + 1)) (.int .i64 ((n : Int) + 1))).run Tryz.prog w = .ok (.slice (some ⟨w.heap.size, 0, none⟩) (n + 1) (n + 1)) (w.alloc (.cells (u32s (List.replicate (n + 1) 0)).toArray 171)) := fun w => make_u32 (n + 1) (by omega) w
  have HK := Lib.hid ((Below.refl w.heap.size w).alloc (Nat.le_refl _) (.cells (u32s (List.replicate (n + 1) 0)).toArray 171))
  have HG := Lib.hid (Blk.new w 171 (u32s (List.replicate (n + 1) 0)).toArray)
  go_wp2_with fail
  clear hmk
  generalize w.alloc (.cells (u32s (List.replicate (n + 1) 0)).toArray 171) = W at *
  generalize hg : w.heap.size = g at *
  have HGS := Lib.hid hg
  clear hg
  go_loopw [6, 21] (fun v6 v21 wr => ∃ (k cc : Nat) (out : List Nat), k ≤ n ∧ v21 = .int .i64 k ∧ v6 = .int .u64 cc ∧ Below g w wr ∧ Blk wr g 171 (u32s out).toArray ∧ AddInv a b n k cc out) (fun _ v21 _ => n - (intOf v21).toNat)
  case atStart => exact ⟨0, 0, _, by omega, rfl, rfl, HK.out, HG.out, ⟨by simp, wd_zeros _, zf_zeros _ _, by omega, by rw [wv_zeros]; simp [wv]⟩⟩
  case round =>
    clear HK HG
    obtain ⟨k, cc, out, hk, rfl, rfl, hb, hg, hI⟩ := hrel
    have HK := Lib.hid hb
    have HG := Lib.hid hg
    have HI := Lib.hid hI
    clear hb hg hI
    have hcc := HI.out.c1
    have hgl := HG.out.lt
    have hgf := HG.out.frozen
    by_cases hlt : k < n
    · obtain ⟨ab, ao, hA1, hab⟩ := HA.out.form (by omega)
      subst hA1
      have hca := (HA.out.lift HK.out (by omega)).at_ hlt
      have hcg := blkW_cell HG.out (i := k) (by rw [HI.out.len]; omega)
      have HN := Lib.hid (HI.out.step HAD.out HBD.out hlt)
      have hx := HAD.out.getD k
      have hy := HBD.out.getD k
      obtain ⟨x, hxx⟩ : ∃ x, a.getD k 0 = x := ⟨_, rfl⟩
      obtain ⟨y, hyy⟩ : ∃ y, b.getD k 0 = y := ⟨_, rfl⟩
      have HYY := Lib.hid hyy
      rw [hxx] at hca hx
      rw [hyy] at hy
      rw [hxx, hyy] at HN
      obtain ⟨z, hzz⟩ : ∃ z, out.getD k 0 = z := ⟨_, rfl⟩
      rw [hzz] at hcg
      clear hxx hyy hzz
      have hab2 : ab < wr.heap.size := by omega
      have hkI : (k : Int) < (n : Int) := by omega
      by_cases hkm : k < m
      · obtain ⟨bb, bo, hB1, hbb⟩ := HB.out.form (by omega)
        subst hB1
        have hcb := (HB.out.lift HK.out (by omega)).at_ hkm
        rw [HYY.out] at hcb
        have hbb2 : bb < wr.heap.size := by omega
        have hkmI : (k : Int) < (m : Int) := by omega
        go_wp2_with fail
        go_roundw
        case rel => exact ⟨k + 1, (cc + x + y) / 4294967296, out.set k ((cc + x + y) % 4294967296), by omega, by go_num, val_int (by omega), HK.out.setCell (Nat.le_refl _) _, blkW_set HG.out (by omega), HN.out⟩
        case measure => simp [intOf]; omega
      · have hy0 : y = 0 := by rw [← HYY.out]; exact wd_out (by rw [HBL.out]; omega)
        subst hy0
        have hkmI : ¬ (k : Int) < (m : Int) := by omega
        go_wp2_with fail
        go_roundw
        case rel => exact ⟨k + 1, (cc + x + 0) / 4294967296, out.set k ((cc + x + 0) % 4294967296), by omega, by go_num, val_int (by omega), HK.out.setCell (Nat.le_refl _) _, blkW_set HG.out (by omega), HN.out⟩
        case measure => simp [intOf]; omega
    · have hke : k = n := by omega
      subst hke
      have hcg := blkW_cell HG.out (i := k) (by rw [HI.out.len]; omega)
      obtain ⟨z, hzz⟩ : ∃ z, out.getD k 0 = z := ⟨_, rfl⟩
      rw [hzz] at hcg
      clear hzz
      have g1 : (k : Int) < (k : Int) + 1 := by omega
      have HE : Hid (wv (out.set k cc) = wv a0 + wv b0) := Lib.hid (by
        rw [add_end (v := wv a0 + wv b0) (by rw [HI.out.len]; omega) HI.out.oz]
        rw [HI.out.eq, List.take_of_length_le (by rw [HAL.out]; exact Nat.le_refl _), List.take_of_length_le (by rw [HBL.out]; exact hmn)]
        exact HV.out)
      have HW : Hid (Wd (out.set k cc)) := Lib.hid (HI.out.od.set _ (by omega))
      have HLN : Hid ((out.set k cc).length = k + 1) := Lib.hid (by rw [List.length_set]; exact HI.out.len)
      go_wp2_with fail
      go_ret
      exact outWP_blk (by rw [HGS.out]; exact HK.out.setCell (Nat.le_refl _) _) (blkW_set HG.out rfl) HLN.out HW.out HE.out (by omega) rfl
end Go.Proofs.YtakllkkmofdpaaaGreatDoor
