/- Rows of rows of strings; what relay.Run answers. -/
import Derived.Test.YtodnjjlhklbniaaDU
import Derived.Test.YtodnjjlhklbniaaO7
namespace Go.Proofs.Ytodnjjlhklbniaa
open Go.ChangeShapes Go.WideShapes Go.ChangeAt Go.RowKit
set_option linter.unusedVariables false
set_option linter.unusedSimpArgs false
attribute [local go_sem ↓] execOp_call_val
attribute [local go_sem] callVal_func setCell_drewN alloc_drewN sEq_walk


/-- rows of strings that lie in a row of the call's own -/
structure OutS (base : Nat) (w : World) (v : Value) (us : List Value) (ls : List (List ByteArray)) : Prop where
  out : w.ownsRow base 34 1 v us.length us
  len : us.length = ls.length
  inn : ∀ (i : Nat) (u : Value) (l : List ByteArray), us[i]? = some u → ls[i]? = some l → w.ownsRow base 9 1 u l.length (strsV l)
  sep : ∀ u ∈ us, ∀ g, u.ownBlock = some g → v.ownBlock ≠ some g
section
variable {base : Nat} {w w' : World} {v v' u : Value} {us : List Value} {ls : List (List ByteArray)} {l : List ByteArray}
theorem OutS.nil (base : Nat) (w : World) : OutS base w (.slice none 0 0) [] [] := ⟨own_none _ _ _ _, rfl, fun i u l h => by simp at h, fun u hu => by simp at hu⟩
theorem OutS.fr {X : Nat → Prop} (h : OutS base w v us ls) (hF : Fr X w w') (hX : ∀ k, base ≤ k → ¬ X k) : OutS base w' v us ls :=
  ⟨own_fr h.out hF hX, h.len, fun i u l h1 h2 => own_fr (h.inn i u l h1 h2) hF hX, h.sep⟩
theorem OutS.up (h : OutS base w v us ls) (hb : Below w.heap.size w w') : OutS base w' v us ls :=
  ⟨own_keep h.out hb, h.len, fun i u l h1 h2 => own_keep (h.inn i u l h1 h2) hb, h.sep⟩
theorem OutS.app (h : OutS base w v us ls) (hu : w.ownsRow base 9 1 u l.length (strsV l)) (hs : ∀ g, u.ownBlock = some g → v.ownBlock ≠ some g) (h1 : w'.ownsRow base 34 1 v' (us.length + 1) (us ++ [u])) (h3 : w.grownBy w' v.ownBlock) (h4 : ∀ k, v'.ownBlock = some k → v.ownBlock = some k ∨ w.heap.size ≤ k) : OutS base w' v' (us ++ [u]) (ls ++ [l]) := by
  have hin : ∀ (u : Value) (l : List ByteArray), w.ownsRow base 9 1 u l.length (strsV l) → (∀ g, u.ownBlock = some g → v.ownBlock ≠ some g) → w'.ownsRow base 9 1 u l.length (strsV l) ∧ ∀ g, u.ownBlock = some g → v'.ownBlock ≠ some g := fun u l hu hs =>
    ⟨own_apart hu h3 (fun k hk hc => hs k hc hk), fun g hg hc => (h4 g hc).elim (fun h5 => hs g hg h5) fun h5 => by have := (hu.lt g hg).2; omega⟩
  refine ⟨by rw [List.length_append]; exact h1, by rw [List.length_append, List.length_append, h.len]; rfl, fun i x y hx hy => ?_, fun x hx g hg => ?_⟩
  · rcases Nat.lt_or_ge i us.length with hi | hi
    · rw [List.getElem?_append_left hi] at hx
      rw [List.getElem?_append_left (by rw [← h.len]; exact hi)] at hy
      exact (hin x y (h.inn i x y hx hy) (h.sep x (List.mem_of_getElem? hx))).1
    · rw [List.getElem?_append_right hi] at hx
      rw [List.getElem?_append_right (by rw [← h.len]; exact hi)] at hy
      have h0 : i - us.length = 0 := by have := (List.getElem?_eq_some_iff.1 hx).1; simp at this; omega
      rw [h0] at hx
      rw [← h.len, h0] at hy
      simp at hx hy
      subst hx; subst hy
      exact (hin u l hu hs).1
  · rcases List.mem_append.1 hx with hx | hx
    · obtain ⟨i, hi⟩ := List.mem_iff_getElem?.1 hx
      have hil := (List.getElem?_eq_some_iff.1 hi).1
      exact (hin x _ (h.inn i x _ hi (List.getElem?_eq_getElem (by rw [← h.len]; exact hil))) (h.sep x hx)).2 g hg
    · rw [List.mem_singleton.1 hx] at hg
      exact (hin u l hu hs).2 g hg
/-- .. read -/
theorem OutS.get (h : OutS base w v us ls) : ∃ A c, v = .slice A ls.length c ∧ c ≤ maxLen ∧ (0 < ls.length → ∃ b, A = some ⟨b, 0, none⟩) ∧ ∀ (i : Nat) (l : List ByteArray), ls[i]? = some l → ∃ (b off : Nat) (B : Option Addr) (d : Nat), A = some ⟨b, off, none⟩ ∧ b < w.heap.size ∧ w.cell? ⟨b, off + i, none⟩ = some (.slice B l.length d) ∧ l.length ≤ d ∧ d ≤ maxLen ∧ RdStr w w.heap.size B l.length l := by
  obtain ⟨A, c, hv, hr, hc, hcm, hb⟩ := own_rd h.out
  refine ⟨A, c, by rw [hv, h.len], hcm, fun h0 => ?_, fun i l hl => ?_⟩
  · rcases h.out.2 with ⟨h1, h2⟩ | ⟨g, cap, cur, h1, _⟩
    · rw [h.len] at h2; omega
    · rw [hv] at h1; injection h1 with h1 _ _; exact ⟨g, h1⟩
  · have hil : i < us.length := by rw [h.len]; exact (List.getElem?_eq_some_iff.1 hl).1
    have hu : us[i]? = some (us[i]'hil) := List.getElem?_eq_getElem hil
    obtain ⟨B, d, he, hr2, hld, hdm, _⟩ := own_rd (h.inn i _ l hu hl)
    obtain ⟨b, off, hA, hlt, hcell⟩ := hr.2 (by omega)
    refine ⟨b, off, B, d, hA, hlt, ?_, hld, hdm, ⟨rfl, hr2⟩⟩
    rw [hcell i _ hu, he]
end
def runR (p : List Rl) (ms : Int) (ord : List Nat) : List (List ByteArray) → List Bool → (Nat → Nat → Bool × Int) → List (List ByteArray)
  | [], _, _ => []
  | fl :: r, vals, k => (stepR ⟨p, vals, fl, [], ms⟩ ord k).out :: runR p ms ord r (stepR ⟨p, vals, fl, [], ms⟩ ord k).vals (stepR ⟨p, vals, fl, [], ms⟩ ord k).kept
theorem runR_len (p : List Rl) (ms : Int) (ord : List Nat) : ∀ (fs : List (List ByteArray)) (vals : List Bool) (k : Nat → Nat → Bool × Int), (runR p ms ord fs vals k).length = fs.length
  | [], _, _ => rfl
  | fl :: r, vals, k => by simp only [runR, List.length_cons]; rw [runR_len p ms ord r]
theorem runR_take (p : List Rl) (ms : Int) (ord : List Nat) : ∀ (fs : List (List ByteArray)) (n : Nat) (vals : List Bool) (k : Nat → Nat → Bool × Int), runR p ms ord (fs.take n) vals k = (runR p ms ord fs vals k).take n
  | [], n, _, _ => by simp [runR]
  | fl :: r, 0, vals, k => by simp [runR]
  | fl :: r, n + 1, vals, k => by simp only [List.take_succ_cons, runR]; rw [runR_take p ms ord r n]
def bigF (fs : List (List ByteArray)) : Bool := fs.any fun l => decide (256 < l.length)
def runE (p : List Rl) (ms : Int) (fs : List (List ByteArray)) : Int := if ckR p ≠ 0 then ckR p else if ms < 1 ∨ 100000 < ms then 4 else if 2000 < fs.length then 2 else if bigF fs then 2 else 0
def runO (p : List Rl) (ms : Int) (fs : List (List ByteArray)) : List (List ByteArray) := match orderR p with | none => [] | some o => runR p ms o fs (List.replicate p.length false) (fun _ _ => (false, 0))
def RunP (p : List Rl) (ms : Int) (fs : List (List ByteArray)) (w : World) (e : Ending) (w' : World) : Prop :=
  Below w.heap.size w w' ∧ ((runE p ms fs ≠ 0 ∧ e = .returned (.tuple #[.slice none 0 0, .int .i64 (runE p ms fs)])) ∨ (runE p ms fs = 0 ∧ ∃ v us, e = .returned (.tuple #[v, .int .i64 0]) ∧ OutS w.heap.size w' v us (runO p ms fs)))
theorem RdSl.up {w w' : World} {n : Nat} {A : Option Addr} {xs : List Sl} (h : RdSl w w.heap.size A n xs) (hb : Below w.heap.size w w') : RdSl w' w'.heap.size A n xs := ⟨h.len, (h.rd.below hb (Nat.le_refl _)).more hb.size, fun z hz => ⟨(h.zs z hz).1.up hb, (h.zs z hz).2⟩⟩
theorem RdSl.at_ {w : World} {B n : Nat} {b off : Nat} {xs : List Sl} (h : RdSl w B (some ⟨b, off, none⟩) n xs) {i : Nat} {x : Sl} (hx : xs[i]? = some x) : w.cell? ⟨b, off + i, none⟩ = some (.slice x.A x.n x.c) := by
  have hl : i < xs.length := (List.getElem?_eq_some_iff.1 hx).1
  have h1 := h.len
  obtain ⟨b', off', e, _, hc⟩ := h.rd.2 (by omega)
  injection e with e
  injection e with e1 e2
  subst e1; subst e2
  exact hc i _ (by have := flat_at Sl.len xs i x hx 0 (by omega); rw [Nat.mul_one, Nat.add_zero] at this; rw [this]; rfl)
theorem RdSl.take {w : World} {B n m : Nat} {A : Option Addr} {zs : List Sl} (h : RdSl w B A n zs) (hm : m ≤ n) : RdSl w B A m (zs.take m) := by
  have hl := h.len
  refine ⟨by simp; omega, ⟨by rw [flat_len Sl.len]; simp; omega, fun h0 => ?_⟩, fun z hz => h.zs z (List.mem_of_mem_take hz)⟩
  obtain ⟨b, off, e, hlt, hc⟩ := h.rd.2 (by omega)
  refine ⟨b, off, e, hlt, fun j u hu => hc j u ?_⟩
  have hs : zs.flatMap Sl.cells = (zs.take m).flatMap Sl.cells ++ (zs.drop m).flatMap Sl.cells := by rw [← List.flatMap_append, List.take_append_drop]
  rw [hs, List.getElem?_append_left (List.getElem?_eq_some_iff.1 hu).1]
  exact hu
def sss (l : List Sl) : List (List ByteArray) := l.map Sl.ss
end Go.Proofs.Ytodnjjlhklbniaa
