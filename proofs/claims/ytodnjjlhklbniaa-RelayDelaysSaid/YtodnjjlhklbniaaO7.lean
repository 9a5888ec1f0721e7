/- Lists of bools, of strings, of lists of strings, and relay programs that came in. -/
import Derived.Test.YtodnjjlhklbniaaO1
import Derived.Test.YtodnjjlhklbniaaDU
import Derived.Lib.SmallJoins
import Derived.ChangeMaps5
namespace Go.Proofs.Ytodnjjlhklbniaa
open Go.ChangeShapes Go.WideShapes Go.ChangeAt Go.RowKit Go.Joins Go.Deep
set_option linter.unusedVariables false

section
variable {H : Type} {enc : TypeId × Value → H} {w : World} {sp : Nat → Bool}
theorem nil_cap {P : Program} {t e : TypeId} {fuel : Nat} {n c : Nat} {x : DataW H × List MemPlace} {held : Bool} (ht : P.underlying t = some (.slice e)) (h : DataW.trod enc P w 0 sp held fuel t [.slice none n c] = some x) : c = 0 := by
  rcases open_slice ht h with ⟨h1, _⟩ | ⟨a, len, cap, m, fu, D, Pl, h1, _⟩
  · injection h1 with h1 _
    injection h1 with _ _ h1
  · injection h1 with h1 _
    injection h1 with h1 _ _
    cases h1
theorem open_bl1 {fuel : Nat} {cs : List Value} {x : DataW H × List MemPlace} (h : DataW.trod enc Try.prog w 0 sp true fuel 4 cs = some x) : ∃ b : Bool, cs = [.bool b] := by
  obtain ⟨b, h1, _⟩ := DataW.trod_bool Try.underlying4 h; exact ⟨b, h1⟩
set_option maxRecDepth 100000 in
theorem open_bls {r : Reach} {b0 : Nat} {v : Value} {d : DataW H} {p : List MemPlace} (hv : Value.okWide Try.prog w r b0 22 v) (h : DataW.Trod enc Try.prog w 0 sp true 22 v d p) :
    ∃ (A : Option Addr) (n c : Nat) (l : List Bool), v = .slice A n c ∧ n ≤ c ∧ c ≤ maxLen ∧ (l.length = n ∧ Rd w w.heap.size 1 A n (bools l)) := by
  obtain ⟨A, n, c, rfl⟩ := okWide_slice Try.underlying22 hv
  obtain ⟨fuel, hf⟩ := h
  obtain ⟨A', n', c', xs, h1, h2, h3, hl, hq, h4⟩ := open_list (fun b : Bool => [.bool b]) 1 (fun _ => True) Try.underlying22 (by kernel_rfl) (by omega) (fun _ => rfl) (fun fu cs' y hy => by obtain ⟨b, hb⟩ := open_bl1 hy; exact ⟨b, hb, trivial⟩) hf
  simp [Value.cells] at h1
  obtain ⟨rfl, rfl, rfl⟩ := h1
  exact ⟨_, _, _, xs, rfl, h2, h3, hl, by unfold bools; rw [List.map_eq_flatMap]; exact h4⟩
theorem open_strsl {fuel : Nat} {cs : List Value} {x : DataW H × List MemPlace} (h : DataW.trod enc Try.prog w 0 sp true fuel 34 cs = some x) :
    ∃ (A : Option Addr) (n c : Nat) (ss : List ByteArray), cs = [.slice A n c] ∧ n ≤ c ∧ c ≤ maxLen ∧ RdStr w w.heap.size A n ss := by
  obtain ⟨A, n, c, xs, h1, h2, h3, hl, hq, h4⟩ := open_list (fun s : ByteArray => [.string s]) 1 (fun s => s.size ≤ maxLen) Try.underlying34 (by kernel_rfl) (by omega) (fun _ => rfl) (fun fu cs' y hy => open_str1 Try.underlying9 hy) h
  exact ⟨A, n, c, xs, h1, h2, h3, hl, by unfold strsV; rw [List.map_eq_flatMap]; exact h4⟩
set_option maxRecDepth 100000 in
theorem open_strs7 {r : Reach} {b0 : Nat} {v : Value} {d : DataW H} {p : List MemPlace} (hv : Value.okWide Try.prog w r b0 34 v) (h : DataW.Trod enc Try.prog w 0 sp true 34 v d p) :
    ∃ (A : Option Addr) (n c : Nat) (ss : List ByteArray), v = .slice A n c ∧ n ≤ c ∧ c ≤ maxLen ∧ RdStr w w.heap.size A n ss := by
  obtain ⟨A, n, c, rfl⟩ := okWide_slice Try.underlying34 hv
  obtain ⟨fuel, hf⟩ := h
  obtain ⟨A', n', c', xs, h1, h2, h3, h4⟩ := open_strsl hf
  simp [Value.cells] at h1
  obtain ⟨rfl, rfl, rfl⟩ := h1
  exact ⟨_, _, _, xs, rfl, h2, h3, h4⟩
/-- a list of strings and where it lies -/
structure Sl where
  A : Option Addr
  n : Nat
  c : Nat
  ss : List ByteArray
def Sl.cells (z : Sl) : List Value := [.slice z.A z.n z.c]
theorem Sl.len (x : Sl) : x.cells.length = 1 := rfl
structure RdSl (w : World) (B : Nat) (A : Option Addr) (n : Nat) (xs : List Sl) : Prop where
  len : xs.length = n
  rd : Rd w B 1 A n (xs.flatMap Sl.cells)
  zs : ∀ z ∈ xs, RdStr w B z.A z.n z.ss ∧ z.n ≤ 9223372036854775807
set_option maxRecDepth 100000 in
theorem open_sls {r : Reach} {b0 : Nat} {v : Value} {d : DataW H} {p : List MemPlace} (hv : Value.okWide Try.prog w r b0 38 v) (h : DataW.Trod enc Try.prog w 0 sp true 38 v d p) :
    ∃ (A : Option Addr) (n c : Nat) (l : List Sl), v = .slice A n c ∧ n ≤ c ∧ c ≤ maxLen ∧ RdSl w w.heap.size A n l := by
  obtain ⟨A, n, c, rfl⟩ := okWide_slice Try.underlying38 hv
  obtain ⟨fuel, hf⟩ := h
  obtain ⟨A', n', c', xs, h1, h2, h3, hl, hq, h4⟩ := open_list Sl.cells 1 (fun x : Sl => RdStr w w.heap.size x.A x.n x.ss ∧ x.n ≤ 9223372036854775807) Try.underlying38 (by kernel_rfl) (by omega) Sl.len (fun fu cs' y hy => by
    obtain ⟨A, n, c, ss, rfl, k1, k2, k3⟩ := open_strsl hy
    exact ⟨⟨A, n, c, ss⟩, rfl, k3, by show n ≤ _; simp only [maxLen] at k2; omega⟩) hf
  simp [Value.cells] at h1
  obtain ⟨rfl, rfl, rfl⟩ := h1
  exact ⟨_, _, _, xs, rfl, h2, h3, ⟨hl, h4, hq⟩⟩
theorem open_Nd {fuel : Nat} {cs : List Value} {y : DataW H × List MemPlace} (h : DataW.trod enc Try.prog w 0 sp true fuel 29 cs = some y) : ∃ x : Nd, cs = x.cells ∧ x.name.size ≤ maxLen := by
  obtain ⟨hl, hf⟩ := open_flat Try.underlying29 (by kernel_rfl) (by kernel_rfl) h
  obtain ⟨v0, n0, y0, hv0, ht0⟩ := hf 0 _ rfl
  obtain ⟨x0, e0, g0⟩ := open_int1 Try.underlying3 ht0
  injection e0 with e0
  subst e0
  obtain ⟨v1, n1, y1, hv1, ht1⟩ := hf 1 _ rfl
  obtain ⟨x1, e1, g1⟩ := open_str1 Try.underlying9 ht1
  injection e1 with e1
  subst e1
  obtain ⟨v2, n2, y2, hv2, ht2⟩ := hf 2 _ rfl
  obtain ⟨x2, e2, g2⟩ := open_int1 Try.underlying3 ht2
  injection e2 with e2
  subst e2
  refine ⟨⟨x0, x1, x2⟩, ?_, g1⟩
  have hl' : cs.length = 3 := hl
  match cs, hl', hv0, hv1, hv2 with
  | [c0, c1, c2], _, hv0, hv1, hv2 =>
    simp at hv0 hv1 hv2
    subst hv0 hv1 hv2
    rfl
theorem open_Rh {fuel : Nat} {cs : List Value} {y : DataW H × List MemPlace} (h : DataW.trod enc Try.prog w 0 sp true fuel 32 cs = some y) : ∃ x : Rh, cs = x.cells ∧ (RdNd w w.heap.size x.A x.n x.r.expr ∧ x.n ≤ 9223372036854775807) ∧ x.r.Fit := by
  obtain ⟨hl, hf⟩ := open_flat Try.underlying32 (by kernel_rfl) (by kernel_rfl) h
  obtain ⟨v0, n0, y0, hv0, ht0⟩ := hf 0 _ rfl
  obtain ⟨v1, n1, y1, hv1, ht1⟩ := hf 1 _ rfl
  obtain ⟨s, e0, g0⟩ := open_str1 Try.underlying9 ht0
  obtain ⟨A, n, c, xs, e1, k1, k2, k3, k4, k5⟩ := open_list Nd.cells 3 (fun x : Nd => x.name.size ≤ maxLen) Try.underlying30 (by kernel_rfl) (by omega) Nd.len (fun fu cs' y hy => open_Nd hy) ht1
  injection e0 with e0
  injection e1 with e1
  subst e0; subst e1
  refine ⟨⟨⟨s, xs⟩, A, n, c⟩, ?_, ⟨⟨k3, k5⟩, by show n ≤ _; simp only [maxLen] at k2; omega⟩, g0, k4⟩
  have hl' : cs.length = 2 := hl
  match cs, hl', hv0, hv1 with
  | [c0, c1], _, hv0, hv1 =>
    simp at hv0 hv1
    subst hv0 hv1
    rfl
set_option maxRecDepth 100000 in
theorem open_rhs {r : Reach} {b0 : Nat} {v : Value} {d : DataW H} {p : List MemPlace} (hv : Value.okWide Try.prog w r b0 33 v) (h : DataW.Trod enc Try.prog w 0 sp true 33 v d p) :
    ∃ (A : Option Addr) (n c : Nat) (l : List Rh), v = .slice A n c ∧ n ≤ c ∧ c ≤ maxLen ∧ (A = none → c = 0) ∧ RdRh w w.heap.size A n l ∧ ∀ z ∈ l, z.r.Fit := by
  obtain ⟨A, n, c, rfl⟩ := okWide_slice Try.underlying33 hv
  obtain ⟨fuel, hf⟩ := h
  have hnil : A = none → c = 0 := fun e => by subst e; exact nil_cap Try.underlying33 hf
  obtain ⟨A', n', c', xs, h1, h2, h3, hl, hq, h4⟩ := open_list Rh.cells 2 (fun x : Rh => (RdNd w w.heap.size x.A x.n x.r.expr ∧ x.n ≤ 9223372036854775807) ∧ x.r.Fit) Try.underlying33 (by kernel_rfl) (by omega) Rh.len (fun fu cs' y hy => open_Rh hy) hf
  simp [Value.cells] at h1
  obtain ⟨rfl, rfl, rfl⟩ := h1
  exact ⟨_, _, _, xs, rfl, h2, h3, hnil, ⟨hl, h4, fun z hz => (hq z hz).1⟩, fun z hz => (hq z hz).2⟩
end
end Go.Proofs.Ytodnjjlhklbniaa
