/- Relay programs in memory. -/
import Derived.Test.YtaanoljfhnfjoaaGreatDoorJ0
import Derived.Test.YtaanoljfhnfjoaaGreatDoorD0
namespace Go.Proofs.YtaanoljfhnfjoaaGreatDoor
open Go.ChangeShapes Go.WideShapes Go.ChangeAt Go.RowKit Go.Joins Go.Deep
set_option linter.unusedVariables false
attribute [local go_sem ↓] execOp_call_val
attribute [local go_sem] callVal_func setCell_drewN alloc_drewN sEq_walk

def Nd.cells (x : Nd) : List Value := [.int .i64 x.op, .string x.name, .int .i64 x.value]
def Nd.val (x : Nd) : Value := .agg #[.int .i64 x.op, .string x.name, .int .i64 x.value]
theorem Nd.len (x : Nd) : x.cells.length = 3 := rfl
def RdNd (w : World) (B : Nat) (A : Option Addr) (n : Nat) (xs : List Nd) : Prop := xs.length = n ∧ Rd w B 3 A n (xs.flatMap Nd.cells)
theorem RdNd.below {w w' : World} {B B' n : Nat} {A : Option Addr} {xs : List Nd} (h : RdNd w B A n xs) (hb : Below B' w w') (hB : B ≤ B') : RdNd w' B A n xs := ⟨h.1, h.2.below hb hB⟩
theorem RdNd.more {w : World} {B B' n : Nat} {A : Option Addr} {xs : List Nd} (h : RdNd w B A n xs) (hB : B ≤ B') : RdNd w B' A n xs := ⟨h.1, h.2.more hB⟩
theorem RdNd.at_ {w : World} {B n : Nat} {b off : Nat} {xs : List Nd} (h : RdNd w B (some ⟨b, off, none⟩) n xs) {i : Nat} {x : Nd} (hx : xs[i]? = some x) :
    w.cell? ⟨b, off + i * 3, none⟩ = some (.int .i64 x.op) ∧ w.cell? ⟨b, off + i * 3 + 1, none⟩ = some (.string x.name) ∧ w.cell? ⟨b, off + i * 3 + 2, none⟩ = some (.int .i64 x.value) := by
  have hl : i < xs.length := (List.getElem?_eq_some_iff.1 hx).1
  have h1 := h.1
  obtain ⟨b', off', e, _, hc⟩ := h.2.2 (by omega)
  injection e with e
  injection e with e1 e2
  subst e1; subst e2
  have key : ∀ k, k < 3 → ∀ u, x.cells[k]? = some u → w.cell? ⟨b, off + i * 3 + k, none⟩ = some u := fun k hk u hu => by
    have := hc (i * 3 + k) u (by rw [flat_at Nd.len xs i x hx k hk]; exact hu)
    rwa [← Nat.add_assoc] at this
  exact ⟨key 0 (by omega) _ rfl, key 1 (by omega) _ rfl, key 2 (by omega) _ rfl⟩
theorem RdNd.form {w : World} {B n : Nat} {A : Option Addr} {xs : List Nd} (h : RdNd w B A n xs) (h0 : 0 < n) : ∃ b off, A = some ⟨b, off, none⟩ ∧ b < B := by
  obtain ⟨b, off, e, hlt, _⟩ := h.2.2 h0
  exact ⟨b, off, e, hlt⟩
theorem Nd.box {w : World} {p : Nat} {t : TypeId} {x : Nd} (h : Blk w p t #[.int .i64 x.op, .string x.name, .int .i64 x.value]) : w.cell? ⟨p, 0, none⟩ = some (.int .i64 x.op) ∧ w.cell? ⟨p, 1, none⟩ = some (.string x.name) ∧ w.cell? ⟨p, 2, none⟩ = some (.int .i64 x.value) ∧ (∀ i, w.frozen? ⟨p, i, none⟩ = false) ∧ p < w.heap.size :=
  ⟨h.cell 0, h.cell 1, h.cell 2, h.frozen, h.lt⟩
theorem RdNd.up {w w' : World} {n : Nat} {A : Option Addr} {xs : List Nd} (h : RdNd w w.heap.size A n xs) (hb : Below w.heap.size w w') : RdNd w' w'.heap.size A n xs := (h.below hb (Nat.le_refl _)).more hb.size
theorem RdNd.take {w : World} {B n m : Nat} {A : Option Addr} {zs : List Nd} (h : RdNd w B A n zs) (hm : m ≤ n) : RdNd w B A m (zs.take m) := by
  have hl := h.1
  refine ⟨by simp; omega, ⟨by rw [flat_len Nd.len]; simp; omega, fun h0 => ?_⟩⟩
  obtain ⟨b, off, e, hlt, hc⟩ := h.2.2 (by omega)
  refine ⟨b, off, e, hlt, fun j u hu => hc j u ?_⟩
  have hs : zs.flatMap Nd.cells = (zs.take m).flatMap Nd.cells ++ (zs.drop m).flatMap Nd.cells := by rw [← List.flatMap_append, List.take_append_drop]
  rw [hs, List.getElem?_append_left (List.getElem?_eq_some_iff.1 hu).1]
  exact hu
def Iv.cells (x : Iv) : List Value := [.string x.name, .int .i64 x.value]
def Iv.val (x : Iv) : Value := .agg #[.string x.name, .int .i64 x.value]
theorem Iv.len (x : Iv) : x.cells.length = 2 := rfl
def RdIv (w : World) (B : Nat) (A : Option Addr) (n : Nat) (xs : List Iv) : Prop := xs.length = n ∧ Rd w B 2 A n (xs.flatMap Iv.cells)
theorem RdIv.below {w w' : World} {B B' n : Nat} {A : Option Addr} {xs : List Iv} (h : RdIv w B A n xs) (hb : Below B' w w') (hB : B ≤ B') : RdIv w' B A n xs := ⟨h.1, h.2.below hb hB⟩
theorem RdIv.more {w : World} {B B' n : Nat} {A : Option Addr} {xs : List Iv} (h : RdIv w B A n xs) (hB : B ≤ B') : RdIv w B' A n xs := ⟨h.1, h.2.more hB⟩
theorem RdIv.at_ {w : World} {B n : Nat} {b off : Nat} {xs : List Iv} (h : RdIv w B (some ⟨b, off, none⟩) n xs) {i : Nat} {x : Iv} (hx : xs[i]? = some x) :
    w.cell? ⟨b, off + i * 2, none⟩ = some (.string x.name) ∧ w.cell? ⟨b, off + i * 2 + 1, none⟩ = some (.int .i64 x.value) := by
  have hl : i < xs.length := (List.getElem?_eq_some_iff.1 hx).1
  have h1 := h.1
  obtain ⟨b', off', e, _, hc⟩ := h.2.2 (by omega)
  injection e with e
  injection e with e1 e2
  subst e1; subst e2
  have key : ∀ k, k < 2 → ∀ u, x.cells[k]? = some u → w.cell? ⟨b, off + i * 2 + k, none⟩ = some u := fun k hk u hu => by
    have := hc (i * 2 + k) u (by rw [flat_at Iv.len xs i x hx k hk]; exact hu)
    rwa [← Nat.add_assoc] at this
  exact ⟨key 0 (by omega) _ rfl, key 1 (by omega) _ rfl⟩
theorem RdIv.form {w : World} {B n : Nat} {A : Option Addr} {xs : List Iv} (h : RdIv w B A n xs) (h0 : 0 < n) : ∃ b off, A = some ⟨b, off, none⟩ ∧ b < B := by
  obtain ⟨b, off, e, hlt, _⟩ := h.2.2 h0
  exact ⟨b, off, e, hlt⟩
theorem Iv.box {w : World} {p : Nat} {t : TypeId} {x : Iv} (h : Blk w p t #[.string x.name, .int .i64 x.value]) : w.cell? ⟨p, 0, none⟩ = some (.string x.name) ∧ w.cell? ⟨p, 1, none⟩ = some (.int .i64 x.value) ∧ (∀ i, w.frozen? ⟨p, i, none⟩ = false) ∧ p < w.heap.size :=
  ⟨h.cell 0, h.cell 1, h.frozen, h.lt⟩
theorem RdIv.up {w w' : World} {n : Nat} {A : Option Addr} {xs : List Iv} (h : RdIv w w.heap.size A n xs) (hb : Below w.heap.size w w') : RdIv w' w'.heap.size A n xs := (h.below hb (Nat.le_refl _)).more hb.size
theorem RdIv.take {w : World} {B n m : Nat} {A : Option Addr} {zs : List Iv} (h : RdIv w B A n zs) (hm : m ≤ n) : RdIv w B A m (zs.take m) := by
  have hl := h.1
  refine ⟨by simp; omega, ⟨by rw [flat_len Iv.len]; simp; omega, fun h0 => ?_⟩⟩
  obtain ⟨b, off, e, hlt, hc⟩ := h.2.2 (by omega)
  refine ⟨b, off, e, hlt, fun j u hu => hc j u ?_⟩
  have hs : zs.flatMap Iv.cells = (zs.take m).flatMap Iv.cells ++ (zs.drop m).flatMap Iv.cells := by rw [← List.flatMap_append, List.take_append_drop]
  rw [hs, List.getElem?_append_left (List.getElem?_eq_some_iff.1 hu).1]
  exact hu

/-- a rule and where its expression lies -/
structure Rh where
  r : Rl
  A : Option Addr
  n : Nat
  c : Nat
def Rh.cells (z : Rh) : List Value := [.string z.r.name, .slice z.A z.n z.c]
theorem Rh.len (x : Rh) : x.cells.length = 2 := rfl
structure RdRh (w : World) (B : Nat) (A : Option Addr) (n : Nat) (xs : List Rh) : Prop where
  len : xs.length = n
  rd : Rd w B 2 A n (xs.flatMap Rh.cells)
  zs : ∀ z ∈ xs, RdNd w B z.A z.n z.r.expr ∧ z.n ≤ 9223372036854775807
theorem RdRh.below {w w' : World} {B B' n : Nat} {A : Option Addr} {xs : List Rh} (h : RdRh w B A n xs) (hb : Below B' w w') (hB : B ≤ B') : RdRh w' B A n xs := ⟨h.len, h.rd.below hb hB, fun z hz => ⟨(h.zs z hz).1.below hb hB, (h.zs z hz).2⟩⟩
theorem RdRh.more {w : World} {B B' n : Nat} {A : Option Addr} {xs : List Rh} (h : RdRh w B A n xs) (hB : B ≤ B') : RdRh w B' A n xs := ⟨h.len, h.rd.more hB, fun z hz => ⟨(h.zs z hz).1.more hB, (h.zs z hz).2⟩⟩
theorem RdRh.up {w w' : World} {n : Nat} {A : Option Addr} {xs : List Rh} (h : RdRh w w.heap.size A n xs) (hb : Below w.heap.size w w') : RdRh w' w'.heap.size A n xs := (h.below hb (Nat.le_refl _)).more hb.size
theorem RdRh.form {w : World} {B n : Nat} {A : Option Addr} {xs : List Rh} (h : RdRh w B A n xs) (h0 : 0 < n) : ∃ b off, A = some ⟨b, off, none⟩ ∧ b < B := by
  obtain ⟨b, off, e, hlt, _⟩ := h.rd.2 h0
  exact ⟨b, off, e, hlt⟩
theorem RdRh.at_ {w : World} {B n : Nat} {b off : Nat} {xs : List Rh} (h : RdRh w B (some ⟨b, off, none⟩) n xs) {i : Nat} {x : Rh} (hx : xs[i]? = some x) :
    w.cell? ⟨b, off + i * 2, none⟩ = some (.string x.r.name) ∧ w.cell? ⟨b, off + i * 2 + 1, none⟩ = some (.slice x.A x.n x.c) := by
  have hl : i < xs.length := (List.getElem?_eq_some_iff.1 hx).1
  have h1 := h.len
  obtain ⟨b', off', e, _, hc⟩ := h.rd.2 (by omega)
  injection e with e
  injection e with e1 e2
  subst e1; subst e2
  have key : ∀ k, k < 2 → ∀ u, x.cells[k]? = some u → w.cell? ⟨b, off + i * 2 + k, none⟩ = some u := fun k hk u hu => by
    have := hc (i * 2 + k) u (by rw [flat_at Rh.len xs i x hx k hk]; exact hu)
    rwa [← Nat.add_assoc] at this
  exact ⟨key 0 (by omega) _ rfl, key 1 (by omega) _ rfl⟩
theorem RdRh.take {w : World} {B n m : Nat} {A : Option Addr} {zs : List Rh} (h : RdRh w B A n zs) (hm : m ≤ n) : RdRh w B A m (zs.take m) := by
  have hl := h.len
  refine ⟨by simp; omega, ⟨by rw [flat_len Rh.len]; simp; omega, fun h0 => ?_⟩, fun z hz => h.zs z (List.mem_of_mem_take hz)⟩
  obtain ⟨b, off, e, hlt, hc⟩ := h.rd.2 (by omega)
  refine ⟨b, off, e, hlt, fun j u hu => hc j u ?_⟩
  have hs : zs.flatMap Rh.cells = (zs.take m).flatMap Rh.cells ++ (zs.drop m).flatMap Rh.cells := by rw [← List.flatMap_append, List.take_append_drop]
  rw [hs, List.getElem?_append_left (List.getElem?_eq_some_iff.1 hu).1]
  exact hu
def Rh.val (z : Rh) : Value := .agg #[.string z.r.name, .slice z.A z.n z.c]
theorem Rh.box {w : World} {p : Nat} {t : TypeId} {x : Rh} (h : Blk w p t #[.string x.r.name, .slice x.A x.n x.c]) : w.cell? ⟨p, 0, none⟩ = some (.string x.r.name) ∧ w.cell? ⟨p, 1, none⟩ = some (.slice x.A x.n x.c) ∧ (∀ i, w.frozen? ⟨p, i, none⟩ = false) ∧ p < w.heap.size :=
  ⟨h.cell 0, h.cell 1, h.frozen, h.lt⟩
def rls (hs : List Rh) : List Rl := hs.map Rh.r
theorem ruleGo_idx : ∀ (hs : List Rh) (s : ByteArray) (k : Nat), ruleGo (rls hs) s k = idxGo (fun x => sEq x.r.name s) hs k
  | [], _, _ => rfl
  | x :: r, s, k => by
    show (if x.r.name = s then (k : Int) else ruleGo (rls r) s (k + 1)) = if sEq x.r.name s then (k : Int) else idxGo (fun x => sEq x.r.name s) r (k + 1)
    rw [ruleGo_idx r s (k + 1)]
    unfold sEq
    by_cases h : x.r.name = s <;> simp [h]
theorem ruleR_idx (hs : List Rh) (s : ByteArray) : ruleR (rls hs) s = idxGo (fun x => sEq x.r.name s) hs 0 := ruleGo_idx hs s 0

/-- blocks of X may have turned; nothing else that was there -/
structure Fr (X : Nat → Prop) (w w' : World) : Prop where
  os : w'.os = w.os
  tape : w'.tape = w.tape
  output : w'.output = w.output
  size : w.heap.size ≤ w'.heap.size
  block : ∀ k, k < w.heap.size → ¬ X k → w'.heap[k]? = w.heap[k]?
section
variable {X Y : Nat → Prop} {a b c w w' : World}
theorem Fr.refl (X : Nat → Prop) (w : World) : Fr X w w := ⟨rfl, rfl, rfl, Nat.le_refl _, fun _ _ _ => rfl⟩
theorem Fr.of (h : Below w.heap.size w w') : Fr X w w' := ⟨h.os, h.tape, h.output, h.size, fun k hk _ => h.block k hk⟩
theorem Fr.trans (h : Fr X a b) (k : Fr Y b c) (hxy : ∀ i, Y i → X i ∨ a.heap.size ≤ i) : Fr X a c :=
  ⟨k.os.trans h.os, k.tape.trans h.tape, k.output.trans h.output, Nat.le_trans h.size k.size, fun i hi hn => (k.block i (Nat.lt_of_lt_of_le hi h.size) (fun hy => (hxy i hy).elim hn (fun hz => by omega))).trans (h.block i hi hn)⟩
theorem Fr.trans_below (h : Fr X a b) (k : Below b.heap.size b c) : Fr X a c := h.trans (Fr.of k : Fr (fun _ => False) b c) (fun _ h => h.elim)
theorem Fr.mono (h : Fr X a b) (hxy : ∀ i, X i → Y i ∨ a.heap.size ≤ i) : Fr Y a b := ⟨h.os, h.tape, h.output, h.size, fun i hi hn => h.block i hi fun hx => (hxy i hx).elim hn (fun hz => by omega)⟩
theorem Fr.blk {g t : Nat} {cs : Array Value} (h : Fr X w w') (hb : Blk w g t cs) (hx : ¬ X g) : Blk w' g t cs := (h.block g hb.lt hx).trans hb
theorem Fr.below {B : Nat} (h : Fr X w w') (hB : B ≤ w.heap.size) (hx : ∀ i, X i → B ≤ i) : Below B w w' := ⟨h.os, h.tape, h.output, h.size, fun i hi => h.block i (by omega) fun hy => by have := hx i hy; omega⟩
theorem Fr.drewN (h : Fr X a b) (n : Nat) : Fr X a (b.drewN n) := ⟨h.os, h.tape, h.output, h.size, h.block⟩
theorem Fr.set_ {g i : Nat} {u : Value} (h : Fr X a b) (hg : X g ∨ a.heap.size ≤ g) : Fr X a (b.setCell ⟨g, i, none⟩ u) :=
  ⟨h.os, h.tape, h.output, by simpa [World.setCell] using h.size, fun k hk hn => (Below.heap_setCell b ⟨g, i, none⟩ u k (by
    rintro rfl
    rcases hg with hg | hg
    · exact hn hg
    · exact absurd hk (Nat.not_lt.2 hg))).trans (h.block k hk hn)⟩
theorem Fr.alloc (h : Fr X a b) (o : Obj) : Fr X a (b.alloc o) := h.trans_below ((Below.refl _ _).alloc (Nat.le_refl _) _)
theorem Fr.grown {v : Value} (h : w.grownBy w' v.ownBlock) (hx : ∀ k, v.ownBlock = some k → X k ∨ w.heap.size ≤ k) : Fr X w w' :=
  ⟨h.os, h.tape, h.output, h.size, fun k hk hn => h.block k hk fun e => (hx k e.symm).elim hn fun hz => by omega⟩
theorem Fr.grownB {b : Nat} (h : w.grownBy w' (some b)) (hx : X b) : Fr X w w' := ⟨h.os, h.tape, h.output, h.size, fun k hk hn => h.block k hk fun e => by injection e with e; subst e; exact hn hx⟩
/-- a row that is read stays, where what may have turned are maps and younger blocks -/
theorem Rd.fr {B size n : Nat} {A : Option Addr} {xs : List Value} (h : Rd w B size A n xs) (hf : Fr X w w') (hx : ∀ k, k < B → X k → ∃ es c, w.heap[k]? = some (.map es c)) : Rd w' B size A n xs :=
  ⟨h.1, fun hn => by
    obtain ⟨b, off, e, hlt, hc⟩ := h.2 hn
    refine ⟨b, off, e, hlt, fun j u hu => ?_⟩
    have h1 := hc j u hu
    have hb := World.block_lt_of_cell? w ⟨b, off + j, none⟩ h1
    refine (World.cell?_of_block (a := ⟨b, off + j, none⟩) (hf.block b hb fun hX => ?_)).trans h1
    obtain ⟨es, c, hm⟩ := hx b hlt hX
    unfold World.cell? at h1
    rw [hm] at h1
    cases h1⟩
theorem RdNd.fr {B n : Nat} {A : Option Addr} {xs : List Nd} (h : RdNd w B A n xs) (hf : Fr X w w') (hx : ∀ k, k < B → X k → ∃ es c, w.heap[k]? = some (.map es c)) : RdNd w' B A n xs := ⟨h.1, h.2.fr hf hx⟩
theorem RdIv.fr {B n : Nat} {A : Option Addr} {xs : List Iv} (h : RdIv w B A n xs) (hf : Fr X w w') (hx : ∀ k, k < B → X k → ∃ es c, w.heap[k]? = some (.map es c)) : RdIv w' B A n xs := ⟨h.1, h.2.fr hf hx⟩
theorem RdStr.fr {B n : Nat} {A : Option Addr} {xs : List ByteArray} (h : RdStr w B A n xs) (hf : Fr X w w') (hx : ∀ k, k < B → X k → ∃ es c, w.heap[k]? = some (.map es c)) : RdStr w' B A n xs := ⟨h.1, h.2.fr hf hx⟩
theorem RdI.fr {B n : Nat} {A : Option Addr} {xs : List Int} (h : RdI w B A n xs) (hf : Fr X w w') (hx : ∀ k, k < B → X k → ∃ es c, w.heap[k]? = some (.map es c)) : RdI w' B A n xs := Rd.fr h hf hx
theorem RdRh.fr {B n : Nat} {A : Option Addr} {xs : List Rh} (h : RdRh w B A n xs) (hf : Fr X w w') (hx : ∀ k, k < B → X k → ∃ es c, w.heap[k]? = some (.map es c)) : RdRh w' B A n xs := ⟨h.len, h.rd.fr hf hx, fun z hz => ⟨(h.zs z hz).1.fr hf hx, (h.zs z hz).2⟩⟩
end
theorem RdStr.up {w w' : World} {n : Nat} {A : Option Addr} {xs : List ByteArray} (h : RdStr w w.heap.size A n xs) (hb : Below w.heap.size w w') : RdStr w' w'.heap.size A n xs := (h.below hb (Nat.le_refl _)).more hb.size
theorem RdI.up {w w' : World} {n : Nat} {A : Option Addr} {xs : List Int} (h : RdI w w.heap.size A n xs) (hb : Below w.heap.size w w') : RdI w' w'.heap.size A n xs := (h.below hb (Nat.le_refl _)).more hb.size
end Go.Proofs.YtaanoljfhnfjoaaGreatDoor
