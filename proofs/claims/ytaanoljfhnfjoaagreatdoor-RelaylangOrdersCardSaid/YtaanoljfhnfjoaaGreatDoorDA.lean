/- Rows of strings: sorted, and without repetitions. -/
import Derived.Test.YtaanoljfhnfjoaaGreatDoorD9
import Derived.Maps.AppendAt
import Derived.Sort.Grow
import Derived.Sort.EncStr
import Derived.Lib.SlicesCompact
namespace Go.Proofs.YtaanoljfhnfjoaaGreatDoor
open Go.ChangeShapes Go.WideShapes Go.ChangeAt Go.RowKit
set_option linter.unusedVariables false
set_option linter.unusedSimpArgs false
attribute [local go_sem ↓] execOp_call_val
attribute [local go_sem] callVal_func setCell_drewN alloc_drewN sEq_walk


open Go.Sort
section
variable {P : Program}
/-- an append of a literal of one element to a row that is owned, and where the row lies then -/
theorem wpList_app1a {ops : Array Oper} {rest : List Oper} {o : Oper} {a : Act} {Q : Exit → Act → World → Prop} {w : World} {lit : Array Value} {T : TypeId} (hgd : o.guard = none) (s x : Operand) (t : TypeId)
    (ho : o.op = .call { callee := .builtin .append, args := #[s, x], argTypes := #[t, t] })
    (base : Nat) (e : TypeId) (i : TypeInfo) (z : Value) (size bytes : Nat) (ht : P.underlying t = some (.slice e)) (hi : P.info? e = some i) (hz : i.zero = some z)
    (hsize : i.size = size) (hby : i.bytes = bytes) (hzs : z.cells.size = size) (hsz : 0 < size)
    (v : Value) (n : Nat) (xs : List Value) (hs : a.eval s = v) (hown : w.ownsRow base e size v n xs)
    (hx : a.eval x = .slice (some ⟨w.heap.size, 0, none⟩) 1 1) (hl : lit.size = size) (h1 : ∀ u ∈ lit.toList, u.oneCell' = true)
    (h63 : n + 1 ≤ maxLen) (hbytes : (n + 1) * bytes ≤ 140737488355328) (hbase : base ≤ w.heap.size)
    (h : ∀ v' w', w'.ownsRow base e size v' (n + 1) (xs ++ lit.toList) → Below base w w' → w.grownBy w' v.ownBlock → (∀ k, v'.ownBlock = some k → v.ownBlock = some k ∨ w.heap.size ≤ k) → wpList P ops Q rest (a.put o.dst v') w') :
    wpList P ops Q (o :: rest) a (w.alloc (.cells lit T)) := by
  refine wpList_append_own_at _ hgd s x t ho base e i z size bytes ht hi hz hsize hby hzs hsz v n xs hs (hown.alloc _) ⟨w.heap.size, 0, none⟩ 1 1 lit.toList hx (by rw [Array.length_toList, hl, Nat.one_mul]) (fun j u hu => ?_) h1 h63 hbytes (Nat.le_trans hbase (by simp)) fun v' w' h2 h3 _ h5 => ?_
  · rw [Addr.add_lit, Nat.zero_add, (Blk.new w T lit).cell j]
    simpa using hu
  · have h0 : w.grownBy (w.alloc (.cells lit T)) v.ownBlock := only_of_below ((Below.refl _ _).alloc (Nat.le_refl _) _) _
    refine h v' w' h2 (((Below.refl base w).alloc hbase (.cells lit T)).grown h3 (Nat.le_trans hbase (by simp)) fun k hk => (hown.lt k hk).1) ⟨h3.os.trans h0.os, h3.tape.trans h0.tape, h3.output.trans h0.output, Nat.le_trans h0.size h3.size, fun k hk hn => (h3.block k (Nat.lt_of_lt_of_le hk h0.size) hn).trans (h0.block k hk hn)⟩ fun k hk => ?_
    rcases h5 with h5 | h5
    · exact .inl (h5 ▸ hk)
    · right
      rw [h5] at hk
      injection hk with hk
      simp at hk
      omega
end
theorem own_apart {w w' : World} {base e size n : Nat} {v v' : Value} {xs : List Value} (h : w.ownsRow base e size v n xs) (hg : w.grownBy w' v'.ownBlock) (hne : ∀ k, v'.ownBlock = some k → v.ownBlock ≠ some k) : w'.ownsRow base e size v n xs := by
  refine h.kept hg ?_
  rcases Option.eq_none_or_eq_some v.ownBlock with hc | ⟨gg, hc⟩
  · exact .inl hc
  · right
    intro e
    exact hne gg (e ▸ hc) hc
def bys (s : ByteArray) : List UInt8 := s.data.toList
theorem enc_bys (s : ByteArray) : encStr (bys s) = .string s := rfl
def mkS (l : List UInt8) : ByteArray := ⟨l.toArray⟩
theorem mkS_bys (s : ByteArray) : mkS (bys s) = s := rfl
theorem map_enc (l : List (List UInt8)) : l.map encStr = strsV (l.map mkS) := by unfold strsV; rw [List.map_map]; rfl
/-- sorted, and without repetitions -/
def srtS (l : List ByteArray) : List ByteArray := ((l.map bys).mergeSort fun x y => decide (x ≤ y)).map mkS
def cmpS (l : List ByteArray) : List ByteArray := (Lib.compact (l.map bys)).map mkS
theorem srtS_len (l : List ByteArray) : (srtS l).length = l.length := by unfold srtS; rw [List.length_map, List.length_mergeSort, List.length_map]
theorem cmpS_len (l : List ByteArray) : (cmpS l).length ≤ l.length := by
  unfold cmpS Lib.compact Lib.compactUpTo
  rw [List.length_map, List.length_map]
  refine Nat.le_trans (List.length_filter_le _ _) ?_
  rw [List.length_range, List.length_map]; exact Nat.le_refl _
theorem holdsS {w : World} {base e n cap g : Nat} {l : List ByteArray} (h : w.ownsRow base e 1 (.slice (some ⟨g, 0, none⟩) n cap) n (strsV l)) (h0 : 0 < n) : Holds encStr w g 0 (l.map bys).toArray := by
  intro j hj
  have hjl : j < l.length := by simpa using hj
  have hn : l.length = n := by have := h.1; simpa [strsV] using this
  rw [Nat.zero_add]
  refine ⟨?_, ?_⟩
  · rw [h.cellAt j (by omega)]
    rw [getElem!_pos (l.map bys).toArray j hj]
    unfold strsV
    rw [List.getElem?_map, List.getElem?_eq_getElem hjl]
    simp [enc_bys]
  · rcases h.2 with ⟨h1, _⟩ | ⟨g', cap', cur, h1, h2, h3, _⟩
    · cases h1
    · injection h1 with e1 _ _
      injection e1 with e1
      injection e1 with e1 _
      subst e1
      exact Blk.frozen h3 j
theorem heap_putRow_at {w : World} {g e : Nat} {cur : Array Value} (h : Blk w g e cur) (d : Array (List UInt8)) (q : Nat) : Blk (putRow encStr (Sort.ahead w q) g 0 d) g e (putCells encStr 0 d cur) := by
  unfold Blk putRow mapBlock
  simp only [Array.getElem?_modify, Sort.ahead]
  unfold Blk at h
  rw [if_pos trivial, h]
  rfl
theorem heap_putRow_off (w : World) (g : Nat) (d : Array (List UInt8)) (q k : Nat) (hk : k ≠ g) : (putRow encStr (Sort.ahead w q) g 0 d).heap[k]? = w.heap[k]? := by
  unfold putRow mapBlock
  simp only [Array.getElem?_modify, Sort.ahead]
  rw [if_neg (fun e => hk e.symm)]
theorem grown_putRow (w : World) (g : Nat) (d : Array (List UInt8)) (q : Nat) (os : Array Obj) : w.grownBy (grow (putRow encStr (Sort.ahead w q) g 0 d) os) (some g) :=
  ⟨rfl, rfl, rfl, by simp [grow, Sort.ahead], fun k hk hn => (heap_grow_old _ os (by simpa [Sort.ahead] using hk)).trans (heap_putRow_off w g d q k (fun e => hn (by rw [e])))⟩
theorem own_putRow {w : World} {base e n cap g : Nat} {xs : List Value} (h : w.ownsRow base e 1 (.slice (some ⟨g, 0, none⟩) n cap) n xs) (d : List (List UInt8)) (m q : Nat) (os : Array Obj) (hm : m ≤ d.length) (hd : d.length ≤ n) :
    (grow (putRow encStr (Sort.ahead w q) g 0 d.toArray) os).ownsRow base e 1 (.slice (some ⟨g, 0, none⟩) m cap) m ((d.take m).map encStr) := by
  rcases h.2 with ⟨h1, _⟩ | ⟨g', cap', cur, h1, h2, h3, h4, h5, h6, h7⟩
  · cases h1
  · injection h1 with e1 e2 e3
    injection e1 with e1
    injection e1 with e1 _
    subst e1; subst e3
    have hb : Blk w g e cur := h3
    refine ⟨by simp; omega, .inr ⟨g, cap, putCells encStr 0 d.toArray cur, rfl, h2, ?_, by omega, h5, by simp [putCells]; omega, ?_⟩⟩
    · exact (heap_grow_old _ os (by simpa [Sort.ahead] using hb.lt)).trans (heap_putRow_at hb d.toArray q)
    · apply List.ext_getElem?
      intro j
      rw [List.getElem?_map, List.getElem?_take, List.getElem?_take]
      by_cases hj : j < m
      · rw [if_pos (by omega), if_pos hj, Array.getElem?_toList]
        unfold putCells
        have hjc : j < cur.size := by omega
        rw [Array.getElem?_mapIdx, Array.getElem?_eq_getElem hjc, List.getElem?_eq_getElem (by omega)]
        have hjd : j < d.toArray.size := by simp; omega
        simp only [Option.map_some, Nat.zero_le, Nat.zero_add, true_and, Nat.sub_zero]
        rw [if_pos hjd, getElem!_pos d.toArray j hjd]
        simp
      · rw [if_neg (by omega), if_neg hj]; rfl
end Go.Proofs.YtaanoljfhnfjoaaGreatDoor
