/- settings.Pairs: the closures, and what the pairs are. -/
import Derived.Test.YthedpegaelpbdaaE3
import Derived.Test.YthedpegaelpbdaaT3
namespace Go.Proofs.Ythedpegaelpbdaa
open Go.ChangeShapes Go.WideShapes Go.ChangeAt Go.RowKit Go.Joins Go.Deep
set_option linter.unusedVariables false
attribute [local go_sem ↓] execOp_call_val
attribute [local go_sem] callVal_func setCell_drewN alloc_drewN sEq_walk NetH.cells

theorem blkSetN9 {w : World} {p t : Nat} {v0 v1 v2 v3 v4 v5 v6 v7 v8 x0 x1 x2 x3 x4 x5 x6 x7 x8 : Value} (h : Blk w p t #[x0, x1, x2, x3, x4, x5, x6, x7, x8]) : Blk (((((((((w.setCell ⟨p, 0, none⟩ v0).setCell ⟨p, 1, none⟩ v1).setCell ⟨p, 2, none⟩ v2).setCell ⟨p, 3, none⟩ v3).setCell ⟨p, 4, none⟩ v4).setCell ⟨p, 5, none⟩ v5).setCell ⟨p, 6, none⟩ v6).setCell ⟨p, 7, none⟩ v7).setCell ⟨p, 8, none⟩ v8) p t #[v0, v1, v2, v3, v4, v5, v6, v7, v8] := by
  have h0 : Blk _ p t #[v0, x1, x2, x3, x4, x5, x6, x7, x8] := h.set_at (i := 0) v0 (by simp)
  have h1 : Blk _ p t #[v0, v1, x2, x3, x4, x5, x6, x7, x8] := h0.set_at (i := 1) v1 (by simp)
  have h2 : Blk _ p t #[v0, v1, v2, x3, x4, x5, x6, x7, x8] := h1.set_at (i := 2) v2 (by simp)
  have h3 : Blk _ p t #[v0, v1, v2, v3, x4, x5, x6, x7, x8] := h2.set_at (i := 3) v3 (by simp)
  have h4 : Blk _ p t #[v0, v1, v2, v3, v4, x5, x6, x7, x8] := h3.set_at (i := 4) v4 (by simp)
  have h5 : Blk _ p t #[v0, v1, v2, v3, v4, v5, x6, x7, x8] := h4.set_at (i := 5) v5 (by simp)
  have h6 : Blk _ p t #[v0, v1, v2, v3, v4, v5, v6, x7, x8] := h5.set_at (i := 6) v6 (by simp)
  have h7 : Blk _ p t #[v0, v1, v2, v3, v4, v5, v6, v7, x8] := h6.set_at (i := 7) v7 (by simp)
  exact h7.set_at (i := 8) v8 (by simp)
theorem blk_far9 {w : World} {g p t : Nat} {v0 v1 v2 v3 v4 v5 v6 v7 v8 : Value} {cs : Array Value} (h : Blk w g t cs) (hne : g ≠ p) : Blk (((((((((w.setCell ⟨p, 0, none⟩ v0).setCell ⟨p, 1, none⟩ v1).setCell ⟨p, 2, none⟩ v2).setCell ⟨p, 3, none⟩ v3).setCell ⟨p, 4, none⟩ v4).setCell ⟨p, 5, none⟩ v5).setCell ⟨p, 6, none⟩ v6).setCell ⟨p, 7, none⟩ v7).setCell ⟨p, 8, none⟩ v8) g t cs :=
  ((((((((h.far hne v0).far hne v1).far hne v2).far hne v3).far hne v4).far hne v5).far hne v6).far hne v7).far hne v8
theorem blkSet9e {w : World} {p g t : Nat} {v0 v1 v2 v3 v4 v5 v6 v7 v8 : Value} (he : p = g) (h : Blk w g t #[.string ⟨#[]⟩, .string ⟨#[]⟩, .string ⟨#[]⟩, .int .i64 0, .int .i64 0, .int .i64 0, .int .i64 0, .int .i64 0, .int .i64 0]) : Blk (((((((((w.setCell ⟨p, 0, none⟩ v0).setCell ⟨p, 1, none⟩ v1).setCell ⟨p, 2, none⟩ v2).setCell ⟨p, 3, none⟩ v3).setCell ⟨p, 4, none⟩ v4).setCell ⟨p, 5, none⟩ v5).setCell ⟨p, 6, none⟩ v6).setCell ⟨p, 7, none⟩ v7).setCell ⟨p, 8, none⟩ v8) g t #[v0, v1, v2, v3, v4, v5, v6, v7, v8] := by
  subst he; exact blkSetN9 h
/-- two may come up -/
theorem stepHH {P : Program} {md : Region.Mode} {Q : Exit → Act → World → Prop} {L : List Oper} {S : World → Prop} (i j : Nat) {o o' : Oper} {fuel : Nat} {listed : Array Bool} {a : Act} {w : World} (hr : Region.ready md L.toArray listed = [i, j]) (ho : L[i]? = some o) (ho' : L[j]? = some o')
    (h : ∀ K' : Act → World → Prop, Shut (∀ a w, S w → (S w → wpAnyH P md L.toArray Q S fuel (listed.setIfInBounds i true) a w) → K' a w) → if Region.wanted o (yielded L.toArray a.tmps) = true then Oper.wp P o a w K' Q else K' (a.put o.dst undef) w)
    (h' : ∀ K' : Act → World → Prop, Shut (∀ a w, S w → (S w → wpAnyH P md L.toArray Q S fuel (listed.setIfInBounds j true) a w) → K' a w) → if Region.wanted o' (yielded L.toArray a.tmps) = true then Oper.wp P o' a w K' Q else K' (a.put o'.dst undef) w) : wpAnyH P md L.toArray Q S (fuel + 1) listed a w :=
  wpAnyH_ready hr (by simp) (AllReadyH.cons (by rw [List.getElem?_toArray]; exact ho) h (AllReadyH.cons (by rw [List.getElem?_toArray]; exact ho') h' AllReadyH.nil))
theorem pclo_any (x : Br) (y : ByteArray) (g : Nat) (w : World) (hg : w.cell? ⟨g, 1, none⟩ = some (.string y)) :
    Calls Try.prog 71 (#[.agg #[.string x.name, .string x.fr, .string x.to, .int .i64 x.x, .int .i64 x.tap, .int .i64 x.shift, .int .i64 x.limit, .int .i64 x.short, .int .i64 x.hold]] ++ #[.pointer (some ⟨g, 0, none⟩)]) w fun e w' => e = .returned (.bool (sEq x.name y)) ∧ Below w.heap.size w w' := by
  have hlt := World.block_lt_of_cell? w ⟨g, 1, none⟩ hg
  show Calls Try.prog 71 #[.agg #[.string x.name, .string x.fr, .string x.to, .int .i64 x.x, .int .i64 x.tap, .int .i64 x.shift, .int .i64 x.limit, .int .i64 x.short, .int .i64 x.hold], .pointer (some ⟨g, 0, none⟩)] w _
  go_enter Try.func71, Try.ntmps71
  go_wp2_with fail
  go_ret
  exact ⟨rfl, (Below.refl _ _).alloc (Nat.le_refl _) _⟩
theorem enter_pclo (args : Array Value) (w : World) : (callFunc 71 args).run Try.prog w = .ok (.enter 71 args) w :=
  callFunc_enter Try.func71 (by kernel_rfl) rfl args w
set_option maxHeartbeats 1000000 in
theorem pat_any (x : Net) (ok : NetOk x) (A0 : Option Addr) (n0 c0 q bb gb : Nat) (s : ByteArray) (w : World) (hs : s ∈ x.nodes) (hn0 : x.nodes.length = n0) (hR : RdStr w w.heap.size A0 n0 x.nodes) (hq0 : w.cell? ⟨q, 0, none⟩ = some (.slice A0 n0 c0))
    (hb0 : w.cell? ⟨bb, 0, none⟩ = some (.slice (some ⟨gb, 0, none⟩) n0 n0)) (hgb : Blk w gb 3 (ints (busR x)).toArray) :
    Calls Try.prog 68 #[.string s, .pointer (some ⟨bb, 0, none⟩), .pointer (some ⟨q, 0, none⟩)] w fun e w' => e = .returned (.int .i64 (busAt x s)) ∧ Below w.heap.size w w' := by
  have HR := Lib.hid hR
  have HS := Lib.hid hs
  have hg0 : w.cell? ⟨gb, ndIdx x.nodes s, none⟩ = some (.int .i64 (busAt x s)) := by rw [← (busAt_ok ok hs).1]; exact set_get hgb (busAt_ok ok hs).2.2
  have hi : ndIdx x.nodes s < n0 := by have := (busAt_ok ok hs).2.2; have := (busR_ok ok).1; omega
  have hn : n0 ≤ 9223372036854775807 := by have := ok.l0; omega
  have hiI : (ndIdx x.nodes s : Int) < (n0 : Int) := by omega
  have hblt := World.block_lt_of_cell? w ⟨bb, 0, none⟩ hb0
  have hqlt := World.block_lt_of_cell? w ⟨q, 0, none⟩ hq0
  have hglt := World.block_lt_of_cell? w ⟨gb, ndIdx x.nodes s, none⟩ hg0
  clear hR hs hgb hn0
  go_enter Try.func68, Try.ntmps68
  go_wp2_with fail
  refine wp_region_last (S := fun w' => w'.cell? ⟨bb, 0, none⟩ = some (.slice (some ⟨gb, 0, none⟩) n0 n0) ∧ w'.cell? ⟨q, 0, none⟩ = some (.slice A0 n0 c0) ∧ w'.cell? ⟨gb, ndIdx x.nodes s, none⟩ = some (.int .i64 (busAt x s))) 7 _ (by kernel_rfl) (by kernel_rfl) rfl ⟨hb0, hq0, hg0⟩ (fun hHeld => ?_)
  simp only [List.take_succ_cons, List.take_zero]
  refine takeH 0 (v := ?_) rfl (by kernel_rfl) (fun _ _ _ h => h) (by rfl) ?_ hHeld ?_
  rotate_left 1
  · intro w' hSw; (try dsimp only at hSw); go_simp <;> with_reducible rfl
  try simp only [Act.put, List.setIfInBounds_toArray, List.set_cons_zero, List.set_cons_succ]
  refine takeH 1 (v := ?_) rfl (by kernel_rfl) (fun _ _ _ h => h) (by rfl) ?_ hHeld ?_
  rotate_left 1
  · intro w' hSw; (try dsimp only at hSw); go_simp <;> with_reducible rfl
  try simp only [Act.put, List.setIfInBounds_toArray, List.set_cons_zero, List.set_cons_succ]
  refine takeH 2 (v := ?_) rfl (by kernel_rfl) (fun _ _ _ h => h) (by rfl) ?_ hHeld ?_
  rotate_left 1
  · intro w' hSw; (try dsimp only at hSw); go_simp <;> with_reducible rfl
  try simp only [Act.put, List.setIfInBounds_toArray, List.set_cons_zero, List.set_cons_succ]
  refine takeH 3 (v := ?_) rfl (by kernel_rfl) (fun _ _ _ h => h) (by rfl) ?_ hHeld ?_
  rotate_left 1
  · intro w' hSw; (try dsimp only at hSw); go_simp <;> with_reducible rfl
  try simp only [Act.put, List.setIfInBounds_toArray, List.set_cons_zero, List.set_cons_succ]
  refine stepH 4 (by kernel_rfl) rfl (fun K hK => ?_)
  go_simp
  refine (index_str A0 n0 c0 x.nodes s w.drew HR.out hn).mono ?_
  rw [nodeIx HS.out]
  rintro e w' ⟨rfl, rfl⟩
  go_simp
  refine hK.out _ _ ?_ (fun hHeld => ?_)
  · exact hHeld
  clear hK K
  try simp only [Act.put, List.setIfInBounds_toArray, List.set_cons_zero, List.set_cons_succ]
  refine takeH 5 (v := ?_) rfl (by kernel_rfl) (fun _ _ _ h => h) (by rfl) ?_ hHeld ?_
  rotate_left 1
  · intro w' hSw; (try dsimp only at hSw); go_simp <;> with_reducible rfl
  try simp only [Act.put, List.setIfInBounds_toArray, List.set_cons_zero, List.set_cons_succ]
  refine takeH 6 (v := ?_) rfl (by kernel_rfl) (fun _ _ _ h => h) (by rfl) ?_ hHeld ?_
  rotate_left 1
  · intro w' hSw; (try dsimp only at hSw); go_simp <;> with_reducible rfl
  try simp only [Act.put, List.setIfInBounds_toArray, List.set_cons_zero, List.set_cons_succ]
  refine wpAnyH_done (by kernel_rfl) ?_ _
  refine lastQ_go (by rfl) ?_

  go_simp
  go_wp2_with fail
  go_ret
  exact ⟨rfl, below_drew (Below.refl _ _)⟩

/-- the node at the other end of a relay's branch -/
def othR (x : Net) (y : Cr) : ByteArray := match x.brs[(cbraR x y).toNat]? with
  | some b => if sEq y.node b.fr = true then b.to else b.fr
  | none => y.node
def prB (x : Net) (a b : Cr) : Bool := !sEq a.branch b.branch && decide ((busAt x (othR x b) : Int) = busAt x a.node)
def pr1 (x : Net) (r : List Cr) (i k : Nat) : List (Nat × Nat) := match r[i]?, r[k]? with
  | some a, some b => if prB x a b = true then [(i, k)] else []
  | _, _ => []
def prRow (x : Net) (r : List Cr) (i m : Nat) : List (Nat × Nat) := (List.range m).flatMap (pr1 x r i)
def prAll (x : Net) (r : List Cr) (m : Nat) : List (Nat × Nat) := (List.range m).flatMap fun i => prRow x r i r.length
theorem pr1_len (x : Net) (r : List Cr) (i k : Nat) : (pr1 x r i k).length ≤ 1 := by unfold pr1; split <;> (try split) <;> simp
theorem prRow_len (x : Net) (r : List Cr) (i m : Nat) : (prRow x r i m).length ≤ m := by
  have := lenFM (pr1 x r i) 1 (pr1_len x r i) (List.range m)
  rw [List.length_range] at this
  unfold prRow; omega
theorem prRow_succ (x : Net) (r : List Cr) (i m : Nat) : prRow x r i (m + 1) = prRow x r i m ++ pr1 x r i m := by
  unfold prRow; rw [List.range_succ, List.flatMap_append]; simp
theorem prAll_succ (x : Net) (r : List Cr) (m : Nat) : prAll x r (m + 1) = prAll x r m ++ prRow x r m r.length := by
  unfold prAll; rw [List.range_succ, List.flatMap_append]; simp
theorem prAll_len (x : Net) (r : List Cr) (m : Nat) : (prAll x r m).length ≤ r.length * m := by
  have := lenFM (fun i => prRow x r i r.length) r.length (fun i => prRow_len x r i r.length) (List.range m)
  rw [List.length_range] at this
  exact this
/-- what is known of a relay that clear.Check lets pass -/
theorem crR_ok {x : Net} {z : Cr} (h : crR x z = 0) : ∃ (j : Nat) (b : Br), cbraR x z = (j : Int) ∧ x.brs[j]? = some b ∧ b.name = z.branch ∧ (z.node = b.fr ∨ z.node = b.to) ∧ ckC z.curve = 0 ∧ ¬ (z.pick < 1 ∨ 1000000 < z.pick) := by
  unfold crR at h
  split at h
  · omega
  · rename_i h1
    split at h
    · omega
    · rename_i h2
      split at h
      · rename_i h3; exact absurd h h3
      · rename_i h3
        split at h
        · omega
        · rename_i h4
          rcases cbra_spec x z with h5 | ⟨j, b, h5, h6, h7⟩
          · omega
          · rcases cbrk_spec x z with h8 | ⟨i, s, h8, h9, _⟩
            · omega
            · refine ⟨j, b, h5, h6, h7, ?_, Decidable.not_not.1 h3, by omega⟩
              unfold crForm at h2
              rw [h5, h8, Int.toNat_natCast, Int.toNat_natCast, h6, h9] at h2
              simp only [Bool.or_eq_true, Bool.and_eq_true, Bool.not_eq_true', not_or] at h2
              have h10 := h2.2
              cases h11 : sEq z.node b.fr with
              | true => exact .inl (sEq_iff.1 h11)
              | false => 
                cases h12 : sEq z.node b.to with
                | true => exact .inr (sEq_iff.1 h12)
                | false => exact absurd ⟨h11, h12⟩ h10
theorem crGo_all {x : Net} : ∀ {l : List Cr}, crGo x l = 0 → ∀ z ∈ l, crR x z = 0
  | [], _, _, hz => by cases hz
  | y :: t, h, z, hz => by
    unfold crGo at h
    split at h
    · rename_i h0; exact absurd h h0
    · rename_i h0
      rcases List.mem_cons.1 hz with rfl | hz
      · exact Decidable.not_not.1 h0
      · exact crGo_all h z hz
theorem cck_ok {x : Net} {l : List Fs} {r : List Cr} (h : cckR x l r = 0) : fckR x l = 0 ∧ r.length ≤ 24 ∧ ∀ z ∈ r, crR x z = 0 := by
  unfold cckR at h
  split at h
  · rename_i h0; exact absurd h h0
  · rename_i h0
    split at h
    · omega
    · exact ⟨Decidable.not_not.1 h0, by omega, crGo_all h⟩
theorem fck_net {x : Net} {l : List Fs} (h : fckR x l = 0) : netCk x = 0 := by
  unfold fckR at h
  split at h
  · rename_i h0; exact absurd h h0
  · rename_i h0; exact Decidable.not_not.1 h0
end Go.Proofs.Ythedpegaelpbdaa
