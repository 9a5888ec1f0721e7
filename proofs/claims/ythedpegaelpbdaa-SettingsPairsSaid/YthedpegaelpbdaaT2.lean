/- graph.Components, station.Buses: the walks. -/
import Derived.Test.YthedpegaelpbdaaT1
import Derived.Test.YthedpegaelpbdaaN6
import Derived.Test.YthedpegaelpbdaaRL2
import Derived.Deep.AppendLies
namespace Go.Proofs.Ythedpegaelpbdaa
open Go.ChangeShapes Go.WideShapes Go.ChangeAt Go.RowKit
set_option linter.unusedVariables false
set_option linter.unusedSimpArgs false
attribute [local go_sem ↓] execOp_call_val
attribute [local go_sem] callVal_func setCell_drewN alloc_drewN sEq_walk NetH.cells

set_option maxHeartbeats 1000000 in
theorem gcheck_ok (A : Option Addr) (c n : Nat) (es : List (Nat × Nat)) (w : World) (hE : RdE w w.heap.size A es.length es) (ok : ∀ x ∈ es, x.1 < n ∧ x.2 < n) (hn : n ≤ 24) (he : es.length ≤ 64) :
    Calls Try.prog 125 #[.int .i64 n, .slice A es.length c] w fun e w' => e = .returned (.int .i64 0) ∧ Below w.heap.size w w' := by
  have HE := Lib.hid hE
  have HOK := Lib.hid ok
  have HB0 := Lib.hid (Below.refl w.heap.size w)
  clear hE ok
  go_enter Try.func125, Try.ntmps125
  go_wp2_with fail
  go_loopw [20] (fun v wr => ∃ k : Nat, k ≤ es.length ∧ v = .int .i64 k ∧ Below w.heap.size w wr) (fun v _ => es.length - (intOf v).toNat)
  case atStart => exact ⟨0, by omega, rfl, HB0.out⟩
  case round =>
    clear HB0
    obtain ⟨k, hk, rfl, hb⟩ := hrel
    have HB := Lib.hid hb
    clear hb
    by_cases hlt : k < es.length
    · obtain ⟨⟨xa, xb⟩, hx⟩ : ∃ x, es[k]? = some x := ⟨_, List.getElem?_eq_getElem hlt⟩
      have hE := (HE.out.below HB.out (Nat.le_refl _)).more HB.out.size
      obtain ⟨eb, eo, heA, heb⟩ := hE.form (by omega)
      subst heA
      obtain ⟨e0, e1⟩ := hE.at_ hx
      dsimp only at e0 e1
      obtain ⟨hxa, hxb⟩ := HOK.out _ (List.mem_of_getElem? hx)
      dsimp only at hxa hxb
      have hkI : (k : Int) < (es.length : Int) := by omega
      have hI1 : (xa : Int) < (n : Int) := by omega
      have hI2 : (xb : Int) < (n : Int) := by omega
      have HBA := Lib.hid (HB.out.alloc HB.out.size (.cells #[.int .i64 xa, .int .i64 xb] 83))
      clear hE hx
      go_wp2_with fail
      go_roundw
      case rel => exact ⟨k + 1, by omega, by go_num, HBA.out⟩
      case measure => simp [intOf]; omega
    · have hkk : k = es.length := by omega
      subst hkk
      go_wp2_with fail
      go_ret
      exact ⟨rfl, HB.out⟩
/-- what Components answers -/
def CompP (n : Nat) (es : List (Nat × Nat)) (w : World) (e : Ending) (w' : World) : Prop :=
  Below w.heap.size w w' ∧ ∃ g : Nat, e = .returned (.tuple #[.slice (some ⟨g, 0, none⟩) n n, .int .i64 0]) ∧ w.heap.size ≤ g ∧ Blk w' g 3 (ints (partsR n es)).toArray
theorem compP_of (n : Nat) (es : List (Nat × Nat)) (w : World) (e : Ending) (w' : World) (h : Below w.heap.size w w' ∧ ∃ g : Nat, e = .returned (.tuple #[.slice (some ⟨g, 0, none⟩) n n, .int .i64 0]) ∧ w.heap.size ≤ g ∧ Blk w' g 3 (ints (partsR n es)).toArray) : CompP n es w e w' := h
theorem comp_any (A : Option Addr) (c n : Nat) (es : List (Nat × Nat)) (w : World) (hE : RdE w w.heap.size A es.length es) (ok : ∀ x ∈ es, x.1 < n ∧ x.2 < n) (hn : n ≤ 24) (he : es.length ≤ 64) :
    Calls Try.prog 98 #[.int .i64 n, .slice A es.length c] w (CompP n es w) := by
  have HE := Lib.hid hE
  have HOK := Lib.hid ok
  have HP := Lib.hid (compP_of n es w)
  clear hE ok
  go_enter Try.func98, Try.ntmps98
  go_wp2_with fail
  refine (gcheck_ok A c n es w HE.out HOK.out hn he).mono ?_
  rintro e w1 ⟨rfl, hb⟩
  have HB := Lib.hid hb
  clear hb
  go_wp2_with fail
  refine (parts_any A c n es w1 ((HE.out.below HB.out (Nat.le_refl _)).more HB.out.size) HOK.out (by omega) (by omega)).mono ?_
  rintro e w2 ⟨hb2, g, rfl, hg, hblk⟩
  have HB2 := Lib.hid (HB.out.trans (hb2.mono HB.out.size))
  have HG := Lib.hid hg
  have HBL := Lib.hid hblk
  clear hb2 hg hblk
  go_wp2_with fail
  go_ret2
  exact HP.out _ _ ⟨HB2.out, g, rfl, Nat.le_trans HB.out.size HG.out, HBL.out⟩

/-! ### the edges of switches -/
def swE1 (nodes : List ByteArray) (op : Bool) (s : Sw) : List (Nat × Nat) := if s.opn = op then [(ndIdx nodes s.a, ndIdx nodes s.b)] else []
def swE (x : Net) (op : Bool) : List (Nat × Nat) := x.sws.flatMap (swE1 x.nodes op)
theorem takeFM {α β : Type} (f : α → List β) {l : List α} {k : Nat} {x : α} (h : l[k]? = some x) : (l.take (k + 1)).flatMap f = (l.take k).flatMap f ++ f x := by
  rw [List.take_add_one, h, List.flatMap_append]; simp
theorem lenFM {α β : Type} (f : α → List β) (m : Nat) (h : ∀ a, (f a).length ≤ m) : ∀ l : List α, (l.flatMap f).length ≤ m * l.length
  | [] => by simp
  | a :: l => by
    have h1 := lenFM f m h l
    have h2 := h a
    rw [List.flatMap_cons, List.length_append, List.length_cons, Nat.mul_succ]; omega
theorem swE1_len (nodes : List ByteArray) (op : Bool) (s : Sw) : (swE1 nodes op s).length ≤ 1 := by unfold swE1; split <;> simp
theorem edC_len (es : List (Nat × Nat)) : (es.flatMap edC).length = es.length * 2 := flat_len (el := edC) (sz := 2) (fun _ => rfl) es
theorem infoP2 : (Try.prog.info? 83).map (fun i => (i.zero, i.size, i.bytes)) = some (some (.agg #[.int .i64 0, .int .i64 0]), 2, 16) := by kernel_rfl
/-- the state of the loop: two rows of the call's own, in different blocks -/
structure EgS (w0 W : World) (h : NetH) (v6 v7 : Value) (es : List (Nat × Nat)) (ws : List Value) : Prop where
  low : Below w0.heap.size w0 W
  q1 : Blk W w0.heap.size 29 h.cells
  o6 : W.ownsRow (w0.heap.size + 1) 83 2 v6 es.length (es.flatMap edC)
  o7 : W.ownsRow (w0.heap.size + 1) 3 1 v7 ws.length ws
  ap : v7.ownBlock = none ∨ v7.ownBlock ≠ v6.ownBlock
  sz : w0.heap.size + 1 ≤ W.heap.size
theorem own_up {w w' : World} {base e size n : Nat} {v : Value} {xs : List Value} (h : w.ownsRow base e size v n xs) (hb : Below w.heap.size w w') : w'.ownsRow base e size v n xs := by
  refine ⟨h.1, ?_⟩
  rcases h.2 with h1 | ⟨g, cap, cur, h1, h2, h3, h4⟩
  · exact .inl h1
  · refine .inr ⟨g, cap, cur, h1, h2, ?_, h4⟩
    have hg : g < w.heap.size := by
      rcases Nat.lt_or_ge g w.heap.size with hlt | hge
      · exact hlt
      · rw [Array.getElem?_eq_none hge] at h3; cases h3
    exact (hb.block g hg).trans h3
theorem EgS.up {w0 W W' : World} {h : NetH} {v6 v7 : Value} {es : List (Nat × Nat)} {ws : List Value} (H : EgS w0 W h v6 v7 es ws) (hb : Below W.heap.size W W') : EgS w0 W' h v6 v7 es ws :=
  ⟨H.low.trans (hb.mono H.low.size), H.q1.below hb H.q1.lt, own_up H.o6 hb, own_up H.o7 hb, H.ap, Nat.le_trans H.sz hb.size⟩
theorem own_far {w : World} {B e size n g : Nat} {v : Value} {xs : List Value} (h : w.ownsRow B e size v n xs) (hg : v.ownBlock = some g) : B ≤ g ∧ g < w.heap.size := h.lt g hg
/-- a pair is appended: v6's own row grows -/
theorem EgS.app6 {w0 W W' W1 : World} {h : NetH} {v6 v7 : Value} {es : List (Nat × Nat)} {ws : List Value} (H : EgS w0 W h v6 v7 es ws) (hb : Below W.heap.size W W') {p : Nat × Nat} {g cap : Nat}
    (ho : W1.ownsRow (w0.heap.size + 1) 83 2 (.slice (some ⟨g, 0, none⟩) (es.length + 1) cap) (es.length + 1) (es.flatMap edC ++ edC p)) (hg : W'.grownBy W1 v6.ownBlock) (hat : v6.ownBlock = some g ∨ g = W'.heap.size) :
    EgS w0 W1 h (.slice (some ⟨g, 0, none⟩) (es.length + 1) cap) v7 (es ++ [p]) ws := by
  have H' := H.up hb
  have hne : v7.ownBlock = none ∨ v7.ownBlock ≠ v6.ownBlock := H'.ap
  have hlow : Below w0.heap.size w0 W1 := by
    refine ⟨hg.os.trans H'.low.os, hg.tape.trans H'.low.tape, hg.output.trans H'.low.output, Nat.le_trans H'.low.size hg.size, fun i hi => ?_⟩
    have hne : some i ≠ v6.ownBlock := fun e => by have := (own_far H'.o6 e.symm).1; omega
    exact (hg.block i (by have := H'.sz; omega) hne).trans (H'.low.block i hi)
  refine ⟨hlow, H'.q1.grown hg (fun e => ?_), ?_, H'.o7.kept hg hne, ?_, Nat.le_trans H'.sz hg.size⟩
  · have := (own_far H'.o6 e.symm).1; omega
  · rw [List.length_append, List.flatMap_append]
    simpa [edC] using ho
  · rcases hne with h1 | h1
    · exact .inl h1
    · right
      intro e
      rcases hat with h2 | h2
      · rw [h2] at h1; exact h1 e
      · have h3 : v7.ownBlock = some g := e
        have := (own_far H'.o7 h3).2; omega
/-- an index is appended: v7's own row grows -/
theorem EgS.app7 {w0 W W' W1 : World} {h : NetH} {v6 v7 : Value} {es : List (Nat × Nat)} {ws : List Value} (H : EgS w0 W h v6 v7 es ws) (hb : Below W.heap.size W W') {u : Value} {g cap : Nat}
    (ho : W1.ownsRow (w0.heap.size + 1) 3 1 (.slice (some ⟨g, 0, none⟩) (ws.length + 1) cap) (ws.length + 1) (ws ++ [u])) (hg : W'.grownBy W1 v7.ownBlock) (hat : v7.ownBlock = some g ∨ g = W'.heap.size) :
    EgS w0 W1 h v6 (.slice (some ⟨g, 0, none⟩) (ws.length + 1) cap) es (ws ++ [u]) := by
  have H' := H.up hb
  have hap := H'.ap
  have hne : v6.ownBlock = none ∨ v6.ownBlock ≠ v7.ownBlock := by
    rcases hap with h1 | h1
    · rw [h1]
      cases h6 : v6.ownBlock with
      | none => exact .inl rfl
      | some k => exact .inr (by simp)
    · exact .inr (Ne.symm h1)
  have hlow : Below w0.heap.size w0 W1 := by
    refine ⟨hg.os.trans H'.low.os, hg.tape.trans H'.low.tape, hg.output.trans H'.low.output, Nat.le_trans H'.low.size hg.size, fun i hi => ?_⟩
    have hne : some i ≠ v7.ownBlock := fun e => by have := (own_far H'.o7 e.symm).1; omega
    exact (hg.block i (by have := H'.sz; omega) hne).trans (H'.low.block i hi)
  refine ⟨hlow, H'.q1.grown hg (fun e => ?_), H'.o6.kept hg hne, by rw [List.length_append]; exact ho, ?_, Nat.le_trans H'.sz hg.size⟩
  · have := (own_far H'.o7 e.symm).1; omega
  · right
    intro e
    rcases hat with h2 | h2
    · rcases hap with h1 | h1
      · rw [h1] at h2; cases h2
      · rw [h2] at h1; exact h1 e
    · have h3 : v6.ownBlock = some g := e.symm
      have := (own_far H'.o6 h3).2; omega
theorem nodeIx {nodes : List ByteArray} {s : ByteArray} (hs : s ∈ nodes) : idxGo (fun x => sEq s x) nodes 0 = ((ndIdx nodes s : Nat) : Int) := (ndIdx_ok hs).1
theorem pr_news (w : World) (p : Nat × Nat) (t : TypeId) : ∀ (j : Nat) (u : Value), (edC p)[j]? = some u → ((w.alloc (.cells #[.int .i64 p.1, .int .i64 p.2] t)).drew).cell? ((⟨w.heap.size, 0, none⟩ : Addr).add j) = some u :=
  World.news_of_block (w := (w.alloc (.cells #[.int .i64 p.1, .int .i64 p.2] t)).drew) (B := w.heap.size) (cs := #[.int .i64 p.1, .int .i64 p.2]) (t := t) (fr := (0, 0)) (Blk.new w t _)
theorem pr_one (p : Nat × Nat) : ∀ u ∈ edC p, u.oneCell' = true := by
  intro u hu
  unfold edC at hu
  simp at hu
  rcases hu with rfl | rfl <;> rfl
theorem cellAl {w : World} {b o : Nat} {v : Value} {ob : Obj} (h : w.cell? ⟨b, o, none⟩ = some v) (hb : b < w.heap.size) : (w.alloc ob).cell? ⟨b, o, none⟩ = some v := by
  rw [((Below.refl w.heap.size w).alloc (Nat.le_refl _) ob).cell (p := ⟨b, o, none⟩) hb]; exact h
def EdgP (x : Net) (op : Bool) (w : World) (e : Ending) (w' : World) : Prop :=
  Below w.heap.size w w' ∧ ∃ (v6 v7 : Value), e = .returned (.tuple #[v6, v7]) ∧ w'.ownsRow (w.heap.size + 1) 83 2 v6 (swE x op).length ((swE x op).flatMap edC)
theorem edgP_of (x : Net) (op : Bool) (w : World) (e : Ending) (w' : World) (h : Below w.heap.size w w' ∧ ∃ (v6 v7 : Value), e = .returned (.tuple #[v6, v7]) ∧ w'.ownsRow (w.heap.size + 1) 83 2 v6 (swE x op).length ((swE x op).flatMap edC)) : EdgP x op w e w' := h
set_option maxRecDepth 100000 in
set_option maxHeartbeats 8000000 in
theorem edges_any (h : NetH) (x : Net) (ok : NetOk x) (op : Bool) (w : World) (hR : RdNet w w.heap.size h x) :
    Calls Try.prog 124 #[.agg h.cells, .bool op] w (EdgP x op w) := by
  obtain ⟨A0, n0, c0, A1, n1, c1, A2, n2, c2, A3, n3, c3, A4, n4, c4, A5, n5, c5⟩ := h
  dsimp only [NetH.cells] at *
  have HOK := Lib.hid ok
  have HR := Lib.hid hR
  have HP := Lib.hid (edgP_of x op w)
  obtain ⟨i0, hi0, hi1, hi2, hi3⟩ := info_parts infoP2
  have HI0 := Lib.hid hi0
  have HI1 := Lib.hid hi1
  have HI2 := Lib.hid hi2
  have HI3 := Lib.hid hi3
  obtain ⟨j0, hj0, hj1, hj2, hj3⟩ := info_parts infoIn
  have HJ0 := Lib.hid hj0
  have HJ1 := Lib.hid hj1
  have HJ2 := Lib.hid hj2
  have HJ3 := Lib.hid hj3
  have HN1 : Hid (x.sws.length = n1) := Lib.hid hR.r1.1
  have hn132 : n1 ≤ 32 := by have := ok.l1; have := HN1.out; omega
  have hn63 : n0 ≤ 9223372036854775807 := hR.m0
  have HS0 : Hid (EgS w (w.alloc (.cells #[.slice A0 n0 c0, .slice A1 n1 c1, .slice A2 n2 c2, .slice A3 n3 c3, .slice A4 n4 c4, .slice A5 n5 c5] 29)) ⟨A0, n0, c0, A1, n1, c1, A2, n2, c2, A3, n3, c3, A4, n4, c4, A5, n5, c5⟩ (.slice none 0 0) (.slice none 0 0) [] []) := Lib.hid
    ⟨(Below.refl _ _).alloc (Nat.le_refl _) _, Blk.new w _ _, World.ownsRow_nil _ _ _ _, World.ownsRow_nil _ _ _ _, .inl rfl, by simp⟩
  clear hi0 hi1 hi2 hi3 hj0 hj1 hj2 hj3 ok hR
  obtain ⟨y0, y1, y2, y3, y4, y5, nf, nlt⟩ := net_box (h := ⟨A0, n0, c0, A1, n1, c1, A2, n2, c2, A3, n3, c3, A4, n4, c4, A5, n5, c5⟩) HS0.out.q1
  go_enter Try.func124, Try.ntmps124
  go_wp2_with fail
  generalize w.alloc (.cells #[.slice A0 n0 c0, .slice A1 n1 c1, .slice A2 n2 c2, .slice A3 n3 c3, .slice A4 n4 c4, .slice A5 n5 c5] 29) = w1 at *
  clear y0 y1 y2 y3 y4 y5 nf nlt
  go_loopw [6, 7, 13] (fun v6 v7 i wr => ∃ (k : Nat) (ws : List Value), k ≤ n1 ∧ i = .int .i64 k ∧ ws.length ≤ k ∧ EgS w wr ⟨A0, n0, c0, A1, n1, c1, A2, n2, c2, A3, n3, c3, A4, n4, c4, A5, n5, c5⟩ v6 v7 ((x.sws.take k).flatMap (swE1 x.nodes op)) ws) (fun _ _ i _ => n1 - (intOf i).toNat)
  case atStart => exact ⟨0, [], by omega, rfl, by simp, HS0.out⟩
  case round =>
    clear HS0
    obtain ⟨k, ws, hk, rfl, hwl, hs⟩ := hrel
    have HS := Lib.hid hs
    have HWL := Lib.hid hwl
    obtain ⟨y0, y1, y2, y3, y4, y5, nf, nlt⟩ := net_box hs.q1
    clear hs hwl
    by_cases hlt : k < n1
    · obtain ⟨z, hz⟩ : ∃ z, x.sws[k]? = some z := ⟨_, List.getElem?_eq_getElem (by have := HN1.out; omega)⟩
      have hrw := HR.out.up HS.out.low
      obtain ⟨bz, oz, hA, hbz⟩ := hrw.r1.form (by dsimp only; omega)
      dsimp only at hA
      subst hA
      obtain ⟨e0, e1, e2, e3, e4⟩ := hrw.r1.at_ hz
      have HRN := Lib.hid hrw.r0
      have HZS := Lib.hid (HOK.out.sw z (List.mem_of_getElem? hz))
      have HZ := Lib.hid (takeFM (swE1 x.nodes op) hz)
      have HZL : Hid (((x.sws.take k).flatMap (swE1 x.nodes op)).length ≤ 1000) := Lib.hid (by
        have h1 := lenFM (swE1 x.nodes op) 1 (swE1_len x.nodes op) (x.sws.take k)
        have := HN1.out
        rw [List.length_take] at h1; omega)
      have HWB := Lib.hid ((Below.refl wr.heap.size wr).alloc (Nat.le_refl _) (.cells #[.string z.name, .string z.a, .string z.b, .bool z.breaker, .bool z.opn] 44))
      have HS2 := Lib.hid (HS.out.up HWB.out)
      have HBX : Hid (Blk (wr.alloc (.cells #[.string z.name, .string z.a, .string z.b, .bool z.breaker, .bool z.opn] 44)) wr.heap.size 44 #[.string z.name, .string z.a, .string z.b, .bool z.breaker, .bool z.opn]) := Lib.hid (Blk.new wr _ _)
      have hkI : (k : Int) < (n1 : Int) := by omega
      clear hz hrw
      by_cases hop : z.opn = op
      · have HE1 : Hid (swE1 x.nodes op z = [(ndIdx x.nodes z.a, ndIdx x.nodes z.b)]) := Lib.hid (by unfold swE1; rw [if_pos hop])
        have hop' : (z.opn == op) = true := by simp [hop]
        have HRN2 : Hid (RdStr (wr.alloc (.cells #[.string z.name, .string z.a, .string z.b, .bool z.breaker, .bool z.opn] 44)) (wr.alloc (.cells #[.string z.name, .string z.a, .string z.b, .bool z.breaker, .bool z.opn] 44)).heap.size A0 n0 x.nodes) := Lib.hid ((HRN.out.below HWB.out (Nat.le_refl _)).more HWB.out.size)
        rw [hop] at HS2 HBX HRN2 HWB e4
        clear hop hop'
        go_wp2_with fail
        have hzw : wr.heap.size < (wr.alloc (.cells #[.string z.name, .string z.a, .string z.b, .bool z.breaker, .bool op] 44)).heap.size := by simp
        have hv1 : u6.ownBlock ≠ some w.heap.size := fun e => by have := (HS.out.o6.lt _ e).1; omega
        have hv2 : u6.ownBlock ≠ some wr.heap.size := fun e => by have := (HS.out.o6.lt _ e).2; omega
        clear HWB HS HRN y0 y1 y2 y3 y4 y5 nf nlt e0 e1 e2 e3 e4
        generalize hWW : wr.alloc (.cells #[.string z.name, .string z.a, .string z.b, .bool z.breaker, .bool op] 44) = W at *
        generalize hzb : wr.heap.size = zb at *
        have q0 : W.cell? ⟨w.heap.size, 0, none⟩ = some (.slice A0 n0 c0) := HS2.out.q1.cell 0
        have b1 : W.cell? ⟨zb, 1, none⟩ = some (.string z.a) := HBX.out.cell 1
        have b2 : W.cell? ⟨zb, 2, none⟩ = some (.string z.b) := HBX.out.cell 2
        have hsa : z.a ∈ x.nodes := HZS.out.1
        have hsb : z.b ∈ x.nodes := HZS.out.2.1
        generalize hE0 : (x.sws.take k).flatMap (swE1 x.nodes op) = E0 at *
        have HEE := Lib.hid hE0
        clear hE0 hWW hzb
        have hbase : w.heap.size + 1 ≤ W.heap.size := HS2.out.sz
        generalize u6 = v6 at *
        refine wp_region_last (S := fun w' => w'.cell? ⟨w.heap.size, 0, none⟩ = some (.slice A0 n0 c0) ∧ w'.cell? ⟨zb, 1, none⟩ = some (.string z.a) ∧ w'.cell? ⟨zb, 2, none⟩ = some (.string z.b)) 14 _ (by kernel_rfl) (by kernel_rfl) rfl ⟨q0, b1, b2⟩ (fun hHeld => ?_)
        simp only [List.take_succ_cons, List.take_zero]
        refine takeH 0 (v := ?_) rfl (by kernel_rfl) (fun _ _ _ h => h) (by rfl) ?_ hHeld ?_
        rotate_left 1
        · intro w' hSw; (try dsimp only at hSw); go_simp <;> with_reducible rfl
        try simp only [Act.put, List.setIfInBounds_toArray, List.set_cons_zero, List.set_cons_succ]
        refine takeH 1 (v := ?_) rfl (by kernel_rfl) (fun _ _ _ h => h) (by rfl) ?_ hHeld ?_
        rotate_left 1
        · intro w' hSw; (try dsimp only at hSw); go_simp <;> with_reducible rfl
        try simp only [Act.put, List.setIfInBounds_toArray, List.set_cons_zero, List.set_cons_succ]
        refine takeH 2 (v := ?_) rfl (by kernel_rfl) (fun _ _ _ h => h) (by rfl) ?_ hHeld ?_
        rotate_left 1
        · intro w' hSw; (try dsimp only at hSw); go_simp <;> with_reducible rfl
        try simp only [Act.put, List.setIfInBounds_toArray, List.set_cons_zero, List.set_cons_succ]
        refine takeH 3 (v := ?_) rfl (by kernel_rfl) (fun _ _ _ h => h) (by rfl) ?_ hHeld ?_
        rotate_left 1
        · intro w' hSw; (try dsimp only at hSw); go_simp <;> with_reducible rfl
        try simp only [Act.put, List.setIfInBounds_toArray, List.set_cons_zero, List.set_cons_succ]
        refine takeH 4 (v := ?_) rfl (by kernel_rfl) (fun _ _ _ h => h) (by rfl) ?_ hHeld ?_
        rotate_left 1
        · intro w' hSw; (try dsimp only at hSw); go_simp <;> with_reducible rfl
        try simp only [Act.put, List.setIfInBounds_toArray, List.set_cons_zero, List.set_cons_succ]
        refine takeH 6 (v := ?_) rfl (by kernel_rfl) (fun _ _ _ h => h) (by rfl) ?_ hHeld ?_
        rotate_left 1
        · intro w' hSw; (try dsimp only at hSw); go_simp <;> with_reducible rfl
        try simp only [Act.put, List.setIfInBounds_toArray, List.set_cons_zero, List.set_cons_succ]
        refine takeH 7 (v := ?_) rfl (by kernel_rfl) (fun _ _ _ h => h) (by rfl) ?_ hHeld ?_
        rotate_left 1
        · intro w' hSw; (try dsimp only at hSw); go_simp <;> with_reducible rfl
        try simp only [Act.put, List.setIfInBounds_toArray, List.set_cons_zero, List.set_cons_succ]
        refine takeH 8 (v := ?_) rfl (by kernel_rfl) (fun _ _ _ h => h) (by rfl) ?_ hHeld ?_
        rotate_left 1
        · intro w' hSw; (try dsimp only at hSw); go_simp <;> with_reducible rfl
        try simp only [Act.put, List.setIfInBounds_toArray, List.set_cons_zero, List.set_cons_succ]
        refine takeH 9 (v := ?_) rfl (by kernel_rfl) (fun _ _ _ h => h) (by rfl) ?_ hHeld ?_
        rotate_left 1
        · intro w' hSw; (try dsimp only at hSw); go_simp <;> with_reducible rfl
        try simp only [Act.put, List.setIfInBounds_toArray, List.set_cons_zero, List.set_cons_succ]
        refine stepH 5 (by kernel_rfl) rfl (fun K hK => ?_)
        go_simp
        refine (index_str A0 n0 c0 x.nodes z.a W.drew HRN2.out hn63).mono ?_
        rw [nodeIx hsa]
        rintro e w' ⟨rfl, rfl⟩
        go_simp
        refine hK.out _ _ ?_ (fun hHeld => ?_)
        · exact hHeld
        clear hK K
        try simp only [Act.put, List.setIfInBounds_toArray, List.set_cons_zero, List.set_cons_succ]
        refine stepH 10 (by kernel_rfl) rfl (fun K hK => ?_)
        go_simp
        refine (index_str A0 n0 c0 x.nodes z.b W.drew HRN2.out hn63).mono ?_
        rw [nodeIx hsb]
        rintro e w' ⟨rfl, rfl⟩
        go_simp
        refine hK.out _ _ ?_ (fun hHeld => ?_)
        · exact hHeld
        clear hK K
        try simp only [Act.put, List.setIfInBounds_toArray, List.set_cons_zero, List.set_cons_succ]
        refine takeH 11 (v := ?_) rfl (by kernel_rfl) (fun _ _ _ h => h) (by rfl) ?_ hHeld ?_
        rotate_left 1
        · intro w' hSw; (try dsimp only at hSw); go_simp <;> with_reducible rfl
        try simp only [Act.put, List.setIfInBounds_toArray, List.set_cons_zero, List.set_cons_succ]
        refine stepH 12 (by kernel_rfl) rfl (fun K hK => ?_)
        go_simp
        refine hK.out _ _ ?_ (fun hHeld => ?_)
        · exact ⟨cellAl q0 (by omega), cellAl b1 (by omega), cellAl b2 (by omega)⟩
        clear hK K
        try simp only [Act.put, List.setIfInBounds_toArray, List.set_cons_zero, List.set_cons_succ]
        refine stepH 13 (by kernel_rfl) rfl (fun K hK => ?_)
        refine step_append_lies _ (by rfl) _ _ _ (by rfl) (w.heap.size + 1) 83 i0 _ 2 16 Try.underlying76 HI0.out HI1.out HI2.out HI3.out rfl (by omega) v6 _ _ (by rfl) ((HS2.out.o6.alloc _).drew) ⟨W.heap.size, 0, none⟩ 1 1 (edC (ndIdx x.nodes z.a, ndIdx x.nodes z.b)) (by rfl) (by rfl) (pr_news W (ndIdx x.nodes z.a, ndIdx x.nodes z.b) 83) (pr_one _) (by omega) (by have := HZL.out; simp only [maxLen]; omega) (by have := HZL.out; omega) (by simp; omega) (W.heap.size + 1) (by simp) ?_
        intro gg cap w1 hown1 hgrow hat hlt1
        refine hK.out _ _ ?_ (fun hHeld => ?_)
        · exact ⟨(hgrow.cell_far ⟨w.heap.size, 0, none⟩ (by simp; omega) (Ne.symm hv1)).trans (cellAl q0 (by omega)), (hgrow.cell_far ⟨zb, 1, none⟩ (by simp; omega) (Ne.symm hv2)).trans (cellAl b1 (by omega)), (hgrow.cell_far ⟨zb, 2, none⟩ (by simp; omega) (Ne.symm hv2)).trans (cellAl b2 (by omega))⟩
        clear hK K
        try simp only [Act.put, List.setIfInBounds_toArray, List.set_cons_zero, List.set_cons_succ]
        refine wpAnyH_done (by kernel_rfl) ?_ _
        refine lastQ_go (by rfl) ?_
        have HS5 := Lib.hid (HS2.out.app6 (below_drew ((Below.refl _ _).alloc (Nat.le_refl _) _)) hown1 hgrow (by simpa using hat))
        clear hgrow hat hown1 hHeld
        have hJL : ws.length ≤ 1000 := by have := HWL.out; omega
        generalize hv6 : (Value.slice (some (⟨gg, 0, none⟩ : Addr)) (E0.length + 1) cap) = v6' at HS5 ⊢
        have HV6 := Lib.hid hv6
        clear hv6
        have hb5 : w.heap.size + 1 ≤ w1.heap.size := HS5.out.sz
        have HN5 : Hid (∀ (j : Nat) (u : Value), ([Value.int .i64 k] : List Value)[j]? = some u → ((w1.alloc (.cells #[.int .i64 k] 3))).cell? ((⟨w1.heap.size, 0, none⟩ : Addr).add j) = some u) := Lib.hid (World.news_of_block (B := w1.heap.size) (cs := #[.int .i64 k]) (t := 3) (fr := (0, 0)) (Blk.new w1 _ _))
        go_simp
        go_wp2_with (at_builtin; refine wpList_append_lies _ rfl (.tmp 36) (.tmp 38) 61 rfl (w.heap.size + 1) 3 j0 _ 1 8 Try.underlying61 HJ0.out HJ1.out HJ2.out HJ3.out rfl (by omega) u7 _ _ rfl (HS5.out.o7.alloc _) ⟨w1.heap.size, 0, none⟩ 1 1 [.int .i64 k] rfl rfl HN5.out (by intro u hu; rw [List.mem_singleton.1 hu]; rfl) (by omega) (by simp only [maxLen]; omega) (by omega) (by simp; omega) (w1.heap.size + 1) (by simp) ?_; intro g2 cap2 w2 hown2 hgrow2 hat2 hlt2)
        have HS6 := Lib.hid (HS5.out.app7 ((Below.refl _ _).alloc (Nat.le_refl _) _) hown2 hgrow2 (by simpa using hat2))
        clear hown2 hgrow2 hat2
        go_roundw
        case rel => exact ⟨k + 1, ws ++ [.int .i64 k], by omega, by go_num, by rw [List.length_append, List.length_singleton]; have := HWL.out; omega, by rw [HZ.out, HE1.out]; exact HS6.out⟩
        case measure => simp [intOf]; omega
      · have HE1 : Hid (swE1 x.nodes op z = []) := Lib.hid (by unfold swE1; rw [if_neg hop])
        have hop' : (z.opn == op) = false := by simpa using hop
        generalize z.opn = zo at *
        clear hop
        go_wp2_with fail
        go_roundw
        case rel => exact ⟨k + 1, ws, by omega, by go_num, by have := HWL.out; omega, by rw [HZ.out, HE1.out, List.append_nil]; exact HS2.out⟩
        case measure => simp [intOf]; omega
    · have hkk : n1 = k := by omega
      subst hkk
      have HFIN : Hid (x.sws.take n1 = x.sws) := Lib.hid (List.take_of_length_le (by have := HN1.out; omega))
      go_wp2_with fail
      go_ret2
      have h := HS.out
      rw [HFIN.out] at h
      exact HP.out _ _ ⟨h.low, _, _, rfl, h.o6⟩
end Go.Proofs.Ythedpegaelpbdaa
